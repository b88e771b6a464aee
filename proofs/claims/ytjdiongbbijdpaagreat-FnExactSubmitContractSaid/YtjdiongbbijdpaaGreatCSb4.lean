/- WHAT IS PROVED: parts of the proof of fnExactSubmitContract_holds: a frame for walks, what each Go function that it reaches answers, and plain lemmas; no condition beyond those that each theorem names. -/
import Derived.Test.YtjdiongbbijdpaaGreatCSb3
import Derived.WalkKit
import Derived.OrdersHeld
import Derived.DeepKeys
import Derived.Maps.RangeWalk
import Derived.Maps.OwnOps
import Derived.WideKeyEntry
import Derived.Orders
import Derived.Deep.Slices
import Derived.ChangeArms
import Derived.WideShapes
import Derived.Sort.AssemblyPlain
import Derived.Lib.SlicesCompact
set_option linter.unusedVariables false
set_option linter.unusedSimpArgs false
section
namespace Go.Sx
open Go.RowKit (Below)
section
variable {g : Bool} {P : Program} {F : TT} {σ : St} {o : Oper} {K : St → Prop}
theorem z38 {x : Operand} {f : AV → R} (h : (evR σ x f).holds P K) : ∃ av, ev σ x = some av ∧ (f av).holds P K := by
 unfold evR at h; split at h
 · rename_i av hav; exact ⟨av, hav, h⟩
 · exact h.elim
theorem y44 {z : AV} (h : y8e z = true) : qbs z := by cases z <;> first | trivial | cases h
theorem zc4 {z : AV} (h : y8e z = true) : (match (generalizing := false) z with | .tup _ => False | _ => True) := by cases z <;> first | trivial | cases h
theorem y4j {x : Option Operand} {r : Option Int} (h : zah x σ = some r) : y3c x σ = some r := h
theorem y6k {x : Operand} {K' : AV → Prop} (h : (evR σ x fun av => q0v σ o.dst av).holds P K) (hK : ∀ av, K (σ.put o.dst av) → K' av) : evK σ x K' := by
 obtain ⟨av, h1, h2⟩ := z38 h; unfold evK; rw [h1]; exact hK _ (z1r.1 h2)
theorem zak {t : Nat} {av : AV} {f : Value → R} {K' : Value → Prop} (hF : F = F.map P) (hf : ∀ v, (f v).holds P K → K' v) (h : (qc0 F σ t av f).holds P K) : zc1 P t σ av K' := by
 unfold qc0 at h; split at h
 · obtain ⟨_, h1, h2⟩ := zi h; exact ⟨by rw [q0m hF h1]; rfl, hf _ h2⟩
 · obtain ⟨_, h1, h2⟩ := zi h; exact ⟨by rw [q0m hF h1]; rfl, hf _ h2⟩
 · obtain ⟨_, h1, h2⟩ := zi h; exact ⟨by rw [q0m hF h1]; rfl, hf _ h2⟩
 · obtain ⟨_, h1, h2⟩ := zi h; exact ⟨by rw [q0m hF h1]; rfl, hf _ h2⟩
 · obtain ⟨h1, h2⟩ := yc h; exact ⟨z4b hF h1, hf _ h2⟩
 · obtain ⟨_, h1, h2⟩ := zi h
   refine ⟨by rw [q0m hF h1]; rfl, ?_⟩; split at h2
   · rename_i full sz ep rows hg
     obtain ⟨h3, row, h4, h5⟩ := h2; rw [hg]; refine ⟨h3, ?_⟩; rw [h4]; dsimp only at h5 ⊢; split at h5
     · rename_i rs hrs; rw [z2b] at hrs; rw [hrs]; exact hf _ h5
     · exact h5.elim
   · exact h2.elim
 · exact h.elim
theorem qc1 {av : AV} {ag : Bool} {n : Nat} (h : (q6i σ av fun cs => (match ag with
 | true => zu (q3u n cs) (y0j (force (cs.take n)) fun cs => q0v σ o.dst (.agg cs))
 | false => (match cs with | [] => .fail | c :: _ => q0v σ o.dst (.one c)))).holds P K) : z1x σ av fun cs => match q42 ag n cs with | some r => K (σ.put o.dst r) | none => False := by
 refine q7s (fun cs h => ?_) h; split at h
 · obtain ⟨h1, h2⟩ := yc h
   obtain ⟨cs', h3, h4⟩ := zi h2; rw [force_eq h3] at h4; simp only [q42, if_true, if_pos (y0y h1)]; exact z1r.1 h4
 · split at h
   · exact h.elim
   · exact z1r.1 h
theorem yes {av : AV} (h : (q0v σ o.dst av).holds P K) : K (σ.put o.dst av) := z1r.1 h
theorem z8v {d : Option Tmp} {cs : List AC} (h : (qbt σ d cs).holds P K) : y1i σ d cs K := by
 unfold qbt at h; unfold y1i; split at h
 · split at h
   · rename_i hn; dsimp only; rw [hn]; exact yv h
   · exact h.elim
 · exact h.elim
theorem yak (hF : F = F.map P) {t n : Nat} {ps : List (Nat × Operand)} {d : Option Tmp} (h : (yc1 F σ t n ps d).holds P K) : ybd P σ t n ps d K := by
 unfold yc1 at h; unfold ybd; split at h
 · rename_i d sz by_ rws h1 h2
   rw [q03 hF h1, q3g h2]; dsimp only; split at h
   · rename_i hn
     rw [hn]; dsimp only; obtain ⟨g1, h⟩ := yc h; obtain ⟨g2, h⟩ := yc h; obtain ⟨g3, h⟩ := yc h; obtain ⟨g4, h⟩ := yc h; obtain ⟨g5, h⟩ := yc h; obtain ⟨g6, h⟩ := h; obtain ⟨rs, g7, h⟩ := zi h; rw [z4h] at g4 g5; have h := yv h; rw [z4h, q2z, z6o g7] at h; rw [q2z] at g6; exact ⟨z16 g1, Nat.le_of_ble_eq_true g2, z4w g3, z6 g4, z30 (q3f g5), g6, h⟩
   · exact h.elim
 · exact h.elim
theorem qak (hF : F = F.map P) {t : Nat} {l c : Operand} {d : Option Tmp} (h : (zc2 F σ t l c d).holds P K) : q8b P σ t l c d K := by
 unfold zc2 at h; unfold q8b; split at h
 · rename_i d sz by_ zrow k n k' n' h1 h2 h3 h4
   rw [q03 hF h1, q7m hF h2, h3, h4]; dsimp only; split at h
   · rename_i hn
     rw [hn]; dsimp only; obtain ⟨g1, g2, g3, g4, g5, h⟩ := yc h; exact ⟨g2, g3, g4, g5, z16 g1, yv h⟩
   · exact h.elim
 · exact h.elim
theorem y8o (hF : F = F.map P) {t : Nat} {β m i k : Nat} {x : AV} (h : (q5i F σ t (.one (.e β m i k)) x).holds P K) : z5i P σ t (.one (.e β m i k)) x K := by
 unfold q5i at h; unfold z5i; split at h
 · rename_i n β m i k x h1 he
   cases he; rw [z2x hF h1]; dsimp only; split at h
   · rename_i full sz ep rows hg
     rw [hg]; dsimp only; obtain ⟨g1, h⟩ := yc h; obtain ⟨g2, h⟩ := yc h; obtain ⟨g3, h⟩ := yc h; obtain ⟨g4, h⟩ := yc h; obtain ⟨g5, row, g6, g7, g8, h⟩ := h; obtain ⟨xs, g9, h⟩ := zi h; have h := yv h; rw [z4h] at g3 g4 h; rw [y4l g9] at h; refine ⟨g5, ?_⟩; rw [g6]; refine ⟨z16 g2, ?_, g7, z6 g3, z30 (q3f g4), g8, h⟩; exact zc4 g1
   · exact h.elim
 · rename_i he; cases he
 · rename_i he; cases he
 · exact h.elim
theorem q8o (hF : F = F.map P) {t : Nat} {p x : AV} (hne : ∀ β m i k, p ≠ .one (.e β m i k)) (h : (q5i F σ t p x).holds P K) : y5i P σ t p x K := by
 unfold q5i at h; unfold y5i; split at h
 · exact absurd Y (hne _ _ _ _)
 · rename_i β off c h1
   split at h
   · rename_i cs hg
     simp only [z2x hF h1, hg]; obtain ⟨g1, h⟩ := yc h; obtain ⟨cs', g2, h⟩ := zi h; rw [force_eq g2] at h; exact ⟨y0y g1, yv h⟩
   · exact h.elim
 · rename_i n β off xs h1
   split at h
   · rename_i cs hg
     simp only [z2x hF h1, hg]; obtain ⟨g0, h⟩ := yc h; obtain ⟨g1, h⟩ := yc h; obtain ⟨cs', g2, h⟩ := zi h; rw [force_eq g2] at h; exact ⟨z16 g0, y0y g1, yv h⟩
   · exact h.elim
 · exact h.elim
theorem z91 (hF : F = F.map P) {c : Call} (ho : o.op = .call c) (h : (za8 g F σ o c).holds P K) : opL g P σ o K := by
 unfold za8 at h; split at h
 · rename_i hc
   simp only [opL, ho, hc, opY]; split at h
   · rename_i t _ x ht hx
     obtain ⟨av, h1, h2⟩ := z38 h; rw [ht, hx]; simp only [evK, h1]; exact zak hF (fun v hv => yes hv) h2
   · exact h.elim
 · rename_i hc
   simp only [opL, ho, hc]; split at h
   · rename_i t tx s x d ht hx hd
     unfold zbq; rw [ht, hx, hd]; dsimp only; split at h
     · rename_i sz by_ p β n γ m e1 e2 e3 e4
       rw [q03 hF e1, q03 hF e2, e3, e4]; dsimp only; split at h
       · rename_i full0 sz0 ep rows0 full sz1 ep1 rows e5 e6
         rw [e5, e6]; dsimp only; obtain ⟨g1, h⟩ := yc h; obtain ⟨g2, h⟩ := yc h; obtain ⟨g3, h⟩ := yc h; obtain ⟨g4, g5, h⟩ := h; refine ⟨g4, g5, Nat.eq_of_beq_eq_true g1, Nat.eq_of_beq_eq_true g2, Nat.ne_of_beq_eq_false (q3f g3), ?_⟩; split at h
         · obtain ⟨g6, g7, g8, h⟩ := h
           exact ⟨g7, g8, false, .inl Y, .inr ⟨Y, g6⟩, yv h⟩
         · obtain ⟨g6, g7, g8, h⟩ := h
           exact ⟨g7, g8, _, g6, .inl Y, yv h⟩
       · exact h.elim
     · rename_i sz by_ p β n rows e1 e2 e3 e4
       rw [q03 hF e1, q03 hF e2, e3, e4]; dsimp only; split at h
       · rename_i full0 sz0 ep rows0 e5
         rw [e5]; dsimp only; obtain ⟨g1, h⟩ := yc h; obtain ⟨g4, g5, h⟩ := h; refine ⟨g4, Nat.eq_of_beq_eq_true g1, g5, ?_⟩; split at h
         · rename_i e6
           obtain ⟨g7, g8, h⟩ := h; exact ⟨g7, g8, false, .inr (z8t e6), nofun, yv h⟩
         · obtain ⟨g6, g7, g8, h⟩ := h
           exact ⟨g7, g8, _, .inl Y, g6, yv h⟩
       · exact h.elim
     · rename_i sz by_ p γ m e1 e2 e3 e4
       rw [q03 hF e1, q03 hF e2, e3, e4]; dsimp only; split at h
       · rename_i full sz1 ep1 rows e5 e6
         rw [e5, e6]; dsimp only; obtain ⟨g1, h⟩ := yc h; obtain ⟨g2, h⟩ := yc h; obtain ⟨g4, g5, g6, h⟩ := h; exact ⟨g4, Nat.eq_of_beq_eq_true g1, Nat.ne_of_beq_eq_false (q3f g2), g5, g6, yv h⟩
       · exact h.elim
     · rename_i sz by_ p γ m e1 e2 e3 e4
       rw [q03 hF e1, q03 hF e2, e3, e4]; dsimp only; split at h
       · rename_i full sz1 ep1 rows e5 e6
         rw [e5, e6]; dsimp only; obtain ⟨g1, h⟩ := yc h; obtain ⟨g2, h⟩ := yc h; obtain ⟨g4, g5, g6, h⟩ := h; exact ⟨g4, Nat.eq_of_beq_eq_true g1, Nat.ne_of_beq_eq_false (q3f g2), g5, g6, yv h⟩
       · exact h.elim
     · rename_i sz by_ p rows e1 e2 e3 e4
       rw [q03 hF e1, q03 hF e2, e3, e4]; dsimp only; split at h
       · rename_i e5
         rw [e5]; dsimp only; obtain ⟨g4, g5, g6, g7, h⟩ := h; exact ⟨g4, g5, g6, g7, yv h⟩
       · exact h.elim
     · rename_i sz by_ p rows e1 e2 e3 e4
       rw [q03 hF e1, q03 hF e2, e3, e4]; dsimp only; split at h
       · rename_i e5
         rw [e5]; dsimp only; obtain ⟨g4, g5, g6, g7, h⟩ := h; exact ⟨g4, g5, g6, g7, yv h⟩
       · exact h.elim
     · exact h.elim
   · exact h.elim
 · rename_i x hc
   simp only [opL, ho, hc]; split at h
   · rename_i f caps avs e1 e2
     rw [e1, e2]; obtain ⟨avs', h1, h2⟩ := zi h; rw [force_eq h1] at h2; exact h2
   · rename_i f caps avs e1 e2
     rw [e1, e2]; obtain ⟨avs', h1, h2⟩ := zi h; rw [force_eq h1] at h2; exact h2
   · rename_i f β off avs e1 e2
     rw [e1, e2]; exact h
   · rename_i f ag row avs e1 e2
     rw [e1, e2]; exact h
   · exact h.elim
 · rename_i hc
   simp only [opL, ho, hc, opY]; split at h
   · rename_i x y hx
     rw [hx]; dsimp only; split at h
     · rename_i e1 e2; rw [e1, e2]; exact yes h
     · exact h.elim
   · rename_i x y z t hx
     rw [hx]; dsimp only; split at h
     · rename_i e1 e2 e3 e4; rw [e1, e2, e3, e4]; exact yes h
     · exact h.elim
   · exact h.elim
 · rename_i hc
   simp only [opL, ho, hc, opY]; split at h
   · rename_i x y hx
     rw [hx]; dsimp only; split at h
     · rename_i e1 e2; rw [e1, e2]; exact yes h
     · exact h.elim
   · exact h.elim
 · exact h
theorem y9y (hF : F = F.map P) (h : (opR g F σ o).holds P K) : opL g P σ o K := by
 unfold opR at h; split at h
 case h_1 x ho => simp only [opL, ho, opY]; exact y6k h (fun _ hk => hk)
 case h_2 x ho => simp only [opL, ho, opY]; exact y6k h (fun _ hk => hk)
 case h_3 c x y ho =>
  simp only [opL, ho, opY]; split at h
  · rename_i t ht
    rw [ht]; exact ⟨fun hb => y6k (x := if (true : Bool) then x else y) (h.1 hb) (fun _ hk => hk), fun hb => y6k (x := if (false : Bool) then x else y) (h.2 hb) (fun _ hk => hk)⟩
  · exact h.elim
 case h_4 t x ho =>
  simp only [opL, ho, opY]; split at h
  · rename_i av ag n h1 h2
    rw [h1, z2x hF h2]; exact qc1 h
  · exact h.elim
 case h_5 op t x y yt ho =>
  split at h
  · rename_i p q h1 h2
    simp only [opL, ho, opY, h1, h2]; obtain ⟨g1, h⟩ := yc h; refine ⟨z8y hF g1, ?_⟩; unfold y7r; split at h
    · exact yes h
    · exact yes h
    · exact h.elim
  · rename_i u v hne h1 h2
    simp only [opL, ho, opY]; split
    · rename_i e1 e2
      rw [h1] at e1; rw [h2] at e2; cases e1; cases e2; exact (hne _ _ Y Y).elim
    · rename_i u' v' _ e1 e2
      rw [h1] at e1; rw [h2] at e2; cases e1; cases e2; exact za7 (fun v hv => yes hv) h
    · rename_i e1 e2
      rw [h1] at e1; cases e1
    · rename_i e1 e2
      rw [h1] at e1; cases e1
    · rename_i _ hx _ _
      exact (hx _ _ h1 h2).elim
  · rename_i rows h1 h2
    simp only [opL, ho, opY, h1, h2]; obtain ⟨sz, g1, h⟩ := zi h; obtain ⟨e, _, g2, _⟩ := y0x (q0m hF g1); refine ⟨⟨e, g2⟩, fun b hb => ?_⟩; split at h
    · exact yes (h b hb)
    · exact yes (h b hb)
    · exact h.elim
  · rename_i cs cs' h1 h2
    simp only [opL, ho, opY, h1, h2]; obtain ⟨ks, g1, h⟩ := zi h; obtain ⟨xs, g2, h⟩ := zi h; obtain ⟨ys, g3, h⟩ := zi h; obtain ⟨g4, h⟩ := yc h; obtain ⟨g5, h⟩ := yc h; simp only [qa4, y8y hF g1, g2, g3]; refine ⟨z3a g4, z3a g5, ?_⟩; split at h
    · exact yes h
    · exact yes h
    · exact h.elim
  · exact h
 case h_6 op t x ho =>
  simp only [opL, ho, opY]; split at h
  · rename_i b hb; rw [hb]; exact yes h
  · rename_i k n hn; rw [hn]; exact yes h
  · exact h.elim
 case h_7 s d x ho =>
  split at h
  · rename_i k0 n k h1 h2
    simp only [opL, ho, opY, h1, ya2 hF h2]; obtain ⟨g1, h⟩ := yc h; exact ⟨z8z hF g1, yes h⟩
  · exact h
 case h_8 s x f ho =>
  simp only [opL, ho, opY]; split at h
  · rename_i row off h1 h2
    rw [h1, y32 hF h2]; obtain ⟨g1, h⟩ := yc h; obtain ⟨r, g2, h⟩ := zi h; rw [force_eq g2] at h; exact ⟨y0y g1, yes h⟩
  · rename_i β i off h1 h2
    rw [h1, y32 hF h2]; exact yes h
  · rename_i β m i k off h1 h2
    rw [h1, y32 hF h2]; exact yes h
  · exact h.elim
 case h_9 s x f ho =>
  simp only [opL, ho, opY]; split at h
  · rename_i cs off n h1 h2
    rw [h1, q2w hF h2]; obtain ⟨g1, h⟩ := yc h; obtain ⟨r, g2, h⟩ := zi h; rw [force_eq g2] at h; exact ⟨y0y g1, yes h⟩
  · rename_i cs off n h1 h2
    rw [h1, q2w hF h2]; obtain ⟨c, g2, h⟩ := zi h; rw [z2b] at g2; dsimp only; rw [g2]; exact yes h
  · exact h.elim
 case h_10 t x i ho =>
  split at h
  · rename_i rows k n sz h1 h2 h3
    simp only [opL, ho, opY, h1, h2, q0m hF h3]; obtain ⟨g1, row, g2, g3, h⟩ := h; refine ⟨g1, ?_⟩; rw [g2]; exact ⟨g3, yes h⟩
  · rename_i β m k n sz h1 h2 h3
    simp only [opL, ho, opY, h1, h2, q0m hF h3]; split at h
    · rename_i full sz0 ep rows hg
      rw [hg]; obtain ⟨g0, g1, row, g2, g3, h⟩ := h; refine ⟨g0, g1, ?_⟩; rw [g2]; exact ⟨g3, yes h⟩
    · exact h.elim
  · exact h
 case h_11 t x i ho =>
  simp only [opL, ho, opY]; split at h
  · rename_i s k n h1 h2
    rw [h1, h2]; obtain ⟨g1, h⟩ := yc h; obtain ⟨g2, b, g3, h⟩ := h; refine ⟨z4b hF g1, g2, ?_⟩; rw [g3]; exact yes h
  · exact h.elim
 case h_12 t x lo hi ho =>
  split at h
  · rename_i s l hh h1 h2 h3
    simp only [opL, ho, opY, h1, y4j h2, y4j h3]; obtain ⟨g1, g2, g3, g4, h⟩ := yc h; exact ⟨z4b hF g1, g2, g3, g4, yes h⟩
  · rename_i rows l hh h1 h2 h3
    simp only [opL, ho, opY, h1, y4j h2, y4j h3]; obtain ⟨sz, g0, g1, g2, g3, g4, h⟩ := zi h; rw [q0m hF g0]; exact ⟨g1, g2, g3, g4, yes h⟩
  · exact h
 case h_13 x i ho =>
  simp only [opL, ho, opY]; split at h
  · rename_i vs h1
    obtain ⟨av, g1, h⟩ := zi h; rw [z2b] at g1; rw [h1]; dsimp only; rw [g1]; exact yes h
  · exact h.elim
 case h_14 f first caps ho =>
  simp only [opL, ho, opY]; split at h
  · rename_i x hf hc
    rw [hf, hc]; dsimp only; split at h
    · rename_i e1; rw [e1]; exact yes h
    · rename_i e1; rw [e1]; exact yes h
    · rename_i cs e1
      rw [e1]; obtain ⟨l, g1, h⟩ := zi h; dsimp only; rw [g1]; exact yes h
    · exact h.elim
  · rename_i hf
    rw [hf]; dsimp only
    cases hcs : q6y σ caps.toList with
    | some cs =>
      rw [hcs] at h; have e := (z4d (σ := σ) (l := caps.toList)).symm.trans hcs; split
      · rename_i cs' h'
        have := h'.symm.trans e; cases this; exact yes h
      · rename_i h'
        have := h'.symm.trans e; cases this
    | none =>
      rw [hcs] at h; obtain ⟨cs, g1, h⟩ := zi h; have e := (z4d (σ := σ) (l := caps.toList)).symm.trans hcs; have e2 := y6i g1; split
      · rename_i cs' h'
        have := h'.symm.trans e; cases this
      · split
        · rename_i cs' h'
          have := h'.symm.trans e2; cases this; exact yes h
        · rename_i h'
          have := h'.symm.trans e2; cases this
  · exact h.elim
 case h_15 t ps ho =>
  cases g1 : y5n F t with
  | none => rw [g1] at h; exact h
  | some z =>
    rw [g1] at h; simp only [opL, ho, opY]; obtain ⟨cs, g2, h⟩ := zi h; rw [y6v hF g1]; dsimp only; rw [z4g hF g2]; exact yes h
 case h_16 e ho =>
  simp only [opL, ho]; split at h
  · rename_i z hz
    obtain ⟨g1, h⟩ := yc h; rw [z7m hF hz]; exact ⟨y44 g1, z8v h⟩
  · exact h.elim
 case h_17 e x ho =>
  simp only [opL, ho]; split at h
  · rename_i z hz
    obtain ⟨g1, h⟩ := yc h; rw [hz]; exact ⟨y44 g1, z8v h⟩
  · exact h.elim
 case h_18 t p x ho =>
  simp only [opL, ho]; split at h
  · rename_i pv xv hd h1 h2
    refine ⟨hd, ?_⟩; rw [h1, h2]; split
    · rename_i e1 e2; cases e1; cases e2; exact y8o hF h
    · rename_i pv' xv' hne e1 e2
      cases e1; cases e2; exact q8o hF (fun β m i k e => hne β m i k e) h
    · rename_i hx; exact (hx _ _ Y Y).elim
  · exact h.elim
 case h_19 t n ps ho => simp only [opL, ho]; exact yak hF h
 case h_20 t l c ho => simp only [opL, ho]; exact qak hF h
 case h_21 c ho => exact z91 hF ho h
 case h_22 x ho =>
  simp only [opL, ho, opY]; obtain ⟨av, g1, h⟩ := z38 h; rw [g1]; split at h
  · exact yes h
  · exact yes h
  · exact yes h
  · exact h.elim
 case h_23 => exact h
end
inductive Fr where
 | ops (ops : Array Oper) (l : List Oper)
 | op1 (g : Bool) (o : Oper)
 | r (r : R)
 | code (c : Code)
 | blk (id : Nat)
 | lp (J : St → Prop)
 | plan (ops : Array Oper) (LC : List Nat) (p : q6v)
def G (P : Program) (Q : Ex → St → Prop) : List Fr → Option Nat → St → Prop
 | [], none, σ => Q .normal σ
 | [], some i, σ => Q (.exit i) σ
 | .blk j :: st, some i, σ => if i = j then G P Q st none σ else G P Q st (some i) σ
 | _ :: st, some i, σ => G P Q st (some i) σ
 | .ops ops l :: st, none, σ => qao P ops l σ (G P Q st none)
 | .op1 g o :: st, none, σ => opL g P σ o (G P Q st none)
 | .r r :: st, none, _ => r.holds P (G P Q st none)
 | .code c :: st, none, σ => vc P c (fun e σ => match e with | .normal => G P Q st none σ | .exit i => G P Q st (some i) σ | .ret => Q .ret σ) σ
 | .blk _ :: st, none, σ => G P Q st none σ
 | .lp J :: _, none, σ => J σ
 | .plan ops LC p :: st, none, σ => z3i LC P ops p σ (G P Q st none)
inductive T where
 | go (st : List Fr) (σ : St)
 | br (t : Bool) (st : List Fr) (σ : St) (st' : List Fr) (σ' : St)
 | side (p : Prop) (st : List Fr) (σ : St)
 | any (q : Bool → Prop) (f : Bool → R) (st : List Fr)
 | row (rows : List (List Cell)) (i : Nat) (f : List Cell → R) (st : List Fr)
 | byte (s : ByteArray) (i : Nat) (f : UInt8 → R) (st : List Fr)
 | call (g : Bool) (σ : St) (d : Option Tmp) (f : Nat) (avs : List AV) (st : List Fr)
 | raw (g : Bool) (σ : St) (o : Oper) (st : List Fr)
 | loop (b : Code) (st : List Fr) (σ : St)
 | cont (J : St → Prop) (σ : St)
 | draw (id : Nat) (ops : Array Oper) (st : List Fr) (σ : St)
 | both (st st' : List Fr) (σ : St)
 | yes
 | fin (e : Ex) (σ : St)
 | fail
def T.holds (P : Program) (Q : Ex → St → Prop) : T → Prop
 | .go st σ => G P Q st none σ
 | .br t st σ st' σ' => (t = true → G P Q st none σ) ∧ (t = false → G P Q st' none σ')
 | .side p st σ => p ∧ G P Q st none σ
 | .any q f st => ∀ b, q b → (f b).holds P (G P Q st none)
 | .row rows i f st => ∃ row, rows[i]? = some row ∧ (f row).holds P (G P Q st none)
 | .byte s i f st => ∃ b, s[i]? = some b ∧ (f b).holds P (G P Q st none)
 | .call g σ d f avs st => y4a P σ d f avs (G P Q st none) ∨ (g = true ∧ z4a P σ d f avs (G P Q st none))
 | .raw g σ o st => opL g P σ o (G P Q st none)
 | .loop b st σ => vc P (.loop b) (fun e σ => match e with | .normal => G P Q st none σ | .exit i => G P Q st (some i) σ | .ret => Q .ret σ) σ
 | .cont J σ => J σ
 | .draw id ops st σ => vc P (.region id ops true) (fun e σ => match e with | .normal => G P Q st none σ | .exit i => G P Q st (some i) σ | .ret => Q .ret σ) σ
 | .both st st' σ => G P Q st none σ ∧ G P Q st' none σ
 | .yes => True
 | .fin e σ => Q e σ
 | .fail => False
def z8i (i : Nat) : List Fr → Option (List Fr)
 | [] => none
 | .blk j :: st => bif Nat.beq i j then some st else z8i i st
 | _ :: st => z8i i st
def ybw (σ : St) (d : Option Tmp) : St := match σ, d with
 | ⟨t, b⟩, some d => ⟨(d, .tup []) :: t, b⟩
 | σ, none => σ
def skR (σ : St) (d : Option Tmp) : R := match ybw σ d with | ⟨t, b⟩ => (match force t with | some t => .ok ⟨t, b⟩ | none => .fail)
theorem z3m {P : Program} {σ : St} {d : Option Tmp} {K : St → Prop} (h : (skR σ d).holds P K) : K (ybw σ d) := by
 unfold skR at h; split at h; rename_i t b e; split at h
 · rename_i t' ht; rw [force_eq ht] at h; rw [e]; exact h
 · exact h.elim
def y45 (g : Bool) (F : TT) (ops : Array Oper) (o : Oper) (st : List Fr) (σ : St) : T := match o.guard with
    | none => .go (.r (opR g F σ o) :: st) σ
    | some (j, want) => (match nth ops.toList j with
      | some o' => (match o'.dst with
        | some d => (match get σ.t d with
          | some (.one (.b (.s (.bool t)))) => (match want with
            | true => .br t (.op1 g o :: st) (z3u σ (.tmp d) true) (.r (skR (z3u σ (.tmp d) false) o.dst) :: st) ⟨[], []⟩
            | false => .br t (.r (skR (z3u σ (.tmp d) true) o.dst) :: st) ⟨[], []⟩ (.op1 g o :: st) (z3u σ (.tmp d) false))
          | some (.tup []) => .go (.r (skR σ o.dst) :: st) ⟨[], []⟩
          | _ => .fail)
        | none => .fail)
      | none => .fail)
def step (F : TT) : List Fr → St → T
 | [], σ => .fin .normal σ
 | .ops _ [] :: st, σ => .go st σ
 | .ops ops (o :: l) :: st, σ => y45 true F ops o (.ops ops l :: st) σ
 | .op1 g o :: st, σ => .go (.r (opR g F σ o) :: st) σ
 | .r r :: st, σ => (match r with
   | .fail => .fail
   | .ok σ => .go st σ
   | .side p r => .side p (.r r :: st) σ
   | .br t r r' => .br t (.r r :: st) σ (.r r' :: st) σ
   | .any q f => .any q f st
   | .row rows i f => .row rows i f st
   | .byte s i f => .byte s i f st
   | .call g σ d f avs => .call g σ d f avs st
   | .raw g σ o => .raw g σ o st)
 | .code c :: st, σ => (match c with
   | .skip => .go st σ
   | .region id ops draw => (match draw with | true => .draw id ops st σ | false => .go (.ops ops ops.toList :: st) σ)
   | .seq x y => .go (.code x :: .code y :: st) σ
   | .cond c x y => (match ev σ c with
     | some (.one (.b (.s (.bool t)))) => .br t (.code x :: st) (z3u σ c true) (.code y :: st) (z3u σ c false)
     | _ => .fail)
   | .block id b => .go (.code b :: .blk id :: st) σ
   | .loop b => .loop b st σ
   | .exit id => (match z8i id st with | some st => .go st σ | none => .fail)
   | .ret => .fin .ret σ
   | _ => .fail)
 | .blk _ :: st, σ => .go st σ
 | .lp J :: _, σ => .cont J σ
 | .plan ops LC p :: st, σ => (match p with
   | .done => .go st σ
   | .nil => .yes
   | .take i _ p => (match nth ops.toList i with | some o => y45 (LC.contains i) F ops o (.plan ops LC p :: st) σ | none => .fail)
   | .alt i p .nil => (match nth ops.toList i with | some o => y45 (LC.contains i) F ops o (.plan ops LC p :: st) σ | none => .fail)
   | .alt i p q => .both (.plan ops LC (.alt i p .nil) :: st) (.plan ops LC q :: st) σ)
def exec : Nat → TT → List Fr → St → T
 | 0, _, st, σ => .go st σ
 | n + 1, F, st, σ => match step F st σ with
   | .go st σ => exec n F st σ
   | t => t
section
variable {P : Program} {F : TT} {Q : Ex → St → Prop}
theorem z1k {i : Nat} {σ : St} : ∀ {st st' : List Fr}, z8i i st = some st' → G P Q st' none σ → G P Q st (some i) σ
 | [], st', h, _ => by cases h
 | .blk j :: st, st', h, hg => by
   rw [z8i] at h; rw [G]; by_cases hij : i = j
   · subst hij; simp only [Nat.beq_refl, cond_true, Option.some.injEq] at h; subst h; rw [if_pos rfl]; exact hg
   · rw [beq_false hij] at h; rw [if_neg hij]; exact z1k h hg
 | .ops _ _ :: st, st', h, hg => z1k (st := st) h hg
 | .op1 _ _ :: st, st', h, hg => z1k (st := st) h hg
 | .r _ :: st, st', h, hg => z1k (st := st) h hg
 | .code _ :: st, st', h, hg => z1k (st := st) h hg
 | .lp _ :: st, st', h, hg => z1k (st := st) h hg
 | .plan _ _ _ :: st, st', h, hg => z1k (st := st) h hg
theorem y5c {g : Bool} (hF : F = F.map P) {ops : Array Oper} {o : Oper} {st : List Fr} {σ : St} (h : (y45 g F ops o st σ).holds P Q) : z41 ops σ o (fun σ => opL g P σ o (G P Q st none)) (fun σ => q68 σ o.dst (G P Q st none)) := by
 simp only [y45] at h; unfold z41; split at h
 · rename_i hg; rw [hg]; exact y9y hF h
 · rename_i j want hg
   rw [hg]; dsimp only; split at h
   · rename_i o' ho'
     rw [z2b, Array.getElem?_toList] at ho'; split at h
     · rename_i d hd
       rw [ho']; simp only [Option.bind_some, hd]; split at h
       · rename_i t ht
         rw [ht]; dsimp only
         have hsk : ∀ (σ0 : St) (K : St → Prop), K (ybw σ0 o.dst) → q68 σ0 o.dst K := fun σ0 K hk => by
          unfold q68
          cases σ0 with
          | mk t0 b0 =>
          cases hdd : o.dst with
          | none => rw [hdd] at hk; exact hk
          | some d0 =>
            rw [hdd] at hk; exact hk
         cases σ with
         | mk t0 b0 =>
         split at h
         · obtain ⟨h1, h2⟩ := h
           exact ⟨fun hb => by simp only [beq_self_eq_true, if_true]; exact h1 hb, fun hb => by
            have : ¬ ((false == true) = true) := by decide
            dsimp only; rw [if_neg this]; exact hsk _ _ (z3m (h2 hb))⟩
         · obtain ⟨h1, h2⟩ := h
           exact ⟨fun hb => by
            have : ¬ ((true == false) = true) := by decide
            dsimp only; rw [if_neg this]; exact hsk _ _ (z3m (h1 hb)), fun hb => by simp only [beq_self_eq_true, if_true]; exact h2 hb⟩
       · rename_i ht
         rw [ht]; have h' := z3m (P := P) (K := G P Q st none) h; unfold q68
         cases σ with
         | mk t0 b0 =>
         cases hdd : o.dst with
         | none => rw [hdd] at h'; exact h'
         | some d0 => rw [hdd] at h'; exact h'
       · exact h.elim
     · exact h.elim
   · exact h.elim
theorem yas (hF : F = F.map P) {st : List Fr} {σ : St} (h : (step F st σ).holds P Q) : G P Q st none σ := by
 cases st with
 | nil => exact h
 | cons f st =>
   cases f with
   | ops ops l =>
     cases l with
     | nil => exact h
     | cons o l =>
       exact y5c (st := .ops ops l :: st) hF h
   | op1 g o => exact y9y hF h
   | r r => cases r <;> exact h
   | code c =>
     cases c with
     | skip => exact h
     | region id ops draw =>
       cases draw with
       | true => exact h
       | false => exact h
     | seq x y =>
       have e : (fun (e : Ex) (σ : St) => match e with | .normal => G P Q (.code y :: st) none σ | .exit i => G P Q (.code y :: st) (some i) σ | .ret => Q .ret σ) =
        (fun e σ => match e with | .normal => vc P y (fun e σ => match e with | .normal => G P Q st none σ | .exit i => G P Q st (some i) σ | .ret => Q .ret σ) σ | .exit i => G P Q st (some i) σ | .ret => Q .ret σ) := by
        funext e σ; cases e <;> rfl
       have h' : vc P x (fun (e : Ex) (σ : St) => match e with | .normal => G P Q (.code y :: st) none σ | .exit i => G P Q (.code y :: st) (some i) σ | .ret => Q .ret σ) σ := h; rw [e] at h'; exact .inl h'
     | cond c x y =>
       simp only [step] at h; simp only [G, vc]; split at h
       · rename_i t ht; rw [ht]; exact h
       · exact h.elim
     | block id b =>
       have e : (fun (e : Ex) (σ : St) => match e with | .normal => G P Q (.blk id :: st) none σ | .exit i => G P Q (.blk id :: st) (some i) σ | .ret => Q .ret σ) =
        (fun e σ => match e with | .normal => G P Q st none σ | .exit i => if i = id then G P Q st none σ else G P Q st (some i) σ | .ret => Q .ret σ) := by
        funext e σ; cases e <;> rfl
       have h' : vc P b (fun (e : Ex) (σ : St) => match e with | .normal => G P Q (.blk id :: st) none σ | .exit i => G P Q (.blk id :: st) (some i) σ | .ret => Q .ret σ) σ := h; rw [e] at h'; exact h'
     | loop b => exact h
     | exit id =>
       simp only [step] at h; split at h
       · rename_i st' hp; exact z1k hp h
       · exact h.elim
     | ret => exact h
     | _ => exact h.elim
   | blk id => exact h
   | lp J => exact h
   | plan ops LC p =>
     have one : ∀ {i : Nat} {p' : q6v}, (match nth ops.toList i with | some o => y45 (LC.contains i) F ops o (.plan ops LC p' :: st) σ | none => .fail).holds P Q → y9c LC P ops i σ (fun σ => z3i LC P ops p' σ (G P Q st none)) := fun {i p'} h => by
      unfold y9c; split at h
      · rename_i o ho
        rw [z2b, Array.getElem?_toList] at ho; rw [ho]; exact y5c (st := .plan ops LC p' :: st) hF h
      · exact h.elim
     cases p with
     | done => exact h
     | nil => trivial
     | take i W p => exact one h
     | alt i p q =>
       cases q with
       | nil => exact ⟨one h, trivial⟩
       | done => exact ⟨h.1.1, h.2⟩
       | take _ _ _ => exact ⟨h.1.1, h.2⟩
       | alt _ _ _ => exact ⟨h.1.1, h.2⟩
theorem z7z (hF : F = F.map P) : ∀ {n : Nat} {st : List Fr} {σ : St}, (exec n F st σ).holds P Q → G P Q st none σ
 | 0, _, _, h => h
 | n + 1, st, σ, h => by
   refine yas hF ?_; rw [exec] at h; split at h
   · rename_i st' σ' hs; rw [hs]; exact z7z hF h
   · exact h
theorem run (hF : F = F.map P) {n : Nat} {st : List Fr} {σ : St} {t : T} (he : exec n F st σ = t) (h : t.holds P Q) : G P Q st none σ := z7z hF (by rw [he]; exact h)
def q7y : Nat → TT → List Fr → St → T
 | 0, _, st, σ => .go st σ
 | k + 1, F, st, σ => match exec 2000 F st σ with
   | .br t st1 σ1 st2 σ2 => (match t with | true => q7y k F st1 σ1 | false => q7y k F st2 σ2)
   | _ => .fail
theorem q4f (hF : F = F.map P) : ∀ {k : Nat} {st : List Fr} {σ : St}, (q7y k F st σ).holds P Q → G P Q st none σ
 | 0, _, _, h => h
 | k + 1, st, σ, h => by
   rw [q7y] at h; split at h
   · rename_i t st1 σ1 st2 σ2 he
     refine run hF he ?_
     cases t with
     | true => exact ⟨fun _ => q4f hF h, nofun⟩
     | false => exact ⟨nofun, fun _ => q4f hF h⟩
   · exact h.elim
def QR (P : Program) (fn : Func) (res : Res) (e : Ex) (σ : St) : Prop := match e with | .exit _ => False | _ => z9z P fn res σ
theorem PC.begin {f : Nat} {fn : Func} {c : Code} {args : List SV} {res : Res} (hf : P.funcs[f]? = some fn) (hb : fn.body = some c) (hok : (okF P f && z0s fn.ntmps c && Nat.ble args.length fn.ntmps) = true)
 (h : G P (QR P fn res) [.code c] none ⟨q7q 0 args, []⟩) : PC P f args res := by
 refine PC.intro hf hb hok ?_
 have e : (fun (e : Ex) (σ : St) => match e with | .normal => G P (QR P fn res) [] none σ | .exit i => G P (QR P fn res) [] (some i) σ | .ret => QR P fn res .ret σ) =
  (fun e σ => match e with | .exit _ => False | _ => z9z P fn res σ) := by
  funext e σ; cases e <;> rfl
 have h' : vc P c (fun (e : Ex) (σ : St) => match e with | .normal => G P (QR P fn res) [] none σ | .exit i => G P (QR P fn res) [] (some i) σ | .ret => QR P fn res .ret σ) ⟨q7q 0 args, []⟩ := h; rw [e] at h'; exact h'
end
end Go.Sx
end
section
namespace Go.Sx
class yo (P : Program) where
 F : TT
 ok : F = F.map P
 mix : P.follows .mixedOrders = true
def q7o (σ : St) (d : Option Tmp) (res : Res) : R := match d with
 | some d => (match σ with | ⟨t, b⟩ => bR ((d, z7e (nameOf d) res) :: t) (z1d (nameOf d) res ++ b))
 | none => .ok σ
def q1q : AC → Bool
 | .b _ => true
 | .nil => true
 | .em => true
 | _ => false
def q21 : List AV → Bool
 | [] => true
 | .one c :: l => bif q1q c then q21 l else false
 | .agg cs :: l => bif cs.all q1q then q21 l else false
 | _ => false
def y3a (B : List (Nat × AB)) : List (Nat × AB) → Bool
 | [] => true
 | (β, _) :: l => match get B β with | none => y3a B l | some _ => false
theorem y3n {c : AC} (h : q1q c = true) : z3n c := by cases c <;> first | trivial | cases h
theorem z2m : ∀ {avs : List AV}, q21 avs = true → q9q z6a avs
 | [], _ => trivial
 | .one c :: l, h => by
   rw [q21] at h
   cases hc : q1q c with
   | false => rw [hc] at h; cases h
   | true => rw [hc] at h; exact ⟨y3n hc, z2m h⟩
 | .agg cs :: l, h => by
   rw [q21] at h
   cases hc : cs.all q1q with
   | false => rw [hc] at h; cases h
   | true =>
     rw [hc] at h
     have : ∀ cs : List AC, cs.all q1q = true → z7p z3n cs := by
      intro cs
      induction cs with
      | nil => intro _; trivial
      | cons c cs ih => intro h; simp only [List.all_cons, Bool.and_eq_true] at h; exact ⟨y3n h.1, ih h.2⟩
     exact ⟨this cs hc, z2m h⟩
 | .tup _ :: l, h => by cases h
theorem y1g {B : List (Nat × AB)} : ∀ {l : List (Nat × AB)}, y3a B l = true → y0c B l
 | [], _ => trivial
 | (β, _) :: l, h => by
   rw [y3a] at h; split at h
   · rename_i hn; exact ⟨hn, y1g h⟩
   · cases h
def y9t (σ : St) (d : Option Tmp) (avs : List AV) (res : Res) : Bool := bif y0o res then (bif y2p res then (bif q21 avs then y3a σ.b (z1d (nameOf (d.getD 0)) res) else false) else y3a σ.b (z1d (nameOf (d.getD 0)) res)) else false
section
variable {P : Program} [yo P] {Q : Ex → St → Prop} {st st1 st2 : List Fr} {σ σ1 σ2 : St}
theorem xb {t : Bool} (h : exec 2000 (yo.F P) st σ = .br t st1 σ1 st2 σ2) (h1 : t = true → G P Q st1 none σ1) (h2 : t = false → G P Q st2 none σ2) : G P Q st none σ := run yo.ok h ⟨h1, h2⟩
theorem xf (h : exec 2000 (yo.F P) st σ = .br false st1 σ1 st2 σ2) (h1 : G P Q st2 none σ2) : G P Q st none σ := run yo.ok h ⟨nofun, fun _ => h1⟩
theorem xj {k : Nat} (h : q7y k (yo.F P) st σ = .go st1 σ1) (h1 : G P Q st1 none σ1) : G P Q st none σ := q4f yo.ok (by rw [h]; exact h1)
theorem xr {e : Ex} (h : exec 2000 (yo.F P) st σ = .fin e σ1) (h1 : Q e σ1) : G P Q st none σ := run yo.ok h h1
theorem xs {p : Prop} (h : exec 2000 (yo.F P) st σ = .side p st1 σ1) (h1 : p) (h2 : G P Q st1 none σ1) : G P Q st none σ := run yo.ok h ⟨h1, h2⟩
theorem zau {q : Bool → Prop} {f : Bool → R} (h : exec 2000 (yo.F P) st σ = .any q f st1) (h1 : ∀ b, q b → G P Q (.r (f b) :: st1) none ⟨[], []⟩) : G P Q st none σ := run yo.ok h h1
theorem y9 {rows : List (List Cell)} {i : Nat} {f : List Cell → R} (h : exec 2000 (yo.F P) st σ = .row rows i f st1) (row : List Cell) (hr : rows[i]? = some row) (h1 : G P Q (.r (f row) :: st1) none ⟨[], []⟩) : G P Q st none σ := run yo.ok h ⟨row, hr, h1⟩
theorem qay {g : Bool} {o : Oper} (h : exec 2000 (yo.F P) st σ = .raw g σ1 o st1) (h1 : opL g P σ1 o (G P Q st1 none)) : G P Q st none σ := run yo.ok h h1
theorem q9 {J : St → Prop} (h : exec 2000 (yo.F P) st σ = .cont J σ1) (h1 : J σ1) : G P Q st none σ := run yo.ok h h1
theorem yr (h : exec 2000 (yo.F P) st σ = .both st1 st2 σ1) (h1 : G P Q st1 none σ1) (h2 : G P Q st2 none σ1) : G P Q st none σ := run yo.ok h ⟨h1, h2⟩
def q9v (ops : Array Oper) (LC : List Nat) (p : q6v) : Bool := Region.noSelect ops && (q2p .any ops (Array.replicate ops.size false) p && q1j LC .any ops p ops.size (Array.replicate ops.size false))
theorem yb {id : Nat} {ops : Array Oper} (h : exec 2000 (yo.F P) st σ = .draw id ops st1 σ1) (LC : List Nat) (p : q6v) (hp : q9v ops LC p = true) (h1 : G P Q (.plan ops LC p :: st1) none σ1) : G P Q st none σ := by
 simp only [q9v, Bool.and_eq_true] at hp; exact run yo.ok h ⟨yo.mix, hp.1, LC, p, hp.2.1, hp.2.2, h1⟩
theorem z7 {g : Bool} {d : Option Tmp} {f : Nat} {avs : List AV} {res : Res} (h : exec 2000 (yo.F P) st σ = .call g σ1 d f avs st1) (hpc : PC P f (avs.map (q8x σ1.b)) res) (hok : y9t σ1 d avs res = true) (hw : q9q (wfV σ1.b) avs) (h1 : G P Q (.r (q7o σ1 d res) :: st1) none ⟨[], []⟩) : G P Q st none σ := by
 refine run yo.ok h (.inl ⟨res, hpc, ?_⟩); unfold y9t at hok
 cases h2 : y0o res with
 | false => rw [h2] at hok; cases hok
 | true =>
   rw [h2] at hok
   have hK : G P Q st1 none (q32 σ1 d res) := by
    have h1 : (q7o σ1 d res).holds P (G P Q st1 none) := h1; unfold q7o at h1; unfold q32
    cases d with
    | none => exact h1
    | some d => cases σ1; exact yv h1
   cases h3 : y2p res with
   | true =>
     rw [h3] at hok
     cases h4 : q21 avs with
     | false => rw [h4] at hok; cases hok
     | true => rw [h4] at hok; exact ⟨Y, hw, fun _ => z2m h4, y1g hok, hK⟩
   | false => rw [h3] at hok; exact ⟨Y, hw, nofun, y1g hok, hK⟩
def q7n (σ : St) (d : Option Tmp) (res : Res) (T : List (Nat × AB)) : R := match σ, d with
 | ⟨t, b⟩, some d => bR ((d, z7e (nameOf d) res) :: t) ((z1d (nameOf d) res ++ T) ++ b)
 | ⟨t, b⟩, none => bR t (([] ++ T) ++ b)
def y9w (σ : St) (d : Option Tmp) (avs : List AV) (args : List GA) (res : Res) : Bool := bif y0o res then (bif y9b ((q11 0 (acs avs) (gcs args)).map (·.2.1)) then y3a σ.b (z1d (nameOf (d.getD 0)) res) else false) else false
theorem z0k {d : Option Tmp} {f : Nat} {avs : List AV} {args : List GA} {res : Res} {back : List (Nat × List (List Cell))} (h : exec 2000 (yo.F P) st σ = .call true σ1 d f avs st1) (hpc : PG P f args res back) (hm : mAs σ1.b avs args) (hok : y9w σ1 d avs args res = true)
 (h1 : G P Q (.r (q7n σ1 d res (z1n σ1.b back (q11 0 (acs avs) (gcs args)))) :: st1) none ⟨[], []⟩) : G P Q st none σ := by
 unfold y9w at hok
 cases h2 : y0o res with
 | false => rw [h2] at hok; cases hok
 | true =>
   rw [h2] at hok
   cases h3 : y9b ((q11 0 (acs avs) (gcs args)).map (·.2.1)) with
   | false => rw [h3] at hok; cases hok
   | true =>
     rw [h3] at hok; refine run yo.ok h (.inr ⟨Y, .inl ⟨args, res, back, hpc, h2, hm, z6 h3, y1g hok, ?_⟩⟩); have h1 : (q7n σ1 d res (z1n σ1.b back (q11 0 (acs avs) (gcs args)))).holds P (G P Q st1 none) := h1; cases σ1
     cases d with
     | none => exact yv h1
     | some d => exact yv h1
def y7o (σ : St) (d : Option Tmp) (res : Res) (e β : Nat) (acs : List AC) (cs : List PK) : R := match σ, d with
 | ⟨t, b⟩, some d => bR ((d, z7e (nameOf d) res) :: t) (((z1d (nameOf d) res ++ z0m (nameOf d + 100 * yax res) (cs.map z2c)) ++ ((β, .var (z1t (nameOf d + 100 * yax res) acs cs)) :: z05 b acs cs)) ++ b)
 | ⟨t, b⟩, none => bR t ((z0m e (cs.map z2c) ++ ((β, .var (z1t e acs cs)) :: z05 b acs cs)) ++ b)
def qbh (σ : St) (d : Option Tmp) (res : Res) (e : Nat) (acs : List AC) (cs : List PK) : Bool := bif y0o res then (bif y2p res then false else (bif Nat.ble cs.length 100 then (bif y9b (y0v acs cs) then y3a σ.b (yc3 d res e cs) else false) else false)) else false
theorem yay {d : Option Tmp} {f : Nat} {avs : List AV} {res : Res} {args : List SV} {cs : List PK} (p e : Nat) {β : Nat} {acs : List AC} (h : exec 2000 (yo.F P) st σ = .call true σ1 d f avs st1) (hpc : PP P f p cs args res) (ha : (avs.map (q8x σ1.b)).set p (.agg []) = args) (hp : avs[p]? = some (.one (.a β 0))) (hβ : get σ1.b β = some (.var acs))
 (hm : ybt σ1.b (y0v acs cs) acs cs) (hw : q6o σ1.b (y0v acs cs) p avs) (hok : qbh σ1 d res e acs cs = true) (h1 : G P Q (.r (y7o σ1 d res e β acs cs) :: st1) none ⟨[], []⟩) : G P Q st none σ := by
 subst ha; unfold qbh at hok
 cases h2 : y0o res with
 | false => rw [h2] at hok; cases hok
 | true =>
   rw [h2] at hok
   cases h3 : y2p res with
   | true => rw [h3] at hok; cases hok
   | false =>
     rw [h3] at hok
     cases h4 : Nat.ble cs.length 100 with
     | false => rw [h4] at hok; cases hok
     | true =>
       rw [h4] at hok
       cases h5 : y9b (y0v acs cs) with
       | false => rw [h5] at hok; cases hok
       | true =>
         rw [h5] at hok; refine run yo.ok h (.inr ⟨Y, .inr (.inl ⟨p, e, β, acs, cs, res, hpc, h2, h3, Nat.le_of_ble_eq_true h4, hp, hβ, hm, z6 h5, hw, y1g hok, ?_⟩)⟩); have h1 : (y7o σ1 d res e β acs cs).holds P (G P Q st1 none) := h1; cases σ1
         cases d with
         | none => exact yv h1
         | some d => exact yv h1
theorem q8v {b : Code} (h : exec 2000 (yo.F P) st σ = .loop b st1 σ1) {ι : Type} (pre : ι → Prop) (inv : ι → St) (m : ι → Nat) (i0 : ι) (h0 : pre i0) (hw : Wk σ1 (inv i0))
 (hs : ∀ i, pre i → ∀ J : St → Prop, (∀ σ' i', pre i' → m i' < m i → Wk σ' (inv i') → J σ') → G P Q (.code b :: .lp J :: st1) none (inv i)) : G P Q st none σ := by
 refine run yo.ok h ⟨ι, pre, inv, m, ⟨i0, h0, hw⟩, fun i hi => ?_⟩; have h2 := hs i hi (fun σ => ∃ i', pre i' ∧ m i' < m i ∧ Wk σ (inv i')) (fun σ' i' h1 h2 h3 => ⟨i', h1, h2, h3⟩)
 have e : (fun (e : Ex) (σ : St) => match e with | .normal => G P Q (.lp (fun σ => ∃ i', pre i' ∧ m i' < m i ∧ Wk σ (inv i')) :: st1) none σ | .exit i' => G P Q (.lp (fun σ => ∃ i', pre i' ∧ m i' < m i ∧ Wk σ (inv i')) :: st1) (some i') σ | .ret => Q .ret σ) =
  (fun e σ => match e with | .normal => ∃ i', pre i' ∧ m i' < m i ∧ Wk σ (inv i') | .exit j => G P Q st1 (some j) σ | .ret => Q .ret σ) := by
  funext e σ; cases e <;> rfl
 have h3 : vc P b (fun (e : Ex) (σ : St) => match e with | .normal => G P Q (.lp (fun σ => ∃ i', pre i' ∧ m i' < m i ∧ Wk σ (inv i')) :: st1) none σ | .exit i' => G P Q (.lp (fun σ => ∃ i', pre i' ∧ m i' < m i ∧ Wk σ (inv i')) :: st1) (some i') σ | .ret => Q .ret σ) (inv i) := h2; rw [e] at h3; exact h3
theorem qc {b : Code} (h : exec 2000 (yo.F P) st σ = .loop b st1 σ1) {ι : Type} (pre : ι → Prop) (inv : ι → St) (m : ι → Nat) (i0 : ι) (h0 : pre i0) (hw : Wk0 σ1 (inv i0))
 (hs : ∀ i, pre i → ∀ J : St → Prop, (∀ σ' i', pre i' → m i' < m i → Wk0 σ' (inv i') → J σ') → G P Q (.code b :: .lp J :: st1) none (inv i)) : G P Q st none σ :=
 q8v h pre inv m i0 h0 (.of hw) (fun i hi J hJ => hs i hi J (fun σ' i' h1 h2 h3 => hJ σ' i' h1 h2 (.of h3)))
theorem z5n {n : Nat} {x y : Code} (h : exec n (yo.F P) st σ = .go (.code (.seq x y) :: st1) σ1) {ι : Type} (pre : ι → Prop) (inv : ι → St)
 (h1 : ∀ K : St → Prop, (∀ σ' i, pre i → Wk0 σ' (inv i) → K σ') → G P Q (.code x :: .lp K :: st1) none σ1) (h2 : ∀ i, pre i → G P Q (.code y :: st1) none (inv i)) : G P Q st none σ := by
 refine run yo.ok h ?_; show G P Q (.code (.seq x y) :: st1) none σ1; refine .inr ⟨ι, pre, inv, ?_, h2⟩; have h3 := h1 (fun σ' => ∃ i, pre i ∧ Wk σ' (inv i)) (fun σ' i hp hw => ⟨i, hp, .of hw⟩)
 have e : (fun (e : Ex) (σ : St) => match e with | .normal => G P Q (.lp (fun σ => ∃ i', pre i' ∧ Wk σ (inv i')) :: st1) none σ | .exit i' => G P Q (.lp (fun σ => ∃ i', pre i' ∧ Wk σ (inv i')) :: st1) (some i') σ | .ret => Q .ret σ) =
  (fun e σ => match e with | .normal => ∃ i', pre i' ∧ Wk σ (inv i') | .exit j => G P Q st1 (some j) σ | .ret => Q .ret σ) := by
  funext e σ; cases e <;> rfl
 have h4 : vc P x (fun (e : Ex) (σ : St) => match e with | .normal => G P Q (.lp (fun σ => ∃ i', pre i' ∧ Wk σ (inv i')) :: st1) none σ | .exit i' => G P Q (.lp (fun σ => ∃ i', pre i' ∧ Wk σ (inv i')) :: st1) (some i') σ | .ret => Q .ret σ) σ1 := h3; rw [e] at h4; exact h4
omit [yo P] in
theorem zm {fn : Func} {res : Res} {e : Ex} (he : (match e with | .exit _ => false | _ => true) = true) (h : z9z P fn res σ) : QR P fn res e σ := by
 cases e with
 | exit i => cases he
 | _ => exact h
end
def qc9 (fn : Func) (σ : St) : Option Value := match fn.results.toList with
 | [.tmp t] => (match get σ.t t with | some (.one (.b (.s v))) => some v | _ => none)
 | _ => none
def qby : Ex → Bool
 | .exit _ => false
 | _ => true
theorem xv {P : Program} [yo P] {fn : Func} {st : List Fr} {σ σ1 : St} {e : Ex} {v v' : Value} (h : exec 2000 (yo.F P) st σ = .fin e σ1) (he : qby e = true) (ho : qc9 fn σ1 = some v) (hv : v = v') : G P (QR P fn (.one (.own false [.s v']))) st none σ := by
 subst hv; refine xr h (zm (by cases e <;> first | rfl | cases he) ?_); unfold qc9 at ho; split at ho
 case h_2 => cases ho
 rename_i t ht; split at ho
 case h_2 => cases ho
 rename_i u hu; cases ho; unfold z9z z4q; rw [ht]; show zax P σ1 (.tmp t) _; unfold zax; dsimp only; rw [hu]; exact ⟨⟨Y, Y, trivial⟩, z6 Y⟩
theorem wrap_i64 {n : Int} (h : -9223372036854775808 ≤ n) (h2 : n ≤ 9223372036854775807) : IntKind.i64.wrap n = n := by
 have e : IntKind.i64.wrap n = if n % 18446744073709551616 ≥ 9223372036854775808 then n % 18446744073709551616 - 18446744073709551616 else n % 18446744073709551616 := by
  simp [IntKind.wrap, IntKind.signed, IntKind.bits]
 rw [e]; split <;> omega
theorem yp {α : Type} (xs : List α) (z : α) (i n : Nat) (h : i < xs.length) (hn : n = xs.length) : (xs.take i ++ List.replicate (n - i) z)[i]? = some z := by
 subst hn; have e1 : (xs.take i).length = i := by simp; omega
 rw [List.getElem?_append_right (by omega), List.getElem?_replicate, e1, if_pos (by omega)]
theorem z07 {α : Type} (xs : List α) (z x : α) (i n : Nat) (h : xs[i]? = some x) (hn : n = xs.length) : (xs.take i ++ List.replicate (n - i) z).set i x = xs.take (i + 1) ++ List.replicate (n - (i + 1)) z := by
 subst hn; obtain ⟨hi, rfl⟩ := List.getElem?_eq_some_iff.1 h; apply List.ext_getElem?; intro j; rw [List.getElem?_set]; by_cases hj : i = j
 · subst hj
   rw [if_pos rfl]; have : i < (xs.take i ++ List.replicate (xs.length - i) z).length := by simp; omega
   rw [if_pos this, List.getElem?_append_left (by simp; omega), List.getElem?_take, if_pos (by omega)]; simp
 · rw [if_neg hj]
   by_cases h1 : j < i
   · rw [List.getElem?_append_left (by simp; omega), List.getElem?_append_left (by simp; omega), List.getElem?_take, List.getElem?_take, if_pos h1, if_pos (by omega)]
   · rw [List.getElem?_append_right (by simp; omega), List.getElem?_append_right (by simp; omega), List.getElem?_replicate, List.getElem?_replicate]
     have e1 : (xs.take i).length = i := by simp; omega
     have e2 : (xs.take (i + 1)).length = i + 1 := by simp; omega
     rw [e1, e2]; by_cases h3 : j < xs.length
     · rw [if_pos (by omega), if_pos (by omega)]
     · rw [if_neg (by omega), if_neg (by omega)]
theorem yh {α : Type} (xs : List α) (z : α) (i n : Nat) (h : i ≤ xs.length) (hn : n = xs.length) : (xs.take i ++ List.replicate (n - i) z).length = n := by
 subst hn; simp; omega
theorem y05 {α : Type} (xs : List α) (z : α) (n : Nat) (hn : n = xs.length) : xs.take n ++ List.replicate (n - n) z = xs := by
 subst hn; simp
end Go.Sx
end
section
namespace Go.Sx
open Go.RowKit (Below)
def hOk (C : Ctx) : Prop := ∀ g ∈ C.H, yb9 g.1
def To (σ σ' : St) : Prop := ∀ (C : Ctx) (a : Act) (w : World), hOk C → Rel C σ a w → Rel C σ' a w
theorem To.refl (σ : St) : To σ σ := fun _ _ _ _ h => h
theorem To.trans {σ σ' σ'' : St} (h : To σ σ') (h' : To σ' σ'') : To σ σ'' := fun C a w hH h1 => h' C a w hH (h C a w hH h1)
theorem To.wk {σ σ' : St} (h : Wk0 σ σ') : To σ σ' := fun _ _ _ hH hr => z6r hH hr (.of h)
theorem To.tmps {l l' : List (Nat × AV)} {b : List (Nat × AB)} (h : ∀ t av, get l' t = some av → get l t = some av) : To ⟨l, b⟩ ⟨l', b⟩ := by
 rintro C a w _ ⟨ρ, hr⟩
 exact ⟨ρ, ⟨fun t av ht => hr.tmps t av (h t av ht), hr.y0k, hr.disj, hr.mine, hr.size, hr.defers, hr.keep, hr.ghost⟩⟩
def qw (P : Program) (ops : Array Oper) (i : Nat) (σ : St) (K : St → Prop) : Prop :=
 ∀ (C : Ctx) (Q : Exit → Act → World → Prop) (a : Act) (w : World), C.P = P → y63 C.T ops = true → hOk C → Rel C σ a w → wpOp P ops Q i (fun a' w' => ∃ σ', K σ' ∧ Rel C σ' a' w') a w
section
variable {P : Program} {ops : Array Oper} {i : Nat} {σ σ' : St} {K K' : St → Prop}
theorem qw.yc4 (h : y9c [] P ops i σ K) : qw P ops i σ K := by
 rintro C Q a w hP hok hH ⟨ρ, hat⟩
 subst hP; unfold wpOp; unfold y9c at h
 cases hoi : ops[i]? with
 | none => rw [hoi] at h; exact h.elim
 | some o =>
   rw [hoi] at h; dsimp only at h ⊢; have hmem : o ∈ ops.toList := by simpa using Array.mem_of_getElem? hoi
   have hd := y13 hok hmem; rcases y17 hat h with ⟨hwt, σ1, hK, hat1⟩ | ⟨hwt, σ1, hK, hat1⟩
   · rw [hwt, if_pos rfl]
     exact .inl (Oper.wp_mono (fun a' w' haf => haf.2) (y3g hat1 hd hK))
   · rw [hwt, if_neg (by simp)]
     exact y1q hat1 hd hK
theorem qw.run {Q0 : Ex → St → Prop} (h : G P Q0 [.plan ops [] (.take i [] .done), .lp K] none σ) : qw P ops i σ K := qw.yc4 h
theorem qw.to (h : To σ σ') (h' : qw P ops i σ' K) : qw P ops i σ K := fun C Q a w h1 h2 h3 h4 => h' C Q a w h1 h2 h3 (h C a w h3 h4)
theorem qw.post (h : ∀ σ', K σ' → ∃ σ'', K' σ'' ∧ To σ' σ'') (h' : qw P ops i σ K) : qw P ops i σ K' := fun C Q a w h1 h2 h3 h4 =>
 wpOp_mono (fun a' w' hx => by
  obtain ⟨σ1, k1, r1⟩ := hx; obtain ⟨σ2, k2, t2⟩ := h σ1 k1
  exact ⟨σ2, k2, t2 C a' w' h3 r1⟩) (h' C Q a w h1 h2 h3 h4)
theorem qw.em {o : Oper} {t d : Nat} (ho : ops[i]? = some o) (hop : o.op = .buildSlice t 0 #[]) (hg : o.guard = none) (hd : o.dst = some d) (hes : (y11 P t).isSome = true) (hk : K ⟨(d, .one .em) :: σ.t, σ.b⟩) : qw P ops i σ K := by
 rintro C Q a w hP hok hH ⟨ρ, hat⟩
 subst hP; unfold wpOp; rw [ho]; dsimp only; have hmem : o ∈ ops.toList := by simpa using Array.mem_of_getElem? ho
 have hdT := y13 hok hmem; have hwt : Region.wanted o (yielded ops a.tmps) = true := by simp [Region.wanted, hg]
 rw [hwt, if_pos rfl]
 cases hes' : y11 C.P t with
 | none => rw [hes'] at hes; cases hes
 | some p =>
 obtain ⟨sz, by_⟩ := p; obtain ⟨e, inf, z, hu, hi, hz, hzs, his, hib, hne⟩ := q01 hes'; have hE : ∀ f : Nat → Value, Array.map f (Array.range 0) = #[] := fun f => by simp [Array.range]
 have hr : (execOp a.eval o).run C.P w = .ok (.value (.slice (some ⟨w.heap.size, 0, none⟩) 0 0)) (w.alloc (.cells #[] e)) := by
  simp only [execOp, hop, Instr.buildSlice, Sem.run_bind, run_underlying hu, Result.andThen_ok, sizeOf, typeInfo, run_program, hi, Sem.run_pure, his]; simp [hE, newRow, Instr.fill]
 refine .inl ?_; unfold Oper.wp; rw [hr]; refine ⟨_, hk, ρ, ?_⟩; have h1 := (hat.world (zt.alloc w (.cells #[] e) _)).put (d := some d) (av := .one .em) (v := .slice (some ⟨w.heap.size, 0, none⟩) 0 0) (fun t ht => hdT t (by rw [hd]; exact ht)) ⟨_, rfl⟩; rw [hd]; exact h1
theorem q52 {p p' : Nat → Bool} : ∀ {l : List Nat} {i : Nat}, (∀ j, p' j = true → p j = true) → i ∈ l → p i = true → p' i = false → l.countP p' < l.countP p
 | x :: l, i, h, hm, h1, h2 => by
   rw [List.countP_cons, List.countP_cons]; have hle : l.countP p' ≤ l.countP p := List.countP_mono_left (fun j _ => h j); rcases List.mem_cons.1 hm with rfl | hm
   · rw [h1, h2]; simp; omega
   · have h3 := q52 h hm h1 h2
     have h4 : (if p' x = true then 1 else 0) ≤ (if p x = true then 1 else 0) := by
      by_cases hx : p' x = true
      · simp [hx, h x hx]
      · simp [hx]
     omega
def qbq (ops : Array Oper) (listed : Array Bool) : Nat := (List.range ops.size).countP fun j => !(listed.getD j true)
theorem q7t {listed : Array Bool} (h : i ∈ Region.ready .any ops listed) : qbq ops (listed.setIfInBounds i true) < qbq ops listed := by
 obtain ⟨h0, o, ho, _⟩ := mem_ready.1 h; have hlt : i < ops.size := (Array.getElem?_eq_some_iff.1 ho).1; refine q52 (i := i) (fun j hj => ?_) (List.mem_range.2 hlt) (by simp [h0]) ?_
 · by_cases hij : i = j
   · subst hij; simp [h0]
   · rw [getD_set_ne true hij] at hj; exact hj
 · have hs : i < listed.size := by
    rcases Nat.lt_or_ge i listed.size with h' | h'
    · exact h'
    · simp [Array.getElem?_eq_none h'] at h0
   simp [hs]
theorem ybl {C : Ctx} {Q : Exit → Act → World → Prop} {J : Array Bool → St → Prop} (hP : C.P = P) (hok : y63 C.T ops = true) (hH : hOk C) (hstep : ∀ listed σ i, J listed σ → i ∈ Region.ready .any ops listed → qw P ops i σ (J (listed.setIfInBounds i true)))
 (hdone : ∀ listed σ a w, J listed σ → Region.ready .any ops listed = [] → Rel C σ a w → Q .normal a w) : ∀ (n : Nat) (listed : Array Bool) (σ : St) (a : Act) (w : World), qbq ops listed ≤ n → J listed σ → Rel C σ a w → wpAny P .any ops Q n listed a w := by
 intro n
 induction n with
 | zero =>
   intro listed σ a w hn hj hr; have hnil : Region.ready .any ops listed = [] := List.eq_nil_iff_forall_not_mem.2 fun i hi => by have := q7t hi; omega
   exact ⟨hnil, hdone listed σ a w hj hnil hr⟩
 | succ n ih =>
   intro listed σ a w hn hj hr; refine ⟨fun hnil => hdone listed σ a w hj hnil hr, fun i hi => ?_⟩; refine wpOp_mono (fun a' w' hx => ?_) (hstep listed σ i hj hi C Q a w hP hok hH hr); obtain ⟨σ', hj', hr'⟩ := hx; exact ih _ σ' a' w' (by have := q7t hi; omega) hj' hr'
def qb1 (P : Program) (ops : Array Oper) (σ : St) (K : St → Prop) : Prop :=
 ∃ J : Array Bool → St → Prop, J (Array.replicate ops.size false) σ ∧ (∀ listed σ i, J listed σ → i ∈ Region.ready .any ops listed → qw P ops i σ (J (listed.setIfInBounds i true))) ∧
   ∀ listed σ, J listed σ → Region.ready .any ops listed = [] → ∃ σ', To σ σ' ∧ K σ'
theorem z85 {C : Ctx} {id : Nat} (hm : C.P.follows .mixedOrders = true) (hok : y63 C.T ops = true) (hH : hOk C) {Q : Ex → St → Prop} {a : Act} {w : World} (h : qb1 C.P ops σ (Q .normal)) (hr : Rel C σ a w) : (Code.region id ops true).wp C.P (QOf C Q) a w := by
 obtain ⟨J, h0, h1, h2⟩ := h; refine wp_region_any hm (ybl (C := C) Y hok hH h1 (fun listed σ a w hj hn hr => ?_) _ _ σ _ _ ?_ h0 ?_)
 · obtain ⟨σ', ht, hk⟩ := h2 listed σ hj hn
   exact ⟨.normal, Y, σ', hk, ht C a w hH hr⟩
 · unfold qbq
   have := List.countP_le_length (p := fun j => !((Array.replicate ops.size false).getD j true)) (l := List.range ops.size)
   simpa using this
 · obtain ⟨ρ, hat⟩ := hr
   exact ⟨ρ, hat.world (zt.drew w _)⟩
theorem q8i {listed : Array Bool} (hs : (ops.toList.zipIdx.all fun p => p.1.after.all fun e => Nat.blt e.on p.2) = true) (h : Region.ready .any ops listed = []) : ∀ i, i < ops.size → listed.getD i true = true := by
 intro i
 induction i using Nat.strongRecOn with
 | _ i ih =>
   intro hi
   cases hl : listed.getD i true with
   | true => rfl
   | false =>
     have hm : i ∈ Region.ready .any ops listed := by
      refine mem_ready.2 ⟨hl, ops[i], Array.getElem?_eq_getElem hi, fun e he _ => ?_⟩
      have h1 := List.all_eq_true.1 hs (ops[i], i) (by
       rw [List.mem_zipIdx_iff_getElem?]
       simp [hi])
      have h2 : e.on < i := by
       have := (Array.all_eq_true_iff_forall_mem.1 h1) e he
       simpa using this
      have h3 := ih e.on h2 (by omega); rcases Nat.lt_or_ge e.on listed.size with h' | h'
      · simpa [h'] using h3
      · have h4 : i ≥ listed.size := by omega
        simp [Array.getElem?_eq_none h4] at hl
     rw [h] at hm; cases hm
end
theorem PC.yb6 {P : Program} {f : Nat} {fn : Func} {x y : Code} {id : Nat} {ops : Array Oper} {args : List SV} {res : Res} (hm : P.follows .mixedOrders = true) (hf : P.funcs[f]? = some fn) (hb : fn.body = some (.seq x (.seq (.region id ops true) y)))
 (hok : (okF P f && z0s fn.ntmps (.seq x (.seq (.region id ops true) y)) && Nat.ble args.length fn.ntmps) = true) (K1 K2 : St → Prop)
 (h1 : G P (fun _ _ => False) [.code x, .lp K1] none ⟨q7q 0 args, []⟩) (h2 : ∀ σ, K1 σ → qb1 P ops σ K2) (h3 : ∀ σ, K2 σ → G P (QR P fn res) [.code y] none σ) : PC P f args res := by
 simp only [Bool.and_eq_true] at hok; obtain ⟨⟨ho1, ho2⟩, ho3⟩ := hok; refine ⟨ho1, fun N w vals hargs => ?_⟩; refine calls_of_wp hf hb ?_; have hle : args.length ≤ fn.ntmps := Nat.le_of_ble_eq_true ho3; have hM : ∀ x, ¬ (Ctx.mk P fn.ntmps w N (fun _ => False) []).M x := fun x h => h
 have hH : hOk (Ctx.mk P fn.ntmps w N (fun _ => False) []) := fun g hg => by cases hg
 have hinit : ye (Ctx.mk P fn.ntmps w N (fun _ => False) []) ⟨q7q 0 args, []⟩ ⟨fun _ => undef, fun _ _ => False⟩ { tmps := vals ++ Array.replicate (fn.ntmps - vals.size) undef, defers := [] } w := by
  refine ⟨fun t av ht => ?_, fun β ab h => (by cases h), fun β β' ab ab' x h => (by cases h), fun β ab x h => (by cases h), ?_, Y, zt.refl _ _, fun g hg => by cases hg⟩
  · obtain ⟨k, sv, h1, h2, rfl⟩ := z4c ht
    have hk : k < vals.size := by rw [hargs.1]; exact (List.getElem?_eq_some_iff.1 h2).1
    have ht' : t = k := by omega
    subst ht'; refine ⟨vals[t], by rw [Array.getElem?_append, if_pos hk]; simp [hk], ?_⟩; have hrv := hargs.2 t sv vals[t] h2 (by simp [hk]); have hN : ∀ {c : Cell} {u : Value}, Rep w N c u → Rep w (Bor (Ctx.mk P fn.ntmps w N (fun _ => False) []) ⟨fun _ => undef, fun _ _ => False⟩ []) c u := fun hr => Rep.mono hr (fun x _ hx => ⟨.inl hx, fun β ab h => by cases h⟩)
    cases sv with
    | one c => exact hN hrv
    | agg cs =>
      obtain ⟨arr, he, h3, h4⟩ := hrv; refine ⟨arr, he, by simp [h3], fun k c u hc hu => ?_⟩; rw [List.getElem?_map] at hc
      cases hck : cs[k]? with
      | none => rw [hck] at hc; cases hc
      | some c0 => rw [hck] at hc; cases hc; exact hN (h4 k c0 u hck hu)
  · show (vals ++ Array.replicate (fn.ntmps - vals.size) undef).size = fn.ntmps
    rw [Array.size_append, Array.size_replicate]; have := hargs.1; omega
 simp only [z0s, Bool.and_eq_true] at ho2; obtain ⟨okx, okr, oky⟩ := ho2
 have hret : ∀ (e : Ex) (σ : St), (match e with | .normal => G P (QR P fn res) [] none σ | .exit i => G P (QR P fn res) [] (some i) σ | .ret => QR P fn res .ret σ) → (match e with | .exit _ => False | _ => z9z P fn res σ) := fun e σ h => by
  cases e <;> exact h
 have h1' : vc P x (fun e σ => match e with | .normal => K1 σ | _ => False) ⟨q7q 0 args, []⟩ := by
  have e1 : (fun (e : Ex) (σ : St) => match e with | .normal => G P (fun _ _ => False) [.lp K1] none σ | .exit i => G P (fun _ _ => False) [.lp K1] (some i) σ | .ret => (fun (_ : Ex) (_ : St) => False) .ret σ) = (fun e σ => match e with | .normal => K1 σ | _ => False) := by
   funext e σ; cases e <;> rfl
  have h1'' : vc P x (fun (e : Ex) (σ : St) => match e with | .normal => G P (fun _ _ => False) [.lp K1] none σ | .exit i => G P (fun _ _ => False) [.lp K1] (some i) σ | .ret => (fun (_ : Ex) (_ : St) => False) .ret σ) ⟨q7q 0 args, []⟩ := h1; rw [e1] at h1''; exact h1''
 refine wp_seq (wp_mono (y2f (C := Ctx.mk P fn.ntmps w N (fun _ => False) []) hH okx ⟨_, hinit⟩ h1') (fun e a' w' hq => ?_)); obtain ⟨e', he, σ1, hk1, hr1⟩ := hq
 cases e' with
 | exit _ => exact hk1.elim
 | ret => exact hk1.elim
 | normal =>
 cases e <;> simp only [y7y, Option.some.injEq] at he <;> first | (cases he; done) | skip
 refine wp_seq (wp_mono (z85 (C := Ctx.mk P fn.ntmps w N (fun _ => False) []) (Q := fun e σ => match e with | .normal => K2 σ | _ => False) hm okr hH (h2 σ1 hk1) hr1) (fun e a' w' hq => ?_)); obtain ⟨e', he, σ2, hk2, hr2⟩ := hq
 cases e' with
 | exit _ => exact hk2.elim
 | ret => exact hk2.elim
 | normal =>
 cases e <;> simp only [y7y, Option.some.injEq] at he <;> first | (cases he; done) | skip
 have h3' : vc P y (fun (e : Ex) (σ : St) => match e with | .normal => G P (QR P fn res) [] none σ | .exit i => G P (QR P fn res) [] (some i) σ | .ret => QR P fn res .ret σ) σ2 := h3 σ2 hk2; refine wp_mono (y2f (C := Ctx.mk P fn.ntmps w N (fun _ => False) []) hH oky hr2 h3') (fun e a' w' hq => ?_); obtain ⟨e', he, σ', hr, ρ', hrel⟩ := hq; have hr := hret e' σ' hr
 have fin : z9z P fn res σ' → a'.defers = [] ∧ ∃ v, (results fn a'.tmps).run P w' = .ok v w' ∧ ∃ (v' : Value) (S : Nat → Prop), Ending.returned v = .returned v' ∧ zt w w' (fun _ => False) ∧ q1e w' (fun x => (N x ∨ w.heap.size ≤ x) ∧ ¬ S x) S res v' ∧ ∀ x, S x → w.heap.size ≤ x ∧ x < w'.heap.size := fun hret => by
  obtain ⟨v, ms, h1, h2, _⟩ := y2d hrel hret; refine ⟨hrel.defers, v, h1, v, gS σ' ρ' ms, Y, hrel.keep, h2.mono (fun x hx => ⟨?_, ?_⟩), fun x hx => ?_⟩
  · rcases hx.1 with h | h | h
    · exact .inl h
    · exact .inr h
    · exact h.elim
  · rintro ⟨γ, _, ⟨ab, hab⟩, hs⟩; exact hx.2 γ ab hab hs
  · obtain ⟨γ, _, ⟨ab, hab⟩, hs⟩ := hx
    exact ⟨(hrel.mine γ ab x hab hs).2.resolve_right (hM x), (hrel.mine γ ab x hab hs).1⟩
 cases e <;> simp only [y7y, Option.some.injEq] at he <;> first | (subst he) | cases he
 · exact fin hr
 · exact hr.elim
 · exact fin hr
end Go.Sx
end
section
namespace Go.Sx
section
variable {C : Ctx} {w : World} {ρ : Env} {b b' : List (Nat × AB)}
theorem q5p (h : get b = get b') : Bor C ρ b = Bor C ρ b' := by
 funext x
 simp only [Bor, h]
theorem z3j (h : get b = get b') : qv C w ρ b = qv C w ρ b' := by
 funext c v
 cases c <;> simp only [qv, y1r, q5p h, h]
theorem q8j (h : get b = get b') : yw C w ρ b = yw C w ρ b' := by
 have h1 : q02 C w ρ b = q02 C w ρ b' := by
  funext c v
  cases c <;> simp only [q02, z3j h]
 funext c v
 cases c <;> simp only [yw, h1]
theorem y8j (h : get b = get b') : z0n C w ρ b = z0n C w ρ b' := by
 have h1 : CC C w ρ b = CC C w ρ b' := by
  funext c
  cases c <;> simp only [CC, q5p h]
 funext β ab
 cases ab <;> simp only [z0n, z3j h, q5p h, h1]
theorem To.y0k {l : List (Nat × AV)} (h : ∀ β, get b' β = get b β) : To ⟨l, b⟩ ⟨l, b'⟩ := by
 have h : get b' = get b := funext h
 rintro C a w _ ⟨ρ, hr⟩
 refine ⟨ρ, ⟨fun t av ht => ?_, fun β ab hb => ?_, fun β β' ab ab' x h1 h2 h3 h4 => ?_, fun β ab x h1 h2 => ?_, hr.size, hr.defers, hr.keep, fun g hg => ?_⟩⟩
 · obtain ⟨v, h1, h2⟩ := hr.tmps t av ht
   exact ⟨v, h1, by rw [q8j h]; exact h2⟩
 · rw [y8j h]; exact hr.y0k β ab (by rw [← h]; exact hb)
 · exact hr.disj β β' ab ab' x (by rw [← h]; exact h1) (by rw [← h]; exact h2) h3 h4
 · exact hr.mine β ab x (by rw [← h]; exact h1) h2
 · rw [z3j h]; exact hr.ghost g hg
end
theorem y1y {l : List (Nat × AV)} : ∀ {n : List (Nat × AV)}, (∀ p ∈ n, get l p.1 = some p.2) → ∀ t av, get (n ++ l) t = some av → get l t = some av
 | [], _, t, av, h => h
 | p :: n, hn, t, av, h => by
   obtain ⟨k, v⟩ := p; rw [List.cons_append, za] at h; split at h
   · rename_i e
     have h1 := hn (k, v) (by simp); rw [← h, ← e]; exact h1
   · exact y1y (fun p hp => hn p (by simp [hp])) t av h
theorem z17 {l : List (Nat × AV)} : ∀ {n : List (Nat × AV)}, (∀ p ∈ n, get l p.1 = some p.2) → ∀ t av, get l t = some av → get (n ++ l) t = some av
 | [], _, t, av, h => h
 | p :: n, hn, t, av, h => by
   obtain ⟨k, v⟩ := p; rw [List.cons_append, za]; split
   · rename_i e
     have := hn (k, v) (by simp); rw [e] at this; rw [h] at this; exact this.symm
   · exact z17 (fun p hp => hn p (by simp [hp])) t av h
def qar (f : Nat → Bool) (i : Nat) : Nat → Bool := fun j => bif Nat.beq j i then true else f j
theorem z3l (f : Nat → Bool) (i : Nat) : qar f i i = true := by simp [qar]
theorem q3k {f : Nat → Bool} {i j : Nat} (h : j ≠ i) : qar f i j = f j := by simp [qar, beq_false h]
def q7k (ops : Array Oper) (i j : Nat) : Bool := match ops[i]? with | some o => o.after.any fun e => Nat.beq e.on j && Region.binds .any e | none => false
theorem qb8 {ops : Array Oper} {listed : Array Bool} {i j : Nat} (h : i ∈ Region.ready .any ops listed) (hd : q7k ops i j = true) : listed.getD j false = true := by
 obtain ⟨_, o, ho, hall⟩ := mem_ready.1 h; unfold q7k at hd; rw [ho] at hd; obtain ⟨e, he, hb⟩ := Array.any_eq_true'.1 hd; simp only [Bool.and_eq_true] at hb; have h1 : e.on = j := by simpa using hb.1
 rw [← h1]; exact hall e he hb.2
def zbi (L : List (Option (Nat × AV))) (i : Nat) (T : List (Nat × AV)) : List (Nat × AV) := match L[i]? with | some (some p) => p :: T | _ => T
def z2w (L : List (Option (Nat × AV))) : List Nat → List (Nat × AV)
 | [] => []
 | j :: js => (match L[j]? with | some (some p) => p :: z2w L js | _ => z2w L js)
theorem z3k {L : List (Option (Nat × AV))} : ∀ {js : List Nat} {p : Nat × AV}, p ∈ z2w L js → ∃ j, j ∈ js ∧ L[j]? = some (some p)
 | [], p, h => by cases h
 | j :: js, p, h => by
   rw [z2w] at h; split at h
   · rename_i q hq
     rcases List.mem_cons.1 h with rfl | h
     · exact ⟨j, by simp, hq⟩
     · obtain ⟨k, h1, h2⟩ := z3k h; exact ⟨k, by simp [h1], h2⟩
   · obtain ⟨k, h1, h2⟩ := z3k h; exact ⟨k, by simp [h1], h2⟩
def y9r (L : List (Option (Nat × AV))) (T0 : List (Nat × AV)) : Bool :=
 (List.range L.length).all fun i => match L[i]? with
   | some (some p) => ((List.range L.length).all fun j => Nat.beq i j || match L[j]? with | some (some q) => !(Nat.beq p.1 q.1) | _ => true) && T0.all fun q => !(Nat.beq p.1 q.1)
   | _ => true
def q6g : List (Nat × AV) → Bool
 | [] => true
 | p :: T => T.all (fun q => !(Nat.beq p.1 q.1)) && q6g T
theorem z3z : ∀ {T : List (Nat × AV)}, q6g T = true → ∀ {p : Nat × AV}, p ∈ T → get T p.1 = some p.2
 | [], _, p, hp => by cases hp
 | (k, v) :: T, h, p, hp => by
   simp only [q6g, Bool.and_eq_true] at h; rw [za]; rcases List.mem_cons.1 hp with rfl | hp
   · rw [if_pos rfl]
   · rw [if_neg]
     · exact z3z h.2 hp
     · intro e
       have h1 := List.all_eq_true.1 h.1 p hp; rw [show k = p.1 from e] at h1; simp at h1
def JR (ops : Array Oper) (L : List (Option (Nat × AV))) (T0 : List (Nat × AV)) (Bs : (Nat → Bool) → List (Nat × AB)) (listed : Array Bool) (σ : St) : Prop :=
 ∃ (σ0 : St) (R : List (Nat × AV)) (f : Nat → Bool), To σ σ0 ∧ listed.size = ops.size ∧ (∀ j, listed.getD j false = f j) ∧ σ0 = ⟨R, Bs f⟩ ∧ (∀ j p, L[j]? = some (some p) → f j = true → get R p.1 = some p.2) ∧ (∀ p ∈ T0, get R p.1 = some p.2) ∧ ∀ j k, q7k ops j k = true → f j = true → f k = true
theorem JR.step {P : Program} {ops : Array Oper} {L : List (Option (Nat × AV))} {T0 : List (Nat × AV)} {Bs : (Nat → Bool) → List (Nat × AB)} {listed : Array Bool} {σ : St} {i : Nat} (js : List Nat) (hi : i ∈ Region.ready .any ops listed) (hJ : JR ops L T0 Bs listed σ) (hA : y9r L T0 = true) (hjs : (js.all fun j => q7k ops i j) = true)
 (hG : ∀ (R : List (Nat × AV)) (f : Nat → Bool), f i = false → (∀ j, q7k ops i j = true → f j = true) → (∀ j k, q7k ops j k = true → f j = true → f k = true) →
   qw P ops i ⟨z2w L js ++ (T0 ++ R), Bs f⟩ (fun σ' => To σ' ⟨zbi L i (z2w L js ++ (T0 ++ R)), Bs (qar f i)⟩)) : qw P ops i σ (JR ops L T0 Bs (listed.setIfInBounds i true)) := by
 obtain ⟨σ0, R, f, hto, hsz, hf, rfl, hL, h0, hcl⟩ := hJ; obtain ⟨hu, o, ho, hall⟩ := mem_ready.1 hi; have hlt : i < ops.size := (Array.getElem?_eq_some_iff.1 ho).1
 have hfi : f i = false := by
  have := hf i; rw [← this]; have hs : i < listed.size := by omega
  simp [hs] at hu ⊢; exact hu
 have hdp : ∀ j, q7k ops i j = true → f j = true := fun j hj => by rw [← hf j]; exact qb8 hi hj
 have hn1 : ∀ p ∈ T0, get R p.1 = some p.2 := h0
 have hT : ∀ p ∈ z2w L js, get (T0 ++ R) p.1 = some p.2 := fun p hp => by
  obtain ⟨j, hj, hp⟩ := z3k hp; have := List.all_eq_true.1 hjs j hj; exact z17 hn1 _ _ (hL j p hp (hdp j this))
 have hto2 : To ⟨R, Bs f⟩ ⟨z2w L js ++ (T0 ++ R), Bs f⟩ := To.tmps fun t av h => y1y hn1 t av (y1y hT t av h)
 have hup : ∀ t av, get R t = some av → get (z2w L js ++ (T0 ++ R)) t = some av := fun t av h => z17 hT t av (z17 hn1 t av h)
 refine qw.to (hto.trans hto2) (qw.post (fun σ' hk => ⟨σ', ?_, To.refl _⟩) (hG R f hfi hdp hcl)); refine ⟨_, zbi L i (z2w L js ++ (T0 ++ R)), qar f i, hk, by simpa using hsz, fun j => ?_, Y, fun j p hp hfj => ?_, fun p hp => ?_, fun j k hd hfj => ?_⟩
 · by_cases hji : j = i
   · subst hji
     rw [z3l]; have hs : j < listed.size := by omega
     simp [hs]
   · rw [q3k hji, getD_set_ne false (Ne.symm hji)]; exact hf j
 · unfold zbi
   by_cases hji : j = i
   · subst hji; rw [hp]; show get (p :: _) p.1 = _; obtain ⟨k, v⟩ := p; rw [za, if_pos rfl]
   · rw [q3k hji] at hfj
     have h1 := hup _ _ (hL j p hp hfj); split
     · rename_i q hq
       have h2 := List.all_eq_true.1 hA i (List.mem_range.2 (List.getElem?_eq_some_iff.1 hq).1); rw [hq] at h2; simp only [Bool.and_eq_true] at h2; have h3 := List.all_eq_true.1 h2.1 j (List.mem_range.2 (List.getElem?_eq_some_iff.1 hp).1); rw [hp] at h3; simp only [Bool.or_eq_true, Bool.not_eq_true'] at h3; obtain ⟨kq, vq⟩ := q; rw [za, if_neg]
       · exact h1
       · rcases h3 with h3 | h3
         · exact absurd (Nat.eq_of_beq_eq_true h3).symm hji
         · intro e; rw [show kq = p.1 from e] at h3; simp at h3
     · exact h1
 · unfold zbi
   have h1 := hup _ _ (h0 p hp); split
   · rename_i q hq
     have h2 := List.all_eq_true.1 hA i (List.mem_range.2 (List.getElem?_eq_some_iff.1 hq).1); rw [hq] at h2; simp only [Bool.and_eq_true] at h2; have h3 := List.all_eq_true.1 h2.2 p hp; obtain ⟨kq, vq⟩ := q; rw [za, if_neg]
     · exact h1
     · intro e; rw [show kq = p.1 from e] at h3; simp at h3
   · exact h1
 · by_cases hji : j = i
   · subst hji
     by_cases hki : k = j
     · subst hki; exact z3l _ _
     · rw [q3k hki]; exact hdp k hd
   · rw [q3k hji] at hfj
     by_cases hki : k = i
     · subst hki; exact z3l _ _
     · rw [q3k hki]; exact hcl j k hd hfj
def qbv (p : Nat → Prop) : Nat → Nat → Prop
 | 0, _ => True
 | n + 1, k => p k ∧ qbv p n (k + 1)
theorem y6f {p : Nat → Prop} : ∀ {n k i : Nat}, qbv p n k → k ≤ i → i < k + n → p i
 | 0, k, i, _, h1, h2 => by omega
 | n + 1, k, i, h, h1, h2 => by
   by_cases e : k = i
   · subst e; exact h.1
   · exact y6f (n := n) h.2 (by omega) (by omega)
theorem qb1.table {P : Program} {ops : Array Oper} {σ : St} {K : St → Prop} (L : List (Option (Nat × AV))) (T0 : List (Nat × AV)) (Bs : (Nat → Bool) → List (Nat × AB)) (hA : y9r L T0 = true) (hup : (ops.toList.zipIdx.all fun p => p.1.after.all fun e => Nat.blt e.on p.2) = true) (js : Nat → List Nat) (hjs : ((List.range ops.size).all fun i => (js i).all fun j => q7k ops i j) = true)
 (h0 : To σ ⟨T0, Bs fun _ => false⟩)
 (hG : qbv (fun i => ∀ (R : List (Nat × AV)) (f : Nat → Bool), f i = false → (∀ j, q7k ops i j = true → f j = true) → (∀ j k, q7k ops j k = true → f j = true → f k = true) → qw P ops i ⟨z2w L (js i) ++ (T0 ++ R), Bs f⟩ (fun σ' => To σ' ⟨zbi L i (z2w L (js i) ++ (T0 ++ R)), Bs (qar f i)⟩)) ops.size 0)
 (hK : ∀ R : List (Nat × AV), (∀ (j : Nat) p, j < ops.size → L[j]? = some (some p) → get R p.1 = some p.2) → (∀ p ∈ T0, get R p.1 = some p.2) → ∃ σ', To ⟨R, Bs fun _ => true⟩ σ' ∧ K σ')
 (hBs : ∀ f : Nat → Bool, (∀ i, i < ops.size → f i = true) → Bs f = Bs fun _ => true) (hT0 : q6g T0 = true) : qb1 P ops σ K := by
 refine ⟨JR ops L T0 Bs, ⟨_, T0, fun _ => false, h0, by simp, fun j => ?_, Y, fun j p _ h => Bool.noConfusion h, fun p hp => ?_, fun j k _ h => Bool.noConfusion h⟩, fun listed σ i hJ hi => ?_, fun listed σ hJ hn => ?_⟩
 · rcases Nat.lt_or_ge j ops.size with h | h
   · simp [h]
   · simp [Nat.not_lt.2 h]
 · exact z3z hT0 hp
 · have hlt : i < ops.size := by obtain ⟨_, o, ho, _⟩ := mem_ready.1 hi; exact (Array.getElem?_eq_some_iff.1 ho).1
   exact JR.step (js i) hi hJ hA (List.all_eq_true.1 hjs i (List.mem_range.2 hlt)) (y6f hG (Nat.zero_le _) (by omega))
 · obtain ⟨σ0, R, f, hto, hsz, hf, rfl, hL, h0, hcl⟩ := hJ
   have hall : ∀ i, i < ops.size → f i = true := fun i hi => by
    have h1 := q8i hup hn i hi; rw [← hf i]; have hs : i < listed.size := by omega
    simpa [hs] using h1
   obtain ⟨σ', h1, h2⟩ := hK R (fun j p hj hp => hL j p hp (hall j hj)) h0; rw [← hBs f hall] at h1; exact ⟨σ', hto.trans h1, h2⟩
end Go.Sx
end
section
namespace Go.Sx
open Go.RowKit (Below)
def gAC (t : Nat) : GC → AC
 | .bor c => .b c
 | .giv _ _ rows => .h (1000000000 + t) rows.length
def yab : Nat → List GC → List AC
 | _, [] => []
 | t, c :: l => gAC t c :: yab (t + 1) l
def gAV (t : Nat) : GA → AV
 | .one c => .one (gAC t c)
 | .agg cs => .agg (yab t cs)
def gT : Nat → Nat → List GA → List (Nat × AV)
 | _, _, [] => []
 | i, t, .one c :: l => (i, gAV t (.one c)) :: gT (i + 1) (t + 1) l
 | i, t, .agg cs :: l => (i, gAV t (.agg cs)) :: gT (i + 1) (t + cs.length) l
def gB : Nat → List GC → List (Nat × AB)
 | _, [] => []
 | t, .bor _ :: l => gB (t + 1) l
 | t, .giv full sz rows :: l => (1000000000 + t, .arr full sz 0 rows) :: gB (t + 1) l
def z2p : Nat → List GC → List Value → List (AC × Value)
 | t, .giv _ _ rows :: l, u :: us => (.h (1000000000 + t) rows.length, u) :: z2p (t + 1) l us
 | t, .bor _ :: l, _ :: us => z2p (t + 1) l us
 | _, _, _ => []
def z6i (args : List GA) (σ : St) : List (Nat × List (List Cell)) → Prop
 | [] => True
 | (t, rows') :: l => (match nth (gcs args) t, get σ.b (1000000000 + t) with
   | some (.giv full sz rows), some (.arr full' sz' _ rows'') => full' = full ∧ sz' = sz ∧ rows'' = rows' ∧ rows'.length = rows.length ∧ q2d rows rows'
   | _, _ => False) ∧ z6i args σ l
def keys {α : Type} : List (Nat × α) → List Nat
 | [] => []
 | (t, _) :: l => (1000000000 + t) :: keys l
def ycb (P : Program) (fn : Func) (args : List GA) (res : Res) (back : List (Nat × List (List Cell))) (σ : St) : Prop := z4q P fn res (keys back) σ ∧ z6i args σ back
def QG (P : Program) (fn : Func) (args : List GA) (res : Res) (back : List (Nat × List (List Cell))) (e : Ex) (σ : St) : Prop := match e with | .exit _ => False | _ => ycb P fn args res back σ
theorem y1t {P : Program} {fn : Func} {args : List GA} {res : Res} {back : List (Nat × List (List Cell))} {e : Ex} {σ : St} (he : (match e with | .exit _ => false | _ => true) = true) (h : z4q P fn res (keys back) σ) (hb : z6i args σ back) : QG P fn args res back e σ := by
 cases e with
 | exit i => cases he
 | _ => exact ⟨h, hb⟩
section
variable {C : Ctx} {σ : St} {ρ : Env} {a : Act} {w : World}
theorem z6m : ∀ (t : Nat) (cs : List GC), (yab t cs).length = cs.length
 | _, [] => rfl
 | t, c :: l => by simp [yab, z6m (t + 1) l]
theorem q6l : ∀ {t : Nat} {cs : List GC} {k : Nat} {c : AC}, (yab t cs)[k]? = some c → ∃ g, cs[k]? = some g ∧ c = gAC (t + k) g
 | t, [], k, c, h => by simp [yab] at h
 | t, g :: l, k, c, h => by
   cases k with
   | zero => cases h; exact ⟨g, Y, Y⟩
   | succ k =>
     obtain ⟨g', h1, h2⟩ := q6l (t := t + 1) (cs := l) (k := k) (by simpa [yab] using h); exact ⟨g', by simpa using h1, by rw [h2]; congr 1; omega⟩
theorem q80 {B : List (Nat × AB)} : ∀ {args : List GA} {vals : List Value} {i t0 : Nat}, y3l args vals → (∀ (t : Nat) (g : GC) (u : Value), (gcs args)[t]? = some g → (q0j args vals)[t]? = some u → qv C w ρ B (gAC (t0 + t) g) u) →
 ∀ {k : Nat} {av : AV}, get (gT i t0 args) k = some av → ∃ j v, k = i + j ∧ vals[j]? = some v ∧ yw C w ρ B av v
 | [], vals, i, t0, _, _, k, av, h => by cases h
 | .one c :: l, [], i, t0, hs, _, k, av, h => hs.elim
 | .agg c :: l, [], i, t0, hs, _, k, av, h => hs.elim
 | .one c :: l, v :: vs, i, t0, hs, hX, k, av, h => by
   rw [gT, za] at h; by_cases hk : i = k
   · rw [if_pos hk] at h
     cases h; exact ⟨0, v, by omega, Y, hX 0 c v Y Y⟩
   · rw [if_neg hk] at h
     obtain ⟨j, v', h1, h2, h3⟩ := q80 (args := l) (vals := vs) (t0 := t0 + 1) hs (fun t g u hg hu => by
      have := hX (t + 1) g u (by simpa [gcs] using hg) (by simpa [q0j] using hu)
      rwa [show t0 + (t + 1) = t0 + 1 + t by omega] at this) h
     exact ⟨j + 1, v', by omega, by simpa using h2, h3⟩
 | .agg cs :: l, v :: vs, i, t0, hs, hX, k, av, h => by
   obtain ⟨⟨arr, rfl, h0⟩, hs⟩ := hs; rw [gT, za] at h; by_cases hk : i = k
   · rw [if_pos hk] at h
     cases h; refine ⟨0, _, by omega, Y, arr, Y, by rw [z6m, h0], fun k c u hc hu => ?_⟩; obtain ⟨g, hg, rfl⟩ := q6l hc; have hlt := (List.getElem?_eq_some_iff.1 hg).1; refine hX k g u ?_ ?_
     · simp only [gcs]; rw [List.getElem?_append_left hlt]; exact hg
     · simp only [q0j]; rw [List.getElem?_append_left (by rw [Array.length_toList]; omega), Array.getElem?_toList]; exact hu
   · rw [if_neg hk] at h
     obtain ⟨j, v', h1, h2, h3⟩ := q80 (args := l) (vals := vs) (t0 := t0 + cs.length) hs (fun t g u hg hu => by
      have := hX (cs.length + t) g u (by simp only [gcs]; rw [List.getElem?_append_right (by omega)]; simpa using hg) (by
       have e : arr.toList.length = cs.length := (Array.length_toList).trans h0
       simp only [q0j]; rw [List.getElem?_append_right (by omega), e]; simpa using hu)
      rwa [← Nat.add_assoc] at this) h
     exact ⟨j + 1, v', by omega, by simpa using h2, h3⟩
theorem y54 : ∀ {t0 : Nat} {cs : List GC} {β : Nat} {ab : AB}, get (gB t0 cs) β = some ab → ∃ k full sz rows, β = 1000000000 + (t0 + k) ∧ cs[k]? = some (.giv full sz rows) ∧ ab = .arr full sz 0 rows
 | t0, [], β, ab, h => by cases h
 | t0, .bor c :: l, β, ab, h => by
   obtain ⟨k, full, sz, rows, h1, h2, h3⟩ := y54 (t0 := t0 + 1) (cs := l) h; exact ⟨k + 1, full, sz, rows, by omega, by simpa using h2, h3⟩
 | t0, .giv full sz rows :: l, β, ab, h => by
   rw [gB, za] at h; by_cases hb : 1000000000 + t0 = β
   · rw [if_pos hb] at h; cases h; exact ⟨0, full, sz, rows, by omega, Y, Y⟩
   · rw [if_neg hb] at h
     obtain ⟨k, full, sz, rows, h1, h2, h3⟩ := y54 (t0 := t0 + 1) (cs := l) h; exact ⟨k + 1, full, sz, rows, by omega, by simpa using h2, h3⟩
theorem y80 : ∀ {t0 : Nat} {cs : List GC} {k : Nat} {full : Bool} {sz : Nat} {rows : List (List Cell)}, cs[k]? = some (.giv full sz rows) → get (gB t0 cs) (1000000000 + (t0 + k)) = some (.arr full sz 0 rows)
 | t0, [], k, full, sz, rows, h => by simp at h
 | t0, .bor c :: l, k, full, sz, rows, h => by
   cases k with
   | zero => cases h
   | succ k =>
     have := y80 (t0 := t0 + 1) (cs := l) (k := k) (by simpa using h); rw [show t0 + (k + 1) = t0 + 1 + k by omega]; exact this
 | t0, .giv full' sz' rows' :: l, k, full, sz, rows, h => by
   cases k with
   | zero => cases h; rw [gB, za, if_pos (by omega)]
   | succ k =>
     have := y80 (t0 := t0 + 1) (cs := l) (k := k) (by simpa using h); rw [gB, za, if_neg (by omega), show t0 + (k + 1) = t0 + 1 + k by omega]; exact this
theorem y1o : ∀ {t0 : Nat} {cs : List GC} {us : List Value} {g : AC × Value}, g ∈ z2p t0 cs us → ∃ k full sz rows u, g = (.h (1000000000 + (t0 + k)) rows.length, u) ∧ cs[k]? = some (.giv full sz rows) ∧ us[k]? = some u
 | t0, [], us, g, h => by cases us <;> simp [z2p] at h
 | t0, .bor c :: l, [], g, h => by simp [z2p] at h
 | t0, .giv _ _ _ :: l, [], g, h => by simp [z2p] at h
 | t0, .bor c :: l, u :: us, g, h => by
   obtain ⟨k, full, sz, rows, u', h1, h2, h3⟩ := y1o (t0 := t0 + 1) (cs := l) (us := us) h; exact ⟨k + 1, full, sz, rows, u', by rw [h1, show t0 + 1 + k = t0 + (k + 1) by omega], by simpa using h2, by simpa using h3⟩
 | t0, .giv full sz rows :: l, u :: us, g, h => by
   rcases List.mem_cons.1 h with rfl | h
   · exact ⟨0, full, sz, rows, u, Y, Y, Y⟩
   · obtain ⟨k, full, sz, rows, u', h1, h2, h3⟩ := y1o (t0 := t0 + 1) (cs := l) (us := us) h
     exact ⟨k + 1, full, sz, rows, u', by rw [h1, show t0 + 1 + k = t0 + (k + 1) by omega], by simpa using h2, by simpa using h3⟩
theorem y2h : ∀ {t0 : Nat} {cs : List GC} {us : List Value} {k : Nat} {full : Bool} {sz : Nat} {rows : List (List Cell)} {u : Value}, cs[k]? = some (.giv full sz rows) → us[k]? = some u → (AC.h (1000000000 + (t0 + k)) rows.length, u) ∈ z2p t0 cs us
 | t0, [], us, k, full, sz, rows, u, h, _ => by simp at h
 | t0, c :: l, [], k, full, sz, rows, u, _, h => by simp at h
 | t0, .bor c :: l, u' :: us, k, full, sz, rows, u, h, h' => by
   cases k with
   | zero => cases h
   | succ k =>
     have := y2h (t0 := t0 + 1) (cs := l) (us := us) (k := k) (by simpa using h) (by simpa using h'); rw [show t0 + (k + 1) = t0 + 1 + k by omega]; exact this
 | t0, .giv full' sz' rows' :: l, u' :: us, k, full, sz, rows, u, h, h' => by
   cases k with
   | zero => cases h; cases h'; exact List.mem_cons_self ..
   | succ k =>
     have := y2h (t0 := t0 + 1) (cs := l) (us := us) (k := k) (by simpa using h) (by simpa using h'); rw [show t0 + (k + 1) = t0 + 1 + k by omega]; exact List.mem_cons_of_mem _ this
theorem z2g {args : List GA} : ∀ {back : List (Nat × List (List Cell))} {t : Nat} {rows' : List (List Cell)}, z6i args σ back → get back t = some rows' → (1000000000 + t) ∈ keys back ∧ ∃ full sz rows ep, (gcs args)[t]? = some (.giv full sz rows) ∧ get σ.b (1000000000 + t) = some (.arr full sz ep rows') ∧ rows'.length = rows.length ∧ q2d rows rows'
 | [], t, rows', _, h => by cases h
 | (k, r) :: l, t, rows', hb, h => by
   rw [za] at h; by_cases hk : k = t
   · subst hk
     rw [if_pos rfl] at h; cases h; refine ⟨List.mem_cons_self .., ?_⟩; have h1 := hb.1; split at h1
     · rename_i full sz rows full' sz' ep rows'' e1 e2
       obtain ⟨rfl, rfl, rfl, h2, h3⟩ := h1; rw [z2b] at e1; exact ⟨_, _, rows, ep, e1, e2, h2, h3⟩
     · exact h1.elim
   · rw [if_neg hk] at h
     obtain ⟨h1, h2⟩ := z2g hb.2 h; exact ⟨List.mem_cons_of_mem _ h1, h2⟩
end
theorem CN.mono {w : World} {N N' : Nat → Prop} {full : Bool} {F : Nat → Prop} {c : Cell} {u : Value} (h : CN w N full F c u) (hN : ∀ x, x < w.heap.size → N x → N' x) : CN w N' full F c u := by
 cases full with
 | true => exact h
 | false => exact Rep.mono h hN
theorem PG.begin {P : Program} {f : Nat} {fn : Func} {c : Code} {args : List GA} {res : Res} {back : List (Nat × List (List Cell))} (hf : P.funcs[f]? = some fn) (hb : fn.body = some c) (hok : (okF P f && z0s fn.ntmps c && Nat.ble args.length fn.ntmps) = true)
 (h : G P (QG P fn args res back) [.code c] none ⟨gT 0 0 args, gB 0 (gcs args)⟩) : PG P f args res back := by
 simp only [Bool.and_eq_true] at hok; obtain ⟨⟨ho1, ho2⟩, ho3⟩ := hok; refine ⟨ho1, fun N S w vals hS1 hS2 hsh hcell => ?_⟩; refine calls_of_wp hf hb ?_; have hle : args.length ≤ fn.ntmps := Nat.le_of_ble_eq_true ho3
 have hshl : ∀ {args : List GA} {vals : List Value}, y3l args vals → vals.length = args.length := by
  intro args
  induction args with
  | nil => intro vals h; cases vals with | nil => rfl | cons _ _ => exact h.elim
  | cons ga l ih =>
    intro vals h
    cases vals with
    | nil => cases ga <;> exact h.elim
    | cons v vs =>
      cases ga with
      | one c => simp [ih (vals := vs) h]
      | agg cs => simp [ih (vals := vs) h.2]
 have hvl : vals.size = args.length := by simpa using hshl hsh
 have hlen := q2f hsh; generalize hC : Ctx.mk P fn.ntmps w N (fun x => ∃ t, S t x) (z2p 0 (gcs args) (q0j args vals.toList)) = C; generalize hρ : (⟨fun β => ((q0j args vals.toList)[β - 1000000000]?).getD undef, fun β x => S (β - 1000000000) x⟩ : Env) = ρ; have hname : ∀ t, 1000000000 + t - 1000000000 = t := fun t => by omega
 have hNB : ∀ x, N x → Bor C ρ (gB 0 (gcs args)) x := fun x hx => by
  refine ⟨?_, fun β ab hg hs => ?_⟩
  · rw [← hC]; exact .inl hx
  · rw [← hρ] at hs; exact (hS1 _ x hs).2 hx
 have hAC : ∀ (t : Nat) (g : GC) (u : Value), (gcs args)[t]? = some g → (q0j args vals.toList)[t]? = some u → qv C w ρ (gB 0 (gcs args)) (gAC (0 + t) g) u := fun t g u hg hu => by
  have hc := hcell t g u hg hu
  cases g with
  | bor c => exact Rep.mono hc (fun x _ hx => hNB x hx)
  | giv full sz rows =>
    obtain ⟨sz', _, hslab⟩ := hc; obtain ⟨A, cap, rfl⟩ := hslab.slice; refine ⟨⟨A, cap, Y⟩, _, y80 hg, fun full' sz1 ep rows' he => ?_⟩; cases he; refine ⟨Nat.le_refl _, fun _ => ?_⟩; rw [← hρ]; simp only [Nat.zero_add, hname, hu, Option.getD_some]
 have hinit : ye C ⟨gT 0 0 args, gB 0 (gcs args)⟩ ρ { tmps := vals ++ Array.replicate (fn.ntmps - vals.size) undef, defers := [] } w := by
  refine ⟨fun t av ht => ?_, fun β ab hg => ?_, fun β β' ab ab' x hg hg' hx hx' => ?_, fun β ab x hg hx => ?_, ?_, Y, ?_, fun g hg => ?_⟩
  · obtain ⟨j, v, h1, h2, h3⟩ := q80 hsh hAC ht
    have hj : j < vals.size := by have := (List.getElem?_eq_some_iff.1 h2).1; simpa using this
    refine ⟨v, ?_, h3⟩; have htj : t = j := by omega
    subst htj; rw [Array.getElem?_append, if_pos hj]
    simpa using h2
  · obtain ⟨k, full, sz, rows, rfl, h2, rfl⟩ := y54 hg
    have hlt : k < (q0j args vals.toList).length := by rw [hlen]; exact (List.getElem?_eq_some_iff.1 h2).1
    obtain ⟨sz', hsz, hslab⟩ := hcell k _ _ h2 (List.getElem?_eq_getElem hlt); refine ⟨sz', hsz, ?_⟩
    have e1 : ρ.v (1000000000 + (0 + k)) = (q0j args vals.toList)[k] := by
     rw [← hρ]; simp only [Nat.zero_add, hname, List.getElem?_eq_getElem hlt, Option.getD_some]
    have e2 : ρ.S (1000000000 + (0 + k)) = S k := by
     rw [← hρ]; simp only [Nat.zero_add, hname]
    rw [e1, e2, qa1 (σ := ⟨[], gB 0 (gcs args)⟩)]; exact z0e.imp hslab (fun _ h => h) (fun _ _ _ => Y) (fun _ _ _ _ hc => CN.mono hc (fun x _ hx => hNB x hx))
  · obtain ⟨k, _, _, _, rfl, _, _⟩ := y54 hg
    obtain ⟨k', _, _, _, rfl, _, _⟩ := y54 hg'; rw [← hρ] at hx hx'; have := hS2 _ _ x hx hx'; omega
  · rw [← hρ] at hx
    refine ⟨(hS1 _ x hx).1, .inr ?_⟩; rw [← hC]; exact ⟨_, hx⟩
  · rw [← hC]
    show (vals ++ Array.replicate (fn.ntmps - vals.size) undef).size = fn.ntmps; rw [Array.size_append, Array.size_replicate]; omega
  · rw [← hC]; exact zt.refl _ _
  · rw [← hC] at hg
    obtain ⟨k, full, sz, rows, u, rfl, h2, h3⟩ := y1o hg; exact hAC k (.giv full sz rows) u h2 h3
 have hCP : C.P = P := by rw [← hC]
 have hCT : C.T = fn.ntmps := by rw [← hC]
 have hQ : vc C.P c (fun (e : Ex) (σ : St) => match e with | .normal => G P (QG P fn args res back) [] none σ | .exit i => G P (QG P fn args res back) [] (some i) σ | .ret => QG P fn args res back .ret σ) ⟨gT 0 0 args, gB 0 (gcs args)⟩ := by rw [hCP]; exact h
 have hwp := y2f (C := C) (fun g hg => by
  rw [← hC] at hg; obtain ⟨k, _, _, _, _, rfl, _, _⟩ := y1o hg
  exact Nat.le_add_right _ _) (by rw [hCT]; exact ho2) ⟨ρ, hinit⟩ hQ
 rw [hCP] at hwp; refine wp_mono hwp (fun e a' w' hq => ?_); obtain ⟨e', he, σ', hr, ρ', hrel⟩ := hq
 have fin : ycb P fn args res back σ' → a'.defers = [] ∧ ∃ v, (results fn a'.tmps).run P w' = .ok v w' ∧ ∃ (v' : Value) (SR : Nat → Prop) (SB : Nat → Nat → Prop), Ending.returned v = .returned v' ∧ zt w w' (fun x => ∃ t, S t x) ∧ q1e w' (Rest N w S SR SB) SR res v' ∧
  (∀ x, SR x → (w.heap.size ≤ x ∨ ∃ t, S t x) ∧ x < w'.heap.size ∧ ∀ t, ¬ SB t x) ∧ (∀ t x, SB t x → (w.heap.size ≤ x ∨ ∃ t, S t x) ∧ x < w'.heap.size) ∧ (∀ t t' x, SB t x → SB t' x → t = t') ∧
  ∀ (t : Nat) (rows' : List (List Cell)), get back t = some rows' → ∀ (full : Bool) (sz : Nat) (rows : List (List Cell)) (u : Value), (gcs args)[t]? = some (.giv full sz rows) → (q0j args vals.toList)[t]? = some u →
    rows'.length = rows.length ∧ (∀ (i : Nat) (row row' : List Cell), rows[i]? = some row → rows'[i]? = some row' → row'.length = row.length) ∧ ∃ sz', (sz ≠ 0 → sz' = sz) ∧ z0e w' (CN w' (Rest N w S SR SB) full) (SB t) sz' rows' u := fun hret => by
  obtain ⟨hret, hbk⟩ := hret; rw [← hCP] at hret; obtain ⟨v, ms, h1, h2, h3⟩ := y2d hrel hret; rw [hCP] at h1
  have hmine : ∀ β ab x, get σ'.b β = some ab → ρ'.S β x → x < w'.heap.size ∧ (w.heap.size ≤ x ∨ ∃ t, S t x) := by
   have := hrel.mine; rw [← hC] at this; exact this
  have hkeep : zt w w' (fun x => ∃ t, S t x) := by
   have := hrel.keep; rw [← hC] at this; exact this
  have hfree : ∀ x, Bor C ρ' σ'.b x → N x ∨ w.heap.size ≤ x ∨ ∃ t, S t x := by
   intro x hx; have := hx.1; rw [← hC] at this; exact this
  have hrest : ∀ x, Bor C ρ' σ'.b x → Rest N w S (gS σ' ρ' ms) (fun t x => (get back t).isSome = true ∧ (∃ ab, get σ'.b (1000000000 + t) = some ab) ∧ ρ'.S (1000000000 + t) x) x := fun x hx =>
   ⟨hfree x hx, fun ⟨γ, _, ⟨ab, hab⟩, hs⟩ => hx.2 γ ab hab hs, fun t ⟨_, ⟨ab, hab⟩, hs⟩ => hx.2 _ ab hab hs⟩
  have hkey : ∀ t, (get back t).isSome = true → (1000000000 + t) ∈ keys back := fun t ht => by
   obtain ⟨rows', hr'⟩ := Option.isSome_iff_exists.1 ht; exact (z2g hbk hr').1
  refine ⟨hrel.defers, v, h1, v, gS σ' ρ' ms, fun t x => (get back t).isSome = true ∧ (∃ ab, get σ'.b (1000000000 + t) = some ab) ∧ ρ'.S (1000000000 + t) x, Y, hkeep, h2.mono hrest, fun x hx => ?_, fun t x hx => ?_, fun t t' x hx hx' => ?_, fun t rows' ht full sz rows u hg hu => ?_⟩
  · obtain ⟨γ, hγ, ⟨ab, hab⟩, hs⟩ := hx
    refine ⟨(hmine γ ab x hab hs).2, (hmine γ ab x hab hs).1, fun t ⟨h4, ⟨ab', hab'⟩, h6⟩ => ?_⟩; have := hrel.disj γ _ ab ab' x hab hab' hs h6; exact h3 γ hγ (this ▸ hkey t h4)
  · obtain ⟨_, ⟨ab, hab⟩, hs⟩ := hx
    exact ⟨(hmine _ ab x hab hs).2, (hmine _ ab x hab hs).1⟩
  · obtain ⟨_, ⟨ab, hab⟩, hs⟩ := hx
    obtain ⟨_, ⟨ab', hab'⟩, hs'⟩ := hx'; have := hrel.disj _ _ ab ab' x hab hab' hs hs'; omega
  · obtain ⟨_, full1, sz1, rows1, ep, e1, e2, e3, e4⟩ := z2g hbk ht
    rw [hg] at e1; cases e1; refine ⟨e3, e4, ?_⟩; obtain ⟨sz', hsz, hslab⟩ := hrel.y0k _ _ e2; refine ⟨sz', hsz, ?_⟩; have hgh := hrel.ghost (.h (1000000000 + (0 + t)) rows.length, u) (by rw [← hC]; exact y2h hg hu); obtain ⟨_, ab, h5, h6⟩ := hgh; simp only [Nat.zero_add] at h5 h6; rw [e2] at h5; cases h5; rw [(h6 _ _ _ _ rfl).2 e3.symm]; rw [qa1] at hslab; exact z0e.imp hslab (fun x hx => ⟨by rw [ht]; rfl, ⟨_, e2⟩, hx⟩) (fun _ _ _ => Y) (fun _ _ _ _ hc => CN.mono hc (fun x _ hx => hrest x hx))
 cases e <;> simp only [y7y, Option.some.injEq] at he <;> first | (subst he) | cases he
 · exact fin hr
 · exact hr.elim
 · exact fin hr
def q5d (t : Nat) : PK → AC
 | .k _ => .mx 2 (1100000000 + t)
 | .n (.s v) _ => .b (.s v)
 | .n (.l _ rows) _ => .h (1100000000 + t) rows.length
 | .b _ rows _ => .h (1100000000 + t) rows.length
def q8h : Nat → List PK → List AC
 | _, [] => []
 | t, c :: l => q5d t c :: q8h (t + 1) l
def pkB : Nat → List PK → List (Nat × AB)
 | _, [] => []
 | t, .k c :: l => (1100000000 + t, .kp c) :: pkB (t + 1) l
 | t, .n (.s _) _ :: l => pkB (t + 1) l
 | t, .n (.l sz rows) _ :: l => (1100000000 + t, .arr true sz 0 rows) :: pkB (t + 1) l
 | t, .b sz rows _ :: l => (1100000000 + t, .arr true sz 0 rows) :: pkB (t + 1) l
def q6x (p : Nat) : Nat → List SV → List (Nat × AV)
 | _, [] => []
 | i, sv :: l => (i, bif Nat.beq i p then .one (.a 1100000000 0) else qbj sv) :: q6x p (i + 1) l
def z5p (σ : St) : Nat → List AC → List PK → Prop
 | _, [], [] => True
 | t, c :: l, .k _ :: l' => (c = .mx 2 (1100000000 + t) ∧ (match get σ.b (1100000000 + t) with | some (.kp _) => True | _ => False)) ∧ z5p σ (t + 1) l l'
 | t, c :: l, .n _ c' :: l' => mOC σ.b c c' ∧ z5p σ (t + 1) l l'
 | t, c :: l, .b sz rows rows' :: l' => (c = .h (1100000000 + t) rows.length ∧ (match get σ.b (1100000000 + t) with | some (.arr true sz' _ rows'') => sz' = sz ∧ rows'' = rows' ∧ rows'.length = rows.length ∧ q2d rows rows' | _ => False)) ∧ z5p σ (t + 1) l l'
 | _, _, _ => False
def qbi (P : Program) (fn : Func) (cs : List PK) (res : Res) (σ : St) : Prop := match get σ.b 1100000000 with
 | some (.var acs) => z5p σ 1 acs cs ∧ z4q P fn res (1100000000 :: y0v acs cs) σ
 | _ => False
def QP (P : Program) (fn : Func) (cs : List PK) (res : Res) (e : Ex) (σ : St) : Prop := match e with | .exit _ => False | _ => qbi P fn cs res σ
theorem z8w {P : Program} {fn : Func} {cs : List PK} {res : Res} {e : Ex} {σ : St} {acs : List AC} (he : (match e with | .exit _ => false | _ => true) = true) (hg : get σ.b 1100000000 = some (.var acs)) (hb : z5p σ 1 acs cs) (h : z4q P fn res (1100000000 :: y0v acs cs) σ) : QP P fn cs res e σ := by
 have h1 : qbi P fn cs res σ := by unfold qbi; rw [hg]; exact ⟨hb, h⟩
 cases e with
 | exit i => cases he
 | _ => exact h1
def ghP : Nat → List PK → List Value → List (AC × Value)
 | t, .k _ :: l, u :: us => (.mx 2 (1100000000 + t), u) :: ghP (t + 1) l us
 | t, .b _ rows _ :: l, u :: us => (.h (1100000000 + t) rows.length, u) :: ghP (t + 1) l us
 | t, .n _ _ :: l, _ :: us => ghP (t + 1) l us
 | _, _, _ => []
theorem q6p : ∀ (t : Nat) (cs : List PK), (q8h t cs).length = cs.length
 | _, [] => rfl
 | t, c :: l => by simp [q8h, q6p (t + 1) l]
theorem y6p : ∀ {t : Nat} {cs : List PK} {k : Nat} {c : AC}, (q8h t cs)[k]? = some c → ∃ q, cs[k]? = some q ∧ c = q5d (t + k) q
 | t, [], k, c, h => by simp [q8h] at h
 | t, q :: l, k, c, h => by
   cases k with
   | zero => cases h; exact ⟨q, Y, Y⟩
   | succ k =>
     obtain ⟨q', h1, h2⟩ := y6p (t := t + 1) (cs := l) (k := k) (by simpa [q8h] using h); exact ⟨q', by simpa using h1, by rw [h2]; congr 1; omega⟩
def zbh : PK → Option AB
 | .k c => some (.kp c)
 | .n (.s _) _ => none
 | .n (.l sz rows) _ => some (.arr true sz 0 rows)
 | .b sz rows _ => some (.arr true sz 0 rows)
theorem z8h : ∀ {t : Nat} {cs : List PK} {β : Nat} {ab : AB}, get (pkB t cs) β = some ab → ∃ k q, β = 1100000000 + (t + k) ∧ cs[k]? = some q ∧ zbh q = some ab
 | t, [], β, ab, h => by cases h
 | t, q :: l, β, ab, h => by
   have step : get (pkB (t + 1) l) β = some ab → ∃ k q', β = 1100000000 + (t + k) ∧ (q :: l)[k]? = some q' ∧ zbh q' = some ab := fun h => by
    obtain ⟨k, q', h1, h2, h3⟩ := z8h (t := t + 1) (cs := l) h; exact ⟨k + 1, q', by omega, by simpa using h2, h3⟩
   cases q with
   | k c =>
     rw [pkB, za] at h; by_cases hb : 1100000000 + t = β
     · rw [if_pos hb] at h; cases h; exact ⟨0, _, by omega, Y, Y⟩
     · rw [if_neg hb] at h; exact step h
   | n o c' =>
     cases o with
     | s v => exact step h
     | l sz rows =>
       rw [pkB, za] at h; by_cases hb : 1100000000 + t = β
       · rw [if_pos hb] at h; cases h; exact ⟨0, _, by omega, Y, Y⟩
       · rw [if_neg hb] at h; exact step h
   | b sz rows rows' =>
     rw [pkB, za] at h; by_cases hb : 1100000000 + t = β
     · rw [if_pos hb] at h; cases h; exact ⟨0, _, by omega, Y, Y⟩
     · rw [if_neg hb] at h; exact step h
theorem y8h : ∀ {t : Nat} {cs : List PK} {k : Nat} {q : PK} {ab : AB}, cs[k]? = some q → zbh q = some ab → get (pkB t cs) (1100000000 + (t + k)) = some ab
 | t, [], k, q, ab, h, _ => by simp at h
 | t, q0 :: l, k, q, ab, h, ha => by
   cases k with
   | zero =>
     cases h
     cases q0 with
     | k c => cases ha; rw [pkB, za, if_pos (by omega)]
     | n o c' =>
       cases o with
       | s v => cases ha
       | l sz rows => cases ha; rw [pkB, za, if_pos (by omega)]
     | b sz rows rows' => cases ha; rw [pkB, za, if_pos (by omega)]
   | succ k =>
     have h1 := y8h (t := t + 1) (cs := l) (k := k) (by simpa using h) ha; have e : t + (k + 1) = t + 1 + k := by omega
     rw [e]
     cases q0 with
     | k c => rw [pkB, za, if_neg (by omega)]; exact h1
     | n o c' =>
       cases o with
       | s v => exact h1
       | l sz rows => rw [pkB, za, if_neg (by omega)]; exact h1
     | b sz rows rows' => rw [pkB, za, if_neg (by omega)]; exact h1
theorem y5v : ∀ {t : Nat} {cs : List PK} {us : List Value} {g : AC × Value}, g ∈ ghP t cs us → ∃ k q u, cs[k]? = some q ∧ us[k]? = some u ∧ g = (q5d (t + k) q, u) ∧ ((∃ c, q = .k c) ∨ ∃ sz rows rows', q = .b sz rows rows')
 | t, [], us, g, h => by cases us <;> simp [ghP] at h
 | t, q :: l, [], g, h => by cases q <;> simp [ghP] at h
 | t, q :: l, u :: us, g, h => by
   have step : g ∈ ghP (t + 1) l us → ∃ k q' u', (q :: l)[k]? = some q' ∧ (u :: us)[k]? = some u' ∧ g = (q5d (t + k) q', u') ∧ ((∃ c, q' = .k c) ∨ ∃ sz rows rows', q' = .b sz rows rows') := fun h => by
    obtain ⟨k, q', u', h1, h2, h3, h4⟩ := y5v h; exact ⟨k + 1, q', u', by simpa using h1, by simpa using h2, by rw [h3]; congr 2; omega, h4⟩
   cases q with
   | k c =>
     rcases List.mem_cons.1 h with rfl | h
     · exact ⟨0, _, u, Y, Y, Y, .inl ⟨c, Y⟩⟩
     · exact step h
   | n o c' => exact step h
   | b sz rows rows' =>
     rcases List.mem_cons.1 h with rfl | h
     · exact ⟨0, _, u, Y, Y, Y, .inr ⟨sz, rows, rows', Y⟩⟩
     · exact step h
theorem q5v : ∀ {t : Nat} {cs : List PK} {us : List Value} {k : Nat} {q : PK} {u : Value}, cs[k]? = some q → us[k]? = some u → ((∃ c, q = .k c) ∨ ∃ sz rows rows', q = .b sz rows rows') → (q5d (t + k) q, u) ∈ ghP t cs us
 | t, [], us, k, q, u, h, _, _ => by simp at h
 | t, _ :: _, [], k, q, u, _, h, _ => by simp at h
 | t, q0 :: l, u0 :: us, k, q, u, h, h', hq => by
   cases k with
   | zero =>
     cases h; cases h'; rcases hq with ⟨c, rfl⟩ | ⟨sz, rows, rows', rfl⟩ <;> exact List.mem_cons_self ..
   | succ k =>
     have h1 := q5v (t := t + 1) (cs := l) (us := us) (k := k) (by simpa using h) (by simpa using h') hq; have e : t + (k + 1) = t + 1 + k := by omega
     rw [e]
     cases q0 with
     | n o c' => exact h1
     | _ => exact List.mem_cons_of_mem _ h1
theorem y4x {σ : St} : ∀ {t : Nat} {acs : List AC} {cs : List PK}, z5p σ t acs cs → acs.length = cs.length ∧ ∀ (k : Nat) (q : PK), cs[k]? = some q → ∃ c, acs[k]? = some c ∧
 (match q with
   | .k _ => c = .mx 2 (1100000000 + (t + k)) ∧ ∃ c0, get σ.b (1100000000 + (t + k)) = some (.kp c0)
   | .n _ c' => mOC σ.b c c'
   | .b sz rows rows' => c = .h (1100000000 + (t + k)) rows.length ∧ ∃ ep, get σ.b (1100000000 + (t + k)) = some (.arr true sz ep rows') ∧ rows'.length = rows.length ∧ q2d rows rows')
 | t, [], [], _ => ⟨rfl, fun k q h => by simp at h⟩
 | t, [], q :: l', h => by cases q <;> exact h.elim
 | t, c :: l, [], h => h.elim
 | t, c :: l, q :: l', h => by
   have hb : z5p σ (t + 1) l l' := by cases q <;> exact h.2
   obtain ⟨h1, h2⟩ := y4x hb; refine ⟨by simp [h1], fun k q' hq => ?_⟩
   cases k with
   | zero =>
     cases hq; refine ⟨c, Y, ?_⟩
     cases q with
     | k c0 =>
       obtain ⟨⟨h3, h4⟩, _⟩ := h; split at h4
       · rename_i c1 hc1; exact ⟨h3, c1, hc1⟩
       · exact h4.elim
     | n o c' => exact h.1
     | b sz rows rows' =>
       obtain ⟨⟨h3, h4⟩, _⟩ := h; split at h4
       · rename_i sz' ep rows'' hc1
         obtain ⟨rfl, rfl, h5, h6⟩ := h4; exact ⟨h3, ep, hc1, h5, h6⟩
       · exact h4.elim
   | succ k =>
     obtain ⟨c1, h3, h4⟩ := h2 k q' (by simpa using hq); have e : t + (k + 1) = t + 1 + k := by omega
     rw [e]; exact ⟨c1, by simpa using h3, h4⟩
theorem z4x {p : Nat} : ∀ {args : List SV} {i k : Nat} {av : AV}, get (q6x p i args) k = some av → ∃ j sv, k = i + j ∧ args[j]? = some sv ∧ av = (bif Nat.beq k p then .one (.a 1100000000 0) else qbj sv)
 | [], i, k, av, h => by cases h
 | sv :: l, i, k, av, h => by
   rw [q6x, za] at h; by_cases hk : i = k
   · rw [if_pos hk] at h; cases h; subst hk; exact ⟨0, sv, Y, Y, Y⟩
   · rw [if_neg hk] at h
     obtain ⟨j, sv', h1, h2, h3⟩ := z4x h; exact ⟨j + 1, sv', by omega, by simpa using h2, h3⟩
theorem q9l {C : Ctx} {w : World} {ρ : Env} {B : List (Nat × AB)} {sv : SV} {v : Value} (h : z6w w (Bor C ρ B) sv v) : yw C w ρ B (qbj sv) v := by
 cases sv with
 | one c => exact h
 | agg cs =>
   obtain ⟨arr, rfl, h1, h2⟩ := h; refine ⟨arr, Y, by simp [h1], fun k c u hc hu => ?_⟩; rw [List.getElem?_map] at hc
   cases hk : cs[k]? with
   | none => rw [hk] at hc; cases hc
   | some c0 => rw [hk] at hc; cases hc; exact h2 k c0 u hk hu
theorem z6w.mono {w : World} {N N' : Nat → Prop} {sv : SV} {v : Value} (h : z6w w N sv v) (hN : ∀ x, N x → N' x) : z6w w N' sv v := by
 cases sv with
 | one c => exact Rep.mono h (fun x _ hx => hN x hx)
 | agg cs =>
   obtain ⟨arr, rfl, h1, h2⟩ := h; exact ⟨arr, Y, h1, fun k c u hc hu => Rep.mono (h2 k c u hc hu) (fun x _ hx => hN x hx)⟩
theorem PP.begin {P : Program} {f p : Nat} {fn : Func} {c : Code} {cs : List PK} {args : List SV} {res : Res} (hf : P.funcs[f]? = some fn) (hb : fn.body = some c) (hok : (okF P f && z0s fn.ntmps c && Nat.ble args.length fn.ntmps) = true)
 (h : G P (QP P fn cs res) [.code c] none ⟨q6x p 0 args, (1100000000, .var (q8h 1 cs)) :: pkB 1 cs⟩) : PP P f p cs args res := by
 simp only [Bool.and_eq_true] at hok; obtain ⟨⟨ho1, ho2⟩, ho3⟩ := hok; refine ⟨ho1, fun N F w vals cells g ty hF hNg hFd hg hsz hcell hvs hp hargs => ?_⟩; refine calls_of_wp hf hb ?_; have hle : args.length ≤ fn.ntmps := Nat.le_of_ble_eq_true ho3; generalize hC : Ctx.mk P fn.ntmps w N (fun x => x = g ∨ ∃ k, F k x) ((.a 1100000000 0, .pointer (some ⟨g, 0, none⟩)) :: ghP 1 cs cells.toList) = C; generalize hρ : (⟨fun β => if β = 1100000000 then .pointer (some ⟨g, 0, none⟩) else (cells[β - 1100000001]?).getD undef, fun β x => if β = 1100000000 then x = g else (∃ q, cs[β - 1100000001]? = some q ∧ ∀ c, q ≠ .k c) ∧ F (β - 1100000001) x⟩ : Env) = ρ; generalize hB : ((1100000000, .var (q8h 1 cs)) :: pkB 1 cs : List (Nat × AB)) = B; have hname : ∀ k, 1100000000 + (1 + k) - 1100000001 = k := fun k => by omega
 have hne : ∀ k, ¬ (1100000000 + (1 + k) = 1100000000) := fun k => by omega
 have hρv : ∀ k, ρ.v (1100000000 + (1 + k)) = (cells[k]?).getD undef := fun k => by rw [← hρ]; simp only [hne, if_false, hname]
 have hρS : ∀ k x, ρ.S (1100000000 + (1 + k)) x ↔ (∃ q, cs[k]? = some q ∧ ∀ c, q ≠ .k c) ∧ F k x := fun k x => by rw [← hρ]; simp only [hne, if_false, hname]
 have hρv0 : ρ.v 1100000000 = .pointer (some ⟨g, 0, none⟩) := by rw [← hρ]; simp
 have hρS0 : ∀ x, ρ.S 1100000000 x ↔ x = g := fun x => by rw [← hρ]; simp
 have getB : ∀ {β : Nat} {ab : AB}, get B β = some ab → (β = 1100000000 ∧ ab = .var (q8h 1 cs)) ∨ ∃ k q, β = 1100000000 + (1 + k) ∧ cs[k]? = some q ∧ zbh q = some ab := fun {β ab} hb => by
  rw [← hB, za] at hb; by_cases h0 : 1100000000 = β
  · rw [if_pos h0] at hb; cases hb; exact .inl ⟨h0.symm, Y⟩
  · rw [if_neg h0] at hb; exact .inr (z8h hb)
 have putB : ∀ {k : Nat} {q : PK} {ab : AB}, cs[k]? = some q → zbh q = some ab → get B (1100000000 + (1 + k)) = some ab := fun {k q ab} h1 h2 => by
  rw [← hB, za, if_neg (by omega)]; exact y8h h1 h2
 have hNB : ∀ x, N x → Bor C ρ B x := fun x hx => by
  refine ⟨by rw [← hC]; exact .inl hx, fun β ab hg' hs => ?_⟩; rcases getB hg' with ⟨rfl, _⟩ | ⟨k, q, rfl, _, _⟩
  · rw [hρS0] at hs; subst hs; exact hNg hx
  · rw [hρS] at hs; exact (hF k x hs.2).2.1 hx
 have hlt : ∀ {k : Nat} {q : PK}, cs[k]? = some q → k < cells.size := fun {k q} hq => by rw [hsz]; exact (List.getElem?_eq_some_iff.1 hq).1
 have hcu : ∀ {k : Nat} {q : PK}, cs[k]? = some q → cells[k]? = some ((cells[k]?).getD undef) := fun {k q} hq => by
  have := hlt hq; simp [this]
 have hAC : ∀ (k : Nat) (q : PK) (u : Value), cs[k]? = some q → cells[k]? = some u → qv C w ρ B (q5d (1 + k) q) u := fun k q u hq hu => by
  have hc := hcell k q u hq hu; have hvu : ρ.v (1100000000 + (1 + k)) = u := by rw [hρv, hu]; rfl
  cases q with
  | k c0 => exact ⟨Rep.one hc, _, putB hq rfl, fun _ => hvu.symm⟩
  | n o c' =>
    cases o with
    | s v => obtain ⟨rfl, h1⟩ := hc; exact .s _ h1
    | l sz rows =>
      obtain ⟨sz', _, hslab⟩ := hc; obtain ⟨A, cap, hv⟩ := hslab.slice; refine ⟨⟨A, cap, hv⟩, _, putB hq Y, fun full sz1 ep rows' he => ?_⟩; cases he; exact ⟨Nat.le_refl _, fun _ => hvu.symm⟩
  | b sz rows rows' =>
    obtain ⟨sz', _, hslab⟩ := hc; obtain ⟨A, cap, hv⟩ := hslab.slice; refine ⟨⟨A, cap, hv⟩, _, putB hq Y, fun full sz1 ep rows' he => ?_⟩; cases he; exact ⟨Nat.le_refl _, fun _ => hvu.symm⟩
 have hslabs : ∀ {k sz : Nat} {rows : List (List Cell)} {q : PK}, cs[k]? = some q → (∀ c, q ≠ .k c) → y23 w (F k) (.l sz rows) ((cells[k]?).getD undef) → z0n C w ρ B (1100000000 + (1 + k)) (.arr true sz 0 rows) := fun {k sz rows q} hq hn ho => by
  obtain ⟨sz', hsz', hslab⟩ := ho; refine ⟨sz', hsz', ?_⟩; rw [hρv]; exact z0e.imp hslab (fun x hx => by rw [hρS]; exact ⟨⟨q, hq, hn⟩, hx⟩) (fun _ _ _ => Y) (fun _ _ _ _ hc => hc)
 have hinit : ye C ⟨q6x p 0 args, B⟩ ρ { tmps := vals ++ Array.replicate (fn.ntmps - vals.size) undef, defers := [] } w := by
  refine ⟨fun t av ht => ?_, fun β ab hg' => ?_, fun β β' ab ab' x hg1 hg2 hx hx' => ?_, fun β ab x hg' hx => ?_, ?_, Y, ?_, fun g' hg' => ?_⟩
  · obtain ⟨j, sv, h1, h2, h3⟩ := z4x ht
    have hj : j < vals.size := by rw [hvs]; exact (List.getElem?_eq_some_iff.1 h2).1
    have htj : t = j := by omega
    subst htj; refine ⟨vals[t], ?_, ?_⟩
    · rw [Array.getElem?_append, if_pos hj]; simp [hj]
    · rw [h3]
      by_cases htp : t = p
      · subst htp
        rw [Nat.beq_refl, cond_true]; have : vals[t] = .pointer (some ⟨g, 0, none⟩) := by rw [Array.getElem?_eq_getElem hj] at hp; exact Option.some.inj hp
        refine ⟨.var (q8h 1 cs), g, by rw [← hB, za, if_pos rfl], this, fun _ _ => hρv0⟩
      · have : Nat.beq t p = false := beq_false htp
        rw [this, cond_false]; exact q9l ((hargs t sv vals[t] htp h2 (by simp [hj])).mono hNB)
  · rcases getB hg' with ⟨rfl, rfl⟩ | ⟨k, q, rfl, h1, h2⟩
    · refine ⟨g, cells, ty, hρv0, by rw [hρS0], hg, by rw [q6p, hsz], fun k c u hc hu => ?_⟩
      obtain ⟨q, h1, rfl⟩ := y6p hc; exact hAC k q u h1 hu
    · have hu := hcu h1
      have hc := hcell k q _ h1 hu
      cases q with
      | k c0 =>
        cases h2; show Rep w (Bor C ρ B) c0 (ρ.v (1100000000 + (1 + k))); rw [hρv]; exact Rep.mono hc (fun x _ hx => hNB x hx)
      | n o c' =>
        cases o with
        | s v => cases h2
        | l sz rows => cases h2; exact hslabs h1 (fun _ h => by cases h) hc
      | b sz rows rows' => cases h2; exact hslabs h1 (fun _ h => by cases h) hc
  · rcases getB hg1 with ⟨rfl, _⟩ | ⟨k, q, rfl, _, _⟩ <;> rcases getB hg2 with ⟨rfl, _⟩ | ⟨k', q', rfl, _, _⟩
    · rfl
    · rw [hρS0] at hx; rw [hρS] at hx'; exact absurd hx (hF k' x hx'.2).2.2
    · rw [hρS0] at hx'; rw [hρS] at hx; exact absurd hx' (hF k x hx.2).2.2
    · rw [hρS] at hx hx'; rw [hFd k k' x hx.2 hx'.2]
  · rcases getB hg' with ⟨rfl, _⟩ | ⟨k, q, rfl, _, _⟩
    · rw [hρS0] at hx
      subst hx; exact ⟨(Array.getElem?_eq_some_iff.1 hg).1, .inr (by rw [← hC]; exact .inl rfl)⟩
    · rw [hρS] at hx
      exact ⟨(hF k x hx.2).1, .inr (by rw [← hC]; exact .inr ⟨k, hx.2⟩)⟩
  · rw [← hC]
    show (vals ++ Array.replicate (fn.ntmps - vals.size) undef).size = fn.ntmps; rw [Array.size_append, Array.size_replicate]; omega
  · rw [← hC]; exact zt.refl _ _
  · rw [← hC] at hg'
    rcases List.mem_cons.1 hg' with rfl | hg'
    · exact ⟨.var (q8h 1 cs), g, by rw [← hB, za, if_pos rfl], Y, fun _ _ => hρv0⟩
    · obtain ⟨k, q, u, h1, h2, rfl, _⟩ := y5v hg'
      exact hAC k q u h1 (by simpa using h2)
 have hCP : C.P = P := by rw [← hC]
 have hCT : C.T = fn.ntmps := by rw [← hC]
 rw [hB] at h; have hQ : vc C.P c (fun (e : Ex) (σ : St) => match e with | .normal => G P (QP P fn cs res) [] none σ | .exit i => G P (QP P fn cs res) [] (some i) σ | .ret => QP P fn cs res .ret σ) ⟨q6x p 0 args, B⟩ := by rw [hCP]; exact h
 have hwp := y2f (C := C) (fun g' hg' => by
  rw [← hC] at hg'; rcases List.mem_cons.1 hg' with rfl | hg'
  · show 1000000000 ≤ 1100000000; omega
  obtain ⟨k, q, u, _, _, rfl, hq⟩ := y5v hg'; rcases hq with ⟨c0, rfl⟩ | ⟨sz, rows, rows', rfl⟩
  · show 1000000000 ≤ 1100000000 + (1 + k); omega
  · show 1000000000 ≤ 1100000000 + (1 + k); omega) (by rw [hCT]; exact ho2) ⟨ρ, hinit⟩ hQ
 rw [hCP] at hwp; refine wp_mono hwp (fun e a' w' hq => ?_); obtain ⟨e', he, σ', hr, ρ', hrel⟩ := hq
 have fin : qbi P fn cs res σ' → a'.defers = [] ∧ ∃ v, (results fn a'.tmps).run P w' = .ok v w' ∧ ∃ (v' : Value) (SR : Nat → Prop) (F' : Nat → Nat → Prop) (cells' : Array Value) (ty' : TypeId), Ending.returned v = .returned v' ∧ zt w w' (fun x => x = g ∨ ∃ k, F k x) ∧
  w'.heap[g]? = some (.cells cells' ty' (0, 0)) ∧ cells'.size = cs.length ∧ (∀ (k : Nat) (c : PK) (u u' : Value), cs[k]? = some c → cells[k]? = some u → cells'[k]? = some u' → qbu w' (F' k) c u u') ∧
  q1e w' (fun _ => True) SR res v' ∧ (∀ x, SR x → (w.heap.size ≤ x ∨ ∃ k, F k x) ∧ x < w'.heap.size ∧ x ≠ g ∧ ∀ k, ¬ F' k x) ∧
  (∀ k x, F' k x → (w.heap.size ≤ x ∨ ∃ k, F k x) ∧ x < w'.heap.size ∧ x ≠ g) ∧ ∀ k k' x, F' k x → F' k' x → k = k' := fun hret => by
  unfold qbi at hret; split at hret
  case h_2 => exact hret.elim
  rename_i acs hβ; obtain ⟨hbk, hret⟩ := hret; rw [← hCP] at hret; obtain ⟨v, ms, h1, h2, h3⟩ := y2d hrel hret; rw [hCP] at h1; obtain ⟨hlen, hbk'⟩ := y4x hbk
  have hnd : (1100000000 :: y0v acs cs).Nodup := by
   cases res with
   | one rc =>
     simp only [z4q] at hret; split at hret
     · obtain ⟨av, u, ⟨_, h4⟩, _⟩ := y2l hrel hret
       exact (List.nodup_append.1 h4).2.1
     · exact hret.elim
   | tup rcs =>
     obtain ⟨_, hret⟩ := hret; obtain ⟨avs, vs, ⟨_, h4⟩, _⟩ := q20 hrel hret; exact (List.nodup_append.1 h4).2.1
  obtain ⟨g1, cells', ty', h4, h5, h6, h7, h8⟩ := hrel.y0k _ _ hβ
  have hmine : ∀ β ab x, get σ'.b β = some ab → ρ'.S β x → x < w'.heap.size ∧ (w.heap.size ≤ x ∨ x = g ∨ ∃ k, F k x) := by
   have := hrel.mine; rw [← hC] at this; exact this
  have hkeep : zt w w' (fun x => x = g ∨ ∃ k, F k x) := by
   have := hrel.keep; rw [← hC] at this; exact this
  have hgh0 := hrel.ghost (.a 1100000000 0, .pointer (some ⟨g, 0, none⟩)) (by rw [← hC]; exact List.mem_cons_self ..); obtain ⟨ab2, g2, hg2, he2, hv2⟩ := hgh0; rw [hβ] at hg2; cases hg2; cases he2; have hv3 := hv2 acs rfl; rw [h4] at hv3; cases hv3; have hnot : 1100000000 ∉ y0v acs cs := (List.nodup_cons.1 hnd).1
  have hgam : ∀ {k γ : Nat} {c : AC} {q : PK}, acs[k]? = some c → cs[k]? = some q → y7c c q = some γ → ∃ ab, get σ'.b γ = some ab := fun {k γ c q} e1 e2 e3 => by
   obtain ⟨c', e4, e5⟩ := hbk' k q e2; rw [e1] at e4; cases e4
   cases c with
   | h γ' n =>
     cases q with
     | k c' => cases e3
     | n o c' => cases e3; obtain ⟨_, _, _, e6⟩ := y8b e5; exact ⟨_, e6⟩
     | b sz rows rows' => cases e3; obtain ⟨e6, ep, e7, _⟩ := e5; cases e6; exact ⟨_, e7⟩
   | _ => cases q <;> cases e3
  have hSg : ρ'.S 1100000000 g := h5; refine ⟨hrel.defers, v, h1, v, gS σ' ρ' ms, fun k x => ∃ c q γ, acs[k]? = some c ∧ cs[k]? = some q ∧ y7c c q = some γ ∧ ρ'.S γ x, cells', ty', Y, hkeep, h6, by rw [h7, hlen], fun k q u u' hq hu hu' => ?_, h2.mono (fun _ _ => trivial), fun x hx => ?_, fun k x hx => ?_, fun k k' x hx hx' => ?_⟩
  · obtain ⟨c, hc, hm⟩ := hbk' k q hq
    have hrelu := h8 k c u' hc hu'
    cases q with
    | k c0 =>
      obtain ⟨rfl, c1, hkp⟩ := hm; have hgh := hrel.ghost (q5d (1 + k) (.k c0), u) (by rw [← hC]; exact List.mem_cons_of_mem _ (q5v hq (by simpa using hu) (.inl ⟨c0, Y⟩))); obtain ⟨_, ab, f1, f2⟩ := hrelu; obtain ⟨_, ab', f3, f4⟩ := hgh; rw [hkp] at f1 f3; cases f1; cases f3; exact (f2 Y).trans (f4 Y).symm
    | n o c' =>
      have f1 := z8g hrel hrelu hm
      have hsub : ∀ x, (∃ γ n, c = .h γ n ∧ ρ'.S γ x) → ∃ c q γ, acs[k]? = some c ∧ cs[k]? = some q ∧ y7c c q = some γ ∧ ρ'.S γ x := fun x ⟨γ, n, hc', hx⟩ => by
       subst hc'; exact ⟨_, _, γ, hc, hq, Y, hx⟩
      cases c' with
      | s v => exact f1
      | l sz rows =>
        obtain ⟨sz', f2, f3⟩ := f1; exact ⟨sz', f2, z0e.imp f3 hsub (fun _ _ _ => Y) (fun _ _ _ _ h => h)⟩
    | b sz rows rows' =>
      obtain ⟨rfl, ep, f1, f2, f3⟩ := hm; have hgh := hrel.ghost (q5d (1 + k) (.b sz rows rows'), u) (by rw [← hC]; exact List.mem_cons_of_mem _ (q5v hq (by simpa using hu) (.inr ⟨sz, rows, rows', Y⟩))); obtain ⟨_, ab, f4, f5⟩ := hrelu; obtain ⟨_, ab', f6, f7⟩ := hgh; rw [f1] at f4 f6; cases f4; cases f6; have e1 := (f5 _ _ _ _ rfl).2 f2.symm; have e2 := (f7 _ _ _ _ rfl).2 f2.symm; refine ⟨e1.trans e2.symm, f2, f3, ?_⟩; obtain ⟨sz', f8, hslab⟩ := hrel.y0k _ _ f1; refine ⟨sz', f8, ?_⟩; rw [e1]; exact z0e.imp hslab (fun x hx => ⟨_, _, _, hc, hq, Y, hx⟩) (fun _ _ _ => Y) (fun _ _ _ _ h => h)
  · obtain ⟨γ, hγ, ⟨ab, hab⟩, hs⟩ := hx
    have hb := h3 γ hγ; have hne0 : γ ≠ 1100000000 := fun e => hb (by rw [e]; exact List.mem_cons_self ..)
    have hxg : x ≠ g := fun e => by subst e; exact hne0 (hrel.disj γ _ ab _ x hab hβ hs hSg)
    obtain ⟨m1, m2⟩ := hmine γ ab x hab hs; refine ⟨m2.elim .inl (fun m2 => m2.elim (fun e => absurd e hxg) .inr), m1, hxg, fun k hk => ?_⟩; obtain ⟨c, q, γ', e1, e2, e3, e4⟩ := hk; obtain ⟨ab', hab'⟩ := hgam e1 e2 e3; have := hrel.disj γ γ' _ _ x hab hab' hs e4; subst this; exact hb (List.mem_cons_of_mem _ (q13 e1 e2 e3))
  · obtain ⟨c, q, γ, e1, e2, e3, e4⟩ := hx
    obtain ⟨ab, hab⟩ := hgam e1 e2 e3; have hne0 : γ ≠ 1100000000 := fun e => hnot (e ▸ q13 e1 e2 e3)
    have hxg : x ≠ g := fun e => by subst e; exact hne0 (hrel.disj γ _ ab _ x hab hβ e4 hSg)
    obtain ⟨m1, m2⟩ := hmine γ ab x hab e4; exact ⟨m2.elim .inl (fun m2 => m2.elim (fun e => absurd e hxg) .inr), m1, hxg⟩
  · obtain ⟨c, q, γ, e1, e2, e3, e4⟩ := hx
    obtain ⟨c', q', γ', e1', e2', e3', e4'⟩ := hx'; obtain ⟨ab, hab⟩ := hgam e1 e2 e3; obtain ⟨ab', hab'⟩ := hgam e1' e2' e3'; have := hrel.disj γ γ' _ _ x hab hab' e4 e4'; subst this; exact y3h (List.nodup_cons.1 hnd).2 e1 e2 e3 e1' e2' e3'
 cases e <;> simp only [y7y, Option.some.injEq] at he <;> first | (subst he) | cases he
 · exact fin hr
 · exact hr.elim
 · exact fin hr
end Go.Sx
end
section
namespace Go.Sx
theorem z5v {α : Type} {xs : List α} {i : Nat} {x : α} (h : i < xs.length) : (xs.set i x)[i]? = some x := by simp [h]
theorem zx {rws : List (List Cell)} {i k : Nat} {c : Cell} {row : List Cell} (h : rws[i]? = some row) : setRow rws i k c = rws.set i (row.set k c) := by simp only [setRow, h]
theorem q7f {rws : List (List Cell)} {i k : Nat} {c : Cell} : (setRow rws i k c).length = rws.length := by
 unfold setRow; split
 · exact List.length_set
 · rfl
theorem yf {rws : List (List Cell)} {i k : Nat} {c : Cell} {row : List Cell} (h : rws[i]? = some row) : (setRow rws i k c)[i]? = some (row.set k c) := by
 rw [zx h, z5v (List.getElem?_eq_some_iff.1 h).1]
end Go.Sx
end
section
namespace Go.Sx
open Go.RowKit Go.ChangeShapes Go.WideShapes Go.Deep
def y6w (w : World) (cells : List Cell) (cs : List Value) : Prop := cs.length = cells.length ∧ ∀ (k : Nat) (c : Cell) (u : Value), cells[k]? = some c → cs[k]? = some u → Rep w (fun _ => True) c u
structure q3r (P : Program) (t : TypeId) {α : Type} (sz : Nat) (f : α → List Cell) (G : α → Prop) : Prop where
 hsz : P.cellsOf t = sz
 len : ∀ a, (f a).length = sz
 get : ∀ {H : Type} (enc : TypeId × Value → H) (w : World) (base : Nat) (spare : Nat → Bool) (held : Bool) (fuel : Nat) (cs : List Value) (x : DataW H × List MemPlace), DataW.trod enc P w base spare held fuel t cs = some x → ∃ a, y6w w (f a) cs ∧ G a
section
variable {P : Program} {α β : Type} {t e : TypeId}
theorem y6w.one {w : World} {c : Cell} {u : Value} (h : Rep w (fun _ => True) c u) : y6w w [c] [u] := ⟨rfl, fun k c' u' h1 h2 => by
 cases k with
 | zero => cases h1; cases h2; exact h
 | succ k => simp at h1⟩
theorem z8f {k : IntKind} (ht : P.underlying t = some (.int k)) (hc : P.cellsOf t = 1) : q3r P t 1 (fun n : Int => [.s (.int k n)]) (fun n => (Lit.int k n).wf = true) :=
 ⟨hc, fun _ => rfl, fun enc w base spare held fuel cs x h => by obtain ⟨n, rfl, _, hw⟩ := DataW.trod_int ht h; exact ⟨n, .one (.s _ Y), hw⟩⟩
theorem y8f {sz : Nat} {f : α → List Cell} {G : α → Prop} (ht : P.underlying t = some (.slice e)) (he : q3r P e sz f G)
 {H : Type} (enc : TypeId × Value → H) (w : World) (base : Nat) (spare : Nat → Bool) (held : Bool) (fuel : Nat) (cs : List Value) (x : DataW H × List MemPlace) (h : DataW.trod enc P w base spare held fuel t cs = some x) :
 ∃ (l : List α) (v : Value), cs = [v] ∧ Rep w (fun _ => True) (.l (l.map f)) v ∧ (l.length ≤ maxLen ∧ ∀ a ∈ l, G a) := by
 classical
 rcases open_slice ht h with ⟨rfl, _⟩ | ⟨a, len, cap, m, n, D, Pl, rfl, hb, hl, hm, hmm, rfl, hx⟩
 · exact ⟨[], _, Y, .l 0 [] none 0 (fun _ _ => undef) (by simp) (Nat.le_refl _) (fun _ => Y) (fun j k hj => by simp at hj) (fun j k row c h1 => by simp at h1), by simp, fun a ha => by cases ha⟩
 · have hlm : len ≤ m := by rw [hmm]; split <;> omega
   have hall : ∀ i, i < len → ∃ b cs', cs'.length = sz ∧ y6w w (f b) cs' ∧ G b ∧ ∀ j, j < sz → w.cell? ((a.add (i * sz)).add j) = cs'[j]? := fun i hi => by
    obtain ⟨cs', h1, h2⟩ := hx i (by omega); obtain ⟨b, hK, hg⟩ := he.get enc w base spare held n cs' _ h2; rw [he.hsz] at h1; obtain ⟨_, hlen, hcell⟩ := World.cells?_some h1; exact ⟨b, cs', hlen, hK, hg, hcell⟩
   have key : ∀ k, k ≤ len → ∃ l : List α, l.length = k ∧ (∀ j p, l[j]? = some p → ∃ c, c.length = sz ∧ y6w w (f p) c ∧ ∀ i u, c[i]? = some u → w.cell? (a.add (j * sz + i)) = some u) ∧ ∀ a ∈ l, G a := by
    intro k
    induction k with
    | zero => exact fun _ => ⟨[], rfl, fun j p hj => by simp at hj, fun a ha => by cases ha⟩
    | succ k ih =>
      intro hk; obtain ⟨l, hl, hc, hG⟩ := ih (by omega); obtain ⟨b, c, hs, hK, hg, hcell⟩ := hall k (by omega); refine ⟨l ++ [b], by simp [hl], fun j p hj => ?_, fun b' hb' => ?_⟩
      · rcases Nat.lt_or_ge j l.length with hjl | hjl
        · rw [List.getElem?_append_left hjl] at hj
          exact hc j p hj
        · have hj' : j = l.length := by
           have := (List.getElem?_eq_some_iff.1 hj).1; rw [List.length_append, List.length_singleton] at this; omega
          subst hj'; have hp : b = p := by simpa using hj
          subst hp; refine ⟨c, hs, hK, fun i u hu => ?_⟩; have hi : i < sz := by rw [← hs]; exact (List.getElem?_eq_some_iff.1 hu).1
          have := hcell i hi; rw [Go.Deep.add_add, ← hl] at this; rw [this, hu]
      · rcases List.mem_append.1 hb' with hb' | hb'
        · exact hG b' hb'
        · rw [List.mem_singleton.1 hb']; exact hg
   obtain ⟨l, hl', hc, hG⟩ := key len (Nat.le_refl _); subst hl'
   have hch : ∀ j : Nat, ∃ c : List Value, ∀ p, l[j]? = some p → c.length = sz ∧ y6w w (f p) c ∧ ∀ i u, c[i]? = some u → w.cell? (a.add (j * sz + i)) = some u := fun j => by
    cases hj : l[j]? with
    | none => exact ⟨[], fun p h => by cases h⟩
    | some p =>
      obtain ⟨c, h1, h2, h3⟩ := hc j p hj; exact ⟨c, fun p' h => by cases h; exact ⟨h1, h2, h3⟩⟩
   have hch2 : ∃ c : Nat → List Value, ∀ j p, l[j]? = some p → (c j).length = sz ∧ y6w w (f p) (c j) ∧ ∀ i u, (c j)[i]? = some u → w.cell? (a.add (j * sz + i)) = some u := ⟨fun j => Classical.choose (hch j), fun j => Classical.choose_spec (hch j)⟩
   obtain ⟨c, hc⟩ := hch2; have hlr : (l.map f).length = l.length := by simp
   refine ⟨l, _, Y, ?_, by omega, hG⟩; rw [show (Value.slice (some a) l.length cap) = .slice (some a) (l.map f).length cap by rw [hlr]]; refine .l sz (l.map f) (some a) cap (fun j k => ((c j)[k]?).getD undef) (fun row hr => ?_) (by rw [hlr]; exact hl) (fun h => by cases h) (fun j k hj hk => ?_) (fun j k row c' h1 h2 => ?_)
   · obtain ⟨p, _, rfl⟩ := List.mem_map.1 hr; exact he.len p
   · rw [hlr] at hj
     obtain ⟨h1, _, h3⟩ := hc j _ (List.getElem?_eq_getElem hj); refine ⟨a, Y, trivial, ?_⟩; have hlt : k < (c j).length := by omega
     rw [h3 k _ (List.getElem?_eq_getElem hlt), List.getElem?_eq_getElem hlt]; rfl
   · rw [List.getElem?_map] at h1
     cases hj : l[j]? with
     | none => rw [hj] at h1; cases h1
     | some p =>
       rw [hj] at h1; cases h1; obtain ⟨h4, h5, _⟩ := hc j p hj; have hk : k < (c j).length := by rw [h4, ← he.len p]; exact (List.getElem?_eq_some_iff.1 h2).1
       refine h5.2 k c' _ h2 ?_; rw [List.getElem?_eq_getElem hk]; rfl
inductive Laid (P : Program) : Nat → List Field → Prop
 | nil (o : Nat) : Laid P o []
 | cons {o : Nat} {f : Field} {fs : List Field} : f.offset = o → Laid P (o + P.cellsOf f.type) fs → Laid P o (f :: fs)
def z4v (P : Program) (fs : List Field) {α : Type} (sz : Nat) (f : α → List Cell) (G : α → Prop) : Prop :=
 (∀ a, (f a).length = sz) ∧ ∀ {H : Type} (enc : TypeId × Value → H) (w : World) (base : Nat) (spare : Nat → Bool) (held : Bool) (fuel : Nat) (cs : List Value), cs.length = sz →
   (∀ (i : Nat) (f : Field), fs[i]? = some f → ∃ x, DataW.trod enc P w base spare held fuel f.type ((cs.drop (((fs.take i).map fun g => P.cellsOf g.type).sum)).take (P.cellsOf f.type)) = some x) →
   ∃ a, y6w w (f a) cs ∧ G a
theorem y6w.append {w : World} {xs ys : List Cell} {us vs : List Value} (h : y6w w xs us) (k : y6w w ys vs) : y6w w (xs ++ ys) (us ++ vs) := by
 refine ⟨by simp [h.1, k.1], fun i c u h1 h2 => ?_⟩; rw [List.getElem?_append] at h1 h2; rw [h.1] at h2; by_cases hi : i < xs.length
 · rw [if_pos hi] at h1 h2; exact h.2 i c u h1 h2
 · rw [if_neg hi] at h1 h2; exact k.2 _ c u h1 h2
theorem z7c {fd : Field} {sz : Nat} {f : α → List Cell} {G : α → Prop} (h : q3r P fd.type sz f G) : z4v P [fd] sz f G := by
 refine ⟨h.len, fun enc w base spare held fuel cs hl hx => ?_⟩; obtain ⟨x, hx⟩ := hx 0 fd rfl; simp only [List.take_zero, List.map_nil, List.sum_nil, List.drop_zero] at hx; rw [h.hsz, ← hl, List.take_length] at hx; exact h.get enc w base spare held fuel cs x hx
theorem q63 {fd : Field} {fs : List Field} {sz sz' : Nat} {f : α → List Cell} {f' : β → List Cell} {G : α → Prop} {G' : β → Prop} (h : q3r P fd.type sz f G) (h' : z4v P fs sz' f' G') : z4v P (fd :: fs) (sz + sz') (fun x : α × β => f x.1 ++ f' x.2) (fun x => G x.1 ∧ G' x.2) := by
 refine ⟨fun a => by simp [h.len, h'.1], fun enc w base spare held fuel cs hl hx => ?_⟩; obtain ⟨x, hx0⟩ := hx 0 fd rfl; simp only [List.take_zero, List.map_nil, List.sum_nil, List.drop_zero] at hx0; rw [h.hsz] at hx0; obtain ⟨a, hK, hG⟩ := h.get enc w base spare held fuel _ x hx0
 obtain ⟨b, hK', hG'⟩ := h'.2 enc w base spare held fuel (cs.drop sz) (by rw [List.length_drop]; omega) (fun i g hi => by
  obtain ⟨y, hy⟩ := hx (i + 1) g (by simpa using hi); refine ⟨y, ?_⟩; rw [List.drop_drop]
  simpa [h.hsz] using hy)
 refine ⟨(a, b), ?_, hG, hG'⟩; have := hK.append hK'
 rwa [List.take_append_drop] at this
theorem z3d : ∀ {fs : List Field} {o : Nat}, Laid P o fs → ∀ (i : Nat) (f : Field), fs[i]? = some f → f.offset = o + ((fs.take i).map fun g => P.cellsOf g.type).sum
 | [], _, _, i, f, h => by simp at h
 | g :: fs, o, .cons h1 h2, 0, f, h => by
   have : g = f := by simpa using h
   subst this; simp [h1]
 | g :: fs, o, .cons h1 h2, i + 1, f, h => by
   rw [z3d h2 i f (by simpa using h)]; simp [Nat.add_assoc]
theorem z5d {fs : List Field} {sz : Nat} {f : α → List Cell} {G : α → Prop} {f' : β → List Cell} {G' : β → Prop} (g : α → β) (hfg : ∀ a, f' (g a) = f a) (hG : ∀ a, G a → G' (g a)) (hlen : ∀ b, (f' b).length = sz) (ht : P.underlying t = some (.struct fs.toArray)) (hc : P.cellsOf t = sz) (hL : Laid P 0 fs) (hF : z4v P fs sz f G) :
 q3r P t sz f' G' :=
 ⟨hc, hlen, fun enc w base spare held fuel cs x h => by
   obtain ⟨xs, n, rfl, _, hl, hxs, hf⟩ := DataW.trod_struct ht h
   obtain ⟨a, hK, hg⟩ := hF.2 enc w base spare held n cs (by rw [hl, hc]) (fun i f hi => by
    have hoff := z3d hL i f hi; rw [Nat.zero_add] at hoff; have h1 := hf i f (by simpa using hi); rw [hoff] at h1
    have hi' : i < xs.length := by
     rw [hxs]; have := (List.getElem?_eq_some_iff.1 hi).1
     simpa using this
    exact ⟨xs[i], by rw [h1, List.getElem?_eq_getElem hi']⟩)
   exact ⟨g a, by rw [hfg]; exact hK, hG a hg⟩⟩
theorem z64 {sz : Nat} {f : α → List Cell} {G : α → Prop} (ht : P.underlying t = some (.slice e)) (hc : P.cellsOf t = 1) (he : q3r P e sz f G) : q3r P t 1 (fun l : List α => [.l (l.map f)]) (fun l => l.length ≤ maxLen ∧ ∀ a ∈ l, G a) :=
 ⟨hc, fun _ => rfl, fun enc w base spare held fuel cs x h => by
   obtain ⟨l, v, rfl, hr, hG⟩ := y8f ht he enc w base spare held fuel cs x h
   exact ⟨l, .one hr, hG⟩⟩
theorem z6y {fs : Array Field} {sz : Nat} {f : α → List Cell} {G : α → Prop} (ht : P.underlying t = some (.struct fs)) (he : q3r P t sz f G) {H : Type} {enc : TypeId × Value → H} {w : World} {r : Reach} {b : Nat} {v : Value} {dd : DataW H} {ps : List MemPlace}
 (hv : Value.okWide P w r b t v) (h : DataW.Trod enc P w 0 (fun _ => true) true t v dd ps) : ∃ a : α, z6w w (fun _ => True) (.agg (f a)) v ∧ G a := by
 obtain ⟨cs, rfl, _⟩ := okWide_struct ht hv; obtain ⟨fuel, hf⟩ := h; obtain ⟨a, hK, hG⟩ := he.get enc w 0 _ true fuel _ _ hf; have hK' : y6w w (f a) cs.toList := by simpa [Value.cells] using hK
 exact ⟨a, ⟨cs, Y, by simpa using hK'.1, fun k c u hc hu => hK'.2 k c u hc (by simpa using hu)⟩, hG⟩
end
end Go.Sx
end
section
namespace Go.Sx
open Go.RowKit (Below)
theorem PC.law {P : Program} {f : Nat} {args : List SV} {b : Bool} (h : PC P f args (.one (.own false [.s (.bool b)]))) {w : World} {vals : Array Value} (ha : q4u w (fun _ => True) vals args) :
 Calls P f vals w fun e w' => e = .returned (.bool b) ∧ Below w.heap.size w w' := by
 refine (h.2 _ w vals ha).mono ?_
 rintro e w' ⟨v, S, rfl, hk, ⟨arr, F, h1, h2, _, _, h5⟩, _⟩
 have h1' : arr = #[v] := h1; subst h1'; obtain ⟨rfl, _⟩ := h5 0 _ v rfl rfl; exact ⟨Y, hk.below⟩
theorem q4u.two {w : World} {N : Nat → Prop} {sv sv' : SV} {v v' : Value} (h : z6w w N sv v) (h' : z6w w N sv' v') : q4u w N #[v, v'] [sv, sv'] := ⟨rfl, fun i s u h1 h2 => by
 cases i with
 | zero => cases h1; cases h2; exact h
 | succ i =>
   cases i with
   | zero => cases h1; cases h2; exact h'
   | succ i => simp at h1⟩
end Go.Sx
end
section
namespace Go.Sx
inductive Sh where
 | nil
 | i (k : IntKind) (r : Sh)
 | b (r : Sh)
 | l (e : Sh) (r : Sh)
inductive WT (N : Nat) : Sh → List Cell → Prop
 | nil : WT N .nil []
 | i {k : IntKind} {r : Sh} {cs : List Cell} (n : Int) : WT N r cs → WT N (.i k r) (.s (.int k n) :: cs)
 | b {r : Sh} {cs : List Cell} (x : Bool) : WT N r cs → WT N (.b r) (.s (.bool x) :: cs)
 | l {e r : Sh} {cs : List Cell} (rows : List (List Cell)) : rows.length ≤ N → (∀ row ∈ rows, WT N e row) → WT N r cs → WT N (.l e r) (.l rows :: cs)
def WR (N : Nat) (e : Sh) (rows : List (List Cell)) : Prop := rows.length ≤ N ∧ ∀ row ∈ rows, WT N e row
def nx (k : Int) : Int := IntKind.i64.wrap (k + 1)
def mkv : IntKind → Int → Int
 | .i64, k => k
 | t, k => t.wrap k
def mkR (f : List Cell → Int → List Cell × Int) : List (List Cell) → Int → List (List Cell) × Int
 | [], k => ([], k)
 | row :: rows, k => ((f row k).1 :: (mkR f rows (f row k).2).1, (mkR f rows (f row k).2).2)
def mk : Sh → List Cell → Int → List Cell × Int
 | .nil, cs, k => (cs, k)
 | .i t r, _ :: cs, k => (.s (.int t (mkv t k)) :: (mk r cs (nx k)).1, (mk r cs (nx k)).2)
 | .b r, _ :: cs, k => (.s (.bool (k.tmod 3 == 0)) :: (mk r cs (nx k)).1, (mk r cs (nx k)).2)
 | .l e r, .l rows :: cs, k => (.l (mkR (mk e) rows k).1 :: (mk r cs (mkR (mk e) rows k).2).1, (mk r cs (mkR (mk e) rows k).2).2)
 | _, cs, k => (cs, k)
def hdR (f : List Cell → Int → Option Int) : List (List Cell) → Int → Option Int
 | [], k => some k
 | row :: rows, k => (f row k).bind (hdR f rows)
def ng (o : Option Int) : Int := o.getD (-1)
def ps (k : Int) : Option Int := if k < 0 then none else some k
def hd : Sh → List Cell → Int → Option Int
 | .nil, _, k => some k
 | .i t r, .s (.int _ n) :: cs, k => if n = mkv t k then hd r cs (nx k) else none
 | .b r, .s (.bool x) :: cs, k => if x = (k.tmod 3 == 0) then hd r cs (nx k) else none
 | .l e r, .l rows :: cs, k => (ps (ng (hdR (hd e) rows k))).bind (hd r cs)
 | _, _, k => some k
def mt : Sh → List Cell → Int → List Cell × Int
 | .i _ r, c :: cs, k => (c :: (mt r cs k).1, (mt r cs k).2)
 | .b r, c :: cs, k => (c :: (mt r cs k).1, (mt r cs k).2)
 | .l e r, .l rows :: cs, k => (.l (mkR (mk e) rows k).1 :: (mt r cs (mkR (mk e) rows k).2).1, (mt r cs (mkR (mk e) rows k).2).2)
 | _, cs, k => (cs, k)
def ht : Sh → List Cell → Int → Option Int
 | .i _ r, _ :: cs, k => ht r cs k
 | .b r, _ :: cs, k => ht r cs k
 | .l e r, .l rows :: cs, k => (ps (ng (hdR (hd e) rows k))).bind (ht r cs)
 | _, _, k => some k
theorem y01 {k : Int} (h : ¬ k < 0) : ps k = some k := by unfold ps; rw [if_neg h]
theorem y1k {k : Int} (h : k < 0) : ps k = none := by unfold ps; rw [if_pos h]
theorem yg {o : Option Int} (h : o = none) : ng o = -1 := by rw [h]; rfl
theorem yam {o : Option Int} {k : Int} (h : ng o = k) (hk : ¬ k < 0) : o = some k := by
 cases o with
 | none => exact absurd (h ▸ (by decide : (-1 : Int) < 0)) hk
 | some v => exact congrArg some h
theorem zby {e : Sh} : ∀ {cs : List Cell} {k v : Int}, 0 ≤ k → ht e cs k = some v → 0 ≤ v := by
 induction e with
 | nil => intro cs k v h0 h; simp only [ht, Option.some.injEq] at h; omega
 | i t r ih =>
   intro cs k v h0 h
   cases cs with
   | nil => simp only [ht, Option.some.injEq] at h; omega
   | cons c cs => exact ih h0 h
 | b r ih =>
   intro cs k v h0 h
   cases cs with
   | nil => simp only [ht, Option.some.injEq] at h; omega
   | cons c cs => exact ih h0 h
 | l e r _ ih =>
   intro cs k v h0 h
   cases cs with
   | nil => simp only [ht, Option.some.injEq] at h; omega
   | cons c cs =>
     cases c with
     | l rows =>
       simp only [ht] at h; obtain ⟨a, h1, h2⟩ := Option.bind_eq_some_iff.1 h; unfold ps at h1; split at h1
       · cases h1
       · cases h1; exact ih (by omega) h2
     | s v' => simp only [ht, Option.some.injEq] at h; omega
     | p row => simp only [ht, Option.some.injEq] at h; omega
     | f fn caps => simp only [ht, Option.some.injEq] at h; omega
     | m fn ag row => simp only [ht, Option.some.injEq] at h; omega
theorem yby {e : Sh} {cs : List Cell} {k v : Int} (h0 : 0 ≤ k) (h : ng (ht e cs k) = v) (hv : v < 0) : ht e cs k = none := by
 cases h1 : ht e cs k with
 | none => rfl
 | some a => have := zby h0 h1; rw [h1] at h; have h : a = v := h; omega
def qz (f : List Cell → Nat) : List (List Cell) → Nat
 | [] => 0
 | row :: rows => f row + qz f rows
def cnt : Sh → List Cell → Nat
 | .i _ r, _ :: cs => 1 + cnt r cs
 | .b r, _ :: cs => 1 + cnt r cs
 | .l e r, .l rows :: cs => qz (cnt e) rows + cnt r cs
 | _, _ => 0
def tot : Sh → List Cell → Nat
 | .i _ r, _ :: cs => tot r cs
 | .b r, _ :: cs => tot r cs
 | .l e r, .l rows :: cs => rows.length + qz (tot e) rows + tot r cs
 | _, _ => 0
def yn (e : Sh) (rows : List (List Cell)) : Nat := rows.length + qz (tot e) rows
def wid : Sh → Nat
 | .i _ r => 1 + wid r
 | .b r => 1 + wid r
 | .l _ r => wid r
 | .nil => 0
def y43 : Sh → Nat
 | .i _ r => y43 r
 | .b r => y43 r
 | .l e r => wid e + y43 e + y43 r
 | .nil => 0
theorem z7b {k : Int} (h : 0 ≤ k) (h1 : k < 9000000000000000000) : nx k = k + 1 := wrap_i64 (by omega) (by omega)
theorem qn (f : List Cell → Int → List Cell × Int) : ∀ (rows : List (List Cell)) (k : Int), (mkR f rows k).1.length = rows.length
 | [], _ => rfl
 | row :: rows, k => by simp [mkR, qn f rows]
theorem WT.mono {N M : Nat} (h : N ≤ M) {e : Sh} {cs : List Cell} (hw : WT N e cs) : WT M e cs := by
 induction hw with
 | nil => exact .nil
 | i n _ ih => exact .i n ih
 | b x _ ih => exact .b x ih
 | l rows h1 _ _ ih1 ih2 => exact .l rows (by omega) ih1 ih2
theorem WR.mono {N M : Nat} (h : N ≤ M) {e : Sh} {rows : List (List Cell)} (hw : WR N e rows) : WR M e rows := ⟨Nat.le_trans hw.1 h, fun r hr => (hw.2 r hr).mono h⟩
theorem WT.yy {N : Nat} {k : IntKind} {r : Sh} {cs : List Cell} (h : WT N (.i k r) cs) : ∃ n cs', cs = .s (.int k n) :: cs' ∧ WT N r cs' := by
 cases h with | i n h => exact ⟨_, _, rfl, h⟩
theorem WT.z1h {N : Nat} {e r : Sh} {cs : List Cell} (h : WT N (.l e r) cs) : ∃ rows cs', cs = .l rows :: cs' ∧ WR N e rows ∧ WT N r cs' := by
 cases h with | l rows h1 h2 h3 => exact ⟨_, _, rfl, ⟨h1, h2⟩, h3⟩
theorem WT.q00 {N : Nat} {cs : List Cell} (h : WT N .nil cs) : cs = [] := by
 cases h; rfl
theorem z8d {N : Nat} {e : Sh} {f : List Cell → Int → List Cell × Int} : ∀ {rows : List (List Cell)}, (∀ row ∈ rows, ∀ k, WT N e (f row k).1) → ∀ k, ∀ row ∈ (mkR f rows k).1, WT N e row
 | [], _, k, row, hr => by cases hr
 | r :: rows, h, k, row, hr => by
   rcases List.mem_cons.1 hr with rfl | hr
   · exact h r (by simp) k
   · exact z8d (fun row hr => h row (by simp [hr])) _ row hr
theorem yc2 {N : Nat} {e : Sh} {cs : List Cell} (h : WT N e cs) : ∀ k, WT N e (mk e cs k).1 := by
 induction h with
 | nil => exact fun k => .nil
 | i n _ ih => exact fun k => .i _ (ih _)
 | b x _ ih => exact fun k => .b _ (ih _)
 | l rows h1 _ _ ih1 ih2 => exact fun k => .l _ (by rw [qn]; exact h1) (z8d ih1 k) (ih2 _)
theorem y5b {N : Nat} {e : Sh} {rows : List (List Cell)} (h : WR N e rows) (k : Int) : WR N e (mkR (mk e) rows k).1 := ⟨by rw [qn]; exact h.1, z8d (fun row hr => yc2 (h.2 row hr)) k⟩
theorem z4o {f : List Cell → Int → List Cell × Int} {g : List Cell → Int → Option Int} {c : List Cell → Nat} : ∀ {rows : List (List Cell)},
 (∀ row ∈ rows, ∀ k : Int, 0 ≤ k → k + c row ≤ 4000000000000000000 → g (f row k).1 k = some (k + c row) ∧ (f row k).2 = k + c row) →
 ∀ k : Int, 0 ≤ k → k + qz c rows ≤ 4000000000000000000 → hdR g (mkR f rows k).1 k = some (k + qz c rows) ∧ (mkR f rows k).2 = k + qz c rows
 | [], _, k, _, _ => by simp [mkR, hdR, qz]
 | r :: rows, h, k, h0, h1 => by
   simp only [qz] at h1 ⊢; obtain ⟨e1, e2⟩ := h r (by simp) k h0 (by omega); obtain ⟨e3, e4⟩ := z4o (rows := rows) (fun row hr => h row (by simp [hr])) (k + c r) (by omega) (by omega); simp only [mkR, hdR, e1, e2, Option.bind_some, e3, e4]; constructor
   · congr 1; omega
   · omega
theorem y62 {N : Nat} {e : Sh} {cs : List Cell} (h : WT N e cs) : ∀ k : Int, 0 ≤ k → k + cnt e cs ≤ 4000000000000000000 → hd e (mk e cs k).1 k = some (k + cnt e cs) ∧ (mk e cs k).2 = k + cnt e cs := by
 induction h with
 | nil => intro k _ _; simp [mk, hd, cnt]
 | @i t r cs n _ ih =>
   intro k h0 h1; simp only [cnt] at h1; obtain ⟨e1, e2⟩ := ih (nx k) (by rw [z7b h0 (by omega)]; omega) (by rw [z7b h0 (by omega)]; omega); have hn : nx k + (cnt r cs : Nat) = k + (cnt (.i t r) (.s (.int t n) :: cs) : Nat) := by rw [z7b h0 (by omega)]; simp only [cnt]; omega
   simp only [mk, hd, if_true]; exact ⟨e1.trans (congrArg some hn), e2.trans hn⟩
 | @b r cs x _ ih =>
   intro k h0 h1; simp only [cnt] at h1; obtain ⟨e1, e2⟩ := ih (nx k) (by rw [z7b h0 (by omega)]; omega) (by rw [z7b h0 (by omega)]; omega); have hn : nx k + (cnt r cs : Nat) = k + (cnt (.b r) (.s (.bool x) :: cs) : Nat) := by rw [z7b h0 (by omega)]; simp only [cnt]; omega
   simp only [mk, hd, if_true]; exact ⟨e1.trans (congrArg some hn), e2.trans hn⟩
 | @l e r cs rows _ _ _ ih1 ih2 =>
   intro k h0 h1; simp only [cnt] at h1; obtain ⟨e1, e2⟩ := z4o ih1 k h0 (by omega); obtain ⟨e3, e4⟩ := ih2 (k + qz (cnt e) rows) (by omega) (by omega); have hn : k + (qz (cnt e) rows : Nat) + (cnt r cs : Nat) = k + (cnt (.l e r) (.l rows :: cs) : Nat) := by simp only [cnt]; omega
   have hp : ps (ng (some (k + (qz (cnt e) rows : Nat)))) = some (k + qz (cnt e) rows) := y01 (by show ¬ (k + _ < (0 : Int)); omega); simp only [mk, hd, e1, e2, hp, Option.bind_some]; exact ⟨e3.trans (congrArg some hn), e4.trans hn⟩
theorem q2g {f g : List Cell → Nat} {a b : Nat} : ∀ {rows : List (List Cell)}, (∀ row ∈ rows, f row ≤ a + b * g row) → qz f rows ≤ a * rows.length + b * qz g rows
 | [], _ => by simp [qz]
 | r :: rows, h => by
   have h1 := h r (by simp); have h2 := q2g (rows := rows) (fun row hr => h row (by simp [hr])); simp only [qz, List.length_cons, Nat.mul_add, Nat.mul_one]; omega
theorem z7u {N : Nat} {e : Sh} {cs : List Cell} (h : WT N e cs) : cnt e cs ≤ wid e + y43 e * tot e cs := by
 induction h with
 | nil => simp [cnt]
 | i n _ ih => simp only [cnt, wid, y43, tot]; omega
 | b x _ ih => simp only [cnt, wid, y43, tot]; omega
 | @l e r cs rows _ _ _ ih1 ih2 =>
   simp only [cnt, wid, y43, tot]; have h1 := q2g ih1
   have h3 : (wid e + y43 e + y43 r) * (rows.length + qz (tot e) rows + tot r cs) ≥ wid e * rows.length + y43 e * qz (tot e) rows + y43 r * tot r cs := by
    have a1 : wid e * rows.length ≤ wid e * (rows.length + qz (tot e) rows + tot r cs) := Nat.mul_le_mul_left _ (by omega); have a2 : y43 e * qz (tot e) rows ≤ y43 e * (rows.length + qz (tot e) rows + tot r cs) := Nat.mul_le_mul_left _ (by omega); have a3 : y43 r * tot r cs ≤ y43 r * (rows.length + qz (tot e) rows + tot r cs) := Nat.mul_le_mul_left _ (by omega); simp only [Nat.add_mul]; omega
   omega
def md (f : List Cell → Int → List Cell × Int) (rows : List (List Cell)) (k : Int) (i : Nat) : List (List Cell) := (mkR f (rows.take i) k).1 ++ rows.drop i
def mdk (f : List Cell → Int → List Cell × Int) (rows : List (List Cell)) (k : Int) (i : Nat) : Int := (mkR f (rows.take i) k).2
theorem z2l (f : List Cell → Int → List Cell × Int) : ∀ (xs ys : List (List Cell)) (k : Int), mkR f (xs ++ ys) k = ((mkR f xs k).1 ++ (mkR f ys (mkR f xs k).2).1, (mkR f ys (mkR f xs k).2).2)
 | [], ys, k => rfl
 | x :: xs, ys, k => by simp [mkR, z2l f xs]
section
variable {f : List Cell → Int → List Cell × Int} {rows : List (List Cell)} {k : Int} {i : Nat} {row : List Cell}
theorem y0z (h : rows[i]? = some row) : rows.take (i + 1) = rows.take i ++ [row] := by rw [List.take_add_one, h]; rfl
theorem q0g : md f rows k 0 = rows := by simp [md, mkR]
theorem y06 : mdk f rows k 0 = k := by simp [mdk, mkR]
theorem z12 : md f rows k rows.length = (mkR f rows k).1 := by simp [md]
theorem z0h : mdk f rows k rows.length = (mkR f rows k).2 := by simp [mdk]
theorem q12 (h : i ≤ rows.length) : (md f rows k i).length = rows.length := by simp [md, qn]; omega
theorem y12 (h : rows[i]? = some row) : (md f rows k i)[i]? = some row := by
 have hi := (List.getElem?_eq_some_iff.1 h).1; unfold md; rw [List.getElem?_append_right (by simp [qn]; omega)]; simp only [qn, List.length_take, Nat.min_eq_left (Nat.le_of_lt hi), Nat.sub_self, List.getElem?_drop, Nat.add_zero]; exact h
theorem z06 (h : rows[i]? = some row) : mdk f rows k (i + 1) = (f row (mdk f rows k i)).2 := by
 unfold mdk; rw [y0z h, z2l]; rfl
theorem z13 (h : rows[i]? = some row) : (md f rows k i).set i (f row (mdk f rows k i)).1 = md f rows k (i + 1) := by
 have hi := (List.getElem?_eq_some_iff.1 h).1; have hl : (mkR f (rows.take i) k).1.length = i := by simp [qn]; omega
 unfold md; rw [y0z h, z2l, List.set_append_right _ _ (by omega), hl, Nat.sub_self]; have : rows.drop i = row :: rows.drop (i + 1) := by rw [List.drop_eq_getElem_cons hi]; rw [List.getElem?_eq_getElem hi] at h; cases h; rfl
 rw [this]; simp [mkR, mdk]
end
theorem q2h (f : List Cell → Int → Option Int) : ∀ (xs ys : List (List Cell)) (k : Int), hdR f (xs ++ ys) k = (hdR f xs k).bind (hdR f ys)
 | [], ys, k => rfl
 | x :: xs, ys, k => by
   simp only [List.cons_append, hdR]
   cases f x k with
   | none => rfl
   | some v => exact q2h f xs ys v
theorem q05 {f : List Cell → Int → Option Int} {rows : List (List Cell)} {i : Nat} {row : List Cell} {k v : Int} (h : rows[i]? = some row) (hv : hdR f (rows.take i) k = some v) : hdR f (rows.take (i + 1)) k = f row v := by
 rw [y0z h, q2h, hv]; simp only [Option.bind_some, hdR]; cases f row v <;> rfl
theorem qf {f : List Cell → Int → Option Int} {rows : List (List Cell)} {i : Nat} {k : Int} (h : hdR f (rows.take i) k = none) : hdR f rows k = none := by
 rw [← List.take_append_drop i rows, q2h, h]; rfl
theorem qbe {N : Nat} {e : Sh} {cs : List Cell} (h : WT N e cs) : ∀ k, (mk e cs k).1.length = cs.length := by
 induction h with
 | nil => exact fun k => rfl
 | i n _ ih => exact fun k => by simp [mk, ih]
 | b x _ ih => exact fun k => by simp [mk, ih]
 | l rows _ _ _ _ ih => exact fun k => by simp [mk, ih]
theorem q5b {N : Nat} {e : Sh} : ∀ {rows : List (List Cell)}, (∀ row ∈ rows, WT N e row) → ∀ (k : Int) (j : Nat) (row row' : List Cell), rows[j]? = some row → (mkR (mk e) rows k).1[j]? = some row' → row'.length = row.length
 | [], _, k, j, row, row', h, _ => by simp at h
 | r :: rows, hw, k, 0, row, row', h, h' => by
   simp [mkR] at h h'; subst h; subst h'; exact qbe (hw r (by simp)) k
 | r :: rows, hw, k, j + 1, row, row', h, h' => by
   simp [mkR] at h h'; exact q5b (fun x hx => hw x (by simp [hx])) _ j row row' h h'
theorem qq {N : Nat} {e : Sh} {rows : List (List Cell)} (hw : WR N e rows) {k : Int} : ∀ (j : Nat) (row row' : List Cell), rows[j]? = some row → (mkR (mk e) rows k).1[j]? = some row' → row'.length = row.length := q5b hw.2 k
def szn (b : Int) (n : Nat) : Int := if b - n < 0 then -1 else b - n
theorem y0m {b : Int} {n : Nat} (h : b ≤ 1048576) (h0 : 0 ≤ b) : szn b n ≤ 1048576 := by unfold szn; split <;> omega
theorem yj {b : Int} {m n : Nat} (h : 0 ≤ szn b m) : szn (szn b m) n = szn b (m + n) := by
 unfold szn at *; split at h
 · omega
 · rename_i h1; simp only [if_neg h1]; split <;> split <;> omega
theorem yd {α : Type} {xs : List α} {i n : Nat} {x : α} (h : xs.length = n) : (xs.set i x).length = n := List.length_set.trans h
theorem lsr {xs : List (List Cell)} {i k n : Nat} {c : Cell} (h : xs.length = n) : (setRow xs i k c).length = n := q7f.trans h
theorem z00 {α : Type} {xs : List α} {i n : Nat} {x : α} (h : xs.length = n) (hi : i < n) : (xs.set i x)[i]? = some x := z5v (h ▸ hi)
theorem ssr {xs : List (List Cell)} {i k : Nat} {c : Cell} {r : List Cell} (h : i < xs.length) : setRow (xs.set i r) i k c = xs.set i (r.set k c) := by rw [zx (z5v h), List.set_set]
theorem cwi {k : IntKind} {n m : Int} (h : -9223372036854775808 ≤ n) (h2 : n ≤ 9223372036854775807) (e : n = m) : Cell.s (.int k (IntKind.i64.wrap n)) = Cell.s (.int k m) := by rw [wrap_i64 h h2, e]
theorem y0q (f : List Cell → Nat) : ∀ (xs ys : List (List Cell)), qz f (xs ++ ys) = qz f xs + qz f ys
 | [], ys => by simp [qz]
 | x :: xs, ys => by simp [qz, y0q f xs, Nat.add_assoc]
theorem z11 {f : List Cell → Nat} {rows : List (List Cell)} {i : Nat} {row : List Cell} (h : rows[i]? = some row) : qz f (rows.take (i + 1)) = qz f (rows.take i) + f row := by
 rw [y0z h, y0q]; simp [qz]
theorem q0e (f : List Cell → Nat) (rows : List (List Cell)) (i : Nat) : qz f rows = qz f (rows.take i) + qz f (rows.drop i) := by
 rw [← y0q, List.take_append_drop]
theorem z0u {N : Nat} {e : Sh} {rows : List (List Cell)} (h : ∀ row, WT N e row → tot e row = 0) (hw : WR N e rows) : yn e rows = rows.length := by
 have : ∀ rows : List (List Cell), (∀ row ∈ rows, WT N e row) → qz (tot e) rows = 0 := by
  intro rows
  induction rows with
  | nil => intro _; rfl
  | cons r rows ih => intro hr; rw [qz, h r (hr r (by simp)), ih (fun x hx => hr x (by simp [hx]))]
 rw [yn, this rows hw.2, Nat.add_zero]
theorem yq {α : Type} {xs ys : List α} {i : Nat} {a : α} (h : xs.take i = ys.take i) (hx : xs[i]? = some a) (hy : ys[i]? = some a) : xs.take (i + 1) = ys.take (i + 1) := by
 rw [List.take_add_one, List.take_add_one, h, hx, hy]
noncomputable def dE {α : Type} (p q : α) : Bool := open Classical in decide (p = q)
theorem ql {α : Type} {p q : α} (h : p ≠ q) : Value.bool false = Value.bool (dE p q) := by simp [dE, h]
theorem zy {α : Type} {p q : α} (h : p = q) : Value.bool true = Value.bool (dE p q) := by simp [dE, h]
theorem z08 {α : Type} {p q : α} (h : (!dE p q) = true) : p ≠ q := by simpa [dE] using h
theorem q07 {α : Type} {p q : α} (h : (!dE p q) = false) : p = q := by simpa [dE] using h
abbrev i64 (n : Int) : Cell := .s (.int .i64 n)
abbrev rI (n : Int) : Res := .one (.own false [.s (.int .i64 n)])
abbrev rB (b : Bool) : Res := .one (.own false [.s (.bool b)])
end Go.Sx
end
section
namespace Go.Sx
open Go.Maps (Keyed)
section
variable {P : Program} [yo P] {Q : Ex → St → Prop} {st st1 : List Fr} {σ σ1 : St} {g : Bool} {o : Oper} {t : TypeId} {m x : Operand} {β k e n : Nat} {D : DataW Unit} {q : IntKind}
theorem qbm {r : Nat} (h : exec 2000 (yo.F P) st σ = .raw g σ1 o st1) (ho : o.op = .makeMap t none) (hd : o.dst = some r) (hu : P.underlying t = some (.map k e)) (hn : get σ1.b r = none)
 (h1 : G P Q st1 none ⟨(r, .one (.mx 0 r)) :: σ1.t, y0d σ1.b r (.mp k e 0 (.map []) none)⟩) : G P Q st none σ :=
 qay h (by simp only [opL, ho]; exact ⟨r, k, e, Y, hd, hu, hn, h1⟩)
theorem qc6 {av : AV} {key : Value} {kl : Lit} (h : exec 2000 (yo.F P) st σ = .raw g σ1 o st1) (ho : o.op = .lookup t m x false) (hm : ev σ1 m = some (.one (.mx 0 β))) (hb : get σ1.b β = some (.mp k e n D none))
 (hu : P.underlying t = some (.map k e)) (he : P.underlying e = some (.int q)) (hK : Keyed P k) (hz : ∀ w, (zeroValue e).run P w = .ok (.int q 0) w) (hx : ev σ1 x = some av) (hv : valOf av = some key) (hkey : keyOf P k key = some kl)
 (h1 : ∀ c, D.atKey kl (.lit (.int q 0)) = .lit (.int q c) → (Lit.int q c).wf = true → G P Q st1 none (σ1.put o.dst (.one (.b (.s (.int q c)))))) : G P Q st none σ :=
 qay h (by simp only [opL, ho]; exact .inl ⟨β, k, e, n, D, q, kl, av, key, Y, hm, hb, hu, he, hK, hz, hx, hv, hkey, h1⟩)
theorem yck {v : Operand} {av : AV} {key : Value} {kl : Lit} {c : Int} (h : exec 2000 (yo.F P) st σ = .raw g σ1 o st1) (ho : o.op = .mapUpdate t m x v) (hd : o.dst = none) (hm : ev σ1 m = some (.one (.mx 0 β))) (hb : get σ1.b β = some (.mp k e n D none))
 (hu : P.underlying t = some (.map k e)) (he : P.underlying e = some (.int q)) (hK : Keyed P k) (hn : n < maxLen) (hx : ev σ1 x = some av) (hv : valOf av = some key) (hkey : keyOf P k key = some kl) (hc : ev σ1 v = some (.one (.b (.s (.int q c))))) (hw : (Lit.int q c).wf = true)
 (h1 : G P Q st1 none ⟨σ1.t, y0d σ1.b β (.mp k e (n + 1) (D.put kl (.lit (.int q c))) none)⟩) : G P Q st none σ :=
 qay h (by simp only [opL, ho]; exact ⟨β, k, e, n, D, q, kl, av, key, c, hd, hm, hb, hu, he, hK, hn, hx, hv, hkey, hc, hw, h1⟩)
theorem ybn {r : Nat} (h : exec 2000 (yo.F P) st σ = .raw g σ1 o st1) (ho : o.op = .range t m) (hd : o.dst = some r) (hm : ev σ1 m = some (.one (.mx 0 β))) (hb : get σ1.b β = some (.mp k e n D none)) (hr : get σ1.b r = none)
 (hu : P.underlying t = some (.map k e)) (hK : Keyed P k)
 (h1 : G P Q st1 none ⟨(r, .one (.mx 1 r)) :: σ1.t, y0d (y0d σ1.b β .dead) r (.mp k e n D (some (Maps.has D, Maps.size D, none)))⟩) : G P Q st none σ :=
 qay h (by simp only [opL, ho]; exact ⟨r, β, k, e, n, D, hd, hm, hb, hr, hu, hK, h1⟩)
theorem zc7 {r : Nat} {left : Lit → Bool} {cnt : Nat} {cur : Option (Value × Value)} (h : exec 2000 (yo.F P) st σ = .raw g σ1 o st1) (ho : o.op = .next m false) (hd : o.dst = some r) (hm : ev σ1 m = some (.one (.mx 1 β))) (hb : get σ1.b β = some (.mp k e n D (some (left, cnt, cur))))
 (hK : Keyed P k) (he : P.underlying e = some (.int q))
 (h0 : cnt = 0 → (∀ kl, left kl = false) → G P Q st1 none ⟨(r, .tup [.one (.b (.s (.bool false)))]) :: σ1.t, σ1.b⟩)
 (h1 : ∀ key kl c cnt', keyOf P k key = some kl → left kl = true → (∀ zd, D.atKey kl zd = .lit (.int q c)) → (Lit.int q c).wf = true → cnt' < cnt →
   ∃ av, q1s key = some av ∧ (∀ vs, av ≠ .tup vs) ∧ G P Q st1 none ⟨(r, .tup [.one (.b (.s (.bool true))), av, .one (.b (.s (.int q c)))]) :: σ1.t, y0d σ1.b β (.mp k e n D (some ((fun z => left z && !z.sameKey kl), cnt', some (key, .int q c))))⟩) : G P Q st none σ :=
 qay h (by simp only [opL, ho]; exact ⟨r, β, k, e, n, D, left, cnt, cur, q, Y, hd, hm, hb, hK, he, h0, h1⟩)
theorem zbn {r : Nat} {qk : IntKind} {left : Lit → Bool} {cnt : Nat} {cur : Option (Value × Value)} (h : exec 2000 (yo.F P) st σ = .raw g σ1 o st1) (ho : o.op = .next m false) (hd : o.dst = some r) (hm : ev σ1 m = some (.one (.mx 1 β))) (hb : get σ1.b β = some (.mp k e n D (some (left, cnt, cur))))
 (hK : Keyed P k) (hk : P.underlying k = some (.int qk)) (he : P.underlying e = some (.int q))
 (h0 : cnt = 0 → (∀ kl, left kl = false) → G P Q st1 none ⟨(r, .tup [.one (.b (.s (.bool false)))]) :: σ1.t, σ1.b⟩)
 (h1 : ∀ y c cnt', left (.int qk y) = true → (∀ zd, D.atKey (.int qk y) zd = .lit (.int q c)) → (Lit.int q c).wf = true → cnt' < cnt →
   G P Q st1 none ⟨(r, .tup [.one (.b (.s (.bool true))), .one (.b (.s (.int qk y))), .one (.b (.s (.int q c)))]) :: σ1.t, y0d σ1.b β (.mp k e n D (some ((fun z => left z && !z.sameKey (.int qk y)), cnt', some (.int qk y, .int q c))))⟩) : G P Q st none σ :=
 zc7 h ho hd hm hb hK he h0 (fun key kl c cnt' hkey hl hat hw hlt => by
  obtain ⟨y, rfl, rfl, _⟩ := Maps.keyOf_int_inv hk hkey
  exact ⟨.one (.b (.s (.int qk y))), rfl, fun vs h => (nomatch h), h1 y c cnt' hl hat hw hlt⟩)
theorem ybm {r : Nat} {left : Lit → Bool} {cnt : Nat} {key u : Value} {av av' : AV} (h : exec 2000 (yo.F P) st σ = .raw g σ1 o st1) (ho : o.op = .entry m) (hd : o.dst = some r) (hm : ev σ1 m = some (.one (.mx 1 β))) (hb : get σ1.b β = some (.mp k e n D (some (left, cnt, some (key, u)))))
 (h2 : q1s key = some av) (h3 : q1s u = some av') (h4 : ∀ vs, av ≠ .tup vs) (h5 : ∀ vs, av' ≠ .tup vs) (h1 : G P Q st1 none ⟨(r, .tup [av, av']) :: σ1.t, σ1.b⟩) : G P Q st none σ :=
 qay h (by simp only [opL, ho]; exact ⟨r, β, k, e, n, D, left, cnt, key, u, av, av', hd, hm, hb, h2, h4, h3, h5, h1⟩)
end
end Go.Sx
end
section
namespace Go.Sx
open Go.RowKit
def Sh.len : Sh → Nat
 | .nil => 0
 | .i _ r => r.len + 1
 | .b r => r.len + 1
 | .l _ r => r.len + 1
def Sh.app : Sh → Sh → Sh
 | .nil, t => t
 | .i k r, t => .i k (r.app t)
 | .b r, t => .b (r.app t)
 | .l e r, t => .l e (r.app t)
theorem WT.len {N : Nat} {s : Sh} {cs : List Cell} (h : WT N s cs) : cs.length = s.len := by
 induction h with
 | nil => rfl
 | i n _ ih => simp [Sh.len, ih]
 | b x _ ih => simp [Sh.len, ih]
 | l rows _ _ _ _ ih => simp [Sh.len, ih]
theorem WT.app {N : Nat} {s t : Sh} {xs ys : List Cell} (h : WT N s xs) (k : WT N t ys) : WT N (s.app t) (xs ++ ys) := by
 induction h with
 | nil => exact k
 | i n _ ih => exact .i n ih
 | b x _ ih => exact .b x ih
 | l rows h1 h2 _ _ ih => exact .l rows h1 h2 ih
abbrev OS (P : Program) (t : TypeId) (s : Sh) : Prop := q3r P t s.len (fun a : {cs : List Cell // WT 9223372036854775807 s cs} => a.1) (fun _ => True)
abbrev OSF (P : Program) (fs : List Field) (s : Sh) : Prop := z4v P fs s.len (fun a : {cs : List Cell // WT 9223372036854775807 s cs} => a.1) (fun _ => True)
section
variable {P : Program} {t e : TypeId}
theorem OS.mk {sz : Nat} {α : Type} {f : α → List Cell} {G : α → Prop} {s : Sh} (h : q3r P t sz f G) (hz : sz = s.len) (hw : ∀ a, G a → WT 9223372036854775807 s (f a)) : OS P t s :=
 ⟨h.hsz.trans hz, fun a => a.2.len, fun enc w base spare held fuel cs x hx => by
   obtain ⟨a, h1, h2⟩ := h.get enc w base spare held fuel cs x hx
   exact ⟨⟨f a, hw a h2⟩, h1, trivial⟩⟩
theorem ybg {k : IntKind} (ht : P.underlying t = some (.int k)) (hc : P.cellsOf t = 1) : OS P t (.i k .nil) := .mk (z8f ht hc) rfl fun n _ => .i n .nil
theorem q06 {s : Sh} (ht : P.underlying t = some (.slice e)) (hc : P.cellsOf t = 1) (he : OS P e s) : OS P t (.l s .nil) := .mk (z64 ht hc he) rfl fun l hl => .l _ (by
 have h : l.length ≤ maxLen := hl.1
 rw [List.length_map]; exact h) (fun row hr => by
 obtain ⟨a, _, rfl⟩ := List.mem_map.1 hr
 exact a.2) .nil
theorem y0h {fd : Field} {s : Sh} (h : OS P fd.type s) : OSF P [fd] s := z7c h
theorem qh {fd : Field} {fs : List Field} {s t u : Sh} (h : OS P fd.type s) (k : OSF P fs t) (hu : s.app t = u) (hl : s.len + t.len = u.len) : OSF P (fd :: fs) u := by
 have hc := q63 h k; subst hu; refine ⟨fun a => a.2.len, fun enc w base spare held fuel cs hn hx => ?_⟩; obtain ⟨a, h1, _⟩ := hc.2 enc w base spare held fuel cs (hn.trans hl.symm) hx; exact ⟨⟨_, a.1.2.app a.2.2⟩, h1, trivial⟩
theorem z01 {fs : List Field} {s : Sh} (ht : P.underlying t = some (.struct fs.toArray)) (hc : P.cellsOf t = s.len) (hL : Laid P 0 fs) (hF : OSF P fs s) : OS P t s :=
 z5d (fun a => a) (fun _ => rfl) (fun _ h => h) (fun b => b.2.len) ht hc hL hF
theorem z9s {fs : Array Field} {s : Sh} (ht : P.underlying t = some (.struct fs)) (he : OS P t s) {H : Type} {enc : TypeId × Value → H} {w : World} {r : Reach} {b : Nat} {v : Value} {dd : DataW H} {ps : List MemPlace}
 (hv : Value.okWide P w r b t v) (h : DataW.Trod enc P w 0 (fun _ => true) true t v dd ps) : ∃ cs : List Cell, z6w w (fun _ => True) (.agg cs) v ∧ WT 9223372036854775807 s cs := by
 obtain ⟨a, h1, _⟩ := z6y ht he hv h; exact ⟨a.1, h1, a.2⟩
end
end Go.Sx
end
section
namespace Go.Sx
def zbg : OC → Cell
 | .s v => .s v
 | .l _ rows => .l rows
theorem PC.q9w {P : Program} {f : Nat} {args : List SV} {ag : Bool} {cs : List OC} (h : PC P f args (.one (.own ag cs))) : PC P f args (.one (.bor ag (cs.map zbg))) := by
 refine ⟨h.1, fun N w vals ha => (h.2 N w vals ha).mono ?_⟩
 rintro e w' ⟨v, S, rfl, hk, ⟨arr, F, h1, h2, h3, _, h5⟩, hS⟩
 refine ⟨v, fun _ => False, Y, hk, ⟨arr, h1, by simp [h2], fun k c u hc hu => ?_⟩, fun x hx => hx.elim⟩; rw [List.getElem?_map] at hc
 cases ho : cs[k]? with
 | none => rw [ho] at hc; cases hc
 | some oc =>
   rw [ho] at hc; cases hc; have h6 := h5 k oc u ho hu
   cases oc with
   | s x => obtain ⟨rfl, h7⟩ := h6; exact .s _ h7
   | l sz rows =>
     obtain ⟨sz', _, h7⟩ := h6; exact (z1b.2 ⟨sz', h7⟩).rep fun x hx => ⟨.inr (hS x (h3 k x hx)).1, fun h => h⟩
theorem gm {α β : Type} {xs : List α} {i : Nat} {x : α} (f : α → β) (h : xs[i]? = some x) : (xs.map f)[i]? = some (f x) := by rw [List.getElem?_map, h]; rfl
theorem gx {α : Type} {xs : List α} {i : Nat} (h : i < xs.length) : ∃ x, xs[i]? = some x := ⟨_, List.getElem?_eq_getElem h⟩
def scan (f : Nat → Int) : Nat → Int
 | 0 => 0
 | n + 1 => if scan f n ≠ 0 then scan f n else f n
theorem zg {f : Nat → Int} : ∀ {n : Nat}, (∀ j, j < n → f j = 0) → scan f n = 0
 | 0, _ => rfl
 | n + 1, h => by rw [scan, zg (fun j hj => h j (by omega)), h n (by omega)]; simp
theorem z04 {f : Nat → Int} : ∀ {n : Nat}, scan f n = 0 → ∀ j, j < n → f j = 0
 | n + 1, h, j, hj => by
   rw [scan] at h; split at h
   · rename_i h1; exact absurd h h1
   · rename_i h1
     have h1 : scan f n = 0 := by simpa using h1
     rcases Nat.lt_or_ge j n with h2 | h2
     · exact z04 h1 j h2
     · have : j = n := by omega
       subst this; exact h
theorem z0z {f : Nat → Int} {i : Nat} (h0 : ∀ j, j < i → f j = 0) (h : f i ≠ 0) : ∀ {n : Nat}, i < n → scan f n = f i
 | n + 1, hi => by
   rw [scan]; rcases Nat.lt_or_ge i n with h2 | h2
   · have := z0z h0 h h2
     rw [this, if_pos h]
   · have : i = n := by omega
     subst this; rw [zg h0]; simp
theorem q8 {f : Nat → Int} {i n : Nat} {c : Int} (hi : i < n) (h0 : ∀ j, j < i → f j = 0) (hc : f i = c) (h : c ≠ 0) : c = scan f n := by rw [z0z h0 (by rw [hc]; exact h) hi, hc]
theorem zc {f : Nat → Int} {i : Nat} (h0 : ∀ j, j < i → f j = 0) (h : f i = 0) : ∀ j, j < i + 1 → f j = 0 := fun j hj => by
 rcases Nat.lt_or_ge j i with h2 | h2
 · exact h0 j h2
 · have : j = i := by omega
   subst this; exact h
theorem y14 {f g : Nat → Int} : ∀ {n : Nat}, (∀ j, j < n → (∀ k, k < j → f k = 0) → f j = g j) → scan f n = scan g n
 | 0, _ => rfl
 | n + 1, h => by
   have ih := y14 (f := f) (g := g) (n := n) (fun j hj => h j (by omega)); rw [scan, scan, ih]; split
   · rfl
   · rename_i h1
     have h1 : scan g n = 0 := by simpa using h1
     rw [← ih] at h1; exact h n (by omega) (z04 h1)
def within (n lo hi : Int) : Bool := decide (lo ≤ n) && decide (n ≤ hi)
theorem within_iff {n lo hi : Int} : within n lo hi = true ↔ lo ≤ n ∧ n ≤ hi := by simp [within]
def z0c (a b : Int) : Int := if a < b then -1 else if b < a then 1 else 0
def orr : List Int → Int
 | [] => 0
 | x :: xs => if x ≠ 0 then x else orr xs
abbrev ints (xs : List Int) : List (List Cell) := xs.map fun n => [i64 n]
theorem y64 : ∀ {xs : List Int} {i : Nat} {x : Int}, xs[i]? = some x → (∀ (j : Nat) (y : Int), j < i → xs[j]? = some y → y = 0) → x ≠ 0 → orr xs = x
 | y :: xs, 0, x, h, _, hx => by simp at h; subst h; rw [orr, if_pos hx]
 | y :: xs, i + 1, x, h, h0, hx => by
   rw [orr, if_neg (by simpa using h0 0 y (by omega) rfl)]; exact y64 (by simpa using h) (fun j z hj hz => h0 (j + 1) z (by omega) (by simpa using hz)) hx
theorem q4o : ∀ {xs : List Int}, (∀ (j : Nat) (y : Int), xs[j]? = some y → y = 0) → orr xs = 0
 | [], _ => rfl
 | y :: xs, h => by
   rw [orr, if_neg (by simpa using h 0 y rfl)]; exact q4o (fun j z hz => h (j + 1) z (by simpa using hz))
structure Leg where
 (s a b v : Int)
abbrev Leg.cs (l : Leg) : List Cell := [i64 l.s, i64 l.a, i64 l.b, i64 l.v]
def Leg.bad (l : Leg) : Bool := !(within l.s 0 2 && within l.a 0 5 && within l.b 0 2 && within l.v (-1000000000000) 1000000000000)
def Leg.fault (l : Leg) : Int := if l.bad then 3 else if l.v = 0 then 1 else 0
def Leg.same (l m : Leg) : Bool := l.s == m.s && l.a == m.a && l.b == m.b
structure Con where
 id : Int
 legs : List Leg
abbrev Con.cs (c : Con) : List Cell := [i64 c.id, .l (c.legs.map Leg.cs)]
structure Bal where
 (a b v : Int)
abbrev Bal.cs (x : Bal) : List Cell := [i64 x.a, i64 x.b, i64 x.v]
def Bal.bad (x : Bal) : Bool := !(within x.a 0 5 && within x.b 0 2 && within x.v 1 1000000000000)
def Bal.key (x : Bal) : Int := x.a * 3 + x.b
def ahead {α : Type} (lt : α → α → Bool) (xs : List α) (i : Nat) (x : α) : Bool := bif Nat.beq i 0 then true else match xs[i - 1]? with | some p => lt p x | none => true
def y2m (xs : List Bal) (i : Nat) : Int := match xs[i]? with
 | some x => if x.bad then 3 else if ahead (fun p x => decide (p.key < x.key)) xs i x then 0 else 1
 | none => 0
theorem y5p {us : List Bal} {i : Nat} {x : Bal} (hx : us[i]? = some x) (h : y2m us i = 0) : x.bad = false := by
 cases hb : x.bad with
 | false => rfl
 | true => simp [y2m, hx, hb] at h
theorem Bal.z0y {x : Bal} (h : x.bad = false) : IntKind.i64.wrap (IntKind.i64.wrap (x.a * 3) + x.b) = x.key := by
 simp [Bal.bad, within] at h; rw [wrap_i64 (n := x.a * 3) (by omega) (by omega), wrap_i64 (by omega) (by omega)]; rfl
def qm (xs : List Bal) : Int := if 18 < xs.length then 2 else scan (y2m xs) xs.length
def hasB : List Bal → Int → Int → Int
 | [], _, _ => 0
 | x :: xs, a, b => if x.a = a ∧ x.b = b then x.v else hasB xs a b
theorem y4h : ∀ {xs : List Bal} {i : Nat} {x : Bal} {a b : Int}, xs[i]? = some x → (∀ (j : Nat) (y : Bal), j < i → xs[j]? = some y → ¬ (y.a = a ∧ y.b = b)) → x.a = a ∧ x.b = b → hasB xs a b = x.v
 | y :: xs, 0, x, a, b, h, _, hx => by simp at h; subst h; rw [hasB, if_pos hx]
 | y :: xs, i + 1, x, a, b, h, h0, hx => by
   rw [hasB, if_neg (h0 0 y (by omega) rfl)]; exact y4h (by simpa using h) (fun j z hj hz => h0 (j + 1) z (by omega) (by simpa using hz)) hx
theorem z3b : ∀ {xs : List Bal} {a b : Int}, (∀ (j : Nat) (y : Bal), xs[j]? = some y → ¬ (y.a = a ∧ y.b = b)) → hasB xs a b = 0
 | [], _, _, _ => rfl
 | y :: xs, a, b, h => by
   rw [hasB, if_neg (h 0 y rfl)]; exact z3b (fun j z hz => h (j + 1) z (by simpa using hz))
def ybr (xs : List Bal) (l : Leg) : Int := if hasB xs l.a l.b + l.v < 0 then 6 else if 1000000000000 < hasB xs l.a l.b + l.v then 3 else 0
def z78 (xs : List Bal) (ls : List Leg) (i : Nat) : Int := match ls[i]? with | some l => ybr xs l | none => 0
def z3v (xs : List Bal) (ls : List Leg) : Int := scan (z78 xs ls) ls.length
structure Mk where
 (c v : Int)
abbrev Mk.cs (x : Mk) : List Cell := [i64 x.c, i64 x.v]
def q0n : List Mk → Int → Int
 | [], _ => 0
 | x :: xs, c => if x.c = c then x.v else q0n xs c
theorem z1g : ∀ {xs : List Mk} {i : Nat} {x : Mk} {c : Int}, xs[i]? = some x → (∀ (j : Nat) (y : Mk), j < i → xs[j]? = some y → ¬ y.c = c) → x.c = c → q0n xs c = x.v
 | y :: xs, 0, x, c, h, _, hx => by simp at h; subst h; rw [q0n, if_pos hx]
 | y :: xs, i + 1, x, c, h, h0, hx => by
   rw [q0n, if_neg (h0 0 y (by omega) rfl)]; exact z1g (by simpa using h) (fun j z hj hz => h0 (j + 1) z (by omega) (by simpa using hz)) hx
theorem q1n : ∀ {xs : List Mk} {c : Int}, (∀ (j : Nat) (y : Mk), xs[j]? = some y → ¬ y.c = c) → q0n xs c = 0
 | [], _, _ => rfl
 | y :: xs, c, h => by
   rw [q0n, if_neg (h 0 y rfl)]; exact q1n (fun j z hz => h (j + 1) z (by simpa using hz))
def z2a (xs : List Mk) (i : Nat) : Int := match xs[i]? with
 | some x => if !(within x.c 1 1000000000 && within x.v 1 2) then 3 else if ahead (fun p x => decide (p.c < x.c)) xs i x then 0 else 1
 | none => 0
def qi (xs : List Mk) : Int := scan (z2a xs) xs.length
theorem qg {α : Type} {xs : List α} {i : Nat} {x : α} {p : α → Prop} (hx : xs[i]? = some x) (h : ∀ (j : Nat) (y : α), j < i → xs[j]? = some y → p y) (hp : p x) : ∀ (j : Nat) (y : α), j < i + 1 → xs[j]? = some y → p y := fun j y hj hy => by
 rcases Nat.lt_or_ge j i with h2 | h2
 · exact h j y h2 hy
 · have : j = i := by omega
   subst this; rw [hx] at hy; cases hy; exact hp
theorem yk {α : Type} {xs : List α} {i : Nat} {p : α → Prop} (hi : i = xs.length) (h : ∀ (j : Nat) (y : α), j < i → xs[j]? = some y → p y) : ∀ (j : Nat) (y : α), xs[j]? = some y → p y := fun j y hy => h j y (by have := (List.getElem?_eq_some_iff.1 hy).1; omega) hy
theorem q0o {i : Nat} (h0 : 0 < i) (h : i ≤ 9000000000000000000) : 0 ≤ IntKind.i64.wrap ((i : Int) - 1) := by rw [wrap_i64 (by omega) (by omega)]; omega
theorem z1e {α β : Type} {xs : List α} {i : Nat} {p : α} (f : α → β) (h0 : 0 < i) (h : i ≤ 9000000000000000000) (hp : xs[i - 1]? = some p) : (xs.map f)[(IntKind.i64.wrap ((i : Int) - 1)).toNat]? = some (f p) := by
 rw [wrap_i64 (by omega) (by omega), show ((i : Int) - 1).toNat = i - 1 by omega]; exact gm f hp
theorem ahead_zero {α : Type} {lt : α → α → Bool} {xs : List α} {x : α} : ahead lt xs 0 x = true := rfl
theorem ya {α : Type} {lt : α → α → Bool} {xs : List α} {i : Nat} {x p : α} (h0 : 0 < i) (hp : xs[i - 1]? = some p) : ahead lt xs i x = lt p x := by
 unfold ahead; rw [beq_false (by omega), cond_false, hp]
theorem vi {a b : Int} (h : a = b) : Value.int .i64 a = Value.int .i64 b := by rw [h]
theorem vb {a b : Bool} (h : a = b) : Value.bool a = Value.bool b := by rw [h]
theorem ci {a b : Int} (h : a = b) : Cell.s (.int .i64 a) = Cell.s (.int .i64 b) := by rw [h]
structure Vt where
 (b v : Int)
abbrev Vt.cs (x : Vt) : List Cell := [i64 x.b, i64 x.v]
def Vt.none : Vt := ⟨-1, 0⟩
def Vt.ok (x : Vt) : Bool := within x.b 0 1000 && within x.v 1 2
structure Slt where
 (c s p lb lv : Int)
 cast : List Vt
abbrev Slt.cs (x : Slt) : List Cell := [i64 x.c, i64 x.s, i64 x.p, i64 x.lb, i64 x.lv, .l (x.cast.map Vt.cs)]
def y15 (xs : List Vt) (i : Nat) : Int := match xs[i]? with
 | some x => if !x.ok then 3 else if ahead (fun p x => !(decide (x.b < p.b) || (x.b == p.b && x.v != p.v))) xs i x then 0 else 1
 | none => 0
def y3u (xs : List Vt) : Vt := (xs[xs.length - 1]?).getD Vt.none
def Slt.fault (x : Slt) : Int :=
 if !(within x.c 1 1000000000 && within x.s 0 2 && within x.p (-1) 1000) then 3
 else if 60 < x.cast.length then 2
 else if scan (y15 x.cast) x.cast.length ≠ 0 then scan (y15 x.cast) x.cast.length
 else if ¬ (x.lb = (y3u x.cast).b ∧ x.lv = (y3u x.cast).v) ∨ x.p < x.lb then 1 else 0
def Slt.lt (p x : Slt) : Bool := if p.c = x.c then decide (p.s < x.s) else decide (p.c < x.c)
def z3s (xs : List Slt) (i : Nat) : Int := match xs[i]? with
 | some x => if x.fault ≠ 0 then x.fault else if ahead Slt.lt xs i x then 0 else 1
 | none => 0
structure Acc where
 slots : List Slt
abbrev Acc.cs (x : Acc) : List Cell := [.l (x.slots.map Slt.cs)]
def Acc.fault (x : Acc) : Int := if 60 < x.slots.length then 2 else scan (z3s x.slots) x.slots.length
def y3w : List Int → Int → List Int
 | [], v => [v]
 | x :: xs, v => if x < v then x :: y3w xs v else if x = v then x :: xs else v :: x :: xs
def zo (c : Con) (s : Int) : List Leg := c.legs.filter fun l => l.s == s
structure Shd where
 idx : Int
 bals : List Bal
 votes : List Mk
 held : List Con
 done : List Mk
 app : List Int
abbrev Shd.cs (s : Shd) : List Cell := [i64 s.idx, .l (s.bals.map Bal.cs), .l (s.votes.map Mk.cs), .l (s.held.map Con.cs), .l (s.done.map Mk.cs), .l (ints s.app)]
theorem lcr {B B' : List (Nat × AB)} : ∀ {l : List Cell}, zbd B B' (l.map .b) (l.map .b)
 | [] => trivial
 | _ :: l => ⟨rfl, lcr (l := l)⟩
def bsr (c : Nat → Bool) (i j : Nat) : Nat := if h : i < j then (if c ((i + j) / 2) then bsr c ((i + j) / 2 + 1) j else bsr c i ((i + j) / 2)) else i
termination_by j - i
theorem zb7 {c : Nat → Bool} {p n : Nat} (hc : ∀ k, k < n → c k = decide (k < p)) : ∀ (i j : Nat), i ≤ p → p ≤ j → j ≤ n → bsr c i j = p := by
 intro i j
 induction h : j - i using Nat.strongRecOn generalizing i j with
 | _ m ih =>
   intro h1 h2 h3; rw [bsr]; split
   · have hk := hc ((i + j) / 2) (by omega)
     split
     · rename_i ht
       rw [hk] at ht; have ht : (i + j) / 2 < p := by simpa using ht
       exact ih (j - ((i + j) / 2 + 1)) (by omega) _ _ Y (by omega) h2 h3
     · rename_i ht
       rw [hk] at ht; have ht : ¬ (i + j) / 2 < p := by simpa using ht
       exact ih ((i + j) / 2 - i) (by omega) _ _ Y h1 (by omega) (by omega)
   · omega
theorem half {i j : Nat} (hi : i ≤ 1048576) (hj : j ≤ 1048576) : IntKind.i64.wrap ((IntKind.u64.wrap (IntKind.i64.wrap ((i : Int) + j))).fdiv (2 ^ (min (1 : Int).toNat IntKind.u64.bits))) = (((i + j) / 2 : Nat) : Int) := by
 have e1 : IntKind.i64.wrap ((i : Int) + j) = (i : Int) + j := wrap_i64 (by omega) (by omega); have e2 : IntKind.u64.wrap ((i : Int) + j) = (i : Int) + j := by simp [IntKind.wrap, IntKind.signed, IntKind.bits]; omega
 have e3 : (2 : Int) ^ (min (1 : Int).toNat IntKind.u64.bits) = 2 := by decide
 rw [e1, e2, e3]; have e4 : ((i : Int) + j).fdiv 2 = (((i + j) / 2 : Nat) : Int) := by rw [Int.fdiv_eq_ediv_of_nonneg _ (by omega)]; omega
 rw [e4]; exact wrap_i64 (by omega) (by omega)
def q1g {α : Type} (p : α → Bool) : List α → Int
 | [] => -1
 | x :: l => if p x then 0 else if q1g p l < 0 then -1 else q1g p l + 1
theorem y08 {α : Type} {p : α → Bool} : ∀ {l : List α} {i : Nat} {x : α}, l[i]? = some x → (∀ (j : Nat) (y : α), j < i → l[j]? = some y → p y = false) → p x = true → q1g p l = i
 | y :: l, 0, x, h, _, hx => by simp at h; subst h; rw [q1g, if_pos hx]; rfl
 | y :: l, i + 1, x, h, h0, hx => by
   have ih := y08 (l := l) (by simpa using h) (fun j z hj hz => h0 (j + 1) z (by omega) (by simpa using hz)) hx; rw [q1g, if_neg (by rw [h0 0 y (by omega) rfl]; decide), ih, if_neg (by omega)]; omega
theorem z03 {α : Type} {p : α → Bool} : ∀ {l : List α}, (∀ (j : Nat) (y : α), l[j]? = some y → p y = false) → q1g p l = -1
 | [], _ => rfl
 | y :: l, h => by
   rw [q1g, if_neg (by rw [h 0 y rfl]; decide), z03 (l := l) (fun j z hz => h (j + 1) z (by simpa using hz))]; rfl
theorem q0i {α : Type} {p : α → Bool} : ∀ {l : List α}, decide (q1g p l ≥ 0) = l.any p
 | [] => rfl
 | y :: l => by
   have ih := q0i (p := p) (l := l); rw [q1g, List.any_cons]; by_cases h : p y = true
   · rw [if_pos h, h]; rfl
   · rw [if_neg h, show p y = false by simpa using h, Bool.false_or, ← ih]
     by_cases h2 : q1g p l < 0
     · rw [if_pos h2, show decide (q1g p l ≥ 0) = false by simp; omega]; rfl
     · rw [if_neg h2, show decide (q1g p l ≥ 0) = true by simp; omega]; simp; omega
def bsC {α : Type} (f : α → Int) (us : List α) (k : Nat) : Bool := match us[k]? with | some x => decide (f x < 0) | none => false
def bsP {α : Type} (f : α → Int) (us : List α) : Nat := bsr (bsC f us) 0 us.length
def bsF {α : Type} (f : α → Int) (us : List α) : Bool := match us[bsP f us]? with | some x => f x == 0 | none => false
def bsV {α : Type} (f : α → Int) (us : List α) : Res := .tup [.own false [.s (.int .i64 (bsP f us))], .own false [.s (.bool (bsF f us))]]
theorem y7s {c : Nat → Bool} {i j : Nat} (h : i < j) (hc : c ((i + j) / 2) = true) : bsr c i j = bsr c ((i + j) / 2 + 1) j := by rw [bsr, dif_pos h, if_pos hc]
theorem z7s {c : Nat → Bool} {i j : Nat} (h : i < j) (hc : c ((i + j) / 2) = false) : bsr c i j = bsr c i ((i + j) / 2) := by rw [bsr, dif_pos h, if_neg (by rw [hc]; decide)]
theorem y5q {c : Nat → Bool} {i j : Nat} (h : ¬ i < j) : bsr c i j = i := by rw [bsr, dif_neg h]
theorem q2x {α : Type} {f : α → Int} {us : List α} {k : Nat} {x : α} (h : us[k]? = some x) : bsC f us k = decide (f x < 0) := by unfold bsC; rw [h]
theorem z2y {α : Type} {f : α → Int} {us : List α} {k : Nat} {x : α} (hk : bsP f us = k) (h : us[k]? = some x) : bsF f us = (f x == 0) := by unfold bsF; rw [hk, h]
theorem y4c {α : Type} {f : α → Int} {us : List α} {k : Nat} (hk : bsP f us = k) (h : us.length ≤ k) : bsF f us = false := by unfold bsF; rw [hk, List.getElem?_eq_none h]
theorem zac {i j : Nat} (hi : i ≤ 1048576) (hj : j ≤ 1048576) : 0 ≤ IntKind.i64.wrap ((IntKind.u64.wrap (IntKind.i64.wrap ((i : Int) + j))).fdiv (2 ^ (min (1 : Int).toNat IntKind.u64.bits))) := by rw [half hi hj]; exact Int.natCast_nonneg _
theorem yac {α β : Type} {us : List α} {x : α} {i j : Nat} (f : α → β) (hi : i ≤ 1048576) (hj : j ≤ 1048576) (h : us[(i + j) / 2]? = some x) : (us.map f)[(IntKind.i64.wrap ((IntKind.u64.wrap (IntKind.i64.wrap ((i : Int) + j))).fdiv (2 ^ (min (1 : Int).toNat IntKind.u64.bits)))).toNat]? = some (f x) := by
 rw [half hi hj, Int.toNat_natCast]; exact gm f h
def z0d (p x : Bal) : Int := orr [z0c p.a x.a, z0c p.b x.b]
def y4u (us : List Bal) (a b : Int) : Int := bif bsF (fun x : Bal => z0d x ⟨a, b, 0⟩) us then (match us[bsP (fun x : Bal => z0d x ⟨a, b, 0⟩) us]? with | some x => x.v | none => 0) else 0
def q99 (us : List Bal) (l : Leg) : Int := if y4u us l.a l.b + l.v < 0 then 6 else if 1000000000000 < y4u us l.a l.b + l.v then 3 else 0
def y2a (us : List Mk) (c : Int) : Int := bif bsF (fun x : Mk => z0c x.c c) us then (match us[bsP (fun x : Mk => z0c x.c c) us]? with | some x => x.v | none => 0) else 0
theorem y2c {p x : Bal} (hp : p.bad = false) (hx : x.bad = false) : (0 ≤ z0d p x) ↔ ¬ p.key < x.key := by
 simp [Bal.bad, within] at hp hx; unfold z0d z0c orr orr orr Bal.key; split <;> split <;> (try split) <;> (try split) <;> omega
def q4j (hs : List Con) (c : Int) : Bool := hs.any fun x => x.id == c
def z5m (a b : List Leg) : Bool := a.any fun x => b.any fun y => x.a == y.a && x.b == y.b
theorem zv {α : Type} {p : α → Bool} {l : List α} {i : Nat} {x : α} (h : l[i]? = some x) (hx : p x = true) : true = l.any p := (List.any_eq_true.2 ⟨x, List.mem_of_getElem? h, hx⟩).symm
theorem any_none {α : Type} {p : α → Bool} {l : List α} (h : ∀ (j : Nat) (y : α), l[j]? = some y → p y = false) : false = l.any p := by
 rw [eq_comm, List.any_eq_false]; intro x hx; obtain ⟨j, hj⟩ := List.mem_iff_getElem?.1 hx; rw [h j x hj]; decide
theorem y16 {α : Type} {p : α → Bool} {l : List α} {i : Nat} {x : α} (h : l[i]? = some x) : (l.take (i + 1)).filter p = (l.take i).filter p ++ (if p x then [x] else []) := by
 rw [List.take_add_one, h, List.filter_append]; simp [List.filter_cons]
theorem z9t {α : Type} {f : α → Int} {us : List α} (h : us[bsP f us]? = none) : bsF f us = false := by unfold bsF; rw [h]
theorem y5o {us : List Bal} {a b : Int} (h : bsF (fun x : Bal => z0d x ⟨a, b, 0⟩) us = false) : 0 = y4u us a b := by unfold y4u; rw [h]; rfl
theorem y6g {us : List Bal} {a b : Int} {x : Bal} (h : bsF (fun x : Bal => z0d x ⟨a, b, 0⟩) us = true) (hq : us[bsP (fun x : Bal => z0d x ⟨a, b, 0⟩) us]? = some x) : x.v = y4u us a b := by unfold y4u; rw [h, hq]; rfl
theorem y4m {us : List Mk} {c : Int} (h : bsF (fun x : Mk => z0c x.c c) us = false) : 0 = y2a us c := by unfold y2a; rw [h]; rfl
theorem q5a {us : List Mk} {c : Int} {x : Mk} (h : bsF (fun x : Mk => z0c x.c c) us = true) (hq : us[bsP (fun x : Mk => z0c x.c c) us]? = some x) : x.v = y2a us c := by unfold y2a; rw [h, hq]; rfl
def y1e (l : List Leg) (a : Int) : Int := (l.map fun x => if x.b = a then x.v else 0).sum
def y22 (l : List Leg) : Bool := decide (y1e l 0 ≠ 0) || (decide (y1e l 1 ≠ 0) || decide (y1e l 2 ≠ 0))
def y3q (l : List Leg) (i : Nat) : Int := match l[i]? with | some x => if x.fault ≠ 0 then x.fault else if (l.take i).any (fun y => y.same x) then 7 else 0 | none => 0
def yi (c : Con) : Int := if within c.id 1 1000000000 then (if 2 ≤ c.legs.length ∧ c.legs.length ≤ 8 then (if scan (y3q c.legs) c.legs.length ≠ 0 then scan (y3q c.legs) c.legs.length else if y22 c.legs then 1 else 0) else 2) else 3
theorem y8p (l : List Leg) (x : Leg) (a : Int) : y1e (l ++ [x]) a = y1e l a + if x.b = a then x.v else 0 := by simp [y1e]
theorem y2e {l : List Leg} {i : Nat} {x : Leg} (h : l[i]? = some x) (a : Int) : y1e (l.take (i + 1)) a = y1e (l.take i) a + if x.b = a then x.v else 0 := by
 rw [List.take_add_one, h]; exact y8p _ _ _
def Leg.small (x : Leg) : Prop := -1000000000000 ≤ x.v ∧ x.v ≤ 1000000000000
theorem Leg.y0i {x : Leg} (h : x.fault = 0) : (0 ≤ x.s ∧ x.s ≤ 2) ∧ (0 ≤ x.a ∧ x.a ≤ 5) ∧ (0 ≤ x.b ∧ x.b ≤ 2) ∧ x.small ∧ x.v ≠ 0 := by
 unfold Leg.fault at h; split at h
 · omega
 · rename_i hb
   split at h
   · omega
   · rename_i hv
     simp [Leg.bad, within] at hb; unfold Leg.small; omega
theorem z4s : ∀ (l : List Leg) (a : Int), (∀ x ∈ l, x.small) → -1000000000000 * (l.length : Int) ≤ y1e l a ∧ y1e l a ≤ 1000000000000 * (l.length : Int)
 | [], a, _ => by simp [y1e]
 | x :: l, a, h => by
   have h1 := z4s l a (fun y hy => h y (List.mem_cons_of_mem _ hy)); have h2 := h x List.mem_cons_self; unfold Leg.small at h2; have e : y1e (x :: l) a = (if x.b = a then x.v else 0) + y1e l a := by simp [y1e]
   rw [e, List.length_cons]; split <;> omega
theorem z5j : ∀ (l : List Leg) (a : Int), (∀ x ∈ l, x.b ≠ a) → y1e l a = 0
 | [], _, _ => rfl
 | x :: l, a, h => by
   have e : y1e (x :: l) a = (if x.b = a then x.v else 0) + y1e l a := by simp [y1e]
   rw [e, if_neg (h x List.mem_cons_self), z5j l a (fun y hy => h y (List.mem_cons_of_mem _ hy))]; rfl
theorem y1n {l : List Leg} {i : Nat} (h : ∀ j, j < i → y3q l j = 0) : ∀ x ∈ l.take i, x.fault = 0 := fun x hx => by
 obtain ⟨j, hj⟩ := List.mem_iff_getElem?.1 hx; rw [List.getElem?_take] at hj; split at hj
 · rename_i hlt
   have := h j hlt; simp only [y3q, hj] at this; split at this
   · exact absurd this ‹_›
   · simp_all
 · cases hj
theorem z7h {l : List Leg} (h : ∀ a, y1e l a = 0) : y22 l = false := by simp [y22, h]
theorem q3n {l : List Leg} (hf : ∀ x ∈ l, x.fault = 0) {a : Int} (h : y1e l a ≠ 0) : y22 l = true := by
 have : ∃ x ∈ l, x.b = a := by
  by_cases hx : ∃ x ∈ l, x.b = a
  · exact hx
  · exact absurd (z5j l a (fun x hm e => hx ⟨x, hm, e⟩)) h
 obtain ⟨x, hm, rfl⟩ := this; have h0 := (Leg.y0i (hf x hm)).2.2.1; have : x.b = 0 ∨ x.b = 1 ∨ x.b = 2 := by omega
 rcases this with e | e | e <;> rw [e] at h <;> simp [y22, h]
def z5f (l : List Leg) : List (List Cell) := [[i64 (y1e l 0)], [i64 (y1e l 1)], [i64 (y1e l 2)]]
theorem y5f {l : List Leg} {b : Int} (h0 : 0 ≤ b) (h2 : b ≤ 2) : (z5f l)[b.toNat]? = some [i64 (y1e l b)] := by
 have : b = 0 ∨ b = 1 ∨ b = 2 := by omega
 rcases this with rfl | rfl | rfl <;> rfl
theorem y7e {l : List Leg} {i : Nat} {x : Leg} (hi : l[i]? = some x) (h0 : 0 ≤ x.b) (h2 : x.b ≤ 2) (hd : ∀ y ∈ l.take i, y.fault = 0) (hx : x.fault = 0) (hn : i ≤ 8) :
 (z5f (l.take i)).set x.b.toNat [i64 (IntKind.i64.wrap (y1e (l.take i) x.b + x.v))] = z5f (l.take (i + 1)) := by
 have hb := z4s (l.take i) x.b (fun y hy => (Leg.y0i (hd y hy)).2.2.2.1); have hs := (Leg.y0i hx).2.2.2.1; unfold Leg.small at hs; have hlen : (l.take i).length ≤ 8 := by rw [List.length_take]; omega
 rw [wrap_i64 (by omega) (by omega)]; unfold z5f; rw [y2e hi, y2e hi, y2e hi]; have : x.b = 0 ∨ x.b = 1 ∨ x.b = 2 := by omega
 rcases this with e | e | e <;> rw [e] <;> simp
def SM (l : List Leg) (D : DataW Unit) : Prop := Maps.IsMap D ∧ ∀ a : Int, D.atKey (.int .i64 a) (.lit (.int .i64 0)) = .lit (.int .i64 (y1e l a))
theorem qb2 : SM [] (.map []) := ⟨Maps.isMap_empty, fun _ => rfl⟩
theorem y5z {k : IntKind} {a b : Int} (h : (DataW.lit (.int k a) : DataW Unit) = .lit (.int k b)) : a = b := by simpa using h
theorem z7n {l : List Leg} {i : Nat} {x : Leg} {D : DataW Unit} (h : SM (l.take i) D) (hx : x.fault = 0) (hd : ∀ y ∈ l.take i, y.fault = 0) (hn : i ≤ 8) {c : Int} (hc : D.atKey (.int .i64 x.b) (.lit (.int .i64 0)) = .lit (.int .i64 c)) :
 c = y1e (l.take i) x.b ∧ IntKind.i64.wrap (c + x.v) = y1e (l.take i) x.b + x.v := by
 have e : c = y1e (l.take i) x.b := y5z (hc.symm.trans (h.2 x.b)); have b := z4s (l.take i) x.b (fun y hy => (Leg.y0i (hd y hy)).2.2.2.1); have hs := (Leg.y0i hx).2.2.2.1; unfold Leg.small at hs; have hlen : (l.take i).length ≤ 8 := by rw [List.length_take]; omega
 refine ⟨e, ?_⟩; rw [e, wrap_i64 (by omega) (by omega)]
theorem ya3 {l : List Leg} {i : Nat} {x : Leg} {D : DataW Unit} (h : SM (l.take i) D) (hi : l[i]? = some x) (hx : x.fault = 0) (hd : ∀ y ∈ l.take i, y.fault = 0) (hn : i ≤ 8) {c : Int} (hc : D.atKey (.int .i64 x.b) (.lit (.int .i64 0)) = .lit (.int .i64 c)) :
 SM (l.take (i + 1)) (D.put (.int .i64 x.b) (.lit (.int .i64 (IntKind.i64.wrap (c + x.v))))) := by
 refine ⟨h.1.put _ _, fun a => ?_⟩; rw [y2e hi, (z7n h hx hd hn hc).2]; by_cases ha : x.b = a
 · rw [if_pos ha, ← ha]
   exact Maps.atKey_put_same (k := .int .i64 x.b) h.1 trivial _ _
 · rw [if_neg ha, Maps.atKey_put_other (by intro e'; injection e' with _ e'; exact ha e'.symm), h.2 a]
   simp
theorem wfi {n : Int} (h1 : -9223372036854775808 ≤ n) (h2 : n ≤ 9223372036854775807) : (Lit.int .i64 n).wf = true := by
 simp [Lit.wf, IntKind.min, IntKind.max, IntKind.signed, IntKind.bits]; omega
theorem ybf {l : List Leg} {left : Lit → Bool} {y c : Int} (h : ∀ a : Int, left (.int .i64 a) = false → y1e l a = 0) (hc : y1e l y = c) (h0 : c = 0) : ∀ a : Int, (left (.int .i64 a) && !(Lit.int .i64 a).sameKey (.int .i64 y)) = false → y1e l a = 0 := fun a ha => by
 by_cases e : a = y
 · subst e; rw [hc]; exact h0
 · refine h a ?_
   have h1 : (Lit.int IntKind.i64 a).sameKey (Lit.int IntKind.i64 y) = false := Maps.sameKey_ne (fun h => e (by injection h))
   simpa [h1] using ha
theorem za3 {l : List Leg} {D : DataW Unit} (h : SM l D) : ∀ a : Int, Maps.has D (.int .i64 a) = false → y1e l a = 0 := fun a ha => y5z ((h.2 a).symm.trans (Maps.atKey_of_not_has ha _))
theorem zbv {l : List Leg} {D : DataW Unit} (h : SM l D) {y c : Int} (hat : ∀ zd, D.atKey (.int .i64 y) zd = .lit (.int .i64 c)) : y1e l y = c := y5z ((h.2 y).symm.trans (hat _))
def y7n {α : Type} (f : α → Int) (us : List α) : Prop := ∀ (i j : Nat) (x y : α), i < j → us[i]? = some x → us[j]? = some y → f y ≤ 0 → f x < 0
theorem q4c {α : Type} {f : α → Int} {us : List α} (hs : y7n f us) {i : Nat} {x : α} (hx : us[i]? = some x) (h0 : f x = 0) : bsP f us = i ∧ bsF f us = true := by
 have hi : i < us.length := (List.getElem?_eq_some_iff.1 hx).1
 have hp : bsP f us = i := zb7 (n := us.length) (fun k hk => by
  obtain ⟨y, hy⟩ := gx hk; rw [q2x hy]; rcases Nat.lt_trichotomy k i with h | h | h
  · have := hs k i y x h hy hx (by omega)
    rw [decide_eq_true this, decide_eq_true h]
  · subst h; rw [hx] at hy; cases hy; rw [decide_eq_false (by omega), decide_eq_false (by omega)]
  · have : ¬ f y < 0 := fun h1 => by have := hs i k x y h hx hy (by omega); omega
    rw [decide_eq_false this, decide_eq_false (by omega)]) 0 us.length (Nat.zero_le _) (Nat.le_of_lt hi) (Nat.le_refl _)
 refine ⟨hp, ?_⟩; rw [z2y hp hx, h0]; rfl
theorem z5q {α : Type} {f : α → Int} {us : List α} (h : ∀ (i : Nat) (x : α), us[i]? = some x → f x ≠ 0) : bsF f us = false := by
 unfold bsF; split
 · rename_i x hx; have := h _ x hx; simpa using this
 · rfl
theorem y2y {α : Type} {key : α → Int} {us : List α} (h : ∀ (j : Nat) (p x : α), us[j]? = some p → us[j + 1]? = some x → key p < key x) : ∀ (i j : Nat) (x y : α), i < j → us[i]? = some x → us[j]? = some y → key x < key y := by
 intro i j
 induction j with
 | zero => intro x y hij; omega
 | succ j ih =>
   intro x y hij hx hy; have hj : j < us.length := by have := (List.getElem?_eq_some_iff.1 hy).1; omega
   obtain ⟨z, hz⟩ := gx hj; have h1 := h j z y hz hy; rcases Nat.lt_or_ge i j with h2 | h2
   · have := ih x z h2 hx hz; omega
   · have : i = j := by omega
     subst this; rw [hx] at hz; cases hz; exact h1
theorem za9 {a b : Int} : z0c a b ≤ 0 ↔ a ≤ b := by unfold z0c; split <;> (try split) <;> omega
theorem y2g {a b : Int} : z0c a b < 0 ↔ a < b := by unfold z0c; split <;> (try split) <;> omega
theorem q4d {a b : Int} : z0c a b = 0 ↔ a = b := by unfold z0c; split <;> (try split) <;> omega
theorem z2e {α : Type} {key : α → Int} {us : List α} (h : ∀ (i j : Nat) (x y : α), i < j → us[i]? = some x → us[j]? = some y → key x < key y) (c : Int) : y7n (fun x => z0c (key x) c) us := fun i j x y hij hx hy h0 => by
 have := h i j x y hij hx hy; rw [za9] at h0; exact y2g.2 (by omega)
theorem y1a {us : List Mk} (h : qi us = 0) : ∀ (i j : Nat) (x y : Mk), i < j → us[i]? = some x → us[j]? = some y → x.c < y.c :=
 y2y (key := Mk.c) (fun j p x hp hx => by
  have hj := (List.getElem?_eq_some_iff.1 hx).1; have := z04 h (j + 1) hj; simp only [z2a, hx] at this; split at this
  · omega
  · split at this
    · rename_i ha
      rw [ya (p := p) (by omega) (by simpa using hp)] at ha
      simpa using ha
    · omega)
theorem q2k {us : List Mk} (h : qi us = 0) (c : Int) : y2a us c = q0n us c := by
 by_cases hx : ∃ (i : Nat) (x : Mk), us[i]? = some x ∧ x.c = c
 · obtain ⟨i, x, hx, e⟩ := hx
   have hc := y1a h; obtain ⟨h1, h2⟩ := q4c (z2e (key := Mk.c) hc c) hx (q4d.2 e); rw [← q5a h2 (by rw [h1]; exact hx)]; exact (z1g hx (fun j y hj hy e' => by have := hc j i y x hj hy hx; omega) e).symm
 · have hn : ∀ (i : Nat) (x : Mk), us[i]? = some x → ¬ x.c = c := fun i x h1 h2 => hx ⟨i, x, h1, h2⟩
   rw [← y4m (z5q (f := fun x : Mk => z0c x.c c) (fun i x h1 => fun h2 => hn i x h1 (q4d.1 h2)))]; exact (q1n hn).symm
theorem y3z {us : List Bal} (h : qm us = 0) : us.length ≤ 18 ∧ (∀ x ∈ us, x.bad = false) ∧ ∀ (i j : Nat) (x y : Bal), i < j → us[i]? = some x → us[j]? = some y → x.key < y.key := by
 unfold qm at h; split at h
 · omega
 · rename_i hl
   refine ⟨by omega, fun x hx => ?_, y2y (key := Bal.key) (fun j p x hp hx => ?_)⟩
   · obtain ⟨j, hj⟩ := List.mem_iff_getElem?.1 hx
     exact y5p hj (z04 h j (List.getElem?_eq_some_iff.1 hj).1)
   · have hj := (List.getElem?_eq_some_iff.1 hx).1
     have := z04 h (j + 1) hj; simp only [y2m, hx] at this; split at this
     · omega
     · split at this
       · rename_i ha
         rw [ya (p := p) (by omega) (by simpa using hp)] at ha
         simpa using ha
       · omega
theorem q5e {x : Bal} {a b : Int} : z0d x ⟨a, b, 0⟩ = 0 ↔ x.a = a ∧ x.b = b := by
 unfold z0d z0c orr orr orr; dsimp only
 repeat' split
 all_goals omega
theorem y4p {x y t : Bal} (hx : x.bad = false) (hy : y.bad = false) (h : x.key < y.key) (h0 : z0d y t ≤ 0) : z0d x t < 0 := by
 simp [Bal.bad, within] at hx hy; unfold Bal.key at h
 revert h0
 unfold z0d z0c orr orr orr; intro h0
 repeat' split
 all_goals (repeat' split at h0)
 all_goals omega
theorem z6g {us : List Bal} (h : qm us = 0) (a b : Int) : y4u us a b = hasB us a b := by
 obtain ⟨_, hb, hc⟩ := y3z h; by_cases hx : ∃ (i : Nat) (x : Bal), us[i]? = some x ∧ x.a = a ∧ x.b = b
 · obtain ⟨i, x, hx, e⟩ := hx
   have hs : y7n (fun x : Bal => z0d x ⟨a, b, 0⟩) us := fun i j x y hij h1 h2 h0 => y4p (hb x (List.mem_of_getElem? h1)) (hb y (List.mem_of_getElem? h2)) (hc i j x y hij h1 h2) h0
   obtain ⟨h1, h2⟩ := q4c hs hx (q5e.2 e); rw [← y6g h2 (by rw [h1]; exact hx)]
   exact (y4h hx (fun j y hj hy e' => by
    have h3 := hc j i y x hj hy hx; have h4 : y.key = x.key := by unfold Bal.key; rw [e'.1, e'.2, e.1, e.2]
    omega) e).symm
 · have hn : ∀ (i : Nat) (x : Bal), us[i]? = some x → ¬ (x.a = a ∧ x.b = b) := fun i x h1 h2 => hx ⟨i, x, h1, h2⟩
   rw [← y5o (z5q (f := fun x : Bal => z0d x ⟨a, b, 0⟩) (fun i x h1 => fun h2 => hn i x h1 (q5e.1 h2)))]; exact (z3b hn).symm
theorem qac {us : List Bal} (h : ∀ x ∈ us, x.bad = false) (a b : Int) : 0 ≤ hasB us a b ∧ hasB us a b ≤ 1000000000000 := by
 induction us with
 | nil => simp [hasB]
 | cons y us ih =>
   rw [hasB]; split
   · have := h y List.mem_cons_self
     simp [Bal.bad, within] at this; omega
   · exact ih (fun x hx => h x (List.mem_cons_of_mem _ hx))
def z1s (mk : List Mk → Int → Int) (s : Shd) (i : Nat) : Int := match s.held[i]? with
 | some c => if yi c ≠ 0 then yi c else if (!(ahead (fun p x : Con => decide (p.id < x.id)) s.held i c)) || ((zo c s.idx).length == 0 || (mk s.votes c.id != 1 || mk s.done c.id != 0)) then 1 else 0
 | none => 0
def qr (mk : List Mk → Int → Int) (s : Shd) : Int := scan (z1s mk s) s.held.length
def q7b (s : Shd) (m : Mk) : Bool := m.v == 1 && (!(bsF (fun x : Con => z0c x.id m.c) s.held) && y2a s.done m.c == 0)
def z3w (s : Shd) (m : Mk) : Bool := m.v == 1 && (!(q4j s.held m.c) && q0n s.done m.c == 0)
def z7a (s : Shd) (a b : Con) : Bool := (zo a s.idx).any fun l => (zo b s.idx).any fun m => l.same m
def y1v (s : Shd) (i : Nat) : Int := match s.held[i]? with | some c => if (s.held.take i).any fun own => z7a s own c then 7 else 0 | none => 0
def z1i (s : Shd) (i : Nat) : Int := match s.held[i]? with | some c => if (s.held.take i).any fun own => z5m (zo c s.idx) (zo own s.idx) then 7 else 0 | none => 0
def y42 (us : List Bal) (ls : List Leg) (i : Nat) : Int := match ls[i]? with | some l => q99 us l | none => 0
def q1u (us : List Bal) (ls : List Leg) : Int := scan (y42 us ls) ls.length
def y73 (code : List Bal → List Leg → Int) (s : Shd) (i : Nat) : Int := match s.held[i]? with | some c => code s.bals (zo c s.idx) | none => 0
def q08 (meet : Shd → Nat → Int) (code : List Bal → List Leg → Int) (s : Shd) : Int := if scan (meet s) s.held.length ≠ 0 then scan (meet s) s.held.length else scan (y73 code s) s.held.length
theorem q15 {c : Con} (h : yi c = 0) : (1 ≤ c.id ∧ c.id ≤ 1000000000) ∧ (2 ≤ c.legs.length ∧ c.legs.length ≤ 8) ∧ ∀ l ∈ c.legs, l.fault = 0 := by
 unfold yi at h; split at h
 · rename_i h1
   split at h
   · rename_i h2
     split at h
     · rename_i h3; exact absurd h h3
     · rename_i h3
       have h3 : scan (y3q c.legs) c.legs.length = 0 := by simpa using h3
       refine ⟨Go.Sx.within_iff.1 h1, h2, fun l hl => ?_⟩; exact y1n (i := c.legs.length) (z04 h3) l (by rwa [List.take_length])
   · omega
 · omega
theorem q4i {mk : List Mk → Int → Int} {s : Shd} (h : qr mk s = 0) : ∀ c ∈ s.held, yi c = 0 := fun c hc => by
 obtain ⟨j, hj⟩ := List.mem_iff_getElem?.1 hc; have := z04 h j (List.getElem?_eq_some_iff.1 hj).1; simp only [z1s, hj] at this; split at this
 · rename_i h1; exact absurd this h1
 · rename_i h1; simpa using h1
theorem y74 {mk : List Mk → Int → Int} {s : Shd} (h : qr mk s = 0) : ∀ (i j : Nat) (x y : Con), i < j → s.held[i]? = some x → s.held[j]? = some y → x.id < y.id :=
 y2y (key := Con.id) (fun j p x hp hx => by
  have hj := (List.getElem?_eq_some_iff.1 hx).1; have := z04 h (j + 1) hj; simp only [z1s, hx] at this; split at this
  · rename_i h1; exact absurd this h1
  · split at this
    · omega
    · rename_i ha
      rw [ya (p := p) (by omega) (by simpa using hp)] at ha; simp at ha
      exact ha.1)
theorem q82 {s : Shd} (hb : qm s.bals = 0) {c : Con} (hc : yi c = 0) : ∀ l ∈ zo c s.idx, -9000000000000000000 ≤ hasB s.bals l.a l.b + l.v ∧ hasB s.bals l.a l.b + l.v ≤ 9000000000000000000 := fun l hl => by
 have h1 := qac (y3z hb).2.1 l.a l.b; have h2 := (Leg.y0i ((q15 hc).2.2 l (List.mem_filter.1 hl).1)).2.2.2.1; unfold Leg.small at h2; omega
theorem q95 {s : Shd} (hb : qm s.bals = 0) {c : Con} (hc : yi c = 0) : ∀ l ∈ zo c s.idx, -9000000000000000000 ≤ y4u s.bals l.a l.b + l.v ∧ y4u s.bals l.a l.b + l.v ≤ 9000000000000000000 := fun l hl => by
 rw [z6g hb]; exact q82 hb hc l hl
theorem z89 {us : List Bal} (h : qm us = 0) (ls : List Leg) : q1u us ls = z3v us ls := by
 unfold q1u z3v; refine y14 (fun j hj _ => ?_); unfold y42 z78
 cases ls[j]? with
 | some l => simp only [q99, ybr, z6g h]
 | none => rfl
theorem q55 {s : Shd} (hv : qi s.votes = 0) (hd : qi s.done = 0) : qr y2a s = qr q0n s := by
 unfold qr; refine y14 (fun j hj _ => ?_); unfold z1s; split
 · rw [q2k hv, q2k hd]
 · rfl
theorem q85 {s : Shd} {mk : List Mk → Int → Int} (h : qr mk s = 0) (c : Int) : bsF (fun x : Con => z0c x.id c) s.held = q4j s.held c := by
 by_cases hx : ∃ (i : Nat) (x : Con), s.held[i]? = some x ∧ x.id = c
 · obtain ⟨i, x, hx, e⟩ := hx
   rw [(q4c (z2e (key := Con.id) (y74 h) c) hx (q4d.2 e)).2]; exact zv hx (by simp [e])
 · have hn : ∀ (i : Nat) (x : Con), s.held[i]? = some x → ¬ x.id = c := fun i x h1 h2 => hx ⟨i, x, h1, h2⟩
   rw [z5q (f := fun x : Con => z0c x.id c) (fun i x h1 h2 => hn i x h1 (q4d.1 h2))]; exact any_none (fun i x h1 => by simpa using hn i x h1)
theorem y7a (s : Shd) (a b : Con) : z7a s a b = z5m (zo b s.idx) (zo a s.idx) := by
 unfold z7a z5m; rw [Bool.eq_iff_iff]; simp only [List.any_eq_true]; have hs : ∀ {c : Con} {l : Leg}, l ∈ zo c s.idx → l.s = s.idx := fun {c l} hl => by simpa using (List.mem_filter.1 hl).2
 constructor
 · rintro ⟨l, hl, m, hm, h⟩
   refine ⟨m, hm, l, hl, ?_⟩; simp [Leg.same] at h ⊢; omega
 · rintro ⟨m, hm, l, hl, h⟩
   refine ⟨l, hl, m, hm, ?_⟩; have h1 := hs hl; have h2 := hs hm; simp [Leg.same] at h ⊢; omega
theorem q6c {s : Shd} (h : qm s.bals = 0) : q08 y1v q1u s = q08 z1i z3v s := by
 have e1 : scan (y1v s) s.held.length = scan (z1i s) s.held.length := y14 (fun j _ _ => by
  unfold y1v z1i; split
  · simp only [y7a]
  · rfl)
 have e2 : scan (y73 q1u s) s.held.length = scan (y73 z3v s) s.held.length := y14 (fun j _ _ => by
  unfold y73; split
  · exact z89 h _
  · rfl)
 unfold q08; rw [e1, e2]
def q9r (s : Shd) (i : Nat) : Int := match s.app[i]? with | some a => if q0n s.done a != 1 || ((s.app.take i).any fun y => y == a) then 1 else 0 | none => 0
def y3s (us : List Mk) : Nat := (us.filter fun m => m.v == 1).length
theorem q71 {us : List Mk} {i : Nat} {x : Mk} (h : us[i]? = some x) : y3s (us.take (i + 1)) = y3s (us.take i) + (if x.v == 1 then 1 else 0) := by
 unfold y3s; rw [y16 h, List.length_append]; split <;> rfl
theorem z6k (us : List Mk) (i : Nat) : y3s (us.take i) ≤ i := by
 unfold y3s; exact Nat.le_trans (List.length_filter_le _ _) (by rw [List.length_take]; omega)
def z6h (s : Shd) : Bool := scan (q9r s) s.app.length == 0 && y3s s.done == s.app.length
def many (s : Shd) : Bool := decide (100 < s.votes.length) || (decide (100 < s.held.length) || (decide (100 < s.done.length) || decide (100 < s.app.length)))
def q14 (s : Shd) : Int :=
 if qr q0n s ≠ 0 then qr q0n s else if s.votes.any (z3w s) then 1 else if z6h s then q08 z1i z3v s else 1
def zq (s : Shd) : Int :=
 if within s.idx 0 2 then (if qm s.bals ≠ 0 then qm s.bals else if many s then 2 else if qi s.votes ≠ 0 then qi s.votes else if qi s.done ≠ 0 then qi s.done else q14 s) else 3
def y21 (ok : Bool) (s : Shd) : Int :=
 if within s.idx 0 2 then (if qm s.bals ≠ 0 then qm s.bals else if many s then 2 else
  if orr [qi s.votes, qi s.done, qr y2a s] ≠ 0 then orr [qi s.votes, qi s.done, qr y2a s] else
  if s.votes.any (q7b s) || !ok then 1 else q08 y1v q1u s) else 3
theorem q4q (s : Shd) : y21 (z6h s) s = zq s := by
 unfold y21 zq q14; split
 · split
   · rfl
   · rename_i hb
     have hb : qm s.bals = 0 := by simpa using hb
     split
     · rfl
     · simp only [orr]
       by_cases hv : qi s.votes = 0
       · by_cases hd : qi s.done = 0
         · rw [q55 hv hd, q6c hb]
           by_cases hh : qr q0n s = 0
           · have : q7b s = z3w s := by
              funext m
              unfold q7b z3w; rw [q85 hh, q2k hd]
             rw [this]; simp only [hv, hd, hh]; cases s.votes.any (z3w s) <;> cases z6h s <;> simp
           · simp [hv, hd, hh]
         · simp [hv, hd]
       · simp [hv]
 · rfl
theorem zal (s : Shd) : decide (mx (mx (mx ((s.votes.map Mk.cs).length : Nat) ((s.held.map Con.cs).length : Nat)) ((s.done.map Mk.cs).length : Nat)) ((ints s.app).length : Nat) > 100) = many s := by
 unfold many; simp only [List.length_map, ints]; rw [Bool.eq_iff_iff]; simp only [Bool.or_eq_true, decide_eq_true_eq]; unfold mx
 repeat' split
 all_goals omega
theorem zca {a b c : Int} (h : (orr [a, b, c] != 0) = false) : a = 0 ∧ b = 0 ∧ c = 0 := by
 simp only [orr] at h; by_cases ha : a = 0 <;> by_cases hb : b = 0 <;> by_cases hc : c = 0 <;> simp_all
theorem y6s {s : Shd} {c : Int} (e : c = qr q0n s) (h : c ≠ 0) : c = q14 s := by unfold q14; rw [if_pos (by rw [← e]; exact h)]; exact e
theorem q9i {s : Shd} (h : qr q0n s = 0) (ho : true = s.votes.any (z3w s)) : 1 = q14 s := by unfold q14; rw [if_neg (by rw [h]; decide), if_pos ho.symm]
theorem z9j {s : Shd} (h : qr q0n s = 0) (ho : false = s.votes.any (z3w s)) (ha : z6h s = false) : 1 = q14 s := by unfold q14; rw [if_neg (by rw [h]; decide), if_neg (by rw [← ho]; decide), if_neg (by rw [ha]; decide)]
theorem z4r {s : Shd} {c : Int} (h : qr q0n s = 0) (ho : false = s.votes.any (z3w s)) (ha : z6h s = true) (e : c = q08 z1i z3v s) : c = q14 s := by unfold q14; rw [if_neg (by rw [h]; decide), if_neg (by rw [← ho]; decide), if_pos ha]; exact e
theorem z7j {meet : Shd → Nat → Int} {code : List Bal → List Leg → Int} {s : Shd} {c : Int} (e : c = scan (meet s) s.held.length) (h : c ≠ 0) : c = q08 meet code s := by unfold q08; rw [if_pos (by rw [← e]; exact h)]; exact e
theorem y48 {meet : Shd → Nat → Int} {code : List Bal → List Leg → Int} {s : Shd} {c : Int} (h : scan (meet s) s.held.length = 0) (e : c = scan (y73 code s) s.held.length) : c = q08 meet code s := by unfold q08; rw [if_neg (by rw [h]; decide)]; exact e
theorem q9s {t : Bool} {v : Int} (h : ((if t = true then v else 3) != 0) = false) : t = true ∧ v = 0 := by
 cases t with
 | true => exact ⟨rfl, by simpa using h⟩
 | false => simp at h
theorem q5g {s : Shd} (h : ((if within s.idx 0 2 = true then qm s.bals else 3) != 0) = true) : (if within s.idx 0 2 = true then qm s.bals else 3) = zq s := by
 unfold zq; split
 · rename_i hw; rw [if_pos hw] at h; rw [if_pos (by simpa using h)]
 · rfl
theorem z5h {s : Shd} {c : Int} (h : within s.idx 0 2 = true ∧ qm s.bals = 0) (e : c = if many s then 2 else if qi s.votes ≠ 0 then qi s.votes else if qi s.done ≠ 0 then qi s.done else q14 s) : c = zq s := by
 unfold zq; rw [if_pos h.1, if_neg (by rw [h.2]; decide)]; exact e
theorem z8e {xs : List Int} : ∀ {ys : List Int}, xs.Nodup → (∀ x ∈ xs, x ∈ ys) → ∃ zs, ys.Perm (xs ++ zs) := by
 induction xs with
 | nil => intro ys _ _; exact ⟨ys, List.Perm.refl _⟩
 | cons x xs ih =>
   intro ys hn hm; obtain ⟨hx, hn⟩ := List.nodup_cons.1 hn; obtain ⟨zs, hz⟩ := ih (ys := ys.erase x) hn (fun y hy => (List.mem_erase_of_ne (fun e => hx (by rw [← e]; exact hy))).2 (hm y (List.mem_cons_of_mem _ hy))); exact ⟨zs, (List.perm_cons_erase (hm x List.mem_cons_self)).trans (hz.cons x)⟩
def dnI (us : List Mk) : List Int := (us.filter fun m => m.v == 1).map Mk.c
theorem y93 {us : List Mk} {i : Nat} {x : Mk} (h : us[i]? = some x) : dnI (us.take (i + 1)) = if x.v == 1 then dnI (us.take i) ++ [x.c] else dnI (us.take i) := by
 unfold dnI; rw [y16 h, List.map_append]; split
 · rfl
 · simp
theorem q7v (us : List Mk) : (dnI us).length = y3s us := by unfold dnI y3s; rw [List.length_map]
theorem y1j {α : Type} {r : α → α → Prop} : ∀ {us : List α}, (∀ (i j : Nat) (x y : α), i < j → us[i]? = some x → us[j]? = some y → r x y) → us.Pairwise r
 | [], _ => List.Pairwise.nil
 | x :: us, h => List.Pairwise.cons (fun y hy => by
     obtain ⟨j, hj⟩ := List.mem_iff_getElem?.1 hy
     exact h 0 (j + 1) x y (by omega) Y (by simpa using hj)) (y1j (us := us) (fun i j a b hij ha hb => h (i + 1) (j + 1) a b (by omega) (by simpa using ha) (by simpa using hb)))
theorem y9v {us : List Mk} (h : qi us = 0) : (dnI us).Pairwise (· < ·) := by
 unfold dnI; rw [List.pairwise_map]; exact (y1j (r := fun a b : Mk => a.c < b.c) (y1a h)).sublist List.filter_sublist
theorem q62 {us : List Int} (h : us.Pairwise (· < ·)) : us.Nodup := h.imp (fun h => by omega)
theorem y8c {us : List Mk} (h : qi us = 0) (c : Int) : c ∈ dnI us ↔ q0n us c = 1 := by
 unfold dnI; rw [List.mem_map]; constructor
 · rintro ⟨m, hm, rfl⟩
   obtain ⟨hm, hv⟩ := List.mem_filter.1 hm; obtain ⟨i, hi⟩ := List.mem_iff_getElem?.1 hm; rw [z1g hi (fun j y hj hy e => by have := y1a h j i y m hj hy hi; omega) rfl]
   simpa using hv
 · intro hc
   by_cases hx : ∃ (i : Nat) (x : Mk), us[i]? = some x ∧ x.c = c
   · obtain ⟨i, x, hx, e⟩ := hx
     have := z1g hx (fun j y hj hy e' => by have := y1a h j i y x hj hy hx; omega) e; exact ⟨x, List.mem_filter.2 ⟨List.mem_of_getElem? hx, by simp; omega⟩, e⟩
   · have hn : ∀ (i : Nat) (x : Mk), us[i]? = some x → ¬ x.c = c := fun i x h1 h2 => hx ⟨i, x, h1, h2⟩
     rw [q1n hn] at hc; omega
theorem q8d : ∀ {us : List Int}, (∀ (i : Nat) (x : Int), us[i]? = some x → ¬ x ∈ us.take i) → us.Nodup := by
 intro us h
 exact y1j (fun i j x y hij hx hy e => h j y hy (by
  rw [← e]
  exact List.mem_iff_getElem?.2 ⟨i, by rw [List.getElem?_take_of_lt hij]; exact hx⟩))
theorem q8z {s : Shd} (h : qi s.done = 0) : z6h s = true ↔ (∀ x ∈ s.app, x ∈ dnI s.done) ∧ s.app.Nodup ∧ (dnI s.done).length = s.app.length := by
 unfold z6h; rw [q7v]; simp only [Bool.and_eq_true, beq_iff_eq]; rw [← and_assoc]; refine and_congr_left (fun _ => ?_); constructor
 · intro h0
   have hz : ∀ (i : Nat) (x : Int), s.app[i]? = some x → q0n s.done x = 1 ∧ ¬ x ∈ s.app.take i := fun i x hx => by
    have := z04 h0 i (List.getElem?_eq_some_iff.1 hx).1; simp only [q9r, hx] at this; split at this
    · omega
    · rename_i h1
      simp at h1; exact ⟨h1.1, h1.2⟩
   refine ⟨fun x hx => ?_, q8d fun i x hx => (hz i x hx).2⟩; obtain ⟨i, hi⟩ := List.mem_iff_getElem?.1 hx; exact (y8c h x).2 (hz i x hi).1
 · rintro ⟨h1, h2⟩
   refine zg (fun i hi => ?_); obtain ⟨x, hx⟩ := gx hi; simp only [q9r, hx]; rw [if_neg]; have e := (y8c h x).1 (h1 x (List.mem_of_getElem? hx))
   have e2 : ¬ x ∈ s.app.take i := fun hm => by
    obtain ⟨j, hj⟩ := List.mem_iff_getElem?.1 hm; have hji : j < i := by have := (List.getElem?_eq_some_iff.1 hj).1; rw [List.length_take] at this; omega
    rw [List.getElem?_take_of_lt hji] at hj; obtain ⟨q1, q2⟩ := List.getElem?_eq_some_iff.1 hj; obtain ⟨q3, q4⟩ := List.getElem?_eq_some_iff.1 hx; have := (List.pairwise_iff_getElem.1 h2) j i q1 q3 hji; exact this (by rw [q2, q4])
   simp [e]; exact e2
def z0o (xs : List Int) : List Int := xs.mergeSort (fun a b => decide (a ≤ b))
theorem y6x {s : Shd} (h : qi s.done = 0) : (z0o s.app == dnI s.done) = z6h s := by
 rw [Bool.eq_iff_iff, q8z h, beq_iff_eq]; unfold z0o; have hp := List.mergeSort_perm s.app (fun a b : Int => decide (a ≤ b)); constructor
 · intro e
   rw [e] at hp; exact ⟨fun x hx => hp.symm.subset hx, hp.nodup_iff.1 (q62 (y9v h)), hp.length_eq⟩
 · rintro ⟨h1, h2, h3⟩
   obtain ⟨zs, hz⟩ := z8e h2 h1; have hl := hz.length_eq; rw [List.length_append] at hl; have hz0 : zs = [] := List.eq_nil_of_length_eq_zero (by omega); subst hz0; rw [List.append_nil] at hz; refine List.Perm.eq_of_pairwise (le := fun a b : Int => decide (a ≤ b) = true) (fun a b _ _ h1 h2 => by simp at h1 h2; omega) (List.pairwise_mergeSort (fun a b c h1 h2 => by simp at h1 h2 ⊢; omega) (fun a b => by simp; omega) _) ((y9v h).imp (fun h => by simp; omega)) (hp.trans hz.symm)
structure Msg where
 (k to fr c s b v ob ov : Int)
abbrev Msg.cs (m : Msg) : List Cell := [i64 m.k, i64 m.to, i64 m.fr, i64 m.c, i64 m.s, i64 m.b, i64 m.v, i64 m.ob, i64 m.ov]
structure Tr where
 (c s b v : Int)
 fr : List Int
 olds : List Vt
abbrev Tr.cs (t : Tr) : List Cell := [i64 t.c, i64 t.s, i64 t.b, i64 t.v, .l (ints t.fr), .l (t.olds.map Vt.cs)]
structure Hd where
 (c s b v f : Int)
abbrev Hd.cs (h : Hd) : List Cell := [i64 h.c, i64 h.s, i64 h.b, i64 h.v, i64 h.f]
structure Ldr where
 n : Int
 tries : List Tr
 known : List Hd
abbrev Ldr.cs (l : Ldr) : List Cell := [i64 l.n, .l (l.tries.map Tr.cs), .l (l.known.map Hd.cs)]
structure Clu where
 cons : List Con
 shs : List Shd
 accs : List Acc
 ldrs : List Ldr
 msgs : List Msg
abbrev Clu.cs (c : Clu) : List Cell := [.l (c.cons.map Con.cs), .l (c.shs.map Shd.cs), .l (c.accs.map Acc.cs), .l (c.ldrs.map Ldr.cs), .l (c.msgs.map Msg.cs)]
instance instDecidableEqLeg : DecidableEq Leg := fun x y =>
 if h : x.s = y.s ∧ x.a = y.a ∧ x.b = y.b ∧ x.v = y.v then isTrue (by cases x; cases y; simp_all) else isFalse (fun e => h (by subst e; exact ⟨Y, Y, Y, Y⟩))
def qbp (s : Shd) : Prop := s.bals.length ≤ 1048576 ∧ s.votes.length ≤ 1048576 ∧ s.held.length ≤ 1048576 ∧ s.done.length ≤ 1048576 ∧ s.app.length ≤ 1048576 ∧ ∀ c ∈ s.held, c.legs.length ≤ 1048576
def q49 (a : Acc) : Prop := a.slots.length ≤ 1048576 ∧ ∀ s ∈ a.slots, s.cast.length ≤ 1048576
def yb3 (t : Tr) : Prop := t.fr.length ≤ 1048576 ∧ t.olds.length ≤ 1048576
def y8z (l : Ldr) : Prop := l.tries.length ≤ 1048576 ∧ l.known.length ≤ 1048576 ∧ ∀ t ∈ l.tries, yb3 t
def zz (c : Clu) : Prop := (c.cons.length ≤ 1048576 ∧ ∀ x ∈ c.cons, x.legs.length ≤ 1048576) ∧ (c.shs.length ≤ 1048576 ∧ ∀ s ∈ c.shs, qbp s) ∧ (c.accs.length ≤ 1048576 ∧ ∀ a ∈ c.accs, q49 a) ∧ (c.ldrs.length ≤ 1048576 ∧ ∀ l ∈ c.ldrs, y8z l) ∧ c.msgs.length ≤ 1048576
def zba (c : Con) (s : Int) : Bool := c.legs.any fun l => l.s == s
def y07 (cs : List Con) (id : Int) : Option Con := cs.find? fun c => c.id == id
def q17 (cs : List Con) (id s : Int) : Bool := match y07 cs id with | some c => zba c s | none => false
theorem y18 {α : Type} {p : α → Bool} : ∀ {l : List α} {x : α}, l.find? p = some x → ∃ i : Nat, q1g p l = i ∧ l[i]? = some x
 | y :: l, x, h => by
   rw [List.find?_cons] at h; by_cases hy : p y = true
   · rw [hy] at h; cases h; exact ⟨0, by rw [q1g, if_pos hy]; rfl, Y⟩
   · rw [show p y = false by simpa using hy] at h
     obtain ⟨i, h1, h2⟩ := y18 h; exact ⟨i + 1, by rw [q1g, if_neg hy, h1, if_neg (by omega)]; omega, by simpa using h2⟩
theorem q18 {α : Type} {p : α → Bool} : ∀ {l : List α}, l.find? p = none → q1g p l = -1
 | [], _ => rfl
 | y :: l, h => by
   rw [List.find?_cons] at h; by_cases hy : p y = true
   · rw [hy] at h; cases h
   · rw [show p y = false by simpa using hy] at h
     rw [q1g, if_neg hy, q18 h]; rfl
theorem q78 (c : Con) (s : Int) : decide (0 < (zo c s).length) = zba c s := by
 unfold zo zba; rw [Bool.eq_iff_iff, decide_eq_true_eq, List.length_pos_iff_exists_mem, List.any_eq_true]; simp only [List.mem_filter]
theorem y4n {x v : Int} : ∀ {l : List Int}, x ∈ y3w l v ↔ x = v ∨ x ∈ l
 | [] => by simp [y3w]
 | y :: l => by
   rw [y3w]; split
   · rw [List.mem_cons, y4n (l := l), List.mem_cons]
     constructor
     · rintro (h | h | h) <;> simp [h]
     · rintro (h | h | h) <;> simp [h]
   · split
     · rename_i h; subst h; simp
     · simp
theorem q64 {v : Int} : ∀ {l : List Int} {i : Nat}, i ≤ l.length → (∀ (j : Nat) (x : Int), j < i → l[j]? = some x → x < v) → (∀ x, l[i]? = some x → ¬ x < v) → y3w l v = if l[i]? = some v then l else l.take i ++ v :: l.drop i
 | [], i, hi, _, _ => by
   have : i = 0 := by simpa using hi
   subst this; rfl
 | y :: l, 0, _, _, h1 => by
   have hy := h1 y rfl; rw [y3w, if_neg hy]; by_cases e : y = v
   · subst e; simp
   · rw [if_neg e, if_neg (by simpa using e)]; rfl
 | y :: l, i + 1, hi, h0, h1 => by
   have hy := h0 0 y (by omega) rfl; rw [y3w, if_pos hy, q64 (l := l) (i := i) (by simpa using hi) (fun j x hj hx => h0 (j + 1) x (by omega) (by simpa using hx)) (fun x hx => h1 x (by simpa using hx))]; simp only [List.getElem?_cons_succ]; split
   · rfl
   · simp
theorem y8i {v : Int} : ∀ {l : List Int}, l.Pairwise (· < ·) → (y3w l v).Pairwise (· < ·)
 | [], _ => by simp [y3w]
 | x :: l, h => by
   obtain ⟨h1, h2⟩ := List.pairwise_cons.1 h; rw [y3w]; split
   · rename_i hx
     refine List.pairwise_cons.2 ⟨fun y hy => ?_, y8i h2⟩; rcases y4n.1 hy with rfl | hy
     · exact hx
     · exact h1 y hy
   · split
     · exact h
     · refine List.pairwise_cons.2 ⟨fun y hy => ?_, h⟩
       rcases List.mem_cons.1 hy with rfl | hy
       · omega
       · have := h1 y hy; omega
theorem q1x {l : List Int} {v : Int} {i : Nat} (hs : l.Pairwise (· < ·)) (h0 : ∀ (j : Nat) (x : Int), j < i → l[j]? = some x → x < v) (h1 : ∀ x, l[i]? = some x → ¬ x < v) : l.contains v = (l[i]? == some v) := by
 rw [Bool.eq_iff_iff, List.contains_iff_mem, beq_iff_eq]; constructor
 · intro hm
   obtain ⟨j, hj⟩ := List.mem_iff_getElem?.1 hm; rcases Nat.lt_trichotomy j i with h | h | h
   · have := h0 j v h hj; omega
   · subst h; exact hj
   · obtain ⟨hj1, hj2⟩ := List.getElem?_eq_some_iff.1 hj
     have hi : i < l.length := by omega
     have := (List.pairwise_iff_getElem.1 hs) i j hi hj1 h; have := h1 l[i] (List.getElem?_eq_getElem hi); omega
 · exact fun h => List.mem_of_getElem? h
theorem y6q {v : Int} : ∀ {l : List Int}, l.Pairwise (· < ·) → l.contains v = true → y3w l v = l
 | [], _, h => by simp at h
 | x :: l, hs, h => by
   obtain ⟨h1, h2⟩ := List.pairwise_cons.1 hs; rw [y3w]; by_cases e : x = v
   · rw [if_neg (by omega), if_pos e]
   · have hm : v ∈ l := by
      rw [List.contains_iff_mem] at h; rcases List.mem_cons.1 h with rfl | h
      · exact absurd Y e
      · exact h
     rw [if_pos (h1 v hm), y6q h2 (by rw [List.contains_iff_mem]; exact hm)]
def shF (ls : List Leg) : List Int := ls.foldl (fun l x => y3w l x.s) []
theorem z6s {ls : List Leg} {i : Nat} {x : Leg} (h : ls[i]? = some x) : shF (ls.take (i + 1)) = y3w (shF (ls.take i)) x.s := by
 unfold shF; rw [List.take_add_one, h, List.foldl_append]; rfl
theorem z3f {x : Int} : ∀ {ls : List Leg} {l : List Int}, x ∈ ls.foldl (fun l x => y3w l x.s) l ↔ x ∈ l ∨ ∃ y ∈ ls, y.s = x
 | [], l => by simp
 | y :: ls, l => by
   rw [List.foldl_cons, z3f (ls := ls), y4n]; constructor
   · rintro ((h | h) | ⟨z, h, e⟩)
     · exact .inr ⟨y, List.mem_cons_self, h.symm⟩
     · exact .inl h
     · exact .inr ⟨z, List.mem_cons_of_mem _ h, e⟩
   · rintro (h | ⟨z, h, e⟩)
     · exact .inl (.inr h)
     · rcases List.mem_cons.1 h with rfl | h
       · exact .inl (.inl e.symm)
       · exact .inr ⟨z, h, e⟩
theorem zas (c : Con) (s : Int) : (shF c.legs).any (fun y => y == s) = zba c s := by
 unfold zba shF; rw [Bool.eq_iff_iff, List.any_eq_true, List.any_eq_true]; simp only [z3f, List.not_mem_nil, false_or, beq_iff_eq]; constructor
 · rintro ⟨x, ⟨y, h, e⟩, e2⟩; exact ⟨y, h, by rw [e, e2]⟩
 · rintro ⟨y, h, e⟩; exact ⟨s, ⟨y, h, e⟩, Y⟩
theorem y9e {l : List Int} {v : Int} : (y3w l v).length ≤ l.length + 1 := by
 induction l with
 | nil => simp [y3w]
 | cons x l ih =>
   rw [y3w]; split
   · simp; omega
   · split <;> simp
theorem y1m : ∀ (ls : List Leg) (i : Nat), (shF (ls.take i)).length ≤ i
 | ls, 0 => by simp [shF]
 | ls, i + 1 => by
   cases h : ls[i]? with
   | some x => rw [z6s h]; have := y1m ls i; have := y9e (l := shF (ls.take i)) (v := x.s); omega
   | none => rw [List.take_add_one, h]; simp; have := y1m ls i; omega
theorem y5g (ls : List Leg) : (shF ls).Pairwise (· < ·) := by
 unfold shF
 have : ∀ (ls : List Leg) (l : List Int), l.Pairwise (· < ·) → (ls.foldl (fun l x => y3w l x.s) l).Pairwise (· < ·) := by
  intro ls
  induction ls with
  | nil => intro l h; exact h
  | cons y ls ih => intro l h; exact ih _ (y8i h)
 exact this ls [] List.Pairwise.nil
def toN (c : Clu) (m : Msg) : Nat := if m.k = 1 ∨ m.k = 6 then c.shs.length else if m.k = 3 ∨ m.k = 5 then c.ldrs.length else c.accs.length
def frN (c : Clu) (m : Msg) : Nat := if m.k = 4 then c.ldrs.length else c.accs.length
def ends (c : Clu) (m : Msg) : Bool := within m.to 0 ((toN c m : Int) - 1) && (decide (m.k < 3) || decide (5 < m.k) || within m.fr 0 ((frN c m : Int) - 1))
def Msg.shd (m : Msg) : Int := if m.k = 1 ∨ m.k = 6 then m.to else m.s
def ranges (c : Clu) (m : Msg) : Bool := q17 c.cons m.c m.shd && (!(decide (2 ≤ m.k) && decide (m.k ≤ 5)) || within m.b 0 1000) && (!(m.k == 2 || m.k == 3 || m.k == 6) || within m.v 1 2) && (!(m.k == 5) || (m.ob == -1 && m.ov == 0) || (Vt.ok ⟨m.ob, m.ov⟩))
def Msg.bare (m : Msg) : Msg :=
 ⟨m.k, m.to, if 3 ≤ m.k ∧ m.k ≤ 5 then m.fr else 0, m.c, if 2 ≤ m.k ∧ m.k ≤ 5 then m.s else 0, if 2 ≤ m.k ∧ m.k ≤ 5 then m.b else 0, if m.k = 2 ∨ m.k = 3 ∨ m.k = 6 then m.v else 0, if m.k = 5 then m.ob else 0, if m.k = 5 then m.ov else 0⟩
def Msg.same (m n : Msg) : Bool := m.k == n.k && m.to == n.to && m.fr == n.fr && m.c == n.c && m.s == n.s && m.b == n.b && m.v == n.v && m.ob == n.ob && m.ov == n.ov
def z0j (c : Clu) (m : Msg) : Int :=
 if !(within m.k 1 6) then 5 else if !(ends c m) then 3 else if (y07 c.cons m.c).isNone then 4 else if !(ranges c m) then 3 else if !(m.same m.bare) then 1 else 0
def z7l (c : Clu) (x : Con) : Bool := x.legs.any fun l => !(within l.s 0 ((c.shs.length : Int) - 1))
def q0d (c : Clu) (i : Nat) : Int := match c.cons[i]? with
 | some x => if yi x ≠ 0 then yi x else if z7l c x then 4 else if ahead (fun p x : Con => decide (p.id < x.id)) c.cons i x then 0 else 1
 | none => 0
def Con.same (a b : Con) : Bool := a.id == b.id && decide (a.legs = b.legs)
def z3q (c : Clu) (h : Con) : Bool := match y07 c.cons h.id with | some x => !(x.same h) | none => true
def ya0 (c : Clu) (i : Nat) (s : Shd) : Int :=
 if zq s ≠ 0 then zq s
 else if s.idx ≠ i then 1
 else if (s.votes.any fun m => !(q17 c.cons m.c i)) || (s.done.any fun m => !(q17 c.cons m.c i)) then 1
 else if s.held.any (z3q c) then 1 else 0
def q2l (c : Clu) (i : Nat) : Int := match c.shs[i]? with | some s => ya0 c i s | none => 0
def qa3 (c : Clu) (a : Acc) : Int := if a.fault ≠ 0 then a.fault else if a.slots.any (fun s => !(q17 c.cons s.c s.s)) then 4 else 0
def z2u (c : Clu) (i : Nat) : Int := match c.accs[i]? with | some a => qa3 c a | none => 0
def q0t (fr : List Int) (j : Nat) : Int := match fr[j]? with | some x => if (fr.take j).any (fun y => y == x) then 7 else 0 | none => 0
def Tr.lt (p x : Tr) : Bool := if p.c = x.c then decide (p.s < x.s) else decide (p.c < x.c)
def z1y (c : Clu) (p : Int) : Bool := !(within p 0 ((c.accs.length : Int) - 1))
def y0s (v : Vt) : Bool := !(v.b == -1 && v.v == 0) && !v.ok
def y7j (c : Clu) (t : Tr) : Int := if t.fr.any (z1y c) || t.olds.any y0s then 3 else scan (q0t t.fr) t.fr.length
def y5m (c : Clu) (ts : List Tr) (i : Nat) (t : Tr) : Int :=
 if !(q17 c.cons t.c t.s) then 4
 else if !(within t.b 1 1000 && within t.v 0 2) then 3
 else if !(ahead Tr.lt ts i t) || t.fr.length != t.olds.length then 1
 else y7j c t
def z3r (c : Clu) (ts : List Tr) (i : Nat) : Int := match ts[i]? with | some t => y5m c ts i t | none => 0
def Hd.cmp (p x : Hd) : Int := orr [z0c p.c x.c, z0c p.s x.s, z0c p.b x.b, z0c p.v x.v, z0c p.f x.f]
def Hd.lt (p x : Hd) : Bool := decide (Hd.cmp p x < 0)
def hdF (c : Clu) (ks : List Hd) (i : Nat) : Int := match ks[i]? with
 | some h => if !(q17 c.cons h.c h.s) then 4 else if !(within h.b 0 1000 && within h.v 1 2 && within h.f 0 ((c.accs.length : Int) - 1)) then 3 else if ahead Hd.lt ks i h then 0 else 1
 | none => 0
def y88 (c : Clu) (l : Ldr) : Int :=
 if !(within l.n 0 400) then 3 else if 60 < l.tries.length ∨ 300 < l.known.length then 2 else orr [scan (z3r c l.tries) l.tries.length, scan (hdF c l.known) l.known.length]
def y2v (c : Clu) (i : Nat) : Int := match c.ldrs[i]? with | some l => y88 c l | none => 0
def y4o (c : Clu) (i : Nat) : Int := match c.msgs[i]? with | some m => z0j c m | none => 0
def z0q (c : Clu) : Bool := decide (20 < c.cons.length) || !(within c.shs.length 1 3) || !(within c.accs.length 1 5) || c.ldrs.length != 2 || decide (200 < c.msgs.length)
def zj (c : Clu) : Int := if z0q c then 2 else orr [scan (q0d c) c.cons.length, scan (q2l c) c.shs.length, scan (z2u c) c.accs.length, scan (y2v c) c.ldrs.length, scan (y4o c) c.msgs.length]
theorem q4n {ls : List Leg} {x : Int} : x ∈ shF ls ↔ ∃ y ∈ ls, y.s = x := by
 unfold shF; rw [z3f]; simp
theorem y4q {ls : List Leg} (h : 0 < ls.length) : ∃ y, (shF ls)[(shF ls).length - 1]? = some y ∧ 0 < (shF ls).length ∧ (∃ l ∈ ls, l.s = y) ∧ ∀ l ∈ ls, l.s ≤ y := by
 obtain ⟨l0, hl0⟩ := gx h; have hm : l0.s ∈ shF ls := q4n.2 ⟨l0, List.mem_of_getElem? hl0, rfl⟩; have hp : 0 < (shF ls).length := List.length_pos_of_mem hm; obtain ⟨y, hy⟩ := gx (xs := shF ls) (i := (shF ls).length - 1) (by omega); refine ⟨y, hy, hp, q4n.1 (List.mem_of_getElem? hy), fun l hl => ?_⟩; obtain ⟨j, hj⟩ := List.mem_iff_getElem?.1 (q4n.2 ⟨l, hl, rfl⟩); obtain ⟨hj1, hj2⟩ := List.getElem?_eq_some_iff.1 hj; obtain ⟨hy1, hy2⟩ := List.getElem?_eq_some_iff.1 hy; rcases Nat.lt_or_ge j ((shF ls).length - 1) with h1 | h1
 · have := (List.pairwise_iff_getElem.1 (y5g ls)) j ((shF ls).length - 1) hj1 hy1 h1
   rw [hj2, hy2] at this; omega
 · have e : j = (shF ls).length - 1 := by omega
   subst e; rw [hj] at hy; cases hy; exact Int.le_refl _
theorem z99 {ls : List Leg} {y n : Int} (h0 : ∀ l ∈ ls, 0 ≤ l.s) (e : ∃ l ∈ ls, l.s = y) (hm : ∀ l ∈ ls, l.s ≤ y) : decide (y ≥ n) = ls.any fun l => !(within l.s 0 (n - 1)) := by
 rw [Bool.eq_iff_iff, decide_eq_true_eq, List.any_eq_true]; constructor
 · intro h
   obtain ⟨l, hl, e⟩ := e; exact ⟨l, hl, by simp [within]; omega⟩
 · rintro ⟨l, hl, h⟩
   have h1 := h0 l hl; have h2 := hm l hl; simp [within] at h; omega
theorem yb8 {x : Con} (h : yi x = 0) : ∀ l ∈ x.legs, 0 ≤ l.s := fun l hl => by
 have := (q15 h).2.2 l hl; have h1 := (Leg.y0i this).1; omega
theorem y1x {x : Con} (h : yi x = 0) : 0 < x.legs.length ∧ x.legs.length ≤ 8 := by
 have := (q15 h).2.1; omega
def q59 (x : Con) : Int := ((shF x.legs)[(shF x.legs).length - 1]?).getD 0
theorem y3d {x : Con} (h : yi x = 0) : (ints (shF x.legs))[(IntKind.i64.wrap (((ints (shF x.legs)).length : Int) - 1)).toNat]? = some [i64 (q59 x)] := by
 obtain ⟨y, hy, hp, _⟩ := y4q (y1x h).1; have hl := y1m x.legs x.legs.length; rw [List.take_length] at hl; have := (y1x h).2; rw [show (ints (shF x.legs)).length = (shF x.legs).length by simp]; unfold q59; rw [hy]; exact z1e (fun n => [i64 n]) hp (by omega) hy
theorem y5y {x : Con} (h : yi x = 0) : 0 ≤ IntKind.i64.wrap (((ints (shF x.legs)).length : Int) - 1) := by
 obtain ⟨y, hy, hp, _⟩ := y4q (y1x h).1; have hl := y1m x.legs x.legs.length; rw [List.take_length] at hl; have := (y1x h).2; rw [show (ints (shF x.legs)).length = (shF x.legs).length by simp]; exact q0o hp (by omega)
theorem z5a {x : Con} (h : yi x = 0) (c : Clu) : z7l c x = decide ((c.shs.length : Int) ≤ q59 x) := by
 unfold z7l; obtain ⟨y, hy, hp, e, hm⟩ := y4q (y1x h).1; rw [← z99 (yb8 h) (y := q59 x) (by unfold q59; rw [hy]; exact e) (by unfold q59; rw [hy]; exact hm)]
theorem z32 {s : Shd} (h : zq s = 0) : ∀ x ∈ s.held, yi x = 0 := by
 have : qr q0n s = 0 := by
  unfold zq q14 at h
  repeat' split at h
  all_goals first | omega | (simp_all; done)
 exact q4i this
theorem y4r {c : Clu} {i : Nat} {s : Shd} (h : zq s = 0) (hi : s.idx = i) : ya0 c i s = if (s.votes.any fun m => !(q17 c.cons m.c i)) || (s.done.any fun m => !(q17 c.cons m.c i)) then 1 else if s.held.any (z3q c) then 1 else 0 := by
 unfold ya0; rw [if_neg (by simpa using h), if_neg (by simpa using hi)]
end Go.Sx
end
section
namespace Go.Sx
open Go.Lib
theorem q8a : ∀ {xs ys : List Int}, xs.Pairwise (· < ·) → ys.Pairwise (· < ·) → (∀ x, x ∈ xs ↔ x ∈ ys) → xs = ys
 | [], [], _, _, _ => rfl
 | [], y :: ys, _, _, h => by have := (h y).2 (by simp); simp at this
 | x :: xs, [], _, _, h => by have := (h x).1 (by simp); simp at this
 | x :: xs, y :: ys, hx, hy, h => by
   obtain ⟨hx1, hx2⟩ := List.pairwise_cons.1 hx; obtain ⟨hy1, hy2⟩ := List.pairwise_cons.1 hy
   have e : x = y := by
    rcases List.mem_cons.1 ((h x).1 (by simp)) with e | m
    · exact e
    · rcases List.mem_cons.1 ((h y).2 (by simp)) with e | m'
      · exact e.symm
      · have h1 := hy1 x m
        have h2 := hx1 y m'; omega
   subst e; rw [q8a hx2 hy2 fun z => ⟨fun hz => ?_, fun hz => ?_⟩]
   · rcases List.mem_cons.1 ((h z).1 (List.mem_cons_of_mem _ hz)) with e | m
     · have h1 := hx1 z hz
       omega
     · exact m
   · rcases List.mem_cons.1 ((h z).2 (List.mem_cons_of_mem _ hz)) with e | m
     · have h1 := hy1 z hz
       omega
     · exact m
theorem y58 (d : Array Int) : ∀ j, ∃ i, i ≤ j ∧ keeps d i = true ∧ d[i]! = d[j]!
 | 0 => ⟨0, Nat.le_refl _, by simp [keeps], rfl⟩
 | j + 1 => by
   by_cases h : keeps d (j + 1) = true
   · exact ⟨j + 1, Nat.le_refl _, h, Y⟩
   · have h : d[j + 1]! = d[j]! := by simpa [keeps] using h
     obtain ⟨i, h1, h2, h3⟩ := y58 d j; exact ⟨i, by omega, h2, by rw [h3, h]⟩
theorem q61 {zs : List Int} {x : Int} : x ∈ compact zs ↔ x ∈ zs := by
 unfold compact compactUpTo; simp only [List.mem_map, List.mem_filter, List.mem_range]; constructor
 · rintro ⟨j, ⟨hj, _⟩, rfl⟩
   simp [hj]
 · intro h
   obtain ⟨j, hj⟩ := List.mem_iff_getElem?.1 h; obtain ⟨hj1, hj2⟩ := List.getElem?_eq_some_iff.1 hj; obtain ⟨i, h1, h2, h3⟩ := y58 zs.toArray j; exact ⟨i, ⟨by omega, h2⟩, by rw [h3]; simp [hj1, hj2]⟩
theorem q70 {zs : List Int} (hs : zs.Pairwise (· ≤ ·)) : (compact zs).Pairwise (· < ·) := by
 unfold compact compactUpTo; rw [List.pairwise_map, List.pairwise_filter, List.pairwise_iff_getElem]; intro i j hi hj hij _ h2; have hi : i < zs.length := by simpa using hi
 have hj : j < zs.length := by simpa using hj
 simp only [List.getElem_range] at *
 have hle : ∀ a b : Nat, a < b → b < zs.length → zs[a]! ≤ zs[b]! := fun a b hab hb => by
  have := (List.pairwise_iff_getElem.1 hs) a b (by omega) hb hab; simp only [getElem!_pos zs a (by omega), getElem!_pos zs b hb]; exact this
 have e : ∀ k, k < zs.length → zs.toArray[k]! = zs[k]! := fun k hk => by
  rw [getElem!_pos zs.toArray k (by simpa using hk), getElem!_pos zs k hk]; simp
 have h2 : ¬ zs[j]! = zs[j - 1]! := by
  have : j ≠ 0 := by omega
  rw [← e j hj, ← e (j - 1) (by omega)]
  simpa [keeps, this] using h2
 rw [e i hi, e j hj]; have h4 : zs[j - 1]! ≤ zs[j]! := hle (j - 1) j (by omega) hj; rcases Nat.lt_or_ge i (j - 1) with h | h
 · have h3 : zs[i]! ≤ zs[j - 1]! := hle i (j - 1) h (by omega)
   omega
 · have : i = j - 1 := by omega
   subst this; omega
theorem q6z (zs : List Int) : (compact zs).length ≤ zs.length := by
 unfold compact compactUpTo; rw [List.length_map]; exact Nat.le_trans (List.length_filter_le _ _) (by simp)
theorem z9b (xs : List Int) : (z0o xs).Pairwise (· ≤ ·) := by
 have h := List.pairwise_mergeSort (le := fun a b : Int => decide (a ≤ b)) (fun a b c h1 h2 => by simp at *; omega) (fun a b => by simp; omega) xs; exact h.imp (fun h => by simpa using h)
theorem q8c {xs : List Int} {x : Int} : x ∈ z0o xs ↔ x ∈ xs := (List.mergeSort_perm xs _).mem_iff
theorem ybj (ls : List Leg) : compact (z0o (ls.map (·.s))) = shF ls :=
 q8a (q70 (z9b _)) (y5g ls) fun x => by
  rw [q61, q8c, List.mem_map, q4n]
end Go.Sx
end
section
namespace Go.Sx
theorem q8f : ∀ {l : List Int}, orr l = 0 → ∀ x ∈ l, x = 0
 | [], _, x, hx => by cases hx
 | y :: l, h, x, hx => by
   rw [orr] at h; split at h
   · rename_i h1; exact absurd h h1
   · rename_i h1
     rcases List.mem_cons.1 hx with rfl | hx
     · simpa using h1
     · exact q8f h x hx
theorem z4z {c : Clu} (h : zj c = 0) : z0q c = false ∧ (∀ i, i < c.cons.length → q0d c i = 0) ∧ (∀ i, i < c.shs.length → q2l c i = 0) ∧ (∀ i, i < c.accs.length → z2u c i = 0) ∧ (∀ i, i < c.ldrs.length → y2v c i = 0) ∧ ∀ i, i < c.msgs.length → y4o c i = 0 := by
 unfold zj at h; split at h
 · omega
 · rename_i hm
   have ha := q8f h; exact ⟨by simpa using hm, fun i hi => z04 (ha _ (by simp)) i hi, fun i hi => z04 (ha _ (by simp)) i hi, fun i hi => z04 (ha _ (by simp)) i hi, fun i hi => z04 (ha _ (by simp)) i hi, fun i hi => z04 (ha _ (by simp)) i hi⟩
theorem qa8 {c : Clu} (h : zj c = 0) {i : Nat} {x : Con} (hx : c.cons[i]? = some x) : yi x = 0 ∧ z7l c x = false ∧ ahead (fun p x : Con => decide (p.id < x.id)) c.cons i x = true := by
 have := (z4z h).2.1 i (List.getElem?_eq_some_iff.1 hx).1; simp only [q0d, hx] at this; split at this
 · rename_i h1; exact absurd this h1
 · rename_i h1
   split at this
   · omega
   · rename_i h2
     split at this
     · rename_i h3; exact ⟨by simpa using h1, by simpa using h2, h3⟩
     · omega
theorem z7t {c : Clu} (h : zj c = 0) : ∀ (i j : Nat) (x y : Con), i < j → c.cons[i]? = some x → c.cons[j]? = some y → x.id < y.id :=
 y2y (key := Con.id) fun j p x hp hx => by
  have ha := (qa8 h hx).2.2; rw [ya (p := p) (by omega) (by simpa using hp)] at ha
  simpa using ha
theorem y4z {cs : List Con} {id : Int} {x : Con} (h : y07 cs id = some x) : x ∈ cs ∧ x.id = id := by
 unfold y07 at h; exact ⟨List.mem_of_find?_eq_some h, by have := List.find?_some h; simpa using this⟩
theorem y9a {N : Nat} {e : Sh} {rows : List (List Cell)} (hw : WR N e rows) : qz (cnt e) rows ≤ wid e * rows.length + y43 e * qz (tot e) rows :=
 q2g fun row hr => z7u (hw.2 row hr)
def q2n : Clu := ⟨[], [], [], [], []⟩
def told (c : Clu) : Int × Clu := if 200 < c.msgs.length then (2, q2n) else (0, c)
def yaw {α : Type} (l : List α) (k : Int) : Option α := if 0 ≤ k then l[k.toNat]? else none
theorem y81 {α : Type} {l : List α} {k : Int} {x : α} (h : yaw l k = some x) : 0 ≤ k ∧ k < l.length ∧ l[k.toNat]? = some x := by
 unfold yaw at h; split at h
 · obtain ⟨h1, _⟩ := List.getElem?_eq_some_iff.1 h
   exact ⟨by assumption, by omega, h⟩
 · cases h
theorem z81 {α : Type} {l : List α} {k : Int} (h : yaw l k = none) : ¬ (0 ≤ k ∧ k < l.length) := by
 unfold yaw at h; split at h
 · have := List.getElem?_eq_none_iff.1 h; omega
 · omega
theorem getI_within {α : Type} {l : List α} {k : Int} : within k 0 ((l.length : Int) - 1) = (yaw l k).isSome := by
 cases h : yaw l k with
 | none =>
   have := z81 h; simp only [within, Option.isSome_none, Bool.and_eq_false_iff, decide_eq_false_iff_not]; omega
 | some x =>
   have := y81 h; simp only [within, Option.isSome_some, Bool.and_eq_true, decide_eq_true_eq]; omega
theorem q2y {c : Clu} (h : zj c = 0) : c.msgs.length ≤ 200 ∧ c.accs.length ≤ 5 ∧ c.cons.length ≤ 20 := by
 have := (z4z h).1; simp only [z0q, Bool.or_eq_false_iff, decide_eq_false_iff_not, within, Bool.not_eq_false', Bool.and_eq_true, decide_eq_true_eq] at this; omega
instance instDecidableEqVt : DecidableEq Vt := fun x y =>
 if h : x.b = y.b ∧ x.v = y.v then isTrue (by cases x; cases y; simp_all) else isFalse (fun e => h (by subst e; exact ⟨Y, Y⟩))
def y3v (id : Int) (cs : List Con) : Nat := cs.findIdx fun y => decide (id ≤ y.id)
def y20 (x : Con) (cs : List Con) : List Con := cs.take (y3v x.id cs) ++ [x] ++ cs.drop (y3v x.id cs)
def y3m (cs : List Con) : List Con := cs.mergeSort fun a b => decide (a.id ≤ b.id)
def y9s (id s : Int) : Msg := ⟨1, s, 0, id, 0, 0, 0, 0, 0⟩
def asks (x : Con) (ss : List Int) : List Msg := ss.map fun s => y9s x.id s
def y6a (c : Clu) (x : Con) : Clu := ⟨y20 x c.cons, c.shs, c.accs, c.ldrs, c.msgs ++ asks x (shF x.legs)⟩
def zr (c : Clu) (x : Con) : Int × Clu :=
 if zj c ≠ 0 then (zj c, q2n) else if yi x ≠ 0 then (yi x, q2n) else if z7l c x then (4, q2n) else match y07 c.cons x.id with
 | some y => if y.same x then (0, c) else (7, q2n)
 | none => if c.cons.length = 20 then (2, q2n) else told (y6a c x)
theorem z8a (id : Int) (cs : List Con) : y3v id cs ≤ cs.length := List.findIdx_le_length
theorem y8a {id : Int} {cs : List Con} {i : Nat} {y : Con} (hi : i < y3v id cs) (hy : cs[i]? = some y) : y.id < id := by
 have h1 := List.not_of_lt_findIdx hi; obtain ⟨hl, e⟩ := List.getElem?_eq_some_iff.1 hy; rw [e] at h1
 simpa using h1
theorem y89 {id : Int} {cs : List Con} (h : y3v id cs < cs.length) : ∃ y, cs[y3v id cs]? = some y ∧ id ≤ y.id := by
 have h1 := List.findIdx_getElem (w := h); exact ⟨cs[y3v id cs], List.getElem?_eq_getElem h, of_decide_eq_true h1⟩
theorem q89 {id : Int} {cs : List Con} {i : Nat} (h0 : ∀ (j : Nat) (y : Con), j < i → cs[j]? = some y → y.id < id) (hi : i ≤ cs.length) (h : i = cs.length ∨ ∃ y, cs[i]? = some y ∧ id ≤ y.id) : y3v id cs = i := by
 rcases Nat.lt_trichotomy (y3v id cs) i with h1 | h1 | h1
 · obtain ⟨y, hy, h2⟩ := y89 (id := id) (cs := cs) (by omega)
   have := h0 _ y h1 hy; omega
 · exact h1
 · rcases h with h | ⟨y, hy, h2⟩
   · have := z8a id cs; omega
   · have := y8a h1 hy; omega
theorem y3i (x : Con) (cs : List Con) : (y20 x cs).Perm (cs ++ [x]) := by
 unfold y20; rw [List.append_assoc]; refine ((List.perm_append_comm (l₁ := [x]) (l₂ := cs.drop (y3v x.id cs))).append_left (cs.take (y3v x.id cs))).trans ?_; rw [← List.append_assoc, List.take_append_drop]
theorem qam {x : Con} {cs : List Con} (hs : cs.Pairwise fun a b => a.id < b.id) (hn : ∀ y ∈ cs, y.id ≠ x.id) : (y20 x cs).Pairwise fun a b => a.id < b.id := by
 have h1 : ∀ y ∈ cs.take (y3v x.id cs), y.id < x.id := fun y hy => by
  obtain ⟨i, hi⟩ := List.mem_iff_getElem?.1 hy; have hl := (List.getElem?_eq_some_iff.1 hi).1; rw [List.length_take] at hl; rw [List.getElem?_take, if_pos (by omega)] at hi; exact y8a (by omega) hi
 have h2 : ∀ y ∈ cs.drop (y3v x.id cs), x.id < y.id := fun y hy => by
  obtain ⟨i, hi⟩ := List.mem_iff_getElem?.1 hy; rw [List.getElem?_drop] at hi; have hl := (List.getElem?_eq_some_iff.1 hi).1; obtain ⟨z, hz, hz2⟩ := y89 (id := x.id) (cs := cs) (by omega); have hne := hn y (List.mem_of_getElem? hi); rcases Nat.eq_zero_or_pos i with h0 | h0
  · subst h0; rw [Nat.add_zero, hz] at hi; cases hi; omega
  · have e1 := (List.getElem?_eq_some_iff.1 hi).2
    have e2 := (List.getElem?_eq_some_iff.1 hz).2; have := List.pairwise_iff_getElem.1 hs (y3v x.id cs) (y3v x.id cs + i) (by omega) hl (by omega); rw [e1, e2] at this; omega
 unfold y20; rw [List.append_assoc, List.pairwise_append]; refine ⟨hs.sublist (List.take_sublist _ _), List.pairwise_append.2 ⟨List.pairwise_singleton _ _, hs.sublist (List.drop_sublist _ _), fun a ha b hb => ?_⟩, fun a ha b hb => ?_⟩
 · obtain rfl := List.mem_singleton.1 ha; exact h2 b hb
 · rcases List.mem_append.1 hb with hb | hb
   · obtain rfl := List.mem_singleton.1 hb; exact h1 a ha
   · have := h1 a ha; have := h2 b hb; omega
theorem y9k {x : Con} {cs : List Con} (hs : cs.Pairwise fun a b => a.id < b.id) (hn : ∀ y ∈ cs, y.id ≠ x.id) : y3m (cs ++ [x]) = y20 x cs := by
 have hp := qam hs hn; have hq := y3i x cs; refine List.Perm.eq_of_pairwise (le := fun a b : Con => decide (a.id ≤ b.id) = true) (fun a b ha hb h1 h2 => ?_) (List.pairwise_mergeSort (fun a b c h1 h2 => by simp at *; omega) (fun a b => by simp; omega) _) (hp.imp fun h => by simp; omega) ((List.mergeSort_perm _ _).trans hq.symm); obtain ⟨i, hi⟩ := List.mem_iff_getElem?.1 (hq.mem_iff.2 ((List.mergeSort_perm _ _).mem_iff.1 ha)); obtain ⟨j, hj⟩ := List.mem_iff_getElem?.1 hb; obtain ⟨li, ei⟩ := List.getElem?_eq_some_iff.1 hi; obtain ⟨lj, ej⟩ := List.getElem?_eq_some_iff.1 hj; have h1 : a.id ≤ b.id := by simpa using h1
 have h2 : b.id ≤ a.id := by simpa using h2
 rcases Nat.lt_trichotomy i j with h | h | h
 · have := List.pairwise_iff_getElem.1 hp i j li lj h; rw [ei, ej] at this; omega
 · subst h; rw [← ei, ← ej]
 · have := List.pairwise_iff_getElem.1 hp j i lj li h; rw [ei, ej] at this; omega
theorem z9u {c : Clu} (h : zj c = 0) : c.cons.Pairwise fun a b => a.id < b.id :=
 List.pairwise_iff_getElem.2 fun i j hi hj hij => z7t h i j _ _ hij (List.getElem?_eq_getElem hi) (List.getElem?_eq_getElem hj)
theorem z6j {cs : List Con} {id : Int} (h : y07 cs id = none) : ∀ y ∈ cs, y.id ≠ id := fun y hy e => by
 have := List.find?_eq_none.1 h y hy; exact this (by simpa using e)
theorem z9l {c : Clu} (h : zj c = 0) {x : Con} (hx : y07 c.cons x.id = none) : y3m (c.cons ++ [x]) = y20 x c.cons := y9k (z9u h) (z6j hx)
theorem z9k {c : Clu} (h : zj c = 0) {x : Con} (hx : y07 c.cons x.id = none) : (c.cons ++ [x]).Pairwise fun a b => a.id ≠ b.id := by
 refine List.pairwise_append.2 ⟨(z9u h).imp fun h => by omega, List.pairwise_singleton _ _, fun a ha b hb => ?_⟩; obtain rfl := List.mem_singleton.1 hb; exact z6j hx a ha
theorem y33 {x : Con} {ss : List Int} {i : Nat} {s : Int} (h : ss[i]? = some s) : asks x (ss.take (i + 1)) = asks x (ss.take i) ++ [y9s x.id s] := by
 rw [List.take_add_one, h]; simp [asks]
theorem q6h {x : Con} {ss : List Int} : (asks x ss).length = ss.length := by simp [asks]
theorem y30 (x : Con) (cs : List Con) : (y20 x cs).length = cs.length + 1 := by
 have := (y3i x cs).length_eq
 simpa using this
theorem z9e {x y : Con} {cs : List Con} : y ∈ y20 x cs ↔ y ∈ cs ∨ y = x := by
 rw [(y3i x cs).mem_iff]; simp
end Go.Sx
end
