/- WHAT IS PROVED: parts of the proof of fnExactStatementOf_holds: a frame for walks, what each Go function that it reaches answers, and plain lemmas; no condition beyond those that each theorem names. -/
import Derived.Test.YthljegacamgnnaaGreatCSt3
import Derived.WalkKit
import Derived.OrdersHeld
import Derived.DeepKeys
import Derived.Maps.RangeWalk
import Derived.Maps.OwnOps
import Derived.Deep.Slices
import Derived.ChangeArms
import Derived.WideShapes
set_option linter.unusedVariables false
set_option linter.unusedSimpArgs false
section
namespace Go.Sx
open Go.RowKit (Below)
section
variable {g : Bool} {P : Program} {F : TT} {σ : St} {o : Oper} {K : St → Prop}
theorem z2s {x : Operand} {f : AV → R} (h : (evR σ x f).holds P K) : ∃ av, ev σ x = some av ∧ (f av).holds P K := by
 unfold evR at h
 split at h
 · rename_i av hav; exact ⟨av, hav, h⟩
 · exact h.elim
theorem z3i {z : AV} (h : z73 z = true) : za0 z := by cases z <;> first | trivial | cases h
theorem zaa {z : AV} (h : z73 z = true) : (match (generalizing := false) z with | .tup _ => False | _ => True) := by cases z <;> first | trivial | cases h
theorem q3v {x : Option Operand} {r : Option Int} (h : y8w x σ = some r) : q2u x σ = some r := h
theorem z5l {x : Operand} {K' : AV → Prop} (h : (evR σ x fun av => z0s σ o.dst av).holds P K) (hK : ∀ av, K (σ.put o.dst av) → K' av) : evK σ x K' := by
 obtain ⟨av, h1, h2⟩ := z2s h
 unfold evK
 rw [h1]
 exact hK _ (y1g.1 h2)
theorem q8y {t : Nat} {av : AV} {f : Value → R} {K' : Value → Prop} (hF : F = F.map P) (hf : ∀ v, (f v).holds P K → K' v) (h : (ya7 F σ t av f).holds P K) : qa7 P t σ av K' := by
 unfold ya7 at h
 split at h
 · obtain ⟨_, h1, h2⟩ := yg h; exact ⟨by rw [q0h hF h1]; rfl, hf _ h2⟩
 · obtain ⟨_, h1, h2⟩ := yg h; exact ⟨by rw [q0h hF h1]; rfl, hf _ h2⟩
 · obtain ⟨_, h1, h2⟩ := yg h; exact ⟨by rw [q0h hF h1]; rfl, hf _ h2⟩
 · obtain ⟨_, h1, h2⟩ := yg h; exact ⟨by rw [q0h hF h1]; rfl, hf _ h2⟩
 · obtain ⟨h1, h2⟩ := zb h; exact ⟨z3o hF h1, hf _ h2⟩
 · obtain ⟨_, h1, h2⟩ := yg h
   refine ⟨by rw [q0h hF h1]; rfl, ?_⟩
   split at h2
   · rename_i full sz ep rows hg
     obtain ⟨h3, row, h4, h5⟩ := h2
     rw [hg]
     refine ⟨h3, ?_⟩
     rw [h4]
     dsimp only at h5 ⊢
     split at h5
     · rename_i rs hrs; rw [q1u] at hrs; rw [hrs]; exact hf _ h5
     · exact h5.elim
   · exact h2.elim
 · exact h.elim
theorem ya8 {av : AV} {ag : Bool} {n : Nat} (h : (z5k σ av fun cs => (match ag with
 | true => yq (q39 n cs) (q0d (force (cs.take n)) fun cs => z0s σ o.dst (.agg cs))
 | false => (match cs with | [] => .fail | c :: _ => z0s σ o.dst (.one c)))).holds P K) : y1k σ av fun cs => match y3h ag n cs with | some r => K (σ.put o.dst r) | none => False := by
 refine y6m (fun cs h => ?_) h
 split at h
 · obtain ⟨h1, h2⟩ := zb h
   obtain ⟨cs', h3, h4⟩ := yg h2
   rw [force_eq h3] at h4
   simp only [y3h, if_true, if_pos (y0q h1)]
   exact y1g.1 h4
 · split at h
   · exact h.elim
   · exact y1g.1 h
theorem yes {av : AV} (h : (z0s σ o.dst av).holds P K) : K (σ.put o.dst av) := y1g.1 h
theorem q7h {d : Option Tmp} {cs : List AC} (h : (za2 σ d cs).holds P K) : q17 σ d cs K := by
 unfold za2 at h
 unfold q17
 split at h
 · split at h
   · rename_i hn; dsimp only; rw [hn]; exact qx h
   · exact h.elim
 · exact h.elim
theorem z8z (hF : F = F.map P) {t n : Nat} {ps : List (Nat × Operand)} {d : Option Tmp} (h : (za8 F σ t n ps d).holds P K) : y9n P σ t n ps d K := by
 unfold za8 at h
 unfold y9n
 split at h
 · rename_i d sz by_ rws h1 h2
   rw [qz hF h1, y2y h2]
   dsimp only
   split at h
   · rename_i hn
     rw [hn]
     dsimp only
     obtain ⟨g1, h⟩ := zb h
     obtain ⟨g2, h⟩ := zb h
     obtain ⟨g3, h⟩ := zb h
     obtain ⟨g4, h⟩ := zb h
     obtain ⟨g5, h⟩ := zb h
     obtain ⟨g6, h⟩ := h
     obtain ⟨rs, g7, h⟩ := yg h
     rw [q3t] at g4 g5
     have h := qx h
     rw [q3t, q2l, y5o g7] at h
     rw [q2l] at g6
     exact ⟨y0z g1, Nat.le_of_ble_eq_true g2, z4a g3, z6 g4, y2m (q2x g5), g6, h⟩
   · exact h.elim
 · exact h.elim
theorem q8z (hF : F = F.map P) {t : Nat} {l c : Operand} {d : Option Tmp} (h : (qa8 F σ t l c d).holds P K) : y70 P σ t l c d K := by
 unfold qa8 at h
 unfold y70
 split at h
 · rename_i d sz by_ zrow k n k' n' h1 h2 h3 h4
   rw [qz hF h1, z6h hF h2, h3, h4]
   dsimp only
   split at h
   · rename_i hn
     rw [hn]
     dsimp only
     obtain ⟨g1, g2, g3, g4, g5, h⟩ := zb h
     exact ⟨g2, g3, g4, g5, y0z g1, qx h⟩
   · exact h.elim
 · exact h.elim
theorem q7b (hF : F = F.map P) {t : Nat} {β m i k : Nat} {x : AV} (h : (y4s F σ t (.one (.e β m i k)) x).holds P K) : q4r P σ t (.one (.e β m i k)) x K := by
 unfold y4s at h
 unfold q4r
 split at h
 · rename_i n β m i k x h1 he
   cases he
   rw [z2j hF h1]
   dsimp only
   split at h
   · rename_i full sz ep rows hg
     rw [hg]
     dsimp only
     obtain ⟨g1, h⟩ := zb h
     obtain ⟨g2, h⟩ := zb h
     obtain ⟨g3, h⟩ := zb h
     obtain ⟨g4, h⟩ := zb h
     obtain ⟨g5, row, g6, g7, g8, h⟩ := h
     obtain ⟨xs, g9, h⟩ := yg h
     have h := qx h
     rw [q3t] at g3 g4 h
     rw [q3x g9] at h
     refine ⟨g5, ?_⟩
     rw [g6]
     refine ⟨y0z g2, ?_, g7, z6 g3, y2m (q2x g4), g8, h⟩
     exact zaa g1
   · exact h.elim
 · rename_i he; cases he
 · rename_i he; cases he
 · exact h.elim
theorem z7c (hF : F = F.map P) {t : Nat} {p x : AV} (hne : ∀ β m i k, p ≠ .one (.e β m i k)) (h : (y4s F σ t p x).holds P K) : z4s P σ t p x K := by
 unfold y4s at h
 unfold z4s
 split at h
 · exact absurd rfl (hne _ _ _ _)
 · rename_i β off c h1
   split at h
   · rename_i cs hg
     simp only [z2j hF h1, hg]
     obtain ⟨g1, h⟩ := zb h
     obtain ⟨cs', g2, h⟩ := yg h
     rw [force_eq g2] at h
     exact ⟨y0q g1, qx h⟩
   · exact h.elim
 · rename_i n β off xs h1
   split at h
   · rename_i cs hg
     simp only [z2j hF h1, hg]
     obtain ⟨g0, h⟩ := zb h
     obtain ⟨g1, h⟩ := zb h
     obtain ⟨cs', g2, h⟩ := yg h
     rw [force_eq g2] at h
     exact ⟨y0z g0, y0q g1, qx h⟩
   · exact h.elim
 · exact h.elim
theorem y7n (hF : F = F.map P) {c : Call} (ho : o.op = .call c) (h : (q8n g F σ o c).holds P K) : opL g P σ o K := by
 unfold q8n at h
 split at h
 · rename_i hc
   simp only [opL, ho, hc, opY]
   split at h
   · rename_i t _ x ht hx
     obtain ⟨av, h1, h2⟩ := z2s h
     rw [ht, hx]
     simp only [evK, h1]
     exact q8y hF (fun v hv => yes hv) h2
   · exact h.elim
 · rename_i hc
   simp only [opL, ho, hc]
   split at h
   · rename_i t tx s x d ht hx hd
     unfold y9x
     rw [ht, hx, hd]
     dsimp only
     split at h
     · rename_i sz by_ p β n γ m e1 e2 e3 e4
       rw [qz hF e1, qz hF e2, e3, e4]
       dsimp only
       split at h
       · rename_i full0 sz0 ep rows0 full sz1 ep1 rows e5 e6
         rw [e5, e6]
         dsimp only
         obtain ⟨g1, h⟩ := zb h
         obtain ⟨g2, h⟩ := zb h
         obtain ⟨g3, h⟩ := zb h
         obtain ⟨g4, g5, g6, g7, g8, h⟩ := h
         exact ⟨g4, g5, Nat.eq_of_beq_eq_true g1, Nat.eq_of_beq_eq_true g2, g6, Nat.ne_of_beq_eq_false (q2x g3), g7, g8, qx h⟩
       · exact h.elim
     · rename_i sz by_ p β n rows e1 e2 e3 e4
       rw [qz hF e1, qz hF e2, e3, e4]
       dsimp only
       split at h
       · rename_i full0 sz0 ep rows0 e5
         rw [e5]
         dsimp only
         obtain ⟨g1, h⟩ := zb h
         obtain ⟨g4, g5, g6, g7, g8, h⟩ := h
         exact ⟨g4, Nat.eq_of_beq_eq_true g1, g5, g6, g7, g8, qx h⟩
       · exact h.elim
     · rename_i sz by_ p γ m e1 e2 e3 e4
       rw [qz hF e1, qz hF e2, e3, e4]
       dsimp only
       split at h
       · rename_i full sz1 ep1 rows e5 e6
         rw [e5, e6]
         dsimp only
         obtain ⟨g1, h⟩ := zb h
         obtain ⟨g2, h⟩ := zb h
         obtain ⟨g4, g5, g6, h⟩ := h
         exact ⟨g4, Nat.eq_of_beq_eq_true g1, Nat.ne_of_beq_eq_false (q2x g2), g5, g6, qx h⟩
       · exact h.elim
     · rename_i sz by_ p γ m e1 e2 e3 e4
       rw [qz hF e1, qz hF e2, e3, e4]
       dsimp only
       split at h
       · rename_i full sz1 ep1 rows e5 e6
         rw [e5, e6]
         dsimp only
         obtain ⟨g1, h⟩ := zb h
         obtain ⟨g2, h⟩ := zb h
         obtain ⟨g4, g5, g6, h⟩ := h
         exact ⟨g4, Nat.eq_of_beq_eq_true g1, Nat.ne_of_beq_eq_false (q2x g2), g5, g6, qx h⟩
       · exact h.elim
     · rename_i sz by_ p rows e1 e2 e3 e4
       rw [qz hF e1, qz hF e2, e3, e4]
       dsimp only
       split at h
       · rename_i e5
         rw [e5]
         dsimp only
         obtain ⟨g4, g5, g6, g7, h⟩ := h
         exact ⟨g4, g5, g6, g7, qx h⟩
       · exact h.elim
     · rename_i sz by_ p rows e1 e2 e3 e4
       rw [qz hF e1, qz hF e2, e3, e4]
       dsimp only
       split at h
       · rename_i e5
         rw [e5]
         dsimp only
         obtain ⟨g4, g5, g6, g7, h⟩ := h
         exact ⟨g4, g5, g6, g7, qx h⟩
       · exact h.elim
     · exact h.elim
   · exact h.elim
 · rename_i x hc
   simp only [opL, ho, hc]
   split at h
   · rename_i f caps avs e1 e2
     rw [e1, e2]
     obtain ⟨avs', h1, h2⟩ := yg h
     rw [force_eq h1] at h2
     exact h2
   · rename_i f caps avs e1 e2
     rw [e1, e2]
     obtain ⟨avs', h1, h2⟩ := yg h
     rw [force_eq h1] at h2
     exact h2
   · rename_i f β off avs e1 e2
     rw [e1, e2]
     exact h
   · rename_i f ag row avs e1 e2
     rw [e1, e2]
     exact h
   · exact h.elim
 · rename_i hc
   simp only [opL, ho, hc, opY]
   split at h
   · rename_i x y hx
     rw [hx]
     dsimp only
     split at h
     · rename_i e1 e2; rw [e1, e2]; exact yes h
     · exact h.elim
   · rename_i x y z t hx
     rw [hx]
     dsimp only
     split at h
     · rename_i e1 e2 e3 e4; rw [e1, e2, e3, e4]; exact yes h
     · exact h.elim
   · exact h.elim
 · rename_i hc
   simp only [opL, ho, hc, opY]
   split at h
   · rename_i x y hx
     rw [hx]
     dsimp only
     split at h
     · rename_i e1 e2; rw [e1, e2]; exact yes h
     · exact h.elim
   · exact h.elim
 · exact h
theorem z8g (hF : F = F.map P) (h : (opR g F σ o).holds P K) : opL g P σ o K := by
 unfold opR at h
 split at h
 case h_1 x ho => simp only [opL, ho, opY]; exact z5l h (fun _ hk => hk)
 case h_2 x ho => simp only [opL, ho, opY]; exact z5l h (fun _ hk => hk)
 case h_3 c x y ho =>
  simp only [opL, ho, opY]
  split at h
  · rename_i t ht
    rw [ht]
    exact ⟨fun hb => z5l (x := if (true : Bool) then x else y) (h.1 hb) (fun _ hk => hk), fun hb => z5l (x := if (false : Bool) then x else y) (h.2 hb) (fun _ hk => hk)⟩
  · exact h.elim
 case h_4 t x ho =>
  simp only [opL, ho, opY]
  split at h
  · rename_i av ag n h1 h2
    rw [h1, z2j hF h2]
    exact ya8 h
  · exact h.elim
 case h_5 op t x y yt ho =>
  split at h
  · rename_i p q h1 h2
    simp only [opL, ho, opY, h1, h2]
    obtain ⟨g1, h⟩ := zb h
    refine ⟨y7k hF g1, ?_⟩
    unfold z6l
    split at h
    · exact yes h
    · exact yes h
    · exact h.elim
  · rename_i u v hne h1 h2
    simp only [opL, ho, opY]
    split
    · rename_i e1 e2
      rw [h1] at e1; rw [h2] at e2
      cases e1; cases e2
      exact (hne _ _ rfl rfl).elim
    · rename_i u' v' _ e1 e2
      rw [h1] at e1; rw [h2] at e2
      cases e1; cases e2
      exact q8m (fun v hv => yes hv) h
    · rename_i e1 e2
      rw [h1] at e1
      cases e1
    · rename_i e1 e2
      rw [h1] at e1
      cases e1
    · rename_i _ hx _ _
      exact (hx _ _ h1 h2).elim
  · rename_i rows h1 h2
    simp only [opL, ho, opY, h1, h2]
    obtain ⟨sz, g1, h⟩ := yg h
    obtain ⟨e, _, g2, _⟩ := y0p (q0h hF g1)
    refine ⟨⟨e, g2⟩, fun b hb => ?_⟩
    split at h
    · exact yes (h b hb)
    · exact yes (h b hb)
    · exact h.elim
  · rename_i cs cs' h1 h2
    simp only [opL, ho, opY, h1, h2]
    obtain ⟨ks, g1, h⟩ := yg h
    obtain ⟨xs, g2, h⟩ := yg h
    obtain ⟨ys, g3, h⟩ := yg h
    obtain ⟨g4, h⟩ := zb h
    obtain ⟨g5, h⟩ := zb h
    simp only [z8k, q7k hF g1, g2, g3]
    refine ⟨y2t g4, y2t g5, ?_⟩
    split at h
    · exact yes h
    · exact yes h
    · exact h.elim
  · exact h
 case h_6 op t x ho =>
  simp only [opL, ho, opY]
  split at h
  · rename_i b hb; rw [hb]; exact yes h
  · rename_i k n hn; rw [hn]; exact yes h
  · exact h.elim
 case h_7 s d x ho =>
  split at h
  · rename_i k0 n k h1 h2
    simp only [opL, ho, opY, h1, z8i hF h2]
    obtain ⟨g1, h⟩ := zb h
    exact ⟨y7l hF g1, yes h⟩
  · exact h
 case h_8 s x f ho =>
  simp only [opL, ho, opY]
  split at h
  · rename_i row off h1 h2
    rw [h1, q2n hF h2]
    obtain ⟨g1, h⟩ := zb h
    obtain ⟨r, g2, h⟩ := yg h
    rw [force_eq g2] at h
    exact ⟨y0q g1, yes h⟩
  · rename_i β i off h1 h2
    rw [h1, q2n hF h2]; exact yes h
  · rename_i β m i k off h1 h2
    rw [h1, q2n hF h2]; exact yes h
  · exact h.elim
 case h_9 s x f ho =>
  simp only [opL, ho, opY]
  split at h
  · rename_i cs off n h1 h2
    rw [h1, q2i hF h2]
    obtain ⟨g1, h⟩ := zb h
    obtain ⟨r, g2, h⟩ := yg h
    rw [force_eq g2] at h
    exact ⟨y0q g1, yes h⟩
  · rename_i cs off n h1 h2
    rw [h1, q2i hF h2]
    obtain ⟨c, g2, h⟩ := yg h
    rw [q1u] at g2
    dsimp only
    rw [g2]
    exact yes h
  · exact h.elim
 case h_10 t x i ho =>
  split at h
  · rename_i rows k n sz h1 h2 h3
    simp only [opL, ho, opY, h1, h2, q0h hF h3]
    obtain ⟨g1, row, g2, g3, h⟩ := h
    refine ⟨g1, ?_⟩
    rw [g2]
    exact ⟨g3, yes h⟩
  · rename_i β m k n sz h1 h2 h3
    simp only [opL, ho, opY, h1, h2, q0h hF h3]
    split at h
    · rename_i full sz0 ep rows hg
      rw [hg]
      obtain ⟨g0, g1, row, g2, g3, h⟩ := h
      refine ⟨g0, g1, ?_⟩
      rw [g2]
      exact ⟨g3, yes h⟩
    · exact h.elim
  · exact h
 case h_11 t x i ho =>
  simp only [opL, ho, opY]
  split at h
  · rename_i s k n h1 h2
    rw [h1, h2]
    obtain ⟨g1, h⟩ := zb h
    obtain ⟨g2, b, g3, h⟩ := h
    refine ⟨z3o hF g1, g2, ?_⟩
    rw [g3]
    exact yes h
  · exact h.elim
 case h_12 t x lo hi ho =>
  split at h
  · rename_i s l hh h1 h2 h3
    simp only [opL, ho, opY, h1, q3v h2, q3v h3]
    obtain ⟨g1, g2, g3, g4, h⟩ := zb h
    exact ⟨z3o hF g1, g2, g3, g4, yes h⟩
  · rename_i rows l hh h1 h2 h3
    simp only [opL, ho, opY, h1, q3v h2, q3v h3]
    obtain ⟨sz, g0, g1, g2, g3, g4, h⟩ := yg h
    rw [q0h hF g0]
    exact ⟨g1, g2, g3, g4, yes h⟩
  · exact h
 case h_13 x i ho =>
  simp only [opL, ho, opY]
  split at h
  · rename_i vs h1
    obtain ⟨av, g1, h⟩ := yg h
    rw [q1u] at g1
    rw [h1]
    dsimp only
    rw [g1]
    exact yes h
  · exact h.elim
 case h_14 f first caps ho =>
  simp only [opL, ho, opY]
  split at h
  · rename_i x hf hc
    rw [hf, hc]
    dsimp only
    split at h
    · rename_i e1; rw [e1]; exact yes h
    · rename_i e1; rw [e1]; exact yes h
    · rename_i cs e1
      rw [e1]
      obtain ⟨l, g1, h⟩ := yg h
      dsimp only
      rw [g1]
      exact yes h
    · exact h.elim
  · rename_i hf
    obtain ⟨cs, g1, h⟩ := yg h
    rw [hf]
    dsimp only
    have e := q5j g1
    split
    · rename_i cs' hcs
      have := hcs.symm.trans e
      cases this
      exact yes h
    · rename_i hcs
      have := hcs.symm.trans e
      cases this
  · exact h.elim
 case h_15 t ps ho =>
  simp only [opL, ho, opY]
  obtain ⟨z, g1, h⟩ := yg h
  obtain ⟨cs, g2, h⟩ := yg h
  rw [q5u hF g1]
  dsimp only
  rw [z3t hF g2]
  exact yes h
 case h_16 e ho =>
  simp only [opL, ho]
  split at h
  · rename_i z hz
    obtain ⟨g1, h⟩ := zb h
    rw [q6g hF hz]
    exact ⟨z3i g1, q7h h⟩
  · exact h.elim
 case h_17 e x ho =>
  simp only [opL, ho]
  split at h
  · rename_i z hz
    obtain ⟨g1, h⟩ := zb h
    rw [hz]
    exact ⟨z3i g1, q7h h⟩
  · exact h.elim
 case h_18 t p x ho =>
  simp only [opL, ho]
  split at h
  · rename_i pv xv hd h1 h2
    refine ⟨hd, ?_⟩
    rw [h1, h2]
    split
    · rename_i e1 e2; cases e1; cases e2; exact q7b hF h
    · rename_i pv' xv' hne e1 e2
      cases e1; cases e2
      exact z7c hF (fun β m i k e => hne β m i k e) h
    · rename_i hx; exact (hx _ _ rfl rfl).elim
  · exact h.elim
 case h_19 t n ps ho => simp only [opL, ho]; exact z8z hF h
 case h_20 t l c ho => simp only [opL, ho]; exact q8z hF h
 case h_21 c ho => exact y7n hF ho h
 case h_22 x ho =>
  simp only [opL, ho, opY]
  obtain ⟨av, g1, h⟩ := z2s h
  rw [g1]
  split at h
  · exact yes h
  · exact yes h
  · exact yes h
  · exact h.elim
 case h_23 => exact h
end
end Go.Sx
end
section
namespace Go.Sx
open Go.RowKit (Below)
inductive Fr where
 | ops (ops : Array Oper) (l : List Oper)
 | op1 (g : Bool) (o : Oper)
 | r (r : R)
 | code (c : Code)
 | blk (id : Nat)
 | lp (J : St → Prop)
 | plan (ops : Array Oper) (LC : List Nat) (p : z5v)
def G (P : Program) (Q : Ex → St → Prop) : List Fr → Option Nat → St → Prop
 | [], none, σ => Q .normal σ
 | [], some i, σ => Q (.exit i) σ
 | .blk j :: st, some i, σ => if i = j then G P Q st none σ else G P Q st (some i) σ
 | _ :: st, some i, σ => G P Q st (some i) σ
 | .ops ops l :: st, none, σ => q94 P ops l σ (G P Q st none)
 | .op1 g o :: st, none, σ => opL g P σ o (G P Q st none)
 | .r r :: st, none, _ => r.holds P (G P Q st none)
 | .code c :: st, none, σ => vc P c (fun e σ => match e with | .normal => G P Q st none σ | .exit i => G P Q st (some i) σ | .ret => Q .ret σ) σ
 | .blk _ :: st, none, σ => G P Q st none σ
 | .lp J :: _, none, σ => J σ
 | .plan ops LC p :: st, none, σ => y2z LC P ops p σ (G P Q st none)
inductive T where
 | go (st : List Fr) (σ : St)
 | br (t : Bool) (st : List Fr) (σ : St) (st' : List Fr) (σ' : St)
 | side (p : Prop) (st : List Fr) (σ : St)
 | any (q : Bool → Prop) (f : Bool → R) (st : List Fr)
 | row (rows : List (List Cell)) (i : Nat) (f : List Cell → R) (st : List Fr)
 | byte (s : ByteArray) (i : Nat) (f : UInt8 → R) (st : List Fr)
 | call (g : Bool) (σ : St) (d : Option Tmp) (f : Nat) (avs : List AV) (st : List Fr)
 | raw (g : Bool) (σ : St) (o : Oper) (st : List Fr)
 | loop (b : Code) (st : List Fr) (σ : St)
 | cont (J : St → Prop) (σ : St)
 | draw (id : Nat) (ops : Array Oper) (st : List Fr) (σ : St)
 | both (st st' : List Fr) (σ : St)
 | yes
 | fin (e : Ex) (σ : St)
 | fail
def T.holds (P : Program) (Q : Ex → St → Prop) : T → Prop
 | .go st σ => G P Q st none σ
 | .br t st σ st' σ' => (t = true → G P Q st none σ) ∧ (t = false → G P Q st' none σ')
 | .side p st σ => p ∧ G P Q st none σ
 | .any q f st => ∀ b, q b → (f b).holds P (G P Q st none)
 | .row rows i f st => ∃ row, rows[i]? = some row ∧ (f row).holds P (G P Q st none)
 | .byte s i f st => ∃ b, s[i]? = some b ∧ (f b).holds P (G P Q st none)
 | .call g σ d f avs st => y3n P σ d f avs (G P Q st none) ∨ (g = true ∧ z3n P σ d f avs (G P Q st none))
 | .raw g σ o st => opL g P σ o (G P Q st none)
 | .loop b st σ => vc P (.loop b) (fun e σ => match e with | .normal => G P Q st none σ | .exit i => G P Q st (some i) σ | .ret => Q .ret σ) σ
 | .cont J σ => J σ
 | .draw id ops st σ => vc P (.region id ops true) (fun e σ => match e with | .normal => G P Q st none σ | .exit i => G P Q st (some i) σ | .ret => Q .ret σ) σ
 | .both st st' σ => G P Q st none σ ∧ G P Q st' none σ
 | .yes => True
 | .fin e σ => Q e σ
 | .fail => False
def q75 (i : Nat) : List Fr → Option (List Fr)
 | [] => none
 | .blk j :: st => bif Nat.beq i j then some st else q75 i st
 | _ :: st => q75 i st
def za4 (σ : St) (d : Option Tmp) : St := match σ, d with
 | ⟨t, b⟩, some d => ⟨(d, .tup []) :: t, b⟩
 | σ, none => σ
def skR (σ : St) (d : Option Tmp) : R := match za4 σ d with | ⟨t, b⟩ => (match force t with | some t => .ok ⟨t, b⟩ | none => .fail)
theorem z32 {P : Program} {σ : St} {d : Option Tmp} {K : St → Prop} (h : (skR σ d).holds P K) : K (za4 σ d) := by
 unfold skR at h
 split at h
 rename_i t b e
 split at h
 · rename_i t' ht; rw [force_eq ht] at h; rw [e]; exact h
 · exact h.elim
def q3i (g : Bool) (F : TT) (ops : Array Oper) (o : Oper) (st : List Fr) (σ : St) : T := match o.guard with
    | none => .go (.r (opR g F σ o) :: st) σ
    | some (j, want) => (match nth ops.toList j with
      | some o' => (match o'.dst with
        | some d => (match get σ.t d with
          | some (.one (.b (.s (.bool t)))) => (match want with
            | true => .br t (.op1 g o :: st) (z39 σ (.tmp d) true) (.r (skR (z39 σ (.tmp d) false) o.dst) :: st) ⟨[], []⟩
            | false => .br t (.r (skR (z39 σ (.tmp d) true) o.dst) :: st) ⟨[], []⟩ (.op1 g o :: st) (z39 σ (.tmp d) false))
          | some (.tup []) => .go (.r (skR σ o.dst) :: st) ⟨[], []⟩
          | _ => .fail)
        | none => .fail)
      | none => .fail)
def step (F : TT) : List Fr → St → T
 | [], σ => .fin .normal σ
 | .ops _ [] :: st, σ => .go st σ
 | .ops ops (o :: l) :: st, σ => q3i true F ops o (.ops ops l :: st) σ
 | .op1 g o :: st, σ => .go (.r (opR g F σ o) :: st) σ
 | .r r :: st, σ => (match r with
   | .fail => .fail
   | .ok σ => .go st σ
   | .side p r => .side p (.r r :: st) σ
   | .br t r r' => .br t (.r r :: st) σ (.r r' :: st) σ
   | .any q f => .any q f st
   | .row rows i f => .row rows i f st
   | .byte s i f => .byte s i f st
   | .call g σ d f avs => .call g σ d f avs st
   | .raw g σ o => .raw g σ o st)
 | .code c :: st, σ => (match c with
   | .skip => .go st σ
   | .region id ops draw => (match draw with | true => .draw id ops st σ | false => .go (.ops ops ops.toList :: st) σ)
   | .seq x y => .go (.code x :: .code y :: st) σ
   | .cond c x y => (match ev σ c with
     | some (.one (.b (.s (.bool t)))) => .br t (.code x :: st) (z39 σ c true) (.code y :: st) (z39 σ c false)
     | _ => .fail)
   | .block id b => .go (.code b :: .blk id :: st) σ
   | .loop b => .loop b st σ
   | .exit id => (match q75 id st with | some st => .go st σ | none => .fail)
   | .ret => .fin .ret σ
   | _ => .fail)
 | .blk _ :: st, σ => .go st σ
 | .lp J :: _, σ => .cont J σ
 | .plan ops LC p :: st, σ => (match p with
   | .done => .go st σ
   | .nil => .yes
   | .take i _ p => (match nth ops.toList i with | some o => q3i (LC.contains i) F ops o (.plan ops LC p :: st) σ | none => .fail)
   | .alt i p .nil => (match nth ops.toList i with | some o => q3i (LC.contains i) F ops o (.plan ops LC p :: st) σ | none => .fail)
   | .alt i p q => .both (.plan ops LC (.alt i p .nil) :: st) (.plan ops LC q :: st) σ)
def exec : Nat → TT → List Fr → St → T
 | 0, _, st, σ => .go st σ
 | n + 1, F, st, σ => match step F st σ with
   | .go st σ => exec n F st σ
   | t => t
section
variable {P : Program} {F : TT} {Q : Ex → St → Prop}
theorem y19 {i : Nat} {σ : St} : ∀ {st st' : List Fr}, q75 i st = some st' → G P Q st' none σ → G P Q st (some i) σ
 | [], st', h, _ => by cases h
 | .blk j :: st, st', h, hg => by
   rw [q75] at h
   rw [G]
   by_cases hij : i = j
   · subst hij; simp only [Nat.beq_refl, cond_true, Option.some.injEq] at h; subst h; rw [if_pos rfl]; exact hg
   · rw [beq_false hij] at h; rw [if_neg hij]; exact y19 h hg
 | .ops _ _ :: st, st', h, hg => y19 (st := st) h hg
 | .op1 _ _ :: st, st', h, hg => y19 (st := st) h hg
 | .r _ :: st, st', h, hg => y19 (st := st) h hg
 | .code _ :: st, st', h, hg => y19 (st := st) h hg
 | .lp _ :: st, st', h, hg => y19 (st := st) h hg
 | .plan _ _ _ :: st, st', h, hg => y19 (st := st) h hg
theorem y4m {g : Bool} (hF : F = F.map P) {ops : Array Oper} {o : Oper} {st : List Fr} {σ : St} (h : (q3i g F ops o st σ).holds P Q) : q3f ops σ o (fun σ => opL g P σ o (G P Q st none)) (fun σ => q5b σ o.dst (G P Q st none)) := by
 simp only [q3i] at h
 unfold q3f
 split at h
 · rename_i hg; rw [hg]; exact z8g hF h
 · rename_i j want hg
   rw [hg]
   dsimp only
   split at h
   · rename_i o' ho'
     rw [q1u, Array.getElem?_toList] at ho'
     split at h
     · rename_i d hd
       rw [ho']
       simp only [Option.bind_some, hd]
       split at h
       · rename_i t ht
         rw [ht]
         dsimp only
         have hsk : ∀ (σ0 : St) (K : St → Prop), K (za4 σ0 o.dst) → q5b σ0 o.dst K := fun σ0 K hk => by
          unfold q5b
          cases σ0 with
          | mk t0 b0 =>
          cases hdd : o.dst with
          | none => rw [hdd] at hk; exact hk
          | some d0 =>
            rw [hdd] at hk
            exact hk
         cases σ with
         | mk t0 b0 =>
         split at h
         · obtain ⟨h1, h2⟩ := h
           exact ⟨fun hb => by simp only [beq_self_eq_true, if_true]; exact h1 hb, fun hb => by
            have : ¬ ((false == true) = true) := by decide
            dsimp only; rw [if_neg this]; exact hsk _ _ (z32 (h2 hb))⟩
         · obtain ⟨h1, h2⟩ := h
           exact ⟨fun hb => by
            have : ¬ ((true == false) = true) := by decide
            dsimp only; rw [if_neg this]; exact hsk _ _ (z32 (h1 hb)), fun hb => by simp only [beq_self_eq_true, if_true]; exact h2 hb⟩
       · rename_i ht
         rw [ht]
         have h' := z32 (P := P) (K := G P Q st none) h
         unfold q5b
         cases σ with
         | mk t0 b0 =>
         cases hdd : o.dst with
         | none => rw [hdd] at h'; exact h'
         | some d0 => rw [hdd] at h'; exact h'
       · exact h.elim
     · exact h.elim
   · exact h.elim
theorem q97 (hF : F = F.map P) {st : List Fr} {σ : St} (h : (step F st σ).holds P Q) : G P Q st none σ := by
 cases st with
 | nil => exact h
 | cons f st =>
   cases f with
   | ops ops l =>
     cases l with
     | nil => exact h
     | cons o l =>
       exact y4m (st := .ops ops l :: st) hF h
   | op1 g o => exact z8g hF h
   | r r => cases r <;> exact h
   | code c =>
     cases c with
     | skip => exact h
     | region id ops draw =>
       cases draw with
       | true => exact h
       | false => exact h
     | seq x y =>
       have e : (fun (e : Ex) (σ : St) => match e with | .normal => G P Q (.code y :: st) none σ | .exit i => G P Q (.code y :: st) (some i) σ | .ret => Q .ret σ) =
        (fun e σ => match e with | .normal => vc P y (fun e σ => match e with | .normal => G P Q st none σ | .exit i => G P Q st (some i) σ | .ret => Q .ret σ) σ | .exit i => G P Q st (some i) σ | .ret => Q .ret σ) := by
        funext e σ; cases e <;> rfl
       have h' : vc P x (fun (e : Ex) (σ : St) => match e with | .normal => G P Q (.code y :: st) none σ | .exit i => G P Q (.code y :: st) (some i) σ | .ret => Q .ret σ) σ := h
       rw [e] at h'
       exact .inl h'
     | cond c x y =>
       simp only [step] at h
       simp only [G, vc]
       split at h
       · rename_i t ht; rw [ht]; exact h
       · exact h.elim
     | block id b =>
       have e : (fun (e : Ex) (σ : St) => match e with | .normal => G P Q (.blk id :: st) none σ | .exit i => G P Q (.blk id :: st) (some i) σ | .ret => Q .ret σ) =
        (fun e σ => match e with | .normal => G P Q st none σ | .exit i => if i = id then G P Q st none σ else G P Q st (some i) σ | .ret => Q .ret σ) := by
        funext e σ; cases e <;> rfl
       have h' : vc P b (fun (e : Ex) (σ : St) => match e with | .normal => G P Q (.blk id :: st) none σ | .exit i => G P Q (.blk id :: st) (some i) σ | .ret => Q .ret σ) σ := h
       rw [e] at h'
       exact h'
     | loop b => exact h
     | exit id =>
       simp only [step] at h
       split at h
       · rename_i st' hp; exact y19 hp h
       · exact h.elim
     | ret => exact h
     | _ => exact h.elim
   | blk id => exact h
   | lp J => exact h
   | plan ops LC p =>
     have one : ∀ {i : Nat} {p' : z5v}, (match nth ops.toList i with | some o => q3i (LC.contains i) F ops o (.plan ops LC p' :: st) σ | none => .fail).holds P Q → q91 LC P ops i σ (fun σ => y2z LC P ops p' σ (G P Q st none)) := fun {i p'} h => by
      unfold q91
      split at h
      · rename_i o ho
        rw [q1u, Array.getElem?_toList] at ho
        rw [ho]
        exact y4m (st := .plan ops LC p' :: st) hF h
      · exact h.elim
     cases p with
     | done => exact h
     | nil => trivial
     | take i W p => exact one h
     | alt i p q =>
       cases q with
       | nil => exact ⟨one h, trivial⟩
       | done => exact ⟨h.1.1, h.2⟩
       | take _ _ _ => exact ⟨h.1.1, h.2⟩
       | alt _ _ _ => exact ⟨h.1.1, h.2⟩
theorem z6r (hF : F = F.map P) : ∀ {n : Nat} {st : List Fr} {σ : St}, (exec n F st σ).holds P Q → G P Q st none σ
 | 0, _, _, h => h
 | n + 1, st, σ, h => by
   refine q97 hF ?_
   rw [exec] at h
   split at h
   · rename_i st' σ' hs; rw [hs]; exact z6r hF h
   · exact h
theorem run (hF : F = F.map P) {n : Nat} {st : List Fr} {σ : St} {t : T} (he : exec n F st σ = t) (h : t.holds P Q) : G P Q st none σ := z6r hF (by rw [he]; exact h)
def q6q : Nat → TT → List Fr → St → T
 | 0, _, st, σ => .go st σ
 | k + 1, F, st, σ => match exec 2000 F st σ with
   | .br t st1 σ1 st2 σ2 => (match t with | true => q6q k F st1 σ1 | false => q6q k F st2 σ2)
   | _ => .fail
theorem q3s (hF : F = F.map P) : ∀ {k : Nat} {st : List Fr} {σ : St}, (q6q k F st σ).holds P Q → G P Q st none σ
 | 0, _, _, h => h
 | k + 1, st, σ, h => by
   rw [q6q] at h
   split at h
   · rename_i t st1 σ1 st2 σ2 he
     refine run hF he ?_
     cases t with
     | true => exact ⟨fun _ => q3s hF h, nofun⟩
     | false => exact ⟨nofun, fun _ => q3s hF h⟩
   · exact h.elim
def QR (P : Program) (fn : Func) (res : Res) (e : Ex) (σ : St) : Prop := match e with | .exit _ => False | _ => z9r P fn res σ
theorem PC.begin {f : Nat} {fn : Func} {c : Code} {args : List SV} {res : Res} (hf : P.funcs[f]? = some fn) (hb : fn.body = some c) (hok : (okF P f && y12 fn.ntmps c && Nat.ble args.length fn.ntmps) = true)
 (h : G P (QR P fn res) [.code c] none ⟨y8m 0 args, []⟩) : PC P f args res := by
 refine PC.intro hf hb hok ?_
 have e : (fun (e : Ex) (σ : St) => match e with | .normal => G P (QR P fn res) [] none σ | .exit i => G P (QR P fn res) [] (some i) σ | .ret => QR P fn res .ret σ) =
  (fun e σ => match e with | .exit _ => False | _ => z9r P fn res σ) := by
  funext e σ; cases e <;> rfl
 have h' : vc P c (fun (e : Ex) (σ : St) => match e with | .normal => G P (QR P fn res) [] none σ | .exit i => G P (QR P fn res) [] (some i) σ | .ret => QR P fn res .ret σ) ⟨y8m 0 args, []⟩ := h
 rw [e] at h'
 exact h'
end
end Go.Sx
end
section
namespace Go.Sx
class yo (P : Program) where
 F : TT
 ok : F = F.map P
 mix : P.follows .mixedOrders = true
def q6i (σ : St) (d : Option Tmp) (res : Res) : R := match d with
 | some d => (match σ with | ⟨t, b⟩ => bR ((d, y77 (nameOf d) res) :: t) (y1a (nameOf d) res ++ b))
 | none => .ok σ
def z1g : AC → Bool
 | .b _ => true
 | .nil => true
 | .em => true
 | _ => false
def z1p : List AV → Bool
 | [] => true
 | .one c :: l => bif z1g c then z1p l else false
 | .agg cs :: l => bif cs.all z1g then z1p l else false
 | _ => false
def y3f (B : List (Nat × AB)) : List (Nat × AB) → Bool
 | [] => true
 | (β, _) :: l => match get B β with | none => y3f B l | some _ => false
theorem z33 {c : AC} (h : z1g c = true) : q32 c := by cases c <;> first | trivial | cases h
theorem z2a : ∀ {avs : List AV}, z1p avs = true → y8k q5c avs
 | [], _ => trivial
 | .one c :: l, h => by
   rw [z1p] at h
   cases hc : z1g c with
   | false => rw [hc] at h; cases h
   | true => rw [hc] at h; exact ⟨z33 hc, z2a h⟩
 | .agg cs :: l, h => by
   rw [z1p] at h
   cases hc : cs.all z1g with
   | false => rw [hc] at h; cases h
   | true =>
     rw [hc] at h
     have : ∀ cs : List AC, cs.all z1g = true → z6j q32 cs := by
      intro cs
      induction cs with
      | nil => intro _; trivial
      | cons c cs ih => intro h; simp only [List.all_cons, Bool.and_eq_true] at h; exact ⟨z33 h.1, ih h.2⟩
     exact ⟨this cs hc, z2a h⟩
 | .tup _ :: l, h => by cases h
theorem y1s {B : List (Nat × AB)} : ∀ {l : List (Nat × AB)}, y3f B l = true → y08 B l
 | [], _ => trivial
 | (β, _) :: l, h => by
   rw [y3f] at h
   split at h
   · rename_i hn; exact ⟨hn, y1s h⟩
   · cases h
def y8b (σ : St) (d : Option Tmp) (avs : List AV) (res : Res) : Bool := bif z11 res then (bif z3g res then (bif z1p avs then y3f σ.b (y1a (nameOf (d.getD 0)) res) else false) else y3f σ.b (y1a (nameOf (d.getD 0)) res)) else false
section
variable {P : Program} [yo P] {Q : Ex → St → Prop} {st st1 st2 : List Fr} {σ σ1 σ2 : St}
theorem xb {t : Bool} (h : exec 2000 (yo.F P) st σ = .br t st1 σ1 st2 σ2) (h1 : t = true → G P Q st1 none σ1) (h2 : t = false → G P Q st2 none σ2) : G P Q st none σ := run yo.ok h ⟨h1, h2⟩
theorem xf (h : exec 2000 (yo.F P) st σ = .br false st1 σ1 st2 σ2) (h1 : G P Q st2 none σ2) : G P Q st none σ := run yo.ok h ⟨nofun, fun _ => h1⟩
theorem xj {k : Nat} (h : q6q k (yo.F P) st σ = .go st1 σ1) (h1 : G P Q st1 none σ1) : G P Q st none σ := q3s yo.ok (by rw [h]; exact h1)
theorem xr {e : Ex} (h : exec 2000 (yo.F P) st σ = .fin e σ1) (h1 : Q e σ1) : G P Q st none σ := run yo.ok h h1
theorem xs {p : Prop} (h : exec 2000 (yo.F P) st σ = .side p st1 σ1) (h1 : p) (h2 : G P Q st1 none σ1) : G P Q st none σ := run yo.ok h ⟨h1, h2⟩
theorem y9 {rows : List (List Cell)} {i : Nat} {f : List Cell → R} (h : exec 2000 (yo.F P) st σ = .row rows i f st1) (row : List Cell) (hr : rows[i]? = some row) (h1 : G P Q (.r (f row) :: st1) none ⟨[], []⟩) : G P Q st none σ := run yo.ok h ⟨row, hr, h1⟩
theorem z9c {g : Bool} {o : Oper} (h : exec 2000 (yo.F P) st σ = .raw g σ1 o st1) (h1 : opL g P σ1 o (G P Q st1 none)) : G P Q st none σ := run yo.ok h h1
theorem ya {J : St → Prop} (h : exec 2000 (yo.F P) st σ = .cont J σ1) (h1 : J σ1) : G P Q st none σ := run yo.ok h h1
theorem q1z (h : exec 2000 (yo.F P) st σ = .both st1 st2 σ1) (h1 : G P Q st1 none σ1) (h2 : G P Q st2 none σ1) : G P Q st none σ := run yo.ok h ⟨h1, h2⟩
def q8d (ops : Array Oper) (LC : List Nat) (p : z5v) : Bool := Region.noSelect ops && (q2c .any ops (Array.replicate ops.size false) p && z19 LC .any ops p ops.size (Array.replicate ops.size false))
theorem zc {id : Nat} {ops : Array Oper} (h : exec 2000 (yo.F P) st σ = .draw id ops st1 σ1) (LC : List Nat) (p : z5v) (hp : q8d ops LC p = true) (h1 : G P Q (.plan ops LC p :: st1) none σ1) : G P Q st none σ := by
 simp only [q8d, Bool.and_eq_true] at hp
 exact run yo.ok h ⟨yo.mix, hp.1, LC, p, hp.2.1, hp.2.2, h1⟩
theorem z7 {g : Bool} {d : Option Tmp} {f : Nat} {avs : List AV} {res : Res} (h : exec 2000 (yo.F P) st σ = .call g σ1 d f avs st1) (hpc : PC P f (avs.map (q98 σ1.b)) res) (hok : y8b σ1 d avs res = true) (hw : y8k (wfV σ1.b) avs) (h1 : G P Q (.r (q6i σ1 d res) :: st1) none ⟨[], []⟩) : G P Q st none σ := by
 refine run yo.ok h (.inl ⟨res, hpc, ?_⟩)
 unfold y8b at hok
 cases h2 : z11 res with
 | false => rw [h2] at hok; cases hok
 | true =>
   rw [h2] at hok
   have hK : G P Q st1 none (z2o σ1 d res) := by
    have h1 : (q6i σ1 d res).holds P (G P Q st1 none) := h1
    unfold q6i at h1
    unfold z2o
    cases d with
    | none => exact h1
    | some d => cases σ1; exact qx h1
   cases h3 : z3g res with
   | true =>
     rw [h3] at hok
     cases h4 : z1p avs with
     | false => rw [h4] at hok; cases hok
     | true => rw [h4] at hok; exact ⟨rfl, hw, fun _ => z2a h4, y1s hok, hK⟩
   | false => rw [h3] at hok; exact ⟨rfl, hw, nofun, y1s hok, hK⟩
def z6i (σ : St) (d : Option Tmp) (res : Res) (T : List (Nat × AB)) : R := match σ, d with
 | ⟨t, b⟩, some d => bR ((d, y77 (nameOf d) res) :: t) ((y1a (nameOf d) res ++ T) ++ b)
 | ⟨t, b⟩, none => bR t (([] ++ T) ++ b)
def y8e (σ : St) (d : Option Tmp) (avs : List AV) (args : List GA) (res : Res) : Bool := bif z11 res then (bif y91 ((z0v 0 (acs avs) (gcs args)).map (·.2.1)) then y3f σ.b (y1a (nameOf (d.getD 0)) res) else false) else false
theorem q0t {d : Option Tmp} {f : Nat} {avs : List AV} {args : List GA} {res : Res} {back : List (Nat × List (List Cell))} (h : exec 2000 (yo.F P) st σ = .call true σ1 d f avs st1) (hpc : PG P f args res back) (hm : mAs σ1.b avs args) (hok : y8e σ1 d avs args res = true)
 (h1 : G P Q (.r (z6i σ1 d res (z1c σ1.b back (z0v 0 (acs avs) (gcs args)))) :: st1) none ⟨[], []⟩) : G P Q st none σ := by
 unfold y8e at hok
 cases h2 : z11 res with
 | false => rw [h2] at hok; cases hok
 | true =>
   rw [h2] at hok
   cases h3 : y91 ((z0v 0 (acs avs) (gcs args)).map (·.2.1)) with
   | false => rw [h3] at hok; cases hok
   | true =>
     rw [h3] at hok
     refine run yo.ok h (.inr ⟨rfl, .inl ⟨args, res, back, hpc, h2, hm, z6 h3, y1s hok, ?_⟩⟩)
     have h1 : (z6i σ1 d res (z1c σ1.b back (z0v 0 (acs avs) (gcs args)))).holds P (G P Q st1 none) := h1
     cases σ1
     cases d with
     | none => exact qx h1
     | some d => exact qx h1
theorem q9t {b : Code} (h : exec 2000 (yo.F P) st σ = .loop b st1 σ1) {ι : Type} (pre : ι → Prop) (inv : ι → St) (m : ι → Nat) (i0 : ι) (h0 : pre i0) (hw : Wk σ1 (inv i0))
 (hs : ∀ i, pre i → ∀ J : St → Prop, (∀ σ' i', pre i' → m i' < m i → Wk σ' (inv i') → J σ') → G P Q (.code b :: .lp J :: st1) none (inv i)) : G P Q st none σ := by
 refine run yo.ok h ⟨ι, pre, inv, m, ⟨i0, h0, hw⟩, fun i hi => ?_⟩
 have h2 := hs i hi (fun σ => ∃ i', pre i' ∧ m i' < m i ∧ Wk σ (inv i')) (fun σ' i' h1 h2 h3 => ⟨i', h1, h2, h3⟩)
 have e : (fun (e : Ex) (σ : St) => match e with | .normal => G P Q (.lp (fun σ => ∃ i', pre i' ∧ m i' < m i ∧ Wk σ (inv i')) :: st1) none σ | .exit i' => G P Q (.lp (fun σ => ∃ i', pre i' ∧ m i' < m i ∧ Wk σ (inv i')) :: st1) (some i') σ | .ret => Q .ret σ) =
  (fun e σ => match e with | .normal => ∃ i', pre i' ∧ m i' < m i ∧ Wk σ (inv i') | .exit j => G P Q st1 (some j) σ | .ret => Q .ret σ) := by
  funext e σ; cases e <;> rfl
 have h3 : vc P b (fun (e : Ex) (σ : St) => match e with | .normal => G P Q (.lp (fun σ => ∃ i', pre i' ∧ m i' < m i ∧ Wk σ (inv i')) :: st1) none σ | .exit i' => G P Q (.lp (fun σ => ∃ i', pre i' ∧ m i' < m i ∧ Wk σ (inv i')) :: st1) (some i') σ | .ret => Q .ret σ) (inv i) := h2
 rw [e] at h3
 exact h3
theorem yd {b : Code} (h : exec 2000 (yo.F P) st σ = .loop b st1 σ1) {ι : Type} (pre : ι → Prop) (inv : ι → St) (m : ι → Nat) (i0 : ι) (h0 : pre i0) (hw : Wk0 σ1 (inv i0))
 (hs : ∀ i, pre i → ∀ J : St → Prop, (∀ σ' i', pre i' → m i' < m i → Wk0 σ' (inv i') → J σ') → G P Q (.code b :: .lp J :: st1) none (inv i)) : G P Q st none σ :=
 q9t h pre inv m i0 h0 (.of hw) (fun i hi J hJ => hs i hi J (fun σ' i' h1 h2 h3 => hJ σ' i' h1 h2 (.of h3)))
theorem zaj {n : Nat} {x y : Code} (h : exec n (yo.F P) st σ = .go (.code (.seq x y) :: st1) σ1) {ι : Type} (pre : ι → Prop) (inv : ι → St)
 (h1 : ∀ K : St → Prop, (∀ σ' i, pre i → Wk0 σ' (inv i) → K σ') → G P Q (.code x :: .lp K :: st1) none σ1) (h2 : ∀ i, pre i → G P Q (.code y :: st1) none (inv i)) : G P Q st none σ := by
 refine run yo.ok h ?_
 show G P Q (.code (.seq x y) :: st1) none σ1
 refine .inr ⟨ι, pre, inv, ?_, h2⟩
 have h3 := h1 (fun σ' => ∃ i, pre i ∧ Wk σ' (inv i)) (fun σ' i hp hw => ⟨i, hp, .of hw⟩)
 have e : (fun (e : Ex) (σ : St) => match e with | .normal => G P Q (.lp (fun σ => ∃ i', pre i' ∧ Wk σ (inv i')) :: st1) none σ | .exit i' => G P Q (.lp (fun σ => ∃ i', pre i' ∧ Wk σ (inv i')) :: st1) (some i') σ | .ret => Q .ret σ) =
  (fun e σ => match e with | .normal => ∃ i', pre i' ∧ Wk σ (inv i') | .exit j => G P Q st1 (some j) σ | .ret => Q .ret σ) := by
  funext e σ; cases e <;> rfl
 have h4 : vc P x (fun (e : Ex) (σ : St) => match e with | .normal => G P Q (.lp (fun σ => ∃ i', pre i' ∧ Wk σ (inv i')) :: st1) none σ | .exit i' => G P Q (.lp (fun σ => ∃ i', pre i' ∧ Wk σ (inv i')) :: st1) (some i') σ | .ret => Q .ret σ) σ1 := h3
 rw [e] at h4
 exact h4
omit [yo P] in
theorem q7 {fn : Func} {res : Res} {e : Ex} (he : (match e with | .exit _ => false | _ => true) = true) (h : z9r P fn res σ) : QR P fn res e σ := by
 cases e with
 | exit i => cases he
 | _ => exact h
end
end Go.Sx
end
section
namespace Go.Sx
theorem wrap_i64 {n : Int} (h : -9223372036854775808 ≤ n) (h2 : n ≤ 9223372036854775807) : IntKind.i64.wrap n = n := by
 have e : IntKind.i64.wrap n = if n % 18446744073709551616 ≥ 9223372036854775808 then n % 18446744073709551616 - 18446744073709551616 else n % 18446744073709551616 := by
  simp [IntKind.wrap, IntKind.signed, IntKind.bits]
 rw [e]
 split <;> omega
theorem zn {α : Type} (xs : List α) (z : α) (i n : Nat) (h : i < xs.length) (hn : n = xs.length) : (xs.take i ++ List.replicate (n - i) z)[i]? = some z := by
 subst hn
 have e1 : (xs.take i).length = i := by simp; omega
 rw [List.getElem?_append_right (by omega), List.getElem?_replicate, e1, if_pos (by omega)]
theorem q02 {α : Type} (xs : List α) (z x : α) (i n : Nat) (h : xs[i]? = some x) (hn : n = xs.length) : (xs.take i ++ List.replicate (n - i) z).set i x = xs.take (i + 1) ++ List.replicate (n - (i + 1)) z := by
 subst hn
 obtain ⟨hi, rfl⟩ := List.getElem?_eq_some_iff.1 h
 apply List.ext_getElem?
 intro j
 rw [List.getElem?_set]
 by_cases hj : i = j
 · subst hj
   rw [if_pos rfl]
   have : i < (xs.take i ++ List.replicate (xs.length - i) z).length := by simp; omega
   rw [if_pos this, List.getElem?_append_left (by simp; omega), List.getElem?_take, if_pos (by omega)]
   simp
 · rw [if_neg hj]
   by_cases h1 : j < i
   · rw [List.getElem?_append_left (by simp; omega), List.getElem?_append_left (by simp; omega), List.getElem?_take, List.getElem?_take, if_pos h1, if_pos (by omega)]
   · rw [List.getElem?_append_right (by simp; omega), List.getElem?_append_right (by simp; omega), List.getElem?_replicate, List.getElem?_replicate]
     have e1 : (xs.take i).length = i := by simp; omega
     have e2 : (xs.take (i + 1)).length = i + 1 := by simp; omega
     rw [e1, e2]
     by_cases h3 : j < xs.length
     · rw [if_pos (by omega), if_pos (by omega)]
     · rw [if_neg (by omega), if_neg (by omega)]
theorem qg {α : Type} (xs : List α) (z : α) (i n : Nat) (h : i ≤ xs.length) (hn : n = xs.length) : (xs.take i ++ List.replicate (n - i) z).length = n := by
 subst hn; simp; omega
theorem z01 {α : Type} (xs : List α) (z : α) (n : Nat) (hn : n = xs.length) : xs.take n ++ List.replicate (n - n) z = xs := by
 subst hn; simp
end Go.Sx
end
section
namespace Go.Sx
open Go.RowKit (Below)
def gAC (t : Nat) : GC → AC
 | .bor c => .b c
 | .giv _ _ rows => .h (1000000000 + t) rows.length
def q8q : Nat → List GC → List AC
 | _, [] => []
 | t, c :: l => gAC t c :: q8q (t + 1) l
def gAV (t : Nat) : GA → AV
 | .one c => .one (gAC t c)
 | .agg cs => .agg (q8q t cs)
def gT : Nat → Nat → List GA → List (Nat × AV)
 | _, _, [] => []
 | i, t, .one c :: l => (i, gAV t (.one c)) :: gT (i + 1) (t + 1) l
 | i, t, .agg cs :: l => (i, gAV t (.agg cs)) :: gT (i + 1) (t + cs.length) l
def gB : Nat → List GC → List (Nat × AB)
 | _, [] => []
 | t, .bor _ :: l => gB (t + 1) l
 | t, .giv full sz rows :: l => (1000000000 + t, .arr full sz 0 rows) :: gB (t + 1) l
def z2c : Nat → List GC → List Value → List (AC × Value)
 | t, .giv _ _ rows :: l, u :: us => (.h (1000000000 + t) rows.length, u) :: z2c (t + 1) l us
 | t, .bor _ :: l, _ :: us => z2c (t + 1) l us
 | _, _, _ => []
def y5j (args : List GA) (σ : St) : List (Nat × List (List Cell)) → Prop
 | [] => True
 | (t, rows') :: l => (match nth (gcs args) t, get σ.b (1000000000 + t) with
   | some (.giv full sz rows), some (.arr full' sz' _ rows'') => full' = full ∧ sz' = sz ∧ rows'' = rows' ∧ rows'.length = rows.length ∧ z43 rows rows'
   | _, _ => False) ∧ y5j args σ l
def keys {α : Type} : List (Nat × α) → List Nat
 | [] => []
 | (t, _) :: l => (1000000000 + t) :: keys l
def qah (P : Program) (fn : Func) (args : List GA) (res : Res) (back : List (Nat × List (List Cell))) (σ : St) : Prop := q77 P fn res (keys back) σ ∧ y5j args σ back
def QG (P : Program) (fn : Func) (args : List GA) (res : Res) (back : List (Nat × List (List Cell))) (e : Ex) (σ : St) : Prop := match e with | .exit _ => False | _ => qah P fn args res back σ
theorem q1p {P : Program} {fn : Func} {args : List GA} {res : Res} {back : List (Nat × List (List Cell))} {e : Ex} {σ : St} (he : (match e with | .exit _ => false | _ => true) = true) (h : q77 P fn res (keys back) σ) (hb : y5j args σ back) : QG P fn args res back e σ := by
 cases e with
 | exit i => cases he
 | _ => exact ⟨h, hb⟩
section
variable {C : Ctx} {σ : St} {ρ : Env} {a : Act} {w : World}
theorem q5l : ∀ (t : Nat) (cs : List GC), (q8q t cs).length = cs.length
 | _, [] => rfl
 | t, c :: l => by simp [q8q, q5l (t + 1) l]
theorem y5l : ∀ {t : Nat} {cs : List GC} {k : Nat} {c : AC}, (q8q t cs)[k]? = some c → ∃ g, cs[k]? = some g ∧ c = gAC (t + k) g
 | t, [], k, c, h => by simp [q8q] at h
 | t, g :: l, k, c, h => by
   cases k with
   | zero => cases h; exact ⟨g, rfl, rfl⟩
   | succ k =>
     obtain ⟨g', h1, h2⟩ := y5l (t := t + 1) (cs := l) (k := k) (by simpa [q8q] using h)
     exact ⟨g', by simpa using h1, by rw [h2]; congr 1; omega⟩
theorem q6s {B : List (Nat × AB)} : ∀ {args : List GA} {vals : List Value} {i t0 : Nat}, y31 args vals → (∀ (t : Nat) (g : GC) (u : Value), (gcs args)[t]? = some g → (q0f args vals)[t]? = some u → yu C w ρ B (gAC (t0 + t) g) u) →
 ∀ {k : Nat} {av : AV}, get (gT i t0 args) k = some av → ∃ j v, k = i + j ∧ vals[j]? = some v ∧ qw C w ρ B av v
 | [], vals, i, t0, _, _, k, av, h => by cases h
 | .one c :: l, [], i, t0, hs, _, k, av, h => hs.elim
 | .agg c :: l, [], i, t0, hs, _, k, av, h => hs.elim
 | .one c :: l, v :: vs, i, t0, hs, hX, k, av, h => by
   rw [gT, ye] at h
   by_cases hk : i = k
   · rw [if_pos hk] at h
     cases h
     exact ⟨0, v, by omega, rfl, hX 0 c v rfl rfl⟩
   · rw [if_neg hk] at h
     obtain ⟨j, v', h1, h2, h3⟩ := q6s (args := l) (vals := vs) (t0 := t0 + 1) hs (fun t g u hg hu => by
      have := hX (t + 1) g u (by simpa [gcs] using hg) (by simpa [q0f] using hu)
      rwa [show t0 + (t + 1) = t0 + 1 + t by omega] at this) h
     exact ⟨j + 1, v', by omega, by simpa using h2, h3⟩
 | .agg cs :: l, v :: vs, i, t0, hs, hX, k, av, h => by
   obtain ⟨⟨arr, rfl, h0⟩, hs⟩ := hs
   rw [gT, ye] at h
   by_cases hk : i = k
   · rw [if_pos hk] at h
     cases h
     refine ⟨0, _, by omega, rfl, arr, rfl, by rw [q5l, h0], fun k c u hc hu => ?_⟩
     obtain ⟨g, hg, rfl⟩ := y5l hc
     have hlt := (List.getElem?_eq_some_iff.1 hg).1
     refine hX k g u ?_ ?_
     · simp only [gcs]; rw [List.getElem?_append_left hlt]; exact hg
     · simp only [q0f]; rw [List.getElem?_append_left (by rw [Array.length_toList]; omega), Array.getElem?_toList]; exact hu
   · rw [if_neg hk] at h
     obtain ⟨j, v', h1, h2, h3⟩ := q6s (args := l) (vals := vs) (t0 := t0 + cs.length) hs (fun t g u hg hu => by
      have := hX (cs.length + t) g u (by simp only [gcs]; rw [List.getElem?_append_right (by omega)]; simpa using hg) (by
       have e : arr.toList.length = cs.length := (Array.length_toList).trans h0
       simp only [q0f]; rw [List.getElem?_append_right (by omega), e]; simpa using hu)
      rwa [← Nat.add_assoc] at this) h
     exact ⟨j + 1, v', by omega, by simpa using h2, h3⟩
theorem z4g : ∀ {t0 : Nat} {cs : List GC} {β : Nat} {ab : AB}, get (gB t0 cs) β = some ab → ∃ k full sz rows, β = 1000000000 + (t0 + k) ∧ cs[k]? = some (.giv full sz rows) ∧ ab = .arr full sz 0 rows
 | t0, [], β, ab, h => by cases h
 | t0, .bor c :: l, β, ab, h => by
   obtain ⟨k, full, sz, rows, h1, h2, h3⟩ := z4g (t0 := t0 + 1) (cs := l) h
   exact ⟨k + 1, full, sz, rows, by omega, by simpa using h2, h3⟩
 | t0, .giv full sz rows :: l, β, ab, h => by
   rw [gB, ye] at h
   by_cases hb : 1000000000 + t0 = β
   · rw [if_pos hb] at h; cases h; exact ⟨0, full, sz, rows, by omega, rfl, rfl⟩
   · rw [if_neg hb] at h
     obtain ⟨k, full, sz, rows, h1, h2, h3⟩ := z4g (t0 := t0 + 1) (cs := l) h
     exact ⟨k + 1, full, sz, rows, by omega, by simpa using h2, h3⟩
theorem y6s : ∀ {t0 : Nat} {cs : List GC} {k : Nat} {full : Bool} {sz : Nat} {rows : List (List Cell)}, cs[k]? = some (.giv full sz rows) → get (gB t0 cs) (1000000000 + (t0 + k)) = some (.arr full sz 0 rows)
 | t0, [], k, full, sz, rows, h => by simp at h
 | t0, .bor c :: l, k, full, sz, rows, h => by
   cases k with
   | zero => cases h
   | succ k =>
     have := y6s (t0 := t0 + 1) (cs := l) (k := k) (by simpa using h)
     rw [show t0 + (k + 1) = t0 + 1 + k by omega]; exact this
 | t0, .giv full' sz' rows' :: l, k, full, sz, rows, h => by
   cases k with
   | zero => cases h; rw [gB, ye, if_pos (by omega)]
   | succ k =>
     have := y6s (t0 := t0 + 1) (cs := l) (k := k) (by simpa using h)
     rw [gB, ye, if_neg (by omega), show t0 + (k + 1) = t0 + 1 + k by omega]; exact this
theorem z1d : ∀ {t0 : Nat} {cs : List GC} {us : List Value} {g : AC × Value}, g ∈ z2c t0 cs us → ∃ k full sz rows u, g = (.h (1000000000 + (t0 + k)) rows.length, u) ∧ cs[k]? = some (.giv full sz rows) ∧ us[k]? = some u
 | t0, [], us, g, h => by cases us <;> simp [z2c] at h
 | t0, .bor c :: l, [], g, h => by simp [z2c] at h
 | t0, .giv _ _ _ :: l, [], g, h => by simp [z2c] at h
 | t0, .bor c :: l, u :: us, g, h => by
   obtain ⟨k, full, sz, rows, u', h1, h2, h3⟩ := z1d (t0 := t0 + 1) (cs := l) (us := us) h
   exact ⟨k + 1, full, sz, rows, u', by rw [h1, show t0 + 1 + k = t0 + (k + 1) by omega], by simpa using h2, by simpa using h3⟩
 | t0, .giv full sz rows :: l, u :: us, g, h => by
   rcases List.mem_cons.1 h with rfl | h
   · exact ⟨0, full, sz, rows, u, rfl, rfl, rfl⟩
   · obtain ⟨k, full, sz, rows, u', h1, h2, h3⟩ := z1d (t0 := t0 + 1) (cs := l) (us := us) h
     exact ⟨k + 1, full, sz, rows, u', by rw [h1, show t0 + 1 + k = t0 + (k + 1) by omega], by simpa using h2, by simpa using h3⟩
theorem y22 : ∀ {t0 : Nat} {cs : List GC} {us : List Value} {k : Nat} {full : Bool} {sz : Nat} {rows : List (List Cell)} {u : Value}, cs[k]? = some (.giv full sz rows) → us[k]? = some u → (AC.h (1000000000 + (t0 + k)) rows.length, u) ∈ z2c t0 cs us
 | t0, [], us, k, full, sz, rows, u, h, _ => by simp at h
 | t0, c :: l, [], k, full, sz, rows, u, _, h => by simp at h
 | t0, .bor c :: l, u' :: us, k, full, sz, rows, u, h, h' => by
   cases k with
   | zero => cases h
   | succ k =>
     have := y22 (t0 := t0 + 1) (cs := l) (us := us) (k := k) (by simpa using h) (by simpa using h')
     rw [show t0 + (k + 1) = t0 + 1 + k by omega]; exact this
 | t0, .giv full' sz' rows' :: l, u' :: us, k, full, sz, rows, u, h, h' => by
   cases k with
   | zero => cases h; cases h'; exact List.mem_cons_self ..
   | succ k =>
     have := y22 (t0 := t0 + 1) (cs := l) (us := us) (k := k) (by simpa using h) (by simpa using h')
     rw [show t0 + (k + 1) = t0 + 1 + k by omega]; exact List.mem_cons_of_mem _ this
theorem q20 {args : List GA} : ∀ {back : List (Nat × List (List Cell))} {t : Nat} {rows' : List (List Cell)}, y5j args σ back → get back t = some rows' → (1000000000 + t) ∈ keys back ∧ ∃ full sz rows ep, (gcs args)[t]? = some (.giv full sz rows) ∧ get σ.b (1000000000 + t) = some (.arr full sz ep rows') ∧ rows'.length = rows.length ∧ z43 rows rows'
 | [], t, rows', _, h => by cases h
 | (k, r) :: l, t, rows', hb, h => by
   rw [ye] at h
   by_cases hk : k = t
   · subst hk
     rw [if_pos rfl] at h
     cases h
     refine ⟨List.mem_cons_self .., ?_⟩
     have h1 := hb.1
     split at h1
     · rename_i full sz rows full' sz' ep rows'' e1 e2
       obtain ⟨rfl, rfl, rfl, h2, h3⟩ := h1
       rw [q1u] at e1
       exact ⟨_, _, rows, ep, e1, e2, h2, h3⟩
     · exact h1.elim
   · rw [if_neg hk] at h
     obtain ⟨h1, h2⟩ := q20 hb.2 h
     exact ⟨List.mem_cons_of_mem _ h1, h2⟩
end
theorem CN.mono {w : World} {N N' : Nat → Prop} {full : Bool} {F : Nat → Prop} {c : Cell} {u : Value} (h : CN w N full F c u) (hN : ∀ x, x < w.heap.size → N x → N' x) : CN w N' full F c u := by
 cases full with
 | true => exact h
 | false => exact Rep.mono h hN
theorem PG.begin {P : Program} {f : Nat} {fn : Func} {c : Code} {args : List GA} {res : Res} {back : List (Nat × List (List Cell))} (hf : P.funcs[f]? = some fn) (hb : fn.body = some c) (hok : (okF P f && y12 fn.ntmps c && Nat.ble args.length fn.ntmps) = true)
 (h : G P (QG P fn args res back) [.code c] none ⟨gT 0 0 args, gB 0 (gcs args)⟩) : PG P f args res back := by
 simp only [Bool.and_eq_true] at hok
 obtain ⟨⟨ho1, ho2⟩, ho3⟩ := hok
 refine ⟨ho1, fun N S w vals hS1 hS2 hsh hcell => ?_⟩
 refine calls_of_wp hf hb ?_
 have hle : args.length ≤ fn.ntmps := Nat.le_of_ble_eq_true ho3
 have hshl : ∀ {args : List GA} {vals : List Value}, y31 args vals → vals.length = args.length := by
  intro args
  induction args with
  | nil => intro vals h; cases vals with | nil => rfl | cons _ _ => exact h.elim
  | cons ga l ih =>
    intro vals h
    cases vals with
    | nil => cases ga <;> exact h.elim
    | cons v vs =>
      cases ga with
      | one c => simp [ih (vals := vs) h]
      | agg cs => simp [ih (vals := vs) h.2]
 have hvl : vals.size = args.length := by simpa using hshl hsh
 have hlen := y1z hsh
 generalize hC : Ctx.mk P fn.ntmps w N (fun x => ∃ t, S t x) (z2c 0 (gcs args) (q0f args vals.toList)) = C
 generalize hρ : (⟨fun β => ((q0f args vals.toList)[β - 1000000000]?).getD undef, fun β x => S (β - 1000000000) x⟩ : Env) = ρ
 have hname : ∀ t, 1000000000 + t - 1000000000 = t := fun t => by omega
 have hNB : ∀ x, N x → Bor C ρ (gB 0 (gcs args)) x := fun x hx => by
  refine ⟨?_, fun β ab hg hs => ?_⟩
  · rw [← hC]; exact .inl hx
  · rw [← hρ] at hs; exact (hS1 _ x hs).2 hx
 have hAC : ∀ (t : Nat) (g : GC) (u : Value), (gcs args)[t]? = some g → (q0f args vals.toList)[t]? = some u → yu C w ρ (gB 0 (gcs args)) (gAC (0 + t) g) u := fun t g u hg hu => by
  have hc := hcell t g u hg hu
  cases g with
  | bor c => exact Rep.mono hc (fun x _ hx => hNB x hx)
  | giv full sz rows =>
    obtain ⟨sz', _, hslab⟩ := hc
    obtain ⟨A, cap, rfl⟩ := hslab.slice
    refine ⟨⟨A, cap, rfl⟩, _, y6s hg, fun full' sz1 ep rows' he => ?_⟩
    cases he
    refine ⟨Nat.le_refl _, fun _ => ?_⟩
    rw [← hρ]
    simp only [Nat.zero_add, hname, hu, Option.getD_some]
 have hinit : qc C ⟨gT 0 0 args, gB 0 (gcs args)⟩ ρ { tmps := vals ++ Array.replicate (fn.ntmps - vals.size) undef, defers := [] } w := by
  refine ⟨fun t av ht => ?_, fun β ab hg => ?_, fun β β' ab ab' x hg hg' hx hx' => ?_, fun β ab x hg hx => ?_, ?_, rfl, ?_, fun g hg => ?_⟩
  · obtain ⟨j, v, h1, h2, h3⟩ := q6s hsh hAC ht
    have hj : j < vals.size := by have := (List.getElem?_eq_some_iff.1 h2).1; simpa using this
    refine ⟨v, ?_, h3⟩
    have htj : t = j := by omega
    subst htj
    rw [Array.getElem?_append, if_pos hj]
    simpa using h2
  · obtain ⟨k, full, sz, rows, rfl, h2, rfl⟩ := z4g hg
    have hlt : k < (q0f args vals.toList).length := by rw [hlen]; exact (List.getElem?_eq_some_iff.1 h2).1
    obtain ⟨sz', hsz, hslab⟩ := hcell k _ _ h2 (List.getElem?_eq_getElem hlt)
    refine ⟨sz', hsz, ?_⟩
    have e1 : ρ.v (1000000000 + (0 + k)) = (q0f args vals.toList)[k] := by
     rw [← hρ]; simp only [Nat.zero_add, hname, List.getElem?_eq_getElem hlt, Option.getD_some]
    have e2 : ρ.S (1000000000 + (0 + k)) = S k := by
     rw [← hρ]; simp only [Nat.zero_add, hname]
    rw [e1, e2, y8h (σ := ⟨[], gB 0 (gcs args)⟩)]
    exact y0k.imp hslab (fun _ h => h) (fun _ _ _ => rfl) (fun _ _ _ _ hc => CN.mono hc (fun x _ hx => hNB x hx))
  · obtain ⟨k, _, _, _, rfl, _, _⟩ := z4g hg
    obtain ⟨k', _, _, _, rfl, _, _⟩ := z4g hg'
    rw [← hρ] at hx hx'
    have := hS2 _ _ x hx hx'
    omega
  · rw [← hρ] at hx
    refine ⟨(hS1 _ x hx).1, .inr ?_⟩
    rw [← hC]; exact ⟨_, hx⟩
  · rw [← hC]
    show (vals ++ Array.replicate (fn.ntmps - vals.size) undef).size = fn.ntmps
    rw [Array.size_append, Array.size_replicate]
    omega
  · rw [← hC]; exact yr.refl _ _
  · rw [← hC] at hg
    obtain ⟨k, full, sz, rows, u, rfl, h2, h3⟩ := z1d hg
    exact hAC k (.giv full sz rows) u h2 h3
 have hCP : C.P = P := by rw [← hC]
 have hCT : C.T = fn.ntmps := by rw [← hC]
 have hQ : vc C.P c (fun (e : Ex) (σ : St) => match e with | .normal => G P (QG P fn args res back) [] none σ | .exit i => G P (QG P fn args res back) [] (some i) σ | .ret => QG P fn args res back .ret σ) ⟨gT 0 0 args, gB 0 (gcs args)⟩ := by rw [hCP]; exact h
 have hwp := z5t (C := C) (fun g hg => by
  rw [← hC] at hg
  obtain ⟨k, _, _, _, _, rfl, _, _⟩ := z1d hg
  exact Nat.le_add_right _ _) (by rw [hCT]; exact ho2) ⟨ρ, hinit⟩ hQ
 rw [hCP] at hwp
 refine wp_mono hwp (fun e a' w' hq => ?_)
 obtain ⟨e', he, σ', hr, ρ', hrel⟩ := hq
 have fin : qah P fn args res back σ' → a'.defers = [] ∧ ∃ v, (results fn a'.tmps).run P w' = .ok v w' ∧ ∃ (v' : Value) (SR : Nat → Prop) (SB : Nat → Nat → Prop), Ending.returned v = .returned v' ∧ yr w w' (fun x => ∃ t, S t x) ∧ z1q w' (Rest N w S SR SB) SR res v' ∧
  (∀ x, SR x → (w.heap.size ≤ x ∨ ∃ t, S t x) ∧ x < w'.heap.size ∧ ∀ t, ¬ SB t x) ∧ (∀ t x, SB t x → (w.heap.size ≤ x ∨ ∃ t, S t x) ∧ x < w'.heap.size) ∧ (∀ t t' x, SB t x → SB t' x → t = t') ∧
  ∀ (t : Nat) (rows' : List (List Cell)), get back t = some rows' → ∀ (full : Bool) (sz : Nat) (rows : List (List Cell)) (u : Value), (gcs args)[t]? = some (.giv full sz rows) → (q0f args vals.toList)[t]? = some u →
    rows'.length = rows.length ∧ (∀ (i : Nat) (row row' : List Cell), rows[i]? = some row → rows'[i]? = some row' → row'.length = row.length) ∧ ∃ sz', (sz ≠ 0 → sz' = sz) ∧ y0k w' (CN w' (Rest N w S SR SB) full) (SB t) sz' rows' u := fun hret => by
  obtain ⟨hret, hbk⟩ := hret
  rw [← hCP] at hret
  obtain ⟨v, ms, h1, h2, h3⟩ := q4o hrel hret
  rw [hCP] at h1
  have hmine : ∀ β ab x, get σ'.b β = some ab → ρ'.S β x → x < w'.heap.size ∧ (w.heap.size ≤ x ∨ ∃ t, S t x) := by
   have := hrel.mine
   rw [← hC] at this
   exact this
  have hkeep : yr w w' (fun x => ∃ t, S t x) := by
   have := hrel.keep
   rw [← hC] at this
   exact this
  have hfree : ∀ x, Bor C ρ' σ'.b x → N x ∨ w.heap.size ≤ x ∨ ∃ t, S t x := by
   intro x hx
   have := hx.1
   rw [← hC] at this
   exact this
  have hrest : ∀ x, Bor C ρ' σ'.b x → Rest N w S (gS σ' ρ' ms) (fun t x => (get back t).isSome = true ∧ (∃ ab, get σ'.b (1000000000 + t) = some ab) ∧ ρ'.S (1000000000 + t) x) x := fun x hx =>
   ⟨hfree x hx, fun ⟨γ, _, ⟨ab, hab⟩, hs⟩ => hx.2 γ ab hab hs, fun t ⟨_, ⟨ab, hab⟩, hs⟩ => hx.2 _ ab hab hs⟩
  have hkey : ∀ t, (get back t).isSome = true → (1000000000 + t) ∈ keys back := fun t ht => by
   obtain ⟨rows', hr'⟩ := Option.isSome_iff_exists.1 ht
   exact (q20 hbk hr').1
  refine ⟨hrel.defers, v, h1, v, gS σ' ρ' ms, fun t x => (get back t).isSome = true ∧ (∃ ab, get σ'.b (1000000000 + t) = some ab) ∧ ρ'.S (1000000000 + t) x, rfl, hkeep, h2.mono hrest, fun x hx => ?_, fun t x hx => ?_, fun t t' x hx hx' => ?_, fun t rows' ht full sz rows u hg hu => ?_⟩
  · obtain ⟨γ, hγ, ⟨ab, hab⟩, hs⟩ := hx
    refine ⟨(hmine γ ab x hab hs).2, (hmine γ ab x hab hs).1, fun t ⟨h4, ⟨ab', hab'⟩, h6⟩ => ?_⟩
    have := hrel.disj γ _ ab ab' x hab hab' hs h6
    exact h3 γ hγ (this ▸ hkey t h4)
  · obtain ⟨_, ⟨ab, hab⟩, hs⟩ := hx
    exact ⟨(hmine _ ab x hab hs).2, (hmine _ ab x hab hs).1⟩
  · obtain ⟨_, ⟨ab, hab⟩, hs⟩ := hx
    obtain ⟨_, ⟨ab', hab'⟩, hs'⟩ := hx'
    have := hrel.disj _ _ ab ab' x hab hab' hs hs'
    omega
  · obtain ⟨_, full1, sz1, rows1, ep, e1, e2, e3, e4⟩ := q20 hbk ht
    rw [hg] at e1
    cases e1
    refine ⟨e3, e4, ?_⟩
    obtain ⟨sz', hsz, hslab⟩ := hrel.blks _ _ e2
    refine ⟨sz', hsz, ?_⟩
    have hgh := hrel.ghost (.h (1000000000 + (0 + t)) rows.length, u) (by rw [← hC]; exact y22 hg hu)
    obtain ⟨_, ab, h5, h6⟩ := hgh
    simp only [Nat.zero_add] at h5 h6
    rw [e2] at h5
    cases h5
    rw [(h6 _ _ _ _ rfl).2 e3.symm]
    rw [y8h] at hslab
    exact y0k.imp hslab (fun x hx => ⟨by rw [ht]; rfl, ⟨_, e2⟩, hx⟩) (fun _ _ _ => rfl) (fun _ _ _ _ hc => CN.mono hc (fun x _ hx => hrest x hx))
 cases e <;> simp only [y8p, Option.some.injEq] at he <;> first | (subst he) | cases he
 · exact fin hr
 · exact hr.elim
 · exact fin hr
end Go.Sx
end
section
namespace Go.Sx
theorem z53 {α : Type} {xs : List α} {i : Nat} {x : α} (h : i < xs.length) : (xs.set i x)[i]? = some x := by simp [h]
theorem qt {rws : List (List Cell)} {i k : Nat} {c : Cell} {row : List Cell} (h : rws[i]? = some row) : setRow rws i k c = rws.set i (row.set k c) := by simp only [setRow, h]
theorem q6a {rws : List (List Cell)} {i k : Nat} {c : Cell} : (setRow rws i k c).length = rws.length := by
 unfold setRow
 split
 · exact List.length_set
 · rfl
theorem ze {rws : List (List Cell)} {i k : Nat} {c : Cell} {row : List Cell} (h : rws[i]? = some row) : (setRow rws i k c)[i]? = some (row.set k c) := by
 rw [qt h, z53 (List.getElem?_eq_some_iff.1 h).1]
end Go.Sx
end
section
namespace Go.Sx
open Go.RowKit Go.ChangeShapes Go.WideShapes Go.Deep
def y5v (w : World) (cells : List Cell) (cs : List Value) : Prop := cs.length = cells.length ∧ ∀ (k : Nat) (c : Cell) (u : Value), cells[k]? = some c → cs[k]? = some u → Rep w (fun _ => True) c u
structure y37 (P : Program) (t : TypeId) {α : Type} (sz : Nat) (f : α → List Cell) (G : α → Prop) : Prop where
 hsz : P.cellsOf t = sz
 len : ∀ a, (f a).length = sz
 get : ∀ {H : Type} (enc : TypeId × Value → H) (w : World) (base : Nat) (spare : Nat → Bool) (held : Bool) (fuel : Nat) (cs : List Value) (x : DataW H × List MemPlace), DataW.trod enc P w base spare held fuel t cs = some x → ∃ a, y5v w (f a) cs ∧ G a
section
variable {P : Program} {α β : Type} {t e : TypeId}
theorem y5v.one {w : World} {c : Cell} {u : Value} (h : Rep w (fun _ => True) c u) : y5v w [c] [u] := ⟨rfl, fun k c' u' h1 h2 => by
 cases k with
 | zero => cases h1; cases h2; exact h
 | succ k => simp at h1⟩
theorem z74 {k : IntKind} (ht : P.underlying t = some (.int k)) (hc : P.cellsOf t = 1) : y37 P t 1 (fun n : Int => [.s (.int k n)]) (fun n => (Lit.int k n).wf = true) :=
 ⟨hc, fun _ => rfl, fun enc w base spare held fuel cs x h => by obtain ⟨n, rfl, _, hw⟩ := DataW.trod_int ht h; exact ⟨n, .one (.s _ rfl), hw⟩⟩
theorem y74 {sz : Nat} {f : α → List Cell} {G : α → Prop} (ht : P.underlying t = some (.slice e)) (he : y37 P e sz f G)
 {H : Type} (enc : TypeId × Value → H) (w : World) (base : Nat) (spare : Nat → Bool) (held : Bool) (fuel : Nat) (cs : List Value) (x : DataW H × List MemPlace) (h : DataW.trod enc P w base spare held fuel t cs = some x) :
 ∃ (l : List α) (v : Value), cs = [v] ∧ Rep w (fun _ => True) (.l (l.map f)) v ∧ (l.length ≤ maxLen ∧ ∀ a ∈ l, G a) := by
 classical
 rcases open_slice ht h with ⟨rfl, _⟩ | ⟨a, len, cap, m, n, D, Pl, rfl, hb, hl, hm, hmm, rfl, hx⟩
 · exact ⟨[], _, rfl, .l 0 [] none 0 (fun _ _ => undef) (by simp) (Nat.le_refl _) (fun _ => rfl) (fun j k hj => by simp at hj) (fun j k row c h1 => by simp at h1), by simp, fun a ha => by cases ha⟩
 · have hlm : len ≤ m := by rw [hmm]; split <;> omega
   have hall : ∀ i, i < len → ∃ b cs', cs'.length = sz ∧ y5v w (f b) cs' ∧ G b ∧ ∀ j, j < sz → w.cell? ((a.add (i * sz)).add j) = cs'[j]? := fun i hi => by
    obtain ⟨cs', h1, h2⟩ := hx i (by omega)
    obtain ⟨b, hK, hg⟩ := he.get enc w base spare held n cs' _ h2
    rw [he.hsz] at h1
    obtain ⟨_, hlen, hcell⟩ := World.cells?_some h1
    exact ⟨b, cs', hlen, hK, hg, hcell⟩
   have key : ∀ k, k ≤ len → ∃ l : List α, l.length = k ∧ (∀ j p, l[j]? = some p → ∃ c, c.length = sz ∧ y5v w (f p) c ∧ ∀ i u, c[i]? = some u → w.cell? (a.add (j * sz + i)) = some u) ∧ ∀ a ∈ l, G a := by
    intro k
    induction k with
    | zero => exact fun _ => ⟨[], rfl, fun j p hj => by simp at hj, fun a ha => by cases ha⟩
    | succ k ih =>
      intro hk
      obtain ⟨l, hl, hc, hG⟩ := ih (by omega)
      obtain ⟨b, c, hs, hK, hg, hcell⟩ := hall k (by omega)
      refine ⟨l ++ [b], by simp [hl], fun j p hj => ?_, fun b' hb' => ?_⟩
      · rcases Nat.lt_or_ge j l.length with hjl | hjl
        · rw [List.getElem?_append_left hjl] at hj
          exact hc j p hj
        · have hj' : j = l.length := by
           have := (List.getElem?_eq_some_iff.1 hj).1
           rw [List.length_append, List.length_singleton] at this
           omega
          subst hj'
          have hp : b = p := by simpa using hj
          subst hp
          refine ⟨c, hs, hK, fun i u hu => ?_⟩
          have hi : i < sz := by rw [← hs]; exact (List.getElem?_eq_some_iff.1 hu).1
          have := hcell i hi
          rw [Go.Deep.add_add, ← hl] at this
          rw [this, hu]
      · rcases List.mem_append.1 hb' with hb' | hb'
        · exact hG b' hb'
        · rw [List.mem_singleton.1 hb']; exact hg
   obtain ⟨l, hl', hc, hG⟩ := key len (Nat.le_refl _)
   subst hl'
   have hch : ∀ j : Nat, ∃ c : List Value, ∀ p, l[j]? = some p → c.length = sz ∧ y5v w (f p) c ∧ ∀ i u, c[i]? = some u → w.cell? (a.add (j * sz + i)) = some u := fun j => by
    cases hj : l[j]? with
    | none => exact ⟨[], fun p h => by cases h⟩
    | some p =>
      obtain ⟨c, h1, h2, h3⟩ := hc j p hj
      exact ⟨c, fun p' h => by cases h; exact ⟨h1, h2, h3⟩⟩
   have hch2 : ∃ c : Nat → List Value, ∀ j p, l[j]? = some p → (c j).length = sz ∧ y5v w (f p) (c j) ∧ ∀ i u, (c j)[i]? = some u → w.cell? (a.add (j * sz + i)) = some u := ⟨fun j => Classical.choose (hch j), fun j => Classical.choose_spec (hch j)⟩
   obtain ⟨c, hc⟩ := hch2
   have hlr : (l.map f).length = l.length := by simp
   refine ⟨l, _, rfl, ?_, by omega, hG⟩
   rw [show (Value.slice (some a) l.length cap) = .slice (some a) (l.map f).length cap by rw [hlr]]
   refine .l sz (l.map f) (some a) cap (fun j k => ((c j)[k]?).getD undef) (fun row hr => ?_) (by rw [hlr]; exact hl) (fun h => by cases h) (fun j k hj hk => ?_) (fun j k row c' h1 h2 => ?_)
   · obtain ⟨p, _, rfl⟩ := List.mem_map.1 hr; exact he.len p
   · rw [hlr] at hj
     obtain ⟨h1, _, h3⟩ := hc j _ (List.getElem?_eq_getElem hj)
     refine ⟨a, rfl, trivial, ?_⟩
     have hlt : k < (c j).length := by omega
     rw [h3 k _ (List.getElem?_eq_getElem hlt), List.getElem?_eq_getElem hlt]; rfl
   · rw [List.getElem?_map] at h1
     cases hj : l[j]? with
     | none => rw [hj] at h1; cases h1
     | some p =>
       rw [hj] at h1
       cases h1
       obtain ⟨h4, h5, _⟩ := hc j p hj
       have hk : k < (c j).length := by rw [h4, ← he.len p]; exact (List.getElem?_eq_some_iff.1 h2).1
       refine h5.2 k c' _ h2 ?_
       rw [List.getElem?_eq_getElem hk]; rfl
inductive Laid (P : Program) : Nat → List Field → Prop
 | nil (o : Nat) : Laid P o []
 | cons {o : Nat} {f : Field} {fs : List Field} : f.offset = o → Laid P (o + P.cellsOf f.type) fs → Laid P o (f :: fs)
def z49 (P : Program) (fs : List Field) {α : Type} (sz : Nat) (f : α → List Cell) (G : α → Prop) : Prop :=
 (∀ a, (f a).length = sz) ∧ ∀ {H : Type} (enc : TypeId × Value → H) (w : World) (base : Nat) (spare : Nat → Bool) (held : Bool) (fuel : Nat) (cs : List Value), cs.length = sz →
   (∀ (i : Nat) (f : Field), fs[i]? = some f → ∃ x, DataW.trod enc P w base spare held fuel f.type ((cs.drop (((fs.take i).map fun g => P.cellsOf g.type).sum)).take (P.cellsOf f.type)) = some x) →
   ∃ a, y5v w (f a) cs ∧ G a
theorem y5v.append {w : World} {xs ys : List Cell} {us vs : List Value} (h : y5v w xs us) (k : y5v w ys vs) : y5v w (xs ++ ys) (us ++ vs) := by
 refine ⟨by simp [h.1, k.1], fun i c u h1 h2 => ?_⟩
 rw [List.getElem?_append] at h1 h2
 rw [h.1] at h2
 by_cases hi : i < xs.length
 · rw [if_pos hi] at h1 h2; exact h.2 i c u h1 h2
 · rw [if_neg hi] at h1 h2; exact k.2 _ c u h1 h2
theorem z68 {fd : Field} {sz : Nat} {f : α → List Cell} {G : α → Prop} (h : y37 P fd.type sz f G) : z49 P [fd] sz f G := by
 refine ⟨h.len, fun enc w base spare held fuel cs hl hx => ?_⟩
 obtain ⟨x, hx⟩ := hx 0 fd rfl
 simp only [List.take_zero, List.map_nil, List.sum_nil, List.drop_zero] at hx
 rw [h.hsz, ← hl, List.take_length] at hx
 exact h.get enc w base spare held fuel cs x hx
theorem z58 {fd : Field} {fs : List Field} {sz sz' : Nat} {f : α → List Cell} {f' : β → List Cell} {G : α → Prop} {G' : β → Prop} (h : y37 P fd.type sz f G) (h' : z49 P fs sz' f' G') : z49 P (fd :: fs) (sz + sz') (fun x : α × β => f x.1 ++ f' x.2) (fun x => G x.1 ∧ G' x.2) := by
 refine ⟨fun a => by simp [h.len, h'.1], fun enc w base spare held fuel cs hl hx => ?_⟩
 obtain ⟨x, hx0⟩ := hx 0 fd rfl
 simp only [List.take_zero, List.map_nil, List.sum_nil, List.drop_zero] at hx0
 rw [h.hsz] at hx0
 obtain ⟨a, hK, hG⟩ := h.get enc w base spare held fuel _ x hx0
 obtain ⟨b, hK', hG'⟩ := h'.2 enc w base spare held fuel (cs.drop sz) (by rw [List.length_drop]; omega) (fun i g hi => by
  obtain ⟨y, hy⟩ := hx (i + 1) g (by simpa using hi)
  refine ⟨y, ?_⟩
  rw [List.drop_drop]
  simpa [h.hsz] using hy)
 refine ⟨(a, b), ?_, hG, hG'⟩
 have := hK.append hK'
 rwa [List.take_append_drop] at this
theorem y2v : ∀ {fs : List Field} {o : Nat}, Laid P o fs → ∀ (i : Nat) (f : Field), fs[i]? = some f → f.offset = o + ((fs.take i).map fun g => P.cellsOf g.type).sum
 | [], _, _, i, f, h => by simp at h
 | g :: fs, o, .cons h1 h2, 0, f, h => by
   have : g = f := by simpa using h
   subst this
   simp [h1]
 | g :: fs, o, .cons h1 h2, i + 1, f, h => by
   rw [y2v h2 i f (by simpa using h)]
   simp [Nat.add_assoc]
theorem z4n {fs : List Field} {sz : Nat} {f : α → List Cell} {G : α → Prop} {f' : β → List Cell} {G' : β → Prop} (g : α → β) (hfg : ∀ a, f' (g a) = f a) (hG : ∀ a, G a → G' (g a)) (hlen : ∀ b, (f' b).length = sz) (ht : P.underlying t = some (.struct fs.toArray)) (hc : P.cellsOf t = sz) (hL : Laid P 0 fs) (hF : z49 P fs sz f G) :
 y37 P t sz f' G' :=
 ⟨hc, hlen, fun enc w base spare held fuel cs x h => by
   obtain ⟨xs, n, rfl, _, hl, hxs, hf⟩ := DataW.trod_struct ht h
   obtain ⟨a, hK, hg⟩ := hF.2 enc w base spare held n cs (by rw [hl, hc]) (fun i f hi => by
    have hoff := y2v hL i f hi
    rw [Nat.zero_add] at hoff
    have h1 := hf i f (by simpa using hi)
    rw [hoff] at h1
    have hi' : i < xs.length := by
     rw [hxs]
     have := (List.getElem?_eq_some_iff.1 hi).1
     simpa using this
    exact ⟨xs[i], by rw [h1, List.getElem?_eq_getElem hi']⟩)
   exact ⟨g a, by rw [hfg]; exact hK, hG a hg⟩⟩
theorem y58 {sz : Nat} {f : α → List Cell} {G : α → Prop} (ht : P.underlying t = some (.slice e)) (hc : P.cellsOf t = 1) (he : y37 P e sz f G) : y37 P t 1 (fun l : List α => [.l (l.map f)]) (fun l => l.length ≤ maxLen ∧ ∀ a ∈ l, G a) :=
 ⟨hc, fun _ => rfl, fun enc w base spare held fuel cs x h => by
   obtain ⟨l, v, rfl, hr, hG⟩ := y74 ht he enc w base spare held fuel cs x h
   exact ⟨l, .one hr, hG⟩⟩
theorem q5w {fs : Array Field} {sz : Nat} {f : α → List Cell} {G : α → Prop} (ht : P.underlying t = some (.struct fs)) (he : y37 P t sz f G) {H : Type} {enc : TypeId × Value → H} {w : World} {r : Reach} {b : Nat} {v : Value} {dd : DataW H} {ps : List MemPlace}
 (hv : Value.okWide P w r b t v) (h : DataW.Trod enc P w 0 (fun _ => true) true t v dd ps) : ∃ a : α, y7j w (fun _ => True) (.agg (f a)) v ∧ G a := by
 obtain ⟨cs, rfl, _⟩ := okWide_struct ht hv
 obtain ⟨fuel, hf⟩ := h
 obtain ⟨a, hK, hG⟩ := he.get enc w 0 _ true fuel _ _ hf
 have hK' : y5v w (f a) cs.toList := by simpa [Value.cells] using hK
 exact ⟨a, ⟨cs, rfl, by simpa using hK'.1, fun k c u hc hu => hK'.2 k c u hc (by simpa using hu)⟩, hG⟩
end
end Go.Sx
end
section
namespace Go.Sx
open Go.RowKit (Below)
theorem PC.law {P : Program} {f : Nat} {args : List SV} {b : Bool} (h : PC P f args (.one (.own false [.s (.bool b)]))) {w : World} {vals : Array Value} (ha : y5u w (fun _ => True) vals args) :
 Calls P f vals w fun e w' => e = .returned (.bool b) ∧ Below w.heap.size w w' := by
 refine (h.2 _ w vals ha).mono ?_
 rintro e w' ⟨v, S, rfl, hk, ⟨arr, F, h1, h2, _, _, h5⟩, _⟩
 have h1' : arr = #[v] := h1
 subst h1'
 obtain ⟨rfl, _⟩ := h5 0 _ v rfl rfl
 exact ⟨rfl, hk.below⟩
theorem y5u.three {w : World} {N : Nat → Prop} {sv sv' sv2 : SV} {v v' v2 : Value} (h : y7j w N sv v) (h' : y7j w N sv' v') (h2 : y7j w N sv2 v2) : y5u w N #[v, v', v2] [sv, sv', sv2] := ⟨rfl, fun i s u e1 e2 => by
 cases i with
 | zero => cases e1; cases e2; exact h
 | succ i =>
   cases i with
   | zero => cases e1; cases e2; exact h'
   | succ i =>
     cases i with
     | zero => cases e1; cases e2; exact h2
     | succ i => simp at e1⟩
end Go.Sx
end
section
namespace Go.Sx
inductive Sh where
 | nil
 | i (k : IntKind) (r : Sh)
 | b (r : Sh)
 | l (e : Sh) (r : Sh)
inductive WT (N : Nat) : Sh → List Cell → Prop
 | nil : WT N .nil []
 | i {k : IntKind} {r : Sh} {cs : List Cell} (n : Int) : WT N r cs → WT N (.i k r) (.s (.int k n) :: cs)
 | b {r : Sh} {cs : List Cell} (x : Bool) : WT N r cs → WT N (.b r) (.s (.bool x) :: cs)
 | l {e r : Sh} {cs : List Cell} (rows : List (List Cell)) : rows.length ≤ N → (∀ row ∈ rows, WT N e row) → WT N r cs → WT N (.l e r) (.l rows :: cs)
def WR (N : Nat) (e : Sh) (rows : List (List Cell)) : Prop := rows.length ≤ N ∧ ∀ row ∈ rows, WT N e row
def nx (k : Int) : Int := IntKind.i64.wrap (k + 1)
def mkv : IntKind → Int → Int
 | .i64, k => k
 | t, k => t.wrap k
def mkR (f : List Cell → Int → List Cell × Int) : List (List Cell) → Int → List (List Cell) × Int
 | [], k => ([], k)
 | row :: rows, k => ((f row k).1 :: (mkR f rows (f row k).2).1, (mkR f rows (f row k).2).2)
def mk : Sh → List Cell → Int → List Cell × Int
 | .nil, cs, k => (cs, k)
 | .i t r, _ :: cs, k => (.s (.int t (mkv t k)) :: (mk r cs (nx k)).1, (mk r cs (nx k)).2)
 | .b r, _ :: cs, k => (.s (.bool (k.tmod 3 == 0)) :: (mk r cs (nx k)).1, (mk r cs (nx k)).2)
 | .l e r, .l rows :: cs, k => (.l (mkR (mk e) rows k).1 :: (mk r cs (mkR (mk e) rows k).2).1, (mk r cs (mkR (mk e) rows k).2).2)
 | _, cs, k => (cs, k)
def hdR (f : List Cell → Int → Option Int) : List (List Cell) → Int → Option Int
 | [], k => some k
 | row :: rows, k => (f row k).bind (hdR f rows)
def ng (o : Option Int) : Int := o.getD (-1)
def ps (k : Int) : Option Int := if k < 0 then none else some k
def hd : Sh → List Cell → Int → Option Int
 | .nil, _, k => some k
 | .i t r, .s (.int _ n) :: cs, k => if n = mkv t k then hd r cs (nx k) else none
 | .b r, .s (.bool x) :: cs, k => if x = (k.tmod 3 == 0) then hd r cs (nx k) else none
 | .l e r, .l rows :: cs, k => (ps (ng (hdR (hd e) rows k))).bind (hd r cs)
 | _, _, k => some k
def mt : Sh → List Cell → Int → List Cell × Int
 | .i _ r, c :: cs, k => (c :: (mt r cs k).1, (mt r cs k).2)
 | .b r, c :: cs, k => (c :: (mt r cs k).1, (mt r cs k).2)
 | .l e r, .l rows :: cs, k => (.l (mkR (mk e) rows k).1 :: (mt r cs (mkR (mk e) rows k).2).1, (mt r cs (mkR (mk e) rows k).2).2)
 | _, cs, k => (cs, k)
def ht : Sh → List Cell → Int → Option Int
 | .i _ r, _ :: cs, k => ht r cs k
 | .b r, _ :: cs, k => ht r cs k
 | .l e r, .l rows :: cs, k => (ps (ng (hdR (hd e) rows k))).bind (ht r cs)
 | _, _, k => some k
theorem y92 {k : Int} (h : ¬ k < 0) : ps k = some k := by unfold ps; rw [if_neg h]
theorem zab {k : Int} (h : k < 0) : ps k = none := by unfold ps; rw [if_pos h]
theorem z2x {o : Option Int} (h : o = none) : ng o = -1 := by rw [h]; rfl
def z00 (f : List Cell → Nat) : List (List Cell) → Nat
 | [] => 0
 | row :: rows => f row + z00 f rows
def cnt : Sh → List Cell → Nat
 | .i _ r, _ :: cs => 1 + cnt r cs
 | .b r, _ :: cs => 1 + cnt r cs
 | .l e r, .l rows :: cs => z00 (cnt e) rows + cnt r cs
 | _, _ => 0
def tot : Sh → List Cell → Nat
 | .i _ r, _ :: cs => tot r cs
 | .b r, _ :: cs => tot r cs
 | .l e r, .l rows :: cs => rows.length + z00 (tot e) rows + tot r cs
 | _, _ => 0
def ql (e : Sh) (rows : List (List Cell)) : Nat := rows.length + z00 (tot e) rows
def wid : Sh → Nat
 | .i _ r => 1 + wid r
 | .b r => 1 + wid r
 | .l _ r => wid r
 | .nil => 0
def y40 : Sh → Nat
 | .i _ r => y40 r
 | .b r => y40 r
 | .l e r => wid e + y40 e + y40 r
 | .nil => 0
theorem y66 {k : Int} (h : 0 ≤ k) (h1 : k < 9000000000000000000) : nx k = k + 1 := wrap_i64 (by omega) (by omega)
theorem zq (f : List Cell → Int → List Cell × Int) : ∀ (rows : List (List Cell)) (k : Int), (mkR f rows k).1.length = rows.length
 | [], _ => rfl
 | row :: rows, k => by simp [mkR, zq f rows]
theorem WT.mono {N M : Nat} (h : N ≤ M) {e : Sh} {cs : List Cell} (hw : WT N e cs) : WT M e cs := by
 induction hw with
 | nil => exact .nil
 | i n _ ih => exact .i n ih
 | b x _ ih => exact .b x ih
 | l rows h1 _ _ ih1 ih2 => exact .l rows (by omega) ih1 ih2
theorem WR.mono {N M : Nat} (h : N ≤ M) {e : Sh} {rows : List (List Cell)} (hw : WR N e rows) : WR M e rows := ⟨Nat.le_trans hw.1 h, fun r hr => (hw.2 r hr).mono h⟩
theorem WT.qv {N : Nat} {k : IntKind} {r : Sh} {cs : List Cell} (h : WT N (.i k r) cs) : ∃ n cs', cs = .s (.int k n) :: cs' ∧ WT N r cs' := by
 cases h with | i n h => exact ⟨_, _, rfl, h⟩
theorem WT.y16 {N : Nat} {e r : Sh} {cs : List Cell} (h : WT N (.l e r) cs) : ∃ rows cs', cs = .l rows :: cs' ∧ WR N e rows ∧ WT N r cs' := by
 cases h with | l rows h1 h2 h3 => exact ⟨_, _, rfl, ⟨h1, h2⟩, h3⟩
theorem WT.zy {N : Nat} {cs : List Cell} (h : WT N .nil cs) : cs = [] := by
 cases h; rfl
theorem y71 {N : Nat} {e : Sh} {f : List Cell → Int → List Cell × Int} : ∀ {rows : List (List Cell)}, (∀ row ∈ rows, ∀ k, WT N e (f row k).1) → ∀ k, ∀ row ∈ (mkR f rows k).1, WT N e row
 | [], _, k, row, hr => by cases hr
 | r :: rows, h, k, row, hr => by
   rcases List.mem_cons.1 hr with rfl | hr
   · exact h r (by simp) k
   · exact y71 (fun row hr => h row (by simp [hr])) _ row hr
theorem za9 {N : Nat} {e : Sh} {cs : List Cell} (h : WT N e cs) : ∀ k, WT N e (mk e cs k).1 := by
 induction h with
 | nil => exact fun k => .nil
 | i n _ ih => exact fun k => .i _ (ih _)
 | b x _ ih => exact fun k => .b _ (ih _)
 | l rows h1 _ _ ih1 ih2 => exact fun k => .l _ (by rw [zq]; exact h1) (y71 ih1 k) (ih2 _)
theorem z9o {N : Nat} {e : Sh} {rows : List (List Cell)} (h : WR N e rows) (k : Int) : WR N e (mkR (mk e) rows k).1 := ⟨by rw [zq]; exact h.1, y71 (fun row hr => za9 (h.2 row hr)) k⟩
theorem q3z {f : List Cell → Int → List Cell × Int} {g : List Cell → Int → Option Int} {c : List Cell → Nat} : ∀ {rows : List (List Cell)},
 (∀ row ∈ rows, ∀ k : Int, 0 ≤ k → k + c row ≤ 4000000000000000000 → g (f row k).1 k = some (k + c row) ∧ (f row k).2 = k + c row) →
 ∀ k : Int, 0 ≤ k → k + z00 c rows ≤ 4000000000000000000 → hdR g (mkR f rows k).1 k = some (k + z00 c rows) ∧ (mkR f rows k).2 = k + z00 c rows
 | [], _, k, _, _ => by simp [mkR, hdR, z00]
 | r :: rows, h, k, h0, h1 => by
   simp only [z00] at h1 ⊢
   obtain ⟨e1, e2⟩ := h r (by simp) k h0 (by omega)
   obtain ⟨e3, e4⟩ := q3z (rows := rows) (fun row hr => h row (by simp [hr])) (k + c r) (by omega) (by omega)
   simp only [mkR, hdR, e1, e2, Option.bind_some, e3, e4]
   constructor
   · congr 1; omega
   · omega
theorem q71 {N : Nat} {e : Sh} {cs : List Cell} (h : WT N e cs) : ∀ k : Int, 0 ≤ k → k + cnt e cs ≤ 4000000000000000000 → hd e (mk e cs k).1 k = some (k + cnt e cs) ∧ (mk e cs k).2 = k + cnt e cs := by
 induction h with
 | nil => intro k _ _; simp [mk, hd, cnt]
 | @i t r cs n _ ih =>
   intro k h0 h1
   simp only [cnt] at h1
   obtain ⟨e1, e2⟩ := ih (nx k) (by rw [y66 h0 (by omega)]; omega) (by rw [y66 h0 (by omega)]; omega)
   have hn : nx k + (cnt r cs : Nat) = k + (cnt (.i t r) (.s (.int t n) :: cs) : Nat) := by rw [y66 h0 (by omega)]; simp only [cnt]; omega
   simp only [mk, hd, if_true]
   exact ⟨e1.trans (congrArg some hn), e2.trans hn⟩
 | @b r cs x _ ih =>
   intro k h0 h1
   simp only [cnt] at h1
   obtain ⟨e1, e2⟩ := ih (nx k) (by rw [y66 h0 (by omega)]; omega) (by rw [y66 h0 (by omega)]; omega)
   have hn : nx k + (cnt r cs : Nat) = k + (cnt (.b r) (.s (.bool x) :: cs) : Nat) := by rw [y66 h0 (by omega)]; simp only [cnt]; omega
   simp only [mk, hd, if_true]
   exact ⟨e1.trans (congrArg some hn), e2.trans hn⟩
 | @l e r cs rows _ _ _ ih1 ih2 =>
   intro k h0 h1
   simp only [cnt] at h1
   obtain ⟨e1, e2⟩ := q3z ih1 k h0 (by omega)
   obtain ⟨e3, e4⟩ := ih2 (k + z00 (cnt e) rows) (by omega) (by omega)
   have hn : k + (z00 (cnt e) rows : Nat) + (cnt r cs : Nat) = k + (cnt (.l e r) (.l rows :: cs) : Nat) := by simp only [cnt]; omega
   have hp : ps (ng (some (k + (z00 (cnt e) rows : Nat)))) = some (k + z00 (cnt e) rows) := y92 (by show ¬ (k + _ < (0 : Int)); omega)
   simp only [mk, hd, e1, e2, hp, Option.bind_some]
   exact ⟨e3.trans (congrArg some hn), e4.trans hn⟩
theorem y21 {f g : List Cell → Nat} {a b : Nat} : ∀ {rows : List (List Cell)}, (∀ row ∈ rows, f row ≤ a + b * g row) → z00 f rows ≤ a * rows.length + b * z00 g rows
 | [], _ => by simp [z00]
 | r :: rows, h => by
   have h1 := h r (by simp)
   have h2 := y21 (rows := rows) (fun row hr => h row (by simp [hr]))
   simp only [z00, List.length_cons, Nat.mul_add, Nat.mul_one]
   omega
theorem z8d {N : Nat} {e : Sh} {cs : List Cell} (h : WT N e cs) : cnt e cs ≤ wid e + y40 e * tot e cs := by
 induction h with
 | nil => simp [cnt]
 | i n _ ih => simp only [cnt, wid, y40, tot]; omega
 | b x _ ih => simp only [cnt, wid, y40, tot]; omega
 | @l e r cs rows _ _ _ ih1 ih2 =>
   simp only [cnt, wid, y40, tot]
   have h1 := y21 ih1
   have h3 : (wid e + y40 e + y40 r) * (rows.length + z00 (tot e) rows + tot r cs) ≥ wid e * rows.length + y40 e * z00 (tot e) rows + y40 r * tot r cs := by
    have a1 : wid e * rows.length ≤ wid e * (rows.length + z00 (tot e) rows + tot r cs) := Nat.mul_le_mul_left _ (by omega)
    have a2 : y40 e * z00 (tot e) rows ≤ y40 e * (rows.length + z00 (tot e) rows + tot r cs) := Nat.mul_le_mul_left _ (by omega)
    have a3 : y40 r * tot r cs ≤ y40 r * (rows.length + z00 (tot e) rows + tot r cs) := Nat.mul_le_mul_left _ (by omega)
    simp only [Nat.add_mul]
    omega
   omega
def md (f : List Cell → Int → List Cell × Int) (rows : List (List Cell)) (k : Int) (i : Nat) : List (List Cell) := (mkR f (rows.take i) k).1 ++ rows.drop i
def mdk (f : List Cell → Int → List Cell × Int) (rows : List (List Cell)) (k : Int) (i : Nat) : Int := (mkR f (rows.take i) k).2
theorem y28 (f : List Cell → Int → List Cell × Int) : ∀ (xs ys : List (List Cell)) (k : Int), mkR f (xs ++ ys) k = ((mkR f xs k).1 ++ (mkR f ys (mkR f xs k).2).1, (mkR f ys (mkR f xs k).2).2)
 | [], ys, k => rfl
 | x :: xs, ys, k => by simp [mkR, y28 f xs]
section
variable {f : List Cell → Int → List Cell × Int} {rows : List (List Cell)} {k : Int} {i : Nat} {row : List Cell}
theorem q0r (h : rows[i]? = some row) : rows.take (i + 1) = rows.take i ++ [row] := by rw [List.take_add_one, h]; rfl
theorem y0c : md f rows k 0 = rows := by simp [md, mkR]
theorem q01 : mdk f rows k 0 = k := by simp [mdk, mkR]
theorem y0w : md f rows k rows.length = (mkR f rows k).1 := by simp [md]
theorem q0c : mdk f rows k rows.length = (mkR f rows k).2 := by simp [mdk]
theorem z0x (h : i ≤ rows.length) : (md f rows k i).length = rows.length := by simp [md, zq]; omega
theorem q0w (h : rows[i]? = some row) : (md f rows k i)[i]? = some row := by
 have hi := (List.getElem?_eq_some_iff.1 h).1
 unfold md
 rw [List.getElem?_append_right (by simp [zq]; omega)]
 simp only [zq, List.length_take, Nat.min_eq_left (Nat.le_of_lt hi), Nat.sub_self, List.getElem?_drop, Nat.add_zero]
 exact h
theorem y01 (h : rows[i]? = some row) : mdk f rows k (i + 1) = (f row (mdk f rows k i)).2 := by
 unfold mdk; rw [q0r h, y28]; rfl
theorem y0x (h : rows[i]? = some row) : (md f rows k i).set i (f row (mdk f rows k i)).1 = md f rows k (i + 1) := by
 have hi := (List.getElem?_eq_some_iff.1 h).1
 have hl : (mkR f (rows.take i) k).1.length = i := by simp [zq]; omega
 unfold md
 rw [q0r h, y28, List.set_append_right _ _ (by omega), hl, Nat.sub_self]
 have : rows.drop i = row :: rows.drop (i + 1) := by rw [List.drop_eq_getElem_cons hi]; rw [List.getElem?_eq_getElem hi] at h; cases h; rfl
 rw [this]
 simp [mkR, mdk]
end
theorem y23 (f : List Cell → Int → Option Int) : ∀ (xs ys : List (List Cell)) (k : Int), hdR f (xs ++ ys) k = (hdR f xs k).bind (hdR f ys)
 | [], ys, k => rfl
 | x :: xs, ys, k => by
   simp only [List.cons_append, hdR]
   cases f x k with
   | none => rfl
   | some v => exact y23 f xs ys v
theorem q7r {f : List Cell → Int → Option Int} {rows : List (List Cell)} {i : Nat} {row : List Cell} {k v : Int} (h : rows[i]? = some row) (hv : hdR f (rows.take i) k = some v) : hdR f (rows.take (i + 1)) k = f row v := by
 rw [q0r h, y23, hv]
 simp only [Option.bind_some, hdR]
 cases f row v <;> rfl
theorem z2m {f : List Cell → Int → Option Int} {rows : List (List Cell)} {i : Nat} {k : Int} (h : hdR f (rows.take i) k = none) : hdR f rows k = none := by
 rw [← List.take_append_drop i rows, y23, h]; rfl
theorem y9o {N : Nat} {e : Sh} {cs : List Cell} (h : WT N e cs) : ∀ k, (mk e cs k).1.length = cs.length := by
 induction h with
 | nil => exact fun k => rfl
 | i n _ ih => exact fun k => by simp [mk, ih]
 | b x _ ih => exact fun k => by simp [mk, ih]
 | l rows _ _ _ _ ih => exact fun k => by simp [mk, ih]
theorem z4l {N : Nat} {e : Sh} : ∀ {rows : List (List Cell)}, (∀ row ∈ rows, WT N e row) → ∀ (k : Int) (j : Nat) (row row' : List Cell), rows[j]? = some row → (mkR (mk e) rows k).1[j]? = some row' → row'.length = row.length
 | [], _, k, j, row, row', h, _ => by simp at h
 | r :: rows, hw, k, 0, row, row', h, h' => by
   simp [mkR] at h h'
   subst h; subst h'
   exact y9o (hw r (by simp)) k
 | r :: rows, hw, k, j + 1, row, row', h, h' => by
   simp [mkR] at h h'
   exact z4l (fun x hx => hw x (by simp [hx])) _ j row row' h h'
theorem qs {N : Nat} {e : Sh} {rows : List (List Cell)} (hw : WR N e rows) {k : Int} : ∀ (j : Nat) (row row' : List Cell), rows[j]? = some row → (mkR (mk e) rows k).1[j]? = some row' → row'.length = row.length := z4l hw.2 k
def szn (b : Int) (n : Nat) : Int := if b - n < 0 then -1 else b - n
theorem y0h {b : Int} {n : Nat} (h : b ≤ 1048576) (h0 : 0 ≤ b) : szn b n ≤ 1048576 := by unfold szn; split <;> omega
theorem yi {b : Int} {m n : Nat} (h : 0 ≤ szn b m) : szn (szn b m) n = szn b (m + n) := by
 unfold szn at *; split at h
 · omega
 · rename_i h1; simp only [if_neg h1]; split <;> split <;> omega
theorem yb {α : Type} {xs : List α} {i n : Nat} {x : α} (h : xs.length = n) : (xs.set i x).length = n := List.length_set.trans h
theorem lsr {xs : List (List Cell)} {i k n : Nat} {c : Cell} (h : xs.length = n) : (setRow xs i k c).length = n := q6a.trans h
theorem yw {α : Type} {xs : List α} {i n : Nat} {x : α} (h : xs.length = n) (hi : i < n) : (xs.set i x)[i]? = some x := z53 (h ▸ hi)
theorem ssr {xs : List (List Cell)} {i k : Nat} {c : Cell} {r : List Cell} (h : i < xs.length) : setRow (xs.set i r) i k c = xs.set i (r.set k c) := by rw [qt (z53 h), List.set_set]
theorem cwi {k : IntKind} {n m : Int} (h : -9223372036854775808 ≤ n) (h2 : n ≤ 9223372036854775807) (e : n = m) : Cell.s (.int k (IntKind.i64.wrap n)) = Cell.s (.int k m) := by rw [wrap_i64 h h2, e]
theorem z1l (f : List Cell → Nat) : ∀ (xs ys : List (List Cell)), z00 f (xs ++ ys) = z00 f xs + z00 f ys
 | [], ys => by simp [z00]
 | x :: xs, ys => by simp [z00, z1l f xs, Nat.add_assoc]
theorem y0u {f : List Cell → Nat} {rows : List (List Cell)} {i : Nat} {row : List Cell} (h : rows[i]? = some row) : z00 f (rows.take (i + 1)) = z00 f (rows.take i) + f row := by
 rw [q0r h, z1l]; simp [z00]
theorem z0j (f : List Cell → Nat) (rows : List (List Cell)) (i : Nat) : z00 f rows = z00 f (rows.take i) + z00 f (rows.drop i) := by
 rw [← z1l, List.take_append_drop]
theorem y0n {N : Nat} {e : Sh} {rows : List (List Cell)} (h : ∀ row, WT N e row → tot e row = 0) (hw : WR N e rows) : ql e rows = rows.length := by
 have : ∀ rows : List (List Cell), (∀ row ∈ rows, WT N e row) → z00 (tot e) rows = 0 := by
  intro rows
  induction rows with
  | nil => intro _; rfl
  | cons r rows ih => intro hr; rw [z00, h r (hr r (by simp)), ih (fun x hx => hr x (by simp [hx]))]
 rw [ql, this rows hw.2, Nat.add_zero]
theorem qo {α : Type} {xs ys : List α} {i : Nat} {a : α} (h : xs.take i = ys.take i) (hx : xs[i]? = some a) (hy : ys[i]? = some a) : xs.take (i + 1) = ys.take (i + 1) := by
 rw [List.take_add_one, List.take_add_one, h, hx, hy]
noncomputable def dE {α : Type} (p q : α) : Bool := open Classical in decide (p = q)
theorem yk {α : Type} {p q : α} (h : p ≠ q) : Value.bool false = Value.bool (dE p q) := by simp [dE, h]
theorem qu {α : Type} {p q : α} (h : p = q) : Value.bool true = Value.bool (dE p q) := by simp [dE, h]
theorem q03 {α : Type} {p q : α} (h : (!dE p q) = true) : p ≠ q := by simpa [dE] using h
theorem y03 {α : Type} {p q : α} (h : (!dE p q) = false) : p = q := by simpa [dE] using h
abbrev i64 (n : Int) : Cell := .s (.int .i64 n)
abbrev rI (n : Int) : Res := .one (.own false [.s (.int .i64 n)])
abbrev rB (b : Bool) : Res := .one (.own false [.s (.bool b)])
end Go.Sx
end
section
namespace Go.Sx
open Go.Maps (Keyed)
section
variable {P : Program} [yo P] {Q : Ex → St → Prop} {st st1 : List Fr} {σ σ1 : St} {g : Bool} {o : Oper} {t : TypeId} {m x : Operand} {β k e n : Nat} {D : DataW Unit} {q : IntKind}
theorem z9u {r : Nat} (h : exec 2000 (yo.F P) st σ = .raw g σ1 o st1) (ho : o.op = .makeMap t none) (hd : o.dst = some r) (hu : P.underlying t = some (.map k e)) (hn : get σ1.b r = none)
 (h1 : G P Q st1 none ⟨(r, .one (.mx 0 r)) :: σ1.t, z0f σ1.b r (.mp k e 0 (.map []) none)⟩) : G P Q st none σ :=
 z9c h (by simp only [opL, ho]; exact ⟨r, k, e, rfl, hd, hu, hn, h1⟩)
theorem zad {av : AV} {key : Value} {kl : Lit} (h : exec 2000 (yo.F P) st σ = .raw g σ1 o st1) (ho : o.op = .lookup t m x false) (hm : ev σ1 m = some (.one (.mx 0 β))) (hb : get σ1.b β = some (.mp k e n D none))
 (hu : P.underlying t = some (.map k e)) (he : P.underlying e = some (.int q)) (hK : Keyed P k) (hz : ∀ w, (zeroValue e).run P w = .ok (.int q 0) w) (hx : ev σ1 x = some av) (hv : valOf av = some key) (hkey : keyOf P k key = some kl)
 (h1 : ∀ c, D.atKey kl (.lit (.int q 0)) = .lit (.int q c) → (Lit.int q c).wf = true → G P Q st1 none (σ1.put o.dst (.one (.b (.s (.int q c)))))) : G P Q st none σ :=
 z9c h (by simp only [opL, ho]; exact ⟨β, k, e, n, D, q, kl, av, key, rfl, hm, hb, hu, he, hK, hz, hx, hv, hkey, h1⟩)
theorem qaq {v : Operand} {av : AV} {key : Value} {kl : Lit} {c : Int} (h : exec 2000 (yo.F P) st σ = .raw g σ1 o st1) (ho : o.op = .mapUpdate t m x v) (hd : o.dst = none) (hm : ev σ1 m = some (.one (.mx 0 β))) (hb : get σ1.b β = some (.mp k e n D none))
 (hu : P.underlying t = some (.map k e)) (he : P.underlying e = some (.int q)) (hK : Keyed P k) (hn : n < maxLen) (hx : ev σ1 x = some av) (hv : valOf av = some key) (hkey : keyOf P k key = some kl) (hc : ev σ1 v = some (.one (.b (.s (.int q c))))) (hw : (Lit.int q c).wf = true)
 (h1 : G P Q st1 none ⟨σ1.t, z0f σ1.b β (.mp k e (n + 1) (D.put kl (.lit (.int q c))) none)⟩) : G P Q st none σ :=
 z9c h (by simp only [opL, ho]; exact ⟨β, k, e, n, D, q, kl, av, key, c, hd, hm, hb, hu, he, hK, hn, hx, hv, hkey, hc, hw, h1⟩)
theorem q9u {r : Nat} (h : exec 2000 (yo.F P) st σ = .raw g σ1 o st1) (ho : o.op = .range t m) (hd : o.dst = some r) (hm : ev σ1 m = some (.one (.mx 0 β))) (hb : get σ1.b β = some (.mp k e n D none)) (hr : get σ1.b r = none)
 (hu : P.underlying t = some (.map k e)) (hK : Keyed P k)
 (h1 : G P Q st1 none ⟨(r, .one (.mx 1 r)) :: σ1.t, z0f (z0f σ1.b β .dead) r (.mp k e n D (some (Maps.has D, Maps.size D, none)))⟩) : G P Q st none σ :=
 z9c h (by simp only [opL, ho]; exact ⟨r, β, k, e, n, D, hd, hm, hb, hr, hu, hK, h1⟩)
theorem yad {r : Nat} {left : Lit → Bool} {cnt : Nat} {cur : Option (Value × Value)} (h : exec 2000 (yo.F P) st σ = .raw g σ1 o st1) (ho : o.op = .next m false) (hd : o.dst = some r) (hm : ev σ1 m = some (.one (.mx 1 β))) (hb : get σ1.b β = some (.mp k e n D (some (left, cnt, cur))))
 (hK : Keyed P k) (he : P.underlying e = some (.int q))
 (h0 : cnt = 0 → (∀ kl, left kl = false) → G P Q st1 none ⟨(r, .tup [.one (.b (.s (.bool false)))]) :: σ1.t, σ1.b⟩)
 (h1 : ∀ key kl c cnt', keyOf P k key = some kl → left kl = true → (∀ zd, D.atKey kl zd = .lit (.int q c)) → (Lit.int q c).wf = true → cnt' < cnt →
   ∃ av, y1h key = some av ∧ (∀ vs, av ≠ .tup vs) ∧ G P Q st1 none ⟨(r, .tup [.one (.b (.s (.bool true))), av, .one (.b (.s (.int q c)))]) :: σ1.t, z0f σ1.b β (.mp k e n D (some ((fun z => left z && !z.sameKey kl), cnt', some (key, .int q c))))⟩) : G P Q st none σ :=
 z9c h (by simp only [opL, ho]; exact ⟨r, β, k, e, n, D, left, cnt, cur, q, rfl, hd, hm, hb, hK, he, h0, h1⟩)
theorem y9u {r : Nat} {qk : IntKind} {left : Lit → Bool} {cnt : Nat} {cur : Option (Value × Value)} (h : exec 2000 (yo.F P) st σ = .raw g σ1 o st1) (ho : o.op = .next m false) (hd : o.dst = some r) (hm : ev σ1 m = some (.one (.mx 1 β))) (hb : get σ1.b β = some (.mp k e n D (some (left, cnt, cur))))
 (hK : Keyed P k) (hk : P.underlying k = some (.int qk)) (he : P.underlying e = some (.int q))
 (h0 : cnt = 0 → (∀ kl, left kl = false) → G P Q st1 none ⟨(r, .tup [.one (.b (.s (.bool false)))]) :: σ1.t, σ1.b⟩)
 (h1 : ∀ y c cnt', left (.int qk y) = true → (∀ zd, D.atKey (.int qk y) zd = .lit (.int q c)) → (Lit.int q c).wf = true → cnt' < cnt →
   G P Q st1 none ⟨(r, .tup [.one (.b (.s (.bool true))), .one (.b (.s (.int qk y))), .one (.b (.s (.int q c)))]) :: σ1.t, z0f σ1.b β (.mp k e n D (some ((fun z => left z && !z.sameKey (.int qk y)), cnt', some (.int qk y, .int q c))))⟩) : G P Q st none σ :=
 yad h ho hd hm hb hK he h0 (fun key kl c cnt' hkey hl hat hw hlt => by
  obtain ⟨y, rfl, rfl, _⟩ := Maps.keyOf_int_inv hk hkey
  exact ⟨.one (.b (.s (.int qk y))), rfl, fun vs h => (nomatch h), h1 y c cnt' hl hat hw hlt⟩)
theorem y9t {r : Nat} {left : Lit → Bool} {cnt : Nat} {key u : Value} {av av' : AV} (h : exec 2000 (yo.F P) st σ = .raw g σ1 o st1) (ho : o.op = .entry m) (hd : o.dst = some r) (hm : ev σ1 m = some (.one (.mx 1 β))) (hb : get σ1.b β = some (.mp k e n D (some (left, cnt, some (key, u)))))
 (h2 : y1h key = some av) (h3 : y1h u = some av') (h4 : ∀ vs, av ≠ .tup vs) (h5 : ∀ vs, av' ≠ .tup vs) (h1 : G P Q st1 none ⟨(r, .tup [av, av']) :: σ1.t, σ1.b⟩) : G P Q st none σ :=
 z9c h (by simp only [opL, ho]; exact ⟨r, β, k, e, n, D, left, cnt, key, u, av, av', hd, hm, hb, h2, h4, h3, h5, h1⟩)
end
end Go.Sx
end
section
namespace Go.Sx
open Go.RowKit
def Sh.len : Sh → Nat
 | .nil => 0
 | .i _ r => r.len + 1
 | .b r => r.len + 1
 | .l _ r => r.len + 1
def Sh.app : Sh → Sh → Sh
 | .nil, t => t
 | .i k r, t => .i k (r.app t)
 | .b r, t => .b (r.app t)
 | .l e r, t => .l e (r.app t)
theorem WT.len {N : Nat} {s : Sh} {cs : List Cell} (h : WT N s cs) : cs.length = s.len := by
 induction h with
 | nil => rfl
 | i n _ ih => simp [Sh.len, ih]
 | b x _ ih => simp [Sh.len, ih]
 | l rows _ _ _ _ ih => simp [Sh.len, ih]
theorem WT.app {N : Nat} {s t : Sh} {xs ys : List Cell} (h : WT N s xs) (k : WT N t ys) : WT N (s.app t) (xs ++ ys) := by
 induction h with
 | nil => exact k
 | i n _ ih => exact .i n ih
 | b x _ ih => exact .b x ih
 | l rows h1 h2 _ _ ih => exact .l rows h1 h2 ih
abbrev OS (P : Program) (t : TypeId) (s : Sh) : Prop := y37 P t s.len (fun a : {cs : List Cell // WT 9223372036854775807 s cs} => a.1) (fun _ => True)
abbrev OSF (P : Program) (fs : List Field) (s : Sh) : Prop := z49 P fs s.len (fun a : {cs : List Cell // WT 9223372036854775807 s cs} => a.1) (fun _ => True)
section
variable {P : Program} {t e : TypeId}
theorem OS.mk {sz : Nat} {α : Type} {f : α → List Cell} {G : α → Prop} {s : Sh} (h : y37 P t sz f G) (hz : sz = s.len) (hw : ∀ a, G a → WT 9223372036854775807 s (f a)) : OS P t s :=
 ⟨h.hsz.trans hz, fun a => a.2.len, fun enc w base spare held fuel cs x hx => by
   obtain ⟨a, h1, h2⟩ := h.get enc w base spare held fuel cs x hx
   exact ⟨⟨f a, hw a h2⟩, h1, trivial⟩⟩
theorem q9p {k : IntKind} (ht : P.underlying t = some (.int k)) (hc : P.cellsOf t = 1) : OS P t (.i k .nil) := .mk (z74 ht hc) rfl fun n _ => .i n .nil
theorem z02 {s : Sh} (ht : P.underlying t = some (.slice e)) (hc : P.cellsOf t = 1) (he : OS P e s) : OS P t (.l s .nil) := .mk (y58 ht hc he) rfl fun l hl => .l _ (by
 have h : l.length ≤ maxLen := hl.1
 rw [List.length_map]; exact h) (fun row hr => by
 obtain ⟨a, _, rfl⟩ := List.mem_map.1 hr
 exact a.2) .nil
theorem z0d {fd : Field} {s : Sh} (h : OS P fd.type s) : OSF P [fd] s := z68 h
theorem zh {fd : Field} {fs : List Field} {s t u : Sh} (h : OS P fd.type s) (k : OSF P fs t) (hu : s.app t = u) (hl : s.len + t.len = u.len) : OSF P (fd :: fs) u := by
 have hc := z58 h k
 subst hu
 refine ⟨fun a => a.2.len, fun enc w base spare held fuel cs hn hx => ?_⟩
 obtain ⟨a, h1, _⟩ := hc.2 enc w base spare held fuel cs (hn.trans hl.symm) hx
 exact ⟨⟨_, a.1.2.app a.2.2⟩, h1, trivial⟩
theorem yx {fs : List Field} {s : Sh} (ht : P.underlying t = some (.struct fs.toArray)) (hc : P.cellsOf t = s.len) (hL : Laid P 0 fs) (hF : OSF P fs s) : OS P t s :=
 z4n (fun a => a) (fun _ => rfl) (fun _ h => h) (fun b => b.2.len) ht hc hL hF
theorem z9i {fs : Array Field} {s : Sh} (ht : P.underlying t = some (.struct fs)) (he : OS P t s) {H : Type} {enc : TypeId × Value → H} {w : World} {r : Reach} {b : Nat} {v : Value} {dd : DataW H} {ps : List MemPlace}
 (hv : Value.okWide P w r b t v) (h : DataW.Trod enc P w 0 (fun _ => true) true t v dd ps) : ∃ cs : List Cell, y7j w (fun _ => True) (.agg cs) v ∧ WT 9223372036854775807 s cs := by
 obtain ⟨a, h1, _⟩ := q5w ht he hv h
 exact ⟨a.1, h1, a.2⟩
end
end Go.Sx
end
section
namespace Go.Sx
theorem gm {α β : Type} {xs : List α} {i : Nat} {x : α} (f : α → β) (h : xs[i]? = some x) : (xs.map f)[i]? = some (f x) := by rw [List.getElem?_map, h]; rfl
theorem gx {α : Type} {xs : List α} {i : Nat} (h : i < xs.length) : ∃ x, xs[i]? = some x := ⟨_, List.getElem?_eq_getElem h⟩
def scan (f : Nat → Int) : Nat → Int
 | 0 => 0
 | n + 1 => if scan f n ≠ 0 then scan f n else f n
theorem zf {f : Nat → Int} : ∀ {n : Nat}, (∀ j, j < n → f j = 0) → scan f n = 0
 | 0, _ => rfl
 | n + 1, h => by rw [scan, zf (fun j hj => h j (by omega)), h n (by omega)]; simp
theorem qy {f : Nat → Int} : ∀ {n : Nat}, scan f n = 0 → ∀ j, j < n → f j = 0
 | n + 1, h, j, hj => by
   rw [scan] at h
   split at h
   · rename_i h1; exact absurd h h1
   · rename_i h1
     have h1 : scan f n = 0 := by simpa using h1
     rcases Nat.lt_or_ge j n with h2 | h2
     · exact qy h1 j h2
     · have : j = n := by omega
       subst this; exact h
theorem z0r {f : Nat → Int} {i : Nat} (h0 : ∀ j, j < i → f j = 0) (h : f i ≠ 0) : ∀ {n : Nat}, i < n → scan f n = f i
 | n + 1, hi => by
   rw [scan]
   rcases Nat.lt_or_ge i n with h2 | h2
   · have := z0r h0 h h2
     rw [this, if_pos h]
   · have : i = n := by omega
     subst this
     rw [zf h0]; simp
theorem q8 {f : Nat → Int} {i n : Nat} {c : Int} (hi : i < n) (h0 : ∀ j, j < i → f j = 0) (hc : f i = c) (h : c ≠ 0) : c = scan f n := by rw [z0r h0 (by rw [hc]; exact h) hi, hc]
theorem qa {f : Nat → Int} {i : Nat} (h0 : ∀ j, j < i → f j = 0) (h : f i = 0) : ∀ j, j < i + 1 → f j = 0 := fun j hj => by
 rcases Nat.lt_or_ge j i with h2 | h2
 · exact h0 j h2
 · have : j = i := by omega
   subst this; exact h
theorem z0y {f g : Nat → Int} : ∀ {n : Nat}, (∀ j, j < n → (∀ k, k < j → f k = 0) → f j = g j) → scan f n = scan g n
 | 0, _ => rfl
 | n + 1, h => by
   have ih := z0y (f := f) (g := g) (n := n) (fun j hj => h j (by omega))
   rw [scan, scan, ih]
   split
   · rfl
   · rename_i h1
     have h1 : scan g n = 0 := by simpa using h1
     rw [← ih] at h1
     exact h n (by omega) (qy h1)
def within (n lo hi : Int) : Bool := decide (lo ≤ n) && decide (n ≤ hi)
theorem within_iff {n lo hi : Int} : within n lo hi = true ↔ lo ≤ n ∧ n ≤ hi := by simp [within]
def y0f (a b : Int) : Int := if a < b then -1 else if b < a then 1 else 0
def orr : List Int → Int
 | [] => 0
 | x :: xs => if x ≠ 0 then x else orr xs
abbrev ints (xs : List Int) : List (List Cell) := xs.map fun n => [i64 n]
theorem q58 : ∀ {xs : List Int} {i : Nat} {x : Int}, xs[i]? = some x → (∀ (j : Nat) (y : Int), j < i → xs[j]? = some y → y = 0) → x ≠ 0 → orr xs = x
 | y :: xs, 0, x, h, _, hx => by simp at h; subst h; rw [orr, if_pos hx]
 | y :: xs, i + 1, x, h, h0, hx => by
   rw [orr, if_neg (by simpa using h0 0 y (by omega) rfl)]
   exact q58 (by simpa using h) (fun j z hj hz => h0 (j + 1) z (by omega) (by simpa using hz)) hx
theorem q40 : ∀ {xs : List Int}, (∀ (j : Nat) (y : Int), xs[j]? = some y → y = 0) → orr xs = 0
 | [], _ => rfl
 | y :: xs, h => by
   rw [orr, if_neg (by simpa using h 0 y rfl)]
   exact q40 (fun j z hz => h (j + 1) z (by simpa using hz))
structure Leg where
 (s a b v : Int)
abbrev Leg.cs (l : Leg) : List Cell := [i64 l.s, i64 l.a, i64 l.b, i64 l.v]
def Leg.bad (l : Leg) : Bool := !(within l.s 0 2 && within l.a 0 5 && within l.b 0 2 && within l.v (-1000000000000) 1000000000000)
def Leg.fault (l : Leg) : Int := if l.bad then 3 else if l.v = 0 then 1 else 0
def Leg.same (l m : Leg) : Bool := l.s == m.s && l.a == m.a && l.b == m.b
structure Con where
 id : Int
 legs : List Leg
abbrev Con.cs (c : Con) : List Cell := [i64 c.id, .l (c.legs.map Leg.cs)]
structure Bal where
 (a b v : Int)
abbrev Bal.cs (x : Bal) : List Cell := [i64 x.a, i64 x.b, i64 x.v]
def Bal.bad (x : Bal) : Bool := !(within x.a 0 5 && within x.b 0 2 && within x.v 1 1000000000000)
def Bal.key (x : Bal) : Int := x.a * 3 + x.b
def ahead {α : Type} (lt : α → α → Bool) (xs : List α) (i : Nat) (x : α) : Bool := bif Nat.beq i 0 then true else match xs[i - 1]? with | some p => lt p x | none => true
def y2a (xs : List Bal) (i : Nat) : Int := match xs[i]? with
 | some x => if x.bad then 3 else if ahead (fun p x => decide (p.key < x.key)) xs i x then 0 else 1
 | none => 0
theorem q4y {us : List Bal} {i : Nat} {x : Bal} (hx : us[i]? = some x) (h : y2a us i = 0) : x.bad = false := by
 cases hb : x.bad with
 | false => rfl
 | true => simp [y2a, hx, hb] at h
theorem Bal.z0q {x : Bal} (h : x.bad = false) : IntKind.i64.wrap (IntKind.i64.wrap (x.a * 3) + x.b) = x.key := by
 simp [Bal.bad, within] at h
 rw [wrap_i64 (n := x.a * 3) (by omega) (by omega), wrap_i64 (by omega) (by omega)]; rfl
def zk (xs : List Bal) : Int := if 18 < xs.length then 2 else scan (y2a xs) xs.length
def hasB : List Bal → Int → Int → Int
 | [], _, _ => 0
 | x :: xs, a, b => if x.a = a ∧ x.b = b then x.v else hasB xs a b
theorem z3u : ∀ {xs : List Bal} {i : Nat} {x : Bal} {a b : Int}, xs[i]? = some x → (∀ (j : Nat) (y : Bal), j < i → xs[j]? = some y → ¬ (y.a = a ∧ y.b = b)) → x.a = a ∧ x.b = b → hasB xs a b = x.v
 | y :: xs, 0, x, a, b, h, _, hx => by simp at h; subst h; rw [hasB, if_pos hx]
 | y :: xs, i + 1, x, a, b, h, h0, hx => by
   rw [hasB, if_neg (h0 0 y (by omega) rfl)]
   exact z3u (by simpa using h) (fun j z hj hz => h0 (j + 1) z (by omega) (by simpa using hz)) hx
theorem z2u : ∀ {xs : List Bal} {a b : Int}, (∀ (j : Nat) (y : Bal), xs[j]? = some y → ¬ (y.a = a ∧ y.b = b)) → hasB xs a b = 0
 | [], _, _, _ => rfl
 | y :: xs, a, b, h => by
   rw [hasB, if_neg (h 0 y rfl)]
   exact z2u (fun j z hz => h (j + 1) z (by simpa using hz))
def q9y (xs : List Bal) (l : Leg) : Int := if hasB xs l.a l.b + l.v < 0 then 6 else if 1000000000000 < hasB xs l.a l.b + l.v then 3 else 0
def z64 (xs : List Bal) (ls : List Leg) (i : Nat) : Int := match ls[i]? with | some l => q9y xs l | none => 0
def z3a (xs : List Bal) (ls : List Leg) : Int := scan (z64 xs ls) ls.length
structure Mk where
 (c v : Int)
abbrev Mk.cs (x : Mk) : List Cell := [i64 x.c, i64 x.v]
def y0g : List Mk → Int → Int
 | [], _ => 0
 | x :: xs, c => if x.c = c then x.v else y0g xs c
theorem q15 : ∀ {xs : List Mk} {i : Nat} {x : Mk} {c : Int}, xs[i]? = some x → (∀ (j : Nat) (y : Mk), j < i → xs[j]? = some y → ¬ y.c = c) → x.c = c → y0g xs c = x.v
 | y :: xs, 0, x, c, h, _, hx => by simp at h; subst h; rw [y0g, if_pos hx]
 | y :: xs, i + 1, x, c, h, h0, hx => by
   rw [y0g, if_neg (h0 0 y (by omega) rfl)]
   exact q15 (by simpa using h) (fun j z hj hz => h0 (j + 1) z (by omega) (by simpa using hz)) hx
theorem q0u : ∀ {xs : List Mk} {c : Int}, (∀ (j : Nat) (y : Mk), xs[j]? = some y → ¬ y.c = c) → y0g xs c = 0
 | [], _, _ => rfl
 | y :: xs, c, h => by
   rw [y0g, if_neg (h 0 y rfl)]
   exact q0u (fun j z hz => h (j + 1) z (by simpa using hz))
def q1t (xs : List Mk) (i : Nat) : Int := match xs[i]? with
 | some x => if !(within x.c 1 1000000000 && within x.v 1 2) then 3 else if ahead (fun p x => decide (p.c < x.c)) xs i x then 0 else 1
 | none => 0
def qh (xs : List Mk) : Int := scan (q1t xs) xs.length
theorem qf {α : Type} {xs : List α} {i : Nat} {x : α} {p : α → Prop} (hx : xs[i]? = some x) (h : ∀ (j : Nat) (y : α), j < i → xs[j]? = some y → p y) (hp : p x) : ∀ (j : Nat) (y : α), j < i + 1 → xs[j]? = some y → p y := fun j y hj hy => by
 rcases Nat.lt_or_ge j i with h2 | h2
 · exact h j y h2 hy
 · have : j = i := by omega
   subst this; rw [hx] at hy; cases hy; exact hp
theorem qj {α : Type} {xs : List α} {i : Nat} {p : α → Prop} (hi : i = xs.length) (h : ∀ (j : Nat) (y : α), j < i → xs[j]? = some y → p y) : ∀ (j : Nat) (y : α), xs[j]? = some y → p y := fun j y hy => h j y (by have := (List.getElem?_eq_some_iff.1 hy).1; omega) hy
theorem y0i {i : Nat} (h0 : 0 < i) (h : i ≤ 9000000000000000000) : 0 ≤ IntKind.i64.wrap ((i : Int) - 1) := by rw [wrap_i64 (by omega) (by omega)]; omega
theorem y13 {α β : Type} {xs : List α} {i : Nat} {p : α} (f : α → β) (h0 : 0 < i) (h : i ≤ 9000000000000000000) (hp : xs[i - 1]? = some p) : (xs.map f)[(IntKind.i64.wrap ((i : Int) - 1)).toNat]? = some (f p) := by
 rw [wrap_i64 (by omega) (by omega), show ((i : Int) - 1).toNat = i - 1 by omega]; exact gm f hp
theorem ahead_zero {α : Type} {lt : α → α → Bool} {xs : List α} {x : α} : ahead lt xs 0 x = true := rfl
theorem q9 {α : Type} {lt : α → α → Bool} {xs : List α} {i : Nat} {x p : α} (h0 : 0 < i) (hp : xs[i - 1]? = some p) : ahead lt xs i x = lt p x := by
 unfold ahead; rw [beq_false (by omega), cond_false, hp]
theorem vi {a b : Int} (h : a = b) : Value.int .i64 a = Value.int .i64 b := by rw [h]
theorem vb {a b : Bool} (h : a = b) : Value.bool a = Value.bool b := by rw [h]
theorem ci {a b : Int} (h : a = b) : Cell.s (.int .i64 a) = Cell.s (.int .i64 b) := by rw [h]
structure Vt where
 (b v : Int)
abbrev Vt.cs (x : Vt) : List Cell := [i64 x.b, i64 x.v]
def Vt.none : Vt := ⟨-1, 0⟩
def Vt.ok (x : Vt) : Bool := within x.b 0 1000 && within x.v 1 2
structure Slt where
 (c s p lb lv : Int)
 cast : List Vt
abbrev Slt.cs (x : Slt) : List Cell := [i64 x.c, i64 x.s, i64 x.p, i64 x.lb, i64 x.lv, .l (x.cast.map Vt.cs)]
def q0y (xs : List Vt) (i : Nat) : Int := match xs[i]? with
 | some x => if !x.ok then 3 else if ahead (fun p x => !(decide (x.b < p.b) || (x.b == p.b && x.v != p.v))) xs i x then 0 else 1
 | none => 0
def y39 (xs : List Vt) : Vt := (xs[xs.length - 1]?).getD Vt.none
def Slt.fault (x : Slt) : Int :=
 if !(within x.c 1 1000000000 && within x.s 0 2 && within x.p (-1) 1000) then 3
 else if 60 < x.cast.length then 2
 else if scan (q0y x.cast) x.cast.length ≠ 0 then scan (q0y x.cast) x.cast.length
 else if ¬ (x.lb = (y39 x.cast).b ∧ x.lv = (y39 x.cast).v) ∨ x.p < x.lb then 1 else 0
def Slt.lt (p x : Slt) : Bool := if p.c = x.c then decide (p.s < x.s) else decide (p.c < x.c)
def q37 (xs : List Slt) (i : Nat) : Int := match xs[i]? with
 | some x => if x.fault ≠ 0 then x.fault else if ahead Slt.lt xs i x then 0 else 1
 | none => 0
structure Acc where
 slots : List Slt
abbrev Acc.cs (x : Acc) : List Cell := [.l (x.slots.map Slt.cs)]
def Acc.fault (x : Acc) : Int := if 60 < x.slots.length then 2 else scan (q37 x.slots) x.slots.length
def y3b : List Int → Int → List Int
 | [], v => [v]
 | x :: xs, v => if x < v then x :: y3b xs v else if x = v then x :: xs else v :: x :: xs
def qi (c : Con) (s : Int) : List Leg := c.legs.filter fun l => l.s == s
structure Shd where
 idx : Int
 bals : List Bal
 votes : List Mk
 held : List Con
 done : List Mk
 app : List Int
abbrev Shd.cs (s : Shd) : List Cell := [i64 s.idx, .l (s.bals.map Bal.cs), .l (s.votes.map Mk.cs), .l (s.held.map Con.cs), .l (s.done.map Mk.cs), .l (ints s.app)]
theorem lcr {B B' : List (Nat × AB)} : ∀ {l : List Cell}, z9n B B' (l.map .b) (l.map .b)
 | [] => trivial
 | _ :: l => ⟨rfl, lcr (l := l)⟩
def bsr (c : Nat → Bool) (i j : Nat) : Nat := if h : i < j then (if c ((i + j) / 2) then bsr c ((i + j) / 2 + 1) j else bsr c i ((i + j) / 2)) else i
termination_by j - i
theorem q9i {c : Nat → Bool} {p n : Nat} (hc : ∀ k, k < n → c k = decide (k < p)) : ∀ (i j : Nat), i ≤ p → p ≤ j → j ≤ n → bsr c i j = p := by
 intro i j
 induction h : j - i using Nat.strongRecOn generalizing i j with
 | _ m ih =>
   intro h1 h2 h3
   rw [bsr]
   split
   · have hk := hc ((i + j) / 2) (by omega)
     split
     · rename_i ht
       rw [hk] at ht
       have ht : (i + j) / 2 < p := by simpa using ht
       exact ih (j - ((i + j) / 2 + 1)) (by omega) _ _ rfl (by omega) h2 h3
     · rename_i ht
       rw [hk] at ht
       have ht : ¬ (i + j) / 2 < p := by simpa using ht
       exact ih ((i + j) / 2 - i) (by omega) _ _ rfl h1 (by omega) (by omega)
   · omega
theorem half {i j : Nat} (hi : i ≤ 1048576) (hj : j ≤ 1048576) : IntKind.i64.wrap ((IntKind.u64.wrap (IntKind.i64.wrap ((i : Int) + j))).fdiv (2 ^ (min (1 : Int).toNat IntKind.u64.bits))) = (((i + j) / 2 : Nat) : Int) := by
 have e1 : IntKind.i64.wrap ((i : Int) + j) = (i : Int) + j := wrap_i64 (by omega) (by omega)
 have e2 : IntKind.u64.wrap ((i : Int) + j) = (i : Int) + j := by simp [IntKind.wrap, IntKind.signed, IntKind.bits]; omega
 have e3 : (2 : Int) ^ (min (1 : Int).toNat IntKind.u64.bits) = 2 := by decide
 rw [e1, e2, e3]
 have e4 : ((i : Int) + j).fdiv 2 = (((i + j) / 2 : Nat) : Int) := by rw [Int.fdiv_eq_ediv_of_nonneg _ (by omega)]; omega
 rw [e4]
 exact wrap_i64 (by omega) (by omega)
def z16 {α : Type} (p : α → Bool) : List α → Int
 | [] => -1
 | x :: l => if p x then 0 else if z16 p l < 0 then -1 else z16 p l + 1
theorem y04 {α : Type} {p : α → Bool} : ∀ {l : List α} {i : Nat} {x : α}, l[i]? = some x → (∀ (j : Nat) (y : α), j < i → l[j]? = some y → p y = false) → p x = true → z16 p l = i
 | y :: l, 0, x, h, _, hx => by simp at h; subst h; rw [z16, if_pos hx]; rfl
 | y :: l, i + 1, x, h, h0, hx => by
   have ih := y04 (l := l) (by simpa using h) (fun j z hj hz => h0 (j + 1) z (by omega) (by simpa using hz)) hx
   rw [z16, if_neg (by rw [h0 0 y (by omega) rfl]; decide), ih, if_neg (by omega)]
   omega
theorem zz {α : Type} {p : α → Bool} : ∀ {l : List α}, (∀ (j : Nat) (y : α), l[j]? = some y → p y = false) → z16 p l = -1
 | [], _ => rfl
 | y :: l, h => by
   rw [z16, if_neg (by rw [h 0 y rfl]; decide), zz (l := l) (fun j z hz => h (j + 1) z (by simpa using hz))]
   rfl
theorem y0e {α : Type} {p : α → Bool} : ∀ {l : List α}, decide (z16 p l ≥ 0) = l.any p
 | [] => rfl
 | y :: l => by
   have ih := y0e (p := p) (l := l)
   rw [z16, List.any_cons]
   by_cases h : p y = true
   · rw [if_pos h, h]; rfl
   · rw [if_neg h, show p y = false by simpa using h, Bool.false_or, ← ih]
     by_cases h2 : z16 p l < 0
     · rw [if_pos h2, show decide (z16 p l ≥ 0) = false by simp; omega]; rfl
     · rw [if_neg h2, show decide (z16 p l ≥ 0) = true by simp; omega]; simp; omega
def bsC {α : Type} (f : α → Int) (us : List α) (k : Nat) : Bool := match us[k]? with | some x => decide (f x < 0) | none => false
def bsP {α : Type} (f : α → Int) (us : List α) : Nat := bsr (bsC f us) 0 us.length
def bsF {α : Type} (f : α → Int) (us : List α) : Bool := match us[bsP f us]? with | some x => f x == 0 | none => false
def bsV {α : Type} (f : α → Int) (us : List α) : Res := .tup [.own false [.s (.int .i64 (bsP f us))], .own false [.s (.bool (bsF f us))]]
theorem z6m {c : Nat → Bool} {i j : Nat} (h : i < j) (hc : c ((i + j) / 2) = true) : bsr c i j = bsr c ((i + j) / 2 + 1) j := by rw [bsr, dif_pos h, if_pos hc]
theorem q6l {c : Nat → Bool} {i j : Nat} (h : i < j) (hc : c ((i + j) / 2) = false) : bsr c i j = bsr c i ((i + j) / 2) := by rw [bsr, dif_pos h, if_neg (by rw [hc]; decide)]
theorem y4z {c : Nat → Bool} {i j : Nat} (h : ¬ i < j) : bsr c i j = i := by rw [bsr, dif_neg h]
theorem y2k {α : Type} {f : α → Int} {us : List α} {k : Nat} {x : α} (h : us[k]? = some x) : bsC f us k = decide (f x < 0) := by unfold bsC; rw [h]
theorem q2k {α : Type} {f : α → Int} {us : List α} {k : Nat} {x : α} (hk : bsP f us = k) (h : us[k]? = some x) : bsF f us = (f x == 0) := by unfold bsF; rw [hk, h]
theorem z3p {α : Type} {f : α → Int} {us : List α} {k : Nat} (hk : bsP f us = k) (h : us.length ≤ k) : bsF f us = false := by unfold bsF; rw [hk, List.getElem?_eq_none h]
theorem z8r {i j : Nat} (hi : i ≤ 1048576) (hj : j ≤ 1048576) : 0 ≤ IntKind.i64.wrap ((IntKind.u64.wrap (IntKind.i64.wrap ((i : Int) + j))).fdiv (2 ^ (min (1 : Int).toNat IntKind.u64.bits))) := by rw [half hi hj]; exact Int.natCast_nonneg _
theorem y8r {α β : Type} {us : List α} {x : α} {i j : Nat} (f : α → β) (hi : i ≤ 1048576) (hj : j ≤ 1048576) (h : us[(i + j) / 2]? = some x) : (us.map f)[(IntKind.i64.wrap ((IntKind.u64.wrap (IntKind.i64.wrap ((i : Int) + j))).fdiv (2 ^ (min (1 : Int).toNat IntKind.u64.bits)))).toNat]? = some (f x) := by
 rw [half hi hj, Int.toNat_natCast]; exact gm f h
def q08 (p x : Bal) : Int := orr [y0f p.a x.a, y0f p.b x.b]
def q48 (us : List Bal) (a b : Int) : Int := bif bsF (fun x : Bal => q08 x ⟨a, b, 0⟩) us then (match us[bsP (fun x : Bal => q08 x ⟨a, b, 0⟩) us]? with | some x => x.v | none => 0) else 0
def q7v (us : List Bal) (l : Leg) : Int := if q48 us l.a l.b + l.v < 0 then 6 else if 1000000000000 < q48 us l.a l.b + l.v then 3 else 0
def z1u (us : List Mk) (c : Int) : Int := bif bsF (fun x : Mk => y0f x.c c) us then (match us[bsP (fun x : Mk => y0f x.c c) us]? with | some x => x.v | none => 0) else 0
theorem z1x {p x : Bal} (hp : p.bad = false) (hx : x.bad = false) : (0 ≤ q08 p x) ↔ ¬ p.key < x.key := by
 simp [Bal.bad, within] at hp hx
 unfold q08 y0f orr orr orr Bal.key
 split <;> split <;> (try split) <;> (try split) <;> omega
def z3w (hs : List Con) (c : Int) : Bool := hs.any fun x => x.id == c
def q4v (a b : List Leg) : Bool := a.any fun x => b.any fun y => x.a == y.a && x.b == y.b
theorem qr {α : Type} {p : α → Bool} {l : List α} {i : Nat} {x : α} (h : l[i]? = some x) (hx : p x = true) : true = l.any p := (List.any_eq_true.2 ⟨x, List.mem_of_getElem? h, hx⟩).symm
theorem any_none {α : Type} {p : α → Bool} {l : List α} (h : ∀ (j : Nat) (y : α), l[j]? = some y → p y = false) : false = l.any p := by
 rw [eq_comm, List.any_eq_false]
 intro x hx
 obtain ⟨j, hj⟩ := List.mem_iff_getElem?.1 hx
 rw [h j x hj]; decide
theorem z0a {α : Type} {p : α → Bool} {l : List α} {i : Nat} {x : α} (h : l[i]? = some x) : (l.take (i + 1)).filter p = (l.take i).filter p ++ (if p x then [x] else []) := by
 rw [List.take_add_one, h, List.filter_append]
 simp [List.filter_cons]
theorem z8b {α : Type} {f : α → Int} {us : List α} (h : us[bsP f us]? = none) : bsF f us = false := by unfold bsF; rw [h]
theorem z4y {us : List Bal} {a b : Int} (h : bsF (fun x : Bal => q08 x ⟨a, b, 0⟩) us = false) : 0 = q48 us a b := by unfold q48; rw [h]; rfl
theorem y5i {us : List Bal} {a b : Int} {x : Bal} (h : bsF (fun x : Bal => q08 x ⟨a, b, 0⟩) us = true) (hq : us[bsP (fun x : Bal => q08 x ⟨a, b, 0⟩) us]? = some x) : x.v = q48 us a b := by unfold q48; rw [h, hq]; rfl
theorem y3y {us : List Mk} {c : Int} (h : bsF (fun x : Mk => y0f x.c c) us = false) : 0 = z1u us c := by unfold z1u; rw [h]; rfl
theorem y4k {us : List Mk} {c : Int} {x : Mk} (h : bsF (fun x : Mk => y0f x.c c) us = true) (hq : us[bsP (fun x : Mk => y0f x.c c) us]? = some x) : x.v = z1u us c := by unfold z1u; rw [h, hq]; rfl
end Go.Sx
end
section
namespace Go.Sx
def z14 (l : List Leg) (a : Int) : Int := (l.map fun x => if x.b = a then x.v else 0).sum
def y1p (l : List Leg) : Bool := decide (z14 l 0 ≠ 0) || (decide (z14 l 1 ≠ 0) || decide (z14 l 2 ≠ 0))
def q35 (l : List Leg) (i : Nat) : Int := match l[i]? with | some x => if x.fault ≠ 0 then x.fault else if (l.take i).any (fun y => y.same x) then 7 else 0 | none => 0
def qm (c : Con) : Int := if within c.id 1 1000000000 then (if 2 ≤ c.legs.length ∧ c.legs.length ≤ 8 then (if scan (q35 c.legs) c.legs.length ≠ 0 then scan (q35 c.legs) c.legs.length else if y1p c.legs then 1 else 0) else 2) else 3
theorem y7c (l : List Leg) (x : Leg) (a : Int) : z14 (l ++ [x]) a = z14 l a + if x.b = a then x.v else 0 := by simp [z14]
theorem z1z {l : List Leg} {i : Nat} {x : Leg} (h : l[i]? = some x) (a : Int) : z14 (l.take (i + 1)) a = z14 (l.take i) a + if x.b = a then x.v else 0 := by
 rw [List.take_add_one, h]; exact y7c _ _ _
def Leg.small (x : Leg) : Prop := -1000000000000 ≤ x.v ∧ x.v ≤ 1000000000000
theorem Leg.z0e {x : Leg} (h : x.fault = 0) : (0 ≤ x.s ∧ x.s ≤ 2) ∧ (0 ≤ x.a ∧ x.a ≤ 5) ∧ (0 ≤ x.b ∧ x.b ≤ 2) ∧ x.small ∧ x.v ≠ 0 := by
 unfold Leg.fault at h
 split at h
 · omega
 · rename_i hb
   split at h
   · omega
   · rename_i hv
     simp [Leg.bad, within] at hb
     unfold Leg.small
     omega
theorem q45 : ∀ (l : List Leg) (a : Int), (∀ x ∈ l, x.small) → -1000000000000 * (l.length : Int) ≤ z14 l a ∧ z14 l a ≤ 1000000000000 * (l.length : Int)
 | [], a, _ => by simp [z14]
 | x :: l, a, h => by
   have h1 := q45 l a (fun y hy => h y (List.mem_cons_of_mem _ hy))
   have h2 := h x List.mem_cons_self
   unfold Leg.small at h2
   have e : z14 (x :: l) a = (if x.b = a then x.v else 0) + z14 l a := by simp [z14]
   rw [e, List.length_cons]
   split <;> omega
theorem q4s : ∀ (l : List Leg) (a : Int), (∀ x ∈ l, x.b ≠ a) → z14 l a = 0
 | [], _, _ => rfl
 | x :: l, a, h => by
   have e : z14 (x :: l) a = (if x.b = a then x.v else 0) + z14 l a := by simp [z14]
   rw [e, if_neg (h x List.mem_cons_self), q4s l a (fun y hy => h y (List.mem_cons_of_mem _ hy))]
   rfl
theorem y1c {l : List Leg} {i : Nat} (h : ∀ j, j < i → q35 l j = 0) : ∀ x ∈ l.take i, x.fault = 0 := fun x hx => by
 obtain ⟨j, hj⟩ := List.mem_iff_getElem?.1 hx
 rw [List.getElem?_take] at hj
 split at hj
 · rename_i hlt
   have := h j hlt
   simp only [q35, hj] at this
   split at this
   · exact absurd this ‹_›
   · simp_all
 · cases hj
theorem q6b {l : List Leg} (h : ∀ a, z14 l a = 0) : y1p l = false := by simp [y1p, h]
theorem y33 {l : List Leg} (hf : ∀ x ∈ l, x.fault = 0) {a : Int} (h : z14 l a ≠ 0) : y1p l = true := by
 have : ∃ x ∈ l, x.b = a := by
  by_cases hx : ∃ x ∈ l, x.b = a
  · exact hx
  · exact absurd (q4s l a (fun x hm e => hx ⟨x, hm, e⟩)) h
 obtain ⟨x, hm, rfl⟩ := this
 have h0 := (Leg.z0e (hf x hm)).2.2.1
 have : x.b = 0 ∨ x.b = 1 ∨ x.b = 2 := by omega
 rcases this with e | e | e <;> rw [e] at h <;> simp [y1p, h]
def z4p (l : List Leg) : List (List Cell) := [[i64 (z14 l 0)], [i64 (z14 l 1)], [i64 (z14 l 2)]]
theorem y4p {l : List Leg} {b : Int} (h0 : 0 ≤ b) (h2 : b ≤ 2) : (z4p l)[b.toNat]? = some [i64 (z14 l b)] := by
 have : b = 0 ∨ b = 1 ∨ b = 2 := by omega
 rcases this with rfl | rfl | rfl <;> rfl
theorem q69 {l : List Leg} {i : Nat} {x : Leg} (hi : l[i]? = some x) (h0 : 0 ≤ x.b) (h2 : x.b ≤ 2) (hd : ∀ y ∈ l.take i, y.fault = 0) (hx : x.fault = 0) (hn : i ≤ 8) :
 (z4p (l.take i)).set x.b.toNat [i64 (IntKind.i64.wrap (z14 (l.take i) x.b + x.v))] = z4p (l.take (i + 1)) := by
 have hb := q45 (l.take i) x.b (fun y hy => (Leg.z0e (hd y hy)).2.2.2.1)
 have hs := (Leg.z0e hx).2.2.2.1
 unfold Leg.small at hs
 have hlen : (l.take i).length ≤ 8 := by rw [List.length_take]; omega
 rw [wrap_i64 (by omega) (by omega)]
 unfold z4p
 rw [z1z hi, z1z hi, z1z hi]
 have : x.b = 0 ∨ x.b = 1 ∨ x.b = 2 := by omega
 rcases this with e | e | e <;> rw [e] <;> simp
def SM (l : List Leg) (D : DataW Unit) : Prop := Maps.IsMap D ∧ ∀ a : Int, D.atKey (.int .i64 a) (.lit (.int .i64 0)) = .lit (.int .i64 (z14 l a))
theorem q9e : SM [] (.map []) := ⟨Maps.isMap_empty, fun _ => rfl⟩
theorem y55 {k : IntKind} {a b : Int} (h : (DataW.lit (.int k a) : DataW Unit) = .lit (.int k b)) : a = b := by simpa using h
theorem y6h {l : List Leg} {i : Nat} {x : Leg} {D : DataW Unit} (h : SM (l.take i) D) (hx : x.fault = 0) (hd : ∀ y ∈ l.take i, y.fault = 0) (hn : i ≤ 8) {c : Int} (hc : D.atKey (.int .i64 x.b) (.lit (.int .i64 0)) = .lit (.int .i64 c)) :
 c = z14 (l.take i) x.b ∧ IntKind.i64.wrap (c + x.v) = z14 (l.take i) x.b + x.v := by
 have e : c = z14 (l.take i) x.b := y55 (hc.symm.trans (h.2 x.b))
 have b := q45 (l.take i) x.b (fun y hy => (Leg.z0e (hd y hy)).2.2.2.1)
 have hs := (Leg.z0e hx).2.2.2.1
 unfold Leg.small at hs
 have hlen : (l.take i).length ≤ 8 := by rw [List.length_take]; omega
 refine ⟨e, ?_⟩
 rw [e, wrap_i64 (by omega) (by omega)]
theorem y8j {l : List Leg} {i : Nat} {x : Leg} {D : DataW Unit} (h : SM (l.take i) D) (hi : l[i]? = some x) (hx : x.fault = 0) (hd : ∀ y ∈ l.take i, y.fault = 0) (hn : i ≤ 8) {c : Int} (hc : D.atKey (.int .i64 x.b) (.lit (.int .i64 0)) = .lit (.int .i64 c)) :
 SM (l.take (i + 1)) (D.put (.int .i64 x.b) (.lit (.int .i64 (IntKind.i64.wrap (c + x.v))))) := by
 refine ⟨h.1.put _ _, fun a => ?_⟩
 rw [z1z hi, (y6h h hx hd hn hc).2]
 by_cases ha : x.b = a
 · rw [if_pos ha, ← ha]
   exact Maps.atKey_put_same (k := .int .i64 x.b) h.1 trivial _ _
 · rw [if_neg ha, Maps.atKey_put_other (by intro e'; injection e' with _ e'; exact ha e'.symm), h.2 a]
   simp
theorem wfi {n : Int} (h1 : -9223372036854775808 ≤ n) (h2 : n ≤ 9223372036854775807) : (Lit.int .i64 n).wf = true := by
 simp [Lit.wf, IntKind.min, IntKind.max, IntKind.signed, IntKind.bits]; omega
theorem z9p {l : List Leg} {left : Lit → Bool} {y c : Int} (h : ∀ a : Int, left (.int .i64 a) = false → z14 l a = 0) (hc : z14 l y = c) (h0 : c = 0) : ∀ a : Int, (left (.int .i64 a) && !(Lit.int .i64 a).sameKey (.int .i64 y)) = false → z14 l a = 0 := fun a ha => by
 by_cases e : a = y
 · subst e; rw [hc]; exact h0
 · refine h a ?_
   have h1 : (Lit.int IntKind.i64 a).sameKey (Lit.int IntKind.i64 y) = false := Maps.sameKey_ne (fun h => e (by injection h))
   simpa [h1] using ha
theorem z8j {l : List Leg} {D : DataW Unit} (h : SM l D) : ∀ a : Int, Maps.has D (.int .i64 a) = false → z14 l a = 0 := fun a ha => y55 ((h.2 a).symm.trans (Maps.atKey_of_not_has ha _))
theorem za3 {l : List Leg} {D : DataW Unit} (h : SM l D) {y c : Int} (hat : ∀ zd, D.atKey (.int .i64 y) zd = .lit (.int .i64 c)) : z14 l y = c := y55 ((h.2 y).symm.trans (hat _))
end Go.Sx
end
section
namespace Go.Sx
def q6h {α : Type} (f : α → Int) (us : List α) : Prop := ∀ (i j : Nat) (x y : α), i < j → us[i]? = some x → us[j]? = some y → f y ≤ 0 → f x < 0
theorem y3p {α : Type} {f : α → Int} {us : List α} (hs : q6h f us) {i : Nat} {x : α} (hx : us[i]? = some x) (h0 : f x = 0) : bsP f us = i ∧ bsF f us = true := by
 have hi : i < us.length := (List.getElem?_eq_some_iff.1 hx).1
 have hp : bsP f us = i := q9i (n := us.length) (fun k hk => by
  obtain ⟨y, hy⟩ := gx hk
  rw [y2k hy]
  rcases Nat.lt_trichotomy k i with h | h | h
  · have := hs k i y x h hy hx (by omega)
    rw [decide_eq_true this, decide_eq_true h]
  · subst h; rw [hx] at hy; cases hy; rw [decide_eq_false (by omega), decide_eq_false (by omega)]
  · have : ¬ f y < 0 := fun h1 => by have := hs i k x y h hx hy (by omega); omega
    rw [decide_eq_false this, decide_eq_false (by omega)]) 0 us.length (Nat.zero_le _) (Nat.le_of_lt hi) (Nat.le_refl _)
 refine ⟨hp, ?_⟩
 rw [q2k hp hx, h0]; rfl
theorem z4z {α : Type} {f : α → Int} {us : List α} (h : ∀ (i : Nat) (x : α), us[i]? = some x → f x ≠ 0) : bsF f us = false := by
 unfold bsF
 split
 · rename_i x hx; have := h _ x hx; simpa using this
 · rfl
theorem q3p {α : Type} {key : α → Int} {us : List α} (h : ∀ (j : Nat) (p x : α), us[j]? = some p → us[j + 1]? = some x → key p < key x) : ∀ (i j : Nat) (x y : α), i < j → us[i]? = some x → us[j]? = some y → key x < key y := by
 intro i j
 induction j with
 | zero => intro x y hij; omega
 | succ j ih =>
   intro x y hij hx hy
   have hj : j < us.length := by have := (List.getElem?_eq_some_iff.1 hy).1; omega
   obtain ⟨z, hz⟩ := gx hj
   have h1 := h j z y hz hy
   rcases Nat.lt_or_ge i j with h2 | h2
   · have := ih x z h2 hx hz; omega
   · have : i = j := by omega
     subst this; rw [hx] at hz; cases hz; exact h1
theorem y8o {a b : Int} : y0f a b ≤ 0 ↔ a ≤ b := by unfold y0f; split <;> (try split) <;> omega
theorem q8o {a b : Int} : y0f a b < 0 ↔ a < b := by unfold y0f; split <;> (try split) <;> omega
theorem y3q {a b : Int} : y0f a b = 0 ↔ a = b := by unfold y0f; split <;> (try split) <;> omega
theorem q1y {α : Type} {key : α → Int} {us : List α} (h : ∀ (i j : Nat) (x y : α), i < j → us[i]? = some x → us[j]? = some y → key x < key y) (c : Int) : q6h (fun x => y0f (key x) c) us := fun i j x y hij hx hy h0 => by
 have := h i j x y hij hx hy
 rw [y8o] at h0
 exact q8o.2 (by omega)
theorem z10 {us : List Mk} (h : qh us = 0) : ∀ (i j : Nat) (x y : Mk), i < j → us[i]? = some x → us[j]? = some y → x.c < y.c :=
 q3p (key := Mk.c) (fun j p x hp hx => by
  have hj := (List.getElem?_eq_some_iff.1 hx).1
  have := qy h (j + 1) hj
  simp only [q1t, hx] at this
  split at this
  · omega
  · split at this
    · rename_i ha
      rw [q9 (p := p) (by omega) (by simpa using hp)] at ha
      simpa using ha
    · omega)
theorem q27 {us : List Mk} (h : qh us = 0) (c : Int) : z1u us c = y0g us c := by
 by_cases hx : ∃ (i : Nat) (x : Mk), us[i]? = some x ∧ x.c = c
 · obtain ⟨i, x, hx, e⟩ := hx
   have hc := z10 h
   obtain ⟨h1, h2⟩ := y3p (q1y (key := Mk.c) hc c) hx (y3q.2 e)
   rw [← y4k h2 (by rw [h1]; exact hx)]
   exact (q15 hx (fun j y hj hy e' => by have := hc j i y x hj hy hx; omega) e).symm
 · have hn : ∀ (i : Nat) (x : Mk), us[i]? = some x → ¬ x.c = c := fun i x h1 h2 => hx ⟨i, x, h1, h2⟩
   rw [← y3y (z4z (f := fun x : Mk => y0f x.c c) (fun i x h1 => fun h2 => hn i x h1 (y3q.1 h2)))]
   exact (q0u hn).symm
theorem z21 {us : List Bal} (h : zk us = 0) : us.length ≤ 18 ∧ (∀ x ∈ us, x.bad = false) ∧ ∀ (i j : Nat) (x y : Bal), i < j → us[i]? = some x → us[j]? = some y → x.key < y.key := by
 unfold zk at h
 split at h
 · omega
 · rename_i hl
   refine ⟨by omega, fun x hx => ?_, q3p (key := Bal.key) (fun j p x hp hx => ?_)⟩
   · obtain ⟨j, hj⟩ := List.mem_iff_getElem?.1 hx
     exact q4y hj (qy h j (List.getElem?_eq_some_iff.1 hj).1)
   · have hj := (List.getElem?_eq_some_iff.1 hx).1
     have := qy h (j + 1) hj
     simp only [y2a, hx] at this
     split at this
     · omega
     · split at this
       · rename_i ha
         rw [q9 (p := p) (by omega) (by simpa using hp)] at ha
         simpa using ha
       · omega
theorem y4o {x : Bal} {a b : Int} : q08 x ⟨a, b, 0⟩ = 0 ↔ x.a = a ∧ x.b = b := by
 unfold q08 y0f orr orr orr
 dsimp only
 repeat' split
 all_goals omega
theorem y41 {x y t : Bal} (hx : x.bad = false) (hy : y.bad = false) (h : x.key < y.key) (h0 : q08 y t ≤ 0) : q08 x t < 0 := by
 simp [Bal.bad, within] at hx hy
 unfold Bal.key at h
 revert h0
 unfold q08 y0f orr orr orr
 intro h0
 repeat' split
 all_goals (repeat' split at h0)
 all_goals omega
theorem z5i {us : List Bal} (h : zk us = 0) (a b : Int) : q48 us a b = hasB us a b := by
 obtain ⟨_, hb, hc⟩ := z21 h
 by_cases hx : ∃ (i : Nat) (x : Bal), us[i]? = some x ∧ x.a = a ∧ x.b = b
 · obtain ⟨i, x, hx, e⟩ := hx
   have hs : q6h (fun x : Bal => q08 x ⟨a, b, 0⟩) us := fun i j x y hij h1 h2 h0 => y41 (hb x (List.mem_of_getElem? h1)) (hb y (List.mem_of_getElem? h2)) (hc i j x y hij h1 h2) h0
   obtain ⟨h1, h2⟩ := y3p hs hx (y4o.2 e)
   rw [← y5i h2 (by rw [h1]; exact hx)]
   exact (z3u hx (fun j y hj hy e' => by
    have h3 := hc j i y x hj hy hx
    have h4 : y.key = x.key := by unfold Bal.key; rw [e'.1, e'.2, e.1, e.2]
    omega) e).symm
 · have hn : ∀ (i : Nat) (x : Bal), us[i]? = some x → ¬ (x.a = a ∧ x.b = b) := fun i x h1 h2 => hx ⟨i, x, h1, h2⟩
   rw [← z4y (z4z (f := fun x : Bal => q08 x ⟨a, b, 0⟩) (fun i x h1 => fun h2 => hn i x h1 (y4o.1 h2)))]
   exact (z2u hn).symm
theorem q8r {us : List Bal} (h : ∀ x ∈ us, x.bad = false) (a b : Int) : 0 ≤ hasB us a b ∧ hasB us a b ≤ 1000000000000 := by
 induction us with
 | nil => simp [hasB]
 | cons y us ih =>
   rw [hasB]
   split
   · have := h y List.mem_cons_self
     simp [Bal.bad, within] at this
     omega
   · exact ih (fun x hx => h x (List.mem_cons_of_mem _ hx))
def z1h (mk : List Mk → Int → Int) (s : Shd) (i : Nat) : Int := match s.held[i]? with
 | some c => if qm c ≠ 0 then qm c else if (!(ahead (fun p x : Con => decide (p.id < x.id)) s.held i c)) || ((qi c s.idx).length == 0 || (mk s.votes c.id != 1 || mk s.done c.id != 0)) then 1 else 0
 | none => 0
def qp (mk : List Mk → Int → Int) (s : Shd) : Int := scan (z1h mk s) s.held.length
def q67 (s : Shd) (m : Mk) : Bool := m.v == 1 && (!(bsF (fun x : Con => y0f x.id m.c) s.held) && z1u s.done m.c == 0)
def z3b (s : Shd) (m : Mk) : Bool := m.v == 1 && (!(z3w s.held m.c) && y0g s.done m.c == 0)
def y65 (s : Shd) (a b : Con) : Bool := (qi a s.idx).any fun l => (qi b s.idx).any fun m => l.same m
def q1i (s : Shd) (i : Nat) : Int := match s.held[i]? with | some c => if (s.held.take i).any fun own => y65 s own c then 7 else 0 | none => 0
def y17 (s : Shd) (i : Nat) : Int := match s.held[i]? with | some c => if (s.held.take i).any fun own => q4v (qi c s.idx) (qi own s.idx) then 7 else 0 | none => 0
def z3h (us : List Bal) (ls : List Leg) (i : Nat) : Int := match ls[i]? with | some l => q7v us l | none => 0
def y1i (us : List Bal) (ls : List Leg) : Int := scan (z3h us ls) ls.length
def q60 (code : List Bal → List Leg → Int) (s : Shd) (i : Nat) : Int := match s.held[i]? with | some c => code s.bals (qi c s.idx) | none => 0
def q04 (meet : Shd → Nat → Int) (code : List Bal → List Leg → Int) (s : Shd) : Int := if scan (meet s) s.held.length ≠ 0 then scan (meet s) s.held.length else scan (q60 code s) s.held.length
end Go.Sx
end
section
namespace Go.Sx
theorem z0z {c : Con} (h : qm c = 0) : (1 ≤ c.id ∧ c.id ≤ 1000000000) ∧ (2 ≤ c.legs.length ∧ c.legs.length ≤ 8) ∧ ∀ l ∈ c.legs, l.fault = 0 := by
 unfold qm at h
 split at h
 · rename_i h1
   split at h
   · rename_i h2
     split at h
     · rename_i h3; exact absurd h h3
     · rename_i h3
       have h3 : scan (q35 c.legs) c.legs.length = 0 := by simpa using h3
       refine ⟨Go.Sx.within_iff.1 h1, h2, fun l hl => ?_⟩
       exact y1c (i := c.legs.length) (qy h3) l (by rwa [List.take_length])
   · omega
 · omega
theorem q3u {mk : List Mk → Int → Int} {s : Shd} (h : qp mk s = 0) : ∀ c ∈ s.held, qm c = 0 := fun c hc => by
 obtain ⟨j, hj⟩ := List.mem_iff_getElem?.1 hc
 have := qy h j (List.getElem?_eq_some_iff.1 hj).1
 simp only [z1h, hj] at this
 split at this
 · rename_i h1; exact absurd this h1
 · rename_i h1; simpa using h1
theorem z62 {mk : List Mk → Int → Int} {s : Shd} (h : qp mk s = 0) : ∀ (i j : Nat) (x y : Con), i < j → s.held[i]? = some x → s.held[j]? = some y → x.id < y.id :=
 q3p (key := Con.id) (fun j p x hp hx => by
  have hj := (List.getElem?_eq_some_iff.1 hx).1
  have := qy h (j + 1) hj
  simp only [z1h, hx] at this
  split at this
  · rename_i h1; exact absurd this h1
  · split at this
    · omega
    · rename_i ha
      rw [q9 (p := p) (by omega) (by simpa using hp)] at ha
      simp at ha
      exact ha.1)
theorem z6u {s : Shd} (hb : zk s.bals = 0) {c : Con} (hc : qm c = 0) : ∀ l ∈ qi c s.idx, -9000000000000000000 ≤ hasB s.bals l.a l.b + l.v ∧ hasB s.bals l.a l.b + l.v ≤ 9000000000000000000 := fun l hl => by
 have h1 := q8r (z21 hb).2.1 l.a l.b
 have h2 := (Leg.z0e ((z0z hc).2.2 l (List.mem_filter.1 hl).1)).2.2.2.1
 unfold Leg.small at h2
 omega
theorem z7s {s : Shd} (hb : zk s.bals = 0) {c : Con} (hc : qm c = 0) : ∀ l ∈ qi c s.idx, -9000000000000000000 ≤ q48 s.bals l.a l.b + l.v ∧ q48 s.bals l.a l.b + l.v ≤ 9000000000000000000 := fun l hl => by
 rw [z5i hb]; exact z6u hb hc l hl
theorem q6y {us : List Bal} (h : zk us = 0) (ls : List Leg) : y1i us ls = z3a us ls := by
 unfold y1i z3a
 refine z0y (fun j hj _ => ?_)
 unfold z3h z64
 cases ls[j]? with
 | some l => simp only [q7v, q9y, z5i h]
 | none => rfl
theorem z4h {s : Shd} (hv : qh s.votes = 0) (hd : qh s.done = 0) : qp z1u s = qp y0g s := by
 unfold qp
 refine z0y (fun j hj _ => ?_)
 unfold z1h
 split
 · rw [q27 hv, q27 hd]
 · rfl
theorem q6v {s : Shd} {mk : List Mk → Int → Int} (h : qp mk s = 0) (c : Int) : bsF (fun x : Con => y0f x.id c) s.held = z3w s.held c := by
 by_cases hx : ∃ (i : Nat) (x : Con), s.held[i]? = some x ∧ x.id = c
 · obtain ⟨i, x, hx, e⟩ := hx
   rw [(y3p (q1y (key := Con.id) (z62 h) c) hx (y3q.2 e)).2]
   exact qr hx (by simp [e])
 · have hn : ∀ (i : Nat) (x : Con), s.held[i]? = some x → ¬ x.id = c := fun i x h1 h2 => hx ⟨i, x, h1, h2⟩
   rw [z4z (f := fun x : Con => y0f x.id c) (fun i x h1 h2 => hn i x h1 (y3q.1 h2))]
   exact any_none (fun i x h1 => by simpa using hn i x h1)
theorem q65 (s : Shd) (a b : Con) : y65 s a b = q4v (qi b s.idx) (qi a s.idx) := by
 unfold y65 q4v
 rw [Bool.eq_iff_iff]
 simp only [List.any_eq_true]
 have hs : ∀ {c : Con} {l : Leg}, l ∈ qi c s.idx → l.s = s.idx := fun {c l} hl => by simpa using (List.mem_filter.1 hl).2
 constructor
 · rintro ⟨l, hl, m, hm, h⟩
   refine ⟨m, hm, l, hl, ?_⟩
   simp [Leg.same] at h ⊢
   omega
 · rintro ⟨m, hm, l, hl, h⟩
   refine ⟨l, hl, m, hm, ?_⟩
   have h1 := hs hl
   have h2 := hs hm
   simp [Leg.same] at h ⊢
   omega
theorem z5f {s : Shd} (h : zk s.bals = 0) : q04 q1i y1i s = q04 y17 z3a s := by
 have e1 : scan (q1i s) s.held.length = scan (y17 s) s.held.length := z0y (fun j _ _ => by
  unfold q1i y17
  split
  · simp only [q65]
  · rfl)
 have e2 : scan (q60 y1i s) s.held.length = scan (q60 z3a s) s.held.length := z0y (fun j _ _ => by
  unfold q60
  split
  · exact q6y h _
  · rfl)
 unfold q04
 rw [e1, e2]
def q7l (s : Shd) (i : Nat) : Int := match s.app[i]? with | some a => if y0g s.done a != 1 || ((s.app.take i).any fun y => y == a) then 1 else 0 | none => 0
def z38 (us : List Mk) : Nat := (us.filter fun m => m.v == 1).length
theorem q5y {us : List Mk} {i : Nat} {x : Mk} (h : us[i]? = some x) : z38 (us.take (i + 1)) = z38 (us.take i) + (if x.v == 1 then 1 else 0) := by
 unfold z38
 rw [z0a h, List.length_append]
 split <;> rfl
theorem q5k (us : List Mk) (i : Nat) : z38 (us.take i) ≤ i := by
 unfold z38
 exact Nat.le_trans (List.length_filter_le _ _) (by rw [List.length_take]; omega)
def q4w (s : Shd) : Bool := scan (q7l s) s.app.length == 0 && z38 s.done == s.app.length
def many (s : Shd) : Bool := decide (100 < s.votes.length) || (decide (100 < s.held.length) || (decide (100 < s.done.length) || decide (100 < s.app.length)))
def y0r (s : Shd) : Int :=
 if qp y0g s ≠ 0 then qp y0g s else if s.votes.any (z3b s) then 1 else if q4w s then q04 y17 z3a s else 1
def yj (s : Shd) : Int :=
 if within s.idx 0 2 then (if zk s.bals ≠ 0 then zk s.bals else if many s then 2 else if qh s.votes ≠ 0 then qh s.votes else if qh s.done ≠ 0 then qh s.done else y0r s) else 3
def q1o (ok : Bool) (s : Shd) : Int :=
 if within s.idx 0 2 then (if zk s.bals ≠ 0 then zk s.bals else if many s then 2 else
  if orr [qh s.votes, qh s.done, qp z1u s] ≠ 0 then orr [qh s.votes, qh s.done, qp z1u s] else
  if s.votes.any (q67 s) || !ok then 1 else q04 q1i y1i s) else 3
theorem q43 (s : Shd) : q1o (q4w s) s = yj s := by
 unfold q1o yj y0r
 split
 · split
   · rfl
   · rename_i hb
     have hb : zk s.bals = 0 := by simpa using hb
     split
     · rfl
     · simp only [orr]
       by_cases hv : qh s.votes = 0
       · by_cases hd : qh s.done = 0
         · rw [z4h hv hd, z5f hb]
           by_cases hh : qp y0g s = 0
           · have : q67 s = z3b s := by
              funext m
              unfold q67 z3b
              rw [q6v hh, q27 hd]
             rw [this]
             simp only [hv, hd, hh]
             cases s.votes.any (z3b s) <;> cases q4w s <;> simp
           · simp [hv, hd, hh]
         · simp [hv, hd]
       · simp [hv]
 · rfl
theorem z90 (s : Shd) : decide (mx (mx (mx ((s.votes.map Mk.cs).length : Nat) ((s.held.map Con.cs).length : Nat)) ((s.done.map Mk.cs).length : Nat)) ((ints s.app).length : Nat) > 100) = many s := by
 unfold many
 simp only [List.length_map, ints]
 rw [Bool.eq_iff_iff]
 simp only [Bool.or_eq_true, decide_eq_true_eq]
 unfold mx
 repeat' split
 all_goals omega
theorem yag {a b c : Int} (h : (orr [a, b, c] != 0) = false) : a = 0 ∧ b = 0 ∧ c = 0 := by
 simp only [orr] at h
 by_cases ha : a = 0 <;> by_cases hb : b = 0 <;> by_cases hc : c = 0 <;> simp_all
theorem y5r {s : Shd} {c : Int} (e : c = qp y0g s) (h : c ≠ 0) : c = y0r s := by unfold y0r; rw [if_pos (by rw [← e]; exact h)]; exact e
theorem y83 {s : Shd} (h : qp y0g s = 0) (ho : true = s.votes.any (z3b s)) : 1 = y0r s := by unfold y0r; rw [if_neg (by rw [h]; decide), if_pos ho.symm]
theorem q83 {s : Shd} (h : qp y0g s = 0) (ho : false = s.votes.any (z3b s)) (ha : q4w s = false) : 1 = y0r s := by unfold y0r; rw [if_neg (by rw [h]; decide), if_neg (by rw [← ho]; decide), if_neg (by rw [ha]; decide)]
theorem y44 {s : Shd} {c : Int} (h : qp y0g s = 0) (ho : false = s.votes.any (z3b s)) (ha : q4w s = true) (e : c = q04 y17 z3a s) : c = y0r s := by unfold y0r; rw [if_neg (by rw [h]; decide), if_neg (by rw [← ho]; decide), if_pos ha]; exact e
theorem q6d {meet : Shd → Nat → Int} {code : List Bal → List Leg → Int} {s : Shd} {c : Int} (e : c = scan (meet s) s.held.length) (h : c ≠ 0) : c = q04 meet code s := by unfold q04; rw [if_pos (by rw [← e]; exact h)]; exact e
theorem q3l {meet : Shd → Nat → Int} {code : List Bal → List Leg → Int} {s : Shd} {c : Int} (h : scan (meet s) s.held.length = 0) (e : c = scan (q60 code s) s.held.length) : c = q04 meet code s := by unfold q04; rw [if_neg (by rw [h]; decide)]; exact e
theorem q8a {t : Bool} {v : Int} (h : ((if t = true then v else 3) != 0) = false) : t = true ∧ v = 0 := by
 cases t with
 | true => exact ⟨rfl, by simpa using h⟩
 | false => simp at h
theorem y4q {s : Shd} (h : ((if within s.idx 0 2 = true then zk s.bals else 3) != 0) = true) : (if within s.idx 0 2 = true then zk s.bals else 3) = yj s := by
 unfold yj
 split
 · rename_i hw; rw [if_pos hw] at h; rw [if_pos (by simpa using h)]
 · rfl
theorem q4q {s : Shd} {c : Int} (h : within s.idx 0 2 = true ∧ zk s.bals = 0) (e : c = if many s then 2 else if qh s.votes ≠ 0 then qh s.votes else if qh s.done ≠ 0 then qh s.done else y0r s) : c = yj s := by
 unfold yj; rw [if_pos h.1, if_neg (by rw [h.2]; decide)]; exact e
end Go.Sx
end
section
namespace Go.Sx
theorem q72 {xs : List Int} : ∀ {ys : List Int}, xs.Nodup → (∀ x ∈ xs, x ∈ ys) → ∃ zs, ys.Perm (xs ++ zs) := by
 induction xs with
 | nil => intro ys _ _; exact ⟨ys, List.Perm.refl _⟩
 | cons x xs ih =>
   intro ys hn hm
   obtain ⟨hx, hn⟩ := List.nodup_cons.1 hn
   obtain ⟨zs, hz⟩ := ih (ys := ys.erase x) hn (fun y hy => (List.mem_erase_of_ne (fun e => hx (by rw [← e]; exact hy))).2 (hm y (List.mem_cons_of_mem _ hy)))
   exact ⟨zs, (List.perm_cons_erase (hm x List.mem_cons_self)).trans (hz.cons x)⟩
def dnI (us : List Mk) : List Int := (us.filter fun m => m.v == 1).map Mk.c
theorem q7p {us : List Mk} {i : Nat} {x : Mk} (h : us[i]? = some x) : dnI (us.take (i + 1)) = if x.v == 1 then dnI (us.take i) ++ [x.c] else dnI (us.take i) := by
 unfold dnI
 rw [z0a h, List.map_append]
 split
 · rfl
 · simp
theorem y6o (us : List Mk) : (dnI us).length = z38 us := by unfold dnI z38; rw [List.length_map]
theorem q18 {α : Type} {r : α → α → Prop} : ∀ {us : List α}, (∀ (i j : Nat) (x y : α), i < j → us[i]? = some x → us[j]? = some y → r x y) → us.Pairwise r
 | [], _ => List.Pairwise.nil
 | x :: us, h => List.Pairwise.cons (fun y hy => by
     obtain ⟨j, hj⟩ := List.mem_iff_getElem?.1 hy
     exact h 0 (j + 1) x y (by omega) rfl (by simpa using hj)) (q18 (us := us) (fun i j a b hij ha hb => h (i + 1) (j + 1) a b (by omega) (by simpa using ha) (by simpa using hb)))
theorem y8d {us : List Mk} (h : qh us = 0) : (dnI us).Pairwise (· < ·) := by
 unfold dnI
 rw [List.pairwise_map]
 exact (q18 (r := fun a b : Mk => a.c < b.c) (z10 h)).sublist List.filter_sublist
theorem q57 {us : List Int} (h : us.Pairwise (· < ·)) : us.Nodup := h.imp (fun h => by omega)
theorem z71 {us : List Mk} (h : qh us = 0) (c : Int) : c ∈ dnI us ↔ y0g us c = 1 := by
 unfold dnI
 rw [List.mem_map]
 constructor
 · rintro ⟨m, hm, rfl⟩
   obtain ⟨hm, hv⟩ := List.mem_filter.1 hm
   obtain ⟨i, hi⟩ := List.mem_iff_getElem?.1 hm
   rw [q15 hi (fun j y hj hy e => by have := z10 h j i y m hj hy hi; omega) rfl]
   simpa using hv
 · intro hc
   by_cases hx : ∃ (i : Nat) (x : Mk), us[i]? = some x ∧ x.c = c
   · obtain ⟨i, x, hx, e⟩ := hx
     have := q15 hx (fun j y hj hy e' => by have := z10 h j i y x hj hy hx; omega) e
     exact ⟨x, List.mem_filter.2 ⟨List.mem_of_getElem? hx, by simp; omega⟩, e⟩
   · have hn : ∀ (i : Nat) (x : Mk), us[i]? = some x → ¬ x.c = c := fun i x h1 h2 => hx ⟨i, x, h1, h2⟩
     rw [q0u hn] at hc; omega
theorem y72 : ∀ {us : List Int}, (∀ (i : Nat) (x : Int), us[i]? = some x → ¬ x ∈ us.take i) → us.Nodup := by
 intro us h
 exact q18 (fun i j x y hij hx hy e => h j y hy (by
  rw [← e]
  exact List.mem_iff_getElem?.2 ⟨i, by rw [List.getElem?_take_of_lt hij]; exact hx⟩))
theorem z7m {s : Shd} (h : qh s.done = 0) : q4w s = true ↔ (∀ x ∈ s.app, x ∈ dnI s.done) ∧ s.app.Nodup ∧ (dnI s.done).length = s.app.length := by
 unfold q4w
 rw [y6o]
 simp only [Bool.and_eq_true, beq_iff_eq]
 rw [← and_assoc]
 refine and_congr_left (fun _ => ?_)
 constructor
 · intro h0
   have hz : ∀ (i : Nat) (x : Int), s.app[i]? = some x → y0g s.done x = 1 ∧ ¬ x ∈ s.app.take i := fun i x hx => by
    have := qy h0 i (List.getElem?_eq_some_iff.1 hx).1
    simp only [q7l, hx] at this
    split at this
    · omega
    · rename_i h1
      simp at h1
      exact ⟨h1.1, h1.2⟩
   refine ⟨fun x hx => ?_, y72 fun i x hx => (hz i x hx).2⟩
   obtain ⟨i, hi⟩ := List.mem_iff_getElem?.1 hx
   exact (z71 h x).2 (hz i x hi).1
 · rintro ⟨h1, h2⟩
   refine zf (fun i hi => ?_)
   obtain ⟨x, hx⟩ := gx hi
   simp only [q7l, hx]
   rw [if_neg]
   have e := (z71 h x).1 (h1 x (List.mem_of_getElem? hx))
   have e2 : ¬ x ∈ s.app.take i := fun hm => by
    obtain ⟨j, hj⟩ := List.mem_iff_getElem?.1 hm
    have hji : j < i := by have := (List.getElem?_eq_some_iff.1 hj).1; rw [List.length_take] at this; omega
    rw [List.getElem?_take_of_lt hji] at hj
    obtain ⟨q1, q2⟩ := List.getElem?_eq_some_iff.1 hj
    obtain ⟨q3, q4⟩ := List.getElem?_eq_some_iff.1 hx
    have := (List.pairwise_iff_getElem.1 h2) j i q1 q3 hji
    exact this (by rw [q2, q4])
   simp [e]
   exact e2
def q13 (xs : List Int) : List Int := xs.mergeSort (fun a b => decide (a ≤ b))
theorem y5w {s : Shd} (h : qh s.done = 0) : (q13 s.app == dnI s.done) = q4w s := by
 rw [Bool.eq_iff_iff, z7m h, beq_iff_eq]
 unfold q13
 have hp := List.mergeSort_perm s.app (fun a b : Int => decide (a ≤ b))
 constructor
 · intro e
   rw [e] at hp
   exact ⟨fun x hx => hp.symm.subset hx, hp.nodup_iff.1 (q57 (y8d h)), hp.length_eq⟩
 · rintro ⟨h1, h2, h3⟩
   obtain ⟨zs, hz⟩ := q72 h2 h1
   have hl := hz.length_eq
   rw [List.length_append] at hl
   have hz0 : zs = [] := List.eq_nil_of_length_eq_zero (by omega)
   subst hz0
   rw [List.append_nil] at hz
   refine List.Perm.eq_of_pairwise (le := fun a b : Int => decide (a ≤ b) = true) (fun a b _ _ h1 h2 => by simp at h1 h2; omega) (List.pairwise_mergeSort (fun a b c h1 h2 => by simp at h1 h2 ⊢; omega) (fun a b => by simp; omega) _) ((y8d h).imp (fun h => by simp; omega)) (hp.trans hz.symm)
end Go.Sx
end
section
namespace Go.Sx
structure Msg where
 (k to fr c s b v ob ov : Int)
abbrev Msg.cs (m : Msg) : List Cell := [i64 m.k, i64 m.to, i64 m.fr, i64 m.c, i64 m.s, i64 m.b, i64 m.v, i64 m.ob, i64 m.ov]
structure Tr where
 (c s b v : Int)
 fr : List Int
 olds : List Vt
abbrev Tr.cs (t : Tr) : List Cell := [i64 t.c, i64 t.s, i64 t.b, i64 t.v, .l (ints t.fr), .l (t.olds.map Vt.cs)]
structure Hd where
 (c s b v f : Int)
abbrev Hd.cs (h : Hd) : List Cell := [i64 h.c, i64 h.s, i64 h.b, i64 h.v, i64 h.f]
structure Ldr where
 n : Int
 tries : List Tr
 known : List Hd
abbrev Ldr.cs (l : Ldr) : List Cell := [i64 l.n, .l (l.tries.map Tr.cs), .l (l.known.map Hd.cs)]
structure Clu where
 cons : List Con
 shs : List Shd
 accs : List Acc
 ldrs : List Ldr
 msgs : List Msg
abbrev Clu.cs (c : Clu) : List Cell := [.l (c.cons.map Con.cs), .l (c.shs.map Shd.cs), .l (c.accs.map Acc.cs), .l (c.ldrs.map Ldr.cs), .l (c.msgs.map Msg.cs)]
instance instDecidableEqLeg : DecidableEq Leg := fun x y =>
 if h : x.s = y.s ∧ x.a = y.a ∧ x.b = y.b ∧ x.v = y.v then isTrue (by cases x; cases y; simp_all) else isFalse (fun e => h (by subst e; exact ⟨rfl, rfl, rfl, rfl⟩))
def yaf (s : Shd) : Prop := s.bals.length ≤ 1048576 ∧ s.votes.length ≤ 1048576 ∧ s.held.length ≤ 1048576 ∧ s.done.length ≤ 1048576 ∧ s.app.length ≤ 1048576 ∧ ∀ c ∈ s.held, c.legs.length ≤ 1048576
def y6f (a : Acc) : Prop := a.slots.length ≤ 1048576 ∧ ∀ s ∈ a.slots, s.cast.length ≤ 1048576
def y9f (t : Tr) : Prop := t.fr.length ≤ 1048576 ∧ t.olds.length ≤ 1048576
def q8i (l : Ldr) : Prop := l.tries.length ≤ 1048576 ∧ l.known.length ≤ 1048576 ∧ ∀ t ∈ l.tries, y9f t
def q00 (c : Clu) : Prop := (c.cons.length ≤ 1048576 ∧ ∀ x ∈ c.cons, x.legs.length ≤ 1048576) ∧ (c.shs.length ≤ 1048576 ∧ ∀ s ∈ c.shs, yaf s) ∧ (c.accs.length ≤ 1048576 ∧ ∀ a ∈ c.accs, y6f a) ∧ (c.ldrs.length ≤ 1048576 ∧ ∀ l ∈ c.ldrs, q8i l) ∧ c.msgs.length ≤ 1048576
def q9k (c : Con) (s : Int) : Bool := c.legs.any fun l => l.s == s
def q09 (cs : List Con) (id : Int) : Option Con := cs.find? fun c => c.id == id
def z0u (cs : List Con) (id s : Int) : Bool := match q09 cs id with | some c => q9k c s | none => false
theorem q0z {α : Type} {p : α → Bool} : ∀ {l : List α} {x : α}, l.find? p = some x → ∃ i : Nat, z16 p l = i ∧ l[i]? = some x
 | y :: l, x, h => by
   rw [List.find?_cons] at h
   by_cases hy : p y = true
   · rw [hy] at h; cases h; exact ⟨0, by rw [z16, if_pos hy]; rfl, rfl⟩
   · rw [show p y = false by simpa using hy] at h
     obtain ⟨i, h1, h2⟩ := q0z h
     exact ⟨i + 1, by rw [z16, if_neg hy, h1, if_neg (by omega)]; omega, by simpa using h2⟩
theorem q1m {α : Type} {p : α → Bool} : ∀ {l : List α}, l.find? p = none → z16 p l = -1
 | [], _ => rfl
 | y :: l, h => by
   rw [List.find?_cons] at h
   by_cases hy : p y = true
   · rw [hy] at h; cases h
   · rw [show p y = false by simpa using hy] at h
     rw [z16, if_neg hy, q1m h]; rfl
theorem q64 (c : Con) (s : Int) : decide (0 < (qi c s).length) = q9k c s := by
 unfold qi q9k
 rw [Bool.eq_iff_iff, decide_eq_true_eq, List.length_pos_iff_exists_mem, List.any_eq_true]
 simp only [List.mem_filter]
theorem y3z {x v : Int} : ∀ {l : List Int}, x ∈ y3b l v ↔ x = v ∨ x ∈ l
 | [] => by simp [y3b]
 | y :: l => by
   rw [y3b]
   split
   · rw [List.mem_cons, y3z (l := l), List.mem_cons]
     constructor
     · rintro (h | h | h) <;> simp [h]
     · rintro (h | h | h) <;> simp [h]
   · split
     · rename_i h; subst h; simp
     · simp
theorem z59 {v : Int} : ∀ {l : List Int} {i : Nat}, i ≤ l.length → (∀ (j : Nat) (x : Int), j < i → l[j]? = some x → x < v) → (∀ x, l[i]? = some x → ¬ x < v) → y3b l v = if l[i]? = some v then l else l.take i ++ v :: l.drop i
 | [], i, hi, _, _ => by
   have : i = 0 := by simpa using hi
   subst this; rfl
 | y :: l, 0, _, _, h1 => by
   have hy := h1 y rfl
   rw [y3b, if_neg hy]
   by_cases e : y = v
   · subst e; simp
   · rw [if_neg e, if_neg (by simpa using e)]; rfl
 | y :: l, i + 1, hi, h0, h1 => by
   have hy := h0 0 y (by omega) rfl
   rw [y3b, if_pos hy, z59 (l := l) (i := i) (by simpa using hi) (fun j x hj hx => h0 (j + 1) x (by omega) (by simpa using hx)) (fun x hx => h1 x (by simpa using hx))]
   simp only [List.getElem?_cons_succ]
   split
   · rfl
   · simp
theorem z76 {v : Int} : ∀ {l : List Int}, l.Pairwise (· < ·) → (y3b l v).Pairwise (· < ·)
 | [], _ => by simp [y3b]
 | x :: l, h => by
   obtain ⟨h1, h2⟩ := List.pairwise_cons.1 h
   rw [y3b]
   split
   · rename_i hx
     refine List.pairwise_cons.2 ⟨fun y hy => ?_, z76 h2⟩
     rcases y3z.1 hy with rfl | hy
     · exact hx
     · exact h1 y hy
   · split
     · exact h
     · refine List.pairwise_cons.2 ⟨fun y hy => ?_, h⟩
       rcases List.mem_cons.1 hy with rfl | hy
       · omega
       · have := h1 y hy; omega
theorem y1l {l : List Int} {v : Int} {i : Nat} (hs : l.Pairwise (· < ·)) (h0 : ∀ (j : Nat) (x : Int), j < i → l[j]? = some x → x < v) (h1 : ∀ x, l[i]? = some x → ¬ x < v) : l.contains v = (l[i]? == some v) := by
 rw [Bool.eq_iff_iff, List.contains_iff_mem, beq_iff_eq]
 constructor
 · intro hm
   obtain ⟨j, hj⟩ := List.mem_iff_getElem?.1 hm
   rcases Nat.lt_trichotomy j i with h | h | h
   · have := h0 j v h hj; omega
   · subst h; exact hj
   · obtain ⟨hj1, hj2⟩ := List.getElem?_eq_some_iff.1 hj
     have hi : i < l.length := by omega
     have := (List.pairwise_iff_getElem.1 hs) i j hi hj1 h
     have := h1 l[i] (List.getElem?_eq_getElem hi)
     omega
 · exact fun h => List.mem_of_getElem? h
theorem q5p {v : Int} : ∀ {l : List Int}, l.Pairwise (· < ·) → l.contains v = true → y3b l v = l
 | [], _, h => by simp at h
 | x :: l, hs, h => by
   obtain ⟨h1, h2⟩ := List.pairwise_cons.1 hs
   rw [y3b]
   by_cases e : x = v
   · rw [if_neg (by omega), if_pos e]
   · have hm : v ∈ l := by
      rw [List.contains_iff_mem] at h
      rcases List.mem_cons.1 h with rfl | h
      · exact absurd rfl e
      · exact h
     rw [if_pos (h1 v hm), q5p h2 (by rw [List.contains_iff_mem]; exact hm)]
def shF (ls : List Leg) : List Int := ls.foldl (fun l x => y3b l x.s) []
theorem z5r {ls : List Leg} {i : Nat} {x : Leg} (h : ls[i]? = some x) : shF (ls.take (i + 1)) = y3b (shF (ls.take i)) x.s := by
 unfold shF
 rw [List.take_add_one, h, List.foldl_append]; rfl
theorem q2w {x : Int} : ∀ {ls : List Leg} {l : List Int}, x ∈ ls.foldl (fun l x => y3b l x.s) l ↔ x ∈ l ∨ ∃ y ∈ ls, y.s = x
 | [], l => by simp
 | y :: ls, l => by
   rw [List.foldl_cons, q2w (ls := ls), y3z]
   constructor
   · rintro ((h | h) | ⟨z, h, e⟩)
     · exact .inr ⟨y, List.mem_cons_self, h.symm⟩
     · exact .inl h
     · exact .inr ⟨z, List.mem_cons_of_mem _ h, e⟩
   · rintro (h | ⟨z, h, e⟩)
     · exact .inl (.inr h)
     · rcases List.mem_cons.1 h with rfl | h
       · exact .inl (.inl e.symm)
       · exact .inr ⟨z, h, e⟩
theorem z97 (c : Con) (s : Int) : (shF c.legs).any (fun y => y == s) = q9k c s := by
 unfold q9k shF
 rw [Bool.eq_iff_iff, List.any_eq_true, List.any_eq_true]
 simp only [q2w, List.not_mem_nil, false_or, beq_iff_eq]
 constructor
 · rintro ⟨x, ⟨y, h, e⟩, e2⟩; exact ⟨y, h, by rw [e, e2]⟩
 · rintro ⟨y, h, e⟩; exact ⟨s, ⟨y, h, e⟩, rfl⟩
theorem y7z {l : List Int} {v : Int} : (y3b l v).length ≤ l.length + 1 := by
 induction l with
 | nil => simp [y3b]
 | cons x l ih =>
   rw [y3b]
   split
   · simp; omega
   · split <;> simp
theorem y29 : ∀ (ls : List Leg) (i : Nat), (shF (ls.take i)).length ≤ i
 | ls, 0 => by simp [shF]
 | ls, i + 1 => by
   cases h : ls[i]? with
   | some x => rw [z5r h]; have := y29 ls i; have := y7z (l := shF (ls.take i)) (v := x.s); omega
   | none => rw [List.take_add_one, h]; simp; have := y29 ls i; omega
theorem q5q (ls : List Leg) : (shF ls).Pairwise (· < ·) := by
 unfold shF
 have : ∀ (ls : List Leg) (l : List Int), l.Pairwise (· < ·) → (ls.foldl (fun l x => y3b l x.s) l).Pairwise (· < ·) := by
  intro ls
  induction ls with
  | nil => intro l h; exact h
  | cons y ls ih => intro l h; exact ih _ (z76 h)
 exact this ls [] List.Pairwise.nil
def toN (c : Clu) (m : Msg) : Nat := if m.k = 1 ∨ m.k = 6 then c.shs.length else if m.k = 3 ∨ m.k = 5 then c.ldrs.length else c.accs.length
def frN (c : Clu) (m : Msg) : Nat := if m.k = 4 then c.ldrs.length else c.accs.length
def ends (c : Clu) (m : Msg) : Bool := within m.to 0 ((toN c m : Int) - 1) && (decide (m.k < 3) || decide (5 < m.k) || within m.fr 0 ((frN c m : Int) - 1))
def Msg.shd (m : Msg) : Int := if m.k = 1 ∨ m.k = 6 then m.to else m.s
def ranges (c : Clu) (m : Msg) : Bool := z0u c.cons m.c m.shd && (!(decide (2 ≤ m.k) && decide (m.k ≤ 5)) || within m.b 0 1000) && (!(m.k == 2 || m.k == 3 || m.k == 6) || within m.v 1 2) && (!(m.k == 5) || (m.ob == -1 && m.ov == 0) || (Vt.ok ⟨m.ob, m.ov⟩))
def Msg.bare (m : Msg) : Msg :=
 ⟨m.k, m.to, if 3 ≤ m.k ∧ m.k ≤ 5 then m.fr else 0, m.c, if 2 ≤ m.k ∧ m.k ≤ 5 then m.s else 0, if 2 ≤ m.k ∧ m.k ≤ 5 then m.b else 0, if m.k = 2 ∨ m.k = 3 ∨ m.k = 6 then m.v else 0, if m.k = 5 then m.ob else 0, if m.k = 5 then m.ov else 0⟩
def Msg.same (m n : Msg) : Bool := m.k == n.k && m.to == n.to && m.fr == n.fr && m.c == n.c && m.s == n.s && m.b == n.b && m.v == n.v && m.ob == n.ob && m.ov == n.ov
def q0e (c : Clu) (m : Msg) : Int :=
 if !(within m.k 1 6) then 5 else if !(ends c m) then 3 else if (q09 c.cons m.c).isNone then 4 else if !(ranges c m) then 3 else if !(m.same m.bare) then 1 else 0
def q9a (c : Clu) (x : Con) : Bool := x.legs.any fun l => !(within l.s 0 ((c.shs.length : Int) - 1))
def z09 (c : Clu) (i : Nat) : Int := match c.cons[i]? with
 | some x => if qm x ≠ 0 then qm x else if q9a c x then 4 else if ahead (fun p x : Con => decide (p.id < x.id)) c.cons i x then 0 else 1
 | none => 0
def Con.same (a b : Con) : Bool := a.id == b.id && decide (a.legs = b.legs)
def z2k (c : Clu) (h : Con) : Bool := match q09 c.cons h.id with | some x => !(x.same h) | none => true
def y84 (c : Clu) (i : Nat) (s : Shd) : Int :=
 if yj s ≠ 0 then yj s
 else if s.idx ≠ i then 1
 else if (s.votes.any fun m => !(z0u c.cons m.c i)) || (s.done.any fun m => !(z0u c.cons m.c i)) then 1
 else if s.held.any (z2k c) then 1 else 0
def y1y (c : Clu) (i : Nat) : Int := match c.shs[i]? with | some s => y84 c i s | none => 0
def q8j (c : Clu) (a : Acc) : Int := if a.fault ≠ 0 then a.fault else if a.slots.any (fun s => !(z0u c.cons s.c s.s)) then 4 else 0
def q2g (c : Clu) (i : Nat) : Int := match c.accs[i]? with | some a => q8j c a | none => 0
def z0n (fr : List Int) (j : Nat) : Int := match fr[j]? with | some x => if (fr.take j).any (fun y => y == x) then 7 else 0 | none => 0
def Tr.lt (p x : Tr) : Bool := if p.c = x.c then decide (p.s < x.s) else decide (p.c < x.c)
def q1l (c : Clu) (p : Int) : Bool := !(within p 0 ((c.accs.length : Int) - 1))
def z0m (v : Vt) : Bool := !(v.b == -1 && v.v == 0) && !v.ok
def z6e (c : Clu) (t : Tr) : Int := if t.fr.any (q1l c) || t.olds.any z0m then 3 else scan (z0n t.fr) t.fr.length
def z4w (c : Clu) (ts : List Tr) (i : Nat) (t : Tr) : Int :=
 if !(z0u c.cons t.c t.s) then 4
 else if !(within t.b 1 1000 && within t.v 0 2) then 3
 else if !(ahead Tr.lt ts i t) || t.fr.length != t.olds.length then 1
 else z6e c t
def q36 (c : Clu) (ts : List Tr) (i : Nat) : Int := match ts[i]? with | some t => z4w c ts i t | none => 0
def Hd.cmp (p x : Hd) : Int := orr [y0f p.c x.c, y0f p.s x.s, y0f p.b x.b, y0f p.v x.v, y0f p.f x.f]
def Hd.lt (p x : Hd) : Bool := decide (Hd.cmp p x < 0)
def hdF (c : Clu) (ks : List Hd) (i : Nat) : Int := match ks[i]? with
 | some h => if !(z0u c.cons h.c h.s) then 4 else if !(within h.b 0 1000 && within h.v 1 2 && within h.f 0 ((c.accs.length : Int) - 1)) then 3 else if ahead Hd.lt ks i h then 0 else 1
 | none => 0
def z6y (c : Clu) (l : Ldr) : Int :=
 if !(within l.n 0 400) then 3 else if 60 < l.tries.length ∨ 300 < l.known.length then 2 else orr [scan (q36 c l.tries) l.tries.length, scan (hdF c l.known) l.known.length]
def y2h (c : Clu) (i : Nat) : Int := match c.ldrs[i]? with | some l => z6y c l | none => 0
def z40 (c : Clu) (i : Nat) : Int := match c.msgs[i]? with | some m => q0e c m | none => 0
def y0s (c : Clu) : Bool := decide (20 < c.cons.length) || !(within c.shs.length 1 3) || !(within c.accs.length 1 5) || c.ldrs.length != 2 || decide (200 < c.msgs.length)
def qq (c : Clu) : Int := if y0s c then 2 else orr [scan (z09 c) c.cons.length, scan (y1y c) c.shs.length, scan (q2g c) c.accs.length, scan (y2h c) c.ldrs.length, scan (z40 c) c.msgs.length]
end Go.Sx
end
section
namespace Go.Sx
theorem z57 {ls : List Leg} {x : Int} : x ∈ shF ls ↔ ∃ y ∈ ls, y.s = x := by
 unfold shF
 rw [q2w]
 simp
theorem y43 {ls : List Leg} (h : 0 < ls.length) : ∃ y, (shF ls)[(shF ls).length - 1]? = some y ∧ 0 < (shF ls).length ∧ (∃ l ∈ ls, l.s = y) ∧ ∀ l ∈ ls, l.s ≤ y := by
 obtain ⟨l0, hl0⟩ := gx h
 have hm : l0.s ∈ shF ls := z57.2 ⟨l0, List.mem_of_getElem? hl0, rfl⟩
 have hp : 0 < (shF ls).length := List.length_pos_of_mem hm
 obtain ⟨y, hy⟩ := gx (xs := shF ls) (i := (shF ls).length - 1) (by omega)
 refine ⟨y, hy, hp, z57.1 (List.mem_of_getElem? hy), fun l hl => ?_⟩
 obtain ⟨j, hj⟩ := List.mem_iff_getElem?.1 (z57.2 ⟨l, hl, rfl⟩)
 obtain ⟨hj1, hj2⟩ := List.getElem?_eq_some_iff.1 hj
 obtain ⟨hy1, hy2⟩ := List.getElem?_eq_some_iff.1 hy
 rcases Nat.lt_or_ge j ((shF ls).length - 1) with h1 | h1
 · have := (List.pairwise_iff_getElem.1 (q5q ls)) j ((shF ls).length - 1) hj1 hy1 h1
   rw [hj2, hy2] at this
   omega
 · have e : j = (shF ls).length - 1 := by omega
   subst e
   rw [hj] at hy
   cases hy
   exact Int.le_refl _
theorem z7v {ls : List Leg} {y n : Int} (h0 : ∀ l ∈ ls, 0 ≤ l.s) (e : ∃ l ∈ ls, l.s = y) (hm : ∀ l ∈ ls, l.s ≤ y) : decide (y ≥ n) = ls.any fun l => !(within l.s 0 (n - 1)) := by
 rw [Bool.eq_iff_iff, decide_eq_true_eq, List.any_eq_true]
 constructor
 · intro h
   obtain ⟨l, hl, e⟩ := e
   exact ⟨l, hl, by simp [within]; omega⟩
 · rintro ⟨l, hl, h⟩
   have h1 := h0 l hl
   have h2 := hm l hl
   simp [within] at h
   omega
theorem q9j {x : Con} (h : qm x = 0) : ∀ l ∈ x.legs, 0 ≤ l.s := fun l hl => by
 have := (z0z h).2.2 l hl
 have h1 := (Leg.z0e this).1
 omega
theorem y14 {x : Con} (h : qm x = 0) : 0 < x.legs.length ∧ x.legs.length ≤ 8 := by
 have := (z0z h).2.1
 omega
def y63 (x : Con) : Int := ((shF x.legs)[(shF x.legs).length - 1]?).getD 0
theorem q4j {x : Con} (h : qm x = 0) : (ints (shF x.legs))[(IntKind.i64.wrap (((ints (shF x.legs)).length : Int) - 1)).toNat]? = some [i64 (y63 x)] := by
 obtain ⟨y, hy, hp, _⟩ := y43 (y14 h).1
 have hl := y29 x.legs x.legs.length
 rw [List.take_length] at hl
 have := (y14 h).2
 rw [show (ints (shF x.legs)).length = (shF x.legs).length by simp]
 unfold y63
 rw [hy]
 exact y13 (fun n => [i64 n]) hp (by omega) hy
theorem q6x {x : Con} (h : qm x = 0) : 0 ≤ IntKind.i64.wrap (((ints (shF x.legs)).length : Int) - 1) := by
 obtain ⟨y, hy, hp, _⟩ := y43 (y14 h).1
 have hl := y29 x.legs x.legs.length
 rw [List.take_length] at hl
 have := (y14 h).2
 rw [show (ints (shF x.legs)).length = (shF x.legs).length by simp]
 exact y0i hp (by omega)
theorem y6x {x : Con} (h : qm x = 0) (c : Clu) : q9a c x = decide ((c.shs.length : Int) ≤ y63 x) := by
 unfold q9a
 obtain ⟨y, hy, hp, e, hm⟩ := y43 (y14 h).1
 rw [← z7v (q9j h) (y := y63 x) (by unfold y63; rw [hy]; exact e) (by unfold y63; rw [hy]; exact hm)]
theorem y2n {s : Shd} (h : yj s = 0) : ∀ x ∈ s.held, qm x = 0 := by
 have : qp y0g s = 0 := by
  unfold yj y0r at h
  repeat' split at h
  all_goals first | omega | (simp_all; done)
 exact q3u this
theorem q44 {c : Clu} {i : Nat} {s : Shd} (h : yj s = 0) (hi : s.idx = i) : y84 c i s = if (s.votes.any fun m => !(z0u c.cons m.c i)) || (s.done.any fun m => !(z0u c.cons m.c i)) then 1 else if s.held.any (z2k c) then 1 else 0 := by
 unfold y84
 rw [if_neg (by simpa using h), if_neg (by simpa using hi)]
end Go.Sx
end
section
namespace Go.Sx
theorem q74 : ∀ {l : List Int}, orr l = 0 → ∀ x ∈ l, x = 0
 | [], _, x, hx => by cases hx
 | y :: l, h, x, hx => by
   rw [orr] at h
   split at h
   · rename_i h1; exact absurd h h1
   · rename_i h1
     rcases List.mem_cons.1 hx with rfl | hx
     · simpa using h1
     · exact q74 h x hx
theorem y4c {c : Clu} (h : qq c = 0) : y0s c = false ∧ (∀ i, i < c.cons.length → z09 c i = 0) ∧ (∀ i, i < c.shs.length → y1y c i = 0) ∧ (∀ i, i < c.accs.length → q2g c i = 0) ∧ (∀ i, i < c.ldrs.length → y2h c i = 0) ∧ ∀ i, i < c.msgs.length → z40 c i = 0 := by
 unfold qq at h
 split at h
 · omega
 · rename_i hm
   have ha := q74 h
   exact ⟨by simpa using hm, fun i hi => qy (ha _ (by simp)) i hi, fun i hi => qy (ha _ (by simp)) i hi, fun i hi => qy (ha _ (by simp)) i hi, fun i hi => qy (ha _ (by simp)) i hi, fun i hi => qy (ha _ (by simp)) i hi⟩
theorem q6m {c : Clu} (h : qq c = 0) {i : Nat} {x : Con} (hx : c.cons[i]? = some x) : qm x = 0 ∧ q9a c x = false ∧ ahead (fun p x : Con => decide (p.id < x.id)) c.cons i x = true := by
 have := (y4c h).2.1 i (List.getElem?_eq_some_iff.1 hx).1
 simp only [z09, hx] at this
 split at this
 · rename_i h1; exact absurd this h1
 · rename_i h1
   split at this
   · omega
   · rename_i h2
     split at this
     · rename_i h3; exact ⟨by simpa using h1, by simpa using h2, h3⟩
     · omega
theorem q1k {c : Clu} (h : qq c = 0) {x : Con} (hx : x ∈ c.cons) : qm x = 0 ∧ q9a c x = false := by
 obtain ⟨i, hi⟩ := List.mem_iff_getElem?.1 hx
 exact ⟨(q6m h hi).1, (q6m h hi).2.1⟩
theorem z2q {cs : List Con} {id : Int} {x : Con} (h : q09 cs id = some x) : x ∈ cs ∧ x.id = id := by
 unfold q09 at h
 exact ⟨List.mem_of_find?_eq_some h, by have := List.find?_some h; simpa using this⟩
theorem z3q {c : Clu} (h : qq c = 0) {i : Nat} {s : Shd} (hs : c.shs[i]? = some s) : yj s = 0 ∧ s.idx = i ∧ (∀ m ∈ s.votes, z0u c.cons m.c i = true) ∧ (∀ m ∈ s.done, z0u c.cons m.c i = true) ∧ ∀ x ∈ s.held, z2k c x = false := by
 have := (y4c h).2.2.1 i (List.getElem?_eq_some_iff.1 hs).1
 simp only [y1y, hs, y84] at this
 split at this
 · rename_i h1; exact absurd this h1
 · rename_i h1
   split at this
   · omega
   · rename_i h2
     split at this
     · omega
     · rename_i h3
       split at this
       · omega
       · rename_i h4
         simp only [Bool.or_eq_true, not_or, Bool.not_eq_true, List.any_eq_false, Bool.not_eq_eq_eq_not, Bool.not_false, Bool.not_true] at h3
         exact ⟨by simpa using h1, by simpa using h2, fun m hm => by simpa using h3.1 m hm, fun m hm => by simpa using h3.2 m hm, fun x hx => by simpa using (by simpa using h4 : ∀ x ∈ s.held, z2k c x = false) x hx⟩
end Go.Sx
end
