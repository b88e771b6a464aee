/- WHAT IS PROVED: parts of the proof of fnExactReplayOrder_holds: a frame for walks, what each Go function that it reaches answers, and plain lemmas; no condition beyond those that each theorem names. -/
import Derived.Test.YtohbmmpkcibnpaaGreatCRo3
import Derived.WalkKit
import Derived.OrdersHeld
import Derived.DeepKeys
import Derived.Maps.RangeWalk
import Derived.Maps.OwnOps
import Derived.WideKeyEntry
import Derived.Deep.Slices
import Derived.ChangeArms
import Derived.WideShapes
import Derived.Sort.AssemblyPlain
import Derived.Lib.SlicesCompact
import Derived.WideKeyPair
set_option linter.unusedVariables false
set_option linter.unusedSimpArgs false
section
namespace Go.Sx
open Go.RowKit (Below)
section
variable {g : Bool} {P : Program} {F : TT} {σ : St} {o : Oper} {K : St → Prop}
theorem z3f {x : Operand} {f : AV → R} (h : (evR σ x f).holds P K) : ∃ av, ev σ x = some av ∧ (f av).holds P K := by
 unfold evR at h; split at h
 · rename_i av hav; exact ⟨av, hav, h⟩
 · exact h.elim
theorem q4a {z : AV} (h : z8n z = true) : yc2 z := by cases z <;> first | trivial | cases h
theorem ycd {z : AV} (h : z8n z = true) : (match (generalizing := false) z with | .tup _ => False | _ => True) := by cases z <;> first | trivial | cases h
theorem z4t {x : Option Operand} {r : Option Int} (h : yat x σ = some r) : q3i x σ = some r := h
theorem q6s {x : Operand} {K' : AV → Prop} (h : (evR σ x fun av => z0x σ o.dst av).holds P K) (hK : ∀ av, K (σ.put o.dst av) → K' av) : evK σ x K' := by
 obtain ⟨av, h1, h2⟩ := z3f h; unfold evK; rw [h1]; exact hK _ (y1t.1 h2)
theorem yaw {t : Nat} {av : AV} {f : Value → R} {K' : Value → Prop} (hF : F = F.map P) (hf : ∀ v, (f v).holds P K → K' v) (h : (yca F σ t av f).holds P K) : qca P t σ av K' := by
 unfold yca at h; split at h
 · obtain ⟨_, h1, h2⟩ := yh h; exact ⟨by rw [q0n hF h1]; rfl, hf _ h2⟩
 · obtain ⟨_, h1, h2⟩ := yh h; exact ⟨by rw [q0n hF h1]; rfl, hf _ h2⟩
 · obtain ⟨_, h1, h2⟩ := yh h; exact ⟨by rw [q0n hF h1]; rfl, hf _ h2⟩
 · obtain ⟨_, h1, h2⟩ := yh h; exact ⟨by rw [q0n hF h1]; rfl, hf _ h2⟩
 · obtain ⟨h1, h2⟩ := zc h; exact ⟨z4j hF h1, hf _ h2⟩
 · obtain ⟨_, h1, h2⟩ := yh h
   refine ⟨by rw [q0n hF h1]; rfl, ?_⟩; split at h2
   · rename_i full sz ep rows hg
     obtain ⟨h3, row, h4, h5⟩ := h2; rw [hg]; refine ⟨h3, ?_⟩; rw [h4]; dsimp only at h5 ⊢; split at h5
     · rename_i rs hrs; rw [y2f] at hrs; rw [hrs]; exact hf _ h5
     · exact h5.elim
   · exact h2.elim
 · exact h.elim
theorem ycb {av : AV} {ag : Bool} {n : Nat} (h : (y6r σ av fun cs => (match ag with
 | true => qt (q3z n cs) (y0m (force (cs.take n)) fun cs => z0x σ o.dst (.agg cs))
 | false => (match cs with | [] => .fail | c :: _ => z0x σ o.dst (.one c)))).holds P K) : y1y σ av fun cs => match y49 ag n cs with | some r => K (σ.put o.dst r) | none => False := by
 refine z81 (fun cs h => ?_) h; split at h
 · obtain ⟨h1, h2⟩ := zc h
   obtain ⟨cs', h3, h4⟩ := yh h2; rw [force_eq h3] at h4; simp only [y49, if_true, if_pos (z0z h1)]; exact y1t.1 h4
 · split at h
   · exact h.elim
   · exact y1t.1 h
theorem yes {av : AV} (h : (z0x σ o.dst av).holds P K) : K (σ.put o.dst av) := y1t.1 h
theorem z96 {d : Option Tmp} {cs : List AC} (h : (yc3 σ d cs).holds P K) : z1i σ d cs K := by
 unfold yc3 at h; unfold z1i; split at h
 · split at h
   · rename_i hn; dsimp only; rw [hn]; exact qy h
   · exact h.elim
 · exact h.elim
theorem qaw (hF : F = F.map P) {t n : Nat} {ps : List (Nat × Operand)} {d : Option Tmp} (h : (zcb F σ t n ps d).holds P K) : zbq P σ t n ps d K := by
 unfold zcb at h; unfold zbq; split at h
 · rename_i d sz by_ rws h1 h2
   rw [z04 hF h1, q3l h2]; dsimp only; split at h
   · rename_i hn
     rw [hn]; dsimp only; obtain ⟨g1, h⟩ := zc h; obtain ⟨g2, h⟩ := zc h; obtain ⟨g3, h⟩ := zc h; obtain ⟨g4, h⟩ := zc h; obtain ⟨g5, h⟩ := zc h; obtain ⟨g6, h⟩ := h; obtain ⟨rs, g7, h⟩ := yh h; rw [y4q] at g4 g5; have h := qy h; rw [y4q, q36, q6v g7] at h; rw [q36] at g6; exact ⟨y18 g1, Nat.le_of_ble_eq_true g2, z5a g3, z6 g4, y37 (z3l g5), g6, h⟩
   · exact h.elim
 · exact h.elim
theorem yax (hF : F = F.map P) {t : Nat} {l c : Operand} {d : Option Tmp} (h : (qcb F σ t l c d).holds P K) : q8k P σ t l c d K := by
 unfold qcb at h; unfold q8k; split at h
 · rename_i d sz by_ zrow k n k' n' h1 h2 h3 h4
   rw [z04 hF h1, q7u hF h2, h3, h4]; dsimp only; split at h
   · rename_i hn
     rw [hn]; dsimp only; obtain ⟨g1, g2, g3, g4, g5, h⟩ := zc h; exact ⟨g2, g3, g4, g5, y18 g1, qy h⟩
   · exact h.elim
 · exact h.elim
theorem q8y (hF : F = F.map P) {t : Nat} {β m i k : Nat} {x : AV} (h : (z5t F σ t (.one (.e β m i k)) x).holds P K) : y5s P σ t (.one (.e β m i k)) x K := by
 unfold z5t at h; unfold y5s; split at h
 · rename_i n β m i k x h1 he
   cases he; rw [z34 hF h1]; dsimp only; split at h
   · rename_i full sz ep rows hg
     rw [hg]; dsimp only; obtain ⟨g1, h⟩ := zc h; obtain ⟨g2, h⟩ := zc h; obtain ⟨g3, h⟩ := zc h; obtain ⟨g4, h⟩ := zc h; obtain ⟨g5, row, g6, g7, g8, h⟩ := h; obtain ⟨xs, g9, h⟩ := yh h; have h := qy h; rw [y4q] at g3 g4 h; rw [q4v g9] at h; refine ⟨g5, ?_⟩; rw [g6]; refine ⟨y18 g2, ?_, g7, z6 g3, y37 (z3l g4), g8, h⟩; exact ycd g1
   · exact h.elim
 · rename_i he; cases he
 · rename_i he; cases he
 · exact h.elim
theorem z8z (hF : F = F.map P) {t : Nat} {p x : AV} (hne : ∀ β m i k, p ≠ .one (.e β m i k)) (h : (z5t F σ t p x).holds P K) : q5s P σ t p x K := by
 unfold z5t at h; unfold q5s; split at h
 · exact absurd rfl (hne _ _ _ _)
 · rename_i β off c h1
   split at h
   · rename_i cs hg
     simp only [z34 hF h1, hg]; obtain ⟨g1, h⟩ := zc h; obtain ⟨cs', g2, h⟩ := yh h; rw [force_eq g2] at h; exact ⟨z0z g1, qy h⟩
   · exact h.elim
 · rename_i n β off xs h1
   split at h
   · rename_i cs hg
     simp only [z34 hF h1, hg]; obtain ⟨g0, h⟩ := zc h; obtain ⟨g1, h⟩ := zc h; obtain ⟨cs', g2, h⟩ := yh h; rw [force_eq g2] at h; exact ⟨y18 g0, z0z g1, qy h⟩
   · exact h.elim
 · exact h.elim
theorem q9c (hF : F = F.map P) {c : Call} (ho : o.op = .call c) (h : (yaj g F σ o c).holds P K) : opL g P σ o K := by
 unfold yaj at h; split at h
 · rename_i hc
   simp only [opL, ho, hc, opY]; split at h
   · rename_i t _ x ht hx
     obtain ⟨av, h1, h2⟩ := z3f h; rw [ht, hx]; simp only [evK, h1]; exact yaw hF (fun v hv => yes hv) h2
   · exact h.elim
 · rename_i hc
   simp only [opL, ho, hc]; split at h
   · rename_i t tx s x d ht hx hd
     unfold zc0; rw [ht, hx, hd]; dsimp only; split at h
     · rename_i sz by_ p β n γ m e1 e2 e3 e4
       rw [z04 hF e1, z04 hF e2, e3, e4]; dsimp only; split at h
       · rename_i full0 sz0 ep rows0 full sz1 ep1 rows e5 e6
         rw [e5, e6]; dsimp only; obtain ⟨g1, h⟩ := zc h; obtain ⟨g2, h⟩ := zc h; obtain ⟨g3, h⟩ := zc h; obtain ⟨g4, g5, h⟩ := h; refine ⟨g4, g5, Nat.eq_of_beq_eq_true g1, Nat.eq_of_beq_eq_true g2, Nat.ne_of_beq_eq_false (z3l g3), ?_⟩; split at h
         · obtain ⟨g6, g7, g8, h⟩ := h
           exact ⟨g7, g8, false, .inl rfl, .inr ⟨rfl, g6⟩, qy h⟩
         · obtain ⟨g6, g7, g8, h⟩ := h
           exact ⟨g7, g8, _, g6, .inl rfl, qy h⟩
       · exact h.elim
     · rename_i sz by_ p β n rows e1 e2 e3 e4
       rw [z04 hF e1, z04 hF e2, e3, e4]; dsimp only; split at h
       · rename_i full0 sz0 ep rows0 e5
         rw [e5]; dsimp only; obtain ⟨g1, h⟩ := zc h; obtain ⟨g4, g5, h⟩ := h; refine ⟨g4, Nat.eq_of_beq_eq_true g1, g5, ?_⟩; split at h
         · rename_i e6
           obtain ⟨g7, g8, h⟩ := h; exact ⟨g7, g8, false, .inr (z94 e6), nofun, qy h⟩
         · obtain ⟨g6, g7, g8, h⟩ := h
           exact ⟨g7, g8, _, .inl rfl, g6, qy h⟩
       · exact h.elim
     · rename_i sz by_ p γ m e1 e2 e3 e4
       rw [z04 hF e1, z04 hF e2, e3, e4]; dsimp only; split at h
       · rename_i full sz1 ep1 rows e5 e6
         rw [e5, e6]; dsimp only; obtain ⟨g1, h⟩ := zc h; obtain ⟨g2, h⟩ := zc h; obtain ⟨g4, g5, g6, h⟩ := h; exact ⟨g4, Nat.eq_of_beq_eq_true g1, Nat.ne_of_beq_eq_false (z3l g2), g5, g6, qy h⟩
       · exact h.elim
     · rename_i sz by_ p γ m e1 e2 e3 e4
       rw [z04 hF e1, z04 hF e2, e3, e4]; dsimp only; split at h
       · rename_i full sz1 ep1 rows e5 e6
         rw [e5, e6]; dsimp only; obtain ⟨g1, h⟩ := zc h; obtain ⟨g2, h⟩ := zc h; obtain ⟨g4, g5, g6, h⟩ := h; exact ⟨g4, Nat.eq_of_beq_eq_true g1, Nat.ne_of_beq_eq_false (z3l g2), g5, g6, qy h⟩
       · exact h.elim
     · rename_i sz by_ p rows e1 e2 e3 e4
       rw [z04 hF e1, z04 hF e2, e3, e4]; dsimp only; split at h
       · rename_i e5
         rw [e5]; dsimp only; obtain ⟨g4, g5, g6, g7, h⟩ := h; exact ⟨g4, g5, g6, g7, qy h⟩
       · exact h.elim
     · rename_i sz by_ p rows e1 e2 e3 e4
       rw [z04 hF e1, z04 hF e2, e3, e4]; dsimp only; split at h
       · rename_i e5
         rw [e5]; dsimp only; obtain ⟨g4, g5, g6, g7, h⟩ := h; exact ⟨g4, g5, g6, g7, qy h⟩
       · exact h.elim
     · exact h.elim
   · exact h.elim
 · rename_i x hc
   simp only [opL, ho, hc]; split at h
   · rename_i f caps avs e1 e2
     rw [e1, e2]; obtain ⟨avs', h1, h2⟩ := yh h; rw [force_eq h1] at h2; exact h2
   · rename_i f caps avs e1 e2
     rw [e1, e2]; obtain ⟨avs', h1, h2⟩ := yh h; rw [force_eq h1] at h2; exact h2
   · rename_i f β off avs e1 e2
     rw [e1, e2]; exact h
   · rename_i f ag row avs e1 e2
     rw [e1, e2]; exact h
   · exact h.elim
 · rename_i hc
   simp only [opL, ho, hc, opY]; split at h
   · rename_i x y hx
     rw [hx]; dsimp only; split at h
     · rename_i e1 e2; rw [e1, e2]; exact yes h
     · exact h.elim
   · rename_i x y z t hx
     rw [hx]; dsimp only; split at h
     · rename_i e1 e2 e3 e4; rw [e1, e2, e3, e4]; exact yes h
     · exact h.elim
   · exact h.elim
 · rename_i hc
   simp only [opL, ho, hc, opY]; split at h
   · rename_i x y hx
     rw [hx]; dsimp only; split at h
     · rename_i e1 e2; rw [e1, e2]; exact yes h
     · exact h.elim
   · exact h.elim
 · exact h
theorem za9 (hF : F = F.map P) (h : (opR g F σ o).holds P K) : opL g P σ o K := by
 unfold opR at h; split at h
 case h_1 x ho => simp only [opL, ho, opY]; exact q6s h (fun _ hk => hk)
 case h_2 x ho => simp only [opL, ho, opY]; exact q6s h (fun _ hk => hk)
 case h_3 c x y ho =>
  simp only [opL, ho, opY]; split at h
  · rename_i t ht
    rw [ht]; exact ⟨fun hb => q6s (x := if (true : Bool) then x else y) (h.1 hb) (fun _ hk => hk), fun hb => q6s (x := if (false : Bool) then x else y) (h.2 hb) (fun _ hk => hk)⟩
  · exact h.elim
 case h_4 t x ho =>
  simp only [opL, ho, opY]; split at h
  · rename_i av ag n h1 h2
    rw [h1, z34 hF h2]; exact ycb h
  · exact h.elim
 case h_5 op t x y yt ho =>
  split at h
  · rename_i p q h1 h2
    simp only [opL, ho, opY, h1, h2]; obtain ⟨g1, h⟩ := zc h; refine ⟨q98 hF g1, ?_⟩; unfold z7z; split at h
    · exact yes h
    · exact yes h
    · exact h.elim
  · rename_i u v hne h1 h2
    simp only [opL, ho, opY]; split
    · rename_i e1 e2
      rw [h1] at e1; rw [h2] at e2; cases e1; cases e2; exact (hne _ _ rfl rfl).elim
    · rename_i u' v' _ e1 e2
      rw [h1] at e1; rw [h2] at e2; cases e1; cases e2; exact yai (fun v hv => yes hv) h
    · rename_i e1 e2
      rw [h1] at e1; cases e1
    · rename_i e1 e2
      rw [h1] at e1; cases e1
    · rename_i _ hx _ _
      exact (hx _ _ h1 h2).elim
  · rename_i rows h1 h2
    simp only [opL, ho, opY, h1, h2]; obtain ⟨sz, g1, h⟩ := yh h; obtain ⟨e, _, g2, _⟩ := z0y (q0n hF g1); refine ⟨⟨e, g2⟩, fun b hb => ?_⟩; split at h
    · exact yes (h b hb)
    · exact yes (h b hb)
    · exact h.elim
  · rename_i cs cs' h1 h2
    simp only [opL, ho, opY, h1, h2]; obtain ⟨ks, g1, h⟩ := yh h; obtain ⟨xs, g2, h⟩ := yh h; obtain ⟨ys, g3, h⟩ := yh h; obtain ⟨g4, h⟩ := zc h; obtain ⟨g5, h⟩ := zc h; simp only [yae, z99 hF g1, g2, g3]; refine ⟨q3g g4, q3g g5, ?_⟩; split at h
    · exact yes h
    · exact yes h
    · exact h.elim
  · exact h
 case h_6 op t x ho =>
  simp only [opL, ho, opY]; split at h
  · rename_i b hb; rw [hb]; exact yes h
  · rename_i k n hn; rw [hn]; exact yes h
  · exact h.elim
 case h_7 s d x ho =>
  split at h
  · rename_i k0 n k h1 h2
    simp only [opL, ho, opY, h1, zac hF h2]; obtain ⟨g1, h⟩ := zc h; exact ⟨q99 hF g1, yes h⟩
  · exact h
 case h_8 s x f ho =>
  simp only [opL, ho, opY]; split at h
  · rename_i row off h1 h2
    rw [h1, y39 hF h2]; obtain ⟨g1, h⟩ := zc h; obtain ⟨r, g2, h⟩ := yh h; rw [force_eq g2] at h; exact ⟨z0z g1, yes h⟩
  · rename_i β i off h1 h2
    rw [h1, y39 hF h2]; exact yes h
  · rename_i β m i k off h1 h2
    rw [h1, y39 hF h2]; exact yes h
  · exact h.elim
 case h_9 s x f ho =>
  simp only [opL, ho, opY]; split at h
  · rename_i cs off n h1 h2
    rw [h1, q33 hF h2]; obtain ⟨g1, h⟩ := zc h; obtain ⟨r, g2, h⟩ := yh h; rw [force_eq g2] at h; exact ⟨z0z g1, yes h⟩
  · rename_i cs off n h1 h2
    rw [h1, q33 hF h2]; obtain ⟨c, g2, h⟩ := yh h; rw [y2f] at g2; dsimp only; rw [g2]; exact yes h
  · exact h.elim
 case h_10 t x i ho =>
  split at h
  · rename_i rows k n sz h1 h2 h3
    simp only [opL, ho, opY, h1, h2, q0n hF h3]; obtain ⟨g1, row, g2, g3, h⟩ := h; refine ⟨g1, ?_⟩; rw [g2]; exact ⟨g3, yes h⟩
  · rename_i β m k n sz h1 h2 h3
    simp only [opL, ho, opY, h1, h2, q0n hF h3]; split at h
    · rename_i full sz0 ep rows hg
      rw [hg]; obtain ⟨g0, g1, row, g2, g3, h⟩ := h; refine ⟨g0, g1, ?_⟩; rw [g2]; exact ⟨g3, yes h⟩
    · exact h.elim
  · exact h
 case h_11 t x i ho =>
  simp only [opL, ho, opY]; split at h
  · rename_i s k n h1 h2
    rw [h1, h2]; obtain ⟨g1, h⟩ := zc h; obtain ⟨g2, b, g3, h⟩ := h; refine ⟨z4j hF g1, g2, ?_⟩; rw [g3]; exact yes h
  · exact h.elim
 case h_12 t x lo hi ho =>
  split at h
  · rename_i s l hh h1 h2 h3
    simp only [opL, ho, opY, h1, z4t h2, z4t h3]; obtain ⟨g1, g2, g3, g4, h⟩ := zc h; exact ⟨z4j hF g1, g2, g3, g4, yes h⟩
  · rename_i rows l hh h1 h2 h3
    simp only [opL, ho, opY, h1, z4t h2, z4t h3]; obtain ⟨sz, g0, g1, g2, g3, g4, h⟩ := yh h; rw [q0n hF g0]; exact ⟨g1, g2, g3, g4, yes h⟩
  · exact h
 case h_13 x i ho =>
  simp only [opL, ho, opY]; split at h
  · rename_i vs h1
    obtain ⟨av, g1, h⟩ := yh h; rw [y2f] at g1; rw [h1]; dsimp only; rw [g1]; exact yes h
  · exact h.elim
 case h_14 f first caps ho =>
  simp only [opL, ho, opY]; split at h
  · rename_i x hf hc
    rw [hf, hc]; dsimp only; split at h
    · rename_i e1; rw [e1]; exact yes h
    · rename_i e1; rw [e1]; exact yes h
    · rename_i cs e1
      rw [e1]; obtain ⟨l, g1, h⟩ := yh h; dsimp only; rw [g1]; exact yes h
    · exact h.elim
  · rename_i hf
    rw [hf]; dsimp only
    cases hcs : z77 σ caps.toList with
    | some cs =>
      rw [hcs] at h; have e := (y4l (σ := σ) (l := caps.toList)).symm.trans hcs; split
      · rename_i cs' h'
        have := h'.symm.trans e; cases this; exact yes h
      · rename_i h'
        have := h'.symm.trans e; cases this
    | none =>
      rw [hcs] at h; obtain ⟨cs, g1, h⟩ := yh h; have e := (y4l (σ := σ) (l := caps.toList)).symm.trans hcs; have e2 := z6r g1; split
      · rename_i cs' h'
        have := h'.symm.trans e; cases this
      · split
        · rename_i cs' h'
          have := h'.symm.trans e2; cases this; exact yes h
        · rename_i h'
          have := h'.symm.trans e2; cases this
  · exact h.elim
 case h_15 t ps ho =>
  cases g1 : q5x F t with
  | none => rw [g1] at h; exact h
  | some z =>
    rw [g1] at h; simp only [opL, ho, opY]; obtain ⟨cs, g2, h⟩ := yh h; rw [y73 hF g1]; dsimp only; rw [y4p hF g2]; exact yes h
 case h_16 e ho =>
  simp only [opL, ho]; split at h
  · rename_i z hz
    obtain ⟨g1, h⟩ := zc h; rw [z7u hF hz]; exact ⟨q4a g1, z96 h⟩
  · exact h.elim
 case h_17 e x ho =>
  simp only [opL, ho]; split at h
  · rename_i z hz
    obtain ⟨g1, h⟩ := zc h; rw [hz]; exact ⟨q4a g1, z96 h⟩
  · exact h.elim
 case h_18 t p x ho =>
  simp only [opL, ho]; split at h
  · rename_i pv xv hd h1 h2
    refine ⟨hd, ?_⟩; rw [h1, h2]; split
    · rename_i e1 e2; cases e1; cases e2; exact q8y hF h
    · rename_i pv' xv' hne e1 e2
      cases e1; cases e2; exact z8z hF (fun β m i k e => hne β m i k e) h
    · rename_i hx; exact (hx _ _ rfl rfl).elim
  · exact h.elim
 case h_19 t n ps ho => simp only [opL, ho]; exact qaw hF h
 case h_20 t l c ho => simp only [opL, ho]; exact yax hF h
 case h_21 c ho => exact q9c hF ho h
 case h_22 x ho =>
  simp only [opL, ho, opY]; obtain ⟨av, g1, h⟩ := z3f h; rw [g1]; split at h
  · exact yes h
  · exact yes h
  · exact yes h
  · exact h.elim
 case h_23 => exact h
end
inductive Fr where
 | ops (ops : Array Oper) (l : List Oper)
 | op1 (g : Bool) (o : Oper)
 | r (r : R)
 | code (c : Code)
 | blk (id : Nat)
 | lp (J : St → Prop)
 | plan (ops : Array Oper) (LC : List Nat) (p : q73)
def G (P : Program) (Q : Ex → St → Prop) : List Fr → Option Nat → St → Prop
 | [], none, σ => Q .normal σ
 | [], some i, σ => Q (.exit i) σ
 | .blk j :: st, some i, σ => if i = j then G P Q st none σ else G P Q st (some i) σ
 | _ :: st, some i, σ => G P Q st (some i) σ
 | .ops ops l :: st, none, σ => yb3 P ops l σ (G P Q st none)
 | .op1 g o :: st, none, σ => opL g P σ o (G P Q st none)
 | .r r :: st, none, _ => r.holds P (G P Q st none)
 | .code c :: st, none, σ => vc P c (fun e σ => match e with | .normal => G P Q st none σ | .exit i => G P Q st (some i) σ | .ret => Q .ret σ) σ
 | .blk _ :: st, none, σ => G P Q st none σ
 | .lp J :: _, none, σ => J σ
 | .plan ops LC p :: st, none, σ => z3n LC P ops p σ (G P Q st none)
inductive T where
 | go (st : List Fr) (σ : St)
 | br (t : Bool) (st : List Fr) (σ : St) (st' : List Fr) (σ' : St)
 | side (p : Prop) (st : List Fr) (σ : St)
 | any (q : Bool → Prop) (f : Bool → R) (st : List Fr)
 | row (rows : List (List Cell)) (i : Nat) (f : List Cell → R) (st : List Fr)
 | byte (s : ByteArray) (i : Nat) (f : UInt8 → R) (st : List Fr)
 | call (g : Bool) (σ : St) (d : Option Tmp) (f : Nat) (avs : List AV) (st : List Fr)
 | raw (g : Bool) (σ : St) (o : Oper) (st : List Fr)
 | loop (b : Code) (st : List Fr) (σ : St)
 | cont (J : St → Prop) (σ : St)
 | draw (id : Nat) (ops : Array Oper) (st : List Fr) (σ : St)
 | both (st st' : List Fr) (σ : St)
 | yes
 | fin (e : Ex) (σ : St)
 | fail
def T.holds (P : Program) (Q : Ex → St → Prop) : T → Prop
 | .go st σ => G P Q st none σ
 | .br t st σ st' σ' => (t = true → G P Q st none σ) ∧ (t = false → G P Q st' none σ')
 | .side p st σ => p ∧ G P Q st none σ
 | .any q f st => ∀ b, q b → (f b).holds P (G P Q st none)
 | .row rows i f st => ∃ row, rows[i]? = some row ∧ (f row).holds P (G P Q st none)
 | .byte s i f st => ∃ b, s[i]? = some b ∧ (f b).holds P (G P Q st none)
 | .call g σ d f avs st => y4i P σ d f avs (G P Q st none) ∨ (g = true ∧ z4i P σ d f avs (G P Q st none))
 | .raw g σ o st => opL g P σ o (G P Q st none)
 | .loop b st σ => vc P (.loop b) (fun e σ => match e with | .normal => G P Q st none σ | .exit i => G P Q st (some i) σ | .ret => Q .ret σ) σ
 | .cont J σ => J σ
 | .draw id ops st σ => vc P (.region id ops true) (fun e σ => match e with | .normal => G P Q st none σ | .exit i => G P Q st (some i) σ | .ret => Q .ret σ) σ
 | .both st st' σ => G P Q st none σ ∧ G P Q st' none σ
 | .yes => True
 | .fin e σ => Q e σ
 | .fail => False
def q8p (i : Nat) : List Fr → Option (List Fr)
 | [] => none
 | .blk j :: st => bif Nat.beq i j then some st else q8p i st
 | _ :: st => q8p i st
def qc5 (σ : St) (d : Option Tmp) : St := match σ, d with
 | ⟨t, b⟩, some d => ⟨(d, .tup []) :: t, b⟩
 | σ, none => σ
def skR (σ : St) (d : Option Tmp) : R := match qc5 σ d with | ⟨t, b⟩ => (match force t with | some t => .ok ⟨t, b⟩ | none => .fail)
theorem q3q {P : Program} {σ : St} {d : Option Tmp} {K : St → Prop} (h : (skR σ d).holds P K) : K (qc5 σ d) := by
 unfold skR at h; split at h; rename_i t b e; split at h
 · rename_i t' ht; rw [force_eq ht] at h; rw [e]; exact h
 · exact h.elim
def y4b (g : Bool) (F : TT) (ops : Array Oper) (o : Oper) (st : List Fr) (σ : St) : T := match o.guard with
    | none => .go (.r (opR g F σ o) :: st) σ
    | some (j, want) => (match nth ops.toList j with
      | some o' => (match o'.dst with
        | some d => (match get σ.t d with
          | some (.one (.b (.s (.bool t)))) => (match want with
            | true => .br t (.op1 g o :: st) (z3z σ (.tmp d) true) (.r (skR (z3z σ (.tmp d) false) o.dst) :: st) ⟨[], []⟩
            | false => .br t (.r (skR (z3z σ (.tmp d) true) o.dst) :: st) ⟨[], []⟩ (.op1 g o :: st) (z3z σ (.tmp d) false))
          | some (.tup []) => .go (.r (skR σ o.dst) :: st) ⟨[], []⟩
          | _ => .fail)
        | none => .fail)
      | none => .fail)
def step (F : TT) : List Fr → St → T
 | [], σ => .fin .normal σ
 | .ops _ [] :: st, σ => .go st σ
 | .ops ops (o :: l) :: st, σ => y4b true F ops o (.ops ops l :: st) σ
 | .op1 g o :: st, σ => .go (.r (opR g F σ o) :: st) σ
 | .r r :: st, σ => (match r with
   | .fail => .fail
   | .ok σ => .go st σ
   | .side p r => .side p (.r r :: st) σ
   | .br t r r' => .br t (.r r :: st) σ (.r r' :: st) σ
   | .any q f => .any q f st
   | .row rows i f => .row rows i f st
   | .byte s i f => .byte s i f st
   | .call g σ d f avs => .call g σ d f avs st
   | .raw g σ o => .raw g σ o st)
 | .code c :: st, σ => (match c with
   | .skip => .go st σ
   | .region id ops draw => (match draw with | true => .draw id ops st σ | false => .go (.ops ops ops.toList :: st) σ)
   | .seq x y => .go (.code x :: .code y :: st) σ
   | .cond c x y => (match ev σ c with
     | some (.one (.b (.s (.bool t)))) => .br t (.code x :: st) (z3z σ c true) (.code y :: st) (z3z σ c false)
     | _ => .fail)
   | .block id b => .go (.code b :: .blk id :: st) σ
   | .loop b => .loop b st σ
   | .exit id => (match q8p id st with | some st => .go st σ | none => .fail)
   | .ret => .fin .ret σ
   | _ => .fail)
 | .blk _ :: st, σ => .go st σ
 | .lp J :: _, σ => .cont J σ
 | .plan ops LC p :: st, σ => (match p with
   | .done => .go st σ
   | .nil => .yes
   | .take i _ p => (match nth ops.toList i with | some o => y4b (LC.contains i) F ops o (.plan ops LC p :: st) σ | none => .fail)
   | .alt i p .nil => (match nth ops.toList i with | some o => y4b (LC.contains i) F ops o (.plan ops LC p :: st) σ | none => .fail)
   | .alt i p q => .both (.plan ops LC (.alt i p .nil) :: st) (.plan ops LC q :: st) σ)
def exec : Nat → TT → List Fr → St → T
 | 0, _, st, σ => .go st σ
 | n + 1, F, st, σ => match step F st σ with
   | .go st σ => exec n F st σ
   | t => t
section
variable {P : Program} {F : TT} {Q : Ex → St → Prop}
theorem z1k {i : Nat} {σ : St} : ∀ {st st' : List Fr}, q8p i st = some st' → G P Q st' none σ → G P Q st (some i) σ
 | [], st', h, _ => by cases h
 | .blk j :: st, st', h, hg => by
   rw [q8p] at h; rw [G]; by_cases hij : i = j
   · subst hij; simp only [Nat.beq_refl, cond_true, Option.some.injEq] at h; subst h; rw [if_pos rfl]; exact hg
   · rw [beq_false hij] at h; rw [if_neg hij]; exact z1k h hg
 | .ops _ _ :: st, st', h, hg => z1k (st := st) h hg
 | .op1 _ _ :: st, st', h, hg => z1k (st := st) h hg
 | .r _ :: st, st', h, hg => z1k (st := st) h hg
 | .code _ :: st, st', h, hg => z1k (st := st) h hg
 | .lp _ :: st, st', h, hg => z1k (st := st) h hg
 | .plan _ _ _ :: st, st', h, hg => z1k (st := st) h hg
theorem z5n {g : Bool} (hF : F = F.map P) {ops : Array Oper} {o : Oper} {st : List Fr} {σ : St} (h : (y4b g F ops o st σ).holds P Q) : z47 ops σ o (fun σ => opL g P σ o (G P Q st none)) (fun σ => q6h σ o.dst (G P Q st none)) := by
 simp only [y4b] at h; unfold z47; split at h
 · rename_i hg; rw [hg]; exact za9 hF h
 · rename_i j want hg
   rw [hg]; dsimp only; split at h
   · rename_i o' ho'
     rw [y2f, Array.getElem?_toList] at ho'; split at h
     · rename_i d hd
       rw [ho']; simp only [Option.bind_some, hd]; split at h
       · rename_i t ht
         rw [ht]; dsimp only
         have hsk : ∀ (σ0 : St) (K : St → Prop), K (qc5 σ0 o.dst) → q6h σ0 o.dst K := fun σ0 K hk => by
          unfold q6h
          cases σ0 with
          | mk t0 b0 =>
          cases hdd : o.dst with
          | none => rw [hdd] at hk; exact hk
          | some d0 =>
            rw [hdd] at hk; exact hk
         cases σ with
         | mk t0 b0 =>
         split at h
         · obtain ⟨h1, h2⟩ := h
           exact ⟨fun hb => by simp only [beq_self_eq_true, if_true]; exact h1 hb, fun hb => by
            have : ¬ ((false == true) = true) := by decide
            dsimp only; rw [if_neg this]; exact hsk _ _ (q3q (h2 hb))⟩
         · obtain ⟨h1, h2⟩ := h
           exact ⟨fun hb => by
            have : ¬ ((true == false) = true) := by decide
            dsimp only; rw [if_neg this]; exact hsk _ _ (q3q (h1 hb)), fun hb => by simp only [beq_self_eq_true, if_true]; exact h2 hb⟩
       · rename_i ht
         rw [ht]; have h' := q3q (P := P) (K := G P Q st none) h; unfold q6h
         cases σ with
         | mk t0 b0 =>
         cases hdd : o.dst with
         | none => rw [hdd] at h'; exact h'
         | some d0 => rw [hdd] at h'; exact h'
       · exact h.elim
     · exact h.elim
   · exact h.elim
theorem zb7 (hF : F = F.map P) {st : List Fr} {σ : St} (h : (step F st σ).holds P Q) : G P Q st none σ := by
 cases st with
 | nil => exact h
 | cons f st =>
   cases f with
   | ops ops l =>
     cases l with
     | nil => exact h
     | cons o l =>
       exact z5n (st := .ops ops l :: st) hF h
   | op1 g o => exact za9 hF h
   | r r => cases r <;> exact h
   | code c =>
     cases c with
     | skip => exact h
     | region id ops draw =>
       cases draw with
       | true => exact h
       | false => exact h
     | seq x y =>
       have e : (fun (e : Ex) (σ : St) => match e with | .normal => G P Q (.code y :: st) none σ | .exit i => G P Q (.code y :: st) (some i) σ | .ret => Q .ret σ) =
        (fun e σ => match e with | .normal => vc P y (fun e σ => match e with | .normal => G P Q st none σ | .exit i => G P Q st (some i) σ | .ret => Q .ret σ) σ | .exit i => G P Q st (some i) σ | .ret => Q .ret σ) := by
        funext e σ; cases e <;> rfl
       have h' : vc P x (fun (e : Ex) (σ : St) => match e with | .normal => G P Q (.code y :: st) none σ | .exit i => G P Q (.code y :: st) (some i) σ | .ret => Q .ret σ) σ := h; rw [e] at h'; exact .inl h'
     | cond c x y =>
       simp only [step] at h; simp only [G, vc]; split at h
       · rename_i t ht; rw [ht]; exact h
       · exact h.elim
     | block id b =>
       have e : (fun (e : Ex) (σ : St) => match e with | .normal => G P Q (.blk id :: st) none σ | .exit i => G P Q (.blk id :: st) (some i) σ | .ret => Q .ret σ) =
        (fun e σ => match e with | .normal => G P Q st none σ | .exit i => if i = id then G P Q st none σ else G P Q st (some i) σ | .ret => Q .ret σ) := by
        funext e σ; cases e <;> rfl
       have h' : vc P b (fun (e : Ex) (σ : St) => match e with | .normal => G P Q (.blk id :: st) none σ | .exit i => G P Q (.blk id :: st) (some i) σ | .ret => Q .ret σ) σ := h; rw [e] at h'; exact h'
     | loop b => exact h
     | exit id =>
       simp only [step] at h; split at h
       · rename_i st' hp; exact z1k hp h
       · exact h.elim
     | ret => exact h
     | _ => exact h.elim
   | blk id => exact h
   | lp J => exact h
   | plan ops LC p =>
     have one : ∀ {i : Nat} {p' : q73}, (match nth ops.toList i with | some o => y4b (LC.contains i) F ops o (.plan ops LC p' :: st) σ | none => .fail).holds P Q → qaz LC P ops i σ (fun σ => z3n LC P ops p' σ (G P Q st none)) := fun {i p'} h => by
      unfold qaz; split at h
      · rename_i o ho
        rw [y2f, Array.getElem?_toList] at ho; rw [ho]; exact z5n (st := .plan ops LC p' :: st) hF h
      · exact h.elim
     cases p with
     | done => exact h
     | nil => trivial
     | take i W p => exact one h
     | alt i p q =>
       cases q with
       | nil => exact ⟨one h, trivial⟩
       | done => exact ⟨h.1.1, h.2⟩
       | take _ _ _ => exact ⟨h.1.1, h.2⟩
       | alt _ _ _ => exact ⟨h.1.1, h.2⟩
theorem q87 (hF : F = F.map P) : ∀ {n : Nat} {st : List Fr} {σ : St}, (exec n F st σ).holds P Q → G P Q st none σ
 | 0, _, _, h => h
 | n + 1, st, σ, h => by
   refine zb7 hF ?_; rw [exec] at h; split at h
   · rename_i st' σ' hs; rw [hs]; exact q87 hF h
   · exact h
theorem run (hF : F = F.map P) {n : Nat} {st : List Fr} {σ : St} {t : T} (he : exec n F st σ = t) (h : t.holds P Q) : G P Q st none σ := q87 hF (by rw [he]; exact h)
def y87 : Nat → TT → List Fr → St → T
 | 0, _, st, σ => .go st σ
 | k + 1, F, st, σ => match exec 2000 F st σ with
   | .br t st1 σ1 st2 σ2 => (match t with | true => y87 k F st1 σ1 | false => y87 k F st2 σ2)
   | _ => .fail
theorem q4o (hF : F = F.map P) : ∀ {k : Nat} {st : List Fr} {σ : St}, (y87 k F st σ).holds P Q → G P Q st none σ
 | 0, _, _, h => h
 | k + 1, st, σ, h => by
   rw [y87] at h; split at h
   · rename_i t st1 σ1 st2 σ2 he
     refine run hF he ?_
     cases t with
     | true => exact ⟨fun _ => q4o hF h, nofun⟩
     | false => exact ⟨nofun, fun _ => q4o hF h⟩
   · exact h.elim
def QR (P : Program) (fn : Func) (res : Res) (e : Ex) (σ : St) : Prop := match e with | .exit _ => False | _ => ybc P fn res σ
theorem PC.begin {f : Nat} {fn : Func} {c : Code} {args : List SV} {res : Res} (hf : P.funcs[f]? = some fn) (hb : fn.body = some c) (hok : (okF P f && z1c fn.ntmps c && Nat.ble args.length fn.ntmps) = true)
 (h : G P (QR P fn res) [.code c] none ⟨yah 0 args, []⟩) : PC P f args res := by
 refine PC.intro hf hb hok ?_
 have e : (fun (e : Ex) (σ : St) => match e with | .normal => G P (QR P fn res) [] none σ | .exit i => G P (QR P fn res) [] (some i) σ | .ret => QR P fn res .ret σ) =
  (fun e σ => match e with | .exit _ => False | _ => ybc P fn res σ) := by
  funext e σ; cases e <;> rfl
 have h' : vc P c (fun (e : Ex) (σ : St) => match e with | .normal => G P (QR P fn res) [] none σ | .exit i => G P (QR P fn res) [] (some i) σ | .ret => QR P fn res .ret σ) ⟨yah 0 args, []⟩ := h; rw [e] at h'; exact h'
end
end Go.Sx
end
section
namespace Go.Sx
class qo (P : Program) where
 F : TT
 ok : F = F.map P
 mix : P.follows .mixedOrders = true
def y7w (σ : St) (d : Option Tmp) (res : Res) : R := match d with
 | some d => (match σ with | ⟨t, b⟩ => bR ((d, q8t (nameOf d) res) :: t) (z1l (nameOf d) res ++ b))
 | none => .ok σ
def z1t : AC → Bool
 | .b _ => true
 | .nil => true
 | .em => true
 | _ => false
def z27 : List AV → Bool
 | [] => true
 | .one c :: l => bif z1t c then z27 l else false
 | .agg cs :: l => bif cs.all z1t then z27 l else false
 | _ => false
def q46 (B : List (Nat × AB)) : List (Nat × AB) → Bool
 | [] => true
 | (β, _) :: l => match get B β with | none => q46 B l | some _ => false
theorem z3s {c : AC} (h : z1t c = true) : q3r c := by cases c <;> first | trivial | cases h
theorem q2s : ∀ {avs : List AV}, z27 avs = true → ya2 z6j avs
 | [], _ => trivial
 | .one c :: l, h => by
   rw [z27] at h
   cases hc : z1t c with
   | false => rw [hc] at h; cases h
   | true => rw [hc] at h; exact ⟨z3s hc, q2s h⟩
 | .agg cs :: l, h => by
   rw [z27] at h
   cases hc : cs.all z1t with
   | false => rw [hc] at h; cases h
   | true =>
     rw [hc] at h
     have : ∀ cs : List AC, cs.all z1t = true → q7w q3r cs := by
      intro cs
      induction cs with
      | nil => intro _; trivial
      | cons c cs ih => intro h; simp only [List.all_cons, Bool.and_eq_true] at h; exact ⟨z3s h.1, ih h.2⟩
     exact ⟨this cs hc, q2s h⟩
 | .tup _ :: l, h => by cases h
theorem z2c {B : List (Nat × AB)} : ∀ {l : List (Nat × AB)}, q46 B l = true → y0e B l
 | [], _ => trivial
 | (β, _) :: l, h => by
   rw [q46] at h; split at h
   · rename_i hn; exact ⟨hn, z2c h⟩
   · cases h
def za4 (σ : St) (d : Option Tmp) (avs : List AV) (res : Res) : Bool := bif q1a res then (bif y47 res then (bif z27 avs then q46 σ.b (z1l (nameOf (d.getD 0)) res) else false) else q46 σ.b (z1l (nameOf (d.getD 0)) res)) else false
section
variable {P : Program} [qo P] {Q : Ex → St → Prop} {st st1 st2 : List Fr} {σ σ1 σ2 : St}
theorem xb {t : Bool} (h : exec 2000 (qo.F P) st σ = .br t st1 σ1 st2 σ2) (h1 : t = true → G P Q st1 none σ1) (h2 : t = false → G P Q st2 none σ2) : G P Q st none σ := run qo.ok h ⟨h1, h2⟩
theorem xf (h : exec 2000 (qo.F P) st σ = .br false st1 σ1 st2 σ2) (h1 : G P Q st2 none σ2) : G P Q st none σ := run qo.ok h ⟨nofun, fun _ => h1⟩
theorem xj {k : Nat} (h : y87 k (qo.F P) st σ = .go st1 σ1) (h1 : G P Q st1 none σ1) : G P Q st none σ := q4o qo.ok (by rw [h]; exact h1)
theorem xr {e : Ex} (h : exec 2000 (qo.F P) st σ = .fin e σ1) (h1 : Q e σ1) : G P Q st none σ := run qo.ok h h1
theorem xs {p : Prop} (h : exec 2000 (qo.F P) st σ = .side p st1 σ1) (h1 : p) (h2 : G P Q st1 none σ1) : G P Q st none σ := run qo.ok h ⟨h1, h2⟩
theorem yco {q : Bool → Prop} {f : Bool → R} (h : exec 2000 (qo.F P) st σ = .any q f st1) (h1 : ∀ b, q b → G P Q (.r (f b) :: st1) none ⟨[], []⟩) : G P Q st none σ := run qo.ok h h1
theorem y9 {rows : List (List Cell)} {i : Nat} {f : List Cell → R} (h : exec 2000 (qo.F P) st σ = .row rows i f st1) (row : List Cell) (hr : rows[i]? = some row) (h1 : G P Q (.r (f row) :: st1) none ⟨[], []⟩) : G P Q st none σ := run qo.ok h ⟨row, hr, h1⟩
theorem zbd {g : Bool} {o : Oper} (h : exec 2000 (qo.F P) st σ = .raw g σ1 o st1) (h1 : opL g P σ1 o (G P Q st1 none)) : G P Q st none σ := run qo.ok h h1
theorem q9 {J : St → Prop} (h : exec 2000 (qo.F P) st σ = .cont J σ1) (h1 : J σ1) : G P Q st none σ := run qo.ok h h1
theorem y0p (h : exec 2000 (qo.F P) st σ = .both st1 st2 σ1) (h1 : G P Q st1 none σ1) (h2 : G P Q st2 none σ1) : G P Q st none σ := run qo.ok h ⟨h1, h2⟩
def za6 (ops : Array Oper) (LC : List Nat) (p : q73) : Bool := Region.noSelect ops && (z2w .any ops (Array.replicate ops.size false) p && q1j LC .any ops p ops.size (Array.replicate ops.size false))
theorem yb {id : Nat} {ops : Array Oper} (h : exec 2000 (qo.F P) st σ = .draw id ops st1 σ1) (LC : List Nat) (p : q73) (hp : za6 ops LC p = true) (h1 : G P Q (.plan ops LC p :: st1) none σ1) : G P Q st none σ := by
 simp only [za6, Bool.and_eq_true] at hp; exact run qo.ok h ⟨qo.mix, hp.1, LC, p, hp.2.1, hp.2.2, h1⟩
theorem z7 {g : Bool} {d : Option Tmp} {f : Nat} {avs : List AV} {res : Res} (h : exec 2000 (qo.F P) st σ = .call g σ1 d f avs st1) (hpc : PC P f (avs.map (z9y σ1.b)) res) (hok : za4 σ1 d avs res = true) (hw : ya2 (wfV σ1.b) avs) (h1 : G P Q (.r (y7w σ1 d res) :: st1) none ⟨[], []⟩) : G P Q st none σ := by
 refine run qo.ok h (.inl ⟨res, hpc, ?_⟩); unfold za4 at hok
 cases h2 : q1a res with
 | false => rw [h2] at hok; cases hok
 | true =>
   rw [h2] at hok
   have hK : G P Q st1 none (z3a σ1 d res) := by
    have h1 : (y7w σ1 d res).holds P (G P Q st1 none) := h1; unfold y7w at h1; unfold z3a
    cases d with
    | none => exact h1
    | some d => cases σ1; exact qy h1
   cases h3 : y47 res with
   | true =>
     rw [h3] at hok
     cases h4 : z27 avs with
     | false => rw [h4] at hok; cases hok
     | true => rw [h4] at hok; exact ⟨rfl, hw, fun _ => q2s h4, z2c hok, hK⟩
   | false => rw [h3] at hok; exact ⟨rfl, hw, nofun, z2c hok, hK⟩
def q7v (σ : St) (d : Option Tmp) (res : Res) (T : List (Nat × AB)) : R := match σ, d with
 | ⟨t, b⟩, some d => bR ((d, q8t (nameOf d) res) :: t) ((z1l (nameOf d) res ++ T) ++ b)
 | ⟨t, b⟩, none => bR t (([] ++ T) ++ b)
def qa6 (σ : St) (d : Option Tmp) (avs : List AV) (args : List GA) (res : Res) : Bool := bif q1a res then (bif yaz ((z14 0 (acs avs) (gcs args)).map (·.2.1)) then q46 σ.b (z1l (nameOf (d.getD 0)) res) else false) else false
theorem y08 {d : Option Tmp} {f : Nat} {avs : List AV} {args : List GA} {res : Res} {back : List (Nat × List (List Cell))} (h : exec 2000 (qo.F P) st σ = .call true σ1 d f avs st1) (hpc : PG P f args res back) (hm : mAs σ1.b avs args) (hok : qa6 σ1 d avs args res = true)
 (h1 : G P Q (.r (q7v σ1 d res (z1n σ1.b back (z14 0 (acs avs) (gcs args)))) :: st1) none ⟨[], []⟩) : G P Q st none σ := by
 unfold qa6 at hok
 cases h2 : q1a res with
 | false => rw [h2] at hok; cases hok
 | true =>
   rw [h2] at hok
   cases h3 : yaz ((z14 0 (acs avs) (gcs args)).map (·.2.1)) with
   | false => rw [h3] at hok; cases hok
   | true =>
     rw [h3] at hok; refine run qo.ok h (.inr ⟨rfl, .inl ⟨args, res, back, hpc, h2, hm, z6 h3, z2c hok, ?_⟩⟩); have h1 : (q7v σ1 d res (z1n σ1.b back (z14 0 (acs avs) (gcs args)))).holds P (G P Q st1 none) := h1; cases σ1
     cases d with
     | none => exact qy h1
     | some d => exact qy h1
theorem q72 {b : Code} (h : exec 2000 (qo.F P) st σ = .loop b st1 σ1) {ι : Type} (pre : ι → Prop) (inv : ι → St) (m : ι → Nat) (i0 : ι) (h0 : pre i0) (hw : Wk σ1 (inv i0))
 (hs : ∀ i, pre i → ∀ J : St → Prop, (∀ σ' i', pre i' → m i' < m i → Wk σ' (inv i') → J σ') → G P Q (.code b :: .lp J :: st1) none (inv i)) : G P Q st none σ := by
 refine run qo.ok h ⟨ι, pre, inv, m, ⟨i0, h0, hw⟩, fun i hi => ?_⟩; have h2 := hs i hi (fun σ => ∃ i', pre i' ∧ m i' < m i ∧ Wk σ (inv i')) (fun σ' i' h1 h2 h3 => ⟨i', h1, h2, h3⟩)
 have e : (fun (e : Ex) (σ : St) => match e with | .normal => G P Q (.lp (fun σ => ∃ i', pre i' ∧ m i' < m i ∧ Wk σ (inv i')) :: st1) none σ | .exit i' => G P Q (.lp (fun σ => ∃ i', pre i' ∧ m i' < m i ∧ Wk σ (inv i')) :: st1) (some i') σ | .ret => Q .ret σ) =
  (fun e σ => match e with | .normal => ∃ i', pre i' ∧ m i' < m i ∧ Wk σ (inv i') | .exit j => G P Q st1 (some j) σ | .ret => Q .ret σ) := by
  funext e σ; cases e <;> rfl
 have h3 : vc P b (fun (e : Ex) (σ : St) => match e with | .normal => G P Q (.lp (fun σ => ∃ i', pre i' ∧ m i' < m i ∧ Wk σ (inv i')) :: st1) none σ | .exit i' => G P Q (.lp (fun σ => ∃ i', pre i' ∧ m i' < m i ∧ Wk σ (inv i')) :: st1) (some i') σ | .ret => Q .ret σ) (inv i) := h2; rw [e] at h3; exact h3
theorem qb {b : Code} (h : exec 2000 (qo.F P) st σ = .loop b st1 σ1) {ι : Type} (pre : ι → Prop) (inv : ι → St) (m : ι → Nat) (i0 : ι) (h0 : pre i0) (hw : Wk0 σ1 (inv i0))
 (hs : ∀ i, pre i → ∀ J : St → Prop, (∀ σ' i', pre i' → m i' < m i → Wk0 σ' (inv i') → J σ') → G P Q (.code b :: .lp J :: st1) none (inv i)) : G P Q st none σ :=
 q72 h pre inv m i0 h0 (.of hw) (fun i hi J hJ => hs i hi J (fun σ' i' h1 h2 h3 => hJ σ' i' h1 h2 (.of h3)))
theorem y5x {n : Nat} {x y : Code} (h : exec n (qo.F P) st σ = .go (.code (.seq x y) :: st1) σ1) {ι : Type} (pre : ι → Prop) (inv : ι → St)
 (h1 : ∀ K : St → Prop, (∀ σ' i, pre i → Wk0 σ' (inv i) → K σ') → G P Q (.code x :: .lp K :: st1) none σ1) (h2 : ∀ i, pre i → G P Q (.code y :: st1) none (inv i)) : G P Q st none σ := by
 refine run qo.ok h ?_; show G P Q (.code (.seq x y) :: st1) none σ1; refine .inr ⟨ι, pre, inv, ?_, h2⟩; have h3 := h1 (fun σ' => ∃ i, pre i ∧ Wk σ' (inv i)) (fun σ' i hp hw => ⟨i, hp, .of hw⟩)
 have e : (fun (e : Ex) (σ : St) => match e with | .normal => G P Q (.lp (fun σ => ∃ i', pre i' ∧ Wk σ (inv i')) :: st1) none σ | .exit i' => G P Q (.lp (fun σ => ∃ i', pre i' ∧ Wk σ (inv i')) :: st1) (some i') σ | .ret => Q .ret σ) =
  (fun e σ => match e with | .normal => ∃ i', pre i' ∧ Wk σ (inv i') | .exit j => G P Q st1 (some j) σ | .ret => Q .ret σ) := by
  funext e σ; cases e <;> rfl
 have h4 : vc P x (fun (e : Ex) (σ : St) => match e with | .normal => G P Q (.lp (fun σ => ∃ i', pre i' ∧ Wk σ (inv i')) :: st1) none σ | .exit i' => G P Q (.lp (fun σ => ∃ i', pre i' ∧ Wk σ (inv i')) :: st1) (some i') σ | .ret => Q .ret σ) σ1 := h3; rw [e] at h4; exact h4
omit [qo P] in
theorem ym {fn : Func} {res : Res} {e : Ex} (he : (match e with | .exit _ => false | _ => true) = true) (h : ybc P fn res σ) : QR P fn res e σ := by
 cases e with
 | exit i => cases he
 | _ => exact h
end
def qck (fn : Func) (σ : St) : Option Value := match fn.results.toList with
 | [.tmp t] => (match get σ.t t with | some (.one (.b (.s v))) => some v | _ => none)
 | _ => none
def zc8 : Ex → Bool
 | .exit _ => false
 | _ => true
theorem xv {P : Program} [qo P] {fn : Func} {st : List Fr} {σ σ1 : St} {e : Ex} {v v' : Value} (h : exec 2000 (qo.F P) st σ = .fin e σ1) (he : zc8 e = true) (ho : qck fn σ1 = some v) (hv : v = v') : G P (QR P fn (.one (.own false [.s v']))) st none σ := by
 subst hv; refine xr h (ym (by cases e <;> first | rfl | cases he) ?_); unfold qck at ho; split at ho
 case h_2 => cases ho
 rename_i t ht; split at ho
 case h_2 => cases ho
 rename_i u hu; cases ho; unfold ybc q7l; rw [ht]; show zbc P σ1 (.tmp t) _; unfold zbc; dsimp only; rw [hu]; exact ⟨⟨rfl, rfl, trivial⟩, z6 rfl⟩
theorem wrap_i64 {n : Int} (h : -9223372036854775808 ≤ n) (h2 : n ≤ 9223372036854775807) : IntKind.i64.wrap n = n := by
 have e : IntKind.i64.wrap n = if n % 18446744073709551616 ≥ 9223372036854775808 then n % 18446744073709551616 - 18446744073709551616 else n % 18446744073709551616 := by
  simp [IntKind.wrap, IntKind.signed, IntKind.bits]
 rw [e]; split <;> omega
theorem qn {α : Type} (xs : List α) (z : α) (i n : Nat) (h : i < xs.length) (hn : n = xs.length) : (xs.take i ++ List.replicate (n - i) z)[i]? = some z := by
 subst hn; have e1 : (xs.take i).length = i := by simp; omega
 rw [List.getElem?_append_right (by omega), List.getElem?_replicate, e1, if_pos (by omega)]
theorem q05 {α : Type} (xs : List α) (z x : α) (i n : Nat) (h : xs[i]? = some x) (hn : n = xs.length) : (xs.take i ++ List.replicate (n - i) z).set i x = xs.take (i + 1) ++ List.replicate (n - (i + 1)) z := by
 subst hn; obtain ⟨hi, rfl⟩ := List.getElem?_eq_some_iff.1 h; apply List.ext_getElem?; intro j; rw [List.getElem?_set]; by_cases hj : i = j
 · subst hj
   rw [if_pos rfl]; have : i < (xs.take i ++ List.replicate (xs.length - i) z).length := by simp; omega
   rw [if_pos this, List.getElem?_append_left (by simp; omega), List.getElem?_take, if_pos (by omega)]; simp
 · rw [if_neg hj]
   by_cases h1 : j < i
   · rw [List.getElem?_append_left (by simp; omega), List.getElem?_append_left (by simp; omega), List.getElem?_take, List.getElem?_take, if_pos h1, if_pos (by omega)]
   · rw [List.getElem?_append_right (by simp; omega), List.getElem?_append_right (by simp; omega), List.getElem?_replicate, List.getElem?_replicate]
     have e1 : (xs.take i).length = i := by simp; omega
     have e2 : (xs.take (i + 1)).length = i + 1 := by simp; omega
     rw [e1, e2]; by_cases h3 : j < xs.length
     · rw [if_pos (by omega), if_pos (by omega)]
     · rw [if_neg (by omega), if_neg (by omega)]
theorem yg {α : Type} (xs : List α) (z : α) (i n : Nat) (h : i ≤ xs.length) (hn : n = xs.length) : (xs.take i ++ List.replicate (n - i) z).length = n := by
 subst hn; simp; omega
theorem y04 {α : Type} (xs : List α) (z : α) (n : Nat) (hn : n = xs.length) : xs.take n ++ List.replicate (n - n) z = xs := by
 subst hn; simp
end Go.Sx
end
section
namespace Go.Sx
open Go.RowKit (Below)
def gAC (t : Nat) : GC → AC
 | .bor c => .b c
 | .giv _ _ rows => .h (1000000000 + t) rows.length
def zan : Nat → List GC → List AC
 | _, [] => []
 | t, c :: l => gAC t c :: zan (t + 1) l
def gAV (t : Nat) : GA → AV
 | .one c => .one (gAC t c)
 | .agg cs => .agg (zan t cs)
def gT : Nat → Nat → List GA → List (Nat × AV)
 | _, _, [] => []
 | i, t, .one c :: l => (i, gAV t (.one c)) :: gT (i + 1) (t + 1) l
 | i, t, .agg cs :: l => (i, gAV t (.agg cs)) :: gT (i + 1) (t + cs.length) l
def gB : Nat → List GC → List (Nat × AB)
 | _, [] => []
 | t, .bor _ :: l => gB (t + 1) l
 | t, .giv full sz rows :: l => (1000000000 + t, .arr full sz 0 rows) :: gB (t + 1) l
def y2v : Nat → List GC → List Value → List (AC × Value)
 | t, .giv _ _ rows :: l, u :: us => (.h (1000000000 + t) rows.length, u) :: y2v (t + 1) l us
 | t, .bor _ :: l, _ :: us => y2v (t + 1) l us
 | _, _, _ => []
def y6q (args : List GA) (σ : St) : List (Nat × List (List Cell)) → Prop
 | [] => True
 | (t, rows') :: l => (match nth (gcs args) t, get σ.b (1000000000 + t) with
   | some (.giv full sz rows), some (.arr full' sz' _ rows'') => full' = full ∧ sz' = sz ∧ rows'' = rows' ∧ rows'.length = rows.length ∧ q52 rows rows'
   | _, _ => False) ∧ y6q args σ l
def keys {α : Type} : List (Nat × α) → List Nat
 | [] => []
 | (t, _) :: l => (1000000000 + t) :: keys l
def zcn (P : Program) (fn : Func) (args : List GA) (res : Res) (back : List (Nat × List (List Cell))) (σ : St) : Prop := q7l P fn res (keys back) σ ∧ y6q args σ back
def QG (P : Program) (fn : Func) (args : List GA) (res : Res) (back : List (Nat × List (List Cell))) (e : Ex) (σ : St) : Prop := match e with | .exit _ => False | _ => zcn P fn args res back σ
theorem y1n {P : Program} {fn : Func} {args : List GA} {res : Res} {back : List (Nat × List (List Cell))} {e : Ex} {σ : St} (he : (match e with | .exit _ => false | _ => true) = true) (h : q7l P fn res (keys back) σ) (hb : y6q args σ back) : QG P fn args res back e σ := by
 cases e with
 | exit i => cases he
 | _ => exact ⟨h, hb⟩
section
variable {C : Ctx} {σ : St} {ρ : Env} {a : Act} {w : World}
theorem q6t : ∀ (t : Nat) (cs : List GC), (zan t cs).length = cs.length
 | _, [] => rfl
 | t, c :: l => by simp [zan, q6t (t + 1) l]
theorem y6t : ∀ {t : Nat} {cs : List GC} {k : Nat} {c : AC}, (zan t cs)[k]? = some c → ∃ g, cs[k]? = some g ∧ c = gAC (t + k) g
 | t, [], k, c, h => by simp [zan] at h
 | t, g :: l, k, c, h => by
   cases k with
   | zero => cases h; exact ⟨g, rfl, rfl⟩
   | succ k =>
     obtain ⟨g', h1, h2⟩ := y6t (t := t + 1) (cs := l) (k := k) (by simpa [zan] using h); exact ⟨g', by simpa using h1, by rw [h2]; congr 1; omega⟩
theorem q89 {B : List (Nat × AB)} : ∀ {args : List GA} {vals : List Value} {i t0 : Nat}, q3p args vals → (∀ (t : Nat) (g : GC) (u : Value), (gcs args)[t]? = some g → (z0n args vals)[t]? = some u → yy C w ρ B (gAC (t0 + t) g) u) →
 ∀ {k : Nat} {av : AV}, get (gT i t0 args) k = some av → ∃ j v, k = i + j ∧ vals[j]? = some v ∧ z00 C w ρ B av v
 | [], vals, i, t0, _, _, k, av, h => by cases h
 | .one c :: l, [], i, t0, hs, _, k, av, h => hs.elim
 | .agg c :: l, [], i, t0, hs, _, k, av, h => hs.elim
 | .one c :: l, v :: vs, i, t0, hs, hX, k, av, h => by
   rw [gT, yf] at h; by_cases hk : i = k
   · rw [if_pos hk] at h
     cases h; exact ⟨0, v, by omega, rfl, hX 0 c v rfl rfl⟩
   · rw [if_neg hk] at h
     obtain ⟨j, v', h1, h2, h3⟩ := q89 (args := l) (vals := vs) (t0 := t0 + 1) hs (fun t g u hg hu => by
      have := hX (t + 1) g u (by simpa [gcs] using hg) (by simpa [z0n] using hu)
      rwa [show t0 + (t + 1) = t0 + 1 + t by omega] at this) h
     exact ⟨j + 1, v', by omega, by simpa using h2, h3⟩
 | .agg cs :: l, v :: vs, i, t0, hs, hX, k, av, h => by
   obtain ⟨⟨arr, rfl, h0⟩, hs⟩ := hs; rw [gT, yf] at h; by_cases hk : i = k
   · rw [if_pos hk] at h
     cases h; refine ⟨0, _, by omega, rfl, arr, rfl, by rw [q6t, h0], fun k c u hc hu => ?_⟩; obtain ⟨g, hg, rfl⟩ := y6t hc; have hlt := (List.getElem?_eq_some_iff.1 hg).1; refine hX k g u ?_ ?_
     · simp only [gcs]; rw [List.getElem?_append_left hlt]; exact hg
     · simp only [z0n]; rw [List.getElem?_append_left (by rw [Array.length_toList]; omega), Array.getElem?_toList]; exact hu
   · rw [if_neg hk] at h
     obtain ⟨j, v', h1, h2, h3⟩ := q89 (args := l) (vals := vs) (t0 := t0 + cs.length) hs (fun t g u hg hu => by
      have := hX (cs.length + t) g u (by simp only [gcs]; rw [List.getElem?_append_right (by omega)]; simpa using hg) (by
       have e : arr.toList.length = cs.length := (Array.length_toList).trans h0
       simp only [z0n]; rw [List.getElem?_append_right (by omega), e]; simpa using hu)
      rwa [← Nat.add_assoc] at this) h
     exact ⟨j + 1, v', by omega, by simpa using h2, h3⟩
theorem z5f : ∀ {t0 : Nat} {cs : List GC} {β : Nat} {ab : AB}, get (gB t0 cs) β = some ab → ∃ k full sz rows, β = 1000000000 + (t0 + k) ∧ cs[k]? = some (.giv full sz rows) ∧ ab = .arr full sz 0 rows
 | t0, [], β, ab, h => by cases h
 | t0, .bor c :: l, β, ab, h => by
   obtain ⟨k, full, sz, rows, h1, h2, h3⟩ := z5f (t0 := t0 + 1) (cs := l) h; exact ⟨k + 1, full, sz, rows, by omega, by simpa using h2, h3⟩
 | t0, .giv full sz rows :: l, β, ab, h => by
   rw [gB, yf] at h; by_cases hb : 1000000000 + t0 = β
   · rw [if_pos hb] at h; cases h; exact ⟨0, full, sz, rows, by omega, rfl, rfl⟩
   · rw [if_neg hb] at h
     obtain ⟨k, full, sz, rows, h1, h2, h3⟩ := z5f (t0 := t0 + 1) (cs := l) h; exact ⟨k + 1, full, sz, rows, by omega, by simpa using h2, h3⟩
theorem y89 : ∀ {t0 : Nat} {cs : List GC} {k : Nat} {full : Bool} {sz : Nat} {rows : List (List Cell)}, cs[k]? = some (.giv full sz rows) → get (gB t0 cs) (1000000000 + (t0 + k)) = some (.arr full sz 0 rows)
 | t0, [], k, full, sz, rows, h => by simp at h
 | t0, .bor c :: l, k, full, sz, rows, h => by
   cases k with
   | zero => cases h
   | succ k =>
     have := y89 (t0 := t0 + 1) (cs := l) (k := k) (by simpa using h); rw [show t0 + (k + 1) = t0 + 1 + k by omega]; exact this
 | t0, .giv full' sz' rows' :: l, k, full, sz, rows, h => by
   cases k with
   | zero => cases h; rw [gB, yf, if_pos (by omega)]
   | succ k =>
     have := y89 (t0 := t0 + 1) (cs := l) (k := k) (by simpa using h); rw [gB, yf, if_neg (by omega), show t0 + (k + 1) = t0 + 1 + k by omega]; exact this
theorem q1o : ∀ {t0 : Nat} {cs : List GC} {us : List Value} {g : AC × Value}, g ∈ y2v t0 cs us → ∃ k full sz rows u, g = (.h (1000000000 + (t0 + k)) rows.length, u) ∧ cs[k]? = some (.giv full sz rows) ∧ us[k]? = some u
 | t0, [], us, g, h => by cases us <;> simp [y2v] at h
 | t0, .bor c :: l, [], g, h => by simp [y2v] at h
 | t0, .giv _ _ _ :: l, [], g, h => by simp [y2v] at h
 | t0, .bor c :: l, u :: us, g, h => by
   obtain ⟨k, full, sz, rows, u', h1, h2, h3⟩ := q1o (t0 := t0 + 1) (cs := l) (us := us) h; exact ⟨k + 1, full, sz, rows, u', by rw [h1, show t0 + 1 + k = t0 + (k + 1) by omega], by simpa using h2, by simpa using h3⟩
 | t0, .giv full sz rows :: l, u :: us, g, h => by
   rcases List.mem_cons.1 h with rfl | h
   · exact ⟨0, full, sz, rows, u, rfl, rfl, rfl⟩
   · obtain ⟨k, full, sz, rows, u', h1, h2, h3⟩ := q1o (t0 := t0 + 1) (cs := l) (us := us) h
     exact ⟨k + 1, full, sz, rows, u', by rw [h1, show t0 + 1 + k = t0 + (k + 1) by omega], by simpa using h2, by simpa using h3⟩
theorem q2m : ∀ {t0 : Nat} {cs : List GC} {us : List Value} {k : Nat} {full : Bool} {sz : Nat} {rows : List (List Cell)} {u : Value}, cs[k]? = some (.giv full sz rows) → us[k]? = some u → (AC.h (1000000000 + (t0 + k)) rows.length, u) ∈ y2v t0 cs us
 | t0, [], us, k, full, sz, rows, u, h, _ => by simp at h
 | t0, c :: l, [], k, full, sz, rows, u, _, h => by simp at h
 | t0, .bor c :: l, u' :: us, k, full, sz, rows, u, h, h' => by
   cases k with
   | zero => cases h
   | succ k =>
     have := q2m (t0 := t0 + 1) (cs := l) (us := us) (k := k) (by simpa using h) (by simpa using h'); rw [show t0 + (k + 1) = t0 + 1 + k by omega]; exact this
 | t0, .giv full' sz' rows' :: l, u' :: us, k, full, sz, rows, u, h, h' => by
   cases k with
   | zero => cases h; cases h'; exact List.mem_cons_self ..
   | succ k =>
     have := q2m (t0 := t0 + 1) (cs := l) (us := us) (k := k) (by simpa using h) (by simpa using h'); rw [show t0 + (k + 1) = t0 + 1 + k by omega]; exact List.mem_cons_of_mem _ this
theorem z2l {args : List GA} : ∀ {back : List (Nat × List (List Cell))} {t : Nat} {rows' : List (List Cell)}, y6q args σ back → get back t = some rows' → (1000000000 + t) ∈ keys back ∧ ∃ full sz rows ep, (gcs args)[t]? = some (.giv full sz rows) ∧ get σ.b (1000000000 + t) = some (.arr full sz ep rows') ∧ rows'.length = rows.length ∧ q52 rows rows'
 | [], t, rows', _, h => by cases h
 | (k, r) :: l, t, rows', hb, h => by
   rw [yf] at h; by_cases hk : k = t
   · subst hk
     rw [if_pos rfl] at h; cases h; refine ⟨List.mem_cons_self .., ?_⟩; have h1 := hb.1; split at h1
     · rename_i full sz rows full' sz' ep rows'' e1 e2
       obtain ⟨rfl, rfl, rfl, h2, h3⟩ := h1; rw [y2f] at e1; exact ⟨_, _, rows, ep, e1, e2, h2, h3⟩
     · exact h1.elim
   · rw [if_neg hk] at h
     obtain ⟨h1, h2⟩ := z2l hb.2 h; exact ⟨List.mem_cons_of_mem _ h1, h2⟩
end
theorem CN.mono {w : World} {N N' : Nat → Prop} {full : Bool} {F : Nat → Prop} {c : Cell} {u : Value} (h : CN w N full F c u) (hN : ∀ x, x < w.heap.size → N x → N' x) : CN w N' full F c u := by
 cases full with
 | true => exact h
 | false => exact Rep.mono h hN
theorem PG.begin {P : Program} {f : Nat} {fn : Func} {c : Code} {args : List GA} {res : Res} {back : List (Nat × List (List Cell))} (hf : P.funcs[f]? = some fn) (hb : fn.body = some c) (hok : (okF P f && z1c fn.ntmps c && Nat.ble args.length fn.ntmps) = true)
 (h : G P (QG P fn args res back) [.code c] none ⟨gT 0 0 args, gB 0 (gcs args)⟩) : PG P f args res back := by
 simp only [Bool.and_eq_true] at hok; obtain ⟨⟨ho1, ho2⟩, ho3⟩ := hok; refine ⟨ho1, fun N S w vals hS1 hS2 hsh hcell => ?_⟩; refine calls_of_wp hf hb ?_; have hle : args.length ≤ fn.ntmps := Nat.le_of_ble_eq_true ho3
 have hshl : ∀ {args : List GA} {vals : List Value}, q3p args vals → vals.length = args.length := by
  intro args
  induction args with
  | nil => intro vals h; cases vals with | nil => rfl | cons _ _ => exact h.elim
  | cons ga l ih =>
    intro vals h
    cases vals with
    | nil => cases ga <;> exact h.elim
    | cons v vs =>
      cases ga with
      | one c => simp [ih (vals := vs) h]
      | agg cs => simp [ih (vals := vs) h.2]
 have hvl : vals.size = args.length := by simpa using hshl hsh
 have hlen := y2k hsh; generalize hC : Ctx.mk P fn.ntmps w N (fun x => ∃ t, S t x) (y2v 0 (gcs args) (z0n args vals.toList)) = C; generalize hρ : (⟨fun β => ((z0n args vals.toList)[β - 1000000000]?).getD undef, fun β x => S (β - 1000000000) x⟩ : Env) = ρ; have hname : ∀ t, 1000000000 + t - 1000000000 = t := fun t => by omega
 have hNB : ∀ x, N x → Bor C ρ (gB 0 (gcs args)) x := fun x hx => by
  refine ⟨?_, fun β ab hg hs => ?_⟩
  · rw [← hC]; exact .inl hx
  · rw [← hρ] at hs; exact (hS1 _ x hs).2 hx
 have hAC : ∀ (t : Nat) (g : GC) (u : Value), (gcs args)[t]? = some g → (z0n args vals.toList)[t]? = some u → yy C w ρ (gB 0 (gcs args)) (gAC (0 + t) g) u := fun t g u hg hu => by
  have hc := hcell t g u hg hu
  cases g with
  | bor c => exact Rep.mono hc (fun x _ hx => hNB x hx)
  | giv full sz rows =>
    obtain ⟨sz', _, hslab⟩ := hc; obtain ⟨A, cap, rfl⟩ := hslab.slice; refine ⟨⟨A, cap, rfl⟩, _, y89 hg, fun full' sz1 ep rows' he => ?_⟩; cases he; refine ⟨Nat.le_refl _, fun _ => ?_⟩; rw [← hρ]; simp only [Nat.zero_add, hname, hu, Option.getD_some]
 have hinit : qc C ⟨gT 0 0 args, gB 0 (gcs args)⟩ ρ { tmps := vals ++ Array.replicate (fn.ntmps - vals.size) undef, defers := [] } w := by
  refine ⟨fun t av ht => ?_, fun β ab hg => ?_, fun β β' ab ab' x hg hg' hx hx' => ?_, fun β ab x hg hx => ?_, ?_, rfl, ?_, fun g hg => ?_⟩
  · obtain ⟨j, v, h1, h2, h3⟩ := q89 hsh hAC ht
    have hj : j < vals.size := by have := (List.getElem?_eq_some_iff.1 h2).1; simpa using this
    refine ⟨v, ?_, h3⟩; have htj : t = j := by omega
    subst htj; rw [Array.getElem?_append, if_pos hj]
    simpa using h2
  · obtain ⟨k, full, sz, rows, rfl, h2, rfl⟩ := z5f hg
    have hlt : k < (z0n args vals.toList).length := by rw [hlen]; exact (List.getElem?_eq_some_iff.1 h2).1
    obtain ⟨sz', hsz, hslab⟩ := hcell k _ _ h2 (List.getElem?_eq_getElem hlt); refine ⟨sz', hsz, ?_⟩
    have e1 : ρ.v (1000000000 + (0 + k)) = (z0n args vals.toList)[k] := by
     rw [← hρ]; simp only [Nat.zero_add, hname, List.getElem?_eq_getElem hlt, Option.getD_some]
    have e2 : ρ.S (1000000000 + (0 + k)) = S k := by
     rw [← hρ]; simp only [Nat.zero_add, hname]
    rw [e1, e2, yab (σ := ⟨[], gB 0 (gcs args)⟩)]; exact y0d.imp hslab (fun _ h => h) (fun _ _ _ => rfl) (fun _ _ _ _ hc => CN.mono hc (fun x _ hx => hNB x hx))
  · obtain ⟨k, _, _, _, rfl, _, _⟩ := z5f hg
    obtain ⟨k', _, _, _, rfl, _, _⟩ := z5f hg'; rw [← hρ] at hx hx'; have := hS2 _ _ x hx hx'; omega
  · rw [← hρ] at hx
    refine ⟨(hS1 _ x hx).1, .inr ?_⟩; rw [← hC]; exact ⟨_, hx⟩
  · rw [← hC]
    show (vals ++ Array.replicate (fn.ntmps - vals.size) undef).size = fn.ntmps; rw [Array.size_append, Array.size_replicate]; omega
  · rw [← hC]; exact zt.refl _ _
  · rw [← hC] at hg
    obtain ⟨k, full, sz, rows, u, rfl, h2, h3⟩ := q1o hg; exact hAC k (.giv full sz rows) u h2 h3
 have hCP : C.P = P := by rw [← hC]
 have hCT : C.T = fn.ntmps := by rw [← hC]
 have hQ : vc C.P c (fun (e : Ex) (σ : St) => match e with | .normal => G P (QG P fn args res back) [] none σ | .exit i => G P (QG P fn args res back) [] (some i) σ | .ret => QG P fn args res back .ret σ) ⟨gT 0 0 args, gB 0 (gcs args)⟩ := by rw [hCP]; exact h
 have hwp := q71 (C := C) (fun g hg => by
  rw [← hC] at hg; obtain ⟨k, _, _, _, _, rfl, _, _⟩ := q1o hg
  exact Nat.le_add_right _ _) (by rw [hCT]; exact ho2) ⟨ρ, hinit⟩ hQ
 rw [hCP] at hwp; refine wp_mono hwp (fun e a' w' hq => ?_); obtain ⟨e', he, σ', hr, ρ', hrel⟩ := hq
 have fin : zcn P fn args res back σ' → a'.defers = [] ∧ ∃ v, (results fn a'.tmps).run P w' = .ok v w' ∧ ∃ (v' : Value) (SR : Nat → Prop) (SB : Nat → Nat → Prop), Ending.returned v = .returned v' ∧ zt w w' (fun x => ∃ t, S t x) ∧ q27 w' (Rest N w S SR SB) SR res v' ∧
  (∀ x, SR x → (w.heap.size ≤ x ∨ ∃ t, S t x) ∧ x < w'.heap.size ∧ ∀ t, ¬ SB t x) ∧ (∀ t x, SB t x → (w.heap.size ≤ x ∨ ∃ t, S t x) ∧ x < w'.heap.size) ∧ (∀ t t' x, SB t x → SB t' x → t = t') ∧
  ∀ (t : Nat) (rows' : List (List Cell)), get back t = some rows' → ∀ (full : Bool) (sz : Nat) (rows : List (List Cell)) (u : Value), (gcs args)[t]? = some (.giv full sz rows) → (z0n args vals.toList)[t]? = some u →
    rows'.length = rows.length ∧ (∀ (i : Nat) (row row' : List Cell), rows[i]? = some row → rows'[i]? = some row' → row'.length = row.length) ∧ ∃ sz', (sz ≠ 0 → sz' = sz) ∧ y0d w' (CN w' (Rest N w S SR SB) full) (SB t) sz' rows' u := fun hret => by
  obtain ⟨hret, hbk⟩ := hret; rw [← hCP] at hret; obtain ⟨v, ms, h1, h2, h3⟩ := y5p hrel hret; rw [hCP] at h1
  have hmine : ∀ β ab x, get σ'.b β = some ab → ρ'.S β x → x < w'.heap.size ∧ (w.heap.size ≤ x ∨ ∃ t, S t x) := by
   have := hrel.mine; rw [← hC] at this; exact this
  have hkeep : zt w w' (fun x => ∃ t, S t x) := by
   have := hrel.keep; rw [← hC] at this; exact this
  have hfree : ∀ x, Bor C ρ' σ'.b x → N x ∨ w.heap.size ≤ x ∨ ∃ t, S t x := by
   intro x hx; have := hx.1; rw [← hC] at this; exact this
  have hrest : ∀ x, Bor C ρ' σ'.b x → Rest N w S (gS σ' ρ' ms) (fun t x => (get back t).isSome = true ∧ (∃ ab, get σ'.b (1000000000 + t) = some ab) ∧ ρ'.S (1000000000 + t) x) x := fun x hx =>
   ⟨hfree x hx, fun ⟨γ, _, ⟨ab, hab⟩, hs⟩ => hx.2 γ ab hab hs, fun t ⟨_, ⟨ab, hab⟩, hs⟩ => hx.2 _ ab hab hs⟩
  have hkey : ∀ t, (get back t).isSome = true → (1000000000 + t) ∈ keys back := fun t ht => by
   obtain ⟨rows', hr'⟩ := Option.isSome_iff_exists.1 ht; exact (z2l hbk hr').1
  refine ⟨hrel.defers, v, h1, v, gS σ' ρ' ms, fun t x => (get back t).isSome = true ∧ (∃ ab, get σ'.b (1000000000 + t) = some ab) ∧ ρ'.S (1000000000 + t) x, rfl, hkeep, h2.mono hrest, fun x hx => ?_, fun t x hx => ?_, fun t t' x hx hx' => ?_, fun t rows' ht full sz rows u hg hu => ?_⟩
  · obtain ⟨γ, hγ, ⟨ab, hab⟩, hs⟩ := hx
    refine ⟨(hmine γ ab x hab hs).2, (hmine γ ab x hab hs).1, fun t ⟨h4, ⟨ab', hab'⟩, h6⟩ => ?_⟩; have := hrel.disj γ _ ab ab' x hab hab' hs h6; exact h3 γ hγ (this ▸ hkey t h4)
  · obtain ⟨_, ⟨ab, hab⟩, hs⟩ := hx
    exact ⟨(hmine _ ab x hab hs).2, (hmine _ ab x hab hs).1⟩
  · obtain ⟨_, ⟨ab, hab⟩, hs⟩ := hx
    obtain ⟨_, ⟨ab', hab'⟩, hs'⟩ := hx'; have := hrel.disj _ _ ab ab' x hab hab' hs hs'; omega
  · obtain ⟨_, full1, sz1, rows1, ep, e1, e2, e3, e4⟩ := z2l hbk ht
    rw [hg] at e1; cases e1; refine ⟨e3, e4, ?_⟩; obtain ⟨sz', hsz, hslab⟩ := hrel.blks _ _ e2; refine ⟨sz', hsz, ?_⟩; have hgh := hrel.ghost (.h (1000000000 + (0 + t)) rows.length, u) (by rw [← hC]; exact q2m hg hu); obtain ⟨_, ab, h5, h6⟩ := hgh; simp only [Nat.zero_add] at h5 h6; rw [e2] at h5; cases h5; rw [(h6 _ _ _ _ rfl).2 e3.symm]; rw [yab] at hslab; exact y0d.imp hslab (fun x hx => ⟨by rw [ht]; rfl, ⟨_, e2⟩, hx⟩) (fun _ _ _ => rfl) (fun _ _ _ _ hc => CN.mono hc (fun x _ hx => hrest x hx))
 cases e <;> simp only [qal, Option.some.injEq] at he <;> first | (subst he) | cases he
 · exact fin hr
 · exact hr.elim
 · exact fin hr
end Go.Sx
end
section
namespace Go.Sx
theorem y67 {α : Type} {xs : List α} {i : Nat} {x : α} (h : i < xs.length) : (xs.set i x)[i]? = some x := by simp [h]
theorem zv {rws : List (List Cell)} {i k : Nat} {c : Cell} {row : List Cell} (h : rws[i]? = some row) : setRow rws i k c = rws.set i (row.set k c) := by simp only [setRow, h]
theorem q7n {rws : List (List Cell)} {i k : Nat} {c : Cell} : (setRow rws i k c).length = rws.length := by
 unfold setRow; split
 · exact List.length_set
 · rfl
theorem zf {rws : List (List Cell)} {i k : Nat} {c : Cell} {row : List Cell} (h : rws[i]? = some row) : (setRow rws i k c)[i]? = some (row.set k c) := by
 rw [zv h, y67 (List.getElem?_eq_some_iff.1 h).1]
end Go.Sx
end
section
namespace Go.Sx
open Go.RowKit Go.ChangeShapes Go.WideShapes Go.Deep
def z74 (w : World) (cells : List Cell) (cs : List Value) : Prop := cs.length = cells.length ∧ ∀ (k : Nat) (c : Cell) (u : Value), cells[k]? = some c → cs[k]? = some u → Rep w (fun _ => True) c u
structure z3w (P : Program) (t : TypeId) {α : Type} (sz : Nat) (f : α → List Cell) (G : α → Prop) : Prop where
 hsz : P.cellsOf t = sz
 len : ∀ a, (f a).length = sz
 get : ∀ {H : Type} (enc : TypeId × Value → H) (w : World) (base : Nat) (spare : Nat → Bool) (held : Bool) (fuel : Nat) (cs : List Value) (x : DataW H × List MemPlace), DataW.trod enc P w base spare held fuel t cs = some x → ∃ a, z74 w (f a) cs ∧ G a
section
variable {P : Program} {α β : Type} {t e : TypeId}
theorem z74.one {w : World} {c : Cell} {u : Value} (h : Rep w (fun _ => True) c u) : z74 w [c] [u] := ⟨rfl, fun k c' u' h1 h2 => by
 cases k with
 | zero => cases h1; cases h2; exact h
 | succ k => simp at h1⟩
theorem z8o {k : IntKind} (ht : P.underlying t = some (.int k)) (hc : P.cellsOf t = 1) : z3w P t 1 (fun n : Int => [.s (.int k n)]) (fun n => (Lit.int k n).wf = true) :=
 ⟨hc, fun _ => rfl, fun enc w base spare held fuel cs x h => by obtain ⟨n, rfl, _, hw⟩ := DataW.trod_int ht h; exact ⟨n, .one (.s _ rfl), hw⟩⟩
theorem y8o {sz : Nat} {f : α → List Cell} {G : α → Prop} (ht : P.underlying t = some (.slice e)) (he : z3w P e sz f G)
 {H : Type} (enc : TypeId × Value → H) (w : World) (base : Nat) (spare : Nat → Bool) (held : Bool) (fuel : Nat) (cs : List Value) (x : DataW H × List MemPlace) (h : DataW.trod enc P w base spare held fuel t cs = some x) :
 ∃ (l : List α) (v : Value), cs = [v] ∧ Rep w (fun _ => True) (.l (l.map f)) v ∧ (l.length ≤ maxLen ∧ ∀ a ∈ l, G a) := by
 classical
 rcases open_slice ht h with ⟨rfl, _⟩ | ⟨a, len, cap, m, n, D, Pl, rfl, hb, hl, hm, hmm, rfl, hx⟩
 · exact ⟨[], _, rfl, .l 0 [] none 0 (fun _ _ => undef) (by simp) (Nat.le_refl _) (fun _ => rfl) (fun j k hj => by simp at hj) (fun j k row c h1 => by simp at h1), by simp, fun a ha => by cases ha⟩
 · have hlm : len ≤ m := by rw [hmm]; split <;> omega
   have hall : ∀ i, i < len → ∃ b cs', cs'.length = sz ∧ z74 w (f b) cs' ∧ G b ∧ ∀ j, j < sz → w.cell? ((a.add (i * sz)).add j) = cs'[j]? := fun i hi => by
    obtain ⟨cs', h1, h2⟩ := hx i (by omega); obtain ⟨b, hK, hg⟩ := he.get enc w base spare held n cs' _ h2; rw [he.hsz] at h1; obtain ⟨_, hlen, hcell⟩ := World.cells?_some h1; exact ⟨b, cs', hlen, hK, hg, hcell⟩
   have key : ∀ k, k ≤ len → ∃ l : List α, l.length = k ∧ (∀ j p, l[j]? = some p → ∃ c, c.length = sz ∧ z74 w (f p) c ∧ ∀ i u, c[i]? = some u → w.cell? (a.add (j * sz + i)) = some u) ∧ ∀ a ∈ l, G a := by
    intro k
    induction k with
    | zero => exact fun _ => ⟨[], rfl, fun j p hj => by simp at hj, fun a ha => by cases ha⟩
    | succ k ih =>
      intro hk; obtain ⟨l, hl, hc, hG⟩ := ih (by omega); obtain ⟨b, c, hs, hK, hg, hcell⟩ := hall k (by omega); refine ⟨l ++ [b], by simp [hl], fun j p hj => ?_, fun b' hb' => ?_⟩
      · rcases Nat.lt_or_ge j l.length with hjl | hjl
        · rw [List.getElem?_append_left hjl] at hj
          exact hc j p hj
        · have hj' : j = l.length := by
           have := (List.getElem?_eq_some_iff.1 hj).1; rw [List.length_append, List.length_singleton] at this; omega
          subst hj'; have hp : b = p := by simpa using hj
          subst hp; refine ⟨c, hs, hK, fun i u hu => ?_⟩; have hi : i < sz := by rw [← hs]; exact (List.getElem?_eq_some_iff.1 hu).1
          have := hcell i hi; rw [Go.Deep.add_add, ← hl] at this; rw [this, hu]
      · rcases List.mem_append.1 hb' with hb' | hb'
        · exact hG b' hb'
        · rw [List.mem_singleton.1 hb']; exact hg
   obtain ⟨l, hl', hc, hG⟩ := key len (Nat.le_refl _); subst hl'
   have hch : ∀ j : Nat, ∃ c : List Value, ∀ p, l[j]? = some p → c.length = sz ∧ z74 w (f p) c ∧ ∀ i u, c[i]? = some u → w.cell? (a.add (j * sz + i)) = some u := fun j => by
    cases hj : l[j]? with
    | none => exact ⟨[], fun p h => by cases h⟩
    | some p =>
      obtain ⟨c, h1, h2, h3⟩ := hc j p hj; exact ⟨c, fun p' h => by cases h; exact ⟨h1, h2, h3⟩⟩
   have hch2 : ∃ c : Nat → List Value, ∀ j p, l[j]? = some p → (c j).length = sz ∧ z74 w (f p) (c j) ∧ ∀ i u, (c j)[i]? = some u → w.cell? (a.add (j * sz + i)) = some u := ⟨fun j => Classical.choose (hch j), fun j => Classical.choose_spec (hch j)⟩
   obtain ⟨c, hc⟩ := hch2; have hlr : (l.map f).length = l.length := by simp
   refine ⟨l, _, rfl, ?_, by omega, hG⟩; rw [show (Value.slice (some a) l.length cap) = .slice (some a) (l.map f).length cap by rw [hlr]]; refine .l sz (l.map f) (some a) cap (fun j k => ((c j)[k]?).getD undef) (fun row hr => ?_) (by rw [hlr]; exact hl) (fun h => by cases h) (fun j k hj hk => ?_) (fun j k row c' h1 h2 => ?_)
   · obtain ⟨p, _, rfl⟩ := List.mem_map.1 hr; exact he.len p
   · rw [hlr] at hj
     obtain ⟨h1, _, h3⟩ := hc j _ (List.getElem?_eq_getElem hj); refine ⟨a, rfl, trivial, ?_⟩; have hlt : k < (c j).length := by omega
     rw [h3 k _ (List.getElem?_eq_getElem hlt), List.getElem?_eq_getElem hlt]; rfl
   · rw [List.getElem?_map] at h1
     cases hj : l[j]? with
     | none => rw [hj] at h1; cases h1
     | some p =>
       rw [hj] at h1; cases h1; obtain ⟨h4, h5, _⟩ := hc j p hj; have hk : k < (c j).length := by rw [h4, ← he.len p]; exact (List.getElem?_eq_some_iff.1 h2).1
       refine h5.2 k c' _ h2 ?_; rw [List.getElem?_eq_getElem hk]; rfl
inductive Laid (P : Program) : Nat → List Field → Prop
 | nil (o : Nat) : Laid P o []
 | cons {o : Nat} {f : Field} {fs : List Field} : f.offset = o → Laid P (o + P.cellsOf f.type) fs → Laid P o (f :: fs)
def q58 (P : Program) (fs : List Field) {α : Type} (sz : Nat) (f : α → List Cell) (G : α → Prop) : Prop :=
 (∀ a, (f a).length = sz) ∧ ∀ {H : Type} (enc : TypeId × Value → H) (w : World) (base : Nat) (spare : Nat → Bool) (held : Bool) (fuel : Nat) (cs : List Value), cs.length = sz →
   (∀ (i : Nat) (f : Field), fs[i]? = some f → ∃ x, DataW.trod enc P w base spare held fuel f.type ((cs.drop (((fs.take i).map fun g => P.cellsOf g.type).sum)).take (P.cellsOf f.type)) = some x) →
   ∃ a, z74 w (f a) cs ∧ G a
theorem z74.append {w : World} {xs ys : List Cell} {us vs : List Value} (h : z74 w xs us) (k : z74 w ys vs) : z74 w (xs ++ ys) (us ++ vs) := by
 refine ⟨by simp [h.1, k.1], fun i c u h1 h2 => ?_⟩; rw [List.getElem?_append] at h1 h2; rw [h.1] at h2; by_cases hi : i < xs.length
 · rw [if_pos hi] at h1 h2; exact h.2 i c u h1 h2
 · rw [if_neg hi] at h1 h2; exact k.2 _ c u h1 h2
theorem y7k {fd : Field} {sz : Nat} {f : α → List Cell} {G : α → Prop} (h : z3w P fd.type sz f G) : q58 P [fd] sz f G := by
 refine ⟨h.len, fun enc w base spare held fuel cs hl hx => ?_⟩; obtain ⟨x, hx⟩ := hx 0 fd rfl; simp only [List.take_zero, List.map_nil, List.sum_nil, List.drop_zero] at hx; rw [h.hsz, ← hl, List.take_length] at hx; exact h.get enc w base spare held fuel cs x hx
theorem q6d {fd : Field} {fs : List Field} {sz sz' : Nat} {f : α → List Cell} {f' : β → List Cell} {G : α → Prop} {G' : β → Prop} (h : z3w P fd.type sz f G) (h' : q58 P fs sz' f' G') : q58 P (fd :: fs) (sz + sz') (fun x : α × β => f x.1 ++ f' x.2) (fun x => G x.1 ∧ G' x.2) := by
 refine ⟨fun a => by simp [h.len, h'.1], fun enc w base spare held fuel cs hl hx => ?_⟩; obtain ⟨x, hx0⟩ := hx 0 fd rfl; simp only [List.take_zero, List.map_nil, List.sum_nil, List.drop_zero] at hx0; rw [h.hsz] at hx0; obtain ⟨a, hK, hG⟩ := h.get enc w base spare held fuel _ x hx0
 obtain ⟨b, hK', hG'⟩ := h'.2 enc w base spare held fuel (cs.drop sz) (by rw [List.length_drop]; omega) (fun i g hi => by
  obtain ⟨y, hy⟩ := hx (i + 1) g (by simpa using hi); refine ⟨y, ?_⟩; rw [List.drop_drop]
  simpa [h.hsz] using hy)
 refine ⟨(a, b), ?_, hG, hG'⟩; have := hK.append hK'
 rwa [List.take_append_drop] at this
theorem y3j : ∀ {fs : List Field} {o : Nat}, Laid P o fs → ∀ (i : Nat) (f : Field), fs[i]? = some f → f.offset = o + ((fs.take i).map fun g => P.cellsOf g.type).sum
 | [], _, _, i, f, h => by simp at h
 | g :: fs, o, .cons h1 h2, 0, f, h => by
   have : g = f := by simpa using h
   subst this; simp [h1]
 | g :: fs, o, .cons h1 h2, i + 1, f, h => by
   rw [y3j h2 i f (by simpa using h)]; simp [Nat.add_assoc]
theorem q5n {fs : List Field} {sz : Nat} {f : α → List Cell} {G : α → Prop} {f' : β → List Cell} {G' : β → Prop} (g : α → β) (hfg : ∀ a, f' (g a) = f a) (hG : ∀ a, G a → G' (g a)) (hlen : ∀ b, (f' b).length = sz) (ht : P.underlying t = some (.struct fs.toArray)) (hc : P.cellsOf t = sz) (hL : Laid P 0 fs) (hF : q58 P fs sz f G) :
 z3w P t sz f' G' :=
 ⟨hc, hlen, fun enc w base spare held fuel cs x h => by
   obtain ⟨xs, n, rfl, _, hl, hxs, hf⟩ := DataW.trod_struct ht h
   obtain ⟨a, hK, hg⟩ := hF.2 enc w base spare held n cs (by rw [hl, hc]) (fun i f hi => by
    have hoff := y3j hL i f hi; rw [Nat.zero_add] at hoff; have h1 := hf i f (by simpa using hi); rw [hoff] at h1
    have hi' : i < xs.length := by
     rw [hxs]; have := (List.getElem?_eq_some_iff.1 hi).1
     simpa using this
    exact ⟨xs[i], by rw [h1, List.getElem?_eq_getElem hi']⟩)
   exact ⟨g a, by rw [hfg]; exact hK, hG a hg⟩⟩
theorem z6e {sz : Nat} {f : α → List Cell} {G : α → Prop} (ht : P.underlying t = some (.slice e)) (hc : P.cellsOf t = 1) (he : z3w P e sz f G) : z3w P t 1 (fun l : List α => [.l (l.map f)]) (fun l => l.length ≤ maxLen ∧ ∀ a ∈ l, G a) :=
 ⟨hc, fun _ => rfl, fun enc w base spare held fuel cs x h => by
   obtain ⟨l, v, rfl, hr, hG⟩ := y8o ht he enc w base spare held fuel cs x h
   exact ⟨l, .one hr, hG⟩⟩
theorem y76 {fs : Array Field} {sz : Nat} {f : α → List Cell} {G : α → Prop} (ht : P.underlying t = some (.struct fs)) (he : z3w P t sz f G) {H : Type} {enc : TypeId × Value → H} {w : World} {r : Reach} {b : Nat} {v : Value} {dd : DataW H} {ps : List MemPlace}
 (hv : Value.okWide P w r b t v) (h : DataW.Trod enc P w 0 (fun _ => true) true t v dd ps) : ∃ a : α, z9a w (fun _ => True) (.agg (f a)) v ∧ G a := by
 obtain ⟨cs, rfl, _⟩ := okWide_struct ht hv; obtain ⟨fuel, hf⟩ := h; obtain ⟨a, hK, hG⟩ := he.get enc w 0 _ true fuel _ _ hf; have hK' : z74 w (f a) cs.toList := by simpa [Value.cells] using hK
 exact ⟨a, ⟨cs, rfl, by simpa using hK'.1, fun k c u hc hu => hK'.2 k c u hc (by simpa using hu)⟩, hG⟩
end
end Go.Sx
end
section
namespace Go.Sx
open Go.RowKit (Below)
theorem PC.law {P : Program} {f : Nat} {args : List SV} {b : Bool} (h : PC P f args (.one (.own false [.s (.bool b)]))) {w : World} {vals : Array Value} (ha : z58 w (fun _ => True) vals args) :
 Calls P f vals w fun e w' => e = .returned (.bool b) ∧ Below w.heap.size w w' := by
 refine (h.2 _ w vals ha).mono ?_
 rintro e w' ⟨v, S, rfl, hk, ⟨arr, F, h1, h2, _, _, h5⟩, _⟩
 have h1' : arr = #[v] := h1; subst h1'; obtain ⟨rfl, _⟩ := h5 0 _ v rfl rfl; exact ⟨rfl, hk.below⟩
theorem z58.two {w : World} {N : Nat → Prop} {sv sv' : SV} {v v' : Value} (h : z9a w N sv v) (h' : z9a w N sv' v') : z58 w N #[v, v'] [sv, sv'] := ⟨rfl, fun i s u h1 h2 => by
 cases i with
 | zero => cases h1; cases h2; exact h
 | succ i =>
   cases i with
   | zero => cases h1; cases h2; exact h'
   | succ i => simp at h1⟩
end Go.Sx
end
section
namespace Go.Sx
inductive Sh where
 | nil
 | i (k : IntKind) (r : Sh)
 | b (r : Sh)
 | l (e : Sh) (r : Sh)
inductive WT (N : Nat) : Sh → List Cell → Prop
 | nil : WT N .nil []
 | i {k : IntKind} {r : Sh} {cs : List Cell} (n : Int) : WT N r cs → WT N (.i k r) (.s (.int k n) :: cs)
 | b {r : Sh} {cs : List Cell} (x : Bool) : WT N r cs → WT N (.b r) (.s (.bool x) :: cs)
 | l {e r : Sh} {cs : List Cell} (rows : List (List Cell)) : rows.length ≤ N → (∀ row ∈ rows, WT N e row) → WT N r cs → WT N (.l e r) (.l rows :: cs)
def WR (N : Nat) (e : Sh) (rows : List (List Cell)) : Prop := rows.length ≤ N ∧ ∀ row ∈ rows, WT N e row
def nx (k : Int) : Int := IntKind.i64.wrap (k + 1)
def mkv : IntKind → Int → Int
 | .i64, k => k
 | t, k => t.wrap k
def mkR (f : List Cell → Int → List Cell × Int) : List (List Cell) → Int → List (List Cell) × Int
 | [], k => ([], k)
 | row :: rows, k => ((f row k).1 :: (mkR f rows (f row k).2).1, (mkR f rows (f row k).2).2)
def mk : Sh → List Cell → Int → List Cell × Int
 | .nil, cs, k => (cs, k)
 | .i t r, _ :: cs, k => (.s (.int t (mkv t k)) :: (mk r cs (nx k)).1, (mk r cs (nx k)).2)
 | .b r, _ :: cs, k => (.s (.bool (k.tmod 3 == 0)) :: (mk r cs (nx k)).1, (mk r cs (nx k)).2)
 | .l e r, .l rows :: cs, k => (.l (mkR (mk e) rows k).1 :: (mk r cs (mkR (mk e) rows k).2).1, (mk r cs (mkR (mk e) rows k).2).2)
 | _, cs, k => (cs, k)
def hdR (f : List Cell → Int → Option Int) : List (List Cell) → Int → Option Int
 | [], k => some k
 | row :: rows, k => (f row k).bind (hdR f rows)
def ng (o : Option Int) : Int := o.getD (-1)
def ps (k : Int) : Option Int := if k < 0 then none else some k
def hd : Sh → List Cell → Int → Option Int
 | .nil, _, k => some k
 | .i t r, .s (.int _ n) :: cs, k => if n = mkv t k then hd r cs (nx k) else none
 | .b r, .s (.bool x) :: cs, k => if x = (k.tmod 3 == 0) then hd r cs (nx k) else none
 | .l e r, .l rows :: cs, k => (ps (ng (hdR (hd e) rows k))).bind (hd r cs)
 | _, _, k => some k
def mt : Sh → List Cell → Int → List Cell × Int
 | .i _ r, c :: cs, k => (c :: (mt r cs k).1, (mt r cs k).2)
 | .b r, c :: cs, k => (c :: (mt r cs k).1, (mt r cs k).2)
 | .l e r, .l rows :: cs, k => (.l (mkR (mk e) rows k).1 :: (mt r cs (mkR (mk e) rows k).2).1, (mt r cs (mkR (mk e) rows k).2).2)
 | _, cs, k => (cs, k)
def ht : Sh → List Cell → Int → Option Int
 | .i _ r, _ :: cs, k => ht r cs k
 | .b r, _ :: cs, k => ht r cs k
 | .l e r, .l rows :: cs, k => (ps (ng (hdR (hd e) rows k))).bind (ht r cs)
 | _, _, k => some k
theorem z8q {k : Int} (h : ¬ k < 0) : ps k = some k := by unfold ps; rw [if_neg h]
theorem zb1 {k : Int} (h : k < 0) : ps k = none := by unfold ps; rw [if_pos h]
theorem y1i {o : Option Int} (h : o = none) : ng o = -1 := by rw [h]; rfl
theorem zaz {o : Option Int} {k : Int} (h : ng o = k) (hk : ¬ k < 0) : o = some k := by
 cases o with
 | none => exact absurd (h ▸ (by decide : (-1 : Int) < 0)) hk
 | some v => exact congrArg some h
theorem yc7 {e : Sh} : ∀ {cs : List Cell} {k v : Int}, 0 ≤ k → ht e cs k = some v → 0 ≤ v := by
 induction e with
 | nil => intro cs k v h0 h; simp only [ht, Option.some.injEq] at h; omega
 | i t r ih =>
   intro cs k v h0 h
   cases cs with
   | nil => simp only [ht, Option.some.injEq] at h; omega
   | cons c cs => exact ih h0 h
 | b r ih =>
   intro cs k v h0 h
   cases cs with
   | nil => simp only [ht, Option.some.injEq] at h; omega
   | cons c cs => exact ih h0 h
 | l e r _ ih =>
   intro cs k v h0 h
   cases cs with
   | nil => simp only [ht, Option.some.injEq] at h; omega
   | cons c cs =>
     cases c with
     | l rows =>
       simp only [ht] at h; obtain ⟨a, h1, h2⟩ := Option.bind_eq_some_iff.1 h; unfold ps at h1; split at h1
       · cases h1
       · cases h1; exact ih (by omega) h2
     | s v' => simp only [ht, Option.some.injEq] at h; omega
     | p row => simp only [ht, Option.some.injEq] at h; omega
     | f fn caps => simp only [ht, Option.some.injEq] at h; omega
     | m fn ag row => simp only [ht, Option.some.injEq] at h; omega
theorem qc7 {e : Sh} {cs : List Cell} {k v : Int} (h0 : 0 ≤ k) (h : ng (ht e cs k) = v) (hv : v < 0) : ht e cs k = none := by
 cases h1 : ht e cs k with
 | none => rfl
 | some a => have := yc7 h0 h1; rw [h1] at h; have h : a = v := h; omega
def q01 (f : List Cell → Nat) : List (List Cell) → Nat
 | [] => 0
 | row :: rows => f row + q01 f rows
def cnt : Sh → List Cell → Nat
 | .i _ r, _ :: cs => 1 + cnt r cs
 | .b r, _ :: cs => 1 + cnt r cs
 | .l e r, .l rows :: cs => q01 (cnt e) rows + cnt r cs
 | _, _ => 0
def tot : Sh → List Cell → Nat
 | .i _ r, _ :: cs => tot r cs
 | .b r, _ :: cs => tot r cs
 | .l e r, .l rows :: cs => rows.length + q01 (tot e) rows + tot r cs
 | _, _ => 0
def ql (e : Sh) (rows : List (List Cell)) : Nat := rows.length + q01 (tot e) rows
def wid : Sh → Nat
 | .i _ r => 1 + wid r
 | .b r => 1 + wid r
 | .l _ r => wid r
 | .nil => 0
def z4z : Sh → Nat
 | .i _ r => z4z r
 | .b r => z4z r
 | .l e r => wid e + z4z e + z4z r
 | .nil => 0
theorem y7j {k : Int} (h : 0 ≤ k) (h1 : k < 9000000000000000000) : nx k = k + 1 := wrap_i64 (by omega) (by omega)
theorem qq (f : List Cell → Int → List Cell × Int) : ∀ (rows : List (List Cell)) (k : Int), (mkR f rows k).1.length = rows.length
 | [], _ => rfl
 | row :: rows, k => by simp [mkR, qq f rows]
theorem WT.mono {N M : Nat} (h : N ≤ M) {e : Sh} {cs : List Cell} (hw : WT N e cs) : WT M e cs := by
 induction hw with
 | nil => exact .nil
 | i n _ ih => exact .i n ih
 | b x _ ih => exact .b x ih
 | l rows h1 _ _ ih1 ih2 => exact .l rows (by omega) ih1 ih2
theorem WR.mono {N M : Nat} (h : N ≤ M) {e : Sh} {rows : List (List Cell)} (hw : WR N e rows) : WR M e rows := ⟨Nat.le_trans hw.1 h, fun r hr => (hw.2 r hr).mono h⟩
theorem WT.zz {N : Nat} {k : IntKind} {r : Sh} {cs : List Cell} (h : WT N (.i k r) cs) : ∃ n cs', cs = .s (.int k n) :: cs' ∧ WT N r cs' := by
 cases h with | i n h => exact ⟨_, _, rfl, h⟩
theorem WT.z0f {N : Nat} {e r : Sh} {cs : List Cell} (h : WT N (.l e r) cs) : ∃ rows cs', cs = .l rows :: cs' ∧ WR N e rows ∧ WT N r cs' := by
 cases h with | l rows h1 h2 h3 => exact ⟨_, _, rfl, ⟨h1, h2⟩, h3⟩
theorem WT.qr {N : Nat} {cs : List Cell} (h : WT N .nil cs) : cs = [] := by
 cases h; rfl
theorem q8l {N : Nat} {e : Sh} {f : List Cell → Int → List Cell × Int} : ∀ {rows : List (List Cell)}, (∀ row ∈ rows, ∀ k, WT N e (f row k).1) → ∀ k, ∀ row ∈ (mkR f rows k).1, WT N e row
 | [], _, k, row, hr => by cases hr
 | r :: rows, h, k, row, hr => by
   rcases List.mem_cons.1 hr with rfl | hr
   · exact h r (by simp) k
   · exact q8l (fun row hr => h row (by simp [hr])) _ row hr
theorem zcc {N : Nat} {e : Sh} {cs : List Cell} (h : WT N e cs) : ∀ k, WT N e (mk e cs k).1 := by
 induction h with
 | nil => exact fun k => .nil
 | i n _ ih => exact fun k => .i _ (ih _)
 | b x _ ih => exact fun k => .b _ (ih _)
 | l rows h1 _ _ ih1 ih2 => exact fun k => .l _ (by rw [qq]; exact h1) (q8l ih1 k) (ih2 _)
theorem ya8 {N : Nat} {e : Sh} {rows : List (List Cell)} (h : WR N e rows) (k : Int) : WR N e (mkR (mk e) rows k).1 := ⟨by rw [qq]; exact h.1, q8l (fun row hr => zcc (h.2 row hr)) k⟩
theorem z6w {f : List Cell → Int → List Cell × Int} {g : List Cell → Int → Option Int} {c : List Cell → Nat} : ∀ {rows : List (List Cell)},
 (∀ row ∈ rows, ∀ k : Int, 0 ≤ k → k + c row ≤ 4000000000000000000 → g (f row k).1 k = some (k + c row) ∧ (f row k).2 = k + c row) →
 ∀ k : Int, 0 ≤ k → k + q01 c rows ≤ 4000000000000000000 → hdR g (mkR f rows k).1 k = some (k + q01 c rows) ∧ (mkR f rows k).2 = k + q01 c rows
 | [], _, k, _, _ => by simp [mkR, hdR, q01]
 | r :: rows, h, k, h0, h1 => by
   simp only [q01] at h1 ⊢; obtain ⟨e1, e2⟩ := h r (by simp) k h0 (by omega); obtain ⟨e3, e4⟩ := z6w (rows := rows) (fun row hr => h row (by simp [hr])) (k + c r) (by omega) (by omega); simp only [mkR, hdR, e1, e2, Option.bind_some, e3, e4]; constructor
   · congr 1; omega
   · omega
theorem z6d {N : Nat} {e : Sh} {cs : List Cell} (h : WT N e cs) : ∀ k : Int, 0 ≤ k → k + cnt e cs ≤ 4000000000000000000 → hd e (mk e cs k).1 k = some (k + cnt e cs) ∧ (mk e cs k).2 = k + cnt e cs := by
 induction h with
 | nil => intro k _ _; simp [mk, hd, cnt]
 | @i t r cs n _ ih =>
   intro k h0 h1; simp only [cnt] at h1; obtain ⟨e1, e2⟩ := ih (nx k) (by rw [y7j h0 (by omega)]; omega) (by rw [y7j h0 (by omega)]; omega); have hn : nx k + (cnt r cs : Nat) = k + (cnt (.i t r) (.s (.int t n) :: cs) : Nat) := by rw [y7j h0 (by omega)]; simp only [cnt]; omega
   simp only [mk, hd, if_true]; exact ⟨e1.trans (congrArg some hn), e2.trans hn⟩
 | @b r cs x _ ih =>
   intro k h0 h1; simp only [cnt] at h1; obtain ⟨e1, e2⟩ := ih (nx k) (by rw [y7j h0 (by omega)]; omega) (by rw [y7j h0 (by omega)]; omega); have hn : nx k + (cnt r cs : Nat) = k + (cnt (.b r) (.s (.bool x) :: cs) : Nat) := by rw [y7j h0 (by omega)]; simp only [cnt]; omega
   simp only [mk, hd, if_true]; exact ⟨e1.trans (congrArg some hn), e2.trans hn⟩
 | @l e r cs rows _ _ _ ih1 ih2 =>
   intro k h0 h1; simp only [cnt] at h1; obtain ⟨e1, e2⟩ := z6w ih1 k h0 (by omega); obtain ⟨e3, e4⟩ := ih2 (k + q01 (cnt e) rows) (by omega) (by omega); have hn : k + (q01 (cnt e) rows : Nat) + (cnt r cs : Nat) = k + (cnt (.l e r) (.l rows :: cs) : Nat) := by simp only [cnt]; omega
   have hp : ps (ng (some (k + (q01 (cnt e) rows : Nat)))) = some (k + q01 (cnt e) rows) := z8q (by show ¬ (k + _ < (0 : Int)); omega); simp only [mk, hd, e1, e2, hp, Option.bind_some]; exact ⟨e3.trans (congrArg some hn), e4.trans hn⟩
theorem z1z {f g : List Cell → Nat} {a b : Nat} : ∀ {rows : List (List Cell)}, (∀ row ∈ rows, f row ≤ a + b * g row) → q01 f rows ≤ a * rows.length + b * q01 g rows
 | [], _ => by simp [q01]
 | r :: rows, h => by
   have h1 := h r (by simp); have h2 := z1z (rows := rows) (fun row hr => h row (by simp [hr])); simp only [q01, List.length_cons, Nat.mul_add, Nat.mul_one]; omega
theorem z82 {N : Nat} {e : Sh} {cs : List Cell} (h : WT N e cs) : cnt e cs ≤ wid e + z4z e * tot e cs := by
 induction h with
 | nil => simp [cnt]
 | i n _ ih => simp only [cnt, wid, z4z, tot]; omega
 | b x _ ih => simp only [cnt, wid, z4z, tot]; omega
 | @l e r cs rows _ _ _ ih1 ih2 =>
   simp only [cnt, wid, z4z, tot]; have h1 := z1z ih1
   have h3 : (wid e + z4z e + z4z r) * (rows.length + q01 (tot e) rows + tot r cs) ≥ wid e * rows.length + z4z e * q01 (tot e) rows + z4z r * tot r cs := by
    have a1 : wid e * rows.length ≤ wid e * (rows.length + q01 (tot e) rows + tot r cs) := Nat.mul_le_mul_left _ (by omega); have a2 : z4z e * q01 (tot e) rows ≤ z4z e * (rows.length + q01 (tot e) rows + tot r cs) := Nat.mul_le_mul_left _ (by omega); have a3 : z4z r * tot r cs ≤ z4z r * (rows.length + q01 (tot e) rows + tot r cs) := Nat.mul_le_mul_left _ (by omega); simp only [Nat.add_mul]; omega
   omega
def md (f : List Cell → Int → List Cell × Int) (rows : List (List Cell)) (k : Int) (i : Nat) : List (List Cell) := (mkR f (rows.take i) k).1 ++ rows.drop i
def mdk (f : List Cell → Int → List Cell × Int) (rows : List (List Cell)) (k : Int) (i : Nat) : Int := (mkR f (rows.take i) k).2
theorem y2r (f : List Cell → Int → List Cell × Int) : ∀ (xs ys : List (List Cell)) (k : Int), mkR f (xs ++ ys) k = ((mkR f xs k).1 ++ (mkR f ys (mkR f xs k).2).1, (mkR f ys (mkR f xs k).2).2)
 | [], ys, k => rfl
 | x :: xs, ys, k => by simp [mkR, y2r f xs]
section
variable {f : List Cell → Int → List Cell × Int} {rows : List (List Cell)} {k : Int} {i : Nat} {row : List Cell}
theorem q11 (h : rows[i]? = some row) : rows.take (i + 1) = rows.take i ++ [row] := by rw [List.take_add_one, h]; rfl
theorem y0f : md f rows k 0 = rows := by simp [md, mkR]
theorem z05 : mdk f rows k 0 = k := by simp [mdk, mkR]
theorem y0z : md f rows k rows.length = (mkR f rows k).1 := by simp [md]
theorem q0f : mdk f rows k rows.length = (mkR f rows k).2 := by simp [mdk]
theorem z10 (h : i ≤ rows.length) : (md f rows k i).length = rows.length := by simp [md, qq]; omega
theorem q0z (h : rows[i]? = some row) : (md f rows k i)[i]? = some row := by
 have hi := (List.getElem?_eq_some_iff.1 h).1; unfold md; rw [List.getElem?_append_right (by simp [qq]; omega)]; simp only [qq, List.length_take, Nat.min_eq_left (Nat.le_of_lt hi), Nat.sub_self, List.getElem?_drop, Nat.add_zero]; exact h
theorem q04 (h : rows[i]? = some row) : mdk f rows k (i + 1) = (f row (mdk f rows k i)).2 := by
 unfold mdk; rw [q11 h, y2r]; rfl
theorem y10 (h : rows[i]? = some row) : (md f rows k i).set i (f row (mdk f rows k i)).1 = md f rows k (i + 1) := by
 have hi := (List.getElem?_eq_some_iff.1 h).1; have hl : (mkR f (rows.take i) k).1.length = i := by simp [qq]; omega
 unfold md; rw [q11 h, y2r, List.set_append_right _ _ (by omega), hl, Nat.sub_self]; have : rows.drop i = row :: rows.drop (i + 1) := by rw [List.drop_eq_getElem_cons hi]; rw [List.getElem?_eq_getElem hi] at h; cases h; rfl
 rw [this]; simp [mkR, mdk]
end
theorem y2n (f : List Cell → Int → Option Int) : ∀ (xs ys : List (List Cell)) (k : Int), hdR f (xs ++ ys) k = (hdR f xs k).bind (hdR f ys)
 | [], ys, k => rfl
 | x :: xs, ys, k => by
   simp only [List.cons_append, hdR]
   cases f x k with
   | none => rfl
   | some v => exact y2n f xs ys v
theorem z4r {f : List Cell → Int → Option Int} {rows : List (List Cell)} {i : Nat} {row : List Cell} {k v : Int} (h : rows[i]? = some row) (hv : hdR f (rows.take i) k = some v) : hdR f (rows.take (i + 1)) k = f row v := by
 rw [q11 h, y2n, hv]; simp only [Option.bind_some, hdR]; cases f row v <;> rfl
theorem y2d {f : List Cell → Int → Option Int} {rows : List (List Cell)} {i : Nat} {k : Int} (h : hdR f (rows.take i) k = none) : hdR f rows k = none := by
 rw [← List.take_append_drop i rows, y2n, h]; rfl
theorem ybr {N : Nat} {e : Sh} {cs : List Cell} (h : WT N e cs) : ∀ k, (mk e cs k).1.length = cs.length := by
 induction h with
 | nil => exact fun k => rfl
 | i n _ ih => exact fun k => by simp [mk, ih]
 | b x _ ih => exact fun k => by simp [mk, ih]
 | l rows _ _ _ _ ih => exact fun k => by simp [mk, ih]
theorem z5m {N : Nat} {e : Sh} : ∀ {rows : List (List Cell)}, (∀ row ∈ rows, WT N e row) → ∀ (k : Int) (j : Nat) (row row' : List Cell), rows[j]? = some row → (mkR (mk e) rows k).1[j]? = some row' → row'.length = row.length
 | [], _, k, j, row, row', h, _ => by simp at h
 | r :: rows, hw, k, 0, row, row', h, h' => by
   simp [mkR] at h h'; subst h; subst h'; exact ybr (hw r (by simp)) k
 | r :: rows, hw, k, j + 1, row, row', h, h' => by
   simp [mkR] at h h'; exact z5m (fun x hx => hw x (by simp [hx])) _ j row row' h h'
theorem qs {N : Nat} {e : Sh} {rows : List (List Cell)} (hw : WR N e rows) {k : Int} : ∀ (j : Nat) (row row' : List Cell), rows[j]? = some row → (mkR (mk e) rows k).1[j]? = some row' → row'.length = row.length := z5m hw.2 k
def szn (b : Int) (n : Nat) : Int := if b - n < 0 then -1 else b - n
theorem q0m {b : Int} {n : Nat} (h : b ≤ 1048576) (h0 : 0 ≤ b) : szn b n ≤ 1048576 := by unfold szn; split <;> omega
theorem zj {b : Int} {m n : Nat} (h : 0 ≤ szn b m) : szn (szn b m) n = szn b (m + n) := by
 unfold szn at *; split at h
 · omega
 · rename_i h1; simp only [if_neg h1]; split <;> split <;> omega
theorem yc {α : Type} {xs : List α} {i n : Nat} {x : α} (h : xs.length = n) : (xs.set i x).length = n := List.length_set.trans h
theorem lsr {xs : List (List Cell)} {i k n : Nat} {c : Cell} (h : xs.length = n) : (setRow xs i k c).length = n := q7n.trans h
theorem q00 {α : Type} {xs : List α} {i n : Nat} {x : α} (h : xs.length = n) (hi : i < n) : (xs.set i x)[i]? = some x := y67 (h ▸ hi)
theorem ssr {xs : List (List Cell)} {i k : Nat} {c : Cell} {r : List Cell} (h : i < xs.length) : setRow (xs.set i r) i k c = xs.set i (r.set k c) := by rw [zv (y67 h), List.set_set]
theorem cwi {k : IntKind} {n m : Int} (h : -9223372036854775808 ≤ n) (h2 : n ≤ 9223372036854775807) (e : n = m) : Cell.s (.int k (IntKind.i64.wrap n)) = Cell.s (.int k m) := by rw [wrap_i64 h h2, e]
theorem q1y (f : List Cell → Nat) : ∀ (xs ys : List (List Cell)), q01 f (xs ++ ys) = q01 f xs + q01 f ys
 | [], ys => by simp [q01]
 | x :: xs, ys => by simp [q01, q1y f xs, Nat.add_assoc]
theorem q0r {f : List Cell → Nat} {rows : List (List Cell)} {i : Nat} {row : List Cell} (h : rows[i]? = some row) : q01 f (rows.take (i + 1)) = q01 f (rows.take i) + f row := by
 rw [q11 h, q1y]; simp [q01]
theorem z0i (f : List Cell → Nat) (rows : List (List Cell)) (i : Nat) : q01 f rows = q01 f (rows.take i) + q01 f (rows.drop i) := by
 rw [← q1y, List.take_append_drop]
theorem q0v {N : Nat} {e : Sh} {rows : List (List Cell)} (h : ∀ row, WT N e row → tot e row = 0) (hw : WR N e rows) : ql e rows = rows.length := by
 have : ∀ rows : List (List Cell), (∀ row ∈ rows, WT N e row) → q01 (tot e) rows = 0 := by
  intro rows
  induction rows with
  | nil => intro _; rfl
  | cons r rows ih => intro hr; rw [q01, h r (hr r (by simp)), ih (fun x hx => hr x (by simp [hx]))]
 rw [ql, this rows hw.2, Nat.add_zero]
theorem yp {α : Type} {xs ys : List α} {i : Nat} {a : α} (h : xs.take i = ys.take i) (hx : xs[i]? = some a) (hy : ys[i]? = some a) : xs.take (i + 1) = ys.take (i + 1) := by
 rw [List.take_add_one, List.take_add_one, h, hx, hy]
noncomputable def dE {α : Type} (p q : α) : Bool := open Classical in decide (p = q)
theorem zk {α : Type} {p q : α} (h : p ≠ q) : Value.bool false = Value.bool (dE p q) := by simp [dE, h]
theorem qv {α : Type} {p q : α} (h : p = q) : Value.bool true = Value.bool (dE p q) := by simp [dE, h]
theorem q06 {α : Type} {p q : α} (h : (!dE p q) = true) : p ≠ q := by simpa [dE] using h
theorem y06 {α : Type} {p q : α} (h : (!dE p q) = false) : p = q := by simpa [dE] using h
abbrev i64 (n : Int) : Cell := .s (.int .i64 n)
abbrev rI (n : Int) : Res := .one (.own false [.s (.int .i64 n)])
abbrev rB (b : Bool) : Res := .one (.own false [.s (.bool b)])
end Go.Sx
end
section
namespace Go.Sx
open Go.Maps (Keyed)
section
variable {P : Program} [qo P] {Q : Ex → St → Prop} {st st1 : List Fr} {σ σ1 : St} {g : Bool} {o : Oper} {t : TypeId} {m x : Operand} {β k e n : Nat} {D : DataW Unit} {q : IntKind}
theorem zbx {r : Nat} (h : exec 2000 (qo.F P) st σ = .raw g σ1 o st1) (ho : o.op = .makeMap t none) (hd : o.dst = some r) (hu : P.underlying t = some (.map k e)) (hn : get σ1.b r = none)
 (h1 : G P Q st1 none ⟨(r, .one (.mx 0 r)) :: σ1.t, y0g σ1.b r (.mp k e 0 (.map []) none)⟩) : G P Q st none σ :=
 zbd h (by simp only [opL, ho]; exact ⟨r, k, e, rfl, hd, hu, hn, h1⟩)
theorem ycg {av : AV} {key : Value} {kl : Lit} (h : exec 2000 (qo.F P) st σ = .raw g σ1 o st1) (ho : o.op = .lookup t m x false) (hm : ev σ1 m = some (.one (.mx 0 β))) (hb : get σ1.b β = some (.mp k e n D none))
 (hu : P.underlying t = some (.map k e)) (he : P.underlying e = some (.int q)) (hK : Keyed P k) (hz : ∀ w, (zeroValue e).run P w = .ok (.int q 0) w) (hx : ev σ1 x = some av) (hv : valOf av = some key) (hkey : keyOf P k key = some kl)
 (h1 : ∀ c, D.atKey kl (.lit (.int q 0)) = .lit (.int q c) → (Lit.int q c).wf = true → G P Q st1 none (σ1.put o.dst (.one (.b (.s (.int q c)))))) : G P Q st none σ :=
 zbd h (by simp only [opL, ho]; exact .inl ⟨β, k, e, n, D, q, kl, av, key, rfl, hm, hb, hu, he, hK, hz, hx, hv, hkey, h1⟩)
theorem ycw {v : Operand} {av : AV} {key : Value} {kl : Lit} {c : Int} (h : exec 2000 (qo.F P) st σ = .raw g σ1 o st1) (ho : o.op = .mapUpdate t m x v) (hd : o.dst = none) (hm : ev σ1 m = some (.one (.mx 0 β))) (hb : get σ1.b β = some (.mp k e n D none))
 (hu : P.underlying t = some (.map k e)) (he : P.underlying e = some (.int q)) (hK : Keyed P k) (hn : n < maxLen) (hx : ev σ1 x = some av) (hv : valOf av = some key) (hkey : keyOf P k key = some kl) (hc : ev σ1 v = some (.one (.b (.s (.int q c))))) (hw : (Lit.int q c).wf = true)
 (h1 : G P Q st1 none ⟨σ1.t, y0g σ1.b β (.mp k e (n + 1) (D.put kl (.lit (.int q c))) none)⟩) : G P Q st none σ :=
 zbd h (by simp only [opL, ho]; exact ⟨β, k, e, n, D, q, kl, av, key, c, hd, hm, hb, hu, he, hK, hn, hx, hv, hkey, hc, hw, h1⟩)
theorem qbx {r : Nat} (h : exec 2000 (qo.F P) st σ = .raw g σ1 o st1) (ho : o.op = .range t m) (hd : o.dst = some r) (hm : ev σ1 m = some (.one (.mx 0 β))) (hb : get σ1.b β = some (.mp k e n D none)) (hr : get σ1.b r = none)
 (hu : P.underlying t = some (.map k e)) (hK : Keyed P k)
 (h1 : G P Q st1 none ⟨(r, .one (.mx 1 r)) :: σ1.t, y0g (y0g σ1.b β .dead) r (.mp k e n D (some (Maps.has D, Maps.size D, none)))⟩) : G P Q st none σ :=
 zbd h (by simp only [opL, ho]; exact ⟨r, β, k, e, n, D, hd, hm, hb, hr, hu, hK, h1⟩)
theorem qcg {r : Nat} {left : Lit → Bool} {cnt : Nat} {cur : Option (Value × Value)} (h : exec 2000 (qo.F P) st σ = .raw g σ1 o st1) (ho : o.op = .next m false) (hd : o.dst = some r) (hm : ev σ1 m = some (.one (.mx 1 β))) (hb : get σ1.b β = some (.mp k e n D (some (left, cnt, cur))))
 (hK : Keyed P k) (he : P.underlying e = some (.int q))
 (h0 : cnt = 0 → (∀ kl, left kl = false) → G P Q st1 none ⟨(r, .tup [.one (.b (.s (.bool false)))]) :: σ1.t, σ1.b⟩)
 (h1 : ∀ key kl c cnt', keyOf P k key = some kl → left kl = true → (∀ zd, D.atKey kl zd = .lit (.int q c)) → (Lit.int q c).wf = true → cnt' < cnt →
   ∃ av, z1u key = some av ∧ (∀ vs, av ≠ .tup vs) ∧ G P Q st1 none ⟨(r, .tup [.one (.b (.s (.bool true))), av, .one (.b (.s (.int q c)))]) :: σ1.t, y0g σ1.b β (.mp k e n D (some ((fun z => left z && !z.sameKey kl), cnt', some (key, .int q c))))⟩) : G P Q st none σ :=
 zbd h (by simp only [opL, ho]; exact ⟨r, β, k, e, n, D, left, cnt, cur, q, rfl, hd, hm, hb, hK, he, h0, h1⟩)
theorem ybx {r : Nat} {qk : IntKind} {left : Lit → Bool} {cnt : Nat} {cur : Option (Value × Value)} (h : exec 2000 (qo.F P) st σ = .raw g σ1 o st1) (ho : o.op = .next m false) (hd : o.dst = some r) (hm : ev σ1 m = some (.one (.mx 1 β))) (hb : get σ1.b β = some (.mp k e n D (some (left, cnt, cur))))
 (hK : Keyed P k) (hk : P.underlying k = some (.int qk)) (he : P.underlying e = some (.int q))
 (h0 : cnt = 0 → (∀ kl, left kl = false) → G P Q st1 none ⟨(r, .tup [.one (.b (.s (.bool false)))]) :: σ1.t, σ1.b⟩)
 (h1 : ∀ y c cnt', left (.int qk y) = true → (∀ zd, D.atKey (.int qk y) zd = .lit (.int q c)) → (Lit.int q c).wf = true → cnt' < cnt →
   G P Q st1 none ⟨(r, .tup [.one (.b (.s (.bool true))), .one (.b (.s (.int qk y))), .one (.b (.s (.int q c)))]) :: σ1.t, y0g σ1.b β (.mp k e n D (some ((fun z => left z && !z.sameKey (.int qk y)), cnt', some (.int qk y, .int q c))))⟩) : G P Q st none σ :=
 qcg h ho hd hm hb hK he h0 (fun key kl c cnt' hkey hl hat hw hlt => by
  obtain ⟨y, rfl, rfl, _⟩ := Maps.keyOf_int_inv hk hkey
  exact ⟨.one (.b (.s (.int qk y))), rfl, fun vs h => (nomatch h), h1 y c cnt' hl hat hw hlt⟩)
theorem qbw {r : Nat} {left : Lit → Bool} {cnt : Nat} {key u : Value} {av av' : AV} (h : exec 2000 (qo.F P) st σ = .raw g σ1 o st1) (ho : o.op = .entry m) (hd : o.dst = some r) (hm : ev σ1 m = some (.one (.mx 1 β))) (hb : get σ1.b β = some (.mp k e n D (some (left, cnt, some (key, u)))))
 (h2 : z1u key = some av) (h3 : z1u u = some av') (h4 : ∀ vs, av ≠ .tup vs) (h5 : ∀ vs, av' ≠ .tup vs) (h1 : G P Q st1 none ⟨(r, .tup [av, av']) :: σ1.t, σ1.b⟩) : G P Q st none σ :=
 zbd h (by simp only [opL, ho]; exact ⟨r, β, k, e, n, D, left, cnt, key, u, av, av', hd, hm, hb, h2, h4, h3, h5, h1⟩)
end
end Go.Sx
end
section
namespace Go.Sx
open Go.RowKit
def Sh.len : Sh → Nat
 | .nil => 0
 | .i _ r => r.len + 1
 | .b r => r.len + 1
 | .l _ r => r.len + 1
def Sh.app : Sh → Sh → Sh
 | .nil, t => t
 | .i k r, t => .i k (r.app t)
 | .b r, t => .b (r.app t)
 | .l e r, t => .l e (r.app t)
theorem WT.len {N : Nat} {s : Sh} {cs : List Cell} (h : WT N s cs) : cs.length = s.len := by
 induction h with
 | nil => rfl
 | i n _ ih => simp [Sh.len, ih]
 | b x _ ih => simp [Sh.len, ih]
 | l rows _ _ _ _ ih => simp [Sh.len, ih]
theorem WT.app {N : Nat} {s t : Sh} {xs ys : List Cell} (h : WT N s xs) (k : WT N t ys) : WT N (s.app t) (xs ++ ys) := by
 induction h with
 | nil => exact k
 | i n _ ih => exact .i n ih
 | b x _ ih => exact .b x ih
 | l rows h1 h2 _ _ ih => exact .l rows h1 h2 ih
abbrev OS (P : Program) (t : TypeId) (s : Sh) : Prop := z3w P t s.len (fun a : {cs : List Cell // WT 9223372036854775807 s cs} => a.1) (fun _ => True)
abbrev OSF (P : Program) (fs : List Field) (s : Sh) : Prop := q58 P fs s.len (fun a : {cs : List Cell // WT 9223372036854775807 s cs} => a.1) (fun _ => True)
section
variable {P : Program} {t e : TypeId}
theorem OS.mk {sz : Nat} {α : Type} {f : α → List Cell} {G : α → Prop} {s : Sh} (h : z3w P t sz f G) (hz : sz = s.len) (hw : ∀ a, G a → WT 9223372036854775807 s (f a)) : OS P t s :=
 ⟨h.hsz.trans hz, fun a => a.2.len, fun enc w base spare held fuel cs x hx => by
   obtain ⟨a, h1, h2⟩ := h.get enc w base spare held fuel cs x hx
   exact ⟨⟨f a, hw a h2⟩, h1, trivial⟩⟩
theorem zbt {k : IntKind} (ht : P.underlying t = some (.int k)) (hc : P.cellsOf t = 1) : OS P t (.i k .nil) := .mk (z8o ht hc) rfl fun n _ => .i n .nil
theorem y05 {s : Sh} (ht : P.underlying t = some (.slice e)) (hc : P.cellsOf t = 1) (he : OS P e s) : OS P t (.l s .nil) := .mk (z6e ht hc he) rfl fun l hl => .l _ (by
 have h : l.length ≤ maxLen := hl.1
 rw [List.length_map]; exact h) (fun row hr => by
 obtain ⟨a, _, rfl⟩ := List.mem_map.1 hr
 exact a.2) .nil
theorem z0g {fd : Field} {s : Sh} (h : OS P fd.type s) : OSF P [fd] s := y7k h
theorem zh {fd : Field} {fs : List Field} {s t u : Sh} (h : OS P fd.type s) (k : OSF P fs t) (hu : s.app t = u) (hl : s.len + t.len = u.len) : OSF P (fd :: fs) u := by
 have hc := q6d h k; subst hu; refine ⟨fun a => a.2.len, fun enc w base spare held fuel cs hn hx => ?_⟩; obtain ⟨a, h1, _⟩ := hc.2 enc w base spare held fuel cs (hn.trans hl.symm) hx; exact ⟨⟨_, a.1.2.app a.2.2⟩, h1, trivial⟩
theorem qz {fs : List Field} {s : Sh} (ht : P.underlying t = some (.struct fs.toArray)) (hc : P.cellsOf t = s.len) (hL : Laid P 0 fs) (hF : OSF P fs s) : OS P t s :=
 q5n (fun a => a) (fun _ => rfl) (fun _ h => h) (fun b => b.2.len) ht hc hL hF
theorem za3 {fs : Array Field} {s : Sh} (ht : P.underlying t = some (.struct fs)) (he : OS P t s) {H : Type} {enc : TypeId × Value → H} {w : World} {r : Reach} {b : Nat} {v : Value} {dd : DataW H} {ps : List MemPlace}
 (hv : Value.okWide P w r b t v) (h : DataW.Trod enc P w 0 (fun _ => true) true t v dd ps) : ∃ cs : List Cell, z9a w (fun _ => True) (.agg cs) v ∧ WT 9223372036854775807 s cs := by
 obtain ⟨a, h1, _⟩ := y76 ht he hv h; exact ⟨a.1, h1, a.2⟩
end
end Go.Sx
end
section
namespace Go.Sx
def qbs : OC → Cell
 | .s v => .s v
 | .l _ rows => .l rows
theorem PC.ybb {P : Program} {f : Nat} {args : List SV} {ag : Bool} {cs : List OC} (h : PC P f args (.one (.own ag cs))) : PC P f args (.one (.bor ag (cs.map qbs))) := by
 refine ⟨h.1, fun N w vals ha => (h.2 N w vals ha).mono ?_⟩
 rintro e w' ⟨v, S, rfl, hk, ⟨arr, F, h1, h2, h3, _, h5⟩, hS⟩
 refine ⟨v, fun _ => False, rfl, hk, ⟨arr, h1, by simp [h2], fun k c u hc hu => ?_⟩, fun x hx => hx.elim⟩; rw [List.getElem?_map] at hc
 cases ho : cs[k]? with
 | none => rw [ho] at hc; cases hc
 | some oc =>
   rw [ho] at hc; cases hc; have h6 := h5 k oc u ho hu
   cases oc with
   | s x => obtain ⟨rfl, h7⟩ := h6; exact .s _ h7
   | l sz rows =>
     obtain ⟨sz', _, h7⟩ := h6; exact (y1q.2 ⟨sz', h7⟩).rep fun x hx => ⟨.inr (hS x (h3 k x hx)).1, fun h => h⟩
theorem gm {α β : Type} {xs : List α} {i : Nat} {x : α} (f : α → β) (h : xs[i]? = some x) : (xs.map f)[i]? = some (f x) := by rw [List.getElem?_map, h]; rfl
theorem gx {α : Type} {xs : List α} {i : Nat} (h : i < xs.length) : ∃ x, xs[i]? = some x := ⟨_, List.getElem?_eq_getElem h⟩
def scan (f : Nat → Int) : Nat → Int
 | 0 => 0
 | n + 1 => if scan f n ≠ 0 then scan f n else f n
theorem ze {f : Nat → Int} : ∀ {n : Nat}, (∀ j, j < n → f j = 0) → scan f n = 0
 | 0, _ => rfl
 | n + 1, h => by rw [scan, ze (fun j hj => h j (by omega)), h n (by omega)]; simp
theorem yx {f : Nat → Int} : ∀ {n : Nat}, scan f n = 0 → ∀ j, j < n → f j = 0
 | n + 1, h, j, hj => by
   rw [scan] at h; split at h
   · rename_i h1; exact absurd h h1
   · rename_i h1
     have h1 : scan f n = 0 := by simpa using h1
     rcases Nat.lt_or_ge j n with h2 | h2
     · exact yx h1 j h2
     · have : j = n := by omega
       subst this; exact h
theorem z11 {f : Nat → Int} {i : Nat} (h0 : ∀ j, j < i → f j = 0) (h : f i ≠ 0) : ∀ {n : Nat}, i < n → scan f n = f i
 | n + 1, hi => by
   rw [scan]; rcases Nat.lt_or_ge i n with h2 | h2
   · have := z11 h0 h h2
     rw [this, if_pos h]
   · have : i = n := by omega
     subst this; rw [ze h0]; simp
theorem q8 {f : Nat → Int} {i n : Nat} {c : Int} (hi : i < n) (h0 : ∀ j, j < i → f j = 0) (hc : f i = c) (h : c ≠ 0) : c = scan f n := by rw [z11 h0 (by rw [hc]; exact h) hi, hc]
theorem zb {f : Nat → Int} {i : Nat} (h0 : ∀ j, j < i → f j = 0) (h : f i = 0) : ∀ j, j < i + 1 → f j = 0 := fun j hj => by
 rcases Nat.lt_or_ge j i with h2 | h2
 · exact h0 j h2
 · have : j = i := by omega
   subst this; exact h
theorem y16 {f g : Nat → Int} : ∀ {n : Nat}, (∀ j, j < n → (∀ k, k < j → f k = 0) → f j = g j) → scan f n = scan g n
 | 0, _ => rfl
 | n + 1, h => by
   have ih := y16 (f := f) (g := g) (n := n) (fun j hj => h j (by omega)); rw [scan, scan, ih]; split
   · rfl
   · rename_i h1
     have h1 : scan g n = 0 := by simpa using h1
     rw [← ih] at h1; exact h n (by omega) (yx h1)
def within (n lo hi : Int) : Bool := decide (lo ≤ n) && decide (n ≤ hi)
theorem within_iff {n lo hi : Int} : within n lo hi = true ↔ lo ≤ n ∧ n ≤ hi := by simp [within]
def y0l (a b : Int) : Int := if a < b then -1 else if b < a then 1 else 0
def orr : List Int → Int
 | [] => 0
 | x :: xs => if x ≠ 0 then x else orr xs
abbrev ints (xs : List Int) : List (List Cell) := xs.map fun n => [i64 n]
theorem y6e : ∀ {xs : List Int} {i : Nat} {x : Int}, xs[i]? = some x → (∀ (j : Nat) (y : Int), j < i → xs[j]? = some y → y = 0) → x ≠ 0 → orr xs = x
 | y :: xs, 0, x, h, _, hx => by simp at h; subst h; rw [orr, if_pos hx]
 | y :: xs, i + 1, x, h, h0, hx => by
   rw [orr, if_neg (by simpa using h0 0 y (by omega) rfl)]; exact y6e (by simpa using h) (fun j z hj hz => h0 (j + 1) z (by omega) (by simpa using hz)) hx
theorem y4z : ∀ {xs : List Int}, (∀ (j : Nat) (y : Int), xs[j]? = some y → y = 0) → orr xs = 0
 | [], _ => rfl
 | y :: xs, h => by
   rw [orr, if_neg (by simpa using h 0 y rfl)]; exact y4z (fun j z hz => h (j + 1) z (by simpa using hz))
structure Leg where
 (s a b v : Int)
abbrev Leg.cs (l : Leg) : List Cell := [i64 l.s, i64 l.a, i64 l.b, i64 l.v]
def Leg.bad (l : Leg) : Bool := !(within l.s 0 2 && within l.a 0 5 && within l.b 0 2 && within l.v (-1000000000000) 1000000000000)
def Leg.fault (l : Leg) : Int := if l.bad then 3 else if l.v = 0 then 1 else 0
def Leg.same (l m : Leg) : Bool := l.s == m.s && l.a == m.a && l.b == m.b
structure Con where
 id : Int
 legs : List Leg
abbrev Con.cs (c : Con) : List Cell := [i64 c.id, .l (c.legs.map Leg.cs)]
structure Bal where
 (a b v : Int)
abbrev Bal.cs (x : Bal) : List Cell := [i64 x.a, i64 x.b, i64 x.v]
def Bal.bad (x : Bal) : Bool := !(within x.a 0 5 && within x.b 0 2 && within x.v 1 1000000000000)
def Bal.key (x : Bal) : Int := x.a * 3 + x.b
def ahead {α : Type} (lt : α → α → Bool) (xs : List α) (i : Nat) (x : α) : Bool := bif Nat.beq i 0 then true else match xs[i - 1]? with | some p => lt p x | none => true
def y2l (xs : List Bal) (i : Nat) : Int := match xs[i]? with
 | some x => if x.bad then 3 else if ahead (fun p x => decide (p.key < x.key)) xs i x then 0 else 1
 | none => 0
theorem z5z {us : List Bal} {i : Nat} {x : Bal} (hx : us[i]? = some x) (h : y2l us i = 0) : x.bad = false := by
 cases hb : x.bad with
 | false => rfl
 | true => simp [y2l, hx, hb] at h
theorem Bal.q0y {x : Bal} (h : x.bad = false) : IntKind.i64.wrap (IntKind.i64.wrap (x.a * 3) + x.b) = x.key := by
 simp [Bal.bad, within] at h; rw [wrap_i64 (n := x.a * 3) (by omega) (by omega), wrap_i64 (by omega) (by omega)]; rfl
def ye (xs : List Bal) : Int := if 18 < xs.length then 2 else scan (y2l xs) xs.length
def hasB : List Bal → Int → Int → Int
 | [], _, _ => 0
 | x :: xs, a, b => if x.a = a ∧ x.b = b then x.v else hasB xs a b
theorem q2c : ∀ {xs : List Bal} {i : Nat} {x : Bal} {a b : Int}, xs[i]? = some x → (∀ (j : Nat) (y : Bal), j < i → xs[j]? = some y → ¬ (y.a = a ∧ y.b = b)) → x.a = a ∧ x.b = b → hasB xs a b = x.v
 | y :: xs, 0, x, a, b, h, _, hx => by simp at h; subst h; rw [hasB, if_pos hx]
 | y :: xs, i + 1, x, a, b, h, h0, hx => by
   rw [hasB, if_neg (h0 0 y (by omega) rfl)]; exact q2c (by simpa using h) (fun j z hj hz => h0 (j + 1) z (by omega) (by simpa using hz)) hx
theorem q3h : ∀ {xs : List Bal} {a b : Int}, (∀ (j : Nat) (y : Bal), xs[j]? = some y → ¬ (y.a = a ∧ y.b = b)) → hasB xs a b = 0
 | [], _, _, _ => rfl
 | y :: xs, a, b, h => by
   rw [hasB, if_neg (h 0 y rfl)]; exact q3h (fun j z hz => h (j + 1) z (by simpa using hz))
def y48 (xs : List Bal) (l : Leg) : Int := if hasB xs l.a l.b + l.v < 0 then 6 else if 1000000000000 < hasB xs l.a l.b + l.v then 3 else 0
def y6a (xs : List Bal) (ls : List Leg) (i : Nat) : Int := match ls[i]? with | some l => y48 xs l | none => 0
def z32 (xs : List Bal) (ls : List Leg) : Int := scan (y6a xs ls) ls.length
structure Mk where
 (c v : Int)
abbrev Mk.cs (x : Mk) : List Cell := [i64 x.c, i64 x.v]
def y0n : List Mk → Int → Int
 | [], _ => 0
 | x :: xs, c => if x.c = c then x.v else y0n xs c
theorem y1f : ∀ {xs : List Mk} {i : Nat} {x : Mk} {c : Int}, xs[i]? = some x → (∀ (j : Nat) (y : Mk), j < i → xs[j]? = some y → ¬ y.c = c) → x.c = c → y0n xs c = x.v
 | y :: xs, 0, x, c, h, _, hx => by simp at h; subst h; rw [y0n, if_pos hx]
 | y :: xs, i + 1, x, c, h, h0, hx => by
   rw [y0n, if_neg (h0 0 y (by omega) rfl)]; exact y1f (by simpa using h) (fun j z hj hz => h0 (j + 1) z (by omega) (by simpa using hz)) hx
theorem q13 : ∀ {xs : List Mk} {c : Int}, (∀ (j : Nat) (y : Mk), xs[j]? = some y → ¬ y.c = c) → y0n xs c = 0
 | [], _, _ => rfl
 | y :: xs, c, h => by
   rw [y0n, if_neg (h 0 y rfl)]; exact q13 (fun j z hz => h (j + 1) z (by simpa using hz))
def y2e (xs : List Mk) (i : Nat) : Int := match xs[i]? with
 | some x => if !(within x.c 1 1000000000 && within x.v 1 2) then 3 else if ahead (fun p x => decide (p.c < x.c)) xs i x then 0 else 1
 | none => 0
def qi (xs : List Mk) : Int := scan (y2e xs) xs.length
theorem qf {α : Type} {xs : List α} {i : Nat} {x : α} {p : α → Prop} (hx : xs[i]? = some x) (h : ∀ (j : Nat) (y : α), j < i → xs[j]? = some y → p y) (hp : p x) : ∀ (j : Nat) (y : α), j < i + 1 → xs[j]? = some y → p y := fun j y hj hy => by
 rcases Nat.lt_or_ge j i with h2 | h2
 · exact h j y h2 hy
 · have : j = i := by omega
   subst this; rw [hx] at hy; cases hy; exact hp
theorem qj {α : Type} {xs : List α} {i : Nat} {p : α → Prop} (hi : i = xs.length) (h : ∀ (j : Nat) (y : α), j < i → xs[j]? = some y → p y) : ∀ (j : Nat) (y : α), xs[j]? = some y → p y := fun j y hy => h j y (by have := (List.getElem?_eq_some_iff.1 hy).1; omega) hy
theorem z0p {i : Nat} (h0 : 0 < i) (h : i ≤ 9000000000000000000) : 0 ≤ IntKind.i64.wrap ((i : Int) - 1) := by rw [wrap_i64 (by omega) (by omega)]; omega
theorem z1d {α β : Type} {xs : List α} {i : Nat} {p : α} (f : α → β) (h0 : 0 < i) (h : i ≤ 9000000000000000000) (hp : xs[i - 1]? = some p) : (xs.map f)[(IntKind.i64.wrap ((i : Int) - 1)).toNat]? = some (f p) := by
 rw [wrap_i64 (by omega) (by omega), show ((i : Int) - 1).toNat = i - 1 by omega]; exact gm f hp
theorem ahead_zero {α : Type} {lt : α → α → Bool} {xs : List α} {x : α} : ahead lt xs 0 x = true := rfl
theorem za {α : Type} {lt : α → α → Bool} {xs : List α} {i : Nat} {x p : α} (h0 : 0 < i) (hp : xs[i - 1]? = some p) : ahead lt xs i x = lt p x := by
 unfold ahead; rw [beq_false (by omega), cond_false, hp]
theorem vi {a b : Int} (h : a = b) : Value.int .i64 a = Value.int .i64 b := by rw [h]
theorem vb {a b : Bool} (h : a = b) : Value.bool a = Value.bool b := by rw [h]
theorem ci {a b : Int} (h : a = b) : Cell.s (.int .i64 a) = Cell.s (.int .i64 b) := by rw [h]
structure Vt where
 (b v : Int)
abbrev Vt.cs (x : Vt) : List Cell := [i64 x.b, i64 x.v]
def Vt.none : Vt := ⟨-1, 0⟩
def Vt.ok (x : Vt) : Bool := within x.b 0 1000 && within x.v 1 2
structure Slt where
 (c s p lb lv : Int)
 cast : List Vt
abbrev Slt.cs (x : Slt) : List Cell := [i64 x.c, i64 x.s, i64 x.p, i64 x.lb, i64 x.lv, .l (x.cast.map Vt.cs)]
def q17 (xs : List Vt) (i : Nat) : Int := match xs[i]? with
 | some x => if !x.ok then 3 else if ahead (fun p x => !(decide (x.b < p.b) || (x.b == p.b && x.v != p.v))) xs i x then 0 else 1
 | none => 0
def y3z (xs : List Vt) : Vt := (xs[xs.length - 1]?).getD Vt.none
def Slt.fault (x : Slt) : Int :=
 if !(within x.c 1 1000000000 && within x.s 0 2 && within x.p (-1) 1000) then 3
 else if 60 < x.cast.length then 2
 else if scan (q17 x.cast) x.cast.length ≠ 0 then scan (q17 x.cast) x.cast.length
 else if ¬ (x.lb = (y3z x.cast).b ∧ x.lv = (y3z x.cast).v) ∨ x.p < x.lb then 1 else 0
def Slt.lt (p x : Slt) : Bool := if p.c = x.c then decide (p.s < x.s) else decide (p.c < x.c)
def y3w (xs : List Slt) (i : Nat) : Int := match xs[i]? with
 | some x => if x.fault ≠ 0 then x.fault else if ahead Slt.lt xs i x then 0 else 1
 | none => 0
structure Acc where
 slots : List Slt
abbrev Acc.cs (x : Acc) : List Cell := [.l (x.slots.map Slt.cs)]
def Acc.fault (x : Acc) : Int := if 60 < x.slots.length then 2 else scan (y3w x.slots) x.slots.length
def q37 : List Int → Int → List Int
 | [], v => [v]
 | x :: xs, v => if x < v then x :: q37 xs v else if x = v then x :: xs else v :: x :: xs
def qh (c : Con) (s : Int) : List Leg := c.legs.filter fun l => l.s == s
structure Shd where
 idx : Int
 bals : List Bal
 votes : List Mk
 held : List Con
 done : List Mk
 app : List Int
abbrev Shd.cs (s : Shd) : List Cell := [i64 s.idx, .l (s.bals.map Bal.cs), .l (s.votes.map Mk.cs), .l (s.held.map Con.cs), .l (s.done.map Mk.cs), .l (ints s.app)]
theorem lcr {B B' : List (Nat × AB)} : ∀ {l : List Cell}, zbp B B' (l.map .b) (l.map .b)
 | [] => trivial
 | _ :: l => ⟨rfl, lcr (l := l)⟩
def bsr (c : Nat → Bool) (i j : Nat) : Nat := if h : i < j then (if c ((i + j) / 2) then bsr c ((i + j) / 2 + 1) j else bsr c i ((i + j) / 2)) else i
termination_by j - i
theorem qa3 {c : Nat → Bool} {p n : Nat} (hc : ∀ k, k < n → c k = decide (k < p)) : ∀ (i j : Nat), i ≤ p → p ≤ j → j ≤ n → bsr c i j = p := by
 intro i j
 induction h : j - i using Nat.strongRecOn generalizing i j with
 | _ m ih =>
   intro h1 h2 h3; rw [bsr]; split
   · have hk := hc ((i + j) / 2) (by omega)
     split
     · rename_i ht
       rw [hk] at ht; have ht : (i + j) / 2 < p := by simpa using ht
       exact ih (j - ((i + j) / 2 + 1)) (by omega) _ _ rfl (by omega) h2 h3
     · rename_i ht
       rw [hk] at ht; have ht : ¬ (i + j) / 2 < p := by simpa using ht
       exact ih ((i + j) / 2 - i) (by omega) _ _ rfl h1 (by omega) (by omega)
   · omega
theorem half {i j : Nat} (hi : i ≤ 1048576) (hj : j ≤ 1048576) : IntKind.i64.wrap ((IntKind.u64.wrap (IntKind.i64.wrap ((i : Int) + j))).fdiv (2 ^ (min (1 : Int).toNat IntKind.u64.bits))) = (((i + j) / 2 : Nat) : Int) := by
 have e1 : IntKind.i64.wrap ((i : Int) + j) = (i : Int) + j := wrap_i64 (by omega) (by omega); have e2 : IntKind.u64.wrap ((i : Int) + j) = (i : Int) + j := by simp [IntKind.wrap, IntKind.signed, IntKind.bits]; omega
 have e3 : (2 : Int) ^ (min (1 : Int).toNat IntKind.u64.bits) = 2 := by decide
 rw [e1, e2, e3]; have e4 : ((i : Int) + j).fdiv 2 = (((i + j) / 2 : Nat) : Int) := by rw [Int.fdiv_eq_ediv_of_nonneg _ (by omega)]; omega
 rw [e4]; exact wrap_i64 (by omega) (by omega)
def y0h {α : Type} (p : α → Bool) : List α → Int
 | [] => -1
 | x :: l => if p x then 0 else if y0h p l < 0 then -1 else y0h p l + 1
theorem z03 {α : Type} {p : α → Bool} : ∀ {l : List α} {i : Nat} {x : α}, l[i]? = some x → (∀ (j : Nat) (y : α), j < i → l[j]? = some y → p y = false) → p x = true → y0h p l = i
 | y :: l, 0, x, h, _, hx => by simp at h; subst h; rw [y0h, if_pos hx]; rfl
 | y :: l, i + 1, x, h, h0, hx => by
   have ih := z03 (l := l) (by simpa using h) (fun j z hj hz => h0 (j + 1) z (by omega) (by simpa using hz)) hx; rw [y0h, if_neg (by rw [h0 0 y (by omega) rfl]; decide), ih, if_neg (by omega)]; omega
theorem qw {α : Type} {p : α → Bool} : ∀ {l : List α}, (∀ (j : Nat) (y : α), l[j]? = some y → p y = false) → y0h p l = -1
 | [], _ => rfl
 | y :: l, h => by
   rw [y0h, if_neg (by rw [h 0 y rfl]; decide), qw (l := l) (fun j z hz => h (j + 1) z (by simpa using hz))]; rfl
theorem q0e {α : Type} {p : α → Bool} : ∀ {l : List α}, decide (y0h p l ≥ 0) = l.any p
 | [] => rfl
 | y :: l => by
   have ih := q0e (p := p) (l := l); rw [y0h, List.any_cons]; by_cases h : p y = true
   · rw [if_pos h, h]; rfl
   · rw [if_neg h, show p y = false by simpa using h, Bool.false_or, ← ih]
     by_cases h2 : y0h p l < 0
     · rw [if_pos h2, show decide (y0h p l ≥ 0) = false by simp; omega]; rfl
     · rw [if_neg h2, show decide (y0h p l ≥ 0) = true by simp; omega]; simp; omega
def bsC {α : Type} (f : α → Int) (us : List α) (k : Nat) : Bool := match us[k]? with | some x => decide (f x < 0) | none => false
def bsP {α : Type} (f : α → Int) (us : List α) : Nat := bsr (bsC f us) 0 us.length
def bsF {α : Type} (f : α → Int) (us : List α) : Bool := match us[bsP f us]? with | some x => f x == 0 | none => false
def bsV {α : Type} (f : α → Int) (us : List α) : Res := .tup [.own false [.s (.int .i64 (bsP f us))], .own false [.s (.bool (bsF f us))]]
theorem y80 {c : Nat → Bool} {i j : Nat} (h : i < j) (hc : c ((i + j) / 2) = true) : bsr c i j = bsr c ((i + j) / 2 + 1) j := by rw [bsr, dif_pos h, if_pos hc]
theorem z80 {c : Nat → Bool} {i j : Nat} (h : i < j) (hc : c ((i + j) / 2) = false) : bsr c i j = bsr c i ((i + j) / 2) := by rw [bsr, dif_pos h, if_neg (by rw [hc]; decide)]
theorem q5z {c : Nat → Bool} {i j : Nat} (h : ¬ i < j) : bsr c i j = i := by rw [bsr, dif_neg h]
theorem y28 {α : Type} {f : α → Int} {us : List α} {k : Nat} {x : α} (h : us[k]? = some x) : bsC f us k = decide (f x < 0) := by unfold bsC; rw [h]
theorem z29 {α : Type} {f : α → Int} {us : List α} {k : Nat} {x : α} (hk : bsP f us = k) (h : us[k]? = some x) : bsF f us = (f x == 0) := by unfold bsF; rw [hk, h]
theorem q4k {α : Type} {f : α → Int} {us : List α} {k : Nat} (hk : bsP f us = k) (h : us.length ≤ k) : bsF f us = false := by unfold bsF; rw [hk, List.getElem?_eq_none h]
theorem yan {i j : Nat} (hi : i ≤ 1048576) (hj : j ≤ 1048576) : 0 ≤ IntKind.i64.wrap ((IntKind.u64.wrap (IntKind.i64.wrap ((i : Int) + j))).fdiv (2 ^ (min (1 : Int).toNat IntKind.u64.bits))) := by rw [half hi hj]; exact Int.natCast_nonneg _
theorem qan {α β : Type} {us : List α} {x : α} {i j : Nat} (f : α → β) (hi : i ≤ 1048576) (hj : j ≤ 1048576) (h : us[(i + j) / 2]? = some x) : (us.map f)[(IntKind.i64.wrap ((IntKind.u64.wrap (IntKind.i64.wrap ((i : Int) + j))).fdiv (2 ^ (min (1 : Int).toNat IntKind.u64.bits)))).toNat]? = some (f x) := by
 rw [half hi hj, Int.toNat_natCast]; exact gm f h
def z02 (p x : Bal) : Int := orr [y0l p.a x.a, y0l p.b x.b]
def q57 (us : List Bal) (a b : Int) : Int := bif bsF (fun x : Bal => z02 x ⟨a, b, 0⟩) us then (match us[bsP (fun x : Bal => z02 x ⟨a, b, 0⟩) us]? with | some x => x.v | none => 0) else 0
def y7h (us : List Bal) (l : Leg) : Int := if q57 us l.a l.b + l.v < 0 then 6 else if 1000000000000 < q57 us l.a l.b + l.v then 3 else 0
def q2e (us : List Mk) (c : Int) : Int := bif bsF (fun x : Mk => y0l x.c c) us then (match us[bsP (fun x : Mk => y0l x.c c) us]? with | some x => x.v | none => 0) else 0
theorem y2h {p x : Bal} (hp : p.bad = false) (hx : x.bad = false) : (0 ≤ z02 p x) ↔ ¬ p.key < x.key := by
 simp [Bal.bad, within] at hp hx; unfold z02 y0l orr orr orr Bal.key; split <;> split <;> (try split) <;> (try split) <;> omega
def y4t (hs : List Con) (c : Int) : Bool := hs.any fun x => x.id == c
def y44 (a b : List Leg) : Bool := a.any fun x => b.any fun y => x.a == y.a && x.b == y.b
theorem yv {α : Type} {p : α → Bool} {l : List α} {i : Nat} {x : α} (h : l[i]? = some x) (hx : p x = true) : true = l.any p := (List.any_eq_true.2 ⟨x, List.mem_of_getElem? h, hx⟩).symm
theorem any_none {α : Type} {p : α → Bool} {l : List α} (h : ∀ (j : Nat) (y : α), l[j]? = some y → p y = false) : false = l.any p := by
 rw [eq_comm, List.any_eq_false]; intro x hx; obtain ⟨j, hj⟩ := List.mem_iff_getElem?.1 hx; rw [h j x hj]; decide
theorem q18 {α : Type} {p : α → Bool} {l : List α} {i : Nat} {x : α} (h : l[i]? = some x) : (l.take (i + 1)).filter p = (l.take i).filter p ++ (if p x then [x] else []) := by
 rw [List.take_add_one, h, List.filter_append]; simp [List.filter_cons]
theorem q7z {α : Type} {f : α → Int} {us : List α} (h : us[bsP f us]? = none) : bsF f us = false := by unfold bsF; rw [h]
theorem q5y {us : List Bal} {a b : Int} (h : bsF (fun x : Bal => z02 x ⟨a, b, 0⟩) us = false) : 0 = q57 us a b := by unfold q57; rw [h]; rfl
theorem y6p {us : List Bal} {a b : Int} {x : Bal} (h : bsF (fun x : Bal => z02 x ⟨a, b, 0⟩) us = true) (hq : us[bsP (fun x : Bal => z02 x ⟨a, b, 0⟩) us]? = some x) : x.v = q57 us a b := by unfold q57; rw [h, hq]; rfl
theorem q4w {us : List Mk} {c : Int} (h : bsF (fun x : Mk => y0l x.c c) us = false) : 0 = q2e us c := by unfold q2e; rw [h]; rfl
theorem z5l {us : List Mk} {c : Int} {x : Mk} (h : bsF (fun x : Mk => y0l x.c c) us = true) (hq : us[bsP (fun x : Mk => y0l x.c c) us]? = some x) : x.v = q2e us c := by unfold q2e; rw [h, hq]; rfl
def y1d (l : List Leg) (a : Int) : Int := (l.map fun x => if x.b = a then x.v else 0).sum
def y27 (l : List Leg) : Bool := decide (y1d l 0 ≠ 0) || (decide (y1d l 1 ≠ 0) || decide (y1d l 2 ≠ 0))
def q35 (l : List Leg) (i : Nat) : Int := match l[i]? with | some x => if x.fault ≠ 0 then x.fault else if (l.take i).any (fun y => y.same x) then 7 else 0 | none => 0
def yi (c : Con) : Int := if within c.id 1 1000000000 then (if 2 ≤ c.legs.length ∧ c.legs.length ≤ 8 then (if scan (q35 c.legs) c.legs.length ≠ 0 then scan (q35 c.legs) c.legs.length else if y27 c.legs then 1 else 0) else 2) else 3
theorem y8z (l : List Leg) (x : Leg) (a : Int) : y1d (l ++ [x]) a = y1d l a + if x.b = a then x.v else 0 := by simp [y1d]
theorem y2j {l : List Leg} {i : Nat} {x : Leg} (h : l[i]? = some x) (a : Int) : y1d (l.take (i + 1)) a = y1d (l.take i) a + if x.b = a then x.v else 0 := by
 rw [List.take_add_one, h]; exact y8z _ _ _
def Leg.small (x : Leg) : Prop := -1000000000000 ≤ x.v ∧ x.v ≤ 1000000000000
theorem Leg.z09 {x : Leg} (h : x.fault = 0) : (0 ≤ x.s ∧ x.s ≤ 2) ∧ (0 ≤ x.a ∧ x.a ≤ 5) ∧ (0 ≤ x.b ∧ x.b ≤ 2) ∧ x.small ∧ x.v ≠ 0 := by
 unfold Leg.fault at h; split at h
 · omega
 · rename_i hb
   split at h
   · omega
   · rename_i hv
     simp [Leg.bad, within] at hb; unfold Leg.small; omega
theorem y55 : ∀ (l : List Leg) (a : Int), (∀ x ∈ l, x.small) → -1000000000000 * (l.length : Int) ≤ y1d l a ∧ y1d l a ≤ 1000000000000 * (l.length : Int)
 | [], a, _ => by simp [y1d]
 | x :: l, a, h => by
   have h1 := y55 l a (fun y hy => h y (List.mem_cons_of_mem _ hy)); have h2 := h x List.mem_cons_self; unfold Leg.small at h2; have e : y1d (x :: l) a = (if x.b = a then x.v else 0) + y1d l a := by simp [y1d]
   rw [e, List.length_cons]; split <;> omega
theorem y5t : ∀ (l : List Leg) (a : Int), (∀ x ∈ l, x.b ≠ a) → y1d l a = 0
 | [], _, _ => rfl
 | x :: l, a, h => by
   have e : y1d (x :: l) a = (if x.b = a then x.v else 0) + y1d l a := by simp [y1d]
   rw [e, if_neg (h x List.mem_cons_self), y5t l a (fun y hy => h y (List.mem_cons_of_mem _ hy))]; rfl
theorem q1n {l : List Leg} {i : Nat} (h : ∀ j, j < i → q35 l j = 0) : ∀ x ∈ l.take i, x.fault = 0 := fun x hx => by
 obtain ⟨j, hj⟩ := List.mem_iff_getElem?.1 hx; rw [List.getElem?_take] at hj; split at hj
 · rename_i hlt
   have := h j hlt; simp only [q35, hj] at this; split at this
   · exact absurd this ‹_›
   · simp_all
 · cases hj
theorem q7o {l : List Leg} (h : ∀ a, y1d l a = 0) : y27 l = false := by simp [y27, h]
theorem q3s {l : List Leg} (hf : ∀ x ∈ l, x.fault = 0) {a : Int} (h : y1d l a ≠ 0) : y27 l = true := by
 have : ∃ x ∈ l, x.b = a := by
  by_cases hx : ∃ x ∈ l, x.b = a
  · exact hx
  · exact absurd (y5t l a (fun x hm e => hx ⟨x, hm, e⟩)) h
 obtain ⟨x, hm, rfl⟩ := this; have h0 := (Leg.z09 (hf x hm)).2.2.1; have : x.b = 0 ∨ x.b = 1 ∨ x.b = 2 := by omega
 rcases this with e | e | e <;> rw [e] at h <;> simp [y27, h]
def q5p (l : List Leg) : List (List Cell) := [[i64 (y1d l 0)], [i64 (y1d l 1)], [i64 (y1d l 2)]]
theorem z5q {l : List Leg} {b : Int} (h0 : 0 ≤ b) (h2 : b ≤ 2) : (q5p l)[b.toNat]? = some [i64 (y1d l b)] := by
 have : b = 0 ∨ b = 1 ∨ b = 2 := by omega
 rcases this with rfl | rfl | rfl <;> rfl
theorem z7m {l : List Leg} {i : Nat} {x : Leg} (hi : l[i]? = some x) (h0 : 0 ≤ x.b) (h2 : x.b ≤ 2) (hd : ∀ y ∈ l.take i, y.fault = 0) (hx : x.fault = 0) (hn : i ≤ 8) :
 (q5p (l.take i)).set x.b.toNat [i64 (IntKind.i64.wrap (y1d (l.take i) x.b + x.v))] = q5p (l.take (i + 1)) := by
 have hb := y55 (l.take i) x.b (fun y hy => (Leg.z09 (hd y hy)).2.2.2.1); have hs := (Leg.z09 hx).2.2.2.1; unfold Leg.small at hs; have hlen : (l.take i).length ≤ 8 := by rw [List.length_take]; omega
 rw [wrap_i64 (by omega) (by omega)]; unfold q5p; rw [y2j hi, y2j hi, y2j hi]; have : x.b = 0 ∨ x.b = 1 ∨ x.b = 2 := by omega
 rcases this with e | e | e <;> rw [e] <;> simp
def SM (l : List Leg) (D : DataW Unit) : Prop := Maps.IsMap D ∧ ∀ a : Int, D.atKey (.int .i64 a) (.lit (.int .i64 0)) = .lit (.int .i64 (y1d l a))
theorem qbg : SM [] (.map []) := ⟨Maps.isMap_empty, fun _ => rfl⟩
theorem q6a {k : IntKind} {a b : Int} (h : (DataW.lit (.int k a) : DataW Unit) = .lit (.int k b)) : a = b := by simpa using h
theorem z7v {l : List Leg} {i : Nat} {x : Leg} {D : DataW Unit} (h : SM (l.take i) D) (hx : x.fault = 0) (hd : ∀ y ∈ l.take i, y.fault = 0) (hn : i ≤ 8) {c : Int} (hc : D.atKey (.int .i64 x.b) (.lit (.int .i64 0)) = .lit (.int .i64 c)) :
 c = y1d (l.take i) x.b ∧ IntKind.i64.wrap (c + x.v) = y1d (l.take i) x.b + x.v := by
 have e : c = y1d (l.take i) x.b := q6a (hc.symm.trans (h.2 x.b)); have b := y55 (l.take i) x.b (fun y hy => (Leg.z09 (hd y hy)).2.2.2.1); have hs := (Leg.z09 hx).2.2.2.1; unfold Leg.small at hs; have hlen : (l.take i).length ≤ 8 := by rw [List.length_take]; omega
 refine ⟨e, ?_⟩; rw [e, wrap_i64 (by omega) (by omega)]
theorem yad {l : List Leg} {i : Nat} {x : Leg} {D : DataW Unit} (h : SM (l.take i) D) (hi : l[i]? = some x) (hx : x.fault = 0) (hd : ∀ y ∈ l.take i, y.fault = 0) (hn : i ≤ 8) {c : Int} (hc : D.atKey (.int .i64 x.b) (.lit (.int .i64 0)) = .lit (.int .i64 c)) :
 SM (l.take (i + 1)) (D.put (.int .i64 x.b) (.lit (.int .i64 (IntKind.i64.wrap (c + x.v))))) := by
 refine ⟨h.1.put _ _, fun a => ?_⟩; rw [y2j hi, (z7v h hx hd hn hc).2]; by_cases ha : x.b = a
 · rw [if_pos ha, ← ha]
   exact Maps.atKey_put_same (k := .int .i64 x.b) h.1 trivial _ _
 · rw [if_neg ha, Maps.atKey_put_other (by intro e'; injection e' with _ e'; exact ha e'.symm), h.2 a]
   simp
theorem wfi {n : Int} (h1 : -9223372036854775808 ≤ n) (h2 : n ≤ 9223372036854775807) : (Lit.int .i64 n).wf = true := by
 simp [Lit.wf, IntKind.min, IntKind.max, IntKind.signed, IntKind.bits]; omega
theorem zbs {l : List Leg} {left : Lit → Bool} {y c : Int} (h : ∀ a : Int, left (.int .i64 a) = false → y1d l a = 0) (hc : y1d l y = c) (h0 : c = 0) : ∀ a : Int, (left (.int .i64 a) && !(Lit.int .i64 a).sameKey (.int .i64 y)) = false → y1d l a = 0 := fun a ha => by
 by_cases e : a = y
 · subst e; rw [hc]; exact h0
 · refine h a ?_
   have h1 : (Lit.int IntKind.i64 a).sameKey (Lit.int IntKind.i64 y) = false := Maps.sameKey_ne (fun h => e (by injection h))
   simpa [h1] using ha
theorem zad {l : List Leg} {D : DataW Unit} (h : SM l D) : ∀ a : Int, Maps.has D (.int .i64 a) = false → y1d l a = 0 := fun a ha => q6a ((h.2 a).symm.trans (Maps.atKey_of_not_has ha _))
theorem yc4 {l : List Leg} {D : DataW Unit} (h : SM l D) {y c : Int} (hat : ∀ zd, D.atKey (.int .i64 y) zd = .lit (.int .i64 c)) : y1d l y = c := q6a ((h.2 y).symm.trans (hat _))
def y59 {α : Type} (f : α → Int) (us : List α) : Prop := ∀ (i j : Nat) (x y : α), i < j → us[i]? = some x → us[j]? = some y → f y ≤ 0 → f x < 0
theorem y35 {α : Type} {f : α → Int} {us : List α} (hs : y59 f us) {i : Nat} {x : α} (hx : us[i]? = some x) (h0 : f x = 0) : bsP f us = i ∧ bsF f us = true := by
 have hi : i < us.length := (List.getElem?_eq_some_iff.1 hx).1
 have hp : bsP f us = i := qa3 (n := us.length) (fun k hk => by
  obtain ⟨y, hy⟩ := gx hk; rw [y28 hy]; rcases Nat.lt_trichotomy k i with h | h | h
  · have := hs k i y x h hy hx (by omega)
    rw [decide_eq_true this, decide_eq_true h]
  · subst h; rw [hx] at hy; cases hy; rw [decide_eq_false (by omega), decide_eq_false (by omega)]
  · have : ¬ f y < 0 := fun h1 => by have := hs i k x y h hx hy (by omega); omega
    rw [decide_eq_false this, decide_eq_false (by omega)]) 0 us.length (Nat.zero_le _) (Nat.le_of_lt hi) (Nat.le_refl _)
 refine ⟨hp, ?_⟩; rw [z29 hp hx, h0]; rfl
theorem y5z {α : Type} {f : α → Int} {us : List α} (h : ∀ (i : Nat) (x : α), us[i]? = some x → f x ≠ 0) : bsF f us = false := by
 unfold bsF; split
 · rename_i x hx; have := h _ x hx; simpa using this
 · rfl
theorem q4l {α : Type} {key : α → Int} {us : List α} (h : ∀ (j : Nat) (p x : α), us[j]? = some p → us[j + 1]? = some x → key p < key x) : ∀ (i j : Nat) (x y : α), i < j → us[i]? = some x → us[j]? = some y → key x < key y := by
 intro i j
 induction j with
 | zero => intro x y hij; omega
 | succ j ih =>
   intro x y hij hx hy; have hj : j < us.length := by have := (List.getElem?_eq_some_iff.1 hy).1; omega
   obtain ⟨z, hz⟩ := gx hj; have h1 := h j z y hz hy; rcases Nat.lt_or_ge i j with h2 | h2
   · have := ih x z h2 hx hz; omega
   · have : i = j := by omega
     subst this; rw [hx] at hz; cases hz; exact h1
theorem zak {a b : Int} : y0l a b ≤ 0 ↔ a ≤ b := by unfold y0l; split <;> (try split) <;> omega
theorem yak {a b : Int} : y0l a b < 0 ↔ a < b := by unfold y0l; split <;> (try split) <;> omega
theorem z4m {a b : Int} : y0l a b = 0 ↔ a = b := by unfold y0l; split <;> (try split) <;> omega
theorem z2j {α : Type} {key : α → Int} {us : List α} (h : ∀ (i j : Nat) (x y : α), i < j → us[i]? = some x → us[j]? = some y → key x < key y) (c : Int) : y59 (fun x => y0l (key x) c) us := fun i j x y hij hx hy h0 => by
 have := h i j x y hij hx hy; rw [zak] at h0; exact yak.2 (by omega)
theorem z1a {us : List Mk} (h : qi us = 0) : ∀ (i j : Nat) (x y : Mk), i < j → us[i]? = some x → us[j]? = some y → x.c < y.c :=
 q4l (key := Mk.c) (fun j p x hp hx => by
  have hj := (List.getElem?_eq_some_iff.1 hx).1; have := yx h (j + 1) hj; simp only [y2e, hx] at this; split at this
  · omega
  · split at this
    · rename_i ha
      rw [za (p := p) (by omega) (by simpa using hp)] at ha
      simpa using ha
    · omega)
theorem z2r {us : List Mk} (h : qi us = 0) (c : Int) : q2e us c = y0n us c := by
 by_cases hx : ∃ (i : Nat) (x : Mk), us[i]? = some x ∧ x.c = c
 · obtain ⟨i, x, hx, e⟩ := hx
   have hc := z1a h; obtain ⟨h1, h2⟩ := y35 (z2j (key := Mk.c) hc c) hx (z4m.2 e); rw [← z5l h2 (by rw [h1]; exact hx)]; exact (y1f hx (fun j y hj hy e' => by have := hc j i y x hj hy hx; omega) e).symm
 · have hn : ∀ (i : Nat) (x : Mk), us[i]? = some x → ¬ x.c = c := fun i x h1 h2 => hx ⟨i, x, h1, h2⟩
   rw [← q4w (y5z (f := fun x : Mk => y0l x.c c) (fun i x h1 => fun h2 => hn i x h1 (z4m.1 h2)))]; exact (q13 hn).symm
theorem zw {us : List Bal} (h : ye us = 0) : us.length ≤ 18 ∧ (∀ x ∈ us, x.bad = false) ∧ ∀ (i j : Nat) (x y : Bal), i < j → us[i]? = some x → us[j]? = some y → x.key < y.key := by
 unfold ye at h; split at h
 · omega
 · rename_i hl
   refine ⟨by omega, fun x hx => ?_, q4l (key := Bal.key) (fun j p x hp hx => ?_)⟩
   · obtain ⟨j, hj⟩ := List.mem_iff_getElem?.1 hx
     exact z5z hj (yx h j (List.getElem?_eq_some_iff.1 hj).1)
   · have hj := (List.getElem?_eq_some_iff.1 hx).1
     have := yx h (j + 1) hj; simp only [y2l, hx] at this; split at this
     · omega
     · split at this
       · rename_i ha
         rw [za (p := p) (by omega) (by simpa using hp)] at ha
         simpa using ha
       · omega
theorem q3m {x : Bal} {a b : Int} : z02 x ⟨a, b, 0⟩ = 0 ↔ x.a = a ∧ x.b = b := by
 unfold z02 y0l orr orr orr; dsimp only
 repeat' split
 all_goals omega
theorem q2h {x y t : Bal} (hx : x.bad = false) (hy : y.bad = false) (h : x.key < y.key) (h0 : z02 y t ≤ 0) : z02 x t < 0 := by
 simp [Bal.bad, within] at hx hy; unfold Bal.key at h
 revert h0
 unfold z02 y0l orr orr orr; intro h0
 repeat' split
 all_goals (repeat' split at h0)
 all_goals omega
theorem q34 {us : List Bal} (h : ye us = 0) (a b : Int) : q57 us a b = hasB us a b := by
 obtain ⟨_, hb, hc⟩ := zw h; by_cases hx : ∃ (i : Nat) (x : Bal), us[i]? = some x ∧ x.a = a ∧ x.b = b
 · obtain ⟨i, x, hx, e⟩ := hx
   have hs : y59 (fun x : Bal => z02 x ⟨a, b, 0⟩) us := fun i j x y hij h1 h2 h0 => q2h (hb x (List.mem_of_getElem? h1)) (hb y (List.mem_of_getElem? h2)) (hc i j x y hij h1 h2) h0
   obtain ⟨h1, h2⟩ := y35 hs hx (q3m.2 e); rw [← y6p h2 (by rw [h1]; exact hx)]
   exact (q2c hx (fun j y hj hy e' => by
    have h3 := hc j i y x hj hy hx; have h4 : y.key = x.key := by unfold Bal.key; rw [e'.1, e'.2, e.1, e.2]
    omega) e).symm
 · have hn : ∀ (i : Nat) (x : Bal), us[i]? = some x → ¬ (x.a = a ∧ x.b = b) := fun i x h1 h2 => hx ⟨i, x, h1, h2⟩
   rw [← q5y (y5z (f := fun x : Bal => z02 x ⟨a, b, 0⟩) (fun i x h1 => fun h2 => hn i x h1 (q3m.1 h2)))]; exact (q3h hn).symm
theorem z2n {us : List Bal} (h : ∀ x ∈ us, x.bad = false) (a b : Int) : 0 ≤ hasB us a b ∧ hasB us a b ≤ 1000000000000 := by
 induction us with
 | nil => simp [hasB]
 | cons y us ih =>
   rw [hasB]; split
   · have := h y List.mem_cons_self
     simp [Bal.bad, within] at this; omega
   · exact ih (fun x hx => h x (List.mem_cons_of_mem _ hx))
def q1t (mk : List Mk → Int → Int) (s : Shd) (i : Nat) : Int := match s.held[i]? with
 | some c => if yi c ≠ 0 then yi c else if (!(ahead (fun p x : Con => decide (p.id < x.id)) s.held i c)) || ((qh c s.idx).length == 0 || (mk s.votes c.id != 1 || mk s.done c.id != 0)) then 1 else 0
 | none => 0
def yr (mk : List Mk → Int → Int) (s : Shd) : Int := scan (q1t mk s) s.held.length
def z7k (s : Shd) (m : Mk) : Bool := m.v == 1 && (!(bsF (fun x : Con => y0l x.id m.c) s.held) && q2e s.done m.c == 0)
def q40 (s : Shd) (m : Mk) : Bool := m.v == 1 && (!(y4t s.held m.c) && y0n s.done m.c == 0)
def q4x (s : Shd) (a b : Con) : Bool := (qh a s.idx).any fun l => (qh b s.idx).any fun m => l.same m
def y1v (s : Shd) (i : Nat) : Int := match s.held[i]? with | some c => if (s.held.take i).any fun own => q4x s own c then 7 else 0 | none => 0
def q1h (s : Shd) (i : Nat) : Int := match s.held[i]? with | some c => if (s.held.take i).any fun own => y44 (qh c s.idx) (qh own s.idx) then 7 else 0 | none => 0
def q48 (us : List Bal) (ls : List Leg) (i : Nat) : Int := match ls[i]? with | some l => y7h us l | none => 0
def z1v (us : List Bal) (ls : List Leg) : Int := scan (q48 us ls) ls.length
def z7d (code : List Bal → List Leg → Int) (s : Shd) (i : Nat) : Int := match s.held[i]? with | some c => code s.bals (qh c s.idx) | none => 0
def y09 (meet : Shd → Nat → Int) (code : List Bal → List Leg → Int) (s : Shd) : Int := if scan (meet s) s.held.length ≠ 0 then scan (meet s) s.held.length else scan (z7d code s) s.held.length
theorem y0i {c : Con} (h : yi c = 0) : (1 ≤ c.id ∧ c.id ≤ 1000000000) ∧ (2 ≤ c.legs.length ∧ c.legs.length ≤ 8) ∧ ∀ l ∈ c.legs, l.fault = 0 := by
 unfold yi at h; split at h
 · rename_i h1
   split at h
   · rename_i h2
     split at h
     · rename_i h3; exact absurd h h3
     · rename_i h3
       have h3 : scan (q35 c.legs) c.legs.length = 0 := by simpa using h3
       refine ⟨Go.Sx.within_iff.1 h1, h2, fun l hl => ?_⟩; exact q1n (i := c.legs.length) (yx h3) l (by rwa [List.take_length])
   · omega
 · omega
theorem z4s {mk : List Mk → Int → Int} {s : Shd} (h : yr mk s = 0) : ∀ c ∈ s.held, yi c = 0 := fun c hc => by
 obtain ⟨j, hj⟩ := List.mem_iff_getElem?.1 hc; have := yx h j (List.getElem?_eq_some_iff.1 hj).1; simp only [q1t, hj] at this; split at this
 · rename_i h1; exact absurd this h1
 · rename_i h1; simpa using h1
theorem z7e {mk : List Mk → Int → Int} {s : Shd} (h : yr mk s = 0) : ∀ (i j : Nat) (x y : Con), i < j → s.held[i]? = some x → s.held[j]? = some y → x.id < y.id :=
 q4l (key := Con.id) (fun j p x hp hx => by
  have hj := (List.getElem?_eq_some_iff.1 hx).1; have := yx h (j + 1) hj; simp only [q1t, hx] at this; split at this
  · rename_i h1; exact absurd this h1
  · split at this
    · omega
    · rename_i ha
      rw [za (p := p) (by omega) (by simpa using hp)] at ha; simp at ha
      exact ha.1)
theorem z8c {s : Shd} (hb : ye s.bals = 0) {c : Con} (hc : yi c = 0) : ∀ l ∈ qh c s.idx, -9000000000000000000 ≤ hasB s.bals l.a l.b + l.v ∧ hasB s.bals l.a l.b + l.v ≤ 9000000000000000000 := fun l hl => by
 have h1 := z2n (zw hb).2.1 l.a l.b; have h2 := (Leg.z09 ((y0i hc).2.2 l (List.mem_filter.1 hl).1)).2.2.2.1; unfold Leg.small at h2; omega
theorem y9i {s : Shd} (hb : ye s.bals = 0) {c : Con} (hc : yi c = 0) : ∀ l ∈ qh c s.idx, -9000000000000000000 ≤ q57 s.bals l.a l.b + l.v ∧ q57 s.bals l.a l.b + l.v ≤ 9000000000000000000 := fun l hl => by
 rw [q34 hb]; exact z8c hb hc l hl
theorem y8j {us : List Bal} (h : ye us = 0) (ls : List Leg) : z1v us ls = z32 us ls := by
 unfold z1v z32; refine y16 (fun j hj _ => ?_); unfold q48 y6a
 cases ls[j]? with
 | some l => simp only [y7h, y48, q34 h]
 | none => rfl
theorem z5h {s : Shd} (hv : qi s.votes = 0) (hd : qi s.done = 0) : yr q2e s = yr y0n s := by
 unfold yr; refine y16 (fun j hj _ => ?_); unfold q1t; split
 · rw [z2r hv, z2r hd]
 · rfl
theorem y8f {s : Shd} {mk : List Mk → Int → Int} (h : yr mk s = 0) (c : Int) : bsF (fun x : Con => y0l x.id c) s.held = y4t s.held c := by
 by_cases hx : ∃ (i : Nat) (x : Con), s.held[i]? = some x ∧ x.id = c
 · obtain ⟨i, x, hx, e⟩ := hx
   rw [(y35 (z2j (key := Con.id) (z7e h) c) hx (z4m.2 e)).2]; exact yv hx (by simp [e])
 · have hn : ∀ (i : Nat) (x : Con), s.held[i]? = some x → ¬ x.id = c := fun i x h1 h2 => hx ⟨i, x, h1, h2⟩
   rw [y5z (f := fun x : Con => y0l x.id c) (fun i x h1 h2 => hn i x h1 (z4m.1 h2))]; exact any_none (fun i x h1 => by simpa using hn i x h1)
theorem z4a (s : Shd) (a b : Con) : q4x s a b = y44 (qh b s.idx) (qh a s.idx) := by
 unfold q4x y44; rw [Bool.eq_iff_iff]; simp only [List.any_eq_true]; have hs : ∀ {c : Con} {l : Leg}, l ∈ qh c s.idx → l.s = s.idx := fun {c l} hl => by simpa using (List.mem_filter.1 hl).2
 constructor
 · rintro ⟨l, hl, m, hm, h⟩
   refine ⟨m, hm, l, hl, ?_⟩; simp [Leg.same] at h ⊢; omega
 · rintro ⟨m, hm, l, hl, h⟩
   refine ⟨l, hl, m, hm, ?_⟩; have h1 := hs hl; have h2 := hs hm; simp [Leg.same] at h ⊢; omega
theorem z6m {s : Shd} (h : ye s.bals = 0) : y09 y1v z1v s = y09 q1h z32 s := by
 have e1 : scan (y1v s) s.held.length = scan (q1h s) s.held.length := y16 (fun j _ _ => by
  unfold y1v q1h; split
  · simp only [z4a]
  · rfl)
 have e2 : scan (z7d z1v s) s.held.length = scan (z7d z32 s) s.held.length := y16 (fun j _ _ => by
  unfold z7d; split
  · exact y8j h _
  · rfl)
 unfold y09; rw [e1, e2]
def z9b (s : Shd) (i : Nat) : Int := match s.app[i]? with | some a => if y0n s.done a != 1 || ((s.app.take i).any fun y => y == a) then 1 else 0 | none => 0
def q3x (us : List Mk) : Nat := (us.filter fun m => m.v == 1).length
theorem q7a {us : List Mk} {i : Nat} {x : Mk} (h : us[i]? = some x) : q3x (us.take (i + 1)) = q3x (us.take i) + (if x.v == 1 then 1 else 0) := by
 unfold q3x; rw [q18 h, List.length_append]; split <;> rfl
theorem y6s (us : List Mk) (i : Nat) : q3x (us.take i) ≤ i := by
 unfold q3x; exact Nat.le_trans (List.length_filter_le _ _) (by rw [List.length_take]; omega)
def q5w (s : Shd) : Bool := scan (z9b s) s.app.length == 0 && q3x s.done == s.app.length
def many (s : Shd) : Bool := decide (100 < s.votes.length) || (decide (100 < s.held.length) || (decide (100 < s.done.length) || decide (100 < s.app.length)))
def y11 (s : Shd) : Int :=
 if yr y0n s ≠ 0 then yr y0n s else if s.votes.any (q40 s) then 1 else if q5w s then y09 q1h z32 s else 1
def zl (s : Shd) : Int :=
 if within s.idx 0 2 then (if ye s.bals ≠ 0 then ye s.bals else if many s then 2 else if qi s.votes ≠ 0 then qi s.votes else if qi s.done ≠ 0 then qi s.done else y11 s) else 3
def y26 (ok : Bool) (s : Shd) : Int :=
 if within s.idx 0 2 then (if ye s.bals ≠ 0 then ye s.bals else if many s then 2 else
  if orr [qi s.votes, qi s.done, yr q2e s] ≠ 0 then orr [qi s.votes, qi s.done, yr q2e s] else
  if s.votes.any (z7k s) || !ok then 1 else y09 y1v z1v s) else 3
theorem z54 (s : Shd) : y26 (q5w s) s = zl s := by
 unfold y26 zl y11; split
 · split
   · rfl
   · rename_i hb
     have hb : ye s.bals = 0 := by simpa using hb
     split
     · rfl
     · simp only [orr]
       by_cases hv : qi s.votes = 0
       · by_cases hd : qi s.done = 0
         · rw [z5h hv hd, z6m hb]
           by_cases hh : yr y0n s = 0
           · have : z7k s = q40 s := by
              funext m
              unfold z7k q40; rw [y8f hh, z2r hd]
             rw [this]; simp only [hv, hd, hh]; cases s.votes.any (q40 s) <;> cases q5w s <;> simp
           · simp [hv, hd, hh]
         · simp [hv, hd]
       · simp [hv]
 · rfl
theorem qax (s : Shd) : decide (mx (mx (mx ((s.votes.map Mk.cs).length : Nat) ((s.held.map Con.cs).length : Nat)) ((s.done.map Mk.cs).length : Nat)) ((ints s.app).length : Nat) > 100) = many s := by
 unfold many; simp only [List.length_map, ints]; rw [Bool.eq_iff_iff]; simp only [Bool.or_eq_true, decide_eq_true_eq]; unfold mx
 repeat' split
 all_goals omega
theorem zcl {a b c : Int} (h : (orr [a, b, c] != 0) = false) : a = 0 ∧ b = 0 ∧ c = 0 := by
 simp only [orr] at h; by_cases ha : a = 0 <;> by_cases hb : b = 0 <;> by_cases hc : c = 0 <;> simp_all
theorem q6z {s : Shd} {c : Int} (e : c = yr y0n s) (h : c ≠ 0) : c = y11 s := by unfold y11; rw [if_pos (by rw [← e]; exact h)]; exact e
theorem y9v {s : Shd} (h : yr y0n s = 0) (ho : true = s.votes.any (q40 s)) : 1 = y11 s := by unfold y11; rw [if_neg (by rw [h]; decide), if_pos ho.symm]
theorem q9v {s : Shd} (h : yr y0n s = 0) (ho : false = s.votes.any (q40 s)) (ha : q5w s = false) : 1 = y11 s := by unfold y11; rw [if_neg (by rw [h]; decide), if_neg (by rw [← ho]; decide), if_neg (by rw [ha]; decide)]
theorem y54 {s : Shd} {c : Int} (h : yr y0n s = 0) (ho : false = s.votes.any (q40 s)) (ha : q5w s = true) (e : c = y09 q1h z32 s) : c = y11 s := by unfold y11; rw [if_neg (by rw [h]; decide), if_neg (by rw [← ho]; decide), if_pos ha]; exact e
theorem q7q {meet : Shd → Nat → Int} {code : List Bal → List Leg → Int} {s : Shd} {c : Int} (e : c = scan (meet s) s.held.length) (h : c ≠ 0) : c = y09 meet code s := by unfold y09; rw [if_pos (by rw [← e]; exact h)]; exact e
theorem q4g {meet : Shd → Nat → Int} {code : List Bal → List Leg → Int} {s : Shd} {c : Int} (h : scan (meet s) s.held.length = 0) (e : c = scan (z7d code s) s.held.length) : c = y09 meet code s := by unfold y09; rw [if_neg (by rw [h]; decide)]; exact e
theorem ya3 {t : Bool} {v : Int} (h : ((if t = true then v else 3) != 0) = false) : t = true ∧ v = 0 := by
 cases t with
 | true => exact ⟨rfl, by simpa using h⟩
 | false => simp at h
theorem y5r {s : Shd} (h : ((if within s.idx 0 2 = true then ye s.bals else 3) != 0) = true) : (if within s.idx 0 2 = true then ye s.bals else 3) = zl s := by
 unfold zl; split
 · rename_i hw; rw [if_pos hw] at h; rw [if_pos (by simpa using h)]
 · rfl
theorem q5r {s : Shd} {c : Int} (h : within s.idx 0 2 = true ∧ ye s.bals = 0) (e : c = if many s then 2 else if qi s.votes ≠ 0 then qi s.votes else if qi s.done ≠ 0 then qi s.done else y11 s) : c = zl s := by
 unfold zl; rw [if_pos h.1, if_neg (by rw [h.2]; decide)]; exact e
theorem q8m {xs : List Int} : ∀ {ys : List Int}, xs.Nodup → (∀ x ∈ xs, x ∈ ys) → ∃ zs, ys.Perm (xs ++ zs) := by
 induction xs with
 | nil => intro ys _ _; exact ⟨ys, List.Perm.refl _⟩
 | cons x xs ih =>
   intro ys hn hm; obtain ⟨hx, hn⟩ := List.nodup_cons.1 hn; obtain ⟨zs, hz⟩ := ih (ys := ys.erase x) hn (fun y hy => (List.mem_erase_of_ne (fun e => hx (by rw [← e]; exact hy))).2 (hm y (List.mem_cons_of_mem _ hy))); exact ⟨zs, (List.perm_cons_erase (hm x List.mem_cons_self)).trans (hz.cons x)⟩
def dnI (us : List Mk) : List Int := (us.filter fun m => m.v == 1).map Mk.c
theorem y9f {us : List Mk} {i : Nat} {x : Mk} (h : us[i]? = some x) : dnI (us.take (i + 1)) = if x.v == 1 then dnI (us.take i) ++ [x.c] else dnI (us.take i) := by
 unfold dnI; rw [q18 h, List.map_append]; split
 · rfl
 · simp
theorem q84 (us : List Mk) : (dnI us).length = q3x us := by unfold dnI q3x; rw [List.length_map]
theorem y1j {α : Type} {r : α → α → Prop} : ∀ {us : List α}, (∀ (i j : Nat) (x y : α), i < j → us[i]? = some x → us[j]? = some y → r x y) → us.Pairwise r
 | [], _ => List.Pairwise.nil
 | x :: us, h => List.Pairwise.cons (fun y hy => by
     obtain ⟨j, hj⟩ := List.mem_iff_getElem?.1 hy
     exact h 0 (j + 1) x y (by omega) rfl (by simpa using hj)) (y1j (us := us) (fun i j a b hij ha hb => h (i + 1) (j + 1) a b (by omega) (by simpa using ha) (by simpa using hb)))
theorem qa5 {us : List Mk} (h : qi us = 0) : (dnI us).Pairwise (· < ·) := by
 unfold dnI; rw [List.pairwise_map]; exact (y1j (r := fun a b : Mk => a.c < b.c) (z1a h)).sublist List.filter_sublist
theorem y6d {us : List Int} (h : us.Pairwise (· < ·)) : us.Nodup := h.imp (fun h => by omega)
theorem y8l {us : List Mk} (h : qi us = 0) (c : Int) : c ∈ dnI us ↔ y0n us c = 1 := by
 unfold dnI; rw [List.mem_map]; constructor
 · rintro ⟨m, hm, rfl⟩
   obtain ⟨hm, hv⟩ := List.mem_filter.1 hm; obtain ⟨i, hi⟩ := List.mem_iff_getElem?.1 hm; rw [y1f hi (fun j y hj hy e => by have := z1a h j i y m hj hy hi; omega) rfl]
   simpa using hv
 · intro hc
   by_cases hx : ∃ (i : Nat) (x : Mk), us[i]? = some x ∧ x.c = c
   · obtain ⟨i, x, hx, e⟩ := hx
     have := y1f hx (fun j y hj hy e' => by have := z1a h j i y x hj hy hx; omega) e; exact ⟨x, List.mem_filter.2 ⟨List.mem_of_getElem? hx, by simp; omega⟩, e⟩
   · have hn : ∀ (i : Nat) (x : Mk), us[i]? = some x → ¬ x.c = c := fun i x h1 h2 => hx ⟨i, x, h1, h2⟩
     rw [q13 hn] at hc; omega
theorem y8m : ∀ {us : List Int}, (∀ (i : Nat) (x : Int), us[i]? = some x → ¬ x ∈ us.take i) → us.Nodup := by
 intro us h
 exact y1j (fun i j x y hij hx hy e => h j y hy (by
  rw [← e]
  exact List.mem_iff_getElem?.2 ⟨i, by rw [List.getElem?_take_of_lt hij]; exact hx⟩))
theorem y9b {s : Shd} (h : qi s.done = 0) : q5w s = true ↔ (∀ x ∈ s.app, x ∈ dnI s.done) ∧ s.app.Nodup ∧ (dnI s.done).length = s.app.length := by
 unfold q5w; rw [q84]; simp only [Bool.and_eq_true, beq_iff_eq]; rw [← and_assoc]; refine and_congr_left (fun _ => ?_); constructor
 · intro h0
   have hz : ∀ (i : Nat) (x : Int), s.app[i]? = some x → y0n s.done x = 1 ∧ ¬ x ∈ s.app.take i := fun i x hx => by
    have := yx h0 i (List.getElem?_eq_some_iff.1 hx).1; simp only [z9b, hx] at this; split at this
    · omega
    · rename_i h1
      simp at h1; exact ⟨h1.1, h1.2⟩
   refine ⟨fun x hx => ?_, y8m fun i x hx => (hz i x hx).2⟩; obtain ⟨i, hi⟩ := List.mem_iff_getElem?.1 hx; exact (y8l h x).2 (hz i x hi).1
 · rintro ⟨h1, h2⟩
   refine ze (fun i hi => ?_); obtain ⟨x, hx⟩ := gx hi; simp only [z9b, hx]; rw [if_neg]; have e := (y8l h x).1 (h1 x (List.mem_of_getElem? hx))
   have e2 : ¬ x ∈ s.app.take i := fun hm => by
    obtain ⟨j, hj⟩ := List.mem_iff_getElem?.1 hm; have hji : j < i := by have := (List.getElem?_eq_some_iff.1 hj).1; rw [List.length_take] at this; omega
    rw [List.getElem?_take_of_lt hji] at hj; obtain ⟨q1, q2⟩ := List.getElem?_eq_some_iff.1 hj; obtain ⟨q3, q4⟩ := List.getElem?_eq_some_iff.1 hx; have := (List.pairwise_iff_getElem.1 h2) j i q1 q3 hji; exact this (by rw [q2, q4])
   simp [e]; exact e2
def y0o (xs : List Int) : List Int := xs.mergeSort (fun a b => decide (a ≤ b))
theorem z76 {s : Shd} (h : qi s.done = 0) : (y0o s.app == dnI s.done) = q5w s := by
 rw [Bool.eq_iff_iff, y9b h, beq_iff_eq]; unfold y0o; have hp := List.mergeSort_perm s.app (fun a b : Int => decide (a ≤ b)); constructor
 · intro e
   rw [e] at hp; exact ⟨fun x hx => hp.symm.subset hx, hp.nodup_iff.1 (y6d (qa5 h)), hp.length_eq⟩
 · rintro ⟨h1, h2, h3⟩
   obtain ⟨zs, hz⟩ := q8m h2 h1; have hl := hz.length_eq; rw [List.length_append] at hl; have hz0 : zs = [] := List.eq_nil_of_length_eq_zero (by omega); subst hz0; rw [List.append_nil] at hz; refine List.Perm.eq_of_pairwise (le := fun a b : Int => decide (a ≤ b) = true) (fun a b _ _ h1 h2 => by simp at h1 h2; omega) (List.pairwise_mergeSort (fun a b c h1 h2 => by simp at h1 h2 ⊢; omega) (fun a b => by simp; omega) _) ((qa5 h).imp (fun h => by simp; omega)) (hp.trans hz.symm)
structure Msg where
 (k to fr c s b v ob ov : Int)
abbrev Msg.cs (m : Msg) : List Cell := [i64 m.k, i64 m.to, i64 m.fr, i64 m.c, i64 m.s, i64 m.b, i64 m.v, i64 m.ob, i64 m.ov]
structure Tr where
 (c s b v : Int)
 fr : List Int
 olds : List Vt
abbrev Tr.cs (t : Tr) : List Cell := [i64 t.c, i64 t.s, i64 t.b, i64 t.v, .l (ints t.fr), .l (t.olds.map Vt.cs)]
structure Hd where
 (c s b v f : Int)
abbrev Hd.cs (h : Hd) : List Cell := [i64 h.c, i64 h.s, i64 h.b, i64 h.v, i64 h.f]
structure Ldr where
 n : Int
 tries : List Tr
 known : List Hd
abbrev Ldr.cs (l : Ldr) : List Cell := [i64 l.n, .l (l.tries.map Tr.cs), .l (l.known.map Hd.cs)]
structure Clu where
 cons : List Con
 shs : List Shd
 accs : List Acc
 ldrs : List Ldr
 msgs : List Msg
abbrev Clu.cs (c : Clu) : List Cell := [.l (c.cons.map Con.cs), .l (c.shs.map Shd.cs), .l (c.accs.map Acc.cs), .l (c.ldrs.map Ldr.cs), .l (c.msgs.map Msg.cs)]
instance instDecidableEqLeg : DecidableEq Leg := fun x y =>
 if h : x.s = y.s ∧ x.a = y.a ∧ x.b = y.b ∧ x.v = y.v then isTrue (by cases x; cases y; simp_all) else isFalse (fun e => h (by subst e; exact ⟨rfl, rfl, rfl, rfl⟩))
def qci (s : Shd) : Prop := s.bals.length ≤ 1048576 ∧ s.votes.length ≤ 1048576 ∧ s.held.length ≤ 1048576 ∧ s.done.length ≤ 1048576 ∧ s.app.length ≤ 1048576 ∧ ∀ c ∈ s.held, c.legs.length ≤ 1048576
def z7t (a : Acc) : Prop := a.slots.length ≤ 1048576 ∧ ∀ s ∈ a.slots, s.cast.length ≤ 1048576
def ybh (t : Tr) : Prop := t.fr.length ≤ 1048576 ∧ t.olds.length ≤ 1048576
def qac (l : Ldr) : Prop := l.tries.length ≤ 1048576 ∧ l.known.length ≤ 1048576 ∧ ∀ t ∈ l.tries, ybh t
def zy (c : Clu) : Prop := (c.cons.length ≤ 1048576 ∧ ∀ x ∈ c.cons, x.legs.length ≤ 1048576) ∧ (c.shs.length ≤ 1048576 ∧ ∀ s ∈ c.shs, qci s) ∧ (c.accs.length ≤ 1048576 ∧ ∀ a ∈ c.accs, z7t a) ∧ (c.ldrs.length ≤ 1048576 ∧ ∀ l ∈ c.ldrs, qac l) ∧ c.msgs.length ≤ 1048576
def qbm (c : Con) (s : Int) : Bool := c.legs.any fun l => l.s == s
def q02 (cs : List Con) (id : Int) : Option Con := cs.find? fun c => c.id == id
def z13 (cs : List Con) (id s : Int) : Bool := match q02 cs id with | some c => qbm c s | none => false
theorem q0s {α : Type} {p : α → Bool} : ∀ {l : List α} {x : α}, l.find? p = some x → ∃ i : Nat, y0h p l = i ∧ l[i]? = some x
 | y :: l, x, h => by
   rw [List.find?_cons] at h; by_cases hy : p y = true
   · rw [hy] at h; cases h; exact ⟨0, by rw [y0h, if_pos hy]; rfl, rfl⟩
   · rw [show p y = false by simpa using hy] at h
     obtain ⟨i, h1, h2⟩ := q0s h; exact ⟨i + 1, by rw [y0h, if_neg hy, h1, if_neg (by omega)]; omega, by simpa using h2⟩
theorem y21 {α : Type} {p : α → Bool} : ∀ {l : List α}, l.find? p = none → y0h p l = -1
 | [], _ => rfl
 | y :: l, h => by
   rw [List.find?_cons] at h; by_cases hy : p y = true
   · rw [hy] at h; cases h
   · rw [show p y = false by simpa using hy] at h
     rw [y0h, if_neg hy, y21 h]; rfl
theorem q7h (c : Con) (s : Int) : decide (0 < (qh c s).length) = qbm c s := by
 unfold qh qbm; rw [Bool.eq_iff_iff, decide_eq_true_eq, List.length_pos_iff_exists_mem, List.any_eq_true]; simp only [List.mem_filter]
theorem z4y {x v : Int} : ∀ {l : List Int}, x ∈ q37 l v ↔ x = v ∨ x ∈ l
 | [] => by simp [q37]
 | y :: l => by
   rw [q37]; split
   · rw [List.mem_cons, z4y (l := l), List.mem_cons]
     constructor
     · rintro (h | h | h) <;> simp [h]
     · rintro (h | h | h) <;> simp [h]
   · split
     · rename_i h; subst h; simp
     · simp
theorem z6f {v : Int} : ∀ {l : List Int} {i : Nat}, i ≤ l.length → (∀ (j : Nat) (x : Int), j < i → l[j]? = some x → x < v) → (∀ x, l[i]? = some x → ¬ x < v) → q37 l v = if l[i]? = some v then l else l.take i ++ v :: l.drop i
 | [], i, hi, _, _ => by
   have : i = 0 := by simpa using hi
   subst this; rfl
 | y :: l, 0, _, _, h1 => by
   have hy := h1 y rfl; rw [q37, if_neg hy]; by_cases e : y = v
   · subst e; simp
   · rw [if_neg e, if_neg (by simpa using e)]; rfl
 | y :: l, i + 1, hi, h0, h1 => by
   have hy := h0 0 y (by omega) rfl; rw [q37, if_pos hy, z6f (l := l) (i := i) (by simpa using hi) (fun j x hj hx => h0 (j + 1) x (by omega) (by simpa using hx)) (fun x hx => h1 x (by simpa using hx))]; simp only [List.getElem?_cons_succ]; split
   · rfl
   · simp
theorem z8r {v : Int} : ∀ {l : List Int}, l.Pairwise (· < ·) → (q37 l v).Pairwise (· < ·)
 | [], _ => by simp [q37]
 | x :: l, h => by
   obtain ⟨h1, h2⟩ := List.pairwise_cons.1 h; rw [q37]; split
   · rename_i hx
     refine List.pairwise_cons.2 ⟨fun y hy => ?_, z8r h2⟩; rcases z4y.1 hy with rfl | hy
     · exact hx
     · exact h1 y hy
   · split
     · exact h
     · refine List.pairwise_cons.2 ⟨fun y hy => ?_, h⟩
       rcases List.mem_cons.1 hy with rfl | hy
       · omega
       · have := h1 y hy; omega
theorem y1z {l : List Int} {v : Int} {i : Nat} (hs : l.Pairwise (· < ·)) (h0 : ∀ (j : Nat) (x : Int), j < i → l[j]? = some x → x < v) (h1 : ∀ x, l[i]? = some x → ¬ x < v) : l.contains v = (l[i]? == some v) := by
 rw [Bool.eq_iff_iff, List.contains_iff_mem, beq_iff_eq]; constructor
 · intro hm
   obtain ⟨j, hj⟩ := List.mem_iff_getElem?.1 hm; rcases Nat.lt_trichotomy j i with h | h | h
   · have := h0 j v h hj; omega
   · subst h; exact hj
   · obtain ⟨hj1, hj2⟩ := List.getElem?_eq_some_iff.1 hj
     have hi : i < l.length := by omega
     have := (List.pairwise_iff_getElem.1 hs) i j hi hj1 h; have := h1 l[i] (List.getElem?_eq_getElem hi); omega
 · exact fun h => List.mem_of_getElem? h
theorem q50 {v : Int} : ∀ {l : List Int}, l.Pairwise (· < ·) → l.contains v = true → q37 l v = l
 | [], _, h => by simp at h
 | x :: l, hs, h => by
   obtain ⟨h1, h2⟩ := List.pairwise_cons.1 hs; rw [q37]; by_cases e : x = v
   · rw [if_neg (by omega), if_pos e]
   · have hm : v ∈ l := by
      rw [List.contains_iff_mem] at h; rcases List.mem_cons.1 h with rfl | h
      · exact absurd rfl e
      · exact h
     rw [if_pos (h1 v hm), q50 h2 (by rw [List.contains_iff_mem]; exact hm)]
def shF (ls : List Leg) : List Int := ls.foldl (fun l x => q37 l x.s) []
theorem y6z {ls : List Leg} {i : Nat} {x : Leg} (h : ls[i]? = some x) : shF (ls.take (i + 1)) = q37 (shF (ls.take i)) x.s := by
 unfold shF; rw [List.take_add_one, h, List.foldl_append]; rfl
theorem y3k {x : Int} : ∀ {ls : List Leg} {l : List Int}, x ∈ ls.foldl (fun l x => q37 l x.s) l ↔ x ∈ l ∨ ∃ y ∈ ls, y.s = x
 | [], l => by simp
 | y :: ls, l => by
   rw [List.foldl_cons, y3k (ls := ls), z4y]; constructor
   · rintro ((h | h) | ⟨z, h, e⟩)
     · exact .inr ⟨y, List.mem_cons_self, h.symm⟩
     · exact .inl h
     · exact .inr ⟨z, List.mem_cons_of_mem _ h, e⟩
   · rintro (h | ⟨z, h, e⟩)
     · exact .inl (.inr h)
     · rcases List.mem_cons.1 h with rfl | h
       · exact .inl (.inl e.symm)
       · exact .inr ⟨z, h, e⟩
theorem zb6 (c : Con) (s : Int) : (shF c.legs).any (fun y => y == s) = qbm c s := by
 unfold qbm shF; rw [Bool.eq_iff_iff, List.any_eq_true, List.any_eq_true]; simp only [y3k, List.not_mem_nil, false_or, beq_iff_eq]; constructor
 · rintro ⟨x, ⟨y, h, e⟩, e2⟩; exact ⟨y, h, by rw [e, e2]⟩
 · rintro ⟨y, h, e⟩; exact ⟨s, ⟨y, h, e⟩, rfl⟩
theorem q9r {l : List Int} {v : Int} : (q37 l v).length ≤ l.length + 1 := by
 induction l with
 | nil => simp [q37]
 | cons x l ih =>
   rw [q37]; split
   · simp; omega
   · split <;> simp
theorem z26 : ∀ (ls : List Leg) (i : Nat), (shF (ls.take i)).length ≤ i
 | ls, 0 => by simp [shF]
 | ls, i + 1 => by
   cases h : ls[i]? with
   | some x => rw [y6z h]; have := z26 ls i; have := q9r (l := shF (ls.take i)) (v := x.s); omega
   | none => rw [List.take_add_one, h]; simp; have := z26 ls i; omega
theorem q4e (ls : List Leg) : (shF ls).Pairwise (· < ·) := by
 unfold shF
 have : ∀ (ls : List Leg) (l : List Int), l.Pairwise (· < ·) → (ls.foldl (fun l x => q37 l x.s) l).Pairwise (· < ·) := by
  intro ls
  induction ls with
  | nil => intro l h; exact h
  | cons y ls ih => intro l h; exact ih _ (z8r h)
 exact this ls [] List.Pairwise.nil
def toN (c : Clu) (m : Msg) : Nat := if m.k = 1 ∨ m.k = 6 then c.shs.length else if m.k = 3 ∨ m.k = 5 then c.ldrs.length else c.accs.length
def frN (c : Clu) (m : Msg) : Nat := if m.k = 4 then c.ldrs.length else c.accs.length
def ends (c : Clu) (m : Msg) : Bool := within m.to 0 ((toN c m : Int) - 1) && (decide (m.k < 3) || decide (5 < m.k) || within m.fr 0 ((frN c m : Int) - 1))
def Msg.shd (m : Msg) : Int := if m.k = 1 ∨ m.k = 6 then m.to else m.s
def ranges (c : Clu) (m : Msg) : Bool := z13 c.cons m.c m.shd && (!(decide (2 ≤ m.k) && decide (m.k ≤ 5)) || within m.b 0 1000) && (!(m.k == 2 || m.k == 3 || m.k == 6) || within m.v 1 2) && (!(m.k == 5) || (m.ob == -1 && m.ov == 0) || (Vt.ok ⟨m.ob, m.ov⟩))
def Msg.bare (m : Msg) : Msg :=
 ⟨m.k, m.to, if 3 ≤ m.k ∧ m.k ≤ 5 then m.fr else 0, m.c, if 2 ≤ m.k ∧ m.k ≤ 5 then m.s else 0, if 2 ≤ m.k ∧ m.k ≤ 5 then m.b else 0, if m.k = 2 ∨ m.k = 3 ∨ m.k = 6 then m.v else 0, if m.k = 5 then m.ob else 0, if m.k = 5 then m.ov else 0⟩
def Msg.same (m n : Msg) : Bool := m.k == n.k && m.to == n.to && m.fr == n.fr && m.c == n.c && m.s == n.s && m.b == n.b && m.v == n.v && m.ob == n.ob && m.ov == n.ov
def q0l (c : Clu) (m : Msg) : Int :=
 if !(within m.k 1 6) then 5 else if !(ends c m) then 3 else if (q02 c.cons m.c).isNone then 4 else if !(ranges c m) then 3 else if !(m.same m.bare) then 1 else 0
def qba (c : Clu) (x : Con) : Bool := x.legs.any fun l => !(within l.s 0 ((c.shs.length : Int) - 1))
def z0h (c : Clu) (i : Nat) : Int := match c.cons[i]? with
 | some x => if yi x ≠ 0 then yi x else if qba c x then 4 else if ahead (fun p x : Con => decide (p.id < x.id)) c.cons i x then 0 else 1
 | none => 0
def Con.same (a b : Con) : Bool := a.id == b.id && decide (a.legs = b.legs)
def z35 (c : Clu) (h : Con) : Bool := match q02 c.cons h.id with | some x => !(x.same h) | none => true
def z9w (c : Clu) (i : Nat) (s : Shd) : Int :=
 if zl s ≠ 0 then zl s
 else if s.idx ≠ i then 1
 else if (s.votes.any fun m => !(z13 c.cons m.c i)) || (s.done.any fun m => !(z13 c.cons m.c i)) then 1
 else if s.held.any (z35 c) then 1 else 0
def q2i (c : Clu) (i : Nat) : Int := match c.shs[i]? with | some s => z9w c i s | none => 0
def qad (c : Clu) (a : Acc) : Int := if a.fault ≠ 0 then a.fault else if a.slots.any (fun s => !(z13 c.cons s.c s.s)) then 4 else 0
def z30 (c : Clu) (i : Nat) : Int := match c.accs[i]? with | some a => qad c a | none => 0
def y0v (fr : List Int) (j : Nat) : Int := match fr[j]? with | some x => if (fr.take j).any (fun y => y == x) then 7 else 0 | none => 0
def Tr.lt (p x : Tr) : Bool := if p.c = x.c then decide (p.s < x.s) else decide (p.c < x.c)
def y20 (c : Clu) (p : Int) : Bool := !(within p 0 ((c.accs.length : Int) - 1))
def y0u (v : Vt) : Bool := !(v.b == -1 && v.v == 0) && !v.ok
def z7r (c : Clu) (t : Tr) : Int := if t.fr.any (y20 c) || t.olds.any y0u then 3 else scan (y0v t.fr) t.fr.length
def y5w (c : Clu) (ts : List Tr) (i : Nat) (t : Tr) : Int :=
 if !(z13 c.cons t.c t.s) then 4
 else if !(within t.b 1 1000 && within t.v 0 2) then 3
 else if !(ahead Tr.lt ts i t) || t.fr.length != t.olds.length then 1
 else z7r c t
def y3v (c : Clu) (ts : List Tr) (i : Nat) : Int := match ts[i]? with | some t => y5w c ts i t | none => 0
def Hd.cmp (p x : Hd) : Int := orr [y0l p.c x.c, y0l p.s x.s, y0l p.b x.b, y0l p.v x.v, y0l p.f x.f]
def Hd.lt (p x : Hd) : Bool := decide (Hd.cmp p x < 0)
def hdF (c : Clu) (ks : List Hd) (i : Nat) : Int := match ks[i]? with
 | some h => if !(z13 c.cons h.c h.s) then 4 else if !(within h.b 0 1000 && within h.v 1 2 && within h.f 0 ((c.accs.length : Int) - 1)) then 3 else if ahead Hd.lt ks i h then 0 else 1
 | none => 0
def z8i (c : Clu) (l : Ldr) : Int :=
 if !(within l.n 0 400) then 3 else if 60 < l.tries.length ∨ 300 < l.known.length then 2 else orr [scan (y3v c l.tries) l.tries.length, scan (hdF c l.known) l.known.length]
def q31 (c : Clu) (i : Nat) : Int := match c.ldrs[i]? with | some l => z8i c l | none => 0
def q4y (c : Clu) (i : Nat) : Int := match c.msgs[i]? with | some m => q0l c m | none => 0
def z0r (c : Clu) : Bool := decide (20 < c.cons.length) || !(within c.shs.length 1 3) || !(within c.accs.length 1 5) || c.ldrs.length != 2 || decide (200 < c.msgs.length)
def yj (c : Clu) : Int := if z0r c then 2 else orr [scan (z0h c) c.cons.length, scan (q2i c) c.shs.length, scan (z30 c) c.accs.length, scan (q31 c) c.ldrs.length, scan (q4y c) c.msgs.length]
theorem y4y {ls : List Leg} {x : Int} : x ∈ shF ls ↔ ∃ y ∈ ls, y.s = x := by
 unfold shF; rw [y3k]; simp
theorem q53 {ls : List Leg} (h : 0 < ls.length) : ∃ y, (shF ls)[(shF ls).length - 1]? = some y ∧ 0 < (shF ls).length ∧ (∃ l ∈ ls, l.s = y) ∧ ∀ l ∈ ls, l.s ≤ y := by
 obtain ⟨l0, hl0⟩ := gx h; have hm : l0.s ∈ shF ls := y4y.2 ⟨l0, List.mem_of_getElem? hl0, rfl⟩; have hp : 0 < (shF ls).length := List.length_pos_of_mem hm; obtain ⟨y, hy⟩ := gx (xs := shF ls) (i := (shF ls).length - 1) (by omega); refine ⟨y, hy, hp, y4y.1 (List.mem_of_getElem? hy), fun l hl => ?_⟩; obtain ⟨j, hj⟩ := List.mem_iff_getElem?.1 (y4y.2 ⟨l, hl, rfl⟩); obtain ⟨hj1, hj2⟩ := List.getElem?_eq_some_iff.1 hj; obtain ⟨hy1, hy2⟩ := List.getElem?_eq_some_iff.1 hy; rcases Nat.lt_or_ge j ((shF ls).length - 1) with h1 | h1
 · have := (List.pairwise_iff_getElem.1 (q4e ls)) j ((shF ls).length - 1) hj1 hy1 h1
   rw [hj2, hy2] at this; omega
 · have e : j = (shF ls).length - 1 := by omega
   subst e; rw [hj] at hy; cases hy; exact Int.le_refl _
theorem z9m {ls : List Leg} {y n : Int} (h0 : ∀ l ∈ ls, 0 ≤ l.s) (e : ∃ l ∈ ls, l.s = y) (hm : ∀ l ∈ ls, l.s ≤ y) : decide (y ≥ n) = ls.any fun l => !(within l.s 0 (n - 1)) := by
 rw [Bool.eq_iff_iff, decide_eq_true_eq, List.any_eq_true]; constructor
 · intro h
   obtain ⟨l, hl, e⟩ := e; exact ⟨l, hl, by simp [within]; omega⟩
 · rintro ⟨l, hl, h⟩
   have h1 := h0 l hl; have h2 := hm l hl; simp [within] at h; omega
theorem ybl {x : Con} (h : yi x = 0) : ∀ l ∈ x.legs, 0 ≤ l.s := fun l hl => by
 have := (y0i h).2.2 l hl; have h1 := (Leg.z09 this).1; omega
theorem z0s {x : Con} (h : yi x = 0) : 0 < x.legs.length ∧ x.legs.length ≤ 8 := by
 have := (y0i h).2.1; omega
def q7g (x : Con) : Int := ((shF x.legs)[(shF x.legs).length - 1]?).getD 0
theorem y5k {x : Con} (h : yi x = 0) : (ints (shF x.legs))[(IntKind.i64.wrap (((ints (shF x.legs)).length : Int) - 1)).toNat]? = some [i64 (q7g x)] := by
 obtain ⟨y, hy, hp, _⟩ := q53 (z0s h).1; have hl := z26 x.legs x.legs.length; rw [List.take_length] at hl; have := (z0s h).2; rw [show (ints (shF x.legs)).length = (shF x.legs).length by simp]; unfold q7g; rw [hy]; exact z1d (fun n => [i64 n]) hp (by omega) hy
theorem q8h {x : Con} (h : yi x = 0) : 0 ≤ IntKind.i64.wrap (((ints (shF x.legs)).length : Int) - 1) := by
 obtain ⟨y, hy, hp, _⟩ := q53 (z0s h).1; have hl := z26 x.legs x.legs.length; rw [List.take_length] at hl; have := (z0s h).2; rw [show (ints (shF x.legs)).length = (shF x.legs).length by simp]; exact z0p hp (by omega)
theorem y8h {x : Con} (h : yi x = 0) (c : Clu) : qba c x = decide ((c.shs.length : Int) ≤ q7g x) := by
 unfold qba; obtain ⟨y, hy, hp, e, hm⟩ := q53 (z0s h).1; rw [← z9m (ybl h) (y := q7g x) (by unfold q7g; rw [hy]; exact e) (by unfold q7g; rw [hy]; exact hm)]
theorem z39 {s : Shd} (h : zl s = 0) : ∀ x ∈ s.held, yi x = 0 := by
 have : yr y0n s = 0 := by
  unfold zl y11 at h
  repeat' split at h
  all_goals first | omega | (simp_all; done)
 exact z4s this
theorem q54 {c : Clu} {i : Nat} {s : Shd} (h : zl s = 0) (hi : s.idx = i) : z9w c i s = if (s.votes.any fun m => !(z13 c.cons m.c i)) || (s.done.any fun m => !(z13 c.cons m.c i)) then 1 else if s.held.any (z35 c) then 1 else 0 := by
 unfold z9w; rw [if_neg (by simpa using h), if_neg (by simpa using hi)]
end Go.Sx
end
section
namespace Go.Sx
open Go.Lib
theorem z8k : ∀ {xs ys : List Int}, xs.Pairwise (· < ·) → ys.Pairwise (· < ·) → (∀ x, x ∈ xs ↔ x ∈ ys) → xs = ys
 | [], [], _, _, _ => rfl
 | [], y :: ys, _, _, h => by have := (h y).2 (by simp); simp at this
 | x :: xs, [], _, _, h => by have := (h x).1 (by simp); simp at this
 | x :: xs, y :: ys, hx, hy, h => by
   obtain ⟨hx1, hx2⟩ := List.pairwise_cons.1 hx; obtain ⟨hy1, hy2⟩ := List.pairwise_cons.1 hy
   have e : x = y := by
    rcases List.mem_cons.1 ((h x).1 (by simp)) with e | m
    · exact e
    · rcases List.mem_cons.1 ((h y).2 (by simp)) with e | m'
      · exact e.symm
      · have h1 := hy1 x m
        have h2 := hx1 y m'; omega
   subst e; rw [z8k hx2 hy2 fun z => ⟨fun hz => ?_, fun hz => ?_⟩]
   · rcases List.mem_cons.1 ((h z).1 (List.mem_cons_of_mem _ hz)) with e | m
     · have h1 := hx1 z hz
       omega
     · exact m
   · rcases List.mem_cons.1 ((h z).2 (List.mem_cons_of_mem _ hz)) with e | m
     · have h1 := hy1 z hz
       omega
     · exact m
theorem y5j (d : Array Int) : ∀ j, ∃ i, i ≤ j ∧ keeps d i = true ∧ d[i]! = d[j]!
 | 0 => ⟨0, Nat.le_refl _, by simp [keeps], rfl⟩
 | j + 1 => by
   by_cases h : keeps d (j + 1) = true
   · exact ⟨j + 1, Nat.le_refl _, h, rfl⟩
   · have h : d[j + 1]! = d[j]! := by simpa [keeps] using h
     obtain ⟨i, h1, h2, h3⟩ := y5j d j; exact ⟨i, by omega, h2, by rw [h3, h]⟩
theorem z3k {zs : List Int} {x : Int} : x ∈ compact zs ↔ x ∈ zs := by
 unfold compact compactUpTo; simp only [List.mem_map, List.mem_filter, List.mem_range]; constructor
 · rintro ⟨j, ⟨hj, _⟩, rfl⟩
   simp [hj]
 · intro h
   obtain ⟨j, hj⟩ := List.mem_iff_getElem?.1 h; obtain ⟨hj1, hj2⟩ := List.getElem?_eq_some_iff.1 hj; obtain ⟨i, h1, h2, h3⟩ := y5j zs.toArray j; exact ⟨i, ⟨by omega, h2⟩, by rw [h3]; simp [hj1, hj2]⟩
theorem y79 {zs : List Int} (hs : zs.Pairwise (· ≤ ·)) : (compact zs).Pairwise (· < ·) := by
 unfold compact compactUpTo; rw [List.pairwise_map, List.pairwise_filter, List.pairwise_iff_getElem]; intro i j hi hj hij _ h2; have hi : i < zs.length := by simpa using hi
 have hj : j < zs.length := by simpa using hj
 simp only [List.getElem_range] at *
 have hle : ∀ a b : Nat, a < b → b < zs.length → zs[a]! ≤ zs[b]! := fun a b hab hb => by
  have := (List.pairwise_iff_getElem.1 hs) a b (by omega) hb hab; simp only [getElem!_pos zs a (by omega), getElem!_pos zs b hb]; exact this
 have e : ∀ k, k < zs.length → zs.toArray[k]! = zs[k]! := fun k hk => by
  rw [getElem!_pos zs.toArray k (by simpa using hk), getElem!_pos zs k hk]; simp
 have h2 : ¬ zs[j]! = zs[j - 1]! := by
  have : j ≠ 0 := by omega
  rw [← e j hj, ← e (j - 1) (by omega)]
  simpa [keeps, this] using h2
 rw [e i hi, e j hj]; have h4 : zs[j - 1]! ≤ zs[j]! := hle (j - 1) j (by omega) hj; rcases Nat.lt_or_ge i (j - 1) with h | h
 · have h3 : zs[i]! ≤ zs[j - 1]! := hle i (j - 1) h (by omega)
   omega
 · have : i = j - 1 := by omega
   subst this; omega
theorem y78 (zs : List Int) : (compact zs).length ≤ zs.length := by
 unfold compact compactUpTo; rw [List.length_map]; exact Nat.le_trans (List.length_filter_le _ _) (by simp)
theorem z9o (xs : List Int) : (y0o xs).Pairwise (· ≤ ·) := by
 have h := List.pairwise_mergeSort (le := fun a b : Int => decide (a ≤ b)) (fun a b c h1 h2 => by simp at *; omega) (fun a b => by simp; omega) xs; exact h.imp (fun h => by simpa using h)
theorem q5l {xs : List Int} {x : Int} : x ∈ y0o xs ↔ x ∈ xs := (List.mergeSort_perm xs _).mem_iff
theorem qbu (ls : List Leg) : compact (y0o (ls.map (·.s))) = shF ls :=
 z8k (y79 (z9o _)) (q4e ls) fun x => by
  rw [z3k, q5l, List.mem_map, y4y]
end Go.Sx
end
section
namespace Go.Sx
theorem z8p : ∀ {l : List Int}, orr l = 0 → ∀ x ∈ l, x = 0
 | [], _, x, hx => by cases hx
 | y :: l, h, x, hx => by
   rw [orr] at h; split at h
   · rename_i h1; exact absurd h h1
   · rename_i h1
     rcases List.mem_cons.1 hx with rfl | hx
     · simpa using h1
     · exact z8p h x hx
theorem y3c {c : Clu} (h : yj c = 0) : z0r c = false ∧ (∀ i, i < c.cons.length → z0h c i = 0) ∧ (∀ i, i < c.shs.length → q2i c i = 0) ∧ (∀ i, i < c.accs.length → z30 c i = 0) ∧ (∀ i, i < c.ldrs.length → q31 c i = 0) ∧ ∀ i, i < c.msgs.length → q4y c i = 0 := by
 unfold yj at h; split at h
 · omega
 · rename_i hm
   have ha := z8p h; exact ⟨by simpa using hm, fun i hi => yx (ha _ (by simp)) i hi, fun i hi => yx (ha _ (by simp)) i hi, fun i hi => yx (ha _ (by simp)) i hi, fun i hi => yx (ha _ (by simp)) i hi, fun i hi => yx (ha _ (by simp)) i hi⟩
theorem y81 {c : Clu} (h : yj c = 0) {i : Nat} {x : Con} (hx : c.cons[i]? = some x) : yi x = 0 ∧ qba c x = false ∧ ahead (fun p x : Con => decide (p.id < x.id)) c.cons i x = true := by
 have := (y3c h).2.1 i (List.getElem?_eq_some_iff.1 hx).1; simp only [z0h, hx] at this; split at this
 · rename_i h1; exact absurd this h1
 · rename_i h1
   split at this
   · omega
   · rename_i h2
     split at this
     · rename_i h3; exact ⟨by simpa using h1, by simpa using h2, h3⟩
     · omega
theorem y0r {c : Clu} (h : yj c = 0) {x : Con} (hx : x ∈ c.cons) : yi x = 0 ∧ qba c x = false := by
 obtain ⟨i, hi⟩ := List.mem_iff_getElem?.1 hx; exact ⟨(y81 h hi).1, (y81 h hi).2.1⟩
theorem q1d {cs : List Con} {id : Int} {x : Con} (h : q02 cs id = some x) : x ∈ cs ∧ x.id = id := by
 unfold q02 at h; exact ⟨List.mem_of_find?_eq_some h, by have := List.find?_some h; simpa using this⟩
theorem z2m {c : Clu} (h : yj c = 0) {i : Nat} {s : Shd} (hs : c.shs[i]? = some s) : zl s = 0 ∧ s.idx = i ∧ (∀ m ∈ s.votes, z13 c.cons m.c i = true) ∧ (∀ m ∈ s.done, z13 c.cons m.c i = true) ∧ ∀ x ∈ s.held, z35 c x = false := by
 have := (y3c h).2.2.1 i (List.getElem?_eq_some_iff.1 hs).1; simp only [q2i, hs, z9w] at this; split at this
 · rename_i h1; exact absurd this h1
 · rename_i h1
   split at this
   · omega
   · rename_i h2
     split at this
     · omega
     · rename_i h3
       split at this
       · omega
       · rename_i h4
         simp only [Bool.or_eq_true, not_or, Bool.not_eq_true, List.any_eq_false, Bool.not_eq_eq_eq_not, Bool.not_false, Bool.not_true] at h3; exact ⟨by simpa using h1, by simpa using h2, fun m hm => by simpa using h3.1 m hm, fun m hm => by simpa using h3.2 m hm, fun x hx => by simpa using (by simpa using h4 : ∀ x ∈ s.held, z35 c x = false) x hx⟩
theorem q29 {c : Clu} (h : yj c = 0) : c.cons.length ≤ 20 ∧ 1 ≤ c.shs.length ∧ c.shs.length ≤ 3 ∧ 1 ≤ c.accs.length ∧ c.accs.length ≤ 5 ∧ c.ldrs.length = 2 ∧ c.msgs.length ≤ 200 := by
 have hm := (y3c h).1; unfold z0r at hm; simp only [Bool.or_eq_false_iff, decide_eq_false_iff_not, Bool.not_eq_eq_eq_not, Bool.not_false, bne_eq_false_iff_eq] at hm; obtain ⟨⟨⟨⟨h1, h2⟩, h3⟩, h4⟩, h5⟩ := hm; have h2 := within_iff.1 h2; have h3 := within_iff.1 h3; omega
end Go.Sx
end
section
namespace Go.Sx
open Go.Lib (compact)
def q3w (c : Clu) (i : Nat) : List Int := (c.shs.take i).flatMap Shd.app
def q6e (us : List Int) : List Int := us.foldl q37 []
def y3x (c : Clu) : List Int := q6e (q3w c c.shs.length)
theorem y3b {c : Clu} {i : Nat} {s : Shd} (h : c.shs[i]? = some s) : q3w c (i + 1) = q3w c i ++ s.app := by
 unfold q3w; rw [List.take_add_one, h]; simp
theorem y50 (us : List Int) : shF (us.map fun v => ⟨v, 0, 0, 0⟩) = q6e us := by
 unfold shF q6e; rw [List.foldl_map]
theorem q8q (us : List Int) (v : Int) : q6e (us ++ [v]) = q37 (q6e us) v := by
 unfold q6e; rw [List.foldl_append]; rfl
theorem z50 (us : List Int) : (q6e us).Pairwise (· < ·) := by rw [← y50]; exact q4e _
theorem y6y (us : List Int) : (q6e us).length ≤ us.length := by
 rw [← y50]; have := z26 (us.map fun v => (⟨v, 0, 0, 0⟩ : Leg)) us.length
 rwa [List.take_of_length_le (by simp)] at this
theorem y8q (us : List Int) : compact (y0o us) = q6e us := by
 rw [← y50, ← qbu, List.map_map, show (Leg.s ∘ fun v : Int => (⟨v, 0, 0, 0⟩ : Leg)) = id from rfl, List.map_id]
theorem q9n {us : List Int} {x : Int} : x ∈ q6e us ↔ x ∈ us := by
 rw [← y8q, z3k, q5l]
theorem y3q {s : Shd} (h : zl s = 0) : s.bals.length ≤ 18 ∧ s.votes.length ≤ 100 ∧ s.held.length ≤ 100 ∧ s.done.length ≤ 100 ∧ s.app.length ≤ 100 := by
 have hb : ye s.bals = 0 := by
  unfold zl at h
  repeat' split at h
  all_goals first | omega | (simp_all; done)
 have hm : many s = false := by
  unfold zl at h
  repeat' split at h
  all_goals first | omega | (simp_all; done)
 have h1 := (zw hb).1; unfold many at hm; simp only [Bool.or_eq_false_iff, decide_eq_false_iff_not] at hm; omega
theorem z3b {c : Clu} (h : yj c = 0) : ∀ i, i ≤ c.shs.length → (q3w c i).length ≤ 100 * i
 | 0, _ => by simp [q3w]
 | i + 1, hi => by
   obtain ⟨s, hs⟩ := gx (xs := c.shs) (i := i) (by omega); rw [y3b hs, List.length_append]; have := z3b h i (by omega); have := (y3q (z2m h hs).1).2.2.2.2; omega
theorem q4m {c : Clu} (h : yj c = 0) : (y3x c).length ≤ 300 := by
 have h1 := y6y (q3w c c.shs.length); have h2 := z3b h _ (Nat.le_refl _); have h3 := (q29 h).2.2.1; unfold y3x; omega
end Go.Sx
end
section
namespace Go.Sx
abbrev y0t (us : List Bal) : List Cell := [.l (us.map Bal.cs)]
abbrev ya (l : List (List Bal)) : List (List Cell) := l.map y0t
theorem y88 {us : List Mk} {c : Int} (h : y0n us c ≠ 0) : ∃ m ∈ us, m.c = c := by
 rcases Classical.em (∃ m ∈ us, m.c = c) with h1 | h1
 · exact h1
 · exact absurd (q13 (xs := us) (c := c) fun j y hy e => h1 ⟨y, List.mem_of_getElem? hy, e⟩) h
theorem yb6 {s : Shd} (h : zl s = 0) : q5w s = true := by
 unfold zl y11 at h
 repeat' split at h
 all_goals first | omega | assumption | (simp_all; done)
theorem qag {c : Clu} (h : yj c = 0) {i : Nat} {s : Shd} (hs : c.shs[i]? = some s) {a : Int} (ha : a ∈ s.app) : ∃ x, q02 c.cons a = some x := by
 obtain ⟨h1, _, _, h2, _⟩ := z2m h hs; have h3 := yb6 h1; unfold q5w at h3; simp only [Bool.and_eq_true, beq_iff_eq] at h3; obtain ⟨k, hk⟩ := List.mem_iff_getElem?.1 ha; have h4 := yx h3.1 k (List.getElem?_eq_some_iff.1 hk).1; simp only [z9b, hk] at h4; split at h4
 · omega
 · rename_i h5
   simp only [Bool.or_eq_true, not_or, bne_iff_ne, ne_eq, Decidable.not_not] at h5; obtain ⟨m, hm, e⟩ := y88 (us := s.done) (c := a) (by rw [h5.1]; decide); have h6 := h2 m hm; unfold z13 at h6; rw [e] at h6
   cases hq : q02 c.cons a with
   | some x => exact ⟨x, rfl⟩
   | none => rw [hq] at h6; cases h6
def z1e (c : Clu) (id : Int) : Con := (q02 c.cons id).getD ⟨0, []⟩
theorem z0q {c : Clu} {id : Int} {x : Con} (h : q02 c.cons id = some x) : z1e c id = x := by unfold z1e; rw [h]; rfl
def q9b (c : Clu) (a b : Int) (s : Shd) : Bool := decide (0 ≤ y0h (fun y => y == b) s.app) && q4x s (z1e c a) (z1e c b) && !((s.app.take (y0h (fun y => y == b) s.app).toNat).any fun y => y == a)
def q7y (c : Clu) (a b : Int) : Bool := c.shs.any (q9b c a b)
theorem y14 {α : Type} {p : α → Bool} : ∀ {l : List α}, (∃ i : Nat, y0h p l = i ∧ i < l.length ∧ (∃ x, l[i]? = some x ∧ p x = true) ∧ ∀ (j : Nat) (y : α), j < i → l[j]? = some y → p y = false) ∨ (y0h p l = -1 ∧ ∀ y ∈ l, p y = false)
 | [] => .inr ⟨rfl, fun y hy => by cases hy⟩
 | x :: l => by
   by_cases hx : p x = true
   · exact .inl ⟨0, by rw [y0h, if_pos hx]; rfl, by simp, ⟨x, rfl, hx⟩, fun j y hj => by omega⟩
   · have hx' : p x = false := by simpa using hx
     rcases y14 (p := p) (l := l) with ⟨i, h1, h2, ⟨y, h3, h4⟩, h5⟩ | ⟨h1, h2⟩
     · refine .inl ⟨i + 1, by rw [y0h, if_neg hx, h1, if_neg (by omega)]; omega, by simp; omega, ⟨y, by simpa using h3, h4⟩, fun j z hj hz => ?_⟩
       cases j with
       | zero => cases hz; exact hx'
       | succ j => exact h5 j z (by omega) (by simpa using hz)
     · refine .inr ⟨by rw [y0h, if_neg hx, h1]; rfl, fun y hy => ?_⟩
       rcases List.mem_cons.1 hy with rfl | hy
       · exact hx'
       · exact h2 y hy
theorem qah {c : Clu} {a b : Int} {s : Shd} (hab : a ≠ b) : q9b c a b s = (y44 (qh (z1e c b) s.idx) (qh (z1e c a) s.idx) && decide (0 ≤ y0h (fun y => y == b) s.app) && (decide (y0h (fun y => y == a) s.app < 0) || decide (y0h (fun y => y == b) s.app < y0h (fun y => y == a) s.app))) := by
 unfold q9b; rw [z4a]; rcases y14 (p := fun y : Int => y == b) (l := s.app) with ⟨j, h1, h2, ⟨y, h3, h4⟩, h5⟩ | ⟨h1, h2⟩
 · rw [h1]
   have hq : (!((s.app.take ((j : Int)).toNat).any fun y => y == a)) = (decide (y0h (fun y => y == a) s.app < 0) || decide ((j : Int) < y0h (fun y => y == a) s.app)) := by
    rw [Int.toNat_natCast]; rcases y14 (p := fun y : Int => y == a) (l := s.app) with ⟨k, g1, g2, ⟨z, g3, g4⟩, g5⟩ | ⟨g1, g2⟩
    · rw [g1]
      by_cases hjk : j < k
      · have : ((s.app.take j).any fun y => y == a) = false := by
         rw [List.any_eq_false]; intro w hw; obtain ⟨m, hm⟩ := List.mem_iff_getElem?.1 hw; have hm2 := (List.getElem?_eq_some_iff.1 hm).1; rw [List.length_take] at hm2; rw [List.getElem?_take_of_lt (by omega)] at hm
         simpa using g5 m w (by omega) hm
        rw [this]; simp; omega
      · have hne : j ≠ k := fun e => by
         subst e; rw [h3] at g3; cases g3; have e1 : y = b := by simpa using h4
         have e2 : y = a := by simpa using g4
         exact hab (e2.symm.trans e1)
        have : ((s.app.take j).any fun y => y == a) = true := by
         rw [List.any_eq_true]; exact ⟨z, List.mem_of_getElem? (i := k) (by rw [List.getElem?_take_of_lt (by omega)]; exact g3), g4⟩
        rw [this]; simp; omega
    · rw [g1]
      have : ((s.app.take j).any fun y => y == a) = false := by
       rw [List.any_eq_false]; exact fun w hw => by simpa using g2 w (List.mem_of_mem_take hw)
      rw [this]; rfl
   rw [hq]; cases y44 (qh (z1e c b) s.idx) (qh (z1e c a) s.idx) <;> cases decide (0 ≤ (j : Int)) <;> simp
 · rw [h1]
   simp
def y0y (c : Clu) (left : List Int) (a : Int) : Bool := !(left.any fun b => b != a && q7y c a b)
def z98 (c : Clu) : Nat → List Int → List Int → Option (List Int)
 | 0, _, out => some out
 | n + 1, left, out => if y0h (y0y c left) left < 0 then none else z98 c n (left.eraseIdx (y0h (y0y c left) left).toNat) (out ++ [(left[(y0h (y0y c left) left).toNat]?).getD 0])
def z2y (c : Clu) : Option (List Int) := z98 c (y3x c).length (y3x c) []
def q1v (c : Clu) : Int × List Int := if yj c ≠ 0 then (yj c, []) else match z2y c with | some l => (0, l) | none => (1, [])
structure q39 (c : Clu) (left : List Int) : Prop where
 pw : left.Pairwise (· < ·)
 con : ∀ x ∈ left, ∃ y, q02 c.cons x = some y
theorem q39.erase {c : Clu} {left : List Int} (h : q39 c left) (i : Nat) : q39 c (left.eraseIdx i) :=
 ⟨h.pw.sublist (List.eraseIdx_sublist _ _), fun x hx => h.con x ((List.eraseIdx_sublist _ _).subset hx)⟩
theorem z4n {c : Clu} (h : yj c = 0) : q39 c (y3x c) := ⟨z50 _, fun x hx => by
 have h1 := q9n.1 hx; unfold q3w at h1; rw [List.take_length] at h1; obtain ⟨s, hs, hx⟩ := List.mem_flatMap.1 h1; obtain ⟨i, hi⟩ := List.mem_iff_getElem?.1 hs
 exact qag h hi hx⟩
theorem z6x {c : Clu} : ∀ {n : Nat} {left out r : List Int}, z98 c n left out = some r → r.length = out.length + n
 | 0, left, out, r, h => by cases h; rfl
 | n + 1, left, out, r, h => by
   rw [z98] at h; split at h
   · cases h
   · have := z6x h
     simp at this; omega
theorem q8o (c : Clu) : (q1v c).2.length ≤ 1048576 := by
 unfold q1v; split
 · simp
 · rename_i h
   have h : yj c = 0 := by simpa using h
   split
   · rename_i l hl
     have h1 := z6x hl; have h2 := q4m h; have h1 : l.length = 0 + (y3x c).length := h1; show l.length ≤ _; omega
   · simp
instance instDecidableEqBal : DecidableEq Bal := fun x y =>
 if h : x.a = y.a ∧ x.b = y.b ∧ x.v = y.v then isTrue (by cases x; cases y; simp_all) else isFalse (fun e => h (by subst e; exact ⟨rfl, rfl, rfl⟩))
def inK (a b : Int) : Prop := (0 ≤ a ∧ a ≤ 5) ∧ 0 ≤ b ∧ b ≤ 2
def y58 (us : List Bal) : Prop := us.Pairwise (fun x y => x.key < y.key) ∧ ∀ x ∈ us, inK x.a x.b ∧ x.v ≠ 0
theorem y8a {us : List Bal} (h : ye us = 0) : y58 us := by
 obtain ⟨_, h1, h2⟩ := zw h; refine ⟨List.pairwise_iff_getElem.2 fun i j hi hj hij => h2 i j _ _ hij (List.getElem?_eq_getElem hi) (List.getElem?_eq_getElem hj), fun x hx => ?_⟩; have := h1 x hx; simp [Bal.bad, within] at this; unfold inK; omega
def y1w (a b v : Int) : List Bal → Bool → List Bal
 | [], d => bif d then [] else [⟨a, b, v⟩]
 | x :: xs, d => if x.a = a ∧ x.b = b then y1w a b v xs d else if d = false ∧ a * 3 + b < x.key then ⟨a, b, v⟩ :: x :: y1w a b v xs true else x :: y1w a b v xs d
theorem y1s {a b v : Int} {y : Bal} : ∀ {us : List Bal} {d : Bool}, y ∈ y1w a b v us d → (d = false ∧ y = ⟨a, b, v⟩) ∨ (y ∈ us ∧ ¬ (y.a = a ∧ y.b = b))
 | [], d, h => by
   cases d with
   | true => cases h
   | false => exact .inl ⟨rfl, by simpa [y1w] using h⟩
 | x :: xs, d, h => by
   rw [y1w] at h; split at h
   · exact (y1s h).imp id (fun h1 => ⟨List.mem_cons_of_mem _ h1.1, h1.2⟩)
   · rename_i hx
     split at h
     · rename_i hd
       rcases List.mem_cons.1 h with rfl | h
       · exact .inl ⟨hd.1, rfl⟩
       · rcases List.mem_cons.1 h with rfl | h
         · exact .inr ⟨List.mem_cons_self, hx⟩
         · rcases y1s h with h1 | h1
           · exact absurd h1.1 (by decide)
           · exact .inr ⟨List.mem_cons_of_mem _ h1.1, h1.2⟩
     · rcases List.mem_cons.1 h with rfl | h
       · exact .inr ⟨List.mem_cons_self, hx⟩
       · exact (y1s h).imp id (fun h1 => ⟨List.mem_cons_of_mem _ h1.1, h1.2⟩)
theorem q38 {a b v : Int} : ∀ {us : List Bal} {d : Bool}, (y1w a b v us d).length ≤ us.length + (bif d then 0 else 1)
 | [], d => by cases d <;> simp [y1w]
 | x :: xs, d => by
   rw [y1w]; split
   · have := q38 (a := a) (b := b) (v := v) (us := xs) (d := d)
     simp only [List.length_cons]; omega
   · split
     · rename_i hd
       have := q38 (a := a) (b := b) (v := v) (us := xs) (d := true); rw [hd.1]; simp only [List.length_cons, cond_true, cond_false] at *; omega
     · have := q38 (a := a) (b := b) (v := v) (us := xs) (d := d)
       simp only [List.length_cons]; omega
theorem y53 {a b v : Int} (hk : inK a b) : ∀ {us : List Bal} {d : Bool}, us.Pairwise (fun x y => x.key < y.key) → (∀ x ∈ us, inK x.a x.b) → (y1w a b v us d).Pairwise (fun x y => x.key < y.key)
 | [], d, _, _ => by cases d <;> simp [y1w]
 | x :: xs, d, hp, hi => by
   obtain ⟨hp1, hp2⟩ := List.pairwise_cons.1 hp; have hi2 : ∀ y ∈ xs, inK y.a y.b := fun y hy => hi y (List.mem_cons_of_mem _ hy)
   rw [y1w]; split
   · exact y53 hk hp2 hi2
   · rename_i hx
     split
     · rename_i hd
       have hin : ∀ y ∈ y1w a b v xs true, y ∈ xs := fun y hy => by
        rcases y1s hy with h1 | h1
        · exact absurd h1.1 (by decide)
        · exact h1.1
       refine List.pairwise_cons.2 ⟨fun y hy => ?_, List.pairwise_cons.2 ⟨fun y hy => hp1 y (hin y hy), y53 hk hp2 hi2⟩⟩; rcases List.mem_cons.1 hy with rfl | hy
       · exact hd.2
       · have := hp1 y (hin y hy)
         have := hd.2; show a * 3 + b < y.key; omega
     · rename_i hd
       refine List.pairwise_cons.2 ⟨fun y hy => ?_, y53 hk hp2 hi2⟩; rcases y1s hy with ⟨h1, rfl⟩ | h1
       · have h2 : ¬ a * 3 + b < x.key := fun h => hd ⟨h1, h⟩
         have h3 := hi x List.mem_cons_self; show x.key < a * 3 + b; unfold inK at hk h3; unfold Bal.key at *; rcases Int.lt_or_gt_of_ne (a := x.a * 3 + x.b) (b := a * 3 + b) (fun e => hx (by omega)) with h4 | h4
         · exact h4
         · exact absurd h4 h2
       · exact hp1 y h1.1
theorem z2d {a b v a' b' : Int} : ∀ {us : List Bal} {d : Bool}, hasB (y1w a b v us d) a' b' = if a' = a ∧ b' = b then (bif d then 0 else v) else hasB us a' b'
 | [], d => by
   cases d with
   | true => simp [y1w, hasB]
   | false =>
     simp only [y1w, hasB, cond_false]; by_cases h : a' = a ∧ b' = b
     · rw [if_pos h, if_pos ⟨h.1.symm, h.2.symm⟩]
     · rw [if_neg h, if_neg (fun e => h ⟨e.1.symm, e.2.symm⟩)]
 | x :: xs, d => by
   rw [y1w]; by_cases hx : x.a = a ∧ x.b = b
   · rw [if_pos hx, z2d]
     by_cases h : a' = a ∧ b' = b
     · rw [if_pos h, if_pos h]
     · rw [if_neg h, if_neg h, hasB, if_neg (fun e => h ⟨e.1.symm.trans hx.1, e.2.symm.trans hx.2⟩)]
   · rw [if_neg hx]
     by_cases hd : d = false ∧ a * 3 + b < x.key
     · rw [if_pos hd, hasB, hasB, z2d, hd.1]
       by_cases h : a' = a ∧ b' = b
       · rw [if_pos (show ({ a := a, b := b, v := v } : Bal).a = a' ∧ ({ a := a, b := b, v := v } : Bal).b = b' from ⟨h.1.symm, h.2.symm⟩), if_pos h]; rfl
       · rw [if_neg (show ¬ (({ a := a, b := b, v := v } : Bal).a = a' ∧ ({ a := a, b := b, v := v } : Bal).b = b') from fun e => h ⟨e.1.symm, e.2.symm⟩), if_neg h, if_neg h, hasB]
     · rw [if_neg hd, hasB, z2d]
       by_cases h : a' = a ∧ b' = b
       · rw [if_pos h, if_pos h, if_neg (fun e => hx ⟨e.1.trans h.1, e.2.trans h.2⟩)]
       · rw [if_neg h, if_neg h, hasB]
theorem z8b : ∀ {us : List Bal} {a b : Int}, (∀ y ∈ us, ¬ (y.a = a ∧ y.b = b)) → hasB us a b = 0
 | [], _, _, _ => rfl
 | x :: xs, a, b, h => by rw [hasB, if_neg (h x List.mem_cons_self), z8b fun y hy => h y (List.mem_cons_of_mem _ hy)]
def y30 (us : List Bal) (l : Leg) : List Bal := y1w l.a l.b (hasB us l.a l.b + l.v) us (decide (hasB us l.a l.b + l.v = 0))
def z2t (us : List Bal) (ls : List Leg) : List Bal := ls.foldl y30 us
theorem y7v {us : List Bal} {ls : List Leg} {i : Nat} {l : Leg} (h : ls[i]? = some l) : z2t us (ls.take (i + 1)) = y30 (z2t us (ls.take i)) l := by
 unfold z2t; rw [List.take_add_one, h, List.foldl_append]; rfl
def y7o (ls : List Leg) (a b : Int) : Int := (ls.map fun x => if x.a = a ∧ x.b = b then x.v else 0).sum
theorem y3s (xs ys : List Leg) (a b : Int) : y7o (xs ++ ys) a b = y7o xs a b + y7o ys a b := by simp [y7o]
theorem y71 (l : Leg) (a b : Int) : y7o [l] a b = if l.a = a ∧ l.b = b then l.v else 0 := by simp [y7o]
theorem q5g (us : List Bal) (l : Leg) (a b : Int) : hasB (y30 us l) a b = hasB us a b + if l.a = a ∧ l.b = b then l.v else 0 := by
 unfold y30; rw [z2d]; by_cases h : a = l.a ∧ b = l.b
 · rw [if_pos h, if_pos ⟨h.1.symm, h.2.symm⟩, h.1, h.2]
   by_cases h0 : hasB us l.a l.b + l.v = 0
   · rw [decide_eq_true h0, h0]; rfl
   · rw [decide_eq_false h0]; rfl
 · rw [if_neg h, if_neg (fun e => h ⟨e.1.symm, e.2.symm⟩), Int.add_zero]
theorem y3h : ∀ (ls : List Leg) (us : List Bal) (a b : Int), hasB (z2t us ls) a b = hasB us a b + y7o ls a b
 | [], us, a, b => by simp [z2t, y7o]
 | l :: ls, us, a, b => by
   show hasB (z2t (y30 us l) ls) a b = _; rw [y3h ls, q5g, show l :: ls = [l] ++ ls from rfl, y3s, y71]; omega
theorem y5g {us : List Bal} {l : Leg} (h : y58 us) (hk : inK l.a l.b) : y58 (y30 us l) := by
 refine ⟨y53 hk h.1 fun x hx => (h.2 x hx).1, fun x hx => ?_⟩; rcases y1s hx with ⟨h1, rfl⟩ | h1
 · exact ⟨hk, by simpa using h1⟩
 · exact h.2 x h1.1
theorem z5g : ∀ {ls : List Leg} {us : List Bal}, y58 us → (∀ l ∈ ls, inK l.a l.b) → y58 (z2t us ls)
 | [], us, h, _ => h
 | l :: ls, us, h, hk => z5g (us := y30 us l) (y5g h (hk l List.mem_cons_self)) fun x hx => hk x (List.mem_cons_of_mem _ hx)
theorem q6o : ∀ (ls : List Leg) (us : List Bal), (z2t us ls).length ≤ us.length + ls.length
 | [], us => by simp [z2t]
 | l :: ls, us => by
   have h1 := q6o ls (y30 us l)
   have h2 : (y30 us l).length ≤ us.length + 1 := by
    unfold y30; refine Nat.le_trans q38 ?_; cases decide (hasB us l.a l.b + l.v = 0) <;> simp
   show (z2t (y30 us l) ls).length ≤ _; rw [List.length_cons]; omega
end Go.Sx
end
section
namespace Go.Sx
open Go.WideMaps (ArrKey)
section
variable {P : Program} {k e : TypeId} (A : ArrKey P k e 2) (he : P.underlying e = some (.int .i64)) (hsz : ∃ m, P.types.size = m + 1)
include A he hsz
end
theorem q8z : ∀ (l : List Leg) (a b : Int), (∀ x ∈ l, x.small) → -1000000000000 * (l.length : Int) ≤ y7o l a b ∧ y7o l a b ≤ 1000000000000 * (l.length : Int)
 | [], a, b, _ => by simp [y7o]
 | x :: l, a, b, h => by
   have h1 := q8z l a b (fun y hy => h y (List.mem_cons_of_mem _ hy)); have h2 := h x List.mem_cons_self; unfold Leg.small at h2; rw [show x :: l = [x] ++ l from rfl, y3s, y71, List.length_append]; simp only [List.length_cons, List.length_nil]; split <;> omega
end Go.Sx
end
section
namespace Go.Sx
theorem q6r {c : Clu} (hc : yj c = 0) (id : Int) : (z1e c id).legs.length ≤ 8 ∧ ∀ l ∈ (z1e c id).legs, inK l.a l.b ∧ l.small := by
 unfold z1e
 cases h : q02 c.cons id with
 | none => exact ⟨by simp, fun l hl => by simp at hl⟩
 | some x =>
   have h1 := (y0r hc (q1d h).1).1; refine ⟨(z0s h1).2, fun l hl => ?_⟩; have h2 := Leg.z09 ((y0i h1).2.2 l hl); exact ⟨⟨h2.2.1, h2.2.2.1⟩, h2.2.2.2.1⟩
def z4v (l : List (List Bal)) (i : Nat) : Int := match l[i]? with | some us => ye us | none => 0
def zu (l : List (List Bal)) : Int := if l.length < 1 ∨ 3 < l.length then 2 else scan (z4v l) l.length
theorem y4v {l : List (List Bal)} {i : Nat} {us : List Bal} (h : l[i]? = some us) : z4v l i = ye us := by unfold z4v; rw [h]
theorem qbp {l : List (List Bal)} (h : zu l = 0) {i : Nat} {us : List Bal} (hi : l[i]? = some us) : ye us = 0 := by
 unfold zu at h; split at h
 · omega
 · rw [← y4v hi]
   exact yx h i (List.getElem?_eq_some_iff.1 hi).1
instance instDecidableEqVt : DecidableEq Vt := fun x y =>
 if h : x.b = y.b ∧ x.v = y.v then isTrue (by cases x; cases y; simp_all) else isFalse (fun e => h (by subst e; exact ⟨rfl, rfl⟩))
structure Ses where
 (cl nx : Int)
 sent : List Int
abbrev Ses.cs (s : Ses) : List Cell := [i64 s.cl, i64 s.nx, .l (ints s.sent)]
theorem z53 {a b v : Int} {d : Bool} {q : List Bal} : ∀ {p : List Bal}, (∀ x ∈ p, x.key < a * 3 + b) → y1w a b v (p ++ q) d = p ++ y1w a b v q d
 | [], _ => rfl
 | x :: p, h => by
   have hx := h x List.mem_cons_self; have hn : ¬ (x.a = a ∧ x.b = b) := fun e => by unfold Bal.key at hx; rw [e.1, e.2] at hx; omega
   rw [List.cons_append, y1w, if_neg hn, if_neg (fun e => by have := e.2; omega), z53 fun y hy => h y (List.mem_cons_of_mem _ hy)]; rfl
theorem y3p {a b v : Int} : ∀ {q : List Bal}, (∀ x ∈ q, a * 3 + b < x.key) → y1w a b v q true = q
 | [], _ => rfl
 | x :: q, h => by
   have hx := h x List.mem_cons_self; have hn : ¬ (x.a = a ∧ x.b = b) := fun e => by unfold Bal.key at hx; rw [e.1, e.2] at hx; omega
   rw [y1w, if_neg hn, if_neg (fun e => by have := e.1; cases this), y3p fun y hy => h y (List.mem_cons_of_mem _ hy)]
theorem y4e {a b v : Int} : ∀ {q : List Bal}, (∀ x ∈ q, a * 3 + b < x.key) → y1w a b v q false = ⟨a, b, v⟩ :: q
 | [], _ => rfl
 | x :: q, h => by
   have hx := h x List.mem_cons_self; have hn : ¬ (x.a = a ∧ x.b = b) := fun e => by unfold Bal.key at hx; rw [e.1, e.2] at hx; omega
   rw [y1w, if_neg hn, if_pos ⟨rfl, hx⟩, y3p fun y hy => h y (List.mem_cons_of_mem _ hy)]
theorem ybk {α : Type} {f : α → Int} {us : List α} (hs : y59 f us) : bsP f us ≤ us.length ∧ (∀ (i : Nat) (x : α), i < bsP f us → us[i]? = some x → f x < 0) ∧ ∀ (i : Nat) (x : α), bsP f us ≤ i → us[i]? = some x → 0 ≤ f x := by
 have hp : bsP f us = us.findIdx (fun x => decide (0 ≤ f x)) := qa3 (n := us.length) (fun k hk => by
  obtain ⟨y, hy⟩ := gx hk; rw [y28 hy]; by_cases h : k < us.findIdx (fun x => decide (0 ≤ f x))
  · have h1 := List.not_of_lt_findIdx h
    have e : us[k] = y := by rw [List.getElem?_eq_getElem hk] at hy; exact Option.some.inj hy
    rw [e] at h1; rw [decide_eq_true h, decide_eq_true (by simpa using h1)]
  · rw [decide_eq_false h]
    refine decide_eq_false fun hf => ?_
    have hl : us.findIdx (fun x => decide (0 ≤ f x)) < us.length := by omega
    have h1 := List.findIdx_getElem (w := hl); have h1 : 0 ≤ f us[us.findIdx (fun x => decide (0 ≤ f x))] := by simpa using h1
    rcases Nat.lt_or_ge (us.findIdx (fun x => decide (0 ≤ f x))) k with h2 | h2
    · have := hs _ k _ y h2 (List.getElem?_eq_getElem hl) hy (by omega)
      omega
    · have e : us.findIdx (fun x => decide (0 ≤ f x)) = k := by omega
      have e2 : us[us.findIdx (fun x => decide (0 ≤ f x))] = y := by
       rw [← Option.some.injEq, ← List.getElem?_eq_getElem hl, e, hy]
      rw [e2] at h1; omega) 0 us.length (Nat.zero_le _) (List.findIdx_le_length) (Nat.le_refl _)
 rw [hp]; refine ⟨List.findIdx_le_length, fun i x hi hx => ?_, fun i x hi hx => ?_⟩
 · have h1 := List.not_of_lt_findIdx hi
   have hl : i < us.length := (List.getElem?_eq_some_iff.1 hx).1; have e : us[i] = x := (List.getElem?_eq_some_iff.1 hx).2; rw [e] at h1
   simpa using h1
 · have hl : i < us.length := (List.getElem?_eq_some_iff.1 hx).1
   have hl2 : us.findIdx (fun x => decide (0 ≤ f x)) < us.length := by omega
   have h1 := List.findIdx_getElem (w := hl2); have h1 : 0 ≤ f us[us.findIdx (fun x => decide (0 ≤ f x))] := by simpa using h1
   rcases Nat.lt_or_ge (us.findIdx (fun x => decide (0 ≤ f x))) i with h2 | h2
   · rcases Int.lt_or_le (f x) 0 with h3 | h3
     · have := hs _ i _ x h2 (List.getElem?_eq_getElem hl2) hx (by omega)
       omega
     · exact h3
   · have e : us.findIdx (fun x => decide (0 ≤ f x)) = i := by omega
     have e2 : us[us.findIdx (fun x => decide (0 ≤ f x))] = x := by
      rw [← Option.some.injEq, ← List.getElem?_eq_getElem hl2, e, hx]
     rw [e2] at h1; exact h1
abbrev atP (a b : Int) : Bal → Int := fun x : Bal => z02 x ⟨a, b, 0⟩
theorem q2l {us : List Bal} (h : ye us = 0) (a b : Int) : y59 (atP a b) us := by
 obtain ⟨_, hb, hc⟩ := zw h; exact fun i j x y hij h1 h2 h0 => q2h (hb x (List.mem_of_getElem? h1)) (hb y (List.mem_of_getElem? h2)) (hc i j x y hij h1 h2) h0
theorem q1q {x : Bal} {a b : Int} (hx : x.bad = false) (hk : inK a b) : (z02 x ⟨a, b, 0⟩ < 0 ↔ x.key < a * 3 + b) ∧ (z02 x ⟨a, b, 0⟩ = 0 ↔ x.key = a * 3 + b) := by
 simp [Bal.bad, within] at hx; unfold inK at hk; unfold z02 y0l orr orr orr Bal.key; dsimp only; constructor <;> constructor <;> (repeat' split) <;> omega
theorem zai {x : Bal} {a b : Int} (h : x.a = a ∧ x.b = b) : x = ⟨a, b, x.v⟩ := by
 cases x; obtain ⟨rfl, rfl⟩ := h; rfl
theorem y74 {us : List Bal} {l : Leg} (h : ye us = 0) (hk : inK l.a l.b) {x : Bal} (hf : bsF (atP l.a l.b) us = true) (hx : us[bsP (atP l.a l.b) us]? = some x) :
 hasB us l.a l.b = x.v ∧ x = ⟨l.a, l.b, x.v⟩ ∧ y30 us l = us.take (bsP (atP l.a l.b) us) ++ ((if x.v + l.v = 0 then [] else [⟨l.a, l.b, x.v + l.v⟩]) ++ us.drop (bsP (atP l.a l.b) us + 1)) := by
 obtain ⟨_, hb, hc⟩ := zw h; obtain ⟨hple, h1, h2⟩ := ybk (q2l h l.a l.b)
 have hf0 : z02 x ⟨l.a, l.b, 0⟩ = 0 := by
  have := z29 (f := atP l.a l.b) rfl hx; rw [hf] at this; exact eq_of_beq this.symm
 have hab := q3m.1 hf0; have hxk := (q1q (hb x (List.mem_of_getElem? hx)) hk).2.1 hf0
 have hv : hasB us l.a l.b = x.v := q2c hx (fun j y hj hy e' => by
  have h3 := hc j _ y x hj hy hx; have h4 : y.key = x.key := by unfold Bal.key; rw [e'.1, e'.2, hab.1, hab.2]
  omega) hab
 have hp : bsP (atP l.a l.b) us < us.length := (List.getElem?_eq_some_iff.1 hx).1
 have hus : us = us.take (bsP (atP l.a l.b) us) ++ x :: us.drop (bsP (atP l.a l.b) us + 1) := by
  have e : us[bsP (atP l.a l.b) us] = x := (List.getElem?_eq_some_iff.1 hx).2; rw [← e, ← List.drop_eq_getElem_cons hp, List.take_append_drop]
 have hpre : ∀ y ∈ us.take (bsP (atP l.a l.b) us), y.key < l.a * 3 + l.b := fun y hy => by
  obtain ⟨j, hj⟩ := List.mem_iff_getElem?.1 hy; rw [List.getElem?_take] at hj; split at hj
  · rename_i hlt
    exact (q1q (hb y (List.mem_of_getElem? hj)) hk).1.1 (h1 j y hlt hj)
  · cases hj
 have hpost : ∀ y ∈ us.drop (bsP (atP l.a l.b) us + 1), l.a * 3 + l.b < y.key := fun y hy => by
  obtain ⟨j, hj⟩ := List.mem_iff_getElem?.1 hy; rw [List.getElem?_drop] at hj; have := hc _ _ x y (show bsP (atP l.a l.b) us < bsP (atP l.a l.b) us + 1 + j by omega) hx hj; omega
 refine ⟨hv, zai hab, ?_⟩; unfold y30; rw [hv]; generalize bsP (atP l.a l.b) us = p at *
 conv => lhs; rw [hus]
 rw [z53 hpre, y1w, if_pos hab]; by_cases h0 : x.v + l.v = 0
 · rw [if_pos h0, decide_eq_true h0, y3p hpost]; rfl
 · rw [if_neg h0, decide_eq_false h0, y4e hpost]; rfl
theorem y9a {us : List Bal} {l : Leg} (h : ye us = 0) (hk : inK l.a l.b) (hf : bsF (atP l.a l.b) us = false) (hv0 : l.v ≠ 0) :
 hasB us l.a l.b = 0 ∧ bsP (atP l.a l.b) us ≤ us.length ∧ y30 us l = us.take (bsP (atP l.a l.b) us) ++ (⟨l.a, l.b, l.v⟩ :: us.drop (bsP (atP l.a l.b) us)) := by
 obtain ⟨_, hb, hc⟩ := zw h; obtain ⟨hple, h1, h2⟩ := ybk (q2l h l.a l.b)
 have hpre : ∀ y ∈ us.take (bsP (atP l.a l.b) us), y.key < l.a * 3 + l.b := fun y hy => by
  obtain ⟨j, hj⟩ := List.mem_iff_getElem?.1 hy; rw [List.getElem?_take] at hj; split at hj
  · rename_i hlt
    exact (q1q (hb y (List.mem_of_getElem? hj)) hk).1.1 (h1 j y hlt hj)
  · cases hj
 have hpost : ∀ y ∈ us.drop (bsP (atP l.a l.b) us), l.a * 3 + l.b < y.key := fun y hy => by
  obtain ⟨j, hj⟩ := List.mem_iff_getElem?.1 hy; rw [List.getElem?_drop] at hj; have h3 : 0 ≤ z02 y ⟨l.a, l.b, 0⟩ := h2 _ y (Nat.le_add_right _ j) hj; have hyb := hb y (List.mem_of_getElem? hj); have h4 := q1q hyb hk; rcases Int.lt_or_le (l.a * 3 + l.b) y.key with h5 | h5
  · exact h5
  exfalso; have h6 : ¬ y.key < l.a * 3 + l.b := fun h7 => by have := h4.1.2 h7; omega
  have h7 : z02 y ⟨l.a, l.b, 0⟩ = 0 := h4.2.2 (by omega); have := (y35 (q2l h l.a l.b) hj h7).2; rw [hf] at this; cases this
 have hv : hasB us l.a l.b = 0 := z8b fun y hy e => by
  have h3 : y.key = l.a * 3 + l.b := by unfold Bal.key; rw [e.1, e.2]
  rw [← List.take_append_drop (bsP (atP l.a l.b) us) us] at hy; rcases List.mem_append.1 hy with h4 | h4
  · have := hpre y h4; omega
  · have := hpost y h4; omega
 refine ⟨hv, hple, ?_⟩; unfold y30; rw [hv, Int.zero_add, decide_eq_false hv0]; generalize bsP (atP l.a l.b) us = p at *
 conv => lhs; rw [← List.take_append_drop p us]
 rw [z53 hpre, y4e hpost]
theorem y8g : ∀ {us : List Bal} {n : Int}, us.Pairwise (fun x y => x.key < y.key) → (∀ x ∈ us, n ≤ x.key ∧ x.key ≤ 17) → (us.length : Int) ≤ max 0 (18 - n)
 | [], _, _, _ => by simp; omega
 | x :: us, n, hp, hk => by
   obtain ⟨h1, h2⟩ := List.pairwise_cons.1 hp; have h3 := y8g (us := us) (n := x.key + 1) h2 fun y hy => ⟨by have := h1 y hy; omega, (hk y (List.mem_cons_of_mem _ hy)).2⟩
   have h4 := hk x List.mem_cons_self; rw [List.length_cons]; omega
theorem z4p {us : List Bal} (hg : y58 us) (hv : ∀ x ∈ us, 1 ≤ x.v ∧ x.v ≤ 1000000000000) : ye us = 0 := by
 have hl := y8g (n := 0) hg.1 fun x hx => by
  have := (hg.2 x hx).1; unfold inK at this; unfold Bal.key; omega
 unfold ye; rw [if_neg (by omega)]; refine ze fun i hi => ?_
 obtain ⟨x, hx⟩ := gx hi; have hm := List.mem_of_getElem? hx; have h1 := (hg.2 x hm).1; have h2 := hv x hm; unfold inK at h1; have hb : x.bad = false := by simp [Bal.bad, within]; omega
 unfold y2l; rw [hx]; simp only [hb]; rcases Nat.eq_zero_or_pos i with hz | hz
 · subst hz; rw [ahead_zero]; rfl
 · obtain ⟨p, hp⟩ := gx (xs := us) (i := i - 1) (by omega)
   rw [za hz hp]; have := List.pairwise_iff_getElem.1 hg.1 (i - 1) i (by omega) hi (by omega); rw [(List.getElem?_eq_some_iff.1 hp).2, (List.getElem?_eq_some_iff.1 hx).2] at this; rw [decide_eq_true this]; rfl
theorem z9i {us : List Bal} (hg : y58 us) {x : Bal} (hx : x ∈ us) : hasB us x.a x.b = x.v := by
 obtain ⟨i, hi⟩ := List.mem_iff_getElem?.1 hx; refine q2c hi (fun j y hj hy e => ?_) ⟨rfl, rfl⟩; have hil := (List.getElem?_eq_some_iff.1 hi).1; have := List.pairwise_iff_getElem.1 hg.1 j i (by omega) hil hj; rw [(List.getElem?_eq_some_iff.1 hy).2, (List.getElem?_eq_some_iff.1 hi).2] at this; unfold Bal.key at this; rw [e.1, e.2] at this; omega
theorem z8j {us : List Bal} {l : Leg} (h : y48 us l = 0) : 0 ≤ hasB us l.a l.b + l.v ∧ hasB us l.a l.b + l.v ≤ 1000000000000 := by
 unfold y48 at h; split at h
 · omega
 · split at h <;> omega
theorem y7c {us : List Bal} {l : Leg} (h : ye us = 0) (hk : inK l.a l.b) (hc : y48 us l = 0) : ye (y30 us l) = 0 := by
 have hg := y8a h; have hga := y5g hg hk; refine z4p hga fun x hx => ?_
 have h1 := z9i hga hx; rw [q5g] at h1; have h0 := (hga.2 x hx).2; have hb := z2n (zw h).2.1 x.a x.b; have hl := z8j hc; by_cases e : l.a = x.a ∧ l.b = x.b
 · rw [if_pos e, ← e.1, ← e.2] at h1
   omega
 · rw [if_neg e] at h1
   omega
def q15 (st : List (List Bal)) (l : Leg) : List (List Bal) := match st[l.s.toNat]? with | some us => st.set l.s.toNat (y30 us l) | none => st
def z7i (ls : List Leg) (k : Nat) : List Leg := ls.filter fun l => Nat.beq l.s.toNat k
theorem q8r (st : List (List Bal)) (l : Leg) : (q15 st l).length = st.length := by unfold q15; split <;> simp
theorem y8r (st : List (List Bal)) (l : Leg) (k : Nat) : (q15 st l)[k]? = st[k]?.map fun us => if l.s.toNat = k then y30 us l else us := by
 unfold q15
 cases h : st[l.s.toNat]? with
 | none =>
   by_cases e : l.s.toNat = k
   · subst e; rw [h]; rfl
   · cases st[k]? <;> simp [e]
 | some us =>
   dsimp only; by_cases e : l.s.toNat = k
   · subst e
     have hl := (List.getElem?_eq_some_iff.1 h).1; rw [List.getElem?_set_self hl, h]; simp
   · rw [List.getElem?_set_ne e]
     cases st[k]? <;> simp [e]
theorem z4c : ∀ (ls : List Leg) (st : List (List Bal)), (ls.foldl q15 st).length = st.length
 | [], _ => rfl
 | l :: ls, st => by rw [List.foldl_cons, z4c ls, q8r]
theorem z2s : ∀ (ls : List Leg) (st : List (List Bal)) (k : Nat), (ls.foldl q15 st)[k]? = st[k]?.map fun us => z2t us (z7i ls k)
 | [], st, k => by
   show st[k]? = _; cases st[k]? <;> rfl
 | l :: ls, st, k => by
   rw [List.foldl_cons, z2s ls, y8r, Option.map_map]
   congr 1
   funext us
   show z2t (if l.s.toNat = k then y30 us l else us) (z7i ls k) = _; unfold z7i; rw [List.filter_cons]; by_cases e : l.s.toNat = k
   · rw [if_pos e, if_pos (by subst e; exact Nat.beq_refl _)]; rfl
   · rw [if_neg e, if_neg (by rw [beq_false e]; decide)]
theorem q4c {st : List (List Bal)} {l : Leg} {us : List Bal} (h : st[l.s.toNat]? = some us) : q15 st l = st.set l.s.toNat (y30 us l) := by unfold q15; rw [h]
theorem y4c {ls : List Leg} {st : List (List Bal)} {i : Nat} {l : Leg} (h : ls[i]? = some l) : (ls.take (i + 1)).foldl q15 st = q15 ((ls.take i).foldl q15 st) l := by
 rw [List.take_add_one, h, List.foldl_append]; rfl
def q1c (st : List (List Bal)) : Prop := ∀ us ∈ st, ye us = 0
def y7s (st : List (List Bal)) (ls : List Leg) (i : Nat) : Int := match ls[i]? with | some l => (match st[l.s.toNat]? with | some us => y48 us l | none => 0) | none => 0
def z3x (st : List (List Bal)) (x : Con) : Int := if yi x ≠ 0 then yi x else if (x.legs.any fun l => decide ((st.length : Int) ≤ l.s)) = true then 4 else scan (y7s st x.legs) x.legs.length
def yb7 (st : List (List Bal)) (x : Con) : List (List Bal) := x.legs.foldl q15 st
theorem q80 {st : List (List Bal)} {x : Con} (h : z3x st x = 0) : yi x = 0 ∧ (∀ l ∈ x.legs, l.s < st.length) ∧ ∀ (i : Nat) (l : Leg) (us : List Bal), x.legs[i]? = some l → st[l.s.toNat]? = some us → y48 us l = 0 := by
 unfold z3x at h; split at h
 · exact absurd h ‹_›
 · rename_i h1
   split at h
   · omega
   · rename_i h2
     refine ⟨by simpa using h1, fun l hl => ?_, fun i l us hi hu => ?_⟩
     · have := h2
       simp only [List.any_eq_true, decide_eq_true_eq, not_exists, not_and] at this; have := this l hl; omega
     · have := yx h i (List.getElem?_eq_some_iff.1 hi).1
       unfold y7s at this; rw [hi] at this; dsimp only at this; rw [hu] at this; exact this
theorem z1o {x : Con} (h : yi x = 0) : x.legs.length ≤ 8 ∧ (∀ l ∈ x.legs, (0 ≤ l.s ∧ l.s ≤ 2) ∧ inK l.a l.b ∧ l.small ∧ l.v ≠ 0) ∧ ∀ (i : Nat) (l : Leg), x.legs[i]? = some l → ∀ y ∈ x.legs.take i, y.same l = false := by
 have h1 := (y0i h); refine ⟨(z0s h).2, fun l hl => ?_, fun i l hi y hy => ?_⟩
 · have h2 := Leg.z09 (h1.2.2 l hl)
   exact ⟨h2.1, ⟨h2.2.1, h2.2.2.1⟩, h2.2.2.2.1, h2.2.2.2.2⟩
 · unfold yi at h
   split at h
   · split at h
     · split at h
       · exact absurd h ‹_›
       · rename_i h3
         have h3 : scan (q35 x.legs) x.legs.length = 0 := by simpa using h3
         have := yx h3 i (List.getElem?_eq_some_iff.1 hi).1; simp only [q35, hi] at this; split at this
         · exact absurd this ‹_›
         · split at this
           · omega
           · rename_i h4
             simp only [List.any_eq_true, not_exists, not_and] at h4
             simpa using h4 y hy
     · omega
   · omega
theorem z9v {x y : Leg} : x.same y = true ↔ x.s = y.s ∧ x.a = y.a ∧ x.b = y.b := by
 unfold Leg.same; simp [and_assoc]
theorem z90 {ls : List Leg} {a b : Int} (h : ∀ l ∈ ls, ¬ (l.a = a ∧ l.b = b)) : y7o ls a b = 0 := by
 unfold y7o
 induction ls with
 | nil => rfl
 | cons l ls ih =>
   rw [List.map_cons, List.sum_cons, ih fun x hx => h x (List.mem_cons_of_mem _ hx), if_neg (h l List.mem_cons_self)]; rfl
theorem q8w {st : List (List Bal)} {x : Con} (ho : q1c st) (h : z3x st x = 0) : ∀ (i : Nat), i ≤ x.legs.length → q1c ((x.legs.take i).foldl q15 st) ∧ ∀ (l : Leg), x.legs[i]? = some l → ∃ us, ((x.legs.take i).foldl q15 st)[l.s.toNat]? = some us ∧ ye us = 0 ∧ y48 us l = 0 := by
 obtain ⟨hc, hs, hl⟩ := q80 h; obtain ⟨_, hlk, hsm⟩ := z1o hc
 have hB : ∀ (i : Nat) (l : Leg), x.legs[i]? = some l → q1c ((x.legs.take i).foldl q15 st) → ∃ us, ((x.legs.take i).foldl q15 st)[l.s.toNat]? = some us ∧ ye us = 0 ∧ y48 us l = 0 := fun i l hi hok => by
  have hlm := List.mem_of_getElem? hi; have h1 := hs l hlm; have h2 := (hlk l hlm).1; obtain ⟨u0, hu0⟩ := gx (xs := st) (i := l.s.toNat) (by omega); have hg := z2s (x.legs.take i) st l.s.toNat; rw [hu0] at hg; refine ⟨_, hg, hok _ (List.mem_of_getElem? hg), ?_⟩; have h3 := hl i l u0 hi hu0; unfold y48 at h3 ⊢; rw [y3h, z90 (ls := z7i (x.legs.take i) l.s.toNat) (fun y hy e => ?_), Int.add_zero]
  · exact h3
  · obtain ⟨hy1, hy2⟩ := List.mem_filter.1 hy
    have h4 := hsm i l hi y hy1; have h5 := Nat.eq_of_beq_eq_true hy2; have h6 := (hlk y (List.mem_of_mem_take hy1)).1; have : y.same l = true := z9v.2 ⟨by omega, e.1, e.2⟩; rw [h4] at this; cases this
 intro i
 induction i with
 | zero => intro _; exact ⟨ho, fun l hi => hB 0 l hi ho⟩
 | succ i ih =>
   intro hi; obtain ⟨h1, h2⟩ := ih (by omega); obtain ⟨l, hx⟩ := gx (xs := x.legs) (i := i) (by omega); obtain ⟨us, hu, hf, hc2⟩ := h2 l hx
   have hok : q1c ((x.legs.take (i + 1)).foldl q15 st) := by
    rw [y4c hx, q4c hu]; intro ws hw; rcases List.mem_or_eq_of_mem_set hw with h3 | rfl
    · exact h1 ws h3
    · exact y7c hf (hlk l (List.mem_of_getElem? hx)).2.1 hc2
   exact ⟨hok, fun l hi => hB _ l hi hok⟩
theorem qb7 {st : List (List Bal)} {x : Con} (ho : q1c st) (h : z3x st x = 0) : q1c (yb7 st x) := by
 have := (q8w ho h x.legs.length (Nat.le_refl _)).1
 rwa [List.take_length] at this
theorem q70 (st : List (List Bal)) (x : Con) : (yb7 st x).length = st.length := z4c _ _
theorem z9x {x : Con} (hc : yi x = 0) {st : List (List Bal)} {k : Nat} {us : List Bal} (h : st[k]? = some us) : (yb7 st x)[k]? = some (z2t us (qh x k)) := by
 unfold yb7; rw [z2s, h]; show some (z2t us (z7i x.legs k)) = _
 congr 2
 unfold z7i qh; refine List.filter_congr fun l hl => ?_
 have h1 := ((z1o hc).2.1 l hl).1; by_cases e : l.s = k
 · rw [show l.s.toNat = k by omega, Nat.beq_refl]; simp [e]
 · rw [beq_false (show l.s.toNat ≠ k by omega)]; simp [e]
def z6i (p : List (List Bal) × List Int) (x : Con) : List (List Bal) × List Int := if z3x p.1 x = 0 then (yb7 p.1 x, p.2 ++ [1]) else (p.1, p.2 ++ [2])
def q30 (st : List (List Bal)) (list : List Con) : List (List Bal) × List Int := list.foldl z6i (st, [])
theorem y3a {st : List (List Bal)} {list : List Con} {i : Nat} {x : Con} (h : list[i]? = some x) : q30 st (list.take (i + 1)) = z6i (q30 st (list.take i)) x := by
 unfold q30; rw [List.take_add_one, h, List.foldl_append]; rfl
theorem y4j {st : List (List Bal)} (ho : q1c st) : ∀ {i : Nat} {list : List Con}, i ≤ list.length → q1c (q30 st (list.take i)).1 ∧ (q30 st (list.take i)).1.length = st.length ∧ (q30 st (list.take i)).2.length = i
 | 0, list, _ => by
   rw [List.take_zero]; exact ⟨ho, rfl, rfl⟩
 | i + 1, list, h => by
   obtain ⟨h1, h2, h3⟩ := y4j ho (i := i) (list := list) (by omega); obtain ⟨x, hx⟩ := gx (xs := list) (i := i) (by omega); rw [y3a hx]; unfold z6i; split
   · rename_i hc
     exact ⟨qb7 h1 hc, (q70 _ _).trans h2, by simp [h3]⟩
   · exact ⟨h1, h2, by simp [h3]⟩
def zq (st : List (List Bal)) (list : List Con) : Int × List Int × List (List Bal) := if zu st ≠ 0 then (zu st, [], []) else if 100 < list.length then (2, [], []) else (0, (q30 st list).2, (q30 st list).1)
def z0m (st : List (List Bal)) (c : Clu) : Int × List Int × List (List Bal) := if (q1v c).1 ≠ 0 then ((q1v c).1, [], []) else zq st ((q1v c).2.map (z1e c))
theorem z6a {st : List (List Bal)} (h : zu st = 0) : q1c st ∧ 1 ≤ st.length ∧ st.length ≤ 3 := by
 refine ⟨fun us hu => ?_, ?_⟩
 · obtain ⟨i, hi⟩ := List.mem_iff_getElem?.1 hu
   exact qbp h hi
 · unfold zu at h
   split at h <;> omega
theorem y17 {us : List Bal} (h : ye us = 0) : us.length ≤ 18 := (zw h).1
theorem z8x {st : List (List Bal)} (list : List Con) : (zq st list).2.1.length ≤ 100 ∧ (zq st list).2.2.length ≤ 3 ∧ q1c (zq st list).2.2 := by
 unfold zq; split
 · exact ⟨Nat.zero_le _, Nat.zero_le _, fun us h => by cases h⟩
 · rename_i h1
   have h1 : zu st = 0 := by simpa using h1
   split
   · exact ⟨Nat.zero_le _, Nat.zero_le _, fun us h => by cases h⟩
   · rename_i h2
     obtain ⟨h3, h4, h5⟩ := z6a h1; have := y4j h3 (Nat.le_refl list.length); rw [List.take_length] at this; exact ⟨by show (q30 st list).2.length ≤ 100; omega, by show (q30 st list).1.length ≤ 3; omega, this.1⟩
theorem y8t (st : List (List Bal)) (c : Clu) : (z0m st c).2.1.length ≤ 100 ∧ (z0m st c).2.2.length ≤ 3 ∧ q1c (z0m st c).2.2 := by
 unfold z0m; split
 · exact ⟨Nat.zero_le _, Nat.zero_le _, fun us h => by cases h⟩
 · exact z8x _
end Go.Sx
end
