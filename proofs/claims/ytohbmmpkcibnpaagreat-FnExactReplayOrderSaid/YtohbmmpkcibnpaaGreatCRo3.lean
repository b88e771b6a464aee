/- WHAT IS PROVED: parts of the proof of fnExactReplayOrder_holds: a frame for walks, what each Go function that it reaches answers, and plain lemmas; no condition beyond those that each theorem names. -/
import Derived.Test.YtohbmmpkcibnpaaGreatCRo2
import Derived.WalkKit
import Derived.OrdersHeld
import Derived.DeepKeys
import Derived.Maps.RangeWalk
import Derived.Maps.OwnOps
import Derived.WideKeyEntry
set_option linter.unusedVariables false
set_option linter.unusedSimpArgs false
section
namespace Go.Sx
open Go.RowKit (Below)
structure TI where
 lay : Option (Bool × Nat)
 esz : Option Nat
 esI : Option (Nat × Nat)
 str : Bool
 boo : Bool
 und : Bool
 ik : Option IntKind
 zero : Option AV
 z6o : Option (List AC)
 zrow : Option (List Cell)
 flds : List (Option Nat × Option (Bool × Nat × Nat))
 cmp : Option (List CK)
inductive TT where
 | leaf
 | node (k : Nat) (v : TI) (l r : TT)
def qat (P : Program) (t : TypeId) : Bool := match P.underlying t with | some .bool => true | _ => false
def ycp (P : Program) (t : TypeId) : Nat := match P.underlying t with | some (.struct fs) => fs.size | _ => 0
def mkF (P : Program) (t : TypeId) : Nat → Nat → List (Option Nat × Option (Bool × Nat × Nat))
 | 0, _ => []
 | n + 1, i => (zbb P t i, fld P t i) :: mkF P t n (i + 1)
def qc1 (P : Program) (t : TypeId) : TI := ⟨lay P t, esz P t, z1f P t, y68 P t, qat P t, (P.underlying t).isSome, z9k P t, q1x P t, z6o P t, z97 P t, mkF P t (ycp P t) 0, zbl P t⟩
def TT.map (P : Program) : TT → TT
 | .leaf => .leaf
 | .node k _ l r => .node k (qc1 P k) (l.map P) (r.map P)
def TT.find : TT → Nat → Option TI
 | .leaf, _ => none
 | .node k v l r, t => bif Nat.beq k t then some v else bif Nat.blt t k then l.find t else r.find t
theorem TT.y36 {P : Program} : ∀ {F : TT} {t : Nat} {i : TI}, (F.map P).find t = some i → i = qc1 P t
 | .leaf, t, i, h => by cases h
 | .node k v l r, t, i, h => by
   rw [TT.map, TT.find] at h; by_cases hk : k = t
   · subst hk; simp only [Nat.beq_refl, cond_true, Option.some.injEq] at h; exact h.symm
   · rw [beq_false hk] at h
     cases hb : Nat.blt t k with
     | true => rw [hb] at h; exact TT.y36 h
     | false => rw [hb] at h; exact TT.y36 h
def nth {α : Type} : List α → Nat → Option α
 | [], _ => none
 | a :: l, n => bif Nat.beq n 0 then some a else nth l (Nat.pred n)
theorem y2f {α : Type} : ∀ (l : List α) (n : Nat), nth l n = l[n]?
 | [], n => by simp [nth]
 | a :: l, 0 => rfl
 | a :: l, n + 1 => by rw [nth, beq_false (by omega), List.getElem?_cons_succ]; exact y2f l n
theorem q6c {P : Program} {t : Nat} : ∀ {n i k : Nat} {x : Option Nat × Option (Bool × Nat × Nat)}, (mkF P t n i)[k]? = some x → x = (zbb P t (i + k), fld P t (i + k))
 | 0, i, k, x, h => by simp [mkF] at h
 | n + 1, i, k, x, h => by
   rw [mkF] at h
   cases k with
   | zero => cases h; rfl
   | succ k => rw [List.getElem?_cons_succ] at h; rw [q6c h]; simp only [Nat.add_assoc, Nat.add_comm 1 k]
def yac (F : TT) (t : Nat) : Option (Bool × Nat) := match F.find t with | some i => i.lay | none => none
def q4i (F : TT) (t : Nat) : Option Nat := match F.find t with | some i => i.esz | none => none
def y7t (F : TT) (t : Nat) : Option (Nat × Nat) := match F.find t with | some i => i.esI | none => none
def y99 (F : TT) (t : Nat) : Bool := match F.find t with | some i => i.str | none => false
def zbf (F : TT) (t : Nat) : Bool := match F.find t with | some i => i.boo | none => false
def qbf (F : TT) (t : Nat) : Bool := match F.find t with | some i => i.und | none => false
def zci (F : TT) (t : Nat) : Option IntKind := match F.find t with | some i => i.ik | none => none
def za2 (F : TT) (t : Nat) : Option AV := match F.find t with | some i => i.zero | none => none
def q5x (F : TT) (t : Nat) : Option (List AC) := match F.find t with | some i => i.z6o | none => none
def y7u (F : TT) (t : Nat) : Option (List Cell) := match F.find t with | some i => i.zrow | none => none
def ybf (F : TT) (t : Nat) : Option (List CK) := match F.find t with | some i => i.cmp | none => none
def qa1 (F : TT) (t f : Nat) : Option Nat := match F.find t with | some i => (match nth i.flds f with | some x => x.1 | none => none) | none => none
def qab (F : TT) (t f : Nat) : Option (Bool × Nat × Nat) := match F.find t with | some i => (match nth i.flds f with | some x => x.2 | none => none) | none => none
section
variable {P : Program} {F : TT}
theorem y1u {α : Type} {F : TT} {t : Nat} {g : TI → Option α} {x : α} (hF : F = F.map P) (h : (match F.find t with | some i => g i | none => none) = some x) : g (qc1 P t) = some x := by
 cases hi : F.find t with
 | none => rw [hi] at h; cases h
 | some i => rw [hi] at h; rw [hF] at hi; rw [← TT.y36 hi]; exact h
theorem q7t {F : TT} {t : Nat} {g : TI → Bool} (hF : F = F.map P) (h : (match F.find t with | some i => g i | none => false) = true) : g (qc1 P t) = true := by
 cases hi : F.find t with
 | none => rw [hi] at h; cases h
 | some i => rw [hi] at h; rw [hF] at hi; rw [← TT.y36 hi]; exact h
theorem z34 (hF : F = F.map P) {t : Nat} {x : Bool × Nat} (h : yac F t = some x) : lay P t = some x := y1u (g := TI.lay) hF h
theorem q0n (hF : F = F.map P) {t : Nat} {x : Nat} (h : q4i F t = some x) : esz P t = some x := y1u (g := TI.esz) hF h
theorem z04 (hF : F = F.map P) {t : Nat} {x : Nat × Nat} (h : y7t F t = some x) : z1f P t = some x := y1u (g := TI.esI) hF h
theorem zac (hF : F = F.map P) {t : Nat} {x : IntKind} (h : zci F t = some x) : z9k P t = some x := y1u (g := TI.ik) hF h
theorem z7u (hF : F = F.map P) {t : Nat} {x : AV} (h : za2 F t = some x) : q1x P t = some x := y1u (g := TI.zero) hF h
theorem y73 (hF : F = F.map P) {t : Nat} {x : List AC} (h : q5x F t = some x) : z6o P t = some x := y1u (g := TI.z6o) hF h
theorem q7u (hF : F = F.map P) {t : Nat} {x : List Cell} (h : y7u F t = some x) : z97 P t = some x := y1u (g := TI.zrow) hF h
theorem z99 (hF : F = F.map P) {t : Nat} {x : List CK} (h : ybf F t = some x) : zbl P t = some x := y1u (g := TI.cmp) hF h
theorem z4j (hF : F = F.map P) {t : Nat} (h : y99 F t = true) : y68 P t = true := q7t (g := TI.str) hF h
theorem q98 (hF : F = F.map P) {t : Nat} (h : zbf F t = true) : P.underlying t = some .bool := by
 have : qat P t = true := q7t (g := TI.boo) hF h; unfold qat at this; split at this
 · assumption
 · cases this
theorem q99 (hF : F = F.map P) {t : Nat} (h : qbf F t = true) : ∃ u, P.underlying t = some u := Option.isSome_iff_exists.1 (q7t (g := TI.und) hF h)
theorem y39 (hF : F = F.map P) {t f x : Nat} (h : qa1 F t f = some x) : zbb P t f = some x := by
 have := y1u (g := fun i => match nth i.flds f with | some x => x.1 | none => none) hF h; split at this
 · rename_i y hy
   rw [y2f] at hy; rw [q6c hy, Nat.zero_add] at this; exact this
 · cases this
theorem q33 (hF : F = F.map P) {t f : Nat} {x : Bool × Nat × Nat} (h : qab F t f = some x) : fld P t f = some x := by
 have := y1u (g := fun i => match nth i.flds f with | some x => x.2 | none => none) hF h; split at this
 · rename_i y hy
   rw [y2f] at hy; rw [q6c hy, Nat.zero_add] at this; exact this
 · cases this
end
inductive R where
 | fail
 | ok (σ : St)
 | side (p : Prop) (r : R)
 | br (t : Bool) (r r' : R)
 | any (q : Bool → Prop) (f : Bool → R)
 | row (rows : List (List Cell)) (i : Nat) (f : List Cell → R)
 | byte (s : ByteArray) (i : Nat) (f : UInt8 → R)
 | call (g : Bool) (σ : St) (d : Option Tmp) (f : Nat) (avs : List AV)
 | raw (g : Bool) (σ : St) (o : Oper)
def R.holds (P : Program) : R → (St → Prop) → Prop
 | .fail, _ => False
 | .ok σ, K => K σ
 | .side p r, K => p ∧ r.holds P K
 | .br t r r', K => (t = true → r.holds P K) ∧ (t = false → r'.holds P K)
 | .any q f, K => ∀ b, q b → (f b).holds P K
 | .row rows i f, K => ∃ row, rows[i]? = some row ∧ (f row).holds P K
 | .byte s i f, K => ∃ b, s[i]? = some b ∧ (f b).holds P K
 | .call g σ d f avs, K => y4i P σ d f avs K ∨ (g = true ∧ z4i P σ d f avs K)
 | .raw g σ o, K => opL g P σ o K
def force {α : Type} : List α → Option (List α)
 | [] => some []
 | a :: l => match force l with | some l' => some (a :: l') | none => none
theorem force_eq {α : Type} : ∀ {l l' : List α}, force l = some l' → l' = l
 | [], l', h => by cases h; rfl
 | a :: l, l', h => by
   rw [force] at h; split at h
   · rename_i l1 h1; cases h; rw [force_eq h1]
   · cases h
def q3z {α : Type} : Nat → List α → Bool
 | 0, _ => true
 | _ + 1, [] => false
 | n + 1, _ :: l => q3z n l
theorem z0z {α : Type} : ∀ {n : Nat} {l : List α}, q3z n l = true → n ≤ l.length
 | 0, l, _ => Nat.zero_le _
 | n + 1, [], h => by cases h
 | n + 1, _ :: l, h => Nat.succ_le_succ (z0z (l := l) h)
def z4o {α : Type} : Nat → List α → Bool
 | 0, [] => true
 | 0, _ :: _ => false
 | _ + 1, [] => false
 | n + 1, _ :: l => z4o n l
theorem y18 {α : Type} : ∀ {n : Nat} {l : List α}, z4o n l = true → l.length = n
 | 0, [], _ => rfl
 | 0, _ :: _, h => by cases h
 | n + 1, [], h => by cases h
 | n + 1, _ :: l, h => congrArg (· + 1) (y18 (l := l) h)
def ikN : IntKind → Nat
 | .i8 => 0 | .i16 => 1 | .i32 => 2 | .i64 => 3 | .u8 => 4 | .u16 => 5 | .u32 => 6 | .u64 => 7
theorem zas {k k' : IntKind} (h : Nat.beq (ikN k) (ikN k') = true) : k = k' := by
 cases k <;> cases k' <;> first | rfl | cases h
def qt (b : Bool) (r : R) : R := match b with | true => r | false => .fail
theorem zc {P : Program} {b : Bool} {r : R} {K : St → Prop} (h : (qt b r).holds P K) : b = true ∧ r.holds P K := by
 cases b with
 | true => exact ⟨rfl, h⟩
 | false => exact h.elim
def z0x (σ : St) (d : Option Tmp) (av : AV) : R := match σ, d with
 | ⟨t, b⟩, some d => .ok ⟨(d, av) :: t, b⟩
 | σ, none => .ok σ
theorem y1t {P : Program} {σ : St} {d : Option Tmp} {av : AV} {K : St → Prop} : (z0x σ d av).holds P K ↔ K (σ.put d av) := by
 cases σ; cases d <;> rfl
def evR (σ : St) (x : Operand) (f : AV → R) : R := match ev σ x with | some av => f av | none => .fail
def sV (v : Value) : AV := .one (.b (.s v))
def y6r (σ : St) (av : AV) (f : List AC → R) : R := match av with
 | .one (.b (.p row)) => (match force (row.map .b) with | some cs => f cs | none => .fail)
 | .one (.a β off) => (match get σ.b β with | some (.var cs) => (match force ((cs.drop off).map (unk σ.b)) with | some cs => f cs | none => .fail) | _ => .fail)
 | .one (.e β m i k) => (match get σ.b β with
   | some (.arr full _ ep rows) => .side (m = rows.length) (.row rows i fun row => (match q3d full β ep i k (row.drop k) with | some cs => f cs | none => .fail))
   | _ => .fail)
 | _ => .fail
theorem z81 {P : Program} {σ : St} {av : AV} {f : List AC → R} {K : St → Prop} {K' : List AC → Prop} (hf : ∀ cs, (f cs).holds P K → K' cs) (h : (y6r σ av f).holds P K) : y1y σ av K' := by
 unfold y6r at h; unfold y1y; split at h
 · split at h
   · rename_i cs hcs; rw [force_eq hcs] at h; exact hf _ h
   · exact h.elim
 · rename_i β off
   dsimp only; split at h
   · rename_i cs hcs
     split at h
     · rename_i cs' hcs'; rw [force_eq hcs'] at h; rw [hcs]; exact hf _ h
     · exact h.elim
   · exact h.elim
 · rename_i β m i k
   dsimp only; split at h
   · rename_i full sz ep rows hab
     obtain ⟨h1, row, h2, h3⟩ := h; rw [hab]; refine ⟨h1, ?_⟩; rw [h2]; dsimp only at h3 ⊢; split at h3
     · rename_i cs hcs; rw [hcs]; exact hf _ h3
     · exact h3.elim
   · exact h.elim
 · exact h.elim
def zaq (op : BinOp) (k : IntKind) (x y : Int) (f : Value → R) : R := match op with
 | .add => f (.int k (k.wrap (x + y))) | .sub => f (.int k (k.wrap (x - y))) | .mul => f (.int k (k.wrap (x * y)))
 | .eql => f (.bool (x == y)) | .neq => f (.bool (x != y)) | .lss => f (.bool (decide (x < y))) | .leq => f (.bool (decide (x ≤ y)))
 | .gtr => f (.bool (decide (x > y))) | .geq => f (.bool (decide (x ≥ y)))
 | .quo => .side (y ≠ 0) (f (.int k (k.wrap (x.tdiv y)))) | .rem => .side (y ≠ 0) (f (.int k (x.tmod y)))
 | .and => f (.int k (bits .and k x y)) | .or => f (.int k (bits .or k x y)) | .xor => f (.int k (bits .xor k x y))
 | _ => .fail
def ycf (op : BinOp) (a b : ByteArray) (f : Value → R) : R := match op with
 | .add => .side (a.size + b.size ≤ 9223372036854775807) (f (.string (a ++ b)))
 | .eql => f (.bool (a.toList == b.toList)) | .neq => f (.bool (!(a.toList == b.toList)))
 | .lss => f (.bool (Op.bytesLess a.toList b.toList)) | .leq => f (.bool (Op.bytesLess a.toList b.toList || (a.toList == b.toList)))
 | .gtr => f (.bool (!(Op.bytesLess a.toList b.toList || (a.toList == b.toList)))) | .geq => f (.bool (!(Op.bytesLess a.toList b.toList)))
 | _ => .fail
def yc5 (op : BinOp) (u v : Value) (f : Value → R) : R := match u, v with
 | .int k x, .int k' y => (match op with
   | .shl => .side (0 ≤ y) (f (.int k (k.wrap (x * 2 ^ (min y.toNat k.bits)))))
   | .shr => .side (0 ≤ y) (f (.int k (x.fdiv (2 ^ (min y.toNat k.bits)))))
   | op => qt (Nat.beq (ikN k) (ikN k')) (zaq op k x y f))
 | .string a, .string b => ycf op a b f
 | _, _ => .fail
section
variable {P : Program} {K : St → Prop} {K' : Value → Prop} {f : Value → R}
theorem q9j {op : BinOp} {k : IntKind} {x y : Int} (hf : ∀ v, (f v).holds P K → K' v) (h : (zaq op k x y f).holds P K) : match zbn op k x y with | some r => K' r | none => False := by
 cases op <;> simp only [zaq] at h <;> simp only [zbn] <;> first
  | exact hf _ h
  | exact h.elim
  | (rw [if_neg h.1]; exact hf _ h.2)
theorem zb8 {op : BinOp} {a b : ByteArray} (hf : ∀ v, (f v).holds P K → K' v) (h : (ycf op a b f).holds P K) : z71 op a b K' := by
 cases op <;> simp only [ycf] at h <;> simp only [z71] <;> first
  | exact hf _ h
  | exact h.elim
  | exact ⟨h.1, hf _ h.2⟩
theorem yai {op : BinOp} {u v : Value} (hf : ∀ v, (f v).holds P K → K' v) (h : (yc5 op u v f).holds P K) : zbk op u v K' := by
 unfold yc5 at h; unfold zbk; split at h
 · dsimp only
   split at h
   · exact ⟨h.1, hf _ h.2⟩
   · exact ⟨h.1, hf _ h.2⟩
   · rename_i h1 h2
     obtain ⟨hk, h'⟩ := zc h; have hk := zas hk; subst hk; have := q9j hf h'; split
     · exact absurd rfl h1
     · exact absurd rfl h2
     · rw [if_pos rfl]; exact this
 · exact zb8 hf h
 · exact h.elim
end
def bR (t : List (Nat × AV)) (b : List (Nat × AB)) : R := match force b with | some b => .ok ⟨t, b⟩ | none => .fail
theorem qy {P : Program} {t : List (Nat × AV)} {b : List (Nat × AB)} {K : St → Prop} (h : (bR t b).holds P K) : K ⟨t, b⟩ := by
 unfold bR at h; split at h
 · rename_i b' hb; rw [force_eq hb] at h; exact h
 · exact h.elim
def ya7 (B : List (Nat × AB)) : List AC → Option (List Cell)
 | [] => some []
 | .b c :: l => (match ya7 B l with | some l' => some (c :: l') | none => none)
 | .h γ _ :: l => (match get B γ, ya7 B l with | some (.arr _ _ _ rows), some l' => some (.l rows :: l') | _, _ => none)
 | .nil :: l => (match ya7 B l with | some l' => some (.l [] :: l') | none => none)
 | .em :: l => (match ya7 B l with | some l' => some (.l [] :: l') | none => none)
 | _ => none
theorem q4v {B : List (Nat × AB)} : ∀ {cs : List AC} {l : List Cell}, ya7 B cs = some l → l = cs.map (y33 B)
 | [], l, h => by cases h; rfl
 | c :: cs, l, h => by
   cases c <;> rw [ya7] at h <;> first
    | (split at h
       · rename_i l' hl; cases h; rw [q4v hl]; rfl
       · cases h)
    | (split at h
       · rename_i rows l' hg hl; cases h; rw [q4v hl]; simp [y33, hg]
       · cases h)
    | cases h
def z9n (B : List (Nat × AB)) : List (List AC) → Option (List (List Cell))
 | [] => some []
 | cs :: l => match ya7 B cs, z9n B l with | some r, some l' => some (r :: l') | _, _ => none
theorem q6v {B : List (Nat × AB)} : ∀ {rws : List (List AC)} {l : List (List Cell)}, z9n B rws = some l → l = rws.map fun cs => cs.map (y33 B)
 | [], l, h => by cases h; rfl
 | c :: cs, l, h => by
   rw [z9n] at h; split at h
   · rename_i r l' hr hl; cases h; rw [q4v hr, q6v hl]; rfl
   · cases h
def q97 : List AC → List Nat
 | [] => []
 | .h γ _ :: l => γ :: q97 l
 | _ :: l => q97 l
theorem y4q : ∀ (cs : List AC), q97 cs = cs.filterMap gam
 | [] => rfl
 | c :: cs => by
   have ih := y4q cs; cases c <;> simp only [q97, ih] <;> rfl
def yay (x : Nat) : List Nat → Bool
 | [] => false
 | y :: l => bif Nat.beq x y then true else yay x l
theorem y37 {x : Nat} : ∀ {l : List Nat}, yay x l = false → x ∉ l
 | [], _ => by simp
 | y :: l, h => by
   rw [yay] at h
   cases hb : Nat.beq x y with
   | true => rw [hb] at h; cases h
   | false =>
     rw [hb] at h; have hne : x ≠ y := fun e => by subst e; simp at hb
     have := y37 (l := l) h; simp [hne, this]
def yaz : List Nat → Bool
 | [] => true
 | x :: l => bif yay x l then false else yaz l
theorem z6 : ∀ {l : List Nat}, yaz l = true → l.Nodup
 | [], _ => List.nodup_nil
 | x :: l, h => by
   rw [yaz] at h
   cases hb : yay x l with
   | true => rw [hb] at h; cases h
   | false => rw [hb] at h; exact List.nodup_cons.2 ⟨y37 hb, z6 h⟩
def qbb (b : Bool) : Bool := match b with | true => false | false => true
theorem z3l {b : Bool} (h : qbb b = true) : b = false := by cases b <;> first | rfl | cases h
def z6p (sz : Nat) : List (List AC) → Bool
 | [] => true
 | cs :: l => bif z4o sz cs then z6p sz l else false
theorem z5a {sz : Nat} : ∀ {l : List (List AC)}, z6p sz l = true → (l.all fun cs => cs.length == sz) = true
 | [], _ => rfl
 | cs :: l, h => by
   rw [z6p] at h
   cases hb : z4o sz cs with
   | false => rw [hb] at h; cases h
   | true => rw [hb] at h; simp only [List.all_cons, y18 hb, beq_self_eq_true, Bool.true_and]; exact z5a h
def flat (l : List (List AC)) : List AC := l.flatten
def q6x (σ : St) : Nat → List (Nat × Operand) → Option (List (List AC))
 | _, [] => some []
 | i, (j, x) :: ps => bif Nat.beq i j then (match ev σ x, q6x σ (Nat.succ i) ps with
   | some (.one c), some r => some ([c] :: r)
   | some (.agg cs), some r => some (cs :: r)
   | _, _ => none) else none
theorem q3l {σ : St} : ∀ {ps : List (Nat × Operand)} {i : Nat} {r : List (List AC)}, q6x σ i ps = some r → z24 σ i ps = some r
 | [], i, r, h => h
 | (j, x) :: ps, i, r, h => by
   rw [q6x] at h; by_cases hij : i = j
   · subst hij
     simp only [Nat.beq_refl, cond_true] at h; rw [z24, if_pos rfl]; split at h
     · rename_i c r' h1 h2; cases h; rw [h1, q3l h2]
     · rename_i c r' h1 h2; cases h; rw [h1, q3l h2]
     · cases h
   · rw [beq_false hij] at h; cases h
def z88 (F : TT) (σ : St) (t : Nat) : List AC → List (Nat × Operand) → Option (List AC)
 | cs, [] => some cs
 | cs, (i, x) :: ps => match qab F t i, ev σ x with
   | some (_, off, n), some (.one c) => (match Nat.beq n 1, q3z (Nat.add off 1) cs, force (putCells cs off [c]) with | true, true, some cs' => z88 F σ t cs' ps | _, _, _ => none)
   | some (_, off, n), some (.agg xs) => (match z4o n xs, q3z (Nat.add off n) cs, force (putCells cs off xs) with | true, true, some cs' => z88 F σ t cs' ps | _, _, _ => none)
   | _, _ => none
def z77 (σ : St) : List Operand → Option (List (Nat × Nat))
 | [] => some []
 | x :: l => match ev σ x, z77 σ l with | some (.one (.a β off)), some r => some ((β, off) :: r) | _, _ => none
theorem y4l {σ : St} : ∀ {l : List Operand}, z77 σ l = l.mapM (fun x => match ev σ x with | some (.one (.a β off)) => some (β, off) | _ => none)
 | [] => rfl
 | x :: l => by
   rw [List.mapM_cons, ← y4l (l := l), z77]; split
   · rename_i β off r h1 h2
     simp [h1, h2]
   · rename_i h1
     cases he : z77 σ l with
     | none => split <;> simp
     | some r =>
       split
       · rename_i β off h2; exact absurd he (h1 β off r h2)
       · simp
def z9d (σ : St) : List Operand → Option (List Cell)
 | [] => some []
 | x :: l => match ev σ x, z9d σ l with | some (.one (.b c)), some r => some (c :: r) | _, _ => none
theorem z6r {σ : St} : ∀ {l : List Operand} {r : List Cell}, z9d σ l = some r → l.mapM (fun x => match ev σ x with | some (.one (.b c)) => some c | _ => none) = some r
 | [], r, h => by cases h; rfl
 | x :: l, r, h => by
   rw [z9d] at h; split at h
   · rename_i c r' h1 h2
     cases h; simp [h1, z6r h2]
   · cases h
def q66 : List AC → Bool
 | [] => true
 | .b (.s _) :: l => q66 l
 | .b _ :: _ => false
 | _ :: l => q66 l
theorem q36 : ∀ (cs : List AC), q66 cs = z2v cs
 | [] => rfl
 | c :: cs => by
   cases c with
   | b c => cases c <;> simp [q66, z2v] <;> exact q36 cs
   | _ => simp [q66, z2v]; exact q36 cs
section
variable {P : Program} {F : TT}
theorem y4p (hF : F = F.map P) {σ : St} {t : Nat} : ∀ {ps : List (Nat × Operand)} {cs r : List AC}, z88 F σ t cs ps = some r → y2u P σ t cs ps = some r
 | [], cs, r, h => h
 | (i, x) :: ps, cs, r, h => by
   rw [z88] at h; rw [y2u]; split at h
   · rename_i off n c h1 h2
     rw [q33 hF h1, h2]; dsimp only; split at h
     · rename_i cs' e1 e2 e3
       rw [if_pos ⟨Nat.eq_of_beq_eq_true e1, z0z e2⟩, ← force_eq e3]; exact y4p hF h
     · cases h
   · rename_i off n xs h1 h2
     rw [q33 hF h1, h2]; dsimp only; split at h
     · rename_i cs' e1 e2 e3
       rw [if_pos ⟨y18 e1, z0z e2⟩, ← force_eq e3]; exact y4p hF h
     · cases h
   · cases h
end
def yat : Option Operand → St → Option (Option Int)
 | none, _ => some none
 | some x, σ => match ev σ x with | some (.one (.b (.s (.int _ n)))) => some (some n) | _ => none
def y0m {α : Type} (o : Option α) (f : α → R) : R := match o with | some a => f a | none => .fail
theorem yh {P : Program} {K : St → Prop} {α : Type} {o : Option α} {f : α → R} (h : (y0m o f).holds P K) : ∃ a, o = some a ∧ (f a).holds P K := by
 cases o with
 | none => exact h.elim
 | some a => exact ⟨a, rfl, h⟩
def yca (F : TT) (σ : St) (t : Nat) (av : AV) (f : Value → R) : R := match av with
 | .one (.b (.l rows)) => y0m (q4i F t) fun _ => f (.int .i64 rows.length)
 | .one .nil => y0m (q4i F t) fun _ => f (.int .i64 0)
 | .one .em => y0m (q4i F t) fun _ => f (.int .i64 0)
 | .one (.h _ n) => y0m (q4i F t) fun _ => f (.int .i64 n)
 | .one (.b (.s (.string s))) => qt (y99 F t) (f (.int .i64 s.size))
 | .one (.q β m i k) => y0m (q4i F t) fun _ => (match get σ.b β with
   | some (.arr _ _ ep rows) => .side (m = ep) (.row rows i fun row => match nth row k with | some (.l rs) => f (.int .i64 rs.length) | _ => .fail)
   | _ => .fail)
 | _ => .fail
def qcc : Option (List Cell) → Bool
 | some r => r.any fun c => match c with | .l _ => true | _ => false
 | none => false
def yb8 (z : Option (List Cell)) (full : Bool) (rows : List (List Cell)) : Bool := match qcc z with
 | true => (match full with | true => (match rows with | [] => true | _ => false) | false => false)
 | false => false
theorem z94 {z : Option (List Cell)} {full : Bool} {rows : List (List Cell)} (h : yb8 z full rows = true) : rows = [] := by
 unfold yb8 at h; split at h
 · split at h
   · split at h
     · rfl
     · cases h
   · cases h
 · cases h
def yaj (g : Bool) (F : TT) (σ : St) (o : Oper) (c : Call) : R := match c.callee with
 | .builtin .len => (match c.argTypes.toList, c.args.toList with
   | t :: _, [x] => evR σ x fun av => yca F σ t av fun r => z0x σ o.dst (sV r)
   | _, _ => .fail)
 | .builtin .append => (match c.argTypes.toList, c.args.toList, o.dst with
   | [t, tx], [s, x], some d => (match y7t F t, y7t F tx, ev σ s, ev σ x with
     | some (sz, by_), some _, some (.one (.h β n)), some (.one (.h γ m)) => (match get σ.b β, get σ.b γ with
       | some (.arr full0 sz0 ep rows0), some (.arr full sz1 _ rows) =>
         qt (Nat.beq sz0 sz) (qt (Nat.beq sz1 sz) (qt (qbb (Nat.beq β γ)) (.side (n = rows0.length) (.side (m = rows.length) (match full0, full with
         | false, true => .side (q4p rows) (.side (rows0.length + rows.length ≤ 9223372036854775807) (.side ((rows0.length + rows.length) * by_ ≤ 140737488355328)
         (bR ((d, .one (.h β (rows0.length + rows.length))) :: σ.t) (y0g (yo σ.b [γ]) β (.arr false sz (Nat.succ ep) (rows0 ++ rows))))))
         | full0, full => .side (full0 = full ∨ rows0 = []) (.side (rows0.length + rows.length ≤ 9223372036854775807) (.side ((rows0.length + rows.length) * by_ ≤ 140737488355328)
         (bR ((d, .one (.h β (rows0.length + rows.length))) :: σ.t) (y0g (yo σ.b [γ]) β (.arr full sz (Nat.succ ep) (rows0 ++ rows)))))))))))
       | _, _ => .fail)
     | some (sz, by_), some _, some (.one (.h β n)), some (.one (.b (.l rows))) => (match get σ.b β with
       | some (.arr full0 sz0 ep rows0) => qt (Nat.beq sz0 sz) (.side (n = rows0.length) (.side (∀ row ∈ rows, row.length = sz) (match yb8 (y7u F t) full0 rows0 with
         | true => .side (rows0.length + rows.length ≤ 9223372036854775807) (.side ((rows0.length + rows.length) * by_ ≤ 140737488355328)
         (bR ((d, .one (.h β (rows0.length + rows.length))) :: σ.t) (y0g σ.b β (.arr false sz (Nat.succ ep) (rows0 ++ rows)))))
         | false => .side (full0 = true → yu rows) (.side (rows0.length + rows.length ≤ 9223372036854775807) (.side ((rows0.length + rows.length) * by_ ≤ 140737488355328)
         (bR ((d, .one (.h β (rows0.length + rows.length))) :: σ.t) (y0g σ.b β (.arr full0 sz (Nat.succ ep) (rows0 ++ rows)))))))))
       | _ => .fail)
     | some (sz, by_), some _, some (.one .nil), some (.one (.h γ m)) => (match get σ.b d, get σ.b γ with
       | none, some (.arr full sz1 _ rows) => qt (Nat.beq sz1 sz) (qt (qbb (Nat.beq d γ)) (.side (m = rows.length) (.side (rows.length ≤ 9223372036854775807) (.side (rows.length * by_ ≤ 140737488355328) (bR ((d, .one (.h d rows.length)) :: σ.t) (y0g (yo σ.b [γ]) d (.arr full sz 0 rows)))))))
       | _, _ => .fail)
     | some (sz, by_), some _, some (.one .em), some (.one (.h γ m)) => (match get σ.b d, get σ.b γ with
       | none, some (.arr full sz1 _ rows) => qt (Nat.beq sz1 sz) (qt (qbb (Nat.beq d γ)) (.side (m = rows.length) (.side (rows.length ≤ 9223372036854775807) (.side (rows.length * by_ ≤ 140737488355328) (bR ((d, .one (.h d rows.length)) :: σ.t) (y0g (yo σ.b [γ]) d (.arr full sz 0 rows)))))))
       | _, _ => .fail)
     | some (sz, by_), some _, some (.one .em), some (.one (.b (.l rows))) => (match get σ.b d with
       | none => .side (∀ row ∈ rows, row.length = sz) (.side (yu rows) (.side (rows.length ≤ 9223372036854775807) (.side (rows.length * by_ ≤ 140737488355328) (bR ((d, .one (.h d rows.length)) :: σ.t) (y0g σ.b d (.arr true sz 0 rows))))))
       | _ => .fail)
     | some (sz, by_), some _, some (.one .nil), some (.one (.b (.l rows))) => (match get σ.b d with
       | none => .side (∀ row ∈ rows, row.length = sz) (.side (yu rows) (.side (rows.length ≤ 9223372036854775807) (.side (rows.length * by_ ≤ 140737488355328) (bR ((d, .one (.h d rows.length)) :: σ.t) (y0g σ.b d (.arr true sz 0 rows))))))
       | _ => .fail)
     | _, _, _, _ => .fail)
   | _, _, _ => .fail)
 | .value x => (match ev σ x, evs σ c.args.toList with
   | some (.one (.cl f caps)), some avs => y0m (force (avs ++ caps.map fun c => .one (.a c.1 c.2))) fun avs => .call g σ o.dst f avs
   | some (.one (.b (.f f caps))), some avs => y0m (force (avs ++ caps.map fun c => .one (.b c))) fun avs => .call g σ o.dst f avs
   | some (.one (.cm f β off)), some avs => .call g σ o.dst f (.one (.a β off) :: avs)
   | some (.one (.b (.m f ag row))), some avs => .call g σ o.dst f (z8s ag row :: avs)
   | _, _ => .fail)
 | .builtin .max => (match c.args.toList with
   | [x, y] => (match ev σ x, ev σ y with | some (.one (.b (.s (.int k a)))), some (.one (.b (.s (.int _ b)))) => z0x σ o.dst (sV (.int k (mx a b))) | _, _ => .fail)
   | [x, y, z, t] => (match ev σ x, ev σ y, ev σ z, ev σ t with | some (.one (.b (.s (.int k a)))), some (.one (.b (.s (.int _ b)))), some (.one (.b (.s (.int _ c)))), some (.one (.b (.s (.int _ d)))) => z0x σ o.dst (sV (.int k (mx (mx (mx a b) c) d))) | _, _, _, _ => .fail)
   | _ => .fail)
 | .builtin .min => (match c.args.toList with
   | [x, y] => (match ev σ x, ev σ y with | some (.one (.b (.s (.int k a)))), some (.one (.b (.s (.int _ b)))) => z0x σ o.dst (sV (.int k (if b < a then b else a))) | _, _ => .fail)
   | _ => .fail)
 | _ => .raw g σ o
def yc3 (σ : St) (d : Option Tmp) (cs : List AC) : R := match d with
 | some d => (match get σ.b d with | none => bR ((d, .one (.a d 0)) :: σ.t) (y0g σ.b d (.var cs)) | some _ => .fail)
 | none => .fail
def z8n : AV → Bool | .tup _ => false | _ => true
def z5t (F : TT) (σ : St) (t : Nat) (p x : AV) : R := match yac F t, p, x with
 | some (_, n), .one (.e β m i k), x => (match get σ.b β with
   | some (.arr full sz ep rows) => qt (z8n x) (qt (z4o n (yk x)) (qt (yaz (q97 (yk x))) (qt (qbb (yay β (q97 (yk x)))) (.side (m = rows.length) (.row rows i fun row => .side (k + n ≤ row.length) (.side (q7w (wfS σ.b full) (yk x)) (y0m (ya7 σ.b (yk x)) fun xs =>
      bR σ.t (y0g (yo σ.b (q97 (yk x))) β (.arr full sz (Nat.succ ep) (rows.set i (putRow row k xs)))))))))))
   | _ => .fail)
 | some (false, 1), .one (.a β off), .one c => (match get σ.b β with | some (.var cs) => qt (q3z (Nat.add off 1) cs) (y0m (force (putCells cs off [c])) fun cs => bR σ.t (y0g σ.b β (.var cs))) | _ => .fail)
 | some (true, n), .one (.a β off), .agg xs => (match get σ.b β with | some (.var cs) => qt (z4o n xs) (qt (q3z (Nat.add off n) cs) (y0m (force (putCells cs off xs)) fun cs => bR σ.t (y0g σ.b β (.var cs)))) | _ => .fail)
 | _, _, _ => .fail
def zcb (F : TT) (σ : St) (t n : Nat) (ps : List (Nat × Operand)) (d : Option Tmp) : R := match d, y7t F t, q6x σ 0 ps with
 | some d, some (sz, _), some rws => (match get σ.b d with
   | none => qt (z4o n rws) (qt (Nat.ble (Nat.mul n sz) 16777216) (qt (z6p sz rws) (qt (yaz (q97 (flat rws))) (qt (qbb (yay d (q97 (flat rws)))) (.side (q7w (wfS σ.b (q66 (flat rws))) (flat rws)) (y0m (z9n σ.b rws) fun rs =>
     bR ((d, .one (.h d n)) :: σ.t) (y0g (yo σ.b (q97 (flat rws))) d (.arr (q66 (flat rws)) sz 0 rs))))))))
   | some _ => .fail)
 | _, _, _ => .fail
def qcb (F : TT) (σ : St) (t : Nat) (l c : Operand) (d : Option Tmp) : R := match d, y7t F t, y7u F t, ev σ l, ev σ c with
 | some d, some (sz, by_), some zrow, some (.one (.b (.s (.int _ n)))), some (.one (.b (.s (.int _ n')))) => (match get σ.b d with
   | none => qt (z4o sz zrow) (.side (n = n') (.side (0 ≤ n) (.side (n * by_ ≤ 281474976710656) (.side (n ≤ 9223372036854775807) (bR ((d, .one (.h d n.toNat)) :: σ.t) (y0g σ.b d (.arr true sz 0 (List.replicate n.toNat zrow))))))))
   | some _ => .fail)
 | _, _, _, _, _ => .fail
def opR (g : Bool) (F : TT) (σ : St) (o : Oper) : R := match o.op with
 | .move x => evR σ x fun av => z0x σ o.dst av
 | .assign x => evR σ x fun av => z0x σ o.dst av
 | .pick c x y => (match ev σ c with | some (.one (.b (.s (.bool t)))) => .br t (evR σ x fun av => z0x σ o.dst av) (evR σ y fun av => z0x σ o.dst av) | _ => .fail)
 | .load t x => (match ev σ x, yac F t with
   | some av, some (ag, n) => y6r σ av fun cs => (match ag with
     | true => qt (q3z n cs) (y0m (force (cs.take n)) fun cs => z0x σ o.dst (.agg cs))
     | false => (match cs with | [] => .fail | c :: _ => z0x σ o.dst (.one c)))
   | _, _ => .fail)
 | .binOp op t x y _ => (match ev σ x, ev σ y with
   | some (.one (.b (.s (.bool a)))), some (.one (.b (.s (.bool b)))) => qt (zbf F t) (match op with | .eql => z0x σ o.dst (sV (.bool (a == b))) | .neq => z0x σ o.dst (sV (.bool (!(a == b)))) | _ => .fail)
   | some (.one (.b (.s u))), some (.one (.b (.s v))) => yc5 op u v fun r => z0x σ o.dst (sV r)
   | some (.one (.b (.l rows))), some (.one .nil) => y0m (q4i F t) fun _ => (match op with
     | .eql => .any (fun b => b = true → rows = []) fun b => z0x σ o.dst (sV (.bool b))
     | .neq => .any (fun b => b = true → rows = []) fun b => z0x σ o.dst (sV (.bool (!b)))
     | _ => .fail)
   | some (.agg cs), some (.agg cs') => y0m (ybf F t) fun ks => y0m (scs cs) fun xs => y0m (scs cs') fun ys => qt (zam ks xs) (qt (zam ks ys) (match op with
     | .eql => z0x σ o.dst (sV (.bool (q1e xs ys)))
     | .neq => z0x σ o.dst (sV (.bool (!(q1e xs ys))))
     | _ => .fail))
   | _, _ => .raw g σ o)
 | .unOp op _ x => (match op, ev σ x with
   | .not, some (.one (.b (.s (.bool b)))) => z0x σ o.dst (sV (.bool (!b)))
   | .neg, some (.one (.b (.s (.int k n)))) => z0x σ o.dst (sV (.int k (k.wrap (0 - n))))
   | _, _ => .fail)
 | .convert s d x => (match ev σ x, zci F d with
   | some (.one (.b (.s (.int _ n)))), some k => qt (qbf F s) (z0x σ o.dst (sV (.int k (k.wrap n))))
   | _, _ => .raw g σ o)
 | .fieldAddr s x f => (match ev σ x, qa1 F s f with
   | some (.one (.b (.p row))), some off => qt (q3z off row) (y0m (force (row.drop off)) fun row => z0x σ o.dst (.one (.b (.p row))))
   | some (.one (.a β i)), some off => z0x σ o.dst (.one (.a β (i + off)))
   | some (.one (.e β m i k)), some off => z0x σ o.dst (.one (.e β m i (k + off)))
   | _, _ => .fail)
 | .field s x f => (match ev σ x, qab F s f with
   | some (.agg cs), some (true, off, n) => qt (q3z (Nat.add off n) cs) (y0m (force ((cs.drop off).take n)) fun cs => z0x σ o.dst (.agg cs))
   | some (.agg cs), some (false, off, _) => y0m (nth cs off) fun c => z0x σ o.dst (.one c)
   | _, _ => .fail)
 | .indexAddr t x i => (match ev σ x, ev σ i, q4i F t with
   | some (.one (.b (.l rows))), some (.one (.b (.s (.int _ n)))), some sz => .side (0 ≤ n) (.row rows n.toNat fun row => .side (row.length = sz) (z0x σ o.dst (.one (.b (.p row)))))
   | some (.one (.h β m)), some (.one (.b (.s (.int _ n)))), some sz => (match get σ.b β with
     | some (.arr _ _ _ rows) => .side (m = rows.length) (.side (0 ≤ n) (.row rows n.toNat fun row => .side (row.length = sz) (z0x σ o.dst (.one (.e β m n.toNat 0)))))
     | _ => .fail)
   | _, _, _ => .raw g σ o)
 | .index t x i => (match ev σ x, ev σ i with
   | some (.one (.b (.s (.string s)))), some (.one (.b (.s (.int _ n)))) => qt (y99 F t) (.side (0 ≤ n) (.byte s n.toNat fun b => z0x σ o.dst (sV (.int .u8 b.toNat))))
   | _, _ => .fail)
 | .slice t x lo hi none => (match ev σ x, yat lo σ, yat hi σ with
   | some (.one (.b (.s (.string s)))), some l, some h => qt (y99 F t) (.side (0 ≤ l.getD 0) (.side (l.getD 0 ≤ h.getD s.size) (.side (h.getD s.size ≤ s.size) (z0x σ o.dst (sV (.string (s.extract (l.getD 0).toNat (h.getD s.size).toNat)))))))
   | some (.one (.b (.l rows))), some l, some h => y0m (q4i F t) fun sz => .side (l.getD 0 = 0 ∨ ∀ row ∈ rows, row.length = sz) (.side (0 ≤ l.getD 0) (.side (l.getD 0 ≤ h.getD rows.length) (.side (h.getD rows.length ≤ rows.length) (z0x σ o.dst (.one (.b (.l ((rows.take (h.getD rows.length).toNat).drop (l.getD 0).toNat))))))))
   | _, _, _ => .raw g σ o)
 | .extract x i => (match ev σ x with | some (.tup vs) => y0m (nth vs i) fun av => z0x σ o.dst av | _ => .fail)
 | .makeFunc (.func f) first caps => (match first.toList, caps.toList with
   | [x], [] => (match ev σ x with
     | some (.one (.a β off)) => z0x σ o.dst (.one (.cm f β off))
     | some (.one (.b c)) => z0x σ o.dst (.one (.b (.m f false [c])))
     | some (.agg cs) => y0m (yba cs) fun l => z0x σ o.dst (.one (.b (.m f true l)))
     | _ => .fail)
   | [], _ => (match z77 σ caps.toList with | some cs => z0x σ o.dst (.one (.cl f cs)) | none => y0m (z9d σ caps.toList) fun cs => z0x σ o.dst (.one (.b (.f f cs))))
   | _, _ => .fail)
 | .build t ps => (match q5x F t with
   | some z => y0m (z88 F σ t z ps.toList) fun cs => z0x σ o.dst (.agg cs)
   | none => .raw g σ o)
 | .alloc e => (match za2 F e with | some z => qt (z8n z) (yc3 σ o.dst (yk z)) | none => .fail)
 | .box _ x => (match ev σ x with | some z => qt (z8n z) (yc3 σ o.dst (yk z)) | none => .fail)
 | .store t p x => (match o.dst, ev σ p, ev σ x with
   | none, some pv, some xv => z5t F σ t pv xv
   | _, _, _ => .fail)
 | .buildSlice t n ps => zcb F σ t n ps.toList o.dst
 | .makeSlice t l c => qcb F σ t l c o.dst
 | .call c => yaj g F σ o c
 | .nilCheck x => evR σ x fun av => (match av with | .one (.b (.p row)) => z0x σ o.dst (.one (.b (.p row))) | .one (.a β off) => z0x σ o.dst (.one (.a β off)) | .one (.e β m i k) => z0x σ o.dst (.one (.e β m i k)) | _ => .fail)
 | _ => .raw g σ o
end Go.Sx
end
