/- WHAT IS PROVED: parts of the proof of fnExactSubmitContract_holds: a frame for walks, what each Go function that it reaches answers, and plain lemmas; no condition beyond those that each theorem names. -/
import Derived.Test.YtjdiongbbijdpaaGreatCSb2
import Derived.WalkKit
import Derived.OrdersHeld
import Derived.DeepKeys
import Derived.Maps.RangeWalk
import Derived.Maps.OwnOps
import Derived.WideKeyEntry
set_option linter.unusedVariables false
set_option linter.unusedSimpArgs false
section
namespace Go.Sx
open Go.RowKit (Below)
structure TI where
 lay : Option (Bool × Nat)
 esz : Option Nat
 esI : Option (Nat × Nat)
 str : Bool
 boo : Bool
 und : Bool
 ik : Option IntKind
 zero : Option AV
 q6e : Option (List AC)
 zrow : Option (List Cell)
 flds : List (Option Nat × Option (Bool × Nat × Nat))
 cmp : Option (List CK)
inductive TT where
 | leaf
 | node (k : Nat) (v : TI) (l r : TT)
def yah (P : Program) (t : TypeId) : Bool := match P.underlying t with | some .bool => true | _ => false
def qcc (P : Program) (t : TypeId) : Nat := match P.underlying t with | some (.struct fs) => fs.size | _ => 0
def mkF (P : Program) (t : TypeId) : Nat → Nat → List (Option Nat × Option (Bool × Nat × Nat))
 | 0, _ => []
 | n + 1, i => (zaw P t i, fld P t i) :: mkF P t n (i + 1)
def zbs (P : Program) (t : TypeId) : TI := ⟨lay P t, esz P t, y11 P t, z5x P t, yah P t, (P.underlying t).isSome, q97 P t, q1w P t, q6e P t, q8w P t, mkF P t (qcc P t) 0, qb7 P t⟩
def TT.map (P : Program) : TT → TT
 | .leaf => .leaf
 | .node k _ l r => .node k (zbs P k) (l.map P) (r.map P)
def TT.find : TT → Nat → Option TI
 | .leaf, _ => none
 | .node k v l r, t => bif Nat.beq k t then some v else bif Nat.blt t k then l.find t else r.find t
theorem TT.y2z {P : Program} : ∀ {F : TT} {t : Nat} {i : TI}, (F.map P).find t = some i → i = zbs P t
 | .leaf, t, i, h => by cases h
 | .node k v l r, t, i, h => by
   rw [TT.map, TT.find] at h; by_cases hk : k = t
   · subst hk; simp only [Nat.beq_refl, cond_true, Option.some.injEq] at h; exact h.symm
   · rw [beq_false hk] at h
     cases hb : Nat.blt t k with
     | true => rw [hb] at h; exact TT.y2z h
     | false => rw [hb] at h; exact TT.y2z h
def nth {α : Type} : List α → Nat → Option α
 | [], _ => none
 | a :: l, n => bif Nat.beq n 0 then some a else nth l (Nat.pred n)
theorem z2b {α : Type} : ∀ (l : List α) (n : Nat), nth l n = l[n]?
 | [], n => by simp [nth]
 | a :: l, 0 => rfl
 | a :: l, n + 1 => by rw [nth, beq_false (by omega), List.getElem?_cons_succ]; exact z2b l n
theorem z62 {P : Program} {t : Nat} : ∀ {n i k : Nat} {x : Option Nat × Option (Bool × Nat × Nat)}, (mkF P t n i)[k]? = some x → x = (zaw P t (i + k), fld P t (i + k))
 | 0, i, k, x, h => by simp [mkF] at h
 | n + 1, i, k, x, h => by
   rw [mkF] at h
   cases k with
   | zero => cases h; rfl
   | succ k => rw [List.getElem?_cons_succ] at h; rw [z62 h]; simp only [Nat.add_assoc, Nat.add_comm 1 k]
def qa2 (F : TT) (t : Nat) : Option (Bool × Nat) := match F.find t with | some i => i.lay | none => none
def q4a (F : TT) (t : Nat) : Option Nat := match F.find t with | some i => i.esz | none => none
def y7l (F : TT) (t : Nat) : Option (Nat × Nat) := match F.find t with | some i => i.esI | none => none
def q8y (F : TT) (t : Nat) : Bool := match F.find t with | some i => i.str | none => false
def qb0 (F : TT) (t : Nat) : Bool := match F.find t with | some i => i.boo | none => false
def yb1 (F : TT) (t : Nat) : Bool := match F.find t with | some i => i.und | none => false
def yc8 (F : TT) (t : Nat) : Option IntKind := match F.find t with | some i => i.ik | none => none
def y9q (F : TT) (t : Nat) : Option AV := match F.find t with | some i => i.zero | none => none
def y5n (F : TT) (t : Nat) : Option (List AC) := match F.find t with | some i => i.q6e | none => none
def y7m (F : TT) (t : Nat) : Option (List Cell) := match F.find t with | some i => i.zrow | none => none
def zb1 (F : TT) (t : Nat) : Option (List CK) := match F.find t with | some i => i.cmp | none => none
def z9q (F : TT) (t f : Nat) : Option Nat := match F.find t with | some i => (match nth i.flds f with | some x => x.1 | none => none) | none => none
def za2 (F : TT) (t f : Nat) : Option (Bool × Nat × Nat) := match F.find t with | some i => (match nth i.flds f with | some x => x.2 | none => none) | none => none
section
variable {P : Program} {F : TT}
theorem q1t {α : Type} {F : TT} {t : Nat} {g : TI → Option α} {x : α} (hF : F = F.map P) (h : (match F.find t with | some i => g i | none => none) = some x) : g (zbs P t) = some x := by
 cases hi : F.find t with
 | none => rw [hi] at h; cases h
 | some i => rw [hi] at h; rw [hF] at hi; rw [← TT.y2z hi]; exact h
theorem q7l {F : TT} {t : Nat} {g : TI → Bool} (hF : F = F.map P) (h : (match F.find t with | some i => g i | none => false) = true) : g (zbs P t) = true := by
 cases hi : F.find t with
 | none => rw [hi] at h; cases h
 | some i => rw [hi] at h; rw [hF] at hi; rw [← TT.y2z hi]; exact h
theorem z2x (hF : F = F.map P) {t : Nat} {x : Bool × Nat} (h : qa2 F t = some x) : lay P t = some x := q1t (g := TI.lay) hF h
theorem q0m (hF : F = F.map P) {t : Nat} {x : Nat} (h : q4a F t = some x) : esz P t = some x := q1t (g := TI.esz) hF h
theorem q03 (hF : F = F.map P) {t : Nat} {x : Nat × Nat} (h : y7l F t = some x) : y11 P t = some x := q1t (g := TI.esI) hF h
theorem ya2 (hF : F = F.map P) {t : Nat} {x : IntKind} (h : yc8 F t = some x) : q97 P t = some x := q1t (g := TI.ik) hF h
theorem z7m (hF : F = F.map P) {t : Nat} {x : AV} (h : y9q F t = some x) : q1w P t = some x := q1t (g := TI.zero) hF h
theorem y6v (hF : F = F.map P) {t : Nat} {x : List AC} (h : y5n F t = some x) : q6e P t = some x := q1t (g := TI.q6e) hF h
theorem q7m (hF : F = F.map P) {t : Nat} {x : List Cell} (h : y7m F t = some x) : q8w P t = some x := q1t (g := TI.zrow) hF h
theorem y8y (hF : F = F.map P) {t : Nat} {x : List CK} (h : zb1 F t = some x) : qb7 P t = some x := q1t (g := TI.cmp) hF h
theorem z4b (hF : F = F.map P) {t : Nat} (h : q8y F t = true) : z5x P t = true := q7l (g := TI.str) hF h
theorem z8y (hF : F = F.map P) {t : Nat} (h : qb0 F t = true) : P.underlying t = some .bool := by
 have : yah P t = true := q7l (g := TI.boo) hF h; unfold yah at this; split at this
 · assumption
 · cases this
theorem z8z (hF : F = F.map P) {t : Nat} (h : yb1 F t = true) : ∃ u, P.underlying t = some u := Option.isSome_iff_exists.1 (q7l (g := TI.und) hF h)
theorem y32 (hF : F = F.map P) {t f x : Nat} (h : z9q F t f = some x) : zaw P t f = some x := by
 have := q1t (g := fun i => match nth i.flds f with | some x => x.1 | none => none) hF h; split at this
 · rename_i y hy
   rw [z2b] at hy; rw [z62 hy, Nat.zero_add] at this; exact this
 · cases this
theorem q2w (hF : F = F.map P) {t f : Nat} {x : Bool × Nat × Nat} (h : za2 F t f = some x) : fld P t f = some x := by
 have := q1t (g := fun i => match nth i.flds f with | some x => x.2 | none => none) hF h; split at this
 · rename_i y hy
   rw [z2b] at hy; rw [z62 hy, Nat.zero_add] at this; exact this
 · cases this
end
inductive R where
 | fail
 | ok (σ : St)
 | side (p : Prop) (r : R)
 | br (t : Bool) (r r' : R)
 | any (q : Bool → Prop) (f : Bool → R)
 | row (rows : List (List Cell)) (i : Nat) (f : List Cell → R)
 | byte (s : ByteArray) (i : Nat) (f : UInt8 → R)
 | call (g : Bool) (σ : St) (d : Option Tmp) (f : Nat) (avs : List AV)
 | raw (g : Bool) (σ : St) (o : Oper)
def R.holds (P : Program) : R → (St → Prop) → Prop
 | .fail, _ => False
 | .ok σ, K => K σ
 | .side p r, K => p ∧ r.holds P K
 | .br t r r', K => (t = true → r.holds P K) ∧ (t = false → r'.holds P K)
 | .any q f, K => ∀ b, q b → (f b).holds P K
 | .row rows i f, K => ∃ row, rows[i]? = some row ∧ (f row).holds P K
 | .byte s i f, K => ∃ b, s[i]? = some b ∧ (f b).holds P K
 | .call g σ d f avs, K => y4a P σ d f avs K ∨ (g = true ∧ z4a P σ d f avs K)
 | .raw g σ o, K => opL g P σ o K
def force {α : Type} : List α → Option (List α)
 | [] => some []
 | a :: l => match force l with | some l' => some (a :: l') | none => none
theorem force_eq {α : Type} : ∀ {l l' : List α}, force l = some l' → l' = l
 | [], l', h => by cases h; rfl
 | a :: l, l', h => by
   rw [force] at h; split at h
   · rename_i l1 h1; cases h; rw [force_eq h1]
   · cases h
def q3u {α : Type} : Nat → List α → Bool
 | 0, _ => true
 | _ + 1, [] => false
 | n + 1, _ :: l => q3u n l
theorem y0y {α : Type} : ∀ {n : Nat} {l : List α}, q3u n l = true → n ≤ l.length
 | 0, l, _ => Nat.zero_le _
 | n + 1, [], h => by cases h
 | n + 1, _ :: l, h => Nat.succ_le_succ (y0y (l := l) h)
def z4f {α : Type} : Nat → List α → Bool
 | 0, [] => true
 | 0, _ :: _ => false
 | _ + 1, [] => false
 | n + 1, _ :: l => z4f n l
theorem z16 {α : Type} : ∀ {n : Nat} {l : List α}, z4f n l = true → l.length = n
 | 0, [], _ => rfl
 | 0, _ :: _, h => by cases h
 | n + 1, [], h => by cases h
 | n + 1, _ :: l, h => congrArg (· + 1) (z16 (l := l) h)
def ikN : IntKind → Nat
 | .i8 => 0 | .i16 => 1 | .i32 => 2 | .i64 => 3 | .u8 => 4 | .u16 => 5 | .u32 => 6 | .u64 => 7
theorem qag {k k' : IntKind} (h : Nat.beq (ikN k) (ikN k') = true) : k = k' := by
 cases k <;> cases k' <;> first | rfl | cases h
def zu (b : Bool) (r : R) : R := match b with | true => r | false => .fail
theorem yc {P : Program} {b : Bool} {r : R} {K : St → Prop} (h : (zu b r).holds P K) : b = true ∧ r.holds P K := by
 cases b with
 | true => exact ⟨rfl, h⟩
 | false => exact h.elim
def q0v (σ : St) (d : Option Tmp) (av : AV) : R := match σ, d with
 | ⟨t, b⟩, some d => .ok ⟨(d, av) :: t, b⟩
 | σ, none => .ok σ
theorem z1r {P : Program} {σ : St} {d : Option Tmp} {av : AV} {K : St → Prop} : (q0v σ d av).holds P K ↔ K (σ.put d av) := by
 cases σ; cases d <;> rfl
def evR (σ : St) (x : Operand) (f : AV → R) : R := match ev σ x with | some av => f av | none => .fail
def sV (v : Value) : AV := .one (.b (.s v))
def q6i (σ : St) (av : AV) (f : List AC → R) : R := match av with
 | .one (.b (.p row)) => (match force (row.map .b) with | some cs => f cs | none => .fail)
 | .one (.a β off) => (match get σ.b β with | some (.var cs) => (match force ((cs.drop off).map (unk σ.b)) with | some cs => f cs | none => .fail) | _ => .fail)
 | .one (.e β m i k) => (match get σ.b β with
   | some (.arr full _ ep rows) => .side (m = rows.length) (.row rows i fun row => (match q36 full β ep i k (row.drop k) with | some cs => f cs | none => .fail))
   | _ => .fail)
 | _ => .fail
theorem q7s {P : Program} {σ : St} {av : AV} {f : List AC → R} {K : St → Prop} {K' : List AC → Prop} (hf : ∀ cs, (f cs).holds P K → K' cs) (h : (q6i σ av f).holds P K) : z1x σ av K' := by
 unfold q6i at h; unfold z1x; split at h
 · split at h
   · rename_i cs hcs; rw [force_eq hcs] at h; exact hf _ h
   · exact h.elim
 · rename_i β off
   dsimp only; split at h
   · rename_i cs hcs
     split at h
     · rename_i cs' hcs'; rw [force_eq hcs'] at h; rw [hcs]; exact hf _ h
     · exact h.elim
   · exact h.elim
 · rename_i β m i k
   dsimp only; split at h
   · rename_i full sz ep rows hab
     obtain ⟨h1, row, h2, h3⟩ := h; rw [hab]; refine ⟨h1, ?_⟩; rw [h2]; dsimp only at h3 ⊢; split at h3
     · rename_i cs hcs; rw [hcs]; exact hf _ h3
     · exact h3.elim
   · exact h.elim
 · exact h.elim
def yae (op : BinOp) (k : IntKind) (x y : Int) (f : Value → R) : R := match op with
 | .add => f (.int k (k.wrap (x + y))) | .sub => f (.int k (k.wrap (x - y))) | .mul => f (.int k (k.wrap (x * y)))
 | .eql => f (.bool (x == y)) | .neq => f (.bool (x != y)) | .lss => f (.bool (decide (x < y))) | .leq => f (.bool (decide (x ≤ y)))
 | .gtr => f (.bool (decide (x > y))) | .geq => f (.bool (decide (x ≥ y)))
 | .quo => .side (y ≠ 0) (f (.int k (k.wrap (x.tdiv y)))) | .rem => .side (y ≠ 0) (f (.int k (x.tmod y)))
 | .and => f (.int k (bits .and k x y)) | .or => f (.int k (bits .or k x y)) | .xor => f (.int k (bits .xor k x y))
 | _ => .fail
def yc5 (op : BinOp) (a b : ByteArray) (f : Value → R) : R := match op with
 | .add => .side (a.size + b.size ≤ 9223372036854775807) (f (.string (a ++ b)))
 | .eql => f (.bool (a.toList == b.toList)) | .neq => f (.bool (!(a.toList == b.toList)))
 | .lss => f (.bool (Op.bytesLess a.toList b.toList)) | .leq => f (.bool (Op.bytesLess a.toList b.toList || (a.toList == b.toList)))
 | .gtr => f (.bool (!(Op.bytesLess a.toList b.toList || (a.toList == b.toList)))) | .geq => f (.bool (!(Op.bytesLess a.toList b.toList)))
 | _ => .fail
def zbw (op : BinOp) (u v : Value) (f : Value → R) : R := match u, v with
 | .int k x, .int k' y => (match op with
   | .shl => .side (0 ≤ y) (f (.int k (k.wrap (x * 2 ^ (min y.toNat k.bits)))))
   | .shr => .side (0 ≤ y) (f (.int k (x.fdiv (2 ^ (min y.toNat k.bits)))))
   | op => zu (Nat.beq (ikN k) (ikN k')) (yae op k x y f))
 | .string a, .string b => yc5 op a b f
 | _, _ => .fail
section
variable {P : Program} {K : St → Prop} {K' : Value → Prop} {f : Value → R}
theorem y97 {op : BinOp} {k : IntKind} {x y : Int} (hf : ∀ v, (f v).holds P K → K' v) (h : (yae op k x y f).holds P K) : match qba op k x y with | some r => K' r | none => False := by
 cases op <;> simp only [yae] at h <;> simp only [qba] <;> first
  | exact hf _ h
  | exact h.elim
  | (rw [if_neg h.1]; exact hf _ h.2)
theorem qas {op : BinOp} {a b : ByteArray} (hf : ∀ v, (f v).holds P K → K' v) (h : (yc5 op a b f).holds P K) : y6t op a b K' := by
 cases op <;> simp only [yc5] at h <;> simp only [y6t] <;> first
  | exact hf _ h
  | exact h.elim
  | exact ⟨h.1, hf _ h.2⟩
theorem za7 {op : BinOp} {u v : Value} (hf : ∀ v, (f v).holds P K → K' v) (h : (zbw op u v f).holds P K) : qb6 op u v K' := by
 unfold zbw at h; unfold qb6; split at h
 · dsimp only
   split at h
   · exact ⟨h.1, hf _ h.2⟩
   · exact ⟨h.1, hf _ h.2⟩
   · rename_i h1 h2
     obtain ⟨hk, h'⟩ := yc h; have hk := qag hk; subst hk; have := y97 hf h'; split
     · exact absurd Y h1
     · exact absurd Y h2
     · rw [if_pos rfl]; exact this
 · exact qas hf h
 · exact h.elim
end
def bR (t : List (Nat × AV)) (b : List (Nat × AB)) : R := match force b with | some b => .ok ⟨t, b⟩ | none => .fail
theorem yv {P : Program} {t : List (Nat × AV)} {b : List (Nat × AB)} {K : St → Prop} (h : (bR t b).holds P K) : K ⟨t, b⟩ := by
 unfold bR at h; split at h
 · rename_i b' hb; rw [force_eq hb] at h; exact h
 · exact h.elim
def z9x (B : List (Nat × AB)) : List AC → Option (List Cell)
 | [] => some []
 | .b c :: l => (match z9x B l with | some l' => some (c :: l') | none => none)
 | .h γ _ :: l => (match get B γ, z9x B l with | some (.arr _ _ _ rows), some l' => some (.l rows :: l') | _, _ => none)
 | .nil :: l => (match z9x B l with | some l' => some (.l [] :: l') | none => none)
 | .em :: l => (match z9x B l with | some l' => some (.l [] :: l') | none => none)
 | _ => none
theorem y4l {B : List (Nat × AB)} : ∀ {cs : List AC} {l : List Cell}, z9x B cs = some l → l = cs.map (y2w B)
 | [], l, h => by cases h; rfl
 | c :: cs, l, h => by
   cases c <;> rw [z9x] at h <;> first
    | (split at h
       · rename_i l' hl; cases h; rw [y4l hl]; rfl
       · cases h)
    | (split at h
       · rename_i rows l' hg hl; cases h; rw [y4l hl]; simp [y2w, hg]
       · cases h)
    | cases h
def z9a (B : List (Nat × AB)) : List (List AC) → Option (List (List Cell))
 | [] => some []
 | cs :: l => match z9x B cs, z9a B l with | some r, some l' => some (r :: l') | _, _ => none
theorem z6o {B : List (Nat × AB)} : ∀ {rws : List (List AC)} {l : List (List Cell)}, z9a B rws = some l → l = rws.map fun cs => cs.map (y2w B)
 | [], l, h => by cases h; rfl
 | c :: cs, l, h => by
   rw [z9a] at h; split at h
   · rename_i r l' hr hl; cases h; rw [y4l hr, z6o hl]; rfl
   · cases h
def y8x : List AC → List Nat
 | [] => []
 | .h γ _ :: l => γ :: y8x l
 | _ :: l => y8x l
theorem z4h : ∀ (cs : List AC), y8x cs = cs.filterMap gam
 | [] => rfl
 | c :: cs => by
   have ih := z4h cs; cases c <;> simp only [y8x, ih] <;> rfl
def qal (x : Nat) : List Nat → Bool
 | [] => false
 | y :: l => bif Nat.beq x y then true else qal x l
theorem z30 {x : Nat} : ∀ {l : List Nat}, qal x l = false → x ∉ l
 | [], _ => by simp
 | y :: l, h => by
   rw [qal] at h
   cases hb : Nat.beq x y with
   | true => rw [hb] at h; cases h
   | false =>
     rw [hb] at h; have hne : x ≠ y := fun e => by subst e; simp at hb
     have := z30 (l := l) h; simp [hne, this]
def y9b : List Nat → Bool
 | [] => true
 | x :: l => bif qal x l then false else y9b l
theorem z6 : ∀ {l : List Nat}, y9b l = true → l.Nodup
 | [], _ => List.nodup_nil
 | x :: l, h => by
   rw [y9b] at h
   cases hb : qal x l with
   | true => rw [hb] at h; cases h
   | false => rw [hb] at h; exact List.nodup_cons.2 ⟨z30 hb, z6 h⟩
def qaw (b : Bool) : Bool := match b with | true => false | false => true
theorem q3f {b : Bool} (h : qaw b = true) : b = false := by cases b <;> first | rfl | cases h
def q6f (sz : Nat) : List (List AC) → Bool
 | [] => true
 | cs :: l => bif z4f sz cs then q6f sz l else false
theorem z4w {sz : Nat} : ∀ {l : List (List AC)}, q6f sz l = true → (l.all fun cs => cs.length == sz) = true
 | [], _ => rfl
 | cs :: l, h => by
   rw [q6f] at h
   cases hb : z4f sz cs with
   | false => rw [hb] at h; cases h
   | true => rw [hb] at h; simp only [List.all_cons, z16 hb, beq_self_eq_true, Bool.true_and]; exact z4w h
def flat (l : List (List AC)) : List AC := l.flatten
def z6p (σ : St) : Nat → List (Nat × Operand) → Option (List (List AC))
 | _, [] => some []
 | i, (j, x) :: ps => bif Nat.beq i j then (match ev σ x, z6p σ (Nat.succ i) ps with
   | some (.one c), some r => some ([c] :: r)
   | some (.agg cs), some r => some (cs :: r)
   | _, _ => none) else none
theorem q3g {σ : St} : ∀ {ps : List (Nat × Operand)} {i : Nat} {r : List (List AC)}, z6p σ i ps = some r → z20 σ i ps = some r
 | [], i, r, h => h
 | (j, x) :: ps, i, r, h => by
   rw [z6p] at h; by_cases hij : i = j
   · subst hij
     simp only [Nat.beq_refl, cond_true] at h; rw [z20, if_pos rfl]; split at h
     · rename_i c r' h1 h2; cases h; rw [h1, q3g h2]
     · rename_i c r' h1 h2; cases h; rw [h1, q3g h2]
     · cases h
   · rw [beq_false hij] at h; cases h
def y7z (F : TT) (σ : St) (t : Nat) : List AC → List (Nat × Operand) → Option (List AC)
 | cs, [] => some cs
 | cs, (i, x) :: ps => match za2 F t i, ev σ x with
   | some (_, off, n), some (.one c) => (match Nat.beq n 1, q3u (Nat.add off 1) cs, force (putCells cs off [c]) with | true, true, some cs' => y7z F σ t cs' ps | _, _, _ => none)
   | some (_, off, n), some (.agg xs) => (match z4f n xs, q3u (Nat.add off n) cs, force (putCells cs off xs) with | true, true, some cs' => y7z F σ t cs' ps | _, _, _ => none)
   | _, _ => none
def q6y (σ : St) : List Operand → Option (List (Nat × Nat))
 | [] => some []
 | x :: l => match ev σ x, q6y σ l with | some (.one (.a β off)), some r => some ((β, off) :: r) | _, _ => none
theorem z4d {σ : St} : ∀ {l : List Operand}, q6y σ l = l.mapM (fun x => match ev σ x with | some (.one (.a β off)) => some (β, off) | _ => none)
 | [] => rfl
 | x :: l => by
   rw [List.mapM_cons, ← z4d (l := l), q6y]; split
   · rename_i β off r h1 h2
     simp [h1, h2]
   · rename_i h1
     cases he : q6y σ l with
     | none => split <;> simp
     | some r =>
       split
       · rename_i β off h2; exact absurd he (h1 β off r h2)
       · simp
def y91 (σ : St) : List Operand → Option (List Cell)
 | [] => some []
 | x :: l => match ev σ x, y91 σ l with | some (.one (.b c)), some r => some (c :: r) | _, _ => none
theorem y6i {σ : St} : ∀ {l : List Operand} {r : List Cell}, y91 σ l = some r → l.mapM (fun x => match ev σ x with | some (.one (.b c)) => some c | _ => none) = some r
 | [], r, h => by cases h; rfl
 | x :: l, r, h => by
   rw [y91] at h; split at h
   · rename_i c r' h1 h2
     cases h; simp [h1, y6i h2]
   · cases h
def q5u : List AC → Bool
 | [] => true
 | .b (.s _) :: l => q5u l
 | .b _ :: _ => false
 | _ :: l => q5u l
theorem q2z : ∀ (cs : List AC), q5u cs = q2o cs
 | [] => rfl
 | c :: cs => by
   cases c with
   | b c => cases c <;> simp [q5u, q2o] <;> exact q2z cs
   | _ => simp [q5u, q2o]; exact q2z cs
section
variable {P : Program} {F : TT}
theorem z4g (hF : F = F.map P) {σ : St} {t : Nat} : ∀ {ps : List (Nat × Operand)} {cs r : List AC}, y7z F σ t cs ps = some r → y2o P σ t cs ps = some r
 | [], cs, r, h => h
 | (i, x) :: ps, cs, r, h => by
   rw [y7z] at h; rw [y2o]; split at h
   · rename_i off n c h1 h2
     rw [q2w hF h1, h2]; dsimp only; split at h
     · rename_i cs' e1 e2 e3
       rw [if_pos ⟨Nat.eq_of_beq_eq_true e1, y0y e2⟩, ← force_eq e3]; exact z4g hF h
     · cases h
   · rename_i off n xs h1 h2
     rw [q2w hF h1, h2]; dsimp only; split at h
     · rename_i cs' e1 e2 e3
       rw [if_pos ⟨z16 e1, y0y e2⟩, ← force_eq e3]; exact z4g hF h
     · cases h
   · cases h
end
def zah : Option Operand → St → Option (Option Int)
 | none, _ => some none
 | some x, σ => match ev σ x with | some (.one (.b (.s (.int _ n)))) => some (some n) | _ => none
def y0j {α : Type} (o : Option α) (f : α → R) : R := match o with | some a => f a | none => .fail
theorem zi {P : Program} {K : St → Prop} {α : Type} {o : Option α} {f : α → R} (h : (y0j o f).holds P K) : ∃ a, o = some a ∧ (f a).holds P K := by
 cases o with
 | none => exact h.elim
 | some a => exact ⟨a, rfl, h⟩
def qc0 (F : TT) (σ : St) (t : Nat) (av : AV) (f : Value → R) : R := match av with
 | .one (.b (.l rows)) => y0j (q4a F t) fun _ => f (.int .i64 rows.length)
 | .one .nil => y0j (q4a F t) fun _ => f (.int .i64 0)
 | .one .em => y0j (q4a F t) fun _ => f (.int .i64 0)
 | .one (.h _ n) => y0j (q4a F t) fun _ => f (.int .i64 n)
 | .one (.b (.s (.string s))) => zu (q8y F t) (f (.int .i64 s.size))
 | .one (.q β m i k) => y0j (q4a F t) fun _ => (match get σ.b β with
   | some (.arr _ _ ep rows) => .side (m = ep) (.row rows i fun row => match nth row k with | some (.l rs) => f (.int .i64 rs.length) | _ => .fail)
   | _ => .fail)
 | _ => .fail
def zc3 : Option (List Cell) → Bool
 | some r => r.any fun c => match c with | .l _ => true | _ => false
 | none => false
def qat (z : Option (List Cell)) (full : Bool) (rows : List (List Cell)) : Bool := match zc3 z with
 | true => (match full with | true => (match rows with | [] => true | _ => false) | false => false)
 | false => false
theorem z8t {z : Option (List Cell)} {full : Bool} {rows : List (List Cell)} (h : qat z full rows = true) : rows = [] := by
 unfold qat at h; split at h
 · split at h
   · split at h
     · rfl
     · cases h
   · cases h
 · cases h
def za8 (g : Bool) (F : TT) (σ : St) (o : Oper) (c : Call) : R := match c.callee with
 | .builtin .len => (match c.argTypes.toList, c.args.toList with
   | t :: _, [x] => evR σ x fun av => qc0 F σ t av fun r => q0v σ o.dst (sV r)
   | _, _ => .fail)
 | .builtin .append => (match c.argTypes.toList, c.args.toList, o.dst with
   | [t, tx], [s, x], some d => (match y7l F t, y7l F tx, ev σ s, ev σ x with
     | some (sz, by_), some _, some (.one (.h β n)), some (.one (.h γ m)) => (match get σ.b β, get σ.b γ with
       | some (.arr full0 sz0 ep rows0), some (.arr full sz1 _ rows) =>
         zu (Nat.beq sz0 sz) (zu (Nat.beq sz1 sz) (zu (qaw (Nat.beq β γ)) (.side (n = rows0.length) (.side (m = rows.length) (match full0, full with
         | false, true => .side (y4g rows) (.side (rows0.length + rows.length ≤ 9223372036854775807) (.side ((rows0.length + rows.length) * by_ ≤ 140737488355328)
         (bR ((d, .one (.h β (rows0.length + rows.length))) :: σ.t) (y0d (zp σ.b [γ]) β (.arr false sz (Nat.succ ep) (rows0 ++ rows))))))
         | full0, full => .side (full0 = full ∨ rows0 = []) (.side (rows0.length + rows.length ≤ 9223372036854775807) (.side ((rows0.length + rows.length) * by_ ≤ 140737488355328)
         (bR ((d, .one (.h β (rows0.length + rows.length))) :: σ.t) (y0d (zp σ.b [γ]) β (.arr full sz (Nat.succ ep) (rows0 ++ rows)))))))))))
       | _, _ => .fail)
     | some (sz, by_), some _, some (.one (.h β n)), some (.one (.b (.l rows))) => (match get σ.b β with
       | some (.arr full0 sz0 ep rows0) => zu (Nat.beq sz0 sz) (.side (n = rows0.length) (.side (∀ row ∈ rows, row.length = sz) (match qat (y7m F t) full0 rows0 with
         | true => .side (rows0.length + rows.length ≤ 9223372036854775807) (.side ((rows0.length + rows.length) * by_ ≤ 140737488355328)
         (bR ((d, .one (.h β (rows0.length + rows.length))) :: σ.t) (y0d σ.b β (.arr false sz (Nat.succ ep) (rows0 ++ rows)))))
         | false => .side (full0 = true → qt rows) (.side (rows0.length + rows.length ≤ 9223372036854775807) (.side ((rows0.length + rows.length) * by_ ≤ 140737488355328)
         (bR ((d, .one (.h β (rows0.length + rows.length))) :: σ.t) (y0d σ.b β (.arr full0 sz (Nat.succ ep) (rows0 ++ rows)))))))))
       | _ => .fail)
     | some (sz, by_), some _, some (.one .nil), some (.one (.h γ m)) => (match get σ.b d, get σ.b γ with
       | none, some (.arr full sz1 _ rows) => zu (Nat.beq sz1 sz) (zu (qaw (Nat.beq d γ)) (.side (m = rows.length) (.side (rows.length ≤ 9223372036854775807) (.side (rows.length * by_ ≤ 140737488355328) (bR ((d, .one (.h d rows.length)) :: σ.t) (y0d (zp σ.b [γ]) d (.arr full sz 0 rows)))))))
       | _, _ => .fail)
     | some (sz, by_), some _, some (.one .em), some (.one (.h γ m)) => (match get σ.b d, get σ.b γ with
       | none, some (.arr full sz1 _ rows) => zu (Nat.beq sz1 sz) (zu (qaw (Nat.beq d γ)) (.side (m = rows.length) (.side (rows.length ≤ 9223372036854775807) (.side (rows.length * by_ ≤ 140737488355328) (bR ((d, .one (.h d rows.length)) :: σ.t) (y0d (zp σ.b [γ]) d (.arr full sz 0 rows)))))))
       | _, _ => .fail)
     | some (sz, by_), some _, some (.one .em), some (.one (.b (.l rows))) => (match get σ.b d with
       | none => .side (∀ row ∈ rows, row.length = sz) (.side (qt rows) (.side (rows.length ≤ 9223372036854775807) (.side (rows.length * by_ ≤ 140737488355328) (bR ((d, .one (.h d rows.length)) :: σ.t) (y0d σ.b d (.arr true sz 0 rows))))))
       | _ => .fail)
     | some (sz, by_), some _, some (.one .nil), some (.one (.b (.l rows))) => (match get σ.b d with
       | none => .side (∀ row ∈ rows, row.length = sz) (.side (qt rows) (.side (rows.length ≤ 9223372036854775807) (.side (rows.length * by_ ≤ 140737488355328) (bR ((d, .one (.h d rows.length)) :: σ.t) (y0d σ.b d (.arr true sz 0 rows))))))
       | _ => .fail)
     | _, _, _, _ => .fail)
   | _, _, _ => .fail)
 | .value x => (match ev σ x, evs σ c.args.toList with
   | some (.one (.cl f caps)), some avs => y0j (force (avs ++ caps.map fun c => .one (.a c.1 c.2))) fun avs => .call g σ o.dst f avs
   | some (.one (.b (.f f caps))), some avs => y0j (force (avs ++ caps.map fun c => .one (.b c))) fun avs => .call g σ o.dst f avs
   | some (.one (.cm f β off)), some avs => .call g σ o.dst f (.one (.a β off) :: avs)
   | some (.one (.b (.m f ag row))), some avs => .call g σ o.dst f (z8j ag row :: avs)
   | _, _ => .fail)
 | .builtin .max => (match c.args.toList with
   | [x, y] => (match ev σ x, ev σ y with | some (.one (.b (.s (.int k a)))), some (.one (.b (.s (.int _ b)))) => q0v σ o.dst (sV (.int k (mx a b))) | _, _ => .fail)
   | [x, y, z, t] => (match ev σ x, ev σ y, ev σ z, ev σ t with | some (.one (.b (.s (.int k a)))), some (.one (.b (.s (.int _ b)))), some (.one (.b (.s (.int _ c)))), some (.one (.b (.s (.int _ d)))) => q0v σ o.dst (sV (.int k (mx (mx (mx a b) c) d))) | _, _, _, _ => .fail)
   | _ => .fail)
 | .builtin .min => (match c.args.toList with
   | [x, y] => (match ev σ x, ev σ y with | some (.one (.b (.s (.int k a)))), some (.one (.b (.s (.int _ b)))) => q0v σ o.dst (sV (.int k (if b < a then b else a))) | _, _ => .fail)
   | _ => .fail)
 | _ => .raw g σ o
def qbt (σ : St) (d : Option Tmp) (cs : List AC) : R := match d with
 | some d => (match get σ.b d with | none => bR ((d, .one (.a d 0)) :: σ.t) (y0d σ.b d (.var cs)) | some _ => .fail)
 | none => .fail
def y8e : AV → Bool | .tup _ => false | _ => true
def q5i (F : TT) (σ : St) (t : Nat) (p x : AV) : R := match qa2 F t, p, x with
 | some (_, n), .one (.e β m i k), x => (match get σ.b β with
   | some (.arr full sz ep rows) => zu (y8e x) (zu (z4f n (qj x)) (zu (y9b (y8x (qj x))) (zu (qaw (qal β (y8x (qj x)))) (.side (m = rows.length) (.row rows i fun row => .side (k + n ≤ row.length) (.side (z7p (wfS σ.b full) (qj x)) (y0j (z9x σ.b (qj x)) fun xs =>
      bR σ.t (y0d (zp σ.b (y8x (qj x))) β (.arr full sz (Nat.succ ep) (rows.set i (putRow row k xs)))))))))))
   | _ => .fail)
 | some (false, 1), .one (.a β off), .one c => (match get σ.b β with | some (.var cs) => zu (q3u (Nat.add off 1) cs) (y0j (force (putCells cs off [c])) fun cs => bR σ.t (y0d σ.b β (.var cs))) | _ => .fail)
 | some (true, n), .one (.a β off), .agg xs => (match get σ.b β with | some (.var cs) => zu (z4f n xs) (zu (q3u (Nat.add off n) cs) (y0j (force (putCells cs off xs)) fun cs => bR σ.t (y0d σ.b β (.var cs)))) | _ => .fail)
 | _, _, _ => .fail
def yc1 (F : TT) (σ : St) (t n : Nat) (ps : List (Nat × Operand)) (d : Option Tmp) : R := match d, y7l F t, z6p σ 0 ps with
 | some d, some (sz, _), some rws => (match get σ.b d with
   | none => zu (z4f n rws) (zu (Nat.ble (Nat.mul n sz) 16777216) (zu (q6f sz rws) (zu (y9b (y8x (flat rws))) (zu (qaw (qal d (y8x (flat rws)))) (.side (z7p (wfS σ.b (q5u (flat rws))) (flat rws)) (y0j (z9a σ.b rws) fun rs =>
     bR ((d, .one (.h d n)) :: σ.t) (y0d (zp σ.b (y8x (flat rws))) d (.arr (q5u (flat rws)) sz 0 rs))))))))
   | some _ => .fail)
 | _, _, _ => .fail
def zc2 (F : TT) (σ : St) (t : Nat) (l c : Operand) (d : Option Tmp) : R := match d, y7l F t, y7m F t, ev σ l, ev σ c with
 | some d, some (sz, by_), some zrow, some (.one (.b (.s (.int _ n)))), some (.one (.b (.s (.int _ n')))) => (match get σ.b d with
   | none => zu (z4f sz zrow) (.side (n = n') (.side (0 ≤ n) (.side (n * by_ ≤ 281474976710656) (.side (n ≤ 9223372036854775807) (bR ((d, .one (.h d n.toNat)) :: σ.t) (y0d σ.b d (.arr true sz 0 (List.replicate n.toNat zrow))))))))
   | some _ => .fail)
 | _, _, _, _, _ => .fail
def opR (g : Bool) (F : TT) (σ : St) (o : Oper) : R := match o.op with
 | .move x => evR σ x fun av => q0v σ o.dst av
 | .assign x => evR σ x fun av => q0v σ o.dst av
 | .pick c x y => (match ev σ c with | some (.one (.b (.s (.bool t)))) => .br t (evR σ x fun av => q0v σ o.dst av) (evR σ y fun av => q0v σ o.dst av) | _ => .fail)
 | .load t x => (match ev σ x, qa2 F t with
   | some av, some (ag, n) => q6i σ av fun cs => (match ag with
     | true => zu (q3u n cs) (y0j (force (cs.take n)) fun cs => q0v σ o.dst (.agg cs))
     | false => (match cs with | [] => .fail | c :: _ => q0v σ o.dst (.one c)))
   | _, _ => .fail)
 | .binOp op t x y _ => (match ev σ x, ev σ y with
   | some (.one (.b (.s (.bool a)))), some (.one (.b (.s (.bool b)))) => zu (qb0 F t) (match op with | .eql => q0v σ o.dst (sV (.bool (a == b))) | .neq => q0v σ o.dst (sV (.bool (!(a == b)))) | _ => .fail)
   | some (.one (.b (.s u))), some (.one (.b (.s v))) => zbw op u v fun r => q0v σ o.dst (sV r)
   | some (.one (.b (.l rows))), some (.one .nil) => y0j (q4a F t) fun _ => (match op with
     | .eql => .any (fun b => b = true → rows = []) fun b => q0v σ o.dst (sV (.bool b))
     | .neq => .any (fun b => b = true → rows = []) fun b => q0v σ o.dst (sV (.bool (!b)))
     | _ => .fail)
   | some (.agg cs), some (.agg cs') => y0j (zb1 F t) fun ks => y0j (scs cs) fun xs => y0j (scs cs') fun ys => zu (yaa ks xs) (zu (yaa ks ys) (match op with
     | .eql => q0v σ o.dst (sV (.bool (q1f xs ys)))
     | .neq => q0v σ o.dst (sV (.bool (!(q1f xs ys))))
     | _ => .fail))
   | _, _ => .raw g σ o)
 | .unOp op _ x => (match op, ev σ x with
   | .not, some (.one (.b (.s (.bool b)))) => q0v σ o.dst (sV (.bool (!b)))
   | .neg, some (.one (.b (.s (.int k n)))) => q0v σ o.dst (sV (.int k (k.wrap (0 - n))))
   | _, _ => .fail)
 | .convert s d x => (match ev σ x, yc8 F d with
   | some (.one (.b (.s (.int _ n)))), some k => zu (yb1 F s) (q0v σ o.dst (sV (.int k (k.wrap n))))
   | _, _ => .raw g σ o)
 | .fieldAddr s x f => (match ev σ x, z9q F s f with
   | some (.one (.b (.p row))), some off => zu (q3u off row) (y0j (force (row.drop off)) fun row => q0v σ o.dst (.one (.b (.p row))))
   | some (.one (.a β i)), some off => q0v σ o.dst (.one (.a β (i + off)))
   | some (.one (.e β m i k)), some off => q0v σ o.dst (.one (.e β m i (k + off)))
   | _, _ => .fail)
 | .field s x f => (match ev σ x, za2 F s f with
   | some (.agg cs), some (true, off, n) => zu (q3u (Nat.add off n) cs) (y0j (force ((cs.drop off).take n)) fun cs => q0v σ o.dst (.agg cs))
   | some (.agg cs), some (false, off, _) => y0j (nth cs off) fun c => q0v σ o.dst (.one c)
   | _, _ => .fail)
 | .indexAddr t x i => (match ev σ x, ev σ i, q4a F t with
   | some (.one (.b (.l rows))), some (.one (.b (.s (.int _ n)))), some sz => .side (0 ≤ n) (.row rows n.toNat fun row => .side (row.length = sz) (q0v σ o.dst (.one (.b (.p row)))))
   | some (.one (.h β m)), some (.one (.b (.s (.int _ n)))), some sz => (match get σ.b β with
     | some (.arr _ _ _ rows) => .side (m = rows.length) (.side (0 ≤ n) (.row rows n.toNat fun row => .side (row.length = sz) (q0v σ o.dst (.one (.e β m n.toNat 0)))))
     | _ => .fail)
   | _, _, _ => .raw g σ o)
 | .index t x i => (match ev σ x, ev σ i with
   | some (.one (.b (.s (.string s)))), some (.one (.b (.s (.int _ n)))) => zu (q8y F t) (.side (0 ≤ n) (.byte s n.toNat fun b => q0v σ o.dst (sV (.int .u8 b.toNat))))
   | _, _ => .fail)
 | .slice t x lo hi none => (match ev σ x, zah lo σ, zah hi σ with
   | some (.one (.b (.s (.string s)))), some l, some h => zu (q8y F t) (.side (0 ≤ l.getD 0) (.side (l.getD 0 ≤ h.getD s.size) (.side (h.getD s.size ≤ s.size) (q0v σ o.dst (sV (.string (s.extract (l.getD 0).toNat (h.getD s.size).toNat)))))))
   | some (.one (.b (.l rows))), some l, some h => y0j (q4a F t) fun sz => .side (l.getD 0 = 0 ∨ ∀ row ∈ rows, row.length = sz) (.side (0 ≤ l.getD 0) (.side (l.getD 0 ≤ h.getD rows.length) (.side (h.getD rows.length ≤ rows.length) (q0v σ o.dst (.one (.b (.l ((rows.take (h.getD rows.length).toNat).drop (l.getD 0).toNat))))))))
   | _, _, _ => .raw g σ o)
 | .extract x i => (match ev σ x with | some (.tup vs) => y0j (nth vs i) fun av => q0v σ o.dst av | _ => .fail)
 | .makeFunc (.func f) first caps => (match first.toList, caps.toList with
   | [x], [] => (match ev σ x with
     | some (.one (.a β off)) => q0v σ o.dst (.one (.cm f β off))
     | some (.one (.b c)) => q0v σ o.dst (.one (.b (.m f false [c])))
     | some (.agg cs) => y0j (qav cs) fun l => q0v σ o.dst (.one (.b (.m f true l)))
     | _ => .fail)
   | [], _ => (match q6y σ caps.toList with | some cs => q0v σ o.dst (.one (.cl f cs)) | none => y0j (y91 σ caps.toList) fun cs => q0v σ o.dst (.one (.b (.f f cs))))
   | _, _ => .fail)
 | .build t ps => (match y5n F t with
   | some z => y0j (y7z F σ t z ps.toList) fun cs => q0v σ o.dst (.agg cs)
   | none => .raw g σ o)
 | .alloc e => (match y9q F e with | some z => zu (y8e z) (qbt σ o.dst (qj z)) | none => .fail)
 | .box _ x => (match ev σ x with | some z => zu (y8e z) (qbt σ o.dst (qj z)) | none => .fail)
 | .store t p x => (match o.dst, ev σ p, ev σ x with
   | none, some pv, some xv => q5i F σ t pv xv
   | _, _, _ => .fail)
 | .buildSlice t n ps => yc1 F σ t n ps.toList o.dst
 | .makeSlice t l c => zc2 F σ t l c o.dst
 | .call c => za8 g F σ o c
 | .nilCheck x => evR σ x fun av => (match av with | .one (.b (.p row)) => q0v σ o.dst (.one (.b (.p row))) | .one (.a β off) => q0v σ o.dst (.one (.a β off)) | .one (.e β m i k) => q0v σ o.dst (.one (.e β m i k)) | _ => .fail)
 | _ => .raw g σ o
end Go.Sx
end
