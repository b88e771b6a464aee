/- WHAT IS PROVED: parts of the proof of fnExactDoneOf_holds: a frame for walks, what each Go function that it reaches answers, and plain lemmas; no condition beyond those that each theorem names. -/
import Derived.Test.YthljegacamgnnaaGreatCDn2
import Derived.WalkKit
import Derived.OrdersHeld
import Derived.DeepKeys
import Derived.Maps.RangeWalk
import Derived.Maps.OwnOps
set_option linter.unusedVariables false
set_option linter.unusedSimpArgs false
section
namespace Go.Sx
open Go.RowKit (Below)
structure TI where
 lay : Option (Bool × Nat)
 esz : Option Nat
 esI : Option (Nat × Nat)
 str : Bool
 boo : Bool
 und : Bool
 ik : Option IntKind
 zero : Option AV
 y5i : Option (List AC)
 zrow : Option (List Cell)
 flds : List (Option Nat × Option (Bool × Nat × Nat))
 cmp : Option (List CK)
inductive TT where
 | leaf
 | node (k : Nat) (v : TI) (l r : TT)
def q91 (P : Program) (t : TypeId) : Bool := match P.underlying t with | some .bool => true | _ => false
def qan (P : Program) (t : TypeId) : Nat := match P.underlying t with | some (.struct fs) => fs.size | _ => 0
def mkF (P : Program) (t : TypeId) : Nat → Nat → List (Option Nat × Option (Bool × Nat × Nat))
 | 0, _ => []
 | n + 1, i => (y9f P t i, fld P t i) :: mkF P t n (i + 1)
def ya4 (P : Program) (t : TypeId) : TI := ⟨lay P t, esz P t, y14 P t, y54 P t, q91 P t, (P.underlying t).isSome, q7y P t, q1z P t, y5i P t, z7n P t, mkF P t (qan P t) 0, q9n P t⟩
def TT.map (P : Program) : TT → TT
 | .leaf => .leaf
 | .node k _ l r => .node k (ya4 P k) (l.map P) (r.map P)
def TT.find : TT → Nat → Option TI
 | .leaf, _ => none
 | .node k v l r, t => bif Nat.beq k t then some v else bif Nat.blt t k then l.find t else r.find t
theorem TT.q2l {P : Program} : ∀ {F : TT} {t : Nat} {i : TI}, (F.map P).find t = some i → i = ya4 P t
 | .leaf, t, i, h => by cases h
 | .node k v l r, t, i, h => by
   rw [TT.map, TT.find] at h
   by_cases hk : k = t
   · subst hk; simp only [Nat.beq_refl, cond_true, Option.some.injEq] at h; exact h.symm
   · rw [beq_false hk] at h
     cases hb : Nat.blt t k with
     | true => rw [hb] at h; exact TT.q2l h
     | false => rw [hb] at h; exact TT.q2l h
def nth {α : Type} : List α → Nat → Option α
 | [], _ => none
 | a :: l, n => bif Nat.beq n 0 then some a else nth l (Nat.pred n)
theorem q1u {α : Type} : ∀ (l : List α) (n : Nat), nth l n = l[n]?
 | [], n => by simp [nth]
 | a :: l, 0 => rfl
 | a :: l, n + 1 => by rw [nth, beq_false (by omega), List.getElem?_cons_succ]; exact q1u l n
theorem y58 {P : Program} {t : Nat} : ∀ {n i k : Nat} {x : Option Nat × Option (Bool × Nat × Nat)}, (mkF P t n i)[k]? = some x → x = (y9f P t (i + k), fld P t (i + k))
 | 0, i, k, x, h => by simp [mkF] at h
 | n + 1, i, k, x, h => by
   rw [mkF] at h
   cases k with
   | zero => cases h; rfl
   | succ k => rw [List.getElem?_cons_succ] at h; rw [y58 h]; simp only [Nat.add_assoc, Nat.add_comm 1 k]
def q8n (F : TT) (t : Nat) : Option (Bool × Nat) := match F.find t with | some i => i.lay | none => none
def z3o (F : TT) (t : Nat) : Option Nat := match F.find t with | some i => i.esz | none => none
def z6j (F : TT) (t : Nat) : Option (Nat × Nat) := match F.find t with | some i => i.esI | none => none
def z7p (F : TT) (t : Nat) : Bool := match F.find t with | some i => i.str | none => false
def q9h (F : TT) (t : Nat) : Bool := match F.find t with | some i => i.boo | none => false
def y9i (F : TT) (t : Nat) : Bool := match F.find t with | some i => i.und | none => false
def zaj (F : TT) (t : Nat) : Option IntKind := match F.find t with | some i => i.ik | none => none
def y8e (F : TT) (t : Nat) : Option AV := match F.find t with | some i => i.zero | none => none
def q6j (F : TT) (t : Nat) : Option (List AC) := match F.find t with | some i => i.y5i | none => none
def q8e (F : TT) (t : Nat) : Option (List Cell) := match F.find t with | some i => i.zrow | none => none
def z9i (F : TT) (t : Nat) : Option (List CK) := match F.find t with | some i => i.cmp | none => none
def z8e (F : TT) (t f : Nat) : Option Nat := match F.find t with | some i => (match nth i.flds f with | some x => x.1 | none => none) | none => none
def z8n (F : TT) (t f : Nat) : Option (Bool × Nat × Nat) := match F.find t with | some i => (match nth i.flds f with | some x => x.2 | none => none) | none => none
section
variable {P : Program} {F : TT}
theorem q1h {α : Type} {F : TT} {t : Nat} {g : TI → Option α} {x : α} (hF : F = F.map P) (h : (match F.find t with | some i => g i | none => none) = some x) : g (ya4 P t) = some x := by
 cases hi : F.find t with
 | none => rw [hi] at h; cases h
 | some i => rw [hi] at h; rw [hF] at hi; rw [← TT.q2l hi]; exact h
theorem y6j {F : TT} {t : Nat} {g : TI → Bool} (hF : F = F.map P) (h : (match F.find t with | some i => g i | none => false) = true) : g (ya4 P t) = true := by
 cases hi : F.find t with
 | none => rw [hi] at h; cases h
 | some i => rw [hi] at h; rw [hF] at hi; rw [← TT.q2l hi]; exact h
theorem y2j (hF : F = F.map P) {t : Nat} {x : Bool × Nat} (h : q8n F t = some x) : lay P t = some x := q1h (g := TI.lay) hF h
theorem z0h (hF : F = F.map P) {t : Nat} {x : Nat} (h : z3o F t = some x) : esz P t = some x := q1h (g := TI.esz) hF h
theorem qz (hF : F = F.map P) {t : Nat} {x : Nat × Nat} (h : z6j F t = some x) : y14 P t = some x := q1h (g := TI.esI) hF h
theorem y8n (hF : F = F.map P) {t : Nat} {x : IntKind} (h : zaj F t = some x) : q7y P t = some x := q1h (g := TI.ik) hF h
theorem z6k (hF : F = F.map P) {t : Nat} {x : AV} (h : y8e F t = some x) : q1z P t = some x := q1h (g := TI.zero) hF h
theorem y5w (hF : F = F.map P) {t : Nat} {x : List AC} (h : q6j F t = some x) : y5i P t = some x := q1h (g := TI.y5i) hF h
theorem y6k (hF : F = F.map P) {t : Nat} {x : List Cell} (h : q8e F t = some x) : z7n P t = some x := q1h (g := TI.zrow) hF h
theorem q7o (hF : F = F.map P) {t : Nat} {x : List CK} (h : z9i F t = some x) : q9n P t = some x := q1h (g := TI.cmp) hF h
theorem y3o (hF : F = F.map P) {t : Nat} (h : z7p F t = true) : y54 P t = true := y6j (g := TI.str) hF h
theorem y7o (hF : F = F.map P) {t : Nat} (h : q9h F t = true) : P.underlying t = some .bool := by
 have : q91 P t = true := y6j (g := TI.boo) hF h
 unfold q91 at this
 split at this
 · assumption
 · cases this
theorem y7p (hF : F = F.map P) {t : Nat} (h : y9i F t = true) : ∃ u, P.underlying t = some u := Option.isSome_iff_exists.1 (y6j (g := TI.und) hF h)
theorem y2o (hF : F = F.map P) {t f x : Nat} (h : z8e F t f = some x) : y9f P t f = some x := by
 have := q1h (g := fun i => match nth i.flds f with | some x => x.1 | none => none) hF h
 split at this
 · rename_i y hy
   rw [q1u] at hy
   rw [y58 hy, Nat.zero_add] at this
   exact this
 · cases this
theorem z2j (hF : F = F.map P) {t f : Nat} {x : Bool × Nat × Nat} (h : z8n F t f = some x) : fld P t f = some x := by
 have := q1h (g := fun i => match nth i.flds f with | some x => x.2 | none => none) hF h
 split at this
 · rename_i y hy
   rw [q1u] at hy
   rw [y58 hy, Nat.zero_add] at this
   exact this
 · cases this
end
inductive R where
 | fail
 | ok (σ : St)
 | side (p : Prop) (r : R)
 | br (t : Bool) (r r' : R)
 | any (q : Bool → Prop) (f : Bool → R)
 | row (rows : List (List Cell)) (i : Nat) (f : List Cell → R)
 | byte (s : ByteArray) (i : Nat) (f : UInt8 → R)
 | call (g : Bool) (σ : St) (d : Option Tmp) (f : Nat) (avs : List AV)
 | raw (g : Bool) (σ : St) (o : Oper)
def R.holds (P : Program) : R → (St → Prop) → Prop
 | .fail, _ => False
 | .ok σ, K => K σ
 | .side p r, K => p ∧ r.holds P K
 | .br t r r', K => (t = true → r.holds P K) ∧ (t = false → r'.holds P K)
 | .any q f, K => ∀ b, q b → (f b).holds P K
 | .row rows i f, K => ∃ row, rows[i]? = some row ∧ (f row).holds P K
 | .byte s i f, K => ∃ b, s[i]? = some b ∧ (f b).holds P K
 | .call g σ d f avs, K => q3n P σ d f avs K ∨ (g = true ∧ y3n P σ d f avs K)
 | .raw g σ o, K => opL g P σ o K
def force {α : Type} : List α → Option (List α)
 | [] => some []
 | a :: l => match force l with | some l' => some (a :: l') | none => none
theorem force_eq {α : Type} : ∀ {l l' : List α}, force l = some l' → l' = l
 | [], l', h => by cases h; rfl
 | a :: l, l', h => by
   rw [force] at h
   split at h
   · rename_i l1 h1; cases h; rw [force_eq h1]
   · cases h
def q39 {α : Type} : Nat → List α → Bool
 | 0, _ => true
 | _ + 1, [] => false
 | n + 1, _ :: l => q39 n l
theorem q0p {α : Type} : ∀ {n : Nat} {l : List α}, q39 n l = true → n ≤ l.length
 | 0, l, _ => Nat.zero_le _
 | n + 1, [], h => by cases h
 | n + 1, _ :: l, h => Nat.succ_le_succ (q0p (l := l) h)
def z3s {α : Type} : Nat → List α → Bool
 | 0, [] => true
 | 0, _ :: _ => false
 | _ + 1, [] => false
 | n + 1, _ :: l => z3s n l
theorem y0y {α : Type} : ∀ {n : Nat} {l : List α}, z3s n l = true → l.length = n
 | 0, [], _ => rfl
 | 0, _ :: _, h => by cases h
 | n + 1, [], h => by cases h
 | n + 1, _ :: l, h => congrArg (· + 1) (y0y (l := l) h)
def ikN : IntKind → Nat
 | .i8 => 0 | .i16 => 1 | .i32 => 2 | .i64 => 3 | .u8 => 4 | .u16 => 5 | .u32 => 6 | .u64 => 7
theorem z91 {k k' : IntKind} (h : Nat.beq (ikN k) (ikN k') = true) : k = k' := by
 cases k <;> cases k' <;> first | rfl | cases h
def zq (b : Bool) (r : R) : R := match b with | true => r | false => .fail
theorem zb {P : Program} {b : Bool} {r : R} {K : St → Prop} (h : (zq b r).holds P K) : b = true ∧ r.holds P K := by
 cases b with
 | true => exact ⟨rfl, h⟩
 | false => exact h.elim
def z0r (σ : St) (d : Option Tmp) (av : AV) : R := match σ, d with
 | ⟨t, b⟩, some d => .ok ⟨(d, av) :: t, b⟩
 | σ, none => .ok σ
theorem y1g {P : Program} {σ : St} {d : Option Tmp} {av : AV} {K : St → Prop} : (z0r σ d av).holds P K ↔ K (σ.put d av) := by
 cases σ; cases d <;> rfl
def evR (σ : St) (x : Operand) (f : AV → R) : R := match ev σ x with | some av => f av | none => .fail
def sV (v : Value) : AV := .one (.b (.s v))
def q5l (σ : St) (av : AV) (f : List AC → R) : R := match av with
 | .one (.b (.p row)) => (match force (row.map .b) with | some cs => f cs | none => .fail)
 | .one (.a β off) => (match get σ.b β with | some (.var cs) => (match force ((cs.drop off).map (unk σ.b)) with | some cs => f cs | none => .fail) | _ => .fail)
 | .one (.e β m i k) => (match get σ.b β with
   | some (.arr full _ ep rows) => .side (m = rows.length) (.row rows i fun row => (match q2r full β ep i k (row.drop k) with | some cs => f cs | none => .fail))
   | _ => .fail)
 | _ => .fail
theorem y6p {P : Program} {σ : St} {av : AV} {f : List AC → R} {K : St → Prop} {K' : List AC → Prop} (hf : ∀ cs, (f cs).holds P K → K' cs) (h : (q5l σ av f).holds P K) : y1k σ av K' := by
 unfold q5l at h
 unfold y1k
 split at h
 · split at h
   · rename_i cs hcs; rw [force_eq hcs] at h; exact hf _ h
   · exact h.elim
 · rename_i β off
   dsimp only
   split at h
   · rename_i cs hcs
     split at h
     · rename_i cs' hcs'; rw [force_eq hcs'] at h; rw [hcs]; exact hf _ h
     · exact h.elim
   · exact h.elim
 · rename_i β m i k
   dsimp only
   split at h
   · rename_i full sz ep rows hab
     obtain ⟨h1, row, h2, h3⟩ := h
     rw [hab]
     refine ⟨h1, ?_⟩
     rw [h2]
     dsimp only at h3 ⊢
     split at h3
     · rename_i cs hcs; rw [hcs]; exact hf _ h3
     · exact h3.elim
   · exact h.elim
 · exact h.elim
def q8y (op : BinOp) (k : IntKind) (x y : Int) (f : Value → R) : R := match op with
 | .add => f (.int k (k.wrap (x + y))) | .sub => f (.int k (k.wrap (x - y))) | .mul => f (.int k (k.wrap (x * y)))
 | .eql => f (.bool (x == y)) | .neq => f (.bool (x != y)) | .lss => f (.bool (decide (x < y))) | .leq => f (.bool (decide (x ≤ y)))
 | .gtr => f (.bool (decide (x > y))) | .geq => f (.bool (decide (x ≥ y)))
 | .quo => .side (y ≠ 0) (f (.int k (k.wrap (x.tdiv y)))) | .rem => .side (y ≠ 0) (f (.int k (x.tmod y)))
 | .and => f (.int k (bits .and k x y)) | .or => f (.int k (bits .or k x y)) | .xor => f (.int k (bits .xor k x y))
 | _ => .fail
def yag (op : BinOp) (a b : ByteArray) (f : Value → R) : R := match op with
 | .add => .side (a.size + b.size ≤ 9223372036854775807) (f (.string (a ++ b)))
 | .eql => f (.bool (a.toList == b.toList)) | .neq => f (.bool (!(a.toList == b.toList)))
 | .lss => f (.bool (Op.bytesLess a.toList b.toList)) | .leq => f (.bool (Op.bytesLess a.toList b.toList || (a.toList == b.toList)))
 | .gtr => f (.bool (!(Op.bytesLess a.toList b.toList || (a.toList == b.toList)))) | .geq => f (.bool (!(Op.bytesLess a.toList b.toList)))
 | _ => .fail
def za8 (op : BinOp) (u v : Value) (f : Value → R) : R := match u, v with
 | .int k x, .int k' y => (match op with
   | .shl => .side (0 ≤ y) (f (.int k (k.wrap (x * 2 ^ (min y.toNat k.bits)))))
   | .shr => .side (0 ≤ y) (f (.int k (x.fdiv (2 ^ (min y.toNat k.bits)))))
   | op => zq (Nat.beq (ikN k) (ikN k')) (q8y op k x y f))
 | .string a, .string b => yag op a b f
 | _, _ => .fail
section
variable {P : Program} {K : St → Prop} {K' : Value → Prop} {f : Value → R}
theorem y7y {op : BinOp} {k : IntKind} {x y : Int} (hf : ∀ v, (f v).holds P K → K' v) (h : (q8y op k x y f).holds P K) : match y9p op k x y with | some r => K' r | none => False := by
 cases op <;> simp only [q8y] at h <;> simp only [y9p] <;> first
  | exact hf _ h
  | exact h.elim
  | (rw [if_neg h.1]; exact hf _ h.2)
theorem z9d {op : BinOp} {a b : ByteArray} (hf : ∀ v, (f v).holds P K → K' v) (h : (yag op a b f).holds P K) : y5u op a b K' := by
 cases op <;> simp only [yag] at h <;> simp only [y5u] <;> first
  | exact hf _ h
  | exact h.elim
  | exact ⟨h.1, hf _ h.2⟩
theorem z8s {op : BinOp} {u v : Value} (hf : ∀ v, (f v).holds P K → K' v) (h : (za8 op u v f).holds P K) : q9m op u v K' := by
 unfold za8 at h
 unfold q9m
 split at h
 · dsimp only
   split at h
   · exact ⟨h.1, hf _ h.2⟩
   · exact ⟨h.1, hf _ h.2⟩
   · rename_i h1 h2
     obtain ⟨hk, h'⟩ := zb h
     have hk := z91 hk
     subst hk
     have := y7y hf h'
     split
     · exact absurd rfl h1
     · exact absurd rfl h2
     · rw [if_pos rfl]; exact this
 · exact z9d hf h
 · exact h.elim
end
end Go.Sx
end
section
namespace Go.Sx
open Go.RowKit (Below)
def bR (t : List (Nat × AV)) (b : List (Nat × AB)) : R := match force b with | some b => .ok ⟨t, b⟩ | none => .fail
theorem zy {P : Program} {t : List (Nat × AV)} {b : List (Nat × AB)} {K : St → Prop} (h : (bR t b).holds P K) : K ⟨t, b⟩ := by
 unfold bR at h
 split at h
 · rename_i b' hb; rw [force_eq hb] at h; exact h
 · exact h.elim
def z8k (B : List (Nat × AB)) : List AC → Option (List Cell)
 | [] => some []
 | .b c :: l => (match z8k B l with | some l' => some (c :: l') | none => none)
 | .h γ _ :: l => (match get B γ, z8k B l with | some (.arr _ _ _ rows), some l' => some (.l rows :: l') | _, _ => none)
 | .nil :: l => (match z8k B l with | some l' => some (.l [] :: l') | none => none)
 | .em :: l => (match z8k B l with | some l' => some (.l [] :: l') | none => none)
 | _ => none
theorem q3x {B : List (Nat × AB)} : ∀ {cs : List AC} {l : List Cell}, z8k B cs = some l → l = cs.map (q2i B)
 | [], l, h => by cases h; rfl
 | c :: cs, l, h => by
   cases c <;> rw [z8k] at h <;> first
    | (split at h
       · rename_i l' hl; cases h; rw [q3x hl]; rfl
       · cases h)
    | (split at h
       · rename_i rows l' hg hl; cases h; rw [q3x hl]; simp [q2i, hg]
       · cases h)
    | cases h
def q80 (B : List (Nat × AB)) : List (List AC) → Option (List (List Cell))
 | [] => some []
 | cs :: l => match z8k B cs, q80 B l with | some r, some l' => some (r :: l') | _, _ => none
theorem z5q {B : List (Nat × AB)} : ∀ {rws : List (List AC)} {l : List (List Cell)}, q80 B rws = some l → l = rws.map fun cs => cs.map (q2i B)
 | [], l, h => by cases h; rfl
 | c :: cs, l, h => by
   rw [q80] at h
   split at h
   · rename_i r l' hr hl; cases h; rw [q3x hr, z5q hl]; rfl
   · cases h
def q7n : List AC → List Nat
 | [] => []
 | .h γ _ :: l => γ :: q7n l
 | _ :: l => q7n l
theorem q3t : ∀ (cs : List AC), q7n cs = cs.filterMap gam
 | [] => rfl
 | c :: cs => by
   have ih := q3t cs
   cases c <;> simp only [q7n, ih] <;> rfl
def z96 (x : Nat) : List Nat → Bool
 | [] => false
 | y :: l => bif Nat.beq x y then true else z96 x l
theorem q2m {x : Nat} : ∀ {l : List Nat}, z96 x l = false → x ∉ l
 | [], _ => by simp
 | y :: l, h => by
   rw [z96] at h
   cases hb : Nat.beq x y with
   | true => rw [hb] at h; cases h
   | false =>
     rw [hb] at h
     have hne : x ≠ y := fun e => by subst e; simp at hb
     have := q2m (l := l) h
     simp [hne, this]
def q96 : List Nat → Bool
 | [] => true
 | x :: l => bif z96 x l then false else q96 l
theorem z6 : ∀ {l : List Nat}, q96 l = true → l.Nodup
 | [], _ => List.nodup_nil
 | x :: l, h => by
   rw [q96] at h
   cases hb : z96 x l with
   | true => rw [hb] at h; cases h
   | false => rw [hb] at h; exact List.nodup_cons.2 ⟨q2m hb, z6 h⟩
def q9f (b : Bool) : Bool := match b with | true => false | false => true
theorem z2y {b : Bool} (h : q9f b = true) : b = false := by cases b <;> first | rfl | cases h
def z5j (sz : Nat) : List (List AC) → Bool
 | [] => true
 | cs :: l => bif z3s sz cs then z5j sz l else false
theorem y4a {sz : Nat} : ∀ {l : List (List AC)}, z5j sz l = true → (l.all fun cs => cs.length == sz) = true
 | [], _ => rfl
 | cs :: l, h => by
   rw [z5j] at h
   cases hb : z3s sz cs with
   | false => rw [hb] at h; cases h
   | true => rw [hb] at h; simp only [List.all_cons, y0y hb, beq_self_eq_true, Bool.true_and]; exact y4a h
def flat (l : List (List AC)) : List AC := l.flatten
def q5q (σ : St) : Nat → List (Nat × Operand) → Option (List (List AC))
 | _, [] => some []
 | i, (j, x) :: ps => bif Nat.beq i j then (match ev σ x, q5q σ (Nat.succ i) ps with
   | some (.one c), some r => some ([c] :: r)
   | some (.agg cs), some r => some (cs :: r)
   | _, _ => none) else none
theorem q2y {σ : St} : ∀ {ps : List (Nat × Operand)} {i : Nat} {r : List (List AC)}, q5q σ i ps = some r → q1n σ i ps = some r
 | [], i, r, h => h
 | (j, x) :: ps, i, r, h => by
   rw [q5q] at h
   by_cases hij : i = j
   · subst hij
     simp only [Nat.beq_refl, cond_true] at h
     rw [q1n, if_pos rfl]
     split at h
     · rename_i c r' h1 h2; cases h; rw [h1, q2y h2]
     · rename_i c r' h1 h2; cases h; rw [h1, q2y h2]
     · cases h
   · rw [beq_false hij] at h; cases h
def y6u (F : TT) (σ : St) (t : Nat) : List AC → List (Nat × Operand) → Option (List AC)
 | cs, [] => some cs
 | cs, (i, x) :: ps => match z8n F t i, ev σ x with
   | some (_, off, n), some (.one c) => (match Nat.beq n 1, q39 (Nat.add off 1) cs, force (putCells cs off [c]) with | true, true, some cs' => y6u F σ t cs' ps | _, _, _ => none)
   | some (_, off, n), some (.agg xs) => (match z3s n xs, q39 (Nat.add off n) cs, force (putCells cs off xs) with | true, true, some cs' => y6u F σ t cs' ps | _, _, _ => none)
   | _, _ => none
def y7r (σ : St) : List Operand → Option (List (Nat × Nat))
 | [] => some []
 | x :: l => match ev σ x, y7r σ l with | some (.one (.a β off)), some r => some ((β, off) :: r) | _, _ => none
theorem y5l {σ : St} : ∀ {l : List Operand} {r : List (Nat × Nat)}, y7r σ l = some r → l.mapM (fun x => match ev σ x with | some (.one (.a β off)) => some (β, off) | _ => none) = some r
 | [], r, h => by cases h; rfl
 | x :: l, r, h => by
   rw [y7r] at h
   split at h
   · rename_i β off r' h1 h2
     cases h
     simp [h1, y5l h2]
   · cases h
def q53 : List AC → Bool
 | [] => true
 | .b (.s _) :: l => q53 l
 | .b _ :: _ => false
 | _ :: l => q53 l
theorem z2m : ∀ (cs : List AC), q53 cs = z2c cs
 | [] => rfl
 | c :: cs => by
   cases c with
   | b c => cases c <;> simp [q53, z2c] <;> exact z2m cs
   | _ => simp [q53, z2c]; exact z2m cs
section
variable {P : Program} {F : TT}
theorem z3t (hF : F = F.map P) {σ : St} {t : Nat} : ∀ {ps : List (Nat × Operand)} {cs r : List AC}, y6u F σ t cs ps = some r → q2b P σ t cs ps = some r
 | [], cs, r, h => h
 | (i, x) :: ps, cs, r, h => by
   rw [y6u] at h
   rw [q2b]
   split at h
   · rename_i off n c h1 h2
     rw [z2j hF h1, h2]
     dsimp only
     split at h
     · rename_i cs' e1 e2 e3
       rw [if_pos ⟨Nat.eq_of_beq_eq_true e1, q0p e2⟩, ← force_eq e3]
       exact z3t hF h
     · cases h
   · rename_i off n xs h1 h2
     rw [z2j hF h1, h2]
     dsimp only
     split at h
     · rename_i cs' e1 e2 e3
       rw [if_pos ⟨y0y e1, q0p e2⟩, ← force_eq e3]
       exact z3t hF h
     · cases h
   · cases h
end
def y91 : Option Operand → St → Option (Option Int)
 | none, _ => some none
 | some x, σ => match ev σ x with | some (.one (.b (.s (.int _ n)))) => some (some n) | _ => none
def z0d {α : Type} (o : Option α) (f : α → R) : R := match o with | some a => f a | none => .fail
theorem yg {P : Program} {K : St → Prop} {α : Type} {o : Option α} {f : α → R} (h : (z0d o f).holds P K) : ∃ a, o = some a ∧ (f a).holds P K := by
 cases o with
 | none => exact h.elim
 | some a => exact ⟨a, rfl, h⟩
def qab (F : TT) (σ : St) (t : Nat) (av : AV) (f : Value → R) : R := match av with
 | .one (.b (.l rows)) => z0d (z3o F t) fun _ => f (.int .i64 rows.length)
 | .one .nil => z0d (z3o F t) fun _ => f (.int .i64 0)
 | .one .em => z0d (z3o F t) fun _ => f (.int .i64 0)
 | .one (.h _ n) => z0d (z3o F t) fun _ => f (.int .i64 n)
 | .one (.b (.s (.string s))) => zq (z7p F t) (f (.int .i64 s.size))
 | .one (.q β m i k) => z0d (z3o F t) fun _ => (match get σ.b β with
   | some (.arr _ _ ep rows) => .side (m = ep) (.row rows i fun row => match nth row k with | some (.l rs) => f (.int .i64 rs.length) | _ => .fail)
   | _ => .fail)
 | _ => .fail
def z8t (g : Bool) (F : TT) (σ : St) (o : Oper) (c : Call) : R := match c.callee with
 | .builtin .len => (match c.argTypes.toList, c.args.toList with
   | t :: _, [x] => evR σ x fun av => qab F σ t av fun r => z0r σ o.dst (sV r)
   | _, _ => .fail)
 | .builtin .append => (match c.argTypes.toList, c.args.toList, o.dst with
   | [t, tx], [s, x], some d => (match z6j F t, z6j F tx, ev σ s, ev σ x with
     | some (sz, by_), some _, some (.one (.h β n)), some (.one (.h γ m)) => (match get σ.b β, get σ.b γ with
       | some (.arr full0 sz0 ep rows0), some (.arr full sz1 _ rows) =>
         zq (Nat.beq sz0 sz) (zq (Nat.beq sz1 sz) (zq (q9f (Nat.beq β γ)) (.side (n = rows0.length) (.side (m = rows.length) (.side (full0 = full ∨ rows0 = []) (.side (rows0.length + rows.length ≤ 9223372036854775807) (.side ((rows0.length + rows.length) * by_ ≤ 140737488355328)
         (bR ((d, .one (.h β (rows0.length + rows.length))) :: σ.t) (y0e (qo σ.b [γ]) β (.arr full sz (Nat.succ ep) (rows0 ++ rows)))))))))))
       | _, _ => .fail)
     | some (sz, by_), some _, some (.one (.h β n)), some (.one (.b (.l rows))) => (match get σ.b β with
       | some (.arr full0 sz0 ep rows0) => zq (Nat.beq sz0 sz) (.side (n = rows0.length) (.side (∀ row ∈ rows, row.length = sz) (.side (full0 = true → zz rows) (.side (rows0.length + rows.length ≤ 9223372036854775807) (.side ((rows0.length + rows.length) * by_ ≤ 140737488355328)
         (bR ((d, .one (.h β (rows0.length + rows.length))) :: σ.t) (y0e σ.b β (.arr full0 sz (Nat.succ ep) (rows0 ++ rows)))))))))
       | _ => .fail)
     | some (sz, by_), some _, some (.one .nil), some (.one (.h γ m)) => (match get σ.b d, get σ.b γ with
       | none, some (.arr full sz1 _ rows) => zq (Nat.beq sz1 sz) (zq (q9f (Nat.beq d γ)) (.side (m = rows.length) (.side (rows.length ≤ 9223372036854775807) (.side (rows.length * by_ ≤ 140737488355328) (bR ((d, .one (.h d rows.length)) :: σ.t) (y0e (qo σ.b [γ]) d (.arr full sz 0 rows)))))))
       | _, _ => .fail)
     | some (sz, by_), some _, some (.one .em), some (.one (.h γ m)) => (match get σ.b d, get σ.b γ with
       | none, some (.arr full sz1 _ rows) => zq (Nat.beq sz1 sz) (zq (q9f (Nat.beq d γ)) (.side (m = rows.length) (.side (rows.length ≤ 9223372036854775807) (.side (rows.length * by_ ≤ 140737488355328) (bR ((d, .one (.h d rows.length)) :: σ.t) (y0e (qo σ.b [γ]) d (.arr full sz 0 rows)))))))
       | _, _ => .fail)
     | some (sz, by_), some _, some (.one .em), some (.one (.b (.l rows))) => (match get σ.b d with
       | none => .side (∀ row ∈ rows, row.length = sz) (.side (zz rows) (.side (rows.length ≤ 9223372036854775807) (.side (rows.length * by_ ≤ 140737488355328) (bR ((d, .one (.h d rows.length)) :: σ.t) (y0e σ.b d (.arr true sz 0 rows))))))
       | _ => .fail)
     | some (sz, by_), some _, some (.one .nil), some (.one (.b (.l rows))) => (match get σ.b d with
       | none => .side (∀ row ∈ rows, row.length = sz) (.side (zz rows) (.side (rows.length ≤ 9223372036854775807) (.side (rows.length * by_ ≤ 140737488355328) (bR ((d, .one (.h d rows.length)) :: σ.t) (y0e σ.b d (.arr true sz 0 rows))))))
       | _ => .fail)
     | _, _, _, _ => .fail)
   | _, _, _ => .fail)
 | .value x => (match ev σ x, evs σ c.args.toList with
   | some (.one (.cl f caps)), some avs => z0d (force (avs ++ caps.map fun c => .one (.a c.1 c.2))) fun avs => .call g σ o.dst f avs
   | some (.one (.b (.f f caps))), some avs => z0d (force (avs ++ caps.map fun c => .one (.b c))) fun avs => .call g σ o.dst f avs
   | some (.one (.cm f β off)), some avs => .call g σ o.dst f (.one (.a β off) :: avs)
   | some (.one (.b (.m f ag row))), some avs => .call g σ o.dst f (z7b ag row :: avs)
   | _, _ => .fail)
 | .builtin .max => (match c.args.toList with
   | [x, y] => (match ev σ x, ev σ y with | some (.one (.b (.s (.int k a)))), some (.one (.b (.s (.int _ b)))) => z0r σ o.dst (sV (.int k (mx a b))) | _, _ => .fail)
   | [x, y, z, t] => (match ev σ x, ev σ y, ev σ z, ev σ t with | some (.one (.b (.s (.int k a)))), some (.one (.b (.s (.int _ b)))), some (.one (.b (.s (.int _ c)))), some (.one (.b (.s (.int _ d)))) => z0r σ o.dst (sV (.int k (mx (mx (mx a b) c) d))) | _, _, _, _ => .fail)
   | _ => .fail)
 | .builtin .min => (match c.args.toList with
   | [x, y] => (match ev σ x, ev σ y with | some (.one (.b (.s (.int k a)))), some (.one (.b (.s (.int _ b)))) => z0r σ o.dst (sV (.int k (if b < a then b else a))) | _, _ => .fail)
   | _ => .fail)
 | _ => .raw g σ o
def ya6 (σ : St) (d : Option Tmp) (cs : List AC) : R := match d with
 | some d => (match get σ.b d with | none => bR ((d, .one (.a d 0)) :: σ.t) (y0e σ.b d (.var cs)) | some _ => .fail)
 | none => .fail
def y77 : AV → Bool | .tup _ => false | _ => true
def z4t (F : TT) (σ : St) (t : Nat) (p x : AV) : R := match q8n F t, p, x with
 | some (_, n), .one (.e β m i k), x => (match get σ.b β with
   | some (.arr full sz ep rows) => zq (y77 x) (zq (z3s n (yi x)) (zq (q96 (q7n (yi x))) (zq (q9f (z96 β (q7n (yi x)))) (.side (m = rows.length) (.row rows i fun row => .side (k + n ≤ row.length) (.side (y6m (wfS σ.b full) (yi x)) (z0d (z8k σ.b (yi x)) fun xs =>
      bR σ.t (y0e (qo σ.b (q7n (yi x))) β (.arr full sz (Nat.succ ep) (rows.set i (putRow row k xs)))))))))))
   | _ => .fail)
 | some (false, 1), .one (.a β off), .one c => (match get σ.b β with | some (.var cs) => zq (q39 (Nat.add off 1) cs) (z0d (force (putCells cs off [c])) fun cs => bR σ.t (y0e σ.b β (.var cs))) | _ => .fail)
 | some (true, n), .one (.a β off), .agg xs => (match get σ.b β with | some (.var cs) => zq (z3s n xs) (zq (q39 (Nat.add off n) cs) (z0d (force (putCells cs off xs)) fun cs => bR σ.t (y0e σ.b β (.var cs)))) | _ => .fail)
 | _, _, _ => .fail
def yac (F : TT) (σ : St) (t n : Nat) (ps : List (Nat × Operand)) (d : Option Tmp) : R := match d, z6j F t, q5q σ 0 ps with
 | some d, some (sz, _), some rws => (match get σ.b d with
   | none => zq (z3s n rws) (zq (Nat.ble (Nat.mul n sz) 16777216) (zq (z5j sz rws) (zq (q96 (q7n (flat rws))) (zq (q9f (z96 d (q7n (flat rws)))) (.side (y6m (wfS σ.b (q53 (flat rws))) (flat rws)) (z0d (q80 σ.b rws) fun rs =>
     bR ((d, .one (.h d n)) :: σ.t) (y0e (qo σ.b (q7n (flat rws))) d (.arr (q53 (flat rws)) sz 0 rs))))))))
   | some _ => .fail)
 | _, _, _ => .fail
def zad (F : TT) (σ : St) (t : Nat) (l c : Operand) (d : Option Tmp) : R := match d, z6j F t, q8e F t, ev σ l, ev σ c with
 | some d, some (sz, by_), some zrow, some (.one (.b (.s (.int _ n)))), some (.one (.b (.s (.int _ n')))) => (match get σ.b d with
   | none => zq (z3s sz zrow) (.side (n = n') (.side (0 ≤ n) (.side (n * by_ ≤ 281474976710656) (.side (n ≤ 9223372036854775807) (bR ((d, .one (.h d n.toNat)) :: σ.t) (y0e σ.b d (.arr true sz 0 (List.replicate n.toNat zrow))))))))
   | some _ => .fail)
 | _, _, _, _, _ => .fail
def opR (g : Bool) (F : TT) (σ : St) (o : Oper) : R := match o.op with
 | .move x => evR σ x fun av => z0r σ o.dst av
 | .assign x => evR σ x fun av => z0r σ o.dst av
 | .pick c x y => (match ev σ c with | some (.one (.b (.s (.bool t)))) => .br t (evR σ x fun av => z0r σ o.dst av) (evR σ y fun av => z0r σ o.dst av) | _ => .fail)
 | .load t x => (match ev σ x, q8n F t with
   | some av, some (ag, n) => q5l σ av fun cs => (match ag with
     | true => zq (q39 n cs) (z0d (force (cs.take n)) fun cs => z0r σ o.dst (.agg cs))
     | false => (match cs with | [] => .fail | c :: _ => z0r σ o.dst (.one c)))
   | _, _ => .fail)
 | .binOp op t x y _ => (match ev σ x, ev σ y with
   | some (.one (.b (.s (.bool a)))), some (.one (.b (.s (.bool b)))) => zq (q9h F t) (match op with | .eql => z0r σ o.dst (sV (.bool (a == b))) | .neq => z0r σ o.dst (sV (.bool (!(a == b)))) | _ => .fail)
   | some (.one (.b (.s u))), some (.one (.b (.s v))) => za8 op u v fun r => z0r σ o.dst (sV r)
   | some (.one (.b (.l rows))), some (.one .nil) => z0d (z3o F t) fun _ => (match op with
     | .eql => .any (fun b => b = true → rows = []) fun b => z0r σ o.dst (sV (.bool b))
     | .neq => .any (fun b => b = true → rows = []) fun b => z0r σ o.dst (sV (.bool (!b)))
     | _ => .fail)
   | some (.agg cs), some (.agg cs') => z0d (z9i F t) fun ks => z0d (scs cs) fun xs => z0d (scs cs') fun ys => zq (z8v ks xs) (zq (z8v ks ys) (match op with
     | .eql => z0r σ o.dst (sV (.bool (z14 xs ys)))
     | .neq => z0r σ o.dst (sV (.bool (!(z14 xs ys))))
     | _ => .fail))
   | _, _ => .raw g σ o)
 | .unOp op _ x => (match op, ev σ x with
   | .not, some (.one (.b (.s (.bool b)))) => z0r σ o.dst (sV (.bool (!b)))
   | .neg, some (.one (.b (.s (.int k n)))) => z0r σ o.dst (sV (.int k (k.wrap (0 - n))))
   | _, _ => .fail)
 | .convert s d x => (match ev σ x, zaj F d with
   | some (.one (.b (.s (.int _ n)))), some k => zq (y9i F s) (z0r σ o.dst (sV (.int k (k.wrap n))))
   | _, _ => .raw g σ o)
 | .fieldAddr s x f => (match ev σ x, z8e F s f with
   | some (.one (.b (.p row))), some off => zq (q39 off row) (z0d (force (row.drop off)) fun row => z0r σ o.dst (.one (.b (.p row))))
   | some (.one (.a β i)), some off => z0r σ o.dst (.one (.a β (i + off)))
   | some (.one (.e β m i k)), some off => z0r σ o.dst (.one (.e β m i (k + off)))
   | _, _ => .fail)
 | .field s x f => (match ev σ x, z8n F s f with
   | some (.agg cs), some (true, off, n) => zq (q39 (Nat.add off n) cs) (z0d (force ((cs.drop off).take n)) fun cs => z0r σ o.dst (.agg cs))
   | some (.agg cs), some (false, off, _) => z0d (nth cs off) fun c => z0r σ o.dst (.one c)
   | _, _ => .fail)
 | .indexAddr t x i => (match ev σ x, ev σ i, z3o F t with
   | some (.one (.b (.l rows))), some (.one (.b (.s (.int _ n)))), some sz => .side (0 ≤ n) (.row rows n.toNat fun row => .side (row.length = sz) (z0r σ o.dst (.one (.b (.p row)))))
   | some (.one (.h β m)), some (.one (.b (.s (.int _ n)))), some sz => (match get σ.b β with
     | some (.arr _ _ _ rows) => .side (m = rows.length) (.side (0 ≤ n) (.row rows n.toNat fun row => .side (row.length = sz) (z0r σ o.dst (.one (.e β m n.toNat 0)))))
     | _ => .fail)
   | _, _, _ => .raw g σ o)
 | .index t x i => (match ev σ x, ev σ i with
   | some (.one (.b (.s (.string s)))), some (.one (.b (.s (.int _ n)))) => zq (z7p F t) (.side (0 ≤ n) (.byte s n.toNat fun b => z0r σ o.dst (sV (.int .u8 b.toNat))))
   | _, _ => .fail)
 | .slice t x lo hi none => (match ev σ x, y91 lo σ, y91 hi σ with
   | some (.one (.b (.s (.string s)))), some l, some h => zq (z7p F t) (.side (0 ≤ l.getD 0) (.side (l.getD 0 ≤ h.getD s.size) (.side (h.getD s.size ≤ s.size) (z0r σ o.dst (sV (.string (s.extract (l.getD 0).toNat (h.getD s.size).toNat)))))))
   | some (.one (.b (.l rows))), some l, some h => z0d (z3o F t) fun sz => .side (l.getD 0 = 0 ∨ ∀ row ∈ rows, row.length = sz) (.side (0 ≤ l.getD 0) (.side (l.getD 0 ≤ h.getD rows.length) (.side (h.getD rows.length ≤ rows.length) (z0r σ o.dst (.one (.b (.l ((rows.take (h.getD rows.length).toNat).drop (l.getD 0).toNat))))))))
   | _, _, _ => .raw g σ o)
 | .extract x i => (match ev σ x with | some (.tup vs) => z0d (nth vs i) fun av => z0r σ o.dst av | _ => .fail)
 | .makeFunc (.func f) first caps => (match first.toList, caps.toList with
   | [x], [] => (match ev σ x with
     | some (.one (.a β off)) => z0r σ o.dst (.one (.cm f β off))
     | some (.one (.b c)) => z0r σ o.dst (.one (.b (.m f false [c])))
     | some (.agg cs) => z0d (z9f cs) fun l => z0r σ o.dst (.one (.b (.m f true l)))
     | _ => .fail)
   | [], _ => z0d (y7r σ caps.toList) fun cs => z0r σ o.dst (.one (.cl f cs))
   | _, _ => .fail)
 | .build t ps => z0d (q6j F t) fun z => z0d (y6u F σ t z ps.toList) fun cs => z0r σ o.dst (.agg cs)
 | .alloc e => (match y8e F e with | some z => zq (y77 z) (ya6 σ o.dst (yi z)) | none => .fail)
 | .box _ x => (match ev σ x with | some z => zq (y77 z) (ya6 σ o.dst (yi z)) | none => .fail)
 | .store t p x => (match o.dst, ev σ p, ev σ x with
   | none, some pv, some xv => z4t F σ t pv xv
   | _, _, _ => .fail)
 | .buildSlice t n ps => yac F σ t n ps.toList o.dst
 | .makeSlice t l c => zad F σ t l c o.dst
 | .call c => z8t g F σ o c
 | .nilCheck x => evR σ x fun av => (match av with | .one (.b (.p row)) => z0r σ o.dst (.one (.b (.p row))) | .one (.a β off) => z0r σ o.dst (.one (.a β off)) | .one (.e β m i k) => z0r σ o.dst (.one (.e β m i k)) | _ => .fail)
 | _ => .raw g σ o
end Go.Sx
end
