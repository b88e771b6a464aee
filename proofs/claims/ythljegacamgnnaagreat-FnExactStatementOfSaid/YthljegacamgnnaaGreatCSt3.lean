/- WHAT IS PROVED: parts of the proof of fnExactStatementOf_holds: a frame for walks, what each Go function that it reaches answers, and plain lemmas; no condition beyond those that each theorem names. -/
import Derived.Test.YthljegacamgnnaaGreatCSt2
import Derived.WalkKit
import Derived.OrdersHeld
import Derived.DeepKeys
import Derived.Maps.RangeWalk
import Derived.Maps.OwnOps
set_option linter.unusedVariables false
set_option linter.unusedSimpArgs false
section
namespace Go.Sx
open Go.RowKit (Below)
structure TI where
 lay : Option (Bool × Nat)
 esz : Option Nat
 esI : Option (Nat × Nat)
 str : Bool
 boo : Bool
 und : Bool
 ik : Option IntKind
 zero : Option AV
 z5h : Option (List AC)
 zrow : Option (List Cell)
 flds : List (Option Nat × Option (Bool × Nat × Nat))
 cmp : Option (List CK)
inductive TT where
 | leaf
 | node (k : Nat) (v : TI) (l r : TT)
def q8w (P : Program) (t : TypeId) : Bool := match P.underlying t with | some .bool => true | _ => false
def yaj (P : Program) (t : TypeId) : Nat := match P.underlying t with | some (.struct fs) => fs.size | _ => 0
def mkF (P : Program) (t : TypeId) : Nat → Nat → List (Option Nat × Option (Bool × Nat × Nat))
 | 0, _ => []
 | n + 1, i => (z9b P t i, fld P t i) :: mkF P t n (i + 1)
def y9z (P : Program) (t : TypeId) : TI := ⟨lay P t, esz P t, y15 P t, q53 P t, q8w P t, (P.underlying t).isSome, z7u P t, z20 P t, z5h P t, q7i P t, mkF P t (yaj P t) 0, y9j P t⟩
def TT.map (P : Program) : TT → TT
 | .leaf => .leaf
 | .node k _ l r => .node k (y9z P k) (l.map P) (r.map P)
def TT.find : TT → Nat → Option TI
 | .leaf, _ => none
 | .node k v l r, t => bif Nat.beq k t then some v else bif Nat.blt t k then l.find t else r.find t
theorem TT.y2l {P : Program} : ∀ {F : TT} {t : Nat} {i : TI}, (F.map P).find t = some i → i = y9z P t
 | .leaf, t, i, h => by cases h
 | .node k v l r, t, i, h => by
   rw [TT.map, TT.find] at h
   by_cases hk : k = t
   · subst hk; simp only [Nat.beq_refl, cond_true, Option.some.injEq] at h; exact h.symm
   · rw [beq_false hk] at h
     cases hb : Nat.blt t k with
     | true => rw [hb] at h; exact TT.y2l h
     | false => rw [hb] at h; exact TT.y2l h
def nth {α : Type} : List α → Nat → Option α
 | [], _ => none
 | a :: l, n => bif Nat.beq n 0 then some a else nth l (Nat.pred n)
theorem q1u {α : Type} : ∀ (l : List α) (n : Nat), nth l n = l[n]?
 | [], n => by simp [nth]
 | a :: l, 0 => rfl
 | a :: l, n + 1 => by rw [nth, beq_false (by omega), List.getElem?_cons_succ]; exact q1u l n
theorem y57 {P : Program} {t : Nat} : ∀ {n i k : Nat} {x : Option Nat × Option (Bool × Nat × Nat)}, (mkF P t n i)[k]? = some x → x = (z9b P t (i + k), fld P t (i + k))
 | 0, i, k, x, h => by simp [mkF] at h
 | n + 1, i, k, x, h => by
   rw [mkF] at h
   cases k with
   | zero => cases h; rfl
   | succ k => rw [List.getElem?_cons_succ] at h; rw [y57 h]; simp only [Nat.add_assoc, Nat.add_comm 1 k]
def y8i (F : TT) (t : Nat) : Option (Bool × Nat) := match F.find t with | some i => i.lay | none => none
def q3n (F : TT) (t : Nat) : Option Nat := match F.find t with | some i => i.esz | none => none
def q6f (F : TT) (t : Nat) : Option (Nat × Nat) := match F.find t with | some i => i.esI | none => none
def z7l (F : TT) (t : Nat) : Bool := match F.find t with | some i => i.str | none => false
def y9d (F : TT) (t : Nat) : Bool := match F.find t with | some i => i.boo | none => false
def z9e (F : TT) (t : Nat) : Bool := match F.find t with | some i => i.und | none => false
def qae (F : TT) (t : Nat) : Option IntKind := match F.find t with | some i => i.ik | none => none
def q89 (F : TT) (t : Nat) : Option AV := match F.find t with | some i => i.zero | none => none
def y6g (F : TT) (t : Nat) : Option (List AC) := match F.find t with | some i => i.z5h | none => none
def z8a (F : TT) (t : Nat) : Option (List Cell) := match F.find t with | some i => i.zrow | none => none
def q9d (F : TT) (t : Nat) : Option (List CK) := match F.find t with | some i => i.cmp | none => none
def y89 (F : TT) (t f : Nat) : Option Nat := match F.find t with | some i => (match nth i.flds f with | some x => x.1 | none => none) | none => none
def q8h (F : TT) (t f : Nat) : Option (Bool × Nat × Nat) := match F.find t with | some i => (match nth i.flds f with | some x => x.2 | none => none) | none => none
section
variable {P : Program} {F : TT}
theorem q1h {α : Type} {F : TT} {t : Nat} {g : TI → Option α} {x : α} (hF : F = F.map P) (h : (match F.find t with | some i => g i | none => none) = some x) : g (y9z P t) = some x := by
 cases hi : F.find t with
 | none => rw [hi] at h; cases h
 | some i => rw [hi] at h; rw [hF] at hi; rw [← TT.y2l hi]; exact h
theorem z6g {F : TT} {t : Nat} {g : TI → Bool} (hF : F = F.map P) (h : (match F.find t with | some i => g i | none => false) = true) : g (y9z P t) = true := by
 cases hi : F.find t with
 | none => rw [hi] at h; cases h
 | some i => rw [hi] at h; rw [hF] at hi; rw [← TT.y2l hi]; exact h
theorem z2j (hF : F = F.map P) {t : Nat} {x : Bool × Nat} (h : y8i F t = some x) : lay P t = some x := q1h (g := TI.lay) hF h
theorem q0h (hF : F = F.map P) {t : Nat} {x : Nat} (h : q3n F t = some x) : esz P t = some x := q1h (g := TI.esz) hF h
theorem qz (hF : F = F.map P) {t : Nat} {x : Nat × Nat} (h : q6f F t = some x) : y15 P t = some x := q1h (g := TI.esI) hF h
theorem z8i (hF : F = F.map P) {t : Nat} {x : IntKind} (h : qae F t = some x) : z7u P t = some x := q1h (g := TI.ik) hF h
theorem q6g (hF : F = F.map P) {t : Nat} {x : AV} (h : q89 F t = some x) : z20 P t = some x := q1h (g := TI.zero) hF h
theorem q5u (hF : F = F.map P) {t : Nat} {x : List AC} (h : y6g F t = some x) : z5h P t = some x := q1h (g := TI.z5h) hF h
theorem z6h (hF : F = F.map P) {t : Nat} {x : List Cell} (h : z8a F t = some x) : q7i P t = some x := q1h (g := TI.zrow) hF h
theorem q7k (hF : F = F.map P) {t : Nat} {x : List CK} (h : q9d F t = some x) : y9j P t = some x := q1h (g := TI.cmp) hF h
theorem z3o (hF : F = F.map P) {t : Nat} (h : z7l F t = true) : q53 P t = true := z6g (g := TI.str) hF h
theorem y7k (hF : F = F.map P) {t : Nat} (h : y9d F t = true) : P.underlying t = some .bool := by
 have : q8w P t = true := z6g (g := TI.boo) hF h
 unfold q8w at this
 split at this
 · assumption
 · cases this
theorem y7l (hF : F = F.map P) {t : Nat} (h : z9e F t = true) : ∃ u, P.underlying t = some u := Option.isSome_iff_exists.1 (z6g (g := TI.und) hF h)
theorem q2n (hF : F = F.map P) {t f x : Nat} (h : y89 F t f = some x) : z9b P t f = some x := by
 have := q1h (g := fun i => match nth i.flds f with | some x => x.1 | none => none) hF h
 split at this
 · rename_i y hy
   rw [q1u] at hy
   rw [y57 hy, Nat.zero_add] at this
   exact this
 · cases this
theorem q2i (hF : F = F.map P) {t f : Nat} {x : Bool × Nat × Nat} (h : q8h F t f = some x) : fld P t f = some x := by
 have := q1h (g := fun i => match nth i.flds f with | some x => x.2 | none => none) hF h
 split at this
 · rename_i y hy
   rw [q1u] at hy
   rw [y57 hy, Nat.zero_add] at this
   exact this
 · cases this
end
inductive R where
 | fail
 | ok (σ : St)
 | side (p : Prop) (r : R)
 | br (t : Bool) (r r' : R)
 | any (q : Bool → Prop) (f : Bool → R)
 | row (rows : List (List Cell)) (i : Nat) (f : List Cell → R)
 | byte (s : ByteArray) (i : Nat) (f : UInt8 → R)
 | call (g : Bool) (σ : St) (d : Option Tmp) (f : Nat) (avs : List AV)
 | raw (g : Bool) (σ : St) (o : Oper)
def R.holds (P : Program) : R → (St → Prop) → Prop
 | .fail, _ => False
 | .ok σ, K => K σ
 | .side p r, K => p ∧ r.holds P K
 | .br t r r', K => (t = true → r.holds P K) ∧ (t = false → r'.holds P K)
 | .any q f, K => ∀ b, q b → (f b).holds P K
 | .row rows i f, K => ∃ row, rows[i]? = some row ∧ (f row).holds P K
 | .byte s i f, K => ∃ b, s[i]? = some b ∧ (f b).holds P K
 | .call g σ d f avs, K => y3n P σ d f avs K ∨ (g = true ∧ z3n P σ d f avs K)
 | .raw g σ o, K => opL g P σ o K
def force {α : Type} : List α → Option (List α)
 | [] => some []
 | a :: l => match force l with | some l' => some (a :: l') | none => none
theorem force_eq {α : Type} : ∀ {l l' : List α}, force l = some l' → l' = l
 | [], l', h => by cases h; rfl
 | a :: l, l', h => by
   rw [force] at h
   split at h
   · rename_i l1 h1; cases h; rw [force_eq h1]
   · cases h
def q39 {α : Type} : Nat → List α → Bool
 | 0, _ => true
 | _ + 1, [] => false
 | n + 1, _ :: l => q39 n l
theorem y0q {α : Type} : ∀ {n : Nat} {l : List α}, q39 n l = true → n ≤ l.length
 | 0, l, _ => Nat.zero_le _
 | n + 1, [], h => by cases h
 | n + 1, _ :: l, h => Nat.succ_le_succ (y0q (l := l) h)
def z3s {α : Type} : Nat → List α → Bool
 | 0, [] => true
 | 0, _ :: _ => false
 | _ + 1, [] => false
 | n + 1, _ :: l => z3s n l
theorem y0z {α : Type} : ∀ {n : Nat} {l : List α}, z3s n l = true → l.length = n
 | 0, [], _ => rfl
 | 0, _ :: _, h => by cases h
 | n + 1, [], h => by cases h
 | n + 1, _ :: l, h => congrArg (· + 1) (y0z (l := l) h)
def ikN : IntKind → Nat
 | .i8 => 0 | .i16 => 1 | .i32 => 2 | .i64 => 3 | .u8 => 4 | .u16 => 5 | .u32 => 6 | .u64 => 7
theorem z8w {k k' : IntKind} (h : Nat.beq (ikN k) (ikN k') = true) : k = k' := by
 cases k <;> cases k' <;> first | rfl | cases h
def yq (b : Bool) (r : R) : R := match b with | true => r | false => .fail
theorem zb {P : Program} {b : Bool} {r : R} {K : St → Prop} (h : (yq b r).holds P K) : b = true ∧ r.holds P K := by
 cases b with
 | true => exact ⟨rfl, h⟩
 | false => exact h.elim
def z0s (σ : St) (d : Option Tmp) (av : AV) : R := match σ, d with
 | ⟨t, b⟩, some d => .ok ⟨(d, av) :: t, b⟩
 | σ, none => .ok σ
theorem y1g {P : Program} {σ : St} {d : Option Tmp} {av : AV} {K : St → Prop} : (z0s σ d av).holds P K ↔ K (σ.put d av) := by
 cases σ; cases d <;> rfl
def evR (σ : St) (x : Operand) (f : AV → R) : R := match ev σ x with | some av => f av | none => .fail
def sV (v : Value) : AV := .one (.b (.s v))
def z5k (σ : St) (av : AV) (f : List AC → R) : R := match av with
 | .one (.b (.p row)) => (match force (row.map .b) with | some cs => f cs | none => .fail)
 | .one (.a β off) => (match get σ.b β with | some (.var cs) => (match force ((cs.drop off).map (unk σ.b)) with | some cs => f cs | none => .fail) | _ => .fail)
 | .one (.e β m i k) => (match get σ.b β with
   | some (.arr full _ ep rows) => .side (m = rows.length) (.row rows i fun row => (match y2q full β ep i k (row.drop k) with | some cs => f cs | none => .fail))
   | _ => .fail)
 | _ => .fail
theorem y6m {P : Program} {σ : St} {av : AV} {f : List AC → R} {K : St → Prop} {K' : List AC → Prop} (hf : ∀ cs, (f cs).holds P K → K' cs) (h : (z5k σ av f).holds P K) : y1k σ av K' := by
 unfold z5k at h
 unfold y1k
 split at h
 · split at h
   · rename_i cs hcs; rw [force_eq hcs] at h; exact hf _ h
   · exact h.elim
 · rename_i β off
   dsimp only
   split at h
   · rename_i cs hcs
     split at h
     · rename_i cs' hcs'; rw [force_eq hcs'] at h; rw [hcs]; exact hf _ h
     · exact h.elim
   · exact h.elim
 · rename_i β m i k
   dsimp only
   split at h
   · rename_i full sz ep rows hab
     obtain ⟨h1, row, h2, h3⟩ := h
     rw [hab]
     refine ⟨h1, ?_⟩
     rw [h2]
     dsimp only at h3 ⊢
     split at h3
     · rename_i cs hcs; rw [hcs]; exact hf _ h3
     · exact h3.elim
   · exact h.elim
 · exact h.elim
def q8t (op : BinOp) (k : IntKind) (x y : Int) (f : Value → R) : R := match op with
 | .add => f (.int k (k.wrap (x + y))) | .sub => f (.int k (k.wrap (x - y))) | .mul => f (.int k (k.wrap (x * y)))
 | .eql => f (.bool (x == y)) | .neq => f (.bool (x != y)) | .lss => f (.bool (decide (x < y))) | .leq => f (.bool (decide (x ≤ y)))
 | .gtr => f (.bool (decide (x > y))) | .geq => f (.bool (decide (x ≥ y)))
 | .quo => .side (y ≠ 0) (f (.int k (k.wrap (x.tdiv y)))) | .rem => .side (y ≠ 0) (f (.int k (x.tmod y)))
 | .and => f (.int k (bits .and k x y)) | .or => f (.int k (bits .or k x y)) | .xor => f (.int k (bits .xor k x y))
 | _ => .fail
def zac (op : BinOp) (a b : ByteArray) (f : Value → R) : R := match op with
 | .add => .side (a.size + b.size ≤ 9223372036854775807) (f (.string (a ++ b)))
 | .eql => f (.bool (a.toList == b.toList)) | .neq => f (.bool (!(a.toList == b.toList)))
 | .lss => f (.bool (Op.bytesLess a.toList b.toList)) | .leq => f (.bool (Op.bytesLess a.toList b.toList || (a.toList == b.toList)))
 | .gtr => f (.bool (!(Op.bytesLess a.toList b.toList || (a.toList == b.toList)))) | .geq => f (.bool (!(Op.bytesLess a.toList b.toList)))
 | _ => .fail
def qa3 (op : BinOp) (u v : Value) (f : Value → R) : R := match u, v with
 | .int k x, .int k' y => (match op with
   | .shl => .side (0 ≤ y) (f (.int k (k.wrap (x * 2 ^ (min y.toNat k.bits)))))
   | .shr => .side (0 ≤ y) (f (.int k (x.fdiv (2 ^ (min y.toNat k.bits)))))
   | op => yq (Nat.beq (ikN k) (ikN k')) (q8t op k x y f))
 | .string a, .string b => zac op a b f
 | _, _ => .fail
section
variable {P : Program} {K : St → Prop} {K' : Value → Prop} {f : Value → R}
theorem q7t {op : BinOp} {k : IntKind} {x y : Int} (hf : ∀ v, (f v).holds P K → K' v) (h : (q8t op k x y f).holds P K) : match z9l op k x y with | some r => K' r | none => False := by
 cases op <;> simp only [q8t] at h <;> simp only [z9l] <;> first
  | exact hf _ h
  | exact h.elim
  | (rw [if_neg h.1]; exact hf _ h.2)
theorem y98 {op : BinOp} {a b : ByteArray} (hf : ∀ v, (f v).holds P K → K' v) (h : (zac op a b f).holds P K) : q5s op a b K' := by
 cases op <;> simp only [zac] at h <;> simp only [q5s] <;> first
  | exact hf _ h
  | exact h.elim
  | exact ⟨h.1, hf _ h.2⟩
theorem q8m {op : BinOp} {u v : Value} (hf : ∀ v, (f v).holds P K → K' v) (h : (qa3 op u v f).holds P K) : y9i op u v K' := by
 unfold qa3 at h
 unfold y9i
 split at h
 · dsimp only
   split at h
   · exact ⟨h.1, hf _ h.2⟩
   · exact ⟨h.1, hf _ h.2⟩
   · rename_i h1 h2
     obtain ⟨hk, h'⟩ := zb h
     have hk := z8w hk
     subst hk
     have := q7t hf h'
     split
     · exact absurd rfl h1
     · exact absurd rfl h2
     · rw [if_pos rfl]; exact this
 · exact y98 hf h
 · exact h.elim
end
end Go.Sx
end
section
namespace Go.Sx
open Go.RowKit (Below)
def bR (t : List (Nat × AV)) (b : List (Nat × AB)) : R := match force b with | some b => .ok ⟨t, b⟩ | none => .fail
theorem qx {P : Program} {t : List (Nat × AV)} {b : List (Nat × AB)} {K : St → Prop} (h : (bR t b).holds P K) : K ⟨t, b⟩ := by
 unfold bR at h
 split at h
 · rename_i b' hb; rw [force_eq hb] at h; exact h
 · exact h.elim
def q8e (B : List (Nat × AB)) : List AC → Option (List Cell)
 | [] => some []
 | .b c :: l => (match q8e B l with | some l' => some (c :: l') | none => none)
 | .h γ _ :: l => (match get B γ, q8e B l with | some (.arr _ _ _ rows), some l' => some (.l rows :: l') | _, _ => none)
 | .nil :: l => (match q8e B l with | some l' => some (.l [] :: l') | none => none)
 | .em :: l => (match q8e B l with | some l' => some (.l [] :: l') | none => none)
 | _ => none
theorem q3x {B : List (Nat × AB)} : ∀ {cs : List AC} {l : List Cell}, q8e B cs = some l → l = cs.map (y2i B)
 | [], l, h => by cases h; rfl
 | c :: cs, l, h => by
   cases c <;> rw [q8e] at h <;> first
    | (split at h
       · rename_i l' hl; cases h; rw [q3x hl]; rfl
       · cases h)
    | (split at h
       · rename_i rows l' hg hl; cases h; rw [q3x hl]; simp [y2i, hg]
       · cases h)
    | cases h
def z7w (B : List (Nat × AB)) : List (List AC) → Option (List (List Cell))
 | [] => some []
 | cs :: l => match q8e B cs, z7w B l with | some r, some l' => some (r :: l') | _, _ => none
theorem y5o {B : List (Nat × AB)} : ∀ {rws : List (List AC)} {l : List (List Cell)}, z7w B rws = some l → l = rws.map fun cs => cs.map (y2i B)
 | [], l, h => by cases h; rfl
 | c :: cs, l, h => by
   rw [z7w] at h
   split at h
   · rename_i r l' hr hl; cases h; rw [q3x hr, y5o hl]; rfl
   · cases h
def q7j : List AC → List Nat
 | [] => []
 | .h γ _ :: l => γ :: q7j l
 | _ :: l => q7j l
theorem q3t : ∀ (cs : List AC), q7j cs = cs.filterMap gam
 | [] => rfl
 | c :: cs => by
   have ih := q3t cs
   cases c <;> simp only [q7j, ih] <;> rfl
def q90 (x : Nat) : List Nat → Bool
 | [] => false
 | y :: l => bif Nat.beq x y then true else q90 x l
theorem y2m {x : Nat} : ∀ {l : List Nat}, q90 x l = false → x ∉ l
 | [], _ => by simp
 | y :: l, h => by
   rw [q90] at h
   cases hb : Nat.beq x y with
   | true => rw [hb] at h; cases h
   | false =>
     rw [hb] at h
     have hne : x ≠ y := fun e => by subst e; simp at hb
     have := y2m (l := l) h
     simp [hne, this]
def y91 : List Nat → Bool
 | [] => true
 | x :: l => bif q90 x l then false else y91 l
theorem z6 : ∀ {l : List Nat}, y91 l = true → l.Nodup
 | [], _ => List.nodup_nil
 | x :: l, h => by
   rw [y91] at h
   cases hb : q90 x l with
   | true => rw [hb] at h; cases h
   | false => rw [hb] at h; exact List.nodup_cons.2 ⟨y2m hb, z6 h⟩
def y9b (b : Bool) : Bool := match b with | true => false | false => true
theorem q2x {b : Bool} (h : y9b b = true) : b = false := by cases b <;> first | rfl | cases h
def q5h (sz : Nat) : List (List AC) → Bool
 | [] => true
 | cs :: l => bif z3s sz cs then q5h sz l else false
theorem z4a {sz : Nat} : ∀ {l : List (List AC)}, q5h sz l = true → (l.all fun cs => cs.length == sz) = true
 | [], _ => rfl
 | cs :: l, h => by
   rw [q5h] at h
   cases hb : z3s sz cs with
   | false => rw [hb] at h; cases h
   | true => rw [hb] at h; simp only [List.all_cons, y0z hb, beq_self_eq_true, Bool.true_and]; exact z4a h
def flat (l : List (List AC)) : List AC := l.flatten
def z5p (σ : St) : Nat → List (Nat × Operand) → Option (List (List AC))
 | _, [] => some []
 | i, (j, x) :: ps => bif Nat.beq i j then (match ev σ x, z5p σ (Nat.succ i) ps with
   | some (.one c), some r => some ([c] :: r)
   | some (.agg cs), some r => some (cs :: r)
   | _, _ => none) else none
theorem y2y {σ : St} : ∀ {ps : List (Nat × Operand)} {i : Nat} {r : List (List AC)}, z5p σ i ps = some r → z1o σ i ps = some r
 | [], i, r, h => h
 | (j, x) :: ps, i, r, h => by
   rw [z5p] at h
   by_cases hij : i = j
   · subst hij
     simp only [Nat.beq_refl, cond_true] at h
     rw [z1o, if_pos rfl]
     split at h
     · rename_i c r' h1 h2; cases h; rw [h1, y2y h2]
     · rename_i c r' h1 h2; cases h; rw [h1, y2y h2]
     · cases h
   · rw [beq_false hij] at h; cases h
def y6r (F : TT) (σ : St) (t : Nat) : List AC → List (Nat × Operand) → Option (List AC)
 | cs, [] => some cs
 | cs, (i, x) :: ps => match q8h F t i, ev σ x with
   | some (_, off, n), some (.one c) => (match Nat.beq n 1, q39 (Nat.add off 1) cs, force (putCells cs off [c]) with | true, true, some cs' => y6r F σ t cs' ps | _, _, _ => none)
   | some (_, off, n), some (.agg xs) => (match z3s n xs, q39 (Nat.add off n) cs, force (putCells cs off xs) with | true, true, some cs' => y6r F σ t cs' ps | _, _, _ => none)
   | _, _ => none
def q7n (σ : St) : List Operand → Option (List (Nat × Nat))
 | [] => some []
 | x :: l => match ev σ x, q7n σ l with | some (.one (.a β off)), some r => some ((β, off) :: r) | _, _ => none
theorem q5j {σ : St} : ∀ {l : List Operand} {r : List (Nat × Nat)}, q7n σ l = some r → l.mapM (fun x => match ev σ x with | some (.one (.a β off)) => some (β, off) | _ => none) = some r
 | [], r, h => by cases h; rfl
 | x :: l, r, h => by
   rw [q7n] at h
   split at h
   · rename_i β off r' h1 h2
     cases h
     simp [h1, q5j h2]
   · cases h
def q52 : List AC → Bool
 | [] => true
 | .b (.s _) :: l => q52 l
 | .b _ :: _ => false
 | _ :: l => q52 l
theorem q2l : ∀ (cs : List AC), q52 cs = q2b cs
 | [] => rfl
 | c :: cs => by
   cases c with
   | b c => cases c <;> simp [q52, q2b] <;> exact q2l cs
   | _ => simp [q52, q2b]; exact q2l cs
section
variable {P : Program} {F : TT}
theorem z3t (hF : F = F.map P) {σ : St} {t : Nat} : ∀ {ps : List (Nat × Operand)} {cs r : List AC}, y6r F σ t cs ps = some r → y2b P σ t cs ps = some r
 | [], cs, r, h => h
 | (i, x) :: ps, cs, r, h => by
   rw [y6r] at h
   rw [y2b]
   split at h
   · rename_i off n c h1 h2
     rw [q2i hF h1, h2]
     dsimp only
     split at h
     · rename_i cs' e1 e2 e3
       rw [if_pos ⟨Nat.eq_of_beq_eq_true e1, y0q e2⟩, ← force_eq e3]
       exact z3t hF h
     · cases h
   · rename_i off n xs h1 h2
     rw [q2i hF h1, h2]
     dsimp only
     split at h
     · rename_i cs' e1 e2 e3
       rw [if_pos ⟨y0z e1, y0q e2⟩, ← force_eq e3]
       exact z3t hF h
     · cases h
   · cases h
end
def y8w : Option Operand → St → Option (Option Int)
 | none, _ => some none
 | some x, σ => match ev σ x with | some (.one (.b (.s (.int _ n)))) => some (some n) | _ => none
def q0d {α : Type} (o : Option α) (f : α → R) : R := match o with | some a => f a | none => .fail
theorem yg {P : Program} {K : St → Prop} {α : Type} {o : Option α} {f : α → R} (h : (q0d o f).holds P K) : ∃ a, o = some a ∧ (f a).holds P K := by
 cases o with
 | none => exact h.elim
 | some a => exact ⟨a, rfl, h⟩
def ya7 (F : TT) (σ : St) (t : Nat) (av : AV) (f : Value → R) : R := match av with
 | .one (.b (.l rows)) => q0d (q3n F t) fun _ => f (.int .i64 rows.length)
 | .one .nil => q0d (q3n F t) fun _ => f (.int .i64 0)
 | .one .em => q0d (q3n F t) fun _ => f (.int .i64 0)
 | .one (.h _ n) => q0d (q3n F t) fun _ => f (.int .i64 n)
 | .one (.b (.s (.string s))) => yq (z7l F t) (f (.int .i64 s.size))
 | .one (.q β m i k) => q0d (q3n F t) fun _ => (match get σ.b β with
   | some (.arr _ _ ep rows) => .side (m = ep) (.row rows i fun row => match nth row k with | some (.l rs) => f (.int .i64 rs.length) | _ => .fail)
   | _ => .fail)
 | _ => .fail
def q8n (g : Bool) (F : TT) (σ : St) (o : Oper) (c : Call) : R := match c.callee with
 | .builtin .len => (match c.argTypes.toList, c.args.toList with
   | t :: _, [x] => evR σ x fun av => ya7 F σ t av fun r => z0s σ o.dst (sV r)
   | _, _ => .fail)
 | .builtin .append => (match c.argTypes.toList, c.args.toList, o.dst with
   | [t, tx], [s, x], some d => (match q6f F t, q6f F tx, ev σ s, ev σ x with
     | some (sz, by_), some _, some (.one (.h β n)), some (.one (.h γ m)) => (match get σ.b β, get σ.b γ with
       | some (.arr full0 sz0 ep rows0), some (.arr full sz1 _ rows) =>
         yq (Nat.beq sz0 sz) (yq (Nat.beq sz1 sz) (yq (y9b (Nat.beq β γ)) (.side (n = rows0.length) (.side (m = rows.length) (.side (full0 = full ∨ rows0 = []) (.side (rows0.length + rows.length ≤ 9223372036854775807) (.side ((rows0.length + rows.length) * by_ ≤ 140737488355328)
         (bR ((d, .one (.h β (rows0.length + rows.length))) :: σ.t) (z0f (zp σ.b [γ]) β (.arr full sz (Nat.succ ep) (rows0 ++ rows)))))))))))
       | _, _ => .fail)
     | some (sz, by_), some _, some (.one (.h β n)), some (.one (.b (.l rows))) => (match get σ.b β with
       | some (.arr full0 sz0 ep rows0) => yq (Nat.beq sz0 sz) (.side (n = rows0.length) (.side (∀ row ∈ rows, row.length = sz) (.side (full0 = true → y02 rows) (.side (rows0.length + rows.length ≤ 9223372036854775807) (.side ((rows0.length + rows.length) * by_ ≤ 140737488355328)
         (bR ((d, .one (.h β (rows0.length + rows.length))) :: σ.t) (z0f σ.b β (.arr full0 sz (Nat.succ ep) (rows0 ++ rows)))))))))
       | _ => .fail)
     | some (sz, by_), some _, some (.one .nil), some (.one (.h γ m)) => (match get σ.b d, get σ.b γ with
       | none, some (.arr full sz1 _ rows) => yq (Nat.beq sz1 sz) (yq (y9b (Nat.beq d γ)) (.side (m = rows.length) (.side (rows.length ≤ 9223372036854775807) (.side (rows.length * by_ ≤ 140737488355328) (bR ((d, .one (.h d rows.length)) :: σ.t) (z0f (zp σ.b [γ]) d (.arr full sz 0 rows)))))))
       | _, _ => .fail)
     | some (sz, by_), some _, some (.one .em), some (.one (.h γ m)) => (match get σ.b d, get σ.b γ with
       | none, some (.arr full sz1 _ rows) => yq (Nat.beq sz1 sz) (yq (y9b (Nat.beq d γ)) (.side (m = rows.length) (.side (rows.length ≤ 9223372036854775807) (.side (rows.length * by_ ≤ 140737488355328) (bR ((d, .one (.h d rows.length)) :: σ.t) (z0f (zp σ.b [γ]) d (.arr full sz 0 rows)))))))
       | _, _ => .fail)
     | some (sz, by_), some _, some (.one .em), some (.one (.b (.l rows))) => (match get σ.b d with
       | none => .side (∀ row ∈ rows, row.length = sz) (.side (y02 rows) (.side (rows.length ≤ 9223372036854775807) (.side (rows.length * by_ ≤ 140737488355328) (bR ((d, .one (.h d rows.length)) :: σ.t) (z0f σ.b d (.arr true sz 0 rows))))))
       | _ => .fail)
     | some (sz, by_), some _, some (.one .nil), some (.one (.b (.l rows))) => (match get σ.b d with
       | none => .side (∀ row ∈ rows, row.length = sz) (.side (y02 rows) (.side (rows.length ≤ 9223372036854775807) (.side (rows.length * by_ ≤ 140737488355328) (bR ((d, .one (.h d rows.length)) :: σ.t) (z0f σ.b d (.arr true sz 0 rows))))))
       | _ => .fail)
     | _, _, _, _ => .fail)
   | _, _, _ => .fail)
 | .value x => (match ev σ x, evs σ c.args.toList with
   | some (.one (.cl f caps)), some avs => q0d (force (avs ++ caps.map fun c => .one (.a c.1 c.2))) fun avs => .call g σ o.dst f avs
   | some (.one (.b (.f f caps))), some avs => q0d (force (avs ++ caps.map fun c => .one (.b c))) fun avs => .call g σ o.dst f avs
   | some (.one (.cm f β off)), some avs => .call g σ o.dst f (.one (.a β off) :: avs)
   | some (.one (.b (.m f ag row))), some avs => .call g σ o.dst f (y76 ag row :: avs)
   | _, _ => .fail)
 | .builtin .max => (match c.args.toList with
   | [x, y] => (match ev σ x, ev σ y with | some (.one (.b (.s (.int k a)))), some (.one (.b (.s (.int _ b)))) => z0s σ o.dst (sV (.int k (mx a b))) | _, _ => .fail)
   | [x, y, z, t] => (match ev σ x, ev σ y, ev σ z, ev σ t with | some (.one (.b (.s (.int k a)))), some (.one (.b (.s (.int _ b)))), some (.one (.b (.s (.int _ c)))), some (.one (.b (.s (.int _ d)))) => z0s σ o.dst (sV (.int k (mx (mx (mx a b) c) d))) | _, _, _, _ => .fail)
   | _ => .fail)
 | .builtin .min => (match c.args.toList with
   | [x, y] => (match ev σ x, ev σ y with | some (.one (.b (.s (.int k a)))), some (.one (.b (.s (.int _ b)))) => z0s σ o.dst (sV (.int k (if b < a then b else a))) | _, _ => .fail)
   | _ => .fail)
 | _ => .raw g σ o
def za2 (σ : St) (d : Option Tmp) (cs : List AC) : R := match d with
 | some d => (match get σ.b d with | none => bR ((d, .one (.a d 0)) :: σ.t) (z0f σ.b d (.var cs)) | some _ => .fail)
 | none => .fail
def z73 : AV → Bool | .tup _ => false | _ => true
def y4s (F : TT) (σ : St) (t : Nat) (p x : AV) : R := match y8i F t, p, x with
 | some (_, n), .one (.e β m i k), x => (match get σ.b β with
   | some (.arr full sz ep rows) => yq (z73 x) (yq (z3s n (zj x)) (yq (y91 (q7j (zj x))) (yq (y9b (q90 β (q7j (zj x)))) (.side (m = rows.length) (.row rows i fun row => .side (k + n ≤ row.length) (.side (z6j (wfS σ.b full) (zj x)) (q0d (q8e σ.b (zj x)) fun xs =>
      bR σ.t (z0f (zp σ.b (q7j (zj x))) β (.arr full sz (Nat.succ ep) (rows.set i (putRow row k xs)))))))))))
   | _ => .fail)
 | some (false, 1), .one (.a β off), .one c => (match get σ.b β with | some (.var cs) => yq (q39 (Nat.add off 1) cs) (q0d (force (putCells cs off [c])) fun cs => bR σ.t (z0f σ.b β (.var cs))) | _ => .fail)
 | some (true, n), .one (.a β off), .agg xs => (match get σ.b β with | some (.var cs) => yq (z3s n xs) (yq (q39 (Nat.add off n) cs) (q0d (force (putCells cs off xs)) fun cs => bR σ.t (z0f σ.b β (.var cs)))) | _ => .fail)
 | _, _, _ => .fail
def za8 (F : TT) (σ : St) (t n : Nat) (ps : List (Nat × Operand)) (d : Option Tmp) : R := match d, q6f F t, z5p σ 0 ps with
 | some d, some (sz, _), some rws => (match get σ.b d with
   | none => yq (z3s n rws) (yq (Nat.ble (Nat.mul n sz) 16777216) (yq (q5h sz rws) (yq (y91 (q7j (flat rws))) (yq (y9b (q90 d (q7j (flat rws)))) (.side (z6j (wfS σ.b (q52 (flat rws))) (flat rws)) (q0d (z7w σ.b rws) fun rs =>
     bR ((d, .one (.h d n)) :: σ.t) (z0f (zp σ.b (q7j (flat rws))) d (.arr (q52 (flat rws)) sz 0 rs))))))))
   | some _ => .fail)
 | _, _, _ => .fail
def qa8 (F : TT) (σ : St) (t : Nat) (l c : Operand) (d : Option Tmp) : R := match d, q6f F t, z8a F t, ev σ l, ev σ c with
 | some d, some (sz, by_), some zrow, some (.one (.b (.s (.int _ n)))), some (.one (.b (.s (.int _ n')))) => (match get σ.b d with
   | none => yq (z3s sz zrow) (.side (n = n') (.side (0 ≤ n) (.side (n * by_ ≤ 281474976710656) (.side (n ≤ 9223372036854775807) (bR ((d, .one (.h d n.toNat)) :: σ.t) (z0f σ.b d (.arr true sz 0 (List.replicate n.toNat zrow))))))))
   | some _ => .fail)
 | _, _, _, _, _ => .fail
def opR (g : Bool) (F : TT) (σ : St) (o : Oper) : R := match o.op with
 | .move x => evR σ x fun av => z0s σ o.dst av
 | .assign x => evR σ x fun av => z0s σ o.dst av
 | .pick c x y => (match ev σ c with | some (.one (.b (.s (.bool t)))) => .br t (evR σ x fun av => z0s σ o.dst av) (evR σ y fun av => z0s σ o.dst av) | _ => .fail)
 | .load t x => (match ev σ x, y8i F t with
   | some av, some (ag, n) => z5k σ av fun cs => (match ag with
     | true => yq (q39 n cs) (q0d (force (cs.take n)) fun cs => z0s σ o.dst (.agg cs))
     | false => (match cs with | [] => .fail | c :: _ => z0s σ o.dst (.one c)))
   | _, _ => .fail)
 | .binOp op t x y _ => (match ev σ x, ev σ y with
   | some (.one (.b (.s (.bool a)))), some (.one (.b (.s (.bool b)))) => yq (y9d F t) (match op with | .eql => z0s σ o.dst (sV (.bool (a == b))) | .neq => z0s σ o.dst (sV (.bool (!(a == b)))) | _ => .fail)
   | some (.one (.b (.s u))), some (.one (.b (.s v))) => qa3 op u v fun r => z0s σ o.dst (sV r)
   | some (.one (.b (.l rows))), some (.one .nil) => q0d (q3n F t) fun _ => (match op with
     | .eql => .any (fun b => b = true → rows = []) fun b => z0s σ o.dst (sV (.bool b))
     | .neq => .any (fun b => b = true → rows = []) fun b => z0s σ o.dst (sV (.bool (!b)))
     | _ => .fail)
   | some (.agg cs), some (.agg cs') => q0d (q9d F t) fun ks => q0d (scs cs) fun xs => q0d (scs cs') fun ys => yq (q8p ks xs) (yq (q8p ks ys) (match op with
     | .eql => z0s σ o.dst (sV (.bool (z15 xs ys)))
     | .neq => z0s σ o.dst (sV (.bool (!(z15 xs ys))))
     | _ => .fail))
   | _, _ => .raw g σ o)
 | .unOp op _ x => (match op, ev σ x with
   | .not, some (.one (.b (.s (.bool b)))) => z0s σ o.dst (sV (.bool (!b)))
   | .neg, some (.one (.b (.s (.int k n)))) => z0s σ o.dst (sV (.int k (k.wrap (0 - n))))
   | _, _ => .fail)
 | .convert s d x => (match ev σ x, qae F d with
   | some (.one (.b (.s (.int _ n)))), some k => yq (z9e F s) (z0s σ o.dst (sV (.int k (k.wrap n))))
   | _, _ => .raw g σ o)
 | .fieldAddr s x f => (match ev σ x, y89 F s f with
   | some (.one (.b (.p row))), some off => yq (q39 off row) (q0d (force (row.drop off)) fun row => z0s σ o.dst (.one (.b (.p row))))
   | some (.one (.a β i)), some off => z0s σ o.dst (.one (.a β (i + off)))
   | some (.one (.e β m i k)), some off => z0s σ o.dst (.one (.e β m i (k + off)))
   | _, _ => .fail)
 | .field s x f => (match ev σ x, q8h F s f with
   | some (.agg cs), some (true, off, n) => yq (q39 (Nat.add off n) cs) (q0d (force ((cs.drop off).take n)) fun cs => z0s σ o.dst (.agg cs))
   | some (.agg cs), some (false, off, _) => q0d (nth cs off) fun c => z0s σ o.dst (.one c)
   | _, _ => .fail)
 | .indexAddr t x i => (match ev σ x, ev σ i, q3n F t with
   | some (.one (.b (.l rows))), some (.one (.b (.s (.int _ n)))), some sz => .side (0 ≤ n) (.row rows n.toNat fun row => .side (row.length = sz) (z0s σ o.dst (.one (.b (.p row)))))
   | some (.one (.h β m)), some (.one (.b (.s (.int _ n)))), some sz => (match get σ.b β with
     | some (.arr _ _ _ rows) => .side (m = rows.length) (.side (0 ≤ n) (.row rows n.toNat fun row => .side (row.length = sz) (z0s σ o.dst (.one (.e β m n.toNat 0)))))
     | _ => .fail)
   | _, _, _ => .raw g σ o)
 | .index t x i => (match ev σ x, ev σ i with
   | some (.one (.b (.s (.string s)))), some (.one (.b (.s (.int _ n)))) => yq (z7l F t) (.side (0 ≤ n) (.byte s n.toNat fun b => z0s σ o.dst (sV (.int .u8 b.toNat))))
   | _, _ => .fail)
 | .slice t x lo hi none => (match ev σ x, y8w lo σ, y8w hi σ with
   | some (.one (.b (.s (.string s)))), some l, some h => yq (z7l F t) (.side (0 ≤ l.getD 0) (.side (l.getD 0 ≤ h.getD s.size) (.side (h.getD s.size ≤ s.size) (z0s σ o.dst (sV (.string (s.extract (l.getD 0).toNat (h.getD s.size).toNat)))))))
   | some (.one (.b (.l rows))), some l, some h => q0d (q3n F t) fun sz => .side (l.getD 0 = 0 ∨ ∀ row ∈ rows, row.length = sz) (.side (0 ≤ l.getD 0) (.side (l.getD 0 ≤ h.getD rows.length) (.side (h.getD rows.length ≤ rows.length) (z0s σ o.dst (.one (.b (.l ((rows.take (h.getD rows.length).toNat).drop (l.getD 0).toNat))))))))
   | _, _, _ => .raw g σ o)
 | .extract x i => (match ev σ x with | some (.tup vs) => q0d (nth vs i) fun av => z0s σ o.dst av | _ => .fail)
 | .makeFunc (.func f) first caps => (match first.toList, caps.toList with
   | [x], [] => (match ev σ x with
     | some (.one (.a β off)) => z0s σ o.dst (.one (.cm f β off))
     | some (.one (.b c)) => z0s σ o.dst (.one (.b (.m f false [c])))
     | some (.agg cs) => q0d (y9a cs) fun l => z0s σ o.dst (.one (.b (.m f true l)))
     | _ => .fail)
   | [], _ => q0d (q7n σ caps.toList) fun cs => z0s σ o.dst (.one (.cl f cs))
   | _, _ => .fail)
 | .build t ps => q0d (y6g F t) fun z => q0d (y6r F σ t z ps.toList) fun cs => z0s σ o.dst (.agg cs)
 | .alloc e => (match q89 F e with | some z => yq (z73 z) (za2 σ o.dst (zj z)) | none => .fail)
 | .box _ x => (match ev σ x with | some z => yq (z73 z) (za2 σ o.dst (zj z)) | none => .fail)
 | .store t p x => (match o.dst, ev σ p, ev σ x with
   | none, some pv, some xv => y4s F σ t pv xv
   | _, _, _ => .fail)
 | .buildSlice t n ps => za8 F σ t n ps.toList o.dst
 | .makeSlice t l c => qa8 F σ t l c o.dst
 | .call c => q8n g F σ o c
 | .nilCheck x => evR σ x fun av => (match av with | .one (.b (.p row)) => z0s σ o.dst (.one (.b (.p row))) | .one (.a β off) => z0s σ o.dst (.one (.a β off)) | .one (.e β m i k) => z0s σ o.dst (.one (.e β m i k)) | _ => .fail)
 | _ => .raw g σ o
end Go.Sx
end
