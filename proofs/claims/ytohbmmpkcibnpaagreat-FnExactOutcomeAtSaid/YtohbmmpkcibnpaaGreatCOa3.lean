/- WHAT IS PROVED: parts of the proof of fnExactOutcomeAt_holds: a frame for walks, what each Go function that it reaches answers, and plain lemmas; no condition beyond those that each theorem names. -/
import Derived.Test.YtohbmmpkcibnpaaGreatCOa2
import Derived.WalkKit
import Derived.OrdersHeld
import Derived.DeepKeys
import Derived.Maps.RangeWalk
import Derived.Maps.OwnOps
import Derived.WideKeyEntry
set_option linter.unusedVariables false
set_option linter.unusedSimpArgs false
section
namespace Go.Sx
open Go.RowKit (Below)
structure TI where
 lay : Option (Bool × Nat)
 esz : Option Nat
 esI : Option (Nat × Nat)
 str : Bool
 boo : Bool
 und : Bool
 ik : Option IntKind
 zero : Option AV
 y5r : Option (List AC)
 zrow : Option (List Cell)
 flds : List (Option Nat × Option (Bool × Nat × Nat))
 cmp : Option (List CK)
inductive TT where
 | leaf
 | node (k : Nat) (v : TI) (l r : TT)
def q9q (P : Program) (t : TypeId) : Bool := match P.underlying t with | some .bool => true | _ => false
def ybi (P : Program) (t : TypeId) : Nat := match P.underlying t with | some (.struct fs) => fs.size | _ => 0
def mkF (P : Program) (t : TypeId) : Nat → Nat → List (Option Nat × Option (Bool × Nat × Nat))
 | 0, _ => []
 | n + 1, i => (qa5 P t i, fld P t i) :: mkF P t n (i + 1)
def qaw (P : Program) (t : TypeId) : TI := ⟨lay P t, esz P t, q13 P t, q5b P t, q9q P t, (P.underlying t).isSome, y8l P t, y1l P t, y5r P t, q86 P t, mkF P t (ybi P t) 0, qa4 P t⟩
def TT.map (P : Program) : TT → TT
 | .leaf => .leaf
 | .node k _ l r => .node k (qaw P k) (l.map P) (r.map P)
def TT.find : TT → Nat → Option TI
 | .leaf, _ => none
 | .node k v l r, t => bif Nat.beq k t then some v else bif Nat.blt t k then l.find t else r.find t
theorem TT.z2k {P : Program} : ∀ {F : TT} {t : Nat} {i : TI}, (F.map P).find t = some i → i = qaw P t
 | .leaf, t, i, h => by cases h
 | .node k v l r, t, i, h => by
   rw [TT.map, TT.find] at h
   by_cases hk : k = t
   · subst hk; simp only [Nat.beq_refl, cond_true, Option.some.injEq] at h; exact h.symm
   · rw [beq_false hk] at h
     cases hb : Nat.blt t k with
     | true => rw [hb] at h; exact TT.z2k h
     | false => rw [hb] at h; exact TT.z2k h
def nth {α : Type} : List α → Nat → Option α
 | [], _ => none
 | a :: l, n => bif Nat.beq n 0 then some a else nth l (Nat.pred n)
theorem z2d {α : Type} : ∀ (l : List α) (n : Nat), nth l n = l[n]?
 | [], n => by simp [nth]
 | a :: l, 0 => rfl
 | a :: l, n + 1 => by rw [nth, beq_false (by omega), List.getElem?_cons_succ]; exact z2d l n
theorem q5e {P : Program} {t : Nat} : ∀ {n i k : Nat} {x : Option Nat × Option (Bool × Nat × Nat)}, (mkF P t n i)[k]? = some x → x = (qa5 P t (i + k), fld P t (i + k))
 | 0, i, k, x, h => by simp [mkF] at h
 | n + 1, i, k, x, h => by
   rw [mkF] at h
   cases k with
   | zero => cases h; rfl
   | succ k => rw [List.getElem?_cons_succ] at h; rw [q5e h]; simp only [Nat.add_assoc, Nat.add_comm 1 k]
def q9d (F : TT) (t : Nat) : Option (Bool × Nat) := match F.find t with | some i => i.lay | none => none
def y3q (F : TT) (t : Nat) : Option Nat := match F.find t with | some i => i.esz | none => none
def y6w (F : TT) (t : Nat) : Option (Nat × Nat) := match F.find t with | some i => i.esI | none => none
def z89 (F : TT) (t : Nat) : Bool := match F.find t with | some i => i.str | none => false
def za9 (F : TT) (t : Nat) : Bool := match F.find t with | some i => i.boo | none => false
def qa9 (F : TT) (t : Nat) : Bool := match F.find t with | some i => i.und | none => false
def zbc (F : TT) (t : Nat) : Option IntKind := match F.find t with | some i => i.ik | none => none
def q93 (F : TT) (t : Nat) : Option AV := match F.find t with | some i => i.zero | none => none
def q53 (F : TT) (t : Nat) : Option (List AC) := match F.find t with | some i => i.y5r | none => none
def z94 (F : TT) (t : Nat) : Option (List Cell) := match F.find t with | some i => i.zrow | none => none
def ya9 (F : TT) (t : Nat) : Option (List CK) := match F.find t with | some i => i.cmp | none => none
def y93 (F : TT) (t f : Nat) : Option Nat := match F.find t with | some i => (match nth i.flds f with | some x => x.1 | none => none) | none => none
def z9d (F : TT) (t f : Nat) : Option (Bool × Nat × Nat) := match F.find t with | some i => (match nth i.flds f with | some x => x.2 | none => none) | none => none
section
variable {P : Program} {F : TT}
theorem q1i {α : Type} {F : TT} {t : Nat} {g : TI → Option α} {x : α} (hF : F = F.map P) (h : (match F.find t with | some i => g i | none => none) = some x) : g (qaw P t) = some x := by
 cases hi : F.find t with
 | none => rw [hi] at h; cases h
 | some i => rw [hi] at h; rw [hF] at hi; rw [← TT.z2k hi]; exact h
theorem q6w {F : TT} {t : Nat} {g : TI → Bool} (hF : F = F.map P) (h : (match F.find t with | some i => g i | none => false) = true) : g (qaw P t) = true := by
 cases hi : F.find t with
 | none => rw [hi] at h; cases h
 | some i => rw [hi] at h; rw [hF] at hi; rw [← TT.z2k hi]; exact h
theorem q2h (hF : F = F.map P) {t : Nat} {x : Bool × Nat} (h : q9d F t = some x) : lay P t = some x := q1i (g := TI.lay) hF h
theorem z0h (hF : F = F.map P) {t : Nat} {x : Nat} (h : y3q F t = some x) : esz P t = some x := q1i (g := TI.esz) hF h
theorem q00 (hF : F = F.map P) {t : Nat} {x : Nat × Nat} (h : y6w F t = some x) : q13 P t = some x := q1i (g := TI.esI) hF h
theorem y9d (hF : F = F.map P) {t : Nat} {x : IntKind} (h : zbc F t = some x) : y8l P t = some x := q1i (g := TI.ik) hF h
theorem z6x (hF : F = F.map P) {t : Nat} {x : AV} (h : q93 F t = some x) : y1l P t = some x := q1i (g := TI.zero) hF h
theorem q67 (hF : F = F.map P) {t : Nat} {x : List AC} (h : q53 F t = some x) : y5r P t = some x := q1i (g := TI.y5r) hF h
theorem y6x (hF : F = F.map P) {t : Nat} {x : List Cell} (h : z94 F t = some x) : q86 P t = some x := q1i (g := TI.zrow) hF h
theorem q88 (hF : F = F.map P) {t : Nat} {x : List CK} (h : ya9 F t = some x) : qa4 P t = some x := q1i (g := TI.cmp) hF h
theorem q3q (hF : F = F.map P) {t : Nat} (h : z89 F t = true) : q5b P t = true := q6w (g := TI.str) hF h
theorem y88 (hF : F = F.map P) {t : Nat} (h : za9 F t = true) : P.underlying t = some .bool := by
 have : q9q P t = true := q6w (g := TI.boo) hF h
 unfold q9q at this
 split at this
 · assumption
 · cases this
theorem y89 (hF : F = F.map P) {t : Nat} (h : qa9 F t = true) : ∃ u, P.underlying t = some u := Option.isSome_iff_exists.1 (q6w (g := TI.und) hF h)
theorem z2n (hF : F = F.map P) {t f x : Nat} (h : y93 F t f = some x) : qa5 P t f = some x := by
 have := q1i (g := fun i => match nth i.flds f with | some x => x.1 | none => none) hF h
 split at this
 · rename_i y hy
   rw [z2d] at hy
   rw [q5e hy, Nat.zero_add] at this
   exact this
 · cases this
theorem y2h (hF : F = F.map P) {t f : Nat} {x : Bool × Nat × Nat} (h : z9d F t f = some x) : fld P t f = some x := by
 have := q1i (g := fun i => match nth i.flds f with | some x => x.2 | none => none) hF h
 split at this
 · rename_i y hy
   rw [z2d] at hy
   rw [q5e hy, Nat.zero_add] at this
   exact this
 · cases this
end
inductive R where
 | fail
 | ok (σ : St)
 | side (p : Prop) (r : R)
 | br (t : Bool) (r r' : R)
 | any (q : Bool → Prop) (f : Bool → R)
 | row (rows : List (List Cell)) (i : Nat) (f : List Cell → R)
 | byte (s : ByteArray) (i : Nat) (f : UInt8 → R)
 | call (g : Bool) (σ : St) (d : Option Tmp) (f : Nat) (avs : List AV)
 | raw (g : Bool) (σ : St) (o : Oper)
def R.holds (P : Program) : R → (St → Prop) → Prop
 | .fail, _ => False
 | .ok σ, K => K σ
 | .side p r, K => p ∧ r.holds P K
 | .br t r r', K => (t = true → r.holds P K) ∧ (t = false → r'.holds P K)
 | .any q f, K => ∀ b, q b → (f b).holds P K
 | .row rows i f, K => ∃ row, rows[i]? = some row ∧ (f row).holds P K
 | .byte s i f, K => ∃ b, s[i]? = some b ∧ (f b).holds P K
 | .call g σ d f avs, K => z3q P σ d f avs K ∨ (g = true ∧ q3p P σ d f avs K)
 | .raw g σ o, K => opL g P σ o K
def force {α : Type} : List α → Option (List α)
 | [] => some []
 | a :: l => match force l with | some l' => some (a :: l') | none => none
theorem force_eq {α : Type} : ∀ {l l' : List α}, force l = some l' → l' = l
 | [], l', h => by cases h; rfl
 | a :: l, l', h => by
   rw [force] at h
   split at h
   · rename_i l1 h1; cases h; rw [force_eq h1]
   · cases h
def q3b {α : Type} : Nat → List α → Bool
 | 0, _ => true
 | _ + 1, [] => false
 | n + 1, _ :: l => q3b n l
theorem y0r {α : Type} : ∀ {n : Nat} {l : List α}, q3b n l = true → n ≤ l.length
 | 0, l, _ => Nat.zero_le _
 | n + 1, [], h => by cases h
 | n + 1, _ :: l, h => Nat.succ_le_succ (y0r (l := l) h)
def z3v {α : Type} : Nat → List α → Bool
 | 0, [] => true
 | 0, _ :: _ => false
 | _ + 1, [] => false
 | n + 1, _ :: l => z3v n l
theorem z0x {α : Type} : ∀ {n : Nat} {l : List α}, z3v n l = true → l.length = n
 | 0, [], _ => rfl
 | 0, _ :: _, h => by cases h
 | n + 1, [], h => by cases h
 | n + 1, _ :: l, h => congrArg (· + 1) (z0x (l := l) h)
def ikN : IntKind → Nat
 | .i8 => 0 | .i16 => 1 | .i32 => 2 | .i64 => 3 | .u8 => 4 | .u16 => 5 | .u32 => 6 | .u64 => 7
theorem z9q {k k' : IntKind} (h : Nat.beq (ikN k) (ikN k') = true) : k = k' := by
 cases k <;> cases k' <;> first | rfl | cases h
def zp (b : Bool) (r : R) : R := match b with | true => r | false => .fail
theorem za {P : Program} {b : Bool} {r : R} {K : St → Prop} (h : (zp b r).holds P K) : b = true ∧ r.holds P K := by
 cases b with
 | true => exact ⟨rfl, h⟩
 | false => exact h.elim
def z0p (σ : St) (d : Option Tmp) (av : AV) : R := match σ, d with
 | ⟨t, b⟩, some d => .ok ⟨(d, av) :: t, b⟩
 | σ, none => .ok σ
theorem z1h {P : Program} {σ : St} {d : Option Tmp} {av : AV} {K : St → Prop} : (z0p σ d av).holds P K ↔ K (σ.put d av) := by
 cases σ; cases d <;> rfl
def evR (σ : St) (x : Operand) (f : AV → R) : R := match ev σ x with | some av => f av | none => .fail
def sV (v : Value) : AV := .one (.b (.s v))
def y5v (σ : St) (av : AV) (f : List AC → R) : R := match av with
 | .one (.b (.p row)) => (match force (row.map .b) with | some cs => f cs | none => .fail)
 | .one (.a β off) => (match get σ.b β with | some (.var cs) => (match force ((cs.drop off).map (unk σ.b)) with | some cs => f cs | none => .fail) | _ => .fail)
 | .one (.e β m i k) => (match get σ.b β with
   | some (.arr full _ ep rows) => .side (m = rows.length) (.row rows i fun row => (match y2q full β ep i k (row.drop k) with | some cs => f cs | none => .fail))
   | _ => .fail)
 | _ => .fail
theorem z72 {P : Program} {σ : St} {av : AV} {f : List AC → R} {K : St → Prop} {K' : List AC → Prop} (hf : ∀ cs, (f cs).holds P K → K' cs) (h : (y5v σ av f).holds P K) : z1m σ av K' := by
 unfold y5v at h
 unfold z1m
 split at h
 · split at h
   · rename_i cs hcs; rw [force_eq hcs] at h; exact hf _ h
   · exact h.elim
 · rename_i β off
   dsimp only
   split at h
   · rename_i cs hcs
     split at h
     · rename_i cs' hcs'; rw [force_eq hcs'] at h; rw [hcs]; exact hf _ h
     · exact h.elim
   · exact h.elim
 · rename_i β m i k
   dsimp only
   split at h
   · rename_i full sz ep rows hab
     obtain ⟨h1, row, h2, h3⟩ := h
     rw [hab]
     refine ⟨h1, ?_⟩
     rw [h2]
     dsimp only at h3 ⊢
     split at h3
     · rename_i cs hcs; rw [hcs]; exact hf _ h3
     · exact h3.elim
   · exact h.elim
 · exact h.elim
def q9n (op : BinOp) (k : IntKind) (x y : Int) (f : Value → R) : R := match op with
 | .add => f (.int k (k.wrap (x + y))) | .sub => f (.int k (k.wrap (x - y))) | .mul => f (.int k (k.wrap (x * y)))
 | .eql => f (.bool (x == y)) | .neq => f (.bool (x != y)) | .lss => f (.bool (decide (x < y))) | .leq => f (.bool (decide (x ≤ y)))
 | .gtr => f (.bool (decide (x > y))) | .geq => f (.bool (decide (x ≥ y)))
 | .quo => .side (y ≠ 0) (f (.int k (k.wrap (x.tdiv y)))) | .rem => .side (y ≠ 0) (f (.int k (x.tmod y)))
 | .and => f (.int k (bits .and k x y)) | .or => f (.int k (bits .or k x y)) | .xor => f (.int k (bits .xor k x y))
 | _ => .fail
def qb8 (op : BinOp) (a b : ByteArray) (f : Value → R) : R := match op with
 | .add => .side (a.size + b.size ≤ 9223372036854775807) (f (.string (a ++ b)))
 | .eql => f (.bool (a.toList == b.toList)) | .neq => f (.bool (!(a.toList == b.toList)))
 | .lss => f (.bool (Op.bytesLess a.toList b.toList)) | .leq => f (.bool (Op.bytesLess a.toList b.toList || (a.toList == b.toList)))
 | .gtr => f (.bool (!(Op.bytesLess a.toList b.toList || (a.toList == b.toList)))) | .geq => f (.bool (!(Op.bytesLess a.toList b.toList)))
 | _ => .fail
def qb0 (op : BinOp) (u v : Value) (f : Value → R) : R := match u, v with
 | .int k x, .int k' y => (match op with
   | .shl => .side (0 ≤ y) (f (.int k (k.wrap (x * 2 ^ (min y.toNat k.bits)))))
   | .shr => .side (0 ≤ y) (f (.int k (x.fdiv (2 ^ (min y.toNat k.bits)))))
   | op => zp (Nat.beq (ikN k) (ikN k')) (q9n op k x y f))
 | .string a, .string b => qb8 op a b f
 | _, _ => .fail
section
variable {P : Program} {K : St → Prop} {K' : Value → Prop} {f : Value → R}
theorem z8l {op : BinOp} {k : IntKind} {x y : Int} (hf : ∀ v, (f v).holds P K → K' v) (h : (q9n op k x y f).holds P K) : match qag op k x y with | some r => K' r | none => False := by
 cases op <;> simp only [q9n] at h <;> simp only [qag] <;> first
  | exact hf _ h
  | exact h.elim
  | (rw [if_neg h.1]; exact hf _ h.2)
theorem qa2 {op : BinOp} {a b : ByteArray} (hf : ∀ v, (f v).holds P K → K' v) (h : (qb8 op a b f).holds P K) : q65 op a b K' := by
 cases op <;> simp only [qb8] at h <;> simp only [q65] <;> first
  | exact hf _ h
  | exact h.elim
  | exact ⟨h.1, hf _ h.2⟩
theorem y9h {op : BinOp} {u v : Value} (hf : ∀ v, (f v).holds P K → K' v) (h : (qb0 op u v f).holds P K) : yae op u v K' := by
 unfold qb0 at h
 unfold yae
 split at h
 · dsimp only
   split at h
   · exact ⟨h.1, hf _ h.2⟩
   · exact ⟨h.1, hf _ h.2⟩
   · rename_i h1 h2
     obtain ⟨hk, h'⟩ := za h
     have hk := z9q hk
     subst hk
     have := z8l hf h'
     split
     · exact absurd rfl h1
     · exact absurd rfl h2
     · rw [if_pos rfl]; exact this
 · exact qa2 hf h
 · exact h.elim
end
def bR (t : List (Nat × AV)) (b : List (Nat × AB)) : R := match force b with | some b => .ok ⟨t, b⟩ | none => .fail
theorem qx {P : Program} {t : List (Nat × AV)} {b : List (Nat × AB)} {K : St → Prop} (h : (bR t b).holds P K) : K ⟨t, b⟩ := by
 unfold bR at h
 split at h
 · rename_i b' hb; rw [force_eq hb] at h; exact h
 · exact h.elim
def q99 (B : List (Nat × AB)) : List AC → Option (List Cell)
 | [] => some []
 | .b c :: l => (match q99 B l with | some l' => some (c :: l') | none => none)
 | .h γ _ :: l => (match get B γ, q99 B l with | some (.arr _ _ _ rows), some l' => some (.l rows :: l') | _, _ => none)
 | .nil :: l => (match q99 B l with | some l' => some (.l [] :: l') | none => none)
 | .em :: l => (match q99 B l with | some l' => some (.l [] :: l') | none => none)
 | _ => none
theorem y40 {B : List (Nat × AB)} : ∀ {cs : List AC} {l : List Cell}, q99 B cs = some l → l = cs.map (z2h B)
 | [], l, h => by cases h; rfl
 | c :: cs, l, h => by
   cases c <;> rw [q99] at h <;> first
    | (split at h
       · rename_i l' hl; cases h; rw [y40 hl]; rfl
       · cases h)
    | (split at h
       · rename_i rows l' hg hl; cases h; rw [y40 hl]; simp [z2h, hg]
       · cases h)
    | cases h
def z8o (B : List (Nat × AB)) : List (List AC) → Option (List (List Cell))
 | [] => some []
 | cs :: l => match q99 B cs, z8o B l with | some r, some l' => some (r :: l') | _, _ => none
theorem y61 {B : List (Nat × AB)} : ∀ {rws : List (List AC)} {l : List (List Cell)}, z8o B rws = some l → l = rws.map fun cs => cs.map (z2h B)
 | [], l, h => by cases h; rfl
 | c :: cs, l, h => by
   rw [z8o] at h
   split at h
   · rename_i r l' hr hl; cases h; rw [y40 hr, y61 hl]; rfl
   · cases h
def q87 : List AC → List Nat
 | [] => []
 | .h γ _ :: l => γ :: q87 l
 | _ :: l => q87 l
theorem q3w : ∀ (cs : List AC), q87 cs = cs.filterMap gam
 | [] => rfl
 | c :: cs => by
   have ih := q3w cs
   cases c <;> simp only [q87, ih] <;> rfl
def y9v (x : Nat) : List Nat → Bool
 | [] => false
 | y :: l => bif Nat.beq x y then true else y9v x l
theorem y2l {x : Nat} : ∀ {l : List Nat}, y9v x l = false → x ∉ l
 | [], _ => by simp
 | y :: l, h => by
   rw [y9v] at h
   cases hb : Nat.beq x y with
   | true => rw [hb] at h; cases h
   | false =>
     rw [hb] at h
     have hne : x ≠ y := fun e => by subst e; simp at hb
     have := y2l (l := l) h
     simp [hne, this]
def z9w : List Nat → Bool
 | [] => true
 | x :: l => bif y9v x l then false else z9w l
theorem z6 : ∀ {l : List Nat}, z9w l = true → l.Nodup
 | [], _ => List.nodup_nil
 | x :: l, h => by
   rw [z9w] at h
   cases hb : y9v x l with
   | true => rw [hb] at h; cases h
   | false => rw [hb] at h; exact List.nodup_cons.2 ⟨y2l hb, z6 h⟩
def za6 (b : Bool) : Bool := match b with | true => false | false => true
theorem z2y {b : Bool} (h : za6 b = true) : b = false := by cases b <;> first | rfl | cases h
def y5s (sz : Nat) : List (List AC) → Bool
 | [] => true
 | cs :: l => bif z3v sz cs then y5s sz l else false
theorem q4c {sz : Nat} : ∀ {l : List (List AC)}, y5s sz l = true → (l.all fun cs => cs.length == sz) = true
 | [], _ => rfl
 | cs :: l, h => by
   rw [y5s] at h
   cases hb : z3v sz cs with
   | false => rw [hb] at h; cases h
   | true => rw [hb] at h; simp only [List.all_cons, z0x hb, beq_self_eq_true, Bool.true_and]; exact q4c h
def flat (l : List (List AC)) : List AC := l.flatten
def z62 (σ : St) : Nat → List (Nat × Operand) → Option (List (List AC))
 | _, [] => some []
 | i, (j, x) :: ps => bif Nat.beq i j then (match ev σ x, z62 σ (Nat.succ i) ps with
   | some (.one c), some r => some ([c] :: r)
   | some (.agg cs), some r => some (cs :: r)
   | _, _ => none) else none
theorem z2z {σ : St} : ∀ {ps : List (Nat × Operand)} {i : Nat} {r : List (List AC)}, z62 σ i ps = some r → q1o σ i ps = some r
 | [], i, r, h => h
 | (j, x) :: ps, i, r, h => by
   rw [z62] at h
   by_cases hij : i = j
   · subst hij
     simp only [Nat.beq_refl, cond_true] at h
     rw [q1o, if_pos rfl]
     split at h
     · rename_i c r' h1 h2; cases h; rw [h1, z2z h2]
     · rename_i c r' h1 h2; cases h; rw [h1, z2z h2]
     · cases h
   · rw [beq_false hij] at h; cases h
def z7c (F : TT) (σ : St) (t : Nat) : List AC → List (Nat × Operand) → Option (List AC)
 | cs, [] => some cs
 | cs, (i, x) :: ps => match z9d F t i, ev σ x with
   | some (_, off, n), some (.one c) => (match Nat.beq n 1, q3b (Nat.add off 1) cs, force (putCells cs off [c]) with | true, true, some cs' => z7c F σ t cs' ps | _, _, _ => none)
   | some (_, off, n), some (.agg xs) => (match z3v n xs, q3b (Nat.add off n) cs, force (putCells cs off xs) with | true, true, some cs' => z7c F σ t cs' ps | _, _, _ => none)
   | _, _ => none
def z6b (σ : St) : List Operand → Option (List (Nat × Nat))
 | [] => some []
 | x :: l => match ev σ x, z6b σ l with | some (.one (.a β off)), some r => some ((β, off) :: r) | _, _ => none
theorem q3s {σ : St} : ∀ {l : List Operand}, z6b σ l = l.mapM (fun x => match ev σ x with | some (.one (.a β off)) => some (β, off) | _ => none)
 | [] => rfl
 | x :: l => by
   rw [List.mapM_cons, ← q3s (l := l), z6b]
   split
   · rename_i β off r h1 h2
     simp [h1, h2]
   · rename_i h1
     cases he : z6b σ l with
     | none => split <;> simp
     | some r =>
       split
       · rename_i β off h2; exact absurd he (h1 β off r h2)
       · simp
def z8c (σ : St) : List Operand → Option (List Cell)
 | [] => some []
 | x :: l => match ev σ x, z8c σ l with | some (.one (.b c)), some r => some (c :: r) | _, _ => none
theorem z5v {σ : St} : ∀ {l : List Operand} {r : List Cell}, z8c σ l = some r → l.mapM (fun x => match ev σ x with | some (.one (.b c)) => some c | _ => none) = some r
 | [], r, h => by cases h; rfl
 | x :: l, r, h => by
   rw [z8c] at h
   split at h
   · rename_i c r' h1 h2
     cases h
     simp [h1, z5v h2]
   · cases h
def q5a : List AC → Bool
 | [] => true
 | .b (.s _) :: l => q5a l
 | .b _ :: _ => false
 | _ :: l => q5a l
theorem q2k : ∀ (cs : List AC), q5a cs = z2b cs
 | [] => rfl
 | c :: cs => by
   cases c with
   | b c => cases c <;> simp [q5a, z2b] <;> exact q2k cs
   | _ => simp [q5a, z2b]; exact q2k cs
section
variable {P : Program} {F : TT}
theorem z3w (hF : F = F.map P) {σ : St} {t : Nat} : ∀ {ps : List (Nat × Operand)} {cs r : List AC}, z7c F σ t cs ps = some r → q2a P σ t cs ps = some r
 | [], cs, r, h => h
 | (i, x) :: ps, cs, r, h => by
   rw [z7c] at h
   rw [q2a]
   split at h
   · rename_i off n c h1 h2
     rw [y2h hF h1, h2]
     dsimp only
     split at h
     · rename_i cs' e1 e2 e3
       rw [if_pos ⟨Nat.eq_of_beq_eq_true e1, y0r e2⟩, ← force_eq e3]
       exact z3w hF h
     · cases h
   · rename_i off n xs h1 h2
     rw [y2h hF h1, h2]
     dsimp only
     split at h
     · rename_i cs' e1 e2 e3
       rw [if_pos ⟨z0x e1, y0r e2⟩, ← force_eq e3]
       exact z3w hF h
     · cases h
   · cases h
end
def y9q : Option Operand → St → Option (Option Int)
 | none, _ => some none
 | some x, σ => match ev σ x with | some (.one (.b (.s (.int _ n)))) => some (some n) | _ => none
def y0f {α : Type} (o : Option α) (f : α → R) : R := match o with | some a => f a | none => .fail
theorem zf {P : Program} {K : St → Prop} {α : Type} {o : Option α} {f : α → R} (h : (y0f o f).holds P K) : ∃ a, o = some a ∧ (f a).holds P K := by
 cases o with
 | none => exact h.elim
 | some a => exact ⟨a, rfl, h⟩
def zb5 (F : TT) (σ : St) (t : Nat) (av : AV) (f : Value → R) : R := match av with
 | .one (.b (.l rows)) => y0f (y3q F t) fun _ => f (.int .i64 rows.length)
 | .one .nil => y0f (y3q F t) fun _ => f (.int .i64 0)
 | .one .em => y0f (y3q F t) fun _ => f (.int .i64 0)
 | .one (.h _ n) => y0f (y3q F t) fun _ => f (.int .i64 n)
 | .one (.b (.s (.string s))) => zp (z89 F t) (f (.int .i64 s.size))
 | .one (.q β m i k) => y0f (y3q F t) fun _ => (match get σ.b β with
   | some (.arr _ _ ep rows) => .side (m = ep) (.row rows i fun row => match nth row k with | some (.l rs) => f (.int .i64 rs.length) | _ => .fail)
   | _ => .fail)
 | _ => .fail
def y9i (g : Bool) (F : TT) (σ : St) (o : Oper) (c : Call) : R := match c.callee with
 | .builtin .len => (match c.argTypes.toList, c.args.toList with
   | t :: _, [x] => evR σ x fun av => zb5 F σ t av fun r => z0p σ o.dst (sV r)
   | _, _ => .fail)
 | .builtin .append => (match c.argTypes.toList, c.args.toList, o.dst with
   | [t, tx], [s, x], some d => (match y6w F t, y6w F tx, ev σ s, ev σ x with
     | some (sz, by_), some _, some (.one (.h β n)), some (.one (.h γ m)) => (match get σ.b β, get σ.b γ with
       | some (.arr full0 sz0 ep rows0), some (.arr full sz1 _ rows) =>
         zp (Nat.beq sz0 sz) (zp (Nat.beq sz1 sz) (zp (za6 (Nat.beq β γ)) (.side (n = rows0.length) (.side (m = rows.length) (.side (full0 = full ∨ rows0 = []) (.side (rows0.length + rows.length ≤ 9223372036854775807) (.side ((rows0.length + rows.length) * by_ ≤ 140737488355328)
         (bR ((d, .one (.h β (rows0.length + rows.length))) :: σ.t) (y08 (zm σ.b [γ]) β (.arr full sz (Nat.succ ep) (rows0 ++ rows)))))))))))
       | _, _ => .fail)
     | some (sz, by_), some _, some (.one (.h β n)), some (.one (.b (.l rows))) => (match get σ.b β with
       | some (.arr full0 sz0 ep rows0) => zp (Nat.beq sz0 sz) (.side (n = rows0.length) (.side (∀ row ∈ rows, row.length = sz) (.side (full0 = true → zz rows) (.side (rows0.length + rows.length ≤ 9223372036854775807) (.side ((rows0.length + rows.length) * by_ ≤ 140737488355328)
         (bR ((d, .one (.h β (rows0.length + rows.length))) :: σ.t) (y08 σ.b β (.arr full0 sz (Nat.succ ep) (rows0 ++ rows)))))))))
       | _ => .fail)
     | some (sz, by_), some _, some (.one .nil), some (.one (.h γ m)) => (match get σ.b d, get σ.b γ with
       | none, some (.arr full sz1 _ rows) => zp (Nat.beq sz1 sz) (zp (za6 (Nat.beq d γ)) (.side (m = rows.length) (.side (rows.length ≤ 9223372036854775807) (.side (rows.length * by_ ≤ 140737488355328) (bR ((d, .one (.h d rows.length)) :: σ.t) (y08 (zm σ.b [γ]) d (.arr full sz 0 rows)))))))
       | _, _ => .fail)
     | some (sz, by_), some _, some (.one .em), some (.one (.h γ m)) => (match get σ.b d, get σ.b γ with
       | none, some (.arr full sz1 _ rows) => zp (Nat.beq sz1 sz) (zp (za6 (Nat.beq d γ)) (.side (m = rows.length) (.side (rows.length ≤ 9223372036854775807) (.side (rows.length * by_ ≤ 140737488355328) (bR ((d, .one (.h d rows.length)) :: σ.t) (y08 (zm σ.b [γ]) d (.arr full sz 0 rows)))))))
       | _, _ => .fail)
     | some (sz, by_), some _, some (.one .em), some (.one (.b (.l rows))) => (match get σ.b d with
       | none => .side (∀ row ∈ rows, row.length = sz) (.side (zz rows) (.side (rows.length ≤ 9223372036854775807) (.side (rows.length * by_ ≤ 140737488355328) (bR ((d, .one (.h d rows.length)) :: σ.t) (y08 σ.b d (.arr true sz 0 rows))))))
       | _ => .fail)
     | some (sz, by_), some _, some (.one .nil), some (.one (.b (.l rows))) => (match get σ.b d with
       | none => .side (∀ row ∈ rows, row.length = sz) (.side (zz rows) (.side (rows.length ≤ 9223372036854775807) (.side (rows.length * by_ ≤ 140737488355328) (bR ((d, .one (.h d rows.length)) :: σ.t) (y08 σ.b d (.arr true sz 0 rows))))))
       | _ => .fail)
     | _, _, _, _ => .fail)
   | _, _, _ => .fail)
 | .value x => (match ev σ x, evs σ c.args.toList with
   | some (.one (.cl f caps)), some avs => y0f (force (avs ++ caps.map fun c => .one (.a c.1 c.2))) fun avs => .call g σ o.dst f avs
   | some (.one (.b (.f f caps))), some avs => y0f (force (avs ++ caps.map fun c => .one (.b c))) fun avs => .call g σ o.dst f avs
   | some (.one (.cm f β off)), some avs => .call g σ o.dst f (.one (.a β off) :: avs)
   | some (.one (.b (.m f ag row))), some avs => .call g σ o.dst f (y7r ag row :: avs)
   | _, _ => .fail)
 | .builtin .max => (match c.args.toList with
   | [x, y] => (match ev σ x, ev σ y with | some (.one (.b (.s (.int k a)))), some (.one (.b (.s (.int _ b)))) => z0p σ o.dst (sV (.int k (mx a b))) | _, _ => .fail)
   | [x, y, z, t] => (match ev σ x, ev σ y, ev σ z, ev σ t with | some (.one (.b (.s (.int k a)))), some (.one (.b (.s (.int _ b)))), some (.one (.b (.s (.int _ c)))), some (.one (.b (.s (.int _ d)))) => z0p σ o.dst (sV (.int k (mx (mx (mx a b) c) d))) | _, _, _, _ => .fail)
   | _ => .fail)
 | .builtin .min => (match c.args.toList with
   | [x, y] => (match ev σ x, ev σ y with | some (.one (.b (.s (.int k a)))), some (.one (.b (.s (.int _ b)))) => z0p σ o.dst (sV (.int k (if b < a then b else a))) | _, _ => .fail)
   | _ => .fail)
 | _ => .raw g σ o
def yay (σ : St) (d : Option Tmp) (cs : List AC) : R := match d with
 | some d => (match get σ.b d with | none => bR ((d, .one (.a d 0)) :: σ.t) (y08 σ.b d (.var cs)) | some _ => .fail)
 | none => .fail
def q7n : AV → Bool | .tup _ => false | _ => true
def q4x (F : TT) (σ : St) (t : Nat) (p x : AV) : R := match q9d F t, p, x with
 | some (_, n), .one (.e β m i k), x => (match get σ.b β with
   | some (.arr full sz ep rows) => zp (q7n x) (zp (z3v n (zh x)) (zp (z9w (q87 (zh x))) (zp (za6 (y9v β (q87 (zh x)))) (.side (m = rows.length) (.row rows i fun row => .side (k + n ≤ row.length) (.side (z6z (wfS σ.b full) (zh x)) (y0f (q99 σ.b (zh x)) fun xs =>
      bR σ.t (y08 (zm σ.b (q87 (zh x))) β (.arr full sz (Nat.succ ep) (rows.set i (putRow row k xs)))))))))))
   | _ => .fail)
 | some (false, 1), .one (.a β off), .one c => (match get σ.b β with | some (.var cs) => zp (q3b (Nat.add off 1) cs) (y0f (force (putCells cs off [c])) fun cs => bR σ.t (y08 σ.b β (.var cs))) | _ => .fail)
 | some (true, n), .one (.a β off), .agg xs => (match get σ.b β with | some (.var cs) => zp (z3v n xs) (zp (q3b (Nat.add off n) cs) (y0f (force (putCells cs off xs)) fun cs => bR σ.t (y08 σ.b β (.var cs)))) | _ => .fail)
 | _, _, _ => .fail
def qb5 (F : TT) (σ : St) (t n : Nat) (ps : List (Nat × Operand)) (d : Option Tmp) : R := match d, y6w F t, z62 σ 0 ps with
 | some d, some (sz, _), some rws => (match get σ.b d with
   | none => zp (z3v n rws) (zp (Nat.ble (Nat.mul n sz) 16777216) (zp (y5s sz rws) (zp (z9w (q87 (flat rws))) (zp (za6 (y9v d (q87 (flat rws)))) (.side (z6z (wfS σ.b (q5a (flat rws))) (flat rws)) (y0f (z8o σ.b rws) fun rs =>
     bR ((d, .one (.h d n)) :: σ.t) (y08 (zm σ.b (q87 (flat rws))) d (.arr (q5a (flat rws)) sz 0 rs))))))))
   | some _ => .fail)
 | _, _, _ => .fail
def yb6 (F : TT) (σ : St) (t : Nat) (l c : Operand) (d : Option Tmp) : R := match d, y6w F t, z94 F t, ev σ l, ev σ c with
 | some d, some (sz, by_), some zrow, some (.one (.b (.s (.int _ n)))), some (.one (.b (.s (.int _ n')))) => (match get σ.b d with
   | none => zp (z3v sz zrow) (.side (n = n') (.side (0 ≤ n) (.side (n * by_ ≤ 281474976710656) (.side (n ≤ 9223372036854775807) (bR ((d, .one (.h d n.toNat)) :: σ.t) (y08 σ.b d (.arr true sz 0 (List.replicate n.toNat zrow))))))))
   | some _ => .fail)
 | _, _, _, _, _ => .fail
def opR (g : Bool) (F : TT) (σ : St) (o : Oper) : R := match o.op with
 | .move x => evR σ x fun av => z0p σ o.dst av
 | .assign x => evR σ x fun av => z0p σ o.dst av
 | .pick c x y => (match ev σ c with | some (.one (.b (.s (.bool t)))) => .br t (evR σ x fun av => z0p σ o.dst av) (evR σ y fun av => z0p σ o.dst av) | _ => .fail)
 | .load t x => (match ev σ x, q9d F t with
   | some av, some (ag, n) => y5v σ av fun cs => (match ag with
     | true => zp (q3b n cs) (y0f (force (cs.take n)) fun cs => z0p σ o.dst (.agg cs))
     | false => (match cs with | [] => .fail | c :: _ => z0p σ o.dst (.one c)))
   | _, _ => .fail)
 | .binOp op t x y _ => (match ev σ x, ev σ y with
   | some (.one (.b (.s (.bool a)))), some (.one (.b (.s (.bool b)))) => zp (za9 F t) (match op with | .eql => z0p σ o.dst (sV (.bool (a == b))) | .neq => z0p σ o.dst (sV (.bool (!(a == b)))) | _ => .fail)
   | some (.one (.b (.s u))), some (.one (.b (.s v))) => qb0 op u v fun r => z0p σ o.dst (sV r)
   | some (.one (.b (.l rows))), some (.one .nil) => y0f (y3q F t) fun _ => (match op with
     | .eql => .any (fun b => b = true → rows = []) fun b => z0p σ o.dst (sV (.bool b))
     | .neq => .any (fun b => b = true → rows = []) fun b => z0p σ o.dst (sV (.bool (!b)))
     | _ => .fail)
   | some (.agg cs), some (.agg cs') => y0f (ya9 F t) fun ks => y0f (scs cs) fun xs => y0f (scs cs') fun ys => zp (z9l ks xs) (zp (z9l ks ys) (match op with
     | .eql => z0p σ o.dst (sV (.bool (q0w xs ys)))
     | .neq => z0p σ o.dst (sV (.bool (!(q0w xs ys))))
     | _ => .fail))
   | _, _ => .raw g σ o)
 | .unOp op _ x => (match op, ev σ x with
   | .not, some (.one (.b (.s (.bool b)))) => z0p σ o.dst (sV (.bool (!b)))
   | .neg, some (.one (.b (.s (.int k n)))) => z0p σ o.dst (sV (.int k (k.wrap (0 - n))))
   | _, _ => .fail)
 | .convert s d x => (match ev σ x, zbc F d with
   | some (.one (.b (.s (.int _ n)))), some k => zp (qa9 F s) (z0p σ o.dst (sV (.int k (k.wrap n))))
   | _, _ => .raw g σ o)
 | .fieldAddr s x f => (match ev σ x, y93 F s f with
   | some (.one (.b (.p row))), some off => zp (q3b off row) (y0f (force (row.drop off)) fun row => z0p σ o.dst (.one (.b (.p row))))
   | some (.one (.a β i)), some off => z0p σ o.dst (.one (.a β (i + off)))
   | some (.one (.e β m i k)), some off => z0p σ o.dst (.one (.e β m i (k + off)))
   | _, _ => .fail)
 | .field s x f => (match ev σ x, z9d F s f with
   | some (.agg cs), some (true, off, n) => zp (q3b (Nat.add off n) cs) (y0f (force ((cs.drop off).take n)) fun cs => z0p σ o.dst (.agg cs))
   | some (.agg cs), some (false, off, _) => y0f (nth cs off) fun c => z0p σ o.dst (.one c)
   | _, _ => .fail)
 | .indexAddr t x i => (match ev σ x, ev σ i, y3q F t with
   | some (.one (.b (.l rows))), some (.one (.b (.s (.int _ n)))), some sz => .side (0 ≤ n) (.row rows n.toNat fun row => .side (row.length = sz) (z0p σ o.dst (.one (.b (.p row)))))
   | some (.one (.h β m)), some (.one (.b (.s (.int _ n)))), some sz => (match get σ.b β with
     | some (.arr _ _ _ rows) => .side (m = rows.length) (.side (0 ≤ n) (.row rows n.toNat fun row => .side (row.length = sz) (z0p σ o.dst (.one (.e β m n.toNat 0)))))
     | _ => .fail)
   | _, _, _ => .raw g σ o)
 | .index t x i => (match ev σ x, ev σ i with
   | some (.one (.b (.s (.string s)))), some (.one (.b (.s (.int _ n)))) => zp (z89 F t) (.side (0 ≤ n) (.byte s n.toNat fun b => z0p σ o.dst (sV (.int .u8 b.toNat))))
   | _, _ => .fail)
 | .slice t x lo hi none => (match ev σ x, y9q lo σ, y9q hi σ with
   | some (.one (.b (.s (.string s)))), some l, some h => zp (z89 F t) (.side (0 ≤ l.getD 0) (.side (l.getD 0 ≤ h.getD s.size) (.side (h.getD s.size ≤ s.size) (z0p σ o.dst (sV (.string (s.extract (l.getD 0).toNat (h.getD s.size).toNat)))))))
   | some (.one (.b (.l rows))), some l, some h => y0f (y3q F t) fun sz => .side (l.getD 0 = 0 ∨ ∀ row ∈ rows, row.length = sz) (.side (0 ≤ l.getD 0) (.side (l.getD 0 ≤ h.getD rows.length) (.side (h.getD rows.length ≤ rows.length) (z0p σ o.dst (.one (.b (.l ((rows.take (h.getD rows.length).toNat).drop (l.getD 0).toNat))))))))
   | _, _, _ => .raw g σ o)
 | .extract x i => (match ev σ x with | some (.tup vs) => y0f (nth vs i) fun av => z0p σ o.dst av | _ => .fail)
 | .makeFunc (.func f) first caps => (match first.toList, caps.toList with
   | [x], [] => (match ev σ x with
     | some (.one (.a β off)) => z0p σ o.dst (.one (.cm f β off))
     | some (.one (.b c)) => z0p σ o.dst (.one (.b (.m f false [c])))
     | some (.agg cs) => y0f (ya4 cs) fun l => z0p σ o.dst (.one (.b (.m f true l)))
     | _ => .fail)
   | [], _ => (match z6b σ caps.toList with | some cs => z0p σ o.dst (.one (.cl f cs)) | none => y0f (z8c σ caps.toList) fun cs => z0p σ o.dst (.one (.b (.f f cs))))
   | _, _ => .fail)
 | .build t ps => (match q53 F t with
   | some z => y0f (z7c F σ t z ps.toList) fun cs => z0p σ o.dst (.agg cs)
   | none => .raw g σ o)
 | .alloc e => (match q93 F e with | some z => zp (q7n z) (yay σ o.dst (zh z)) | none => .fail)
 | .box _ x => (match ev σ x with | some z => zp (q7n z) (yay σ o.dst (zh z)) | none => .fail)
 | .store t p x => (match o.dst, ev σ p, ev σ x with
   | none, some pv, some xv => q4x F σ t pv xv
   | _, _, _ => .fail)
 | .buildSlice t n ps => qb5 F σ t n ps.toList o.dst
 | .makeSlice t l c => yb6 F σ t l c o.dst
 | .call c => y9i g F σ o c
 | .nilCheck x => evR σ x fun av => (match av with | .one (.b (.p row)) => z0p σ o.dst (.one (.b (.p row))) | .one (.a β off) => z0p σ o.dst (.one (.a β off)) | .one (.e β m i k) => z0p σ o.dst (.one (.e β m i k)) | _ => .fail)
 | _ => .raw g σ o
end Go.Sx
end
