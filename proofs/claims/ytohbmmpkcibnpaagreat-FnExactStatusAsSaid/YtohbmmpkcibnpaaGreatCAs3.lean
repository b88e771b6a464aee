/- WHAT IS PROVED: parts of the proof of fnExactStatusAs_holds: a frame for walks, what each Go function that it reaches answers, and plain lemmas; no condition beyond those that each theorem names. -/
import Derived.Test.YtohbmmpkcibnpaaGreatCAs2
import Derived.WalkKit
import Derived.OrdersHeld
import Derived.DeepKeys
import Derived.Maps.RangeWalk
import Derived.Maps.OwnOps
import Derived.WideKeyEntry
set_option linter.unusedVariables false
set_option linter.unusedSimpArgs false
section
namespace Go.Sx
open Go.RowKit (Below)
structure TI where
 lay : Option (Bool × Nat)
 esz : Option Nat
 esI : Option (Nat × Nat)
 str : Bool
 boo : Bool
 und : Bool
 ik : Option IntKind
 zero : Option AV
 q5v : Option (List AC)
 zrow : Option (List Cell)
 flds : List (Option Nat × Option (Bool × Nat × Nat))
 cmp : Option (List CK)
inductive TT where
 | leaf
 | node (k : Nat) (v : TI) (l r : TT)
def y9k (P : Program) (t : TypeId) : Bool := match P.underlying t with | some .bool => true | _ => false
def yba (P : Program) (t : TypeId) : Nat := match P.underlying t with | some (.struct fs) => fs.size | _ => 0
def mkF (P : Program) (t : TypeId) : Nat → Nat → List (Option Nat × Option (Bool × Nat × Nat))
 | 0, _ => []
 | n + 1, i => (y9y P t i, fld P t i) :: mkF P t n (i + 1)
def qap (P : Program) (t : TypeId) : TI := ⟨lay P t, esz P t, q1b P t, z5h P t, y9k P t, (P.underlying t).isSome, y8f P t, z1r P t, q5v P t, q81 P t, mkF P t (yba P t) 0, ya8 P t⟩
def TT.map (P : Program) : TT → TT
 | .leaf => .leaf
 | .node k _ l r => .node k (qap P k) (l.map P) (r.map P)
def TT.find : TT → Nat → Option TI
 | .leaf, _ => none
 | .node k v l r, t => bif Nat.beq k t then some v else bif Nat.blt t k then l.find t else r.find t
theorem TT.y2q {P : Program} : ∀ {F : TT} {t : Nat} {i : TI}, (F.map P).find t = some i → i = qap P t
 | .leaf, t, i, h => by cases h
 | .node k v l r, t, i, h => by
   rw [TT.map, TT.find] at h
   by_cases hk : k = t
   · subst hk; simp only [Nat.beq_refl, cond_true, Option.some.injEq] at h; exact h.symm
   · rw [beq_false hk] at h
     cases hb : Nat.blt t k with
     | true => rw [hb] at h; exact TT.y2q h
     | false => rw [hb] at h; exact TT.y2q h
def nth {α : Type} : List α → Nat → Option α
 | [], _ => none
 | a :: l, n => bif Nat.beq n 0 then some a else nth l (Nat.pred n)
theorem y23 {α : Type} : ∀ (l : List α) (n : Nat), nth l n = l[n]?
 | [], n => by simp [nth]
 | a :: l, 0 => rfl
 | a :: l, n + 1 => by rw [nth, beq_false (by omega), List.getElem?_cons_succ]; exact y23 l n
theorem q5k {P : Program} {t : Nat} : ∀ {n i k : Nat} {x : Option Nat × Option (Bool × Nat × Nat)}, (mkF P t n i)[k]? = some x → x = (y9y P t (i + k), fld P t (i + k))
 | 0, i, k, x, h => by simp [mkF] at h
 | n + 1, i, k, x, h => by
   rw [mkF] at h
   cases k with
   | zero => cases h; rfl
   | succ k => rw [List.getElem?_cons_succ] at h; rw [q5k h]; simp only [Nat.add_assoc, Nat.add_comm 1 k]
def y96 (F : TT) (t : Nat) : Option (Bool × Nat) := match F.find t with | some i => i.lay | none => none
def y3u (F : TT) (t : Nat) : Option Nat := match F.find t with | some i => i.esz | none => none
def q6x (F : TT) (t : Nat) : Option (Nat × Nat) := match F.find t with | some i => i.esI | none => none
def y84 (F : TT) (t : Nat) : Bool := match F.find t with | some i => i.str | none => false
def za2 (F : TT) (t : Nat) : Bool := match F.find t with | some i => i.boo | none => false
def qa2 (F : TT) (t : Nat) : Bool := match F.find t with | some i => i.und | none => false
def yb4 (F : TT) (t : Nat) : Option IntKind := match F.find t with | some i => i.ik | none => none
def y8v (F : TT) (t : Nat) : Option AV := match F.find t with | some i => i.zero | none => none
def q59 (F : TT) (t : Nat) : Option (List AC) := match F.find t with | some i => i.q5v | none => none
def q8v (F : TT) (t : Nat) : Option (List Cell) := match F.find t with | some i => i.zrow | none => none
def ya2 (F : TT) (t : Nat) : Option (List CK) := match F.find t with | some i => i.cmp | none => none
def z8v (F : TT) (t f : Nat) : Option Nat := match F.find t with | some i => (match nth i.flds f with | some x => x.1 | none => none) | none => none
def q95 (F : TT) (t f : Nat) : Option (Bool × Nat × Nat) := match F.find t with | some i => (match nth i.flds f with | some x => x.2 | none => none) | none => none
section
variable {P : Program} {F : TT}
theorem q1o {α : Type} {F : TT} {t : Nat} {g : TI → Option α} {x : α} (hF : F = F.map P) (h : (match F.find t with | some i => g i | none => none) = some x) : g (qap P t) = some x := by
 cases hi : F.find t with
 | none => rw [hi] at h; cases h
 | some i => rw [hi] at h; rw [hF] at hi; rw [← TT.y2q hi]; exact h
theorem z6y {F : TT} {t : Nat} {g : TI → Bool} (hF : F = F.map P) (h : (match F.find t with | some i => g i | none => false) = true) : g (qap P t) = true := by
 cases hi : F.find t with
 | none => rw [hi] at h; cases h
 | some i => rw [hi] at h; rw [hF] at hi; rw [← TT.y2q hi]; exact h
theorem y2o (hF : F = F.map P) {t : Nat} {x : Bool × Nat} (h : y96 F t = some x) : lay P t = some x := q1o (g := TI.lay) hF h
theorem z0m (hF : F = F.map P) {t : Nat} {x : Nat} (h : y3u F t = some x) : esz P t = some x := q1o (g := TI.esz) hF h
theorem y01 (hF : F = F.map P) {t : Nat} {x : Nat × Nat} (h : q6x F t = some x) : q1b P t = some x := q1o (g := TI.esI) hF h
theorem z96 (hF : F = F.map P) {t : Nat} {x : IntKind} (h : yb4 F t = some x) : y8f P t = some x := q1o (g := TI.ik) hF h
theorem y6y (hF : F = F.map P) {t : Nat} {x : AV} (h : y8v F t = some x) : z1r P t = some x := q1o (g := TI.zero) hF h
theorem q6b (hF : F = F.map P) {t : Nat} {x : List AC} (h : q59 F t = some x) : q5v P t = some x := q1o (g := TI.q5v) hF h
theorem q6y (hF : F = F.map P) {t : Nat} {x : List Cell} (h : q8v F t = some x) : q81 P t = some x := q1o (g := TI.zrow) hF h
theorem q83 (hF : F = F.map P) {t : Nat} {x : List CK} (h : ya2 F t = some x) : ya8 P t = some x := q1o (g := TI.cmp) hF h
theorem q3u (hF : F = F.map P) {t : Nat} (h : y84 F t = true) : z5h P t = true := z6y (g := TI.str) hF h
theorem y83 (hF : F = F.map P) {t : Nat} (h : za2 F t = true) : P.underlying t = some .bool := by
 have : y9k P t = true := z6y (g := TI.boo) hF h
 unfold y9k at this
 split at this
 · assumption
 · cases this
theorem q84 (hF : F = F.map P) {t : Nat} (h : qa2 F t = true) : ∃ u, P.underlying t = some u := Option.isSome_iff_exists.1 (z6y (g := TI.und) hF h)
theorem z2t (hF : F = F.map P) {t f x : Nat} (h : z8v F t f = some x) : y9y P t f = some x := by
 have := q1o (g := fun i => match nth i.flds f with | some x => x.1 | none => none) hF h
 split at this
 · rename_i y hy
   rw [y23] at hy
   rw [q5k hy, Nat.zero_add] at this
   exact this
 · cases this
theorem z2o (hF : F = F.map P) {t f : Nat} {x : Bool × Nat × Nat} (h : q95 F t f = some x) : fld P t f = some x := by
 have := q1o (g := fun i => match nth i.flds f with | some x => x.2 | none => none) hF h
 split at this
 · rename_i y hy
   rw [y23] at hy
   rw [q5k hy, Nat.zero_add] at this
   exact this
 · cases this
end
inductive R where
 | fail
 | ok (σ : St)
 | side (p : Prop) (r : R)
 | br (t : Bool) (r r' : R)
 | any (q : Bool → Prop) (f : Bool → R)
 | row (rows : List (List Cell)) (i : Nat) (f : List Cell → R)
 | byte (s : ByteArray) (i : Nat) (f : UInt8 → R)
 | call (g : Bool) (σ : St) (d : Option Tmp) (f : Nat) (avs : List AV)
 | raw (g : Bool) (σ : St) (o : Oper)
def R.holds (P : Program) : R → (St → Prop) → Prop
 | .fail, _ => False
 | .ok σ, K => K σ
 | .side p r, K => p ∧ r.holds P K
 | .br t r r', K => (t = true → r.holds P K) ∧ (t = false → r'.holds P K)
 | .any q f, K => ∀ b, q b → (f b).holds P K
 | .row rows i f, K => ∃ row, rows[i]? = some row ∧ (f row).holds P K
 | .byte s i f, K => ∃ b, s[i]? = some b ∧ (f b).holds P K
 | .call g σ d f avs, K => z3u P σ d f avs K ∨ (g = true ∧ q3t P σ d f avs K)
 | .raw g σ o, K => opL g P σ o K
def force {α : Type} : List α → Option (List α)
 | [] => some []
 | a :: l => match force l with | some l' => some (a :: l') | none => none
theorem force_eq {α : Type} : ∀ {l l' : List α}, force l = some l' → l' = l
 | [], l', h => by cases h; rfl
 | a :: l, l', h => by
   rw [force] at h
   split at h
   · rename_i l1 h1; cases h; rw [force_eq h1]
   · cases h
def y3f {α : Type} : Nat → List α → Bool
 | 0, _ => true
 | _ + 1, [] => false
 | n + 1, _ :: l => y3f n l
theorem q0w {α : Type} : ∀ {n : Nat} {l : List α}, y3f n l = true → n ≤ l.length
 | 0, l, _ => Nat.zero_le _
 | n + 1, [], h => by cases h
 | n + 1, _ :: l, h => Nat.succ_le_succ (q0w (l := l) h)
def q3y {α : Type} : Nat → List α → Bool
 | 0, [] => true
 | 0, _ :: _ => false
 | _ + 1, [] => false
 | n + 1, _ :: l => q3y n l
theorem y15 {α : Type} : ∀ {n : Nat} {l : List α}, q3y n l = true → l.length = n
 | 0, [], _ => rfl
 | 0, _ :: _, h => by cases h
 | n + 1, [], h => by cases h
 | n + 1, _ :: l, h => congrArg (· + 1) (y15 (l := l) h)
def ikN : IntKind → Nat
 | .i8 => 0 | .i16 => 1 | .i32 => 2 | .i64 => 3 | .u8 => 4 | .u16 => 5 | .u32 => 6 | .u64 => 7
theorem q9j {k k' : IntKind} (h : Nat.beq (ikN k) (ikN k') = true) : k = k' := by
 cases k <;> cases k' <;> first | rfl | cases h
def zr (b : Bool) (r : R) : R := match b with | true => r | false => .fail
theorem yb {P : Program} {b : Bool} {r : R} {K : St → Prop} (h : (zr b r).holds P K) : b = true ∧ r.holds P K := by
 cases b with
 | true => exact ⟨rfl, h⟩
 | false => exact h.elim
def z0u (σ : St) (d : Option Tmp) (av : AV) : R := match σ, d with
 | ⟨t, b⟩, some d => .ok ⟨(d, av) :: t, b⟩
 | σ, none => .ok σ
theorem z1n {P : Program} {σ : St} {d : Option Tmp} {av : AV} {K : St → Prop} : (z0u σ d av).holds P K ↔ K (σ.put d av) := by
 cases σ; cases d <;> rfl
def evR (σ : St) (x : Operand) (f : AV → R) : R := match ev σ x with | some av => f av | none => .fail
def sV (v : Value) : AV := .one (.b (.s v))
def q5z (σ : St) (av : AV) (f : List AC → R) : R := match av with
 | .one (.b (.p row)) => (match force (row.map .b) with | some cs => f cs | none => .fail)
 | .one (.a β off) => (match get σ.b β with | some (.var cs) => (match force ((cs.drop off).map (unk σ.b)) with | some cs => f cs | none => .fail) | _ => .fail)
 | .one (.e β m i k) => (match get σ.b β with
   | some (.arr full _ ep rows) => .side (m = rows.length) (.row rows i fun row => (match q2v full β ep i k (row.drop k) with | some cs => f cs | none => .fail))
   | _ => .fail)
 | _ => .fail
theorem q73 {P : Program} {σ : St} {av : AV} {f : List AC → R} {K : St → Prop} {K' : List AC → Prop} (hf : ∀ cs, (f cs).holds P K → K' cs) (h : (q5z σ av f).holds P K) : q1r σ av K' := by
 unfold q5z at h
 unfold q1r
 split at h
 · split at h
   · rename_i cs hcs; rw [force_eq hcs] at h; exact hf _ h
   · exact h.elim
 · rename_i β off
   dsimp only
   split at h
   · rename_i cs hcs
     split at h
     · rename_i cs' hcs'; rw [force_eq hcs'] at h; rw [hcs]; exact hf _ h
     · exact h.elim
   · exact h.elim
 · rename_i β m i k
   dsimp only
   split at h
   · rename_i full sz ep rows hab
     obtain ⟨h1, row, h2, h3⟩ := h
     rw [hab]
     refine ⟨h1, ?_⟩
     rw [h2]
     dsimp only at h3 ⊢
     split at h3
     · rename_i cs hcs; rw [hcs]; exact hf _ h3
     · exact h3.elim
   · exact h.elim
 · exact h.elim
def y9h (op : BinOp) (k : IntKind) (x y : Int) (f : Value → R) : R := match op with
 | .add => f (.int k (k.wrap (x + y))) | .sub => f (.int k (k.wrap (x - y))) | .mul => f (.int k (k.wrap (x * y)))
 | .eql => f (.bool (x == y)) | .neq => f (.bool (x != y)) | .lss => f (.bool (decide (x < y))) | .leq => f (.bool (decide (x ≤ y)))
 | .gtr => f (.bool (decide (x > y))) | .geq => f (.bool (decide (x ≥ y)))
 | .quo => .side (y ≠ 0) (f (.int k (k.wrap (x.tdiv y)))) | .rem => .side (y ≠ 0) (f (.int k (x.tmod y)))
 | .and => f (.int k (bits .and k x y)) | .or => f (.int k (bits .or k x y)) | .xor => f (.int k (bits .xor k x y))
 | _ => .fail
def qb1 (op : BinOp) (a b : ByteArray) (f : Value → R) : R := match op with
 | .add => .side (a.size + b.size ≤ 9223372036854775807) (f (.string (a ++ b)))
 | .eql => f (.bool (a.toList == b.toList)) | .neq => f (.bool (!(a.toList == b.toList)))
 | .lss => f (.bool (Op.bytesLess a.toList b.toList)) | .leq => f (.bool (Op.bytesLess a.toList b.toList || (a.toList == b.toList)))
 | .gtr => f (.bool (!(Op.bytesLess a.toList b.toList || (a.toList == b.toList)))) | .geq => f (.bool (!(Op.bytesLess a.toList b.toList)))
 | _ => .fail
def zat (op : BinOp) (u v : Value) (f : Value → R) : R := match u, v with
 | .int k x, .int k' y => (match op with
   | .shl => .side (0 ≤ y) (f (.int k (k.wrap (x * 2 ^ (min y.toNat k.bits)))))
   | .shr => .side (0 ≤ y) (f (.int k (x.fdiv (2 ^ (min y.toNat k.bits)))))
   | op => zr (Nat.beq (ikN k) (ikN k')) (y9h op k x y f))
 | .string a, .string b => qb1 op a b f
 | _, _ => .fail
section
variable {P : Program} {K : St → Prop} {K' : Value → Prop} {f : Value → R}
theorem z8f {op : BinOp} {k : IntKind} {x y : Int} (hf : ∀ v, (f v).holds P K → K' v) (h : (y9h op k x y f).holds P K) : match qa9 op k x y with | some r => K' r | none => False := by
 cases op <;> simp only [y9h] at h <;> simp only [qa9] <;> first
  | exact hf _ h
  | exact h.elim
  | (rw [if_neg h.1]; exact hf _ h.2)
theorem y9w {op : BinOp} {a b : ByteArray} (hf : ∀ v, (f v).holds P K → K' v) (h : (qb1 op a b f).holds P K) : z6a op a b K' := by
 cases op <;> simp only [qb1] at h <;> simp only [z6a] <;> first
  | exact hf _ h
  | exact h.elim
  | exact ⟨h.1, hf _ h.2⟩
theorem q9a {op : BinOp} {u v : Value} (hf : ∀ v, (f v).holds P K → K' v) (h : (zat op u v f).holds P K) : ya7 op u v K' := by
 unfold zat at h
 unfold ya7
 split at h
 · dsimp only
   split at h
   · exact ⟨h.1, hf _ h.2⟩
   · exact ⟨h.1, hf _ h.2⟩
   · rename_i h1 h2
     obtain ⟨hk, h'⟩ := yb h
     have hk := q9j hk
     subst hk
     have := z8f hf h'
     split
     · exact absurd rfl h1
     · exact absurd rfl h2
     · rw [if_pos rfl]; exact this
 · exact y9w hf h
 · exact h.elim
end
def bR (t : List (Nat × AV)) (b : List (Nat × AB)) : R := match force b with | some b => .ok ⟨t, b⟩ | none => .fail
theorem yz {P : Program} {t : List (Nat × AV)} {b : List (Nat × AB)} {K : St → Prop} (h : (bR t b).holds P K) : K ⟨t, b⟩ := by
 unfold bR at h
 split at h
 · rename_i b' hb; rw [force_eq hb] at h; exact h
 · exact h.elim
def q91 (B : List (Nat × AB)) : List AC → Option (List Cell)
 | [] => some []
 | .b c :: l => (match q91 B l with | some l' => some (c :: l') | none => none)
 | .h γ _ :: l => (match get B γ, q91 B l with | some (.arr _ _ _ rows), some l' => some (.l rows :: l') | _, _ => none)
 | .nil :: l => (match q91 B l with | some l' => some (.l [] :: l') | none => none)
 | .em :: l => (match q91 B l with | some l' => some (.l [] :: l') | none => none)
 | _ => none
theorem z45 {B : List (Nat × AB)} : ∀ {cs : List AC} {l : List Cell}, q91 B cs = some l → l = cs.map (q2n B)
 | [], l, h => by cases h; rfl
 | c :: cs, l, h => by
   cases c <;> rw [q91] at h <;> first
    | (split at h
       · rename_i l' hl; cases h; rw [z45 hl]; rfl
       · cases h)
    | (split at h
       · rename_i rows l' hg hl; cases h; rw [z45 hl]; simp [q2n, hg]
       · cases h)
    | cases h
def y8h (B : List (Nat × AB)) : List (List AC) → Option (List (List Cell))
 | [] => some []
 | cs :: l => match q91 B cs, y8h B l with | some r, some l' => some (r :: l') | _, _ => none
theorem y64 {B : List (Nat × AB)} : ∀ {rws : List (List AC)} {l : List (List Cell)}, y8h B rws = some l → l = rws.map fun cs => cs.map (q2n B)
 | [], l, h => by cases h; rfl
 | c :: cs, l, h => by
   rw [y8h] at h
   split at h
   · rename_i r l' hr hl; cases h; rw [z45 hr, y64 hl]; rfl
   · cases h
def y82 : List AC → List Nat
 | [] => []
 | .h γ _ :: l => γ :: y82 l
 | _ :: l => y82 l
theorem q40 : ∀ (cs : List AC), y82 cs = cs.filterMap gam
 | [] => rfl
 | c :: cs => by
   have ih := q40 cs
   cases c <;> simp only [y82, ih] <;> rfl
def z9p (x : Nat) : List Nat → Bool
 | [] => false
 | y :: l => bif Nat.beq x y then true else z9p x l
theorem y2r {x : Nat} : ∀ {l : List Nat}, z9p x l = false → x ∉ l
 | [], _ => by simp
 | y :: l, h => by
   rw [z9p] at h
   cases hb : Nat.beq x y with
   | true => rw [hb] at h; cases h
   | false =>
     rw [hb] at h
     have hne : x ≠ y := fun e => by subst e; simp at hb
     have := y2r (l := l) h
     simp [hne, this]
def q9p : List Nat → Bool
 | [] => true
 | x :: l => bif z9p x l then false else q9p l
theorem z7 : ∀ {l : List Nat}, q9p l = true → l.Nodup
 | [], _ => List.nodup_nil
 | x :: l, h => by
   rw [q9p] at h
   cases hb : z9p x l with
   | true => rw [hb] at h; cases h
   | false => rw [hb] at h; exact List.nodup_cons.2 ⟨y2r hb, z7 h⟩
def z9z (b : Bool) : Bool := match b with | true => false | false => true
theorem z33 {b : Bool} (h : z9z b = true) : b = false := by cases b <;> first | rfl | cases h
def y5w (sz : Nat) : List (List AC) → Bool
 | [] => true
 | cs :: l => bif q3y sz cs then y5w sz l else false
theorem y4i {sz : Nat} : ∀ {l : List (List AC)}, y5w sz l = true → (l.all fun cs => cs.length == sz) = true
 | [], _ => rfl
 | cs :: l, h => by
   rw [y5w] at h
   cases hb : q3y sz cs with
   | false => rw [hb] at h; cases h
   | true => rw [hb] at h; simp only [List.all_cons, y15 hb, beq_self_eq_true, Bool.true_and]; exact y4i h
def flat (l : List (List AC)) : List AC := l.flatten
def y65 (σ : St) : Nat → List (Nat × Operand) → Option (List (List AC))
 | _, [] => some []
 | i, (j, x) :: ps => bif Nat.beq i j then (match ev σ x, y65 σ (Nat.succ i) ps with
   | some (.one c), some r => some ([c] :: r)
   | some (.agg cs), some r => some (cs :: r)
   | _, _ => none) else none
theorem q33 {σ : St} : ∀ {ps : List (Nat × Operand)} {i : Nat} {r : List (List AC)}, y65 σ i ps = some r → q1u σ i ps = some r
 | [], i, r, h => h
 | (j, x) :: ps, i, r, h => by
   rw [y65] at h
   by_cases hij : i = j
   · subst hij
     simp only [Nat.beq_refl, cond_true] at h
     rw [q1u, if_pos rfl]
     split at h
     · rename_i c r' h1 h2; cases h; rw [h1, q33 h2]
     · rename_i c r' h1 h2; cases h; rw [h1, q33 h2]
     · cases h
   · rw [beq_false hij] at h; cases h
def y7a (F : TT) (σ : St) (t : Nat) : List AC → List (Nat × Operand) → Option (List AC)
 | cs, [] => some cs
 | cs, (i, x) :: ps => match q95 F t i, ev σ x with
   | some (_, off, n), some (.one c) => (match Nat.beq n 1, y3f (Nat.add off 1) cs, force (putCells cs off [c]) with | true, true, some cs' => y7a F σ t cs' ps | _, _, _ => none)
   | some (_, off, n), some (.agg xs) => (match q3y n xs, y3f (Nat.add off n) cs, force (putCells cs off xs) with | true, true, some cs' => y7a F σ t cs' ps | _, _, _ => none)
   | _, _ => none
def q6e (σ : St) : List Operand → Option (List (Nat × Nat))
 | [] => some []
 | x :: l => match ev σ x, q6e σ l with | some (.one (.a β off)), some r => some ((β, off) :: r) | _, _ => none
theorem y3w {σ : St} : ∀ {l : List Operand}, q6e σ l = l.mapM (fun x => match ev σ x with | some (.one (.a β off)) => some (β, off) | _ => none)
 | [] => rfl
 | x :: l => by
   rw [List.mapM_cons, ← y3w (l := l), q6e]
   split
   · rename_i β off r h1 h2
     simp [h1, h2]
   · rename_i h1
     cases he : q6e σ l with
     | none => split <;> simp
     | some r =>
       split
       · rename_i β off h2; exact absurd he (h1 β off r h2)
       · simp
def q87 (σ : St) : List Operand → Option (List Cell)
 | [] => some []
 | x :: l => match ev σ x, q87 σ l with | some (.one (.b c)), some r => some (c :: r) | _, _ => none
theorem y5z {σ : St} : ∀ {l : List Operand} {r : List Cell}, q87 σ l = some r → l.mapM (fun x => match ev σ x with | some (.one (.b c)) => some c | _ => none) = some r
 | [], r, h => by cases h; rfl
 | x :: l, r, h => by
   rw [q87] at h
   split at h
   · rename_i c r' h1 h2
     cases h
     simp [h1, y5z h2]
   · cases h
def z5g : List AC → Bool
 | [] => true
 | .b (.s _) :: l => z5g l
 | .b _ :: _ => false
 | _ :: l => z5g l
theorem q2q : ∀ (cs : List AC), z5g cs = y2h cs
 | [] => rfl
 | c :: cs => by
   cases c with
   | b c => cases c <;> simp [z5g, y2h] <;> exact q2q cs
   | _ => simp [z5g, y2h]; exact q2q cs
section
variable {P : Program} {F : TT}
theorem z40 (hF : F = F.map P) {σ : St} {t : Nat} : ∀ {ps : List (Nat × Operand)} {cs r : List AC}, y7a F σ t cs ps = some r → z2h P σ t cs ps = some r
 | [], cs, r, h => h
 | (i, x) :: ps, cs, r, h => by
   rw [y7a] at h
   rw [z2h]
   split at h
   · rename_i off n c h1 h2
     rw [z2o hF h1, h2]
     dsimp only
     split at h
     · rename_i cs' e1 e2 e3
       rw [if_pos ⟨Nat.eq_of_beq_eq_true e1, q0w e2⟩, ← force_eq e3]
       exact z40 hF h
     · cases h
   · rename_i off n xs h1 h2
     rw [z2o hF h1, h2]
     dsimp only
     split at h
     · rename_i cs' e1 e2 e3
       rw [if_pos ⟨y15 e1, q0w e2⟩, ← force_eq e3]
       exact z40 hF h
     · cases h
   · cases h
end
def z9k : Option Operand → St → Option (Option Int)
 | none, _ => some none
 | some x, σ => match ev σ x with | some (.one (.b (.s (.int _ n)))) => some (some n) | _ => none
def z0j {α : Type} (o : Option α) (f : α → R) : R := match o with | some a => f a | none => .fail
theorem qh {P : Program} {K : St → Prop} {α : Type} {o : Option α} {f : α → R} (h : (z0j o f).holds P K) : ∃ a, o = some a ∧ (f a).holds P K := by
 cases o with
 | none => exact h.elim
 | some a => exact ⟨a, rfl, h⟩
def zax (F : TT) (σ : St) (t : Nat) (av : AV) (f : Value → R) : R := match av with
 | .one (.b (.l rows)) => z0j (y3u F t) fun _ => f (.int .i64 rows.length)
 | .one .nil => z0j (y3u F t) fun _ => f (.int .i64 0)
 | .one .em => z0j (y3u F t) fun _ => f (.int .i64 0)
 | .one (.h _ n) => z0j (y3u F t) fun _ => f (.int .i64 n)
 | .one (.b (.s (.string s))) => zr (y84 F t) (f (.int .i64 s.size))
 | .one (.q β m i k) => z0j (y3u F t) fun _ => (match get σ.b β with
   | some (.arr _ _ ep rows) => .side (m = ep) (.row rows i fun row => match nth row k with | some (.l rs) => f (.int .i64 rs.length) | _ => .fail)
   | _ => .fail)
 | _ => .fail
def q9b (g : Bool) (F : TT) (σ : St) (o : Oper) (c : Call) : R := match c.callee with
 | .builtin .len => (match c.argTypes.toList, c.args.toList with
   | t :: _, [x] => evR σ x fun av => zax F σ t av fun r => z0u σ o.dst (sV r)
   | _, _ => .fail)
 | .builtin .append => (match c.argTypes.toList, c.args.toList, o.dst with
   | [t, tx], [s, x], some d => (match q6x F t, q6x F tx, ev σ s, ev σ x with
     | some (sz, by_), some _, some (.one (.h β n)), some (.one (.h γ m)) => (match get σ.b β, get σ.b γ with
       | some (.arr full0 sz0 ep rows0), some (.arr full sz1 _ rows) =>
         zr (Nat.beq sz0 sz) (zr (Nat.beq sz1 sz) (zr (z9z (Nat.beq β γ)) (.side (n = rows0.length) (.side (m = rows.length) (.side (full0 = full ∨ rows0 = []) (.side (rows0.length + rows.length ≤ 9223372036854775807) (.side ((rows0.length + rows.length) * by_ ≤ 140737488355328)
         (bR ((d, .one (.h β (rows0.length + rows.length))) :: σ.t) (z0d (zo σ.b [γ]) β (.arr full sz (Nat.succ ep) (rows0 ++ rows)))))))))))
       | _, _ => .fail)
     | some (sz, by_), some _, some (.one (.h β n)), some (.one (.b (.l rows))) => (match get σ.b β with
       | some (.arr full0 sz0 ep rows0) => zr (Nat.beq sz0 sz) (.side (n = rows0.length) (.side (∀ row ∈ rows, row.length = sz) (.side (full0 = true → zz rows) (.side (rows0.length + rows.length ≤ 9223372036854775807) (.side ((rows0.length + rows.length) * by_ ≤ 140737488355328)
         (bR ((d, .one (.h β (rows0.length + rows.length))) :: σ.t) (z0d σ.b β (.arr full0 sz (Nat.succ ep) (rows0 ++ rows)))))))))
       | _ => .fail)
     | some (sz, by_), some _, some (.one .nil), some (.one (.h γ m)) => (match get σ.b d, get σ.b γ with
       | none, some (.arr full sz1 _ rows) => zr (Nat.beq sz1 sz) (zr (z9z (Nat.beq d γ)) (.side (m = rows.length) (.side (rows.length ≤ 9223372036854775807) (.side (rows.length * by_ ≤ 140737488355328) (bR ((d, .one (.h d rows.length)) :: σ.t) (z0d (zo σ.b [γ]) d (.arr full sz 0 rows)))))))
       | _, _ => .fail)
     | some (sz, by_), some _, some (.one .em), some (.one (.h γ m)) => (match get σ.b d, get σ.b γ with
       | none, some (.arr full sz1 _ rows) => zr (Nat.beq sz1 sz) (zr (z9z (Nat.beq d γ)) (.side (m = rows.length) (.side (rows.length ≤ 9223372036854775807) (.side (rows.length * by_ ≤ 140737488355328) (bR ((d, .one (.h d rows.length)) :: σ.t) (z0d (zo σ.b [γ]) d (.arr full sz 0 rows)))))))
       | _, _ => .fail)
     | some (sz, by_), some _, some (.one .em), some (.one (.b (.l rows))) => (match get σ.b d with
       | none => .side (∀ row ∈ rows, row.length = sz) (.side (zz rows) (.side (rows.length ≤ 9223372036854775807) (.side (rows.length * by_ ≤ 140737488355328) (bR ((d, .one (.h d rows.length)) :: σ.t) (z0d σ.b d (.arr true sz 0 rows))))))
       | _ => .fail)
     | some (sz, by_), some _, some (.one .nil), some (.one (.b (.l rows))) => (match get σ.b d with
       | none => .side (∀ row ∈ rows, row.length = sz) (.side (zz rows) (.side (rows.length ≤ 9223372036854775807) (.side (rows.length * by_ ≤ 140737488355328) (bR ((d, .one (.h d rows.length)) :: σ.t) (z0d σ.b d (.arr true sz 0 rows))))))
       | _ => .fail)
     | _, _, _, _ => .fail)
   | _, _, _ => .fail)
 | .value x => (match ev σ x, evs σ c.args.toList with
   | some (.one (.cl f caps)), some avs => z0j (force (avs ++ caps.map fun c => .one (.a c.1 c.2))) fun avs => .call g σ o.dst f avs
   | some (.one (.b (.f f caps))), some avs => z0j (force (avs ++ caps.map fun c => .one (.b c))) fun avs => .call g σ o.dst f avs
   | some (.one (.cm f β off)), some avs => .call g σ o.dst f (.one (.a β off) :: avs)
   | some (.one (.b (.m f ag row))), some avs => .call g σ o.dst f (q7o ag row :: avs)
   | _, _ => .fail)
 | .builtin .max => (match c.args.toList with
   | [x, y] => (match ev σ x, ev σ y with | some (.one (.b (.s (.int k a)))), some (.one (.b (.s (.int _ b)))) => z0u σ o.dst (sV (.int k (mx a b))) | _, _ => .fail)
   | [x, y, z, t] => (match ev σ x, ev σ y, ev σ z, ev σ t with | some (.one (.b (.s (.int k a)))), some (.one (.b (.s (.int _ b)))), some (.one (.b (.s (.int _ c)))), some (.one (.b (.s (.int _ d)))) => z0u σ o.dst (sV (.int k (mx (mx (mx a b) c) d))) | _, _, _, _ => .fail)
   | _ => .fail)
 | .builtin .min => (match c.args.toList with
   | [x, y] => (match ev σ x, ev σ y with | some (.one (.b (.s (.int k a)))), some (.one (.b (.s (.int _ b)))) => z0u σ o.dst (sV (.int k (if b < a then b else a))) | _, _ => .fail)
   | _ => .fail)
 | _ => .raw g σ o
def yar (σ : St) (d : Option Tmp) (cs : List AC) : R := match d with
 | some d => (match get σ.b d with | none => bR ((d, .one (.a d 0)) :: σ.t) (z0d σ.b d (.var cs)) | some _ => .fail)
 | none => .fail
def z7m : AV → Bool | .tup _ => false | _ => true
def q54 (F : TT) (σ : St) (t : Nat) (p x : AV) : R := match y96 F t, p, x with
 | some (_, n), .one (.e β m i k), x => (match get σ.b β with
   | some (.arr full sz ep rows) => zr (z7m x) (zr (q3y n (yj x)) (zr (q9p (y82 (yj x))) (zr (z9z (z9p β (y82 (yj x)))) (.side (m = rows.length) (.row rows i fun row => .side (k + n ≤ row.length) (.side (q70 (wfS σ.b full) (yj x)) (z0j (q91 σ.b (yj x)) fun xs =>
      bR σ.t (z0d (zo σ.b (y82 (yj x))) β (.arr full sz (Nat.succ ep) (rows.set i (putRow row k xs)))))))))))
   | _ => .fail)
 | some (false, 1), .one (.a β off), .one c => (match get σ.b β with | some (.var cs) => zr (y3f (Nat.add off 1) cs) (z0j (force (putCells cs off [c])) fun cs => bR σ.t (z0d σ.b β (.var cs))) | _ => .fail)
 | some (true, n), .one (.a β off), .agg xs => (match get σ.b β with | some (.var cs) => zr (q3y n xs) (zr (y3f (Nat.add off n) cs) (z0j (force (putCells cs off xs)) fun cs => bR σ.t (z0d σ.b β (.var cs)))) | _ => .fail)
 | _, _, _ => .fail
def qax (F : TT) (σ : St) (t n : Nat) (ps : List (Nat × Operand)) (d : Option Tmp) : R := match d, q6x F t, y65 σ 0 ps with
 | some d, some (sz, _), some rws => (match get σ.b d with
   | none => zr (q3y n rws) (zr (Nat.ble (Nat.mul n sz) 16777216) (zr (y5w sz rws) (zr (q9p (y82 (flat rws))) (zr (z9z (z9p d (y82 (flat rws)))) (.side (q70 (wfS σ.b (z5g (flat rws))) (flat rws)) (z0j (y8h σ.b rws) fun rs =>
     bR ((d, .one (.h d n)) :: σ.t) (z0d (zo σ.b (y82 (flat rws))) d (.arr (z5g (flat rws)) sz 0 rs))))))))
   | some _ => .fail)
 | _, _, _ => .fail
def yay (F : TT) (σ : St) (t : Nat) (l c : Operand) (d : Option Tmp) : R := match d, q6x F t, q8v F t, ev σ l, ev σ c with
 | some d, some (sz, by_), some zrow, some (.one (.b (.s (.int _ n)))), some (.one (.b (.s (.int _ n')))) => (match get σ.b d with
   | none => zr (q3y sz zrow) (.side (n = n') (.side (0 ≤ n) (.side (n * by_ ≤ 281474976710656) (.side (n ≤ 9223372036854775807) (bR ((d, .one (.h d n.toNat)) :: σ.t) (z0d σ.b d (.arr true sz 0 (List.replicate n.toNat zrow))))))))
   | some _ => .fail)
 | _, _, _, _, _ => .fail
def opR (g : Bool) (F : TT) (σ : St) (o : Oper) : R := match o.op with
 | .move x => evR σ x fun av => z0u σ o.dst av
 | .assign x => evR σ x fun av => z0u σ o.dst av
 | .pick c x y => (match ev σ c with | some (.one (.b (.s (.bool t)))) => .br t (evR σ x fun av => z0u σ o.dst av) (evR σ y fun av => z0u σ o.dst av) | _ => .fail)
 | .load t x => (match ev σ x, y96 F t with
   | some av, some (ag, n) => q5z σ av fun cs => (match ag with
     | true => zr (y3f n cs) (z0j (force (cs.take n)) fun cs => z0u σ o.dst (.agg cs))
     | false => (match cs with | [] => .fail | c :: _ => z0u σ o.dst (.one c)))
   | _, _ => .fail)
 | .binOp op t x y _ => (match ev σ x, ev σ y with
   | some (.one (.b (.s (.bool a)))), some (.one (.b (.s (.bool b)))) => zr (za2 F t) (match op with | .eql => z0u σ o.dst (sV (.bool (a == b))) | .neq => z0u σ o.dst (sV (.bool (!(a == b)))) | _ => .fail)
   | some (.one (.b (.s u))), some (.one (.b (.s v))) => zat op u v fun r => z0u σ o.dst (sV r)
   | some (.one (.b (.l rows))), some (.one .nil) => z0j (y3u F t) fun _ => (match op with
     | .eql => .any (fun b => b = true → rows = []) fun b => z0u σ o.dst (sV (.bool b))
     | .neq => .any (fun b => b = true → rows = []) fun b => z0u σ o.dst (sV (.bool (!b)))
     | _ => .fail)
   | some (.agg cs), some (.agg cs') => z0j (ya2 F t) fun ks => z0j (scs cs) fun xs => z0j (scs cs') fun ys => zr (q9d ks xs) (zr (q9d ks ys) (match op with
     | .eql => z0u σ o.dst (sV (.bool (y1b xs ys)))
     | .neq => z0u σ o.dst (sV (.bool (!(y1b xs ys))))
     | _ => .fail))
   | _, _ => .raw g σ o)
 | .unOp op _ x => (match op, ev σ x with
   | .not, some (.one (.b (.s (.bool b)))) => z0u σ o.dst (sV (.bool (!b)))
   | .neg, some (.one (.b (.s (.int k n)))) => z0u σ o.dst (sV (.int k (k.wrap (0 - n))))
   | _, _ => .fail)
 | .convert s d x => (match ev σ x, yb4 F d with
   | some (.one (.b (.s (.int _ n)))), some k => zr (qa2 F s) (z0u σ o.dst (sV (.int k (k.wrap n))))
   | _, _ => .raw g σ o)
 | .fieldAddr s x f => (match ev σ x, z8v F s f with
   | some (.one (.b (.p row))), some off => zr (y3f off row) (z0j (force (row.drop off)) fun row => z0u σ o.dst (.one (.b (.p row))))
   | some (.one (.a β i)), some off => z0u σ o.dst (.one (.a β (i + off)))
   | some (.one (.e β m i k)), some off => z0u σ o.dst (.one (.e β m i (k + off)))
   | _, _ => .fail)
 | .field s x f => (match ev σ x, q95 F s f with
   | some (.agg cs), some (true, off, n) => zr (y3f (Nat.add off n) cs) (z0j (force ((cs.drop off).take n)) fun cs => z0u σ o.dst (.agg cs))
   | some (.agg cs), some (false, off, _) => z0j (nth cs off) fun c => z0u σ o.dst (.one c)
   | _, _ => .fail)
 | .indexAddr t x i => (match ev σ x, ev σ i, y3u F t with
   | some (.one (.b (.l rows))), some (.one (.b (.s (.int _ n)))), some sz => .side (0 ≤ n) (.row rows n.toNat fun row => .side (row.length = sz) (z0u σ o.dst (.one (.b (.p row)))))
   | some (.one (.h β m)), some (.one (.b (.s (.int _ n)))), some sz => (match get σ.b β with
     | some (.arr _ _ _ rows) => .side (m = rows.length) (.side (0 ≤ n) (.row rows n.toNat fun row => .side (row.length = sz) (z0u σ o.dst (.one (.e β m n.toNat 0)))))
     | _ => .fail)
   | _, _, _ => .raw g σ o)
 | .index t x i => (match ev σ x, ev σ i with
   | some (.one (.b (.s (.string s)))), some (.one (.b (.s (.int _ n)))) => zr (y84 F t) (.side (0 ≤ n) (.byte s n.toNat fun b => z0u σ o.dst (sV (.int .u8 b.toNat))))
   | _, _ => .fail)
 | .slice t x lo hi none => (match ev σ x, z9k lo σ, z9k hi σ with
   | some (.one (.b (.s (.string s)))), some l, some h => zr (y84 F t) (.side (0 ≤ l.getD 0) (.side (l.getD 0 ≤ h.getD s.size) (.side (h.getD s.size ≤ s.size) (z0u σ o.dst (sV (.string (s.extract (l.getD 0).toNat (h.getD s.size).toNat)))))))
   | some (.one (.b (.l rows))), some l, some h => z0j (y3u F t) fun sz => .side (l.getD 0 = 0 ∨ ∀ row ∈ rows, row.length = sz) (.side (0 ≤ l.getD 0) (.side (l.getD 0 ≤ h.getD rows.length) (.side (h.getD rows.length ≤ rows.length) (z0u σ o.dst (.one (.b (.l ((rows.take (h.getD rows.length).toNat).drop (l.getD 0).toNat))))))))
   | _, _, _ => .raw g σ o)
 | .extract x i => (match ev σ x with | some (.tup vs) => z0j (nth vs i) fun av => z0u σ o.dst av | _ => .fail)
 | .makeFunc (.func f) first caps => (match first.toList, caps.toList with
   | [x], [] => (match ev σ x with
     | some (.one (.a β off)) => z0u σ o.dst (.one (.cm f β off))
     | some (.one (.b c)) => z0u σ o.dst (.one (.b (.m f false [c])))
     | some (.agg cs) => z0j (z9y cs) fun l => z0u σ o.dst (.one (.b (.m f true l)))
     | _ => .fail)
   | [], _ => (match q6e σ caps.toList with | some cs => z0u σ o.dst (.one (.cl f cs)) | none => z0j (q87 σ caps.toList) fun cs => z0u σ o.dst (.one (.b (.f f cs))))
   | _, _ => .fail)
 | .build t ps => (match q59 F t with
   | some z => z0j (y7a F σ t z ps.toList) fun cs => z0u σ o.dst (.agg cs)
   | none => .raw g σ o)
 | .alloc e => (match y8v F e with | some z => zr (z7m z) (yar σ o.dst (yj z)) | none => .fail)
 | .box _ x => (match ev σ x with | some z => zr (z7m z) (yar σ o.dst (yj z)) | none => .fail)
 | .store t p x => (match o.dst, ev σ p, ev σ x with
   | none, some pv, some xv => q54 F σ t pv xv
   | _, _, _ => .fail)
 | .buildSlice t n ps => qax F σ t n ps.toList o.dst
 | .makeSlice t l c => yay F σ t l c o.dst
 | .call c => q9b g F σ o c
 | .nilCheck x => evR σ x fun av => (match av with | .one (.b (.p row)) => z0u σ o.dst (.one (.b (.p row))) | .one (.a β off) => z0u σ o.dst (.one (.a β off)) | .one (.e β m i k) => z0u σ o.dst (.one (.e β m i k)) | _ => .fail)
 | _ => .raw g σ o
end Go.Sx
end
