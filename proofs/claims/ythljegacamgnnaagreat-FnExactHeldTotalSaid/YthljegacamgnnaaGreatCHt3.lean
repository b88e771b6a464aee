/- WHAT IS PROVED: parts of the proof of fnExactHeldTotal_holds: a frame for walks, what each Go function that it reaches answers, and plain lemmas; no condition beyond those that each theorem names. -/
import Derived.Test.YthljegacamgnnaaGreatCHt2
import Derived.WalkKit
import Derived.OrdersHeld
import Derived.DeepKeys
import Derived.Maps.RangeWalk
import Derived.Maps.OwnOps
set_option linter.unusedVariables false
set_option linter.unusedSimpArgs false
section
namespace Go.Sx
open Go.RowKit (Below)
structure TI where
 lay : Option (Bool × Nat)
 esz : Option Nat
 esI : Option (Nat × Nat)
 str : Bool
 boo : Bool
 und : Bool
 ik : Option IntKind
 zero : Option AV
 q4z : Option (List AC)
 zrow : Option (List Cell)
 flds : List (Option Nat × Option (Bool × Nat × Nat))
 cmp : Option (List CK)
inductive TT where
 | leaf
 | node (k : Nat) (v : TI) (l r : TT)
def z88 (P : Program) (t : TypeId) : Bool := match P.underlying t with | some .bool => true | _ => false
def z9s (P : Program) (t : TypeId) : Nat := match P.underlying t with | some (.struct fs) => fs.size | _ => 0
def mkF (P : Program) (t : TypeId) : Nat → Nat → List (Option Nat × Option (Bool × Nat × Nat))
 | 0, _ => []
 | n + 1, i => (y8l P t i, fld P t i) :: mkF P t n (i + 1)
def z99 (P : Program) (t : TypeId) : TI := ⟨lay P t, esz P t, z0x P t, y4m P t, z88 P t, (P.underlying t).isSome, q75 P t, z1r P t, q4z P t, z6v P t, mkF P t (z9s P t) 0, q8t P t⟩
def TT.map (P : Program) : TT → TT
 | .leaf => .leaf
 | .node k _ l r => .node k (z99 P k) (l.map P) (r.map P)
def TT.find : TT → Nat → Option TI
 | .leaf, _ => none
 | .node k v l r, t => bif Nat.beq k t then some v else bif Nat.blt t k then l.find t else r.find t
theorem TT.y28 {P : Program} : ∀ {F : TT} {t : Nat} {i : TI}, (F.map P).find t = some i → i = z99 P t
 | .leaf, t, i, h => by cases h
 | .node k v l r, t, i, h => by
   rw [TT.map, TT.find] at h
   by_cases hk : k = t
   · subst hk; simp only [Nat.beq_refl, cond_true, Option.some.injEq] at h; exact h.symm
   · rw [beq_false hk] at h
     cases hb : Nat.blt t k with
     | true => rw [hb] at h; exact TT.y28 h
     | false => rw [hb] at h; exact TT.y28 h
def nth {α : Type} : List α → Nat → Option α
 | [], _ => none
 | a :: l, n => bif Nat.beq n 0 then some a else nth l (Nat.pred n)
theorem y20 {α : Type} : ∀ (l : List α) (n : Nat), nth l n = l[n]?
 | [], n => by simp [nth]
 | a :: l, 0 => rfl
 | a :: l, n + 1 => by rw [nth, beq_false (by omega), List.getElem?_cons_succ]; exact y20 l n
theorem q4p {P : Program} {t : Nat} : ∀ {n i k : Nat} {x : Option Nat × Option (Bool × Nat × Nat)}, (mkF P t n i)[k]? = some x → x = (y8l P t (i + k), fld P t (i + k))
 | 0, i, k, x, h => by simp [mkF] at h
 | n + 1, i, k, x, h => by
   rw [mkF] at h
   cases k with
   | zero => cases h; rfl
   | succ k => rw [List.getElem?_cons_succ] at h; rw [q4p h]; simp only [Nat.add_assoc, Nat.add_comm 1 k]
def z7u (F : TT) (t : Nat) : Option (Bool × Nat) := match F.find t with | some i => i.lay | none => none
def z3a (F : TT) (t : Nat) : Option Nat := match F.find t with | some i => i.esz | none => none
def y5u (F : TT) (t : Nat) : Option (Nat × Nat) := match F.find t with | some i => i.esI | none => none
def z6x (F : TT) (t : Nat) : Bool := match F.find t with | some i => i.str | none => false
def q8n (F : TT) (t : Nat) : Bool := match F.find t with | some i => i.boo | none => false
def y8o (F : TT) (t : Nat) : Bool := match F.find t with | some i => i.und | none => false
def z9o (F : TT) (t : Nat) : Option IntKind := match F.find t with | some i => i.ik | none => none
def y7l (F : TT) (t : Nat) : Option AV := match F.find t with | some i => i.zero | none => none
def z5v (F : TT) (t : Nat) : Option (List AC) := match F.find t with | some i => i.q4z | none => none
def q7l (F : TT) (t : Nat) : Option (List Cell) := match F.find t with | some i => i.zrow | none => none
def z8o (F : TT) (t : Nat) : Option (List CK) := match F.find t with | some i => i.cmp | none => none
def z7l (F : TT) (t f : Nat) : Option Nat := match F.find t with | some i => (match nth i.flds f with | some x => x.1 | none => none) | none => none
def y7t (F : TT) (t f : Nat) : Option (Bool × Nat × Nat) := match F.find t with | some i => (match nth i.flds f with | some x => x.2 | none => none) | none => none
section
variable {P : Program} {F : TT}
theorem y1a {α : Type} {F : TT} {t : Nat} {g : TI → Option α} {x : α} (hF : F = F.map P) (h : (match F.find t with | some i => g i | none => none) = some x) : g (z99 P t) = some x := by
 cases hi : F.find t with
 | none => rw [hi] at h; cases h
 | some i => rw [hi] at h; rw [hF] at hi; rw [← TT.y28 hi]; exact h
theorem q5u {F : TT} {t : Nat} {g : TI → Bool} (hF : F = F.map P) (h : (match F.find t with | some i => g i | none => false) = true) : g (z99 P t) = true := by
 cases hi : F.find t with
 | none => rw [hi] at h; cases h
 | some i => rw [hi] at h; rw [hF] at hi; rw [← TT.y28 hi]; exact h
theorem z26 (hF : F = F.map P) {t : Nat} {x : Bool × Nat} (h : z7u F t = some x) : lay P t = some x := y1a (g := TI.lay) hF h
theorem z0c (hF : F = F.map P) {t : Nat} {x : Nat} (h : z3a F t = some x) : esz P t = some x := y1a (g := TI.esz) hF h
theorem yw (hF : F = F.map P) {t : Nat} {x : Nat × Nat} (h : y5u F t = some x) : z0x P t = some x := y1a (g := TI.esI) hF h
theorem q7t (hF : F = F.map P) {t : Nat} {x : IntKind} (h : z9o F t = some x) : q75 P t = some x := y1a (g := TI.ik) hF h
theorem y5v (hF : F = F.map P) {t : Nat} {x : AV} (h : y7l F t = some x) : z1r P t = some x := y1a (g := TI.zero) hF h
theorem z5c (hF : F = F.map P) {t : Nat} {x : List AC} (h : z5v F t = some x) : q4z P t = some x := y1a (g := TI.q4z) hF h
theorem q5v (hF : F = F.map P) {t : Nat} {x : List Cell} (h : q7l F t = some x) : z6v P t = some x := y1a (g := TI.zrow) hF h
theorem q6w (hF : F = F.map P) {t : Nat} {x : List CK} (h : z8o F t = some x) : q8t P t = some x := y1a (g := TI.cmp) hF h
theorem y3a (hF : F = F.map P) {t : Nat} (h : z6x F t = true) : y4m P t = true := q5u (g := TI.str) hF h
theorem y6w (hF : F = F.map P) {t : Nat} (h : q8n F t = true) : P.underlying t = some .bool := by
 have : z88 P t = true := q5u (g := TI.boo) hF h
 unfold z88 at this
 split at this
 · assumption
 · cases this
theorem y6x (hF : F = F.map P) {t : Nat} (h : y8o F t = true) : ∃ u, P.underlying t = some u := Option.isSome_iff_exists.1 (q5u (g := TI.und) hF h)
theorem y2a (hF : F = F.map P) {t f x : Nat} (h : z7l F t f = some x) : y8l P t f = some x := by
 have := y1a (g := fun i => match nth i.flds f with | some x => x.1 | none => none) hF h
 split at this
 · rename_i y hy
   rw [y20] at hy
   rw [q4p hy, Nat.zero_add] at this
   exact this
 · cases this
theorem y25 (hF : F = F.map P) {t f : Nat} {x : Bool × Nat × Nat} (h : y7t F t f = some x) : fld P t f = some x := by
 have := y1a (g := fun i => match nth i.flds f with | some x => x.2 | none => none) hF h
 split at this
 · rename_i y hy
   rw [y20] at hy
   rw [q4p hy, Nat.zero_add] at this
   exact this
 · cases this
end
inductive R where
 | fail
 | ok (σ : St)
 | side (p : Prop) (r : R)
 | br (t : Bool) (r r' : R)
 | any (q : Bool → Prop) (f : Bool → R)
 | row (rows : List (List Cell)) (i : Nat) (f : List Cell → R)
 | byte (s : ByteArray) (i : Nat) (f : UInt8 → R)
 | call (g : Bool) (σ : St) (d : Option Tmp) (f : Nat) (avs : List AV)
 | raw (g : Bool) (σ : St) (o : Oper)
def R.holds (P : Program) : R → (St → Prop) → Prop
 | .fail, _ => False
 | .ok σ, K => K σ
 | .side p r, K => p ∧ r.holds P K
 | .br t r r', K => (t = true → r.holds P K) ∧ (t = false → r'.holds P K)
 | .any q f, K => ∀ b, q b → (f b).holds P K
 | .row rows i f, K => ∃ row, rows[i]? = some row ∧ (f row).holds P K
 | .byte s i f, K => ∃ b, s[i]? = some b ∧ (f b).holds P K
 | .call g σ d f avs, K => q39 P σ d f avs K ∨ (g = true ∧ y39 P σ d f avs K)
 | .raw g σ o, K => opL g P σ o K
def force {α : Type} : List α → Option (List α)
 | [] => some []
 | a :: l => match force l with | some l' => some (a :: l') | none => none
theorem force_eq {α : Type} : ∀ {l l' : List α}, force l = some l' → l' = l
 | [], l', h => by cases h; rfl
 | a :: l, l', h => by
   rw [force] at h
   split at h
   · rename_i l1 h1; cases h; rw [force_eq h1]
   · cases h
def y2w {α : Type} : Nat → List α → Bool
 | 0, _ => true
 | _ + 1, [] => false
 | n + 1, _ :: l => y2w n l
theorem z0l {α : Type} : ∀ {n : Nat} {l : List α}, y2w n l = true → n ≤ l.length
 | 0, l, _ => Nat.zero_le _
 | n + 1, [], h => by cases h
 | n + 1, _ :: l, h => Nat.succ_le_succ (z0l (l := l) h)
def y3e {α : Type} : Nat → List α → Bool
 | 0, [] => true
 | 0, _ :: _ => false
 | _ + 1, [] => false
 | n + 1, _ :: l => y3e n l
theorem y0r {α : Type} : ∀ {n : Nat} {l : List α}, y3e n l = true → l.length = n
 | 0, [], _ => rfl
 | 0, _ :: _, h => by cases h
 | n + 1, [], h => by cases h
 | n + 1, _ :: l, h => congrArg (· + 1) (y0r (l := l) h)
def ikN : IntKind → Nat
 | .i8 => 0 | .i16 => 1 | .i32 => 2 | .i64 => 3 | .u8 => 4 | .u16 => 5 | .u32 => 6 | .u64 => 7
theorem y87 {k k' : IntKind} (h : Nat.beq (ikN k) (ikN k') = true) : k = k' := by
 cases k <;> cases k' <;> first | rfl | cases h
def qn (b : Bool) (r : R) : R := match b with | true => r | false => .fail
theorem y9 {P : Program} {b : Bool} {r : R} {K : St → Prop} (h : (qn b r).holds P K) : b = true ∧ r.holds P K := by
 cases b with
 | true => exact ⟨rfl, h⟩
 | false => exact h.elim
def y0m (σ : St) (d : Option Tmp) (av : AV) : R := match σ, d with
 | ⟨t, b⟩, some d => .ok ⟨(d, av) :: t, b⟩
 | σ, none => .ok σ
theorem q18 {P : Program} {σ : St} {d : Option Tmp} {av : AV} {K : St → Prop} : (y0m σ d av).holds P K ↔ K (σ.put d av) := by
 cases σ; cases d <;> rfl
def evR (σ : St) (x : Operand) (f : AV → R) : R := match ev σ x with | some av => f av | none => .fail
def sV (v : Value) : AV := .one (.b (.s v))
def z53 (σ : St) (av : AV) (f : List AC → R) : R := match av with
 | .one (.b (.p row)) => (match force (row.map .b) with | some cs => f cs | none => .fail)
 | .one (.a β off) => (match get σ.b β with | some (.var cs) => (match force ((cs.drop off).map (unk σ.b)) with | some cs => f cs | none => .fail) | _ => .fail)
 | .one (.e β m i k) => (match get σ.b β with
   | some (.arr full _ ep rows) => .side (m = rows.length) (.row rows i fun row => (match y2d full β ep i k (row.drop k) with | some cs => f cs | none => .fail))
   | _ => .fail)
 | _ => .fail
theorem y61 {P : Program} {σ : St} {av : AV} {f : List AC → R} {K : St → Prop} {K' : List AC → Prop} (hf : ∀ cs, (f cs).holds P K → K' cs) (h : (z53 σ av f).holds P K) : z1d σ av K' := by
 unfold z53 at h
 unfold z1d
 split at h
 · split at h
   · rename_i cs hcs; rw [force_eq hcs] at h; exact hf _ h
   · exact h.elim
 · rename_i β off
   dsimp only
   split at h
   · rename_i cs hcs
     split at h
     · rename_i cs' hcs'; rw [force_eq hcs'] at h; rw [hcs]; exact hf _ h
     · exact h.elim
   · exact h.elim
 · rename_i β m i k
   dsimp only
   split at h
   · rename_i full sz ep rows hab
     obtain ⟨h1, row, h2, h3⟩ := h
     rw [hab]
     refine ⟨h1, ?_⟩
     rw [h2]
     dsimp only at h3 ⊢
     split at h3
     · rename_i cs hcs; rw [hcs]; exact hf _ h3
     · exact h3.elim
   · exact h.elim
 · exact h.elim
def z85 (op : BinOp) (k : IntKind) (x y : Int) (f : Value → R) : R := match op with
 | .add => f (.int k (k.wrap (x + y))) | .sub => f (.int k (k.wrap (x - y))) | .mul => f (.int k (k.wrap (x * y)))
 | .eql => f (.bool (x == y)) | .neq => f (.bool (x != y)) | .lss => f (.bool (decide (x < y))) | .leq => f (.bool (decide (x ≤ y)))
 | .gtr => f (.bool (decide (x > y))) | .geq => f (.bool (decide (x ≥ y)))
 | .quo => .side (y ≠ 0) (f (.int k (k.wrap (x.tdiv y)))) | .rem => .side (y ≠ 0) (f (.int k (x.tmod y)))
 | .and => f (.int k (bits .and k x y)) | .or => f (.int k (bits .or k x y)) | .xor => f (.int k (bits .xor k x y))
 | _ => .fail
def z9l (op : BinOp) (a b : ByteArray) (f : Value → R) : R := match op with
 | .add => .side (a.size + b.size ≤ 9223372036854775807) (f (.string (a ++ b)))
 | .eql => f (.bool (a.toList == b.toList)) | .neq => f (.bool (!(a.toList == b.toList)))
 | .lss => f (.bool (Op.bytesLess a.toList b.toList)) | .leq => f (.bool (Op.bytesLess a.toList b.toList || (a.toList == b.toList)))
 | .gtr => f (.bool (!(Op.bytesLess a.toList b.toList || (a.toList == b.toList)))) | .geq => f (.bool (!(Op.bytesLess a.toList b.toList)))
 | _ => .fail
def z9d (op : BinOp) (u v : Value) (f : Value → R) : R := match u, v with
 | .int k x, .int k' y => (match op with
   | .shl => .side (0 ≤ y) (f (.int k (k.wrap (x * 2 ^ (min y.toNat k.bits)))))
   | .shr => .side (0 ≤ y) (f (.int k (x.fdiv (2 ^ (min y.toNat k.bits)))))
   | op => qn (Nat.beq (ikN k) (ikN k')) (z85 op k x y f))
 | .string a, .string b => z9l op a b f
 | _, _ => .fail
section
variable {P : Program} {K : St → Prop} {K' : Value → Prop} {f : Value → R}
theorem y75 {op : BinOp} {k : IntKind} {x y : Int} (hf : ∀ v, (f v).holds P K → K' v) (h : (z85 op k x y f).holds P K) : match y8v op k x y with | some r => K' r | none => False := by
 cases op <;> simp only [z85] at h <;> simp only [y8v] <;> first
  | exact hf _ h
  | exact h.elim
  | (rw [if_neg h.1]; exact hf _ h.2)
theorem q8i {op : BinOp} {a b : ByteArray} (hf : ∀ v, (f v).holds P K → K' v) (h : (z9l op a b f).holds P K) : y5a op a b K' := by
 cases op <;> simp only [z9l] at h <;> simp only [y5a] <;> first
  | exact hf _ h
  | exact h.elim
  | exact ⟨h.1, hf _ h.2⟩
theorem y7y {op : BinOp} {u v : Value} (hf : ∀ v, (f v).holds P K → K' v) (h : (z9d op u v f).holds P K) : q8s op u v K' := by
 unfold z9d at h
 unfold q8s
 split at h
 · dsimp only
   split at h
   · exact ⟨h.1, hf _ h.2⟩
   · exact ⟨h.1, hf _ h.2⟩
   · rename_i h1 h2
     obtain ⟨hk, h'⟩ := y9 h
     have hk := y87 hk
     subst hk
     have := y75 hf h'
     split
     · exact absurd rfl h1
     · exact absurd rfl h2
     · rw [if_pos rfl]; exact this
 · exact q8i hf h
 · exact h.elim
end
end Go.Sx
end
section
namespace Go.Sx
open Go.RowKit (Below)
def bR (t : List (Nat × AV)) (b : List (Nat × AB)) : R := match force b with | some b => .ok ⟨t, b⟩ | none => .fail
theorem qu {P : Program} {t : List (Nat × AV)} {b : List (Nat × AB)} {K : St → Prop} (h : (bR t b).holds P K) : K ⟨t, b⟩ := by
 unfold bR at h
 split at h
 · rename_i b' hb; rw [force_eq hb] at h; exact h
 · exact h.elim
def q7q (B : List (Nat × AB)) : List AC → Option (List Cell)
 | [] => some []
 | .b c :: l => (match q7q B l with | some l' => some (c :: l') | none => none)
 | .h γ _ :: l => (match get B γ, q7q B l with | some (.arr _ _ _ rows), some l' => some (.l rows :: l') | _, _ => none)
 | .nil :: l => (match q7q B l with | some l' => some (.l [] :: l') | none => none)
 | .em :: l => (match q7q B l with | some l' => some (.l [] :: l') | none => none)
 | _ => none
theorem z3k {B : List (Nat × AB)} : ∀ {cs : List AC} {l : List Cell}, q7q B cs = some l → l = cs.map (z25 B)
 | [], l, h => by cases h; rfl
 | c :: cs, l, h => by
   cases c <;> rw [q7q] at h <;> first
    | (split at h
       · rename_i l' hl; cases h; rw [z3k hl]; rfl
       · cases h)
    | (split at h
       · rename_i rows l' hg hl; cases h; rw [z3k hl]; simp [z25, hg]
       · cases h)
    | cases h
def z78 (B : List (Nat × AB)) : List (List AC) → Option (List (List Cell))
 | [] => some []
 | cs :: l => match q7q B cs, z78 B l with | some r, some l' => some (r :: l') | _, _ => none
theorem q56 {B : List (Nat × AB)} : ∀ {rws : List (List AC)} {l : List (List Cell)}, z78 B rws = some l → l = rws.map fun cs => cs.map (z25 B)
 | [], l, h => by cases h; rfl
 | c :: cs, l, h => by
   rw [z78] at h
   split at h
   · rename_i r l' hr hl; cases h; rw [z3k hr, q56 hl]; rfl
   · cases h
def q6v : List AC → List Nat
 | [] => []
 | .h γ _ :: l => γ :: q6v l
 | _ :: l => q6v l
theorem z3g : ∀ (cs : List AC), q6v cs = cs.filterMap gam
 | [] => rfl
 | c :: cs => by
   have ih := z3g cs
   cases c <;> simp only [q6v, ih] <;> rfl
def z8c (x : Nat) : List Nat → Bool
 | [] => false
 | y :: l => bif Nat.beq x y then true else z8c x l
theorem y29 {x : Nat} : ∀ {l : List Nat}, z8c x l = false → x ∉ l
 | [], _ => by simp
 | y :: l, h => by
   rw [z8c] at h
   cases hb : Nat.beq x y with
   | true => rw [hb] at h; cases h
   | false =>
     rw [hb] at h
     have hne : x ≠ y := fun e => by subst e; simp at hb
     have := y29 (l := l) h
     simp [hne, this]
def q8c : List Nat → Bool
 | [] => true
 | x :: l => bif z8c x l then false else q8c l
theorem z1 : ∀ {l : List Nat}, q8c l = true → l.Nodup
 | [], _ => List.nodup_nil
 | x :: l, h => by
   rw [q8c] at h
   cases hb : z8c x l with
   | true => rw [hb] at h; cases h
   | false => rw [hb] at h; exact List.nodup_cons.2 ⟨y29 hb, z1 h⟩
def q8l (b : Bool) : Bool := match b with | true => false | false => true
theorem z2k {b : Bool} (h : q8l b = true) : b = false := by cases b <;> first | rfl | cases h
def y50 (sz : Nat) : List (List AC) → Bool
 | [] => true
 | cs :: l => bif y3e sz cs then y50 sz l else false
theorem y3t {sz : Nat} : ∀ {l : List (List AC)}, y50 sz l = true → (l.all fun cs => cs.length == sz) = true
 | [], _ => rfl
 | cs :: l, h => by
   rw [y50] at h
   cases hb : y3e sz cs with
   | false => rw [hb] at h; cases h
   | true => rw [hb] at h; simp only [List.all_cons, y0r hb, beq_self_eq_true, Bool.true_and]; exact y3t h
def flat (l : List (List AC)) : List AC := l.flatten
def y57 (σ : St) : Nat → List (Nat × Operand) → Option (List (List AC))
 | _, [] => some []
 | i, (j, x) :: ps => bif Nat.beq i j then (match ev σ x, y57 σ (Nat.succ i) ps with
   | some (.one c), some r => some ([c] :: r)
   | some (.agg cs), some r => some (cs :: r)
   | _, _ => none) else none
theorem q2k {σ : St} : ∀ {ps : List (Nat × Operand)} {i : Nat} {r : List (List AC)}, y57 σ i ps = some r → z1g σ i ps = some r
 | [], i, r, h => h
 | (j, x) :: ps, i, r, h => by
   rw [y57] at h
   by_cases hij : i = j
   · subst hij
     simp only [Nat.beq_refl, cond_true] at h
     rw [z1g, if_pos rfl]
     split at h
     · rename_i c r' h1 h2; cases h; rw [h1, q2k h2]
     · rename_i c r' h1 h2; cases h; rw [h1, q2k h2]
     · cases h
   · rw [beq_false hij] at h; cases h
def y66 (F : TT) (σ : St) (t : Nat) : List AC → List (Nat × Operand) → Option (List AC)
 | cs, [] => some cs
 | cs, (i, x) :: ps => match y7t F t i, ev σ x with
   | some (_, off, n), some (.one c) => (match Nat.beq n 1, y2w (Nat.add off 1) cs, force (putCells cs off [c]) with | true, true, some cs' => y66 F σ t cs' ps | _, _, _ => none)
   | some (_, off, n), some (.agg xs) => (match y3e n xs, y2w (Nat.add off n) cs, force (putCells cs off xs) with | true, true, some cs' => y66 F σ t cs' ps | _, _, _ => none)
   | _, _ => none
def q6z (σ : St) : List Operand → Option (List (Nat × Nat))
 | [] => some []
 | x :: l => match ev σ x, q6z σ l with | some (.one (.a β off)), some r => some ((β, off) :: r) | _, _ => none
theorem q52 {σ : St} : ∀ {l : List Operand} {r : List (Nat × Nat)}, q6z σ l = some r → l.mapM (fun x => match ev σ x with | some (.one (.a β off)) => some (β, off) | _ => none) = some r
 | [], r, h => by cases h; rfl
 | x :: l, r, h => by
   rw [q6z] at h
   split at h
   · rename_i β off r' h1 h2
     cases h
     simp [h1, q52 h2]
   · cases h
def q4k : List AC → Bool
 | [] => true
 | .b (.s _) :: l => q4k l
 | .b _ :: _ => false
 | _ :: l => q4k l
theorem z29 : ∀ (cs : List AC), q4k cs = y1y cs
 | [] => rfl
 | c :: cs => by
   cases c with
   | b c => cases c <;> simp [q4k, y1y] <;> exact z29 cs
   | _ => simp [q4k, y1y]; exact z29 cs
section
variable {P : Program} {F : TT}
theorem y3f (hF : F = F.map P) {σ : St} {t : Nat} : ∀ {ps : List (Nat × Operand)} {cs r : List AC}, y66 F σ t cs ps = some r → z1y P σ t cs ps = some r
 | [], cs, r, h => h
 | (i, x) :: ps, cs, r, h => by
   rw [y66] at h
   rw [z1y]
   split at h
   · rename_i off n c h1 h2
     rw [y25 hF h1, h2]
     dsimp only
     split at h
     · rename_i cs' e1 e2 e3
       rw [if_pos ⟨Nat.eq_of_beq_eq_true e1, z0l e2⟩, ← force_eq e3]
       exact y3f hF h
     · cases h
   · rename_i off n xs h1 h2
     rw [y25 hF h1, h2]
     dsimp only
     split at h
     · rename_i cs' e1 e2 e3
       rw [if_pos ⟨y0r e1, z0l e2⟩, ← force_eq e3]
       exact y3f hF h
     · cases h
   · cases h
end
def q87 : Option Operand → St → Option (Option Int)
 | none, _ => some none
 | some x, σ => match ev σ x with | some (.one (.b (.s (.int _ n)))) => some (some n) | _ => none
def z08 {α : Type} (o : Option α) (f : α → R) : R := match o with | some a => f a | none => .fail
theorem ze {P : Program} {K : St → Prop} {α : Type} {o : Option α} {f : α → R} (h : (z08 o f).holds P K) : ∃ a, o = some a ∧ (f a).holds P K := by
 cases o with
 | none => exact h.elim
 | some a => exact ⟨a, rfl, h⟩
def q9g (F : TT) (σ : St) (t : Nat) (av : AV) (f : Value → R) : R := match av with
 | .one (.b (.l rows)) => z08 (z3a F t) fun _ => f (.int .i64 rows.length)
 | .one .nil => z08 (z3a F t) fun _ => f (.int .i64 0)
 | .one .em => z08 (z3a F t) fun _ => f (.int .i64 0)
 | .one (.h _ n) => z08 (z3a F t) fun _ => f (.int .i64 n)
 | .one (.b (.s (.string s))) => qn (z6x F t) (f (.int .i64 s.size))
 | .one (.q β m i k) => z08 (z3a F t) fun _ => (match get σ.b β with
   | some (.arr _ _ ep rows) => .side (m = ep) (.row rows i fun row => match nth row k with | some (.l rs) => f (.int .i64 rs.length) | _ => .fail)
   | _ => .fail)
 | _ => .fail
def y7z (g : Bool) (F : TT) (σ : St) (o : Oper) (c : Call) : R := match c.callee with
 | .builtin .len => (match c.argTypes.toList, c.args.toList with
   | t :: _, [x] => evR σ x fun av => q9g F σ t av fun r => y0m σ o.dst (sV r)
   | _, _ => .fail)
 | .builtin .append => (match c.argTypes.toList, c.args.toList, o.dst with
   | [t, tx], [s, x], some d => (match y5u F t, y5u F tx, ev σ s, ev σ x with
     | some (sz, by_), some _, some (.one (.h β n)), some (.one (.h γ m)) => (match get σ.b β, get σ.b γ with
       | some (.arr full0 sz0 ep rows0), some (.arr full sz1 _ rows) =>
         qn (Nat.beq sz0 sz) (qn (Nat.beq sz1 sz) (qn (q8l (Nat.beq β γ)) (.side (n = rows0.length) (.side (m = rows.length) (.side (full0 = full ∨ rows0 = []) (.side (rows0.length + rows.length ≤ 9223372036854775807) (.side ((rows0.length + rows.length) * by_ ≤ 140737488355328)
         (bR ((d, .one (.h β (rows0.length + rows.length))) :: σ.t) (z09 (ym σ.b [γ]) β (.arr full sz (Nat.succ ep) (rows0 ++ rows)))))))))))
       | _, _ => .fail)
     | some (sz, by_), some _, some (.one (.h β n)), some (.one (.b (.l rows))) => (match get σ.b β with
       | some (.arr full0 sz0 ep rows0) => qn (Nat.beq sz0 sz) (.side (n = rows0.length) (.side (∀ row ∈ rows, row.length = sz) (.side (full0 = true → yy rows) (.side (rows0.length + rows.length ≤ 9223372036854775807) (.side ((rows0.length + rows.length) * by_ ≤ 140737488355328)
         (bR ((d, .one (.h β (rows0.length + rows.length))) :: σ.t) (z09 σ.b β (.arr full0 sz (Nat.succ ep) (rows0 ++ rows)))))))))
       | _ => .fail)
     | some (sz, by_), some _, some (.one .nil), some (.one (.h γ m)) => (match get σ.b d, get σ.b γ with
       | none, some (.arr full sz1 _ rows) => qn (Nat.beq sz1 sz) (qn (q8l (Nat.beq d γ)) (.side (m = rows.length) (.side (rows.length ≤ 9223372036854775807) (.side (rows.length * by_ ≤ 140737488355328) (bR ((d, .one (.h d rows.length)) :: σ.t) (z09 (ym σ.b [γ]) d (.arr full sz 0 rows)))))))
       | _, _ => .fail)
     | some (sz, by_), some _, some (.one .em), some (.one (.h γ m)) => (match get σ.b d, get σ.b γ with
       | none, some (.arr full sz1 _ rows) => qn (Nat.beq sz1 sz) (qn (q8l (Nat.beq d γ)) (.side (m = rows.length) (.side (rows.length ≤ 9223372036854775807) (.side (rows.length * by_ ≤ 140737488355328) (bR ((d, .one (.h d rows.length)) :: σ.t) (z09 (ym σ.b [γ]) d (.arr full sz 0 rows)))))))
       | _, _ => .fail)
     | some (sz, by_), some _, some (.one .em), some (.one (.b (.l rows))) => (match get σ.b d with
       | none => .side (∀ row ∈ rows, row.length = sz) (.side (yy rows) (.side (rows.length ≤ 9223372036854775807) (.side (rows.length * by_ ≤ 140737488355328) (bR ((d, .one (.h d rows.length)) :: σ.t) (z09 σ.b d (.arr true sz 0 rows))))))
       | _ => .fail)
     | some (sz, by_), some _, some (.one .nil), some (.one (.b (.l rows))) => (match get σ.b d with
       | none => .side (∀ row ∈ rows, row.length = sz) (.side (yy rows) (.side (rows.length ≤ 9223372036854775807) (.side (rows.length * by_ ≤ 140737488355328) (bR ((d, .one (.h d rows.length)) :: σ.t) (z09 σ.b d (.arr true sz 0 rows))))))
       | _ => .fail)
     | _, _, _, _ => .fail)
   | _, _, _ => .fail)
 | .value x => (match ev σ x, evs σ c.args.toList with
   | some (.one (.cl f caps)), some avs => z08 (force (avs ++ caps.map fun c => .one (.a c.1 c.2))) fun avs => .call g σ o.dst f avs
   | some (.one (.b (.f f caps))), some avs => z08 (force (avs ++ caps.map fun c => .one (.b c))) fun avs => .call g σ o.dst f avs
   | some (.one (.cm f β off)), some avs => .call g σ o.dst f (.one (.a β off) :: avs)
   | some (.one (.b (.m f ag row))), some avs => .call g σ o.dst f (z6j ag row :: avs)
   | _, _ => .fail)
 | .builtin .max => (match c.args.toList with
   | [x, y] => (match ev σ x, ev σ y with | some (.one (.b (.s (.int k a)))), some (.one (.b (.s (.int _ b)))) => y0m σ o.dst (sV (.int k (mx a b))) | _, _ => .fail)
   | [x, y, z, t] => (match ev σ x, ev σ y, ev σ z, ev σ t with | some (.one (.b (.s (.int k a)))), some (.one (.b (.s (.int _ b)))), some (.one (.b (.s (.int _ c)))), some (.one (.b (.s (.int _ d)))) => y0m σ o.dst (sV (.int k (mx (mx (mx a b) c) d))) | _, _, _, _ => .fail)
   | _ => .fail)
 | .builtin .min => (match c.args.toList with
   | [x, y] => (match ev σ x, ev σ y with | some (.one (.b (.s (.int k a)))), some (.one (.b (.s (.int _ b)))) => y0m σ o.dst (sV (.int k (if b < a then b else a))) | _, _ => .fail)
   | _ => .fail)
 | _ => .raw g σ o
def z9b (σ : St) (d : Option Tmp) (cs : List AC) : R := match d with
 | some d => (match get σ.b d with | none => bR ((d, .one (.a d 0)) :: σ.t) (z09 σ.b d (.var cs)) | some _ => .fail)
 | none => .fail
def y6g : AV → Bool | .tup _ => false | _ => true
def q4a (F : TT) (σ : St) (t : Nat) (p x : AV) : R := match z7u F t, p, x with
 | some (_, n), .one (.e β m i k), x => (match get σ.b β with
   | some (.arr full sz ep rows) => qn (y6g x) (qn (y3e n (zh x)) (qn (q8c (q6v (zh x))) (qn (q8l (z8c β (q6v (zh x)))) (.side (m = rows.length) (.row rows i fun row => .side (k + n ≤ row.length) (.side (q5x (wfS σ.b full) (zh x)) (z08 (q7q σ.b (zh x)) fun xs =>
      bR σ.t (z09 (ym σ.b (q6v (zh x))) β (.arr full sz (Nat.succ ep) (rows.set i (putRow row k xs)))))))))))
   | _ => .fail)
 | some (false, 1), .one (.a β off), .one c => (match get σ.b β with | some (.var cs) => qn (y2w (Nat.add off 1) cs) (z08 (force (putCells cs off [c])) fun cs => bR σ.t (z09 σ.b β (.var cs))) | _ => .fail)
 | some (true, n), .one (.a β off), .agg xs => (match get σ.b β with | some (.var cs) => qn (y3e n xs) (qn (y2w (Nat.add off n) cs) (z08 (force (putCells cs off xs)) fun cs => bR σ.t (z09 σ.b β (.var cs)))) | _ => .fail)
 | _, _, _ => .fail
def y9h (F : TT) (σ : St) (t n : Nat) (ps : List (Nat × Operand)) (d : Option Tmp) : R := match d, y5u F t, y57 σ 0 ps with
 | some d, some (sz, _), some rws => (match get σ.b d with
   | none => qn (y3e n rws) (qn (Nat.ble (Nat.mul n sz) 16777216) (qn (y50 sz rws) (qn (q8c (q6v (flat rws))) (qn (q8l (z8c d (q6v (flat rws)))) (.side (q5x (wfS σ.b (q4k (flat rws))) (flat rws)) (z08 (z78 σ.b rws) fun rs =>
     bR ((d, .one (.h d n)) :: σ.t) (z09 (ym σ.b (q6v (flat rws))) d (.arr (q4k (flat rws)) sz 0 rs))))))))
   | some _ => .fail)
 | _, _, _ => .fail
def z9i (F : TT) (σ : St) (t : Nat) (l c : Operand) (d : Option Tmp) : R := match d, y5u F t, q7l F t, ev σ l, ev σ c with
 | some d, some (sz, by_), some zrow, some (.one (.b (.s (.int _ n)))), some (.one (.b (.s (.int _ n')))) => (match get σ.b d with
   | none => qn (y3e sz zrow) (.side (n = n') (.side (0 ≤ n) (.side (n * by_ ≤ 281474976710656) (.side (n ≤ 9223372036854775807) (bR ((d, .one (.h d n.toNat)) :: σ.t) (z09 σ.b d (.arr true sz 0 (List.replicate n.toNat zrow))))))))
   | some _ => .fail)
 | _, _, _, _, _ => .fail
def opR (g : Bool) (F : TT) (σ : St) (o : Oper) : R := match o.op with
 | .move x => evR σ x fun av => y0m σ o.dst av
 | .assign x => evR σ x fun av => y0m σ o.dst av
 | .pick c x y => (match ev σ c with | some (.one (.b (.s (.bool t)))) => .br t (evR σ x fun av => y0m σ o.dst av) (evR σ y fun av => y0m σ o.dst av) | _ => .fail)
 | .load t x => (match ev σ x, z7u F t with
   | some av, some (ag, n) => z53 σ av fun cs => (match ag with
     | true => qn (y2w n cs) (z08 (force (cs.take n)) fun cs => y0m σ o.dst (.agg cs))
     | false => (match cs with | [] => .fail | c :: _ => y0m σ o.dst (.one c)))
   | _, _ => .fail)
 | .binOp op t x y _ => (match ev σ x, ev σ y with
   | some (.one (.b (.s (.bool a)))), some (.one (.b (.s (.bool b)))) => qn (q8n F t) (match op with | .eql => y0m σ o.dst (sV (.bool (a == b))) | .neq => y0m σ o.dst (sV (.bool (!(a == b)))) | _ => .fail)
   | some (.one (.b (.s u))), some (.one (.b (.s v))) => z9d op u v fun r => y0m σ o.dst (sV r)
   | some (.one (.b (.l rows))), some (.one .nil) => z08 (z3a F t) fun _ => (match op with
     | .eql => .any (fun b => b = true → rows = []) fun b => y0m σ o.dst (sV (.bool b))
     | .neq => .any (fun b => b = true → rows = []) fun b => y0m σ o.dst (sV (.bool (!b)))
     | _ => .fail)
   | some (.agg cs), some (.agg cs') => z08 (z8o F t) fun ks => z08 (scs cs) fun xs => z08 (scs cs') fun ys => qn (z81 ks xs) (qn (z81 ks ys) (match op with
     | .eql => y0m σ o.dst (sV (.bool (q0w xs ys)))
     | .neq => y0m σ o.dst (sV (.bool (!(q0w xs ys))))
     | _ => .fail))
   | _, _ => .raw g σ o)
 | .unOp op _ x => (match op, ev σ x with
   | .not, some (.one (.b (.s (.bool b)))) => y0m σ o.dst (sV (.bool (!b)))
   | .neg, some (.one (.b (.s (.int k n)))) => y0m σ o.dst (sV (.int k (k.wrap (0 - n))))
   | _, _ => .fail)
 | .convert s d x => (match ev σ x, z9o F d with
   | some (.one (.b (.s (.int _ n)))), some k => qn (y8o F s) (y0m σ o.dst (sV (.int k (k.wrap n))))
   | _, _ => .raw g σ o)
 | .fieldAddr s x f => (match ev σ x, z7l F s f with
   | some (.one (.b (.p row))), some off => qn (y2w off row) (z08 (force (row.drop off)) fun row => y0m σ o.dst (.one (.b (.p row))))
   | some (.one (.a β i)), some off => y0m σ o.dst (.one (.a β (i + off)))
   | some (.one (.e β m i k)), some off => y0m σ o.dst (.one (.e β m i (k + off)))
   | _, _ => .fail)
 | .field s x f => (match ev σ x, y7t F s f with
   | some (.agg cs), some (true, off, n) => qn (y2w (Nat.add off n) cs) (z08 (force ((cs.drop off).take n)) fun cs => y0m σ o.dst (.agg cs))
   | some (.agg cs), some (false, off, _) => z08 (nth cs off) fun c => y0m σ o.dst (.one c)
   | _, _ => .fail)
 | .indexAddr t x i => (match ev σ x, ev σ i, z3a F t with
   | some (.one (.b (.l rows))), some (.one (.b (.s (.int _ n)))), some sz => .side (0 ≤ n) (.row rows n.toNat fun row => .side (row.length = sz) (y0m σ o.dst (.one (.b (.p row)))))
   | some (.one (.h β m)), some (.one (.b (.s (.int _ n)))), some sz => (match get σ.b β with
     | some (.arr _ _ _ rows) => .side (m = rows.length) (.side (0 ≤ n) (.row rows n.toNat fun row => .side (row.length = sz) (y0m σ o.dst (.one (.e β m n.toNat 0)))))
     | _ => .fail)
   | _, _, _ => .raw g σ o)
 | .index t x i => (match ev σ x, ev σ i with
   | some (.one (.b (.s (.string s)))), some (.one (.b (.s (.int _ n)))) => qn (z6x F t) (.side (0 ≤ n) (.byte s n.toNat fun b => y0m σ o.dst (sV (.int .u8 b.toNat))))
   | _, _ => .fail)
 | .slice t x lo hi none => (match ev σ x, q87 lo σ, q87 hi σ with
   | some (.one (.b (.s (.string s)))), some l, some h => qn (z6x F t) (.side (0 ≤ l.getD 0) (.side (l.getD 0 ≤ h.getD s.size) (.side (h.getD s.size ≤ s.size) (y0m σ o.dst (sV (.string (s.extract (l.getD 0).toNat (h.getD s.size).toNat)))))))
   | some (.one (.b (.l rows))), some l, some h => z08 (z3a F t) fun sz => .side (l.getD 0 = 0 ∨ ∀ row ∈ rows, row.length = sz) (.side (0 ≤ l.getD 0) (.side (l.getD 0 ≤ h.getD rows.length) (.side (h.getD rows.length ≤ rows.length) (y0m σ o.dst (.one (.b (.l ((rows.take (h.getD rows.length).toNat).drop (l.getD 0).toNat))))))))
   | _, _, _ => .raw g σ o)
 | .extract x i => (match ev σ x with | some (.tup vs) => z08 (nth vs i) fun av => y0m σ o.dst av | _ => .fail)
 | .makeFunc (.func f) first caps => (match first.toList, caps.toList with
   | [x], [] => (match ev σ x with
     | some (.one (.a β off)) => y0m σ o.dst (.one (.cm f β off))
     | some (.one (.b c)) => y0m σ o.dst (.one (.b (.m f false [c])))
     | some (.agg cs) => z08 (q8k cs) fun l => y0m σ o.dst (.one (.b (.m f true l)))
     | _ => .fail)
   | [], _ => z08 (q6z σ caps.toList) fun cs => y0m σ o.dst (.one (.cl f cs))
   | _, _ => .fail)
 | .build t ps => z08 (z5v F t) fun z => z08 (y66 F σ t z ps.toList) fun cs => y0m σ o.dst (.agg cs)
 | .alloc e => (match y7l F e with | some z => qn (y6g z) (z9b σ o.dst (zh z)) | none => .fail)
 | .box _ x => (match ev σ x with | some z => qn (y6g z) (z9b σ o.dst (zh z)) | none => .fail)
 | .store t p x => (match o.dst, ev σ p, ev σ x with
   | none, some pv, some xv => q4a F σ t pv xv
   | _, _, _ => .fail)
 | .buildSlice t n ps => y9h F σ t n ps.toList o.dst
 | .makeSlice t l c => z9i F σ t l c o.dst
 | .call c => y7z g F σ o c
 | .nilCheck x => evR σ x fun av => (match av with | .one (.b (.p row)) => y0m σ o.dst (.one (.b (.p row))) | .one (.a β off) => y0m σ o.dst (.one (.a β off)) | .one (.e β m i k) => y0m σ o.dst (.one (.e β m i k)) | _ => .fail)
 | _ => .raw g σ o
end Go.Sx
end
