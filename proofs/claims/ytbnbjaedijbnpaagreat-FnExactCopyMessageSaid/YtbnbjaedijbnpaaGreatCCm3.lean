/- WHAT IS PROVED: parts of the proof of fnExactCopyMessage_holds: a frame for walks, what each Go function that it reaches answers, and plain lemmas; no condition beyond those that each theorem names. -/
import Derived.Test.YtbnbjaedijbnpaaGreatCCm2
import Derived.WalkKit
import Derived.OrdersHeld
import Derived.DeepKeys
import Derived.Maps.RangeWalk
import Derived.Maps.OwnOps
import Derived.WideKeyEntry
set_option linter.unusedVariables false
set_option linter.unusedSimpArgs false
section
namespace Go.Sx
open Go.RowKit (Below)
structure TI where
 lay : Option (Bool × Nat)
 esz : Option Nat
 esI : Option (Nat × Nat)
 str : Bool
 boo : Bool
 und : Bool
 ik : Option IntKind
 zero : Option AV
 y61 : Option (List AC)
 zrow : Option (List Cell)
 flds : List (Option Nat × Option (Bool × Nat × Nat))
 cmp : Option (List CK)
inductive TT where
 | leaf
 | node (k : Nat) (v : TI) (l r : TT)
def z9t (P : Program) (t : TypeId) : Bool := match P.underlying t with | some .bool => true | _ => false
def zbn (P : Program) (t : TypeId) : Nat := match P.underlying t with | some (.struct fs) => fs.size | _ => 0
def mkF (P : Program) (t : TypeId) : Nat → Nat → List (Option Nat × Option (Bool × Nat × Nat))
 | 0, _ => []
 | n + 1, i => (za7 P t i, fld P t i) :: mkF P t n (i + 1)
def zb2 (P : Program) (t : TypeId) : TI := ⟨lay P t, esz P t, q0x P t, z5m P t, z9t P t, (P.underlying t).isSome, z8o P t, z1t P t, y61 P t, z8c P t, mkF P t (zbn P t) 0, yai P t⟩
def TT.map (P : Program) : TT → TT
 | .leaf => .leaf
 | .node k _ l r => .node k (zb2 P k) (l.map P) (r.map P)
def TT.find : TT → Nat → Option TI
 | .leaf, _ => none
 | .node k v l r, t => bif Nat.beq k t then some v else bif Nat.blt t k then l.find t else r.find t
theorem TT.y2t {P : Program} : ∀ {F : TT} {t : Nat} {i : TI}, (F.map P).find t = some i → i = zb2 P t
 | .leaf, t, i, h => by cases h
 | .node k v l r, t, i, h => by
   rw [TT.map, TT.find] at h
   by_cases hk : k = t
   · subst hk; simp only [Nat.beq_refl, cond_true, Option.some.injEq] at h; exact h.symm
   · rw [beq_false hk] at h
     cases hb : Nat.blt t k with
     | true => rw [hb] at h; exact TT.y2t h
     | false => rw [hb] at h; exact TT.y2t h
def nth {α : Type} : List α → Nat → Option α
 | [], _ => none
 | a :: l, n => bif Nat.beq n 0 then some a else nth l (Nat.pred n)
theorem z25 {α : Type} : ∀ (l : List α) (n : Nat), nth l n = l[n]?
 | [], n => by simp [nth]
 | a :: l, 0 => rfl
 | a :: l, n + 1 => by rw [nth, beq_false (by omega), List.getElem?_cons_succ]; exact z25 l n
theorem z5q {P : Program} {t : Nat} : ∀ {n i k : Nat} {x : Option Nat × Option (Bool × Nat × Nat)}, (mkF P t n i)[k]? = some x → x = (za7 P t (i + k), fld P t (i + k))
 | 0, i, k, x, h => by simp [mkF] at h
 | n + 1, i, k, x, h => by
   rw [mkF] at h
   cases k with
   | zero => cases h; rfl
   | succ k => rw [List.getElem?_cons_succ] at h; rw [z5q h]; simp only [Nat.add_assoc, Nat.add_comm 1 k]
def z9f (F : TT) (t : Nat) : Option (Bool × Nat) := match F.find t with | some i => i.lay | none => none
def z42 (F : TT) (t : Nat) : Option Nat := match F.find t with | some i => i.esz | none => none
def q75 (F : TT) (t : Nat) : Option (Nat × Nat) := match F.find t with | some i => i.esI | none => none
def y8e (F : TT) (t : Nat) : Bool := match F.find t with | some i => i.str | none => false
def qaa (F : TT) (t : Nat) : Bool := match F.find t with | some i => i.boo | none => false
def yab (F : TT) (t : Nat) : Bool := match F.find t with | some i => i.und | none => false
def qbi (F : TT) (t : Nat) : Option IntKind := match F.find t with | some i => i.ik | none => none
def z94 (F : TT) (t : Nat) : Option AV := match F.find t with | some i => i.zero | none => none
def q5c (F : TT) (t : Nat) : Option (List AC) := match F.find t with | some i => i.y61 | none => none
def y94 (F : TT) (t : Nat) : Option (List Cell) := match F.find t with | some i => i.zrow | none => none
def zab (F : TT) (t : Nat) : Option (List CK) := match F.find t with | some i => i.cmp | none => none
def q93 (F : TT) (t f : Nat) : Option Nat := match F.find t with | some i => (match nth i.flds f with | some x => x.1 | none => none) | none => none
def y9e (F : TT) (t f : Nat) : Option (Bool × Nat × Nat) := match F.find t with | some i => (match nth i.flds f with | some x => x.2 | none => none) | none => none
section
variable {P : Program} {F : TT}
theorem z1q {α : Type} {F : TT} {t : Nat} {g : TI → Option α} {x : α} (hF : F = F.map P) (h : (match F.find t with | some i => g i | none => none) = some x) : g (zb2 P t) = some x := by
 cases hi : F.find t with
 | none => rw [hi] at h; cases h
 | some i => rw [hi] at h; rw [hF] at hi; rw [← TT.y2t hi]; exact h
theorem z76 {F : TT} {t : Nat} {g : TI → Bool} (hF : F = F.map P) (h : (match F.find t with | some i => g i | none => false) = true) : g (zb2 P t) = true := by
 cases hi : F.find t with
 | none => rw [hi] at h; cases h
 | some i => rw [hi] at h; rw [hF] at hi; rw [← TT.y2t hi]; exact h
theorem q2r (hF : F = F.map P) {t : Nat} {x : Bool × Nat} (h : z9f F t = some x) : lay P t = some x := z1q (g := TI.lay) hF h
theorem y0k (hF : F = F.map P) {t : Nat} {x : Nat} (h : z42 F t = some x) : esz P t = some x := z1q (g := TI.esz) hF h
theorem q02 (hF : F = F.map P) {t : Nat} {x : Nat × Nat} (h : q75 F t = some x) : q0x P t = some x := z1q (g := TI.esI) hF h
theorem q9e (hF : F = F.map P) {t : Nat} {x : IntKind} (h : qbi F t = some x) : z8o P t = some x := z1q (g := TI.ik) hF h
theorem y76 (hF : F = F.map P) {t : Nat} {x : AV} (h : z94 F t = some x) : z1t P t = some x := z1q (g := TI.zero) hF h
theorem z6h (hF : F = F.map P) {t : Nat} {x : List AC} (h : q5c F t = some x) : y61 P t = some x := z1q (g := TI.y61) hF h
theorem q76 (hF : F = F.map P) {t : Nat} {x : List Cell} (h : y94 F t = some x) : z8c P t = some x := z1q (g := TI.zrow) hF h
theorem z8e (hF : F = F.map P) {t : Nat} {x : List CK} (h : zab F t = some x) : yai P t = some x := z1q (g := TI.cmp) hF h
theorem y42 (hF : F = F.map P) {t : Nat} (h : y8e F t = true) : z5m P t = true := z76 (g := TI.str) hF h
theorem q8d (hF : F = F.map P) {t : Nat} (h : qaa F t = true) : P.underlying t = some .bool := by
 have : z9t P t = true := z76 (g := TI.boo) hF h
 unfold z9t at this
 split at this
 · assumption
 · cases this
theorem q8e (hF : F = F.map P) {t : Nat} (h : yab F t = true) : ∃ u, P.underlying t = some u := Option.isSome_iff_exists.1 (z76 (g := TI.und) hF h)
theorem y2v (hF : F = F.map P) {t f x : Nat} (h : q93 F t f = some x) : za7 P t f = some x := by
 have := z1q (g := fun i => match nth i.flds f with | some x => x.1 | none => none) hF h
 split at this
 · rename_i y hy
   rw [z25] at hy
   rw [z5q hy, Nat.zero_add] at this
   exact this
 · cases this
theorem y2r (hF : F = F.map P) {t f : Nat} {x : Bool × Nat × Nat} (h : y9e F t f = some x) : fld P t f = some x := by
 have := z1q (g := fun i => match nth i.flds f with | some x => x.2 | none => none) hF h
 split at this
 · rename_i y hy
   rw [z25] at hy
   rw [z5q hy, Nat.zero_add] at this
   exact this
 · cases this
end
inductive R where
 | fail
 | ok (σ : St)
 | side (p : Prop) (r : R)
 | br (t : Bool) (r r' : R)
 | any (q : Bool → Prop) (f : Bool → R)
 | row (rows : List (List Cell)) (i : Nat) (f : List Cell → R)
 | byte (s : ByteArray) (i : Nat) (f : UInt8 → R)
 | call (g : Bool) (σ : St) (d : Option Tmp) (f : Nat) (avs : List AV)
 | raw (g : Bool) (σ : St) (o : Oper)
def R.holds (P : Program) : R → (St → Prop) → Prop
 | .fail, _ => False
 | .ok σ, K => K σ
 | .side p r, K => p ∧ r.holds P K
 | .br t r r', K => (t = true → r.holds P K) ∧ (t = false → r'.holds P K)
 | .any q f, K => ∀ b, q b → (f b).holds P K
 | .row rows i f, K => ∃ row, rows[i]? = some row ∧ (f row).holds P K
 | .byte s i f, K => ∃ b, s[i]? = some b ∧ (f b).holds P K
 | .call g σ d f avs, K => q41 P σ d f avs K ∨ (g = true ∧ y41 P σ d f avs K)
 | .raw g σ o, K => opL g P σ o K
def force {α : Type} : List α → Option (List α)
 | [] => some []
 | a :: l => match force l with | some l' => some (a :: l') | none => none
theorem force_eq {α : Type} : ∀ {l l' : List α}, force l = some l' → l' = l
 | [], l', h => by cases h; rfl
 | a :: l, l', h => by
   rw [force] at h
   split at h
   · rename_i l1 h1; cases h; rw [force_eq h1]
   · cases h
def q3n {α : Type} : Nat → List α → Bool
 | 0, _ => true
 | _ + 1, [] => false
 | n + 1, _ :: l => q3n n l
theorem q0u {α : Type} : ∀ {n : Nat} {l : List α}, q3n n l = true → n ≤ l.length
 | 0, l, _ => Nat.zero_le _
 | n + 1, [], h => by cases h
 | n + 1, _ :: l, h => Nat.succ_le_succ (q0u (l := l) h)
def y47 {α : Type} : Nat → List α → Bool
 | 0, [] => true
 | 0, _ :: _ => false
 | _ + 1, [] => false
 | n + 1, _ :: l => y47 n l
theorem z13 {α : Type} : ∀ {n : Nat} {l : List α}, y47 n l = true → l.length = n
 | 0, [], _ => rfl
 | 0, _ :: _, h => by cases h
 | n + 1, [], h => by cases h
 | n + 1, _ :: l, h => congrArg (· + 1) (z13 (l := l) h)
def ikN : IntKind → Nat
 | .i8 => 0 | .i16 => 1 | .i32 => 2 | .i64 => 3 | .u8 => 4 | .u16 => 5 | .u32 => 6 | .u64 => 7
theorem y9s {k k' : IntKind} (h : Nat.beq (ikN k) (ikN k') = true) : k = k' := by
 cases k <;> cases k' <;> first | rfl | cases h
def qr (b : Bool) (r : R) : R := match b with | true => r | false => .fail
theorem qc {P : Program} {b : Bool} {r : R} {K : St → Prop} (h : (qr b r).holds P K) : b = true ∧ r.holds P K := by
 cases b with
 | true => exact ⟨rfl, h⟩
 | false => exact h.elim
def q0s (σ : St) (d : Option Tmp) (av : AV) : R := match σ, d with
 | ⟨t, b⟩, some d => .ok ⟨(d, av) :: t, b⟩
 | σ, none => .ok σ
theorem q1n {P : Program} {σ : St} {d : Option Tmp} {av : AV} {K : St → Prop} : (q0s σ d av).holds P K ↔ K (σ.put d av) := by
 cases σ; cases d <;> rfl
def evR (σ : St) (x : Operand) (f : AV → R) : R := match ev σ x with | some av => f av | none => .fail
def sV (v : Value) : AV := .one (.b (.s v))
def y65 (σ : St) (av : AV) (f : List AC → R) : R := match av with
 | .one (.b (.p row)) => (match force (row.map .b) with | some cs => f cs | none => .fail)
 | .one (.a β off) => (match get σ.b β with | some (.var cs) => (match force ((cs.drop off).map (unk σ.b)) with | some cs => f cs | none => .fail) | _ => .fail)
 | .one (.e β m i k) => (match get σ.b β with
   | some (.arr full _ ep rows) => .side (m = rows.length) (.row rows i fun row => (match y30 full β ep i k (row.drop k) with | some cs => f cs | none => .fail))
   | _ => .fail)
 | _ => .fail
theorem q7c {P : Program} {σ : St} {av : AV} {f : List AC → R} {K : St → Prop} {K' : List AC → Prop} (hf : ∀ cs, (f cs).holds P K → K' cs) (h : (y65 σ av f).holds P K) : y1t σ av K' := by
 unfold y65 at h
 unfold y1t
 split at h
 · split at h
   · rename_i cs hcs; rw [force_eq hcs] at h; exact hf _ h
   · exact h.elim
 · rename_i β off
   dsimp only
   split at h
   · rename_i cs hcs
     split at h
     · rename_i cs' hcs'; rw [force_eq hcs'] at h; rw [hcs]; exact hf _ h
     · exact h.elim
   · exact h.elim
 · rename_i β m i k
   dsimp only
   split at h
   · rename_i full sz ep rows hab
     obtain ⟨h1, row, h2, h3⟩ := h
     rw [hab]
     refine ⟨h1, ?_⟩
     rw [h2]
     dsimp only at h3 ⊢
     split at h3
     · rename_i cs hcs; rw [hcs]; exact hf _ h3
     · exact h3.elim
   · exact h.elim
 · exact h.elim
def z9q (op : BinOp) (k : IntKind) (x y : Int) (f : Value → R) : R := match op with
 | .add => f (.int k (k.wrap (x + y))) | .sub => f (.int k (k.wrap (x - y))) | .mul => f (.int k (k.wrap (x * y)))
 | .eql => f (.bool (x == y)) | .neq => f (.bool (x != y)) | .lss => f (.bool (decide (x < y))) | .leq => f (.bool (decide (x ≤ y)))
 | .gtr => f (.bool (decide (x > y))) | .geq => f (.bool (decide (x ≥ y)))
 | .quo => .side (y ≠ 0) (f (.int k (k.wrap (x.tdiv y)))) | .rem => .side (y ≠ 0) (f (.int k (x.tmod y)))
 | .and => f (.int k (bits .and k x y)) | .or => f (.int k (bits .or k x y)) | .xor => f (.int k (bits .xor k x y))
 | _ => .fail
def ybf (op : BinOp) (a b : ByteArray) (f : Value → R) : R := match op with
 | .add => .side (a.size + b.size ≤ 9223372036854775807) (f (.string (a ++ b)))
 | .eql => f (.bool (a.toList == b.toList)) | .neq => f (.bool (!(a.toList == b.toList)))
 | .lss => f (.bool (Op.bytesLess a.toList b.toList)) | .leq => f (.bool (Op.bytesLess a.toList b.toList || (a.toList == b.toList)))
 | .gtr => f (.bool (!(Op.bytesLess a.toList b.toList || (a.toList == b.toList)))) | .geq => f (.bool (!(Op.bytesLess a.toList b.toList)))
 | _ => .fail
def yb6 (op : BinOp) (u v : Value) (f : Value → R) : R := match u, v with
 | .int k x, .int k' y => (match op with
   | .shl => .side (0 ≤ y) (f (.int k (k.wrap (x * 2 ^ (min y.toNat k.bits)))))
   | .shr => .side (0 ≤ y) (f (.int k (x.fdiv (2 ^ (min y.toNat k.bits)))))
   | op => qr (Nat.beq (ikN k) (ikN k')) (z9q op k x y f))
 | .string a, .string b => ybf op a b f
 | _, _ => .fail
section
variable {P : Program} {K : St → Prop} {K' : Value → Prop} {f : Value → R}
theorem q8n {op : BinOp} {k : IntKind} {x y : Int} (hf : ∀ v, (f v).holds P K → K' v) (h : (z9q op k x y f).holds P K) : match qak op k x y with | some r => K' r | none => False := by
 cases op <;> simp only [z9q] at h <;> simp only [qak] <;> first
  | exact hf _ h
  | exact h.elim
  | (rw [if_neg h.1]; exact hf _ h.2)
theorem za4 {op : BinOp} {a b : ByteArray} (hf : ∀ v, (f v).holds P K → K' v) (h : (ybf op a b f).holds P K) : y6f op a b K' := by
 cases op <;> simp only [ybf] at h <;> simp only [y6f] <;> first
  | exact hf _ h
  | exact h.elim
  | exact ⟨h.1, hf _ h.2⟩
theorem y9i {op : BinOp} {u v : Value} (hf : ∀ v, (f v).holds P K → K' v) (h : (yb6 op u v f).holds P K) : yah op u v K' := by
 unfold yb6 at h
 unfold yah
 split at h
 · dsimp only
   split at h
   · exact ⟨h.1, hf _ h.2⟩
   · exact ⟨h.1, hf _ h.2⟩
   · rename_i h1 h2
     obtain ⟨hk, h'⟩ := qc h
     have hk := y9s hk
     subst hk
     have := q8n hf h'
     split
     · exact absurd rfl h1
     · exact absurd rfl h2
     · rw [if_pos rfl]; exact this
 · exact za4 hf h
 · exact h.elim
end
def bR (t : List (Nat × AV)) (b : List (Nat × AB)) : R := match force b with | some b => .ok ⟨t, b⟩ | none => .fail
theorem qw {P : Program} {t : List (Nat × AV)} {b : List (Nat × AB)} {K : St → Prop} (h : (bR t b).holds P K) : K ⟨t, b⟩ := by
 unfold bR at h
 split at h
 · rename_i b' hb; rw [force_eq hb] at h; exact h
 · exact h.elim
def z9a (B : List (Nat × AB)) : List AC → Option (List Cell)
 | [] => some []
 | .b c :: l => (match z9a B l with | some l' => some (c :: l') | none => none)
 | .h γ _ :: l => (match get B γ, z9a B l with | some (.arr _ _ _ rows), some l' => some (.l rows :: l') | _, _ => none)
 | .nil :: l => (match z9a B l with | some l' => some (.l [] :: l') | none => none)
 | .em :: l => (match z9a B l with | some l' => some (.l [] :: l') | none => none)
 | _ => none
theorem y4d {B : List (Nat × AB)} : ∀ {cs : List AC} {l : List Cell}, z9a B cs = some l → l = cs.map (z2r B)
 | [], l, h => by cases h; rfl
 | c :: cs, l, h => by
   cases c <;> rw [z9a] at h <;> first
    | (split at h
       · rename_i l' hl; cases h; rw [y4d hl]; rfl
       · cases h)
    | (split at h
       · rename_i rows l' hg hl; cases h; rw [y4d hl]; simp [z2r, hg]
       · cases h)
    | cases h
def q8q (B : List (Nat × AB)) : List (List AC) → Option (List (List Cell))
 | [] => some []
 | cs :: l => match z9a B cs, q8q B l with | some r, some l' => some (r :: l') | _, _ => none
theorem z6a {B : List (Nat × AB)} : ∀ {rws : List (List AC)} {l : List (List Cell)}, q8q B rws = some l → l = rws.map fun cs => cs.map (z2r B)
 | [], l, h => by cases h; rfl
 | c :: cs, l, h => by
   rw [q8q] at h
   split at h
   · rename_i r l' hr hl; cases h; rw [y4d hr, z6a hl]; rfl
   · cases h
def z8d : List AC → List Nat
 | [] => []
 | .h γ _ :: l => γ :: z8d l
 | _ :: l => z8d l
theorem z49 : ∀ (cs : List AC), z8d cs = cs.filterMap gam
 | [] => rfl
 | c :: cs => by
   have ih := z49 cs
   cases c <;> simp only [z8d, ih] <;> rfl
def z9x (x : Nat) : List Nat → Bool
 | [] => false
 | y :: l => bif Nat.beq x y then true else z9x x l
theorem z2u {x : Nat} : ∀ {l : List Nat}, z9x x l = false → x ∉ l
 | [], _ => by simp
 | y :: l, h => by
   rw [z9x] at h
   cases hb : Nat.beq x y with
   | true => rw [hb] at h; cases h
   | false =>
     rw [hb] at h
     have hne : x ≠ y := fun e => by subst e; simp at hb
     have := z2u (l := l) h
     simp [hne, this]
def y8r : List Nat → Bool
 | [] => true
 | x :: l => bif z9x x l then false else y8r l
theorem z6 : ∀ {l : List Nat}, y8r l = true → l.Nodup
 | [], _ => List.nodup_nil
 | x :: l, h => by
   rw [y8r] at h
   cases hb : z9x x l with
   | true => rw [hb] at h; cases h
   | false => rw [hb] at h; exact List.nodup_cons.2 ⟨z2u hb, z6 h⟩
def ya7 (b : Bool) : Bool := match b with | true => false | false => true
theorem z39 {b : Bool} (h : ya7 b = true) : b = false := by cases b <;> first | rfl | cases h
def y62 (sz : Nat) : List (List AC) → Bool
 | [] => true
 | cs :: l => bif y47 sz cs then y62 sz l else false
theorem y4o {sz : Nat} : ∀ {l : List (List AC)}, y62 sz l = true → (l.all fun cs => cs.length == sz) = true
 | [], _ => rfl
 | cs :: l, h => by
   rw [y62] at h
   cases hb : y47 sz cs with
   | false => rw [hb] at h; cases h
   | true => rw [hb] at h; simp only [List.all_cons, z13 hb, beq_self_eq_true, Bool.true_and]; exact y4o h
def flat (l : List (List AC)) : List AC := l.flatten
def y6b (σ : St) : Nat → List (Nat × Operand) → Option (List (List AC))
 | _, [] => some []
 | i, (j, x) :: ps => bif Nat.beq i j then (match ev σ x, y6b σ (Nat.succ i) ps with
   | some (.one c), some r => some ([c] :: r)
   | some (.agg cs), some r => some (cs :: r)
   | _, _ => none) else none
theorem z3a {σ : St} : ∀ {ps : List (Nat × Operand)} {i : Nat} {r : List (List AC)}, y6b σ i ps = some r → y1x σ i ps = some r
 | [], i, r, h => h
 | (j, x) :: ps, i, r, h => by
   rw [y6b] at h
   by_cases hij : i = j
   · subst hij
     simp only [Nat.beq_refl, cond_true] at h
     rw [y1x, if_pos rfl]
     split at h
     · rename_i c r' h1 h2; cases h; rw [h1, z3a h2]
     · rename_i c r' h1 h2; cases h; rw [h1, z3a h2]
     · cases h
   · rw [beq_false hij] at h; cases h
def y7i (F : TT) (σ : St) (t : Nat) : List AC → List (Nat × Operand) → Option (List AC)
 | cs, [] => some cs
 | cs, (i, x) :: ps => match y9e F t i, ev σ x with
   | some (_, off, n), some (.one c) => (match Nat.beq n 1, q3n (Nat.add off 1) cs, force (putCells cs off [c]) with | true, true, some cs' => y7i F σ t cs' ps | _, _, _ => none)
   | some (_, off, n), some (.agg xs) => (match y47 n xs, q3n (Nat.add off n) cs, force (putCells cs off xs) with | true, true, some cs' => y7i F σ t cs' ps | _, _, _ => none)
   | _, _ => none
def y6k (σ : St) : List Operand → Option (List (Nat × Nat))
 | [] => some []
 | x :: l => match ev σ x, y6k σ l with | some (.one (.a β off)), some r => some ((β, off) :: r) | _, _ => none
theorem q44 {σ : St} : ∀ {l : List Operand}, y6k σ l = l.mapM (fun x => match ev σ x with | some (.one (.a β off)) => some (β, off) | _ => none)
 | [] => rfl
 | x :: l => by
   rw [List.mapM_cons, ← q44 (l := l), y6k]
   split
   · rename_i β off r h1 h2
     simp [h1, h2]
   · rename_i h1
     cases he : y6k σ l with
     | none => split <;> simp
     | some r =>
       split
       · rename_i β off h2; exact absurd he (h1 β off r h2)
       · simp
def z8h (σ : St) : List Operand → Option (List Cell)
 | [] => some []
 | x :: l => match ev σ x, z8h σ l with | some (.one (.b c)), some r => some (c :: r) | _, _ => none
theorem z65 {σ : St} : ∀ {l : List Operand} {r : List Cell}, z8h σ l = some r → l.mapM (fun x => match ev σ x with | some (.one (.b c)) => some c | _ => none) = some r
 | [], r, h => by cases h; rfl
 | x :: l, r, h => by
   rw [z8h] at h
   split at h
   · rename_i c r' h1 h2
     cases h
     simp [h1, z65 h2]
   · cases h
def q5j : List AC → Bool
 | [] => true
 | .b (.s _) :: l => q5j l
 | .b _ :: _ => false
 | _ :: l => q5j l
theorem q2t : ∀ (cs : List AC), q5j cs = y2j cs
 | [] => rfl
 | c :: cs => by
   cases c with
   | b c => cases c <;> simp [q5j, y2j] <;> exact q2t cs
   | _ => simp [q5j, y2j]; exact q2t cs
section
variable {P : Program} {F : TT}
theorem y48 (hF : F = F.map P) {σ : St} {t : Nat} : ∀ {ps : List (Nat × Operand)} {cs r : List AC}, y7i F σ t cs ps = some r → z2j P σ t cs ps = some r
 | [], cs, r, h => h
 | (i, x) :: ps, cs, r, h => by
   rw [y7i] at h
   rw [z2j]
   split at h
   · rename_i off n c h1 h2
     rw [y2r hF h1, h2]
     dsimp only
     split at h
     · rename_i cs' e1 e2 e3
       rw [if_pos ⟨Nat.eq_of_beq_eq_true e1, q0u e2⟩, ← force_eq e3]
       exact y48 hF h
     · cases h
   · rename_i off n xs h1 h2
     rw [y2r hF h1, h2]
     dsimp only
     split at h
     · rename_i cs' e1 e2 e3
       rw [if_pos ⟨z13 e1, q0u e2⟩, ← force_eq e3]
       exact y48 hF h
     · cases h
   · cases h
end
def q9s : Option Operand → St → Option (Option Int)
 | none, _ => some none
 | some x, σ => match ev σ x with | some (.one (.b (.s (.int _ n)))) => some (some n) | _ => none
def y0h {α : Type} (o : Option α) (f : α → R) : R := match o with | some a => f a | none => .fail
theorem yi {P : Program} {K : St → Prop} {α : Type} {o : Option α} {f : α → R} (h : (y0h o f).holds P K) : ∃ a, o = some a ∧ (f a).holds P K := by
 cases o with
 | none => exact h.elim
 | some a => exact ⟨a, rfl, h⟩
def qba (F : TT) (σ : St) (t : Nat) (av : AV) (f : Value → R) : R := match av with
 | .one (.b (.l rows)) => y0h (z42 F t) fun _ => f (.int .i64 rows.length)
 | .one .nil => y0h (z42 F t) fun _ => f (.int .i64 0)
 | .one .em => y0h (z42 F t) fun _ => f (.int .i64 0)
 | .one (.h _ n) => y0h (z42 F t) fun _ => f (.int .i64 n)
 | .one (.b (.s (.string s))) => qr (y8e F t) (f (.int .i64 s.size))
 | .one (.q β m i k) => y0h (z42 F t) fun _ => (match get σ.b β with
   | some (.arr _ _ ep rows) => .side (m = ep) (.row rows i fun row => match nth row k with | some (.l rs) => f (.int .i64 rs.length) | _ => .fail)
   | _ => .fail)
 | _ => .fail
def y9j (g : Bool) (F : TT) (σ : St) (o : Oper) (c : Call) : R := match c.callee with
 | .builtin .len => (match c.argTypes.toList, c.args.toList with
   | t :: _, [x] => evR σ x fun av => qba F σ t av fun r => q0s σ o.dst (sV r)
   | _, _ => .fail)
 | .builtin .append => (match c.argTypes.toList, c.args.toList, o.dst with
   | [t, tx], [s, x], some d => (match q75 F t, q75 F tx, ev σ s, ev σ x with
     | some (sz, by_), some _, some (.one (.h β n)), some (.one (.h γ m)) => (match get σ.b β, get σ.b γ with
       | some (.arr full0 sz0 ep rows0), some (.arr full sz1 _ rows) =>
         qr (Nat.beq sz0 sz) (qr (Nat.beq sz1 sz) (qr (ya7 (Nat.beq β γ)) (.side (n = rows0.length) (.side (m = rows.length) (.side (full0 = full ∨ rows0 = []) (.side (rows0.length + rows.length ≤ 9223372036854775807) (.side ((rows0.length + rows.length) * by_ ≤ 140737488355328)
         (bR ((d, .one (.h β (rows0.length + rows.length))) :: σ.t) (q0b (yo σ.b [γ]) β (.arr full sz (Nat.succ ep) (rows0 ++ rows)))))))))))
       | _, _ => .fail)
     | some (sz, by_), some _, some (.one (.h β n)), some (.one (.b (.l rows))) => (match get σ.b β with
       | some (.arr full0 sz0 ep rows0) => qr (Nat.beq sz0 sz) (.side (n = rows0.length) (.side (∀ row ∈ rows, row.length = sz) (.side (full0 = true → zr rows) (.side (rows0.length + rows.length ≤ 9223372036854775807) (.side ((rows0.length + rows.length) * by_ ≤ 140737488355328)
         (bR ((d, .one (.h β (rows0.length + rows.length))) :: σ.t) (q0b σ.b β (.arr full0 sz (Nat.succ ep) (rows0 ++ rows)))))))))
       | _ => .fail)
     | some (sz, by_), some _, some (.one .nil), some (.one (.h γ m)) => (match get σ.b d, get σ.b γ with
       | none, some (.arr full sz1 _ rows) => qr (Nat.beq sz1 sz) (qr (ya7 (Nat.beq d γ)) (.side (m = rows.length) (.side (rows.length ≤ 9223372036854775807) (.side (rows.length * by_ ≤ 140737488355328) (bR ((d, .one (.h d rows.length)) :: σ.t) (q0b (yo σ.b [γ]) d (.arr full sz 0 rows)))))))
       | _, _ => .fail)
     | some (sz, by_), some _, some (.one .em), some (.one (.h γ m)) => (match get σ.b d, get σ.b γ with
       | none, some (.arr full sz1 _ rows) => qr (Nat.beq sz1 sz) (qr (ya7 (Nat.beq d γ)) (.side (m = rows.length) (.side (rows.length ≤ 9223372036854775807) (.side (rows.length * by_ ≤ 140737488355328) (bR ((d, .one (.h d rows.length)) :: σ.t) (q0b (yo σ.b [γ]) d (.arr full sz 0 rows)))))))
       | _, _ => .fail)
     | some (sz, by_), some _, some (.one .em), some (.one (.b (.l rows))) => (match get σ.b d with
       | none => .side (∀ row ∈ rows, row.length = sz) (.side (zr rows) (.side (rows.length ≤ 9223372036854775807) (.side (rows.length * by_ ≤ 140737488355328) (bR ((d, .one (.h d rows.length)) :: σ.t) (q0b σ.b d (.arr true sz 0 rows))))))
       | _ => .fail)
     | some (sz, by_), some _, some (.one .nil), some (.one (.b (.l rows))) => (match get σ.b d with
       | none => .side (∀ row ∈ rows, row.length = sz) (.side (zr rows) (.side (rows.length ≤ 9223372036854775807) (.side (rows.length * by_ ≤ 140737488355328) (bR ((d, .one (.h d rows.length)) :: σ.t) (q0b σ.b d (.arr true sz 0 rows))))))
       | _ => .fail)
     | _, _, _, _ => .fail)
   | _, _, _ => .fail)
 | .value x => (match ev σ x, evs σ c.args.toList with
   | some (.one (.cl f caps)), some avs => y0h (force (avs ++ caps.map fun c => .one (.a c.1 c.2))) fun avs => .call g σ o.dst f avs
   | some (.one (.b (.f f caps))), some avs => y0h (force (avs ++ caps.map fun c => .one (.b c))) fun avs => .call g σ o.dst f avs
   | some (.one (.cm f β off)), some avs => .call g σ o.dst f (.one (.a β off) :: avs)
   | some (.one (.b (.m f ag row))), some avs => .call g σ o.dst f (q7y ag row :: avs)
   | _, _ => .fail)
 | .builtin .max => (match c.args.toList with
   | [x, y] => (match ev σ x, ev σ y with | some (.one (.b (.s (.int k a)))), some (.one (.b (.s (.int _ b)))) => q0s σ o.dst (sV (.int k (mx a b))) | _, _ => .fail)
   | [x, y, z, t] => (match ev σ x, ev σ y, ev σ z, ev σ t with | some (.one (.b (.s (.int k a)))), some (.one (.b (.s (.int _ b)))), some (.one (.b (.s (.int _ c)))), some (.one (.b (.s (.int _ d)))) => q0s σ o.dst (sV (.int k (mx (mx (mx a b) c) d))) | _, _, _, _ => .fail)
   | _ => .fail)
 | .builtin .min => (match c.args.toList with
   | [x, y] => (match ev σ x, ev σ y with | some (.one (.b (.s (.int k a)))), some (.one (.b (.s (.int _ b)))) => q0s σ o.dst (sV (.int k (if b < a then b else a))) | _, _ => .fail)
   | _ => .fail)
 | _ => .raw g σ o
def zb4 (σ : St) (d : Option Tmp) (cs : List AC) : R := match d with
 | some d => (match get σ.b d with | none => bR ((d, .one (.a d 0)) :: σ.t) (q0b σ.b d (.var cs)) | some _ => .fail)
 | none => .fail
def q7u : AV → Bool | .tup _ => false | _ => true
def y58 (F : TT) (σ : St) (t : Nat) (p x : AV) : R := match z9f F t, p, x with
 | some (_, n), .one (.e β m i k), x => (match get σ.b β with
   | some (.arr full sz ep rows) => qr (q7u x) (qr (y47 n (qj x)) (qr (y8r (z8d (qj x))) (qr (ya7 (z9x β (z8d (qj x)))) (.side (m = rows.length) (.row rows i fun row => .side (k + n ≤ row.length) (.side (y79 (wfS σ.b full) (qj x)) (y0h (z9a σ.b (qj x)) fun xs =>
      bR σ.t (q0b (yo σ.b (z8d (qj x))) β (.arr full sz (Nat.succ ep) (rows.set i (putRow row k xs)))))))))))
   | _ => .fail)
 | some (false, 1), .one (.a β off), .one c => (match get σ.b β with | some (.var cs) => qr (q3n (Nat.add off 1) cs) (y0h (force (putCells cs off [c])) fun cs => bR σ.t (q0b σ.b β (.var cs))) | _ => .fail)
 | some (true, n), .one (.a β off), .agg xs => (match get σ.b β with | some (.var cs) => qr (y47 n xs) (qr (q3n (Nat.add off n) cs) (y0h (force (putCells cs off xs)) fun cs => bR σ.t (q0b σ.b β (.var cs)))) | _ => .fail)
 | _, _, _ => .fail
def ybb (F : TT) (σ : St) (t n : Nat) (ps : List (Nat × Operand)) (d : Option Tmp) : R := match d, q75 F t, y6b σ 0 ps with
 | some d, some (sz, _), some rws => (match get σ.b d with
   | none => qr (y47 n rws) (qr (Nat.ble (Nat.mul n sz) 16777216) (qr (y62 sz rws) (qr (y8r (z8d (flat rws))) (qr (ya7 (z9x d (z8d (flat rws)))) (.side (y79 (wfS σ.b (q5j (flat rws))) (flat rws)) (y0h (q8q σ.b rws) fun rs =>
     bR ((d, .one (.h d n)) :: σ.t) (q0b (yo σ.b (z8d (flat rws))) d (.arr (q5j (flat rws)) sz 0 rs))))))))
   | some _ => .fail)
 | _, _, _ => .fail
def zbc (F : TT) (σ : St) (t : Nat) (l c : Operand) (d : Option Tmp) : R := match d, q75 F t, y94 F t, ev σ l, ev σ c with
 | some d, some (sz, by_), some zrow, some (.one (.b (.s (.int _ n)))), some (.one (.b (.s (.int _ n')))) => (match get σ.b d with
   | none => qr (y47 sz zrow) (.side (n = n') (.side (0 ≤ n) (.side (n * by_ ≤ 281474976710656) (.side (n ≤ 9223372036854775807) (bR ((d, .one (.h d n.toNat)) :: σ.t) (q0b σ.b d (.arr true sz 0 (List.replicate n.toNat zrow))))))))
   | some _ => .fail)
 | _, _, _, _, _ => .fail
def opR (g : Bool) (F : TT) (σ : St) (o : Oper) : R := match o.op with
 | .move x => evR σ x fun av => q0s σ o.dst av
 | .assign x => evR σ x fun av => q0s σ o.dst av
 | .pick c x y => (match ev σ c with | some (.one (.b (.s (.bool t)))) => .br t (evR σ x fun av => q0s σ o.dst av) (evR σ y fun av => q0s σ o.dst av) | _ => .fail)
 | .load t x => (match ev σ x, z9f F t with
   | some av, some (ag, n) => y65 σ av fun cs => (match ag with
     | true => qr (q3n n cs) (y0h (force (cs.take n)) fun cs => q0s σ o.dst (.agg cs))
     | false => (match cs with | [] => .fail | c :: _ => q0s σ o.dst (.one c)))
   | _, _ => .fail)
 | .binOp op t x y _ => (match ev σ x, ev σ y with
   | some (.one (.b (.s (.bool a)))), some (.one (.b (.s (.bool b)))) => qr (qaa F t) (match op with | .eql => q0s σ o.dst (sV (.bool (a == b))) | .neq => q0s σ o.dst (sV (.bool (!(a == b)))) | _ => .fail)
   | some (.one (.b (.s u))), some (.one (.b (.s v))) => yb6 op u v fun r => q0s σ o.dst (sV r)
   | some (.one (.b (.l rows))), some (.one .nil) => y0h (z42 F t) fun _ => (match op with
     | .eql => .any (fun b => b = true → rows = []) fun b => q0s σ o.dst (sV (.bool b))
     | .neq => .any (fun b => b = true → rows = []) fun b => q0s σ o.dst (sV (.bool (!b)))
     | _ => .fail)
   | some (.agg cs), some (.agg cs') => y0h (zab F t) fun ks => y0h (scs cs) fun xs => y0h (scs cs') fun ys => qr (z9m ks xs) (qr (z9m ks ys) (match op with
     | .eql => q0s σ o.dst (sV (.bool (y1c xs ys)))
     | .neq => q0s σ o.dst (sV (.bool (!(y1c xs ys))))
     | _ => .fail))
   | _, _ => .raw g σ o)
 | .unOp op _ x => (match op, ev σ x with
   | .not, some (.one (.b (.s (.bool b)))) => q0s σ o.dst (sV (.bool (!b)))
   | .neg, some (.one (.b (.s (.int k n)))) => q0s σ o.dst (sV (.int k (k.wrap (0 - n))))
   | _, _ => .fail)
 | .convert s d x => (match ev σ x, qbi F d with
   | some (.one (.b (.s (.int _ n)))), some k => qr (yab F s) (q0s σ o.dst (sV (.int k (k.wrap n))))
   | _, _ => .raw g σ o)
 | .fieldAddr s x f => (match ev σ x, q93 F s f with
   | some (.one (.b (.p row))), some off => qr (q3n off row) (y0h (force (row.drop off)) fun row => q0s σ o.dst (.one (.b (.p row))))
   | some (.one (.a β i)), some off => q0s σ o.dst (.one (.a β (i + off)))
   | some (.one (.e β m i k)), some off => q0s σ o.dst (.one (.e β m i (k + off)))
   | _, _ => .fail)
 | .field s x f => (match ev σ x, y9e F s f with
   | some (.agg cs), some (true, off, n) => qr (q3n (Nat.add off n) cs) (y0h (force ((cs.drop off).take n)) fun cs => q0s σ o.dst (.agg cs))
   | some (.agg cs), some (false, off, _) => y0h (nth cs off) fun c => q0s σ o.dst (.one c)
   | _, _ => .fail)
 | .indexAddr t x i => (match ev σ x, ev σ i, z42 F t with
   | some (.one (.b (.l rows))), some (.one (.b (.s (.int _ n)))), some sz => .side (0 ≤ n) (.row rows n.toNat fun row => .side (row.length = sz) (q0s σ o.dst (.one (.b (.p row)))))
   | some (.one (.h β m)), some (.one (.b (.s (.int _ n)))), some sz => (match get σ.b β with
     | some (.arr _ _ _ rows) => .side (m = rows.length) (.side (0 ≤ n) (.row rows n.toNat fun row => .side (row.length = sz) (q0s σ o.dst (.one (.e β m n.toNat 0)))))
     | _ => .fail)
   | _, _, _ => .raw g σ o)
 | .index t x i => (match ev σ x, ev σ i with
   | some (.one (.b (.s (.string s)))), some (.one (.b (.s (.int _ n)))) => qr (y8e F t) (.side (0 ≤ n) (.byte s n.toNat fun b => q0s σ o.dst (sV (.int .u8 b.toNat))))
   | _, _ => .fail)
 | .slice t x lo hi none => (match ev σ x, q9s lo σ, q9s hi σ with
   | some (.one (.b (.s (.string s)))), some l, some h => qr (y8e F t) (.side (0 ≤ l.getD 0) (.side (l.getD 0 ≤ h.getD s.size) (.side (h.getD s.size ≤ s.size) (q0s σ o.dst (sV (.string (s.extract (l.getD 0).toNat (h.getD s.size).toNat)))))))
   | some (.one (.b (.l rows))), some l, some h => y0h (z42 F t) fun sz => .side (l.getD 0 = 0 ∨ ∀ row ∈ rows, row.length = sz) (.side (0 ≤ l.getD 0) (.side (l.getD 0 ≤ h.getD rows.length) (.side (h.getD rows.length ≤ rows.length) (q0s σ o.dst (.one (.b (.l ((rows.take (h.getD rows.length).toNat).drop (l.getD 0).toNat))))))))
   | _, _, _ => .raw g σ o)
 | .extract x i => (match ev σ x with | some (.tup vs) => y0h (nth vs i) fun av => q0s σ o.dst av | _ => .fail)
 | .makeFunc (.func f) first caps => (match first.toList, caps.toList with
   | [x], [] => (match ev σ x with
     | some (.one (.a β off)) => q0s σ o.dst (.one (.cm f β off))
     | some (.one (.b c)) => q0s σ o.dst (.one (.b (.m f false [c])))
     | some (.agg cs) => y0h (qa6 cs) fun l => q0s σ o.dst (.one (.b (.m f true l)))
     | _ => .fail)
   | [], _ => (match y6k σ caps.toList with | some cs => q0s σ o.dst (.one (.cl f cs)) | none => y0h (z8h σ caps.toList) fun cs => q0s σ o.dst (.one (.b (.f f cs))))
   | _, _ => .fail)
 | .build t ps => (match q5c F t with
   | some z => y0h (y7i F σ t z ps.toList) fun cs => q0s σ o.dst (.agg cs)
   | none => .raw g σ o)
 | .alloc e => (match z94 F e with | some z => qr (q7u z) (zb4 σ o.dst (qj z)) | none => .fail)
 | .box _ x => (match ev σ x with | some z => qr (q7u z) (zb4 σ o.dst (qj z)) | none => .fail)
 | .store t p x => (match o.dst, ev σ p, ev σ x with
   | none, some pv, some xv => y58 F σ t pv xv
   | _, _, _ => .fail)
 | .buildSlice t n ps => ybb F σ t n ps.toList o.dst
 | .makeSlice t l c => zbc F σ t l c o.dst
 | .call c => y9j g F σ o c
 | .nilCheck x => evR σ x fun av => (match av with | .one (.b (.p row)) => q0s σ o.dst (.one (.b (.p row))) | .one (.a β off) => q0s σ o.dst (.one (.a β off)) | .one (.e β m i k) => q0s σ o.dst (.one (.e β m i k)) | _ => .fail)
 | _ => .raw g σ o
end Go.Sx
end
