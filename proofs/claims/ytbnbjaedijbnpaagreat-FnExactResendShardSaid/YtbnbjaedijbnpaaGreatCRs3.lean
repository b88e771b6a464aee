/- WHAT IS PROVED: parts of the proof of fnExactResendShard_holds: a frame for walks, what each Go function that it reaches answers, and plain lemmas; no condition beyond those that each theorem names. -/
import Derived.Test.YtbnbjaedijbnpaaGreatCRs2
import Derived.WalkKit
import Derived.OrdersHeld
import Derived.DeepKeys
import Derived.Maps.RangeWalk
import Derived.Maps.OwnOps
import Derived.WideKeyEntry
set_option linter.unusedVariables false
set_option linter.unusedSimpArgs false
section
namespace Go.Sx
open Go.RowKit (Below)
structure TI where
 lay : Option (Bool × Nat)
 esz : Option Nat
 esI : Option (Nat × Nat)
 str : Bool
 boo : Bool
 und : Bool
 ik : Option IntKind
 zero : Option AV
 q63 : Option (List AC)
 zrow : Option (List Cell)
 flds : List (Option Nat × Option (Bool × Nat × Nat))
 cmp : Option (List CK)
inductive TT where
 | leaf
 | node (k : Nat) (v : TI) (l r : TT)
def z9x (P : Program) (t : TypeId) : Bool := match P.underlying t with | some .bool => true | _ => false
def zbq (P : Program) (t : TypeId) : Nat := match P.underlying t with | some (.struct fs) => fs.size | _ => 0
def mkF (P : Program) (t : TypeId) : Nat → Nat → List (Option Nat × Option (Bool × Nat × Nat))
 | 0, _ => []
 | n + 1, i => (qaa P t i, fld P t i) :: mkF P t n (i + 1)
def zb5 (P : Program) (t : TypeId) : TI := ⟨lay P t, esz P t, z0z P t, y5o P t, z9x P t, (P.underlying t).isSome, y8s P t, z1u P t, q63 P t, z8h P t, mkF P t (zbq P t) 0, qal P t⟩
def TT.map (P : Program) : TT → TT
 | .leaf => .leaf
 | .node k _ l r => .node k (zb5 P k) (l.map P) (r.map P)
def TT.find : TT → Nat → Option TI
 | .leaf, _ => none
 | .node k v l r, t => bif Nat.beq k t then some v else bif Nat.blt t k then l.find t else r.find t
theorem TT.y2v {P : Program} : ∀ {F : TT} {t : Nat} {i : TI}, (F.map P).find t = some i → i = zb5 P t
 | .leaf, t, i, h => by cases h
 | .node k v l r, t, i, h => by
   rw [TT.map, TT.find] at h
   by_cases hk : k = t
   · subst hk; simp only [Nat.beq_refl, cond_true, Option.some.injEq] at h; exact h.symm
   · rw [beq_false hk] at h
     cases hb : Nat.blt t k with
     | true => rw [hb] at h; exact TT.y2v h
     | false => rw [hb] at h; exact TT.y2v h
def nth {α : Type} : List α → Nat → Option α
 | [], _ => none
 | a :: l, n => bif Nat.beq n 0 then some a else nth l (Nat.pred n)
theorem z27 {α : Type} : ∀ (l : List α) (n : Nat), nth l n = l[n]?
 | [], n => by simp [nth]
 | a :: l, 0 => rfl
 | a :: l, n + 1 => by rw [nth, beq_false (by omega), List.getElem?_cons_succ]; exact z27 l n
theorem y5s {P : Program} {t : Nat} : ∀ {n i k : Nat} {x : Option Nat × Option (Bool × Nat × Nat)}, (mkF P t n i)[k]? = some x → x = (qaa P t (i + k), fld P t (i + k))
 | 0, i, k, x, h => by simp [mkF] at h
 | n + 1, i, k, x, h => by
   rw [mkF] at h
   cases k with
   | zero => cases h; rfl
   | succ k => rw [List.getElem?_cons_succ] at h; rw [y5s h]; simp only [Nat.add_assoc, Nat.add_comm 1 k]
def y9j (F : TT) (t : Nat) : Option (Bool × Nat) := match F.find t with | some i => i.lay | none => none
def q44 (F : TT) (t : Nat) : Option Nat := match F.find t with | some i => i.esz | none => none
def y7a (F : TT) (t : Nat) : Option (Nat × Nat) := match F.find t with | some i => i.esI | none => none
def y8j (F : TT) (t : Nat) : Bool := match F.find t with | some i => i.str | none => false
def yae (F : TT) (t : Nat) : Bool := match F.find t with | some i => i.boo | none => false
def zaf (F : TT) (t : Nat) : Bool := match F.find t with | some i => i.und | none => false
def qbl (F : TT) (t : Nat) : Option IntKind := match F.find t with | some i => i.ik | none => none
def q97 (F : TT) (t : Nat) : Option AV := match F.find t with | some i => i.zero | none => none
def y5f (F : TT) (t : Nat) : Option (List AC) := match F.find t with | some i => i.q63 | none => none
def z98 (F : TT) (t : Nat) : Option (List Cell) := match F.find t with | some i => i.zrow | none => none
def qae (F : TT) (t : Nat) : Option (List CK) := match F.find t with | some i => i.cmp | none => none
def y97 (F : TT) (t f : Nat) : Option Nat := match F.find t with | some i => (match nth i.flds f with | some x => x.1 | none => none) | none => none
def q9i (F : TT) (t f : Nat) : Option (Bool × Nat × Nat) := match F.find t with | some i => (match nth i.flds f with | some x => x.2 | none => none) | none => none
section
variable {P : Program} {F : TT}
theorem z1r {α : Type} {F : TT} {t : Nat} {g : TI → Option α} {x : α} (hF : F = F.map P) (h : (match F.find t with | some i => g i | none => none) = some x) : g (zb5 P t) = some x := by
 cases hi : F.find t with
 | none => rw [hi] at h; cases h
 | some i => rw [hi] at h; rw [hF] at hi; rw [← TT.y2v hi]; exact h
theorem q7a {F : TT} {t : Nat} {g : TI → Bool} (hF : F = F.map P) (h : (match F.find t with | some i => g i | none => false) = true) : g (zb5 P t) = true := by
 cases hi : F.find t with
 | none => rw [hi] at h; cases h
 | some i => rw [hi] at h; rw [hF] at hi; rw [← TT.y2v hi]; exact h
theorem q2t (hF : F = F.map P) {t : Nat} {x : Bool × Nat} (h : y9j F t = some x) : lay P t = some x := z1r (g := TI.lay) hF h
theorem q0l (hF : F = F.map P) {t : Nat} {x : Nat} (h : q44 F t = some x) : esz P t = some x := z1r (g := TI.esz) hF h
theorem y03 (hF : F = F.map P) {t : Nat} {x : Nat × Nat} (h : y7a F t = some x) : z0z P t = some x := z1r (g := TI.esI) hF h
theorem z9j (hF : F = F.map P) {t : Nat} {x : IntKind} (h : qbl F t = some x) : y8s P t = some x := z1r (g := TI.ik) hF h
theorem z7b (hF : F = F.map P) {t : Nat} {x : AV} (h : q97 F t = some x) : z1u P t = some x := z1r (g := TI.zero) hF h
theorem q6k (hF : F = F.map P) {t : Nat} {x : List AC} (h : y5f F t = some x) : q63 P t = some x := z1r (g := TI.q63) hF h
theorem y7b (hF : F = F.map P) {t : Nat} {x : List Cell} (h : z98 F t = some x) : z8h P t = some x := z1r (g := TI.zrow) hF h
theorem z8j (hF : F = F.map P) {t : Nat} {x : List CK} (h : qae F t = some x) : qal P t = some x := z1r (g := TI.cmp) hF h
theorem z45 (hF : F = F.map P) {t : Nat} (h : y8j F t = true) : y5o P t = true := q7a (g := TI.str) hF h
theorem q8i (hF : F = F.map P) {t : Nat} (h : yae F t = true) : P.underlying t = some .bool := by
 have : z9x P t = true := q7a (g := TI.boo) hF h
 unfold z9x at this
 split at this
 · assumption
 · cases this
theorem q8j (hF : F = F.map P) {t : Nat} (h : zaf F t = true) : ∃ u, P.underlying t = some u := Option.isSome_iff_exists.1 (q7a (g := TI.und) hF h)
theorem y2x (hF : F = F.map P) {t f x : Nat} (h : y97 F t f = some x) : qaa P t f = some x := by
 have := z1r (g := fun i => match nth i.flds f with | some x => x.1 | none => none) hF h
 split at this
 · rename_i y hy
   rw [z27] at hy
   rw [y5s hy, Nat.zero_add] at this
   exact this
 · cases this
theorem y2t (hF : F = F.map P) {t f : Nat} {x : Bool × Nat × Nat} (h : q9i F t f = some x) : fld P t f = some x := by
 have := z1r (g := fun i => match nth i.flds f with | some x => x.2 | none => none) hF h
 split at this
 · rename_i y hy
   rw [z27] at hy
   rw [y5s hy, Nat.zero_add] at this
   exact this
 · cases this
end
inductive R where
 | fail
 | ok (σ : St)
 | side (p : Prop) (r : R)
 | br (t : Bool) (r r' : R)
 | any (q : Bool → Prop) (f : Bool → R)
 | row (rows : List (List Cell)) (i : Nat) (f : List Cell → R)
 | byte (s : ByteArray) (i : Nat) (f : UInt8 → R)
 | call (g : Bool) (σ : St) (d : Option Tmp) (f : Nat) (avs : List AV)
 | raw (g : Bool) (σ : St) (o : Oper)
def R.holds (P : Program) : R → (St → Prop) → Prop
 | .fail, _ => False
 | .ok σ, K => K σ
 | .side p r, K => p ∧ r.holds P K
 | .br t r r', K => (t = true → r.holds P K) ∧ (t = false → r'.holds P K)
 | .any q f, K => ∀ b, q b → (f b).holds P K
 | .row rows i f, K => ∃ row, rows[i]? = some row ∧ (f row).holds P K
 | .byte s i f, K => ∃ b, s[i]? = some b ∧ (f b).holds P K
 | .call g σ d f avs, K => y44 P σ d f avs K ∨ (g = true ∧ q43 P σ d f avs K)
 | .raw g σ o, K => opL g P σ o K
def force {α : Type} : List α → Option (List α)
 | [] => some []
 | a :: l => match force l with | some l' => some (a :: l') | none => none
theorem force_eq {α : Type} : ∀ {l l' : List α}, force l = some l' → l' = l
 | [], l', h => by cases h; rfl
 | a :: l, l', h => by
   rw [force] at h
   split at h
   · rename_i l1 h1; cases h; rw [force_eq h1]
   · cases h
def q3p {α : Type} : Nat → List α → Bool
 | 0, _ => true
 | _ + 1, [] => false
 | n + 1, _ :: l => q3p n l
theorem z0w {α : Type} : ∀ {n : Nat} {l : List α}, q3p n l = true → n ≤ l.length
 | 0, l, _ => Nat.zero_le _
 | n + 1, [], h => by cases h
 | n + 1, _ :: l, h => Nat.succ_le_succ (z0w (l := l) h)
def q49 {α : Type} : Nat → List α → Bool
 | 0, [] => true
 | 0, _ :: _ => false
 | _ + 1, [] => false
 | n + 1, _ :: l => q49 n l
theorem y14 {α : Type} : ∀ {n : Nat} {l : List α}, q49 n l = true → l.length = n
 | 0, [], _ => rfl
 | 0, _ :: _, h => by cases h
 | n + 1, [], h => by cases h
 | n + 1, _ :: l, h => congrArg (· + 1) (y14 (l := l) h)
def ikN : IntKind → Nat
 | .i8 => 0 | .i16 => 1 | .i32 => 2 | .i64 => 3 | .u8 => 4 | .u16 => 5 | .u32 => 6 | .u64 => 7
theorem y9w {k k' : IntKind} (h : Nat.beq (ikN k) (ikN k') = true) : k = k' := by
 cases k <;> cases k' <;> first | rfl | cases h
def qr (b : Bool) (r : R) : R := match b with | true => r | false => .fail
theorem yc {P : Program} {b : Bool} {r : R} {K : St → Prop} (h : (qr b r).holds P K) : b = true ∧ r.holds P K := by
 cases b with
 | true => exact ⟨rfl, h⟩
 | false => exact h.elim
def z0u (σ : St) (d : Option Tmp) (av : AV) : R := match σ, d with
 | ⟨t, b⟩, some d => .ok ⟨(d, av) :: t, b⟩
 | σ, none => .ok σ
theorem q1o {P : Program} {σ : St} {d : Option Tmp} {av : AV} {K : St → Prop} : (z0u σ d av).holds P K ↔ K (σ.put d av) := by
 cases σ; cases d <;> rfl
def evR (σ : St) (x : Operand) (f : AV → R) : R := match ev σ x with | some av => f av | none => .fail
def sV (v : Value) : AV := .one (.b (.s v))
def z68 (σ : St) (av : AV) (f : List AC → R) : R := match av with
 | .one (.b (.p row)) => (match force (row.map .b) with | some cs => f cs | none => .fail)
 | .one (.a β off) => (match get σ.b β with | some (.var cs) => (match force ((cs.drop off).map (unk σ.b)) with | some cs => f cs | none => .fail) | _ => .fail)
 | .one (.e β m i k) => (match get σ.b β with
   | some (.arr full _ ep rows) => .side (m = rows.length) (.row rows i fun row => (match y32 full β ep i k (row.drop k) with | some cs => f cs | none => .fail))
   | _ => .fail)
 | _ => .fail
theorem z7h {P : Program} {σ : St} {av : AV} {f : List AC → R} {K : St → Prop} {K' : List AC → Prop} (hf : ∀ cs, (f cs).holds P K → K' cs) (h : (z68 σ av f).holds P K) : y1u σ av K' := by
 unfold z68 at h
 unfold y1u
 split at h
 · split at h
   · rename_i cs hcs; rw [force_eq hcs] at h; exact hf _ h
   · exact h.elim
 · rename_i β off
   dsimp only
   split at h
   · rename_i cs hcs
     split at h
     · rename_i cs' hcs'; rw [force_eq hcs'] at h; rw [hcs]; exact hf _ h
     · exact h.elim
   · exact h.elim
 · rename_i β m i k
   dsimp only
   split at h
   · rename_i full sz ep rows hab
     obtain ⟨h1, row, h2, h3⟩ := h
     rw [hab]
     refine ⟨h1, ?_⟩
     rw [h2]
     dsimp only at h3 ⊢
     split at h3
     · rename_i cs hcs; rw [hcs]; exact hf _ h3
     · exact h3.elim
   · exact h.elim
 · exact h.elim
def z9u (op : BinOp) (k : IntKind) (x y : Int) (f : Value → R) : R := match op with
 | .add => f (.int k (k.wrap (x + y))) | .sub => f (.int k (k.wrap (x - y))) | .mul => f (.int k (k.wrap (x * y)))
 | .eql => f (.bool (x == y)) | .neq => f (.bool (x != y)) | .lss => f (.bool (decide (x < y))) | .leq => f (.bool (decide (x ≤ y)))
 | .gtr => f (.bool (decide (x > y))) | .geq => f (.bool (decide (x ≥ y)))
 | .quo => .side (y ≠ 0) (f (.int k (k.wrap (x.tdiv y)))) | .rem => .side (y ≠ 0) (f (.int k (x.tmod y)))
 | .and => f (.int k (bits .and k x y)) | .or => f (.int k (bits .or k x y)) | .xor => f (.int k (bits .xor k x y))
 | _ => .fail
def ybi (op : BinOp) (a b : ByteArray) (f : Value → R) : R := match op with
 | .add => .side (a.size + b.size ≤ 9223372036854775807) (f (.string (a ++ b)))
 | .eql => f (.bool (a.toList == b.toList)) | .neq => f (.bool (!(a.toList == b.toList)))
 | .lss => f (.bool (Op.bytesLess a.toList b.toList)) | .leq => f (.bool (Op.bytesLess a.toList b.toList || (a.toList == b.toList)))
 | .gtr => f (.bool (!(Op.bytesLess a.toList b.toList || (a.toList == b.toList)))) | .geq => f (.bool (!(Op.bytesLess a.toList b.toList)))
 | _ => .fail
def zb9 (op : BinOp) (u v : Value) (f : Value → R) : R := match u, v with
 | .int k x, .int k' y => (match op with
   | .shl => .side (0 ≤ y) (f (.int k (k.wrap (x * 2 ^ (min y.toNat k.bits)))))
   | .shr => .side (0 ≤ y) (f (.int k (x.fdiv (2 ^ (min y.toNat k.bits)))))
   | op => qr (Nat.beq (ikN k) (ikN k')) (z9u op k x y f))
 | .string a, .string b => ybi op a b f
 | _, _ => .fail
section
variable {P : Program} {K : St → Prop} {K' : Value → Prop} {f : Value → R}
theorem z8s {op : BinOp} {k : IntKind} {x y : Int} (hf : ∀ v, (f v).holds P K → K' v) (h : (z9u op k x y f).holds P K) : match zao op k x y with | some r => K' r | none => False := by
 cases op <;> simp only [z9u] at h <;> simp only [zao] <;> first
  | exact hf _ h
  | exact h.elim
  | (rw [if_neg h.1]; exact hf _ h.2)
theorem qa7 {op : BinOp} {a b : ByteArray} (hf : ∀ v, (f v).holds P K → K' v) (h : (ybi op a b f).holds P K) : q6i op a b K' := by
 cases op <;> simp only [ybi] at h <;> simp only [q6i] <;> first
  | exact hf _ h
  | exact h.elim
  | exact ⟨h.1, hf _ h.2⟩
theorem q9m {op : BinOp} {u v : Value} (hf : ∀ v, (f v).holds P K → K' v) (h : (zb9 op u v f).holds P K) : qak op u v K' := by
 unfold zb9 at h
 unfold qak
 split at h
 · dsimp only
   split at h
   · exact ⟨h.1, hf _ h.2⟩
   · exact ⟨h.1, hf _ h.2⟩
   · rename_i h1 h2
     obtain ⟨hk, h'⟩ := yc h
     have hk := y9w hk
     subst hk
     have := z8s hf h'
     split
     · exact absurd rfl h1
     · exact absurd rfl h2
     · rw [if_pos rfl]; exact this
 · exact qa7 hf h
 · exact h.elim
end
def bR (t : List (Nat × AV)) (b : List (Nat × AB)) : R := match force b with | some b => .ok ⟨t, b⟩ | none => .fail
theorem zx {P : Program} {t : List (Nat × AV)} {b : List (Nat × AB)} {K : St → Prop} (h : (bR t b).holds P K) : K ⟨t, b⟩ := by
 unfold bR at h
 split at h
 · rename_i b' hb; rw [force_eq hb] at h; exact h
 · exact h.elim
def z9e (B : List (Nat × AB)) : List AC → Option (List Cell)
 | [] => some []
 | .b c :: l => (match z9e B l with | some l' => some (c :: l') | none => none)
 | .h γ _ :: l => (match get B γ, z9e B l with | some (.arr _ _ _ rows), some l' => some (.l rows :: l') | _, _ => none)
 | .nil :: l => (match z9e B l with | some l' => some (.l [] :: l') | none => none)
 | .em :: l => (match z9e B l with | some l' => some (.l [] :: l') | none => none)
 | _ => none
theorem q4f {B : List (Nat × AB)} : ∀ {cs : List AC} {l : List Cell}, z9e B cs = some l → l = cs.map (z2t B)
 | [], l, h => by cases h; rfl
 | c :: cs, l, h => by
   cases c <;> rw [z9e] at h <;> first
    | (split at h
       · rename_i l' hl; cases h; rw [q4f hl]; rfl
       · cases h)
    | (split at h
       · rename_i rows l' hg hl; cases h; rw [q4f hl]; simp [z2t, hg]
       · cases h)
    | cases h
def q8u (B : List (Nat × AB)) : List (List AC) → Option (List (List Cell))
 | [] => some []
 | cs :: l => match z9e B cs, q8u B l with | some r, some l' => some (r :: l') | _, _ => none
theorem z6d {B : List (Nat × AB)} : ∀ {rws : List (List AC)} {l : List (List Cell)}, q8u B rws = some l → l = rws.map fun cs => cs.map (z2t B)
 | [], l, h => by cases h; rfl
 | c :: cs, l, h => by
   rw [q8u] at h
   split at h
   · rename_i r l' hr hl; cases h; rw [q4f hr, z6d hl]; rfl
   · cases h
def z8i : List AC → List Nat
 | [] => []
 | .h γ _ :: l => γ :: z8i l
 | _ :: l => z8i l
theorem y4b : ∀ (cs : List AC), z8i cs = cs.filterMap gam
 | [] => rfl
 | c :: cs => by
   have ih := y4b cs
   cases c <;> simp only [z8i, ih] <;> rfl
def za1 (x : Nat) : List Nat → Bool
 | [] => false
 | y :: l => bif Nat.beq x y then true else za1 x l
theorem z2w {x : Nat} : ∀ {l : List Nat}, za1 x l = false → x ∉ l
 | [], _ => by simp
 | y :: l, h => by
   rw [za1] at h
   cases hb : Nat.beq x y with
   | true => rw [hb] at h; cases h
   | false =>
     rw [hb] at h
     have hne : x ≠ y := fun e => by subst e; simp at hb
     have := z2w (l := l) h
     simp [hne, this]
def y8v : List Nat → Bool
 | [] => true
 | x :: l => bif za1 x l then false else y8v l
theorem z6 : ∀ {l : List Nat}, y8v l = true → l.Nodup
 | [], _ => List.nodup_nil
 | x :: l, h => by
   rw [y8v] at h
   cases hb : za1 x l with
   | true => rw [hb] at h; cases h
   | false => rw [hb] at h; exact List.nodup_cons.2 ⟨z2w hb, z6 h⟩
def zab (b : Bool) : Bool := match b with | true => false | false => true
theorem y3a {b : Bool} (h : zab b = true) : b = false := by cases b <;> first | rfl | cases h
def q64 (sz : Nat) : List (List AC) → Bool
 | [] => true
 | cs :: l => bif q49 sz cs then q64 sz l else false
theorem y4r {sz : Nat} : ∀ {l : List (List AC)}, q64 sz l = true → (l.all fun cs => cs.length == sz) = true
 | [], _ => rfl
 | cs :: l, h => by
   rw [q64] at h
   cases hb : q49 sz cs with
   | false => rw [hb] at h; cases h
   | true => rw [hb] at h; simp only [List.all_cons, y14 hb, beq_self_eq_true, Bool.true_and]; exact y4r h
def flat (l : List (List AC)) : List AC := l.flatten
def y6e (σ : St) : Nat → List (Nat × Operand) → Option (List (List AC))
 | _, [] => some []
 | i, (j, x) :: ps => bif Nat.beq i j then (match ev σ x, y6e σ (Nat.succ i) ps with
   | some (.one c), some r => some ([c] :: r)
   | some (.agg cs), some r => some (cs :: r)
   | _, _ => none) else none
theorem y3b {σ : St} : ∀ {ps : List (Nat × Operand)} {i : Nat} {r : List (List AC)}, y6e σ i ps = some r → y1y σ i ps = some r
 | [], i, r, h => h
 | (j, x) :: ps, i, r, h => by
   rw [y6e] at h
   by_cases hij : i = j
   · subst hij
     simp only [Nat.beq_refl, cond_true] at h
     rw [y1y, if_pos rfl]
     split at h
     · rename_i c r' h1 h2; cases h; rw [h1, y3b h2]
     · rename_i c r' h1 h2; cases h; rw [h1, y3b h2]
     · cases h
   · rw [beq_false hij] at h; cases h
def z7n (F : TT) (σ : St) (t : Nat) : List AC → List (Nat × Operand) → Option (List AC)
 | cs, [] => some cs
 | cs, (i, x) :: ps => match q9i F t i, ev σ x with
   | some (_, off, n), some (.one c) => (match Nat.beq n 1, q3p (Nat.add off 1) cs, force (putCells cs off [c]) with | true, true, some cs' => z7n F σ t cs' ps | _, _, _ => none)
   | some (_, off, n), some (.agg xs) => (match q49 n xs, q3p (Nat.add off n) cs, force (putCells cs off xs) with | true, true, some cs' => z7n F σ t cs' ps | _, _, _ => none)
   | _, _ => none
def z6o (σ : St) : List Operand → Option (List (Nat × Nat))
 | [] => some []
 | x :: l => match ev σ x, z6o σ l with | some (.one (.a β off)), some r => some ((β, off) :: r) | _, _ => none
theorem z47 {σ : St} : ∀ {l : List Operand}, z6o σ l = l.mapM (fun x => match ev σ x with | some (.one (.a β off)) => some (β, off) | _ => none)
 | [] => rfl
 | x :: l => by
   rw [List.mapM_cons, ← z47 (l := l), z6o]
   split
   · rename_i β off r h1 h2
     simp [h1, h2]
   · rename_i h1
     cases he : z6o σ l with
     | none => split <;> simp
     | some r =>
       split
       · rename_i β off h2; exact absurd he (h1 β off r h2)
       · simp
def z8m (σ : St) : List Operand → Option (List Cell)
 | [] => some []
 | x :: l => match ev σ x, z8m σ l with | some (.one (.b c)), some r => some (c :: r) | _, _ => none
theorem q67 {σ : St} : ∀ {l : List Operand} {r : List Cell}, z8m σ l = some r → l.mapM (fun x => match ev σ x with | some (.one (.b c)) => some c | _ => none) = some r
 | [], r, h => by cases h; rfl
 | x :: l, r, h => by
   rw [z8m] at h
   split at h
   · rename_i c r' h1 h2
     cases h
     simp [h1, q67 h2]
   · cases h
def y5m : List AC → Bool
 | [] => true
 | .b (.s _) :: l => y5m l
 | .b _ :: _ => false
 | _ :: l => y5m l
theorem q2v : ∀ (cs : List AC), y5m cs = z2l cs
 | [] => rfl
 | c :: cs => by
   cases c with
   | b c => cases c <;> simp [y5m, z2l] <;> exact q2v cs
   | _ => simp [y5m, z2l]; exact q2v cs
section
variable {P : Program} {F : TT}
theorem q4a (hF : F = F.map P) {σ : St} {t : Nat} : ∀ {ps : List (Nat × Operand)} {cs r : List AC}, z7n F σ t cs ps = some r → q2k P σ t cs ps = some r
 | [], cs, r, h => h
 | (i, x) :: ps, cs, r, h => by
   rw [z7n] at h
   rw [q2k]
   split at h
   · rename_i off n c h1 h2
     rw [y2t hF h1, h2]
     dsimp only
     split at h
     · rename_i cs' e1 e2 e3
       rw [if_pos ⟨Nat.eq_of_beq_eq_true e1, z0w e2⟩, ← force_eq e3]
       exact q4a hF h
     · cases h
   · rename_i off n xs h1 h2
     rw [y2t hF h1, h2]
     dsimp only
     split at h
     · rename_i cs' e1 e2 e3
       rw [if_pos ⟨y14 e1, z0w e2⟩, ← force_eq e3]
       exact q4a hF h
     · cases h
   · cases h
end
def q9w : Option Operand → St → Option (Option Int)
 | none, _ => some none
 | some x, σ => match ev σ x with | some (.one (.b (.s (.int _ n)))) => some (some n) | _ => none
def q0i {α : Type} (o : Option α) (f : α → R) : R := match o with | some a => f a | none => .fail
theorem zi {P : Program} {K : St → Prop} {α : Type} {o : Option α} {f : α → R} (h : (q0i o f).holds P K) : ∃ a, o = some a ∧ (f a).holds P K := by
 cases o with
 | none => exact h.elim
 | some a => exact ⟨a, rfl, h⟩
def qbd (F : TT) (σ : St) (t : Nat) (av : AV) (f : Value → R) : R := match av with
 | .one (.b (.l rows)) => q0i (q44 F t) fun _ => f (.int .i64 rows.length)
 | .one .nil => q0i (q44 F t) fun _ => f (.int .i64 0)
 | .one .em => q0i (q44 F t) fun _ => f (.int .i64 0)
 | .one (.h _ n) => q0i (q44 F t) fun _ => f (.int .i64 n)
 | .one (.b (.s (.string s))) => qr (y8j F t) (f (.int .i64 s.size))
 | .one (.q β m i k) => q0i (q44 F t) fun _ => (match get σ.b β with
   | some (.arr _ _ ep rows) => .side (m = ep) (.row rows i fun row => match nth row k with | some (.l rs) => f (.int .i64 rs.length) | _ => .fail)
   | _ => .fail)
 | _ => .fail
def q9n (g : Bool) (F : TT) (σ : St) (o : Oper) (c : Call) : R := match c.callee with
 | .builtin .len => (match c.argTypes.toList, c.args.toList with
   | t :: _, [x] => evR σ x fun av => qbd F σ t av fun r => z0u σ o.dst (sV r)
   | _, _ => .fail)
 | .builtin .append => (match c.argTypes.toList, c.args.toList, o.dst with
   | [t, tx], [s, x], some d => (match y7a F t, y7a F tx, ev σ s, ev σ x with
     | some (sz, by_), some _, some (.one (.h β n)), some (.one (.h γ m)) => (match get σ.b β, get σ.b γ with
       | some (.arr full0 sz0 ep rows0), some (.arr full sz1 _ rows) =>
         qr (Nat.beq sz0 sz) (qr (Nat.beq sz1 sz) (qr (zab (Nat.beq β γ)) (.side (n = rows0.length) (.side (m = rows.length) (.side (full0 = full ∨ rows0 = []) (.side (rows0.length + rows.length ≤ 9223372036854775807) (.side ((rows0.length + rows.length) * by_ ≤ 140737488355328)
         (bR ((d, .one (.h β (rows0.length + rows.length))) :: σ.t) (z0d (yo σ.b [γ]) β (.arr full sz (Nat.succ ep) (rows0 ++ rows)))))))))))
       | _, _ => .fail)
     | some (sz, by_), some _, some (.one (.h β n)), some (.one (.b (.l rows))) => (match get σ.b β with
       | some (.arr full0 sz0 ep rows0) => qr (Nat.beq sz0 sz) (.side (n = rows0.length) (.side (∀ row ∈ rows, row.length = sz) (.side (full0 = true → zr rows) (.side (rows0.length + rows.length ≤ 9223372036854775807) (.side ((rows0.length + rows.length) * by_ ≤ 140737488355328)
         (bR ((d, .one (.h β (rows0.length + rows.length))) :: σ.t) (z0d σ.b β (.arr full0 sz (Nat.succ ep) (rows0 ++ rows)))))))))
       | _ => .fail)
     | some (sz, by_), some _, some (.one .nil), some (.one (.h γ m)) => (match get σ.b d, get σ.b γ with
       | none, some (.arr full sz1 _ rows) => qr (Nat.beq sz1 sz) (qr (zab (Nat.beq d γ)) (.side (m = rows.length) (.side (rows.length ≤ 9223372036854775807) (.side (rows.length * by_ ≤ 140737488355328) (bR ((d, .one (.h d rows.length)) :: σ.t) (z0d (yo σ.b [γ]) d (.arr full sz 0 rows)))))))
       | _, _ => .fail)
     | some (sz, by_), some _, some (.one .em), some (.one (.h γ m)) => (match get σ.b d, get σ.b γ with
       | none, some (.arr full sz1 _ rows) => qr (Nat.beq sz1 sz) (qr (zab (Nat.beq d γ)) (.side (m = rows.length) (.side (rows.length ≤ 9223372036854775807) (.side (rows.length * by_ ≤ 140737488355328) (bR ((d, .one (.h d rows.length)) :: σ.t) (z0d (yo σ.b [γ]) d (.arr full sz 0 rows)))))))
       | _, _ => .fail)
     | some (sz, by_), some _, some (.one .em), some (.one (.b (.l rows))) => (match get σ.b d with
       | none => .side (∀ row ∈ rows, row.length = sz) (.side (zr rows) (.side (rows.length ≤ 9223372036854775807) (.side (rows.length * by_ ≤ 140737488355328) (bR ((d, .one (.h d rows.length)) :: σ.t) (z0d σ.b d (.arr true sz 0 rows))))))
       | _ => .fail)
     | some (sz, by_), some _, some (.one .nil), some (.one (.b (.l rows))) => (match get σ.b d with
       | none => .side (∀ row ∈ rows, row.length = sz) (.side (zr rows) (.side (rows.length ≤ 9223372036854775807) (.side (rows.length * by_ ≤ 140737488355328) (bR ((d, .one (.h d rows.length)) :: σ.t) (z0d σ.b d (.arr true sz 0 rows))))))
       | _ => .fail)
     | _, _, _, _ => .fail)
   | _, _, _ => .fail)
 | .value x => (match ev σ x, evs σ c.args.toList with
   | some (.one (.cl f caps)), some avs => q0i (force (avs ++ caps.map fun c => .one (.a c.1 c.2))) fun avs => .call g σ o.dst f avs
   | some (.one (.b (.f f caps))), some avs => q0i (force (avs ++ caps.map fun c => .one (.b c))) fun avs => .call g σ o.dst f avs
   | some (.one (.cm f β off)), some avs => .call g σ o.dst f (.one (.a β off) :: avs)
   | some (.one (.b (.m f ag row))), some avs => .call g σ o.dst f (y84 ag row :: avs)
   | _, _ => .fail)
 | .builtin .max => (match c.args.toList with
   | [x, y] => (match ev σ x, ev σ y with | some (.one (.b (.s (.int k a)))), some (.one (.b (.s (.int _ b)))) => z0u σ o.dst (sV (.int k (mx a b))) | _, _ => .fail)
   | [x, y, z, t] => (match ev σ x, ev σ y, ev σ z, ev σ t with | some (.one (.b (.s (.int k a)))), some (.one (.b (.s (.int _ b)))), some (.one (.b (.s (.int _ c)))), some (.one (.b (.s (.int _ d)))) => z0u σ o.dst (sV (.int k (mx (mx (mx a b) c) d))) | _, _, _, _ => .fail)
   | _ => .fail)
 | .builtin .min => (match c.args.toList with
   | [x, y] => (match ev σ x, ev σ y with | some (.one (.b (.s (.int k a)))), some (.one (.b (.s (.int _ b)))) => z0u σ o.dst (sV (.int k (if b < a then b else a))) | _, _ => .fail)
   | _ => .fail)
 | _ => .raw g σ o
def qb6 (σ : St) (d : Option Tmp) (cs : List AC) : R := match d with
 | some d => (match get σ.b d with | none => bR ((d, .one (.a d 0)) :: σ.t) (z0d σ.b d (.var cs)) | some _ => .fail)
 | none => .fail
def y7z : AV → Bool | .tup _ => false | _ => true
def q5a (F : TT) (σ : St) (t : Nat) (p x : AV) : R := match y9j F t, p, x with
 | some (_, n), .one (.e β m i k), x => (match get σ.b β with
   | some (.arr full sz ep rows) => qr (y7z x) (qr (q49 n (yj x)) (qr (y8v (z8i (yj x))) (qr (zab (za1 β (z8i (yj x)))) (.side (m = rows.length) (.row rows i fun row => .side (k + n ≤ row.length) (.side (q7d (wfS σ.b full) (yj x)) (q0i (z9e σ.b (yj x)) fun xs =>
      bR σ.t (z0d (yo σ.b (z8i (yj x))) β (.arr full sz (Nat.succ ep) (rows.set i (putRow row k xs)))))))))))
   | _ => .fail)
 | some (false, 1), .one (.a β off), .one c => (match get σ.b β with | some (.var cs) => qr (q3p (Nat.add off 1) cs) (q0i (force (putCells cs off [c])) fun cs => bR σ.t (z0d σ.b β (.var cs))) | _ => .fail)
 | some (true, n), .one (.a β off), .agg xs => (match get σ.b β with | some (.var cs) => qr (q49 n xs) (qr (q3p (Nat.add off n) cs) (q0i (force (putCells cs off xs)) fun cs => bR σ.t (z0d σ.b β (.var cs)))) | _ => .fail)
 | _, _, _ => .fail
def ybe (F : TT) (σ : St) (t n : Nat) (ps : List (Nat × Operand)) (d : Option Tmp) : R := match d, y7a F t, y6e σ 0 ps with
 | some d, some (sz, _), some rws => (match get σ.b d with
   | none => qr (q49 n rws) (qr (Nat.ble (Nat.mul n sz) 16777216) (qr (q64 sz rws) (qr (y8v (z8i (flat rws))) (qr (zab (za1 d (z8i (flat rws)))) (.side (q7d (wfS σ.b (y5m (flat rws))) (flat rws)) (q0i (q8u σ.b rws) fun rs =>
     bR ((d, .one (.h d n)) :: σ.t) (z0d (yo σ.b (z8i (flat rws))) d (.arr (y5m (flat rws)) sz 0 rs))))))))
   | some _ => .fail)
 | _, _, _ => .fail
def zbf (F : TT) (σ : St) (t : Nat) (l c : Operand) (d : Option Tmp) : R := match d, y7a F t, z98 F t, ev σ l, ev σ c with
 | some d, some (sz, by_), some zrow, some (.one (.b (.s (.int _ n)))), some (.one (.b (.s (.int _ n')))) => (match get σ.b d with
   | none => qr (q49 sz zrow) (.side (n = n') (.side (0 ≤ n) (.side (n * by_ ≤ 281474976710656) (.side (n ≤ 9223372036854775807) (bR ((d, .one (.h d n.toNat)) :: σ.t) (z0d σ.b d (.arr true sz 0 (List.replicate n.toNat zrow))))))))
   | some _ => .fail)
 | _, _, _, _, _ => .fail
def opR (g : Bool) (F : TT) (σ : St) (o : Oper) : R := match o.op with
 | .move x => evR σ x fun av => z0u σ o.dst av
 | .assign x => evR σ x fun av => z0u σ o.dst av
 | .pick c x y => (match ev σ c with | some (.one (.b (.s (.bool t)))) => .br t (evR σ x fun av => z0u σ o.dst av) (evR σ y fun av => z0u σ o.dst av) | _ => .fail)
 | .load t x => (match ev σ x, y9j F t with
   | some av, some (ag, n) => z68 σ av fun cs => (match ag with
     | true => qr (q3p n cs) (q0i (force (cs.take n)) fun cs => z0u σ o.dst (.agg cs))
     | false => (match cs with | [] => .fail | c :: _ => z0u σ o.dst (.one c)))
   | _, _ => .fail)
 | .binOp op t x y _ => (match ev σ x, ev σ y with
   | some (.one (.b (.s (.bool a)))), some (.one (.b (.s (.bool b)))) => qr (yae F t) (match op with | .eql => z0u σ o.dst (sV (.bool (a == b))) | .neq => z0u σ o.dst (sV (.bool (!(a == b)))) | _ => .fail)
   | some (.one (.b (.s u))), some (.one (.b (.s v))) => zb9 op u v fun r => z0u σ o.dst (sV r)
   | some (.one (.b (.l rows))), some (.one .nil) => q0i (q44 F t) fun _ => (match op with
     | .eql => .any (fun b => b = true → rows = []) fun b => z0u σ o.dst (sV (.bool b))
     | .neq => .any (fun b => b = true → rows = []) fun b => z0u σ o.dst (sV (.bool (!b)))
     | _ => .fail)
   | some (.agg cs), some (.agg cs') => q0i (qae F t) fun ks => q0i (scs cs) fun xs => q0i (scs cs') fun ys => qr (z9q ks xs) (qr (z9q ks ys) (match op with
     | .eql => z0u σ o.dst (sV (.bool (y1d xs ys)))
     | .neq => z0u σ o.dst (sV (.bool (!(y1d xs ys))))
     | _ => .fail))
   | _, _ => .raw g σ o)
 | .unOp op _ x => (match op, ev σ x with
   | .not, some (.one (.b (.s (.bool b)))) => z0u σ o.dst (sV (.bool (!b)))
   | .neg, some (.one (.b (.s (.int k n)))) => z0u σ o.dst (sV (.int k (k.wrap (0 - n))))
   | _, _ => .fail)
 | .convert s d x => (match ev σ x, qbl F d with
   | some (.one (.b (.s (.int _ n)))), some k => qr (zaf F s) (z0u σ o.dst (sV (.int k (k.wrap n))))
   | _, _ => .raw g σ o)
 | .fieldAddr s x f => (match ev σ x, y97 F s f with
   | some (.one (.b (.p row))), some off => qr (q3p off row) (q0i (force (row.drop off)) fun row => z0u σ o.dst (.one (.b (.p row))))
   | some (.one (.a β i)), some off => z0u σ o.dst (.one (.a β (i + off)))
   | some (.one (.e β m i k)), some off => z0u σ o.dst (.one (.e β m i (k + off)))
   | _, _ => .fail)
 | .field s x f => (match ev σ x, q9i F s f with
   | some (.agg cs), some (true, off, n) => qr (q3p (Nat.add off n) cs) (q0i (force ((cs.drop off).take n)) fun cs => z0u σ o.dst (.agg cs))
   | some (.agg cs), some (false, off, _) => q0i (nth cs off) fun c => z0u σ o.dst (.one c)
   | _, _ => .fail)
 | .indexAddr t x i => (match ev σ x, ev σ i, q44 F t with
   | some (.one (.b (.l rows))), some (.one (.b (.s (.int _ n)))), some sz => .side (0 ≤ n) (.row rows n.toNat fun row => .side (row.length = sz) (z0u σ o.dst (.one (.b (.p row)))))
   | some (.one (.h β m)), some (.one (.b (.s (.int _ n)))), some sz => (match get σ.b β with
     | some (.arr _ _ _ rows) => .side (m = rows.length) (.side (0 ≤ n) (.row rows n.toNat fun row => .side (row.length = sz) (z0u σ o.dst (.one (.e β m n.toNat 0)))))
     | _ => .fail)
   | _, _, _ => .raw g σ o)
 | .index t x i => (match ev σ x, ev σ i with
   | some (.one (.b (.s (.string s)))), some (.one (.b (.s (.int _ n)))) => qr (y8j F t) (.side (0 ≤ n) (.byte s n.toNat fun b => z0u σ o.dst (sV (.int .u8 b.toNat))))
   | _, _ => .fail)
 | .slice t x lo hi none => (match ev σ x, q9w lo σ, q9w hi σ with
   | some (.one (.b (.s (.string s)))), some l, some h => qr (y8j F t) (.side (0 ≤ l.getD 0) (.side (l.getD 0 ≤ h.getD s.size) (.side (h.getD s.size ≤ s.size) (z0u σ o.dst (sV (.string (s.extract (l.getD 0).toNat (h.getD s.size).toNat)))))))
   | some (.one (.b (.l rows))), some l, some h => q0i (q44 F t) fun sz => .side (l.getD 0 = 0 ∨ ∀ row ∈ rows, row.length = sz) (.side (0 ≤ l.getD 0) (.side (l.getD 0 ≤ h.getD rows.length) (.side (h.getD rows.length ≤ rows.length) (z0u σ o.dst (.one (.b (.l ((rows.take (h.getD rows.length).toNat).drop (l.getD 0).toNat))))))))
   | _, _, _ => .raw g σ o)
 | .extract x i => (match ev σ x with | some (.tup vs) => q0i (nth vs i) fun av => z0u σ o.dst av | _ => .fail)
 | .makeFunc (.func f) first caps => (match first.toList, caps.toList with
   | [x], [] => (match ev σ x with
     | some (.one (.a β off)) => z0u σ o.dst (.one (.cm f β off))
     | some (.one (.b c)) => z0u σ o.dst (.one (.b (.m f false [c])))
     | some (.agg cs) => q0i (yaa cs) fun l => z0u σ o.dst (.one (.b (.m f true l)))
     | _ => .fail)
   | [], _ => (match z6o σ caps.toList with | some cs => z0u σ o.dst (.one (.cl f cs)) | none => q0i (z8m σ caps.toList) fun cs => z0u σ o.dst (.one (.b (.f f cs))))
   | _, _ => .fail)
 | .build t ps => (match y5f F t with
   | some z => q0i (z7n F σ t z ps.toList) fun cs => z0u σ o.dst (.agg cs)
   | none => .raw g σ o)
 | .alloc e => (match q97 F e with | some z => qr (y7z z) (qb6 σ o.dst (yj z)) | none => .fail)
 | .box _ x => (match ev σ x with | some z => qr (y7z z) (qb6 σ o.dst (yj z)) | none => .fail)
 | .store t p x => (match o.dst, ev σ p, ev σ x with
   | none, some pv, some xv => q5a F σ t pv xv
   | _, _, _ => .fail)
 | .buildSlice t n ps => ybe F σ t n ps.toList o.dst
 | .makeSlice t l c => zbf F σ t l c o.dst
 | .call c => q9n g F σ o c
 | .nilCheck x => evR σ x fun av => (match av with | .one (.b (.p row)) => z0u σ o.dst (.one (.b (.p row))) | .one (.a β off) => z0u σ o.dst (.one (.a β off)) | .one (.e β m i k) => z0u σ o.dst (.one (.e β m i k)) | _ => .fail)
 | _ => .raw g σ o
end Go.Sx
end
