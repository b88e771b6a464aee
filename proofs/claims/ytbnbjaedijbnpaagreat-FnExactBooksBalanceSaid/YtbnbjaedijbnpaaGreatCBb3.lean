/- WHAT IS PROVED: parts of the proof of fnExactBooksBalance_holds: a frame for walks, what each Go function that it reaches answers, and plain lemmas; no condition beyond those that each theorem names. -/
import Derived.Test.YtbnbjaedijbnpaaGreatCBb2
import Derived.WalkKit
import Derived.OrdersHeld
import Derived.DeepKeys
import Derived.Maps.RangeWalk
import Derived.Maps.OwnOps
import Derived.WideKeyEntry
set_option linter.unusedVariables false
set_option linter.unusedSimpArgs false
section
namespace Go.Sx
open Go.RowKit (Below)
structure TI where
 lay : Option (Bool × Nat)
 esz : Option Nat
 esI : Option (Nat × Nat)
 str : Bool
 boo : Bool
 und : Bool
 ik : Option IntKind
 zero : Option AV
 q4a : Option (List AC)
 zrow : Option (List Cell)
 flds : List (Option Nat × Option (Bool × Nat × Nat))
 cmp : Option (List CK)
inductive TT where
 | leaf
 | node (k : Nat) (v : TI) (l r : TT)
def z96 (P : Program) (t : TypeId) : Bool := match P.underlying t with | some .bool => true | _ => false
def qav (P : Program) (t : TypeId) : Nat := match P.underlying t with | some (.struct fs) => fs.size | _ => 0
def mkF (P : Program) (t : TypeId) : Nat → Nat → List (Option Nat × Option (Bool × Nat × Nat))
 | 0, _ => []
 | n + 1, i => (z9k P t i, fld P t i) :: mkF P t n (i + 1)
def zab (P : Program) (t : TypeId) : TI := ⟨lay P t, esz P t, y13 P t, z56 P t, z96 P t, (P.underlying t).isSome, z81 P t, y11 P t, q4a P t, z7o P t, mkF P t (qav P t) 0, y9u P t⟩
def TT.map (P : Program) : TT → TT
 | .leaf => .leaf
 | .node k _ l r => .node k (zab P k) (l.map P) (r.map P)
def TT.find : TT → Nat → Option TI
 | .leaf, _ => none
 | .node k v l r, t => bif Nat.beq k t then some v else bif Nat.blt t k then l.find t else r.find t
theorem TT.z2k {P : Program} : ∀ {F : TT} {t : Nat} {i : TI}, (F.map P).find t = some i → i = zab P t
 | .leaf, t, i, h => by cases h
 | .node k v l r, t, i, h => by
   rw [TT.map, TT.find] at h
   by_cases hk : k = t
   · subst hk; simp only [Nat.beq_refl, cond_true, Option.some.injEq] at h; exact h.symm
   · rw [beq_false hk] at h
     cases hb : Nat.blt t k with
     | true => rw [hb] at h; exact TT.z2k h
     | false => rw [hb] at h; exact TT.z2k h
def nth {α : Type} : List α → Nat → Option α
 | [], _ => none
 | a :: l, n => bif Nat.beq n 0 then some a else nth l (Nat.pred n)
theorem z2d {α : Type} : ∀ (l : List α) (n : Nat), nth l n = l[n]?
 | [], n => by simp [nth]
 | a :: l, 0 => rfl
 | a :: l, n + 1 => by rw [nth, beq_false (by omega), List.getElem?_cons_succ]; exact z2d l n
theorem z59 {P : Program} {t : Nat} : ∀ {n i k : Nat} {x : Option Nat × Option (Bool × Nat × Nat)}, (mkF P t n i)[k]? = some x → x = (z9k P t (i + k), fld P t (i + k))
 | 0, i, k, x, h => by simp [mkF] at h
 | n + 1, i, k, x, h => by
   rw [mkF] at h
   cases k with
   | zero => cases h; rfl
   | succ k => rw [List.getElem?_cons_succ] at h; rw [z59 h]; simp only [Nat.add_assoc, Nat.add_comm 1 k]
def q8s (F : TT) (t : Nat) : Option (Bool × Nat) := match F.find t with | some i => i.lay | none => none
def y3p (F : TT) (t : Nat) : Option Nat := match F.find t with | some i => i.esz | none => none
def q6i (F : TT) (t : Nat) : Option (Nat × Nat) := match F.find t with | some i => i.esI | none => none
def q7q (F : TT) (t : Nat) : Bool := match F.find t with | some i => i.str | none => false
def q9n (F : TT) (t : Nat) : Bool := match F.find t with | some i => i.boo | none => false
def y9o (F : TT) (t : Nat) : Bool := match F.find t with | some i => i.und | none => false
def zaq (F : TT) (t : Nat) : Option IntKind := match F.find t with | some i => i.ik | none => none
def q8h (F : TT) (t : Nat) : Option AV := match F.find t with | some i => i.zero | none => none
def q4y (F : TT) (t : Nat) : Option (List AC) := match F.find t with | some i => i.q4a | none => none
def z8i (F : TT) (t : Nat) : Option (List Cell) := match F.find t with | some i => i.zrow | none => none
def z9o (F : TT) (t : Nat) : Option (List CK) := match F.find t with | some i => i.cmp | none => none
def y8h (F : TT) (t f : Nat) : Option Nat := match F.find t with | some i => (match nth i.flds f with | some x => x.1 | none => none) | none => none
def z8s (F : TT) (t f : Nat) : Option (Bool × Nat × Nat) := match F.find t with | some i => (match nth i.flds f with | some x => x.2 | none => none) | none => none
section
variable {P : Program} {F : TT}
theorem y1g {α : Type} {F : TT} {t : Nat} {g : TI → Option α} {x : α} (hF : F = F.map P) (h : (match F.find t with | some i => g i | none => none) = some x) : g (zab P t) = some x := by
 cases hi : F.find t with
 | none => rw [hi] at h; cases h
 | some i => rw [hi] at h; rw [hF] at hi; rw [← TT.z2k hi]; exact h
theorem z6j {F : TT} {t : Nat} {g : TI → Bool} (hF : F = F.map P) (h : (match F.find t with | some i => g i | none => false) = true) : g (zab P t) = true := by
 cases hi : F.find t with
 | none => rw [hi] at h; cases h
 | some i => rw [hi] at h; rw [hF] at hi; rw [← TT.z2k hi]; exact h
theorem y2h (hF : F = F.map P) {t : Nat} {x : Bool × Nat} (h : q8s F t = some x) : lay P t = some x := y1g (g := TI.lay) hF h
theorem q0f (hF : F = F.map P) {t : Nat} {x : Nat} (h : y3p F t = some x) : esz P t = some x := y1g (g := TI.esz) hF h
theorem qy (hF : F = F.map P) {t : Nat} {x : Nat × Nat} (h : q6i F t = some x) : y13 P t = some x := y1g (g := TI.esI) hF h
theorem y8s (hF : F = F.map P) {t : Nat} {x : IntKind} (h : zaq F t = some x) : z81 P t = some x := y1g (g := TI.ik) hF h
theorem y6j (hF : F = F.map P) {t : Nat} {x : AV} (h : q8h F t = some x) : y11 P t = some x := y1g (g := TI.zero) hF h
theorem z5w (hF : F = F.map P) {t : Nat} {x : List AC} (h : q4y F t = some x) : q4a P t = some x := y1g (g := TI.q4a) hF h
theorem q6j (hF : F = F.map P) {t : Nat} {x : List Cell} (h : z8i F t = some x) : z7o P t = some x := y1g (g := TI.zrow) hF h
theorem y7q (hF : F = F.map P) {t : Nat} {x : List CK} (h : z9o F t = some x) : y9u P t = some x := y1g (g := TI.cmp) hF h
theorem q3p (hF : F = F.map P) {t : Nat} (h : q7q F t = true) : z56 P t = true := z6j (g := TI.str) hF h
theorem z7q (hF : F = F.map P) {t : Nat} (h : q9n F t = true) : P.underlying t = some .bool := by
 have : z96 P t = true := z6j (g := TI.boo) hF h
 unfold z96 at this
 split at this
 · assumption
 · cases this
theorem z7r (hF : F = F.map P) {t : Nat} (h : y9o F t = true) : ∃ u, P.underlying t = some u := Option.isSome_iff_exists.1 (z6j (g := TI.und) hF h)
theorem z2n (hF : F = F.map P) {t f x : Nat} (h : y8h F t f = some x) : z9k P t f = some x := by
 have := y1g (g := fun i => match nth i.flds f with | some x => x.1 | none => none) hF h
 split at this
 · rename_i y hy
   rw [z2d] at hy
   rw [z59 hy, Nat.zero_add] at this
   exact this
 · cases this
theorem z2h (hF : F = F.map P) {t f : Nat} {x : Bool × Nat × Nat} (h : z8s F t f = some x) : fld P t f = some x := by
 have := y1g (g := fun i => match nth i.flds f with | some x => x.2 | none => none) hF h
 split at this
 · rename_i y hy
   rw [z2d] at hy
   rw [z59 hy, Nat.zero_add] at this
   exact this
 · cases this
end
inductive R where
 | fail
 | ok (σ : St)
 | side (p : Prop) (r : R)
 | br (t : Bool) (r r' : R)
 | any (q : Bool → Prop) (f : Bool → R)
 | row (rows : List (List Cell)) (i : Nat) (f : List Cell → R)
 | byte (s : ByteArray) (i : Nat) (f : UInt8 → R)
 | call (g : Bool) (σ : St) (d : Option Tmp) (f : Nat) (avs : List AV)
 | raw (g : Bool) (σ : St) (o : Oper)
def R.holds (P : Program) : R → (St → Prop) → Prop
 | .fail, _ => False
 | .ok σ, K => K σ
 | .side p r, K => p ∧ r.holds P K
 | .br t r r', K => (t = true → r.holds P K) ∧ (t = false → r'.holds P K)
 | .any q f, K => ∀ b, q b → (f b).holds P K
 | .row rows i f, K => ∃ row, rows[i]? = some row ∧ (f row).holds P K
 | .byte s i f, K => ∃ b, s[i]? = some b ∧ (f b).holds P K
 | .call g σ d f avs, K => y3o P σ d f avs K ∨ (g = true ∧ z3o P σ d f avs K)
 | .raw g σ o, K => opL g P σ o K
def force {α : Type} : List α → Option (List α)
 | [] => some []
 | a :: l => match force l with | some l' => some (a :: l') | none => none
theorem force_eq {α : Type} : ∀ {l l' : List α}, force l = some l' → l' = l
 | [], l', h => by cases h; rfl
 | a :: l, l', h => by
   rw [force] at h
   split at h
   · rename_i l1 h1; cases h; rw [force_eq h1]
   · cases h
def q38 {α : Type} : Nat → List α → Bool
 | 0, _ => true
 | _ + 1, [] => false
 | n + 1, _ :: l => q38 n l
theorem z0q {α : Type} : ∀ {n : Nat} {l : List α}, q38 n l = true → n ≤ l.length
 | 0, l, _ => Nat.zero_le _
 | n + 1, [], h => by cases h
 | n + 1, _ :: l, h => Nat.succ_le_succ (z0q (l := l) h)
def y3u {α : Type} : Nat → List α → Bool
 | 0, [] => true
 | 0, _ :: _ => false
 | _ + 1, [] => false
 | n + 1, _ :: l => y3u n l
theorem q0w {α : Type} : ∀ {n : Nat} {l : List α}, y3u n l = true → l.length = n
 | 0, [], _ => rfl
 | 0, _ :: _, h => by cases h
 | n + 1, [], h => by cases h
 | n + 1, _ :: l, h => congrArg (· + 1) (q0w (l := l) h)
def ikN : IntKind → Nat
 | .i8 => 0 | .i16 => 1 | .i32 => 2 | .i64 => 3 | .u8 => 4 | .u16 => 5 | .u32 => 6 | .u64 => 7
theorem y95 {k k' : IntKind} (h : Nat.beq (ikN k) (ikN k') = true) : k = k' := by
 cases k <;> cases k' <;> first | rfl | cases h
def yo (b : Bool) (r : R) : R := match b with | true => r | false => .fail
theorem qa {P : Program} {b : Bool} {r : R} {K : St → Prop} (h : (yo b r).holds P K) : b = true ∧ r.holds P K := by
 cases b with
 | true => exact ⟨rfl, h⟩
 | false => exact h.elim
def y0n (σ : St) (d : Option Tmp) (av : AV) : R := match σ, d with
 | ⟨t, b⟩, some d => .ok ⟨(d, av) :: t, b⟩
 | σ, none => .ok σ
theorem y1f {P : Program} {σ : St} {d : Option Tmp} {av : AV} {K : St → Prop} : (y0n σ d av).holds P K ↔ K (σ.put d av) := by
 cases σ; cases d <;> rfl
def evR (σ : St) (x : Operand) (f : AV → R) : R := match ev σ x with | some av => f av | none => .fail
def sV (v : Value) : AV := .one (.b (.s v))
def z5m (σ : St) (av : AV) (f : List AC → R) : R := match av with
 | .one (.b (.p row)) => (match force (row.map .b) with | some cs => f cs | none => .fail)
 | .one (.a β off) => (match get σ.b β with | some (.var cs) => (match force ((cs.drop off).map (unk σ.b)) with | some cs => f cs | none => .fail) | _ => .fail)
 | .one (.e β m i k) => (match get σ.b β with
   | some (.arr full _ ep rows) => .side (m = rows.length) (.row rows i fun row => (match y2p full β ep i k (row.drop k) with | some cs => f cs | none => .fail))
   | _ => .fail)
 | _ => .fail
theorem y6q {P : Program} {σ : St} {av : AV} {f : List AC → R} {K : St → Prop} {K' : List AC → Prop} (hf : ∀ cs, (f cs).holds P K → K' cs) (h : (z5m σ av f).holds P K) : z1j σ av K' := by
 unfold z5m at h
 unfold z1j
 split at h
 · split at h
   · rename_i cs hcs; rw [force_eq hcs] at h; exact hf _ h
   · exact h.elim
 · rename_i β off
   dsimp only
   split at h
   · rename_i cs hcs
     split at h
     · rename_i cs' hcs'; rw [force_eq hcs'] at h; rw [hcs]; exact hf _ h
     · exact h.elim
   · exact h.elim
 · rename_i β m i k
   dsimp only
   split at h
   · rename_i full sz ep rows hab
     obtain ⟨h1, row, h2, h3⟩ := h
     rw [hab]
     refine ⟨h1, ?_⟩
     rw [h2]
     dsimp only at h3 ⊢
     split at h3
     · rename_i cs hcs; rw [hcs]; exact hf _ h3
     · exact h3.elim
   · exact h.elim
 · exact h.elim
def z93 (op : BinOp) (k : IntKind) (x y : Int) (f : Value → R) : R := match op with
 | .add => f (.int k (k.wrap (x + y))) | .sub => f (.int k (k.wrap (x - y))) | .mul => f (.int k (k.wrap (x * y)))
 | .eql => f (.bool (x == y)) | .neq => f (.bool (x != y)) | .lss => f (.bool (decide (x < y))) | .leq => f (.bool (decide (x ≤ y)))
 | .gtr => f (.bool (decide (x > y))) | .geq => f (.bool (decide (x ≥ y)))
 | .quo => .side (y ≠ 0) (f (.int k (k.wrap (x.tdiv y)))) | .rem => .side (y ≠ 0) (f (.int k (x.tmod y)))
 | .and => f (.int k (bits .and k x y)) | .or => f (.int k (bits .or k x y)) | .xor => f (.int k (bits .xor k x y))
 | _ => .fail
def yan (op : BinOp) (a b : ByteArray) (f : Value → R) : R := match op with
 | .add => .side (a.size + b.size ≤ 9223372036854775807) (f (.string (a ++ b)))
 | .eql => f (.bool (a.toList == b.toList)) | .neq => f (.bool (!(a.toList == b.toList)))
 | .lss => f (.bool (Op.bytesLess a.toList b.toList)) | .leq => f (.bool (Op.bytesLess a.toList b.toList || (a.toList == b.toList)))
 | .gtr => f (.bool (!(Op.bytesLess a.toList b.toList || (a.toList == b.toList)))) | .geq => f (.bool (!(Op.bytesLess a.toList b.toList)))
 | _ => .fail
def yaf (op : BinOp) (u v : Value) (f : Value → R) : R := match u, v with
 | .int k x, .int k' y => (match op with
   | .shl => .side (0 ≤ y) (f (.int k (k.wrap (x * 2 ^ (min y.toNat k.bits)))))
   | .shr => .side (0 ≤ y) (f (.int k (x.fdiv (2 ^ (min y.toNat k.bits)))))
   | op => yo (Nat.beq (ikN k) (ikN k')) (z93 op k x y f))
 | .string a, .string b => yan op a b f
 | _, _ => .fail
section
variable {P : Program} {K : St → Prop} {K' : Value → Prop} {f : Value → R}
theorem q80 {op : BinOp} {k : IntKind} {x y : Int} (hf : ∀ v, (f v).holds P K → K' v) (h : (z93 op k x y f).holds P K) : match q9w op k x y with | some r => K' r | none => False := by
 cases op <;> simp only [z93] at h <;> simp only [q9w] <;> first
  | exact hf _ h
  | exact h.elim
  | (rw [if_neg h.1]; exact hf _ h.2)
theorem z9h {op : BinOp} {a b : ByteArray} (hf : ∀ v, (f v).holds P K → K' v) (h : (yan op a b f).holds P K) : z5u op a b K' := by
 cases op <;> simp only [yan] at h <;> simp only [z5u] <;> first
  | exact hf _ h
  | exact h.elim
  | exact ⟨h.1, hf _ h.2⟩
theorem z8x {op : BinOp} {u v : Value} (hf : ∀ v, (f v).holds P K → K' v) (h : (yaf op u v f).holds P K) : y9t op u v K' := by
 unfold yaf at h
 unfold y9t
 split at h
 · dsimp only
   split at h
   · exact ⟨h.1, hf _ h.2⟩
   · exact ⟨h.1, hf _ h.2⟩
   · rename_i h1 h2
     obtain ⟨hk, h'⟩ := qa h
     have hk := y95 hk
     subst hk
     have := q80 hf h'
     split
     · exact absurd rfl h1
     · exact absurd rfl h2
     · rw [if_pos rfl]; exact this
 · exact z9h hf h
 · exact h.elim
end
end Go.Sx
end
section
namespace Go.Sx
open Go.RowKit (Below)
def bR (t : List (Nat × AV)) (b : List (Nat × AB)) : R := match force b with | some b => .ok ⟨t, b⟩ | none => .fail
theorem zw {P : Program} {t : List (Nat × AV)} {b : List (Nat × AB)} {K : St → Prop} (h : (bR t b).holds P K) : K ⟨t, b⟩ := by
 unfold bR at h
 split at h
 · rename_i b' hb; rw [force_eq hb] at h; exact h
 · exact h.elim
def q8n (B : List (Nat × AB)) : List AC → Option (List Cell)
 | [] => some []
 | .b c :: l => (match q8n B l with | some l' => some (c :: l') | none => none)
 | .h γ _ :: l => (match get B γ, q8n B l with | some (.arr _ _ _ rows), some l' => some (.l rows :: l') | _, _ => none)
 | .nil :: l => (match q8n B l with | some l' => some (.l [] :: l') | none => none)
 | .em :: l => (match q8n B l with | some l' => some (.l [] :: l') | none => none)
 | _ => none
theorem z41 {B : List (Nat × AB)} : ∀ {cs : List AC} {l : List Cell}, q8n B cs = some l → l = cs.map (q2g B)
 | [], l, h => by cases h; rfl
 | c :: cs, l, h => by
   cases c <;> rw [q8n] at h <;> first
    | (split at h
       · rename_i l' hl; cases h; rw [z41 hl]; rfl
       · cases h)
    | (split at h
       · rename_i rows l' hg hl; cases h; rw [z41 hl]; simp [q2g, hg]
       · cases h)
    | cases h
def y84 (B : List (Nat × AB)) : List (List AC) → Option (List (List Cell))
 | [] => some []
 | cs :: l => match q8n B cs, y84 B l with | some r, some l' => some (r :: l') | _, _ => none
theorem z5q {B : List (Nat × AB)} : ∀ {rws : List (List AC)} {l : List (List Cell)}, y84 B rws = some l → l = rws.map fun cs => cs.map (q2g B)
 | [], l, h => by cases h; rfl
 | c :: cs, l, h => by
   rw [y84] at h
   split at h
   · rename_i r l' hr hl; cases h; rw [z41 hr, z5q hl]; rfl
   · cases h
def q7o : List AC → List Nat
 | [] => []
 | .h γ _ :: l => γ :: q7o l
 | _ :: l => q7o l
theorem z3w : ∀ (cs : List AC), q7o cs = cs.filterMap gam
 | [] => rfl
 | c :: cs => by
   have ih := z3w cs
   cases c <;> simp only [q7o, ih] <;> rfl
def y9a (x : Nat) : List Nat → Bool
 | [] => false
 | y :: l => bif Nat.beq x y then true else y9a x l
theorem z2l {x : Nat} : ∀ {l : List Nat}, y9a x l = false → x ∉ l
 | [], _ => by simp
 | y :: l, h => by
   rw [y9a] at h
   cases hb : Nat.beq x y with
   | true => rw [hb] at h; cases h
   | false =>
     rw [hb] at h
     have hne : x ≠ y := fun e => by subst e; simp at hb
     have := z2l (l := l) h
     simp [hne, this]
def z9b : List Nat → Bool
 | [] => true
 | x :: l => bif y9a x l then false else z9b l
theorem z1 : ∀ {l : List Nat}, z9b l = true → l.Nodup
 | [], _ => List.nodup_nil
 | x :: l, h => by
   rw [z9b] at h
   cases hb : y9a x l with
   | true => rw [hb] at h; cases h
   | false => rw [hb] at h; exact List.nodup_cons.2 ⟨z2l hb, z1 h⟩
def y9k (b : Bool) : Bool := match b with | true => false | false => true
theorem y2w {b : Bool} (h : y9k b = true) : b = false := by cases b <;> first | rfl | cases h
def z5k (sz : Nat) : List (List AC) → Bool
 | [] => true
 | cs :: l => bif y3u sz cs then z5k sz l else false
theorem q4c {sz : Nat} : ∀ {l : List (List AC)}, z5k sz l = true → (l.all fun cs => cs.length == sz) = true
 | [], _ => rfl
 | cs :: l, h => by
   rw [z5k] at h
   cases hb : y3u sz cs with
   | false => rw [hb] at h; cases h
   | true => rw [hb] at h; simp only [List.all_cons, q0w hb, beq_self_eq_true, Bool.true_and]; exact q4c h
def flat (l : List (List AC)) : List AC := l.flatten
def z5r (σ : St) : Nat → List (Nat × Operand) → Option (List (List AC))
 | _, [] => some []
 | i, (j, x) :: ps => bif Nat.beq i j then (match ev σ x, z5r σ (Nat.succ i) ps with
   | some (.one c), some r => some ([c] :: r)
   | some (.agg cs), some r => some (cs :: r)
   | _, _ => none) else none
theorem q2w {σ : St} : ∀ {ps : List (Nat × Operand)} {i : Nat} {r : List (List AC)}, z5r σ i ps = some r → y1m σ i ps = some r
 | [], i, r, h => h
 | (j, x) :: ps, i, r, h => by
   rw [z5r] at h
   by_cases hij : i = j
   · subst hij
     simp only [Nat.beq_refl, cond_true] at h
     rw [y1m, if_pos rfl]
     split at h
     · rename_i c r' h1 h2; cases h; rw [h1, q2w h2]
     · rename_i c r' h1 h2; cases h; rw [h1, q2w h2]
     · cases h
   · rw [beq_false hij] at h; cases h
def z6w (F : TT) (σ : St) (t : Nat) : List AC → List (Nat × Operand) → Option (List AC)
 | cs, [] => some cs
 | cs, (i, x) :: ps => match z8s F t i, ev σ x with
   | some (_, off, n), some (.one c) => (match Nat.beq n 1, q38 (Nat.add off 1) cs, force (putCells cs off [c]) with | true, true, some cs' => z6w F σ t cs' ps | _, _, _ => none)
   | some (_, off, n), some (.agg xs) => (match y3u n xs, q38 (Nat.add off n) cs, force (putCells cs off xs) with | true, true, some cs' => z6w F σ t cs' ps | _, _, _ => none)
   | _, _ => none
def z5z (σ : St) : List Operand → Option (List (Nat × Nat))
 | [] => some []
 | x :: l => match ev σ x, z5z σ l with | some (.one (.a β off)), some r => some ((β, off) :: r) | _, _ => none
theorem q3r {σ : St} : ∀ {l : List Operand}, z5z σ l = l.mapM (fun x => match ev σ x with | some (.one (.a β off)) => some (β, off) | _ => none)
 | [] => rfl
 | x :: l => by
   rw [List.mapM_cons, ← q3r (l := l), z5z]
   split
   · rename_i β off r h1 h2
     simp [h1, h2]
   · rename_i h1
     cases he : z5z σ l with
     | none => split <;> simp
     | some r =>
       split
       · rename_i β off h2; exact absurd he (h1 β off r h2)
       · simp
def y7v (σ : St) : List Operand → Option (List Cell)
 | [] => some []
 | x :: l => match ev σ x, y7v σ l with | some (.one (.b c)), some r => some (c :: r) | _, _ => none
theorem q5l {σ : St} : ∀ {l : List Operand} {r : List Cell}, y7v σ l = some r → l.mapM (fun x => match ev σ x with | some (.one (.b c)) => some c | _ => none) = some r
 | [], r, h => by cases h; rfl
 | x :: l, r, h => by
   rw [y7v] at h
   split at h
   · rename_i c r' h1 h2
     cases h
     simp [h1, q5l h2]
   · cases h
def y55 : List AC → Bool
 | [] => true
 | .b (.s _) :: l => y55 l
 | .b _ :: _ => false
 | _ :: l => y55 l
theorem y2k : ∀ (cs : List AC), y55 cs = q2a cs
 | [] => rfl
 | c :: cs => by
   cases c with
   | b c => cases c <;> simp [y55, q2a] <;> exact y2k cs
   | _ => simp [y55, q2a]; exact y2k cs
section
variable {P : Program} {F : TT}
theorem y3v (hF : F = F.map P) {σ : St} {t : Nat} : ∀ {ps : List (Nat × Operand)} {cs r : List AC}, z6w F σ t cs ps = some r → y2a P σ t cs ps = some r
 | [], cs, r, h => h
 | (i, x) :: ps, cs, r, h => by
   rw [z6w] at h
   rw [y2a]
   split at h
   · rename_i off n c h1 h2
     rw [z2h hF h1, h2]
     dsimp only
     split at h
     · rename_i cs' e1 e2 e3
       rw [if_pos ⟨Nat.eq_of_beq_eq_true e1, z0q e2⟩, ← force_eq e3]
       exact y3v hF h
     · cases h
   · rename_i off n xs h1 h2
     rw [z2h hF h1, h2]
     dsimp only
     split at h
     · rename_i cs' e1 e2 e3
       rw [if_pos ⟨q0w e1, z0q e2⟩, ← force_eq e3]
       exact y3v hF h
     · cases h
   · cases h
end
def q95 : Option Operand → St → Option (Option Int)
 | none, _ => some none
 | some x, σ => match ev σ x with | some (.one (.b (.s (.int _ n)))) => some (some n) | _ => none
def q0d {α : Type} (o : Option α) (f : α → R) : R := match o with | some a => f a | none => .fail
theorem qf {P : Program} {K : St → Prop} {α : Type} {o : Option α} {f : α → R} (h : (q0d o f).holds P K) : ∃ a, o = some a ∧ (f a).holds P K := by
 cases o with
 | none => exact h.elim
 | some a => exact ⟨a, rfl, h⟩
def zaj (F : TT) (σ : St) (t : Nat) (av : AV) (f : Value → R) : R := match av with
 | .one (.b (.l rows)) => q0d (y3p F t) fun _ => f (.int .i64 rows.length)
 | .one .nil => q0d (y3p F t) fun _ => f (.int .i64 0)
 | .one .em => q0d (y3p F t) fun _ => f (.int .i64 0)
 | .one (.h _ n) => q0d (y3p F t) fun _ => f (.int .i64 n)
 | .one (.b (.s (.string s))) => yo (q7q F t) (f (.int .i64 s.size))
 | .one (.q β m i k) => q0d (y3p F t) fun _ => (match get σ.b β with
   | some (.arr _ _ ep rows) => .side (m = ep) (.row rows i fun row => match nth row k with | some (.l rs) => f (.int .i64 rs.length) | _ => .fail)
   | _ => .fail)
 | _ => .fail
def q8x (g : Bool) (F : TT) (σ : St) (o : Oper) (c : Call) : R := match c.callee with
 | .builtin .len => (match c.argTypes.toList, c.args.toList with
   | t :: _, [x] => evR σ x fun av => zaj F σ t av fun r => y0n σ o.dst (sV r)
   | _, _ => .fail)
 | .builtin .append => (match c.argTypes.toList, c.args.toList, o.dst with
   | [t, tx], [s, x], some d => (match q6i F t, q6i F tx, ev σ s, ev σ x with
     | some (sz, by_), some _, some (.one (.h β n)), some (.one (.h γ m)) => (match get σ.b β, get σ.b γ with
       | some (.arr full0 sz0 ep rows0), some (.arr full sz1 _ rows) =>
         yo (Nat.beq sz0 sz) (yo (Nat.beq sz1 sz) (yo (y9k (Nat.beq β γ)) (.side (n = rows0.length) (.side (m = rows.length) (.side (full0 = full ∨ rows0 = []) (.side (rows0.length + rows.length ≤ 9223372036854775807) (.side ((rows0.length + rows.length) * by_ ≤ 140737488355328)
         (bR ((d, .one (.h β (rows0.length + rows.length))) :: σ.t) (z06 (ql σ.b [γ]) β (.arr full sz (Nat.succ ep) (rows0 ++ rows)))))))))))
       | _, _ => .fail)
     | some (sz, by_), some _, some (.one (.h β n)), some (.one (.b (.l rows))) => (match get σ.b β with
       | some (.arr full0 sz0 ep rows0) => yo (Nat.beq sz0 sz) (.side (n = rows0.length) (.side (∀ row ∈ rows, row.length = sz) (.side (full0 = true → zy rows) (.side (rows0.length + rows.length ≤ 9223372036854775807) (.side ((rows0.length + rows.length) * by_ ≤ 140737488355328)
         (bR ((d, .one (.h β (rows0.length + rows.length))) :: σ.t) (z06 σ.b β (.arr full0 sz (Nat.succ ep) (rows0 ++ rows)))))))))
       | _ => .fail)
     | some (sz, by_), some _, some (.one .nil), some (.one (.h γ m)) => (match get σ.b d, get σ.b γ with
       | none, some (.arr full sz1 _ rows) => yo (Nat.beq sz1 sz) (yo (y9k (Nat.beq d γ)) (.side (m = rows.length) (.side (rows.length ≤ 9223372036854775807) (.side (rows.length * by_ ≤ 140737488355328) (bR ((d, .one (.h d rows.length)) :: σ.t) (z06 (ql σ.b [γ]) d (.arr full sz 0 rows)))))))
       | _, _ => .fail)
     | some (sz, by_), some _, some (.one .em), some (.one (.h γ m)) => (match get σ.b d, get σ.b γ with
       | none, some (.arr full sz1 _ rows) => yo (Nat.beq sz1 sz) (yo (y9k (Nat.beq d γ)) (.side (m = rows.length) (.side (rows.length ≤ 9223372036854775807) (.side (rows.length * by_ ≤ 140737488355328) (bR ((d, .one (.h d rows.length)) :: σ.t) (z06 (ql σ.b [γ]) d (.arr full sz 0 rows)))))))
       | _, _ => .fail)
     | some (sz, by_), some _, some (.one .em), some (.one (.b (.l rows))) => (match get σ.b d with
       | none => .side (∀ row ∈ rows, row.length = sz) (.side (zy rows) (.side (rows.length ≤ 9223372036854775807) (.side (rows.length * by_ ≤ 140737488355328) (bR ((d, .one (.h d rows.length)) :: σ.t) (z06 σ.b d (.arr true sz 0 rows))))))
       | _ => .fail)
     | some (sz, by_), some _, some (.one .nil), some (.one (.b (.l rows))) => (match get σ.b d with
       | none => .side (∀ row ∈ rows, row.length = sz) (.side (zy rows) (.side (rows.length ≤ 9223372036854775807) (.side (rows.length * by_ ≤ 140737488355328) (bR ((d, .one (.h d rows.length)) :: σ.t) (z06 σ.b d (.arr true sz 0 rows))))))
       | _ => .fail)
     | _, _, _, _ => .fail)
   | _, _, _ => .fail)
 | .value x => (match ev σ x, evs σ c.args.toList with
   | some (.one (.cl f caps)), some avs => q0d (force (avs ++ caps.map fun c => .one (.a c.1 c.2))) fun avs => .call g σ o.dst f avs
   | some (.one (.b (.f f caps))), some avs => q0d (force (avs ++ caps.map fun c => .one (.b c))) fun avs => .call g σ o.dst f avs
   | some (.one (.cm f β off)), some avs => .call g σ o.dst f (.one (.a β off) :: avs)
   | some (.one (.b (.m f ag row))), some avs => .call g σ o.dst f (q7a ag row :: avs)
   | _, _ => .fail)
 | .builtin .max => (match c.args.toList with
   | [x, y] => (match ev σ x, ev σ y with | some (.one (.b (.s (.int k a)))), some (.one (.b (.s (.int _ b)))) => y0n σ o.dst (sV (.int k (mx a b))) | _, _ => .fail)
   | [x, y, z, t] => (match ev σ x, ev σ y, ev σ z, ev σ t with | some (.one (.b (.s (.int k a)))), some (.one (.b (.s (.int _ b)))), some (.one (.b (.s (.int _ c)))), some (.one (.b (.s (.int _ d)))) => y0n σ o.dst (sV (.int k (mx (mx (mx a b) c) d))) | _, _, _, _ => .fail)
   | _ => .fail)
 | .builtin .min => (match c.args.toList with
   | [x, y] => (match ev σ x, ev σ y with | some (.one (.b (.s (.int k a)))), some (.one (.b (.s (.int _ b)))) => y0n σ o.dst (sV (.int k (if b < a then b else a))) | _, _ => .fail)
   | _ => .fail)
 | _ => .raw g σ o
def yad (σ : St) (d : Option Tmp) (cs : List AC) : R := match d with
 | some d => (match get σ.b d with | none => bR ((d, .one (.a d 0)) :: σ.t) (z06 σ.b d (.var cs)) | some _ => .fail)
 | none => .fail
def y77 : AV → Bool | .tup _ => false | _ => true
def y4t (F : TT) (σ : St) (t : Nat) (p x : AV) : R := match q8s F t, p, x with
 | some (_, n), .one (.e β m i k), x => (match get σ.b β with
   | some (.arr full sz ep rows) => yo (y77 x) (yo (y3u n (qh x)) (yo (z9b (q7o (qh x))) (yo (y9k (y9a β (q7o (qh x)))) (.side (m = rows.length) (.row rows i fun row => .side (k + n ≤ row.length) (.side (z6m (wfS σ.b full) (qh x)) (q0d (q8n σ.b (qh x)) fun xs =>
      bR σ.t (z06 (ql σ.b (q7o (qh x))) β (.arr full sz (Nat.succ ep) (rows.set i (putRow row k xs)))))))))))
   | _ => .fail)
 | some (false, 1), .one (.a β off), .one c => (match get σ.b β with | some (.var cs) => yo (q38 (Nat.add off 1) cs) (q0d (force (putCells cs off [c])) fun cs => bR σ.t (z06 σ.b β (.var cs))) | _ => .fail)
 | some (true, n), .one (.a β off), .agg xs => (match get σ.b β with | some (.var cs) => yo (y3u n xs) (yo (q38 (Nat.add off n) cs) (q0d (force (putCells cs off xs)) fun cs => bR σ.t (z06 σ.b β (.var cs)))) | _ => .fail)
 | _, _, _ => .fail
def qaj (F : TT) (σ : St) (t n : Nat) (ps : List (Nat × Operand)) (d : Option Tmp) : R := match d, q6i F t, z5r σ 0 ps with
 | some d, some (sz, _), some rws => (match get σ.b d with
   | none => yo (y3u n rws) (yo (Nat.ble (Nat.mul n sz) 16777216) (yo (z5k sz rws) (yo (z9b (q7o (flat rws))) (yo (y9k (y9a d (q7o (flat rws)))) (.side (z6m (wfS σ.b (y55 (flat rws))) (flat rws)) (q0d (y84 σ.b rws) fun rs =>
     bR ((d, .one (.h d n)) :: σ.t) (z06 (ql σ.b (q7o (flat rws))) d (.arr (y55 (flat rws)) sz 0 rs))))))))
   | some _ => .fail)
 | _, _, _ => .fail
def yak (F : TT) (σ : St) (t : Nat) (l c : Operand) (d : Option Tmp) : R := match d, q6i F t, z8i F t, ev σ l, ev σ c with
 | some d, some (sz, by_), some zrow, some (.one (.b (.s (.int _ n)))), some (.one (.b (.s (.int _ n')))) => (match get σ.b d with
   | none => yo (y3u sz zrow) (.side (n = n') (.side (0 ≤ n) (.side (n * by_ ≤ 281474976710656) (.side (n ≤ 9223372036854775807) (bR ((d, .one (.h d n.toNat)) :: σ.t) (z06 σ.b d (.arr true sz 0 (List.replicate n.toNat zrow))))))))
   | some _ => .fail)
 | _, _, _, _, _ => .fail
def opR (g : Bool) (F : TT) (σ : St) (o : Oper) : R := match o.op with
 | .move x => evR σ x fun av => y0n σ o.dst av
 | .assign x => evR σ x fun av => y0n σ o.dst av
 | .pick c x y => (match ev σ c with | some (.one (.b (.s (.bool t)))) => .br t (evR σ x fun av => y0n σ o.dst av) (evR σ y fun av => y0n σ o.dst av) | _ => .fail)
 | .load t x => (match ev σ x, q8s F t with
   | some av, some (ag, n) => z5m σ av fun cs => (match ag with
     | true => yo (q38 n cs) (q0d (force (cs.take n)) fun cs => y0n σ o.dst (.agg cs))
     | false => (match cs with | [] => .fail | c :: _ => y0n σ o.dst (.one c)))
   | _, _ => .fail)
 | .binOp op t x y _ => (match ev σ x, ev σ y with
   | some (.one (.b (.s (.bool a)))), some (.one (.b (.s (.bool b)))) => yo (q9n F t) (match op with | .eql => y0n σ o.dst (sV (.bool (a == b))) | .neq => y0n σ o.dst (sV (.bool (!(a == b)))) | _ => .fail)
   | some (.one (.b (.s u))), some (.one (.b (.s v))) => yaf op u v fun r => y0n σ o.dst (sV r)
   | some (.one (.b (.l rows))), some (.one .nil) => q0d (y3p F t) fun _ => (match op with
     | .eql => .any (fun b => b = true → rows = []) fun b => y0n σ o.dst (sV (.bool b))
     | .neq => .any (fun b => b = true → rows = []) fun b => y0n σ o.dst (sV (.bool (!b)))
     | _ => .fail)
   | some (.agg cs), some (.agg cs') => q0d (z9o F t) fun ks => q0d (scs cs) fun xs => q0d (scs cs') fun ys => yo (q8z ks xs) (yo (q8z ks ys) (match op with
     | .eql => y0n σ o.dst (sV (.bool (q0z xs ys)))
     | .neq => y0n σ o.dst (sV (.bool (!(q0z xs ys))))
     | _ => .fail))
   | _, _ => .raw g σ o)
 | .unOp op _ x => (match op, ev σ x with
   | .not, some (.one (.b (.s (.bool b)))) => y0n σ o.dst (sV (.bool (!b)))
   | .neg, some (.one (.b (.s (.int k n)))) => y0n σ o.dst (sV (.int k (k.wrap (0 - n))))
   | _, _ => .fail)
 | .convert s d x => (match ev σ x, zaq F d with
   | some (.one (.b (.s (.int _ n)))), some k => yo (y9o F s) (y0n σ o.dst (sV (.int k (k.wrap n))))
   | _, _ => .raw g σ o)
 | .fieldAddr s x f => (match ev σ x, y8h F s f with
   | some (.one (.b (.p row))), some off => yo (q38 off row) (q0d (force (row.drop off)) fun row => y0n σ o.dst (.one (.b (.p row))))
   | some (.one (.a β i)), some off => y0n σ o.dst (.one (.a β (i + off)))
   | some (.one (.e β m i k)), some off => y0n σ o.dst (.one (.e β m i (k + off)))
   | _, _ => .fail)
 | .field s x f => (match ev σ x, z8s F s f with
   | some (.agg cs), some (true, off, n) => yo (q38 (Nat.add off n) cs) (q0d (force ((cs.drop off).take n)) fun cs => y0n σ o.dst (.agg cs))
   | some (.agg cs), some (false, off, _) => q0d (nth cs off) fun c => y0n σ o.dst (.one c)
   | _, _ => .fail)
 | .indexAddr t x i => (match ev σ x, ev σ i, y3p F t with
   | some (.one (.b (.l rows))), some (.one (.b (.s (.int _ n)))), some sz => .side (0 ≤ n) (.row rows n.toNat fun row => .side (row.length = sz) (y0n σ o.dst (.one (.b (.p row)))))
   | some (.one (.h β m)), some (.one (.b (.s (.int _ n)))), some sz => (match get σ.b β with
     | some (.arr _ _ _ rows) => .side (m = rows.length) (.side (0 ≤ n) (.row rows n.toNat fun row => .side (row.length = sz) (y0n σ o.dst (.one (.e β m n.toNat 0)))))
     | _ => .fail)
   | _, _, _ => .raw g σ o)
 | .index t x i => (match ev σ x, ev σ i with
   | some (.one (.b (.s (.string s)))), some (.one (.b (.s (.int _ n)))) => yo (q7q F t) (.side (0 ≤ n) (.byte s n.toNat fun b => y0n σ o.dst (sV (.int .u8 b.toNat))))
   | _, _ => .fail)
 | .slice t x lo hi none => (match ev σ x, q95 lo σ, q95 hi σ with
   | some (.one (.b (.s (.string s)))), some l, some h => yo (q7q F t) (.side (0 ≤ l.getD 0) (.side (l.getD 0 ≤ h.getD s.size) (.side (h.getD s.size ≤ s.size) (y0n σ o.dst (sV (.string (s.extract (l.getD 0).toNat (h.getD s.size).toNat)))))))
   | some (.one (.b (.l rows))), some l, some h => q0d (y3p F t) fun sz => .side (l.getD 0 = 0 ∨ ∀ row ∈ rows, row.length = sz) (.side (0 ≤ l.getD 0) (.side (l.getD 0 ≤ h.getD rows.length) (.side (h.getD rows.length ≤ rows.length) (y0n σ o.dst (.one (.b (.l ((rows.take (h.getD rows.length).toNat).drop (l.getD 0).toNat))))))))
   | _, _, _ => .raw g σ o)
 | .extract x i => (match ev σ x with | some (.tup vs) => q0d (nth vs i) fun av => y0n σ o.dst av | _ => .fail)
 | .makeFunc (.func f) first caps => (match first.toList, caps.toList with
   | [x], [] => (match ev σ x with
     | some (.one (.a β off)) => y0n σ o.dst (.one (.cm f β off))
     | some (.one (.b c)) => y0n σ o.dst (.one (.b (.m f false [c])))
     | some (.agg cs) => q0d (y9j cs) fun l => y0n σ o.dst (.one (.b (.m f true l)))
     | _ => .fail)
   | [], _ => (match z5z σ caps.toList with | some cs => y0n σ o.dst (.one (.cl f cs)) | none => q0d (y7v σ caps.toList) fun cs => y0n σ o.dst (.one (.b (.f f cs))))
   | _, _ => .fail)
 | .build t ps => (match q4y F t with
   | some z => q0d (z6w F σ t z ps.toList) fun cs => y0n σ o.dst (.agg cs)
   | none => .raw g σ o)
 | .alloc e => (match q8h F e with | some z => yo (y77 z) (yad σ o.dst (qh z)) | none => .fail)
 | .box _ x => (match ev σ x with | some z => yo (y77 z) (yad σ o.dst (qh z)) | none => .fail)
 | .store t p x => (match o.dst, ev σ p, ev σ x with
   | none, some pv, some xv => y4t F σ t pv xv
   | _, _, _ => .fail)
 | .buildSlice t n ps => qaj F σ t n ps.toList o.dst
 | .makeSlice t l c => yak F σ t l c o.dst
 | .call c => q8x g F σ o c
 | .nilCheck x => evR σ x fun av => (match av with | .one (.b (.p row)) => y0n σ o.dst (.one (.b (.p row))) | .one (.a β off) => y0n σ o.dst (.one (.a β off)) | .one (.e β m i k) => y0n σ o.dst (.one (.e β m i k)) | _ => .fail)
 | _ => .raw g σ o
end Go.Sx
end
