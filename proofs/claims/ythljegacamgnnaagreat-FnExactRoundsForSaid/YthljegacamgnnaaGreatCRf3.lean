/- WHAT IS PROVED: parts of the proof of fnExactRoundsFor_holds: a frame for walks, what each Go function that it reaches answers, and plain lemmas; no condition beyond those that each theorem names. -/
import Derived.Test.YthljegacamgnnaaGreatCRf2
import Derived.WalkKit
import Derived.OrdersHeld
import Derived.DeepKeys
import Derived.Maps.RangeWalk
import Derived.Maps.OwnOps
set_option linter.unusedVariables false
set_option linter.unusedSimpArgs false
section
namespace Go.Sx
open Go.RowKit (Below)
structure TI where
 lay : Option (Bool × Nat)
 esz : Option Nat
 esI : Option (Nat × Nat)
 str : Bool
 boo : Bool
 und : Bool
 ik : Option IntKind
 zero : Option AV
 z54 : Option (List AC)
 zrow : Option (List Cell)
 flds : List (Option Nat × Option (Bool × Nat × Nat))
 cmp : Option (List CK)
inductive TT where
 | leaf
 | node (k : Nat) (v : TI) (l r : TT)
def z8k (P : Program) (t : TypeId) : Bool := match P.underlying t with | some .bool => true | _ => false
def ya4 (P : Program) (t : TypeId) : Nat := match P.underlying t with | some (.struct fs) => fs.size | _ => 0
def mkF (P : Program) (t : TypeId) : Nat → Nat → List (Option Nat × Option (Bool × Nat × Nat))
 | 0, _ => []
 | n + 1, i => (z8y P t i, fld P t i) :: mkF P t n (i + 1)
def q9l (P : Program) (t : TypeId) : TI := ⟨lay P t, esz P t, y0x P t, y4p P t, z8k P t, (P.underlying t).isSome, y7g P t, q1r P t, z54 P t, q75 P t, mkF P t (ya4 P t) 0, y96 P t⟩
def TT.map (P : Program) : TT → TT
 | .leaf => .leaf
 | .node k _ l r => .node k (q9l P k) (l.map P) (r.map P)
def TT.find : TT → Nat → Option TI
 | .leaf, _ => none
 | .node k v l r, t => bif Nat.beq k t then some v else bif Nat.blt t k then l.find t else r.find t
theorem TT.z2a {P : Program} : ∀ {F : TT} {t : Nat} {i : TI}, (F.map P).find t = some i → i = q9l P t
 | .leaf, t, i, h => by cases h
 | .node k v l r, t, i, h => by
   rw [TT.map, TT.find] at h
   by_cases hk : k = t
   · subst hk; simp only [Nat.beq_refl, cond_true, Option.some.injEq] at h; exact h.symm
   · rw [beq_false hk] at h
     cases hb : Nat.blt t k with
     | true => rw [hb] at h; exact TT.z2a h
     | false => rw [hb] at h; exact TT.z2a h
def nth {α : Type} : List α → Nat → Option α
 | [], _ => none
 | a :: l, n => bif Nat.beq n 0 then some a else nth l (Nat.pred n)
theorem y20 {α : Type} : ∀ (l : List α) (n : Nat), nth l n = l[n]?
 | [], n => by simp [nth]
 | a :: l, 0 => rfl
 | a :: l, n + 1 => by rw [nth, beq_false (by omega), List.getElem?_cons_succ]; exact y20 l n
theorem q4s {P : Program} {t : Nat} : ∀ {n i k : Nat} {x : Option Nat × Option (Bool × Nat × Nat)}, (mkF P t n i)[k]? = some x → x = (z8y P t (i + k), fld P t (i + k))
 | 0, i, k, x, h => by simp [mkF] at h
 | n + 1, i, k, x, h => by
   rw [mkF] at h
   cases k with
   | zero => cases h; rfl
   | succ k => rw [List.getElem?_cons_succ] at h; rw [q4s h]; simp only [Nat.add_assoc, Nat.add_comm 1 k]
def y86 (F : TT) (t : Nat) : Option (Bool × Nat) := match F.find t with | some i => i.lay | none => none
def z3d (F : TT) (t : Nat) : Option Nat := match F.find t with | some i => i.esz | none => none
def y62 (F : TT) (t : Nat) : Option (Nat × Nat) := match F.find t with | some i => i.esI | none => none
def q77 (F : TT) (t : Nat) : Bool := match F.find t with | some i => i.str | none => false
def y90 (F : TT) (t : Nat) : Bool := match F.find t with | some i => i.boo | none => false
def z91 (F : TT) (t : Nat) : Bool := match F.find t with | some i => i.und | none => false
def ya0 (F : TT) (t : Nat) : Option IntKind := match F.find t with | some i => i.ik | none => none
def y7w (F : TT) (t : Nat) : Option AV := match F.find t with | some i => i.zero | none => none
def z63 (F : TT) (t : Nat) : Option (List AC) := match F.find t with | some i => i.z54 | none => none
def q7w (F : TT) (t : Nat) : Option (List Cell) := match F.find t with | some i => i.zrow | none => none
def q90 (F : TT) (t : Nat) : Option (List CK) := match F.find t with | some i => i.cmp | none => none
def z7w (F : TT) (t f : Nat) : Option Nat := match F.find t with | some i => (match nth i.flds f with | some x => x.1 | none => none) | none => none
def q85 (F : TT) (t f : Nat) : Option (Bool × Nat × Nat) := match F.find t with | some i => (match nth i.flds f with | some x => x.2 | none => none) | none => none
section
variable {P : Program} {F : TT}
theorem z1b {α : Type} {F : TT} {t : Nat} {g : TI → Option α} {x : α} (hF : F = F.map P) (h : (match F.find t with | some i => g i | none => none) = some x) : g (q9l P t) = some x := by
 cases hi : F.find t with
 | none => rw [hi] at h; cases h
 | some i => rw [hi] at h; rw [hF] at hi; rw [← TT.z2a hi]; exact h
theorem q62 {F : TT} {t : Nat} {g : TI → Bool} (hF : F = F.map P) (h : (match F.find t with | some i => g i | none => false) = true) : g (q9l P t) = true := by
 cases hi : F.find t with
 | none => rw [hi] at h; cases h
 | some i => rw [hi] at h; rw [hF] at hi; rw [← TT.z2a hi]; exact h
theorem z27 (hF : F = F.map P) {t : Nat} {x : Bool × Nat} (h : y86 F t = some x) : lay P t = some x := z1b (g := TI.lay) hF h
theorem z0d (hF : F = F.map P) {t : Nat} {x : Nat} (h : z3d F t = some x) : esz P t = some x := z1b (g := TI.esz) hF h
theorem zx (hF : F = F.map P) {t : Nat} {x : Nat × Nat} (h : y62 F t = some x) : y0x P t = some x := z1b (g := TI.esI) hF h
theorem z86 (hF : F = F.map P) {t : Nat} {x : IntKind} (h : ya0 F t = some x) : y7g P t = some x := z1b (g := TI.ik) hF h
theorem y63 (hF : F = F.map P) {t : Nat} {x : AV} (h : y7w F t = some x) : q1r P t = some x := z1b (g := TI.zero) hF h
theorem q5g (hF : F = F.map P) {t : Nat} {x : List AC} (h : z63 F t = some x) : z54 P t = some x := z1b (g := TI.z54) hF h
theorem q63 (hF : F = F.map P) {t : Nat} {x : List Cell} (h : q7w F t = some x) : q75 P t = some x := z1b (g := TI.zrow) hF h
theorem y77 (hF : F = F.map P) {t : Nat} {x : List CK} (h : q90 F t = some x) : y96 P t = some x := z1b (g := TI.cmp) hF h
theorem y3d (hF : F = F.map P) {t : Nat} (h : q77 F t = true) : y4p P t = true := q62 (g := TI.str) hF h
theorem z77 (hF : F = F.map P) {t : Nat} (h : y90 F t = true) : P.underlying t = some .bool := by
 have : z8k P t = true := q62 (g := TI.boo) hF h
 unfold z8k at this
 split at this
 · assumption
 · cases this
theorem z78 (hF : F = F.map P) {t : Nat} (h : z91 F t = true) : ∃ u, P.underlying t = some u := Option.isSome_iff_exists.1 (q62 (g := TI.und) hF h)
theorem z2c (hF : F = F.map P) {t f x : Nat} (h : z7w F t f = some x) : z8y P t f = some x := by
 have := z1b (g := fun i => match nth i.flds f with | some x => x.1 | none => none) hF h
 split at this
 · rename_i y hy
   rw [y20] at hy
   rw [q4s hy, Nat.zero_add] at this
   exact this
 · cases this
theorem y26 (hF : F = F.map P) {t f : Nat} {x : Bool × Nat × Nat} (h : q85 F t f = some x) : fld P t f = some x := by
 have := z1b (g := fun i => match nth i.flds f with | some x => x.2 | none => none) hF h
 split at this
 · rename_i y hy
   rw [y20] at hy
   rw [q4s hy, Nat.zero_add] at this
   exact this
 · cases this
end
inductive R where
 | fail
 | ok (σ : St)
 | side (p : Prop) (r : R)
 | br (t : Bool) (r r' : R)
 | any (q : Bool → Prop) (f : Bool → R)
 | row (rows : List (List Cell)) (i : Nat) (f : List Cell → R)
 | byte (s : ByteArray) (i : Nat) (f : UInt8 → R)
 | call (g : Bool) (σ : St) (d : Option Tmp) (f : Nat) (avs : List AV)
 | raw (g : Bool) (σ : St) (o : Oper)
def R.holds (P : Program) : R → (St → Prop) → Prop
 | .fail, _ => False
 | .ok σ, K => K σ
 | .side p r, K => p ∧ r.holds P K
 | .br t r r', K => (t = true → r.holds P K) ∧ (t = false → r'.holds P K)
 | .any q f, K => ∀ b, q b → (f b).holds P K
 | .row rows i f, K => ∃ row, rows[i]? = some row ∧ (f row).holds P K
 | .byte s i f, K => ∃ b, s[i]? = some b ∧ (f b).holds P K
 | .call g σ d f avs, K => q3c P σ d f avs K ∨ (g = true ∧ y3c P σ d f avs K)
 | .raw g σ o, K => opL g P σ o K
def force {α : Type} : List α → Option (List α)
 | [] => some []
 | a :: l => match force l with | some l' => some (a :: l') | none => none
theorem force_eq {α : Type} : ∀ {l l' : List α}, force l = some l' → l' = l
 | [], l', h => by cases h; rfl
 | a :: l, l', h => by
   rw [force] at h
   split at h
   · rename_i l1 h1; cases h; rw [force_eq h1]
   · cases h
def y2y {α : Type} : Nat → List α → Bool
 | 0, _ => true
 | _ + 1, [] => false
 | n + 1, _ :: l => y2y n l
theorem z0m {α : Type} : ∀ {n : Nat} {l : List α}, y2y n l = true → n ≤ l.length
 | 0, l, _ => Nat.zero_le _
 | n + 1, [], h => by cases h
 | n + 1, _ :: l, h => Nat.succ_le_succ (z0m (l := l) h)
def z3h {α : Type} : Nat → List α → Bool
 | 0, [] => true
 | 0, _ :: _ => false
 | _ + 1, [] => false
 | n + 1, _ :: l => z3h n l
theorem y0r {α : Type} : ∀ {n : Nat} {l : List α}, z3h n l = true → l.length = n
 | 0, [], _ => rfl
 | 0, _ :: _, h => by cases h
 | n + 1, [], h => by cases h
 | n + 1, _ :: l, h => congrArg (· + 1) (y0r (l := l) h)
def ikN : IntKind → Nat
 | .i8 => 0 | .i16 => 1 | .i32 => 2 | .i64 => 3 | .u8 => 4 | .u16 => 5 | .u32 => 6 | .u64 => 7
theorem y8j {k k' : IntKind} (h : Nat.beq (ikN k) (ikN k') = true) : k = k' := by
 cases k <;> cases k' <;> first | rfl | cases h
def zo (b : Bool) (r : R) : R := match b with | true => r | false => .fail
theorem y9 {P : Program} {b : Bool} {r : R} {K : St → Prop} (h : (zo b r).holds P K) : b = true ∧ r.holds P K := by
 cases b with
 | true => exact ⟨rfl, h⟩
 | false => exact h.elim
def z0n (σ : St) (d : Option Tmp) (av : AV) : R := match σ, d with
 | ⟨t, b⟩, some d => .ok ⟨(d, av) :: t, b⟩
 | σ, none => .ok σ
theorem y19 {P : Program} {σ : St} {d : Option Tmp} {av : AV} {K : St → Prop} : (z0n σ d av).holds P K ↔ K (σ.put d av) := by
 cases σ; cases d <;> rfl
def evR (σ : St) (x : Operand) (f : AV → R) : R := match ev σ x with | some av => f av | none => .fail
def sV (v : Value) : AV := .one (.b (.s v))
def z57 (σ : St) (av : AV) (f : List AC → R) : R := match av with
 | .one (.b (.p row)) => (match force (row.map .b) with | some cs => f cs | none => .fail)
 | .one (.a β off) => (match get σ.b β with | some (.var cs) => (match force ((cs.drop off).map (unk σ.b)) with | some cs => f cs | none => .fail) | _ => .fail)
 | .one (.e β m i k) => (match get σ.b β with
   | some (.arr full _ ep rows) => .side (m = rows.length) (.row rows i fun row => (match q2e full β ep i k (row.drop k) with | some cs => f cs | none => .fail))
   | _ => .fail)
 | _ => .fail
theorem q69 {P : Program} {σ : St} {av : AV} {f : List AC → R} {K : St → Prop} {K' : List AC → Prop} (hf : ∀ cs, (f cs).holds P K → K' cs) (h : (z57 σ av f).holds P K) : q1d σ av K' := by
 unfold z57 at h
 unfold q1d
 split at h
 · split at h
   · rename_i cs hcs; rw [force_eq hcs] at h; exact hf _ h
   · exact h.elim
 · rename_i β off
   dsimp only
   split at h
   · rename_i cs hcs
     split at h
     · rename_i cs' hcs'; rw [force_eq hcs'] at h; rw [hcs]; exact hf _ h
     · exact h.elim
   · exact h.elim
 · rename_i β m i k
   dsimp only
   split at h
   · rename_i full sz ep rows hab
     obtain ⟨h1, row, h2, h3⟩ := h
     rw [hab]
     refine ⟨h1, ?_⟩
     rw [h2]
     dsimp only at h3 ⊢
     split at h3
     · rename_i cs hcs; rw [hcs]; exact hf _ h3
     · exact h3.elim
   · exact h.elim
 · exact h.elim
def z8h (op : BinOp) (k : IntKind) (x y : Int) (f : Value → R) : R := match op with
 | .add => f (.int k (k.wrap (x + y))) | .sub => f (.int k (k.wrap (x - y))) | .mul => f (.int k (k.wrap (x * y)))
 | .eql => f (.bool (x == y)) | .neq => f (.bool (x != y)) | .lss => f (.bool (decide (x < y))) | .leq => f (.bool (decide (x ≤ y)))
 | .gtr => f (.bool (decide (x > y))) | .geq => f (.bool (decide (x ≥ y)))
 | .quo => .side (y ≠ 0) (f (.int k (k.wrap (x.tdiv y)))) | .rem => .side (y ≠ 0) (f (.int k (x.tmod y)))
 | .and => f (.int k (bits .and k x y)) | .or => f (.int k (bits .or k x y)) | .xor => f (.int k (bits .xor k x y))
 | _ => .fail
def y9x (op : BinOp) (a b : ByteArray) (f : Value → R) : R := match op with
 | .add => .side (a.size + b.size ≤ 9223372036854775807) (f (.string (a ++ b)))
 | .eql => f (.bool (a.toList == b.toList)) | .neq => f (.bool (!(a.toList == b.toList)))
 | .lss => f (.bool (Op.bytesLess a.toList b.toList)) | .leq => f (.bool (Op.bytesLess a.toList b.toList || (a.toList == b.toList)))
 | .gtr => f (.bool (!(Op.bytesLess a.toList b.toList || (a.toList == b.toList)))) | .geq => f (.bool (!(Op.bytesLess a.toList b.toList)))
 | _ => .fail
def q9p (op : BinOp) (u v : Value) (f : Value → R) : R := match u, v with
 | .int k x, .int k' y => (match op with
   | .shl => .side (0 ≤ y) (f (.int k (k.wrap (x * 2 ^ (min y.toNat k.bits)))))
   | .shr => .side (0 ≤ y) (f (.int k (x.fdiv (2 ^ (min y.toNat k.bits)))))
   | op => zo (Nat.beq (ikN k) (ikN k')) (z8h op k x y f))
 | .string a, .string b => y9x op a b f
 | _, _ => .fail
section
variable {P : Program} {K : St → Prop} {K' : Value → Prop} {f : Value → R}
theorem z7g {op : BinOp} {k : IntKind} {x y : Int} (hf : ∀ v, (f v).holds P K → K' v) (h : (z8h op k x y f).holds P K) : match z98 op k x y with | some r => K' r | none => False := by
 cases op <;> simp only [z8h] at h <;> simp only [z98] <;> first
  | exact hf _ h
  | exact h.elim
  | (rw [if_neg h.1]; exact hf _ h.2)
theorem z8v {op : BinOp} {a b : ByteArray} (hf : ∀ v, (f v).holds P K → K' v) (h : (y9x op a b f).holds P K) : z5f op a b K' := by
 cases op <;> simp only [y9x] at h <;> simp only [z5f] <;> first
  | exact hf _ h
  | exact h.elim
  | exact ⟨h.1, hf _ h.2⟩
theorem q8a {op : BinOp} {u v : Value} (hf : ∀ v, (f v).holds P K → K' v) (h : (q9p op u v f).holds P K) : y95 op u v K' := by
 unfold q9p at h
 unfold y95
 split at h
 · dsimp only
   split at h
   · exact ⟨h.1, hf _ h.2⟩
   · exact ⟨h.1, hf _ h.2⟩
   · rename_i h1 h2
     obtain ⟨hk, h'⟩ := y9 h
     have hk := y8j hk
     subst hk
     have := z7g hf h'
     split
     · exact absurd rfl h1
     · exact absurd rfl h2
     · rw [if_pos rfl]; exact this
 · exact z8v hf h
 · exact h.elim
end
end Go.Sx
end
section
namespace Go.Sx
open Go.RowKit (Below)
def bR (t : List (Nat × AV)) (b : List (Nat × AB)) : R := match force b with | some b => .ok ⟨t, b⟩ | none => .fail
theorem zv {P : Program} {t : List (Nat × AV)} {b : List (Nat × AB)} {K : St → Prop} (h : (bR t b).holds P K) : K ⟨t, b⟩ := by
 unfold bR at h
 split at h
 · rename_i b' hb; rw [force_eq hb] at h; exact h
 · exact h.elim
def y82 (B : List (Nat × AB)) : List AC → Option (List Cell)
 | [] => some []
 | .b c :: l => (match y82 B l with | some l' => some (c :: l') | none => none)
 | .h γ _ :: l => (match get B γ, y82 B l with | some (.arr _ _ _ rows), some l' => some (.l rows :: l') | _, _ => none)
 | .nil :: l => (match y82 B l with | some l' => some (.l [] :: l') | none => none)
 | .em :: l => (match y82 B l with | some l' => some (.l [] :: l') | none => none)
 | _ => none
theorem y3m {B : List (Nat × AB)} : ∀ {cs : List AC} {l : List Cell}, y82 B cs = some l → l = cs.map (z26 B)
 | [], l, h => by cases h; rfl
 | c :: cs, l, h => by
   cases c <;> rw [y82] at h <;> first
    | (split at h
       · rename_i l' hl; cases h; rw [y3m hl]; rfl
       · cases h)
    | (split at h
       · rename_i rows l' hg hl; cases h; rw [y3m hl]; simp [z26, hg]
       · cases h)
    | cases h
def q7i (B : List (Nat × AB)) : List (List AC) → Option (List (List Cell))
 | [] => some []
 | cs :: l => match y82 B cs, q7i B l with | some r, some l' => some (r :: l') | _, _ => none
theorem q5a {B : List (Nat × AB)} : ∀ {rws : List (List AC)} {l : List (List Cell)}, q7i B rws = some l → l = rws.map fun cs => cs.map (z26 B)
 | [], l, h => by cases h; rfl
 | c :: cs, l, h => by
   rw [q7i] at h
   split at h
   · rename_i r l' hr hl; cases h; rw [y3m hr, q5a hl]; rfl
   · cases h
def y76 : List AC → List Nat
 | [] => []
 | .h γ _ :: l => γ :: y76 l
 | _ :: l => y76 l
theorem q3i : ∀ (cs : List AC), y76 cs = cs.filterMap gam
 | [] => rfl
 | c :: cs => by
   have ih := q3i cs
   cases c <;> simp only [y76, ih] <;> rfl
def y8o (x : Nat) : List Nat → Bool
 | [] => false
 | y :: l => bif Nat.beq x y then true else y8o x l
theorem q2a {x : Nat} : ∀ {l : List Nat}, y8o x l = false → x ∉ l
 | [], _ => by simp
 | y :: l, h => by
   rw [y8o] at h
   cases hb : Nat.beq x y with
   | true => rw [hb] at h; cases h
   | false =>
     rw [hb] at h
     have hne : x ≠ y := fun e => by subst e; simp at hb
     have := q2a (l := l) h
     simp [hne, this]
def z8p : List Nat → Bool
 | [] => true
 | x :: l => bif y8o x l then false else z8p l
theorem z1 : ∀ {l : List Nat}, z8p l = true → l.Nodup
 | [], _ => List.nodup_nil
 | x :: l, h => by
   rw [z8p] at h
   cases hb : y8o x l with
   | true => rw [hb] at h; cases h
   | false => rw [hb] at h; exact List.nodup_cons.2 ⟨q2a hb, z1 h⟩
def y8y (b : Bool) : Bool := match b with | true => false | false => true
theorem y2l {b : Bool} (h : y8y b = true) : b = false := by cases b <;> first | rfl | cases h
def q54 (sz : Nat) : List (List AC) → Bool
 | [] => true
 | cs :: l => bif z3h sz cs then q54 sz l else false
theorem z3w {sz : Nat} : ∀ {l : List (List AC)}, q54 sz l = true → (l.all fun cs => cs.length == sz) = true
 | [], _ => rfl
 | cs :: l, h => by
   rw [q54] at h
   cases hb : z3h sz cs with
   | false => rw [hb] at h; cases h
   | true => rw [hb] at h; simp only [List.all_cons, y0r hb, beq_self_eq_true, Bool.true_and]; exact z3w h
def flat (l : List (List AC)) : List AC := l.flatten
def q5b (σ : St) : Nat → List (Nat × Operand) → Option (List (List AC))
 | _, [] => some []
 | i, (j, x) :: ps => bif Nat.beq i j then (match ev σ x, q5b σ (Nat.succ i) ps with
   | some (.one c), some r => some ([c] :: r)
   | some (.agg cs), some r => some (cs :: r)
   | _, _ => none) else none
theorem q2m {σ : St} : ∀ {ps : List (Nat × Operand)} {i : Nat} {r : List (List AC)}, q5b σ i ps = some r → y1g σ i ps = some r
 | [], i, r, h => h
 | (j, x) :: ps, i, r, h => by
   rw [q5b] at h
   by_cases hij : i = j
   · subst hij
     simp only [Nat.beq_refl, cond_true] at h
     rw [y1g, if_pos rfl]
     split at h
     · rename_i c r' h1 h2; cases h; rw [h1, q2m h2]
     · rename_i c r' h1 h2; cases h; rw [h1, q2m h2]
     · cases h
   · rw [beq_false hij] at h; cases h
def z6g (F : TT) (σ : St) (t : Nat) : List AC → List (Nat × Operand) → Option (List AC)
 | cs, [] => some cs
 | cs, (i, x) :: ps => match q85 F t i, ev σ x with
   | some (_, off, n), some (.one c) => (match Nat.beq n 1, y2y (Nat.add off 1) cs, force (putCells cs off [c]) with | true, true, some cs' => z6g F σ t cs' ps | _, _, _ => none)
   | some (_, off, n), some (.agg xs) => (match z3h n xs, y2y (Nat.add off n) cs, force (putCells cs off xs) with | true, true, some cs' => z6g F σ t cs' ps | _, _, _ => none)
   | _, _ => none
def y7a (σ : St) : List Operand → Option (List (Nat × Nat))
 | [] => some []
 | x :: l => match ev σ x, y7a σ l with | some (.one (.a β off)), some r => some ((β, off) :: r) | _, _ => none
theorem q56 {σ : St} : ∀ {l : List Operand} {r : List (Nat × Nat)}, y7a σ l = some r → l.mapM (fun x => match ev σ x with | some (.one (.a β off)) => some (β, off) | _ => none) = some r
 | [], r, h => by cases h; rfl
 | x :: l, r, h => by
   rw [y7a] at h
   split at h
   · rename_i β off r' h1 h2
     cases h
     simp [h1, q56 h2]
   · cases h
def z4p : List AC → Bool
 | [] => true
 | .b (.s _) :: l => z4p l
 | .b _ :: _ => false
 | _ :: l => z4p l
theorem y2a : ∀ (cs : List AC), z4p cs = y1y cs
 | [] => rfl
 | c :: cs => by
   cases c with
   | b c => cases c <;> simp [z4p, y1y] <;> exact y2a cs
   | _ => simp [z4p, y1y]; exact y2a cs
section
variable {P : Program} {F : TT}
theorem z3i (hF : F = F.map P) {σ : St} {t : Nat} : ∀ {ps : List (Nat × Operand)} {cs r : List AC}, z6g F σ t cs ps = some r → z1y P σ t cs ps = some r
 | [], cs, r, h => h
 | (i, x) :: ps, cs, r, h => by
   rw [z6g] at h
   rw [z1y]
   split at h
   · rename_i off n c h1 h2
     rw [y26 hF h1, h2]
     dsimp only
     split at h
     · rename_i cs' e1 e2 e3
       rw [if_pos ⟨Nat.eq_of_beq_eq_true e1, z0m e2⟩, ← force_eq e3]
       exact z3i hF h
     · cases h
   · rename_i off n xs h1 h2
     rw [y26 hF h1, h2]
     dsimp only
     split at h
     · rename_i cs' e1 e2 e3
       rw [if_pos ⟨y0r e1, z0m e2⟩, ← force_eq e3]
       exact z3i hF h
     · cases h
   · cases h
end
def q8j : Option Operand → St → Option (Option Int)
 | none, _ => some none
 | some x, σ => match ev σ x with | some (.one (.b (.s (.int _ n)))) => some (some n) | _ => none
def y08 {α : Type} (o : Option α) (f : α → R) : R := match o with | some a => f a | none => .fail
theorem ze {P : Program} {K : St → Prop} {α : Type} {o : Option α} {f : α → R} (h : (y08 o f).holds P K) : ∃ a, o = some a ∧ (f a).holds P K := by
 cases o with
 | none => exact h.elim
 | some a => exact ⟨a, rfl, h⟩
def y9t (F : TT) (σ : St) (t : Nat) (av : AV) (f : Value → R) : R := match av with
 | .one (.b (.l rows)) => y08 (z3d F t) fun _ => f (.int .i64 rows.length)
 | .one .nil => y08 (z3d F t) fun _ => f (.int .i64 0)
 | .one .em => y08 (z3d F t) fun _ => f (.int .i64 0)
 | .one (.h _ n) => y08 (z3d F t) fun _ => f (.int .i64 n)
 | .one (.b (.s (.string s))) => zo (q77 F t) (f (.int .i64 s.size))
 | .one (.q β m i k) => y08 (z3d F t) fun _ => (match get σ.b β with
   | some (.arr _ _ ep rows) => .side (m = ep) (.row rows i fun row => match nth row k with | some (.l rs) => f (.int .i64 rs.length) | _ => .fail)
   | _ => .fail)
 | _ => .fail
def q8b (g : Bool) (F : TT) (σ : St) (o : Oper) (c : Call) : R := match c.callee with
 | .builtin .len => (match c.argTypes.toList, c.args.toList with
   | t :: _, [x] => evR σ x fun av => y9t F σ t av fun r => z0n σ o.dst (sV r)
   | _, _ => .fail)
 | .builtin .append => (match c.argTypes.toList, c.args.toList, o.dst with
   | [t, tx], [s, x], some d => (match y62 F t, y62 F tx, ev σ s, ev σ x with
     | some (sz, by_), some _, some (.one (.h β n)), some (.one (.h γ m)) => (match get σ.b β, get σ.b γ with
       | some (.arr full0 sz0 ep rows0), some (.arr full sz1 _ rows) =>
         zo (Nat.beq sz0 sz) (zo (Nat.beq sz1 sz) (zo (y8y (Nat.beq β γ)) (.side (n = rows0.length) (.side (m = rows.length) (.side (full0 = full ∨ rows0 = []) (.side (rows0.length + rows.length ≤ 9223372036854775807) (.side ((rows0.length + rows.length) * by_ ≤ 140737488355328)
         (bR ((d, .one (.h β (rows0.length + rows.length))) :: σ.t) (q09 (qm σ.b [γ]) β (.arr full sz (Nat.succ ep) (rows0 ++ rows)))))))))))
       | _, _ => .fail)
     | some (sz, by_), some _, some (.one (.h β n)), some (.one (.b (.l rows))) => (match get σ.b β with
       | some (.arr full0 sz0 ep rows0) => zo (Nat.beq sz0 sz) (.side (n = rows0.length) (.side (∀ row ∈ rows, row.length = sz) (.side (full0 = true → qy rows) (.side (rows0.length + rows.length ≤ 9223372036854775807) (.side ((rows0.length + rows.length) * by_ ≤ 140737488355328)
         (bR ((d, .one (.h β (rows0.length + rows.length))) :: σ.t) (q09 σ.b β (.arr full0 sz (Nat.succ ep) (rows0 ++ rows)))))))))
       | _ => .fail)
     | some (sz, by_), some _, some (.one .nil), some (.one (.h γ m)) => (match get σ.b d, get σ.b γ with
       | none, some (.arr full sz1 _ rows) => zo (Nat.beq sz1 sz) (zo (y8y (Nat.beq d γ)) (.side (m = rows.length) (.side (rows.length ≤ 9223372036854775807) (.side (rows.length * by_ ≤ 140737488355328) (bR ((d, .one (.h d rows.length)) :: σ.t) (q09 (qm σ.b [γ]) d (.arr full sz 0 rows)))))))
       | _, _ => .fail)
     | some (sz, by_), some _, some (.one .em), some (.one (.h γ m)) => (match get σ.b d, get σ.b γ with
       | none, some (.arr full sz1 _ rows) => zo (Nat.beq sz1 sz) (zo (y8y (Nat.beq d γ)) (.side (m = rows.length) (.side (rows.length ≤ 9223372036854775807) (.side (rows.length * by_ ≤ 140737488355328) (bR ((d, .one (.h d rows.length)) :: σ.t) (q09 (qm σ.b [γ]) d (.arr full sz 0 rows)))))))
       | _, _ => .fail)
     | some (sz, by_), some _, some (.one .em), some (.one (.b (.l rows))) => (match get σ.b d with
       | none => .side (∀ row ∈ rows, row.length = sz) (.side (qy rows) (.side (rows.length ≤ 9223372036854775807) (.side (rows.length * by_ ≤ 140737488355328) (bR ((d, .one (.h d rows.length)) :: σ.t) (q09 σ.b d (.arr true sz 0 rows))))))
       | _ => .fail)
     | some (sz, by_), some _, some (.one .nil), some (.one (.b (.l rows))) => (match get σ.b d with
       | none => .side (∀ row ∈ rows, row.length = sz) (.side (qy rows) (.side (rows.length ≤ 9223372036854775807) (.side (rows.length * by_ ≤ 140737488355328) (bR ((d, .one (.h d rows.length)) :: σ.t) (q09 σ.b d (.arr true sz 0 rows))))))
       | _ => .fail)
     | _, _, _, _ => .fail)
   | _, _, _ => .fail)
 | .value x => (match ev σ x, evs σ c.args.toList with
   | some (.one (.cl f caps)), some avs => y08 (force (avs ++ caps.map fun c => .one (.a c.1 c.2))) fun avs => .call g σ o.dst f avs
   | some (.one (.b (.f f caps))), some avs => y08 (force (avs ++ caps.map fun c => .one (.b c))) fun avs => .call g σ o.dst f avs
   | some (.one (.cm f β off)), some avs => .call g σ o.dst f (.one (.a β off) :: avs)
   | some (.one (.b (.m f ag row))), some avs => .call g σ o.dst f (z6t ag row :: avs)
   | _, _ => .fail)
 | .builtin .max => (match c.args.toList with
   | [x, y] => (match ev σ x, ev σ y with | some (.one (.b (.s (.int k a)))), some (.one (.b (.s (.int _ b)))) => z0n σ o.dst (sV (.int k (mx a b))) | _, _ => .fail)
   | [x, y, z, t] => (match ev σ x, ev σ y, ev σ z, ev σ t with | some (.one (.b (.s (.int k a)))), some (.one (.b (.s (.int _ b)))), some (.one (.b (.s (.int _ c)))), some (.one (.b (.s (.int _ d)))) => z0n σ o.dst (sV (.int k (mx (mx (mx a b) c) d))) | _, _, _, _ => .fail)
   | _ => .fail)
 | .builtin .min => (match c.args.toList with
   | [x, y] => (match ev σ x, ev σ y with | some (.one (.b (.s (.int k a)))), some (.one (.b (.s (.int _ b)))) => z0n σ o.dst (sV (.int k (if b < a then b else a))) | _, _ => .fail)
   | _ => .fail)
 | _ => .raw g σ o
def q9n (σ : St) (d : Option Tmp) (cs : List AC) : R := match d with
 | some d => (match get σ.b d with | none => bR ((d, .one (.a d 0)) :: σ.t) (q09 σ.b d (.var cs)) | some _ => .fail)
 | none => .fail
def q6p : AV → Bool | .tup _ => false | _ => true
def y4e (F : TT) (σ : St) (t : Nat) (p x : AV) : R := match y86 F t, p, x with
 | some (_, n), .one (.e β m i k), x => (match get σ.b β with
   | some (.arr full sz ep rows) => zo (q6p x) (zo (z3h n (yg x)) (zo (z8p (y76 (yg x))) (zo (y8y (y8o β (y76 (yg x)))) (.side (m = rows.length) (.row rows i fun row => .side (k + n ≤ row.length) (.side (q65 (wfS σ.b full) (yg x)) (y08 (y82 σ.b (yg x)) fun xs =>
      bR σ.t (q09 (qm σ.b (y76 (yg x))) β (.arr full sz (Nat.succ ep) (rows.set i (putRow row k xs)))))))))))
   | _ => .fail)
 | some (false, 1), .one (.a β off), .one c => (match get σ.b β with | some (.var cs) => zo (y2y (Nat.add off 1) cs) (y08 (force (putCells cs off [c])) fun cs => bR σ.t (q09 σ.b β (.var cs))) | _ => .fail)
 | some (true, n), .one (.a β off), .agg xs => (match get σ.b β with | some (.var cs) => zo (z3h n xs) (zo (y2y (Nat.add off n) cs) (y08 (force (putCells cs off xs)) fun cs => bR σ.t (q09 σ.b β (.var cs)))) | _ => .fail)
 | _, _, _ => .fail
def z9u (F : TT) (σ : St) (t n : Nat) (ps : List (Nat × Operand)) (d : Option Tmp) : R := match d, y62 F t, q5b σ 0 ps with
 | some d, some (sz, _), some rws => (match get σ.b d with
   | none => zo (z3h n rws) (zo (Nat.ble (Nat.mul n sz) 16777216) (zo (q54 sz rws) (zo (z8p (y76 (flat rws))) (zo (y8y (y8o d (y76 (flat rws)))) (.side (q65 (wfS σ.b (z4p (flat rws))) (flat rws)) (y08 (q7i σ.b rws) fun rs =>
     bR ((d, .one (.h d n)) :: σ.t) (q09 (qm σ.b (y76 (flat rws))) d (.arr (z4p (flat rws)) sz 0 rs))))))))
   | some _ => .fail)
 | _, _, _ => .fail
def q9u (F : TT) (σ : St) (t : Nat) (l c : Operand) (d : Option Tmp) : R := match d, y62 F t, q7w F t, ev σ l, ev σ c with
 | some d, some (sz, by_), some zrow, some (.one (.b (.s (.int _ n)))), some (.one (.b (.s (.int _ n')))) => (match get σ.b d with
   | none => zo (z3h sz zrow) (.side (n = n') (.side (0 ≤ n) (.side (n * by_ ≤ 281474976710656) (.side (n ≤ 9223372036854775807) (bR ((d, .one (.h d n.toNat)) :: σ.t) (q09 σ.b d (.arr true sz 0 (List.replicate n.toNat zrow))))))))
   | some _ => .fail)
 | _, _, _, _, _ => .fail
def opR (g : Bool) (F : TT) (σ : St) (o : Oper) : R := match o.op with
 | .move x => evR σ x fun av => z0n σ o.dst av
 | .assign x => evR σ x fun av => z0n σ o.dst av
 | .pick c x y => (match ev σ c with | some (.one (.b (.s (.bool t)))) => .br t (evR σ x fun av => z0n σ o.dst av) (evR σ y fun av => z0n σ o.dst av) | _ => .fail)
 | .load t x => (match ev σ x, y86 F t with
   | some av, some (ag, n) => z57 σ av fun cs => (match ag with
     | true => zo (y2y n cs) (y08 (force (cs.take n)) fun cs => z0n σ o.dst (.agg cs))
     | false => (match cs with | [] => .fail | c :: _ => z0n σ o.dst (.one c)))
   | _, _ => .fail)
 | .binOp op t x y _ => (match ev σ x, ev σ y with
   | some (.one (.b (.s (.bool a)))), some (.one (.b (.s (.bool b)))) => zo (y90 F t) (match op with | .eql => z0n σ o.dst (sV (.bool (a == b))) | .neq => z0n σ o.dst (sV (.bool (!(a == b)))) | _ => .fail)
   | some (.one (.b (.s u))), some (.one (.b (.s v))) => q9p op u v fun r => z0n σ o.dst (sV r)
   | some (.one (.b (.l rows))), some (.one .nil) => y08 (z3d F t) fun _ => (match op with
     | .eql => .any (fun b => b = true → rows = []) fun b => z0n σ o.dst (sV (.bool b))
     | .neq => .any (fun b => b = true → rows = []) fun b => z0n σ o.dst (sV (.bool (!b)))
     | _ => .fail)
   | some (.agg cs), some (.agg cs') => y08 (q90 F t) fun ks => y08 (scs cs) fun xs => y08 (scs cs') fun ys => zo (q8d ks xs) (zo (q8d ks ys) (match op with
     | .eql => z0n σ o.dst (sV (.bool (z0x xs ys)))
     | .neq => z0n σ o.dst (sV (.bool (!(z0x xs ys))))
     | _ => .fail))
   | _, _ => .raw g σ o)
 | .unOp op _ x => (match op, ev σ x with
   | .not, some (.one (.b (.s (.bool b)))) => z0n σ o.dst (sV (.bool (!b)))
   | .neg, some (.one (.b (.s (.int k n)))) => z0n σ o.dst (sV (.int k (k.wrap (0 - n))))
   | _, _ => .fail)
 | .convert s d x => (match ev σ x, ya0 F d with
   | some (.one (.b (.s (.int _ n)))), some k => zo (z91 F s) (z0n σ o.dst (sV (.int k (k.wrap n))))
   | _, _ => .raw g σ o)
 | .fieldAddr s x f => (match ev σ x, z7w F s f with
   | some (.one (.b (.p row))), some off => zo (y2y off row) (y08 (force (row.drop off)) fun row => z0n σ o.dst (.one (.b (.p row))))
   | some (.one (.a β i)), some off => z0n σ o.dst (.one (.a β (i + off)))
   | some (.one (.e β m i k)), some off => z0n σ o.dst (.one (.e β m i (k + off)))
   | _, _ => .fail)
 | .field s x f => (match ev σ x, q85 F s f with
   | some (.agg cs), some (true, off, n) => zo (y2y (Nat.add off n) cs) (y08 (force ((cs.drop off).take n)) fun cs => z0n σ o.dst (.agg cs))
   | some (.agg cs), some (false, off, _) => y08 (nth cs off) fun c => z0n σ o.dst (.one c)
   | _, _ => .fail)
 | .indexAddr t x i => (match ev σ x, ev σ i, z3d F t with
   | some (.one (.b (.l rows))), some (.one (.b (.s (.int _ n)))), some sz => .side (0 ≤ n) (.row rows n.toNat fun row => .side (row.length = sz) (z0n σ o.dst (.one (.b (.p row)))))
   | some (.one (.h β m)), some (.one (.b (.s (.int _ n)))), some sz => (match get σ.b β with
     | some (.arr _ _ _ rows) => .side (m = rows.length) (.side (0 ≤ n) (.row rows n.toNat fun row => .side (row.length = sz) (z0n σ o.dst (.one (.e β m n.toNat 0)))))
     | _ => .fail)
   | _, _, _ => .raw g σ o)
 | .index t x i => (match ev σ x, ev σ i with
   | some (.one (.b (.s (.string s)))), some (.one (.b (.s (.int _ n)))) => zo (q77 F t) (.side (0 ≤ n) (.byte s n.toNat fun b => z0n σ o.dst (sV (.int .u8 b.toNat))))
   | _, _ => .fail)
 | .slice t x lo hi none => (match ev σ x, q8j lo σ, q8j hi σ with
   | some (.one (.b (.s (.string s)))), some l, some h => zo (q77 F t) (.side (0 ≤ l.getD 0) (.side (l.getD 0 ≤ h.getD s.size) (.side (h.getD s.size ≤ s.size) (z0n σ o.dst (sV (.string (s.extract (l.getD 0).toNat (h.getD s.size).toNat)))))))
   | some (.one (.b (.l rows))), some l, some h => y08 (z3d F t) fun sz => .side (l.getD 0 = 0 ∨ ∀ row ∈ rows, row.length = sz) (.side (0 ≤ l.getD 0) (.side (l.getD 0 ≤ h.getD rows.length) (.side (h.getD rows.length ≤ rows.length) (z0n σ o.dst (.one (.b (.l ((rows.take (h.getD rows.length).toNat).drop (l.getD 0).toNat))))))))
   | _, _, _ => .raw g σ o)
 | .extract x i => (match ev σ x with | some (.tup vs) => y08 (nth vs i) fun av => z0n σ o.dst av | _ => .fail)
 | .makeFunc (.func f) first caps => (match first.toList, caps.toList with
   | [x], [] => (match ev σ x with
     | some (.one (.a β off)) => z0n σ o.dst (.one (.cm f β off))
     | some (.one (.b c)) => z0n σ o.dst (.one (.b (.m f false [c])))
     | some (.agg cs) => y08 (y8x cs) fun l => z0n σ o.dst (.one (.b (.m f true l)))
     | _ => .fail)
   | [], _ => y08 (y7a σ caps.toList) fun cs => z0n σ o.dst (.one (.cl f cs))
   | _, _ => .fail)
 | .build t ps => y08 (z63 F t) fun z => y08 (z6g F σ t z ps.toList) fun cs => z0n σ o.dst (.agg cs)
 | .alloc e => (match y7w F e with | some z => zo (q6p z) (q9n σ o.dst (yg z)) | none => .fail)
 | .box _ x => (match ev σ x with | some z => zo (q6p z) (q9n σ o.dst (yg z)) | none => .fail)
 | .store t p x => (match o.dst, ev σ p, ev σ x with
   | none, some pv, some xv => y4e F σ t pv xv
   | _, _, _ => .fail)
 | .buildSlice t n ps => z9u F σ t n ps.toList o.dst
 | .makeSlice t l c => q9u F σ t l c o.dst
 | .call c => q8b g F σ o c
 | .nilCheck x => evR σ x fun av => (match av with | .one (.b (.p row)) => z0n σ o.dst (.one (.b (.p row))) | .one (.a β off) => z0n σ o.dst (.one (.a β off)) | .one (.e β m i k) => z0n σ o.dst (.one (.e β m i k)) | _ => .fail)
 | _ => .raw g σ o
end Go.Sx
end
