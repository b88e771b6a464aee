/- WHAT IS PROVED: parts of the proof of fnExactEventsOf_holds: a frame for walks, what each Go function that it reaches answers, and plain lemmas; no condition beyond those that each theorem names. -/
import Derived.Test.YtlkjdcpcbnfbbaaCEv2
import Derived.WalkKit
import Derived.OrdersHeld
import Derived.DeepKeys
import Derived.Maps.RangeWalk
import Derived.Maps.OwnOps
import Derived.WideKeyEntry
set_option linter.unusedVariables false
set_option linter.unusedSimpArgs false
section
namespace Go.Sx
open Go.RowKit (Below)
structure TI where
  lay : Option (Bool × Nat)
  esz : Option Nat
  esI : Option (Nat × Nat)
  str : Bool
  boo : Bool
  und : Bool
  ik : Option IntKind
  zero : Option AV
  zeroB : Option (List AC)
  zrow : Option (List Cell)
  flds : List (Option Nat × Option (Bool × Nat × Nat))
  cmp : Option (List CK)
inductive TT where
  | leaf
  | node (k : Nat) (v : TI) (l r : TT)
def isBoo (P : Program) (t : TypeId) : Bool := match P.underlying t with | some .bool => true | _ => false
def fcnt (P : Program) (t : TypeId) : Nat := match P.underlying t with | some (.struct fs) => fs.size | _ => 0
def mkF (P : Program) (t : TypeId) : Nat → Nat → List (Option Nat × Option (Bool × Nat × Nat))
  | 0, _ => []
  | n + 1, i => (foff P t i, fld P t i) :: mkF P t n (i + 1)
def mkTI (P : Program) (t : TypeId) : TI := ⟨lay P t, esz P t, esInfo P t, isStr P t, isBoo P t, (P.underlying t).isSome, ikind P t, zeroAV P t, zeroB P t, zrowT P t, mkF P t (fcnt P t) 0, cmpK P t⟩
def TT.map (P : Program) : TT → TT
  | .leaf => .leaf
  | .node k _ l r => .node k (mkTI P k) (l.map P) (r.map P)
def TT.find : TT → Nat → Option TI
  | .leaf, _ => none
  | .node k v l r, t => bif Nat.beq k t then some v else bif Nat.blt t k then l.find t else r.find t
theorem TT.find_map {P : Program} : ∀ {F : TT} {t : Nat} {i : TI}, (F.map P).find t = some i → i = mkTI P t
  | .leaf, t, i, h => by cases h
  | .node k v l r, t, i, h => by
    rw [TT.map, TT.find] at h
    by_cases hk : k = t
    · subst hk; simp only [Nat.beq_refl, cond_true, Option.some.injEq] at h; exact h.symm
    · rw [beq_false hk] at h
      cases hb : Nat.blt t k with
      | true => rw [hb] at h; exact TT.find_map h
      | false => rw [hb] at h; exact TT.find_map h
def nth {α : Type} : List α → Nat → Option α
  | [], _ => none
  | a :: l, n => bif Nat.beq n 0 then some a else nth l (Nat.pred n)
theorem nth_eq {α : Type} : ∀ (l : List α) (n : Nat), nth l n = l[n]?
  | [], n => by simp [nth]
  | a :: l, 0 => rfl
  | a :: l, n + 1 => by rw [nth, beq_false (by omega), List.getElem?_cons_succ]; exact nth_eq l n
theorem mkF_get {P : Program} {t : Nat} : ∀ {n i k : Nat} {x : Option Nat × Option (Bool × Nat × Nat)}, (mkF P t n i)[k]? = some x → x = (foff P t (i + k), fld P t (i + k))
  | 0, i, k, x, h => by simp [mkF] at h
  | n + 1, i, k, x, h => by
    rw [mkF] at h
    cases k with
    | zero => cases h; rfl
    | succ k => rw [List.getElem?_cons_succ] at h; rw [mkF_get h]; simp only [Nat.add_assoc, Nat.add_comm 1 k]
def F_lay (F : TT) (t : Nat) : Option (Bool × Nat) := match F.find t with | some i => i.lay | none => none
def F_esz (F : TT) (t : Nat) : Option Nat := match F.find t with | some i => i.esz | none => none
def F_esI (F : TT) (t : Nat) : Option (Nat × Nat) := match F.find t with | some i => i.esI | none => none
def F_str (F : TT) (t : Nat) : Bool := match F.find t with | some i => i.str | none => false
def F_boo (F : TT) (t : Nat) : Bool := match F.find t with | some i => i.boo | none => false
def F_und (F : TT) (t : Nat) : Bool := match F.find t with | some i => i.und | none => false
def F_ik (F : TT) (t : Nat) : Option IntKind := match F.find t with | some i => i.ik | none => none
def F_zero (F : TT) (t : Nat) : Option AV := match F.find t with | some i => i.zero | none => none
def F_zeroB (F : TT) (t : Nat) : Option (List AC) := match F.find t with | some i => i.zeroB | none => none
def F_zrow (F : TT) (t : Nat) : Option (List Cell) := match F.find t with | some i => i.zrow | none => none
def F_cmp (F : TT) (t : Nat) : Option (List CK) := match F.find t with | some i => i.cmp | none => none
def F_foff (F : TT) (t f : Nat) : Option Nat := match F.find t with | some i => (match nth i.flds f with | some x => x.1 | none => none) | none => none
def F_fld (F : TT) (t f : Nat) : Option (Bool × Nat × Nat) := match F.find t with | some i => (match nth i.flds f with | some x => x.2 | none => none) | none => none
section
variable {P : Program} {F : TT}
theorem F_some {α : Type} {F : TT} {t : Nat} {g : TI → Option α} {x : α} (hF : F = F.map P) (h : (match F.find t with | some i => g i | none => none) = some x) : g (mkTI P t) = some x := by
  cases hi : F.find t with
  | none => rw [hi] at h; cases h
  | some i => rw [hi] at h; rw [hF] at hi; rw [← TT.find_map hi]; exact h
theorem F_true {F : TT} {t : Nat} {g : TI → Bool} (hF : F = F.map P) (h : (match F.find t with | some i => g i | none => false) = true) : g (mkTI P t) = true := by
  cases hi : F.find t with
  | none => rw [hi] at h; cases h
  | some i => rw [hi] at h; rw [hF] at hi; rw [← TT.find_map hi]; exact h
theorem F_lay_ok (hF : F = F.map P) {t : Nat} {x : Bool × Nat} (h : F_lay F t = some x) : lay P t = some x := F_some (g := TI.lay) hF h
theorem F_esz_ok (hF : F = F.map P) {t : Nat} {x : Nat} (h : F_esz F t = some x) : esz P t = some x := F_some (g := TI.esz) hF h
theorem F_esI_ok (hF : F = F.map P) {t : Nat} {x : Nat × Nat} (h : F_esI F t = some x) : esInfo P t = some x := F_some (g := TI.esI) hF h
theorem F_ik_ok (hF : F = F.map P) {t : Nat} {x : IntKind} (h : F_ik F t = some x) : ikind P t = some x := F_some (g := TI.ik) hF h
theorem F_zero_ok (hF : F = F.map P) {t : Nat} {x : AV} (h : F_zero F t = some x) : zeroAV P t = some x := F_some (g := TI.zero) hF h
theorem F_zeroB_ok (hF : F = F.map P) {t : Nat} {x : List AC} (h : F_zeroB F t = some x) : zeroB P t = some x := F_some (g := TI.zeroB) hF h
theorem F_zrow_ok (hF : F = F.map P) {t : Nat} {x : List Cell} (h : F_zrow F t = some x) : zrowT P t = some x := F_some (g := TI.zrow) hF h
theorem F_cmp_ok (hF : F = F.map P) {t : Nat} {x : List CK} (h : F_cmp F t = some x) : cmpK P t = some x := F_some (g := TI.cmp) hF h
theorem F_str_ok (hF : F = F.map P) {t : Nat} (h : F_str F t = true) : isStr P t = true := F_true (g := TI.str) hF h
theorem F_boo_ok (hF : F = F.map P) {t : Nat} (h : F_boo F t = true) : P.underlying t = some .bool := by
  have : isBoo P t = true := F_true (g := TI.boo) hF h
  unfold isBoo at this
  split at this
  · assumption
  · cases this
theorem F_und_ok (hF : F = F.map P) {t : Nat} (h : F_und F t = true) : ∃ u, P.underlying t = some u := Option.isSome_iff_exists.1 (F_true (g := TI.und) hF h)
theorem F_foff_ok (hF : F = F.map P) {t f x : Nat} (h : F_foff F t f = some x) : foff P t f = some x := by
  have := F_some (g := fun i => match nth i.flds f with | some x => x.1 | none => none) hF h
  split at this
  · rename_i y hy
    rw [nth_eq] at hy
    rw [mkF_get hy, Nat.zero_add] at this
    exact this
  · cases this
theorem F_fld_ok (hF : F = F.map P) {t f : Nat} {x : Bool × Nat × Nat} (h : F_fld F t f = some x) : fld P t f = some x := by
  have := F_some (g := fun i => match nth i.flds f with | some x => x.2 | none => none) hF h
  split at this
  · rename_i y hy
    rw [nth_eq] at hy
    rw [mkF_get hy, Nat.zero_add] at this
    exact this
  · cases this
end
inductive R where
  | fail
  | ok (σ : St)
  | side (p : Prop) (r : R)
  | br (t : Bool) (r r' : R)
  | any (q : Bool → Prop) (f : Bool → R)
  | row (rows : List (List Cell)) (i : Nat) (f : List Cell → R)
  | byte (s : ByteArray) (i : Nat) (f : UInt8 → R)
  | call (g : Bool) (σ : St) (d : Option Tmp) (f : Nat) (avs : List AV)
  | raw (g : Bool) (σ : St) (o : Oper)
def R.holds (P : Program) : R → (St → Prop) → Prop
  | .fail, _ => False
  | .ok σ, K => K σ
  | .side p r, K => p ∧ r.holds P K
  | .br t r r', K => (t = true → r.holds P K) ∧ (t = false → r'.holds P K)
  | .any q f, K => ∀ b, q b → (f b).holds P K
  | .row rows i f, K => ∃ row, rows[i]? = some row ∧ (f row).holds P K
  | .byte s i f, K => ∃ b, s[i]? = some b ∧ (f b).holds P K
  | .call g σ d f avs, K => CallV P σ d f avs K ∨ (g = true ∧ CallG P σ d f avs K)
  | .raw g σ o, K => opL g P σ o K
def force {α : Type} : List α → Option (List α)
  | [] => some []
  | a :: l => match force l with | some l' => some (a :: l') | none => none
theorem force_eq {α : Type} : ∀ {l l' : List α}, force l = some l' → l' = l
  | [], l', h => by cases h; rfl
  | a :: l, l', h => by
    rw [force] at h
    split at h
    · rename_i l1 h1; cases h; rw [force_eq h1]
    · cases h
def leLen {α : Type} : Nat → List α → Bool
  | 0, _ => true
  | _ + 1, [] => false
  | n + 1, _ :: l => leLen n l
theorem leLen_le {α : Type} : ∀ {n : Nat} {l : List α}, leLen n l = true → n ≤ l.length
  | 0, l, _ => Nat.zero_le _
  | n + 1, [], h => by cases h
  | n + 1, _ :: l, h => Nat.succ_le_succ (leLen_le (l := l) h)
def eqLen {α : Type} : Nat → List α → Bool
  | 0, [] => true
  | 0, _ :: _ => false
  | _ + 1, [] => false
  | n + 1, _ :: l => eqLen n l
theorem eqLen_eq {α : Type} : ∀ {n : Nat} {l : List α}, eqLen n l = true → l.length = n
  | 0, [], _ => rfl
  | 0, _ :: _, h => by cases h
  | n + 1, [], h => by cases h
  | n + 1, _ :: l, h => congrArg (· + 1) (eqLen_eq (l := l) h)
def ikN : IntKind → Nat
  | .i8 => 0 | .i16 => 1 | .i32 => 2 | .i64 => 3 | .u8 => 4 | .u16 => 5 | .u32 => 6 | .u64 => 7
theorem ikN_inj {k k' : IntKind} (h : Nat.beq (ikN k) (ikN k') = true) : k = k' := by
  cases k <;> cases k' <;> first | rfl | cases h
def guardB (b : Bool) (r : R) : R := match b with | true => r | false => .fail
theorem guardB_holds {P : Program} {b : Bool} {r : R} {K : St → Prop} (h : (guardB b r).holds P K) : b = true ∧ r.holds P K := by
  cases b with
  | true => exact ⟨rfl, h⟩
  | false => exact h.elim
def valR (σ : St) (d : Option Tmp) (av : AV) : R := match σ, d with
  | ⟨t, b⟩, some d => .ok ⟨(d, av) :: t, b⟩
  | σ, none => .ok σ
theorem valR_holds {P : Program} {σ : St} {d : Option Tmp} {av : AV} {K : St → Prop} : (valR σ d av).holds P K ↔ K (σ.put d av) := by
  cases σ; cases d <;> rfl
def evR (σ : St) (x : Operand) (f : AV → R) : R := match ev σ x with | some av => f av | none => .fail
def sV (v : Value) : AV := .one (.b (.s v))
def cellsR (σ : St) (av : AV) (f : List AC → R) : R := match av with
  | .one (.b (.p row)) => (match force (row.map .b) with | some cs => f cs | none => .fail)
  | .one (.a β off) => (match get σ.b β with | some (.var cs) => (match force ((cs.drop off).map (unk σ.b)) with | some cs => f cs | none => .fail) | _ => .fail)
  | .one (.e β m i k) => (match get σ.b β with
    | some (.arr full _ ep rows) => .side (m = rows.length) (.row rows i fun row => (match elCells full β ep i k (row.drop k) with | some cs => f cs | none => .fail))
    | _ => .fail)
  | _ => .fail
theorem cellsR_ok {P : Program} {σ : St} {av : AV} {f : List AC → R} {K : St → Prop} {K' : List AC → Prop} (hf : ∀ cs, (f cs).holds P K → K' cs) (h : (cellsR σ av f).holds P K) : cellsAt σ av K' := by
  unfold cellsR at h
  unfold cellsAt
  split at h
  · split at h
    · rename_i cs hcs; rw [force_eq hcs] at h; exact hf _ h
    · exact h.elim
  · rename_i β off
    dsimp only
    split at h
    · rename_i cs hcs
      split at h
      · rename_i cs' hcs'; rw [force_eq hcs'] at h; rw [hcs]; exact hf _ h
      · exact h.elim
    · exact h.elim
  · rename_i β m i k
    dsimp only
    split at h
    · rename_i full sz ep rows hab
      obtain ⟨h1, row, h2, h3⟩ := h
      rw [hab]
      refine ⟨h1, ?_⟩
      rw [h2]
      dsimp only at h3 ⊢
      split at h3
      · rename_i cs hcs; rw [hcs]; exact hf _ h3
      · exact h3.elim
    · exact h.elim
  · exact h.elim
def ibinR (op : BinOp) (k : IntKind) (x y : Int) (f : Value → R) : R := match op with
  | .add => f (.int k (k.wrap (x + y))) | .sub => f (.int k (k.wrap (x - y))) | .mul => f (.int k (k.wrap (x * y)))
  | .eql => f (.bool (x == y)) | .neq => f (.bool (x != y)) | .lss => f (.bool (decide (x < y))) | .leq => f (.bool (decide (x ≤ y)))
  | .gtr => f (.bool (decide (x > y))) | .geq => f (.bool (decide (x ≥ y)))
  | .quo => .side (y ≠ 0) (f (.int k (k.wrap (x.tdiv y)))) | .rem => .side (y ≠ 0) (f (.int k (x.tmod y)))
  | .and => f (.int k (bits .and k x y)) | .or => f (.int k (bits .or k x y)) | .xor => f (.int k (bits .xor k x y))
  | _ => .fail
def strR (op : BinOp) (a b : ByteArray) (f : Value → R) : R := match op with
  | .add => .side (a.size + b.size ≤ 9223372036854775807) (f (.string (a ++ b)))
  | .eql => f (.bool (a.toList == b.toList)) | .neq => f (.bool (!(a.toList == b.toList)))
  | .lss => f (.bool (Op.bytesLess a.toList b.toList)) | .leq => f (.bool (Op.bytesLess a.toList b.toList || (a.toList == b.toList)))
  | .gtr => f (.bool (!(Op.bytesLess a.toList b.toList || (a.toList == b.toList)))) | .geq => f (.bool (!(Op.bytesLess a.toList b.toList)))
  | _ => .fail
def binR (op : BinOp) (u v : Value) (f : Value → R) : R := match u, v with
  | .int k x, .int k' y => (match op with
    | .shl => .side (0 ≤ y) (f (.int k (k.wrap (x * 2 ^ (min y.toNat k.bits)))))
    | .shr => .side (0 ≤ y) (f (.int k (x.fdiv (2 ^ (min y.toNat k.bits)))))
    | op => guardB (Nat.beq (ikN k) (ikN k')) (ibinR op k x y f))
  | .string a, .string b => strR op a b f
  | _, _ => .fail
section
variable {P : Program} {K : St → Prop} {K' : Value → Prop} {f : Value → R}
theorem ibinR_ok {op : BinOp} {k : IntKind} {x y : Int} (hf : ∀ v, (f v).holds P K → K' v) (h : (ibinR op k x y f).holds P K) : match ibin op k x y with | some r => K' r | none => False := by
  cases op <;> simp only [ibinR] at h <;> simp only [ibin] <;> first
    | exact hf _ h
    | exact h.elim
    | (rw [if_neg h.1]; exact hf _ h.2)
theorem strR_ok {op : BinOp} {a b : ByteArray} (hf : ∀ v, (f v).holds P K → K' v) (h : (strR op a b f).holds P K) : strBin op a b K' := by
  cases op <;> simp only [strR] at h <;> simp only [strBin] <;> first
    | exact hf _ h
    | exact h.elim
    | exact ⟨h.1, hf _ h.2⟩
theorem binR_ok {op : BinOp} {u v : Value} (hf : ∀ v, (f v).holds P K → K' v) (h : (binR op u v f).holds P K) : binY op u v K' := by
  unfold binR at h
  unfold binY
  split at h
  · dsimp only
    split at h
    · exact ⟨h.1, hf _ h.2⟩
    · exact ⟨h.1, hf _ h.2⟩
    · rename_i h1 h2
      obtain ⟨hk, h'⟩ := guardB_holds h
      have hk := ikN_inj hk
      subst hk
      have := ibinR_ok hf h'
      split
      · exact absurd rfl h1
      · exact absurd rfl h2
      · rw [if_pos rfl]; exact this
  · exact strR_ok hf h
  · exact h.elim
end
end Go.Sx
end
section
namespace Go.Sx
open Go.RowKit (Below)
def bR (t : List (Nat × AV)) (b : List (Nat × AB)) : R := match force b with | some b => .ok ⟨t, b⟩ | none => .fail
theorem bR_holds {P : Program} {t : List (Nat × AV)} {b : List (Nat × AB)} {K : St → Prop} (h : (bR t b).holds P K) : K ⟨t, b⟩ := by
  unfold bR at h
  split at h
  · rename_i b' hb; rw [force_eq hb] at h; exact h
  · exact h.elim
def mapC (B : List (Nat × AB)) : List AC → Option (List Cell)
  | [] => some []
  | .b c :: l => (match mapC B l with | some l' => some (c :: l') | none => none)
  | .h γ _ :: l => (match get B γ, mapC B l with | some (.arr _ _ _ rows), some l' => some (.l rows :: l') | _, _ => none)
  | .nil :: l => (match mapC B l with | some l' => some (.l [] :: l') | none => none)
  | .em :: l => (match mapC B l with | some l' => some (.l [] :: l') | none => none)
  | _ => none
theorem mapC_eq {B : List (Nat × AB)} : ∀ {cs : List AC} {l : List Cell}, mapC B cs = some l → l = cs.map (toC0 B)
  | [], l, h => by cases h; rfl
  | c :: cs, l, h => by
    cases c <;> rw [mapC] at h <;> first
      | (split at h
         · rename_i l' hl; cases h; rw [mapC_eq hl]; rfl
         · cases h)
      | (split at h
         · rename_i rows l' hg hl; cases h; rw [mapC_eq hl]; simp [toC0, hg]
         · cases h)
      | cases h
def mapRs (B : List (Nat × AB)) : List (List AC) → Option (List (List Cell))
  | [] => some []
  | cs :: l => match mapC B cs, mapRs B l with | some r, some l' => some (r :: l') | _, _ => none
theorem mapRs_eq {B : List (Nat × AB)} : ∀ {rws : List (List AC)} {l : List (List Cell)}, mapRs B rws = some l → l = rws.map fun cs => cs.map (toC0 B)
  | [], l, h => by cases h; rfl
  | c :: cs, l, h => by
    rw [mapRs] at h
    split at h
    · rename_i r l' hr hl; cases h; rw [mapC_eq hr, mapRs_eq hl]; rfl
    · cases h
def gams : List AC → List Nat
  | [] => []
  | .h γ _ :: l => γ :: gams l
  | _ :: l => gams l
theorem gams_eq : ∀ (cs : List AC), gams cs = cs.filterMap gam
  | [] => rfl
  | c :: cs => by
    have ih := gams_eq cs
    cases c <;> simp only [gams, ih] <;> rfl
def memB (x : Nat) : List Nat → Bool
  | [] => false
  | y :: l => bif Nat.beq x y then true else memB x l
theorem memB_not {x : Nat} : ∀ {l : List Nat}, memB x l = false → x ∉ l
  | [], _ => by simp
  | y :: l, h => by
    rw [memB] at h
    cases hb : Nat.beq x y with
    | true => rw [hb] at h; cases h
    | false =>
      rw [hb] at h
      have hne : x ≠ y := fun e => by subst e; simp at hb
      have := memB_not (l := l) h
      simp [hne, this]
def nodB : List Nat → Bool
  | [] => true
  | x :: l => bif memB x l then false else nodB l
theorem nodB_nodup : ∀ {l : List Nat}, nodB l = true → l.Nodup
  | [], _ => List.nodup_nil
  | x :: l, h => by
    rw [nodB] at h
    cases hb : memB x l with
    | true => rw [hb] at h; cases h
    | false => rw [hb] at h; exact List.nodup_cons.2 ⟨memB_not hb, nodB_nodup h⟩
def notB (b : Bool) : Bool := match b with | true => false | false => true
theorem notB_eq {b : Bool} (h : notB b = true) : b = false := by cases b <;> first | rfl | cases h
def allLen (sz : Nat) : List (List AC) → Bool
  | [] => true
  | cs :: l => bif eqLen sz cs then allLen sz l else false
theorem allLen_eq {sz : Nat} : ∀ {l : List (List AC)}, allLen sz l = true → (l.all fun cs => cs.length == sz) = true
  | [], _ => rfl
  | cs :: l, h => by
    rw [allLen] at h
    cases hb : eqLen sz cs with
    | false => rw [hb] at h; cases h
    | true => rw [hb] at h; simp only [List.all_cons, eqLen_eq hb, beq_self_eq_true, Bool.true_and]; exact allLen_eq h
def flat (l : List (List AC)) : List AC := l.flatten
def partsR (σ : St) : Nat → List (Nat × Operand) → Option (List (List AC))
  | _, [] => some []
  | i, (j, x) :: ps => bif Nat.beq i j then (match ev σ x, partsR σ (Nat.succ i) ps with
    | some (.one c), some r => some ([c] :: r)
    | some (.agg cs), some r => some (cs :: r)
    | _, _ => none) else none
theorem partsR_eq {σ : St} : ∀ {ps : List (Nat × Operand)} {i : Nat} {r : List (List AC)}, partsR σ i ps = some r → partsAC σ i ps = some r
  | [], i, r, h => h
  | (j, x) :: ps, i, r, h => by
    rw [partsR] at h
    by_cases hij : i = j
    · subst hij
      simp only [Nat.beq_refl, cond_true] at h
      rw [partsAC, if_pos rfl]
      split at h
      · rename_i c r' h1 h2; cases h; rw [h1, partsR_eq h2]
      · rename_i c r' h1 h2; cases h; rw [h1, partsR_eq h2]
      · cases h
    · rw [beq_false hij] at h; cases h
def fillR (F : TT) (σ : St) (t : Nat) : List AC → List (Nat × Operand) → Option (List AC)
  | cs, [] => some cs
  | cs, (i, x) :: ps => match F_fld F t i, ev σ x with
    | some (_, off, n), some (.one c) => (match Nat.beq n 1, leLen (Nat.add off 1) cs, force (putCells cs off [c]) with | true, true, some cs' => fillR F σ t cs' ps | _, _, _ => none)
    | some (_, off, n), some (.agg xs) => (match eqLen n xs, leLen (Nat.add off n) cs, force (putCells cs off xs) with | true, true, some cs' => fillR F σ t cs' ps | _, _, _ => none)
    | _, _ => none
def capsR (σ : St) : List Operand → Option (List (Nat × Nat))
  | [] => some []
  | x :: l => match ev σ x, capsR σ l with | some (.one (.a β off)), some r => some ((β, off) :: r) | _, _ => none
theorem capsR_eq {σ : St} : ∀ {l : List Operand}, capsR σ l = l.mapM (fun x => match ev σ x with | some (.one (.a β off)) => some (β, off) | _ => none)
  | [] => rfl
  | x :: l => by
    rw [List.mapM_cons, ← capsR_eq (l := l), capsR]
    split
    · rename_i β off r h1 h2
      simp [h1, h2]
    · rename_i h1
      cases he : capsR σ l with
      | none => split <;> simp
      | some r =>
        split
        · rename_i β off h2; exact absurd he (h1 β off r h2)
        · simp
def capsB (σ : St) : List Operand → Option (List Cell)
  | [] => some []
  | x :: l => match ev σ x, capsB σ l with | some (.one (.b c)), some r => some (c :: r) | _, _ => none
theorem capsB_eq {σ : St} : ∀ {l : List Operand} {r : List Cell}, capsB σ l = some r → l.mapM (fun x => match ev σ x with | some (.one (.b c)) => some c | _ => none) = some r
  | [], r, h => by cases h; rfl
  | x :: l, r, h => by
    rw [capsB] at h
    split at h
    · rename_i c r' h1 h2
      cases h
      simp [h1, capsB_eq h2]
    · cases h
def fullL : List AC → Bool
  | [] => true
  | .b (.s _) :: l => fullL l
  | .b _ :: _ => false
  | _ :: l => fullL l
theorem fullL_eq : ∀ (cs : List AC), fullL cs = fullOf cs
  | [] => rfl
  | c :: cs => by
    cases c with
    | b c => cases c <;> simp [fullL, fullOf] <;> exact fullL_eq cs
    | _ => simp [fullL, fullOf]; exact fullL_eq cs
section
variable {P : Program} {F : TT}
theorem fillR_eq (hF : F = F.map P) {σ : St} {t : Nat} : ∀ {ps : List (Nat × Operand)} {cs r : List AC}, fillR F σ t cs ps = some r → fillAV P σ t cs ps = some r
  | [], cs, r, h => h
  | (i, x) :: ps, cs, r, h => by
    rw [fillR] at h
    rw [fillAV]
    split at h
    · rename_i off n c h1 h2
      rw [F_fld_ok hF h1, h2]
      dsimp only
      split at h
      · rename_i cs' e1 e2 e3
        rw [if_pos ⟨Nat.eq_of_beq_eq_true e1, leLen_le e2⟩, ← force_eq e3]
        exact fillR_eq hF h
      · cases h
    · rename_i off n xs h1 h2
      rw [F_fld_ok hF h1, h2]
      dsimp only
      split at h
      · rename_i cs' e1 e2 e3
        rw [if_pos ⟨eqLen_eq e1, leLen_le e2⟩, ← force_eq e3]
        exact fillR_eq hF h
      · cases h
    · cases h
end
def intR? : Option Operand → St → Option (Option Int)
  | none, _ => some none
  | some x, σ => match ev σ x with | some (.one (.b (.s (.int _ n)))) => some (some n) | _ => none
def someR {α : Type} (o : Option α) (f : α → R) : R := match o with | some a => f a | none => .fail
theorem someR_holds {P : Program} {K : St → Prop} {α : Type} {o : Option α} {f : α → R} (h : (someR o f).holds P K) : ∃ a, o = some a ∧ (f a).holds P K := by
  cases o with
  | none => exact h.elim
  | some a => exact ⟨a, rfl, h⟩
def lenR (F : TT) (σ : St) (t : Nat) (av : AV) (f : Value → R) : R := match av with
  | .one (.b (.l rows)) => someR (F_esz F t) fun _ => f (.int .i64 rows.length)
  | .one .nil => someR (F_esz F t) fun _ => f (.int .i64 0)
  | .one .em => someR (F_esz F t) fun _ => f (.int .i64 0)
  | .one (.h _ n) => someR (F_esz F t) fun _ => f (.int .i64 n)
  | .one (.b (.s (.string s))) => guardB (F_str F t) (f (.int .i64 s.size))
  | .one (.q β m i k) => someR (F_esz F t) fun _ => (match get σ.b β with
    | some (.arr _ _ ep rows) => .side (m = ep) (.row rows i fun row => match nth row k with | some (.l rs) => f (.int .i64 rs.length) | _ => .fail)
    | _ => .fail)
  | _ => .fail
def nestB : Option (List Cell) → Bool
  | some r => r.any fun c => match c with | .l _ => true | _ => false
  | none => false
def turnB (z : Option (List Cell)) (full : Bool) (rows : List (List Cell)) : Bool := match nestB z with
  | true => (match full with | true => (match rows with | [] => true | _ => false) | false => false)
  | false => false
theorem turnB_nil {z : Option (List Cell)} {full : Bool} {rows : List (List Cell)} (h : turnB z full rows = true) : rows = [] := by
  unfold turnB at h
  split at h
  · split at h
    · split at h
      · rfl
      · cases h
    · cases h
  · cases h
def callR (g : Bool) (F : TT) (σ : St) (o : Oper) (c : Call) : R := match c.callee with
  | .builtin .len => (match c.argTypes.toList, c.args.toList with
    | t :: _, [x] => evR σ x fun av => lenR F σ t av fun r => valR σ o.dst (sV r)
    | _, _ => .fail)
  | .builtin .append => (match c.argTypes.toList, c.args.toList, o.dst with
    | [t, tx], [s, x], some d => (match F_esI F t, F_esI F tx, ev σ s, ev σ x with
      | some (sz, by_), some _, some (.one (.h β n)), some (.one (.h γ m)) => (match get σ.b β, get σ.b γ with
        | some (.arr full0 sz0 ep rows0), some (.arr full sz1 _ rows) =>
          guardB (Nat.beq sz0 sz) (guardB (Nat.beq sz1 sz) (guardB (notB (Nat.beq β γ)) (.side (n = rows0.length) (.side (m = rows.length) (match full0, full with
          | false, true => .side (flatRows rows) (.side (rows0.length + rows.length ≤ 9223372036854775807) (.side ((rows0.length + rows.length) * by_ ≤ 140737488355328)
          (bR ((d, .one (.h β (rows0.length + rows.length))) :: σ.t) (pset (killAll σ.b [γ]) β (.arr false sz (Nat.succ ep) (rows0 ++ rows))))))
          | full0, full => .side (full0 = full ∨ rows0 = []) (.side (rows0.length + rows.length ≤ 9223372036854775807) (.side ((rows0.length + rows.length) * by_ ≤ 140737488355328)
          (bR ((d, .one (.h β (rows0.length + rows.length))) :: σ.t) (pset (killAll σ.b [γ]) β (.arr full sz (Nat.succ ep) (rows0 ++ rows)))))))))))
        | _, _ => .fail)
      | some (sz, by_), some _, some (.one (.h β n)), some (.one (.b (.l rows))) => (match get σ.b β with
        | some (.arr full0 sz0 ep rows0) => guardB (Nat.beq sz0 sz) (.side (n = rows0.length) (.side (∀ row ∈ rows, row.length = sz) (match turnB (F_zrow F t) full0 rows0 with
          | true => .side (rows0.length + rows.length ≤ 9223372036854775807) (.side ((rows0.length + rows.length) * by_ ≤ 140737488355328)
          (bR ((d, .one (.h β (rows0.length + rows.length))) :: σ.t) (pset σ.b β (.arr false sz (Nat.succ ep) (rows0 ++ rows)))))
          | false => .side (full0 = true → scalarRows rows) (.side (rows0.length + rows.length ≤ 9223372036854775807) (.side ((rows0.length + rows.length) * by_ ≤ 140737488355328)
          (bR ((d, .one (.h β (rows0.length + rows.length))) :: σ.t) (pset σ.b β (.arr full0 sz (Nat.succ ep) (rows0 ++ rows)))))))))
        | _ => .fail)
      | some (sz, by_), some _, some (.one .nil), some (.one (.h γ m)) => (match get σ.b d, get σ.b γ with
        | none, some (.arr full sz1 _ rows) => guardB (Nat.beq sz1 sz) (guardB (notB (Nat.beq d γ)) (.side (m = rows.length) (.side (rows.length ≤ 9223372036854775807) (.side (rows.length * by_ ≤ 140737488355328) (bR ((d, .one (.h d rows.length)) :: σ.t) (pset (killAll σ.b [γ]) d (.arr full sz 0 rows)))))))
        | _, _ => .fail)
      | some (sz, by_), some _, some (.one .em), some (.one (.h γ m)) => (match get σ.b d, get σ.b γ with
        | none, some (.arr full sz1 _ rows) => guardB (Nat.beq sz1 sz) (guardB (notB (Nat.beq d γ)) (.side (m = rows.length) (.side (rows.length ≤ 9223372036854775807) (.side (rows.length * by_ ≤ 140737488355328) (bR ((d, .one (.h d rows.length)) :: σ.t) (pset (killAll σ.b [γ]) d (.arr full sz 0 rows)))))))
        | _, _ => .fail)
      | some (sz, by_), some _, some (.one .em), some (.one (.b (.l rows))) => (match get σ.b d with
        | none => .side (∀ row ∈ rows, row.length = sz) (.side (scalarRows rows) (.side (rows.length ≤ 9223372036854775807) (.side (rows.length * by_ ≤ 140737488355328) (bR ((d, .one (.h d rows.length)) :: σ.t) (pset σ.b d (.arr true sz 0 rows))))))
        | _ => .fail)
      | some (sz, by_), some _, some (.one .nil), some (.one (.b (.l rows))) => (match get σ.b d with
        | none => .side (∀ row ∈ rows, row.length = sz) (.side (scalarRows rows) (.side (rows.length ≤ 9223372036854775807) (.side (rows.length * by_ ≤ 140737488355328) (bR ((d, .one (.h d rows.length)) :: σ.t) (pset σ.b d (.arr true sz 0 rows))))))
        | _ => .fail)
      | _, _, _, _ => .fail)
    | _, _, _ => .fail)
  | .value x => (match ev σ x, evs σ c.args.toList with
    | some (.one (.cl f caps)), some avs => someR (force (avs ++ caps.map fun c => .one (.a c.1 c.2))) fun avs => .call g σ o.dst f avs
    | some (.one (.b (.f f caps))), some avs => someR (force (avs ++ caps.map fun c => .one (.b c))) fun avs => .call g σ o.dst f avs
    | some (.one (.cm f β off)), some avs => .call g σ o.dst f (.one (.a β off) :: avs)
    | some (.one (.b (.m f ag row))), some avs => .call g σ o.dst f (recvAV ag row :: avs)
    | _, _ => .fail)
  | .builtin .max => (match c.args.toList with
    | [x, y] => (match ev σ x, ev σ y with | some (.one (.b (.s (.int k a)))), some (.one (.b (.s (.int _ b)))) => valR σ o.dst (sV (.int k (mx a b))) | _, _ => .fail)
    | [x, y, z, t] => (match ev σ x, ev σ y, ev σ z, ev σ t with | some (.one (.b (.s (.int k a)))), some (.one (.b (.s (.int _ b)))), some (.one (.b (.s (.int _ c)))), some (.one (.b (.s (.int _ d)))) => valR σ o.dst (sV (.int k (mx (mx (mx a b) c) d))) | _, _, _, _ => .fail)
    | _ => .fail)
  | .builtin .min => (match c.args.toList with
    | [x, y] => (match ev σ x, ev σ y with | some (.one (.b (.s (.int k a)))), some (.one (.b (.s (.int _ b)))) => valR σ o.dst (sV (.int k (if b < a then b else a))) | _, _ => .fail)
    | _ => .fail)
  | _ => .raw g σ o
def varR (σ : St) (d : Option Tmp) (cs : List AC) : R := match d with
  | some d => (match get σ.b d with | none => bR ((d, .one (.a d 0)) :: σ.t) (pset σ.b d (.var cs)) | some _ => .fail)
  | none => .fail
def ntupB : AV → Bool | .tup _ => false | _ => true
def storeR (F : TT) (σ : St) (t : Nat) (p x : AV) : R := match F_lay F t, p, x with
  | some (_, n), .one (.e β m i k), x => (match get σ.b β with
    | some (.arr full sz ep rows) => guardB (ntupB x) (guardB (eqLen n (avCells x)) (guardB (nodB (gams (avCells x))) (guardB (notB (memB β (gams (avCells x)))) (.side (m = rows.length) (.row rows i fun row => .side (k + n ≤ row.length) (.side (allC (wfS σ.b full) (avCells x)) (someR (mapC σ.b (avCells x)) fun xs =>
        bR σ.t (pset (killAll σ.b (gams (avCells x))) β (.arr full sz (Nat.succ ep) (rows.set i (putRow row k xs)))))))))))
    | _ => .fail)
  | some (false, 1), .one (.a β off), .one c => (match get σ.b β with | some (.var cs) => guardB (leLen (Nat.add off 1) cs) (someR (force (putCells cs off [c])) fun cs => bR σ.t (pset σ.b β (.var cs))) | _ => .fail)
  | some (true, n), .one (.a β off), .agg xs => (match get σ.b β with | some (.var cs) => guardB (eqLen n xs) (guardB (leLen (Nat.add off n) cs) (someR (force (putCells cs off xs)) fun cs => bR σ.t (pset σ.b β (.var cs)))) | _ => .fail)
  | _, _, _ => .fail
def litR (F : TT) (σ : St) (t n : Nat) (ps : List (Nat × Operand)) (d : Option Tmp) : R := match d, F_esI F t, partsR σ 0 ps with
  | some d, some (sz, _), some rws => (match get σ.b d with
    | none => guardB (eqLen n rws) (guardB (Nat.ble (Nat.mul n sz) 16777216) (guardB (allLen sz rws) (guardB (nodB (gams (flat rws))) (guardB (notB (memB d (gams (flat rws)))) (.side (allC (wfS σ.b (fullL (flat rws))) (flat rws)) (someR (mapRs σ.b rws) fun rs =>
      bR ((d, .one (.h d n)) :: σ.t) (pset (killAll σ.b (gams (flat rws))) d (.arr (fullL (flat rws)) sz 0 rs))))))))
    | some _ => .fail)
  | _, _, _ => .fail
def makR (F : TT) (σ : St) (t : Nat) (l c : Operand) (d : Option Tmp) : R := match d, F_esI F t, F_zrow F t, ev σ l, ev σ c with
  | some d, some (sz, by_), some zrow, some (.one (.b (.s (.int _ n)))), some (.one (.b (.s (.int _ n')))) => (match get σ.b d with
    | none => guardB (eqLen sz zrow) (.side (n = n') (.side (0 ≤ n) (.side (n * by_ ≤ 281474976710656) (.side (n ≤ 9223372036854775807) (bR ((d, .one (.h d n.toNat)) :: σ.t) (pset σ.b d (.arr true sz 0 (List.replicate n.toNat zrow))))))))
    | some _ => .fail)
  | _, _, _, _, _ => .fail
def opR (g : Bool) (F : TT) (σ : St) (o : Oper) : R := match o.op with
  | .move x => evR σ x fun av => valR σ o.dst av
  | .assign x => evR σ x fun av => valR σ o.dst av
  | .pick c x y => (match ev σ c with | some (.one (.b (.s (.bool t)))) => .br t (evR σ x fun av => valR σ o.dst av) (evR σ y fun av => valR σ o.dst av) | _ => .fail)
  | .load t x => (match ev σ x, F_lay F t with
    | some av, some (ag, n) => cellsR σ av fun cs => (match ag with
      | true => guardB (leLen n cs) (someR (force (cs.take n)) fun cs => valR σ o.dst (.agg cs))
      | false => (match cs with | [] => .fail | c :: _ => valR σ o.dst (.one c)))
    | _, _ => .fail)
  | .binOp op t x y _ => (match ev σ x, ev σ y with
    | some (.one (.b (.s (.bool a)))), some (.one (.b (.s (.bool b)))) => guardB (F_boo F t) (match op with | .eql => valR σ o.dst (sV (.bool (a == b))) | .neq => valR σ o.dst (sV (.bool (!(a == b)))) | _ => .fail)
    | some (.one (.b (.s u))), some (.one (.b (.s v))) => binR op u v fun r => valR σ o.dst (sV r)
    | some (.one (.b (.l rows))), some (.one .nil) => someR (F_esz F t) fun _ => (match op with
      | .eql => .any (fun b => b = true → rows = []) fun b => valR σ o.dst (sV (.bool b))
      | .neq => .any (fun b => b = true → rows = []) fun b => valR σ o.dst (sV (.bool (!b)))
      | _ => .fail)
    | some (.agg cs), some (.agg cs') => someR (F_cmp F t) fun ks => someR (scs cs) fun xs => someR (scs cs') fun ys => guardB (fitB ks xs) (guardB (fitB ks ys) (match op with
      | .eql => valR σ o.dst (sV (.bool (eqVs xs ys)))
      | .neq => valR σ o.dst (sV (.bool (!(eqVs xs ys))))
      | _ => .fail))
    | _, _ => .raw g σ o)
  | .unOp op _ x => (match op, ev σ x with
    | .not, some (.one (.b (.s (.bool b)))) => valR σ o.dst (sV (.bool (!b)))
    | .neg, some (.one (.b (.s (.int k n)))) => valR σ o.dst (sV (.int k (k.wrap (0 - n))))
    | _, _ => .fail)
  | .convert s d x => (match ev σ x, F_ik F d with
    | some (.one (.b (.s (.int _ n)))), some k => guardB (F_und F s) (valR σ o.dst (sV (.int k (k.wrap n))))
    | _, _ => .raw g σ o)
  | .fieldAddr s x f => (match ev σ x, F_foff F s f with
    | some (.one (.b (.p row))), some off => guardB (leLen off row) (someR (force (row.drop off)) fun row => valR σ o.dst (.one (.b (.p row))))
    | some (.one (.a β i)), some off => valR σ o.dst (.one (.a β (i + off)))
    | some (.one (.e β m i k)), some off => valR σ o.dst (.one (.e β m i (k + off)))
    | _, _ => .fail)
  | .field s x f => (match ev σ x, F_fld F s f with
    | some (.agg cs), some (true, off, n) => guardB (leLen (Nat.add off n) cs) (someR (force ((cs.drop off).take n)) fun cs => valR σ o.dst (.agg cs))
    | some (.agg cs), some (false, off, _) => someR (nth cs off) fun c => valR σ o.dst (.one c)
    | _, _ => .fail)
  | .indexAddr t x i => (match ev σ x, ev σ i, F_esz F t with
    | some (.one (.b (.l rows))), some (.one (.b (.s (.int _ n)))), some sz => .side (0 ≤ n) (.row rows n.toNat fun row => .side (row.length = sz) (valR σ o.dst (.one (.b (.p row)))))
    | some (.one (.h β m)), some (.one (.b (.s (.int _ n)))), some sz => (match get σ.b β with
      | some (.arr _ _ _ rows) => .side (m = rows.length) (.side (0 ≤ n) (.row rows n.toNat fun row => .side (row.length = sz) (valR σ o.dst (.one (.e β m n.toNat 0)))))
      | _ => .fail)
    | _, _, _ => .raw g σ o)
  | .index t x i => (match ev σ x, ev σ i with
    | some (.one (.b (.s (.string s)))), some (.one (.b (.s (.int _ n)))) => guardB (F_str F t) (.side (0 ≤ n) (.byte s n.toNat fun b => valR σ o.dst (sV (.int .u8 b.toNat))))
    | _, _ => .fail)
  | .slice t x lo hi none => (match ev σ x, intR? lo σ, intR? hi σ with
    | some (.one (.b (.s (.string s)))), some l, some h => guardB (F_str F t) (.side (0 ≤ l.getD 0) (.side (l.getD 0 ≤ h.getD s.size) (.side (h.getD s.size ≤ s.size) (valR σ o.dst (sV (.string (s.extract (l.getD 0).toNat (h.getD s.size).toNat)))))))
    | some (.one (.b (.l rows))), some l, some h => someR (F_esz F t) fun sz => .side (l.getD 0 = 0 ∨ ∀ row ∈ rows, row.length = sz) (.side (0 ≤ l.getD 0) (.side (l.getD 0 ≤ h.getD rows.length) (.side (h.getD rows.length ≤ rows.length) (valR σ o.dst (.one (.b (.l ((rows.take (h.getD rows.length).toNat).drop (l.getD 0).toNat))))))))
    | _, _, _ => .raw g σ o)
  | .extract x i => (match ev σ x with | some (.tup vs) => someR (nth vs i) fun av => valR σ o.dst av | _ => .fail)
  | .makeFunc (.func f) first caps => (match first.toList, caps.toList with
    | [x], [] => (match ev σ x with
      | some (.one (.a β off)) => valR σ o.dst (.one (.cm f β off))
      | some (.one (.b c)) => valR σ o.dst (.one (.b (.m f false [c])))
      | some (.agg cs) => someR (allB cs) fun l => valR σ o.dst (.one (.b (.m f true l)))
      | _ => .fail)
    | [], _ => (match capsR σ caps.toList with | some cs => valR σ o.dst (.one (.cl f cs)) | none => someR (capsB σ caps.toList) fun cs => valR σ o.dst (.one (.b (.f f cs))))
    | _, _ => .fail)
  | .build t ps => (match F_zeroB F t with
    | some z => someR (fillR F σ t z ps.toList) fun cs => valR σ o.dst (.agg cs)
    | none => .raw g σ o)
  | .alloc e => (match F_zero F e with | some z => guardB (ntupB z) (varR σ o.dst (avCells z)) | none => .fail)
  | .box _ x => (match ev σ x with | some z => guardB (ntupB z) (varR σ o.dst (avCells z)) | none => .fail)
  | .store t p x => (match o.dst, ev σ p, ev σ x with
    | none, some pv, some xv => storeR F σ t pv xv
    | _, _, _ => .fail)
  | .buildSlice t n ps => litR F σ t n ps.toList o.dst
  | .makeSlice t l c => makR F σ t l c o.dst
  | .call c => callR g F σ o c
  | .nilCheck x => evR σ x fun av => (match av with | .one (.b (.p row)) => valR σ o.dst (.one (.b (.p row))) | .one (.a β off) => valR σ o.dst (.one (.a β off)) | .one (.e β m i k) => valR σ o.dst (.one (.e β m i k)) | _ => .fail)
  | _ => .raw g σ o
end Go.Sx
end
