/- WHAT IS PROVED: parts of the proof of FnExactPackEvent: what each Go function that it reaches answers, and plain lemmas; no condition beyond those that each theorem names. -/
import Derived.Laws.Bits64
import Derived.Deep.Slices
import Derived.ChangeArms
import Derived.WideShapes
import Derived.Test.YtkeojolmapcgbaaCPack6
section
namespace Go.Proofs.Ytkeojolmapcgbaa.PEv
open Go.RowKit Go.Proofs.YtkeojolmapcgbaaW.PrintWords Go.Proofs.YtkeojolmapcgbaaW.PrintLast Go.Proofs.Ytkeojolmapcgbaa.Plain
def byteAt (n : Int) (i : Nat) : Int := n / 2 ^ (8 * i) % 256
def pn (n : Int) : List Int := [byteAt n 7, byteAt n 6, byteAt n 5, byteAt n 4, byteAt n 3, byteAt n 2, byteAt n 1, byteAt n 0]
theorem pn_length (n : Int) : (pn n).length = 8 := rfl
theorem shr_u (n : Int) (i : Nat) (hi : i ≤ 7) : shr .u64 (IntKind.u64.wrap n) (IntKind.u64.wrap (wrap64 (8 * (i : Int)))) % 256 = byteAt n i := by
  rw [wrap_id (by omega) (by omega), IntKind.wrap_u64, IntKind.wrap_u64]
  unfold shr byteAt
  have : i = 0 ∨ i = 1 ∨ i = 2 ∨ i = 3 ∨ i = 4 ∨ i = 5 ∨ i = 6 ∨ i = 7 := by omega
  rcases this with rfl | rfl | rfl | rfl | rfl | rfl | rfl | rfl <;> simp [IntKind.bits] <;> omega
theorem shr_i (n : Int) (i : Nat) (hi : i ≤ 7) : shr .i64 n (wrap64 (56 - wrap64 (8 * ((7 - i : Nat) : Int)))) % 256 = byteAt n i := by
  have h7 : ((7 - i : Nat) : Int) = 7 - (i : Int) := by omega
  rw [h7, wrap_id (i := 8 * (7 - (i : Int))) (by omega) (by omega), wrap_id (by omega) (by omega)]
  unfold shr byteAt
  have : i = 0 ∨ i = 1 ∨ i = 2 ∨ i = 3 ∨ i = 4 ∨ i = 5 ∨ i = 6 ∨ i = 7 := by omega
  rcases this with rfl | rfl | rfl | rfl | rfl | rfl | rfl | rfl <;> simp [IntKind.bits]
theorem spec_pn (n : Int) : Ev (fun k => spec_PackNumber.f k n) (pn n) := by
  unfold spec_PackNumber.f
  have st : ∀ (i : Nat) (xs : List Int), i ≤ 7 → xs.length ≤ 8 → ∀ k, spec_PackNumber.l0 (k + 1) n xs (i : Int) = spec_PackNumber.l0 k n (xs ++ [byteAt n i]) ((i : Int) - 1) := fun i xs hi hx k => by
    simp only [spec_PackNumber.l0]
    rw [if_pos (by omega), if_pos (by rw [wrap_id (by omega) (by omega), IntKind.wrap_u64]; omega), if_pos (by omega), shr_u n i hi, wrap_id (by omega) (by omega)]
  refine Ev.step (st 7 [] (by omega) (by simp)) (Ev.step (st 6 _ (by omega) (by simp)) (Ev.step (st 5 _ (by omega) (by simp)) (Ev.step (st 4 _ (by omega) (by simp)) (Ev.step (st 3 _ (by omega) (by simp)) (Ev.step (st 2 _ (by omega) (by simp)) (Ev.step (st 1 _ (by omega) (by simp)) (Ev.step (st 0 _ (by omega) (by simp)) (Ev.step (f := fun _ => some (pn n)) (fun k => ?_) (Ev.now _)))))))))
  simp only [spec_PackNumber.l0]
  rw [if_neg (by omega)]
  rfl
theorem impl_pn (n : Int) : Ev (fun k => impl_PackNumber.f k n) (pn n) := by
  unfold impl_PackNumber.f
  have h8 : (8 : Nat) ≤ 281474976710656 := by omega
  simp only [Option.bind_some, if_pos h8]
  have st : ∀ (i : Nat) (xs : List Int), i ≤ 7 → xs.length = 8 → ∀ k, impl_PackNumber.l0 (k + 1) n xs 8 ((7 - i : Nat) : Int) = impl_PackNumber.l0 k n (xs.set (7 - i) (byteAt n i)) 8 (((7 - i : Nat) : Int) + 1) := fun i xs hi hx k => by
    simp only [impl_PackNumber.l0]
    rw [if_pos (by omega), if_pos (by rw [wrap_id (i := 8 * _) (by omega) (by omega), wrap_id (by omega) (by omega)]; omega), if_pos (by omega), if_pos (by omega), shr_i n i hi, wrap_id (by omega) (by omega), Int.toNat_natCast]
  refine Ev.step (st 7 _ (by omega) (by simp)) (Ev.step (st 6 _ (by omega) (by simp)) (Ev.step (st 5 _ (by omega) (by simp)) (Ev.step (st 4 _ (by omega) (by simp)) (Ev.step (st 3 _ (by omega) (by simp)) (Ev.step (st 2 _ (by omega) (by simp)) (Ev.step (st 1 _ (by omega) (by simp)) (Ev.step (st 0 _ (by omega) (by simp)) (Ev.step (f := fun _ => some (pn n)) (fun k => ?_) (Ev.now _)))))))))
  simp only [impl_PackNumber.l0]
  rw [if_neg (by omega)]
  rfl
def pl (x : S138) : List Int := [x.f0 % 256, x.f1 % 256, x.f2 % 256] ++ pn x.f3
def pc (id : Int) (l : List S138) : List Int := pn id ++ l.flatMap pl
def pe (v : Bool) (id : Int) (l : List S138) (o : Int) : List Int := if v = true then 1 :: pc id l else 2 :: (pn id ++ [o % 256])
theorem pl_length (x : S138) : (pl x).length = 11 := rfl
theorem flat_length (l : List S138) : (l.flatMap pl).length = 11 * l.length := by
  induction l with
  | nil => rfl
  | cons x l ih => rw [List.flatMap_cons, List.length_append, ih, pl_length, List.length_cons]; omega
theorem pc_length (id : Int) (l : List S138) : (pc id l).length = 8 + 11 * l.length := by
  unfold pc; rw [List.length_append, flat_length, pn_length]
theorem take_flat (l : List S138) (i : Nat) (hi : i < l.length) : (l.take (i + 1)).flatMap pl = (l.take i).flatMap pl ++ pl l[i] := by
  rw [List.take_succ_eq_append_getElem hi, List.flatMap_append]
  simp
theorem spec_pc (id : Int) (l : List S138) (hl : (l.length : Int) ≤ 1048576) : Ev (fun k => spec_l3Contract.f k id l) (pc id l) := by
  unfold spec_l3Contract.f
  refine Ev.bind (spec_pn id) ?_
  have key := climb (P := fun j => ∀ i : Nat, (i : Int) = j → Ev (fun k => spec_l3Contract.l0 k (pn id ++ (l.take i).flatMap pl) j id l) (pc id l)) l.length ?_ ?_ 0 (Nat.zero_le _)
  · simpa using key 0 rfl
  · intro i hi
    obtain rfl : i = l.length := by omega
    refine Ev.step (f := fun _ => some (pc id l)) (fun k => ?_) (Ev.now _)
    simp only [spec_l3Contract.l0]
    rw [if_neg (by omega), List.take_length]
    rfl
  · intro i hi ih m hm
    obtain rfl : m = i := by omega
    have hlen : (pn id ++ (l.take m).flatMap pl).length = 8 + 11 * m := by
      rw [List.length_append, flat_length, pn_length, List.length_take]; omega
    refine Ev.step (f := fun k => (spec_PackNumber.f k l[m].f3).bind fun t => if (pn id ++ (l.take m).flatMap pl ++ [l[m].f0 % 256, l[m].f1 % 256, l[m].f2 % 256]).length + t.length < 140737488355328 then spec_l3Contract.l0 k (pn id ++ (l.take m).flatMap pl ++ [l[m].f0 % 256, l[m].f1 % 256, l[m].f2 % 256] ++ t) ((m : Int) + 1) id l else none) (fun k => ?_) (Ev.bind (spec_pn _) ?_)
    · simp only [spec_l3Contract.l0]
      rw [if_pos (by omega), if_pos (by omega), rdT l m hi]
      simp only [Option.bind_some]
      rw [if_pos (by rw [hlen]; simp; omega), wrap_id (by omega) (by omega)]
    · have e : pn id ++ (l.take m).flatMap pl ++ [l[m].f0 % 256, l[m].f1 % 256, l[m].f2 % 256] ++ pn l[m].f3 = pn id ++ (l.take (m + 1)).flatMap pl := by
        rw [take_flat l m hi]; simp [pl]
      have hlt : (pn id ++ (l.take m).flatMap pl ++ [l[m].f0 % 256, l[m].f1 % 256, l[m].f2 % 256]).length + (pn l[m].f3).length < 140737488355328 := by
        rw [List.length_append, hlen, pn_length]; simp; omega
      simp only [if_pos hlt]
      rw [e]
      exact ih (m + 1) (by simp)
theorem impl_pc (id : Int) (l : List S138) (hl : (l.length : Int) ≤ 1048576) : Ev (fun k => impl_packContract.f k id l) (pc id l) := by
  unfold impl_packContract.f
  refine Ev.bind (impl_pn id) ?_
  have key := climb (P := fun j => ∀ i : Nat, (i : Int) = j → Ev (fun k => impl_packContract.l0 k (pn id ++ (l.take i).flatMap pl) l l.length j) (pc id l)) l.length ?_ ?_ 0 (Nat.zero_le _)
  · simpa using key 0 rfl
  · intro i hi
    obtain rfl : i = l.length := by omega
    refine Ev.step (f := fun _ => some (pc id l)) (fun k => ?_) (Ev.now _)
    simp only [impl_packContract.l0]
    rw [if_neg (by omega), List.take_length]
    rfl
  · intro i hi ih m hm
    obtain rfl : m = i := by omega
    have hlen : (pn id ++ (l.take m).flatMap pl).length = 8 + 11 * m := by
      rw [List.length_append, flat_length, pn_length, List.length_take]; omega
    refine Ev.step (f := fun k => (impl_PackNumber.f k l[m].f3).bind fun t => if (pn id ++ (l.take m).flatMap pl ++ [l[m].f0 % 256, l[m].f1 % 256, l[m].f2 % 256]).length + t.length < 140737488355328 then impl_packContract.l0 k (pn id ++ (l.take m).flatMap pl ++ [l[m].f0 % 256, l[m].f1 % 256, l[m].f2 % 256] ++ t) l l.length ((m : Int) + 1) else none) (fun k => ?_) (Ev.bind (impl_pn _) ?_)
    · simp only [impl_packContract.l0]
      rw [if_pos (by omega), if_pos (by omega), if_pos (by omega), rdT l m hi]
      simp only [Option.bind_some]
      rw [if_pos (by rw [hlen]; simp; omega), wrap_id (by omega) (by omega)]
    · have e : pn id ++ (l.take m).flatMap pl ++ [l[m].f0 % 256, l[m].f1 % 256, l[m].f2 % 256] ++ pn l[m].f3 = pn id ++ (l.take (m + 1)).flatMap pl := by
        rw [take_flat l m hi]; simp [pl]
      have hlt : (pn id ++ (l.take m).flatMap pl ++ [l[m].f0 % 256, l[m].f1 % 256, l[m].f2 % 256]).length + (pn l[m].f3).length < 140737488355328 := by
        rw [List.length_append, hlen, pn_length]; simp; omega
      simp only [if_pos hlt]
      rw [e]
      exact ih (m + 1) (by simp)
theorem spec_pe (v : Bool) (id : Int) (l : List S138) (o : Int) (hl : (l.length : Int) ≤ 1048576) : Ev (fun k => spec_l14Pack.f k v id l o) (pe v id l o) := by
  unfold spec_l14Pack.f pe
  cases v with
  | true =>
    simp only [if_true, Option.bind_some]
    refine Ev.bind (spec_pc id l hl) ?_
    have hlt : ([1] : List Int).length + (pc id l).length < 140737488355328 := by rw [pc_length]; simp; omega
    simp only [if_pos hlt]
    exact Ev.now _
  | false =>
    have e : ¬ (false = true) := by decide
    simp only [if_neg e, Option.bind_some]
    exact Ev.bind (spec_pn id) (Ev.now _)
theorem impl_pe (v : Bool) (id : Int) (l : List S138) (o : Int) (hl : (l.length : Int) ≤ 1048576) : Ev (fun k => impl_packEvent.f k v id l o) (pe v id l o) := by
  unfold impl_packEvent.f pe
  cases v with
  | true =>
    simp only [if_true, Option.bind_some]
    refine Ev.bind (impl_pc id l hl) ?_
    have hlt : ([1] : List Int).length + (pc id l).length < 140737488355328 := by rw [pc_length]; simp; omega
    simp only [if_pos hlt]
    exact Ev.now _
  | false =>
    have e : ¬ (false = true) := by decide
    simp only [if_neg e, Option.bind_some]
    exact Ev.bind (impl_pn id) (Ev.now _)
def mkLeg (m : Int) : S138 := ⟨m, m + 1, m + 2, m + 3⟩
theorem getT_set (l : List S138) (i : Nat) (hi : i < l.length) (x : S138) : rd_T138 (l.set i x) (i : Int) = x := by
  rw [rdT _ i (by simp; exact hi)]
  simp
theorem mark_legs (l : List S138) (hl : (l.length : Int) ≤ 1048576) (m : Int) (h0 : 0 ≤ m) (hm : m ≤ 536870912) :
    Ev (fun k => laws_markLegS.f k l m) (m + 4 * l.length, (List.range l.length).map fun (j : Nat) => mkLeg (m + 4 * (j : Int))) := by
  unfold laws_markLegS.f
  refine mark_loop mkLeg 4 (fun k xs m i => laws_markLegS.l0 k xs m i) l.length (by omega) (by omega) (by omega) (fun k xs m i hx hi h0 hm => ?_) (fun k xs m hx => ?_) l rfl m h0 hm
  · simp only [laws_markLegS.l0]
    rw [if_pos (by omega), if_pos (by omega)]
    simp only [Option.bind_some, Int.toNat_natCast]
    rw [getT_set _ i (by first | omega | (simp only [List.length_set]; omega)), List.set_set, getT_set _ i (by first | omega | (simp only [List.length_set]; omega)), List.set_set, getT_set _ i (by first | omega | (simp only [List.length_set]; omega)), List.set_set]
    rw [wrap_id (i := m + 1) (by omega) (by omega), wrap_id (i := m + 1 + 1) (by omega) (by omega), wrap_id (i := m + 1 + 1 + 1) (by omega) (by omega), wrap_id (i := m + 1 + 1 + 1 + 1) (by omega) (by omega), wrap_id (i := (i : Int) + 1) (by omega) (by omega)]
    have e1 : m + 1 + 1 = m + 2 := by omega
    have e2 : m + 2 + 1 = m + 3 := by omega
    have e3 : m + 3 + 1 = m + 4 := by omega
    rw [e1, e2, e3]
    rfl
  · simp only [laws_markLegS.l0]
    rw [if_neg (by omega)]
theorem held_legs (n : Nat) (hl : (n : Int) ≤ 1048576) (m : Int) (h0 : 0 ≤ m) (hm : m ≤ 536870912) :
    Ev (fun k => laws_heldLegS.f k ((List.range n).map fun (j : Nat) => mkLeg (m + 4 * (j : Int))) m) (m + 4 * n) := by
  unfold laws_heldLegS.f
  have hlen : ((List.range n).map fun (j : Nat) => mkLeg (m + 4 * (j : Int))).length = n := by simp
  refine held_loop mkLeg 4 (fun k q i => laws_heldLegS.l0 k ((List.range n).map fun (j : Nat) => mkLeg (m + 4 * (j : Int))) q i) n (by omega) (by omega) (by omega) m h0 hm (fun k i hi hb0 hb hg => ?_) (fun k q => ?_)
  · have hx : rd_T138 ((List.range n).map fun (j : Nat) => mkLeg (m + 4 * (j : Int))) (i : Int) = mkLeg (m + 4 * (i : Int)) := by
      rw [rdT _ i (by rw [hlen]; exact hi)]
      simp
    simp only [laws_heldLegS.l0]
    rw [hlen, if_pos (by omega), if_pos (by omega), hx]
    rw [wrap_id (i := m + 4 * (i : Int) + 1) (by omega) (by omega), wrap_id (i := m + 4 * (i : Int) + 1 + 1) (by omega) (by omega), wrap_id (i := m + 4 * (i : Int) + 1 + 1 + 1) (by omega) (by omega), wrap_id (i := m + 4 * (i : Int) + 1 + 1 + 1 + 1) (by omega) (by omega), wrap_id (i := (i : Int) + 1) (by omega) (by omega)]
    have e1 : m + 4 * (i : Int) + 1 + 1 = m + 4 * (i : Int) + 2 := by omega
    have e2 : m + 4 * (i : Int) + 2 + 1 = m + 4 * (i : Int) + 3 := by omega
    have e3 : m + 4 * (i : Int) + 3 + 1 = m + 4 * (i : Int) + 4 := by omega
    rw [e1, e2, e3]
    simp only [mkLeg, if_true]
  · simp only [laws_heldLegS.l0]
    rw [hlen, if_neg (by omega)]
theorem mark_event (v : Bool) (id : Int) (l : List S138) (o : Int) (hl : (l.length : Int) ≤ 1048576) (m : Int) (h0 : 0 ≤ m) (hm : m ≤ 536870912) :
    Ev (fun k => laws_markEvent.f k v id l o m) (m + 4 * l.length, (List.range l.length).map fun (j : Nat) => mkLeg (m + 4 * (j : Int))) := by
  unfold laws_markEvent.f laws_markContract.f
  exact Ev.bind (Ev.bind (mark_legs l hl m h0 hm) (Ev.now _)) (Ev.now _)
def mkB (m : Int) : Int := m % 256
theorem mark_bytes (l : List Int) (hl : (l.length : Int) ≤ 1048576) (m : Int) (h0 : 0 ≤ m) (hm : m ≤ 536870912) :
    Ev (fun k => laws_markByteS.f k l m) (m + 1 * l.length, (List.range l.length).map fun (j : Nat) => mkB (m + 1 * (j : Int))) := by
  unfold laws_markByteS.f
  refine mark_loop mkB 1 (fun k xs m i => laws_markByteS.l0 k xs m i) l.length (by omega) (by omega) (by omega) (fun k xs m i hx hi h0 hm => ?_) (fun k xs m hx => ?_) l rfl m h0 hm
  · simp only [laws_markByteS.l0]
    rw [if_pos (by omega), if_pos (by omega), Int.toNat_natCast, wrap_id (by omega) (by omega), wrap_id (by omega) (by omega)]
    rfl
  · simp only [laws_markByteS.l0]
    rw [if_neg (by omega)]
theorem held_bytes (n : Nat) (hl : (n : Int) ≤ 1048576) (m : Int) (h0 : 0 ≤ m) (hm : m ≤ 536870912) :
    Ev (fun k => laws_heldByteS.f k ((List.range n).map fun (j : Nat) => mkB (m + 1 * (j : Int))) m) (m + 1 * n) := by
  unfold laws_heldByteS.f
  have hlen : ((List.range n).map fun (j : Nat) => mkB (m + 1 * (j : Int))).length = n := by simp
  refine held_loop mkB 1 (fun k q i => laws_heldByteS.l0 k ((List.range n).map fun (j : Nat) => mkB (m + 1 * (j : Int))) q i) n (by omega) (by omega) (by omega) m h0 hm (fun k i hi hb0 hb hg => ?_) (fun k q => ?_)
  · have hx : rd ((List.range n).map fun (j : Nat) => mkB (m + 1 * (j : Int))) (i : Int) = mkB (m + 1 * (i : Int)) := by
      unfold rd
      rw [Int.toNat_natCast, List.getD_eq_getElem?_getD, hg]
      rfl
    simp only [laws_heldByteS.l0]
    rw [hlen, if_pos (by omega), if_pos (by omega), hx, if_pos (show mkB (m + 1 * (i : Int)) = (m + 1 * (i : Int)) % 256 from rfl), wrap_id (by omega) (by omega), wrap_id (by omega) (by omega)]
  · simp only [laws_heldByteS.l0]
    rw [hlen, if_neg (by omega)]
theorem mark_bytesResult (c : Int) (l : List Int) (hl : (l.length : Int) ≤ 1048576) (m : Int) (h0 : 0 ≤ m) (hm : m ≤ 536870912) :
    Ev (fun k => laws_markBytesResult.f k c l m) (m + 1 * l.length, (List.range l.length).map fun (j : Nat) => mkB (m + 1 * (j : Int))) := by
  unfold laws_markBytesResult.f
  exact Ev.bind (mark_bytes l hl m h0 hm) (Ev.now _)
theorem held_bytesResult (c : Int) (n : Nat) (hl : (n : Int) ≤ 1048576) (m : Int) (h0 : 0 ≤ m) (hm : m ≤ 536870912) :
    Ev (fun k => laws_heldBytesResult.f k c ((List.range n).map fun (j : Nat) => mkB (m + 1 * (j : Int))) m) (m + 1 * n) := by
  unfold laws_heldBytesResult.f
  refine Ev.bind (held_bytes n hl m h0 hm) ?_
  have e : ¬ (m + 1 * (n : Int) < 0) := by omega
  simp only [if_neg e]
  exact Ev.now _
theorem eq_bytes (l : List Int) (hl : (l.length : Int) ≤ 1073741824) : Ev (fun k => laws_eqByteS.f k l l) true := by
  unfold laws_eqByteS.f
  exact Ev.congr (fun k => if_pos rfl) (eq_loop' l 0 id (fun k i => laws_eqByteS.l0 k l l i) (fun _ _ => rfl) (by omega))
theorem eq_bytesResult (c : Int) (l : List Int) (hl : (l.length : Int) ≤ 1073741824) : Ev (fun k => laws_eqBytesResult.f k c l c l) true := by
  unfold laws_eqBytesResult.f
  simp only [if_true]
  exact Ev.bind (eq_bytes l hl) (by simpa using Ev.now true)
end Go.Proofs.Ytkeojolmapcgbaa.PEv
end
section
namespace Go.Proofs.Ytkeojolmapcgbaa.Pure
open Go.RowKit Go.Proofs.Ytkeojolmapcgbaa.PEv Go.Proofs.YtkeojolmapcgbaaW.PrintWords Go.Proofs.YtkeojolmapcgbaaW.PrintLast Go.Proofs.Ytkeojolmapcgbaa.Plain
def packR (v : Bool) (id : Int) (l : List S138) (o : Int) : Int × List Int := if ef v id l o = 0 then (0, pe v id l o) else (ef v id l o, [])
theorem spec_pack (v : Bool) (id : Int) (l : List S138) (o : Int) (hl : (l.length : Int) ≤ 1048576) : Ev (fun k => spec_PackEvent.f k v id l o) (packR v id l o) := by
  unfold spec_PackEvent.f packR
  refine Ev.bind (spec_ef v id l o) ?_
  by_cases h : ef v id l o = 0
  · simp only [if_pos h]
    exact Ev.bind (spec_pe v id l o hl) (Ev.now _)
  · simp only [if_neg h]
    exact Ev.now _
theorem impl_pack (v : Bool) (id : Int) (l : List S138) (o : Int) (hl : (l.length : Int) ≤ 1048576) : Ev (fun k => impl_PackEvent.f k v id l o) (packR v id l o) := by
  unfold impl_PackEvent.f packR
  refine Ev.bind (impl_ef v id l o) ?_
  by_cases h : ef v id l o = 0
  · simp only [if_pos h]
    exact Ev.bind (impl_pe v id l o hl) (Ev.now _)
  · simp only [if_neg h]
    exact Ev.now _
theorem pack_short (v : Bool) (id : Int) (l : List S138) (o : Int) : ((packR v id l o).2.length : Int) ≤ 100 := by
  unfold packR
  by_cases h : ef v id l o = 0
  · rw [if_pos h]
    unfold pe
    cases v with
    | true =>
      have hc : cf id l = 0 := by
        unfold ef at h
        rw [if_pos rfl] at h
        by_cases hc : cf id l = 0
        · exact hc
        · rw [if_neg hc] at h; exact h
      have hl : l.length ≤ 8 := by
        unfold cf at hc
        by_cases h1 : 1 ≤ id ∧ id ≤ 1000000000
        · rw [if_pos h1] at hc
          by_cases h2 : 2 ≤ l.length ∧ l.length ≤ 8
          · exact h2.2
          · rw [if_neg h2] at hc; omega
        · rw [if_neg h1] at hc; omega
      rw [if_pos rfl]
      simp only [List.length_cons, pc_length]
      omega
    | false =>
      rw [if_neg (by decide)]
      simp [pn_length]
  · rw [if_neg h]
    simp
theorem FnExactPackEvent (v : Bool) (id : Int) (l : List S186) (o : Int) (h : True ∧ (((Lit.int .i64 id).wf = true ∧ (l.length ≤ maxLen ∧ ∀ a ∈ l, (Lit.int .i64 a.f0).wf = true ∧ (Lit.int .i64 a.f1).wf = true ∧ (Lit.int .i64 a.f2).wf = true ∧ (Lit.int .i64 a.f3).wf = true)) ∧ (Lit.int .i64 o).wf = true)) : ∃ k, laws_FnExactPackEvent.f k v id l o = some true := by
  have hl : l.length ≤ 9223372036854775807 := by have := h.2.1.2.1; unfold maxLen at this; omega
  refine Ev.rounds ?_
  unfold laws_FnExactPackEvent.f
  obtain ⟨t, ht, hor⟩ := sz_event v id l o hl 1048576 (by omega) (by omega)
  refine Ev.bind ht ?_
  by_cases hneg : t < 0
  · simp only [if_pos hneg]
    exact Ev.now _
  · simp only [if_neg hneg]
    have h1 : (l.length : Int) ≤ 1048576 := by
      rcases hor with h | h
      · omega
      · exact h.2.2
    have h1' : ((l.map conv).length : Int) ≤ 1048576 := by rw [List.length_map]; exact h1
    have hT := to_event v id l o h1
    have hS := spec_pack v id (l.map conv) o h1'
    have hI := impl_pack v id (l.map conv) o h1'
    have hB := pack_short v id (l.map conv) o
    generalize packR v id (l.map conv) o = R at hS hI hB
    have hE := eq_bytesResult R.1 R.2 (by omega)
    refine Ev.bind hT (Ev.bind hS (Ev.bind hT (Ev.bind hI (Ev.bind hE ?_))))
    simp only [if_true]
    refine Ev.bind hT (Ev.bind (eq_event _ _ _ _ h1') ?_)
    simp only [if_true]
    refine Ev.bind (mark_event v id (l.map conv) o h1' 1 (by omega) (by omega)) ?_
    have hk : ¬ ((1 : Int) + 4 * ((l.map conv).length : Int) < 0) := by omega
    simp only [if_neg hk]
    refine Ev.bind hE ?_
    refine Ev.step (fun k => by simp only [laws_FnExactPackEvent.j0, Bool.not_true, Bool.false_eq_true, if_false]; rfl) ?_
    have hM := mark_bytesResult R.1 R.2 (by omega) 1 (by omega) (by omega)
    have hH := held_bytesResult R.1 R.2.length (by omega) 1 (by omega) (by omega)
    have hq : ¬ ((1 : Int) + 1 * (R.2.length : Int) < 0) := by omega
    refine Ev.bind hM (Ev.bind hH ?_)
    simp only [if_neg hq, if_true]
    refine Ev.bind hT (Ev.bind hI (Ev.bind hE ?_))
    simp only [if_true]
    refine Ev.bind hH ?_
    simp only [if_neg hq, if_true]
    exact Ev.now _
end Go.Proofs.Ytkeojolmapcgbaa.Pure
end
section
namespace Go.Proofs.Ytkeojolmapcgbaa.Bridge
open Go.RowKit Go.ChangeShapes Go.WideShapes Go.Deep Go.Proofs.YtkeojolmapcgbaaW.PrintWords
structure Opens (P : Program) (t : TypeId) {α : Type} (d : Kd α) (G : α → Prop) : Prop where
  sz : P.cellsOf t = d.sz
  get : ∀ {H : Type} (enc : TypeId × Value → H) (w : World) (base : Nat) (spare : Nat → Bool) (held : Bool) (fuel : Nat) (cs : List Value) (x : DataW H × List MemPlace), DataW.trod enc P w base spare held fuel t cs = some x → ∃ a, d.K w a cs ∧ G a
section
variable {P : Program} {α β : Type} {t e : TypeId}
theorem opens_int {k : IntKind} (ht : P.underlying t = some (.int k)) (hc : P.cellsOf t = 1) : Opens P t (Kd.int k) (fun n => (Lit.int k n).wf = true) :=
  ⟨hc, fun enc w base spare held fuel cs x h => by obtain ⟨n, rfl, _, hw⟩ := DataW.trod_int ht h; exact ⟨n, rfl, hw⟩⟩
theorem opens_bool (ht : P.underlying t = some .bool) (hc : P.cellsOf t = 1) : Opens P t Kd.bool (fun _ => True) :=
  ⟨hc, fun enc w base spare held fuel cs x h => by obtain ⟨b, rfl, _⟩ := DataW.trod_bool ht h; exact ⟨b, rfl, trivial⟩⟩
theorem reads_list {d : Kd α} {G : α → Prop} {w : World} {ad : Addr} {n : Nat} (hn : n ≤ 9223372036854775807)
    (h : ∀ i, i < n → ∃ a c, c.length = d.sz ∧ d.K w a c ∧ G a ∧ ∀ j, j < d.sz → w.cell? ((ad.add (i * d.sz)).add j) = c[j]?) :
    ∃ l : List α, l.length = n ∧ d.C w (some ad) n l ∧ ∀ a ∈ l, G a := by
  classical
  have key : ∀ m, m ≤ n → ∃ l : List α, l.length = m ∧ (∀ j p, l[j]? = some p → ∃ c, c.length = d.sz ∧ d.K w p c ∧ ∀ i u, c[i]? = some u → w.cell? (ad.add (j * d.sz + i)) = some u) ∧ ∀ a ∈ l, G a := by
    intro m
    induction m with
    | zero => exact fun _ => ⟨[], rfl, fun j p hj => by simp at hj, fun a ha => by cases ha⟩
    | succ m ih =>
      intro hm
      obtain ⟨l, hl, hc, hG⟩ := ih (by omega)
      obtain ⟨a, c, hs, hK, hg, hcell⟩ := h m (by omega)
      refine ⟨l ++ [a], by simp [hl], fun j p hj => ?_, fun b hb => ?_⟩
      · rcases Nat.lt_or_ge j l.length with hjl | hjl
        · rw [List.getElem?_append_left hjl] at hj
          exact hc j p hj
        · have hj' : j = l.length := by
            have := (List.getElem?_eq_some_iff.1 hj).1
            rw [List.length_append, List.length_singleton] at this
            omega
          subst hj'
          have hp : a = p := by simpa using hj
          subst hp
          refine ⟨c, hs, hK, fun i u hu => ?_⟩
          have hi : i < d.sz := by rw [← hs]; exact (List.getElem?_eq_some_iff.1 hu).1
          have := hcell i hi
          rw [Go.Deep.add_add, ← hl] at this
          rw [this, hu]
      · rcases List.mem_append.1 hb with hb | hb
        · exact hG b hb
        · rw [List.mem_singleton.1 hb]; exact hg
  obtain ⟨l, hl, hc, hG⟩ := key n (Nat.le_refl _)
  exact ⟨l, hl, ⟨hl, hn, fun _ => ⟨ad, rfl, hc⟩⟩, hG⟩
theorem opens_row {d : Kd α} {G : α → Prop} (ht : P.underlying t = some (.slice e)) (he : Opens P e d G)
    {H : Type} (enc : TypeId × Value → H) (w : World) (base : Nat) (spare : Nat → Bool) (held : Bool) (fuel : Nat) (cs : List Value) (x : DataW H × List MemPlace) (h : DataW.trod enc P w base spare held fuel t cs = some x) :
    ∃ (l : List α) (A : Option Addr) (c : Nat), cs = [.slice A l.length c] ∧ l.length ≤ c ∧ d.C w A l.length l ∧ (l.length ≤ maxLen ∧ ∀ a ∈ l, G a) := by
  rcases open_slice ht h with ⟨rfl, _⟩ | ⟨a, len, cap, m, n, D, Pl, rfl, hb, hl, hm, hmm, rfl, hx⟩
  · exact ⟨[], none, 0, rfl, Nat.le_refl _, Kd.C_nil d w, by simp, fun a ha => by cases ha⟩
  · have hlm : len ≤ m := by rw [hmm]; split <;> omega
    have hmax : len ≤ 9223372036854775807 := by have := hm; unfold maxLen at this; omega
    obtain ⟨l, hl', hC, hG⟩ := reads_list (d := d) (G := G) (w := w) (ad := a) (n := len) hmax (fun i hi => by
      obtain ⟨cs', h1, h2⟩ := hx i (by omega)
      obtain ⟨b, hK, hg⟩ := he.get enc w base spare held n cs' _ h2
      rw [he.sz] at h1
      obtain ⟨_, hlen, hcell⟩ := World.cells?_some h1
      exact ⟨b, cs', hlen, hK, hg, hcell⟩)
    subst hl'
    exact ⟨l, some a, cap, rfl, hl, hC, by omega, hG⟩
theorem opens_slice {d : Kd α} {G : α → Prop} (ht : P.underlying t = some (.slice e)) (hc : P.cellsOf t = 1) (he : Opens P e d G) : Opens P t (Kd.slice e d) (fun l => l.length ≤ maxLen ∧ ∀ a ∈ l, G a) :=
  ⟨hc, fun enc w base spare held fuel cs x h => by
    obtain ⟨l, A, c, rfl, hl, hC, hG⟩ := opens_row ht he enc w base spare held fuel cs x h
    exact ⟨l, ⟨A, c, rfl, hl, hC⟩, hG⟩⟩
inductive Laid (P : Program) : Nat → List Field → Prop
  | nil (o : Nat) : Laid P o []
  | cons {o : Nat} {f : Field} {fs : List Field} : f.offset = o → Laid P (o + P.cellsOf f.type) fs → Laid P o (f :: fs)
def OpensF (P : Program) (fs : List Field) {α : Type} (d : Kd α) (G : α → Prop) : Prop :=
  ∀ {H : Type} (enc : TypeId × Value → H) (w : World) (base : Nat) (spare : Nat → Bool) (held : Bool) (fuel : Nat) (cs : List Value), cs.length = d.sz →
    (∀ (i : Nat) (f : Field), fs[i]? = some f → ∃ x, DataW.trod enc P w base spare held fuel f.type ((cs.drop (((fs.take i).map fun g => P.cellsOf g.type).sum)).take (P.cellsOf f.type)) = some x) →
    ∃ a, d.K w a cs ∧ G a
theorem opensF_one {f : Field} {d : Kd α} {G : α → Prop} (h : Opens P f.type d G) : OpensF P [f] d G := by
  intro H enc w base spare held fuel cs hl hx
  obtain ⟨x, hx⟩ := hx 0 f rfl
  simp only [List.take_zero, List.map_nil, List.sum_nil, List.drop_zero] at hx
  rw [h.sz, ← hl, List.take_length] at hx
  exact h.get enc w base spare held fuel cs x hx
theorem opensF_cons {f : Field} {fs : List Field} {d : Kd α} {G : α → Prop} {d' : Kd β} {G' : β → Prop} (h : Opens P f.type d G) (h' : OpensF P fs d' G') : OpensF P (f :: fs) (Kd.pair d d') (fun x => G x.1 ∧ G' x.2) := by
  intro H enc w base spare held fuel cs hl hx
  have hl' : cs.length = d.sz + d'.sz := hl
  obtain ⟨x, hx0⟩ := hx 0 f rfl
  simp only [List.take_zero, List.map_nil, List.sum_nil, List.drop_zero] at hx0
  rw [h.sz] at hx0
  obtain ⟨a, hK, hG⟩ := h.get enc w base spare held fuel _ x hx0
  obtain ⟨b, hK', hG'⟩ := h' enc w base spare held fuel (cs.drop d.sz) (by rw [List.length_drop]; omega) (fun i g hi => by
    obtain ⟨y, hy⟩ := hx (i + 1) g (by simpa using hi)
    refine ⟨y, ?_⟩
    rw [List.drop_drop]
    simpa [h.sz] using hy)
  exact ⟨(a, b), ⟨cs.take d.sz, cs.drop d.sz, (List.take_append_drop _ _).symm, hK, hK'⟩, hG, hG'⟩
theorem laid_offset : ∀ {fs : List Field} {o : Nat}, Laid P o fs → ∀ (i : Nat) (f : Field), fs[i]? = some f → f.offset = o + ((fs.take i).map fun g => P.cellsOf g.type).sum
  | [], _, _, i, f, h => by simp at h
  | g :: fs, o, .cons h1 h2, 0, f, h => by
    have : g = f := by simpa using h
    subst this
    simp [h1]
  | g :: fs, o, .cons h1 h2, i + 1, f, h => by
    rw [laid_offset h2 i f (by simpa using h)]
    simp [Nat.add_assoc]
theorem opens_struct {fs : List Field} {d : Kd α} {G : α → Prop} {f : β → α} {g : α → β} (hfg : ∀ a, f (g a) = a) (ht : P.underlying t = some (.struct fs.toArray)) (hc : P.cellsOf t = d.sz) (hL : Laid P 0 fs) (hF : OpensF P fs d G) :
    Opens P t (Kd.iso d f) (fun x => G (f x)) :=
  ⟨hc, fun enc w base spare held fuel cs x h => by
    obtain ⟨xs, n, rfl, _, hl, hxs, hf⟩ := DataW.trod_struct ht h
    obtain ⟨a, hK, hG⟩ := hF enc w base spare held n cs (by rw [hl, hc]) (fun i f hi => by
      have hoff := laid_offset hL i f hi
      rw [Nat.zero_add] at hoff
      have h1 := hf i f (by simpa using hi)
      rw [hoff] at h1
      have hi' : i < xs.length := by
        rw [hxs]
        have := (List.getElem?_eq_some_iff.1 hi).1
        simpa using this
      exact ⟨xs[i], by rw [h1, List.getElem?_eq_getElem hi']⟩)
    refine ⟨g a, ?_, ?_⟩
    · show d.K w (f (g a)) cs
      rw [hfg]; exact hK
    · rw [hfg]; exact hG⟩
theorem arg_struct {fs : Array Field} {d : Kd α} {G : α → Prop} (ht : P.underlying t = some (.struct fs)) (he : Opens P t d G) {H : Type} {enc : TypeId × Value → H} {w : World} {r : Reach} {b : Nat} {v : Value} {dd : DataW H} {ps : List MemPlace}
    (hv : Value.okWide P w r b t v) (h : DataW.Trod enc P w 0 (fun _ => true) true t v dd ps) :
    ∃ (a : α) (cs : List Value), v = .agg cs.toArray ∧ d.K w a cs ∧ G a := by
  obtain ⟨cs, rfl, _⟩ := okWide_struct ht hv
  obtain ⟨fuel, hf⟩ := h
  obtain ⟨a, hK, hG⟩ := he.get enc w 0 _ true fuel _ _ hf
  exact ⟨a, cs.toList, by simp, by simpa [Value.cells] using hK, hG⟩
end
end Go.Proofs.Ytkeojolmapcgbaa.Bridge
end
