/- WHAT IS PROVED: FnExactPackEvent, for every argument of its parameters' types that can be read as data: the call returns true and its arguments read as before. No condition. -/
import Derived.Test.YtkeojolmapcgbaaRows
import Derived.WalkKit
import Derived.ProofKit
import Derived.OpenShut
import Derived.ShutString
import Derived.ChangeOld
import Derived.Below
import Derived.SizedLaws
import Derived.Test.YtkeojolmapcgbaaCPack7
section
namespace Go.Proofs.Ytkeojolmapcgbaa.fnExactPackEvent
open Go.ChangeShapes Go.WideShapes Go.ChangeAt Go.RowKit Go.Proofs.Ytkeojolmapcgbaa.Bridge Go.Proofs.Ytkeojolmapcgbaa.PEv Go.Proofs.YtkeojolmapcgbaaW.PrintWords
open Go.ChangeMaps (open_string shut_string)
theorem own : ownKnob Try.prog.godebug = none := by kernel_rfl
theorem laidOut : laidOutB Try.prog = true := by kernel_rfl
def g4 (_ : Bool) : Prop := True
theorem o4 : Opens Try.prog 4 Kd.bool g4 := by
  have h := opens_bool (P := Try.prog) Try.underlying4 (by kernel_rfl)
  exact h
def g2 (n : Int) : Prop := (Lit.int .i64 n).wf = true
theorem o2 : Opens Try.prog 2 (Kd.int .i64) g2 := by
  have h := opens_int (P := Try.prog) Try.underlying2 (by kernel_rfl)
  exact h
def G186 (x : S186) : Prop := g2 x.f0 ∧ (g2 x.f1 ∧ (g2 x.f2 ∧ (g2 x.f3)))
theorem O186 : Opens Try.prog 186 k186 G186 := by
  have h := opens_struct (P := Try.prog) (f := fun x : S186 => (x.f0, x.f1, x.f2, x.f3)) (g := fun p => (⟨p.1, p.2.1, p.2.2.1, p.2.2.2⟩ : S186)) (fun _ => rfl) Try.underlying186 (by kernel_rfl) (.cons (by kernel_rfl) (.cons (by kernel_rfl) (.cons (by kernel_rfl) (.cons (by kernel_rfl) (.nil _))))) (opensF_cons o2 (opensF_cons o2 (opensF_cons o2 (opensF_one o2))))
  exact ⟨h.sz, h.get⟩
def g22 (l : List (S186)) : Prop := l.length ≤ maxLen ∧ ∀ a ∈ l, G186 a
theorem o22 : Opens Try.prog 22 (Kd.slice 186 k186) g22 := by
  have h := opens_slice (P := Try.prog) Try.underlying22 (by kernel_rfl) O186
  exact h
def g24 (p : (Int) × (List (S186))) : Prop := g2 p.1 ∧ (g22 p.2)
theorem o24 : Opens Try.prog 24 (Kd.pair (Kd.int .i64) (Kd.slice 186 k186)) g24 := by
  have h := opens_struct (P := Try.prog) (f := fun x : (Int) × (List (S186)) => x) (g := fun x => x) (fun _ => rfl) Try.underlying24 (by kernel_rfl) (.cons (by kernel_rfl) (.cons (by kernel_rfl) (.nil _))) (opensF_cons o2 (opensF_one o22))
  exact ⟨h.sz, h.get⟩
def g26 (p : (Bool) × ((Int) × (List (S186))) × (Int)) : Prop := g4 p.1 ∧ (g24 p.2.1 ∧ (g2 p.2.2))
theorem o26 : Opens Try.prog 26 (Kd.pair Kd.bool (Kd.pair (Kd.pair (Kd.int .i64) (Kd.slice 186 k186)) (Kd.int .i64))) g26 := by
  have h := opens_struct (P := Try.prog) (f := fun x : (Bool) × ((Int) × (List (S186))) × (Int) => x) (g := fun x => x) (fun _ => rfl) Try.underlying26 (by kernel_rfl) (.cons (by kernel_rfl) (.cons (by kernel_rfl) (.cons (by kernel_rfl) (.nil _)))) (opensF_cons o4 (opensF_cons o24 (opensF_one o2)))
  exact ⟨h.sz, h.get⟩
set_option maxRecDepth 100000 in
theorem lifted (os : Os) (started : os.Started) (H : Type) (enc : TypeId × Value → H) :
    ReturnsInHanded {} Try.checked os 4 .any (Rows.fnExactPackEventSpec.pre6 enc Try.prog Try.f4 Rows.fnExactPackEventRow.domain false) (Rows.fnExactPackEventSpec.post enc Try.prog Try.f4 false true false false) := by
  refine returnsInHanded_of_change_sized (C := Try.checked) own started (by kernel_rfl) Try.func4
    (ChangeSpec.witness6 (enc := enc) (C := Try.checked) false ⟨#[], #[.agg #[.bool false, .int .i64 0, .slice none 0 0, .int .i64 0]], []⟩ 8 (by kernel_rfl) (by kernel_rfl) (by kernel_rfl) (by kernel_rfl)) ?_
  intro W base args ds gs before hval0 hW _ _ _
  have hval : ∀ (j : Nat) t v, Try.f4.params[j]? = some t → args[j]? = some v → Value.okWide Try.prog W .any base t v := hval0
  have hW' := hW
  obtain ⟨p, q, hA0, hV, rfl, hfz, hnd⟩ := hW
  have hA : DataW.TrodAll enc Try.prog W 0 (fun _ => true) true Try.f4.params.toList args.toList ds p := hA0
  rw [Try.params4] at hA hval
  obtain ⟨v0, vs0, d0, ds0, p0, q0, hargs, rfl, rfl, h0, r0⟩ := trodAll_cons hA
  obtain ⟨rfl, rfl, rfl⟩ := trodAll_nil r0
  obtain rfl : args = #[v0] := by cases args; simp_all
  obtain ⟨rfl, rfl⟩ := trodVars_none hV
  have k0 := h0
  have lt0 : ∀ x ∈ p0, x.block < W.heap.size := by obtain ⟨m, hm⟩ := k0; exact DataW.trod_lt m _ _ _ hm
  obtain ⟨x0, cs0, rfl, hK0, hG0⟩ := arg_struct Try.underlying26 o26 (hval 0 26 v0 rfl rfl) h0
  obtain ⟨_, _, rfl, rfl, ⟨_, _, rfl, ⟨_, _, rfl, rfl, ⟨A1, c1, rfl, hl1, hg1⟩⟩, rfl⟩⟩ := hK0
  clear hA0 hval0
  obtain ⟨k, hk⟩ := Pure.FnExactPackEvent x0.1 x0.2.1.1 x0.2.1.2 x0.2.2 hG0
  refine (laws_FnExactPackEvent.calls k x0.1 x0.2.1.1 A1 c1 x0.2.1.2 x0.2.2 true W hg1 hl1 hk).mono fun e W' ⟨he, bel⟩ => ?_
  subst he
  exact ⟨_, rfl, _, _, _, [], _, [], hW', trodAll_mk1 (shut_bool Try.underlying4 _), (trodAll_cons_mk (Below.trod laidOut (by kernel_rfl) (of_decide_eq_true (by kernel_rfl)) k0 bel lt0) trodAll_mk0), rfl, bel.frame _, fun h => by cases h⟩
theorem over : Rows.fnExactPackEventRow.holds Try.pinned (OpenSpec.ofChange Rows.fnExactPackEventSpec) :=
  OpenClaim.holds_of_wide 4 Try.f4 rfl rfl rfl rfl rfl rfl rfl ⟨rfl, rfl, rfl, rfl, rfl⟩ rfl rfl rfl rfl rfl (by kernel_rfl) Try.func4 (by kernel_rfl)
    (of_decide_eq_true (by kernel_rfl)) (by unfold Func.isWrapper; first | (rw [if_pos (by decide +kernel)]; kernel_rfl) | (rw [if_neg (by decide +kernel)]; exact ⟨rfl, rfl⟩))
    (fun os started H enc _ => lifted os started H enc)
theorem proved : Rows.FnExactPackEventSaid := over
end Go.Proofs.Ytkeojolmapcgbaa.fnExactPackEvent
namespace Go.Proofs.Ytkeojolmapcgbaa
theorem fnExactPackEvent_holds : Rows.FnExactPackEventSaid := fnExactPackEvent.proved
end Go.Proofs.Ytkeojolmapcgbaa
end
