/- WHAT IS PROVED: FnExactSessionsFault, for every argument of its parameters' types that can be read as data: the call returns true and its arguments read as before. No condition. -/
import Derived.Test.YtfffmmkddfgnfaaRows
import Derived.Test.YtfffmmkddfgnfaaPFnExactSessionsFaultx5
import Derived.Test.YtfffmmkddfgnfaaPureFnExactSessionsFault
import Derived.Test.YtfffmmkddfgnfaaBridge
import Derived.WalkKit
import Derived.ProofKit
import Derived.OpenShut
import Derived.ShutString
import Derived.ChangeOld
import Derived.Below
import Derived.SizedLaws
namespace Go.Proofs.Ytfffmmkddfgnfaa.fnExactSessionsFault
open Go.ChangeShapes Go.WideShapes Go.ChangeAt Go.RowKit Go.Proofs.Ytfffmmkddfgnfaa.Bridge Go.Proofs.Ytfffmmkddfgnfaa.PFnExactSessionsFault Go.Proofs.YtfffmmkddfgnfaaW.PrintWords
open Go.ChangeMaps (open_string shut_string)
theorem own : ownKnob Try.prog.godebug = none := by kernel_rfl
theorem laidOut : laidOutB Try.prog = true := by kernel_rfl
def g2 (n : Int) : Prop := (Lit.int .i64 n).wf = true
theorem o2 : Opens Try.prog 2 (Kd.int .i64) g2 := by
  have h := opens_int (P := Try.prog) Try.underlying2 (by kernel_rfl)
  exact h
def g52 (l : List (Int)) : Prop := l.length ≤ maxLen ∧ ∀ a ∈ l, g2 a
theorem o52 : Opens Try.prog 52 (Kd.slice 2 (Kd.int .i64)) g52 := by
  have h := opens_slice (P := Try.prog) Try.underlying52 (by kernel_rfl) o2
  exact h
def G54 (x : S54) : Prop := g2 x.f0 ∧ (g2 x.f1 ∧ (g52 x.f2))
theorem O54 : Opens Try.prog 54 k54 G54 := by
  have h := opens_struct (P := Try.prog) (f := fun x : S54 => (x.f0, x.f1, x.f2)) (g := fun p => (⟨p.1, p.2.1, p.2.2⟩ : S54)) (fun _ => rfl) Try.underlying54 (by kernel_rfl) (.cons (by kernel_rfl) (.cons (by kernel_rfl) (.cons (by kernel_rfl) (.nil _)))) (opensF_cons o2 (opensF_cons o2 (opensF_one o52)))
  exact ⟨h.sz, h.get⟩
def g27 (l : List (S54)) : Prop := l.length ≤ maxLen ∧ ∀ a ∈ l, G54 a
theorem o27 : Opens Try.prog 27 (Kd.slice 54 k54) g27 := by
  have h := opens_slice (P := Try.prog) Try.underlying27 (by kernel_rfl) O54
  exact h
set_option maxRecDepth 100000 in
theorem lifted (os : Os) (started : os.Started) (H : Type) (enc : TypeId × Value → H) :
    ReturnsInHanded {} Try.checked os 4 .any (Rows.fnExactSessionsFaultSpec.pre6 enc Try.prog Try.f4 Rows.fnExactSessionsFaultRow.domain false) (Rows.fnExactSessionsFaultSpec.post enc Try.prog Try.f4 false true false false) := by
  refine returnsInHanded_of_change_sized (C := Try.checked) own started (by kernel_rfl) Try.func4
    (ChangeSpec.witness6 (enc := enc) (C := Try.checked) false ⟨#[], #[.slice none 0 0], []⟩ 8 (by kernel_rfl) (by kernel_rfl) (by kernel_rfl) (by kernel_rfl)) ?_
  intro W base args ds gs before hval0 hW _ _ _
  have hval : ∀ (j : Nat) t v, Try.f4.params[j]? = some t → args[j]? = some v → Value.okWide Try.prog W .any base t v := hval0
  have hW' := hW
  obtain ⟨p, q, hA0, hV, rfl, hfz, hnd⟩ := hW
  have hA : DataW.TrodAll enc Try.prog W 0 (fun _ => true) true Try.f4.params.toList args.toList ds p := hA0
  rw [Try.params4] at hA hval
  obtain ⟨v0, vs0, d0, ds0, p0, q0, hargs, rfl, rfl, h0, r0⟩ := trodAll_cons hA
  obtain ⟨rfl, rfl, rfl⟩ := trodAll_nil r0
  obtain rfl : args = #[v0] := by cases args; simp_all
  obtain ⟨rfl, rfl⟩ := trodVars_none hV
  have k0 := h0
  have lt0 : ∀ x ∈ p0, x.block < W.heap.size := by obtain ⟨m, hm⟩ := k0; exact DataW.trod_lt m _ _ _ hm
  obtain ⟨l0, A0_, c0_, rfl, hc0, hr0, hG0⟩ := arg_slice Try.underlying27 O54 (hval 0 27 v0 rfl rfl) h0
  clear hA0 hval0
  obtain ⟨k, hk⟩ := Pure.FnExactSessionsFault l0 hG0
  refine (laws_FnExactSessionsFault.calls k A0_ c0_ l0 true W hr0 hc0 hk).mono fun e W' ⟨he, bel⟩ => ?_
  subst he
  exact ⟨_, rfl, _, _, _, [], _, [], hW', trodAll_mk1 (shut_bool Try.underlying4 _), (trodAll_cons_mk (Below.trod laidOut (by kernel_rfl) (of_decide_eq_true (by kernel_rfl)) k0 bel lt0) trodAll_mk0), rfl, bel.frame _, fun h => by cases h⟩
theorem over : Rows.fnExactSessionsFaultRow.holds Try.pinned (OpenSpec.ofChange Rows.fnExactSessionsFaultSpec) :=
  OpenClaim.holds_of_wide 4 Try.f4 rfl rfl rfl rfl rfl rfl rfl ⟨rfl, rfl, rfl, rfl, rfl⟩ rfl rfl rfl rfl rfl (by kernel_rfl) Try.func4 (by kernel_rfl)
    (of_decide_eq_true (by kernel_rfl)) (by unfold Func.isWrapper; first | (rw [if_pos (by decide +kernel)]; kernel_rfl) | (rw [if_neg (by decide +kernel)]; exact ⟨rfl, rfl⟩))
    (fun os started H enc _ => lifted os started H enc)
theorem proved : Rows.FnExactSessionsFaultSaid := over
#print axioms proved
end Go.Proofs.Ytfffmmkddfgnfaa.fnExactSessionsFault
namespace Go.Proofs.Ytfffmmkddfgnfaa
theorem fnExactSessionsFault_holds : Rows.FnExactSessionsFaultSaid := fnExactSessionsFault.proved
end Go.Proofs.Ytfffmmkddfgnfaa
