/- WHAT IS PROVED: parts of the proof of fnExactSubmitContract_holds: a frame for walks, what each Go function that it reaches answers, and plain lemmas; no condition beyond those that each theorem names. -/
import Derived.Test.YtjdiongbbijdpaaGreatCSb1
import Derived.WalkKit
import Derived.OrdersHeld
import Derived.DeepKeys
import Derived.Maps.RangeWalk
import Derived.Maps.OwnOps
import Derived.WideKeyEntry
set_option linter.unusedVariables false
set_option linter.unusedSimpArgs false
section
namespace Go.Sx
open Go.RowKit (Below)
inductive GC where
 | bor (c : Cell)
 | giv (full : Bool) (sz : Nat) (rows : List (List Cell))
inductive GA where
 | one (c : GC)
 | agg (cs : List GC)
def gcs : List GA → List GC
 | [] => []
 | .one c :: l => c :: gcs l
 | .agg cs :: l => cs ++ gcs l
def q0j : List GA → List Value → List Value
 | .one _ :: l, v :: vs => v :: q0j l vs
 | .agg _ :: l, .agg arr :: vs => arr.toList ++ q0j l vs
 | _, _ => []
def y3l : List GA → List Value → Prop
 | [], [] => True
 | .one _ :: l, _ :: vs => y3l l vs
 | .agg cs :: l, v :: vs => (∃ arr : Array Value, v = .agg arr ∧ arr.size = cs.length) ∧ y3l l vs
 | _, _ => False
def CN (w : World) (N : Nat → Prop) : Bool → (Nat → Prop) → Cell → Value → Prop
 | true => Own w
 | false => fun _ c u => Rep w N c u
def zb0 (w : World) (N S : Nat → Prop) : GC → Value → Prop
 | .bor c, v => Rep w N c v
 | .giv full sz rows, v => ∃ sz', (sz ≠ 0 → sz' = sz) ∧ z0e w (CN w N full) S sz' rows v
def Rest (N : Nat → Prop) (w : World) (S : Nat → Nat → Prop) (SR : Nat → Prop) (SB : Nat → Nat → Prop) (x : Nat) : Prop := (N x ∨ w.heap.size ≤ x ∨ ∃ β, S β x) ∧ ¬ SR x ∧ ∀ β, ¬ SB β x
def PG (P : Program) (f : Nat) (args : List GA) (res : Res) (back : List (Nat × List (List Cell))) : Prop :=
 okF P f = true ∧ ∀ (N : Nat → Prop) (S : Nat → Nat → Prop) (w : World) (vals : Array Value), (∀ t x, S t x → x < w.heap.size ∧ ¬ N x) → (∀ t t' x, S t x → S t' x → t = t') →
  y3l args vals.toList → (∀ (t : Nat) (g : GC) (u : Value), (gcs args)[t]? = some g → (q0j args vals.toList)[t]? = some u → zb0 w N (S t) g u) →
  Calls P f vals w fun e w' => ∃ (v : Value) (SR : Nat → Prop) (SB : Nat → Nat → Prop), e = .returned v ∧ zt w w' (fun x => ∃ t, S t x) ∧ q1e w' (Rest N w S SR SB) SR res v ∧
   (∀ x, SR x → (w.heap.size ≤ x ∨ ∃ t, S t x) ∧ x < w'.heap.size ∧ ∀ t, ¬ SB t x) ∧ (∀ t x, SB t x → (w.heap.size ≤ x ∨ ∃ t, S t x) ∧ x < w'.heap.size) ∧ (∀ t t' x, SB t x → SB t' x → t = t') ∧
   ∀ (t : Nat) (rows' : List (List Cell)), get back t = some rows' → ∀ (full : Bool) (sz : Nat) (rows : List (List Cell)) (u : Value), (gcs args)[t]? = some (.giv full sz rows) → (q0j args vals.toList)[t]? = some u →
     rows'.length = rows.length ∧ (∀ (i : Nat) (row row' : List Cell), rows[i]? = some row → rows'[i]? = some row' → row'.length = row.length) ∧ ∃ sz', (sz ≠ 0 → sz' = sz) ∧ z0e w' (CN w' (Rest N w S SR SB) full) (SB t) sz' rows' u
def mC (B : List (Nat × AB)) : AC → GC → Prop
 | .b c', .bor c => c' = c
 | .nil, .bor c => c = .l []
 | .em, .bor c => c = .l []
 | .cl f caps, .bor c => caps = [] ∧ c = .f f []
 | .h γ n, .giv full sz rows => (match get B γ with | some (.arr full' sz' _ rows') => full' = full ∧ sz' = sz ∧ rows' = rows ∧ n = rows.length | _ => False)
 | .q β m i k, .giv full sz rows => full = true ∧ sz = 0 ∧ (match get B β with | some (.arr true _ ep rws) => m = ep ∧ ∃ row, rws[i]? = some row ∧ row[k]? = some (.l rows) | _ => False)
 | .nil, .giv _ _ rows => rows = []
 | .em, .giv _ _ rows => rows = []
 | _, _ => False
def mCs (B : List (Nat × AB)) : List AC → List GC → Prop
 | [], [] => True
 | c :: cs, g :: gs => mC B c g ∧ mCs B cs gs
 | _, _ => False
def mAs (B : List (Nat × AB)) : List AV → List GA → Prop
 | [], [] => True
 | .one c :: l, .one g :: l' => mC B c g ∧ mAs B l l'
 | .agg cs :: l, .agg gs :: l' => mCs B cs gs ∧ mAs B l l'
 | _, _ => False
def acs : List AV → List AC
 | [] => []
 | .one c :: l => c :: acs l
 | .agg cs :: l => cs ++ acs l
 | .tup _ :: l => acs l
def q11 : Nat → List AC → List GC → List (Nat × Nat × Option (Nat × Nat))
 | t, .h γ _ :: l, .giv _ _ _ :: l' => (t, γ, none) :: q11 (Nat.succ t) l l'
 | t, .q γ _ i k :: l, .giv _ _ _ :: l' => (t, γ, some (i, k)) :: q11 (Nat.succ t) l l'
 | t, _ :: l, _ :: l' => q11 (Nat.succ t) l l'
 | _, _, _ => []
def setRow (rws : List (List Cell)) (i k : Nat) (c : Cell) : List (List Cell) := match rws[i]? with | some row => rws.set i (row.set k c) | none => rws
def z1n (B : List (Nat × AB)) (back : List (Nat × List (List Cell))) : List (Nat × Nat × Option (Nat × Nat)) → List (Nat × AB)
 | [] => []
 | (t, γ, o) :: l => (γ, match get back t, get B γ with | some rows', some (.arr full sz ep rws) => .arr full sz (Nat.succ ep) (match o with | none => rows' | some (i, k) => setRow rws i k (.l rows')) | _, _ => .dead) :: z1n B back l
def qb4 (σ : St) (d : Option Tmp) (res : Res) (T : List (Nat × AB)) : St := match d with
 | some d => ⟨(d, z7e (nameOf d) res) :: σ.t, (z1d (nameOf d) res ++ T) ++ σ.b⟩
 | none => ⟨σ.t, ([] ++ T) ++ σ.b⟩
def q9p (P : Program) (σ : St) (d : Option Tmp) (f : Nat) (avs : List AV) (K : St → Prop) : Prop :=
 ∃ args res back, PG P f args res back ∧ y0o res = true ∧ mAs σ.b avs args ∧ ((q11 0 (acs avs) (gcs args)).map (·.2.1)).Nodup ∧ y0c σ.b (z1d (nameOf (d.getD 0)) res) ∧ K (qb4 σ d res (z1n σ.b back (q11 0 (acs avs) (gcs args))))
section
variable {C : Ctx} {σ : St} {ρ : Env} {a : Act} {w w' : World}
theorem z8b {B : List (Nat × AB)} : ∀ {cs : List AC} {gs : List GC}, mCs B cs gs → cs.length = gs.length ∧ ∀ (t : Nat) (g : GC), gs[t]? = some g → ∃ c, cs[t]? = some c ∧ mC B c g
 | [], [], _ => ⟨rfl, fun t g h => by simp at h⟩
 | c :: cs, g :: gs, h => by
   obtain ⟨h1, h2⟩ := z8b h.2; refine ⟨by simp [h1], fun t g' hg => ?_⟩
   cases t with
   | zero => cases hg; exact ⟨c, Y, h.1⟩
   | succ t => simpa using h2 t g' (by simpa using hg)
 | [], _ :: _, h => h.elim
 | _ :: _, [], h => h.elim
theorem y60 {B : List (Nat × AB)} : ∀ {avs : List AV} {args : List GA} {vals : List Value}, mAs B avs args → vals.length = avs.length → (∀ (i : Nat) (av : AV) (v : Value), avs[i]? = some av → vals[i]? = some v → yw C w ρ B av v) →
 y3l args vals ∧ ∀ (t : Nat) (g : GC) (u : Value), (gcs args)[t]? = some g → (q0j args vals)[t]? = some u → ∃ c, (acs avs)[t]? = some c ∧ mC B c g ∧ qv C w ρ B c u
 | [], [], vals, _, hl, _ => by
   cases vals with
   | nil => exact ⟨trivial, fun t g u h => by simp [gcs] at h⟩
   | cons v vs => cases hl
 | .one c :: avs, .one g :: args, vals, h, hl, hv => by
   cases vals with
   | nil => cases hl
   | cons v vs =>
     obtain ⟨h1, h2⟩ := y60 (vals := vs) h.2 (by simpa using hl) (fun i av v' ha hv' => hv (i + 1) av v' (by simpa using ha) (by simpa using hv')); refine ⟨h1, fun t g' u hg hu => ?_⟩
     cases t with
     | zero => cases hg; cases hu; exact ⟨c, Y, h.1, hv 0 _ v Y Y⟩
     | succ t => simpa [acs] using h2 t g' u (by simpa [gcs] using hg) (by simpa [q0j] using hu)
 | .agg cs :: avs, .agg gs :: args, vals, h, hl, hv => by
   cases vals with
   | nil => cases hl
   | cons v vs =>
     obtain ⟨h1, h2⟩ := y60 (vals := vs) h.2 (by simpa using hl) (fun i av v' ha hv' => hv (i + 1) av v' (by simpa using ha) (by simpa using hv')); obtain ⟨arr, rfl, h3, h4⟩ := hv 0 _ v rfl rfl; obtain ⟨h5, h6⟩ := z8b h.1; refine ⟨⟨⟨arr, Y, by omega⟩, h1⟩, fun t g' u hg hu => ?_⟩; simp only [gcs, q0j, acs] at hg hu ⊢; rw [List.getElem?_append] at hg hu; by_cases ht : t < gs.length
     · rw [if_pos ht] at hg
       rw [if_pos (by rw [Array.length_toList]; omega)] at hu; obtain ⟨c, hc, hm⟩ := h6 t g' hg; rw [Array.getElem?_toList] at hu; exact ⟨c, by rw [List.getElem?_append_left (by omega)]; exact hc, hm, h4 t c u hc hu⟩
     · rw [if_neg ht] at hg
       rw [if_neg (by rw [Array.length_toList]; omega)] at hu; obtain ⟨c, hc, hm⟩ := h2 (t - gs.length) g' u hg (by rw [Array.length_toList] at hu; rwa [h3, h5] at hu); exact ⟨c, by rw [List.getElem?_append_right (by omega), h5]; exact hc, hm⟩
 | [], _ :: _, _, h, _, _ => h.elim
 | .one _ :: _, [], _, h, _, _ => h.elim
 | .agg _ :: _, [], _, h, _, _ => h.elim
 | .tup _ :: _, [], _, h, _, _ => h.elim
 | .one _ :: _, .agg _ :: _, _, h, _, _ => h.elim
 | .agg _ :: _, .one _ :: _, _, h, _, _ => h.elim
 | .tup _ :: _, .one _ :: _, _, h, _, _ => h.elim
 | .tup _ :: _, .agg _ :: _, _, h, _, _ => h.elim
theorem z28 : ∀ {cs : List AC} {gs : List GC} {t0 t γ : Nat} {o : Option (Nat × Nat)}, (t, γ, o) ∈ q11 t0 cs gs → ∃ j full sz rows, t = t0 + j ∧ gs[j]? = some (.giv full sz rows) ∧ ((o = none ∧ ∃ n, cs[j]? = some (.h γ n)) ∨ ∃ m i k, o = some (i, k) ∧ cs[j]? = some (.q γ m i k))
 | [], gs, t0, t, γ, o, h => by simp [q11] at h
 | c :: cs, [], t0, t, γ, o, h => by cases c <;> simp [q11] at h
 | c :: cs, g :: gs, t0, t, γ, o, h => by
   have step : (t, γ, o) ∈ q11 (Nat.succ t0) cs gs → ∃ j full sz rows, t = t0 + j ∧ (g :: gs)[j]? = some (.giv full sz rows) ∧ ((o = none ∧ ∃ n, (c :: cs)[j]? = some (.h γ n)) ∨ ∃ m i k, o = some (i, k) ∧ (c :: cs)[j]? = some (.q γ m i k)) := fun h => by
    obtain ⟨j, full, sz, rows, h1, h2, h3⟩ := z28 h; exact ⟨j + 1, full, sz, rows, by omega, by simpa using h2, by simpa using h3⟩
   cases c with
   | h γ' n =>
     cases g with
     | bor c => exact step h
     | giv full sz rows =>
       rcases List.mem_cons.1 h with he | h
       · cases he; exact ⟨0, full, sz, rows, Y, Y, .inl ⟨Y, n, Y⟩⟩
       · exact step h
   | q γ' m i k =>
     cases g with
     | bor c => exact step h
     | giv full sz rows =>
       rcases List.mem_cons.1 h with he | h
       · cases he; exact ⟨0, full, sz, rows, Y, Y, .inr ⟨m, i, k, Y, Y⟩⟩
       · exact step h
   | _ => exact step h
theorem q73 {cs : List AC} {gs : List GC} {t γ γ' : Nat} {o o' : Option (Nat × Nat)} (h : (t, γ, o) ∈ q11 0 cs gs) (h' : (t, γ', o') ∈ q11 0 cs gs) : γ = γ' ∧ o = o' := by
 obtain ⟨j, _, _, _, h1, _, h3⟩ := z28 h; obtain ⟨j', _, _, _, h1', _, h3'⟩ := z28 h'; have : j = j' := by omega
 subst this; rcases h3 with ⟨rfl, n, h3⟩ | ⟨m, i, k, rfl, h3⟩ <;> rcases h3' with ⟨rfl, n', h3'⟩ | ⟨m', i', k', rfl, h3'⟩ <;> rw [h3] at h3' <;> cases h3' <;> exact ⟨Y, Y⟩
theorem y55 : ∀ {cs : List AC} {gs : List GC} {t0 j : Nat} {full : Bool} {sz : Nat} {rows : List (List Cell)}, gs[j]? = some (.giv full sz rows) → (∀ γ n, cs[j]? = some (.h γ n) → (t0 + j, γ, none) ∈ q11 t0 cs gs) ∧ (∀ γ m i k, cs[j]? = some (.q γ m i k) → (t0 + j, γ, some (i, k)) ∈ q11 t0 cs gs)
 | [], gs, t0, j, full, sz, rows, _ => ⟨fun γ n h => by simp at h, fun γ m i k h => by simp at h⟩
 | c :: cs, [], t0, j, full, sz, rows, h => by simp at h
 | c :: cs, g :: gs, t0, j, full, sz, rows, h' => by
   cases j with
   | zero =>
     cases h'; exact ⟨fun γ n h => by cases h; exact List.mem_cons_self .., fun γ m i k h => by cases h; exact List.mem_cons_self ..⟩
   | succ j =>
     obtain ⟨g1, g2⟩ := y55 (cs := cs) (gs := gs) (t0 := Nat.succ t0) (j := j) (by simpa using h'); have e : t0 + (j + 1) = Nat.succ t0 + j := by omega
     rw [e]
     have up : ∀ {y : Nat × Nat × Option (Nat × Nat)}, y ∈ q11 (Nat.succ t0) cs gs → y ∈ q11 t0 (c :: cs) (g :: gs) := fun {y} hy => by
      cases c <;> cases g <;> first | exact hy | exact List.mem_cons_of_mem _ hy
     exact ⟨fun γ n h => up (g1 γ n (by simpa using h)), fun γ m i k h => up (g2 γ m i k (by simpa using h))⟩
theorem q5h : ∀ {l : List (Nat × Nat × Option (Nat × Nat))} {t t' γ : Nat} {o o' : Option (Nat × Nat)}, (l.map (·.2.1)).Nodup → (t, γ, o) ∈ l → (t', γ, o') ∈ l → t = t'
 | [], t, t', γ, o, o', _, h, _ => by cases h
 | (t0, γ0, o0) :: l, t, t', γ, o, o', hn, h, h' => by
   rw [List.map_cons, List.nodup_cons] at hn; have out : ∀ {t : Nat} {o : Option (Nat × Nat)}, (t, γ0, o) ∈ l → False := fun {t o} hm => hn.1 (List.mem_map.2 ⟨_, hm, rfl⟩)
   rcases List.mem_cons.1 h with he | h <;> rcases List.mem_cons.1 h' with he' | h'
   · cases he; cases he'; rfl
   · cases he; exact (out h').elim
   · cases he'; exact (out h).elim
   · exact q5h hn.2 h h'
theorem q48 {B : List (Nat × AB)} {back : List (Nat × List (List Cell))} : ∀ {l : List (Nat × Nat × Option (Nat × Nat))} {γ : Nat} {ab : AB}, get (z1n B back l) γ = some ab → ∃ t o, (t, γ, o) ∈ l ∧ ab = (match get back t, get B γ with | some rows', some (.arr full sz ep rws) => .arr full sz (Nat.succ ep) (match o with | none => rows' | some (i, k) => setRow rws i k (.l rows')) | _, _ => .dead)
 | [], γ, ab, h => by cases h
 | (t, γ0, o) :: l, γ, ab, h => by
   rw [z1n, za] at h; by_cases hg : γ0 = γ
   · subst hg; rw [if_pos rfl] at h; cases h; exact ⟨t, o, List.mem_cons_self .., Y⟩
   · rw [if_neg hg] at h
     obtain ⟨t', o', h1, h2⟩ := q48 h; exact ⟨t', o', List.mem_cons_of_mem _ h1, h2⟩
theorem z3p {B : List (Nat × AB)} {back : List (Nat × List (List Cell))} : ∀ {l : List (Nat × Nat × Option (Nat × Nat))} {t γ : Nat} {o : Option (Nat × Nat)}, (t, γ, o) ∈ l → (get (z1n B back l) γ).isSome = true
 | [], t, γ, o, h => by cases h
 | (t0, γ0, o0) :: l, t, γ, o, h => by
   rw [z1n, za]; by_cases hg : γ0 = γ
   · rw [if_pos hg]; rfl
   · rw [if_neg hg]
     rcases List.mem_cons.1 h with he | h
     · cases he; exact absurd Y hg
     · exact z3p h
theorem q2f : ∀ {args : List GA} {vals : List Value}, y3l args vals → (q0j args vals).length = (gcs args).length
 | [], [], _ => rfl
 | .one _ :: l, _ :: vs, h => by simp only [q0j, gcs, List.length_cons, q2f (args := l) (vals := vs) h]
 | .agg cs :: l, v :: vs, h => by
   obtain ⟨⟨arr, rfl, h1⟩, h2⟩ := h; simp only [q0j, gcs, List.length_append, Array.length_toList, h1, q2f h2]
 | [], _ :: _, h => h.elim
 | .one _ :: _, [], h => h.elim
 | .agg _ :: _, [], h => h.elim
theorem z0v.qc2 {w : World} {N N' S : Nat → Prop} {rc : RC} {v : Value} (h : z0v w N S rc v) (hN : ∀ x, N x → N' x) : z0v w N' S rc v := by
 cases rc with
 | own ag cs => exact h
 | bor ag cs =>
   obtain ⟨arr, h1, h2, h3⟩ := h; exact ⟨arr, h1, h2, fun k c u hc hu => Rep.mono (h3 k c u hc hu) (fun x _ hx => hN x hx)⟩
theorem qa1 (full : Bool) : CC C w ρ σ.b full = CN w (Bor C ρ σ.b) full := by cases full <;> rfl
theorem z4y (h : ye C σ ρ a w) {d : Option Tmp} {f : Nat} {avs : List AV} {vals : Array Value} {K : St → Prop} (hd : ∀ t, d = some t → t < C.T) (hk : q9p C.P σ d f avs K) (hs : vals.size = avs.length)
 (hv : ∀ (i : Nat) (av : AV) (v : Value), avs[i]? = some av → vals[i]? = some v → yw C w ρ σ.b av v) :
 okF C.P f = true ∧ Calls C.P f vals w fun e w' => ∃ v, e = .returned v ∧ ∃ σ', K σ' ∧ Rel C σ' (a.put d v) w' := by
 obtain ⟨args, res, back, ⟨hok, hpc⟩, hsm, hm, hnd, hfr, hK⟩ := hk; refine ⟨hok, ?_⟩; obtain ⟨hsh, hcell⟩ := y60 (C := C) (w := w) (ρ := ρ) (vals := vals.toList) hm (by simpa using hs) (fun i av v h1 h2 => hv i av v h1 (by simpa using h2)); have hlen := q2f hsh; generalize hnl : q11 0 (acs avs) (gcs args) = nl at hnd hK; have uniq : ∀ {t γ γ' : Nat} {o o' : Option (Nat × Nat)}, (t, γ, o) ∈ nl → (t, γ', o') ∈ nl → γ = γ' ∧ o = o' := fun {t γ γ' o o'} h1 h2 => by rw [← hnl] at h1 h2; exact q73 h1 h2
 have hgiv : ∀ t γ o, (t, γ, o) ∈ nl → ∃ full sz rows u, (gcs args)[t]? = some (.giv full sz rows) ∧ (q0j args vals.toList)[t]? = some u ∧ ((o = none ∧ u = ρ.v γ ∧ ∃ ep, get σ.b γ = some (.arr full sz ep rows)) ∨
  ∃ i k sz1 ep rws row, o = some (i, k) ∧ full = true ∧ sz = 0 ∧ get σ.b γ = some (.arr true sz1 ep rws) ∧ rws[i]? = some row ∧ row[k]? = some (.l rows) ∧ ∃ F0 : Nat → Prop, (∀ x, F0 x → ρ.S γ x) ∧ Own w F0 (.l rows) u ∧
    ∀ (w' : World) (FB : Nat → Prop) (rs' : List (List Cell)), (∀ x, ρ.S γ x → ¬ F0 x → w'.heap[x]? = w.heap[x]?) → (∀ x, FB x → ¬ ρ.S γ x ∨ F0 x) → Own w' FB (.l rs') u → ∃ sz', (sz1 ≠ 0 → sz' = sz1) ∧ z0e w' (Own w') (fun x => (ρ.S γ x ∧ ¬ F0 x) ∨ FB x) sz' (rws.set i (row.set k (.l rs'))) (ρ.v γ)) := fun t γ o hmem => by
  rw [← hnl] at hmem; obtain ⟨j, full, sz, rows, h1, h2, h3⟩ := z28 hmem; have hjt : j = t := by omega
  subst hjt; have hlt : j < (q0j args vals.toList).length := by rw [hlen]; exact (List.getElem?_eq_some_iff.1 h2).1
  have hu := List.getElem?_eq_getElem hlt; obtain ⟨c, h4, h5, h6⟩ := hcell j _ _ h2 hu; refine ⟨full, sz, rows, _, h2, hu, ?_⟩; rcases h3 with ⟨rfl, n, h3⟩ | ⟨m, i, k, rfl, h3⟩
  · rw [h3] at h4
    cases h4; simp only [mC] at h5; split at h5
    · rename_i full' sz' ep rows' hg
      obtain ⟨rfl, rfl, rfl, rfl⟩ := h5; obtain ⟨_, ab, hg', h7⟩ := h6; rw [hg] at hg'; cases hg'; exact .inl ⟨Y, (h7 _ _ _ _ Y).2 Y, ep, hg⟩
    · exact h5.elim
  · rw [h3] at h4
    cases h4; obtain ⟨rfl, rfl, h5⟩ := h5; split at h5
    · rename_i sz1 ep rws hg
      obtain ⟨rfl, row, hr, hk⟩ := h5; obtain ⟨_, ab, hg', h7⟩ := h6; rw [hg] at hg'; cases hg'; obtain ⟨_, h8⟩ := h7 _ _ _ _ rfl; obtain ⟨_, g, row1, h9, h10, h11⟩ := h8 rfl; rw [hr] at h10; cases h10; obtain ⟨sz', hsz', hslab⟩ := h.y0k γ _ hg; obtain ⟨u, F0, n1, n2, n3, n4⟩ := z8n hslab hr hk
      have hue : u = (q0j args vals.toList)[j] := by
       have := n2 g h9; rw [h11] at this; cases this; rfl
      refine .inr ⟨i, k, sz1, m, rws, row, Y, Y, Y, hg, hr, hk, F0, n1, by rw [← hue]; exact n3, fun w' FB rs' f1 f2 f3 => ⟨sz', hsz', n4 w' FB rs' f1 f2 (by rw [hue]; exact f3)⟩⟩
    · exact h5.elim
 have hblk : ∀ t γ o, (t, γ, o) ∈ nl → ∃ ab, get σ.b γ = some ab := fun t γ o hm => by
  obtain ⟨_, _, _, _, _, _, ⟨_, _, ep, hg⟩ | ⟨_, _, _, _, _, _, _, _, _, hg, _⟩⟩ := hgiv t γ o hm <;> exact ⟨_, hg⟩
 have hfp : ∀ t : Nat, ∃ F : Nat → Prop, (∀ x, F x → ∃ γ o, (t, γ, o) ∈ nl ∧ ρ.S γ x) ∧ ∀ γ o, (t, γ, o) ∈ nl → (o = none → F = ρ.S γ) ∧ (∀ i k, o = some (i, k) → ∃ rows u sz1 ep rws row, (gcs args)[t]? = some (.giv true 0 rows) ∧ (q0j args vals.toList)[t]? = some u ∧ get σ.b γ = some (.arr true sz1 ep rws) ∧ rws[i]? = some row ∧ Own w F (.l rows) u ∧
       ∀ (w' : World) (FB : Nat → Prop) (rs' : List (List Cell)), (∀ x, ρ.S γ x → ¬ F x → w'.heap[x]? = w.heap[x]?) → (∀ x, FB x → ¬ ρ.S γ x ∨ F x) → Own w' FB (.l rs') u → ∃ sz', (sz1 ≠ 0 → sz' = sz1) ∧ z0e w' (Own w') (fun x => (ρ.S γ x ∧ ¬ F x) ∨ FB x) sz' (rws.set i (row.set k (.l rs'))) (ρ.v γ)) := fun t => by
  by_cases hex : ∃ γ o, (t, γ, o) ∈ nl
  · obtain ⟨γ, o, hm⟩ := hex
    obtain ⟨full, sz, rows, u, e1, e2, ⟨rfl, _, ep, hg⟩ | ⟨i, k, sz1, ep, rws, row, rfl, rfl, rfl, hg, hr, hk, F0, f1, f2, f3⟩⟩ := hgiv t γ o hm
    · refine ⟨ρ.S γ, fun x hx => ⟨γ, none, hm, hx⟩, fun γ' o' hm' => ?_⟩
      obtain ⟨rfl, rfl⟩ := uniq hm hm'; exact ⟨fun _ => Y, fun i k he => by cases he⟩
    · refine ⟨F0, fun x hx => ⟨γ, _, hm, f1 x hx⟩, fun γ' o' hm' => ?_⟩
      obtain ⟨rfl, rfl⟩ := uniq hm hm'; refine ⟨(fun he => by cases he), fun i' k' he => ?_⟩; cases he; exact ⟨rows, u, sz1, ep, rws, row, e1, e2, hg, hr, f2, f3⟩
  · exact ⟨fun _ => False, fun x hx => hx.elim, fun γ o hm => absurd ⟨γ, o, hm⟩ hex⟩
 have hch : ∃ fp : Nat → Nat → Prop, ∀ t, (∀ x, fp t x → ∃ γ o, (t, γ, o) ∈ nl ∧ ρ.S γ x) ∧ ∀ γ o, (t, γ, o) ∈ nl → (o = none → fp t = ρ.S γ) ∧ (∀ i k, o = some (i, k) → ∃ rows u sz1 ep rws row, (gcs args)[t]? = some (.giv true 0 rows) ∧ (q0j args vals.toList)[t]? = some u ∧ get σ.b γ = some (.arr true sz1 ep rws) ∧ rws[i]? = some row ∧ Own w (fp t) (.l rows) u ∧
       ∀ (w' : World) (FB : Nat → Prop) (rs' : List (List Cell)), (∀ x, ρ.S γ x → ¬ fp t x → w'.heap[x]? = w.heap[x]?) → (∀ x, FB x → ¬ ρ.S γ x ∨ fp t x) → Own w' FB (.l rs') u → ∃ sz', (sz1 ≠ 0 → sz' = sz1) ∧ z0e w' (Own w') (fun x => (ρ.S γ x ∧ ¬ fp t x) ∨ FB x) sz' (rws.set i (row.set k (.l rs'))) (ρ.v γ)) :=
  ⟨fun t => Classical.choose (hfp t), fun t => Classical.choose_spec (hfp t)⟩
 obtain ⟨fp, hfp⟩ := hch
 have hS1 : ∀ t x, fp t x → x < w.heap.size ∧ ¬ Bor C ρ σ.b x := fun t x hx => by
  obtain ⟨γ, o, h1, h2⟩ := (hfp t).1 x hx; obtain ⟨ab, hg⟩ := hblk t γ o h1; exact ⟨(h.mine γ _ x hg h2).1, fun hB => hB.2 γ _ hg h2⟩
 have same : ∀ {t t' γ : Nat} {o : Option (Nat × Nat)} {x : Nat}, (t, γ, o) ∈ nl → ρ.S γ x → fp t' x → t' = t := fun {t t' γ o x} hm hx hx' => by
  obtain ⟨γ', o', h1, h2⟩ := (hfp t').1 x hx'; obtain ⟨ab, hg⟩ := hblk t γ o hm; obtain ⟨ab', hg'⟩ := hblk t' γ' o' h1; have := h.disj γ γ' _ _ x hg hg' hx h2; subst this; exact q5h hnd h1 hm
 have hS2 : ∀ t t' x, fp t x → fp t' x → t = t' := fun t t' x hx hx' => by
  obtain ⟨γ, o, h1, h2⟩ := (hfp t).1 x hx; exact (same h1 h2 hx').symm
 have hS3 : ∀ (t : Nat) (g : GC) (u : Value), (gcs args)[t]? = some g → (q0j args vals.toList)[t]? = some u → zb0 w (Bor C ρ σ.b) (fp t) g u := fun t g u hg hu => by
  obtain ⟨c, hc, hmc, hrel⟩ := hcell t g u hg hu
  cases g with
  | bor c0 =>
    cases c with
    | b c1 => have e : c1 = c0 := hmc; subst e; exact hrel
    | nil => have e : c0 = .l [] := hmc; subst e; exact z1p (c := .nil) hrel trivial
    | em => have e : c0 = .l [] := hmc; subst e; exact z1p (c := .em) hrel trivial
    | cl f caps =>
      obtain ⟨e1, e2⟩ : caps = [] ∧ c0 = .f f [] := hmc; subst e1; subst e2; obtain ⟨us, hu1, hu2, _⟩ := hrel; subst hu1; exact .f f [] us hu2 (fun k c v hc => by simp at hc)
    | _ => exact hmc.elim
  | giv full sz rows =>
    obtain ⟨p1, p2⟩ := y55 (cs := acs avs) (t0 := 0) hg; rw [hnl, Nat.zero_add] at p1 p2
    cases c with
    | nil => have e : rows = [] := hmc; subst e; cases hrel; exact ⟨sz, fun _ => Y, .inl ⟨Y, none, Y⟩⟩
    | em => have e : rows = [] := hmc; subst e; obtain ⟨A, rfl⟩ := hrel; exact ⟨sz, fun _ => Y, .inl ⟨Y, A, Y⟩⟩
    | h γ n =>
      have hmem := p1 γ n hc; obtain ⟨full', sz', rows', u', e1, e2, ⟨_, hv', ep, hg'⟩ | ⟨_, _, _, _, _, _, he, _⟩⟩ := hgiv t γ none hmem
      · rw [hg] at e1; cases e1
        rw [hu] at e2; cases e2; obtain ⟨sz1, hsz1, hslab⟩ := h.y0k γ _ hg'; refine ⟨sz1, hsz1, ?_⟩; rw [((hfp t).2 γ none hmem).1 rfl, hv', ← qa1]; exact hslab
      · cases he
    | q γ m i k =>
      have hmem := p2 γ m i k hc; obtain ⟨rows', u', sz1, ep, rws, row, e1, e2, _, _, e5, _⟩ := ((hfp t).2 γ _ hmem).2 i k rfl; rw [hg] at e1; cases e1; rw [hu] at e2; cases e2; obtain ⟨sz', hs⟩ := z1b.1 e5; exact ⟨sz', fun h0 => absurd Y h0, hs⟩
    | _ => exact hmc.elim
 refine (hpc (Bor C ρ σ.b) _ w vals hS1 hS2 hsh hS3).mono ?_
 rintro e w' ⟨v, SR, SB, rfl, hkp, hres, hSR, hSB, hSBd, hback⟩
 refine ⟨v, Y, _, hK, ?_⟩
 have notOld : ∀ {t γ : Nat} {o : Option (Nat × Nat)} {x : Nat}, (t, γ, o) ∈ nl → ρ.S γ x → ¬ fp t x → (Bor C ρ σ.b x ∨ w.heap.size ≤ x ∨ ∃ t, fp t x) → False := fun {t γ o x} hm hx hn hor => by
  obtain ⟨ab, hg⟩ := hblk t γ o hm; rcases hor with h1 | h1 | ⟨t', h1⟩
  · exact h1.2 γ ab hg hx
  · have := (h.mine γ ab x hg hx).1; omega
  · have := same hm hx h1; subst this; exact hn h1
 have hadopt : ∀ {β : Nat} {rcs : List RC} {us : Array Value} {G : Nat → Nat → Prop}, (∀ rc ∈ rcs, q10 rc = true) → y0c σ.b (qe β rcs) → (∀ i x, G i x → SR x) → (∀ i i' x, G i x → G i' x → i = i') → us.size = rcs.length → (∀ (i : Nat) (rc : RC) (u : Value), rcs[i]? = some rc → us[i]? = some u → z0v w' (Rest (Bor C ρ σ.b) w fp SR SB) (G i) rc u) →
  ∃ ρ', ye C ⟨σ.t, (qe β rcs ++ z1n σ.b back nl) ++ σ.b⟩ ρ' a w' ∧ ∀ (i : Nat) (rc : RC) (u : Value), rcs[i]? = some rc → us[i]? = some u → q02 C w' ρ' ((qe β rcs ++ z1n σ.b back nl) ++ σ.b) (q5m (β + 100 * i) rc) u := fun {β rcs us G} a1 a2 a3 a4 a5 a6 => by
  obtain ⟨ρ', r1, _, r2⟩ := q6w (N := fun x => Rest (Bor C ρ σ.b) w fp SR SB x ∧ ∀ t γ o, (t, γ, o) ∈ nl → ρ.S γ x → fp t x) (T := z1n σ.b back nl) (SB := fun γ x => ∃ t o, (t, γ, o) ∈ nl ∧ (SB t x ∨ (o ≠ none ∧ ρ.S γ x ∧ ¬ fp t x))) (S := SR) h hkp a1 a2
   (fun x hx => ⟨(hSR x hx).1, (hSR x hx).2.1, fun γ ⟨t, o, h1, h2⟩ => by
     rcases h2 with h2 | ⟨_, h2, h3⟩
     · exact (hSR x hx).2.2 t h2
     · exact notOld h1 h2 h3 (.inr (hSR x hx).1)⟩) a3 a4 a5
   (fun i rc u hi hu => by
     refine z0v.qc2 (a6 i rc u hi hu) (fun x hx => ⟨hx, fun t γ o hm hs => ?_⟩)
     exact Classical.byContradiction fun hn => notOld hm hs hn hx.1)
   (fun x hx => ⟨hx.1.1, hx.1.2.1, fun γ ⟨t, o, h1, h2⟩ => by
     rcases h2 with h2 | ⟨_, h2, h3⟩
     · exact hx.1.2.2 t h2
     · exact h3 (hx.2 t γ o h1 h2)⟩)
   (fun x ⟨t, hx⟩ => by
     obtain ⟨γ, o, h1, h2⟩ := (hfp t).1 x hx; obtain ⟨ab, hg⟩ := hblk t γ o h1
     exact ⟨γ, ab, hg, z3p h1, h2⟩)
   (fun γ x ⟨t, o, h1, h2⟩ => by
     rcases h2 with h2 | ⟨_, h2, h3⟩
     · exact ⟨(hSB t x h2).1.imp id .inl, (hSB t x h2).2⟩
     · obtain ⟨ab, hg⟩ := hblk t γ o h1
       exact ⟨.inr (.inr ⟨ab, hg, h2⟩), Nat.lt_of_lt_of_le (h.mine γ ab x hg h2).1 hkp.size⟩)
   (fun γ γ' x ⟨t, o, h1, h2⟩ ⟨t', o', h1', h2'⟩ => by
     rcases h2 with h2 | ⟨_, h2, h3⟩ <;> rcases h2' with h2' | ⟨_, h2', h3'⟩
     · have := hSBd t t' x h2 h2'
       subst this; exact (uniq h1 h1').1
     · exact (notOld h1' h2' h3' (.inr (hSB t x h2).1)).elim
     · exact (notOld h1 h2 h3 (.inr (hSB t' x h2').1)).elim
     · obtain ⟨ab, hg⟩ := hblk t γ o h1
       obtain ⟨ab', hg'⟩ := hblk t' γ' o' h1'
       exact h.disj γ γ' _ _ x hg hg' h2 h2')
   (fun γ ab' hg => by
     obtain ⟨t, o, h1, h2⟩ := q48 hg; obtain ⟨full, sz, rows, u, e1, e2, ⟨rfl, hv', ep, e3⟩ | ⟨i, k, sz1, ep, rws, row, rfl, rfl, rfl, e3, e4, e5, _⟩⟩ := hgiv t γ o h1
     · refine ⟨full, sz, ep, rows, e3, ?_⟩
       rw [e3] at h2
       cases hb : get back t with
       | none => rw [hb] at h2; exact .inl h2
       | some rows' =>
         rw [hb] at h2; obtain ⟨b1, b2, sz', b3, b4⟩ := hback t rows' hb full sz rows u e1 e2; refine .inr ⟨sz, Nat.succ ep, rows', h2, b1, Nat.lt_succ_self _, b2, sz', b3, ?_⟩; rw [← hv']; refine z0e.imp b4 (fun x hx => ⟨t, none, h1, .inl hx⟩) (fun _ _ _ => Y) (fun _ _ _ _ hc => ?_)
         cases full with
         | true => exact hc
         | false => exact Rep.mono hc (fun x _ hx => ⟨hx, fun t γ o hm hs => Classical.byContradiction fun hn => notOld hm hs hn hx.1⟩)
     · refine ⟨true, sz1, ep, rws, e3, ?_⟩
       rw [e3] at h2
       cases hb : get back t with
       | none => rw [hb] at h2; exact .inl h2
       | some rows' =>
         rw [hb] at h2; obtain ⟨b1, b2, sz', b3, b4⟩ := hback t rows' hb true 0 rows u e1 e2; obtain ⟨rows2, u2, sz2, ep2, rws2, row2, q1, q2, q3, q4, q5, q6⟩ := ((hfp t).2 γ _ h1).2 i k rfl; rw [e2] at q2; cases q2; rw [e3] at q3; cases q3; rw [e4] at q4; cases q4; have hset : setRow rws i k (.l rows') = rws.set i (row.set k (.l rows')) := by simp only [setRow, e4]
         obtain ⟨sz3, c1, c2⟩ := q6 w' (SB t) rows' (fun x hx hn => hkp.block x (by
          obtain ⟨ab, hg⟩ := hblk t γ _ h1
          exact (h.mine γ ab x hg hx).1) (fun hG => notOld h1 hx hn (.inr (.inr hG))))
          (fun x hx => by
            by_cases hs : ρ.S γ x
            · refine .inr (Classical.byContradiction fun hn => notOld h1 hs hn (.inr (hSB t x hx).1))
            · exact .inl hs) (z1b.2 ⟨sz', b4⟩)
         refine .inr ⟨sz1, Nat.succ ep, rws.set i (row.set k (.l rows')), by rw [h2]; simp only [hset], List.length_set, Nat.lt_succ_self _, fun j r r' hj hj' => ?_, sz3, c1, ?_⟩
         · rw [List.getElem?_set] at hj'
           by_cases hij : i = j
           · subst hij
             rw [if_pos rfl, if_pos (List.getElem?_eq_some_iff.1 hj).1] at hj'; rw [e4] at hj; cases hj; cases hj'; exact List.length_set
           · rw [if_neg hij, hj] at hj'; cases hj'; rfl
         · exact z0e.imp c2 (fun x hx => ⟨t, _, h1, hx.elim (fun hx => .inr ⟨(fun e => by cases e), hx.1, hx.2⟩) .inl⟩) (fun _ _ _ => Y) (fun _ _ _ _ hc => hc))
  exact ⟨ρ', r1, r2⟩
 cases d with
 | none =>
   obtain ⟨ρ', r1, _⟩ := hadopt (β := 0) (rcs := []) (us := #[]) (G := fun _ _ => False) (fun rc h => by cases h) trivial (fun _ _ h => h.elim) (fun _ _ _ h => h.elim) rfl (fun i rc u h => by simp at h); exact ⟨ρ', r1⟩
 | some d =>
   have hd' := hd d rfl; simp only [Option.getD_some] at hfr
   cases res with
   | one rc =>
     have happ : q3w (nameOf d) rc = qe (nameOf d) [rc] := by simp [qe]
     obtain ⟨ρ', h1, h2⟩ := hadopt (β := nameOf d) (rcs := [rc]) (us := #[v]) (G := fun i x => i = 0 ∧ SR x) (fun rc' hrc => by rw [List.mem_singleton.1 hrc]; exact hsm) (by rw [← happ]; exact hfr) (fun i x hx => hx.2) (fun i i' x h1 h2 => by rw [h1.1, h2.1]) rfl
      (fun i rc' u h1 h2 => by
        cases i with
        | zero =>
          cases h1; cases h2; have : (fun x => (0 : Nat) = 0 ∧ SR x) = SR := by funext x; simp
          show z0v w' _ (fun x => (0 : Nat) = 0 ∧ SR x) rc v; rw [this]; exact hres
        | succ i => simp at h1)
     refine ⟨ρ', ?_⟩
     have h3 := ye.put (d := some d) (av := q5m (nameOf d) rc) (v := v) h1 (fun t ht => by cases ht; exact hd') (by
      have := h2 0 rc v rfl rfl; simp only [Nat.mul_zero, Nat.add_zero] at this
      cases hav : q5m (nameOf d) rc with
      | one c => rw [hav] at this; exact this
      | agg cs => rw [hav] at this; exact this
      | tup vs => rw [hav] at this; exact this.elim)
     simp only [← happ] at h3; exact h3
   | tup rcs =>
     obtain ⟨arr, G, rfl, h1, h2, h3, h4⟩ := hres; obtain ⟨ρ', h5, h6⟩ := hadopt (β := nameOf d) (rcs := rcs) (us := arr) (G := G) (fun rc hrc => List.all_eq_true.1 hsm rc hrc) hfr h2 h3 h1 h4
     have hlenR : ∀ (rcs : List RC) (β : Nat), (y0b β rcs).length = rcs.length := by
      intro rcs
      induction rcs with
      | nil => intro β; rfl
      | cons c cs ih => intro β; rw [y0b, List.length_cons, List.length_cons, ih]
     have hgetR : ∀ (rcs : List RC) (β k : Nat) (c : AV), (y0b β rcs)[k]? = some c → ∃ rc, rcs[k]? = some rc ∧ c = q5m (β + 100 * k) rc := by
      intro rcs
      induction rcs with
      | nil => intro β k c hc; simp [y0b] at hc
      | cons c0 cs ih =>
        intro β k c hc; rw [y0b] at hc
        cases k with
        | zero => cases hc; exact ⟨c0, Y, Y⟩
        | succ k =>
          obtain ⟨oc, h1, h2⟩ := ih (β + 100) k c (by simpa using hc); exact ⟨oc, by simpa using h1, by rw [h2]; congr 1; omega⟩
     refine ⟨ρ', ye.put (d := some d) (av := .tup (y0b (nameOf d) rcs)) h5 (fun t ht => by cases ht; exact hd') ⟨arr, Y, ?_, fun k c u hc hu => ?_⟩⟩
     · rw [h1, hlenR]
     · obtain ⟨rc, hrc, rfl⟩ := hgetR rcs _ k c hc
       exact h6 k rc u hrc hu
end
end Go.Sx
end
section
namespace Go.Sx
def PM (P : Program) (f : Nat) (args : List SV) (k e n : Nat) (D : DataW Unit) : Prop :=
 okF P f = true ∧ ∀ (N : Nat → Prop) (w : World) (vals : Array Value), q4u w N vals args → Calls P f vals w fun ex w' => ∃ b, ex = .returned (.map (some b)) ∧ zt w w' (fun _ => False) ∧ w.heap.size ≤ b ∧ b < w'.heap.size ∧
  w'.ownsMap P k (plainElem P e) b n D
def yaz (P : Program) (σ : St) (d : Option Tmp) (f : Nat) (avs : List AV) (K : St → Prop) : Prop :=
 ∃ k e n D y, d = some y ∧ PM P f (avs.map (q8x σ.b)) k e n D ∧ q9q (wfV σ.b) avs ∧ get σ.b (nameOf y) = none ∧ K ⟨(y, .one (.mx 0 (nameOf y))) :: σ.t, y0d σ.b (nameOf y) (.mp k e n D none)⟩
section
variable {C : Ctx} {σ : St} {ρ : Env} {a : Act} {w w' : World}
theorem q5q (h : ye C σ ρ a w) {d : Option Tmp} {f : Nat} {avs : List AV} {vals : Array Value} {K : St → Prop} (hd : ∀ t, d = some t → t < C.T) (hk : yaz C.P σ d f avs K) (hs : vals.size = avs.length)
 (hv : ∀ (i : Nat) (av : AV) (v : Value), avs[i]? = some av → vals[i]? = some v → yw C w ρ σ.b av v) :
 okF C.P f = true ∧ Calls C.P f vals w fun e w' => ∃ v, e = .returned v ∧ ∃ σ', K σ' ∧ Rel C σ' (a.put d v) w' := by
 obtain ⟨k, e, n, D, y, rfl, ⟨hok, hpm⟩, hwf, hn, hK⟩ := hk; refine ⟨hok, ?_⟩
 have hargs : q4u w (fun _ => True) vals (avs.map (q8x σ.b)) := ⟨by simp [hs], fun i sv v h1 h2 => by
  rw [List.getElem?_map] at h1
  cases ha : avs[i]? with
  | none => rw [ha] at h1; cases h1
  | some av => rw [ha] at h1; cases h1; exact z8k h (hv i av v ha h2) (z24 hwf i av ha)⟩
 refine (hpm _ w vals hargs).mono ?_
 rintro e' w' ⟨b, rfl, hkp, hb1, hb2, ho⟩
 refine ⟨_, Y, _, hK, ?_⟩; have hne : ∀ ab, ¬ get σ.b (nameOf y) = some ab := fun ab h => by rw [hn] at h; cases h
 have h1 := h.upd (β := nameOf y) (ms := []) (ab' := .mp k e n D none) (v' := .map (some b)) (S' := fun x => x = b) (w' := w') (hkp.mono fun _ _ h => h.elim)
  (fun x hx => ⟨by subst hx; exact hb2, .inl (by subst hx; exact hb1)⟩) (by simp) (fun ab hab => absurd hab (hne ab)) (fun E => by
    refine ⟨b, by simp [Env.upd], by simp [Env.upd], ho⟩) (fun ab hab => absurd hab (hne ab))
 simp only [zp] at h1; exact ⟨_, ye.put (d := some y) (av := .one (.mx 0 (nameOf y))) h1 (fun t ht => by cases ht; exact hd y rfl) ⟨Y, _, by rw [yx, if_pos rfl], fun _ => by simp [Env.upd]⟩⟩
end
end Go.Sx
end
section
namespace Go.Sx
open Go.RowKit (Below)
section
variable {C : Ctx} {σ : St} {ρ : Env} {a : Act} {w w' : World}
theorem ye.yb4 (h : ye C σ ρ a w) {GS : Nat → Prop} (hk : zt w w' GS) {L : List (Nat × AB)} {V : Nat → Value} {F : Nat → Nat → Prop}
 (hG : ∀ x, GS x → ∃ β ab, get σ.b β = some ab ∧ (get L β).isSome = true ∧ ρ.S β x)
 (hM : ∀ β ab', get L β = some ab' → get σ.b β = none ∨ (∃ ab, get σ.b β = some ab ∧ (∀ cs', ab' = .var cs' → (∃ cs, ab = .var cs) ∧ V β = ρ.v β) ∧ ∀ full' sz' ep' rows', ab' = .arr full' sz' ep' rows' → ∃ full sz ep rows, ab = .arr full sz ep rows ∧ rows'.length = rows.length ∧ ep < ep' ∧ V β = ρ.v β ∧ ∀ (i : Nat) (row row' : List Cell), rows[i]? = some row → rows'[i]? = some row' → row'.length = row.length))
 (hF : ∀ β ab x, get L β = some ab → F β x → (w.heap.size ≤ x ∨ GS x ∨ ∃ ab0, get σ.b β = some ab0 ∧ ρ.S β x) ∧ x < w'.heap.size)
 (hd : ∀ β β' ab ab' x, get L β = some ab → get L β' = some ab' → F β x → F β' x → β = β')
 (hkd : ∀ β ab, get L β = some ab → Go.Sx.kd ab < 2)
 (hL : Evo C w ρ σ.b w' ⟨fun β => if (get L β).isSome then V β else ρ.v β, fun β => if (get L β).isSome then F β else ρ.S β⟩ (L ++ σ.b) → ∀ β ab, get L β = some ab → z0n C w' ⟨fun β => if (get L β).isSome then V β else ρ.v β, fun β => if (get L β).isSome then F β else ρ.S β⟩ (L ++ σ.b) β ab) :
 ye C ⟨σ.t, L ++ σ.b⟩ ⟨fun β => if (get L β).isSome then V β else ρ.v β, fun β => if (get L β).isSome then F β else ρ.S β⟩ a w' ∧
 Evo C w ρ σ.b w' ⟨fun β => if (get L β).isSome then V β else ρ.v β, fun β => if (get L β).isSome then F β else ρ.S β⟩ (L ++ σ.b) := by
 have src : ∀ β ab x, get (L ++ σ.b) β = some ab → (if (get L β).isSome then F β else ρ.S β) x → (get L β = some ab ∧ F β x) ∨ (get L β = none ∧ get σ.b β = some ab ∧ ρ.S β x) := fun β ab x hg hx => by
  rw [ym] at hg
  cases hl : get L β with
  | none => rw [hl] at hg hx; exact .inr ⟨Y, hg, hx⟩
  | some ab' => rw [hl] at hg hx; cases hg; exact .inl ⟨Y, hx⟩
 have notG : ∀ β ab x, get L β = none → get σ.b β = some ab → ρ.S β x → ¬ GS x := fun β ab x hn hg hx hgs => by
  obtain ⟨β', ab', h1, h2, h3⟩ := hG x hgs; have := h.disj β β' ab ab' x hg h1 hx h3; subst this; rw [hn] at h2; cases h2
 have E : Evo C w ρ σ.b w' ⟨fun β => if (get L β).isSome then V β else ρ.v β, fun β => if (get L β).isSome then F β else ρ.S β⟩ (L ++ σ.b) := by
  refine ⟨fun x hx hB => ?_, fun β ab hg => ?_, fun β ab ab1 hg hg' hm => ?_⟩
  · have hnG : ¬ GS x := fun hgs => by
     obtain ⟨β', ab', h1, _, h3⟩ := hG x hgs; exact hB.2 β' ab' h1 h3
    refine ⟨⟨hB.1, fun β ab hg hs => ?_⟩, hk.block x hx hnG⟩; rcases src β ab x hg hs with ⟨h1, h2⟩ | ⟨_, h1, h2⟩
    · rcases (hF β ab x h1 h2).1 with h3 | h3 | ⟨ab0, h3, h4⟩
      · omega
      · exact hnG h3
      · exact hB.2 β ab0 h3 h4
    · exact hB.2 β ab h1 h2
  · cases hl : get L β with
    | none =>
      refine ⟨ab, by rw [ym, hl]; exact hg, ?_⟩; simp only [hl, Option.isSome_none, Bool.false_eq_true, if_false]; refine ⟨fun cs' he => ⟨⟨cs', he⟩, trivial⟩, fun full sz ep rows he => ⟨full, sz, ep, rows, he, Nat.le_refl _, Nat.le_refl _, fun _ => ⟨trivial, fun i row row' h1 h2 => by rw [h1] at h2; cases h2; rfl⟩, fun _ => ⟨Y, fun i k hL => ⟨hL, fun g row v hog hrow hc => ?_⟩⟩⟩⟩; subst he
      have hS : ρ.S β g := by
       obtain ⟨sz', _, hslab⟩ := h.y0k β _ hg; obtain ⟨row0, rs, h1, h2⟩ := hL; obtain ⟨g', cap, F', u, hv, hSg, _⟩ := y0t hslab h1 h2; rw [hv] at hog; cases hog; exact hSg
      exact (World.cell?_of_block (hk.block g (World.block_lt_of_cell? w _ hc) (notG β _ g hl hg hS))).trans hc
    | some ab' =>
      refine ⟨ab', by rw [ym, hl]; rfl, ?_⟩; simp only [hl, Option.isSome_some, if_true]; rcases hM β ab' hl with hn | ⟨ab0, h1, h2, h3⟩
      · rw [hn] at hg; cases hg
      · rw [hg] at h1
        cases h1; refine ⟨fun cs' he => h2 cs' he, fun full' sz' ep' rows' he => ?_⟩; obtain ⟨full, sz, ep, rows, e1, e2, e3, e4, e5⟩ := h3 _ _ _ _ he; exact ⟨full, sz, ep, rows, e1, by omega, by omega, fun _ => ⟨e4, e5⟩, fun he => by omega⟩
  · rw [ym] at hg'
    cases hl : get L β with
    | none =>
      rw [hl] at hg'; have : get σ.b β = some ab1 := hg'; rw [hg] at this; cases this; simp only [hl, Option.isSome_none, Bool.false_eq_true, if_false]; exact ⟨trivial, trivial⟩
    | some ab' =>
      rw [hl] at hg'; cases hg'; exact absurd hm (by have := hkd β _ hl; omega)
 refine ⟨h.next E (hk.mono (fun x _ hx => ?_)) (fun β ab hg => ?_) (fun β β' ab ab' x hg hg' hx hx' => ?_) (fun β ab x hg hx => ?_), E⟩
 · obtain ⟨β, ab, h1, _, h3⟩ := hG x hx
   exact ⟨β, ab, h1, h3⟩
 · rw [ym] at hg
   cases hl : get L β with
   | none =>
     rw [hl] at hg; exact .inl ⟨hg, by simp [hl], by simp [hl], fun x hx => hk.block x (h.mine β ab x hg hx).1 (notG β ab x hl hg hx)⟩
   | some ab' =>
     rw [hl] at hg; cases hg; exact .inr (hL E β _ hl)
 · have cross : ∀ {β β' : Nat} {ab ab' : AB} {x : Nat}, get L β = some ab → F β x → get L β' = none → get σ.b β' = some ab' → ρ.S β' x → False := fun {β β' ab ab' x} h1 h2 h3 h4 h5 => by
    rcases (hF β ab x h1 h2).1 with h6 | h6 | ⟨ab0, h6, h7⟩
    · have := (h.mine β' ab' x h4 h5).1; omega
    · exact notG β' ab' x h3 h4 h5 h6
    · have := h.disj β β' ab0 ab' x h6 h4 h7 h5
      subst this; rw [h1] at h3; cases h3
   rcases src β ab x hg hx with ⟨h1, h2⟩ | ⟨h0, h1, h2⟩ <;> rcases src β' ab' x hg' hx' with ⟨h1', h2'⟩ | ⟨h0', h1', h2'⟩
   · exact hd β β' _ _ x h1 h1' h2 h2'
   · exact (cross h1 h2 h0' h1' h2').elim
   · exact (cross h1' h2' h0 h1 h2).elim
   · exact h.disj β β' _ _ x h1 h1' h2 h2'
 · rcases src β ab x hg hx with ⟨h1, h2⟩ | ⟨_, h1, h2⟩
   · obtain ⟨h3, h4⟩ := hF β ab x h1 h2
     refine ⟨h4, ?_⟩; rcases h3 with h3 | h3 | ⟨ab0, h3, h5⟩
     · exact .inl (Nat.le_trans h.keep.size h3)
     · obtain ⟨β', ab', h5, _, h6⟩ := hG x h3
       exact (h.mine β' ab' x h5 h6).2
     · exact (h.mine β ab0 x h3 h5).2
   · have := h.mine β ab x h1 h2
     exact ⟨Nat.lt_of_lt_of_le this.1 hk.size, this.2⟩
theorem z6x (h : ye C σ ρ a w) {GS : Nat → Prop} (hk : zt w w' GS) {T : List (Nat × AB)} {SB : Nat → Nat → Prop} {β : Nat} {rcs : List RC} {us : Array Value} {S : Nat → Prop} {G : Nat → Nat → Prop} {N : Nat → Prop} (hs : ∀ rc ∈ rcs, q10 rc = true) (hf : y0c σ.b (qe β rcs))
 (hS : ∀ x, S x → (w.heap.size ≤ x ∨ GS x) ∧ x < w'.heap.size ∧ ∀ γ, ¬ SB γ x) (hG : ∀ i x, G i x → S x) (hGd : ∀ i i' x, G i x → G i' x → i = i') (hsz : us.size = rcs.length) (hr : ∀ (i : Nat) (rc : RC) (u : Value), rcs[i]? = some rc → us[i]? = some u → z0v w' N (G i) rc u)
 (hN : ∀ x, N x → (Bor C ρ σ.b x ∨ w.heap.size ≤ x ∨ GS x) ∧ ¬ S x ∧ ∀ γ, ¬ SB γ x)
 (hGS : ∀ x, GS x → ∃ γ ab, get σ.b γ = some ab ∧ (get T γ).isSome = true ∧ ρ.S γ x)
 (hSB : ∀ γ x, SB γ x → (w.heap.size ≤ x ∨ GS x ∨ ∃ ab0, get σ.b γ = some ab0 ∧ ρ.S γ x) ∧ x < w'.heap.size) (hSBd : ∀ γ γ' x, SB γ x → SB γ' x → γ = γ')
 (hT : ∀ γ ab', get T γ = some ab' → (∃ full sz ep rows, get σ.b γ = some (.arr full sz ep rows) ∧ (ab' = .dead ∨ ∃ sz1 ep' rows', ab' = .arr full sz1 ep' rows' ∧ rows'.length = rows.length ∧ ep < ep' ∧ (∀ (i : Nat) (row row' : List Cell), rows[i]? = some row → rows'[i]? = some row' → row'.length = row.length) ∧
   ∃ sz', (sz1 ≠ 0 → sz' = sz1) ∧ z0e w' (match full with | true => Own w' | false => fun _ c u => Rep w' N c u) (SB γ) sz' rows' (ρ.v γ))) ∨
   ∃ cs0 acs' g ty j cs1, ∃ cells : Array Value, get σ.b γ = some (.var cs0) ∧ ab' = .var acs' ∧ ρ.v γ = .pointer (some ⟨g, 0, none⟩) ∧ SB γ g ∧ w'.heap[g]? = some (.cells cells ty (0, 0)) ∧ cells.size = acs'.length ∧ rcs[j]? = some (.own true cs1) ∧ us[j]? = some (.agg cells) ∧
     ∀ (k : Nat) (c : AC) (u : Value), acs'[k]? = some c → cells[k]? = some u → qv C w ρ σ.b c u ∨ ∃ oc, cs1[k]? = some oc ∧ c = z9y (β + 100 * j + k) oc) :
 ∃ ρ', ye C ⟨σ.t, (qe β rcs ++ T) ++ σ.b⟩ ρ' a w' ∧ Evo C w ρ σ.b w' ρ' ((qe β rcs ++ T) ++ σ.b) ∧ ∀ (i : Nat) (rc : RC) (u : Value), rcs[i]? = some rc → us[i]? = some u → q02 C w' ρ' ((qe β rcs ++ T) ++ σ.b) (q5m (β + 100 * i) rc) u := by
 have hch : ∀ i : Nat, ∃ (arr : Array Value) (F : Nat → Nat → Prop), ∀ (ag : Bool) (cs : List OC) (u : Value), rcs[i]? = some (.own ag cs) → us[i]? = some u → shape ag u arr ∧ arr.size = cs.length ∧ (∀ k x, F k x → G i x) ∧ (∀ k k' x, F k x → F k' x → k = k') ∧ ∀ (k : Nat) (c : OC) (v : Value), cs[k]? = some c → arr[k]? = some v → y23 w' (F k) c v := by
  intro i
  cases hrc : rcs[i]? with
  | none => exact ⟨#[], fun _ _ => False, fun ag cs u h1 => by cases h1⟩
  | some rc =>
    cases hu : us[i]? with
    | none => exact ⟨#[], fun _ _ => False, fun ag cs u _ h2 => by cases h2⟩
    | some u =>
      cases rc with
      | bor ag cs => exact ⟨#[], fun _ _ => False, fun ag cs u h1 => by cases h1⟩
      | own ag cs =>
        obtain ⟨arr, F, h1, h2, h3, h4, h5⟩ := hr i _ u hrc hu; exact ⟨arr, F, fun ag' cs' u' e1 e2 => by cases e1; cases e2; exact ⟨h1, h2, h3, h4, h5⟩⟩
 have hA : ∃ (A : Nat → Array Value) (F : Nat → Nat → Nat → Prop), ∀ i, ∀ (ag : Bool) (cs : List OC) (u : Value), rcs[i]? = some (.own ag cs) → us[i]? = some u → shape ag u (A i) ∧ (A i).size = cs.length ∧ (∀ k x, F i k x → G i x) ∧ (∀ k k' x, F i k x → F i k' x → k = k') ∧ ∀ (k : Nat) (c : OC) (v : Value), cs[k]? = some c → (A i)[k]? = some v → y23 w' (F i k) c v :=
  ⟨fun i => Classical.choose (hch i), fun i => Classical.choose (Classical.choose_spec (hch i)), fun i => Classical.choose_spec (Classical.choose_spec (hch i))⟩
 obtain ⟨A, F, hA⟩ := hA
 have hus : ∀ {i : Nat} {rc : RC}, rcs[i]? = some rc → ∃ u, us[i]? = some u := fun {i rc} hi => by
  have : i < us.size := by rw [hsz]; exact (List.getElem?_eq_some_iff.1 hi).1
  exact ⟨us[i], by simp [this]⟩
 have hdiv : ∀ {γ i k : Nat}, γ = β + 100 * i + k → k < 100 → (γ - β) / 100 = i ∧ (γ - β) % 100 = k := fun {γ i k} h1 h2 => by omega
 have hfr : ∀ (L : List (Nat × AB)), y0c σ.b L → ∀ β ab, get L β = some ab → get σ.b β = none := by
  intro L
  induction L with
  | nil => intro _ β ab h; cases h
  | cons p L ih =>
    obtain ⟨k, v⟩ := p; intro hf β ab hg; rw [za] at hg; by_cases hk : k = β
    · rw [← hk]; exact hf.1
    · rw [if_neg hk] at hg; exact ih hf.2 β ab hg
 have two : ∀ γ ab, get (qe β rcs ++ T) γ = some ab → (get (qe β rcs) γ = some ab ∧ get σ.b γ = none) ∨ (get (qe β rcs) γ = none ∧ get T γ = some ab) := fun γ ab hg => by
  rw [ym] at hg
  cases hl : get (qe β rcs) γ with
  | none => rw [hl] at hg; exact .inr ⟨Y, hg⟩
  | some ab' => rw [hl] at hg; cases hg; exact .inl ⟨Y, hfr _ hf γ _ hl⟩
 have fS : ∀ γ ab x, get (qe β rcs) γ = some ab → F ((γ - β) / 100) ((γ - β) % 100) x → S x := fun γ ab x hg hx => by
  obtain ⟨i, k, ag, cs, sz, rows, h1, h2, h3, h4, h5⟩ := y0a hs hg; obtain ⟨u, hu⟩ := hus h3; obtain ⟨e1, e2⟩ := hdiv h1 h2; rw [e1, e2] at hx; exact hG i x ((hA i ag cs u h3 hu).2.2.1 k x hx)
 generalize hVV : (fun γ => if (get (qe β rcs) γ).isSome then ((A ((γ - β) / 100))[(γ - β) % 100]?).getD undef else ρ.v γ : Nat → Value) = VV; generalize hFF : (fun γ => if (get (qe β rcs) γ).isSome then F ((γ - β) / 100) ((γ - β) % 100) else SB γ : Nat → Nat → Prop) = FF
 have FFs : ∀ γ ab x, get (qe β rcs ++ T) γ = some ab → FF γ x → S x ∨ SB γ x := fun γ ab x hg hx => by
  rw [← hFF] at hx; rcases two γ ab hg with ⟨h1, _⟩ | ⟨h1, _⟩
  · rw [h1] at hx; exact .inl (fS γ ab x h1 hx)
  · rw [h1] at hx; exact .inr hx
 have hNB : ∀ x, N x → Bor C ⟨fun γ => if (get (qe β rcs ++ T) γ).isSome then VV γ else ρ.v γ, fun γ => if (get (qe β rcs ++ T) γ).isSome then FF γ else ρ.S γ⟩ ((qe β rcs ++ T) ++ σ.b) x := fun x hx => by
  obtain ⟨h1, h2, h3⟩ := hN x hx; refine ⟨?_, fun γ ab hg hS' => ?_⟩
  · rcases h1 with h1 | h1 | h1
    · exact h1.1
    · exact .inr (.inl (Nat.le_trans h.keep.size h1))
    · obtain ⟨γ, ab, h4, _, h5⟩ := hGS x h1
      exact .inr (h.mine γ ab x h4 h5).2
  · dsimp only at hS'
    rw [ym] at hg
    cases hl : get (qe β rcs ++ T) γ with
    | some ab' =>
      rw [hl] at hS'; rcases FFs γ ab' x hl hS' with h4 | h4
      · exact h2 h4
      · exact h3 γ h4
    | none =>
      rw [hl] at hg hS'; rcases h1 with h1 | h1 | h1
      · exact h1.2 γ ab hg hS'
      · have := (h.mine γ ab x hg hS').1; omega
      · obtain ⟨γ', ab', h4, h5, h6⟩ := hGS x h1
        have := h.disj γ γ' ab ab' x hg h4 hS' h6; subst this; rw [ym] at hl
        cases hr' : get (qe β rcs) γ with
        | none => rw [hr'] at hl; rw [show get T γ = none from hl] at h5; cases h5
        | some _ => rw [hr'] at hl; cases hl
 have hVn : ∀ {i k sz : Nat} {ag : Bool} {cs : List OC} {rows : List (List Cell)}, rcs[i]? = some (.own ag cs) → cs[k]? = some (.l sz rows) → (if (get (qe β rcs ++ T) (β + 100 * i + k)).isSome then VV (β + 100 * i + k) else ρ.v (β + 100 * i + k)) = ((A i)[k]?).getD undef := fun {i k sz ag cs rows} h1 h2 => by
  have hk := (List.getElem?_eq_some_iff.1 h2).1; have := z15 (hs _ (List.mem_of_getElem? h1)) rfl; obtain ⟨e1, e2⟩ := hdiv (γ := β + 100 * i + k) rfl (by omega); have e3 : (get (qe β rcs ++ T) (β + 100 * i + k)).isSome = true := by rw [ym, y10 hs h1 h2]; rfl
  rw [if_pos e3, ← hVV]; simp only [y10 hs h1 h2, Option.isSome_some, if_true, e1, e2]
 have ocRel : ∀ {i k : Nat} {ag : Bool} {cs : List OC} {oc : OC} {u v : Value}, rcs[i]? = some (.own ag cs) → us[i]? = some u → cs[k]? = some oc → (A i)[k]? = some v → qv C w' ⟨fun γ => if (get (qe β rcs ++ T) γ).isSome then VV γ else ρ.v γ, fun γ => if (get (qe β rcs ++ T) γ).isSome then FF γ else ρ.S γ⟩ ((qe β rcs ++ T) ++ σ.b) (z9y (β + 100 * i + k) oc) v := fun {i k ag cs oc u v} hi hu hoc hv => by
  obtain ⟨a1, a2, a3, a4, a5⟩ := hA i ag cs u hi hu; have h6 := a5 k oc v hoc hv
  cases oc with
  | s x => obtain ⟨rfl, h7⟩ := h6; exact .s _ h7
  | l sz rows =>
    obtain ⟨sz', hsz', hslab⟩ := h6; obtain ⟨B1, cap, hv'⟩ := hslab.slice; refine ⟨⟨B1, cap, hv'⟩, .arr true sz 0 rows, by rw [ym, ym, y10 hs hi hoc]; rfl, fun f' s' e' r' he => ?_⟩; cases he; refine ⟨Nat.le_refl _, fun _ => ?_⟩; have := hVn hi hoc; rw [hv] at this; exact this.symm
 obtain ⟨hrel, E⟩ := h.yb4 hk (L := qe β rcs ++ T) (V := VV) (F := FF)
  (fun x hx => by
    obtain ⟨γ, ab, h1, h2, h3⟩ := hGS x hx; refine ⟨γ, ab, h1, ?_, h3⟩; rw [ym]
    cases get (qe β rcs) γ with
    | some _ => rfl
    | none => exact h2)
  (fun γ ab' hg => by
    rcases two γ ab' hg with ⟨_, h2⟩ | ⟨h0, h2⟩
    · exact .inl h2
    · have hVg : VV γ = ρ.v γ := by rw [← hVV]; simp only [h0, Option.isSome_none, Bool.false_eq_true, if_false]
      rcases hT γ ab' h2 with ⟨full, sz, ep, rows, h3, h4⟩ | ⟨cs0, acs', g, ty, j, cs1, cells, h3, rfl, _⟩
      · refine .inr ⟨_, h3, fun cs' he => ?_, fun full' sz' ep' rows' he => ?_⟩
        · rcases h4 with h4 | ⟨_, _, _, h4, _⟩ <;> rw [h4] at he <;> cases he
        · rcases h4 with h4 | ⟨_, _, _, h4, h5, h6, h7, _⟩
          · rw [h4] at he; cases he
          · rw [h4] at he
            cases he; exact ⟨full, sz, ep, rows, Y, h5, h6, hVg, h7⟩
      · exact .inr ⟨_, h3, fun cs' he => ⟨⟨cs0, Y⟩, hVg⟩, fun full' sz' ep' rows' he => by cases he⟩)
  (fun γ ab x hg hx => by
    rcases FFs γ ab x hg hx with h1 | h1
    · exact ⟨(hS x h1).1.imp id .inl, (hS x h1).2.1⟩
    · exact hSB γ x h1)
  (fun γ γ' ab ab' x hg hg' hx hx' => by
    rw [← hFF] at hx hx'; rcases two γ ab hg with ⟨h1, _⟩ | ⟨h1, _⟩ <;> rcases two γ' ab' hg' with ⟨h1', _⟩ | ⟨h1', _⟩
    · rw [h1] at hx; rw [h1'] at hx'
      obtain ⟨i, k, ag, cs, sz, rows, a1, a2, a3, a4, a5⟩ := y0a hs h1; obtain ⟨i', k', ag', cs', sz', rows', a1', a2', a3', a4', a5'⟩ := y0a hs h1'; obtain ⟨u, hu⟩ := hus a3; obtain ⟨u', hu'⟩ := hus a3'; obtain ⟨e1, e2⟩ := hdiv a1 a2; obtain ⟨e1', e2'⟩ := hdiv a1' a2'; simp only [Option.isSome_some, if_true, e1, e2] at hx; simp only [Option.isSome_some, if_true, e1', e2'] at hx'; have hii := hGd i i' x ((hA i ag cs u a3 hu).2.2.1 k x hx) ((hA i' ag' cs' u' a3' hu').2.2.1 k' x hx'); subst hii; have := (hA i ag cs u a3 hu).2.2.2.1 k k' x hx hx'; omega
    · rw [h1] at hx; rw [h1'] at hx'
      exact absurd hx' ((hS x (fS γ ab x h1 hx)).2.2 γ')
    · rw [h1] at hx; rw [h1'] at hx'
      exact absurd hx ((hS x (fS γ' ab' x h1' hx')).2.2 γ)
    · rw [h1] at hx; rw [h1'] at hx'
      exact hSBd γ γ' x hx hx')
  (fun γ ab hg => by
    rcases two γ ab hg with ⟨h1, _⟩ | ⟨h1, h2⟩
    · obtain ⟨i, k, ag, cs, sz, rows, b1, b2, b3, b4, b5⟩ := y0a hs h1
      subst b5; show (0 : Nat) < 2; omega
    · rcases hT γ ab h2 with ⟨full, sz, ep, rows, _, h4⟩ | ⟨cs0, acs', g, ty, j, cs1, cells, h3, rfl, _⟩
      · rcases h4 with rfl | ⟨sz1, ep', rows', rfl, _⟩ <;> (show (0 : Nat) < 2; omega)
      · show (1 : Nat) < 2; omega)
  (fun E γ ab hg => by
    have hsm : (get (qe β rcs ++ T) γ).isSome = true := by rw [hg]; rfl
    rcases two γ ab hg with ⟨h1, _⟩ | ⟨h1, h2⟩
    · obtain ⟨i, k, ag, cs, sz, rows, b1, b2, b3, b4, b5⟩ := y0a hs h1
      obtain ⟨u, hu⟩ := hus b3; obtain ⟨e1, e2⟩ := hdiv b1 b2; obtain ⟨a1, a2, a3, a4, a5⟩ := hA i ag cs u b3 hu; have hlt : k < (A i).size := by rw [a2]; exact (List.getElem?_eq_some_iff.1 b4).1
      have hs5 := a5 k _ (A i)[k] b4 (by simp [hlt]); have e3 : VV γ = (A i)[k] := by rw [← hVV]; simp only [h1, Option.isSome_some, if_true, e1, e2, hlt, getElem?_pos, Option.getD_some]
      have e4 : FF γ = F i k := by rw [← hFF]; simp only [h1, Option.isSome_some, if_true, e1, e2]
      subst b5; obtain ⟨sz', hsz', hs6⟩ := hs5; refine ⟨sz', hsz', ?_⟩; simp only [hsm, if_true, e3, e4]; exact hs6
    · have e1 : VV γ = ρ.v γ := by rw [← hVV]; simp only [h1, Option.isSome_none, Bool.false_eq_true, if_false]
      have e2 : FF γ = SB γ := by rw [← hFF]; simp only [h1, Option.isSome_none, Bool.false_eq_true, if_false]
      rcases hT γ ab h2 with ⟨full, sz, ep, rows, _, h4⟩ | ⟨cs0, acs', g, ty, j, cs1, cells, h3, rfl, h5, h6, h7, h8, h9, h10, h11⟩
      · rcases h4 with rfl | ⟨sz1, ep', rows', rfl, _, _, _, sz', hsz', hslab⟩
        · trivial
        · refine ⟨sz', hsz', ?_⟩
          simp only [hsm, if_true, e1, e2]; refine z0e.imp hslab (fun _ h => h) (fun _ _ _ => Y) (fun F' c u _ hc => ?_)
          cases full with
          | true => exact hc
          | false => exact Rep.mono hc (fun x _ hx => hNB x hx)
      · refine ⟨g, cells, ty, ?_, ?_, h7, h8, fun k c u hc hu => ?_⟩
        · simp only [hsm, if_true, e1]; exact h5
        · simp only [hsm, if_true, e2]; exact h6
        · rcases h11 k c u hc hu with h12 | ⟨oc, h12, rfl⟩
          · exact qv.evo E h12
          · obtain ⟨a1, _⟩ := hA j true cs1 _ h9 h10
            have a1' : Value.agg cells = .agg (A j) := a1; cases a1'
            exact ocRel h9 h10 h12 hu)
 generalize hρ' : (⟨fun γ => if (get (qe β rcs ++ T) γ).isSome then VV γ else ρ.v γ, fun γ => if (get (qe β rcs ++ T) γ).isSome then FF γ else ρ.S γ⟩ : Env) = ρ' at hrel E hNB; have hVn' : ∀ {i k sz : Nat} {ag : Bool} {cs : List OC} {rows : List (List Cell)}, rcs[i]? = some (.own ag cs) → cs[k]? = some (.l sz rows) → ρ'.v (β + 100 * i + k) = ((A i)[k]?).getD undef := by rw [← hρ']; exact hVn
 refine ⟨ρ', hrel, E, fun i rc u hi hu => ?_⟩
 have relMk : ∀ (ag : Bool) (cs : List AC) (arr : Array Value), shape ag u arr → arr.size = cs.length → (∀ (k : Nat) (c : AC) (v : Value), cs[k]? = some c → arr[k]? = some v → qv C w' ρ' ((qe β rcs ++ T) ++ σ.b) c v) → q02 C w' ρ' ((qe β rcs ++ T) ++ σ.b) (y9x ag cs) u := by
  intro ag cs arr h1 h2 h3; unfold y9x
  cases ag with
  | true => exact ⟨arr, h1, h2, h3⟩
  | false =>
    have h1' : arr = #[u] := h1; subst h1'
    match cs, h2, h3 with
    | [c], _, h3 => exact h3 0 c u rfl rfl
 cases rc with
 | bor ag cs =>
   obtain ⟨arr, h1, h2, h3⟩ := hr i _ u hi hu; refine relMk ag (cs.map .b) arr h1 (by simp [h2]) (fun k c v hc hv => ?_); rw [List.getElem?_map] at hc
   cases hk2 : cs[k]? with
   | none => rw [hk2] at hc; cases hc
   | some c0 =>
     rw [hk2] at hc; cases hc; exact Rep.mono (h3 k c0 v hk2 hv) (fun x _ hx => hNB x hx)
 | own ag cs =>
   obtain ⟨a1, a2, a3, a4, a5⟩ := hA i ag cs u hi hu
   have hlenAC : ∀ (cs : List OC) (β : Nat), (q1i β cs).length = cs.length := by
    intro cs
    induction cs with
    | nil => intro β; rfl
    | cons c cs ih => intro β; rw [q1i, List.length_cons, List.length_cons, ih]
   have hgetAC : ∀ (cs : List OC) (β k : Nat) (c : AC), (q1i β cs)[k]? = some c → ∃ oc, cs[k]? = some oc ∧ c = z9y (β + k) oc := by
    intro cs
    induction cs with
    | nil => intro β k c hc; simp [q1i] at hc
    | cons c0 cs ih =>
      intro β k c hc; rw [q1i] at hc
      cases k with
      | zero => cases hc; exact ⟨c0, Y, Y⟩
      | succ k =>
        obtain ⟨oc, h1, h2⟩ := ih (β + 1) k c (by simpa using hc); exact ⟨oc, by simpa using h1, by rw [h2]; congr 1; omega⟩
   refine relMk ag _ (A i) a1 (by rw [a2, hlenAC]) (fun k c v hc hv => ?_); obtain ⟨oc, hoc, rfl⟩ := hgetAC cs _ k c hc; have h6 := a5 k oc v hoc hv
   cases oc with
   | s x => obtain ⟨rfl, h7⟩ := h6; exact .s _ h7
   | l sz rows =>
     obtain ⟨sz', hsz', hslab⟩ := h6; obtain ⟨B1, cap, hv'⟩ := hslab.slice; refine ⟨⟨B1, cap, hv'⟩, .arr true sz 0 rows, by rw [ym, ym, y10 hs hi hoc]; rfl, fun f' s' e' r' he => ?_⟩; cases he; refine ⟨Nat.le_refl _, fun _ => ?_⟩; rw [hVn' hi hoc, hv]; rfl
end
def q2d (rows rows' : List (List Cell)) : Prop := ∀ (i : Nat) (row row' : List Cell), rows[i]? = some row → rows'[i]? = some row' → row'.length = row.length
inductive PK where
 | k (c : Cell)
 | n (c c' : OC)
 | b (sz : Nat) (rows rows' : List (List Cell))
def yb0 (w : World) (N F : Nat → Prop) : PK → Value → Prop
 | .k c, u => Rep w N c u
 | .n c _, u => y23 w F c u
 | .b sz rows _, u => y23 w F (.l sz rows) u
def qbu (w' : World) (F' : Nat → Prop) : PK → Value → Value → Prop
 | .k _, u, u' => u' = u
 | .n _ c', _, u' => y23 w' F' c' u'
 | .b sz rows rows', u, u' => u' = u ∧ rows'.length = rows.length ∧ q2d rows rows' ∧ y23 w' F' (.l sz rows') u'
def PP (P : Program) (f p : Nat) (cs : List PK) (args : List SV) (res : Res) : Prop :=
 okF P f = true ∧ ∀ (N : Nat → Prop) (F : Nat → Nat → Prop) (w : World) (vals cells : Array Value) (g : Nat) (ty : TypeId),
  (∀ k x, F k x → x < w.heap.size ∧ ¬ N x ∧ x ≠ g) → ¬ N g → (∀ k k' x, F k x → F k' x → k = k') →
  w.heap[g]? = some (.cells cells ty (0, 0)) → cells.size = cs.length → (∀ (k : Nat) (c : PK) (u : Value), cs[k]? = some c → cells[k]? = some u → yb0 w N (F k) c u) →
  vals.size = args.length → vals[p]? = some (.pointer (some ⟨g, 0, none⟩)) → (∀ (i : Nat) (sv : SV) (v : Value), i ≠ p → args[i]? = some sv → vals[i]? = some v → z6w w N sv v) →
  Calls P f vals w fun e w' => ∃ (v : Value) (SR : Nat → Prop) (F' : Nat → Nat → Prop) (cells' : Array Value) (ty' : TypeId), e = .returned v ∧ zt w w' (fun x => x = g ∨ ∃ k, F k x) ∧
   w'.heap[g]? = some (.cells cells' ty' (0, 0)) ∧ cells'.size = cs.length ∧ (∀ (k : Nat) (c : PK) (u u' : Value), cs[k]? = some c → cells[k]? = some u → cells'[k]? = some u' → qbu w' (F' k) c u u') ∧
   q1e w' (fun _ => True) SR res v ∧ (∀ x, SR x → (w.heap.size ≤ x ∨ ∃ k, F k x) ∧ x < w'.heap.size ∧ x ≠ g ∧ ∀ k, ¬ F' k x) ∧
   (∀ k x, F' k x → (w.heap.size ≤ x ∨ ∃ k, F k x) ∧ x < w'.heap.size ∧ x ≠ g) ∧ ∀ k k' x, F' k x → F' k' x → k = k'
def ybs : List Nat → Nat → Bool
 | [], _ => true
 | g :: l, γ => bif Nat.beq g γ then false else ybs l γ
theorem y8d : ∀ {G : List Nat} {γ : Nat}, ybs G γ = true → γ ∉ G
 | [], γ, _ => by simp
 | g :: l, γ, h => by
   rw [ybs] at h
   cases hb : Nat.beq g γ with
   | true => rw [hb] at h; cases h
   | false =>
     rw [hb] at h; intro hm; rcases List.mem_cons.1 hm with rfl | hm
     · simp at hb
     · exact y8d h hm
def okA (B : List (Nat × AB)) (G : List Nat) : AC → Prop
 | .b _ => True
 | .nil => True
 | .em => True
 | .h γ n => ybs G γ = true ∧ (match get B γ with | some (.arr _ _ _ rows) => n = rows.length | _ => False)
 | .mx m γ => m = 2 ∧ (match get B γ with | some (.kp _) => True | _ => False)
 | _ => False
def zbt (B : List (Nat × AB)) (G : List Nat) : AV → Prop
 | .one c => okA B G c
 | .agg cs => z7p (okA B G) cs
 | .tup _ => False
def q6o (B : List (Nat × AB)) (G : List Nat) : Nat → List AV → Prop
 | _, [] => True
 | 0, _ :: l => q9q (zbt B G) l
 | p + 1, v :: l => zbt B G v ∧ q6o B G p l
def mOC (B : List (Nat × AB)) : AC → OC → Prop
 | .b (.s v), .s v' => v = v'
 | .nil, .l _ rows => rows = []
 | .em, .l _ rows => rows = []
 | .h β n, .l sz rows => (match get B β with | some (.arr true sz' _ rows') => n = rows'.length ∧ rows' = rows ∧ (sz = sz' ∨ sz = 0) | _ => False)
 | _, _ => False
def pmC (B : List (Nat × AB)) (G : List Nat) : AC → PK → Prop
 | c, .k c' => okA B G c ∧ y2w B c = c'
 | c, .n o _ => mOC B c o
 | .h γ n, .b sz rows _ => (match get B γ with | some (.arr true sz' _ rows') => n = rows'.length ∧ rows' = rows ∧ sz = sz' | _ => False)
 | _, _ => False
def ybt (B : List (Nat × AB)) (G : List Nat) : List AC → List PK → Prop
 | [], [] => True
 | c :: l, p :: l' => pmC B G c p ∧ ybt B G l l'
 | _, _ => False
def y7c : AC → PK → Option Nat
 | .h γ _, .n _ _ => some γ
 | .h γ _, .b _ _ _ => some γ
 | _, _ => none
def y0v : List AC → List PK → List Nat
 | c :: l, p :: l' => (match y7c c p with | some γ => γ :: y0v l l' | none => y0v l l')
 | _, _ => []
def z2c : PK → OC
 | .n _ c' => c'
 | _ => .s (.bool false)
def z1t : Nat → List AC → List PK → List AC
 | b, _ :: l, .n _ c' :: l' => z9y b c' :: z1t (b + 1) l l'
 | b, c :: l, _ :: l' => c :: z1t (b + 1) l l'
 | _, _, _ => []
def z05 (B : List (Nat × AB)) : List AC → List PK → List (Nat × AB)
 | .h γ _ :: l, .n _ _ :: l' => (γ, .dead) :: z05 B l l'
 | .h γ _ :: l, .b _ _ rows' :: l' => (γ, match get B γ with | some (.arr full sz ep _) => .arr full sz (Nat.succ ep) rows' | _ => .dead) :: z05 B l l'
 | _ :: l, _ :: l' => z05 B l l'
 | _, _ => []
def yax : Res → Nat
 | .one _ => 1
 | .tup rcs => rcs.length
def pbase (d : Option Tmp) (res : Res) (e : Nat) : Nat := match d with | some d => nameOf d + 100 * yax res | none => e
def z7o (σ : St) (d : Option Tmp) (res : Res) (e β : Nat) (acs : List AC) (cs : List PK) : St := match d with
 | some d => ⟨(d, z7e (nameOf d) res) :: σ.t, ((z1d (nameOf d) res ++ z0m (nameOf d + 100 * yax res) (cs.map z2c)) ++ ((β, .var (z1t (nameOf d + 100 * yax res) acs cs)) :: z05 σ.b acs cs)) ++ σ.b⟩
 | none => ⟨σ.t, (z0m e (cs.map z2c) ++ ((β, .var (z1t e acs cs)) :: z05 σ.b acs cs)) ++ σ.b⟩
def yc3 (d : Option Tmp) (res : Res) (e : Nat) (cs : List PK) : List (Nat × AB) := match d with
 | some d => z1d (nameOf d) res ++ z0m (nameOf d + 100 * yax res) (cs.map z2c)
 | none => z0m e (cs.map z2c)
def qaz (P : Program) (σ : St) (d : Option Tmp) (f : Nat) (avs : List AV) (K : St → Prop) : Prop :=
 ∃ (p e β : Nat) (acs : List AC) (cs : List PK) (res : Res), PP P f p cs ((avs.map (q8x σ.b)).set p (.agg [])) res ∧ y0o res = true ∧ y2p res = false ∧ cs.length ≤ 100 ∧
   avs[p]? = some (.one (.a β 0)) ∧ get σ.b β = some (.var acs) ∧ ybt σ.b (y0v acs cs) acs cs ∧ (y0v acs cs).Nodup ∧ q6o σ.b (y0v acs cs) p avs ∧ y0c σ.b (yc3 d res e cs) ∧ K (z7o σ d res e β acs cs)
section
variable {C : Ctx} {σ : St} {ρ : Env} {a : Act} {w w' : World}
theorem y8n {full : Bool} {S N : Nat → Prop} {sz : Nat} {rows : List (List Cell)} {v : Value} {B : List (Nat × AB)} (h : z0e w (CC C w ρ B full) S sz rows v) (hS : ∀ x, S x → N x) (hB : ∀ x, Bor C ρ B x → N x) : Rep w N (.l rows) v := by
 rcases h with ⟨rfl, A, rfl⟩ | ⟨e, xs, u, F, h⟩
 · exact .l 0 [] A 0 (fun _ _ => undef) (by simp) (Nat.le_refl _) (fun _ => Y) (fun j k hj => by simp at hj) (fun j k row c h1 => by simp at h1)
 · have hr' : ∀ j k row c, rows[j]? = some row → row[k]? = some c → Rep w N c (u j k) := fun j k row c h1 h2 => by
    have := h.hr j k row c h1 h2
    cases full with
    | true => exact Own.rep this (fun x hx => hS x (h.hF j k x hx).1)
    | false => exact Rep.mono this (fun x _ hx => hB x hx)
   rcases h.ho.2 with ⟨rfl, h0⟩ | ⟨g, cap, cur, rfl, hbg, hg, hnc, hcm, hcs, htake⟩
   · have : rows = [] := List.eq_nil_of_length_eq_zero h0
     subst this; exact .l sz [] none 0 u h.hz (Nat.le_refl _) (fun _ => Y) (fun j k hj => by simp at hj) hr'
   · refine .l sz rows (some ⟨g, 0, none⟩) cap u h.hz hnc (fun h => by cases h) (fun j k hj hk => ⟨⟨g, 0, none⟩, Y, hS g (h.hS g Y), ?_⟩) hr'
     rw [add_plain, cell_of_row w g _ cur e (0, 0) hg]; have h1 := h.hu j k hj hk; rw [← htake, List.getElem?_take, if_pos (y1c hj hk)] at h1
     simpa using h1
def Nx (C : Ctx) (ρ : Env) (B : List (Nat × AB)) (G : List Nat) (β : Nat) (x : Nat) : Prop := Bor C ρ B x ∨ ∃ γ ab, get B γ = some ab ∧ γ ∉ G ∧ γ ≠ β ∧ ρ.S γ x
theorem q65 (h : ye C σ ρ a w) {G : List Nat} {β : Nat} {acs : List AC} (hβ : get σ.b β = some (.var acs)) {c : AC} {v : Value} (hv : qv C w ρ σ.b c v) (hw : okA σ.b G c) : Rep w (Nx C ρ σ.b G β) (y2w σ.b c) v := by
 cases c with
 | b c => exact Rep.mono hv (fun x _ hx => .inl hx)
 | nil => cases hv; exact .l 0 [] none 0 (fun _ _ => undef) (by simp) (Nat.le_refl _) (fun _ => Y) (fun j k hj => by simp at hj) (fun j k row c h1 => by simp at h1)
 | em => obtain ⟨A, rfl⟩ := hv; exact .l 0 [] A 0 (fun _ _ => undef) (by simp) (Nat.le_refl _) (fun _ => Y) (fun j k hj => by simp at hj) (fun j k row c h1 => by simp at h1)
 | h γ n =>
   simp only [okA] at hw; obtain ⟨hG, hw⟩ := hw; have hG := y8d hG; simp only [y2w]; split at hw
   · rename_i full sz ep rows hγ
     obtain ⟨_, ab, hg, h2⟩ := hv; rw [hγ] at hg; cases hg; rw [(h2 _ _ _ _ rfl).2 hw]; obtain ⟨sz', _, hs⟩ := h.y0k γ _ hγ; have hne : γ ≠ β := fun e => by rw [e, hβ] at hγ; cases hγ
     simp only [hγ]; exact y8n hs (fun x hx => .inr ⟨γ, _, hγ, hG, hne, hx⟩) (fun x hx => .inl hx)
   · exact hw.elim
 | mx m γ =>
   simp only [okA] at hw; obtain ⟨rfl, hw⟩ := hw; simp only [y2w]; split at hw
   · rename_i c0 hγ
     obtain ⟨_, ab, hg, h2⟩ := hv; rw [hγ] at hg; cases hg; have hb : Rep w (Bor C ρ σ.b) c0 (ρ.v γ) := h.y0k γ _ hγ; simp only [hγ]; rw [h2 rfl]; exact Rep.mono hb (fun x _ hx => .inl hx)
   · exact hw.elim
 | _ => exact hw.elim
theorem y8r {B : List (Nat × AB)} {G : List Nat} {c : AC} (hw : okA B G c) : toC B c = y2w B c := by
 cases c <;> first | rfl | exact hw.elim
theorem q9f (h : ye C σ ρ a w) {G : List Nat} {β : Nat} {acs : List AC} (hβ : get σ.b β = some (.var acs)) {av : AV} {v : Value} (hv : yw C w ρ σ.b av v) (hw : zbt σ.b G av) : z6w w (Nx C ρ σ.b G β) (q8x σ.b av) v := by
 cases av with
 | one c =>
   show Rep w _ (toC σ.b c) v; rw [y8r hw]; exact q65 h hβ hv hw
 | agg cs =>
   obtain ⟨arr, rfl, h1, h2⟩ := hv; refine ⟨arr, Y, by simp [h1], fun k c u hc hu => ?_⟩; rw [List.getElem?_map] at hc
   cases hk : cs[k]? with
   | none => rw [hk] at hc; cases hc
   | some ac =>
     rw [hk] at hc; cases hc; have := z0w hw k ac hk; rw [y8r this]; exact q65 h hβ (h2 k ac u hk hu) this
 | tup vs => exact hw.elim
theorem q44 {B : List (Nat × AB)} {G : List Nat} : ∀ {p : Nat} {avs : List AV}, q6o B G p avs → ∀ (i : Nat) (av : AV), i ≠ p → avs[i]? = some av → zbt B G av
 | _, [], _, i, av, _, h => by simp at h
 | 0, v :: l, hw, i, av, hi, h => by
   cases i with
   | zero => exact absurd rfl hi
   | succ i => exact z24 hw i av (by simpa using h)
 | p + 1, v :: l, hw, i, av, hi, h => by
   cases i with
   | zero => cases h; exact hw.1
   | succ i => exact q44 hw.2 i av (by omega) (by simpa using h)
theorem z6q {B : List (Nat × AB)} {G : List Nat} : ∀ {acs : List AC} {cs : List PK}, ybt B G acs cs → acs.length = cs.length ∧ ∀ (k : Nat) (p : PK), cs[k]? = some p → ∃ c, acs[k]? = some c ∧ pmC B G c p
 | [], [], _ => ⟨rfl, fun t g h => by simp at h⟩
 | c :: cs, g :: gs, h => by
   obtain ⟨h1, h2⟩ := z6q h.2; refine ⟨by simp [h1], fun t g' hg => ?_⟩
   cases t with
   | zero => cases hg; exact ⟨c, Y, h.1⟩
   | succ t => simpa using h2 t g' (by simpa using hg)
 | [], _ :: _, h => h.elim
 | _ :: _, [], h => h.elim
theorem q13 : ∀ {acs : List AC} {cs : List PK} {k γ : Nat} {c : AC} {p : PK}, acs[k]? = some c → cs[k]? = some p → y7c c p = some γ → γ ∈ y0v acs cs
 | [], cs, k, γ, c, p, h, _, _ => by simp at h
 | _ :: _, [], k, γ, c, p, _, h, _ => by simp at h
 | c0 :: l, p0 :: l', k, γ, c, p, h, h', hg => by
   cases k with
   | zero => cases h; cases h'; simp [y0v, hg]
   | succ k =>
     have := q13 (acs := l) (cs := l') (by simpa using h) (by simpa using h') hg; rw [y0v]; split
     · exact List.mem_cons_of_mem _ this
     · exact this
theorem y3h : ∀ {acs : List AC} {cs : List PK}, (y0v acs cs).Nodup → ∀ {k k' γ : Nat} {c c' : AC} {p p' : PK}, acs[k]? = some c → cs[k]? = some p → y7c c p = some γ → acs[k']? = some c' → cs[k']? = some p' → y7c c' p' = some γ → k = k'
 | [], cs, _, k, k', γ, c, c', p, p', h, _, _, _, _, _ => by simp at h
 | _ :: _, [], _, k, k', γ, c, c', p, p', _, h, _, _, _, _ => by simp at h
 | c0 :: l, p0 :: l', hn, k, k', γ, c, c', p, p', h1, h2, h3, h1', h2', h3' => by
   have htail : (y0v l l').Nodup := by
    rw [y0v] at hn; split at hn
    · exact (List.nodup_cons.1 hn).2
    · exact hn
   have hhead : y7c c0 p0 = some γ → γ ∉ y0v l l' := fun hx => by
    rw [y0v, hx] at hn; exact (List.nodup_cons.1 hn).1
   cases k with
   | zero =>
     cases h1; cases h2
     cases k' with
     | zero => rfl
     | succ k' => exact absurd (q13 (by simpa using h1') (by simpa using h2') h3') (hhead h3)
   | succ k =>
     cases k' with
     | zero => cases h1'; cases h2'; exact absurd (q13 (by simpa using h1) (by simpa using h2) h3) (hhead h3')
     | succ k' => exact congrArg (· + 1) (y3h htail (by simpa using h1) (by simpa using h2) h3 (by simpa using h1') (by simpa using h2') h3')
theorem q45 {B : List (Nat × AB)} : ∀ {acs : List AC} {cs : List PK} {γ : Nat} {ab : AB}, get (z05 B acs cs) γ = some ab → ∃ (k n : Nat) (p : PK), acs[k]? = some (.h γ n) ∧ cs[k]? = some p ∧ ((∃ o o', p = .n o o' ∧ ab = .dead) ∨ ∃ sz rows rows', p = .b sz rows rows' ∧ ab = (match get B γ with | some (.arr full sz ep _) => .arr full sz (Nat.succ ep) rows' | _ => .dead))
 | [], cs, γ, ab, h => by simp [z05, get] at h
 | c :: l, [], γ, ab, h => by cases c <;> simp [z05, get] at h
 | c :: l, p :: l', γ, ab, h => by
   have step : get (z05 B l l') γ = some ab → ∃ (k n : Nat) (p' : PK), (c :: l)[k]? = some (.h γ n) ∧ (p :: l')[k]? = some p' ∧ ((∃ o o', p' = .n o o' ∧ ab = .dead) ∨ ∃ sz rows rows', p' = .b sz rows rows' ∧ ab = (match get B γ with | some (.arr full sz ep _) => .arr full sz (Nat.succ ep) rows' | _ => .dead)) := fun h => by
    obtain ⟨k, n, p', h1, h2, h3⟩ := q45 h; exact ⟨k + 1, n, p', by simpa using h1, by simpa using h2, h3⟩
   cases c with
   | h γ' n =>
     cases p with
     | k c' => exact step h
     | n o o' =>
       rw [z05, za] at h; by_cases hg : γ' = γ
       · subst hg; rw [if_pos rfl] at h; cases h; exact ⟨0, n, _, Y, Y, .inl ⟨o, o', Y, Y⟩⟩
       · rw [if_neg hg] at h; exact step h
     | b sz rows rows' =>
       rw [z05, za] at h; by_cases hg : γ' = γ
       · subst hg; rw [if_pos rfl] at h; cases h; exact ⟨0, n, _, Y, Y, .inr ⟨sz, rows, rows', Y, Y⟩⟩
       · rw [if_neg hg] at h; exact step h
   | _ => exact step h
theorem q3h {B : List (Nat × AB)} : ∀ {acs : List AC} {cs : List PK} {k γ : Nat} {c : AC} {p : PK}, acs[k]? = some c → cs[k]? = some p → y7c c p = some γ → (get (z05 B acs cs) γ).isSome = true
 | [], cs, k, γ, c, p, h, _, _ => by simp at h
 | _ :: _, [], k, γ, c, p, _, h, _ => by simp at h
 | c0 :: l, p0 :: l', k, γ, c, p, h, h', hg => by
   have step : (get (z05 B l l') γ).isSome = true → (get (z05 B (c0 :: l) (p0 :: l')) γ).isSome = true := fun hs => by
    cases c0 with
    | h γ' n =>
      cases p0 with
      | k c' => exact hs
      | n o o' => rw [z05, za]; split <;> first | rfl | exact hs
      | b sz rows rows' => rw [z05, za]; split <;> first | rfl | exact hs
    | _ => exact hs
   cases k with
   | zero =>
     cases h; cases h'
     cases c0 with
     | h γ' n =>
       cases p0 with
       | k c' => cases hg
       | n o o' => cases hg; rw [z05, za, if_pos rfl]; rfl
       | b sz rows rows' => cases hg; rw [z05, za, if_pos rfl]; rfl
     | _ => cases p0 <;> cases hg
   | succ k => exact step (q3h (by simpa using h) (by simpa using h') hg)
theorem y5e : ∀ (b : Nat) (acs : List AC) (cs : List PK), acs.length = cs.length → (z1t b acs cs).length = cs.length
 | _, [], [], _ => rfl
 | b, c :: l, p :: l', h => by
   have := y5e (b + 1) l l' (by simpa using h); cases p <;> simp [z1t, this]
 | _, [], _ :: _, h => by simp at h
 | _, _ :: _, [], h => by simp at h
theorem z5e : ∀ {b : Nat} {acs : List AC} {cs : List PK} {k : Nat} {c : AC}, (z1t b acs cs)[k]? = some c → ∃ c0 p, acs[k]? = some c0 ∧ cs[k]? = some p ∧ ((∃ o c', p = .n o c' ∧ c = z9y (b + k) c') ∨ ((∀ o c', p ≠ .n o c') ∧ c = c0))
 | b, [], cs, k, c, h => by simp [z1t] at h
 | b, _ :: _, [], k, c, h => by simp [z1t] at h
 | b, c0 :: l, p :: l', k, c, h => by
   cases k with
   | zero =>
     refine ⟨c0, p, Y, Y, ?_⟩
     cases p with
     | n o c' => cases h; exact .inl ⟨o, c', Y, Y⟩
     | k c' => cases h; exact .inr ⟨(fun _ _ h => by cases h), Y⟩
     | b sz rows rows' => cases h; exact .inr ⟨(fun _ _ h => by cases h), Y⟩
   | succ k =>
     have h' : (z1t (b + 1) l l')[k]? = some c := by cases p <;> simpa [z1t] using h
     obtain ⟨c1, p1, h1, h2, h3⟩ := z5e h'; refine ⟨c1, p1, by simpa using h1, by simpa using h2, ?_⟩; rcases h3 with ⟨o, c', rfl, rfl⟩ | h3
     · exact .inl ⟨o, c', Y, by congr 1; omega⟩
     · exact .inr h3
def csv : List PK → List Value → List OC
 | .n _ c' :: l, _ :: vs => c' :: csv l vs
 | _ :: l, v :: vs => .s v :: csv l vs
 | _, _ => []
theorem q5s : ∀ (cs : List PK) (vs : List Value), vs.length = cs.length → (csv cs vs).length = cs.length
 | [], [], _ => rfl
 | p :: l, v :: vs, h => by
   have := q5s l vs (by simpa using h); cases p <;> simp [csv, this]
 | [], _ :: _, h => by simp at h
 | _ :: _, [], h => by simp at h
theorem q7u : ∀ (b : Nat) (cs : List PK) (vs : List Value), vs.length = cs.length → z0m b (csv cs vs) = z0m b (cs.map z2c)
 | _, [], [], _ => rfl
 | b, p :: l, v :: vs, h => by
   have := q7u (b + 1) l vs (by simpa using h)
   cases p with
   | n o c' => cases c' <;> simp [csv, z2c, z0m, this]
   | k c' => simp [csv, z2c, z0m, this]
   | b sz rows rows' => simp [csv, z2c, z0m, this]
 | _, [], _ :: _, h => by simp at h
 | _, _ :: _, [], h => by simp at h
theorem z7v : ∀ {cs : List PK} {vs : List Value} {k : Nat} {oc : OC}, (csv cs vs)[k]? = some oc → ∃ p v, cs[k]? = some p ∧ vs[k]? = some v ∧ ((∃ o c', p = .n o c' ∧ oc = c') ∨ ((∀ o c', p ≠ .n o c') ∧ oc = .s v))
 | [], vs, k, oc, h => by cases vs <;> simp [csv] at h
 | _ :: _, [], k, oc, h => by simp [csv] at h
 | p :: l, v :: vs, k, oc, h => by
   cases k with
   | zero =>
     refine ⟨p, v, Y, Y, ?_⟩
     cases p with
     | n o c1 => cases h; exact .inl ⟨o, _, Y, Y⟩
     | k c' => cases h; exact .inr ⟨(fun _ _ h => by cases h), Y⟩
     | b sz rows rows' => cases h; exact .inr ⟨(fun _ _ h => by cases h), Y⟩
   | succ k =>
     have h' : (csv l vs)[k]? = some oc := by cases p <;> simpa [csv] using h
     obtain ⟨p1, v1, h1, h2, h3⟩ := z7v h'; exact ⟨p1, v1, by simpa using h1, by simpa using h2, h3⟩
theorem y7v : ∀ {cs : List PK} {vs : List Value} {k : Nat} {o c' : OC}, vs.length = cs.length → cs[k]? = some (.n o c') → (csv cs vs)[k]? = some c'
 | [], vs, k, o, c', _, h => by simp at h
 | _ :: _, [], k, o, c', hl, h => by simp at hl
 | p :: l, v :: vs, k, o, c', hl, h => by
   cases k with
   | zero => cases h; rfl
   | succ k =>
     have := y7v (cs := l) (vs := vs) (k := k) (by simpa using hl) (by simpa using h); cases p <;> simpa [csv] using this
theorem q3i : ∀ (rcs : List RC) (b : Nat) (cs : List OC), qe b (rcs ++ [.own true cs]) = qe b rcs ++ z0m (b + 100 * rcs.length) cs
 | [], b, cs => by simp [qe, q3w]
 | rc :: rcs, b, cs => by
   rw [List.cons_append, qe, qe, q3i rcs (b + 100) cs, List.append_assoc]
   congr 3
   simp only [List.length_cons]; omega
theorem z8g (h : ye C σ ρ a w) {c : AC} {o : OC} {u : Value} (hrel : qv C w ρ σ.b c u) (hm : mOC σ.b c o) : y23 w (fun x => ∃ γ n, c = .h γ n ∧ ρ.S γ x) o u := by
 cases o with
 | s v' =>
   cases c with
   | b c0 =>
     cases c0 with
     | s v0 => have hm' : v0 = v' := hm; subst hm'; cases hrel with | s _ h9 => exact ⟨rfl, h9⟩
     | _ => exact hm.elim
   | _ => exact hm.elim
 | l sz rows =>
   cases c with
   | b c0 => cases c0 <;> exact hm.elim
   | nil => cases hrel; have hm' : rows = [] := hm; subst hm'; exact ⟨sz, fun _ => Y, .inl ⟨Y, none, Y⟩⟩
   | em => obtain ⟨A, rfl⟩ := hrel; have hm' : rows = [] := hm; subst hm'; exact ⟨sz, fun _ => Y, .inl ⟨Y, A, Y⟩⟩
   | h β n =>
     simp only [mOC] at hm; split at hm
     · rename_i sz' ep rows' hβ
       obtain ⟨rfl, rfl, hsz⟩ := hm; obtain ⟨_, ab, hg, h9⟩ := hrel; rw [hβ] at hg; cases hg; rw [(h9 true sz' ep rows' rfl).2 rfl]; obtain ⟨sz1, hsz1, hslab⟩ := h.y0k β _ hβ; refine ⟨sz1, fun hne => ?_, z0e.imp hslab (fun x hx => ⟨β, _, Y, hx⟩) (fun _ _ _ => Y) (fun F c u _ hc => hc)⟩; rcases hsz with rfl | rfl
       · exact hsz1 hne
       · exact absurd Y hne
     · exact hm.elim
   | _ => exact hm.elim
theorem y8b {B : List (Nat × AB)} {γ n : Nat} {o : OC} (hm : mOC B (.h γ n) o) : ∃ sz ep rows, get B γ = some (.arr true sz ep rows) := by
 cases o with
 | s v => exact hm.elim
 | l sz rows =>
   simp only [mOC] at hm; split at hm
   · rename_i sz' ep rows' hβ; exact ⟨_, _, _, hβ⟩
   · exact hm.elim
theorem z5r (h : ye C σ ρ a w) {d : Option Tmp} {f : Nat} {avs : List AV} {vals : Array Value} {K : St → Prop} (hd : ∀ t, d = some t → t < C.T) (hk : qaz C.P σ d f avs K) (hs : vals.size = avs.length)
 (hv : ∀ (i : Nat) (av : AV) (v : Value), avs[i]? = some av → vals[i]? = some v → yw C w ρ σ.b av v) :
 okF C.P f = true ∧ Calls C.P f vals w fun e w' => ∃ v, e = .returned v ∧ ∃ σ', K σ' ∧ Rel C σ' (a.put d v) w' := by
 obtain ⟨p, e0, β, acs, cs, res, ⟨hok, hpc⟩, hsm, hbor, hc100, hp, hβ, hpm, hnd, hokA, hfr, hK⟩ := hk; refine ⟨hok, ?_⟩; obtain ⟨hlen, hpm'⟩ := z6q hpm; have hplt : p < vals.size := by rw [hs]; exact (List.getElem?_eq_some_iff.1 hp).1
 obtain ⟨ab, g, hgβ, hptr, h2⟩ := hv p _ vals[p] hp (by simp [hplt]); rw [hβ] at hgβ; cases hgβ; obtain ⟨g', cells, ty, h3, hSg, h5, h6, h7⟩ := h.y0k β _ hβ; have hvβ := h2 acs rfl; rw [hvβ] at h3; cases h3; generalize hG : y0v acs cs = G at hpm hnd hokA hpm'; generalize hF : (fun (k : Nat) (x : Nat) => ∃ c q γ, acs[k]? = some c ∧ cs[k]? = some q ∧ y7c c q = some γ ∧ ρ.S γ x) = F
 have harr : ∀ {k γ : Nat} {c : AC} {q : PK}, acs[k]? = some c → cs[k]? = some q → y7c c q = some γ → ∃ n sz ep rows, c = .h γ n ∧ get σ.b γ = some (.arr true sz ep rows) := fun {k γ c q} h1 h2 h3 => by
  obtain ⟨c', h4, h5⟩ := hpm' k q h2; rw [h1] at h4; cases h4
  cases c with
  | h γ' n =>
    cases q with
    | k c' => cases h3
    | n o o' => cases h3; obtain ⟨sz, ep, rows, h6⟩ := y8b h5; exact ⟨n, sz, ep, rows, Y, h6⟩
    | b sz rows rows' =>
      cases h3; simp only [pmC] at h5; split at h5
      · rename_i sz' ep rows'' h6; exact ⟨n, _, _, _, Y, h6⟩
      · exact h5.elim
  | _ => cases q <;> cases h3
 have hneβ : ∀ {k γ : Nat} {c : AC} {q : PK}, acs[k]? = some c → cs[k]? = some q → y7c c q = some γ → γ ≠ β := fun {k γ c q} h1 h2 h3 he => by
  obtain ⟨n, sz, ep, rows, _, h4⟩ := harr h1 h2 h3; rw [he, hβ] at h4; cases h4
 have hFg : ∀ k x, F k x → ∃ γ ab, get σ.b γ = some ab ∧ γ ∈ G ∧ γ ≠ β ∧ ρ.S γ x := fun k x hx => by
  rw [← hF] at hx; obtain ⟨c, q, γ, h1, h2, h3, h4⟩ := hx; obtain ⟨n, sz, ep, rows, _, h5⟩ := harr h1 h2 h3; exact ⟨γ, _, h5, by rw [← hG]; exact q13 h1 h2 h3, hneβ h1 h2 h3, h4⟩
 have hFd : ∀ k k' x, F k x → F k' x → k = k' := fun k k' x hx hx' => by
  rw [← hF] at hx hx'; obtain ⟨c, q, γ, h1, h2, h3, h4⟩ := hx; obtain ⟨c', q', γ', h1', h2', h3', h4'⟩ := hx'; obtain ⟨n, sz, ep, rows, _, h5⟩ := harr h1 h2 h3; obtain ⟨n', sz', ep', rows', _, h5'⟩ := harr h1' h2' h3'; have := h.disj γ γ' _ _ x h5 h5' h4 h4'; subst this; exact y3h (by rw [hG]; exact hnd) h1 h2 h3 h1' h2' h3'
 have hxg : ∀ {γ : Nat} {ab : AB}, get σ.b γ = some ab → γ ≠ β → ¬ ρ.S γ g := fun {γ ab} h1 h2 h3 => h2 (h.disj γ β ab _ g h1 hβ h3 hSg)
 have hF1 : ∀ k x, F k x → x < w.heap.size ∧ ¬ Nx C ρ σ.b G β x ∧ x ≠ g := fun k x hx => by
  obtain ⟨γ, ab, h1, h2, h3, h4⟩ := hFg k x hx; refine ⟨(h.mine γ ab x h1 h4).1, fun hN => ?_, fun he => ?_⟩
  · rcases hN with hN | ⟨γ', ab', h5, h6, h7, h8⟩
    · exact hN.2 γ ab h1 h4
    · have := h.disj γ γ' _ _ x h1 h5 h4 h8
      subst this; exact h6 h2
  · rw [he] at h4; exact hxg h1 h3 h4
 have hNg : ¬ Nx C ρ σ.b G β g := fun hN => by
  rcases hN with hN | ⟨γ', ab', h5, h6, h7, h8⟩
  · exact hN.2 β _ hβ hSg
  · exact hxg h5 h7 h8
 have hsz : cells.size = cs.length := by rw [h6, hlen]
 have hcell : ∀ (k : Nat) (c : PK) (u : Value), cs[k]? = some c → cells[k]? = some u → yb0 w (Nx C ρ σ.b G β) (F k) c u := fun k q u hq hu => by
  obtain ⟨c, hc, hm⟩ := hpm' k q hq; have hrel := h7 k c u hc hu
  cases q with
  | k c' => obtain ⟨hm1, rfl⟩ : okA σ.b G c ∧ y2w σ.b c = c' := by cases c <;> exact hm
            exact q65 h hβ hrel hm1
  | n o o' =>
    have hm : mOC σ.b c o := by cases c <;> exact hm
    have h8 := z8g h hrel hm
    have hsub : ∀ x, (∃ γ n, c = .h γ n ∧ ρ.S γ x) → F k x := fun x ⟨γ, n, hc', hx⟩ => by
     subst hc'; rw [← hF]; exact ⟨_, _, γ, hc, hq, Y, hx⟩
    cases o with
    | s v => exact h8
    | l sz rows =>
      obtain ⟨sz', h9, h10⟩ := h8; exact ⟨sz', h9, z0e.imp h10 hsub (fun _ _ _ => Y) (fun _ _ _ _ h => h)⟩
  | b sz rows rows' =>
    cases c with
    | h γ n =>
      simp only [pmC] at hm; split at hm
      · rename_i sz' ep rows'' hγ
        obtain ⟨rfl, rfl, rfl⟩ := hm; obtain ⟨_, ab, hg, h9⟩ := hrel; rw [hγ] at hg; cases hg; rw [(h9 true sz ep rows'' rfl).2 rfl]; obtain ⟨sz1, hsz1, hslab⟩ := h.y0k γ _ hγ; exact ⟨sz1, hsz1, z0e.imp hslab (fun x hx => by rw [← hF]; exact ⟨_, _, γ, hc, hq, rfl, hx⟩) (fun _ _ _ => Y) (fun F c u _ hc => hc)⟩
      · exact hm.elim
    | _ => exact hm.elim
 refine (hpc (Nx C ρ σ.b G β) F w vals cells g ty hF1 hNg hFd h5 hsz hcell (by simp [hs]) (by simp [hplt, hptr]) (fun i sv v hi hsv hvi => ?_)).mono ?_
 · rw [List.getElem?_set_ne (fun e => hi e.symm), List.getElem?_map] at hsv
   cases hav : avs[i]? with
   | none => rw [hav] at hsv; cases hsv
   | some av =>
     rw [hav] at hsv; cases hsv; exact q9f h hβ (hv i av v hav hvi) (q44 hokA i av hi hav)
 rintro e w' ⟨v, SR, F', cells', ty', rfl, hkp, hg', hsz', hout, hres, hSR, hF', hFd'⟩
 refine ⟨v, Y, _, hK, ?_⟩; have hglt : g < w'.heap.size := (Array.getElem?_eq_some_iff.1 hg').1; have hcsl : cells'.toList.length = cs.length := by rw [Array.length_toList]; exact hsz'
 have getU : ∀ {k : Nat} {u' : Value}, cells'[k]? = some u' → ∃ q u c, cs[k]? = some q ∧ cells[k]? = some u ∧ acs[k]? = some c ∧ pmC σ.b G c q ∧ qv C w ρ σ.b c u ∧ qbu w' (F' k) q u u' := fun {k u'} hu' => by
  have hlt : k < cs.length := by rw [← hsz']; exact (Array.getElem?_eq_some_iff.1 hu').1
  have hlt2 : k < cells.size := by omega
  obtain ⟨c, hc, hm⟩ := hpm' k cs[k] (by simp [hlt]); exact ⟨cs[k], cells[k], c, by simp [hlt], by simp [hlt2], hc, hm, h7 k c _ hc (by simp [hlt2]), hout k _ _ _ (by simp [hlt]) (by simp [hlt2]) hu'⟩
 have hadopt : ∀ {b : Nat} {rcs : List RC} {us : Array Value} {Gr : Nat → Nat → Prop}, (∀ rc ∈ rcs, q10 rc = true) → (∀ rc ∈ rcs, y57 rc = false) → y0c σ.b (qe b rcs ++ z0m (b + 100 * rcs.length) (cs.map z2c)) → (∀ i x, Gr i x → SR x) → (∀ i i' x, Gr i x → Gr i' x → i = i') → us.size = rcs.length → (∀ (i : Nat) (rc : RC) (u : Value), rcs[i]? = some rc → us[i]? = some u → z0v w' (fun _ => True) (Gr i) rc u) →
  ∃ ρ', ye C ⟨σ.t, ((qe b rcs ++ z0m (b + 100 * rcs.length) (cs.map z2c)) ++ ((β, .var (z1t (b + 100 * rcs.length) acs cs)) :: z05 σ.b acs cs)) ++ σ.b⟩ ρ' a w' ∧ ∀ (i : Nat) (rc : RC) (u : Value), rcs[i]? = some rc → us[i]? = some u → q02 C w' ρ' (((qe b rcs ++ z0m (b + 100 * rcs.length) (cs.map z2c)) ++ ((β, .var (z1t (b + 100 * rcs.length) acs cs)) :: z05 σ.b acs cs)) ++ σ.b) (q5m (b + 100 * i) rc) u := fun {b rcs us Gr} a1 a1' a2 a3 a4 a5 a6 => by
  have e1 : qe b (rcs ++ [.own true (csv cs cells'.toList)]) = qe b rcs ++ z0m (b + 100 * rcs.length) (cs.map z2c) := by rw [q3i, q7u _ _ _ hcsl]
  have hIsN : ∀ {k : Nat} {o : OC}, (csv cs cells'.toList)[k]? = some o → True := fun _ => trivial
  generalize hNk : (fun (k : Nat) => ∃ o c', cs[k]? = some (.n o c')) = Nk
  have hjne : ∀ {i : Nat} {rc : RC}, (rcs ++ [RC.own true (csv cs cells'.toList)])[i]? = some rc → (i < rcs.length ∧ rcs[i]? = some rc) ∨ (i = rcs.length ∧ rc = .own true (csv cs cells'.toList)) := fun {i rc} hi => by
   rw [List.getElem?_append] at hi; by_cases hlt : i < rcs.length
   · rw [if_pos hlt] at hi; exact .inl ⟨hlt, hi⟩
   · rw [if_neg hlt] at hi
     cases hj : i - rcs.length with
     | zero => rw [hj] at hi; cases hi; exact .inr ⟨by omega, Y⟩
     | succ j => rw [hj] at hi; simp at hi
  obtain ⟨ρ', r1, _, r2⟩ := z6x (N := fun _ => False) (GS := fun x => x = g ∨ ∃ k, F k x) (T := (β, .var (z1t (b + 100 * rcs.length) acs cs)) :: z05 σ.b acs cs)
   (SB := fun γ x => (γ = β ∧ x = g) ∨ ∃ k c q, acs[k]? = some c ∧ cs[k]? = some q ∧ y7c c q = some γ ∧ (∀ o c', q ≠ .n o c') ∧ F' k x) (β := b) (rcs := rcs ++ [.own true (csv cs cells'.toList)]) (us := us ++ #[.agg cells'])
   (S := fun x => SR x ∨ ∃ k, Nk k ∧ F' k x) (G := fun i x => (i < rcs.length ∧ Gr i x) ∨ (i = rcs.length ∧ ∃ k, Nk k ∧ F' k x)) h hkp
   (fun rc hrc => by
     rcases List.mem_append.1 hrc with h1 | h1
     · exact a1 rc h1
     · rw [List.mem_singleton.1 h1]
       show Nat.ble (csv cs cells'.toList).length 100 = true; rw [q5s _ _ hcsl]
       exact Nat.ble_eq_true_of_le hc100)
   (by rw [e1]; exact a2)
   (fun x hx => by
     rcases hx with hx | ⟨k, hk, hx⟩
     · obtain ⟨h1, h2, h3, h4⟩ := hSR x hx
       refine ⟨h1.imp id .inr, h2, fun γ hγ => ?_⟩; rcases hγ with ⟨_, h5⟩ | ⟨k, c, q, _, _, _, _, h5⟩
       · exact h3 h5
       · exact h4 k h5
     · obtain ⟨h1, h2, h3⟩ := hF' k x hx
       refine ⟨h1.imp id .inr, h2, fun γ hγ => ?_⟩; rcases hγ with ⟨_, h5⟩ | ⟨k', c, q, _, h6, _, h7, h5⟩
       · exact h3 h5
       · have := hFd' k k' x hx h5
         subst this; rw [← hNk] at hk; obtain ⟨o, c', hk⟩ := hk; rw [hk] at h6; cases h6
         exact h7 o c' Y)
   (fun i x hx => by
     rcases hx with ⟨_, hx⟩ | ⟨_, k, hk, hx⟩
     · exact .inl (a3 i x hx)
     · exact .inr ⟨k, hk, hx⟩)
   (fun i i' x hx hx' => by
     rcases hx with ⟨h1, hx⟩ | ⟨h1, k, hk, hx⟩ <;> rcases hx' with ⟨h1', hx'⟩ | ⟨h1', k', hk', hx'⟩
     · exact a4 i i' x hx hx'
     · exact absurd hx' ((hSR x (a3 i x hx)).2.2.2 k')
     · exact absurd hx ((hSR x (a3 i' x hx')).2.2.2 k)
     · omega)
   (by simp [a5])
   (fun i rc u hi hu => by
     rcases hjne hi with ⟨hlt, hi'⟩ | ⟨rfl, rfl⟩
     · have hu' : us[i]? = some u := by
        rw [Array.getElem?_append, if_pos (by omega)] at hu; exact hu
       have h1 := a6 i rc u hi' hu'
       have e2 : (fun x => (i < rcs.length ∧ Gr i x) ∨ (i = rcs.length ∧ ∃ k, Nk k ∧ F' k x)) = Gr i := by
        funext x
        apply propext; constructor
        · rintro (⟨_, h⟩ | ⟨h, _⟩)
          · exact h
          · omega
        · exact fun h => .inl ⟨hlt, h⟩
       show z0v w' _ (fun x => (i < rcs.length ∧ Gr i x) ∨ (i = rcs.length ∧ ∃ k, Nk k ∧ F' k x)) rc u; rw [e2]
       cases rc with
       | own ag cs => exact h1
       | bor ag cs => have := a1' _ (List.mem_of_getElem? hi'); cases this
     · have hu' : u = .agg cells' := by
        rw [Array.getElem?_append, if_neg (by omega)] at hu; rw [a5, Nat.sub_self] at hu; cases hu; rfl
       subst hu'; refine ⟨cells', fun k x => Nk k ∧ F' k x, Y, by rw [q5s _ _ hcsl]; exact hsz', fun k x hx => .inr ⟨Y, k, hx⟩, fun k k' x hx hx' => hFd' k k' x hx.2 hx'.2, fun k oc u' hoc hu' => ?_⟩; obtain ⟨q, v', hq, hv', hor⟩ := z7v hoc; rw [Array.getElem?_toList, hu'] at hv'; cases hv'; obtain ⟨q', u0, c, g1, g2, g3, g4, g5, g6⟩ := getU hu'; rw [hq] at g1; cases g1; rcases hor with ⟨o, c', rfl, rfl⟩ | ⟨hne, rfl⟩
       · have e2 : (fun x => Nk k ∧ F' k x) = F' k := by
          funext x
          apply propext; exact ⟨fun h => h.2, fun h => ⟨by rw [← hNk]; exact ⟨o, _, hq⟩, h⟩⟩
         show y23 w' (fun x => Nk k ∧ F' k x) _ _; rw [e2]; exact g6
       · have hone : u'.oneCell' = true := by
          cases q with
          | k c' => have e : u' = u0 := g6; rw [e]; exact z2d g5
          | n o c' => exact absurd rfl (hne o c')
          | b sz rows rows' => have e : u' = u0 := g6.1; rw [e]; exact z2d g5
         exact ⟨Y, hone⟩)
   (fun x hx => hx.elim)
   (fun x hx => by
     rcases hx with rfl | ⟨k, hx⟩
     · exact ⟨β, _, hβ, by rw [za, if_pos rfl]; rfl, hSg⟩
     · have hx' := hx
       rw [← hF] at hx'; obtain ⟨c, q, γ, g1, g2, g3, g4⟩ := hx'; obtain ⟨n, sz, ep, rows, _, g5⟩ := harr g1 g2 g3; refine ⟨γ, _, g5, ?_, g4⟩; rw [za, if_neg (fun e => hneβ g1 g2 g3 e.symm)]
       exact q3h g1 g2 g3)
   (fun γ x hx => by
     rcases hx with ⟨rfl, rfl⟩ | ⟨k, c, q, g1, g2, g3, g4, g5⟩
     · exact ⟨.inr (.inl (.inl Y)), hglt⟩
     · obtain ⟨h1, h2, h3⟩ := hF' k x g5
       exact ⟨h1.elim .inl (fun h => .inr (.inl (.inr h))), h2⟩)
   (fun γ γ' x hx hx' => by
     rcases hx with ⟨rfl, rfl⟩ | ⟨k, c, q, g1, g2, g3, g4, g5⟩ <;> rcases hx' with ⟨rfl, h1⟩ | ⟨k', c', q', g1', g2', g3', g4', g5'⟩
     · rfl
     · exact absurd Y (hF' k' _ g5').2.2
     · exact absurd h1 (hF' k x g5).2.2
     · have := hFd' k k' x g5 g5'
       subst this; rw [g1] at g1'; cases g1'; rw [g2] at g2'; cases g2'; rw [g3] at g3'; cases g3'
       rfl)
   (fun γ ab' hg => by
     rw [za] at hg; by_cases hγ : β = γ
     · subst hγ
       rw [if_pos rfl] at hg; cases hg; refine .inr ⟨acs, _, g, ty', rcs.length, csv cs cells'.toList, cells', hβ, Y, hvβ, .inl ⟨Y, Y⟩, hg', by rw [y5e _ _ _ hlen, hsz'], by simp, ?_, fun k c u' hc hu' => ?_⟩
       · rw [Array.getElem?_append, if_neg (by omega), a5]; simp
       · obtain ⟨c0, q, g1, g2, g3⟩ := z5e hc
         obtain ⟨q', u0, c1, f1, f2, f3, f4, f5, f6⟩ := getU hu'; rw [g1] at f3; cases f3; rw [g2] at f1; cases f1; rcases g3 with ⟨o, c', rfl, rfl⟩ | ⟨hne, rfl⟩
         · exact .inr ⟨c', y7v hcsl g2, Y⟩
         · refine .inl ?_
           cases q with
           | k c' => have e : u' = u0 := f6; rw [e]; exact f5
           | n o c' => exact absurd rfl (hne o c')
           | b sz rows rows' => have e : u' = u0 := f6.1; rw [e]; exact f5
     · rw [if_neg hγ] at hg
       obtain ⟨k, n, q, g1, g2, g3⟩ := q45 hg; rcases g3 with ⟨o, o', rfl, rfl⟩ | ⟨sz, rows, rows', rfl, rfl⟩
       · obtain ⟨_, sz, ep, rows, _, g5⟩ := harr (γ := γ) g1 g2 rfl
         exact .inl ⟨_, _, _, _, g5, .inl Y⟩
       · obtain ⟨c, f1, f2⟩ := hpm' k _ g2
         rw [g1] at f1; cases f1; simp only [pmC] at f2; split at f2
         · rename_i sz' ep rows'' hγ'
           obtain ⟨rfl, rfl, rfl⟩ := f2; rw [hγ']; have hlt : k < cells'.size := by rw [hsz']; exact (List.getElem?_eq_some_iff.1 g2).1
           obtain ⟨q', u0, c1, e1, e2, e3, e4, e5, e6⟩ := getU (k := k) (u' := cells'[k]) (by simp [hlt]); rw [g1] at e3; cases e3; rw [g2] at e1; cases e1; obtain ⟨e7, e8, e9, sz2, e10, e11⟩ := e6; obtain ⟨_, ab, hgab, h9⟩ := e5; rw [hγ'] at hgab; cases hgab; have hval : u0 = ρ.v γ := (h9 true sz ep rows'' rfl).2 rfl; refine .inl ⟨_, _, _, _, Y, .inr ⟨sz, Nat.succ ep, rows', Y, e8, Nat.lt_succ_self _, e9, sz2, e10, ?_⟩⟩; rw [e7, hval] at e11; exact z0e.imp e11 (fun x hx => .inr ⟨k, _, _, g1, g2, Y, (fun _ _ h => by cases h), hx⟩) (fun _ _ _ => Y) (fun _ _ _ _ hc => hc)
         · exact f2.elim)
  rw [e1] at r1 r2; refine ⟨ρ', r1, fun i rc u hi hu => r2 i rc u ?_ ?_⟩
  · rw [List.getElem?_append_left (List.getElem?_eq_some_iff.1 hi).1]; exact hi
  · rw [Array.getElem?_append, if_pos (Array.getElem?_eq_some_iff.1 hu).1]; exact hu
 cases d with
 | none =>
   obtain ⟨ρ', r1, _⟩ := hadopt (b := e0) (rcs := []) (us := #[]) (Gr := fun _ _ => False) (fun rc h => by cases h) (fun rc h => by cases h) (by simpa [qe, yc3] using hfr) (fun _ _ h => h.elim) (fun _ _ _ h => h.elim) rfl (fun i rc u h => by simp at h); have r2 : ye C (z7o σ none res e0 β acs cs) ρ' a w' := by simpa [qe, z7o] using r1
   exact ⟨ρ', r2⟩
 | some d =>
   have hd' := hd d rfl
   cases res with
   | one rc =>
     have happ : q3w (nameOf d) rc = qe (nameOf d) [rc] := by simp [qe]
     obtain ⟨ρ', h1, h2⟩ := hadopt (b := nameOf d) (rcs := [rc]) (us := #[v]) (Gr := fun i x => i = 0 ∧ SR x) (fun rc' hrc => by rw [List.mem_singleton.1 hrc]; exact hsm) (fun rc' hrc => by rw [List.mem_singleton.1 hrc]; exact hbor) (by rw [← happ]; exact hfr) (fun i x hx => hx.2) (fun i i' x h1 h2 => by rw [h1.1, h2.1]) rfl
      (fun i rc' u h1 h2 => by
        cases i with
        | zero =>
          cases h1; cases h2; have : (fun x => (0 : Nat) = 0 ∧ SR x) = SR := by funext x; simp
          show z0v w' _ (fun x => (0 : Nat) = 0 ∧ SR x) rc v; rw [this]; exact hres
        | succ i => simp at h1)
     refine ⟨ρ', ?_⟩
     have h3 := ye.put (d := some d) (av := q5m (nameOf d) rc) (v := v) h1 (fun t ht => by cases ht; exact hd') (by
      have := h2 0 rc v rfl rfl; simp only [Nat.mul_zero, Nat.add_zero] at this
      cases hav : q5m (nameOf d) rc with
      | one c => rw [hav] at this; exact this
      | agg cs => rw [hav] at this; exact this
      | tup vs => rw [hav] at this; exact this.elim)
     simp only [← happ] at h3; exact h3
   | tup rcs =>
     obtain ⟨arr, Gr, rfl, h1, h2, h3, h4⟩ := hres
     have hb' : ∀ rc ∈ rcs, y57 rc = false := fun rc hrc => by
      cases hb : y57 rc with
      | false => rfl
      | true =>
        have : rcs.any y57 = true := List.any_eq_true.2 ⟨rc, hrc, hb⟩; rw [show rcs.any y57 = false from hbor] at this; cases this
     obtain ⟨ρ', h5, h6⟩ := hadopt (b := nameOf d) (rcs := rcs) (us := arr) (Gr := Gr) (fun rc hrc => List.all_eq_true.1 hsm rc hrc) hb' hfr h2 h3 h1 h4
     have hlenR : ∀ (rcs : List RC) (β : Nat), (y0b β rcs).length = rcs.length := by
      intro rcs
      induction rcs with
      | nil => intro β; rfl
      | cons c cs ih => intro β; rw [y0b, List.length_cons, List.length_cons, ih]
     have hgetR : ∀ (rcs : List RC) (β k : Nat) (c : AV), (y0b β rcs)[k]? = some c → ∃ rc, rcs[k]? = some rc ∧ c = q5m (β + 100 * k) rc := by
      intro rcs
      induction rcs with
      | nil => intro β k c hc; simp [y0b] at hc
      | cons c0 cs ih =>
        intro β k c hc; rw [y0b] at hc
        cases k with
        | zero => cases hc; exact ⟨c0, Y, Y⟩
        | succ k =>
          obtain ⟨oc, h1, h2⟩ := ih (β + 100) k c (by simpa using hc); exact ⟨oc, by simpa using h1, by rw [h2]; congr 1; omega⟩
     refine ⟨ρ', ye.put (d := some d) (av := .tup (y0b (nameOf d) rcs)) h5 (fun t ht => by cases ht; exact hd') ⟨arr, Y, ?_, fun k c u hc hu => ?_⟩⟩
     · rw [h1, hlenR]
     · obtain ⟨rc, hrc, rfl⟩ := hgetR rcs _ k c hc
       exact h6 k rc u hrc hu
def z4a (P : Program) (σ : St) (d : Option Tmp) (f : Nat) (avs : List AV) (K : St → Prop) : Prop := q9p P σ d f avs K ∨ qaz P σ d f avs K ∨ yaz P σ d f avs K
theorem z34 (h : ye C σ ρ a w) {d : Option Tmp} {f : Nat} {avs : List AV} {vals : Array Value} {K : St → Prop} (hd : ∀ t, d = some t → t < C.T) (hk : z4a C.P σ d f avs K) (hs : vals.size = avs.length)
 (hv : ∀ (i : Nat) (av : AV) (v : Value), avs[i]? = some av → vals[i]? = some v → yw C w ρ σ.b av v) :
 okF C.P f = true ∧ Calls C.P f vals w fun e w' => ∃ v, e = .returned v ∧ ∃ σ', K σ' ∧ Rel C σ' (a.put d v) w' :=
 hk.elim (fun hk => z4y h hd hk hs hv) (fun hk => hk.elim (fun hk => z5r h hd hk hs hv) (fun hk => q5q h hd hk hs hv))
end
end Go.Sx
end
section
namespace Go.Sx
open Go.WideElems (Fit)
open Go.WideMaps (KeyLaw)
open Go.ChangeMaps Go.MapKept
theorem y79 {H : Type} {P : Program} {w w2 : World} {t k e : TypeId} {R : Value → Option (DataW H × List MemPlace)} {b : Nat} {es es1 : Array MapEntry} {clock clock1 : Nat} (K : KeyLaw P k) (ht : P.underlying t = some (.map k e)) {z v0 st : Value} (hz : ∀ u : World, (zeroValue e).run P u = .ok z u)
 (hb : w.heap[b]? = some (.map es clock)) (F : Fit P k R es clock) {key : Value} {kl : Lit} (hkey : keyOf P k key = some kl) (hrun : (Instr.mapEntry t (.map (some b)) key).run P w = .ok (.tuple #[v0, st]) (setBlock w b (.map es1 clock1))) (h2 : w2.heap[b]? = some (.map es1 clock1)) {key2 : Value} (hkey2 : keyOf P k key2 = some kl) {t2 : TypeId} (ht2 : P.underlying t2 = some (.map k e)) :
 (Instr.lookup t2 (.map (some b)) key2 false).run P w2 = .ok v0 w2 ∧ (Instr.lookup t2 (.map (some b)) key2 false).run P w = .ok v0 w := by
 obtain rfl : key2 = key := K.inj hkey2 hkey
 have hs1 : ∀ {es' : Array MapEntry} {c' : Nat} {v : Value}, (Instr.mapEntry t (.map (some b)) key2).run P w = .ok v (setBlock w b (.map es' c')) → es1 = es' := fun h => by
  rw [hrun] at h; injection h with _ h
  have h3 := congrArg (fun u : World => u.heap[b]?) h; rw [heap_setBlock_same hb, heap_setBlock_same hb] at h3; simp at h3; exact h3.1
 rcases K.find w hkey es.toList F.keys with ⟨h1, h3⟩ | ⟨j, e0, h1, h3, h4⟩
 · have hr : (Instr.mapEntry t (.map (some b)) key2).run P w = .ok (.tuple #[z, goInt clock]) (setBlock w b (.map (es.push ⟨key2, z, clock⟩) (clock + 1))) := by
    simp [Instr.mapEntry, run_underlying ht, MapKept.run_getObj_map hb, K.check w false hkey, h1, hz, MapKept.run_setObj_map _ hb, Result.andThen, setBlock]
   have he := hs1 hr; rw [hr] at hrun
   obtain rfl : z = v0 := by
    injection hrun with h5 _
    simp at h5; exact h5.1
   subst he
   rcases K.find w2 hkey (es.push ⟨key2, z, clock⟩).toList (fun x hx => by
    simp only [Array.toList_push, List.mem_append, List.mem_singleton] at hx; rcases hx with hx | rfl
    · exact F.keys x hx
    · exact ⟨kl, hkey⟩) with ⟨_, g2⟩ | ⟨j, e1, g1, g2, g3⟩
   · exact absurd Y (g2 ⟨key2, z, clock⟩ (by simp))
   · have hv : e1.val = z := by
      have hm := List.mem_of_getElem? g2; simp only [Array.toList_push, List.mem_append, List.mem_singleton] at hm; rcases hm with hm | rfl
      · exact absurd g3 (h3 e1 hm)
      · rfl
     rw [Array.toList_push] at g1; refine ⟨?_, ?_⟩
     · rw [← hv]
       simp [Instr.lookup, run_underlying ht2, MapKept.run_getObj_map h2, K.check w2 _ hkey, g1, Result.andThen]
     · simp [Instr.lookup, run_underlying ht2, MapKept.run_getObj_map hb, K.check w _ hkey, h1, hz, Result.andThen]
 · have hj : es[j]? = some e0 := by simpa using h3
   have hr : (Instr.mapEntry t (.map (some b)) key2).run P w = .ok (.tuple #[e0.val, goInt e0.born]) (setBlock w b (.map (es.modify j (fun e => { e with key := key2 })) clock)) := by
    simp [Instr.mapEntry, run_underlying ht, MapKept.run_getObj_map hb, K.check w false hkey, h1, hj, h4, K.stays w hkey, MapKept.run_setObj_map _ hb, Result.andThen, setBlock]
   have hsame : es.modify j (fun e => { e with key := key2 }) = es := by
    apply Array.ext'; rw [Array.toList_modify]; apply List.ext_getElem?; intro i; rw [List.getElem?_modify]; by_cases hi : j = i
    · subst hi
      rw [h3]; simp [← h4]
    · simp [hi]
   have he := hs1 hr; rw [hsame] at he; rw [hr] at hrun
   obtain rfl : e0.val = v0 := by
    injection hrun with h5 _
    simp at h5; exact h5.1
   subst he; rcases K.find w2 hkey es1.toList F.keys with ⟨_, g2⟩ | ⟨j2, e1, g1, g2, g3⟩
   · exact absurd h4 (g2 e0 (List.mem_of_getElem? h3))
   · have hv : e1.val = e0.val := by
      have hn := F.stamped.2.2; have e1' : (es1.toList.map (·.key))[j]? = (es1.toList.map (·.key))[j2]? := by rw [List.getElem?_map, List.getElem?_map, h3, g2]; simp [h4, g3]
      have hl : j < (es1.toList.map (·.key)).length := by simpa using (List.getElem?_eq_some_iff.1 h3).1
      have e2 := (List.getElem?_inj hl hn).1 e1'; subst e2; rw [h3] at g2; cases g2; rfl
     refine ⟨?_, ?_⟩
     · rw [← hv]
       simp [Instr.lookup, run_underlying ht2, MapKept.run_getObj_map h2, K.check w2 _ hkey, g1, Result.andThen]
     · simp [Instr.lookup, run_underlying ht2, MapKept.run_getObj_map hb, K.check w _ hkey, h1, Result.andThen]
end Go.Sx
end
section
namespace Go.Sx
open Go.RowKit (Below)
open Go.Maps (Keyed)
def zbu : List AC → Option (List Value)
 | [] => some []
 | .b (.s v) :: cs => (match zbu cs with | some vs => some (v :: vs) | none => none)
 | _ => none
def valOf : AV → Option Value
 | .one (.b (.s v)) => some v
 | .agg cs => (match zbu cs with | some vs => some (.agg vs.toArray) | none => none)
 | _ => none
theorem z9o {C : Ctx} {w : World} {ρ : Env} {B : List (Nat × AB)} : ∀ {cs : List AC} {vs us : List Value}, zbu cs = some vs → us.length = cs.length →
 (∀ (k : Nat) (c : AC) (u : Value), cs[k]? = some c → us[k]? = some u → qv C w ρ B c u) → us = vs := by
 intro cs
 induction cs with
 | nil => intro vs us h hl _; cases h; exact List.eq_nil_of_length_eq_zero hl
 | cons c cs ih =>
   intro vs us h hl hr; unfold zbu at h; split at h
   · rename_i e; cases e
   · rename_i v cs' e
     cases e; split at h
     · rename_i vs' hvs
       cases h
       cases us with
       | nil => simp at hl
       | cons u us =>
         have h1 := hr 0 _ u rfl rfl; cases h1; rw [ih (us := us) hvs (by simpa using hl) (fun k c' u' h2 h3 => hr (k + 1) c' u' (by simpa using h2) (by simpa using h3))]
     · cases h
   · cases h
theorem y0u {C : Ctx} {w : World} {ρ : Env} {B : List (Nat × AB)} {av : AV} {v u : Value} (h : valOf av = some v) (hr : yw C w ρ B av u) : u = v := by
 cases av with
 | one c =>
   cases c with
   | b c =>
     cases c with
     | s x => cases h; cases hr; rfl
     | _ => cases h
   | _ => cases h
 | agg cs =>
   obtain ⟨arr, rfl, h1, h2⟩ := hr; simp only [valOf] at h; split at h
   · rename_i vs h3
     cases h; have := z9o (us := arr.toList) h3 (by simpa using h1) (fun k c u hc hu => h2 k c u hc (by simpa using hu)); rw [← this]
   · cases h
 | tup vs => cases h
def q9x (P : Program) (σ : St) (t : TypeId) (r : Option Operand) (d : Option Tmp) (K : St → Prop) : Prop :=
 ∃ x k e, r = none ∧ d = some x ∧ P.underlying t = some (.map k e) ∧ get σ.b x = none ∧ K ⟨(x, .one (.mx 0 x)) :: σ.t, y0d σ.b x (.mp k e 0 (.map []) none)⟩
def zbe (P : Program) (σ : St) (t : TypeId) (m x : Operand) (ok : Bool) (d : Option Tmp) (K : St → Prop) : Prop :=
 ∃ β k e n D q kl av key, ok = false ∧ ev σ m = some (.one (.mx 0 β)) ∧ get σ.b β = some (.mp k e n D none) ∧ P.underlying t = some (.map k e) ∧ P.underlying e = some (.int q) ∧ Keyed P k ∧ (∀ w, (zeroValue e).run P w = .ok (.int q 0) w) ∧
   ev σ x = some av ∧ valOf av = some key ∧ keyOf P k key = some kl ∧ ∀ c, D.atKey kl (.lit (.int q 0)) = .lit (.int q c) → (Lit.int q c).wf = true → K (σ.put d (.one (.b (.s (.int q c)))))
def zcc (P : Program) (σ : St) (t : TypeId) (m x v : Operand) (d : Option Tmp) (K : St → Prop) : Prop :=
 ∃ β k e n D q kl av key c, d = none ∧ ev σ m = some (.one (.mx 0 β)) ∧ get σ.b β = some (.mp k e n D none) ∧ P.underlying t = some (.map k e) ∧ P.underlying e = some (.int q) ∧ Keyed P k ∧ n < maxLen ∧
   ev σ x = some av ∧ valOf av = some key ∧ keyOf P k key = some kl ∧ ev σ v = some (.one (.b (.s (.int q c)))) ∧ (Lit.int q c).wf = true ∧
   K ⟨σ.t, y0d σ.b β (.mp k e (n + 1) (D.put kl (.lit (.int q c))) none)⟩
def qc8 (P : Program) (σ : St) (t : TypeId) (m x : Operand) (d : Option Tmp) (K : St → Prop) : Prop :=
 ∃ y β k e n D q kl av key, d = some y ∧ ev σ m = some (.one (.mx 0 β)) ∧ get σ.b β = some (.mp k e n D none) ∧ P.underlying t = some (.map k e) ∧ P.underlying e = some (.int q) ∧ Go.WideMaps.KeyLaw P k ∧ Keyed P k ∧ n < maxLen ∧ (∀ w, (zeroValue e).run P w = .ok (.int q 0) w) ∧
   ev σ x = some av ∧ valOf av = some key ∧ keyOf P k key = some kl ∧ ∀ c born, K ⟨(y, .tup [.one (.b (.s (.int q c))), .one (.b (.s (.int .i64 born)))]) :: σ.t, y0d σ.b β (.me k e n D kl born)⟩
def zc9 (P : Program) (σ : St) (m s v : Operand) (d : Option Tmp) (K : St → Prop) : Prop :=
 ∃ β k e n D q kl born c, d = none ∧ ev σ m = some (.one (.mx 0 β)) ∧ get σ.b β = some (.me k e n D kl born) ∧ P.underlying e = some (.int q) ∧ ev σ s = some (.one (.b (.s (.int .i64 born)))) ∧ ev σ v = some (.one (.b (.s (.int q c)))) ∧ (Lit.int q c).wf = true ∧
   K ⟨σ.t, y0d σ.b β (.mp k e (n + 1) (D.put kl (.lit (.int q c))) none)⟩
def qbd (P : Program) (σ : St) (t : TypeId) (m x : Operand) (ok : Bool) (d : Option Tmp) (K : St → Prop) : Prop :=
 ∃ β k e n D q kl born av key, ok = false ∧ ev σ m = some (.one (.mx 0 β)) ∧ get σ.b β = some (.me k e n D kl born) ∧ P.underlying t = some (.map k e) ∧ P.underlying e = some (.int q) ∧ (∀ w, (zeroValue e).run P w = .ok (.int q 0) w) ∧
   ev σ x = some av ∧ valOf av = some key ∧ keyOf P k key = some kl ∧ ∀ c, D.atKey kl (.lit (.int q 0)) = .lit (.int q c) → (Lit.int q c).wf = true → K (σ.put d (.one (.b (.s (.int q c)))))
def q9y (P : Program) (σ : St) (t : TypeId) (m : Operand) (d : Option Tmp) (K : St → Prop) : Prop :=
 ∃ x β k e n D, d = some x ∧ ev σ m = some (.one (.mx 0 β)) ∧ get σ.b β = some (.mp k e n D none) ∧ get σ.b x = none ∧ P.underlying t = some (.map k e) ∧ Keyed P k ∧
   K ⟨(x, .one (.mx 1 x)) :: σ.t, y0d (y0d σ.b β .dead) x (.mp k e n D (some (Maps.has D, Maps.size D, none)))⟩
def zbf (P : Program) (σ : St) (it : Operand) (str : Bool) (d : Option Tmp) (K : St → Prop) : Prop :=
 ∃ x β k e n D left cnt cur q, str = false ∧ d = some x ∧ ev σ it = some (.one (.mx 1 β)) ∧ get σ.b β = some (.mp k e n D (some (left, cnt, cur))) ∧ Keyed P k ∧ P.underlying e = some (.int q) ∧
   (cnt = 0 → (∀ kl, left kl = false) → K ⟨(x, .tup [.one (.b (.s (.bool false)))]) :: σ.t, σ.b⟩) ∧
   ∀ key kl c cnt', keyOf P k key = some kl → left kl = true → (∀ zd, D.atKey kl zd = .lit (.int q c)) → (Lit.int q c).wf = true → cnt' < cnt →
     ∃ av, q1s key = some av ∧ (∀ vs, av ≠ .tup vs) ∧ K ⟨(x, .tup [.one (.b (.s (.bool true))), av, .one (.b (.s (.int q c)))]) :: σ.t, y0d σ.b β (.mp k e n D (some ((fun z => left z && !z.sameKey kl), cnt', some (key, .int q c))))⟩
def z9w (P : Program) (σ : St) (it : Operand) (d : Option Tmp) (K : St → Prop) : Prop :=
 ∃ x β k e n D left cnt key u av av', d = some x ∧ ev σ it = some (.one (.mx 1 β)) ∧ get σ.b β = some (.mp k e n D (some (left, cnt, some (key, u)))) ∧ q1s key = some av ∧ (∀ vs, av ≠ .tup vs) ∧ q1s u = some av' ∧ (∀ vs, av' ≠ .tup vs) ∧ K ⟨(x, .tup [av, av']) :: σ.t, σ.b⟩
theorem z5t {P : Program} {w w' : World} {k b r n : Nat} {R : Value → Option (DataW Unit × List MemPlace)} {D : DataW Unit} {left : Lit → Bool} {cnt : Nat} {v : Value} (h : w.ranges P k R b r n D left cnt)
 (he : (Instr.entry (.pointer (some ⟨r, 0, none⟩))).run P w = .ok v w) (h1 : w'.heap[b]? = w.heap[b]?) (h2 : w'.heap[r]? = w.heap[r]?) : (Instr.entry (.pointer (some ⟨r, 0, none⟩))).run P w' = .ok v w' := by
 obtain ⟨es, clock, since, seen, c0, hb, _, _, _, hr, _⟩ := h; have hb' := h1.trans hb; have hr' := h2.trans hr; simp only [Instr.entry, getObj, Sem.run_bind, Sem.run, hr, hb, Result.andThen] at he; simp only [Instr.entry, getObj, Sem.run_bind, Sem.run, hr', hb', Result.andThen]
 cases hs : seen.back? with
 | none => rw [hs] at he; simp [stuck, Sem.run] at he
 | some st =>
   rw [hs] at he; simp only [Sem.run_bind, Sem.run, hb, Result.andThen] at he; simp only [Sem.run_bind, Sem.run, hb', Result.andThen]
   cases hc : (clock != c0) with
   | true => rw [hc] at he; simp [unsupported, Sem.run, Result.andThen] at he
   | false =>
     rw [hc] at he; simp only [Bool.false_eq_true, if_false] at he ⊢
     cases hf : es.find? (fun x => x.born == st) with
     | none => rw [hf] at he; simp [unsupported, Sem.run] at he
     | some e0 =>
       rw [hf] at he; simp at he ⊢; exact he
section
variable {C : Ctx} {σ : St} {ρ : Env} {a : Act} {w : World}
theorem q43 (h : ye C σ ρ a w) {m β : Nat} {x : Operand} (hx : ev σ x = some (.one (.mx m β))) {k e n : Nat} {D : DataW Unit} {it : Option ((Lit → Bool) × Nat × Option (Value × Value))} (hb : get σ.b β = some (.mp k e n D it)) (hk : kd (.mp k e n D it) = m + 2) : a.eval x = ρ.v β := by
 obtain ⟨_, ab, hg, h2⟩ := zf h hx; rw [hb] at hg; cases hg; exact h2 hk
theorem z88 (h : ye C σ ρ a w) {o : Oper} {t : TypeId} {r : Option Operand} {K : St → Prop} (ho : o.op = .makeMap t r) (hd : ∀ d, o.dst = some d → d < C.T) (hk : q9x C.P σ t r o.dst K) : LOk C a w o K := by
 obtain ⟨x, k, e, rfl, hdst, hu, hn, hK⟩ := hk
 have hr : (execOp a.eval o).run C.P w = .ok (.value (.map (some w.heap.size))) (w.alloc (.map #[] 0)) := by
  have h0 : (Instr.makeMap t none).run C.P w = .ok (.map (some w.heap.size)) (w.alloc (.map #[] 0)) := rfl; simp [execOp, ho, h0, Result.andThen]
 refine ⟨_, _, .inl hr, fun _ => zt.alloc w _ _, _, hK, ?_⟩; rw [hdst]; have hne : ∀ ab, ¬ get σ.b x = some ab := fun ab h => by rw [hn] at h; cases h
 have h1 := h.upd (β := x) (ms := []) (ab' := .mp k e 0 (.map []) none) (v' := .map (some w.heap.size)) (S' := fun y => y = w.heap.size) (w' := w.alloc (.map #[] 0)) (zt.alloc w _ _)
  (fun y hy => ⟨by subst hy; simp, .inl (by omega)⟩) (by simp) (fun ab hab => absurd hab (hne ab)) (fun E => by
    refine ⟨w.heap.size, by simp [Env.upd], by simp [Env.upd], World.ownsMap_made w C.P k _⟩) (fun ab hab => absurd hab (hne ab))
 simp only [zp] at h1; exact ⟨_, ye.put (d := some x) (av := .one (.mx 0 x)) h1 (fun t ht => by cases ht; exact hd x hdst) ⟨Y, _, by rw [yx, if_pos rfl], fun _ => by simp [Env.upd]⟩⟩
theorem y98 (h : ye C σ ρ a w) {o : Oper} {t : TypeId} {m x : Operand} {ok : Bool} {K : St → Prop} (ho : o.op = .lookup t m x ok) (hd : ∀ d, o.dst = some d → d < C.T) (hk : zbe C.P σ t m x ok o.dst K) : LOk C a w o K := by
 obtain ⟨β, k, e, n, D, q, kl, av, key, rfl, hm, hb, hu, he, hKd, hz, hx, hav, hkey, hK⟩ := hk; have hv := q43 h hm hb rfl; obtain ⟨b, h1, h2, h3⟩ := h.y0k β _ hb; have hxv := y0u hav (zf h hx); obtain ⟨c, hrun, hat, hwc⟩ := h3.lookup_int hKd hu he (hz w) hkey; refine ⟨_, w, .inl ?_, fun _ => zt.refl w _, _, hK c hat hwc, ρ, h.put hd (.s _ Y)⟩; simp [execOp, ho, hv, h1, hxv, hrun, Result.andThen]
theorem qai (h : ye C σ ρ a w) {o : Oper} {t : TypeId} {m x : Operand} {ok : Bool} {K : St → Prop} (ho : o.op = .lookup t m x ok) (hd : ∀ d, o.dst = some d → d < C.T) (hk : qbd C.P σ t m x ok o.dst K) : LOk C a w o K := by
 obtain ⟨β, k, e, n, D, q, kl, born, av, key, rfl, hm, hb, hu, he, hz, hx, hav, hkey, hK⟩ := hk
 have hv : a.eval m = ρ.v β := by
  obtain ⟨_, ab, hg, h2⟩ := zf h hm; rw [hb] at hg; cases hg; exact h2 Y
 obtain ⟨b, es, clock, h1, h2, h3, _, h5⟩ := h.y0k β _ hb; have hxv := y0u hav (zf h hx); obtain ⟨c, hrun, hat, hwc⟩ := h5 w t q key hu he hz hkey h3; refine ⟨_, w, .inl ?_, fun _ => zt.refl w _, _, hK c hat hwc, ρ, h.put hd (.s _ Y)⟩; simp [execOp, ho, hv, h1, hxv, hrun, Result.andThen]
theorem q5x (h : ye C σ ρ a w) {o : Oper} {t : TypeId} {m x v : Operand} {K : St → Prop} (ho : o.op = .mapUpdate t m x v) (hk : zcc C.P σ t m x v o.dst K) : LOk C a w o K := by
 obtain ⟨β, k, e, n, D, q, kl, av, key, c, hdst, hm, hb, hu, he, hKd, hn, hx, hav, hkey, hcv, hwc, hK⟩ := hk; have hv := q43 h hm hb rfl; obtain ⟨b, h1, h2, h3⟩ := h.y0k β _ hb; have hxv := y0u hav (zf h hx); have hc : a.eval v = .int q c := y0u (v := .int q c) rfl (zf h hcv); obtain ⟨w', hrun, r1, r2⟩ := h3.update hKd hu hn hkey (plainElem_int he hwc)
 have h4 := h.upd (β := β) (ms := []) (ab' := .mp k e (n + 1) (D.put kl (.lit (.int q c))) none) (v' := ρ.v β) (S' := ρ.S β) (w' := w') (zt.grown r2 (fun y hy => by cases hy; exact ⟨⟨_, hb⟩, h2⟩))
  (fun y hy => ⟨Nat.lt_of_lt_of_le (h.mine β _ y hb hy).1 r2.size, .inr (.inl ⟨⟨_, hb⟩, hy⟩)⟩) (by simp) (fun ab hab => ⟨fun cs' he => (by cases he), fun f s ep rows he => (by cases he)⟩) (fun E => by
    simp only [z0n, Env.upd, if_true]
    exact ⟨b, h1, h2, r1⟩) (fun ab hab _ => by rw [hb] at hab; cases hab; exact ⟨Y, Y⟩)
 simp only [zp] at h4; refine ⟨undef, w', .inr ⟨Y, ?_⟩, fun hq => ?_, _, hK, ?_⟩
 · simp [execOp, ho, hv, h1, hxv, hc, hrun, Result.andThen]
 · rw [ho] at hq; cases hq
 · rw [hdst]; exact ⟨_, h4⟩
theorem ybe (h : ye C σ ρ a w) {β : Nat} {x : Operand} (hx : ev σ x = some (.one (.mx 0 β))) {k e n : Nat} {D : DataW Unit} {kl : Lit} {born : Int} (hb : get σ.b β = some (.me k e n D kl born)) : a.eval x = ρ.v β := by
 obtain ⟨_, ab, hg, h2⟩ := zf h hx; rw [hb] at hg; cases hg; exact h2 Y
theorem q76 (h : ye C σ ρ a w) {o : Oper} {t : TypeId} {m x : Operand} {K : St → Prop} (ho : o.op = .mapEntry t m x) (hd : ∀ d, o.dst = some d → d < C.T) (hk : qc8 C.P σ t m x o.dst K) : LOk C a w o K := by
 obtain ⟨y, β, k, e, n, D, q, kl, av, key, hdst, hm, hb, hu, he, hL, hKd, hn, hz, hx, hav, hkey, hK⟩ := hk; have hv := q43 h hm hb rfl; obtain ⟨b, h1, h2, h3⟩ := h.y0k β _ hb; have hxv := y0u hav (zf h hx); have h3' := h3; obtain ⟨es, clock, hbb, hF, hsz, hD⟩ := h3; obtain ⟨v0, st, es1, clock1, hrun, hwho, hst⟩ := Go.WideElems.entry_then_store hL hu hz hbb hF hkey
 obtain ⟨c, rfl⟩ : ∃ c, v0 = .int q c := by
  rcases hwho with ⟨e0, he0, _, rfl⟩ | ⟨_, rfl⟩
  · obtain ⟨z, hz1⟩ := hF.reads e0 he0
    obtain ⟨z2, hz2, _⟩ := Go.WideElems.rd_val hz1; obtain ⟨c, hc, _⟩ := plainElem_int_inv he hz2; exact ⟨c, hc⟩
  · exact ⟨0, Y⟩
 obtain ⟨w', hw'⟩ : ∃ w', Go.ChangeMaps.setBlock w b (.map es1 clock1) = w' := ⟨_, rfl⟩
 have hb1 : w'.heap[b]? = some (.map es1 clock1) := by rw [← hw']; exact Go.ChangeMaps.heap_setBlock_same hbb _
 have hgr : w.grownBy w' (some b) := by
  rw [← hw']; exact ⟨Y, Y, Y, by simp [Go.ChangeMaps.setBlock], fun i _ hi => Go.ChangeMaps.heap_setBlock_other hbb _ (fun e => hi (by rw [e]))⟩
 rw [hw'] at hrun
 have h4 := h.upd (β := β) (ms := []) (ab' := .me k e n D kl (st : Int)) (v' := ρ.v β) (S' := ρ.S β) (w' := w') (zt.grown hgr (fun y hy => by cases hy; exact ⟨⟨_, hb⟩, h2⟩))
  (fun y hy => ⟨Nat.lt_of_lt_of_le (h.mine β _ y hb hy).1 hgr.size, .inr (.inl ⟨⟨_, hb⟩, hy⟩)⟩) (by simp) (fun ab hab => ⟨fun cs' he => (by cases he), fun f s ep rows he => (by cases he)⟩) (fun E => by
    simp only [z0n, Env.upd, if_true]; refine ⟨b, es1, clock1, h1, h2, hb1, fun w2 t' q' c' he' hwf hw2 => ?_, fun w2 t' q' key' hu' he' hz' hkey' hw2 => ?_⟩; rotate_left
    · obtain ⟨c0, g1, g2, g3⟩ := h3'.lookup_int hKd hu' he' (hz' w) hkey'
      have hq : q' = q := by rw [he] at he'; simpa using he'.symm
      subst hq; obtain ⟨f1, f2⟩ := y79 hL hu hz hbb hF hkey (by rw [hrun, ← hw']) hw2 hkey' hu'; rw [g1] at f2; injection f2 with f2 _
      injection f2 with _ f2
      subst f2; exact ⟨c0, f1, g2, g3⟩
    obtain ⟨es', clock', r1, r2⟩ := hst w2 (.int q' c') hw2; obtain ⟨w4, r3, r4, r5⟩ := h3'.update hKd hu hn hkey (plainElem_int he' hwf); rw [r2] at r3; obtain rfl : Go.ChangeMaps.setBlock w b (.map es' clock') = w4 := by simpa using r3
    obtain ⟨es2, clock2, g1, g2, g3, g4⟩ := r4; rw [Go.ChangeMaps.heap_setBlock_same hbb _] at g1; cases g1
    exact ⟨_, r1, ⟨Y, Y, Y, by simp [Go.ChangeMaps.setBlock], fun i _ hi => Go.ChangeMaps.heap_setBlock_other hw2 _ (fun e => hi (by rw [e]))⟩, es', clock', Go.ChangeMaps.heap_setBlock_same hw2 _, g2, g3, g4⟩) (fun ab hab _ => by rw [hb] at hab; cases hab; exact ⟨Y, Y⟩)
 simp only [zp] at h4; refine ⟨.tuple #[.int q c, .int .i64 (st : Int)], w', .inl ?_, fun hq => ?_, _, hK c (st : Int), ?_⟩
 · simp [execOp, ho, hv, h1, hxv, hrun, Result.andThen]; rfl
 · rw [ho] at hq; cases hq
 · rw [hdst]
   refine ⟨_, ye.put (d := some y) (av := .tup [.one (.b (.s (.int q c))), .one (.b (.s (.int .i64 (st : Int))))]) h4 (fun t ht => by cases ht; exact hd y hdst) ⟨_, Y, Y, fun i av u h5 h6 => ?_⟩⟩
   match i, h5, h6 with
   | 0, h5, h6 => cases h5; cases h6; exact .s _ Y
   | 1, h5, h6 => cases h5; cases h6; exact .s _ Y
   | i + 2, h5, _ => simp at h5
theorem y59 (h : ye C σ ρ a w) {o : Oper} {t : TypeId} {m s v : Operand} {K : St → Prop} (ho : o.op = .entryStore t m s v) (hk : zc9 C.P σ m s v o.dst K) : LOk C a w o K := by
 obtain ⟨β, k, e, n, D, q, kl, born, c, hdst, hm, hb, he, hs, hcv, hwc, hK⟩ := hk; have hv := ybe h hm hb; obtain ⟨b, es, clock, h1, h2, h3, h5, _⟩ := h.y0k β _ hb; have hsv : a.eval s = .int .i64 born := y0u (v := .int .i64 born) rfl (zf h hs); have hc : a.eval v = .int q c := y0u (v := .int q c) rfl (zf h hcv); obtain ⟨w', hrun, r2, r1⟩ := h5 w t q c he hwc h3
 have h4 := h.upd (β := β) (ms := []) (ab' := .mp k e (n + 1) (D.put kl (.lit (.int q c))) none) (v' := ρ.v β) (S' := ρ.S β) (w' := w') (zt.grown r2 (fun y hy => by cases hy; exact ⟨⟨_, hb⟩, h2⟩))
  (fun y hy => ⟨Nat.lt_of_lt_of_le (h.mine β _ y hb hy).1 r2.size, .inr (.inl ⟨⟨_, hb⟩, hy⟩)⟩) (by simp) (fun ab hab => ⟨fun cs' he => (by cases he), fun f s ep rows he => (by cases he)⟩) (fun E => by
    simp only [z0n, Env.upd, if_true]
    exact ⟨b, h1, h2, r1⟩) (fun ab hab _ => by rw [hb] at hab; cases hab; exact ⟨Y, Y⟩)
 simp only [zp] at h4; refine ⟨undef, w', .inr ⟨Y, ?_⟩, fun hq => ?_, _, hK, ?_⟩
 · simp [execOp, ho, hv, h1, hsv, hc, hrun, Result.andThen]
 · rw [ho] at hq; cases hq
 · rw [hdst]; exact ⟨_, h4⟩
theorem zaj (h : ye C σ ρ a w) {o : Oper} {t : TypeId} {m : Operand} {K : St → Prop} (ho : o.op = .range t m) (hd : ∀ d, o.dst = some d → d < C.T) (hk : q9y C.P σ t m o.dst K) : LOk C a w o K := by
 obtain ⟨x, β, k, e, n, D, hdst, hm, hb, hx, hu, hKd, hK⟩ := hk; have hv := q43 h hm hb rfl; obtain ⟨b, h1, h2, h3⟩ := h.y0k β _ hb; obtain ⟨w', hrun, r1, r2, r3⟩ := h3.range hKd hu; have hne : ∀ ab, ¬ get σ.b x = some ab := fun ab h => by rw [hx] at h; cases h
 have hxb : x ≠ β := fun e => by subst e; rw [hx] at hb; cases hb
 have h4 := h.upd (β := x) (ms := [β]) (ab' := .mp k e n D (some (Maps.has D, Maps.size D, none))) (v' := .pointer (some ⟨w.heap.size, 0, none⟩)) (S' := fun y => y = b ∨ y = w.heap.size) (w' := w') (zt.grown r2 (fun y hy => by cases hy))
  (fun y hy => by
    rcases hy with rfl | rfl
    · exact ⟨Nat.lt_of_lt_of_le (h.mine β _ _ hb h2).1 r2.size, .inr (.inr ⟨β, by simp, ⟨_, hb⟩, h2⟩)⟩
    · exact ⟨by omega, .inl (Nat.le_refl _)⟩) (by simpa using hxb) (fun ab hab => absurd hab (hne ab)) (fun E => by
    simp only [z0n, Env.upd, if_true]
    exact ⟨b, w.heap.size, Y, .inl Y, .inr Y, r1, fun _ _ hc => by cases hc⟩) (fun ab hab => absurd hab (hne ab))
 simp only [zp] at h4; refine ⟨.pointer (some ⟨w.heap.size, 0, none⟩), w', .inl ?_, fun _ => zt.grown r2 (fun y hy => by cases hy), _, hK, ?_⟩
 · simp [execOp, ho, hv, h1, hrun, Result.andThen]
 · rw [hdst]
   exact ⟨_, ye.put (d := some x) (av := .one (.mx 1 x)) h4 (fun t ht => by cases ht; exact hd x hdst) ⟨Y, _, by rw [yx, if_pos rfl], fun _ => by simp [Env.upd]⟩⟩
theorem ybc (h : ye C σ ρ a w) {o : Oper} {it : Operand} {str : Bool} {K : St → Prop} (ho : o.op = .next it str) (hd : ∀ d, o.dst = some d → d < C.T) (hk : zbf C.P σ it str o.dst K) : LOk C a w o K := by
 obtain ⟨x, β, k, e, n, D, left, cnt, cur, q, rfl, hdst, hm, hb, hKd, he, hK0, hK1⟩ := hk; have hv := q43 h hm hb rfl; obtain ⟨b, r, h1, h2, h2', h3, _⟩ := h.y0k β _ hb; rcases h3.next hKd o.type with ⟨h0, hl, hrun⟩ | ⟨key, v, kl, y, w', cnt', hkey, hlk, hvv, hat, hrun, hrg, hlt, hgr, hsz, hen⟩
 · refine ⟨.tuple #[.bool false], w, .inl ?_, fun _ => zt.refl w _, _, hK0 h0 hl, ρ, ?_⟩
   · simp [execOp, ho, hv, h1, hrun, Result.andThen]
   · rw [hdst]
     refine ye.put (d := some x) (av := .tup [.one (.b (.s (.bool false)))]) h (fun t ht => by cases ht; exact hd x hdst) ⟨_, Y, Y, fun i c u hc hu => ?_⟩
     cases i with
     | zero => cases hc; simp at hu; subst hu; exact .s _ Y
     | succ i => simp at hc
 · obtain ⟨c, rfl, rfl, hwc⟩ := plainElem_int_inv he hvv
   obtain ⟨av, hav, hnt, hK⟩ := hK1 key kl c cnt' hkey hlk (fun zd => hat zd) hwc hlt
   have h4 := h.upd (β := β) (ms := []) (ab' := .mp k e n D (some ((fun z => left z && !z.sameKey kl), cnt', some (key, .int q c)))) (v' := ρ.v β) (S' := ρ.S β) (w' := w') (zt.grown hgr (fun y hy => by cases hy; exact ⟨⟨_, hb⟩, h2'⟩))
    (fun y hy => ⟨Nat.lt_of_lt_of_le (h.mine β _ y hb hy).1 hgr.size, .inr (.inl ⟨⟨_, hb⟩, hy⟩)⟩) (by simp) (fun ab hab => ⟨fun cs' he => (by cases he), fun f s ep rows he => (by cases he)⟩) (fun E => by
      simp only [z0n, Env.upd, if_true]
      exact ⟨b, r, h1, h2, h2', hrg, fun key' u hc w1 e1 e2 => by cases hc; exact z5t hrg hen e1 e2⟩) (fun ab hab _ => by rw [hb] at hab; cases hab; exact ⟨Y, Y⟩)
   simp only [zp] at h4; refine ⟨.tuple #[.bool true, key, .int q c], w', .inl ?_, fun hq => ?_, _, hK, ?_⟩
   · simp [execOp, ho, hv, h1, hrun, Result.andThen]
   · rw [ho] at hq; cases hq
   · rw [hdst]
     refine ⟨_, ye.put (d := some x) (av := .tup [.one (.b (.s (.bool true))), av, .one (.b (.s (.int q c)))]) h4 (fun t ht => by cases ht; exact hd x hdst) ⟨_, Y, Y, fun i c' u hc hu => ?_⟩⟩
     have hav' : q02 C w' (ρ.upd β (ρ.v β) (ρ.S β) []) (y0d σ.b β (.mp k e n D (some ((fun z => left z && !z.sameKey kl), cnt', some (key, .int q c))))) av key := by
      have := z0i (C := C) (w := w') (ρ := ρ.upd β (ρ.v β) (ρ.S β) []) (B := y0d σ.b β (.mp k e n D (some ((fun z => left z && !z.sameKey kl), cnt', some (key, .int q c))))) hav
      cases av with
      | tup vs => exact absurd rfl (hnt vs)
      | one c => exact this
      | agg cs => exact this
     match i with
     | 0 => cases hc; simp at hu; subst hu; exact .s _ Y
     | 1 => cases hc; simp at hu; subst hu; exact hav'
     | 2 => cases hc; simp at hu; subst hu; exact .s _ Y
     | i + 3 => simp at hc
theorem yai (h : ye C σ ρ a w) {o : Oper} {it : Operand} {K : St → Prop} (ho : o.op = .entry it) (hd : ∀ d, o.dst = some d → d < C.T) (hk : z9w C.P σ it o.dst K) : LOk C a w o K := by
 obtain ⟨x, β, k, e, n, D, left, cnt, key, u, av, av', hdst, hm, hb, h1, h2, h3, h4, hK⟩ := hk; have hv := q43 h hm hb rfl; obtain ⟨b, r, h5, _, _, _, h6⟩ := h.y0k β _ hb; have hrun := h6 key u rfl w rfl rfl; refine ⟨.tuple #[key, u], w, .inl ?_, fun _ => zt.refl w _, _, hK, ρ, ?_⟩
 · simp [execOp, ho, hv, h5, hrun, Result.andThen]
 · rw [hdst]
   have one : ∀ {av : AV} {v : Value}, q1s v = some av → (∀ vs, av ≠ .tup vs) → q02 C w ρ σ.b av v := fun {av v} ha hn => by
    have := z0i (C := C) (w := w) (ρ := ρ) (B := σ.b) ha
    cases av with
    | tup vs => exact absurd rfl (hn vs)
    | one c => exact this
    | agg cs => exact this
   refine ye.put (d := some x) (av := .tup [av, av']) h (fun t ht => by cases ht; exact hd x hdst) ⟨_, Y, Y, fun i c v hc hu => ?_⟩
   match i with
   | 0 => cases hc; simp at hu; subst hu; exact one h1 h2
   | 1 => cases hc; simp at hu; subst hu; exact one h3 h4
   | i + 2 => simp at hc
end
end Go.Sx
end
section
namespace Go.Sx
open Go.RowKit (Below)
def evs (σ : St) : List Operand → Option (List AV)
 | [] => some []
 | x :: xs => match ev σ x, evs σ xs with | some v, some vs => some (v :: vs) | _, _ => none
def qbs : AV → Prop | .tup _ => False | _ => True
def y4g (rows : List (List Cell)) : Prop := ∀ row ∈ rows, ∀ c ∈ row, (∃ v, c = .s v) ∨ c = .l []
section
variable {C : Ctx} {σ : St} {ρ : Env} {a : Act} {w w' : World}
theorem z9d {S N : Nat → Prop} {c : Cell} {v : Value} (h : Own w S c v) (hc : (∃ u, c = .s u) ∨ c = .l []) : Rep w N c v := by
 rcases hc with ⟨u, rfl⟩ | rfl
 · cases h with | s _ _ h => exact .s _ h
 · cases h with
   | e _ A => exact .l 0 [] A 0 (fun _ _ => undef) (fun _ h => by cases h) (Nat.le_refl _) (fun _ => rfl) (fun j k hj => by simp at hj) (fun j k row c h => by simp at h)
   | l _ sz _ _ e xs u F ho =>
     rcases ho.2 with ⟨rfl, _⟩ | ⟨g, cap, cur, rfl, _⟩
     · exact .l 0 [] none 0 (fun _ _ => undef) (fun _ h => by cases h) (Nat.le_refl _) (fun _ => Y) (fun j k hj => by simp at hj) (fun j k row c h => by simp at h)
     · exact .l 0 [] (some ⟨g, 0, none⟩) cap (fun _ _ => undef) (fun _ h => by cases h) (Nat.zero_le _) (fun h => by cases h) (fun j k hj => by simp at hj) (fun j k row c h => by simp at h)
theorem qa6 (h : ye C σ ρ a w) {x : Operand} {γ sz ep : Nat} {full full1 : Bool} {rows : List (List Cell)} (hx : ev σ x = some (.one (.h γ rows.length))) (hγ : get σ.b γ = some (.arr full sz ep rows)) (hs : sz ≠ 0) (hf : full = full1 ∨ (full1 = false ∧ y4g rows)) :
 ∃ news u F, zaz C σ ρ w C.P sz full1 (a.eval x) rows [γ] news u F := by
 obtain ⟨news, u, F, harg⟩ := y7q h hx hγ hs; rcases hf with rfl | ⟨rfl, hfl⟩
 · exact ⟨news, u, F, harg⟩
 · refine ⟨news, u, F, harg.len, harg.cells, ?_⟩
   obtain ⟨p1, p2, p3, p4, p5, p6⟩ := harg.pay; refine ⟨p1, p2, p3, p4, p5, fun j k row c hj hk => ?_⟩; have h1 := p6 j k row c hj hk
   cases full with
   | false => exact h1
   | true => exact z9d h1 (hfl row (List.mem_of_getElem? hj) c (List.mem_of_getElem? hk))
end
def zbq (P : Program) (σ : St) (c : Call) (d : Option Tmp) (K : St → Prop) : Prop := match c.argTypes.toList, c.args.toList with
 | [t, tx], [s, x] => (match y11 P t, y11 P tx, ev σ s, ev σ x, d with
   | some (sz, by_), some _, some (.one (.h β n)), some (.one (.h γ m)), some d => (match get σ.b β, get σ.b γ with
     | some (.arr full0 sz0 ep rows0), some (.arr full sz1 _ rows) => n = rows0.length ∧ m = rows.length ∧ sz0 = sz ∧ sz1 = sz ∧ β ≠ γ ∧ rows0.length + rows.length ≤ 9223372036854775807 ∧ (rows0.length + rows.length) * by_ ≤ 140737488355328 ∧
        ∃ full1, (full0 = full1 ∨ rows0 = []) ∧ (full = full1 ∨ (full1 = false ∧ y4g rows)) ∧ K ⟨(d, .one (.h β (rows0.length + rows.length))) :: σ.t, y0d (zp σ.b [γ]) β (.arr full1 sz (ep + 1) (rows0 ++ rows))⟩
     | _, _ => False)
   | some (sz, by_), some _, some (.one (.h β n)), some (.one (.b (.l rows))), some d => (match get σ.b β with
     | some (.arr full0 sz0 ep rows0) => n = rows0.length ∧ sz0 = sz ∧ (∀ row ∈ rows, row.length = sz) ∧ rows0.length + rows.length ≤ 9223372036854775807 ∧ (rows0.length + rows.length) * by_ ≤ 140737488355328 ∧
        ∃ full1, (full0 = full1 ∨ rows0 = []) ∧ (full1 = true → qt rows) ∧ K ⟨(d, .one (.h β (rows0.length + rows.length))) :: σ.t, y0d σ.b β (.arr full1 sz (ep + 1) (rows0 ++ rows))⟩
     | _ => False)
   | some (sz, by_), some _, some (.one .nil), some (.one (.h γ m)), some d => (match get σ.b d, get σ.b γ with
     | none, some (.arr full sz1 _ rows) => m = rows.length ∧ sz1 = sz ∧ d ≠ γ ∧ rows.length ≤ 9223372036854775807 ∧ rows.length * by_ ≤ 140737488355328 ∧ K ⟨(d, .one (.h d rows.length)) :: σ.t, y0d (zp σ.b [γ]) d (.arr full sz 0 rows)⟩
     | _, _ => False)
   | some (sz, by_), some _, some (.one .em), some (.one (.h γ m)), some d => (match get σ.b d, get σ.b γ with
     | none, some (.arr full sz1 _ rows) => m = rows.length ∧ sz1 = sz ∧ d ≠ γ ∧ rows.length ≤ 9223372036854775807 ∧ rows.length * by_ ≤ 140737488355328 ∧ K ⟨(d, .one (.h d rows.length)) :: σ.t, y0d (zp σ.b [γ]) d (.arr full sz 0 rows)⟩
     | _, _ => False)
   | some (sz, by_), some _, some (.one .em), some (.one (.b (.l rows))), some d => (match get σ.b d with
     | none => (∀ row ∈ rows, row.length = sz) ∧ qt rows ∧ rows.length ≤ 9223372036854775807 ∧ rows.length * by_ ≤ 140737488355328 ∧ K ⟨(d, .one (.h d rows.length)) :: σ.t, y0d σ.b d (.arr true sz 0 rows)⟩
     | _ => False)
   | some (sz, by_), some _, some (.one .nil), some (.one (.b (.l rows))), some d => (match get σ.b d with
     | none => (∀ row ∈ rows, row.length = sz) ∧ qt rows ∧ rows.length ≤ 9223372036854775807 ∧ rows.length * by_ ≤ 140737488355328 ∧ K ⟨(d, .one (.h d rows.length)) :: σ.t, y0d σ.b d (.arr true sz 0 rows)⟩
     | _ => False)
   | _, _, _, _, _ => False)
 | _, _ => False
def z8j : Bool → List Cell → AV
 | true, row => .agg (row.map .b)
 | false, [c] => .one (.b c)
 | false, row => .agg (row.map .b)
def opL (g : Bool) (P : Program) (σ : St) (o : Oper) (K : St → Prop) : Prop := match o.op with
 | .alloc e => (match q1w P e with | some z => qbs z ∧ y1i σ o.dst (qj z) K | none => False)
 | .box _ x => (match ev σ x with | some z => qbs z ∧ y1i σ o.dst (qj z) K | none => False)
 | .store t p x => o.dst = none ∧ (match ev σ p, ev σ x with
   | some (.one (.e β m i k)), some xv => z5i P σ t (.one (.e β m i k)) xv K
   | some pv, some xv => y5i P σ t pv xv K
   | _, _ => False)
 | .buildSlice t n ps => ybd P σ t n ps.toList o.dst K
 | .makeSlice t l c => q8b P σ t l c o.dst K
 | .makeMap t r => q9x P σ t r o.dst K
 | .lookup t m x ok => zbe P σ t m x ok o.dst K ∨ qbd P σ t m x ok o.dst K
 | .mapUpdate t m x v => zcc P σ t m x v o.dst K
 | .mapEntry t m x => qc8 P σ t m x o.dst K
 | .entryStore _ m s v => zc9 P σ m s v o.dst K
 | .range t m => q9y P σ t m o.dst K
 | .next it s => zbf P σ it s o.dst K
 | .entry it => z9w P σ it o.dst K
 | .call c => (match c.callee with
   | .builtin .append => zbq P σ c o.dst K
   | .builtin _ => opY P σ o.op fun av => K (σ.put o.dst av)
   | .value x => (match ev σ x, evs σ c.args.toList with
     | some (.one (.cl f caps)), some avs => y4a P σ o.dst f (avs ++ caps.map fun c => .one (.a c.1 c.2)) K ∨ (g = true ∧ z4a P σ o.dst f (avs ++ caps.map fun c => .one (.a c.1 c.2)) K)
     | some (.one (.b (.f f caps))), some avs => y4a P σ o.dst f (avs ++ caps.map fun c => .one (.b c)) K ∨ (g = true ∧ z4a P σ o.dst f (avs ++ caps.map fun c => .one (.b c)) K)
     | some (.one (.cm f β off)), some avs => y4a P σ o.dst f (.one (.a β off) :: avs) K ∨ (g = true ∧ z4a P σ o.dst f (.one (.a β off) :: avs) K)
     | some (.one (.b (.m f ag row))), some avs => y4a P σ o.dst f (z8j ag row :: avs) K ∨ (g = true ∧ z4a P σ o.dst f (z8j ag row :: avs) K)
     | _, _ => False)
   | .invoke _ _ => False)
 | op => opY P σ op fun av => K (σ.put o.dst av)
section
variable {C : Ctx} {σ : St} {ρ : Env} {a : Act} {w w' : World}
theorem q38 (h : ye C σ ρ a w) : ∀ {xs : List Operand} {avs : List AV}, evs σ xs = some avs → avs.length = xs.length ∧ ∀ (i : Nat) (av : AV), avs[i]? = some av → ∃ x, xs[i]? = some x ∧ yw C w ρ σ.b av (a.eval x)
 | [], avs, he => by cases he; exact ⟨Y, fun i av h => by simp at h⟩
 | x :: xs, avs, he => by
   rw [evs] at he; split at he
   · rename_i v vs hv hvs
     cases he; obtain ⟨h1, h2⟩ := q38 h hvs; refine ⟨by simp [h1], fun i av hi => ?_⟩
     cases i with
     | zero => cases hi; exact ⟨x, Y, zf h hv⟩
     | succ i => simpa using h2 i av (by simpa using hi)
   · cases he
theorem q3z (h : ye C σ ρ a w) {d : Option Tmp} {f : Nat} {avs : List AV} {vals : Array Value} {K : St → Prop} (hd : ∀ t, d = some t → t < C.T) (hk : y4a C.P σ d f avs K) (hs : vals.size = avs.length)
 (hv : ∀ (i : Nat) (av : AV) (v : Value), avs[i]? = some av → vals[i]? = some v → yw C w ρ σ.b av v) :
 okF C.P f = true ∧ Calls C.P f vals w fun e w' => ∃ v, e = .returned v ∧ zt w w' (fun _ => False) ∧ ∃ σ', K σ' ∧ Rel C σ' (a.put d v) w' := by
 obtain ⟨res, ⟨hok, hpc⟩, hsm, hwf, hst, hfr, hK⟩ := hk; refine ⟨hok, ?_⟩
 have hargs : ∃ N : Nat → Prop, (y2p res = true → N = Bor C ρ σ.b) ∧ q4u w N vals (avs.map (q8x σ.b)) := by
  cases hb : y2p res with
  | false =>
    refine ⟨fun _ => True, (fun h => by cases h), by simp [hs], fun i sv v h1 h2 => ?_⟩; rw [List.getElem?_map] at h1
    cases ha : avs[i]? with
    | none => rw [ha] at h1; cases h1
    | some av => rw [ha] at h1; cases h1; exact z8k h (hv i av v ha h2) (z24 hwf i av ha)
  | true =>
    refine ⟨Bor C ρ σ.b, fun _ => Y, by simp [hs], fun i sv v h1 h2 => ?_⟩; rw [List.getElem?_map] at h1
    cases ha : avs[i]? with
    | none => rw [ha] at h1; cases h1
    | some av => rw [ha] at h1; cases h1; exact y65 (hv i av v ha h2) (z24 (hst hb) i av ha)
 obtain ⟨N, hN, hargs⟩ := hargs; refine (hpc N w vals hargs).mono ?_
 rintro e w' ⟨v, S, rfl, hkp, hres, hS⟩
 refine ⟨v, Y, hkp, _, hK, ?_⟩
 cases d with
 | none => exact ⟨ρ, h.world hkp⟩
 | some d =>
   have hd' := hd d rfl; simp only [Option.getD_some] at hfr
   cases res with
   | one rc =>
     have happ : q3w (nameOf d) rc = qe (nameOf d) [rc] := by simp [qe]
     obtain ⟨ρ', h1, _, h2⟩ := q4v (β := nameOf d) (rcs := [rc]) (us := #[v]) (S := S) (G := fun i x => i = 0 ∧ S x) h hkp (fun rc' hrc => by rw [List.mem_singleton.1 hrc]; exact hsm) (by rw [← happ]; exact hfr) hS (fun i x hx => hx.2) (fun i i' x h1 h2 => by rw [h1.1, h2.1]) rfl
      (fun i rc' u h1 h2 => by
        cases i with
        | zero =>
          cases h1; cases h2; have : (fun x => (0 : Nat) = 0 ∧ S x) = S := by funext x; simp
          show z0v w' _ (fun x => (0 : Nat) = 0 ∧ S x) rc v; rw [this]; exact hres
        | succ i => simp at h1)
      (fun rc' hrc hb x hx => by
        rw [List.mem_singleton.1 hrc] at hb; rw [hN hb] at hx
        exact hx)
     refine ⟨ρ', ?_⟩
     have h3 := ye.put (d := some d) (av := q5m (nameOf d) rc) (v := v) h1 (fun t ht => by cases ht; exact hd') (by
      have := h2 0 rc v rfl rfl; simp only [Nat.mul_zero, Nat.add_zero] at this
      cases hav : q5m (nameOf d) rc with
      | one c => rw [hav] at this; exact this
      | agg cs => rw [hav] at this; exact this
      | tup vs => rw [hav] at this; exact this.elim)
     simp only [← happ] at h3; exact h3
   | tup rcs =>
     obtain ⟨arr, G, rfl, h1, h2, h3, h4⟩ := hres
     obtain ⟨ρ', h5, _, h6⟩ := q4v (β := nameOf d) (rcs := rcs) (us := arr) (S := S) (G := G) h hkp (fun rc hrc => List.all_eq_true.1 hsm rc hrc) hfr hS h2 h3 h1 h4
      (fun rc hrc hb x hx => by
        rw [hN (List.any_eq_true.2 ⟨rc, hrc, hb⟩)] at hx
        exact hx)
     refine ⟨ρ', ye.put (d := some d) (av := .tup (y0b (nameOf d) rcs)) h5 (fun t ht => by cases ht; exact hd') ⟨arr, Y, ?_, fun k c u hc hu => ?_⟩⟩
     · rw [h1]
       have : ∀ (rcs : List RC) (β : Nat), (y0b β rcs).length = rcs.length := by
        intro rcs
        induction rcs with
        | nil => intro β; rfl
        | cons c cs ih => intro β; rw [y0b, List.length_cons, List.length_cons, ih]
       rw [this]
     · have : ∀ (rcs : List RC) (β k : Nat) (c : AV), (y0b β rcs)[k]? = some c → ∃ rc, rcs[k]? = some rc ∧ c = q5m (β + 100 * k) rc := by
        intro rcs
        induction rcs with
        | nil => intro β k c hc; simp [y0b] at hc
        | cons c0 cs ih =>
          intro β k c hc; rw [y0b] at hc
          cases k with
          | zero => cases hc; exact ⟨c0, Y, Y⟩
          | succ k =>
            obtain ⟨oc, h1, h2⟩ := ih (β + 100) k c (by simpa using hc); exact ⟨oc, by simpa using h1, by rw [h2]; congr 1; omega⟩
       obtain ⟨rc, hrc, rfl⟩ := this rcs _ k c hc; exact h6 k rc u hrc hu
def y3r (g : Bool) (C : Ctx) (w : World) (o : Oper) (K : St → Prop) (a' : Act) (w' : World) : Prop := (g = false → qbr o.op = false → zt w w' (fun _ => False)) ∧ ∃ σ', K σ' ∧ Rel C σ' a' w'
theorem q0u {g : Bool} {o : Oper} {K : St → Prop} {Q : Exit → Act → World → Prop} (h : LOk C a w o K) : o.wp C.P a w (y3r g C w o K) Q := by
 obtain ⟨v, w', hr, hk, hK⟩ := h; unfold Oper.wp; rcases hr with hr | ⟨rfl, hr⟩
 · rw [hr]; exact ⟨fun _ => hk, hK⟩
 · rw [hr]; exact ⟨fun _ => hk, hK⟩
theorem qbl {g : Bool} (h : ye C σ ρ a w) {o : Oper} {K : St → Prop} {Q : Exit → Act → World → Prop} (hd : ∀ d, o.dst = some d → d < C.T) (hy : YOk C σ ρ a w o (fun av => K (σ.put o.dst av))) : o.wp C.P a w (y3r g C w o K) Q := by
 obtain ⟨av, v, hK, hv, hr⟩ := hy; unfold Oper.wp; rw [hr w (fun _ => zt.refl w _)]; exact ⟨fun _ _ => zt.refl w _, _, hK, ρ, h.put hd hv⟩
theorem z9c {P : Program} {f : Nat} (h : okF P f = true) : ∃ fn c, P.funcs[f]? = some fn ∧ fn.name ≠ "runtime.NumGoroutine" ∧ fn.body = some c := by
 unfold okF at h; split at h
 · rename_i fn hfn
   simp only [Bool.and_eq_true, Bool.not_eq_true', beq_eq_false_iff_ne] at h; obtain ⟨c, hc⟩ := Option.isSome_iff_exists.1 h.2; exact ⟨fn, c, hfn, h.1, hc⟩
 · cases h
theorem y2s {P : Program} {f : Nat} (h : okF P f = true) (args : Array Value) (w : World) : (callFunc f args).run P w = .ok (.enter f args) w := by
 obtain ⟨fn, c, h1, h2, h3⟩ := z9c h; simp [callFunc, h1, h2, h3]
theorem q6u {g : Bool} (h : ye C σ ρ a w) {o : Oper} {c : Call} {x : Operand} {f : Nat} {us : Array Value} {avs : List AV} {cavs : List AV} {K : St → Prop} {Q : Exit → Act → World → Prop} (ho : o.op = .call c) (hc : c.callee = .value x) (hx : a.eval x = .func (.func f) #[] us)
 (hd : ∀ d, o.dst = some d → d < C.T) (ha : evs σ c.args.toList = some avs) (hus : us.size = cavs.length) (hcv : ∀ (i : Nat) (av : AV) (v : Value), cavs[i]? = some av → us[i]? = some v → yw C w ρ σ.b av v) (hk : y4a C.P σ o.dst f (avs ++ cavs) K ∨ (g = true ∧ z4a C.P σ o.dst f (avs ++ cavs) K)) : o.wp C.P a w (y3r g C w o K) Q := by
 obtain ⟨hl, hav⟩ := q38 h ha; have hl2 : avs.length = c.args.size := by rw [hl, Array.length_toList]
 have hsz : (c.args.map a.eval ++ us).size = (avs ++ cavs).length := by simp [hl, hus]
 have hrel : ∀ (i : Nat) (av : AV) (v : Value), (avs ++ cavs)[i]? = some av → (c.args.map a.eval ++ us)[i]? = some v → yw C w ρ σ.b av v := fun i av v h1 h2 => by
  rw [List.getElem?_append] at h1; rw [Array.getElem?_append] at h2; by_cases hi : i < avs.length
  · rw [if_pos hi] at h1
    rw [if_pos (by rw [Array.size_map]; omega)] at h2; obtain ⟨y, hy, hrel⟩ := hav i av h1; rw [Array.getElem?_map] at h2; rw [Array.getElem?_toList] at hy; rw [hy] at h2; cases h2; exact hrel
  · rw [if_neg hi] at h1
    rw [if_neg (by rw [Array.size_map]; omega)] at h2; refine hcv _ av v h1 ?_; rw [hl2]; simpa using h2
 have fin : okF C.P f = true → Calls C.P f (c.args.map a.eval ++ us) w (fun e w' => ∃ v, e = .returned v ∧ (g = false → zt w w' (fun _ => False)) ∧ ∃ σ', K σ' ∧ Rel C σ' (a.put o.dst v) w') → o.wp C.P a w (y3r g C w o K) Q := fun hok hcalls => by
  have hr : (execOp a.eval o).run C.P w = .ok (.enter f (c.args.map a.eval ++ us)) w := by
   simp [execOp, ho, resolve, hc, hx, Deferred.ofValue, invoke, y2s hok]
  unfold Oper.wp; rw [hr]; refine hcalls.mono ?_
  rintro e w' ⟨v, rfl, hkp, hK⟩
  exact ⟨fun hg _ => hkp hg, hK⟩
 rcases hk with hk | ⟨hg, hk⟩
 · obtain ⟨hok, hcalls⟩ := q3z h hd hk hsz hrel
   exact fin hok (hcalls.mono (fun e w' ⟨v, h1, h2, h3⟩ => ⟨v, h1, fun _ => h2, h3⟩))
 · obtain ⟨hok, hcalls⟩ := z34 h hd hk hsz hrel
   exact fin hok (hcalls.mono (fun e w' ⟨v, h1, h2⟩ => ⟨v, h1, (fun h => absurd (hg.symm.trans h) (by decide)), h2⟩))
theorem y6u {g : Bool} (h : ye C σ ρ a w) {o : Oper} {c : Call} {x : Operand} {f : Nat} {x0 : Value} {av0 : AV} {avs : List AV} {K : St → Prop} {Q : Exit → Act → World → Prop} (ho : o.op = .call c) (hc : c.callee = .value x) (hx : a.eval x = .func (.func f) #[x0] #[])
 (hd : ∀ d, o.dst = some d → d < C.T) (ha : evs σ c.args.toList = some avs) (h0 : yw C w ρ σ.b av0 x0) (hk : y4a C.P σ o.dst f (av0 :: avs) K ∨ (g = true ∧ z4a C.P σ o.dst f (av0 :: avs) K)) : o.wp C.P a w (y3r g C w o K) Q := by
 obtain ⟨hl, hav⟩ := q38 h ha; have hl2 : avs.length = c.args.size := by rw [hl, Array.length_toList]
 have hsz : (#[x0] ++ c.args.map a.eval).size = (av0 :: avs).length := by simp [hl]; omega
 have hrel : ∀ (i : Nat) (av : AV) (v : Value), (av0 :: avs)[i]? = some av → (#[x0] ++ c.args.map a.eval)[i]? = some v → yw C w ρ σ.b av v := fun i av v h1 h2 => by
  rw [Array.getElem?_append] at h2
  cases i with
  | zero => simp at h1 h2; subst h1; subst h2; exact h0
  | succ i =>
    rw [List.getElem?_cons_succ] at h1; rw [if_neg (by simp)] at h2; obtain ⟨y, hy, hrel⟩ := hav i av h1; have h2 : (c.args.map a.eval)[i]? = some v := by simpa using h2
    rw [Array.getElem?_map] at h2; rw [Array.getElem?_toList] at hy; rw [hy] at h2; cases h2; exact hrel
 have fin : okF C.P f = true → Calls C.P f (#[x0] ++ c.args.map a.eval) w (fun e w' => ∃ v, e = .returned v ∧ (g = false → zt w w' (fun _ => False)) ∧ ∃ σ', K σ' ∧ Rel C σ' (a.put o.dst v) w') → o.wp C.P a w (y3r g C w o K) Q := fun hok hcalls => by
  have hr : (execOp a.eval o).run C.P w = .ok (.enter f (#[x0] ++ c.args.map a.eval)) w := by
   simp [execOp, ho, resolve, hc, hx, Deferred.ofValue, invoke, y2s hok]
  unfold Oper.wp; rw [hr]; refine hcalls.mono ?_
  rintro e w' ⟨v, rfl, hkp, hK⟩
  exact ⟨fun hg _ => hkp hg, hK⟩
 rcases hk with hk | ⟨hg, hk⟩
 · obtain ⟨hok, hcalls⟩ := q3z h hd hk hsz hrel
   exact fin hok (hcalls.mono (fun e w' ⟨v, h1, h2, h3⟩ => ⟨v, h1, fun _ => h2, h3⟩))
 · obtain ⟨hok, hcalls⟩ := z34 h hd hk hsz hrel
   exact fin hok (hcalls.mono (fun e w' ⟨v, h1, h2⟩ => ⟨v, h1, (fun h => absurd (hg.symm.trans h) (by decide)), h2⟩))
theorem zbl {g : Bool} (h : ye C σ ρ a w) {o : Oper} {c : Call} {K : St → Prop} {Q : Exit → Act → World → Prop} (ho : o.op = .call c) (hc : c.callee = .builtin .append) (hd : ∀ d, o.dst = some d → d < C.T) (hk : zbq C.P σ c o.dst K) : o.wp C.P a w (y3r g C w o K) Q := by
 have hnk : ∀ {t sz by_ : Nat}, y11 C.P t = some (sz, by_) → ∃ d, C.P.underlying t = some d ∧ ∀ k, d ≠ .int k := fun {t sz by_} he => by
  obtain ⟨e, i, z, hu, _⟩ := q01 he; exact ⟨_, hu, fun k hk => by cases hk⟩
 have fin : ∀ {t tx : Nat} {s x : Operand} {d : Nat} {v' : Value} {w' : World} {σ' : St}, c.argTypes.toList = [t, tx] → c.args.toList = [s, x] → o.dst = some d → (Builtin.append_ #[t, tx] o.type #[a.eval s, a.eval x]).run C.P w = .ok v' w' → K σ' → Rel C σ' (a.put (some d) v') w' → o.wp C.P a w (y3r g C w o K) Q := by
  intro t tx s x d v' w' σ' ht hx hdst hr hK hrel; have h1 : c.argTypes = #[t, tx] := by rw [← Array.toArray_toList (xs := c.argTypes), ht]
  have h2 : c.args = #[s, x] := by rw [← Array.toArray_toList (xs := c.args), hx]
  have hrun : (execOp a.eval o).run C.P w = .ok (.value v') w' := by
   simp [execOp, ho, resolve, hc, invoke, builtin, h1, h2, hr]
  unfold Oper.wp; rw [hrun]; refine ⟨fun _ hq => ?_, σ', hK, ?_⟩
  · rw [ho] at hq
    obtain ⟨callee, args, ats⟩ := c; cases hc; cases hq
  · rw [hdst]; exact hrel
 unfold zbq at hk; split at hk
 case h_2 => exact hk.elim
 rename_i t tx s x ht hx; split at hk
 · rename_i sz by_ p β n γ m d hes hex hs hxx hdst
   split at hk
   · rename_i full0 sz0 ep rows0 full sz1 ep1 rows hβ hγ
     obtain ⟨rfl, rfl, rfl, rfl, hne, hb1, hb2, full1, hfull, hfl, hK⟩ := hk; obtain ⟨dt, hdt1, hdt2⟩ := hnk hex; obtain ⟨_, _, _, _, _, _, _, _, _, hne0⟩ := q01 hes; obtain ⟨news, u, F, harg⟩ := qa6 h hxx hγ hne0 hfl
     have hv : a.eval s = ρ.v β := by
      obtain ⟨_, ab, hg, h2⟩ := zf h hs; rw [hβ] at hg; cases hg; exact (h2 _ _ _ _ Y).2 Y
     obtain ⟨v', w', hr, hrel⟩ := q7p (ty := o.type) h hes hdt1 hdt2 hβ hfull (by simpa using hne) harg (hd d hdst) hb1 hb2; rw [← hv] at hr; exact fin ht hx hdst hr hK hrel
   · exact hk.elim
 · rename_i sz by_ p β n rows d hes hex hs hxx hdst
   split at hk
   · rename_i full0 sz0 ep rows0 hβ
     obtain ⟨rfl, rfl, hsz, hb1, hb2, full1, hfull, hsc, hK⟩ := hk; obtain ⟨dt, hdt1, hdt2⟩ := hnk hex; obtain ⟨news, u, F, harg⟩ := z7q h hxx hsz hsc
     have hv : a.eval s = ρ.v β := by
      obtain ⟨_, ab, hg, h2⟩ := zf h hs; rw [hβ] at hg; cases hg; exact (h2 _ _ _ _ Y).2 Y
     obtain ⟨v', w', hr, hrel⟩ := q7p (ty := o.type) h hes hdt1 hdt2 hβ hfull (by simp) harg (hd d hdst) hb1 hb2; rw [← hv] at hr; exact fin ht hx hdst hr hK hrel
   · exact hk.elim
 · rename_i sz by_ p γ m d hes hex hs hxx hdst
   split at hk
   · rename_i full sz1 ep1 rows hn hγ
     obtain ⟨rfl, rfl, hne, hb1, hb2, hK⟩ := hk; obtain ⟨dt, hdt1, hdt2⟩ := hnk hex; obtain ⟨_, _, _, _, _, _, _, _, _, hne0⟩ := q01 hes; obtain ⟨news, u, F, harg⟩ := y7q h hxx hγ hne0; have hv : a.eval s = .slice none 0 0 := zf h hs; obtain ⟨v', w', hr, _, hrel⟩ := q4b (ty := o.type) (A := none) h hes hdt1 hdt2 hn (by simpa using hne) harg (hd d hdst) hb1 hb2; rw [← hv] at hr; exact fin ht hx hdst hr hK hrel
   · exact hk.elim
 · rename_i sz by_ p γ m d hes hex hs hxx hdst
   split at hk
   · rename_i full sz1 ep1 rows hn hγ
     obtain ⟨rfl, rfl, hne, hb1, hb2, hK⟩ := hk; obtain ⟨dt, hdt1, hdt2⟩ := hnk hex; obtain ⟨_, _, _, _, _, _, _, _, _, hne0⟩ := q01 hes; obtain ⟨news, u, F, harg⟩ := y7q h hxx hγ hne0; obtain ⟨A, hv⟩ := zf h hs; obtain ⟨v', w', hr, _, hrel⟩ := q4b (ty := o.type) (A := A) h hes hdt1 hdt2 hn (by simpa using hne) harg (hd d hdst) hb1 hb2; rw [← hv] at hr; exact fin ht hx hdst hr hK hrel
   · exact hk.elim
 · rename_i sz by_ p rows d hes hex hs hxx hdst
   split at hk
   · rename_i hn
     obtain ⟨hsz, hsc, hb1, hb2, hK⟩ := hk; obtain ⟨dt, hdt1, hdt2⟩ := hnk hex; obtain ⟨news, u, F, harg⟩ := z7q (full := true) h hxx hsz (fun _ => hsc); obtain ⟨A, hv⟩ := zf h hs; obtain ⟨v', w', hr, _, hrel⟩ := q4b (ty := o.type) (A := A) h hes hdt1 hdt2 hn (by simp) harg (hd d hdst) hb1 hb2; rw [← hv] at hr; exact fin ht hx hdst hr hK hrel
   · exact hk.elim
 · rename_i sz by_ p rows d hes hex hs hxx hdst
   split at hk
   · rename_i hn
     obtain ⟨hsz, hsc, hb1, hb2, hK⟩ := hk; obtain ⟨dt, hdt1, hdt2⟩ := hnk hex; obtain ⟨news, u, F, harg⟩ := z7q (full := true) h hxx hsz (fun _ => hsc); have hv : a.eval s = .slice none 0 0 := zf h hs; obtain ⟨v', w', hr, _, hrel⟩ := q4b (ty := o.type) (A := none) h hes hdt1 hdt2 hn (by simp) harg (hd d hdst) hb1 hb2; rw [← hv] at hr; exact fin ht hx hdst hr hK hrel
   · exact hk.elim
 · exact hk.elim
theorem y3g {g : Bool} (h : ye C σ ρ a w) {o : Oper} {K : St → Prop} {Q : Exit → Act → World → Prop} (hd : ∀ d, o.dst = some d → d < C.T) (hk : opL g C.P σ o K) : o.wp C.P a w (y3r g C w o K) Q := by
 have hY : opY C.P σ o.op (fun av => K (σ.put o.dst av)) → o.wp C.P a w (y3r g C w o K) Q := fun hk => qbl h hd (q5c h hk)
 have hnt : ∀ {z : AV}, qbs z → ∀ vs, z ≠ .tup vs := fun {z} hz vs he => by subst he; exact hz
 cases ho : o.op with
 | alloc e =>
   simp only [opL, ho] at hk; split at hk
   · rename_i z hz; exact q0u (zai h ho hd hz (hnt hk.1) hk.2)
   · exact hk.elim
 | box e x =>
   simp only [opL, ho] at hk; split at hk
   · rename_i z hz; exact q0u (zbz h ho hd hz (hnt hk.1) hk.2)
   · exact hk.elim
 | store t p x =>
   simp only [opL, ho] at hk; obtain ⟨hdst, hk⟩ := hk; split at hk
   · rename_i β m i k xv hp hx; exact q0u (q98 h ho hdst hp hx hk)
   · rename_i pv xv _ hp hx; exact q0u (y77 h ho hdst hp hx hk)
   · exact hk.elim
 | buildSlice t n ps => simp only [opL, ho] at hk; exact q0u (ybz h ho hd hk)
 | makeSlice t l c => simp only [opL, ho] at hk; exact q0u (zbc h ho hd hk)
 | makeMap t r => simp only [opL, ho] at hk; exact q0u (z88 h ho hd hk)
 | lookup t m x ok => simp only [opL, ho] at hk; exact hk.elim (fun hk => q0u (y98 h ho hd hk)) (fun hk => q0u (qai h ho hd hk))
 | mapUpdate t m x v => simp only [opL, ho] at hk; exact q0u (q5x h ho hk)
 | mapEntry t m x => simp only [opL, ho] at hk; exact q0u (q76 h ho hd hk)
 | entryStore t m s v => simp only [opL, ho] at hk; exact q0u (y59 h ho hk)
 | range t m => simp only [opL, ho] at hk; exact q0u (zaj h ho hd hk)
 | next it s => simp only [opL, ho] at hk; exact q0u (ybc h ho hd hk)
 | entry it => simp only [opL, ho] at hk; exact q0u (yai h ho hd hk)
 | call c =>
   simp only [opL, ho] at hk; split at hk
   · rename_i hc; exact zbl h ho hc hd hk
   · rename_i b hb hc; exact hY (by rw [ho]; exact hk)
   · rename_i x hc
     split at hk
     · rename_i f caps avs hx ha
       obtain ⟨us, h1, h2, h3⟩ := zf h hx; refine q6u h ho hc h1 hd ha (by simp [h2]) (fun i av v hi hv => ?_) hk; rw [List.getElem?_map] at hi
       cases hcp : caps[i]? with
       | none => rw [hcp] at hi; cases hi
       | some p => rw [hcp] at hi; cases hi; exact h3 i p v hcp hv
     · rename_i f caps avs hx ha
       have h1 : Rep w (Bor C ρ σ.b) (.f f caps) (a.eval x) := zf h hx; generalize hev : a.eval x = xv at h1
       cases h1 with
       | f _ _ us h2 h3 =>
         refine q6u h ho hc hev hd ha (by simp [h2]) (fun i av v hi hv => ?_) hk; rw [List.getElem?_map] at hi
         cases hcp : caps[i]? with
         | none => rw [hcp] at hi; cases hi
         | some p => rw [hcp] at hi; cases hi; exact h3 i p v hcp hv
     · rename_i f β off avs hx ha
       obtain ⟨x0, h1, h2⟩ := zf h hx; exact y6u (av0 := .one (.a β off)) h ho hc h1 hd ha h2 hk
     · rename_i f ag row avs hx ha
       have h1 : Rep w (Bor C ρ σ.b) (.m f ag row) (a.eval x) := zf h hx; generalize hev : a.eval x = xv at h1
       cases h1 with
       | m _ _ _ x0 arr h2 h3 h4 =>
         refine y6u h ho hc hev hd ha ?_ hk
         cases ag with
         | true =>
           have h2 : x0 = .agg arr := h2; refine ⟨arr, h2, by simpa using h3, fun k c u hc hu => ?_⟩; rw [List.getElem?_map] at hc
           cases hk' : row[k]? with
           | none => rw [hk'] at hc; cases hc
           | some c0 => rw [hk'] at hc; cases hc; exact h4 k c0 u hk' hu
         | false =>
           have h2 : arr = #[x0] := h2; subst h2
           match row, h3, h4 with
           | [c], _, h4 => exact h4 0 c x0 rfl rfl
           | [], h3, _ => simp at h3
           | _ :: _ :: _, h3, _ => simp at h3
     · exact hk.elim
   · exact hk.elim
 | _ => simp only [opL, ho] at hk; exact hY (by rw [ho]; exact hk)
end
def qx (B : List (Nat × AB)) (β : Nat) : Bool := (get B β).isSome
def q77 (B B' : List (Nat × AB)) : AC → AC → Prop
 | .b c, .b c' => c = c'
 | .nil, .nil => True
 | .nil, .em => True
 | .em, .em => True
 | .nil, .h β n => n = 0 ∧ qx B β = false ∧ (match get B' β with | some (.arr _ _ _ rows) => rows = [] | _ => False)
 | .nil, .b c => c = .l []
 | .em, .b c => c = .l []
 | .h β n, .h β' n' => β = β' ∧ n = n' ∧ qx B' β = true
 | .h β n, .b c => qx B' β = false ∧ (match get B β with | some (.arr _ _ _ rows) => n = rows.length ∧ c = .l rows | _ => False)
 | .a β off, .a β' off' => β = β' ∧ off = off' ∧ qx B' β = true
 | .a β off, .b c => off = 0 ∧ qx B' β = false ∧ (match get B β with | some (.var cs) => (match qav cs with | some row => c = .p row | none => False) | _ => False)
 | .e β n i k, .e β' n' i' k' => β = β' ∧ n = n' ∧ i = i' ∧ k = k' ∧ qx B' β = true
 | .cm f β off, .cm f' β' off' => f = f' ∧ β = β' ∧ off = off' ∧ qx B' β = true
 | .mx m β, .mx m' β' => m = m' ∧ β = β' ∧ qx B' β = true
 | .cl f caps, .cl f' caps' => f = f' ∧ caps = caps' ∧ (caps.all fun c => qx B' c.1) = true
 | _, _ => False
def zbd (B B' : List (Nat × AB)) : List AC → List AC → Prop
 | [], [] => True
 | c :: cs, c' :: cs' => q77 B B' c c' ∧ zbd B B' cs cs'
 | _, _ => False
def zbr (B B' : List (Nat × AB)) : AV → AV → Prop
 | .one c, .one c' => q77 B B' c c'
 | .agg cs, .agg cs' => zbd B B' cs cs'
 | _, _ => False
def yc0 (B B' : List (Nat × AB)) : List AV → List AV → Prop
 | [], [] => True
 | c :: cs, c' :: cs' => zbr B B' c c' ∧ yc0 B B' cs cs'
 | _, _ => False
def zc0 (B B' : List (Nat × AB)) : AV → AV → Prop
 | .tup vs, .tup vs' => yc0 B B' vs vs'
 | v, v' => zbr B B' v v'
def leT (B B' : List (Nat × AB)) (t : List (Nat × AV)) : List (Nat × AV) → Prop
 | [] => True
 | (k, v') :: l => (match get t k with | some v => zc0 B B' v v' | none => False) ∧ leT B B' t l
def yc9 (B B' : List (Nat × AB)) : AB → AB → Prop
 | .var cs, .var cs' => zbd B B' cs cs'
 | .arr f sz _ rows, .arr f' sz' _ rows' => rows = rows' ∧ (f = f' ∨ rows = []) ∧ (sz' = sz ∨ sz' = 0)
 | .mp k e n D it, .mp k' e' n' D' it' => k = k' ∧ e = e' ∧ n = n' ∧ D = D' ∧ it = it'
 | .kp c, .kp c' => c = c'
 | .me k e n D kl b, .me k' e' n' D' kl' b' => k = k' ∧ e = e' ∧ n = n' ∧ D = D' ∧ kl = kl' ∧ b = b'
 | _, .dead => True
 | _, _ => False
def leB (B B' : List (Nat × AB)) : List (Nat × AB) → Prop
 | [] => True
 | (β, ab') :: l => (match get B β with | some ab => yc9 B B' ab ab' | none => (match ab' with | .arr _ _ _ rows => rows = [] | _ => False)) ∧ leB B B' l
def y86 (B' : List (Nat × AB)) : List (Nat × AB) → Bool
 | [] => true
 | (β, _) :: l => bif Nat.ble 1000000000 β then (bif qx B' β then y86 B' l else false) else y86 B' l
def Wk0 (σ σ' : St) : Prop := leT σ.b σ'.b σ.t σ'.t ∧ leB σ.b σ'.b σ'.b ∧ y86 σ'.b σ.b = true
theorem y1h {B' : List (Nat × AB)} : ∀ {l : List (Nat × AB)}, y86 B' l = true → ∀ {β : Nat} {ab : AB}, get l β = some ab → 1000000000 ≤ β → qx B' β = true
 | [], _, β, ab, h, _ => by cases h
 | (k, v) :: l, hk, β, ab, h, hb => by
   rw [y86] at hk; rw [za] at h; by_cases hkb : k = β
   · subst hkb
     rw [Nat.ble_eq_true_of_le hb, cond_true] at hk
     cases hs : qx B' k with
     | true => rfl
     | false => rw [hs] at hk; cases hk
   · rw [if_neg hkb] at h
     cases hc : Nat.ble 1000000000 k with
     | false => rw [hc] at hk; exact y1h hk h hb
     | true =>
       rw [hc] at hk
       cases hs : qx B' k with
       | true => rw [hs] at hk; exact y1h hk h hb
       | false => rw [hs] at hk; cases hk
section
variable {C : Ctx} {σ σ' : St} {ρ : Env} {a : Act} {w : World}
theorem z10 {B B' : List (Nat × AB)} : ∀ {l : List (Nat × AB)}, leB B B' l → ∀ {β : Nat} {ab' : AB}, get l β = some ab' → (∃ ab, get B β = some ab ∧ yc9 B B' ab ab') ∨ (get B β = none ∧ ∃ f s e, ab' = .arr f s e [])
 | [], _, β, ab', h => by cases h
 | (k, v) :: l, hl, β, ab', h => by
   rw [za] at h; by_cases hk : k = β
   · rw [if_pos hk] at h
     cases h; subst hk; have h1 := hl.1; split at h1
     · rename_i ab hab; exact .inl ⟨ab, hab, h1⟩
     · rename_i hn
       split at h1
       · rename_i f s e rows; subst h1; exact .inr ⟨hn, f, s, e, Y⟩
       · exact h1.elim
   · rw [if_neg hk] at h; exact z10 hl.2 h
theorem q88 {B B' : List (Nat × AB)} {t : List (Nat × AV)} : ∀ {l : List (Nat × AV)}, leT B B' t l → ∀ {k : Nat} {v' : AV}, get l k = some v' → ∃ v, get t k = some v ∧ zc0 B B' v v'
 | [], _, k, v', h => by cases h
 | (k0, v) :: l, hl, k, v', h => by
   rw [za] at h; by_cases hk : k0 = k
   · rw [if_pos hk] at h
     cases h; subst hk; have h1 := hl.1; split at h1
     · rename_i v0 hv0; exact ⟨v0, hv0, h1⟩
     · exact h1.elim
   · rw [if_neg hk] at h; exact q88 hl.2 h
theorem z4l {B B' : List (Nat × AB)} : ∀ {cs cs' : List AC}, zbd B B' cs cs' → cs.length = cs'.length ∧ ∀ {k : Nat} {c' : AC}, cs'[k]? = some c' → ∃ c, cs[k]? = some c ∧ q77 B B' c c'
 | [], [], _ => ⟨rfl, fun h => by simp at h⟩
 | c :: cs, c' :: cs', h => by
   obtain ⟨h1, h2⟩ := z4l h.2; refine ⟨by simp [h1], fun {k c1} hk => ?_⟩
   cases k with
   | zero => cases hk; exact ⟨c, Y, h.1⟩
   | succ k => simpa using h2 (by simpa using hk)
 | [], _ :: _, h => h.elim
 | _ :: _, [], h => h.elim
theorem q6n {B B' : List (Nat × AB)} : ∀ {cs cs' : List AV}, yc0 B B' cs cs' → cs.length = cs'.length ∧ ∀ {k : Nat} {c' : AV}, cs'[k]? = some c' → ∃ c, cs[k]? = some c ∧ zbr B B' c c'
 | [], [], _ => ⟨rfl, fun h => by simp at h⟩
 | c :: cs, c' :: cs', h => by
   obtain ⟨h1, h2⟩ := q6n h.2; refine ⟨by simp [h1], fun {k c1} hk => ?_⟩
   cases k with
   | zero => cases hk; exact ⟨c, Y, h.1⟩
   | succ k => simpa using h2 (by simpa using hk)
 | [], _ :: _, h => h.elim
 | _ :: _, [], h => h.elim
def q0a (B : List (Nat × AB)) (ρ : Env) : Env := ⟨fun β => if qx B β then ρ.v β else .slice none 0 0, fun β => if qx B β then ρ.S β else fun _ => False⟩
theorem q4x {B B' : List (Nat × AB)} (hB : leB B B' B') {x : Nat} (h : Bor C ρ B x) : Bor C (q0a B ρ) B' x := by
 refine ⟨h.1, fun β ab' hg hS => ?_⟩; rcases z10 hB hg with ⟨ab, hab, _⟩ | ⟨hn, _⟩
 · have : qx B β = true := by simp [qx, hab]
   simp only [q0a, this, if_true] at hS; exact h.2 β ab hab hS
 · have : qx B β = false := by simp [qx, hn]
   simp only [q0a, this] at hS; exact hS
theorem q1o (h : ye C σ ρ a w) {B' : List (Nat × AB)} (hB : leB σ.b B' B') {c c' : AC} {v : Value} (hl : q77 σ.b B' c c') (hv : qv C w ρ σ.b c v) : qv C w (q0a σ.b ρ) B' c' v := by
 have ad : ∀ {β off : Nat} {v : Value}, qx B' β = true → y1r ρ σ.b β off v → y1r (q0a σ.b ρ) B' β off v := by
  intro β off v hs hv; obtain ⟨ab, g, hg, rfl, h2⟩ := hv; obtain ⟨ab', hg'⟩ := Option.isSome_iff_exists.1 hs; refine ⟨ab', g, hg', Y, fun cs' he => ?_⟩; rcases z10 hB hg' with ⟨ab0, hab, hle⟩ | ⟨hn, _⟩
  · rw [hg] at hab
    cases hab; subst he; have hsb : qx σ.b β = true := by simp [qx, hg]
    simp only [q0a, hsb, if_true]
    cases ab with
    | var cs => exact h2 cs rfl
    | arr f s e r => exact hle.elim
    | dead => exact hle.elim
    | mp k e n D it => exact hle.elim
    | kp c => exact hle.elim
    | me k e n D kl b => exact hle.elim
  · rw [hg] at hn; cases hn
 have nilRep : ∀ {A : Option Addr}, Rep w (Bor C (q0a σ.b ρ) B') (.l []) (.slice A 0 0) := fun {A} => .l 0 [] A 0 (fun _ _ => undef) (by simp) (Nat.le_refl _) (fun _ => rfl) (fun j k hj => by simp at hj) (fun j k row c h1 => by simp at h1)
 cases c with
 | b c => cases c' <;> simp only [q77] at hl; subst hl; exact Rep.mono hv (fun x _ hx => q4x hB hx)
 | nil =>
   cases hv; cases c' <;> simp only [q77] at hl
   · subst hl; exact nilRep
   · rfl
   · exact ⟨none, Y⟩
   · rename_i β n
     obtain ⟨rfl, hs, hm⟩ := hl; split at hm
     · rename_i f s e rows hg
       subst hm; refine ⟨⟨none, 0, Y⟩, _, hg, fun f' s' e' r' he => ?_⟩; cases he; refine ⟨Nat.le_refl _, fun _ => ?_⟩; simp only [q0a, hs, Bool.false_eq_true, if_false]
     · exact hm.elim
 | em =>
   obtain ⟨A, rfl⟩ := hv; cases c' <;> simp only [q77] at hl
   · subst hl; exact nilRep
   · exact ⟨A, Y⟩
 | h β n =>
   cases c' <;> simp only [q77] at hl
   · obtain ⟨hs, hm⟩ := hl
     split at hm
     · rename_i f s e rows hg
       obtain ⟨rfl, rfl⟩ := hm; obtain ⟨_, ab, hg', h2⟩ := hv; rw [hg] at hg'; cases hg'; rw [(h2 _ _ _ _ rfl).2 rfl]; obtain ⟨sz', _, hslab⟩ := h.y0k β _ hg
       have hnone : get B' β = none := by
        cases hb : get B' β with
        | none => rfl
        | some ab => simp [qx, hb] at hs
       have hrel : ∀ x, ρ.S β x → Bor C (q0a σ.b ρ) B' x := fun x hx => by
        refine ⟨.inr (h.mine β _ x hg hx).2, fun γ ab' hγ hS => ?_⟩; rcases z10 hB hγ with ⟨ab0, hab, _⟩ | ⟨hn, _⟩
        · have hsb : qx σ.b γ = true := by simp [qx, hab]
          simp only [q0a, hsb, if_true] at hS; have := h.disj γ β _ _ x hab hg hS hx; subst this; rw [hnone] at hγ; cases hγ
        · have hsb : qx σ.b γ = false := by simp [qx, hn]
          simp only [q0a, hsb] at hS; exact hS
       cases f with
       | true => exact Own.rep (z1b.2 ⟨sz', hslab⟩) hrel
       | false =>
         rcases hslab with ⟨rfl, A, hA⟩ | ⟨e0, xs, u, F, hs0⟩
         · rw [hA]; exact nilRep
         · have hr' : ∀ j k row c, rows[j]? = some row → row[k]? = some c → Rep w (Bor C (q0a σ.b ρ) B') c (u j k) := fun j k row c h1 h2 => Rep.mono (hs0.hr j k row c h1 h2) (fun x _ hx => q4x hB hx)
           rcases hs0.ho.2 with ⟨hv0, h0⟩ | ⟨g, cap, cur, hv0, hbg, hgc, hnc, hcm, hcs, htake⟩
           · have : rows = [] := List.eq_nil_of_length_eq_zero h0
             subst this; rw [hv0]; exact nilRep
           · rw [hv0]
             refine .l sz' rows (some ⟨g, 0, none⟩) cap u hs0.hz hnc (fun h => by cases h) (fun j k hj hk => ⟨⟨g, 0, none⟩, Y, hrel g (hs0.hS g (by rw [hv0]; rfl)), ?_⟩) hr'; rw [add_plain, cell_of_row w g _ cur e0 (0, 0) hgc]; have h1 := hs0.hu j k hj hk; rw [← htake, List.getElem?_take, if_pos (y1c hj hk)] at h1
             simpa using h1
     · exact hm.elim
   · rename_i β' n'
     obtain ⟨rfl, rfl, hs⟩ := hl; obtain ⟨h1, ab, hg, h2⟩ := hv; obtain ⟨ab', hg'⟩ := Option.isSome_iff_exists.1 hs; refine ⟨h1, ab', hg', fun f' s' e' r' he => ?_⟩; rcases z10 hB hg' with ⟨ab0, hab, hle⟩ | ⟨hn, _⟩
     · rw [hg] at hab
       cases hab; subst he; have hsb : qx σ.b β = true := by simp [qx, hg]
       simp only [q0a, hsb, if_true]
       cases ab with
       | var cs => exact hle.elim
       | arr f s e r => obtain ⟨rfl, _⟩ := hle; exact h2 f s e r Y
       | dead => exact hle.elim
       | mp k e n D it => exact hle.elim
       | kp c => exact hle.elim
       | me k e n D kl b => exact hle.elim
     · rw [hg] at hn; cases hn
 | a β off =>
   cases c' <;> simp only [q77] at hl
   · obtain ⟨rfl, hs, hm⟩ := hl
     split at hm
     · rename_i cs hg
       split at hm
       · rename_i row hrow
         subst hm; have hcs0 := q5n hrow; subst hcs0; obtain ⟨ab, g, hg', rfl, h2⟩ := hv; rw [hg] at hg'; cases hg'; obtain ⟨g1, cells, ty, hv1, hS1, hheap, hsz, hcs⟩ := h.y0k β _ hg; have hvg := h2 _ rfl; rw [hvg] at hv1; cases hv1
         have hnone : get B' β = none := by
          cases hb : get B' β with
          | none => rfl
          | some ab => simp [qx, hb] at hs
         have hrel : Bor C (q0a σ.b ρ) B' g := by
          refine ⟨.inr (h.mine β _ g hg hS1).2, fun γ ab' hγ hS => ?_⟩; rcases z10 hB hγ with ⟨ab0, hab, _⟩ | ⟨hn, _⟩
          · have hsb : qx σ.b γ = true := by simp [qx, hab]
            simp only [q0a, hsb, if_true] at hS; have := h.disj γ β _ _ g hab hg hS hS1; subst this; rw [hnone] at hγ; cases hγ
          · have hsb : qx σ.b γ = false := by simp [qx, hn]
            simp only [q0a, hsb] at hS; exact hS
         refine .p row ⟨g, 0, none⟩ (fun k => (cells[k]?).getD undef) (fun k hk => ⟨hrel, ?_⟩) (fun k c hk => ?_)
         · have hk' : k < cells.size := by rw [hsz, List.length_map]; exact hk
           rw [add_plain, cell_of_row w g _ cells ty (0, 0) hheap]; simp [hk']
         · have hk' : k < cells.size := by rw [hsz, List.length_map]; exact (List.getElem?_eq_some_iff.1 hk).1
           have := hcs k (.b c) cells[k] (by rw [List.getElem?_map, hk]; rfl) (by simp [hk']); simp only [hk', Array.getElem?_eq_getElem, Option.getD_some]; exact Rep.mono this (fun x _ hx => q4x hB hx)
       · exact hm.elim
     · exact hm.elim
   · obtain ⟨rfl, rfl, hs⟩ := hl
     exact ad hs hv
 | e β n i k =>
   cases c' <;> simp only [q77] at hl
   obtain ⟨rfl, rfl, rfl, rfl, hs⟩ := hl; obtain ⟨ab, g, off, hg, rfl, h2⟩ := hv; obtain ⟨ab', hg'⟩ := Option.isSome_iff_exists.1 hs; refine ⟨ab', g, off, hg', Y, fun f' s' e' r' he => ?_⟩; rcases z10 hB hg' with ⟨ab0, hab, hle⟩ | ⟨hn, _⟩
   · rw [hg] at hab
     cases hab; subst he; have hsb : qx σ.b β = true := by simp [qx, hg]
     simp only [q0a, hsb, if_true]
     cases ab with
     | var cs => exact hle.elim
     | arr f s e r => obtain ⟨rfl, _⟩ := hle; exact h2 f s e r Y
     | dead => exact hle.elim
     | mp k e n D it => exact hle.elim
     | kp c => exact hle.elim
     | me k e n D kl b => exact hle.elim
   · rw [hg] at hn; cases hn
 | q β n i k => cases c' <;> exact hl.elim
 | cm f β off =>
   cases c' <;> simp only [q77] at hl
   obtain ⟨rfl, rfl, rfl, hs⟩ := hl; obtain ⟨x, rfl, h2⟩ := hv; exact ⟨x, Y, ad hs h2⟩
 | mx m β =>
   cases c' <;> simp only [q77] at hl
   obtain ⟨rfl, rfl, hs⟩ := hl; obtain ⟨h0, ab, hg, h2⟩ := hv; obtain ⟨ab', hg'⟩ := Option.isSome_iff_exists.1 hs; refine ⟨h0, ab', hg', fun hm => ?_⟩; rcases z10 hB hg' with ⟨ab0, hab, hle⟩ | ⟨hn, _⟩
   · rw [hg] at hab
     cases hab; have hsb : qx σ.b β = true := by simp [qx, hg]
     simp only [q0a, hsb, if_true]; refine h2 ?_
     cases ab' with
     | mp k e n D it =>
       cases ab with
       | mp k' e' n' D' it' => obtain ⟨rfl, rfl, rfl, rfl, rfl⟩ := hle; exact hm
       | _ => exact hle.elim
     | kp c =>
       cases ab with
       | kp c' => exact hm
       | _ => exact hle.elim
     | me k e n D kl b =>
       cases ab with
       | me k' e' n' D' kl' b' => exact hm
       | _ => exact hle.elim
     | var cs => simp only [Go.Sx.kd] at hm; omega
     | _ => simp only [Go.Sx.kd] at hm; omega
   · rw [hg] at hn; cases hn
 | cl f caps =>
   cases c' <;> simp only [q77] at hl
   obtain ⟨rfl, rfl, hs⟩ := hl; obtain ⟨us, rfl, h1, h2⟩ := hv; exact ⟨us, Y, h1, fun k c u hc hu => ad (List.all_eq_true.1 hs c (List.mem_of_getElem? hc)) (h2 k c u hc hu)⟩
theorem q4p (h : ye C σ ρ a w) {B' : List (Nat × AB)} (hB : leB σ.b B' B') {c c' : AV} {v : Value} (hl : zbr σ.b B' c c') (hv : q02 C w ρ σ.b c v) : q02 C w (q0a σ.b ρ) B' c' v := by
 cases c with
 | one c => cases c' <;> first | exact q1o h hB hl hv | exact hl.elim
 | agg cs =>
   cases c' with
   | agg cs' =>
     obtain ⟨arr, rfl, h1, h2⟩ := hv; obtain ⟨h3, h4⟩ := z4l hl; refine ⟨arr, Y, by rw [h1, h3], fun k c u hc hu => ?_⟩; obtain ⟨c0, hc0, hle⟩ := h4 hc; exact q1o h hB hle (h2 k c0 u hc0 hu)
   | one c => exact hl.elim
   | tup vs => exact hl.elim
 | tup vs => exact hv.elim
theorem y9f (h : ye C σ ρ a w) {B' : List (Nat × AB)} (hB : leB σ.b B' B') {c c' : AV} {v : Value} (hl : zc0 σ.b B' c c') (hv : yw C w ρ σ.b c v) : yw C w (q0a σ.b ρ) B' c' v := by
 cases c with
 | one c =>
   cases c' with
   | one c' => exact q4p (c := .one c) (c' := .one c') h hB hl hv
   | agg cs' => exact False.elim hl
   | tup vs => exact False.elim hl
 | agg cs =>
   cases c' with
   | one c' => exact False.elim hl
   | agg cs' => exact q4p (c := .agg cs) (c' := .agg cs') h hB hl hv
   | tup vs => exact False.elim hl
 | tup vs =>
   cases c' with
   | tup vs' =>
     obtain ⟨arr, rfl, h1, h2⟩ := hv; obtain ⟨h3, h4⟩ := q6n hl; refine ⟨arr, Y, by rw [h1, h3], fun k c u hc hu => ?_⟩; obtain ⟨c0, hc0, hle⟩ := h4 hc; exact q4p h hB hle (h2 k c0 u hc0 hu)
   | one c => exact hl.elim
   | agg cs => exact hl.elim
def yb9 : AC → Prop
 | .h β _ => 1000000000 ≤ β
 | .mx _ β => 1000000000 ≤ β
 | .a β _ => 1000000000 ≤ β
 | _ => False
theorem zan (hH : ∀ g ∈ C.H, yb9 g.1) (h : Rel C σ a w) (hw : Wk0 σ σ') : Rel C σ' a w := by
 obtain ⟨ρ, h⟩ := h; obtain ⟨hT, hB, hG⟩ := hw
 have src : ∀ β ab' x, get σ'.b β = some ab' → (q0a σ.b ρ).S β x → ∃ ab, get σ.b β = some ab ∧ ρ.S β x := fun β ab' x hg hS => by
  rcases z10 hB hg with ⟨ab, hab, _⟩ | ⟨hn, _⟩
  · have hsb : qx σ.b β = true := by simp [qx, hab]
    simp only [q0a, hsb, if_true] at hS; exact ⟨ab, hab, hS⟩
  · have hsb : qx σ.b β = false := by simp [qx, hn]
    simp only [q0a, hsb] at hS; exact hS.elim
 refine ⟨q0a σ.b ρ, fun t av ht => ?_, fun β ab' hg => ?_, fun β β' ab ab' x hg hg' hx hx' => ?_, fun β ab x hg hx => ?_, h.size, h.defers, h.keep, fun g hg => ?_⟩
 · obtain ⟨v0, hv0, hle⟩ := q88 hT ht
   obtain ⟨v, h1, h2⟩ := h.tmps t v0 hv0; exact ⟨v, h1, y9f h hB hle h2⟩
 · rcases z10 hB hg with ⟨ab, hab, hle⟩ | ⟨hn, f, s, e, rfl⟩
   · have hsb : qx σ.b β = true := by simp [qx, hab]
     have hb := h.y0k β ab hab
     cases ab with
     | var cs =>
       cases ab' with
       | var cs' =>
         obtain ⟨g, cells, ty, h1, h2, h3, h4, h5⟩ := hb; obtain ⟨h6, h7⟩ := z4l hle; refine ⟨g, cells, ty, by simp only [q0a, hsb, if_true]; exact h1, by simp only [q0a, hsb, if_true]; exact h2, h3, by rw [h4, h6], fun k c u hc hu => ?_⟩; obtain ⟨c0, hc0, hle'⟩ := h7 hc; exact q1o h hB hle' (h5 k c0 u hc0 hu)
       | dead => trivial
       | _ => exact hle.elim
     | arr f s e r =>
       cases ab' with
       | arr f' s' e' r' =>
         obtain ⟨rfl, hf, hs⟩ := hle; obtain ⟨sz', hsz, hslab⟩ := hb; refine ⟨sz', fun hne => ?_, ?_⟩
         · rcases hs with rfl | rfl
           · exact hsz hne
           · exact absurd Y hne
         · simp only [q0a, hsb, if_true]
           rcases hf with rfl | rfl
           · refine z0e.imp hslab (fun _ h => h) (fun _ _ _ => Y) (fun F c u _ hc => ?_)
             cases f with
             | true => exact hc
             | false => exact Rep.mono hc (fun x _ hx => q4x hB hx)
           · rcases hslab with hn | ⟨e0, xs, u, F, hs0⟩
             · exact .inl hn
             · exact .inr ⟨e0, xs, u, F, hs0.ho, hs0.hS, hs0.hz, hs0.hF, hs0.hd, hs0.hu, fun j k row c h1 => by simp at h1⟩
       | dead => trivial
       | _ => exact hle.elim
     | dead => cases ab' <;> first | trivial | exact hle.elim
     | kp c =>
       cases ab' with
       | kp c' =>
         have : c = c' := hle; subst this; simp only [z0n, q0a, hsb, if_true]; exact Rep.mono hb (fun x _ hx => q4x hB hx)
       | dead => trivial
       | _ => exact hle.elim
     | mp k e n D it =>
       cases ab' with
       | mp k' e' n' D' it' =>
         obtain ⟨rfl, rfl, rfl, rfl, rfl⟩ := hle; simp only [z0n, q0a, hsb, if_true]; exact hb
       | dead => trivial
       | _ => exact hle.elim
     | me k e n D kl b =>
       cases ab' with
       | me k' e' n' D' kl' b' =>
         obtain ⟨rfl, rfl, rfl, rfl, rfl, rfl⟩ := hle; simp only [z0n, q0a, hsb, if_true]; exact hb
       | dead => trivial
       | _ => exact hle.elim
   · have hsb : qx σ.b β = false := by simp [qx, hn]
     refine ⟨s, fun _ => Y, ?_⟩; simp only [q0a, hsb, Bool.false_eq_true, if_false]; exact .inl ⟨Y, none, Y⟩
 · obtain ⟨ab0, h1, h2⟩ := src β ab x hg hx
   obtain ⟨ab0', h1', h2'⟩ := src β' ab' x hg' hx'; exact h.disj β β' _ _ x h1 h1' h2 h2'
 · obtain ⟨ab0, h1, h2⟩ := src β ab x hg hx
   exact h.mine β ab0 x h1 h2
 · have hg' := h.ghost g hg
   have hk := hH g hg; obtain ⟨c, u⟩ := g
   cases c with
   | h β n =>
     obtain ⟨_, ab, h1, _⟩ := id hg'; exact q1o h hB (c := .h β n) (c' := .h β n) ⟨Y, Y, y1h hG h1 hk⟩ hg'
   | mx m β =>
     obtain ⟨_, ab, h1, _⟩ := id hg'; exact q1o h hB (c := .mx m β) (c' := .mx m β) ⟨Y, Y, y1h hG h1 hk⟩ hg'
   | a β off =>
     obtain ⟨ab, _, h1, _⟩ := id hg'; exact q1o h hB (c := .a β off) (c' := .a β off) ⟨Y, Y, y1h hG h1 hk⟩ hg'
   | _ => exact hk.elim
end
def swN (a b x : Nat) : Nat := bif Nat.beq x a then b else bif Nat.beq x b then a else x
theorem y5j (a b x : Nat) : swN a b x = if x = a then b else if x = b then a else x := by
 unfold swN; by_cases h : x = a
 · subst h; simp
 · rw [beq_false h, cond_false, if_neg h]
   by_cases h' : x = b
   · subst h'; simp
   · rw [beq_false h', cond_false, if_neg h']
theorem z8q (a b x : Nat) : swN a b (swN a b x) = x := by
 rw [y5j a b x]; by_cases h : x = a
 · rw [if_pos h, y5j]
   by_cases h' : b = a
   · rw [if_pos h', h']; exact h.symm
   · rw [if_neg h', if_pos rfl]; exact h.symm
 · rw [if_neg h]
   by_cases h' : x = b
   · rw [if_pos h', y5j, if_pos rfl]; exact h'.symm
   · rw [if_neg h', y5j, if_neg h, if_neg h']
theorem q8p {a b x y : Nat} (h : swN a b x = swN a b y) : x = y := by rw [← z8q a b x, h, z8q]
def swC (a b : Nat) : AC → AC
 | .h β n => .h (swN a b β) n
 | .a β o => .a (swN a b β) o
 | .e β n i k => .e (swN a b β) n i k
 | .q β n i k => .q (swN a b β) n i k
 | .cl fn caps => .cl fn (caps.map fun c => (swN a b c.1, c.2))
 | .cm fn β o => .cm fn (swN a b β) o
 | .mx m β => .mx m (swN a b β)
 | c => c
def yc6 (a b : Nat) : AV → AV
 | .one c => .one (swC a b c)
 | .agg cs => .agg (cs.map (swC a b))
 | .tup vs => .tup vs
def swV (a b : Nat) : AV → AV
 | .tup vs => .tup (vs.map (yc6 a b))
 | v => yc6 a b v
def qax (a b : Nat) : AB → AB
 | .var cs => .var (cs.map (swC a b))
 | ab => ab
def swB (a b : Nat) : List (Nat × AB) → List (Nat × AB)
 | [] => []
 | (β, ab) :: l => (swN a b β, qax a b ab) :: swB a b l
def swT (a b : Nat) : List (Nat × AV) → List (Nat × AV)
 | [] => []
 | (t, v) :: l => (t, swV a b v) :: swT a b l
def swS (a b : Nat) (σ : St) : St := ⟨swT a b σ.t, swB a b σ.b⟩
theorem q81 (a b : Nat) : ∀ (l : List (Nat × AV)) (t : Nat), get (swT a b l) t = (get l t).map (swV a b)
 | [], t => rfl
 | (k, v) :: l, t => by
   rw [swT, za, za]; by_cases h : k = t
   · rw [if_pos h, if_pos h]; rfl
   · rw [if_neg h, if_neg h]; exact q81 a b l t
theorem q1y (a b : Nat) : ∀ (l : List (Nat × AB)) (β : Nat), get (swB a b l) (swN a b β) = (get l β).map (qax a b)
 | [], β => rfl
 | (k, v) :: l, β => by
   rw [swB, za, za]; by_cases h : k = β
   · rw [if_pos h, if_pos (by rw [h])]; rfl
   · rw [if_neg h, if_neg (fun e => h (q8p e))]; exact q1y a b l β
section
variable {C : Ctx} {σ σ' : St} {ρ : Env} {a : Act} {w : World} {x y : Nat} {B : List (Nat × AB)}
def swE (x y : Nat) (ρ : Env) : Env := ⟨fun β => ρ.v (swN x y β), fun β => ρ.S (swN x y β)⟩
theorem q7r {z : Nat} (h : Bor C ρ (swB x y B) z) : Bor C (swE x y ρ) B z := ⟨h.1, fun β ab hg hs => h.2 (swN x y β) (qax x y ab) (by rw [q1y, hg]; rfl) hs⟩
theorem q54 {β : Nat} {ab : AB} (h : get (swB x y B) (swN x y β) = some ab) : ∃ ab0, get B β = some ab0 ∧ ab = qax x y ab0 := by
 rw [q1y] at h
 cases hb : get B β with
 | none => rw [hb] at h; cases h
 | some ab0 => rw [hb] at h; cases h; exact ⟨ab0, Y, Y⟩
theorem q30 {c : AC} {v : Value} (h : qv C w ρ (swB x y B) (swC x y c) v) : qv C w (swE x y ρ) B c v := by
 have ad : ∀ {β off : Nat} {v : Value}, y1r ρ (swB x y B) (swN x y β) off v → y1r (swE x y ρ) B β off v := fun {β off v} h => by
  obtain ⟨ab, g, hg, h1, h2⟩ := h; obtain ⟨ab0, hg0, rfl⟩ := q54 hg; exact ⟨ab0, g, hg0, h1, fun cs he => by subst he; exact h2 _ rfl⟩
 cases c with
 | b c => exact Rep.mono h (fun z _ hz => q7r hz)
 | nil => exact h
 | em => exact h
 | h β n =>
   obtain ⟨h1, ab, hg, h2⟩ := h; obtain ⟨ab0, hg0, rfl⟩ := q54 hg; exact ⟨h1, ab0, hg0, fun f s e r he => by subst he; exact h2 f s e r rfl⟩
 | a β off => exact ad h
 | e β n i k =>
   obtain ⟨ab, g, off, hg, h1, h2⟩ := h; obtain ⟨ab0, hg0, rfl⟩ := q54 hg; exact ⟨ab0, g, off, hg0, h1, fun f s e r he => by subst he; exact h2 f s e r rfl⟩
 | q β n i k =>
   obtain ⟨h0, ab, hg, h2⟩ := h; obtain ⟨ab0, hg0, rfl⟩ := q54 hg; exact ⟨h0, ab0, hg0, fun f s e r he => by subst he; exact h2 f s e r rfl⟩
 | cm fn β off =>
   obtain ⟨u, h1, h2⟩ := h; exact ⟨u, h1, ad h2⟩
 | cl fn caps =>
   obtain ⟨us, h1, h2, h3⟩ := h; refine ⟨us, h1, by simpa using h2, fun k c u hc hu => ad (h3 k (swN x y c.1, c.2) u ?_ hu)⟩; rw [List.getElem?_map, hc]; rfl
 | mx m β =>
   obtain ⟨h0, ab, hg, h2⟩ := h; obtain ⟨ab0, hg0, rfl⟩ := q54 hg; exact ⟨h0, ab0, hg0, fun hm => h2 (by cases ab0 <;> exact hm)⟩
theorem y3j {c : AV} {v : Value} (h : q02 C w ρ (swB x y B) (yc6 x y c) v) : q02 C w (swE x y ρ) B c v := by
 cases c with
 | one c => exact q30 h
 | agg cs =>
   obtain ⟨arr, h1, h2, h3⟩ := h; refine ⟨arr, h1, by simpa using h2, fun k c u hc hu => q30 (h3 k _ u ?_ hu)⟩; rw [List.getElem?_map, hc]; rfl
 | tup vs => exact h
theorem z9f {c : AV} {v : Value} (h : yw C w ρ (swB x y B) (swV x y c) v) : yw C w (swE x y ρ) B c v := by
 cases c with
 | one c => exact y3j (c := .one c) h
 | agg cs => exact y3j (c := .agg cs) h
 | tup vs =>
   obtain ⟨arr, h1, h2, h3⟩ := h; refine ⟨arr, h1, by simpa using h2, fun k c u hc hu => y3j (h3 k _ u ?_ hu)⟩; rw [List.getElem?_map, hc]; rfl
theorem ybi (hH : ∀ g ∈ C.H, yb9 g.1) (hx : x < 1000000000) (hy : y < 1000000000) (h : Rel C (swS x y σ) a w) : Rel C σ a w := by
 obtain ⟨ρ, h⟩ := h; have hbig : ∀ β, 1000000000 ≤ β → swN x y β = β := fun β hb => by rw [y5j, if_neg (by omega), if_neg (by omega)]
 refine ⟨swE x y ρ, fun t av ht => ?_, fun β ab hg => ?_, fun β β' ab ab' z hg hg' hz hz' => ?_, fun β ab z hg hz => ?_, h.size, h.defers, h.keep, fun g hg => ?_⟩
 · obtain ⟨v, h1, h2⟩ := h.tmps t (swV x y av) (by show get (swT x y σ.t) t = _; rw [q81, ht]; rfl)
   exact ⟨v, h1, z9f h2⟩
 · have h1 := h.y0k (swN x y β) (qax x y ab) (by show get (swB x y σ.b) _ = _; rw [q1y, hg]; rfl)
   cases ab with
   | var cs =>
     obtain ⟨g, cells, ty, h2, h3, h4, h5, h6⟩ := h1; refine ⟨g, cells, ty, h2, h3, h4, by simpa using h5, fun k c u hc hu => q30 (h6 k _ u ?_ hu)⟩; rw [List.getElem?_map, hc]; rfl
   | arr full sz ep rows =>
     obtain ⟨sz', h2, h3⟩ := h1; refine ⟨sz', h2, z0e.imp h3 (fun _ h => h) (fun _ _ _ => Y) (fun F c u _ hc => ?_)⟩
     cases full with
     | true => exact hc
     | false => exact Rep.mono hc (fun z _ hz => q7r hz)
   | dead => trivial
   | mp k e n D it => exact h1
   | kp c => exact Rep.mono h1 (fun z _ hz => q7r hz)
   | me k e n D kl b => exact h1
 · exact q8p (h.disj _ _ _ _ z (by show get (swB x y σ.b) _ = _; rw [q1y, hg]; rfl) (by show get (swB x y σ.b) _ = _; rw [q1y, hg']; rfl) hz hz')
 · exact h.mine (swN x y β) (qax x y ab) z (by show get (swB x y σ.b) _ = _; rw [q1y, hg]; rfl) hz
 · have hg' := h.ghost g hg
   have hk := hH g hg; obtain ⟨c, u⟩ := g
   have e : swC x y c = c := by
    cases c <;> first | exact hk.elim | (simp only [swC]; rw [hbig _ hk])
   refine q30 ?_; show qv C w ρ (swS x y σ).b (swC x y c) u; rw [e]; exact hg'
end
def qcb : List (Nat × Nat) → St → St
 | [], σ => σ
 | (x, y) :: l, σ => swS x y (qcb l σ)
def zc6 : List (Nat × Nat) → Bool
 | [] => true
 | (x, y) :: l => bif Nat.blt x 1000000000 then (bif Nat.blt y 1000000000 then zc6 l else false) else false
def Wk (σ σ' : St) : Prop := ∃ sw, zc6 sw = true ∧ Wk0 σ (qcb sw σ')
theorem Wk.of {σ σ' : St} (h : Wk0 σ σ') : Wk σ σ' := ⟨[], rfl, h⟩
theorem z6r {C : Ctx} {σ σ' : St} {a : Act} {w : World} (hH : ∀ g ∈ C.H, yb9 g.1) (h : Rel C σ a w) (hw : Wk σ σ') : Rel C σ' a w := by
 obtain ⟨sw, hok, hw⟩ := hw; have h1 := zan hH h hw; clear h hw
 induction sw with
 | nil => exact h1
 | cons p l ih =>
   obtain ⟨x, y⟩ := p; rw [zc6] at hok
   cases hx : Nat.blt x 1000000000 with
   | false => rw [hx] at hok; cases hok
   | true =>
     rw [hx] at hok
     cases hy : Nat.blt y 1000000000 with
     | false => rw [hy] at hok; cases hok
     | true =>
       rw [hy] at hok; exact ih hok (ybi hH (Nat.le_of_ble_eq_true hx) (Nat.le_of_ble_eq_true hy) h1)
end Go.Sx
end
section
namespace Go.Sx
section
variable {LC : List Nat} {P : Program} {ops : Array Oper} {Q : Exit → Act → World → Prop} {md : Region.Mode}
def q1h (LC : List Nat) (ops : Array Oper) (i : Nat) : Bool := match ops[i]? with | some o => qbr o.op || LC.contains i | none => false
def y3p (LC : List Nat) (P : Program) (md : Region.Mode) (ops : Array Oper) (Q : Exit → Act → World → Prop) : Nat → Array Bool → Act → World → Prop
 | 0, listed, a, w => Region.ready md ops listed = [] ∧ Q .normal a w
 | fuel + 1, listed, a, w => (Region.ready md ops listed = [] → Q .normal a w) ∧
   ∀ i ∈ Region.ready md ops listed, wpOp P ops Q i (fun a' w' => (q1h LC ops i = false → zt w w' (fun _ => False)) ∧ y3p LC P md ops Q fuel (listed.setIfInBounds i true) a' w') a w
theorem y49 : ∀ (fuel : Nat) (listed : Array Bool) (a : Act) (w : World), y3p LC P md ops Q fuel listed a w → wpAny P md ops Q fuel listed a w
 | 0, _, _, _, h => h
 | fuel + 1, _, _, _, h => ⟨h.1, fun i hi => wpOp_mono (fun a' w' h' => y49 fuel _ a' w' h'.2) (h.2 i hi)⟩
theorem q2t {i : Nat} {oi : Oper} {v : Value} (hi : ops[i]? = some oi) (hsel : ∀ (j : Nat) (o : Oper) cs b, ops[j]? = some o → o.op ≠ .select cs b)
 (hQ : ∀ c a w, Q (.panic c) (a.put oi.dst v) w → Q (.panic c) a w) (c : Bool) (W : List Nat) (w0 : World)
 (hW : ∀ j ∈ W, ∃ o, ops[j]? = some o ∧ ∃ e ∈ o.after, Region.binds md e = true ∧ (e.on ∈ W ∨ e.on = i)) :
 ∀ (fuel : Nat) (listed : Array Bool) (a : Act) (w : World),
   (∀ j oj, ops[j]? = some oj → j ≠ i → listed.getD j true = false → (∀ e ∈ oj.after, Region.binds md e = true → e.on ≠ i) → oi.apart ops oj = true) →
   (c = true → ∀ j, q1h LC ops j = true → listed.getD j true = false → j ∈ W) → (∀ j ∈ W, listed.getD j true = false) →
   i ∈ Region.ready md ops listed → YieldsIf P ops (fun w' => c = true → zt w0 w' (fun _ => False)) oi v a → (c = true → zt w0 w (fun _ => False)) → (c = true → q1h LC ops i = false) → q1h LC ops i = false →
   y3p LC P md ops Q fuel (listed.setIfInBounds i true) (a.put oi.dst v) w → y3p LC P md ops Q (fuel + 1) listed a w := by
 intro fuel
 induction fuel with
 | zero =>
   intro listed a w _ _ _ hr hy hS _ _ H; refine ⟨fun h => (by rw [h] at hr; cases hr), fun j hj => ?_⟩; by_cases hji : j = i
   · subst hji; exact hy.wpOp hi hS ⟨fun _ => zt.refl _ _, H⟩
   · have := ready_mono hj hji
     rw [H.1] at this; cases this
 | succ fuel ih =>
   intro listed a w hfree hl hWu hr hy hS hci hci2 H; refine ⟨fun h => (by rw [h] at hr; cases hr), fun j hj => ?_⟩; by_cases hji : j = i
   · subst hji; exact hy.wpOp hi hS ⟨fun _ => zt.refl _ _, H⟩
   · have h1 := H.2 j (ready_mono hj hji)
     obtain ⟨hjun, oj, hoj, hall⟩ := mem_ready.1 hj
     have hun : ∀ k, listed.getD k true = false → listed.getD k false ≠ true := fun k h0 h1 => by
      rcases Nat.lt_or_ge k listed.size with h' | h'
      · simp [h'] at h0 h1; rw [h0] at h1; cases h1
      · simp [Array.getElem?_eq_none h'] at h1
     have hiun := (mem_ready.1 hr).1
     have hnot : ∀ e ∈ oj.after, Region.binds md e = true → e.on ≠ i := fun e he hb heq => by
      have h1 := hall e he hb; rw [heq] at h1; exact hun i hiun h1
     have hjW : j ∉ W := fun hjw => by
      obtain ⟨o, ho, e, he, hb, hon⟩ := hW j hjw; rw [hoj] at ho; cases ho; have h1 := hall e he hb; rcases hon with hon | hon
      · exact hun _ (hWu _ hon) h1
      · exact hnot e he hb hon
     have h2 := wpOp_putIf hoj (hfree j oj hoj hji hjun hnot) (fun cs b => hsel i oi cs b hi) (fun cs b => hsel j oj cs b hoj) hQ hy h1
     have hkeep : ∀ k, k ≠ j → (listed.setIfInBounds j true).getD k true = false → listed.getD k true = false := fun k hk h => by
      rw [getD_set_ne true (Ne.symm hk)] at h; exact h
     have hkj : ∀ k, (listed.setIfInBounds j true).getD k true = false → listed.getD k true = false := fun k h => by
      by_cases hk : k = j
      · rw [hk]; exact hjun
      · exact hkeep k hk h
     refine wpOp_mono (fun a' w' h3 => ⟨h3.2.1, ih (listed.setIfInBounds j true) a' w' (fun k ok hk hki hu hno => hfree k ok hk hki (hkj k hu) hno) (fun hc k hk hu => hl hc k hk (hkj k hu)) (fun k hk => ?_) (ready_mono hr (Ne.symm hji)) h3.1 (fun hc => ?_) hci hci2 ?_⟩) h2
     · rw [getD_set_ne true (fun e => hjW (by rw [e]; exact hk))]; exact hWu k hk
     · have hlj : q1h LC ops j = false := by
        cases hb : q1h LC ops j with
        | false => rfl
        | true => exact absurd (hl hc j hb hjun) hjW
       exact (hS hc).trans (h3.2.1 hlj) (fun _ _ h => h.elim)
     · rw [Array.setIfInBounds_comm _ _ hji]
       exact h3.2.2
theorem q6d {listed : Array Bool} {a : Act} {w : World} (hr : Region.ready md ops listed = []) (h : Q .normal a w) :
 ∀ fuel, y3p LC P md ops Q fuel listed a w
 | 0 => ⟨hr, h⟩
 | _ + 1 => ⟨fun _ => h, by rw [hr]; simp⟩
end
end Go.Sx
end
section
namespace Go.Sx
open Go.RowKit (Below)
def q68 (σ : St) (d : Option Tmp) (K : St → Prop) : Prop := K (σ.put d (.tup []))
def z41 (ops : Array Oper) (σ : St) (o : Oper) (Kw Ks : St → Prop) : Prop := match o.guard with
 | none => Kw σ
 | some (j, want) => (match (ops[j]?).bind (·.dst) with
   | some d => (match get σ.t d with
     | some (.one (.b (.s (.bool t)))) => gs t fun t' => if (t' == want) = true then Kw ⟨(d, .one (.b (.s (.bool t')))) :: σ.t, σ.b⟩ else Ks ⟨(d, .one (.b (.s (.bool t')))) :: σ.t, σ.b⟩
     | some (.tup []) => Ks σ
     | _ => False)
   | none => False)
def qao (P : Program) (ops : Array Oper) : List Oper → St → (St → Prop) → Prop
 | [], σ, K => K σ
 | o :: l, σ, K => z41 ops σ o (fun σ => opL true P σ o fun σ => qao P ops l σ K) (fun σ => q68 σ o.dst fun σ => qao P ops l σ K)
def z3u (σ : St) (c : Operand) (b : Bool) : St := match σ, c with
 | ⟨t, bs⟩, .tmp d => ⟨(d, .one (.b (.s (.bool b)))) :: t, bs⟩
 | σ, _ => σ
def y63 (T : Nat) (ops : Array Oper) : Bool := ops.all fun o => match o.dst with | some d => Nat.blt d T | none => true
def z0s (T : Nat) : Code → Bool
 | .region _ ops _ => y63 T ops
 | .seq x y => z0s T x && z0s T y
 | .cond _ x y => z0s T x && z0s T y
 | .block _ b => z0s T b
 | .loop b => z0s T b
 | _ => true
section
variable {C : Ctx} {σ : St} {ρ : Env} {a : Act} {w : World}
theorem y13 {T : Nat} {ops : Array Oper} (h : y63 T ops = true) {o : Oper} (ho : o ∈ ops.toList) : ∀ d, o.dst = some d → d < T := fun d hd => by
 have := Array.all_eq_true_iff_forall_mem.1 h o (by simpa using ho); rw [hd] at this; exact Nat.le_of_ble_eq_true this
theorem q1v (h : ye C σ ρ a w) {d : Nat} {av av' : AV} (hg : get σ.t d = some av) (he : av' = av) : ye C ⟨(d, av') :: σ.t, σ.b⟩ ρ a w := by
 subst he; refine ⟨fun t av ht => ?_, h.y0k, h.disj, h.mine, h.size, h.defers, h.keep, h.ghost⟩; rw [za] at ht; by_cases hd : d = t
 · rw [if_pos hd] at ht; cases ht; subst hd; exact h.tmps _ _ hg
 · rw [if_neg hd] at ht; exact h.tmps t av ht
theorem y41 (h : ye C σ ρ a w) {c : Operand} {t b : Bool} (hc : ev σ c = some (.one (.b (.s (.bool t))))) (hb : t = b) : Rel C (z3u σ c b) a w := by
 subst hb; unfold z3u; split
 · exact ⟨ρ, q1v h hc Y⟩
 · exact ⟨ρ, h⟩
theorem y1q (h : ye C σ ρ a w) {d : Option Tmp} (hd : ∀ t, d = some t → t < C.T) {K : St → Prop} (hk : q68 σ d K) : ∃ σ', K σ' ∧ Rel C σ' (a.put d undef) w :=
 ⟨_, hk, ρ, h.put hd ⟨#[], rfl, rfl, fun k c u h1 => by simp at h1⟩⟩
theorem y17 {ops : Array Oper} (h : ye C σ ρ a w) {o : Oper} {Kw Ks : St → Prop} (hk : z41 ops σ o Kw Ks) :
 (Region.wanted o (yielded ops a.tmps) = true ∧ ∃ σ', Kw σ' ∧ ye C σ' ρ a w) ∨ (Region.wanted o (yielded ops a.tmps) = false ∧ ∃ σ', Ks σ' ∧ ye C σ' ρ a w) := by
 unfold z41 at hk; split at hk
 · rename_i hg
   exact .inl ⟨by simp [Region.wanted, hg], σ, hk, h⟩
 · rename_i j want hg
   split at hk
   · rename_i d hd
     split at hk
     · rename_i t ht
       obtain ⟨v, hv, hrel⟩ := h.tmps d _ ht; have hv' : v = .bool t := by cases hrel; rfl
       subst hv'; have hy : yielded ops a.tmps j = some t := by simp only [yielded, hd, Option.bind_some, hv]
       have h2 := q1v h (av' := .one (.b (.s (.bool t)))) ht rfl; have hk := z82 hk; split at hk
       · rename_i hw
         refine .inl ⟨?_, _, hk, h2⟩; have : t = want := by simpa using hw
         simp [Region.wanted, hg, hy, this]
       · rename_i hw
         refine .inr ⟨?_, _, hk, h2⟩; have : ¬ t = want := by simpa using hw
         simp [Region.wanted, hg, hy, this]
     · rename_i ht
       obtain ⟨v, hv, arr, rfl, hsz, -⟩ := h.tmps d _ ht; have hy : yielded ops a.tmps j = none := by simp only [yielded, hd, Option.bind_some, hv]
       exact .inr ⟨by simp [Region.wanted, hg, hy], _, hk, h⟩
     · exact hk.elim
   · exact hk.elim
theorem q7e {ops : Array Oper} (hok : y63 C.T ops = true) {Q : Exit → Act → World → Prop} {K : St → Prop} (hQ : ∀ a w, (∃ σ', K σ' ∧ Rel C σ' a w) → Q .normal a w) :
 ∀ (n i : Nat) (σ : St) (a : Act) (w : World), ops.size - i = n → i ≤ ops.size → Rel C σ a w → qao C.P ops (ops.toList.drop i) σ K → wpOps C.P ops Q ((List.range ops.size).drop i) a w := by
 intro n
 induction n with
 | zero =>
   intro i σ a w hn hi hrel hk; have hie : i = ops.size := by omega
   subst hie; rw [List.drop_of_length_le (by simp)]; rw [List.drop_of_length_le (by simp)] at hk; exact hQ a w ⟨σ, hk, hrel⟩
 | succ n ih =>
   intro i σ a w hn hi hrel hk; have hlt : i < ops.size := by omega
   have h1 : (List.range ops.size).drop i = i :: (List.range ops.size).drop (i + 1) := by
    rw [List.drop_eq_getElem_cons (by simpa using hlt)]; simp
   have h2 : ops.toList.drop i = ops[i] :: ops.toList.drop (i + 1) := by
    rw [List.drop_eq_getElem_cons (by simpa using hlt)]; simp
   rw [h1]; rw [h2] at hk; have ho : ops[i]? = some ops[i] := by simp [hlt]
   have hmem : ops[i] ∈ ops.toList := by simp
   have hd := y13 hok hmem; rw [qao] at hk; obtain ⟨ρ, hat⟩ := hrel; simp only [wpOps, ho]; rcases y17 hat hk with ⟨hw, σ', hK, hat'⟩ | ⟨hw, σ', hK, hat'⟩
   · rw [hw, if_pos rfl]
     refine .inl (Oper.wp_mono (fun a' w' haf => ?_) (y3g hat' hd hK)); obtain ⟨_, σ'', hK', hrel'⟩ := haf; exact ih (i + 1) σ'' a' w' (by omega) (by omega) hrel' hK'
   · rw [hw, if_neg (by simp)]
     obtain ⟨σ'', hK', hrel'⟩ := y1q hat' hd hK; exact ih (i + 1) σ'' _ w (by omega) (by omega) hrel' hK'
end
inductive q6v where
 | done
 | nil
 | take (i : Nat) (W : List Nat) (p : q6v)
 | alt (i : Nat) (p q : q6v)
def Tk : List Nat → q6v → q6v
 | [], p => p
 | i :: l, p => .take i [] (Tk l p)
def Rg (a : Nat) : Nat → List Nat
 | 0 => []
 | n + 1 => a :: Rg (a + 1) n
def psz : q6v → Nat
 | .done => 1
 | .nil => 1
 | .take _ _ p => psz p + 1
 | .alt _ p q => psz p + psz q + 1
def y9c (LC : List Nat) (P : Program) (ops : Array Oper) (i : Nat) (σ : St) (K : St → Prop) : Prop := match ops[i]? with
 | some o => z41 ops σ o (fun σ => opL (LC.contains i) P σ o K) (fun σ => q68 σ o.dst K)
 | none => False
def z3i (LC : List Nat) (P : Program) (ops : Array Oper) : q6v → St → (St → Prop) → Prop
 | .done, σ, K => K σ
 | .nil, _, _ => True
 | .take i _ p, σ, K => y9c LC P ops i σ (fun σ => z3i LC P ops p σ K)
 | .alt i p q, σ, K => y9c LC P ops i σ (fun σ => z3i LC P ops p σ K) ∧ z3i LC P ops q σ K
def isY : Op → Bool
 | .alloc .. | .box .. | .store .. | .buildSlice .. | .makeSlice .. | .makeMap .. | .lookup .. | .mapUpdate .. | .mapEntry .. | .entryStore .. | .range .. | .next .. | .entry .. => false
 | .call c => (match c.callee with | .builtin .append => false | .builtin _ => true | _ => false)
 | _ => true
def chain : q6v → List Nat
 | .alt i _ q => i :: chain q
 | _ => []
def q2p (md : Region.Mode) (ops : Array Oper) (listed : Array Bool) : q6v → Bool
 | .alt i _ q => !(Region.ready md ops listed).isEmpty && (Region.ready md ops listed).all fun j => (i :: chain q).contains j
 | .nil => false
 | _ => true
def y8v (LC : List Nat) (md : Region.Mode) (ops : Array Oper) (listed : Array Bool) (i : Nat) (W : List Nat) : Bool :=
 (W.all fun j => (match ops[j]? with | some o => o.after.any fun e => Region.binds md e && (W.contains e.on || e.on == i) | none => false) && !(listed.getD j true)) &&
 (List.range ops.size).all fun j => !(q1h LC ops j) || listed.getD j true || W.contains j
def qa0 (LC : List Nat) (md : Region.Mode) (ops : Array Oper) (listed : Array Bool) (i : Nat) (W : List Nat) : Bool :=
 (Region.ready md ops listed).contains i && Region.free md ops listed i && !(LC.contains i) && (match ops[i]? with | some o => isY o.op && (if q57 o.op then y8v LC md ops listed i W else true) | none => false)
def q1j (LC : List Nat) (md : Region.Mode) (ops : Array Oper) : q6v → Nat → Array Bool → Bool
 | .done, _, listed => (Region.ready md ops listed).isEmpty
 | .nil, _, _ => true
 | .take i W p, n + 1, listed => qa0 LC md ops listed i W && q2p md ops (listed.setIfInBounds i true) p && q1j LC md ops p n (listed.setIfInBounds i true)
 | .alt i p q, n + 1, listed => q2p md ops (listed.setIfInBounds i true) p && q1j LC md ops p n (listed.setIfInBounds i true) && q1j LC md ops q (n + 1) listed
 | _, 0, _ => false
section
variable {LC : List Nat} {C : Ctx} {σ : St} {a : Act} {w : World} {ops : Array Oper} {md : Region.Mode}
theorem q5z {op : Op} (h : isY op = true) : qbr op = false := by
 cases op <;> first | rfl | cases h | skip
 rename_i c; obtain ⟨callee, args, ats⟩ := c
 cases callee with
 | builtin b => cases b <;> first | rfl | cases h
 | value x => rfl
 | invoke _ _ => rfl
theorem y7b {g : Bool} {P : Program} {o : Oper} {K : St → Prop} (h : isY o.op = true) (hk : opL g P σ o K) : opY P σ o.op (fun av => K (σ.put o.dst av)) := by
 unfold opL at hk; split at hk
 case h_14 c ho =>
  split at hk
  · rename_i hc; rw [ho] at h; simp [isY, hc] at h
  · exact hk
  · rename_i hc; rw [ho] at h; simp [isY, hc] at h
  · exact hk.elim
 case h_15 => exact hk
 all_goals (rename_i ho; rw [ho] at h; cases h)
theorem q4y {P : Program} {K : St → Prop} {n : Nat} {listed : Array Bool} {i : Nat} : ∀ {p : q6v}, i ∈ chain p → q1j LC md ops p (n + 1) listed = true → z3i LC P ops p σ K →
 ∃ p', psz p' < psz p ∧ q2p md ops (listed.setIfInBounds i true) p' = true ∧ q1j LC md ops p' n (listed.setIfInBounds i true) = true ∧ y9c LC P ops i σ (fun σ => z3i LC P ops p' σ K)
 | .done, h, _, _ => by cases h
 | .nil, h, _, _ => by cases h
 | .take _ _ _, h, _, _ => by cases h
 | .alt j p q, h, ho, hk => by
   simp only [q1j, Bool.and_eq_true] at ho; rcases List.mem_cons.1 h with rfl | h
   · exact ⟨p, by simp only [psz]; omega, ho.1.1, ho.1.2, hk.1⟩
   · obtain ⟨p', h1, h2⟩ := q4y h ho.2 hk.2
     exact ⟨p', by simp only [psz]; omega, h2⟩
theorem q7c (hok : y63 C.T ops = true) (hsel : Region.noSelect ops = true) {Q : Exit → Act → World → Prop} {K : St → Prop} (hQ : ∀ a w, (∃ σ', K σ' ∧ Rel C σ' a w) → Q .normal a w) (hP : ∀ c a w, ¬ Q (.panic c) a w) :
 ∀ (m : Nat) (p : q6v), psz p ≤ m → ∀ (n : Nat) (listed : Array Bool) (σ : St) (a : Act) (w : World), q2p md ops listed p = true → q1j LC md ops p n listed = true → z3i LC C.P ops p σ K → Rel C σ a w → y3p LC C.P md ops Q n listed a w := by
 intro m
 induction m with
 | zero => intro p hp; cases p <;> simp [psz] at hp
 | succ m ih =>
   intro p hp n listed σ a w hh ho hk hrel
   cases p with
   | done =>
     refine q6d (by cases n <;> simpa [q1j] using ho) (hQ a w ⟨σ, hk, hrel⟩) n
   | nil => cases hh
   | take i W p =>
     cases n with
     | zero => cases ho
     | succ n =>
       simp only [q1j, Bool.and_eq_true] at ho; obtain ⟨⟨ht, hh'⟩, ho⟩ := ho; have hsz : psz p ≤ m := by simp only [psz] at hp; omega
       unfold qa0 at ht; simp only [Bool.and_eq_true] at ht; obtain ⟨⟨⟨hr, hf⟩, hlc⟩, ht⟩ := ht; simp only [z3i, y9c] at hk
       cases hoi : ops[i]? with
       | none => rw [hoi] at ht; cases ht
       | some o =>
       rw [hoi] at ht hk; simp only [Bool.and_eq_true] at ht; obtain ⟨hy, hw⟩ := ht; have hmem : o ∈ ops.toList := by simpa using Array.mem_of_getElem? hoi
       have hd := y13 hok hmem; have hloud : q1h LC ops i = false := by simp only [q1h, hoi, q5z hy, Bool.false_or]; simpa using hlc
       have hW : q57 o.op = true → y8v LC md ops listed i W = true := fun hl => by rw [if_pos hl] at hw; exact hw
       have go : ∀ {v : Value}, YieldsIf C.P ops (fun w' => q57 o.op = true → zt w w' (fun _ => False)) o v a → (∃ σ', z3i LC C.P ops p σ' K ∧ Rel C σ' (a.put o.dst v) w) → y3p LC C.P md ops Q (n + 1) listed a w := fun {v} hyv hnext => by
        obtain ⟨σ', hk', hr'⟩ := hnext; have hrest := ih p hsz n _ σ' (a.put o.dst v) w hh' ho hk' hr'; have hfree := Region.free_spec hoi hf
        cases hl : q57 o.op with
        | true =>
          have hWo := hW hl; simp only [y8v, Bool.and_eq_true, List.all_eq_true] at hWo; obtain ⟨hW1, hW2⟩ := hWo; refine q2t hoi (Region.noSelect_spec hsel) (fun c a w h => (hP _ _ _ h).elim) true W w (fun j hj => ?_) n listed a w hfree (fun _ j hlj hu => ?_) (fun j hj => ?_) (by simpa using hr) ?_ (fun _ => zt.refl _ _) (fun _ => hloud) hloud hrest
          · have := (hW1 j hj).1
            split at this
            · rename_i oj hoj
              obtain ⟨e, he, hb⟩ := Array.any_eq_true'.1 this; simp only [Bool.and_eq_true, Bool.or_eq_true, List.contains_iff_mem, beq_iff_eq] at hb; exact ⟨oj, hoj, e, he, hb.1, hb.2⟩
            · cases this
          · have hjlt : j < ops.size := by
             rcases Nat.lt_or_ge j ops.size with h' | h'
             · exact h'
             · simp [q1h, Array.getElem?_eq_none h'] at hlj
            have := hW2 j (List.mem_range.2 hjlt)
            simpa [hlj, hu] using this
          · have := (hW1 j hj).2
            simpa using this
          · rw [hl] at hyv; exact hyv
        | false =>
          refine q2t hoi (Region.noSelect_spec hsel) (fun c a w h => (hP _ _ _ h).elim) false [] w (fun j hj => by cases hj) n listed a w hfree (fun h => by cases h) (fun j hj => by cases hj) (by simpa using hr) ?_ (fun h => by cases h) (fun h => by cases h) hloud hrest; rw [hl] at hyv; exact hyv
       obtain ⟨ρ, hat⟩ := hrel; rcases y17 hat hk with ⟨hwt, σ1, hK, hat1⟩ | ⟨hwt, σ1, hK, hat1⟩
       · obtain ⟨av, v, hk1, hv, hrun⟩ := q5c hat1 (y7b hy hK)
         exact go (v := v) (.inl ⟨hwt, fun w' hS => hrun w' hS⟩) ⟨_, hk1, ρ, hat1.put hd hv⟩
       · obtain ⟨σ2, hk2, hr2⟩ := y1q hat1 hd hK
         exact go (v := undef) (.inr ⟨hwt, Y⟩) ⟨σ2, hk2, hr2⟩
   | alt i0 p0 q0 =>
     cases n with
     | zero => cases ho
     | succ n =>
       refine ⟨fun hr => ?_, fun i hi => ?_⟩
       · simp only [q2p, hr, List.isEmpty_nil, Bool.not_true, Bool.false_and] at hh
         cases hh
       · have hic : i ∈ chain (.alt i0 p0 q0) := by
          simp only [q2p, Bool.and_eq_true, List.all_eq_true] at hh; have := hh.2 i hi
          simpa [chain] using this
         obtain ⟨p', hsz', hh', ho', hk'⟩ := q4y hic ho hk; have hsz : psz p' ≤ m := by omega
         unfold wpOp; unfold y9c at hk'
         cases hoi : ops[i]? with
         | none => rw [hoi] at hk'; exact hk'.elim
         | some o =>
           rw [hoi] at hk'; dsimp only at hk' ⊢; have hmem : o ∈ ops.toList := by simpa using Array.mem_of_getElem? hoi
           have hd := y13 hok hmem; obtain ⟨ρ, hat⟩ := hrel; rcases y17 hat hk' with ⟨hwt, σ1, hK, hat1⟩ | ⟨hwt, σ1, hK, hat1⟩
           · rw [hwt, if_pos rfl]
             refine .inl (Oper.wp_mono (fun a' w' haf => ?_) (y3g hat1 hd hK)); obtain ⟨h1, σ', hk1, hr1⟩ := haf; exact ⟨fun hl => by simp only [q1h, hoi, Bool.or_eq_false_iff] at hl; exact h1 hl.2 hl.1, ih p' hsz n _ σ' a' w' hh' ho' hk1 hr1⟩
           · rw [hwt, if_neg (by simp)]
             obtain ⟨σ2, hk2, hr2⟩ := y1q hat1 hd hK; exact ⟨fun _ => zt.refl _ _, ih p' hsz n _ σ2 _ w hh' ho' hk2 hr2⟩
end
inductive Ex where
 | normal | exit (id : Nat) | ret
def vc (P : Program) : Code → (Ex → St → Prop) → St → Prop
 | .skip, Q, σ => Q .normal σ
 | .region _ ops draw, Q, σ => match draw with
   | false => qao P ops ops.toList σ fun σ => Q .normal σ
   | true => P.follows .mixedOrders = true ∧ Region.noSelect ops = true ∧ ∃ LC p, q2p .any ops (Array.replicate ops.size false) p = true ∧ q1j LC .any ops p ops.size (Array.replicate ops.size false) = true ∧ z3i LC P ops p σ fun σ => Q .normal σ
 | .seq x y, Q, σ => vc P x (fun e σ => match e with | .normal => vc P y Q σ | .exit i => Q (.exit i) σ | .ret => Q .ret σ) σ ∨
   ∃ (ι : Type) (pre : ι → Prop) (inv : ι → St), vc P x (fun e σ => match e with | .normal => ∃ i, pre i ∧ Wk σ (inv i) | .exit i => Q (.exit i) σ | .ret => Q .ret σ) σ ∧ ∀ i, pre i → vc P y Q (inv i)
 | .cond c x y, Q, σ => (match ev σ c with | some (.one (.b (.s (.bool t)))) => (t = true → vc P x Q (z3u σ c true)) ∧ (t = false → vc P y Q (z3u σ c false)) | _ => False)
 | .block id b, Q, σ => vc P b (fun e σ => match e with | .normal => Q .normal σ | .exit i => if i = id then Q .normal σ else Q (.exit i) σ | .ret => Q .ret σ) σ
 | .loop b, Q, σ => ∃ (ι : Type) (pre : ι → Prop) (inv : ι → St) (m : ι → Nat), (∃ i, pre i ∧ Wk σ (inv i)) ∧ ∀ i, pre i → vc P b (fun e σ => match e with | .normal => ∃ i', pre i' ∧ m i' < m i ∧ Wk σ (inv i') | .exit j => Q (.exit j) σ | .ret => Q .ret σ) (inv i)
 | .exit id, Q, σ => Q (.exit id) σ
 | .ret, Q, σ => Q .ret σ
 | _, _, _ => False
section
variable {C : Ctx} {σ : St} {ρ : Env} {a : Act} {w : World}
theorem y9o {P : Program} {c : Code} {Q : Exit → Act → World → Prop} {ι : Type} {J : ι → Act → World → Prop} (m : ι → Nat) {i0 : ι} {a : Act} {w : World} (h₀ : J i0 a w)
 (round : ∀ i a w, J i a w → c.wp P (Exit.then (fun a' w' => ∃ i', m i' < m i ∧ J i' a' w') Q) a w) : (Code.loop c).wp P Q a w := by
 intro b k cs
 have key : ∀ n i a w, m i = n → J i a w → ∃ e a' w', Q e a' w' ∧ Arrives P (lone (b.at a (.code c :: .inLoop c :: k)) cs w) b k cs e a' w' := by
  intro n
  induction n using Nat.strongRecOn with
  | _ n ih =>
    intro i a w hn hJ; obtain ⟨e, a₁, w₁, hq, harr⟩ := round i a w hJ b (.inLoop c :: k) cs
    cases e with
    | normal =>
      obtain ⟨i', hlt, hJ'⟩ := hq; obtain ⟨e₂, a₂, w₂, hq₂, harr₂⟩ := ih (m i') (hn ▸ hlt) i' a₁ w₁ rfl hJ'; exact ⟨e₂, a₂, w₂, hq₂, .of_steps (Steps.trans harr (.one step_inLoop)) harr₂⟩
    | exit id => exact ⟨_, a₁, w₁, hq, .pass (x := .inLoop c) rfl (fun _ _ => .inl (by simp)) harr⟩
    | goto l => exact ⟨_, a₁, w₁, hq, .pass (x := .inLoop c) rfl (fun _ _ => .inl (by simp)) harr⟩
    | ret => exact ⟨_, a₁, w₁, hq, .pass (x := .inLoop c) rfl (fun _ _ => .inl (by simp)) harr⟩
    | panic ch => exact ⟨_, a₁, w₁, hq, .pass (x := .inLoop c) rfl (fun _ _ => .inl (by simp)) harr⟩
    | outgrown => exact ⟨_, a₁, w₁, hq, .pass (x := .inLoop c) rfl (fun _ _ => .inl (by simp)) harr⟩
 obtain ⟨e, a', w', hq, harr⟩ := key _ i0 a w rfl h₀; exact ⟨e, a', w', hq, .of_steps (.one step_loop) harr⟩
def y7y : Exit → Option Ex
 | .normal => some .normal
 | .exit i => some (.exit i)
 | .ret => some .ret
 | _ => none
def QOf (C : Ctx) (Q : Ex → St → Prop) (e : Exit) (a : Act) (w : World) : Prop := ∃ e', y7y e = some e' ∧ ∃ σ', Q e' σ' ∧ Rel C σ' a w
theorem y2f (hH : ∀ g ∈ C.H, yb9 g.1) : ∀ {c : Code} {Q : Ex → St → Prop} {σ : St} {a : Act} {w : World}, z0s C.T c = true → Rel C σ a w → vc C.P c Q σ → c.wp C.P (QOf C Q) a w := by
 intro c
 induction c with
 | skip => intro Q σ a w _ hr hk; exact wp_skip ⟨.normal, Y, σ, hk, hr⟩
 | region id ops draw =>
   intro Q σ a w hok hr hk
   cases draw with
   | true =>
     obtain ⟨hm, hsel, LC, p, hh, ho, hk⟩ := hk; refine wp_region_any hm (y49 (LC := LC) _ _ _ _ ?_); refine q7c (C := C) hok hsel (Q := QOf C Q) (fun a w h => by obtain ⟨σ', h1, h2⟩ := h; exact ⟨.normal, rfl, σ', h1, h2⟩) (fun c a w h => by obtain ⟨e', h1, _⟩ := h; cases h1) _ p (Nat.le_refl _) _ _ σ a _ hh ho hk ?_; obtain ⟨ρ, hat⟩ := hr; exact ⟨ρ, hat.world (zt.drew w _)⟩
   | false =>
   refine wp_region ?_; have := q7e (C := C) (Q := QOf C Q) hok (fun a w h => by obtain ⟨σ', h1, h2⟩ := h; exact ⟨.normal, Y, σ', h1, h2⟩) ops.size 0 σ a w rfl (Nat.zero_le _) hr (by have hk' : qao C.P ops ops.toList σ (fun σ => Q .normal σ) := hk; simpa using hk')
   simpa using this
 | seq x y ihx ihy =>
   intro Q σ a w hok hr hk; simp only [z0s, Bool.and_eq_true] at hok; rcases hk with hk | ⟨ι, pre, inv, hk, hy⟩
   · refine wp_seq (wp_mono (ihx hok.1 hr hk) (fun e a w hq => ?_))
     obtain ⟨e', h1, σ', h2, h3⟩ := hq; cases e <;> simp only [y7y, Option.some.injEq] at h1 <;> first | (subst h1) | cases h1
     · exact ihy hok.2 h3 h2
     · exact ⟨_, Y, σ', h2, h3⟩
     · exact ⟨_, Y, σ', h2, h3⟩
   · refine wp_seq (wp_mono (ihx hok.1 hr hk) (fun e a w hq => ?_))
     obtain ⟨e', h1, σ', h2, h3⟩ := hq; cases e <;> simp only [y7y, Option.some.injEq] at h1 <;> first | (subst h1) | cases h1
     · obtain ⟨i, hp, hw⟩ := h2
       exact ihy hok.2 (z6r hH h3 hw) (hy i hp)
     · exact ⟨_, Y, σ', h2, h3⟩
     · exact ⟨_, Y, σ', h2, h3⟩
 | cond c x y ihx ihy =>
   intro Q σ a w hok hr hk; simp only [z0s, Bool.and_eq_true] at hok; simp only [vc] at hk; obtain ⟨ρ, hat⟩ := hr; split at hk
   · rename_i t ht
     exact wp_cond_split (yz hat ht).1 (fun h => ihx hok.1 (y41 hat ht h) (hk.1 h)) (fun h => ihy hok.2 (y41 hat ht h) (hk.2 h))
   · exact hk.elim
 | block id b ih =>
   intro Q σ a w hok hr hk; refine wp_block (wp_mono (ih hok hr hk) (fun e a w hq => ?_)); obtain ⟨e', h1, σ', h2, h3⟩ := hq; cases e <;> simp only [y7y, Option.some.injEq] at h1 <;> first | (subst h1) | cases h1
   · exact ⟨_, Y, σ', h2, h3⟩
   · rename_i i
     simp only [Exit.inBlock]; by_cases hi : i = id
     · subst hi
       rw [if_pos rfl]; simp only [if_true] at h2; exact ⟨_, Y, σ', h2, h3⟩
     · rw [if_neg hi]
       simp only [hi, if_false] at h2; exact ⟨_, Y, σ', h2, h3⟩
   · exact ⟨_, Y, σ', h2, h3⟩
 | loop b ih =>
   intro Q σ a w hok hr hk; obtain ⟨ι, pre, inv, m, ⟨i0, hp0, hw0⟩, hstep⟩ := hk; refine y9o (J := fun i a w => pre i ∧ Rel C (inv i) a w) m (i0 := i0) ⟨hp0, z6r hH hr hw0⟩ (fun i a w ⟨hp, hr⟩ => ?_); refine wp_mono (ih hok hr (hstep i hp)) (fun e a w hq => ?_); obtain ⟨e', h1, σ', h2, h3⟩ := hq; cases e <;> simp only [y7y, Option.some.injEq] at h1 <;> first | (subst h1) | cases h1
   · obtain ⟨i', hp', hm', hw'⟩ := h2
     exact ⟨i', hm', hp', z6r hH h3 hw'⟩
   · exact ⟨_, Y, σ', h2, h3⟩
   · exact ⟨_, Y, σ', h2, h3⟩
 | exit id => intro Q σ a w _ hr hk; exact wp_exit ⟨.exit id, Y, σ, hk, hr⟩
 | ret => intro Q σ a w _ hr hk; exact wp_ret ⟨.ret, Y, σ, hk, hr⟩
 | _ => intro Q σ a w _ hr hk; exact hk.elim
end
def qbj : SV → AV
 | .one c => .one (.b c)
 | .agg cs => .agg (cs.map .b)
def q7q : Nat → List SV → List (Nat × AV)
 | _, [] => []
 | i, sv :: l => (i, qbj sv) :: q7q (i + 1) l
def y61 (B : List (Nat × AB)) : AC → OC → Prop
 | .b (.s v), .s v' => v = v'
 | .nil, .l _ rows => rows = []
 | .em, .l _ rows => rows = []
 | .h β n, .l sz rows => (match get B β with | some (.arr true sz' _ rows') => n = rows'.length ∧ rows' = rows ∧ (sz = sz' ∨ sz = 0) | _ => False)
 | _, _ => False
def yal : AC → Cell → Prop
 | .b c, c' => c = c'
 | .nil, c' => c' = .l []
 | .em, c' => c' = .l []
 | _, _ => False
def zb5 {α β : Type} (p : α → β → Prop) : List α → List β → Prop
 | [], [] => True
 | a :: l, b :: l' => p a b ∧ zb5 p l l'
 | _, _ => False
theorem y2x {α β : Type} {p : α → β → Prop} : ∀ {l : List α} {l' : List β}, zb5 p l l' → l.length = l'.length ∧ ∀ (i : Nat) (b : β), l'[i]? = some b → ∃ a, l[i]? = some a ∧ p a b
 | [], [], _ => ⟨rfl, fun i b h => by simp at h⟩
 | a :: l, b :: l', h => by
   obtain ⟨h1, h2⟩ := y2x h.2; refine ⟨by simp [h1], fun i c hi => ?_⟩
   cases i with
   | zero => cases hi; exact ⟨a, Y, h.1⟩
   | succ i => simpa using h2 i c (by simpa using hi)
 | [], _ :: _, h => h.elim
 | _ :: _, [], h => h.elim
def z68 (ag : Bool) : AV → Prop
 | .one _ => ag = false
 | .agg _ => ag = true
 | .tup _ => False
def z4n (B : List (Nat × AB)) (av : AV) : RC → Prop
 | .own ag cs => z68 ag av ∧ zb5 (y61 B) (qj av) cs
 | .bor ag cs => z68 ag av ∧ zb5 yal (qj av) cs
def zax (P : Program) (σ : St) (r : ResultVar) (K : AV → Prop) : Prop := match r with
 | .tmp t => (match get σ.t t with | some av => K av | none => False)
 | .cell t ty => (match get σ.t t, lay P ty with | some av, some (ag, n) => z1x σ av fun cs => (match q42 ag n cs with | some r => K r | none => False) | _, _ => False)
def yao (P : Program) (σ : St) : List ResultVar → (List AV → Prop) → Prop
 | [], K => K []
 | r :: rs, K => zax P σ r fun av => yao P σ rs fun avs => K (av :: avs)
def qu : List AV → List RC → List Nat
 | av :: avs, .own _ _ :: rcs => (qj av).filterMap gam ++ qu avs rcs
 | _ :: avs, .bor _ _ :: rcs => qu avs rcs
 | _, _ => []
def z4q (P : Program) (fn : Func) (res : Res) (bk : List Nat) (σ : St) : Prop := match res with
 | .one rc => (match fn.results.toList with | [r] => zax P σ r fun av => z4n σ.b av rc ∧ (qu [av] [rc] ++ bk).Nodup | _ => False)
 | .tup rcs => fn.results.size ≠ 1 ∧ yao P σ fn.results.toList fun avs => zb5 (z4n σ.b) avs rcs ∧ (qu avs rcs ++ bk).Nodup
def z9z (P : Program) (fn : Func) (res : Res) (σ : St) : Prop := z4q P fn res [] σ
theorem z0v.mono {w : World} {N N' S : Nat → Prop} {rc : RC} {v : Value} (h : z0v w N S rc v) (hN : ∀ x, N x → N' x) : z0v w N' S rc v := by
 cases rc with
 | own ag cs => exact h
 | bor ag cs =>
   obtain ⟨arr, h1, h2, h3⟩ := h; exact ⟨arr, h1, h2, fun k c u hc hu => Rep.mono (h3 k c u hc hu) (fun x _ hx => hN x hx)⟩
theorem q1e.mono {w : World} {N N' S : Nat → Prop} {res : Res} {v : Value} (h : q1e w N S res v) (hN : ∀ x, N x → N' x) : q1e w N' S res v := by
 cases res with
 | one rc => exact z0v.mono h hN
 | tup rcs =>
   obtain ⟨arr, G, h1, h2, h3, h4, h5⟩ := h; exact ⟨arr, G, h1, h2, h3, h4, fun i rc u hc hu => z0v.mono (h5 i rc u hc hu) hN⟩
section
variable {C : Ctx} {σ : St} {ρ : Env} {a : Act} {w : World}
def y46 (a : Act) (r : ResultVar) : Sem Value := match r with
 | .tmp t => pure (a.tmps.getD t undef)
 | .cell t ty => do loadVar ty (← asAddr (a.tmps.getD t undef))
theorem y2l (h : ye C σ ρ a w) {r : ResultVar} {K : AV → Prop} (hk : zax C.P σ r K) : ∃ av v, K av ∧ yw C w ρ σ.b av v ∧ (y46 a r).run C.P w = .ok v w := by
 have tm : ∀ {t : Nat} {av : AV}, get σ.t t = some av → ∃ v, a.tmps.getD t undef = v ∧ yw C w ρ σ.b av v := fun {t av} ht => by
  obtain ⟨v, h1, h2⟩ := h.tmps t av ht; exact ⟨v, by rw [Array.getD_eq_getD_getElem?, h1]; rfl, h2⟩
 unfold zax at hk; split at hk
 · rename_i t
   split at hk
   · rename_i av hav
     obtain ⟨v, h1, h2⟩ := tm hav; exact ⟨av, v, hk, h2, by simp only [y46, h1, Sem.run_pure]⟩
   · exact hk.elim
 · rename_i t ty
   split at hk
   · rename_i av ag n hav hl
     obtain ⟨v, h1, h2⟩ := tm hav; obtain ⟨p, cs, rfl, hc, hk⟩ := y24 h h2 hk; split at hk
     · rename_i r hr
       obtain ⟨v, h3, h4⟩ := z2r (C := C) hl hc hr; refine ⟨r, v, hk, h3, ?_⟩; have h5 := h4 w (zt.refl w _); have h6 : (loadVar ty p).run C.P w = .ok v w := by simpa [Instr.loadAt, Instr.sureAddr] using h5
       simp only [y46, h1, asAddr, Sem.run_bind, Sem.run_pure, Result.andThen_ok, h6]
     · exact hk.elim
   · exact hk.elim
theorem q20 (h : ye C σ ρ a w) : ∀ {rs : List ResultVar} {K : List AV → Prop}, yao C.P σ rs K → ∃ avs vs, K avs ∧ avs.length = rs.length ∧ vs.length = rs.length ∧ (∀ (i : Nat) (av : AV) (v : Value), avs[i]? = some av → vs[i]? = some v → yw C w ρ σ.b av v) ∧ (rs.mapM (y46 a)).run C.P w = .ok vs w
 | [], K, hk => ⟨[], [], hk, rfl, rfl, fun i av v h => by simp at h, by simp⟩
 | r :: rs, K, hk => by
   obtain ⟨av, v, hk', hv, hr⟩ := y2l h hk; obtain ⟨avs, vs, hk'', h1, h2, h3, h4⟩ := q20 h hk'; refine ⟨av :: avs, v :: vs, hk'', by simp [h1], by simp [h2], fun i av' v' hi hv' => ?_, by rw [List.mapM_cons]; simp only [Sem.run_bind, hr, Result.andThen_ok, h4, Sem.run_pure]⟩
   cases i with
   | zero => cases hi; cases hv'; exact hv
   | succ i => exact h3 i av' v' (by simpa using hi) (by simpa using hv')
theorem q3l {B : List (Nat × AB)} {av : AV} {v : Value} {ag : Bool} (hs : z68 ag av) (hv : yw C w ρ B av v) : shape ag v v.cells ∧ y03 C w ρ B (qj av) v.cells := by
 cases av with
 | one c =>
   have hs' : ag = false := hs; subst hs'; have h1 := y0n (av := .one c) hv (by intro vs; simp); have hone := z2d (c := c) hv; refine ⟨?_, h1⟩; show v.cells = #[v]; cases v <;> first | rfl | cases hone
 | agg cs =>
   have hs' : ag = true := hs; subst hs'; have h1 := y0n (av := .agg cs) hv (by intro vs; simp); obtain ⟨arr, rfl, _⟩ := hv; exact ⟨Y, h1⟩
 | tup vs => exact hs.elim
def gS (σ : St) (ρ : Env) (ms : List Nat) (x : Nat) : Prop := ∃ γ, γ ∈ ms ∧ (∃ ab, get σ.b γ = some ab) ∧ ρ.S γ x
theorem q6q (h : ye C σ ρ a w) {av : AV} {rc : RC} {v : Value} (hv : yw C w ρ σ.b av v) (hm : z4n σ.b av rc) (hn : (qu [av] [rc]).Nodup) :
 z0v w (Bor C ρ σ.b) (gS σ ρ (qu [av] [rc])) rc v := by
 cases rc with
 | own ag cs =>
   obtain ⟨hs, hc⟩ := hm; obtain ⟨h1, h2⟩ := q3l hs hv; obtain ⟨h3, h4⟩ := y2x hc; have hn' : ((qj av).filterMap gam).Nodup := by simpa [qu] using hn
   have blk : ∀ {k : Nat} {c : AC} {γ : Nat}, (qj av)[k]? = some c → gam c = some γ → ∃ ab, get σ.b γ = some ab := fun {k c γ} hck hg => by
    have hlt : k < cs.length := by rw [← h3]; exact (List.getElem?_eq_some_iff.1 hck).1
    obtain ⟨c', hc', hmc⟩ := h4 k cs[k] (by simp [hlt]); rw [hck] at hc'; cases hc'
    cases c with
    | h γ' n =>
      cases hg; generalize cs[k] = oc at hmc
      cases oc with
      | s v => exact hmc.elim
      | l sz rows =>
        simp only [y61] at hmc; split at hmc
        · rename_i hγ; exact ⟨_, hγ⟩
        · exact hmc.elim
    | _ => cases hg
   refine ⟨v.cells, fun k x => ∃ c γ, (qj av)[k]? = some c ∧ gam c = some γ ∧ ρ.S γ x, h1, by rw [h2.1, h3], fun k x hx => ?_, fun k k' x hx hx' => ?_, fun k oc u hoc hu => ?_⟩
   · obtain ⟨c, γ, h5, h6, h7⟩ := hx
     exact ⟨γ, by simp only [qu, List.append_nil]; exact List.mem_filterMap.2 ⟨c, List.mem_of_getElem? h5, h6⟩, blk h5 h6, h7⟩
   · obtain ⟨c, γ, h5, h6, h7⟩ := hx
     obtain ⟨c', γ', h5', h6', h7'⟩ := hx'; obtain ⟨ab, hab⟩ := blk h5 h6; obtain ⟨ab', hab'⟩ := blk h5' h6'; have := h.disj γ γ' _ _ x hab hab' h7 h7'; subst this; exact q0q hn' h5 h5' h6 h6'
   · obtain ⟨c, hc', hmc⟩ := h4 k oc hoc
     have hrel := h2.2 k c u hc' hu
     cases oc with
     | s v' =>
       cases c with
       | b c0 =>
         cases c0 with
         | s v0 => have hm' : v0 = v' := hmc; subst hm'; cases hrel with | s _ h9 => exact ⟨rfl, h9⟩
         | _ => exact hmc.elim
       | _ => exact hmc.elim
     | l sz rows =>
       cases c with
       | b c0 => cases c0 <;> exact hmc.elim
       | nil => cases hrel; have hm' : rows = [] := hmc; subst hm'; exact ⟨sz, fun _ => Y, .inl ⟨Y, none, Y⟩⟩
       | em => obtain ⟨A, rfl⟩ := hrel; have hm' : rows = [] := hmc; subst hm'; exact ⟨sz, fun _ => Y, .inl ⟨Y, A, Y⟩⟩
       | h β n =>
         simp only [y61] at hmc; split at hmc
         · rename_i sz' ep rows' hβ
           obtain ⟨rfl, rfl, hsz⟩ := hmc; obtain ⟨_, ab, hg, h9⟩ := hrel; rw [hβ] at hg; cases hg; rw [(h9 true sz' ep rows' rfl).2 rfl]; obtain ⟨sz1, hsz1, hslab⟩ := h.y0k β _ hβ; refine ⟨sz1, fun hne => ?_, z0e.imp hslab (fun x hx => ⟨.h β rows'.length, β, hc', Y, hx⟩) (fun _ _ _ => Y) (fun F c u _ hc => hc)⟩; rcases hsz with rfl | rfl
           · exact hsz1 hne
           · exact absurd Y hne
         · exact hmc.elim
       | _ => exact hmc.elim
 | bor ag cs =>
   obtain ⟨hs, hc⟩ := hm; obtain ⟨h1, h2⟩ := q3l hs hv; obtain ⟨h3, h4⟩ := y2x hc; refine ⟨v.cells, h1, by rw [h2.1, h3], fun k oc u hoc hu => ?_⟩; obtain ⟨c, hc', hmc⟩ := h4 k oc hoc; have hrel := h2.2 k c u hc' hu
   cases c with
   | b c0 => have hm' : c0 = oc := hmc; subst hm'; exact hrel
   | nil => cases hrel; have hm' : oc = .l [] := hmc; subst hm'; exact .l 0 [] none 0 (fun _ _ => undef) (by simp) (Nat.le_refl _) (fun _ => Y) (fun j k hj => by simp at hj) (fun j k row c h1 => by simp at h1)
   | em => obtain ⟨A, rfl⟩ := hrel; have hm' : oc = .l [] := hmc; subst hm'; exact .l 0 [] A 0 (fun _ _ => undef) (by simp) (Nat.le_refl _) (fun _ => Y) (fun j k hj => by simp at hj) (fun j k row c h1 => by simp at h1)
   | _ => exact hmc.elim
theorem z1j (av : AV) (avs : List AV) (rc : RC) (rcs : List RC) : qu (av :: avs) (rc :: rcs) = qu [av] [rc] ++ qu avs rcs := by
 cases rc <;> simp [qu]
theorem q1a : ∀ {avs : List AV} {rcs : List RC} {i : Nat} {av : AV} {rc : RC}, avs[i]? = some av → rcs[i]? = some rc → ∀ γ ∈ qu [av] [rc], γ ∈ qu avs rcs
 | [], rcs, i, av, rc, h, _, γ, _ => by simp at h
 | _ :: _, [], i, av, rc, _, h, γ, _ => by simp at h
 | av0 :: avs, rc0 :: rcs, i, av, rc, h, h', γ, hγ => by
   rw [z1j]
   cases i with
   | zero => cases h; cases h'; exact List.mem_append_left _ hγ
   | succ i => exact List.mem_append_right _ (q1a (by simpa using h) (by simpa using h') γ hγ)
theorem q2b : ∀ {avs : List AV} {rcs : List RC}, (qu avs rcs).Nodup → ∀ {i : Nat} {av : AV} {rc : RC}, avs[i]? = some av → rcs[i]? = some rc → (qu [av] [rc]).Nodup
 | [], rcs, _, i, av, rc, h, _ => by simp at h
 | _ :: _, [], _, i, av, rc, _, h => by simp at h
 | av0 :: avs, rc0 :: rcs, hn, i, av, rc, h, h' => by
   rw [z1j] at hn; obtain ⟨h1, h2, _⟩ := List.nodup_append.1 hn
   cases i with
   | zero => cases h; cases h'; exact h1
   | succ i => exact q2b h2 (by simpa using h) (by simpa using h')
theorem y2b : ∀ {avs : List AV} {rcs : List RC}, (qu avs rcs).Nodup → ∀ {i i' : Nat} {av av' : AV} {rc rc' : RC} {γ : Nat}, avs[i]? = some av → rcs[i]? = some rc → avs[i']? = some av' → rcs[i']? = some rc' → γ ∈ qu [av] [rc] → γ ∈ qu [av'] [rc'] → i = i'
 | [], rcs, _, i, i', av, av', rc, rc', γ, h, _, _, _, _, _ => by simp at h
 | _ :: _, [], _, i, i', av, av', rc, rc', γ, _, h, _, _, _, _ => by simp at h
 | av0 :: avs, rc0 :: rcs, hn, i, i', av, av', rc, rc', γ, h1, h2, h3, h4, h5, h6 => by
   rw [z1j] at hn; obtain ⟨_, n2, n3⟩ := List.nodup_append.1 hn
   cases i with
   | zero =>
     cases i' with
     | zero => rfl
     | succ i' =>
       cases h1; cases h2; exact absurd Y (n3 γ h5 γ (q1a (by simpa using h3) (by simpa using h4) γ h6))
   | succ i =>
     cases i' with
     | zero =>
       cases h3; cases h4; exact absurd Y (n3 γ h6 γ (q1a (by simpa using h1) (by simpa using h2) γ h5))
     | succ i' => exact congrArg (· + 1) (y2b n2 (by simpa using h1) (by simpa using h2) (by simpa using h3) (by simpa using h4) h5 h6)
theorem q3j {P : Program} {fn : Func} {vs : List Value} (h : (fn.results.toList.mapM (y46 a)).run P w = .ok vs w) : (results fn a.tmps).run P w = .ok (if h : vs.toArray.size = 1 then vs.toArray[0] else .tuple vs.toArray) w := by
 have he : results fn a.tmps = (do let vs ← fn.results.mapM (y46 a); pure (if h : vs.size = 1 then vs[0] else .tuple vs)) := rfl; rw [he, ← Array.toArray_toList (xs := fn.results), List.mapM_toArray]; simp only [Sem.run_bind, Sem.run_map, h, Result.andThen_ok, Sem.run_pure]
theorem z4c : ∀ {args : List SV} {i t : Nat} {av : AV}, get (q7q i args) t = some av → ∃ k sv, t = i + k ∧ args[k]? = some sv ∧ av = qbj sv
 | [], i, t, av, h => by cases h
 | sv :: l, i, t, av, h => by
   rw [q7q, za] at h; by_cases ht : i = t
   · rw [if_pos ht] at h; cases h; exact ⟨0, sv, by omega, Y, Y⟩
   · rw [if_neg ht] at h
     obtain ⟨k, sv', h1, h2, h3⟩ := z4c h; exact ⟨k + 1, sv', by omega, by simpa using h2, h3⟩
theorem y2d (h : ye C σ ρ a w) {fn : Func} {res : Res} {bk : List Nat} (hk : z4q C.P fn res bk σ) : ∃ (v : Value) (ms : List Nat), (results fn a.tmps).run C.P w = .ok v w ∧ q1e w (Bor C ρ σ.b) (gS σ ρ ms) res v ∧ ∀ γ ∈ ms, γ ∉ bk := by
 cases res with
 | one rc =>
   simp only [z4q] at hk; split at hk
   · rename_i r hr
     obtain ⟨av, v, ⟨h1, h2⟩, h3, h4⟩ := y2l h hk; obtain ⟨n1, _, n3⟩ := List.nodup_append.1 h2; refine ⟨v, qu [av] [rc], ?_, q6q h h3 h1 n1, fun γ hγ hb => n3 γ hγ γ hb Y⟩; have := q3j (P := C.P) (fn := fn) (a := a) (w := w) (vs := [v]) (by rw [hr]; simp [h4])
     simpa using this
   · exact hk.elim
 | tup rcs =>
   obtain ⟨hsz, hk⟩ := hk; obtain ⟨avs, vs, ⟨h1, h20⟩, h3, h4, h5, h6⟩ := q20 h hk; obtain ⟨h2, _, n3⟩ := List.nodup_append.1 h20; obtain ⟨h7, h8⟩ := y2x h1; have hvs : vs.toArray.size ≠ 1 := by simpa [h4] using hsz
   refine ⟨.tuple vs.toArray, qu avs rcs, ?_, ?_, fun γ hγ hb => n3 γ hγ γ hb Y⟩
   · have := q3j (P := C.P) (fn := fn) (a := a) (w := w) h6
     rw [dif_neg hvs] at this; exact this
   · have hat : ∀ {i : Nat} {rc : RC}, rcs[i]? = some rc → ∃ av, avs[i]? = some av ∧ z4n σ.b av rc := fun {i rc} hi => h8 i rc hi
     refine ⟨vs.toArray, fun i x => ∃ av rc, avs[i]? = some av ∧ rcs[i]? = some rc ∧ gS σ ρ (qu [av] [rc]) x, Y, by simp [h4, ← h7, h3], fun i x hx => ?_, fun i i' x hx hx' => ?_, fun i rc u hrc hu => ?_⟩
     · obtain ⟨av, rc, g1, g2, γ, g3, g4, g5⟩ := hx
       exact ⟨γ, q1a g1 g2 γ g3, g4, g5⟩
     · obtain ⟨av, rc, g1, g2, γ, g3, ⟨ab, g4⟩, g5⟩ := hx
       obtain ⟨av', rc', g1', g2', γ', g3', ⟨ab', g4'⟩, g5'⟩ := hx'; have := h.disj γ γ' _ _ x g4 g4' g5 g5'; subst this; exact y2b h2 g1 g2 g1' g2' g3 g3'
     · obtain ⟨av, hav, hm⟩ := hat hrc
       have hrel := h5 i av u hav (by simpa using hu); have := q6q h hrel hm (q2b h2 hav hrc)
       have hG : (fun x => ∃ av rc, avs[i]? = some av ∧ rcs[i]? = some rc ∧ gS σ ρ (qu [av] [rc]) x) = gS σ ρ (qu [av] [rc]) := by
        funext x
        apply propext; constructor
        · rintro ⟨av', rc', e1, e2, e3⟩
          rw [hav] at e1; rw [hrc] at e2; cases e1; cases e2; exact e3
        · intro e; exact ⟨av, rc, hav, hrc, e⟩
       show z0v w _ (fun x => ∃ av rc, avs[i]? = some av ∧ rcs[i]? = some rc ∧ gS σ ρ (qu [av] [rc]) x) rc u; rw [hG]; exact this
end
theorem PC.intro {P : Program} {f : Nat} {fn : Func} {c : Code} {args : List SV} {res : Res} (hf : P.funcs[f]? = some fn) (hb : fn.body = some c) (hok : (okF P f && z0s fn.ntmps c && Nat.ble args.length fn.ntmps) = true)
 (h : vc P c (fun e σ => match e with | .exit _ => False | _ => z9z P fn res σ) ⟨q7q 0 args, []⟩) : PC P f args res := by
 simp only [Bool.and_eq_true] at hok; obtain ⟨⟨ho1, ho2⟩, ho3⟩ := hok; refine ⟨ho1, fun N w vals hargs => ?_⟩; refine calls_of_wp hf hb ?_; have hle : args.length ≤ fn.ntmps := Nat.le_of_ble_eq_true ho3; have hM : ∀ x, ¬ (Ctx.mk P fn.ntmps w N (fun _ => False) []).M x := fun x h => h
 have hinit : ye (Ctx.mk P fn.ntmps w N (fun _ => False) []) ⟨q7q 0 args, []⟩ ⟨fun _ => undef, fun _ _ => False⟩ { tmps := vals ++ Array.replicate (fn.ntmps - vals.size) undef, defers := [] } w := by
  refine ⟨fun t av ht => ?_, fun β ab h => (by cases h), fun β β' ab ab' x h => (by cases h), fun β ab x h => (by cases h), ?_, Y, zt.refl _ _, fun g hg => by cases hg⟩
  · obtain ⟨k, sv, h1, h2, rfl⟩ := z4c ht
    have hk : k < vals.size := by rw [hargs.1]; exact (List.getElem?_eq_some_iff.1 h2).1
    have ht' : t = k := by omega
    subst ht'; refine ⟨vals[t], by rw [Array.getElem?_append, if_pos hk]; simp [hk], ?_⟩; have hrv := hargs.2 t sv vals[t] h2 (by simp [hk]); have hN : ∀ {c : Cell} {u : Value}, Rep w N c u → Rep w (Bor (Ctx.mk P fn.ntmps w N (fun _ => False) []) ⟨fun _ => undef, fun _ _ => False⟩ []) c u := fun hr => Rep.mono hr (fun x _ hx => ⟨.inl hx, fun β ab h => by cases h⟩)
    cases sv with
    | one c => exact hN hrv
    | agg cs =>
      obtain ⟨arr, he, h3, h4⟩ := hrv; refine ⟨arr, he, by simp [h3], fun k c u hc hu => ?_⟩; rw [List.getElem?_map] at hc
      cases hck : cs[k]? with
      | none => rw [hck] at hc; cases hc
      | some c0 => rw [hck] at hc; cases hc; exact hN (h4 k c0 u hck hu)
  · show (vals ++ Array.replicate (fn.ntmps - vals.size) undef).size = fn.ntmps
    rw [Array.size_append, Array.size_replicate]; have := hargs.1; omega
 refine wp_mono (y2f (C := Ctx.mk P fn.ntmps w N (fun _ => False) []) (fun g hg => by cases hg) ho2 ⟨_, hinit⟩ h) (fun e a' w' hq => ?_); obtain ⟨e', he, σ', hr, ρ', hrel⟩ := hq
 have fin : z9z P fn res σ' → a'.defers = [] ∧ ∃ v, (results fn a'.tmps).run P w' = .ok v w' ∧ ∃ (v' : Value) (S : Nat → Prop), Ending.returned v = .returned v' ∧ zt w w' (fun _ => False) ∧ q1e w' (fun x => (N x ∨ w.heap.size ≤ x) ∧ ¬ S x) S res v' ∧ ∀ x, S x → w.heap.size ≤ x ∧ x < w'.heap.size := fun hret => by
  obtain ⟨v, ms, h1, h2, _⟩ := y2d hrel hret; refine ⟨hrel.defers, v, h1, v, gS σ' ρ' ms, Y, hrel.keep, h2.mono (fun x hx => ⟨?_, ?_⟩), fun x hx => ?_⟩
  · rcases hx.1 with h | h | h
    · exact .inl h
    · exact .inr h
    · exact h.elim
  · rintro ⟨γ, _, ⟨ab, hab⟩, hs⟩; exact hx.2 γ ab hab hs
  · obtain ⟨γ, _, ⟨ab, hab⟩, hs⟩ := hx
    exact ⟨(hrel.mine γ ab x hab hs).2.resolve_right (hM x), (hrel.mine γ ab x hab hs).1⟩
 cases e <;> simp only [y7y, Option.some.injEq] at he <;> first | (subst he) | cases he
 · exact fin hr
 · exact hr.elim
 · exact fin hr
end Go.Sx
end
