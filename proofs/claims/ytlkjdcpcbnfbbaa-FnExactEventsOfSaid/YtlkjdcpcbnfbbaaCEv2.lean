/- WHAT IS PROVED: parts of the proof of fnExactEventsOf_holds: a frame for walks, what each Go function that it reaches answers, and plain lemmas; no condition beyond those that each theorem names. -/
import Derived.Test.YtlkjdcpcbnfbbaaCEv1
import Derived.WalkKit
import Derived.OrdersHeld
import Derived.DeepKeys
import Derived.Maps.RangeWalk
import Derived.Maps.OwnOps
import Derived.WideKeyEntry
set_option linter.unusedVariables false
set_option linter.unusedSimpArgs false
section
namespace Go.Sx
open Go.RowKit (Below)
inductive GC where
  | bor (c : Cell)
  | giv (full : Bool) (sz : Nat) (rows : List (List Cell))
inductive GA where
  | one (c : GC)
  | agg (cs : List GC)
def gcs : List GA → List GC
  | [] => []
  | .one c :: l => c :: gcs l
  | .agg cs :: l => cs ++ gcs l
def vflat : List GA → List Value → List Value
  | .one _ :: l, v :: vs => v :: vflat l vs
  | .agg _ :: l, .agg arr :: vs => arr.toList ++ vflat l vs
  | _, _ => []
def shapeG : List GA → List Value → Prop
  | [], [] => True
  | .one _ :: l, _ :: vs => shapeG l vs
  | .agg cs :: l, v :: vs => (∃ arr : Array Value, v = .agg arr ∧ arr.size = cs.length) ∧ shapeG l vs
  | _, _ => False
def CN (w : World) (N : Nat → Prop) : Bool → (Nat → Prop) → Cell → Value → Prop
  | true => Own w
  | false => fun _ c u => Rep w N c u
def CellG (w : World) (N S : Nat → Prop) : GC → Value → Prop
  | .bor c, v => Rep w N c v
  | .giv full sz rows, v => ∃ sz', (sz ≠ 0 → sz' = sz) ∧ Slab w (CN w N full) S sz' rows v
def Rest (N : Nat → Prop) (w : World) (S : Nat → Nat → Prop) (SR : Nat → Prop) (SB : Nat → Nat → Prop) (x : Nat) : Prop := (N x ∨ w.heap.size ≤ x ∨ ∃ β, S β x) ∧ ¬ SR x ∧ ∀ β, ¬ SB β x
def PG (P : Program) (f : Nat) (args : List GA) (res : Res) (back : List (Nat × List (List Cell))) : Prop :=
  okF P f = true ∧ ∀ (N : Nat → Prop) (S : Nat → Nat → Prop) (w : World) (vals : Array Value), (∀ t x, S t x → x < w.heap.size ∧ ¬ N x) → (∀ t t' x, S t x → S t' x → t = t') →
    shapeG args vals.toList → (∀ (t : Nat) (g : GC) (u : Value), (gcs args)[t]? = some g → (vflat args vals.toList)[t]? = some u → CellG w N (S t) g u) →
    Calls P f vals w fun e w' => ∃ (v : Value) (SR : Nat → Prop) (SB : Nat → Nat → Prop), e = .returned v ∧ Keep w w' (fun x => ∃ t, S t x) ∧ RelRes w' (Rest N w S SR SB) SR res v ∧
      (∀ x, SR x → (w.heap.size ≤ x ∨ ∃ t, S t x) ∧ x < w'.heap.size ∧ ∀ t, ¬ SB t x) ∧ (∀ t x, SB t x → (w.heap.size ≤ x ∨ ∃ t, S t x) ∧ x < w'.heap.size) ∧ (∀ t t' x, SB t x → SB t' x → t = t') ∧
      ∀ (t : Nat) (rows' : List (List Cell)), get back t = some rows' → ∀ (full : Bool) (sz : Nat) (rows : List (List Cell)) (u : Value), (gcs args)[t]? = some (.giv full sz rows) → (vflat args vals.toList)[t]? = some u →
        rows'.length = rows.length ∧ (∀ (i : Nat) (row row' : List Cell), rows[i]? = some row → rows'[i]? = some row' → row'.length = row.length) ∧ ∃ sz', (sz ≠ 0 → sz' = sz) ∧ Slab w' (CN w' (Rest N w S SR SB) full) (SB t) sz' rows' u
def mC (B : List (Nat × AB)) : AC → GC → Prop
  | .b c', .bor c => c' = c
  | .nil, .bor c => c = .l []
  | .em, .bor c => c = .l []
  | .cl f caps, .bor c => caps = [] ∧ c = .f f []
  | .h γ n, .giv full sz rows => (match get B γ with | some (.arr full' sz' _ rows') => full' = full ∧ sz' = sz ∧ rows' = rows ∧ n = rows.length | _ => False)
  | .q β m i k, .giv full sz rows => full = true ∧ sz = 0 ∧ (match get B β with | some (.arr true _ ep rws) => m = ep ∧ ∃ row, rws[i]? = some row ∧ row[k]? = some (.l rows) | _ => False)
  | .nil, .giv _ _ rows => rows = []
  | .em, .giv _ _ rows => rows = []
  | _, _ => False
def mCs (B : List (Nat × AB)) : List AC → List GC → Prop
  | [], [] => True
  | c :: cs, g :: gs => mC B c g ∧ mCs B cs gs
  | _, _ => False
def mAs (B : List (Nat × AB)) : List AV → List GA → Prop
  | [], [] => True
  | .one c :: l, .one g :: l' => mC B c g ∧ mAs B l l'
  | .agg cs :: l, .agg gs :: l' => mCs B cs gs ∧ mAs B l l'
  | _, _ => False
def acs : List AV → List AC
  | [] => []
  | .one c :: l => c :: acs l
  | .agg cs :: l => cs ++ acs l
  | .tup _ :: l => acs l
def given : Nat → List AC → List GC → List (Nat × Nat × Option (Nat × Nat))
  | t, .h γ _ :: l, .giv _ _ _ :: l' => (t, γ, none) :: given (Nat.succ t) l l'
  | t, .q γ _ i k :: l, .giv _ _ _ :: l' => (t, γ, some (i, k)) :: given (Nat.succ t) l l'
  | t, _ :: l, _ :: l' => given (Nat.succ t) l l'
  | _, _, _ => []
def setRow (rws : List (List Cell)) (i k : Nat) (c : Cell) : List (List Cell) := match rws[i]? with | some row => rws.set i (row.set k c) | none => rws
def turned (B : List (Nat × AB)) (back : List (Nat × List (List Cell))) : List (Nat × Nat × Option (Nat × Nat)) → List (Nat × AB)
  | [] => []
  | (t, γ, o) :: l => (γ, match get back t, get B γ with | some rows', some (.arr full sz ep rws) => .arr full sz (Nat.succ ep) (match o with | none => rows' | some (i, k) => setRow rws i k (.l rows')) | _, _ => .dead) :: turned B back l
def afterG (σ : St) (d : Option Tmp) (res : Res) (T : List (Nat × AB)) : St := match d with
  | some d => ⟨(d, resAV (nameOf d) res) :: σ.t, (resABs (nameOf d) res ++ T) ++ σ.b⟩
  | none => ⟨σ.t, ([] ++ T) ++ σ.b⟩
def CallG0 (P : Program) (σ : St) (d : Option Tmp) (f : Nat) (avs : List AV) (K : St → Prop) : Prop :=
  ∃ args res back, PG P f args res back ∧ smallRes res = true ∧ mAs σ.b avs args ∧ ((given 0 (acs avs) (gcs args)).map (·.2.1)).Nodup ∧ freshIn σ.b (resABs (nameOf (d.getD 0)) res) ∧ K (afterG σ d res (turned σ.b back (given 0 (acs avs) (gcs args))))
section
variable {C : Ctx} {σ : St} {ρ : Env} {a : Act} {w w' : World}
theorem mCs_get {B : List (Nat × AB)} : ∀ {cs : List AC} {gs : List GC}, mCs B cs gs → cs.length = gs.length ∧ ∀ (t : Nat) (g : GC), gs[t]? = some g → ∃ c, cs[t]? = some c ∧ mC B c g
  | [], [], _ => ⟨rfl, fun t g h => by simp at h⟩
  | c :: cs, g :: gs, h => by
    obtain ⟨h1, h2⟩ := mCs_get h.2
    refine ⟨by simp [h1], fun t g' hg => ?_⟩
    cases t with
    | zero => cases hg; exact ⟨c, rfl, h.1⟩
    | succ t => simpa using h2 t g' (by simpa using hg)
  | [], _ :: _, h => h.elim
  | _ :: _, [], h => h.elim
theorem mAs_get {B : List (Nat × AB)} : ∀ {avs : List AV} {args : List GA} {vals : List Value}, mAs B avs args → vals.length = avs.length → (∀ (i : Nat) (av : AV) (v : Value), avs[i]? = some av → vals[i]? = some v → RelAV C w ρ B av v) →
    shapeG args vals ∧ ∀ (t : Nat) (g : GC) (u : Value), (gcs args)[t]? = some g → (vflat args vals)[t]? = some u → ∃ c, (acs avs)[t]? = some c ∧ mC B c g ∧ RelAC C w ρ B c u
  | [], [], vals, _, hl, _ => by
    cases vals with
    | nil => exact ⟨trivial, fun t g u h => by simp [gcs] at h⟩
    | cons v vs => cases hl
  | .one c :: avs, .one g :: args, vals, h, hl, hv => by
    cases vals with
    | nil => cases hl
    | cons v vs =>
      obtain ⟨h1, h2⟩ := mAs_get (vals := vs) h.2 (by simpa using hl) (fun i av v' ha hv' => hv (i + 1) av v' (by simpa using ha) (by simpa using hv'))
      refine ⟨h1, fun t g' u hg hu => ?_⟩
      cases t with
      | zero => cases hg; cases hu; exact ⟨c, rfl, h.1, hv 0 _ v rfl rfl⟩
      | succ t => simpa [acs] using h2 t g' u (by simpa [gcs] using hg) (by simpa [vflat] using hu)
  | .agg cs :: avs, .agg gs :: args, vals, h, hl, hv => by
    cases vals with
    | nil => cases hl
    | cons v vs =>
      obtain ⟨h1, h2⟩ := mAs_get (vals := vs) h.2 (by simpa using hl) (fun i av v' ha hv' => hv (i + 1) av v' (by simpa using ha) (by simpa using hv'))
      obtain ⟨arr, rfl, h3, h4⟩ := hv 0 _ v rfl rfl
      obtain ⟨h5, h6⟩ := mCs_get h.1
      refine ⟨⟨⟨arr, rfl, by omega⟩, h1⟩, fun t g' u hg hu => ?_⟩
      simp only [gcs, vflat, acs] at hg hu ⊢
      rw [List.getElem?_append] at hg hu
      by_cases ht : t < gs.length
      · rw [if_pos ht] at hg
        rw [if_pos (by rw [Array.length_toList]; omega)] at hu
        obtain ⟨c, hc, hm⟩ := h6 t g' hg
        rw [Array.getElem?_toList] at hu
        exact ⟨c, by rw [List.getElem?_append_left (by omega)]; exact hc, hm, h4 t c u hc hu⟩
      · rw [if_neg ht] at hg
        rw [if_neg (by rw [Array.length_toList]; omega)] at hu
        obtain ⟨c, hc, hm⟩ := h2 (t - gs.length) g' u hg (by rw [Array.length_toList] at hu; rwa [h3, h5] at hu)
        exact ⟨c, by rw [List.getElem?_append_right (by omega), h5]; exact hc, hm⟩
  | [], _ :: _, _, h, _, _ => h.elim
  | .one _ :: _, [], _, h, _, _ => h.elim
  | .agg _ :: _, [], _, h, _, _ => h.elim
  | .tup _ :: _, [], _, h, _, _ => h.elim
  | .one _ :: _, .agg _ :: _, _, h, _, _ => h.elim
  | .agg _ :: _, .one _ :: _, _, h, _, _ => h.elim
  | .tup _ :: _, .one _ :: _, _, h, _, _ => h.elim
  | .tup _ :: _, .agg _ :: _, _, h, _, _ => h.elim
theorem given_mem : ∀ {cs : List AC} {gs : List GC} {t0 t γ : Nat} {o : Option (Nat × Nat)}, (t, γ, o) ∈ given t0 cs gs → ∃ j full sz rows, t = t0 + j ∧ gs[j]? = some (.giv full sz rows) ∧ ((o = none ∧ ∃ n, cs[j]? = some (.h γ n)) ∨ ∃ m i k, o = some (i, k) ∧ cs[j]? = some (.q γ m i k))
  | [], gs, t0, t, γ, o, h => by simp [given] at h
  | c :: cs, [], t0, t, γ, o, h => by cases c <;> simp [given] at h
  | c :: cs, g :: gs, t0, t, γ, o, h => by
    have step : (t, γ, o) ∈ given (Nat.succ t0) cs gs → ∃ j full sz rows, t = t0 + j ∧ (g :: gs)[j]? = some (.giv full sz rows) ∧ ((o = none ∧ ∃ n, (c :: cs)[j]? = some (.h γ n)) ∨ ∃ m i k, o = some (i, k) ∧ (c :: cs)[j]? = some (.q γ m i k)) := fun h => by
      obtain ⟨j, full, sz, rows, h1, h2, h3⟩ := given_mem h
      exact ⟨j + 1, full, sz, rows, by omega, by simpa using h2, by simpa using h3⟩
    cases c with
    | h γ' n =>
      cases g with
      | bor c => exact step h
      | giv full sz rows =>
        rcases List.mem_cons.1 h with he | h
        · cases he; exact ⟨0, full, sz, rows, rfl, rfl, .inl ⟨rfl, n, rfl⟩⟩
        · exact step h
    | q γ' m i k =>
      cases g with
      | bor c => exact step h
      | giv full sz rows =>
        rcases List.mem_cons.1 h with he | h
        · cases he; exact ⟨0, full, sz, rows, rfl, rfl, .inr ⟨m, i, k, rfl, rfl⟩⟩
        · exact step h
    | _ => exact step h
theorem given_uniq {cs : List AC} {gs : List GC} {t γ γ' : Nat} {o o' : Option (Nat × Nat)} (h : (t, γ, o) ∈ given 0 cs gs) (h' : (t, γ', o') ∈ given 0 cs gs) : γ = γ' ∧ o = o' := by
  obtain ⟨j, _, _, _, h1, _, h3⟩ := given_mem h
  obtain ⟨j', _, _, _, h1', _, h3'⟩ := given_mem h'
  have : j = j' := by omega
  subst this
  rcases h3 with ⟨rfl, n, h3⟩ | ⟨m, i, k, rfl, h3⟩ <;> rcases h3' with ⟨rfl, n', h3'⟩ | ⟨m', i', k', rfl, h3'⟩ <;> rw [h3] at h3' <;> cases h3' <;> exact ⟨rfl, rfl⟩
theorem given_put : ∀ {cs : List AC} {gs : List GC} {t0 j : Nat} {full : Bool} {sz : Nat} {rows : List (List Cell)}, gs[j]? = some (.giv full sz rows) → (∀ γ n, cs[j]? = some (.h γ n) → (t0 + j, γ, none) ∈ given t0 cs gs) ∧ (∀ γ m i k, cs[j]? = some (.q γ m i k) → (t0 + j, γ, some (i, k)) ∈ given t0 cs gs)
  | [], gs, t0, j, full, sz, rows, _ => ⟨fun γ n h => by simp at h, fun γ m i k h => by simp at h⟩
  | c :: cs, [], t0, j, full, sz, rows, h => by simp at h
  | c :: cs, g :: gs, t0, j, full, sz, rows, h' => by
    cases j with
    | zero =>
      cases h'
      exact ⟨fun γ n h => by cases h; exact List.mem_cons_self .., fun γ m i k h => by cases h; exact List.mem_cons_self ..⟩
    | succ j =>
      obtain ⟨g1, g2⟩ := given_put (cs := cs) (gs := gs) (t0 := Nat.succ t0) (j := j) (by simpa using h')
      have e : t0 + (j + 1) = Nat.succ t0 + j := by omega
      rw [e]
      have up : ∀ {y : Nat × Nat × Option (Nat × Nat)}, y ∈ given (Nat.succ t0) cs gs → y ∈ given t0 (c :: cs) (g :: gs) := fun {y} hy => by
        cases c <;> cases g <;> first | exact hy | exact List.mem_cons_of_mem _ hy
      exact ⟨fun γ n h => up (g1 γ n (by simpa using h)), fun γ m i k h => up (g2 γ m i k (by simpa using h))⟩
theorem snd_nodup : ∀ {l : List (Nat × Nat × Option (Nat × Nat))} {t t' γ : Nat} {o o' : Option (Nat × Nat)}, (l.map (·.2.1)).Nodup → (t, γ, o) ∈ l → (t', γ, o') ∈ l → t = t'
  | [], t, t', γ, o, o', _, h, _ => by cases h
  | (t0, γ0, o0) :: l, t, t', γ, o, o', hn, h, h' => by
    rw [List.map_cons, List.nodup_cons] at hn
    have out : ∀ {t : Nat} {o : Option (Nat × Nat)}, (t, γ0, o) ∈ l → False := fun {t o} hm => hn.1 (List.mem_map.2 ⟨_, hm, rfl⟩)
    rcases List.mem_cons.1 h with he | h <;> rcases List.mem_cons.1 h' with he' | h'
    · cases he; cases he'; rfl
    · cases he; exact (out h').elim
    · cases he'; exact (out h).elim
    · exact snd_nodup hn.2 h h'
theorem turned_get {B : List (Nat × AB)} {back : List (Nat × List (List Cell))} : ∀ {l : List (Nat × Nat × Option (Nat × Nat))} {γ : Nat} {ab : AB}, get (turned B back l) γ = some ab → ∃ t o, (t, γ, o) ∈ l ∧ ab = (match get back t, get B γ with | some rows', some (.arr full sz ep rws) => .arr full sz (Nat.succ ep) (match o with | none => rows' | some (i, k) => setRow rws i k (.l rows')) | _, _ => .dead)
  | [], γ, ab, h => by cases h
  | (t, γ0, o) :: l, γ, ab, h => by
    rw [turned, get_cons'] at h
    by_cases hg : γ0 = γ
    · subst hg; rw [if_pos rfl] at h; cases h; exact ⟨t, o, List.mem_cons_self .., rfl⟩
    · rw [if_neg hg] at h
      obtain ⟨t', o', h1, h2⟩ := turned_get h
      exact ⟨t', o', List.mem_cons_of_mem _ h1, h2⟩
theorem turned_some {B : List (Nat × AB)} {back : List (Nat × List (List Cell))} : ∀ {l : List (Nat × Nat × Option (Nat × Nat))} {t γ : Nat} {o : Option (Nat × Nat)}, (t, γ, o) ∈ l → (get (turned B back l) γ).isSome = true
  | [], t, γ, o, h => by cases h
  | (t0, γ0, o0) :: l, t, γ, o, h => by
    rw [turned, get_cons']
    by_cases hg : γ0 = γ
    · rw [if_pos hg]; rfl
    · rw [if_neg hg]
      rcases List.mem_cons.1 h with he | h
      · cases he; exact absurd rfl hg
      · exact turned_some h
theorem vflat_len : ∀ {args : List GA} {vals : List Value}, shapeG args vals → (vflat args vals).length = (gcs args).length
  | [], [], _ => rfl
  | .one _ :: l, _ :: vs, h => by simp only [vflat, gcs, List.length_cons, vflat_len (args := l) (vals := vs) h]
  | .agg cs :: l, v :: vs, h => by
    obtain ⟨⟨arr, rfl, h1⟩, h2⟩ := h
    simp only [vflat, gcs, List.length_append, Array.length_toList, h1, vflat_len h2]
  | [], _ :: _, h => h.elim
  | .one _ :: _, [], h => h.elim
  | .agg _ :: _, [], h => h.elim
theorem RelRC.monoA {w : World} {N N' S : Nat → Prop} {rc : RC} {v : Value} (h : RelRC w N S rc v) (hN : ∀ x, N x → N' x) : RelRC w N' S rc v := by
  cases rc with
  | own ag cs => exact h
  | bor ag cs =>
    obtain ⟨arr, h1, h2, h3⟩ := h
    exact ⟨arr, h1, h2, fun k c u hc hu => Rep.mono (h3 k c u hc hu) (fun x _ hx => hN x hx)⟩
theorem CC_CN (full : Bool) : CC C w ρ σ.b full = CN w (Bor C ρ σ.b) full := by cases full <;> rfl
theorem call_soundG0 (h : RelAt C σ ρ a w) {d : Option Tmp} {f : Nat} {avs : List AV} {vals : Array Value} {K : St → Prop} (hd : ∀ t, d = some t → t < C.T) (hk : CallG0 C.P σ d f avs K) (hs : vals.size = avs.length)
    (hv : ∀ (i : Nat) (av : AV) (v : Value), avs[i]? = some av → vals[i]? = some v → RelAV C w ρ σ.b av v) :
    okF C.P f = true ∧ Calls C.P f vals w fun e w' => ∃ v, e = .returned v ∧ ∃ σ', K σ' ∧ Rel C σ' (a.put d v) w' := by
  obtain ⟨args, res, back, ⟨hok, hpc⟩, hsm, hm, hnd, hfr, hK⟩ := hk
  refine ⟨hok, ?_⟩
  obtain ⟨hsh, hcell⟩ := mAs_get (C := C) (w := w) (ρ := ρ) (vals := vals.toList) hm (by simpa using hs) (fun i av v h1 h2 => hv i av v h1 (by simpa using h2))
  have hlen := vflat_len hsh
  generalize hnl : given 0 (acs avs) (gcs args) = nl at hnd hK
  have uniq : ∀ {t γ γ' : Nat} {o o' : Option (Nat × Nat)}, (t, γ, o) ∈ nl → (t, γ', o') ∈ nl → γ = γ' ∧ o = o' := fun {t γ γ' o o'} h1 h2 => by rw [← hnl] at h1 h2; exact given_uniq h1 h2
  have hgiv : ∀ t γ o, (t, γ, o) ∈ nl → ∃ full sz rows u, (gcs args)[t]? = some (.giv full sz rows) ∧ (vflat args vals.toList)[t]? = some u ∧ ((o = none ∧ u = ρ.v γ ∧ ∃ ep, get σ.b γ = some (.arr full sz ep rows)) ∨
      ∃ i k sz1 ep rws row, o = some (i, k) ∧ full = true ∧ sz = 0 ∧ get σ.b γ = some (.arr true sz1 ep rws) ∧ rws[i]? = some row ∧ row[k]? = some (.l rows) ∧ ∃ F0 : Nat → Prop, (∀ x, F0 x → ρ.S γ x) ∧ Own w F0 (.l rows) u ∧
        ∀ (w' : World) (FB : Nat → Prop) (rs' : List (List Cell)), (∀ x, ρ.S γ x → ¬ F0 x → w'.heap[x]? = w.heap[x]?) → (∀ x, FB x → ¬ ρ.S γ x ∨ F0 x) → Own w' FB (.l rs') u → ∃ sz', (sz1 ≠ 0 → sz' = sz1) ∧ Slab w' (Own w') (fun x => (ρ.S γ x ∧ ¬ F0 x) ∨ FB x) sz' (rws.set i (row.set k (.l rs'))) (ρ.v γ)) := fun t γ o hmem => by
    rw [← hnl] at hmem
    obtain ⟨j, full, sz, rows, h1, h2, h3⟩ := given_mem hmem
    have hjt : j = t := by omega
    subst hjt
    have hlt : j < (vflat args vals.toList).length := by rw [hlen]; exact (List.getElem?_eq_some_iff.1 h2).1
    have hu := List.getElem?_eq_getElem hlt
    obtain ⟨c, h4, h5, h6⟩ := hcell j _ _ h2 hu
    refine ⟨full, sz, rows, _, h2, hu, ?_⟩
    rcases h3 with ⟨rfl, n, h3⟩ | ⟨m, i, k, rfl, h3⟩
    · rw [h3] at h4
      cases h4
      simp only [mC] at h5
      split at h5
      · rename_i full' sz' ep rows' hg
        obtain ⟨rfl, rfl, rfl, rfl⟩ := h5
        obtain ⟨_, ab, hg', h7⟩ := h6
        rw [hg] at hg'
        cases hg'
        exact .inl ⟨rfl, (h7 _ _ _ _ rfl).2 rfl, ep, hg⟩
      · exact h5.elim
    · rw [h3] at h4
      cases h4
      obtain ⟨rfl, rfl, h5⟩ := h5
      split at h5
      · rename_i sz1 ep rws hg
        obtain ⟨rfl, row, hr, hk⟩ := h5
        obtain ⟨_, ab, hg', h7⟩ := h6
        rw [hg] at hg'
        cases hg'
        obtain ⟨_, h8⟩ := h7 _ _ _ _ rfl
        obtain ⟨_, g, row1, h9, h10, h11⟩ := h8 rfl
        rw [hr] at h10
        cases h10
        obtain ⟨sz', hsz', hslab⟩ := h.blks γ _ hg
        obtain ⟨u, F0, n1, n2, n3, n4⟩ := slab_nest hslab hr hk
        have hue : u = (vflat args vals.toList)[j] := by
          have := n2 g h9
          rw [h11] at this
          cases this
          rfl
        refine .inr ⟨i, k, sz1, m, rws, row, rfl, rfl, rfl, hg, hr, hk, F0, n1, by rw [← hue]; exact n3, fun w' FB rs' f1 f2 f3 => ⟨sz', hsz', n4 w' FB rs' f1 f2 (by rw [hue]; exact f3)⟩⟩
      · exact h5.elim
  have hblk : ∀ t γ o, (t, γ, o) ∈ nl → ∃ ab, get σ.b γ = some ab := fun t γ o hm => by
    obtain ⟨_, _, _, _, _, _, ⟨_, _, ep, hg⟩ | ⟨_, _, _, _, _, _, _, _, _, hg, _⟩⟩ := hgiv t γ o hm <;> exact ⟨_, hg⟩
  have hfp : ∀ t : Nat, ∃ F : Nat → Prop, (∀ x, F x → ∃ γ o, (t, γ, o) ∈ nl ∧ ρ.S γ x) ∧ ∀ γ o, (t, γ, o) ∈ nl → (o = none → F = ρ.S γ) ∧ (∀ i k, o = some (i, k) → ∃ rows u sz1 ep rws row, (gcs args)[t]? = some (.giv true 0 rows) ∧ (vflat args vals.toList)[t]? = some u ∧ get σ.b γ = some (.arr true sz1 ep rws) ∧ rws[i]? = some row ∧ Own w F (.l rows) u ∧
        ∀ (w' : World) (FB : Nat → Prop) (rs' : List (List Cell)), (∀ x, ρ.S γ x → ¬ F x → w'.heap[x]? = w.heap[x]?) → (∀ x, FB x → ¬ ρ.S γ x ∨ F x) → Own w' FB (.l rs') u → ∃ sz', (sz1 ≠ 0 → sz' = sz1) ∧ Slab w' (Own w') (fun x => (ρ.S γ x ∧ ¬ F x) ∨ FB x) sz' (rws.set i (row.set k (.l rs'))) (ρ.v γ)) := fun t => by
    by_cases hex : ∃ γ o, (t, γ, o) ∈ nl
    · obtain ⟨γ, o, hm⟩ := hex
      obtain ⟨full, sz, rows, u, e1, e2, ⟨rfl, _, ep, hg⟩ | ⟨i, k, sz1, ep, rws, row, rfl, rfl, rfl, hg, hr, hk, F0, f1, f2, f3⟩⟩ := hgiv t γ o hm
      · refine ⟨ρ.S γ, fun x hx => ⟨γ, none, hm, hx⟩, fun γ' o' hm' => ?_⟩
        obtain ⟨rfl, rfl⟩ := uniq hm hm'
        exact ⟨fun _ => rfl, fun i k he => by cases he⟩
      · refine ⟨F0, fun x hx => ⟨γ, _, hm, f1 x hx⟩, fun γ' o' hm' => ?_⟩
        obtain ⟨rfl, rfl⟩ := uniq hm hm'
        refine ⟨(fun he => by cases he), fun i' k' he => ?_⟩
        cases he
        exact ⟨rows, u, sz1, ep, rws, row, e1, e2, hg, hr, f2, f3⟩
    · exact ⟨fun _ => False, fun x hx => hx.elim, fun γ o hm => absurd ⟨γ, o, hm⟩ hex⟩
  have hch : ∃ fp : Nat → Nat → Prop, ∀ t, (∀ x, fp t x → ∃ γ o, (t, γ, o) ∈ nl ∧ ρ.S γ x) ∧ ∀ γ o, (t, γ, o) ∈ nl → (o = none → fp t = ρ.S γ) ∧ (∀ i k, o = some (i, k) → ∃ rows u sz1 ep rws row, (gcs args)[t]? = some (.giv true 0 rows) ∧ (vflat args vals.toList)[t]? = some u ∧ get σ.b γ = some (.arr true sz1 ep rws) ∧ rws[i]? = some row ∧ Own w (fp t) (.l rows) u ∧
        ∀ (w' : World) (FB : Nat → Prop) (rs' : List (List Cell)), (∀ x, ρ.S γ x → ¬ fp t x → w'.heap[x]? = w.heap[x]?) → (∀ x, FB x → ¬ ρ.S γ x ∨ fp t x) → Own w' FB (.l rs') u → ∃ sz', (sz1 ≠ 0 → sz' = sz1) ∧ Slab w' (Own w') (fun x => (ρ.S γ x ∧ ¬ fp t x) ∨ FB x) sz' (rws.set i (row.set k (.l rs'))) (ρ.v γ)) :=
    ⟨fun t => Classical.choose (hfp t), fun t => Classical.choose_spec (hfp t)⟩
  obtain ⟨fp, hfp⟩ := hch
  have hS1 : ∀ t x, fp t x → x < w.heap.size ∧ ¬ Bor C ρ σ.b x := fun t x hx => by
    obtain ⟨γ, o, h1, h2⟩ := (hfp t).1 x hx
    obtain ⟨ab, hg⟩ := hblk t γ o h1
    exact ⟨(h.mine γ _ x hg h2).1, fun hB => hB.2 γ _ hg h2⟩
  have same : ∀ {t t' γ : Nat} {o : Option (Nat × Nat)} {x : Nat}, (t, γ, o) ∈ nl → ρ.S γ x → fp t' x → t' = t := fun {t t' γ o x} hm hx hx' => by
    obtain ⟨γ', o', h1, h2⟩ := (hfp t').1 x hx'
    obtain ⟨ab, hg⟩ := hblk t γ o hm
    obtain ⟨ab', hg'⟩ := hblk t' γ' o' h1
    have := h.disj γ γ' _ _ x hg hg' hx h2
    subst this
    exact snd_nodup hnd h1 hm
  have hS2 : ∀ t t' x, fp t x → fp t' x → t = t' := fun t t' x hx hx' => by
    obtain ⟨γ, o, h1, h2⟩ := (hfp t).1 x hx
    exact (same h1 h2 hx').symm
  have hS3 : ∀ (t : Nat) (g : GC) (u : Value), (gcs args)[t]? = some g → (vflat args vals.toList)[t]? = some u → CellG w (Bor C ρ σ.b) (fp t) g u := fun t g u hg hu => by
    obtain ⟨c, hc, hmc, hrel⟩ := hcell t g u hg hu
    cases g with
    | bor c0 =>
      cases c with
      | b c1 => have e : c1 = c0 := hmc; subst e; exact hrel
      | nil => have e : c0 = .l [] := hmc; subst e; exact rep_strict (c := .nil) hrel trivial
      | em => have e : c0 = .l [] := hmc; subst e; exact rep_strict (c := .em) hrel trivial
      | cl f caps =>
        obtain ⟨e1, e2⟩ : caps = [] ∧ c0 = .f f [] := hmc
        subst e1; subst e2
        obtain ⟨us, hu1, hu2, _⟩ := hrel
        subst hu1
        exact .f f [] us hu2 (fun k c v hc => by simp at hc)
      | _ => exact hmc.elim
    | giv full sz rows =>
      obtain ⟨p1, p2⟩ := given_put (cs := acs avs) (t0 := 0) hg
      rw [hnl, Nat.zero_add] at p1 p2
      cases c with
      | nil => have e : rows = [] := hmc; subst e; cases hrel; exact ⟨sz, fun _ => rfl, .inl ⟨rfl, none, rfl⟩⟩
      | em => have e : rows = [] := hmc; subst e; obtain ⟨A, rfl⟩ := hrel; exact ⟨sz, fun _ => rfl, .inl ⟨rfl, A, rfl⟩⟩
      | h γ n =>
        have hmem := p1 γ n hc
        obtain ⟨full', sz', rows', u', e1, e2, ⟨_, hv', ep, hg'⟩ | ⟨_, _, _, _, _, _, he, _⟩⟩ := hgiv t γ none hmem
        · rw [hg] at e1; cases e1
          rw [hu] at e2; cases e2
          obtain ⟨sz1, hsz1, hslab⟩ := h.blks γ _ hg'
          refine ⟨sz1, hsz1, ?_⟩
          rw [((hfp t).2 γ none hmem).1 rfl, hv', ← CC_CN]
          exact hslab
        · cases he
      | q γ m i k =>
        have hmem := p2 γ m i k hc
        obtain ⟨rows', u', sz1, ep, rws, row, e1, e2, _, _, e5, _⟩ := ((hfp t).2 γ _ hmem).2 i k rfl
        rw [hg] at e1; cases e1
        rw [hu] at e2; cases e2
        obtain ⟨sz', hs⟩ := own_slab.1 e5
        exact ⟨sz', fun h0 => absurd rfl h0, hs⟩
      | _ => exact hmc.elim
  refine (hpc (Bor C ρ σ.b) _ w vals hS1 hS2 hsh hS3).mono ?_
  rintro e w' ⟨v, SR, SB, rfl, hkp, hres, hSR, hSB, hSBd, hback⟩
  refine ⟨v, rfl, _, hK, ?_⟩
  have notOld : ∀ {t γ : Nat} {o : Option (Nat × Nat)} {x : Nat}, (t, γ, o) ∈ nl → ρ.S γ x → ¬ fp t x → (Bor C ρ σ.b x ∨ w.heap.size ≤ x ∨ ∃ t, fp t x) → False := fun {t γ o x} hm hx hn hor => by
    obtain ⟨ab, hg⟩ := hblk t γ o hm
    rcases hor with h1 | h1 | ⟨t', h1⟩
    · exact h1.2 γ ab hg hx
    · have := (h.mine γ ab x hg hx).1; omega
    · have := same hm hx h1; subst this; exact hn h1
  have hadopt : ∀ {β : Nat} {rcs : List RC} {us : Array Value} {G : Nat → Nat → Prop}, (∀ rc ∈ rcs, smallRC rc = true) → freshIn σ.b (rcsABs β rcs) → (∀ i x, G i x → SR x) → (∀ i i' x, G i x → G i' x → i = i') → us.size = rcs.length → (∀ (i : Nat) (rc : RC) (u : Value), rcs[i]? = some rc → us[i]? = some u → RelRC w' (Rest (Bor C ρ σ.b) w fp SR SB) (G i) rc u) →
      ∃ ρ', RelAt C ⟨σ.t, (rcsABs β rcs ++ turned σ.b back nl) ++ σ.b⟩ ρ' a w' ∧ ∀ (i : Nat) (rc : RC) (u : Value), rcs[i]? = some rc → us[i]? = some u → RelAV1 C w' ρ' ((rcsABs β rcs ++ turned σ.b back nl) ++ σ.b) (rcAV (β + 100 * i) rc) u := fun {β rcs us G} a1 a2 a3 a4 a5 a6 => by
    obtain ⟨ρ', r1, _, r2⟩ := adopt_rcsG (N := fun x => Rest (Bor C ρ σ.b) w fp SR SB x ∧ ∀ t γ o, (t, γ, o) ∈ nl → ρ.S γ x → fp t x) (T := turned σ.b back nl) (SB := fun γ x => ∃ t o, (t, γ, o) ∈ nl ∧ (SB t x ∨ (o ≠ none ∧ ρ.S γ x ∧ ¬ fp t x))) (S := SR) h hkp a1 a2
      (fun x hx => ⟨(hSR x hx).1, (hSR x hx).2.1, fun γ ⟨t, o, h1, h2⟩ => by
        rcases h2 with h2 | ⟨_, h2, h3⟩
        · exact (hSR x hx).2.2 t h2
        · exact notOld h1 h2 h3 (.inr (hSR x hx).1)⟩) a3 a4 a5
      (fun i rc u hi hu => by
        refine RelRC.monoA (a6 i rc u hi hu) (fun x hx => ⟨hx, fun t γ o hm hs => ?_⟩)
        exact Classical.byContradiction fun hn => notOld hm hs hn hx.1)
      (fun x hx => ⟨hx.1.1, hx.1.2.1, fun γ ⟨t, o, h1, h2⟩ => by
        rcases h2 with h2 | ⟨_, h2, h3⟩
        · exact hx.1.2.2 t h2
        · exact h3 (hx.2 t γ o h1 h2)⟩)
      (fun x ⟨t, hx⟩ => by
        obtain ⟨γ, o, h1, h2⟩ := (hfp t).1 x hx
        obtain ⟨ab, hg⟩ := hblk t γ o h1
        exact ⟨γ, ab, hg, turned_some h1, h2⟩)
      (fun γ x ⟨t, o, h1, h2⟩ => by
        rcases h2 with h2 | ⟨_, h2, h3⟩
        · exact ⟨(hSB t x h2).1.imp id .inl, (hSB t x h2).2⟩
        · obtain ⟨ab, hg⟩ := hblk t γ o h1
          exact ⟨.inr (.inr ⟨ab, hg, h2⟩), Nat.lt_of_lt_of_le (h.mine γ ab x hg h2).1 hkp.size⟩)
      (fun γ γ' x ⟨t, o, h1, h2⟩ ⟨t', o', h1', h2'⟩ => by
        rcases h2 with h2 | ⟨_, h2, h3⟩ <;> rcases h2' with h2' | ⟨_, h2', h3'⟩
        · have := hSBd t t' x h2 h2'
          subst this
          exact (uniq h1 h1').1
        · exact (notOld h1' h2' h3' (.inr (hSB t x h2).1)).elim
        · exact (notOld h1 h2 h3 (.inr (hSB t' x h2').1)).elim
        · obtain ⟨ab, hg⟩ := hblk t γ o h1
          obtain ⟨ab', hg'⟩ := hblk t' γ' o' h1'
          exact h.disj γ γ' _ _ x hg hg' h2 h2')
      (fun γ ab' hg => by
        obtain ⟨t, o, h1, h2⟩ := turned_get hg
        obtain ⟨full, sz, rows, u, e1, e2, ⟨rfl, hv', ep, e3⟩ | ⟨i, k, sz1, ep, rws, row, rfl, rfl, rfl, e3, e4, e5, _⟩⟩ := hgiv t γ o h1
        · refine ⟨full, sz, ep, rows, e3, ?_⟩
          rw [e3] at h2
          cases hb : get back t with
          | none => rw [hb] at h2; exact .inl h2
          | some rows' =>
            rw [hb] at h2
            obtain ⟨b1, b2, sz', b3, b4⟩ := hback t rows' hb full sz rows u e1 e2
            refine .inr ⟨sz, Nat.succ ep, rows', h2, b1, Nat.lt_succ_self _, b2, sz', b3, ?_⟩
            rw [← hv']
            refine Slab.imp b4 (fun x hx => ⟨t, none, h1, .inl hx⟩) (fun _ _ _ => rfl) (fun _ _ _ _ hc => ?_)
            cases full with
            | true => exact hc
            | false => exact Rep.mono hc (fun x _ hx => ⟨hx, fun t γ o hm hs => Classical.byContradiction fun hn => notOld hm hs hn hx.1⟩)
        · refine ⟨true, sz1, ep, rws, e3, ?_⟩
          rw [e3] at h2
          cases hb : get back t with
          | none => rw [hb] at h2; exact .inl h2
          | some rows' =>
            rw [hb] at h2
            obtain ⟨b1, b2, sz', b3, b4⟩ := hback t rows' hb true 0 rows u e1 e2
            obtain ⟨rows2, u2, sz2, ep2, rws2, row2, q1, q2, q3, q4, q5, q6⟩ := ((hfp t).2 γ _ h1).2 i k rfl
            rw [e2] at q2; cases q2
            rw [e3] at q3; cases q3
            rw [e4] at q4; cases q4
            have hset : setRow rws i k (.l rows') = rws.set i (row.set k (.l rows')) := by simp only [setRow, e4]
            obtain ⟨sz3, c1, c2⟩ := q6 w' (SB t) rows' (fun x hx hn => hkp.block x (by
                obtain ⟨ab, hg⟩ := hblk t γ _ h1
                exact (h.mine γ ab x hg hx).1) (fun hG => notOld h1 hx hn (.inr (.inr hG))))
              (fun x hx => by
                by_cases hs : ρ.S γ x
                · refine .inr (Classical.byContradiction fun hn => notOld h1 hs hn (.inr (hSB t x hx).1))
                · exact .inl hs) (own_slab.2 ⟨sz', b4⟩)
            refine .inr ⟨sz1, Nat.succ ep, rws.set i (row.set k (.l rows')), by rw [h2]; simp only [hset], List.length_set, Nat.lt_succ_self _, fun j r r' hj hj' => ?_, sz3, c1, ?_⟩
            · rw [List.getElem?_set] at hj'
              by_cases hij : i = j
              · subst hij
                rw [if_pos rfl, if_pos (List.getElem?_eq_some_iff.1 hj).1] at hj'
                rw [e4] at hj
                cases hj; cases hj'
                exact List.length_set
              · rw [if_neg hij, hj] at hj'; cases hj'; rfl
            · exact Slab.imp c2 (fun x hx => ⟨t, _, h1, hx.elim (fun hx => .inr ⟨(fun e => by cases e), hx.1, hx.2⟩) .inl⟩) (fun _ _ _ => rfl) (fun _ _ _ _ hc => hc))
    exact ⟨ρ', r1, r2⟩
  cases d with
  | none =>
    obtain ⟨ρ', r1, _⟩ := hadopt (β := 0) (rcs := []) (us := #[]) (G := fun _ _ => False) (fun rc h => by cases h) trivial (fun _ _ h => h.elim) (fun _ _ _ h => h.elim) rfl (fun i rc u h => by simp at h)
    exact ⟨ρ', r1⟩
  | some d =>
    have hd' := hd d rfl
    simp only [Option.getD_some] at hfr
    cases res with
    | one rc =>
      have happ : rcABs (nameOf d) rc = rcsABs (nameOf d) [rc] := by simp [rcsABs]
      obtain ⟨ρ', h1, h2⟩ := hadopt (β := nameOf d) (rcs := [rc]) (us := #[v]) (G := fun i x => i = 0 ∧ SR x) (fun rc' hrc => by rw [List.mem_singleton.1 hrc]; exact hsm) (by rw [← happ]; exact hfr) (fun i x hx => hx.2) (fun i i' x h1 h2 => by rw [h1.1, h2.1]) rfl
        (fun i rc' u h1 h2 => by
          cases i with
          | zero =>
            cases h1; cases h2
            have : (fun x => (0 : Nat) = 0 ∧ SR x) = SR := by funext x; simp
            show RelRC w' _ (fun x => (0 : Nat) = 0 ∧ SR x) rc v
            rw [this]; exact hres
          | succ i => simp at h1)
      refine ⟨ρ', ?_⟩
      have h3 := RelAt.put (d := some d) (av := rcAV (nameOf d) rc) (v := v) h1 (fun t ht => by cases ht; exact hd') (by
        have := h2 0 rc v rfl rfl
        simp only [Nat.mul_zero, Nat.add_zero] at this
        cases hav : rcAV (nameOf d) rc with
        | one c => rw [hav] at this; exact this
        | agg cs => rw [hav] at this; exact this
        | tup vs => rw [hav] at this; exact this.elim)
      simp only [← happ] at h3
      exact h3
    | tup rcs =>
      obtain ⟨arr, G, rfl, h1, h2, h3, h4⟩ := hres
      obtain ⟨ρ', h5, h6⟩ := hadopt (β := nameOf d) (rcs := rcs) (us := arr) (G := G) (fun rc hrc => List.all_eq_true.1 hsm rc hrc) hfr h2 h3 h1 h4
      have hlenR : ∀ (rcs : List RC) (β : Nat), (rcsAVs β rcs).length = rcs.length := by
        intro rcs
        induction rcs with
        | nil => intro β; rfl
        | cons c cs ih => intro β; rw [rcsAVs, List.length_cons, List.length_cons, ih]
      have hgetR : ∀ (rcs : List RC) (β k : Nat) (c : AV), (rcsAVs β rcs)[k]? = some c → ∃ rc, rcs[k]? = some rc ∧ c = rcAV (β + 100 * k) rc := by
        intro rcs
        induction rcs with
        | nil => intro β k c hc; simp [rcsAVs] at hc
        | cons c0 cs ih =>
          intro β k c hc
          rw [rcsAVs] at hc
          cases k with
          | zero => cases hc; exact ⟨c0, rfl, rfl⟩
          | succ k =>
            obtain ⟨oc, h1, h2⟩ := ih (β + 100) k c (by simpa using hc)
            exact ⟨oc, by simpa using h1, by rw [h2]; congr 1; omega⟩
      refine ⟨ρ', RelAt.put (d := some d) (av := .tup (rcsAVs (nameOf d) rcs)) h5 (fun t ht => by cases ht; exact hd') ⟨arr, rfl, ?_, fun k c u hc hu => ?_⟩⟩
      · rw [h1, hlenR]
      · obtain ⟨rc, hrc, rfl⟩ := hgetR rcs _ k c hc
        exact h6 k rc u hrc hu
end
end Go.Sx
end
section
namespace Go.Sx
def PM (P : Program) (f : Nat) (args : List SV) (k e n : Nat) (D : DataW Unit) : Prop :=
  okF P f = true ∧ ∀ (N : Nat → Prop) (w : World) (vals : Array Value), ArgsR w N vals args → Calls P f vals w fun ex w' => ∃ b, ex = .returned (.map (some b)) ∧ Keep w w' (fun _ => False) ∧ w.heap.size ≤ b ∧ b < w'.heap.size ∧
    w'.ownsMap P k (plainElem P e) b n D
def CallM (P : Program) (σ : St) (d : Option Tmp) (f : Nat) (avs : List AV) (K : St → Prop) : Prop :=
  ∃ k e n D y, d = some y ∧ PM P f (avs.map (toSV σ.b)) k e n D ∧ allV (wfV σ.b) avs ∧ get σ.b (nameOf y) = none ∧ K ⟨(y, .one (.mx 0 (nameOf y))) :: σ.t, pset σ.b (nameOf y) (.mp k e n D none)⟩
section
variable {C : Ctx} {σ : St} {ρ : Env} {a : Act} {w w' : World}
theorem call_soundM (h : RelAt C σ ρ a w) {d : Option Tmp} {f : Nat} {avs : List AV} {vals : Array Value} {K : St → Prop} (hd : ∀ t, d = some t → t < C.T) (hk : CallM C.P σ d f avs K) (hs : vals.size = avs.length)
    (hv : ∀ (i : Nat) (av : AV) (v : Value), avs[i]? = some av → vals[i]? = some v → RelAV C w ρ σ.b av v) :
    okF C.P f = true ∧ Calls C.P f vals w fun e w' => ∃ v, e = .returned v ∧ ∃ σ', K σ' ∧ Rel C σ' (a.put d v) w' := by
  obtain ⟨k, e, n, D, y, rfl, ⟨hok, hpm⟩, hwf, hn, hK⟩ := hk
  refine ⟨hok, ?_⟩
  have hargs : ArgsR w (fun _ => True) vals (avs.map (toSV σ.b)) := ⟨by simp [hs], fun i sv v h1 h2 => by
    rw [List.getElem?_map] at h1
    cases ha : avs[i]? with
    | none => rw [ha] at h1; cases h1
    | some av => rw [ha] at h1; cases h1; exact repV_of h (hv i av v ha h2) (allV_get hwf i av ha)⟩
  refine (hpm _ w vals hargs).mono ?_
  rintro e' w' ⟨b, rfl, hkp, hb1, hb2, ho⟩
  refine ⟨_, rfl, _, hK, ?_⟩
  have hne : ∀ ab, ¬ get σ.b (nameOf y) = some ab := fun ab h => by rw [hn] at h; cases h
  have h1 := h.upd (β := nameOf y) (ms := []) (ab' := .mp k e n D none) (v' := .map (some b)) (S' := fun x => x = b) (w' := w') (hkp.mono fun _ _ h => h.elim)
    (fun x hx => ⟨by subst hx; exact hb2, .inl (by subst hx; exact hb1)⟩) (by simp) (fun ab hab => absurd hab (hne ab)) (fun E => by
      refine ⟨b, by simp [Env.upd], by simp [Env.upd], ho⟩) (fun ab hab => absurd hab (hne ab))
  simp only [killAll] at h1
  exact ⟨_, RelAt.put (d := some y) (av := .one (.mx 0 (nameOf y))) h1 (fun t ht => by cases ht; exact hd y rfl) ⟨rfl, _, by rw [get_pset, if_pos rfl], fun _ => by simp [Env.upd]⟩⟩
end
end Go.Sx
end
section
namespace Go.Sx
open Go.RowKit (Below)
section
variable {C : Ctx} {σ : St} {ρ : Env} {a : Act} {w w' : World}
theorem RelAt.adoptP (h : RelAt C σ ρ a w) {GS : Nat → Prop} (hk : Keep w w' GS) {L : List (Nat × AB)} {V : Nat → Value} {F : Nat → Nat → Prop}
    (hG : ∀ x, GS x → ∃ β ab, get σ.b β = some ab ∧ (get L β).isSome = true ∧ ρ.S β x)
    (hM : ∀ β ab', get L β = some ab' → get σ.b β = none ∨ (∃ ab, get σ.b β = some ab ∧ (∀ cs', ab' = .var cs' → (∃ cs, ab = .var cs) ∧ V β = ρ.v β) ∧ ∀ full' sz' ep' rows', ab' = .arr full' sz' ep' rows' → ∃ full sz ep rows, ab = .arr full sz ep rows ∧ rows'.length = rows.length ∧ ep < ep' ∧ V β = ρ.v β ∧ ∀ (i : Nat) (row row' : List Cell), rows[i]? = some row → rows'[i]? = some row' → row'.length = row.length))
    (hF : ∀ β ab x, get L β = some ab → F β x → (w.heap.size ≤ x ∨ GS x ∨ ∃ ab0, get σ.b β = some ab0 ∧ ρ.S β x) ∧ x < w'.heap.size)
    (hd : ∀ β β' ab ab' x, get L β = some ab → get L β' = some ab' → F β x → F β' x → β = β')
    (hkd : ∀ β ab, get L β = some ab → Go.Sx.kd ab < 2)
    (hL : Evo C w ρ σ.b w' ⟨fun β => if (get L β).isSome then V β else ρ.v β, fun β => if (get L β).isSome then F β else ρ.S β⟩ (L ++ σ.b) → ∀ β ab, get L β = some ab → RelAB C w' ⟨fun β => if (get L β).isSome then V β else ρ.v β, fun β => if (get L β).isSome then F β else ρ.S β⟩ (L ++ σ.b) β ab) :
    RelAt C ⟨σ.t, L ++ σ.b⟩ ⟨fun β => if (get L β).isSome then V β else ρ.v β, fun β => if (get L β).isSome then F β else ρ.S β⟩ a w' ∧
    Evo C w ρ σ.b w' ⟨fun β => if (get L β).isSome then V β else ρ.v β, fun β => if (get L β).isSome then F β else ρ.S β⟩ (L ++ σ.b) := by
  have src : ∀ β ab x, get (L ++ σ.b) β = some ab → (if (get L β).isSome then F β else ρ.S β) x → (get L β = some ab ∧ F β x) ∨ (get L β = none ∧ get σ.b β = some ab ∧ ρ.S β x) := fun β ab x hg hx => by
    rw [get_app'] at hg
    cases hl : get L β with
    | none => rw [hl] at hg hx; exact .inr ⟨rfl, hg, hx⟩
    | some ab' => rw [hl] at hg hx; cases hg; exact .inl ⟨rfl, hx⟩
  have notG : ∀ β ab x, get L β = none → get σ.b β = some ab → ρ.S β x → ¬ GS x := fun β ab x hn hg hx hgs => by
    obtain ⟨β', ab', h1, h2, h3⟩ := hG x hgs
    have := h.disj β β' ab ab' x hg h1 hx h3
    subst this
    rw [hn] at h2; cases h2
  have E : Evo C w ρ σ.b w' ⟨fun β => if (get L β).isSome then V β else ρ.v β, fun β => if (get L β).isSome then F β else ρ.S β⟩ (L ++ σ.b) := by
    refine ⟨fun x hx hB => ?_, fun β ab hg => ?_, fun β ab ab1 hg hg' hm => ?_⟩
    · have hnG : ¬ GS x := fun hgs => by
        obtain ⟨β', ab', h1, _, h3⟩ := hG x hgs
        exact hB.2 β' ab' h1 h3
      refine ⟨⟨hB.1, fun β ab hg hs => ?_⟩, hk.block x hx hnG⟩
      rcases src β ab x hg hs with ⟨h1, h2⟩ | ⟨_, h1, h2⟩
      · rcases (hF β ab x h1 h2).1 with h3 | h3 | ⟨ab0, h3, h4⟩
        · omega
        · exact hnG h3
        · exact hB.2 β ab0 h3 h4
      · exact hB.2 β ab h1 h2
    · cases hl : get L β with
      | none =>
        refine ⟨ab, by rw [get_app', hl]; exact hg, ?_⟩
        simp only [hl, Option.isSome_none, Bool.false_eq_true, if_false]
        refine ⟨fun cs' he => ⟨⟨cs', he⟩, trivial⟩, fun full sz ep rows he => ⟨full, sz, ep, rows, he, Nat.le_refl _, Nat.le_refl _, fun _ => ⟨trivial, fun i row row' h1 h2 => by rw [h1] at h2; cases h2; rfl⟩, fun _ => ⟨rfl, fun i k hL => ⟨hL, fun g row v hog hrow hc => ?_⟩⟩⟩⟩
        subst he
        have hS : ρ.S β g := by
          obtain ⟨sz', _, hslab⟩ := h.blks β _ hg
          obtain ⟨row0, rs, h1, h2⟩ := hL
          obtain ⟨g', cap, F', u, hv, hSg, _⟩ := slab_cell hslab h1 h2
          rw [hv] at hog
          cases hog
          exact hSg
        exact (World.cell?_of_block (hk.block g (World.block_lt_of_cell? w _ hc) (notG β _ g hl hg hS))).trans hc
      | some ab' =>
        refine ⟨ab', by rw [get_app', hl]; rfl, ?_⟩
        simp only [hl, Option.isSome_some, if_true]
        rcases hM β ab' hl with hn | ⟨ab0, h1, h2, h3⟩
        · rw [hn] at hg; cases hg
        · rw [hg] at h1
          cases h1
          refine ⟨fun cs' he => h2 cs' he, fun full' sz' ep' rows' he => ?_⟩
          obtain ⟨full, sz, ep, rows, e1, e2, e3, e4, e5⟩ := h3 _ _ _ _ he
          exact ⟨full, sz, ep, rows, e1, by omega, by omega, fun _ => ⟨e4, e5⟩, fun he => by omega⟩
    · rw [get_app'] at hg'
      cases hl : get L β with
      | none =>
        rw [hl] at hg'
        have : get σ.b β = some ab1 := hg'
        rw [hg] at this
        cases this
        simp only [hl, Option.isSome_none, Bool.false_eq_true, if_false]
        exact ⟨trivial, trivial⟩
      | some ab' =>
        rw [hl] at hg'
        cases hg'
        exact absurd hm (by have := hkd β _ hl; omega)
  refine ⟨h.next E (hk.mono (fun x _ hx => ?_)) (fun β ab hg => ?_) (fun β β' ab ab' x hg hg' hx hx' => ?_) (fun β ab x hg hx => ?_), E⟩
  · obtain ⟨β, ab, h1, _, h3⟩ := hG x hx
    exact ⟨β, ab, h1, h3⟩
  · rw [get_app'] at hg
    cases hl : get L β with
    | none =>
      rw [hl] at hg
      exact .inl ⟨hg, by simp [hl], by simp [hl], fun x hx => hk.block x (h.mine β ab x hg hx).1 (notG β ab x hl hg hx)⟩
    | some ab' =>
      rw [hl] at hg
      cases hg
      exact .inr (hL E β _ hl)
  · have cross : ∀ {β β' : Nat} {ab ab' : AB} {x : Nat}, get L β = some ab → F β x → get L β' = none → get σ.b β' = some ab' → ρ.S β' x → False := fun {β β' ab ab' x} h1 h2 h3 h4 h5 => by
      rcases (hF β ab x h1 h2).1 with h6 | h6 | ⟨ab0, h6, h7⟩
      · have := (h.mine β' ab' x h4 h5).1; omega
      · exact notG β' ab' x h3 h4 h5 h6
      · have := h.disj β β' ab0 ab' x h6 h4 h7 h5
        subst this
        rw [h1] at h3; cases h3
    rcases src β ab x hg hx with ⟨h1, h2⟩ | ⟨h0, h1, h2⟩ <;> rcases src β' ab' x hg' hx' with ⟨h1', h2'⟩ | ⟨h0', h1', h2'⟩
    · exact hd β β' _ _ x h1 h1' h2 h2'
    · exact (cross h1 h2 h0' h1' h2').elim
    · exact (cross h1' h2' h0 h1 h2).elim
    · exact h.disj β β' _ _ x h1 h1' h2 h2'
  · rcases src β ab x hg hx with ⟨h1, h2⟩ | ⟨_, h1, h2⟩
    · obtain ⟨h3, h4⟩ := hF β ab x h1 h2
      refine ⟨h4, ?_⟩
      rcases h3 with h3 | h3 | ⟨ab0, h3, h5⟩
      · exact .inl (Nat.le_trans h.keep.size h3)
      · obtain ⟨β', ab', h5, _, h6⟩ := hG x h3
        exact (h.mine β' ab' x h5 h6).2
      · exact (h.mine β ab0 x h3 h5).2
    · have := h.mine β ab x h1 h2
      exact ⟨Nat.lt_of_lt_of_le this.1 hk.size, this.2⟩
theorem adopt_rcsP (h : RelAt C σ ρ a w) {GS : Nat → Prop} (hk : Keep w w' GS) {T : List (Nat × AB)} {SB : Nat → Nat → Prop} {β : Nat} {rcs : List RC} {us : Array Value} {S : Nat → Prop} {G : Nat → Nat → Prop} {N : Nat → Prop} (hs : ∀ rc ∈ rcs, smallRC rc = true) (hf : freshIn σ.b (rcsABs β rcs))
    (hS : ∀ x, S x → (w.heap.size ≤ x ∨ GS x) ∧ x < w'.heap.size ∧ ∀ γ, ¬ SB γ x) (hG : ∀ i x, G i x → S x) (hGd : ∀ i i' x, G i x → G i' x → i = i') (hsz : us.size = rcs.length) (hr : ∀ (i : Nat) (rc : RC) (u : Value), rcs[i]? = some rc → us[i]? = some u → RelRC w' N (G i) rc u)
    (hN : ∀ x, N x → (Bor C ρ σ.b x ∨ w.heap.size ≤ x ∨ GS x) ∧ ¬ S x ∧ ∀ γ, ¬ SB γ x)
    (hGS : ∀ x, GS x → ∃ γ ab, get σ.b γ = some ab ∧ (get T γ).isSome = true ∧ ρ.S γ x)
    (hSB : ∀ γ x, SB γ x → (w.heap.size ≤ x ∨ GS x ∨ ∃ ab0, get σ.b γ = some ab0 ∧ ρ.S γ x) ∧ x < w'.heap.size) (hSBd : ∀ γ γ' x, SB γ x → SB γ' x → γ = γ')
    (hT : ∀ γ ab', get T γ = some ab' → (∃ full sz ep rows, get σ.b γ = some (.arr full sz ep rows) ∧ (ab' = .dead ∨ ∃ sz1 ep' rows', ab' = .arr full sz1 ep' rows' ∧ rows'.length = rows.length ∧ ep < ep' ∧ (∀ (i : Nat) (row row' : List Cell), rows[i]? = some row → rows'[i]? = some row' → row'.length = row.length) ∧
      ∃ sz', (sz1 ≠ 0 → sz' = sz1) ∧ Slab w' (match full with | true => Own w' | false => fun _ c u => Rep w' N c u) (SB γ) sz' rows' (ρ.v γ))) ∨
      ∃ cs0 acs' g ty j cs1, ∃ cells : Array Value, get σ.b γ = some (.var cs0) ∧ ab' = .var acs' ∧ ρ.v γ = .pointer (some ⟨g, 0, none⟩) ∧ SB γ g ∧ w'.heap[g]? = some (.cells cells ty (0, 0)) ∧ cells.size = acs'.length ∧ rcs[j]? = some (.own true cs1) ∧ us[j]? = some (.agg cells) ∧
        ∀ (k : Nat) (c : AC) (u : Value), acs'[k]? = some c → cells[k]? = some u → RelAC C w ρ σ.b c u ∨ ∃ oc, cs1[k]? = some oc ∧ c = ocAC (β + 100 * j + k) oc) :
    ∃ ρ', RelAt C ⟨σ.t, (rcsABs β rcs ++ T) ++ σ.b⟩ ρ' a w' ∧ Evo C w ρ σ.b w' ρ' ((rcsABs β rcs ++ T) ++ σ.b) ∧ ∀ (i : Nat) (rc : RC) (u : Value), rcs[i]? = some rc → us[i]? = some u → RelAV1 C w' ρ' ((rcsABs β rcs ++ T) ++ σ.b) (rcAV (β + 100 * i) rc) u := by
  have hch : ∀ i : Nat, ∃ (arr : Array Value) (F : Nat → Nat → Prop), ∀ (ag : Bool) (cs : List OC) (u : Value), rcs[i]? = some (.own ag cs) → us[i]? = some u → shape ag u arr ∧ arr.size = cs.length ∧ (∀ k x, F k x → G i x) ∧ (∀ k k' x, F k x → F k' x → k = k') ∧ ∀ (k : Nat) (c : OC) (v : Value), cs[k]? = some c → arr[k]? = some v → OwnOC w' (F k) c v := by
    intro i
    cases hrc : rcs[i]? with
    | none => exact ⟨#[], fun _ _ => False, fun ag cs u h1 => by cases h1⟩
    | some rc =>
      cases hu : us[i]? with
      | none => exact ⟨#[], fun _ _ => False, fun ag cs u _ h2 => by cases h2⟩
      | some u =>
        cases rc with
        | bor ag cs => exact ⟨#[], fun _ _ => False, fun ag cs u h1 => by cases h1⟩
        | own ag cs =>
          obtain ⟨arr, F, h1, h2, h3, h4, h5⟩ := hr i _ u hrc hu
          exact ⟨arr, F, fun ag' cs' u' e1 e2 => by cases e1; cases e2; exact ⟨h1, h2, h3, h4, h5⟩⟩
  have hA : ∃ (A : Nat → Array Value) (F : Nat → Nat → Nat → Prop), ∀ i, ∀ (ag : Bool) (cs : List OC) (u : Value), rcs[i]? = some (.own ag cs) → us[i]? = some u → shape ag u (A i) ∧ (A i).size = cs.length ∧ (∀ k x, F i k x → G i x) ∧ (∀ k k' x, F i k x → F i k' x → k = k') ∧ ∀ (k : Nat) (c : OC) (v : Value), cs[k]? = some c → (A i)[k]? = some v → OwnOC w' (F i k) c v :=
    ⟨fun i => Classical.choose (hch i), fun i => Classical.choose (Classical.choose_spec (hch i)), fun i => Classical.choose_spec (Classical.choose_spec (hch i))⟩
  obtain ⟨A, F, hA⟩ := hA
  have hus : ∀ {i : Nat} {rc : RC}, rcs[i]? = some rc → ∃ u, us[i]? = some u := fun {i rc} hi => by
    have : i < us.size := by rw [hsz]; exact (List.getElem?_eq_some_iff.1 hi).1
    exact ⟨us[i], by simp [this]⟩
  have hdiv : ∀ {γ i k : Nat}, γ = β + 100 * i + k → k < 100 → (γ - β) / 100 = i ∧ (γ - β) % 100 = k := fun {γ i k} h1 h2 => by omega
  have hfr : ∀ (L : List (Nat × AB)), freshIn σ.b L → ∀ β ab, get L β = some ab → get σ.b β = none := by
    intro L
    induction L with
    | nil => intro _ β ab h; cases h
    | cons p L ih =>
      obtain ⟨k, v⟩ := p
      intro hf β ab hg
      rw [get_cons'] at hg
      by_cases hk : k = β
      · rw [← hk]; exact hf.1
      · rw [if_neg hk] at hg; exact ih hf.2 β ab hg
  have two : ∀ γ ab, get (rcsABs β rcs ++ T) γ = some ab → (get (rcsABs β rcs) γ = some ab ∧ get σ.b γ = none) ∨ (get (rcsABs β rcs) γ = none ∧ get T γ = some ab) := fun γ ab hg => by
    rw [get_app'] at hg
    cases hl : get (rcsABs β rcs) γ with
    | none => rw [hl] at hg; exact .inr ⟨rfl, hg⟩
    | some ab' => rw [hl] at hg; cases hg; exact .inl ⟨rfl, hfr _ hf γ _ hl⟩
  have fS : ∀ γ ab x, get (rcsABs β rcs) γ = some ab → F ((γ - β) / 100) ((γ - β) % 100) x → S x := fun γ ab x hg hx => by
    obtain ⟨i, k, ag, cs, sz, rows, h1, h2, h3, h4, h5⟩ := rcs_get hs hg
    obtain ⟨u, hu⟩ := hus h3
    obtain ⟨e1, e2⟩ := hdiv h1 h2
    rw [e1, e2] at hx
    exact hG i x ((hA i ag cs u h3 hu).2.2.1 k x hx)
  generalize hVV : (fun γ => if (get (rcsABs β rcs) γ).isSome then ((A ((γ - β) / 100))[(γ - β) % 100]?).getD undef else ρ.v γ : Nat → Value) = VV
  generalize hFF : (fun γ => if (get (rcsABs β rcs) γ).isSome then F ((γ - β) / 100) ((γ - β) % 100) else SB γ : Nat → Nat → Prop) = FF
  have FFs : ∀ γ ab x, get (rcsABs β rcs ++ T) γ = some ab → FF γ x → S x ∨ SB γ x := fun γ ab x hg hx => by
    rw [← hFF] at hx
    rcases two γ ab hg with ⟨h1, _⟩ | ⟨h1, _⟩
    · rw [h1] at hx; exact .inl (fS γ ab x h1 hx)
    · rw [h1] at hx; exact .inr hx
  have hNB : ∀ x, N x → Bor C ⟨fun γ => if (get (rcsABs β rcs ++ T) γ).isSome then VV γ else ρ.v γ, fun γ => if (get (rcsABs β rcs ++ T) γ).isSome then FF γ else ρ.S γ⟩ ((rcsABs β rcs ++ T) ++ σ.b) x := fun x hx => by
    obtain ⟨h1, h2, h3⟩ := hN x hx
    refine ⟨?_, fun γ ab hg hS' => ?_⟩
    · rcases h1 with h1 | h1 | h1
      · exact h1.1
      · exact .inr (.inl (Nat.le_trans h.keep.size h1))
      · obtain ⟨γ, ab, h4, _, h5⟩ := hGS x h1
        exact .inr (h.mine γ ab x h4 h5).2
    · dsimp only at hS'
      rw [get_app'] at hg
      cases hl : get (rcsABs β rcs ++ T) γ with
      | some ab' =>
        rw [hl] at hS'
        rcases FFs γ ab' x hl hS' with h4 | h4
        · exact h2 h4
        · exact h3 γ h4
      | none =>
        rw [hl] at hg hS'
        rcases h1 with h1 | h1 | h1
        · exact h1.2 γ ab hg hS'
        · have := (h.mine γ ab x hg hS').1; omega
        · obtain ⟨γ', ab', h4, h5, h6⟩ := hGS x h1
          have := h.disj γ γ' ab ab' x hg h4 hS' h6
          subst this
          rw [get_app'] at hl
          cases hr' : get (rcsABs β rcs) γ with
          | none => rw [hr'] at hl; rw [show get T γ = none from hl] at h5; cases h5
          | some _ => rw [hr'] at hl; cases hl
  have hVn : ∀ {i k sz : Nat} {ag : Bool} {cs : List OC} {rows : List (List Cell)}, rcs[i]? = some (.own ag cs) → cs[k]? = some (.l sz rows) → (if (get (rcsABs β rcs ++ T) (β + 100 * i + k)).isSome then VV (β + 100 * i + k) else ρ.v (β + 100 * i + k)) = ((A i)[k]?).getD undef := fun {i k sz ag cs rows} h1 h2 => by
    have hk := (List.getElem?_eq_some_iff.1 h2).1
    have := small_spec (hs _ (List.mem_of_getElem? h1)) rfl
    obtain ⟨e1, e2⟩ := hdiv (γ := β + 100 * i + k) rfl (by omega)
    have e3 : (get (rcsABs β rcs ++ T) (β + 100 * i + k)).isSome = true := by rw [get_app', rcs_put hs h1 h2]; rfl
    rw [if_pos e3, ← hVV]
    simp only [rcs_put hs h1 h2, Option.isSome_some, if_true, e1, e2]
  have ocRel : ∀ {i k : Nat} {ag : Bool} {cs : List OC} {oc : OC} {u v : Value}, rcs[i]? = some (.own ag cs) → us[i]? = some u → cs[k]? = some oc → (A i)[k]? = some v → RelAC C w' ⟨fun γ => if (get (rcsABs β rcs ++ T) γ).isSome then VV γ else ρ.v γ, fun γ => if (get (rcsABs β rcs ++ T) γ).isSome then FF γ else ρ.S γ⟩ ((rcsABs β rcs ++ T) ++ σ.b) (ocAC (β + 100 * i + k) oc) v := fun {i k ag cs oc u v} hi hu hoc hv => by
    obtain ⟨a1, a2, a3, a4, a5⟩ := hA i ag cs u hi hu
    have h6 := a5 k oc v hoc hv
    cases oc with
    | s x => obtain ⟨rfl, h7⟩ := h6; exact .s _ h7
    | l sz rows =>
      obtain ⟨sz', hsz', hslab⟩ := h6
      obtain ⟨B1, cap, hv'⟩ := hslab.slice
      refine ⟨⟨B1, cap, hv'⟩, .arr true sz 0 rows, by rw [get_app', get_app', rcs_put hs hi hoc]; rfl, fun f' s' e' r' he => ?_⟩
      cases he
      refine ⟨Nat.le_refl _, fun _ => ?_⟩
      have := hVn hi hoc
      rw [hv] at this
      exact this.symm
  obtain ⟨hrel, E⟩ := h.adoptP hk (L := rcsABs β rcs ++ T) (V := VV) (F := FF)
    (fun x hx => by
      obtain ⟨γ, ab, h1, h2, h3⟩ := hGS x hx
      refine ⟨γ, ab, h1, ?_, h3⟩
      rw [get_app']
      cases get (rcsABs β rcs) γ with
      | some _ => rfl
      | none => exact h2)
    (fun γ ab' hg => by
      rcases two γ ab' hg with ⟨_, h2⟩ | ⟨h0, h2⟩
      · exact .inl h2
      · have hVg : VV γ = ρ.v γ := by rw [← hVV]; simp only [h0, Option.isSome_none, Bool.false_eq_true, if_false]
        rcases hT γ ab' h2 with ⟨full, sz, ep, rows, h3, h4⟩ | ⟨cs0, acs', g, ty, j, cs1, cells, h3, rfl, _⟩
        · refine .inr ⟨_, h3, fun cs' he => ?_, fun full' sz' ep' rows' he => ?_⟩
          · rcases h4 with h4 | ⟨_, _, _, h4, _⟩ <;> rw [h4] at he <;> cases he
          · rcases h4 with h4 | ⟨_, _, _, h4, h5, h6, h7, _⟩
            · rw [h4] at he; cases he
            · rw [h4] at he
              cases he
              exact ⟨full, sz, ep, rows, rfl, h5, h6, hVg, h7⟩
        · exact .inr ⟨_, h3, fun cs' he => ⟨⟨cs0, rfl⟩, hVg⟩, fun full' sz' ep' rows' he => by cases he⟩)
    (fun γ ab x hg hx => by
      rcases FFs γ ab x hg hx with h1 | h1
      · exact ⟨(hS x h1).1.imp id .inl, (hS x h1).2.1⟩
      · exact hSB γ x h1)
    (fun γ γ' ab ab' x hg hg' hx hx' => by
      rw [← hFF] at hx hx'
      rcases two γ ab hg with ⟨h1, _⟩ | ⟨h1, _⟩ <;> rcases two γ' ab' hg' with ⟨h1', _⟩ | ⟨h1', _⟩
      · rw [h1] at hx; rw [h1'] at hx'
        obtain ⟨i, k, ag, cs, sz, rows, a1, a2, a3, a4, a5⟩ := rcs_get hs h1
        obtain ⟨i', k', ag', cs', sz', rows', a1', a2', a3', a4', a5'⟩ := rcs_get hs h1'
        obtain ⟨u, hu⟩ := hus a3
        obtain ⟨u', hu'⟩ := hus a3'
        obtain ⟨e1, e2⟩ := hdiv a1 a2
        obtain ⟨e1', e2'⟩ := hdiv a1' a2'
        simp only [Option.isSome_some, if_true, e1, e2] at hx
        simp only [Option.isSome_some, if_true, e1', e2'] at hx'
        have hii := hGd i i' x ((hA i ag cs u a3 hu).2.2.1 k x hx) ((hA i' ag' cs' u' a3' hu').2.2.1 k' x hx')
        subst hii
        have := (hA i ag cs u a3 hu).2.2.2.1 k k' x hx hx'
        omega
      · rw [h1] at hx; rw [h1'] at hx'
        exact absurd hx' ((hS x (fS γ ab x h1 hx)).2.2 γ')
      · rw [h1] at hx; rw [h1'] at hx'
        exact absurd hx ((hS x (fS γ' ab' x h1' hx')).2.2 γ)
      · rw [h1] at hx; rw [h1'] at hx'
        exact hSBd γ γ' x hx hx')
    (fun γ ab hg => by
      rcases two γ ab hg with ⟨h1, _⟩ | ⟨h1, h2⟩
      · obtain ⟨i, k, ag, cs, sz, rows, b1, b2, b3, b4, b5⟩ := rcs_get hs h1
        subst b5; show (0 : Nat) < 2; omega
      · rcases hT γ ab h2 with ⟨full, sz, ep, rows, _, h4⟩ | ⟨cs0, acs', g, ty, j, cs1, cells, h3, rfl, _⟩
        · rcases h4 with rfl | ⟨sz1, ep', rows', rfl, _⟩ <;> (show (0 : Nat) < 2; omega)
        · show (1 : Nat) < 2; omega)
    (fun E γ ab hg => by
      have hsm : (get (rcsABs β rcs ++ T) γ).isSome = true := by rw [hg]; rfl
      rcases two γ ab hg with ⟨h1, _⟩ | ⟨h1, h2⟩
      · obtain ⟨i, k, ag, cs, sz, rows, b1, b2, b3, b4, b5⟩ := rcs_get hs h1
        obtain ⟨u, hu⟩ := hus b3
        obtain ⟨e1, e2⟩ := hdiv b1 b2
        obtain ⟨a1, a2, a3, a4, a5⟩ := hA i ag cs u b3 hu
        have hlt : k < (A i).size := by rw [a2]; exact (List.getElem?_eq_some_iff.1 b4).1
        have hs5 := a5 k _ (A i)[k] b4 (by simp [hlt])
        have e3 : VV γ = (A i)[k] := by rw [← hVV]; simp only [h1, Option.isSome_some, if_true, e1, e2, hlt, getElem?_pos, Option.getD_some]
        have e4 : FF γ = F i k := by rw [← hFF]; simp only [h1, Option.isSome_some, if_true, e1, e2]
        subst b5
        obtain ⟨sz', hsz', hs6⟩ := hs5
        refine ⟨sz', hsz', ?_⟩
        simp only [hsm, if_true, e3, e4]
        exact hs6
      · have e1 : VV γ = ρ.v γ := by rw [← hVV]; simp only [h1, Option.isSome_none, Bool.false_eq_true, if_false]
        have e2 : FF γ = SB γ := by rw [← hFF]; simp only [h1, Option.isSome_none, Bool.false_eq_true, if_false]
        rcases hT γ ab h2 with ⟨full, sz, ep, rows, _, h4⟩ | ⟨cs0, acs', g, ty, j, cs1, cells, h3, rfl, h5, h6, h7, h8, h9, h10, h11⟩
        · rcases h4 with rfl | ⟨sz1, ep', rows', rfl, _, _, _, sz', hsz', hslab⟩
          · trivial
          · refine ⟨sz', hsz', ?_⟩
            simp only [hsm, if_true, e1, e2]
            refine Slab.imp hslab (fun _ h => h) (fun _ _ _ => rfl) (fun F' c u _ hc => ?_)
            cases full with
            | true => exact hc
            | false => exact Rep.mono hc (fun x _ hx => hNB x hx)
        · refine ⟨g, cells, ty, ?_, ?_, h7, h8, fun k c u hc hu => ?_⟩
          · simp only [hsm, if_true, e1]; exact h5
          · simp only [hsm, if_true, e2]; exact h6
          · rcases h11 k c u hc hu with h12 | ⟨oc, h12, rfl⟩
            · exact RelAC.evo E h12
            · obtain ⟨a1, _⟩ := hA j true cs1 _ h9 h10
              have a1' : Value.agg cells = .agg (A j) := a1
              cases a1'
              exact ocRel h9 h10 h12 hu)
  generalize hρ' : (⟨fun γ => if (get (rcsABs β rcs ++ T) γ).isSome then VV γ else ρ.v γ, fun γ => if (get (rcsABs β rcs ++ T) γ).isSome then FF γ else ρ.S γ⟩ : Env) = ρ' at hrel E hNB
  have hVn' : ∀ {i k sz : Nat} {ag : Bool} {cs : List OC} {rows : List (List Cell)}, rcs[i]? = some (.own ag cs) → cs[k]? = some (.l sz rows) → ρ'.v (β + 100 * i + k) = ((A i)[k]?).getD undef := by rw [← hρ']; exact hVn
  refine ⟨ρ', hrel, E, fun i rc u hi hu => ?_⟩
  have relMk : ∀ (ag : Bool) (cs : List AC) (arr : Array Value), shape ag u arr → arr.size = cs.length → (∀ (k : Nat) (c : AC) (v : Value), cs[k]? = some c → arr[k]? = some v → RelAC C w' ρ' ((rcsABs β rcs ++ T) ++ σ.b) c v) → RelAV1 C w' ρ' ((rcsABs β rcs ++ T) ++ σ.b) (mkAV ag cs) u := by
    intro ag cs arr h1 h2 h3
    unfold mkAV
    cases ag with
    | true => exact ⟨arr, h1, h2, h3⟩
    | false =>
      have h1' : arr = #[u] := h1
      subst h1'
      match cs, h2, h3 with
      | [c], _, h3 => exact h3 0 c u rfl rfl
  cases rc with
  | bor ag cs =>
    obtain ⟨arr, h1, h2, h3⟩ := hr i _ u hi hu
    refine relMk ag (cs.map .b) arr h1 (by simp [h2]) (fun k c v hc hv => ?_)
    rw [List.getElem?_map] at hc
    cases hk2 : cs[k]? with
    | none => rw [hk2] at hc; cases hc
    | some c0 =>
      rw [hk2] at hc
      cases hc
      exact Rep.mono (h3 k c0 v hk2 hv) (fun x _ hx => hNB x hx)
  | own ag cs =>
    obtain ⟨a1, a2, a3, a4, a5⟩ := hA i ag cs u hi hu
    have hlenAC : ∀ (cs : List OC) (β : Nat), (ocACs β cs).length = cs.length := by
      intro cs
      induction cs with
      | nil => intro β; rfl
      | cons c cs ih => intro β; rw [ocACs, List.length_cons, List.length_cons, ih]
    have hgetAC : ∀ (cs : List OC) (β k : Nat) (c : AC), (ocACs β cs)[k]? = some c → ∃ oc, cs[k]? = some oc ∧ c = ocAC (β + k) oc := by
      intro cs
      induction cs with
      | nil => intro β k c hc; simp [ocACs] at hc
      | cons c0 cs ih =>
        intro β k c hc
        rw [ocACs] at hc
        cases k with
        | zero => cases hc; exact ⟨c0, rfl, rfl⟩
        | succ k =>
          obtain ⟨oc, h1, h2⟩ := ih (β + 1) k c (by simpa using hc)
          exact ⟨oc, by simpa using h1, by rw [h2]; congr 1; omega⟩
    refine relMk ag _ (A i) a1 (by rw [a2, hlenAC]) (fun k c v hc hv => ?_)
    obtain ⟨oc, hoc, rfl⟩ := hgetAC cs _ k c hc
    have h6 := a5 k oc v hoc hv
    cases oc with
    | s x => obtain ⟨rfl, h7⟩ := h6; exact .s _ h7
    | l sz rows =>
      obtain ⟨sz', hsz', hslab⟩ := h6
      obtain ⟨B1, cap, hv'⟩ := hslab.slice
      refine ⟨⟨B1, cap, hv'⟩, .arr true sz 0 rows, by rw [get_app', get_app', rcs_put hs hi hoc]; rfl, fun f' s' e' r' he => ?_⟩
      cases he
      refine ⟨Nat.le_refl _, fun _ => ?_⟩
      rw [hVn' hi hoc, hv]; rfl
end
def sameLens (rows rows' : List (List Cell)) : Prop := ∀ (i : Nat) (row row' : List Cell), rows[i]? = some row → rows'[i]? = some row' → row'.length = row.length
inductive PK where
  | k (c : Cell)
  | n (c c' : OC)
  | b (sz : Nat) (rows rows' : List (List Cell))
def CellP (w : World) (N F : Nat → Prop) : PK → Value → Prop
  | .k c, u => Rep w N c u
  | .n c _, u => OwnOC w F c u
  | .b sz rows _, u => OwnOC w F (.l sz rows) u
def OutP (w' : World) (F' : Nat → Prop) : PK → Value → Value → Prop
  | .k _, u, u' => u' = u
  | .n _ c', _, u' => OwnOC w' F' c' u'
  | .b sz rows rows', u, u' => u' = u ∧ rows'.length = rows.length ∧ sameLens rows rows' ∧ OwnOC w' F' (.l sz rows') u'
def PP (P : Program) (f p : Nat) (cs : List PK) (args : List SV) (res : Res) : Prop :=
  okF P f = true ∧ ∀ (N : Nat → Prop) (F : Nat → Nat → Prop) (w : World) (vals cells : Array Value) (g : Nat) (ty : TypeId),
    (∀ k x, F k x → x < w.heap.size ∧ ¬ N x ∧ x ≠ g) → ¬ N g → (∀ k k' x, F k x → F k' x → k = k') →
    w.heap[g]? = some (.cells cells ty (0, 0)) → cells.size = cs.length → (∀ (k : Nat) (c : PK) (u : Value), cs[k]? = some c → cells[k]? = some u → CellP w N (F k) c u) →
    vals.size = args.length → vals[p]? = some (.pointer (some ⟨g, 0, none⟩)) → (∀ (i : Nat) (sv : SV) (v : Value), i ≠ p → args[i]? = some sv → vals[i]? = some v → RepV w N sv v) →
    Calls P f vals w fun e w' => ∃ (v : Value) (SR : Nat → Prop) (F' : Nat → Nat → Prop) (cells' : Array Value) (ty' : TypeId), e = .returned v ∧ Keep w w' (fun x => x = g ∨ ∃ k, F k x) ∧
      w'.heap[g]? = some (.cells cells' ty' (0, 0)) ∧ cells'.size = cs.length ∧ (∀ (k : Nat) (c : PK) (u u' : Value), cs[k]? = some c → cells[k]? = some u → cells'[k]? = some u' → OutP w' (F' k) c u u') ∧
      RelRes w' (fun _ => True) SR res v ∧ (∀ x, SR x → (w.heap.size ≤ x ∨ ∃ k, F k x) ∧ x < w'.heap.size ∧ x ≠ g ∧ ∀ k, ¬ F' k x) ∧
      (∀ k x, F' k x → (w.heap.size ≤ x ∨ ∃ k, F k x) ∧ x < w'.heap.size ∧ x ≠ g) ∧ ∀ k k' x, F' k x → F' k' x → k = k'
def ninB : List Nat → Nat → Bool
  | [], _ => true
  | g :: l, γ => bif Nat.beq g γ then false else ninB l γ
theorem ninB_ok : ∀ {G : List Nat} {γ : Nat}, ninB G γ = true → γ ∉ G
  | [], γ, _ => by simp
  | g :: l, γ, h => by
    rw [ninB] at h
    cases hb : Nat.beq g γ with
    | true => rw [hb] at h; cases h
    | false =>
      rw [hb] at h
      intro hm
      rcases List.mem_cons.1 hm with rfl | hm
      · simp at hb
      · exact ninB_ok h hm
def okA (B : List (Nat × AB)) (G : List Nat) : AC → Prop
  | .b _ => True
  | .nil => True
  | .em => True
  | .h γ n => ninB G γ = true ∧ (match get B γ with | some (.arr _ _ _ rows) => n = rows.length | _ => False)
  | .mx m γ => m = 2 ∧ (match get B γ with | some (.kp _) => True | _ => False)
  | _ => False
def okAV (B : List (Nat × AB)) (G : List Nat) : AV → Prop
  | .one c => okA B G c
  | .agg cs => allC (okA B G) cs
  | .tup _ => False
def okArgs (B : List (Nat × AB)) (G : List Nat) : Nat → List AV → Prop
  | _, [] => True
  | 0, _ :: l => allV (okAV B G) l
  | p + 1, v :: l => okAV B G v ∧ okArgs B G p l
def mOC (B : List (Nat × AB)) : AC → OC → Prop
  | .b (.s v), .s v' => v = v'
  | .nil, .l _ rows => rows = []
  | .em, .l _ rows => rows = []
  | .h β n, .l sz rows => (match get B β with | some (.arr true sz' _ rows') => n = rows'.length ∧ rows' = rows ∧ (sz = sz' ∨ sz = 0) | _ => False)
  | _, _ => False
def pmC (B : List (Nat × AB)) (G : List Nat) : AC → PK → Prop
  | c, .k c' => okA B G c ∧ toC0 B c = c'
  | c, .n o _ => mOC B c o
  | .h γ n, .b sz rows _ => (match get B γ with | some (.arr true sz' _ rows') => n = rows'.length ∧ rows' = rows ∧ sz = sz' | _ => False)
  | _, _ => False
def pmCs (B : List (Nat × AB)) (G : List Nat) : List AC → List PK → Prop
  | [], [] => True
  | c :: l, p :: l' => pmC B G c p ∧ pmCs B G l l'
  | _, _ => False
def pgam : AC → PK → Option Nat
  | .h γ _, .n _ _ => some γ
  | .h γ _, .b _ _ _ => some γ
  | _, _ => none
def pgams : List AC → List PK → List Nat
  | c :: l, p :: l' => (match pgam c p with | some γ => γ :: pgams l l' | none => pgams l l')
  | _, _ => []
def pkOut : PK → OC
  | .n _ c' => c'
  | _ => .s (.bool false)
def pkACs : Nat → List AC → List PK → List AC
  | b, _ :: l, .n _ c' :: l' => ocAC b c' :: pkACs (b + 1) l l'
  | b, c :: l, _ :: l' => c :: pkACs (b + 1) l l'
  | _, _, _ => []
def pkTurn (B : List (Nat × AB)) : List AC → List PK → List (Nat × AB)
  | .h γ _ :: l, .n _ _ :: l' => (γ, .dead) :: pkTurn B l l'
  | .h γ _ :: l, .b _ _ rows' :: l' => (γ, match get B γ with | some (.arr full sz ep _) => .arr full sz (Nat.succ ep) rows' | _ => .dead) :: pkTurn B l l'
  | _ :: l, _ :: l' => pkTurn B l l'
  | _, _ => []
def resN : Res → Nat
  | .one _ => 1
  | .tup rcs => rcs.length
def pbase (d : Option Tmp) (res : Res) (e : Nat) : Nat := match d with | some d => nameOf d + 100 * resN res | none => e
def afterP (σ : St) (d : Option Tmp) (res : Res) (e β : Nat) (acs : List AC) (cs : List PK) : St := match d with
  | some d => ⟨(d, resAV (nameOf d) res) :: σ.t, ((resABs (nameOf d) res ++ ocABs (nameOf d + 100 * resN res) (cs.map pkOut)) ++ ((β, .var (pkACs (nameOf d + 100 * resN res) acs cs)) :: pkTurn σ.b acs cs)) ++ σ.b⟩
  | none => ⟨σ.t, (ocABs e (cs.map pkOut) ++ ((β, .var (pkACs e acs cs)) :: pkTurn σ.b acs cs)) ++ σ.b⟩
def newP (d : Option Tmp) (res : Res) (e : Nat) (cs : List PK) : List (Nat × AB) := match d with
  | some d => resABs (nameOf d) res ++ ocABs (nameOf d + 100 * resN res) (cs.map pkOut)
  | none => ocABs e (cs.map pkOut)
def CallP (P : Program) (σ : St) (d : Option Tmp) (f : Nat) (avs : List AV) (K : St → Prop) : Prop :=
  ∃ (p e β : Nat) (acs : List AC) (cs : List PK) (res : Res), PP P f p cs ((avs.map (toSV σ.b)).set p (.agg [])) res ∧ smallRes res = true ∧ hasBor res = false ∧ cs.length ≤ 100 ∧
    avs[p]? = some (.one (.a β 0)) ∧ get σ.b β = some (.var acs) ∧ pmCs σ.b (pgams acs cs) acs cs ∧ (pgams acs cs).Nodup ∧ okArgs σ.b (pgams acs cs) p avs ∧ freshIn σ.b (newP d res e cs) ∧ K (afterP σ d res e β acs cs)
section
variable {C : Ctx} {σ : St} {ρ : Env} {a : Act} {w w' : World}
theorem slab_repN {full : Bool} {S N : Nat → Prop} {sz : Nat} {rows : List (List Cell)} {v : Value} {B : List (Nat × AB)} (h : Slab w (CC C w ρ B full) S sz rows v) (hS : ∀ x, S x → N x) (hB : ∀ x, Bor C ρ B x → N x) : Rep w N (.l rows) v := by
  rcases h with ⟨rfl, A, rfl⟩ | ⟨e, xs, u, F, h⟩
  · exact .l 0 [] A 0 (fun _ _ => undef) (by simp) (Nat.le_refl _) (fun _ => rfl) (fun j k hj => by simp at hj) (fun j k row c h1 => by simp at h1)
  · have hr' : ∀ j k row c, rows[j]? = some row → row[k]? = some c → Rep w N c (u j k) := fun j k row c h1 h2 => by
      have := h.hr j k row c h1 h2
      cases full with
      | true => exact Own.rep this (fun x hx => hS x (h.hF j k x hx).1)
      | false => exact Rep.mono this (fun x _ hx => hB x hx)
    rcases h.ho.2 with ⟨rfl, h0⟩ | ⟨g, cap, cur, rfl, hbg, hg, hnc, hcm, hcs, htake⟩
    · have : rows = [] := List.eq_nil_of_length_eq_zero h0
      subst this
      exact .l sz [] none 0 u h.hz (Nat.le_refl _) (fun _ => rfl) (fun j k hj => by simp at hj) hr'
    · refine .l sz rows (some ⟨g, 0, none⟩) cap u h.hz hnc (fun h => by cases h) (fun j k hj hk => ⟨⟨g, 0, none⟩, rfl, hS g (h.hS g rfl), ?_⟩) hr'
      rw [add_plain, cell_of_row w g _ cur e (0, 0) hg]
      have h1 := h.hu j k hj hk
      rw [← htake, List.getElem?_take, if_pos (idx_lt hj hk)] at h1
      simpa using h1
def Nx (C : Ctx) (ρ : Env) (B : List (Nat × AB)) (G : List Nat) (β : Nat) (x : Nat) : Prop := Bor C ρ B x ∨ ∃ γ ab, get B γ = some ab ∧ γ ∉ G ∧ γ ≠ β ∧ ρ.S γ x
theorem rep_okA (h : RelAt C σ ρ a w) {G : List Nat} {β : Nat} {acs : List AC} (hβ : get σ.b β = some (.var acs)) {c : AC} {v : Value} (hv : RelAC C w ρ σ.b c v) (hw : okA σ.b G c) : Rep w (Nx C ρ σ.b G β) (toC0 σ.b c) v := by
  cases c with
  | b c => exact Rep.mono hv (fun x _ hx => .inl hx)
  | nil => cases hv; exact .l 0 [] none 0 (fun _ _ => undef) (by simp) (Nat.le_refl _) (fun _ => rfl) (fun j k hj => by simp at hj) (fun j k row c h1 => by simp at h1)
  | em => obtain ⟨A, rfl⟩ := hv; exact .l 0 [] A 0 (fun _ _ => undef) (by simp) (Nat.le_refl _) (fun _ => rfl) (fun j k hj => by simp at hj) (fun j k row c h1 => by simp at h1)
  | h γ n =>
    simp only [okA] at hw
    obtain ⟨hG, hw⟩ := hw
    have hG := ninB_ok hG
    simp only [toC0]
    split at hw
    · rename_i full sz ep rows hγ
      obtain ⟨_, ab, hg, h2⟩ := hv
      rw [hγ] at hg
      cases hg
      rw [(h2 _ _ _ _ rfl).2 hw]
      obtain ⟨sz', _, hs⟩ := h.blks γ _ hγ
      have hne : γ ≠ β := fun e => by rw [e, hβ] at hγ; cases hγ
      simp only [hγ]
      exact slab_repN hs (fun x hx => .inr ⟨γ, _, hγ, hG, hne, hx⟩) (fun x hx => .inl hx)
    · exact hw.elim
  | mx m γ =>
    simp only [okA] at hw
    obtain ⟨rfl, hw⟩ := hw
    simp only [toC0]
    split at hw
    · rename_i c0 hγ
      obtain ⟨_, ab, hg, h2⟩ := hv
      rw [hγ] at hg
      cases hg
      have hb : Rep w (Bor C ρ σ.b) c0 (ρ.v γ) := h.blks γ _ hγ
      simp only [hγ]
      rw [h2 rfl]; exact Rep.mono hb (fun x _ hx => .inl hx)
    · exact hw.elim
  | _ => exact hw.elim
theorem toC_okA {B : List (Nat × AB)} {G : List Nat} {c : AC} (hw : okA B G c) : toC B c = toC0 B c := by
  cases c <;> first | rfl | exact hw.elim
theorem repV_okA (h : RelAt C σ ρ a w) {G : List Nat} {β : Nat} {acs : List AC} (hβ : get σ.b β = some (.var acs)) {av : AV} {v : Value} (hv : RelAV C w ρ σ.b av v) (hw : okAV σ.b G av) : RepV w (Nx C ρ σ.b G β) (toSV σ.b av) v := by
  cases av with
  | one c =>
    show Rep w _ (toC σ.b c) v
    rw [toC_okA hw]
    exact rep_okA h hβ hv hw
  | agg cs =>
    obtain ⟨arr, rfl, h1, h2⟩ := hv
    refine ⟨arr, rfl, by simp [h1], fun k c u hc hu => ?_⟩
    rw [List.getElem?_map] at hc
    cases hk : cs[k]? with
    | none => rw [hk] at hc; cases hc
    | some ac =>
      rw [hk] at hc
      cases hc
      have := allC_get hw k ac hk
      rw [toC_okA this]
      exact rep_okA h hβ (h2 k ac u hk hu) this
  | tup vs => exact hw.elim
theorem okArgs_get {B : List (Nat × AB)} {G : List Nat} : ∀ {p : Nat} {avs : List AV}, okArgs B G p avs → ∀ (i : Nat) (av : AV), i ≠ p → avs[i]? = some av → okAV B G av
  | _, [], _, i, av, _, h => by simp at h
  | 0, v :: l, hw, i, av, hi, h => by
    cases i with
    | zero => exact absurd rfl hi
    | succ i => exact allV_get hw i av (by simpa using h)
  | p + 1, v :: l, hw, i, av, hi, h => by
    cases i with
    | zero => cases h; exact hw.1
    | succ i => exact okArgs_get hw.2 i av (by omega) (by simpa using h)
theorem pmCs_get {B : List (Nat × AB)} {G : List Nat} : ∀ {acs : List AC} {cs : List PK}, pmCs B G acs cs → acs.length = cs.length ∧ ∀ (k : Nat) (p : PK), cs[k]? = some p → ∃ c, acs[k]? = some c ∧ pmC B G c p
  | [], [], _ => ⟨rfl, fun t g h => by simp at h⟩
  | c :: cs, g :: gs, h => by
    obtain ⟨h1, h2⟩ := pmCs_get h.2
    refine ⟨by simp [h1], fun t g' hg => ?_⟩
    cases t with
    | zero => cases hg; exact ⟨c, rfl, h.1⟩
    | succ t => simpa using h2 t g' (by simpa using hg)
  | [], _ :: _, h => h.elim
  | _ :: _, [], h => h.elim
theorem pgams_mem : ∀ {acs : List AC} {cs : List PK} {k γ : Nat} {c : AC} {p : PK}, acs[k]? = some c → cs[k]? = some p → pgam c p = some γ → γ ∈ pgams acs cs
  | [], cs, k, γ, c, p, h, _, _ => by simp at h
  | _ :: _, [], k, γ, c, p, _, h, _ => by simp at h
  | c0 :: l, p0 :: l', k, γ, c, p, h, h', hg => by
    cases k with
    | zero => cases h; cases h'; simp [pgams, hg]
    | succ k =>
      have := pgams_mem (acs := l) (cs := l') (by simpa using h) (by simpa using h') hg
      rw [pgams]
      split
      · exact List.mem_cons_of_mem _ this
      · exact this
theorem pgams_inj : ∀ {acs : List AC} {cs : List PK}, (pgams acs cs).Nodup → ∀ {k k' γ : Nat} {c c' : AC} {p p' : PK}, acs[k]? = some c → cs[k]? = some p → pgam c p = some γ → acs[k']? = some c' → cs[k']? = some p' → pgam c' p' = some γ → k = k'
  | [], cs, _, k, k', γ, c, c', p, p', h, _, _, _, _, _ => by simp at h
  | _ :: _, [], _, k, k', γ, c, c', p, p', _, h, _, _, _, _ => by simp at h
  | c0 :: l, p0 :: l', hn, k, k', γ, c, c', p, p', h1, h2, h3, h1', h2', h3' => by
    have htail : (pgams l l').Nodup := by
      rw [pgams] at hn
      split at hn
      · exact (List.nodup_cons.1 hn).2
      · exact hn
    have hhead : pgam c0 p0 = some γ → γ ∉ pgams l l' := fun hx => by
      rw [pgams, hx] at hn; exact (List.nodup_cons.1 hn).1
    cases k with
    | zero =>
      cases h1; cases h2
      cases k' with
      | zero => rfl
      | succ k' => exact absurd (pgams_mem (by simpa using h1') (by simpa using h2') h3') (hhead h3)
    | succ k =>
      cases k' with
      | zero => cases h1'; cases h2'; exact absurd (pgams_mem (by simpa using h1) (by simpa using h2) h3) (hhead h3')
      | succ k' => exact congrArg (· + 1) (pgams_inj htail (by simpa using h1) (by simpa using h2) h3 (by simpa using h1') (by simpa using h2') h3')
theorem pkTurn_get {B : List (Nat × AB)} : ∀ {acs : List AC} {cs : List PK} {γ : Nat} {ab : AB}, get (pkTurn B acs cs) γ = some ab → ∃ (k n : Nat) (p : PK), acs[k]? = some (.h γ n) ∧ cs[k]? = some p ∧ ((∃ o o', p = .n o o' ∧ ab = .dead) ∨ ∃ sz rows rows', p = .b sz rows rows' ∧ ab = (match get B γ with | some (.arr full sz ep _) => .arr full sz (Nat.succ ep) rows' | _ => .dead))
  | [], cs, γ, ab, h => by simp [pkTurn, get] at h
  | c :: l, [], γ, ab, h => by cases c <;> simp [pkTurn, get] at h
  | c :: l, p :: l', γ, ab, h => by
    have step : get (pkTurn B l l') γ = some ab → ∃ (k n : Nat) (p' : PK), (c :: l)[k]? = some (.h γ n) ∧ (p :: l')[k]? = some p' ∧ ((∃ o o', p' = .n o o' ∧ ab = .dead) ∨ ∃ sz rows rows', p' = .b sz rows rows' ∧ ab = (match get B γ with | some (.arr full sz ep _) => .arr full sz (Nat.succ ep) rows' | _ => .dead)) := fun h => by
      obtain ⟨k, n, p', h1, h2, h3⟩ := pkTurn_get h
      exact ⟨k + 1, n, p', by simpa using h1, by simpa using h2, h3⟩
    cases c with
    | h γ' n =>
      cases p with
      | k c' => exact step h
      | n o o' =>
        rw [pkTurn, get_cons'] at h
        by_cases hg : γ' = γ
        · subst hg; rw [if_pos rfl] at h; cases h; exact ⟨0, n, _, rfl, rfl, .inl ⟨o, o', rfl, rfl⟩⟩
        · rw [if_neg hg] at h; exact step h
      | b sz rows rows' =>
        rw [pkTurn, get_cons'] at h
        by_cases hg : γ' = γ
        · subst hg; rw [if_pos rfl] at h; cases h; exact ⟨0, n, _, rfl, rfl, .inr ⟨sz, rows, rows', rfl, rfl⟩⟩
        · rw [if_neg hg] at h; exact step h
    | _ => exact step h
theorem pkTurn_some {B : List (Nat × AB)} : ∀ {acs : List AC} {cs : List PK} {k γ : Nat} {c : AC} {p : PK}, acs[k]? = some c → cs[k]? = some p → pgam c p = some γ → (get (pkTurn B acs cs) γ).isSome = true
  | [], cs, k, γ, c, p, h, _, _ => by simp at h
  | _ :: _, [], k, γ, c, p, _, h, _ => by simp at h
  | c0 :: l, p0 :: l', k, γ, c, p, h, h', hg => by
    have step : (get (pkTurn B l l') γ).isSome = true → (get (pkTurn B (c0 :: l) (p0 :: l')) γ).isSome = true := fun hs => by
      cases c0 with
      | h γ' n =>
        cases p0 with
        | k c' => exact hs
        | n o o' => rw [pkTurn, get_cons']; split <;> first | rfl | exact hs
        | b sz rows rows' => rw [pkTurn, get_cons']; split <;> first | rfl | exact hs
      | _ => exact hs
    cases k with
    | zero =>
      cases h; cases h'
      cases c0 with
      | h γ' n =>
        cases p0 with
        | k c' => cases hg
        | n o o' => cases hg; rw [pkTurn, get_cons', if_pos rfl]; rfl
        | b sz rows rows' => cases hg; rw [pkTurn, get_cons', if_pos rfl]; rfl
      | _ => cases p0 <;> cases hg
    | succ k => exact step (pkTurn_some (by simpa using h) (by simpa using h') hg)
theorem pkACs_len : ∀ (b : Nat) (acs : List AC) (cs : List PK), acs.length = cs.length → (pkACs b acs cs).length = cs.length
  | _, [], [], _ => rfl
  | b, c :: l, p :: l', h => by
    have := pkACs_len (b + 1) l l' (by simpa using h)
    cases p <;> simp [pkACs, this]
  | _, [], _ :: _, h => by simp at h
  | _, _ :: _, [], h => by simp at h
theorem pkACs_get : ∀ {b : Nat} {acs : List AC} {cs : List PK} {k : Nat} {c : AC}, (pkACs b acs cs)[k]? = some c → ∃ c0 p, acs[k]? = some c0 ∧ cs[k]? = some p ∧ ((∃ o c', p = .n o c' ∧ c = ocAC (b + k) c') ∨ ((∀ o c', p ≠ .n o c') ∧ c = c0))
  | b, [], cs, k, c, h => by simp [pkACs] at h
  | b, _ :: _, [], k, c, h => by simp [pkACs] at h
  | b, c0 :: l, p :: l', k, c, h => by
    cases k with
    | zero =>
      refine ⟨c0, p, rfl, rfl, ?_⟩
      cases p with
      | n o c' => cases h; exact .inl ⟨o, c', rfl, rfl⟩
      | k c' => cases h; exact .inr ⟨(fun _ _ h => by cases h), rfl⟩
      | b sz rows rows' => cases h; exact .inr ⟨(fun _ _ h => by cases h), rfl⟩
    | succ k =>
      have h' : (pkACs (b + 1) l l')[k]? = some c := by cases p <;> simpa [pkACs] using h
      obtain ⟨c1, p1, h1, h2, h3⟩ := pkACs_get h'
      refine ⟨c1, p1, by simpa using h1, by simpa using h2, ?_⟩
      rcases h3 with ⟨o, c', rfl, rfl⟩ | h3
      · exact .inl ⟨o, c', rfl, by congr 1; omega⟩
      · exact .inr h3
def csv : List PK → List Value → List OC
  | .n _ c' :: l, _ :: vs => c' :: csv l vs
  | _ :: l, v :: vs => .s v :: csv l vs
  | _, _ => []
theorem csv_len : ∀ (cs : List PK) (vs : List Value), vs.length = cs.length → (csv cs vs).length = cs.length
  | [], [], _ => rfl
  | p :: l, v :: vs, h => by
    have := csv_len l vs (by simpa using h)
    cases p <;> simp [csv, this]
  | [], _ :: _, h => by simp at h
  | _ :: _, [], h => by simp at h
theorem csv_abs : ∀ (b : Nat) (cs : List PK) (vs : List Value), vs.length = cs.length → ocABs b (csv cs vs) = ocABs b (cs.map pkOut)
  | _, [], [], _ => rfl
  | b, p :: l, v :: vs, h => by
    have := csv_abs (b + 1) l vs (by simpa using h)
    cases p with
    | n o c' => cases c' <;> simp [csv, pkOut, ocABs, this]
    | k c' => simp [csv, pkOut, ocABs, this]
    | b sz rows rows' => simp [csv, pkOut, ocABs, this]
  | _, [], _ :: _, h => by simp at h
  | _, _ :: _, [], h => by simp at h
theorem csv_get : ∀ {cs : List PK} {vs : List Value} {k : Nat} {oc : OC}, (csv cs vs)[k]? = some oc → ∃ p v, cs[k]? = some p ∧ vs[k]? = some v ∧ ((∃ o c', p = .n o c' ∧ oc = c') ∨ ((∀ o c', p ≠ .n o c') ∧ oc = .s v))
  | [], vs, k, oc, h => by cases vs <;> simp [csv] at h
  | _ :: _, [], k, oc, h => by simp [csv] at h
  | p :: l, v :: vs, k, oc, h => by
    cases k with
    | zero =>
      refine ⟨p, v, rfl, rfl, ?_⟩
      cases p with
      | n o c1 => cases h; exact .inl ⟨o, _, rfl, rfl⟩
      | k c' => cases h; exact .inr ⟨(fun _ _ h => by cases h), rfl⟩
      | b sz rows rows' => cases h; exact .inr ⟨(fun _ _ h => by cases h), rfl⟩
    | succ k =>
      have h' : (csv l vs)[k]? = some oc := by cases p <;> simpa [csv] using h
      obtain ⟨p1, v1, h1, h2, h3⟩ := csv_get h'
      exact ⟨p1, v1, by simpa using h1, by simpa using h2, h3⟩
theorem csv_put : ∀ {cs : List PK} {vs : List Value} {k : Nat} {o c' : OC}, vs.length = cs.length → cs[k]? = some (.n o c') → (csv cs vs)[k]? = some c'
  | [], vs, k, o, c', _, h => by simp at h
  | _ :: _, [], k, o, c', hl, h => by simp at hl
  | p :: l, v :: vs, k, o, c', hl, h => by
    cases k with
    | zero => cases h; rfl
    | succ k =>
      have := csv_put (cs := l) (vs := vs) (k := k) (by simpa using hl) (by simpa using h)
      cases p <;> simpa [csv] using this
theorem rcsABs_snoc : ∀ (rcs : List RC) (b : Nat) (cs : List OC), rcsABs b (rcs ++ [.own true cs]) = rcsABs b rcs ++ ocABs (b + 100 * rcs.length) cs
  | [], b, cs => by simp [rcsABs, rcABs]
  | rc :: rcs, b, cs => by
    rw [List.cons_append, rcsABs, rcsABs, rcsABs_snoc rcs (b + 100) cs, List.append_assoc]
    congr 3
    simp only [List.length_cons]; omega
theorem own_mOC (h : RelAt C σ ρ a w) {c : AC} {o : OC} {u : Value} (hrel : RelAC C w ρ σ.b c u) (hm : mOC σ.b c o) : OwnOC w (fun x => ∃ γ n, c = .h γ n ∧ ρ.S γ x) o u := by
  cases o with
  | s v' =>
    cases c with
    | b c0 =>
      cases c0 with
      | s v0 => have hm' : v0 = v' := hm; subst hm'; cases hrel with | s _ h9 => exact ⟨rfl, h9⟩
      | _ => exact hm.elim
    | _ => exact hm.elim
  | l sz rows =>
    cases c with
    | b c0 => cases c0 <;> exact hm.elim
    | nil => cases hrel; have hm' : rows = [] := hm; subst hm'; exact ⟨sz, fun _ => rfl, .inl ⟨rfl, none, rfl⟩⟩
    | em => obtain ⟨A, rfl⟩ := hrel; have hm' : rows = [] := hm; subst hm'; exact ⟨sz, fun _ => rfl, .inl ⟨rfl, A, rfl⟩⟩
    | h β n =>
      simp only [mOC] at hm
      split at hm
      · rename_i sz' ep rows' hβ
        obtain ⟨rfl, rfl, hsz⟩ := hm
        obtain ⟨_, ab, hg, h9⟩ := hrel
        rw [hβ] at hg
        cases hg
        rw [(h9 true sz' ep rows' rfl).2 rfl]
        obtain ⟨sz1, hsz1, hslab⟩ := h.blks β _ hβ
        refine ⟨sz1, fun hne => ?_, Slab.imp hslab (fun x hx => ⟨β, _, rfl, hx⟩) (fun _ _ _ => rfl) (fun F c u _ hc => hc)⟩
        rcases hsz with rfl | rfl
        · exact hsz1 hne
        · exact absurd rfl hne
      · exact hm.elim
    | _ => exact hm.elim
theorem mOC_arr {B : List (Nat × AB)} {γ n : Nat} {o : OC} (hm : mOC B (.h γ n) o) : ∃ sz ep rows, get B γ = some (.arr true sz ep rows) := by
  cases o with
  | s v => exact hm.elim
  | l sz rows =>
    simp only [mOC] at hm
    split at hm
    · rename_i sz' ep rows' hβ; exact ⟨_, _, _, hβ⟩
    · exact hm.elim
theorem call_soundP (h : RelAt C σ ρ a w) {d : Option Tmp} {f : Nat} {avs : List AV} {vals : Array Value} {K : St → Prop} (hd : ∀ t, d = some t → t < C.T) (hk : CallP C.P σ d f avs K) (hs : vals.size = avs.length)
    (hv : ∀ (i : Nat) (av : AV) (v : Value), avs[i]? = some av → vals[i]? = some v → RelAV C w ρ σ.b av v) :
    okF C.P f = true ∧ Calls C.P f vals w fun e w' => ∃ v, e = .returned v ∧ ∃ σ', K σ' ∧ Rel C σ' (a.put d v) w' := by
  obtain ⟨p, e0, β, acs, cs, res, ⟨hok, hpc⟩, hsm, hbor, hc100, hp, hβ, hpm, hnd, hokA, hfr, hK⟩ := hk
  refine ⟨hok, ?_⟩
  obtain ⟨hlen, hpm'⟩ := pmCs_get hpm
  have hplt : p < vals.size := by rw [hs]; exact (List.getElem?_eq_some_iff.1 hp).1
  obtain ⟨ab, g, hgβ, hptr, h2⟩ := hv p _ vals[p] hp (by simp [hplt])
  rw [hβ] at hgβ
  cases hgβ
  obtain ⟨g', cells, ty, h3, hSg, h5, h6, h7⟩ := h.blks β _ hβ
  have hvβ := h2 acs rfl
  rw [hvβ] at h3
  cases h3
  generalize hG : pgams acs cs = G at hpm hnd hokA hpm'
  generalize hF : (fun (k : Nat) (x : Nat) => ∃ c q γ, acs[k]? = some c ∧ cs[k]? = some q ∧ pgam c q = some γ ∧ ρ.S γ x) = F
  have harr : ∀ {k γ : Nat} {c : AC} {q : PK}, acs[k]? = some c → cs[k]? = some q → pgam c q = some γ → ∃ n sz ep rows, c = .h γ n ∧ get σ.b γ = some (.arr true sz ep rows) := fun {k γ c q} h1 h2 h3 => by
    obtain ⟨c', h4, h5⟩ := hpm' k q h2
    rw [h1] at h4
    cases h4
    cases c with
    | h γ' n =>
      cases q with
      | k c' => cases h3
      | n o o' => cases h3; obtain ⟨sz, ep, rows, h6⟩ := mOC_arr h5; exact ⟨n, sz, ep, rows, rfl, h6⟩
      | b sz rows rows' =>
        cases h3
        simp only [pmC] at h5
        split at h5
        · rename_i sz' ep rows'' h6; exact ⟨n, _, _, _, rfl, h6⟩
        · exact h5.elim
    | _ => cases q <;> cases h3
  have hneβ : ∀ {k γ : Nat} {c : AC} {q : PK}, acs[k]? = some c → cs[k]? = some q → pgam c q = some γ → γ ≠ β := fun {k γ c q} h1 h2 h3 he => by
    obtain ⟨n, sz, ep, rows, _, h4⟩ := harr h1 h2 h3
    rw [he, hβ] at h4; cases h4
  have hFg : ∀ k x, F k x → ∃ γ ab, get σ.b γ = some ab ∧ γ ∈ G ∧ γ ≠ β ∧ ρ.S γ x := fun k x hx => by
    rw [← hF] at hx
    obtain ⟨c, q, γ, h1, h2, h3, h4⟩ := hx
    obtain ⟨n, sz, ep, rows, _, h5⟩ := harr h1 h2 h3
    exact ⟨γ, _, h5, by rw [← hG]; exact pgams_mem h1 h2 h3, hneβ h1 h2 h3, h4⟩
  have hFd : ∀ k k' x, F k x → F k' x → k = k' := fun k k' x hx hx' => by
    rw [← hF] at hx hx'
    obtain ⟨c, q, γ, h1, h2, h3, h4⟩ := hx
    obtain ⟨c', q', γ', h1', h2', h3', h4'⟩ := hx'
    obtain ⟨n, sz, ep, rows, _, h5⟩ := harr h1 h2 h3
    obtain ⟨n', sz', ep', rows', _, h5'⟩ := harr h1' h2' h3'
    have := h.disj γ γ' _ _ x h5 h5' h4 h4'
    subst this
    exact pgams_inj (by rw [hG]; exact hnd) h1 h2 h3 h1' h2' h3'
  have hxg : ∀ {γ : Nat} {ab : AB}, get σ.b γ = some ab → γ ≠ β → ¬ ρ.S γ g := fun {γ ab} h1 h2 h3 => h2 (h.disj γ β ab _ g h1 hβ h3 hSg)
  have hF1 : ∀ k x, F k x → x < w.heap.size ∧ ¬ Nx C ρ σ.b G β x ∧ x ≠ g := fun k x hx => by
    obtain ⟨γ, ab, h1, h2, h3, h4⟩ := hFg k x hx
    refine ⟨(h.mine γ ab x h1 h4).1, fun hN => ?_, fun he => ?_⟩
    · rcases hN with hN | ⟨γ', ab', h5, h6, h7, h8⟩
      · exact hN.2 γ ab h1 h4
      · have := h.disj γ γ' _ _ x h1 h5 h4 h8
        subst this
        exact h6 h2
    · rw [he] at h4; exact hxg h1 h3 h4
  have hNg : ¬ Nx C ρ σ.b G β g := fun hN => by
    rcases hN with hN | ⟨γ', ab', h5, h6, h7, h8⟩
    · exact hN.2 β _ hβ hSg
    · exact hxg h5 h7 h8
  have hsz : cells.size = cs.length := by rw [h6, hlen]
  have hcell : ∀ (k : Nat) (c : PK) (u : Value), cs[k]? = some c → cells[k]? = some u → CellP w (Nx C ρ σ.b G β) (F k) c u := fun k q u hq hu => by
    obtain ⟨c, hc, hm⟩ := hpm' k q hq
    have hrel := h7 k c u hc hu
    cases q with
    | k c' => obtain ⟨hm1, rfl⟩ : okA σ.b G c ∧ toC0 σ.b c = c' := by cases c <;> exact hm
              exact rep_okA h hβ hrel hm1
    | n o o' =>
      have hm : mOC σ.b c o := by cases c <;> exact hm
      have h8 := own_mOC h hrel hm
      have hsub : ∀ x, (∃ γ n, c = .h γ n ∧ ρ.S γ x) → F k x := fun x ⟨γ, n, hc', hx⟩ => by
        subst hc'
        rw [← hF]; exact ⟨_, _, γ, hc, hq, rfl, hx⟩
      cases o with
      | s v => exact h8
      | l sz rows =>
        obtain ⟨sz', h9, h10⟩ := h8
        exact ⟨sz', h9, Slab.imp h10 hsub (fun _ _ _ => rfl) (fun _ _ _ _ h => h)⟩
    | b sz rows rows' =>
      cases c with
      | h γ n =>
        simp only [pmC] at hm
        split at hm
        · rename_i sz' ep rows'' hγ
          obtain ⟨rfl, rfl, rfl⟩ := hm
          obtain ⟨_, ab, hg, h9⟩ := hrel
          rw [hγ] at hg
          cases hg
          rw [(h9 true sz ep rows'' rfl).2 rfl]
          obtain ⟨sz1, hsz1, hslab⟩ := h.blks γ _ hγ
          exact ⟨sz1, hsz1, Slab.imp hslab (fun x hx => by rw [← hF]; exact ⟨_, _, γ, hc, hq, rfl, hx⟩) (fun _ _ _ => rfl) (fun F c u _ hc => hc)⟩
        · exact hm.elim
      | _ => exact hm.elim
  refine (hpc (Nx C ρ σ.b G β) F w vals cells g ty hF1 hNg hFd h5 hsz hcell (by simp [hs]) (by simp [hplt, hptr]) (fun i sv v hi hsv hvi => ?_)).mono ?_
  · rw [List.getElem?_set_ne (fun e => hi e.symm), List.getElem?_map] at hsv
    cases hav : avs[i]? with
    | none => rw [hav] at hsv; cases hsv
    | some av =>
      rw [hav] at hsv
      cases hsv
      exact repV_okA h hβ (hv i av v hav hvi) (okArgs_get hokA i av hi hav)
  rintro e w' ⟨v, SR, F', cells', ty', rfl, hkp, hg', hsz', hout, hres, hSR, hF', hFd'⟩
  refine ⟨v, rfl, _, hK, ?_⟩
  have hglt : g < w'.heap.size := (Array.getElem?_eq_some_iff.1 hg').1
  have hcsl : cells'.toList.length = cs.length := by rw [Array.length_toList]; exact hsz'
  have getU : ∀ {k : Nat} {u' : Value}, cells'[k]? = some u' → ∃ q u c, cs[k]? = some q ∧ cells[k]? = some u ∧ acs[k]? = some c ∧ pmC σ.b G c q ∧ RelAC C w ρ σ.b c u ∧ OutP w' (F' k) q u u' := fun {k u'} hu' => by
    have hlt : k < cs.length := by rw [← hsz']; exact (Array.getElem?_eq_some_iff.1 hu').1
    have hlt2 : k < cells.size := by omega
    obtain ⟨c, hc, hm⟩ := hpm' k cs[k] (by simp [hlt])
    exact ⟨cs[k], cells[k], c, by simp [hlt], by simp [hlt2], hc, hm, h7 k c _ hc (by simp [hlt2]), hout k _ _ _ (by simp [hlt]) (by simp [hlt2]) hu'⟩
  have hadopt : ∀ {b : Nat} {rcs : List RC} {us : Array Value} {Gr : Nat → Nat → Prop}, (∀ rc ∈ rcs, smallRC rc = true) → (∀ rc ∈ rcs, isBor rc = false) → freshIn σ.b (rcsABs b rcs ++ ocABs (b + 100 * rcs.length) (cs.map pkOut)) → (∀ i x, Gr i x → SR x) → (∀ i i' x, Gr i x → Gr i' x → i = i') → us.size = rcs.length → (∀ (i : Nat) (rc : RC) (u : Value), rcs[i]? = some rc → us[i]? = some u → RelRC w' (fun _ => True) (Gr i) rc u) →
      ∃ ρ', RelAt C ⟨σ.t, ((rcsABs b rcs ++ ocABs (b + 100 * rcs.length) (cs.map pkOut)) ++ ((β, .var (pkACs (b + 100 * rcs.length) acs cs)) :: pkTurn σ.b acs cs)) ++ σ.b⟩ ρ' a w' ∧ ∀ (i : Nat) (rc : RC) (u : Value), rcs[i]? = some rc → us[i]? = some u → RelAV1 C w' ρ' (((rcsABs b rcs ++ ocABs (b + 100 * rcs.length) (cs.map pkOut)) ++ ((β, .var (pkACs (b + 100 * rcs.length) acs cs)) :: pkTurn σ.b acs cs)) ++ σ.b) (rcAV (b + 100 * i) rc) u := fun {b rcs us Gr} a1 a1' a2 a3 a4 a5 a6 => by
    have e1 : rcsABs b (rcs ++ [.own true (csv cs cells'.toList)]) = rcsABs b rcs ++ ocABs (b + 100 * rcs.length) (cs.map pkOut) := by rw [rcsABs_snoc, csv_abs _ _ _ hcsl]
    have hIsN : ∀ {k : Nat} {o : OC}, (csv cs cells'.toList)[k]? = some o → True := fun _ => trivial
    generalize hNk : (fun (k : Nat) => ∃ o c', cs[k]? = some (.n o c')) = Nk
    have hjne : ∀ {i : Nat} {rc : RC}, (rcs ++ [RC.own true (csv cs cells'.toList)])[i]? = some rc → (i < rcs.length ∧ rcs[i]? = some rc) ∨ (i = rcs.length ∧ rc = .own true (csv cs cells'.toList)) := fun {i rc} hi => by
      rw [List.getElem?_append] at hi
      by_cases hlt : i < rcs.length
      · rw [if_pos hlt] at hi; exact .inl ⟨hlt, hi⟩
      · rw [if_neg hlt] at hi
        cases hj : i - rcs.length with
        | zero => rw [hj] at hi; cases hi; exact .inr ⟨by omega, rfl⟩
        | succ j => rw [hj] at hi; simp at hi
    obtain ⟨ρ', r1, _, r2⟩ := adopt_rcsP (N := fun _ => False) (GS := fun x => x = g ∨ ∃ k, F k x) (T := (β, .var (pkACs (b + 100 * rcs.length) acs cs)) :: pkTurn σ.b acs cs)
      (SB := fun γ x => (γ = β ∧ x = g) ∨ ∃ k c q, acs[k]? = some c ∧ cs[k]? = some q ∧ pgam c q = some γ ∧ (∀ o c', q ≠ .n o c') ∧ F' k x) (β := b) (rcs := rcs ++ [.own true (csv cs cells'.toList)]) (us := us ++ #[.agg cells'])
      (S := fun x => SR x ∨ ∃ k, Nk k ∧ F' k x) (G := fun i x => (i < rcs.length ∧ Gr i x) ∨ (i = rcs.length ∧ ∃ k, Nk k ∧ F' k x)) h hkp
      (fun rc hrc => by
        rcases List.mem_append.1 hrc with h1 | h1
        · exact a1 rc h1
        · rw [List.mem_singleton.1 h1]
          show Nat.ble (csv cs cells'.toList).length 100 = true
          rw [csv_len _ _ hcsl]
          exact Nat.ble_eq_true_of_le hc100)
      (by rw [e1]; exact a2)
      (fun x hx => by
        rcases hx with hx | ⟨k, hk, hx⟩
        · obtain ⟨h1, h2, h3, h4⟩ := hSR x hx
          refine ⟨h1.imp id .inr, h2, fun γ hγ => ?_⟩
          rcases hγ with ⟨_, h5⟩ | ⟨k, c, q, _, _, _, _, h5⟩
          · exact h3 h5
          · exact h4 k h5
        · obtain ⟨h1, h2, h3⟩ := hF' k x hx
          refine ⟨h1.imp id .inr, h2, fun γ hγ => ?_⟩
          rcases hγ with ⟨_, h5⟩ | ⟨k', c, q, _, h6, _, h7, h5⟩
          · exact h3 h5
          · have := hFd' k k' x hx h5
            subst this
            rw [← hNk] at hk
            obtain ⟨o, c', hk⟩ := hk
            rw [hk] at h6
            cases h6
            exact h7 o c' rfl)
      (fun i x hx => by
        rcases hx with ⟨_, hx⟩ | ⟨_, k, hk, hx⟩
        · exact .inl (a3 i x hx)
        · exact .inr ⟨k, hk, hx⟩)
      (fun i i' x hx hx' => by
        rcases hx with ⟨h1, hx⟩ | ⟨h1, k, hk, hx⟩ <;> rcases hx' with ⟨h1', hx'⟩ | ⟨h1', k', hk', hx'⟩
        · exact a4 i i' x hx hx'
        · exact absurd hx' ((hSR x (a3 i x hx)).2.2.2 k')
        · exact absurd hx ((hSR x (a3 i' x hx')).2.2.2 k)
        · omega)
      (by simp [a5])
      (fun i rc u hi hu => by
        rcases hjne hi with ⟨hlt, hi'⟩ | ⟨rfl, rfl⟩
        · have hu' : us[i]? = some u := by
            rw [Array.getElem?_append, if_pos (by omega)] at hu; exact hu
          have h1 := a6 i rc u hi' hu'
          have e2 : (fun x => (i < rcs.length ∧ Gr i x) ∨ (i = rcs.length ∧ ∃ k, Nk k ∧ F' k x)) = Gr i := by
            funext x
            apply propext
            constructor
            · rintro (⟨_, h⟩ | ⟨h, _⟩)
              · exact h
              · omega
            · exact fun h => .inl ⟨hlt, h⟩
          show RelRC w' _ (fun x => (i < rcs.length ∧ Gr i x) ∨ (i = rcs.length ∧ ∃ k, Nk k ∧ F' k x)) rc u
          rw [e2]
          cases rc with
          | own ag cs => exact h1
          | bor ag cs => have := a1' _ (List.mem_of_getElem? hi'); cases this
        · have hu' : u = .agg cells' := by
            rw [Array.getElem?_append, if_neg (by omega)] at hu
            rw [a5, Nat.sub_self] at hu; cases hu; rfl
          subst hu'
          refine ⟨cells', fun k x => Nk k ∧ F' k x, rfl, by rw [csv_len _ _ hcsl]; exact hsz', fun k x hx => .inr ⟨rfl, k, hx⟩, fun k k' x hx hx' => hFd' k k' x hx.2 hx'.2, fun k oc u' hoc hu' => ?_⟩
          obtain ⟨q, v', hq, hv', hor⟩ := csv_get hoc
          rw [Array.getElem?_toList, hu'] at hv'
          cases hv'
          obtain ⟨q', u0, c, g1, g2, g3, g4, g5, g6⟩ := getU hu'
          rw [hq] at g1
          cases g1
          rcases hor with ⟨o, c', rfl, rfl⟩ | ⟨hne, rfl⟩
          · have e2 : (fun x => Nk k ∧ F' k x) = F' k := by
              funext x
              apply propext
              exact ⟨fun h => h.2, fun h => ⟨by rw [← hNk]; exact ⟨o, _, hq⟩, h⟩⟩
            show OwnOC w' (fun x => Nk k ∧ F' k x) _ _
            rw [e2]; exact g6
          · have hone : u'.oneCell' = true := by
              cases q with
              | k c' => have e : u' = u0 := g6; rw [e]; exact relAC_one g5
              | n o c' => exact absurd rfl (hne o c')
              | b sz rows rows' => have e : u' = u0 := g6.1; rw [e]; exact relAC_one g5
            exact ⟨rfl, hone⟩)
      (fun x hx => hx.elim)
      (fun x hx => by
        rcases hx with rfl | ⟨k, hx⟩
        · exact ⟨β, _, hβ, by rw [get_cons', if_pos rfl]; rfl, hSg⟩
        · have hx' := hx
          rw [← hF] at hx'
          obtain ⟨c, q, γ, g1, g2, g3, g4⟩ := hx'
          obtain ⟨n, sz, ep, rows, _, g5⟩ := harr g1 g2 g3
          refine ⟨γ, _, g5, ?_, g4⟩
          rw [get_cons', if_neg (fun e => hneβ g1 g2 g3 e.symm)]
          exact pkTurn_some g1 g2 g3)
      (fun γ x hx => by
        rcases hx with ⟨rfl, rfl⟩ | ⟨k, c, q, g1, g2, g3, g4, g5⟩
        · exact ⟨.inr (.inl (.inl rfl)), hglt⟩
        · obtain ⟨h1, h2, h3⟩ := hF' k x g5
          exact ⟨h1.elim .inl (fun h => .inr (.inl (.inr h))), h2⟩)
      (fun γ γ' x hx hx' => by
        rcases hx with ⟨rfl, rfl⟩ | ⟨k, c, q, g1, g2, g3, g4, g5⟩ <;> rcases hx' with ⟨rfl, h1⟩ | ⟨k', c', q', g1', g2', g3', g4', g5'⟩
        · rfl
        · exact absurd rfl (hF' k' _ g5').2.2
        · exact absurd h1 (hF' k x g5).2.2
        · have := hFd' k k' x g5 g5'
          subst this
          rw [g1] at g1'; cases g1'
          rw [g2] at g2'; cases g2'
          rw [g3] at g3'; cases g3'
          rfl)
      (fun γ ab' hg => by
        rw [get_cons'] at hg
        by_cases hγ : β = γ
        · subst hγ
          rw [if_pos rfl] at hg
          cases hg
          refine .inr ⟨acs, _, g, ty', rcs.length, csv cs cells'.toList, cells', hβ, rfl, hvβ, .inl ⟨rfl, rfl⟩, hg', by rw [pkACs_len _ _ _ hlen, hsz'], by simp, ?_, fun k c u' hc hu' => ?_⟩
          · rw [Array.getElem?_append, if_neg (by omega), a5]; simp
          · obtain ⟨c0, q, g1, g2, g3⟩ := pkACs_get hc
            obtain ⟨q', u0, c1, f1, f2, f3, f4, f5, f6⟩ := getU hu'
            rw [g1] at f3; cases f3
            rw [g2] at f1; cases f1
            rcases g3 with ⟨o, c', rfl, rfl⟩ | ⟨hne, rfl⟩
            · exact .inr ⟨c', csv_put hcsl g2, rfl⟩
            · refine .inl ?_
              cases q with
              | k c' => have e : u' = u0 := f6; rw [e]; exact f5
              | n o c' => exact absurd rfl (hne o c')
              | b sz rows rows' => have e : u' = u0 := f6.1; rw [e]; exact f5
        · rw [if_neg hγ] at hg
          obtain ⟨k, n, q, g1, g2, g3⟩ := pkTurn_get hg
          rcases g3 with ⟨o, o', rfl, rfl⟩ | ⟨sz, rows, rows', rfl, rfl⟩
          · obtain ⟨_, sz, ep, rows, _, g5⟩ := harr (γ := γ) g1 g2 rfl
            exact .inl ⟨_, _, _, _, g5, .inl rfl⟩
          · obtain ⟨c, f1, f2⟩ := hpm' k _ g2
            rw [g1] at f1
            cases f1
            simp only [pmC] at f2
            split at f2
            · rename_i sz' ep rows'' hγ'
              obtain ⟨rfl, rfl, rfl⟩ := f2
              rw [hγ']
              have hlt : k < cells'.size := by rw [hsz']; exact (List.getElem?_eq_some_iff.1 g2).1
              obtain ⟨q', u0, c1, e1, e2, e3, e4, e5, e6⟩ := getU (k := k) (u' := cells'[k]) (by simp [hlt])
              rw [g1] at e3; cases e3
              rw [g2] at e1; cases e1
              obtain ⟨e7, e8, e9, sz2, e10, e11⟩ := e6
              obtain ⟨_, ab, hgab, h9⟩ := e5
              rw [hγ'] at hgab
              cases hgab
              have hval : u0 = ρ.v γ := (h9 true sz ep rows'' rfl).2 rfl
              refine .inl ⟨_, _, _, _, rfl, .inr ⟨sz, Nat.succ ep, rows', rfl, e8, Nat.lt_succ_self _, e9, sz2, e10, ?_⟩⟩
              rw [e7, hval] at e11
              exact Slab.imp e11 (fun x hx => .inr ⟨k, _, _, g1, g2, rfl, (fun _ _ h => by cases h), hx⟩) (fun _ _ _ => rfl) (fun _ _ _ _ hc => hc)
            · exact f2.elim)
    rw [e1] at r1 r2
    refine ⟨ρ', r1, fun i rc u hi hu => r2 i rc u ?_ ?_⟩
    · rw [List.getElem?_append_left (List.getElem?_eq_some_iff.1 hi).1]; exact hi
    · rw [Array.getElem?_append, if_pos (Array.getElem?_eq_some_iff.1 hu).1]; exact hu
  cases d with
  | none =>
    obtain ⟨ρ', r1, _⟩ := hadopt (b := e0) (rcs := []) (us := #[]) (Gr := fun _ _ => False) (fun rc h => by cases h) (fun rc h => by cases h) (by simpa [rcsABs, newP] using hfr) (fun _ _ h => h.elim) (fun _ _ _ h => h.elim) rfl (fun i rc u h => by simp at h)
    have r2 : RelAt C (afterP σ none res e0 β acs cs) ρ' a w' := by simpa [rcsABs, afterP] using r1
    exact ⟨ρ', r2⟩
  | some d =>
    have hd' := hd d rfl
    cases res with
    | one rc =>
      have happ : rcABs (nameOf d) rc = rcsABs (nameOf d) [rc] := by simp [rcsABs]
      obtain ⟨ρ', h1, h2⟩ := hadopt (b := nameOf d) (rcs := [rc]) (us := #[v]) (Gr := fun i x => i = 0 ∧ SR x) (fun rc' hrc => by rw [List.mem_singleton.1 hrc]; exact hsm) (fun rc' hrc => by rw [List.mem_singleton.1 hrc]; exact hbor) (by rw [← happ]; exact hfr) (fun i x hx => hx.2) (fun i i' x h1 h2 => by rw [h1.1, h2.1]) rfl
        (fun i rc' u h1 h2 => by
          cases i with
          | zero =>
            cases h1; cases h2
            have : (fun x => (0 : Nat) = 0 ∧ SR x) = SR := by funext x; simp
            show RelRC w' _ (fun x => (0 : Nat) = 0 ∧ SR x) rc v
            rw [this]; exact hres
          | succ i => simp at h1)
      refine ⟨ρ', ?_⟩
      have h3 := RelAt.put (d := some d) (av := rcAV (nameOf d) rc) (v := v) h1 (fun t ht => by cases ht; exact hd') (by
        have := h2 0 rc v rfl rfl
        simp only [Nat.mul_zero, Nat.add_zero] at this
        cases hav : rcAV (nameOf d) rc with
        | one c => rw [hav] at this; exact this
        | agg cs => rw [hav] at this; exact this
        | tup vs => rw [hav] at this; exact this.elim)
      simp only [← happ] at h3
      exact h3
    | tup rcs =>
      obtain ⟨arr, Gr, rfl, h1, h2, h3, h4⟩ := hres
      have hb' : ∀ rc ∈ rcs, isBor rc = false := fun rc hrc => by
        cases hb : isBor rc with
        | false => rfl
        | true =>
          have : rcs.any isBor = true := List.any_eq_true.2 ⟨rc, hrc, hb⟩
          rw [show rcs.any isBor = false from hbor] at this; cases this
      obtain ⟨ρ', h5, h6⟩ := hadopt (b := nameOf d) (rcs := rcs) (us := arr) (Gr := Gr) (fun rc hrc => List.all_eq_true.1 hsm rc hrc) hb' hfr h2 h3 h1 h4
      have hlenR : ∀ (rcs : List RC) (β : Nat), (rcsAVs β rcs).length = rcs.length := by
        intro rcs
        induction rcs with
        | nil => intro β; rfl
        | cons c cs ih => intro β; rw [rcsAVs, List.length_cons, List.length_cons, ih]
      have hgetR : ∀ (rcs : List RC) (β k : Nat) (c : AV), (rcsAVs β rcs)[k]? = some c → ∃ rc, rcs[k]? = some rc ∧ c = rcAV (β + 100 * k) rc := by
        intro rcs
        induction rcs with
        | nil => intro β k c hc; simp [rcsAVs] at hc
        | cons c0 cs ih =>
          intro β k c hc
          rw [rcsAVs] at hc
          cases k with
          | zero => cases hc; exact ⟨c0, rfl, rfl⟩
          | succ k =>
            obtain ⟨oc, h1, h2⟩ := ih (β + 100) k c (by simpa using hc)
            exact ⟨oc, by simpa using h1, by rw [h2]; congr 1; omega⟩
      refine ⟨ρ', RelAt.put (d := some d) (av := .tup (rcsAVs (nameOf d) rcs)) h5 (fun t ht => by cases ht; exact hd') ⟨arr, rfl, ?_, fun k c u hc hu => ?_⟩⟩
      · rw [h1, hlenR]
      · obtain ⟨rc, hrc, rfl⟩ := hgetR rcs _ k c hc
        exact h6 k rc u hrc hu
def CallG (P : Program) (σ : St) (d : Option Tmp) (f : Nat) (avs : List AV) (K : St → Prop) : Prop := CallG0 P σ d f avs K ∨ CallP P σ d f avs K ∨ CallM P σ d f avs K
theorem call_soundG (h : RelAt C σ ρ a w) {d : Option Tmp} {f : Nat} {avs : List AV} {vals : Array Value} {K : St → Prop} (hd : ∀ t, d = some t → t < C.T) (hk : CallG C.P σ d f avs K) (hs : vals.size = avs.length)
    (hv : ∀ (i : Nat) (av : AV) (v : Value), avs[i]? = some av → vals[i]? = some v → RelAV C w ρ σ.b av v) :
    okF C.P f = true ∧ Calls C.P f vals w fun e w' => ∃ v, e = .returned v ∧ ∃ σ', K σ' ∧ Rel C σ' (a.put d v) w' :=
  hk.elim (fun hk => call_soundG0 h hd hk hs hv) (fun hk => hk.elim (fun hk => call_soundP h hd hk hs hv) (fun hk => call_soundM h hd hk hs hv))
end
end Go.Sx
end
section
namespace Go.Sx
open Go.WideElems (Fit)
open Go.WideMaps (KeyLaw)
open Go.ChangeMaps Go.MapKept
theorem look_entry {H : Type} {P : Program} {w w2 : World} {t k e : TypeId} {R : Value → Option (DataW H × List MemPlace)} {b : Nat} {es es1 : Array MapEntry} {clock clock1 : Nat} (K : KeyLaw P k) (ht : P.underlying t = some (.map k e)) {z v0 st : Value} (hz : ∀ u : World, (zeroValue e).run P u = .ok z u)
    (hb : w.heap[b]? = some (.map es clock)) (F : Fit P k R es clock) {key : Value} {kl : Lit} (hkey : keyOf P k key = some kl) (hrun : (Instr.mapEntry t (.map (some b)) key).run P w = .ok (.tuple #[v0, st]) (setBlock w b (.map es1 clock1))) (h2 : w2.heap[b]? = some (.map es1 clock1)) {key2 : Value} (hkey2 : keyOf P k key2 = some kl) {t2 : TypeId} (ht2 : P.underlying t2 = some (.map k e)) :
    (Instr.lookup t2 (.map (some b)) key2 false).run P w2 = .ok v0 w2 ∧ (Instr.lookup t2 (.map (some b)) key2 false).run P w = .ok v0 w := by
  obtain rfl : key2 = key := K.inj hkey2 hkey
  have hs1 : ∀ {es' : Array MapEntry} {c' : Nat} {v : Value}, (Instr.mapEntry t (.map (some b)) key2).run P w = .ok v (setBlock w b (.map es' c')) → es1 = es' := fun h => by
    rw [hrun] at h
    injection h with _ h
    have h3 := congrArg (fun u : World => u.heap[b]?) h
    rw [heap_setBlock_same hb, heap_setBlock_same hb] at h3
    simp at h3
    exact h3.1
  rcases K.find w hkey es.toList F.keys with ⟨h1, h3⟩ | ⟨j, e0, h1, h3, h4⟩
  · have hr : (Instr.mapEntry t (.map (some b)) key2).run P w = .ok (.tuple #[z, goInt clock]) (setBlock w b (.map (es.push ⟨key2, z, clock⟩) (clock + 1))) := by
      simp [Instr.mapEntry, run_underlying ht, MapKept.run_getObj_map hb, K.check w false hkey, h1, hz, MapKept.run_setObj_map _ hb, Result.andThen, setBlock]
    have he := hs1 hr
    rw [hr] at hrun
    obtain rfl : z = v0 := by
      injection hrun with h5 _
      simp at h5
      exact h5.1
    subst he
    rcases K.find w2 hkey (es.push ⟨key2, z, clock⟩).toList (fun x hx => by
      simp only [Array.toList_push, List.mem_append, List.mem_singleton] at hx
      rcases hx with hx | rfl
      · exact F.keys x hx
      · exact ⟨kl, hkey⟩) with ⟨_, g2⟩ | ⟨j, e1, g1, g2, g3⟩
    · exact absurd rfl (g2 ⟨key2, z, clock⟩ (by simp))
    · have hv : e1.val = z := by
        have hm := List.mem_of_getElem? g2
        simp only [Array.toList_push, List.mem_append, List.mem_singleton] at hm
        rcases hm with hm | rfl
        · exact absurd g3 (h3 e1 hm)
        · rfl
      rw [Array.toList_push] at g1
      refine ⟨?_, ?_⟩
      · rw [← hv]
        simp [Instr.lookup, run_underlying ht2, MapKept.run_getObj_map h2, K.check w2 _ hkey, g1, Result.andThen]
      · simp [Instr.lookup, run_underlying ht2, MapKept.run_getObj_map hb, K.check w _ hkey, h1, hz, Result.andThen]
  · have hj : es[j]? = some e0 := by simpa using h3
    have hr : (Instr.mapEntry t (.map (some b)) key2).run P w = .ok (.tuple #[e0.val, goInt e0.born]) (setBlock w b (.map (es.modify j (fun e => { e with key := key2 })) clock)) := by
      simp [Instr.mapEntry, run_underlying ht, MapKept.run_getObj_map hb, K.check w false hkey, h1, hj, h4, K.stays w hkey, MapKept.run_setObj_map _ hb, Result.andThen, setBlock]
    have hsame : es.modify j (fun e => { e with key := key2 }) = es := by
      apply Array.ext'
      rw [Array.toList_modify]
      apply List.ext_getElem?
      intro i
      rw [List.getElem?_modify]
      by_cases hi : j = i
      · subst hi
        rw [h3]
        simp [← h4]
      · simp [hi]
    have he := hs1 hr
    rw [hsame] at he
    rw [hr] at hrun
    obtain rfl : e0.val = v0 := by
      injection hrun with h5 _
      simp at h5
      exact h5.1
    subst he
    rcases K.find w2 hkey es1.toList F.keys with ⟨_, g2⟩ | ⟨j2, e1, g1, g2, g3⟩
    · exact absurd h4 (g2 e0 (List.mem_of_getElem? h3))
    · have hv : e1.val = e0.val := by
        have hn := F.stamped.2.2
        have e1' : (es1.toList.map (·.key))[j]? = (es1.toList.map (·.key))[j2]? := by rw [List.getElem?_map, List.getElem?_map, h3, g2]; simp [h4, g3]
        have hl : j < (es1.toList.map (·.key)).length := by simpa using (List.getElem?_eq_some_iff.1 h3).1
        have e2 := (List.getElem?_inj hl hn).1 e1'
        subst e2
        rw [h3] at g2
        cases g2
        rfl
      refine ⟨?_, ?_⟩
      · rw [← hv]
        simp [Instr.lookup, run_underlying ht2, MapKept.run_getObj_map h2, K.check w2 _ hkey, g1, Result.andThen]
      · simp [Instr.lookup, run_underlying ht2, MapKept.run_getObj_map hb, K.check w _ hkey, h1, Result.andThen]
end Go.Sx
end
section
namespace Go.Sx
open Go.RowKit (Below)
open Go.Maps (Keyed)
def vsOf : List AC → Option (List Value)
  | [] => some []
  | .b (.s v) :: cs => (match vsOf cs with | some vs => some (v :: vs) | none => none)
  | _ => none
def valOf : AV → Option Value
  | .one (.b (.s v)) => some v
  | .agg cs => (match vsOf cs with | some vs => some (.agg vs.toArray) | none => none)
  | _ => none
theorem vsOf_rel {C : Ctx} {w : World} {ρ : Env} {B : List (Nat × AB)} : ∀ {cs : List AC} {vs us : List Value}, vsOf cs = some vs → us.length = cs.length →
    (∀ (k : Nat) (c : AC) (u : Value), cs[k]? = some c → us[k]? = some u → RelAC C w ρ B c u) → us = vs := by
  intro cs
  induction cs with
  | nil => intro vs us h hl _; cases h; exact List.eq_nil_of_length_eq_zero hl
  | cons c cs ih =>
    intro vs us h hl hr
    unfold vsOf at h
    split at h
    · rename_i e; cases e
    · rename_i v cs' e
      cases e
      split at h
      · rename_i vs' hvs
        cases h
        cases us with
        | nil => simp at hl
        | cons u us =>
          have h1 := hr 0 _ u rfl rfl
          cases h1
          rw [ih (us := us) hvs (by simpa using hl) (fun k c' u' h2 h3 => hr (k + 1) c' u' (by simpa using h2) (by simpa using h3))]
      · cases h
    · cases h
theorem valOf_rel {C : Ctx} {w : World} {ρ : Env} {B : List (Nat × AB)} {av : AV} {v u : Value} (h : valOf av = some v) (hr : RelAV C w ρ B av u) : u = v := by
  cases av with
  | one c =>
    cases c with
    | b c =>
      cases c with
      | s x => cases h; cases hr; rfl
      | _ => cases h
    | _ => cases h
  | agg cs =>
    obtain ⟨arr, rfl, h1, h2⟩ := hr
    simp only [valOf] at h
    split at h
    · rename_i vs h3
      cases h
      have := vsOf_rel (us := arr.toList) h3 (by simpa using h1) (fun k c u hc hu => h2 k c u hc (by simpa using hu))
      rw [← this]
    · cases h
  | tup vs => cases h
def mkMapK (P : Program) (σ : St) (t : TypeId) (r : Option Operand) (d : Option Tmp) (K : St → Prop) : Prop :=
  ∃ x k e, r = none ∧ d = some x ∧ P.underlying t = some (.map k e) ∧ get σ.b x = none ∧ K ⟨(x, .one (.mx 0 x)) :: σ.t, pset σ.b x (.mp k e 0 (.map []) none)⟩
def lookK (P : Program) (σ : St) (t : TypeId) (m x : Operand) (ok : Bool) (d : Option Tmp) (K : St → Prop) : Prop :=
  ∃ β k e n D q kl av key, ok = false ∧ ev σ m = some (.one (.mx 0 β)) ∧ get σ.b β = some (.mp k e n D none) ∧ P.underlying t = some (.map k e) ∧ P.underlying e = some (.int q) ∧ Keyed P k ∧ (∀ w, (zeroValue e).run P w = .ok (.int q 0) w) ∧
    ev σ x = some av ∧ valOf av = some key ∧ keyOf P k key = some kl ∧ ∀ c, D.atKey kl (.lit (.int q 0)) = .lit (.int q c) → (Lit.int q c).wf = true → K (σ.put d (.one (.b (.s (.int q c)))))
def updK (P : Program) (σ : St) (t : TypeId) (m x v : Operand) (d : Option Tmp) (K : St → Prop) : Prop :=
  ∃ β k e n D q kl av key c, d = none ∧ ev σ m = some (.one (.mx 0 β)) ∧ get σ.b β = some (.mp k e n D none) ∧ P.underlying t = some (.map k e) ∧ P.underlying e = some (.int q) ∧ Keyed P k ∧ n < maxLen ∧
    ev σ x = some av ∧ valOf av = some key ∧ keyOf P k key = some kl ∧ ev σ v = some (.one (.b (.s (.int q c)))) ∧ (Lit.int q c).wf = true ∧
    K ⟨σ.t, pset σ.b β (.mp k e (n + 1) (D.put kl (.lit (.int q c))) none)⟩
def entK (P : Program) (σ : St) (t : TypeId) (m x : Operand) (d : Option Tmp) (K : St → Prop) : Prop :=
  ∃ y β k e n D q kl av key, d = some y ∧ ev σ m = some (.one (.mx 0 β)) ∧ get σ.b β = some (.mp k e n D none) ∧ P.underlying t = some (.map k e) ∧ P.underlying e = some (.int q) ∧ Go.WideMaps.KeyLaw P k ∧ Keyed P k ∧ n < maxLen ∧ (∀ w, (zeroValue e).run P w = .ok (.int q 0) w) ∧
    ev σ x = some av ∧ valOf av = some key ∧ keyOf P k key = some kl ∧ ∀ c born, K ⟨(y, .tup [.one (.b (.s (.int q c))), .one (.b (.s (.int .i64 born)))]) :: σ.t, pset σ.b β (.me k e n D kl born)⟩
def estK (P : Program) (σ : St) (m s v : Operand) (d : Option Tmp) (K : St → Prop) : Prop :=
  ∃ β k e n D q kl born c, d = none ∧ ev σ m = some (.one (.mx 0 β)) ∧ get σ.b β = some (.me k e n D kl born) ∧ P.underlying e = some (.int q) ∧ ev σ s = some (.one (.b (.s (.int .i64 born)))) ∧ ev σ v = some (.one (.b (.s (.int q c)))) ∧ (Lit.int q c).wf = true ∧
    K ⟨σ.t, pset σ.b β (.mp k e (n + 1) (D.put kl (.lit (.int q c))) none)⟩
def lookE (P : Program) (σ : St) (t : TypeId) (m x : Operand) (ok : Bool) (d : Option Tmp) (K : St → Prop) : Prop :=
  ∃ β k e n D q kl born av key, ok = false ∧ ev σ m = some (.one (.mx 0 β)) ∧ get σ.b β = some (.me k e n D kl born) ∧ P.underlying t = some (.map k e) ∧ P.underlying e = some (.int q) ∧ (∀ w, (zeroValue e).run P w = .ok (.int q 0) w) ∧
    ev σ x = some av ∧ valOf av = some key ∧ keyOf P k key = some kl ∧ ∀ c, D.atKey kl (.lit (.int q 0)) = .lit (.int q c) → (Lit.int q c).wf = true → K (σ.put d (.one (.b (.s (.int q c)))))
def rangeK (P : Program) (σ : St) (t : TypeId) (m : Operand) (d : Option Tmp) (K : St → Prop) : Prop :=
  ∃ x β k e n D, d = some x ∧ ev σ m = some (.one (.mx 0 β)) ∧ get σ.b β = some (.mp k e n D none) ∧ get σ.b x = none ∧ P.underlying t = some (.map k e) ∧ Keyed P k ∧
    K ⟨(x, .one (.mx 1 x)) :: σ.t, pset (pset σ.b β .dead) x (.mp k e n D (some (Maps.has D, Maps.size D, none)))⟩
def nextK (P : Program) (σ : St) (it : Operand) (str : Bool) (d : Option Tmp) (K : St → Prop) : Prop :=
  ∃ x β k e n D left cnt cur q, str = false ∧ d = some x ∧ ev σ it = some (.one (.mx 1 β)) ∧ get σ.b β = some (.mp k e n D (some (left, cnt, cur))) ∧ Keyed P k ∧ P.underlying e = some (.int q) ∧
    (cnt = 0 → (∀ kl, left kl = false) → K ⟨(x, .tup [.one (.b (.s (.bool false)))]) :: σ.t, σ.b⟩) ∧
    ∀ key kl c cnt', keyOf P k key = some kl → left kl = true → (∀ zd, D.atKey kl zd = .lit (.int q c)) → (Lit.int q c).wf = true → cnt' < cnt →
      ∃ av, ofVal key = some av ∧ (∀ vs, av ≠ .tup vs) ∧ K ⟨(x, .tup [.one (.b (.s (.bool true))), av, .one (.b (.s (.int q c)))]) :: σ.t, pset σ.b β (.mp k e n D (some ((fun z => left z && !z.sameKey kl), cnt', some (key, .int q c))))⟩
def entryK (P : Program) (σ : St) (it : Operand) (d : Option Tmp) (K : St → Prop) : Prop :=
  ∃ x β k e n D left cnt key u av av', d = some x ∧ ev σ it = some (.one (.mx 1 β)) ∧ get σ.b β = some (.mp k e n D (some (left, cnt, some (key, u)))) ∧ ofVal key = some av ∧ (∀ vs, av ≠ .tup vs) ∧ ofVal u = some av' ∧ (∀ vs, av' ≠ .tup vs) ∧ K ⟨(x, .tup [av, av']) :: σ.t, σ.b⟩
theorem entry_local {P : Program} {w w' : World} {k b r n : Nat} {R : Value → Option (DataW Unit × List MemPlace)} {D : DataW Unit} {left : Lit → Bool} {cnt : Nat} {v : Value} (h : w.ranges P k R b r n D left cnt)
    (he : (Instr.entry (.pointer (some ⟨r, 0, none⟩))).run P w = .ok v w) (h1 : w'.heap[b]? = w.heap[b]?) (h2 : w'.heap[r]? = w.heap[r]?) : (Instr.entry (.pointer (some ⟨r, 0, none⟩))).run P w' = .ok v w' := by
  obtain ⟨es, clock, since, seen, c0, hb, _, _, _, hr, _⟩ := h
  have hb' := h1.trans hb
  have hr' := h2.trans hr
  simp only [Instr.entry, getObj, Sem.run_bind, Sem.run, hr, hb, Result.andThen] at he
  simp only [Instr.entry, getObj, Sem.run_bind, Sem.run, hr', hb', Result.andThen]
  cases hs : seen.back? with
  | none => rw [hs] at he; simp [stuck, Sem.run] at he
  | some st =>
    rw [hs] at he
    simp only [Sem.run_bind, Sem.run, hb, Result.andThen] at he
    simp only [Sem.run_bind, Sem.run, hb', Result.andThen]
    cases hc : (clock != c0) with
    | true => rw [hc] at he; simp [unsupported, Sem.run, Result.andThen] at he
    | false =>
      rw [hc] at he
      simp only [Bool.false_eq_true, if_false] at he ⊢
      cases hf : es.find? (fun x => x.born == st) with
      | none => rw [hf] at he; simp [unsupported, Sem.run] at he
      | some e0 =>
        rw [hf] at he
        simp at he ⊢
        exact he
section
variable {C : Ctx} {σ : St} {ρ : Env} {a : Act} {w : World}
theorem mx_val (h : RelAt C σ ρ a w) {m β : Nat} {x : Operand} (hx : ev σ x = some (.one (.mx m β))) {k e n : Nat} {D : DataW Unit} {it : Option ((Lit → Bool) × Nat × Option (Value × Value))} (hb : get σ.b β = some (.mp k e n D it)) (hk : kd (.mp k e n D it) = m + 2) : a.eval x = ρ.v β := by
  obtain ⟨_, ab, hg, h2⟩ := ev_sound h hx
  rw [hb] at hg
  cases hg
  exact h2 hk
theorem l_makeMap (h : RelAt C σ ρ a w) {o : Oper} {t : TypeId} {r : Option Operand} {K : St → Prop} (ho : o.op = .makeMap t r) (hd : ∀ d, o.dst = some d → d < C.T) (hk : mkMapK C.P σ t r o.dst K) : LOk C a w o K := by
  obtain ⟨x, k, e, rfl, hdst, hu, hn, hK⟩ := hk
  have hr : (execOp a.eval o).run C.P w = .ok (.value (.map (some w.heap.size))) (w.alloc (.map #[] 0)) := by
    have h0 : (Instr.makeMap t none).run C.P w = .ok (.map (some w.heap.size)) (w.alloc (.map #[] 0)) := rfl
    simp [execOp, ho, h0, Result.andThen]
  refine ⟨_, _, .inl hr, fun _ => Keep.alloc w _ _, _, hK, ?_⟩
  rw [hdst]
  have hne : ∀ ab, ¬ get σ.b x = some ab := fun ab h => by rw [hn] at h; cases h
  have h1 := h.upd (β := x) (ms := []) (ab' := .mp k e 0 (.map []) none) (v' := .map (some w.heap.size)) (S' := fun y => y = w.heap.size) (w' := w.alloc (.map #[] 0)) (Keep.alloc w _ _)
    (fun y hy => ⟨by subst hy; simp, .inl (by omega)⟩) (by simp) (fun ab hab => absurd hab (hne ab)) (fun E => by
      refine ⟨w.heap.size, by simp [Env.upd], by simp [Env.upd], World.ownsMap_made w C.P k _⟩) (fun ab hab => absurd hab (hne ab))
  simp only [killAll] at h1
  exact ⟨_, RelAt.put (d := some x) (av := .one (.mx 0 x)) h1 (fun t ht => by cases ht; exact hd x hdst) ⟨rfl, _, by rw [get_pset, if_pos rfl], fun _ => by simp [Env.upd]⟩⟩
theorem l_lookup (h : RelAt C σ ρ a w) {o : Oper} {t : TypeId} {m x : Operand} {ok : Bool} {K : St → Prop} (ho : o.op = .lookup t m x ok) (hd : ∀ d, o.dst = some d → d < C.T) (hk : lookK C.P σ t m x ok o.dst K) : LOk C a w o K := by
  obtain ⟨β, k, e, n, D, q, kl, av, key, rfl, hm, hb, hu, he, hKd, hz, hx, hav, hkey, hK⟩ := hk
  have hv := mx_val h hm hb rfl
  obtain ⟨b, h1, h2, h3⟩ := h.blks β _ hb
  have hxv := valOf_rel hav (ev_sound h hx)
  obtain ⟨c, hrun, hat, hwc⟩ := h3.lookup_int hKd hu he (hz w) hkey
  refine ⟨_, w, .inl ?_, fun _ => Keep.refl w _, _, hK c hat hwc, ρ, h.put hd (.s _ rfl)⟩
  simp [execOp, ho, hv, h1, hxv, hrun, Result.andThen]
theorem l_lookE (h : RelAt C σ ρ a w) {o : Oper} {t : TypeId} {m x : Operand} {ok : Bool} {K : St → Prop} (ho : o.op = .lookup t m x ok) (hd : ∀ d, o.dst = some d → d < C.T) (hk : lookE C.P σ t m x ok o.dst K) : LOk C a w o K := by
  obtain ⟨β, k, e, n, D, q, kl, born, av, key, rfl, hm, hb, hu, he, hz, hx, hav, hkey, hK⟩ := hk
  have hv : a.eval m = ρ.v β := by
    obtain ⟨_, ab, hg, h2⟩ := ev_sound h hm
    rw [hb] at hg
    cases hg
    exact h2 rfl
  obtain ⟨b, es, clock, h1, h2, h3, _, h5⟩ := h.blks β _ hb
  have hxv := valOf_rel hav (ev_sound h hx)
  obtain ⟨c, hrun, hat, hwc⟩ := h5 w t q key hu he hz hkey h3
  refine ⟨_, w, .inl ?_, fun _ => Keep.refl w _, _, hK c hat hwc, ρ, h.put hd (.s _ rfl)⟩
  simp [execOp, ho, hv, h1, hxv, hrun, Result.andThen]
theorem l_mapUpdate (h : RelAt C σ ρ a w) {o : Oper} {t : TypeId} {m x v : Operand} {K : St → Prop} (ho : o.op = .mapUpdate t m x v) (hk : updK C.P σ t m x v o.dst K) : LOk C a w o K := by
  obtain ⟨β, k, e, n, D, q, kl, av, key, c, hdst, hm, hb, hu, he, hKd, hn, hx, hav, hkey, hcv, hwc, hK⟩ := hk
  have hv := mx_val h hm hb rfl
  obtain ⟨b, h1, h2, h3⟩ := h.blks β _ hb
  have hxv := valOf_rel hav (ev_sound h hx)
  have hc : a.eval v = .int q c := valOf_rel (v := .int q c) rfl (ev_sound h hcv)
  obtain ⟨w', hrun, r1, r2⟩ := h3.update hKd hu hn hkey (plainElem_int he hwc)
  have h4 := h.upd (β := β) (ms := []) (ab' := .mp k e (n + 1) (D.put kl (.lit (.int q c))) none) (v' := ρ.v β) (S' := ρ.S β) (w' := w') (Keep.grown r2 (fun y hy => by cases hy; exact ⟨⟨_, hb⟩, h2⟩))
    (fun y hy => ⟨Nat.lt_of_lt_of_le (h.mine β _ y hb hy).1 r2.size, .inr (.inl ⟨⟨_, hb⟩, hy⟩)⟩) (by simp) (fun ab hab => ⟨fun cs' he => (by cases he), fun f s ep rows he => (by cases he)⟩) (fun E => by
      simp only [RelAB, Env.upd, if_true]
      exact ⟨b, h1, h2, r1⟩) (fun ab hab _ => by rw [hb] at hab; cases hab; exact ⟨rfl, rfl⟩)
  simp only [killAll] at h4
  refine ⟨undef, w', .inr ⟨rfl, ?_⟩, fun hq => ?_, _, hK, ?_⟩
  · simp [execOp, ho, hv, h1, hxv, hc, hrun, Result.andThen]
  · rw [ho] at hq; cases hq
  · rw [hdst]; exact ⟨_, h4⟩
theorem me_val (h : RelAt C σ ρ a w) {β : Nat} {x : Operand} (hx : ev σ x = some (.one (.mx 0 β))) {k e n : Nat} {D : DataW Unit} {kl : Lit} {born : Int} (hb : get σ.b β = some (.me k e n D kl born)) : a.eval x = ρ.v β := by
  obtain ⟨_, ab, hg, h2⟩ := ev_sound h hx
  rw [hb] at hg
  cases hg
  exact h2 rfl
theorem l_mapEntry (h : RelAt C σ ρ a w) {o : Oper} {t : TypeId} {m x : Operand} {K : St → Prop} (ho : o.op = .mapEntry t m x) (hd : ∀ d, o.dst = some d → d < C.T) (hk : entK C.P σ t m x o.dst K) : LOk C a w o K := by
  obtain ⟨y, β, k, e, n, D, q, kl, av, key, hdst, hm, hb, hu, he, hL, hKd, hn, hz, hx, hav, hkey, hK⟩ := hk
  have hv := mx_val h hm hb rfl
  obtain ⟨b, h1, h2, h3⟩ := h.blks β _ hb
  have hxv := valOf_rel hav (ev_sound h hx)
  have h3' := h3
  obtain ⟨es, clock, hbb, hF, hsz, hD⟩ := h3
  obtain ⟨v0, st, es1, clock1, hrun, hwho, hst⟩ := Go.WideElems.entry_then_store hL hu hz hbb hF hkey
  obtain ⟨c, rfl⟩ : ∃ c, v0 = .int q c := by
    rcases hwho with ⟨e0, he0, _, rfl⟩ | ⟨_, rfl⟩
    · obtain ⟨z, hz1⟩ := hF.reads e0 he0
      obtain ⟨z2, hz2, _⟩ := Go.WideElems.rd_val hz1
      obtain ⟨c, hc, _⟩ := plainElem_int_inv he hz2
      exact ⟨c, hc⟩
    · exact ⟨0, rfl⟩
  obtain ⟨w', hw'⟩ : ∃ w', Go.ChangeMaps.setBlock w b (.map es1 clock1) = w' := ⟨_, rfl⟩
  have hb1 : w'.heap[b]? = some (.map es1 clock1) := by rw [← hw']; exact Go.ChangeMaps.heap_setBlock_same hbb _
  have hgr : w.grownBy w' (some b) := by
    rw [← hw']
    exact ⟨rfl, rfl, rfl, by simp [Go.ChangeMaps.setBlock], fun i _ hi => Go.ChangeMaps.heap_setBlock_other hbb _ (fun e => hi (by rw [e]))⟩
  rw [hw'] at hrun
  have h4 := h.upd (β := β) (ms := []) (ab' := .me k e n D kl (st : Int)) (v' := ρ.v β) (S' := ρ.S β) (w' := w') (Keep.grown hgr (fun y hy => by cases hy; exact ⟨⟨_, hb⟩, h2⟩))
    (fun y hy => ⟨Nat.lt_of_lt_of_le (h.mine β _ y hb hy).1 hgr.size, .inr (.inl ⟨⟨_, hb⟩, hy⟩)⟩) (by simp) (fun ab hab => ⟨fun cs' he => (by cases he), fun f s ep rows he => (by cases he)⟩) (fun E => by
      simp only [RelAB, Env.upd, if_true]
      refine ⟨b, es1, clock1, h1, h2, hb1, fun w2 t' q' c' he' hwf hw2 => ?_, fun w2 t' q' key' hu' he' hz' hkey' hw2 => ?_⟩
      rotate_left
      · obtain ⟨c0, g1, g2, g3⟩ := h3'.lookup_int hKd hu' he' (hz' w) hkey'
        have hq : q' = q := by rw [he] at he'; simpa using he'.symm
        subst hq
        obtain ⟨f1, f2⟩ := look_entry hL hu hz hbb hF hkey (by rw [hrun, ← hw']) hw2 hkey' hu'
        rw [g1] at f2
        injection f2 with f2 _
        injection f2 with _ f2
        subst f2
        exact ⟨c0, f1, g2, g3⟩
      obtain ⟨es', clock', r1, r2⟩ := hst w2 (.int q' c') hw2
      obtain ⟨w4, r3, r4, r5⟩ := h3'.update hKd hu hn hkey (plainElem_int he' hwf)
      rw [r2] at r3
      obtain rfl : Go.ChangeMaps.setBlock w b (.map es' clock') = w4 := by simpa using r3
      obtain ⟨es2, clock2, g1, g2, g3, g4⟩ := r4
      rw [Go.ChangeMaps.heap_setBlock_same hbb _] at g1
      cases g1
      exact ⟨_, r1, ⟨rfl, rfl, rfl, by simp [Go.ChangeMaps.setBlock], fun i _ hi => Go.ChangeMaps.heap_setBlock_other hw2 _ (fun e => hi (by rw [e]))⟩, es', clock', Go.ChangeMaps.heap_setBlock_same hw2 _, g2, g3, g4⟩) (fun ab hab _ => by rw [hb] at hab; cases hab; exact ⟨rfl, rfl⟩)
  simp only [killAll] at h4
  refine ⟨.tuple #[.int q c, .int .i64 (st : Int)], w', .inl ?_, fun hq => ?_, _, hK c (st : Int), ?_⟩
  · simp [execOp, ho, hv, h1, hxv, hrun, Result.andThen]; rfl
  · rw [ho] at hq; cases hq
  · rw [hdst]
    refine ⟨_, RelAt.put (d := some y) (av := .tup [.one (.b (.s (.int q c))), .one (.b (.s (.int .i64 (st : Int))))]) h4 (fun t ht => by cases ht; exact hd y hdst) ⟨_, rfl, rfl, fun i av u h5 h6 => ?_⟩⟩
    match i, h5, h6 with
    | 0, h5, h6 => cases h5; cases h6; exact .s _ rfl
    | 1, h5, h6 => cases h5; cases h6; exact .s _ rfl
    | i + 2, h5, _ => simp at h5
theorem l_entryStore (h : RelAt C σ ρ a w) {o : Oper} {t : TypeId} {m s v : Operand} {K : St → Prop} (ho : o.op = .entryStore t m s v) (hk : estK C.P σ m s v o.dst K) : LOk C a w o K := by
  obtain ⟨β, k, e, n, D, q, kl, born, c, hdst, hm, hb, he, hs, hcv, hwc, hK⟩ := hk
  have hv := me_val h hm hb
  obtain ⟨b, es, clock, h1, h2, h3, h5, _⟩ := h.blks β _ hb
  have hsv : a.eval s = .int .i64 born := valOf_rel (v := .int .i64 born) rfl (ev_sound h hs)
  have hc : a.eval v = .int q c := valOf_rel (v := .int q c) rfl (ev_sound h hcv)
  obtain ⟨w', hrun, r2, r1⟩ := h5 w t q c he hwc h3
  have h4 := h.upd (β := β) (ms := []) (ab' := .mp k e (n + 1) (D.put kl (.lit (.int q c))) none) (v' := ρ.v β) (S' := ρ.S β) (w' := w') (Keep.grown r2 (fun y hy => by cases hy; exact ⟨⟨_, hb⟩, h2⟩))
    (fun y hy => ⟨Nat.lt_of_lt_of_le (h.mine β _ y hb hy).1 r2.size, .inr (.inl ⟨⟨_, hb⟩, hy⟩)⟩) (by simp) (fun ab hab => ⟨fun cs' he => (by cases he), fun f s ep rows he => (by cases he)⟩) (fun E => by
      simp only [RelAB, Env.upd, if_true]
      exact ⟨b, h1, h2, r1⟩) (fun ab hab _ => by rw [hb] at hab; cases hab; exact ⟨rfl, rfl⟩)
  simp only [killAll] at h4
  refine ⟨undef, w', .inr ⟨rfl, ?_⟩, fun hq => ?_, _, hK, ?_⟩
  · simp [execOp, ho, hv, h1, hsv, hc, hrun, Result.andThen]
  · rw [ho] at hq; cases hq
  · rw [hdst]; exact ⟨_, h4⟩
theorem l_range (h : RelAt C σ ρ a w) {o : Oper} {t : TypeId} {m : Operand} {K : St → Prop} (ho : o.op = .range t m) (hd : ∀ d, o.dst = some d → d < C.T) (hk : rangeK C.P σ t m o.dst K) : LOk C a w o K := by
  obtain ⟨x, β, k, e, n, D, hdst, hm, hb, hx, hu, hKd, hK⟩ := hk
  have hv := mx_val h hm hb rfl
  obtain ⟨b, h1, h2, h3⟩ := h.blks β _ hb
  obtain ⟨w', hrun, r1, r2, r3⟩ := h3.range hKd hu
  have hne : ∀ ab, ¬ get σ.b x = some ab := fun ab h => by rw [hx] at h; cases h
  have hxb : x ≠ β := fun e => by subst e; rw [hx] at hb; cases hb
  have h4 := h.upd (β := x) (ms := [β]) (ab' := .mp k e n D (some (Maps.has D, Maps.size D, none))) (v' := .pointer (some ⟨w.heap.size, 0, none⟩)) (S' := fun y => y = b ∨ y = w.heap.size) (w' := w') (Keep.grown r2 (fun y hy => by cases hy))
    (fun y hy => by
      rcases hy with rfl | rfl
      · exact ⟨Nat.lt_of_lt_of_le (h.mine β _ _ hb h2).1 r2.size, .inr (.inr ⟨β, by simp, ⟨_, hb⟩, h2⟩)⟩
      · exact ⟨by omega, .inl (Nat.le_refl _)⟩) (by simpa using hxb) (fun ab hab => absurd hab (hne ab)) (fun E => by
      simp only [RelAB, Env.upd, if_true]
      exact ⟨b, w.heap.size, rfl, .inl rfl, .inr rfl, r1, fun _ _ hc => by cases hc⟩) (fun ab hab => absurd hab (hne ab))
  simp only [killAll] at h4
  refine ⟨.pointer (some ⟨w.heap.size, 0, none⟩), w', .inl ?_, fun _ => Keep.grown r2 (fun y hy => by cases hy), _, hK, ?_⟩
  · simp [execOp, ho, hv, h1, hrun, Result.andThen]
  · rw [hdst]
    exact ⟨_, RelAt.put (d := some x) (av := .one (.mx 1 x)) h4 (fun t ht => by cases ht; exact hd x hdst) ⟨rfl, _, by rw [get_pset, if_pos rfl], fun _ => by simp [Env.upd]⟩⟩
theorem l_next (h : RelAt C σ ρ a w) {o : Oper} {it : Operand} {str : Bool} {K : St → Prop} (ho : o.op = .next it str) (hd : ∀ d, o.dst = some d → d < C.T) (hk : nextK C.P σ it str o.dst K) : LOk C a w o K := by
  obtain ⟨x, β, k, e, n, D, left, cnt, cur, q, rfl, hdst, hm, hb, hKd, he, hK0, hK1⟩ := hk
  have hv := mx_val h hm hb rfl
  obtain ⟨b, r, h1, h2, h2', h3, _⟩ := h.blks β _ hb
  rcases h3.next hKd o.type with ⟨h0, hl, hrun⟩ | ⟨key, v, kl, y, w', cnt', hkey, hlk, hvv, hat, hrun, hrg, hlt, hgr, hsz, hen⟩
  · refine ⟨.tuple #[.bool false], w, .inl ?_, fun _ => Keep.refl w _, _, hK0 h0 hl, ρ, ?_⟩
    · simp [execOp, ho, hv, h1, hrun, Result.andThen]
    · rw [hdst]
      refine RelAt.put (d := some x) (av := .tup [.one (.b (.s (.bool false)))]) h (fun t ht => by cases ht; exact hd x hdst) ⟨_, rfl, rfl, fun i c u hc hu => ?_⟩
      cases i with
      | zero => cases hc; simp at hu; subst hu; exact .s _ rfl
      | succ i => simp at hc
  · obtain ⟨c, rfl, rfl, hwc⟩ := plainElem_int_inv he hvv
    obtain ⟨av, hav, hnt, hK⟩ := hK1 key kl c cnt' hkey hlk (fun zd => hat zd) hwc hlt
    have h4 := h.upd (β := β) (ms := []) (ab' := .mp k e n D (some ((fun z => left z && !z.sameKey kl), cnt', some (key, .int q c)))) (v' := ρ.v β) (S' := ρ.S β) (w' := w') (Keep.grown hgr (fun y hy => by cases hy; exact ⟨⟨_, hb⟩, h2'⟩))
      (fun y hy => ⟨Nat.lt_of_lt_of_le (h.mine β _ y hb hy).1 hgr.size, .inr (.inl ⟨⟨_, hb⟩, hy⟩)⟩) (by simp) (fun ab hab => ⟨fun cs' he => (by cases he), fun f s ep rows he => (by cases he)⟩) (fun E => by
        simp only [RelAB, Env.upd, if_true]
        exact ⟨b, r, h1, h2, h2', hrg, fun key' u hc w1 e1 e2 => by cases hc; exact entry_local hrg hen e1 e2⟩) (fun ab hab _ => by rw [hb] at hab; cases hab; exact ⟨rfl, rfl⟩)
    simp only [killAll] at h4
    refine ⟨.tuple #[.bool true, key, .int q c], w', .inl ?_, fun hq => ?_, _, hK, ?_⟩
    · simp [execOp, ho, hv, h1, hrun, Result.andThen]
    · rw [ho] at hq; cases hq
    · rw [hdst]
      refine ⟨_, RelAt.put (d := some x) (av := .tup [.one (.b (.s (.bool true))), av, .one (.b (.s (.int q c)))]) h4 (fun t ht => by cases ht; exact hd x hdst) ⟨_, rfl, rfl, fun i c' u hc hu => ?_⟩⟩
      have hav' : RelAV1 C w' (ρ.upd β (ρ.v β) (ρ.S β) []) (pset σ.b β (.mp k e n D (some ((fun z => left z && !z.sameKey kl), cnt', some (key, .int q c))))) av key := by
        have := relAV_ofVal (C := C) (w := w') (ρ := ρ.upd β (ρ.v β) (ρ.S β) []) (B := pset σ.b β (.mp k e n D (some ((fun z => left z && !z.sameKey kl), cnt', some (key, .int q c))))) hav
        cases av with
        | tup vs => exact absurd rfl (hnt vs)
        | one c => exact this
        | agg cs => exact this
      match i with
      | 0 => cases hc; simp at hu; subst hu; exact .s _ rfl
      | 1 => cases hc; simp at hu; subst hu; exact hav'
      | 2 => cases hc; simp at hu; subst hu; exact .s _ rfl
      | i + 3 => simp at hc
theorem l_entry (h : RelAt C σ ρ a w) {o : Oper} {it : Operand} {K : St → Prop} (ho : o.op = .entry it) (hd : ∀ d, o.dst = some d → d < C.T) (hk : entryK C.P σ it o.dst K) : LOk C a w o K := by
  obtain ⟨x, β, k, e, n, D, left, cnt, key, u, av, av', hdst, hm, hb, h1, h2, h3, h4, hK⟩ := hk
  have hv := mx_val h hm hb rfl
  obtain ⟨b, r, h5, _, _, _, h6⟩ := h.blks β _ hb
  have hrun := h6 key u rfl w rfl rfl
  refine ⟨.tuple #[key, u], w, .inl ?_, fun _ => Keep.refl w _, _, hK, ρ, ?_⟩
  · simp [execOp, ho, hv, h5, hrun, Result.andThen]
  · rw [hdst]
    have one : ∀ {av : AV} {v : Value}, ofVal v = some av → (∀ vs, av ≠ .tup vs) → RelAV1 C w ρ σ.b av v := fun {av v} ha hn => by
      have := relAV_ofVal (C := C) (w := w) (ρ := ρ) (B := σ.b) ha
      cases av with
      | tup vs => exact absurd rfl (hn vs)
      | one c => exact this
      | agg cs => exact this
    refine RelAt.put (d := some x) (av := .tup [av, av']) h (fun t ht => by cases ht; exact hd x hdst) ⟨_, rfl, rfl, fun i c v hc hu => ?_⟩
    match i with
    | 0 => cases hc; simp at hu; subst hu; exact one h1 h2
    | 1 => cases hc; simp at hu; subst hu; exact one h3 h4
    | i + 2 => simp at hc
end
end Go.Sx
end
section
namespace Go.Sx
open Go.RowKit (Below)
def evs (σ : St) : List Operand → Option (List AV)
  | [] => some []
  | x :: xs => match ev σ x, evs σ xs with | some v, some vs => some (v :: vs) | _, _ => none
def ntup : AV → Prop | .tup _ => False | _ => True
def flatRows (rows : List (List Cell)) : Prop := ∀ row ∈ rows, ∀ c ∈ row, (∃ v, c = .s v) ∨ c = .l []
section
variable {C : Ctx} {σ : St} {ρ : Env} {a : Act} {w w' : World}
theorem own_flat {S N : Nat → Prop} {c : Cell} {v : Value} (h : Own w S c v) (hc : (∃ u, c = .s u) ∨ c = .l []) : Rep w N c v := by
  rcases hc with ⟨u, rfl⟩ | rfl
  · cases h with | s _ _ h => exact .s _ h
  · cases h with
    | e _ A => exact .l 0 [] A 0 (fun _ _ => undef) (fun _ h => by cases h) (Nat.le_refl _) (fun _ => rfl) (fun j k hj => by simp at hj) (fun j k row c h => by simp at h)
    | l _ sz _ _ e xs u F ho =>
      rcases ho.2 with ⟨rfl, _⟩ | ⟨g, cap, cur, rfl, _⟩
      · exact .l 0 [] none 0 (fun _ _ => undef) (fun _ h => by cases h) (Nat.le_refl _) (fun _ => rfl) (fun j k hj => by simp at hj) (fun j k row c h => by simp at h)
      · exact .l 0 [] (some ⟨g, 0, none⟩) cap (fun _ _ => undef) (fun _ h => by cases h) (Nat.zero_le _) (fun h => by cases h) (fun j k hj => by simp at hj) (fun j k row c h => by simp at h)
theorem argP_hf (h : RelAt C σ ρ a w) {x : Operand} {γ sz ep : Nat} {full full1 : Bool} {rows : List (List Cell)} (hx : ev σ x = some (.one (.h γ rows.length))) (hγ : get σ.b γ = some (.arr full sz ep rows)) (hs : sz ≠ 0) (hf : full = full1 ∨ (full1 = false ∧ flatRows rows)) :
    ∃ news u F, ArgP C σ ρ w C.P sz full1 (a.eval x) rows [γ] news u F := by
  obtain ⟨news, u, F, harg⟩ := argP_h h hx hγ hs
  rcases hf with rfl | ⟨rfl, hfl⟩
  · exact ⟨news, u, F, harg⟩
  · refine ⟨news, u, F, harg.len, harg.cells, ?_⟩
    obtain ⟨p1, p2, p3, p4, p5, p6⟩ := harg.pay
    refine ⟨p1, p2, p3, p4, p5, fun j k row c hj hk => ?_⟩
    have h1 := p6 j k row c hj hk
    cases full with
    | false => exact h1
    | true => exact own_flat h1 (hfl row (List.mem_of_getElem? hj) c (List.mem_of_getElem? hk))
end
def appK (P : Program) (σ : St) (c : Call) (d : Option Tmp) (K : St → Prop) : Prop := match c.argTypes.toList, c.args.toList with
  | [t, tx], [s, x] => (match esInfo P t, esInfo P tx, ev σ s, ev σ x, d with
    | some (sz, by_), some _, some (.one (.h β n)), some (.one (.h γ m)), some d => (match get σ.b β, get σ.b γ with
      | some (.arr full0 sz0 ep rows0), some (.arr full sz1 _ rows) => n = rows0.length ∧ m = rows.length ∧ sz0 = sz ∧ sz1 = sz ∧ β ≠ γ ∧ rows0.length + rows.length ≤ 9223372036854775807 ∧ (rows0.length + rows.length) * by_ ≤ 140737488355328 ∧
          ∃ full1, (full0 = full1 ∨ rows0 = []) ∧ (full = full1 ∨ (full1 = false ∧ flatRows rows)) ∧ K ⟨(d, .one (.h β (rows0.length + rows.length))) :: σ.t, pset (killAll σ.b [γ]) β (.arr full1 sz (ep + 1) (rows0 ++ rows))⟩
      | _, _ => False)
    | some (sz, by_), some _, some (.one (.h β n)), some (.one (.b (.l rows))), some d => (match get σ.b β with
      | some (.arr full0 sz0 ep rows0) => n = rows0.length ∧ sz0 = sz ∧ (∀ row ∈ rows, row.length = sz) ∧ rows0.length + rows.length ≤ 9223372036854775807 ∧ (rows0.length + rows.length) * by_ ≤ 140737488355328 ∧
          ∃ full1, (full0 = full1 ∨ rows0 = []) ∧ (full1 = true → scalarRows rows) ∧ K ⟨(d, .one (.h β (rows0.length + rows.length))) :: σ.t, pset σ.b β (.arr full1 sz (ep + 1) (rows0 ++ rows))⟩
      | _ => False)
    | some (sz, by_), some _, some (.one .nil), some (.one (.h γ m)), some d => (match get σ.b d, get σ.b γ with
      | none, some (.arr full sz1 _ rows) => m = rows.length ∧ sz1 = sz ∧ d ≠ γ ∧ rows.length ≤ 9223372036854775807 ∧ rows.length * by_ ≤ 140737488355328 ∧ K ⟨(d, .one (.h d rows.length)) :: σ.t, pset (killAll σ.b [γ]) d (.arr full sz 0 rows)⟩
      | _, _ => False)
    | some (sz, by_), some _, some (.one .em), some (.one (.h γ m)), some d => (match get σ.b d, get σ.b γ with
      | none, some (.arr full sz1 _ rows) => m = rows.length ∧ sz1 = sz ∧ d ≠ γ ∧ rows.length ≤ 9223372036854775807 ∧ rows.length * by_ ≤ 140737488355328 ∧ K ⟨(d, .one (.h d rows.length)) :: σ.t, pset (killAll σ.b [γ]) d (.arr full sz 0 rows)⟩
      | _, _ => False)
    | some (sz, by_), some _, some (.one .em), some (.one (.b (.l rows))), some d => (match get σ.b d with
      | none => (∀ row ∈ rows, row.length = sz) ∧ scalarRows rows ∧ rows.length ≤ 9223372036854775807 ∧ rows.length * by_ ≤ 140737488355328 ∧ K ⟨(d, .one (.h d rows.length)) :: σ.t, pset σ.b d (.arr true sz 0 rows)⟩
      | _ => False)
    | some (sz, by_), some _, some (.one .nil), some (.one (.b (.l rows))), some d => (match get σ.b d with
      | none => (∀ row ∈ rows, row.length = sz) ∧ scalarRows rows ∧ rows.length ≤ 9223372036854775807 ∧ rows.length * by_ ≤ 140737488355328 ∧ K ⟨(d, .one (.h d rows.length)) :: σ.t, pset σ.b d (.arr true sz 0 rows)⟩
      | _ => False)
    | _, _, _, _, _ => False)
  | _, _ => False
def recvAV : Bool → List Cell → AV
  | true, row => .agg (row.map .b)
  | false, [c] => .one (.b c)
  | false, row => .agg (row.map .b)
def opL (g : Bool) (P : Program) (σ : St) (o : Oper) (K : St → Prop) : Prop := match o.op with
  | .alloc e => (match zeroAV P e with | some z => ntup z ∧ newVarK σ o.dst (avCells z) K | none => False)
  | .box _ x => (match ev σ x with | some z => ntup z ∧ newVarK σ o.dst (avCells z) K | none => False)
  | .store t p x => o.dst = none ∧ (match ev σ p, ev σ x with
    | some (.one (.e β m i k)), some xv => storeE P σ t (.one (.e β m i k)) xv K
    | some pv, some xv => storeK P σ t pv xv K
    | _, _ => False)
  | .buildSlice t n ps => litK P σ t n ps.toList o.dst K
  | .makeSlice t l c => makeK P σ t l c o.dst K
  | .makeMap t r => mkMapK P σ t r o.dst K
  | .lookup t m x ok => lookK P σ t m x ok o.dst K ∨ lookE P σ t m x ok o.dst K
  | .mapUpdate t m x v => updK P σ t m x v o.dst K
  | .mapEntry t m x => entK P σ t m x o.dst K
  | .entryStore _ m s v => estK P σ m s v o.dst K
  | .range t m => rangeK P σ t m o.dst K
  | .next it s => nextK P σ it s o.dst K
  | .entry it => entryK P σ it o.dst K
  | .call c => (match c.callee with
    | .builtin .append => appK P σ c o.dst K
    | .builtin _ => opY P σ o.op fun av => K (σ.put o.dst av)
    | .value x => (match ev σ x, evs σ c.args.toList with
      | some (.one (.cl f caps)), some avs => CallV P σ o.dst f (avs ++ caps.map fun c => .one (.a c.1 c.2)) K ∨ (g = true ∧ CallG P σ o.dst f (avs ++ caps.map fun c => .one (.a c.1 c.2)) K)
      | some (.one (.b (.f f caps))), some avs => CallV P σ o.dst f (avs ++ caps.map fun c => .one (.b c)) K ∨ (g = true ∧ CallG P σ o.dst f (avs ++ caps.map fun c => .one (.b c)) K)
      | some (.one (.cm f β off)), some avs => CallV P σ o.dst f (.one (.a β off) :: avs) K ∨ (g = true ∧ CallG P σ o.dst f (.one (.a β off) :: avs) K)
      | some (.one (.b (.m f ag row))), some avs => CallV P σ o.dst f (recvAV ag row :: avs) K ∨ (g = true ∧ CallG P σ o.dst f (recvAV ag row :: avs) K)
      | _, _ => False)
    | .invoke _ _ => False)
  | op => opY P σ op fun av => K (σ.put o.dst av)
section
variable {C : Ctx} {σ : St} {ρ : Env} {a : Act} {w w' : World}
theorem evs_sound (h : RelAt C σ ρ a w) : ∀ {xs : List Operand} {avs : List AV}, evs σ xs = some avs → avs.length = xs.length ∧ ∀ (i : Nat) (av : AV), avs[i]? = some av → ∃ x, xs[i]? = some x ∧ RelAV C w ρ σ.b av (a.eval x)
  | [], avs, he => by cases he; exact ⟨rfl, fun i av h => by simp at h⟩
  | x :: xs, avs, he => by
    rw [evs] at he
    split at he
    · rename_i v vs hv hvs
      cases he
      obtain ⟨h1, h2⟩ := evs_sound h hvs
      refine ⟨by simp [h1], fun i av hi => ?_⟩
      cases i with
      | zero => cases hi; exact ⟨x, rfl, ev_sound h hv⟩
      | succ i => simpa using h2 i av (by simpa using hi)
    · cases he
theorem call_sound (h : RelAt C σ ρ a w) {d : Option Tmp} {f : Nat} {avs : List AV} {vals : Array Value} {K : St → Prop} (hd : ∀ t, d = some t → t < C.T) (hk : CallV C.P σ d f avs K) (hs : vals.size = avs.length)
    (hv : ∀ (i : Nat) (av : AV) (v : Value), avs[i]? = some av → vals[i]? = some v → RelAV C w ρ σ.b av v) :
    okF C.P f = true ∧ Calls C.P f vals w fun e w' => ∃ v, e = .returned v ∧ Keep w w' (fun _ => False) ∧ ∃ σ', K σ' ∧ Rel C σ' (a.put d v) w' := by
  obtain ⟨res, ⟨hok, hpc⟩, hsm, hwf, hst, hfr, hK⟩ := hk
  refine ⟨hok, ?_⟩
  have hargs : ∃ N : Nat → Prop, (hasBor res = true → N = Bor C ρ σ.b) ∧ ArgsR w N vals (avs.map (toSV σ.b)) := by
    cases hb : hasBor res with
    | false =>
      refine ⟨fun _ => True, (fun h => by cases h), by simp [hs], fun i sv v h1 h2 => ?_⟩
      rw [List.getElem?_map] at h1
      cases ha : avs[i]? with
      | none => rw [ha] at h1; cases h1
      | some av => rw [ha] at h1; cases h1; exact repV_of h (hv i av v ha h2) (allV_get hwf i av ha)
    | true =>
      refine ⟨Bor C ρ σ.b, fun _ => rfl, by simp [hs], fun i sv v h1 h2 => ?_⟩
      rw [List.getElem?_map] at h1
      cases ha : avs[i]? with
      | none => rw [ha] at h1; cases h1
      | some av => rw [ha] at h1; cases h1; exact repV_strict (hv i av v ha h2) (allV_get (hst hb) i av ha)
  obtain ⟨N, hN, hargs⟩ := hargs
  refine (hpc N w vals hargs (fun i v h1 h2 => by have := hv i _ v h1 h2; cases this; rfl)).mono ?_
  rintro e w' ⟨v, S, rfl, hkp, hres, hS⟩
  refine ⟨v, rfl, hkp, _, hK, ?_⟩
  cases d with
  | none => exact ⟨ρ, h.world hkp⟩
  | some d =>
    have hd' := hd d rfl
    simp only [Option.getD_some] at hfr
    cases res with
    | one rc =>
      have happ : rcABs (nameOf d) rc = rcsABs (nameOf d) [rc] := by simp [rcsABs]
      obtain ⟨ρ', h1, _, h2⟩ := adopt_rcs (β := nameOf d) (rcs := [rc]) (us := #[v]) (S := S) (G := fun i x => i = 0 ∧ S x) h hkp (fun rc' hrc => by rw [List.mem_singleton.1 hrc]; exact hsm) (by rw [← happ]; exact hfr) hS (fun i x hx => hx.2) (fun i i' x h1 h2 => by rw [h1.1, h2.1]) rfl
        (fun i rc' u h1 h2 => by
          cases i with
          | zero =>
            cases h1; cases h2
            have : (fun x => (0 : Nat) = 0 ∧ S x) = S := by funext x; simp
            show RelRC w' _ (fun x => (0 : Nat) = 0 ∧ S x) rc v
            rw [this]; exact hres
          | succ i => simp at h1)
        (fun rc' hrc hb x hx => by
          rw [List.mem_singleton.1 hrc] at hb
          rw [hN hb] at hx
          exact hx)
      refine ⟨ρ', ?_⟩
      have h3 := RelAt.put (d := some d) (av := rcAV (nameOf d) rc) (v := v) h1 (fun t ht => by cases ht; exact hd') (by
        have := h2 0 rc v rfl rfl
        simp only [Nat.mul_zero, Nat.add_zero] at this
        cases hav : rcAV (nameOf d) rc with
        | one c => rw [hav] at this; exact this
        | agg cs => rw [hav] at this; exact this
        | tup vs => rw [hav] at this; exact this.elim)
      simp only [← happ] at h3
      exact h3
    | tup rcs =>
      obtain ⟨arr, G, rfl, h1, h2, h3, h4⟩ := hres
      obtain ⟨ρ', h5, _, h6⟩ := adopt_rcs (β := nameOf d) (rcs := rcs) (us := arr) (S := S) (G := G) h hkp (fun rc hrc => List.all_eq_true.1 hsm rc hrc) hfr hS h2 h3 h1 h4
        (fun rc hrc hb x hx => by
          rw [hN (List.any_eq_true.2 ⟨rc, hrc, hb⟩)] at hx
          exact hx)
      refine ⟨ρ', RelAt.put (d := some d) (av := .tup (rcsAVs (nameOf d) rcs)) h5 (fun t ht => by cases ht; exact hd') ⟨arr, rfl, ?_, fun k c u hc hu => ?_⟩⟩
      · rw [h1]
        have : ∀ (rcs : List RC) (β : Nat), (rcsAVs β rcs).length = rcs.length := by
          intro rcs
          induction rcs with
          | nil => intro β; rfl
          | cons c cs ih => intro β; rw [rcsAVs, List.length_cons, List.length_cons, ih]
        rw [this]
      · have : ∀ (rcs : List RC) (β k : Nat) (c : AV), (rcsAVs β rcs)[k]? = some c → ∃ rc, rcs[k]? = some rc ∧ c = rcAV (β + 100 * k) rc := by
          intro rcs
          induction rcs with
          | nil => intro β k c hc; simp [rcsAVs] at hc
          | cons c0 cs ih =>
            intro β k c hc
            rw [rcsAVs] at hc
            cases k with
            | zero => cases hc; exact ⟨c0, rfl, rfl⟩
            | succ k =>
              obtain ⟨oc, h1, h2⟩ := ih (β + 100) k c (by simpa using hc)
              exact ⟨oc, by simpa using h1, by rw [h2]; congr 1; omega⟩
        obtain ⟨rc, hrc, rfl⟩ := this rcs _ k c hc
        exact h6 k rc u hrc hu
def After (g : Bool) (C : Ctx) (w : World) (o : Oper) (K : St → Prop) (a' : Act) (w' : World) : Prop := (g = false → loud o.op = false → Keep w w' (fun _ => False)) ∧ ∃ σ', K σ' ∧ Rel C σ' a' w'
theorem wp_lok {g : Bool} {o : Oper} {K : St → Prop} {Q : Exit → Act → World → Prop} (h : LOk C a w o K) : o.wp C.P a w (After g C w o K) Q := by
  obtain ⟨v, w', hr, hk, hK⟩ := h
  unfold Oper.wp
  rcases hr with hr | ⟨rfl, hr⟩
  · rw [hr]; exact ⟨fun _ => hk, hK⟩
  · rw [hr]; exact ⟨fun _ => hk, hK⟩
theorem wp_yok {g : Bool} (h : RelAt C σ ρ a w) {o : Oper} {K : St → Prop} {Q : Exit → Act → World → Prop} (hd : ∀ d, o.dst = some d → d < C.T) (hy : YOk C σ ρ a w o (fun av => K (σ.put o.dst av))) : o.wp C.P a w (After g C w o K) Q := by
  obtain ⟨av, v, hK, hv, hr⟩ := hy
  unfold Oper.wp
  rw [hr w (fun _ => Keep.refl w _)]
  exact ⟨fun _ _ => Keep.refl w _, _, hK, ρ, h.put hd hv⟩
theorem okF_spec {P : Program} {f : Nat} (h : okF P f = true) : ∃ fn c, P.funcs[f]? = some fn ∧ fn.name ≠ "runtime.NumGoroutine" ∧ fn.body = some c := by
  unfold okF at h
  split at h
  · rename_i fn hfn
    simp only [Bool.and_eq_true, Bool.not_eq_true', beq_eq_false_iff_ne] at h
    obtain ⟨c, hc⟩ := Option.isSome_iff_exists.1 h.2
    exact ⟨fn, c, hfn, h.1, hc⟩
  · cases h
theorem run_callFunc {P : Program} {f : Nat} (h : okF P f = true) (args : Array Value) (w : World) : (callFunc f args).run P w = .ok (.enter f args) w := by
  obtain ⟨fn, c, h1, h2, h3⟩ := okF_spec h
  simp [callFunc, h1, h2, h3]
theorem wp_callV {g : Bool} (h : RelAt C σ ρ a w) {o : Oper} {c : Call} {x : Operand} {f : Nat} {us : Array Value} {avs : List AV} {cavs : List AV} {K : St → Prop} {Q : Exit → Act → World → Prop} (ho : o.op = .call c) (hc : c.callee = .value x) (hx : a.eval x = .func (.func f) #[] us)
    (hd : ∀ d, o.dst = some d → d < C.T) (ha : evs σ c.args.toList = some avs) (hus : us.size = cavs.length) (hcv : ∀ (i : Nat) (av : AV) (v : Value), cavs[i]? = some av → us[i]? = some v → RelAV C w ρ σ.b av v) (hk : CallV C.P σ o.dst f (avs ++ cavs) K ∨ (g = true ∧ CallG C.P σ o.dst f (avs ++ cavs) K)) : o.wp C.P a w (After g C w o K) Q := by
  obtain ⟨hl, hav⟩ := evs_sound h ha
  have hl2 : avs.length = c.args.size := by rw [hl, Array.length_toList]
  have hsz : (c.args.map a.eval ++ us).size = (avs ++ cavs).length := by simp [hl, hus]
  have hrel : ∀ (i : Nat) (av : AV) (v : Value), (avs ++ cavs)[i]? = some av → (c.args.map a.eval ++ us)[i]? = some v → RelAV C w ρ σ.b av v := fun i av v h1 h2 => by
    rw [List.getElem?_append] at h1
    rw [Array.getElem?_append] at h2
    by_cases hi : i < avs.length
    · rw [if_pos hi] at h1
      rw [if_pos (by rw [Array.size_map]; omega)] at h2
      obtain ⟨y, hy, hrel⟩ := hav i av h1
      rw [Array.getElem?_map] at h2
      rw [Array.getElem?_toList] at hy
      rw [hy] at h2
      cases h2
      exact hrel
    · rw [if_neg hi] at h1
      rw [if_neg (by rw [Array.size_map]; omega)] at h2
      refine hcv _ av v h1 ?_
      rw [hl2]; simpa using h2
  have fin : okF C.P f = true → Calls C.P f (c.args.map a.eval ++ us) w (fun e w' => ∃ v, e = .returned v ∧ (g = false → Keep w w' (fun _ => False)) ∧ ∃ σ', K σ' ∧ Rel C σ' (a.put o.dst v) w') → o.wp C.P a w (After g C w o K) Q := fun hok hcalls => by
    have hr : (execOp a.eval o).run C.P w = .ok (.enter f (c.args.map a.eval ++ us)) w := by
      simp [execOp, ho, resolve, hc, hx, Deferred.ofValue, invoke, run_callFunc hok]
    unfold Oper.wp
    rw [hr]
    refine hcalls.mono ?_
    rintro e w' ⟨v, rfl, hkp, hK⟩
    exact ⟨fun hg _ => hkp hg, hK⟩
  rcases hk with hk | ⟨hg, hk⟩
  · obtain ⟨hok, hcalls⟩ := call_sound h hd hk hsz hrel
    exact fin hok (hcalls.mono (fun e w' ⟨v, h1, h2, h3⟩ => ⟨v, h1, fun _ => h2, h3⟩))
  · obtain ⟨hok, hcalls⟩ := call_soundG h hd hk hsz hrel
    exact fin hok (hcalls.mono (fun e w' ⟨v, h1, h2⟩ => ⟨v, h1, (fun h => absurd (hg.symm.trans h) (by decide)), h2⟩))
theorem wp_callM {g : Bool} (h : RelAt C σ ρ a w) {o : Oper} {c : Call} {x : Operand} {f : Nat} {x0 : Value} {av0 : AV} {avs : List AV} {K : St → Prop} {Q : Exit → Act → World → Prop} (ho : o.op = .call c) (hc : c.callee = .value x) (hx : a.eval x = .func (.func f) #[x0] #[])
    (hd : ∀ d, o.dst = some d → d < C.T) (ha : evs σ c.args.toList = some avs) (h0 : RelAV C w ρ σ.b av0 x0) (hk : CallV C.P σ o.dst f (av0 :: avs) K ∨ (g = true ∧ CallG C.P σ o.dst f (av0 :: avs) K)) : o.wp C.P a w (After g C w o K) Q := by
  obtain ⟨hl, hav⟩ := evs_sound h ha
  have hl2 : avs.length = c.args.size := by rw [hl, Array.length_toList]
  have hsz : (#[x0] ++ c.args.map a.eval).size = (av0 :: avs).length := by simp [hl]; omega
  have hrel : ∀ (i : Nat) (av : AV) (v : Value), (av0 :: avs)[i]? = some av → (#[x0] ++ c.args.map a.eval)[i]? = some v → RelAV C w ρ σ.b av v := fun i av v h1 h2 => by
    rw [Array.getElem?_append] at h2
    cases i with
    | zero => simp at h1 h2; subst h1; subst h2; exact h0
    | succ i =>
      rw [List.getElem?_cons_succ] at h1
      rw [if_neg (by simp)] at h2
      obtain ⟨y, hy, hrel⟩ := hav i av h1
      have h2 : (c.args.map a.eval)[i]? = some v := by simpa using h2
      rw [Array.getElem?_map] at h2
      rw [Array.getElem?_toList] at hy
      rw [hy] at h2
      cases h2
      exact hrel
  have fin : okF C.P f = true → Calls C.P f (#[x0] ++ c.args.map a.eval) w (fun e w' => ∃ v, e = .returned v ∧ (g = false → Keep w w' (fun _ => False)) ∧ ∃ σ', K σ' ∧ Rel C σ' (a.put o.dst v) w') → o.wp C.P a w (After g C w o K) Q := fun hok hcalls => by
    have hr : (execOp a.eval o).run C.P w = .ok (.enter f (#[x0] ++ c.args.map a.eval)) w := by
      simp [execOp, ho, resolve, hc, hx, Deferred.ofValue, invoke, run_callFunc hok]
    unfold Oper.wp
    rw [hr]
    refine hcalls.mono ?_
    rintro e w' ⟨v, rfl, hkp, hK⟩
    exact ⟨fun hg _ => hkp hg, hK⟩
  rcases hk with hk | ⟨hg, hk⟩
  · obtain ⟨hok, hcalls⟩ := call_sound h hd hk hsz hrel
    exact fin hok (hcalls.mono (fun e w' ⟨v, h1, h2, h3⟩ => ⟨v, h1, fun _ => h2, h3⟩))
  · obtain ⟨hok, hcalls⟩ := call_soundG h hd hk hsz hrel
    exact fin hok (hcalls.mono (fun e w' ⟨v, h1, h2⟩ => ⟨v, h1, (fun h => absurd (hg.symm.trans h) (by decide)), h2⟩))
theorem wp_app {g : Bool} (h : RelAt C σ ρ a w) {o : Oper} {c : Call} {K : St → Prop} {Q : Exit → Act → World → Prop} (ho : o.op = .call c) (hc : c.callee = .builtin .append) (hd : ∀ d, o.dst = some d → d < C.T) (hk : appK C.P σ c o.dst K) : o.wp C.P a w (After g C w o K) Q := by
  have hnk : ∀ {t sz by_ : Nat}, esInfo C.P t = some (sz, by_) → ∃ d, C.P.underlying t = some d ∧ ∀ k, d ≠ .int k := fun {t sz by_} he => by
    obtain ⟨e, i, z, hu, _⟩ := esInfo_spec he
    exact ⟨_, hu, fun k hk => by cases hk⟩
  have fin : ∀ {t tx : Nat} {s x : Operand} {d : Nat} {v' : Value} {w' : World} {σ' : St}, c.argTypes.toList = [t, tx] → c.args.toList = [s, x] → o.dst = some d → (Builtin.append_ #[t, tx] o.type #[a.eval s, a.eval x]).run C.P w = .ok v' w' → K σ' → Rel C σ' (a.put (some d) v') w' → o.wp C.P a w (After g C w o K) Q := by
    intro t tx s x d v' w' σ' ht hx hdst hr hK hrel
    have h1 : c.argTypes = #[t, tx] := by rw [← Array.toArray_toList (xs := c.argTypes), ht]
    have h2 : c.args = #[s, x] := by rw [← Array.toArray_toList (xs := c.args), hx]
    have hrun : (execOp a.eval o).run C.P w = .ok (.value v') w' := by
      simp [execOp, ho, resolve, hc, invoke, builtin, h1, h2, hr]
    unfold Oper.wp
    rw [hrun]
    refine ⟨fun _ hq => ?_, σ', hK, ?_⟩
    · rw [ho] at hq
      obtain ⟨callee, args, ats⟩ := c
      cases hc
      cases hq
    · rw [hdst]; exact hrel
  unfold appK at hk
  split at hk
  case h_2 => exact hk.elim
  rename_i t tx s x ht hx
  split at hk
  · rename_i sz by_ p β n γ m d hes hex hs hxx hdst
    split at hk
    · rename_i full0 sz0 ep rows0 full sz1 ep1 rows hβ hγ
      obtain ⟨rfl, rfl, rfl, rfl, hne, hb1, hb2, full1, hfull, hfl, hK⟩ := hk
      obtain ⟨dt, hdt1, hdt2⟩ := hnk hex
      obtain ⟨_, _, _, _, _, _, _, _, _, hne0⟩ := esInfo_spec hes
      obtain ⟨news, u, F, harg⟩ := argP_hf h hxx hγ hne0 hfl
      have hv : a.eval s = ρ.v β := by
        obtain ⟨_, ab, hg, h2⟩ := ev_sound h hs
        rw [hβ] at hg
        cases hg
        exact (h2 _ _ _ _ rfl).2 rfl
      obtain ⟨v', w', hr, hrel⟩ := app_old (ty := o.type) h hes hdt1 hdt2 hβ hfull (by simpa using hne) harg (hd d hdst) hb1 hb2
      rw [← hv] at hr
      exact fin ht hx hdst hr hK hrel
    · exact hk.elim
  · rename_i sz by_ p β n rows d hes hex hs hxx hdst
    split at hk
    · rename_i full0 sz0 ep rows0 hβ
      obtain ⟨rfl, rfl, hsz, hb1, hb2, full1, hfull, hsc, hK⟩ := hk
      obtain ⟨dt, hdt1, hdt2⟩ := hnk hex
      obtain ⟨news, u, F, harg⟩ := argP_b h hxx hsz hsc
      have hv : a.eval s = ρ.v β := by
        obtain ⟨_, ab, hg, h2⟩ := ev_sound h hs
        rw [hβ] at hg
        cases hg
        exact (h2 _ _ _ _ rfl).2 rfl
      obtain ⟨v', w', hr, hrel⟩ := app_old (ty := o.type) h hes hdt1 hdt2 hβ hfull (by simp) harg (hd d hdst) hb1 hb2
      rw [← hv] at hr
      exact fin ht hx hdst hr hK hrel
    · exact hk.elim
  · rename_i sz by_ p γ m d hes hex hs hxx hdst
    split at hk
    · rename_i full sz1 ep1 rows hn hγ
      obtain ⟨rfl, rfl, hne, hb1, hb2, hK⟩ := hk
      obtain ⟨dt, hdt1, hdt2⟩ := hnk hex
      obtain ⟨_, _, _, _, _, _, _, _, _, hne0⟩ := esInfo_spec hes
      obtain ⟨news, u, F, harg⟩ := argP_h h hxx hγ hne0
      have hv : a.eval s = .slice none 0 0 := ev_sound h hs
      obtain ⟨v', w', hr, _, hrel⟩ := app_new (ty := o.type) (A := none) h hes hdt1 hdt2 hn (by simpa using hne) harg (hd d hdst) hb1 hb2
      rw [← hv] at hr
      exact fin ht hx hdst hr hK hrel
    · exact hk.elim
  · rename_i sz by_ p γ m d hes hex hs hxx hdst
    split at hk
    · rename_i full sz1 ep1 rows hn hγ
      obtain ⟨rfl, rfl, hne, hb1, hb2, hK⟩ := hk
      obtain ⟨dt, hdt1, hdt2⟩ := hnk hex
      obtain ⟨_, _, _, _, _, _, _, _, _, hne0⟩ := esInfo_spec hes
      obtain ⟨news, u, F, harg⟩ := argP_h h hxx hγ hne0
      obtain ⟨A, hv⟩ := ev_sound h hs
      obtain ⟨v', w', hr, _, hrel⟩ := app_new (ty := o.type) (A := A) h hes hdt1 hdt2 hn (by simpa using hne) harg (hd d hdst) hb1 hb2
      rw [← hv] at hr
      exact fin ht hx hdst hr hK hrel
    · exact hk.elim
  · rename_i sz by_ p rows d hes hex hs hxx hdst
    split at hk
    · rename_i hn
      obtain ⟨hsz, hsc, hb1, hb2, hK⟩ := hk
      obtain ⟨dt, hdt1, hdt2⟩ := hnk hex
      obtain ⟨news, u, F, harg⟩ := argP_b (full := true) h hxx hsz (fun _ => hsc)
      obtain ⟨A, hv⟩ := ev_sound h hs
      obtain ⟨v', w', hr, _, hrel⟩ := app_new (ty := o.type) (A := A) h hes hdt1 hdt2 hn (by simp) harg (hd d hdst) hb1 hb2
      rw [← hv] at hr
      exact fin ht hx hdst hr hK hrel
    · exact hk.elim
  · rename_i sz by_ p rows d hes hex hs hxx hdst
    split at hk
    · rename_i hn
      obtain ⟨hsz, hsc, hb1, hb2, hK⟩ := hk
      obtain ⟨dt, hdt1, hdt2⟩ := hnk hex
      obtain ⟨news, u, F, harg⟩ := argP_b (full := true) h hxx hsz (fun _ => hsc)
      have hv : a.eval s = .slice none 0 0 := ev_sound h hs
      obtain ⟨v', w', hr, _, hrel⟩ := app_new (ty := o.type) (A := none) h hes hdt1 hdt2 hn (by simp) harg (hd d hdst) hb1 hb2
      rw [← hv] at hr
      exact fin ht hx hdst hr hK hrel
    · exact hk.elim
  · exact hk.elim
theorem opL_sound {g : Bool} (h : RelAt C σ ρ a w) {o : Oper} {K : St → Prop} {Q : Exit → Act → World → Prop} (hd : ∀ d, o.dst = some d → d < C.T) (hk : opL g C.P σ o K) : o.wp C.P a w (After g C w o K) Q := by
  have hY : opY C.P σ o.op (fun av => K (σ.put o.dst av)) → o.wp C.P a w (After g C w o K) Q := fun hk => wp_yok h hd (opY_sound h hk)
  have hnt : ∀ {z : AV}, ntup z → ∀ vs, z ≠ .tup vs := fun {z} hz vs he => by subst he; exact hz
  cases ho : o.op with
  | alloc e =>
    simp only [opL, ho] at hk
    split at hk
    · rename_i z hz; exact wp_lok (l_alloc h ho hd hz (hnt hk.1) hk.2)
    · exact hk.elim
  | box e x =>
    simp only [opL, ho] at hk
    split at hk
    · rename_i z hz; exact wp_lok (l_box h ho hd hz (hnt hk.1) hk.2)
    · exact hk.elim
  | store t p x =>
    simp only [opL, ho] at hk
    obtain ⟨hdst, hk⟩ := hk
    split at hk
    · rename_i β m i k xv hp hx; exact wp_lok (l_storeE h ho hdst hp hx hk)
    · rename_i pv xv _ hp hx; exact wp_lok (l_storeVar h ho hdst hp hx hk)
    · exact hk.elim
  | buildSlice t n ps => simp only [opL, ho] at hk; exact wp_lok (l_lit h ho hd hk)
  | makeSlice t l c => simp only [opL, ho] at hk; exact wp_lok (l_make h ho hd hk)
  | makeMap t r => simp only [opL, ho] at hk; exact wp_lok (l_makeMap h ho hd hk)
  | lookup t m x ok => simp only [opL, ho] at hk; exact hk.elim (fun hk => wp_lok (l_lookup h ho hd hk)) (fun hk => wp_lok (l_lookE h ho hd hk))
  | mapUpdate t m x v => simp only [opL, ho] at hk; exact wp_lok (l_mapUpdate h ho hk)
  | mapEntry t m x => simp only [opL, ho] at hk; exact wp_lok (l_mapEntry h ho hd hk)
  | entryStore t m s v => simp only [opL, ho] at hk; exact wp_lok (l_entryStore h ho hk)
  | range t m => simp only [opL, ho] at hk; exact wp_lok (l_range h ho hd hk)
  | next it s => simp only [opL, ho] at hk; exact wp_lok (l_next h ho hd hk)
  | entry it => simp only [opL, ho] at hk; exact wp_lok (l_entry h ho hd hk)
  | call c =>
    simp only [opL, ho] at hk
    split at hk
    · rename_i hc; exact wp_app h ho hc hd hk
    · rename_i b hb hc; exact hY (by rw [ho]; exact hk)
    · rename_i x hc
      split at hk
      · rename_i f caps avs hx ha
        obtain ⟨us, h1, h2, h3⟩ := ev_sound h hx
        refine wp_callV h ho hc h1 hd ha (by simp [h2]) (fun i av v hi hv => ?_) hk
        rw [List.getElem?_map] at hi
        cases hcp : caps[i]? with
        | none => rw [hcp] at hi; cases hi
        | some p => rw [hcp] at hi; cases hi; exact h3 i p v hcp hv
      · rename_i f caps avs hx ha
        have h1 : Rep w (Bor C ρ σ.b) (.f f caps) (a.eval x) := ev_sound h hx
        generalize hev : a.eval x = xv at h1
        cases h1 with
        | f _ _ us h2 h3 =>
          refine wp_callV h ho hc hev hd ha (by simp [h2]) (fun i av v hi hv => ?_) hk
          rw [List.getElem?_map] at hi
          cases hcp : caps[i]? with
          | none => rw [hcp] at hi; cases hi
          | some p => rw [hcp] at hi; cases hi; exact h3 i p v hcp hv
      · rename_i f β off avs hx ha
        obtain ⟨x0, h1, h2⟩ := ev_sound h hx
        exact wp_callM (av0 := .one (.a β off)) h ho hc h1 hd ha h2 hk
      · rename_i f ag row avs hx ha
        have h1 : Rep w (Bor C ρ σ.b) (.m f ag row) (a.eval x) := ev_sound h hx
        generalize hev : a.eval x = xv at h1
        cases h1 with
        | m _ _ _ x0 arr h2 h3 h4 =>
          refine wp_callM h ho hc hev hd ha ?_ hk
          cases ag with
          | true =>
            have h2 : x0 = .agg arr := h2
            refine ⟨arr, h2, by simpa using h3, fun k c u hc hu => ?_⟩
            rw [List.getElem?_map] at hc
            cases hk' : row[k]? with
            | none => rw [hk'] at hc; cases hc
            | some c0 => rw [hk'] at hc; cases hc; exact h4 k c0 u hk' hu
          | false =>
            have h2 : arr = #[x0] := h2
            subst h2
            match row, h3, h4 with
            | [c], _, h4 => exact h4 0 c x0 rfl rfl
            | [], h3, _ => simp at h3
            | _ :: _ :: _, h3, _ => simp at h3
      · exact hk.elim
    · exact hk.elim
  | _ => simp only [opL, ho] at hk; exact hY (by rw [ho]; exact hk)
end
end Go.Sx
end
section
namespace Go.Sx
open Go.RowKit (Below)
def someB (B : List (Nat × AB)) (β : Nat) : Bool := (get B β).isSome
def leAC (B B' : List (Nat × AB)) : AC → AC → Prop
  | .b c, .b c' => c = c'
  | .nil, .nil => True
  | .nil, .em => True
  | .em, .em => True
  | .nil, .h β n => n = 0 ∧ someB B β = false ∧ (match get B' β with | some (.arr _ _ _ rows) => rows = [] | _ => False)
  | .nil, .b c => c = .l []
  | .em, .b c => c = .l []
  | .h β n, .h β' n' => β = β' ∧ n = n' ∧ someB B' β = true
  | .h β n, .b c => someB B' β = false ∧ (match get B β with | some (.arr _ _ _ rows) => n = rows.length ∧ c = .l rows | _ => False)
  | .a β off, .a β' off' => β = β' ∧ off = off' ∧ someB B' β = true
  | .a β off, .b c => off = 0 ∧ someB B' β = false ∧ (match get B β with | some (.var cs) => (match allB cs with | some row => c = .p row | none => False) | _ => False)
  | .e β n i k, .e β' n' i' k' => β = β' ∧ n = n' ∧ i = i' ∧ k = k' ∧ someB B' β = true
  | .cm f β off, .cm f' β' off' => f = f' ∧ β = β' ∧ off = off' ∧ someB B' β = true
  | .mx m β, .mx m' β' => m = m' ∧ β = β' ∧ someB B' β = true
  | .cl f caps, .cl f' caps' => f = f' ∧ caps = caps' ∧ (caps.all fun c => someB B' c.1) = true
  | _, _ => False
def leCs (B B' : List (Nat × AB)) : List AC → List AC → Prop
  | [], [] => True
  | c :: cs, c' :: cs' => leAC B B' c c' ∧ leCs B B' cs cs'
  | _, _ => False
def leV1 (B B' : List (Nat × AB)) : AV → AV → Prop
  | .one c, .one c' => leAC B B' c c'
  | .agg cs, .agg cs' => leCs B B' cs cs'
  | _, _ => False
def leVs (B B' : List (Nat × AB)) : List AV → List AV → Prop
  | [], [] => True
  | c :: cs, c' :: cs' => leV1 B B' c c' ∧ leVs B B' cs cs'
  | _, _ => False
def leAV (B B' : List (Nat × AB)) : AV → AV → Prop
  | .tup vs, .tup vs' => leVs B B' vs vs'
  | v, v' => leV1 B B' v v'
def leT (B B' : List (Nat × AB)) (t : List (Nat × AV)) : List (Nat × AV) → Prop
  | [] => True
  | (k, v') :: l => (match get t k with | some v => leAV B B' v v' | none => False) ∧ leT B B' t l
def leAB (B B' : List (Nat × AB)) : AB → AB → Prop
  | .var cs, .var cs' => leCs B B' cs cs'
  | .arr f sz _ rows, .arr f' sz' _ rows' => rows = rows' ∧ (f = f' ∨ rows = []) ∧ (sz' = sz ∨ sz' = 0)
  | .mp k e n D it, .mp k' e' n' D' it' => k = k' ∧ e = e' ∧ n = n' ∧ D = D' ∧ it = it'
  | .kp c, .kp c' => c = c'
  | .me k e n D kl b, .me k' e' n' D' kl' b' => k = k' ∧ e = e' ∧ n = n' ∧ D = D' ∧ kl = kl' ∧ b = b'
  | _, .dead => True
  | _, _ => False
def leB (B B' : List (Nat × AB)) : List (Nat × AB) → Prop
  | [] => True
  | (β, ab') :: l => (match get B β with | some ab => leAB B B' ab ab' | none => (match ab' with | .arr _ _ _ rows => rows = [] | _ => False)) ∧ leB B B' l
def keepG (B' : List (Nat × AB)) : List (Nat × AB) → Bool
  | [] => true
  | (β, _) :: l => bif Nat.ble 1000000000 β then (bif someB B' β then keepG B' l else false) else keepG B' l
def Wk0 (σ σ' : St) : Prop := leT σ.b σ'.b σ.t σ'.t ∧ leB σ.b σ'.b σ'.b ∧ keepG σ'.b σ.b = true
theorem keepG_get {B' : List (Nat × AB)} : ∀ {l : List (Nat × AB)}, keepG B' l = true → ∀ {β : Nat} {ab : AB}, get l β = some ab → 1000000000 ≤ β → someB B' β = true
  | [], _, β, ab, h, _ => by cases h
  | (k, v) :: l, hk, β, ab, h, hb => by
    rw [keepG] at hk
    rw [get_cons'] at h
    by_cases hkb : k = β
    · subst hkb
      rw [Nat.ble_eq_true_of_le hb, cond_true] at hk
      cases hs : someB B' k with
      | true => rfl
      | false => rw [hs] at hk; cases hk
    · rw [if_neg hkb] at h
      cases hc : Nat.ble 1000000000 k with
      | false => rw [hc] at hk; exact keepG_get hk h hb
      | true =>
        rw [hc] at hk
        cases hs : someB B' k with
        | true => rw [hs] at hk; exact keepG_get hk h hb
        | false => rw [hs] at hk; cases hk
section
variable {C : Ctx} {σ σ' : St} {ρ : Env} {a : Act} {w : World}
theorem leB_get {B B' : List (Nat × AB)} : ∀ {l : List (Nat × AB)}, leB B B' l → ∀ {β : Nat} {ab' : AB}, get l β = some ab' → (∃ ab, get B β = some ab ∧ leAB B B' ab ab') ∨ (get B β = none ∧ ∃ f s e, ab' = .arr f s e [])
  | [], _, β, ab', h => by cases h
  | (k, v) :: l, hl, β, ab', h => by
    rw [get_cons'] at h
    by_cases hk : k = β
    · rw [if_pos hk] at h
      cases h
      subst hk
      have h1 := hl.1
      split at h1
      · rename_i ab hab; exact .inl ⟨ab, hab, h1⟩
      · rename_i hn
        split at h1
        · rename_i f s e rows; subst h1; exact .inr ⟨hn, f, s, e, rfl⟩
        · exact h1.elim
    · rw [if_neg hk] at h; exact leB_get hl.2 h
theorem leT_get {B B' : List (Nat × AB)} {t : List (Nat × AV)} : ∀ {l : List (Nat × AV)}, leT B B' t l → ∀ {k : Nat} {v' : AV}, get l k = some v' → ∃ v, get t k = some v ∧ leAV B B' v v'
  | [], _, k, v', h => by cases h
  | (k0, v) :: l, hl, k, v', h => by
    rw [get_cons'] at h
    by_cases hk : k0 = k
    · rw [if_pos hk] at h
      cases h
      subst hk
      have h1 := hl.1
      split at h1
      · rename_i v0 hv0; exact ⟨v0, hv0, h1⟩
      · exact h1.elim
    · rw [if_neg hk] at h; exact leT_get hl.2 h
theorem leCs_get {B B' : List (Nat × AB)} : ∀ {cs cs' : List AC}, leCs B B' cs cs' → cs.length = cs'.length ∧ ∀ {k : Nat} {c' : AC}, cs'[k]? = some c' → ∃ c, cs[k]? = some c ∧ leAC B B' c c'
  | [], [], _ => ⟨rfl, fun h => by simp at h⟩
  | c :: cs, c' :: cs', h => by
    obtain ⟨h1, h2⟩ := leCs_get h.2
    refine ⟨by simp [h1], fun {k c1} hk => ?_⟩
    cases k with
    | zero => cases hk; exact ⟨c, rfl, h.1⟩
    | succ k => simpa using h2 (by simpa using hk)
  | [], _ :: _, h => h.elim
  | _ :: _, [], h => h.elim
theorem leVs_get {B B' : List (Nat × AB)} : ∀ {cs cs' : List AV}, leVs B B' cs cs' → cs.length = cs'.length ∧ ∀ {k : Nat} {c' : AV}, cs'[k]? = some c' → ∃ c, cs[k]? = some c ∧ leV1 B B' c c'
  | [], [], _ => ⟨rfl, fun h => by simp at h⟩
  | c :: cs, c' :: cs', h => by
    obtain ⟨h1, h2⟩ := leVs_get h.2
    refine ⟨by simp [h1], fun {k c1} hk => ?_⟩
    cases k with
    | zero => cases hk; exact ⟨c, rfl, h.1⟩
    | succ k => simpa using h2 (by simpa using hk)
  | [], _ :: _, h => h.elim
  | _ :: _, [], h => h.elim
def wkEnv (B : List (Nat × AB)) (ρ : Env) : Env := ⟨fun β => if someB B β then ρ.v β else .slice none 0 0, fun β => if someB B β then ρ.S β else fun _ => False⟩
theorem bor_wk {B B' : List (Nat × AB)} (hB : leB B B' B') {x : Nat} (h : Bor C ρ B x) : Bor C (wkEnv B ρ) B' x := by
  refine ⟨h.1, fun β ab' hg hS => ?_⟩
  rcases leB_get hB hg with ⟨ab, hab, _⟩ | ⟨hn, _⟩
  · have : someB B β = true := by simp [someB, hab]
    simp only [wkEnv, this, if_true] at hS
    exact h.2 β ab hab hS
  · have : someB B β = false := by simp [someB, hn]
    simp only [wkEnv, this] at hS
    exact hS
theorem relAC_wk (h : RelAt C σ ρ a w) {B' : List (Nat × AB)} (hB : leB σ.b B' B') {c c' : AC} {v : Value} (hl : leAC σ.b B' c c') (hv : RelAC C w ρ σ.b c v) : RelAC C w (wkEnv σ.b ρ) B' c' v := by
  have ad : ∀ {β off : Nat} {v : Value}, someB B' β = true → RelAd ρ σ.b β off v → RelAd (wkEnv σ.b ρ) B' β off v := by
    intro β off v hs hv
    obtain ⟨ab, g, hg, rfl, h2⟩ := hv
    obtain ⟨ab', hg'⟩ := Option.isSome_iff_exists.1 hs
    refine ⟨ab', g, hg', rfl, fun cs' he => ?_⟩
    rcases leB_get hB hg' with ⟨ab0, hab, hle⟩ | ⟨hn, _⟩
    · rw [hg] at hab
      cases hab
      subst he
      have hsb : someB σ.b β = true := by simp [someB, hg]
      simp only [wkEnv, hsb, if_true]
      cases ab with
      | var cs => exact h2 cs rfl
      | arr f s e r => exact hle.elim
      | dead => exact hle.elim
      | mp k e n D it => exact hle.elim
      | kp c => exact hle.elim
      | me k e n D kl b => exact hle.elim
    · rw [hg] at hn; cases hn
  have nilRep : ∀ {A : Option Addr}, Rep w (Bor C (wkEnv σ.b ρ) B') (.l []) (.slice A 0 0) := fun {A} => .l 0 [] A 0 (fun _ _ => undef) (by simp) (Nat.le_refl _) (fun _ => rfl) (fun j k hj => by simp at hj) (fun j k row c h1 => by simp at h1)
  cases c with
  | b c => cases c' <;> simp only [leAC] at hl; subst hl; exact Rep.mono hv (fun x _ hx => bor_wk hB hx)
  | nil =>
    cases hv
    cases c' <;> simp only [leAC] at hl
    · subst hl; exact nilRep
    · rfl
    · exact ⟨none, rfl⟩
    · rename_i β n
      obtain ⟨rfl, hs, hm⟩ := hl
      split at hm
      · rename_i f s e rows hg
        subst hm
        refine ⟨⟨none, 0, rfl⟩, _, hg, fun f' s' e' r' he => ?_⟩
        cases he
        refine ⟨Nat.le_refl _, fun _ => ?_⟩
        simp only [wkEnv, hs, Bool.false_eq_true, if_false]
      · exact hm.elim
  | em =>
    obtain ⟨A, rfl⟩ := hv
    cases c' <;> simp only [leAC] at hl
    · subst hl; exact nilRep
    · exact ⟨A, rfl⟩
  | h β n =>
    cases c' <;> simp only [leAC] at hl
    · obtain ⟨hs, hm⟩ := hl
      split at hm
      · rename_i f s e rows hg
        obtain ⟨rfl, rfl⟩ := hm
        obtain ⟨_, ab, hg', h2⟩ := hv
        rw [hg] at hg'
        cases hg'
        rw [(h2 _ _ _ _ rfl).2 rfl]
        obtain ⟨sz', _, hslab⟩ := h.blks β _ hg
        have hnone : get B' β = none := by
          cases hb : get B' β with
          | none => rfl
          | some ab => simp [someB, hb] at hs
        have hrel : ∀ x, ρ.S β x → Bor C (wkEnv σ.b ρ) B' x := fun x hx => by
          refine ⟨.inr (h.mine β _ x hg hx).2, fun γ ab' hγ hS => ?_⟩
          rcases leB_get hB hγ with ⟨ab0, hab, _⟩ | ⟨hn, _⟩
          · have hsb : someB σ.b γ = true := by simp [someB, hab]
            simp only [wkEnv, hsb, if_true] at hS
            have := h.disj γ β _ _ x hab hg hS hx
            subst this
            rw [hnone] at hγ; cases hγ
          · have hsb : someB σ.b γ = false := by simp [someB, hn]
            simp only [wkEnv, hsb] at hS
            exact hS
        cases f with
        | true => exact Own.rep (own_slab.2 ⟨sz', hslab⟩) hrel
        | false =>
          rcases hslab with ⟨rfl, A, hA⟩ | ⟨e0, xs, u, F, hs0⟩
          · rw [hA]; exact nilRep
          · have hr' : ∀ j k row c, rows[j]? = some row → row[k]? = some c → Rep w (Bor C (wkEnv σ.b ρ) B') c (u j k) := fun j k row c h1 h2 => Rep.mono (hs0.hr j k row c h1 h2) (fun x _ hx => bor_wk hB hx)
            rcases hs0.ho.2 with ⟨hv0, h0⟩ | ⟨g, cap, cur, hv0, hbg, hgc, hnc, hcm, hcs, htake⟩
            · have : rows = [] := List.eq_nil_of_length_eq_zero h0
              subst this
              rw [hv0]; exact nilRep
            · rw [hv0]
              refine .l sz' rows (some ⟨g, 0, none⟩) cap u hs0.hz hnc (fun h => by cases h) (fun j k hj hk => ⟨⟨g, 0, none⟩, rfl, hrel g (hs0.hS g (by rw [hv0]; rfl)), ?_⟩) hr'
              rw [add_plain, cell_of_row w g _ cur e0 (0, 0) hgc]
              have h1 := hs0.hu j k hj hk
              rw [← htake, List.getElem?_take, if_pos (idx_lt hj hk)] at h1
              simpa using h1
      · exact hm.elim
    · rename_i β' n'
      obtain ⟨rfl, rfl, hs⟩ := hl
      obtain ⟨h1, ab, hg, h2⟩ := hv
      obtain ⟨ab', hg'⟩ := Option.isSome_iff_exists.1 hs
      refine ⟨h1, ab', hg', fun f' s' e' r' he => ?_⟩
      rcases leB_get hB hg' with ⟨ab0, hab, hle⟩ | ⟨hn, _⟩
      · rw [hg] at hab
        cases hab
        subst he
        have hsb : someB σ.b β = true := by simp [someB, hg]
        simp only [wkEnv, hsb, if_true]
        cases ab with
        | var cs => exact hle.elim
        | arr f s e r => obtain ⟨rfl, _⟩ := hle; exact h2 f s e r rfl
        | dead => exact hle.elim
        | mp k e n D it => exact hle.elim
        | kp c => exact hle.elim
        | me k e n D kl b => exact hle.elim
      · rw [hg] at hn; cases hn
  | a β off =>
    cases c' <;> simp only [leAC] at hl
    · obtain ⟨rfl, hs, hm⟩ := hl
      split at hm
      · rename_i cs hg
        split at hm
        · rename_i row hrow
          subst hm
          have hcs0 := allB_eq hrow
          subst hcs0
          obtain ⟨ab, g, hg', rfl, h2⟩ := hv
          rw [hg] at hg'
          cases hg'
          obtain ⟨g1, cells, ty, hv1, hS1, hheap, hsz, hcs⟩ := h.blks β _ hg
          have hvg := h2 _ rfl
          rw [hvg] at hv1
          cases hv1
          have hnone : get B' β = none := by
            cases hb : get B' β with
            | none => rfl
            | some ab => simp [someB, hb] at hs
          have hrel : Bor C (wkEnv σ.b ρ) B' g := by
            refine ⟨.inr (h.mine β _ g hg hS1).2, fun γ ab' hγ hS => ?_⟩
            rcases leB_get hB hγ with ⟨ab0, hab, _⟩ | ⟨hn, _⟩
            · have hsb : someB σ.b γ = true := by simp [someB, hab]
              simp only [wkEnv, hsb, if_true] at hS
              have := h.disj γ β _ _ g hab hg hS hS1
              subst this
              rw [hnone] at hγ; cases hγ
            · have hsb : someB σ.b γ = false := by simp [someB, hn]
              simp only [wkEnv, hsb] at hS
              exact hS
          refine .p row ⟨g, 0, none⟩ (fun k => (cells[k]?).getD undef) (fun k hk => ⟨hrel, ?_⟩) (fun k c hk => ?_)
          · have hk' : k < cells.size := by rw [hsz, List.length_map]; exact hk
            rw [add_plain, cell_of_row w g _ cells ty (0, 0) hheap]
            simp [hk']
          · have hk' : k < cells.size := by rw [hsz, List.length_map]; exact (List.getElem?_eq_some_iff.1 hk).1
            have := hcs k (.b c) cells[k] (by rw [List.getElem?_map, hk]; rfl) (by simp [hk'])
            simp only [hk', Array.getElem?_eq_getElem, Option.getD_some]
            exact Rep.mono this (fun x _ hx => bor_wk hB hx)
        · exact hm.elim
      · exact hm.elim
    · obtain ⟨rfl, rfl, hs⟩ := hl
      exact ad hs hv
  | e β n i k =>
    cases c' <;> simp only [leAC] at hl
    obtain ⟨rfl, rfl, rfl, rfl, hs⟩ := hl
    obtain ⟨ab, g, off, hg, rfl, h2⟩ := hv
    obtain ⟨ab', hg'⟩ := Option.isSome_iff_exists.1 hs
    refine ⟨ab', g, off, hg', rfl, fun f' s' e' r' he => ?_⟩
    rcases leB_get hB hg' with ⟨ab0, hab, hle⟩ | ⟨hn, _⟩
    · rw [hg] at hab
      cases hab
      subst he
      have hsb : someB σ.b β = true := by simp [someB, hg]
      simp only [wkEnv, hsb, if_true]
      cases ab with
      | var cs => exact hle.elim
      | arr f s e r => obtain ⟨rfl, _⟩ := hle; exact h2 f s e r rfl
      | dead => exact hle.elim
      | mp k e n D it => exact hle.elim
      | kp c => exact hle.elim
      | me k e n D kl b => exact hle.elim
    · rw [hg] at hn; cases hn
  | q β n i k => cases c' <;> exact hl.elim
  | cm f β off =>
    cases c' <;> simp only [leAC] at hl
    obtain ⟨rfl, rfl, rfl, hs⟩ := hl
    obtain ⟨x, rfl, h2⟩ := hv
    exact ⟨x, rfl, ad hs h2⟩
  | mx m β =>
    cases c' <;> simp only [leAC] at hl
    obtain ⟨rfl, rfl, hs⟩ := hl
    obtain ⟨h0, ab, hg, h2⟩ := hv
    obtain ⟨ab', hg'⟩ := Option.isSome_iff_exists.1 hs
    refine ⟨h0, ab', hg', fun hm => ?_⟩
    rcases leB_get hB hg' with ⟨ab0, hab, hle⟩ | ⟨hn, _⟩
    · rw [hg] at hab
      cases hab
      have hsb : someB σ.b β = true := by simp [someB, hg]
      simp only [wkEnv, hsb, if_true]
      refine h2 ?_
      cases ab' with
      | mp k e n D it =>
        cases ab with
        | mp k' e' n' D' it' => obtain ⟨rfl, rfl, rfl, rfl, rfl⟩ := hle; exact hm
        | _ => exact hle.elim
      | kp c =>
        cases ab with
        | kp c' => exact hm
        | _ => exact hle.elim
      | me k e n D kl b =>
        cases ab with
        | me k' e' n' D' kl' b' => exact hm
        | _ => exact hle.elim
      | var cs => simp only [Go.Sx.kd] at hm; omega
      | _ => simp only [Go.Sx.kd] at hm; omega
    · rw [hg] at hn; cases hn
  | cl f caps =>
    cases c' <;> simp only [leAC] at hl
    obtain ⟨rfl, rfl, hs⟩ := hl
    obtain ⟨us, rfl, h1, h2⟩ := hv
    exact ⟨us, rfl, h1, fun k c u hc hu => ad (List.all_eq_true.1 hs c (List.mem_of_getElem? hc)) (h2 k c u hc hu)⟩
theorem relV1_wk (h : RelAt C σ ρ a w) {B' : List (Nat × AB)} (hB : leB σ.b B' B') {c c' : AV} {v : Value} (hl : leV1 σ.b B' c c') (hv : RelAV1 C w ρ σ.b c v) : RelAV1 C w (wkEnv σ.b ρ) B' c' v := by
  cases c with
  | one c => cases c' <;> first | exact relAC_wk h hB hl hv | exact hl.elim
  | agg cs =>
    cases c' with
    | agg cs' =>
      obtain ⟨arr, rfl, h1, h2⟩ := hv
      obtain ⟨h3, h4⟩ := leCs_get hl
      refine ⟨arr, rfl, by rw [h1, h3], fun k c u hc hu => ?_⟩
      obtain ⟨c0, hc0, hle⟩ := h4 hc
      exact relAC_wk h hB hle (h2 k c0 u hc0 hu)
    | one c => exact hl.elim
    | tup vs => exact hl.elim
  | tup vs => exact hv.elim
theorem relAV_wk (h : RelAt C σ ρ a w) {B' : List (Nat × AB)} (hB : leB σ.b B' B') {c c' : AV} {v : Value} (hl : leAV σ.b B' c c') (hv : RelAV C w ρ σ.b c v) : RelAV C w (wkEnv σ.b ρ) B' c' v := by
  cases c with
  | one c =>
    cases c' with
    | one c' => exact relV1_wk (c := .one c) (c' := .one c') h hB hl hv
    | agg cs' => exact False.elim hl
    | tup vs => exact False.elim hl
  | agg cs =>
    cases c' with
    | one c' => exact False.elim hl
    | agg cs' => exact relV1_wk (c := .agg cs) (c' := .agg cs') h hB hl hv
    | tup vs => exact False.elim hl
  | tup vs =>
    cases c' with
    | tup vs' =>
      obtain ⟨arr, rfl, h1, h2⟩ := hv
      obtain ⟨h3, h4⟩ := leVs_get hl
      refine ⟨arr, rfl, by rw [h1, h3], fun k c u hc hu => ?_⟩
      obtain ⟨c0, hc0, hle⟩ := h4 hc
      exact relV1_wk h hB hle (h2 k c0 u hc0 hu)
    | one c => exact hl.elim
    | agg cs => exact hl.elim
def ghOk : AC → Prop
  | .h β _ => 1000000000 ≤ β
  | .mx _ β => 1000000000 ≤ β
  | .a β _ => 1000000000 ≤ β
  | _ => False
theorem rel_wk0 (hH : ∀ g ∈ C.H, ghOk g.1) (h : Rel C σ a w) (hw : Wk0 σ σ') : Rel C σ' a w := by
  obtain ⟨ρ, h⟩ := h
  obtain ⟨hT, hB, hG⟩ := hw
  have src : ∀ β ab' x, get σ'.b β = some ab' → (wkEnv σ.b ρ).S β x → ∃ ab, get σ.b β = some ab ∧ ρ.S β x := fun β ab' x hg hS => by
    rcases leB_get hB hg with ⟨ab, hab, _⟩ | ⟨hn, _⟩
    · have hsb : someB σ.b β = true := by simp [someB, hab]
      simp only [wkEnv, hsb, if_true] at hS
      exact ⟨ab, hab, hS⟩
    · have hsb : someB σ.b β = false := by simp [someB, hn]
      simp only [wkEnv, hsb] at hS
      exact hS.elim
  refine ⟨wkEnv σ.b ρ, fun t av ht => ?_, fun β ab' hg => ?_, fun β β' ab ab' x hg hg' hx hx' => ?_, fun β ab x hg hx => ?_, h.size, h.defers, h.keep, fun g hg => ?_⟩
  · obtain ⟨v0, hv0, hle⟩ := leT_get hT ht
    obtain ⟨v, h1, h2⟩ := h.tmps t v0 hv0
    exact ⟨v, h1, relAV_wk h hB hle h2⟩
  · rcases leB_get hB hg with ⟨ab, hab, hle⟩ | ⟨hn, f, s, e, rfl⟩
    · have hsb : someB σ.b β = true := by simp [someB, hab]
      have hb := h.blks β ab hab
      cases ab with
      | var cs =>
        cases ab' with
        | var cs' =>
          obtain ⟨g, cells, ty, h1, h2, h3, h4, h5⟩ := hb
          obtain ⟨h6, h7⟩ := leCs_get hle
          refine ⟨g, cells, ty, by simp only [wkEnv, hsb, if_true]; exact h1, by simp only [wkEnv, hsb, if_true]; exact h2, h3, by rw [h4, h6], fun k c u hc hu => ?_⟩
          obtain ⟨c0, hc0, hle'⟩ := h7 hc
          exact relAC_wk h hB hle' (h5 k c0 u hc0 hu)
        | dead => trivial
        | _ => exact hle.elim
      | arr f s e r =>
        cases ab' with
        | arr f' s' e' r' =>
          obtain ⟨rfl, hf, hs⟩ := hle
          obtain ⟨sz', hsz, hslab⟩ := hb
          refine ⟨sz', fun hne => ?_, ?_⟩
          · rcases hs with rfl | rfl
            · exact hsz hne
            · exact absurd rfl hne
          · simp only [wkEnv, hsb, if_true]
            rcases hf with rfl | rfl
            · refine Slab.imp hslab (fun _ h => h) (fun _ _ _ => rfl) (fun F c u _ hc => ?_)
              cases f with
              | true => exact hc
              | false => exact Rep.mono hc (fun x _ hx => bor_wk hB hx)
            · rcases hslab with hn | ⟨e0, xs, u, F, hs0⟩
              · exact .inl hn
              · exact .inr ⟨e0, xs, u, F, hs0.ho, hs0.hS, hs0.hz, hs0.hF, hs0.hd, hs0.hu, fun j k row c h1 => by simp at h1⟩
        | dead => trivial
        | _ => exact hle.elim
      | dead => cases ab' <;> first | trivial | exact hle.elim
      | kp c =>
        cases ab' with
        | kp c' =>
          have : c = c' := hle
          subst this
          simp only [RelAB, wkEnv, hsb, if_true]
          exact Rep.mono hb (fun x _ hx => bor_wk hB hx)
        | dead => trivial
        | _ => exact hle.elim
      | mp k e n D it =>
        cases ab' with
        | mp k' e' n' D' it' =>
          obtain ⟨rfl, rfl, rfl, rfl, rfl⟩ := hle
          simp only [RelAB, wkEnv, hsb, if_true]
          exact hb
        | dead => trivial
        | _ => exact hle.elim
      | me k e n D kl b =>
        cases ab' with
        | me k' e' n' D' kl' b' =>
          obtain ⟨rfl, rfl, rfl, rfl, rfl, rfl⟩ := hle
          simp only [RelAB, wkEnv, hsb, if_true]
          exact hb
        | dead => trivial
        | _ => exact hle.elim
    · have hsb : someB σ.b β = false := by simp [someB, hn]
      refine ⟨s, fun _ => rfl, ?_⟩
      simp only [wkEnv, hsb, Bool.false_eq_true, if_false]
      exact .inl ⟨rfl, none, rfl⟩
  · obtain ⟨ab0, h1, h2⟩ := src β ab x hg hx
    obtain ⟨ab0', h1', h2'⟩ := src β' ab' x hg' hx'
    exact h.disj β β' _ _ x h1 h1' h2 h2'
  · obtain ⟨ab0, h1, h2⟩ := src β ab x hg hx
    exact h.mine β ab0 x h1 h2
  · have hg' := h.ghost g hg
    have hk := hH g hg
    obtain ⟨c, u⟩ := g
    cases c with
    | h β n =>
      obtain ⟨_, ab, h1, _⟩ := id hg'
      exact relAC_wk h hB (c := .h β n) (c' := .h β n) ⟨rfl, rfl, keepG_get hG h1 hk⟩ hg'
    | mx m β =>
      obtain ⟨_, ab, h1, _⟩ := id hg'
      exact relAC_wk h hB (c := .mx m β) (c' := .mx m β) ⟨rfl, rfl, keepG_get hG h1 hk⟩ hg'
    | a β off =>
      obtain ⟨ab, _, h1, _⟩ := id hg'
      exact relAC_wk h hB (c := .a β off) (c' := .a β off) ⟨rfl, rfl, keepG_get hG h1 hk⟩ hg'
    | _ => exact hk.elim
end
def swN (a b x : Nat) : Nat := bif Nat.beq x a then b else bif Nat.beq x b then a else x
theorem swN_eq (a b x : Nat) : swN a b x = if x = a then b else if x = b then a else x := by
  unfold swN
  by_cases h : x = a
  · subst h; simp
  · rw [beq_false h, cond_false, if_neg h]
    by_cases h' : x = b
    · subst h'; simp
    · rw [beq_false h', cond_false, if_neg h']
theorem swN_inv (a b x : Nat) : swN a b (swN a b x) = x := by
  rw [swN_eq a b x]
  by_cases h : x = a
  · rw [if_pos h, swN_eq]
    by_cases h' : b = a
    · rw [if_pos h', h']; exact h.symm
    · rw [if_neg h', if_pos rfl]; exact h.symm
  · rw [if_neg h]
    by_cases h' : x = b
    · rw [if_pos h', swN_eq, if_pos rfl]; exact h'.symm
    · rw [if_neg h', swN_eq, if_neg h, if_neg h']
theorem swN_inj {a b x y : Nat} (h : swN a b x = swN a b y) : x = y := by rw [← swN_inv a b x, h, swN_inv]
def swC (a b : Nat) : AC → AC
  | .h β n => .h (swN a b β) n
  | .a β o => .a (swN a b β) o
  | .e β n i k => .e (swN a b β) n i k
  | .q β n i k => .q (swN a b β) n i k
  | .cl fn caps => .cl fn (caps.map fun c => (swN a b c.1, c.2))
  | .cm fn β o => .cm fn (swN a b β) o
  | .mx m β => .mx m (swN a b β)
  | c => c
def swV1 (a b : Nat) : AV → AV
  | .one c => .one (swC a b c)
  | .agg cs => .agg (cs.map (swC a b))
  | .tup vs => .tup vs
def swV (a b : Nat) : AV → AV
  | .tup vs => .tup (vs.map (swV1 a b))
  | v => swV1 a b v
def swAB (a b : Nat) : AB → AB
  | .var cs => .var (cs.map (swC a b))
  | ab => ab
def swB (a b : Nat) : List (Nat × AB) → List (Nat × AB)
  | [] => []
  | (β, ab) :: l => (swN a b β, swAB a b ab) :: swB a b l
def swT (a b : Nat) : List (Nat × AV) → List (Nat × AV)
  | [] => []
  | (t, v) :: l => (t, swV a b v) :: swT a b l
def swS (a b : Nat) (σ : St) : St := ⟨swT a b σ.t, swB a b σ.b⟩
theorem get_swT (a b : Nat) : ∀ (l : List (Nat × AV)) (t : Nat), get (swT a b l) t = (get l t).map (swV a b)
  | [], t => rfl
  | (k, v) :: l, t => by
    rw [swT, get_cons', get_cons']
    by_cases h : k = t
    · rw [if_pos h, if_pos h]; rfl
    · rw [if_neg h, if_neg h]; exact get_swT a b l t
theorem get_swB (a b : Nat) : ∀ (l : List (Nat × AB)) (β : Nat), get (swB a b l) (swN a b β) = (get l β).map (swAB a b)
  | [], β => rfl
  | (k, v) :: l, β => by
    rw [swB, get_cons', get_cons']
    by_cases h : k = β
    · rw [if_pos h, if_pos (by rw [h])]; rfl
    · rw [if_neg h, if_neg (fun e => h (swN_inj e))]; exact get_swB a b l β
section
variable {C : Ctx} {σ σ' : St} {ρ : Env} {a : Act} {w : World} {x y : Nat} {B : List (Nat × AB)}
def swE (x y : Nat) (ρ : Env) : Env := ⟨fun β => ρ.v (swN x y β), fun β => ρ.S (swN x y β)⟩
theorem bor_sw {z : Nat} (h : Bor C ρ (swB x y B) z) : Bor C (swE x y ρ) B z := ⟨h.1, fun β ab hg hs => h.2 (swN x y β) (swAB x y ab) (by rw [get_swB, hg]; rfl) hs⟩
theorem get_sw {β : Nat} {ab : AB} (h : get (swB x y B) (swN x y β) = some ab) : ∃ ab0, get B β = some ab0 ∧ ab = swAB x y ab0 := by
  rw [get_swB] at h
  cases hb : get B β with
  | none => rw [hb] at h; cases h
  | some ab0 => rw [hb] at h; cases h; exact ⟨ab0, rfl, rfl⟩
theorem relAC_sw {c : AC} {v : Value} (h : RelAC C w ρ (swB x y B) (swC x y c) v) : RelAC C w (swE x y ρ) B c v := by
  have ad : ∀ {β off : Nat} {v : Value}, RelAd ρ (swB x y B) (swN x y β) off v → RelAd (swE x y ρ) B β off v := fun {β off v} h => by
    obtain ⟨ab, g, hg, h1, h2⟩ := h
    obtain ⟨ab0, hg0, rfl⟩ := get_sw hg
    exact ⟨ab0, g, hg0, h1, fun cs he => by subst he; exact h2 _ rfl⟩
  cases c with
  | b c => exact Rep.mono h (fun z _ hz => bor_sw hz)
  | nil => exact h
  | em => exact h
  | h β n =>
    obtain ⟨h1, ab, hg, h2⟩ := h
    obtain ⟨ab0, hg0, rfl⟩ := get_sw hg
    exact ⟨h1, ab0, hg0, fun f s e r he => by subst he; exact h2 f s e r rfl⟩
  | a β off => exact ad h
  | e β n i k =>
    obtain ⟨ab, g, off, hg, h1, h2⟩ := h
    obtain ⟨ab0, hg0, rfl⟩ := get_sw hg
    exact ⟨ab0, g, off, hg0, h1, fun f s e r he => by subst he; exact h2 f s e r rfl⟩
  | q β n i k =>
    obtain ⟨h0, ab, hg, h2⟩ := h
    obtain ⟨ab0, hg0, rfl⟩ := get_sw hg
    exact ⟨h0, ab0, hg0, fun f s e r he => by subst he; exact h2 f s e r rfl⟩
  | cm fn β off =>
    obtain ⟨u, h1, h2⟩ := h
    exact ⟨u, h1, ad h2⟩
  | cl fn caps =>
    obtain ⟨us, h1, h2, h3⟩ := h
    refine ⟨us, h1, by simpa using h2, fun k c u hc hu => ad (h3 k (swN x y c.1, c.2) u ?_ hu)⟩
    rw [List.getElem?_map, hc]; rfl
  | mx m β =>
    obtain ⟨h0, ab, hg, h2⟩ := h
    obtain ⟨ab0, hg0, rfl⟩ := get_sw hg
    exact ⟨h0, ab0, hg0, fun hm => h2 (by cases ab0 <;> exact hm)⟩
theorem relAV1_sw {c : AV} {v : Value} (h : RelAV1 C w ρ (swB x y B) (swV1 x y c) v) : RelAV1 C w (swE x y ρ) B c v := by
  cases c with
  | one c => exact relAC_sw h
  | agg cs =>
    obtain ⟨arr, h1, h2, h3⟩ := h
    refine ⟨arr, h1, by simpa using h2, fun k c u hc hu => relAC_sw (h3 k _ u ?_ hu)⟩
    rw [List.getElem?_map, hc]; rfl
  | tup vs => exact h
theorem relAV_sw {c : AV} {v : Value} (h : RelAV C w ρ (swB x y B) (swV x y c) v) : RelAV C w (swE x y ρ) B c v := by
  cases c with
  | one c => exact relAV1_sw (c := .one c) h
  | agg cs => exact relAV1_sw (c := .agg cs) h
  | tup vs =>
    obtain ⟨arr, h1, h2, h3⟩ := h
    refine ⟨arr, h1, by simpa using h2, fun k c u hc hu => relAV1_sw (h3 k _ u ?_ hu)⟩
    rw [List.getElem?_map, hc]; rfl
theorem rel_sw (hH : ∀ g ∈ C.H, ghOk g.1) (hx : x < 1000000000) (hy : y < 1000000000) (h : Rel C (swS x y σ) a w) : Rel C σ a w := by
  obtain ⟨ρ, h⟩ := h
  have hbig : ∀ β, 1000000000 ≤ β → swN x y β = β := fun β hb => by rw [swN_eq, if_neg (by omega), if_neg (by omega)]
  refine ⟨swE x y ρ, fun t av ht => ?_, fun β ab hg => ?_, fun β β' ab ab' z hg hg' hz hz' => ?_, fun β ab z hg hz => ?_, h.size, h.defers, h.keep, fun g hg => ?_⟩
  · obtain ⟨v, h1, h2⟩ := h.tmps t (swV x y av) (by show get (swT x y σ.t) t = _; rw [get_swT, ht]; rfl)
    exact ⟨v, h1, relAV_sw h2⟩
  · have h1 := h.blks (swN x y β) (swAB x y ab) (by show get (swB x y σ.b) _ = _; rw [get_swB, hg]; rfl)
    cases ab with
    | var cs =>
      obtain ⟨g, cells, ty, h2, h3, h4, h5, h6⟩ := h1
      refine ⟨g, cells, ty, h2, h3, h4, by simpa using h5, fun k c u hc hu => relAC_sw (h6 k _ u ?_ hu)⟩
      rw [List.getElem?_map, hc]; rfl
    | arr full sz ep rows =>
      obtain ⟨sz', h2, h3⟩ := h1
      refine ⟨sz', h2, Slab.imp h3 (fun _ h => h) (fun _ _ _ => rfl) (fun F c u _ hc => ?_)⟩
      cases full with
      | true => exact hc
      | false => exact Rep.mono hc (fun z _ hz => bor_sw hz)
    | dead => trivial
    | mp k e n D it => exact h1
    | kp c => exact Rep.mono h1 (fun z _ hz => bor_sw hz)
    | me k e n D kl b => exact h1
  · exact swN_inj (h.disj _ _ _ _ z (by show get (swB x y σ.b) _ = _; rw [get_swB, hg]; rfl) (by show get (swB x y σ.b) _ = _; rw [get_swB, hg']; rfl) hz hz')
  · exact h.mine (swN x y β) (swAB x y ab) z (by show get (swB x y σ.b) _ = _; rw [get_swB, hg]; rfl) hz
  · have hg' := h.ghost g hg
    have hk := hH g hg
    obtain ⟨c, u⟩ := g
    have e : swC x y c = c := by
      cases c <;> first | exact hk.elim | (simp only [swC]; rw [hbig _ hk])
    refine relAC_sw ?_
    show RelAC C w ρ (swS x y σ).b (swC x y c) u
    rw [e]; exact hg'
end
def swSs : List (Nat × Nat) → St → St
  | [], σ => σ
  | (x, y) :: l, σ => swS x y (swSs l σ)
def swOk : List (Nat × Nat) → Bool
  | [] => true
  | (x, y) :: l => bif Nat.blt x 1000000000 then (bif Nat.blt y 1000000000 then swOk l else false) else false
def Wk (σ σ' : St) : Prop := ∃ sw, swOk sw = true ∧ Wk0 σ (swSs sw σ')
theorem Wk.of {σ σ' : St} (h : Wk0 σ σ') : Wk σ σ' := ⟨[], rfl, h⟩
theorem rel_wk {C : Ctx} {σ σ' : St} {a : Act} {w : World} (hH : ∀ g ∈ C.H, ghOk g.1) (h : Rel C σ a w) (hw : Wk σ σ') : Rel C σ' a w := by
  obtain ⟨sw, hok, hw⟩ := hw
  have h1 := rel_wk0 hH h hw
  clear h hw
  induction sw with
  | nil => exact h1
  | cons p l ih =>
    obtain ⟨x, y⟩ := p
    rw [swOk] at hok
    cases hx : Nat.blt x 1000000000 with
    | false => rw [hx] at hok; cases hok
    | true =>
      rw [hx] at hok
      cases hy : Nat.blt y 1000000000 with
      | false => rw [hy] at hok; cases hok
      | true =>
        rw [hy] at hok
        exact ih hok (rel_sw hH (Nat.le_of_ble_eq_true hx) (Nat.le_of_ble_eq_true hy) h1)
end Go.Sx
end
section
namespace Go.Sx
section
variable {LC : List Nat} {P : Program} {ops : Array Oper} {Q : Exit → Act → World → Prop} {md : Region.Mode}
def loudAt (LC : List Nat) (ops : Array Oper) (i : Nat) : Bool := match ops[i]? with | some o => loud o.op || LC.contains i | none => false
def wpAnyW (LC : List Nat) (P : Program) (md : Region.Mode) (ops : Array Oper) (Q : Exit → Act → World → Prop) : Nat → Array Bool → Act → World → Prop
  | 0, listed, a, w => Region.ready md ops listed = [] ∧ Q .normal a w
  | fuel + 1, listed, a, w => (Region.ready md ops listed = [] → Q .normal a w) ∧
    ∀ i ∈ Region.ready md ops listed, wpOp P ops Q i (fun a' w' => (loudAt LC ops i = false → Keep w w' (fun _ => False)) ∧ wpAnyW LC P md ops Q fuel (listed.setIfInBounds i true) a' w') a w
theorem wpAny_of_W : ∀ (fuel : Nat) (listed : Array Bool) (a : Act) (w : World), wpAnyW LC P md ops Q fuel listed a w → wpAny P md ops Q fuel listed a w
  | 0, _, _, _, h => h
  | fuel + 1, _, _, _, h => ⟨h.1, fun i hi => wpOp_mono (fun a' w' h' => wpAny_of_W fuel _ a' w' h'.2) (h.2 i hi)⟩
theorem wpAnyW_first {i : Nat} {oi : Oper} {v : Value} (hi : ops[i]? = some oi) (hsel : ∀ (j : Nat) (o : Oper) cs b, ops[j]? = some o → o.op ≠ .select cs b)
    (hQ : ∀ c a w, Q (.panic c) (a.put oi.dst v) w → Q (.panic c) a w) (c : Bool) (W : List Nat) (w0 : World)
    (hW : ∀ j ∈ W, ∃ o, ops[j]? = some o ∧ ∃ e ∈ o.after, Region.binds md e = true ∧ (e.on ∈ W ∨ e.on = i)) :
    ∀ (fuel : Nat) (listed : Array Bool) (a : Act) (w : World),
      (∀ j oj, ops[j]? = some oj → j ≠ i → listed.getD j true = false → (∀ e ∈ oj.after, Region.binds md e = true → e.on ≠ i) → oi.apart ops oj = true) →
      (c = true → ∀ j, loudAt LC ops j = true → listed.getD j true = false → j ∈ W) → (∀ j ∈ W, listed.getD j true = false) →
      i ∈ Region.ready md ops listed → YieldsIf P ops (fun w' => c = true → Keep w0 w' (fun _ => False)) oi v a → (c = true → Keep w0 w (fun _ => False)) → (c = true → loudAt LC ops i = false) → loudAt LC ops i = false →
      wpAnyW LC P md ops Q fuel (listed.setIfInBounds i true) (a.put oi.dst v) w → wpAnyW LC P md ops Q (fuel + 1) listed a w := by
  intro fuel
  induction fuel with
  | zero =>
    intro listed a w _ _ _ hr hy hS _ _ H
    refine ⟨fun h => (by rw [h] at hr; cases hr), fun j hj => ?_⟩
    by_cases hji : j = i
    · subst hji; exact hy.wpOp hi hS ⟨fun _ => Keep.refl _ _, H⟩
    · have := ready_mono hj hji
      rw [H.1] at this
      cases this
  | succ fuel ih =>
    intro listed a w hfree hl hWu hr hy hS hci hci2 H
    refine ⟨fun h => (by rw [h] at hr; cases hr), fun j hj => ?_⟩
    by_cases hji : j = i
    · subst hji; exact hy.wpOp hi hS ⟨fun _ => Keep.refl _ _, H⟩
    · have h1 := H.2 j (ready_mono hj hji)
      obtain ⟨hjun, oj, hoj, hall⟩ := mem_ready.1 hj
      have hun : ∀ k, listed.getD k true = false → listed.getD k false ≠ true := fun k h0 h1 => by
        rcases Nat.lt_or_ge k listed.size with h' | h'
        · simp [h'] at h0 h1; rw [h0] at h1; cases h1
        · simp [Array.getElem?_eq_none h'] at h1
      have hiun := (mem_ready.1 hr).1
      have hnot : ∀ e ∈ oj.after, Region.binds md e = true → e.on ≠ i := fun e he hb heq => by
        have h1 := hall e he hb
        rw [heq] at h1
        exact hun i hiun h1
      have hjW : j ∉ W := fun hjw => by
        obtain ⟨o, ho, e, he, hb, hon⟩ := hW j hjw
        rw [hoj] at ho
        cases ho
        have h1 := hall e he hb
        rcases hon with hon | hon
        · exact hun _ (hWu _ hon) h1
        · exact hnot e he hb hon
      have h2 := wpOp_putIf hoj (hfree j oj hoj hji hjun hnot) (fun cs b => hsel i oi cs b hi) (fun cs b => hsel j oj cs b hoj) hQ hy h1
      have hkeep : ∀ k, k ≠ j → (listed.setIfInBounds j true).getD k true = false → listed.getD k true = false := fun k hk h => by
        rw [getD_set_ne true (Ne.symm hk)] at h; exact h
      have hkj : ∀ k, (listed.setIfInBounds j true).getD k true = false → listed.getD k true = false := fun k h => by
        by_cases hk : k = j
        · rw [hk]; exact hjun
        · exact hkeep k hk h
      refine wpOp_mono (fun a' w' h3 => ⟨h3.2.1, ih (listed.setIfInBounds j true) a' w' (fun k ok hk hki hu hno => hfree k ok hk hki (hkj k hu) hno) (fun hc k hk hu => hl hc k hk (hkj k hu)) (fun k hk => ?_) (ready_mono hr (Ne.symm hji)) h3.1 (fun hc => ?_) hci hci2 ?_⟩) h2
      · rw [getD_set_ne true (fun e => hjW (by rw [e]; exact hk))]; exact hWu k hk
      · have hlj : loudAt LC ops j = false := by
          cases hb : loudAt LC ops j with
          | false => rfl
          | true => exact absurd (hl hc j hb hjun) hjW
        exact (hS hc).trans (h3.2.1 hlj) (fun _ _ h => h.elim)
      · rw [Array.setIfInBounds_comm _ _ hji]
        exact h3.2.2
theorem wpAnyW_done {listed : Array Bool} {a : Act} {w : World} (hr : Region.ready md ops listed = []) (h : Q .normal a w) :
    ∀ fuel, wpAnyW LC P md ops Q fuel listed a w
  | 0 => ⟨hr, h⟩
  | _ + 1 => ⟨fun _ => h, by rw [hr]; simp⟩
end
end Go.Sx
end
section
namespace Go.Sx
open Go.RowKit (Below)
def skipK (σ : St) (d : Option Tmp) (K : St → Prop) : Prop := K (σ.put d (.tup []))
def guardK (ops : Array Oper) (σ : St) (o : Oper) (Kw Ks : St → Prop) : Prop := match o.guard with
  | none => Kw σ
  | some (j, want) => (match (ops[j]?).bind (·.dst) with
    | some d => (match get σ.t d with
      | some (.one (.b (.s (.bool t)))) => gs t fun t' => if (t' == want) = true then Kw ⟨(d, .one (.b (.s (.bool t')))) :: σ.t, σ.b⟩ else Ks ⟨(d, .one (.b (.s (.bool t')))) :: σ.t, σ.b⟩
      | some (.tup []) => Ks σ
      | _ => False)
    | none => False)
def runO (P : Program) (ops : Array Oper) : List Oper → St → (St → Prop) → Prop
  | [], σ, K => K σ
  | o :: l, σ, K => guardK ops σ o (fun σ => opL true P σ o fun σ => runO P ops l σ K) (fun σ => skipK σ o.dst fun σ => runO P ops l σ K)
def knowT (σ : St) (c : Operand) (b : Bool) : St := match σ, c with
  | ⟨t, bs⟩, .tmp d => ⟨(d, .one (.b (.s (.bool b)))) :: t, bs⟩
  | σ, _ => σ
def okOps (T : Nat) (ops : Array Oper) : Bool := ops.all fun o => match o.dst with | some d => Nat.blt d T | none => true
def okCode (T : Nat) : Code → Bool
  | .region _ ops _ => okOps T ops
  | .seq x y => okCode T x && okCode T y
  | .cond _ x y => okCode T x && okCode T y
  | .block _ b => okCode T b
  | .loop b => okCode T b
  | _ => true
section
variable {C : Ctx} {σ : St} {ρ : Env} {a : Act} {w : World}
theorem okOps_spec {T : Nat} {ops : Array Oper} (h : okOps T ops = true) {o : Oper} (ho : o ∈ ops.toList) : ∀ d, o.dst = some d → d < T := fun d hd => by
  have := Array.all_eq_true_iff_forall_mem.1 h o (by simpa using ho)
  rw [hd] at this
  exact Nat.le_of_ble_eq_true this
theorem relAt_put_same (h : RelAt C σ ρ a w) {d : Nat} {av av' : AV} (hg : get σ.t d = some av) (he : av' = av) : RelAt C ⟨(d, av') :: σ.t, σ.b⟩ ρ a w := by
  subst he
  refine ⟨fun t av ht => ?_, h.blks, h.disj, h.mine, h.size, h.defers, h.keep, h.ghost⟩
  rw [get_cons'] at ht
  by_cases hd : d = t
  · rw [if_pos hd] at ht; cases ht; subst hd; exact h.tmps _ _ hg
  · rw [if_neg hd] at ht; exact h.tmps t av ht
theorem know_sound (h : RelAt C σ ρ a w) {c : Operand} {t b : Bool} (hc : ev σ c = some (.one (.b (.s (.bool t))))) (hb : t = b) : Rel C (knowT σ c b) a w := by
  subst hb
  unfold knowT
  split
  · exact ⟨ρ, relAt_put_same h hc rfl⟩
  · exact ⟨ρ, h⟩
theorem skip_sound (h : RelAt C σ ρ a w) {d : Option Tmp} (hd : ∀ t, d = some t → t < C.T) {K : St → Prop} (hk : skipK σ d K) : ∃ σ', K σ' ∧ Rel C σ' (a.put d undef) w :=
  ⟨_, hk, ρ, h.put hd ⟨#[], rfl, rfl, fun k c u h1 => by simp at h1⟩⟩
theorem guard_sound {ops : Array Oper} (h : RelAt C σ ρ a w) {o : Oper} {Kw Ks : St → Prop} (hk : guardK ops σ o Kw Ks) :
    (Region.wanted o (yielded ops a.tmps) = true ∧ ∃ σ', Kw σ' ∧ RelAt C σ' ρ a w) ∨ (Region.wanted o (yielded ops a.tmps) = false ∧ ∃ σ', Ks σ' ∧ RelAt C σ' ρ a w) := by
  unfold guardK at hk
  split at hk
  · rename_i hg
    exact .inl ⟨by simp [Region.wanted, hg], σ, hk, h⟩
  · rename_i j want hg
    split at hk
    · rename_i d hd
      split at hk
      · rename_i t ht
        obtain ⟨v, hv, hrel⟩ := h.tmps d _ ht
        have hv' : v = .bool t := by cases hrel; rfl
        subst hv'
        have hy : yielded ops a.tmps j = some t := by simp only [yielded, hd, Option.bind_some, hv]
        have h2 := relAt_put_same h (av' := .one (.b (.s (.bool t)))) ht rfl
        have hk := gs_spec hk
        split at hk
        · rename_i hw
          refine .inl ⟨?_, _, hk, h2⟩
          have : t = want := by simpa using hw
          simp [Region.wanted, hg, hy, this]
        · rename_i hw
          refine .inr ⟨?_, _, hk, h2⟩
          have : ¬ t = want := by simpa using hw
          simp [Region.wanted, hg, hy, this]
      · rename_i ht
        obtain ⟨v, hv, arr, rfl, hsz, -⟩ := h.tmps d _ ht
        have hy : yielded ops a.tmps j = none := by simp only [yielded, hd, Option.bind_some, hv]
        exact .inr ⟨by simp [Region.wanted, hg, hy], _, hk, h⟩
      · exact hk.elim
    · exact hk.elim
theorem runO_sound {ops : Array Oper} (hok : okOps C.T ops = true) {Q : Exit → Act → World → Prop} {K : St → Prop} (hQ : ∀ a w, (∃ σ', K σ' ∧ Rel C σ' a w) → Q .normal a w) :
    ∀ (n i : Nat) (σ : St) (a : Act) (w : World), ops.size - i = n → i ≤ ops.size → Rel C σ a w → runO C.P ops (ops.toList.drop i) σ K → wpOps C.P ops Q ((List.range ops.size).drop i) a w := by
  intro n
  induction n with
  | zero =>
    intro i σ a w hn hi hrel hk
    have hie : i = ops.size := by omega
    subst hie
    rw [List.drop_of_length_le (by simp)]
    rw [List.drop_of_length_le (by simp)] at hk
    exact hQ a w ⟨σ, hk, hrel⟩
  | succ n ih =>
    intro i σ a w hn hi hrel hk
    have hlt : i < ops.size := by omega
    have h1 : (List.range ops.size).drop i = i :: (List.range ops.size).drop (i + 1) := by
      rw [List.drop_eq_getElem_cons (by simpa using hlt)]; simp
    have h2 : ops.toList.drop i = ops[i] :: ops.toList.drop (i + 1) := by
      rw [List.drop_eq_getElem_cons (by simpa using hlt)]; simp
    rw [h1]
    rw [h2] at hk
    have ho : ops[i]? = some ops[i] := by simp [hlt]
    have hmem : ops[i] ∈ ops.toList := by simp
    have hd := okOps_spec hok hmem
    rw [runO] at hk
    obtain ⟨ρ, hat⟩ := hrel
    simp only [wpOps, ho]
    rcases guard_sound hat hk with ⟨hw, σ', hK, hat'⟩ | ⟨hw, σ', hK, hat'⟩
    · rw [hw, if_pos rfl]
      refine .inl (Oper.wp_mono (fun a' w' haf => ?_) (opL_sound hat' hd hK))
      obtain ⟨_, σ'', hK', hrel'⟩ := haf
      exact ih (i + 1) σ'' a' w' (by omega) (by omega) hrel' hK'
    · rw [hw, if_neg (by simp)]
      obtain ⟨σ'', hK', hrel'⟩ := skip_sound hat' hd hK
      exact ih (i + 1) σ'' _ w (by omega) (by omega) hrel' hK'
end
inductive Plan where
  | done
  | nil
  | take (i : Nat) (W : List Nat) (p : Plan)
  | alt (i : Nat) (p q : Plan)
def psz : Plan → Nat
  | .done => 1
  | .nil => 1
  | .take _ _ p => psz p + 1
  | .alt _ p q => psz p + psz q + 1
def opAt (LC : List Nat) (P : Program) (ops : Array Oper) (i : Nat) (σ : St) (K : St → Prop) : Prop := match ops[i]? with
  | some o => guardK ops σ o (fun σ => opL (LC.contains i) P σ o K) (fun σ => skipK σ o.dst K)
  | none => False
def planK (LC : List Nat) (P : Program) (ops : Array Oper) : Plan → St → (St → Prop) → Prop
  | .done, σ, K => K σ
  | .nil, _, _ => True
  | .take i _ p, σ, K => opAt LC P ops i σ (fun σ => planK LC P ops p σ K)
  | .alt i p q, σ, K => opAt LC P ops i σ (fun σ => planK LC P ops p σ K) ∧ planK LC P ops q σ K
def isY : Op → Bool
  | .alloc .. | .box .. | .store .. | .buildSlice .. | .makeSlice .. | .makeMap .. | .lookup .. | .mapUpdate .. | .mapEntry .. | .entryStore .. | .range .. | .next .. | .entry .. => false
  | .call c => (match c.callee with | .builtin .append => false | .builtin _ => true | _ => false)
  | _ => true
def chain : Plan → List Nat
  | .alt i _ q => i :: chain q
  | _ => []
def headOk (md : Region.Mode) (ops : Array Oper) (listed : Array Bool) : Plan → Bool
  | .alt i _ q => !(Region.ready md ops listed).isEmpty && (Region.ready md ops listed).all fun j => (i :: chain q).contains j
  | .nil => false
  | _ => true
def waitOk (LC : List Nat) (md : Region.Mode) (ops : Array Oper) (listed : Array Bool) (i : Nat) (W : List Nat) : Bool :=
  (W.all fun j => (match ops[j]? with | some o => o.after.any fun e => Region.binds md e && (W.contains e.on || e.on == i) | none => false) && !(listed.getD j true)) &&
  (List.range ops.size).all fun j => !(loudAt LC ops j) || listed.getD j true || W.contains j
def takeOk (LC : List Nat) (md : Region.Mode) (ops : Array Oper) (listed : Array Bool) (i : Nat) (W : List Nat) : Bool :=
  (Region.ready md ops listed).contains i && Region.free md ops listed i && !(LC.contains i) && (match ops[i]? with | some o => isY o.op && (if isLoad o.op then waitOk LC md ops listed i W else true) | none => false)
def planOk (LC : List Nat) (md : Region.Mode) (ops : Array Oper) : Plan → Nat → Array Bool → Bool
  | .done, _, listed => (Region.ready md ops listed).isEmpty
  | .nil, _, _ => true
  | .take i W p, n + 1, listed => takeOk LC md ops listed i W && headOk md ops (listed.setIfInBounds i true) p && planOk LC md ops p n (listed.setIfInBounds i true)
  | .alt i p q, n + 1, listed => headOk md ops (listed.setIfInBounds i true) p && planOk LC md ops p n (listed.setIfInBounds i true) && planOk LC md ops q (n + 1) listed
  | _, 0, _ => false
section
variable {LC : List Nat} {C : Ctx} {σ : St} {a : Act} {w : World} {ops : Array Oper} {md : Region.Mode}
theorem loud_of_isY {op : Op} (h : isY op = true) : loud op = false := by
  cases op <;> first | rfl | cases h | skip
  rename_i c
  obtain ⟨callee, args, ats⟩ := c
  cases callee with
  | builtin b => cases b <;> first | rfl | cases h
  | value x => rfl
  | invoke _ _ => rfl
theorem opL_of_isY {g : Bool} {P : Program} {o : Oper} {K : St → Prop} (h : isY o.op = true) (hk : opL g P σ o K) : opY P σ o.op (fun av => K (σ.put o.dst av)) := by
  unfold opL at hk
  split at hk
  case h_14 c ho =>
    split at hk
    · rename_i hc; rw [ho] at h; simp [isY, hc] at h
    · exact hk
    · rename_i hc; rw [ho] at h; simp [isY, hc] at h
    · exact hk.elim
  case h_15 => exact hk
  all_goals (rename_i ho; rw [ho] at h; cases h)
theorem chain_alt {P : Program} {K : St → Prop} {n : Nat} {listed : Array Bool} {i : Nat} : ∀ {p : Plan}, i ∈ chain p → planOk LC md ops p (n + 1) listed = true → planK LC P ops p σ K →
    ∃ p', psz p' < psz p ∧ headOk md ops (listed.setIfInBounds i true) p' = true ∧ planOk LC md ops p' n (listed.setIfInBounds i true) = true ∧ opAt LC P ops i σ (fun σ => planK LC P ops p' σ K)
  | .done, h, _, _ => by cases h
  | .nil, h, _, _ => by cases h
  | .take _ _ _, h, _, _ => by cases h
  | .alt j p q, h, ho, hk => by
    simp only [planOk, Bool.and_eq_true] at ho
    rcases List.mem_cons.1 h with rfl | h
    · exact ⟨p, by simp only [psz]; omega, ho.1.1, ho.1.2, hk.1⟩
    · obtain ⟨p', h1, h2⟩ := chain_alt h ho.2 hk.2
      exact ⟨p', by simp only [psz]; omega, h2⟩
theorem plan_sound (hok : okOps C.T ops = true) (hsel : Region.noSelect ops = true) {Q : Exit → Act → World → Prop} {K : St → Prop} (hQ : ∀ a w, (∃ σ', K σ' ∧ Rel C σ' a w) → Q .normal a w) (hP : ∀ c a w, ¬ Q (.panic c) a w) :
    ∀ (m : Nat) (p : Plan), psz p ≤ m → ∀ (n : Nat) (listed : Array Bool) (σ : St) (a : Act) (w : World), headOk md ops listed p = true → planOk LC md ops p n listed = true → planK LC C.P ops p σ K → Rel C σ a w → wpAnyW LC C.P md ops Q n listed a w := by
  intro m
  induction m with
  | zero => intro p hp; cases p <;> simp [psz] at hp
  | succ m ih =>
    intro p hp n listed σ a w hh ho hk hrel
    cases p with
    | done =>
      refine wpAnyW_done (by cases n <;> simpa [planOk] using ho) (hQ a w ⟨σ, hk, hrel⟩) n
    | nil => cases hh
    | take i W p =>
      cases n with
      | zero => cases ho
      | succ n =>
        simp only [planOk, Bool.and_eq_true] at ho
        obtain ⟨⟨ht, hh'⟩, ho⟩ := ho
        have hsz : psz p ≤ m := by simp only [psz] at hp; omega
        unfold takeOk at ht
        simp only [Bool.and_eq_true] at ht
        obtain ⟨⟨⟨hr, hf⟩, hlc⟩, ht⟩ := ht
        simp only [planK, opAt] at hk
        cases hoi : ops[i]? with
        | none => rw [hoi] at ht; cases ht
        | some o =>
        rw [hoi] at ht hk
        simp only [Bool.and_eq_true] at ht
        obtain ⟨hy, hw⟩ := ht
        have hmem : o ∈ ops.toList := by simpa using Array.mem_of_getElem? hoi
        have hd := okOps_spec hok hmem
        have hloud : loudAt LC ops i = false := by simp only [loudAt, hoi, loud_of_isY hy, Bool.false_or]; simpa using hlc
        have hW : isLoad o.op = true → waitOk LC md ops listed i W = true := fun hl => by rw [if_pos hl] at hw; exact hw
        have go : ∀ {v : Value}, YieldsIf C.P ops (fun w' => isLoad o.op = true → Keep w w' (fun _ => False)) o v a → (∃ σ', planK LC C.P ops p σ' K ∧ Rel C σ' (a.put o.dst v) w) → wpAnyW LC C.P md ops Q (n + 1) listed a w := fun {v} hyv hnext => by
          obtain ⟨σ', hk', hr'⟩ := hnext
          have hrest := ih p hsz n _ σ' (a.put o.dst v) w hh' ho hk' hr'
          have hfree := Region.free_spec hoi hf
          cases hl : isLoad o.op with
          | true =>
            have hWo := hW hl
            simp only [waitOk, Bool.and_eq_true, List.all_eq_true] at hWo
            obtain ⟨hW1, hW2⟩ := hWo
            refine wpAnyW_first hoi (Region.noSelect_spec hsel) (fun c a w h => (hP _ _ _ h).elim) true W w (fun j hj => ?_) n listed a w hfree (fun _ j hlj hu => ?_) (fun j hj => ?_) (by simpa using hr) ?_ (fun _ => Keep.refl _ _) (fun _ => hloud) hloud hrest
            · have := (hW1 j hj).1
              split at this
              · rename_i oj hoj
                obtain ⟨e, he, hb⟩ := Array.any_eq_true'.1 this
                simp only [Bool.and_eq_true, Bool.or_eq_true, List.contains_iff_mem, beq_iff_eq] at hb
                exact ⟨oj, hoj, e, he, hb.1, hb.2⟩
              · cases this
            · have hjlt : j < ops.size := by
                rcases Nat.lt_or_ge j ops.size with h' | h'
                · exact h'
                · simp [loudAt, Array.getElem?_eq_none h'] at hlj
              have := hW2 j (List.mem_range.2 hjlt)
              simpa [hlj, hu] using this
            · have := (hW1 j hj).2
              simpa using this
            · rw [hl] at hyv; exact hyv
          | false =>
            refine wpAnyW_first hoi (Region.noSelect_spec hsel) (fun c a w h => (hP _ _ _ h).elim) false [] w (fun j hj => by cases hj) n listed a w hfree (fun h => by cases h) (fun j hj => by cases hj) (by simpa using hr) ?_ (fun h => by cases h) (fun h => by cases h) hloud hrest
            rw [hl] at hyv; exact hyv
        obtain ⟨ρ, hat⟩ := hrel
        rcases guard_sound hat hk with ⟨hwt, σ1, hK, hat1⟩ | ⟨hwt, σ1, hK, hat1⟩
        · obtain ⟨av, v, hk1, hv, hrun⟩ := opY_sound hat1 (opL_of_isY hy hK)
          exact go (v := v) (.inl ⟨hwt, fun w' hS => hrun w' hS⟩) ⟨_, hk1, ρ, hat1.put hd hv⟩
        · obtain ⟨σ2, hk2, hr2⟩ := skip_sound hat1 hd hK
          exact go (v := undef) (.inr ⟨hwt, rfl⟩) ⟨σ2, hk2, hr2⟩
    | alt i0 p0 q0 =>
      cases n with
      | zero => cases ho
      | succ n =>
        refine ⟨fun hr => ?_, fun i hi => ?_⟩
        · simp only [headOk, hr, List.isEmpty_nil, Bool.not_true, Bool.false_and] at hh
          cases hh
        · have hic : i ∈ chain (.alt i0 p0 q0) := by
            simp only [headOk, Bool.and_eq_true, List.all_eq_true] at hh
            have := hh.2 i hi
            simpa [chain] using this
          obtain ⟨p', hsz', hh', ho', hk'⟩ := chain_alt hic ho hk
          have hsz : psz p' ≤ m := by omega
          unfold wpOp
          unfold opAt at hk'
          cases hoi : ops[i]? with
          | none => rw [hoi] at hk'; exact hk'.elim
          | some o =>
            rw [hoi] at hk'
            dsimp only at hk' ⊢
            have hmem : o ∈ ops.toList := by simpa using Array.mem_of_getElem? hoi
            have hd := okOps_spec hok hmem
            obtain ⟨ρ, hat⟩ := hrel
            rcases guard_sound hat hk' with ⟨hwt, σ1, hK, hat1⟩ | ⟨hwt, σ1, hK, hat1⟩
            · rw [hwt, if_pos rfl]
              refine .inl (Oper.wp_mono (fun a' w' haf => ?_) (opL_sound hat1 hd hK))
              obtain ⟨h1, σ', hk1, hr1⟩ := haf
              exact ⟨fun hl => by simp only [loudAt, hoi, Bool.or_eq_false_iff] at hl; exact h1 hl.2 hl.1, ih p' hsz n _ σ' a' w' hh' ho' hk1 hr1⟩
            · rw [hwt, if_neg (by simp)]
              obtain ⟨σ2, hk2, hr2⟩ := skip_sound hat1 hd hK
              exact ⟨fun _ => Keep.refl _ _, ih p' hsz n _ σ2 _ w hh' ho' hk2 hr2⟩
end
inductive Ex where
  | normal | exit (id : Nat) | ret
def vc (P : Program) : Code → (Ex → St → Prop) → St → Prop
  | .skip, Q, σ => Q .normal σ
  | .region _ ops draw, Q, σ => match draw with
    | false => runO P ops ops.toList σ fun σ => Q .normal σ
    | true => P.follows .mixedOrders = true ∧ Region.noSelect ops = true ∧ ∃ LC p, headOk .any ops (Array.replicate ops.size false) p = true ∧ planOk LC .any ops p ops.size (Array.replicate ops.size false) = true ∧ planK LC P ops p σ fun σ => Q .normal σ
  | .seq x y, Q, σ => vc P x (fun e σ => match e with | .normal => vc P y Q σ | .exit i => Q (.exit i) σ | .ret => Q .ret σ) σ ∨
    ∃ (ι : Type) (pre : ι → Prop) (inv : ι → St), vc P x (fun e σ => match e with | .normal => ∃ i, pre i ∧ Wk σ (inv i) | .exit i => Q (.exit i) σ | .ret => Q .ret σ) σ ∧ ∀ i, pre i → vc P y Q (inv i)
  | .cond c x y, Q, σ => (match ev σ c with | some (.one (.b (.s (.bool t)))) => (t = true → vc P x Q (knowT σ c true)) ∧ (t = false → vc P y Q (knowT σ c false)) | _ => False)
  | .block id b, Q, σ => vc P b (fun e σ => match e with | .normal => Q .normal σ | .exit i => if i = id then Q .normal σ else Q (.exit i) σ | .ret => Q .ret σ) σ
  | .loop b, Q, σ => ∃ (ι : Type) (pre : ι → Prop) (inv : ι → St) (m : ι → Nat), (∃ i, pre i ∧ Wk σ (inv i)) ∧ ∀ i, pre i → vc P b (fun e σ => match e with | .normal => ∃ i', pre i' ∧ m i' < m i ∧ Wk σ (inv i') | .exit j => Q (.exit j) σ | .ret => Q .ret σ) (inv i)
  | .exit id, Q, σ => Q (.exit id) σ
  | .ret, Q, σ => Q .ret σ
  | _, _, _ => False
section
variable {C : Ctx} {σ : St} {ρ : Env} {a : Act} {w : World}
theorem wp_loopI {P : Program} {c : Code} {Q : Exit → Act → World → Prop} {ι : Type} {J : ι → Act → World → Prop} (m : ι → Nat) {i0 : ι} {a : Act} {w : World} (h₀ : J i0 a w)
    (round : ∀ i a w, J i a w → c.wp P (Exit.then (fun a' w' => ∃ i', m i' < m i ∧ J i' a' w') Q) a w) : (Code.loop c).wp P Q a w := by
  intro b k cs
  have key : ∀ n i a w, m i = n → J i a w → ∃ e a' w', Q e a' w' ∧ Arrives P (lone (b.at a (.code c :: .inLoop c :: k)) cs w) b k cs e a' w' := by
    intro n
    induction n using Nat.strongRecOn with
    | _ n ih =>
      intro i a w hn hJ
      obtain ⟨e, a₁, w₁, hq, harr⟩ := round i a w hJ b (.inLoop c :: k) cs
      cases e with
      | normal =>
        obtain ⟨i', hlt, hJ'⟩ := hq
        obtain ⟨e₂, a₂, w₂, hq₂, harr₂⟩ := ih (m i') (hn ▸ hlt) i' a₁ w₁ rfl hJ'
        exact ⟨e₂, a₂, w₂, hq₂, .of_steps (Steps.trans harr (.one step_inLoop)) harr₂⟩
      | exit id => exact ⟨_, a₁, w₁, hq, .pass (x := .inLoop c) rfl (fun _ _ => .inl (by simp)) harr⟩
      | goto l => exact ⟨_, a₁, w₁, hq, .pass (x := .inLoop c) rfl (fun _ _ => .inl (by simp)) harr⟩
      | ret => exact ⟨_, a₁, w₁, hq, .pass (x := .inLoop c) rfl (fun _ _ => .inl (by simp)) harr⟩
      | panic ch => exact ⟨_, a₁, w₁, hq, .pass (x := .inLoop c) rfl (fun _ _ => .inl (by simp)) harr⟩
      | outgrown => exact ⟨_, a₁, w₁, hq, .pass (x := .inLoop c) rfl (fun _ _ => .inl (by simp)) harr⟩
  obtain ⟨e, a', w', hq, harr⟩ := key _ i0 a w rfl h₀
  exact ⟨e, a', w', hq, .of_steps (.one step_loop) harr⟩
def exOf : Exit → Option Ex
  | .normal => some .normal
  | .exit i => some (.exit i)
  | .ret => some .ret
  | _ => none
def QOf (C : Ctx) (Q : Ex → St → Prop) (e : Exit) (a : Act) (w : World) : Prop := ∃ e', exOf e = some e' ∧ ∃ σ', Q e' σ' ∧ Rel C σ' a w
theorem vc_sound (hH : ∀ g ∈ C.H, ghOk g.1) : ∀ {c : Code} {Q : Ex → St → Prop} {σ : St} {a : Act} {w : World}, okCode C.T c = true → Rel C σ a w → vc C.P c Q σ → c.wp C.P (QOf C Q) a w := by
  intro c
  induction c with
  | skip => intro Q σ a w _ hr hk; exact wp_skip ⟨.normal, rfl, σ, hk, hr⟩
  | region id ops draw =>
    intro Q σ a w hok hr hk
    cases draw with
    | true =>
      obtain ⟨hm, hsel, LC, p, hh, ho, hk⟩ := hk
      refine wp_region_any hm (wpAny_of_W (LC := LC) _ _ _ _ ?_)
      refine plan_sound (C := C) hok hsel (Q := QOf C Q) (fun a w h => by obtain ⟨σ', h1, h2⟩ := h; exact ⟨.normal, rfl, σ', h1, h2⟩) (fun c a w h => by obtain ⟨e', h1, _⟩ := h; cases h1) _ p (Nat.le_refl _) _ _ σ a _ hh ho hk ?_
      obtain ⟨ρ, hat⟩ := hr
      exact ⟨ρ, hat.world (Keep.drew w _)⟩
    | false =>
    refine wp_region ?_
    have := runO_sound (C := C) (Q := QOf C Q) hok (fun a w h => by obtain ⟨σ', h1, h2⟩ := h; exact ⟨.normal, rfl, σ', h1, h2⟩) ops.size 0 σ a w rfl (Nat.zero_le _) hr (by have hk' : runO C.P ops ops.toList σ (fun σ => Q .normal σ) := hk; simpa using hk')
    simpa using this
  | seq x y ihx ihy =>
    intro Q σ a w hok hr hk
    simp only [okCode, Bool.and_eq_true] at hok
    rcases hk with hk | ⟨ι, pre, inv, hk, hy⟩
    · refine wp_seq (wp_mono (ihx hok.1 hr hk) (fun e a w hq => ?_))
      obtain ⟨e', h1, σ', h2, h3⟩ := hq
      cases e <;> simp only [exOf, Option.some.injEq] at h1 <;> first | (subst h1) | cases h1
      · exact ihy hok.2 h3 h2
      · exact ⟨_, rfl, σ', h2, h3⟩
      · exact ⟨_, rfl, σ', h2, h3⟩
    · refine wp_seq (wp_mono (ihx hok.1 hr hk) (fun e a w hq => ?_))
      obtain ⟨e', h1, σ', h2, h3⟩ := hq
      cases e <;> simp only [exOf, Option.some.injEq] at h1 <;> first | (subst h1) | cases h1
      · obtain ⟨i, hp, hw⟩ := h2
        exact ihy hok.2 (rel_wk hH h3 hw) (hy i hp)
      · exact ⟨_, rfl, σ', h2, h3⟩
      · exact ⟨_, rfl, σ', h2, h3⟩
  | cond c x y ihx ihy =>
    intro Q σ a w hok hr hk
    simp only [okCode, Bool.and_eq_true] at hok
    simp only [vc] at hk
    obtain ⟨ρ, hat⟩ := hr
    split at hk
    · rename_i t ht
      exact wp_cond_split (ev_one hat ht).1 (fun h => ihx hok.1 (know_sound hat ht h) (hk.1 h)) (fun h => ihy hok.2 (know_sound hat ht h) (hk.2 h))
    · exact hk.elim
  | block id b ih =>
    intro Q σ a w hok hr hk
    refine wp_block (wp_mono (ih hok hr hk) (fun e a w hq => ?_))
    obtain ⟨e', h1, σ', h2, h3⟩ := hq
    cases e <;> simp only [exOf, Option.some.injEq] at h1 <;> first | (subst h1) | cases h1
    · exact ⟨_, rfl, σ', h2, h3⟩
    · rename_i i
      simp only [Exit.inBlock]
      by_cases hi : i = id
      · subst hi
        rw [if_pos rfl]
        simp only [if_true] at h2
        exact ⟨_, rfl, σ', h2, h3⟩
      · rw [if_neg hi]
        simp only [hi, if_false] at h2
        exact ⟨_, rfl, σ', h2, h3⟩
    · exact ⟨_, rfl, σ', h2, h3⟩
  | loop b ih =>
    intro Q σ a w hok hr hk
    obtain ⟨ι, pre, inv, m, ⟨i0, hp0, hw0⟩, hstep⟩ := hk
    refine wp_loopI (J := fun i a w => pre i ∧ Rel C (inv i) a w) m (i0 := i0) ⟨hp0, rel_wk hH hr hw0⟩ (fun i a w ⟨hp, hr⟩ => ?_)
    refine wp_mono (ih hok hr (hstep i hp)) (fun e a w hq => ?_)
    obtain ⟨e', h1, σ', h2, h3⟩ := hq
    cases e <;> simp only [exOf, Option.some.injEq] at h1 <;> first | (subst h1) | cases h1
    · obtain ⟨i', hp', hm', hw'⟩ := h2
      exact ⟨i', hm', hp', rel_wk hH h3 hw'⟩
    · exact ⟨_, rfl, σ', h2, h3⟩
    · exact ⟨_, rfl, σ', h2, h3⟩
  | exit id => intro Q σ a w _ hr hk; exact wp_exit ⟨.exit id, rfl, σ, hk, hr⟩
  | ret => intro Q σ a w _ hr hk; exact wp_ret ⟨.ret, rfl, σ, hk, hr⟩
  | _ => intro Q σ a w _ hr hk; exact hk.elim
end
end Go.Sx
end
section
namespace Go.Sx
open Go.RowKit (Below)
def svAV : SV → AV
  | .one c => .one (.b c)
  | .agg cs => .agg (cs.map .b)
def argT : Nat → List SV → List (Nat × AV)
  | _, [] => []
  | i, sv :: l => (i, svAV sv) :: argT (i + 1) l
def matchOC (B : List (Nat × AB)) : AC → OC → Prop
  | .b (.s v), .s v' => v = v'
  | .nil, .l _ rows => rows = []
  | .em, .l _ rows => rows = []
  | .h β n, .l sz rows => (match get B β with | some (.arr true sz' _ rows') => n = rows'.length ∧ rows' = rows ∧ (sz = sz' ∨ sz = 0) | _ => False)
  | _, _ => False
def matchBC : AC → Cell → Prop
  | .b c, c' => c = c'
  | .nil, c' => c' = .l []
  | .em, c' => c' = .l []
  | _, _ => False
def all2 {α β : Type} (p : α → β → Prop) : List α → List β → Prop
  | [], [] => True
  | a :: l, b :: l' => p a b ∧ all2 p l l'
  | _, _ => False
theorem all2_get {α β : Type} {p : α → β → Prop} : ∀ {l : List α} {l' : List β}, all2 p l l' → l.length = l'.length ∧ ∀ (i : Nat) (b : β), l'[i]? = some b → ∃ a, l[i]? = some a ∧ p a b
  | [], [], _ => ⟨rfl, fun i b h => by simp at h⟩
  | a :: l, b :: l', h => by
    obtain ⟨h1, h2⟩ := all2_get h.2
    refine ⟨by simp [h1], fun i c hi => ?_⟩
    cases i with
    | zero => cases hi; exact ⟨a, rfl, h.1⟩
    | succ i => simpa using h2 i c (by simpa using hi)
  | [], _ :: _, h => h.elim
  | _ :: _, [], h => h.elim
def shapeAV (ag : Bool) : AV → Prop
  | .one _ => ag = false
  | .agg _ => ag = true
  | .tup _ => False
def matchRC (B : List (Nat × AB)) (av : AV) : RC → Prop
  | .own ag cs => shapeAV ag av ∧ all2 (matchOC B) (avCells av) cs
  | .bor ag cs => shapeAV ag av ∧ all2 matchBC (avCells av) cs
def resK (P : Program) (σ : St) (r : ResultVar) (K : AV → Prop) : Prop := match r with
  | .tmp t => (match get σ.t t with | some av => K av | none => False)
  | .cell t ty => (match get σ.t t, lay P ty with | some av, some (ag, n) => cellsAt σ av fun cs => (match loadAs ag n cs with | some r => K r | none => False) | _, _ => False)
def resKs (P : Program) (σ : St) : List ResultVar → (List AV → Prop) → Prop
  | [], K => K []
  | r :: rs, K => resK P σ r fun av => resKs P σ rs fun avs => K (av :: avs)
def ownGams : List AV → List RC → List Nat
  | av :: avs, .own _ _ :: rcs => (avCells av).filterMap gam ++ ownGams avs rcs
  | _ :: avs, .bor _ _ :: rcs => ownGams avs rcs
  | _, _ => []
def retKB (P : Program) (fn : Func) (res : Res) (bk : List Nat) (σ : St) : Prop := match res with
  | .one rc => (match fn.results.toList with | [r] => resK P σ r fun av => matchRC σ.b av rc ∧ (ownGams [av] [rc] ++ bk).Nodup | _ => False)
  | .tup rcs => fn.results.size ≠ 1 ∧ resKs P σ fn.results.toList fun avs => all2 (matchRC σ.b) avs rcs ∧ (ownGams avs rcs ++ bk).Nodup
def retK (P : Program) (fn : Func) (res : Res) (σ : St) : Prop := retKB P fn res [] σ
theorem RelRC.mono {w : World} {N N' S : Nat → Prop} {rc : RC} {v : Value} (h : RelRC w N S rc v) (hN : ∀ x, N x → N' x) : RelRC w N' S rc v := by
  cases rc with
  | own ag cs => exact h
  | bor ag cs =>
    obtain ⟨arr, h1, h2, h3⟩ := h
    exact ⟨arr, h1, h2, fun k c u hc hu => Rep.mono (h3 k c u hc hu) (fun x _ hx => hN x hx)⟩
theorem RelRes.mono {w : World} {N N' S : Nat → Prop} {res : Res} {v : Value} (h : RelRes w N S res v) (hN : ∀ x, N x → N' x) : RelRes w N' S res v := by
  cases res with
  | one rc => exact RelRC.mono h hN
  | tup rcs =>
    obtain ⟨arr, G, h1, h2, h3, h4, h5⟩ := h
    exact ⟨arr, G, h1, h2, h3, h4, fun i rc u hc hu => RelRC.mono (h5 i rc u hc hu) hN⟩
section
variable {C : Ctx} {σ : St} {ρ : Env} {a : Act} {w : World}
def runRes (a : Act) (r : ResultVar) : Sem Value := match r with
  | .tmp t => pure (a.tmps.getD t undef)
  | .cell t ty => do loadVar ty (← asAddr (a.tmps.getD t undef))
theorem resK_sound (h : RelAt C σ ρ a w) {r : ResultVar} {K : AV → Prop} (hk : resK C.P σ r K) : ∃ av v, K av ∧ RelAV C w ρ σ.b av v ∧ (runRes a r).run C.P w = .ok v w := by
  have tm : ∀ {t : Nat} {av : AV}, get σ.t t = some av → ∃ v, a.tmps.getD t undef = v ∧ RelAV C w ρ σ.b av v := fun {t av} ht => by
    obtain ⟨v, h1, h2⟩ := h.tmps t av ht
    exact ⟨v, by rw [Array.getD_eq_getD_getElem?, h1]; rfl, h2⟩
  unfold resK at hk
  split at hk
  · rename_i t
    split at hk
    · rename_i av hav
      obtain ⟨v, h1, h2⟩ := tm hav
      exact ⟨av, v, hk, h2, by simp only [runRes, h1, Sem.run_pure]⟩
    · exact hk.elim
  · rename_i t ty
    split at hk
    · rename_i av ag n hav hl
      obtain ⟨v, h1, h2⟩ := tm hav
      obtain ⟨p, cs, rfl, hc, hk⟩ := cellsAt_sound h h2 hk
      split at hk
      · rename_i r hr
        obtain ⟨v, h3, h4⟩ := loadAs_sound (C := C) hl hc hr
        refine ⟨r, v, hk, h3, ?_⟩
        have h5 := h4 w (Keep.refl w _)
        have h6 : (loadVar ty p).run C.P w = .ok v w := by simpa [Instr.loadAt, Instr.sureAddr] using h5
        simp only [runRes, h1, asAddr, Sem.run_bind, Sem.run_pure, Result.andThen_ok, h6]
      · exact hk.elim
    · exact hk.elim
theorem resKs_sound (h : RelAt C σ ρ a w) : ∀ {rs : List ResultVar} {K : List AV → Prop}, resKs C.P σ rs K → ∃ avs vs, K avs ∧ avs.length = rs.length ∧ vs.length = rs.length ∧ (∀ (i : Nat) (av : AV) (v : Value), avs[i]? = some av → vs[i]? = some v → RelAV C w ρ σ.b av v) ∧ (rs.mapM (runRes a)).run C.P w = .ok vs w
  | [], K, hk => ⟨[], [], hk, rfl, rfl, fun i av v h => by simp at h, by simp⟩
  | r :: rs, K, hk => by
    obtain ⟨av, v, hk', hv, hr⟩ := resK_sound h hk
    obtain ⟨avs, vs, hk'', h1, h2, h3, h4⟩ := resKs_sound h hk'
    refine ⟨av :: avs, v :: vs, hk'', by simp [h1], by simp [h2], fun i av' v' hi hv' => ?_, by rw [List.mapM_cons]; simp only [Sem.run_bind, hr, Result.andThen_ok, h4, Sem.run_pure]⟩
    cases i with
    | zero => cases hi; cases hv'; exact hv
    | succ i => exact h3 i av' v' (by simpa using hi) (by simpa using hv')
theorem shape_cells {B : List (Nat × AB)} {av : AV} {v : Value} {ag : Bool} (hs : shapeAV ag av) (hv : RelAV C w ρ B av v) : shape ag v v.cells ∧ CellsRel C w ρ B (avCells av) v.cells := by
  cases av with
  | one c =>
    have hs' : ag = false := hs
    subst hs'
    have h1 := av_cells (av := .one c) hv (by intro vs; simp)
    have hone := relAC_one (c := c) hv
    refine ⟨?_, h1⟩
    show v.cells = #[v]
    cases v <;> first | rfl | cases hone
  | agg cs =>
    have hs' : ag = true := hs
    subst hs'
    have h1 := av_cells (av := .agg cs) hv (by intro vs; simp)
    obtain ⟨arr, rfl, _⟩ := hv
    exact ⟨rfl, h1⟩
  | tup vs => exact hs.elim
def gS (σ : St) (ρ : Env) (ms : List Nat) (x : Nat) : Prop := ∃ γ, γ ∈ ms ∧ (∃ ab, get σ.b γ = some ab) ∧ ρ.S γ x
theorem rc_sound (h : RelAt C σ ρ a w) {av : AV} {rc : RC} {v : Value} (hv : RelAV C w ρ σ.b av v) (hm : matchRC σ.b av rc) (hn : (ownGams [av] [rc]).Nodup) :
    RelRC w (Bor C ρ σ.b) (gS σ ρ (ownGams [av] [rc])) rc v := by
  cases rc with
  | own ag cs =>
    obtain ⟨hs, hc⟩ := hm
    obtain ⟨h1, h2⟩ := shape_cells hs hv
    obtain ⟨h3, h4⟩ := all2_get hc
    have hn' : ((avCells av).filterMap gam).Nodup := by simpa [ownGams] using hn
    have blk : ∀ {k : Nat} {c : AC} {γ : Nat}, (avCells av)[k]? = some c → gam c = some γ → ∃ ab, get σ.b γ = some ab := fun {k c γ} hck hg => by
      have hlt : k < cs.length := by rw [← h3]; exact (List.getElem?_eq_some_iff.1 hck).1
      obtain ⟨c', hc', hmc⟩ := h4 k cs[k] (by simp [hlt])
      rw [hck] at hc'
      cases hc'
      cases c with
      | h γ' n =>
        cases hg
        generalize cs[k] = oc at hmc
        cases oc with
        | s v => exact hmc.elim
        | l sz rows =>
          simp only [matchOC] at hmc
          split at hmc
          · rename_i hγ; exact ⟨_, hγ⟩
          · exact hmc.elim
      | _ => cases hg
    refine ⟨v.cells, fun k x => ∃ c γ, (avCells av)[k]? = some c ∧ gam c = some γ ∧ ρ.S γ x, h1, by rw [h2.1, h3], fun k x hx => ?_, fun k k' x hx hx' => ?_, fun k oc u hoc hu => ?_⟩
    · obtain ⟨c, γ, h5, h6, h7⟩ := hx
      exact ⟨γ, by simp only [ownGams, List.append_nil]; exact List.mem_filterMap.2 ⟨c, List.mem_of_getElem? h5, h6⟩, blk h5 h6, h7⟩
    · obtain ⟨c, γ, h5, h6, h7⟩ := hx
      obtain ⟨c', γ', h5', h6', h7'⟩ := hx'
      obtain ⟨ab, hab⟩ := blk h5 h6
      obtain ⟨ab', hab'⟩ := blk h5' h6'
      have := h.disj γ γ' _ _ x hab hab' h7 h7'
      subst this
      exact filterMap_nodup hn' h5 h5' h6 h6'
    · obtain ⟨c, hc', hmc⟩ := h4 k oc hoc
      have hrel := h2.2 k c u hc' hu
      cases oc with
      | s v' =>
        cases c with
        | b c0 =>
          cases c0 with
          | s v0 => have hm' : v0 = v' := hmc; subst hm'; cases hrel with | s _ h9 => exact ⟨rfl, h9⟩
          | _ => exact hmc.elim
        | _ => exact hmc.elim
      | l sz rows =>
        cases c with
        | b c0 => cases c0 <;> exact hmc.elim
        | nil => cases hrel; have hm' : rows = [] := hmc; subst hm'; exact ⟨sz, fun _ => rfl, .inl ⟨rfl, none, rfl⟩⟩
        | em => obtain ⟨A, rfl⟩ := hrel; have hm' : rows = [] := hmc; subst hm'; exact ⟨sz, fun _ => rfl, .inl ⟨rfl, A, rfl⟩⟩
        | h β n =>
          simp only [matchOC] at hmc
          split at hmc
          · rename_i sz' ep rows' hβ
            obtain ⟨rfl, rfl, hsz⟩ := hmc
            obtain ⟨_, ab, hg, h9⟩ := hrel
            rw [hβ] at hg
            cases hg
            rw [(h9 true sz' ep rows' rfl).2 rfl]
            obtain ⟨sz1, hsz1, hslab⟩ := h.blks β _ hβ
            refine ⟨sz1, fun hne => ?_, Slab.imp hslab (fun x hx => ⟨.h β rows'.length, β, hc', rfl, hx⟩) (fun _ _ _ => rfl) (fun F c u _ hc => hc)⟩
            rcases hsz with rfl | rfl
            · exact hsz1 hne
            · exact absurd rfl hne
          · exact hmc.elim
        | _ => exact hmc.elim
  | bor ag cs =>
    obtain ⟨hs, hc⟩ := hm
    obtain ⟨h1, h2⟩ := shape_cells hs hv
    obtain ⟨h3, h4⟩ := all2_get hc
    refine ⟨v.cells, h1, by rw [h2.1, h3], fun k oc u hoc hu => ?_⟩
    obtain ⟨c, hc', hmc⟩ := h4 k oc hoc
    have hrel := h2.2 k c u hc' hu
    cases c with
    | b c0 => have hm' : c0 = oc := hmc; subst hm'; exact hrel
    | nil => cases hrel; have hm' : oc = .l [] := hmc; subst hm'; exact .l 0 [] none 0 (fun _ _ => undef) (by simp) (Nat.le_refl _) (fun _ => rfl) (fun j k hj => by simp at hj) (fun j k row c h1 => by simp at h1)
    | em => obtain ⟨A, rfl⟩ := hrel; have hm' : oc = .l [] := hmc; subst hm'; exact .l 0 [] A 0 (fun _ _ => undef) (by simp) (Nat.le_refl _) (fun _ => rfl) (fun j k hj => by simp at hj) (fun j k row c h1 => by simp at h1)
    | _ => exact hmc.elim
theorem ownGams_cons (av : AV) (avs : List AV) (rc : RC) (rcs : List RC) : ownGams (av :: avs) (rc :: rcs) = ownGams [av] [rc] ++ ownGams avs rcs := by
  cases rc <;> simp [ownGams]
theorem ownGams_sub : ∀ {avs : List AV} {rcs : List RC} {i : Nat} {av : AV} {rc : RC}, avs[i]? = some av → rcs[i]? = some rc → ∀ γ ∈ ownGams [av] [rc], γ ∈ ownGams avs rcs
  | [], rcs, i, av, rc, h, _, γ, _ => by simp at h
  | _ :: _, [], i, av, rc, _, h, γ, _ => by simp at h
  | av0 :: avs, rc0 :: rcs, i, av, rc, h, h', γ, hγ => by
    rw [ownGams_cons]
    cases i with
    | zero => cases h; cases h'; exact List.mem_append_left _ hγ
    | succ i => exact List.mem_append_right _ (ownGams_sub (by simpa using h) (by simpa using h') γ hγ)
theorem ownGams_nodup : ∀ {avs : List AV} {rcs : List RC}, (ownGams avs rcs).Nodup → ∀ {i : Nat} {av : AV} {rc : RC}, avs[i]? = some av → rcs[i]? = some rc → (ownGams [av] [rc]).Nodup
  | [], rcs, _, i, av, rc, h, _ => by simp at h
  | _ :: _, [], _, i, av, rc, _, h => by simp at h
  | av0 :: avs, rc0 :: rcs, hn, i, av, rc, h, h' => by
    rw [ownGams_cons] at hn
    obtain ⟨h1, h2, _⟩ := List.nodup_append.1 hn
    cases i with
    | zero => cases h; cases h'; exact h1
    | succ i => exact ownGams_nodup h2 (by simpa using h) (by simpa using h')
theorem ownGams_apart : ∀ {avs : List AV} {rcs : List RC}, (ownGams avs rcs).Nodup → ∀ {i i' : Nat} {av av' : AV} {rc rc' : RC} {γ : Nat}, avs[i]? = some av → rcs[i]? = some rc → avs[i']? = some av' → rcs[i']? = some rc' → γ ∈ ownGams [av] [rc] → γ ∈ ownGams [av'] [rc'] → i = i'
  | [], rcs, _, i, i', av, av', rc, rc', γ, h, _, _, _, _, _ => by simp at h
  | _ :: _, [], _, i, i', av, av', rc, rc', γ, _, h, _, _, _, _ => by simp at h
  | av0 :: avs, rc0 :: rcs, hn, i, i', av, av', rc, rc', γ, h1, h2, h3, h4, h5, h6 => by
    rw [ownGams_cons] at hn
    obtain ⟨_, n2, n3⟩ := List.nodup_append.1 hn
    cases i with
    | zero =>
      cases i' with
      | zero => rfl
      | succ i' =>
        cases h1; cases h2
        exact absurd rfl (n3 γ h5 γ (ownGams_sub (by simpa using h3) (by simpa using h4) γ h6))
    | succ i =>
      cases i' with
      | zero =>
        cases h3; cases h4
        exact absurd rfl (n3 γ h6 γ (ownGams_sub (by simpa using h1) (by simpa using h2) γ h5))
      | succ i' => exact congrArg (· + 1) (ownGams_apart n2 (by simpa using h1) (by simpa using h2) (by simpa using h3) (by simpa using h4) h5 h6)
theorem results_run {P : Program} {fn : Func} {vs : List Value} (h : (fn.results.toList.mapM (runRes a)).run P w = .ok vs w) : (results fn a.tmps).run P w = .ok (if h : vs.toArray.size = 1 then vs.toArray[0] else .tuple vs.toArray) w := by
  have he : results fn a.tmps = (do let vs ← fn.results.mapM (runRes a); pure (if h : vs.size = 1 then vs[0] else .tuple vs)) := rfl
  rw [he, ← Array.toArray_toList (xs := fn.results), List.mapM_toArray]
  simp only [Sem.run_bind, Sem.run_map, h, Result.andThen_ok, Sem.run_pure]
theorem argT_get : ∀ {args : List SV} {i t : Nat} {av : AV}, get (argT i args) t = some av → ∃ k sv, t = i + k ∧ args[k]? = some sv ∧ av = svAV sv
  | [], i, t, av, h => by cases h
  | sv :: l, i, t, av, h => by
    rw [argT, get_cons'] at h
    by_cases ht : i = t
    · rw [if_pos ht] at h; cases h; exact ⟨0, sv, by omega, rfl, rfl⟩
    · rw [if_neg ht] at h
      obtain ⟨k, sv', h1, h2, h3⟩ := argT_get h
      exact ⟨k + 1, sv', by omega, by simpa using h2, h3⟩
theorem ret_sound (h : RelAt C σ ρ a w) {fn : Func} {res : Res} {bk : List Nat} (hk : retKB C.P fn res bk σ) : ∃ (v : Value) (ms : List Nat), (results fn a.tmps).run C.P w = .ok v w ∧ RelRes w (Bor C ρ σ.b) (gS σ ρ ms) res v ∧ ∀ γ ∈ ms, γ ∉ bk := by
  cases res with
  | one rc =>
    simp only [retKB] at hk
    split at hk
    · rename_i r hr
      obtain ⟨av, v, ⟨h1, h2⟩, h3, h4⟩ := resK_sound h hk
      obtain ⟨n1, _, n3⟩ := List.nodup_append.1 h2
      refine ⟨v, ownGams [av] [rc], ?_, rc_sound h h3 h1 n1, fun γ hγ hb => n3 γ hγ γ hb rfl⟩
      have := results_run (P := C.P) (fn := fn) (a := a) (w := w) (vs := [v]) (by rw [hr]; simp [h4])
      simpa using this
    · exact hk.elim
  | tup rcs =>
    obtain ⟨hsz, hk⟩ := hk
    obtain ⟨avs, vs, ⟨h1, h20⟩, h3, h4, h5, h6⟩ := resKs_sound h hk
    obtain ⟨h2, _, n3⟩ := List.nodup_append.1 h20
    obtain ⟨h7, h8⟩ := all2_get h1
    have hvs : vs.toArray.size ≠ 1 := by simpa [h4] using hsz
    refine ⟨.tuple vs.toArray, ownGams avs rcs, ?_, ?_, fun γ hγ hb => n3 γ hγ γ hb rfl⟩
    · have := results_run (P := C.P) (fn := fn) (a := a) (w := w) h6
      rw [dif_neg hvs] at this
      exact this
    · have hat : ∀ {i : Nat} {rc : RC}, rcs[i]? = some rc → ∃ av, avs[i]? = some av ∧ matchRC σ.b av rc := fun {i rc} hi => h8 i rc hi
      refine ⟨vs.toArray, fun i x => ∃ av rc, avs[i]? = some av ∧ rcs[i]? = some rc ∧ gS σ ρ (ownGams [av] [rc]) x, rfl, by simp [h4, ← h7, h3], fun i x hx => ?_, fun i i' x hx hx' => ?_, fun i rc u hrc hu => ?_⟩
      · obtain ⟨av, rc, g1, g2, γ, g3, g4, g5⟩ := hx
        exact ⟨γ, ownGams_sub g1 g2 γ g3, g4, g5⟩
      · obtain ⟨av, rc, g1, g2, γ, g3, ⟨ab, g4⟩, g5⟩ := hx
        obtain ⟨av', rc', g1', g2', γ', g3', ⟨ab', g4'⟩, g5'⟩ := hx'
        have := h.disj γ γ' _ _ x g4 g4' g5 g5'
        subst this
        exact ownGams_apart h2 g1 g2 g1' g2' g3 g3'
      · obtain ⟨av, hav, hm⟩ := hat hrc
        have hrel := h5 i av u hav (by simpa using hu)
        have := rc_sound h hrel hm (ownGams_nodup h2 hav hrc)
        have hG : (fun x => ∃ av rc, avs[i]? = some av ∧ rcs[i]? = some rc ∧ gS σ ρ (ownGams [av] [rc]) x) = gS σ ρ (ownGams [av] [rc]) := by
          funext x
          apply propext
          constructor
          · rintro ⟨av', rc', e1, e2, e3⟩
            rw [hav] at e1; rw [hrc] at e2
            cases e1; cases e2; exact e3
          · intro e; exact ⟨av, rc, hav, hrc, e⟩
        show RelRC w _ (fun x => ∃ av rc, avs[i]? = some av ∧ rcs[i]? = some rc ∧ gS σ ρ (ownGams [av] [rc]) x) rc u
        rw [hG]; exact this
end
theorem PC.intro {P : Program} {f : Nat} {fn : Func} {c : Code} {args : List SV} {res : Res} (hf : P.funcs[f]? = some fn) (hb : fn.body = some c) (hok : (okF P f && okCode fn.ntmps c && Nat.ble args.length fn.ntmps) = true)
    (h : vc P c (fun e σ => match e with | .exit _ => False | _ => retK P fn res σ) ⟨argT 0 args, []⟩) : PC P f args res := by
  simp only [Bool.and_eq_true] at hok
  obtain ⟨⟨ho1, ho2⟩, ho3⟩ := hok
  refine ⟨ho1, fun N w vals hargs => ?_⟩
  refine calls_of_wp hf hb ?_
  have hle : args.length ≤ fn.ntmps := Nat.le_of_ble_eq_true ho3
  have hM : ∀ x, ¬ (Ctx.mk P fn.ntmps w N (fun _ => False) []).M x := fun x h => h
  have hinit : RelAt (Ctx.mk P fn.ntmps w N (fun _ => False) []) ⟨argT 0 args, []⟩ ⟨fun _ => undef, fun _ _ => False⟩ { tmps := vals ++ Array.replicate (fn.ntmps - vals.size) undef, defers := [] } w := by
    refine ⟨fun t av ht => ?_, fun β ab h => (by cases h), fun β β' ab ab' x h => (by cases h), fun β ab x h => (by cases h), ?_, rfl, Keep.refl _ _, fun g hg => by cases hg⟩
    · obtain ⟨k, sv, h1, h2, rfl⟩ := argT_get ht
      have hk : k < vals.size := by rw [hargs.1]; exact (List.getElem?_eq_some_iff.1 h2).1
      have ht' : t = k := by omega
      subst ht'
      refine ⟨vals[t], by rw [Array.getElem?_append, if_pos hk]; simp [hk], ?_⟩
      have hrv := hargs.2 t sv vals[t] h2 (by simp [hk])
      have hN : ∀ {c : Cell} {u : Value}, Rep w N c u → Rep w (Bor (Ctx.mk P fn.ntmps w N (fun _ => False) []) ⟨fun _ => undef, fun _ _ => False⟩ []) c u := fun hr => Rep.mono hr (fun x _ hx => ⟨.inl hx, fun β ab h => by cases h⟩)
      cases sv with
      | one c => exact hN hrv
      | agg cs =>
        obtain ⟨arr, he, h3, h4⟩ := hrv
        refine ⟨arr, he, by simp [h3], fun k c u hc hu => ?_⟩
        rw [List.getElem?_map] at hc
        cases hck : cs[k]? with
        | none => rw [hck] at hc; cases hc
        | some c0 => rw [hck] at hc; cases hc; exact hN (h4 k c0 u hck hu)
    · show (vals ++ Array.replicate (fn.ntmps - vals.size) undef).size = fn.ntmps
      rw [Array.size_append, Array.size_replicate]
      have := hargs.1
      omega
  refine wp_mono (vc_sound (C := Ctx.mk P fn.ntmps w N (fun _ => False) []) (fun g hg => by cases hg) ho2 ⟨_, hinit⟩ h) (fun e a' w' hq => ?_)
  obtain ⟨e', he, σ', hr, ρ', hrel⟩ := hq
  have fin : retK P fn res σ' → a'.defers = [] ∧ ∃ v, (results fn a'.tmps).run P w' = .ok v w' ∧ ∃ (v' : Value) (S : Nat → Prop), Ending.returned v = .returned v' ∧ Keep w w' (fun _ => False) ∧ RelRes w' (fun x => (N x ∨ w.heap.size ≤ x) ∧ ¬ S x) S res v' ∧ ∀ x, S x → w.heap.size ≤ x ∧ x < w'.heap.size := fun hret => by
    obtain ⟨v, ms, h1, h2, _⟩ := ret_sound hrel hret
    refine ⟨hrel.defers, v, h1, v, gS σ' ρ' ms, rfl, hrel.keep, h2.mono (fun x hx => ⟨?_, ?_⟩), fun x hx => ?_⟩
    · rcases hx.1 with h | h | h
      · exact .inl h
      · exact .inr h
      · exact h.elim
    · rintro ⟨γ, _, ⟨ab, hab⟩, hs⟩; exact hx.2 γ ab hab hs
    · obtain ⟨γ, _, ⟨ab, hab⟩, hs⟩ := hx
      exact ⟨(hrel.mine γ ab x hab hs).2.resolve_right (hM x), (hrel.mine γ ab x hab hs).1⟩
  cases e <;> simp only [exOf, Option.some.injEq] at he <;> first | (subst he) | cases he
  · exact fin hr
  · exact hr.elim
  · exact fin hr
end Go.Sx
end
