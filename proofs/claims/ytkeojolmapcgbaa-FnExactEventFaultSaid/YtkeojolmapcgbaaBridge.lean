/- WHAT IS PROVED: whatever a row's reading of an argument (integers, bools, strings, slices, structs, nested in each other) finds in memory is a value of the printed kind ('Kd'), with its integers in range and its slices' lengths bounded; no condition. -/
import Derived.Test.YtkeojolmapcgbaaWWords
import Derived.Deep.Slices
import Derived.ChangeArms
import Derived.WideShapes
namespace Go.Proofs.Ytkeojolmapcgbaa.Bridge
open Go.RowKit Go.ChangeShapes Go.WideShapes Go.Deep Go.Proofs.YtkeojolmapcgbaaW.PrintWords

/-- Every reading of cells by type t is of kind d, at a value that is good. -/
structure Opens (P : Program) (t : TypeId) {α : Type} (d : Kd α) (G : α → Prop) : Prop where
  sz : P.cellsOf t = d.sz
  get : ∀ {H : Type} (enc : TypeId × Value → H) (w : World) (base : Nat) (spare : Nat → Bool) (held : Bool) (fuel : Nat) (cs : List Value) (x : DataW H × List MemPlace), DataW.trod enc P w base spare held fuel t cs = some x → ∃ a, d.K w a cs ∧ G a

section
variable {P : Program} {α β : Type} {t e : TypeId}

theorem opens_int {k : IntKind} (ht : P.underlying t = some (.int k)) (hc : P.cellsOf t = 1) : Opens P t (Kd.int k) (fun n => (Lit.int k n).wf = true) :=
  ⟨hc, fun enc w base spare held fuel cs x h => by obtain ⟨n, rfl, _, hw⟩ := DataW.trod_int ht h; exact ⟨n, rfl, hw⟩⟩

theorem opens_bool (ht : P.underlying t = some .bool) (hc : P.cellsOf t = 1) : Opens P t Kd.bool (fun _ => True) :=
  ⟨hc, fun enc w base spare held fuel cs x h => by obtain ⟨b, rfl, _⟩ := DataW.trod_bool ht h; exact ⟨b, rfl, trivial⟩⟩

theorem opens_string (ht : P.underlying t = some .string) (hc : P.cellsOf t = 1) : Opens P t Kd.string (fun s => s.size ≤ maxLen) :=
  ⟨hc, fun enc w base spare held fuel cs x h => by obtain ⟨s, rfl, _, hs⟩ := DataW.trod_string ht h; exact ⟨s, rfl, hs⟩⟩

theorem reads_list {d : Kd α} {G : α → Prop} {w : World} {ad : Addr} {n : Nat} (hn : n ≤ 9223372036854775807)
    (h : ∀ i, i < n → ∃ a c, c.length = d.sz ∧ d.K w a c ∧ G a ∧ ∀ j, j < d.sz → w.cell? ((ad.add (i * d.sz)).add j) = c[j]?) :
    ∃ l : List α, l.length = n ∧ d.C w (some ad) n l ∧ ∀ a ∈ l, G a := by
  classical
  have key : ∀ m, m ≤ n → ∃ l : List α, l.length = m ∧ (∀ j p, l[j]? = some p → ∃ c, c.length = d.sz ∧ d.K w p c ∧ ∀ i u, c[i]? = some u → w.cell? (ad.add (j * d.sz + i)) = some u) ∧ ∀ a ∈ l, G a := by
    intro m
    induction m with
    | zero => exact fun _ => ⟨[], rfl, fun j p hj => by simp at hj, fun a ha => by cases ha⟩
    | succ m ih =>
      intro hm
      obtain ⟨l, hl, hc, hG⟩ := ih (by omega)
      obtain ⟨a, c, hs, hK, hg, hcell⟩ := h m (by omega)
      refine ⟨l ++ [a], by simp [hl], fun j p hj => ?_, fun b hb => ?_⟩
      · rcases Nat.lt_or_ge j l.length with hjl | hjl
        · rw [List.getElem?_append_left hjl] at hj
          exact hc j p hj
        · have hj' : j = l.length := by
            have := (List.getElem?_eq_some_iff.1 hj).1
            rw [List.length_append, List.length_singleton] at this
            omega
          subst hj'
          have hp : a = p := by simpa using hj
          subst hp
          refine ⟨c, hs, hK, fun i u hu => ?_⟩
          have hi : i < d.sz := by rw [← hs]; exact (List.getElem?_eq_some_iff.1 hu).1
          have := hcell i hi
          rw [Go.Deep.add_add, ← hl] at this
          rw [this, hu]
      · rcases List.mem_append.1 hb with hb | hb
        · exact hG b hb
        · rw [List.mem_singleton.1 hb]; exact hg
  obtain ⟨l, hl, hc, hG⟩ := key n (Nat.le_refl _)
  exact ⟨l, hl, ⟨hl, hn, fun _ => ⟨ad, rfl, hc⟩⟩, hG⟩

theorem opens_row {d : Kd α} {G : α → Prop} (ht : P.underlying t = some (.slice e)) (he : Opens P e d G)
    {H : Type} (enc : TypeId × Value → H) (w : World) (base : Nat) (spare : Nat → Bool) (held : Bool) (fuel : Nat) (cs : List Value) (x : DataW H × List MemPlace) (h : DataW.trod enc P w base spare held fuel t cs = some x) :
    ∃ (l : List α) (A : Option Addr) (c : Nat), cs = [.slice A l.length c] ∧ l.length ≤ c ∧ d.C w A l.length l ∧ (l.length ≤ maxLen ∧ ∀ a ∈ l, G a) := by
  rcases open_slice ht h with ⟨rfl, _⟩ | ⟨a, len, cap, m, n, D, Pl, rfl, hb, hl, hm, hmm, rfl, hx⟩
  · exact ⟨[], none, 0, rfl, Nat.le_refl _, Kd.C_nil d w, by simp, fun a ha => by cases ha⟩
  · have hlm : len ≤ m := by rw [hmm]; split <;> omega
    have hmax : len ≤ 9223372036854775807 := by have := hm; unfold maxLen at this; omega
    obtain ⟨l, hl', hC, hG⟩ := reads_list (d := d) (G := G) (w := w) (ad := a) (n := len) hmax (fun i hi => by
      obtain ⟨cs', h1, h2⟩ := hx i (by omega)
      obtain ⟨b, hK, hg⟩ := he.get enc w base spare held n cs' _ h2
      rw [he.sz] at h1
      obtain ⟨_, hlen, hcell⟩ := World.cells?_some h1
      exact ⟨b, cs', hlen, hK, hg, hcell⟩)
    subst hl'
    exact ⟨l, some a, cap, rfl, hl, hC, by omega, hG⟩

theorem opens_slice {d : Kd α} {G : α → Prop} (ht : P.underlying t = some (.slice e)) (hc : P.cellsOf t = 1) (he : Opens P e d G) : Opens P t (Kd.slice e d) (fun l => l.length ≤ maxLen ∧ ∀ a ∈ l, G a) :=
  ⟨hc, fun enc w base spare held fuel cs x h => by
    obtain ⟨l, A, c, rfl, hl, hC, hG⟩ := opens_row ht he enc w base spare held fuel cs x h
    exact ⟨l, ⟨A, c, rfl, hl, hC⟩, hG⟩⟩

/-- Fields that lie one behind the other from 'o' on. -/
inductive Laid (P : Program) : Nat → List Field → Prop
  | nil (o : Nat) : Laid P o []
  | cons {o : Nat} {f : Field} {fs : List Field} : f.offset = o → Laid P (o + P.cellsOf f.type) fs → Laid P o (f :: fs)

/-- The same for a list of fields: each is read at its place; together they are of kind d. -/
def OpensF (P : Program) (fs : List Field) {α : Type} (d : Kd α) (G : α → Prop) : Prop :=
  ∀ {H : Type} (enc : TypeId × Value → H) (w : World) (base : Nat) (spare : Nat → Bool) (held : Bool) (fuel : Nat) (cs : List Value), cs.length = d.sz →
    (∀ (i : Nat) (f : Field), fs[i]? = some f → ∃ x, DataW.trod enc P w base spare held fuel f.type ((cs.drop (((fs.take i).map fun g => P.cellsOf g.type).sum)).take (P.cellsOf f.type)) = some x) →
    ∃ a, d.K w a cs ∧ G a

theorem opensF_one {f : Field} {d : Kd α} {G : α → Prop} (h : Opens P f.type d G) : OpensF P [f] d G := by
  intro H enc w base spare held fuel cs hl hx
  obtain ⟨x, hx⟩ := hx 0 f rfl
  simp only [List.take_zero, List.map_nil, List.sum_nil, List.drop_zero] at hx
  rw [h.sz, ← hl, List.take_length] at hx
  exact h.get enc w base spare held fuel cs x hx

theorem opensF_cons {f : Field} {fs : List Field} {d : Kd α} {G : α → Prop} {d' : Kd β} {G' : β → Prop} (h : Opens P f.type d G) (h' : OpensF P fs d' G') : OpensF P (f :: fs) (Kd.pair d d') (fun x => G x.1 ∧ G' x.2) := by
  intro H enc w base spare held fuel cs hl hx
  have hl' : cs.length = d.sz + d'.sz := hl
  obtain ⟨x, hx0⟩ := hx 0 f rfl
  simp only [List.take_zero, List.map_nil, List.sum_nil, List.drop_zero] at hx0
  rw [h.sz] at hx0
  obtain ⟨a, hK, hG⟩ := h.get enc w base spare held fuel _ x hx0
  obtain ⟨b, hK', hG'⟩ := h' enc w base spare held fuel (cs.drop d.sz) (by rw [List.length_drop]; omega) (fun i g hi => by
    obtain ⟨y, hy⟩ := hx (i + 1) g (by simpa using hi)
    refine ⟨y, ?_⟩
    rw [List.drop_drop]
    simpa [h.sz] using hy)
  exact ⟨(a, b), ⟨cs.take d.sz, cs.drop d.sz, (List.take_append_drop _ _).symm, hK, hK'⟩, hG, hG'⟩

theorem laid_offset : ∀ {fs : List Field} {o : Nat}, Laid P o fs → ∀ (i : Nat) (f : Field), fs[i]? = some f → f.offset = o + ((fs.take i).map fun g => P.cellsOf g.type).sum
  | [], _, _, i, f, h => by simp at h
  | g :: fs, o, .cons h1 h2, 0, f, h => by
    have : g = f := by simpa using h
    subst this
    simp [h1]
  | g :: fs, o, .cons h1 h2, i + 1, f, h => by
    rw [laid_offset h2 i f (by simpa using h)]
    simp [Nat.add_assoc]

theorem opens_struct {fs : List Field} {d : Kd α} {G : α → Prop} {f : β → α} {g : α → β} (hfg : ∀ a, f (g a) = a) (ht : P.underlying t = some (.struct fs.toArray)) (hc : P.cellsOf t = d.sz) (hL : Laid P 0 fs) (hF : OpensF P fs d G) :
    Opens P t (Kd.iso d f) (fun x => G (f x)) :=
  ⟨hc, fun enc w base spare held fuel cs x h => by
    obtain ⟨xs, n, rfl, _, hl, hxs, hf⟩ := DataW.trod_struct ht h
    obtain ⟨a, hK, hG⟩ := hF enc w base spare held n cs (by rw [hl, hc]) (fun i f hi => by
      have hoff := laid_offset hL i f hi
      rw [Nat.zero_add] at hoff
      have h1 := hf i f (by simpa using hi)
      rw [hoff] at h1
      have hi' : i < xs.length := by
        rw [hxs]
        have := (List.getElem?_eq_some_iff.1 hi).1
        simpa using this
      exact ⟨xs[i], by rw [h1, List.getElem?_eq_getElem hi']⟩)
    refine ⟨g a, ?_, ?_⟩
    · show d.K w (f (g a)) cs
      rw [hfg]; exact hK
    · rw [hfg]; exact hG⟩

/-- An argument of a slice type. -/
theorem arg_slice {d : Kd α} {G : α → Prop} (ht : P.underlying t = some (.slice e)) (he : Opens P e d G) {H : Type} {enc : TypeId × Value → H} {w : World} {r : Reach} {b : Nat} {v : Value} {dd : DataW H} {ps : List MemPlace}
    (hv : Value.okWide P w r b t v) (h : DataW.Trod enc P w 0 (fun _ => true) true t v dd ps) :
    ∃ (l : List α) (A : Option Addr) (c : Nat), v = .slice A l.length c ∧ l.length ≤ c ∧ d.C w A l.length l ∧ (l.length ≤ maxLen ∧ ∀ a ∈ l, G a) := by
  obtain ⟨A, len, cap, rfl⟩ := okWide_slice ht hv
  obtain ⟨fuel, hf⟩ := h
  obtain ⟨l, A', c, hcs, h1, h2, h3⟩ := opens_row ht he enc w 0 _ true fuel _ _ hf
  simp [Value.cells] at hcs
  obtain ⟨rfl, rfl, rfl⟩ := hcs
  exact ⟨l, A, cap, rfl, h1, h2, h3⟩

/-- An argument of a struct type. -/
theorem arg_struct {fs : Array Field} {d : Kd α} {G : α → Prop} (ht : P.underlying t = some (.struct fs)) (he : Opens P t d G) {H : Type} {enc : TypeId × Value → H} {w : World} {r : Reach} {b : Nat} {v : Value} {dd : DataW H} {ps : List MemPlace}
    (hv : Value.okWide P w r b t v) (h : DataW.Trod enc P w 0 (fun _ => true) true t v dd ps) :
    ∃ (a : α) (cs : List Value), v = .agg cs.toArray ∧ d.K w a cs ∧ G a := by
  obtain ⟨cs, rfl, _⟩ := okWide_struct ht hv
  obtain ⟨fuel, hf⟩ := h
  obtain ⟨a, hK, hG⟩ := he.get enc w 0 _ true fuel _ _ hf
  exact ⟨a, cs.toList, by simp, by simpa [Value.cells] using hK, hG⟩

end
end Go.Proofs.Ytkeojolmapcgbaa.Bridge
