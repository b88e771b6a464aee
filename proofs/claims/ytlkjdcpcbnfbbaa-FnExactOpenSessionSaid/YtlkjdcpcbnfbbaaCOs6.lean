/- WHAT IS PROVED: FnExactOpenSession, for every argument of its parameters' types that can be read as data: the call returns true and its arguments read as before. No condition. -/
import Derived.Test.YtlkjdcpcbnfbbaaCOs5
import Derived.WalkKit
import Derived.OrdersHeld
import Derived.DeepKeys
import Derived.Maps.RangeWalk
import Derived.Maps.OwnOps
import Derived.WideKeyEntry
import Derived.Deep.Slices
import Derived.ChangeArms
import Derived.WideShapes
import Derived.Test.YtlkjdcpcbnfbbaaProg
import Derived.Shelf.SlicesG.Delete
import Derived.Lib.OwnBridge
import Derived.Shelf.Spec.SlicesInsertGrow
import Derived.Test.YtlkjdcpcbnfbbaaRows
import Derived.ProofKit
import Derived.OpenShut
import Derived.ShutString
import Derived.ChangeOld
import Derived.Below
import Derived.SizedLaws
set_option linter.unusedVariables false
set_option linter.unusedSimpArgs false
section
namespace Go.Proofs.Ytlkjdcpcbnfbbaa
open Go Go.Sx
set_option maxRecDepth 20000
set_option maxHeartbeats 4000000
abbrev sh_SessionsResult : Sh := (.i .i64 (.i .i64 (.l sh_Session (.l sh_Contract (.l sh_Shard (.l sh_Acceptor (.l sh_Leader (.l sh_Message .nil))))))))
theorem eqSessionsResult_pc (x0 : Int) (x1 : Int) (x2 : List (List Cell)) (x3 : List (List Cell)) (x4 : List (List Cell)) (x5 : List (List Cell)) (x6 : List (List Cell)) (x7 : List (List Cell)) (y0 : Int) (y1 : Int) (y2 : List (List Cell)) (y3 : List (List Cell)) (y4 : List (List Cell)) (y5 : List (List Cell)) (y6 : List (List Cell)) (y7 : List (List Cell)) (h2 : WR 9000000000000000000 sh_Session x2) (h3 : WR 9000000000000000000 sh_Contract x3) (h4 : WR 9000000000000000000 sh_Shard x4) (h5 : WR 9000000000000000000 sh_Acceptor x5) (h6 : WR 9000000000000000000 sh_Leader x6) (h7 : WR 9000000000000000000 sh_Message x7) (k2 : WR 9000000000000000000 sh_Session y2) (k3 : WR 9000000000000000000 sh_Contract y3) (k4 : WR 9000000000000000000 sh_Shard y4) (k5 : WR 9000000000000000000 sh_Acceptor y5) (k6 : WR 9000000000000000000 sh_Leader y6) (k7 : WR 9000000000000000000 sh_Message y7) : PC Try.prog 9 [.agg [.s (.int .i64 x0), .s (.int .i64 x1), .l x2, .l x3, .l x4, .l x5, .l x6, .l x7], .agg [.s (.int .i64 y0), .s (.int .i64 y1), .l y2, .l y3, .l y4, .l y5, .l y6, .l y7]] (rB (dE (α := List Cell) [.s (.int .i64 x0), .s (.int .i64 x1), .l x2, .l x3, .l x4, .l x5, .l x6, .l x7] [.s (.int .i64 y0), .s (.int .i64 y1), .l y2, .l y3, .l y4, .l y5, .l y6, .l y7])) := by
  refine PC.begin Try.func9 rfl (by kernel_rfl) ?_
  refine xb rfl (fun h => ?_) (fun e0 => ?_)
  · exact xr rfl (xret rfl ⟨⟨rfl, dE_no (fun e => by simp only [List.cons.injEq, Cell.s.injEq, Value.int.injEq, Value.bool.injEq, Value.string.injEq] at e; simp [e] at h), trivial⟩, nodB_nodup rfl⟩)
  have e0 : x0 = y0 := by simpa using e0
  refine xb rfl (fun h => ?_) (fun e1 => ?_)
  · exact xr rfl (xret rfl ⟨⟨rfl, dE_no (fun e => by simp only [List.cons.injEq, Cell.s.injEq, Value.int.injEq, Value.bool.injEq, Value.string.injEq] at e; simp [e] at h), trivial⟩, nodB_nodup rfl⟩)
  have e1 : x1 = y1 := by simpa using e1
  refine xcall rfl (eqSessionS_pc _ _ h2 k2) rfl ⟨trivial, trivial, trivial⟩ ?_
  refine xb rfl (fun h => ?_) (fun e2 => ?_)
  · exact xr rfl (xret rfl ⟨⟨rfl, dE_no (fun e => nE_ne h (by simp only [List.cons.injEq, Cell.l.injEq] at e ⊢; simp only [e]; try trivial)), trivial⟩, nodB_nodup rfl⟩)
  have e2 := nE_eq e2
  refine xcall rfl (eqCluster_pc _ _ _ _ _ _ _ _ _ _ h3 h4 h5 h6 h7 k3 k4 k5 k6 k7) rfl ⟨⟨trivial, trivial, trivial, trivial, trivial, trivial⟩, ⟨trivial, trivial, trivial, trivial, trivial, trivial⟩, trivial⟩ ?_
  refine xb rfl (fun h => ?_) (fun e3 => ?_)
  · exact xr rfl (xret rfl ⟨⟨rfl, dE_no (fun e => nE_ne h (by simp only [List.cons.injEq, Cell.l.injEq] at e ⊢; simp only [e]; try trivial)), trivial⟩, nodB_nodup rfl⟩)
  have e3 := nE_eq e3
  simp only [List.cons.injEq, Cell.s.injEq, Cell.l.injEq, Value.int.injEq, Value.bool.injEq, and_true, true_and] at e3
  exact xr rfl (xret rfl ⟨⟨rfl, dE_yes (by simp [e0, e1, e2, e3]), trivial⟩, nodB_nodup rfl⟩)
theorem markSessionsResult_pg (z2 z3 z4 z5 z6 z7 : Nat) (x0 : Int) (x1 : Int) (x2 : List (List Cell)) (x3 : List (List Cell)) (x4 : List (List Cell)) (x5 : List (List Cell)) (x6 : List (List Cell)) (x7 : List (List Cell)) (k : Int) (k2 : Int) (k3 : Int) (k4 : Int) (k5 : Int) (k6 : Int) (k7 : Int) (h2 : WR 9000000000000000000 sh_Session x2) (h3 : WR 9000000000000000000 sh_Contract x3) (h4 : WR 9000000000000000000 sh_Shard x4) (h5 : WR 9000000000000000000 sh_Acceptor x5) (h6 : WR 9000000000000000000 sh_Leader x6) (h7 : WR 9000000000000000000 sh_Message x7) (e2 : (mkR (mk sh_Session) x2 k).2 = k2) (e3 : (mkR (mk sh_Contract) x3 k2).2 = k3) (e4 : (mkR (mk sh_Shard) x4 k3).2 = k4) (e5 : (mkR (mk sh_Acceptor) x5 k4).2 = k5) (e6 : (mkR (mk sh_Leader) x6 k5).2 = k6) (e7 : (mkR (mk sh_Message) x7 k6).2 = k7) : PG Try.prog 12 [.agg [.bor (.s (.int .i64 x0)), .bor (.s (.int .i64 x1)), .giv true z2 x2, .giv true z3 x3, .giv true z4 x4, .giv true z5 x5, .giv true z6 x6, .giv true z7 x7], .one (.bor (i64 k))] (rI k7) [(2, (mkR (mk sh_Session) x2 k).1), (3, (mkR (mk sh_Contract) x3 k2).1), (4, (mkR (mk sh_Shard) x4 k3).1), (5, (mkR (mk sh_Acceptor) x5 k4).1), (6, (mkR (mk sh_Leader) x6 k5).1), (7, (mkR (mk sh_Message) x7 k6).1)] := by
  refine PG.begin Try.func12 rfl (by kernel_rfl) ?_
  refine xgive rfl (markSessionS_pg z2 x2 k h2) ⟨⟨rfl, rfl, rfl, rfl⟩, rfl, trivial⟩ rfl ?_
  rw [e2]
  refine xgive rfl (markCluster_pg z3 z4 z5 z6 z7 x3 x4 x5 x6 x7 k2 k3 k4 k5 k6 k7 h3 h4 h5 h6 h7 e3 e4 e5 e6 e7) ⟨⟨⟨rfl, rfl, rfl, rfl⟩, ⟨rfl, rfl, rfl, rfl⟩, ⟨rfl, rfl, rfl, rfl⟩, ⟨rfl, rfl, rfl, rfl⟩, ⟨rfl, rfl, rfl, rfl⟩, trivial⟩, rfl, trivial⟩ rfl ?_
  exact xr rfl (xretG rfl ⟨⟨rfl, rfl, trivial⟩, nodB_nodup rfl⟩ ⟨⟨rfl, rfl, rfl, mkR_len _ _ _, mkR_rows h2⟩, ⟨rfl, rfl, rfl, mkR_len _ _ _, mkR_rows h3⟩, ⟨rfl, rfl, rfl, mkR_len _ _ _, mkR_rows h4⟩, ⟨rfl, rfl, rfl, mkR_len _ _ _, mkR_rows h5⟩, ⟨rfl, rfl, rfl, mkR_len _ _ _, mkR_rows h6⟩, ⟨rfl, rfl, rfl, mkR_len _ _ _, mkR_rows h7⟩, trivial⟩)
theorem heldSessionS_pc (rr : List (List Cell)) (k : Int) (hw : WR 9000000000000000000 sh_Session rr) : PC Try.prog 38 [.one (.l rr), .one (i64 k)] (rI (ng (hdR (hd sh_Session) rr k))) := by
  refine PC.begin Try.func38 rfl (by kernel_rfl) ?_
  have hlen := hw.1
  refine xloop rfl (ι := Nat × Int) (fun x => x.1 ≤ rr.length ∧ hdR (hd sh_Session) (rr.take x.1) k = some x.2) (fun x => ⟨[(5, sV (.int .i64 x.1)), (1, sV (.int .i64 x.2)), (0, .one (.b (.l rr)))], []⟩) (fun x => rr.length - x.1) (0, k) ⟨Nat.zero_le _, rfl⟩ ?_ ?_
  · exact ⟨⟨rfl, rfl, rfl, trivial⟩, trivial, rfl⟩
  · intro ⟨i, v⟩ ⟨hi, hv⟩ J hJ
    dsimp only at hi hv ⊢
    refine xb rfl (fun h => ?_) (fun h => ?_)
    · have h : i < rr.length := by simpa using h
      obtain ⟨row, hg⟩ : ∃ row, rr[i]? = some row := ⟨_, List.getElem?_eq_getElem h⟩
      obtain ⟨x0, x1, x2, rfl, h2⟩ := inv_Session (hw.2 row (List.mem_of_getElem? hg))
      have hst := hdR_step hg hv
      refine xs rfl (Int.natCast_nonneg _) (xrow rfl _ hg (xs rfl rfl ?_))
      refine xb rfl (fun hb => ?_) (fun hb => ?_)
      · have hb : ¬ x0 = mkv .i64 (v) := by simpa [mkv, nx] using hb
        exact xr rfl (xret rfl ⟨⟨rfl, congrArg (Value.int .i64) (ng_none (hdR_none (i := i + 1) (hst.trans (by simp only [hd, if_neg hb])))).symm, trivial⟩, nodB_nodup rfl⟩)
      have hb0 : x0 = mkv .i64 (v) := by simpa [mkv, nx] using hb
      clear hb
      refine xs rfl (Int.natCast_nonneg _) (xrow rfl _ hg (xs rfl rfl ?_))
      refine xb rfl (fun hb => ?_) (fun hb => ?_)
      · have hb : ¬ x1 = mkv .i64 (nx (v)) := by simpa [mkv, nx] using hb
        exact xr rfl (xret rfl ⟨⟨rfl, congrArg (Value.int .i64) (ng_none (hdR_none (i := i + 1) (hst.trans (by simp only [hd, if_neg hb, if_pos hb0])))).symm, trivial⟩, nodB_nodup rfl⟩)
      have hb1 : x1 = mkv .i64 (nx (v)) := by simpa [mkv, nx] using hb
      clear hb
      refine xs rfl (Int.natCast_nonneg _) (xrow rfl _ hg (xs rfl rfl ?_))
      refine xcall rfl (heldInt64S_pc x2 (nx (nx (v))) h2) rfl ⟨trivial, trivial, trivial⟩ ?_
      generalize hk2 : ng (hdR (hd (.i .i64 .nil)) x2 (nx (nx (v)))) = k2
      refine xb rfl (fun hb => ?_) (fun hb => ?_)
      · have hb : k2 < 0 := by simpa using hb
        exact xr rfl (xret rfl ⟨⟨rfl, congrArg (Value.int .i64) (ng_none (hdR_none (i := i + 1) (hst.trans (by simp only [hd, if_pos hb0, if_pos hb1, hk2, ps_no hb]; rfl)))).symm, trivial⟩, nodB_nodup rfl⟩)
      have hb2 : ¬ k2 < 0 := by simpa using hb
      clear hb
      refine xcont rfl (hJ _ (i + 1, k2) ⟨by dsimp only; omega, hst.trans (by simp only [hd, if_pos hb0, if_pos hb1, hk2, ps_ok hb2, Option.bind_some])⟩ (by dsimp only; omega) ?_)
      exact ⟨⟨cwi (by omega) (by omega) (by omega), rfl, rfl, trivial⟩, trivial, rfl⟩
    · have h : ¬ i < rr.length := by simpa using h
      have : i = rr.length := by omega
      subst this
      rw [List.take_length] at hv
      exact xr rfl (xret rfl ⟨⟨rfl, congrArg (Value.int .i64) (by rw [hv]; rfl), trivial⟩, nodB_nodup rfl⟩)
theorem heldSessionsResult_pc (x0 : Int) (x1 : Int) (x2 : List (List Cell)) (x3 : List (List Cell)) (x4 : List (List Cell)) (x5 : List (List Cell)) (x6 : List (List Cell)) (x7 : List (List Cell)) (k : Int) (h2 : WR 9000000000000000000 sh_Session x2) (h3 : WR 9000000000000000000 sh_Contract x3) (h4 : WR 9000000000000000000 sh_Shard x4) (h5 : WR 9000000000000000000 sh_Acceptor x5) (h6 : WR 9000000000000000000 sh_Leader x6) (h7 : WR 9000000000000000000 sh_Message x7) (hk : 0 ≤ k) : PC Try.prog 13 [.agg [.s (.int .i64 x0), .s (.int .i64 x1), .l x2, .l x3, .l x4, .l x5, .l x6, .l x7], .one (i64 k)] (rI (ng (ht sh_SessionsResult [.s (.int .i64 x0), .s (.int .i64 x1), .l x2, .l x3, .l x4, .l x5, .l x6, .l x7] k))) := by
  refine PC.begin Try.func13 rfl (by kernel_rfl) ?_
  have e : ht sh_SessionsResult [.s (.int .i64 x0), .s (.int .i64 x1), .l x2, .l x3, .l x4, .l x5, .l x6, .l x7] k = ((ps (ng (hdR (hd sh_Session) x2 k))).bind fun v1 => (ht sh_Cluster [.l x3, .l x4, .l x5, .l x6, .l x7] v1).bind fun v2 => some v2) := by simp only [ht, Option.bind_assoc, Option.bind_some]
  rw [e]
  refine xcall rfl (heldSessionS_pc x2 k h2) rfl ⟨trivial, trivial, trivial⟩ ?_
  generalize hk2 : ng (hdR (hd sh_Session) x2 (k)) = k2
  refine xb rfl (fun hb => ?_) (fun hb => ?_)
  · have hb : k2 < 0 := by simpa using hb
    exact xr rfl (xret rfl ⟨⟨rfl, congrArg (Value.int .i64) (ng_none (by simp only [hk2, ps_no hb]; rfl)).symm, trivial⟩, nodB_nodup rfl⟩)
  have hb2 : ¬ k2 < 0 := by simpa using hb
  have hp2 : 0 ≤ k2 := by omega
  clear hb
  refine xcall rfl (heldCluster_pc x3 x4 x5 x6 x7 k2 h3 h4 h5 h6 h7 hp2) rfl ⟨⟨trivial, trivial, trivial, trivial, trivial, trivial⟩, trivial, trivial⟩ ?_
  generalize hk3 : ng (ht sh_Cluster [.l x3, .l x4, .l x5, .l x6, .l x7] (k2)) = k3
  refine xb rfl (fun hb => ?_) (fun hb => ?_)
  · have hb : k3 < 0 := by simpa using hb
    exact xr rfl (xret rfl ⟨⟨rfl, congrArg (Value.int .i64) (ng_none (by simp only [hk2, ps_ok hb2, Option.bind_some, ht_no hp2 hk3 hb]; rfl)).symm, trivial⟩, nodB_nodup rfl⟩)
  have hb3 : ¬ k3 < 0 := by simpa using hb
  have hp3 : 0 ≤ k3 := by omega
  clear hb
  exact xr rfl (xret rfl ⟨⟨rfl, congrArg (Value.int .i64) (by simp only [hk2, ps_ok hb2, Option.bind_some, ng_some hk3 hb3, Option.bind_some]; rfl), trivial⟩, nodB_nodup rfl⟩)
end Go.Proofs.Ytlkjdcpcbnfbbaa
end
section
namespace Go.Proofs.Ytlkjdcpcbnfbbaa
open Go Go.Sx
set_option maxRecDepth 20000
set_option maxHeartbeats 4000000
theorem rows_of {α : Type} {f : α → List Cell} {P : α → Prop} {N : Nat} {e : Sh} : ∀ {rr : List (List Cell)}, WR N e rr → (∀ row, WT N e row → ∃ x, row = f x ∧ P x) → ∃ us : List α, rr = us.map f ∧ us.length ≤ N ∧ ∀ x ∈ us, P x
  | [], _, _ => ⟨[], rfl, Nat.zero_le _, fun x hx => by cases hx⟩
  | row :: rr, h, hc => by
    obtain ⟨x, hx, hp⟩ := hc row (h.2 row List.mem_cons_self)
    obtain ⟨us, hu, _, hps⟩ := rows_of (rr := rr) ⟨by have := h.1; simp at this; omega, fun r hr => h.2 r (List.mem_cons_of_mem _ hr)⟩ hc
    refine ⟨x :: us, by rw [hx, hu]; rfl, by have := h.1; rw [hu] at this; simpa using this, fun y hy => ?_⟩
    rcases List.mem_cons.1 hy with rfl | hy
    · exact hp
    · exact hps y hy
theorem conv_Int {N : Nat} (row : List Cell) (h : WT N (.i .i64 .nil) row) : ∃ x : Int, row = [i64 x] ∧ True := by
  obtain ⟨x0, _, rfl, hnil⟩ := h.inv_i
  obtain rfl := hnil.inv_nil
  exact ⟨x0, rfl, trivial⟩
theorem cntR_le {f : List Cell → Nat} {row : List Cell} : ∀ {rows : List (List Cell)}, row ∈ rows → f row ≤ cntR f rows
  | r :: rows, h => by
    rw [cntR]
    rcases List.mem_cons.1 h with rfl | h
    · omega
    · have := cntR_le (f := f) h; omega
theorem wt_tot {N M : Nat} {e : Sh} {cs : List Cell} (hw : WT N e cs) : tot e cs ≤ M → WT M e cs := by
  induction hw with
  | nil => exact fun _ => .nil
  | i n _ ih => exact fun h => .i n (ih h)
  | b x _ ih => exact fun h => .b x (ih h)
  | @l e' r' cs' rows h1 h2 h3 ih1 ih2 =>
    intro h
    simp only [tot] at h
    exact .l rows (by omega) (fun row hr => ih1 row hr (by have := cntR_le (f := tot e') hr; omega)) (ih2 (by omega))
abbrev sh_SesL : Sh := (.l sh_Session .nil)
theorem conv_Session (row : List Cell) (h : WT 1048576 sh_Session row) : ∃ x : Ses, row = x.cs ∧ x.sent.length ≤ 1048576 := by
  obtain ⟨a0, a1, r, rfl, h1⟩ := inv_Session h
  obtain ⟨us, rfl, l1, _⟩ := rows_of h1 conv_Int
  exact ⟨⟨a0, a1, us⟩, rfl, l1⟩
theorem ses_in (x0 : List (List Cell)) (hw : WR 9223372036854775807 sh_Session x0) (b : Nat) (hb : b ≤ 1048576) :
    PC Try.prog 5 [.one (.l x0), .one (i64 b)] (rI (-1)) ∨ ∃ ss : List Ses, x0 = ss.map Ses.cs ∧ ss.length ≤ 1048576 ∧ (∀ x ∈ ss, x.sent.length ≤ 1048576) ∧ (WT 1048576 sh_SesL [.l (ss.map Ses.cs)] ∧ tot sh_SesL [.l (ss.map Ses.cs)] ≤ 1048576) ∧
      (∃ n : Nat, n ≤ b ∧ PC Try.prog 5 [.one (.l (ss.map Ses.cs)), .one (i64 b)] (rI n)) ∧
      PC Try.prog 7 [.one (.l (ss.map Ses.cs))] (.one (.own false [.l 3 (ss.map Ses.cs)])) ∧ PC Try.prog 10 [.one (.l (ss.map Ses.cs)), .one (.l (ss.map Ses.cs))] (rB true) := by
  have hw0 : WT 9223372036854775807 sh_SesL [.l x0] := .l _ hw.1 hw.2 .nil
  have hsz := szSessionS_pc x0 b hw (by omega) (by omega)
  have ht0 : totR sh_Session x0 = tot sh_SesL [.l x0] := by simp only [tot, totR] <;> omega
  rw [ht0] at hsz
  by_cases ht : tot sh_SesL [.l x0] ≤ b
  · right
    have hs : szn b (tot sh_SesL [.l x0]) = ((b - tot sh_SesL [.l x0] : Nat) : Int) := by
      unfold szn; rw [if_neg (by omega)]; omega
    rw [hs] at hsz
    have hwt := wt_tot hw0 (Nat.le_trans ht hb)
    obtain ⟨_, _, e, h1, h2⟩ := hwt.inv_l
    cases e
    have up : ∀ {e : Sh} {r : List (List Cell)}, WR 1048576 e r → WR 9000000000000000000 e r := fun h => h.mono (by omega)
    have heq := eqSessionS_pc x0 x0 (up h1) (up h1)
    rw [show dE x0 x0 = true from (Value.bool.inj (dE_yes rfl)).symm] at heq
    have hto := toSessionS_pc x0 h1
    obtain ⟨ss, rfl, l1, p1⟩ := rows_of h1 conv_Session
    exact ⟨ss, rfl, l1, p1, ⟨hwt, Nat.le_trans ht hb⟩, ⟨_, Nat.sub_le _ _, hsz⟩, hto, heq⟩
  · left
    have hs : szn b (tot sh_SesL [.l x0]) = -1 := by
      unfold szn; rw [if_pos (by omega)]
    rw [hs] at hsz
    exact hsz
theorem ses_mark (ss : List Ses) (h : WT 1048576 sh_SesL [.l (ss.map Ses.cs)] ∧ tot sh_SesL [.l (ss.map Ses.cs)] ≤ 1048576) : ∃ (k : Int) (r : List (List Cell)), 0 ≤ k ∧ k ≤ 1000000000000000 ∧
    PG Try.prog 11 [.one (.giv true 3 (ss.map Ses.cs)), .one (.bor (i64 1))] (rI k) [(0, r)] := by
  obtain ⟨h, ht⟩ := h
  obtain ⟨_, _, e, m0, m1⟩ := h.inv_l
  cases e
  have up : ∀ {e : Sh} {r : List (List Cell)}, WR 1048576 e r → WR 9000000000000000000 e r := fun h => h.mono (by omega)
  have hm := markSessionS_pg 3 (ss.map Ses.cs) 1 (up m0)
  have hc := cnt_le h
  rw [show wid sh_SesL = 0 from rfl, show mwid sh_SesL = 3 from rfl] at hc
  have hk := (mk_held h 1 (by omega) (by omega)).2
  have hk2 : (mkR (mk sh_Session) (ss.map Ses.cs) 1).2 = 1 + cnt sh_SesL [.l (ss.map Ses.cs)] := hk
  exact ⟨_, _, by rw [hk2]; omega, by rw [hk2]; omega, hm⟩
theorem wr_nil {N : Nat} {e : Sh} : WR N e [] := ⟨Nat.zero_le _, fun _ h => by cases h⟩
theorem sr_mark (ss : List Ses) (h : WR 1048577 sh_Session (ss.map Ses.cs)) (hs : cntR (tot sh_Session) (ss.map Ses.cs) ≤ 1048577) : ∃ (k : Int) (r : List (List Cell)), 0 ≤ k ∧ r.length = (ss.map Ses.cs).length ∧
    (∀ code id : Int, PG Try.prog 12 [.agg [.bor (.s (.int .i64 code)), .bor (.s (.int .i64 id)), .giv true 3 (ss.map Ses.cs), .giv true 2 [], .giv true 6 [], .giv true 1 [], .giv true 3 [], .giv true 9 []], .one (.bor (i64 1))] (rI k) [(2, r), (3, []), (4, []), (5, []), (6, []), (7, [])]) ∧
    ∀ code id : Int, PC Try.prog 13 [.agg [.s (.int .i64 code), .s (.int .i64 id), .l r, .l [], .l [], .l [], .l [], .l []], .one (i64 1)] (rI k) := by
  have hw : WR 9000000000000000000 sh_Session (ss.map Ses.cs) := h.mono (by omega)
  have hc := mark_cnt hw
  have hlen := h.1
  rw [show wid sh_Session = 2 from rfl, show mwid sh_Session = 1 from rfl] at hc
  obtain ⟨h1, h2⟩ := mkR_held (f := mk sh_Session) (g := hd sh_Session) (c := cnt sh_Session) (rows := ss.map Ses.cs) (fun row hr k h1 h2 => mk_held (hw.2 row hr) k h1 h2) 1 (by omega) (by omega)
  refine ⟨_, _, ?_, mkR_len _ _ _, fun code id => markSessionsResult_pg 3 2 6 1 3 9 code id (ss.map Ses.cs) [] [] [] [] [] 1 _ _ _ _ _ _ hw wr_nil wr_nil wr_nil wr_nil wr_nil rfl rfl rfl rfl rfl rfl, fun code id => ?_⟩
  · show 0 ≤ (mkR (mk sh_Session) (ss.map Ses.cs) 1).2
    rw [h2]; omega
  have := heldSessionsResult_pc code id (mkR (mk sh_Session) (ss.map Ses.cs) 1).1 [] [] [] [] [] 1 (mkR_WR hw 1) wr_nil wr_nil wr_nil wr_nil wr_nil (by omega)
  have e : ng (ht sh_SessionsResult [.s (.int .i64 code), .s (.int .i64 id), .l (mkR (mk sh_Session) (ss.map Ses.cs) 1).1, .l [], .l [], .l [], .l [], .l []] 1) = (mkR (mk sh_Session) (ss.map Ses.cs) 1).2 := by
    have hp : ng (some (1 + (cntR (cnt sh_Session) (ss.map Ses.cs) : Int))) = 1 + cntR (cnt sh_Session) (ss.map Ses.cs) := rfl
    have hq : ∀ v : Int, ng (some v) = v := fun _ => rfl
    simp only [ht, h1, h2, hp, ps_ok (show ¬ (1 + (cntR (cnt sh_Session) (ss.map Ses.cs) : Int)) < 0 by omega), Option.bind_some, hdR, hq]
  rw [e] at this
  exact this
theorem sr_same (ss : List Ses) (h : WR 1048577 sh_Session (ss.map Ses.cs)) (code : Int) : PC Try.prog 9 [.agg [.s (.int .i64 code), .s (.int .i64 0), .l (ss.map Ses.cs), .l [], .l [], .l [], .l [], .l []], .agg [.s (.int .i64 code), .s (.int .i64 0), .l (ss.map Ses.cs), .l [], .l [], .l [], .l [], .l []]] (rB true) := by
  have hw : WR 9000000000000000000 sh_Session (ss.map Ses.cs) := h.mono (by omega)
  have h := eqSessionsResult_pc code 0 (ss.map Ses.cs) [] [] [] [] [] code 0 (ss.map Ses.cs) [] [] [] [] [] hw wr_nil wr_nil wr_nil wr_nil wr_nil hw wr_nil wr_nil wr_nil wr_nil wr_nil
  rwa [show dE (α := List Cell) [.s (.int .i64 code), .s (.int .i64 0), .l (ss.map Ses.cs), .l [], .l [], .l [], .l [], .l []] [.s (.int .i64 code), .s (.int .i64 0), .l (ss.map Ses.cs), .l [], .l [], .l [], .l [], .l []] = true from (Value.bool.inj (dE_yes rfl)).symm] at h
theorem openR_wt {ss : List Ses} (h : WT 1048576 sh_SesL [.l (ss.map Ses.cs)] ∧ tot sh_SesL [.l (ss.map Ses.cs)] ≤ 1048576) (cl : Int) : WR 1048577 sh_Session ((openR ss cl).2.map Ses.cs) ∧ cntR (tot sh_Session) ((openR ss cl).2.map Ses.cs) ≤ 1048577 := by
  obtain ⟨h, ht⟩ := h
  obtain ⟨_, _, e, m0, m1⟩ := h.inv_l
  cases e
  have ht : cntR (tot sh_Session) (ss.map Ses.cs) ≤ 1048576 := by simp only [tot] at ht; omega
  have hn : WR 1048577 sh_Session (([] : List Ses).map Ses.cs) ∧ cntR (tot sh_Session) (([] : List Ses).map Ses.cs) ≤ 1048577 := ⟨wr_nil, by simp [cntR]⟩
  have hm : WR 1048577 sh_Session (ss.map Ses.cs) := m0.mono (by omega)
  unfold openR
  repeat' split
  · exact hn
  · exact hn
  · exact ⟨hm, show cntR (tot sh_Session) (ss.map Ses.cs) ≤ 1048577 by omega⟩
  · exact hn
  · refine ⟨⟨by rw [List.length_map, putS1_len]; have := m0.1; rw [List.length_map] at this; omega, fun row hr => ?_⟩, ?_⟩
    · obtain ⟨y, hy, rfl⟩ := List.mem_map.1 hr
      rcases putS1_mem hy with hy | rfl
      · exact hm.2 _ (List.mem_map_of_mem hy)
      · exact .i _ (.i _ (.l _ (Nat.zero_le _) (fun _ h => by cases h) .nil))
    · have hsp : ∀ (a b : List (List Cell)), cntR (tot sh_Session) (a ++ b) = cntR (tot sh_Session) a + cntR (tot sh_Session) b := fun a b => by
        induction a with
        | nil => simp [cntR]
        | cons x a ih => simp only [List.cons_append, cntR, ih]; omega
      have e1 : cntR (tot sh_Session) (ss.map Ses.cs) = cntR (tot sh_Session) ((ss.take (lowS cl ss)).map Ses.cs) + cntR (tot sh_Session) ((ss.drop (lowS cl ss)).map Ses.cs) := by rw [← hsp, ← List.map_append, List.take_append_drop]
      have e2 : cntR (tot sh_Session) ([(⟨cl, 1, []⟩ : Ses)].map Ses.cs) = 0 := rfl
      unfold putS1
      rw [List.map_append, List.map_append, hsp, hsp, e2]
      omega
theorem lawOs_pc (x0 : List (List Cell)) (cl : Int) (hr0 : WR 9223372036854775807 sh_Session x0) : PC Try.prog 3 [.one (.l x0), .one (i64 cl)] (rB true) := by
  refine PC.begin Try.func3 rfl (by kernel_rfl) ?_
  rcases ses_in x0 hr0 1048576 (Nat.le_refl _) with hgz | ⟨ss, rfl, hxl, hxs, hxw, ⟨m, hm, hgz⟩, hgto, hgeq⟩
  · skip
    refine xcall rfl (hgz) rfl ⟨trivial, trivial, trivial⟩ ?_
    refine xj (k := 1) rfl ?_
    refine xr rfl (xret rfl ⟨⟨rfl, rfl, trivial⟩, nodB_nodup rfl⟩)
  · have hI := iOpen_pc ss hxl hxs cl
    have hS := sOpen_pc ss hxl hxs cl
    obtain ⟨w1, w2⟩ := openR_wt hxw cl
    unfold rSes at hI
    unfold rSesB at hS
    generalize (openR ss cl).1 = code at hI hS
    generalize (openR ss cl).2 = ls at hI hS w1 w2
    have hr := sr_same ls w1 code
    obtain ⟨k1, rs, hk1, hk2, hm1⟩ := ses_mark ss hxw
    obtain ⟨q, rr, hq, hrl, hmr, hhd⟩ := sr_mark ls w1 w2
    refine xcall rfl (hgz) rfl ⟨trivial, trivial, trivial⟩ ?_
    refine xj (k := 1) rfl ?_
    refine xcall rfl (PC.lend hgto) rfl ⟨trivial, trivial⟩ ?_
    refine xcall rfl (hS) rfl ⟨trivial, trivial, trivial⟩ ?_
    refine xcall rfl (hgto) rfl ⟨trivial, trivial⟩ ?_
    refine xcall rfl (hI) rfl ⟨rfl, trivial, trivial⟩ ?_
    refine xcall rfl (hr) rfl ⟨⟨trivial, trivial, rfl, rfl, rfl, rfl, rfl, rfl, trivial⟩, ⟨trivial, trivial, trivial, trivial, trivial, trivial, trivial, trivial, trivial⟩, trivial⟩ ?_
    refine xj (k := 1) rfl ?_
    refine xcall rfl (hgto) rfl ⟨trivial, trivial⟩ ?_
    refine xcall rfl (hgeq) rfl ⟨rfl, rfl, trivial⟩ ?_
    refine xj (k := 1) rfl ?_
    refine xgive rfl (hm1) ⟨⟨rfl, rfl, rfl, rfl⟩, rfl, trivial⟩ rfl ?_
    refine xb rfl (fun b0 => ?_) (fun b0 => ?_)
    exact absurd b0 (by simp; omega)
    refine xj (k := 2) rfl ?_
    refine xcall rfl (hr) rfl ⟨⟨trivial, trivial, rfl, rfl, rfl, rfl, rfl, rfl, trivial⟩, ⟨trivial, trivial, trivial, trivial, trivial, trivial, trivial, trivial, trivial⟩, trivial⟩ ?_
    refine xj (k := 3) rfl ?_
    refine xgive rfl (hmr code 0) ⟨⟨rfl, rfl, ⟨rfl, rfl, rfl, rfl⟩, ⟨rfl, rfl, rfl, rfl⟩, ⟨rfl, rfl, rfl, rfl⟩, ⟨rfl, rfl, rfl, rfl⟩, ⟨rfl, rfl, rfl, rfl⟩, ⟨rfl, rfl, rfl, rfl⟩, trivial⟩, rfl, trivial⟩ rfl ?_
    refine xcall rfl (hhd code 0) rfl ⟨⟨trivial, trivial, hrl.symm, rfl, rfl, rfl, rfl, rfl, trivial⟩, trivial, trivial⟩ ?_
    refine xb rfl (fun b0 => ?_) (fun b0 => ?_)
    exact absurd b0 (by simp; omega)
    refine xb rfl (fun b1 => ?_) (fun b1 => ?_)
    exact absurd b1 (by simp [*])
    refine xcall rfl (hgto) rfl ⟨trivial, trivial⟩ ?_
    refine xcall rfl (hI) rfl ⟨rfl, trivial, trivial⟩ ?_
    refine xcall rfl (hr) rfl ⟨⟨trivial, trivial, rfl, rfl, rfl, rfl, rfl, rfl, trivial⟩, ⟨trivial, trivial, trivial, trivial, trivial, trivial, trivial, trivial, trivial⟩, trivial⟩ ?_
    refine xj (k := 1) rfl ?_
    refine xcall rfl (hhd code 0) rfl ⟨⟨trivial, trivial, hrl.symm, rfl, rfl, rfl, rfl, rfl, trivial⟩, trivial, trivial⟩ ?_
    refine xb rfl (fun b0 => ?_) (fun b0 => ?_)
    exact absurd b0 (by simp; omega)
    refine xb rfl (fun b1 => ?_) (fun b1 => ?_)
    exact absurd b1 (by simp [*])
    refine xr rfl (xret rfl ⟨⟨rfl, rfl, trivial⟩, nodB_nodup rfl⟩)
end Go.Proofs.Ytlkjdcpcbnfbbaa
end
section
namespace Go.Proofs.Ytlkjdcpcbnfbbaa.fnExactOpenSession
open Go.ChangeShapes Go.WideShapes Go.ChangeAt Go.RowKit
set_option maxRecDepth 100000 in
set_option maxHeartbeats 40000000 in
theorem closed : joinedFacts Try.pinned.checked.prog 3 Try.f3 Rows.fnExactOpenSessionSpec Rows.fnExactOpenSessionRow = true := by
  unfold joinedFacts
  simp only [Bool.and_eq_true]
  repeat' refine And.intro ?_ ?_
  all_goals as_aux_lemma => kernel_rfl
end Go.Proofs.Ytlkjdcpcbnfbbaa.fnExactOpenSession
end
section
namespace Go.Proofs.Ytlkjdcpcbnfbbaa.fnExactOpenSession
open Go.ChangeShapes Go.WideShapes Go.ChangeAt Go.RowKit Go.Sx
open Go.ChangeMaps (open_string shut_string)
theorem own : ownKnob Try.prog.godebug = none := by kernel_rfl
theorem laidOut : laidOutB Try.prog = true := by kernel_rfl
theorem q2 : OS Try.prog 2 (.i .i64 .nil) := os_int Try.underlying2 (by kernel_rfl)
theorem q63 : OS Try.prog 63 (.l (.i .i64 .nil) .nil) := os_slice Try.underlying63 (by kernel_rfl) q2
theorem q65 : OS Try.prog 65 sh_Session := os_struct Try.underlying65 (by kernel_rfl) (.cons (by kernel_rfl) (.cons (by kernel_rfl) (.cons (by kernel_rfl) (.nil _)))) (osf_cons q2 (osf_cons q2 (osf_one q63) rfl rfl) rfl rfl)
set_option maxRecDepth 100000 in
theorem lifted (os : Os) (started : os.Started) (H : Type) (enc : TypeId × Value → H) :
    ReturnsInHanded {} Try.checked os 3 .any (Rows.fnExactOpenSessionSpec.pre6 enc Try.prog Try.f3 Rows.fnExactOpenSessionRow.domain false) (Rows.fnExactOpenSessionSpec.post enc Try.prog Try.f3 false true false false) := by
  refine returnsInHanded_of_change_sized (C := Try.checked) own started (by kernel_rfl) Try.func3
    (ChangeSpec.witness6 (enc := enc) (C := Try.checked) false ⟨#[], #[.slice none 0 0, .int .i64 0], []⟩ 8 (by kernel_rfl) (by kernel_rfl) (by kernel_rfl) (by kernel_rfl)) ?_
  intro W base args ds gs before hval0 hW _ _ _
  have hval : ∀ (j : Nat) t v, Try.f3.params[j]? = some t → args[j]? = some v → Value.okWide Try.prog W .any base t v := hval0
  have hW' := hW
  obtain ⟨p, q, hA0, hV, rfl, hfz, hnd⟩ := hW
  have hA : DataW.TrodAll enc Try.prog W 0 (fun _ => true) true Try.f3.params.toList args.toList ds p := hA0
  rw [Try.params3] at hA hval
  obtain ⟨v0, vs0, d0, ds0, p0, q0, hargs, rfl, rfl, h0, r0⟩ := trodAll_cons hA
  obtain ⟨v1, vs1, d1, ds1, p1, q1, rfl, rfl, rfl, h1, r1⟩ := trodAll_cons r0
  obtain ⟨rfl, rfl, rfl⟩ := trodAll_nil r1
  obtain rfl : args = #[v0, v1] := by cases args; simp_all
  obtain ⟨rfl, rfl⟩ := trodVars_none hV
  have k0 := h0
  have lt0 : ∀ x ∈ p0, x.block < W.heap.size := by obtain ⟨m, hm⟩ := k0; exact DataW.trod_lt m _ _ _ hm
  obtain ⟨c0, R0, w0⟩ := arg_shl Try.underlying22 q65 (hval 0 22 v0 rfl rfl) h0
  obtain ⟨a1, rfl, rfl, rfl, w1⟩ := open_int Try.underlying2 (hval 1 2 v1 rfl rfl) h1
  clear hA0 hval0
  refine (PC.law (lawOs_pc c0 a1 w0) (ArgsR.two R0 (.s _ rfl))).mono fun e W' ⟨he, bel⟩ => ?_
  subst he
  exact ⟨_, rfl, _, _, _, [], _, [], hW', trodAll_mk1 (shut_bool Try.underlying4 _), (trodAll_cons_mk (Below.trod laidOut (by kernel_rfl) (of_decide_eq_true (by kernel_rfl)) k0 bel lt0) (trodAll_cons_mk (shut_int Try.underlying2 w1) trodAll_mk0)), rfl, bel.frame _, fun h => by cases h⟩
theorem over : Rows.fnExactOpenSessionRow.holds Try.pinned (OpenSpec.ofChange Rows.fnExactOpenSessionSpec) :=
  OpenClaim.holds_of_wide 3 Try.f3 rfl rfl rfl rfl rfl rfl rfl ⟨rfl, rfl, rfl, rfl, rfl⟩ rfl rfl rfl rfl rfl (by as_aux_lemma => kernel_rfl) Try.func3 closed
    (by as_aux_lemma => exact of_decide_eq_true (by kernel_rfl)) (by as_aux_lemma => unfold Func.isWrapper; first | (rw [if_pos (by decide +kernel)]; kernel_rfl) | (rw [if_neg (by decide +kernel)]; exact ⟨rfl, rfl⟩))
    (fun os started H enc _ => lifted os started H enc)
theorem proved : Rows.FnExactOpenSessionSaid := over
end Go.Proofs.Ytlkjdcpcbnfbbaa.fnExactOpenSession
namespace Go.Proofs.Ytlkjdcpcbnfbbaa
theorem fnExactOpenSession_holds : Rows.FnExactOpenSessionSaid := fnExactOpenSession.proved
end Go.Proofs.Ytlkjdcpcbnfbbaa
end
