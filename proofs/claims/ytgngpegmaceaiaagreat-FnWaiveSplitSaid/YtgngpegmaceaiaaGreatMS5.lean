/-
  Contracts of functions and plain facts that the last text of this folder uses, part 5.
-/
import Derived.Test.YtgngpegmaceaiaaGreatMS4
namespace Go.Proofs.YtgngpegmaceaiaaGreat
set_option linter.unusedVariables false
set_option linter.unusedSimpArgs false
open Go
set_option maxRecDepth 20000
set_option linter.unusedSimpArgs false
variable {G : Gh} {L : List Ch} {R : Value → Gh → List Ch → Prop}
theorem Eq52 : EqT Tryz.prog 52 ruleT := ⟨by kernel_rfl, fun a b w => by
  rw [eqT_run 9999 _ _ w Tryz.underlying52 (by kernel_rfl)]
  obtain ⟨a0, a1, a2, a3, a4⟩ := a; obtain ⟨b0, b1, b2, b3, b4⟩ := b
  simp only [ruleT]
  simp [Op.eqFields, part, isAgg, run_underlying Tryz.underlying2, run_equalIn_int _ _ _ _ _ _ _ Tryz.underlying2]
  by_cases e0 : a0 = b0 <;> by_cases e1 : a1 = b1 <;> by_cases e2 : a2 = b2 <;> by_cases e3 : a3 = b3 <;> by_cases e4 : a4 = b4 <;> simp_all⟩
def hasR (rs : List Rule) (q : Rule) : Bool := rs.any fun r => decide (q = r)
def deckAt (rs : List Rule) (i : Nat) : Bool := validRule (gd rs i) && !hasR (rs.take i) (gd rs i)
def deckOk (rs : List Rule) : Bool := decide (rs.length ≤ 12) && decide (∀ i, i < rs.length → deckAt rs i = true)
theorem deck_false {rs : List Rule} {i : Nat} (h : i < rs.length) (e : deckAt rs i = false) : deckOk rs = false := by
  simp only [deckOk, Bool.and_eq_false_iff, decide_eq_false_iff_not]
  exact .inr fun hh => by rw [hh i h] at e; cases e
theorem deck_all {rs : List Rule} (h : ∀ i, i < rs.length → deckAt rs i = true) : deckOk rs = decide ((rs.length : Int) ≤ 12) := by
  simp only [deckOk, decide_eq_true h, Bool.and_true]; rw [decide_eq_decide]; omega
theorem deck_rule {rs : List Rule} (h : deckOk rs = true) {i : Nat} (hi : i < rs.length) : validRule (gd rs i) = true := by
  simp only [deckOk, Bool.and_eq_true, decide_eq_true_eq] at h
  have := h.2 i hi; simp only [deckAt, Bool.and_eq_true] at this; exact this.1
theorem indexRule_s {v : Value} {rs : List Rule} {q : Rule} (h1 : Rs G L ruleT v rs) (k : R (vi (idxI (fun r => decide (q = r)) rs)) G L) : CallT Tryz.prog 181 #[v, vrule q] G L R := by
  refine CallT.bd h1 fun hb => ?_
  refine CallT.enter (args := _) Tryz.func181 rfl rfl (by kernel_rfl) rfl ?_
  refine WP.seq ?_
  refine WP.region ?_
  refine RG.ot rfl (OT.box (cs := ruleT.enc q) rfl rfl rfl fun b3 => ?_)
  refine RG.pv rfl (PV.mvI (.inr rfl) rfl) ?_
  refine RG.nil ?_
  refine WP.seq ?_
  refine WP.seq ?_
  refine WP.region ?_
  refine RG.pv rfl (PV.move (v := v) rfl rfl) ?_
  refine RG.pv rfl (PV.len (v := v) rfl Tryz.underlying31 rfl (SlF.r h1)) ?_
  refine RG.pv rfl (PV.mvI (.inl rfl) rfl) ?_
  refine RG.nil ?_
  refine WP.block ?_
  refine WP.loop1 [0, 3, 7] (fun i => i ≤ rs.length ∧ ∀ j, j < i → decide (q = gd rs j) = false) (fun i => [(8, vi i)]) (fun i => blk b3 52 (ruleT.enc q) :: L) (fun i => rs.length - i) 0 ⟨by omega, fun j h => by omega⟩ ⟨rfl, trivial⟩ Cv.p ?_
  rintro i τ ⟨hi, hj⟩
  refine WP.seq ?_
  refine WP.region ?_
  refine RG.pv rfl (PV.lss rfl rfl rfl) ?_
  refine RG.nil ?_
  refine WP.seq ?_
  refine WP.cond rfl (fun h2 => ?_) (fun h2 => ?_)
  · have h2 := of_decide_eq_true h2
    refine WP.skip ?_
    refine WP.seq ?_
    refine WP.block ?_
    refine WP.seq ?_
    refine WP.region ?_
    refine RG.pv rfl (PV.mvI (.inl rfl) rfl) ?_
    refine RG.pv rfl (PV.mvI (.inr rfl) rfl) ?_
    refine RG.nil ?_
    refine WP.seq ?_
    refine WP.regionQ (by kernel_rfl) (by kernel_rfl) ?_
    refine RQ.pv rfl (PV.loadW rfl Ag52 rfl rfl) ?_
    refine RQ.pv rfl (PV.move (v := v) rfl rfl) ?_
    refine RQ.pv rfl (PV.mvI (.inl rfl) rfl) ?_
    refine RQ.pv rfl (PV.idxS (v := v) rfl Is31 rfl (SlF.r h1) rfl rfl (by omega)) ?_
    refine RQ.pv rfl (PV.loadE rfl Ag52 rfl rfl (El.r h1 (getG (by omega)))) ?_
    refine RQ.pv rfl (PV.eqlT rfl Eq52 rfl rfl) ?_
    refine RQ.nil ?_
    refine WP.cond rfl (fun h3 => ?_) (fun h3 => ?_)
    · rw [idxI_at (by omega) h3 hj] at k
      refine WP.seq ?_
      refine WP.region ?_
      refine RG.pv rfl (PV.mvI (.inl rfl) rfl) ?_
      refine RG.pv rfl (PV.mvI (.inr rfl) rfl) ?_
      refine RG.nil ?_
      refine WP.ret ?_
      exact ⟨_, _, ResV.one rfl rfl, Cv.p, k⟩
    · have hj' : ∀ j, j < i + 1 → decide (q = gd rs j) = false := fun j h => by
        by_cases c : j = i
        · rw [c]; exact h3
        · exact hj j (by omega)
      refine WP.skip ?_
      refine WP.region ?_
      refine RG.pv rfl (PV.add rfl rfl rfl (by omega)) ?_
      refine RG.pv rfl (PV.mvI (.inl rfl) rfl) ?_
      refine RG.nil ?_
      exact ⟨rfl, i + 1, ⟨by omega, hj'⟩, ⟨rfl, trivial⟩, ⟨rfl, rfl, rfl, trivial⟩, Cv.p, by omega⟩
  · have h2 := of_decide_eq_false h2
    rw [idxI_none (fun j h => hj j (by omega))] at k
    refine WP.exit ?_
    refine WP.seq ?_
    refine WP.region ?_
    refine RG.pv rfl (PV.mvI (.inr rfl) rfl) ?_
    refine RG.nil ?_
    refine WP.ret ?_
    exact ⟨_, _, ResV.one rfl rfl, Cv.p, k⟩
theorem containsRule_s {v : Value} {rs : List Rule} {q : Rule} (h1 : Rs G L ruleT v rs) (k : R (.bool (hasR rs q)) G L) : CallT Tryz.prog 125 #[v, vrule q] G L R := by
  rw [hasR, ← idxI_any] at k
  refine CallT.enter (args := _) Tryz.func125 rfl rfl (by kernel_rfl) rfl ?_
  refine WP.seq ?_
  refine WP.region ?_
  refine RG.ot rfl (OT.box (cs := ruleT.enc q) rfl rfl rfl fun b3 => ?_)
  refine RG.pv rfl (PV.mvB (.inr rfl) rfl) ?_
  refine RG.nil ?_
  refine WP.seq ?_
  refine WP.region ?_
  refine RG.pv rfl (PV.move (v := v) rfl rfl) ?_
  refine RG.pv rfl (PV.loadW rfl Ag52 rfl rfl) ?_
  refine RG.callF (vs := [v, _]) rfl rfl En181 rfl (indexRule_s (Rs.up h1) ?_)
  refine RG.pv rfl (PV.geq rfl rfl rfl) ?_
  refine RG.pv rfl (PV.mvB (.inr rfl) rfl) ?_
  refine RG.nil ?_
  refine WP.ret ?_
  exact ⟨_, _, ResV.one rfl rfl, Cv.p, k⟩
theorem deck_i {d : Deck} (h1 : Rs G L ruleT d.rules.v d.rules.xs) (k : R (.bool (deckOk d.rules.xs)) G L) : CallT Tryz.prog 64 #[vT deckT d] G L R := by
  refine CallT.bd h1 fun hb => ?_
  refine CallT.enter (args := _) Tryz.func64 rfl rfl (by kernel_rfl) rfl ?_
  refine WP.seq ?_
  refine WP.region ?_
  refine RG.ot rfl (OT.box (cs := deckT.enc d) rfl rfl rfl fun b1 => ?_)
  refine RG.pv rfl (PV.mvB (.inr rfl) rfl) ?_
  refine RG.nil ?_
  refine WP.seq ?_
  refine WP.seq ?_
  refine WP.region ?_
  refine RG.pv rfl (PV.field rfl Fo33_0 rfl) ?_
  refine RG.pv rfl (PV.load1 rfl Sc31 rfl (Rd.blk rfl)) ?_
  refine RG.pv rfl (PV.len rfl Tryz.underlying31 rfl (SlF.r h1)) ?_
  refine RG.pv rfl (PV.mvI (.inl rfl) rfl) ?_
  refine RG.nil ?_
  refine WP.block ?_
  refine WP.loop1 [1, 6, 7] (fun i => i ≤ d.rules.xs.length ∧ ∀ j, j < i → deckAt d.rules.xs j = true) (fun i => [(8, vi i)]) (fun i => blk b1 33 (deckT.enc d) :: L) (fun i => d.rules.xs.length - i) 0 ⟨by omega, fun j h => by omega⟩ ⟨rfl, trivial⟩ Cv.p ?_
  rintro i τ ⟨hi, hj⟩
  refine WP.seq ?_
  refine WP.region ?_
  refine RG.pv rfl (PV.lss rfl rfl rfl) ?_
  refine RG.nil ?_
  refine WP.seq ?_
  refine WP.cond rfl (fun h2 => ?_) (fun h2 => ?_)
  · have h2 := of_decide_eq_true h2
    have h3 : i < d.rules.xs.length := by omega
    refine WP.skip ?_
    refine WP.seq ?_
    refine WP.block ?_
    refine WP.seq ?_
    refine WP.region ?_
    refine RG.pv rfl (PV.mvI (.inl rfl) rfl) ?_
    refine RG.pv rfl (PV.idxS rfl Is31 rfl (SlF.r h1) rfl rfl (by omega)) ?_
    refine RG.pv rfl (PV.loadE rfl Ag52 rfl rfl (El.r h1 (getG (by omega)))) ?_
    refine RG.ot rfl (OT.alloc rfl Zr52 fun b4 => ?_)
    refine RG.pv rfl (PV.mvI (.inr rfl) rfl) ?_
    refine RG.ot rfl (OT.storeW (vs := [vi _, vi _, vi _, vi _, vi _]) rfl Sz52 rfl rfl (Cl.c rfl) rfl rfl (OneC.c rfl) ?_)
    refine RG.nil ?_
    refine WP.seq ?_
    refine WP.regionQ (by kernel_rfl) (by kernel_rfl) ?_
    refine RQ.pv rfl (PV.loadW rfl Ag52 rfl rfl) ?_
    refine RQ.callF (vs := [_]) rfl rfl En72 rfl (validRule_i ⟨rfl, rfl, rfl⟩) ?_
    refine RQ.pv rfl (PV.not rfl rfl) ?_
    refine RQ.pv rfl (PV.mvB (.inl rfl) rfl) ?_
    refine RQ.gs rfl rfl rfl (fun hp => (PV.field rfl Fo33_0 rfl)) ?_
    refine RQ.gs rfl rfl rfl (fun hp => (PV.load1 rfl Sc31 (gs_t hp) (Rd.blk rfl))) ?_
    refine RQ.gs rfl rfl rfl (fun hp => (PV.mvI (.inl rfl) rfl)) ?_
    refine RQ.gs rfl rfl rfl (fun hp => (PV.slc rfl Is31 (gs_t hp) (SlF.r h1) optAt.n (optAt.s (gs_t hp) rfl) (by first | omega | (simp at hp; omega)) (by first | omega | (simp at hp; omega)))) ?_
    refine RQ.gs rfl rfl rfl (fun hp => (PV.loadW rfl Ag52 rfl rfl)) ?_
    refine RQ.gsC rfl rfl rfl rfl En125 (fun hp => ⟨_, (acons (gs_t hp) (acons (gs_t hp) anil)), containsRule_s (rs := d.rules.xs.take i) (by have := Rs.slv h1 (lo := 0) (hi := i) (by omega) (by omega); rw [List.drop_zero] at this; exact this.up) ⟨rfl, rfl, rfl⟩⟩) ?_
    refine RQ.pv rfl (PV.pickO rfl rfl rfl (fun hq => gs_t (geqF hq))) ?_
    refine RQ.nil ?_
    refine WP.cond rfl (fun h4 => ?_) (fun h4 => ?_)
    · have e : deckAt d.rules.xs i = false := by
        revert h4; unfold deckAt
        cases validRule (gd d.rules.xs i) <;> cases hasR (d.rules.xs.take i) (gd d.rules.xs i) <;> simp
      rw [deck_false h3 e] at k
      refine WP.seq ?_
      refine WP.region ?_
      refine RG.pv rfl (PV.mvB (.inr rfl) rfl) ?_
      refine RG.nil ?_
      refine WP.ret ?_
      exact ⟨_, _, ResV.one rfl rfl, Cv.p, k⟩
    · have e : deckAt d.rules.xs i = true := by
        revert h4; unfold deckAt
        cases validRule (gd d.rules.xs i) <;> cases hasR (d.rules.xs.take i) (gd d.rules.xs i) <;> simp
      have hj' : ∀ j, j < i + 1 → deckAt d.rules.xs j = true := fun j h => by
        by_cases c : j = i
        · rw [c]; exact e
        · exact hj j (by omega)
      refine WP.skip ?_
      refine WP.region ?_
      refine RG.pv rfl (PV.add rfl rfl rfl (by omega)) ?_
      refine RG.pv rfl (PV.mvI (.inl rfl) rfl) ?_
      refine RG.nil ?_
      exact ⟨rfl, i + 1, ⟨by omega, hj'⟩, ⟨rfl, trivial⟩, ⟨rfl, rfl, rfl, trivial⟩, Cv.p, by omega⟩
  · have h2 := of_decide_eq_false h2
    rw [deck_all (fun i h => hj i (by omega))] at k
    refine WP.exit ?_
    refine WP.seq ?_
    refine WP.region ?_
    refine RG.pv rfl (PV.field rfl Fo33_0 rfl) ?_
    refine RG.pv rfl (PV.load1 rfl Sc31 rfl (Rd.blk rfl)) ?_
    refine RG.pv rfl (PV.len rfl Tryz.underlying31 rfl (SlF.r h1)) ?_
    refine RG.pv rfl (PV.leq rfl rfl rfl) ?_
    refine RG.pv rfl (PV.mvB (.inr rfl) rfl) ?_
    refine RG.nil ?_
    refine WP.ret ?_
    exact ⟨_, _, ResV.one rfl rfl, Cv.p, k⟩
theorem l16Has_s {v : Value} {rs : List Rule} {q : Rule} (h1 : Rs G L ruleT v rs) (k : R (.bool (hasR rs q)) G L) : CallT Tryz.prog 120 #[v, vrule q] G L R := by
  refine CallT.bd h1 fun hb => ?_
  refine CallT.enter (args := _) Tryz.func120 rfl rfl (by kernel_rfl) rfl ?_
  refine WP.seq ?_
  refine WP.region ?_
  refine RG.ot rfl (OT.box (cs := ruleT.enc q) rfl rfl rfl fun b3 => ?_)
  refine RG.pv rfl (PV.mvB (.inr rfl) rfl) ?_
  refine RG.nil ?_
  refine WP.seq ?_
  refine WP.seq ?_
  refine WP.region ?_
  refine RG.pv rfl (PV.mvI (.inr rfl) rfl) ?_
  refine RG.nil ?_
  refine WP.block ?_
  refine WP.loop1 [0, 3] (fun i => i ≤ rs.length ∧ ∀ j, j < i → ¬ q = gd rs j) (fun i => [(5, vi i)]) (fun i => blk b3 52 (ruleT.enc q) :: L) (fun i => rs.length - i) 0 ⟨by omega, fun j h => by omega⟩ ⟨rfl, trivial⟩ Cv.p ?_
  rintro i τ ⟨hi, hj⟩
  refine WP.seq ?_
  refine WP.seq ?_
  refine WP.region ?_
  refine RG.pv rfl (PV.mvI (.inl rfl) rfl) ?_
  refine RG.pv rfl (PV.move (v := v) rfl rfl) ?_
  refine RG.pv rfl (PV.len (v := v) rfl Tryz.underlying31 rfl (SlF.r h1)) ?_
  refine RG.pv rfl (PV.lss rfl rfl rfl) ?_
  refine RG.nil ?_
  refine WP.cond rfl (fun h2 => ?_) (fun h2 => ?_)
  · have h2 := of_decide_eq_true h2
    refine WP.skip ?_
    refine WP.seq ?_
    refine WP.block ?_
    refine WP.seq ?_
    refine WP.regionQ (by kernel_rfl) (by kernel_rfl) ?_
    refine RQ.pv rfl (PV.move (v := v) rfl rfl) ?_
    refine RQ.pv rfl (PV.mvI (.inl rfl) rfl) ?_
    refine RQ.pv rfl (PV.idxS (v := v) rfl Is31 rfl (SlF.r h1) rfl rfl (by omega)) ?_
    refine RQ.pv rfl (PV.loadE rfl Ag52 rfl rfl (El.r h1 (getG (by omega)))) ?_
    refine RQ.pv rfl (PV.loadW rfl Ag52 rfl rfl) ?_
    refine RQ.pv rfl (PV.eqlT rfl Eq52 rfl rfl) ?_
    refine RQ.nil ?_
    refine WP.cond rfl (fun h3 => ?_) (fun h3 => ?_)
    · have e : hasR rs q = true := List.any_eq_true.2 ⟨gd rs i, by rw [gd_eq (by omega)]; exact List.getElem_mem _, by rw [decide_eq_true_iff]; exact (of_decide_eq_true h3).symm⟩
      rw [e] at k
      refine WP.seq ?_
      refine WP.region ?_
      refine RG.pv rfl (PV.mvB (.inr rfl) rfl) ?_
      refine RG.nil ?_
      refine WP.ret ?_
      exact ⟨_, _, ResV.one rfl rfl, Cv.p, k⟩
    · have hj' : ∀ j, j < i + 1 → ¬ q = gd rs j := fun j h => by
        by_cases c : j = i
        · rw [c]; exact fun e => (of_decide_eq_false h3) e.symm
        · exact hj j (by omega)
      refine WP.skip ?_
      refine WP.region ?_
      refine RG.pv rfl (PV.mvI (.inl rfl) rfl) ?_
      refine RG.pv rfl (PV.add rfl rfl rfl (by omega)) ?_
      refine RG.pv rfl (PV.mvI (.inr rfl) rfl) ?_
      refine RG.nil ?_
      exact ⟨rfl, i + 1, ⟨by omega, hj'⟩, ⟨rfl, trivial⟩, ⟨rfl, rfl, trivial⟩, Cv.p, by omega⟩
  · have h2 := of_decide_eq_false h2
    have e : hasR rs q = false := by
      rw [hasR, List.any_eq_false]
      intro r hr
      obtain ⟨j, hj2, rfl⟩ := List.getElem_of_mem hr
      have := hj j (by omega)
      rw [gd_eq hj2] at this
      simpa using this
    rw [e] at k
    refine WP.exit ?_
    refine WP.seq ?_
    refine WP.region ?_
    refine RG.pv rfl (PV.mvB (.inr rfl) rfl) ?_
    refine RG.nil ?_
    refine WP.ret ?_
    exact ⟨_, _, ResV.one rfl rfl, Cv.p, k⟩
theorem deck_r {d : Deck} (h1 : Rs G L ruleT d.rules.v d.rules.xs) (k : R (.bool (deckOk d.rules.xs)) G L) : CallT Tryz.prog 60 #[vT deckT d] G L R := by
  refine CallT.bd h1 fun hb => ?_
  refine CallT.enter (args := _) Tryz.func60 rfl rfl (by kernel_rfl) rfl ?_
  refine WP.seq ?_
  refine WP.region ?_
  refine RG.ot rfl (OT.box (cs := deckT.enc d) rfl rfl rfl fun b1 => ?_)
  refine RG.pv rfl (PV.mvB (.inr rfl) rfl) ?_
  refine RG.nil ?_
  refine WP.seq ?_
  refine WP.seq ?_
  refine WP.region ?_
  refine RG.pv rfl (PV.field rfl Fo33_0 rfl) ?_
  refine RG.pv rfl (PV.load1 rfl Sc31 rfl (Rd.blk rfl)) ?_
  refine RG.pv rfl (PV.len rfl Tryz.underlying31 rfl (SlF.r h1)) ?_
  refine RG.pv rfl (PV.gtr rfl rfl rfl) ?_
  refine RG.nil ?_
  refine WP.cond rfl (fun h0 => ?_) (fun h0 => ?_)
  · have h0 := of_decide_eq_true h0
    have e : deckOk d.rules.xs = false := by
      have : ¬ d.rules.xs.length ≤ 12 := by omega
      simp [deckOk, this]
    rw [e] at k
    refine WP.seq ?_
    refine WP.region ?_
    refine RG.pv rfl (PV.mvB (.inr rfl) rfl) ?_
    refine RG.nil ?_
    refine WP.ret ?_
    exact ⟨_, _, ResV.one rfl rfl, Cv.p, k⟩
  · have h0 := of_decide_eq_false h0
    refine WP.skip ?_
    refine WP.seq ?_
    refine WP.seq ?_
    refine WP.region ?_
    refine RG.pv rfl (PV.mvI (.inr rfl) rfl) ?_
    refine RG.nil ?_
    refine WP.block ?_
    refine WP.loop1 [1] (fun i => i ≤ d.rules.xs.length ∧ ∀ j, j < i → deckAt d.rules.xs j = true) (fun i => [(3, vi i)]) (fun i => blk b1 33 (deckT.enc d) :: L) (fun i => d.rules.xs.length - i) 0 ⟨by omega, fun j h => by omega⟩ ⟨rfl, trivial⟩ Cv.p ?_
    rintro i τ ⟨hi, hj⟩
    refine WP.seq ?_
    refine WP.seq ?_
    refine WP.region ?_
    refine RG.pv rfl (PV.mvI (.inl rfl) rfl) ?_
    refine RG.pv rfl (PV.field rfl Fo33_0 rfl) ?_
    refine RG.pv rfl (PV.load1 rfl Sc31 rfl (Rd.blk rfl)) ?_
    refine RG.pv rfl (PV.len rfl Tryz.underlying31 rfl (SlF.r h1)) ?_
    refine RG.pv rfl (PV.lss rfl rfl rfl) ?_
    refine RG.nil ?_
    refine WP.cond rfl (fun h2 => ?_) (fun h2 => ?_)
    · have h2 := of_decide_eq_true h2
      have h3 : i < d.rules.xs.length := by omega
      refine WP.skip ?_
      refine WP.seq ?_
      refine WP.block ?_
      refine WP.seq ?_
      refine WP.regionQ (by kernel_rfl) (by kernel_rfl) ?_
      refine RQ.pv rfl (PV.field rfl Fo33_0 rfl) ?_
      refine RQ.pv rfl (PV.load1 rfl Sc31 rfl (Rd.blk rfl)) ?_
      refine RQ.pv rfl (PV.mvI (.inl rfl) rfl) ?_
      refine RQ.pv rfl (PV.idxS rfl Is31 rfl (SlF.r h1) rfl rfl (by omega)) ?_
      refine RQ.pv rfl (PV.loadE rfl Ag52 rfl rfl (El.r h1 (getG (by omega)))) ?_
      refine RQ.callF (vs := [_]) rfl rfl En51 rfl (validRule_s ⟨rfl, rfl, rfl⟩) ?_
      refine RQ.pv rfl (PV.not rfl rfl) ?_
      refine RQ.pv rfl (PV.mvB (.inl rfl) rfl) ?_
      refine RQ.gs rfl rfl rfl (fun hp => (PV.field rfl Fo33_0 rfl)) ?_
      refine RQ.gs rfl rfl rfl (fun hp => (PV.load1 rfl Sc31 (gs_t hp) (Rd.blk rfl))) ?_
      refine RQ.gs rfl rfl rfl (fun hp => (PV.mvI (.inl rfl) rfl)) ?_
      refine RQ.gs rfl rfl rfl (fun hp => (PV.slc rfl Is31 (gs_t hp) (SlF.r h1) optAt.n (optAt.s (gs_t hp) rfl) (by first | omega | (simp at hp; omega)) (by first | omega | (simp at hp; omega)))) ?_
      refine RQ.gs rfl rfl rfl (fun hp => (PV.field rfl Fo33_0 rfl)) ?_
      refine RQ.gs rfl rfl rfl (fun hp => (PV.load1 rfl Sc31 (gs_t hp) (Rd.blk rfl))) ?_
      refine RQ.gs rfl rfl rfl (fun hp => (PV.mvI (.inl rfl) rfl)) ?_
      refine RQ.gs rfl rfl rfl (fun hp => (PV.idxS rfl Is31 (gs_t hp) (SlF.r h1) (gs_t hp) rfl (by first | omega | (simp at hp; omega)))) ?_
      refine RQ.gs rfl rfl rfl (fun hp => (PV.loadE rfl Ag52 (gs_t hp) rfl (El.r h1 (getG (by first | omega | (simp at hp; omega)))))) ?_
      refine RQ.gsC rfl rfl rfl rfl En120 (fun hp => ⟨_, (acons (gs_t hp) (acons (gs_t hp) anil)), l16Has_s (rs := d.rules.xs.take i) (by have := Rs.slv h1 (lo := 0) (hi := i) (by omega) (by omega); rw [List.drop_zero] at this; exact this.up) ⟨rfl, rfl, rfl⟩⟩) ?_
      refine RQ.pv rfl (PV.pickO rfl rfl rfl (fun hq => gs_t (geqF hq))) ?_
      refine RQ.nil ?_
      refine WP.cond rfl (fun h4 => ?_) (fun h4 => ?_)
      · have e : deckAt d.rules.xs i = false := by
          revert h4; unfold deckAt
          cases validRule (gd d.rules.xs i) <;> cases hasR (d.rules.xs.take i) (gd d.rules.xs i) <;> simp
        rw [deck_false h3 e] at k
        refine WP.seq ?_
        refine WP.region ?_
        refine RG.pv rfl (PV.mvB (.inr rfl) rfl) ?_
        refine RG.nil ?_
        refine WP.ret ?_
        exact ⟨_, _, ResV.one rfl rfl, Cv.p, k⟩
      · have e : deckAt d.rules.xs i = true := by
          revert h4; unfold deckAt
          cases validRule (gd d.rules.xs i) <;> cases hasR (d.rules.xs.take i) (gd d.rules.xs i) <;> simp
        have hj' : ∀ j, j < i + 1 → deckAt d.rules.xs j = true := fun j h => by
          by_cases c : j = i
          · rw [c]; exact e
          · exact hj j (by omega)
        refine WP.skip ?_
        refine WP.region ?_
        refine RG.pv rfl (PV.mvI (.inl rfl) rfl) ?_
        refine RG.pv rfl (PV.add rfl rfl rfl (by omega)) ?_
        refine RG.pv rfl (PV.mvI (.inr rfl) rfl) ?_
        refine RG.nil ?_
        exact ⟨rfl, i + 1, ⟨by omega, hj'⟩, ⟨rfl, trivial⟩, ⟨rfl, trivial⟩, Cv.p, by omega⟩
    · have h2 := of_decide_eq_false h2
      have e : deckOk d.rules.xs = true := by
        rw [deck_all (fun i h => hj i (by omega)), decide_eq_true_iff]; omega
      rw [e] at k
      refine WP.exit ?_
      refine WP.seq ?_
      refine WP.region ?_
      refine RG.pv rfl (PV.mvB (.inr rfl) rfl) ?_
      refine RG.nil ?_
      refine WP.ret ?_
      exact ⟨_, _, ResV.one rfl rfl, Cv.p, k⟩
end Go.Proofs.YtgngpegmaceaiaaGreat
namespace Go.Proofs.YtgngpegmaceaiaaGreat
set_option linter.unusedVariables false
set_option linter.unusedSimpArgs false
open Go
set_option maxRecDepth 20000
set_option linter.unusedSimpArgs false
variable {G : Gh} {L : List Ch} {R : Value → Gh → List Ch → Prop}
noncomputable def okV (v : Int × List Rect) : Bool := within v.1 0 11 && connR v.2
theorem okV_i {v : Viol} (h1 : Rs G L rectT v.marker.v v.marker.xs) (k : R (.bool (okV (erV v))) G L) : CallT Tryz.prog 65 #[vT violT v] G L R := by
  refine CallT.enter (args := _) Tryz.func65 rfl rfl (by kernel_rfl) rfl ?_
  refine WP.seq ?_
  refine WP.region ?_
  refine RG.ot rfl (OT.box (cs := violT.enc v) rfl rfl rfl fun b1 => ?_)
  refine RG.pv rfl (PV.mvB (.inr rfl) rfl) ?_
  refine RG.nil ?_
  refine WP.seq ?_
  refine WP.region ?_
  refine RG.pv rfl (PV.field rfl Fo37_0 rfl) ?_
  refine RG.pv rfl (PV.load1 rfl Sc2 rfl (Rd.blk rfl)) ?_
  refine RG.callF (vs := [_, _, _]) rfl rfl En126 rfl (within_s ?_)
  refine RG.pv rfl (PV.mvB (.inl rfl) rfl) ?_
  refine RG.gs rfl rfl rfl (fun hp => (PV.field rfl Fo37_1 rfl)) ?_
  refine RG.gs rfl rfl rfl (fun hp => (PV.load1 rfl Sc35 (gs_t hp) (Rd.blk rfl))) ?_
  refine RG.gsC rfl rfl rfl rfl En127 (fun hp => ⟨_, (acons (gs_t hp) anil), connR_i h1.up ⟨rfl, rfl, rfl⟩⟩) ?_
  refine RG.pv rfl (PV.pickA rfl rfl (fun hq => gs_t (geqT hq)) rfl) ?_
  refine RG.pv rfl (PV.mvB (.inr rfl) rfl) ?_
  refine RG.nil ?_
  refine WP.ret ?_
  exact ⟨_, _, ResV.one rfl rfl, Cv.p, k⟩
theorem okV_r {v : Viol} (h1 : Rs G L rectT v.marker.v v.marker.xs) (k : R (.bool (okV (erV v))) G L) : CallT Tryz.prog 61 #[vT violT v] G L R := by
  refine CallT.enter (args := _) Tryz.func61 rfl rfl (by kernel_rfl) rfl ?_
  refine WP.seq ?_
  refine WP.region ?_
  refine RG.ot rfl (OT.box (cs := violT.enc v) rfl rfl rfl fun b1 => ?_)
  refine RG.pv rfl (PV.mvB (.inr rfl) rfl) ?_
  refine RG.nil ?_
  refine WP.seq ?_
  refine WP.region ?_
  refine RG.pv rfl (PV.field rfl Fo37_0 rfl) ?_
  refine RG.pv rfl (PV.load1 rfl Sc2 rfl (Rd.blk rfl)) ?_
  refine RG.callF (vs := [_, _, _]) rfl rfl En121 rfl (l01In_s ?_)
  refine RG.pv rfl (PV.mvB (.inl rfl) rfl) ?_
  refine RG.gs rfl rfl rfl (fun hp => (PV.field rfl Fo37_1 rfl)) ?_
  refine RG.gs rfl rfl rfl (fun hp => (PV.load1 rfl Sc35 (gs_t hp) (Rd.blk rfl))) ?_
  refine RG.gsC rfl rfl rfl rfl En122 (fun hp => ⟨_, (acons (gs_t hp) anil), connR_s h1.up ⟨rfl, rfl, rfl⟩⟩) ?_
  refine RG.pv rfl (PV.pickA rfl rfl (fun hq => gs_t (geqT hq)) rfl) ?_
  refine RG.pv rfl (PV.mvB (.inr rfl) rfl) ?_
  refine RG.nil ?_
  refine WP.ret ?_
  exact ⟨_, _, ResV.one rfl rfl, Cv.p, k⟩
theorem okV_reg {v : Int × List Rect} (h : okV v = true) : isReg v.2 = true ∧ 0 < v.2.length ∧ 0 ≤ v.1 ∧ v.1 ≤ 11 := by
  simp only [okV, within, connR, Bool.and_eq_true, decide_eq_true_eq] at h
  obtain ⟨⟨h1, h2⟩, h3, h4⟩ := h
  refine ⟨h3, ?_, h1, h2⟩
  rcases Nat.eq_zero_or_pos v.2.length with e | e
  · exfalso
    have e1 := List.eq_nil_of_length_eq_zero e
    rw [partN, e1, partsL_len] at h4
    obtain ⟨⟨q1, q2, q3⟩, _⟩ := firsts_first (S := bits []) (n := 6400) (i := 0) (by omega)
    obtain ⟨r, hr, _⟩ := (gb_bits_iff q1 q2).1 q3
    cases hr
  · exact e
def ruleL (r : Rule) : List Int := [r.kind, r.layer, r.other, r.value, r.percent]
def sigR (r : Rule) (g : List Rect) : Int := hashL (regSig g) (ruleL r)
theorem ruleL_bd {r : Rule} (h : validRule r = true) : ∀ i, i < (ruleL r).length → 0 ≤ gd (ruleL r) i ∧ gd (ruleL r) i ≤ 4294967296 := by
  simp only [validRule, Bool.and_eq_true, within, decide_eq_true_eq] at h
  obtain ⟨⟨⟨⟨h1, h2⟩, h3⟩, h4⟩, h5⟩ := h
  have ho : 0 ≤ r.other ∧ r.other ≤ 7 := by
    revert h3; unfold okOther
    cases paired r.kind
    · simp; omega
    · simp [within]; omega
  have hv : 0 ≤ r.value ∧ r.value ≤ 6400 := by
    revert h4; unfold okVal
    split
    · simp [within]; omega
    · split
      · simp [within]; omega
      · simp [within]; omega
  have hp : 0 ≤ r.percent ∧ r.percent ≤ 100 := by
    revert h5; unfold okPct
    split
    · simp [within]; omega
    · simp; omega
  intro i hi
  match i, hi with
  | 0, _ => simp [ruleL, gd]; omega
  | 1, _ => simp [ruleL, gd]; omega
  | 2, _ => simp [ruleL, gd]; omega
  | 3, _ => simp [ruleL, gd]; omega
  | 4, _ => simp [ruleL, gd]; omega
theorem regSig_of {g : List Rect} (h : isReg g = true) (h0 : 0 < g.length) : regSig g = sigTo g 7 := by simp [regSig, h, h0]
theorem sigV_i {d : Deck} {v : Viol} (h1 : Rs G L ruleT d.rules.v d.rules.xs) (h2 : Rs G L rectT v.marker.v v.marker.xs) (hv : 0 ≤ v.rule ∧ v.rule < d.rules.xs.length) (hr : validRule (gd d.rules.xs v.rule.toNat) = true) (hreg : isReg v.marker.xs = true) (hne : 0 < v.marker.xs.length)
    (k : R (vi (sigR (gd d.rules.xs v.rule.toNat) v.marker.xs)) G L) : CallT Tryz.prog 66 #[vT deckT d, vT violT v] G L R := by
  have hl := isReg_len hreg
  rw [sigR, regSig_of hreg hne] at k
  refine CallT.enter (args := _) Tryz.func66 rfl rfl (by kernel_rfl) rfl ?_
  refine WP.seq ?_
  refine WP.region ?_
  refine RG.ot rfl (OT.box (cs := deckT.enc d) rfl rfl rfl fun b2 => ?_)
  refine RG.ot rfl (OT.box (cs := violT.enc v) rfl rfl rfl fun b3 => ?_)
  refine RG.pv rfl (PV.mvI (.inr rfl) rfl) ?_
  refine RG.nil ?_
  refine WP.seq ?_
  refine WP.region ?_
  refine RG.pv rfl (PV.field rfl Fo33_0 rfl) ?_
  refine RG.pv rfl (PV.load1 rfl Sc31 rfl (Rd.blk rfl)) ?_
  refine RG.pv rfl (PV.field rfl Fo37_0 rfl) ?_
  refine RG.pv rfl (PV.load1 rfl Sc2 rfl (Rd.blk rfl)) ?_
  refine RG.pv rfl (PV.idxS (j := v.rule.toNat) rfl Is31 rfl (SlF.r h1) rfl (by omega) (by omega)) ?_
  refine RG.pv rfl (PV.loadE rfl Ag52 rfl rfl (El.r h1 (getG (by omega)))) ?_
  refine RG.ot rfl (OT.alloc rfl Zr52 fun b5 => ?_)
  refine RG.ot rfl (OT.storeW (vs := [vi _, vi _, vi _, vi _, vi _]) rfl Sz52 rfl rfl (Cl.c rfl) rfl rfl (OneC.c rfl) ?_)
  refine RG.nil ?_
  refine WP.cut1 [] (fun (u : Unit) => True) (fun (u : Unit) => [(4, vi (hashL (sigTo v.marker.xs 7) (ruleL (gd d.rules.xs v.rule.toNat))))]) (fun (u : Unit) => L) ?_ ?_
  refine WP.regionH0 (.q 0 (.q 1 (.q 3 (.q 4 (.q 5 (.q 6 (.q 7 (.q 8 (.q 9 (.q 10 (.q 11 (.q 12 (.b 2 (.l 13 (.l 14 (.q 15 Sch.nil))) 13 (.l 2 (.l 14 (.q 15 Sch.nil)))))))))))))))) (by kernel_rfl) (by kernel_rfl) (by kernel_rfl) rfl ?_
  refine RH.pv rfl (fun _ _ _ _ h => h) (Gh.le_refl _) PickC.pick rfl (PV.field rfl Fo37_1 rfl) ?_
  refine RH.pv rfl (fun _ _ _ _ h => h) (Gh.le_refl _) PickC.pick rfl (PV.load1 rfl Sc35 rfl (Rd.blk rfl)) ?_
  refine RH.pv rfl (fun _ _ _ _ h => h) (Gh.le_refl _) PickC.pick rfl (PV.field rfl Fo52_0 rfl) ?_
  refine RH.pv rfl (fun _ _ _ _ h => h) (Gh.le_refl _) PickC.pick rfl (PV.load1 rfl Sc2 rfl (Rd.blk rfl)) ?_
  refine RH.pv rfl (fun _ _ _ _ h => h) (Gh.le_refl _) PickC.pick rfl (PV.field rfl Fo52_1 rfl) ?_
  refine RH.pv rfl (fun _ _ _ _ h => h) (Gh.le_refl _) PickC.pick rfl (PV.load1 rfl Sc2 rfl (Rd.blk rfl)) ?_
  refine RH.pv rfl (fun _ _ _ _ h => h) (Gh.le_refl _) PickC.pick rfl (PV.field rfl Fo52_2 rfl) ?_
  refine RH.pv rfl (fun _ _ _ _ h => h) (Gh.le_refl _) PickC.pick rfl (PV.load1 rfl Sc2 rfl (Rd.blk rfl)) ?_
  refine RH.pv rfl (fun _ _ _ _ h => h) (Gh.le_refl _) PickC.pick rfl (PV.field rfl Fo52_3 rfl) ?_
  refine RH.pv rfl (fun _ _ _ _ h => h) (Gh.le_refl _) PickC.pick rfl (PV.load1 rfl Sc2 rfl (Rd.blk rfl)) ?_
  refine RH.pv rfl (fun _ _ _ _ h => h) (Gh.le_refl _) PickC.pick rfl (PV.field rfl Fo52_4 rfl) ?_
  refine RH.pv rfl (fun _ _ _ _ h => h) (Gh.le_refl _) PickC.pick rfl (PV.load1 rfl Sc2 rfl (Rd.blk rfl)) ?_
  · refine RH.ot2 rfl rfl rfl rfl  (OT.callF (vs := [_]) rfl En129 rfl (signature_s h2.up hne (by omega) (RIn_all hreg) ⟨Gh.le_refl _, PickC.pick, ?_⟩)) (OT.bslice (F := intT) (els := [_, _, _, _, _]) rfl El134 rfl (by decide) rfl (by decide) ⟨rfl, (Cl.c rfl), ⟨rfl, (Cl.c rfl), ⟨rfl, (Cl.c rfl), ⟨rfl, (Cl.c rfl), ⟨rfl, (Cl.c rfl), trivial⟩⟩⟩⟩⟩ fun v25 => ⟨Gh.le_refl _, PickC.pick, ?_⟩)
    · refine RH.ot rfl rfl (OT.bslice (F := intT) (els := [_, _, _, _, _]) rfl El134 rfl (by decide) rfl (by decide) ⟨rfl, (Cl.c rfl), ⟨rfl, (Cl.c rfl), ⟨rfl, (Cl.c rfl), ⟨rfl, (Cl.c rfl), ⟨rfl, (Cl.c rfl), trivial⟩⟩⟩⟩⟩ fun v25 => ⟨Gh.le_refl _, PickC.pick, ?_⟩)
      refine RH.ot rfl rfl (OT.callF (vs := [_, v25]) rfl En128 rfl (hash_s (l := ruleL (gd d.rules.xs v.rule.toNat)) Rs.o (sigTo_bd _ _) (ruleL_bd hr) ⟨Gh.le_refl _, PickC.pick, ?_⟩))
      refine RH.pv rfl (fun _ _ _ _ h => h) (Gh.le_refl _) PickC.pick rfl (PV.mvI (.inr rfl) rfl) ?_
      refine RH.nil ?_
      exact ⟨rfl, (), trivial, ⟨rfl, trivial⟩, trivial, Cv.p⟩
    · refine RH.ot rfl rfl (OT.callF (vs := [_]) rfl En129 rfl (signature_s h2.up hne (by omega) (RIn_all hreg) ⟨Gh.le_refl _, PickC.pick, ?_⟩))
      refine RH.ot rfl rfl (OT.callF (vs := [_, v25]) rfl En128 rfl (hash_s (l := ruleL (gd d.rules.xs v.rule.toNat)) Rs.o (sigTo_bd _ _) (ruleL_bd hr) ⟨Gh.le_refl _, PickC.pick, ?_⟩))
      refine RH.pv rfl (fun _ _ _ _ h => h) (Gh.le_refl _) PickC.pick rfl (PV.mvI (.inr rfl) rfl) ?_
      refine RH.nil ?_
      exact ⟨rfl, (), trivial, ⟨rfl, trivial⟩, trivial, Cv.p⟩
  rintro _u τ0 -
  refine WP.ret ?_
  exact ⟨_, _, ResV.one rfl rfl, Cv.p, k⟩
theorem l22Sig_s {r : Rule} {v : Value} {g : List Rect} (h2 : Rs G L rectT v g) (hr : validRule r = true) (hreg : isReg g = true) (hne : 0 < g.length) (k : R (vi (sigR r g)) G L) : CallT Tryz.prog 62 #[vT ruleT r, v] G L R := by
  have e := regSig_of hreg hne
  have hs0 : 0 ≤ regSig g ∧ regSig g < 2147483647 := by rw [e]; exact sigTo_bd _ _
  have hb := ruleL_bd hr
  refine CallT.enter (args := _) Tryz.func62 rfl rfl (by kernel_rfl) rfl ?_
  refine WP.seq ?_
  refine WP.region ?_
  refine RG.ot rfl (OT.box (cs := ruleT.enc r) rfl rfl rfl fun b2 => ?_)
  refine RG.pv rfl (PV.mvI (.inr rfl) rfl) ?_
  refine RG.nil ?_
  refine WP.seq ?_
  refine WP.region ?_
  refine RG.pv rfl (PV.move (v := v) rfl rfl) ?_
  refine RG.callF (vs := [v]) rfl rfl En123 rfl (regSig_s h2.up ?_)
  refine RG.pv rfl (PV.mvI (.inr rfl) rfl) ?_
  refine RG.nil ?_
  refine WP.seq ?_
  refine WP.region ?_
  refine RG.pv rfl (PV.mvI (.inl rfl) rfl) ?_
  refine RG.pv rfl (PV.field rfl Fo52_0 rfl) ?_
  refine RG.pv rfl (PV.load1 rfl Sc2 rfl (Rd.blk rfl)) ?_
  refine RG.callF (vs := [_, _]) rfl rfl En124 rfl (l22Hash_s hs0 (by have := hb 0 (by simp [ruleL]); simpa [ruleL, gd] using this) ?_)
  refine RG.pv rfl (PV.mvI (.inr rfl) rfl) ?_
  refine RG.nil ?_
  refine WP.seq ?_
  refine WP.region ?_
  refine RG.pv rfl (PV.mvI (.inl rfl) rfl) ?_
  refine RG.pv rfl (PV.field rfl Fo52_1 rfl) ?_
  refine RG.pv rfl (PV.load1 rfl Sc2 rfl (Rd.blk rfl)) ?_
  refine RG.callF (vs := [_, _]) rfl rfl En124 rfl (l22Hash_s (hashI_bd _ _) (by have := hb 1 (by simp [ruleL]); simpa [ruleL, gd] using this) ?_)
  refine RG.pv rfl (PV.mvI (.inr rfl) rfl) ?_
  refine RG.nil ?_
  refine WP.seq ?_
  refine WP.region ?_
  refine RG.pv rfl (PV.mvI (.inl rfl) rfl) ?_
  refine RG.pv rfl (PV.field rfl Fo52_2 rfl) ?_
  refine RG.pv rfl (PV.load1 rfl Sc2 rfl (Rd.blk rfl)) ?_
  refine RG.callF (vs := [_, _]) rfl rfl En124 rfl (l22Hash_s (hashI_bd _ _) (by have := hb 2 (by simp [ruleL]); simpa [ruleL, gd] using this) ?_)
  refine RG.pv rfl (PV.mvI (.inr rfl) rfl) ?_
  refine RG.nil ?_
  refine WP.seq ?_
  refine WP.region ?_
  refine RG.pv rfl (PV.mvI (.inl rfl) rfl) ?_
  refine RG.pv rfl (PV.field rfl Fo52_3 rfl) ?_
  refine RG.pv rfl (PV.load1 rfl Sc2 rfl (Rd.blk rfl)) ?_
  refine RG.callF (vs := [_, _]) rfl rfl En124 rfl (l22Hash_s (hashI_bd _ _) (by have := hb 3 (by simp [ruleL]); simpa [ruleL, gd] using this) ?_)
  refine RG.pv rfl (PV.mvI (.inr rfl) rfl) ?_
  refine RG.nil ?_
  refine WP.seq ?_
  refine WP.region ?_
  refine RG.pv rfl (PV.mvI (.inl rfl) rfl) ?_
  refine RG.pv rfl (PV.field rfl Fo52_4 rfl) ?_
  refine RG.pv rfl (PV.load1 rfl Sc2 rfl (Rd.blk rfl)) ?_
  refine RG.callF (vs := [_, _]) rfl rfl En124 rfl (l22Hash_s (hashI_bd _ _) (by have := hb 4 (by simp [ruleL]); simpa [ruleL, gd] using this) ?_)
  refine RG.pv rfl (PV.mvI (.inr rfl) rfl) ?_
  refine RG.nil ?_
  refine WP.ret ?_
  exact ⟨_, _, ResV.one rfl rfl, Cv.p, k⟩
noncomputable def violC (rs : List Rule) (v : Int × List Rect) : Bool := deckOk rs && okV v && decide (v.1 < rs.length)
noncomputable def violE (rs : List Rule) (v : Int × List Rect) : Int := bif violC rs v then sigR (gd rs v.1.toNat) v.2 else -1
theorem violE_bad {rs : List Rule} {v : Int × List Rect} (h : (!deckOk rs || !okV v || decide ((rs.length : Int) ≤ v.1)) = true) : violE rs v = -1 := by
  have : violC rs v = false := by
    revert h; unfold violC
    cases deckOk rs <;> cases okV v <;> simp
  rw [violE, this]; rfl
theorem violE_good {rs : List Rule} {v : Int × List Rect} (h : (!deckOk rs || !okV v || decide ((rs.length : Int) ≤ v.1)) = false) : violE rs v = sigR (gd rs v.1.toNat) v.2 ∧ deckOk rs = true ∧ okV v = true ∧ v.1 < rs.length := by
  simp only [Bool.or_eq_false_iff, Bool.not_eq_false', decide_eq_false_iff_not] at h
  obtain ⟨⟨h1, h2⟩, h3⟩ := h
  refine ⟨?_, h1, h2, by omega⟩
  have : violC rs v = true := by rw [violC, h1, h2]; simp; omega
  rw [violE, this]; rfl
theorem violSig_r {d : Deck} {v : Viol} (h1 : Rs G L ruleT d.rules.v d.rules.xs) (h2 : Rs G L rectT v.marker.v v.marker.xs) (k : R (vi (violE d.rules.xs (erV v))) G L) : CallT Tryz.prog 12 #[vT deckT d, vT violT v] G L R := by
  refine CallT.enter (args := _) Tryz.func12 rfl rfl (by kernel_rfl) rfl ?_
  refine WP.seq ?_
  refine WP.region ?_
  refine RG.ot rfl (OT.box (cs := deckT.enc d) rfl rfl rfl fun b2 => ?_)
  refine RG.ot rfl (OT.box (cs := violT.enc v) rfl rfl rfl fun b3 => ?_)
  refine RG.pv rfl (PV.mvI (.inr rfl) rfl) ?_
  refine RG.nil ?_
  refine WP.seq ?_
  refine WP.seq ?_
  refine WP.region ?_
  refine RG.pv rfl (PV.loadW rfl Ag33 rfl rfl) ?_
  refine RG.callF (vs := [_]) rfl rfl En60 rfl (deck_r h1.up ?_)
  refine RG.pv rfl (PV.not rfl rfl) ?_
  refine RG.pv rfl (PV.mvB (.inl rfl) rfl) ?_
  refine RG.gs rfl rfl rfl (fun hp => (PV.loadW rfl Ag37 rfl rfl)) ?_
  refine RG.gsC rfl rfl rfl rfl En61 (fun hp => ⟨_, (acons (gs_t hp) anil), okV_r h2.up ⟨rfl, rfl, rfl⟩⟩) ?_
  refine RG.gs rfl rfl rfl (fun hp => (PV.not rfl (gs_t hp))) ?_
  refine RG.pv rfl (PV.pickO rfl rfl rfl (fun hq => gs_t (geqF hq))) ?_
  refine RG.pv rfl (PV.mvB (.inl rfl) rfl) ?_
  refine RG.gs rfl rfl rfl (fun hp => (PV.field rfl Fo37_0 rfl)) ?_
  refine RG.gs rfl rfl rfl (fun hp => (PV.load1 rfl Sc2 (gs_t hp) (Rd.blk rfl))) ?_
  refine RG.gs rfl rfl rfl (fun hp => (PV.field rfl Fo33_0 rfl)) ?_
  refine RG.gs rfl rfl rfl (fun hp => (PV.load1 rfl Sc31 (gs_t hp) (Rd.blk rfl))) ?_
  refine RG.gs rfl rfl rfl (fun hp => (PV.len rfl Tryz.underlying31 (gs_t hp) (SlF.r h1))) ?_
  refine RG.gs rfl rfl rfl (fun hp => (PV.geq rfl (gs_t hp) (gs_t hp))) ?_
  refine RG.pv rfl (PV.pickO rfl rfl rfl (fun hq => gs_t (geqF hq))) ?_
  refine RG.nil ?_
  refine WP.cond rfl (fun h3 => ?_) (fun h3 => ?_)
  · rw [violE_bad (v := erV v) h3] at k
    refine WP.seq ?_
    refine WP.region ?_
    refine RG.pv rfl (PV.mvI (.inr rfl) rfl) ?_
    refine RG.nil ?_
    refine WP.ret ?_
    exact ⟨_, _, ResV.one rfl rfl, Cv.p, k⟩
  · obtain ⟨e, q1, q2, q3⟩ := violE_good (v := erV v) h3
    obtain ⟨hreg, hne, q4, _⟩ := okV_reg q2
    have hv : 0 ≤ v.rule ∧ v.rule < d.rules.xs.length := ⟨q4, q3⟩
    have hr : validRule (gd d.rules.xs v.rule.toNat) = true := deck_rule q1 (by omega)
    rw [e] at k
    refine WP.skip ?_
    refine WP.seq ?_
    refine WP.regionQ (by kernel_rfl) (by kernel_rfl) ?_
    refine RQ.pv rfl (PV.field rfl Fo33_0 rfl) ?_
    refine RQ.pv rfl (PV.load1 rfl Sc31 rfl (Rd.blk rfl)) ?_
    refine RQ.pv rfl (PV.field rfl Fo37_0 rfl) ?_
    refine RQ.pv rfl (PV.load1 rfl Sc2 rfl (Rd.blk rfl)) ?_
    refine RQ.pv rfl (PV.idxS (j := v.rule.toNat) rfl Is31 rfl (SlF.r h1) rfl (by omega) (by omega)) ?_
    refine RQ.pv rfl (PV.loadE rfl Ag52 rfl rfl (El.r h1 (getG (by omega)))) ?_
    refine RQ.pv rfl (PV.field rfl Fo37_1 rfl) ?_
    refine RQ.pv rfl (PV.load1 rfl Sc35 rfl (Rd.blk rfl)) ?_
    refine RQ.callF (vs := [_, _]) rfl rfl En62 rfl (l22Sig_s h2.up hr hreg hne ⟨rfl, rfl, rfl⟩) ?_
    refine RQ.pv rfl (PV.mvI (.inr rfl) rfl) ?_
    refine RQ.nil ?_
    refine WP.ret ?_
    exact ⟨_, _, ResV.one rfl rfl, Cv.p, k⟩
end Go.Proofs.YtgngpegmaceaiaaGreat
namespace Go.Proofs.YtgngpegmaceaiaaGreat
set_option linter.unusedVariables false
set_option linter.unusedSimpArgs false
open Go
set_option linter.unusedVariables false
def rLt (a b : Rect) : Bool := bif !decide (a.y0 = b.y0) then decide (a.y0 < b.y0) else bif !decide (a.x0 = b.x0) then decide (a.x0 < b.x0) else bif !decide (a.y1 = b.y1) then decide (a.y1 < b.y1) else decide (a.x1 < b.x1)
theorem rLt_iff {a b : Rect} : rLt a b = true ↔ a.y0 < b.y0 ∨ (a.y0 = b.y0 ∧ (a.x0 < b.x0 ∨ (a.x0 = b.x0 ∧ (a.y1 < b.y1 ∨ (a.y1 = b.y1 ∧ a.x1 < b.x1))))) := by
  unfold rLt
  by_cases h1 : a.y0 = b.y0
  · by_cases h2 : a.x0 = b.x0
    · by_cases h3 : a.y1 = b.y1
      · simp [h1, h2, h3]
      · simp [h1, h2, h3]
    · simp [h1, h2]
  · simp [h1]
theorem rLt_trans {a b c : Rect} (h : rLt a b = true) (k : rLt b c = true) : rLt a c = true := by
  rw [rLt_iff] at *; omega
/-- p comes before q in a report -/
def befV (p q : Int × List Rect) : Bool := bif !decide (p.1 = q.1) then decide (p.1 < q.1) else rLt (gd p.2 0) (gd q.2 0) && !meetB p.2 q.2
/-- one of the last k that has q's rule, all between having it, meets q -/
def blkM (xs : List (Int × List Rect)) (q : Int × List Rect) : Nat → Bool
  | 0 => false
  | k + 1 => if (gd xs k).1 = q.1 then meetB (gd xs k).2 q.2 || blkM xs q k else false
def stepV (xs : List (Int × List Rect)) (i : Nat) : Bool := decide (i = 0) || decide ((gd xs (i - 1)).1 < (gd xs i).1) || (decide ((gd xs (i - 1)).1 = (gd xs i).1) && rLt (gd (gd xs (i - 1)).2 0) (gd (gd xs i).2 0) && !blkM xs (gd xs i) i)
theorem blkM_none {xs : List (Int × List Rect)} {q : Int × List Rect} : ∀ {k : Nat}, (∀ j, j < k → (gd xs j).1 = q.1 → meetB (gd xs j).2 q.2 = false) → blkM xs q k = false
  | 0, _ => rfl
  | k + 1, h => by
    rw [blkM]
    split
    · rename_i e; rw [h k (by omega) e, Bool.false_or]; exact blkM_none fun j hj => h j (by omega)
    · rfl
theorem blkM_at {xs : List (Int × List Rect)} {q : Int × List Rect} : ∀ {k : Nat}, blkM xs q k = false → ∀ j, j < k → (∀ m, j ≤ m → m < k → (gd xs m).1 = q.1) → meetB (gd xs j).2 q.2 = false
  | 0, _, j, hj, _ => by omega
  | k + 1, h, j, hj, hm => by
    rw [blkM, if_pos (hm k (by omega) (by omega)), Bool.or_eq_false_iff] at h
    by_cases e : j = k
    · subst e; exact h.1
    · exact blkM_at h.2 j (by omega) fun m h1 h2 => hm m h1 (by omega)
theorem befV_le {p q : Int × List Rect} (h : befV p q = true) : p.1 ≤ q.1 := by
  unfold befV at h
  by_cases e : p.1 = q.1
  · omega
  · simp [e] at h; omega
theorem befV_same {p q : Int × List Rect} (e : p.1 = q.1) : befV p q = (rLt (gd p.2 0) (gd q.2 0) && !meetB p.2 q.2) := by simp [befV, e]
theorem befV_diff {p q : Int × List Rect} (e : ¬ p.1 = q.1) : befV p q = decide (p.1 < q.1) := by simp [befV, e]
/-- each step is in order exactly if every two are -/
theorem rep_iff (xs : List (Int × List Rect)) : ∀ n, (∀ i, i < n → stepV xs i = true) ↔ (∀ i, i < n → ∀ k, k < i → befV (gd xs k) (gd xs i) = true)
  | 0 => ⟨fun _ i hi => by omega, fun _ i hi => by omega⟩
  | n + 1 => by
    have ih := rep_iff xs n
    constructor
    · intro h
      have h0 := ih.1 fun i hi => h i (by omega)
      intro i hi k hk
      by_cases e : i < n
      · exact h0 i e k hk
      · obtain rfl : i = n := by omega
        obtain ⟨m, rfl⟩ : ∃ m, i = m + 1 := ⟨i - 1, by omega⟩
        have hs := h (m + 1) (by omega)
        have hle : ∀ j, j ≤ m → (gd xs j).1 ≤ (gd xs m).1 := fun j hj => by
          by_cases e : j = m
          · rw [e]; omega
          · exact befV_le (h0 m (by omega) j (by omega))
        simp only [stepV, Nat.add_sub_cancel, Bool.or_eq_true, Bool.and_eq_true, decide_eq_true_eq, Bool.not_eq_true'] at hs
        rcases hs with (hs | hs) | ⟨⟨hs, hl⟩, hb⟩
        · omega
        · rw [befV_diff (by have := hle k (by omega); omega), decide_eq_true_eq]
          have := hle k (by omega); omega
        · by_cases er : (gd xs k).1 = (gd xs (m + 1)).1
          · have hall : ∀ j, k ≤ j → j < m + 1 → (gd xs j).1 = (gd xs (m + 1)).1 := fun j h1 h2 => by
              have a1 := hle j (by omega)
              have a2 : (gd xs k).1 ≤ (gd xs j).1 := by
                by_cases e : k = j
                · rw [e]; omega
                · exact befV_le (h0 j (by omega) k (by omega))
              omega
            have hm := blkM_at hb k (by omega) hall
            rw [befV_same er, hm]
            have hr : rLt (gd (gd xs k).2 0) (gd (gd xs (m + 1)).2 0) = true := by
              by_cases e : k = m
              · rw [e]; exact hl
              · have := h0 m (by omega) k (by omega)
                rw [befV_same (by rw [er, hs]), Bool.and_eq_true] at this
                exact rLt_trans this.1 hl
            rw [hr]; rfl
          · rw [befV_diff er, decide_eq_true_eq]
            have := hle k (by omega); omega
    · intro h i hi
      by_cases e : i < n
      · exact ih.2 (fun i hi => h i (by omega)) i e
      · obtain rfl : i = n := by omega
        simp only [stepV, Bool.or_eq_true, Bool.and_eq_true, decide_eq_true_eq, Bool.not_eq_true']
        by_cases e0 : i = 0
        · exact .inl (.inl e0)
        · have hb := h i (by omega) (i - 1) (by omega)
          by_cases er : (gd xs (i - 1)).1 = (gd xs i).1
          · rw [befV_same er, Bool.and_eq_true] at hb
            refine .inr ⟨⟨er, hb.1⟩, blkM_none fun j hj ej => ?_⟩
            have := h i (by omega) j hj
            rw [befV_same ej, Bool.and_eq_true, Bool.not_eq_true'] at this
            exact this.2
          · rw [befV_diff er, decide_eq_true_eq] at hb
            exact .inl (.inr hb)
end Go.Proofs.YtgngpegmaceaiaaGreat
namespace Go.Proofs.YtgngpegmaceaiaaGreat
set_option linter.unusedVariables false
set_option linter.unusedSimpArgs false
open Go
set_option maxRecDepth 20000
set_option linter.unusedSimpArgs false
section
variable {P : Program} {n : Nat} {ops : Array Oper} {Q : Post} {σ : Nat → Value} {G G0 : Gh} {L C0 : List Ch} {r : Sch} {oi : Oper}
theorem PV.any {P : Program} {o : Oper} {σ : Nat → Value} {G : Gh} {L : List Ch} {v : Value} (h : False) : PV P o σ G L v := h.elim
/-- a loud operation under a guard, in a drawn region -/
theorem RH.otg {i j t : Nat} {want p : Bool} (hi : ops[i]? = some oi) (hn : oi.guard = some (j, want)) (hj : (ops[j]?).bind (·.dst) = some t) (hb : σ t = .bool p) (h1 : p = want → OT P n oi σ G L fun σ' G' L' => Gh.le G0 G' ∧ Pick C0 L' ∧ RH P n ops G0 C0 r Q σ' G' L')
    (h2 : ¬ p = want → Gh.le G0 G ∧ Pick C0 L ∧ RH P n ops G0 C0 r Q (updo σ oi.dst undef) G L) : RH P n ops G0 C0 (.l i r) Q σ G L :=
  RH.of fun q1 q2 ls a w hb' ha hs => by
    simp only [schB, Bool.and_eq_true, beq_iff_eq] at hb'
    refine wpAnyH_all hb'.1 (by simp) fun x hx => ?_
    obtain rfl : x = i := by simpa using hx
    unfold wpOp
    simp only [hi]
    by_cases e : p = want
    · rw [if_pos (by simp only [Region.wanted, hn, yielded_ag ha hj hb]; simp [e])]
      exact .inl (Oper.wp_mono (fun a' w' ⟨σ', G', L', h3, h4, h5, h6, h7⟩ => ⟨h4.weak h6 h5, h7.run q1 q2 hb'.2 h3 h4⟩) (h1 e (tok_of q2 hi) a w ha hs _))
    · rw [if_neg (by simp only [Region.wanted, hn, yielded_ag ha hj hb]; cases p <;> cases want <;> simp_all)]
      obtain ⟨k1, k2, k3⟩ := h2 e
      exact ⟨hs.weak k2 k1, k3.run q1 q2 hb'.2 (ha.put (tok_of q2 hi) undef) hs⟩
end
variable {G : Gh} {L : List Ch} {R : Value → Gh → List Ch → Prop}
theorem rectLess_s {a b : Rect} (k : R (.bool (rLt a b)) G L) : CallT Tryz.prog 235 #[vrect a, vrect b] G L R := by
  unfold rLt at k
  refine CallT.enter (args := _) Tryz.func235 rfl rfl (by kernel_rfl) rfl ?_
  refine WP.seq ?_
  refine WP.region ?_
  refine RG.ot rfl (OT.box (cs := rectT.enc a) rfl rfl rfl fun b2 => ?_)
  refine RG.ot rfl (OT.box (cs := rectT.enc b) rfl rfl rfl fun b3 => ?_)
  refine RG.pv rfl (PV.mvB (.inr rfl) rfl) ?_
  refine RG.nil ?_
  refine WP.seq ?_
  refine WP.seq ?_
  refine WP.region ?_
  refine RG.pv rfl (PV.field rfl Fo101_1 rfl) ?_
  refine RG.pv rfl (PV.load1 rfl Sc2 rfl (Rd.blk rfl)) ?_
  refine RG.pv rfl (PV.field rfl Fo101_1 rfl) ?_
  refine RG.pv rfl (PV.load1 rfl Sc2 rfl (Rd.blk rfl)) ?_
  refine RG.pv rfl (PV.neq rfl rfl rfl) ?_
  refine RG.nil ?_
  refine WP.cond rfl (fun h1 => ?_) (fun h1 => ?_)
  · rw [h1, cond_true] at k
    refine WP.seq ?_
    refine WP.region ?_
    refine RG.pv rfl (PV.field rfl Fo101_1 rfl) ?_
    refine RG.pv rfl (PV.load1 rfl Sc2 rfl (Rd.blk rfl)) ?_
    refine RG.pv rfl (PV.field rfl Fo101_1 rfl) ?_
    refine RG.pv rfl (PV.load1 rfl Sc2 rfl (Rd.blk rfl)) ?_
    refine RG.pv rfl (PV.lss rfl rfl rfl) ?_
    refine RG.pv rfl (PV.mvB (.inr rfl) rfl) ?_
    refine RG.nil ?_
    refine WP.ret ?_
    exact ⟨_, _, ResV.one rfl rfl, Cv.p, k⟩
  · rw [h1, cond_false] at k
    refine WP.skip ?_
    refine WP.seq ?_
    refine WP.seq ?_
    refine WP.region ?_
    refine RG.pv rfl (PV.field rfl Fo101_0 rfl) ?_
    refine RG.pv rfl (PV.load1 rfl Sc2 rfl (Rd.blk rfl)) ?_
    refine RG.pv rfl (PV.field rfl Fo101_0 rfl) ?_
    refine RG.pv rfl (PV.load1 rfl Sc2 rfl (Rd.blk rfl)) ?_
    refine RG.pv rfl (PV.neq rfl rfl rfl) ?_
    refine RG.nil ?_
    refine WP.cond rfl (fun h2 => ?_) (fun h2 => ?_)
    · rw [h2, cond_true] at k
      refine WP.seq ?_
      refine WP.region ?_
      refine RG.pv rfl (PV.field rfl Fo101_0 rfl) ?_
      refine RG.pv rfl (PV.load1 rfl Sc2 rfl (Rd.blk rfl)) ?_
      refine RG.pv rfl (PV.field rfl Fo101_0 rfl) ?_
      refine RG.pv rfl (PV.load1 rfl Sc2 rfl (Rd.blk rfl)) ?_
      refine RG.pv rfl (PV.lss rfl rfl rfl) ?_
      refine RG.pv rfl (PV.mvB (.inr rfl) rfl) ?_
      refine RG.nil ?_
      refine WP.ret ?_
      exact ⟨_, _, ResV.one rfl rfl, Cv.p, k⟩
    · rw [h2, cond_false] at k
      refine WP.skip ?_
      refine WP.seq ?_
      refine WP.seq ?_
      refine WP.region ?_
      refine RG.pv rfl (PV.field rfl Fo101_3 rfl) ?_
      refine RG.pv rfl (PV.load1 rfl Sc2 rfl (Rd.blk rfl)) ?_
      refine RG.pv rfl (PV.field rfl Fo101_3 rfl) ?_
      refine RG.pv rfl (PV.load1 rfl Sc2 rfl (Rd.blk rfl)) ?_
      refine RG.pv rfl (PV.neq rfl rfl rfl) ?_
      refine RG.nil ?_
      refine WP.cond rfl (fun h3 => ?_) (fun h3 => ?_)
      · rw [h3, cond_true] at k
        refine WP.seq ?_
        refine WP.region ?_
        refine RG.pv rfl (PV.field rfl Fo101_3 rfl) ?_
        refine RG.pv rfl (PV.load1 rfl Sc2 rfl (Rd.blk rfl)) ?_
        refine RG.pv rfl (PV.field rfl Fo101_3 rfl) ?_
        refine RG.pv rfl (PV.load1 rfl Sc2 rfl (Rd.blk rfl)) ?_
        refine RG.pv rfl (PV.lss rfl rfl rfl) ?_
        refine RG.pv rfl (PV.mvB (.inr rfl) rfl) ?_
        refine RG.nil ?_
        refine WP.ret ?_
        exact ⟨_, _, ResV.one rfl rfl, Cv.p, k⟩
      · rw [h3, cond_false] at k
        refine WP.skip ?_
        refine WP.seq ?_
        refine WP.region ?_
        refine RG.pv rfl (PV.field rfl Fo101_2 rfl) ?_
        refine RG.pv rfl (PV.load1 rfl Sc2 rfl (Rd.blk rfl)) ?_
        refine RG.pv rfl (PV.field rfl Fo101_2 rfl) ?_
        refine RG.pv rfl (PV.load1 rfl Sc2 rfl (Rd.blk rfl)) ?_
        refine RG.pv rfl (PV.lss rfl rfl rfl) ?_
        refine RG.pv rfl (PV.mvB (.inr rfl) rfl) ?_
        refine RG.nil ?_
        refine WP.ret ?_
        exact ⟨_, _, ResV.one rfl rfl, Cv.p, k⟩
theorem l04Op_s {v u : Value} {xs ys : List Rect} {op : Int} (h1 : Rs G L rectT v xs) (h2 : Rs G L rectT u ys) (hv1 : validRs xs = true) (hv2 : validRs ys = true) (hop : 0 ≤ op ∧ op ≤ 15) (k : ∀ v', R v' G (osl 101 rectT v' (canon (zipB (opF op) (bits xs) (bits ys))) :: L)) : CallT Tryz.prog 161 #[v, u, vi op] G L R := by
  refine CallT.enter (args := _) Tryz.func161 rfl rfl (by kernel_rfl) rfl ?_
  refine WP.seq ?_
  refine WP.region ?_
  refine RG.pv rfl (PV.asg rfl rfl) ?_
  refine RG.nil ?_
  refine WP.seq ?_
  refine WP.region ?_
  refine RG.pv rfl (PV.move (v := v) rfl rfl) ?_
  refine RG.callF (vs := [v]) rfl rfl En134 rfl (l03Bits_s (Rs.up h1) (fun j hj => valid_get hv1 hj) (fun v8 => ?_))
  refine RG.pv rfl (PV.move (v := u) rfl rfl) ?_
  refine RG.callF (vs := [u]) rfl rfl En134 rfl (l03Bits_s (Rs.up h2) (fun j hj => valid_get hv2 hj) (fun v10 => ?_))
  refine RG.pv rfl (PV.mvI (.inl rfl) rfl) ?_
  refine RG.callF (vs := [v8, v10, _]) rfl rfl En212 rfl (l04Combine_s Rs.o Rs.o (bits_length _) (bits_length _) hop (fun v12 => ?_))
  refine RG.callF (vs := [v12]) rfl rfl En133 rfl (l03Canon_s Rs.o (zipB_len (bits_length _) (bits_length _)) (fun v13 => ?_))
  refine RG.pv rfl (PV.asg (v := v13) rfl rfl) ?_
  refine RG.nil ?_
  refine WP.ret ?_
  exact ⟨_, _, ResV.one rfl rfl, Cv.p, k v13⟩
theorem meet_canon {a b : List Rect} (ha : validRs a = true) (hb : validRs b = true) : decide (((canon (zipB (opF 8) (bits a) (bits b))).length : Int) = 0) = !meetB a b := by
  have hl : (zipB (opF 8) (bits a) (bits b)).length = 6400 := zipB_len (bits_length _) (bits_length _)
  have hg : ∀ y x, y < 80 → x < 80 → gb (zipB (opF 8) (bits a) (bits b)) y x = (gb (bits a) y x && gb (bits b) y x) := fun y x hy hx => by
    rw [gb_zip (bits_length _) (bits_length _) hy hx, opF_and]
  rw [Bool.eq_iff_iff, decide_eq_true_iff, Bool.not_eq_true', ← Bool.not_eq_true, meetB_iff ha hb]
  constructor
  · rintro h0 ⟨y, x, hy, hx, h1, h2⟩
    have hb2 : gb (bits (canon (zipB (opF 8) (bits a) (bits b)))) y x = true := by rw [bits_canon hl, hg y x hy hx, h1, h2]; rfl
    obtain ⟨r, hr, _⟩ := (gb_bits_iff hy hx).1 hb2
    have := List.length_pos_of_mem hr
    omega
  · intro hn
    rcases Nat.eq_zero_or_pos (canon (zipB (opF 8) (bits a) (bits b))).length with e | e
    · omega
    · exfalso
      have hm : gd (canon (zipB (opF 8) (bits a) (bits b))) 0 ∈ canon (zipB (opF 8) (bits a) (bits b)) := by rw [gd_eq e]; exact List.getElem_mem _
      obtain ⟨y, x, hy, hx, hi⟩ := valid_cell (valid_mem (isReg_valid (isReg_canon hl)) hm)
      have hb2 := (gb_bits_iff hy hx).2 ⟨_, hm, hi⟩
      rw [bits_canon hl, hg y x hy hx, Bool.and_eq_true] at hb2
      exact hn ⟨y, x, hy, hx, hb2.1, hb2.2⟩
theorem before_s {p q : Viol} (h1 : Rs G L rectT p.marker.v p.marker.xs) (h2 : Rs G L rectT q.marker.v q.marker.xs) (hp : okV (erV p) = true) (hq : okV (erV q) = true) (k : R (.bool (befV (erV p) (erV q))) G L) : CallT Tryz.prog 203 #[vT violT p, vT violT q] G L R := by
  obtain ⟨hp1, hp2, _⟩ := okV_reg hp
  obtain ⟨hq1, hq2, _⟩ := okV_reg hq
  have hp1 : isReg p.marker.xs = true := hp1
  have hq1 : isReg q.marker.xs = true := hq1
  have hp2 : 0 < p.marker.xs.length := hp2
  have hq2 : 0 < q.marker.xs.length := hq2
  have hv1 := isReg_valid hp1
  have hv2 := isReg_valid hq1
  have hmc := meet_canon hv1 hv2
  cases g : rLt (gd p.marker.xs 0) (gd q.marker.xs 0)
  · skip
    refine CallT.enter (args := _) Tryz.func203 rfl rfl (by kernel_rfl) rfl ?_
    refine WP.seq ?_
    refine WP.region ?_
    refine RG.ot rfl (OT.box (cs := violT.enc p) rfl rfl rfl fun b2 => ?_)
    refine RG.ot rfl (OT.box (cs := violT.enc q) rfl rfl rfl fun b3 => ?_)
    refine RG.pv rfl (PV.mvB (.inr rfl) rfl) ?_
    refine RG.nil ?_
    refine WP.seq ?_
    refine WP.seq ?_
    refine WP.region ?_
    refine RG.pv rfl (PV.field rfl Fo37_0 rfl) ?_
    refine RG.pv rfl (PV.load1 rfl Sc2 rfl (Rd.blk rfl)) ?_
    refine RG.pv rfl (PV.field rfl Fo37_0 rfl) ?_
    refine RG.pv rfl (PV.load1 rfl Sc2 rfl (Rd.blk rfl)) ?_
    refine RG.pv rfl (PV.neq rfl rfl rfl) ?_
    refine RG.nil ?_
    refine WP.cond rfl (fun h3 => ?_) (fun h3 => ?_)
    · have e : befV (erV p) (erV q) = decide (p.rule < q.rule) := befV_diff (by simpa [erV] using h3)
      rw [e] at k
      refine WP.seq ?_
      refine WP.region ?_
      refine RG.pv rfl (PV.field rfl Fo37_0 rfl) ?_
      refine RG.pv rfl (PV.load1 rfl Sc2 rfl (Rd.blk rfl)) ?_
      refine RG.pv rfl (PV.field rfl Fo37_0 rfl) ?_
      refine RG.pv rfl (PV.load1 rfl Sc2 rfl (Rd.blk rfl)) ?_
      refine RG.pv rfl (PV.lss rfl rfl rfl) ?_
      refine RG.pv rfl (PV.mvB (.inr rfl) rfl) ?_
      refine RG.nil ?_
      refine WP.ret ?_
      exact ⟨_, _, ResV.one rfl rfl, Cv.p, k⟩
    · have e : befV (erV p) (erV q) = (rLt (gd p.marker.xs 0) (gd q.marker.xs 0) && !meetB p.marker.xs q.marker.xs) := befV_same (by simpa [erV] using h3)
      rw [e] at k
      refine WP.skip ?_
      refine WP.seq ?_
      refine WP.regionH0 (.q 0 (.q 1 (.q 2 (.q 3 (.q 4 (.q 5 (.q 6 (.q 7 (.l 8 (.q 9 (.q 10 (.q 11 (.q 12 (.q 13 (.l 14 (.q 15 (.q 16 (.q 17 (.q 18 Sch.nil))))))))))))))))))) (by kernel_rfl) (by kernel_rfl) (by kernel_rfl) rfl ?_
      refine RH.pv rfl (fun _ _ _ _ h => h) (Gh.le_refl _) PickC.pick rfl (PV.field rfl Fo37_1 rfl) ?_
      refine RH.pv rfl (fun _ _ _ _ h => h) (Gh.le_refl _) PickC.pick rfl (PV.load1 rfl Sc35 rfl (Rd.blk rfl)) ?_
      refine RH.pv rfl (fun _ _ _ _ h => h) (Gh.le_refl _) PickC.pick rfl (PV.idxS (j := 0) rfl Is35 rfl (SlF.r h1) rfl (by omega) (by omega)) ?_
      refine RH.pv rfl (fun _ _ _ _ h => h) (Gh.le_refl _) PickC.pick rfl (PV.loadE rfl Ag101 rfl rfl (El.r h1 (getG (by omega)))) ?_
      refine RH.pv rfl (fun _ _ _ _ h => h) (Gh.le_refl _) PickC.pick rfl (PV.field rfl Fo37_1 rfl) ?_
      refine RH.pv rfl (fun _ _ _ _ h => h) (Gh.le_refl _) PickC.pick rfl (PV.load1 rfl Sc35 rfl (Rd.blk rfl)) ?_
      refine RH.pv rfl (fun _ _ _ _ h => h) (Gh.le_refl _) PickC.pick rfl (PV.idxS (j := 0) rfl Is35 rfl (SlF.r h2) rfl (by omega) (by omega)) ?_
      refine RH.pv rfl (fun _ _ _ _ h => h) (Gh.le_refl _) PickC.pick rfl (PV.loadE rfl Ag101 rfl rfl (El.r h2 (getG (by omega)))) ?_
      refine RH.ot rfl rfl (OT.callF (vs := [_, _]) rfl En235 rfl (rectLess_s ⟨Gh.le_refl _, PickC.pick, ?_⟩))
      refine RH.pv rfl (fun _ _ _ _ h => h) (Gh.le_refl _) PickC.pick rfl (PV.mvB (.inl rfl) rfl) ?_
      refine RH.gs rfl (fun _ _ _ _ h => h) (Gh.le_refl _) PickC.pick rfl rfl rfl (fun hp => (PV.field rfl Fo37_1 rfl)) ?_
      refine RH.gs rfl (fun _ _ _ _ h => h) (Gh.le_refl _) PickC.pick rfl rfl rfl (fun hp => (PV.load1 rfl Sc35 (gs_t hp) (Rd.blk rfl))) ?_
      refine RH.gs rfl (fun _ _ _ _ h => h) (Gh.le_refl _) PickC.pick rfl rfl rfl (fun hp => (PV.field rfl Fo37_1 rfl)) ?_
      refine RH.gs rfl (fun _ _ _ _ h => h) (Gh.le_refl _) PickC.pick rfl rfl rfl (fun hp => (PV.load1 rfl Sc35 (gs_t hp) (Rd.blk rfl))) ?_
      refine RH.otg rfl rfl rfl rfl (fun hh => absurd (hh.symm.trans g) (by decide)) (fun _ => ⟨Gh.le_refl _, PickC.pick, ?_⟩)
      refine RH.gs rfl (fun _ _ _ _ h => h) (Gh.le_refl _) PickC.pick rfl rfl rfl (fun hp => (PV.any (v := vi 0) (absurd (g.symm.trans (beq_iff_eq.1 hp)) (by decide)))) ?_
      refine RH.gs rfl (fun _ _ _ _ h => h) (Gh.le_refl _) PickC.pick rfl rfl rfl (fun hp => (PV.any (v := .bool false) (absurd (g.symm.trans (beq_iff_eq.1 hp)) (by decide)))) ?_
      refine RH.pv rfl (fun _ _ _ _ h => h) (Gh.le_refl _) PickC.pick rfl (PV.pickA rfl rfl (fun hq => gs_t (geqT hq)) rfl) ?_
      refine RH.pv rfl (fun _ _ _ _ h => h) (Gh.le_refl _) PickC.pick rfl (PV.mvB (.inr rfl) rfl) ?_
      refine RH.nil ?_
      refine WP.ret ?_
      rw [show (rLt (gd p.marker.xs 0) (gd q.marker.xs 0) && !meetB p.marker.xs q.marker.xs) = (rLt (gd p.marker.xs 0) (gd q.marker.xs 0) && false) by rw [g]; rfl] at k
      exact ⟨_, _, ResV.one rfl rfl, Cv.p, k⟩
  · skip
    refine CallT.enter (args := _) Tryz.func203 rfl rfl (by kernel_rfl) rfl ?_
    refine WP.seq ?_
    refine WP.region ?_
    refine RG.ot rfl (OT.box (cs := violT.enc p) rfl rfl rfl fun b2 => ?_)
    refine RG.ot rfl (OT.box (cs := violT.enc q) rfl rfl rfl fun b3 => ?_)
    refine RG.pv rfl (PV.mvB (.inr rfl) rfl) ?_
    refine RG.nil ?_
    refine WP.seq ?_
    refine WP.seq ?_
    refine WP.region ?_
    refine RG.pv rfl (PV.field rfl Fo37_0 rfl) ?_
    refine RG.pv rfl (PV.load1 rfl Sc2 rfl (Rd.blk rfl)) ?_
    refine RG.pv rfl (PV.field rfl Fo37_0 rfl) ?_
    refine RG.pv rfl (PV.load1 rfl Sc2 rfl (Rd.blk rfl)) ?_
    refine RG.pv rfl (PV.neq rfl rfl rfl) ?_
    refine RG.nil ?_
    refine WP.cond rfl (fun h3 => ?_) (fun h3 => ?_)
    · have e : befV (erV p) (erV q) = decide (p.rule < q.rule) := befV_diff (by simpa [erV] using h3)
      rw [e] at k
      refine WP.seq ?_
      refine WP.region ?_
      refine RG.pv rfl (PV.field rfl Fo37_0 rfl) ?_
      refine RG.pv rfl (PV.load1 rfl Sc2 rfl (Rd.blk rfl)) ?_
      refine RG.pv rfl (PV.field rfl Fo37_0 rfl) ?_
      refine RG.pv rfl (PV.load1 rfl Sc2 rfl (Rd.blk rfl)) ?_
      refine RG.pv rfl (PV.lss rfl rfl rfl) ?_
      refine RG.pv rfl (PV.mvB (.inr rfl) rfl) ?_
      refine RG.nil ?_
      refine WP.ret ?_
      exact ⟨_, _, ResV.one rfl rfl, Cv.p, k⟩
    · have e : befV (erV p) (erV q) = (rLt (gd p.marker.xs 0) (gd q.marker.xs 0) && !meetB p.marker.xs q.marker.xs) := befV_same (by simpa [erV] using h3)
      rw [e] at k
      refine WP.skip ?_
      refine WP.seq ?_
      refine WP.regionH0 (.q 0 (.q 1 (.q 2 (.q 3 (.q 4 (.q 5 (.q 6 (.q 7 (.l 8 (.q 9 (.q 10 (.q 11 (.q 12 (.q 13 (.l 14 (.q 15 (.q 16 (.q 17 (.q 18 Sch.nil))))))))))))))))))) (by kernel_rfl) (by kernel_rfl) (by kernel_rfl) rfl ?_
      refine RH.pv rfl (fun _ _ _ _ h => h) (Gh.le_refl _) PickC.pick rfl (PV.field rfl Fo37_1 rfl) ?_
      refine RH.pv rfl (fun _ _ _ _ h => h) (Gh.le_refl _) PickC.pick rfl (PV.load1 rfl Sc35 rfl (Rd.blk rfl)) ?_
      refine RH.pv rfl (fun _ _ _ _ h => h) (Gh.le_refl _) PickC.pick rfl (PV.idxS (j := 0) rfl Is35 rfl (SlF.r h1) rfl (by omega) (by omega)) ?_
      refine RH.pv rfl (fun _ _ _ _ h => h) (Gh.le_refl _) PickC.pick rfl (PV.loadE rfl Ag101 rfl rfl (El.r h1 (getG (by omega)))) ?_
      refine RH.pv rfl (fun _ _ _ _ h => h) (Gh.le_refl _) PickC.pick rfl (PV.field rfl Fo37_1 rfl) ?_
      refine RH.pv rfl (fun _ _ _ _ h => h) (Gh.le_refl _) PickC.pick rfl (PV.load1 rfl Sc35 rfl (Rd.blk rfl)) ?_
      refine RH.pv rfl (fun _ _ _ _ h => h) (Gh.le_refl _) PickC.pick rfl (PV.idxS (j := 0) rfl Is35 rfl (SlF.r h2) rfl (by omega) (by omega)) ?_
      refine RH.pv rfl (fun _ _ _ _ h => h) (Gh.le_refl _) PickC.pick rfl (PV.loadE rfl Ag101 rfl rfl (El.r h2 (getG (by omega)))) ?_
      refine RH.ot rfl rfl (OT.callF (vs := [_, _]) rfl En235 rfl (rectLess_s ⟨Gh.le_refl _, PickC.pick, ?_⟩))
      refine RH.pv rfl (fun _ _ _ _ h => h) (Gh.le_refl _) PickC.pick rfl (PV.mvB (.inl rfl) rfl) ?_
      refine RH.gs rfl (fun _ _ _ _ h => h) (Gh.le_refl _) PickC.pick rfl rfl rfl (fun hp => (PV.field rfl Fo37_1 rfl)) ?_
      refine RH.gs rfl (fun _ _ _ _ h => h) (Gh.le_refl _) PickC.pick rfl rfl rfl (fun hp => (PV.load1 rfl Sc35 (gs_t hp) (Rd.blk rfl))) ?_
      refine RH.gs rfl (fun _ _ _ _ h => h) (Gh.le_refl _) PickC.pick rfl rfl rfl (fun hp => (PV.field rfl Fo37_1 rfl)) ?_
      refine RH.gs rfl (fun _ _ _ _ h => h) (Gh.le_refl _) PickC.pick rfl rfl rfl (fun hp => (PV.load1 rfl Sc35 (gs_t hp) (Rd.blk rfl))) ?_
      refine RH.otg rfl rfl rfl rfl (fun hh => have hp := beq_iff_eq.2 hh; OT.callF (vs := [_, _, _]) rfl En161 (acons (gs_t hp) (acons (gs_t hp) (acons rfl anil))) (l04Op_s h1.up h2.up hv1 hv2 (by omega) (fun v29 => ⟨Gh.le_refl _, PickC.pick, ?_⟩))) (fun hh => absurd g hh)
      refine RH.up1 ?_
      refine RH.gs rfl (fun _ _ _ _ h => h) (Gh.le_refl _) PickC.pick rfl rfl rfl (fun hp => (PV.len (v := v29) rfl Tryz.underlying35 rfl SlF.o)) ?_
      refine RH.gs rfl (fun _ _ _ _ h => h) (Gh.le_refl _) PickC.pick rfl rfl rfl (fun hp => (PV.eql rfl (gs_t hp) rfl)) ?_
      refine RH.pv rfl (fun _ _ _ _ h => h) (Gh.le_refl _) PickC.pick rfl (PV.pickA rfl rfl (fun hq => gs_t (geqT hq)) rfl) ?_
      refine RH.pv rfl (fun _ _ _ _ h => h) (Gh.le_refl _) PickC.pick rfl (PV.mvB (.inr rfl) rfl) ?_
      refine RH.nil ?_
      refine WP.ret ?_
      rw [← hmc] at k
      exact ⟨_, _, ResV.one rfl rfl, Cv.p, k⟩
end Go.Proofs.YtgngpegmaceaiaaGreat
namespace Go.Proofs.YtgngpegmaceaiaaGreat
set_option linter.unusedVariables false
set_option linter.unusedSimpArgs false
open Go
set_option maxRecDepth 20000
set_option linter.unusedSimpArgs false
variable {G : Gh} {L : List Ch} {R : Value → Gh → List Ch → Prop}
theorem cmpR_ge (a b : Rect) : decide (0 ≤ cmpR a b) = !rLt a b := by
  rw [Bool.eq_iff_iff, decide_eq_true_iff, Bool.not_eq_true', ← Bool.not_eq_true, rLt_iff]
  simp only [cmpR, orI, cmpI]
  repeat' split
  all_goals omega
noncomputable def repAt (E : List (Int × List Rect)) (i : Nat) : Bool := okV (gd E i) && stepV E i
noncomputable def repOk (E : List (Int × List Rect)) : Bool := decide (E.length ≤ 256) && decide (∀ i, i < E.length → repAt E i = true)
theorem rep_false {E : List (Int × List Rect)} {i : Nat} (h : i < E.length) (e : repAt E i = false) : repOk E = false := by
  simp only [repOk, Bool.and_eq_false_iff, decide_eq_false_iff_not]
  exact .inr fun hh => by rw [hh i h] at e; cases e
theorem rep_all {E : List (Int × List Rect)} (hl : E.length ≤ 256) (h : ∀ i, i < E.length → repAt E i = true) : repOk E = true := by
  simp only [repOk, decide_eq_true h, Bool.and_true, decide_eq_true_eq]; exact hl
theorem rep_okV {E : List (Int × List Rect)} (h : repOk E = true) {i : Nat} (hi : i < E.length) : okV (gd E i) = true := by
  simp only [repOk, Bool.and_eq_true, decide_eq_true_eq] at h
  have := h.2 i hi; simp only [repAt, Bool.and_eq_true] at this; exact this.1
theorem rep_len {E : List (Int × List Rect)} (h : repOk E = true) : E.length ≤ 256 := by
  simp only [repOk, Bool.and_eq_true, decide_eq_true_eq] at h; exact h.1
theorem rep_pairs {E : List (Int × List Rect)} (hl : E.length ≤ 256) (h : ∀ i, i < E.length → okV (gd E i) = true ∧ ∀ j, j < i → befV (gd E j) (gd E i) = true) : repOk E = true := by
  have := (rep_iff E E.length).2 fun i hi => (h i hi).2
  exact rep_all hl fun i hi => by rw [repAt, (h i hi).1, this i hi]; rfl
theorem rep_pair_false {E : List (Int × List Rect)} {i j : Nat} (hi : i < E.length) (hj : j < i) (e : befV (gd E j) (gd E i) = false) : repOk E = false := by
  cases h : repOk E with
  | false => rfl
  | true =>
    simp only [repOk, Bool.and_eq_true, decide_eq_true_eq] at h
    have := (rep_iff E E.length).1 (fun i hi => by have := h.2 i hi; simp only [repAt, Bool.and_eq_true] at this; exact this.2) i hi j hj
    rw [e] at this; cases this
theorem report_r {v : Value} {xs : List Viol} (h1 : Rs G L violT v xs) (hd : RsE G L rectT (mks xs)) (k : R (.bool (repOk (erVs xs))) G L) : CallT Tryz.prog 146 #[v] G L R := by
  refine CallT.bd h1 fun hb => ?_
  have hel := erVs_len xs
  refine CallT.enter (args := _) Tryz.func146 rfl rfl (by kernel_rfl) rfl ?_
  refine WP.seq ?_
  refine WP.region ?_
  refine RG.pv rfl (PV.mvB (.inr rfl) rfl) ?_
  refine RG.nil ?_
  refine WP.seq ?_
  refine WP.seq ?_
  refine WP.region ?_
  refine RG.pv rfl (PV.move (v := v) rfl rfl) ?_
  refine RG.pv rfl (PV.len (v := v) rfl Tryz.underlying66 rfl (SlF.r h1)) ?_
  refine RG.pv rfl (PV.gtr rfl rfl rfl) ?_
  refine RG.nil ?_
  refine WP.cond rfl (fun h2 => ?_) (fun h2 => ?_)
  · have h2 := of_decide_eq_true h2
    have e : repOk (erVs xs) = false := by
      have : ¬ (erVs xs).length ≤ 256 := by omega
      simp [repOk, this]
    rw [e] at k
    refine WP.seq ?_
    refine WP.region ?_
    refine RG.pv rfl (PV.mvB (.inr rfl) rfl) ?_
    refine RG.nil ?_
    refine WP.ret ?_
    exact ⟨_, _, ResV.one rfl rfl, Cv.p, k⟩
  · have h2 := of_decide_eq_false h2
    refine WP.skip ?_
    refine WP.seq ?_
    refine WP.seq ?_
    refine WP.region ?_
    refine RG.pv rfl (PV.mvI (.inr rfl) rfl) ?_
    refine RG.nil ?_
    refine WP.block ?_
    refine WP.loop1 [0] (fun i => i ≤ xs.length ∧ ∀ j, j < i → okV (gd (erVs xs) j) = true ∧ ∀ m, m < j → befV (gd (erVs xs) m) (gd (erVs xs) j) = true) (fun i => [(3, vi i)]) (fun i => L) (fun i => xs.length - i) 0 ⟨by omega, fun j h => by omega⟩ ⟨rfl, trivial⟩ Cv.p ?_
    rintro i τ ⟨hi, hj⟩
    refine WP.seq ?_
    refine WP.seq ?_
    refine WP.region ?_
    refine RG.pv rfl (PV.mvI (.inl rfl) rfl) ?_
    refine RG.pv rfl (PV.move (v := v) rfl rfl) ?_
    refine RG.pv rfl (PV.len (v := v) rfl Tryz.underlying66 rfl (SlF.r h1)) ?_
    refine RG.pv rfl (PV.lss rfl rfl rfl) ?_
    refine RG.nil ?_
    refine WP.cond rfl (fun h3 => ?_) (fun h3 => ?_)
    · have h3 := of_decide_eq_true h3
      have hei := erVs_gd (xs := xs) (i := i) (by omega)
      refine WP.skip ?_
      refine WP.seq ?_
      refine WP.block ?_
      refine WP.seq ?_
      refine WP.seq ?_
      refine WP.region ?_
      refine RG.pv rfl (PV.move (v := v) rfl rfl) ?_
      refine RG.pv rfl (PV.mvI (.inl rfl) rfl) ?_
      refine RG.pv rfl (PV.idxS (v := v) rfl Is66 rfl (SlF.r h1) rfl rfl (by omega)) ?_
      refine RG.pv rfl (PV.loadE rfl Ag37 rfl rfl (El.r h1 (getG (by omega)))) ?_
      refine RG.callF (vs := [_]) rfl rfl En61 rfl (okV_r (hd.marker (by omega)).up ?_)
      refine RG.pv rfl (PV.not rfl rfl) ?_
      refine RG.nil ?_
      refine WP.cond rfl (fun h4 => ?_) (fun h4 => ?_)
      · have e : repAt (erVs xs) i = false := by
          have : okV (erV (gd xs i)) = false := by simpa using h4
          rw [repAt, hei, this]; rfl
        rw [rep_false (by omega) e] at k
        refine WP.seq ?_
        refine WP.region ?_
        refine RG.pv rfl (PV.mvB (.inr rfl) rfl) ?_
        refine RG.nil ?_
        refine WP.ret ?_
        exact ⟨_, _, ResV.one rfl rfl, Cv.p, k⟩
      · have hok : okV (gd (erVs xs) i) = true := by rw [hei]; simpa using h4
        have hokj : ∀ j, j < i → okV (gd (erVs xs) j) = true := fun j h => (hj j h).1
        refine WP.skip ?_
        refine WP.seq ?_
        refine WP.region ?_
        refine RG.pv rfl (PV.mvI (.inr rfl) rfl) ?_
        refine RG.nil ?_
        refine WP.block ?_
        refine WP.loop1 [0, 3] (fun j => j ≤ i ∧ ∀ m, m < j → befV (gd (erVs xs) m) (gd (erVs xs) i) = true) (fun j => [(4, vi j)]) (fun j => L) (fun j => i - j) 0 ⟨by omega, fun m h => by omega⟩ ⟨rfl, trivial⟩ Cv.p ?_
        rintro j τ1 ⟨hji, hjb⟩
        refine WP.seq ?_
        refine WP.seq ?_
        refine WP.region ?_
        refine RG.pv rfl (PV.mvI (.inl rfl) rfl) ?_
        refine RG.pv rfl (PV.mvI (.inl rfl) rfl) ?_
        refine RG.pv rfl (PV.lss rfl rfl rfl) ?_
        refine RG.nil ?_
        refine WP.cond rfl (fun h5 => ?_) (fun h5 => ?_)
        · have h5 := of_decide_eq_true h5
          have hej := erVs_gd (xs := xs) (i := j) (by omega)
          refine WP.skip ?_
          refine WP.seq ?_
          refine WP.block ?_
          refine WP.seq ?_
          refine WP.regionQ (by kernel_rfl) (by kernel_rfl) ?_
          refine RQ.pv rfl (PV.move (v := v) rfl rfl) ?_
          refine RQ.pv rfl (PV.mvI (.inl rfl) rfl) ?_
          refine RQ.pv rfl (PV.idxS (v := v) rfl Is66 rfl (SlF.r h1) rfl rfl (by omega)) ?_
          refine RQ.pv rfl (PV.loadE rfl Ag37 rfl rfl (El.r h1 (getG (by omega)))) ?_
          refine RQ.pv rfl (PV.move (v := v) rfl rfl) ?_
          refine RQ.pv rfl (PV.mvI (.inl rfl) rfl) ?_
          refine RQ.pv rfl (PV.idxS (v := v) rfl Is66 rfl (SlF.r h1) rfl rfl (by omega)) ?_
          refine RQ.pv rfl (PV.loadE rfl Ag37 rfl rfl (El.r h1 (getG (by omega)))) ?_
          refine RQ.callF (vs := [_, _]) rfl rfl En203 rfl (before_s (hd.marker (by omega)).up (hd.marker (by omega)).up (by have := hokj j (by omega); rwa [erVs_gd (by omega)] at this) (by rw [erVs_gd (by omega)] at hok; exact hok) ⟨rfl, rfl, rfl⟩) ?_
          refine RQ.pv rfl (PV.not rfl rfl) ?_
          refine RQ.nil ?_
          refine WP.cond rfl (fun h6 => ?_) (fun h6 => ?_)
          · have e : befV (gd (erVs xs) j) (gd (erVs xs) i) = false := by rw [hei, hej]; simpa using h6
            rw [rep_pair_false (by omega) (by omega) e] at k
            refine WP.seq ?_
            refine WP.region ?_
            refine RG.pv rfl (PV.mvB (.inr rfl) rfl) ?_
            refine RG.nil ?_
            refine WP.ret ?_
            exact ⟨_, _, ResV.one rfl rfl, Cv.p, k⟩
          · have hjb' : ∀ m, m < j + 1 → befV (gd (erVs xs) m) (gd (erVs xs) i) = true := fun m h => by
              by_cases c : m = j
              · rw [c, hei, hej]; simpa using h6
              · exact hjb m (by omega)
            refine WP.skip ?_
            refine WP.region ?_
            refine RG.pv rfl (PV.mvI (.inl rfl) rfl) ?_
            refine RG.pv rfl (PV.add rfl rfl rfl (by omega)) ?_
            refine RG.pv rfl (PV.mvI (.inr rfl) rfl) ?_
            refine RG.nil ?_
            exact ⟨rfl, j + 1, ⟨by omega, hjb'⟩, ⟨rfl, trivial⟩, ⟨rfl, rfl, trivial⟩, Cv.p, by omega⟩
        · have h5 := of_decide_eq_false h5
          have hj' : ∀ j, j < i + 1 → okV (gd (erVs xs) j) = true ∧ ∀ m, m < j → befV (gd (erVs xs) m) (gd (erVs xs) j) = true := fun m h => by
            by_cases c : m = i
            · rw [c]; exact ⟨hok, fun q hq => hjb q (by omega)⟩
            · exact hj m (by omega)
          refine WP.exit ?_
          refine WP.region ?_
          refine RG.pv rfl (PV.mvI (.inl rfl) rfl) ?_
          refine RG.pv rfl (PV.add rfl rfl rfl (by omega)) ?_
          refine RG.pv rfl (PV.mvI (.inr rfl) rfl) ?_
          refine RG.nil ?_
          exact ⟨rfl, i + 1, ⟨by omega, hj'⟩, ⟨rfl, trivial⟩, ⟨rfl, trivial⟩, Cv.p, by omega⟩
    · have h3 := of_decide_eq_false h3
      rw [rep_pairs (by omega) (fun i hi => hj i (by omega))] at k
      refine WP.exit ?_
      refine WP.seq ?_
      refine WP.region ?_
      refine RG.pv rfl (PV.mvB (.inr rfl) rfl) ?_
      refine RG.nil ?_
      refine WP.ret ?_
      exact ⟨_, _, ResV.one rfl rfl, Cv.p, k⟩
theorem blkM_stop {E : List (Int × List Rect)} {q : Int × List Rect} {k : Nat} (h : ¬ (gd E k).1 = q.1) : blkM E q (k + 1) = false := by rw [blkM, if_neg h]
theorem blkM_go {E : List (Int × List Rect)} {q : Int × List Rect} {k : Nat} (h : (gd E k).1 = q.1) : blkM E q (k + 1) = (meetB (gd E k).2 q.2 || blkM E q k) := by rw [blkM, if_pos h]
theorem report_i {v : Value} {xs : List Viol} (h1 : Rs G L violT v xs) (hd : RsE G L rectT (mks xs)) (k : R (.bool (repOk (erVs xs))) G L) : CallT Tryz.prog 148 #[v] G L R := by
  refine CallT.bd h1 fun hb => ?_
  have hel := erVs_len xs
  refine CallT.enter (args := _) Tryz.func148 rfl rfl (by kernel_rfl) rfl ?_
  refine WP.seq ?_
  refine WP.region ?_
  refine RG.pv rfl (PV.mvB (.inr rfl) rfl) ?_
  refine RG.nil ?_
  refine WP.seq ?_
  refine WP.seq ?_
  refine WP.region ?_
  refine RG.pv rfl (PV.move (v := v) rfl rfl) ?_
  refine RG.pv rfl (PV.len (v := v) rfl Tryz.underlying66 rfl (SlF.r h1)) ?_
  refine RG.pv rfl (PV.gtr rfl rfl rfl) ?_
  refine RG.nil ?_
  refine WP.cond rfl (fun h2 => ?_) (fun h2 => ?_)
  · have h2 := of_decide_eq_true h2
    have e : repOk (erVs xs) = false := by
      have : ¬ (erVs xs).length ≤ 256 := by omega
      simp [repOk, this]
    rw [e] at k
    refine WP.seq ?_
    refine WP.region ?_
    refine RG.pv rfl (PV.mvB (.inr rfl) rfl) ?_
    refine RG.nil ?_
    refine WP.ret ?_
    exact ⟨_, _, ResV.one rfl rfl, Cv.p, k⟩
  · have h2 := of_decide_eq_false h2
    refine WP.skip ?_
    refine WP.seq ?_
    refine WP.seq ?_
    refine WP.region ?_
    refine RG.pv rfl (PV.move (v := v) rfl rfl) ?_
    refine RG.pv rfl (PV.len (v := v) rfl Tryz.underlying66 rfl (SlF.r h1)) ?_
    refine RG.pv rfl (PV.mvI (.inl rfl) rfl) ?_
    refine RG.nil ?_
    refine WP.block ?_
    refine WP.loop1 [0, 9, 10] (fun i => i ≤ xs.length ∧ ∀ j, j < i → repAt (erVs xs) j = true) (fun i => [(11, vi i)]) (fun i => L) (fun i => xs.length - i) 0 ⟨by omega, fun j h => by omega⟩ ⟨rfl, trivial⟩ Cv.p ?_
    rintro i τ ⟨hi, hj⟩
    refine WP.seq ?_
    refine WP.region ?_
    refine RG.pv rfl (PV.lss rfl rfl rfl) ?_
    refine RG.nil ?_
    refine WP.seq ?_
    refine WP.cond rfl (fun h3 => ?_) (fun h3 => ?_)
    · have h3 := of_decide_eq_true h3
      have hpr : Rs G L rectT (gd xs i).marker.v (gd xs i).marker.xs := hd.marker (by omega)
      have hei := erVs_gd (xs := xs) (i := i) (by omega)
      refine WP.skip ?_
      refine WP.seq ?_
      refine WP.block ?_
      refine WP.seq ?_
      refine WP.region ?_
      refine RG.pv rfl (PV.mvI (.inl rfl) rfl) ?_
      refine RG.pv rfl (PV.idxS (v := v) rfl Is66 rfl (SlF.r h1) rfl rfl (by omega)) ?_
      refine RG.pv rfl (PV.loadE rfl Ag37 rfl rfl (El.r h1 (getG (by omega)))) ?_
      refine RG.ot rfl (OT.alloc rfl Zr37 fun b4 => ?_)
      refine RG.pv rfl (PV.mvI (.inr rfl) rfl) ?_
      refine RG.ot rfl (OT.storeW (vs := [vi _, _]) rfl Sz37 rfl rfl (Cl.c rfl) rfl rfl (OneC.val rfl (OneC.sl (SlF.r hpr) OneC.nil)) ?_)
      refine RG.nil ?_
      refine WP.seq ?_
      refine WP.seq ?_
      refine WP.region ?_
      refine RG.pv rfl (PV.loadW rfl Ag37 rfl rfl) ?_
      refine RG.callF (vs := [_]) rfl rfl En65 rfl (okV_i (hd.marker (by omega)).up ?_)
      refine RG.pv rfl (PV.not rfl rfl) ?_
      refine RG.nil ?_
      refine WP.cond rfl (fun h4 => ?_) (fun h4 => ?_)
      · have e : repAt (erVs xs) i = false := by
          have : okV (erV (gd xs i)) = false := by simpa using h4
          rw [repAt, hei, this]; rfl
        rw [rep_false (by omega) e] at k
        refine WP.seq ?_
        refine WP.region ?_
        refine RG.pv rfl (PV.mvB (.inr rfl) rfl) ?_
        refine RG.nil ?_
        refine WP.ret ?_
        exact ⟨_, _, ResV.one rfl rfl, Cv.p, k⟩
      · have hok : okV (gd (erVs xs) i) = true := by rw [hei]; simpa using h4
        obtain ⟨hr0, hn0, _⟩ := okV_reg hok
        rw [hei] at hr0 hn0
        have hn0 : 0 < (gd xs i).marker.xs.length := hn0
        have hnext : stepV (erVs xs) i = true → ∀ j, j < i + 1 → repAt (erVs xs) j = true := fun hs j h => by
          by_cases c : j = i
          · rw [c, repAt, hok, hs]; rfl
          · exact hj j (by omega)
        have hstep : 0 < i → stepV (erVs xs) i = (decide ((gd xs (i - 1)).rule < (gd xs i).rule) || (decide ((gd xs (i - 1)).rule = (gd xs i).rule) && rLt (gd (gd xs (i - 1)).marker.xs 0) (gd (gd xs i).marker.xs 0) && !blkM (erVs xs) (erV (gd xs i)) i)) := fun h0 => by
          rw [stepV, hei, erVs_gd (show i - 1 < xs.length by omega), decide_eq_false (show ¬ i = 0 by omega), Bool.false_or]; rfl
        refine WP.skip ?_
        refine WP.seq ?_
        refine WP.seq ?_
        refine WP.regionQ (by kernel_rfl) (by kernel_rfl) ?_
        refine RQ.pv rfl (PV.mvI (.inl rfl) rfl) ?_
        refine RQ.pv rfl (PV.eql rfl rfl rfl) ?_
        refine RQ.pv rfl (PV.mvB (.inl rfl) rfl) ?_
        refine RQ.gs rfl rfl rfl (fun hp => (PV.move (v := v) rfl rfl)) ?_
        refine RQ.gs rfl rfl rfl (fun hp => (PV.mvI (.inl rfl) rfl)) ?_
        refine RQ.gs rfl rfl rfl (fun hp => (PV.sub rfl (gs_t hp) rfl (by first | omega | (simp at hp; omega)))) ?_
        refine RQ.gs rfl rfl rfl (fun hp => (PV.idxS (j := i - 1) (v := v) rfl Is66 (gs_t hp) (SlF.r h1) (gs_t hp) (by first | omega | (simp at hp; omega)) (by first | omega | (simp at hp; omega)))) ?_
        refine RQ.gs rfl rfl rfl (fun hp => (PV.field rfl Fo37_0 (gs_t hp))) ?_
        refine RQ.gs rfl rfl rfl (fun hp => (PV.loadF rfl Sc2 (gs_t hp) rfl (El.r h1 (getG (by first | omega | (simp at hp; omega)))) rfl)) ?_
        refine RQ.gs rfl rfl rfl (fun hp => (PV.field rfl Fo37_0 rfl)) ?_
        refine RQ.gs rfl rfl rfl (fun hp => (PV.load1 rfl Sc2 (gs_t hp) (Rd.blk rfl))) ?_
        refine RQ.gs rfl rfl rfl (fun hp => (PV.lss rfl (gs_t hp) (gs_t hp))) ?_
        refine RQ.pv rfl (PV.pickO rfl rfl rfl (fun hq => gs_t (geqF hq))) ?_
        refine RQ.nil ?_
        refine WP.cond rfl (fun h5 => ?_) (fun h5 => ?_)
        · have hs : stepV (erVs xs) i = true := by
            by_cases c : i = 0
            · simp [stepV, c]
            · rw [hstep (by omega)]
              have : (gd xs (i - 1)).rule < (gd xs i).rule := by
                simp [c] at h5; exact h5
              simp [this]
          refine WP.exit ?_
          refine WP.region ?_
          refine RG.pv rfl (PV.add rfl rfl rfl (by omega)) ?_
          refine RG.pv rfl (PV.mvI (.inl rfl) rfl) ?_
          refine RG.nil ?_
          exact ⟨rfl, i + 1, ⟨by omega, hnext hs⟩, ⟨rfl, trivial⟩, ⟨rfl, rfl, rfl, trivial⟩, Cv.p, by omega⟩
        · have hi0 : 0 < i := by
            rcases Nat.eq_zero_or_pos i with c | c
            · subst c; simp at h5
            · exact c
          have hge : (gd xs i).rule ≤ (gd xs (i - 1)).rule := by
            have c : ¬ i = 0 := by omega
            simp [c] at h5; exact h5
          have hn1 : 0 < (gd xs (i - 1)).marker.xs.length := by
            have := hj (i - 1) (by omega)
            rw [repAt, Bool.and_eq_true, erVs_gd (by omega)] at this
            exact (okV_reg this.1).2.1
          refine WP.skip ?_
          refine WP.seq ?_
          refine WP.seq ?_
          refine WP.regionQ (by kernel_rfl) (by kernel_rfl) ?_
          refine RQ.pv rfl (PV.move (v := v) rfl rfl) ?_
          refine RQ.pv rfl (PV.mvI (.inl rfl) rfl) ?_
          refine RQ.pv rfl (PV.sub rfl rfl rfl (by omega)) ?_
          refine RQ.pv rfl (PV.idxS (j := i - 1) (v := v) rfl Is66 rfl (SlF.r h1) rfl (by omega) (by omega)) ?_
          refine RQ.pv rfl (PV.field rfl Fo37_0 rfl) ?_
          refine RQ.pv rfl (PV.loadF rfl Sc2 rfl rfl (El.r h1 (getG (by omega))) rfl) ?_
          refine RQ.pv rfl (PV.field rfl Fo37_0 rfl) ?_
          refine RQ.pv rfl (PV.load1 rfl Sc2 rfl (Rd.blk rfl)) ?_
          refine RQ.pv rfl (PV.gtr rfl rfl rfl) ?_
          refine RQ.pv rfl (PV.mvB (.inl rfl) rfl) ?_
          refine RQ.gs rfl rfl rfl (fun hp => (PV.move (v := v) rfl rfl)) ?_
          refine RQ.gs rfl rfl rfl (fun hp => (PV.mvI (.inl rfl) rfl)) ?_
          refine RQ.gs rfl rfl rfl (fun hp => (PV.sub rfl (gs_t hp) rfl (by first | omega | (simp at hp; omega)))) ?_
          refine RQ.gs rfl rfl rfl (fun hp => (PV.idxS (j := i - 1) (v := v) rfl Is66 (gs_t hp) (SlF.r h1) (gs_t hp) (by first | omega | (simp at hp; omega)) (by first | omega | (simp at hp; omega)))) ?_
          refine RQ.gs rfl rfl rfl (fun hp => (PV.field rfl Fo37_1 (gs_t hp))) ?_
          refine RQ.gs rfl rfl rfl (fun hp => (PV.loadF rfl Sc35 (gs_t hp) rfl (El.r h1 (getG (by first | omega | (simp at hp; omega)))) rfl)) ?_
          refine RQ.gs rfl rfl rfl (fun hp => (PV.idxS (j := 0) rfl Is35 (gs_t hp) (SlF.r (hd.marker (by omega))) rfl (by first | omega | (simp at hp; omega)) (by first | omega | (simp at hp; omega)))) ?_
          refine RQ.gs rfl rfl rfl (fun hp => (PV.loadE rfl Ag101 (gs_t hp) rfl (El.r (hd.marker (by omega)) (getG (by first | omega | (simp at hp; omega)))))) ?_
          refine RQ.gs rfl rfl rfl (fun hp => (PV.field rfl Fo37_1 rfl)) ?_
          refine RQ.gs rfl rfl rfl (fun hp => (PV.load1 rfl Sc35 (gs_t hp) (Rd.blk rfl))) ?_
          refine RQ.gs rfl rfl rfl (fun hp => (PV.idxS (j := 0) rfl Is35 (gs_t hp) (SlF.r hpr) rfl (by first | omega | (simp at hp; omega)) (by first | omega | (simp at hp; omega)))) ?_
          refine RQ.gs rfl rfl rfl (fun hp => (PV.loadE rfl Ag101 (gs_t hp) rfl (El.r hpr (getG (by first | omega | (simp at hp; omega)))))) ?_
          refine RQ.gsC rfl rfl rfl rfl En205 (fun hp => ⟨_, (acons (gs_t hp) (acons (gs_t hp) anil)), compareRects_s ⟨rfl, rfl, rfl⟩⟩) ?_
          refine RQ.gs rfl rfl rfl (fun hp => (PV.geq rfl (gs_t hp) rfl)) ?_
          refine RQ.pv rfl (PV.pickO rfl rfl rfl (fun hq => gs_t (geqF hq))) ?_
          refine RQ.nil ?_
          refine WP.cond rfl (fun h6 => ?_) (fun h6 => ?_)
          · have hs : stepV (erVs xs) i = false := by
              rw [hstep hi0, decide_eq_false (show ¬ (gd xs (i - 1)).rule < (gd xs i).rule by omega), Bool.false_or]
              by_cases c : (gd xs (i - 1)).rule = (gd xs i).rule
              · have hl : rLt (gd (gd xs (i - 1)).marker.xs 0) (gd (gd xs i).marker.xs 0) = false := by
                  have hc := cmpR_ge (gd (gd xs (i - 1)).marker.xs 0) (gd (gd xs i).marker.xs 0)
                  simp only [Bool.or_eq_true, decide_eq_true_eq] at h6
                  rcases h6 with h6 | h6
                  · omega
                  · rw [decide_eq_true h6] at hc; simpa using hc.symm
                rw [hl]; simp
              · simp [c]
            have e : repAt (erVs xs) i = false := by rw [repAt, hs, Bool.and_false]
            rw [rep_false (by omega) e] at k
            refine WP.seq ?_
            refine WP.region ?_
            refine RG.pv rfl (PV.mvB (.inr rfl) rfl) ?_
            refine RG.nil ?_
            refine WP.ret ?_
            exact ⟨_, _, ResV.one rfl rfl, Cv.p, k⟩
          · have hge2 : (gd xs (i - 1)).rule = (gd xs i).rule := by
              simp only [Bool.or_eq_false_iff, decide_eq_false_iff_not] at h6; omega
            have hl : rLt (gd (gd xs (i - 1)).marker.xs 0) (gd (gd xs i).marker.xs 0) = true := by
              have hc := cmpR_ge (gd (gd xs (i - 1)).marker.xs 0) (gd (gd xs i).marker.xs 0)
              simp only [Bool.or_eq_false_iff] at h6
              rw [h6.2] at hc; simpa using hc.symm
            have hstep2 : stepV (erVs xs) i = !blkM (erVs xs) (erV (gd xs i)) i := by
              rw [hstep hi0, decide_eq_false (show ¬ (gd xs (i - 1)).rule < (gd xs i).rule by omega), Bool.false_or, hl, decide_eq_true hge2]; rfl
            refine WP.skip ?_
            refine WP.seq ?_
            refine WP.region ?_
            refine RG.pv rfl (PV.mvI (.inl rfl) rfl) ?_
            refine RG.pv rfl (PV.sub rfl rfl rfl (by omega)) ?_
            refine RG.pv rfl (PV.mvI (.inr rfl) rfl) ?_
            refine RG.nil ?_
            refine WP.block ?_
            refine WP.loop1 [0, 4, 9, 10, 11] (fun (m : Int) => 0 ≤ m ∧ m ≤ i ∧ blkM (erVs xs) (erV (gd xs i)) i = blkM (erVs xs) (erV (gd xs i)) m.toNat) (fun (m : Int) => [(5, vi (m - 1))]) (fun (m : Int) => blk b4 37 (violT.enc (gd xs i)) :: L) (fun (m : Int) => m.toNat) (i : Int) ⟨by omega, by omega, by rw [Int.toNat_natCast]⟩ ⟨rfl, trivial⟩ Cv.p ?_
            rintro m τ1 ⟨hm0, hm, hmb⟩
            refine WP.seq ?_
            refine WP.seq ?_
            refine WP.regionQ (by kernel_rfl) (by kernel_rfl) ?_
            refine RQ.pv rfl (PV.mvI (.inl rfl) rfl) ?_
            refine RQ.pv rfl (PV.geq rfl rfl rfl) ?_
            refine RQ.pv rfl (PV.mvB (.inl rfl) rfl) ?_
            refine RQ.gs rfl rfl rfl (fun hp => (PV.move (v := v) rfl rfl)) ?_
            refine RQ.gs rfl rfl rfl (fun hp => (PV.mvI (.inl rfl) rfl)) ?_
            refine RQ.gs rfl rfl rfl (fun hp => (PV.idxS (j := (m - 1).toNat) (v := v) rfl Is66 (gs_t hp) (SlF.r h1) (gs_t hp) (by first | omega | (simp at hp; omega)) (by first | omega | (simp at hp; omega)))) ?_
            refine RQ.gs rfl rfl rfl (fun hp => (PV.field rfl Fo37_0 (gs_t hp))) ?_
            refine RQ.gs rfl rfl rfl (fun hp => (PV.loadF rfl Sc2 (gs_t hp) rfl (El.r h1 (getG (by first | omega | (simp at hp; omega)))) rfl)) ?_
            refine RQ.gs rfl rfl rfl (fun hp => (PV.field rfl Fo37_0 rfl)) ?_
            refine RQ.gs rfl rfl rfl (fun hp => (PV.load1 rfl Sc2 (gs_t hp) (Rd.blk rfl))) ?_
            refine RQ.gs rfl rfl rfl (fun hp => (PV.eql rfl (gs_t hp) (gs_t hp))) ?_
            refine RQ.pv rfl (PV.pickA rfl rfl (fun hq => gs_t (geqT hq)) rfl) ?_
            refine RQ.nil ?_
            refine WP.cond rfl (fun h7 => ?_) (fun h7 => ?_)
            · have h8 : 1 ≤ m ∧ (gd xs (m - 1).toNat).rule = (gd xs i).rule := by
                simp only [Bool.and_eq_true, decide_eq_true_eq] at h7; exact ⟨by omega, h7.2⟩
              have hem := erVs_gd (xs := xs) (i := (m - 1).toNat) (by omega)
              have hbg : blkM (erVs xs) (erV (gd xs i)) m.toNat = (meetB (gd xs (m - 1).toNat).marker.xs (gd xs i).marker.xs || blkM (erVs xs) (erV (gd xs i)) (m - 1).toNat) := by
                rw [show m.toNat = (m - 1).toNat + 1 by omega, blkM_go (by rw [hem]; exact h8.2), hem]; rfl
              refine WP.skip ?_
              refine WP.seq ?_
              refine WP.block ?_
              refine WP.seq ?_
              refine WP.regionQ (by kernel_rfl) (by kernel_rfl) ?_
              refine RQ.pv rfl (PV.move (v := v) rfl rfl) ?_
              refine RQ.pv rfl (PV.mvI (.inl rfl) rfl) ?_
              refine RQ.pv rfl (PV.idxS (j := (m - 1).toNat) (v := v) rfl Is66 rfl (SlF.r h1) rfl (by omega) (by omega)) ?_
              refine RQ.pv rfl (PV.field rfl Fo37_1 rfl) ?_
              refine RQ.pv rfl (PV.loadF rfl Sc35 rfl rfl (El.r h1 (getG (by omega))) rfl) ?_
              refine RQ.pv rfl (PV.field rfl Fo37_1 rfl) ?_
              refine RQ.pv rfl (PV.load1 rfl Sc35 rfl (Rd.blk rfl)) ?_
              refine RQ.callF (vs := [_, _]) rfl rfl En206 rfl (meet_s (hd.marker (by omega)).up (hd.marker (by omega)).up ⟨rfl, rfl, rfl⟩) ?_
              refine RQ.nil ?_
              refine WP.cond rfl (fun h9 => ?_) (fun h9 => ?_)
              · have hs : stepV (erVs xs) i = false := by rw [hstep2, hmb, hbg, h9]; rfl
                have e : repAt (erVs xs) i = false := by rw [repAt, hs, Bool.and_false]
                rw [rep_false (by omega) e] at k
                refine WP.seq ?_
                refine WP.region ?_
                refine RG.pv rfl (PV.mvB (.inr rfl) rfl) ?_
                refine RG.nil ?_
                refine WP.ret ?_
                exact ⟨_, _, ResV.one rfl rfl, Cv.p, k⟩
              · rw [h9, Bool.false_or] at hbg
                refine WP.skip ?_
                refine WP.region ?_
                refine RG.pv rfl (PV.mvI (.inl rfl) rfl) ?_
                refine RG.pv rfl (PV.sub rfl rfl rfl (by omega)) ?_
                refine RG.pv rfl (PV.mvI (.inr rfl) rfl) ?_
                refine RG.nil ?_
                exact ⟨rfl, (m - 1), ⟨by omega, by omega, by rw [hmb, hbg]⟩, ⟨rfl, trivial⟩, ⟨rfl, rfl, rfl, rfl, rfl, trivial⟩, Cv.p, by omega⟩
            · have hs : stepV (erVs xs) i = true := by
                rw [hstep2, hmb]
                rcases (by omega : m = 0 ∨ 1 ≤ m) with c | c
                · subst c; rfl
                · rw [show m.toNat = (m - 1).toNat + 1 by omega, blkM_stop]
                  · rfl
                  · rw [erVs_gd (by omega)]
                    intro e
                    have : (gd xs (m - 1).toNat).rule = (gd xs i).rule := e
                    simp only [this, decide_true, Bool.and_true, decide_eq_false_iff_not] at h7; omega
              refine WP.exit ?_
              refine WP.region ?_
              refine RG.pv rfl (PV.add rfl rfl rfl (by omega)) ?_
              refine RG.pv rfl (PV.mvI (.inl rfl) rfl) ?_
              refine RG.nil ?_
              exact ⟨rfl, i + 1, ⟨by omega, hnext hs⟩, ⟨rfl, trivial⟩, ⟨rfl, rfl, rfl, trivial⟩, Cv.p, by omega⟩
    · have h3 := of_decide_eq_false h3
      rw [rep_all (by omega) (fun i hi => hj i (by omega))] at k
      refine WP.exit ?_
      refine WP.seq ?_
      refine WP.region ?_
      refine RG.pv rfl (PV.mvB (.inr rfl) rfl) ?_
      refine RG.nil ?_
      refine WP.ret ?_
      exact ⟨_, _, ResV.one rfl rfl, Cv.p, k⟩
end Go.Proofs.YtgngpegmaceaiaaGreat
namespace Go.Proofs.YtgngpegmaceaiaaGreat
set_option linter.unusedVariables false
set_option linter.unusedSimpArgs false
open Go
set_option maxRecDepth 20000
set_option linter.unusedSimpArgs false
variable {G : Gh} {L : List Ch} {R : Value → Gh → List Ch → Prop}
noncomputable def wcBad (rs : List Rule) (E : List (Int × List Rect)) (ws : List Waiver) : Bool := !deckOk rs || !repOk E || !isWL ws
def wcFar (rs : List Rule) (E : List (Int × List Rect)) : Bool := E.any fun v => decide ((rs.length : Int) ≤ v.1)
noncomputable def wCode (rs : List Rule) (E : List (Int × List Rect)) (ws : List Waiver) : Int := bif wcBad rs E ws then 1 else bif wcFar rs E then 5 else 0
theorem wCode_zero {rs : List Rule} {E : List (Int × List Rect)} {ws : List Waiver} (h : wCode rs E ws = 0) : deckOk rs = true ∧ repOk E = true ∧ isWL ws = true ∧ ∀ i, i < E.length → (gd E i).1 < rs.length := by
  unfold wCode at h
  cases hb : wcBad rs E ws with
  | true => rw [hb] at h; cases h
  | false =>
    rw [hb, cond_false] at h
    cases hf : wcFar rs E with
    | true => rw [hf] at h; cases h
    | false =>
      simp only [wcBad, Bool.or_eq_false_iff, Bool.not_eq_false'] at hb
      refine ⟨hb.1.1, hb.1.2, hb.2, fun i hi => ?_⟩
      rw [wcFar, List.any_eq_false] at hf
      have := hf (gd E i) (by rw [gd_eq hi]; exact List.getElem_mem _)
      simp only [decide_eq_true_eq] at this; omega
theorem wcFar_er (rs : List Rule) (xs : List Viol) : (xs.any fun v => decide ((rs.length : Int) ≤ v.rule)) = wcFar rs (erVs xs) := by
  rw [wcFar, erVs, List.any_map]; rfl
theorem wcode1_s {d : Deck} {v : Viol} {b : Nat} (h1 : Rs G L ruleT d.rules.v d.rules.xs) (hc : RdN G L b (deckT.enc d)) (k : R (.bool (decide ((d.rules.xs.length : Int) ≤ v.rule))) G L) : CallT Tryz.prog 149 #[vT violT v, .pointer (some ⟨b, 0, none⟩)] G L R := by
  refine CallT.enter (args := _) Tryz.func149 rfl rfl (by kernel_rfl) rfl ?_
  refine WP.seq ?_
  refine WP.region ?_
  refine RG.ot rfl (OT.box (cs := violT.enc v) rfl rfl rfl fun b2 => ?_)
  refine RG.pv rfl (PV.mvB (.inr rfl) rfl) ?_
  refine RG.nil ?_
  refine WP.seq ?_
  refine WP.region ?_
  refine RG.pv rfl (PV.field rfl Fo37_0 rfl) ?_
  refine RG.pv rfl (PV.load1 rfl Sc2 rfl (Rd.blk rfl)) ?_
  refine RG.pv rfl (PV.field rfl Fo33_0 rfl) ?_
  refine RG.pv rfl (PV.load1 rfl Sc31 rfl ((RdN.up hc) 0 _ rfl)) ?_
  refine RG.pv rfl (PV.len rfl Tryz.underlying31 rfl (SlF.r h1)) ?_
  refine RG.pv rfl (PV.geq rfl rfl rfl) ?_
  refine RG.pv rfl (PV.mvB (.inr rfl) rfl) ?_
  refine RG.nil ?_
  refine WP.ret ?_
  exact ⟨_, _, ResV.one rfl rfl, Cv.p, k⟩
theorem indexF_viol {v fv : Value} {xs : List (Viol)} {p : (Viol) → Bool} (h1 : Rs G L violT v xs) (hf : ∀ i, i < xs.length → CB Tryz.prog G L fv [vT violT (gd xs i)] (.bool (p (gd xs i)))) (k : R (vi (idxI p xs)) G L) : CallT Tryz.prog 150 #[v, fv] G L R := by
  refine CallT.bd h1 fun hb => ?_
  refine CallT.enter (args := _) Tryz.func150 rfl rfl (by kernel_rfl) rfl ?_
  refine WP.seq ?_
  refine WP.region ?_
  refine RG.pv rfl (PV.mvI (.inr rfl) rfl) ?_
  refine RG.nil ?_
  refine WP.seq ?_
  refine WP.seq ?_
  refine WP.region ?_
  refine RG.pv rfl (PV.move (v := v) rfl rfl) ?_
  refine RG.pv rfl (PV.len (v := v) rfl Tryz.underlying66 rfl (SlF.r h1)) ?_
  refine RG.pv rfl (PV.mvI (.inl rfl) rfl) ?_
  refine RG.nil ?_
  refine WP.block ?_
  refine WP.loop1 [0, 1, 7] (fun i => i ≤ xs.length ∧ ∀ j, j < i → p (gd xs j) = false) (fun i => [(8, vi i)]) (fun i => L) (fun i => xs.length - i) 0 ⟨by omega, fun j h => by omega⟩ ⟨rfl, trivial⟩ Cv.p ?_
  rintro i τ ⟨hi, hj⟩
  refine WP.seq ?_
  refine WP.region ?_
  refine RG.pv rfl (PV.lss rfl rfl rfl) ?_
  refine RG.nil ?_
  refine WP.seq ?_
  refine WP.cond rfl (fun h2 => ?_) (fun h2 => ?_)
  · have h2 := of_decide_eq_true h2
    refine WP.skip ?_
    refine WP.seq ?_
    refine WP.block ?_
    refine WP.seq ?_
    refine WP.region ?_
    refine RG.pv rfl (PV.mvI (.inl rfl) rfl) ?_
    refine RG.pv rfl (PV.mvI (.inr rfl) rfl) ?_
    refine RG.nil ?_
    refine WP.seq ?_
    refine WP.region ?_
    refine RG.pv rfl (PV.move (v := fv) rfl rfl) ?_
    refine RG.pv rfl (PV.move (v := v) rfl rfl) ?_
    refine RG.pv rfl (PV.mvI (.inl rfl) rfl) ?_
    refine RG.pv rfl (PV.idxS (v := v) rfl Is66 rfl (SlF.r h1) rfl rfl (by omega)) ?_
    refine RG.pv rfl (PV.loadE rfl Ag37 rfl rfl (El.r h1 (getG (by omega)))) ?_
    refine RG.callB (vs := [_]) rfl rfl rfl rfl (CB.up (hf i (by omega))) ?_
    refine RG.nil ?_
    refine WP.cond rfl (fun h3 => ?_) (fun h3 => ?_)
    · rw [idxI_at (by omega) h3 hj] at k
      refine WP.seq ?_
      refine WP.region ?_
      refine RG.pv rfl (PV.mvI (.inl rfl) rfl) ?_
      refine RG.pv rfl (PV.mvI (.inr rfl) rfl) ?_
      refine RG.nil ?_
      refine WP.ret ?_
      exact ⟨_, _, ResV.one rfl rfl, Cv.p, k⟩
    · have hj' : ∀ j, j < i + 1 → p (gd xs j) = false := fun j h => by
        by_cases c : j = i
        · rw [c]; exact h3
        · exact hj j (by omega)
      refine WP.skip ?_
      refine WP.region ?_
      refine RG.pv rfl (PV.add rfl rfl rfl (by omega)) ?_
      refine RG.pv rfl (PV.mvI (.inl rfl) rfl) ?_
      refine RG.nil ?_
      exact ⟨rfl, i + 1, ⟨by omega, hj'⟩, ⟨rfl, trivial⟩, ⟨rfl, rfl, rfl, trivial⟩, Cv.p, by omega⟩
  · have h2 := of_decide_eq_false h2
    rw [idxI_none (fun j h => hj j (by omega))] at k
    refine WP.exit ?_
    refine WP.seq ?_
    refine WP.region ?_
    refine RG.pv rfl (PV.mvI (.inr rfl) rfl) ?_
    refine RG.nil ?_
    refine WP.ret ?_
    exact ⟨_, _, ResV.one rfl rfl, Cv.p, k⟩
theorem containsF_viol {v fv : Value} {xs : List (Viol)} {p : (Viol) → Bool} (h1 : Rs G L violT v xs) (hf : ∀ i, i < xs.length → CB Tryz.prog G L fv [vT violT (gd xs i)] (.bool (p (gd xs i)))) (k : R (.bool (xs.any p)) G L) : CallT Tryz.prog 81 #[v, fv] G L R := by
  rw [← idxI_any] at k
  refine CallT.enter (args := _) Tryz.func81 rfl rfl (by kernel_rfl) rfl ?_
  refine WP.seq ?_
  refine WP.region ?_
  refine RG.pv rfl (PV.mvB (.inr rfl) rfl) ?_
  refine RG.nil ?_
  refine WP.seq ?_
  refine WP.region ?_
  refine RG.pv rfl (PV.move (v := v) rfl rfl) ?_
  refine RG.pv rfl (PV.move (v := fv) rfl rfl) ?_
  refine RG.callF (vs := [v, fv]) rfl rfl En150 rfl (indexF_viol (Rs.up h1) (fun i hi => (hf i hi).up) ?_)
  refine RG.pv rfl (PV.geq rfl rfl rfl) ?_
  refine RG.pv rfl (PV.mvB (.inr rfl) rfl) ?_
  refine RG.nil ?_
  refine WP.ret ?_
  exact ⟨_, _, ResV.one rfl rfl, Cv.p, k⟩
theorem wcode_i {d : Deck} {u w : Value} {xs : List Viol} {ws : List Waiver} (h1 : Rs G L ruleT d.rules.v d.rules.xs) (h2 : Rs G L violT u xs) (hd : RsE G L rectT (mks xs)) (h3 : Rs G L waiverT w ws) (hlen : ∀ i, i < ws.length → (gd ws i).reason.size ≤ 9223372036854775807)
    (k : R (vi (wCode d.rules.xs (erVs xs) ws)) G L) : CallT Tryz.prog 80 #[vT deckT d, u, w] G L R := by
  refine CallT.enter (args := _) Tryz.func80 rfl rfl (by kernel_rfl) rfl ?_
  refine WP.seq ?_
  refine WP.region ?_
  refine RG.ot rfl (OT.box (cs := deckT.enc d) rfl rfl rfl fun b3 => ?_)
  refine RG.pv rfl (PV.mvI (.inr rfl) rfl) ?_
  refine RG.nil ?_
  refine WP.seq ?_
  refine WP.block ?_
  refine WP.seq ?_
  refine WP.region ?_
  refine RG.pv rfl (PV.loadW rfl Ag33 rfl rfl) ?_
  refine RG.callF (vs := [_]) rfl rfl En64 rfl (deck_i h1.up ?_)
  refine RG.pv rfl (PV.not rfl rfl) ?_
  refine RG.pv rfl (PV.mvB (.inl rfl) rfl) ?_
  refine RG.gs rfl rfl rfl (fun hp => (PV.move (v := u) rfl rfl)) ?_
  refine RG.gsC rfl rfl rfl rfl En148 (fun hp => ⟨_, (acons (gs_t hp) anil), report_i h2.up hd.up ⟨rfl, rfl, rfl⟩⟩) ?_
  refine RG.gs rfl rfl rfl (fun hp => (PV.not rfl (gs_t hp))) ?_
  refine RG.pv rfl (PV.pickO rfl rfl rfl (fun hq => gs_t (geqF hq))) ?_
  refine RG.pv rfl (PV.mvB (.inl rfl) rfl) ?_
  refine RG.gs rfl rfl rfl (fun hp => (PV.move (v := w) rfl rfl)) ?_
  refine RG.gsC rfl rfl rfl rfl En97 (fun hp => ⟨_, (acons (gs_t hp) anil), isWL_s h3.up hlen ⟨rfl, rfl, rfl⟩⟩) ?_
  refine RG.gs rfl rfl rfl (fun hp => (PV.not rfl (gs_t hp))) ?_
  refine RG.pv rfl (PV.pickO rfl rfl rfl (fun hq => gs_t (geqF hq))) ?_
  refine RG.pv rfl (PV.mvB (.inr rfl) rfl) ?_
  refine RG.nil ?_
  refine WP.cond rfl (fun h4 => ?_) (fun h4 => ?_)
  · have e : wCode d.rules.xs (erVs xs) ws = 1 := by
      have : wcBad d.rules.xs (erVs xs) ws = true := h4
      rw [wCode, this]; rfl
    rw [e] at k
    refine WP.seq ?_
    refine WP.region ?_
    refine RG.pv rfl (PV.mvI (.inr rfl) rfl) ?_
    refine RG.nil ?_
    refine WP.ret ?_
    exact ⟨_, _, ResV.one rfl rfl, Cv.p, k⟩
  · have hb : wcBad d.rules.xs (erVs xs) ws = false := h4
    refine WP.seq ?_
    refine WP.region ?_
    refine RG.pv rfl (PV.move (v := u) rfl rfl) ?_
    refine RG.pv rfl (PV.mkf1 rfl rfl) ?_
    refine RG.callF (vs := [u, _]) rfl rfl En81 rfl (containsF_viol (Rs.up h2) (p := fun v => decide ((d.rules.xs.length : Int) ≤ v.rule)) (fun i hi => CB.mk1 En149 fun L' R c k => wcode1_s (Rs.cv c h1.up) (RdN.cv RdN.blk c) k) ?_)
    refine RG.pv rfl (PV.mvB (.inr rfl) rfl) ?_
    refine RG.nil ?_
    refine WP.cond rfl (fun h5 => ?_) (fun h5 => ?_)
    · have e : wCode d.rules.xs (erVs xs) ws = 5 := by rw [wCode, hb, cond_false, ← wcFar_er, h5]; rfl
      rw [e] at k
      refine WP.seq ?_
      refine WP.region ?_
      refine RG.pv rfl (PV.mvI (.inr rfl) rfl) ?_
      refine RG.nil ?_
      refine WP.ret ?_
      exact ⟨_, _, ResV.one rfl rfl, Cv.p, k⟩
    · have e : wCode d.rules.xs (erVs xs) ws = 0 := by rw [wCode, hb, cond_false, ← wcFar_er, h5]; rfl
      rw [e] at k
      refine WP.skip ?_
      refine WP.seq ?_
      refine WP.region ?_
      refine RG.pv rfl (PV.mvI (.inr rfl) rfl) ?_
      refine RG.nil ?_
      refine WP.ret ?_
      exact ⟨_, _, ResV.one rfl rfl, Cv.p, k⟩
theorem wcode_r {d : Deck} {u w : Value} {xs : List Viol} {ws : List Waiver} (h1 : Rs G L ruleT d.rules.v d.rules.xs) (h2 : Rs G L violT u xs) (hd : RsE G L rectT (mks xs)) (h3 : Rs G L waiverT w ws) (hlen : ∀ i, i < ws.length → (gd ws i).reason.size ≤ 9223372036854775807)
    (k : R (vi (wCode d.rules.xs (erVs xs) ws)) G L) : CallT Tryz.prog 78 #[vT deckT d, u, w] G L R := by
  refine CallT.bd h2 fun hb0 => ?_
  refine CallT.enter (args := _) Tryz.func78 rfl rfl (by kernel_rfl) rfl ?_
  refine WP.seq ?_
  refine WP.region ?_
  refine RG.ot rfl (OT.box (cs := deckT.enc d) rfl rfl rfl fun b3 => ?_)
  refine RG.pv rfl (PV.mvI (.inr rfl) rfl) ?_
  refine RG.nil ?_
  refine WP.seq ?_
  refine WP.seq ?_
  refine WP.region ?_
  refine RG.pv rfl (PV.loadW rfl Ag33 rfl rfl) ?_
  refine RG.callF (vs := [_]) rfl rfl En60 rfl (deck_r h1.up ?_)
  refine RG.pv rfl (PV.not rfl rfl) ?_
  refine RG.pv rfl (PV.mvB (.inl rfl) rfl) ?_
  refine RG.gs rfl rfl rfl (fun hp => (PV.move (v := u) rfl rfl)) ?_
  refine RG.gsC rfl rfl rfl rfl En146 (fun hp => ⟨_, (acons (gs_t hp) anil), report_r h2.up hd.up ⟨rfl, rfl, rfl⟩⟩) ?_
  refine RG.gs rfl rfl rfl (fun hp => (PV.not rfl (gs_t hp))) ?_
  refine RG.pv rfl (PV.pickO rfl rfl rfl (fun hq => gs_t (geqF hq))) ?_
  refine RG.pv rfl (PV.mvB (.inl rfl) rfl) ?_
  refine RG.gs rfl rfl rfl (fun hp => (PV.move (v := w) rfl rfl)) ?_
  refine RG.gsC rfl rfl rfl rfl En147 (fun hp => ⟨_, (acons (gs_t hp) anil), isWL_s' h3.up hlen ⟨rfl, rfl, rfl⟩⟩) ?_
  refine RG.gs rfl rfl rfl (fun hp => (PV.not rfl (gs_t hp))) ?_
  refine RG.pv rfl (PV.pickO rfl rfl rfl (fun hq => gs_t (geqF hq))) ?_
  refine RG.nil ?_
  refine WP.cond rfl (fun h4 => ?_) (fun h4 => ?_)
  · have e : wCode d.rules.xs (erVs xs) ws = 1 := by
      have : wcBad d.rules.xs (erVs xs) ws = true := h4
      rw [wCode, this]; rfl
    rw [e] at k
    refine WP.seq ?_
    refine WP.region ?_
    refine RG.pv rfl (PV.mvI (.inr rfl) rfl) ?_
    refine RG.nil ?_
    refine WP.ret ?_
    exact ⟨_, _, ResV.one rfl rfl, Cv.p, k⟩
  · have hb : wcBad d.rules.xs (erVs xs) ws = false := h4
    refine WP.skip ?_
    refine WP.seq ?_
    refine WP.seq ?_
    refine WP.region ?_
    refine RG.pv rfl (PV.mvI (.inr rfl) rfl) ?_
    refine RG.nil ?_
    refine WP.block ?_
    refine WP.loop1 [1, 3] (fun i => i ≤ xs.length ∧ ∀ j, j < i → decide ((d.rules.xs.length : Int) ≤ (gd xs j).rule) = false) (fun i => [(7, vi i)]) (fun i => blk b3 33 (deckT.enc d) :: L) (fun i => xs.length - i) 0 ⟨by omega, fun j h => by omega⟩ ⟨rfl, trivial⟩ Cv.p ?_
    rintro i τ ⟨hi, hj⟩
    refine WP.seq ?_
    refine WP.seq ?_
    refine WP.region ?_
    refine RG.pv rfl (PV.mvI (.inl rfl) rfl) ?_
    refine RG.pv rfl (PV.move (v := u) rfl rfl) ?_
    refine RG.pv rfl (PV.len (v := u) rfl Tryz.underlying66 rfl (SlF.r h2)) ?_
    refine RG.pv rfl (PV.lss rfl rfl rfl) ?_
    refine RG.nil ?_
    refine WP.cond rfl (fun h5 => ?_) (fun h5 => ?_)
    · have h5 := of_decide_eq_true h5
      refine WP.skip ?_
      refine WP.seq ?_
      refine WP.block ?_
      refine WP.seq ?_
      refine WP.regionQ (by kernel_rfl) (by kernel_rfl) ?_
      refine RQ.pv rfl (PV.move (v := u) rfl rfl) ?_
      refine RQ.pv rfl (PV.mvI (.inl rfl) rfl) ?_
      refine RQ.pv rfl (PV.idxS (v := u) rfl Is66 rfl (SlF.r h2) rfl rfl (by omega)) ?_
      refine RQ.pv rfl (PV.field rfl Fo37_0 rfl) ?_
      refine RQ.pv rfl (PV.loadF rfl Sc2 rfl rfl (El.r h2 (getG (by omega))) rfl) ?_
      refine RQ.pv rfl (PV.field rfl Fo33_0 rfl) ?_
      refine RQ.pv rfl (PV.load1 rfl Sc31 rfl (Rd.blk rfl)) ?_
      refine RQ.pv rfl (PV.len rfl Tryz.underlying31 rfl (SlF.r h1)) ?_
      refine RQ.pv rfl (PV.geq rfl rfl rfl) ?_
      refine RQ.nil ?_
      refine WP.cond rfl (fun h6 => ?_) (fun h6 => ?_)
      · have e : wCode d.rules.xs (erVs xs) ws = 5 := by
          have : (xs.any fun v => decide ((d.rules.xs.length : Int) ≤ v.rule)) = true := List.any_eq_true.2 ⟨gd xs i, by rw [gd_eq (by omega)]; exact List.getElem_mem _, h6⟩
          rw [wCode, hb, cond_false, ← wcFar_er, this]; rfl
        rw [e] at k
        refine WP.seq ?_
        refine WP.region ?_
        refine RG.pv rfl (PV.mvI (.inr rfl) rfl) ?_
        refine RG.nil ?_
        refine WP.ret ?_
        exact ⟨_, _, ResV.one rfl rfl, Cv.p, k⟩
      · have hj' : ∀ j, j < i + 1 → decide ((d.rules.xs.length : Int) ≤ (gd xs j).rule) = false := fun j h => by
          by_cases c : j = i
          · rw [c]; exact h6
          · exact hj j (by omega)
        refine WP.skip ?_
        refine WP.region ?_
        refine RG.pv rfl (PV.mvI (.inl rfl) rfl) ?_
        refine RG.pv rfl (PV.add rfl rfl rfl (by omega)) ?_
        refine RG.pv rfl (PV.mvI (.inr rfl) rfl) ?_
        refine RG.nil ?_
        exact ⟨rfl, i + 1, ⟨by omega, hj'⟩, ⟨rfl, trivial⟩, ⟨rfl, rfl, trivial⟩, Cv.p, by omega⟩
    · have h5 := of_decide_eq_false h5
      have e : wCode d.rules.xs (erVs xs) ws = 0 := by
        have : (xs.any fun v => decide ((d.rules.xs.length : Int) ≤ v.rule)) = false := by
          rw [List.any_eq_false]
          intro r hr
          obtain ⟨j, hj2, rfl⟩ := List.getElem_of_mem hr
          have := hj j (by omega)
          rw [gd_eq hj2] at this
          simpa using this
        rw [wCode, hb, cond_false, ← wcFar_er, this]; rfl
      rw [e] at k
      refine WP.exit ?_
      refine WP.seq ?_
      refine WP.region ?_
      refine RG.pv rfl (PV.mvI (.inr rfl) rfl) ?_
      refine RG.nil ?_
      refine WP.ret ?_
      exact ⟨_, _, ResV.one rfl rfl, Cv.p, k⟩
def sigA (rs : List Rule) (v : Int × List Rect) : Int := sigR (gd rs v.1.toNat) v.2
theorem filter_step {α : Type} [Inhabited α] (p : α → Bool) {xs : List α} {i : Nat} (h : i < xs.length) : (xs.take (i + 1)).filter p = (xs.take i).filter p ++ (if p (gd xs i) then [gd xs i] else []) := by
  rw [List.take_add_one, getG h, List.filter_append]
  cases hp : p (gd xs i) <;> simp [hp]
/-- what a report gives for each of its violations -/
theorem rep_facts {rs : List Rule} {xs : List Viol} {ws : List Waiver} (h : wCode rs (erVs xs) ws = 0) {i : Nat} (hi : i < xs.length) : (0 ≤ (gd xs i).rule ∧ (gd xs i).rule < rs.length) ∧ validRule (gd rs (gd xs i).rule.toNat) = true ∧ isReg (gd xs i).marker.xs = true ∧ 0 < (gd xs i).marker.xs.length := by
  obtain ⟨q1, q2, q3, q4⟩ := wCode_zero h
  have hl := erVs_len xs
  have h1 := rep_okV q2 (i := i) (by omega)
  have h2 := q4 i (by omega)
  rw [erVs_gd hi] at h1 h2
  obtain ⟨a1, a2, a3, _⟩ := okV_reg h1
  have h2 : (gd xs i).rule < rs.length := h2
  have a3 : 0 ≤ (gd xs i).rule := a3
  exact ⟨⟨a3, h2⟩, deck_rule q1 (by omega), a1, a2⟩
end Go.Proofs.YtgngpegmaceaiaaGreat
namespace Go.Proofs.YtgngpegmaceaiaaGreat
set_option linter.unusedVariables false
set_option linter.unusedSimpArgs false
open Go
set_option maxRecDepth 20000
set_option linter.unusedSimpArgs false
variable {G : Gh} {L : List Ch} {R : Value → Gh → List Ch → Prop}
theorem copyV_i {v : Viol} (h1 : Rs G L rectT v.marker.v v.marker.xs) (hb : v.marker.xs.length ≤ 1048576) (k : ∀ v', R (vT violT ⟨v.rule, ⟨v', v.marker.xs⟩⟩) G (osl 101 rectT v' v.marker.xs :: L)) : CallT Tryz.prog 89 #[vT violT v] G L R := by
  refine CallT.enter (args := _) Tryz.func89 rfl rfl (by kernel_rfl) rfl ?_
  refine WP.seq ?_
  refine WP.region ?_
  refine RG.ot rfl (OT.box (cs := violT.enc v) rfl rfl rfl fun b1 => ?_)
  refine RG.ot rfl (OT.alloc rfl Zr37 fun b2 => ?_)
  refine RG.nil ?_
  refine WP.seq ?_
  refine WP.regionHD [.b b2] (.q 0 (.q 1 (.q 2 (.q 3 (.l 4 (.q 5 (.l 6 Sch.nil))))))) (by kernel_rfl) (by kernel_rfl) (by kernel_rfl) rfl ?_
  refine RH.pv rfl (fun _ _ _ _ h => h) (Gh.le_refl _) PickC.pick rfl (PV.field rfl Fo37_0 rfl) ?_
  refine RH.pv rfl (fun _ _ _ _ h => h) (Gh.le_refl _) PickC.pick rfl (PV.load1 rfl Sc2 rfl (Rd.blk rfl)) ?_
  refine RH.pv rfl (fun _ _ _ _ h => h) (Gh.le_refl _) PickC.pick rfl (PV.field rfl Fo37_1 rfl) ?_
  refine RH.pv rfl (fun _ _ _ _ h => h) (Gh.le_refl _) PickC.pick rfl (PV.load1 rfl Sc35 rfl (Rd.blk rfl)) ?_
  refine RH.ot rfl rfl (OT.callF (vs := [_]) rfl En153 rfl (clone_rects (Rs.up h1) hb (fun v7 => ⟨Gh.le_refl _, PickC.pick, ?_⟩)))
  refine RH.up1 ?_
  refine RH.pv rfl (fun _ _ _ _ h => h) (Gh.le_refl _) PickC.pick rfl (PV.build (vs := [(0, [vi _]), (1, [v7])]) (out := [_, _]) rfl Zr37 Pl37 ⟨rfl, (Cl.c rfl), ⟨rfl, (Cl.s (v := v7) SlF.o), trivial⟩⟩ rfl) ?_
  refine RH.ot rfl rfl (OT.storeW (vs := [vi _, _]) rfl Sz37 rfl rfl (Cl.c rfl) rfl rfl (OneC.val rfl (OneC.sl SlF.o OneC.nil)) ⟨Gh.le_refl _, PickC.pick, ?_⟩)
  refine RH.nil ?_
  refine WP.ret ?_
  exact ⟨_, _, ResV.one rfl (RV1.cell rfl Ag37 rfl), Cv.p, k v7⟩
theorem copyV_r {v : Viol} (h1 : Rs G L rectT v.marker.v v.marker.xs) (hb : v.marker.xs.length ≤ 1048576) (k : ∀ v', R (vT violT ⟨v.rule, ⟨v', v.marker.xs⟩⟩) G (osl 101 rectT v' v.marker.xs :: L)) : CallT Tryz.prog 87 #[vT violT v] G L R := by
  refine CallT.enter (args := _) Tryz.func87 rfl rfl (by kernel_rfl) rfl ?_
  refine WP.seq ?_
  refine WP.region ?_
  refine RG.ot rfl (OT.box (cs := violT.enc v) rfl rfl rfl fun b1 => ?_)
  refine RG.ot rfl (OT.alloc rfl Zr37 fun b2 => ?_)
  refine RG.nil ?_
  refine WP.seq ?_
  refine WP.regionHD [.b b2] (.q 0 (.q 1 (.q 3 (.q 4 (.l 2 (.l 5 (.q 6 (.l 7 Sch.nil)))))))) (by kernel_rfl) (by kernel_rfl) (by kernel_rfl) rfl ?_
  refine RH.pv rfl (fun _ _ _ _ h => h) (Gh.le_refl _) PickC.pick rfl (PV.field rfl Fo37_0 rfl) ?_
  refine RH.pv rfl (fun _ _ _ _ h => h) (Gh.le_refl _) PickC.pick rfl (PV.load1 rfl Sc2 rfl (Rd.blk rfl)) ?_
  refine RH.pv rfl (fun _ _ _ _ h => h) (Gh.le_refl _) PickC.pick rfl (PV.field rfl Fo37_1 rfl) ?_
  refine RH.pv rfl (fun _ _ _ _ h => h) (Gh.le_refl _) PickC.pick rfl (PV.load1 rfl Sc35 rfl (Rd.blk rfl)) ?_
  refine RH.ot rfl rfl (OT.bslice (F := rectT) (els := []) rfl El35 rfl (by decide) rfl (by decide) trivial fun v5 => ⟨Gh.le_refl _, PickC.pick, ?_⟩)
  refine RH.ot rfl rfl (OT.append (v := v5) (F := rectT) rfl El35 rfl (by decide) rfl rfl (Rs.up h1) (OneL.c (fun _ => rfl)) rfl (by first | omega | (simp <;> omega)) fun v8 => ⟨Gh.le_refl _, PickC.pick, ?_⟩)
  refine RH.up1 ?_
  refine RH.pv rfl (fun _ _ _ _ h => h) (Gh.le_refl _) PickC.pick rfl (PV.build (vs := [(0, [vi _]), (1, [v8])]) (out := [_, _]) rfl Zr37 Pl37 ⟨rfl, (Cl.c rfl), ⟨rfl, (Cl.s (v := v8) SlF.o), trivial⟩⟩ rfl) ?_
  refine RH.ot rfl rfl (OT.storeW (vs := [vi _, _]) rfl Sz37 rfl rfl (Cl.c rfl) rfl rfl (OneC.val rfl (OneC.sl SlF.o OneC.nil)) ⟨Gh.le_refl _, PickC.pick, ?_⟩)
  refine RH.nil ?_
  refine WP.ret ?_
  exact ⟨_, _, ResV.one rfl (RV1.cell rfl Ag37 rfl), ((Cv.p (C := osl 101 rectT v8 ([] ++ v.marker.xs) :: L)).trans (Cv.eqS (List.nil_append _))), k v8⟩
def hasW (ws : List Waiver) (n : Int) : Bool := ws.any fun w => decide (w.sig = n)
theorem waives1_s {w : Waiver} {b : Nat} {n : Int} (hc : Rd G L b 0 (vi n)) (k : R (.bool (decide (w.sig = n))) G L) : CallT Tryz.prog 152 #[vwaiver w, .pointer (some ⟨b, 0, none⟩)] G L R := by
  refine CallT.enter (args := _) Tryz.func152 rfl rfl (by kernel_rfl) rfl ?_
  refine WP.seq ?_
  refine WP.region ?_
  refine RG.ot rfl (OT.box (cs := waiverT.enc w) rfl rfl rfl fun b2 => ?_)
  refine RG.pv rfl (PV.mvB (.inr rfl) rfl) ?_
  refine RG.nil ?_
  refine WP.seq ?_
  refine WP.region ?_
  refine RG.pv rfl (PV.field rfl Fo83_0 rfl) ?_
  refine RG.pv rfl (PV.load1 rfl Sc2 rfl (Rd.blk rfl)) ?_
  refine RG.pv rfl (PV.load1 rfl Sc2 rfl (Rd.up hc)) ?_
  refine RG.pv rfl (PV.eql rfl rfl rfl) ?_
  refine RG.pv rfl (PV.mvB (.inr rfl) rfl) ?_
  refine RG.nil ?_
  refine WP.ret ?_
  exact ⟨_, _, ResV.one rfl rfl, Cv.p, k⟩
theorem indexF_waiver {v fv : Value} {xs : List (Waiver)} {p : (Waiver) → Bool} (h1 : Rs G L waiverT v xs) (hf : ∀ i, i < xs.length → CB Tryz.prog G L fv [vwaiver (gd xs i)] (.bool (p (gd xs i)))) (k : R (vi (idxI p xs)) G L) : CallT Tryz.prog 207 #[v, fv] G L R := by
  refine CallT.bd h1 fun hb => ?_
  refine CallT.enter (args := _) Tryz.func207 rfl rfl (by kernel_rfl) rfl ?_
  refine WP.seq ?_
  refine WP.region ?_
  refine RG.pv rfl (PV.mvI (.inr rfl) rfl) ?_
  refine RG.nil ?_
  refine WP.seq ?_
  refine WP.seq ?_
  refine WP.region ?_
  refine RG.pv rfl (PV.move (v := v) rfl rfl) ?_
  refine RG.pv rfl (PV.len (v := v) rfl Tryz.underlying63 rfl (SlF.r h1)) ?_
  refine RG.pv rfl (PV.mvI (.inl rfl) rfl) ?_
  refine RG.nil ?_
  refine WP.block ?_
  refine WP.loop1 [0, 1, 7] (fun i => i ≤ xs.length ∧ ∀ j, j < i → p (gd xs j) = false) (fun i => [(8, vi i)]) (fun i => L) (fun i => xs.length - i) 0 ⟨by omega, fun j h => by omega⟩ ⟨rfl, trivial⟩ Cv.p ?_
  rintro i τ ⟨hi, hj⟩
  refine WP.seq ?_
  refine WP.region ?_
  refine RG.pv rfl (PV.lss rfl rfl rfl) ?_
  refine RG.nil ?_
  refine WP.seq ?_
  refine WP.cond rfl (fun h2 => ?_) (fun h2 => ?_)
  · have h2 := of_decide_eq_true h2
    refine WP.skip ?_
    refine WP.seq ?_
    refine WP.block ?_
    refine WP.seq ?_
    refine WP.region ?_
    refine RG.pv rfl (PV.mvI (.inl rfl) rfl) ?_
    refine RG.pv rfl (PV.mvI (.inr rfl) rfl) ?_
    refine RG.nil ?_
    refine WP.seq ?_
    refine WP.region ?_
    refine RG.pv rfl (PV.move (v := fv) rfl rfl) ?_
    refine RG.pv rfl (PV.move (v := v) rfl rfl) ?_
    refine RG.pv rfl (PV.mvI (.inl rfl) rfl) ?_
    refine RG.pv rfl (PV.idxS (v := v) rfl Is63 rfl (SlF.r h1) rfl rfl (by omega)) ?_
    refine RG.pv rfl (PV.loadE rfl Ag83 rfl rfl (El.r h1 (getG (by omega)))) ?_
    refine RG.callB (vs := [_]) rfl rfl rfl rfl (CB.up (hf i (by omega))) ?_
    refine RG.nil ?_
    refine WP.cond rfl (fun h3 => ?_) (fun h3 => ?_)
    · rw [idxI_at (by omega) h3 hj] at k
      refine WP.seq ?_
      refine WP.region ?_
      refine RG.pv rfl (PV.mvI (.inl rfl) rfl) ?_
      refine RG.pv rfl (PV.mvI (.inr rfl) rfl) ?_
      refine RG.nil ?_
      refine WP.ret ?_
      exact ⟨_, _, ResV.one rfl rfl, Cv.p, k⟩
    · have hj' : ∀ j, j < i + 1 → p (gd xs j) = false := fun j h => by
        by_cases c : j = i
        · rw [c]; exact h3
        · exact hj j (by omega)
      refine WP.skip ?_
      refine WP.region ?_
      refine RG.pv rfl (PV.add rfl rfl rfl (by omega)) ?_
      refine RG.pv rfl (PV.mvI (.inl rfl) rfl) ?_
      refine RG.nil ?_
      exact ⟨rfl, i + 1, ⟨by omega, hj'⟩, ⟨rfl, trivial⟩, ⟨rfl, rfl, rfl, trivial⟩, Cv.p, by omega⟩
  · have h2 := of_decide_eq_false h2
    rw [idxI_none (fun j h => hj j (by omega))] at k
    refine WP.exit ?_
    refine WP.seq ?_
    refine WP.region ?_
    refine RG.pv rfl (PV.mvI (.inr rfl) rfl) ?_
    refine RG.nil ?_
    refine WP.ret ?_
    exact ⟨_, _, ResV.one rfl rfl, Cv.p, k⟩
theorem containsF_waiver {v fv : Value} {xs : List (Waiver)} {p : (Waiver) → Bool} (h1 : Rs G L waiverT v xs) (hf : ∀ i, i < xs.length → CB Tryz.prog G L fv [vwaiver (gd xs i)] (.bool (p (gd xs i)))) (k : R (.bool (xs.any p)) G L) : CallT Tryz.prog 151 #[v, fv] G L R := by
  rw [← idxI_any] at k
  refine CallT.enter (args := _) Tryz.func151 rfl rfl (by kernel_rfl) rfl ?_
  refine WP.seq ?_
  refine WP.region ?_
  refine RG.pv rfl (PV.mvB (.inr rfl) rfl) ?_
  refine RG.nil ?_
  refine WP.seq ?_
  refine WP.region ?_
  refine RG.pv rfl (PV.move (v := v) rfl rfl) ?_
  refine RG.pv rfl (PV.move (v := fv) rfl rfl) ?_
  refine RG.callF (vs := [v, fv]) rfl rfl En207 rfl (indexF_waiver (Rs.up h1) (fun i hi => (hf i hi).up) ?_)
  refine RG.pv rfl (PV.geq rfl rfl rfl) ?_
  refine RG.pv rfl (PV.mvB (.inr rfl) rfl) ?_
  refine RG.nil ?_
  refine WP.ret ?_
  exact ⟨_, _, ResV.one rfl rfl, Cv.p, k⟩
theorem waives_s {v : Value} {ws : List Waiver} {n : Int} (h1 : Rs G L waiverT v ws) (k : R (.bool (hasW ws n)) G L) : CallT Tryz.prog 88 #[v, vi n] G L R := by
  refine CallT.enter (args := _) Tryz.func88 rfl rfl (by kernel_rfl) rfl ?_
  refine WP.seq ?_
  refine WP.region ?_
  refine RG.ot rfl (OT.box rfl rfl rfl fun b3 => ?_)
  refine RG.pv rfl (PV.mvB (.inr rfl) rfl) ?_
  refine RG.nil ?_
  refine WP.seq ?_
  refine WP.region ?_
  refine RG.pv rfl (PV.move (v := v) rfl rfl) ?_
  refine RG.pv rfl (PV.mkf1 rfl rfl) ?_
  refine RG.callF (vs := [v, _]) rfl rfl En151 rfl (containsF_waiver (Rs.up h1) (p := fun w => decide (w.sig = n)) (fun i hi => CB.mk1 En152 fun L' R c k => waives1_s (Rd.cv (Rd.blk rfl) c) k) ?_)
  refine RG.pv rfl (PV.mvB (.inr rfl) rfl) ?_
  refine RG.nil ?_
  refine WP.ret ?_
  exact ⟨_, _, ResV.one rfl rfl, Cv.p, k⟩
theorem l22Has_s {v : Value} {ws : List Waiver} {n : Int} (h1 : Rs G L waiverT v ws) (k : R (.bool (hasW ws n)) G L) : CallT Tryz.prog 86 #[v, vi n] G L R := by
  refine CallT.bd h1 fun hb => ?_
  refine CallT.enter (args := _) Tryz.func86 rfl rfl (by kernel_rfl) rfl ?_
  refine WP.seq ?_
  refine WP.region ?_
  refine RG.pv rfl (PV.mvB (.inr rfl) rfl) ?_
  refine RG.nil ?_
  refine WP.seq ?_
  refine WP.seq ?_
  refine WP.region ?_
  refine RG.pv rfl (PV.mvI (.inr rfl) rfl) ?_
  refine RG.nil ?_
  refine WP.block ?_
  refine WP.loop1 [0, 1] (fun i => i ≤ ws.length ∧ ∀ j, j < i → decide ((gd ws j).sig = n) = false) (fun i => [(5, vi i)]) (fun i => L) (fun i => ws.length - i) 0 ⟨by omega, fun j h => by omega⟩ ⟨rfl, trivial⟩ Cv.p ?_
  rintro i τ ⟨hi, hj⟩
  refine WP.seq ?_
  refine WP.seq ?_
  refine WP.region ?_
  refine RG.pv rfl (PV.mvI (.inl rfl) rfl) ?_
  refine RG.pv rfl (PV.move (v := v) rfl rfl) ?_
  refine RG.pv rfl (PV.len (v := v) rfl Tryz.underlying63 rfl (SlF.r h1)) ?_
  refine RG.pv rfl (PV.lss rfl rfl rfl) ?_
  refine RG.nil ?_
  refine WP.cond rfl (fun h2 => ?_) (fun h2 => ?_)
  · have h2 := of_decide_eq_true h2
    refine WP.skip ?_
    refine WP.seq ?_
    refine WP.block ?_
    refine WP.seq ?_
    refine WP.region ?_
    refine RG.pv rfl (PV.move (v := v) rfl rfl) ?_
    refine RG.pv rfl (PV.mvI (.inl rfl) rfl) ?_
    refine RG.pv rfl (PV.idxS (v := v) rfl Is63 rfl (SlF.r h1) rfl rfl (by omega)) ?_
    refine RG.pv rfl (PV.field rfl Fo83_0 rfl) ?_
    refine RG.pv rfl (PV.loadF rfl Sc2 rfl rfl (El.r h1 (getG (by omega))) rfl) ?_
    refine RG.pv rfl (PV.mvI (.inl rfl) rfl) ?_
    refine RG.pv rfl (PV.eql rfl rfl rfl) ?_
    refine RG.nil ?_
    refine WP.cond rfl (fun h3 => ?_) (fun h3 => ?_)
    · have e : hasW ws n = true := List.any_eq_true.2 ⟨gd ws i, by rw [gd_eq (by omega)]; exact List.getElem_mem _, h3⟩
      rw [e] at k
      refine WP.seq ?_
      refine WP.region ?_
      refine RG.pv rfl (PV.mvB (.inr rfl) rfl) ?_
      refine RG.nil ?_
      refine WP.ret ?_
      exact ⟨_, _, ResV.one rfl rfl, Cv.p, k⟩
    · have hj' : ∀ j, j < i + 1 → decide ((gd ws j).sig = n) = false := fun j h => by
        by_cases c : j = i
        · rw [c]; exact h3
        · exact hj j (by omega)
      refine WP.skip ?_
      refine WP.region ?_
      refine RG.pv rfl (PV.mvI (.inl rfl) rfl) ?_
      refine RG.pv rfl (PV.add rfl rfl rfl (by omega)) ?_
      refine RG.pv rfl (PV.mvI (.inr rfl) rfl) ?_
      refine RG.nil ?_
      exact ⟨rfl, i + 1, ⟨by omega, hj'⟩, ⟨rfl, trivial⟩, ⟨rfl, rfl, trivial⟩, Cv.p, by omega⟩
  · have h2 := of_decide_eq_false h2
    have e : hasW ws n = false := by
      rw [hasW, List.any_eq_false]
      intro r hr
      obtain ⟨j, hj2, rfl⟩ := List.getElem_of_mem hr
      have := hj j (by omega)
      rw [gd_eq hj2] at this
      simpa using this
    rw [e] at k
    refine WP.exit ?_
    refine WP.seq ?_
    refine WP.region ?_
    refine RG.pv rfl (PV.mvB (.inr rfl) rfl) ?_
    refine RG.nil ?_
    refine WP.ret ?_
    exact ⟨_, _, ResV.one rfl rfl, Cv.p, k⟩
def isWv (rs : List Rule) (ws : List Waiver) (v : Int × List Rect) : Bool := hasW ws (sigA rs v)
noncomputable def keptR (rs : List Rule) (E : List (Int × List Rect)) (ws : List Waiver) : List (Int × List Rect) := if wCode rs E ws = 0 then E.filter (fun v => !isWv rs ws v) else []
noncomputable def waivR (rs : List Rule) (E : List (Int × List Rect)) (ws : List Waiver) : List (Int × List Rect) := if wCode rs E ws = 0 then E.filter (isWv rs ws) else []
theorem mks_app (xs ys : List Viol) : mks (xs ++ ys) = mks xs ++ mks ys := by simp [mks]
theorem erVs_app (xs ys : List Viol) : erVs (xs ++ ys) = erVs xs ++ erVs ys := by simp [erVs]
theorem apply_i {d : Deck} {u w : Value} {xs : List Viol} {ws : List Waiver} (h1 : Rs G L ruleT d.rules.v d.rules.xs) (h2 : Rs G L violT u xs) (hd : RsE G L rectT (mks xs)) (h3 : Rs G L waiverT w ws) (hlen : ∀ i, i < ws.length → (gd ws i).reason.size ≤ 9223372036854775807)
    (k : ∀ v' u' ks us, erVs ks = keptR d.rules.xs (erVs xs) ws → erVs us = waivR d.rules.xs (erVs xs) ws → R (.tuple #[v', u', vi (wCode d.rules.xs (erVs xs) ws)]) G (osl 37 violT v' ks :: bagS 101 rectT (mks ks) :: osl 37 violT u' us :: bagS 101 rectT (mks us) :: L)) :
    CallT Tryz.prog 43 #[vT deckT d, u, w] G L R := by
  refine CallT.bd h3 fun hb0 => ?_
  refine CallT.bd h2 fun hb1 => ?_
  refine CallT.enter (args := _) Tryz.func43 rfl rfl (by kernel_rfl) rfl ?_
  refine WP.seq ?_
  refine WP.region ?_
  refine RG.ot rfl (OT.box (cs := deckT.enc d) rfl rfl rfl fun b3 => ?_)
  refine RG.pv rfl (PV.asg rfl rfl) ?_
  refine RG.pv rfl (PV.asg rfl rfl) ?_
  refine RG.pv rfl (PV.mvI (.inr rfl) rfl) ?_
  refine RG.nil ?_
  refine WP.seq ?_
  refine WP.seq ?_
  refine WP.region ?_
  refine RG.pv rfl (PV.loadW rfl Ag33 rfl rfl) ?_
  refine RG.pv rfl (PV.move (v := u) rfl rfl) ?_
  refine RG.pv rfl (PV.move (v := w) rfl rfl) ?_
  refine RG.callF (vs := [_, u, w]) rfl rfl En80 rfl (wcode_i h1.up h2.up hd.up h3.up hlen ?_)
  refine RG.pv rfl (PV.mvI (.inr rfl) rfl) ?_
  refine RG.nil ?_
  refine WP.seq ?_
  refine WP.region ?_
  refine RG.pv rfl (PV.mvI (.inl rfl) rfl) ?_
  refine RG.pv rfl (PV.neq rfl rfl rfl) ?_
  refine RG.nil ?_
  refine WP.cond rfl (fun h4 => ?_) (fun h4 => ?_)
  · have hz : wCode d.rules.xs (erVs xs) ws ≠ 0 := by simpa using h4
    have e : keptR d.rules.xs (erVs xs) ws = [] := by rw [keptR, if_neg hz]
    have e2 : waivR d.rules.xs (erVs xs) ws = [] := by rw [waivR, if_neg hz]
    rw [e, e2] at k
    refine WP.seq ?_
    refine WP.region ?_
    refine RG.pv rfl (PV.mvI (.inl rfl) rfl) ?_
    refine RG.pv rfl (PV.asg rfl rfl) ?_
    refine RG.pv rfl (PV.asg rfl rfl) ?_
    refine RG.pv rfl (PV.mvI (.inr rfl) rfl) ?_
    refine RG.nil ?_
    refine WP.ret ?_
    exact ⟨_, _, ResV.three rfl rfl rfl rfl, ((Cv.p (C := L)).trans ((Cv.bag0 (e := 101) (F := rectT) (xs := mks []) rfl).trans ((Cv.nilS (e := 37) (F := violT)).trans ((Cv.bag0 (e := 101) (F := rectT) (xs := mks []) rfl).trans (Cv.nilS (e := 37) (F := violT)))))), k (.slice none 0 0) (.slice none 0 0) [] [] rfl rfl⟩
  · have hz : wCode d.rules.xs (erVs xs) ws = 0 := by simpa using h4
    have e : keptR d.rules.xs (erVs xs) ws = (erVs xs).filter (fun v => !isWv d.rules.xs ws v) := by rw [keptR, if_pos hz]
    have e2 : waivR d.rules.xs (erVs xs) ws = (erVs xs).filter (isWv d.rules.xs ws) := by rw [waivR, if_pos hz]
    rw [e, e2, hz] at k
    have hel := erVs_len xs
    have hrl : xs.length ≤ 256 := by rw [← hel]; exact rep_len (wCode_zero hz).2.1
    refine WP.skip ?_
    refine WP.seq ?_
    refine WP.region ?_
    refine RG.ot rfl (OT.bslice (F := violT) (els := []) rfl El66 rfl (by decide) rfl (by decide) trivial fun v21 => ?_)
    refine RG.ot rfl (OT.bslice (F := violT) (els := []) rfl El66 rfl (by decide) rfl (by decide) trivial fun v22 => ?_)
    refine RG.pv rfl (PV.asg (v := v21) rfl rfl) ?_
    refine RG.pv rfl (PV.asg (v := v22) rfl rfl) ?_
    refine RG.nil ?_
    refine WP.seq ?_
    refine WP.seq ?_
    refine WP.region ?_
    refine RG.pv rfl (PV.move (v := u) rfl rfl) ?_
    refine RG.pv rfl (PV.len (v := u) rfl Tryz.underlying66 rfl (SlF.r h2)) ?_
    refine RG.pv rfl (PV.mvI (.inl rfl) rfl) ?_
    refine RG.nil ?_
    refine WP.block ?_
    refine WP.cv ((Cv.p (C := osl 37 violT v21 ([] : List Viol) :: osl 37 violT v22 ([] : List Viol) :: blk b3 33 (deckT.enc d) :: L)).trans ((Cv.bag0 (e := 101) (F := rectT) (xs := mks []) rfl).trans ((Cv.bag0 (e := 101) (F := rectT) (xs := mks []) rfl).trans (Cv.pick (.cons (.tail _ (.tail _ (.head _ _))) (.cons (.head _ _) (.cons (.tail _ (.head _ _)) (.cons (.head _ _) (.refl _))))))))) ?_
    refine WP.loop5 [2, 3, 23, 24] (fun (i : Nat) (ks us : List Viol) (q p : Value) => i ≤ xs.length ∧ erVs ks = ((erVs xs).take i).filter (fun v => !isWv d.rules.xs ws v) ∧ erVs us = ((erVs xs).take i).filter (isWv d.rules.xs ws)) (fun (i : Nat) (ks us : List Viol) (q p : Value) => [(25, vi i), (10, q), (11, p)]) (fun (i : Nat) (ks us : List Viol) (q p : Value) => osl 37 violT q ks :: bagS 101 rectT (mks ks) :: osl 37 violT p us :: bagS 101 rectT (mks us) :: blk b3 33 (deckT.enc d) :: L) (fun (i : Nat) (ks us : List Viol) (q p : Value) => xs.length - i) 0 [] [] v21 v22 ⟨by omega, rfl, rfl⟩ ⟨rfl, rfl, rfl, trivial⟩ Cv.p ?_
    rintro i ks us q p τ ⟨hi, hks, hus⟩
    refine WP.seq ?_
    refine WP.region ?_
    refine RG.pv rfl (PV.lss rfl rfl rfl) ?_
    refine RG.nil ?_
    refine WP.seq ?_
    have hkl : ks.length ≤ 256 := by
      have h6 := List.length_filter_le (fun v => !isWv d.rules.xs ws v) ((erVs xs).take i)
      rw [← hks, erVs_len, List.length_take] at h6; omega
    have hul : us.length ≤ 256 := by
      have h6 := List.length_filter_le (isWv d.rules.xs ws) ((erVs xs).take i)
      rw [← hus, erVs_len, List.length_take] at h6; omega
    refine WP.cond rfl (fun h5 => ?_) (fun h5 => ?_)
    · have h5 := of_decide_eq_true h5
      have hpr : Rs G L rectT (gd xs i).marker.v (gd xs i).marker.xs := hd.marker (by omega)
      have hrf := rep_facts hz (i := i) (by omega)
      have hrg := isReg_len hrf.2.2.1
      have f1 := filter_step (fun v => !isWv d.rules.xs ws v) (xs := erVs xs) (i := i) (by omega)
      have f2 := filter_step (isWv d.rules.xs ws) (xs := erVs xs) (i := i) (by omega)
      rw [erVs_gd (by omega)] at f1 f2
      refine WP.skip ?_
      refine WP.seq ?_
      refine WP.block ?_
      refine WP.seq ?_
      refine WP.region ?_
      refine RG.pv rfl (PV.idxS (v := u) rfl Is66 rfl (SlF.r h2) rfl rfl (by omega)) ?_
      refine RG.pv rfl (PV.loadE rfl Ag37 rfl rfl (El.r h2 (getG (by omega)))) ?_
      refine RG.ot rfl (OT.alloc rfl Zr37 fun b13 => ?_)
      refine RG.ot rfl (OT.storeW (vs := [vi _, _]) rfl Sz37 rfl rfl (Cl.c rfl) rfl rfl (OneC.val rfl (OneC.sl (SlF.r hpr) OneC.nil)) ?_)
      refine RG.nil ?_
      refine WP.seq ?_
      refine WP.region ?_
      refine RG.pv rfl (PV.move (v := w) rfl rfl) ?_
      refine RG.pv rfl (PV.loadW rfl Ag33 rfl rfl) ?_
      refine RG.pv rfl (PV.loadW rfl Ag37 rfl rfl) ?_
      refine RG.callF (vs := [_, _]) rfl rfl En66 rfl (sigV_i h1.up hpr.up hrf.1 hrf.2.1 hrf.2.2.1 hrf.2.2.2 ?_)
      refine RG.callF (vs := [w, _]) rfl rfl En88 rfl (waives_s (Rs.up h3) ?_)
      refine RG.nil ?_
      refine WP.cond rfl (fun h6 => ?_) (fun h6 => ?_)
      · have h7 : isWv d.rules.xs ws (erV (gd xs i)) = true := h6
        rw [h7] at f1 f2
        refine WP.region ?_
        refine RG.pv rfl (PV.move (v := p) rfl rfl) ?_
        refine RG.pv rfl (PV.loadW rfl Ag37 rfl rfl) ?_
        refine RG.callF (vs := [_]) rfl rfl En89 rfl (copyV_i hpr.up (by omega) (fun w36 => ?_))
        refine RG.ot rfl (OT.bslice (F := violT) (els := [⟨(gd xs i).rule, ⟨w36, (gd xs i).marker.xs⟩⟩]) rfl El66 rfl (by decide) rfl (by decide) ⟨rfl, (Cl.c rfl), trivial⟩ fun v37 => ?_)
        refine RG.ot rfl (OT.append (v := p) (u := v37) (F := violT) rfl El66 rfl (by decide) rfl rfl Rs.o (OneL.one (OneC.val rfl (OneC.sl SlF.o OneC.nil))) rfl (by first | omega | (simp <;> omega)) fun v38 => ?_)
        refine RG.pv rfl (PV.asg (v := v38) rfl rfl) ?_
        refine RG.nil ?_
        refine WP.region ?_
        refine RG.pv rfl (PV.add rfl rfl rfl (by omega)) ?_
        refine RG.pv rfl (PV.mvI (.inl rfl) rfl) ?_
        refine RG.nil ?_
        exact ⟨rfl, i + 1, ks, (us ++ [⟨(gd xs i).rule, ⟨w36, (gd xs i).marker.xs⟩⟩]), q, v38, ⟨by omega, by rw [f1]; simpa using hks, by rw [f2, erVs_app, hus]; rfl⟩, ⟨rfl, rfl, rfl, trivial⟩, ⟨rfl, rfl, rfl, rfl, trivial⟩, ((Cv.p (C := osl 101 rectT w36 (gd xs i).marker.xs :: bagS 101 rectT (mks us) :: osl 37 violT q ks :: bagS 101 rectT (mks ks) :: osl 37 violT v38 (us ++ [⟨(gd xs i).rule, ⟨w36, (gd xs i).marker.xs⟩⟩]) :: blk b3 33 (deckT.enc d) :: L)).trans ((Cv.grow (ys' := mks (us ++ [⟨(gd xs i).rule, ⟨w36, (gd xs i).marker.xs⟩⟩])) (by rw [mks_app]; rfl)).trans Cv.p)), by omega⟩
      · have h7 : isWv d.rules.xs ws (erV (gd xs i)) = false := h6
        rw [h7] at f1 f2
        refine WP.region ?_
        refine RG.pv rfl (PV.move (v := q) rfl rfl) ?_
        refine RG.pv rfl (PV.loadW rfl Ag37 rfl rfl) ?_
        refine RG.callF (vs := [_]) rfl rfl En89 rfl (copyV_i hpr.up (by omega) (fun w41 => ?_))
        refine RG.ot rfl (OT.bslice (F := violT) (els := [⟨(gd xs i).rule, ⟨w41, (gd xs i).marker.xs⟩⟩]) rfl El66 rfl (by decide) rfl (by decide) ⟨rfl, (Cl.c rfl), trivial⟩ fun v42 => ?_)
        refine RG.ot rfl (OT.append (v := q) (u := v42) (F := violT) rfl El66 rfl (by decide) rfl rfl Rs.o (OneL.one (OneC.val rfl (OneC.sl SlF.o OneC.nil))) rfl (by first | omega | (simp <;> omega)) fun v43 => ?_)
        refine RG.pv rfl (PV.asg (v := v43) rfl rfl) ?_
        refine RG.nil ?_
        refine WP.region ?_
        refine RG.pv rfl (PV.add rfl rfl rfl (by omega)) ?_
        refine RG.pv rfl (PV.mvI (.inl rfl) rfl) ?_
        refine RG.nil ?_
        exact ⟨rfl, i + 1, (ks ++ [⟨(gd xs i).rule, ⟨w41, (gd xs i).marker.xs⟩⟩]), us, v43, p, ⟨by omega, by rw [f1, erVs_app, hks]; rfl, by rw [f2]; simpa using hus⟩, ⟨rfl, rfl, rfl, trivial⟩, ⟨rfl, rfl, rfl, rfl, trivial⟩, ((Cv.p (C := osl 101 rectT w41 (gd xs i).marker.xs :: bagS 101 rectT (mks ks) :: osl 37 violT p us :: bagS 101 rectT (mks us) :: osl 37 violT v43 (ks ++ [⟨(gd xs i).rule, ⟨w41, (gd xs i).marker.xs⟩⟩]) :: blk b3 33 (deckT.enc d) :: L)).trans ((Cv.grow (ys' := mks (ks ++ [⟨(gd xs i).rule, ⟨w41, (gd xs i).marker.xs⟩⟩])) (by rw [mks_app]; rfl)).trans Cv.p)), by omega⟩
    · have h5 := of_decide_eq_false h5
      rw [List.take_of_length_le (by omega)] at hks hus
      refine WP.exit ?_
      refine WP.seq ?_
      refine WP.region ?_
      refine RG.pv rfl (PV.move (v := q) rfl rfl) ?_
      refine RG.pv rfl (PV.move (v := p) rfl rfl) ?_
      refine RG.pv rfl (PV.asg (v := q) rfl rfl) ?_
      refine RG.pv rfl (PV.asg (v := p) rfl rfl) ?_
      refine RG.pv rfl (PV.mvI (.inr rfl) rfl) ?_
      refine RG.nil ?_
      refine WP.ret ?_
      exact ⟨_, _, ResV.three rfl rfl rfl rfl, Cv.p, k q p ks us hks hus⟩
theorem apply_r {d : Deck} {u w : Value} {xs : List Viol} {ws : List Waiver} (h1 : Rs G L ruleT d.rules.v d.rules.xs) (h2 : Rs G L violT u xs) (hd : RsE G L rectT (mks xs)) (h3 : Rs G L waiverT w ws) (hlen : ∀ i, i < ws.length → (gd ws i).reason.size ≤ 9223372036854775807)
    (k : ∀ v' u' ks us, erVs ks = keptR d.rules.xs (erVs xs) ws → erVs us = waivR d.rules.xs (erVs xs) ws → R (.tuple #[v', u', vi (wCode d.rules.xs (erVs xs) ws)]) G (osl 37 violT v' ks :: bagS 101 rectT (mks ks) :: osl 37 violT u' us :: bagS 101 rectT (mks us) :: L)) :
    CallT Tryz.prog 42 #[vT deckT d, u, w] G L R := by
  refine CallT.bd h3 fun hb0 => ?_
  refine CallT.bd h2 fun hb1 => ?_
  refine CallT.enter (args := _) Tryz.func42 rfl rfl (by kernel_rfl) rfl ?_
  refine WP.seq ?_
  refine WP.region ?_
  refine RG.ot rfl (OT.box (cs := deckT.enc d) rfl rfl rfl fun b3 => ?_)
  refine RG.pv rfl (PV.asg rfl rfl) ?_
  refine RG.pv rfl (PV.asg rfl rfl) ?_
  refine RG.pv rfl (PV.mvI (.inr rfl) rfl) ?_
  refine RG.nil ?_
  refine WP.seq ?_
  refine WP.region ?_
  refine RG.pv rfl (PV.loadW rfl Ag33 rfl rfl) ?_
  refine RG.pv rfl (PV.move (v := u) rfl rfl) ?_
  refine RG.pv rfl (PV.move (v := w) rfl rfl) ?_
  refine RG.callF (vs := [_, u, w]) rfl rfl En78 rfl (wcode_r h1.up h2.up hd.up h3.up hlen ?_)
  refine RG.pv rfl (PV.mvI (.inr rfl) rfl) ?_
  refine RG.nil ?_
  refine WP.seq ?_
  refine WP.seq ?_
  refine WP.region ?_
  refine RG.pv rfl (PV.mvI (.inl rfl) rfl) ?_
  refine RG.pv rfl (PV.neq rfl rfl rfl) ?_
  refine RG.nil ?_
  refine WP.cond rfl (fun h4 => ?_) (fun h4 => ?_)
  · have hz : wCode d.rules.xs (erVs xs) ws ≠ 0 := by simpa using h4
    have e : keptR d.rules.xs (erVs xs) ws = [] := by rw [keptR, if_neg hz]
    have e2 : waivR d.rules.xs (erVs xs) ws = [] := by rw [waivR, if_neg hz]
    rw [e, e2] at k
    refine WP.seq ?_
    refine WP.region ?_
    refine RG.pv rfl (PV.mvI (.inl rfl) rfl) ?_
    refine RG.pv rfl (PV.asg rfl rfl) ?_
    refine RG.pv rfl (PV.asg rfl rfl) ?_
    refine RG.pv rfl (PV.mvI (.inr rfl) rfl) ?_
    refine RG.nil ?_
    refine WP.ret ?_
    exact ⟨_, _, ResV.three rfl rfl rfl rfl, ((Cv.p (C := L)).trans ((Cv.bag0 (e := 101) (F := rectT) (xs := mks []) rfl).trans ((Cv.nilS (e := 37) (F := violT)).trans ((Cv.bag0 (e := 101) (F := rectT) (xs := mks []) rfl).trans (Cv.nilS (e := 37) (F := violT)))))), k (.slice none 0 0) (.slice none 0 0) [] [] rfl rfl⟩
  · have hz : wCode d.rules.xs (erVs xs) ws = 0 := by simpa using h4
    have e : keptR d.rules.xs (erVs xs) ws = (erVs xs).filter (fun v => !isWv d.rules.xs ws v) := by rw [keptR, if_pos hz]
    have e2 : waivR d.rules.xs (erVs xs) ws = (erVs xs).filter (isWv d.rules.xs ws) := by rw [waivR, if_pos hz]
    rw [e, e2, hz] at k
    have hel := erVs_len xs
    have hrl : xs.length ≤ 256 := by rw [← hel]; exact rep_len (wCode_zero hz).2.1
    refine WP.skip ?_
    refine WP.seq ?_
    refine WP.region ?_
    refine RG.ot rfl (OT.bslice (F := violT) (els := []) rfl El66 rfl (by decide) rfl (by decide) trivial fun v20 => ?_)
    refine RG.pv rfl (PV.asg (v := v20) rfl rfl) ?_
    refine RG.nil ?_
    refine WP.seq ?_
    refine WP.region ?_
    refine RG.ot rfl (OT.bslice (F := violT) (els := []) rfl El66 rfl (by decide) rfl (by decide) trivial fun v21 => ?_)
    refine RG.pv rfl (PV.asg (v := v21) rfl rfl) ?_
    refine RG.nil ?_
    refine WP.seq ?_
    refine WP.seq ?_
    refine WP.region ?_
    refine RG.pv rfl (PV.mvI (.inr rfl) rfl) ?_
    refine RG.nil ?_
    refine WP.block ?_
    refine WP.cv ((Cv.p (C := osl 37 violT v20 ([] : List Viol) :: osl 37 violT v21 ([] : List Viol) :: blk b3 33 (deckT.enc d) :: L)).trans ((Cv.bag0 (e := 101) (F := rectT) (xs := mks []) rfl).trans ((Cv.bag0 (e := 101) (F := rectT) (xs := mks []) rfl).trans (Cv.pick (.cons (.tail _ (.tail _ (.head _ _))) (.cons (.head _ _) (.cons (.tail _ (.head _ _)) (.cons (.head _ _) (.refl _))))))))) ?_
    refine WP.loop5 [1, 2, 3] (fun (i : Nat) (ks us : List Viol) (q p : Value) => i ≤ xs.length ∧ erVs ks = ((erVs xs).take i).filter (fun v => !isWv d.rules.xs ws v) ∧ erVs us = ((erVs xs).take i).filter (isWv d.rules.xs ws)) (fun (i : Nat) (ks us : List Viol) (q p : Value) => [(12, vi i), (10, q), (11, p)]) (fun (i : Nat) (ks us : List Viol) (q p : Value) => osl 37 violT q ks :: bagS 101 rectT (mks ks) :: osl 37 violT p us :: bagS 101 rectT (mks us) :: blk b3 33 (deckT.enc d) :: L) (fun (i : Nat) (ks us : List Viol) (q p : Value) => xs.length - i) 0 [] [] v20 v21 ⟨by omega, rfl, rfl⟩ ⟨rfl, rfl, rfl, trivial⟩ Cv.p ?_
    rintro i ks us q p τ ⟨hi, hks, hus⟩
    refine WP.seq ?_
    refine WP.seq ?_
    refine WP.region ?_
    refine RG.pv rfl (PV.mvI (.inl rfl) rfl) ?_
    refine RG.pv rfl (PV.move (v := u) rfl rfl) ?_
    refine RG.pv rfl (PV.len (v := u) rfl Tryz.underlying66 rfl (SlF.r h2)) ?_
    refine RG.pv rfl (PV.lss rfl rfl rfl) ?_
    refine RG.nil ?_
    have hkl : ks.length ≤ 256 := by
      have h6 := List.length_filter_le (fun v => !isWv d.rules.xs ws v) ((erVs xs).take i)
      rw [← hks, erVs_len, List.length_take] at h6; omega
    have hul : us.length ≤ 256 := by
      have h6 := List.length_filter_le (isWv d.rules.xs ws) ((erVs xs).take i)
      rw [← hus, erVs_len, List.length_take] at h6; omega
    refine WP.cond rfl (fun h5 => ?_) (fun h5 => ?_)
    · have h5 := of_decide_eq_true h5
      have hpr : Rs G L rectT (gd xs i).marker.v (gd xs i).marker.xs := hd.marker (by omega)
      have hrf := rep_facts hz (i := i) (by omega)
      have hrg := isReg_len hrf.2.2.1
      have f1 := filter_step (fun v => !isWv d.rules.xs ws v) (xs := erVs xs) (i := i) (by omega)
      have f2 := filter_step (isWv d.rules.xs ws) (xs := erVs xs) (i := i) (by omega)
      rw [erVs_gd (by omega)] at f1 f2
      have hrf1 := hrf.1
      refine WP.skip ?_
      refine WP.seq ?_
      refine WP.block ?_
      refine WP.seq ?_
      refine WP.regionQ (by kernel_rfl) (by kernel_rfl) ?_
      refine RQ.pv rfl (PV.move (v := w) rfl rfl) ?_
      refine RQ.pv rfl (PV.field rfl Fo33_0 rfl) ?_
      refine RQ.pv rfl (PV.load1 rfl Sc31 rfl (Rd.blk rfl)) ?_
      refine RQ.pv rfl (PV.move (v := u) rfl rfl) ?_
      refine RQ.pv rfl (PV.mvI (.inl rfl) rfl) ?_
      refine RQ.pv rfl (PV.idxS (v := u) rfl Is66 rfl (SlF.r h2) rfl rfl (by omega)) ?_
      refine RQ.pv rfl (PV.field rfl Fo37_0 rfl) ?_
      refine RQ.pv rfl (PV.loadF rfl Sc2 rfl rfl (El.r h2 (getG (by omega))) rfl) ?_
      refine RQ.pv rfl (PV.idxS (j := (gd xs i).rule.toNat) rfl Is31 rfl (SlF.r h1) rfl (by omega) (by omega)) ?_
      refine RQ.pv rfl (PV.loadE rfl Ag52 rfl rfl (El.r h1 (getG (by omega)))) ?_
      refine RQ.pv rfl (PV.move (v := u) rfl rfl) ?_
      refine RQ.pv rfl (PV.mvI (.inl rfl) rfl) ?_
      refine RQ.pv rfl (PV.idxS (v := u) rfl Is66 rfl (SlF.r h2) rfl rfl (by omega)) ?_
      refine RQ.pv rfl (PV.field rfl Fo37_1 rfl) ?_
      refine RQ.pv rfl (PV.loadF rfl Sc35 rfl rfl (El.r h2 (getG (by omega))) rfl) ?_
      refine RQ.callF (vs := [_, _]) rfl rfl En62 rfl (l22Sig_s hpr.up hrf.2.1 hrf.2.2.1 hrf.2.2.2 ⟨rfl, rfl, rfl⟩) ?_
      refine RQ.callF (vs := [w, _]) rfl rfl En86 rfl (l22Has_s (Rs.up h3) ⟨rfl, rfl, rfl⟩) ?_
      refine RQ.nil ?_
      refine WP.cond rfl (fun h6 => ?_) (fun h6 => ?_)
      · have h7 : isWv d.rules.xs ws (erV (gd xs i)) = true := h6
        rw [h7] at f1 f2
        refine WP.region ?_
        refine RG.pv rfl (PV.move (v := p) rfl rfl) ?_
        refine RG.pv rfl (PV.move (v := u) rfl rfl) ?_
        refine RG.pv rfl (PV.mvI (.inl rfl) rfl) ?_
        refine RG.pv rfl (PV.idxS (v := u) rfl Is66 rfl (SlF.r h2) rfl rfl (by omega)) ?_
        refine RG.pv rfl (PV.loadE rfl Ag37 rfl rfl (El.r h2 (getG (by omega)))) ?_
        refine RG.callF (vs := [_]) rfl rfl En87 rfl (copyV_r hpr.up (by omega) (fun w50 => ?_))
        refine RG.ot rfl (OT.bslice (F := violT) (els := [⟨(gd xs i).rule, ⟨w50, (gd xs i).marker.xs⟩⟩]) rfl El66 rfl (by decide) rfl (by decide) ⟨rfl, (Cl.c rfl), trivial⟩ fun v51 => ?_)
        refine RG.ot rfl (OT.append (v := p) (u := v51) (F := violT) rfl El66 rfl (by decide) rfl rfl Rs.o (OneL.one (OneC.val rfl (OneC.sl SlF.o OneC.nil))) rfl (by first | omega | (simp <;> omega)) fun v52 => ?_)
        refine RG.pv rfl (PV.asg (v := v52) rfl rfl) ?_
        refine RG.nil ?_
        refine WP.region ?_
        refine RG.pv rfl (PV.mvI (.inl rfl) rfl) ?_
        refine RG.pv rfl (PV.add rfl rfl rfl (by omega)) ?_
        refine RG.pv rfl (PV.mvI (.inr rfl) rfl) ?_
        refine RG.nil ?_
        exact ⟨rfl, i + 1, ks, (us ++ [⟨(gd xs i).rule, ⟨w50, (gd xs i).marker.xs⟩⟩]), q, v52, ⟨by omega, by rw [f1]; simpa using hks, by rw [f2, erVs_app, hus]; rfl⟩, ⟨rfl, rfl, rfl, trivial⟩, ⟨rfl, rfl, rfl, trivial⟩, ((Cv.p (C := osl 101 rectT w50 (gd xs i).marker.xs :: bagS 101 rectT (mks us) :: osl 37 violT q ks :: bagS 101 rectT (mks ks) :: osl 37 violT v52 (us ++ [⟨(gd xs i).rule, ⟨w50, (gd xs i).marker.xs⟩⟩]) :: blk b3 33 (deckT.enc d) :: L)).trans ((Cv.grow (ys' := mks (us ++ [⟨(gd xs i).rule, ⟨w50, (gd xs i).marker.xs⟩⟩])) (by rw [mks_app]; rfl)).trans Cv.p)), by omega⟩
      · have h7 : isWv d.rules.xs ws (erV (gd xs i)) = false := h6
        rw [h7] at f1 f2
        refine WP.region ?_
        refine RG.pv rfl (PV.move (v := q) rfl rfl) ?_
        refine RG.pv rfl (PV.move (v := u) rfl rfl) ?_
        refine RG.pv rfl (PV.mvI (.inl rfl) rfl) ?_
        refine RG.pv rfl (PV.idxS (v := u) rfl Is66 rfl (SlF.r h2) rfl rfl (by omega)) ?_
        refine RG.pv rfl (PV.loadE rfl Ag37 rfl rfl (El.r h2 (getG (by omega)))) ?_
        refine RG.callF (vs := [_]) rfl rfl En87 rfl (copyV_r hpr.up (by omega) (fun w58 => ?_))
        refine RG.ot rfl (OT.bslice (F := violT) (els := [⟨(gd xs i).rule, ⟨w58, (gd xs i).marker.xs⟩⟩]) rfl El66 rfl (by decide) rfl (by decide) ⟨rfl, (Cl.c rfl), trivial⟩ fun v59 => ?_)
        refine RG.ot rfl (OT.append (v := q) (u := v59) (F := violT) rfl El66 rfl (by decide) rfl rfl Rs.o (OneL.one (OneC.val rfl (OneC.sl SlF.o OneC.nil))) rfl (by first | omega | (simp <;> omega)) fun v60 => ?_)
        refine RG.pv rfl (PV.asg (v := v60) rfl rfl) ?_
        refine RG.nil ?_
        refine WP.region ?_
        refine RG.pv rfl (PV.mvI (.inl rfl) rfl) ?_
        refine RG.pv rfl (PV.add rfl rfl rfl (by omega)) ?_
        refine RG.pv rfl (PV.mvI (.inr rfl) rfl) ?_
        refine RG.nil ?_
        exact ⟨rfl, i + 1, (ks ++ [⟨(gd xs i).rule, ⟨w58, (gd xs i).marker.xs⟩⟩]), us, v60, p, ⟨by omega, by rw [f1, erVs_app, hks]; rfl, by rw [f2]; simpa using hus⟩, ⟨rfl, rfl, rfl, trivial⟩, ⟨rfl, rfl, rfl, trivial⟩, ((Cv.p (C := osl 101 rectT w58 (gd xs i).marker.xs :: bagS 101 rectT (mks ks) :: osl 37 violT p us :: bagS 101 rectT (mks us) :: osl 37 violT v60 (ks ++ [⟨(gd xs i).rule, ⟨w58, (gd xs i).marker.xs⟩⟩]) :: blk b3 33 (deckT.enc d) :: L)).trans ((Cv.grow (ys' := mks (ks ++ [⟨(gd xs i).rule, ⟨w58, (gd xs i).marker.xs⟩⟩])) (by rw [mks_app]; rfl)).trans Cv.p)), by omega⟩
    · have h5 := of_decide_eq_false h5
      rw [List.take_of_length_le (by omega)] at hks hus
      refine WP.exit ?_
      refine WP.seq ?_
      refine WP.region ?_
      refine RG.pv rfl (PV.move (v := q) rfl rfl) ?_
      refine RG.pv rfl (PV.move (v := p) rfl rfl) ?_
      refine RG.pv rfl (PV.asg (v := q) rfl rfl) ?_
      refine RG.pv rfl (PV.asg (v := p) rfl rfl) ?_
      refine RG.pv rfl (PV.mvI (.inr rfl) rfl) ?_
      refine RG.nil ?_
      refine WP.ret ?_
      exact ⟨_, _, ResV.three rfl rfl rfl rfl, Cv.p, k q p ks us hks hus⟩
end Go.Proofs.YtgngpegmaceaiaaGreat
namespace Go.Proofs.YtgngpegmaceaiaaGreat
set_option linter.unusedVariables false
set_option linter.unusedSimpArgs false
open Go
set_option maxRecDepth 20000
set_option maxHeartbeats 2000000
set_option linter.unusedSimpArgs false
variable {G : Gh} {L : List Ch} {R : Value → Gh → List Ch → Prop}
theorem widthL_v (xs : List Rect) (w : Int) : validRs (widthL xs w) = true := by
  unfold widthL; split
  · exact isReg_valid (isReg_canon (celL_len _))
  · exact vnil
theorem spaceL_v (xs : List Rect) (w : Int) : validRs (spaceL xs w) = true := by
  unfold spaceL; split
  · exact isReg_valid (isReg_canon (celL_len _))
  · exact vnil
theorem betwL_v (xs ys : List Rect) (w : Int) : validRs (betwL xs ys w) = true := by
  unfold betwL; split
  · exact isReg_valid (isReg_canon (celL_len _))
  · exact vnil
theorem rule_w {v : Value} {ys : List (Sl Rect)} {q : Rule} (h1 : Rs G L slT v ys) (hd : RsE G L rectT ys) (k : ∀ v' zs, validRs zs = true → R v' G (osl 101 rectT v' zs :: L)) : CallT Tryz.prog 58 #[v, vT ruleT q] G L R := by
  refine CallT.enter (args := _) Tryz.func58 rfl rfl (by kernel_rfl) rfl ?_
  refine WP.seq ?_
  refine WP.region ?_
  refine RG.ot rfl (OT.box (cs := ruleT.enc q) rfl rfl rfl fun b3 => ?_)
  refine RG.pv rfl (PV.asg rfl rfl) ?_
  refine RG.nil ?_
  refine WP.seq ?_
  refine WP.seq ?_
  refine WP.region ?_
  refine RG.pv rfl (PV.move (v := v) rfl rfl) ?_
  refine RG.callF (vs := [v]) rfl rfl En113 rfl (l19Layout_s (Rs.up h1) hd.up ?_)
  refine RG.pv rfl (PV.not rfl rfl) ?_
  refine RG.pv rfl (PV.mvB (.inl rfl) rfl) ?_
  refine RG.gs rfl rfl rfl (fun hp => (PV.loadW rfl Ag52 rfl rfl)) ?_
  refine RG.gsC rfl rfl rfl rfl En51 (fun hp => ⟨_, (acons (gs_t hp) anil), validRule_s ⟨rfl, rfl, rfl⟩⟩) ?_
  refine RG.gs rfl rfl rfl (fun hp => (PV.not rfl (gs_t hp))) ?_
  refine RG.pv rfl (PV.pickO rfl rfl rfl (fun hq => gs_t (geqF hq))) ?_
  refine RG.nil ?_
  refine WP.cond rfl (fun h2 => ?_) (fun h2 => ?_)
  · refine WP.seq ?_
    refine WP.region ?_
    refine RG.ot rfl (OT.bslice (F := rectT) (els := []) rfl El35 rfl (by decide) rfl (by decide) trivial fun v14 => ?_)
    refine RG.pv rfl (PV.asg (v := v14) rfl rfl) ?_
    refine RG.nil ?_
    refine WP.ret ?_
    exact ⟨_, _, ResV.one rfl rfl, Cv.p, k v14 [] vnil⟩
  · have h3 : isLay (er ys) = true ∧ validRule q = true := by cases g1 : isLay (er ys) <;> cases g2 : validRule q <;> simp_all
    have hl8 : ys.length = 8 := by have := isLay_len h3.1; rwa [er_len] at this
    have hlr : 0 ≤ q.layer ∧ q.layer ≤ 7 := by have := h3.2; simp only [validRule, within, Bool.and_eq_true, decide_eq_true_eq] at this; omega
    have hor : paired q.kind = true → 0 ≤ q.other ∧ q.other ≤ 7 := fun hp => by have := h3.2; simp only [validRule, okOther, within, hp, Bool.and_eq_true, decide_eq_true_eq] at this; simp at this; omega
    refine WP.skip ?_
    refine WP.seq ?_
    refine WP.region ?_
    refine RG.pv rfl (PV.move (v := v) rfl rfl) ?_
    refine RG.pv rfl (PV.field rfl Fo52_1 rfl) ?_
    refine RG.pv rfl (PV.load1 rfl Sc2 rfl (Rd.blk rfl)) ?_
    refine RG.pv rfl (PV.idxS (j := q.layer.toNat) (v := v) rfl Is50 rfl (SlF.r h1) rfl (by omega) (by omega)) ?_
    refine RG.pv rfl (PV.loadE1 rfl Sc35 rfl rfl (El.r h1 (getG (by omega))) rfl) ?_
    refine RG.pv rfl (PV.asg rfl rfl) ?_
    refine RG.nil ?_
    refine WP.seq ?_
    refine WP.seq ?_
    refine WP.region ?_
    refine RG.pv rfl (PV.field rfl Fo52_0 rfl) ?_
    refine RG.pv rfl (PV.load1 rfl Sc2 rfl (Rd.blk rfl)) ?_
    refine RG.nil ?_
    refine WP.block ?_
    refine WP.seq ?_
    refine WP.region ?_
    refine RG.pv rfl (PV.eql rfl rfl rfl) ?_
    refine RG.pv rfl (PV.mvB (.inr rfl) rfl) ?_
    refine RG.nil ?_
    refine WP.cond rfl (fun h4 => ?_) (fun h4 => ?_)
    · refine WP.seq ?_
      refine WP.region ?_
      refine RG.pv rfl (PV.move rfl rfl) ?_
      refine RG.pv rfl (PV.field rfl Fo52_3 rfl) ?_
      refine RG.pv rfl (PV.load1 rfl Sc2 rfl (Rd.blk rfl)) ?_
      refine RG.callF (vs := [_, _]) rfl rfl En114 rfl (markWidth_s (hd q.layer.toNat (by omega)).up (fun v27 => ?_))
      refine RG.pv rfl (PV.asg (v := v27) rfl rfl) ?_
      refine RG.nil ?_
      refine WP.ret ?_
      exact ⟨_, _, ResV.one rfl rfl, Cv.p, k v27 (widthL (gd ys q.layer.toNat).xs q.value) (widthL_v _ _)⟩
    · refine WP.seq ?_
      refine WP.region ?_
      refine RG.pv rfl (PV.eql rfl rfl rfl) ?_
      refine RG.pv rfl (PV.mvB (.inr rfl) rfl) ?_
      refine RG.nil ?_
      refine WP.cond rfl (fun h5 => ?_) (fun h5 => ?_)
      · refine WP.seq ?_
        refine WP.region ?_
        refine RG.pv rfl (PV.move rfl rfl) ?_
        refine RG.pv rfl (PV.field rfl Fo52_3 rfl) ?_
        refine RG.pv rfl (PV.load1 rfl Sc2 rfl (Rd.blk rfl)) ?_
        refine RG.callF (vs := [_, _]) rfl rfl En115 rfl (markSpacing_s (hd q.layer.toNat (by omega)).up (fun v33 => ?_))
        refine RG.pv rfl (PV.asg (v := v33) rfl rfl) ?_
        refine RG.nil ?_
        refine WP.ret ?_
        exact ⟨_, _, ResV.one rfl rfl, Cv.p, k v33 (spaceL (gd ys q.layer.toNat).xs q.value) (spaceL_v _ _)⟩
      · refine WP.seq ?_
        refine WP.region ?_
        refine RG.pv rfl (PV.eql rfl rfl rfl) ?_
        refine RG.pv rfl (PV.mvB (.inr rfl) rfl) ?_
        refine RG.nil ?_
        refine WP.cond rfl (fun h6 => ?_) (fun h6 => ?_)
        · have h7 := hor (by rw [paired, h6]; rfl)
          refine WP.seq ?_
          refine WP.regionH0 (.q 0 (.q 1 (.q 2 (.q 3 (.q 4 (.q 5 (.q 6 (.q 7 (.l 8 (.q 9 Sch.nil)))))))))) (by kernel_rfl) (by kernel_rfl) (by kernel_rfl) rfl ?_
          refine RH.pv rfl (fun _ _ _ _ h => h) (Gh.le_refl _) PickC.pick rfl (PV.move rfl rfl) ?_
          refine RH.pv rfl (fun _ _ _ _ h => h) (Gh.le_refl _) PickC.pick rfl (PV.move (v := v) rfl rfl) ?_
          refine RH.pv rfl (fun _ _ _ _ h => h) (Gh.le_refl _) PickC.pick rfl (PV.field rfl Fo52_2 rfl) ?_
          refine RH.pv rfl (fun _ _ _ _ h => h) (Gh.le_refl _) PickC.pick rfl (PV.load1 rfl Sc2 rfl (Rd.blk rfl)) ?_
          refine RH.pv rfl (fun _ _ _ _ h => h) (Gh.le_refl _) PickC.pick rfl (PV.idxS (j := q.other.toNat) (v := v) rfl Is50 rfl (SlF.r h1) rfl (by omega) (by omega)) ?_
          refine RH.pv rfl (fun _ _ _ _ h => h) (Gh.le_refl _) PickC.pick rfl (PV.loadE1 rfl Sc35 rfl rfl (El.r h1 (getG (by omega))) rfl) ?_
          refine RH.pv rfl (fun _ _ _ _ h => h) (Gh.le_refl _) PickC.pick rfl (PV.field rfl Fo52_3 rfl) ?_
          refine RH.pv rfl (fun _ _ _ _ h => h) (Gh.le_refl _) PickC.pick rfl (PV.load1 rfl Sc2 rfl (Rd.blk rfl)) ?_
          refine RH.ot rfl rfl (OT.callF (vs := [_, _, _]) rfl En116 rfl (markBetween_s (hd q.layer.toNat (by omega)).up (hd q.other.toNat (by omega)).up (fun v44 => ⟨Gh.le_refl _, PickC.pick, ?_⟩)))
          refine RH.pv rfl (fun _ _ _ _ h => h) (Gh.le_refl _) PickC.pick rfl (PV.asg (v := v44) rfl rfl) ?_
          refine RH.nil ?_
          refine WP.ret ?_
          exact ⟨_, _, ResV.one rfl rfl, Cv.p, k v44 (betwL (gd ys q.layer.toNat).xs (gd ys q.other.toNat).xs q.value) (betwL_v _ _ _)⟩
        · refine WP.seq ?_
          refine WP.region ?_
          refine RG.pv rfl (PV.eql rfl rfl rfl) ?_
          refine RG.pv rfl (PV.mvB (.inr rfl) rfl) ?_
          refine RG.nil ?_
          refine WP.cond rfl (fun h8 => ?_) (fun h8 => ?_)
          · have h7 := hor (by rw [paired, h8]; simp)
            refine WP.seq ?_
            refine WP.regionH0 (.q 0 (.q 1 (.q 2 (.q 3 (.q 4 (.q 5 (.q 6 (.q 7 (.l 8 (.q 9 Sch.nil)))))))))) (by kernel_rfl) (by kernel_rfl) (by kernel_rfl) rfl ?_
            refine RH.pv rfl (fun _ _ _ _ h => h) (Gh.le_refl _) PickC.pick rfl (PV.move rfl rfl) ?_
            refine RH.pv rfl (fun _ _ _ _ h => h) (Gh.le_refl _) PickC.pick rfl (PV.move (v := v) rfl rfl) ?_
            refine RH.pv rfl (fun _ _ _ _ h => h) (Gh.le_refl _) PickC.pick rfl (PV.field rfl Fo52_2 rfl) ?_
            refine RH.pv rfl (fun _ _ _ _ h => h) (Gh.le_refl _) PickC.pick rfl (PV.load1 rfl Sc2 rfl (Rd.blk rfl)) ?_
            refine RH.pv rfl (fun _ _ _ _ h => h) (Gh.le_refl _) PickC.pick rfl (PV.idxS (j := q.other.toNat) (v := v) rfl Is50 rfl (SlF.r h1) rfl (by omega) (by omega)) ?_
            refine RH.pv rfl (fun _ _ _ _ h => h) (Gh.le_refl _) PickC.pick rfl (PV.loadE1 rfl Sc35 rfl rfl (El.r h1 (getG (by omega))) rfl) ?_
            refine RH.pv rfl (fun _ _ _ _ h => h) (Gh.le_refl _) PickC.pick rfl (PV.field rfl Fo52_3 rfl) ?_
            refine RH.pv rfl (fun _ _ _ _ h => h) (Gh.le_refl _) PickC.pick rfl (PV.load1 rfl Sc2 rfl (Rd.blk rfl)) ?_
            refine RH.ot rfl rfl (OT.callF (vs := [_, _, _]) rfl En117 rfl (markEncl_w (hd q.layer.toNat (by omega)).up (hd q.other.toNat (by omega)).up (fun v55 zsv55 hzv55 => ⟨Gh.le_refl _, PickC.pick, ?_⟩)))
            refine RH.pv rfl (fun _ _ _ _ h => h) (Gh.le_refl _) PickC.pick rfl (PV.asg (v := v55) rfl rfl) ?_
            refine RH.nil ?_
            refine WP.ret ?_
            exact ⟨_, _, ResV.one rfl rfl, Cv.p, k v55 _ hzv55⟩
          · refine WP.seq ?_
            refine WP.region ?_
            refine RG.pv rfl (PV.eql rfl rfl rfl) ?_
            refine RG.pv rfl (PV.mvB (.inr rfl) rfl) ?_
            refine RG.nil ?_
            refine WP.cond rfl (fun h9 => ?_) (fun h9 => ?_)
            · refine WP.seq ?_
              refine WP.region ?_
              refine RG.pv rfl (PV.move rfl rfl) ?_
              refine RG.pv rfl (PV.field rfl Fo52_3 rfl) ?_
              refine RG.pv rfl (PV.load1 rfl Sc2 rfl (Rd.blk rfl)) ?_
              refine RG.callF (vs := [_, _]) rfl rfl En118 rfl (markArea_w (hd q.layer.toNat (by omega)).up (fun v61 zsv61 hzv61 => ?_))
              refine RG.pv rfl (PV.asg (v := v61) rfl rfl) ?_
              refine RG.nil ?_
              refine WP.ret ?_
              exact ⟨_, _, ResV.one rfl rfl, Cv.p, k v61 _ hzv61⟩
            · refine WP.skip ?_
              refine WP.seq ?_
              refine WP.region ?_
              refine RG.pv rfl (PV.move rfl rfl) ?_
              refine RG.pv rfl (PV.field rfl Fo52_3 rfl) ?_
              refine RG.pv rfl (PV.load1 rfl Sc2 rfl (Rd.blk rfl)) ?_
              refine RG.pv rfl (PV.field rfl Fo52_4 rfl) ?_
              refine RG.pv rfl (PV.load1 rfl Sc2 rfl (Rd.blk rfl)) ?_
              refine RG.callF (vs := [_, _, _]) rfl rfl En119 rfl (markDens_w (hd q.layer.toNat (by omega)).up (fun v67 zsv67 hzv67 => ?_))
              refine RG.pv rfl (PV.asg (v := v67) rfl rfl) ?_
              refine RG.nil ?_
              refine WP.ret ?_
              exact ⟨_, _, ResV.one rfl rfl, Cv.p, k v67 _ hzv67⟩
theorem gd_appr {α : Type} [Inhabited α] (xs ys : List α) (m : Nat) : gd (xs ++ ys) (xs.length + m) = gd ys m := by
  unfold gd; rw [List.getElem?_append_right (by omega), Nat.add_sub_cancel_left]
theorem check_w {v : Value} {ys : List (Sl Rect)} {d : Deck} (h1 : Rs G L slT v ys) (hd : RsE G L rectT ys) (h2 : Rs G L ruleT d.rules.v d.rules.xs) (hl : d.rules.xs.length ≤ 1000) (k : ∀ v' zs, R (.tuple #[v', .bool (decide ((zs.length : Int) ≤ 256))]) G (osl 37 violT v' zs :: bagS 101 rectT (mks zs) :: L)) : CallT Tryz.prog 156 #[v, vT deckT d] G L R := by
  refine CallT.enter (args := _) Tryz.func156 rfl rfl (by kernel_rfl) rfl ?_
  refine WP.seq ?_
  refine WP.region ?_
  refine RG.ot rfl (OT.box (cs := deckT.enc d) rfl rfl rfl fun b3 => ?_)
  refine RG.pv rfl (PV.asg rfl rfl) ?_
  refine RG.pv rfl (PV.mvB (.inr rfl) rfl) ?_
  refine RG.nil ?_
  refine WP.seq ?_
  refine WP.region ?_
  refine RG.ot rfl (OT.bslice (F := violT) (els := []) rfl El66 rfl (by decide) rfl (by decide) trivial fun v10 => ?_)
  refine RG.pv rfl (PV.asg (v := v10) rfl rfl) ?_
  refine RG.nil ?_
  refine WP.seq ?_
  refine WP.seq ?_
  refine WP.region ?_
  refine RG.pv rfl (PV.mvI (.inr rfl) rfl) ?_
  refine RG.nil ?_
  refine WP.block ?_
  refine WP.cv ((Cv.p (C := osl 37 violT v10 ([] : List Viol) :: blk b3 33 (deckT.enc d) :: L)).trans (Cv.cons (Cv.bag0 (e := 101) (F := rectT) (xs := mks []) rfl))) ?_
  refine WP.loop3 [0, 3] (fun (i : Nat) (out : List Viol) (q : Value) => i ≤ d.rules.xs.length ∧ out.length ≤ i * 6400) (fun (i : Nat) (out : List Viol) (q : Value) => [(7, vi i), (6, q)]) (fun (i : Nat) (out : List Viol) (q : Value) => osl 37 violT q out :: bagS 101 rectT (mks out) :: blk b3 33 (deckT.enc d) :: L) (fun (i : Nat) (out : List Viol) (q : Value) => d.rules.xs.length - i) 0 [] v10 ⟨by omega, by simp⟩ ⟨rfl, rfl, trivial⟩ Cv.p ?_
  rintro i out q τ ⟨hi, hol⟩
  refine WP.seq ?_
  refine WP.seq ?_
  refine WP.region ?_
  refine RG.pv rfl (PV.mvI (.inl rfl) rfl) ?_
  refine RG.pv rfl (PV.field rfl Fo33_0 rfl) ?_
  refine RG.pv rfl (PV.load1 rfl Sc31 rfl (Rd.blk rfl)) ?_
  refine RG.pv rfl (PV.len rfl Tryz.underlying31 rfl (SlF.r h2)) ?_
  refine RG.pv rfl (PV.lss rfl rfl rfl) ?_
  refine RG.nil ?_
  refine WP.cond rfl (fun h3 => ?_) (fun h3 => ?_)
  · have h3 := of_decide_eq_true h3
    refine WP.skip ?_
    refine WP.seq ?_
    refine WP.block ?_
    refine WP.seq ?_
    refine WP.region ?_
    refine RG.pv rfl (PV.move (v := v) rfl rfl) ?_
    refine RG.pv rfl (PV.field rfl Fo33_0 rfl) ?_
    refine RG.pv rfl (PV.load1 rfl Sc31 rfl (Rd.blk rfl)) ?_
    refine RG.pv rfl (PV.mvI (.inl rfl) rfl) ?_
    refine RG.pv rfl (PV.idxS rfl Is31 rfl (SlF.r h2) rfl rfl (by omega)) ?_
    refine RG.pv rfl (PV.loadE rfl Ag52 rfl rfl (El.r h2 (getG (by omega)))) ?_
    refine RG.callF (vs := [v, _]) rfl rfl En58 rfl (rule_w (Rs.up h1) hd.up (fun v24 zsv24 hzv24 => ?_))
    refine RG.callF (vs := [v24]) rfl rfl En210 rfl (comps7_s Rs.o hzv24 (fun v25 psv25 hpv25 => ?_))
    refine RG.pv rfl (PV.asg (v := v25) rfl rfl) ?_
    refine RG.nil ?_
    refine WP.seq ?_
    refine WP.region ?_
    refine RG.pv rfl (PV.mvI (.inr rfl) rfl) ?_
    refine RG.nil ?_
    refine WP.block ?_
    have hpl : psv25.length ≤ 6400 := by have := congrArg List.length hpv25; rw [er_len] at this; rw [this, partsL, List.length_map]; exact comps_len _
    have hps : ∀ m, m < psv25.length → Rs G [bagS 101 rectT (mks out ++ psv25)] rectT (gd psv25 m).v (gd psv25 m).xs := fun m hm => by
      have := Rs.inBag (G := G) (L := [bagS 101 rectT (mks out ++ psv25)]) (L' := []) (e := 101) (F := rectT) (xs := mks out ++ psv25) ((mks out).length + m) (by simp; omega)
      rwa [gd_appr] at this
    refine WP.cv ((Cv.p (C := bagS 101 rectT (mks out) :: bagS 101 rectT psv25 :: osl 37 violT q out :: osl 35 slT v25 psv25 :: blk b3 33 (deckT.enc d) :: L)).trans Cv.bagJoin) ?_
    refine WP.loop3 [0, 3, 7, 8] (fun (m : Nat) (out2 : List Viol) (q2 : Value) => m ≤ psv25.length ∧ out2.length = out.length + m ∧ mks out2 ++ psv25.drop m = mks out ++ psv25) (fun (m : Nat) (out2 : List Viol) (q2 : Value) => [(9, vi m), (6, q2)]) (fun (m : Nat) (out2 : List Viol) (q2 : Value) => bagS 101 rectT (mks out ++ psv25) :: osl 37 violT q2 out2 :: osl 35 slT v25 psv25 :: blk b3 33 (deckT.enc d) :: L) (fun (m : Nat) (out2 : List Viol) (q2 : Value) => psv25.length - m) 0 out q ⟨by omega, by omega, rfl⟩ ⟨rfl, rfl, trivial⟩ Cv.p ?_
    rintro m out2 q2 τ1 ⟨hm, hol2, heq⟩
    refine WP.seq ?_
    refine WP.seq ?_
    refine WP.region ?_
    refine RG.pv rfl (PV.mvI (.inl rfl) rfl) ?_
    refine RG.pv rfl (PV.move (v := v25) rfl rfl) ?_
    refine RG.pv rfl (PV.len (v := v25) rfl Tryz.underlying50 rfl SlF.o) ?_
    refine RG.pv rfl (PV.lss rfl rfl rfl) ?_
    refine RG.nil ?_
    refine WP.cond rfl (fun h4 => ?_) (fun h4 => ?_)
    · have h4 := of_decide_eq_true h4
      have h40 : m < psv25.length := by omega
      have hpm := hps m h40
      have heq' : mks (out2 ++ [⟨(i : Int), gd psv25 m⟩]) ++ psv25.drop (m + 1) = mks out ++ psv25 := by
        rw [mks_app, List.append_assoc, ← heq, List.drop_eq_getElem_cons h40, gd_eq h40]; rfl
      refine WP.skip ?_
      refine WP.seq ?_
      refine WP.block ?_
      refine WP.region ?_
      refine RG.pv rfl (PV.move (v := q2) rfl rfl) ?_
      refine RG.pv rfl (PV.mvI (.inl rfl) rfl) ?_
      refine RG.pv rfl (PV.move (v := v25) rfl rfl) ?_
      refine RG.pv rfl (PV.mvI (.inl rfl) rfl) ?_
      refine RG.pv rfl (PV.idxS (v := v25) rfl Is50 rfl SlF.o rfl rfl (by omega)) ?_
      refine RG.pv rfl (PV.loadE1 rfl Sc35 rfl rfl (El.o (getG (by omega))) rfl) ?_
      refine RG.pv rfl (PV.build (vs := [(0, [vi _]), (1, [_])]) (out := [_, _]) rfl Zr37 Pl37 ⟨rfl, (Cl.c rfl), ⟨rfl, (Cl.s (SlF.r hpm)), trivial⟩⟩ rfl) ?_
      refine RG.ot rfl (OT.bslice (F := violT) (els := [⟨(i : Int), gd psv25 m⟩]) rfl El66 rfl (by decide) rfl (by decide) ⟨rfl, (Cl.c rfl), trivial⟩ fun v39 => ?_)
      refine RG.ot rfl (OT.append (v := q2) (u := v39) (F := violT) rfl El66 rfl (by decide) rfl rfl Rs.o (OneL.one (OneC.val rfl (OneC.sl (SlF.r hpm) OneC.nil))) rfl (by first | omega | (simp <;> omega)) fun v40 => ?_)
      refine RG.pv rfl (PV.asg (v := v40) rfl rfl) ?_
      refine RG.nil ?_
      refine WP.region ?_
      refine RG.pv rfl (PV.mvI (.inl rfl) rfl) ?_
      refine RG.pv rfl (PV.add rfl rfl rfl (by omega)) ?_
      refine RG.pv rfl (PV.mvI (.inr rfl) rfl) ?_
      refine RG.nil ?_
      exact ⟨rfl, m + 1, (out2 ++ [⟨(i : Int), gd psv25 m⟩]), v40, ⟨by omega, by simp; omega, heq'⟩, ⟨rfl, rfl, trivial⟩, ⟨rfl, rfl, rfl, rfl, trivial⟩, Cv.p, by omega⟩
    · have h4 := of_decide_eq_false h4
      obtain rfl : m = psv25.length := by omega
      rw [List.drop_length, List.append_nil] at heq
      refine WP.exit ?_
      refine WP.region ?_
      refine RG.pv rfl (PV.mvI (.inl rfl) rfl) ?_
      refine RG.pv rfl (PV.add rfl rfl rfl (by omega)) ?_
      refine RG.pv rfl (PV.mvI (.inr rfl) rfl) ?_
      refine RG.nil ?_
      exact ⟨rfl, i + 1, out2, q2, ⟨by omega, by omega⟩, ⟨rfl, rfl, trivial⟩, ⟨rfl, rfl, trivial⟩, (by simp only [heq]; exact Cv.p), by omega⟩
  · refine WP.exit ?_
    refine WP.seq ?_
    refine WP.region ?_
    refine RG.pv rfl (PV.move (v := q) rfl rfl) ?_
    refine RG.pv rfl (PV.move (v := q) rfl rfl) ?_
    refine RG.pv rfl (PV.len (v := q) rfl Tryz.underlying66 rfl SlF.o) ?_
    refine RG.pv rfl (PV.leq rfl rfl rfl) ?_
    refine RG.pv rfl (PV.asg (v := q) rfl rfl) ?_
    refine RG.pv rfl (PV.mvB (.inr rfl) rfl) ?_
    refine RG.nil ?_
    refine WP.ret ?_
    exact ⟨_, _, ResV.two rfl rfl rfl, Cv.p, k q out⟩
theorem drawDeck_w {b : Nat} {cv v : Value} {bs : List UInt8} {ys : List (Sl Rect)} (hcode : SL G byteT cv bs) (h1 : Rs G L slT v ys) (hd : RsE G L rectT ys) (hyl : ys.length = 8) (k : ∀ v' rs, rs.length ≤ 6 → R (vT deckT ⟨⟨v', rs⟩⟩) G (osl 52 ruleT v' rs :: src b cv :: L)) : CallT Tryz.prog 155 #[.pointer (some ⟨b, 0, none⟩), v] G (src b cv :: L) R := by
  refine CallT.enter (args := _) Tryz.func155 rfl rfl (by kernel_rfl) rfl ?_
  refine WP.seq ?_
  refine WP.region ?_
  refine RG.ot rfl (OT.alloc rfl Zr33 fun b4 => ?_)
  refine RG.nil ?_
  refine WP.seq ?_
  refine WP.region ?_
  refine RG.pv rfl (PV.build (vs := []) (out := [_]) rfl Zr33 Pl33 trivial rfl) ?_
  refine RG.ot rfl (OT.alloc rfl Zr33 fun b5 => ?_)
  refine RG.ot rfl (OT.storeW (vs := [_]) rfl Sz33 rfl rfl (Cl.c rfl) rfl rfl (OneC.c rfl) ?_)
  refine RG.nil ?_
  refine WP.seq ?_
  refine WP.seq ?_
  refine WP.region ?_
  refine RG.pv rfl (PV.move rfl rfl) ?_
  refine RG.callF (vs := [_, _]) rfl rfl En93 rfl (CallT.exC (src b cv) (next_s hcode (by omega) (fun w12 hw12 => ?_)))
  refine RG.pv rfl (PV.add rfl rfl rfl (by omega)) ?_
  refine RG.pv rfl (PV.mvI (.inr rfl) rfl) ?_
  refine RG.nil ?_
  refine WP.block ?_
  refine WP.cv ((Cv.p (C := blk b5 33 [.slice none 0 0] :: blk b4 33 [.slice none 0 0] :: src b cv :: L)).trans (Cv.nilS (e := 52) (F := ruleT))) ?_
  refine WP.loop3 [0, 1, 4, 5] (fun (j : Int) (rs : List Rule) (q : Value) => (0 ≤ j ∧ j ≤ 4) ∧ (rs.length : Int) + j ≤ 4) (fun (j : Int) (rs : List Rule) (q : Value) => [(6, vi j)]) (fun (j : Int) (rs : List Rule) (q : Value) => osl 52 ruleT q rs :: blk b5 33 [q] :: blk b4 33 [.slice none 0 0] :: src b cv :: L) (fun (j : Int) (rs : List Rule) (q : Value) => j.toNat) (w12 + 1) [] (.slice none 0 0) ⟨by omega, by simp; omega⟩ ⟨rfl, trivial⟩ Cv.p ?_
  rintro j rs q τ ⟨hj, hrl⟩
  refine WP.seq ?_
  refine WP.seq ?_
  refine WP.region ?_
  refine RG.pv rfl (PV.mvI (.inl rfl) rfl) ?_
  refine RG.pv rfl (PV.gtr rfl rfl rfl) ?_
  refine RG.nil ?_
  refine WP.cond rfl (fun h2 => ?_) (fun h2 => ?_)
  · have h2 := of_decide_eq_true h2
    refine WP.skip ?_
    refine WP.seq ?_
    refine WP.block ?_
    refine WP.seq ?_
    refine WP.region ?_
    refine RG.pv rfl (PV.move rfl rfl) ?_
    refine RG.callF (vs := [_, _]) rfl rfl En93 rfl (CallT.exC (src b cv) (next_s hcode (by omega) (fun w19 hw19 => ?_)))
    refine RG.pv rfl (PV.mvI (.inr rfl) rfl) ?_
    refine RG.nil ?_
    refine WP.cut1 [0, 1, 4, 5, 6] (fun (n2 : Int) => 0 ≤ n2 ∧ n2 < 8) (fun (n2 : Int) => [(7, vi n2)]) (fun (n2 : Int) => osl 52 ruleT q rs :: blk b5 33 [q] :: blk b4 33 [.slice none 0 0] :: src b cv :: L) ?_ ?_
    refine WP.seq ?_
    refine WP.region ?_
    refine RG.pv rfl (PV.mvI (.inr rfl) rfl) ?_
    refine RG.nil ?_
    refine WP.block ?_
    refine WP.loop2 [0, 1, 4, 5, 6] (fun (m n : Int) => (0 ≤ m ∧ m ≤ 8) ∧ 0 ≤ n ∧ n < 8) (fun (m n : Int) => [(7, vi n), (8, vi m)]) (fun (m n : Int) => osl 52 ruleT q rs :: blk b5 33 [q] :: blk b4 33 [.slice none 0 0] :: src b cv :: L) (fun (m n : Int) => (8 - m).toNat) 0 w19 ⟨by omega, by omega⟩ ⟨rfl, rfl, trivial⟩ Cv.p ?_
    rintro m n τ2 ⟨hm, hn⟩
    refine WP.seq ?_
    refine WP.seq ?_
    refine WP.region ?_
    refine RG.pv rfl (PV.mvI (.inl rfl) rfl) ?_
    refine RG.pv rfl (PV.lss rfl rfl rfl) ?_
    refine RG.pv rfl (PV.mvB (.inl rfl) rfl) ?_
    refine RG.gs rfl rfl rfl (fun hp => (PV.move (v := v) rfl rfl)) ?_
    refine RG.gs rfl rfl rfl (fun hp => (PV.len (v := v) rfl Tryz.underlying50 (gs_t hp) (SlF.r h1))) ?_
    refine RG.gs rfl rfl rfl (fun hp => (PV.eql rfl (gs_t hp) rfl)) ?_
    refine RG.pv rfl (PV.pickA rfl rfl (fun hq => gs_t (geqT hq)) rfl) ?_
    refine RG.pv rfl (PV.mvB (.inl rfl) rfl) ?_
    refine RG.gs rfl rfl rfl (fun hp => (PV.move (v := v) rfl rfl)) ?_
    refine RG.gs rfl rfl rfl (fun hp => (PV.mvI (.inl rfl) rfl)) ?_
    refine RG.gs rfl rfl rfl (fun hp => (PV.idxS (j := n.toNat) (v := v) rfl Is50 (gs_t hp) (SlF.r h1) (gs_t hp) (by first | omega | (simp at hp; omega)) (by first | omega | (simp at hp; omega)))) ?_
    refine RG.gs rfl rfl rfl (fun hp => (PV.loadE1 rfl Sc35 (gs_t hp) rfl (El.r h1 (getG (by first | omega | (simp at hp; omega)))) rfl)) ?_
    refine RG.gs rfl rfl rfl (fun hp => (PV.len rfl Tryz.underlying35 (gs_t hp) (SlF.r (hd n.toNat (by omega))))) ?_
    refine RG.gs rfl rfl rfl (fun hp => (PV.eql rfl (gs_t hp) rfl)) ?_
    refine RG.pv rfl (PV.pickA rfl rfl (fun hq => gs_t (geqT hq)) rfl) ?_
    refine RG.pv rfl (PV.mvB (.inl rfl) rfl) ?_
    refine RG.spl (t := 35) rfl (fun g1 => ?_) (fun g1 => ?_)
    · refine RG.take rfl rfl rfl g1 ?_
      refine RG.pv rfl (PV.move rfl rfl) ?_
      refine RG.take rfl rfl rfl g1 ?_
      refine RG.callF (vs := [_, _]) rfl rfl En93 rfl (CallT.exC (src b cv) (next_s hcode (by omega) (fun w37 hw37 => ?_)))
      refine RG.take rfl rfl rfl g1 ?_
      refine RG.pv rfl (PV.neq rfl rfl rfl) ?_
      refine RG.pv rfl (PV.pickT rfl rfl g1 rfl) ?_
      refine RG.nil ?_
      refine WP.cond rfl (fun h5 => ?_) (fun h5 => ?_)
      · have g2 : m < 8 := by
          by_cases c : m < 8
          · exact c
          · simp [c] at g1
        refine WP.skip ?_
        refine WP.seq ?_
        refine WP.block ?_
        refine WP.region ?_
        refine RG.pv rfl (PV.mvI (.inl rfl) rfl) ?_
        refine RG.pv rfl (PV.add rfl rfl rfl (by omega)) ?_
        refine RG.pv rfl (PV.rem rfl rfl rfl (by omega) (by omega) (by omega)) ?_
        refine RG.pv rfl (PV.mvI (.inr rfl) rfl) ?_
        refine RG.nil ?_
        refine WP.region ?_
        refine RG.pv rfl (PV.mvI (.inl rfl) rfl) ?_
        refine RG.pv rfl (PV.add rfl rfl rfl (by omega)) ?_
        refine RG.pv rfl (PV.mvI (.inr rfl) rfl) ?_
        refine RG.nil ?_
        exact ⟨rfl, m + 1, _, ⟨by omega, by omega⟩, ⟨rfl, rfl, trivial⟩, ⟨rfl, rfl, rfl, rfl, rfl, trivial⟩, Cv.p, by omega⟩
      · refine WP.exit ?_
        exact ⟨rfl, n, hn, ⟨rfl, trivial⟩, ⟨rfl, rfl, rfl, rfl, rfl, trivial⟩, Cv.p⟩
    · refine RG.skip rfl rfl rfl (gne g1) ?_
      refine RG.skip rfl rfl rfl (gne g1) ?_
      refine RG.skip rfl rfl rfl (gne g1) ?_
      refine RG.pv rfl (PV.pickE rfl rfl g1 rfl) ?_
      refine RG.nil ?_
      refine WP.cond rfl (fun h5 => ?_) (fun h5 => ?_)
      · cases h5
      · refine WP.exit ?_
        exact ⟨rfl, n, hn, ⟨rfl, trivial⟩, ⟨rfl, rfl, rfl, rfl, rfl, trivial⟩, Cv.p⟩
    rintro n2 τ1 hn2
    refine WP.seq ?_
    refine WP.region ?_
    refine RG.pv rfl (PV.move rfl rfl) ?_
    refine RG.callF (vs := [_, _]) rfl rfl En93 rfl (CallT.exC (src b cv) (next_s hcode (by omega) (fun w46 hw46 => ?_)))
    refine RG.pv rfl (PV.mvI (.inl rfl) rfl) ?_
    refine RG.pv rfl (PV.move rfl rfl) ?_
    refine RG.callF (vs := [_, _]) rfl rfl En93 rfl (CallT.exC (src b cv) (next_s hcode (by omega) (fun w49 hw49 => ?_)))
    refine RG.pv rfl (PV.add rfl rfl rfl (by omega)) ?_
    refine RG.pv rfl (PV.build (vs := [(0, [vi _]), (1, [vi _]), (3, [vi _])]) (out := [_, _, _, _, _]) rfl Zr52 Pl52 ⟨rfl, (Cl.c rfl), ⟨rfl, (Cl.c rfl), ⟨rfl, (Cl.c rfl), trivial⟩⟩⟩ rfl) ?_
    refine RG.ot rfl (OT.alloc rfl Zr52 fun b9 => ?_)
    refine RG.ot rfl (OT.storeW (vs := [vi _, vi _, vi _, vi _, vi _]) rfl Sz52 rfl rfl (Cl.c rfl) rfl rfl (OneC.c rfl) ?_)
    refine RG.nil ?_
    refine WP.cut1 [0, 1, 4, 5, 6, 9] (fun (r2 : Rule) => True) (fun (r2 : Rule) => []) (fun (r2 : Rule) => blk b9 52 (ruleT.enc r2) :: osl 52 ruleT q rs :: blk b5 33 [q] :: blk b4 33 [.slice none 0 0] :: src b cv :: L) ?_ ?_
    refine WP.seq ?_
    refine WP.region ?_
    refine RG.pv rfl (PV.loadW rfl Ag52 rfl rfl) ?_
    refine RG.callF (vs := [_]) rfl rfl En209 rfl (l20Paired_s (r := ⟨w46, n2, 0, w49 + 1, 0⟩) ?_)
    refine RG.nil ?_
    · refine WP.cond rfl (fun h6 => ?_) (fun h6 => ?_)
      · refine WP.region ?_
        refine RG.pv rfl (PV.mvI (.inl rfl) rfl) ?_
        refine RG.pv rfl (PV.add rfl rfl rfl (by omega)) ?_
        refine RG.pv rfl (PV.move rfl rfl) ?_
        refine RG.callF (vs := [_, _]) rfl rfl En93 rfl (CallT.exC (src b cv) (next_s hcode (by omega) (fun w57 hw57 => ?_)))
        refine RG.pv rfl (PV.add rfl rfl rfl (by omega)) ?_
        refine RG.pv rfl (PV.rem rfl rfl rfl (by omega) (by omega) (by omega)) ?_
        refine RG.pv rfl (PV.field rfl Fo52_2 rfl) ?_
        refine RG.ot rfl (OT.storeB (vs := [vi _]) (cs' := [_, _, _, _, _]) rfl Sz2 rfl rfl (Cl.c rfl) rfl (OneC.c rfl) rfl rfl ?_)
        refine RG.nil ?_
        exact ⟨rfl, ⟨w46, n2, (n2 + 1 + w57) % 8, w49 + 1, 0⟩, trivial, trivial, ⟨rfl, rfl, rfl, rfl, rfl, rfl, trivial⟩, Cv.p⟩
      · refine WP.skip ?_
        exact ⟨rfl, ⟨w46, n2, 0, w49 + 1, 0⟩, trivial, trivial, ⟨rfl, rfl, rfl, rfl, rfl, rfl, trivial⟩, Cv.p⟩
    rintro r2 τ3 _
    refine WP.cut1 [0, 1, 4, 5, 6, 9] (fun (r3 : Rule) => True) (fun (r3 : Rule) => []) (fun (r3 : Rule) => blk b9 52 (ruleT.enc r3) :: osl 52 ruleT q rs :: blk b5 33 [q] :: blk b4 33 [.slice none 0 0] :: src b cv :: L) ?_ ?_
    refine WP.seq ?_
    refine WP.region ?_
    refine RG.pv rfl (PV.field rfl Fo52_0 rfl) ?_
    refine RG.pv rfl (PV.load1 rfl Sc2 rfl (Rd.blk rfl)) ?_
    refine RG.pv rfl (PV.eql rfl rfl rfl) ?_
    refine RG.nil ?_
    · refine WP.cond rfl (fun h7 => ?_) (fun h7 => ?_)
      · refine WP.region ?_
        refine RG.pv rfl (PV.move rfl rfl) ?_
        refine RG.callF (vs := [_, _]) rfl rfl En93 rfl (CallT.exC (src b cv) (next_s hcode (by omega) (fun w65 hw65 => ?_)))
        refine RG.pv rfl (PV.add rfl rfl rfl (by omega)) ?_
        refine RG.pv rfl (PV.field rfl Fo52_3 rfl) ?_
        refine RG.ot rfl (OT.storeB (vs := [vi _]) (cs' := [_, _, _, _, _]) rfl Sz2 rfl rfl (Cl.c rfl) rfl (OneC.c rfl) rfl rfl ?_)
        refine RG.nil ?_
        exact ⟨rfl, ⟨r2.kind, r2.layer, r2.other, w65 + 1, r2.percent⟩, trivial, trivial, ⟨rfl, rfl, rfl, rfl, rfl, rfl, trivial⟩, Cv.p⟩
      · refine WP.skip ?_
        exact ⟨rfl, r2, trivial, trivial, ⟨rfl, rfl, rfl, rfl, rfl, rfl, trivial⟩, Cv.p⟩
    rintro r3 τ4 _
    refine WP.seq ?_
    refine WP.region ?_
    refine RG.pv rfl (PV.field rfl Fo33_0 rfl) ?_
    refine RG.pv rfl (PV.load1 rfl Sc31 rfl (Rd.blk rfl)) ?_
    refine RG.pv rfl (PV.loadW rfl Ag52 rfl rfl) ?_
    refine RG.callF (vs := [_, _]) rfl rfl En120 rfl (l16Has_s (v := q) (q := r3) Rs.o ?_)
    refine RG.pv rfl (PV.not rfl rfl) ?_
    refine RG.nil ?_
    refine WP.cond rfl (fun h8 => ?_) (fun h8 => ?_)
    · refine WP.region ?_
      refine RG.pv rfl (PV.field rfl Fo33_0 rfl) ?_
      refine RG.pv rfl (PV.load1 rfl Sc31 rfl (Rd.blk rfl)) ?_
      refine RG.pv rfl (PV.loadW rfl Ag52 rfl rfl) ?_
      refine RG.ot rfl (OT.bslice (F := ruleT) (els := [⟨_, _, _, _, _⟩]) rfl El31 rfl (by decide) rfl (by decide) ⟨rfl, (Cl.c rfl), trivial⟩ fun v76 => ?_)
      refine RG.ot rfl (OT.append (v := q) (u := v76) (F := ruleT) rfl El31 rfl (by decide) rfl rfl Rs.o (OneL.c (fun _ => rfl)) rfl (by first | omega | (simp <;> omega)) fun v77 => ?_)
      refine RG.pv rfl (PV.field rfl Fo33_0 rfl) ?_
      refine RG.ot rfl (OT.storeB (v := v77) (vs := [_]) (cs' := [_]) rfl Sz31 rfl rfl (Cl.s (v := v77) SlF.o) rfl (OneC.sl SlF.o OneC.nil) rfl rfl ?_)
      refine RG.nil ?_
      refine WP.region ?_
      refine RG.pv rfl (PV.mvI (.inl rfl) rfl) ?_
      refine RG.pv rfl (PV.sub rfl rfl rfl (by omega)) ?_
      refine RG.pv rfl (PV.mvI (.inr rfl) rfl) ?_
      refine RG.nil ?_
      exact ⟨rfl, j - 1, (rs ++ [r3]), v77, ⟨by omega, by simp; omega⟩, ⟨rfl, trivial⟩, ⟨rfl, rfl, rfl, rfl, trivial⟩, Cv.p, by omega⟩
    · refine WP.skip ?_
      refine WP.region ?_
      refine RG.pv rfl (PV.mvI (.inl rfl) rfl) ?_
      refine RG.pv rfl (PV.sub rfl rfl rfl (by omega)) ?_
      refine RG.pv rfl (PV.mvI (.inr rfl) rfl) ?_
      refine RG.nil ?_
      exact ⟨rfl, j - 1, rs, q, ⟨by omega, by omega⟩, ⟨rfl, trivial⟩, ⟨rfl, rfl, rfl, rfl, trivial⟩, Cv.p, by omega⟩
  · refine WP.exit ?_
    refine WP.seq ?_
    refine WP.seq ?_
    refine WP.region ?_
    refine RG.pv rfl (PV.move rfl rfl) ?_
    refine RG.callF (vs := [_, _]) rfl rfl En93 rfl (CallT.exC (src b cv) (next_s hcode (by omega) (fun w80 hw80 => ?_)))
    refine RG.pv rfl (PV.eql rfl rfl rfl) ?_
    refine RG.nil ?_
    refine WP.cond rfl (fun h3 => ?_) (fun h3 => ?_)
    · skip
      refine WP.region ?_
      refine RG.pv rfl (PV.field rfl Fo33_0 rfl) ?_
      refine RG.pv rfl (PV.load1 rfl Sc31 rfl (Rd.blk rfl)) ?_
      refine RG.pv rfl (PV.build (vs := [(0, [vi _]), (1, [vi _]), (3, [vi _]), (4, [vi _])]) (out := [_, _, _, _, _]) rfl Zr52 Pl52 ⟨rfl, (Cl.c rfl), ⟨rfl, (Cl.c rfl), ⟨rfl, (Cl.c rfl), ⟨rfl, (Cl.c rfl), trivial⟩⟩⟩⟩ rfl) ?_
      refine RG.ot rfl (OT.bslice (F := ruleT) (els := [⟨_, _, _, _, _⟩]) rfl El31 rfl (by decide) rfl (by decide) ⟨rfl, (Cl.c rfl), trivial⟩ fun v85 => ?_)
      refine RG.ot rfl (OT.append (v := q) (u := v85) (F := ruleT) rfl El31 rfl (by decide) rfl rfl Rs.o (OneL.c (fun _ => rfl)) rfl (by first | omega | (simp <;> omega)) fun v86 => ?_)
      refine RG.pv rfl (PV.field rfl Fo33_0 rfl) ?_
      refine RG.ot rfl (OT.storeB (v := v86) (vs := [_]) (cs' := [_]) rfl Sz31 rfl rfl (Cl.s (v := v86) SlF.o) rfl (OneC.sl SlF.o OneC.nil) rfl rfl ?_)
      refine RG.nil ?_
      refine WP.seq ?_
      refine WP.region ?_
      refine RG.pv rfl (PV.loadW rfl Ag33 rfl rfl) ?_
      refine RG.ot rfl (OT.storeW (vs := [_]) rfl Sz33 rfl rfl (Cl.c rfl) rfl rfl (OneC.sl (SlF.o (v := v86)) OneC.nil) ?_)
      refine RG.nil ?_
      refine WP.ret ?_
      exact ⟨_, _, ResV.one rfl (RV1.cell rfl Ag33 rfl), Cv.p, k v86 (rs ++ [⟨5, 3, 0, 40, 10⟩]) (by simp; omega)⟩
    · skip
      refine WP.skip ?_
      refine WP.seq ?_
      refine WP.region ?_
      refine RG.pv rfl (PV.loadW rfl Ag33 rfl rfl) ?_
      refine RG.ot rfl (OT.storeW (vs := [_]) rfl Sz33 rfl rfl (Cl.c rfl) rfl rfl (OneC.sl (SlF.o (v := q)) OneC.nil) ?_)
      refine RG.nil ?_
      refine WP.ret ?_
      exact ⟨_, _, ResV.one rfl (RV1.cell rfl Ag33 rfl), Cv.p, k q rs (by omega)⟩
end Go.Proofs.YtgngpegmaceaiaaGreat
namespace Go.Proofs.YtgngpegmaceaiaaGreat
set_option linter.unusedVariables false
set_option linter.unusedSimpArgs false
open Go
set_option maxRecDepth 20000
set_option maxHeartbeats 2000000
set_option linter.unusedSimpArgs false
variable {G : Gh} {L : List Ch} {R : Value → Gh → List Ch → Prop}
theorem drawReport_w {b : Nat} {cv : Value} {bs : List UInt8} (hcode : SL G byteT cv bs) (k : ∀ u v rs w zs, rs.length ≤ 6 → zs.length ≤ 256 → R (.tuple #[u, vT deckT ⟨⟨v, rs⟩⟩, w]) G (osl 52 ruleT v rs :: osl 37 violT w zs :: bagS 101 rectT (mks zs) :: src b cv :: L)) : CallT Tryz.prog 91 #[.pointer (some ⟨b, 0, none⟩)] G (src b cv :: L) R := by
  refine CallT.enter (args := _) Tryz.func91 rfl rfl (by kernel_rfl) rfl ?_
  refine WP.seq ?_
  refine WP.region ?_
  refine RG.pv rfl (PV.asg rfl rfl) ?_
  refine RG.ot rfl (OT.alloc rfl Zr33 fun b3 => ?_)
  refine RG.pv rfl (PV.asg rfl rfl) ?_
  refine RG.nil ?_
  refine WP.seq ?_
  refine WP.region ?_
  refine RG.pv rfl (PV.move rfl rfl) ?_
  refine RG.callF (vs := [_]) rfl rfl En154 rfl (CallT.exC (src b cv) (drawLayers_s hcode (fun v10 ys hyl hyr => ?_)))
  refine RG.pv rfl (PV.asg (v := v10) rfl rfl) ?_
  refine RG.nil ?_
  refine WP.seq ?_
  refine WP.region ?_
  refine RG.pv rfl (PV.move rfl rfl) ?_
  refine RG.pv rfl (PV.move (v := v10) rfl rfl) ?_
  refine RG.callF (vs := [_, v10]) rfl rfl En155 rfl (CallT.exC (src b cv) (drawDeck_w hcode Rs.o RsE.o hyl (fun x13 rs13 hrs13 => ?_)))
  refine RG.ot rfl (OT.alloc rfl Zr33 fun b6 => ?_)
  refine RG.ot rfl (OT.storeW (vs := [_]) rfl Sz33 rfl rfl (Cl.c rfl) rfl rfl (OneC.sl (SlF.o (v := x13)) OneC.nil) ?_)
  refine RG.nil ?_
  refine WP.seq ?_
  refine WP.region ?_
  refine RG.pv rfl (PV.move (v := v10) rfl rfl) ?_
  refine RG.pv rfl (PV.loadW rfl Ag33 rfl rfl) ?_
  refine RG.callF (vs := [v10, _]) rfl rfl En156 rfl (check_w (ys := ys) (d := ⟨⟨x13, rs13⟩⟩) Rs.o RsE.o Rs.o (by simp only; omega) (fun w17 zsw17 => ?_))
  refine RG.pv rfl (PV.move (v := .tuple _) rfl rfl) ?_
  refine RG.pv rfl (PV.ext (v := w17) rfl rfl rfl) ?_
  refine RG.pv rfl (PV.ext rfl rfl rfl) ?_
  refine RG.pv rfl (PV.asg (v := w17) rfl rfl) ?_
  refine RG.pv rfl (PV.mvB (.inr rfl) rfl) ?_
  refine RG.nil ?_
  refine WP.seq ?_
  refine WP.seq ?_
  refine WP.region ?_
  refine RG.pv rfl (PV.mvB (.inl rfl) rfl) ?_
  refine RG.pv rfl (PV.not rfl rfl) ?_
  refine RG.nil ?_
  refine WP.cond rfl (fun h2 => ?_) (fun h2 => ?_)
  · skip
    refine WP.region ?_
    refine RG.pv rfl (PV.asg rfl rfl) ?_
    refine RG.nil ?_
    refine WP.seq ?_
    refine WP.regionHD [.b b3] (.q 0 (.q 1 (.q 2 (.q 3 (.l 4 (.q 5 Sch.nil)))))) (by kernel_rfl) (by kernel_rfl) (by kernel_rfl) rfl ?_
    refine RH.pv rfl (fun _ _ _ _ h => h) (Gh.le_refl _) PickC.pick rfl (PV.move (v := v10) rfl rfl) ?_
    refine RH.pv rfl (fun _ _ _ _ h => h) (Gh.le_refl _) PickC.pick rfl (PV.loadW rfl Ag33 rfl rfl) ?_
    refine RH.pv rfl (fun _ _ _ _ h => h) (Gh.le_refl _) PickC.pick rfl (PV.move rfl rfl) ?_
    refine RH.pv rfl (fun _ _ _ _ h => h) (Gh.le_refl _) PickC.pick rfl (PV.asg (v := v10) rfl rfl) ?_
    refine RH.ot rfl rfl (OT.storeW (vs := [_]) rfl Sz33 rfl rfl (Cl.c rfl) rfl rfl (OneC.sl (SlF.o (v := x13)) OneC.nil) ⟨Gh.le_refl _, PickC.pick, ?_⟩)
    refine RH.pv rfl (fun _ _ _ _ h => h) (Gh.le_refl _) PickC.pick rfl (PV.asg rfl rfl) ?_
    refine RH.nil ?_
    refine WP.ret ?_
    exact ⟨_, _, ResV.three rfl rfl (RV1.cell rfl Ag33 rfl) rfl, ((Cv.p (C := osl 52 ruleT x13 rs13 :: src b cv :: L)).trans ((Cv.cons (Cv.bag0 (e := 101) (F := rectT) (xs := mks []) rfl)).trans ((Cv.cons (Cv.nilS (e := 37) (F := violT))).trans Cv.p))), k _ x13 rs13 (.slice none 0 0) [] hrs13 (by simp)⟩
  · skip
    refine WP.skip ?_
    refine WP.seq ?_
    refine WP.regionHD [.b b3] (.q 0 (.q 1 (.q 2 (.q 3 (.l 4 (.q 5 Sch.nil)))))) (by kernel_rfl) (by kernel_rfl) (by kernel_rfl) rfl ?_
    refine RH.pv rfl (fun _ _ _ _ h => h) (Gh.le_refl _) PickC.pick rfl (PV.move (v := v10) rfl rfl) ?_
    refine RH.pv rfl (fun _ _ _ _ h => h) (Gh.le_refl _) PickC.pick rfl (PV.loadW rfl Ag33 rfl rfl) ?_
    refine RH.pv rfl (fun _ _ _ _ h => h) (Gh.le_refl _) PickC.pick rfl (PV.move (v := w17) rfl rfl) ?_
    refine RH.pv rfl (fun _ _ _ _ h => h) (Gh.le_refl _) PickC.pick rfl (PV.asg (v := v10) rfl rfl) ?_
    refine RH.ot rfl rfl (OT.storeW (vs := [_]) rfl Sz33 rfl rfl (Cl.c rfl) rfl rfl (OneC.sl (SlF.o (v := x13)) OneC.nil) ⟨Gh.le_refl _, PickC.pick, ?_⟩)
    refine RH.pv rfl (fun _ _ _ _ h => h) (Gh.le_refl _) PickC.pick rfl (PV.asg (v := w17) rfl rfl) ?_
    refine RH.nil ?_
    refine WP.ret ?_
    exact ⟨_, _, ResV.three rfl rfl (RV1.cell rfl Ag33 rfl) rfl, Cv.p, k _ x13 rs13 w17 zsw17 hrs13 (by simp at h2; omega)⟩
end Go.Proofs.YtgngpegmaceaiaaGreat
namespace Go.Proofs.YtgngpegmaceaiaaGreat
set_option linter.unusedVariables false
set_option linter.unusedSimpArgs false
open Go
set_option maxRecDepth 20000
set_option maxHeartbeats 2000000
set_option linter.unusedSimpArgs false
variable {G : Gh} {L : List Ch} {R : Value → Gh → List Ch → Prop}
theorem spoilDeck_w {b : Nat} {n : Int} {cv v : Value} {bs : List UInt8} {rs : List Rule} (hcode : SL G byteT cv bs) (hn : 1 ≤ n ∧ n ≤ 100) (hl : rs.length ≤ 1000) (k : ∀ v' rs', R (vT deckT ⟨⟨v', rs'⟩⟩) G (osl 52 ruleT v' rs' :: src b cv :: L)) : CallT Tryz.prog 94 #[.pointer (some ⟨b, 0, none⟩), vT deckT ⟨⟨v, rs⟩⟩, vi n] G (osl 52 ruleT v rs :: src b cv :: L) R := by
  refine CallT.enter (args := _) Tryz.func94 rfl rfl (by kernel_rfl) rfl ?_
  refine WP.seq ?_
  refine WP.region ?_
  refine RG.ot rfl (OT.box rfl rfl rfl fun b4 => ?_)
  refine RG.ot rfl (OT.alloc rfl Zr33 fun b6 => ?_)
  refine RG.nil ?_
  refine WP.seq ?_
  refine WP.seq ?_
  refine WP.region ?_
  refine RG.pv rfl (PV.field rfl Fo33_0 rfl) ?_
  refine RG.pv rfl (PV.load1 rfl Sc31 rfl (Rd.blk rfl)) ?_
  refine RG.pv rfl (PV.len (v := v) rfl Tryz.underlying31 rfl SlF.o) ?_
  refine RG.pv rfl (PV.eql rfl rfl rfl) ?_
  refine RG.pv rfl (PV.mvB (.inl rfl) rfl) ?_
  refine RG.spl (t := 12) rfl (fun g1 => ?_) (fun g1 => ?_)
  · skip
    refine RG.skip rfl rfl rfl (gneF g1) ?_
    refine RG.skip rfl rfl rfl (gneF g1) ?_
    refine RG.skip rfl rfl rfl (gneF g1) ?_
    refine RG.skip rfl rfl rfl (gneF g1) ?_
    refine RG.pv rfl (PV.pickT rfl rfl g1 rfl) ?_
    refine RG.nil ?_
    refine WP.cond rfl (fun h2 => ?_) (fun h2 => ?_)
    · skip
      refine WP.seq ?_
      refine WP.region ?_
      refine RG.pv rfl (PV.loadW rfl Ag33 rfl rfl) ?_
      refine RG.ot rfl (OT.storeW (vs := [_]) rfl Sz33 rfl rfl (Cl.c rfl) rfl rfl (OneC.sl (SlF.o (v := v)) OneC.nil) ?_)
      refine RG.nil ?_
      refine WP.ret ?_
      exact ⟨_, _, ResV.one rfl (RV1.cell rfl Ag33 rfl), Cv.p, k v rs⟩
    · skip
      cases h2
  · have g2 : rs.length ≠ 0 := by simp at g1; simpa using g1
    refine RG.take rfl rfl rfl g1 ?_
    refine RG.pv rfl (PV.move rfl rfl) ?_
    refine RG.take rfl rfl rfl g1 ?_
    refine RG.pv rfl (PV.mvI (.inl rfl) rfl) ?_
    refine RG.take rfl rfl rfl g1 ?_
    refine RG.callF (vs := [_, _]) rfl rfl En93 rfl (CallT.exC (src b cv) (next_s hcode (by omega) (fun w15 hw15 => ?_)))
    refine RG.take rfl rfl rfl g1 ?_
    refine RG.pv rfl (PV.neq rfl rfl rfl) ?_
    refine RG.pv rfl (PV.pickE rfl rfl g1 rfl) ?_
    refine RG.nil ?_
    refine WP.cond rfl (fun h2 => ?_) (fun h2 => ?_)
    · skip
      refine WP.seq ?_
      refine WP.region ?_
      refine RG.pv rfl (PV.loadW rfl Ag33 rfl rfl) ?_
      refine RG.ot rfl (OT.storeW (vs := [_]) rfl Sz33 rfl rfl (Cl.c rfl) rfl rfl (OneC.sl (SlF.o (v := v)) OneC.nil) ?_)
      refine RG.nil ?_
      refine WP.ret ?_
      exact ⟨_, _, ResV.one rfl (RV1.cell rfl Ag33 rfl), Cv.p, k v rs⟩
    · refine WP.skip ?_
      refine WP.seq ?_
      refine WP.seq ?_
      refine WP.region ?_
      refine RG.pv rfl (PV.move rfl rfl) ?_
      refine RG.callF (vs := [_, _]) rfl rfl En93 rfl (CallT.exC (src b cv) (next_s hcode (by omega) (fun w20 hw20 => ?_)))
      refine RG.pv rfl (PV.eql rfl rfl rfl) ?_
      refine RG.nil ?_
      refine WP.cond rfl (fun h3 => ?_) (fun h3 => ?_)
      · skip
        refine WP.seq ?_
        refine WP.region ?_
        refine RG.pv rfl (PV.field rfl Fo33_0 rfl) ?_
        refine RG.pv rfl (PV.load1 rfl Sc31 rfl (Rd.blk rfl)) ?_
        refine RG.pv rfl (PV.idxS (j := 0) (v := v) rfl Is31 rfl SlF.o rfl (by first | omega | (simp only [List.length_set]; omega)) (by first | omega | (simp only [List.length_set]; omega))) ?_
        refine RG.pv rfl (PV.field rfl Fo52_3 rfl) ?_
        refine RG.ot rfl (OT.storeF (F := ruleT) (val := vi) (cv := fun u => [vi u]) (st := Rule.s3) rfl Sz2 rfl rfl rfl (Cl.c rfl) rfl (OneC.c rfl) (by exact set_self (by omega)) (by first | omega | (simp; omega)) rfl (fun _ _ => rfl) ?_)
        refine RG.nil ?_
        refine WP.seq ?_
        refine WP.region ?_
        refine RG.pv rfl (PV.loadW rfl Ag33 rfl rfl) ?_
        refine RG.ot rfl (OT.storeW (vs := [_]) rfl Sz33 rfl rfl (Cl.c rfl) rfl rfl (OneC.sl (SlF.o (v := v)) OneC.nil) ?_)
        refine RG.nil ?_
        refine WP.ret ?_
        exact ⟨_, _, ResV.one rfl (RV1.cell rfl Ag33 rfl), Cv.p, k v (rs.set 0 (Rule.s3 0 (gd rs 0)))⟩
      · skip
        refine WP.skip ?_
        refine WP.seq ?_
        refine WP.region ?_
        refine RG.pv rfl (PV.field rfl Fo33_0 rfl) ?_
        refine RG.pv rfl (PV.load1 rfl Sc31 rfl (Rd.blk rfl)) ?_
        refine RG.pv rfl (PV.idxS (j := 0) (v := v) rfl Is31 rfl SlF.o rfl (by first | omega | (simp only [List.length_set]; omega)) (by first | omega | (simp only [List.length_set]; omega))) ?_
        refine RG.pv rfl (PV.loadE rfl Ag52 rfl rfl (El.o (getG (by omega)))) ?_
        refine RG.ot rfl (OT.alloc rfl Zr52 fun b7 => ?_)
        refine RG.ot rfl (OT.storeW (vs := [vi _, vi _, vi _, vi _, vi _]) rfl Sz52 rfl rfl (Cl.c rfl) rfl rfl (OneC.c rfl) ?_)
        refine RG.nil ?_
        refine WP.seq ?_
        refine WP.region ?_
        refine RG.pv rfl (PV.field rfl Fo33_0 rfl) ?_
        refine RG.pv rfl (PV.load1 rfl Sc31 rfl (Rd.blk rfl)) ?_
        refine RG.pv rfl (PV.loadW rfl Ag52 rfl rfl) ?_
        refine RG.ot rfl (OT.bslice (F := ruleT) (els := [_]) rfl El31 rfl (by decide) rfl (by decide) ⟨rfl, (Cl.c rfl), trivial⟩ fun v34 => ?_)
        refine RG.ot rfl (OT.append (v := v) (u := v34) (F := ruleT) rfl El31 rfl (by decide) rfl rfl Rs.o (OneL.c (fun _ => rfl)) rfl (by first | omega | (simp <;> omega)) fun v35 => ?_)
        refine RG.pv rfl (PV.field rfl Fo33_0 rfl) ?_
        refine RG.ot rfl (OT.storeB (v := v35) (vs := [_]) (cs' := [_]) rfl Sz31 rfl rfl (Cl.s (v := v35) SlF.o) rfl (OneC.sl SlF.o OneC.nil) rfl rfl ?_)
        refine RG.nil ?_
        refine WP.seq ?_
        refine WP.region ?_
        refine RG.pv rfl (PV.loadW rfl Ag33 rfl rfl) ?_
        refine RG.ot rfl (OT.storeW (vs := [_]) rfl Sz33 rfl rfl (Cl.c rfl) rfl rfl (OneC.sl (SlF.o (v := v35)) OneC.nil) ?_)
        refine RG.nil ?_
        refine WP.ret ?_
        exact ⟨_, _, ResV.one rfl (RV1.cell rfl Ag33 rfl), Cv.p, k v35 (rs ++ [gd rs 0])⟩
/-- violations whose markers are those of a bag, or nil -/
def MkIn (zs : List Viol) (ys : List (Sl Rect)) : Prop := ∀ z ∈ zs, z.marker ∈ ys ∨ z.marker = ⟨.slice none 0 0, []⟩
theorem MkIn.self (zs : List Viol) : MkIn zs (mks zs) := fun z hz => .inl (List.mem_map_of_mem hz)
theorem MkIn.set {zs : List Viol} {ys : List (Sl Rect)} (h : MkIn zs ys) (i : Nat) {z : Viol} (hz : z.marker ∈ ys ∨ z.marker = ⟨.slice none 0 0, []⟩) : MkIn (zs.set i z) ys := fun a ha => by
  rcases List.mem_or_eq_of_mem_set ha with h1 | h1
  · exact h a h1
  · rw [h1]; exact hz
theorem MkIn.app {zs : List Viol} {ys : List (Sl Rect)} (h : MkIn zs ys) {z : Viol} (hz : z.marker ∈ ys ∨ z.marker = ⟨.slice none 0 0, []⟩) : MkIn (zs ++ [z]) ys := fun a ha => by
  rcases List.mem_append.1 ha with h1 | h1
  · exact h a h1
  · simp only [List.mem_singleton] at h1; rw [h1]; exact hz
theorem MkIn.gd {zs : List Viol} {ys : List (Sl Rect)} (h : MkIn zs ys) {i : Nat} (hi : i < zs.length) : (gd zs i).marker ∈ ys ∨ (gd zs i).marker = ⟨.slice none 0 0, []⟩ := h _ (gd_mem hi)
theorem MkIn.one {zs : List Viol} {ys : List (Sl Rect)} {e : TypeId} {L L' : List Ch} [hX : ExBg ys L e rectT L'] (h : MkIn zs ys) : OneL G L violT zs := fun w hs a ha => by
  rcases h a ha with h1 | h1
  · obtain ⟨i, hi, e1⟩ := List.getElem_of_mem h1
    have := (Rs.inBag (G := G) (L := L) (L' := L') (e := e) (F := rectT) (xs := ys) i hi) w hs
    rw [gd_eq hi, e1] at this
    exact OneC.val (v := vi a.rule) rfl (OneC.sl (v := a.marker.v) (m := a.marker.xs.length) (fun _ _ => this.1) OneC.nil) w hs
  · show allOne [vi a.rule, a.marker.v] = true
    rw [h1]; rfl
theorem MkIn.onec {z : Viol} {ys : List (Sl Rect)} {e : TypeId} {L L' : List Ch} [hX : ExBg ys L e rectT L'] (h : z.marker ∈ ys ∨ z.marker = ⟨.slice none 0 0, []⟩) : OneC G L (violT.enc z) := fun w hs =>
  MkIn.one (e := e) (zs := [z]) (hX := hX) (fun a ha => by simp only [List.mem_singleton] at ha; rw [ha]; exact h) w hs z (.head _)
theorem spoilReport_w {b : Nat} {n : Int} {cv v : Value} {bs : List UInt8} {zs : List Viol} {ys : List (Sl Rect)} (hcode : SL G byteT cv bs) (hn : 1 ≤ n ∧ n ≤ 100) (hl : zs.length ≤ 10000000) (hm : MkIn zs ys) (k : ∀ v' zs', zs'.length ≤ zs.length + 1 → MkIn zs' ys → R v' G (osl 37 violT v' zs' :: bagS 101 rectT ys :: src b cv :: L)) : CallT Tryz.prog 95 #[.pointer (some ⟨b, 0, none⟩), v, vi n] G (osl 37 violT v zs :: bagS 101 rectT ys :: src b cv :: L) R := by
  refine CallT.enter (args := _) Tryz.func95 rfl rfl (by kernel_rfl) rfl ?_
  refine WP.seq ?_
  refine WP.region ?_
  refine RG.pv rfl (PV.asg rfl rfl) ?_
  refine RG.nil ?_
  refine WP.seq ?_
  refine WP.seq ?_
  refine WP.region ?_
  refine RG.pv rfl (PV.move (v := v) rfl rfl) ?_
  refine RG.pv rfl (PV.len (v := v) rfl Tryz.underlying66 rfl SlF.o) ?_
  refine RG.pv rfl (PV.eql rfl rfl rfl) ?_
  refine RG.pv rfl (PV.mvB (.inl rfl) rfl) ?_
  refine RG.spl (t := 12) rfl (fun g1 => ?_) (fun g1 => ?_)
  · refine RG.skip rfl rfl rfl (gneF g1) ?_
    refine RG.skip rfl rfl rfl (gneF g1) ?_
    refine RG.skip rfl rfl rfl (gneF g1) ?_
    refine RG.skip rfl rfl rfl (gneF g1) ?_
    refine RG.pv rfl (PV.pickT rfl rfl g1 rfl) ?_
    refine RG.nil ?_
    refine WP.cond rfl (fun h2 => ?_) (fun h2 => ?_)
    · refine WP.seq ?_
      refine WP.region ?_
      refine RG.pv rfl (PV.move (v := v) rfl rfl) ?_
      refine RG.pv rfl (PV.asg (v := v) rfl rfl) ?_
      refine RG.nil ?_
      refine WP.ret ?_
      exact ⟨_, _, ResV.one rfl rfl, Cv.p, k v zs (by omega) hm⟩
    · skip
      cases h2
  · have g2 : zs.length ≠ 0 := by simp at g1; simpa using g1
    refine RG.take rfl rfl rfl g1 ?_
    refine RG.pv rfl (PV.move rfl rfl) ?_
    refine RG.take rfl rfl rfl g1 ?_
    refine RG.pv rfl (PV.mvI (.inl rfl) rfl) ?_
    refine RG.take rfl rfl rfl g1 ?_
    refine RG.callF (vs := [_, _]) rfl rfl En93 rfl (CallT.exC (src b cv) (next_s hcode (by omega) (fun w15 hw15 => ?_)))
    refine RG.take rfl rfl rfl g1 ?_
    refine RG.pv rfl (PV.neq rfl rfl rfl) ?_
    refine RG.pv rfl (PV.pickE rfl rfl g1 rfl) ?_
    refine RG.nil ?_
    refine WP.cond rfl (fun h2 => ?_) (fun h2 => ?_)
    · refine WP.seq ?_
      refine WP.region ?_
      refine RG.pv rfl (PV.move (v := v) rfl rfl) ?_
      refine RG.pv rfl (PV.asg (v := v) rfl rfl) ?_
      refine RG.nil ?_
      refine WP.ret ?_
      exact ⟨_, _, ResV.one rfl rfl, Cv.p, k v zs (by omega) hm⟩
    · skip
      have hlm : zs.length - 1 < zs.length := by omega
      have hml := hm.gd hlm
      refine WP.skip ?_
      refine WP.seq ?_
      refine WP.region ?_
      refine RG.ot rfl (OT.bslice (F := violT) (els := []) rfl El66 rfl (by decide) rfl (by decide) trivial fun v19 => ?_)
      refine RG.pv rfl (PV.move (v := v) rfl rfl) ?_
      refine RG.ot rfl (OT.append (v := v19) (u := v) (F := violT) rfl El66 rfl (by decide) rfl rfl Rs.o (MkIn.one (e := 101) hm) rfl (by first | omega | (simp <;> omega)) fun v21 => ?_)
      refine RG.pv rfl (PV.asg (v := v21) rfl rfl) ?_
      refine RG.nil ?_
      refine WP.seq ?_
      refine WP.seq ?_
      refine WP.region ?_
      refine RG.pv rfl (PV.move rfl rfl) ?_
      refine RG.callF (vs := [_, _]) rfl rfl En93 rfl (CallT.exC (src b cv) (next_s hcode (by omega) (fun w23 hw23 => ?_)))
      refine RG.nil ?_
      refine WP.block ?_
      refine WP.seq ?_
      refine WP.region ?_
      refine RG.pv rfl (PV.eql rfl rfl rfl) ?_
      refine RG.pv rfl (PV.mvB (.inr rfl) rfl) ?_
      refine RG.nil ?_
      refine WP.cv ((Cv.p (C := osl 37 violT v21 ([] ++ zs) :: bagS 101 rectT ys :: src b cv :: L)).trans (Cv.eqS (List.nil_append _))) ?_
      refine WP.cond rfl (fun h3 => ?_) (fun h3 => ?_)
      · refine WP.region ?_
        refine RG.pv rfl (PV.move (v := v21) rfl rfl) ?_
        refine RG.pv rfl (PV.idxS (j := 0) (v := v21) rfl Is66 rfl SlF.o rfl (by first | omega | (simp only [List.length_set]; omega)) (by first | omega | (simp only [List.length_set]; omega))) ?_
        refine RG.pv rfl (PV.field rfl Fo37_0 rfl) ?_
        refine RG.ot rfl (OT.storeF (F := violT) (val := vi) (cv := fun u => [vi u]) (st := Viol.s0) rfl Sz2 rfl rfl rfl (Cl.c rfl) rfl (OneC.c rfl) (by exact set_self (by omega)) (by first | omega | (simp; omega)) rfl (fun _ _ => rfl) ?_)
        refine RG.nil ?_
        refine WP.seq ?_
        refine WP.region ?_
        refine RG.pv rfl (PV.move (v := v21) rfl rfl) ?_
        refine RG.pv rfl (PV.asg (v := v21) rfl rfl) ?_
        refine RG.nil ?_
        refine WP.ret ?_
        exact ⟨_, _, ResV.one rfl rfl, Cv.p, k v21 (zs.set 0 (Viol.s0 12 (gd zs 0))) (by simp) (hm.set 0 (hm.gd (by omega)))⟩
      · refine WP.seq ?_
        refine WP.region ?_
        refine RG.pv rfl (PV.eql rfl rfl rfl) ?_
        refine RG.pv rfl (PV.mvB (.inr rfl) rfl) ?_
        refine RG.nil ?_
        refine WP.cond rfl (fun h4 => ?_) (fun h4 => ?_)
        · skip
          refine WP.seq ?_
          refine WP.region ?_
          refine RG.pv rfl (PV.move (v := v21) rfl rfl) ?_
          refine RG.pv rfl (PV.move (v := v21) rfl rfl) ?_
          refine RG.pv rfl (PV.len (v := v21) rfl Tryz.underlying66 rfl SlF.o) ?_
          refine RG.pv rfl (PV.sub rfl rfl rfl (by omega)) ?_
          refine RG.pv rfl (PV.idxS (j := zs.length - 1) (v := v21) rfl Is66 rfl SlF.o rfl (by first | omega | (simp only [List.length_set]; omega)) (by first | omega | (simp only [List.length_set]; omega))) ?_
          refine RG.pv rfl (PV.loadE rfl Ag37 rfl rfl (El.o (getG (by omega)))) ?_
          refine RG.ot rfl (OT.alloc rfl Zr37 fun b8 => ?_)
          refine RG.ot rfl (OT.storeW (vs := [vi _, _]) rfl Sz37 rfl rfl (Cl.c rfl) rfl rfl (MkIn.onec (e := 101) hml) ?_)
          refine RG.nil ?_
          refine WP.region ?_
          refine RG.pv rfl (PV.move (v := v21) rfl rfl) ?_
          refine RG.pv rfl (PV.loadW rfl Ag37 rfl rfl) ?_
          refine RG.ot rfl (OT.bslice (F := violT) (els := [(gd zs (zs.length - 1))]) rfl El66 rfl (by decide) rfl (by decide) ⟨rfl, (Cl.c rfl), trivial⟩ fun v45 => ?_)
          refine RG.ot rfl (OT.append (v := v21) (u := v45) (F := violT) rfl El66 rfl (by decide) rfl rfl Rs.o (OneL.one (MkIn.onec (e := 101) hml)) rfl (by first | omega | (simp <;> omega)) fun v46 => ?_)
          refine RG.pv rfl (PV.asg (v := v46) rfl rfl) ?_
          refine RG.nil ?_
          refine WP.seq ?_
          refine WP.region ?_
          refine RG.pv rfl (PV.move (v := v46) rfl rfl) ?_
          refine RG.pv rfl (PV.asg (v := v46) rfl rfl) ?_
          refine RG.nil ?_
          refine WP.ret ?_
          exact ⟨_, _, ResV.one rfl rfl, Cv.p, k v46 (zs ++ [gd zs (zs.length - 1)]) (by simp) (hm.app hml)⟩
        · refine WP.seq ?_
          refine WP.region ?_
          refine RG.pv rfl (PV.eql rfl rfl rfl) ?_
          refine RG.pv rfl (PV.mvB (.inr rfl) rfl) ?_
          refine RG.nil ?_
          refine WP.cond rfl (fun h5 => ?_) (fun h5 => ?_)
          · skip
            refine WP.region ?_
            refine RG.pv rfl (PV.move (v := v21) rfl rfl) ?_
            refine RG.pv rfl (PV.idxS (j := 0) (v := v21) rfl Is66 rfl SlF.o rfl (by first | omega | (simp only [List.length_set]; omega)) (by first | omega | (simp only [List.length_set]; omega))) ?_
            refine RG.pv rfl (PV.field rfl Fo37_1 rfl) ?_
            refine RG.ot rfl (OT.storeF (F := violT) (val := Sl.v) (cv := fun u => [u.v]) (u := (⟨.slice none 0 0, []⟩ : Sl Rect)) (st := Viol.s1) rfl Sz35 rfl rfl rfl (Cl.c rfl) rfl (OneC.c rfl) (by exact set_self (by omega)) (by first | omega | (simp; omega)) rfl (fun _ _ => rfl) ?_)
            refine RG.nil ?_
            refine WP.seq ?_
            refine WP.region ?_
            refine RG.pv rfl (PV.move (v := v21) rfl rfl) ?_
            refine RG.pv rfl (PV.asg (v := v21) rfl rfl) ?_
            refine RG.nil ?_
            refine WP.ret ?_
            exact ⟨_, _, ResV.one rfl rfl, Cv.p, k v21 (zs.set 0 (Viol.s1 ⟨.slice none 0 0, []⟩ (gd zs 0))) (by simp) (hm.set 0 (.inr rfl))⟩
          · refine WP.region ?_
            refine RG.pv rfl (PV.move (v := v21) rfl rfl) ?_
            refine RG.pv rfl (PV.move (v := v21) rfl rfl) ?_
            refine RG.pv rfl (PV.len (v := v21) rfl Tryz.underlying66 rfl SlF.o) ?_
            refine RG.pv rfl (PV.sub rfl rfl rfl (by omega)) ?_
            refine RG.pv rfl (PV.idxS (j := zs.length - 1) (v := v21) rfl Is66 rfl SlF.o rfl (by first | omega | (simp only [List.length_set]; omega)) (by first | omega | (simp only [List.length_set]; omega))) ?_
            refine RG.pv rfl (PV.field rfl Fo37_0 rfl) ?_
            refine RG.ot rfl (OT.storeF (F := violT) (val := vi) (cv := fun u => [vi u]) (st := Viol.s0) rfl Sz2 rfl rfl rfl (Cl.c rfl) rfl (OneC.c rfl) (by exact set_self (by omega)) (by first | omega | (simp; omega)) rfl (fun _ _ => rfl) ?_)
            refine RG.nil ?_
            refine WP.seq ?_
            refine WP.region ?_
            refine RG.pv rfl (PV.move (v := v21) rfl rfl) ?_
            refine RG.pv rfl (PV.asg (v := v21) rfl rfl) ?_
            refine RG.nil ?_
            refine WP.ret ?_
            exact ⟨_, _, ResV.one rfl rfl, Cv.p, k v21 (zs.set (zs.length - 1) (Viol.s0 (-1) (gd zs (zs.length - 1)))) (by simp) (hm.set _ hml)⟩
end Go.Proofs.YtgngpegmaceaiaaGreat
namespace Go.Proofs.YtgngpegmaceaiaaGreat
set_option linter.unusedVariables false
set_option linter.unusedSimpArgs false
open Go
set_option maxRecDepth 20000
set_option maxHeartbeats 2000000
set_option linter.unusedSimpArgs false
variable {G : Gh} {L : List Ch} {R : Value → Gh → List Ch → Prop}
def RsOk (ws : List Waiver) : Prop := ∀ w ∈ ws, w.reason.size ≤ 9
theorem RsOk.set {ws : List Waiver} (h : RsOk ws) (i : Nat) {w : Waiver} (hw : w.reason.size ≤ 9) : RsOk (ws.set i w) := fun a ha => by
  rcases List.mem_or_eq_of_mem_set ha with h1 | h1
  · exact h a h1
  · rw [h1]; exact hw
theorem RsOk.app {ws : List Waiver} (h : RsOk ws) {w : Waiver} (hw : w.reason.size ≤ 9) : RsOk (ws ++ [w]) := fun a ha => by
  rcases List.mem_append.1 ha with h1 | h1
  · exact h a h1
  · simp only [List.mem_singleton] at h1; rw [h1]; exact hw
theorem spoilWaivers_w {b : Nat} {n : Int} {cv v : Value} {bs : List UInt8} {ws : List Waiver} (hcode : SL G byteT cv bs) (hn : 1 ≤ n ∧ n ≤ 100) (hl : ws.length ≤ 10000) (hm : RsOk ws) (k : ∀ v' ws', RsOk ws' → R v' G (osl 83 waiverT v' ws' :: src b cv :: L)) : CallT Tryz.prog 96 #[.pointer (some ⟨b, 0, none⟩), v, vi n] G (osl 83 waiverT v ws :: src b cv :: L) R := by
  refine CallT.enter (args := _) Tryz.func96 rfl rfl (by kernel_rfl) rfl ?_
  refine WP.seq ?_
  refine WP.region ?_
  refine RG.pv rfl (PV.asg rfl rfl) ?_
  refine RG.nil ?_
  refine WP.seq ?_
  refine WP.seq ?_
  refine WP.region ?_
  refine RG.pv rfl (PV.move (v := v) rfl rfl) ?_
  refine RG.pv rfl (PV.len (v := v) rfl Tryz.underlying63 rfl SlF.o) ?_
  refine RG.pv rfl (PV.eql rfl rfl rfl) ?_
  refine RG.pv rfl (PV.mvB (.inl rfl) rfl) ?_
  refine RG.spl (t := 12) rfl (fun g1 => ?_) (fun g1 => ?_)
  · refine RG.skip rfl rfl rfl (gneF g1) ?_
    refine RG.skip rfl rfl rfl (gneF g1) ?_
    refine RG.skip rfl rfl rfl (gneF g1) ?_
    refine RG.skip rfl rfl rfl (gneF g1) ?_
    refine RG.pv rfl (PV.pickT rfl rfl g1 rfl) ?_
    refine RG.nil ?_
    refine WP.cond rfl (fun h2 => ?_) (fun h2 => ?_)
    · refine WP.seq ?_
      refine WP.region ?_
      refine RG.pv rfl (PV.move (v := v) rfl rfl) ?_
      refine RG.pv rfl (PV.asg (v := v) rfl rfl) ?_
      refine RG.nil ?_
      refine WP.ret ?_
      exact ⟨_, _, ResV.one rfl rfl, Cv.p, k v ws hm⟩
    · skip
      cases h2
  · have g2 : ws.length ≠ 0 := by simp at g1; simpa using g1
    refine RG.take rfl rfl rfl g1 ?_
    refine RG.pv rfl (PV.move rfl rfl) ?_
    refine RG.take rfl rfl rfl g1 ?_
    refine RG.pv rfl (PV.mvI (.inl rfl) rfl) ?_
    refine RG.take rfl rfl rfl g1 ?_
    refine RG.callF (vs := [_, _]) rfl rfl En93 rfl (CallT.exC (src b cv) (next_s hcode (by omega) (fun w15 hw15 => ?_)))
    refine RG.take rfl rfl rfl g1 ?_
    refine RG.pv rfl (PV.neq rfl rfl rfl) ?_
    refine RG.pv rfl (PV.pickE rfl rfl g1 rfl) ?_
    refine RG.nil ?_
    refine WP.cond rfl (fun h2 => ?_) (fun h2 => ?_)
    · refine WP.seq ?_
      refine WP.region ?_
      refine RG.pv rfl (PV.move (v := v) rfl rfl) ?_
      refine RG.pv rfl (PV.asg (v := v) rfl rfl) ?_
      refine RG.nil ?_
      refine WP.ret ?_
      exact ⟨_, _, ResV.one rfl rfl, Cv.p, k v ws hm⟩
    · have hlm : ws.length - 1 < ws.length := by omega
      have hml := hm _ (gd_mem hlm)
      refine WP.skip ?_
      refine WP.seq ?_
      refine WP.region ?_
      refine RG.ot rfl (OT.bslice (F := waiverT) (els := []) rfl El63 rfl (by decide) rfl (by decide) trivial fun v19 => ?_)
      refine RG.pv rfl (PV.move (v := v) rfl rfl) ?_
      refine RG.ot rfl (OT.append (v := v19) (u := v) (F := waiverT) rfl El63 rfl (by decide) rfl rfl Rs.o (OneL.c (fun _ => rfl)) rfl (by first | omega | (simp <;> omega)) fun v21 => ?_)
      refine RG.pv rfl (PV.asg (v := v21) rfl rfl) ?_
      refine RG.nil ?_
      refine WP.seq ?_
      refine WP.seq ?_
      refine WP.region ?_
      refine RG.pv rfl (PV.move rfl rfl) ?_
      refine RG.callF (vs := [_, _]) rfl rfl En93 rfl (CallT.exC (src b cv) (next_s hcode (by omega) (fun w23 hw23 => ?_)))
      refine RG.nil ?_
      refine WP.block ?_
      refine WP.seq ?_
      refine WP.region ?_
      refine RG.pv rfl (PV.eql rfl rfl rfl) ?_
      refine RG.pv rfl (PV.mvB (.inr rfl) rfl) ?_
      refine RG.nil ?_
      refine WP.cv ((Cv.p (C := osl 83 waiverT v21 ([] ++ ws) :: src b cv :: L)).trans (Cv.eqS (List.nil_append _))) ?_
      refine WP.cond rfl (fun h3 => ?_) (fun h3 => ?_)
      · refine WP.region ?_
        refine RG.pv rfl (PV.move (v := v21) rfl rfl) ?_
        refine RG.pv rfl (PV.idxS (j := 0) (v := v21) rfl Is63 rfl SlF.o rfl (by first | omega | (simp only [List.length_set]; omega)) (by first | omega | (simp only [List.length_set]; omega))) ?_
        refine RG.pv rfl (PV.field rfl Fo83_1 rfl) ?_
        refine RG.ot rfl (OT.storeF (F := waiverT) (val := Value.string) (cv := fun u => [.string u]) (st := Waiver.s1) rfl Sz9 rfl rfl rfl (Cl.c rfl) rfl (OneC.c rfl) (by exact set_self (by omega)) (by first | omega | (simp; omega)) rfl (fun _ _ => rfl) ?_)
        refine RG.nil ?_
        refine WP.seq ?_
        refine WP.region ?_
        refine RG.pv rfl (PV.move (v := v21) rfl rfl) ?_
        refine RG.pv rfl (PV.asg (v := v21) rfl rfl) ?_
        refine RG.nil ?_
        refine WP.ret ?_
        exact ⟨_, _, ResV.one rfl rfl, Cv.p, k v21 (ws.set 0 (Waiver.s1 (ByteArray.mk #[]) (gd ws 0))) (hm.set 0 (show (ByteArray.mk #[]).size ≤ 9 by decide))⟩
      · refine WP.seq ?_
        refine WP.region ?_
        refine RG.pv rfl (PV.eql rfl rfl rfl) ?_
        refine RG.pv rfl (PV.mvB (.inr rfl) rfl) ?_
        refine RG.nil ?_
        refine WP.cond rfl (fun h4 => ?_) (fun h4 => ?_)
        · refine WP.seq ?_
          refine WP.region ?_
          refine RG.pv rfl (PV.move (v := v21) rfl rfl) ?_
          refine RG.pv rfl (PV.move (v := v21) rfl rfl) ?_
          refine RG.pv rfl (PV.len (v := v21) rfl Tryz.underlying63 rfl SlF.o) ?_
          refine RG.pv rfl (PV.sub rfl rfl rfl (by omega)) ?_
          refine RG.pv rfl (PV.idxS (j := ws.length - 1) (v := v21) rfl Is63 rfl SlF.o rfl (by first | omega | (simp only [List.length_set]; omega)) (by first | omega | (simp only [List.length_set]; omega))) ?_
          refine RG.pv rfl (PV.loadE rfl Ag83 rfl rfl (El.o (getG (by omega)))) ?_
          refine RG.ot rfl (OT.alloc rfl Zr83 fun b8 => ?_)
          refine RG.ot rfl (OT.storeW (vs := [vi _, .string _]) rfl Sz83 rfl rfl (Cl.c rfl) rfl rfl (OneC.c rfl) ?_)
          refine RG.nil ?_
          refine WP.region ?_
          refine RG.pv rfl (PV.move (v := v21) rfl rfl) ?_
          refine RG.pv rfl (PV.loadW rfl Ag83 rfl rfl) ?_
          refine RG.ot rfl (OT.bslice (F := waiverT) (els := [_]) rfl El63 rfl (by decide) rfl (by decide) ⟨rfl, (Cl.c rfl), trivial⟩ fun v42 => ?_)
          refine RG.ot rfl (OT.append (v := v21) (u := v42) (F := waiverT) rfl El63 rfl (by decide) rfl rfl Rs.o (OneL.c (fun _ => rfl)) rfl (by first | omega | (simp <;> omega)) fun v43 => ?_)
          refine RG.pv rfl (PV.asg (v := v43) rfl rfl) ?_
          refine RG.nil ?_
          refine WP.seq ?_
          refine WP.region ?_
          refine RG.pv rfl (PV.move (v := v43) rfl rfl) ?_
          refine RG.pv rfl (PV.asg (v := v43) rfl rfl) ?_
          refine RG.nil ?_
          refine WP.ret ?_
          exact ⟨_, _, ResV.one rfl rfl, Cv.p, k v43 (ws ++ [gd ws (ws.length - 1)]) (hm.app hml)⟩
        · refine WP.region ?_
          refine RG.pv rfl (PV.move (v := v21) rfl rfl) ?_
          refine RG.pv rfl (PV.idxS (j := 0) (v := v21) rfl Is63 rfl SlF.o rfl (by first | omega | (simp only [List.length_set]; omega)) (by first | omega | (simp only [List.length_set]; omega))) ?_
          refine RG.pv rfl (PV.field rfl Fo83_0 rfl) ?_
          refine RG.ot rfl (OT.storeF (F := waiverT) (val := vi) (cv := fun u => [vi u]) (st := Waiver.s0) rfl Sz2 rfl rfl rfl (Cl.c rfl) rfl (OneC.c rfl) (by exact set_self (by omega)) (by first | omega | (simp; omega)) rfl (fun _ _ => rfl) ?_)
          refine RG.nil ?_
          refine WP.seq ?_
          refine WP.region ?_
          refine RG.pv rfl (PV.move (v := v21) rfl rfl) ?_
          refine RG.pv rfl (PV.asg (v := v21) rfl rfl) ?_
          refine RG.nil ?_
          refine WP.ret ?_
          exact ⟨_, _, ResV.one rfl rfl, Cv.p, k v21 (ws.set 0 (Waiver.s0 (-1) (gd ws 0))) (hm.set 0 (show (gd ws 0).reason.size ≤ 9 from hm _ (gd_mem (by omega))))⟩
theorem insMem {ws : List Waiver} {w : Waiver} {i n : Nat} : ∀ a ∈ ((([] ++ (ws.take i).drop 0) ++ [w]) ++ (ws.take n).drop i), a ∈ ws ∨ a = w := fun a ha => by
  rw [List.mem_append, List.mem_append, List.nil_append, List.drop_zero, List.mem_singleton] at ha
  rcases ha with (h | h) | h
  · exact .inl (List.mem_of_mem_take h)
  · exact .inr h
  · exact .inl (List.mem_of_mem_take (List.mem_of_mem_drop h))
theorem insert_w {v : Value} {ws : List Waiver} {w : Waiver} (h1 : Rs G L waiverT v ws) (hl : ws.length ≤ 10000) (k : ∀ v' ws', ws'.length = ws.length + 1 → (∀ a ∈ ws', a ∈ ws ∨ a = w) → R v' G (osl 83 waiverT v' ws' :: L)) : CallT Tryz.prog 157 #[v, vT waiverT w] G L R := by
  refine CallT.enter (args := _) Tryz.func157 rfl rfl (by kernel_rfl) rfl ?_
  refine WP.seq ?_
  refine WP.region ?_
  refine RG.ot rfl (OT.box (cs := waiverT.enc w) rfl rfl rfl fun b3 => ?_)
  refine RG.pv rfl (PV.asg rfl rfl) ?_
  refine RG.nil ?_
  refine WP.seq ?_
  refine WP.region ?_
  refine RG.pv rfl (PV.mvI (.inr rfl) rfl) ?_
  refine RG.nil ?_
  refine WP.seq ?_
  refine WP.block ?_
  refine WP.loop1 [0, 3] (fun (i : Nat) => i ≤ ws.length) (fun (i : Nat) => [(5, vi i)]) (fun (i : Nat) => blk b3 83 (waiverT.enc w) :: L) (fun (i : Nat) => ws.length - i) 0 (by omega) ⟨rfl, trivial⟩ Cv.p ?_
  rintro i τ hi
  refine WP.seq ?_
  refine WP.seq ?_
  refine WP.regionQ (by kernel_rfl) (by kernel_rfl) ?_
  refine RQ.pv rfl (PV.mvI (.inl rfl) rfl) ?_
  refine RQ.pv rfl (PV.move (v := v) rfl rfl) ?_
  refine RQ.pv rfl (PV.len (v := v) rfl Tryz.underlying63 rfl (SlF.r h1)) ?_
  refine RQ.pv rfl (PV.lss rfl rfl rfl) ?_
  refine RQ.pv rfl (PV.mvB (.inl rfl) rfl) ?_
  refine RQ.gs rfl rfl rfl (fun hp => (PV.move (v := v) rfl rfl)) ?_
  refine RQ.gs rfl rfl rfl (fun hp => (PV.mvI (.inl rfl) rfl)) ?_
  refine RQ.gs rfl rfl rfl (fun hp => (PV.idxS (v := v) rfl Is63 (gs_t hp) (SlF.r h1) (gs_t hp) rfl (by first | omega | (simp at hp; omega)))) ?_
  refine RQ.gs rfl rfl rfl (fun hp => (PV.field rfl Fo83_0 (gs_t hp))) ?_
  refine RQ.gs rfl rfl rfl (fun hp => (PV.loadF rfl Sc2 (gs_t hp) rfl (El.r h1 (getG (by first | omega | (simp at hp; omega)))) rfl)) ?_
  refine RQ.gs rfl rfl rfl (fun hp => (PV.field rfl Fo83_0 rfl)) ?_
  refine RQ.gs rfl rfl rfl (fun hp => (PV.load1 rfl Sc2 (gs_t hp) (Rd.blk rfl))) ?_
  refine RQ.gs rfl rfl rfl (fun hp => (PV.lss rfl (gs_t hp) (gs_t hp))) ?_
  refine RQ.pv rfl (PV.pickA rfl rfl (fun hq => gs_t (geqT hq)) rfl) ?_
  refine RQ.nil ?_
  refine WP.cond rfl (fun h2 => ?_) (fun h2 => ?_)
  · have h3 : i < ws.length := by simp at h2; omega
    refine WP.skip ?_
    refine WP.block ?_
    refine WP.region ?_
    refine RG.pv rfl (PV.mvI (.inl rfl) rfl) ?_
    refine RG.pv rfl (PV.add rfl rfl rfl (by omega)) ?_
    refine RG.pv rfl (PV.mvI (.inr rfl) rfl) ?_
    refine RG.nil ?_
    exact ⟨rfl, i + 1, (by omega), ⟨rfl, trivial⟩, ⟨rfl, rfl, trivial⟩, Cv.p, by omega⟩
  · refine WP.exit ?_
    refine WP.seq ?_
    refine WP.region ?_
    refine RG.ot rfl (OT.bslice (F := waiverT) (els := []) rfl El63 rfl (by decide) rfl (by decide) trivial fun v23 => ?_)
    refine RG.pv rfl (PV.move (v := v) rfl rfl) ?_
    refine RG.pv rfl (PV.mvI (.inl rfl) rfl) ?_
    refine RG.pv rfl (PV.slc (v := v) rfl Is63 rfl (SlF.r h1) optAt.n (optAt.s rfl rfl) (by omega) (by omega)) ?_
    refine RG.ot rfl (OT.append (v := v23) (F := waiverT) rfl El63 rfl (by decide) rfl rfl (Rs.up (Rs.slv (F := waiverT) h1 (by omega) (by omega))) (OneL.c (fun _ => rfl)) rfl (by first | omega | (simp <;> omega)) fun v27 => ?_)
    refine RG.pv rfl (PV.asg (v := v27) rfl rfl) ?_
    refine RG.nil ?_
    refine WP.seq ?_
    refine WP.region ?_
    refine RG.pv rfl (PV.move (v := v27) rfl rfl) ?_
    refine RG.pv rfl (PV.loadW rfl Ag83 rfl rfl) ?_
    refine RG.ot rfl (OT.bslice (F := waiverT) (els := [_]) rfl El63 rfl (by decide) rfl (by decide) ⟨rfl, (Cl.c rfl), trivial⟩ fun v30 => ?_)
    refine RG.ot rfl (OT.append (v := v27) (u := v30) (F := waiverT) rfl El63 rfl (by decide) rfl rfl Rs.o (OneL.c (fun _ => rfl)) rfl (by first | omega | (simp <;> omega)) fun v31 => ?_)
    refine RG.pv rfl (PV.asg (v := v31) rfl rfl) ?_
    refine RG.nil ?_
    refine WP.seq ?_
    refine WP.region ?_
    refine RG.pv rfl (PV.move (v := v31) rfl rfl) ?_
    refine RG.pv rfl (PV.move (v := v) rfl rfl) ?_
    refine RG.pv rfl (PV.mvI (.inl rfl) rfl) ?_
    refine RG.pv rfl (PV.slc (v := v) rfl Is63 rfl (SlF.r h1) (optAt.s rfl rfl) optAt.n (by omega) (by omega)) ?_
    refine RG.ot rfl (OT.append (v := v31) (F := waiverT) rfl El63 rfl (by decide) rfl rfl (Rs.up (Rs.slv (F := waiverT) h1 (by omega) (by omega))) (OneL.c (fun _ => rfl)) rfl (by first | omega | (simp <;> omega)) fun v36 => ?_)
    refine RG.pv rfl (PV.asg (v := v36) rfl rfl) ?_
    refine RG.nil ?_
    refine WP.ret ?_
    exact ⟨_, _, ResV.one rfl rfl, Cv.p, k v36 ((([] ++ (ws.take i).drop 0) ++ [w]) ++ (ws.take ws.length).drop i) (by simp; omega) insMem⟩
theorem RsOk.ins {ws ws' : List Waiver} {w : Waiver} (h : RsOk ws) (hm : ∀ a ∈ ws', a ∈ ws ∨ a = w) (hw : w.reason.size ≤ 9) : RsOk ws' := fun a ha => by
  rcases hm a ha with h1 | h1
  · exact h a h1
  · rw [h1]; exact hw
abbrev rn3 : List ByteArray := [ByteArray.mk #[115, 101, 97, 108], ByteArray.mk #[116, 101, 115, 116, 45, 49], ByteArray.mk #[120]]
theorem rn3_ok {w : Int} (hw : 0 ≤ w ∧ (w < 3 ∨ w = 0)) : (gd rn3 w.toNat).size ≤ 9 := by
  have h5 : w.toNat < 3 := by omega
  have := gd_mem (xs := rn3) (i := w.toNat) h5
  have key : ∀ b ∈ rn3, b.size ≤ 9 := by decide
  exact key _ this
theorem drawWaivers_w {b : Nat} {cv u : Value} {bs : List UInt8} {d : Deck} {zs : List Viol} (hcode : SL G byteT cv bs) (hr : Rs G L ruleT d.rules.v d.rules.xs) (h2 : Rs G L violT u zs) (hd : ∀ i, i < zs.length → Rs G L rectT (gd zs i).marker.v (gd zs i).marker.xs) (hl : zs.length ≤ 10000000) (k : ∀ v' ws, ws.length ≤ 4 → RsOk ws → R v' G (osl 83 waiverT v' ws :: src b cv :: L)) : CallT Tryz.prog 92 #[.pointer (some ⟨b, 0, none⟩), vT deckT d, u] G (src b cv :: L) R := by
  refine CallT.enter (args := _) Tryz.func92 rfl rfl (by kernel_rfl) rfl ?_
  refine WP.seq ?_
  refine WP.region ?_
  refine RG.ot rfl (OT.box (cs := deckT.enc d) rfl rfl rfl fun b4 => ?_)
  refine RG.pv rfl (PV.asg rfl rfl) ?_
  refine RG.nil ?_
  refine WP.seq ?_
  refine WP.region ?_
  refine RG.ot rfl (OT.bslice (F := waiverT) (els := []) rfl El63 rfl (by decide) rfl (by decide) trivial fun v11 => ?_)
  refine RG.pv rfl (PV.asg (v := v11) rfl rfl) ?_
  refine RG.nil ?_
  refine WP.seq ?_
  refine WP.seq ?_
  refine WP.region ?_
  refine RG.pv rfl (PV.move rfl rfl) ?_
  refine RG.callF (vs := [_, _]) rfl rfl En93 rfl (CallT.exC (src b cv) (next_s hcode (by omega) (fun w13 hw13 => ?_)))
  refine RG.pv rfl (PV.mvI (.inr rfl) rfl) ?_
  refine RG.nil ?_
  refine WP.block ?_
  refine WP.loop3 [0, 2, 4] (fun (j : Int) (ws : List Waiver) (q : Value) => (0 ≤ j ∧ j ≤ 3) ∧ (ws.length : Int) + j ≤ 3 ∧ RsOk ws) (fun (j : Int) (ws : List Waiver) (q : Value) => [(8, vi j), (7, q)]) (fun (j : Int) (ws : List Waiver) (q : Value) => osl 83 waiverT q ws :: src b cv :: blk b4 33 (deckT.enc d) :: L) (fun (j : Int) (ws : List Waiver) (q : Value) => j.toNat) w13 [] v11 ⟨by omega, by simp; omega, fun a h => by cases h⟩ ⟨rfl, rfl, trivial⟩ Cv.p ?_
  rintro j ws q τ ⟨hj, hwl, hok⟩
  refine WP.seq ?_
  refine WP.seq ?_
  refine WP.region ?_
  refine RG.pv rfl (PV.mvI (.inl rfl) rfl) ?_
  refine RG.pv rfl (PV.gtr rfl rfl rfl) ?_
  refine RG.nil ?_
  refine WP.cond rfl (fun h3 => ?_) (fun h3 => ?_)
  · have h3 := of_decide_eq_true h3
    refine WP.skip ?_
    refine WP.seq ?_
    refine WP.block ?_
    refine WP.seq ?_
    refine WP.region ?_
    refine RG.pv rfl (PV.move rfl rfl) ?_
    refine RG.callF (vs := [_, _]) rfl rfl En93 rfl (CallT.exC (src b cv) (next_s hcode (by omega) (fun w19 hw19 => ?_)))
    refine RG.ot rfl (OT.bslice (F := strT) (els := [_, _, _]) rfl El164 rfl (by decide) rfl (by decide) ⟨rfl, (Cl.c rfl), ⟨rfl, (Cl.c rfl), ⟨rfl, (Cl.c rfl), trivial⟩⟩⟩ fun v20 => ?_)
    refine RG.pv rfl (PV.move rfl rfl) ?_
    refine RG.callF (vs := [_, _]) rfl rfl En93 rfl (CallT.exC (src b cv) (next_s hcode (by omega) (fun w22 hw22 => ?_)))
    refine RG.pv rfl (PV.idxS (j := w22.toNat) (v := v20) rfl Is164 rfl SlF.o rfl (by first | omega | (simp only [List.length_set]; omega) | (simp only [List.length_cons, List.length_nil]; omega)) (by first | omega | (simp only [List.length_set]; omega) | (simp only [List.length_cons, List.length_nil]; omega))) ?_
    refine RG.pv rfl (PV.loadE1 rfl Sc9 rfl rfl (El.o (getG (by first | omega | (simp only [List.length_cons, List.length_nil]; omega)))) rfl) ?_
    refine RG.pv rfl (PV.build (vs := [(0, [vi _]), (1, [.string _])]) (out := [_, _]) rfl Zr83 Pl83 ⟨rfl, (Cl.c rfl), ⟨rfl, (Cl.c rfl), trivial⟩⟩ rfl) ?_
    refine RG.ot rfl (OT.alloc rfl Zr83 fun b9 => ?_)
    refine RG.ot rfl (OT.storeW (vs := [vi _, .string _]) rfl Sz83 rfl rfl (Cl.c rfl) rfl rfl (OneC.c rfl) ?_)
    refine RG.nil ?_
    refine WP.cut1 [0, 2, 4, 7, 8, 9] (fun (w2 : Waiver) => w2.reason.size ≤ 9) (fun (w2 : Waiver) => []) (fun (w2 : Waiver) => blk b9 83 (waiverT.enc w2) :: osl 83 waiverT q ws :: src b cv :: blk b4 33 (deckT.enc d) :: L) ?_ ?_
    refine WP.seq ?_
    refine WP.region ?_
    refine RG.pv rfl (PV.move (v := u) rfl rfl) ?_
    refine RG.pv rfl (PV.len (v := u) rfl Tryz.underlying66 rfl (SlF.r h2)) ?_
    refine RG.pv rfl (PV.gtr rfl rfl rfl) ?_
    refine RG.pv rfl (PV.mvB (.inl rfl) rfl) ?_
    refine RG.spl (t := 29) rfl (fun g1 => ?_) (fun g1 => ?_)
    · have g2 := of_decide_eq_true g1
      refine RG.take rfl rfl rfl g1 ?_
      refine RG.pv rfl (PV.move rfl rfl) ?_
      refine RG.take rfl rfl rfl g1 ?_
      refine RG.callF (vs := [_, _]) rfl rfl En93 rfl (CallT.exC (src b cv) (next_s hcode (by omega) (fun w31 hw31 => ?_)))
      refine RG.take rfl rfl rfl g1 ?_
      refine RG.pv rfl (PV.neq rfl rfl rfl) ?_
      refine RG.pv rfl (PV.pickT rfl rfl g1 rfl) ?_
      refine RG.nil ?_
      refine WP.cond rfl (fun h4 => ?_) (fun h4 => ?_)
      · skip
        refine WP.seq ?_
        refine WP.region ?_
        refine RG.pv rfl (PV.move (v := u) rfl rfl) ?_
        refine RG.pv rfl (PV.move rfl rfl) ?_
        refine RG.pv rfl (PV.move (v := u) rfl rfl) ?_
        refine RG.pv rfl (PV.len (v := u) rfl Tryz.underlying66 rfl (SlF.r h2)) ?_
        refine RG.callF (vs := [_, _]) rfl rfl En93 rfl (CallT.exC (src b cv) (next_s hcode (by omega) (fun w38 hw38 => ?_)))
        refine RG.pv rfl (PV.idxS (j := w38.toNat) (v := u) rfl Is66 rfl (SlF.r h2) rfl (by first | omega | (simp only [List.length_set]; omega) | (simp only [List.length_cons, List.length_nil]; omega)) (by first | omega | (simp only [List.length_set]; omega) | (simp only [List.length_cons, List.length_nil]; omega))) ?_
        refine RG.pv rfl (PV.loadE rfl Ag37 rfl rfl (El.r h2 (getG (by first | omega | (simp only [List.length_cons, List.length_nil]; omega))))) ?_
        refine RG.ot rfl (OT.alloc rfl Zr37 fun b10 => ?_)
        refine RG.ot rfl (OT.storeW (vs := [vi _, _]) rfl Sz37 rfl rfl (Cl.c rfl) rfl rfl (OneC.val rfl (OneC.sl (SlF.r (hd w38.toNat (by omega))) OneC.nil)) ?_)
        refine RG.nil ?_
        refine WP.region ?_
        refine RG.pv rfl (PV.loadW rfl Ag33 rfl rfl) ?_
        refine RG.pv rfl (PV.loadW rfl Ag37 rfl rfl) ?_
        refine RG.callF (vs := [_, _]) rfl rfl En12 rfl (violSig_r (d := d) (v := gd zs w38.toNat) (Rs.up hr) (hd w38.toNat (by omega)).up ?_)
        refine RG.pv rfl (PV.max2 rfl rfl rfl) ?_
        refine RG.pv rfl (PV.field rfl Fo83_0 rfl) ?_
        refine RG.ot rfl (OT.storeB (vs := [vi _]) (cs' := [_, _]) rfl Sz2 rfl rfl (Cl.c rfl) rfl (OneC.c rfl) rfl rfl ?_)
        refine RG.nil ?_
        exact ⟨rfl, ⟨max 0 (violE d.rules.xs (erV (gd zs w38.toNat))), gd rn3 w22.toNat⟩, rn3_ok hw22, trivial, ⟨rfl, rfl, rfl, rfl, rfl, rfl, trivial⟩, Cv.p⟩
      · refine WP.skip ?_
        exact ⟨rfl, ⟨w19, gd rn3 w22.toNat⟩, rn3_ok hw22, trivial, ⟨rfl, rfl, rfl, rfl, rfl, rfl, trivial⟩, Cv.p⟩
    · refine RG.skip rfl rfl rfl (gne g1) ?_
      refine RG.skip rfl rfl rfl (gne g1) ?_
      refine RG.skip rfl rfl rfl (gne g1) ?_
      refine RG.pv rfl (PV.pickE rfl rfl g1 rfl) ?_
      refine RG.nil ?_
      refine WP.cond rfl (fun h4 => ?_) (fun h4 => ?_)
      · cases h4
      · refine WP.skip ?_
        exact ⟨rfl, ⟨w19, gd rn3 w22.toNat⟩, rn3_ok hw22, trivial, ⟨rfl, rfl, rfl, rfl, rfl, rfl, trivial⟩, Cv.p⟩
    rintro w2 τ1 hw2
    refine WP.seq ?_
    refine WP.region ?_
    refine RG.pv rfl (PV.move (v := q) rfl rfl) ?_
    refine RG.pv rfl (PV.field rfl Fo83_0 rfl) ?_
    refine RG.pv rfl (PV.load1 rfl Sc2 rfl (Rd.blk rfl)) ?_
    refine RG.callF (vs := [q, _]) rfl rfl En86 rfl (l22Has_s Rs.o ?_)
    refine RG.pv rfl (PV.not rfl rfl) ?_
    refine RG.nil ?_
    refine WP.cond rfl (fun h5 => ?_) (fun h5 => ?_)
    · refine WP.region ?_
      refine RG.pv rfl (PV.move (v := q) rfl rfl) ?_
      refine RG.pv rfl (PV.loadW rfl Ag83 rfl rfl) ?_
      refine RG.callF (vs := [q, _]) rfl rfl En157 rfl (insert_w (w := w2) Rs.o (by omega) (fun v53 wsv53 hlv53 hmv53 => ?_))
      refine RG.pv rfl (PV.asg (v := v53) rfl rfl) ?_
      refine RG.nil ?_
      refine WP.region ?_
      refine RG.pv rfl (PV.mvI (.inl rfl) rfl) ?_
      refine RG.pv rfl (PV.sub rfl rfl rfl (by first | omega | (simp only [List.length_cons, List.length_nil]; omega))) ?_
      refine RG.pv rfl (PV.mvI (.inr rfl) rfl) ?_
      refine RG.nil ?_
      exact ⟨rfl, j - 1, wsv53, v53, ⟨by omega, by omega, RsOk.ins hok hmv53 hw2⟩, ⟨rfl, rfl, trivial⟩, ⟨rfl, rfl, rfl, trivial⟩, Cv.p, by omega⟩
    · refine WP.skip ?_
      refine WP.region ?_
      refine RG.pv rfl (PV.mvI (.inl rfl) rfl) ?_
      refine RG.pv rfl (PV.sub rfl rfl rfl (by first | omega | (simp only [List.length_cons, List.length_nil]; omega))) ?_
      refine RG.pv rfl (PV.mvI (.inr rfl) rfl) ?_
      refine RG.nil ?_
      exact ⟨rfl, j - 1, ws, q, ⟨by omega, by omega, hok⟩, ⟨rfl, rfl, trivial⟩, ⟨rfl, rfl, rfl, trivial⟩, Cv.p, by omega⟩
  · refine WP.exit ?_
    refine WP.seq ?_
    refine WP.region ?_
    refine RG.pv rfl (PV.move (v := q) rfl rfl) ?_
    refine RG.pv rfl (PV.asg (v := q) rfl rfl) ?_
    refine RG.nil ?_
    refine WP.ret ?_
    exact ⟨_, _, ResV.one rfl rfl, Cv.p, k q ws (by omega) hok⟩
end Go.Proofs.YtgngpegmaceaiaaGreat
namespace Go.Proofs.YtgngpegmaceaiaaGreat
set_option linter.unusedVariables false
set_option linter.unusedSimpArgs false
open Go
set_option maxRecDepth 20000
set_option maxHeartbeats 2000000
set_option linter.unusedSimpArgs false
variable {G : Gh} {L : List Ch} {R : Value → Gh → List Ch → Prop}
theorem drawApply_w {cv : Value} {bs : List UInt8} (hcode : SL G byteT cv bs) (k : ∀ x rs w zs ys u ws, zs.length ≤ 300 → MkIn zs ys → RsOk ws → R (.tuple #[vT deckT ⟨⟨x, rs⟩⟩, w, u]) G (osl 52 ruleT x rs :: osl 37 violT w zs :: bagS 101 rectT ys :: osl 83 waiverT u ws :: L)) : CallT Tryz.prog 46 #[cv] G L R := by
  refine CallT.enter (args := _) Tryz.func46 rfl rfl (by kernel_rfl) rfl ?_
  refine WP.seq ?_
  refine WP.region ?_
  refine RG.ot rfl (OT.alloc rfl Zr33 fun b2 => ?_)
  refine RG.pv rfl (PV.asg rfl rfl) ?_
  refine RG.pv rfl (PV.asg rfl rfl) ?_
  refine RG.nil ?_
  refine WP.seq ?_
  refine WP.region ?_
  refine RG.pv rfl (PV.move (v := cv) rfl rfl) ?_
  refine RG.callF (vs := [cv]) rfl rfl En90 rfl (from_s hcode (fun b => ?_))
  refine RG.pv rfl (PV.asg rfl rfl) ?_
  refine RG.nil ?_
  refine WP.seq ?_
  refine WP.region ?_
  refine RG.pv rfl (PV.move rfl rfl) ?_
  refine RG.callF (vs := [_]) rfl rfl En91 rfl (CallT.exC (src b cv) (drawReport_w hcode (fun u14 x14 rs14 w14 zs14 hrs14 hzl14 => ?_)))
  refine RG.pv rfl (PV.move (v := .tuple _) rfl rfl) ?_
  refine RG.pv rfl (PV.ext rfl rfl rfl) ?_
  refine RG.pv rfl (PV.ext rfl rfl rfl) ?_
  refine RG.pv rfl (PV.ext (v := w14) rfl rfl rfl) ?_
  refine RG.ot rfl (OT.alloc rfl Zr33 fun b7 => ?_)
  refine RG.pv rfl (PV.asg rfl rfl) ?_
  refine RG.ot rfl (OT.storeW (vs := [_]) rfl Sz33 rfl rfl (Cl.c rfl) rfl rfl (OneC.sl (SlF.o (v := x14)) OneC.nil) ?_)
  refine RG.pv rfl (PV.asg (v := w14) rfl rfl) ?_
  refine RG.nil ?_
  refine WP.seq ?_
  refine WP.region ?_
  refine RG.pv rfl (PV.move rfl rfl) ?_
  refine RG.pv rfl (PV.loadW rfl Ag33 rfl rfl) ?_
  refine RG.pv rfl (PV.move (v := w14) rfl rfl) ?_
  refine RG.callF (vs := [_, _, w14]) rfl rfl En92 rfl (CallT.exC (src b cv) (drawWaivers_w (d := ⟨⟨x14, rs14⟩⟩) hcode Rs.o Rs.o (fun i hi => RsE.marker (RsE.o (xs := mks zs14)) hi) (by omega) (fun v21 wsv21 hwlv21 hokv21 => ?_)))
  refine RG.pv rfl (PV.asg (v := v21) rfl rfl) ?_
  refine RG.nil ?_
  refine WP.cut1 [2, 5, 7, 8, 9] (fun (zs2 : List Viol) => zs2.length = zs14.length ∧ MkIn zs2 (mks zs14)) (fun (zs2 : List Viol) => []) (fun (zs2 : List Viol) => osl 37 violT w14 zs2 :: bagS 101 rectT (mks zs14) :: osl 52 ruleT x14 rs14 :: osl 83 waiverT v21 wsv21 :: blk b7 33 [x14] :: blk b2 33 [.slice none 0 0] :: src b cv :: L) ?_ ?_
  refine WP.seq ?_
  refine WP.region ?_
  refine RG.pv rfl (PV.move (v := w14) rfl rfl) ?_
  refine RG.pv rfl (PV.len (v := w14) rfl Tryz.underlying66 rfl SlF.o) ?_
  refine RG.pv rfl (PV.gtr rfl rfl rfl) ?_
  refine RG.pv rfl (PV.mvB (.inl rfl) rfl) ?_
  refine RG.spl (t := 25) rfl (fun g1 => ?_) (fun g1 => ?_)
  · have g2 := of_decide_eq_true g1
    refine RG.take rfl rfl rfl g1 ?_
    refine RG.pv rfl (PV.move rfl rfl) ?_
    refine RG.take rfl rfl rfl g1 ?_
    refine RG.callF (vs := [_, _]) rfl rfl En93 rfl (CallT.exC (src b cv) (next_s hcode (by omega) (fun w27 hw27 => ?_)))
    refine RG.take rfl rfl rfl g1 ?_
    refine RG.pv rfl (PV.eql rfl rfl rfl) ?_
    refine RG.pv rfl (PV.pickT rfl rfl g1 rfl) ?_
    refine RG.nil ?_
    refine WP.cond rfl (fun h2 => ?_) (fun h2 => ?_)
    · have hml := (MkIn.self zs14).gd (show zs14.length - 1 < zs14.length by omega)
      refine WP.region ?_
      refine RG.pv rfl (PV.move (v := w14) rfl rfl) ?_
      refine RG.pv rfl (PV.move (v := w14) rfl rfl) ?_
      refine RG.pv rfl (PV.len (v := w14) rfl Tryz.underlying66 rfl SlF.o) ?_
      refine RG.pv rfl (PV.sub rfl rfl rfl (by omega)) ?_
      refine RG.pv rfl (PV.field rfl Fo33_0 rfl) ?_
      refine RG.pv rfl (PV.load1 rfl Sc31 rfl (Rd.blk rfl)) ?_
      refine RG.pv rfl (PV.len (v := x14) rfl Tryz.underlying31 rfl SlF.o) ?_
      refine RG.pv rfl (PV.idxS (j := zs14.length - 1) (v := w14) rfl Is66 rfl SlF.o rfl (by first | omega | (simp only [List.length_set]; omega)) (by first | omega | (simp only [List.length_set]; omega))) ?_
      refine RG.pv rfl (PV.field rfl Fo37_0 rfl) ?_
      refine RG.ot rfl (OT.storeF (F := violT) (val := vi) (cv := fun u => [vi u]) (st := Viol.s0) rfl Sz2 rfl rfl rfl (Cl.c rfl) rfl (OneC.c rfl) (by exact set_self (by omega)) (by first | omega | (simp; omega)) rfl (fun _ _ => rfl) ?_)
      refine RG.nil ?_
      exact ⟨rfl, (zs14.set (zs14.length - 1) (Viol.s0 (rs14.length : Int) (gd zs14 (zs14.length - 1)))), ⟨by simp, (MkIn.self zs14).set _ hml⟩, trivial, ⟨rfl, rfl, rfl, rfl, rfl, trivial⟩, Cv.p⟩
    · refine WP.skip ?_
      exact ⟨rfl, zs14, ⟨rfl, MkIn.self zs14⟩, trivial, ⟨rfl, rfl, rfl, rfl, rfl, trivial⟩, Cv.p⟩
  · refine RG.skip rfl rfl rfl (gne g1) ?_
    refine RG.skip rfl rfl rfl (gne g1) ?_
    refine RG.skip rfl rfl rfl (gne g1) ?_
    refine RG.pv rfl (PV.pickE rfl rfl g1 rfl) ?_
    refine RG.nil ?_
    refine WP.cond rfl (fun h2 => ?_) (fun h2 => ?_)
    · cases h2
    · refine WP.skip ?_
      exact ⟨rfl, zs14, ⟨rfl, MkIn.self zs14⟩, trivial, ⟨rfl, rfl, rfl, rfl, rfl, trivial⟩, Cv.p⟩
  rintro zs2 τ1 ⟨hzl2, hm2⟩
  refine WP.seq ?_
  refine WP.region ?_
  refine RG.pv rfl (PV.move rfl rfl) ?_
  refine RG.pv rfl (PV.loadW rfl Ag33 rfl rfl) ?_
  refine RG.callF (vs := [_, _, _]) rfl rfl En94 rfl (CallT.cv (L' := osl 52 ruleT x14 rs14 :: src b cv :: osl 37 violT w14 zs2 :: bagS 101 rectT (mks zs14) :: osl 83 waiverT v21 wsv21 :: blk b7 33 [x14] :: blk b2 33 [.slice none 0 0] :: L) Cv.p (spoilDeck_w hcode (by omega) (by omega) (fun x41 rs41 => ?_)))
  refine RG.pv rfl (PV.move rfl rfl) ?_
  refine RG.pv rfl (PV.move (v := w14) rfl rfl) ?_
  refine RG.callF (vs := [_, w14, _]) rfl rfl En95 rfl (CallT.cv (L' := osl 37 violT w14 zs2 :: bagS 101 rectT (mks zs14) :: src b cv :: osl 52 ruleT x41 rs41 :: osl 83 waiverT v21 wsv21 :: blk b7 33 [x14] :: blk b2 33 [.slice none 0 0] :: L) Cv.p (spoilReport_w hcode (by omega) (by omega) hm2 (fun v44 zsv44 hzv44 hmkv44 => ?_)))
  refine RG.pv rfl (PV.move rfl rfl) ?_
  refine RG.pv rfl (PV.move (v := v21) rfl rfl) ?_
  refine RG.callF (vs := [_, v21, _]) rfl rfl En96 rfl (CallT.cv (L' := osl 83 waiverT v21 wsv21 :: src b cv :: osl 37 violT v44 zsv44 :: bagS 101 rectT (mks zs14) :: osl 52 ruleT x41 rs41 :: blk b7 33 [x14] :: blk b2 33 [.slice none 0 0] :: L) Cv.p (spoilWaivers_w hcode (by omega) (by omega) hokv21 (fun v47 wsv47 hokv47 => ?_)))
  refine RG.ot rfl (OT.storeW (vs := [_]) rfl Sz33 rfl rfl (Cl.c rfl) rfl rfl (OneC.sl (SlF.o (v := x41)) OneC.nil) ?_)
  refine RG.pv rfl (PV.asg (v := v44) rfl rfl) ?_
  refine RG.pv rfl (PV.asg (v := v47) rfl rfl) ?_
  refine RG.nil ?_
  refine WP.ret ?_
  exact ⟨_, _, ResV.three rfl (RV1.cell rfl Ag33 rfl) rfl rfl, Cv.p, k x41 rs41 v44 zsv44 (mks zs14) v47 wsv47 (by omega) hmkv44 hokv47⟩
end Go.Proofs.YtgngpegmaceaiaaGreat
