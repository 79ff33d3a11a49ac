/-
  The law FnExactHierarchicalCheck: whatever the library, the number and the deck, the law returns true and all read as before.
-/
import Derived.Test.YtgphjofccckloaaGreatHC6
import Derived.ProofKit
import Derived.Deep.Slices
import Derived.Carry
import Derived.Test.YtgphjofccckloaaGreatRows
set_option linter.unusedVariables false
set_option linter.unusedSimpArgs false
namespace Go.Proofs.YtgphjofccckloaaGreat
open Go
set_option maxRecDepth 20000
variable {G : Gh} {L : List Ch} {R : Value → Gh → List Ch → Prop}
theorem Eq53 : EqT Tryz.prog 53 ruleT := ⟨by kernel_rfl, fun a b w => by
 rw [eqT_run 9999 _ _ w Tryz.underlying53 (by kernel_rfl)]
 obtain ⟨a0, a1, a2, a3, a4⟩ := a; obtain ⟨b0, b1, b2, b3, b4⟩ := b
 simp only [ruleT]
 simp [Op.eqFields, part, isAgg, run_underlying Tryz.underlying2, run_equalIn_int _ _ _ _ _ _ _ Tryz.underlying2]
 by_cases e0 : a0 = b0 <;> by_cases e1 : a1 = b1 <;> by_cases e2 : a2 = b2 <;> by_cases e3 : a3 = b3 <;> by_cases e4 : a4 = b4 <;> simp_all⟩
def hasR (rs : List Rule) (q : Rule) : Bool := rs.any fun r => decide (q = r)
def deckAt (rs : List Rule) (i : Nat) : Bool := validRule (gd rs i) && !hasR (rs.take i) (gd rs i)
def deckOk (rs : List Rule) : Bool := decide (rs.length ≤ 12) && decide (∀ i, i < rs.length → deckAt rs i = true)
theorem deck_false {rs : List Rule} {i : Nat} (h : i < rs.length) (e : deckAt rs i = false) : deckOk rs = false := by
 simp only [deckOk, Bool.and_eq_false_iff, decide_eq_false_iff_not]
 exact .inr fun hh => by rw [hh i h] at e; cases e
theorem deck_all {rs : List Rule} (h : ∀ i, i < rs.length → deckAt rs i = true) : deckOk rs = decide ((rs.length : Int) ≤ 12) := by
 simp only [deckOk, decide_eq_true h, Bool.and_true]; rw [decide_eq_decide]; omega
theorem deck_rule {rs : List Rule} (h : deckOk rs = true) {i : Nat} (hi : i < rs.length) : validRule (gd rs i) = true := by
 simp only [deckOk, Bool.and_eq_true, decide_eq_true_eq] at h
 have := h.2 i hi; simp only [deckAt, Bool.and_eq_true] at this; exact this.1
theorem deck_len {rs : List Rule} (h : deckOk rs = true) : rs.length ≤ 12 := by
 simp only [deckOk, Bool.and_eq_true, decide_eq_true_eq] at h; exact h.1
theorem indexRule_s {v : Value} {rs : List Rule} {q : Rule} (h1 : Rs G L ruleT v rs) (k : R (vi (idxI (fun r => decide (q = r)) rs)) G L) : CallT Tryz.prog 160 #[v, vrule q] G L R := by
 refine CallT.bd h1 fun hb => ?_
 refine CallT.enter (args := _) Tryz.func160 rfl rfl (by kernel_rfl) rfl ?_
 refine WP.sr ?_
 refine RG.ot rfl (OT.box (cs := ruleT.enc q) rfl rfl rfl fun b3 => ?_)
 refine RG.mr rfl (RG.nil (WP.seq (WP.sr (RG.p (PV.move (v := v) rfl rfl) (RG.p (PV.len (v := v) rfl Tryz.underlying37 rfl (SlF.r h1)) (RG.ml rfl (RG.nil (WP.block ?_))))))))
 refine WP.loop1 [0, 3, 7] (fun i => i ≤ rs.length ∧ ∀ j, j < i → decide (q = gd rs j) = false) (fun i => [(8, vi i)]) (fun i => blk b3 53 (ruleT.enc q) :: L) (fun i => rs.length - i) 0 ⟨by omega, fun j h => by omega⟩ ⟨rfl, trivial⟩ Cv.p ?_
 rintro i τ ⟨hi, hj⟩
 refine WP.sr (RG.p (PV.lss rfl rfl rfl) (RG.nil (WP.seq ?_)))
 refine WP.cond rfl (fun h2 => ?_) (fun h2 => ?_)
 ·have h2 := of_decide_eq_true h2
  refine WP.skip (WP.seq (WP.block (WP.sr (RG.ml rfl (RG.mr rfl (RG.nil (WP.seq ?_)))))))
  refine WP.regionQ (by kernel_rfl) (by kernel_rfl) ?_
  refine RQ.pv rfl (PV.loadW rfl Ag53 rfl rfl) (RQ.pv rfl (PV.move (v := v) rfl rfl) (RQ.pv rfl (PV.mvI (.inl rfl) rfl) (RQ.pv rfl (PV.idxS (v := v) rfl Is37 rfl (SlF.r h1) rfl rfl (by omega)) (RQ.pv rfl (PV.loadE rfl Ag53 rfl rfl (El.r h1 (getG (by omega)))) (RQ.pv rfl (PV.eqlT rfl Eq53 rfl rfl) ?_)))))
  refine RQ.nil ?_
  refine WP.cond rfl (fun h3 => ?_) (fun h3 => ?_)
  ·rw [idxI_at (by omega) h3 hj] at k
   refine WP.sr (RG.ml rfl (RG.mr rfl (RG.nil ?_)))
   exact WP.ret ⟨_, _, ResV.one rfl rfl, Cv.p, k⟩
  ·have hj' : ∀ j, j < i + 1 → decide (q = gd rs j) = false := fun j h => by
    by_cases c : j = i
    ·rw [c]; exact h3
    ·exact hj j (by omega)
   refine WP.skip (WP.region (RG.p (PV.add rfl rfl rfl (by omega)) (RG.ml rfl (RG.nil ?_))))
   exact ⟨rfl, i + 1, ⟨by omega, hj'⟩, ⟨rfl, trivial⟩, ⟨rfl, rfl, rfl, trivial⟩, Cv.p, by omega⟩
 ·have h2 := of_decide_eq_false h2
  rw [idxI_none (fun j h => hj j (by omega))] at k
  refine WP.exit ?_
  refine WP.sr (RG.mr rfl (RG.nil ?_))
  exact WP.ret ⟨_, _, ResV.one rfl rfl, Cv.p, k⟩
theorem containsRule_s {v : Value} {rs : List Rule} {q : Rule} (h1 : Rs G L ruleT v rs) (k : R (.bool (hasR rs q)) G L) : CallT Tryz.prog 78 #[v, vrule q] G L R := by
 rw [hasR, ← idxI_any] at k
 refine CallT.enter (args := _) Tryz.func78 rfl rfl (by kernel_rfl) rfl ?_
 refine WP.sr ?_
 refine RG.ot rfl (OT.box (cs := ruleT.enc q) rfl rfl rfl fun b3 => ?_)
 refine RG.br rfl (RG.nil (WP.sr (RG.p (PV.move (v := v) rfl rfl) (RG.p (PV.loadW rfl Ag53 rfl rfl) ?_))))
 refine RG.callF (vs := [v, _]) rfl rfl En160 rfl (indexRule_s (Rs.up h1) ?_)
 refine RG.p (PV.geq rfl rfl rfl) (RG.br rfl (RG.nil ?_))
 exact WP.ret ⟨_, _, ResV.one rfl rfl, Cv.p, k⟩
theorem deck_i {d : Deck} (h1 : Rs G L ruleT d.rules.v d.rules.xs) (k : R (.bool (deckOk d.rules.xs)) G L) : CallT Tryz.prog 42 #[vT deckT d] G L R := by
 refine CallT.bd h1 fun hb => ?_
 refine CallT.enter (args := _) Tryz.func42 rfl rfl (by kernel_rfl) rfl ?_
 refine WP.sr ?_
 refine RG.ot rfl (OT.box (cs := deckT.enc d) rfl rfl rfl fun b1 => ?_)
 refine RG.br rfl (RG.nil (WP.seq (WP.sr (RG.p (PV.field rfl Fo39_0 rfl) (RG.p (PV.load1 rfl Sc37 rfl (Rd.blk rfl)) (RG.p (PV.len rfl Tryz.underlying37 rfl (SlF.r h1)) (RG.ml rfl (RG.nil (WP.block ?_)))))))))
 refine WP.loop1 [1, 6, 7] (fun i => i ≤ d.rules.xs.length ∧ ∀ j, j < i → deckAt d.rules.xs j = true) (fun i => [(8, vi i)]) (fun i => blk b1 39 (deckT.enc d) :: L) (fun i => d.rules.xs.length - i) 0 ⟨by omega, fun j h => by omega⟩ ⟨rfl, trivial⟩ Cv.p ?_
 rintro i τ ⟨hi, hj⟩
 refine WP.sr (RG.p (PV.lss rfl rfl rfl) (RG.nil (WP.seq ?_)))
 refine WP.cond rfl (fun h2 => ?_) (fun h2 => ?_)
 ·have h2 := of_decide_eq_true h2
  have h3 : i < d.rules.xs.length := by omega
  refine WP.skip (WP.seq (WP.block (WP.sr (RG.ml rfl (RG.p (PV.idxS rfl Is37 rfl (SlF.r h1) rfl rfl (by omega)) (RG.p (PV.loadE rfl Ag53 rfl rfl (El.r h1 (getG (by omega)))) ?_))))))
  refine RG.ot rfl (OT.alloc rfl Zr53 fun b4 => ?_)
  refine RG.mr rfl ?_
  refine RG.ot rfl (OT.storeW (vs := [vi _, vi _, vi _, vi _, vi _]) rfl Sz53 rfl rfl (Cl.c rfl) rfl rfl (OneC.c rfl) ?_)
  refine RG.nil (WP.seq ?_)
  refine WP.regionQ (by kernel_rfl) (by kernel_rfl) ?_
  refine RQ.pv rfl (PV.loadW rfl Ag53 rfl rfl) ?_
  refine RQ.callF (vs := [_]) rfl rfl En52 rfl (validRule_i ⟨rfl, rfl, rfl⟩) ?_
  refine RQ.pv rfl (PV.not rfl rfl) (RQ.pv rfl (PV.mvB (.inl rfl) rfl) (RQ.gs rfl rfl rfl (fun hp => (PV.field rfl Fo39_0 rfl)) (RQ.gs rfl rfl rfl (fun hp => (PV.load1 rfl Sc37 (gs_t hp) (Rd.blk rfl))) (RQ.gs rfl rfl rfl (fun hp => (PV.mvI (.inl rfl) rfl)) (RQ.gs rfl rfl rfl (fun hp => (PV.slc rfl Is37 (gs_t hp) (SlF.r h1) optAt.n (optAt.s (gs_t hp) rfl) (by first | omega | (simp at hp; omega)) (by first | omega | (simp at hp; omega)))) (RQ.gs rfl rfl rfl (fun hp => (PV.loadW rfl Ag53 rfl rfl)) ?_))))))
  refine RQ.gsC rfl rfl rfl rfl En78 (fun hp => ⟨_, (acons (gs_t hp) (acons (gs_t hp) anil)), containsRule_s (rs := d.rules.xs.take i) (by have := Rs.slv h1 (lo := 0) (hi := i) (by omega) (by omega); rw [List.drop_zero] at this; exact this.up) ⟨rfl, rfl, rfl⟩⟩) ?_
  refine RQ.pv rfl (PV.pickO rfl rfl rfl (fun hq => gs_t (geqF hq))) ?_
  refine RQ.nil ?_
  refine WP.cond rfl (fun h4 => ?_) (fun h4 => ?_)
  ·have e : deckAt d.rules.xs i = false := by
    revert h4; unfold deckAt
    cases validRule (gd d.rules.xs i) <;> cases hasR (d.rules.xs.take i) (gd d.rules.xs i) <;> simp
   rw [deck_false h3 e] at k
   refine WP.sr (RG.br rfl (RG.nil ?_))
   exact WP.ret ⟨_, _, ResV.one rfl rfl, Cv.p, k⟩
  ·have e : deckAt d.rules.xs i = true := by
    revert h4; unfold deckAt
    cases validRule (gd d.rules.xs i) <;> cases hasR (d.rules.xs.take i) (gd d.rules.xs i) <;> simp
   have hj' : ∀ j, j < i + 1 → deckAt d.rules.xs j = true := fun j h => by
    by_cases c : j = i
    ·rw [c]; exact e
    ·exact hj j (by omega)
   refine WP.skip (WP.region (RG.p (PV.add rfl rfl rfl (by omega)) (RG.ml rfl (RG.nil ?_))))
   exact ⟨rfl, i + 1, ⟨by omega, hj'⟩, ⟨rfl, trivial⟩, ⟨rfl, rfl, rfl, trivial⟩, Cv.p, by omega⟩
 ·have h2 := of_decide_eq_false h2
  rw [deck_all (fun i h => hj i (by omega))] at k
  refine WP.exit ?_
  refine WP.sr (RG.p (PV.field rfl Fo39_0 rfl) (RG.p (PV.load1 rfl Sc37 rfl (Rd.blk rfl)) (RG.p (PV.len rfl Tryz.underlying37 rfl (SlF.r h1)) (RG.p (PV.leq rfl rfl rfl) (RG.br rfl (RG.nil ?_))))))
  exact WP.ret ⟨_, _, ResV.one rfl rfl, Cv.p, k⟩
theorem l16Has_s {v : Value} {rs : List Rule} {q : Rule} (h1 : Rs G L ruleT v rs) (k : R (.bool (hasR rs q)) G L) : CallT Tryz.prog 71 #[v, vrule q] G L R := by
 refine CallT.bd h1 fun hb => ?_
 refine CallT.enter (args := _) Tryz.func71 rfl rfl (by kernel_rfl) rfl ?_
 refine WP.sr ?_
 refine RG.ot rfl (OT.box (cs := ruleT.enc q) rfl rfl rfl fun b3 => ?_)
 refine RG.br rfl (RG.nil (WP.seq (WP.sr (RG.mr rfl (RG.nil (WP.block ?_))))))
 refine WP.loop1 [0, 3] (fun i => i ≤ rs.length ∧ ∀ j, j < i → ¬ q = gd rs j) (fun i => [(5, vi i)]) (fun i => blk b3 53 (ruleT.enc q) :: L) (fun i => rs.length - i) 0 ⟨by omega, fun j h => by omega⟩ ⟨rfl, trivial⟩ Cv.p ?_
 rintro i τ ⟨hi, hj⟩
 refine WP.seq (WP.sr (RG.ml rfl (RG.p (PV.move (v := v) rfl rfl) (RG.p (PV.len (v := v) rfl Tryz.underlying37 rfl (SlF.r h1)) (RG.p (PV.lss rfl rfl rfl) (RG.nil ?_))))))
 refine WP.cond rfl (fun h2 => ?_) (fun h2 => ?_)
 ·have h2 := of_decide_eq_true h2
  refine WP.skip (WP.seq (WP.block (WP.seq ?_)))
  refine WP.regionQ (by kernel_rfl) (by kernel_rfl) ?_
  refine RQ.pv rfl (PV.move (v := v) rfl rfl) (RQ.pv rfl (PV.mvI (.inl rfl) rfl) (RQ.pv rfl (PV.idxS (v := v) rfl Is37 rfl (SlF.r h1) rfl rfl (by omega)) (RQ.pv rfl (PV.loadE rfl Ag53 rfl rfl (El.r h1 (getG (by omega)))) (RQ.pv rfl (PV.loadW rfl Ag53 rfl rfl) (RQ.pv rfl (PV.eqlT rfl Eq53 rfl rfl) ?_)))))
  refine RQ.nil ?_
  refine WP.cond rfl (fun h3 => ?_) (fun h3 => ?_)
  ·have e : hasR rs q = true := List.any_eq_true.2 ⟨gd rs i, by rw [gd_eq (by omega)]; exact List.getElem_mem _, by rw [decide_eq_true_iff]; exact (of_decide_eq_true h3).symm⟩
   rw [e] at k
   refine WP.sr (RG.br rfl (RG.nil ?_))
   exact WP.ret ⟨_, _, ResV.one rfl rfl, Cv.p, k⟩
  ·have hj' : ∀ j, j < i + 1 → ¬ q = gd rs j := fun j h => by
    by_cases c : j = i
    ·rw [c]; exact fun e => (of_decide_eq_false h3) e.symm
    ·exact hj j (by omega)
   refine WP.skip (WP.region (RG.ml rfl (RG.p (PV.add rfl rfl rfl (by omega)) (RG.mr rfl (RG.nil ?_)))))
   exact ⟨rfl, i + 1, ⟨by omega, hj'⟩, ⟨rfl, trivial⟩, ⟨rfl, rfl, trivial⟩, Cv.p, by omega⟩
 ·have h2 := of_decide_eq_false h2
  have e : hasR rs q = false := by
   rw [hasR, List.any_eq_false]
   intro r hr
   obtain ⟨j, hj2, rfl⟩ := List.getElem_of_mem hr
   have := hj j (by omega)
   rw [gd_eq hj2] at this
   simpa using this
  rw [e] at k
  refine WP.exit ?_
  refine WP.sr (RG.br rfl (RG.nil ?_))
  exact WP.ret ⟨_, _, ResV.one rfl rfl, Cv.p, k⟩
theorem deck_r {d : Deck} (h1 : Rs G L ruleT d.rules.v d.rules.xs) (k : R (.bool (deckOk d.rules.xs)) G L) : CallT Tryz.prog 36 #[vT deckT d] G L R := by
 refine CallT.bd h1 fun hb => ?_
 refine CallT.enter (args := _) Tryz.func36 rfl rfl (by kernel_rfl) rfl ?_
 refine WP.sr ?_
 refine RG.ot rfl (OT.box (cs := deckT.enc d) rfl rfl rfl fun b1 => ?_)
 refine RG.br rfl (RG.nil (WP.seq (WP.sr (RG.p (PV.field rfl Fo39_0 rfl) (RG.p (PV.load1 rfl Sc37 rfl (Rd.blk rfl)) (RG.p (PV.len rfl Tryz.underlying37 rfl (SlF.r h1)) (RG.p (PV.gtr rfl rfl rfl) (RG.nil ?_))))))))
 refine WP.cond rfl (fun h0 => ?_) (fun h0 => ?_)
 ·have h0 := of_decide_eq_true h0
  have e : deckOk d.rules.xs = false := by
   have : ¬ d.rules.xs.length ≤ 12 := by omega
   simp [deckOk, this]
  rw [e] at k
  refine WP.sr (RG.br rfl (RG.nil ?_))
  exact WP.ret ⟨_, _, ResV.one rfl rfl, Cv.p, k⟩
 ·have h0 := of_decide_eq_false h0
  refine WP.skip (WP.seq (WP.sr (RG.mr rfl (RG.nil (WP.block ?_)))))
  refine WP.loop1 [1] (fun i => i ≤ d.rules.xs.length ∧ ∀ j, j < i → deckAt d.rules.xs j = true) (fun i => [(3, vi i)]) (fun i => blk b1 39 (deckT.enc d) :: L) (fun i => d.rules.xs.length - i) 0 ⟨by omega, fun j h => by omega⟩ ⟨rfl, trivial⟩ Cv.p ?_
  rintro i τ ⟨hi, hj⟩
  refine WP.seq (WP.sr (RG.ml rfl (RG.p (PV.field rfl Fo39_0 rfl) (RG.p (PV.load1 rfl Sc37 rfl (Rd.blk rfl)) (RG.p (PV.len rfl Tryz.underlying37 rfl (SlF.r h1)) (RG.p (PV.lss rfl rfl rfl) (RG.nil ?_)))))))
  refine WP.cond rfl (fun h2 => ?_) (fun h2 => ?_)
  ·have h2 := of_decide_eq_true h2
   have h3 : i < d.rules.xs.length := by omega
   refine WP.skip (WP.seq (WP.block (WP.seq ?_)))
   refine WP.regionQ (by kernel_rfl) (by kernel_rfl) ?_
   refine RQ.pv rfl (PV.field rfl Fo39_0 rfl) (RQ.pv rfl (PV.load1 rfl Sc37 rfl (Rd.blk rfl)) (RQ.pv rfl (PV.mvI (.inl rfl) rfl) (RQ.pv rfl (PV.idxS rfl Is37 rfl (SlF.r h1) rfl rfl (by omega)) (RQ.pv rfl (PV.loadE rfl Ag53 rfl rfl (El.r h1 (getG (by omega)))) ?_))))
   refine RQ.callF (vs := [_]) rfl rfl En49 rfl (validRule_s ⟨rfl, rfl, rfl⟩) ?_
   refine RQ.pv rfl (PV.not rfl rfl) (RQ.pv rfl (PV.mvB (.inl rfl) rfl) (RQ.gs rfl rfl rfl (fun hp => (PV.field rfl Fo39_0 rfl)) (RQ.gs rfl rfl rfl (fun hp => (PV.load1 rfl Sc37 (gs_t hp) (Rd.blk rfl))) (RQ.gs rfl rfl rfl (fun hp => (PV.mvI (.inl rfl) rfl)) (RQ.gs rfl rfl rfl (fun hp => (PV.slc rfl Is37 (gs_t hp) (SlF.r h1) optAt.n (optAt.s (gs_t hp) rfl) (by first | omega | (simp at hp; omega)) (by first | omega | (simp at hp; omega)))) (RQ.gs rfl rfl rfl (fun hp => (PV.field rfl Fo39_0 rfl)) (RQ.gs rfl rfl rfl (fun hp => (PV.load1 rfl Sc37 (gs_t hp) (Rd.blk rfl))) (RQ.gs rfl rfl rfl (fun hp => (PV.mvI (.inl rfl) rfl)) (RQ.gs rfl rfl rfl (fun hp => (PV.idxS rfl Is37 (gs_t hp) (SlF.r h1) (gs_t hp) rfl (by first | omega | (simp at hp; omega)))) (RQ.gs rfl rfl rfl (fun hp => (PV.loadE rfl Ag53 (gs_t hp) rfl (El.r h1 (getG (by first | omega | (simp at hp; omega)))))) ?_))))))))))
   refine RQ.gsC rfl rfl rfl rfl En71 (fun hp => ⟨_, (acons (gs_t hp) (acons (gs_t hp) anil)), l16Has_s (rs := d.rules.xs.take i) (by have := Rs.slv h1 (lo := 0) (hi := i) (by omega) (by omega); rw [List.drop_zero] at this; exact this.up) ⟨rfl, rfl, rfl⟩⟩) ?_
   refine RQ.pv rfl (PV.pickO rfl rfl rfl (fun hq => gs_t (geqF hq))) ?_
   refine RQ.nil ?_
   refine WP.cond rfl (fun h4 => ?_) (fun h4 => ?_)
   ·have e : deckAt d.rules.xs i = false := by
     revert h4; unfold deckAt
     cases validRule (gd d.rules.xs i) <;> cases hasR (d.rules.xs.take i) (gd d.rules.xs i) <;> simp
    rw [deck_false h3 e] at k
    refine WP.sr (RG.br rfl (RG.nil ?_))
    exact WP.ret ⟨_, _, ResV.one rfl rfl, Cv.p, k⟩
   ·have e : deckAt d.rules.xs i = true := by
     revert h4; unfold deckAt
     cases validRule (gd d.rules.xs i) <;> cases hasR (d.rules.xs.take i) (gd d.rules.xs i) <;> simp
    have hj' : ∀ j, j < i + 1 → deckAt d.rules.xs j = true := fun j h => by
     by_cases c : j = i
     ·rw [c]; exact e
     ·exact hj j (by omega)
    refine WP.skip (WP.region (RG.ml rfl (RG.p (PV.add rfl rfl rfl (by omega)) (RG.mr rfl (RG.nil ?_)))))
    exact ⟨rfl, i + 1, ⟨by omega, hj'⟩, ⟨rfl, trivial⟩, ⟨rfl, trivial⟩, Cv.p, by omega⟩
  ·have h2 := of_decide_eq_false h2
   have e : deckOk d.rules.xs = true := by
    rw [deck_all (fun i h => hj i (by omega)), decide_eq_true_iff]; omega
   rw [e] at k
   refine WP.exit ?_
   refine WP.sr (RG.br rfl (RG.nil ?_))
   exact WP.ret ⟨_, _, ResV.one rfl rfl, Cv.p, k⟩
theorem szRuleS_s {v : Value} {xs : List Rule} {n : Int} (h1 : Rs G L ruleT v xs) (hn : n ≤ 1048576) (h0 : 0 ≤ n) (k : ∀ r : Int, r ≤ n → (0 ≤ r → r = n - xs.length) → R (vi r) G L) : CallT Tryz.prog 34 #[v, vi n] G L R := by
 refine CallT.bd h1 fun hb => ?_
 refine CallT.enter (args := _) Tryz.func34 rfl rfl (by kernel_rfl) rfl ?_
 refine WP.sr (RG.mr rfl (RG.nil (WP.sr (RG.ml rfl (RG.p (PV.move (v := v) rfl rfl) (RG.p (PV.len (v := v) rfl Tryz.underlying25 rfl (SlF.r h1)) (RG.p (PV.sub rfl rfl rfl (by omega)) (RG.mr rfl (RG.nil (WP.seq (WP.seq ?_)))))))))))
 refine WP.region (RG.ml rfl (RG.p (PV.lss rfl rfl rfl) (RG.nil ?_)))
 refine WP.cond rfl (fun h2 => ?_) (fun h2 => ?_)
 ·refine WP.seq ?_
  refine WP.region (RG.mr rfl (RG.nil ?_))
  exact WP.ret ⟨_, _, ResV.one rfl rfl, Cv.p, k _ (by omega) (fun h => by omega)⟩
 ·refine WP.skip ?_
  refine WP.sr (RG.ml rfl (RG.mr rfl (RG.nil ?_)))
  exact WP.ret ⟨_, _, ResV.one rfl rfl, Cv.p, k _ (by omega) (fun h => by omega)⟩
theorem toRuleS_s {v : Value} {xs : List Rule} (h1 : Rs G L ruleT v xs) (hb : xs.length ≤ 1048576) (k : ∀ v', R v' G (osl 53 ruleT v' xs :: L)) : CallT Tryz.prog 40 #[v] G L R := by
 refine CallT.enter (args := _) Tryz.func40 rfl rfl (by kernel_rfl) rfl ?_
 refine WP.sr (RG.p (PV.asg rfl rfl) (RG.nil (WP.sr (RG.p (PV.move (v := v) rfl rfl) (RG.p (PV.len (v := v) rfl Tryz.underlying25 rfl (SlF.r h1)) ?_)))))
 refine RG.ot rfl (OT.make (F := ruleT) (a0 := default) rfl El37 rfl (by decide) rfl rfl (by omega) (by omega) fun v7 => ?_)
 refine RG.p (PV.asg (v := v7) rfl rfl) (RG.nil (WP.seq (WP.sr (RG.mr rfl (RG.nil (WP.block ?_))))))
 refine WP.loop2 [0, 3] (fun i ys => i ≤ xs.length ∧ ys.length = xs.length ∧ ∀ j, j < i → ys[j]? = xs[j]?) (fun i ys => [(4, vi i)]) (fun i ys => osl 53 ruleT v7 ys :: L) (fun i ys => xs.length - i) 0 (List.replicate xs.length default) ⟨by omega, by simp, fun j h => by omega⟩ ⟨rfl, trivial⟩ Cv.p ?_
 rintro i ys τ ⟨hi, hl, he⟩
 refine WP.seq (WP.sr (RG.ml rfl (RG.p (PV.move (v := v) rfl rfl) (RG.p (PV.len (v := v) rfl Tryz.underlying25 rfl (SlF.r h1)) (RG.p (PV.lss rfl rfl rfl) (RG.nil ?_))))))
 refine WP.cond rfl (fun h2 => ?_) (fun h2 => ?_)
 ·have h2 := of_decide_eq_true h2
  refine WP.skip (WP.seq (WP.block (WP.region (RG.p (PV.move (v := v7) rfl rfl) (RG.ml rfl (RG.p (PV.move (v := v) rfl rfl) (RG.ml rfl (RG.p (PV.idxS (v := v) rfl Is25 rfl (SlF.r h1) rfl rfl (by omega)) (RG.p (PV.loadE rfl Ag49 rfl rfl (El.r h1 (getG (by omega)))) ?_)))))))))
  refine RG.callF (vs := [_]) rfl rfl En21 rfl (toRule_s ?_)
  refine RG.p (PV.idxS (v := v7) rfl Is37 rfl SlF.o rfl rfl (by omega)) ?_
  refine RG.ot rfl (OT.storeE (F := ruleT) rfl Sz53 rfl rfl rfl (Cl.c rfl) (OneC.c rfl) (by omega) ?_)
  refine RG.nil (WP.region (RG.ml rfl (RG.p (PV.add rfl rfl rfl (by omega)) (RG.mr rfl (RG.nil ?_)))))
  exact ⟨rfl, i + 1, _, ⟨by omega, by simpa using hl, set_pre he (getG (by omega)) hl⟩, ⟨rfl, trivial⟩, ⟨rfl, rfl, trivial⟩, Cv.p, by omega⟩
 ·have h2 := of_decide_eq_false h2
  obtain rfl := pre_eq he hl (by omega)
  refine WP.exit ?_
  refine WP.sr (RG.p (PV.move (v := v7) rfl rfl) (RG.p (PV.asg (v := v7) rfl rfl) (RG.nil ?_)))
  exact WP.ret ⟨_, _, ResV.one rfl rfl, Cv.p, k v7⟩
theorem eqRule_s {a b : Rule} (k : R (.bool (decide (a = b))) G L) : CallT Tryz.prog 84 #[vT ruleT a, vT ruleT b] G L R := by
 refine CallT.enter (args := _) Tryz.func84 rfl rfl (by kernel_rfl) rfl ?_
 refine WP.sr ?_
 refine RG.ot rfl (OT.box (cs := ruleT.enc a) rfl rfl rfl fun b2 => ?_)
 refine RG.ot rfl (OT.box (cs := ruleT.enc b) rfl rfl rfl fun b3 => ?_)
 refine RG.br rfl (RG.nil (WP.seq (WP.sr (RG.p (PV.field rfl Fo53_0 rfl) (RG.p (PV.load1 rfl Sc2 rfl (Rd.blk rfl)) (RG.p (PV.field rfl Fo53_0 rfl) (RG.p (PV.load1 rfl Sc2 rfl (Rd.blk rfl)) (RG.p (PV.neq rfl rfl rfl) (RG.nil ?_)))))))))
 refine WP.cond rfl (fun h1 => ?_) (fun h1 => ?_)
 ·have e : decide (a = b) = false := by rw [decide_eq_false_iff_not]; rintro rfl; simp at h1
  rw [e] at k
  refine WP.sr (RG.br rfl (RG.nil ?_))
  exact WP.ret ⟨_, _, ResV.one rfl rfl, Cv.p, k⟩
 ·refine WP.skip ?_
  refine WP.seq (WP.sr (RG.p (PV.field rfl Fo53_1 rfl) (RG.p (PV.load1 rfl Sc2 rfl (Rd.blk rfl)) (RG.p (PV.field rfl Fo53_1 rfl) (RG.p (PV.load1 rfl Sc2 rfl (Rd.blk rfl)) (RG.p (PV.neq rfl rfl rfl) (RG.nil ?_)))))))
  refine WP.cond rfl (fun h2 => ?_) (fun h2 => ?_)
  ·have e : decide (a = b) = false := by rw [decide_eq_false_iff_not]; rintro rfl; simp at h2
   rw [e] at k
   refine WP.sr (RG.br rfl (RG.nil ?_))
   exact WP.ret ⟨_, _, ResV.one rfl rfl, Cv.p, k⟩
  ·refine WP.skip ?_
   refine WP.seq (WP.sr (RG.p (PV.field rfl Fo53_2 rfl) (RG.p (PV.load1 rfl Sc2 rfl (Rd.blk rfl)) (RG.p (PV.field rfl Fo53_2 rfl) (RG.p (PV.load1 rfl Sc2 rfl (Rd.blk rfl)) (RG.p (PV.neq rfl rfl rfl) (RG.nil ?_)))))))
   refine WP.cond rfl (fun h3 => ?_) (fun h3 => ?_)
   ·have e : decide (a = b) = false := by rw [decide_eq_false_iff_not]; rintro rfl; simp at h3
    rw [e] at k
    refine WP.sr (RG.br rfl (RG.nil ?_))
    exact WP.ret ⟨_, _, ResV.one rfl rfl, Cv.p, k⟩
   ·refine WP.skip ?_
    refine WP.seq (WP.sr (RG.p (PV.field rfl Fo53_3 rfl) (RG.p (PV.load1 rfl Sc2 rfl (Rd.blk rfl)) (RG.p (PV.field rfl Fo53_3 rfl) (RG.p (PV.load1 rfl Sc2 rfl (Rd.blk rfl)) (RG.p (PV.neq rfl rfl rfl) (RG.nil ?_)))))))
    refine WP.cond rfl (fun h4 => ?_) (fun h4 => ?_)
    ·have e : decide (a = b) = false := by rw [decide_eq_false_iff_not]; rintro rfl; simp at h4
     rw [e] at k
     refine WP.sr (RG.br rfl (RG.nil ?_))
     exact WP.ret ⟨_, _, ResV.one rfl rfl, Cv.p, k⟩
    ·refine WP.skip ?_
     refine WP.seq (WP.sr (RG.p (PV.field rfl Fo53_4 rfl) (RG.p (PV.load1 rfl Sc2 rfl (Rd.blk rfl)) (RG.p (PV.field rfl Fo53_4 rfl) (RG.p (PV.load1 rfl Sc2 rfl (Rd.blk rfl)) (RG.p (PV.neq rfl rfl rfl) (RG.nil ?_)))))))
     refine WP.cond rfl (fun h5 => ?_) (fun h5 => ?_)
     ·have e : decide (a = b) = false := by rw [decide_eq_false_iff_not]; rintro rfl; simp at h5
      rw [e] at k
      refine WP.sr (RG.br rfl (RG.nil ?_))
      exact WP.ret ⟨_, _, ResV.one rfl rfl, Cv.p, k⟩
     ·have e : decide (a = b) = true := by
       obtain ⟨a1, a2, a3, a4, a5⟩ := a; obtain ⟨b1, b2, b3, b4, b5⟩ := b
       simp at h1 h2 h3 h4 h5 ⊢; exact ⟨h1, h2, h3, h4, h5⟩
      rw [e] at k
      refine WP.skip (WP.sr (RG.br rfl (RG.nil ?_)))
      exact WP.ret ⟨_, _, ResV.one rfl rfl, Cv.p, k⟩
theorem eqRuleS_s {v u : Value} {xs ys : List Rule} (h1 : Rs G L ruleT v xs) (h2 : Rs G L ruleT u ys) (k : R (.bool (decide (xs = ys))) G L) : CallT Tryz.prog 46 #[v, u] G L R := by
 refine CallT.bd h1 fun hb => ?_
 refine CallT.bd h2 fun hb' => ?_
 refine CallT.enter (args := _) Tryz.func46 rfl rfl (by kernel_rfl) rfl ?_
 refine WP.sr (RG.br rfl (RG.nil (WP.seq (WP.sr (RG.p (PV.move (v := v) rfl rfl) (RG.p (PV.len (v := v) rfl Tryz.underlying37 rfl (SlF.r h1)) (RG.p (PV.move (v := u) rfl rfl) (RG.p (PV.len (v := u) rfl Tryz.underlying37 rfl (SlF.r h2)) (RG.p (PV.neq rfl rfl rfl) (RG.nil ?_))))))))))
 refine WP.cond rfl (fun h3 => ?_) (fun h3 => ?_)
 ·have e : decide (xs = ys) = false := by
   rw [decide_eq_false_iff_not]; rintro rfl; simp at h3
  rw [e] at k
  refine WP.sr (RG.br rfl (RG.nil ?_))
  exact WP.ret ⟨_, _, ResV.one rfl rfl, Cv.p, k⟩
 ·have hl : xs.length = ys.length := by simp at h3; omega
  refine WP.skip (WP.seq (WP.sr (RG.mr rfl (RG.nil (WP.block ?_)))))
  refine WP.loop1 [0, 1] (fun i => i ≤ xs.length ∧ ∀ j, j < i → xs[j]? = ys[j]?) (fun i => [(5, vi i)]) (fun i => L) (fun i => xs.length - i) 0 ⟨by omega, fun j h => by omega⟩ ⟨rfl, trivial⟩ Cv.p ?_
  rintro i τ ⟨hi, he⟩
  refine WP.seq (WP.sr (RG.ml rfl (RG.p (PV.move (v := v) rfl rfl) (RG.p (PV.len (v := v) rfl Tryz.underlying37 rfl (SlF.r h1)) (RG.p (PV.lss rfl rfl rfl) (RG.nil ?_))))))
  refine WP.cond rfl (fun h4 => ?_) (fun h4 => ?_)
  ·have h4 := of_decide_eq_true h4
   have h5 : i < xs.length := by omega
   refine WP.skip (WP.seq (WP.block (WP.seq ?_)))
   refine WP.regionQ (by kernel_rfl) (by kernel_rfl) ?_
   refine RQ.pv rfl (PV.move (v := v) rfl rfl) (RQ.pv rfl (PV.mvI (.inl rfl) rfl) (RQ.pv rfl (PV.idxS (v := v) rfl Is37 rfl (SlF.r h1) rfl rfl (by omega)) (RQ.pv rfl (PV.loadE rfl Ag53 rfl rfl (El.r h1 (getG (by omega)))) (RQ.pv rfl (PV.move (v := u) rfl rfl) (RQ.pv rfl (PV.mvI (.inl rfl) rfl) (RQ.pv rfl (PV.idxS (v := u) rfl Is37 rfl (SlF.r h2) rfl rfl (by omega)) (RQ.pv rfl (PV.loadE rfl Ag53 rfl rfl (El.r h2 (getG (by omega)))) ?_)))))))
   refine RQ.callF (vs := [_, _]) rfl rfl En84 rfl (eqRule_s ⟨rfl, rfl, rfl⟩) ?_
   refine RQ.pv rfl (PV.not rfl rfl) ?_
   refine RQ.nil ?_
   refine WP.cond rfl (fun h6 => ?_) (fun h6 => ?_)
   ·have e : decide (xs = ys) = false := by
     rw [decide_eq_false_iff_not]; rintro rfl; simp at h6
    rw [e] at k
    refine WP.sr (RG.br rfl (RG.nil ?_))
    exact WP.ret ⟨_, _, ResV.one rfl rfl, Cv.p, k⟩
   ·have e : gd xs i = gd ys i := by simpa using h6
    have he' : ∀ j, j < i + 1 → xs[j]? = ys[j]? := fun j h => by
     by_cases c : j = i
     ·rw [c, getG h5, getG (show i < ys.length by omega), e]
     ·exact he j (by omega)
    refine WP.skip (WP.region (RG.ml rfl (RG.p (PV.add rfl rfl rfl (by omega)) (RG.mr rfl (RG.nil ?_)))))
    exact ⟨rfl, i + 1, ⟨by omega, he'⟩, ⟨rfl, trivial⟩, ⟨rfl, rfl, trivial⟩, Cv.p, by omega⟩
  ·have h4 := of_decide_eq_false h4
   have e : decide (xs = ys) = true := by
    rw [decide_eq_true_iff]; exact pre_eq he hl (by omega)
   rw [e] at k
   refine WP.exit ?_
   refine WP.sr (RG.br rfl (RG.nil ?_))
   exact WP.ret ⟨_, _, ResV.one rfl rfl, Cv.p, k⟩
def mkRu (_ : Rule) (k : Int) : Rule := ⟨k, k + 1, k + 1 + 1, k + 1 + 1 + 1, k + 1 + 1 + 1 + 1⟩
def nRu (_ : Rule) : Int := 5
theorem nRu_cost (xs : List Rule) : costL nRu xs = 5 * xs.length := costL_const 5 xs
theorem mkRu_at {xs : List Rule} {i : Nat} {k0 kk : Int} (h : i < xs.length) (e : kk = k0 + 5 * i) : mkRu (gd xs i) (k0 + costL nRu (xs.take i)) = ⟨kk, kk + 1, kk + 1 + 1, kk + 1 + 1 + 1, kk + 1 + 1 + 1 + 1⟩ := by
 rw [mkRu, nRu_cost, List.length_take, Nat.min_eq_left (by omega), e]
theorem markRuleS_s {v : Value} {xs : List Rule} {k0 : Int} (hk : 0 ≤ k0) (hb : k0 + costL nRu xs ≤ 4611686018427387904) (k : R (vi (k0 + costL nRu xs)) G (osl 53 ruleT v (markL mkRu nRu xs k0) :: L)) : CallT Tryz.prog 48 #[v, vi k0] G (osl 53 ruleT v xs :: L) R := by
 have hc := nRu_cost xs
 refine CallT.cv (Cv.eqS (markTo_zero (mk := mkRu) (n := nRu) (k := k0)).symm) ?_
 refine CallT.enter (args := _) Tryz.func48 rfl rfl (by kernel_rfl) rfl ?_
 refine WP.sr (RG.mr rfl (RG.nil (WP.seq (WP.sr (RG.mr rfl (RG.nil (WP.block ?_)))))))
 refine WP.loop2 [0] (fun (i : Nat) (kk : Int) => i ≤ xs.length ∧ kk = k0 + 5 * i) (fun (i : Nat) (kk : Int) => [(5, vi i), (1, vi kk)]) (fun (i : Nat) (kk : Int) => osl 53 ruleT v (markTo mkRu nRu xs k0 i) :: L) (fun (i : Nat) (kk : Int) => xs.length - i) 0 k0 ⟨by omega, by omega⟩ ⟨rfl, rfl, trivial⟩ Cv.p ?_
 rintro i kk τ ⟨hi, hkk⟩
 refine WP.seq (WP.sr (RG.ml rfl (RG.p (PV.move (v := v) rfl rfl) (RG.p (PV.len (v := v) rfl Tryz.underlying37 rfl SlF.o) (RG.p (PV.lss rfl rfl rfl) (RG.nil ?_))))))
 have hml := markTo_len (mk := mkRu) (n := nRu) (k := k0) hi
 refine WP.cond rfl (fun h1 => ?_) (fun h1 => ?_)
 ·have h1 := of_decide_eq_true h1
  have h2 : i < xs.length := by omega
  refine WP.skip (WP.seq (WP.block (WP.sr (RG.p (PV.move (v := v) rfl rfl) (RG.ml rfl (RG.ml rfl (RG.p (PV.idxS (v := v) rfl Is37 rfl SlF.o rfl rfl (by omega)) (RG.p (PV.field rfl Fo53_0 rfl) ?_))))))))
  refine RG.ot rfl (OT.storeF (F := ruleT) (val := vi) (cv := fun u => [vi u]) (st := Rule.s0) rfl Sz2 rfl rfl rfl (Cl.c rfl) rfl (OneC.c rfl) (by exact set_self (by omega)) (by first | omega | (simp; omega)) rfl (fun _ _ => rfl) ?_)
  refine RG.nil (WP.sr (RG.ml rfl (RG.p (PV.add rfl rfl rfl (by first | omega | (simp only [List.length_set]; omega))) (RG.mr rfl (RG.nil (WP.sr (RG.p (PV.move (v := v) rfl rfl) (RG.ml rfl (RG.ml rfl (RG.p (PV.idxS (v := v) rfl Is37 rfl SlF.o rfl rfl (by first | omega | (simp only [List.length_set]; omega))) (RG.p (PV.field rfl Fo53_1 rfl) ?_)))))))))))
  refine RG.ot rfl (OT.storeF (F := ruleT) (val := vi) (cv := fun u => [vi u]) (st := Rule.s1) rfl Sz2 rfl rfl rfl (Cl.c rfl) rfl (OneC.c rfl) (by rfl) (by first | omega | (simp; omega)) rfl (fun _ _ => rfl) ?_)
  refine RG.nil (WP.sr (RG.ml rfl (RG.p (PV.add rfl rfl rfl (by first | omega | (simp only [List.length_set]; omega))) (RG.mr rfl (RG.nil (WP.sr (RG.p (PV.move (v := v) rfl rfl) (RG.ml rfl (RG.ml rfl (RG.p (PV.idxS (v := v) rfl Is37 rfl SlF.o rfl rfl (by first | omega | (simp only [List.length_set]; omega))) (RG.p (PV.field rfl Fo53_2 rfl) ?_)))))))))))
  refine RG.ot rfl (OT.storeF (F := ruleT) (val := vi) (cv := fun u => [vi u]) (st := Rule.s2) rfl Sz2 rfl rfl rfl (Cl.c rfl) rfl (OneC.c rfl) (by rfl) (by first | omega | (simp; omega)) rfl (fun _ _ => rfl) ?_)
  refine RG.nil (WP.sr (RG.ml rfl (RG.p (PV.add rfl rfl rfl (by first | omega | (simp only [List.length_set]; omega))) (RG.mr rfl (RG.nil (WP.sr (RG.p (PV.move (v := v) rfl rfl) (RG.ml rfl (RG.ml rfl (RG.p (PV.idxS (v := v) rfl Is37 rfl SlF.o rfl rfl (by first | omega | (simp only [List.length_set]; omega))) (RG.p (PV.field rfl Fo53_3 rfl) ?_)))))))))))
  refine RG.ot rfl (OT.storeF (F := ruleT) (val := vi) (cv := fun u => [vi u]) (st := Rule.s3) rfl Sz2 rfl rfl rfl (Cl.c rfl) rfl (OneC.c rfl) (by rfl) (by first | omega | (simp; omega)) rfl (fun _ _ => rfl) ?_)
  refine RG.nil (WP.sr (RG.ml rfl (RG.p (PV.add rfl rfl rfl (by first | omega | (simp only [List.length_set]; omega))) (RG.mr rfl (RG.nil (WP.sr (RG.p (PV.move (v := v) rfl rfl) (RG.ml rfl (RG.ml rfl (RG.p (PV.idxS (v := v) rfl Is37 rfl SlF.o rfl rfl (by first | omega | (simp only [List.length_set]; omega))) (RG.p (PV.field rfl Fo53_4 rfl) ?_)))))))))))
  refine RG.ot rfl (OT.storeF (F := ruleT) (val := vi) (cv := fun u => [vi u]) (st := Rule.s4) rfl Sz2 rfl rfl rfl (Cl.c rfl) rfl (OneC.c rfl) (by rfl) (by first | omega | (simp; omega)) rfl (fun _ _ => rfl) ?_)
  refine RG.nil (WP.region (RG.ml rfl (RG.p (PV.add rfl rfl rfl (by first | omega | (simp only [List.length_set]; omega))) (RG.mr rfl (RG.nil (WP.region (RG.ml rfl (RG.p (PV.add rfl rfl rfl (by first | omega | (simp only [List.length_set]; omega))) (RG.mr rfl (RG.nil ?_))))))))))
  exact ⟨rfl, i + 1, _, ⟨by omega, by omega⟩, ⟨rfl, rfl, trivial⟩, ⟨rfl, trivial⟩, (Cv.eqS (by rw [← markTo_set h2, mkRu_at h2 hkk])), by omega⟩
 ·have h1 := of_decide_eq_false h1
  have e : kk = k0 + costL nRu xs := by omega
  rw [← e] at k
  refine WP.exit ?_
  refine WP.sr (RG.ml rfl (RG.mr rfl (RG.nil ?_)))
  exact WP.ret ⟨_, _, ResV.one rfl rfl, (Cv.eqS (markTo_all (by omega))), k⟩
theorem toDeck_s {d : Deck} (h1 : Rs G L ruleT d.rules.v d.rules.xs) (hb : d.rules.xs.length ≤ 1048576) (k : ∀ v', R (vT deckT ⟨⟨v', d.rules.xs⟩⟩) G (osl 53 ruleT v' d.rules.xs :: L)) : CallT Tryz.prog 11 #[vT deckT d] G L R := by
 refine CallT.enter (args := _) Tryz.func11 rfl rfl (by kernel_rfl) rfl ?_
 refine WP.sr ?_
 refine RG.ot rfl (OT.box (cs := deckT.enc d) rfl rfl rfl fun b1 => ?_)
 refine RG.ot rfl (OT.alloc rfl Zr39 fun b2 => ?_)
 refine RG.nil (WP.sr ?_)
 refine RG.ot rfl (OT.alloc rfl Zr39 fun b3 => ?_)
 refine RG.nil (WP.sr (RG.p (PV.field rfl Fo27_0 rfl) (RG.p (PV.load1 rfl Sc25 rfl (Rd.blk rfl)) ?_)))
 refine RG.callF (vs := [_]) rfl rfl En40 rfl (toRuleS_s (Rs.up h1) hb (fun v6 => ?_))
 refine RG.p (PV.field rfl Fo39_0 rfl) ?_
 refine RG.ot rfl (OT.storeB (v := v6) (vs := [_]) (cs' := [_]) rfl Sz37 rfl rfl (Cl.s (v := v6) SlF.o) rfl (OneC.sl SlF.o OneC.nil) rfl rfl ?_)
 refine RG.nil (WP.sr (RG.p (PV.loadW rfl Ag39 rfl rfl) ?_))
 refine RG.ot rfl (OT.storeW (vs := [_]) rfl Sz39 rfl rfl (Cl.c rfl) rfl rfl (OneC.sl SlF.o OneC.nil) ?_)
 refine RG.nil ?_
 exact WP.ret ⟨_, _, ResV.one rfl (RV1.cell rfl Ag39 rfl), Cv.p, k v6⟩
theorem szDeck_s {d : Deck} {m : Int} (h1 : Rs G L ruleT d.rules.v d.rules.xs) (hn : m ≤ 1048576) (h0 : 0 ≤ m) (k : ∀ r : Int, r ≤ m → (0 ≤ r → r = m - d.rules.xs.length) → R (vi r) G L) : CallT Tryz.prog 8 #[vT deckT d, vi m] G L R := by
 refine CallT.enter (args := _) Tryz.func8 rfl rfl (by kernel_rfl) rfl ?_
 refine WP.sr ?_
 refine RG.ot rfl (OT.box (cs := deckT.enc d) rfl rfl rfl fun b2 => ?_)
 refine RG.mr rfl (RG.nil (WP.sr (RG.p (PV.field rfl Fo27_0 rfl) (RG.p (PV.load1 rfl Sc25 rfl (Rd.blk rfl)) (RG.ml rfl ?_)))))
 refine RG.callF (vs := [_, _]) rfl rfl En34 rfl (szRuleS_s (Rs.up h1) (by omega) (by omega) (fun r hr hr' => ?_))
 refine RG.mr rfl (RG.nil (WP.seq (WP.sr (RG.ml rfl (RG.p (PV.lss rfl rfl rfl) (RG.nil ?_))))))
 refine WP.cond rfl (fun h2 => ?_) (fun h2 => ?_)
 ·have h2 := of_decide_eq_true h2
  refine WP.sr (RG.mr rfl (RG.nil ?_))
  exact WP.ret ⟨_, _, ResV.one rfl rfl, Cv.p, k _ (by omega) (fun h => by omega)⟩
 ·refine WP.skip ?_
  refine WP.sr (RG.ml rfl (RG.mr rfl (RG.nil ?_)))
  exact WP.ret ⟨_, _, ResV.one rfl rfl, Cv.p, k _ (by omega) hr'⟩
theorem eqDeck_s {d e : Deck} (h1 : Rs G L ruleT d.rules.v d.rules.xs) (h2 : Rs G L ruleT e.rules.v e.rules.xs) (k : R (.bool (decide (d.rules.xs = e.rules.xs))) G L) : CallT Tryz.prog 15 #[vT deckT d, vT deckT e] G L R := by
 refine CallT.enter (args := _) Tryz.func15 rfl rfl (by kernel_rfl) rfl ?_
 refine WP.sr ?_
 refine RG.ot rfl (OT.box (cs := deckT.enc d) rfl rfl rfl fun b2 => ?_)
 refine RG.ot rfl (OT.box (cs := deckT.enc e) rfl rfl rfl fun b3 => ?_)
 refine RG.br rfl (RG.nil (WP.seq (WP.sr (RG.p (PV.field rfl Fo39_0 rfl) (RG.p (PV.load1 rfl Sc37 rfl (Rd.blk rfl)) (RG.p (PV.field rfl Fo39_0 rfl) (RG.p (PV.load1 rfl Sc37 rfl (Rd.blk rfl)) ?_)))))))
 refine RG.callF (vs := [_, _]) rfl rfl En46 rfl (eqRuleS_s (Rs.up h1) (Rs.up h2) ?_)
 refine RG.p (PV.not rfl rfl) (RG.nil ?_)
 refine WP.cond rfl (fun h3 => ?_) (fun h3 => ?_)
 ·have e : decide (d.rules.xs = e.rules.xs) = false := by simpa using h3
  rw [e] at k
  refine WP.sr (RG.br rfl (RG.nil ?_))
  exact WP.ret ⟨_, _, ResV.one rfl rfl, Cv.p, k⟩
 ·have e : decide (d.rules.xs = e.rules.xs) = true := by simpa using h3
  rw [e] at k
  refine WP.skip (WP.sr (RG.br rfl (RG.nil ?_)))
  exact WP.ret ⟨_, _, ResV.one rfl rfl, Cv.p, k⟩
end Go.Proofs.YtgphjofccckloaaGreat
namespace Go.Proofs.YtgphjofccckloaaGreat
open Go
set_option maxRecDepth 20000
section
variable {P : Program} {n : Nat} {ops : Array Oper} {Q : Post} {σ : Nat → Value} {G G0 : Gh} {L C0 : List Ch} {r : Sch} {oi : Oper}
theorem PV.any {P : Program} {o : Oper} {σ : Nat → Value} {G : Gh} {L : List Ch} {v : Value} (h : False) : PV P o σ G L v := h.elim
end
variable {G : Gh} {L : List Ch} {R : Value → Gh → List Ch → Prop}
end Go.Proofs.YtgphjofccckloaaGreat
namespace Go.Proofs.YtgphjofccckloaaGreat
open Go
set_option maxRecDepth 20000
variable {G : Gh} {L : List Ch} {R : Value → Gh → List Ch → Prop}
theorem markDeck_s {d : Deck} {k0 : Int} (hk : 0 ≤ k0) (hb : k0 + costL nRu d.rules.xs ≤ 4611686018427387904) (k : R (vi (k0 + costL nRu d.rules.xs)) G (osl 53 ruleT d.rules.v (markL mkRu nRu d.rules.xs k0) :: L)) :
  CallT Tryz.prog 17 #[vT deckT d, vi k0] G (osl 53 ruleT d.rules.v d.rules.xs :: L) R := by
 refine CallT.enter (args := _) Tryz.func17 rfl rfl (by kernel_rfl) rfl ?_
 refine WP.sr ?_
 refine RG.ot rfl (OT.box (cs := deckT.enc d) rfl rfl rfl fun b2 => ?_)
 refine RG.mr rfl (RG.nil (WP.sr (RG.p (PV.field rfl Fo39_0 rfl) (RG.p (PV.load1 rfl Sc37 rfl (Rd.blk rfl)) (RG.ml rfl ?_)))))
 refine RG.callF (vs := [_, _]) rfl rfl En48 rfl (CallT.exS d.rules.v (markRuleS_s (v := d.rules.v) (by omega) (by omega) ?_))
 refine RG.mr rfl (RG.nil (WP.sr (RG.ml rfl (RG.mr rfl (RG.nil ?_)))))
 exact WP.ret ⟨_, _, ResV.one rfl rfl, Cv.p, k⟩
end Go.Proofs.YtgphjofccckloaaGreat
namespace Go.Proofs.YtgphjofccckloaaGreat
open Go
set_option maxRecDepth 20000
variable {G : Gh} {L : List Ch} {R : Value → Gh → List Ch → Prop}
theorem mks_app (xs ys : List Viol) : mks (xs ++ ys) = mks xs ++ mks ys := by simp [mks]
theorem erVs_app (xs ys : List Viol) : erVs (xs ++ ys) = erVs xs ++ erVs ys := by simp [erVs]
end Go.Proofs.YtgphjofccckloaaGreat
namespace Go.Proofs.YtgphjofccckloaaGreat
open Go
set_option maxRecDepth 20000
set_option maxHeartbeats 2000000
variable {G : Gh} {L : List Ch} {R : Value → Gh → List Ch → Prop}
theorem gd_apq {α : Type} [Inhabited α] (xs ys : List α) (m : Nat) : gd (xs ++ ys) (xs.length + m) = gd ys m := by
 unfold gd; rw [List.getElem?_append_right (by omega), Nat.add_sub_cancel_left]
noncomputable def chkTo (l : List (List Rect)) (rs : List Rule) (i : Nat) : List (Int × List Rect) := (List.range i).flatMap fun j => (partsL (bits (rmE l (gd rs j)))).map fun p => ((j : Int), p)
theorem chkTo_succ (l : List (List Rect)) (rs : List Rule) (i : Nat) : chkTo l rs (i + 1) = chkTo l rs i ++ (partsL (bits (rmE l (gd rs i)))).map fun p => ((i : Int), p) := by
 rw [chkTo, chkTo, List.range_succ, List.flatMap_append]; simp
theorem check_s {v : Value} {ys : List (Sl Rect)} {d : Deck} (h1 : Rs G L slT v ys) (hd : RsE G L rectT ys) (h2 : Rs G L ruleT d.rules.v d.rules.xs) (hl : d.rules.xs.length ≤ 1000) (k : ∀ v' zs, erVs zs = chkTo (er ys) d.rules.xs d.rules.xs.length → R (.tuple #[v', .bool (decide ((zs.length : Int) ≤ 256))]) G (osl 118 violT v' zs :: bagS 91 rectT (mks zs) :: L)) : CallT Tryz.prog 38 #[v, vT deckT d] G L R := by
 refine CallT.enter (args := _) Tryz.func38 rfl rfl (by kernel_rfl) rfl ?_
 refine WP.sr ?_
 refine RG.ot rfl (OT.box (cs := deckT.enc d) rfl rfl rfl fun b3 => ?_)
 refine RG.p (PV.asg rfl rfl) (RG.br rfl (RG.nil (WP.sr ?_)))
 refine RG.ot rfl (OT.bslice (F := violT) (els := []) rfl El61 rfl (by decide) rfl (by decide) trivial fun v10 => ?_)
 refine RG.p (PV.asg (v := v10) rfl rfl) (RG.nil (WP.seq (WP.sr (RG.mr rfl (RG.nil (WP.block ?_))))))
 refine WP.cv ((Cv.p (C := osl 118 violT v10 ([] : List Viol) :: blk b3 39 (deckT.enc d) :: L)).trans (Cv.cons (Cv.bag0 (e := 91) (F := rectT) (xs := mks []) rfl))) ?_
 refine WP.loop3 [0, 3] (fun (i : Nat) (out : List Viol) (q : Value) => i ≤ d.rules.xs.length ∧ out.length ≤ i * 6400 ∧ erVs out = chkTo (er ys) d.rules.xs i) (fun (i : Nat) (out : List Viol) (q : Value) => [(7, vi i), (6, q)]) (fun (i : Nat) (out : List Viol) (q : Value) => osl 118 violT q out :: bagS 91 rectT (mks out) :: blk b3 39 (deckT.enc d) :: L) (fun (i : Nat) (out : List Viol) (q : Value) => d.rules.xs.length - i) 0 [] v10 ⟨by omega, by simp, rfl⟩ ⟨rfl, rfl, trivial⟩ Cv.p ?_
 rintro i out q τ ⟨hi, hol, hev⟩
 refine WP.seq (WP.sr (RG.ml rfl (RG.p (PV.field rfl Fo39_0 rfl) (RG.p (PV.load1 rfl Sc37 rfl (Rd.blk rfl)) (RG.p (PV.len rfl Tryz.underlying37 rfl (SlF.r h2)) (RG.p (PV.lss rfl rfl rfl) (RG.nil ?_)))))))
 refine WP.cond rfl (fun h3 => ?_) (fun h3 => ?_)
 ·have h3 := of_decide_eq_true h3
  refine WP.skip (WP.seq (WP.block (WP.sr (RG.p (PV.move (v := v) rfl rfl) (RG.p (PV.field rfl Fo39_0 rfl) (RG.p (PV.load1 rfl Sc37 rfl (Rd.blk rfl)) (RG.ml rfl (RG.p (PV.idxS rfl Is37 rfl (SlF.r h2) rfl rfl (by omega)) (RG.p (PV.loadE rfl Ag53 rfl rfl (El.r h2 (getG (by omega)))) ?_)))))))))
  refine RG.callF (vs := [v, _]) rfl rfl En50 rfl (rule_s (Rs.up h1) hd.up (fun v24 => ?_))
  refine RG.callF (vs := [v24]) rfl rfl En74 rfl (comps7_s Rs.o (isReg_valid (rmE_reg _ _)) (fun v25 psv25 hpv25 => ?_))
  refine RG.p (PV.asg (v := v25) rfl rfl) (RG.nil (WP.sr (RG.mr rfl (RG.nil (WP.block ?_)))))
  have hpl : psv25.length ≤ 6400 := by have := congrArg List.length hpv25; rw [er_len] at this; rw [this, partsL, List.length_map]; exact comps_len _
  have hps : ∀ m, m < psv25.length → Rs G [bagS 91 rectT (mks out ++ psv25)] rectT (gd psv25 m).v (gd psv25 m).xs := fun m hm => by
   have := Rs.inBag (G := G) (L := [bagS 91 rectT (mks out ++ psv25)]) (L' := []) (e := 91) (F := rectT) (xs := mks out ++ psv25) ((mks out).length + m) (by simp; omega)
   rwa [gd_apq] at this
  refine WP.cv ((Cv.p (C := bagS 91 rectT (mks out) :: bagS 91 rectT psv25 :: osl 118 violT q out :: osl 50 slT v25 psv25 :: blk b3 39 (deckT.enc d) :: L)).trans Cv.bagJoin) ?_
  refine WP.loop3 [0, 3, 7, 8] (fun (m : Nat) (out2 : List Viol) (q2 : Value) => m ≤ psv25.length ∧ out2.length = out.length + m ∧ mks out2 ++ psv25.drop m = mks out ++ psv25 ∧ erVs out2 = erVs out ++ ((er psv25).take m).map (fun p => ((i : Int), p))) (fun (m : Nat) (out2 : List Viol) (q2 : Value) => [(9, vi m), (6, q2)]) (fun (m : Nat) (out2 : List Viol) (q2 : Value) => bagS 91 rectT (mks out ++ psv25) :: osl 118 violT q2 out2 :: osl 50 slT v25 psv25 :: blk b3 39 (deckT.enc d) :: L) (fun (m : Nat) (out2 : List Viol) (q2 : Value) => psv25.length - m) 0 out q ⟨by omega, by omega, rfl, by simp⟩ ⟨rfl, rfl, trivial⟩ Cv.p ?_
  rintro m out2 q2 τ1 ⟨hm, hol2, heq, hev2⟩
  refine WP.seq (WP.sr (RG.ml rfl (RG.p (PV.move (v := v25) rfl rfl) (RG.p (PV.len (v := v25) rfl Tryz.underlying71 rfl SlF.o) (RG.p (PV.lss rfl rfl rfl) (RG.nil ?_))))))
  refine WP.cond rfl (fun h4 => ?_) (fun h4 => ?_)
  ·have h4 := of_decide_eq_true h4
   have h40 : m < psv25.length := by omega
   have hpm := hps m h40
   have heq' : mks (out2 ++ [⟨(i : Int), gd psv25 m⟩]) ++ psv25.drop (m + 1) = mks out ++ psv25 := by
    rw [mks_app, List.append_assoc, ← heq, List.drop_eq_getElem_cons h40, gd_eq h40]; rfl
   have hev3 : erVs (out2 ++ [⟨(i : Int), gd psv25 m⟩]) = erVs out ++ ((er psv25).take (m + 1)).map (fun p => ((i : Int), p)) := by
    rw [erVs_app, hev2, List.take_add_one, getG (by rw [er_len]; exact h40), er_gd, List.append_assoc, List.map_append]; rfl
   refine WP.skip (WP.seq (WP.block (WP.region (RG.p (PV.move (v := q2) rfl rfl) (RG.ml rfl (RG.p (PV.move (v := v25) rfl rfl) (RG.ml rfl (RG.p (PV.idxS (v := v25) rfl Is71 rfl SlF.o rfl rfl (by omega)) (RG.p (PV.loadE1 rfl Sc50 rfl rfl (El.o (getG (by omega))) rfl) (RG.p (PV.build (vs := [(0, [vi _]), (1, [_])]) (out := [_, _]) rfl Zr118 Pl118 ⟨rfl, (Cl.c rfl), ⟨rfl, (Cl.s (SlF.r hpm)), trivial⟩⟩ rfl) ?_))))))))))
   refine RG.ot rfl (OT.bslice (F := violT) (els := [⟨(i : Int), gd psv25 m⟩]) rfl El61 rfl (by decide) rfl (by decide) ⟨rfl, (Cl.c rfl), trivial⟩ fun v39 => ?_)
   refine RG.ot rfl (OT.append (v := q2) (u := v39) (F := violT) rfl El61 rfl (by decide) rfl rfl Rs.o (OneL.one (OneC.val rfl (OneC.sl (SlF.r hpm) OneC.nil))) rfl (by first | omega | (simp <;> omega)) fun v40 => ?_)
   refine RG.p (PV.asg (v := v40) rfl rfl) (RG.nil (WP.region (RG.ml rfl (RG.p (PV.add rfl rfl rfl (by omega)) (RG.mr rfl (RG.nil ?_))))))
   exact ⟨rfl, m + 1, (out2 ++ [⟨(i : Int), gd psv25 m⟩]), v40, ⟨by omega, by simp; omega, heq', hev3⟩, ⟨rfl, rfl, trivial⟩, ⟨rfl, rfl, rfl, rfl, trivial⟩, Cv.p, by omega⟩
  ·have h4 := of_decide_eq_false h4
   obtain rfl : m = psv25.length := by omega
   rw [List.drop_length, List.append_nil] at heq
   rw [List.take_of_length_le (by rw [er_len]; omega), hpv25, hev, ← chkTo_succ] at hev2
   refine WP.exit ?_
   refine WP.region (RG.ml rfl (RG.p (PV.add rfl rfl rfl (by omega)) (RG.mr rfl (RG.nil ?_))))
   exact ⟨rfl, i + 1, out2, q2, ⟨by omega, by omega, hev2⟩, ⟨rfl, rfl, trivial⟩, ⟨rfl, rfl, trivial⟩, (by simp only [heq]; exact Cv.p), by omega⟩
 ·have h3 := of_decide_eq_false h3
  obtain rfl : i = d.rules.xs.length := by omega
  refine WP.exit ?_
  refine WP.sr (RG.p (PV.move (v := q) rfl rfl) (RG.p (PV.move (v := q) rfl rfl) (RG.p (PV.len (v := q) rfl Tryz.underlying61 rfl SlF.o) (RG.p (PV.leq rfl rfl rfl) (RG.p (PV.asg (v := q) rfl rfl) (RG.br rfl (RG.nil ?_)))))))
  exact WP.ret ⟨_, _, ResV.two rfl rfl rfl, Cv.p, k q out hev⟩
noncomputable def chkL (l : List (List Rect)) (rs : List Rule) : List (Int × List Rect) := chkTo l rs rs.length
noncomputable def chkE (l : List (List Rect)) (rs : List Rule) : Int := if (isLay l && deckOk rs) = true then (if (chkL l rs).length ≤ 256 then 0 else 3) else 1
noncomputable def chkR (l : List (List Rect)) (rs : List Rule) : List (Int × List Rect) := if chkE l rs = 0 then chkL l rs else []
theorem chkE_no {l : List (List Rect)} {rs : List Rule} (h : (!isLay l || !deckOk rs) = true) : chkE l rs = 1 ∧ chkR l rs = [] := by
 have : chkE l rs = 1 := by rw [chkE, if_neg]; intro h2; cases c : isLay l <;> cases d : deckOk rs <;> simp_all
 exact ⟨this, by rw [chkR, this, if_neg (by decide)]⟩
theorem chkE_big {l : List (List Rect)} {rs : List Rule} (h : isLay l = true ∧ deckOk rs = true) (h2 : ¬ (chkL l rs).length ≤ 256) : chkE l rs = 3 ∧ chkR l rs = [] := by
 have : chkE l rs = 3 := by rw [chkE, if_pos (by rw [h.1, h.2]; rfl), if_neg h2]
 exact ⟨this, by rw [chkR, this, if_neg (by decide)]⟩
theorem chkE_ok {l : List (List Rect)} {rs : List Rule} (h : isLay l = true ∧ deckOk rs = true) (h2 : (chkL l rs).length ≤ 256) : chkE l rs = 0 ∧ chkR l rs = chkL l rs := by
 have : chkE l rs = 0 := by rw [chkE, if_pos (by rw [h.1, h.2]; rfl), if_pos h2]
 exact ⟨this, by rw [chkR, this, if_pos rfl]⟩
theorem Cv.nilV {M : List Ch} {e e' : TypeId} [p : PickC L M] : Cv M (osl e violT (.slice none 0 0) ([] : List Viol) :: bagS e' rectT (mks []) :: L) := (Cv.pick p.pick).trans ((Cv.bag0 (xs := mks []) rfl).trans Cv.nilS)
theorem chkLay_r {v : Value} {ys : List (Sl Rect)} {d : Deck} (h1 : Rs G L slT v ys) (hd : RsE G L rectT ys) (h2 : Rs G L ruleT d.rules.v d.rules.xs) (k : ∀ v' zs, erVs zs = chkR (er ys) d.rules.xs → R (.tuple #[v', vi (chkE (er ys) d.rules.xs)]) G (osl 118 violT v' zs :: bagS 91 rectT (mks zs) :: L)) : CallT Tryz.prog 67 #[v, vT deckT d] G L R := by
 refine CallT.enter (args := _) Tryz.func67 rfl rfl (by kernel_rfl) rfl ?_
 refine WP.sr ?_
 refine RG.ot rfl (OT.box (cs := deckT.enc d) rfl rfl rfl fun b3 => ?_)
 refine RG.p (PV.asg rfl rfl) (RG.mr rfl (RG.nil (WP.seq (WP.sr (RG.p (PV.move (v := v) rfl rfl) ?_)))))
 refine RG.callF (vs := [v]) rfl rfl En133 rfl (isLayoutS_s (Rs.up h1) hd.up ?_)
 refine RG.p (PV.not rfl rfl) (RG.bl rfl ?_)
 refine RG.g rfl (fun hp => (PV.loadW rfl Ag39 rfl rfl)) ?_
 refine RG.gsC rfl rfl rfl rfl En36 (fun hp => ⟨_, (acons (gs_t hp) anil), deck_r (Rs.up h2) ⟨rfl, rfl, rfl⟩⟩) ?_
 refine RG.g rfl (fun hp => (PV.not rfl (gs_t hp))) ?_
 refine RG.p (PV.pickO rfl rfl rfl (fun hq => gs_t (geqF hq))) (RG.nil ?_)
 refine WP.cond rfl (fun h3 => ?_) (fun h3 => ?_)
 ·obtain ⟨e1, e2⟩ := chkE_no h3
  rw [e1, e2] at k
  refine WP.sr (RG.p (PV.asg rfl rfl) (RG.mr rfl (RG.nil ?_)))
  exact WP.ret ⟨_, _, ResV.two rfl rfl rfl, Cv.nilV, k (.slice none 0 0) [] rfl⟩
 ·have h4 : isLay (er ys) = true ∧ deckOk d.rules.xs = true := by cases c : isLay (er ys) <;> cases d : deckOk d.rules.xs <;> simp_all
  have hdl := deck_len h4.2
  refine WP.skip (WP.sr (RG.p (PV.move (v := v) rfl rfl) (RG.p (PV.loadW rfl Ag39 rfl rfl) ?_)))
  refine RG.callF (vs := [v, _]) rfl rfl En38 rfl (check_s (Rs.up h1) hd.up (Rs.up h2) (by omega) (fun w19 zsw19 hzw19 => ?_))
  refine RG.p (PV.move (v := .tuple _) rfl rfl) (RG.p (PV.ext (v := w19) rfl rfl rfl) (RG.p (PV.ext rfl rfl rfl) (RG.p (PV.asg (v := w19) rfl rfl) (RG.br rfl (RG.nil (WP.seq (WP.sr (RG.bl rfl (RG.p (PV.not rfl rfl) (RG.nil ?_))))))))))
  have hzl : zsw19.length = (chkL (er ys) d.rules.xs).length := by rw [← erVs_len, hzw19]; rfl
  refine WP.cond rfl (fun h5 => ?_) (fun h5 => ?_)
  ·have h6 : ¬ (chkL (er ys) d.rules.xs).length ≤ 256 := by simp at h5; omega
   obtain ⟨e1, e2⟩ := chkE_big h4 h6
   rw [e1, e2] at k
   refine WP.sr (RG.p (PV.asg rfl rfl) (RG.mr rfl (RG.nil ?_)))
   exact WP.ret ⟨_, _, ResV.two rfl rfl rfl, Cv.nilV, k (.slice none 0 0) [] rfl⟩
  ·have h6 : (chkL (er ys) d.rules.xs).length ≤ 256 := by simp at h5; omega
   obtain ⟨e1, e2⟩ := chkE_ok h4 h6
   rw [e1, e2] at k
   refine WP.skip (WP.sr (RG.p (PV.move (v := w19) rfl rfl) (RG.p (PV.asg (v := w19) rfl rfl) (RG.mr rfl (RG.nil ?_)))))
   exact WP.ret ⟨_, _, ResV.two rfl rfl rfl, Cv.p, k w19 zsw19 hzw19⟩
end Go.Proofs.YtgphjofccckloaaGreat
namespace Go.Proofs.YtgphjofccckloaaGreat
open Go
set_option maxRecDepth 20000
set_option maxHeartbeats 2000000
variable {G : Gh} {L : List Ch} {R : Value → Gh → List Ch → Prop}
theorem rmE_ok {l : List (List Rect)} {q : Rule} (hl : isLay l = true) (hr : validRule q = true) : rmE l q = rmL l q := by rw [rmE, if_pos (by rw [hl, hr]; rfl)]
theorem checked_i {v : Value} {ys : List (Sl Rect)} {d : Deck} (h1 : Rs G L slT v ys) (hd : RsE G L rectT ys) (h2 : Rs G L ruleT d.rules.v d.rules.xs) (hly : isLay (er ys) = true) (hk : deckOk d.rules.xs = true) (k : ∀ v' zs, erVs zs = chkL (er ys) d.rules.xs → R v' G (osl 118 violT v' zs :: bagS 91 rectT (mks zs) :: L)) : CallT Tryz.prog 82 #[v, vT deckT d] G L R := by
 have hdl := deck_len hk
 refine CallT.enter (args := _) Tryz.func82 rfl rfl (by kernel_rfl) rfl ?_
 refine WP.sr ?_
 refine RG.ot rfl (OT.box (cs := deckT.enc d) rfl rfl rfl fun b3 => ?_)
 refine RG.p (PV.asg rfl rfl) (RG.nil (WP.sr ?_))
 refine RG.ot rfl (OT.bslice (F := violT) (els := []) rfl El61 rfl (by decide) rfl (by decide) trivial fun v10 => ?_)
 refine RG.p (PV.asg (v := v10) rfl rfl) (RG.nil (WP.seq (WP.sr (RG.p (PV.field rfl Fo39_0 rfl) (RG.p (PV.load1 rfl Sc37 rfl (Rd.blk rfl)) (RG.p (PV.len rfl Tryz.underlying37 rfl (SlF.r h2)) (RG.ml rfl (RG.nil (WP.block ?_)))))))))
 refine WP.cv ((Cv.p (C := osl 118 violT v10 ([] : List Viol) :: blk b3 39 (deckT.enc d) :: L)).trans (Cv.cons (Cv.bag0 (e := 91) (F := rectT) (xs := mks []) rfl))) ?_
 refine WP.loop3 [0, 12, 13] (fun (i : Nat) (out : List Viol) (q : Value) => i ≤ d.rules.xs.length ∧ out.length ≤ i * 6400 ∧ erVs out = chkTo (er ys) d.rules.xs i) (fun (i : Nat) (out : List Viol) (q : Value) => [(14, vi i), (5, q)]) (fun (i : Nat) (out : List Viol) (q : Value) => osl 118 violT q out :: bagS 91 rectT (mks out) :: blk b3 39 (deckT.enc d) :: L) (fun (i : Nat) (out : List Viol) (q : Value) => d.rules.xs.length - i) 0 [] v10 ⟨by omega, by simp, rfl⟩ ⟨rfl, rfl, trivial⟩ Cv.p ?_
 rintro i out q τ ⟨hi, hol, hev⟩
 refine WP.sr (RG.p (PV.lss rfl rfl rfl) (RG.nil (WP.seq ?_)))
 refine WP.cond rfl (fun h3 => ?_) (fun h3 => ?_)
 ·have h3 := of_decide_eq_true h3
  have hrm := rmE_ok hly (deck_rule hk (i := i) (by omega))
  refine WP.skip (WP.seq (WP.block (WP.sr (RG.ml rfl (RG.p (PV.idxS rfl Is37 rfl (SlF.r h2) rfl rfl (by omega)) (RG.p (PV.loadE rfl Ag53 rfl rfl (El.r h2 (getG (by omega)))) ?_))))))
  refine RG.ot rfl (OT.alloc rfl Zr53 fun b7 => ?_)
  refine RG.mr rfl ?_
  refine RG.ot rfl (OT.storeW (vs := [vi _, vi _, vi _, vi _, vi _]) rfl Sz53 rfl rfl (Cl.c rfl) rfl rfl (OneC.c rfl) ?_)
  refine RG.nil (WP.sr (RG.p (PV.move (v := v) rfl rfl) (RG.p (PV.loadW rfl Ag53 rfl rfl) ?_)))
  refine RG.callF (vs := [v, _]) rfl rfl En55 rfl (rule_i (q := gd d.rules.xs i) (Rs.up h1) hd.up hly (deck_rule hk (by omega)) (fun v21 => ?_))
  refine RG.callF (vs := [v21]) rfl rfl En163 rfl (components_s Rs.o (fun v22 psv22 hpv22 => ?_))
  refine RG.p (PV.len (v := v22) rfl Tryz.underlying71 rfl SlF.o) (RG.ml rfl (RG.nil (WP.block ?_)))
  have hpl : psv22.length ≤ 6400 := by have := congrArg List.length hpv22; rw [er_len] at this; rw [this, partsL, List.length_map]; exact comps_len _
  have hps : ∀ m, m < psv22.length → Rs G [bagS 91 rectT (mks out ++ psv22)] rectT (gd psv22 m).v (gd psv22 m).xs := fun m hm => by
   have := Rs.inBag (G := G) (L := [bagS 91 rectT (mks out ++ psv22)]) (L' := []) (e := 91) (F := rectT) (xs := mks out ++ psv22) ((mks out).length + m) (by simp; omega)
   rwa [gd_apq] at this
  refine WP.cv ((Cv.p (C := bagS 91 rectT (mks out) :: bagS 91 rectT psv22 :: osl 118 violT q out :: osl 50 slT v22 psv22 :: blk b3 39 (deckT.enc d) :: L)).trans Cv.bagJoin) ?_
  refine WP.loop3 [0, 6, 12, 13, 14, 22, 23] (fun (m : Nat) (out2 : List Viol) (q2 : Value) => m ≤ psv22.length ∧ out2.length = out.length + m ∧ mks out2 ++ psv22.drop m = mks out ++ psv22 ∧ erVs out2 = erVs out ++ ((er psv22).take m).map (fun p => ((i : Int), p))) (fun (m : Nat) (out2 : List Viol) (q2 : Value) => [(24, vi m), (5, q2)]) (fun (m : Nat) (out2 : List Viol) (q2 : Value) => bagS 91 rectT (mks out ++ psv22) :: osl 118 violT q2 out2 :: osl 50 slT v22 psv22 :: blk b3 39 (deckT.enc d) :: L) (fun (m : Nat) (out2 : List Viol) (q2 : Value) => psv22.length - m) 0 out q ⟨by omega, by omega, rfl, by simp⟩ ⟨rfl, rfl, trivial⟩ Cv.p ?_
  rintro m out2 q2 τ1 ⟨hm, hol2, heq, hev2⟩
  refine WP.sr (RG.p (PV.lss rfl rfl rfl) (RG.nil (WP.seq ?_)))
  refine WP.cond rfl (fun h4 => ?_) (fun h4 => ?_)
  ·have h4 := of_decide_eq_true h4
   have h40 : m < psv22.length := by omega
   have hpm := hps m h40
   have heq' : mks (out2 ++ [⟨(i : Int), gd psv22 m⟩]) ++ psv22.drop (m + 1) = mks out ++ psv22 := by
    rw [mks_app, List.append_assoc, ← heq, List.drop_eq_getElem_cons h40, gd_eq h40]; rfl
   have hev3 : erVs (out2 ++ [⟨(i : Int), gd psv22 m⟩]) = erVs out ++ ((er psv22).take (m + 1)).map (fun p => ((i : Int), p)) := by
    rw [erVs_app, hev2, List.take_add_one, getG (by rw [er_len]; exact h40), er_gd, List.append_assoc, List.map_append]; rfl
   refine WP.skip (WP.seq (WP.block (WP.sr (RG.p (PV.idxS (v := v22) rfl Is71 rfl SlF.o rfl rfl (by omega)) (RG.p (PV.loadE1 rfl Sc50 rfl rfl (El.o (getG (by omega))) rfl) (RG.p (PV.asg rfl rfl) (RG.nil (WP.region (RG.p (PV.move (v := q2) rfl rfl) (RG.ml rfl (RG.p (PV.move rfl rfl) (RG.p (PV.build (vs := [(0, [vi _]), (1, [_])]) (out := [_, _]) rfl Zr118 Pl118 ⟨rfl, (Cl.c rfl), ⟨rfl, (Cl.s (SlF.r hpm)), trivial⟩⟩ rfl) ?_))))))))))))
   refine RG.ot rfl (OT.bslice (F := violT) (els := [⟨(i : Int), gd psv22 m⟩]) rfl El61 rfl (by decide) rfl (by decide) ⟨rfl, (Cl.c rfl), trivial⟩ fun v32 => ?_)
   refine RG.ot rfl (OT.append (v := q2) (u := v32) (F := violT) rfl El61 rfl (by decide) rfl rfl Rs.o (OneL.one (OneC.val rfl (OneC.sl (SlF.r hpm) OneC.nil))) rfl (by first | omega | (simp <;> omega)) fun v33 => ?_)
   refine RG.p (PV.asg (v := v33) rfl rfl) (RG.nil (WP.region (RG.p (PV.add rfl rfl rfl (by omega)) (RG.ml rfl (RG.nil ?_)))))
   exact ⟨rfl, m + 1, (out2 ++ [⟨(i : Int), gd psv22 m⟩]), v33, ⟨by omega, by simp; omega, heq', hev3⟩, ⟨rfl, rfl, trivial⟩, ⟨rfl, rfl, rfl, rfl, rfl, rfl, rfl, trivial⟩, Cv.p, by omega⟩
  ·have h4 := of_decide_eq_false h4
   obtain rfl : m = psv22.length := by omega
   rw [List.drop_length, List.append_nil] at heq
   rw [List.take_of_length_le (by rw [er_len]; omega), hpv22, hev, ← hrm, ← chkTo_succ] at hev2
   refine WP.exit ?_
   refine WP.region (RG.p (PV.add rfl rfl rfl (by omega)) (RG.ml rfl (RG.nil ?_)))
   exact ⟨rfl, i + 1, out2, q2, ⟨by omega, by omega, hev2⟩, ⟨rfl, rfl, trivial⟩, ⟨rfl, rfl, rfl, trivial⟩, (by simp only [heq]; exact Cv.p), by omega⟩
 ·have h3 := of_decide_eq_false h3
  obtain rfl : i = d.rules.xs.length := by omega
  refine WP.exit ?_
  refine WP.sr (RG.p (PV.move (v := q) rfl rfl) (RG.p (PV.asg (v := q) rfl rfl) (RG.nil ?_)))
  exact WP.ret ⟨_, _, ResV.one rfl rfl, Cv.p, k q out hev⟩
theorem chkLay_i {v : Value} {ys : List (Sl Rect)} {d : Deck} (h1 : Rs G L slT v ys) (hd : RsE G L rectT ys) (h2 : Rs G L ruleT d.rules.v d.rules.xs) (k : ∀ v' zs, erVs zs = chkR (er ys) d.rules.xs → R (.tuple #[v', vi (chkE (er ys) d.rules.xs)]) G (osl 118 violT v' zs :: bagS 91 rectT (mks zs) :: L)) : CallT Tryz.prog 44 #[v, vT deckT d] G L R := by
 refine CallT.enter (args := _) Tryz.func44 rfl rfl (by kernel_rfl) rfl ?_
 refine WP.sr ?_
 refine RG.ot rfl (OT.box (cs := deckT.enc d) rfl rfl rfl fun b3 => ?_)
 refine RG.p (PV.asg rfl rfl) (RG.mr rfl (RG.nil (WP.seq (WP.sr (RG.p (PV.move (v := v) rfl rfl) ?_)))))
 refine RG.callF (vs := [v]) rfl rfl En81 rfl (isLayout_s (Rs.up h1) hd.up ?_)
 refine RG.p (PV.not rfl rfl) (RG.bl rfl ?_)
 refine RG.g rfl (fun hp => (PV.loadW rfl Ag39 rfl rfl)) ?_
 refine RG.gsC rfl rfl rfl rfl En42 (fun hp => ⟨_, (acons (gs_t hp) anil), deck_i (Rs.up h2) ⟨rfl, rfl, rfl⟩⟩) ?_
 refine RG.g rfl (fun hp => (PV.not rfl (gs_t hp))) ?_
 refine RG.p (PV.pickO rfl rfl rfl (fun hq => gs_t (geqF hq))) (RG.nil ?_)
 refine WP.cond rfl (fun h3 => ?_) (fun h3 => ?_)
 ·obtain ⟨e1, e2⟩ := chkE_no h3
  rw [e1, e2] at k
  refine WP.sr (RG.p (PV.asg rfl rfl) (RG.mr rfl (RG.nil ?_)))
  exact WP.ret ⟨_, _, ResV.two rfl rfl rfl, Cv.nilV, k (.slice none 0 0) [] rfl⟩
 ·have h4 : isLay (er ys) = true ∧ deckOk d.rules.xs = true := by cases c : isLay (er ys) <;> cases d : deckOk d.rules.xs <;> simp_all
  have hdl := deck_len h4.2
  refine WP.skip (WP.sr (RG.p (PV.move (v := v) rfl rfl) (RG.p (PV.loadW rfl Ag39 rfl rfl) ?_)))
  refine RG.callF (vs := [v, _]) rfl rfl En82 rfl ( checked_i (Rs.up h1) hd.up (Rs.up h2) h4.1 h4.2 (fun v17 zsv17 hzv17 => ?_))
  refine RG.p (PV.asg (v := v17) rfl rfl) (RG.nil (WP.seq (WP.sr (RG.p (PV.move (v := v17) rfl rfl) (RG.p (PV.len (v := v17) rfl Tryz.underlying61 rfl SlF.o) (RG.p (PV.gtr rfl rfl rfl) (RG.nil ?_)))))))
  have hzl : zsv17.length = (chkL (er ys) d.rules.xs).length := by rw [← erVs_len, hzv17]
  refine WP.cond rfl (fun h5 => ?_) (fun h5 => ?_)
  ·have h6 : ¬ (chkL (er ys) d.rules.xs).length ≤ 256 := by have := of_decide_eq_true h5; omega
   obtain ⟨e1, e2⟩ := chkE_big h4 h6
   rw [e1, e2] at k
   refine WP.sr (RG.p (PV.asg rfl rfl) (RG.mr rfl (RG.nil ?_)))
   exact WP.ret ⟨_, _, ResV.two rfl rfl rfl, Cv.nilV, k (.slice none 0 0) [] rfl⟩
  ·have h6 : (chkL (er ys) d.rules.xs).length ≤ 256 := by have := of_decide_eq_false h5; omega
   obtain ⟨e1, e2⟩ := chkE_ok h4 h6
   rw [e1, e2] at k
   refine WP.skip (WP.sr (RG.p (PV.move (v := v17) rfl rfl) (RG.p (PV.asg (v := v17) rfl rfl) (RG.mr rfl (RG.nil ?_)))))
   exact WP.ret ⟨_, _, ResV.two rfl rfl rfl, Cv.p, k v17 zsv17 hzv17⟩
noncomputable def hcE (cs : List ECell) (cell : Int) (rs : List Rule) : Int := if shE cs cell = 0 then chkE (flyL cs cell) rs else shE cs cell
noncomputable def hcR (cs : List ECell) (cell : Int) (rs : List Rule) : List (Int × List Rect) := if shE cs cell = 0 then chkR (flyL cs cell) rs else []
def cntS (cs : List ECell) (cell : Int) (rs : List Rule) : Int := costL (fun r => (cntF2 cs cell r : Int)) rs
noncomputable def hcN (cs : List ECell) (cell : Int) (rs : List Rule) : Int := if hcE cs cell rs = 0 then cntS cs cell rs else 0
theorem cntF2_bd (cs : List ECell) (cell : Int) (q : Rule) : cntF2 cs cell q ≤ 128 := by
 unfold cntF2; split
 ·exact cfR_len _ _ _
 ·exact Nat.zero_le _
theorem cntS_bd (cs : List ECell) (cell : Int) : ∀ rs : List Rule, 0 ≤ cntS cs cell rs ∧ cntS cs cell rs ≤ 128 * rs.length
 | [] => by simp [cntS, costL]
 | r :: rs => by
  have h1 := cntS_bd cs cell rs
  have h2 := cntF2_bd cs cell r
  simp only [cntS, costL, List.length_cons] at h1 ⊢; omega
theorem cntS_take {cs : List ECell} {cell : Int} {rs : List Rule} {i : Nat} (h : i < rs.length) : cntS cs cell (rs.take (i + 1)) = cntS cs cell (rs.take i) + cntF2 cs cell (gd rs i) := costL_take _ h
theorem hc_no {cs : List ECell} {cell : Int} {rs : List Rule} (h : shE cs cell ≠ 0) : hcE cs cell rs = shE cs cell ∧ hcR cs cell rs = [] ∧ hcN cs cell rs = 0 := by
 have e : hcE cs cell rs = shE cs cell := by rw [hcE, if_neg h]
 exact ⟨e, by rw [hcR, if_neg h], by rw [hcN, if_neg (by rw [e]; exact h)]⟩
theorem hc_bad {cs : List ECell} {cell : Int} {rs : List Rule} (h : shE cs cell = 0) (h2 : chkE (flyL cs cell) rs ≠ 0) : hcE cs cell rs = chkE (flyL cs cell) rs ∧ hcR cs cell rs = [] ∧ hcN cs cell rs = 0 := by
 have e : hcE cs cell rs = chkE (flyL cs cell) rs := by rw [hcE, if_pos h]
 exact ⟨e, by rw [hcR, if_pos h, chkR, if_neg h2], by rw [hcN, if_neg (by rw [e]; exact h2)]⟩
theorem hc_ok {cs : List ECell} {cell : Int} {rs : List Rule} (h : shE cs cell = 0) (h2 : chkE (flyL cs cell) rs = 0) : hcE cs cell rs = 0 ∧ hcR cs cell rs = chkR (flyL cs cell) rs ∧ hcN cs cell rs = cntS cs cell rs := by
 have e : hcE cs cell rs = 0 := by rw [hcE, if_pos h, h2]
 exact ⟨e, by rw [hcR, if_pos h], by rw [hcN, if_pos e]⟩
theorem chkE_deck {l : List (List Rect)} {rs : List Rule} (h : chkE l rs = 0) : deckOk rs = true ∧ (chkL l rs).length ≤ 256 := by
 unfold chkE at h
 by_cases c : (isLay l && deckOk rs) = true
 ·rw [if_pos c] at h
  by_cases d : (chkL l rs).length ≤ 256
  ·exact ⟨by simp only [Bool.and_eq_true] at c; exact c.2, d⟩
  ·rw [if_neg d] at h; cases h
 ·rw [if_neg c] at h; cases h
theorem hcR_len (cs : List ECell) (cell : Int) (rs : List Rule) : (hcR cs cell rs).length ≤ 256 := by
 unfold hcR; split
 ·unfold chkR; split
  ·rename_i h; exact (chkE_deck h).2
  ·exact Nat.zero_le _
 ·exact Nat.zero_le _
theorem hc_i {l : Lib} {cell : Int} {d : Deck} (hL : RLib G L l.cells.v l.cells.xs) (hlen : lenC (erCls l.cells.xs)) (h2 : Rs G L ruleT d.rules.v d.rules.xs) (k : ∀ v' zs, erVs zs = hcR (erCls l.cells.xs) cell d.rules.xs → R (.tuple #[v', vi (hcN (erCls l.cells.xs) cell d.rules.xs), vi (hcE (erCls l.cells.xs) cell d.rules.xs)]) G (osl 118 violT v' zs :: bagS 91 rectT (mks zs) :: L)) : CallT Tryz.prog 29 #[vT libT l, vi cell, vT deckT d] G L R := by
 refine CallT.enter (args := _) Tryz.func29 rfl rfl (by kernel_rfl) rfl ?_
 refine WP.sr ?_
 refine RG.ot rfl (OT.box (cs := libT.enc l) rfl rfl rfl fun b3 => ?_)
 refine RG.ot rfl (OT.box (cs := deckT.enc d) rfl rfl rfl fun b5 => ?_)
 refine RG.p (PV.asg rfl rfl) (RG.mr rfl (RG.mr rfl (RG.nil (WP.sr (RG.p (PV.loadW rfl Ag35 rfl rfl) (RG.ml rfl ?_))))))
 refine RG.callF (vs := [_, _]) rfl rfl En43 rfl (fly_i hL.up hlen (fun w21 ys hy => ?_))
 refine RG.p (PV.move (v := .tuple _) rfl rfl) (RG.p (PV.ext (v := w21) rfl rfl rfl) (RG.p (PV.ext rfl rfl rfl) (RG.p (PV.asg (v := w21) rfl rfl) (RG.mr rfl (RG.nil (WP.seq (WP.sr (RG.ml rfl (RG.p (PV.neq rfl rfl rfl) (RG.nil ?_))))))))))
 refine WP.cond rfl (fun h3 => ?_) (fun h3 => ?_)
 ·have h3 : shE (erCls l.cells.xs) cell ≠ 0 := by simpa using h3
  obtain ⟨e1, e2, e3⟩ := hc_no (rs := d.rules.xs) h3
  rw [e1, e2, e3] at k
  refine WP.sr (RG.ml rfl (RG.p (PV.asg rfl rfl) (RG.mr rfl (RG.mr rfl (RG.nil ?_)))))
  exact WP.ret ⟨_, _, ResV.three rfl rfl rfl rfl, Cv.nilV, k (.slice none 0 0) [] rfl⟩
 ·have h3 : shE (erCls l.cells.xs) cell = 0 := by simpa using h3
  refine WP.skip (WP.sr (RG.p (PV.move (v := w21) rfl rfl) (RG.p (PV.loadW rfl Ag39 rfl rfl) ?_)))
  refine RG.callF (vs := [w21, _]) rfl rfl En44 rfl (chkLay_i Rs.o RsE.o (Rs.up h2) (fun w30 zsw30 hzw30 => ?_))
  refine RG.p (PV.move (v := .tuple _) rfl rfl) (RG.p (PV.ext (v := w30) rfl rfl rfl) (RG.p (PV.ext rfl rfl rfl) (RG.p (PV.asg (v := w30) rfl rfl) (RG.mr rfl (RG.nil (WP.seq (WP.sr (RG.ml rfl (RG.p (PV.neq rfl rfl rfl) (RG.nil ?_))))))))))
  rw [hy]
  refine WP.cond rfl (fun h4 => ?_) (fun h4 => ?_)
  ·have h4 : chkE (flyL (erCls l.cells.xs) cell) d.rules.xs ≠ 0 := by simpa using h4
   obtain ⟨e1, e2, e3⟩ := hc_bad h3 h4
   rw [e1, e2, e3] at k
   refine WP.sr (RG.ml rfl (RG.p (PV.asg rfl rfl) (RG.mr rfl (RG.mr rfl (RG.nil ?_)))))
   exact WP.ret ⟨_, _, ResV.three rfl rfl rfl rfl, Cv.nilV, k (.slice none 0 0) [] rfl⟩
  ·have h4 : chkE (flyL (erCls l.cells.xs) cell) d.rules.xs = 0 := by simpa using h4
   obtain ⟨e1, e2, e3⟩ := hc_ok h3 h4
   have hdk := (chkE_deck h4).1
   have hdl := deck_len hdk
   rw [e1, e2, e3] at k
   rw [hy] at hzw30
   refine WP.skip (WP.sr (RG.mr rfl (RG.nil (WP.seq (WP.sr (RG.p (PV.field rfl Fo39_0 rfl) (RG.p (PV.load1 rfl Sc37 rfl (Rd.blk rfl)) (RG.p (PV.len rfl Tryz.underlying37 rfl (SlF.r h2)) (RG.ml rfl (RG.nil (WP.block ?_)))))))))))
   refine WP.loop2 [1, 3, 11, 37, 38] (fun (i : Nat) (s : Int) => i ≤ d.rules.xs.length ∧ s = cntS (erCls l.cells.xs) cell (d.rules.xs.take i)) (fun (i : Nat) (s : Int) => [(39, vi i), (12, vi s)]) (fun (i : Nat) (s : Int) => osl 118 violT w30 zsw30 :: bagS 91 rectT (mks zsw30) :: blk b3 35 (libT.enc l) :: blk b5 39 (deckT.enc d) :: L) (fun (i : Nat) (s : Int) => d.rules.xs.length - i) 0 0 ⟨by omega, by simp [cntS, costL]⟩ ⟨rfl, rfl, trivial⟩ Cv.p ?_
   rintro i s τ ⟨hi, hs⟩
   refine WP.sr (RG.p (PV.lss rfl rfl rfl) (RG.nil (WP.seq ?_)))
   have hsb := cntS_bd (erCls l.cells.xs) cell (d.rules.xs.take i)
   rw [List.length_take, ← hs] at hsb
   refine WP.cond rfl (fun h5 => ?_) (fun h5 => ?_)
   ·have h5 := of_decide_eq_true h5
    have hst := cntS_take (cs := erCls l.cells.xs) (cell := cell) (rs := d.rules.xs) (i := i) (by omega)
    have hfb := cntF2_bd (erCls l.cells.xs) cell (gd d.rules.xs i)
    refine WP.skip (WP.seq (WP.block (WP.sr (RG.p (PV.idxS rfl Is37 rfl (SlF.r h2) rfl rfl (by omega)) (RG.p (PV.loadE rfl Ag53 rfl rfl (El.r h2 (getG (by omega)))) ?_)))))
    refine RG.ot rfl (OT.alloc rfl Zr53 fun b14 => ?_)
    refine RG.ot rfl (OT.storeW (vs := [vi _, vi _, vi _, vi _, vi _]) rfl Sz53 rfl rfl (Cl.c rfl) rfl rfl (OneC.c rfl) ?_)
    refine RG.nil (WP.sr (RG.p (PV.loadW rfl Ag53 rfl rfl) ?_))
    refine RG.callF (vs := [_]) rfl rfl En53 rfl (reach_i ?_)
    refine RG.mr rfl (RG.nil (WP.sr (RG.ml rfl (RG.p (PV.geq rfl rfl rfl) (RG.nil ?_)))))
    refine WP.cond rfl (fun h6 => ?_) (fun h6 => ?_)
    ·have h6 := of_decide_eq_true h6
     have e4 : cntF2 (erCls l.cells.xs) cell (gd d.rules.xs i) = (cfR (erCls l.cells.xs) cell (reach (gd d.rules.xs i))).length := by rw [cntF2, if_pos h6]
     rw [e4] at hst hfb
     refine WP.sr (RG.p (PV.loadW rfl Ag35 rfl rfl) (RG.ml rfl (RG.ml rfl ?_)))
     refine RG.callF (vs := [_, _, _]) rfl rfl En54 rfl (allFree_i hL.up hlen (fun w51 => ?_))
     refine RG.p (PV.move (v := .tuple _) rfl rfl) (RG.p (PV.ext (v := w51) rfl rfl rfl) (RG.p (PV.ext rfl rfl rfl) (RG.p (PV.asg (v := w51) rfl rfl) (RG.mr rfl (RG.nil (WP.region (RG.ml rfl (RG.p (PV.move (v := w51) rfl rfl) (RG.p (PV.len (v := w51) rfl Tryz.underlying30 rfl SlF.o) (RG.p (PV.add rfl rfl rfl (by omega)) (RG.mr rfl (RG.nil (WP.region ?_)))))))))))))
     refine RG.p (PV.add rfl rfl rfl (by omega)) (RG.ml rfl (RG.nil ?_))
     exact ⟨rfl, i + 1, _, ⟨by omega, by rw [hst, hs]⟩, ⟨rfl, rfl, trivial⟩, ⟨rfl, rfl, rfl, rfl, rfl, trivial⟩, Cv.p, by omega⟩
    ·have h6 := of_decide_eq_false h6
     have e4 : cntF2 (erCls l.cells.xs) cell (gd d.rules.xs i) = 0 := by rw [cntF2, if_neg h6]
     rw [e4] at hst
     refine WP.skip (WP.region (RG.p (PV.add rfl rfl rfl (by omega)) (RG.ml rfl (RG.nil ?_))))
     exact ⟨rfl, i + 1, s, ⟨by omega, by rw [hst, hs]; simp⟩, ⟨rfl, rfl, trivial⟩, ⟨rfl, rfl, rfl, rfl, rfl, trivial⟩, Cv.p, by omega⟩
   ·have h5 := of_decide_eq_false h5
    rw [List.take_of_length_le (by omega)] at hs
    rw [← hs] at k
    refine WP.exit ?_
    refine WP.sr (RG.p (PV.move (v := w30) rfl rfl) (RG.ml rfl (RG.p (PV.asg (v := w30) rfl rfl) (RG.mr rfl (RG.mr rfl (RG.nil ?_))))))
    exact WP.ret ⟨_, _, ResV.three rfl rfl rfl rfl, Cv.p, k w30 zsw30 hzw30⟩
theorem hc_r {l : Lib} {cell : Int} {d : Deck} (hL : RLib G L l.cells.v l.cells.xs) (hlen : lenC (erCls l.cells.xs)) (h2 : Rs G L ruleT d.rules.v d.rules.xs) (k : ∀ v' zs, erVs zs = hcR (erCls l.cells.xs) cell d.rules.xs → R (.tuple #[v', vi (hcN (erCls l.cells.xs) cell d.rules.xs), vi (hcE (erCls l.cells.xs) cell d.rules.xs)]) G (osl 118 violT v' zs :: bagS 91 rectT (mks zs) :: L)) : CallT Tryz.prog 28 #[vT libT l, vi cell, vT deckT d] G L R := by
 refine CallT.enter (args := _) Tryz.func28 rfl rfl (by kernel_rfl) rfl ?_
 refine WP.sr ?_
 refine RG.ot rfl (OT.box (cs := libT.enc l) rfl rfl rfl fun b3 => ?_)
 refine RG.ot rfl (OT.box (cs := deckT.enc d) rfl rfl rfl fun b5 => ?_)
 refine RG.p (PV.asg rfl rfl) (RG.mr rfl (RG.mr rfl (RG.nil (WP.sr (RG.p (PV.loadW rfl Ag35 rfl rfl) (RG.ml rfl ?_))))))
 refine RG.callF (vs := [_, _]) rfl rfl En37 rfl (fly_r hL.up hlen (fun w18 ys hy => ?_))
 refine RG.p (PV.move (v := .tuple _) rfl rfl) (RG.p (PV.ext (v := w18) rfl rfl rfl) (RG.p (PV.ext rfl rfl rfl) (RG.p (PV.asg (v := w18) rfl rfl) (RG.mr rfl (RG.nil (WP.seq (WP.sr (RG.ml rfl (RG.p (PV.neq rfl rfl rfl) (RG.nil ?_))))))))))
 refine WP.cond rfl (fun h3 => ?_) (fun h3 => ?_)
 ·have h3 : shE (erCls l.cells.xs) cell ≠ 0 := by simpa using h3
  obtain ⟨e1, e2, e3⟩ := hc_no (rs := d.rules.xs) h3
  rw [e1, e2, e3] at k
  refine WP.sr (RG.ml rfl (RG.p (PV.asg rfl rfl) (RG.mr rfl (RG.mr rfl (RG.nil ?_)))))
  exact WP.ret ⟨_, _, ResV.three rfl rfl rfl rfl, Cv.nilV, k (.slice none 0 0) [] rfl⟩
 ·have h3 : shE (erCls l.cells.xs) cell = 0 := by simpa using h3
  refine WP.skip (WP.sr (RG.p (PV.move (v := w18) rfl rfl) (RG.p (PV.loadW rfl Ag39 rfl rfl) ?_)))
  refine RG.callF (vs := [w18, _]) rfl rfl En67 rfl (chkLay_r Rs.o RsE.o (Rs.up h2) (fun w27 zsw27 hzw27 => ?_))
  refine RG.p (PV.move (v := .tuple _) rfl rfl) (RG.p (PV.ext (v := w27) rfl rfl rfl) (RG.p (PV.ext rfl rfl rfl) (RG.p (PV.asg (v := w27) rfl rfl) (RG.mr rfl (RG.nil (WP.seq (WP.sr (RG.ml rfl (RG.p (PV.neq rfl rfl rfl) (RG.nil ?_))))))))))
  rw [hy]
  refine WP.cond rfl (fun h4 => ?_) (fun h4 => ?_)
  ·have h4 : chkE (flyL (erCls l.cells.xs) cell) d.rules.xs ≠ 0 := by simpa using h4
   obtain ⟨e1, e2, e3⟩ := hc_bad h3 h4
   rw [e1, e2, e3] at k
   refine WP.sr (RG.ml rfl (RG.p (PV.asg rfl rfl) (RG.mr rfl (RG.mr rfl (RG.nil ?_)))))
   exact WP.ret ⟨_, _, ResV.three rfl rfl rfl rfl, Cv.nilV, k (.slice none 0 0) [] rfl⟩
  ·have h4 : chkE (flyL (erCls l.cells.xs) cell) d.rules.xs = 0 := by simpa using h4
   obtain ⟨e1, e2, e3⟩ := hc_ok h3 h4
   have hdk := (chkE_deck h4).1
   have hdl := deck_len hdk
   rw [e1, e2, e3] at k
   rw [hy] at hzw27
   refine WP.skip (WP.sr (RG.mr rfl (RG.nil (WP.seq (WP.sr (RG.mr rfl (RG.nil (WP.block ?_))))))))
   refine WP.loop2 [1, 3, 5, 11] (fun (i : Nat) (s : Int) => i ≤ d.rules.xs.length ∧ s = cntS (erCls l.cells.xs) cell (d.rules.xs.take i)) (fun (i : Nat) (s : Int) => [(14, vi i), (13, vi s)]) (fun (i : Nat) (s : Int) => osl 118 violT w27 zsw27 :: bagS 91 rectT (mks zsw27) :: blk b3 35 (libT.enc l) :: blk b5 39 (deckT.enc d) :: L) (fun (i : Nat) (s : Int) => d.rules.xs.length - i) 0 0 ⟨by omega, by simp [cntS, costL]⟩ ⟨rfl, rfl, trivial⟩ Cv.p ?_
   rintro i s τ ⟨hi, hs⟩
   refine WP.seq (WP.sr (RG.ml rfl (RG.p (PV.field rfl Fo39_0 rfl) (RG.p (PV.load1 rfl Sc37 rfl (Rd.blk rfl)) (RG.p (PV.len rfl Tryz.underlying37 rfl (SlF.r h2)) (RG.p (PV.lss rfl rfl rfl) (RG.nil ?_)))))))
   have hsb := cntS_bd (erCls l.cells.xs) cell (d.rules.xs.take i)
   rw [List.length_take, ← hs] at hsb
   refine WP.cond rfl (fun h5 => ?_) (fun h5 => ?_)
   ·have h5 := of_decide_eq_true h5
    have hst := cntS_take (cs := erCls l.cells.xs) (cell := cell) (rs := d.rules.xs) (i := i) (by omega)
    have hfb := cntF2_bd (erCls l.cells.xs) cell (gd d.rules.xs i)
    refine WP.skip (WP.seq (WP.block ?_))
    refine WP.regionQ (by kernel_rfl) (by kernel_rfl) ?_
    refine RQ.pv rfl (PV.mvI (.inl rfl) rfl) (RQ.pv rfl (PV.loadW rfl Ag35 rfl rfl) (RQ.pv rfl (PV.mvI (.inl rfl) rfl) (RQ.pv rfl (PV.field rfl Fo39_0 rfl) (RQ.pv rfl (PV.load1 rfl Sc37 rfl (Rd.blk rfl)) (RQ.pv rfl (PV.mvI (.inl rfl) rfl) (RQ.pv rfl (PV.idxS rfl Is37 rfl (SlF.r h2) rfl rfl (by omega)) (RQ.pv rfl (PV.loadE rfl Ag53 rfl rfl (El.r h2 (getG (by omega)))) ?_)))))))
    refine RQ.callF (vs := [_, _, _]) rfl rfl En51 rfl (l21Count_s hL.up hlen h3 ⟨rfl, rfl, rfl⟩) ?_
    refine RQ.pv rfl (PV.add rfl rfl rfl (by omega)) (RQ.pv rfl (PV.mvI (.inr rfl) rfl) ?_)
    refine RQ.nil ?_
    refine WP.region (RG.ml rfl (RG.p (PV.add rfl rfl rfl (by omega)) (RG.mr rfl (RG.nil ?_))))
    exact ⟨rfl, i + 1, _, ⟨by omega, by rw [hst, hs]⟩, ⟨rfl, rfl, trivial⟩, ⟨rfl, rfl, rfl, rfl, trivial⟩, Cv.p, by omega⟩
   ·have h5 := of_decide_eq_false h5
    rw [List.take_of_length_le (by omega)] at hs
    rw [← hs] at k
    refine WP.exit ?_
    refine WP.sr (RG.p (PV.move (v := w27) rfl rfl) (RG.ml rfl (RG.p (PV.asg (v := w27) rfl rfl) (RG.mr rfl (RG.mr rfl (RG.nil ?_))))))
    exact WP.ret ⟨_, _, ResV.three rfl rfl rfl rfl, Cv.p, k w27 zsw27 hzw27⟩
end Go.Proofs.YtgphjofccckloaaGreat
namespace Go.Proofs.YtgphjofccckloaaGreat
open Go
set_option maxRecDepth 20000
set_option maxHeartbeats 2000000
variable {G : Gh} {L : List Ch} {R : Value → Gh → List Ch → Prop}
theorem szCellSB_s {v : Value} {xs : List Cell} {n : Int} (hL : RLib G L v xs) (hlen : lenC (erCls xs)) (hn : n ≤ 1048576) (h0 : 0 ≤ n) (k : ∀ r : Int, r ≤ 1048576 → (0 ≤ r → few (erCls xs)) → R (vi r) G L) : CallT Tryz.prog 33 #[v, vi n] G L R := by
 refine CallT.bd hL.c fun hb => ?_
 refine CallT.enter (args := _) Tryz.func33 rfl rfl (by kernel_rfl) rfl ?_
 refine WP.sr (RG.mr rfl (RG.nil (WP.sr (RG.ml rfl (RG.p (PV.move (v := v) rfl rfl) (RG.p (PV.len (v := v) rfl Tryz.underlying22 rfl (SlF.r hL.c)) (RG.p (PV.sub rfl rfl rfl (by omega)) (RG.mr rfl (RG.nil (WP.seq (WP.seq ?_)))))))))))
 refine WP.region (RG.ml rfl (RG.p (PV.lss rfl rfl rfl) (RG.nil ?_)))
 refine WP.cond rfl (fun h2 => ?_) (fun h2 => ?_)
 ·have h2 := of_decide_eq_true h2
  refine WP.sr (RG.mr rfl (RG.nil ?_))
  exact WP.ret ⟨_, _, ResV.one rfl rfl, Cv.p, k _ (by omega) (fun h => by omega)⟩
 ·have h2 := of_decide_eq_false h2
  refine WP.skip (WP.seq (WP.sr (RG.mr rfl (RG.nil (WP.block ?_)))))
  refine WP.loop2 [0] (fun (i : Nat) (m : Int) => i ≤ xs.length ∧ 0 ≤ m ∧ m ≤ 1048576 ∧ ∀ j, j < i → (gd xs j).shapes.xs.length ≤ 1048576 ∧ (gd xs j).labels.xs.length ≤ 1048576 ∧ (gd xs j).insts.xs.length ≤ 1048576) (fun (i : Nat) (m : Int) => [(5, vi i), (1, vi m)]) (fun (i : Nat) (m : Int) => L) (fun (i : Nat) (m : Int) => xs.length - i) 0 (n - xs.length) ⟨by omega, by omega, by omega, fun j h => by omega⟩ ⟨rfl, rfl, trivial⟩ Cv.p ?_
  rintro i m τ ⟨hi, hm0, hm1, he⟩
  refine WP.seq (WP.sr (RG.ml rfl (RG.p (PV.move (v := v) rfl rfl) (RG.p (PV.len (v := v) rfl Tryz.underlying22 rfl (SlF.r hL.c)) (RG.p (PV.lss rfl rfl rfl) (RG.nil ?_))))))
  refine WP.cond rfl (fun h3 => ?_) (fun h3 => ?_)
  ·have h3 := of_decide_eq_true h3
   have h4 : i < xs.length := by omega
   refine WP.skip (WP.seq (WP.block (WP.sr (RG.p (PV.move (v := v) rfl rfl) (RG.ml rfl (RG.p (PV.idxS (v := v) rfl Is22 rfl (SlF.r hL.c) rfl rfl (by omega)) (RG.p (PV.loadE rfl Ag124 rfl rfl (El.r hL.c (getG (by omega)))) (RG.ml rfl ?_))))))))
   refine RG.callF (vs := [_, _]) rfl rfl En69 rfl (szCell_s (hL.sa (by omega)).up (hL.la (by omega)).up (hL.na (by omega)).up (hlen.one (by omega)).1 (hlen.one (by omega)).2 (by omega) (by omega) (fun r hr hr' => ?_))
   refine RG.mr rfl (RG.nil (WP.sr (RG.ml rfl (RG.p (PV.lss rfl rfl rfl) (RG.nil ?_)))))
   refine WP.cond rfl (fun h5 => ?_) (fun h5 => ?_)
   ·have h5 := of_decide_eq_true h5
    refine WP.sr (RG.mr rfl (RG.nil ?_))
    exact WP.ret ⟨_, _, ResV.one rfl rfl, Cv.p, k _ (by omega) (fun h => by omega)⟩
   ·have h5 := of_decide_eq_false h5
    have he' : ∀ j, j < i + 1 → (gd xs j).shapes.xs.length ≤ 1048576 ∧ (gd xs j).labels.xs.length ≤ 1048576 ∧ (gd xs j).insts.xs.length ≤ 1048576 := fun j hj => by
     by_cases c : j = i
     ·subst c
      have := hr' (by omega)
      exact ⟨by omega, by omega, by omega⟩
     ·exact he j (by omega)
    refine WP.skip (WP.region (RG.ml rfl (RG.p (PV.add rfl rfl rfl (by omega)) (RG.mr rfl (RG.nil ?_)))))
    exact ⟨rfl, i + 1, _, ⟨by omega, by omega, by omega, he'⟩, ⟨rfl, rfl, trivial⟩, ⟨rfl, trivial⟩, Cv.p, by omega⟩
  ·have h3 := of_decide_eq_false h3
   refine WP.exit ?_
   refine WP.sr (RG.ml rfl (RG.mr rfl (RG.nil ?_)))
   exact WP.ret ⟨_, _, ResV.one rfl rfl, Cv.p, k _ (by omega) (fun _ => ⟨by rw [erCls_len]; omega, fun j hj => by rw [erCls_len] at hj; rw [erCls_gd hj]; exact he j (by omega)⟩)⟩
theorem szLibB_s {l : Lib} {n : Int} (hL : RLib G L l.cells.v l.cells.xs) (hlen : lenC (erCls l.cells.xs)) (hn : n ≤ 1048576) (h0 : 0 ≤ n) (k : ∀ r : Int, r ≤ 1048576 → (0 ≤ r → few (erCls l.cells.xs)) → R (vi r) G L) : CallT Tryz.prog 7 #[vT libT l, vi n] G L R := by
 refine CallT.enter (args := _) Tryz.func7 rfl rfl (by kernel_rfl) rfl ?_
 refine WP.sr ?_
 refine RG.ot rfl (OT.box (cs := libT.enc l) rfl rfl rfl fun b2 => ?_)
 refine RG.mr rfl (RG.nil (WP.sr (RG.p (PV.field rfl Fo24_0 rfl) (RG.p (PV.load1 rfl Sc22 rfl (Rd.blk rfl)) (RG.ml rfl ?_)))))
 refine RG.callF (vs := [_, _]) rfl rfl En33 rfl (szCellSB_s hL.up hlen (by omega) (by omega) (fun r hrm hr => ?_))
 refine RG.mr rfl (RG.nil (WP.seq (WP.sr (RG.ml rfl (RG.p (PV.lss rfl rfl rfl) (RG.nil ?_))))))
 refine WP.cond rfl (fun h2 => ?_) (fun h2 => ?_)
 ·refine WP.seq ?_
  refine WP.region (RG.mr rfl (RG.nil ?_))
  exact WP.ret ⟨_, _, ResV.one rfl rfl, Cv.p, k _ (by omega) (fun h => by omega)⟩
 ·have h2 := of_decide_eq_false h2
  refine WP.skip (WP.sr (RG.ml rfl (RG.mr rfl (RG.nil ?_))))
  exact WP.ret ⟨_, _, ResV.one rfl rfl, Cv.p, k _ (by omega) (fun h => hr h)⟩
end Go.Proofs.YtgphjofccckloaaGreat
namespace Go.Proofs.YtgphjofccckloaaGreat
open Go
set_option maxRecDepth 20000
set_option maxHeartbeats 2000000
variable {G : Gh} {L : List Ch} {R : Value → Gh → List Ch → Prop}
theorem chkTo_reg {l : List (List Rect)} {rs : List Rule} {i : Nat} : ∀ p ∈ chkTo l rs i, p.2.length ≤ 3200 := fun p hp => by
 simp only [chkTo, List.mem_flatMap, List.mem_map, partsL] at hp
 obtain ⟨j, hj, q, ⟨c, hc, rfl⟩, rfl⟩ := hp
 exact canon_len c
theorem hcR_reg {cs : List ECell} {cell : Int} {rs : List Rule} : ∀ p ∈ hcR cs cell rs, p.2.length ≤ 3200 := fun p hp => by
 unfold hcR at hp
 by_cases c : shE cs cell = 0
 ·rw [if_pos c, chkR] at hp
  by_cases d : chkE (flyL cs cell) rs = 0
  ·rw [if_pos d] at hp; exact chkTo_reg p hp
  ·rw [if_neg d] at hp; cases hp
 ·rw [if_neg c] at hp; cases hp
theorem hcR_cost (cs : List ECell) (cell : Int) (rs : List Rule) : 0 ≤ costL nVe (hcR cs cell rs) ∧ costL nVe (hcR cs cell rs) ≤ 3277056 := by
 have h1 := costL_bd (n := nVe) (B := 12801) (xs := hcR cs cell rs) fun p hp => by
  have := hcR_reg p hp
  simp only [nVe]; omega
 have h2 := hcR_len cs cell rs
 exact ⟨costL_nonneg (fun p => by simp only [nVe]; omega) _, by omega⟩
theorem law_HierarchicalCheck {l : Lib} {cell : Int} {d : Deck} (hA : RLib G L l.cells.v l.cells.xs) (hlen : lenC (erCls l.cells.xs)) (h1 : Rs G L ruleT d.rules.v d.rules.xs) (k : R (.bool true) G L) : CallT Tryz.prog 6 #[vT libT l, vi cell, vT deckT d] G L R := by
 refine CallT.enter (args := _) Tryz.func6 rfl rfl (by kernel_rfl) rfl ?_
 refine WP.sr ?_
 refine RG.ot rfl (OT.box (cs := libT.enc l) rfl rfl rfl fun b3 => ?_)
 refine RG.ot rfl (OT.box (cs := deckT.enc d) rfl rfl rfl fun b5 => ?_)
 refine RG.br rfl (RG.nil (WP.sr (RG.mr rfl (RG.nil (WP.sr (RG.p (PV.loadW rfl Ag24 rfl rfl) (RG.ml rfl ?_)))))))
 refine RG.callF (vs := [_, _]) rfl rfl En7 rfl (szLibB_s hA.up hlen (by omega) (by omega) (fun r hrm hr => ?_))
 refine RG.mr rfl (RG.nil (WP.seq (WP.sr (RG.ml rfl (RG.p (PV.lss rfl rfl rfl) (RG.nil ?_))))))
 refine WP.cond rfl (fun c1 => ?_) (fun c1 => ?_)
 ·refine WP.seq ?_
  refine WP.region (RG.br rfl (RG.nil ?_))
  exact WP.ret ⟨_, _, ResV.one rfl rfl, Cv.p, k⟩
 ·have c1 := of_decide_eq_false c1
  have hf := hr (by omega)
  refine WP.skip (WP.sr (RG.p (PV.loadW rfl Ag27 rfl rfl) (RG.ml rfl ?_)))
  refine RG.callF (vs := [_, _]) rfl rfl En8 rfl (szDeck_s (Rs.up h1) (by omega) (by omega) (fun r2 hr2 hr2' => ?_))
  refine RG.mr rfl (RG.nil (WP.seq (WP.sr (RG.ml rfl (RG.p (PV.lss rfl rfl rfl) (RG.nil ?_))))))
  refine WP.cond rfl (fun c2 => ?_) (fun c2 => ?_)
  ·refine WP.seq ?_
   refine WP.region (RG.br rfl (RG.nil ?_))
   exact WP.ret ⟨_, _, ResV.one rfl rfl, Cv.p, k⟩
  ·have c2 := of_decide_eq_false c2
   have hr1 := hr2' (by omega)
   have hb1 : d.rules.xs.length ≤ 1048576 := by omega
   have hm3 : costL nRu d.rules.xs = 5 * d.rules.xs.length := nRu_cost _
   have hcr := hcR_cost (erCls l.cells.xs) cell d.rules.xs
   refine WP.skip (WP.seq ?_)
   refine WP.regionH0 (.q 0 (.q 2 (.q 3 (.l 1 (.l 4 (.l 5 (.q 6 (.q 7 (.q 8 (.q 9 (.q 10 (.q 11 (.q 12 Sch.nil))))))))))))) (by kernel_rfl) (by kernel_rfl) (by kernel_rfl) rfl ?_
   refine RH.w rfl rfl (PV.loadW rfl Ag24 rfl rfl) (RH.w rfl rfl (PV.mvI (.inl rfl) rfl) (RH.w rfl rfl (PV.loadW rfl Ag27 rfl rfl) ?_))
   refine RH.ot rfl rfl (OT.callF (vs := [_]) rfl En10 rfl (toLib_s hA.up hf (fun w34 ysw34 hew34 => ⟨Gh.le_refl _, PickC.pick, ?_⟩)))
   refine RH.ot rfl rfl (OT.callF (vs := [_]) rfl En11 rfl (toDeck_s (Rs.up h1) hb1 (fun w37 => ⟨Gh.le_refl _, PickC.pick, ?_⟩)))
   refine RH.ot rfl rfl (OT.callF (vs := [_, _, _]) rfl En28 rfl (hc_r (l := ⟨⟨w34, ysw34⟩⟩) (d := ⟨⟨w37, d.rules.xs⟩⟩) ⟨Rs.o, RsE.o, RsE.o, RsE.o⟩ (by rw [hew34]; exact hlen) Rs.o (fun w38 zsw38 hzw38 => ⟨Gh.le_refl _, PickC.pick, ?_⟩)))
   refine RH.w rfl rfl (PV.move (v := .tuple _) rfl rfl) (RH.w rfl rfl (PV.ext (v := w38) rfl rfl rfl) (RH.w rfl rfl (PV.ext rfl rfl rfl) (RH.w rfl rfl (PV.ext rfl rfl rfl) (RH.w rfl rfl (PV.asg (v := w38) rfl rfl) (RH.w rfl rfl (PV.mvI (.inr rfl) rfl) (RH.w rfl rfl (PV.mvI (.inr rfl) rfl) ?_))))))
   refine RH.nil ?_
   refine WP.sr (RG.p (PV.loadW rfl Ag24 rfl rfl) ?_)
   refine RG.callF (vs := [_]) rfl rfl En10 rfl (toLib_s hA.up hf (fun w43 ysw43 hew43 => ?_))
   refine RG.ot rfl (OT.alloc rfl Zr35 fun b11 => ?_)
   refine RG.ot rfl (OT.storeW (vs := [_]) rfl Sz35 rfl rfl (Cl.c rfl) rfl rfl (OneC.sl (SlF.o (v := w43)) OneC.nil) ?_)
   refine RG.nil (WP.sr (RG.p (PV.loadW rfl Ag27 rfl rfl) ?_))
   refine RG.callF (vs := [_]) rfl rfl En11 rfl (toDeck_s (Rs.up h1) hb1 (fun w45 => ?_))
   refine RG.ot rfl (OT.alloc rfl Zr39 fun b12 => ?_)
   refine RG.ot rfl (OT.storeW (vs := [_]) rfl Sz39 rfl rfl (Cl.c rfl) rfl rfl (OneC.sl (SlF.o (v := w45)) OneC.nil) ?_)
   refine RG.nil (WP.sr (RG.p (PV.loadW rfl Ag35 rfl rfl) (RG.ml rfl (RG.p (PV.loadW rfl Ag39 rfl rfl) ?_))))
   refine RG.callF (vs := [_, _, _]) rfl rfl En29 rfl (hc_i (l := ⟨⟨w43, ysw43⟩⟩) (d := ⟨⟨w45, d.rules.xs⟩⟩) ⟨Rs.o, RsE.o, RsE.o, RsE.o⟩ (by rw [hew43]; exact hlen) Rs.o (fun w50 zsw50 hzw50 => ?_))
   refine RG.p (PV.move (v := .tuple _) rfl rfl) (RG.p (PV.ext (v := w50) rfl rfl rfl) (RG.p (PV.ext rfl rfl rfl) (RG.p (PV.ext rfl rfl rfl) (RG.p (PV.asg (v := w50) rfl rfl) (RG.mr rfl (RG.mr rfl (RG.nil (WP.seq (WP.sr (RG.p (PV.move (v := w50) rfl rfl) (RG.p (PV.move (v := w38) rfl rfl) ?_)))))))))))
   refine RG.callF (vs := [w50, w38]) rfl rfl En30 rfl (eqViolS_s Rs.o RsE.o Rs.o RsE.o ?_)
   refine RG.p (PV.not rfl rfl) (RG.bl rfl ?_)
   refine RG.g rfl (fun hp => (PV.mvI (.inl rfl) rfl)) ?_
   refine RG.g rfl (fun hp => (PV.mvI (.inl rfl) rfl)) ?_
   refine RG.g rfl (fun hp => (PV.neq rfl (gs_t hp) (gs_t hp))) ?_
   refine RG.p (PV.pickO rfl rfl rfl (fun hq => gs_t (geqF hq))) (RG.bl rfl ?_)
   refine RG.g rfl (fun hp => (PV.mvI (.inl rfl) rfl)) ?_
   refine RG.g rfl (fun hp => (PV.mvI (.inl rfl) rfl)) ?_
   refine RG.g rfl (fun hp => (PV.neq rfl (gs_t hp) (gs_t hp))) ?_
   refine RG.p (PV.pickO rfl rfl rfl (fun hq => gs_t (geqF hq))) (RG.nil ?_)
   rw [hew34, hew43]
   refine WP.cond rfl (fun h3 => ?_) (fun h3 => ?_)
   ·simp [hzw38, hzw50, hew34, hew43] at h3
   ·have hcv : costL nVi zsw50 = costL nVe (hcR (erCls l.cells.xs) cell d.rules.xs) := by rw [nVi_er, hzw50, hew43]
    refine WP.skip (WP.seq (WP.seq ?_))
    refine WP.regionH0 (.q 0 (.q 1 (.l 2 (.l 3 (.q 4 Sch.nil))))) (by kernel_rfl) (by kernel_rfl) (by kernel_rfl) rfl ?_
    refine RH.w rfl rfl (PV.loadW rfl Ag35 rfl rfl) (RH.w rfl rfl (PV.loadW rfl Ag24 rfl rfl) ?_)
    refine RH.ot rfl rfl (OT.callF (vs := [_]) rfl En10 rfl (toLib_s hA.up hf (fun w70 ysw70 hew70 => ⟨Gh.le_refl _, PickC.pick, ?_⟩)))
    refine RH.ot rfl rfl (OT.callF (vs := [_, _]) rfl En14 rfl (eqLib_s (l := ⟨⟨w43, ysw43⟩⟩) (m := ⟨⟨w70, ysw70⟩⟩) ⟨Rs.o, RsE.o, RsE.o, RsE.o⟩ ⟨Rs.o, RsE.o, RsE.o, RsE.o⟩ (by rw [hew43, hew70]) ⟨Gh.le_refl _, PickC.pick, ?_⟩))
    refine RH.w rfl rfl (PV.not rfl rfl) ?_
    refine RH.nil ?_
    refine WP.cond rfl (fun h4 => ?_) (fun h4 => ?_)
    ·simp at h4
    ·refine WP.skip ?_
     refine WP.seq (WP.seq ?_)
     refine WP.regionH0 (.q 0 (.q 1 (.l 2 (.l 3 (.q 4 Sch.nil))))) (by kernel_rfl) (by kernel_rfl) (by kernel_rfl) rfl ?_
     refine RH.w rfl rfl (PV.loadW rfl Ag39 rfl rfl) (RH.w rfl rfl (PV.loadW rfl Ag27 rfl rfl) ?_)
     refine RH.ot rfl rfl (OT.callF (vs := [_]) rfl En11 rfl (toDeck_s (Rs.up h1) hb1 (fun w75 => ⟨Gh.le_refl _, PickC.pick, ?_⟩)))
     refine RH.ot rfl rfl (OT.callF (vs := [_, _]) rfl En15 rfl (eqDeck_s Rs.o Rs.o ⟨Gh.le_refl _, PickC.pick, ?_⟩))
     refine RH.w rfl rfl (PV.not rfl rfl) ?_
     refine RH.nil ?_
     refine WP.cond rfl (fun h5 => ?_) (fun h5 => ?_)
     ·simp at h5
     ·refine WP.skip ?_
      refine WP.sr (RG.mr rfl (RG.nil (WP.sr (RG.p (PV.loadW rfl Ag35 rfl rfl) (RG.ml rfl ?_)))))
      refine RG.callF (vs := [_, _]) rfl rfl En16 rfl (CallT.exBg (ins ysw43) (CallT.exBg (lbs ysw43) (CallT.exBg (shs ysw43) (CallT.exS w43 (markLibB_s (l := ⟨⟨w43, ysw43⟩⟩) (by rw [hew43]; exact hf) (by omega) (fun km hkm => ?_))))))
      refine RG.mr rfl (RG.nil (WP.sr (RG.p (PV.loadW rfl Ag39 rfl rfl) (RG.ml rfl ?_))))
      refine RG.callF (vs := [_, _]) rfl rfl En17 rfl (CallT.exS w45 (markDeck_s (d := ⟨⟨w45, d.rules.xs⟩⟩) (by omega) (by simp only; omega) ?_))
      refine RG.mr rfl (RG.nil (WP.seq (WP.sr (RG.ml rfl (RG.p (PV.lss rfl rfl rfl) (RG.bl rfl ?_))))))
      refine RG.g rfl (fun hp => (PV.move (v := w50) rfl rfl)) ?_
      refine RG.g rfl (fun hp => (PV.move (v := w38) rfl rfl)) ?_
      refine RG.gsC rfl rfl rfl rfl En30 (fun hp => ⟨_, (acons (gs_t hp) (acons (gs_t hp) anil)), eqViolS_s Rs.o RsE.o Rs.o RsE.o ⟨rfl, rfl, rfl⟩⟩) ?_
      refine RG.g rfl (fun hp => (PV.not rfl (gs_t hp))) ?_
      refine RG.p (PV.pickO rfl rfl rfl (fun hq => gs_t (geqF hq))) (RG.bl rfl ?_)
      refine RG.g rfl (fun hp => (PV.mvI (.inl rfl) rfl)) ?_
      refine RG.g rfl (fun hp => (PV.mvI (.inl rfl) rfl)) ?_
      refine RG.g rfl (fun hp => (PV.neq rfl (gs_t hp) (gs_t hp))) ?_
      refine RG.p (PV.pickO rfl rfl rfl (fun hq => gs_t (geqF hq))) (RG.bl rfl ?_)
      refine RG.g rfl (fun hp => (PV.mvI (.inl rfl) rfl)) ?_
      refine RG.g rfl (fun hp => (PV.mvI (.inl rfl) rfl)) ?_
      refine RG.g rfl (fun hp => (PV.neq rfl (gs_t hp) (gs_t hp))) ?_
      refine RG.p (PV.pickO rfl rfl rfl (fun hq => gs_t (geqF hq))) (RG.nil ?_)
      refine WP.cond rfl (fun h6 => ?_) (fun h6 => ?_)
      ·exfalso
       have hk1 : ¬ km + costL nRu d.rules.xs < 0 := by omega
       simp [hk1, hzw38, hzw50, hew34, hew43] at h6
      ·skip
       refine WP.skip (WP.sr (RG.mr rfl (RG.nil (WP.sr (RG.p (PV.move (v := w50) rfl rfl) (RG.ml rfl ?_))))))
       refine RG.callF (vs := [w50, _]) rfl rfl En31 rfl (CallT.exBg (mks zsw50) (CallT.exS w50 (markViolS_s (by omega) (by omega) ?_)))
       refine RG.mr rfl (RG.nil (WP.sr (RG.mr rfl (RG.nil (WP.sr (RG.p (PV.move (v := w50) rfl rfl) (RG.ml rfl ?_)))))))
       refine RG.callF (vs := [w50, _]) rfl rfl En32 rfl (heldViolS_s Rs.o RsE.o (by omega) (by omega) ?_)
       refine RG.mr rfl (RG.nil (WP.seq (WP.sr (RG.ml rfl (RG.p (PV.lss rfl rfl rfl) (RG.nil ?_))))))
       refine WP.cond rfl (fun h7 => ?_) (fun h7 => ?_)
       ·simp at h7; omega
       ·refine WP.skip ?_
        refine WP.seq (WP.sr (RG.ml rfl (RG.ml rfl (RG.p (PV.neq rfl rfl rfl) (RG.nil ?_)))))
        refine WP.cond rfl (fun h8 => ?_) (fun h8 => ?_)
        ·simp at h8
        ·skip
         refine WP.skip (WP.seq ?_)
         refine WP.regionH0 (.q 0 (.q 2 (.q 3 (.l 1 (.l 4 (.l 5 (.q 6 (.q 7 (.q 8 (.q 9 (.q 10 (.q 11 (.q 12 Sch.nil))))))))))))) (by kernel_rfl) (by kernel_rfl) (by kernel_rfl) rfl ?_
         refine RH.w rfl rfl (PV.loadW rfl Ag24 rfl rfl) (RH.w rfl rfl (PV.mvI (.inl rfl) rfl) (RH.w rfl rfl (PV.loadW rfl Ag27 rfl rfl) ?_))
         refine RH.ot rfl rfl (OT.callF (vs := [_]) rfl En10 rfl (toLib_s hA.up hf (fun w115 ysw115 hew115 => ⟨Gh.le_refl _, PickC.pick, ?_⟩)))
         refine RH.ot rfl rfl (OT.callF (vs := [_]) rfl En11 rfl (toDeck_s (Rs.up h1) hb1 (fun w118 => ⟨Gh.le_refl _, PickC.pick, ?_⟩)))
         refine RH.ot rfl rfl (OT.callF (vs := [_, _, _]) rfl En29 rfl (hc_i (l := ⟨⟨w115, ysw115⟩⟩) (d := ⟨⟨w118, d.rules.xs⟩⟩) ⟨Rs.o, RsE.o, RsE.o, RsE.o⟩ (by rw [hew115]; exact hlen) Rs.o (fun w119 zsw119 hzw119 => ⟨Gh.le_refl _, PickC.pick, ?_⟩)))
         refine RH.w rfl rfl (PV.move (v := .tuple _) rfl rfl) (RH.w rfl rfl (PV.ext (v := w119) rfl rfl rfl) (RH.w rfl rfl (PV.ext rfl rfl rfl) (RH.w rfl rfl (PV.ext rfl rfl rfl) (RH.w rfl rfl (PV.asg (v := w119) rfl rfl) (RH.w rfl rfl (PV.mvI (.inr rfl) rfl) (RH.w rfl rfl (PV.mvI (.inr rfl) rfl) ?_))))))
         refine RH.nil ?_
         refine WP.seq (WP.sr (RG.p (PV.move (v := w119) rfl rfl) (RG.p (PV.move (v := w38) rfl rfl) ?_)))
         refine RG.callF (vs := [w119, w38]) rfl rfl En30 rfl (eqViolS_s Rs.o RsE.o Rs.o RsE.o ?_)
         refine RG.p (PV.not rfl rfl) (RG.bl rfl ?_)
         refine RG.g rfl (fun hp => (PV.mvI (.inl rfl) rfl)) ?_
         refine RG.g rfl (fun hp => (PV.mvI (.inl rfl) rfl)) ?_
         refine RG.g rfl (fun hp => (PV.neq rfl (gs_t hp) (gs_t hp))) ?_
         refine RG.p (PV.pickO rfl rfl rfl (fun hq => gs_t (geqF hq))) (RG.bl rfl ?_)
         refine RG.g rfl (fun hp => (PV.mvI (.inl rfl) rfl)) ?_
         refine RG.g rfl (fun hp => (PV.mvI (.inl rfl) rfl)) ?_
         refine RG.g rfl (fun hp => (PV.neq rfl (gs_t hp) (gs_t hp))) ?_
         refine RG.p (PV.pickO rfl rfl rfl (fun hq => gs_t (geqF hq))) (RG.nil ?_)
         refine WP.cond rfl (fun h9 => ?_) (fun h9 => ?_)
         ·simp [hzw38, hzw119, hew34, hew115] at h9
         ·skip
          refine WP.skip (WP.sr (RG.mr rfl (RG.nil (WP.sr (RG.p (PV.move (v := w50) rfl rfl) (RG.ml rfl ?_))))))
          refine RG.callF (vs := [w50, _]) rfl rfl En32 rfl (heldViolS_s Rs.o RsE.o (by omega) (by omega) ?_)
          refine RG.mr rfl (RG.nil (WP.seq (WP.sr (RG.ml rfl (RG.p (PV.lss rfl rfl rfl) (RG.nil ?_))))))
          refine WP.cond rfl (fun ha => ?_) (fun ha => ?_)
          ·simp at ha; omega
          ·refine WP.skip ?_
           refine WP.seq (WP.sr (RG.ml rfl (RG.ml rfl (RG.p (PV.neq rfl rfl rfl) (RG.nil ?_)))))
           refine WP.cond rfl (fun hb => ?_) (fun hb => ?_)
           ·simp at hb
           ·refine WP.skip ?_
            refine WP.sr (RG.br rfl (RG.nil ?_))
            exact WP.ret ⟨_, _, ResV.one rfl rfl, Cv.p, k⟩
end Go.Proofs.YtgphjofccckloaaGreat
namespace Go.Proofs.YtgphjofccckloaaGreat
open Go Go.ChangeShapes Go.WideShapes Go.ChangeAt Go.RowKit Go.Deep
def Gw (w : World) : Gh := ⟨wh w, w.os, w.tape, w.output, w.drawn⟩
theorem St.start (w : World) : St (Gw w) [] w := ⟨fun _ => none, trivial, Hp.le_refl _, (fun _ _ h => by cases h), fun _ => .inl rfl, rfl, rfl, rfl, Nat.le_refl _⟩
theorem St.below {W w' : World} {G : Gh} {L : List Ch} (l : Gh.le (Gw W) G) (h : St G L w') : Below W.heap.size W w' := by
 obtain ⟨hp, s, l1, l2, d, ok⟩ := h
 have ok' := Gh.le_ok l ok
 have up := Hp.le_trans l.1 l1
 have key : ∀ k, k < W.heap.size → w'.heap[k]? = W.heap[k]? := fun k hk => by
  have : (Gw W).f k = some W.heap[k] := by simp [Gw, wh, hk]
  have h2 := up k _ this
  simp only [wh] at h2
  rw [h2]; simp [hk]
 refine ⟨ok'.1, ok'.2.1, ok'.2.2.1, ?_, key⟩
 by_cases h0 : W.heap.size = 0
 ·omega
 ·have := key (W.heap.size - 1) (by omega)
  rw [Array.getElem?_eq_getElem (by omega : W.heap.size - 1 < W.heap.size)] at this
  have := (Array.getElem?_eq_some_iff.1 this).1
  omega
def Opn {ρ : Type} (P : Program) (t : TypeId) (F : FT ρ) (ok : Gh → ρ → Prop) : Prop :=
  ∀ {H : Type} {enc : TypeId × Value → H} {w : World} {fuel : Nat} {cs : List Value} {x : DataW H × List MemPlace}, DataW.trod enc P w 0 (fun _ => true) true fuel t cs = some x → ∃ a : ρ, cs = F.enc a ∧ ok (Gw w) a
def okI (_ : Gh) (n : Int) : Prop := -9223372036854775808 ≤ n ∧ n ≤ 9223372036854775807
def okS (_ : Gh) (s : ByteArray) : Prop := s.size ≤ 9223372036854775807
def okL {ρ : Type} [Inhabited ρ] (F : FT ρ) (ok : Gh → ρ → Prop) (G : Gh) (v : Value) : Prop := ∃ xs : List ρ, SL G F v xs ∧ ∀ i, i < xs.length → ok G (gd xs i)
section
variable {P : Program} {t e : TypeId}
theorem opnI (ht : P.underlying t = some (.int .i64)) : Opn P t intT okI := fun h => by
 obtain ⟨n, rfl, _, hw⟩ := DataW.trod_int ht h
 refine ⟨n, rfl, ?_⟩
 have : IntKind.i64.min ≤ n ∧ n ≤ IntKind.i64.max := by simpa [Lit.wf] using hw
 simp only [show IntKind.i64.min = -9223372036854775808 from rfl, show IntKind.i64.max = 9223372036854775807 from rfl] at this
 exact this
theorem opnS (ht : P.underlying t = some .string) : Opn P t strT okS := fun h => by
 obtain ⟨s, rfl, _, hs⟩ := DataW.trod_string ht h
 refine ⟨s, rfl, ?_⟩
 simp only [maxLen] at hs
 exact (by omega : s.size ≤ 9223372036854775807)
theorem cells_get {w : World} {a : Addr} {n : Nat} {cs : List Value} (h : w.cells? 0 a n = some cs) : cs.length = n ∧ ∀ j c, cs[j]? = some c → w.cell? (a.add j) = some c := by
 obtain ⟨_, h1, h2⟩ := World.cells?_some h
 refine ⟨h1, fun j c hc => ?_⟩
 have hj := (List.getElem?_eq_some_iff.1 hc).1
 rw [h2 j (by omega), hc]
theorem opnL {ρ : Type} [Inhabited ρ] {F : FT ρ} {ok : Gh → ρ → Prop} (ht : P.underlying t = some (.slice e)) (hE : Opn P e F ok) (hc : P.cellsOf e = F.sz) (h0 : 0 < F.sz) : Opn P t rawT (okL F ok) := fun {H enc w fuel cs x} h => by
 rcases open_slice ht h with ⟨rfl, _⟩ | ⟨a, len, cap, m, n, D, Pl, rfl, _, hl, hm, hmm, _, hel⟩
 ·exact ⟨_, rfl, [], ⟨⟨0, Nat.le_refl _, Nat.zero_le _, .inr ⟨⟨_, rfl⟩, rfl⟩⟩, fun j c hj => by simp [FT.flat] at hj⟩, fun i hi => by simp at hi⟩
 have hmcap : m = cap := by simpa using hmm
 refine ⟨.slice (some a) len cap, rfl, ?_⟩
 have hall : ∀ i, i < len → ∃ r : ρ, w.cells? 0 (a.add (i * F.sz)) F.sz = some (F.enc r) ∧ ok (Gw w) r := fun i hi => by
  obtain ⟨cs', h1, h2⟩ := hel i (by omega)
  obtain ⟨r, rfl, hr⟩ := hE h2
  rw [hc] at h1
  exact ⟨r, h1, hr⟩
 have : ∃ f : Nat → ρ, ∀ i, i < len → w.cells? 0 (a.add (i * F.sz)) F.sz = some (F.enc (f i)) ∧ ok (Gw w) (f i) := choose_lt hall
 obtain ⟨f, hf⟩ := this
 have hlen : ((List.range len).map f).length = len := by simp
 have hget : ∀ i, i < len → ((List.range len).map f)[i]? = some (f i) := fun i hi => by simp [hi]
 have hsp : len ≠ 0 → a.spot = none := fun hz => by
  obtain ⟨h1, _⟩ := hf 0 (by omega)
  obtain ⟨hl1, hg⟩ := cells_get h1
  cases hq : (F.enc (f 0))[0]? with
  | none => rw [List.getElem?_eq_none_iff] at hq; omega
  | some c =>
   have hcell := hg 0 c hq
   cases hs : a.spot with
   | none => rfl
   | some s =>
    exfalso
    have h3 : ((a.add (0 * F.sz)).add 0).spot.isSome = true := by simp [Addr.add, hs]
    unfold World.cell? at hcell
    split at hcell
    ·rw [if_pos h3] at hcell; cases hcell
    ·cases hcell
 refine ⟨(List.range len).map f, ⟨⟨cap, by simpa using hl, hm, ?_⟩, ?_⟩, fun i hi => ?_⟩
 ·by_cases hz : len = 0
  ·exact .inr ⟨⟨some a, by simp⟩, by simpa using hz⟩
  ·refine .inl ⟨a.block, a.off, ?_⟩
   have hsp := hsp hz
   simp only [hlen]
   obtain ⟨ab, ao, az⟩ := a
   simp only at hsp
   subst hsp; rfl
 ·intro j c hj
  by_cases hz : len = 0
  ·subst hz; simp [FT.flat] at hj
  have hsp := hsp hz
  have hjl : j < len * F.sz := by
   have := (List.getElem?_eq_some_iff.1 hj).1
   rwa [FT.flat_len, hlen] at this
  have hq : j / F.sz < len := (Nat.div_lt_iff_lt_mul h0).2 hjl
  have hr : j % F.sz < F.sz := Nat.mod_lt _ h0
  have hjd : j / F.sz * F.sz + j % F.sz = j := by rw [Nat.mul_comm]; exact Nat.div_add_mod j F.sz
  obtain ⟨h1, _⟩ := hf (j / F.sz) hq
  obtain ⟨_, hg⟩ := cells_get h1
  have hc' : (F.enc (f (j / F.sz)))[j % F.sz]? = some ((F.enc (f (j / F.sz)))[j % F.sz]'(by rw [F.len]; exact hr)) := List.getElem?_eq_getElem _
  have hfl := F.flat_get (hget _ hq) hc'
  rw [hjd, hj] at hfl
  have hcell := hg _ _ hc'
  obtain ⟨ab, ao, az⟩ := a
  simp only at hsp
  subst hsp
  rw [add_none, add_none, cell_hc, Nat.add_assoc, hjd] at hcell
  simp only [sb, so, Gw]
  rw [hcell]; exact hfl.symm
 ·have hi' : i < len := by simpa using hi
  have : gd ((List.range len).map f) i = f i := by simp [gd, hi']
  rw [this]; exact (hf i hi').2
end
def okSl {ρ : Type} [Inhabited ρ] (F : FT ρ) (ok : Gh → ρ → Prop) (G : Gh) (s : Sl ρ) : Prop := SL G F s.v s.xs ∧ ∀ i, i < s.xs.length → ok G (gd s.xs i)
theorem opnSl {P : Program} {t e : TypeId} {ρ : Type} [Inhabited ρ] {F : FT ρ} {ok : Gh → ρ → Prop} (ht : P.underlying t = some (.slice e)) (hE : Opn P e F ok) (hc : P.cellsOf e = F.sz) (h0 : 0 < F.sz) : Opn P t slT (okSl F ok) := fun h => by
 obtain ⟨v, rfl, xs, h1, h2⟩ := opnL ht hE hc h0 h
 exact ⟨⟨v, xs⟩, rfl, h1, h2⟩
section
variable {P : Program} {t e : TypeId} {H : Type} {enc : TypeId × Value → H} {W : World} {r : Reach} {base : Nat} {v : Value} {d : DataW H} {ps : List MemPlace}
theorem argI (ht : P.underlying t = some (.int .i64)) (hv : Value.okWide P W r base t v) (h : DataW.Trod enc P W 0 (fun _ => true) true t v d ps) : ∃ n, v = vi n ∧ okI (Gw W) n := by
 obtain ⟨n, rfl⟩ := okWide_int ht hv
 obtain ⟨fuel, hf⟩ := h
 obtain ⟨m, e1, hm⟩ := opnI ht hf
 simp [Value.cells, intT] at e1
 exact ⟨n, rfl, e1 ▸ hm⟩
theorem argT {ρ : Type} {F : FT ρ} {ok : Gh → ρ → Prop} {fs : Array Field} (ht : P.underlying t = some (.struct fs)) (hO : Opn P t F ok) (hv : Value.okWide P W r base t v) (h : DataW.Trod enc P W 0 (fun _ => true) true t v d ps) : ∃ a, v = vT F a ∧ ok (Gw W) a := by
 obtain ⟨cs, rfl, _⟩ := okWide_struct ht hv
 obtain ⟨fuel, hf⟩ := h
 obtain ⟨m, e1, hm⟩ := hO hf
 simp only [Value.cells] at e1
 exact ⟨m, by simp only [vT]; rw [← e1], hm⟩
theorem trodAll_stays (hl : laidOutB P = true) {W' : World} (hb : Below W.heap.size W W') : ∀ {ts : List TypeId} {vs : List Value} {ds : List (DataW H)} {ps : List MemPlace}, (∀ t ∈ ts, P.readableRec t = true ∧ t < P.types.size) → (∀ x ∈ ps, x.block < W.heap.size) →
  DataW.TrodAll enc P W 0 (fun _ => true) true ts vs ds ps → DataW.TrodAll enc P W' 0 (fun b => decide (b < W.heap.size)) true ts vs ds ps
 | [], [], [], _, _, _, h => h
 | t :: ts, v :: vs, d :: ds, ps, hr, hlt, h => by
  obtain ⟨p, q, h1, h2, rfl⟩ := h
  have := hr t (.head _)
  exact ⟨p, q, Below.trod hl this.1 this.2 h1 hb (fun x hx => hlt x (List.mem_append_left _ hx)), trodAll_stays hl hb (fun t ht => hr t (.tail _ ht)) (fun x hx => hlt x (List.mem_append_right _ hx)) h2, rfl⟩
end
def recsB (P : Program) (ts : List TypeId) : Bool := ts.all fun t => P.readableRec t && Nat.blt t P.types.size
theorem recs_of {P : Program} {ts : List TypeId} (h : recsB P ts = true) : ∀ t ∈ ts, P.readableRec t = true ∧ t < P.types.size := by
 intro t ht
 have := List.all_eq_true.1 h t ht
 simp only [Bool.and_eq_true] at this
 exact ⟨this.1, Nat.le_of_ble_eq_true this.2⟩
theorem law_lifted {H : Type} {enc : TypeId × Value → H} {C : Checked} {os : Os} {f : FuncId} {fn : Func} {s : ChangeSpec} {tb : TypeId} (own : ownKnob C.prog.godebug = none) (started : os.Started) (noInit : C.prog.inits.idxOf? f = none) (hfn : C.prog.funcs[f]? = some fn) (hl : laidOutB C.prog = true)
  (hvars : s.vars = []) (hr : recsB C.prog fn.params.toList = true) (hres : fn.resultTypes = #[tb]) (htb : C.prog.underlying tb = some .bool)
  (hsp : ∀ ds : List (DataW H), ds.length = fn.params.toList.length → s.fn H ds = { results := [.lit (.bool true)], args := ds })
  (witness : ∃ (w : World) (tape : Tape) (i : Input), w.os = os ∧ (w.forCall tape i).Shaped C.prog ∧ i.vars = [] ∧ Input.okWide C.prog (w.forCall tape i) .any w.heap.size f i ∧
   s.pre6 enc C.prog fn [] false (w.forCall tape i).memory i.args ∧ ({} : Assume).holds C.prog (lone (Frame.enter C.prog f i.args .normal) [] (w.forCall tape i)))
  (walk : ∀ (W : World) (base : Nat) (args : Array Value) (ds : List (DataW H)) (ps : List MemPlace), (∀ (j : Nat) t v, fn.params[j]? = some t → args[j]? = some v → Value.okWide C.prog W .any base t v) →
   DataW.TrodAll enc C.prog W 0 (fun _ => true) true fn.params.toList args.toList ds ps → CallT C.prog f args (Gw W) [] fun v G _ => v = .bool true ∧ Gh.le (Gw W) G) :
  ReturnsInHanded {} C os f .any (s.pre6 enc C.prog fn [] false) (s.post enc C.prog fn false true false false) := by
 refine returnsInHanded_of_change own started noInit hfn witness ?_
 intro W base args ds gs before hval hW _ _
 have hW' := hW
 obtain ⟨p, q, hA, hV, rfl, hfz, hnd⟩ := hW
 rw [hvars] at hV
 obtain ⟨rfl, rfl⟩ := trodVars_none hV
 refine ((walk W base args ds p hval hA).run (St.start W)).mono ?_
 rintro e W' ⟨v, G, L, rfl, hs, rfl, hG⟩
 have hb := hs.below hG
 have hlt : ∀ x ∈ p, x.block < W.heap.size := fun x hx => hW'.lt x (List.mem_append_left _ hx)
 have hlen : ds.length = fn.params.toList.length := by
  have : ∀ (ts : List TypeId) (vs : List Value) (ds : List (DataW H)) (ps : List MemPlace), DataW.TrodAll enc C.prog W 0 (fun _ => true) true ts vs ds ps → ds.length = ts.length := by
   intro ts
   induction ts with
   | nil => intro vs ds ps h; cases vs <;> cases ds <;> simp_all [DataW.TrodAll]
   | cons t ts ih =>
    intro vs ds ps h
    cases vs <;> cases ds <;> simp only [DataW.TrodAll] at h
    obtain ⟨_, _, _, h2, _⟩ := h
    simp [ih _ _ _ h2]
  exact this _ _ _ _ hA
 refine ⟨_, rfl, ds, [], _, [], p, [], hW', ?_, ?_, ?_, hb.frame _, fun h => by cases h⟩
 ·rw [List.append_nil, hsp ds hlen, hres]
  exact trodAll_mk1 (shut_bool htb true)
 ·rw [List.append_nil, hsp ds hlen]
  exact trodAll_stays hl hb (recs_of hr) hlt hA
 ·rw [List.append_nil, hsp ds hlen, hvars]
  exact rfl
end Go.Proofs.YtgphjofccckloaaGreat
namespace Go.Proofs.YtgphjofccckloaaGreat
open Go Go.ChangeShapes Go.WideShapes Go.ChangeAt Go.RowKit
set_option maxRecDepth 100000
theorem Tryz.own : ownKnob Tryz.prog.godebug = none := by kernel_rfl
theorem Tryz.laidOut : laidOutB Tryz.prog = true := by kernel_rfl
def okrectT (G : Gh) (a : Rect) : Prop := okI G a.x0 ∧ okI G a.y0 ∧ okI G a.x1 ∧ okI G a.y1
theorem opn243 : Opn Tryz.prog 243 rectT okrectT := fun {H enc w fuel cs x} h => by
 obtain ⟨xs, n, _, _, hl, hx, hf⟩ := DataW.trod_struct Tryz.underlying243 h
 rw [show Tryz.prog.cellsOf 243 = 4 by kernel_rfl] at hl
 obtain ⟨c0, c1, c2, c3, rfl⟩ : ∃ c0 c1 c2 c3, cs = [c0, c1, c2, c3] := by
  match cs, hl with
  | [c0, c1, c2, c3], _ => exact ⟨c0, c1, c2, c3, rfl⟩
 have g0 := hf 0 _ rfl
 simp only [List.getElem_toArray, List.getElem_cons_zero, List.getElem_cons_succ] at g0
 rw [show Tryz.prog.cellsOf 2 = 1 by kernel_rfl] at g0
 obtain ⟨x0, y0⟩ : ∃ x, xs[0]? = some x := ⟨_, List.getElem?_eq_getElem (by rw [hx]; decide)⟩
 rw [y0] at g0
 obtain ⟨a0, e0, o0⟩ := (opnI Tryz.underlying2) g0
 have g1 := hf 1 _ rfl
 simp only [List.getElem_toArray, List.getElem_cons_zero, List.getElem_cons_succ] at g1
 rw [show Tryz.prog.cellsOf 2 = 1 by kernel_rfl] at g1
 obtain ⟨x1, y1⟩ : ∃ x, xs[1]? = some x := ⟨_, List.getElem?_eq_getElem (by rw [hx]; decide)⟩
 rw [y1] at g1
 obtain ⟨a1, e1, o1⟩ := (opnI Tryz.underlying2) g1
 have g2 := hf 2 _ rfl
 simp only [List.getElem_toArray, List.getElem_cons_zero, List.getElem_cons_succ] at g2
 rw [show Tryz.prog.cellsOf 2 = 1 by kernel_rfl] at g2
 obtain ⟨x2, y2⟩ : ∃ x, xs[2]? = some x := ⟨_, List.getElem?_eq_getElem (by rw [hx]; decide)⟩
 rw [y2] at g2
 obtain ⟨a2, e2, o2⟩ := (opnI Tryz.underlying2) g2
 have g3 := hf 3 _ rfl
 simp only [List.getElem_toArray, List.getElem_cons_zero, List.getElem_cons_succ] at g3
 rw [show Tryz.prog.cellsOf 2 = 1 by kernel_rfl] at g3
 obtain ⟨x3, y3⟩ : ∃ x, xs[3]? = some x := ⟨_, List.getElem?_eq_getElem (by rw [hx]; decide)⟩
 rw [y3] at g3
 obtain ⟨a3, e3, o3⟩ := (opnI Tryz.underlying2) g3
 clear hf hx hl
 refine ⟨⟨a0, a1, a2, a3⟩, ?_, o0, o1, o2, o3⟩
 simp [intT] at e0 e1 e2 e3
 simp [intT, rectT, e0, e1, e2, e3]
def okshapeT (G : Gh) (a : Shape) : Prop := okI G a.layer ∧ okrectT G a.box
theorem opn245 : Opn Tryz.prog 245 shapeT okshapeT := fun {H enc w fuel cs x} h => by
 obtain ⟨xs, n, _, _, hl, hx, hf⟩ := DataW.trod_struct Tryz.underlying245 h
 rw [show Tryz.prog.cellsOf 245 = 5 by kernel_rfl] at hl
 obtain ⟨c0, c1, c2, c3, c4, rfl⟩ : ∃ c0 c1 c2 c3 c4, cs = [c0, c1, c2, c3, c4] := by
  match cs, hl with
  | [c0, c1, c2, c3, c4], _ => exact ⟨c0, c1, c2, c3, c4, rfl⟩
 have g0 := hf 0 _ rfl
 simp only [List.getElem_toArray, List.getElem_cons_zero, List.getElem_cons_succ] at g0
 rw [show Tryz.prog.cellsOf 2 = 1 by kernel_rfl] at g0
 obtain ⟨x0, y0⟩ : ∃ x, xs[0]? = some x := ⟨_, List.getElem?_eq_getElem (by rw [hx]; decide)⟩
 rw [y0] at g0
 obtain ⟨a0, e0, o0⟩ := (opnI Tryz.underlying2) g0
 have g1 := hf 1 _ rfl
 simp only [List.getElem_toArray, List.getElem_cons_zero, List.getElem_cons_succ] at g1
 rw [show Tryz.prog.cellsOf 243 = 4 by kernel_rfl] at g1
 obtain ⟨x1, y1⟩ : ∃ x, xs[1]? = some x := ⟨_, List.getElem?_eq_getElem (by rw [hx]; decide)⟩
 rw [y1] at g1
 obtain ⟨a1, e1, o1⟩ := opn243 g1
 clear hf hx hl
 refine ⟨⟨a0, a1⟩, ?_, o0, o1⟩
 simp [intT, rectT] at e0 e1
 simp [intT, rectT, shapeT, e0, e1]
def okptT (G : Gh) (a : Pt) : Prop := okI G a.x ∧ okI G a.y
theorem opn236 : Opn Tryz.prog 236 ptT okptT := fun {H enc w fuel cs x} h => by
 obtain ⟨xs, n, _, _, hl, hx, hf⟩ := DataW.trod_struct Tryz.underlying236 h
 rw [show Tryz.prog.cellsOf 236 = 2 by kernel_rfl] at hl
 obtain ⟨c0, c1, rfl⟩ : ∃ c0 c1, cs = [c0, c1] := by
  match cs, hl with
  | [c0, c1], _ => exact ⟨c0, c1, rfl⟩
 have g0 := hf 0 _ rfl
 simp only [List.getElem_toArray, List.getElem_cons_zero, List.getElem_cons_succ] at g0
 rw [show Tryz.prog.cellsOf 2 = 1 by kernel_rfl] at g0
 obtain ⟨x0, y0⟩ : ∃ x, xs[0]? = some x := ⟨_, List.getElem?_eq_getElem (by rw [hx]; decide)⟩
 rw [y0] at g0
 obtain ⟨a0, e0, o0⟩ := (opnI Tryz.underlying2) g0
 have g1 := hf 1 _ rfl
 simp only [List.getElem_toArray, List.getElem_cons_zero, List.getElem_cons_succ] at g1
 rw [show Tryz.prog.cellsOf 2 = 1 by kernel_rfl] at g1
 obtain ⟨x1, y1⟩ : ∃ x, xs[1]? = some x := ⟨_, List.getElem?_eq_getElem (by rw [hx]; decide)⟩
 rw [y1] at g1
 obtain ⟨a1, e1, o1⟩ := (opnI Tryz.underlying2) g1
 clear hf hx hl
 refine ⟨⟨a0, a1⟩, ?_, o0, o1⟩
 simp [intT] at e0 e1
 simp [intT, ptT, e0, e1]
def oklabelT (G : Gh) (a : Label) : Prop := okI G a.layer ∧ okptT G a.at_ ∧ okS G a.name
theorem opn238 : Opn Tryz.prog 238 labelT oklabelT := fun {H enc w fuel cs x} h => by
 obtain ⟨xs, n, _, _, hl, hx, hf⟩ := DataW.trod_struct Tryz.underlying238 h
 rw [show Tryz.prog.cellsOf 238 = 4 by kernel_rfl] at hl
 obtain ⟨c0, c1, c2, c3, rfl⟩ : ∃ c0 c1 c2 c3, cs = [c0, c1, c2, c3] := by
  match cs, hl with
  | [c0, c1, c2, c3], _ => exact ⟨c0, c1, c2, c3, rfl⟩
 have g0 := hf 0 _ rfl
 simp only [List.getElem_toArray, List.getElem_cons_zero, List.getElem_cons_succ] at g0
 rw [show Tryz.prog.cellsOf 2 = 1 by kernel_rfl] at g0
 obtain ⟨x0, y0⟩ : ∃ x, xs[0]? = some x := ⟨_, List.getElem?_eq_getElem (by rw [hx]; decide)⟩
 rw [y0] at g0
 obtain ⟨a0, e0, o0⟩ := (opnI Tryz.underlying2) g0
 have g1 := hf 1 _ rfl
 simp only [List.getElem_toArray, List.getElem_cons_zero, List.getElem_cons_succ] at g1
 rw [show Tryz.prog.cellsOf 236 = 2 by kernel_rfl] at g1
 obtain ⟨x1, y1⟩ : ∃ x, xs[1]? = some x := ⟨_, List.getElem?_eq_getElem (by rw [hx]; decide)⟩
 rw [y1] at g1
 obtain ⟨a1, e1, o1⟩ := opn236 g1
 have g2 := hf 2 _ rfl
 simp only [List.getElem_toArray, List.getElem_cons_zero, List.getElem_cons_succ] at g2
 rw [show Tryz.prog.cellsOf 9 = 1 by kernel_rfl] at g2
 obtain ⟨x2, y2⟩ : ∃ x, xs[2]? = some x := ⟨_, List.getElem?_eq_getElem (by rw [hx]; decide)⟩
 rw [y2] at g2
 obtain ⟨a2, e2, o2⟩ := (opnS Tryz.underlying9) g2
 clear hf hx hl
 refine ⟨⟨a0, a1, a2⟩, ?_, o0, o1, o2⟩
 simp [intT, ptT, strT] at e0 e1 e2
 simp [intT, labelT, ptT, strT, e0, e1, e2]
def oktransT (G : Gh) (a : Trans) : Prop := okI G a.o ∧ okI G a.x ∧ okI G a.y
theorem opn248 : Opn Tryz.prog 248 transT oktransT := fun {H enc w fuel cs x} h => by
 obtain ⟨xs, n, _, _, hl, hx, hf⟩ := DataW.trod_struct Tryz.underlying248 h
 rw [show Tryz.prog.cellsOf 248 = 3 by kernel_rfl] at hl
 obtain ⟨c0, c1, c2, rfl⟩ : ∃ c0 c1 c2, cs = [c0, c1, c2] := by
  match cs, hl with
  | [c0, c1, c2], _ => exact ⟨c0, c1, c2, rfl⟩
 have g0 := hf 0 _ rfl
 simp only [List.getElem_toArray, List.getElem_cons_zero, List.getElem_cons_succ] at g0
 rw [show Tryz.prog.cellsOf 2 = 1 by kernel_rfl] at g0
 obtain ⟨x0, y0⟩ : ∃ x, xs[0]? = some x := ⟨_, List.getElem?_eq_getElem (by rw [hx]; decide)⟩
 rw [y0] at g0
 obtain ⟨a0, e0, o0⟩ := (opnI Tryz.underlying2) g0
 have g1 := hf 1 _ rfl
 simp only [List.getElem_toArray, List.getElem_cons_zero, List.getElem_cons_succ] at g1
 rw [show Tryz.prog.cellsOf 2 = 1 by kernel_rfl] at g1
 obtain ⟨x1, y1⟩ : ∃ x, xs[1]? = some x := ⟨_, List.getElem?_eq_getElem (by rw [hx]; decide)⟩
 rw [y1] at g1
 obtain ⟨a1, e1, o1⟩ := (opnI Tryz.underlying2) g1
 have g2 := hf 2 _ rfl
 simp only [List.getElem_toArray, List.getElem_cons_zero, List.getElem_cons_succ] at g2
 rw [show Tryz.prog.cellsOf 2 = 1 by kernel_rfl] at g2
 obtain ⟨x2, y2⟩ : ∃ x, xs[2]? = some x := ⟨_, List.getElem?_eq_getElem (by rw [hx]; decide)⟩
 rw [y2] at g2
 obtain ⟨a2, e2, o2⟩ := (opnI Tryz.underlying2) g2
 clear hf hx hl
 refine ⟨⟨a0, a1, a2⟩, ?_, o0, o1, o2⟩
 simp [intT] at e0 e1 e2
 simp [intT, transT, e0, e1, e2]
def okinstT (G : Gh) (a : Inst) : Prop := okI G a.cell ∧ oktransT G a.place ∧ okI G a.cols ∧ okI G a.rows ∧ okI G a.sx ∧ okI G a.sy
theorem opn250 : Opn Tryz.prog 250 instT okinstT := fun {H enc w fuel cs x} h => by
 obtain ⟨xs, n, _, _, hl, hx, hf⟩ := DataW.trod_struct Tryz.underlying250 h
 rw [show Tryz.prog.cellsOf 250 = 8 by kernel_rfl] at hl
 obtain ⟨c0, c1, c2, c3, c4, c5, c6, c7, rfl⟩ : ∃ c0 c1 c2 c3 c4 c5 c6 c7, cs = [c0, c1, c2, c3, c4, c5, c6, c7] := by
  match cs, hl with
  | [c0, c1, c2, c3, c4, c5, c6, c7], _ => exact ⟨c0, c1, c2, c3, c4, c5, c6, c7, rfl⟩
 have g0 := hf 0 _ rfl
 simp only [List.getElem_toArray, List.getElem_cons_zero, List.getElem_cons_succ] at g0
 rw [show Tryz.prog.cellsOf 2 = 1 by kernel_rfl] at g0
 obtain ⟨x0, y0⟩ : ∃ x, xs[0]? = some x := ⟨_, List.getElem?_eq_getElem (by rw [hx]; decide)⟩
 rw [y0] at g0
 obtain ⟨a0, e0, o0⟩ := (opnI Tryz.underlying2) g0
 have g1 := hf 1 _ rfl
 simp only [List.getElem_toArray, List.getElem_cons_zero, List.getElem_cons_succ] at g1
 rw [show Tryz.prog.cellsOf 248 = 3 by kernel_rfl] at g1
 obtain ⟨x1, y1⟩ : ∃ x, xs[1]? = some x := ⟨_, List.getElem?_eq_getElem (by rw [hx]; decide)⟩
 rw [y1] at g1
 obtain ⟨a1, e1, o1⟩ := opn248 g1
 have g2 := hf 2 _ rfl
 simp only [List.getElem_toArray, List.getElem_cons_zero, List.getElem_cons_succ] at g2
 rw [show Tryz.prog.cellsOf 2 = 1 by kernel_rfl] at g2
 obtain ⟨x2, y2⟩ : ∃ x, xs[2]? = some x := ⟨_, List.getElem?_eq_getElem (by rw [hx]; decide)⟩
 rw [y2] at g2
 obtain ⟨a2, e2, o2⟩ := (opnI Tryz.underlying2) g2
 have g3 := hf 3 _ rfl
 simp only [List.getElem_toArray, List.getElem_cons_zero, List.getElem_cons_succ] at g3
 rw [show Tryz.prog.cellsOf 2 = 1 by kernel_rfl] at g3
 obtain ⟨x3, y3⟩ : ∃ x, xs[3]? = some x := ⟨_, List.getElem?_eq_getElem (by rw [hx]; decide)⟩
 rw [y3] at g3
 obtain ⟨a3, e3, o3⟩ := (opnI Tryz.underlying2) g3
 have g4 := hf 4 _ rfl
 simp only [List.getElem_toArray, List.getElem_cons_zero, List.getElem_cons_succ] at g4
 rw [show Tryz.prog.cellsOf 2 = 1 by kernel_rfl] at g4
 obtain ⟨x4, y4⟩ : ∃ x, xs[4]? = some x := ⟨_, List.getElem?_eq_getElem (by rw [hx]; decide)⟩
 rw [y4] at g4
 obtain ⟨a4, e4, o4⟩ := (opnI Tryz.underlying2) g4
 have g5 := hf 5 _ rfl
 simp only [List.getElem_toArray, List.getElem_cons_zero, List.getElem_cons_succ] at g5
 rw [show Tryz.prog.cellsOf 2 = 1 by kernel_rfl] at g5
 obtain ⟨x5, y5⟩ : ∃ x, xs[5]? = some x := ⟨_, List.getElem?_eq_getElem (by rw [hx]; decide)⟩
 rw [y5] at g5
 obtain ⟨a5, e5, o5⟩ := (opnI Tryz.underlying2) g5
 clear hf hx hl
 refine ⟨⟨a0, a1, a2, a3, a4, a5⟩, ?_, o0, o1, o2, o3, o4, o5⟩
 simp [intT, transT] at e0 e1 e2 e3 e4 e5
 simp [instT, intT, transT, e0, e1, e2, e3, e4, e5]
def okcellT (G : Gh) (a : Cell) : Prop := okS G a.name ∧ (okSl shapeT okshapeT) G a.shapes ∧ (okSl labelT oklabelT) G a.labels ∧ (okSl instT okinstT) G a.insts
theorem opn124 : Opn Tryz.prog 124 cellT okcellT := fun {H enc w fuel cs x} h => by
 obtain ⟨xs, n, _, _, hl, hx, hf⟩ := DataW.trod_struct Tryz.underlying124 h
 rw [show Tryz.prog.cellsOf 124 = 4 by kernel_rfl] at hl
 obtain ⟨c0, c1, c2, c3, rfl⟩ : ∃ c0 c1 c2 c3, cs = [c0, c1, c2, c3] := by
  match cs, hl with
  | [c0, c1, c2, c3], _ => exact ⟨c0, c1, c2, c3, rfl⟩
 have g0 := hf 0 _ rfl
 simp only [List.getElem_toArray, List.getElem_cons_zero, List.getElem_cons_succ] at g0
 rw [show Tryz.prog.cellsOf 9 = 1 by kernel_rfl] at g0
 obtain ⟨x0, y0⟩ : ∃ x, xs[0]? = some x := ⟨_, List.getElem?_eq_getElem (by rw [hx]; decide)⟩
 rw [y0] at g0
 obtain ⟨a0, e0, o0⟩ := (opnS Tryz.underlying9) g0
 have g1 := hf 1 _ rfl
 simp only [List.getElem_toArray, List.getElem_cons_zero, List.getElem_cons_succ] at g1
 rw [show Tryz.prog.cellsOf 120 = 1 by kernel_rfl] at g1
 obtain ⟨x1, y1⟩ : ∃ x, xs[1]? = some x := ⟨_, List.getElem?_eq_getElem (by rw [hx]; decide)⟩
 rw [y1] at g1
 obtain ⟨a1, e1, o1⟩ := (opnSl Tryz.underlying120 opn245 (by kernel_rfl) (by decide)) g1
 have g2 := hf 2 _ rfl
 simp only [List.getElem_toArray, List.getElem_cons_zero, List.getElem_cons_succ] at g2
 rw [show Tryz.prog.cellsOf 121 = 1 by kernel_rfl] at g2
 obtain ⟨x2, y2⟩ : ∃ x, xs[2]? = some x := ⟨_, List.getElem?_eq_getElem (by rw [hx]; decide)⟩
 rw [y2] at g2
 obtain ⟨a2, e2, o2⟩ := (opnSl Tryz.underlying121 opn238 (by kernel_rfl) (by decide)) g2
 have g3 := hf 3 _ rfl
 simp only [List.getElem_toArray, List.getElem_cons_zero, List.getElem_cons_succ] at g3
 rw [show Tryz.prog.cellsOf 122 = 1 by kernel_rfl] at g3
 obtain ⟨x3, y3⟩ : ∃ x, xs[3]? = some x := ⟨_, List.getElem?_eq_getElem (by rw [hx]; decide)⟩
 rw [y3] at g3
 obtain ⟨a3, e3, o3⟩ := (opnSl Tryz.underlying122 opn250 (by kernel_rfl) (by decide)) g3
 clear hf hx hl
 refine ⟨⟨a0, a1, a2, a3⟩, ?_, o0, o1, o2, o3⟩
 simp [slT, strT] at e0 e1 e2 e3
 simp [cellT, slT, strT, e0, e1, e2, e3]
def oklibT (G : Gh) (a : Lib) : Prop := (okSl cellT okcellT) G a.cells
theorem opn24 : Opn Tryz.prog 24 libT oklibT := fun {H enc w fuel cs x} h => by
 obtain ⟨xs, n, _, _, hl, hx, hf⟩ := DataW.trod_struct Tryz.underlying24 h
 rw [show Tryz.prog.cellsOf 24 = 1 by kernel_rfl] at hl
 obtain ⟨c0, rfl⟩ : ∃ c0, cs = [c0] := by
  match cs, hl with
  | [c0], _ => exact ⟨c0, rfl⟩
 have g0 := hf 0 _ rfl
 simp only [List.getElem_toArray, List.getElem_cons_zero, List.getElem_cons_succ] at g0
 rw [show Tryz.prog.cellsOf 22 = 1 by kernel_rfl] at g0
 obtain ⟨x0, y0⟩ : ∃ x, xs[0]? = some x := ⟨_, List.getElem?_eq_getElem (by rw [hx]; decide)⟩
 rw [y0] at g0
 obtain ⟨a0, e0, o0⟩ := (opnSl Tryz.underlying22 opn124 (by kernel_rfl) (by decide)) g0
 clear hf hx hl
 refine ⟨⟨a0⟩, ?_, o0⟩
 simp [slT] at e0
 simp [libT, slT, e0]
theorem okLib_rl {G : Gh} {L : List Ch} {l : Lib} (h : oklibT G l) : RLib G L l.cells.v l.cells.xs :=
 ⟨Rs.g h.1, fun i hi => by
  have hi' : i < l.cells.xs.length := by simpa [shs] using hi
  rw [shs, gd_map _ hi']; exact Rs.g (h.2 i hi').2.1.1, fun i hi => by
  have hi' : i < l.cells.xs.length := by simpa [lbs] using hi
  rw [lbs, gd_map _ hi']; exact Rs.g (h.2 i hi').2.2.1.1, fun i hi => by
  have hi' : i < l.cells.xs.length := by simpa [ins] using hi
  rw [ins, gd_map _ hi']; exact Rs.g (h.2 i hi').2.2.2.1⟩
theorem okLib_len2 {G : Gh} {l : Lib} (h : oklibT G l) : lenC (erCls l.cells.xs) := fun i hi => by
 rw [erCls_len] at hi
 rw [erCls_gd hi]
 exact ⟨(h.2 i hi).1, fun j hj => ((h.2 i hi).2.2.1.2 j hj).2.2⟩
def okruleT (G : Gh) (a : Rule) : Prop := okI G a.kind ∧ okI G a.layer ∧ okI G a.other ∧ okI G a.value ∧ okI G a.percent
theorem opn49 : Opn Tryz.prog 49 ruleT okruleT := fun {H enc w fuel cs x} h => by
 obtain ⟨xs, n, _, _, hl, hx, hf⟩ := DataW.trod_struct Tryz.underlying49 h
 rw [show Tryz.prog.cellsOf 49 = 5 by kernel_rfl] at hl
 obtain ⟨c0, c1, c2, c3, c4, rfl⟩ : ∃ c0 c1 c2 c3 c4, cs = [c0, c1, c2, c3, c4] := by
  match cs, hl with
  | [c0, c1, c2, c3, c4], _ => exact ⟨c0, c1, c2, c3, c4, rfl⟩
 have g0 := hf 0 _ rfl
 simp only [List.getElem_toArray, List.getElem_cons_zero, List.getElem_cons_succ] at g0
 rw [show Tryz.prog.cellsOf 2 = 1 by kernel_rfl] at g0
 obtain ⟨x0, y0⟩ : ∃ x, xs[0]? = some x := ⟨_, List.getElem?_eq_getElem (by rw [hx]; decide)⟩
 rw [y0] at g0
 obtain ⟨a0, e0, o0⟩ := (opnI Tryz.underlying2) g0
 have g1 := hf 1 _ rfl
 simp only [List.getElem_toArray, List.getElem_cons_zero, List.getElem_cons_succ] at g1
 rw [show Tryz.prog.cellsOf 2 = 1 by kernel_rfl] at g1
 obtain ⟨x1, y1⟩ : ∃ x, xs[1]? = some x := ⟨_, List.getElem?_eq_getElem (by rw [hx]; decide)⟩
 rw [y1] at g1
 obtain ⟨a1, e1, o1⟩ := (opnI Tryz.underlying2) g1
 have g2 := hf 2 _ rfl
 simp only [List.getElem_toArray, List.getElem_cons_zero, List.getElem_cons_succ] at g2
 rw [show Tryz.prog.cellsOf 2 = 1 by kernel_rfl] at g2
 obtain ⟨x2, y2⟩ : ∃ x, xs[2]? = some x := ⟨_, List.getElem?_eq_getElem (by rw [hx]; decide)⟩
 rw [y2] at g2
 obtain ⟨a2, e2, o2⟩ := (opnI Tryz.underlying2) g2
 have g3 := hf 3 _ rfl
 simp only [List.getElem_toArray, List.getElem_cons_zero, List.getElem_cons_succ] at g3
 rw [show Tryz.prog.cellsOf 2 = 1 by kernel_rfl] at g3
 obtain ⟨x3, y3⟩ : ∃ x, xs[3]? = some x := ⟨_, List.getElem?_eq_getElem (by rw [hx]; decide)⟩
 rw [y3] at g3
 obtain ⟨a3, e3, o3⟩ := (opnI Tryz.underlying2) g3
 have g4 := hf 4 _ rfl
 simp only [List.getElem_toArray, List.getElem_cons_zero, List.getElem_cons_succ] at g4
 rw [show Tryz.prog.cellsOf 2 = 1 by kernel_rfl] at g4
 obtain ⟨x4, y4⟩ : ∃ x, xs[4]? = some x := ⟨_, List.getElem?_eq_getElem (by rw [hx]; decide)⟩
 rw [y4] at g4
 obtain ⟨a4, e4, o4⟩ := (opnI Tryz.underlying2) g4
 clear hf hx hl
 refine ⟨⟨a0, a1, a2, a3, a4⟩, ?_, o0, o1, o2, o3, o4⟩
 simp [intT] at e0 e1 e2 e3 e4
 simp [intT, ruleT, e0, e1, e2, e3, e4]
def okdeckT (G : Gh) (a : Deck) : Prop := (okSl ruleT okruleT) G a.rules
theorem opn27 : Opn Tryz.prog 27 deckT okdeckT := fun {H enc w fuel cs x} h => by
 obtain ⟨xs, n, _, _, hl, hx, hf⟩ := DataW.trod_struct Tryz.underlying27 h
 rw [show Tryz.prog.cellsOf 27 = 1 by kernel_rfl] at hl
 obtain ⟨c0, rfl⟩ : ∃ c0, cs = [c0] := by
  match cs, hl with
  | [c0], _ => exact ⟨c0, rfl⟩
 have g0 := hf 0 _ rfl
 simp only [List.getElem_toArray, List.getElem_cons_zero, List.getElem_cons_succ] at g0
 rw [show Tryz.prog.cellsOf 25 = 1 by kernel_rfl] at g0
 obtain ⟨x0, y0⟩ : ∃ x, xs[0]? = some x := ⟨_, List.getElem?_eq_getElem (by rw [hx]; decide)⟩
 rw [y0] at g0
 obtain ⟨a0, e0, o0⟩ := (opnSl Tryz.underlying25 opn49 (by kernel_rfl) (by decide)) g0
 clear hf hx hl
 refine ⟨⟨a0⟩, ?_, o0⟩
 simp [slT] at e0
 simp [deckT, slT, e0]
theorem hierCheck_lifted (os : Os) (started : os.Started) (H : Type) (enc : TypeId × Value → H) :
  ReturnsInHanded {} Tryz.checked os 6 .any (Rows.fnExactHierarchicalCheckSpec.pre6 enc Tryz.prog Tryz.f6 [] false) (Rows.fnExactHierarchicalCheckSpec.post enc Tryz.prog Tryz.f6 false true false false) := by
 refine law_lifted (C := Tryz.checked) Tryz.own started (by kernel_rfl) Tryz.func6 Tryz.laidOut rfl (by kernel_rfl) rfl Tryz.underlying4 (fun ds h => ?_)
  (ChangeSpec.witness6 (enc := enc) (C := Tryz.checked) false ⟨#[], #[.agg #[.slice none 0 0], .int .i64 0, .agg #[.slice none 0 0]], []⟩ 8 (by kernel_rfl) (by kernel_rfl) (by kernel_rfl) (by kernel_rfl)) ?_
 ·match ds, h with
  | [d, e, f], _ => rfl
 ·intro W base args ds ps hval hA
  have hA : DataW.TrodAll enc Tryz.prog W 0 (fun _ => true) true Tryz.f6.params.toList args.toList ds ps := hA
  have hval : ∀ (j : Nat) t v, Tryz.f6.params[j]? = some t → args[j]? = some v → Value.okWide Tryz.prog W .any base t v := hval
  rw [Tryz.params6] at hA hval
  obtain ⟨v0, v1, v2, d0, d1, d2, p0, p1, p2, rfl, rfl, rfl, h0, h1, h2⟩ := trodAll_three hA
  obtain ⟨l, rfl, q1⟩ := argT Tryz.underlying24 opn24 (hval 0 _ v0 rfl rfl) h0
  obtain ⟨n1, rfl, _⟩ := argI Tryz.underlying2 (hval 1 _ v1 rfl rfl) h1
  obtain ⟨dk, rfl, q2⟩ := argT Tryz.underlying27 opn27 (hval 2 _ v2 rfl rfl) h2
  exact law_HierarchicalCheck (okLib_rl q1) (okLib_len2 q1) (Rs.g q2.1) ⟨rfl, Gh.le_refl _⟩
theorem hierCheck_joined : joinedFacts Tryz.pinned.checked.prog 6 Tryz.f6 Rows.fnExactHierarchicalCheckSpec Rows.fnExactHierarchicalCheckRow = true := by kernel_rfl
theorem hierCheck_holds : Rows.FnExactHierarchicalCheckSaid :=
 OpenClaim.holds_of_wide 6 Tryz.f6 rfl rfl rfl rfl rfl rfl rfl ⟨rfl, rfl, rfl, rfl, rfl⟩ rfl rfl rfl rfl rfl (by kernel_rfl) Tryz.func6 hierCheck_joined
  (of_decide_eq_true (by kernel_rfl)) (by unfold Func.isWrapper; first | (rw [if_pos (by decide +kernel)]; kernel_rfl) | (rw [if_neg (by decide +kernel)]; exact ⟨rfl, rfl⟩))
  (fun os started H enc _ => hierCheck_lifted os started H enc)
end Go.Proofs.YtgphjofccckloaaGreat
