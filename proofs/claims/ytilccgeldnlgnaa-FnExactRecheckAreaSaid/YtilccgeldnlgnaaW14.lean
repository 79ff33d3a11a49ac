/-
  Contracts: rules; sets grown by a distance; recheck areas; the law RecheckArea.
-/
import Derived.Test.YtilccgeldnlgnaaW13
import Derived.Test.YtilccgeldnlgnaaGrow
namespace Go.Proofs.Ytilccgeldnlgnaa
open Go
set_option maxRecDepth 20000
set_option linter.unusedSimpArgs false
variable {G : Gh} {L : List Ch} {R : Value → Gh → List Ch → Prop}

/-! ## rules -/
abbrev vrule (r : Rule) : Value := vT ruleT r
def paired (k : Int) : Bool := decide (k = 2) || decide (k = 3)
def okVal (r : Rule) : Bool := if r.kind = 4 then within r.value 1 6400 else if r.kind = 5 then within r.value 4 40 else within r.value 1 8
def okPct (r : Rule) : Bool := if r.kind = 5 then within r.percent 1 100 else decide (r.percent = 0)
def okOther (r : Rule) : Bool := bif paired r.kind then within r.other 0 7 && !decide (r.other = r.layer) else decide (r.other = 0)
def validRule (r : Rule) : Bool := within r.kind 0 5 && within r.layer 0 7 && okOther r && okVal r && okPct r
theorem l16In_s {a b c : Int} (k : R (.bool (within a b c)) G L) : CallT Try.prog 152 #[vi a, vi b, vi c] G L R := by
  refine CallT.enter (args := _) Try.func152 rfl rfl (by kernel_rfl) rfl ?_
  refine WP.seq ?_
  refine WP.region ?_
  refine RG.pv rfl (PV.mvB (.inr rfl) rfl) ?_
  refine RG.nil ?_
  refine WP.seq ?_
  refine WP.region ?_
  refine RG.pv rfl (PV.mvI (.inl rfl) rfl) ?_
  refine RG.pv rfl (PV.mvI (.inl rfl) rfl) ?_
  refine RG.pv rfl (PV.geq rfl rfl rfl) ?_
  refine RG.pv rfl (PV.mvB (.inl rfl) rfl) ?_
  refine RG.gs rfl rfl rfl (fun hp => (PV.mvI (.inl rfl) rfl)) ?_
  refine RG.gs rfl rfl rfl (fun hp => (PV.mvI (.inl rfl) rfl)) ?_
  refine RG.gs rfl rfl rfl (fun hp => (PV.leq rfl (gs_t hp) (gs_t hp))) ?_
  refine RG.pv rfl (PV.pickA rfl rfl (fun hq => gs_t (geqT hq)) rfl) ?_
  refine RG.pv rfl (PV.mvB (.inr rfl) rfl) ?_
  refine RG.nil ?_
  refine WP.ret ?_
  -- STOP: ret
  exact ⟨_, _, ResV.one rfl rfl, Cv.p, k⟩
theorem l16Paired_s {a : Int} (k : R (.bool (paired a)) G L) : CallT Try.prog 154 #[vi a] G L R := by
  refine CallT.enter (args := _) Try.func154 rfl rfl (by kernel_rfl) rfl ?_
  refine WP.seq ?_
  refine WP.region ?_
  refine RG.pv rfl (PV.mvB (.inr rfl) rfl) ?_
  refine RG.nil ?_
  refine WP.seq ?_
  refine WP.region ?_
  refine RG.pv rfl (PV.mvI (.inl rfl) rfl) ?_
  refine RG.pv rfl (PV.eql rfl rfl rfl) ?_
  refine RG.pv rfl (PV.mvB (.inl rfl) rfl) ?_
  refine RG.gs rfl rfl rfl (fun hp => (PV.mvI (.inl rfl) rfl)) ?_
  refine RG.gs rfl rfl rfl (fun hp => (PV.eql rfl (gs_t hp) rfl)) ?_
  refine RG.pv rfl (PV.pickO rfl rfl rfl (fun hq => gs_t (geqF hq))) ?_
  refine RG.pv rfl (PV.mvB (.inr rfl) rfl) ?_
  refine RG.nil ?_
  refine WP.ret ?_
  -- STOP: ret
  exact ⟨_, _, ResV.one rfl rfl, Cv.p, k⟩
theorem hasOther_s {a : Int} (k : R (.bool (paired a)) G L) : CallT Try.prog 97 #[vi a] G L R := by
  refine CallT.enter (args := _) Try.func97 rfl rfl (by kernel_rfl) rfl ?_
  refine WP.seq ?_
  refine WP.region ?_
  refine RG.pv rfl (PV.mvB (.inr rfl) rfl) ?_
  refine RG.nil ?_
  refine WP.seq ?_
  refine WP.region ?_
  refine RG.pv rfl (PV.mvI (.inl rfl) rfl) ?_
  refine RG.pv rfl (PV.eql rfl rfl rfl) ?_
  refine RG.pv rfl (PV.mvB (.inl rfl) rfl) ?_
  refine RG.gs rfl rfl rfl (fun hp => (PV.mvI (.inl rfl) rfl)) ?_
  refine RG.gs rfl rfl rfl (fun hp => (PV.eql rfl (gs_t hp) rfl)) ?_
  refine RG.pv rfl (PV.pickO rfl rfl rfl (fun hq => gs_t (geqF hq))) ?_
  refine RG.pv rfl (PV.mvB (.inr rfl) rfl) ?_
  refine RG.nil ?_
  refine WP.ret ?_
  -- STOP: ret
  exact ⟨_, _, ResV.one rfl rfl, Cv.p, k⟩
theorem l20Paired_s {r : Rule} (k : R (.bool (paired r.kind)) G L) : CallT Try.prog 155 #[vrule r] G L R := by
  refine CallT.enter (args := _) Try.func155 rfl rfl (by kernel_rfl) rfl ?_
  refine WP.seq ?_
  refine WP.region ?_
  refine RG.ot rfl (OT.box (cs := ruleT.enc r) rfl rfl rfl fun b1 => ?_)
  refine RG.pv rfl (PV.mvB (.inr rfl) rfl) ?_
  refine RG.nil ?_
  refine WP.seq ?_
  refine WP.region ?_
  refine RG.pv rfl (PV.field rfl Fo52_0 rfl) ?_
  refine RG.pv rfl (PV.load1 rfl Sc2 rfl (Rd.blk rfl)) ?_
  refine RG.pv rfl (PV.eql rfl rfl rfl) ?_
  refine RG.pv rfl (PV.mvB (.inl rfl) rfl) ?_
  refine RG.gs rfl rfl rfl (fun hp => (PV.field rfl Fo52_0 rfl)) ?_
  refine RG.gs rfl rfl rfl (fun hp => (PV.load1 rfl Sc2 (gs_t hp) (Rd.blk rfl))) ?_
  refine RG.gs rfl rfl rfl (fun hp => (PV.eql rfl (gs_t hp) rfl)) ?_
  refine RG.pv rfl (PV.pickO rfl rfl rfl (fun hq => gs_t (geqF hq))) ?_
  refine RG.pv rfl (PV.mvB (.inr rfl) rfl) ?_
  refine RG.nil ?_
  refine WP.ret ?_
  -- STOP: ret
  exact ⟨_, _, ResV.one rfl rfl, Cv.p, k⟩
theorem l16Value_s {r : Rule} (k : R (.bool (okVal r)) G L) : CallT Try.prog 153 #[vrule r] G L R := by
  refine CallT.enter (args := _) Try.func153 rfl rfl (by kernel_rfl) rfl ?_
  refine WP.seq ?_
  refine WP.region ?_
  refine RG.ot rfl (OT.box (cs := ruleT.enc r) rfl rfl rfl fun b1 => ?_)
  refine RG.pv rfl (PV.mvB (.inr rfl) rfl) ?_
  refine RG.nil ?_
  refine WP.seq ?_
  refine WP.seq ?_
  refine WP.region ?_
  refine RG.pv rfl (PV.field rfl Fo52_0 rfl) ?_
  refine RG.pv rfl (PV.load1 rfl Sc2 rfl (Rd.blk rfl)) ?_
  refine RG.nil ?_
  refine WP.block ?_
  refine WP.seq ?_
  refine WP.region ?_
  refine RG.pv rfl (PV.eql rfl rfl rfl) ?_
  refine RG.pv rfl (PV.mvB (.inr rfl) rfl) ?_
  refine RG.nil ?_
  -- STOP: cond
  refine WP.cond rfl (fun h1 => ?_) (fun h1 => ?_)
  · have h1 := of_decide_eq_true h1
    rw [okVal, if_pos h1] at k
    refine WP.seq ?_
    refine WP.region ?_
    refine RG.pv rfl (PV.field rfl Fo52_3 rfl) ?_
    refine RG.pv rfl (PV.load1 rfl Sc2 rfl (Rd.blk rfl)) ?_
    refine RG.callF (vs := [_, _, _]) rfl rfl En152 rfl (l16In_s ?_)
    refine RG.pv rfl (PV.mvB (.inr rfl) rfl) ?_
    refine RG.nil ?_
    refine WP.ret ?_
  -- STOP: ret
    exact ⟨_, _, ResV.one rfl rfl, Cv.p, k⟩
  · have h1 := of_decide_eq_false h1
    rw [okVal, if_neg h1] at k
    refine WP.seq ?_
    refine WP.region ?_
    refine RG.pv rfl (PV.eql rfl rfl rfl) ?_
    refine RG.pv rfl (PV.mvB (.inr rfl) rfl) ?_
    refine RG.nil ?_
  -- STOP: cond
    refine WP.cond rfl (fun h2 => ?_) (fun h2 => ?_)
    · have h2 := of_decide_eq_true h2
      rw [if_pos h2] at k
      refine WP.seq ?_
      refine WP.region ?_
      refine RG.pv rfl (PV.field rfl Fo52_3 rfl) ?_
      refine RG.pv rfl (PV.load1 rfl Sc2 rfl (Rd.blk rfl)) ?_
      refine RG.callF (vs := [_, _, _]) rfl rfl En152 rfl (l16In_s ?_)
      refine RG.pv rfl (PV.mvB (.inr rfl) rfl) ?_
      refine RG.nil ?_
      refine WP.ret ?_
  -- STOP: ret
      exact ⟨_, _, ResV.one rfl rfl, Cv.p, k⟩
    · have h2 := of_decide_eq_false h2
      rw [if_neg h2] at k
      refine WP.skip ?_
      refine WP.seq ?_
      refine WP.region ?_
      refine RG.pv rfl (PV.field rfl Fo52_3 rfl) ?_
      refine RG.pv rfl (PV.load1 rfl Sc2 rfl (Rd.blk rfl)) ?_
      refine RG.callF (vs := [_, _, _]) rfl rfl En152 rfl (l16In_s ?_)
      refine RG.pv rfl (PV.mvB (.inr rfl) rfl) ?_
      refine RG.nil ?_
      refine WP.ret ?_
  -- STOP: ret
      exact ⟨_, _, ResV.one rfl rfl, Cv.p, k⟩
theorem okOther_false {r : Rule} (h : (paired r.kind && (!within r.other 0 7 || decide (r.other = r.layer)) || !paired r.kind && !decide (r.other = 0)) = true) : okOther r = false := by
  unfold okOther; revert h
  cases paired r.kind <;> cases within r.other 0 7 <;> cases decide (r.other = r.layer) <;> cases decide (r.other = 0) <;> simp
theorem okOther_true {r : Rule} (h : (paired r.kind && (!within r.other 0 7 || decide (r.other = r.layer)) || !paired r.kind && !decide (r.other = 0)) = false) : okOther r = true := by
  unfold okOther; revert h
  cases paired r.kind <;> cases within r.other 0 7 <;> cases decide (r.other = r.layer) <;> cases decide (r.other = 0) <;> simp
theorem validRule_s {r : Rule} (k : R (.bool (validRule r)) G L) : CallT Try.prog 94 #[vrule r] G L R := by
  refine CallT.enter (args := _) Try.func94 rfl rfl (by kernel_rfl) rfl ?_
  refine WP.seq ?_
  refine WP.region ?_
  refine RG.ot rfl (OT.box (cs := ruleT.enc r) rfl rfl rfl fun b1 => ?_)
  refine RG.pv rfl (PV.mvB (.inr rfl) rfl) ?_
  refine RG.nil ?_
  refine WP.seq ?_
  refine WP.seq ?_
  refine WP.region ?_
  refine RG.pv rfl (PV.field rfl Fo52_0 rfl) ?_
  refine RG.pv rfl (PV.load1 rfl Sc2 rfl (Rd.blk rfl)) ?_
  refine RG.callF (vs := [_, _, _]) rfl rfl En152 rfl (l16In_s ?_)
  refine RG.pv rfl (PV.not rfl rfl) ?_
  refine RG.pv rfl (PV.mvB (.inl rfl) rfl) ?_
  refine RG.gs rfl rfl rfl (fun hp => (PV.field rfl Fo52_1 rfl)) ?_
  refine RG.gs rfl rfl rfl (fun hp => (PV.load1 rfl Sc2 (gs_t hp) (Rd.blk rfl))) ?_
  refine RG.gsC rfl rfl rfl rfl En152 (fun hp => ⟨_, (acons (gs_t hp) (acons rfl (acons rfl anil))), l16In_s ⟨rfl, rfl, rfl⟩⟩) ?_
  refine RG.gs rfl rfl rfl (fun hp => (PV.not rfl (gs_t hp))) ?_
  refine RG.pv rfl (PV.pickO rfl rfl rfl (fun hq => gs_t (geqF hq))) ?_
  refine RG.pv rfl (PV.mvB (.inl rfl) rfl) ?_
  refine RG.gs rfl rfl rfl (fun hp => (PV.loadW rfl Ag52 rfl rfl)) ?_
  refine RG.gsC rfl rfl rfl rfl En153 (fun hp => ⟨_, (acons (gs_t hp) anil), l16Value_s ⟨rfl, rfl, rfl⟩⟩) ?_
  refine RG.gs rfl rfl rfl (fun hp => (PV.not rfl (gs_t hp))) ?_
  refine RG.pv rfl (PV.pickO rfl rfl rfl (fun hq => gs_t (geqF hq))) ?_
  refine RG.nil ?_
  -- STOP: cond
  refine WP.cond rfl (fun h1 => ?_) (fun h1 => ?_)
  · have e : validRule r = false := by
      unfold validRule; revert h1
      cases within r.kind 0 5 <;> cases within r.layer 0 7 <;> cases okVal r <;> simp
    rw [e] at k
    refine WP.seq ?_
    refine WP.region ?_
    refine RG.pv rfl (PV.mvB (.inr rfl) rfl) ?_
    refine RG.nil ?_
    refine WP.ret ?_
  -- STOP: ret
    exact ⟨_, _, ResV.one rfl rfl, Cv.p, k⟩
  · have e : validRule r = (okOther r && okPct r) := by
      unfold validRule; revert h1
      cases within r.kind 0 5 <;> cases within r.layer 0 7 <;> cases okVal r <;> simp
    rw [e] at k
    refine WP.skip ?_
    refine WP.seq ?_
    refine WP.seq ?_
    refine WP.region ?_
    refine RG.pv rfl (PV.field rfl Fo52_0 rfl) ?_
    refine RG.pv rfl (PV.load1 rfl Sc2 rfl (Rd.blk rfl)) ?_
    refine RG.callF (vs := [_]) rfl rfl En154 rfl (l16Paired_s ?_)
    refine RG.pv rfl (PV.mvB (.inl rfl) rfl) ?_
    refine RG.gs rfl rfl rfl (fun hp => (PV.field rfl Fo52_2 rfl)) ?_
    refine RG.gs rfl rfl rfl (fun hp => (PV.load1 rfl Sc2 (gs_t hp) (Rd.blk rfl))) ?_
    refine RG.gsC rfl rfl rfl rfl En152 (fun hp => ⟨_, (acons (gs_t hp) (acons rfl (acons rfl anil))), l16In_s ⟨rfl, rfl, rfl⟩⟩) ?_
    refine RG.gs rfl rfl rfl (fun hp => (PV.not rfl (gs_t hp))) ?_
    refine RG.gs rfl rfl rfl (fun hp => (PV.mvB (.inl rfl) (gs_t hp))) ?_
    refine RG.gs2 rfl rfl rfl (fun hp => (PV.field rfl Fo52_2 rfl)) ?_
    refine RG.gs2 rfl rfl rfl (fun hp => (PV.load1 rfl Sc2 (gs_t hp) (Rd.blk rfl))) ?_
    refine RG.gs2 rfl rfl rfl (fun hp => (PV.field rfl Fo52_1 rfl)) ?_
    refine RG.gs2 rfl rfl rfl (fun hp => (PV.load1 rfl Sc2 (gs_t hp) (Rd.blk rfl))) ?_
    refine RG.gs2 rfl rfl rfl (fun hp => (PV.eql rfl (gs_t hp) (gs_t hp))) ?_
    refine RG.gs rfl rfl rfl (fun hp => (PV.pickO rfl (gs_t hp) rfl (fun hq => gs_t (gandF hp hq)))) ?_
    refine RG.pv rfl (PV.pickA rfl rfl (fun hq => gs_t (geqT hq)) rfl) ?_
    refine RG.pv rfl (PV.mvB (.inl rfl) rfl) ?_
    refine RG.gs rfl rfl rfl (fun hp => (PV.field rfl Fo52_0 rfl)) ?_
    refine RG.gs rfl rfl rfl (fun hp => (PV.load1 rfl Sc2 (gs_t hp) (Rd.blk rfl))) ?_
    refine RG.gsC rfl rfl rfl rfl En154 (fun hp => ⟨_, (acons (gs_t hp) anil), l16Paired_s ⟨rfl, rfl, rfl⟩⟩) ?_
    refine RG.gs rfl rfl rfl (fun hp => (PV.not rfl (gs_t hp))) ?_
    refine RG.gs rfl rfl rfl (fun hp => (PV.mvB (.inl rfl) (gs_t hp))) ?_
    refine RG.gs2 rfl rfl rfl (fun hp => (PV.field rfl Fo52_2 rfl)) ?_
    refine RG.gs2 rfl rfl rfl (fun hp => (PV.load1 rfl Sc2 (gs_t hp) (Rd.blk rfl))) ?_
    refine RG.gs2 rfl rfl rfl (fun hp => (PV.neq rfl (gs_t hp) rfl)) ?_
    refine RG.gs rfl rfl rfl (fun hp => (PV.pickA rfl (gs_t hp) (fun hq => gs_t (gandT hp hq)) rfl)) ?_
    refine RG.pv rfl (PV.pickO rfl rfl rfl (fun hq => gs_t (geqF hq))) ?_
    refine RG.nil ?_
  -- STOP: cond
    refine WP.cond rfl (fun h2 => ?_) (fun h2 => ?_)
    · rw [okOther_false h2, Bool.false_and] at k
      refine WP.seq ?_
      refine WP.region ?_
      refine RG.pv rfl (PV.mvB (.inr rfl) rfl) ?_
      refine RG.nil ?_
      refine WP.ret ?_
  -- STOP: ret
      exact ⟨_, _, ResV.one rfl rfl, Cv.p, k⟩
    · rw [okOther_true h2, Bool.true_and] at k
      refine WP.skip ?_
      refine WP.seq ?_
      refine WP.seq ?_
      refine WP.region ?_
      refine RG.pv rfl (PV.field rfl Fo52_0 rfl) ?_
      refine RG.pv rfl (PV.load1 rfl Sc2 rfl (Rd.blk rfl)) ?_
      refine RG.pv rfl (PV.eql rfl rfl rfl) ?_
      refine RG.nil ?_
  -- STOP: cond
      refine WP.cond rfl (fun h3 => ?_) (fun h3 => ?_)
      · have h3 := of_decide_eq_true h3
        rw [okPct, if_pos h3] at k
        refine WP.seq ?_
        refine WP.region ?_
        refine RG.pv rfl (PV.field rfl Fo52_4 rfl) ?_
        refine RG.pv rfl (PV.load1 rfl Sc2 rfl (Rd.blk rfl)) ?_
        refine RG.callF (vs := [_, _, _]) rfl rfl En152 rfl (l16In_s ?_)
        refine RG.pv rfl (PV.mvB (.inr rfl) rfl) ?_
        refine RG.nil ?_
        refine WP.ret ?_
  -- STOP: ret
        exact ⟨_, _, ResV.one rfl rfl, Cv.p, k⟩
      · have h3 := of_decide_eq_false h3
        rw [okPct, if_neg h3] at k
        refine WP.skip ?_
        refine WP.seq ?_
        refine WP.region ?_
        refine RG.pv rfl (PV.field rfl Fo52_4 rfl) ?_
        refine RG.pv rfl (PV.load1 rfl Sc2 rfl (Rd.blk rfl)) ?_
        refine RG.pv rfl (PV.eql rfl rfl rfl) ?_
        refine RG.pv rfl (PV.mvB (.inr rfl) rfl) ?_
        refine RG.nil ?_
        refine WP.ret ?_
  -- STOP: ret
        exact ⟨_, _, ResV.one rfl rfl, Cv.p, k⟩
theorem validRule_i {r : Rule} (k : R (.bool (validRule r)) G L) : CallT Try.prog 96 #[vrule r] G L R := by
  refine CallT.enter (args := _) Try.func96 rfl rfl (by kernel_rfl) rfl ?_
  refine WP.seq ?_
  refine WP.region ?_
  refine RG.ot rfl (OT.box (cs := ruleT.enc r) rfl rfl rfl fun b1 => ?_)
  refine RG.pv rfl (PV.mvB (.inr rfl) rfl) ?_
  refine RG.nil ?_
  refine WP.seq ?_
  refine WP.seq ?_
  refine WP.region ?_
  refine RG.pv rfl (PV.field rfl Fo52_0 rfl) ?_
  refine RG.pv rfl (PV.load1 rfl Sc2 rfl (Rd.blk rfl)) ?_
  refine RG.callF (vs := [_, _, _]) rfl rfl En158 rfl (within_s ?_)
  refine RG.pv rfl (PV.not rfl rfl) ?_
  refine RG.pv rfl (PV.mvB (.inl rfl) rfl) ?_
  refine RG.gs rfl rfl rfl (fun hp => (PV.field rfl Fo52_1 rfl)) ?_
  refine RG.gs rfl rfl rfl (fun hp => (PV.load1 rfl Sc2 (gs_t hp) (Rd.blk rfl))) ?_
  refine RG.gsC rfl rfl rfl rfl En158 (fun hp => ⟨_, (acons (gs_t hp) (acons rfl (acons rfl anil))), within_s ⟨rfl, rfl, rfl⟩⟩) ?_
  refine RG.gs rfl rfl rfl (fun hp => (PV.not rfl (gs_t hp))) ?_
  refine RG.pv rfl (PV.pickO rfl rfl rfl (fun hq => gs_t (geqF hq))) ?_
  refine RG.nil ?_
  -- STOP: cond
  refine WP.cond rfl (fun h1 => ?_) (fun h1 => ?_)
  · have e : validRule r = false := by
      unfold validRule; revert h1
      cases within r.kind 0 5 <;> cases within r.layer 0 7 <;> simp
    rw [e] at k
    refine WP.seq ?_
    refine WP.region ?_
    refine RG.pv rfl (PV.mvB (.inr rfl) rfl) ?_
    refine RG.nil ?_
    refine WP.ret ?_
  -- STOP: ret
    exact ⟨_, _, ResV.one rfl rfl, Cv.p, k⟩
  · have e : validRule r = (okOther r && (okVal r && okPct r)) := by
      unfold validRule; revert h1
      cases within r.kind 0 5 <;> cases within r.layer 0 7 <;> simp [Bool.and_assoc]
    rw [e] at k
    refine WP.skip ?_
    refine WP.seq ?_
    refine WP.seq ?_
    refine WP.region ?_
    refine RG.pv rfl (PV.field rfl Fo52_0 rfl) ?_
    refine RG.pv rfl (PV.load1 rfl Sc2 rfl (Rd.blk rfl)) ?_
    refine RG.callF (vs := [_]) rfl rfl En97 rfl (hasOther_s ?_)
    refine RG.pv rfl (PV.mvB (.inl rfl) rfl) ?_
    refine RG.gs rfl rfl rfl (fun hp => (PV.field rfl Fo52_2 rfl)) ?_
    refine RG.gs rfl rfl rfl (fun hp => (PV.load1 rfl Sc2 (gs_t hp) (Rd.blk rfl))) ?_
    refine RG.gsC rfl rfl rfl rfl En158 (fun hp => ⟨_, (acons (gs_t hp) (acons rfl (acons rfl anil))), within_s ⟨rfl, rfl, rfl⟩⟩) ?_
    refine RG.gs rfl rfl rfl (fun hp => (PV.not rfl (gs_t hp))) ?_
    refine RG.gs rfl rfl rfl (fun hp => (PV.mvB (.inl rfl) (gs_t hp))) ?_
    refine RG.gs2 rfl rfl rfl (fun hp => (PV.field rfl Fo52_2 rfl)) ?_
    refine RG.gs2 rfl rfl rfl (fun hp => (PV.load1 rfl Sc2 (gs_t hp) (Rd.blk rfl))) ?_
    refine RG.gs2 rfl rfl rfl (fun hp => (PV.field rfl Fo52_1 rfl)) ?_
    refine RG.gs2 rfl rfl rfl (fun hp => (PV.load1 rfl Sc2 (gs_t hp) (Rd.blk rfl))) ?_
    refine RG.gs2 rfl rfl rfl (fun hp => (PV.eql rfl (gs_t hp) (gs_t hp))) ?_
    refine RG.gs rfl rfl rfl (fun hp => (PV.pickO rfl (gs_t hp) rfl (fun hq => gs_t (gandF hp hq)))) ?_
    refine RG.pv rfl (PV.pickA rfl rfl (fun hq => gs_t (geqT hq)) rfl) ?_
    refine RG.pv rfl (PV.mvB (.inl rfl) rfl) ?_
    refine RG.gs rfl rfl rfl (fun hp => (PV.field rfl Fo52_0 rfl)) ?_
    refine RG.gs rfl rfl rfl (fun hp => (PV.load1 rfl Sc2 (gs_t hp) (Rd.blk rfl))) ?_
    refine RG.gsC rfl rfl rfl rfl En97 (fun hp => ⟨_, (acons (gs_t hp) anil), hasOther_s ⟨rfl, rfl, rfl⟩⟩) ?_
    refine RG.gs rfl rfl rfl (fun hp => (PV.not rfl (gs_t hp))) ?_
    refine RG.gs rfl rfl rfl (fun hp => (PV.mvB (.inl rfl) (gs_t hp))) ?_
    refine RG.gs2 rfl rfl rfl (fun hp => (PV.field rfl Fo52_2 rfl)) ?_
    refine RG.gs2 rfl rfl rfl (fun hp => (PV.load1 rfl Sc2 (gs_t hp) (Rd.blk rfl))) ?_
    refine RG.gs2 rfl rfl rfl (fun hp => (PV.neq rfl (gs_t hp) rfl)) ?_
    refine RG.gs rfl rfl rfl (fun hp => (PV.pickA rfl (gs_t hp) (fun hq => gs_t (gandT hp hq)) rfl)) ?_
    refine RG.pv rfl (PV.pickO rfl rfl rfl (fun hq => gs_t (geqF hq))) ?_
    refine RG.nil ?_
  -- STOP: cond
    refine WP.cond rfl (fun h2 => ?_) (fun h2 => ?_)
    · rw [okOther_false h2, Bool.false_and] at k
      refine WP.seq ?_
      refine WP.region ?_
      refine RG.pv rfl (PV.mvB (.inr rfl) rfl) ?_
      refine RG.nil ?_
      refine WP.ret ?_
  -- STOP: ret
      exact ⟨_, _, ResV.one rfl rfl, Cv.p, k⟩
    · rw [okOther_true h2, Bool.true_and] at k
      refine WP.skip ?_
      refine WP.seq ?_
      refine WP.seq ?_
      refine WP.region ?_
      refine RG.pv rfl (PV.field rfl Fo52_0 rfl) ?_
      refine RG.pv rfl (PV.load1 rfl Sc2 rfl (Rd.blk rfl)) ?_
      refine RG.nil ?_
      refine WP.block ?_
      refine WP.seq ?_
      refine WP.region ?_
      refine RG.pv rfl (PV.eql rfl rfl rfl) ?_
      refine RG.pv rfl (PV.mvB (.inr rfl) rfl) ?_
      refine RG.nil ?_
  -- STOP: cond
      refine WP.cond rfl (fun h3 => ?_) (fun h3 => ?_)
      · have h3 := of_decide_eq_true h3
        rw [okVal, if_pos h3, okPct, if_neg (by omega)] at k
        refine WP.seq ?_
        refine WP.region ?_
        refine RG.pv rfl (PV.field rfl Fo52_3 rfl) ?_
        refine RG.pv rfl (PV.load1 rfl Sc2 rfl (Rd.blk rfl)) ?_
        refine RG.callF (vs := [_, _, _]) rfl rfl En158 rfl (within_s ?_)
        refine RG.pv rfl (PV.mvB (.inl rfl) rfl) ?_
        refine RG.gs rfl rfl rfl (fun hp => (PV.field rfl Fo52_4 rfl)) ?_
        refine RG.gs rfl rfl rfl (fun hp => (PV.load1 rfl Sc2 (gs_t hp) (Rd.blk rfl))) ?_
        refine RG.gs rfl rfl rfl (fun hp => (PV.eql rfl (gs_t hp) rfl)) ?_
        refine RG.pv rfl (PV.pickA rfl rfl (fun hq => gs_t (geqT hq)) rfl) ?_
        refine RG.pv rfl (PV.mvB (.inr rfl) rfl) ?_
        refine RG.nil ?_
        refine WP.ret ?_
  -- STOP: ret
        exact ⟨_, _, ResV.one rfl rfl, Cv.p, k⟩
      · have h3 := of_decide_eq_false h3
        rw [okVal, if_neg h3] at k
        refine WP.seq ?_
        refine WP.region ?_
        refine RG.pv rfl (PV.eql rfl rfl rfl) ?_
        refine RG.pv rfl (PV.mvB (.inr rfl) rfl) ?_
        refine RG.nil ?_
  -- STOP: cond
        refine WP.cond rfl (fun h4 => ?_) (fun h4 => ?_)
        · have h4 := of_decide_eq_true h4
          rw [if_pos h4, okPct, if_pos h4] at k
          refine WP.seq ?_
          refine WP.region ?_
          refine RG.pv rfl (PV.field rfl Fo52_3 rfl) ?_
          refine RG.pv rfl (PV.load1 rfl Sc2 rfl (Rd.blk rfl)) ?_
          refine RG.callF (vs := [_, _, _]) rfl rfl En158 rfl (within_s ?_)
          refine RG.pv rfl (PV.mvB (.inl rfl) rfl) ?_
          refine RG.gs rfl rfl rfl (fun hp => (PV.field rfl Fo52_4 rfl)) ?_
          refine RG.gs rfl rfl rfl (fun hp => (PV.load1 rfl Sc2 (gs_t hp) (Rd.blk rfl))) ?_
          refine RG.gsC rfl rfl rfl rfl En158 (fun hp => ⟨_, (acons (gs_t hp) (acons rfl (acons rfl anil))), within_s ⟨rfl, rfl, rfl⟩⟩) ?_
          refine RG.pv rfl (PV.pickA rfl rfl (fun hq => gs_t (geqT hq)) rfl) ?_
          refine RG.pv rfl (PV.mvB (.inr rfl) rfl) ?_
          refine RG.nil ?_
          refine WP.ret ?_
  -- STOP: ret
          exact ⟨_, _, ResV.one rfl rfl, Cv.p, k⟩
        · have h4 := of_decide_eq_false h4
          rw [if_neg h4, okPct, if_neg h4] at k
          refine WP.skip ?_
          refine WP.seq ?_
          refine WP.region ?_
          refine RG.pv rfl (PV.field rfl Fo52_3 rfl) ?_
          refine RG.pv rfl (PV.load1 rfl Sc2 rfl (Rd.blk rfl)) ?_
          refine RG.callF (vs := [_, _, _]) rfl rfl En158 rfl (within_s ?_)
          refine RG.pv rfl (PV.mvB (.inl rfl) rfl) ?_
          refine RG.gs rfl rfl rfl (fun hp => (PV.field rfl Fo52_4 rfl)) ?_
          refine RG.gs rfl rfl rfl (fun hp => (PV.load1 rfl Sc2 (gs_t hp) (Rd.blk rfl))) ?_
          refine RG.gs rfl rfl rfl (fun hp => (PV.eql rfl (gs_t hp) rfl)) ?_
          refine RG.pv rfl (PV.pickA rfl rfl (fun hq => gs_t (geqT hq)) rfl) ?_
          refine RG.pv rfl (PV.mvB (.inr rfl) rfl) ?_
          refine RG.nil ?_
          refine WP.ret ?_
  -- STOP: ret
          exact ⟨_, _, ResV.one rfl rfl, Cv.p, k⟩
def reach (r : Rule) : Int := bif validRule r && decide (r.kind ≤ 3) then r.value else -1
theorem reach_bd {r : Rule} (h : 0 ≤ reach r) : reach r ≤ 8 := by
  revert h; unfold reach
  cases hv : validRule r <;> cases hk : decide (r.kind ≤ 3) <;> simp
  have hk := of_decide_eq_true hk
  simp only [validRule, Bool.and_eq_true] at hv
  have := hv.1.2
  rw [okVal, if_neg (by omega), if_neg (by omega)] at this
  simp [within] at this; omega
theorem reach_neg (r : Rule) (h : (!validRule r || decide (3 < r.kind)) = true) : reach r = -1 := by
  revert h; unfold reach
  cases hv : validRule r <;> simp
  intro h; rw [decide_eq_false (by omega)]; rfl
theorem reach_pos (r : Rule) (h : (!validRule r || decide (3 < r.kind)) = false) : reach r = r.value := by
  revert h; unfold reach
  cases hv : validRule r <;> simp
  intro h; rw [decide_eq_true h]; rfl
theorem reach_s {r : Rule} (k : R (vi (reach r)) G L) : CallT Try.prog 156 #[vrule r] G L R := by
  refine CallT.enter (args := _) Try.func156 rfl rfl (by kernel_rfl) rfl ?_
  refine WP.seq ?_
  refine WP.region ?_
  refine RG.ot rfl (OT.box (cs := ruleT.enc r) rfl rfl rfl fun b1 => ?_)
  refine RG.pv rfl (PV.mvI (.inr rfl) rfl) ?_
  refine RG.nil ?_
  refine WP.seq ?_
  refine WP.seq ?_
  refine WP.region ?_
  refine RG.pv rfl (PV.loadW rfl Ag52 rfl rfl) ?_
  refine RG.callF (vs := [_]) rfl rfl En94 rfl (validRule_s ?_)
  refine RG.pv rfl (PV.not rfl rfl) ?_
  refine RG.pv rfl (PV.mvB (.inl rfl) rfl) ?_
  refine RG.gs rfl rfl rfl (fun hp => (PV.field rfl Fo52_0 rfl)) ?_
  refine RG.gs rfl rfl rfl (fun hp => (PV.load1 rfl Sc2 (gs_t hp) (Rd.blk rfl))) ?_
  refine RG.gs rfl rfl rfl (fun hp => (PV.gtr rfl (gs_t hp) rfl)) ?_
  refine RG.pv rfl (PV.pickO rfl rfl rfl (fun hq => gs_t (geqF hq))) ?_
  refine RG.nil ?_
  -- STOP: cond
  refine WP.cond rfl (fun h1 => ?_) (fun h1 => ?_)
  · rw [reach_neg r h1] at k
    refine WP.seq ?_
    refine WP.region ?_
    refine RG.pv rfl (PV.mvI (.inr rfl) rfl) ?_
    refine RG.nil ?_
    refine WP.ret ?_
  -- STOP: ret
    exact ⟨_, _, ResV.one rfl rfl, Cv.p, k⟩
  · rw [reach_pos r h1] at k
    refine WP.skip ?_
    refine WP.seq ?_
    refine WP.region ?_
    refine RG.pv rfl (PV.field rfl Fo52_3 rfl) ?_
    refine RG.pv rfl (PV.load1 rfl Sc2 rfl (Rd.blk rfl)) ?_
    refine RG.pv rfl (PV.mvI (.inr rfl) rfl) ?_
    refine RG.nil ?_
    refine WP.ret ?_
  -- STOP: ret
    exact ⟨_, _, ResV.one rfl rfl, Cv.p, k⟩
theorem reach_i {r : Rule} (k : R (vi (reach r)) G L) : CallT Try.prog 98 #[vrule r] G L R := by
  refine CallT.enter (args := _) Try.func98 rfl rfl (by kernel_rfl) rfl ?_
  refine WP.seq ?_
  refine WP.region ?_
  refine RG.ot rfl (OT.box (cs := ruleT.enc r) rfl rfl rfl fun b1 => ?_)
  refine RG.pv rfl (PV.mvI (.inr rfl) rfl) ?_
  refine RG.nil ?_
  refine WP.seq ?_
  refine WP.seq ?_
  refine WP.region ?_
  refine RG.pv rfl (PV.loadW rfl Ag52 rfl rfl) ?_
  refine RG.callF (vs := [_]) rfl rfl En96 rfl (validRule_i ?_)
  refine RG.pv rfl (PV.not rfl rfl) ?_
  refine RG.pv rfl (PV.mvB (.inl rfl) rfl) ?_
  refine RG.gs rfl rfl rfl (fun hp => (PV.field rfl Fo52_0 rfl)) ?_
  refine RG.gs rfl rfl rfl (fun hp => (PV.load1 rfl Sc2 (gs_t hp) (Rd.blk rfl))) ?_
  refine RG.gs rfl rfl rfl (fun hp => (PV.gtr rfl (gs_t hp) rfl)) ?_
  refine RG.pv rfl (PV.pickO rfl rfl rfl (fun hq => gs_t (geqF hq))) ?_
  refine RG.nil ?_
  -- STOP: cond
  refine WP.cond rfl (fun h1 => ?_) (fun h1 => ?_)
  · rw [reach_neg r h1] at k
    refine WP.seq ?_
    refine WP.region ?_
    refine RG.pv rfl (PV.mvI (.inr rfl) rfl) ?_
    refine RG.nil ?_
    refine WP.ret ?_
  -- STOP: ret
    exact ⟨_, _, ResV.one rfl rfl, Cv.p, k⟩
  · rw [reach_pos r h1] at k
    refine WP.skip ?_
    refine WP.seq ?_
    refine WP.region ?_
    refine RG.pv rfl (PV.field rfl Fo52_3 rfl) ?_
    refine RG.pv rfl (PV.load1 rfl Sc2 rfl (Rd.blk rfl)) ?_
    refine RG.pv rfl (PV.mvI (.inr rfl) rfl) ?_
    refine RG.nil ?_
    refine WP.ret ?_
  -- STOP: ret
    exact ⟨_, _, ResV.one rfl rfl, Cv.p, k⟩
theorem toRule_s {r : Rule} (k : R (vrule r) G L) : CallT Try.prog 37 #[vrule r] G L R := by
  refine CallT.enter (args := _) Try.func37 rfl rfl (by kernel_rfl) rfl ?_
  refine WP.seq ?_
  refine WP.region ?_
  refine RG.ot rfl (OT.box (cs := ruleT.enc r) rfl rfl rfl fun b1 => ?_)
  refine RG.ot rfl (OT.alloc rfl Zr52 fun b2 => ?_)
  refine RG.nil ?_
  refine WP.seq ?_
  refine WP.region ?_
  refine RG.ot rfl (OT.alloc rfl Zr52 fun b3 => ?_)
  refine RG.nil ?_
  refine WP.seq ?_
  refine WP.region ?_
  refine RG.pv rfl (PV.field rfl Fo50_0 rfl) ?_
  refine RG.pv rfl (PV.load1 rfl Sc2 rfl (Rd.blk rfl)) ?_
  refine RG.pv rfl (PV.field rfl Fo52_0 rfl) ?_
  refine RG.ot rfl (OT.storeB (vs := [vi _]) (cs' := [_, _, _, _, _]) rfl Sz2 rfl rfl (Cl.c rfl) rfl (OneC.c rfl) rfl rfl ?_)
  refine RG.nil ?_
  refine WP.seq ?_
  refine WP.region ?_
  refine RG.pv rfl (PV.field rfl Fo50_1 rfl) ?_
  refine RG.pv rfl (PV.load1 rfl Sc2 rfl (Rd.blk rfl)) ?_
  refine RG.pv rfl (PV.field rfl Fo52_1 rfl) ?_
  refine RG.ot rfl (OT.storeB (vs := [vi _]) (cs' := [_, _, _, _, _]) rfl Sz2 rfl rfl (Cl.c rfl) rfl (OneC.c rfl) rfl rfl ?_)
  refine RG.nil ?_
  refine WP.seq ?_
  refine WP.region ?_
  refine RG.pv rfl (PV.field rfl Fo50_2 rfl) ?_
  refine RG.pv rfl (PV.load1 rfl Sc2 rfl (Rd.blk rfl)) ?_
  refine RG.pv rfl (PV.field rfl Fo52_2 rfl) ?_
  refine RG.ot rfl (OT.storeB (vs := [vi _]) (cs' := [_, _, _, _, _]) rfl Sz2 rfl rfl (Cl.c rfl) rfl (OneC.c rfl) rfl rfl ?_)
  refine RG.nil ?_
  refine WP.seq ?_
  refine WP.region ?_
  refine RG.pv rfl (PV.field rfl Fo50_3 rfl) ?_
  refine RG.pv rfl (PV.load1 rfl Sc2 rfl (Rd.blk rfl)) ?_
  refine RG.pv rfl (PV.field rfl Fo52_3 rfl) ?_
  refine RG.ot rfl (OT.storeB (vs := [vi _]) (cs' := [_, _, _, _, _]) rfl Sz2 rfl rfl (Cl.c rfl) rfl (OneC.c rfl) rfl rfl ?_)
  refine RG.nil ?_
  refine WP.seq ?_
  refine WP.region ?_
  refine RG.pv rfl (PV.field rfl Fo50_4 rfl) ?_
  refine RG.pv rfl (PV.load1 rfl Sc2 rfl (Rd.blk rfl)) ?_
  refine RG.pv rfl (PV.field rfl Fo52_4 rfl) ?_
  refine RG.ot rfl (OT.storeB (vs := [vi _]) (cs' := [_, _, _, _, _]) rfl Sz2 rfl rfl (Cl.c rfl) rfl (OneC.c rfl) rfl rfl ?_)
  refine RG.nil ?_
  refine WP.seq ?_
  refine WP.region ?_
  refine RG.pv rfl (PV.loadW rfl Ag52 rfl rfl) ?_
  refine RG.ot rfl (OT.storeW (vs := [vi _, vi _, vi _, vi _, vi _]) rfl Sz52 rfl rfl (Cl.c rfl) rfl rfl (OneC.c rfl) ?_)
  refine RG.nil ?_
  refine WP.ret ?_
  -- STOP: ret
  exact ⟨_, _, ResV.one rfl (RV1.cell rfl Ag52 rfl), Cv.p, k⟩

/-! ## growing -/
theorem l05Row_s {v : Value} {bs : List Bool} {q : Int} {ac : Bool} (h1 : Rs G L boolT v bs) (hl : bs.length = 6400) (hq : 0 ≤ q ∧ q ≤ 100) (k : ∀ v', R v' G (osl 4 boolT v' (rowBits ac bs q) :: L)) : CallT Try.prog 192 #[v, vi q, .bool ac] G L R := by
  refine CallT.enter (args := _) Try.func192 rfl rfl (by kernel_rfl) rfl ?_
  refine WP.seq ?_
  refine WP.region ?_
  refine RG.pv rfl (PV.asg rfl rfl) ?_
  refine RG.nil ?_
  refine WP.seq ?_
  refine WP.region ?_
  refine RG.pv rfl (PV.move (v := v) rfl rfl) ?_
  refine RG.pv rfl (PV.len (v := v) rfl Try.underlying92 rfl (SlF.r h1)) ?_
  refine RG.ot rfl (OT.make (F := boolT) (a0 := false) rfl El92 rfl (by decide) rfl rfl (by omega) (by omega) fun v13 => ?_)
  refine RG.pv rfl (PV.asg (v := v13) rfl rfl) ?_
  refine RG.nil ?_
  refine WP.seq ?_
  refine WP.seq ?_
  refine WP.region ?_
  refine RG.pv rfl (PV.mvI (.inr rfl) rfl) ?_
  refine RG.nil ?_
  refine WP.block ?_
  -- STOP: loop
  refine WP.loop2 [0, 1, 2, 7] (fun (y : Int) (cs : List Bool) => -40 ≤ y ∧ y ≤ 40 ∧ cs.length = 6400 ∧ ∀ y' x', y' < 80 → x' < 80 → gb cs y' x' = (decide ((y' : Int) - 40 < y) && rowG ac bs q y' x')) (fun (y : Int) (cs : List Bool) => [(8, vi y)]) (fun (y : Int) (cs : List Bool) => osl 4 boolT v13 cs :: L) (fun (y : Int) (cs : List Bool) => (40 - y).toNat) (-40) (List.replicate bs.length false) ⟨by omega, by omega, by simp [hl], fun y' x' _ _ => by rw [hl, gb_rep]; simp; omega⟩ ⟨rfl, trivial⟩ Cv.p ?_
  rintro y cs τ ⟨hy0, hy1, hlc, hc⟩
  refine WP.seq ?_
  refine WP.seq ?_
  refine WP.region ?_
  refine RG.pv rfl (PV.mvI (.inl rfl) rfl) ?_
  refine RG.pv rfl (PV.lss rfl rfl rfl) ?_
  refine RG.nil ?_
  -- STOP: cond
  refine WP.cond rfl (fun h2 => ?_) (fun h2 => ?_)
  · have h2 := of_decide_eq_true h2
    refine WP.skip ?_
    refine WP.seq ?_
    refine WP.block ?_
    refine WP.seq ?_
    refine WP.region ?_
    refine RG.pv rfl (PV.mvI (.inr rfl) rfl) ?_
    refine RG.nil ?_
    refine WP.block ?_
  -- STOP: loop
    refine WP.loop2 [0, 1, 2, 7, 8] (fun (x : Int) (ds : List Bool) => -40 ≤ x ∧ x ≤ 40 ∧ ds.length = 6400 ∧ ∀ y' x', y' < 80 → x' < 80 → gb ds y' x' = (gb cs y' x' || (decide ((y' : Int) - 40 = y) && decide ((x' : Int) - 40 < x) && rowG ac bs q y' x'))) (fun (x : Int) (ds : List Bool) => [(9, vi x)]) (fun (x : Int) (ds : List Bool) => osl 4 boolT v13 ds :: L) (fun (x : Int) (ds : List Bool) => (40 - x).toNat) (-40) cs ⟨by omega, by omega, hlc, fun y' x' h1 h2 => by rw [Bool.eq_iff_iff]; simp; omega⟩ ⟨rfl, trivial⟩ Cv.p ?_
    rintro x ds τ1 ⟨hx0, hx1, hld, hd⟩
    refine WP.seq ?_
    refine WP.seq ?_
    refine WP.region ?_
    refine RG.pv rfl (PV.mvI (.inl rfl) rfl) ?_
    refine RG.pv rfl (PV.lss rfl rfl rfl) ?_
    refine RG.nil ?_
  -- STOP: cond
    refine WP.cond rfl (fun h3 => ?_) (fun h3 => ?_)
    · have h3 := of_decide_eq_true h3
      refine WP.skip ?_
      refine WP.seq ?_
      refine WP.block ?_
      refine WP.seq ?_
      refine WP.region ?_
      refine RG.pv rfl (PV.mvI (.inl rfl) rfl) ?_
      refine RG.pv rfl (PV.neg rfl rfl (by omega)) ?_
      refine RG.pv rfl (PV.mvI (.inr rfl) rfl) ?_
      refine RG.nil ?_
      refine WP.block ?_
  -- STOP: loop
      refine WP.loop2 [0, 1, 2, 7, 8, 9] (fun (d : Int) (es : List Bool) => -q ≤ d ∧ d ≤ q + 1 ∧ es.length = 6400 ∧ ∀ y' x', y' < 80 → x' < 80 → gb es y' x' = (gb ds y' x' || (decide ((y' : Int) - 40 = y) && decide ((x' : Int) - 40 = x) && anyTo (cnd ac bs x y) q d))) (fun (d : Int) (es : List Bool) => [(10, vi d)]) (fun (d : Int) (es : List Bool) => osl 4 boolT v13 es :: L) (fun (d : Int) (es : List Bool) => (q + 1 - d).toNat) (-q) ds ⟨by omega, by omega, hld, fun y' x' h1 h2 => by rw [anyTo_zero]; simp⟩ ⟨rfl, trivial⟩ Cv.p ?_
      rintro d es τ2 ⟨hd0, hd1, hle, he⟩
      refine WP.seq ?_
      refine WP.seq ?_
      refine WP.region ?_
      refine RG.pv rfl (PV.mvI (.inl rfl) rfl) ?_
      refine RG.pv rfl (PV.mvI (.inl rfl) rfl) ?_
      refine RG.pv rfl (PV.leq rfl rfl rfl) ?_
      refine RG.nil ?_
  -- STOP: cond
      refine WP.cond rfl (fun h4 => ?_) (fun h4 => ?_)
      · have h4 := of_decide_eq_true h4
        have hs := anyTo_succ (cnd ac bs x y) hd0
        refine WP.skip ?_
        refine WP.seq ?_
        refine WP.block ?_
        refine WP.seq ?_
        refine WP.region ?_
        refine RG.pv rfl (PV.mvB (.inl rfl) rfl) ?_
        refine RG.pv rfl (PV.mvB (.inl rfl) rfl) ?_
        refine RG.gs rfl rfl rfl (fun hp => (PV.move (v := v) rfl rfl)) ?_
        refine RG.gs rfl rfl rfl (fun hp => (PV.mvI (.inl rfl) rfl)) ?_
        refine RG.gs rfl rfl rfl (fun hp => (PV.mvI (.inl rfl) rfl)) ?_
        refine RG.gs rfl rfl rfl (fun hp => (PV.add rfl (gs_t hp) (gs_t hp) (by first | omega | (simp at hp; omega)))) ?_
        refine RG.gs rfl rfl rfl (fun hp => (PV.mvI (.inl rfl) rfl)) ?_
        refine RG.gsC rfl rfl rfl rfl En104 (fun hp => ⟨_, (acons (gs_t hp) (acons (gs_t hp) (acons (gs_t hp) anil))), l03Has_s (Rs.up h1) hl ⟨rfl, rfl, rfl⟩⟩) ?_
        refine RG.pv rfl (PV.pickA rfl rfl (fun hq => gs_t (geqT hq)) rfl) ?_
        refine RG.pv rfl (PV.mvB (.inl rfl) rfl) ?_
        refine RG.gs rfl rfl rfl (fun hp => (PV.mvB (.inl rfl) rfl)) ?_
        refine RG.gs rfl rfl rfl (fun hp => (PV.not rfl (gs_t hp))) ?_
        refine RG.gs rfl rfl rfl (fun hp => (PV.mvB (.inl rfl) (gs_t hp))) ?_
        refine RG.gs2 rfl rfl rfl (fun hp => (PV.move (v := v) rfl rfl)) ?_
        refine RG.gs2 rfl rfl rfl (fun hp => (PV.mvI (.inl rfl) rfl)) ?_
        refine RG.gs2 rfl rfl rfl (fun hp => (PV.mvI (.inl rfl) rfl)) ?_
        refine RG.gs2 rfl rfl rfl (fun hp => (PV.mvI (.inl rfl) rfl)) ?_
        refine RG.gs2 rfl rfl rfl (fun hp => (PV.add rfl (gs_t hp) (gs_t hp) (by first | omega | (simp at hp; omega)))) ?_
        refine RG.gsC2 rfl rfl rfl rfl En104 (fun hp => ⟨_, (acons (gs_t hp) (acons (gs_t hp) (acons (gs_t hp) anil))), l03Has_s (Rs.up h1) hl ⟨rfl, rfl, rfl⟩⟩) ?_
        refine RG.gs rfl rfl rfl (fun hp => (PV.pickA rfl (gs_t hp) (fun hq => gs_t (gandT hp hq)) rfl)) ?_
        refine RG.pv rfl (PV.pickO rfl rfl rfl (fun hq => gs_t (geqF hq))) ?_
        refine RG.nil ?_
  -- STOP: cond
        refine WP.cond rfl (fun h5 => ?_) (fun h5 => ?_)
        · have hcn : cnd ac bs x y d = true := h5
          rw [hcn, Bool.or_true] at hs
          refine WP.region ?_
          refine RG.pv rfl (PV.move (v := v13) rfl rfl) ?_
          refine RG.pv rfl (PV.mvI (.inl rfl) rfl) ?_
          refine RG.pv rfl (PV.mvI (.inl rfl) rfl) ?_
          refine RG.callF (vs := [_, _]) rfl rfl En126 rfl (l03At_s (by omega) ?_)
          refine RG.pv rfl (PV.idxS (j := ((y + 40) * 80 + x + 40).toNat) (v := v13) rfl Is92 rfl SlF.o rfl (by omega) (by omega)) ?_
          refine RG.ot rfl (OT.storeE (F := boolT) rfl Sz4 rfl rfl rfl (Cl.c rfl) (OneC.c rfl) (by omega) ?_)
          refine RG.nil ?_
          refine WP.region ?_
          refine RG.pv rfl (PV.mvI (.inl rfl) rfl) ?_
          refine RG.pv rfl (PV.add rfl rfl rfl (by omega)) ?_
          refine RG.pv rfl (PV.mvI (.inr rfl) rfl) ?_
          refine RG.nil ?_
  -- STOP: loopend
          refine ⟨rfl, d + 1, (es.set ((y + 40) * 80 + x + 40).toNat true), ⟨by omega, by omega, by simpa using hle, fun y' x' h6 h7 => ?_⟩, ⟨rfl, trivial⟩, ⟨rfl, rfl, rfl, rfl, rfl, rfl, trivial⟩, Cv.p, by omega⟩
          rw [show ((y + 40) * 80 + x + 40).toNat = (y + 40).toNat * 80 + (x + 40).toNat by omega, gb_set hle (by omega) (by omega) h7, he y' x' h6 h7, hs]
          by_cases c : (y' : Int) - 40 = y ∧ (x' : Int) - 40 = x
          · rw [if_pos (by omega)]; simp [c.1, c.2]
          · rw [if_neg (by omega)]
            have : (decide ((y' : Int) - 40 = y) && decide ((x' : Int) - 40 = x)) = false := by
              simp only [Bool.and_eq_false_iff, decide_eq_false_iff_not]; omega
            rw [this]; simp
        · have hcn : cnd ac bs x y d = false := h5
          rw [hcn, Bool.or_false] at hs
          refine WP.skip ?_
          refine WP.region ?_
          refine RG.pv rfl (PV.mvI (.inl rfl) rfl) ?_
          refine RG.pv rfl (PV.add rfl rfl rfl (by omega)) ?_
          refine RG.pv rfl (PV.mvI (.inr rfl) rfl) ?_
          refine RG.nil ?_
  -- STOP: loopend
          exact ⟨rfl, d + 1, es, ⟨by omega, by omega, hle, fun y' x' h6 h7 => by rw [he y' x' h6 h7, hs]⟩, ⟨rfl, trivial⟩, ⟨rfl, rfl, rfl, rfl, rfl, rfl, trivial⟩, Cv.p, by omega⟩
      · have h4 := of_decide_eq_false h4
        obtain rfl : d = q + 1 := by omega
        refine WP.exit ?_
        refine WP.region ?_
        refine RG.pv rfl (PV.mvI (.inl rfl) rfl) ?_
        refine RG.pv rfl (PV.add rfl rfl rfl (by omega)) ?_
        refine RG.pv rfl (PV.mvI (.inr rfl) rfl) ?_
        refine RG.nil ?_
  -- STOP: loopend
        refine ⟨rfl, x + 1, es, ⟨by omega, by omega, hle, fun y' x' h6 h7 => ?_⟩, ⟨rfl, trivial⟩, ⟨rfl, rfl, rfl, rfl, rfl, trivial⟩, Cv.p, by omega⟩
        rw [he y' x' h6 h7, hd y' x' h6 h7]
        by_cases c : (y' : Int) - 40 = y ∧ (x' : Int) - 40 = x
        · have hr : rowG ac bs q y' x' = anyTo (cnd ac bs x y) q (q + 1) := by rw [rowG, c.1, c.2]
          have e1 : decide ((x' : Int) - 40 < x) = false := by simp; omega
          have e2 : decide ((x' : Int) - 40 < x + 1) = true := by simp; omega
          rw [hr, e1, e2]
          simp [c.1, c.2]
        · have e1 : (decide ((y' : Int) - 40 = y) && decide ((x' : Int) - 40 = x)) = false := by
            simp only [Bool.and_eq_false_iff, decide_eq_false_iff_not]; omega
          have e2 : (decide ((y' : Int) - 40 = y) && decide ((x' : Int) - 40 < x + 1)) = (decide ((y' : Int) - 40 = y) && decide ((x' : Int) - 40 < x)) := by
            rw [Bool.eq_iff_iff]; simp; omega
          rw [e1, e2]; simp
    · have h3 := of_decide_eq_false h3
      refine WP.exit ?_
      refine WP.region ?_
      refine RG.pv rfl (PV.mvI (.inl rfl) rfl) ?_
      refine RG.pv rfl (PV.add rfl rfl rfl (by omega)) ?_
      refine RG.pv rfl (PV.mvI (.inr rfl) rfl) ?_
      refine RG.nil ?_
  -- STOP: loopend
      refine ⟨rfl, y + 1, ds, ⟨by omega, by omega, hld, fun y' x' h6 h7 => ?_⟩, ⟨rfl, trivial⟩, ⟨rfl, rfl, rfl, rfl, trivial⟩, Cv.p, by omega⟩
      rw [hd y' x' h6 h7, hc y' x' h6 h7]
      cases rowG ac bs q y' x'
      · simp
      · rw [Bool.eq_iff_iff]; simp; omega
  · have h2 := of_decide_eq_false h2
    have e : cs = rowBits ac bs q := gb_ext hlc (rowBits_len _ _ _) fun y' x' h6 h7 => by
      rw [hc y' x' h6 h7, gb_row h6 h7]
      have : decide ((y' : Int) - 40 < y) = true := by simp; omega
      rw [this]; rfl
    subst e
    refine WP.exit ?_
    refine WP.seq ?_
    refine WP.region ?_
    refine RG.pv rfl (PV.move (v := v13) rfl rfl) ?_
    refine RG.pv rfl (PV.asg (v := v13) rfl rfl) ?_
    refine RG.nil ?_
    refine WP.ret ?_
  -- STOP: ret
    exact ⟨_, _, ResV.one rfl rfl, Cv.p, k v13⟩
theorem growBits_s {v : Value} {bs : List Bool} {q : Int} (h1 : Rs G L boolT v bs) (hl : bs.length = 6400) (hq : 0 ≤ q ∧ q ≤ 100) (k : ∀ v', R v' G (osl 4 boolT v' (growB bs q) :: L)) : CallT Try.prog 157 #[v, vi q] G L R := by
  rw [growB] at k
  refine CallT.enter (args := _) Try.func157 rfl rfl (by kernel_rfl) rfl ?_
  refine WP.seq ?_
  refine WP.region ?_
  refine RG.pv rfl (PV.asg rfl rfl) ?_
  refine RG.nil ?_
  refine WP.seq ?_
  refine WP.region ?_
  refine RG.pv rfl (PV.move (v := v) rfl rfl) ?_
  refine RG.pv rfl (PV.mvI (.inl rfl) rfl) ?_
  refine RG.callF (vs := [v, _, _]) rfl rfl En192 rfl (l05Row_s (Rs.up h1) hl hq (fun v7 => ?_))
  refine RG.pv rfl (PV.mvI (.inl rfl) rfl) ?_
  refine RG.callF (vs := [v7, _, _]) rfl rfl En192 rfl (l05Row_s Rs.o (rowBits_len _ _ _) hq (fun v9 => ?_))
  refine RG.pv rfl (PV.asg (v := v9) rfl rfl) ?_
  refine RG.nil ?_
  refine WP.ret ?_
  -- STOP: ret
  exact ⟨_, _, ResV.one rfl rfl, Cv.p, k v9⟩
theorem grown_s {v : Value} {xs : List Rect} {q : Int} (h1 : Rs G L rectT v xs) (hr : ∀ r ∈ xs, -40 ≤ r.x0 ∧ r.x0 < r.x1 ∧ r.x1 ≤ 40 ∧ -40 ≤ r.y0 ∧ r.y0 < r.y1 ∧ r.y1 ≤ 40) (hq : 0 ≤ q ∧ q ≤ 100) (k : ∀ b, R (.pointer (some ⟨b, 0, none⟩)) G (grd b (growB (bits xs) q) :: L)) : CallT Try.prog 159 #[v, vi q] G L R := by
  refine CallT.bd h1 fun hb => ?_
  refine CallT.enter (args := _) Try.func159 rfl rfl (by kernel_rfl) rfl ?_
  refine WP.seq ?_
  refine WP.region ?_
  refine RG.pv rfl (PV.asg rfl rfl) ?_
  refine RG.nil ?_
  refine WP.seq ?_
  refine WP.region ?_
  refine RG.pv rfl (PV.build0 rfl Try.underlying168 ⟨80, by kernel_rfl⟩ (zeroB_spec (n := 6400) (by kernel_rfl))) ?_
  refine RG.ot rfl (OT.boxG rfl rfl fun b9 => ?_)
  refine RG.pv rfl (PV.mvP (.inr rfl) rfl) ?_
  refine RG.nil ?_
  refine WP.seq ?_
  refine WP.seq ?_
  refine WP.region ?_
  refine RG.pv rfl (PV.move (v := v) rfl rfl) ?_
  refine RG.pv rfl (PV.len (v := v) rfl Try.underlying24 rfl (SlF.r h1)) ?_
  refine RG.pv rfl (PV.mvI (.inl rfl) rfl) ?_
  refine RG.nil ?_
  refine WP.block ?_
  -- STOP: loop
  refine WP.loop2 [1, 5, 10, 11] (fun (i : Nat) (cs : List Bool) => i ≤ xs.length ∧ cs.length = 6400 ∧ ∀ y x, y < 80 → x < 80 → gb cs y x = (xs.take i).any fun r => inR (enl q r) y x) (fun (i : Nat) (cs : List Bool) => [(12, vi i)]) (fun (i : Nat) (cs : List Bool) => grd b9 cs :: L) (fun (i : Nat) (cs : List Bool) => xs.length - i) 0 (List.replicate 6400 false) ⟨by omega, by simp, fun y x _ _ => by rw [gb_rep]; simp⟩ ⟨rfl, trivial⟩ Cv.p ?_
  rintro i cs τ ⟨hi, hl, hc⟩
  refine WP.seq ?_
  refine WP.region ?_
  refine RG.pv rfl (PV.lss rfl rfl rfl) ?_
  refine RG.nil ?_
  refine WP.seq ?_
  -- STOP: cond
  refine WP.cond rfl (fun h2 => ?_) (fun h2 => ?_)
  · have h2 := of_decide_eq_true h2
    have h3 := hr (gd xs i) (by rw [gd_eq (by omega)]; exact List.getElem_mem _)
    refine WP.skip ?_
    refine WP.seq ?_
    refine WP.block ?_
    refine WP.seq ?_
    refine WP.region ?_
    refine RG.pv rfl (PV.idxS (v := v) rfl Is24 rfl (SlF.r h1) rfl rfl (by omega)) ?_
    refine RG.pv rfl (PV.loadE rfl Ag81 rfl rfl (El.r h1 (getG (by omega)))) ?_
    refine RG.ot rfl (OT.alloc rfl Zr81 fun b7 => ?_)
    refine RG.ot rfl (OT.storeW (vs := [vi _, vi _, vi _, vi _]) rfl Sz81 rfl rfl (Cl.c rfl) rfl rfl (OneC.c rfl) ?_)
    refine RG.nil ?_
    refine WP.region ?_
    refine RG.pv rfl (PV.mvP (.inl rfl) rfl) ?_
    refine RG.pv rfl (PV.field rfl Fo81_0 rfl) ?_
    refine RG.pv rfl (PV.load1 rfl Sc2 rfl (Rd.blk rfl)) ?_
    refine RG.pv rfl (PV.mvI (.inl rfl) rfl) ?_
    refine RG.pv rfl (PV.sub rfl rfl rfl (by omega)) ?_
    refine RG.pv rfl (PV.field rfl Fo81_1 rfl) ?_
    refine RG.pv rfl (PV.load1 rfl Sc2 rfl (Rd.blk rfl)) ?_
    refine RG.pv rfl (PV.mvI (.inl rfl) rfl) ?_
    refine RG.pv rfl (PV.sub rfl rfl rfl (by omega)) ?_
    refine RG.pv rfl (PV.field rfl Fo81_2 rfl) ?_
    refine RG.pv rfl (PV.load1 rfl Sc2 rfl (Rd.blk rfl)) ?_
    refine RG.pv rfl (PV.mvI (.inl rfl) rfl) ?_
    refine RG.pv rfl (PV.add rfl rfl rfl (by omega)) ?_
    refine RG.pv rfl (PV.field rfl Fo81_3 rfl) ?_
    refine RG.pv rfl (PV.load1 rfl Sc2 rfl (Rd.blk rfl)) ?_
    refine RG.pv rfl (PV.mvI (.inl rfl) rfl) ?_
    refine RG.pv rfl (PV.add rfl rfl rfl (by omega)) ?_
    refine RG.pv rfl (PV.build (vs := [(0, [vi _]), (1, [vi _]), (2, [vi _]), (3, [vi _])]) (out := [_, _, _, _]) rfl Zr81 Pl81 ⟨rfl, (Cl.c rfl), ⟨rfl, (Cl.c rfl), ⟨rfl, (Cl.c rfl), ⟨rfl, (Cl.c rfl), trivial⟩⟩⟩⟩ rfl) ?_
    refine RG.callF (vs := [(.pointer (some ⟨b9, 0, none⟩)), _]) rfl rfl En145 rfl (CallT.exB (put_s (r := ⟨_, _, _, _⟩) (by assumption) (fun bs' hb' hg' => ?_)))
    refine RG.nil ?_
    refine WP.region ?_
    refine RG.pv rfl (PV.add rfl rfl rfl (by omega)) ?_
    refine RG.pv rfl (PV.mvI (.inl rfl) rfl) ?_
    refine RG.nil ?_
  -- STOP: loopend
    refine ⟨rfl, i + 1, bs', ⟨by omega, hb', fun y x h5 h6 => ?_⟩, ⟨rfl, trivial⟩, ⟨rfl, rfl, rfl, rfl, trivial⟩, Cv.p, by omega⟩
    rw [hg' y x h5 h6, hc y x h5 h6, List.take_add_one, getG (by omega), List.any_append]; simp [enl]
  · have h2 := of_decide_eq_false h2
    have e : cs = growB (bits xs) q := gb_ext hl (growB_len _ _) fun y x h5 h6 => by
      rw [hc y x h5 h6, List.take_of_length_le (by omega)]; exact grow_enl hq.1 hr h5 h6
    subst e
    refine WP.exit ?_
    refine WP.seq ?_
    refine WP.region ?_
    refine RG.pv rfl (PV.mvP (.inl rfl) rfl) ?_
    refine RG.pv rfl (PV.mvP (.inr rfl) rfl) ?_
    refine RG.nil ?_
    refine WP.ret ?_
  -- STOP: ret
    exact ⟨_, _, ResV.one rfl rfl, Cv.p, k b9⟩
theorem grow_s {v : Value} {xs : List Rect} {q : Int} (h1 : Rs G L rectT v xs) (hr : ∀ r ∈ xs, -40 ≤ r.x0 ∧ r.x0 < r.x1 ∧ r.x1 ≤ 40 ∧ -40 ≤ r.y0 ∧ r.y0 < r.y1 ∧ r.y1 ≤ 40) (hq : 0 ≤ q ∧ q ≤ 100) (k : ∀ v', R v' G (osl 81 rectT v' (canon (growB (bits xs) q)) :: L)) : CallT Try.prog 99 #[v, vi q] G L R := by
  refine CallT.enter (args := _) Try.func99 rfl rfl (by kernel_rfl) rfl ?_
  refine WP.seq ?_
  refine WP.region ?_
  refine RG.pv rfl (PV.asg rfl rfl) ?_
  refine RG.nil ?_
  refine WP.seq ?_
  refine WP.region ?_
  refine RG.pv rfl (PV.move (v := v) rfl rfl) ?_
  refine RG.pv rfl (PV.mvI (.inl rfl) rfl) ?_
  refine RG.callF (vs := [v, _]) rfl rfl En159 rfl (grown_s (Rs.up h1) hr hq (fun b7 => ?_))
  refine RG.callF (vs := [_]) rfl rfl En142 rfl (CallT.exB (region_s (growB_len _ _) (fun v8 => ?_)))
  refine RG.pv rfl (PV.asg (v := v8) rfl rfl) ?_
  refine RG.nil ?_
  refine WP.ret ?_
  -- STOP: ret
  exact ⟨_, _, ResV.one rfl rfl, Cv.p, k v8⟩
theorem l03Count_s {v : Value} {bs : List Bool} (h1 : Rs G L boolT v bs) (hl : bs.length = 6400) (k : R (vi (cnt bs)) G L) : CallT Try.prog 107 #[v] G L R := by
  refine CallT.enter (args := _) Try.func107 rfl rfl (by kernel_rfl) rfl ?_
  refine WP.seq ?_
  refine WP.region ?_
  refine RG.pv rfl (PV.mvI (.inr rfl) rfl) ?_
  refine RG.nil ?_
  refine WP.seq ?_
  refine WP.region ?_
  refine RG.pv rfl (PV.mvI (.inr rfl) rfl) ?_
  refine RG.nil ?_
  refine WP.seq ?_
  refine WP.seq ?_
  refine WP.region ?_
  refine RG.pv rfl (PV.mvI (.inr rfl) rfl) ?_
  refine RG.nil ?_
  refine WP.block ?_
  -- STOP: loop
  refine WP.loop2 [0] (fun (i : Nat) (m : Int) => i ≤ bs.length ∧ m = cnt (bs.take i)) (fun (i : Nat) (m : Int) => [(4, vi i), (3, vi m)]) (fun (i : Nat) (m : Int) => L) (fun (i : Nat) (m : Int) => bs.length - i) 0 0 ⟨by omega, by simp [cnt]⟩ ⟨rfl, rfl, trivial⟩ Cv.p ?_
  rintro i m τ ⟨hi, hm⟩
  refine WP.seq ?_
  refine WP.seq ?_
  refine WP.region ?_
  refine RG.pv rfl (PV.mvI (.inl rfl) rfl) ?_
  refine RG.pv rfl (PV.move (v := v) rfl rfl) ?_
  refine RG.pv rfl (PV.len (v := v) rfl Try.underlying92 rfl (SlF.r h1)) ?_
  refine RG.pv rfl (PV.lss rfl rfl rfl) ?_
  refine RG.nil ?_
  -- STOP: cond
  refine WP.cond rfl (fun h2 => ?_) (fun h2 => ?_)
  · have h2 := of_decide_eq_true h2
    have hct := cnt_take (bs := bs) (i := i) (by omega)
    have hcb := cnt_le (bs.take i)
    have hcl : (bs.take i).length ≤ 6400 := by simp; omega
    refine WP.skip ?_
    refine WP.seq ?_
    refine WP.block ?_
    refine WP.seq ?_
    refine WP.region ?_
    refine RG.pv rfl (PV.move (v := v) rfl rfl) ?_
    refine RG.pv rfl (PV.mvI (.inl rfl) rfl) ?_
    refine RG.pv rfl (PV.idxS (v := v) rfl Is92 rfl (SlF.r h1) rfl rfl (by omega)) ?_
    refine RG.pv rfl (PV.loadE1 rfl Sc4 rfl rfl (El.r h1 (getG (by omega))) rfl) ?_
    refine RG.nil ?_
  -- STOP: cond
    refine WP.cond rfl (fun h3 => ?_) (fun h3 => ?_)
    · rw [h3] at hct
      refine WP.region ?_
      refine RG.pv rfl (PV.mvI (.inl rfl) rfl) ?_
      refine RG.pv rfl (PV.add rfl rfl rfl (by omega)) ?_
      refine RG.pv rfl (PV.mvI (.inr rfl) rfl) ?_
      refine RG.nil ?_
      refine WP.region ?_
      refine RG.pv rfl (PV.mvI (.inl rfl) rfl) ?_
      refine RG.pv rfl (PV.add rfl rfl rfl (by omega)) ?_
      refine RG.pv rfl (PV.mvI (.inr rfl) rfl) ?_
      refine RG.nil ?_
  -- STOP: loopend
      exact ⟨rfl, i + 1, _, ⟨by omega, by simp only [cond_true] at hct; omega⟩, ⟨rfl, rfl, trivial⟩, ⟨rfl, trivial⟩, Cv.p, by omega⟩
    · rw [h3] at hct
      refine WP.skip ?_
      refine WP.region ?_
      refine RG.pv rfl (PV.mvI (.inl rfl) rfl) ?_
      refine RG.pv rfl (PV.add rfl rfl rfl (by omega)) ?_
      refine RG.pv rfl (PV.mvI (.inr rfl) rfl) ?_
      refine RG.nil ?_
  -- STOP: loopend
      exact ⟨rfl, i + 1, _, ⟨by omega, by simp only [cond_false] at hct; omega⟩, ⟨rfl, rfl, trivial⟩, ⟨rfl, trivial⟩, Cv.p, by omega⟩
  · have h2 := of_decide_eq_false h2
    have e : m = cnt bs := by rw [hm, List.take_of_length_le (by omega)]
    rw [← e] at k
    refine WP.exit ?_
    refine WP.seq ?_
    refine WP.region ?_
    refine RG.pv rfl (PV.mvI (.inl rfl) rfl) ?_
    refine RG.pv rfl (PV.mvI (.inr rfl) rfl) ?_
    refine RG.nil ?_
    refine WP.ret ?_
  -- STOP: ret
    exact ⟨_, _, ResV.one rfl rfl, Cv.p, k⟩

/-! ## recheck areas -/
def layersOf (r : Rule) : List Nat := r.layer.toNat :: (bif paired r.kind then [r.other.toNat] else [])
abbrev fullR : Rect := ⟨-40, -40, 40, 40⟩
def recOf (b : List Bool) (r : Rule) : List Rect := if 0 ≤ reach r then canon (growB b (reach r)) else if cnt b = 0 then [] else [fullR]
def recB (l m : List (List Rect)) (r : Rule) : Bool := isLay l && isLay m && validRule r
def recR (l m : List (List Rect)) (r : Rule) : List Rect := bif recB l m r then recOf (orL l m (layersOf r)) r else []
def recE (l m : List (List Rect)) (r : Rule) : Int := bif recB l m r then 0 else 1
theorem recR_len (l m : List (List Rect)) (r : Rule) : (recR l m r).length ≤ 3200 := by
  unfold recR; cases recB l m r
  · simp
  · simp only [cond_true, recOf]
    split
    · exact canon_len _
    · split <;> simp
theorem validRule_bd {r : Rule} (h : validRule r = true) : 0 ≤ r.layer ∧ r.layer ≤ 7 ∧ (paired r.kind = true → 0 ≤ r.other ∧ r.other ≤ 7) := by
  simp only [validRule, Bool.and_eq_true] at h
  obtain ⟨⟨⟨⟨_, h2⟩, h3⟩, _⟩, _⟩ := h
  simp only [within, Bool.and_eq_true, decide_eq_true_eq] at h2
  refine ⟨h2.1, h2.2, fun hp => ?_⟩
  rw [okOther, hp] at h3
  simp [within] at h3; omega
theorem orB_nil {b : List Bool} (h : b.length = 6400) : orB (bits []) b = b := gb_ext (zipB_len (bits_length _) h) h fun y x hy hx => by
  rw [gb_zip (bits_length _) h hy hx, gb_bits [] hy hx]; simp
theorem orL_one (l m : List (List Rect)) (k : Nat) : orL l m [k] = chgB l m k := orB_nil (chgB_len l m k)
theorem recB_cases {l m : List (List Rect)} {r : Rule} (h : (!isLay l || !isLay m || !validRule r) = true) : recB l m r = false := by
  unfold recB; revert h; cases isLay l <;> cases isLay m <;> cases validRule r <;> simp
theorem recB_true {l m : List (List Rect)} {r : Rule} (h : (!isLay l || !isLay m || !validRule r) = false) : isLay l = true ∧ isLay m = true ∧ validRule r = true := by
  revert h; cases isLay l <;> cases isLay m <;> cases validRule r <;> simp
theorem l22Area_s {v u : Value} {xs ys : List (Sl Rect)} {r : Rule} (h1 : Rs G L slT v xs) (hd : RsE G L rectT xs) (h2 : Rs G L slT u ys) (hd' : RsE G L rectT ys) (hx : isLay (er xs) = true) (hy : isLay (er ys) = true) (hr : validRule r = true) (k : ∀ v', R v' G (osl 81 rectT v' (recOf (orL (er xs) (er ys) (layersOf r)) r) :: L)) : CallT Try.prog 95 #[v, u, vrule r] G L R := by
  obtain ⟨hr1, hr2, hr3⟩ := validRule_bd hr
  have e1 := fun k => orL_one (er xs) (er ys) k
  have e2 : ∀ a b, orL (er xs) (er ys) [a, b] = orB (orL (er xs) (er ys) [a]) (chgB (er xs) (er ys) b) := fun a b => orL_snoc _ _ [a] b
  refine CallT.enter (args := _) Try.func95 rfl rfl (by kernel_rfl) rfl ?_
  refine WP.seq ?_
  refine WP.region ?_
  refine RG.ot rfl (OT.box (cs := ruleT.enc r) rfl rfl rfl fun b5 => ?_)
  refine RG.pv rfl (PV.asg rfl rfl) ?_
  refine RG.nil ?_
  refine WP.seq ?_
  refine WP.region ?_
  refine RG.pv rfl (PV.move (v := v) rfl rfl) ?_
  refine RG.pv rfl (PV.move (v := u) rfl rfl) ?_
  refine RG.pv rfl (PV.field rfl Fo52_1 rfl) ?_
  refine RG.pv rfl (PV.load1 rfl Sc2 rfl (Rd.blk rfl)) ?_
  refine RG.callF (vs := [v, u, _]) rfl rfl En72 rfl (l22Changed_s (Rs.up h1) hd.up (Rs.up h2) hd'.up hx hy (by omega) (fun v12 => ?_))
  refine RG.pv rfl (PV.asg (v := v12) rfl rfl) ?_
  refine RG.nil ?_
  refine WP.cut1 [5] (fun (q : Value) => True) (fun (q : Value) => [(7, q)]) (fun (q : Value) => osl 4 boolT q (orL (er xs) (er ys) (layersOf r)) :: blk b5 52 (ruleT.enc r) :: L) ?_ ?_
  refine WP.seq ?_
  refine WP.region ?_
  refine RG.pv rfl (PV.loadW rfl Ag52 rfl rfl) ?_
  refine RG.callF (vs := [_]) rfl rfl En155 rfl (l20Paired_s ?_)
  refine RG.nil ?_
  -- STOP: cond
  refine WP.cond rfl (fun h3 => ?_) (fun h3 => ?_)
  · have hr4 := hr3 h3
    refine WP.region ?_
    refine RG.pv rfl (PV.move (v := v12) rfl rfl) ?_
    refine RG.pv rfl (PV.move (v := v) rfl rfl) ?_
    refine RG.pv rfl (PV.move (v := u) rfl rfl) ?_
    refine RG.pv rfl (PV.field rfl Fo52_2 rfl) ?_
    refine RG.pv rfl (PV.load1 rfl Sc2 rfl (Rd.blk rfl)) ?_
    refine RG.callF (vs := [v, u, _]) rfl rfl En72 rfl (l22Changed_s (Rs.up h1) hd.up (Rs.up h2) hd'.up hx hy (by omega) (fun v20 => ?_))
    refine RG.callF (vs := [v12, v20, _]) rfl rfl En71 rfl (l04Combine_s Rs.o Rs.o (chgB_len _ _ _) (chgB_len _ _ _) (by omega) (fun v21 => ?_))
    refine RG.pv rfl (PV.asg (v := v21) rfl rfl) ?_
    refine RG.nil ?_
  -- STOP: cutend
    exact ⟨rfl, v21, trivial, ⟨rfl, trivial⟩, ⟨rfl, trivial⟩, (Cv.p (C := osl 4 boolT v21 (zipB (opF 14) (chgB (er xs) (er ys) r.layer.toNat) (chgB (er xs) (er ys) r.other.toNat)) :: blk b5 52 (ruleT.enc r) :: L)).trans (Cv.eqS (by rw [layersOf, h3, cond_true, e2, e1, opF_or]))⟩
  · refine WP.skip ?_
  -- STOP: cutend
    exact ⟨rfl, v12, trivial, ⟨rfl, trivial⟩, ⟨rfl, trivial⟩, (Cv.p (C := osl 4 boolT v12 (chgB (er xs) (er ys) r.layer.toNat) :: blk b5 52 (ruleT.enc r) :: L)).trans (Cv.eqS (by rw [layersOf, h3, cond_false, e1]))⟩
  rintro q τ1 -
  refine WP.seq ?_
  refine WP.seq ?_
  refine WP.region ?_
  refine RG.pv rfl (PV.loadW rfl Ag52 rfl rfl) ?_
  refine RG.callF (vs := [_]) rfl rfl En156 rfl (reach_s ?_)
  refine RG.pv rfl (PV.geq rfl rfl rfl) ?_
  refine RG.nil ?_
  -- STOP: cond
  have hB := orL_len (er xs) (er ys) (layersOf r)
  refine WP.cond rfl (fun h4 => ?_) (fun h4 => ?_)
  · have e : recOf (orL (er xs) (er ys) (layersOf r)) r = canon (growB (orL (er xs) (er ys) (layersOf r)) (reach r)) := by rw [recOf, if_pos (of_decide_eq_true h4)]
    rw [e] at k
    refine WP.seq ?_
    refine WP.region ?_
    refine RG.pv rfl (PV.move (v := q) rfl rfl) ?_
    refine RG.pv rfl (PV.loadW rfl Ag52 rfl rfl) ?_
    refine RG.callF (vs := [_]) rfl rfl En156 rfl (reach_s ?_)
    refine RG.callF (vs := [q, _]) rfl rfl En157 rfl (growBits_s Rs.o (orL_len _ _ _) (by have h := of_decide_eq_true h4; have := reach_bd h; exact ⟨h, by omega⟩) (fun v28 => ?_))
    refine RG.callF (vs := [v28]) rfl rfl En73 rfl (l03Canon_s Rs.o (growB_len _ _) (fun v29 => ?_))
    refine RG.pv rfl (PV.asg (v := v29) rfl rfl) ?_
    refine RG.nil ?_
    refine WP.ret ?_
  -- STOP: ret
    exact ⟨_, _, ResV.one rfl rfl, Cv.p, k v29⟩
  · have h4' := of_decide_eq_false h4
    refine WP.skip ?_
    refine WP.seq ?_
    refine WP.seq ?_
    refine WP.region ?_
    refine RG.pv rfl (PV.move (v := q) rfl rfl) ?_
    refine RG.callF (vs := [q]) rfl rfl En107 rfl (l03Count_s Rs.o (orL_len _ _ _) ?_)
    refine RG.pv rfl (PV.eql rfl rfl rfl) ?_
    refine RG.nil ?_
  -- STOP: cond
    refine WP.cond rfl (fun h5 => ?_) (fun h5 => ?_)
    · have e : recOf (orL (er xs) (er ys) (layersOf r)) r = [] := by rw [recOf, if_neg h4', if_pos (of_decide_eq_true h5)]
      rw [e] at k
      refine WP.seq ?_
      refine WP.region ?_
      refine RG.ot rfl (OT.bslice (F := rectT) (els := []) rfl El24 rfl (by decide) rfl (by decide) trivial fun v33 => ?_)
      refine RG.pv rfl (PV.asg (v := v33) rfl rfl) ?_
      refine RG.nil ?_
      refine WP.ret ?_
  -- STOP: ret
      exact ⟨_, _, ResV.one rfl rfl, Cv.p, k v33⟩
    · have e : recOf (orL (er xs) (er ys) (layersOf r)) r = [fullR] := by rw [recOf, if_neg h4', if_neg (of_decide_eq_false h5)]
      rw [e] at k
      refine WP.skip ?_
      refine WP.seq ?_
      refine WP.region ?_
      refine RG.pv rfl (PV.build (vs := [(0, [vi _]), (1, [vi _]), (2, [vi _]), (3, [vi _])]) (out := [_, _, _, _]) rfl Zr81 Pl81 ⟨rfl, (Cl.c rfl), ⟨rfl, (Cl.c rfl), ⟨rfl, (Cl.c rfl), ⟨rfl, (Cl.c rfl), trivial⟩⟩⟩⟩ rfl) ?_
      refine RG.ot rfl (OT.bslice (F := rectT) (els := [⟨_, _, _, _⟩]) rfl El24 rfl (by decide) rfl (by decide) ⟨rfl, (Cl.c rfl), trivial⟩ fun v35 => ?_)
      refine RG.pv rfl (PV.asg (v := v35) rfl rfl) ?_
      refine RG.nil ?_
      refine WP.ret ?_
  -- STOP: ret
      exact ⟨_, _, ResV.one rfl rfl, Cv.p, k v35⟩
theorem recArea_s {v u : Value} {xs ys : List (Sl Rect)} {r : Rule} (h1 : Rs G L slT v xs) (hd : RsE G L rectT xs) (h2 : Rs G L slT u ys) (hd' : RsE G L rectT ys) (k : ∀ v', R (.tuple #[v', vi (recE (er xs) (er ys) r)]) G (osl 81 rectT v' (recR (er xs) (er ys) r) :: L)) : CallT Try.prog 36 #[v, u, vrule r] G L R := by
  refine CallT.enter (args := _) Try.func36 rfl rfl (by kernel_rfl) rfl ?_
  refine WP.seq ?_
  refine WP.region ?_
  refine RG.ot rfl (OT.box (cs := ruleT.enc r) rfl rfl rfl fun b5 => ?_)
  refine RG.pv rfl (PV.asg rfl rfl) ?_
  refine RG.pv rfl (PV.mvI (.inr rfl) rfl) ?_
  refine RG.nil ?_
  refine WP.seq ?_
  refine WP.seq ?_
  refine WP.region ?_
  refine RG.pv rfl (PV.move (v := v) rfl rfl) ?_
  refine RG.callF (vs := [v]) rfl rfl En31 rfl (isLayoutS_s (Rs.up h1) hd.up ?_)
  refine RG.pv rfl (PV.not rfl rfl) ?_
  refine RG.pv rfl (PV.mvB (.inl rfl) rfl) ?_
  refine RG.gs rfl rfl rfl (fun hp => (PV.move (v := u) rfl rfl)) ?_
  refine RG.gsC rfl rfl rfl rfl En31 (fun hp => ⟨_, (acons (gs_t hp) anil), isLayoutS_s (Rs.up h2) hd'.up ⟨rfl, rfl, rfl⟩⟩) ?_
  refine RG.gs rfl rfl rfl (fun hp => (PV.not rfl (gs_t hp))) ?_
  refine RG.pv rfl (PV.pickO rfl rfl rfl (fun hq => gs_t (geqF hq))) ?_
  refine RG.pv rfl (PV.mvB (.inl rfl) rfl) ?_
  refine RG.gs rfl rfl rfl (fun hp => (PV.loadW rfl Ag52 rfl rfl)) ?_
  refine RG.gsC rfl rfl rfl rfl En94 (fun hp => ⟨_, (acons (gs_t hp) anil), validRule_s ⟨rfl, rfl, rfl⟩⟩) ?_
  refine RG.gs rfl rfl rfl (fun hp => (PV.not rfl (gs_t hp))) ?_
  refine RG.pv rfl (PV.pickO rfl rfl rfl (fun hq => gs_t (geqF hq))) ?_
  refine RG.nil ?_
  -- STOP: cond
  refine WP.cond rfl (fun h3 => ?_) (fun h3 => ?_)
  · have e := recB_cases (l := er xs) (m := er ys) (r := r) h3
    have e1 : recR (er xs) (er ys) r = [] := by rw [recR, e]; rfl
    have e2 : recE (er xs) (er ys) r = 1 := by rw [recE, e]; rfl
    rw [e1, e2] at k
    refine WP.seq ?_
    refine WP.region ?_
    refine RG.pv rfl (PV.asg rfl rfl) ?_
    refine RG.pv rfl (PV.mvI (.inr rfl) rfl) ?_
    refine RG.nil ?_
    refine WP.ret ?_
  -- STOP: ret
    exact ⟨_, _, ResV.two rfl rfl rfl, Cv.nilP, k (.slice none 0 0)⟩
  · obtain ⟨hx, hy, hr⟩ := recB_true h3
    have e : recB (er xs) (er ys) r = true := by rw [recB, hx, hy, hr]; rfl
    have e1 : recR (er xs) (er ys) r = recOf (orL (er xs) (er ys) (layersOf r)) r := by rw [recR, e]; rfl
    have e2 : recE (er xs) (er ys) r = 0 := by rw [recE, e]; rfl
    rw [e1, e2] at k
    refine WP.skip ?_
    refine WP.seq ?_
    refine WP.region ?_
    refine RG.pv rfl (PV.move (v := v) rfl rfl) ?_
    refine RG.pv rfl (PV.move (v := u) rfl rfl) ?_
    refine RG.pv rfl (PV.loadW rfl Ag52 rfl rfl) ?_
    refine RG.callF (vs := [v, u, _]) rfl rfl En95 rfl (l22Area_s (Rs.up h1) hd.up (Rs.up h2) hd'.up hx hy hr (fun v24 => ?_))
    refine RG.pv rfl (PV.asg (v := v24) rfl rfl) ?_
    refine RG.pv rfl (PV.mvI (.inr rfl) rfl) ?_
    refine RG.nil ?_
    refine WP.ret ?_
  -- STOP: ret
    exact ⟨_, _, ResV.two rfl rfl rfl, Cv.p, k v24⟩
theorem layers_map {r : Rule} (h : validRule r = true) : (layersOf r).map Int.ofNat = r.layer :: (bif paired r.kind then [r.other] else []) := by
  obtain ⟨hr1, hr2, hr3⟩ := validRule_bd h
  have a : ((r.layer.toNat : Nat) : Int) = r.layer := by omega
  unfold layersOf
  cases hp : paired r.kind
  · simp [a]
  · have b : ((r.other.toNat : Nat) : Int) = r.other := by have := hr3 hp; omega
    simp [a, b]
theorem layers_lt {r : Rule} (h : validRule r = true) : ((layersOf r).all fun k => decide (k < 8)) = true ∧ (layersOf r).length ≤ 100 := by
  obtain ⟨hr1, hr2, hr3⟩ := validRule_bd h
  unfold layersOf
  cases hp : paired r.kind
  · simp; omega
  · have := hr3 hp
    simp; omega
theorem recArea_i {v u : Value} {xs ys : List (Sl Rect)} {r : Rule} (h1 : Rs G L slT v xs) (hd : RsE G L rectT xs) (h2 : Rs G L slT u ys) (hd' : RsE G L rectT ys) (k : ∀ v', R (.tuple #[v', vi (recE (er xs) (er ys) r)]) G (osl 81 rectT v' (recR (er xs) (er ys) r) :: L)) : CallT Try.prog 38 #[v, u, vrule r] G L R := by
  refine CallT.enter (args := _) Try.func38 rfl rfl (by kernel_rfl) rfl ?_
  refine WP.seq ?_
  refine WP.region ?_
  refine RG.ot rfl (OT.box (cs := ruleT.enc r) rfl rfl rfl fun b5 => ?_)
  refine RG.pv rfl (PV.asg rfl rfl) ?_
  refine RG.pv rfl (PV.mvI (.inr rfl) rfl) ?_
  refine RG.nil ?_
  refine WP.seq ?_
  refine WP.seq ?_
  refine WP.region ?_
  refine RG.pv rfl (PV.move (v := v) rfl rfl) ?_
  refine RG.callF (vs := [v]) rfl rfl En75 rfl (isLayout_s (Rs.up h1) hd.up ?_)
  refine RG.pv rfl (PV.not rfl rfl) ?_
  refine RG.pv rfl (PV.mvB (.inl rfl) rfl) ?_
  refine RG.gs rfl rfl rfl (fun hp => (PV.move (v := u) rfl rfl)) ?_
  refine RG.gsC rfl rfl rfl rfl En75 (fun hp => ⟨_, (acons (gs_t hp) anil), isLayout_s (Rs.up h2) hd'.up ⟨rfl, rfl, rfl⟩⟩) ?_
  refine RG.gs rfl rfl rfl (fun hp => (PV.not rfl (gs_t hp))) ?_
  refine RG.pv rfl (PV.pickO rfl rfl rfl (fun hq => gs_t (geqF hq))) ?_
  refine RG.pv rfl (PV.mvB (.inl rfl) rfl) ?_
  refine RG.gs rfl rfl rfl (fun hp => (PV.loadW rfl Ag52 rfl rfl)) ?_
  refine RG.gsC rfl rfl rfl rfl En96 (fun hp => ⟨_, (acons (gs_t hp) anil), validRule_i ⟨rfl, rfl, rfl⟩⟩) ?_
  refine RG.gs rfl rfl rfl (fun hp => (PV.not rfl (gs_t hp))) ?_
  refine RG.pv rfl (PV.pickO rfl rfl rfl (fun hq => gs_t (geqF hq))) ?_
  refine RG.nil ?_
  -- STOP: cond
  refine WP.cond rfl (fun h3 => ?_) (fun h3 => ?_)
  · have e := recB_cases (l := er xs) (m := er ys) (r := r) h3
    have e1 : recR (er xs) (er ys) r = [] := by rw [recR, e]; rfl
    have e2 : recE (er xs) (er ys) r = 1 := by rw [recE, e]; rfl
    rw [e1, e2] at k
    refine WP.seq ?_
    refine WP.region ?_
    refine RG.pv rfl (PV.asg rfl rfl) ?_
    refine RG.pv rfl (PV.mvI (.inr rfl) rfl) ?_
    refine RG.nil ?_
    refine WP.ret ?_
  -- STOP: ret
    exact ⟨_, _, ResV.two rfl rfl rfl, Cv.nilP, k (.slice none 0 0)⟩
  · obtain ⟨hx, hy, hr⟩ := recB_true h3
    have e : recB (er xs) (er ys) r = true := by rw [recB, hx, hy, hr]; rfl
    have e1 : recR (er xs) (er ys) r = recOf (orL (er xs) (er ys) (layersOf r)) r := by rw [recR, e]; rfl
    have e2 : recE (er xs) (er ys) r = 0 := by rw [recE, e]; rfl
    rw [e1, e2] at k
    have hlm := layers_map hr
    obtain ⟨hk8, hkl⟩ := layers_lt hr
    refine WP.skip ?_
    refine WP.seq ?_
    refine WP.region ?_
    refine RG.pv rfl (PV.field rfl Fo52_1 rfl) ?_
    refine RG.pv rfl (PV.load1 rfl Sc2 rfl (Rd.blk rfl)) ?_
    refine RG.ot rfl (OT.bslice (F := intT) (els := [_]) rfl El116 rfl (by decide) rfl (by decide) ⟨rfl, (Cl.c rfl), trivial⟩ fun v26 => ?_)
    refine RG.pv rfl (PV.asg (v := v26) rfl rfl) ?_
    refine RG.nil ?_
    refine WP.cut1 [0, 1, 5] (fun (q : Value) => True) (fun (q : Value) => [(8, q)]) (fun (q : Value) => osl 2 intT q ((layersOf r).map Int.ofNat) :: blk b5 52 (ruleT.enc r) :: L) ?_ ?_
    refine WP.seq ?_
    refine WP.region ?_
    refine RG.pv rfl (PV.field rfl Fo52_0 rfl) ?_
    refine RG.pv rfl (PV.load1 rfl Sc2 rfl (Rd.blk rfl)) ?_
    refine RG.callF (vs := [_]) rfl rfl En97 rfl (hasOther_s ?_)
    refine RG.nil ?_
  -- STOP: cond
    refine WP.cond rfl (fun h4 => ?_) (fun h4 => ?_)
    · refine WP.region ?_
      refine RG.pv rfl (PV.move (v := v26) rfl rfl) ?_
      refine RG.pv rfl (PV.field rfl Fo52_2 rfl) ?_
      refine RG.pv rfl (PV.load1 rfl Sc2 rfl (Rd.blk rfl)) ?_
      refine RG.ot rfl (OT.bslice (F := intT) (els := [_]) rfl El116 rfl (by decide) rfl (by decide) ⟨rfl, (Cl.c rfl), trivial⟩ fun v33 => ?_)
      refine RG.ot rfl (OT.append (v := v26) (u := v33) (F := intT) rfl El116 rfl (by decide) rfl rfl Rs.o (OneL.c (fun _ => rfl)) rfl (by first | omega | (simp <;> omega)) fun v34 => ?_)
      refine RG.pv rfl (PV.asg (v := v34) rfl rfl) ?_
      refine RG.nil ?_
  -- STOP: cutend
      exact ⟨rfl, v34, trivial, ⟨rfl, trivial⟩, ⟨rfl, rfl, rfl, trivial⟩, (Cv.p (C := osl 2 intT v34 ([r.layer] ++ [r.other]) :: blk b5 52 (ruleT.enc r) :: L)).trans (Cv.eqS (by rw [hlm, h4]; try rfl))⟩
    · refine WP.skip ?_
  -- STOP: cutend
      exact ⟨rfl, v26, trivial, ⟨rfl, trivial⟩, ⟨rfl, rfl, rfl, trivial⟩, (Cv.p (C := osl 2 intT v26 [r.layer] :: blk b5 52 (ruleT.enc r) :: L)).trans (Cv.eqS (by rw [hlm, h4]; try rfl))⟩
    rintro q τ1 -
    refine WP.seq ?_
    refine WP.region ?_
    refine RG.pv rfl (PV.move (v := v) rfl rfl) ?_
    refine RG.pv rfl (PV.move (v := u) rfl rfl) ?_
    refine RG.pv rfl (PV.move (v := q) rfl rfl) ?_
    refine RG.callF (vs := [v, u, q]) rfl rfl En76 rfl (changed_s (ks := layersOf r) (Rs.up h1) hd.up (Rs.up h2) hd'.up Rs.o hx hy hk8 hkl (fun v38 => ?_))
    refine RG.pv rfl (PV.asg (v := v38) rfl rfl) ?_
    refine RG.nil ?_
    refine WP.seq ?_
    refine WP.seq ?_
    refine WP.region ?_
    refine RG.pv rfl (PV.loadW rfl Ag52 rfl rfl) ?_
    refine RG.callF (vs := [_]) rfl rfl En98 rfl (reach_i ?_)
    refine RG.pv rfl (PV.mvI (.inr rfl) rfl) ?_
    refine RG.nil ?_
    refine WP.seq ?_
    refine WP.region ?_
    refine RG.pv rfl (PV.mvI (.inl rfl) rfl) ?_
    refine RG.pv rfl (PV.geq rfl rfl rfl) ?_
    refine RG.nil ?_
  -- STOP: cond
    have hB := orL_len (er xs) (er ys) (layersOf r)
    have hbc := bits_canon hB
    have hcm := canonFrom_mem (orL (er xs) (er ys) (layersOf r)) 0
    have hcn := canon_nil hB
    have hcl := canon_len (orL (er xs) (er ys) (layersOf r))
    refine WP.cond rfl (fun h5 => ?_) (fun h5 => ?_)
    · have h5 := of_decide_eq_true h5
      have e : recOf (orL (er xs) (er ys) (layersOf r)) r = canon (growB (bits (canon (orL (er xs) (er ys) (layersOf r)))) (reach r)) := by rw [recOf, if_pos h5, hbc]
      rw [e] at k
      refine WP.seq ?_
      refine WP.region ?_
      refine RG.pv rfl (PV.move (v := v38) rfl rfl) ?_
      refine RG.pv rfl (PV.mvI (.inl rfl) rfl) ?_
      refine RG.callF (vs := [v38, _]) rfl rfl En99 rfl (grow_s Rs.o hcm (by have := reach_bd h5; omega) (fun v45 => ?_))
      refine RG.pv rfl (PV.asg (v := v45) rfl rfl) ?_
      refine RG.pv rfl (PV.mvI (.inr rfl) rfl) ?_
      refine RG.nil ?_
      refine WP.ret ?_
  -- STOP: ret
      exact ⟨_, _, ResV.two rfl rfl rfl, Cv.p, k v45⟩
    · have h5 := of_decide_eq_false h5
      refine WP.skip ?_
      refine WP.seq ?_
      refine WP.seq ?_
      refine WP.region ?_
      refine RG.pv rfl (PV.move (v := v38) rfl rfl) ?_
      refine RG.pv rfl (PV.len (v := v38) rfl Try.underlying24 rfl SlF.o) ?_
      refine RG.pv rfl (PV.gtr rfl rfl rfl) ?_
      refine RG.nil ?_
  -- STOP: cond
      refine WP.cond rfl (fun h6 => ?_) (fun h6 => ?_)
      · have h6 := of_decide_eq_true h6
        have e : recOf (orL (er xs) (er ys) (layersOf r)) r = [fullR] := by rw [recOf, if_neg h5, if_neg (fun h => by rw [← hcn] at h; omega)]
        rw [e] at k
        refine WP.region ?_
        refine RG.pv rfl (PV.build (vs := [(0, [vi _]), (1, [vi _]), (2, [vi _]), (3, [vi _])]) (out := [_, _, _, _]) rfl Zr81 Pl81 ⟨rfl, (Cl.c rfl), ⟨rfl, (Cl.c rfl), ⟨rfl, (Cl.c rfl), ⟨rfl, (Cl.c rfl), trivial⟩⟩⟩⟩ rfl) ?_
        refine RG.ot rfl (OT.bslice (F := rectT) (els := [⟨_, _, _, _⟩]) rfl El24 rfl (by decide) rfl (by decide) ⟨rfl, (Cl.c rfl), trivial⟩ fun v50 => ?_)
        refine RG.pv rfl (PV.asg (v := v50) rfl rfl) ?_
        refine RG.nil ?_
        refine WP.seq ?_
        refine WP.region ?_
        refine RG.pv rfl (PV.move (v := v50) rfl rfl) ?_
        refine RG.pv rfl (PV.asg (v := v50) rfl rfl) ?_
        refine RG.pv rfl (PV.mvI (.inr rfl) rfl) ?_
        refine RG.nil ?_
        refine WP.ret ?_
  -- STOP: ret
        exact ⟨_, _, ResV.two rfl rfl rfl, Cv.p, k v50⟩
      · have h6 := of_decide_eq_false h6
        have h7 : (canon (orL (er xs) (er ys) (layersOf r))).length = 0 := by omega
        have e : recOf (orL (er xs) (er ys) (layersOf r)) r = canon (orL (er xs) (er ys) (layersOf r)) := by
          rw [recOf, if_neg h5, if_pos (hcn.1 h7), List.eq_nil_of_length_eq_zero h7]
        rw [e] at k
        refine WP.skip ?_
        refine WP.seq ?_
        refine WP.region ?_
        refine RG.pv rfl (PV.move (v := v38) rfl rfl) ?_
        refine RG.pv rfl (PV.asg (v := v38) rfl rfl) ?_
        refine RG.pv rfl (PV.mvI (.inr rfl) rfl) ?_
        refine RG.nil ?_
        refine WP.ret ?_
  -- STOP: ret
        exact ⟨_, _, ResV.two rfl rfl rfl, Cv.p, k v38⟩

/-! ## the law -/
theorem law_RecheckArea {v u : Value} {xs zs : List (Sl Rect)} {rl : Rule} (h1 : Rs G L slT v xs) (hd : RsE G L rectT xs) (h2 : Rs G L slT u zs) (hd' : RsE G L rectT zs) (k : R (.bool true) G L) : CallT Try.prog 6 #[v, u, vrule rl] G L R := by
  refine CallT.enter (args := _) Try.func6 rfl rfl (by kernel_rfl) rfl ?_
  refine WP.seq ?_
  refine WP.region ?_
  refine RG.ot rfl (OT.box (cs := ruleT.enc rl) rfl rfl rfl fun b5 => ?_)
  refine RG.pv rfl (PV.mvB (.inr rfl) rfl) ?_
  refine RG.nil ?_
  refine WP.seq ?_
  refine WP.region ?_
  refine RG.pv rfl (PV.mvI (.inr rfl) rfl) ?_
  refine RG.nil ?_
  refine WP.seq ?_
  refine WP.region ?_
  refine RG.pv rfl (PV.move (v := v) rfl rfl) ?_
  refine RG.pv rfl (PV.mvI (.inl rfl) rfl) ?_
  refine RG.callF (vs := [v, _]) rfl rfl En15 rfl (szRectSS_s (Rs.up h1) hd.up (by omega) (by omega) (fun r hr hr' => ?_))
  refine RG.pv rfl (PV.mvI (.inr rfl) rfl) ?_
  refine RG.nil ?_
  refine WP.seq ?_
  refine WP.seq ?_
  refine WP.region ?_
  refine RG.pv rfl (PV.mvI (.inl rfl) rfl) ?_
  refine RG.pv rfl (PV.lss rfl rfl rfl) ?_
  refine RG.nil ?_
  -- STOP: cond
  refine WP.cond rfl (fun h3 => ?_) (fun h3 => ?_)
  · refine WP.seq ?_
    refine WP.region ?_
    refine RG.pv rfl (PV.mvB (.inr rfl) rfl) ?_
    refine RG.nil ?_
    refine WP.ret ?_
  -- STOP: ret
    exact ⟨_, _, ResV.one rfl rfl, Cv.p, k⟩
  · have h3 := of_decide_eq_false h3
    have hsz : szOf xs ≤ 1048576 := by have := hr' (by omega); omega
    have hc0 : 0 ≤ costL lenS xs := costL_nonneg lenS_nn _
    have hb : xs.length ≤ 1048576 := by simp only [szOf] at hsz; omega
    have hbi : ∀ i, i < xs.length → (gd xs i).xs.length ≤ 1048576 := fun i hi => by
      have := costL_mem lenS_nn hi; simp only [lenS, szOf] at *; omega
    have hcx : costL nRS xs ≤ 4194304 := by rw [nRS_lenS]; simp only [szOf] at hsz; omega
    refine WP.skip ?_
    refine WP.seq ?_
    refine WP.region ?_
    refine RG.pv rfl (PV.move (v := u) rfl rfl) ?_
    refine RG.pv rfl (PV.mvI (.inl rfl) rfl) ?_
    refine RG.callF (vs := [u, _]) rfl rfl En15 rfl (szRectSS_s (Rs.up h2) hd'.up (by omega) (by omega) (fun r2 hr2 hr2' => ?_))
    refine RG.pv rfl (PV.mvI (.inr rfl) rfl) ?_
    refine RG.nil ?_
    refine WP.seq ?_
    refine WP.seq ?_
    refine WP.region ?_
    refine RG.pv rfl (PV.mvI (.inl rfl) rfl) ?_
    refine RG.pv rfl (PV.lss rfl rfl rfl) ?_
    refine RG.nil ?_
  -- STOP: cond
    refine WP.cond rfl (fun h4 => ?_) (fun h4 => ?_)
    · refine WP.seq ?_
      refine WP.region ?_
      refine RG.pv rfl (PV.mvB (.inr rfl) rfl) ?_
      refine RG.nil ?_
      refine WP.ret ?_
  -- STOP: ret
      exact ⟨_, _, ResV.one rfl rfl, Cv.p, k⟩
    · have h4 := of_decide_eq_false h4
      have hsz2 : szOf zs ≤ 1048576 := by have := hr2' (by omega); omega
      have hc02 : 0 ≤ costL lenS zs := costL_nonneg lenS_nn _
      have hb2 : zs.length ≤ 1048576 := by simp only [szOf] at hsz2; omega
      have hbi2 : ∀ i, i < zs.length → (gd zs i).xs.length ≤ 1048576 := fun i hi => by
        have := costL_mem lenS_nn hi; simp only [lenS, szOf] at *; omega
      have hcx2 : costL nRS zs ≤ 4194304 := by rw [nRS_lenS]; simp only [szOf] at hsz2; omega
      have hcr := recR_len (er xs) (er zs) rl
      refine WP.skip ?_
      refine WP.seq ?_
      refine WP.regionH0 (.q 0 (.q 2 (.q 4 (.l 1 (.l 3 (.l 5 (.l 6 (.q 7 (.q 8 (.q 9 (.q 10 (.q 11 Sch.nil)))))))))))) (by kernel_rfl) (by kernel_rfl) (by kernel_rfl) rfl ?_
      refine RH.pv rfl (fun _ _ _ _ h => h) (Gh.le_refl _) PickC.pick rfl (PV.move (v := v) rfl rfl) ?_
      refine RH.pv rfl (fun _ _ _ _ h => h) (Gh.le_refl _) PickC.pick rfl (PV.move (v := u) rfl rfl) ?_
      refine RH.pv rfl (fun _ _ _ _ h => h) (Gh.le_refl _) PickC.pick rfl (PV.loadW rfl Ag50 rfl rfl) ?_
      refine RH.ot rfl rfl (OT.callF (vs := [v]) rfl En17 rfl (toRectSS_s (Rs.up h1) hd.up hb hbi (fun v31 ysv31 hev31 => ⟨Gh.le_refl _, PickC.pick, ?_⟩)))
      refine RH.ot rfl rfl (OT.callF (vs := [u]) rfl En17 rfl (toRectSS_s (Rs.up h2) hd'.up hb2 hbi2 (fun v33 ysv33 hev33 => ⟨Gh.le_refl _, PickC.pick, ?_⟩)))
      refine RH.ot rfl rfl (OT.callF (vs := [_]) rfl En37 rfl (toRule_s ⟨Gh.le_refl _, PickC.pick, ?_⟩))
      refine RH.ot rfl rfl (OT.callF (vs := [v31, v33, _]) rfl En36 rfl (recArea_s (r := rl) Rs.o RsE.o Rs.o RsE.o (fun w36 => ⟨Gh.le_refl _, PickC.pick, ?_⟩)))
      refine RH.pv rfl (fun _ _ _ _ h => h) (Gh.le_refl _) PickC.pick rfl (PV.move (v := .tuple _) rfl rfl) ?_
      refine RH.pv rfl (fun _ _ _ _ h => h) (Gh.le_refl _) PickC.pick rfl (PV.ext (v := w36) rfl rfl rfl) ?_
      refine RH.pv rfl (fun _ _ _ _ h => h) (Gh.le_refl _) PickC.pick rfl (PV.ext rfl rfl rfl) ?_
      refine RH.pv rfl (fun _ _ _ _ h => h) (Gh.le_refl _) PickC.pick rfl (PV.asg (v := w36) rfl rfl) ?_
      refine RH.pv rfl (fun _ _ _ _ h => h) (Gh.le_refl _) PickC.pick rfl (PV.mvI (.inr rfl) rfl) ?_
      refine RH.nil ?_
      refine WP.seq ?_
      refine WP.region ?_
      refine RG.pv rfl (PV.move (v := v) rfl rfl) ?_
      refine RG.callF (vs := [v]) rfl rfl En17 rfl (toRectSS_s (Rs.up h1) hd.up hb hbi (fun v40 ysv40 hev40 => ?_))
      refine RG.pv rfl (PV.asg (v := v40) rfl rfl) ?_
      refine RG.nil ?_
      refine WP.seq ?_
      refine WP.region ?_
      refine RG.pv rfl (PV.move (v := u) rfl rfl) ?_
      refine RG.callF (vs := [u]) rfl rfl En17 rfl (toRectSS_s (Rs.up h2) hd'.up hb2 hbi2 (fun v42 ysv42 hev42 => ?_))
      refine RG.pv rfl (PV.asg (v := v42) rfl rfl) ?_
      refine RG.nil ?_
      refine WP.seq ?_
      refine WP.region ?_
      refine RG.pv rfl (PV.move (v := v40) rfl rfl) ?_
      refine RG.pv rfl (PV.move (v := v42) rfl rfl) ?_
      refine RG.pv rfl (PV.loadW rfl Ag50 rfl rfl) ?_
      refine RG.callF (vs := [_]) rfl rfl En37 rfl (toRule_s ?_)
      refine RG.callF (vs := [v40, v42, _]) rfl rfl En38 rfl (recArea_i (r := rl) Rs.o RsE.o Rs.o RsE.o (fun w48 => ?_))
      refine RG.pv rfl (PV.move (v := .tuple _) rfl rfl) ?_
      refine RG.pv rfl (PV.ext (v := w48) rfl rfl rfl) ?_
      refine RG.pv rfl (PV.ext rfl rfl rfl) ?_
      refine RG.pv rfl (PV.asg (v := w48) rfl rfl) ?_
      refine RG.pv rfl (PV.mvI (.inr rfl) rfl) ?_
      refine RG.nil ?_
      refine WP.seq ?_
      refine WP.seq ?_
      refine WP.region ?_
      refine RG.pv rfl (PV.move (v := w48) rfl rfl) ?_
      refine RG.pv rfl (PV.move (v := w36) rfl rfl) ?_
      refine RG.callF (vs := [w48, w36]) rfl rfl En19 rfl (eqRectS_s Rs.o Rs.o ?_)
      refine RG.pv rfl (PV.not rfl rfl) ?_
      refine RG.pv rfl (PV.mvB (.inl rfl) rfl) ?_
      refine RG.gs rfl rfl rfl (fun hp => (PV.mvI (.inl rfl) rfl)) ?_
      refine RG.gs rfl rfl rfl (fun hp => (PV.mvI (.inl rfl) rfl)) ?_
      refine RG.gs rfl rfl rfl (fun hp => (PV.neq rfl (gs_t hp) (gs_t hp))) ?_
      refine RG.pv rfl (PV.pickO rfl rfl rfl (fun hq => gs_t (geqF hq))) ?_
      refine RG.nil ?_
  -- STOP: cond
      refine WP.cond rfl (fun h5 => ?_) (fun h5 => ?_)
      · simp [*] at h5
      · refine WP.skip ?_
        refine WP.seq ?_
        refine WP.seq ?_
        refine WP.region ?_
        refine RG.pv rfl (PV.move (v := v40) rfl rfl) ?_
        refine RG.pv rfl (PV.move (v := v) rfl rfl) ?_
        refine RG.callF (vs := [v]) rfl rfl En17 rfl (toRectSS_s (Rs.up h1) hd.up hb hbi (fun v62 ysv62 hev62 => ?_))
        refine RG.callF (vs := [v40, v62]) rfl rfl En20 rfl (eqRectSS_s Rs.o RsE.o Rs.o RsE.o ?_)
        refine RG.pv rfl (PV.not rfl rfl) ?_
        refine RG.nil ?_
  -- STOP: cond
        refine WP.cond rfl (fun h6 => ?_) (fun h6 => ?_)
        · simp [*] at h6
        · skip
          refine WP.skip ?_
          refine WP.seq ?_
          refine WP.seq ?_
          refine WP.region ?_
          refine RG.pv rfl (PV.move (v := v42) rfl rfl) ?_
          refine RG.pv rfl (PV.move (v := u) rfl rfl) ?_
          refine RG.callF (vs := [u]) rfl rfl En17 rfl (toRectSS_s (Rs.up h2) hd'.up hb2 hbi2 (fun v67 ysv67 hev67 => ?_))
          refine RG.callF (vs := [v42, v67]) rfl rfl En20 rfl (eqRectSS_s Rs.o RsE.o Rs.o RsE.o ?_)
          refine RG.pv rfl (PV.not rfl rfl) ?_
          refine RG.nil ?_
  -- STOP: cond
          refine WP.cond rfl (fun h7 => ?_) (fun h7 => ?_)
          · simp [*] at h7
          · have hm1 : costL nRS ysv40 ≤ 4194304 := by rw [costL_er hev40]; exact hcx
            have hm2 : costL nRS ysv42 ≤ 4194304 := by rw [costL_er hev42]; exact hcx2
            have hm3 : 0 ≤ costL nRS ysv40 := costL_nonneg nSl_nn _
            have hm4 : 0 ≤ costL nRS ysv42 := costL_nonneg nSl_nn _
            have hm5 : costL nRect (recR (er ysv40) (er ysv42) rl) ≤ 12800 := by rw [hev40, hev42, nRect_cost]; omega
            have hm6 : 0 ≤ costL nRect (recR (er ysv40) (er ysv42) rl) := costL_nonneg nRect_nn _
            refine WP.skip ?_
            refine WP.seq ?_
            refine WP.region ?_
            refine RG.pv rfl (PV.mvI (.inr rfl) rfl) ?_
            refine RG.nil ?_
            refine WP.seq ?_
            refine WP.region ?_
            refine RG.pv rfl (PV.move (v := v40) rfl rfl) ?_
            refine RG.pv rfl (PV.mvI (.inl rfl) rfl) ?_
            refine RG.callF (vs := [v40, _]) rfl rfl En21 rfl (CallT.exBg ysv40 (CallT.exS v40 (markRectSS_s (by omega) (by omega) ?_)))
            refine RG.pv rfl (PV.mvI (.inr rfl) rfl) ?_
            refine RG.nil ?_
            refine WP.seq ?_
            refine WP.region ?_
            refine RG.pv rfl (PV.move (v := v42) rfl rfl) ?_
            refine RG.pv rfl (PV.mvI (.inl rfl) rfl) ?_
            refine RG.callF (vs := [v42, _]) rfl rfl En21 rfl (CallT.exBg ysv42 (CallT.exS v42 (markRectSS_s (by omega) (by omega) ?_)))
            refine RG.pv rfl (PV.mvI (.inr rfl) rfl) ?_
            refine RG.nil ?_
            refine WP.seq ?_
            refine WP.seq ?_
            refine WP.region ?_
            refine RG.pv rfl (PV.mvI (.inl rfl) rfl) ?_
            refine RG.pv rfl (PV.lss rfl rfl rfl) ?_
            refine RG.pv rfl (PV.mvB (.inl rfl) rfl) ?_
            refine RG.gs rfl rfl rfl (fun hp => (PV.move (v := w48) rfl rfl)) ?_
            refine RG.gs rfl rfl rfl (fun hp => (PV.move (v := w36) rfl rfl)) ?_
            refine RG.gsC rfl rfl rfl rfl En19 (fun hp => ⟨_, (acons (gs_t hp) (acons (gs_t hp) anil)), eqRectS_s Rs.o Rs.o ⟨rfl, rfl, rfl⟩⟩) ?_
            refine RG.gs rfl rfl rfl (fun hp => (PV.not rfl (gs_t hp))) ?_
            refine RG.pv rfl (PV.pickO rfl rfl rfl (fun hq => gs_t (geqF hq))) ?_
            refine RG.pv rfl (PV.mvB (.inl rfl) rfl) ?_
            refine RG.gs rfl rfl rfl (fun hp => (PV.mvI (.inl rfl) rfl)) ?_
            refine RG.gs rfl rfl rfl (fun hp => (PV.mvI (.inl rfl) rfl)) ?_
            refine RG.gs rfl rfl rfl (fun hp => (PV.neq rfl (gs_t hp) (gs_t hp))) ?_
            refine RG.pv rfl (PV.pickO rfl rfl rfl (fun hq => gs_t (geqF hq))) ?_
            refine RG.nil ?_
  -- STOP: cond
            refine WP.cond rfl (fun h8 => ?_) (fun h8 => ?_)
            · simp [*] at h8 <;> omega
            · skip
              refine WP.skip ?_
              refine WP.seq ?_
              refine WP.region ?_
              refine RG.pv rfl (PV.mvI (.inr rfl) rfl) ?_
              refine RG.nil ?_
              refine WP.seq ?_
              refine WP.region ?_
              refine RG.pv rfl (PV.move (v := w48) rfl rfl) ?_
              refine RG.pv rfl (PV.mvI (.inl rfl) rfl) ?_
              refine RG.callF (vs := [w48, _]) rfl rfl En22 rfl (CallT.exS w48 (markRectS_s (by omega) (by omega) ?_))
              refine RG.pv rfl (PV.mvI (.inr rfl) rfl) ?_
              refine RG.nil ?_
              refine WP.seq ?_
              refine WP.region ?_
              refine RG.pv rfl (PV.mvI (.inr rfl) rfl) ?_
              refine RG.nil ?_
              refine WP.seq ?_
              refine WP.region ?_
              refine RG.pv rfl (PV.move (v := w48) rfl rfl) ?_
              refine RG.pv rfl (PV.mvI (.inl rfl) rfl) ?_
              refine RG.callF (vs := [w48, _]) rfl rfl En23 rfl (heldRectS_s Rs.o (by omega) (by omega) ?_)
              refine RG.pv rfl (PV.mvI (.inr rfl) rfl) ?_
              refine RG.nil ?_
              refine WP.seq ?_
              refine WP.seq ?_
              refine WP.region ?_
              refine RG.pv rfl (PV.mvI (.inl rfl) rfl) ?_
              refine RG.pv rfl (PV.lss rfl rfl rfl) ?_
              refine RG.nil ?_
  -- STOP: cond
              refine WP.cond rfl (fun h9 => ?_) (fun h9 => ?_)
              · simp at h9; omega
              · refine WP.skip ?_
                refine WP.seq ?_
                refine WP.seq ?_
                refine WP.region ?_
                refine RG.pv rfl (PV.mvI (.inl rfl) rfl) ?_
                refine RG.pv rfl (PV.mvI (.inl rfl) rfl) ?_
                refine RG.pv rfl (PV.neq rfl rfl rfl) ?_
                refine RG.nil ?_
  -- STOP: cond
                refine WP.cond rfl (fun h10 => ?_) (fun h10 => ?_)
                · simp at h10
                · skip
                  refine WP.skip ?_
                  refine WP.seq ?_
                  refine WP.regionH0 (.q 0 (.q 2 (.q 4 (.l 1 (.l 3 (.l 5 (.l 6 (.q 7 (.q 8 (.q 9 (.q 10 (.q 11 Sch.nil)))))))))))) (by kernel_rfl) (by kernel_rfl) (by kernel_rfl) rfl ?_
                  refine RH.pv rfl (fun _ _ _ _ h => h) (Gh.le_refl _) PickC.pick rfl (PV.move (v := v) rfl rfl) ?_
                  refine RH.pv rfl (fun _ _ _ _ h => h) (Gh.le_refl _) PickC.pick rfl (PV.move (v := u) rfl rfl) ?_
                  refine RH.pv rfl (fun _ _ _ _ h => h) (Gh.le_refl _) PickC.pick rfl (PV.loadW rfl Ag50 rfl rfl) ?_
                  refine RH.ot rfl rfl (OT.callF (vs := [v]) rfl En17 rfl (toRectSS_s (Rs.up h1) hd.up hb hbi (fun v102 ysv102 hev102 => ⟨Gh.le_refl _, PickC.pick, ?_⟩)))
                  refine RH.ot rfl rfl (OT.callF (vs := [u]) rfl En17 rfl (toRectSS_s (Rs.up h2) hd'.up hb2 hbi2 (fun v104 ysv104 hev104 => ⟨Gh.le_refl _, PickC.pick, ?_⟩)))
                  refine RH.ot rfl rfl (OT.callF (vs := [_]) rfl En37 rfl (toRule_s ⟨Gh.le_refl _, PickC.pick, ?_⟩))
                  refine RH.ot rfl rfl (OT.callF (vs := [v102, v104, _]) rfl En38 rfl (recArea_i (r := rl) Rs.o RsE.o Rs.o RsE.o (fun w107 => ⟨Gh.le_refl _, PickC.pick, ?_⟩)))
                  refine RH.pv rfl (fun _ _ _ _ h => h) (Gh.le_refl _) PickC.pick rfl (PV.move (v := .tuple _) rfl rfl) ?_
                  refine RH.pv rfl (fun _ _ _ _ h => h) (Gh.le_refl _) PickC.pick rfl (PV.ext (v := w107) rfl rfl rfl) ?_
                  refine RH.pv rfl (fun _ _ _ _ h => h) (Gh.le_refl _) PickC.pick rfl (PV.ext rfl rfl rfl) ?_
                  refine RH.pv rfl (fun _ _ _ _ h => h) (Gh.le_refl _) PickC.pick rfl (PV.asg (v := w107) rfl rfl) ?_
                  refine RH.pv rfl (fun _ _ _ _ h => h) (Gh.le_refl _) PickC.pick rfl (PV.mvI (.inr rfl) rfl) ?_
                  refine RH.nil ?_
                  refine WP.seq ?_
                  refine WP.seq ?_
                  refine WP.region ?_
                  refine RG.pv rfl (PV.move (v := w107) rfl rfl) ?_
                  refine RG.pv rfl (PV.move (v := w36) rfl rfl) ?_
                  refine RG.callF (vs := [w107, w36]) rfl rfl En19 rfl (eqRectS_s Rs.o Rs.o ?_)
                  refine RG.pv rfl (PV.not rfl rfl) ?_
                  refine RG.pv rfl (PV.mvB (.inl rfl) rfl) ?_
                  refine RG.gs rfl rfl rfl (fun hp => (PV.mvI (.inl rfl) rfl)) ?_
                  refine RG.gs rfl rfl rfl (fun hp => (PV.mvI (.inl rfl) rfl)) ?_
                  refine RG.gs rfl rfl rfl (fun hp => (PV.neq rfl (gs_t hp) (gs_t hp))) ?_
                  refine RG.pv rfl (PV.pickO rfl rfl rfl (fun hq => gs_t (geqF hq))) ?_
                  refine RG.nil ?_
  -- STOP: cond
                  refine WP.cond rfl (fun h11 => ?_) (fun h11 => ?_)
                  · simp [*] at h11
                  · skip
                    refine WP.skip ?_
                    refine WP.seq ?_
                    refine WP.region ?_
                    refine RG.pv rfl (PV.mvI (.inr rfl) rfl) ?_
                    refine RG.nil ?_
                    refine WP.seq ?_
                    refine WP.region ?_
                    refine RG.pv rfl (PV.move (v := w48) rfl rfl) ?_
                    refine RG.pv rfl (PV.mvI (.inl rfl) rfl) ?_
                    refine RG.callF (vs := [w48, _]) rfl rfl En23 rfl (heldRectS_s Rs.o (by omega) (by omega) ?_)
                    refine RG.pv rfl (PV.mvI (.inr rfl) rfl) ?_
                    refine RG.nil ?_
                    refine WP.seq ?_
                    refine WP.seq ?_
                    refine WP.region ?_
                    refine RG.pv rfl (PV.mvI (.inl rfl) rfl) ?_
                    refine RG.pv rfl (PV.lss rfl rfl rfl) ?_
                    refine RG.nil ?_
  -- STOP: cond
                    refine WP.cond rfl (fun h12 => ?_) (fun h12 => ?_)
                    · simp at h12; omega
                    · refine WP.skip ?_
                      refine WP.seq ?_
                      refine WP.seq ?_
                      refine WP.region ?_
                      refine RG.pv rfl (PV.mvI (.inl rfl) rfl) ?_
                      refine RG.pv rfl (PV.mvI (.inl rfl) rfl) ?_
                      refine RG.pv rfl (PV.neq rfl rfl rfl) ?_
                      refine RG.nil ?_
  -- STOP: cond
                      refine WP.cond rfl (fun h13 => ?_) (fun h13 => ?_)
                      · simp at h13
                      · refine WP.skip ?_
                        refine WP.seq ?_
                        refine WP.region ?_
                        refine RG.pv rfl (PV.mvB (.inr rfl) rfl) ?_
                        refine RG.nil ?_
                        refine WP.ret ?_
  -- STOP: ret
                        exact ⟨_, _, ResV.one rfl rfl, Cv.p, k⟩
end Go.Proofs.Ytilccgeldnlgnaa
