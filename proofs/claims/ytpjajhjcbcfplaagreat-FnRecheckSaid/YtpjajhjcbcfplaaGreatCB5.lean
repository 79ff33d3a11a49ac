/-
  Contracts of functions and plain facts that the last text of this folder uses, part 5.
-/
import Derived.Test.YtpjajhjcbcfplaaGreatCB4
import Derived.ProofKit
import Derived.Deep.Slices
import Derived.Carry
namespace Go.Proofs.YtpjajhjcbcfplaaGreat
set_option linter.unusedVariables false
set_option linter.unusedSimpArgs false
open Go
set_option maxRecDepth 20000
set_option linter.unusedSimpArgs false
variable {G : Gh} {L : List Ch} {R : Value → Gh → List Ch → Prop}
abbrev vrule (r : Rule) : Value := vT ruleT r
def paired (k : Int) : Bool := decide (k = 2) || decide (k = 3)
def okVal (r : Rule) : Bool := if r.kind = 4 then within r.value 1 6400 else if r.kind = 5 then within r.value 4 40 else within r.value 1 8
def okPct (r : Rule) : Bool := if r.kind = 5 then within r.percent 1 100 else decide (r.percent = 0)
def okOther (r : Rule) : Bool := bif paired r.kind then within r.other 0 7 && !decide (r.other = r.layer) else decide (r.other = 0)
def validRule (r : Rule) : Bool := within r.kind 0 5 && within r.layer 0 7 && okOther r && okVal r && okPct r
theorem l16In_s {a b c : Int} (k : R (.bool (within a b c)) G L) : CallT Tryz.prog 48 #[vi a, vi b, vi c] G L R := by
  refine CallT.enter (args := _) Tryz.func48 rfl rfl (by kernel_rfl) rfl ?_
  refine WP.seq ?_
  refine WP.region ?_
  refine RG.pv rfl (PV.mvB (.inr rfl) rfl) ?_
  refine RG.nil ?_
  refine WP.seq ?_
  refine WP.region ?_
  refine RG.pv rfl (PV.mvI (.inl rfl) rfl) ?_
  refine RG.pv rfl (PV.mvI (.inl rfl) rfl) ?_
  refine RG.pv rfl (PV.geq rfl rfl rfl) ?_
  refine RG.pv rfl (PV.mvB (.inl rfl) rfl) ?_
  refine RG.gs rfl rfl rfl (fun hp => (PV.mvI (.inl rfl) rfl)) ?_
  refine RG.gs rfl rfl rfl (fun hp => (PV.mvI (.inl rfl) rfl)) ?_
  refine RG.gs rfl rfl rfl (fun hp => (PV.leq rfl (gs_t hp) (gs_t hp))) ?_
  refine RG.pv rfl (PV.pickA rfl rfl (fun hq => gs_t (geqT hq)) rfl) ?_
  refine RG.pv rfl (PV.mvB (.inr rfl) rfl) ?_
  refine RG.nil ?_
  refine WP.ret ?_
  exact ⟨_, _, ResV.one rfl rfl, Cv.p, k⟩
theorem l16Paired_s {a : Int} (k : R (.bool (paired a)) G L) : CallT Tryz.prog 50 #[vi a] G L R := by
  refine CallT.enter (args := _) Tryz.func50 rfl rfl (by kernel_rfl) rfl ?_
  refine WP.seq ?_
  refine WP.region ?_
  refine RG.pv rfl (PV.mvB (.inr rfl) rfl) ?_
  refine RG.nil ?_
  refine WP.seq ?_
  refine WP.region ?_
  refine RG.pv rfl (PV.mvI (.inl rfl) rfl) ?_
  refine RG.pv rfl (PV.eql rfl rfl rfl) ?_
  refine RG.pv rfl (PV.mvB (.inl rfl) rfl) ?_
  refine RG.gs rfl rfl rfl (fun hp => (PV.mvI (.inl rfl) rfl)) ?_
  refine RG.gs rfl rfl rfl (fun hp => (PV.eql rfl (gs_t hp) rfl)) ?_
  refine RG.pv rfl (PV.pickO rfl rfl rfl (fun hq => gs_t (geqF hq))) ?_
  refine RG.pv rfl (PV.mvB (.inr rfl) rfl) ?_
  refine RG.nil ?_
  refine WP.ret ?_
  exact ⟨_, _, ResV.one rfl rfl, Cv.p, k⟩
theorem hasOther_s {a : Int} (k : R (.bool (paired a)) G L) : CallT Tryz.prog 51 #[vi a] G L R := by
  refine CallT.enter (args := _) Tryz.func51 rfl rfl (by kernel_rfl) rfl ?_
  refine WP.seq ?_
  refine WP.region ?_
  refine RG.pv rfl (PV.mvB (.inr rfl) rfl) ?_
  refine RG.nil ?_
  refine WP.seq ?_
  refine WP.region ?_
  refine RG.pv rfl (PV.mvI (.inl rfl) rfl) ?_
  refine RG.pv rfl (PV.eql rfl rfl rfl) ?_
  refine RG.pv rfl (PV.mvB (.inl rfl) rfl) ?_
  refine RG.gs rfl rfl rfl (fun hp => (PV.mvI (.inl rfl) rfl)) ?_
  refine RG.gs rfl rfl rfl (fun hp => (PV.eql rfl (gs_t hp) rfl)) ?_
  refine RG.pv rfl (PV.pickO rfl rfl rfl (fun hq => gs_t (geqF hq))) ?_
  refine RG.pv rfl (PV.mvB (.inr rfl) rfl) ?_
  refine RG.nil ?_
  refine WP.ret ?_
  exact ⟨_, _, ResV.one rfl rfl, Cv.p, k⟩
theorem l20Paired_s {r : Rule} (k : R (.bool (paired r.kind)) G L) : CallT Tryz.prog 163 #[vrule r] G L R := by
  refine CallT.enter (args := _) Tryz.func163 rfl rfl (by kernel_rfl) rfl ?_
  refine WP.seq ?_
  refine WP.region ?_
  refine RG.ot rfl (OT.box (cs := ruleT.enc r) rfl rfl rfl fun b1 => ?_)
  refine RG.pv rfl (PV.mvB (.inr rfl) rfl) ?_
  refine RG.nil ?_
  refine WP.seq ?_
  refine WP.region ?_
  refine RG.pv rfl (PV.field rfl Fo34_0 rfl) ?_
  refine RG.pv rfl (PV.load1 rfl Sc2 rfl (Rd.blk rfl)) ?_
  refine RG.pv rfl (PV.eql rfl rfl rfl) ?_
  refine RG.pv rfl (PV.mvB (.inl rfl) rfl) ?_
  refine RG.gs rfl rfl rfl (fun hp => (PV.field rfl Fo34_0 rfl)) ?_
  refine RG.gs rfl rfl rfl (fun hp => (PV.load1 rfl Sc2 (gs_t hp) (Rd.blk rfl))) ?_
  refine RG.gs rfl rfl rfl (fun hp => (PV.eql rfl (gs_t hp) rfl)) ?_
  refine RG.pv rfl (PV.pickO rfl rfl rfl (fun hq => gs_t (geqF hq))) ?_
  refine RG.pv rfl (PV.mvB (.inr rfl) rfl) ?_
  refine RG.nil ?_
  refine WP.ret ?_
  exact ⟨_, _, ResV.one rfl rfl, Cv.p, k⟩
theorem l16Value_s {r : Rule} (k : R (.bool (okVal r)) G L) : CallT Tryz.prog 49 #[vrule r] G L R := by
  refine CallT.enter (args := _) Tryz.func49 rfl rfl (by kernel_rfl) rfl ?_
  refine WP.seq ?_
  refine WP.region ?_
  refine RG.ot rfl (OT.box (cs := ruleT.enc r) rfl rfl rfl fun b1 => ?_)
  refine RG.pv rfl (PV.mvB (.inr rfl) rfl) ?_
  refine RG.nil ?_
  refine WP.seq ?_
  refine WP.seq ?_
  refine WP.region ?_
  refine RG.pv rfl (PV.field rfl Fo34_0 rfl) ?_
  refine RG.pv rfl (PV.load1 rfl Sc2 rfl (Rd.blk rfl)) ?_
  refine RG.nil ?_
  refine WP.block ?_
  refine WP.seq ?_
  refine WP.region ?_
  refine RG.pv rfl (PV.eql rfl rfl rfl) ?_
  refine RG.pv rfl (PV.mvB (.inr rfl) rfl) ?_
  refine RG.nil ?_
  refine WP.cond rfl (fun h1 => ?_) (fun h1 => ?_)
  · have h1 := of_decide_eq_true h1
    rw [okVal, if_pos h1] at k
    refine WP.seq ?_
    refine WP.region ?_
    refine RG.pv rfl (PV.field rfl Fo34_3 rfl) ?_
    refine RG.pv rfl (PV.load1 rfl Sc2 rfl (Rd.blk rfl)) ?_
    refine RG.callF (vs := [_, _, _]) rfl rfl En48 rfl (l16In_s ?_)
    refine RG.pv rfl (PV.mvB (.inr rfl) rfl) ?_
    refine RG.nil ?_
    refine WP.ret ?_
    exact ⟨_, _, ResV.one rfl rfl, Cv.p, k⟩
  · have h1 := of_decide_eq_false h1
    rw [okVal, if_neg h1] at k
    refine WP.seq ?_
    refine WP.region ?_
    refine RG.pv rfl (PV.eql rfl rfl rfl) ?_
    refine RG.pv rfl (PV.mvB (.inr rfl) rfl) ?_
    refine RG.nil ?_
    refine WP.cond rfl (fun h2 => ?_) (fun h2 => ?_)
    · have h2 := of_decide_eq_true h2
      rw [if_pos h2] at k
      refine WP.seq ?_
      refine WP.region ?_
      refine RG.pv rfl (PV.field rfl Fo34_3 rfl) ?_
      refine RG.pv rfl (PV.load1 rfl Sc2 rfl (Rd.blk rfl)) ?_
      refine RG.callF (vs := [_, _, _]) rfl rfl En48 rfl (l16In_s ?_)
      refine RG.pv rfl (PV.mvB (.inr rfl) rfl) ?_
      refine RG.nil ?_
      refine WP.ret ?_
      exact ⟨_, _, ResV.one rfl rfl, Cv.p, k⟩
    · have h2 := of_decide_eq_false h2
      rw [if_neg h2] at k
      refine WP.skip ?_
      refine WP.seq ?_
      refine WP.region ?_
      refine RG.pv rfl (PV.field rfl Fo34_3 rfl) ?_
      refine RG.pv rfl (PV.load1 rfl Sc2 rfl (Rd.blk rfl)) ?_
      refine RG.callF (vs := [_, _, _]) rfl rfl En48 rfl (l16In_s ?_)
      refine RG.pv rfl (PV.mvB (.inr rfl) rfl) ?_
      refine RG.nil ?_
      refine WP.ret ?_
      exact ⟨_, _, ResV.one rfl rfl, Cv.p, k⟩
theorem okOther_false {r : Rule} (h : (paired r.kind && (!within r.other 0 7 || decide (r.other = r.layer)) || !paired r.kind && !decide (r.other = 0)) = true) : okOther r = false := by
  unfold okOther; revert h
  cases paired r.kind <;> cases within r.other 0 7 <;> cases decide (r.other = r.layer) <;> cases decide (r.other = 0) <;> simp
theorem okOther_true {r : Rule} (h : (paired r.kind && (!within r.other 0 7 || decide (r.other = r.layer)) || !paired r.kind && !decide (r.other = 0)) = false) : okOther r = true := by
  unfold okOther; revert h
  cases paired r.kind <;> cases within r.other 0 7 <;> cases decide (r.other = r.layer) <;> cases decide (r.other = 0) <;> simp
theorem validRule_s {r : Rule} (k : R (.bool (validRule r)) G L) : CallT Tryz.prog 21 #[vrule r] G L R := by
  refine CallT.enter (args := _) Tryz.func21 rfl rfl (by kernel_rfl) rfl ?_
  refine WP.seq ?_
  refine WP.region ?_
  refine RG.ot rfl (OT.box (cs := ruleT.enc r) rfl rfl rfl fun b1 => ?_)
  refine RG.pv rfl (PV.mvB (.inr rfl) rfl) ?_
  refine RG.nil ?_
  refine WP.seq ?_
  refine WP.seq ?_
  refine WP.region ?_
  refine RG.pv rfl (PV.field rfl Fo34_0 rfl) ?_
  refine RG.pv rfl (PV.load1 rfl Sc2 rfl (Rd.blk rfl)) ?_
  refine RG.callF (vs := [_, _, _]) rfl rfl En48 rfl (l16In_s ?_)
  refine RG.pv rfl (PV.not rfl rfl) ?_
  refine RG.pv rfl (PV.mvB (.inl rfl) rfl) ?_
  refine RG.gs rfl rfl rfl (fun hp => (PV.field rfl Fo34_1 rfl)) ?_
  refine RG.gs rfl rfl rfl (fun hp => (PV.load1 rfl Sc2 (gs_t hp) (Rd.blk rfl))) ?_
  refine RG.gsC rfl rfl rfl rfl En48 (fun hp => ⟨_, (acons (gs_t hp) (acons rfl (acons rfl anil))), l16In_s ⟨rfl, rfl, rfl⟩⟩) ?_
  refine RG.gs rfl rfl rfl (fun hp => (PV.not rfl (gs_t hp))) ?_
  refine RG.pv rfl (PV.pickO rfl rfl rfl (fun hq => gs_t (geqF hq))) ?_
  refine RG.pv rfl (PV.mvB (.inl rfl) rfl) ?_
  refine RG.gs rfl rfl rfl (fun hp => (PV.loadW rfl Ag34 rfl rfl)) ?_
  refine RG.gsC rfl rfl rfl rfl En49 (fun hp => ⟨_, (acons (gs_t hp) anil), l16Value_s ⟨rfl, rfl, rfl⟩⟩) ?_
  refine RG.gs rfl rfl rfl (fun hp => (PV.not rfl (gs_t hp))) ?_
  refine RG.pv rfl (PV.pickO rfl rfl rfl (fun hq => gs_t (geqF hq))) ?_
  refine RG.nil ?_
  refine WP.cond rfl (fun h1 => ?_) (fun h1 => ?_)
  · have e : validRule r = false := by
      unfold validRule; revert h1
      cases within r.kind 0 5 <;> cases within r.layer 0 7 <;> cases okVal r <;> simp
    rw [e] at k
    refine WP.seq ?_
    refine WP.region ?_
    refine RG.pv rfl (PV.mvB (.inr rfl) rfl) ?_
    refine RG.nil ?_
    refine WP.ret ?_
    exact ⟨_, _, ResV.one rfl rfl, Cv.p, k⟩
  · have e : validRule r = (okOther r && okPct r) := by
      unfold validRule; revert h1
      cases within r.kind 0 5 <;> cases within r.layer 0 7 <;> cases okVal r <;> simp
    rw [e] at k
    refine WP.skip ?_
    refine WP.seq ?_
    refine WP.seq ?_
    refine WP.region ?_
    refine RG.pv rfl (PV.field rfl Fo34_0 rfl) ?_
    refine RG.pv rfl (PV.load1 rfl Sc2 rfl (Rd.blk rfl)) ?_
    refine RG.callF (vs := [_]) rfl rfl En50 rfl (l16Paired_s ?_)
    refine RG.pv rfl (PV.mvB (.inl rfl) rfl) ?_
    refine RG.gs rfl rfl rfl (fun hp => (PV.field rfl Fo34_2 rfl)) ?_
    refine RG.gs rfl rfl rfl (fun hp => (PV.load1 rfl Sc2 (gs_t hp) (Rd.blk rfl))) ?_
    refine RG.gsC rfl rfl rfl rfl En48 (fun hp => ⟨_, (acons (gs_t hp) (acons rfl (acons rfl anil))), l16In_s ⟨rfl, rfl, rfl⟩⟩) ?_
    refine RG.gs rfl rfl rfl (fun hp => (PV.not rfl (gs_t hp))) ?_
    refine RG.gs rfl rfl rfl (fun hp => (PV.mvB (.inl rfl) (gs_t hp))) ?_
    refine RG.gs2 rfl rfl rfl (fun hp => (PV.field rfl Fo34_2 rfl)) ?_
    refine RG.gs2 rfl rfl rfl (fun hp => (PV.load1 rfl Sc2 (gs_t hp) (Rd.blk rfl))) ?_
    refine RG.gs2 rfl rfl rfl (fun hp => (PV.field rfl Fo34_1 rfl)) ?_
    refine RG.gs2 rfl rfl rfl (fun hp => (PV.load1 rfl Sc2 (gs_t hp) (Rd.blk rfl))) ?_
    refine RG.gs2 rfl rfl rfl (fun hp => (PV.eql rfl (gs_t hp) (gs_t hp))) ?_
    refine RG.gs rfl rfl rfl (fun hp => (PV.pickO rfl (gs_t hp) rfl (fun hq => gs_t (gandF hp hq)))) ?_
    refine RG.pv rfl (PV.pickA rfl rfl (fun hq => gs_t (geqT hq)) rfl) ?_
    refine RG.pv rfl (PV.mvB (.inl rfl) rfl) ?_
    refine RG.gs rfl rfl rfl (fun hp => (PV.field rfl Fo34_0 rfl)) ?_
    refine RG.gs rfl rfl rfl (fun hp => (PV.load1 rfl Sc2 (gs_t hp) (Rd.blk rfl))) ?_
    refine RG.gsC rfl rfl rfl rfl En50 (fun hp => ⟨_, (acons (gs_t hp) anil), l16Paired_s ⟨rfl, rfl, rfl⟩⟩) ?_
    refine RG.gs rfl rfl rfl (fun hp => (PV.not rfl (gs_t hp))) ?_
    refine RG.gs rfl rfl rfl (fun hp => (PV.mvB (.inl rfl) (gs_t hp))) ?_
    refine RG.gs2 rfl rfl rfl (fun hp => (PV.field rfl Fo34_2 rfl)) ?_
    refine RG.gs2 rfl rfl rfl (fun hp => (PV.load1 rfl Sc2 (gs_t hp) (Rd.blk rfl))) ?_
    refine RG.gs2 rfl rfl rfl (fun hp => (PV.neq rfl (gs_t hp) rfl)) ?_
    refine RG.gs rfl rfl rfl (fun hp => (PV.pickA rfl (gs_t hp) (fun hq => gs_t (gandT hp hq)) rfl)) ?_
    refine RG.pv rfl (PV.pickO rfl rfl rfl (fun hq => gs_t (geqF hq))) ?_
    refine RG.nil ?_
    refine WP.cond rfl (fun h2 => ?_) (fun h2 => ?_)
    · rw [okOther_false h2, Bool.false_and] at k
      refine WP.seq ?_
      refine WP.region ?_
      refine RG.pv rfl (PV.mvB (.inr rfl) rfl) ?_
      refine RG.nil ?_
      refine WP.ret ?_
      exact ⟨_, _, ResV.one rfl rfl, Cv.p, k⟩
    · rw [okOther_true h2, Bool.true_and] at k
      refine WP.skip ?_
      refine WP.seq ?_
      refine WP.seq ?_
      refine WP.region ?_
      refine RG.pv rfl (PV.field rfl Fo34_0 rfl) ?_
      refine RG.pv rfl (PV.load1 rfl Sc2 rfl (Rd.blk rfl)) ?_
      refine RG.pv rfl (PV.eql rfl rfl rfl) ?_
      refine RG.nil ?_
      refine WP.cond rfl (fun h3 => ?_) (fun h3 => ?_)
      · have h3 := of_decide_eq_true h3
        rw [okPct, if_pos h3] at k
        refine WP.seq ?_
        refine WP.region ?_
        refine RG.pv rfl (PV.field rfl Fo34_4 rfl) ?_
        refine RG.pv rfl (PV.load1 rfl Sc2 rfl (Rd.blk rfl)) ?_
        refine RG.callF (vs := [_, _, _]) rfl rfl En48 rfl (l16In_s ?_)
        refine RG.pv rfl (PV.mvB (.inr rfl) rfl) ?_
        refine RG.nil ?_
        refine WP.ret ?_
        exact ⟨_, _, ResV.one rfl rfl, Cv.p, k⟩
      · have h3 := of_decide_eq_false h3
        rw [okPct, if_neg h3] at k
        refine WP.skip ?_
        refine WP.seq ?_
        refine WP.region ?_
        refine RG.pv rfl (PV.field rfl Fo34_4 rfl) ?_
        refine RG.pv rfl (PV.load1 rfl Sc2 rfl (Rd.blk rfl)) ?_
        refine RG.pv rfl (PV.eql rfl rfl rfl) ?_
        refine RG.pv rfl (PV.mvB (.inr rfl) rfl) ?_
        refine RG.nil ?_
        refine WP.ret ?_
        exact ⟨_, _, ResV.one rfl rfl, Cv.p, k⟩
theorem validRule_i {r : Rule} (k : R (.bool (validRule r)) G L) : CallT Tryz.prog 39 #[vrule r] G L R := by
  refine CallT.enter (args := _) Tryz.func39 rfl rfl (by kernel_rfl) rfl ?_
  refine WP.seq ?_
  refine WP.region ?_
  refine RG.ot rfl (OT.box (cs := ruleT.enc r) rfl rfl rfl fun b1 => ?_)
  refine RG.pv rfl (PV.mvB (.inr rfl) rfl) ?_
  refine RG.nil ?_
  refine WP.seq ?_
  refine WP.seq ?_
  refine WP.region ?_
  refine RG.pv rfl (PV.field rfl Fo34_0 rfl) ?_
  refine RG.pv rfl (PV.load1 rfl Sc2 rfl (Rd.blk rfl)) ?_
  refine RG.callF (vs := [_, _, _]) rfl rfl En92 rfl (within_s ?_)
  refine RG.pv rfl (PV.not rfl rfl) ?_
  refine RG.pv rfl (PV.mvB (.inl rfl) rfl) ?_
  refine RG.gs rfl rfl rfl (fun hp => (PV.field rfl Fo34_1 rfl)) ?_
  refine RG.gs rfl rfl rfl (fun hp => (PV.load1 rfl Sc2 (gs_t hp) (Rd.blk rfl))) ?_
  refine RG.gsC rfl rfl rfl rfl En92 (fun hp => ⟨_, (acons (gs_t hp) (acons rfl (acons rfl anil))), within_s ⟨rfl, rfl, rfl⟩⟩) ?_
  refine RG.gs rfl rfl rfl (fun hp => (PV.not rfl (gs_t hp))) ?_
  refine RG.pv rfl (PV.pickO rfl rfl rfl (fun hq => gs_t (geqF hq))) ?_
  refine RG.nil ?_
  refine WP.cond rfl (fun h1 => ?_) (fun h1 => ?_)
  · have e : validRule r = false := by
      unfold validRule; revert h1
      cases within r.kind 0 5 <;> cases within r.layer 0 7 <;> simp
    rw [e] at k
    refine WP.seq ?_
    refine WP.region ?_
    refine RG.pv rfl (PV.mvB (.inr rfl) rfl) ?_
    refine RG.nil ?_
    refine WP.ret ?_
    exact ⟨_, _, ResV.one rfl rfl, Cv.p, k⟩
  · have e : validRule r = (okOther r && (okVal r && okPct r)) := by
      unfold validRule; revert h1
      cases within r.kind 0 5 <;> cases within r.layer 0 7 <;> simp [Bool.and_assoc]
    rw [e] at k
    refine WP.skip ?_
    refine WP.seq ?_
    refine WP.seq ?_
    refine WP.region ?_
    refine RG.pv rfl (PV.field rfl Fo34_0 rfl) ?_
    refine RG.pv rfl (PV.load1 rfl Sc2 rfl (Rd.blk rfl)) ?_
    refine RG.callF (vs := [_]) rfl rfl En51 rfl (hasOther_s ?_)
    refine RG.pv rfl (PV.mvB (.inl rfl) rfl) ?_
    refine RG.gs rfl rfl rfl (fun hp => (PV.field rfl Fo34_2 rfl)) ?_
    refine RG.gs rfl rfl rfl (fun hp => (PV.load1 rfl Sc2 (gs_t hp) (Rd.blk rfl))) ?_
    refine RG.gsC rfl rfl rfl rfl En92 (fun hp => ⟨_, (acons (gs_t hp) (acons rfl (acons rfl anil))), within_s ⟨rfl, rfl, rfl⟩⟩) ?_
    refine RG.gs rfl rfl rfl (fun hp => (PV.not rfl (gs_t hp))) ?_
    refine RG.gs rfl rfl rfl (fun hp => (PV.mvB (.inl rfl) (gs_t hp))) ?_
    refine RG.gs2 rfl rfl rfl (fun hp => (PV.field rfl Fo34_2 rfl)) ?_
    refine RG.gs2 rfl rfl rfl (fun hp => (PV.load1 rfl Sc2 (gs_t hp) (Rd.blk rfl))) ?_
    refine RG.gs2 rfl rfl rfl (fun hp => (PV.field rfl Fo34_1 rfl)) ?_
    refine RG.gs2 rfl rfl rfl (fun hp => (PV.load1 rfl Sc2 (gs_t hp) (Rd.blk rfl))) ?_
    refine RG.gs2 rfl rfl rfl (fun hp => (PV.eql rfl (gs_t hp) (gs_t hp))) ?_
    refine RG.gs rfl rfl rfl (fun hp => (PV.pickO rfl (gs_t hp) rfl (fun hq => gs_t (gandF hp hq)))) ?_
    refine RG.pv rfl (PV.pickA rfl rfl (fun hq => gs_t (geqT hq)) rfl) ?_
    refine RG.pv rfl (PV.mvB (.inl rfl) rfl) ?_
    refine RG.gs rfl rfl rfl (fun hp => (PV.field rfl Fo34_0 rfl)) ?_
    refine RG.gs rfl rfl rfl (fun hp => (PV.load1 rfl Sc2 (gs_t hp) (Rd.blk rfl))) ?_
    refine RG.gsC rfl rfl rfl rfl En51 (fun hp => ⟨_, (acons (gs_t hp) anil), hasOther_s ⟨rfl, rfl, rfl⟩⟩) ?_
    refine RG.gs rfl rfl rfl (fun hp => (PV.not rfl (gs_t hp))) ?_
    refine RG.gs rfl rfl rfl (fun hp => (PV.mvB (.inl rfl) (gs_t hp))) ?_
    refine RG.gs2 rfl rfl rfl (fun hp => (PV.field rfl Fo34_2 rfl)) ?_
    refine RG.gs2 rfl rfl rfl (fun hp => (PV.load1 rfl Sc2 (gs_t hp) (Rd.blk rfl))) ?_
    refine RG.gs2 rfl rfl rfl (fun hp => (PV.neq rfl (gs_t hp) rfl)) ?_
    refine RG.gs rfl rfl rfl (fun hp => (PV.pickA rfl (gs_t hp) (fun hq => gs_t (gandT hp hq)) rfl)) ?_
    refine RG.pv rfl (PV.pickO rfl rfl rfl (fun hq => gs_t (geqF hq))) ?_
    refine RG.nil ?_
    refine WP.cond rfl (fun h2 => ?_) (fun h2 => ?_)
    · rw [okOther_false h2, Bool.false_and] at k
      refine WP.seq ?_
      refine WP.region ?_
      refine RG.pv rfl (PV.mvB (.inr rfl) rfl) ?_
      refine RG.nil ?_
      refine WP.ret ?_
      exact ⟨_, _, ResV.one rfl rfl, Cv.p, k⟩
    · rw [okOther_true h2, Bool.true_and] at k
      refine WP.skip ?_
      refine WP.seq ?_
      refine WP.seq ?_
      refine WP.region ?_
      refine RG.pv rfl (PV.field rfl Fo34_0 rfl) ?_
      refine RG.pv rfl (PV.load1 rfl Sc2 rfl (Rd.blk rfl)) ?_
      refine RG.nil ?_
      refine WP.block ?_
      refine WP.seq ?_
      refine WP.region ?_
      refine RG.pv rfl (PV.eql rfl rfl rfl) ?_
      refine RG.pv rfl (PV.mvB (.inr rfl) rfl) ?_
      refine RG.nil ?_
      refine WP.cond rfl (fun h3 => ?_) (fun h3 => ?_)
      · have h3 := of_decide_eq_true h3
        rw [okVal, if_pos h3, okPct, if_neg (by omega)] at k
        refine WP.seq ?_
        refine WP.region ?_
        refine RG.pv rfl (PV.field rfl Fo34_3 rfl) ?_
        refine RG.pv rfl (PV.load1 rfl Sc2 rfl (Rd.blk rfl)) ?_
        refine RG.callF (vs := [_, _, _]) rfl rfl En92 rfl (within_s ?_)
        refine RG.pv rfl (PV.mvB (.inl rfl) rfl) ?_
        refine RG.gs rfl rfl rfl (fun hp => (PV.field rfl Fo34_4 rfl)) ?_
        refine RG.gs rfl rfl rfl (fun hp => (PV.load1 rfl Sc2 (gs_t hp) (Rd.blk rfl))) ?_
        refine RG.gs rfl rfl rfl (fun hp => (PV.eql rfl (gs_t hp) rfl)) ?_
        refine RG.pv rfl (PV.pickA rfl rfl (fun hq => gs_t (geqT hq)) rfl) ?_
        refine RG.pv rfl (PV.mvB (.inr rfl) rfl) ?_
        refine RG.nil ?_
        refine WP.ret ?_
        exact ⟨_, _, ResV.one rfl rfl, Cv.p, k⟩
      · have h3 := of_decide_eq_false h3
        rw [okVal, if_neg h3] at k
        refine WP.seq ?_
        refine WP.region ?_
        refine RG.pv rfl (PV.eql rfl rfl rfl) ?_
        refine RG.pv rfl (PV.mvB (.inr rfl) rfl) ?_
        refine RG.nil ?_
        refine WP.cond rfl (fun h4 => ?_) (fun h4 => ?_)
        · have h4 := of_decide_eq_true h4
          rw [if_pos h4, okPct, if_pos h4] at k
          refine WP.seq ?_
          refine WP.region ?_
          refine RG.pv rfl (PV.field rfl Fo34_3 rfl) ?_
          refine RG.pv rfl (PV.load1 rfl Sc2 rfl (Rd.blk rfl)) ?_
          refine RG.callF (vs := [_, _, _]) rfl rfl En92 rfl (within_s ?_)
          refine RG.pv rfl (PV.mvB (.inl rfl) rfl) ?_
          refine RG.gs rfl rfl rfl (fun hp => (PV.field rfl Fo34_4 rfl)) ?_
          refine RG.gs rfl rfl rfl (fun hp => (PV.load1 rfl Sc2 (gs_t hp) (Rd.blk rfl))) ?_
          refine RG.gsC rfl rfl rfl rfl En92 (fun hp => ⟨_, (acons (gs_t hp) (acons rfl (acons rfl anil))), within_s ⟨rfl, rfl, rfl⟩⟩) ?_
          refine RG.pv rfl (PV.pickA rfl rfl (fun hq => gs_t (geqT hq)) rfl) ?_
          refine RG.pv rfl (PV.mvB (.inr rfl) rfl) ?_
          refine RG.nil ?_
          refine WP.ret ?_
          exact ⟨_, _, ResV.one rfl rfl, Cv.p, k⟩
        · have h4 := of_decide_eq_false h4
          rw [if_neg h4, okPct, if_neg h4] at k
          refine WP.skip ?_
          refine WP.seq ?_
          refine WP.region ?_
          refine RG.pv rfl (PV.field rfl Fo34_3 rfl) ?_
          refine RG.pv rfl (PV.load1 rfl Sc2 rfl (Rd.blk rfl)) ?_
          refine RG.callF (vs := [_, _, _]) rfl rfl En92 rfl (within_s ?_)
          refine RG.pv rfl (PV.mvB (.inl rfl) rfl) ?_
          refine RG.gs rfl rfl rfl (fun hp => (PV.field rfl Fo34_4 rfl)) ?_
          refine RG.gs rfl rfl rfl (fun hp => (PV.load1 rfl Sc2 (gs_t hp) (Rd.blk rfl))) ?_
          refine RG.gs rfl rfl rfl (fun hp => (PV.eql rfl (gs_t hp) rfl)) ?_
          refine RG.pv rfl (PV.pickA rfl rfl (fun hq => gs_t (geqT hq)) rfl) ?_
          refine RG.pv rfl (PV.mvB (.inr rfl) rfl) ?_
          refine RG.nil ?_
          refine WP.ret ?_
          exact ⟨_, _, ResV.one rfl rfl, Cv.p, k⟩
def reach (r : Rule) : Int := bif validRule r && decide (r.kind ≤ 3) then r.value else -1
theorem reach_bd {r : Rule} (h : 0 ≤ reach r) : reach r ≤ 8 := by
  revert h; unfold reach
  cases hv : validRule r <;> cases hk : decide (r.kind ≤ 3) <;> simp
  have hk := of_decide_eq_true hk
  simp only [validRule, Bool.and_eq_true] at hv
  have := hv.1.2
  rw [okVal, if_neg (by omega), if_neg (by omega)] at this
  simp [within] at this; omega
theorem reach_neg (r : Rule) (h : (!validRule r || decide (3 < r.kind)) = true) : reach r = -1 := by
  revert h; unfold reach
  cases hv : validRule r <;> simp
  intro h; rw [decide_eq_false (by omega)]; rfl
theorem reach_pos (r : Rule) (h : (!validRule r || decide (3 < r.kind)) = false) : reach r = r.value := by
  revert h; unfold reach
  cases hv : validRule r <;> simp
  intro h; rw [decide_eq_true h]; rfl
theorem reach_i {r : Rule} (k : R (vi (reach r)) G L) : CallT Tryz.prog 53 #[vrule r] G L R := by
  refine CallT.enter (args := _) Tryz.func53 rfl rfl (by kernel_rfl) rfl ?_
  refine WP.seq ?_
  refine WP.region ?_
  refine RG.ot rfl (OT.box (cs := ruleT.enc r) rfl rfl rfl fun b1 => ?_)
  refine RG.pv rfl (PV.mvI (.inr rfl) rfl) ?_
  refine RG.nil ?_
  refine WP.seq ?_
  refine WP.seq ?_
  refine WP.region ?_
  refine RG.pv rfl (PV.loadW rfl Ag34 rfl rfl) ?_
  refine RG.callF (vs := [_]) rfl rfl En39 rfl (validRule_i ?_)
  refine RG.pv rfl (PV.not rfl rfl) ?_
  refine RG.pv rfl (PV.mvB (.inl rfl) rfl) ?_
  refine RG.gs rfl rfl rfl (fun hp => (PV.field rfl Fo34_0 rfl)) ?_
  refine RG.gs rfl rfl rfl (fun hp => (PV.load1 rfl Sc2 (gs_t hp) (Rd.blk rfl))) ?_
  refine RG.gs rfl rfl rfl (fun hp => (PV.gtr rfl (gs_t hp) rfl)) ?_
  refine RG.pv rfl (PV.pickO rfl rfl rfl (fun hq => gs_t (geqF hq))) ?_
  refine RG.nil ?_
  refine WP.cond rfl (fun h1 => ?_) (fun h1 => ?_)
  · rw [reach_neg r h1] at k
    refine WP.seq ?_
    refine WP.region ?_
    refine RG.pv rfl (PV.mvI (.inr rfl) rfl) ?_
    refine RG.nil ?_
    refine WP.ret ?_
    exact ⟨_, _, ResV.one rfl rfl, Cv.p, k⟩
  · rw [reach_pos r h1] at k
    refine WP.skip ?_
    refine WP.seq ?_
    refine WP.region ?_
    refine RG.pv rfl (PV.field rfl Fo34_3 rfl) ?_
    refine RG.pv rfl (PV.load1 rfl Sc2 rfl (Rd.blk rfl)) ?_
    refine RG.pv rfl (PV.mvI (.inr rfl) rfl) ?_
    refine RG.nil ?_
    refine WP.ret ?_
    exact ⟨_, _, ResV.one rfl rfl, Cv.p, k⟩
theorem toRule_s {r : Rule} (k : R (vrule r) G L) : CallT Tryz.prog 11 #[vrule r] G L R := by
  refine CallT.enter (args := _) Tryz.func11 rfl rfl (by kernel_rfl) rfl ?_
  refine WP.seq ?_
  refine WP.region ?_
  refine RG.ot rfl (OT.box (cs := ruleT.enc r) rfl rfl rfl fun b1 => ?_)
  refine RG.ot rfl (OT.alloc rfl Zr34 fun b2 => ?_)
  refine RG.nil ?_
  refine WP.seq ?_
  refine WP.region ?_
  refine RG.ot rfl (OT.alloc rfl Zr34 fun b3 => ?_)
  refine RG.nil ?_
  refine WP.seq ?_
  refine WP.region ?_
  refine RG.pv rfl (PV.field rfl Fo25_0 rfl) ?_
  refine RG.pv rfl (PV.load1 rfl Sc2 rfl (Rd.blk rfl)) ?_
  refine RG.pv rfl (PV.field rfl Fo34_0 rfl) ?_
  refine RG.ot rfl (OT.storeB (vs := [vi _]) (cs' := [_, _, _, _, _]) rfl Sz2 rfl rfl (Cl.c rfl) rfl (OneC.c rfl) rfl rfl ?_)
  refine RG.nil ?_
  refine WP.seq ?_
  refine WP.region ?_
  refine RG.pv rfl (PV.field rfl Fo25_1 rfl) ?_
  refine RG.pv rfl (PV.load1 rfl Sc2 rfl (Rd.blk rfl)) ?_
  refine RG.pv rfl (PV.field rfl Fo34_1 rfl) ?_
  refine RG.ot rfl (OT.storeB (vs := [vi _]) (cs' := [_, _, _, _, _]) rfl Sz2 rfl rfl (Cl.c rfl) rfl (OneC.c rfl) rfl rfl ?_)
  refine RG.nil ?_
  refine WP.seq ?_
  refine WP.region ?_
  refine RG.pv rfl (PV.field rfl Fo25_2 rfl) ?_
  refine RG.pv rfl (PV.load1 rfl Sc2 rfl (Rd.blk rfl)) ?_
  refine RG.pv rfl (PV.field rfl Fo34_2 rfl) ?_
  refine RG.ot rfl (OT.storeB (vs := [vi _]) (cs' := [_, _, _, _, _]) rfl Sz2 rfl rfl (Cl.c rfl) rfl (OneC.c rfl) rfl rfl ?_)
  refine RG.nil ?_
  refine WP.seq ?_
  refine WP.region ?_
  refine RG.pv rfl (PV.field rfl Fo25_3 rfl) ?_
  refine RG.pv rfl (PV.load1 rfl Sc2 rfl (Rd.blk rfl)) ?_
  refine RG.pv rfl (PV.field rfl Fo34_3 rfl) ?_
  refine RG.ot rfl (OT.storeB (vs := [vi _]) (cs' := [_, _, _, _, _]) rfl Sz2 rfl rfl (Cl.c rfl) rfl (OneC.c rfl) rfl rfl ?_)
  refine RG.nil ?_
  refine WP.seq ?_
  refine WP.region ?_
  refine RG.pv rfl (PV.field rfl Fo25_4 rfl) ?_
  refine RG.pv rfl (PV.load1 rfl Sc2 rfl (Rd.blk rfl)) ?_
  refine RG.pv rfl (PV.field rfl Fo34_4 rfl) ?_
  refine RG.ot rfl (OT.storeB (vs := [vi _]) (cs' := [_, _, _, _, _]) rfl Sz2 rfl rfl (Cl.c rfl) rfl (OneC.c rfl) rfl rfl ?_)
  refine RG.nil ?_
  refine WP.seq ?_
  refine WP.region ?_
  refine RG.pv rfl (PV.loadW rfl Ag34 rfl rfl) ?_
  refine RG.ot rfl (OT.storeW (vs := [vi _, vi _, vi _, vi _, vi _]) rfl Sz34 rfl rfl (Cl.c rfl) rfl rfl (OneC.c rfl) ?_)
  refine RG.nil ?_
  refine WP.ret ?_
  exact ⟨_, _, ResV.one rfl (RV1.cell rfl Ag34 rfl), Cv.p, k⟩
theorem grown_s {v : Value} {xs : List Rect} {q : Int} (h1 : Rs G L rectT v xs) (hr : ∀ r ∈ xs, -40 ≤ r.x0 ∧ r.x0 < r.x1 ∧ r.x1 ≤ 40 ∧ -40 ≤ r.y0 ∧ r.y0 < r.y1 ∧ r.y1 ≤ 40) (hq : 0 ≤ q ∧ q ≤ 100) (k : ∀ b, R (.pointer (some ⟨b, 0, none⟩)) G (grd b (growB (bits xs) q) :: L)) : CallT Tryz.prog 109 #[v, vi q] G L R := by
  refine CallT.bd h1 fun hb => ?_
  refine CallT.enter (args := _) Tryz.func109 rfl rfl (by kernel_rfl) rfl ?_
  refine WP.seq ?_
  refine WP.region ?_
  refine RG.pv rfl (PV.asg rfl rfl) ?_
  refine RG.nil ?_
  refine WP.seq ?_
  refine WP.region ?_
  refine RG.pv rfl (PV.build0 rfl Tryz.underlying127 ⟨80, by kernel_rfl⟩ (zeroB_spec (n := 6400) (by kernel_rfl))) ?_
  refine RG.ot rfl (OT.boxG rfl rfl fun b9 => ?_)
  refine RG.pv rfl (PV.mvP (.inr rfl) rfl) ?_
  refine RG.nil ?_
  refine WP.seq ?_
  refine WP.seq ?_
  refine WP.region ?_
  refine RG.pv rfl (PV.move (v := v) rfl rfl) ?_
  refine RG.pv rfl (PV.len (v := v) rfl Tryz.underlying28 rfl (SlF.r h1)) ?_
  refine RG.pv rfl (PV.mvI (.inl rfl) rfl) ?_
  refine RG.nil ?_
  refine WP.block ?_
  refine WP.loop2 [1, 5, 10, 11] (fun (i : Nat) (cs : List Bool) => i ≤ xs.length ∧ cs.length = 6400 ∧ ∀ y x, y < 80 → x < 80 → gb cs y x = (xs.take i).any fun r => inR (enl q r) y x) (fun (i : Nat) (cs : List Bool) => [(12, vi i)]) (fun (i : Nat) (cs : List Bool) => grd b9 cs :: L) (fun (i : Nat) (cs : List Bool) => xs.length - i) 0 (List.replicate 6400 false) ⟨by omega, by simp, fun y x _ _ => by rw [gb_rep]; simp⟩ ⟨rfl, trivial⟩ Cv.p ?_
  rintro i cs τ ⟨hi, hl, hc⟩
  refine WP.seq ?_
  refine WP.region ?_
  refine RG.pv rfl (PV.lss rfl rfl rfl) ?_
  refine RG.nil ?_
  refine WP.seq ?_
  refine WP.cond rfl (fun h2 => ?_) (fun h2 => ?_)
  · have h2 := of_decide_eq_true h2
    have h3 := hr (gd xs i) (by rw [gd_eq (by omega)]; exact List.getElem_mem _)
    refine WP.skip ?_
    refine WP.seq ?_
    refine WP.block ?_
    refine WP.seq ?_
    refine WP.region ?_
    refine RG.pv rfl (PV.idxS (v := v) rfl Is28 rfl (SlF.r h1) rfl rfl (by omega)) ?_
    refine RG.pv rfl (PV.loadE rfl Ag71 rfl rfl (El.r h1 (getG (by omega)))) ?_
    refine RG.ot rfl (OT.alloc rfl Zr71 fun b7 => ?_)
    refine RG.ot rfl (OT.storeW (vs := [vi _, vi _, vi _, vi _]) rfl Sz71 rfl rfl (Cl.c rfl) rfl rfl (OneC.c rfl) ?_)
    refine RG.nil ?_
    refine WP.region ?_
    refine RG.pv rfl (PV.mvP (.inl rfl) rfl) ?_
    refine RG.pv rfl (PV.field rfl Fo71_0 rfl) ?_
    refine RG.pv rfl (PV.load1 rfl Sc2 rfl (Rd.blk rfl)) ?_
    refine RG.pv rfl (PV.mvI (.inl rfl) rfl) ?_
    refine RG.pv rfl (PV.sub rfl rfl rfl (by omega)) ?_
    refine RG.pv rfl (PV.field rfl Fo71_1 rfl) ?_
    refine RG.pv rfl (PV.load1 rfl Sc2 rfl (Rd.blk rfl)) ?_
    refine RG.pv rfl (PV.mvI (.inl rfl) rfl) ?_
    refine RG.pv rfl (PV.sub rfl rfl rfl (by omega)) ?_
    refine RG.pv rfl (PV.field rfl Fo71_2 rfl) ?_
    refine RG.pv rfl (PV.load1 rfl Sc2 rfl (Rd.blk rfl)) ?_
    refine RG.pv rfl (PV.mvI (.inl rfl) rfl) ?_
    refine RG.pv rfl (PV.add rfl rfl rfl (by omega)) ?_
    refine RG.pv rfl (PV.field rfl Fo71_3 rfl) ?_
    refine RG.pv rfl (PV.load1 rfl Sc2 rfl (Rd.blk rfl)) ?_
    refine RG.pv rfl (PV.mvI (.inl rfl) rfl) ?_
    refine RG.pv rfl (PV.add rfl rfl rfl (by omega)) ?_
    refine RG.pv rfl (PV.build (vs := [(0, [vi _]), (1, [vi _]), (2, [vi _]), (3, [vi _])]) (out := [_, _, _, _]) rfl Zr71 Pl71 ⟨rfl, (Cl.c rfl), ⟨rfl, (Cl.c rfl), ⟨rfl, (Cl.c rfl), ⟨rfl, (Cl.c rfl), trivial⟩⟩⟩⟩ rfl) ?_
    refine RG.callF (vs := [(.pointer (some ⟨b9, 0, none⟩)), _]) rfl rfl En149 rfl (CallT.exB (put_s (r := ⟨_, _, _, _⟩) (by assumption) (fun bs' hb' hg' => ?_)))
    refine RG.nil ?_
    refine WP.region ?_
    refine RG.pv rfl (PV.add rfl rfl rfl (by omega)) ?_
    refine RG.pv rfl (PV.mvI (.inl rfl) rfl) ?_
    refine RG.nil ?_
    refine ⟨rfl, i + 1, bs', ⟨by omega, hb', fun y x h5 h6 => ?_⟩, ⟨rfl, trivial⟩, ⟨rfl, rfl, rfl, rfl, trivial⟩, Cv.p, by omega⟩
    rw [hg' y x h5 h6, hc y x h5 h6, List.take_add_one, getG (by omega), List.any_append]; simp [enl]
  · have h2 := of_decide_eq_false h2
    have e : cs = growB (bits xs) q := gb_ext hl (growB_len _ _) fun y x h5 h6 => by
      rw [hc y x h5 h6, List.take_of_length_le (by omega)]; exact grow_enl hq.1 hr h5 h6
    subst e
    refine WP.exit ?_
    refine WP.seq ?_
    refine WP.region ?_
    refine RG.pv rfl (PV.mvP (.inl rfl) rfl) ?_
    refine RG.pv rfl (PV.mvP (.inr rfl) rfl) ?_
    refine RG.nil ?_
    refine WP.ret ?_
    exact ⟨_, _, ResV.one rfl rfl, Cv.p, k b9⟩
theorem grow_s {v : Value} {xs : List Rect} {q : Int} (h1 : Rs G L rectT v xs) (hr : ∀ r ∈ xs, -40 ≤ r.x0 ∧ r.x0 < r.x1 ∧ r.x1 ≤ 40 ∧ -40 ≤ r.y0 ∧ r.y0 < r.y1 ∧ r.y1 ≤ 40) (hq : 0 ≤ q ∧ q ≤ 100) (k : ∀ v', R v' G (osl 71 rectT v' (canon (growB (bits xs) q)) :: L)) : CallT Tryz.prog 54 #[v, vi q] G L R := by
  refine CallT.enter (args := _) Tryz.func54 rfl rfl (by kernel_rfl) rfl ?_
  refine WP.seq ?_
  refine WP.region ?_
  refine RG.pv rfl (PV.asg rfl rfl) ?_
  refine RG.nil ?_
  refine WP.seq ?_
  refine WP.region ?_
  refine RG.pv rfl (PV.move (v := v) rfl rfl) ?_
  refine RG.pv rfl (PV.mvI (.inl rfl) rfl) ?_
  refine RG.callF (vs := [v, _]) rfl rfl En109 rfl (grown_s (Rs.up h1) hr hq (fun b7 => ?_))
  refine RG.callF (vs := [_]) rfl rfl En95 rfl (CallT.exB (region_s (growB_len _ _) (fun v8 => ?_)))
  refine RG.pv rfl (PV.asg (v := v8) rfl rfl) ?_
  refine RG.nil ?_
  refine WP.ret ?_
  exact ⟨_, _, ResV.one rfl rfl, Cv.p, k v8⟩
def layersOf (r : Rule) : List Nat := r.layer.toNat :: (bif paired r.kind then [r.other.toNat] else [])
abbrev fullR : Rect := ⟨-40, -40, 40, 40⟩
def recOf (b : List Bool) (r : Rule) : List Rect := if 0 ≤ reach r then canon (growB b (reach r)) else if cnt b = 0 then [] else [fullR]
def recB (l m : List (List Rect)) (r : Rule) : Bool := isLay l && isLay m && validRule r
def recR (l m : List (List Rect)) (r : Rule) : List Rect := bif recB l m r then recOf (orL l m (layersOf r)) r else []
def recE (l m : List (List Rect)) (r : Rule) : Int := bif recB l m r then 0 else 1
theorem validRule_bd {r : Rule} (h : validRule r = true) : 0 ≤ r.layer ∧ r.layer ≤ 7 ∧ (paired r.kind = true → 0 ≤ r.other ∧ r.other ≤ 7) := by
  simp only [validRule, Bool.and_eq_true] at h
  obtain ⟨⟨⟨⟨_, h2⟩, h3⟩, _⟩, _⟩ := h
  simp only [within, Bool.and_eq_true, decide_eq_true_eq] at h2
  refine ⟨h2.1, h2.2, fun hp => ?_⟩
  rw [okOther, hp] at h3
  simp [within] at h3; omega
theorem recB_cases {l m : List (List Rect)} {r : Rule} (h : (!isLay l || !isLay m || !validRule r) = true) : recB l m r = false := by
  unfold recB; revert h; cases isLay l <;> cases isLay m <;> cases validRule r <;> simp
theorem recB_true {l m : List (List Rect)} {r : Rule} (h : (!isLay l || !isLay m || !validRule r) = false) : isLay l = true ∧ isLay m = true ∧ validRule r = true := by
  revert h; cases isLay l <;> cases isLay m <;> cases validRule r <;> simp
theorem layers_map {r : Rule} (h : validRule r = true) : (layersOf r).map Int.ofNat = r.layer :: (bif paired r.kind then [r.other] else []) := by
  obtain ⟨hr1, hr2, hr3⟩ := validRule_bd h
  have a : ((r.layer.toNat : Nat) : Int) = r.layer := by omega
  unfold layersOf
  cases hp : paired r.kind
  · simp [a]
  · have b : ((r.other.toNat : Nat) : Int) = r.other := by have := hr3 hp; omega
    simp [a, b]
theorem layers_lt {r : Rule} (h : validRule r = true) : ((layersOf r).all fun k => decide (k < 8)) = true ∧ (layersOf r).length ≤ 100 := by
  obtain ⟨hr1, hr2, hr3⟩ := validRule_bd h
  unfold layersOf
  cases hp : paired r.kind
  · simp; omega
  · have := hr3 hp
    simp; omega
theorem recArea_i {v u : Value} {xs ys : List (Sl Rect)} {r : Rule} (h1 : Rs G L slT v xs) (hd : RsE G L rectT xs) (h2 : Rs G L slT u ys) (hd' : RsE G L rectT ys) (k : ∀ v', R (.tuple #[v', vi (recE (er xs) (er ys) r)]) G (osl 71 rectT v' (recR (er xs) (er ys) r) :: L)) : CallT Tryz.prog 22 #[v, u, vrule r] G L R := by
  refine CallT.enter (args := _) Tryz.func22 rfl rfl (by kernel_rfl) rfl ?_
  refine WP.seq ?_
  refine WP.region ?_
  refine RG.ot rfl (OT.box (cs := ruleT.enc r) rfl rfl rfl fun b5 => ?_)
  refine RG.pv rfl (PV.asg rfl rfl) ?_
  refine RG.pv rfl (PV.mvI (.inr rfl) rfl) ?_
  refine RG.nil ?_
  refine WP.seq ?_
  refine WP.seq ?_
  refine WP.region ?_
  refine RG.pv rfl (PV.move (v := v) rfl rfl) ?_
  refine RG.callF (vs := [v]) rfl rfl En38 rfl (isLayout_s (Rs.up h1) hd.up ?_)
  refine RG.pv rfl (PV.not rfl rfl) ?_
  refine RG.pv rfl (PV.mvB (.inl rfl) rfl) ?_
  refine RG.gs rfl rfl rfl (fun hp => (PV.move (v := u) rfl rfl)) ?_
  refine RG.gsC rfl rfl rfl rfl En38 (fun hp => ⟨_, (acons (gs_t hp) anil), isLayout_s (Rs.up h2) hd'.up ⟨rfl, rfl, rfl⟩⟩) ?_
  refine RG.gs rfl rfl rfl (fun hp => (PV.not rfl (gs_t hp))) ?_
  refine RG.pv rfl (PV.pickO rfl rfl rfl (fun hq => gs_t (geqF hq))) ?_
  refine RG.pv rfl (PV.mvB (.inl rfl) rfl) ?_
  refine RG.gs rfl rfl rfl (fun hp => (PV.loadW rfl Ag34 rfl rfl)) ?_
  refine RG.gsC rfl rfl rfl rfl En39 (fun hp => ⟨_, (acons (gs_t hp) anil), validRule_i ⟨rfl, rfl, rfl⟩⟩) ?_
  refine RG.gs rfl rfl rfl (fun hp => (PV.not rfl (gs_t hp))) ?_
  refine RG.pv rfl (PV.pickO rfl rfl rfl (fun hq => gs_t (geqF hq))) ?_
  refine RG.nil ?_
  refine WP.cond rfl (fun h3 => ?_) (fun h3 => ?_)
  · have e := recB_cases (l := er xs) (m := er ys) (r := r) h3
    have e1 : recR (er xs) (er ys) r = [] := by rw [recR, e]; rfl
    have e2 : recE (er xs) (er ys) r = 1 := by rw [recE, e]; rfl
    rw [e1, e2] at k
    refine WP.seq ?_
    refine WP.region ?_
    refine RG.pv rfl (PV.asg rfl rfl) ?_
    refine RG.pv rfl (PV.mvI (.inr rfl) rfl) ?_
    refine RG.nil ?_
    refine WP.ret ?_
    exact ⟨_, _, ResV.two rfl rfl rfl, Cv.nilP, k (.slice none 0 0)⟩
  · obtain ⟨hx, hy, hr⟩ := recB_true h3
    have e : recB (er xs) (er ys) r = true := by rw [recB, hx, hy, hr]; rfl
    have e1 : recR (er xs) (er ys) r = recOf (orL (er xs) (er ys) (layersOf r)) r := by rw [recR, e]; rfl
    have e2 : recE (er xs) (er ys) r = 0 := by rw [recE, e]; rfl
    rw [e1, e2] at k
    have hlm := layers_map hr
    obtain ⟨hk8, hkl⟩ := layers_lt hr
    refine WP.skip ?_
    refine WP.seq ?_
    refine WP.region ?_
    refine RG.pv rfl (PV.field rfl Fo34_1 rfl) ?_
    refine RG.pv rfl (PV.load1 rfl Sc2 rfl (Rd.blk rfl)) ?_
    refine RG.ot rfl (OT.bslice (F := intT) (els := [_]) rfl El83 rfl (by decide) rfl (by decide) ⟨rfl, (Cl.c rfl), trivial⟩ fun v26 => ?_)
    refine RG.pv rfl (PV.asg (v := v26) rfl rfl) ?_
    refine RG.nil ?_
    refine WP.cut1 [0, 1, 5] (fun (q : Value) => True) (fun (q : Value) => [(8, q)]) (fun (q : Value) => osl 2 intT q ((layersOf r).map Int.ofNat) :: blk b5 34 (ruleT.enc r) :: L) ?_ ?_
    refine WP.seq ?_
    refine WP.region ?_
    refine RG.pv rfl (PV.field rfl Fo34_0 rfl) ?_
    refine RG.pv rfl (PV.load1 rfl Sc2 rfl (Rd.blk rfl)) ?_
    refine RG.callF (vs := [_]) rfl rfl En51 rfl (hasOther_s ?_)
    refine RG.nil ?_
    refine WP.cond rfl (fun h4 => ?_) (fun h4 => ?_)
    · refine WP.region ?_
      refine RG.pv rfl (PV.move (v := v26) rfl rfl) ?_
      refine RG.pv rfl (PV.field rfl Fo34_2 rfl) ?_
      refine RG.pv rfl (PV.load1 rfl Sc2 rfl (Rd.blk rfl)) ?_
      refine RG.ot rfl (OT.bslice (F := intT) (els := [_]) rfl El83 rfl (by decide) rfl (by decide) ⟨rfl, (Cl.c rfl), trivial⟩ fun v33 => ?_)
      refine RG.ot rfl (OT.append (v := v26) (u := v33) (F := intT) rfl El83 rfl (by decide) rfl rfl Rs.o (OneL.c (fun _ => rfl)) rfl (by first | omega | (simp <;> omega)) fun v34 => ?_)
      refine RG.pv rfl (PV.asg (v := v34) rfl rfl) ?_
      refine RG.nil ?_
      exact ⟨rfl, v34, trivial, ⟨rfl, trivial⟩, ⟨rfl, rfl, rfl, trivial⟩, (Cv.p (C := osl 2 intT v34 ([r.layer] ++ [r.other]) :: blk b5 34 (ruleT.enc r) :: L)).trans (Cv.eqS (by rw [hlm, h4]; try rfl))⟩
    · refine WP.skip ?_
      exact ⟨rfl, v26, trivial, ⟨rfl, trivial⟩, ⟨rfl, rfl, rfl, trivial⟩, (Cv.p (C := osl 2 intT v26 [r.layer] :: blk b5 34 (ruleT.enc r) :: L)).trans (Cv.eqS (by rw [hlm, h4]; try rfl))⟩
    rintro q τ1 -
    refine WP.seq ?_
    refine WP.region ?_
    refine RG.pv rfl (PV.move (v := v) rfl rfl) ?_
    refine RG.pv rfl (PV.move (v := u) rfl rfl) ?_
    refine RG.pv rfl (PV.move (v := q) rfl rfl) ?_
    refine RG.callF (vs := [v, u, q]) rfl rfl En52 rfl (changed_s (ks := layersOf r) (Rs.up h1) hd.up (Rs.up h2) hd'.up Rs.o hx hy hk8 hkl (fun v38 => ?_))
    refine RG.pv rfl (PV.asg (v := v38) rfl rfl) ?_
    refine RG.nil ?_
    refine WP.seq ?_
    refine WP.seq ?_
    refine WP.region ?_
    refine RG.pv rfl (PV.loadW rfl Ag34 rfl rfl) ?_
    refine RG.callF (vs := [_]) rfl rfl En53 rfl (reach_i ?_)
    refine RG.pv rfl (PV.mvI (.inr rfl) rfl) ?_
    refine RG.nil ?_
    refine WP.seq ?_
    refine WP.region ?_
    refine RG.pv rfl (PV.mvI (.inl rfl) rfl) ?_
    refine RG.pv rfl (PV.geq rfl rfl rfl) ?_
    refine RG.nil ?_
    have hB := orL_len (er xs) (er ys) (layersOf r)
    have hbc := bits_canon hB
    have hcm := canonFrom_mem (orL (er xs) (er ys) (layersOf r)) 0
    have hcn := canon_nil hB
    have hcl := canon_len (orL (er xs) (er ys) (layersOf r))
    refine WP.cond rfl (fun h5 => ?_) (fun h5 => ?_)
    · have h5 := of_decide_eq_true h5
      have e : recOf (orL (er xs) (er ys) (layersOf r)) r = canon (growB (bits (canon (orL (er xs) (er ys) (layersOf r)))) (reach r)) := by rw [recOf, if_pos h5, hbc]
      rw [e] at k
      refine WP.seq ?_
      refine WP.region ?_
      refine RG.pv rfl (PV.move (v := v38) rfl rfl) ?_
      refine RG.pv rfl (PV.mvI (.inl rfl) rfl) ?_
      refine RG.callF (vs := [v38, _]) rfl rfl En54 rfl (grow_s Rs.o hcm (by have := reach_bd h5; omega) (fun v45 => ?_))
      refine RG.pv rfl (PV.asg (v := v45) rfl rfl) ?_
      refine RG.pv rfl (PV.mvI (.inr rfl) rfl) ?_
      refine RG.nil ?_
      refine WP.ret ?_
      exact ⟨_, _, ResV.two rfl rfl rfl, Cv.p, k v45⟩
    · have h5 := of_decide_eq_false h5
      refine WP.skip ?_
      refine WP.seq ?_
      refine WP.seq ?_
      refine WP.region ?_
      refine RG.pv rfl (PV.move (v := v38) rfl rfl) ?_
      refine RG.pv rfl (PV.len (v := v38) rfl Tryz.underlying28 rfl SlF.o) ?_
      refine RG.pv rfl (PV.gtr rfl rfl rfl) ?_
      refine RG.nil ?_
      refine WP.cond rfl (fun h6 => ?_) (fun h6 => ?_)
      · have h6 := of_decide_eq_true h6
        have e : recOf (orL (er xs) (er ys) (layersOf r)) r = [fullR] := by rw [recOf, if_neg h5, if_neg (fun h => by rw [← hcn] at h; omega)]
        rw [e] at k
        refine WP.region ?_
        refine RG.pv rfl (PV.build (vs := [(0, [vi _]), (1, [vi _]), (2, [vi _]), (3, [vi _])]) (out := [_, _, _, _]) rfl Zr71 Pl71 ⟨rfl, (Cl.c rfl), ⟨rfl, (Cl.c rfl), ⟨rfl, (Cl.c rfl), ⟨rfl, (Cl.c rfl), trivial⟩⟩⟩⟩ rfl) ?_
        refine RG.ot rfl (OT.bslice (F := rectT) (els := [⟨_, _, _, _⟩]) rfl El28 rfl (by decide) rfl (by decide) ⟨rfl, (Cl.c rfl), trivial⟩ fun v50 => ?_)
        refine RG.pv rfl (PV.asg (v := v50) rfl rfl) ?_
        refine RG.nil ?_
        refine WP.seq ?_
        refine WP.region ?_
        refine RG.pv rfl (PV.move (v := v50) rfl rfl) ?_
        refine RG.pv rfl (PV.asg (v := v50) rfl rfl) ?_
        refine RG.pv rfl (PV.mvI (.inr rfl) rfl) ?_
        refine RG.nil ?_
        refine WP.ret ?_
        exact ⟨_, _, ResV.two rfl rfl rfl, Cv.p, k v50⟩
      · have h6 := of_decide_eq_false h6
        have h7 : (canon (orL (er xs) (er ys) (layersOf r))).length = 0 := by omega
        have e : recOf (orL (er xs) (er ys) (layersOf r)) r = canon (orL (er xs) (er ys) (layersOf r)) := by
          rw [recOf, if_neg h5, if_pos (hcn.1 h7), List.eq_nil_of_length_eq_zero h7]
        rw [e] at k
        refine WP.skip ?_
        refine WP.seq ?_
        refine WP.region ?_
        refine RG.pv rfl (PV.move (v := v38) rfl rfl) ?_
        refine RG.pv rfl (PV.asg (v := v38) rfl rfl) ?_
        refine RG.pv rfl (PV.mvI (.inr rfl) rfl) ?_
        refine RG.nil ?_
        refine WP.ret ?_
        exact ⟨_, _, ResV.two rfl rfl rfl, Cv.p, k v38⟩
end Go.Proofs.YtpjajhjcbcfplaaGreat
namespace Go.Proofs.YtpjajhjcbcfplaaGreat
set_option linter.unusedVariables false
set_option linter.unusedSimpArgs false
open Go
set_option maxRecDepth 20000
set_option maxHeartbeats 2000000
set_option linter.unusedSimpArgs false
variable {G : Gh} {L : List Ch} {R : Value → Gh → List Ch → Prop}
theorem bits_app {xs ys : List Rect} {y x : Nat} (hy : y < 80) (hx : x < 80) : gb (bits (xs ++ ys)) y x = (gb (bits xs) y x || gb (bits ys) y x) := by rw [gb_bits' _ hy hx, gb_bits' _ hy hx, gb_bits' _ hy hx, List.any_append]
theorem RsE.two {a b : Sl Rect} (ha : Rs G L rectT a.v a.xs) (hb : Rs G L rectT b.v b.xs) : RsE G L rectT [a, b] := fun i hi => by
  rcases Nat.lt_or_ge i 1 with h | h
  · obtain rfl : i = 0 := by omega
    rw [show gd [a, b] 0 = a by simp [gd]]; exact ha
  · obtain rfl : i = 1 := by simp at hi; omega
    rw [show gd [a, b] 1 = b by simp [gd]]; exact hb
theorem markBetween_i {u v : Value} {xs ys : List Rect} {w : Int} (h1 : Rs G L rectT u xs) (h2 : Rs G L rectT v ys) (k : ∀ v', R v' G (osl 71 rectT v' (betwL xs ys w) :: L)) : CallT Tryz.prog 98 #[u, v, vi w] G L R := by
  refine CallT.enter (args := _) Tryz.func98 rfl rfl (by kernel_rfl) rfl ?_
  refine WP.seq ?_
  refine WP.region ?_
  refine RG.pv rfl (PV.asg rfl rfl) ?_
  refine RG.nil ?_
  refine WP.seq ?_
  refine WP.seq ?_
  refine WP.region ?_
  refine RG.pv rfl (PV.move (v := u) rfl rfl) ?_
  refine RG.pv rfl (PV.mvI (.inl rfl) rfl) ?_
  refine RG.callF (vs := [u, _]) rfl rfl En150 rfl (checkable_i (Rs.up h1) ?_)
  refine RG.pv rfl (PV.not rfl rfl) ?_
  refine RG.pv rfl (PV.mvB (.inl rfl) rfl) ?_
  refine RG.gs rfl rfl rfl (fun hp => (PV.move (v := v) rfl rfl)) ?_
  refine RG.gsC rfl rfl rfl rfl En40 (fun hp => ⟨_, (acons (gs_t hp) anil), isRegion_s (Rs.up h2) ⟨rfl, rfl, rfl⟩⟩) ?_
  refine RG.gs rfl rfl rfl (fun hp => (PV.not rfl (gs_t hp))) ?_
  refine RG.pv rfl (PV.pickO rfl rfl rfl (fun hq => gs_t (geqF hq))) ?_
  refine RG.nil ?_
  refine WP.cond rfl (fun h3 => ?_) (fun h3 => ?_)
  · have e : betwL xs ys w = [] := by rw [betwL, if_neg]; intro h4; cases g1 : isReg xs <;> cases g2 : isReg ys <;> cases g3 : okDist w <;> simp_all
    rw [e] at k
    refine WP.seq ?_
    refine WP.region ?_
    refine RG.pv rfl (PV.asg rfl rfl) ?_
    refine RG.nil ?_
    refine WP.ret ?_
    exact ⟨_, _, ResV.one rfl rfl, Cv.nilS, k _⟩
  · have h4 : isReg xs = true ∧ isReg ys = true ∧ okDist w = true := by cases g1 : isReg xs <;> cases g2 : isReg ys <;> cases g3 : okDist w <;> simp_all
    refine WP.skip ?_
    refine WP.seq ?_
    refine WP.region ?_
    refine RG.pv rfl (PV.move (v := u) rfl rfl) ?_
    refine RG.pv rfl (PV.move (v := v) rfl rfl) ?_
    refine RG.callF (vs := [u, v]) rfl rfl En154 rfl (gapsBetween_i (Rs.up h1) (Rs.up h2) (fun v18 outv18 houtv18 => have hlnv18 := houtv18.len; ?_))
    refine RG.pv rfl (PV.mvI (.inl rfl) rfl) ?_
    refine RG.callF (vs := [v18, _]) rfl rfl En151 rfl (shorter_i Rs.o (gapsA_valid houtv18) (by omega) (fun v20 Ev20 hEv20 hgv20 => ?_))
    refine RG.pv rfl (PV.move (v := u) rfl rfl) ?_
    refine RG.pv rfl (PV.move (v := v) rfl rfl) ?_
    refine RG.callF (vs := [u, v]) rfl rfl En155 rfl (inter_s (Rs.up h1) (Rs.up h2) (fun v23 => ?_))
    refine RG.ot rfl (OT.bslice (F := (slT (α := Rect))) (els := [⟨v20, canon Ev20⟩, ⟨v23, opR (fun p q => p && q) xs ys⟩]) rfl El32 rfl (by decide) rfl (by decide) ⟨rfl, (Cl.s (v := v20) SlF.o), ⟨rfl, (Cl.s (v := v23) SlF.o), trivial⟩⟩ fun v24 => ?_)
    refine RG.callF (vs := [v24]) rfl rfl En108 rfl (unionAll_s (xs := [⟨v20, canon Ev20⟩, ⟨v23, opR (fun p q => p && q) xs ys⟩]) Rs.o (RsE.two Rs.o Rs.o) (fun v25 => ?_))
    refine RG.pv rfl (PV.asg (v := v25) rfl rfl) ?_
    refine RG.nil ?_
    refine WP.ret ?_
    have e : betwL xs ys w = canon (bits (er [(⟨v20, canon Ev20⟩ : Sl Rect), ⟨v23, opR (fun p q => p && q) xs ys⟩]).flatten) := by
      have hz : opR (fun p q => p && q) xs ys = canon (zipB (fun p q => p && q) (bits xs) (bits ys)) := by simp [opR, h4.1, h4.2.1]
      have hzl := zipB_len (f := fun p q => p && q) (bits_length xs) (bits_length ys)
      rw [betwL, if_pos (by rw [h4.1, h4.2.1, h4.2.2]; rfl)]
      refine congrArg canon (celL_eq (bits_length _) fun y x hy hx => ?_).symm
      rw [show (er [(⟨v20, canon Ev20⟩ : Sl Rect), ⟨v23, opR (fun p q => p && q) xs ys⟩]).flatten = canon Ev20 ++ opR (fun p q => p && q) xs ys by simp [er], bits_app hy hx, bits_canon hEv20, hz, bits_canon hzl, Bool.or_eq_true, hgv20 y x hy hx, near_iff houtv18, gb, zipB_gd (by rw [bits_length]; omega) (by rw [bits_length]; omega), Bool.and_eq_true]
      rfl
    rw [e] at k
    exact ⟨_, _, ResV.one rfl rfl, Cv.p, k v25⟩
theorem markEncl0_i {u v : Value} {xs ys : List Rect} {w : Int} (h1 : Rs G L rectT u xs) (h2 : Rs G L rectT v ys) (hreg : isReg xs = true) (hregy : isReg ys = true) (hw : 0 ≤ w ∧ w ≤ 8) (k : ∀ v', R v' G (osl 71 rectT v' (enclL xs ys w) :: L)) : CallT Tryz.prog 156 #[u, v, vi w] G L R := by
  have e : enclL xs ys w = opR (fun p q => p && !q) (canon (growB (bits xs) w)) ys := by
    rw [enclL, if_pos (by simp [hreg, hregy, within, hw.1, hw.2]), opR, isReg_canon (growB_len _ _), hregy, bits_canon (growB_len _ _)]; rfl
  rw [e] at k
  refine CallT.enter (args := _) Tryz.func156 rfl rfl (by kernel_rfl) rfl ?_
  refine WP.seq ?_
  refine WP.region ?_
  refine RG.pv rfl (PV.asg rfl rfl) ?_
  refine RG.nil ?_
  refine WP.seq ?_
  refine WP.region ?_
  refine RG.pv rfl (PV.move (v := u) rfl rfl) ?_
  refine RG.pv rfl (PV.mvI (.inl rfl) rfl) ?_
  refine RG.callF (vs := [u, _]) rfl rfl En54 rfl (grow_s (Rs.up h1) (fun r hr => by have := validR_iff.1 (valid_mem (isReg_valid hreg) hr); omega) (by omega) (fun v9 => ?_))
  refine RG.pv rfl (PV.move (v := v) rfl rfl) ?_
  refine RG.callF (vs := [v9, v]) rfl rfl En27 rfl (diff_s Rs.o (Rs.up h2) (fun v11 => ?_))
  refine RG.pv rfl (PV.asg (v := v11) rfl rfl) ?_
  refine RG.nil ?_
  refine WP.ret ?_
  exact ⟨_, _, ResV.one rfl rfl, Cv.p, k v11⟩
theorem markEncl_i {u v : Value} {xs ys : List Rect} {w : Int} (h1 : Rs G L rectT u xs) (h2 : Rs G L rectT v ys) (k : ∀ v', R v' G (osl 71 rectT v' (enclL xs ys w) :: L)) : CallT Tryz.prog 99 #[u, v, vi w] G L R := by
  refine CallT.enter (args := _) Tryz.func99 rfl rfl (by kernel_rfl) rfl ?_
  refine WP.seq ?_
  refine WP.region ?_
  refine RG.pv rfl (PV.asg rfl rfl) ?_
  refine RG.nil ?_
  refine WP.seq ?_
  refine WP.seq ?_
  refine WP.region ?_
  refine RG.pv rfl (PV.move (v := u) rfl rfl) ?_
  refine RG.callF (vs := [u]) rfl rfl En40 rfl (isRegion_s (Rs.up h1) ?_)
  refine RG.pv rfl (PV.not rfl rfl) ?_
  refine RG.pv rfl (PV.mvB (.inl rfl) rfl) ?_
  refine RG.gs rfl rfl rfl (fun hp => (PV.move (v := v) rfl rfl)) ?_
  refine RG.gsC rfl rfl rfl rfl En40 (fun hp => ⟨_, (acons (gs_t hp) anil), isRegion_s (Rs.up h2) ⟨rfl, rfl, rfl⟩⟩) ?_
  refine RG.gs rfl rfl rfl (fun hp => (PV.not rfl (gs_t hp))) ?_
  refine RG.pv rfl (PV.pickO rfl rfl rfl (fun hq => gs_t (geqF hq))) ?_
  refine RG.pv rfl (PV.mvB (.inl rfl) rfl) ?_
  refine RG.gs rfl rfl rfl (fun hp => (PV.mvI (.inl rfl) rfl)) ?_
  refine RG.gsC rfl rfl rfl rfl En92 (fun hp => ⟨_, (acons (gs_t hp) (acons rfl (acons rfl anil))), within_s ⟨rfl, rfl, rfl⟩⟩) ?_
  refine RG.gs rfl rfl rfl (fun hp => (PV.not rfl (gs_t hp))) ?_
  refine RG.pv rfl (PV.pickO rfl rfl rfl (fun hq => gs_t (geqF hq))) ?_
  refine RG.nil ?_
  refine WP.cond rfl (fun h3 => ?_) (fun h3 => ?_)
  · have e : enclL xs ys w = [] := by rw [enclL, if_neg]; intro h4; cases g1 : isReg xs <;> cases g2 : isReg ys <;> cases g3 : within w 0 8 <;> simp_all
    rw [e] at k
    refine WP.seq ?_
    refine WP.region ?_
    refine RG.pv rfl (PV.asg rfl rfl) ?_
    refine RG.nil ?_
    refine WP.ret ?_
    exact ⟨_, _, ResV.one rfl rfl, Cv.nilS, k _⟩
  · have h4 : isReg xs = true ∧ isReg ys = true ∧ 0 ≤ w ∧ w ≤ 8 := by cases g1 : isReg xs <;> cases g2 : isReg ys <;> simp_all [within]
    refine WP.skip ?_
    refine WP.seq ?_
    refine WP.region ?_
    refine RG.pv rfl (PV.move (v := u) rfl rfl) ?_
    refine RG.pv rfl (PV.move (v := v) rfl rfl) ?_
    refine RG.pv rfl (PV.mvI (.inl rfl) rfl) ?_
    refine RG.callF (vs := [u, v, _]) rfl rfl En156 rfl (markEncl0_i (Rs.up h1) (Rs.up h2) h4.1 h4.2.1 h4.2.2 (fun v23 => ?_))
    refine RG.pv rfl (PV.asg (v := v23) rfl rfl) ?_
    refine RG.nil ?_
    refine WP.ret ?_
    exact ⟨_, _, ResV.one rfl rfl, Cv.p, k v23⟩
end Go.Proofs.YtpjajhjcbcfplaaGreat
namespace Go.Proofs.YtpjajhjcbcfplaaGreat
set_option linter.unusedVariables false
set_option linter.unusedSimpArgs false
open Go
set_option maxRecDepth 20000
set_option linter.unusedSimpArgs false
variable {G : Gh} {L : List Ch} {R : Value → Gh → List Ch → Prop}
theorem windows_i {w : Int} (k : ∀ v', R v' G (osl 71 rectT v' (windL w) :: L)) : CallT Tryz.prog 158 #[vi w] G L R := by
  refine CallT.enter (args := _) Tryz.func158 rfl rfl (by kernel_rfl) rfl ?_
  refine WP.seq ?_
  refine WP.region ?_
  refine RG.pv rfl (PV.asg rfl rfl) ?_
  refine RG.nil ?_
  refine WP.seq ?_
  refine WP.seq ?_
  refine WP.region ?_
  refine RG.pv rfl (PV.mvI (.inl rfl) rfl) ?_
  refine RG.callF (vs := [_, _, _]) rfl rfl En92 rfl (within_s ?_)
  refine RG.pv rfl (PV.not rfl rfl) ?_
  refine RG.nil ?_
  refine WP.cond rfl (fun h2 => ?_) (fun h2 => ?_)
  · have e : windL w = [] := by rw [windL, if_neg]; intro h3; rw [h3] at h2; simp at h2
    rw [e] at k
    refine WP.seq ?_
    refine WP.region ?_
    refine RG.pv rfl (PV.asg rfl rfl) ?_
    refine RG.nil ?_
    refine WP.ret ?_
    exact ⟨_, _, ResV.one rfl rfl, Cv.nilS, k _⟩
  · have h20 : within w 4 40 = true := by simpa using h2
    have h3 : 4 ≤ w ∧ w ≤ 40 := by simpa [within] using h20
    have hwl := (winY_facts (w := w) (by omega) (-40) (by omega)).1
    have e : windL w = winY w (-40) := by rw [windL, if_pos h20]
    rw [e] at k
    refine WP.skip ?_
    refine WP.seq ?_
    refine WP.region ?_
    refine RG.ot rfl (OT.bslice (F := rectT) (els := []) rfl El28 rfl (by decide) rfl (by decide) trivial fun v9 => ?_)
    refine RG.pv rfl (PV.asg (v := v9) rfl rfl) ?_
    refine RG.nil ?_
    refine WP.seq ?_
    refine WP.seq ?_
    refine WP.region ?_
    refine RG.pv rfl (PV.mvI (.inr rfl) rfl) ?_
    refine RG.nil ?_
    refine WP.block ?_
    refine WP.loop3 [0] (fun (y : Int) (zs : List Rect) (q : Value) => (-40 ≤ y ∧ y ≤ 80) ∧ zs ++ winY w y = winY w (-40)) (fun (y : Int) (zs : List Rect) (q : Value) => [(4, vi y), (3, q)]) (fun (y : Int) (zs : List Rect) (q : Value) => osl 71 rectT q zs :: L) (fun (y : Int) (zs : List Rect) (q : Value) => (80 - y).toNat) (-40) [] v9 ⟨by omega, rfl⟩ ⟨rfl, rfl, trivial⟩ Cv.p ?_
    rintro y zs q τ ⟨hy, hz⟩
    refine WP.seq ?_
    refine WP.seq ?_
    refine WP.region ?_
    refine RG.pv rfl (PV.mvI (.inl rfl) rfl) ?_
    refine RG.pv rfl (PV.lss rfl rfl rfl) ?_
    refine RG.nil ?_
    refine WP.cond rfl (fun h4 => ?_) (fun h4 => ?_)
    · have h4 := of_decide_eq_true h4
      rw [winY_on (by omega) h4] at hz
      refine WP.skip ?_
      refine WP.seq ?_
      refine WP.block ?_
      refine WP.seq ?_
      refine WP.region ?_
      refine RG.pv rfl (PV.mvI (.inr rfl) rfl) ?_
      refine RG.nil ?_
      refine WP.block ?_
      refine WP.loop3 [0, 4] (fun (x : Int) (zs2 : List Rect) (q2 : Value) => (-40 ≤ x ∧ x ≤ 80) ∧ zs2 ++ (winX w y x ++ winY w (y + w)) = winY w (-40)) (fun (x : Int) (zs2 : List Rect) (q2 : Value) => [(5, vi x), (3, q2)]) (fun (x : Int) (zs2 : List Rect) (q2 : Value) => osl 71 rectT q2 zs2 :: L) (fun (x : Int) (zs2 : List Rect) (q2 : Value) => (80 - x).toNat) (-40) zs q ⟨by omega, hz⟩ ⟨rfl, rfl, trivial⟩ Cv.p ?_
      rintro x zs2 q2 τ1 ⟨hx, hz2⟩
      refine WP.seq ?_
      refine WP.seq ?_
      refine WP.region ?_
      refine RG.pv rfl (PV.mvI (.inl rfl) rfl) ?_
      refine RG.pv rfl (PV.lss rfl rfl rfl) ?_
      refine RG.nil ?_
      have hz2l := congrArg List.length hz2
      rw [List.length_append] at hz2l
      refine WP.cond rfl (fun h5 => ?_) (fun h5 => ?_)
      · have h5 := of_decide_eq_true h5
        rw [winX_on (by omega) h5] at hz2
        refine WP.skip ?_
        refine WP.seq ?_
        refine WP.block ?_
        refine WP.region ?_
        refine RG.pv rfl (PV.move (v := q2) rfl rfl) ?_
        refine RG.pv rfl (PV.mvI (.inl rfl) rfl) ?_
        refine RG.pv rfl (PV.mvI (.inl rfl) rfl) ?_
        refine RG.pv rfl (PV.mvI (.inl rfl) rfl) ?_
        refine RG.pv rfl (PV.mvI (.inl rfl) rfl) ?_
        refine RG.pv rfl (PV.add rfl rfl rfl (by omega)) ?_
        refine RG.pv rfl (PV.min2 rfl rfl rfl) ?_
        refine RG.pv rfl (PV.mvI (.inl rfl) rfl) ?_
        refine RG.pv rfl (PV.mvI (.inl rfl) rfl) ?_
        refine RG.pv rfl (PV.add rfl rfl rfl (by omega)) ?_
        refine RG.pv rfl (PV.min2 rfl rfl rfl) ?_
        refine RG.pv rfl (PV.build (vs := [(0, [vi _]), (1, [vi _]), (2, [vi _]), (3, [vi _])]) (out := [_, _, _, _]) rfl Zr71 Pl71 ⟨rfl, (Cl.c rfl), ⟨rfl, (Cl.c rfl), ⟨rfl, (Cl.c rfl), ⟨rfl, (Cl.c rfl), trivial⟩⟩⟩⟩ rfl) ?_
        refine RG.ot rfl (OT.bslice (F := rectT) (els := [⟨_, _, _, _⟩]) rfl El28 rfl (by decide) rfl (by decide) ⟨rfl, (Cl.c rfl), trivial⟩ fun v32 => ?_)
        refine RG.ot rfl (OT.append (v := q2) (u := v32) (F := rectT) rfl El28 rfl (by decide) rfl rfl Rs.o (OneL.c (fun _ => rfl)) rfl (by first | omega | (simp <;> omega)) fun v33 => ?_)
        refine RG.pv rfl (PV.asg (v := v33) rfl rfl) ?_
        refine RG.nil ?_
        refine WP.region ?_
        refine RG.pv rfl (PV.mvI (.inl rfl) rfl) ?_
        refine RG.pv rfl (PV.mvI (.inl rfl) rfl) ?_
        refine RG.pv rfl (PV.add rfl rfl rfl (by omega)) ?_
        refine RG.pv rfl (PV.mvI (.inr rfl) rfl) ?_
        refine RG.nil ?_
        exact ⟨rfl, x + w, (zs2 ++ [⟨x, y, min (x + w) 40, min (y + w) 40⟩]), v33, ⟨by omega, by rw [← hz2]; simp [winR]⟩, ⟨rfl, rfl, trivial⟩, ⟨rfl, rfl, trivial⟩, Cv.p, by omega⟩
      · have h5 := of_decide_eq_false h5
        rw [winX_off h5, List.nil_append] at hz2
        refine WP.exit ?_
        refine WP.region ?_
        refine RG.pv rfl (PV.mvI (.inl rfl) rfl) ?_
        refine RG.pv rfl (PV.mvI (.inl rfl) rfl) ?_
        refine RG.pv rfl (PV.add rfl rfl rfl (by omega)) ?_
        refine RG.pv rfl (PV.mvI (.inr rfl) rfl) ?_
        refine RG.nil ?_
        exact ⟨rfl, y + w, zs2, q2, ⟨by omega, hz2⟩, ⟨rfl, rfl, trivial⟩, ⟨rfl, trivial⟩, Cv.p, by omega⟩
    · have h4 := of_decide_eq_false h4
      rw [winY_off h4, List.append_nil] at hz
      rw [hz]
      refine WP.exit ?_
      refine WP.seq ?_
      refine WP.region ?_
      refine RG.pv rfl (PV.move (v := q) rfl rfl) ?_
      refine RG.pv rfl (PV.asg (v := q) rfl rfl) ?_
      refine RG.nil ?_
      refine WP.ret ?_
      exact ⟨_, _, ResV.one rfl rfl, Cv.p, k q⟩
theorem covd_i {v : Value} {xs : List Rect} {r : Rect} (h1 : Rs G L rectT v xs) (hreg : isReg xs = true) (hr : validRect r = true) (k : R (vi (covB (bits xs) r)) G L) : CallT Tryz.prog 159 #[v, vrect r] G L R :=
  covered_s h1 (isReg_len hreg) (by rw [cov_eq hreg hr]; exact k)
theorem markDens_i {v : Value} {xs : List Rect} {w p : Int} (h1 : Rs G L rectT v xs) (k : ∀ v', R v' G (osl 71 rectT v' (densL xs w p) :: L)) : CallT Tryz.prog 101 #[v, vi w, vi p] G L R := by
  refine CallT.enter (args := _) Tryz.func101 rfl rfl (by kernel_rfl) rfl ?_
  refine WP.seq ?_
  refine WP.region ?_
  refine RG.pv rfl (PV.asg rfl rfl) ?_
  refine RG.nil ?_
  refine WP.seq ?_
  refine WP.seq ?_
  refine WP.region ?_
  refine RG.pv rfl (PV.move (v := v) rfl rfl) ?_
  refine RG.callF (vs := [v]) rfl rfl En40 rfl (isRegion_s (Rs.up h1) ?_)
  refine RG.pv rfl (PV.not rfl rfl) ?_
  refine RG.pv rfl (PV.mvB (.inl rfl) rfl) ?_
  refine RG.gs rfl rfl rfl (fun hp => (PV.mvI (.inl rfl) rfl)) ?_
  refine RG.gsC rfl rfl rfl rfl En92 (fun hp => ⟨_, (acons (gs_t hp) (acons rfl (acons rfl anil))), within_s ⟨rfl, rfl, rfl⟩⟩) ?_
  refine RG.gs rfl rfl rfl (fun hp => (PV.not rfl (gs_t hp))) ?_
  refine RG.pv rfl (PV.pickO rfl rfl rfl (fun hq => gs_t (geqF hq))) ?_
  refine RG.pv rfl (PV.mvB (.inl rfl) rfl) ?_
  refine RG.gs rfl rfl rfl (fun hp => (PV.mvI (.inl rfl) rfl)) ?_
  refine RG.gsC rfl rfl rfl rfl En92 (fun hp => ⟨_, (acons (gs_t hp) (acons rfl (acons rfl anil))), within_s ⟨rfl, rfl, rfl⟩⟩) ?_
  refine RG.gs rfl rfl rfl (fun hp => (PV.not rfl (gs_t hp))) ?_
  refine RG.pv rfl (PV.pickO rfl rfl rfl (fun hq => gs_t (geqF hq))) ?_
  refine RG.nil ?_
  refine WP.cond rfl (fun h3 => ?_) (fun h3 => ?_)
  · have e : densL xs w p = [] := by rw [densL, if_neg]; intro h4; cases g1 : isReg xs <;> cases g2 : within w 4 40 <;> cases g3 : within p 1 100 <;> simp_all
    rw [e] at k
    refine WP.seq ?_
    refine WP.region ?_
    refine RG.pv rfl (PV.asg rfl rfl) ?_
    refine RG.nil ?_
    refine WP.ret ?_
    exact ⟨_, _, ResV.one rfl rfl, Cv.nilS, k _⟩
  · have h4 : isReg xs = true ∧ within w 4 40 = true ∧ within p 1 100 = true := by cases g1 : isReg xs <;> cases g2 : within w 4 40 <;> cases g3 : within p 1 100 <;> simp_all
    have hreg := h4.1
    have hpb : 1 ≤ p ∧ p ≤ 100 := by simpa [within] using h4.2.2
    have hbx := bits_length xs
    have hzl := (windL_facts w).1
    have hzv := (windL_facts w).2
    refine WP.skip ?_
    refine WP.seq ?_
    refine WP.region ?_
    refine RG.pv rfl (PV.build0 rfl Tryz.underlying127 ⟨80, by kernel_rfl⟩ (zeroB_spec (n := 6400) (by kernel_rfl))) ?_
    refine RG.ot rfl (OT.boxG rfl rfl fun b24 => ?_)
    refine RG.pv rfl (PV.mvP (.inr rfl) rfl) ?_
    refine RG.nil ?_
    refine WP.seq ?_
    refine WP.seq ?_
    refine WP.region ?_
    refine RG.pv rfl (PV.mvI (.inl rfl) rfl) ?_
    refine RG.callF (vs := [_]) rfl rfl En158 rfl (windows_i (fun v26 => ?_))
    refine RG.pv rfl (PV.len (v := v26) rfl Tryz.underlying28 rfl SlF.o) ?_
    refine RG.pv rfl (PV.mvI (.inl rfl) rfl) ?_
    refine RG.nil ?_
    refine WP.block ?_
    refine WP.loop2 [0, 2, 7, 26, 27] (fun (i : Nat) (E : List Bool) => i ≤ (windL w).length ∧ Is E (Bare (bits xs) ((windL w).take i) p)) (fun (i : Nat) (E : List Bool) => [(28, vi i)]) (fun (i : Nat) (E : List Bool) => grd b24 E :: osl 71 rectT v26 (windL w) :: L) (fun (i : Nat) (E : List Bool) => (windL w).length - i) 0 (List.replicate 6400 false) ⟨by omega, Is.none _ rfl fun v u _ _ => by rintro ⟨c, hc, _⟩; simp at hc⟩ ⟨rfl, trivial⟩ Cv.p ?_
    rintro i E τ ⟨hi, hE⟩
    refine WP.seq ?_
    refine WP.region ?_
    refine RG.pv rfl (PV.lss rfl rfl rfl) ?_
    refine RG.nil ?_
    refine WP.seq ?_
    have hEl := hE.1
    refine WP.cond rfl (fun h5 => ?_) (fun h5 => ?_)
    · have h5 := of_decide_eq_true h5
      have hvi := hzv _ (gd_mem (show i < (windL w).length by omega))
      have hlb := area_bd hvi
      have hmb := mul_bd hpb hlb
      have hcb := covB_bd (S := bits xs) hvi
      have hnx := fun y x => Bare.next (S := bits xs) (ws := windL w) (p := p) (y := y) (x := x) (i := i) (by omega)
      refine WP.skip ?_
      refine WP.seq ?_
      refine WP.block ?_
      refine WP.seq ?_
      refine WP.region ?_
      refine RG.pv rfl (PV.idxS (v := v26) rfl Is28 rfl SlF.o rfl rfl (by omega)) ?_
      refine RG.pv rfl (PV.loadE rfl Ag71 rfl rfl (El.o (getG (by omega)))) ?_
      refine RG.ot rfl (OT.alloc rfl Zr71 fun b9 => ?_)
      refine RG.ot rfl (OT.storeW (vs := [vi _, vi _, vi _, vi _]) rfl Sz71 rfl rfl (Cl.c rfl) rfl rfl (OneC.c rfl) ?_)
      refine RG.nil ?_
      refine WP.seq ?_
      refine WP.regionQ (by kernel_rfl) (by kernel_rfl) ?_
      refine RQ.pv rfl (PV.move (v := v) rfl rfl) ?_
      refine RQ.pv rfl (PV.loadW rfl Ag71 rfl rfl) ?_
      refine RQ.callF (vs := [v, _]) rfl rfl En159 rfl (covd_i (Rs.up h1) hreg hvi ⟨rfl, rfl, rfl⟩) ?_
      refine RQ.pv rfl (PV.mul rfl rfl rfl (by omega)) ?_
      refine RQ.pv rfl (PV.mvI (.inl rfl) rfl) ?_
      refine RQ.pv rfl (PV.loadW rfl Ag71 rfl rfl) ?_
      refine RQ.callF (vs := [_]) rfl rfl En160 rfl (area_s hvi ⟨rfl, rfl, rfl⟩) ?_
      refine RQ.pv rfl (PV.mul rfl rfl rfl (by omega)) ?_
      refine RQ.pv rfl (PV.lss rfl rfl rfl) ?_
      refine RQ.nil ?_
      refine WP.cond rfl (fun h6 => ?_) (fun h6 => ?_)
      · have h6 : 100 * covB (bits xs) (gd (windL w) i) < p * areaR (gd (windL w) i) := by have := of_decide_eq_true h6; rw [Int.mul_comm] at this; exact this
        refine WP.region ?_
        refine RG.pv rfl (PV.mvP (.inl rfl) rfl) ?_
        refine RG.pv rfl (PV.loadW rfl Ag71 rfl rfl) ?_
        refine RG.callF (vs := [(.pointer (some ⟨b24, 0, none⟩)), _]) rfl rfl En149 rfl (CallT.exB (put_s (by assumption) (fun bs' hb' hg' => ?_)))
        refine RG.nil ?_
        refine WP.region ?_
        refine RG.pv rfl (PV.add rfl rfl rfl (by omega)) ?_
        refine RG.pv rfl (PV.mvI (.inl rfl) rfl) ?_
        refine RG.nil ?_
        exact ⟨rfl, i + 1, bs', ⟨by omega, hb', fun y x hy hx => by rw [hg' y x hy hx, Bool.or_eq_true, hE.2 y x hy hx, hnx]; simp [h6]⟩, ⟨rfl, trivial⟩, ⟨rfl, rfl, rfl, rfl, rfl, trivial⟩, Cv.p, by omega⟩
      · have h6 : ¬ 100 * covB (bits xs) (gd (windL w) i) < p * areaR (gd (windL w) i) := by have := of_decide_eq_false h6; rw [Int.mul_comm] at this; exact this
        refine WP.skip ?_
        refine WP.region ?_
        refine RG.pv rfl (PV.add rfl rfl rfl (by omega)) ?_
        refine RG.pv rfl (PV.mvI (.inl rfl) rfl) ?_
        refine RG.nil ?_
        exact ⟨rfl, i + 1, E, ⟨by omega, hE.congr fun y x _ _ => by rw [hnx]; simp [h6]⟩, ⟨rfl, trivial⟩, ⟨rfl, rfl, rfl, rfl, rfl, trivial⟩, Cv.p, by omega⟩
    · have h5 := of_decide_eq_false h5
      rw [List.take_of_length_le (by omega)] at hE
      have hEc : E = celL (Bare (bits xs) (windL w) p) := celL_eq hE.1 hE.2
      have e : densL xs w p = opR (fun p q => p && !q) (canon E) xs := by
        rw [densL, if_pos (by simp [h4.1, h4.2.1, h4.2.2]), opR, isReg_canon hEl, hreg, bits_canon hEl, hEc]; rfl
      rw [e] at k
      refine WP.exit ?_
      refine WP.seq ?_
      refine WP.region ?_
      refine RG.pv rfl (PV.mvP (.inl rfl) rfl) ?_
      refine RG.callF (vs := [(.pointer (some ⟨b24, 0, none⟩))]) rfl rfl En95 rfl (CallT.exB (region_s hEl (fun v46 => ?_)))
      refine RG.pv rfl (PV.move (v := v) rfl rfl) ?_
      refine RG.callF (vs := [v46, v]) rfl rfl En27 rfl (diff_s Rs.o (Rs.up h1) (fun v48 => ?_))
      refine RG.pv rfl (PV.asg (v := v48) rfl rfl) ?_
      refine RG.nil ?_
      refine WP.ret ?_
      exact ⟨_, _, ResV.one rfl rfl, Cv.p, k v48⟩
theorem filtS {α : Type} [Inhabited α] (p : α → Bool) {xs : List α} {i : Nat} (h : i < xs.length) : (xs.take (i + 1)).filter p = (xs.take i).filter p ++ (if p (gd xs i) = true then [gd xs i] else []) := filt_succ p h
theorem er_filter {p : List Rect → Bool} : ∀ zs : List (Sl Rect), er (zs.filter fun z => p z.xs) = (er zs).filter p
  | [] => rfl
  | z :: zs => by
    have ih := er_filter (p := p) zs
    simp only [er] at ih ⊢
    cases h : p z.xs <;> simp [h, ih]
theorem choose_i {v fv : Value} {xs : List Rect} {p : List Rect → Bool} (h1 : Rs G L rectT v xs) (hF : ∀ M, Cv M L → ∀ z : Sl Rect, Rs G M rectT z.v z.xs → validRs z.xs = true → CB Tryz.prog G M fv [z.v] (.bool (p z.xs)))
    (k : ∀ v', R v' G (osl 71 rectT v' (canon (bits ((partsL (bits xs)).filter p).flatten)) :: L)) : CallT Tryz.prog 191 #[v, fv] G L R := by
  refine CallT.enter (args := _) Tryz.func191 rfl rfl (by kernel_rfl) rfl ?_
  refine WP.seq ?_
  refine WP.region ?_
  refine RG.pv rfl (PV.asg rfl rfl) ?_
  refine RG.nil ?_
  refine WP.seq ?_
  refine WP.region ?_
  refine RG.ot rfl (OT.bslice (F := (slT (α := Rect))) (els := []) rfl El32 rfl (by decide) rfl (by decide) trivial fun v8 => ?_)
  refine RG.pv rfl (PV.asg (v := v8) rfl rfl) ?_
  refine RG.nil ?_
  refine WP.seq ?_
  refine WP.seq ?_
  refine WP.region ?_
  refine RG.pv rfl (PV.move (v := v) rfl rfl) ?_
  refine RG.callF (vs := [v]) rfl rfl En178 rfl (components_s (Rs.up h1) (fun v10 zsv10 hev10 => ?_))
  refine RG.pv rfl (PV.len (v := v10) rfl Tryz.underlying32 rfl SlF.o) ?_
  refine RG.pv rfl (PV.mvI (.inl rfl) rfl) ?_
  refine RG.nil ?_
  refine WP.block ?_
  have hzl : zsv10.length ≤ 6400 := by have := congrArg List.length hev10; rw [er_len] at this; rw [this, partsL, List.length_map]; exact comps_len _
  refine WP.loop3 [1, 10, 11] (fun (i : Nat) (out : List (Sl Rect)) (q : Value) => i ≤ zsv10.length ∧ out = (zsv10.take i).filter (fun z => p z.xs)) (fun (i : Nat) (out : List (Sl Rect)) (q : Value) => [(12, vi i), (5, q)]) (fun (i : Nat) (out : List (Sl Rect)) (q : Value) => osl 28 slT q out :: osl 28 slT v10 zsv10 :: bagS 71 rectT zsv10 :: L) (fun (i : Nat) (out : List (Sl Rect)) (q : Value) => zsv10.length - i) 0 [] v8 ⟨by omega, rfl⟩ ⟨rfl, rfl, trivial⟩ Cv.p ?_
  rintro i out q τ ⟨hi, ho⟩
  refine WP.seq ?_
  refine WP.region ?_
  refine RG.pv rfl (PV.lss rfl rfl rfl) ?_
  refine RG.nil ?_
  refine WP.seq ?_
  have hol : out.length ≤ 6400 := by have := List.length_filter_le (fun z : Sl Rect => p z.xs) (zsv10.take i); rw [← ho, List.length_take] at this; omega
  refine WP.cond rfl (fun h2 => ?_) (fun h2 => ?_)
  · have h2 := of_decide_eq_true h2
    have h20 : i < zsv10.length := by omega
    have hz : Rs G [bagS 71 rectT zsv10] rectT (gd zsv10 i).v (gd zsv10 i).xs := Rs.inBag i h20
    have hzv : validRs (gd zsv10 i).xs = true := by
      rw [← er_gd, hev10, partsL]
      have hc : i < (comps (bits xs)).length := by have := congrArg List.length hev10; rw [er_len, partsL, List.length_map] at this; omega
      rw [gd_eq (by rw [List.length_map]; exact hc), List.getElem_map]
      exact isReg_valid (isReg_canon (comps_mem (List.getElem_mem hc)))
    have hf := filtS (fun z : Sl Rect => p z.xs) h20
    refine WP.skip ?_
    refine WP.seq ?_
    refine WP.block ?_
    refine WP.seq ?_
    refine WP.region ?_
    refine RG.pv rfl (PV.idxS (v := v10) rfl Is32 rfl SlF.o rfl rfl (by omega)) ?_
    refine RG.pv rfl (PV.loadE1 rfl Sc28 rfl rfl (El.o (getG (by omega))) rfl) ?_
    refine RG.pv rfl (PV.asg rfl rfl) ?_
    refine RG.nil ?_
    refine WP.seq ?_
    refine WP.region ?_
    refine RG.pv rfl (PV.move (v := fv) rfl rfl) ?_
    refine RG.pv rfl (PV.move rfl rfl) ?_
    refine RG.callB (vs := [_]) rfl rfl rfl rfl (CB.up (hF (bagS 71 rectT zsv10 :: L) Cv.p (gd zsv10 i) hz.up hzv)) ?_
    refine RG.nil ?_
    refine WP.cond rfl (fun h3 => ?_) (fun h3 => ?_)
    · rw [if_pos h3, ← ho] at hf
      refine WP.region ?_
      refine RG.pv rfl (PV.move (v := q) rfl rfl) ?_
      refine RG.pv rfl (PV.move rfl rfl) ?_
      refine RG.ot rfl (OT.bslice (F := (slT (α := Rect))) (els := [gd zsv10 i]) rfl El32 rfl (by decide) rfl (by decide) ⟨rfl, (Cl.s (SlF.r hz)), trivial⟩ fun v21 => ?_)
      refine RG.ot rfl (OT.append (v := q) (u := v21) (F := (slT (α := Rect))) rfl El32 rfl (by decide) rfl rfl Rs.o (OneL.one (OneC.sl (SlF.r hz) OneC.nil)) rfl (by first | omega | (simp <;> omega)) fun v22 => ?_)
      refine RG.pv rfl (PV.asg (v := v22) rfl rfl) ?_
      refine RG.nil ?_
      refine WP.region ?_
      refine RG.pv rfl (PV.add rfl rfl rfl (by omega)) ?_
      refine RG.pv rfl (PV.mvI (.inl rfl) rfl) ?_
      refine RG.nil ?_
      exact ⟨rfl, i + 1, (out ++ [gd zsv10 i]), v22, ⟨by omega, hf.symm⟩, ⟨rfl, rfl, trivial⟩, ⟨rfl, rfl, rfl, trivial⟩, Cv.p, by omega⟩
    · rw [if_neg (by rw [h3]; decide), ← ho, List.append_nil] at hf
      refine WP.skip ?_
      refine WP.region ?_
      refine RG.pv rfl (PV.add rfl rfl rfl (by omega)) ?_
      refine RG.pv rfl (PV.mvI (.inl rfl) rfl) ?_
      refine RG.nil ?_
      exact ⟨rfl, i + 1, out, q, ⟨by omega, hf.symm⟩, ⟨rfl, rfl, trivial⟩, ⟨rfl, rfl, rfl, trivial⟩, Cv.p, by omega⟩
  · have h2 := of_decide_eq_false h2
    rw [List.take_of_length_le (by omega)] at ho
    have hE : RsE G [bagS 71 rectT zsv10] rectT out := fun i hi => by
      have hm : gd out i ∈ zsv10 := by have := gd_mem hi; rw [ho] at this; rw [ho]; exact (List.mem_filter.1 this).1
      obtain ⟨j, hj, e⟩ := List.getElem_of_mem hm
      have := Rs.inBag (G := G) (L := [bagS 71 rectT zsv10]) (L' := []) (e := 71) (F := rectT) (xs := zsv10) j hj
      rw [gd_eq hj, e] at this; exact this
    refine WP.exit ?_
    refine WP.seq ?_
    refine WP.region ?_
    refine RG.pv rfl (PV.move (v := q) rfl rfl) ?_
    refine RG.callF (vs := [q]) rfl rfl En108 rfl (unionAll_s (xs := out) Rs.o hE.up (fun v25 => ?_))
    refine RG.pv rfl (PV.asg (v := v25) rfl rfl) ?_
    refine RG.nil ?_
    refine WP.ret ?_
    rw [← hev10, ← er_filter, ← ho] at k
    exact ⟨_, _, ResV.one rfl rfl, Cv.p, k v25⟩
theorem sel1_i {v u : Value} {xs : List Rect} {b : Nat} {w : Int} (hz : Rs G L rectT v xs) (hv : validRs xs = true) (hb : Rd G L b 0 (vi w)) (k : R (.bool (decide (areaS xs < w))) G L) : CallT Tryz.prog 192 #[v, .pointer (some ⟨b, 0, none⟩)] G L R := by
  refine CallT.enter (args := _) Tryz.func192 rfl rfl (by kernel_rfl) rfl ?_
  refine WP.seq ?_
  refine WP.region ?_
  refine RG.pv rfl (PV.mvB (.inr rfl) rfl) ?_
  refine RG.nil ?_
  refine WP.seq ?_
  refine WP.regionQ (by kernel_rfl) (by kernel_rfl) ?_
  refine RQ.pv rfl (PV.move (v := v) rfl rfl) ?_
  refine RQ.callF (vs := [v]) rfl rfl En193 rfl (regionArea_s hz hv ⟨rfl, rfl, rfl⟩) ?_
  refine RQ.pv rfl (PV.load1 rfl Sc2 rfl (Rd.up hb)) ?_
  refine RQ.pv rfl (PV.lss rfl rfl rfl) ?_
  refine RQ.pv rfl (PV.mvB (.inr rfl) rfl) ?_
  refine RQ.nil ?_
  refine WP.ret ?_
  exact ⟨_, _, ResV.one rfl rfl, Cv.p, k⟩
theorem small_i {v : Value} {xs : List Rect} {w : Int} (h1 : Rs G L rectT v xs) (k : ∀ v', R v' G (osl 71 rectT v' (if isReg xs = true then canon (bits ((partsL (bits xs)).filter fun ys => decide (areaS ys < w)).flatten) else []) :: L)) : CallT Tryz.prog 157 #[v, vi w] G L R := by
  refine CallT.enter (args := _) Tryz.func157 rfl rfl (by kernel_rfl) rfl ?_
  refine WP.seq ?_
  refine WP.region ?_
  refine RG.ot rfl (OT.box (cs := [vi w]) rfl rfl rfl fun b3 => ?_)
  refine RG.pv rfl (PV.asg rfl rfl) ?_
  refine RG.nil ?_
  refine WP.seq ?_
  refine WP.seq ?_
  refine WP.region ?_
  refine RG.pv rfl (PV.move (v := v) rfl rfl) ?_
  refine RG.callF (vs := [v]) rfl rfl En40 rfl (isRegion_s (Rs.up h1) ?_)
  refine RG.pv rfl (PV.not rfl rfl) ?_
  refine RG.nil ?_
  refine WP.cond rfl (fun h2 => ?_) (fun h2 => ?_)
  · have h3 : ¬ isReg xs = true := by simpa using h2
    rw [if_neg h3] at k
    refine WP.seq ?_
    refine WP.region ?_
    refine RG.pv rfl (PV.asg rfl rfl) ?_
    refine RG.nil ?_
    refine WP.ret ?_
    exact ⟨_, _, ResV.one rfl rfl, (Cv.p (C := L)).trans Cv.nilS, k (.slice none 0 0)⟩
  · have h3 : isReg xs = true := by simpa using h2
    rw [if_pos h3] at k
    refine WP.skip ?_
    refine WP.seq ?_
    refine WP.region ?_
    refine RG.pv rfl (PV.move (v := v) rfl rfl) ?_
    refine RG.pv rfl (PV.mkf1 rfl rfl) ?_
    refine RG.callF (vs := [v, _]) rfl rfl En191 rfl (choose_i (p := fun ys => decide (areaS ys < w)) (Rs.up h1) (fun M c z hz hv => CB.mk1 En192 fun L' R e k => sel1_i (u := .nilIface) (hz.cv e) hv (Rd.cv (Rd.blk rfl) (e.trans c)) k) (fun v10 => ?_))
    refine RG.pv rfl (PV.asg (v := v10) rfl rfl) ?_
    refine RG.nil ?_
    refine WP.ret ?_
    exact ⟨_, _, ResV.one rfl rfl, Cv.p, k v10⟩
theorem small_eq {S : List Bool} {w : Int} : bits ((partsL S).filter fun ys => decide (areaS ys < w)).flatten = celL (Small S w) := celL_eq (bits_length _) fun y x hy hx => by
  rw [gb_bits_iff hy hx]
  simp only [List.mem_flatten, List.mem_filter, decide_eq_true_eq, partsL, List.mem_map]
  constructor
  · rintro ⟨r, ⟨ys, ⟨⟨c, hc, rfl⟩, ha⟩, hr⟩, hin⟩
    have hcl := comps_mem hc
    refine ⟨c, hc, by rw [← cnt_canon hcl]; exact ha, ?_⟩
    rw [← bits_canon hcl, gb_bits_iff hy hx]; exact ⟨r, hr, hin⟩
  · rintro ⟨c, hc, ha, hg⟩
    have hcl := comps_mem hc
    rw [← bits_canon hcl, gb_bits_iff hy hx] at hg
    obtain ⟨r, hr, hin⟩ := hg
    exact ⟨r, ⟨canon c, ⟨⟨c, hc, rfl⟩, by rw [cnt_canon hcl]; exact ha⟩, hr⟩, hin⟩
theorem markArea_i {v : Value} {xs : List Rect} {w : Int} (h1 : Rs G L rectT v xs) (k : ∀ v', R v' G (osl 71 rectT v' (areaL xs w) :: L)) : CallT Tryz.prog 100 #[v, vi w] G L R := by
  refine CallT.enter (args := _) Tryz.func100 rfl rfl (by kernel_rfl) rfl ?_
  refine WP.seq ?_
  refine WP.region ?_
  refine RG.pv rfl (PV.asg rfl rfl) ?_
  refine RG.nil ?_
  refine WP.seq ?_
  refine WP.seq ?_
  refine WP.region ?_
  refine RG.pv rfl (PV.mvI (.inl rfl) rfl) ?_
  refine RG.callF (vs := [_, _, _]) rfl rfl En92 rfl (within_s ?_)
  refine RG.pv rfl (PV.not rfl rfl) ?_
  refine RG.nil ?_
  refine WP.cond rfl (fun h2 => ?_) (fun h2 => ?_)
  · have e : areaL xs w = [] := by rw [areaL, if_neg]; intro h4; cases g1 : isReg xs <;> cases g3 : within w 1 6400 <;> simp_all
    rw [e] at k
    refine WP.seq ?_
    refine WP.region ?_
    refine RG.pv rfl (PV.asg rfl rfl) ?_
    refine RG.nil ?_
    refine WP.ret ?_
    exact ⟨_, _, ResV.one rfl rfl, Cv.nilS, k _⟩
  · have h3 : within w 1 6400 = true := by simpa using h2
    have e : areaL xs w = if isReg xs = true then canon (bits ((partsL (bits xs)).filter fun ys => decide (areaS ys < w)).flatten) else [] := by
      rw [areaL, h3, Bool.and_true, small_eq]
    rw [e] at k
    refine WP.skip ?_
    refine WP.seq ?_
    refine WP.region ?_
    refine RG.pv rfl (PV.move (v := v) rfl rfl) ?_
    refine RG.pv rfl (PV.mvI (.inl rfl) rfl) ?_
    refine RG.callF (vs := [v, _]) rfl rfl En157 rfl (small_i (Rs.up h1) (fun v10 => ?_))
    refine RG.pv rfl (PV.asg (v := v10) rfl rfl) ?_
    refine RG.nil ?_
    refine WP.ret ?_
    exact ⟨_, _, ResV.one rfl rfl, Cv.p, k v10⟩
end Go.Proofs.YtpjajhjcbcfplaaGreat
namespace Go.Proofs.YtpjajhjcbcfplaaGreat
set_option linter.unusedVariables false
set_option linter.unusedSimpArgs false
open Go
set_option maxRecDepth 20000
set_option linter.unusedSimpArgs false
variable {G : Gh} {L : List Ch} {R : Value → Gh → List Ch → Prop}
/-- the markers of a valid rule in a layout -/
noncomputable def rmL (l : List (List Rect)) (q : Rule) : List Rect :=
  if q.kind = 0 then widthL (gd l q.layer.toNat) q.value else if q.kind = 1 then spaceL (gd l q.layer.toNat) q.value else if q.kind = 2 then betwL (gd l q.layer.toNat) (gd l q.other.toNat) q.value
  else if q.kind = 3 then enclL (gd l q.layer.toNat) (gd l q.other.toNat) q.value else if q.kind = 4 then areaL (gd l q.layer.toNat) q.value else densL (gd l q.layer.toNat) q.value q.percent
noncomputable def rmE (l : List (List Rect)) (q : Rule) : List Rect := if (isLay l && validRule q) = true then rmL l q else []
theorem valid_lay {q : Rule} (h : validRule q = true) : (0 ≤ q.layer ∧ q.layer ≤ 7) ∧ 0 ≤ q.other ∧ q.other ≤ 7 := by
  simp only [validRule, okOther, Bool.and_eq_true] at h
  have h1 := h.1.1.1.2; have h2 := h.1.1.2
  simp only [within, Bool.and_eq_true, decide_eq_true_eq] at h1
  refine ⟨h1, ?_⟩
  cases hp : paired q.kind
  · rw [hp, cond_false] at h2; have := of_decide_eq_true h2; omega
  · rw [hp, cond_true] at h2; simp only [within, Bool.and_eq_true, decide_eq_true_eq] at h2; exact h2.1
theorem rmL_len (l : List (List Rect)) (q : Rule) : (rmL l q).length ≤ 3200 := by
  unfold rmL widthL spaceL betwL enclL areaL densL
  repeat' split
  all_goals first | exact canon_len _ | exact Nat.zero_le _
theorem rule_s {v : Value} {ys : List (Sl Rect)} {q : Rule} (h1 : Rs G L slT v ys) (hd : RsE G L rectT ys) (k : ∀ v', R v' G (osl 71 rectT v' (rmE (er ys) q) :: L)) : CallT Tryz.prog 28 #[v, vT ruleT q] G L R := by
  refine CallT.enter (args := _) Tryz.func28 rfl rfl (by kernel_rfl) rfl ?_
  refine WP.seq ?_
  refine WP.region ?_
  refine RG.ot rfl (OT.box (cs := ruleT.enc q) rfl rfl rfl fun b3 => ?_)
  refine RG.pv rfl (PV.asg rfl rfl) ?_
  refine RG.nil ?_
  refine WP.seq ?_
  refine WP.seq ?_
  refine WP.region ?_
  refine RG.pv rfl (PV.move (v := v) rfl rfl) ?_
  refine RG.callF (vs := [v]) rfl rfl En57 rfl (l19Layout_s (Rs.up h1) hd.up ?_)
  refine RG.pv rfl (PV.not rfl rfl) ?_
  refine RG.pv rfl (PV.mvB (.inl rfl) rfl) ?_
  refine RG.gs rfl rfl rfl (fun hp => (PV.loadW rfl Ag34 rfl rfl)) ?_
  refine RG.gsC rfl rfl rfl rfl En21 (fun hp => ⟨_, (acons (gs_t hp) anil), validRule_s ⟨rfl, rfl, rfl⟩⟩) ?_
  refine RG.gs rfl rfl rfl (fun hp => (PV.not rfl (gs_t hp))) ?_
  refine RG.pv rfl (PV.pickO rfl rfl rfl (fun hq => gs_t (geqF hq))) ?_
  refine RG.nil ?_
  refine WP.cond rfl (fun h2 => ?_) (fun h2 => ?_)
  · have e : rmE (er ys) q = [] := by rw [rmE, if_neg]; intro h3; cases g1 : isLay (er ys) <;> cases g2 : validRule q <;> simp_all
    rw [e] at k
    refine WP.seq ?_
    refine WP.region ?_
    refine RG.ot rfl (OT.bslice (F := rectT) (els := []) rfl El28 rfl (by decide) rfl (by decide) trivial fun v14 => ?_)
    refine RG.pv rfl (PV.asg (v := v14) rfl rfl) ?_
    refine RG.nil ?_
    refine WP.ret ?_
    exact ⟨_, _, ResV.one rfl rfl, Cv.p, k v14⟩
  · have h3 : isLay (er ys) = true ∧ validRule q = true := by cases g1 : isLay (er ys) <;> cases g2 : validRule q <;> simp_all
    have hl8 : ys.length = 8 := by have := isLay_len h3.1; rwa [er_len] at this
    obtain ⟨hlr, hor⟩ := valid_lay h3.2
    rw [rmE, if_pos (by rw [h3.1, h3.2]; rfl), rmL, er_gd, er_gd] at k
    refine WP.skip ?_
    refine WP.seq ?_
    refine WP.region ?_
    refine RG.pv rfl (PV.move (v := v) rfl rfl) ?_
    refine RG.pv rfl (PV.field rfl Fo34_1 rfl) ?_
    refine RG.pv rfl (PV.load1 rfl Sc2 rfl (Rd.blk rfl)) ?_
    refine RG.pv rfl (PV.idxS (j := q.layer.toNat) (v := v) rfl Is32 rfl (SlF.r h1) rfl (by omega) (by omega)) ?_
    refine RG.pv rfl (PV.loadE1 rfl Sc28 rfl rfl (El.r h1 (getG (by omega))) rfl) ?_
    refine RG.pv rfl (PV.asg rfl rfl) ?_
    refine RG.nil ?_
    refine WP.seq ?_
    refine WP.seq ?_
    refine WP.region ?_
    refine RG.pv rfl (PV.field rfl Fo34_0 rfl) ?_
    refine RG.pv rfl (PV.load1 rfl Sc2 rfl (Rd.blk rfl)) ?_
    refine RG.nil ?_
    refine WP.block ?_
    refine WP.seq ?_
    refine WP.region ?_
    refine RG.pv rfl (PV.eql rfl rfl rfl) ?_
    refine RG.pv rfl (PV.mvB (.inr rfl) rfl) ?_
    refine RG.nil ?_
    refine WP.cond rfl (fun h4 => ?_) (fun h4 => ?_)
    · rw [if_pos (by simpa using h4)] at k
      refine WP.seq ?_
      refine WP.region ?_
      refine RG.pv rfl (PV.move rfl rfl) ?_
      refine RG.pv rfl (PV.field rfl Fo34_3 rfl) ?_
      refine RG.pv rfl (PV.load1 rfl Sc2 rfl (Rd.blk rfl)) ?_
      refine RG.callF (vs := [_, _]) rfl rfl En58 rfl (markWidth_s (hd q.layer.toNat (by omega)).up (fun v27 => ?_))
      refine RG.pv rfl (PV.asg (v := v27) rfl rfl) ?_
      refine RG.nil ?_
      refine WP.ret ?_
      exact ⟨_, _, ResV.one rfl rfl, Cv.p, k v27⟩
    · rw [if_neg (by simpa using h4)] at k
      refine WP.seq ?_
      refine WP.region ?_
      refine RG.pv rfl (PV.eql rfl rfl rfl) ?_
      refine RG.pv rfl (PV.mvB (.inr rfl) rfl) ?_
      refine RG.nil ?_
      refine WP.cond rfl (fun h5 => ?_) (fun h5 => ?_)
      · rw [if_pos (by simpa using h5)] at k
        refine WP.seq ?_
        refine WP.region ?_
        refine RG.pv rfl (PV.move rfl rfl) ?_
        refine RG.pv rfl (PV.field rfl Fo34_3 rfl) ?_
        refine RG.pv rfl (PV.load1 rfl Sc2 rfl (Rd.blk rfl)) ?_
        refine RG.callF (vs := [_, _]) rfl rfl En59 rfl (markSpacing_s (hd q.layer.toNat (by omega)).up (fun v33 => ?_))
        refine RG.pv rfl (PV.asg (v := v33) rfl rfl) ?_
        refine RG.nil ?_
        refine WP.ret ?_
        exact ⟨_, _, ResV.one rfl rfl, Cv.p, k v33⟩
      · rw [if_neg (by simpa using h5)] at k
        refine WP.seq ?_
        refine WP.region ?_
        refine RG.pv rfl (PV.eql rfl rfl rfl) ?_
        refine RG.pv rfl (PV.mvB (.inr rfl) rfl) ?_
        refine RG.nil ?_
        refine WP.cond rfl (fun h6 => ?_) (fun h6 => ?_)
        · rw [if_pos (by simpa using h6)] at k
          refine WP.seq ?_
          refine WP.regionH0 (.q 0 (.q 1 (.q 2 (.q 3 (.q 4 (.q 5 (.q 6 (.q 7 (.l 8 (.q 9 Sch.nil)))))))))) (by kernel_rfl) (by kernel_rfl) (by kernel_rfl) rfl ?_
          refine RH.pv rfl (fun _ _ _ _ h => h) (Gh.le_refl _) PickC.pick rfl (PV.move rfl rfl) ?_
          refine RH.pv rfl (fun _ _ _ _ h => h) (Gh.le_refl _) PickC.pick rfl (PV.move (v := v) rfl rfl) ?_
          refine RH.pv rfl (fun _ _ _ _ h => h) (Gh.le_refl _) PickC.pick rfl (PV.field rfl Fo34_2 rfl) ?_
          refine RH.pv rfl (fun _ _ _ _ h => h) (Gh.le_refl _) PickC.pick rfl (PV.load1 rfl Sc2 rfl (Rd.blk rfl)) ?_
          refine RH.pv rfl (fun _ _ _ _ h => h) (Gh.le_refl _) PickC.pick rfl (PV.idxS (j := q.other.toNat) (v := v) rfl Is32 rfl (SlF.r h1) rfl (by omega) (by omega)) ?_
          refine RH.pv rfl (fun _ _ _ _ h => h) (Gh.le_refl _) PickC.pick rfl (PV.loadE1 rfl Sc28 rfl rfl (El.r h1 (getG (by omega))) rfl) ?_
          refine RH.pv rfl (fun _ _ _ _ h => h) (Gh.le_refl _) PickC.pick rfl (PV.field rfl Fo34_3 rfl) ?_
          refine RH.pv rfl (fun _ _ _ _ h => h) (Gh.le_refl _) PickC.pick rfl (PV.load1 rfl Sc2 rfl (Rd.blk rfl)) ?_
          refine RH.ot rfl rfl (OT.callF (vs := [_, _, _]) rfl En60 rfl (markBetween_s (hd q.layer.toNat (by omega)).up (hd q.other.toNat (by omega)).up (fun v44 => ⟨Gh.le_refl _, PickC.pick, ?_⟩)))
          refine RH.pv rfl (fun _ _ _ _ h => h) (Gh.le_refl _) PickC.pick rfl (PV.asg (v := v44) rfl rfl) ?_
          refine RH.nil ?_
          refine WP.ret ?_
          exact ⟨_, _, ResV.one rfl rfl, Cv.p, k v44⟩
        · rw [if_neg (by simpa using h6)] at k
          refine WP.seq ?_
          refine WP.region ?_
          refine RG.pv rfl (PV.eql rfl rfl rfl) ?_
          refine RG.pv rfl (PV.mvB (.inr rfl) rfl) ?_
          refine RG.nil ?_
          refine WP.cond rfl (fun h8 => ?_) (fun h8 => ?_)
          · rw [if_pos (by simpa using h8)] at k
            refine WP.seq ?_
            refine WP.regionH0 (.q 0 (.q 1 (.q 2 (.q 3 (.q 4 (.q 5 (.q 6 (.q 7 (.l 8 (.q 9 Sch.nil)))))))))) (by kernel_rfl) (by kernel_rfl) (by kernel_rfl) rfl ?_
            refine RH.pv rfl (fun _ _ _ _ h => h) (Gh.le_refl _) PickC.pick rfl (PV.move rfl rfl) ?_
            refine RH.pv rfl (fun _ _ _ _ h => h) (Gh.le_refl _) PickC.pick rfl (PV.move (v := v) rfl rfl) ?_
            refine RH.pv rfl (fun _ _ _ _ h => h) (Gh.le_refl _) PickC.pick rfl (PV.field rfl Fo34_2 rfl) ?_
            refine RH.pv rfl (fun _ _ _ _ h => h) (Gh.le_refl _) PickC.pick rfl (PV.load1 rfl Sc2 rfl (Rd.blk rfl)) ?_
            refine RH.pv rfl (fun _ _ _ _ h => h) (Gh.le_refl _) PickC.pick rfl (PV.idxS (j := q.other.toNat) (v := v) rfl Is32 rfl (SlF.r h1) rfl (by omega) (by omega)) ?_
            refine RH.pv rfl (fun _ _ _ _ h => h) (Gh.le_refl _) PickC.pick rfl (PV.loadE1 rfl Sc28 rfl rfl (El.r h1 (getG (by omega))) rfl) ?_
            refine RH.pv rfl (fun _ _ _ _ h => h) (Gh.le_refl _) PickC.pick rfl (PV.field rfl Fo34_3 rfl) ?_
            refine RH.pv rfl (fun _ _ _ _ h => h) (Gh.le_refl _) PickC.pick rfl (PV.load1 rfl Sc2 rfl (Rd.blk rfl)) ?_
            refine RH.ot rfl rfl (OT.callF (vs := [_, _, _]) rfl En61 rfl (markEncl_s (hd q.layer.toNat (by omega)).up (hd q.other.toNat (by omega)).up (fun v55 => ⟨Gh.le_refl _, PickC.pick, ?_⟩)))
            refine RH.pv rfl (fun _ _ _ _ h => h) (Gh.le_refl _) PickC.pick rfl (PV.asg (v := v55) rfl rfl) ?_
            refine RH.nil ?_
            refine WP.ret ?_
            exact ⟨_, _, ResV.one rfl rfl, Cv.p, k v55⟩
          · rw [if_neg (by simpa using h8)] at k
            refine WP.seq ?_
            refine WP.region ?_
            refine RG.pv rfl (PV.eql rfl rfl rfl) ?_
            refine RG.pv rfl (PV.mvB (.inr rfl) rfl) ?_
            refine RG.nil ?_
            refine WP.cond rfl (fun h9 => ?_) (fun h9 => ?_)
            · rw [if_pos (by simpa using h9)] at k
              refine WP.seq ?_
              refine WP.region ?_
              refine RG.pv rfl (PV.move rfl rfl) ?_
              refine RG.pv rfl (PV.field rfl Fo34_3 rfl) ?_
              refine RG.pv rfl (PV.load1 rfl Sc2 rfl (Rd.blk rfl)) ?_
              refine RG.callF (vs := [_, _]) rfl rfl En62 rfl (markArea_s (hd q.layer.toNat (by omega)).up (fun v61 => ?_))
              refine RG.pv rfl (PV.asg (v := v61) rfl rfl) ?_
              refine RG.nil ?_
              refine WP.ret ?_
              exact ⟨_, _, ResV.one rfl rfl, Cv.p, k v61⟩
            · rw [if_neg (by simpa using h9)] at k
              refine WP.skip ?_
              refine WP.seq ?_
              refine WP.region ?_
              refine RG.pv rfl (PV.move rfl rfl) ?_
              refine RG.pv rfl (PV.field rfl Fo34_3 rfl) ?_
              refine RG.pv rfl (PV.load1 rfl Sc2 rfl (Rd.blk rfl)) ?_
              refine RG.pv rfl (PV.field rfl Fo34_4 rfl) ?_
              refine RG.pv rfl (PV.load1 rfl Sc2 rfl (Rd.blk rfl)) ?_
              refine RG.callF (vs := [_, _, _]) rfl rfl En63 rfl (markDens_s (hd q.layer.toNat (by omega)).up (fun v67 => ?_))
              refine RG.pv rfl (PV.asg (v := v67) rfl rfl) ?_
              refine RG.nil ?_
              refine WP.ret ?_
              exact ⟨_, _, ResV.one rfl rfl, Cv.p, k v67⟩
theorem rule_i {v : Value} {ys : List (Sl Rect)} {q : Rule} (h1 : Rs G L slT v ys) (hd : RsE G L rectT ys) (hl : isLay (er ys) = true) (hr : validRule q = true) (k : ∀ v', R v' G (osl 71 rectT v' (rmL (er ys) q) :: L)) : CallT Tryz.prog 42 #[v, vT ruleT q] G L R := by
  have hl8 : ys.length = 8 := by have := isLay_len hl; rwa [er_len] at this
  obtain ⟨hlr, hor⟩ := valid_lay hr
  rw [rmL, er_gd, er_gd] at k
  refine CallT.enter (args := _) Tryz.func42 rfl rfl (by kernel_rfl) rfl ?_
  refine WP.seq ?_
  refine WP.region ?_
  refine RG.ot rfl (OT.box (cs := ruleT.enc q) rfl rfl rfl fun b3 => ?_)
  refine RG.pv rfl (PV.asg rfl rfl) ?_
  refine RG.nil ?_
  refine WP.seq ?_
  refine WP.regionQ (by kernel_rfl) (by kernel_rfl) ?_
  refine RQ.pv rfl (PV.move (v := v) rfl rfl) ?_
  refine RQ.pv rfl (PV.field rfl Fo34_1 rfl) ?_
  refine RQ.pv rfl (PV.load1 rfl Sc2 rfl (Rd.blk rfl)) ?_
  refine RQ.pv rfl (PV.idxS (j := q.layer.toNat) (v := v) rfl Is32 rfl (SlF.r h1) rfl (by omega) (by omega)) ?_
  refine RQ.pv rfl (PV.loadE1 rfl Sc28 rfl rfl (El.r h1 (getG (by omega))) rfl) ?_
  refine RQ.pv rfl (PV.move (v := v) rfl rfl) ?_
  refine RQ.pv rfl (PV.field rfl Fo34_2 rfl) ?_
  refine RQ.pv rfl (PV.load1 rfl Sc2 rfl (Rd.blk rfl)) ?_
  refine RQ.pv rfl (PV.idxS (j := q.other.toNat) (v := v) rfl Is32 rfl (SlF.r h1) rfl (by omega) (by omega)) ?_
  refine RQ.pv rfl (PV.loadE1 rfl Sc28 rfl rfl (El.r h1 (getG (by omega))) rfl) ?_
  refine RQ.pv rfl (PV.asg rfl rfl) ?_
  refine RQ.pv rfl (PV.asg rfl rfl) ?_
  refine RQ.nil ?_
  refine WP.seq ?_
  refine WP.seq ?_
  refine WP.region ?_
  refine RG.pv rfl (PV.field rfl Fo34_0 rfl) ?_
  refine RG.pv rfl (PV.load1 rfl Sc2 rfl (Rd.blk rfl)) ?_
  refine RG.nil ?_
  refine WP.block ?_
  refine WP.seq ?_
  refine WP.region ?_
  refine RG.pv rfl (PV.eql rfl rfl rfl) ?_
  refine RG.pv rfl (PV.mvB (.inr rfl) rfl) ?_
  refine RG.nil ?_
  refine WP.cond rfl (fun h4 => ?_) (fun h4 => ?_)
  · rw [if_pos (by simpa using h4)] at k
    refine WP.seq ?_
    refine WP.region ?_
    refine RG.pv rfl (PV.move rfl rfl) ?_
    refine RG.pv rfl (PV.field rfl Fo34_3 rfl) ?_
    refine RG.pv rfl (PV.load1 rfl Sc2 rfl (Rd.blk rfl)) ?_
    refine RG.callF (vs := [_, _]) rfl rfl En96 rfl (markWidth_i (hd q.layer.toNat (by omega)).up (fun v24 => ?_))
    refine RG.pv rfl (PV.asg (v := v24) rfl rfl) ?_
    refine RG.nil ?_
    refine WP.ret ?_
    exact ⟨_, _, ResV.one rfl rfl, Cv.p, k v24⟩
  · rw [if_neg (by simpa using h4)] at k
    refine WP.seq ?_
    refine WP.region ?_
    refine RG.pv rfl (PV.eql rfl rfl rfl) ?_
    refine RG.pv rfl (PV.mvB (.inr rfl) rfl) ?_
    refine RG.nil ?_
    refine WP.cond rfl (fun h5 => ?_) (fun h5 => ?_)
    · rw [if_pos (by simpa using h5)] at k
      refine WP.seq ?_
      refine WP.region ?_
      refine RG.pv rfl (PV.move rfl rfl) ?_
      refine RG.pv rfl (PV.field rfl Fo34_3 rfl) ?_
      refine RG.pv rfl (PV.load1 rfl Sc2 rfl (Rd.blk rfl)) ?_
      refine RG.callF (vs := [_, _]) rfl rfl En97 rfl (markSpacing_i (hd q.layer.toNat (by omega)).up (fun v30 => ?_))
      refine RG.pv rfl (PV.asg (v := v30) rfl rfl) ?_
      refine RG.nil ?_
      refine WP.ret ?_
      exact ⟨_, _, ResV.one rfl rfl, Cv.p, k v30⟩
    · rw [if_neg (by simpa using h5)] at k
      refine WP.seq ?_
      refine WP.region ?_
      refine RG.pv rfl (PV.eql rfl rfl rfl) ?_
      refine RG.pv rfl (PV.mvB (.inr rfl) rfl) ?_
      refine RG.nil ?_
      refine WP.cond rfl (fun h6 => ?_) (fun h6 => ?_)
      · rw [if_pos (by simpa using h6)] at k
        refine WP.seq ?_
        refine WP.region ?_
        refine RG.pv rfl (PV.move rfl rfl) ?_
        refine RG.pv rfl (PV.move rfl rfl) ?_
        refine RG.pv rfl (PV.field rfl Fo34_3 rfl) ?_
        refine RG.pv rfl (PV.load1 rfl Sc2 rfl (Rd.blk rfl)) ?_
        refine RG.callF (vs := [_, _, _]) rfl rfl En98 rfl (markBetween_i (hd q.layer.toNat (by omega)).up (hd q.other.toNat (by omega)).up (fun v37 => ?_))
        refine RG.pv rfl (PV.asg (v := v37) rfl rfl) ?_
        refine RG.nil ?_
        refine WP.ret ?_
        exact ⟨_, _, ResV.one rfl rfl, Cv.p, k v37⟩
      · rw [if_neg (by simpa using h6)] at k
        refine WP.seq ?_
        refine WP.region ?_
        refine RG.pv rfl (PV.eql rfl rfl rfl) ?_
        refine RG.pv rfl (PV.mvB (.inr rfl) rfl) ?_
        refine RG.nil ?_
        refine WP.cond rfl (fun h8 => ?_) (fun h8 => ?_)
        · rw [if_pos (by simpa using h8)] at k
          refine WP.seq ?_
          refine WP.region ?_
          refine RG.pv rfl (PV.move rfl rfl) ?_
          refine RG.pv rfl (PV.move rfl rfl) ?_
          refine RG.pv rfl (PV.field rfl Fo34_3 rfl) ?_
          refine RG.pv rfl (PV.load1 rfl Sc2 rfl (Rd.blk rfl)) ?_
          refine RG.callF (vs := [_, _, _]) rfl rfl En99 rfl (markEncl_i (hd q.layer.toNat (by omega)).up (hd q.other.toNat (by omega)).up (fun v44 => ?_))
          refine RG.pv rfl (PV.asg (v := v44) rfl rfl) ?_
          refine RG.nil ?_
          refine WP.ret ?_
          exact ⟨_, _, ResV.one rfl rfl, Cv.p, k v44⟩
        · rw [if_neg (by simpa using h8)] at k
          refine WP.seq ?_
          refine WP.region ?_
          refine RG.pv rfl (PV.eql rfl rfl rfl) ?_
          refine RG.pv rfl (PV.mvB (.inr rfl) rfl) ?_
          refine RG.nil ?_
          refine WP.cond rfl (fun h9 => ?_) (fun h9 => ?_)
          · rw [if_pos (by simpa using h9)] at k
            refine WP.seq ?_
            refine WP.region ?_
            refine RG.pv rfl (PV.move rfl rfl) ?_
            refine RG.pv rfl (PV.field rfl Fo34_3 rfl) ?_
            refine RG.pv rfl (PV.load1 rfl Sc2 rfl (Rd.blk rfl)) ?_
            refine RG.callF (vs := [_, _]) rfl rfl En100 rfl (markArea_i (hd q.layer.toNat (by omega)).up (fun v50 => ?_))
            refine RG.pv rfl (PV.asg (v := v50) rfl rfl) ?_
            refine RG.nil ?_
            refine WP.ret ?_
            exact ⟨_, _, ResV.one rfl rfl, Cv.p, k v50⟩
          · rw [if_neg (by simpa using h9)] at k
            refine WP.skip ?_
            refine WP.seq ?_
            refine WP.region ?_
            refine RG.pv rfl (PV.move rfl rfl) ?_
            refine RG.pv rfl (PV.field rfl Fo34_3 rfl) ?_
            refine RG.pv rfl (PV.load1 rfl Sc2 rfl (Rd.blk rfl)) ?_
            refine RG.pv rfl (PV.field rfl Fo34_4 rfl) ?_
            refine RG.pv rfl (PV.load1 rfl Sc2 rfl (Rd.blk rfl)) ?_
            refine RG.callF (vs := [_, _, _]) rfl rfl En101 rfl (markDens_i (hd q.layer.toNat (by omega)).up (fun v56 => ?_))
            refine RG.pv rfl (PV.asg (v := v56) rfl rfl) ?_
            refine RG.nil ?_
            refine WP.ret ?_
            exact ⟨_, _, ResV.one rfl rfl, Cv.p, k v56⟩
theorem ruleM_s {v : Value} {ys : List (Sl Rect)} {q : Rule} (h1 : Rs G L slT v ys) (hd : RsE G L rectT ys) (hl : isLay (er ys) = true) (hr : validRule q = true) (k : ∀ v', R v' G (osl 71 rectT v' (rmL (er ys) q) :: L)) : CallT Tryz.prog 28 #[v, vT ruleT q] G L R :=
  rule_s h1 hd (by rw [rmE, if_pos (by rw [hl, hr]; rfl)]; exact k)
def rckB (ms : List Rect) (l m : List (List Rect)) (q : Rule) : Bool := isLay l && isLay m && validRule q && isReg ms
noncomputable def rckE (ms : List Rect) (l m : List (List Rect)) (q : Rule) : Int := if rckB ms l m q = true then (if rmL l q = ms then 0 else 6) else 1
noncomputable def rckR (ms : List Rect) (l m : List (List Rect)) (q : Rule) : List Rect := if rckB ms l m q = true then (if rmL l q = ms then rmL m q else []) else []
theorem rckR_len (ms : List Rect) (l m : List (List Rect)) (q : Rule) : (rckR ms l m q).length ≤ 3200 := by
  unfold rckR; repeat' split
  all_goals first | exact rmL_len _ _ | exact Nat.zero_le _
theorem rckB_no {ms : List Rect} {l m : List (List Rect)} {q : Rule} (h : (!isLay l || !isLay m || !validRule q || !isReg ms) = true) : ¬ rckB ms l m q = true := by
  unfold rckB; cases g1 : isLay l <;> cases g2 : isLay m <;> cases g3 : validRule q <;> cases g4 : isReg ms <;> simp_all
theorem rckB_yes {ms : List Rect} {l m : List (List Rect)} {q : Rule} (h : (!isLay l || !isLay m || !validRule q || !isReg ms) = false) : isLay l = true ∧ isLay m = true ∧ validRule q = true ∧ isReg ms = true ∧ rckB ms l m q = true := by
  unfold rckB; cases g1 : isLay l <;> cases g2 : isLay m <;> cases g3 : validRule q <;> cases g4 : isReg ms <;> simp_all
theorem recheck_s {t u v : Value} {ms : List Rect} {xs ys : List (Sl Rect)} {q : Rule} (h1 : Rs G L rectT t ms) (h2 : Rs G L slT u xs) (hd : RsE G L rectT xs) (h3 : Rs G L slT v ys) (hd' : RsE G L rectT ys)
    (k : ∀ v', R (.tuple #[v', vi (rckE ms (er xs) (er ys) q)]) G (osl 71 rectT v' (rckR ms (er xs) (er ys) q) :: L)) : CallT Tryz.prog 8 #[t, u, v, vT ruleT q] G L R := by
  refine CallT.enter (args := _) Tryz.func8 rfl rfl (by kernel_rfl) rfl ?_
  refine WP.seq ?_
  refine WP.region ?_
  refine RG.ot rfl (OT.box (cs := ruleT.enc q) rfl rfl rfl fun b7 => ?_)
  refine RG.pv rfl (PV.asg rfl rfl) ?_
  refine RG.pv rfl (PV.mvI (.inr rfl) rfl) ?_
  refine RG.nil ?_
  refine WP.seq ?_
  refine WP.seq ?_
  refine WP.region ?_
  refine RG.pv rfl (PV.move (v := u) rfl rfl) ?_
  refine RG.callF (vs := [u]) rfl rfl En20 rfl (isLayoutS_s (Rs.up h2) hd.up ?_)
  refine RG.pv rfl (PV.not rfl rfl) ?_
  refine RG.pv rfl (PV.mvB (.inl rfl) rfl) ?_
  refine RG.gs rfl rfl rfl (fun hp => (PV.move (v := v) rfl rfl)) ?_
  refine RG.gsC rfl rfl rfl rfl En20 (fun hp => ⟨_, (acons (gs_t hp) anil), isLayoutS_s (Rs.up h3) hd'.up ⟨rfl, rfl, rfl⟩⟩) ?_
  refine RG.gs rfl rfl rfl (fun hp => (PV.not rfl (gs_t hp))) ?_
  refine RG.pv rfl (PV.pickO rfl rfl rfl (fun hq => gs_t (geqF hq))) ?_
  refine RG.pv rfl (PV.mvB (.inl rfl) rfl) ?_
  refine RG.gs rfl rfl rfl (fun hp => (PV.loadW rfl Ag34 rfl rfl)) ?_
  refine RG.gsC rfl rfl rfl rfl En21 (fun hp => ⟨_, (acons (gs_t hp) anil), validRule_s ⟨rfl, rfl, rfl⟩⟩) ?_
  refine RG.gs rfl rfl rfl (fun hp => (PV.not rfl (gs_t hp))) ?_
  refine RG.pv rfl (PV.pickO rfl rfl rfl (fun hq => gs_t (geqF hq))) ?_
  refine RG.pv rfl (PV.mvB (.inl rfl) rfl) ?_
  refine RG.gs rfl rfl rfl (fun hp => (PV.move (v := t) rfl rfl)) ?_
  refine RG.gsC rfl rfl rfl rfl En35 (fun hp => ⟨_, (acons (gs_t hp) anil), l03Ok_s (Rs.up h1) ⟨rfl, rfl, rfl⟩⟩) ?_
  refine RG.gs rfl rfl rfl (fun hp => (PV.not rfl (gs_t hp))) ?_
  refine RG.pv rfl (PV.pickO rfl rfl rfl (fun hq => gs_t (geqF hq))) ?_
  refine RG.nil ?_
  refine WP.cond rfl (fun h4 => ?_) (fun h4 => ?_)
  · have h5 := rckB_no h4
    rw [rckE, rckR, if_neg h5, if_neg h5] at k
    refine WP.seq ?_
    refine WP.region ?_
    refine RG.pv rfl (PV.asg rfl rfl) ?_
    refine RG.pv rfl (PV.mvI (.inr rfl) rfl) ?_
    refine RG.nil ?_
    refine WP.ret ?_
    exact ⟨_, _, ResV.two rfl rfl rfl, Cv.nilP, k (.slice none 0 0)⟩
  · obtain ⟨g1, g2, g3, g4, h5⟩ := rckB_yes h4
    rw [rckE, rckR, if_pos h5, if_pos h5] at k
    refine WP.skip ?_
    refine WP.seq ?_
    refine WP.seq ?_
    refine WP.region ?_
    refine RG.pv rfl (PV.move (v := u) rfl rfl) ?_
    refine RG.pv rfl (PV.loadW rfl Ag34 rfl rfl) ?_
    refine RG.callF (vs := [u, _]) rfl rfl En28 rfl (ruleM_s (q := q) (Rs.up h2) hd.up g1 g3 (fun v30 => ?_))
    refine RG.pv rfl (PV.move (v := t) rfl rfl) ?_
    refine RG.callF (vs := [v30, t]) rfl rfl En36 rfl (l03Same_s Rs.o (Rs.up h1) ?_)
    refine RG.pv rfl (PV.not rfl rfl) ?_
    refine RG.nil ?_
    refine WP.cond rfl (fun h6 => ?_) (fun h6 => ?_)
    · rw [if_neg (by simpa using h6), if_neg (by simpa using h6)] at k
      refine WP.seq ?_
      refine WP.region ?_
      refine RG.pv rfl (PV.asg rfl rfl) ?_
      refine RG.pv rfl (PV.mvI (.inr rfl) rfl) ?_
      refine RG.nil ?_
      refine WP.ret ?_
      exact ⟨_, _, ResV.two rfl rfl rfl, Cv.nilP, k (.slice none 0 0)⟩
    · rw [if_pos (by simpa using h6), if_pos (by simpa using h6)] at k
      refine WP.skip ?_
      refine WP.seq ?_
      refine WP.region ?_
      refine RG.pv rfl (PV.move (v := v) rfl rfl) ?_
      refine RG.pv rfl (PV.loadW rfl Ag34 rfl rfl) ?_
      refine RG.callF (vs := [v, _]) rfl rfl En28 rfl (ruleM_s (q := q) (Rs.up h3) hd'.up g2 g3 (fun v36 => ?_))
      refine RG.pv rfl (PV.asg (v := v36) rfl rfl) ?_
      refine RG.pv rfl (PV.mvI (.inr rfl) rfl) ?_
      refine RG.nil ?_
      refine WP.ret ?_
      exact ⟨_, _, ResV.two rfl rfl rfl, Cv.p, k v36⟩
theorem recheck_i {t u v : Value} {ms : List Rect} {xs ys : List (Sl Rect)} {q : Rule} (h1 : Rs G L rectT t ms) (h2 : Rs G L slT u xs) (hd : RsE G L rectT xs) (h3 : Rs G L slT v ys) (hd' : RsE G L rectT ys)
    (k : ∀ v', R (.tuple #[v', vi (rckE ms (er xs) (er ys) q)]) G (osl 71 rectT v' (rckR ms (er xs) (er ys) q) :: L)) : CallT Tryz.prog 12 #[t, u, v, vT ruleT q] G L R := by
  refine CallT.enter (args := _) Tryz.func12 rfl rfl (by kernel_rfl) rfl ?_
  refine WP.seq ?_
  refine WP.region ?_
  refine RG.ot rfl (OT.box (cs := ruleT.enc q) rfl rfl rfl fun b7 => ?_)
  refine RG.pv rfl (PV.asg rfl rfl) ?_
  refine RG.pv rfl (PV.mvI (.inr rfl) rfl) ?_
  refine RG.nil ?_
  refine WP.seq ?_
  refine WP.block ?_
  refine WP.seq ?_
  refine WP.region ?_
  refine RG.pv rfl (PV.move (v := u) rfl rfl) ?_
  refine RG.callF (vs := [u]) rfl rfl En38 rfl (isLayout_s (Rs.up h2) hd.up ?_)
  refine RG.pv rfl (PV.not rfl rfl) ?_
  refine RG.pv rfl (PV.mvB (.inl rfl) rfl) ?_
  refine RG.gs rfl rfl rfl (fun hp => (PV.move (v := v) rfl rfl)) ?_
  refine RG.gsC rfl rfl rfl rfl En38 (fun hp => ⟨_, (acons (gs_t hp) anil), isLayout_s (Rs.up h3) hd'.up ⟨rfl, rfl, rfl⟩⟩) ?_
  refine RG.gs rfl rfl rfl (fun hp => (PV.not rfl (gs_t hp))) ?_
  refine RG.pv rfl (PV.pickO rfl rfl rfl (fun hq => gs_t (geqF hq))) ?_
  refine RG.pv rfl (PV.mvB (.inl rfl) rfl) ?_
  refine RG.gs rfl rfl rfl (fun hp => (PV.loadW rfl Ag34 rfl rfl)) ?_
  refine RG.gsC rfl rfl rfl rfl En39 (fun hp => ⟨_, (acons (gs_t hp) anil), validRule_i ⟨rfl, rfl, rfl⟩⟩) ?_
  refine RG.gs rfl rfl rfl (fun hp => (PV.not rfl (gs_t hp))) ?_
  refine RG.pv rfl (PV.pickO rfl rfl rfl (fun hq => gs_t (geqF hq))) ?_
  refine RG.pv rfl (PV.mvB (.inl rfl) rfl) ?_
  refine RG.gs rfl rfl rfl (fun hp => (PV.move (v := t) rfl rfl)) ?_
  refine RG.gsC rfl rfl rfl rfl En40 (fun hp => ⟨_, (acons (gs_t hp) anil), isRegion_s (Rs.up h1) ⟨rfl, rfl, rfl⟩⟩) ?_
  refine RG.gs rfl rfl rfl (fun hp => (PV.not rfl (gs_t hp))) ?_
  refine RG.pv rfl (PV.pickO rfl rfl rfl (fun hq => gs_t (geqF hq))) ?_
  refine RG.pv rfl (PV.mvB (.inr rfl) rfl) ?_
  refine RG.nil ?_
  refine WP.cond rfl (fun h4 => ?_) (fun h4 => ?_)
  · have h5 := rckB_no h4
    rw [rckE, rckR, if_neg h5, if_neg h5] at k
    refine WP.seq ?_
    refine WP.region ?_
    refine RG.pv rfl (PV.asg rfl rfl) ?_
    refine RG.pv rfl (PV.mvI (.inr rfl) rfl) ?_
    refine RG.nil ?_
    refine WP.ret ?_
    exact ⟨_, _, ResV.two rfl rfl rfl, Cv.nilP, k (.slice none 0 0)⟩
  · obtain ⟨g1, g2, g3, g4, h5⟩ := rckB_yes h4
    rw [rckE, rckR, if_pos h5, if_pos h5] at k
    refine WP.seq ?_
    refine WP.region ?_
    refine RG.pv rfl (PV.move (v := u) rfl rfl) ?_
    refine RG.pv rfl (PV.loadW rfl Ag34 rfl rfl) ?_
    refine RG.callF (vs := [u, _]) rfl rfl En42 rfl (rule_i (q := q) (Rs.up h2) hd.up g1 g3 (fun v32 => ?_))
    refine RG.pv rfl (PV.move (v := t) rfl rfl) ?_
    refine RG.callF (vs := [v32, t]) rfl rfl En41 rfl (equal_s Rs.o (Rs.up h1) ?_)
    refine RG.pv rfl (PV.not rfl rfl) ?_
    refine RG.pv rfl (PV.mvB (.inr rfl) rfl) ?_
    refine RG.nil ?_
    refine WP.cond rfl (fun h6 => ?_) (fun h6 => ?_)
    · rw [if_neg (by simpa using h6), if_neg (by simpa using h6)] at k
      refine WP.seq ?_
      refine WP.region ?_
      refine RG.pv rfl (PV.asg rfl rfl) ?_
      refine RG.pv rfl (PV.mvI (.inr rfl) rfl) ?_
      refine RG.nil ?_
      refine WP.ret ?_
      exact ⟨_, _, ResV.two rfl rfl rfl, Cv.nilP, k (.slice none 0 0)⟩
    · rw [if_pos (by simpa using h6), if_pos (by simpa using h6)] at k
      refine WP.skip ?_
      refine WP.seq ?_
      refine WP.region ?_
      refine RG.pv rfl (PV.move (v := v) rfl rfl) ?_
      refine RG.pv rfl (PV.loadW rfl Ag34 rfl rfl) ?_
      refine RG.callF (vs := [v, _]) rfl rfl En42 rfl (rule_i (q := q) (Rs.up h3) hd'.up g2 g3 (fun v38 => ?_))
      refine RG.pv rfl (PV.asg (v := v38) rfl rfl) ?_
      refine RG.pv rfl (PV.mvI (.inr rfl) rfl) ?_
      refine RG.nil ?_
      refine WP.ret ?_
      exact ⟨_, _, ResV.two rfl rfl rfl, Cv.p, k v38⟩
theorem law_RecheckMarkers {t u v : Value} {ms : List Rect} {xs zs : List (Sl Rect)} {rl : Rule} (h1 : Rs G L rectT t ms) (h2 : Rs G L slT u xs) (hd : RsE G L rectT xs) (h3 : Rs G L slT v zs) (hd' : RsE G L rectT zs) (k : R (.bool true) G L) : CallT Tryz.prog 3 #[t, u, v, vrule rl] G L R := by
  refine CallT.enter (args := _) Tryz.func3 rfl rfl (by kernel_rfl) rfl ?_
  refine WP.seq ?_
  refine WP.region ?_
  refine RG.ot rfl (OT.box (cs := ruleT.enc rl) rfl rfl rfl fun b7 => ?_)
  refine RG.pv rfl (PV.mvB (.inr rfl) rfl) ?_
  refine RG.nil ?_
  refine WP.seq ?_
  refine WP.region ?_
  refine RG.pv rfl (PV.mvI (.inr rfl) rfl) ?_
  refine RG.nil ?_
  refine WP.seq ?_
  refine WP.region ?_
  refine RG.pv rfl (PV.move (v := t) rfl rfl) ?_
  refine RG.pv rfl (PV.mvI (.inl rfl) rfl) ?_
  refine RG.callF (vs := [t, _]) rfl rfl En6 rfl (szRectS_s (Rs.up h1) (by omega) (by omega) (fun r hr hr' => ?_))
  refine RG.pv rfl (PV.mvI (.inr rfl) rfl) ?_
  refine RG.nil ?_
  refine WP.seq ?_
  refine WP.seq ?_
  refine WP.region ?_
  refine RG.pv rfl (PV.mvI (.inl rfl) rfl) ?_
  refine RG.pv rfl (PV.lss rfl rfl rfl) ?_
  refine RG.nil ?_
  refine WP.cond rfl (fun c1 => ?_) (fun c1 => ?_)
  · refine WP.seq ?_
    refine WP.region ?_
    refine RG.pv rfl (PV.mvB (.inr rfl) rfl) ?_
    refine RG.nil ?_
    refine WP.ret ?_
    exact ⟨_, _, ResV.one rfl rfl, Cv.p, k⟩
  · have c1 := of_decide_eq_false c1
    have hb : ms.length ≤ 1048576 := by have := hr' (by omega); omega
    refine WP.skip ?_
    refine WP.seq ?_
    refine WP.region ?_
    refine RG.pv rfl (PV.move (v := u) rfl rfl) ?_
    refine RG.pv rfl (PV.mvI (.inl rfl) rfl) ?_
    refine RG.callF (vs := [u, _]) rfl rfl En7 rfl (szRectSS_s (Rs.up h2) hd.up (by omega) (by omega) (fun r2 hr2 hr2' => ?_))
    refine RG.pv rfl (PV.mvI (.inr rfl) rfl) ?_
    refine RG.nil ?_
    refine WP.seq ?_
    refine WP.seq ?_
    refine WP.region ?_
    refine RG.pv rfl (PV.mvI (.inl rfl) rfl) ?_
    refine RG.pv rfl (PV.lss rfl rfl rfl) ?_
    refine RG.nil ?_
    refine WP.cond rfl (fun c2 => ?_) (fun c2 => ?_)
    · refine WP.seq ?_
      refine WP.region ?_
      refine RG.pv rfl (PV.mvB (.inr rfl) rfl) ?_
      refine RG.nil ?_
      refine WP.ret ?_
      exact ⟨_, _, ResV.one rfl rfl, Cv.p, k⟩
    · have c2 := of_decide_eq_false c2
      have hsz : szOf xs ≤ 1048576 := by have := hr2' (by omega); omega
      have hc0 : 0 ≤ costL lenS xs := costL_nonneg lenS_nn _
      have hb2 : xs.length ≤ 1048576 := by simp only [szOf] at hsz; omega
      have hbi2 : ∀ i, i < xs.length → (gd xs i).xs.length ≤ 1048576 := fun i hi => by
        have := costL_mem lenS_nn hi; simp only [lenS, szOf] at *; omega
      have hcx : costL nRS xs ≤ 4194304 := by rw [nRS_lenS]; simp only [szOf] at hsz; omega
      refine WP.skip ?_
      refine WP.seq ?_
      refine WP.region ?_
      refine RG.pv rfl (PV.move (v := v) rfl rfl) ?_
      refine RG.pv rfl (PV.mvI (.inl rfl) rfl) ?_
      refine RG.callF (vs := [v, _]) rfl rfl En7 rfl (szRectSS_s (Rs.up h3) hd'.up (by omega) (by omega) (fun r3 hr3 hr3' => ?_))
      refine RG.pv rfl (PV.mvI (.inr rfl) rfl) ?_
      refine RG.nil ?_
      refine WP.seq ?_
      refine WP.seq ?_
      refine WP.region ?_
      refine RG.pv rfl (PV.mvI (.inl rfl) rfl) ?_
      refine RG.pv rfl (PV.lss rfl rfl rfl) ?_
      refine RG.nil ?_
      refine WP.cond rfl (fun c3 => ?_) (fun c3 => ?_)
      · refine WP.seq ?_
        refine WP.region ?_
        refine RG.pv rfl (PV.mvB (.inr rfl) rfl) ?_
        refine RG.nil ?_
        refine WP.ret ?_
        exact ⟨_, _, ResV.one rfl rfl, Cv.p, k⟩
      · have c3 := of_decide_eq_false c3
        have hsz3 : szOf zs ≤ 1048576 := by have := hr3' (by omega); omega
        have hc03 : 0 ≤ costL lenS zs := costL_nonneg lenS_nn _
        have hb3 : zs.length ≤ 1048576 := by simp only [szOf] at hsz3; omega
        have hbi3 : ∀ i, i < zs.length → (gd zs i).xs.length ≤ 1048576 := fun i hi => by
          have := costL_mem lenS_nn hi; simp only [lenS, szOf] at *; omega
        have hcx3 : costL nRS zs ≤ 4194304 := by rw [nRS_lenS]; simp only [szOf] at hsz3; omega
        have hcr := rckR_len ms (er xs) (er zs) rl
        refine WP.skip ?_
        refine WP.seq ?_
        refine WP.regionH0 (.q 0 (.q 2 (.q 4 (.q 6 (.l 1 (.l 3 (.l 5 (.l 7 (.l 8 (.q 9 (.q 10 (.q 11 (.q 12 (.q 13 Sch.nil)))))))))))))) (by kernel_rfl) (by kernel_rfl) (by kernel_rfl) rfl ?_
        refine RH.pv rfl (fun _ _ _ _ h => h) (Gh.le_refl _) PickC.pick rfl (PV.move (v := t) rfl rfl) ?_
        refine RH.pv rfl (fun _ _ _ _ h => h) (Gh.le_refl _) PickC.pick rfl (PV.move (v := u) rfl rfl) ?_
        refine RH.pv rfl (fun _ _ _ _ h => h) (Gh.le_refl _) PickC.pick rfl (PV.move (v := v) rfl rfl) ?_
        refine RH.pv rfl (fun _ _ _ _ h => h) (Gh.le_refl _) PickC.pick rfl (PV.loadW rfl Ag25 rfl rfl) ?_
        refine RH.ot rfl rfl (OT.callF (vs := [t]) rfl En9 rfl (toRectS_s (Rs.up h1) hb (fun v39 => ⟨Gh.le_refl _, PickC.pick, ?_⟩)))
        refine RH.ot rfl rfl (OT.callF (vs := [u]) rfl En10 rfl (toRectSS_s (Rs.up h2) hd.up hb2 hbi2 (fun v41 ysv41 hev41 => ⟨Gh.le_refl _, PickC.pick, ?_⟩)))
        refine RH.ot rfl rfl (OT.callF (vs := [v]) rfl En10 rfl (toRectSS_s (Rs.up h3) hd'.up hb3 hbi3 (fun v43 ysv43 hev43 => ⟨Gh.le_refl _, PickC.pick, ?_⟩)))
        refine RH.ot rfl rfl (OT.callF (vs := [_]) rfl En11 rfl (toRule_s ⟨Gh.le_refl _, PickC.pick, ?_⟩))
        refine RH.ot rfl rfl (OT.callF (vs := [v39, v41, v43, _]) rfl En8 rfl (recheck_s (q := rl) Rs.o Rs.o RsE.o Rs.o RsE.o (fun w46 => ⟨Gh.le_refl _, PickC.pick, ?_⟩)))
        refine RH.pv rfl (fun _ _ _ _ h => h) (Gh.le_refl _) PickC.pick rfl (PV.move (v := .tuple _) rfl rfl) ?_
        refine RH.pv rfl (fun _ _ _ _ h => h) (Gh.le_refl _) PickC.pick rfl (PV.ext (v := w46) rfl rfl rfl) ?_
        refine RH.pv rfl (fun _ _ _ _ h => h) (Gh.le_refl _) PickC.pick rfl (PV.ext rfl rfl rfl) ?_
        refine RH.pv rfl (fun _ _ _ _ h => h) (Gh.le_refl _) PickC.pick rfl (PV.asg (v := w46) rfl rfl) ?_
        refine RH.pv rfl (fun _ _ _ _ h => h) (Gh.le_refl _) PickC.pick rfl (PV.mvI (.inr rfl) rfl) ?_
        refine RH.nil ?_
        refine WP.seq ?_
        refine WP.region ?_
        refine RG.pv rfl (PV.move (v := t) rfl rfl) ?_
        refine RG.callF (vs := [t]) rfl rfl En9 rfl (toRectS_s (Rs.up h1) hb (fun v50 => ?_))
        refine RG.pv rfl (PV.asg (v := v50) rfl rfl) ?_
        refine RG.nil ?_
        refine WP.seq ?_
        refine WP.region ?_
        refine RG.pv rfl (PV.move (v := u) rfl rfl) ?_
        refine RG.callF (vs := [u]) rfl rfl En10 rfl (toRectSS_s (Rs.up h2) hd.up hb2 hbi2 (fun v52 ysv52 hev52 => ?_))
        refine RG.pv rfl (PV.asg (v := v52) rfl rfl) ?_
        refine RG.nil ?_
        refine WP.seq ?_
        refine WP.region ?_
        refine RG.pv rfl (PV.move (v := v) rfl rfl) ?_
        refine RG.callF (vs := [v]) rfl rfl En10 rfl (toRectSS_s (Rs.up h3) hd'.up hb3 hbi3 (fun v54 ysv54 hev54 => ?_))
        refine RG.pv rfl (PV.asg (v := v54) rfl rfl) ?_
        refine RG.nil ?_
        refine WP.seq ?_
        refine WP.region ?_
        refine RG.pv rfl (PV.move (v := v50) rfl rfl) ?_
        refine RG.pv rfl (PV.move (v := v52) rfl rfl) ?_
        refine RG.pv rfl (PV.move (v := v54) rfl rfl) ?_
        refine RG.pv rfl (PV.loadW rfl Ag25 rfl rfl) ?_
        refine RG.callF (vs := [_]) rfl rfl En11 rfl (toRule_s ?_)
        refine RG.callF (vs := [v50, v52, v54, _]) rfl rfl En12 rfl (recheck_i (q := rl) Rs.o Rs.o RsE.o Rs.o RsE.o (fun w61 => ?_))
        refine RG.pv rfl (PV.move (v := .tuple _) rfl rfl) ?_
        refine RG.pv rfl (PV.ext (v := w61) rfl rfl rfl) ?_
        refine RG.pv rfl (PV.ext rfl rfl rfl) ?_
        refine RG.pv rfl (PV.asg (v := w61) rfl rfl) ?_
        refine RG.pv rfl (PV.mvI (.inr rfl) rfl) ?_
        refine RG.nil ?_
        refine WP.seq ?_
        refine WP.seq ?_
        refine WP.region ?_
        refine RG.pv rfl (PV.move (v := w61) rfl rfl) ?_
        refine RG.pv rfl (PV.move (v := w46) rfl rfl) ?_
        refine RG.callF (vs := [w61, w46]) rfl rfl En13 rfl (eqRectS_s Rs.o Rs.o ?_)
        refine RG.pv rfl (PV.not rfl rfl) ?_
        refine RG.pv rfl (PV.mvB (.inl rfl) rfl) ?_
        refine RG.gs rfl rfl rfl (fun hp => (PV.mvI (.inl rfl) rfl)) ?_
        refine RG.gs rfl rfl rfl (fun hp => (PV.mvI (.inl rfl) rfl)) ?_
        refine RG.gs rfl rfl rfl (fun hp => (PV.neq rfl (gs_t hp) (gs_t hp))) ?_
        refine RG.pv rfl (PV.pickO rfl rfl rfl (fun hq => gs_t (geqF hq))) ?_
        refine RG.nil ?_
        refine WP.cond rfl (fun h5 => ?_) (fun h5 => ?_)
        · simp [*] at h5
        · refine WP.skip ?_
          refine WP.seq ?_
          refine WP.seq ?_
          refine WP.region ?_
          refine RG.pv rfl (PV.move (v := v50) rfl rfl) ?_
          refine RG.pv rfl (PV.move (v := t) rfl rfl) ?_
          refine RG.callF (vs := [t]) rfl rfl En9 rfl (toRectS_s (Rs.up h1) hb (fun v75 => ?_))
          refine RG.callF (vs := [v50, v75]) rfl rfl En13 rfl (eqRectS_s Rs.o Rs.o ?_)
          refine RG.pv rfl (PV.not rfl rfl) ?_
          refine RG.nil ?_
          refine WP.cond rfl (fun h6 => ?_) (fun h6 => ?_)
          · simp [*] at h6
          · refine WP.skip ?_
            refine WP.seq ?_
            refine WP.seq ?_
            refine WP.region ?_
            refine RG.pv rfl (PV.move (v := v52) rfl rfl) ?_
            refine RG.pv rfl (PV.move (v := u) rfl rfl) ?_
            refine RG.callF (vs := [u]) rfl rfl En10 rfl (toRectSS_s (Rs.up h2) hd.up hb2 hbi2 (fun v80 ysv80 hev80 => ?_))
            refine RG.callF (vs := [v52, v80]) rfl rfl En14 rfl (eqRectSS_s Rs.o RsE.o Rs.o RsE.o ?_)
            refine RG.pv rfl (PV.not rfl rfl) ?_
            refine RG.nil ?_
            refine WP.cond rfl (fun h7 => ?_) (fun h7 => ?_)
            · simp [*] at h7
            · skip
              refine WP.skip ?_
              refine WP.seq ?_
              refine WP.seq ?_
              refine WP.region ?_
              refine RG.pv rfl (PV.move (v := v54) rfl rfl) ?_
              refine RG.pv rfl (PV.move (v := v) rfl rfl) ?_
              refine RG.callF (vs := [v]) rfl rfl En10 rfl (toRectSS_s (Rs.up h3) hd'.up hb3 hbi3 (fun v85 ysv85 hev85 => ?_))
              refine RG.callF (vs := [v54, v85]) rfl rfl En14 rfl (eqRectSS_s Rs.o RsE.o Rs.o RsE.o ?_)
              refine RG.pv rfl (PV.not rfl rfl) ?_
              refine RG.nil ?_
              refine WP.cond rfl (fun h8 => ?_) (fun h8 => ?_)
              · simp [*] at h8
              · have hm1 : costL nRS ysv52 ≤ 4194304 := by rw [costL_er hev52]; exact hcx
                have hm2 : costL nRS ysv54 ≤ 4194304 := by rw [costL_er hev54]; exact hcx3
                have hm3 : 0 ≤ costL nRS ysv52 := costL_nonneg nSl_nn _
                have hm4 : 0 ≤ costL nRS ysv54 := costL_nonneg nSl_nn _
                have hm5 : costL nRect (rckR ms (er ysv52) (er ysv54) rl) ≤ 12800 := by rw [hev52, hev54, nRect_cost]; omega
                have hm6 : 0 ≤ costL nRect (rckR ms (er ysv52) (er ysv54) rl) := costL_nonneg nRect_nn _
                have hm7 : 0 ≤ costL nRect ms := costL_nonneg nRect_nn _
                have hm8 : costL nRect ms ≤ 4194304 := by rw [nRect_cost]; omega
                refine WP.skip ?_
                refine WP.seq ?_
                refine WP.region ?_
                refine RG.pv rfl (PV.mvI (.inr rfl) rfl) ?_
                refine RG.nil ?_
                refine WP.seq ?_
                refine WP.region ?_
                refine RG.pv rfl (PV.move (v := v50) rfl rfl) ?_
                refine RG.pv rfl (PV.mvI (.inl rfl) rfl) ?_
                refine RG.callF (vs := [v50, _]) rfl rfl En15 rfl (CallT.exS v50 (markRectS_s (by omega) (by omega) ?_))
                refine RG.pv rfl (PV.mvI (.inr rfl) rfl) ?_
                refine RG.nil ?_
                refine WP.seq ?_
                refine WP.region ?_
                refine RG.pv rfl (PV.move (v := v52) rfl rfl) ?_
                refine RG.pv rfl (PV.mvI (.inl rfl) rfl) ?_
                refine RG.callF (vs := [v52, _]) rfl rfl En16 rfl (CallT.exBg ysv52 (CallT.exS v52 (markRectSS_s (by omega) (by omega) ?_)))
                refine RG.pv rfl (PV.mvI (.inr rfl) rfl) ?_
                refine RG.nil ?_
                refine WP.seq ?_
                refine WP.region ?_
                refine RG.pv rfl (PV.move (v := v54) rfl rfl) ?_
                refine RG.pv rfl (PV.mvI (.inl rfl) rfl) ?_
                refine RG.callF (vs := [v54, _]) rfl rfl En16 rfl (CallT.exBg ysv54 (CallT.exS v54 (markRectSS_s (by omega) (by omega) ?_)))
                refine RG.pv rfl (PV.mvI (.inr rfl) rfl) ?_
                refine RG.nil ?_
                refine WP.seq ?_
                refine WP.seq ?_
                refine WP.region ?_
                refine RG.pv rfl (PV.mvI (.inl rfl) rfl) ?_
                refine RG.pv rfl (PV.lss rfl rfl rfl) ?_
                refine RG.pv rfl (PV.mvB (.inl rfl) rfl) ?_
                refine RG.gs rfl rfl rfl (fun hp => (PV.move (v := w61) rfl rfl)) ?_
                refine RG.gs rfl rfl rfl (fun hp => (PV.move (v := w46) rfl rfl)) ?_
                refine RG.gsC rfl rfl rfl rfl En13 (fun hp => ⟨_, (acons (gs_t hp) (acons (gs_t hp) anil)), eqRectS_s Rs.o Rs.o ⟨rfl, rfl, rfl⟩⟩) ?_
                refine RG.gs rfl rfl rfl (fun hp => (PV.not rfl (gs_t hp))) ?_
                refine RG.pv rfl (PV.pickO rfl rfl rfl (fun hq => gs_t (geqF hq))) ?_
                refine RG.pv rfl (PV.mvB (.inl rfl) rfl) ?_
                refine RG.gs rfl rfl rfl (fun hp => (PV.mvI (.inl rfl) rfl)) ?_
                refine RG.gs rfl rfl rfl (fun hp => (PV.mvI (.inl rfl) rfl)) ?_
                refine RG.gs rfl rfl rfl (fun hp => (PV.neq rfl (gs_t hp) (gs_t hp))) ?_
                refine RG.pv rfl (PV.pickO rfl rfl rfl (fun hq => gs_t (geqF hq))) ?_
                refine RG.nil ?_
                refine WP.cond rfl (fun h9 => ?_) (fun h9 => ?_)
                · simp [*] at h9 <;> omega
                · skip
                  refine WP.skip ?_
                  refine WP.seq ?_
                  refine WP.region ?_
                  refine RG.pv rfl (PV.mvI (.inr rfl) rfl) ?_
                  refine RG.nil ?_
                  refine WP.seq ?_
                  refine WP.region ?_
                  refine RG.pv rfl (PV.move (v := w61) rfl rfl) ?_
                  refine RG.pv rfl (PV.mvI (.inl rfl) rfl) ?_
                  refine RG.callF (vs := [w61, _]) rfl rfl En15 rfl (CallT.exS w61 (markRectS_s (by omega) (by omega) ?_))
                  refine RG.pv rfl (PV.mvI (.inr rfl) rfl) ?_
                  refine RG.nil ?_
                  refine WP.seq ?_
                  refine WP.region ?_
                  refine RG.pv rfl (PV.mvI (.inr rfl) rfl) ?_
                  refine RG.nil ?_
                  refine WP.seq ?_
                  refine WP.region ?_
                  refine RG.pv rfl (PV.move (v := w61) rfl rfl) ?_
                  refine RG.pv rfl (PV.mvI (.inl rfl) rfl) ?_
                  refine RG.callF (vs := [w61, _]) rfl rfl En17 rfl (heldRectS_s Rs.o (by omega) (by omega) ?_)
                  refine RG.pv rfl (PV.mvI (.inr rfl) rfl) ?_
                  refine RG.nil ?_
                  refine WP.seq ?_
                  refine WP.seq ?_
                  refine WP.region ?_
                  refine RG.pv rfl (PV.mvI (.inl rfl) rfl) ?_
                  refine RG.pv rfl (PV.lss rfl rfl rfl) ?_
                  refine RG.nil ?_
                  refine WP.cond rfl (fun h10 => ?_) (fun h10 => ?_)
                  · simp at h10; omega
                  · refine WP.skip ?_
                    refine WP.seq ?_
                    refine WP.seq ?_
                    refine WP.region ?_
                    refine RG.pv rfl (PV.mvI (.inl rfl) rfl) ?_
                    refine RG.pv rfl (PV.mvI (.inl rfl) rfl) ?_
                    refine RG.pv rfl (PV.neq rfl rfl rfl) ?_
                    refine RG.nil ?_
                    refine WP.cond rfl (fun h11 => ?_) (fun h11 => ?_)
                    · simp at h11
                    · skip
                      refine WP.skip ?_
                      refine WP.seq ?_
                      refine WP.regionH0 (.q 0 (.q 2 (.q 4 (.q 6 (.l 1 (.l 3 (.l 5 (.l 7 (.l 8 (.q 9 (.q 10 (.q 11 (.q 12 (.q 13 Sch.nil)))))))))))))) (by kernel_rfl) (by kernel_rfl) (by kernel_rfl) rfl ?_
                      refine RH.pv rfl (fun _ _ _ _ h => h) (Gh.le_refl _) PickC.pick rfl (PV.move (v := t) rfl rfl) ?_
                      refine RH.pv rfl (fun _ _ _ _ h => h) (Gh.le_refl _) PickC.pick rfl (PV.move (v := u) rfl rfl) ?_
                      refine RH.pv rfl (fun _ _ _ _ h => h) (Gh.le_refl _) PickC.pick rfl (PV.move (v := v) rfl rfl) ?_
                      refine RH.pv rfl (fun _ _ _ _ h => h) (Gh.le_refl _) PickC.pick rfl (PV.loadW rfl Ag25 rfl rfl) ?_
                      refine RH.ot rfl rfl (OT.callF (vs := [t]) rfl En9 rfl (toRectS_s (Rs.up h1) hb (fun v123 => ⟨Gh.le_refl _, PickC.pick, ?_⟩)))
                      refine RH.ot rfl rfl (OT.callF (vs := [u]) rfl En10 rfl (toRectSS_s (Rs.up h2) hd.up hb2 hbi2 (fun v125 ysv125 hev125 => ⟨Gh.le_refl _, PickC.pick, ?_⟩)))
                      refine RH.ot rfl rfl (OT.callF (vs := [v]) rfl En10 rfl (toRectSS_s (Rs.up h3) hd'.up hb3 hbi3 (fun v127 ysv127 hev127 => ⟨Gh.le_refl _, PickC.pick, ?_⟩)))
                      refine RH.ot rfl rfl (OT.callF (vs := [_]) rfl En11 rfl (toRule_s ⟨Gh.le_refl _, PickC.pick, ?_⟩))
                      refine RH.ot rfl rfl (OT.callF (vs := [v123, v125, v127, _]) rfl En12 rfl (recheck_i (q := rl) Rs.o Rs.o RsE.o Rs.o RsE.o (fun w130 => ⟨Gh.le_refl _, PickC.pick, ?_⟩)))
                      refine RH.pv rfl (fun _ _ _ _ h => h) (Gh.le_refl _) PickC.pick rfl (PV.move (v := .tuple _) rfl rfl) ?_
                      refine RH.pv rfl (fun _ _ _ _ h => h) (Gh.le_refl _) PickC.pick rfl (PV.ext (v := w130) rfl rfl rfl) ?_
                      refine RH.pv rfl (fun _ _ _ _ h => h) (Gh.le_refl _) PickC.pick rfl (PV.ext rfl rfl rfl) ?_
                      refine RH.pv rfl (fun _ _ _ _ h => h) (Gh.le_refl _) PickC.pick rfl (PV.asg (v := w130) rfl rfl) ?_
                      refine RH.pv rfl (fun _ _ _ _ h => h) (Gh.le_refl _) PickC.pick rfl (PV.mvI (.inr rfl) rfl) ?_
                      refine RH.nil ?_
                      refine WP.seq ?_
                      refine WP.seq ?_
                      refine WP.region ?_
                      refine RG.pv rfl (PV.move (v := w130) rfl rfl) ?_
                      refine RG.pv rfl (PV.move (v := w46) rfl rfl) ?_
                      refine RG.callF (vs := [w130, w46]) rfl rfl En13 rfl (eqRectS_s Rs.o Rs.o ?_)
                      refine RG.pv rfl (PV.not rfl rfl) ?_
                      refine RG.pv rfl (PV.mvB (.inl rfl) rfl) ?_
                      refine RG.gs rfl rfl rfl (fun hp => (PV.mvI (.inl rfl) rfl)) ?_
                      refine RG.gs rfl rfl rfl (fun hp => (PV.mvI (.inl rfl) rfl)) ?_
                      refine RG.gs rfl rfl rfl (fun hp => (PV.neq rfl (gs_t hp) (gs_t hp))) ?_
                      refine RG.pv rfl (PV.pickO rfl rfl rfl (fun hq => gs_t (geqF hq))) ?_
                      refine RG.nil ?_
                      refine WP.cond rfl (fun h12 => ?_) (fun h12 => ?_)
                      · simp [*] at h12
                      · skip
                        refine WP.skip ?_
                        refine WP.seq ?_
                        refine WP.region ?_
                        refine RG.pv rfl (PV.mvI (.inr rfl) rfl) ?_
                        refine RG.nil ?_
                        refine WP.seq ?_
                        refine WP.region ?_
                        refine RG.pv rfl (PV.move (v := w61) rfl rfl) ?_
                        refine RG.pv rfl (PV.mvI (.inl rfl) rfl) ?_
                        refine RG.callF (vs := [w61, _]) rfl rfl En17 rfl (heldRectS_s Rs.o (by omega) (by omega) ?_)
                        refine RG.pv rfl (PV.mvI (.inr rfl) rfl) ?_
                        refine RG.nil ?_
                        refine WP.seq ?_
                        refine WP.seq ?_
                        refine WP.region ?_
                        refine RG.pv rfl (PV.mvI (.inl rfl) rfl) ?_
                        refine RG.pv rfl (PV.lss rfl rfl rfl) ?_
                        refine RG.nil ?_
                        refine WP.cond rfl (fun h13 => ?_) (fun h13 => ?_)
                        · simp at h13; omega
                        · refine WP.skip ?_
                          refine WP.seq ?_
                          refine WP.seq ?_
                          refine WP.region ?_
                          refine RG.pv rfl (PV.mvI (.inl rfl) rfl) ?_
                          refine RG.pv rfl (PV.mvI (.inl rfl) rfl) ?_
                          refine RG.pv rfl (PV.neq rfl rfl rfl) ?_
                          refine RG.nil ?_
                          refine WP.cond rfl (fun h14 => ?_) (fun h14 => ?_)
                          · simp at h14
                          · refine WP.skip ?_
                            refine WP.seq ?_
                            refine WP.region ?_
                            refine RG.pv rfl (PV.mvB (.inr rfl) rfl) ?_
                            refine RG.nil ?_
                            refine WP.ret ?_
                            exact ⟨_, _, ResV.one rfl rfl, Cv.p, k⟩
end Go.Proofs.YtpjajhjcbcfplaaGreat
namespace Go.Proofs.YtpjajhjcbcfplaaGreat
set_option linter.unusedVariables false
set_option linter.unusedSimpArgs false
open Go Go.ChangeShapes Go.WideShapes Go.ChangeAt Go.RowKit Go.Deep
set_option linter.unusedVariables false
def Gw (w : World) : Gh := ⟨wh w, w.os, w.tape, w.output, w.drawn⟩
theorem St.start (w : World) : St (Gw w) [] w := ⟨fun _ => none, trivial, Hp.le_refl _, (fun _ _ h => by cases h), fun _ => .inl rfl, rfl, rfl, rfl, Nat.le_refl _⟩
/-- behind a call that began in W, all of W's blocks are as they were -/
theorem St.below {W w' : World} {G : Gh} {L : List Ch} (l : Gh.le (Gw W) G) (h : St G L w') : Below W.heap.size W w' := by
  obtain ⟨hp, s, l1, l2, d, ok⟩ := h
  have ok' := Gh.le_ok l ok
  have up := Hp.le_trans l.1 l1
  have key : ∀ k, k < W.heap.size → w'.heap[k]? = W.heap[k]? := fun k hk => by
    have : (Gw W).f k = some W.heap[k] := by simp [Gw, wh, hk]
    have h2 := up k _ this
    simp only [wh] at h2
    rw [h2]; simp [hk]
  refine ⟨ok'.1, ok'.2.1, ok'.2.2.1, ?_, key⟩
  by_cases h0 : W.heap.size = 0
  · omega
  · have := key (W.heap.size - 1) (by omega)
    rw [Array.getElem?_eq_getElem (by omega : W.heap.size - 1 < W.heap.size)] at this
    have := (Array.getElem?_eq_some_iff.1 this).1
    omega
def Opn {ρ : Type} (P : Program) (t : TypeId) (F : FT ρ) (ok : Gh → ρ → Prop) : Prop :=
  ∀ {H : Type} {enc : TypeId × Value → H} {w : World} {fuel : Nat} {cs : List Value} {x : DataW H × List MemPlace}, DataW.trod enc P w 0 (fun _ => true) true fuel t cs = some x → ∃ a : ρ, cs = F.enc a ∧ ok (Gw w) a
def okI (_ : Gh) (n : Int) : Prop := -9223372036854775808 ≤ n ∧ n ≤ 9223372036854775807
def okL {ρ : Type} [Inhabited ρ] (F : FT ρ) (ok : Gh → ρ → Prop) (G : Gh) (v : Value) : Prop := ∃ xs : List ρ, SL G F v xs ∧ ∀ i, i < xs.length → ok G (gd xs i)
section
variable {P : Program} {t e : TypeId}
theorem opnI (ht : P.underlying t = some (.int .i64)) : Opn P t intT okI := fun h => by
  obtain ⟨n, rfl, _, hw⟩ := DataW.trod_int ht h
  refine ⟨n, rfl, ?_⟩
  have : IntKind.i64.min ≤ n ∧ n ≤ IntKind.i64.max := by simpa [Lit.wf] using hw
  simp only [show IntKind.i64.min = -9223372036854775808 from rfl, show IntKind.i64.max = 9223372036854775807 from rfl] at this
  exact this
theorem cells_get {w : World} {a : Addr} {n : Nat} {cs : List Value} (h : w.cells? 0 a n = some cs) : cs.length = n ∧ ∀ j c, cs[j]? = some c → w.cell? (a.add j) = some c := by
  obtain ⟨_, h1, h2⟩ := World.cells?_some h
  refine ⟨h1, fun j c hc => ?_⟩
  have hj := (List.getElem?_eq_some_iff.1 hc).1
  rw [h2 j (by omega), hc]
theorem opnL {ρ : Type} [Inhabited ρ] {F : FT ρ} {ok : Gh → ρ → Prop} (ht : P.underlying t = some (.slice e)) (hE : Opn P e F ok) (hc : P.cellsOf e = F.sz) (h0 : 0 < F.sz) : Opn P t rawT (okL F ok) := fun {H enc w fuel cs x} h => by
  rcases open_slice ht h with ⟨rfl, _⟩ | ⟨a, len, cap, m, n, D, Pl, rfl, _, hl, hm, hmm, _, hel⟩
  · exact ⟨_, rfl, [], ⟨⟨0, Nat.le_refl _, Nat.zero_le _, .inr ⟨⟨_, rfl⟩, rfl⟩⟩, fun j c hj => by simp [FT.flat] at hj⟩, fun i hi => by simp at hi⟩
  have hmcap : m = cap := by simpa using hmm
  refine ⟨.slice (some a) len cap, rfl, ?_⟩
  have hall : ∀ i, i < len → ∃ r : ρ, w.cells? 0 (a.add (i * F.sz)) F.sz = some (F.enc r) ∧ ok (Gw w) r := fun i hi => by
    obtain ⟨cs', h1, h2⟩ := hel i (by omega)
    obtain ⟨r, rfl, hr⟩ := hE h2
    rw [hc] at h1
    exact ⟨r, h1, hr⟩
  have : ∃ f : Nat → ρ, ∀ i, i < len → w.cells? 0 (a.add (i * F.sz)) F.sz = some (F.enc (f i)) ∧ ok (Gw w) (f i) := choose_lt hall
  obtain ⟨f, hf⟩ := this
  have hlen : ((List.range len).map f).length = len := by simp
  have hget : ∀ i, i < len → ((List.range len).map f)[i]? = some (f i) := fun i hi => by simp [hi]
  have hsp : len ≠ 0 → a.spot = none := fun hz => by
    obtain ⟨h1, _⟩ := hf 0 (by omega)
    obtain ⟨hl1, hg⟩ := cells_get h1
    cases hq : (F.enc (f 0))[0]? with
    | none => rw [List.getElem?_eq_none_iff] at hq; omega
    | some c =>
      have hcell := hg 0 c hq
      cases hs : a.spot with
      | none => rfl
      | some s =>
        exfalso
        have h3 : ((a.add (0 * F.sz)).add 0).spot.isSome = true := by simp [Addr.add, hs]
        unfold World.cell? at hcell
        split at hcell
        · rw [if_pos h3] at hcell; cases hcell
        · cases hcell
  refine ⟨(List.range len).map f, ⟨⟨cap, by simpa using hl, hm, ?_⟩, ?_⟩, fun i hi => ?_⟩
  · by_cases hz : len = 0
    · exact .inr ⟨⟨some a, by simp⟩, by simpa using hz⟩
    · refine .inl ⟨a.block, a.off, ?_⟩
      have hsp := hsp hz
      simp only [hlen]
      obtain ⟨ab, ao, az⟩ := a
      simp only at hsp
      subst hsp; rfl
  · intro j c hj
    by_cases hz : len = 0
    · subst hz; simp [FT.flat] at hj
    have hsp := hsp hz
    have hjl : j < len * F.sz := by
      have := (List.getElem?_eq_some_iff.1 hj).1
      rwa [FT.flat_len, hlen] at this
    have hq : j / F.sz < len := (Nat.div_lt_iff_lt_mul h0).2 hjl
    have hr : j % F.sz < F.sz := Nat.mod_lt _ h0
    have hjd : j / F.sz * F.sz + j % F.sz = j := by rw [Nat.mul_comm]; exact Nat.div_add_mod j F.sz
    obtain ⟨h1, _⟩ := hf (j / F.sz) hq
    obtain ⟨_, hg⟩ := cells_get h1
    have hc' : (F.enc (f (j / F.sz)))[j % F.sz]? = some ((F.enc (f (j / F.sz)))[j % F.sz]'(by rw [F.len]; exact hr)) := List.getElem?_eq_getElem _
    have hfl := F.flat_get (hget _ hq) hc'
    rw [hjd, hj] at hfl
    have hcell := hg _ _ hc'
    obtain ⟨ab, ao, az⟩ := a
    simp only at hsp
    subst hsp
    rw [add_none, add_none, cell_hc, Nat.add_assoc, hjd] at hcell
    simp only [sb, so, Gw]
    rw [hcell]; exact hfl.symm
  · have hi' : i < len := by simpa using hi
    have : gd ((List.range len).map f) i = f i := by simp [gd, hi']
    rw [this]; exact (hf i hi').2
end
def okSl {ρ : Type} [Inhabited ρ] (F : FT ρ) (ok : Gh → ρ → Prop) (G : Gh) (s : Sl ρ) : Prop := SL G F s.v s.xs ∧ ∀ i, i < s.xs.length → ok G (gd s.xs i)
theorem opnSl {P : Program} {t e : TypeId} {ρ : Type} [Inhabited ρ] {F : FT ρ} {ok : Gh → ρ → Prop} (ht : P.underlying t = some (.slice e)) (hE : Opn P e F ok) (hc : P.cellsOf e = F.sz) (h0 : 0 < F.sz) : Opn P t slT (okSl F ok) := fun h => by
  obtain ⟨v, rfl, xs, h1, h2⟩ := opnL ht hE hc h0 h
  exact ⟨⟨v, xs⟩, rfl, h1, h2⟩
section
variable {P : Program} {t e : TypeId} {H : Type} {enc : TypeId × Value → H} {W : World} {r : Reach} {base : Nat} {v : Value} {d : DataW H} {ps : List MemPlace}
theorem argSl {ρ : Type} {ok : Gh → Sl ρ → Prop} (ht : P.underlying t = some (.slice e)) (hO : Opn P t slT ok) (hv : Value.okWide P W r base t v) (h : DataW.Trod enc P W 0 (fun _ => true) true t v d ps) : ∃ s : Sl ρ, v = s.v ∧ ok (Gw W) s := by
  obtain ⟨a, n, c, rfl⟩ := okWide_slice ht hv
  obtain ⟨fuel, hf⟩ := h
  obtain ⟨m, e1, hm⟩ := hO hf
  simp [Value.cells, slT] at e1
  exact ⟨m, e1, hm⟩
theorem argT {ρ : Type} {F : FT ρ} {ok : Gh → ρ → Prop} {fs : Array Field} (ht : P.underlying t = some (.struct fs)) (hO : Opn P t F ok) (hv : Value.okWide P W r base t v) (h : DataW.Trod enc P W 0 (fun _ => true) true t v d ps) : ∃ a, v = vT F a ∧ ok (Gw W) a := by
  obtain ⟨cs, rfl, _⟩ := okWide_struct ht hv
  obtain ⟨fuel, hf⟩ := h
  obtain ⟨m, e1, hm⟩ := hO hf
  simp only [Value.cells] at e1
  exact ⟨m, by simp only [vT]; rw [← e1], hm⟩
theorem trodAll_stays (hl : laidOutB P = true) {W' : World} (hb : Below W.heap.size W W') : ∀ {ts : List TypeId} {vs : List Value} {ds : List (DataW H)} {ps : List MemPlace}, (∀ t ∈ ts, P.readableRec t = true ∧ t < P.types.size) → (∀ x ∈ ps, x.block < W.heap.size) →
    DataW.TrodAll enc P W 0 (fun _ => true) true ts vs ds ps → DataW.TrodAll enc P W' 0 (fun b => decide (b < W.heap.size)) true ts vs ds ps
  | [], [], [], _, _, _, h => h
  | t :: ts, v :: vs, d :: ds, ps, hr, hlt, h => by
    obtain ⟨p, q, h1, h2, rfl⟩ := h
    have := hr t (.head _)
    exact ⟨p, q, Below.trod hl this.1 this.2 h1 hb (fun x hx => hlt x (List.mem_append_left _ hx)), trodAll_stays hl hb (fun t ht => hr t (.tail _ ht)) (fun x hx => hlt x (List.mem_append_right _ hx)) h2, rfl⟩
end
def recsB (P : Program) (ts : List TypeId) : Bool := ts.all fun t => P.readableRec t && Nat.blt t P.types.size
theorem recs_of {P : Program} {ts : List TypeId} (h : recsB P ts = true) : ∀ t ∈ ts, P.readableRec t = true ∧ t < P.types.size := by
  intro t ht
  have := List.all_eq_true.1 h t ht
  simp only [Bool.and_eq_true] at this
  exact ⟨this.1, Nat.le_of_ble_eq_true this.2⟩
/-- A LAW, LIFTED: the call returns true, the arguments read as they did. -/
theorem law_lifted {H : Type} {enc : TypeId × Value → H} {C : Checked} {os : Os} {f : FuncId} {fn : Func} {s : ChangeSpec} {tb : TypeId} (own : ownKnob C.prog.godebug = none) (started : os.Started) (noInit : C.prog.inits.idxOf? f = none) (hfn : C.prog.funcs[f]? = some fn) (hl : laidOutB C.prog = true)
    (hvars : s.vars = []) (hr : recsB C.prog fn.params.toList = true) (hres : fn.resultTypes = #[tb]) (htb : C.prog.underlying tb = some .bool)
    (hsp : ∀ ds : List (DataW H), ds.length = fn.params.toList.length → s.fn H ds = { results := [.lit (.bool true)], args := ds })
    (witness : ∃ (w : World) (tape : Tape) (i : Input), w.os = os ∧ (w.forCall tape i).Shaped C.prog ∧ i.vars = [] ∧ Input.okWide C.prog (w.forCall tape i) .any w.heap.size f i ∧
      s.pre6 enc C.prog fn [] false (w.forCall tape i).memory i.args ∧ ({} : Assume).holds C.prog (lone (Frame.enter C.prog f i.args .normal) [] (w.forCall tape i)))
    (walk : ∀ (W : World) (base : Nat) (args : Array Value) (ds : List (DataW H)) (ps : List MemPlace), (∀ (j : Nat) t v, fn.params[j]? = some t → args[j]? = some v → Value.okWide C.prog W .any base t v) →
      DataW.TrodAll enc C.prog W 0 (fun _ => true) true fn.params.toList args.toList ds ps → CallT C.prog f args (Gw W) [] fun v G _ => v = .bool true ∧ Gh.le (Gw W) G) :
    ReturnsInHanded {} C os f .any (s.pre6 enc C.prog fn [] false) (s.post enc C.prog fn false true false false) := by
  refine returnsInHanded_of_change own started noInit hfn witness ?_
  intro W base args ds gs before hval hW _ _
  have hW' := hW
  obtain ⟨p, q, hA, hV, rfl, hfz, hnd⟩ := hW
  rw [hvars] at hV
  obtain ⟨rfl, rfl⟩ := trodVars_none hV
  refine ((walk W base args ds p hval hA).run (St.start W)).mono ?_
  rintro e W' ⟨v, G, L, rfl, hs, rfl, hG⟩
  have hb := hs.below hG
  have hlt : ∀ x ∈ p, x.block < W.heap.size := fun x hx => hW'.lt x (List.mem_append_left _ hx)
  have hlen : ds.length = fn.params.toList.length := by
    have : ∀ (ts : List TypeId) (vs : List Value) (ds : List (DataW H)) (ps : List MemPlace), DataW.TrodAll enc C.prog W 0 (fun _ => true) true ts vs ds ps → ds.length = ts.length := by
      intro ts
      induction ts with
      | nil => intro vs ds ps h; cases vs <;> cases ds <;> simp_all [DataW.TrodAll]
      | cons t ts ih =>
        intro vs ds ps h
        cases vs <;> cases ds <;> simp only [DataW.TrodAll] at h
        obtain ⟨_, _, _, h2, _⟩ := h
        simp [ih _ _ _ h2]
    exact this _ _ _ _ hA
  refine ⟨_, rfl, ds, [], _, [], p, [], hW', ?_, ?_, ?_, hb.frame _, fun h => by cases h⟩
  · rw [List.append_nil, hsp ds hlen, hres]
    exact trodAll_mk1 (shut_bool htb true)
  · rw [List.append_nil, hsp ds hlen]
    exact trodAll_stays hl hb (recs_of hr) hlt hA
  · rw [List.append_nil, hsp ds hlen, hvars]
    exact rfl
end Go.Proofs.YtpjajhjcbcfplaaGreat
