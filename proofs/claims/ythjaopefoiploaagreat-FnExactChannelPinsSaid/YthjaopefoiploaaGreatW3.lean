/-
  Contracts: the reference's side of the regions: flags row by row, transitions, canonical lists.
-/
import Derived.Test.YthjaopefoiploaaGreatW2
namespace Go.Proofs.YthjaopefoiploaaGreat
open Go
set_option maxRecDepth 20000
set_option linter.unusedSimpArgs false
variable {G : Gh} {L : List Ch} {R : Value → Gh → List Ch → Prop}
theorem l03At_s {x y : Int} (hx : -1000 ≤ x ∧ x ≤ 1000 ∧ -1000 ≤ y ∧ y ≤ 1000) (k : R (vi ((y + 40) * 80 + x + 40)) G L) : CallT Tryz.prog 146 #[vi x, vi y] G L R := by
  refine CallT.enter (args := _) Tryz.func146 rfl rfl (by kernel_rfl) rfl ?_
  refine WP.seq ?_
  refine WP.region ?_
  refine RG.pv rfl (PV.mvI (.inr rfl) rfl) ?_
  refine RG.nil ?_
  refine WP.seq ?_
  refine WP.region ?_
  refine RG.pv rfl (PV.mvI (.inl rfl) rfl) ?_
  refine RG.pv rfl (PV.add rfl rfl rfl (by omega)) ?_
  refine RG.pv rfl (PV.mul rfl rfl rfl (by omega)) ?_
  refine RG.pv rfl (PV.mvI (.inl rfl) rfl) ?_
  refine RG.pv rfl (PV.add rfl rfl rfl (by omega)) ?_
  refine RG.pv rfl (PV.add rfl rfl rfl (by omega)) ?_
  refine RG.pv rfl (PV.mvI (.inr rfl) rfl) ?_
  refine RG.nil ?_
  refine WP.ret ?_
  exact ⟨_, _, ResV.one rfl rfl, Cv.p, k⟩
def hasI (bs : List Bool) (x y : Int) : Bool := within x (-40) 39 && within y (-40) 39 && gd bs ((y + 40) * 80 + x + 40).toNat
theorem l03Has_s {v : Value} {bs : List Bool} {x y : Int} (h1 : Rs G L boolT v bs) (hl : bs.length = 6400) (k : R (.bool (hasI bs x y)) G L) : CallT Tryz.prog 198 #[v, vi x, vi y] G L R := by
  refine CallT.enter (args := _) Tryz.func198 rfl rfl (by kernel_rfl) rfl ?_
  refine WP.seq ?_
  refine WP.region ?_
  refine RG.pv rfl (PV.mvB (.inr rfl) rfl) ?_
  refine RG.nil ?_
  refine WP.seq ?_
  refine WP.region ?_
  refine RG.pv rfl (PV.mvI (.inl rfl) rfl) ?_
  refine RG.callF (vs := [_, _, _]) rfl rfl En220 rfl (l01In_s ?_)
  refine RG.pv rfl (PV.mvB (.inl rfl) rfl) ?_
  refine RG.gs rfl rfl rfl (fun hp => (PV.mvI (.inl rfl) rfl)) ?_
  refine RG.gsC rfl rfl rfl rfl En220 (fun hp => ⟨_, (acons (gs_t hp) (acons rfl (acons rfl anil))), l01In_s ⟨rfl, rfl, rfl⟩⟩) ?_
  refine RG.pv rfl (PV.pickA rfl rfl (fun hq => gs_t (geqT hq)) rfl) ?_
  refine RG.pv rfl (PV.mvB (.inl rfl) rfl) ?_
  refine RG.gs rfl rfl rfl (fun hp => (PV.move (v := v) rfl rfl)) ?_
  refine RG.gs rfl rfl rfl (fun hp => (PV.mvI (.inl rfl) rfl)) ?_
  refine RG.gs rfl rfl rfl (fun hp => (PV.mvI (.inl rfl) rfl)) ?_
  refine RG.gsC rfl rfl rfl rfl En146 (fun hp => ⟨_, (acons (gs_t hp) (acons (gs_t hp) anil)), l03At_s (by first | omega | (simp [within] at hp; omega)) ⟨rfl, rfl, rfl⟩⟩) ?_
  refine RG.gs rfl rfl rfl (fun hp => (PV.idxS (j := ((y + 40) * 80 + x + 40).toNat) (v := v) rfl Is142 (gs_t hp) (SlF.r h1) (gs_t hp) (by first | omega | (simp [within] at hp; omega)) (by first | omega | (simp [within] at hp; omega)))) ?_
  refine RG.gs rfl rfl rfl (fun hp => (PV.loadE1 rfl Sc4 (gs_t hp) rfl (El.r h1 (getG (by first | omega | (simp [within] at hp; omega)))) rfl)) ?_
  refine RG.pv rfl (PV.pickA rfl rfl (fun hq => gs_t (geqT hq)) rfl) ?_
  refine RG.pv rfl (PV.mvB (.inr rfl) rfl) ?_
  refine RG.nil ?_
  refine WP.ret ?_
  exact ⟨_, _, ResV.one rfl rfl, Cv.p, k⟩
theorem hasI_has {bs : List Bool} {x y : Int} (hy : -40 ≤ y ∧ y ≤ 39) (hx : -40 ≤ x) : hasI bs x y = has (gb bs (y + 40).toNat) (x + 40).toNat := by
  have e : ((y + 40) * 80 + x + 40).toNat = (y + 40).toNat * 80 + (x + 40).toNat := by omega
  simp only [hasI, within, has, gb, e]
  congr 1
  rw [Bool.eq_iff_iff]; simp; omega
theorem hasI_prev {bs : List Bool} {x y : Int} (hy : -40 ≤ y ∧ y ≤ 39) (hx : -40 ≤ x) : hasI bs (x - 1) y = prev (gb bs (y + 40).toNat) (x + 40).toNat := by
  by_cases h : x = -40
  · subst h; simp [hasI, within, prev]
  · rw [hasI_has hy (by omega), prev]
    have e : (x - 1 + 40).toNat = (x + 40).toNat - 1 := by omega
    have e2 : decide (0 < (x + 40).toNat) = true := by simp; omega
    rw [e, e2, Bool.true_and]
def toI (n : Nat) : Int := (n : Int) - 40
def runsI (bs : List Bool) (y : Int) : List Int := (trans (gb bs (y + 40).toNat)).map toI
theorem trans_len (r : Nat → Bool) : (trans r).length ≤ 81 := by
  have := List.length_filter_le (tr r) (List.range 81); simpa [trans] using this
theorem runsI_len (bs : List Bool) (y : Int) : (runsI bs y).length ≤ 81 := by
  have := trans_len (gb bs (y + 40).toNat); simpa [runsI] using this
theorem filter_len (p : Nat → Bool) (n : Nat) : ((List.range n).filter p).length ≤ n := by
  have := List.length_filter_le p (List.range n); simpa using this
theorem l03Runs_s {v : Value} {bs : List Bool} {y : Int} (h1 : Rs G L boolT v bs) (hl : bs.length = 6400) (hy : -40 ≤ y ∧ y ≤ 39) (k : ∀ v', R v' G (osl 2 intT v' (runsI bs y) :: L)) : CallT Tryz.prog 157 #[v, vi y] G L R := by
  refine CallT.enter (args := _) Tryz.func157 rfl rfl (by kernel_rfl) rfl ?_
  refine WP.seq ?_
  refine WP.region ?_
  refine RG.pv rfl (PV.asg rfl rfl) ?_
  refine RG.nil ?_
  refine WP.seq ?_
  refine WP.region ?_
  refine RG.ot rfl (OT.bslice (F := intT) (els := []) rfl El35 rfl (by decide) rfl (by decide) trivial fun v7 => ?_)
  refine RG.pv rfl (PV.asg (v := v7) rfl rfl) ?_
  refine RG.nil ?_
  refine WP.seq ?_
  refine WP.seq ?_
  refine WP.region ?_
  refine RG.pv rfl (PV.mvI (.inr rfl) rfl) ?_
  refine RG.nil ?_
  refine WP.block ?_
  refine WP.loop3 [0, 1] (fun (x : Int) (out : List Int) (v' : Value) => -40 ≤ x ∧ x ≤ 41 ∧ out = ((List.range (x + 40).toNat).filter (tr (gb bs (y + 40).toNat))).map toI ∧ out.length ≤ 81) (fun (x : Int) (out : List Int) (v' : Value) => [(6, vi x), (5, v')]) (fun (x : Int) (out : List Int) (v' : Value) => osl 2 intT v' out :: L) (fun (x : Int) (out : List Int) (v' : Value) => (41 - x).toNat) (-40) [] v7 ⟨by omega, by omega, by simp, by simp⟩ ⟨rfl, rfl, trivial⟩ Cv.p ?_
  rintro x out v' τ ⟨hx0, hx1, ho, hlen⟩
  refine WP.seq ?_
  refine WP.seq ?_
  refine WP.region ?_
  refine RG.pv rfl (PV.mvI (.inl rfl) rfl) ?_
  refine RG.pv rfl (PV.leq rfl rfl rfl) ?_
  refine RG.nil ?_
  refine WP.cond rfl (fun h2 => ?_) (fun h2 => ?_)
  · have h2 := of_decide_eq_true h2
    have e0 : (x + 1 + 40).toNat = (x + 40).toNat + 1 := by omega
    have e1 := hasI_has (bs := bs) (x := x) hy hx0
    have e2 := hasI_prev (bs := bs) (x := x) hy hx0
    have hlen' : out.length ≤ 80 := by
      have := filter_len (tr (gb bs (y + 40).toNat)) (x + 40).toNat
      rw [ho, List.length_map]; omega
    refine WP.skip ?_
    refine WP.seq ?_
    refine WP.block ?_
    refine WP.seq ?_
    refine WP.region ?_
    refine RG.pv rfl (PV.move (v := v) rfl rfl) ?_
    refine RG.pv rfl (PV.mvI (.inl rfl) rfl) ?_
    refine RG.pv rfl (PV.mvI (.inl rfl) rfl) ?_
    refine RG.callF (vs := [v, _, _]) rfl rfl En198 rfl (l03Has_s (Rs.up h1) hl ?_)
    refine RG.pv rfl (PV.move (v := v) rfl rfl) ?_
    refine RG.pv rfl (PV.mvI (.inl rfl) rfl) ?_
    refine RG.pv rfl (PV.sub rfl rfl rfl (by omega)) ?_
    refine RG.pv rfl (PV.mvI (.inl rfl) rfl) ?_
    refine RG.callF (vs := [v, _, _]) rfl rfl En198 rfl (l03Has_s (Rs.up h1) hl ?_)
    refine RG.pv rfl (PV.neqB rfl Tryz.underlying4 rfl rfl) ?_
    refine RG.nil ?_
    refine WP.cond rfl (fun h3 => ?_) (fun h3 => ?_)
    · have h4 : tr (gb bs (y + 40).toNat) (x + 40).toNat = true := by rw [tr, ← e1, ← e2]; exact h3
      refine WP.region ?_
      refine RG.pv rfl (PV.move (v := v') rfl rfl) ?_
      refine RG.pv rfl (PV.mvI (.inl rfl) rfl) ?_
      refine RG.ot rfl (OT.bslice (F := intT) (els := [_]) rfl El35 rfl (by decide) rfl (by decide) ⟨rfl, (Cl.c rfl), trivial⟩ fun v24 => ?_)
      refine RG.ot rfl (OT.append (v := v') (u := v24) (F := intT) rfl El35 rfl (by decide) rfl rfl Rs.o (OneL.c (fun _ => rfl)) rfl (by first | omega | (simp <;> omega)) fun v25 => ?_)
      refine RG.pv rfl (PV.asg (v := v25) rfl rfl) ?_
      refine RG.nil ?_
      refine WP.region ?_
      refine RG.pv rfl (PV.mvI (.inl rfl) rfl) ?_
      refine RG.pv rfl (PV.add rfl rfl rfl (by omega)) ?_
      refine RG.pv rfl (PV.mvI (.inr rfl) rfl) ?_
      refine RG.nil ?_
      refine ⟨rfl, x + 1, (out ++ [x]), v25, ⟨by omega, by omega, ?_, by simp; omega⟩, ⟨rfl, rfl, trivial⟩, ⟨rfl, rfl, trivial⟩, Cv.p, by omega⟩
      rw [e0, List.range_succ, List.filter_append, List.map_append, ← ho]
      have : toI (x + 40).toNat = x := by simp only [toI]; omega
      simp [h4, this]
    · have h4 : tr (gb bs (y + 40).toNat) (x + 40).toNat = false := by rw [tr, ← e1, ← e2]; exact h3
      refine WP.skip ?_
      refine WP.region ?_
      refine RG.pv rfl (PV.mvI (.inl rfl) rfl) ?_
      refine RG.pv rfl (PV.add rfl rfl rfl (by omega)) ?_
      refine RG.pv rfl (PV.mvI (.inr rfl) rfl) ?_
      refine RG.nil ?_
      refine ⟨rfl, x + 1, out, v', ⟨by omega, by omega, ?_, by omega⟩, ⟨rfl, rfl, trivial⟩, ⟨rfl, rfl, trivial⟩, Cv.p, by omega⟩
      rw [e0, List.range_succ, List.filter_append, List.map_append, ← ho]
      simp [h4]
  · have h2 := of_decide_eq_false h2
    have e : out = runsI bs y := by
      rw [ho, runsI, trans]
      have : (x + 40).toNat = 81 := by omega
      rw [this]
    rw [e]
    refine WP.exit ?_
    refine WP.seq ?_
    refine WP.region ?_
    refine RG.pv rfl (PV.move (v := v') rfl rfl) ?_
    refine RG.pv rfl (PV.asg (v := v') rfl rfl) ?_
    refine RG.nil ?_
    refine WP.ret ?_
    exact ⟨_, _, ResV.one rfl rfl, Cv.p, k v'⟩
end Go.Proofs.YthjaopefoiploaaGreat
