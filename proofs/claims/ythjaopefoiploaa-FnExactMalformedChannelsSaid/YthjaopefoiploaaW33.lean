/-
  Contracts: the rectangles of channels, malformed parts; the law of the areas of channels.
-/
import Derived.Test.YthjaopefoiploaaW29
import Derived.Test.YthjaopefoiploaaW32
import Derived.Test.YthjaopefoiploaaChan2
namespace Go.Proofs.Ythjaopefoiploaa
open Go
set_option maxRecDepth 20000
set_option linter.unusedSimpArgs false
variable {G : Gh} {L : List Ch} {R : Value → Gh → List Ch → Prop}
noncomputable def boxesE (l : List (List Rect)) : List Rect := bif isLay l then (chans l).map Chan.box else []
noncomputable def malfE (l : List (List Rect)) : List Rect := bif isLay l then canon (bits (malf l).flatten) else []
theorem channels_i {v : Value} {xs : List (Sl Rect)} (h1 : Rs G L slT v xs) (hd : RsE G L rectT xs) (k : ∀ v', R v' G (osl 59 rectT v' (boxesE (er xs)) :: L)) : CallT Try.prog 10 #[v] G L R := by
  refine CallT.enter (args := _) Try.func10 rfl rfl (by kernel_rfl) rfl ?_
  refine WP.seq ?_
  refine WP.region ?_
  refine RG.pv rfl (PV.asg rfl rfl) ?_
  refine RG.nil ?_
  refine WP.seq ?_
  refine WP.seq ?_
  refine WP.region ?_
  refine RG.pv rfl (PV.move (v := v) rfl rfl) ?_
  refine RG.callF (vs := [v]) rfl rfl En35 rfl (isLayout_s (Rs.up h1) hd.up ?_)
  refine RG.pv rfl (PV.not rfl rfl) ?_
  refine RG.nil ?_
  refine WP.cond rfl (fun h2 => ?_) (fun h2 => ?_)
  · have h3 : isLay (er xs) = false := by simpa using h2
    have e : boxesE (er xs) = [] := by rw [boxesE, h3]; rfl
    rw [e] at k
    refine WP.seq ?_
    refine WP.region ?_
    refine RG.pv rfl (PV.asg rfl rfl) ?_
    refine RG.nil ?_
    refine WP.ret ?_
    exact ⟨_, _, ResV.one rfl rfl, Cv.nilP, k _⟩
  · have hlay : isLay (er xs) = true := by simpa using h2
    have e : boxesE (er xs) = (chans (er xs)).map Chan.box := by rw [boxesE, hlay]; rfl
    rw [e] at k
    refine WP.skip ?_
    refine WP.seq ?_
    refine WP.region ?_
    refine RG.pv rfl (PV.move (v := v) rfl rfl) ?_
    refine RG.callF (vs := [v]) rfl rfl En36 rfl (channelsOf_s (Rs.up h1) hd.up hlay (fun v13 u13 cs13 zs13 hc13 hz13 => ?_))
    refine RG.pv rfl (PV.move (v := .tuple _) rfl rfl) ?_
    refine RG.pv rfl (PV.ext (v := v13) rfl rfl rfl) ?_
    refine RG.pv rfl (PV.ext (v := u13) rfl rfl rfl) ?_
    refine RG.pv rfl (PV.asg (v := v13) rfl rfl) ?_
    refine RG.pv rfl (PV.asg (v := u13) rfl rfl) ?_
    refine RG.nil ?_
    refine WP.seq ?_
    refine WP.region ?_
    refine RG.ot rfl (OT.bslice (F := rectT) (els := []) rfl El24 rfl (by decide) rfl (by decide) trivial fun v16 => ?_)
    refine RG.pv rfl (PV.asg (v := v16) rfl rfl) ?_
    refine RG.nil ?_
    refine WP.seq ?_
    refine WP.seq ?_
    refine WP.region ?_
    refine RG.pv rfl (PV.move (v := v13) rfl rfl) ?_
    refine RG.pv rfl (PV.len (v := v13) rfl Try.underlying61 rfl SlF.o) ?_
    refine RG.pv rfl (PV.mvI (.inl rfl) rfl) ?_
    refine RG.nil ?_
    refine WP.block ?_
    subst hc13
    have hcl := chans_len (er xs)
    refine WP.loop3 [17, 18] (fun (i : Nat) (us : List Rect) (q : Value) => i ≤ (chans (er xs)).length ∧ us = ((chans (er xs)).take i).map Chan.box) (fun (i : Nat) (us : List Rect) (q : Value) => [(19, vi i), (5, q)]) (fun (i : Nat) (us : List Rect) (q : Value) => osl 59 rectT q us :: osl 65 chanT v13 (chans (er xs)) :: L) (fun (i : Nat) (us : List Rect) (q : Value) => (chans (er xs)).length - i) 0 [] v16 ⟨by omega, rfl⟩ ⟨rfl, rfl, trivial⟩ Cv.p ?_
    rintro i us q τ ⟨hi, hus⟩
    refine WP.seq ?_
    refine WP.region ?_
    refine RG.pv rfl (PV.lss rfl rfl rfl) ?_
    refine RG.nil ?_
    refine WP.seq ?_
    have hbl : us.length ≤ 6400 := by rw [hus, List.length_map, List.length_take]; omega
    refine WP.cond rfl (fun h4 => ?_) (fun h4 => ?_)
    · have h4 := of_decide_eq_true h4
      have htk : ((chans (er xs)).take (i + 1)).map Chan.box = ((chans (er xs)).take i).map Chan.box ++ [(gd (chans (er xs)) i).box] := by rw [List.take_add_one, getG (by omega), List.map_append]; rfl
      refine WP.skip ?_
      refine WP.seq ?_
      refine WP.block ?_
      refine WP.seq ?_
      refine WP.region ?_
      refine RG.pv rfl (PV.idxS (v := v13) rfl Is61 rfl SlF.o rfl rfl (by omega)) ?_
      refine RG.pv rfl (PV.loadE rfl Ag65 rfl rfl (El.o (getG (by omega)))) ?_
      refine RG.ot rfl (OT.alloc rfl Zr65 fun b7 => ?_)
      refine RG.ot rfl (OT.storeW (vs := [vi _, vi _, vi _, vi _, vi _, .bool _]) rfl Sz65 rfl rfl (Cl.c rfl) rfl rfl (OneC.c rfl) ?_)
      refine RG.nil ?_
      refine WP.region ?_
      refine RG.pv rfl (PV.move (v := q) rfl rfl) ?_
      refine RG.pv rfl (PV.field rfl Fo65_0 rfl) ?_
      refine RG.pv rfl (PV.loadB (vs := [_, _, _, _]) rfl Ag59 rfl rfl rfl) ?_
      refine RG.ot rfl (OT.bslice (F := rectT) (els := [_]) rfl El24 rfl (by decide) rfl (by decide) ⟨rfl, (Cl.c rfl), trivial⟩ fun v26 => ?_)
      refine RG.ot rfl (OT.append (v := q) (u := v26) (F := rectT) rfl El24 rfl (by decide) rfl rfl Rs.o (OneL.c (fun _ => rfl)) rfl (by first | omega | (simp <;> omega)) fun v27 => ?_)
      refine RG.pv rfl (PV.asg (v := v27) rfl rfl) ?_
      refine RG.nil ?_
      refine WP.region ?_
      refine RG.pv rfl (PV.add rfl rfl rfl (by omega)) ?_
      refine RG.pv rfl (PV.mvI (.inl rfl) rfl) ?_
      refine RG.nil ?_
      exact ⟨rfl, i + 1, (us ++ [(gd (chans (er xs)) i).box]), v27, ⟨by omega, by rw [hus, htk]⟩, ⟨rfl, rfl, trivial⟩, ⟨rfl, rfl, trivial⟩, Cv.p, by omega⟩
    · have h4 := of_decide_eq_false h4
      obtain rfl : i = (chans (er xs)).length := by omega
      rw [List.take_of_length_le (Nat.le_refl _)] at hus
      refine WP.exit ?_
      refine WP.seq ?_
      refine WP.region ?_
      refine RG.pv rfl (PV.move (v := q) rfl rfl) ?_
      refine RG.pv rfl (PV.asg (v := q) rfl rfl) ?_
      refine RG.nil ?_
      refine WP.ret ?_
      rw [← hus] at k
      exact ⟨_, _, ResV.one rfl rfl, Cv.p, k q⟩
theorem malf_i {v : Value} {xs : List (Sl Rect)} (h1 : Rs G L slT v xs) (hd : RsE G L rectT xs) (k : ∀ v', R v' G (osl 59 rectT v' (malfE (er xs)) :: L)) : CallT Try.prog 17 #[v] G L R := by
  refine CallT.enter (args := _) Try.func17 rfl rfl (by kernel_rfl) rfl ?_
  refine WP.seq ?_
  refine WP.region ?_
  refine RG.pv rfl (PV.asg rfl rfl) ?_
  refine RG.nil ?_
  refine WP.seq ?_
  refine WP.seq ?_
  refine WP.region ?_
  refine RG.pv rfl (PV.move (v := v) rfl rfl) ?_
  refine RG.callF (vs := [v]) rfl rfl En35 rfl (isLayout_s (Rs.up h1) hd.up ?_)
  refine RG.pv rfl (PV.not rfl rfl) ?_
  refine RG.nil ?_
  refine WP.cond rfl (fun h2 => ?_) (fun h2 => ?_)
  · have h3 : isLay (er xs) = false := by simpa using h2
    have e : malfE (er xs) = [] := by rw [malfE, h3]; rfl
    rw [e] at k
    refine WP.seq ?_
    refine WP.region ?_
    refine RG.pv rfl (PV.asg rfl rfl) ?_
    refine RG.nil ?_
    refine WP.ret ?_
    exact ⟨_, _, ResV.one rfl rfl, Cv.nilP, k _⟩
  · have hlay : isLay (er xs) = true := by simpa using h2
    have e : malfE (er xs) = canon (bits (malf (er xs)).flatten) := by rw [malfE, hlay]; rfl
    rw [e] at k
    refine WP.skip ?_
    refine WP.seq ?_
    refine WP.region ?_
    refine RG.pv rfl (PV.move (v := v) rfl rfl) ?_
    refine RG.callF (vs := [v]) rfl rfl En36 rfl (channelsOf_s (Rs.up h1) hd.up hlay (fun v10 u10 cs10 zs10 hc10 hz10 => ?_))
    refine RG.pv rfl (PV.move (v := .tuple _) rfl rfl) ?_
    refine RG.pv rfl (PV.ext (v := v10) rfl rfl rfl) ?_
    refine RG.pv rfl (PV.ext (v := u10) rfl rfl rfl) ?_
    refine RG.pv rfl (PV.asg (v := v10) rfl rfl) ?_
    refine RG.pv rfl (PV.asg (v := u10) rfl rfl) ?_
    refine RG.nil ?_
    refine WP.seq ?_
    refine WP.region ?_
    refine RG.pv rfl (PV.move (v := u10) rfl rfl) ?_
    refine RG.callF (vs := [u10]) rfl rfl En41 rfl (unionAll_s Rs.o RsE.o (fun v14 => ?_))
    refine RG.pv rfl (PV.asg (v := v14) rfl rfl) ?_
    refine RG.nil ?_
    refine WP.ret ?_
    rw [← hz10] at k
    exact ⟨_, _, ResV.one rfl rfl, Cv.p, k v14⟩
/-! ## the law -/
theorem drawn_hd {e e' : TypeId} {v0 : Value} {xs ys : List (Sl Rect)} (h : ∀ s ∈ xs, s ∈ ys) : RsE G [osl e' slT v0 ys, bagS e rectT ys] rectT xs := fun _ hi => Rs.memB (h _ (gd_mem hi))
theorem areaE_cn {bs : List Bool} (h : bs.length = 6400) : areaE (canon bs) = cnt bs := by
  rw [areaE, isReg_canon h, bits_canon h]; rfl
/-- what is told of a rectangle of a channel -/
theorem box_facts {l : List (List Rect)} (hl : isLay l = true) {box : Rect} (h : box ∈ (chans l).map Chan.box) : (sizeE l box).1 * (sizeE l box).2 = areaR box ∧ 1 ≤ (sizeE l box).1 ∧ (sizeE l box).1 ≤ 80 ∧ 1 ≤ (sizeE l box).2 ∧ (sizeE l box).2 ≤ 80 ∧ 0 ≤ kindE l box := by
  obtain ⟨c0, hc0, hb0⟩ := List.mem_map.1 h
  have hs : ∃ c, chanE l box = some c := by
    rw [chanE, hl, cond_true, chanW]
    cases hf : (chans l).find? (fun c => decide (c.box = box)) with
    | some c => exact ⟨c, rfl⟩
    | none =>
      exfalso
      rw [List.find?_eq_none] at hf
      exact hf c0 hc0 (by simp [hb0])
  obtain ⟨c, hc⟩ := hs
  obtain ⟨h1, h2, h3, h4⟩ := chanE_valid hc
  rw [sizeE_eq, kindE_eq, hc]
  have hv := validR_iff.1 h1
  rw [← h3]
  simp only [sizeC, areaR]
  cases c.hor
  · exact ⟨rfl, by simp only [cond_false]; omega, by simp only [cond_false]; omega, by simp only [cond_false]; omega, by simp only [cond_false]; omega, h2⟩
  · exact ⟨Int.mul_comm _ _, by simp only [cond_true]; omega, by simp only [cond_true]; omega, by simp only [cond_true]; omega, by simp only [cond_true]; omega, h2⟩
theorem chan_kinds (l : List (List Rect)) : cntP (fun c : Chan => decide (c.kind = 0)) (chans l) + cntP (fun c : Chan => decide (c.kind = 1)) (chans l) = ((chans l).length : Int) := by
  have : ∀ cs : List Chan, (∀ c ∈ cs, 0 ≤ c.kind ∧ c.kind ≤ 1) → cntP (fun c : Chan => decide (c.kind = 0)) cs + cntP (fun c : Chan => decide (c.kind = 1)) cs = (cs.length : Int) := fun cs => by
    induction cs with
    | nil => intro _; rfl
    | cons c cs ih =>
      intro h
      have h1 := h c (.head _)
      have h2 := ih fun d hd => h d (.tail _ hd)
      simp only [cntP, List.filter_cons, List.length_cons] at *
      rcases (by omega : c.kind = 0 ∨ c.kind = 1) with e | e <;> simp [e] <;> omega
  refine this _ fun c hc => ?_
  obtain ⟨g, hg, hi, rfl⟩ := chans_mem hc
  have := chK_bd l g
  exact ⟨of_decide_eq_true hi, this.2⟩
end Go.Proofs.Ythjaopefoiploaa
