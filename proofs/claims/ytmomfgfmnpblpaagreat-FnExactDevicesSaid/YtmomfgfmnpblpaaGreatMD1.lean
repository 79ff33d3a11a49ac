/-
  The law FnExactDevices: whatever the layout, the law returns true and the layout reads as before.
-/
import Derived.Test.YtmomfgfmnpblpaaGreatCA5
import Derived.Test.YtmomfgfmnpblpaaGreatRows
namespace Go.Proofs.YtmomfgfmnpblpaaGreat
set_option linter.unusedVariables false
set_option linter.unusedSimpArgs false
open Go
set_option maxRecDepth 20000
set_option linter.unusedSimpArgs false
variable {G : Gh} {L : List Ch} {R : Value → Gh → List Ch → Prop}
def erD (d : Dev) : Int × List Int × Int × Int := (d.kind, d.pins.xs, d.width, d.length)
def pinsOf (ds : List Dev) : List (Sl Int) := ds.map Dev.pins
noncomputable def devOf (l : List (List Rect)) (c : Chan) : Int × List Int × Int × Int := (c.kind, pinsL l c.box (!c.hor), (sizeC c).1, (sizeC c).2)
noncomputable def devC (l : List (List Rect)) : Int := if netE l = 0 then (if 0 < (malf l).length then 6 else if 24 < (chans l).length then 3 else 0) else netE l
noncomputable def devR (l : List (List Rect)) : List (Int × List Int × Int × Int) := if devC l = 0 then (chans l).map (devOf l) else []
theorem devices_i {v : Value} {xs : List (Sl Rect)} (h1 : Rs G L slT v xs) (hd : RsE G L rectT xs) (k : ∀ v' ds, ds.map erD = devR (er xs) → R (.tuple #[v', vi (devC (er xs))]) G (osl 64 devT v' ds :: bagS 2 intT (pinsOf ds) :: L)) : CallT Tryz.prog 28 #[v] G L R := by
  refine CallT.enter (args := _) Tryz.func28 rfl rfl (by kernel_rfl) rfl ?_
  refine WP.seq ?_
  refine WP.region ?_
  refine RG.pv rfl (PV.asg rfl rfl) ?_
  refine RG.pv rfl (PV.mvI (.inr rfl) rfl) ?_
  refine RG.nil ?_
  refine WP.seq ?_
  refine WP.region ?_
  refine RG.pv rfl (PV.move (v := v) rfl rfl) ?_
  refine RG.callF (vs := [v]) rfl rfl En55 rfl (nets_i (Rs.up h1) hd.up (fun w15 zsw15 hew15 => ?_))
  refine RG.pv rfl (PV.move (v := .tuple _) rfl rfl) ?_
  refine RG.pv rfl (PV.ext (v := w15) rfl rfl rfl) ?_
  refine RG.pv rfl (PV.ext rfl rfl rfl) ?_
  refine RG.pv rfl (PV.asg (v := w15) rfl rfl) ?_
  refine RG.pv rfl (PV.mvI (.inr rfl) rfl) ?_
  refine RG.nil ?_
  refine WP.seq ?_
  refine WP.seq ?_
  refine WP.region ?_
  refine RG.pv rfl (PV.mvI (.inl rfl) rfl) ?_
  refine RG.pv rfl (PV.neq rfl rfl rfl) ?_
  refine RG.nil ?_
  refine WP.cond rfl (fun h2 => ?_) (fun h2 => ?_)
  · have h3 : netE (er xs) ≠ 0 := by simpa using h2
    have e1 : devC (er xs) = netE (er xs) := by rw [devC, if_neg h3]
    have e2 : devR (er xs) = [] := by rw [devR, e1, if_neg h3]
    rw [e1, e2] at k
    refine WP.seq ?_
    refine WP.region ?_
    refine RG.pv rfl (PV.mvI (.inl rfl) rfl) ?_
    refine RG.pv rfl (PV.asg rfl rfl) ?_
    refine RG.pv rfl (PV.mvI (.inr rfl) rfl) ?_
    refine RG.nil ?_
    refine WP.ret ?_
    exact ⟨_, _, ResV.two rfl rfl rfl, ((Cv.p (C := L)).trans (Cv.nilS.trans (Cv.cons (Cv.bag0 (e := 2) (F := intT) (xs := pinsOf []) rfl)))), k _ [] rfl⟩
  · have h3 : netE (er xs) = 0 := by simpa using h2
    have hlay := (netE_ok h3).1
    have he : (er (nps zsw15)).map erPs = netL (er xs) := by rw [hew15, netR, if_pos h3]
    refine WP.skip ?_
    refine WP.seq ?_
    refine WP.region ?_
    refine RG.pv rfl (PV.move (v := v) rfl rfl) ?_
    refine RG.callF (vs := [v]) rfl rfl En69 rfl (channelsOf_s (Rs.up h1) hd.up hlay (fun v23 u23 cs23 zs23 hc23 hz23 => ?_))
    refine RG.pv rfl (PV.move (v := .tuple _) rfl rfl) ?_
    refine RG.pv rfl (PV.ext (v := v23) rfl rfl rfl) ?_
    refine RG.pv rfl (PV.ext (v := u23) rfl rfl rfl) ?_
    refine RG.pv rfl (PV.asg (v := v23) rfl rfl) ?_
    refine RG.pv rfl (PV.asg (v := u23) rfl rfl) ?_
    refine RG.nil ?_
    refine WP.seq ?_
    refine WP.block ?_
    refine WP.seq ?_
    refine WP.region ?_
    refine RG.pv rfl (PV.move (v := u23) rfl rfl) ?_
    refine RG.pv rfl (PV.len (v := u23) rfl Tryz.underlying29 rfl SlF.o) ?_
    refine RG.pv rfl (PV.gtr rfl rfl rfl) ?_
    refine RG.pv rfl (PV.mvB (.inr rfl) rfl) ?_
    refine RG.nil ?_
    subst hc23
    have hzl : zs23.length = (malf (er xs)).length := by rw [← hz23, er_len]
    refine WP.cond rfl (fun h4 => ?_) (fun h4 => ?_)
    · have h4 := of_decide_eq_true h4
      have e1 : devC (er xs) = 6 := by rw [devC, if_pos h3, if_pos (by omega)]
      have e2 : devR (er xs) = [] := by rw [devR, e1, if_neg (by omega)]
      rw [e1, e2] at k
      refine WP.seq ?_
      refine WP.region ?_
      refine RG.pv rfl (PV.asg rfl rfl) ?_
      refine RG.pv rfl (PV.mvI (.inr rfl) rfl) ?_
      refine RG.nil ?_
      refine WP.ret ?_
      exact ⟨_, _, ResV.two rfl rfl rfl, ((Cv.p (C := L)).trans (Cv.nilS.trans (Cv.cons (Cv.bag0 (e := 2) (F := intT) (xs := pinsOf []) rfl)))), k _ [] rfl⟩
    · have h4 := of_decide_eq_false h4
      refine WP.seq ?_
      refine WP.region ?_
      refine RG.pv rfl (PV.move (v := v23) rfl rfl) ?_
      refine RG.pv rfl (PV.len (v := v23) rfl Tryz.underlying106 rfl SlF.o) ?_
      refine RG.pv rfl (PV.gtr rfl rfl rfl) ?_
      refine RG.pv rfl (PV.mvB (.inr rfl) rfl) ?_
      refine RG.nil ?_
      refine WP.cond rfl (fun h5 => ?_) (fun h5 => ?_)
      · have h5 := of_decide_eq_true h5
        have e1 : devC (er xs) = 3 := by rw [devC, if_pos h3, if_neg (by omega), if_pos (by omega)]
        have e2 : devR (er xs) = [] := by rw [devR, e1, if_neg (by omega)]
        rw [e1, e2] at k
        refine WP.seq ?_
        refine WP.region ?_
        refine RG.pv rfl (PV.asg rfl rfl) ?_
        refine RG.pv rfl (PV.mvI (.inr rfl) rfl) ?_
        refine RG.nil ?_
        refine WP.ret ?_
        exact ⟨_, _, ResV.two rfl rfl rfl, ((Cv.p (C := L)).trans (Cv.nilS.trans (Cv.cons (Cv.bag0 (e := 2) (F := intT) (xs := pinsOf []) rfl)))), k _ [] rfl⟩
      · have h5 := of_decide_eq_false h5
        have e1 : devC (er xs) = 0 := by rw [devC, if_pos h3, if_neg (by omega), if_neg (by omega)]
        have e2 : devR (er xs) = (chans (er xs)).map (devOf (er xs)) := by rw [devR, if_pos e1]
        rw [e1, e2] at k
        refine WP.skip ?_
        refine WP.seq ?_
        refine WP.region ?_
        refine RG.ot rfl (OT.bslice (F := devT) (els := []) rfl El53 rfl (by decide) rfl (by decide) trivial fun v34 => ?_)
        refine RG.pv rfl (PV.asg (v := v34) rfl rfl) ?_
        refine RG.nil ?_
        refine WP.seq ?_
        refine WP.seq ?_
        refine WP.region ?_
        refine RG.pv rfl (PV.move (v := v23) rfl rfl) ?_
        refine RG.pv rfl (PV.len (v := v23) rfl Tryz.underlying106 rfl SlF.o) ?_
        refine RG.pv rfl (PV.mvI (.inl rfl) rfl) ?_
        refine RG.nil ?_
        refine WP.block ?_
        refine WP.cv ((Cv.p (C := osl 64 devT v34 ([] : List Dev) :: osl 110 chanT v23 (chans (er xs)) :: osl 140 netT w15 zsw15 :: bagS 143 pieceT (nps zsw15) :: bagS 61 rectT (regs (er (nps zsw15)).flatten) :: L)).trans (Cv.cons (Cv.bag0 (e := 2) (F := intT) (xs := pinsOf []) rfl))) ?_
        refine WP.loop3 [4, 35, 36] (fun (i : Nat) (ds : List Dev) (q : Value) => i ≤ (chans (er xs)).length ∧ ds.map erD = ((chans (er xs)).take i).map (devOf (er xs))) (fun (i : Nat) (ds : List Dev) (q : Value) => [(37, vi i), (8, q)]) (fun (i : Nat) (ds : List Dev) (q : Value) => osl 64 devT q ds :: bagS 2 intT (pinsOf ds) :: osl 110 chanT v23 (chans (er xs)) :: osl 140 netT w15 zsw15 :: bagS 143 pieceT (nps zsw15) :: bagS 61 rectT (regs (er (nps zsw15)).flatten) :: L) (fun (i : Nat) (ds : List Dev) (q : Value) => (chans (er xs)).length - i) 0 [] v34 ⟨by omega, rfl⟩ ⟨rfl, rfl, trivial⟩ Cv.p ?_
        rintro i ds q τ ⟨hi, hds⟩
        refine WP.seq ?_
        refine WP.region ?_
        refine RG.pv rfl (PV.lss rfl rfl rfl) ?_
        refine RG.nil ?_
        refine WP.seq ?_
        have hdl : ds.length = i := by have := congrArg List.length hds; simp at this; omega
        refine WP.cond rfl (fun h6 => ?_) (fun h6 => ?_)
        · have h6 := of_decide_eq_true h6
          have hcv := (chan_valid (l := er xs) (c := gd (chans (er xs)) i) (gd_mem (by omega))).1
          refine WP.skip ?_
          refine WP.seq ?_
          refine WP.block ?_
          refine WP.seq ?_
          refine WP.region ?_
          refine RG.pv rfl (PV.idxS (v := v23) rfl Is106 rfl SlF.o rfl rfl (by omega)) ?_
          refine RG.pv rfl (PV.loadE rfl Ag110 rfl rfl (El.o (getG (by omega)))) ?_
          refine RG.ot rfl (OT.alloc rfl Zr110 fun b10 => ?_)
          refine RG.ot rfl (OT.storeW (vs := [vi _, vi _, vi _, vi _, vi _, .bool _]) rfl Sz110 rfl rfl (Cl.c rfl) rfl rfl (OneC.c rfl) ?_)
          refine RG.nil ?_
          refine WP.seq ?_
          refine WP.region ?_
          refine RG.pv rfl (PV.loadW rfl Ag110 rfl rfl) ?_
          refine RG.callF (vs := [_]) rfl rfl En70 rfl (chanSize_s hcv ?_)
          refine RG.pv rfl (PV.move rfl rfl) ?_
          refine RG.pv rfl (PV.ext rfl rfl rfl) ?_
          refine RG.pv rfl (PV.ext rfl rfl rfl) ?_
          refine RG.pv rfl (PV.mvI (.inr rfl) rfl) ?_
          refine RG.pv rfl (PV.mvI (.inr rfl) rfl) ?_
          refine RG.nil ?_
          refine WP.regionHD [.s q] (.q 0 (.q 1 (.q 2 (.q 3 (.q 4 (.q 6 (.q 7 (.l 5 (.q 8 (.l 9 (.l 10 (.q 11 Sch.nil)))))))))))) (by kernel_rfl) (by kernel_rfl) (by kernel_rfl) rfl ?_
          refine RH.pv rfl (fun _ _ _ _ h => h) (Gh.le_refl _) PickC.pick rfl (PV.move (v := q) rfl rfl) ?_
          refine RH.pv rfl (fun _ _ _ _ h => h) (Gh.le_refl _) PickC.pick rfl (PV.field rfl Fo110_1 rfl) ?_
          refine RH.pv rfl (fun _ _ _ _ h => h) (Gh.le_refl _) PickC.pick rfl (PV.load1 rfl Sc2 rfl (Rd.blk rfl)) ?_
          refine RH.pv rfl (fun _ _ _ _ h => h) (Gh.le_refl _) PickC.pick rfl (PV.loadW rfl Ag110 rfl rfl) ?_
          refine RH.pv rfl (fun _ _ _ _ h => h) (Gh.le_refl _) PickC.pick rfl (PV.move (v := w15) rfl rfl) ?_
          refine RH.pv rfl (fun _ _ _ _ h => h) (Gh.le_refl _) PickC.pick rfl (PV.mvI (.inl rfl) rfl) ?_
          refine RH.pv rfl (fun _ _ _ _ h => h) (Gh.le_refl _) PickC.pick rfl (PV.mvI (.inl rfl) rfl) ?_
          refine RH.ot rfl rfl (OT.callF (vs := [_, w15]) rfl En71 rfl (pins_i Rs.o RsE.o (fun i hi => RsE.flat hi) he hcv (fun v51 => ⟨Gh.le_refl _, PickC.pick, ?_⟩)))
          refine RH.up1 ?_
          refine RH.pv rfl (fun _ _ _ _ h => h) (Gh.le_refl _) PickC.pick rfl (PV.build (vs := [(0, [vi _]), (1, [v51]), (2, [vi _]), (3, [vi _])]) (out := [_, _, _, _]) rfl Zr64 Pl64 ⟨rfl, (Cl.c rfl), ⟨rfl, (Cl.s (v := v51) SlF.o), ⟨rfl, (Cl.c rfl), ⟨rfl, (Cl.c rfl), trivial⟩⟩⟩⟩ rfl) ?_
          refine RH.ot rfl rfl (OT.bslice (F := devT) (els := [⟨(gd (chans (er xs)) i).kind, ⟨v51, pinsL (er xs) (gd (chans (er xs)) i).box (!(gd (chans (er xs)) i).hor)⟩, (sizeC (gd (chans (er xs)) i)).1, (sizeC (gd (chans (er xs)) i)).2⟩]) rfl El53 rfl (by decide) rfl (by decide) ⟨rfl, (Cl.c rfl), trivial⟩ fun v55 => ⟨Gh.le_refl _, PickC.pick, ?_⟩)
          refine RH.ot rfl rfl (OT.append (v := q) (u := v55) (F := devT) rfl El53 rfl (by decide) rfl rfl Rs.o (OneL.one (OneC.val rfl (OneC.sl SlF.o (OneC.val rfl (OneC.val rfl OneC.nil))))) rfl (by first | omega | (simp <;> omega)) fun v56 => ⟨Gh.le_refl _, PickC.pick, ?_⟩)
          refine RH.pv rfl (fun _ _ _ _ h => h) (Gh.le_refl _) PickC.pick rfl (PV.asg (v := v56) rfl rfl) ?_
          refine RH.nil ?_
          refine WP.region ?_
          refine RG.pv rfl (PV.add rfl rfl rfl (by omega)) ?_
          refine RG.pv rfl (PV.mvI (.inl rfl) rfl) ?_
          refine RG.nil ?_
          exact ⟨rfl, i + 1, (ds ++ [⟨(gd (chans (er xs)) i).kind, ⟨v51, pinsL (er xs) (gd (chans (er xs)) i).box (!(gd (chans (er xs)) i).hor)⟩, (sizeC (gd (chans (er xs)) i)).1, (sizeC (gd (chans (er xs)) i)).2⟩]), v56, ⟨by omega, by rw [List.take_add_one, getG (by omega), List.map_append, List.map_append, hds]; rfl⟩, ⟨rfl, rfl, trivial⟩, ⟨rfl, rfl, rfl, trivial⟩, ((Cv.p (C := osl 2 intT v51 (pinsL (er xs) (gd (chans (er xs)) i).box (!(gd (chans (er xs)) i).hor)) :: bagS 2 intT (pinsOf ds) :: osl 64 devT v56 (ds ++ [⟨(gd (chans (er xs)) i).kind, ⟨v51, pinsL (er xs) (gd (chans (er xs)) i).box (!(gd (chans (er xs)) i).hor)⟩, (sizeC (gd (chans (er xs)) i)).1, (sizeC (gd (chans (er xs)) i)).2⟩]) :: osl 110 chanT v23 (chans (er xs)) :: osl 140 netT w15 zsw15 :: bagS 143 pieceT (nps zsw15) :: bagS 61 rectT (regs (er (nps zsw15)).flatten) :: L)).trans ((Cv.grow (ys' := pinsOf (ds ++ [⟨(gd (chans (er xs)) i).kind, ⟨v51, pinsL (er xs) (gd (chans (er xs)) i).box (!(gd (chans (er xs)) i).hor)⟩, (sizeC (gd (chans (er xs)) i)).1, (sizeC (gd (chans (er xs)) i)).2⟩])) (by simp [pinsOf])).trans Cv.p)), by omega⟩
        · have h6 := of_decide_eq_false h6
          have hds2 : ds.map erD = (chans (er xs)).map (devOf (er xs)) := by rw [hds, List.take_of_length_le (by omega)]
          refine WP.exit ?_
          refine WP.seq ?_
          refine WP.region ?_
          refine RG.pv rfl (PV.move (v := q) rfl rfl) ?_
          refine RG.pv rfl (PV.asg (v := q) rfl rfl) ?_
          refine RG.pv rfl (PV.mvI (.inr rfl) rfl) ?_
          refine RG.nil ?_
          refine WP.ret ?_
          exact ⟨_, _, ResV.two rfl rfl rfl, Cv.p, k q ds hds2⟩
end Go.Proofs.YtmomfgfmnpblpaaGreat
namespace Go.Proofs.YtmomfgfmnpblpaaGreat
set_option linter.unusedVariables false
set_option linter.unusedSimpArgs false
open Go
set_option maxRecDepth 20000
set_option linter.unusedSimpArgs false
variable {G : Gh} {L : List Ch} {R : Value → Gh → List Ch → Prop}
theorem pinsOf_len (ds : List Dev) : (pinsOf ds).length = ds.length := by simp [pinsOf]
theorem pinsOf_gd {ds : List Dev} {i : Nat} (h : i < ds.length) : gd (pinsOf ds) i = (gd ds i).pins := gd_map _ h
theorem eqDev_s {p q : Dev} (h1 : Rs G L intT p.pins.v p.pins.xs) (h2 : Rs G L intT q.pins.v q.pins.xs) (k : R (.bool (decide (erD p = erD q))) G L) : CallT Tryz.prog 79 #[vT devT p, vT devT q] G L R := by
  refine CallT.enter (args := _) Tryz.func79 rfl rfl (by kernel_rfl) rfl ?_
  refine WP.seq ?_
  refine WP.region ?_
  refine RG.ot rfl (OT.box (cs := devT.enc p) rfl rfl rfl fun b2 => ?_)
  refine RG.ot rfl (OT.box (cs := devT.enc q) rfl rfl rfl fun b3 => ?_)
  refine RG.pv rfl (PV.mvB (.inr rfl) rfl) ?_
  refine RG.nil ?_
  refine WP.seq ?_
  refine WP.seq ?_
  refine WP.region ?_
  refine RG.pv rfl (PV.field rfl Fo64_0 rfl) ?_
  refine RG.pv rfl (PV.load1 rfl Sc2 rfl (Rd.blk rfl)) ?_
  refine RG.pv rfl (PV.field rfl Fo64_0 rfl) ?_
  refine RG.pv rfl (PV.load1 rfl Sc2 rfl (Rd.blk rfl)) ?_
  refine RG.pv rfl (PV.neq rfl rfl rfl) ?_
  refine RG.nil ?_
  refine WP.cond rfl (fun h3 => ?_) (fun h3 => ?_)
  · have e : decide (erD p = erD q) = false := by
      rw [decide_eq_false_iff_not]; intro h; simp [erD] at h h3; exact h3 h.1
    rw [e] at k
    refine WP.seq ?_
    refine WP.region ?_
    refine RG.pv rfl (PV.mvB (.inr rfl) rfl) ?_
    refine RG.nil ?_
    refine WP.ret ?_
    exact ⟨_, _, ResV.one rfl rfl, Cv.p, k⟩
  · refine WP.skip ?_
    refine WP.seq ?_
    refine WP.seq ?_
    refine WP.region ?_
    refine RG.pv rfl (PV.field rfl Fo64_1 rfl) ?_
    refine RG.pv rfl (PV.load1 rfl Sc26 rfl (Rd.blk rfl)) ?_
    refine RG.pv rfl (PV.field rfl Fo64_1 rfl) ?_
    refine RG.pv rfl (PV.load1 rfl Sc26 rfl (Rd.blk rfl)) ?_
    refine RG.callF (vs := [_, _]) rfl rfl En15 rfl (eqInt_s (Rs.up h1) (Rs.up h2) ?_)
    refine RG.pv rfl (PV.not rfl rfl) ?_
    refine RG.nil ?_
    refine WP.cond rfl (fun h4 => ?_) (fun h4 => ?_)
    · have e : decide (erD p = erD q) = false := by
        rw [decide_eq_false_iff_not]; intro h; simp [erD] at h h4; exact h4 h.2.1
      rw [e] at k
      refine WP.seq ?_
      refine WP.region ?_
      refine RG.pv rfl (PV.mvB (.inr rfl) rfl) ?_
      refine RG.nil ?_
      refine WP.ret ?_
      exact ⟨_, _, ResV.one rfl rfl, Cv.p, k⟩
    · refine WP.skip ?_
      refine WP.seq ?_
      refine WP.seq ?_
      refine WP.region ?_
      refine RG.pv rfl (PV.field rfl Fo64_2 rfl) ?_
      refine RG.pv rfl (PV.load1 rfl Sc2 rfl (Rd.blk rfl)) ?_
      refine RG.pv rfl (PV.field rfl Fo64_2 rfl) ?_
      refine RG.pv rfl (PV.load1 rfl Sc2 rfl (Rd.blk rfl)) ?_
      refine RG.pv rfl (PV.neq rfl rfl rfl) ?_
      refine RG.nil ?_
      refine WP.cond rfl (fun h5 => ?_) (fun h5 => ?_)
      · have e : decide (erD p = erD q) = false := by
          rw [decide_eq_false_iff_not]; intro h; simp [erD] at h h5; exact h5 h.2.2.1
        rw [e] at k
        refine WP.seq ?_
        refine WP.region ?_
        refine RG.pv rfl (PV.mvB (.inr rfl) rfl) ?_
        refine RG.nil ?_
        refine WP.ret ?_
        exact ⟨_, _, ResV.one rfl rfl, Cv.p, k⟩
      · refine WP.skip ?_
        refine WP.seq ?_
        refine WP.seq ?_
        refine WP.region ?_
        refine RG.pv rfl (PV.field rfl Fo64_3 rfl) ?_
        refine RG.pv rfl (PV.load1 rfl Sc2 rfl (Rd.blk rfl)) ?_
        refine RG.pv rfl (PV.field rfl Fo64_3 rfl) ?_
        refine RG.pv rfl (PV.load1 rfl Sc2 rfl (Rd.blk rfl)) ?_
        refine RG.pv rfl (PV.neq rfl rfl rfl) ?_
        refine RG.nil ?_
        refine WP.cond rfl (fun h6 => ?_) (fun h6 => ?_)
        · have e : decide (erD p = erD q) = false := by
            rw [decide_eq_false_iff_not]; intro h; simp [erD] at h h6; exact h6 h.2.2.2
          rw [e] at k
          refine WP.seq ?_
          refine WP.region ?_
          refine RG.pv rfl (PV.mvB (.inr rfl) rfl) ?_
          refine RG.nil ?_
          refine WP.ret ?_
          exact ⟨_, _, ResV.one rfl rfl, Cv.p, k⟩
        · have e : decide (erD p = erD q) = true := by
            simp at h3 h4 h5 h6; simp [erD, h3, h4, h5, h6]
          rw [e] at k
          refine WP.skip ?_
          refine WP.seq ?_
          refine WP.region ?_
          refine RG.pv rfl (PV.mvB (.inr rfl) rfl) ?_
          refine RG.nil ?_
          refine WP.ret ?_
          exact ⟨_, _, ResV.one rfl rfl, Cv.p, k⟩
theorem eqDevS_s {v u : Value} {xs ys : List Dev} (h1 : Rs G L devT v xs) (hd : RsE G L intT (pinsOf xs)) (h2 : Rs G L devT u ys) (hd' : RsE G L intT (pinsOf ys)) (k : R (.bool (decide (xs.map erD = ys.map erD))) G L) : CallT Tryz.prog 35 #[v, u] G L R := by
  refine CallT.bd h1 fun hb => ?_
  refine CallT.bd h2 fun hb' => ?_
  refine CallT.enter (args := _) Tryz.func35 rfl rfl (by kernel_rfl) rfl ?_
  refine WP.seq ?_
  refine WP.region ?_
  refine RG.pv rfl (PV.mvB (.inr rfl) rfl) ?_
  refine RG.nil ?_
  refine WP.seq ?_
  refine WP.seq ?_
  refine WP.region ?_
  refine RG.pv rfl (PV.move (v := v) rfl rfl) ?_
  refine RG.pv rfl (PV.len (v := v) rfl Tryz.underlying53 rfl (SlF.r h1)) ?_
  refine RG.pv rfl (PV.move (v := u) rfl rfl) ?_
  refine RG.pv rfl (PV.len (v := u) rfl Tryz.underlying53 rfl (SlF.r h2)) ?_
  refine RG.pv rfl (PV.neq rfl rfl rfl) ?_
  refine RG.nil ?_
  refine WP.cond rfl (fun h3 => ?_) (fun h3 => ?_)
  · have e : decide (xs.map erD = ys.map erD) = false := by
      rw [decide_eq_false_iff_not]; intro h; have := congrArg List.length h; rw [List.length_map, List.length_map] at this; simp at h3; omega
    rw [e] at k
    refine WP.seq ?_
    refine WP.region ?_
    refine RG.pv rfl (PV.mvB (.inr rfl) rfl) ?_
    refine RG.nil ?_
    refine WP.ret ?_
    exact ⟨_, _, ResV.one rfl rfl, Cv.p, k⟩
  · have hl : xs.length = ys.length := by simp at h3; omega
    refine WP.skip ?_
    refine WP.seq ?_
    refine WP.seq ?_
    refine WP.region ?_
    refine RG.pv rfl (PV.mvI (.inr rfl) rfl) ?_
    refine RG.nil ?_
    refine WP.block ?_
    refine WP.loop1 [0, 1] (fun i => i ≤ xs.length ∧ ∀ j, j < i → (xs.map erD)[j]? = (ys.map erD)[j]?) (fun i => [(5, vi i)]) (fun i => L) (fun i => xs.length - i) 0 ⟨by omega, fun j h => by omega⟩ ⟨rfl, trivial⟩ Cv.p ?_
    rintro i τ ⟨hi, he⟩
    refine WP.seq ?_
    refine WP.seq ?_
    refine WP.region ?_
    refine RG.pv rfl (PV.mvI (.inl rfl) rfl) ?_
    refine RG.pv rfl (PV.move (v := v) rfl rfl) ?_
    refine RG.pv rfl (PV.len (v := v) rfl Tryz.underlying53 rfl (SlF.r h1)) ?_
    refine RG.pv rfl (PV.lss rfl rfl rfl) ?_
    refine RG.nil ?_
    refine WP.cond rfl (fun h4 => ?_) (fun h4 => ?_)
    · have h4 := of_decide_eq_true h4
      have h5 : i < xs.length := by omega
      refine WP.skip ?_
      refine WP.seq ?_
      refine WP.block ?_
      refine WP.seq ?_
      refine WP.regionQ (by kernel_rfl) (by kernel_rfl) ?_
      refine RQ.pv rfl (PV.move (v := v) rfl rfl) ?_
      refine RQ.pv rfl (PV.mvI (.inl rfl) rfl) ?_
      refine RQ.pv rfl (PV.idxS (v := v) rfl Is53 rfl (SlF.r h1) rfl rfl (by omega)) ?_
      refine RQ.pv rfl (PV.loadE rfl Ag64 rfl rfl (El.r h1 (getG (by omega)))) ?_
      refine RQ.pv rfl (PV.move (v := u) rfl rfl) ?_
      refine RQ.pv rfl (PV.mvI (.inl rfl) rfl) ?_
      refine RQ.pv rfl (PV.idxS (v := u) rfl Is53 rfl (SlF.r h2) rfl rfl (by omega)) ?_
      refine RQ.pv rfl (PV.loadE rfl Ag64 rfl rfl (El.r h2 (getG (by omega)))) ?_
      refine RQ.callF (vs := [_, _]) rfl rfl En79 rfl (eqDev_s (by have := hd i (by rw [pinsOf_len]; omega); rw [pinsOf_gd (by omega)] at this; exact this.up) (by have := hd' i (by rw [pinsOf_len]; omega); rw [pinsOf_gd (by omega)] at this; exact this.up) ⟨rfl, rfl, rfl⟩) ?_
      refine RQ.pv rfl (PV.not rfl rfl) ?_
      refine RQ.nil ?_
      refine WP.cond rfl (fun h6 => ?_) (fun h6 => ?_)
      · have e : decide (xs.map erD = ys.map erD) = false := by
          rw [decide_eq_false_iff_not]; intro h
          have e2 : erD (gd xs i) = erD (gd ys i) := by rw [← gd_map erD h5, h, gd_map erD (by omega)]
          simp [e2] at h6
        rw [e] at k
        refine WP.seq ?_
        refine WP.region ?_
        refine RG.pv rfl (PV.mvB (.inr rfl) rfl) ?_
        refine RG.nil ?_
        refine WP.ret ?_
        exact ⟨_, _, ResV.one rfl rfl, Cv.p, k⟩
      · have e : erD (gd xs i) = erD (gd ys i) := by simpa using h6
        have he' : ∀ j, j < i + 1 → (xs.map erD)[j]? = (ys.map erD)[j]? := fun j h => by
          by_cases c : j = i
          · rw [c, List.getElem?_map, List.getElem?_map, getG h5, getG (show i < ys.length by omega)]
            simp [e]
          · exact he j (by omega)
        refine WP.skip ?_
        refine WP.region ?_
        refine RG.pv rfl (PV.mvI (.inl rfl) rfl) ?_
        refine RG.pv rfl (PV.add rfl rfl rfl (by omega)) ?_
        refine RG.pv rfl (PV.mvI (.inr rfl) rfl) ?_
        refine RG.nil ?_
        exact ⟨rfl, i + 1, ⟨by omega, he'⟩, ⟨rfl, trivial⟩, ⟨rfl, rfl, trivial⟩, Cv.p, by omega⟩
    · have h4 := of_decide_eq_false h4
      have e : decide (xs.map erD = ys.map erD) = true := by
        rw [decide_eq_true_iff]; exact pre_eq he (by rw [List.length_map, List.length_map]; exact hl) (by rw [List.length_map]; omega)
      rw [e] at k
      refine WP.exit ?_
      refine WP.seq ?_
      refine WP.region ?_
      refine RG.pv rfl (PV.mvB (.inr rfl) rfl) ?_
      refine RG.nil ?_
      refine WP.ret ?_
      exact ⟨_, _, ResV.one rfl rfl, Cv.p, k⟩
end Go.Proofs.YtmomfgfmnpblpaaGreat
namespace Go.Proofs.YtmomfgfmnpblpaaGreat
set_option linter.unusedVariables false
set_option linter.unusedSimpArgs false
open Go
set_option maxRecDepth 20000
set_option linter.unusedSimpArgs false
variable {G : Gh} {L : List Ch} {R : Value → Gh → List Ch → Prop}
def mkPc (p : Piece) (k : Int) : Piece := ⟨k, mkRS p.reg (k + 1)⟩
def nPc (p : Piece) : Int := 1 + nRS p.reg
theorem nPc_nn (p : Piece) : 0 ≤ nPc p := by have : 0 ≤ nRS p.reg := nSl_nn p.reg; simp only [nPc]; omega
theorem flat_setEq {α : Type} {F : FT α} {zs : List α} {i : Nat} {p q : α} (h : F.enc p = F.enc q) : F.flat (zs.set i p) = F.flat (zs.set i q) := by
  simp only [FT.flat, List.flatMap_def, List.map_set, h]
/-- only what lies in memory matters -/
theorem Cv.flat {α : Type} {e : TypeId} {F : FT α} {v : Value} {xs ys : List α} {L : List Ch} (h : F.flat xs = F.flat ys) (hl : xs.length = ys.length) : Cv (osl e F v xs :: L) (osl e F v ys :: L) :=
  Cv.imp fun hp hc => by
    rcases hc with ⟨rfl, rfl⟩ | ⟨b, cap, c, h1, h2, h3, h4, h5, h6⟩
    · exact .inl ⟨rfl, List.eq_nil_of_length_eq_zero (by simpa using hl.symm)⟩
    · exact .inr ⟨b, cap, c, by rw [← hl]; exact h1, h2, by rw [← hl]; exact h3, h4, h5, by rw [← hl, ← h]; exact h6⟩
theorem CallT.eq2 {P : Program} {f : FuncId} {v v' x : Value} (h : v = v') (k : CallT P f #[v', x] G L R) : CallT P f #[v, x] G L R := by subst h; exact k
theorem regs_set (zs : List Piece) (i : Nat) (p : Piece) : regs (zs.set i p) = (regs zs).set i p.reg := by simp [regs, List.map_set]
/-- a piece's region, out of the bag and written, goes back -/
theorem Cv.slotP {e e' : TypeId} {v : Value} {zs : List Piece} {p q : Piece} {ys : List Rect} {L : List Ch} (i : Nat) (hi : i < zs.length) (hq : q = ⟨p.layer, ⟨(gd zs i).reg.v, ys⟩⟩) (hp : p.reg.v = (gd zs i).reg.v) :
    Cv (osl e rectT (gd (regs zs) i).v ys :: osl e' pieceT v (zs.set i p) :: bag (((regs zs).map (ownS e rectT)).set i emp) :: L) (osl e' pieceT v (zs.set i q) :: bagS e rectT (regs (zs.set i q)) :: L) := by
  subst hq
  have h1 : Cv (osl e rectT (gd (regs zs) i).v ys :: osl e' pieceT v (zs.set i p) :: bag (((regs zs).map (ownS e rectT)).set i emp) :: L) (osl e' pieceT v (zs.set i p) :: osl e rectT (gd (regs zs) i).v ys :: bag (((regs zs).map (ownS e rectT)).set i emp) :: L) := Cv.swap (A := [osl e rectT (gd (regs zs) i).v ys]) (B := [osl e' pieceT v (zs.set i p)])
  refine h1.trans ((Cv.cons (Cv.bagS_put i (by rw [regs_len]; exact hi))).trans ?_)
  rw [regs_set, regs_gd hi]
  exact Cv.flat (flat_setEq (by simp [pieceT, hp])) (by simp)
def nPe (p : Int × List Rect) : Int := 1 + 4 * (p.2.length : Int)
theorem nPc_er (xs : List Piece) : costL nPc xs = costL nPe (erPs xs) := by
  induction xs with
  | nil => rfl
  | cons z zs ih => simp only [erPs, List.map_cons, costL] at ih ⊢; rw [ih]; simp only [nPc, nPe, nRS, nSl, nRect_cost, erP]
theorem pcE_len (l : List (List Rect)) : (pcE l).length ≤ 25600 := by
  unfold pcE
  cases isLay l
  · simp
  · have := pcL_len l 4
    simp only [cond_true, List.length_map]; omega
theorem pcE_cost (l : List (List Rect)) : costL nPe (pcE l) ≤ 12801 * 25600 := by
  have h1 : costL nPe (pcE l) ≤ 12801 * (pcE l).length := costL_bd fun p hp => by
    unfold pcE at hp
    cases hl : isLay l
    · rw [hl] at hp; cases hp
    · rw [hl] at hp
      obtain ⟨q, _, rfl⟩ := List.mem_map.1 hp
      have := canon_len q.2
      simp only [nPe, pcR]; omega
  have h2 := pcE_len l
  omega
end Go.Proofs.YtmomfgfmnpblpaaGreat
namespace Go.Proofs.YtmomfgfmnpblpaaGreat
set_option linter.unusedVariables false
set_option linter.unusedSimpArgs false
open Go
set_option maxRecDepth 20000
set_option linter.unusedSimpArgs false
variable {G : Gh} {L : List Ch} {R : Value → Gh → List Ch → Prop}
theorem pinsOf_set (zs : List Dev) (i : Nat) (p : Dev) : pinsOf (zs.set i p) = (pinsOf zs).set i p.pins := by simp [pinsOf, List.map_set]
theorem Cv.slotD {e e' : TypeId} {v : Value} {zs : List Dev} {p q : Dev} {ys : List Int} {L : List Ch} (i : Nat) (hi : i < zs.length) (hq : q = ⟨p.kind, ⟨(gd zs i).pins.v, ys⟩, p.width, p.length⟩) (hp : p.pins.v = (gd zs i).pins.v) :
    Cv (osl e intT (gd (pinsOf zs) i).v ys :: osl e' devT v (zs.set i p) :: bag (((pinsOf zs).map (ownS e intT)).set i emp) :: L) (osl e' devT v (zs.set i q) :: bagS e intT (pinsOf (zs.set i q)) :: L) := by
  subst hq
  have h1 : Cv (osl e intT (gd (pinsOf zs) i).v ys :: osl e' devT v (zs.set i p) :: bag (((pinsOf zs).map (ownS e intT)).set i emp) :: L) (osl e' devT v (zs.set i p) :: osl e intT (gd (pinsOf zs) i).v ys :: bag (((pinsOf zs).map (ownS e intT)).set i emp) :: L) := Cv.swap (A := [osl e intT (gd (pinsOf zs) i).v ys]) (B := [osl e' devT v (zs.set i p)])
  refine h1.trans ((Cv.cons (Cv.bagS_put i (by rw [pinsOf_len]; exact hi))).trans ?_)
  rw [pinsOf_set, pinsOf_gd hi]
  exact Cv.flat (flat_setEq (by simp [devT, hp])) (by simp)
def nDev (d : Dev) : Int := 3 + costL nI d.pins.xs
def mkDev (d : Dev) (k : Int) : Dev := ⟨k, ⟨d.pins.v, markL mkI nI d.pins.xs (k + 1)⟩, k + 1 + costL nI d.pins.xs, k + 1 + costL nI d.pins.xs + 1⟩
theorem nDev_nn (d : Dev) : 0 ≤ nDev d := by have : costL nI d.pins.xs = 1 * d.pins.xs.length := nI_cost _; simp only [nDev]; omega
theorem markDevS_s {v : Value} {xs : List Dev} {k0 : Int} (hk : 0 ≤ k0) (hb : k0 + costL nDev xs ≤ 4611686018427387904) (k : R (vi (k0 + costL nDev xs)) G (osl 64 devT v (markL mkDev nDev xs k0) :: bagS 2 intT (pinsOf (markL mkDev nDev xs k0)) :: L)) :
    CallT Tryz.prog 36 #[v, vi k0] G (osl 64 devT v xs :: bagS 2 intT (pinsOf xs) :: L) R := by
  refine CallT.bd (T := devT) (v := v) (xs := xs) Rs.o fun hb2 => ?_
  refine CallT.cv (L' := osl 64 devT v (markTo mkDev nDev xs k0 0) :: bagS 2 intT (pinsOf (markTo mkDev nDev xs k0 0)) :: L) (Cv.cast (by rw [markTo_zero])) ?_
  refine CallT.enter (args := _) Tryz.func36 rfl rfl (by kernel_rfl) rfl ?_
  refine WP.seq ?_
  refine WP.region ?_
  refine RG.pv rfl (PV.mvI (.inr rfl) rfl) ?_
  refine RG.nil ?_
  refine WP.seq ?_
  refine WP.seq ?_
  refine WP.region ?_
  refine RG.pv rfl (PV.mvI (.inr rfl) rfl) ?_
  refine RG.nil ?_
  refine WP.block ?_
  refine WP.loop2 [0] (fun (i : Nat) (kk : Int) => i ≤ xs.length ∧ kk = k0 + costL nDev (xs.take i)) (fun (i : Nat) (kk : Int) => [(5, vi i), (1, vi kk)]) (fun (i : Nat) (kk : Int) => osl 64 devT v (markTo mkDev nDev xs k0 i) :: bagS 2 intT (pinsOf (markTo mkDev nDev xs k0 i)) :: L) (fun (i : Nat) (kk : Int) => xs.length - i) 0 k0 ⟨by omega, by simp [costL]⟩ ⟨rfl, rfl, trivial⟩ Cv.p ?_
  rintro i kk τ ⟨hi, hkk⟩
  refine WP.seq ?_
  refine WP.seq ?_
  refine WP.region ?_
  refine RG.pv rfl (PV.mvI (.inl rfl) rfl) ?_
  refine RG.pv rfl (PV.move (v := v) rfl rfl) ?_
  refine RG.pv rfl (PV.len (v := v) rfl Tryz.underlying53 rfl SlF.o) ?_
  refine RG.pv rfl (PV.lss rfl rfl rfl) ?_
  refine RG.nil ?_
  have hml := markTo_len (mk := mkDev) (n := nDev) (k := k0) hi
  refine WP.cond rfl (fun h1 => ?_) (fun h1 => ?_)
  · have h1 := of_decide_eq_true h1
    have h2 : i < xs.length := by omega
    have hmg := markTo_gd (mk := mkDev) (n := nDev) (k := k0) h2
    have hc := costL_take nDev h2
    have hc1 : costL nDev (xs.take (i + 1)) ≤ costL nDev xs := costL_le nDev_nn xs (i + 1)
    have hc2 : 0 ≤ costL nDev (xs.take i) := costL_nonneg nDev_nn (xs.take i)
    have hc3 : costL nI (gd xs i).pins.xs = 1 * (gd xs i).pins.xs.length := nI_cost _
    have hc5 : nDev (gd xs i) = 3 + costL nI (gd xs i).pins.xs := rfl
    have hgi : gd (pinsOf (markTo mkDev nDev xs k0 i)) i = (gd xs i).pins := by rw [pinsOf_gd (by omega), hmg]
    have hc4 : costL nI (gd (pinsOf (markTo mkDev nDev xs k0 i)) i).xs = costL nI (gd xs i).pins.xs := by rw [hgi]
    have hgs : (gd ((markTo mkDev nDev xs k0 i).set i (Dev.s0 kk (gd (markTo mkDev nDev xs k0 i) i))) i).pins.v = (gd (pinsOf (markTo mkDev nDev xs k0 i)) i).v := by
      rw [hgi]; simp [gd, hml, h2, ← hmg]
    refine WP.cv (Cv.cons (Cv.bagS_take i (by rw [pinsOf_len]; omega))) ?_
    refine WP.skip ?_
    refine WP.seq ?_
    refine WP.block ?_
    refine WP.seq ?_
    refine WP.region ?_
    refine RG.pv rfl (PV.move (v := v) rfl rfl) ?_
    refine RG.pv rfl (PV.mvI (.inl rfl) rfl) ?_
    refine RG.pv rfl (PV.mvI (.inl rfl) rfl) ?_
    refine RG.pv rfl (PV.idxS (v := v) rfl Is53 rfl SlF.o rfl rfl (by omega)) ?_
    refine RG.pv rfl (PV.field rfl Fo64_0 rfl) ?_
    refine RG.ot rfl (OT.storeF (F := devT) (val := vi) (cv := fun u => [vi u]) (st := Dev.s0) rfl Sz2 rfl rfl rfl (Cl.c rfl) rfl (OneC.c rfl) (by exact set_self (by omega)) (by first | omega | (simp; omega)) rfl (fun _ _ => rfl) ?_)
    refine RG.nil ?_
    refine WP.seq ?_
    refine WP.region ?_
    refine RG.pv rfl (PV.mvI (.inl rfl) rfl) ?_
    refine RG.pv rfl (PV.add rfl rfl rfl (by first | omega | (simp only [List.length_set]; omega))) ?_
    refine RG.pv rfl (PV.mvI (.inr rfl) rfl) ?_
    refine RG.nil ?_
    refine WP.seq ?_
    refine WP.region ?_
    refine RG.pv rfl (PV.move (v := v) rfl rfl) ?_
    refine RG.pv rfl (PV.mvI (.inl rfl) rfl) ?_
    refine RG.pv rfl (PV.idxS (v := v) rfl Is53 rfl SlF.o rfl rfl (by first | omega | (simp only [List.length_set]; omega))) ?_
    refine RG.pv rfl (PV.field rfl Fo64_1 rfl) ?_
    refine RG.pv rfl (PV.loadF rfl Sc26 rfl rfl (El.o (getG (by first | omega | (simp only [List.length_set]; omega)))) rfl) ?_
    refine RG.pv rfl (PV.mvI (.inl rfl) rfl) ?_
    refine RG.callF (vs := [_, _]) rfl rfl En20 rfl (CallT.eq2 hgs (CallT.exS (gd (pinsOf (markTo mkDev nDev xs k0 i)) i).v (markInt_s (by omega) (by omega) ?_)))
    refine RG.pv rfl (PV.mvI (.inr rfl) rfl) ?_
    refine RG.nil ?_
    refine WP.seq ?_
    refine WP.region ?_
    refine RG.pv rfl (PV.move (v := v) rfl rfl) ?_
    refine RG.pv rfl (PV.mvI (.inl rfl) rfl) ?_
    refine RG.pv rfl (PV.mvI (.inl rfl) rfl) ?_
    refine RG.pv rfl (PV.idxS (v := v) rfl Is53 rfl SlF.o rfl rfl (by first | omega | (simp only [List.length_set]; omega))) ?_
    refine RG.pv rfl (PV.field rfl Fo64_2 rfl) ?_
    refine RG.ot rfl (OT.storeF (F := devT) (val := vi) (cv := fun u => [vi u]) (st := Dev.s2) rfl Sz2 rfl rfl rfl (Cl.c rfl) rfl (OneC.c rfl) (by rfl) (by first | omega | (simp; omega)) rfl (fun _ _ => rfl) ?_)
    refine RG.nil ?_
    refine WP.seq ?_
    refine WP.region ?_
    refine RG.pv rfl (PV.mvI (.inl rfl) rfl) ?_
    refine RG.pv rfl (PV.add rfl rfl rfl (by first | omega | (simp only [List.length_set]; omega))) ?_
    refine RG.pv rfl (PV.mvI (.inr rfl) rfl) ?_
    refine RG.nil ?_
    refine WP.seq ?_
    refine WP.region ?_
    refine RG.pv rfl (PV.move (v := v) rfl rfl) ?_
    refine RG.pv rfl (PV.mvI (.inl rfl) rfl) ?_
    refine RG.pv rfl (PV.mvI (.inl rfl) rfl) ?_
    refine RG.pv rfl (PV.idxS (v := v) rfl Is53 rfl SlF.o rfl rfl (by first | omega | (simp only [List.length_set]; omega))) ?_
    refine RG.pv rfl (PV.field rfl Fo64_3 rfl) ?_
    refine RG.ot rfl (OT.storeF (F := devT) (val := vi) (cv := fun u => [vi u]) (st := Dev.s3) rfl Sz2 rfl rfl rfl (Cl.c rfl) rfl (OneC.c rfl) (by rfl) (by first | omega | (simp; omega)) rfl (fun _ _ => rfl) ?_)
    refine RG.nil ?_
    refine WP.region ?_
    refine RG.pv rfl (PV.mvI (.inl rfl) rfl) ?_
    refine RG.pv rfl (PV.add rfl rfl rfl (by first | omega | (simp only [List.length_set]; omega))) ?_
    refine RG.pv rfl (PV.mvI (.inr rfl) rfl) ?_
    refine RG.nil ?_
    refine WP.region ?_
    refine RG.pv rfl (PV.mvI (.inl rfl) rfl) ?_
    refine RG.pv rfl (PV.add rfl rfl rfl (by first | omega | (simp only [List.length_set]; omega))) ?_
    refine RG.pv rfl (PV.mvI (.inr rfl) rfl) ?_
    refine RG.nil ?_
    exact ⟨rfl, i + 1, (kk + 1 + costL nI (gd (pinsOf (markTo mkDev nDev xs k0 i)) i).xs + 1 + 1), ⟨by omega, by rw [hc]; omega⟩, ⟨rfl, rfl, trivial⟩, ⟨rfl, trivial⟩, ((Cv.p (C := osl 2 intT (gd (pinsOf (markTo mkDev nDev xs k0 i)) i).v (markL mkI nI (gd (pinsOf (markTo mkDev nDev xs k0 i)) i).xs (kk + 1)) :: osl 64 devT v ((markTo mkDev nDev xs k0 i).set i (Dev.s3 (kk + 1 + costL nI (gd (pinsOf (markTo mkDev nDev xs k0 i)) i).xs + 1) (Dev.s2 (kk + 1 + costL nI (gd (pinsOf (markTo mkDev nDev xs k0 i)) i).xs) (Dev.s0 kk (gd (markTo mkDev nDev xs k0 i) i))))) :: bag (((pinsOf (markTo mkDev nDev xs k0 i)).map (ownS 2 intT)).set i emp) :: L)).trans ((Cv.slotD (zs := markTo mkDev nDev xs k0 i) (p := Dev.s3 (kk + 1 + costL nI (gd (pinsOf (markTo mkDev nDev xs k0 i)) i).xs + 1) (Dev.s2 (kk + 1 + costL nI (gd (pinsOf (markTo mkDev nDev xs k0 i)) i).xs) (Dev.s0 kk (gd (markTo mkDev nDev xs k0 i) i)))) (q := mkDev (gd xs i) (k0 + costL nDev (xs.take i))) (ys := markL mkI nI (gd (pinsOf (markTo mkDev nDev xs k0 i)) i).xs (kk + 1)) i (by omega) (by rw [hgi, hmg, mkDev, ← hkk]) rfl).trans (Cv.cast (L' := osl 64 devT v (markTo mkDev nDev xs k0 (i + 1)) :: bagS 2 intT (pinsOf (markTo mkDev nDev xs k0 (i + 1))) :: L) (by rw [← markTo_set h2])))), by omega⟩
  · have h1 := of_decide_eq_false h1
    have e : kk = k0 + costL nDev xs := by rw [hkk, List.take_of_length_le (by omega)]
    rw [← e] at k
    refine WP.exit ?_
    refine WP.seq ?_
    refine WP.region ?_
    refine RG.pv rfl (PV.mvI (.inl rfl) rfl) ?_
    refine RG.pv rfl (PV.mvI (.inr rfl) rfl) ?_
    refine RG.nil ?_
    refine WP.ret ?_
    exact ⟨_, _, ResV.one rfl rfl, (Cv.cast (by rw [markTo_all (by omega)])), k⟩
theorem heldDevS_s {v : Value} {xs : List Dev} {k0 : Int} (h0 : Rs G L devT v (markL mkDev nDev xs k0)) (hd : RsE G L intT (pinsOf (markL mkDev nDev xs k0))) (hk : 0 ≤ k0) (hb : k0 + costL nDev xs ≤ 4611686018427387904) (k : R (vi (k0 + costL nDev xs)) G L) : CallT Tryz.prog 37 #[v, vi k0] G L R := by
  have hml := markL_len mkDev nDev xs k0
  refine CallT.bd h0 fun hb2 => ?_
  refine CallT.enter (args := _) Tryz.func37 rfl rfl (by kernel_rfl) rfl ?_
  refine WP.seq ?_
  refine WP.region ?_
  refine RG.pv rfl (PV.mvI (.inr rfl) rfl) ?_
  refine RG.nil ?_
  refine WP.seq ?_
  refine WP.seq ?_
  refine WP.region ?_
  refine RG.pv rfl (PV.mvI (.inr rfl) rfl) ?_
  refine RG.nil ?_
  refine WP.block ?_
  refine WP.loop2 [0] (fun (i : Nat) (kk : Int) => i ≤ xs.length ∧ kk = k0 + costL nDev (xs.take i)) (fun (i : Nat) (kk : Int) => [(5, vi i), (1, vi kk)]) (fun (i : Nat) (kk : Int) => L) (fun (i : Nat) (kk : Int) => xs.length - i) 0 k0 ⟨by omega, by simp [costL]⟩ ⟨rfl, rfl, trivial⟩ Cv.p ?_
  rintro i kk τ ⟨hi, hkk⟩
  refine WP.seq ?_
  refine WP.seq ?_
  refine WP.region ?_
  refine RG.pv rfl (PV.mvI (.inl rfl) rfl) ?_
  refine RG.pv rfl (PV.move (v := v) rfl rfl) ?_
  refine RG.pv rfl (PV.len (v := v) rfl Tryz.underlying53 rfl (SlF.r h0)) ?_
  refine RG.pv rfl (PV.lss rfl rfl rfl) ?_
  refine RG.nil ?_
  refine WP.cond rfl (fun h1 => ?_) (fun h1 => ?_)
  · have h1 := of_decide_eq_true h1
    have h2 : i < xs.length := by omega
    have hc := costL_take nDev h2
    have hc1 : costL nDev (xs.take (i + 1)) ≤ costL nDev xs := costL_le nDev_nn xs (i + 1)
    have hc2 : 0 ≤ costL nDev (xs.take i) := costL_nonneg nDev_nn (xs.take i)
    have hc3 : costL nI (gd xs i).pins.xs = 1 * (gd xs i).pins.xs.length := nI_cost _
    have hc5 : nDev (gd xs i) = 3 + costL nI (gd xs i).pins.xs := rfl
    refine WP.skip ?_
    refine WP.seq ?_
    refine WP.block ?_
    refine WP.seq ?_
    refine WP.seq ?_
    refine WP.region ?_
    refine RG.pv rfl (PV.move (v := v) rfl rfl) ?_
    refine RG.pv rfl (PV.mvI (.inl rfl) rfl) ?_
    refine RG.pv rfl (PV.idxS (v := v) rfl Is53 rfl (SlF.r h0) rfl rfl (by omega)) ?_
    refine RG.pv rfl (PV.field rfl Fo64_0 rfl) ?_
    refine RG.pv rfl (PV.loadF rfl Sc2 rfl rfl (El.r h0 (getG (by omega))) rfl) ?_
    refine RG.pv rfl (PV.mvI (.inl rfl) rfl) ?_
    refine RG.pv rfl (PV.neq rfl rfl rfl) ?_
    refine RG.nil ?_
    refine WP.cond rfl (fun h3 => ?_) (fun h3 => ?_)
    · simp [gd_mark h2, mkDev, hkk] at h3
    · refine WP.skip ?_
      refine WP.seq ?_
      refine WP.region ?_
      refine RG.pv rfl (PV.mvI (.inl rfl) rfl) ?_
      refine RG.pv rfl (PV.add rfl rfl rfl (by omega)) ?_
      refine RG.pv rfl (PV.mvI (.inr rfl) rfl) ?_
      refine RG.nil ?_
      refine WP.seq ?_
      refine WP.region ?_
      refine RG.pv rfl (PV.move (v := v) rfl rfl) ?_
      refine RG.pv rfl (PV.mvI (.inl rfl) rfl) ?_
      refine RG.pv rfl (PV.idxS (v := v) rfl Is53 rfl (SlF.r h0) rfl rfl (by omega)) ?_
      refine RG.pv rfl (PV.field rfl Fo64_1 rfl) ?_
      refine RG.pv rfl (PV.loadF rfl Sc26 rfl rfl (El.r h0 (getG (by omega))) rfl) ?_
      refine RG.pv rfl (PV.mvI (.inl rfl) rfl) ?_
      refine RG.callF (vs := [_, _]) rfl rfl En21 rfl (heldInt_s (xs := (gd xs i).pins.xs) (by have := hd i (by rw [pinsOf_len]; omega); rw [pinsOf_gd (by omega), gd_mark h2] at this; rw [gd_mark h2, hkk]; exact this.up) (by omega) (by omega) ?_)
      refine RG.pv rfl (PV.mvI (.inr rfl) rfl) ?_
      refine RG.nil ?_
      refine WP.seq ?_
      refine WP.seq ?_
      refine WP.region ?_
      refine RG.pv rfl (PV.mvI (.inl rfl) rfl) ?_
      refine RG.pv rfl (PV.lss rfl rfl rfl) ?_
      refine RG.nil ?_
      refine WP.cond rfl (fun h4 => ?_) (fun h4 => ?_)
      · simp at h4; omega
      · refine WP.skip ?_
        refine WP.seq ?_
        refine WP.seq ?_
        refine WP.region ?_
        refine RG.pv rfl (PV.move (v := v) rfl rfl) ?_
        refine RG.pv rfl (PV.mvI (.inl rfl) rfl) ?_
        refine RG.pv rfl (PV.idxS (v := v) rfl Is53 rfl (SlF.r h0) rfl rfl (by omega)) ?_
        refine RG.pv rfl (PV.field rfl Fo64_2 rfl) ?_
        refine RG.pv rfl (PV.loadF rfl Sc2 rfl rfl (El.r h0 (getG (by omega))) rfl) ?_
        refine RG.pv rfl (PV.mvI (.inl rfl) rfl) ?_
        refine RG.pv rfl (PV.neq rfl rfl rfl) ?_
        refine RG.nil ?_
        refine WP.cond rfl (fun h5 => ?_) (fun h5 => ?_)
        · simp [gd_mark h2, mkDev, hkk] at h5
        · refine WP.skip ?_
          refine WP.seq ?_
          refine WP.region ?_
          refine RG.pv rfl (PV.mvI (.inl rfl) rfl) ?_
          refine RG.pv rfl (PV.add rfl rfl rfl (by omega)) ?_
          refine RG.pv rfl (PV.mvI (.inr rfl) rfl) ?_
          refine RG.nil ?_
          refine WP.seq ?_
          refine WP.seq ?_
          refine WP.region ?_
          refine RG.pv rfl (PV.move (v := v) rfl rfl) ?_
          refine RG.pv rfl (PV.mvI (.inl rfl) rfl) ?_
          refine RG.pv rfl (PV.idxS (v := v) rfl Is53 rfl (SlF.r h0) rfl rfl (by omega)) ?_
          refine RG.pv rfl (PV.field rfl Fo64_3 rfl) ?_
          refine RG.pv rfl (PV.loadF rfl Sc2 rfl rfl (El.r h0 (getG (by omega))) rfl) ?_
          refine RG.pv rfl (PV.mvI (.inl rfl) rfl) ?_
          refine RG.pv rfl (PV.neq rfl rfl rfl) ?_
          refine RG.nil ?_
          refine WP.cond rfl (fun h6 => ?_) (fun h6 => ?_)
          · simp [gd_mark h2, mkDev, hkk] at h6
          · refine WP.skip ?_
            refine WP.region ?_
            refine RG.pv rfl (PV.mvI (.inl rfl) rfl) ?_
            refine RG.pv rfl (PV.add rfl rfl rfl (by omega)) ?_
            refine RG.pv rfl (PV.mvI (.inr rfl) rfl) ?_
            refine RG.nil ?_
            refine WP.region ?_
            refine RG.pv rfl (PV.mvI (.inl rfl) rfl) ?_
            refine RG.pv rfl (PV.add rfl rfl rfl (by omega)) ?_
            refine RG.pv rfl (PV.mvI (.inr rfl) rfl) ?_
            refine RG.nil ?_
            exact ⟨rfl, i + 1, _, ⟨by omega, by rw [hc]; omega⟩, ⟨rfl, rfl, trivial⟩, ⟨rfl, trivial⟩, Cv.p, by omega⟩
  · have h1 := of_decide_eq_false h1
    have e : kk = k0 + costL nDev xs := by rw [hkk, List.take_of_length_le (by omega)]
    rw [← e] at k
    refine WP.exit ?_
    refine WP.seq ?_
    refine WP.region ?_
    refine RG.pv rfl (PV.mvI (.inl rfl) rfl) ?_
    refine RG.pv rfl (PV.mvI (.inr rfl) rfl) ?_
    refine RG.nil ?_
    refine WP.ret ?_
    exact ⟨_, _, ResV.one rfl rfl, Cv.p, k⟩
end Go.Proofs.YtmomfgfmnpblpaaGreat
namespace Go.Proofs.YtmomfgfmnpblpaaGreat
set_option linter.unusedVariables false
set_option linter.unusedSimpArgs false
open Go
set_option maxRecDepth 20000
set_option linter.unusedSimpArgs false
variable {G : Gh} {L : List Ch} {R : Value → Gh → List Ch → Prop}
noncomputable def boxesE (l : List (List Rect)) : List Rect := bif isLay l then (chans l).map Chan.box else []
noncomputable def malfE (l : List (List Rect)) : List Rect := bif isLay l then canon (bits (malf l).flatten) else []
theorem boxes_eq (l : List (List Rect)) : (chans l).map Chan.box = ((partsC l).filter (isCh l)).map fun g => gd g 0 := by
  rw [chans, List.map_map]; rfl
theorem filter_take {α : Type} [Inhabited α] (p : α → Bool) {xs : List α} {i : Nat} (h : i < xs.length) : (xs.take (i + 1)).filter p = (xs.take i).filter p ++ (if p (gd xs i) then [gd xs i] else []) := by
  rw [List.take_add_one, getG h, List.filter_append]
  cases hp : p (gd xs i) <;> simp [hp]
theorem bits_app (ar bs : List Rect) : bits (ar ++ bs) = zipB (fun p q => p || q) (bits ar) (bits bs) := gb_ext (bits_length _) (zipB_len (bits_length _) (bits_length _)) fun y x hy hx => by
  rw [gb_zip (bits_length _) (bits_length _) hy hx, gb_bits _ hy hx, gb_bits _ hy hx, gb_bits _ hy hx, List.any_append]
theorem bits_nil : bits [] = List.replicate 6400 false := by
  simp only [bits, List.any_nil]
  exact List.map_const' .. |>.trans (by rw [List.length_range])
theorem channels_r {v : Value} {xs : List (Sl Rect)} (h1 : Rs G L slT v xs) (hd : RsE G L rectT xs) (k : ∀ v', R v' G (osl 61 rectT v' (boxesE (er xs)) :: L)) : CallT Tryz.prog 74 #[v] G L R := by
  refine CallT.enter (args := _) Tryz.func74 rfl rfl (by kernel_rfl) rfl ?_
  refine WP.seq ?_
  refine WP.region ?_
  refine RG.pv rfl (PV.asg rfl rfl) ?_
  refine RG.nil ?_
  refine WP.seq ?_
  refine WP.region ?_
  refine RG.ot rfl (OT.bslice (F := rectT) (els := []) rfl El56 rfl (by decide) rfl (by decide) trivial fun v8 => ?_)
  refine RG.pv rfl (PV.asg (v := v8) rfl rfl) ?_
  refine RG.nil ?_
  refine WP.seq ?_
  refine WP.seq ?_
  refine WP.region ?_
  refine RG.pv rfl (PV.move (v := v) rfl rfl) ?_
  refine RG.callF (vs := [v]) rfl rfl En45 rfl (l19Layout_s (Rs.up h1) hd.up ?_)
  refine RG.pv rfl (PV.not rfl rfl) ?_
  refine RG.nil ?_
  refine WP.cond rfl (fun h2 => ?_) (fun h2 => ?_)
  · have h3 : isLay (er xs) = false := by simpa using h2
    have e : boxesE (er xs) = [] := by rw [boxesE, h3]; rfl
    rw [e] at k
    refine WP.seq ?_
    refine WP.region ?_
    refine RG.pv rfl (PV.move (v := v8) rfl rfl) ?_
    refine RG.pv rfl (PV.asg (v := v8) rfl rfl) ?_
    refine RG.nil ?_
    refine WP.ret ?_
    exact ⟨_, _, ResV.one rfl rfl, Cv.p, k v8⟩
  · have hlay : isLay (er xs) = true := by simpa using h2
    have e : boxesE (er xs) = ((partsC (er xs)).filter (isCh (er xs))).map fun g => gd g 0 := by rw [boxesE, hlay, cond_true, boxes_eq]
    rw [e] at k
    refine WP.skip ?_
    refine WP.seq ?_
    refine WP.region ?_
    refine RG.pv rfl (PV.move (v := v) rfl rfl) ?_
    refine RG.callF (vs := [v]) rfl rfl En121 rfl (l24Parts_s (Rs.up h1) hd.up hlay (fun v14 ysv14 hev14 => ?_))
    refine RG.pv rfl (PV.asg (v := v14) rfl rfl) ?_
    refine RG.nil ?_
    refine WP.seq ?_
    refine WP.seq ?_
    refine WP.region ?_
    refine RG.pv rfl (PV.mvI (.inr rfl) rfl) ?_
    refine RG.nil ?_
    refine WP.block ?_
    obtain ⟨hyl, hya⟩ := partsC_at hev14
    refine WP.loop3 [0, 4] (fun (i : Nat) (us : List Rect) (q : Value) => i ≤ ysv14.length ∧ us = (((partsC (er xs)).take i).filter (isCh (er xs))).map (fun g => gd g 0)) (fun (i : Nat) (us : List Rect) (q : Value) => [(5, vi i), (3, q)]) (fun (i : Nat) (us : List Rect) (q : Value) => osl 61 rectT q us :: osl 56 slT v14 ysv14 :: bagS 61 rectT ysv14 :: L) (fun (i : Nat) (us : List Rect) (q : Value) => ysv14.length - i) 0 [] v8 ⟨by omega, rfl⟩ ⟨rfl, rfl, trivial⟩ Cv.p ?_
    rintro i us q τ ⟨hi, hus⟩
    refine WP.seq ?_
    refine WP.seq ?_
    refine WP.region ?_
    refine RG.pv rfl (PV.mvI (.inl rfl) rfl) ?_
    refine RG.pv rfl (PV.move (v := v14) rfl rfl) ?_
    refine RG.pv rfl (PV.len (v := v14) rfl Tryz.underlying29 rfl SlF.o) ?_
    refine RG.pv rfl (PV.lss rfl rfl rfl) ?_
    refine RG.nil ?_
    have hul : us.length ≤ 6400 := by
      have h4 := List.length_filter_le (isCh (er xs)) ((partsC (er xs)).take i)
      rw [List.length_take] at h4
      rw [hus, List.length_map]; omega
    refine WP.cond rfl (fun h3 => ?_) (fun h3 => ?_)
    · have h3 := of_decide_eq_true h3
      obtain ⟨hp, hpe, hg0, hgr⟩ := hya i (by omega)
      have hgl := isReg_len hgr
      have hzr : Rs G (bagS 61 rectT ysv14 :: L) rectT (gd ysv14 i).v (gd ysv14 i).xs := Rs.inBag (L := bagS 61 rectT ysv14 :: L) (L' := L) (e := 61) i (by omega)
      have hft := filter_take (isCh (er xs)) hp
      rw [hpe] at hft
      refine WP.skip ?_
      refine WP.seq ?_
      refine WP.block ?_
      refine WP.seq ?_
      refine WP.region ?_
      refine RG.pv rfl (PV.move (v := v) rfl rfl) ?_
      refine RG.pv rfl (PV.move (v := v14) rfl rfl) ?_
      refine RG.pv rfl (PV.mvI (.inl rfl) rfl) ?_
      refine RG.pv rfl (PV.idxS (v := v14) rfl Is29 rfl SlF.o rfl rfl (by omega)) ?_
      refine RG.pv rfl (PV.loadE1 rfl Sc56 rfl rfl (El.o (getG (by omega))) rfl) ?_
      refine RG.callF (vs := [v, _]) rfl rfl En122 rfl (l24Channel_s (Rs.up h1) hd.up (Rs.inBag (xs := ysv14) i (by omega)) hlay hg0 hgr ?_)
      refine RG.pv rfl (PV.move (v := .tuple _) rfl rfl) ?_
      refine RG.pv rfl (PV.ext rfl rfl rfl) ?_
      refine RG.pv rfl (PV.ext rfl rfl rfl) ?_
      refine RG.pv rfl (PV.mvI (.inr rfl) rfl) ?_
      refine RG.pv rfl (PV.mvI (.inr rfl) rfl) ?_
      refine RG.nil ?_
      refine WP.seq ?_
      refine WP.region ?_
      refine RG.pv rfl (PV.mvI (.inl rfl) rfl) ?_
      refine RG.pv rfl (PV.geq rfl rfl rfl) ?_
      refine RG.nil ?_
      refine WP.cond rfl (fun h4 => ?_) (fun h4 => ?_)
      · have h5 : isCh (er xs) (gd ysv14 i).xs = true := h4
        rw [if_pos h5] at hft
        refine WP.region ?_
        refine RG.pv rfl (PV.move (v := q) rfl rfl) ?_
        refine RG.pv rfl (PV.move (v := v14) rfl rfl) ?_
        refine RG.pv rfl (PV.mvI (.inl rfl) rfl) ?_
        refine RG.pv rfl (PV.idxS (v := v14) rfl Is29 rfl SlF.o rfl rfl (by omega)) ?_
        refine RG.pv rfl (PV.loadE1 rfl Sc56 rfl rfl (El.o (getG (by omega))) rfl) ?_
        refine RG.pv rfl (PV.idxS (j := 0) rfl Is56 rfl (SlF.r hzr) rfl (by omega) (by omega)) ?_
        refine RG.pv rfl (PV.loadE rfl Ag61 rfl rfl (El.r hzr (getG (by omega)))) ?_
        refine RG.ot rfl (OT.bslice (F := rectT) (els := [_]) rfl El56 rfl (by decide) rfl (by decide) ⟨rfl, (Cl.c rfl), trivial⟩ fun v39 => ?_)
        refine RG.ot rfl (OT.append (v := q) (u := v39) (F := rectT) rfl El56 rfl (by decide) rfl rfl Rs.o (OneL.c (fun _ => rfl)) rfl (by first | omega | (simp <;> omega)) fun v40 => ?_)
        refine RG.pv rfl (PV.asg (v := v40) rfl rfl) ?_
        refine RG.nil ?_
        refine WP.region ?_
        refine RG.pv rfl (PV.mvI (.inl rfl) rfl) ?_
        refine RG.pv rfl (PV.add rfl rfl rfl (by omega)) ?_
        refine RG.pv rfl (PV.mvI (.inr rfl) rfl) ?_
        refine RG.nil ?_
        exact ⟨rfl, i + 1, (us ++ [gd (gd ysv14 i).xs 0]), v40, ⟨by omega, by rw [hft, List.map_append, ← hus]; rfl⟩, ⟨rfl, rfl, trivial⟩, ⟨rfl, rfl, trivial⟩, Cv.p, by omega⟩
      · have h5 : ¬ isCh (er xs) (gd ysv14 i).xs = true := by rw [isCh, h4]; simp
        rw [if_neg h5, List.append_nil] at hft
        refine WP.skip ?_
        refine WP.region ?_
        refine RG.pv rfl (PV.mvI (.inl rfl) rfl) ?_
        refine RG.pv rfl (PV.add rfl rfl rfl (by omega)) ?_
        refine RG.pv rfl (PV.mvI (.inr rfl) rfl) ?_
        refine RG.nil ?_
        exact ⟨rfl, i + 1, us, q, ⟨by omega, by rw [hft]; exact hus⟩, ⟨rfl, rfl, trivial⟩, ⟨rfl, rfl, trivial⟩, Cv.p, by omega⟩
    · have h3 := of_decide_eq_false h3
      have hl : ysv14.length = (partsC (er xs)).length := by rw [← hev14, er_len]
      rw [List.take_of_length_le (by omega)] at hus
      rw [← hus] at k
      refine WP.exit ?_
      refine WP.seq ?_
      refine WP.region ?_
      refine RG.pv rfl (PV.move (v := q) rfl rfl) ?_
      refine RG.pv rfl (PV.asg (v := q) rfl rfl) ?_
      refine RG.nil ?_
      refine WP.ret ?_
      exact ⟨_, _, ResV.one rfl rfl, Cv.p, k q⟩
theorem l19Or_s {v u : Value} {xs ys : List Bool} (h1 : Rs G L boolT v xs) (h2 : Rs G L boolT u ys) (hl : xs.length = 6400) (hl' : ys.length = 6400) (k : ∀ v', R v' G (osl 4 boolT v' (zipB (fun p q => p || q) xs ys) :: L)) : CallT Tryz.prog 123 #[v, u] G L R := by
  have hzl := zipB_len (f := fun p q => p || q) hl hl'
  refine CallT.enter (args := _) Tryz.func123 rfl rfl (by kernel_rfl) rfl ?_
  refine WP.seq ?_
  refine WP.region ?_
  refine RG.pv rfl (PV.asg rfl rfl) ?_
  refine RG.nil ?_
  refine WP.seq ?_
  refine WP.region ?_
  refine RG.pv rfl (PV.move (v := v) rfl rfl) ?_
  refine RG.pv rfl (PV.len (v := v) rfl Tryz.underlying124 rfl (SlF.r h1)) ?_
  refine RG.ot rfl (OT.make (F := boolT) (a0 := false) rfl El124 rfl (by decide) rfl rfl (by omega) (by omega) fun v9 => ?_)
  refine RG.pv rfl (PV.asg (v := v9) rfl rfl) ?_
  refine RG.nil ?_
  refine WP.seq ?_
  refine WP.seq ?_
  refine WP.region ?_
  refine RG.pv rfl (PV.mvI (.inr rfl) rfl) ?_
  refine RG.nil ?_
  refine WP.block ?_
  refine WP.loop2 [0, 1, 5] (fun (i : Nat) (zs : List Bool) => i ≤ 6400 ∧ zs.length = 6400 ∧ ∀ j, j < i → zs[j]? = (zipB (fun p q => p || q) xs ys)[j]?) (fun (i : Nat) (zs : List Bool) => [(6, vi i)]) (fun (i : Nat) (zs : List Bool) => osl 4 boolT v9 zs :: L) (fun (i : Nat) (zs : List Bool) => 6400 - i) 0 (List.replicate xs.length false) ⟨by omega, by simp [hl], fun j h => by omega⟩ ⟨rfl, trivial⟩ Cv.p ?_
  rintro i zs τ ⟨hi, hl2, he⟩
  refine WP.seq ?_
  refine WP.seq ?_
  refine WP.region ?_
  refine RG.pv rfl (PV.mvI (.inl rfl) rfl) ?_
  refine RG.pv rfl (PV.move (v := v) rfl rfl) ?_
  refine RG.pv rfl (PV.len (v := v) rfl Tryz.underlying124 rfl (SlF.r h1)) ?_
  refine RG.pv rfl (PV.lss rfl rfl rfl) ?_
  refine RG.nil ?_
  refine WP.cond rfl (fun h3 => ?_) (fun h3 => ?_)
  · have h3 := of_decide_eq_true h3
    have hz := zipB_get (f := fun p q => p || q) (a := xs) (b := ys) (i := i) (by omega) (by omega)
    refine WP.skip ?_
    refine WP.seq ?_
    refine WP.block ?_
    refine WP.region ?_
    refine RG.pv rfl (PV.move (v := v9) rfl rfl) ?_
    refine RG.pv rfl (PV.mvI (.inl rfl) rfl) ?_
    refine RG.pv rfl (PV.move (v := v) rfl rfl) ?_
    refine RG.pv rfl (PV.mvI (.inl rfl) rfl) ?_
    refine RG.pv rfl (PV.idxS (v := v) rfl Is124 rfl (SlF.r h1) rfl rfl (by omega)) ?_
    refine RG.pv rfl (PV.loadE1 rfl Sc4 rfl rfl (El.r h1 (getG (by omega))) rfl) ?_
    refine RG.pv rfl (PV.mvB (.inl rfl) rfl) ?_
    refine RG.gs rfl rfl rfl (fun hp => (PV.move (v := u) rfl rfl)) ?_
    refine RG.gs rfl rfl rfl (fun hp => (PV.mvI (.inl rfl) rfl)) ?_
    refine RG.gs rfl rfl rfl (fun hp => (PV.idxS (v := u) rfl Is124 (gs_t hp) (SlF.r h2) (gs_t hp) rfl (by first | omega | (simp at hp; omega)))) ?_
    refine RG.gs rfl rfl rfl (fun hp => (PV.loadE1 rfl Sc4 (gs_t hp) rfl (El.r h2 (getG (by first | omega | (simp at hp; omega)))) rfl)) ?_
    refine RG.pv rfl (PV.pickO rfl rfl rfl (fun hq => gs_t (geqF hq))) ?_
    refine RG.pv rfl (PV.idxS (v := v9) rfl Is124 rfl SlF.o rfl rfl (by omega)) ?_
    refine RG.ot rfl (OT.storeE (F := boolT) rfl Sz4 rfl rfl rfl (Cl.c rfl) (OneC.c rfl) (by omega) ?_)
    refine RG.nil ?_
    refine WP.region ?_
    refine RG.pv rfl (PV.mvI (.inl rfl) rfl) ?_
    refine RG.pv rfl (PV.add rfl rfl rfl (by omega)) ?_
    refine RG.pv rfl (PV.mvI (.inr rfl) rfl) ?_
    refine RG.nil ?_
    exact ⟨rfl, i + 1, (zs.set i (gd xs i || gd ys i)), ⟨by omega, by simpa using hl2, set_pre he (by rw [hz]) (by omega)⟩, ⟨rfl, trivial⟩, ⟨rfl, rfl, rfl, trivial⟩, Cv.p, by omega⟩
  · have h3 := of_decide_eq_false h3
    obtain rfl := pre_eq he (by omega) (by omega)
    refine WP.exit ?_
    refine WP.seq ?_
    refine WP.region ?_
    refine RG.pv rfl (PV.move (v := v9) rfl rfl) ?_
    refine RG.pv rfl (PV.asg (v := v9) rfl rfl) ?_
    refine RG.nil ?_
    refine WP.ret ?_
    exact ⟨_, _, ResV.one rfl rfl, Cv.p, k v9⟩
theorem malf_r {v : Value} {xs : List (Sl Rect)} (h1 : Rs G L slT v xs) (hd : RsE G L rectT xs) (k : ∀ v', R v' G (osl 61 rectT v' (malfE (er xs)) :: L)) : CallT Tryz.prog 73 #[v] G L R := by
  refine CallT.enter (args := _) Tryz.func73 rfl rfl (by kernel_rfl) rfl ?_
  refine WP.seq ?_
  refine WP.region ?_
  refine RG.pv rfl (PV.asg rfl rfl) ?_
  refine RG.nil ?_
  refine WP.seq ?_
  refine WP.seq ?_
  refine WP.region ?_
  refine RG.pv rfl (PV.move (v := v) rfl rfl) ?_
  refine RG.callF (vs := [v]) rfl rfl En45 rfl (l19Layout_s (Rs.up h1) hd.up ?_)
  refine RG.pv rfl (PV.not rfl rfl) ?_
  refine RG.nil ?_
  refine WP.cond rfl (fun h2 => ?_) (fun h2 => ?_)
  · have h3 : isLay (er xs) = false := by simpa using h2
    have e : malfE (er xs) = [] := by rw [malfE, h3]; rfl
    rw [e] at k
    refine WP.seq ?_
    refine WP.region ?_
    refine RG.ot rfl (OT.bslice (F := rectT) (els := []) rfl El56 rfl (by decide) rfl (by decide) trivial fun v11 => ?_)
    refine RG.pv rfl (PV.asg (v := v11) rfl rfl) ?_
    refine RG.nil ?_
    refine WP.ret ?_
    exact ⟨_, _, ResV.one rfl rfl, Cv.p, k v11⟩
  · have hlay : isLay (er xs) = true := by simpa using h2
    have e : malfE (er xs) = canon (bits (malf (er xs)).flatten) := by rw [malfE, hlay]; rfl
    rw [e] at k
    refine WP.skip ?_
    refine WP.seq ?_
    refine WP.region ?_
    refine RG.ot rfl (OT.make (m := 6400) (F := boolT) (a0 := false) rfl El124 rfl (by decide) rfl rfl (by omega) (by omega) fun v12 => ?_)
    refine RG.pv rfl (PV.asg (v := v12) rfl rfl) ?_
    refine RG.nil ?_
    refine WP.seq ?_
    refine WP.region ?_
    refine RG.pv rfl (PV.move (v := v) rfl rfl) ?_
    refine RG.callF (vs := [v]) rfl rfl En121 rfl (l24Parts_s (Rs.up h1) hd.up hlay (fun v14 ysv14 hev14 => ?_))
    refine RG.pv rfl (PV.asg (v := v14) rfl rfl) ?_
    refine RG.nil ?_
    refine WP.seq ?_
    refine WP.seq ?_
    refine WP.region ?_
    refine RG.pv rfl (PV.mvI (.inr rfl) rfl) ?_
    refine RG.nil ?_
    refine WP.block ?_
    obtain ⟨hyl, hya⟩ := partsC_at hev14
    refine WP.loop3 [0, 4] (fun (i : Nat) (us : List Bool) (q : Value) => i ≤ ysv14.length ∧ us = bits (((partsC (er xs)).take i).filter (fun g => !isCh (er xs) g)).flatten) (fun (i : Nat) (us : List Bool) (q : Value) => [(5, vi i), (3, q)]) (fun (i : Nat) (us : List Bool) (q : Value) => osl 4 boolT q us :: osl 56 slT v14 ysv14 :: bagS 61 rectT ysv14 :: L) (fun (i : Nat) (us : List Bool) (q : Value) => ysv14.length - i) 0 (List.replicate 6400 false) v12 ⟨by omega, by rw [← bits_nil]; rfl⟩ ⟨rfl, rfl, trivial⟩ Cv.p ?_
    rintro i us q τ ⟨hi, hus⟩
    refine WP.seq ?_
    refine WP.seq ?_
    refine WP.region ?_
    refine RG.pv rfl (PV.mvI (.inl rfl) rfl) ?_
    refine RG.pv rfl (PV.move (v := v14) rfl rfl) ?_
    refine RG.pv rfl (PV.len (v := v14) rfl Tryz.underlying29 rfl SlF.o) ?_
    refine RG.pv rfl (PV.lss rfl rfl rfl) ?_
    refine RG.nil ?_
    refine WP.cond rfl (fun h3 => ?_) (fun h3 => ?_)
    · have h3 := of_decide_eq_true h3
      obtain ⟨hp, hpe, hg0, hgr⟩ := hya i (by omega)
      have hgl := isReg_len hgr
      have hzr : Rs G (bagS 61 rectT ysv14 :: L) rectT (gd ysv14 i).v (gd ysv14 i).xs := Rs.inBag (L := bagS 61 rectT ysv14 :: L) (L' := L) (e := 61) i (by omega)
      have hft := filter_take (fun g => !isCh (er xs) g) hp
      rw [hpe] at hft
      refine WP.skip ?_
      refine WP.seq ?_
      refine WP.block ?_
      refine WP.seq ?_
      refine WP.region ?_
      refine RG.pv rfl (PV.move (v := v) rfl rfl) ?_
      refine RG.pv rfl (PV.move (v := v14) rfl rfl) ?_
      refine RG.pv rfl (PV.mvI (.inl rfl) rfl) ?_
      refine RG.pv rfl (PV.idxS (v := v14) rfl Is29 rfl SlF.o rfl rfl (by omega)) ?_
      refine RG.pv rfl (PV.loadE1 rfl Sc56 rfl rfl (El.o (getG (by omega))) rfl) ?_
      refine RG.callF (vs := [v, _]) rfl rfl En122 rfl (l24Channel_s (Rs.up h1) hd.up (Rs.inBag (xs := ysv14) i (by omega)) hlay hg0 hgr ?_)
      refine RG.pv rfl (PV.move (v := .tuple _) rfl rfl) ?_
      refine RG.pv rfl (PV.ext rfl rfl rfl) ?_
      refine RG.pv rfl (PV.ext rfl rfl rfl) ?_
      refine RG.pv rfl (PV.mvI (.inr rfl) rfl) ?_
      refine RG.pv rfl (PV.mvI (.inr rfl) rfl) ?_
      refine RG.nil ?_
      refine WP.seq ?_
      refine WP.region ?_
      refine RG.pv rfl (PV.mvI (.inl rfl) rfl) ?_
      refine RG.pv rfl (PV.lss rfl rfl rfl) ?_
      refine RG.nil ?_
      refine WP.cond rfl (fun h4 => ?_) (fun h4 => ?_)
      · have h5 : isCh (er xs) (gd ysv14 i).xs = false := by
          have h4 := of_decide_eq_true h4
          rw [isCh, decide_eq_false_iff_not]; omega
        simp only [h5, Bool.not_false, if_true] at hft
        refine WP.region ?_
        refine RG.pv rfl (PV.move (v := q) rfl rfl) ?_
        refine RG.pv rfl (PV.move (v := v14) rfl rfl) ?_
        refine RG.pv rfl (PV.mvI (.inl rfl) rfl) ?_
        refine RG.pv rfl (PV.idxS (v := v14) rfl Is29 rfl SlF.o rfl rfl (by omega)) ?_
        refine RG.pv rfl (PV.loadE1 rfl Sc56 rfl rfl (El.o (getG (by omega))) rfl) ?_
        refine RG.callF (vs := [_]) rfl rfl En86 rfl (l03Bits_s (Rs.inBag (xs := ysv14) i (by omega)) (fun j hj => valid_get (isReg_valid hgr) hj) (fun v37 => ?_))
        refine RG.callF (vs := [q, v37]) rfl rfl En123 rfl (l19Or_s Rs.o Rs.o (by rw [hus]; exact bits_length _) (bits_length _) (fun v38 => ?_))
        refine RG.pv rfl (PV.asg (v := v38) rfl rfl) ?_
        refine RG.nil ?_
        refine WP.region ?_
        refine RG.pv rfl (PV.mvI (.inl rfl) rfl) ?_
        refine RG.pv rfl (PV.add rfl rfl rfl (by omega)) ?_
        refine RG.pv rfl (PV.mvI (.inr rfl) rfl) ?_
        refine RG.nil ?_
        exact ⟨rfl, i + 1, (zipB (fun p q => p || q) us (bits (gd ysv14 i).xs)), v38, ⟨by omega, by rw [hft, List.flatten_append, bits_app, ← hus]; simp⟩, ⟨rfl, rfl, trivial⟩, ⟨rfl, rfl, trivial⟩, Cv.p, by omega⟩
      · have h5 : isCh (er xs) (gd ysv14 i).xs = true := by
          have h4 := of_decide_eq_false h4
          rw [isCh, decide_eq_true_iff]; omega
        simp only [h5, Bool.not_true, Bool.false_eq_true, if_false, List.append_nil] at hft
        refine WP.skip ?_
        refine WP.region ?_
        refine RG.pv rfl (PV.mvI (.inl rfl) rfl) ?_
        refine RG.pv rfl (PV.add rfl rfl rfl (by omega)) ?_
        refine RG.pv rfl (PV.mvI (.inr rfl) rfl) ?_
        refine RG.nil ?_
        exact ⟨rfl, i + 1, us, q, ⟨by omega, by rw [hft]; exact hus⟩, ⟨rfl, rfl, trivial⟩, ⟨rfl, rfl, trivial⟩, Cv.p, by omega⟩
    · have h3 := of_decide_eq_false h3
      have hl : ysv14.length = (partsC (er xs)).length := by rw [← hev14, er_len]
      have hus2 := hus
      rw [List.take_of_length_le (by omega)] at hus2
      have e2 : canon (bits (malf (er xs)).flatten) = canon us := by rw [hus2]; rfl
      rw [e2] at k
      refine WP.exit ?_
      refine WP.seq ?_
      refine WP.region ?_
      refine RG.pv rfl (PV.move (v := q) rfl rfl) ?_
      refine RG.callF (vs := [q]) rfl rfl En108 rfl (l03Canon_s Rs.o (by rw [hus]; exact bits_length _) (fun v40 => ?_))
      refine RG.pv rfl (PV.asg (v := v40) rfl rfl) ?_
      refine RG.nil ?_
      refine WP.ret ?_
      exact ⟨_, _, ResV.one rfl rfl, Cv.p, k v40⟩
theorem boxesE_len (l : List (List Rect)) : (boxesE l).length ≤ 6400 := by
  unfold boxesE; cases isLay l
  · exact Nat.zero_le _
  · rw [cond_true, List.length_map]; exact chans_len l
theorem malfE_len (l : List (List Rect)) : (malfE l).length ≤ 6400 := by
  unfold malfE; cases isLay l
  · exact Nat.zero_le _
  · rw [cond_true]; have := canon_len (bits (malf l).flatten); omega
end Go.Proofs.YtmomfgfmnpblpaaGreat
namespace Go.Proofs.YtmomfgfmnpblpaaGreat
set_option linter.unusedVariables false
set_option linter.unusedSimpArgs false
open Go
set_option linter.unusedSimpArgs false
set_option maxRecDepth 20000
theorem least {P : Nat → Prop} (n : Nat) : P n → ∃ m, P m ∧ ∀ i, i < m → ¬ P i := by
  induction n using Nat.strongRecOn with
  | ind n ih =>
    intro h
    by_cases c : ∃ i, i < n ∧ P i
    · obtain ⟨i, hi, hp⟩ := c; exact ih i hi hp
    · exact ⟨n, h, fun i hi hp => c ⟨i, hi, hp⟩⟩
theorem comps_cover {S : List Bool} {y x : Nat} (hy : y < 80) (hx : x < 80) : ((comps S).any fun c => gb c y x) = gb S y x := by
  classical
  rw [Bool.eq_iff_iff, List.any_eq_true]
  constructor
  · rintro ⟨c, hc, h⟩
    obtain ⟨j, hj, rfl⟩ := List.mem_map.1 hc
    have hf : First S j := by simpa using (List.mem_filter.1 hj).2
    exact (((comp_iff hy hx).1 h).on hf.1).2.2
  · intro h
    have hon : On S (y, x) := ⟨hy, hx, h⟩
    obtain ⟨m, h1, hmin⟩ := least (P := fun i => On S (cel i) ∧ Conn S (cel i) (y, x)) (pos (y, x)) (by simp only [cel_pos (a := (y, x)) hx]; exact ⟨hon, .refl⟩)
    have hm : m < 6400 := by
      have a1 := h1.1.1; have a2 := h1.1.2.1
      simp only [cel] at a1 a2; omega
    have hf : First S m := ⟨h1.1, fun i hi ho hc => hmin i hi ⟨ho, hc.trans h1.2⟩⟩
    refine ⟨compB S (cel m), List.mem_map.2 ⟨m, List.mem_filter.2 ⟨List.mem_range.2 hm, by simpa using hf⟩, rfl⟩, (comp_iff hy hx).2 h1.2⟩
theorem cnt_sum {bs : List Bool} : ∀ n, n ≤ bs.length → cnt (bs.take n) = sumF (fun k => one (gd bs k)) n
  | 0, _ => by simp [cnt, sumF]
  | n + 1, h => by rw [cnt_take (by omega), cnt_sum n (by omega), sumF]; rfl
theorem cnt_sum' {bs : List Bool} (h : bs.length = 6400) : cnt bs = sumF (fun k => one (gd bs k)) 6400 := by
  rw [← cnt_sum 6400 (by omega), List.take_of_length_le (by omega)]
/-- the parts of a set have as many cells as the set -/
theorem comps_cnt {S : List Bool} (hS : S.length = 6400) : costL cnt (comps S) = cnt S := by
  rw [costL_congr (g := fun c => sumF (fun k => one (gd c k)) 6400) fun c hc => cnt_sum' (comps_mem hc), ← sumF_costL, cnt_sum' hS]
  refine sumF_congr fun n hn => ?_
  have e : n / 80 * 80 + n % 80 = n := by omega
  have hp : (comps S).Pairwise fun c d => ¬ (gd c n = true ∧ gd d n = true) := (comps_apart S).imp fun {c d} h ⟨h1, h2⟩ => h (n / 80) (n % 80) (by omega) (by omega) (by rw [gb, e]; exact h1) (by rw [gb, e]; exact h2)
  rw [← one_any hp]
  have := comps_cover (S := S) (y := n / 80) (x := n % 80) (by omega) (by omega)
  simp only [gb, e] at this
  rw [this]
theorem costL_perm {α : Type} (f : α → Int) {xs ys : List α} (h : xs.Perm ys) : costL f xs = costL f ys := by
  induction h with
  | nil => rfl
  | cons x _ ih => simp only [costL, ih]
  | swap x y l => simp only [costL]; omega
  | trans _ _ ih1 ih2 => rw [ih1, ih2]
theorem costL_map {α β : Type} (f : β → Int) (g : α → β) : ∀ xs : List α, costL f (xs.map g) = costL (fun x => f (g x)) xs
  | [] => rfl
  | x :: xs => by simp only [List.map_cons, costL, costL_map f g xs]
theorem costL_flatten {α : Type} (f : α → Int) : ∀ xs : List (List α), costL f xs.flatten = costL (costL f) xs
  | [] => rfl
  | x :: xs => by rw [List.flatten_cons, costL_append, costL_flatten f xs]; rfl
theorem costL_one {α : Type} (xs : List α) : costL (fun _ => 1) xs = xs.length := by rw [costL_const]; omega
theorem pcL_cnt (l : List (List Rect)) : costL (fun p => cnt p.2) (pcL l 4) = costL cnt (condB l) := by
  have h : ∀ i, i < 4 → costL (fun p : Int × List Bool => cnt p.2) ((comps (gd (condB l) i)).map fun c => (gd [0, 1, 3, 5] i, c)) = cnt (gd (condB l) i) := fun i hi => by
    rw [costL_map, ← comps_cnt (condB_len l hi)]
  have h0 : pcL l 0 = [] := rfl
  rw [pcL_succ, pcL_succ, pcL_succ, pcL_succ, costL_append, costL_append, costL_append, costL_append, h 0 (by omega), h 1 (by omega), h 2 (by omega), h 3 (by omega), h0]
  simp only [costL, condB, gd, List.getElem?_cons_zero, List.getElem?_cons_succ, Option.getD_some]; omega
/-- the cells of a net, told by its pieces -/
def netCE (z : List (Int × List Rect)) : Int := netC (z.map Prod.snd)
theorem netL_mem {l : List (List Rect)} {z : List (Int × List Rect)} (h : z ∈ netL l) : ∀ p ∈ z, ∃ q ∈ pcL l 4, p = pcR q := by
  intro p hp
  have hm : p ∈ (netL l).flatten := List.mem_flatten.2 ⟨z, h, hp⟩
  have hlen : ((pcL l 4).map pcR).length = (pcL l 4).length := by simp
  have := netsP_perm (clsL_rt l) ((pcL l 4).map pcR) (by rw [clsL_len, hlen])
  rw [hlen] at this
  have := this.mem_iff.1 hm
  obtain ⟨q, hq, rfl⟩ := List.mem_map.1 this
  exact ⟨q, hq, rfl⟩
theorem netL_perm (l : List (List Rect)) : (netL l).flatten.Perm ((pcL l 4).map pcR) := by
  have hlen : ((pcL l 4).map pcR).length = (pcL l 4).length := by simp
  have := netsP_perm (clsL_rt l) ((pcL l 4).map pcR) (by rw [clsL_len, hlen])
  rw [hlen] at this; exact this
theorem netCE_eq {z : List (Int × List Rect)} (h : ∀ p ∈ z, isReg p.2 = true) : netCE z = costL (fun p => areaS p.2) z := by
  rw [netCE, netC_all fun i hi => ?_, costL_map]
  rw [List.length_map] at hi
  rw [gd_map _ hi]; exact h _ (by rw [gd_eq hi]; exact List.getElem_mem hi)
theorem netL_reg {l : List (List Rect)} {z : List (Int × List Rect)} (h : z ∈ netL l) : ∀ p ∈ z, isReg p.2 = true := fun p hp => by
  obtain ⟨q, hq, rfl⟩ := netL_mem h p hp
  exact isReg_canon (pcL_mem hq)
/-- the nets have the cells of the conductors -/
theorem netL_cells (l : List (List Rect)) : costL netCE (netL l) = costL cnt (condB l) := by
  rw [costL_congr (g := costL fun p => areaS p.2) fun z hz => netCE_eq (netL_reg hz), ← costL_flatten, costL_perm _ (netL_perm l), costL_map, ← pcL_cnt]
  exact costL_congr fun p hp => cnt_canon (pcL_mem hp)
theorem netL_count (l : List (List Rect)) : costL (fun z => (z.length : Int)) (netL l) = ((pcL l 4).length : Int) := by
  have h := costL_flatten (fun _ => 1) (netL l)
  rw [costL_one, (netL_perm l).length_eq, List.length_map] at h
  rw [h]; exact costL_congr fun z _ => (costL_one z).symm
theorem stepJ_keep {J : Nat → Nat → Bool} {i k a b : Nat} {c : List Int} (ha : a < c.length) (hb : b < c.length) (h : gd c a = gd c b) : gd (stepJ J i c k) a = gd (stepJ J i c k) b := by
  unfold stepJ
  split
  · exact h
  · rw [gd_map _ ha, gd_map _ hb, h]
theorem inJ_keep {J : Nat → Nat → Bool} {i a b : Nat} {c : List Int} (ha : a < c.length) (hb : b < c.length) (h : gd c a = gd c b) : ∀ k, gd (inJ J i c k) a = gd (inJ J i c k) b
  | 0 => by rw [inJ_zero, gd_app_l ha, gd_app_l hb, h]
  | k + 1 => by
    rw [inJ_succ]
    exact stepJ_keep (by rw [inJ_len]; omega) (by rw [inJ_len]; omega) (inJ_keep ha hb h k)
theorem rootsJ_keep {J : Nat → Nat → Bool} {a b n : Nat} (ha : a < n) (hb : b < n) (h : gd (rootsJ J n) a = gd (rootsJ J n) b) : ∀ m, n ≤ m → gd (rootsJ J m) a = gd (rootsJ J m) b
  | 0, hm => by omega
  | m + 1, hm => by
    by_cases e : n = m + 1
    · rw [← e]; exact h
    · rw [rootsJ]
      exact inJ_keep (by rw [rootsJ_len]; omega) (by rw [rootsJ_len]; omega) (rootsJ_keep ha hb h m (by omega)) m
theorem inJ_join {J : Nat → Nat → Bool} {i k : Nat} {c : List Int} (hc : c.length = i) (hk : k < i) (hJ : J k i = true) : ∀ m, k < m → gd (inJ J i c m) k = gd (inJ J i c m) i
  | 0, h => by omega
  | m + 1, h => by
    rw [inJ_succ]
    have hl := inJ_len J i c m
    by_cases e : k = m
    · subst e
      unfold stepJ
      split
      · rename_i h1
        rcases h1 with h1 | h1
        · exact h1
        · rw [hJ] at h1; cases h1
      · rw [gd_map _ (by omega), gd_map _ (by omega)]
        simp only [rl]
        split <;> split <;> omega
    · exact stepJ_keep (by omega) (by omega) (inJ_join hc hk hJ m (by omega))
theorem rootsJ_join {J : Nat → Nat → Bool} {k i n : Nat} (hk : k < i) (hi : i < n) (hJ : J k i = true) : gd (rootsJ J n) k = gd (rootsJ J n) i := by
  refine rootsJ_keep (n := i + 1) (by omega) (by omega) ?_ n (by omega)
  rw [rootsJ]
  exact inJ_join (rootsJ_len J i) hk hJ i hk
theorem jnL_symm (l : List (List Rect)) (p q : Int × List Bool) : jnL l p q = jnL l q p := by
  simp only [jnL, jnR_eq, mt_comm p.2 q.2]
  rw [show decide (p.1 = q.1) = decide (q.1 = p.1) by rw [Bool.eq_iff_iff]; simp; omega, Bool.or_comm (decide (p.1 = 3)), Bool.or_comm (decide (p.1 = 5))]
/-- joined pieces are on one net -/
theorem numR_join {l : List (List Rect)} {k i : Nat} (hk : k < (pcL l 4).length) (hi : i < (pcL l 4).length) (h : jnL l (gd (pcL l 4) k) (gd (pcL l 4) i) = true) : numR (clsL l) k = numR (clsL l) i := by
  have key : gd (clsL l) k = gd (clsL l) i := by
    rcases Nat.lt_trichotomy k i with c | c | c
    · exact rootsJ_join c hi h
    · rw [c]
    · exact (rootsJ_join (J := JL l) c hk (by rw [JL, jnL_symm]; exact h)).symm
  rw [numR, numR, key]
end Go.Proofs.YtmomfgfmnpblpaaGreat
namespace Go.Proofs.YtmomfgfmnpblpaaGreat
set_option linter.unusedVariables false
set_option linter.unusedSimpArgs false
open Go
set_option maxRecDepth 20000
set_option linter.unusedSimpArgs false
variable {G : Gh} {L : List Ch} {R : Value → Gh → List Ch → Prop}
theorem canon_pos {bs : List Bool} (h : bs.length = 6400) : 0 < (canon bs).length ↔ ∃ y x, y < 80 ∧ x < 80 ∧ gb bs y x = true := by
  constructor
  · intro h0
    have hv := valid_first h0 (isReg_canon h)
    obtain ⟨y, x, hy, hx, hi⟩ := valid_cell hv
    exact ⟨y, x, hy, hx, by rw [← bits_canon h]; exact (gb_bits_iff hy hx).2 ⟨_, gd_mem h0, hi⟩⟩
  · rintro ⟨y, x, hy, hx, hg⟩
    rw [← bits_canon h] at hg
    obtain ⟨r, hr, _⟩ := (gb_bits_iff hy hx).1 hg
    exact List.length_pos_of_mem hr
theorem malfE_pos {l : List (List Rect)} (hl : isLay l = true) : 0 < (malfE l).length ↔ 0 < (malf l).length := by
  rw [malfE, hl, cond_true, canon_pos (bits_length _)]
  constructor
  · rintro ⟨y, x, hy, hx, hg⟩
    obtain ⟨r, hr, _⟩ := (gb_bits_iff hy hx).1 hg
    obtain ⟨g, hg, _⟩ := List.mem_flatten.1 hr
    exact List.length_pos_of_mem hg
  · intro h0
    have hm : gd (malf l) 0 ∈ malf l := gd_mem h0
    have hp := partsC_ne (List.mem_filter.1 hm).1
    obtain ⟨y, x, hy, hx, hi⟩ := valid_cell (valid_first hp.1 hp.2)
    exact ⟨y, x, hy, hx, (gb_bits_iff hy hx).2 ⟨_, List.mem_flatten.2 ⟨_, hm, gd_mem hp.1⟩, hi⟩⟩
theorem chanE_mem {l : List (List Rect)} {c : Chan} (hl : isLay l = true) (h : c ∈ chans l) : chanE l c.box = some c := by
  obtain ⟨g, hg, hi, rfl⟩ := chans_mem h
  have hne := partsC_ne hg
  have h1 := (chan_kind hne.1 hne.2 hi).1
  rw [chanE, hl, cond_true, chanW]
  cases hf : (chans l).find? (fun c => decide (c.box = (mkCh l g).box)) with
  | none => exfalso; rw [List.find?_eq_none] at hf; exact hf _ h (by simp)
  | some c' =>
    have hm := List.mem_of_find?_eq_some hf
    have hp := List.find?_some hf
    obtain ⟨g', hg', hi', rfl⟩ := chans_mem hm
    have h2 := (chan_kind (partsC_ne hg').1 (partsC_ne hg').2 hi').1
    have e : gd g' 0 = gd g 0 := of_decide_eq_true hp
    have : g' = g := by
      match g, g', h1, h2, e with
      | [a], [b], _, _, e => simpa [gd] using e
    rw [this]
/-- what the reference finds at the rectangle of a channel -/
theorem has_chan {l : List (List Rect)} {c : Chan} (hl : isLay l = true) (h : c ∈ chans l) : (hasK l c.box).1 = c.kind ∧ decide ((hasK l c.box).2 = 2) = (!c.hor) ∧ sizeR c.box (hasK l c.box).2 = sizeC c ∧ validRect c.box = true := by
  have he := chanE_mem hl h
  have hv := chan_valid h
  have hk := kindE_eq l c.box
  have hs := sizeE_eq l c.box
  rw [he] at hk hs
  rw [kindE, hl, cond_true] at hk
  rw [sizeE, hl, cond_true, if_neg (by rw [hk]; simp only; omega)] at hs
  refine ⟨hk, ?_, hs, hv.1⟩
  rcases hasK_ch (box := c.box) hl with ⟨q1, q2⟩ | ⟨c', q2, q1, q3⟩
  · rw [he] at q2; cases q2
  · rw [he] at q2; cases q2; exact q3
theorem boxes_ch {l : List (List Rect)} (hl : isLay l = true) : boxesE l = (chans l).map Chan.box := by rw [boxesE, hl]; rfl
theorem devices_r {v : Value} {xs : List (Sl Rect)} (h1 : Rs G L slT v xs) (hd : RsE G L rectT xs) (k : ∀ v' ds, ds.map erD = devR (er xs) → R (.tuple #[v', vi (devC (er xs))]) G (osl 64 devT v' ds :: bagS 2 intT (pinsOf ds) :: L)) : CallT Tryz.prog 30 #[v] G L R := by
  have hcl : (clsL (er xs)).length ≤ 25600 := by rw [clsL_len]; exact pcL_len (er xs) 4
  refine CallT.enter (args := _) Tryz.func30 rfl rfl (by kernel_rfl) rfl ?_
  refine WP.seq ?_
  refine WP.region ?_
  refine RG.pv rfl (PV.asg rfl rfl) ?_
  refine RG.pv rfl (PV.mvI (.inr rfl) rfl) ?_
  refine RG.nil ?_
  refine WP.seq ?_
  refine WP.seq ?_
  refine WP.region ?_
  refine RG.pv rfl (PV.move (v := v) rfl rfl) ?_
  refine RG.callF (vs := [v]) rfl rfl En72 rfl (nets_r (Rs.up h1) hd.up (fun w18 zsw18 hew18 => ?_))
  refine RG.pv rfl (PV.move (v := .tuple _) rfl rfl) ?_
  refine RG.pv rfl (PV.ext (v := w18) rfl rfl rfl) ?_
  refine RG.pv rfl (PV.ext rfl rfl rfl) ?_
  refine RG.pv rfl (PV.asg (v := w18) rfl rfl) ?_
  refine RG.pv rfl (PV.mvI (.inr rfl) rfl) ?_
  refine RG.nil ?_
  refine WP.seq ?_
  refine WP.region ?_
  refine RG.pv rfl (PV.mvI (.inl rfl) rfl) ?_
  refine RG.pv rfl (PV.neq rfl rfl rfl) ?_
  refine RG.nil ?_
  refine WP.cond rfl (fun h2 => ?_) (fun h2 => ?_)
  · have h3 : netE (er xs) ≠ 0 := by simpa using h2
    have e1 : devC (er xs) = netE (er xs) := by rw [devC, if_neg h3]
    have e2 : devR (er xs) = [] := by rw [devR, e1, if_neg h3]
    rw [e1, e2] at k
    refine WP.seq ?_
    refine WP.region ?_
    refine RG.ot rfl (OT.bslice (F := devT) (els := []) rfl El53 rfl (by decide) rfl (by decide) trivial fun v23 => ?_)
    refine RG.pv rfl (PV.mvI (.inl rfl) rfl) ?_
    refine RG.pv rfl (PV.asg (v := v23) rfl rfl) ?_
    refine RG.pv rfl (PV.mvI (.inr rfl) rfl) ?_
    refine RG.nil ?_
    refine WP.ret ?_
    exact ⟨_, _, ResV.two rfl rfl rfl, ((Cv.p (C := osl 64 devT v23 ([] : List Dev) :: L)).trans (Cv.cons (Cv.bag0 (e := 2) (F := intT) (xs := pinsOf []) rfl))), k _ [] rfl⟩
  · have h3 : netE (er xs) = 0 := by simpa using h2
    have hlay := (netE_ok h3).1
    have hmp := malfE_pos hlay
    refine WP.skip ?_
    refine WP.seq ?_
    refine WP.seq ?_
    refine WP.region ?_
    refine RG.pv rfl (PV.move (v := v) rfl rfl) ?_
    refine RG.callF (vs := [v]) rfl rfl En73 rfl (malf_r (Rs.up h1) hd.up (fun v26 => ?_))
    refine RG.pv rfl (PV.len (v := v26) rfl Tryz.underlying56 rfl SlF.o) ?_
    refine RG.pv rfl (PV.gtr rfl rfl rfl) ?_
    refine RG.nil ?_
    refine WP.cond rfl (fun h4 => ?_) (fun h4 => ?_)
    · have h4 := of_decide_eq_true h4
      have e1 : devC (er xs) = 6 := by rw [devC, if_pos h3, if_pos (by omega)]
      have e2 : devR (er xs) = [] := by rw [devR, e1, if_neg (by omega)]
      rw [e1, e2] at k
      refine WP.seq ?_
      refine WP.region ?_
      refine RG.ot rfl (OT.bslice (F := devT) (els := []) rfl El53 rfl (by decide) rfl (by decide) trivial fun v29 => ?_)
      refine RG.pv rfl (PV.asg (v := v29) rfl rfl) ?_
      refine RG.pv rfl (PV.mvI (.inr rfl) rfl) ?_
      refine RG.nil ?_
      refine WP.ret ?_
      exact ⟨_, _, ResV.two rfl rfl rfl, ((Cv.p (C := osl 64 devT v29 ([] : List Dev) :: L)).trans (Cv.cons (Cv.bag0 (e := 2) (F := intT) (xs := pinsOf []) rfl))), k _ [] rfl⟩
    · have h4 := of_decide_eq_false h4
      have hbx := boxes_ch hlay
      have hbl : (boxesE (er xs)).length = (chans (er xs)).length := by rw [hbx, List.length_map]
      have hcb := chans_len (er xs)
      refine WP.skip ?_
      refine WP.seq ?_
      refine WP.region ?_
      refine RG.pv rfl (PV.move (v := v) rfl rfl) ?_
      refine RG.callF (vs := [v]) rfl rfl En74 rfl (channels_r (Rs.up h1) hd.up (fun v31 => ?_))
      refine RG.pv rfl (PV.asg (v := v31) rfl rfl) ?_
      refine RG.nil ?_
      refine WP.seq ?_
      refine WP.seq ?_
      refine WP.region ?_
      refine RG.pv rfl (PV.move (v := v31) rfl rfl) ?_
      refine RG.pv rfl (PV.len (v := v31) rfl Tryz.underlying56 rfl SlF.o) ?_
      refine RG.pv rfl (PV.gtr rfl rfl rfl) ?_
      refine RG.nil ?_
      refine WP.cond rfl (fun h5 => ?_) (fun h5 => ?_)
      · have h5 := of_decide_eq_true h5
        have e1 : devC (er xs) = 3 := by rw [devC, if_pos h3, if_neg (by omega), if_pos (by omega)]
        have e2 : devR (er xs) = [] := by rw [devR, e1, if_neg (by omega)]
        rw [e1, e2] at k
        refine WP.seq ?_
        refine WP.region ?_
        refine RG.ot rfl (OT.bslice (F := devT) (els := []) rfl El53 rfl (by decide) rfl (by decide) trivial fun v35 => ?_)
        refine RG.pv rfl (PV.asg (v := v35) rfl rfl) ?_
        refine RG.pv rfl (PV.mvI (.inr rfl) rfl) ?_
        refine RG.nil ?_
        refine WP.ret ?_
        exact ⟨_, _, ResV.two rfl rfl rfl, ((Cv.p (C := osl 64 devT v35 ([] : List Dev) :: L)).trans (Cv.cons (Cv.bag0 (e := 2) (F := intT) (xs := pinsOf []) rfl))), k _ [] rfl⟩
      · have h5 := of_decide_eq_false h5
        have e1 : devC (er xs) = 0 := by rw [devC, if_pos h3, if_neg (by omega), if_neg (by omega)]
        have e2 : devR (er xs) = (chans (er xs)).map (devOf (er xs)) := by rw [devR, if_pos e1]
        rw [e1, e2] at k
        refine WP.skip ?_
        refine WP.seq ?_
        refine WP.region ?_
        refine RG.pv rfl (PV.move (v := v) rfl rfl) ?_
        refine RG.callF (vs := [v]) rfl rfl En47 rfl (l23Parts_s (Rs.up h1) hd.up hlay (fun v37 csv37 hev37 => ?_))
        refine RG.pv rfl (PV.asg (v := v37) rfl rfl) ?_
        refine RG.nil ?_
        refine WP.seq ?_
        refine WP.region ?_
        refine RG.pv rfl (PV.move (v := v37) rfl rfl) ?_
        refine RG.pv rfl (PV.move (v := v) rfl rfl) ?_
        refine RG.callF (vs := [v37, v]) rfl rfl En49 rfl (l23Roots_s Rs.o RsE.o (Rs.up h1) hd.up hlay hev37 (fun v41 => ?_))
        refine RG.callF (vs := [v41]) rfl rfl En48 rfl (l23Numbers_s Rs.o (clsL_rt _) hcl (fun w42 => ?_))
        refine RG.pv rfl (PV.move (v := .tuple _) rfl rfl) ?_
        refine RG.pv rfl (PV.ext (v := w42) rfl rfl rfl) ?_
        refine RG.pv rfl (PV.ext rfl rfl rfl) ?_
        refine RG.pv rfl (PV.asg (v := w42) rfl rfl) ?_
        refine RG.pv rfl (PV.mvI (.inr rfl) rfl) ?_
        refine RG.nil ?_
        refine WP.seq ?_
        refine WP.region ?_
        refine RG.ot rfl (OT.bslice (F := devT) (els := []) rfl El53 rfl (by decide) rfl (by decide) trivial fun v45 => ?_)
        refine RG.pv rfl (PV.asg (v := v45) rfl rfl) ?_
        refine RG.nil ?_
        refine WP.seq ?_
        refine WP.seq ?_
        refine WP.region ?_
        refine RG.pv rfl (PV.mvI (.inr rfl) rfl) ?_
        refine RG.nil ?_
        refine WP.block ?_
        refine WP.cv ((Cv.p (C := osl 64 devT v45 ([] : List Dev) :: osl 61 rectT v31 (boxesE (er xs)) :: osl 127 partT v37 csv37 :: bagS 4 boolT (cels csv37) :: osl 2 intT w42 (nums (clsL (er xs))) :: L)).trans (Cv.cons (Cv.bag0 (e := 2) (F := intT) (xs := pinsOf []) rfl))) ?_
        refine WP.loop3 [0, 6, 7, 8] (fun (i : Nat) (ds : List Dev) (q : Value) => i ≤ (boxesE (er xs)).length ∧ ds.map erD = ((chans (er xs)).take i).map (devOf (er xs))) (fun (i : Nat) (ds : List Dev) (q : Value) => [(11, vi i), (10, q)]) (fun (i : Nat) (ds : List Dev) (q : Value) => osl 64 devT q ds :: bagS 2 intT (pinsOf ds) :: osl 61 rectT v31 (boxesE (er xs)) :: osl 127 partT v37 csv37 :: bagS 4 boolT (cels csv37) :: osl 2 intT w42 (nums (clsL (er xs))) :: L) (fun (i : Nat) (ds : List Dev) (q : Value) => (boxesE (er xs)).length - i) 0 [] v45 ⟨by omega, rfl⟩ ⟨rfl, rfl, trivial⟩ Cv.p ?_
        rintro i ds q τ ⟨hi, hds⟩
        refine WP.seq ?_
        refine WP.seq ?_
        refine WP.region ?_
        refine RG.pv rfl (PV.mvI (.inl rfl) rfl) ?_
        refine RG.pv rfl (PV.move (v := v31) rfl rfl) ?_
        refine RG.pv rfl (PV.len (v := v31) rfl Tryz.underlying56 rfl SlF.o) ?_
        refine RG.pv rfl (PV.lss rfl rfl rfl) ?_
        refine RG.nil ?_
        have hdl : ds.length = i := by have := congrArg List.length hds; simp at this; omega
        refine WP.cond rfl (fun h6 => ?_) (fun h6 => ?_)
        · have h6 := of_decide_eq_true h6
          have hcm : gd (chans (er xs)) i ∈ chans (er xs) := gd_mem (by omega)
          have hbi : gd (boxesE (er xs)) i = (gd (chans (er xs)) i).box := by rw [hbx, gd_map _ (by omega)]
          obtain ⟨q1, q2, q3, hbv⟩ := has_chan hlay hcm
          rw [← hbi] at q1 q2 q3 hbv
          refine WP.skip ?_
          refine WP.seq ?_
          refine WP.block ?_
          refine WP.seq ?_
          refine WP.region ?_
          refine RG.pv rfl (PV.move (v := v) rfl rfl) ?_
          refine RG.pv rfl (PV.move (v := v31) rfl rfl) ?_
          refine RG.pv rfl (PV.mvI (.inl rfl) rfl) ?_
          refine RG.pv rfl (PV.idxS (v := v31) rfl Is56 rfl SlF.o rfl rfl (by omega)) ?_
          refine RG.pv rfl (PV.loadE rfl Ag61 rfl rfl (El.o (getG (by omega)))) ?_
          refine RG.callF (vs := [v, _]) rfl rfl En75 rfl (l24Has_s (Rs.up h1) hd.up hlay ?_)
          refine RG.pv rfl (PV.move (v := .tuple _) rfl rfl) ?_
          refine RG.pv rfl (PV.ext rfl rfl rfl) ?_
          refine RG.pv rfl (PV.ext rfl rfl rfl) ?_
          refine RG.pv rfl (PV.mvI (.inr rfl) rfl) ?_
          refine RG.pv rfl (PV.mvI (.inr rfl) rfl) ?_
          refine RG.nil ?_
          refine WP.seq ?_
          refine WP.region ?_
          refine RG.pv rfl (PV.move (v := v31) rfl rfl) ?_
          refine RG.pv rfl (PV.mvI (.inl rfl) rfl) ?_
          refine RG.pv rfl (PV.idxS (v := v31) rfl Is56 rfl SlF.o rfl rfl (by omega)) ?_
          refine RG.pv rfl (PV.loadE rfl Ag61 rfl rfl (El.o (getG (by omega)))) ?_
          refine RG.pv rfl (PV.mvI (.inl rfl) rfl) ?_
          refine RG.callF (vs := [_, _]) rfl rfl En76 rfl (l24Size_s hbv ?_)
          refine RG.pv rfl (PV.move (v := .tuple _) rfl rfl) ?_
          refine RG.pv rfl (PV.ext rfl rfl rfl) ?_
          refine RG.pv rfl (PV.ext rfl rfl rfl) ?_
          refine RG.pv rfl (PV.mvI (.inr rfl) rfl) ?_
          refine RG.pv rfl (PV.mvI (.inr rfl) rfl) ?_
          refine RG.nil ?_
          refine WP.region ?_
          refine RG.pv rfl (PV.move (v := q) rfl rfl) ?_
          refine RG.pv rfl (PV.mvI (.inl rfl) rfl) ?_
          refine RG.pv rfl (PV.move (v := v37) rfl rfl) ?_
          refine RG.pv rfl (PV.move (v := w42) rfl rfl) ?_
          refine RG.pv rfl (PV.move (v := v31) rfl rfl) ?_
          refine RG.pv rfl (PV.mvI (.inl rfl) rfl) ?_
          refine RG.pv rfl (PV.idxS (v := v31) rfl Is56 rfl SlF.o rfl rfl (by omega)) ?_
          refine RG.pv rfl (PV.loadE rfl Ag61 rfl rfl (El.o (getG (by omega)))) ?_
          refine RG.pv rfl (PV.mvI (.inl rfl) rfl) ?_
          refine RG.callF (vs := [v37, w42, _, _]) rfl rfl En77 rfl (l24Pins_s Rs.o RsE.o Rs.o hev37 hbv (fun v79 => ?_))
          refine RG.pv rfl (PV.mvI (.inl rfl) rfl) ?_
          refine RG.pv rfl (PV.mvI (.inl rfl) rfl) ?_
          refine RG.pv rfl (PV.build (vs := [(0, [vi _]), (1, [v79]), (2, [vi _]), (3, [vi _])]) (out := [_, _, _, _]) rfl Zr64 Pl64 ⟨rfl, (Cl.c rfl), ⟨rfl, (Cl.s (v := v79) SlF.o), ⟨rfl, (Cl.c rfl), ⟨rfl, (Cl.c rfl), trivial⟩⟩⟩⟩ rfl) ?_
          refine RG.ot rfl (OT.bslice (F := devT) (els := [⟨(hasK (er xs) (gd (boxesE (er xs)) i)).1, ⟨v79, pinsL (er xs) (gd (boxesE (er xs)) i) (decide ((hasK (er xs) (gd (boxesE (er xs)) i)).2 = 2))⟩, (sizeR (gd (boxesE (er xs)) i) (hasK (er xs) (gd (boxesE (er xs)) i)).2).1, (sizeR (gd (boxesE (er xs)) i) (hasK (er xs) (gd (boxesE (er xs)) i)).2).2⟩]) rfl El53 rfl (by decide) rfl (by decide) ⟨rfl, (Cl.c rfl), trivial⟩ fun v83 => ?_)
          refine RG.ot rfl (OT.append (v := q) (u := v83) (F := devT) rfl El53 rfl (by decide) rfl rfl Rs.o (OneL.one (OneC.val rfl (OneC.sl SlF.o (OneC.val rfl (OneC.val rfl OneC.nil))))) rfl (by first | omega | (simp <;> omega)) fun v84 => ?_)
          refine RG.pv rfl (PV.asg (v := v84) rfl rfl) ?_
          refine RG.nil ?_
          refine WP.region ?_
          refine RG.pv rfl (PV.mvI (.inl rfl) rfl) ?_
          refine RG.pv rfl (PV.add rfl rfl rfl (by omega)) ?_
          refine RG.pv rfl (PV.mvI (.inr rfl) rfl) ?_
          refine RG.nil ?_
          exact ⟨rfl, i + 1, (ds ++ [⟨(hasK (er xs) (gd (boxesE (er xs)) i)).1, ⟨v79, pinsL (er xs) (gd (boxesE (er xs)) i) (decide ((hasK (er xs) (gd (boxesE (er xs)) i)).2 = 2))⟩, (sizeR (gd (boxesE (er xs)) i) (hasK (er xs) (gd (boxesE (er xs)) i)).2).1, (sizeR (gd (boxesE (er xs)) i) (hasK (er xs) (gd (boxesE (er xs)) i)).2).2⟩]), v84, ⟨by omega, by rw [List.take_add_one, getG (by omega), List.map_append, List.map_append, hds, q1, q2, q3, hbi]; rfl⟩, ⟨rfl, rfl, trivial⟩, ⟨rfl, rfl, rfl, rfl, trivial⟩, ((Cv.p (C := osl 2 intT v79 (pinsL (er xs) (gd (boxesE (er xs)) i) (decide ((hasK (er xs) (gd (boxesE (er xs)) i)).2 = 2))) :: bagS 2 intT (pinsOf ds) :: osl 64 devT v84 (ds ++ [⟨(hasK (er xs) (gd (boxesE (er xs)) i)).1, ⟨v79, pinsL (er xs) (gd (boxesE (er xs)) i) (decide ((hasK (er xs) (gd (boxesE (er xs)) i)).2 = 2))⟩, (sizeR (gd (boxesE (er xs)) i) (hasK (er xs) (gd (boxesE (er xs)) i)).2).1, (sizeR (gd (boxesE (er xs)) i) (hasK (er xs) (gd (boxesE (er xs)) i)).2).2⟩]) :: osl 61 rectT v31 (boxesE (er xs)) :: osl 127 partT v37 csv37 :: bagS 4 boolT (cels csv37) :: osl 2 intT w42 (nums (clsL (er xs))) :: L)).trans ((Cv.grow (ys' := pinsOf (ds ++ [⟨(hasK (er xs) (gd (boxesE (er xs)) i)).1, ⟨v79, pinsL (er xs) (gd (boxesE (er xs)) i) (decide ((hasK (er xs) (gd (boxesE (er xs)) i)).2 = 2))⟩, (sizeR (gd (boxesE (er xs)) i) (hasK (er xs) (gd (boxesE (er xs)) i)).2).1, (sizeR (gd (boxesE (er xs)) i) (hasK (er xs) (gd (boxesE (er xs)) i)).2).2⟩])) (by simp [pinsOf])).trans Cv.p)), by omega⟩
        · have h6 := of_decide_eq_false h6
          have hds2 : ds.map erD = (chans (er xs)).map (devOf (er xs)) := by rw [hds, List.take_of_length_le (by omega)]
          refine WP.exit ?_
          refine WP.seq ?_
          refine WP.region ?_
          refine RG.pv rfl (PV.move (v := q) rfl rfl) ?_
          refine RG.pv rfl (PV.asg (v := q) rfl rfl) ?_
          refine RG.pv rfl (PV.mvI (.inr rfl) rfl) ?_
          refine RG.nil ?_
          refine WP.ret ?_
          exact ⟨_, _, ResV.two rfl rfl rfl, Cv.p, k q ds hds2⟩
def nDE (e : Int × List Int × Int × Int) : Int := 3 + costL nI e.2.1
theorem nDev_er (ds : List Dev) : costL nDev ds = costL nDE (ds.map erD) := (costL_map nDE erD ds).symm
theorem devR_cost (l : List (List Rect)) : costL nDE (devR l) ≤ 6 * 24 ∧ (devR l).length ≤ 24 := by
  unfold devR
  split
  · rename_i h
    have hl : (chans l).length ≤ 24 := by
      unfold devC at h
      split at h
      · split at h
        · omega
        · split at h
          · omega
          · omega
      · omega
    have hb : costL nDE ((chans l).map (devOf l)) ≤ 6 * ((chans l).map (devOf l)).length := costL_bd fun x hx => by
      obtain ⟨c, _, rfl⟩ := List.mem_map.1 hx
      simp only [nDE, devOf, pinsL]
      rw [nI_cost]; simp
    rw [List.length_map] at hb ⊢
    omega
  · simp [costL]
theorem law_Devices {v : Value} {xs : List (Sl Rect)} (h1 : Rs G L slT v xs) (hd : RsE G L rectT xs) (k : R (.bool true) G L) : CallT Tryz.prog 6 #[v] G L R := by
  refine CallT.enter (args := _) Tryz.func6 rfl rfl (by kernel_rfl) rfl ?_
  refine WP.seq ?_
  refine WP.region ?_
  refine RG.pv rfl (PV.mvB (.inr rfl) rfl) ?_
  refine RG.nil ?_
  refine WP.seq ?_
  refine WP.region ?_
  refine RG.pv rfl (PV.mvI (.inr rfl) rfl) ?_
  refine RG.nil ?_
  refine WP.seq ?_
  refine WP.region ?_
  refine RG.pv rfl (PV.move (v := v) rfl rfl) ?_
  refine RG.pv rfl (PV.mvI (.inl rfl) rfl) ?_
  refine RG.callF (vs := [v, _]) rfl rfl En9 rfl (szRectSS_s (Rs.up h1) hd.up (by omega) (by omega) (fun r hr hr' => ?_))
  refine RG.pv rfl (PV.mvI (.inr rfl) rfl) ?_
  refine RG.nil ?_
  refine WP.seq ?_
  refine WP.seq ?_
  refine WP.region ?_
  refine RG.pv rfl (PV.mvI (.inl rfl) rfl) ?_
  refine RG.pv rfl (PV.lss rfl rfl rfl) ?_
  refine RG.nil ?_
  refine WP.cond rfl (fun h2 => ?_) (fun h2 => ?_)
  · refine WP.seq ?_
    refine WP.region ?_
    refine RG.pv rfl (PV.mvB (.inr rfl) rfl) ?_
    refine RG.nil ?_
    refine WP.ret ?_
    exact ⟨_, _, ResV.one rfl rfl, Cv.p, k⟩
  · have h2 := of_decide_eq_false h2
    have hsz : szOf xs ≤ 1048576 := by have := hr' (by omega); omega
    have hc0 : 0 ≤ costL lenS xs := costL_nonneg lenS_nn _
    have hb : xs.length ≤ 1048576 := by simp only [szOf] at hsz; omega
    have hbi : ∀ i, i < xs.length → (gd xs i).xs.length ≤ 1048576 := fun i hi => by
      have := costL_mem lenS_nn hi; simp only [lenS, szOf] at *; omega
    have hcx : costL nRS xs ≤ 4194304 := by rw [nRS_lenS]; simp only [szOf] at hsz; omega
    have hcr := (devR_cost (er xs)).1
    refine WP.skip ?_
    refine WP.seq ?_
    refine WP.region ?_
    refine RG.pv rfl (PV.move (v := v) rfl rfl) ?_
    refine RG.callF (vs := [v]) rfl rfl En12 rfl (toRectSS_s (Rs.up h1) hd.up hb hbi (fun v21 ysv21 hev21 => ?_))
    refine RG.callF (vs := [v21]) rfl rfl En30 rfl (devices_r Rs.o RsE.o (fun w22 dsw22 hzw22 => ?_))
    refine RG.pv rfl (PV.move (v := .tuple _) rfl rfl) ?_
    refine RG.pv rfl (PV.ext (v := w22) rfl rfl rfl) ?_
    refine RG.pv rfl (PV.ext rfl rfl rfl) ?_
    refine RG.pv rfl (PV.asg (v := w22) rfl rfl) ?_
    refine RG.pv rfl (PV.mvI (.inr rfl) rfl) ?_
    refine RG.nil ?_
    refine WP.seq ?_
    refine WP.region ?_
    refine RG.pv rfl (PV.move (v := v) rfl rfl) ?_
    refine RG.callF (vs := [v]) rfl rfl En12 rfl (toRectSS_s (Rs.up h1) hd.up hb hbi (fun v26 ysv26 hev26 => ?_))
    refine RG.pv rfl (PV.asg (v := v26) rfl rfl) ?_
    refine RG.nil ?_
    refine WP.seq ?_
    refine WP.region ?_
    refine RG.pv rfl (PV.move (v := v26) rfl rfl) ?_
    refine RG.callF (vs := [v26]) rfl rfl En28 rfl (devices_i Rs.o RsE.o (fun w29 dsw29 hzw29 => ?_))
    refine RG.pv rfl (PV.move (v := .tuple _) rfl rfl) ?_
    refine RG.pv rfl (PV.ext (v := w29) rfl rfl rfl) ?_
    refine RG.pv rfl (PV.ext rfl rfl rfl) ?_
    refine RG.pv rfl (PV.asg (v := w29) rfl rfl) ?_
    refine RG.pv rfl (PV.mvI (.inr rfl) rfl) ?_
    refine RG.nil ?_
    refine WP.seq ?_
    refine WP.seq ?_
    refine WP.region ?_
    refine RG.pv rfl (PV.move (v := w29) rfl rfl) ?_
    refine RG.pv rfl (PV.move (v := w22) rfl rfl) ?_
    refine RG.callF (vs := [w29, w22]) rfl rfl En35 rfl (eqDevS_s Rs.o RsE.o Rs.o RsE.o ?_)
    refine RG.pv rfl (PV.not rfl rfl) ?_
    refine RG.pv rfl (PV.mvB (.inl rfl) rfl) ?_
    refine RG.gs rfl rfl rfl (fun hp => (PV.mvI (.inl rfl) rfl)) ?_
    refine RG.gs rfl rfl rfl (fun hp => (PV.mvI (.inl rfl) rfl)) ?_
    refine RG.gs rfl rfl rfl (fun hp => (PV.neq rfl (gs_t hp) (gs_t hp))) ?_
    refine RG.pv rfl (PV.pickO rfl rfl rfl (fun hq => gs_t (geqF hq))) ?_
    refine RG.nil ?_
    refine WP.cond rfl (fun h3 => ?_) (fun h3 => ?_)
    · simp [*] at h3
    · refine WP.skip ?_
      refine WP.seq ?_
      refine WP.seq ?_
      refine WP.region ?_
      refine RG.pv rfl (PV.move (v := v26) rfl rfl) ?_
      refine RG.pv rfl (PV.move (v := v) rfl rfl) ?_
      refine RG.callF (vs := [v]) rfl rfl En12 rfl (toRectSS_s (Rs.up h1) hd.up hb hbi (fun v43 ysv43 hev43 => ?_))
      refine RG.callF (vs := [v26, v43]) rfl rfl En16 rfl (eqRectSS_s Rs.o RsE.o Rs.o RsE.o ?_)
      refine RG.pv rfl (PV.not rfl rfl) ?_
      refine RG.nil ?_
      refine WP.cond rfl (fun h4 => ?_) (fun h4 => ?_)
      · simp [*] at h4
      · have hm1 : costL nRS ysv26 ≤ 4194304 := by rw [costL_er hev26]; exact hcx
        have hm2 : costL nDev dsw29 ≤ 6 * 24 := by rw [nDev_er, hzw29, hev26]; exact hcr
        have hm3 : 0 ≤ costL nRS ysv26 := costL_nonneg nSl_nn _
        have hm4 : 0 ≤ costL nDev dsw29 := costL_nonneg nDev_nn _
        refine WP.skip ?_
        refine WP.seq ?_
        refine WP.region ?_
        refine RG.pv rfl (PV.mvI (.inr rfl) rfl) ?_
        refine RG.nil ?_
        refine WP.seq ?_
        refine WP.region ?_
        refine RG.pv rfl (PV.move (v := v26) rfl rfl) ?_
        refine RG.pv rfl (PV.mvI (.inl rfl) rfl) ?_
        refine RG.callF (vs := [v26, _]) rfl rfl En18 rfl (CallT.exBg ysv26 (CallT.exS v26 (markRectSS_s (by omega) (by omega) ?_)))
        refine RG.pv rfl (PV.mvI (.inr rfl) rfl) ?_
        refine RG.nil ?_
        refine WP.seq ?_
        refine WP.seq ?_
        refine WP.region ?_
        refine RG.pv rfl (PV.mvI (.inl rfl) rfl) ?_
        refine RG.pv rfl (PV.lss rfl rfl rfl) ?_
        refine RG.pv rfl (PV.mvB (.inl rfl) rfl) ?_
        refine RG.gs rfl rfl rfl (fun hp => (PV.move (v := w29) rfl rfl)) ?_
        refine RG.gs rfl rfl rfl (fun hp => (PV.move (v := w22) rfl rfl)) ?_
        refine RG.gsC rfl rfl rfl rfl En35 (fun hp => ⟨_, (acons (gs_t hp) (acons (gs_t hp) anil)), eqDevS_s Rs.o RsE.o Rs.o RsE.o ⟨rfl, rfl, rfl⟩⟩) ?_
        refine RG.gs rfl rfl rfl (fun hp => (PV.not rfl (gs_t hp))) ?_
        refine RG.pv rfl (PV.pickO rfl rfl rfl (fun hq => gs_t (geqF hq))) ?_
        refine RG.pv rfl (PV.mvB (.inl rfl) rfl) ?_
        refine RG.gs rfl rfl rfl (fun hp => (PV.mvI (.inl rfl) rfl)) ?_
        refine RG.gs rfl rfl rfl (fun hp => (PV.mvI (.inl rfl) rfl)) ?_
        refine RG.gs rfl rfl rfl (fun hp => (PV.neq rfl (gs_t hp) (gs_t hp))) ?_
        refine RG.pv rfl (PV.pickO rfl rfl rfl (fun hq => gs_t (geqF hq))) ?_
        refine RG.nil ?_
        refine WP.cond rfl (fun h5 => ?_) (fun h5 => ?_)
        · simp [*] at h5 <;> omega
        · skip
          refine WP.skip ?_
          refine WP.seq ?_
          refine WP.region ?_
          refine RG.pv rfl (PV.mvI (.inr rfl) rfl) ?_
          refine RG.nil ?_
          refine WP.seq ?_
          refine WP.region ?_
          refine RG.pv rfl (PV.move (v := w29) rfl rfl) ?_
          refine RG.pv rfl (PV.mvI (.inl rfl) rfl) ?_
          refine RG.callF (vs := [w29, _]) rfl rfl En36 rfl (CallT.exBg (pinsOf dsw29) (CallT.exS w29 (markDevS_s (by omega) (by omega) ?_)))
          refine RG.pv rfl (PV.mvI (.inr rfl) rfl) ?_
          refine RG.nil ?_
          refine WP.seq ?_
          refine WP.region ?_
          refine RG.pv rfl (PV.mvI (.inr rfl) rfl) ?_
          refine RG.nil ?_
          refine WP.seq ?_
          refine WP.region ?_
          refine RG.pv rfl (PV.move (v := w29) rfl rfl) ?_
          refine RG.pv rfl (PV.mvI (.inl rfl) rfl) ?_
          refine RG.callF (vs := [w29, _]) rfl rfl En37 rfl (heldDevS_s Rs.o RsE.o (by omega) (by omega) ?_)
          refine RG.pv rfl (PV.mvI (.inr rfl) rfl) ?_
          refine RG.nil ?_
          refine WP.seq ?_
          refine WP.seq ?_
          refine WP.region ?_
          refine RG.pv rfl (PV.mvI (.inl rfl) rfl) ?_
          refine RG.pv rfl (PV.lss rfl rfl rfl) ?_
          refine RG.nil ?_
          refine WP.cond rfl (fun h6 => ?_) (fun h6 => ?_)
          · simp at h6; omega
          · refine WP.skip ?_
            refine WP.seq ?_
            refine WP.seq ?_
            refine WP.region ?_
            refine RG.pv rfl (PV.mvI (.inl rfl) rfl) ?_
            refine RG.pv rfl (PV.mvI (.inl rfl) rfl) ?_
            refine RG.pv rfl (PV.neq rfl rfl rfl) ?_
            refine RG.nil ?_
            refine WP.cond rfl (fun h7 => ?_) (fun h7 => ?_)
            · simp at h7
            · refine WP.skip ?_
              refine WP.seq ?_
              refine WP.region ?_
              refine RG.pv rfl (PV.move (v := v) rfl rfl) ?_
              refine RG.callF (vs := [v]) rfl rfl En12 rfl (toRectSS_s (Rs.up h1) hd.up hb hbi (fun v75 ysv75 hev75 => ?_))
              refine RG.callF (vs := [v75]) rfl rfl En28 rfl (devices_i Rs.o RsE.o (fun w76 dsw76 hzw76 => ?_))
              refine RG.pv rfl (PV.move (v := .tuple _) rfl rfl) ?_
              refine RG.pv rfl (PV.ext (v := w76) rfl rfl rfl) ?_
              refine RG.pv rfl (PV.ext rfl rfl rfl) ?_
              refine RG.pv rfl (PV.asg (v := w76) rfl rfl) ?_
              refine RG.pv rfl (PV.mvI (.inr rfl) rfl) ?_
              refine RG.nil ?_
              refine WP.seq ?_
              refine WP.seq ?_
              refine WP.region ?_
              refine RG.pv rfl (PV.move (v := w76) rfl rfl) ?_
              refine RG.pv rfl (PV.move (v := w22) rfl rfl) ?_
              refine RG.callF (vs := [w76, w22]) rfl rfl En35 rfl (eqDevS_s Rs.o RsE.o Rs.o RsE.o ?_)
              refine RG.pv rfl (PV.not rfl rfl) ?_
              refine RG.pv rfl (PV.mvB (.inl rfl) rfl) ?_
              refine RG.gs rfl rfl rfl (fun hp => (PV.mvI (.inl rfl) rfl)) ?_
              refine RG.gs rfl rfl rfl (fun hp => (PV.mvI (.inl rfl) rfl)) ?_
              refine RG.gs rfl rfl rfl (fun hp => (PV.neq rfl (gs_t hp) (gs_t hp))) ?_
              refine RG.pv rfl (PV.pickO rfl rfl rfl (fun hq => gs_t (geqF hq))) ?_
              refine RG.nil ?_
              refine WP.cond rfl (fun h8 => ?_) (fun h8 => ?_)
              · simp [*] at h8
              · skip
                refine WP.skip ?_
                refine WP.seq ?_
                refine WP.region ?_
                refine RG.pv rfl (PV.mvI (.inr rfl) rfl) ?_
                refine RG.nil ?_
                refine WP.seq ?_
                refine WP.region ?_
                refine RG.pv rfl (PV.move (v := w29) rfl rfl) ?_
                refine RG.pv rfl (PV.mvI (.inl rfl) rfl) ?_
                refine RG.callF (vs := [w29, _]) rfl rfl En37 rfl (heldDevS_s Rs.o RsE.o (by omega) (by omega) ?_)
                refine RG.pv rfl (PV.mvI (.inr rfl) rfl) ?_
                refine RG.nil ?_
                refine WP.seq ?_
                refine WP.seq ?_
                refine WP.region ?_
                refine RG.pv rfl (PV.mvI (.inl rfl) rfl) ?_
                refine RG.pv rfl (PV.lss rfl rfl rfl) ?_
                refine RG.nil ?_
                refine WP.cond rfl (fun h9 => ?_) (fun h9 => ?_)
                · simp at h9; omega
                · refine WP.skip ?_
                  refine WP.seq ?_
                  refine WP.seq ?_
                  refine WP.region ?_
                  refine RG.pv rfl (PV.mvI (.inl rfl) rfl) ?_
                  refine RG.pv rfl (PV.mvI (.inl rfl) rfl) ?_
                  refine RG.pv rfl (PV.neq rfl rfl rfl) ?_
                  refine RG.nil ?_
                  refine WP.cond rfl (fun h10 => ?_) (fun h10 => ?_)
                  · simp at h10
                  · refine WP.skip ?_
                    refine WP.seq ?_
                    refine WP.region ?_
                    refine RG.pv rfl (PV.mvB (.inr rfl) rfl) ?_
                    refine RG.nil ?_
                    refine WP.ret ?_
                    exact ⟨_, _, ResV.one rfl rfl, Cv.p, k⟩
end Go.Proofs.YtmomfgfmnpblpaaGreat
namespace Go.Proofs.YtmomfgfmnpblpaaGreat
set_option linter.unusedVariables false
set_option linter.unusedSimpArgs false
open Go Go.ChangeShapes Go.WideShapes Go.ChangeAt Go.RowKit
set_option linter.unusedSimpArgs false
set_option maxRecDepth 100000
theorem Tryz.own : ownKnob Tryz.prog.godebug = none := by kernel_rfl
theorem Tryz.laidOut : laidOutB Tryz.prog = true := by kernel_rfl
def okrectT (G : Gh) (a : Rect) : Prop := okI G a.x0 ∧ okI G a.y0 ∧ okI G a.x1 ∧ okI G a.y1
theorem opn132 : Opn Tryz.prog 132 rectT okrectT := fun {H enc w fuel cs x} h => by
  obtain ⟨xs, n, _, _, hl, hx, hf⟩ := DataW.trod_struct Tryz.underlying132 h
  rw [show Tryz.prog.cellsOf 132 = 4 by kernel_rfl] at hl
  obtain ⟨c0, c1, c2, c3, rfl⟩ : ∃ c0 c1 c2 c3, cs = [c0, c1, c2, c3] := by
    match cs, hl with
    | [c0, c1, c2, c3], _ => exact ⟨c0, c1, c2, c3, rfl⟩
  have g0 := hf 0 _ rfl
  simp only [List.getElem_toArray, List.getElem_cons_zero, List.getElem_cons_succ] at g0
  rw [show Tryz.prog.cellsOf 2 = 1 by kernel_rfl] at g0
  obtain ⟨x0, y0⟩ : ∃ x, xs[0]? = some x := ⟨_, List.getElem?_eq_getElem (by rw [hx]; decide)⟩
  rw [y0] at g0
  obtain ⟨a0, e0, o0⟩ := (opnI Tryz.underlying2) g0
  have g1 := hf 1 _ rfl
  simp only [List.getElem_toArray, List.getElem_cons_zero, List.getElem_cons_succ] at g1
  rw [show Tryz.prog.cellsOf 2 = 1 by kernel_rfl] at g1
  obtain ⟨x1, y1⟩ : ∃ x, xs[1]? = some x := ⟨_, List.getElem?_eq_getElem (by rw [hx]; decide)⟩
  rw [y1] at g1
  obtain ⟨a1, e1, o1⟩ := (opnI Tryz.underlying2) g1
  have g2 := hf 2 _ rfl
  simp only [List.getElem_toArray, List.getElem_cons_zero, List.getElem_cons_succ] at g2
  rw [show Tryz.prog.cellsOf 2 = 1 by kernel_rfl] at g2
  obtain ⟨x2, y2⟩ : ∃ x, xs[2]? = some x := ⟨_, List.getElem?_eq_getElem (by rw [hx]; decide)⟩
  rw [y2] at g2
  obtain ⟨a2, e2, o2⟩ := (opnI Tryz.underlying2) g2
  have g3 := hf 3 _ rfl
  simp only [List.getElem_toArray, List.getElem_cons_zero, List.getElem_cons_succ] at g3
  rw [show Tryz.prog.cellsOf 2 = 1 by kernel_rfl] at g3
  obtain ⟨x3, y3⟩ : ∃ x, xs[3]? = some x := ⟨_, List.getElem?_eq_getElem (by rw [hx]; decide)⟩
  rw [y3] at g3
  obtain ⟨a3, e3, o3⟩ := (opnI Tryz.underlying2) g3
  clear hf hx hl
  refine ⟨⟨a0, a1, a2, a3⟩, ?_, o0, o1, o2, o3⟩
  simp [intT] at e0 e1 e2 e3
  simp [intT, rectT, e0, e1, e2, e3]
theorem devices_lifted (os : Os) (started : os.Started) (H : Type) (enc : TypeId × Value → H) :
    ReturnsInHanded {} Tryz.checked os 6 .any (Rows.fnExactDevicesSpec.pre6 enc Tryz.prog Tryz.f6 [] false) (Rows.fnExactDevicesSpec.post enc Tryz.prog Tryz.f6 false true false false) := by
  refine law_lifted (C := Tryz.checked) Tryz.own started (by kernel_rfl) Tryz.func6 Tryz.laidOut rfl (by kernel_rfl) rfl Tryz.underlying4 (fun ds h => ?_)
    (ChangeSpec.witness6 (enc := enc) (C := Tryz.checked) false ⟨#[], #[.slice none 0 0], []⟩ 8 (by kernel_rfl) (by kernel_rfl) (by kernel_rfl) (by kernel_rfl)) ?_
  · match ds, h with
    | [d], _ => rfl
  · intro W base args ds ps hval hA
    have hA : DataW.TrodAll enc Tryz.prog W 0 (fun _ => true) true Tryz.f6.params.toList args.toList ds ps := hA
    have hval : ∀ (j : Nat) t v, Tryz.f6.params[j]? = some t → args[j]? = some v → Value.okWide Tryz.prog W .any base t v := hval
    rw [Tryz.params6] at hA hval
    obtain ⟨v0, d0, rfl, rfl, h0⟩ := trodAll_one hA
    obtain ⟨s, rfl, h1, h2⟩ := argSl Tryz.underlying22 (opnSl Tryz.underlying22 (opnSl Tryz.underlying72 opn132 (by kernel_rfl) (by decide)) (by kernel_rfl) (by decide)) (hval 0 _ v0 rfl rfl) h0
    exact law_Devices (Rs.g h1) (fun i hi => Rs.g (h2 i hi).1) ⟨rfl, Gh.le_refl _⟩
theorem devices_holds : Rows.FnExactDevicesSaid :=
  OpenClaim.holds_of_wide 6 Tryz.f6 rfl rfl rfl rfl rfl rfl rfl ⟨rfl, rfl, rfl, rfl, rfl⟩ rfl rfl rfl rfl rfl (by kernel_rfl) Tryz.func6 (by kernel_rfl)
    (of_decide_eq_true (by kernel_rfl)) (by unfold Func.isWrapper; first | (rw [if_pos (by decide +kernel)]; kernel_rfl) | (rw [if_neg (by decide +kernel)]; exact ⟨rfl, rfl⟩))
    (fun os started H enc _ => devices_lifted os started H enc)
end Go.Proofs.YtmomfgfmnpblpaaGreat
