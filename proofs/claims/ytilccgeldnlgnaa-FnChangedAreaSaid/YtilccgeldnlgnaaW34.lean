/-
  Contracts: copies of lists of rectangles, moved regions, the draw of a move and a region; the law of signatures.
-/
import Derived.Test.YtilccgeldnlgnaaW30
import Derived.Test.YtilccgeldnlgnaaSig2
namespace Go.Proofs.Ytilccgeldnlgnaa
open Go
set_option maxRecDepth 20000
set_option linter.unusedSimpArgs false
variable {G : Gh} {L : List Ch} {R : Value → Gh → List Ch → Prop}
theorem copyRects_s {v : Value} {xs : List Rect} (h1 : Rs G L rectT v xs) (hb : xs.length ≤ 1048576) (k : ∀ v', R v' G (osl 81 rectT v' xs :: L)) : CallT Try.prog 28 #[v] G L R := by
  refine CallT.enter (args := _) Try.func28 rfl rfl (by kernel_rfl) rfl ?_
  refine WP.seq ?_
  refine WP.region ?_
  refine RG.pv rfl (PV.asg rfl rfl) ?_
  refine RG.nil ?_
  refine WP.seq ?_
  refine WP.region ?_
  refine RG.ot rfl (OT.bslice (F := rectT) (els := []) rfl El24 rfl (by decide) rfl (by decide) trivial fun v3 => ?_)
  refine RG.pv rfl (PV.move (v := v) rfl rfl) ?_
  refine RG.ot rfl (OT.append (v := v3) (u := v) (F := rectT) rfl El24 rfl (by decide) rfl rfl (Rs.up h1) (OneL.c (fun _ => rfl)) rfl (by first | omega | (simp <;> omega)) fun v5 => ?_)
  refine RG.pv rfl (PV.asg (v := v5) rfl rfl) ?_
  refine RG.nil ?_
  refine WP.ret ?_
  -- STOP: ret
  exact ⟨_, _, ResV.one rfl rfl, (Cv.eqS (List.nil_append _)), k v5⟩
def validT (t : Trans) : Bool := within t.o 0 7 && (within t.x (-80) 80 && within t.y (-80) 80)
theorem validT_iff {t : Trans} : validT t = true ↔ (0 ≤ t.o ∧ t.o ≤ 7) ∧ (-80 ≤ t.x ∧ t.x ≤ 80) ∧ -80 ≤ t.y ∧ t.y ≤ 80 := by
  simp only [validT, within, Bool.and_eq_true, decide_eq_true_eq]
theorem validT_s {t : Trans} (k : R (.bool (validT t)) G L) : CallT Try.prog 82 #[vtrans t] G L R := by
  refine CallT.enter (args := _) Try.func82 rfl rfl (by kernel_rfl) rfl ?_
  refine WP.seq ?_
  refine WP.region ?_
  refine RG.ot rfl (OT.box (cs := transT.enc t) rfl rfl rfl fun b1 => ?_)
  refine RG.pv rfl (PV.mvB (.inr rfl) rfl) ?_
  refine RG.nil ?_
  refine WP.seq ?_
  refine WP.region ?_
  refine RG.pv rfl (PV.field rfl Fo37_0 rfl) ?_
  refine RG.pv rfl (PV.load1 rfl Sc2 rfl (Rd.blk rfl)) ?_
  refine RG.callF (vs := [_, _, _]) rfl rfl En134 rfl (l01In_s ?_)
  refine RG.pv rfl (PV.mvB (.inl rfl) rfl) ?_
  refine RG.gs rfl rfl rfl (fun hp => (PV.field rfl Fo37_1 rfl)) ?_
  refine RG.gs rfl rfl rfl (fun hp => (PV.load1 rfl Sc2 (gs_t hp) (Rd.blk rfl))) ?_
  refine RG.gsC rfl rfl rfl rfl En134 (fun hp => ⟨_, (acons (gs_t hp) (acons rfl (acons rfl anil))), l01In_s ⟨rfl, rfl, rfl⟩⟩) ?_
  refine RG.pv rfl (PV.pickA rfl rfl (fun hq => gs_t (geqT hq)) rfl) ?_
  refine RG.pv rfl (PV.mvB (.inl rfl) rfl) ?_
  refine RG.gs rfl rfl rfl (fun hp => (PV.field rfl Fo37_2 rfl)) ?_
  refine RG.gs rfl rfl rfl (fun hp => (PV.load1 rfl Sc2 (gs_t hp) (Rd.blk rfl))) ?_
  refine RG.gsC rfl rfl rfl rfl En134 (fun hp => ⟨_, (acons (gs_t hp) (acons rfl (acons rfl anil))), l01In_s ⟨rfl, rfl, rfl⟩⟩) ?_
  refine RG.pv rfl (PV.pickA rfl rfl (fun hq => gs_t (geqT hq)) rfl) ?_
  refine RG.pv rfl (PV.mvB (.inr rfl) rfl) ?_
  refine RG.nil ?_
  refine WP.ret ?_
  -- STOP: ret
  have e : validT t = ((within t.o 0 7 && within t.x (-80) 80) && within t.y (-80) 80) := (Bool.and_assoc _ _ _).symm
  rw [e] at k
  exact ⟨_, _, ResV.one rfl rfl, Cv.p, k⟩
def mvOk (t : Trans) (xs : List Rect) : Bool := validT t && isReg xs && movedOk t xs
def mvR (t : Trans) (xs : List Rect) : List Rect := bif validT t && isReg xs then movedR t xs else []
theorem moveReg_s {t : Trans} {v : Value} {xs : List Rect} (h1 : Rs G L rectT v xs) (k : ∀ v', R (.tuple #[v', .bool (mvOk t xs)]) G (osl 81 rectT v' (mvR t xs) :: L)) : CallT Try.prog 26 #[vtrans t, v] G L R := by
  refine CallT.enter (args := _) Try.func26 rfl rfl (by kernel_rfl) rfl ?_
  refine WP.seq ?_
  refine WP.region ?_
  refine RG.ot rfl (OT.box (cs := transT.enc t) rfl rfl rfl fun b2 => ?_)
  refine RG.pv rfl (PV.asg rfl rfl) ?_
  refine RG.pv rfl (PV.mvB (.inr rfl) rfl) ?_
  refine RG.nil ?_
  refine WP.seq ?_
  refine WP.seq ?_
  refine WP.region ?_
  refine RG.pv rfl (PV.loadW rfl Ag37 rfl rfl) ?_
  refine RG.callF (vs := [_]) rfl rfl En82 rfl (validT_s ?_)
  refine RG.pv rfl (PV.not rfl rfl) ?_
  refine RG.pv rfl (PV.mvB (.inl rfl) rfl) ?_
  refine RG.gs rfl rfl rfl (fun hp => (PV.move (v := v) rfl rfl)) ?_
  refine RG.gsC rfl rfl rfl rfl En83 (fun hp => ⟨_, (acons (gs_t hp) anil), l03Ok_s (Rs.up h1) ⟨rfl, rfl, rfl⟩⟩) ?_
  refine RG.gs rfl rfl rfl (fun hp => (PV.not rfl (gs_t hp))) ?_
  refine RG.pv rfl (PV.pickO rfl rfl rfl (fun hq => gs_t (geqF hq))) ?_
  refine RG.nil ?_
  -- STOP: cond
  refine WP.cond rfl (fun h2 => ?_) (fun h2 => ?_)
  · have h3 : (validT t && isReg xs) = false := by
      cases h4 : validT t <;> cases h5 : isReg xs <;> simp_all
    have e1 : mvOk t xs = false := by rw [mvOk, h3]; rfl
    have e2 : mvR t xs = [] := by rw [mvR, h3]; rfl
    rw [e1, e2] at k
    refine WP.seq ?_
    refine WP.region ?_
    refine RG.pv rfl (PV.asg rfl rfl) ?_
    refine RG.pv rfl (PV.mvB (.inr rfl) rfl) ?_
    refine RG.nil ?_
    refine WP.ret ?_
  -- STOP: ret
    exact ⟨_, _, ResV.two rfl rfl rfl, Cv.nilP, k (.slice none 0 0)⟩
  · have h3 : validT t = true ∧ isReg xs = true := by
      cases h4 : validT t <;> cases h5 : isReg xs <;> simp_all
    have e1 : mvOk t xs = movedOk t xs := by rw [mvOk, h3.1, h3.2]; rfl
    have e2 : mvR t xs = movedR t xs := by rw [mvR, h3.1, h3.2]; rfl
    rw [e1, e2] at k
    obtain ⟨ho, hx, hy⟩ := validT_iff.1 h3.1
    have hri := RIn_all h3.2
    have hb2 : xs.length ≤ 1048576 := by have := isReg_len h3.2; omega
    refine WP.skip ?_
    refine WP.seq ?_
    refine WP.region ?_
    refine RG.pv rfl (PV.loadW rfl Ag37 rfl rfl) ?_
    refine RG.pv rfl (PV.move (v := v) rfl rfl) ?_
    refine RG.callF (vs := [_, v]) rfl rfl En84 rfl (l03Moved_s (Rs.up h1) hb2 ho (by omega) (fun i hi => RIn_gd hri hi) (fun w16 => ?_))
    refine RG.pv rfl (PV.ext (v := w16) rfl rfl rfl) ?_
    refine RG.pv rfl (PV.ext rfl rfl rfl) ?_
    refine RG.pv rfl (PV.asg (v := w16) rfl rfl) ?_
    refine RG.pv rfl (PV.mvB (.inr rfl) rfl) ?_
    refine RG.nil ?_
    refine WP.ret ?_
  -- STOP: ret
    exact ⟨_, _, ResV.two rfl rfl rfl, Cv.p, k w16⟩
theorem drawMove_s {cv : Value} {bs : List UInt8} (hcode : SL G byteT cv bs) (k : ∀ (t : Trans) v xs, xs.length ≤ 3201 → R (.tuple #[vtrans t, v]) G (osl 81 rectT v xs :: L)) : CallT Try.prog 25 #[cv] G L R := by
  refine CallT.enter (args := _) Try.func25 rfl rfl (by kernel_rfl) rfl ?_
  refine WP.seq ?_
  refine WP.region ?_
  refine RG.ot rfl (OT.alloc rfl Zr37 fun b2 => ?_)
  refine RG.pv rfl (PV.asg rfl rfl) ?_
  refine RG.nil ?_
  refine WP.seq ?_
  refine WP.region ?_
  refine RG.pv rfl (PV.move (v := cv) rfl rfl) ?_
  refine RG.callF (vs := [cv]) rfl rfl En78 rfl (from_s hcode (fun b => ?_))
  refine RG.pv rfl (PV.asg rfl rfl) ?_
  refine RG.nil ?_
  refine WP.seq ?_
  refine WP.region ?_
  refine RG.pv rfl (PV.move rfl rfl) ?_
  refine RG.callF (vs := [_]) rfl rfl En79 rfl (CallT.exC (src b cv) (drawTrans_s hcode (fun t ht => ?_)))
  refine RG.ot rfl (OT.alloc rfl Zr37 fun b5 => ?_)
  refine RG.ot rfl (OT.storeW (vs := [vi _, vi _, vi _]) rfl Sz37 rfl rfl (Cl.c rfl) rfl rfl (OneC.c rfl) ?_)
  refine RG.nil ?_
  refine WP.seq ?_
  refine WP.regionHD [.b b2] (.q 0 (.q 1 (.q 2 (.l 3 (.l 4 (.l 5 (.q 6 Sch.nil))))))) (by kernel_rfl) (by kernel_rfl) (by kernel_rfl) rfl ?_
  refine RH.pv rfl (fun _ _ _ _ h => h) (Gh.le_refl _) PickC.pick rfl (PV.loadW rfl Ag37 rfl rfl) ?_
  refine RH.pv rfl (fun _ _ _ _ h => h) (Gh.le_refl _) PickC.pick rfl (PV.move rfl rfl) ?_
  refine RH.pv rfl (fun _ _ _ _ h => h) (Gh.le_refl _) PickC.pick rfl (PV.move rfl rfl) ?_
  refine RH.ot rfl rfl (OT.callF (vs := [_]) rfl En81 rfl (CallT.exC (src b cv) (drawRegion_s hcode (fun v13 xs hreg => ⟨Gh.le_refl _, PickC.pick, ?_⟩))))
  refine RH.ot rfl rfl (OT.callF (vs := [_, v13, _]) rfl En80 rfl (CallT.exC (src b cv) (CallT.exS v13 (spoil_s hcode hreg (by omega) (fun v14 ys hys => ⟨Gh.le_refl _, PickC.pick, ?_⟩)))))
  refine RH.ot rfl rfl (OT.storeW (vs := [vi _, vi _, vi _]) rfl Sz37 rfl rfl (Cl.c rfl) rfl rfl (OneC.c rfl) ⟨Gh.le_refl _, PickC.pick, ?_⟩)
  refine RH.pv rfl (fun _ _ _ _ h => h) (Gh.le_refl _) PickC.pick rfl (PV.asg (v := v14) rfl rfl) ?_
  refine RH.nil ?_
  refine WP.ret ?_
  -- STOP: ret
  have hl := isReg_len hreg
  exact ⟨_, _, ResV.two rfl (RV1.cell rfl Ag37 rfl) rfl, Cv.p, k t v14 ys (by omega)⟩
/-! ## the law -/
theorem law_FnSignature {cv : Value} {bs : List UInt8} (hcode : SL G byteT cv bs) (k : R (.bool true) G L) : CallT Try.prog 4 #[cv] G L R := by
  refine CallT.enter (args := _) Try.func4 rfl rfl (by kernel_rfl) rfl ?_
  refine WP.seq ?_
  refine WP.region ?_
  refine RG.pv rfl (PV.mvB (.inr rfl) rfl) ?_
  refine RG.nil ?_
  refine WP.seq ?_
  refine WP.seq ?_
  refine WP.region ?_
  refine RG.pv rfl (PV.move (v := cv) rfl rfl) ?_
  refine RG.callF (vs := [cv]) rfl rfl En24 rfl (big_s hcode ?_)
  refine RG.nil ?_
  -- STOP: cond
  refine WP.cond rfl (fun h1 => ?_) (fun h1 => ?_)
  · refine WP.seq ?_
    refine WP.region ?_
    refine RG.pv rfl (PV.mvB (.inr rfl) rfl) ?_
    refine RG.nil ?_
    refine WP.ret ?_
  -- STOP: ret
    exact ⟨_, _, ResV.one rfl rfl, Cv.p, k⟩
  · refine WP.skip ?_
    refine WP.seq ?_
    refine WP.region ?_
    refine RG.pv rfl (PV.move (v := cv) rfl rfl) ?_
    refine RG.callF (vs := [cv]) rfl rfl En25 rfl (drawMove_s hcode (fun t v14 xs hxl => ?_))
    refine RG.pv rfl (PV.move (v := .tuple _) rfl rfl) ?_
    refine RG.pv rfl (PV.ext rfl rfl rfl) ?_
    refine RG.pv rfl (PV.ext (v := v14) rfl rfl rfl) ?_
    refine RG.ot rfl (OT.alloc rfl Zr37 fun b3 => ?_)
    refine RG.ot rfl (OT.storeW (vs := [vi _, vi _, vi _]) rfl Sz37 rfl rfl (Cl.c rfl) rfl rfl (OneC.c rfl) ?_)
    refine RG.pv rfl (PV.asg (v := v14) rfl rfl) ?_
    refine RG.nil ?_
    refine WP.seq ?_
    refine WP.region ?_
    refine RG.pv rfl (PV.loadW rfl Ag37 rfl rfl) ?_
    refine RG.pv rfl (PV.move (v := v14) rfl rfl) ?_
    refine RG.callF (vs := [_, v14]) rfl rfl En26 rfl (moveReg_s Rs.o (fun w18 => ?_))
    refine RG.pv rfl (PV.move (v := .tuple _) rfl rfl) ?_
    refine RG.pv rfl (PV.ext (v := w18) rfl rfl rfl) ?_
    refine RG.pv rfl (PV.ext rfl rfl rfl) ?_
    refine RG.pv rfl (PV.asg (v := w18) rfl rfl) ?_
    refine RG.pv rfl (PV.mvB (.inr rfl) rfl) ?_
    refine RG.nil ?_
    refine WP.seq ?_
    refine WP.seq ?_
    refine WP.region ?_
    refine RG.pv rfl (PV.mvB (.inl rfl) rfl) ?_
    refine RG.pv rfl (PV.not rfl rfl) ?_
    refine RG.pv rfl (PV.mvB (.inl rfl) rfl) ?_
    refine RG.gs rfl rfl rfl (fun hp => (PV.move (v := v14) rfl rfl)) ?_
    refine RG.gs rfl rfl rfl (fun hp => (PV.len (v := v14) rfl Try.underlying24 (gs_t hp) SlF.o)) ?_
    refine RG.gs rfl rfl rfl (fun hp => (PV.eql rfl (gs_t hp) rfl)) ?_
    refine RG.pv rfl (PV.pickO rfl rfl rfl (fun hq => gs_t (geqF hq))) ?_
    refine RG.nil ?_
  -- STOP: cond
    have hml : (mvR t xs).length ≤ 1048576 := by
      unfold mvR
      cases validT t && isReg xs
      · exact Nat.zero_le _
      · simp only [cond_true, movedR]
        cases movedOk t xs
        · exact Nat.zero_le _
        · simp only [cond_true]; have := canon_len (bits (xs.map (moveR t))); omega
    refine WP.cond rfl (fun h2 => ?_) (fun h2 => ?_)
    · refine WP.seq ?_
      refine WP.region ?_
      refine RG.pv rfl (PV.mvB (.inr rfl) rfl) ?_
      refine RG.nil ?_
      refine WP.ret ?_
  -- STOP: ret
      exact ⟨_, _, ResV.one rfl rfl, Cv.p, k⟩
    · have h3 : mvOk t xs = true ∧ 0 < xs.length := by
        rcases Nat.eq_zero_or_pos xs.length with h | h
        · simp [h] at h2
        · refine ⟨?_, h⟩
          cases c : mvOk t xs
          · simp [c] at h2
          · rfl
      have h4 : (validT t = true ∧ isReg xs = true) ∧ movedOk t xs = true := by
        have := h3.1; simp only [mvOk, Bool.and_eq_true] at this; exact this
      have e1 : mvR t xs = movedR t xs := by rw [mvR, h4.1.1, h4.1.2]; rfl
      have e2 : regSig (mvR t xs) = regSig xs := by rw [e1]; exact sig_moved (validT_iff.1 h4.1.1).1 h4.1.2 h4.2
      have e3 : regSig xs = sigTo xs 7 := by simp [regSig, h4.1.2, h3.2]
      have hsb := sigTo_bd xs 7
      refine WP.skip ?_
      refine WP.seq ?_
      refine WP.region ?_
      refine RG.pv rfl (PV.move (v := v14) rfl rfl) ?_
      refine RG.callF (vs := [v14]) rfl rfl En28 rfl (copyRects_s Rs.o (by omega) (fun v29 => ?_))
      refine RG.callF (vs := [v29]) rfl rfl En27 rfl (regSig_i Rs.o ?_)
      refine RG.pv rfl (PV.mvI (.inr rfl) rfl) ?_
      refine RG.nil ?_
      refine WP.seq ?_
      refine WP.region ?_
      refine RG.pv rfl (PV.mvI (.inl rfl) rfl) ?_
      refine RG.pv rfl (PV.geq rfl rfl rfl) ?_
      refine RG.pv rfl (PV.mvB (.inl rfl) rfl) ?_
      refine RG.spl (t := 33) rfl (fun g1 => ?_) (fun g1 => ?_)
  -- STOP: split
      · refine RG.take rfl rfl rfl g1 ?_
        refine RG.pv rfl (PV.mvI (.inl rfl) rfl) ?_
        refine RG.take rfl rfl rfl g1 ?_
        refine RG.pv rfl (PV.move (v := w18) rfl rfl) ?_
        refine RG.take rfl rfl rfl g1 ?_
        refine RG.callF (vs := [w18]) rfl rfl En28 rfl (copyRects_s Rs.o (by omega) (fun v36 => ?_))
        refine RG.take rfl rfl rfl g1 ?_
        refine RG.callF (vs := [v36]) rfl rfl En27 rfl (regSig_i Rs.o ?_)
        refine RG.take rfl rfl rfl g1 ?_
        refine RG.pv rfl (PV.eql rfl rfl rfl) ?_
        refine RG.pv rfl (PV.pickT rfl rfl g1 rfl) ?_
        refine RG.pv rfl (PV.mvB (.inl rfl) rfl) ?_
        refine RG.spl (t := 40) rfl (fun g2 => ?_) (fun g2 => ?_)
  -- STOP: split
        · have e4 : decide (regSig xs = regSig xs) = true := by simp
          rw [← e4] at k
          refine RG.take rfl rfl rfl g2 ?_
          refine RG.pv rfl (PV.mvI (.inl rfl) rfl) ?_
          refine RG.take rfl rfl rfl g2 ?_
          refine RG.pv rfl (PV.move (v := v14) rfl rfl) ?_
          refine RG.take rfl rfl rfl g2 ?_
          refine RG.callF (vs := [v14]) rfl rfl En29 rfl (regSig_s Rs.o ?_)
          refine RG.take rfl rfl rfl g2 ?_
          refine RG.pv rfl (PV.eql rfl rfl rfl) ?_
          refine RG.pv rfl (PV.pickT rfl rfl g2 rfl) ?_
          refine RG.pv rfl (PV.mvB (.inr rfl) rfl) ?_
          refine RG.nil ?_
          refine WP.ret ?_
  -- STOP: ret
          exact ⟨_, _, ResV.one rfl rfl, Cv.p, k⟩
        · exfalso
          rw [e2] at g2
          simp at g2
      · exfalso
        have g1 := of_decide_eq_false g1
        omega
end Go.Proofs.Ytilccgeldnlgnaa
