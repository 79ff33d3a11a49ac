/-
  The law FnExactCrossingCells: whatever the library and the number, the law returns true and all read as before.
-/
import Derived.Test.YtbkaincaahcnfaaGreatQA5
import Derived.ProofKit
import Derived.Deep.Slices
import Derived.Carry
import Derived.Test.YtbkaincaahcnfaaGreatRows
namespace Go.Proofs.YtbkaincaahcnfaaGreat
set_option linter.unusedVariables false
set_option linter.unusedSimpArgs false
open Go
set_option maxRecDepth 20000
set_option maxHeartbeats 1000000
set_option linter.unusedSimpArgs false
variable {G : Gh} {L : List Ch} {R : Value → Gh → List Ch → Prop}
theorem layL_len (ss : List Shape) : (layL ss).length = 8 := by simp [layL]
end Go.Proofs.YtbkaincaahcnfaaGreat
namespace Go.Proofs.YtbkaincaahcnfaaGreat
set_option linter.unusedVariables false
set_option linter.unusedSimpArgs false
open Go
set_option maxRecDepth 20000
set_option linter.unusedSimpArgs false
variable {G : Gh} {L : List Ch} {R : Value → Gh → List Ch → Prop}
/-- only what lies in memory matters -/
theorem Cv.flat {α : Type} {e : TypeId} {F : FT α} {v : Value} {xs ys : List α} {L : List Ch} (h : F.flat xs = F.flat ys) (hl : xs.length = ys.length) : Cv (osl e F v xs :: L) (osl e F v ys :: L) :=
  Cv.imp fun hp hc => by
    rcases hc with ⟨rfl, rfl⟩ | ⟨b, cap, c, h1, h2, h3, h4, h5, h6⟩
    · exact .inl ⟨rfl, List.eq_nil_of_length_eq_zero (by simpa using hl.symm)⟩
    · exact .inr ⟨b, cap, c, by rw [← hl]; exact h1, h2, by rw [← hl]; exact h3, h4, h5, by rw [← hl, ← h]; exact h6⟩
theorem pcE_len (l : List (List Rect)) : (pcE l).length ≤ 25600 := by
  unfold pcE
  cases isLay l
  · simp
  · have := pcL_len l 4
    simp only [cond_true, List.length_map]; omega
end Go.Proofs.YtbkaincaahcnfaaGreat
namespace Go.Proofs.YtbkaincaahcnfaaGreat
set_option linter.unusedVariables false
set_option linter.unusedSimpArgs false
open Go
set_option maxRecDepth 20000
set_option maxHeartbeats 1000000
set_option linter.unusedSimpArgs false
variable {G : Gh} {L : List Ch} {R : Value → Gh → List Ch → Prop}
theorem isLay_layL (ss : List Shape) : isLay (layL ss) = true := by
  have h : ∀ i, i < (layL ss).length → isReg (gd (layL ss) i) = true := fun i hi => by
    rw [layL_len] at hi
    rw [layL, gd_map _ (by simpa using hi), range_gd hi]
    exact isReg_canon (bits_length _)
  rw [isLay_all h, layL_len]; rfl
/-- the pieces of a cell without its instances -/
noncomputable def ownP (cs : List ECell) (cell : Int) : List (Int × List Rect) := bif hasCl cs cell then pcE (layL (gd cs cell.toNat).shapes) else []
theorem hasCl_in {cs : List ECell} {cell : Int} (h : hasCl cs cell = true) : okLib cs = true ∧ 0 ≤ cell ∧ cell < cs.length := by
  simp only [hasCl, within, Bool.and_eq_true, decide_eq_true_eq] at h
  exact ⟨h.1, by omega, by omega⟩
theorem erCl_shapes {xs : List Cell} {i : Nat} (h : i < xs.length) : (gd (erCls xs) i).shapes = (gd xs i).shapes.xs := by rw [erCls_gd h]; rfl
theorem ownP_r {l : Lib} {cell : Int} (hL : RLib G L l.cells.v l.cells.xs) (hlen : lenC (erCls l.cells.xs)) (k : ∀ v' ps, erPs ps = ownP (erCls l.cells.xs) cell → R v' G (osl 96 pieceT v' ps :: bagS 116 rectT (regs ps) :: L)) : CallT Tryz.prog 29 #[vT libT l, vi cell] G L R := by
  have hE := erCls_len l.cells.xs
  refine CallT.enter (args := _) Tryz.func29 rfl rfl (by kernel_rfl) rfl ?_
  refine WP.seq ?_
  refine WP.region ?_
  refine RG.ot rfl (OT.box (cs := libT.enc l) rfl rfl rfl fun b2 => ?_)
  refine RG.pv rfl (PV.asg rfl rfl) ?_
  refine RG.nil ?_
  refine WP.seq ?_
  refine WP.seq ?_
  refine WP.region ?_
  refine RG.pv rfl (PV.loadW rfl Ag30 rfl rfl) ?_
  refine RG.pv rfl (PV.mvI (.inl rfl) rfl) ?_
  refine RG.callF (vs := [_, _]) rfl rfl En66 rfl (hasCl_r hL.up hlen ?_)
  refine RG.pv rfl (PV.not rfl rfl) ?_
  refine RG.nil ?_
  refine WP.cond rfl (fun h1 => ?_) (fun h1 => ?_)
  · have h1 : hasCl (erCls l.cells.xs) cell = false := by simpa using h1
    refine WP.seq ?_
    refine WP.region ?_
    refine RG.ot rfl (OT.bslice (F := pieceT) (els := []) rfl El49 rfl (by decide) rfl (by decide) trivial fun v9 => ?_)
    refine RG.pv rfl (PV.asg (v := v9) rfl rfl) ?_
    refine RG.nil ?_
    refine WP.ret ?_
    exact ⟨_, _, ResV.one rfl rfl, (Cv.p (C := osl 96 pieceT v9 [] :: L)).trans (Cv.cons (Cv.bag0 (xs := regs []) rfl)), k _ [] (by rw [ownP, h1]; rfl)⟩
  · have h1 : hasCl (erCls l.cells.xs) cell = true := by simpa using h1
    obtain ⟨hok, hc0, hc1⟩ := hasCl_in h1
    have hsl := hL.sa (i := cell.toNat) (by omega)
    have hes := erCl_shapes (xs := l.cells.xs) (i := cell.toNat) (by omega)
    have e0 : ownP (erCls l.cells.xs) cell = pcE (layL (gd l.cells.xs cell.toNat).shapes.xs) := by rw [ownP, h1, cond_true, hes]
    have hval : ∀ i, i < (gd l.cells.xs cell.toNat).shapes.xs.length → validRect (gd (gd l.cells.xs cell.toNat).shapes.xs i).box = true := fun i hi => by
      have := okLib_shape hok (i := cell.toNat) (j := i) (by omega) (by rw [hes]; exact hi)
      rw [hes] at this
      simp only [okSh, Bool.and_eq_true] at this; exact this.2
    refine WP.skip ?_
    refine WP.seq ?_
    refine WP.region ?_
    refine RG.pv rfl (PV.field rfl Fo30_0 rfl) ?_
    refine RG.pv rfl (PV.load1 rfl Sc28 rfl (Rd.blk rfl)) ?_
    refine RG.pv rfl (PV.mvI (.inl rfl) rfl) ?_
    refine RG.pv rfl (PV.idxS (j := cell.toNat) rfl Is28 rfl (SlF.r hL.c) rfl (by omega) (by omega)) ?_
    refine RG.pv rfl (PV.field rfl Fo85_1 rfl) ?_
    refine RG.pv rfl (PV.loadF rfl Sc76 rfl rfl (El.r hL.c (getG (by omega))) rfl) ?_
    refine RG.callF (vs := [_]) rfl rfl En58 rfl (layers_r (v := (gd l.cells.xs cell.toNat).shapes.v) (Rs.up hsl) hval (fun w8 ys he => ?_))
    refine RG.callF (vs := [_]) rfl rfl En67 rfl (pieces_r (v := w8) Rs.o RsE.o (fun v17 psv17 hpv17 => ?_))
    refine RG.pv rfl (PV.asg (v := v17) rfl rfl) ?_
    refine RG.nil ?_
    refine WP.ret ?_
    exact ⟨_, _, ResV.one rfl rfl, Cv.p, k v17 psv17 (by rw [hpv17, he, e0])⟩
end Go.Proofs.YtbkaincaahcnfaaGreat
namespace Go.Proofs.YtbkaincaahcnfaaGreat
set_option linter.unusedVariables false
set_option linter.unusedSimpArgs false
open Go
set_option maxRecDepth 20000
set_option maxHeartbeats 1000000
set_option linter.unusedSimpArgs false
variable {G : Gh} {L : List Ch} {R : Value → Gh → List Ch → Prop}
def mvI (t : Trans) (xs : List Rect) : List Rect := bif mvOk t xs then canon (bits (xs.map (moveR t))) else []
theorem mvI_no {t : Trans} {xs : List Rect} (h : mvOk t xs = false) : mvI t xs = [] := by rw [mvI, h]; rfl
theorem mvI_ok {t : Trans} {xs : List Rect} (h : mvOk t xs = true) : mvI t xs = canon (bits (xs.map (moveR t))) := by rw [mvI, h]; rfl
theorem mvTo_any {t : Trans} {xs : List Rect} {i y x : Nat} (h : i < xs.length) : (((xs.map (moveR t)).take (i + 1)).any fun r => inR r y x) = ((((xs.map (moveR t)).take i).any fun r => inR r y x) || inR (moveR t (gd xs i)) y x) := by
  rw [List.take_add_one, getG (by simpa using h), gd_map _ h, List.any_append]
  simp
theorem movedOk_no {t : Trans} {xs : List Rect} {i : Nat} (h : i < xs.length) (e : validRect (moveR t (gd xs i)) = false) : movedOk t xs = false := by
  rw [movedOk, List.all_eq_false]
  exact ⟨gd xs i, gd_mem h, by simpa using e⟩
theorem movedOk_yes {t : Trans} {xs : List Rect} (h : ∀ j, j < xs.length → validRect (moveR t (gd xs j)) = true) : movedOk t xs = true := by
  rw [movedOk, List.all_eq_true]
  intro r hr
  obtain ⟨j, hj, rfl⟩ := List.getElem_of_mem hr
  have := h j hj
  rwa [gd_eq hj] at this
theorem mvReg_i {t : Trans} {v : Value} {xs : List Rect} (h1 : Rs G L rectT v xs) (k : ∀ v', R (.tuple #[v', .bool (mvOk t xs)]) G (osl 116 rectT v' (mvI t xs) :: L)) : CallT Tryz.prog 123 #[vtrans t, v] G L R := by
  refine CallT.bd h1 fun hbd => ?_
  refine CallT.enter (args := _) Tryz.func123 rfl rfl (by kernel_rfl) rfl ?_
  refine WP.seq ?_
  refine WP.region ?_
  refine RG.ot rfl (OT.box (cs := transT.enc t) rfl rfl rfl fun b2 => ?_)
  refine RG.pv rfl (PV.asg rfl rfl) ?_
  refine RG.pv rfl (PV.mvB (.inr rfl) rfl) ?_
  refine RG.nil ?_
  refine WP.seq ?_
  refine WP.seq ?_
  refine WP.region ?_
  refine RG.pv rfl (PV.loadW rfl Ag124 rfl rfl) ?_
  refine RG.callF (vs := [_]) rfl rfl En143 rfl (validT_i ?_)
  refine RG.pv rfl (PV.not rfl rfl) ?_
  refine RG.pv rfl (PV.mvB (.inl rfl) rfl) ?_
  refine RG.gs rfl rfl rfl (fun hp => (PV.move (v := v) rfl rfl)) ?_
  refine RG.gsC rfl rfl rfl rfl En165 (fun hp => ⟨_, (acons (gs_t hp) anil), isRegion_s (Rs.up h1) ⟨rfl, rfl, rfl⟩⟩) ?_
  refine RG.gs rfl rfl rfl (fun hp => (PV.not rfl (gs_t hp))) ?_
  refine RG.pv rfl (PV.pickO rfl rfl rfl (fun hq => gs_t (geqF hq))) ?_
  refine RG.nil ?_
  refine WP.cond rfl (fun h2 => ?_) (fun h2 => ?_)
  · have h3 : (validT t && isReg xs) = false := by
      cases h4 : validT t <;> cases h5 : isReg xs <;> simp_all
    have e1 : mvOk t xs = false := by rw [mvOk, h3]; rfl
    have e2 := mvI_no e1
    rw [e1, e2] at k
    refine WP.seq ?_
    refine WP.region ?_
    refine RG.pv rfl (PV.asg rfl rfl) ?_
    refine RG.pv rfl (PV.mvB (.inr rfl) rfl) ?_
    refine RG.nil ?_
    refine WP.ret ?_
    exact ⟨_, _, ResV.two rfl rfl rfl, (Cv.p (C := L)).trans Cv.nilS, k (.slice none 0 0)⟩
  · have h3 : validT t = true ∧ isReg xs = true := by
      cases h4 : validT t <;> cases h5 : isReg xs <;> simp_all
    have e0 : mvOk t xs = movedOk t xs := by rw [mvOk, h3.1, h3.2]; rfl
    obtain ⟨hto, hx, hy⟩ := validT_iff.1 h3.1
    have hri := RIn_all h3.2
    refine WP.skip ?_
    refine WP.seq ?_
    refine WP.region ?_
    refine RG.pv rfl (PV.build0 rfl Tryz.underlying165 ⟨80, by kernel_rfl⟩ (zeroB_spec (n := 6400) (by kernel_rfl))) ?_
    refine RG.ot rfl (OT.boxG rfl rfl fun b19 => ?_)
    refine RG.pv rfl (PV.mvP (.inr rfl) rfl) ?_
    refine RG.nil ?_
    refine WP.seq ?_
    refine WP.seq ?_
    refine WP.region ?_
    refine RG.pv rfl (PV.move (v := v) rfl rfl) ?_
    refine RG.pv rfl (PV.len (v := v) rfl Tryz.underlying59 rfl (SlF.r h1)) ?_
    refine RG.pv rfl (PV.mvI (.inl rfl) rfl) ?_
    refine RG.nil ?_
    refine WP.block ?_
    refine WP.loop2 [2, 6, 20, 21] (fun (i : Nat) (cs : List Bool) => i ≤ xs.length ∧ cs.length = 6400 ∧ (∀ j, j < i → validRect (moveR t (gd xs j)) = true) ∧ ∀ y x, y < 80 → x < 80 → gb cs y x = ((xs.map (moveR t)).take i).any fun r => inR r y x) (fun (i : Nat) (cs : List Bool) => [(22, vi i)]) (fun (i : Nat) (cs : List Bool) => grd b19 cs :: blk b2 124 (transT.enc t) :: L) (fun (i : Nat) (cs : List Bool) => xs.length - i) 0 (List.replicate 6400 false) ⟨by omega, by simp, fun j h => by omega, fun y x _ _ => by rw [gb_rep]; simp⟩ ⟨rfl, trivial⟩ Cv.p ?_
    rintro i cs τ ⟨hi, hl, hj, hc⟩
    refine WP.seq ?_
    refine WP.region ?_
    refine RG.pv rfl (PV.lss rfl rfl rfl) ?_
    refine RG.nil ?_
    refine WP.seq ?_
    refine WP.cond rfl (fun h4 => ?_) (fun h4 => ?_)
    · have h4 := of_decide_eq_true h4
      have h5 : i < xs.length := by omega
      refine WP.skip ?_
      refine WP.seq ?_
      refine WP.block ?_
      refine WP.seq ?_
      refine WP.region ?_
      refine RG.pv rfl (PV.idxS (v := v) rfl Is59 rfl (SlF.r h1) rfl rfl (by omega)) ?_
      refine RG.pv rfl (PV.loadE rfl Ag116 rfl rfl (El.r h1 (getG (by omega)))) ?_
      refine RG.ot rfl (OT.alloc rfl Zr116 fun b8 => ?_)
      refine RG.ot rfl (OT.storeW (vs := [vi _, vi _, vi _, vi _]) rfl Sz116 rfl rfl (Cl.c rfl) rfl rfl (OneC.c rfl) ?_)
      refine RG.nil ?_
      refine WP.seq ?_
      refine WP.region ?_
      refine RG.pv rfl (PV.loadW rfl Ag124 rfl rfl) ?_
      refine RG.pv rfl (PV.loadW rfl Ag116 rfl rfl) ?_
      refine RG.callF (vs := [_, _]) rfl rfl En94 rfl (moveRect_s hto (by omega) (RIn_gd hri (by omega)) ?_)
      refine RG.ot rfl (OT.alloc rfl Zr116 fun b9 => ?_)
      refine RG.ot rfl (OT.storeW (vs := [vi _, vi _, vi _, vi _]) rfl Sz116 rfl rfl (Cl.c rfl) rfl rfl (OneC.c rfl) ?_)
      refine RG.nil ?_
      refine WP.seq ?_
      refine WP.seq ?_
      refine WP.region ?_
      refine RG.pv rfl (PV.loadW rfl Ag116 rfl rfl) ?_
      refine RG.callF (vs := [_]) rfl rfl En95 rfl (validRect_s ?_)
      refine RG.pv rfl (PV.not rfl rfl) ?_
      refine RG.nil ?_
      refine WP.cond rfl (fun h6 => ?_) (fun h6 => ?_)
      · have h6 : validRect (moveR t (gd xs i)) = false := by simpa using h6
        have e1 : mvOk t xs = false := by rw [e0, movedOk_no h5 h6]
        have e2 := mvI_no e1
        rw [e1, e2] at k
        refine WP.seq ?_
        refine WP.region ?_
        refine RG.pv rfl (PV.asg rfl rfl) ?_
        refine RG.pv rfl (PV.mvB (.inr rfl) rfl) ?_
        refine RG.nil ?_
        refine WP.ret ?_
        exact ⟨_, _, ResV.two rfl rfl rfl, (Cv.p (C := L)).trans Cv.nilS, k (.slice none 0 0)⟩
      · have h6 : validRect (moveR t (gd xs i)) = true := by simpa using h6
        have hj' : ∀ j, j < i + 1 → validRect (moveR t (gd xs j)) = true := fun j h => by
          by_cases c : j = i
          · rw [c]; exact h6
          · exact hj j (by omega)
        refine WP.skip ?_
        refine WP.region ?_
        refine RG.pv rfl (PV.mvP (.inl rfl) rfl) ?_
        refine RG.pv rfl (PV.loadW rfl Ag116 rfl rfl) ?_
        refine RG.callF (vs := [(.pointer (some ⟨b19, 0, none⟩)), _]) rfl rfl En116 rfl (CallT.exB (put_s (by assumption) (fun bs' hb' hg' => ?_)))
        refine RG.nil ?_
        refine WP.region ?_
        refine RG.pv rfl (PV.add rfl rfl rfl (by omega)) ?_
        refine RG.pv rfl (PV.mvI (.inl rfl) rfl) ?_
        refine RG.nil ?_
        exact ⟨rfl, i + 1, bs', ⟨by omega, hb', hj', fun y x h7 h8 => by rw [hg' y x h7 h8, hc y x h7 h8, mvTo_any h5]⟩, ⟨rfl, trivial⟩, ⟨rfl, rfl, rfl, rfl, trivial⟩, Cv.p, by omega⟩
    · have h4 := of_decide_eq_false h4
      have e1 : mvOk t xs = true := by rw [e0, movedOk_yes (fun j h => hj j (by omega))]
      have e : cs = bits (xs.map (moveR t)) := bits_eq hl fun y x h6 h7 => by rw [hc y x h6 h7, List.take_of_length_le (by simp; omega)]
      subst e
      rw [e1, mvI_ok e1] at k
      refine WP.exit ?_
      refine WP.seq ?_
      refine WP.region ?_
      refine RG.pv rfl (PV.mvP (.inl rfl) rfl) ?_
      refine RG.callF (vs := [(.pointer (some ⟨b19, 0, none⟩))]) rfl rfl En117 rfl (CallT.exB (region_s (bits_length _) (fun v37 => ?_)))
      refine RG.pv rfl (PV.asg (v := v37) rfl rfl) ?_
      refine RG.pv rfl (PV.mvB (.inr rfl) rfl) ?_
      refine RG.nil ?_
      refine WP.ret ?_
      exact ⟨_, _, ResV.two rfl rfl rfl, Cv.p, k v37⟩
theorem mvReg_r {t : Trans} {v : Value} {xs : List Rect} (h1 : Rs G L rectT v xs) (hb : TBig t) (hri : ∀ r ∈ xs, RIn 40 r) (hv : ∀ i, i < xs.length → validRect (moveR t (gd xs i)) = true) (k : ∀ v', R v' G (osl 116 rectT v' (canon (bits (xs.map (moveR t)))) :: L)) : CallT Tryz.prog 121 #[vtrans t, v] G L R := by
  refine CallT.bd h1 fun hbd => ?_
  refine CallT.enter (args := _) Tryz.func121 rfl rfl (by kernel_rfl) rfl ?_
  refine WP.seq ?_
  refine WP.region ?_
  refine RG.ot rfl (OT.box (cs := transT.enc t) rfl rfl rfl fun b2 => ?_)
  refine RG.pv rfl (PV.asg rfl rfl) ?_
  refine RG.nil ?_
  refine WP.seq ?_
  refine WP.region ?_
  refine RG.ot rfl (OT.make (m := 6400) (F := boolT) (a0 := false) rfl El110 rfl (by decide) rfl rfl (by omega) (by omega) fun v7 => ?_)
  refine RG.pv rfl (PV.asg (v := v7) rfl rfl) ?_
  refine RG.nil ?_
  refine WP.seq ?_
  refine WP.seq ?_
  refine WP.region ?_
  refine RG.pv rfl (PV.mvI (.inr rfl) rfl) ?_
  refine RG.nil ?_
  refine WP.block ?_
  refine WP.loop3 [1, 2] (fun (i : Nat) (cs : List Bool) (u : Value) => i ≤ xs.length ∧ cs.length = 6400 ∧ ∀ y x, y < 80 → x < 80 → gb cs y x = ((xs.map (moveR t)).take i).any fun r => inR r y x) (fun (i : Nat) (cs : List Bool) (u : Value) => [(6, vi i), (5, u)]) (fun (i : Nat) (cs : List Bool) (u : Value) => osl 4 boolT u cs :: blk b2 124 (transT.enc t) :: L) (fun (i : Nat) (cs : List Bool) (u : Value) => xs.length - i) 0 (List.replicate 6400 false) v7 ⟨by omega, by simp, fun y x _ _ => by rw [gb_rep]; simp⟩ ⟨rfl, rfl, trivial⟩ Cv.p ?_
  rintro i cs u τ ⟨hi, hl, hc⟩
  refine WP.seq ?_
  refine WP.seq ?_
  refine WP.region ?_
  refine RG.pv rfl (PV.mvI (.inl rfl) rfl) ?_
  refine RG.pv rfl (PV.move (v := v) rfl rfl) ?_
  refine RG.pv rfl (PV.len (v := v) rfl Tryz.underlying59 rfl (SlF.r h1)) ?_
  refine RG.pv rfl (PV.lss rfl rfl rfl) ?_
  refine RG.nil ?_
  refine WP.cond rfl (fun h4 => ?_) (fun h4 => ?_)
  · have h4 := of_decide_eq_true h4
    have h5 : i < xs.length := by omega
    refine WP.skip ?_
    refine WP.seq ?_
    refine WP.block ?_
    refine WP.regionHD [.s u] (.q 0 (.q 1 (.q 2 (.q 3 (.q 4 (.q 5 (.l 6 (.l 7 (.q 8 Sch.nil))))))))) (by kernel_rfl) (by kernel_rfl) (by kernel_rfl) rfl ?_
    refine RH.pv rfl (fun _ _ _ _ h => h) (Gh.le_refl _) PickC.pick rfl (PV.move (v := u) rfl rfl) ?_
    refine RH.pv rfl (fun _ _ _ _ h => h) (Gh.le_refl _) PickC.pick rfl (PV.loadW rfl Ag124 rfl rfl) ?_
    refine RH.pv rfl (fun _ _ _ _ h => h) (Gh.le_refl _) PickC.pick rfl (PV.move (v := v) rfl rfl) ?_
    refine RH.pv rfl (fun _ _ _ _ h => h) (Gh.le_refl _) PickC.pick rfl (PV.mvI (.inl rfl) rfl) ?_
    refine RH.pv rfl (fun _ _ _ _ h => h) (Gh.le_refl _) PickC.pick rfl (PV.idxS (v := v) rfl Is59 rfl (SlF.r h1) rfl rfl (by omega)) ?_
    refine RH.pv rfl (fun _ _ _ _ h => h) (Gh.le_refl _) PickC.pick rfl (PV.loadE rfl Ag116 rfl rfl (El.r h1 (getG (by omega)))) ?_
    refine RH.ot rfl rfl (OT.callF (vs := [_, _]) rfl En100 rfl (l10Rect_r hb (RIn_gd hri (by omega)) ⟨Gh.le_refl _, PickC.pick, ?_⟩))
    refine RH.ot rfl rfl (OT.callF (vs := [u, _]) rfl En164 rfl ( CallT.exS u (fill_s hl (hv i (by omega)) (fun D' hD' hg' => ⟨Gh.le_refl _, PickC.pick, ?_⟩))))
    refine RH.pv rfl (fun _ _ _ _ h => h) (Gh.le_refl _) PickC.pick rfl (PV.asg rfl rfl) ?_
    refine RH.nil ?_
    refine WP.region ?_
    refine RG.pv rfl (PV.mvI (.inl rfl) rfl) ?_
    refine RG.pv rfl (PV.add rfl rfl rfl (by omega)) ?_
    refine RG.pv rfl (PV.mvI (.inr rfl) rfl) ?_
    refine RG.nil ?_
    exact ⟨rfl, i + 1, D', u, ⟨by omega, hD', fun y x h7 h8 => by rw [hg' y x h7 h8, hc y x h7 h8, mvTo_any h5]⟩, ⟨rfl, rfl, trivial⟩, ⟨rfl, rfl, trivial⟩, Cv.p, by omega⟩
  · have h4 := of_decide_eq_false h4
    have e : cs = bits (xs.map (moveR t)) := bits_eq hl fun y x h6 h7 => by rw [hc y x h6 h7, List.take_of_length_le (by simp; omega)]
    subst e
    refine WP.exit ?_
    refine WP.seq ?_
    refine WP.region ?_
    refine RG.pv rfl (PV.move (v := u) rfl rfl) ?_
    refine RG.callF (vs := [u]) rfl rfl En78 rfl (l03Canon_s Rs.o (bits_length _) (fun v23 => ?_))
    refine RG.pv rfl (PV.asg (v := v23) rfl rfl) ?_
    refine RG.nil ?_
    refine WP.ret ?_
    exact ⟨_, _, ResV.one rfl rfl, Cv.p, k v23⟩
end Go.Proofs.YtbkaincaahcnfaaGreat
namespace Go.Proofs.YtbkaincaahcnfaaGreat
set_option linter.unusedVariables false
set_option linter.unusedSimpArgs false
open Go
set_option linter.unusedSimpArgs false
set_option maxRecDepth 20000
theorem least {P : Nat → Prop} (n : Nat) : P n → ∃ m, P m ∧ ∀ i, i < m → ¬ P i := by
  induction n using Nat.strongRecOn with
  | ind n ih =>
    intro h
    by_cases c : ∃ i, i < n ∧ P i
    · obtain ⟨i, hi, hp⟩ := c; exact ih i hi hp
    · exact ⟨n, h, fun i hi hp => c ⟨i, hi, hp⟩⟩
theorem comps_cover {S : List Bool} {y x : Nat} (hy : y < 80) (hx : x < 80) : ((comps S).any fun c => gb c y x) = gb S y x := by
  classical
  rw [Bool.eq_iff_iff, List.any_eq_true]
  constructor
  · rintro ⟨c, hc, h⟩
    obtain ⟨j, hj, rfl⟩ := List.mem_map.1 hc
    have hf : First S j := by simpa using (List.mem_filter.1 hj).2
    exact (((comp_iff hy hx).1 h).on hf.1).2.2
  · intro h
    have hon : On S (y, x) := ⟨hy, hx, h⟩
    obtain ⟨m, h1, hmin⟩ := least (P := fun i => On S (cel i) ∧ Conn S (cel i) (y, x)) (pos (y, x)) (by simp only [cel_pos (a := (y, x)) hx]; exact ⟨hon, .refl⟩)
    have hm : m < 6400 := by
      have a1 := h1.1.1; have a2 := h1.1.2.1
      simp only [cel] at a1 a2; omega
    have hf : First S m := ⟨h1.1, fun i hi ho hc => hmin i hi ⟨ho, hc.trans h1.2⟩⟩
    refine ⟨compB S (cel m), List.mem_map.2 ⟨m, List.mem_filter.2 ⟨List.mem_range.2 hm, by simpa using hf⟩, rfl⟩, (comp_iff hy hx).2 h1.2⟩
end Go.Proofs.YtbkaincaahcnfaaGreat
namespace Go.Proofs.YtbkaincaahcnfaaGreat
set_option linter.unusedVariables false
set_option linter.unusedSimpArgs false
open Go
set_option maxRecDepth 20000
set_option linter.unusedSimpArgs false
theorem mv_valid {t : Trans} {r b c : Rect} (ho : 0 ≤ t.o ∧ t.o ≤ 7) (hr : r.x0 < r.x1 ∧ r.y0 < r.y1) (hb : b.x0 ≤ r.x0 ∧ r.x0 < b.x1 ∧ b.y0 ≤ r.y0 ∧ r.y0 < b.y1) (hc : c.x0 ≤ r.x1 - 1 ∧ r.x1 ≤ c.x1 ∧ c.y0 ≤ r.y1 - 1 ∧ r.y1 ≤ c.y1)
    (h1 : validRect (moveR t b) = true) (h2 : validRect (moveR t c) = true) : validRect (moveR t r) = true := by
  obtain ⟨o, tx, ty⟩ := t
  rw [validR_iff] at *
  have ho : o = 0 ∨ o = 1 ∨ o = 2 ∨ o = 3 ∨ o = 4 ∨ o = 5 ∨ o = 6 ∨ o = 7 := by simp only at ho; omega
  rcases ho with rfl | rfl | rfl | rfl | rfl | rfl | rfl | rfl <;> (simp [moveR, moveP, turnP, flip, rot] at h1 h2 ⊢; omega)
theorem canon_mv {t : Trans} {S : List Bool} {bs : List Rect} (ho : 0 ≤ t.o ∧ t.o ≤ 7) (hS : S.length = 6400) (hsub : ∀ y x, y < 80 → x < 80 → gb S y x = true → ∃ b ∈ bs, inR b y x = true) (hv : ∀ b ∈ bs, validRect (moveR t b) = true) : ∀ r ∈ canon S, validRect (moveR t r) = true := by
  intro r hr
  have hva : validRect r = true := by
    have := isReg_valid (isReg_canon hS)
    simp only [validRs, Bool.and_eq_true, List.all_eq_true] at this
    exact this.2 r hr
  have hv1 := validR_iff.1 hva
  have key : ∀ y x : Nat, y < 80 → x < 80 → inR r y x = true → ∃ b ∈ bs, inR b y x = true := fun y x hy hx h => by
    refine hsub y x hy hx ?_
    rw [← canon_any hy hx, List.any_eq_true]
    exact ⟨r, hr, h⟩
  obtain ⟨b, hb, hb2⟩ := key (r.y0 + 40).toNat (r.x0 + 40).toNat (by omega) (by omega) (by rw [inR_iff]; omega)
  obtain ⟨c, hc, hc2⟩ := key (r.y1 + 39).toNat (r.x1 + 39).toNat (by omega) (by omega) (by rw [inR_iff]; omega)
  rw [inR_iff] at hb2 hc2
  exact mv_valid ho (by omega) (by omega) (by omega) (hv b hb) (hv c hc)
theorem boxesOf_sub {ss : List Shape} {l : Nat} {b : Rect} (h : b ∈ boxesOf ss l) : ∃ m, m < ss.length ∧ (gd ss m).box = b := by
  rw [boxesOf] at h
  obtain ⟨s, hs, rfl⟩ := List.mem_map.1 h
  obtain ⟨m, hm, rfl⟩ := List.getElem_of_mem (List.mem_filter.1 hs).1
  exact ⟨m, hm, by rw [gd_eq hm]⟩
theorem layL_gd {ss : List Shape} {l : Nat} (h : l < 8) : gd (layL ss) l = canon (bits (boxesOf ss l)) := by
  rw [layL, gd_map _ (by simpa using h), range_gd h]
theorem lay_bits {ss : List Shape} {l : Nat} (h : l < 8) : bits (gd (layL ss) l) = bits (boxesOf ss l) := by
  rw [layL_gd h, bits_canon (bits_length _)]
theorem lay_box {ss : List Shape} {l y x : Nat} (h : l < 8) (hy : y < 80) (hx : x < 80) (hg : gb (bits (gd (layL ss) l)) y x = true) : ∃ b ∈ ss.map Shape.box, inR b y x = true := by
  rw [lay_bits h, gb_bits_iff hy hx] at hg
  obtain ⟨b, hb, hi⟩ := hg
  obtain ⟨m, hm, rfl⟩ := boxesOf_sub hb
  exact ⟨_, List.mem_map.2 ⟨gd ss m, gd_mem hm, rfl⟩, hi⟩
theorem gd4 {α : Type} [Inhabited α] (a b c d : α) : gd [a, b, c, d] 0 = a ∧ gd [a, b, c, d] 1 = b ∧ gd [a, b, c, d] 2 = c ∧ gd [a, b, c, d] 3 = d := by
  unfold gd; exact ⟨rfl, rfl, rfl, rfl⟩
theorem cond_box {ss : List Shape} {i y x : Nat} (h : i < 4) (hy : y < 80) (hx : x < 80) (hg : gb (gd (condB (layL ss)) i) y x = true) : ∃ b ∈ ss.map Shape.box, inR b y x = true := by
  have hk : y * 80 + x < 6400 := by omega
  obtain ⟨e0, e1, e2, e3⟩ := gd4 (zipB (fun p q => p && !q) (bits (gd (layL ss) 0)) (bits (gd (layL ss) 1))) (bits (gd (layL ss) 1)) (bits (gd (layL ss) 3)) (bits (gd (layL ss) 5))
  have hi : i = 0 ∨ i = 1 ∨ i = 2 ∨ i = 3 := by omega
  rw [condB] at hg
  rcases hi with rfl | rfl | rfl | rfl
  · rw [e0] at hg
    unfold gb at hg
    rw [zipB_gd (by rw [bits_length]; exact hk) (by rw [bits_length]; exact hk)] at hg
    simp only [Bool.and_eq_true] at hg
    exact lay_box (l := 0) (by omega) hy hx hg.1
  · rw [e1] at hg; exact lay_box (l := 1) (by omega) hy hx hg
  · rw [e2] at hg; exact lay_box (l := 3) (by omega) hy hx hg
  · rw [e3] at hg; exact lay_box (l := 5) (by omega) hy hx hg
theorem comp_sub {S c : List Bool} {y x : Nat} (hc : c ∈ comps S) (hy : y < 80) (hx : x < 80) (h : gb c y x = true) : gb S y x = true := by
  rw [← comps_cover hy hx, List.any_eq_true]
  exact ⟨c, hc, h⟩
theorem pc_mem {l : List (List Rect)} {p : Int × List Rect} (h : p ∈ pcE l) : ∃ i c, i < 4 ∧ c ∈ comps (gd (condB l) i) ∧ p.2 = canon c := by
  rw [pcE] at h
  cases hl : isLay l with
  | false => rw [hl] at h; simp at h
  | true =>
    rw [hl, cond_true] at h
    obtain ⟨q, hq, rfl⟩ := List.mem_map.1 h
    rw [pcL] at hq
    obtain ⟨z, hz, hq⟩ := List.mem_flatten.1 hq
    obtain ⟨i, hi, rfl⟩ := List.mem_map.1 hz
    obtain ⟨c, hc, rfl⟩ := List.mem_map.1 hq
    exact ⟨i, c, by simpa using hi, hc, rfl⟩
theorem pc_reg {l : List (List Rect)} {p : Int × List Rect} (h : p ∈ pcE l) : isReg p.2 = true := by
  obtain ⟨i, c, hi, hc, e⟩ := pc_mem h
  rw [e]; exact isReg_canon (comps_mem hc)
/-- what a piece of a cell's own shapes covers stays on the chip where the shapes stay on it -/
theorem pc_mv {ss : List Shape} {t : Trans} (ho : 0 ≤ t.o ∧ t.o ≤ 7) (hv : ∀ m, m < ss.length → validRect (moveR t (gd ss m).box) = true) {p : Int × List Rect} (h : p ∈ pcE (layL ss)) : ∀ r ∈ p.2, validRect (moveR t r) = true := by
  obtain ⟨i, c, hi, hc, e⟩ := pc_mem h
  rw [e]
  refine canon_mv (bs := ss.map Shape.box) ho (comps_mem hc) (fun y x hy hx hg => cond_box hi hy hx (comp_sub hc hy hx hg)) fun b hb => ?_
  obtain ⟨s, hs, rfl⟩ := List.mem_map.1 hb
  obtain ⟨m, hm, rfl⟩ := List.getElem_of_mem hs
  have := hv m hm
  rwa [gd_eq hm] at this
theorem lay_mv {ss : List Shape} {t : Trans} {l : Nat} (hl : l < 8) (ho : 0 ≤ t.o ∧ t.o ≤ 7) (hv : ∀ m, m < ss.length → validRect (moveR t (gd ss m).box) = true) : ∀ r ∈ gd (layL ss) l, validRect (moveR t r) = true := by
  rw [layL_gd hl]
  refine canon_mv (bs := ss.map Shape.box) ho (bits_length _) (fun y x hy hx hg => lay_box hl hy hx (by rw [lay_bits hl]; exact hg)) fun b hb => ?_
  obtain ⟨s, hs, rfl⟩ := List.mem_map.1 hb
  obtain ⟨m, hm, rfl⟩ := List.getElem_of_mem hs
  have := hv m hm
  rwa [gd_eq hm] at this
/-- moved pieces -/
def mvP (t : Trans) (p : Int × List Rect) : Int × List Rect := (p.1, canon (bits (p.2.map (moveR t))))
theorem mvI_eq {t : Trans} {xs : List Rect} (ht : validT t = true) (hx : isReg xs = true) (hv : ∀ r ∈ xs, validRect (moveR t r) = true) : mvI t xs = canon (bits (xs.map (moveR t))) := by
  refine mvI_ok ?_
  rw [mvOk, ht, hx, Bool.true_and, Bool.true_and, movedOk, List.all_eq_true]
  exact hv
end Go.Proofs.YtbkaincaahcnfaaGreat
namespace Go.Proofs.YtbkaincaahcnfaaGreat
set_option linter.unusedVariables false
set_option linter.unusedSimpArgs false
open Go
set_option maxRecDepth 20000
set_option maxHeartbeats 1000000
set_option linter.unusedSimpArgs false
variable {G : Gh} {L : List Ch} {R : Value → Gh → List Ch → Prop}
def regsQ (xs : List PPiece) : List (Sl Rect) := xs.map fun q => q.piece.reg
theorem regsQ_len (xs : List PPiece) : (regsQ xs).length = xs.length := by simp [regsQ]
theorem regsQ_gd {xs : List PPiece} {i : Nat} (h : i < xs.length) : gd (regsQ xs) i = (gd xs i).piece.reg := gd_map _ h
theorem regsQ_append (xs ys : List PPiece) : regsQ (xs ++ ys) = regsQ xs ++ regsQ ys := by simp [regsQ]
def erQ (q : PPiece) : Int × (Int × List Rect) := (q.occ, erP q.piece)
def erQs (xs : List PPiece) : List (Int × (Int × List Rect)) := xs.map erQ
theorem erQs_len (xs : List PPiece) : (erQs xs).length = xs.length := by simp [erQs]
/-- the placed pieces of the i-th occurrence; of those before it -/
noncomputable def plAt (cs : List ECell) (os : List EOcc) (i : Nat) : List (Int × (Int × List Rect)) := (ownP cs (gd os i).cell).map fun p => ((i : Int), mvP (gd os i).place p)
noncomputable def plTo (cs : List ECell) (os : List EOcc) (i : Nat) : List (Int × (Int × List Rect)) := (List.range i).flatMap (plAt cs os)
theorem plTo_succ (cs : List ECell) (os : List EOcc) (i : Nat) : plTo cs os (i + 1) = plTo cs os i ++ plAt cs os i := by simp [plTo, List.range_succ, List.flatMap_append]
theorem ownP_len (cs : List ECell) (cell : Int) : (ownP cs cell).length ≤ 25600 := by
  rw [ownP]; cases hasCl cs cell
  · simp
  · exact pcE_len _
theorem plAt_len (cs : List ECell) (os : List EOcc) (i : Nat) : (plAt cs os i).length = (ownP cs (gd os i).cell).length := by simp [plAt]
theorem plTo_len (cs : List ECell) (os : List EOcc) : ∀ i, (plTo cs os i).length ≤ 25600 * i
  | 0 => by simp [plTo]
  | i + 1 => by
    have h1 := plTo_len cs os i
    have h2 := ownP_len cs (gd os i).cell
    rw [plTo_succ, List.length_append, plAt_len]; omega
theorem plAt_gd {cs : List ECell} {os : List EOcc} {i k : Nat} (h : k < (ownP cs (gd os i).cell).length) : gd (plAt cs os i) k = ((i : Int), mvP (gd os i).place (gd (ownP cs (gd os i).cell) k)) := gd_map _ h
theorem OccAt.own {xs : List Cell} {cell : Int} {zs : List Occ} {i : Nat} (ha : OccAt xs cell zs i) : ownP (erCls xs) (gd zs i).cell = pcE (layL (gd xs (gd zs i).cell.toNat).shapes.xs) := by
  obtain ⟨h1, h2, -, -⟩ := occR_cell ha.hi
  rw [ha.ho] at h2
  simp only [erO] at h2
  have hh : hasCl (erCls xs) (gd zs i).cell = true := by
    simp only [hasCl, within, Bool.and_eq_true, decide_eq_true_eq]
    exact ⟨h1, by omega, by omega⟩
  rw [ownP, hh, cond_true, ha.hs]
theorem OccAt.ok {xs : List Cell} {cell : Int} {zs : List Occ} {i : Nat} (ha : OccAt xs cell zs i) (h0 : shE (erCls xs) cell = 0) : ∀ m, m < (gd xs (gd zs i).cell.toNat).shapes.xs.length → validRect (moveR (gd zs i).place (gd (gd xs (gd zs i).cell.toNat).shapes.xs m).box) = true := fun m hm => by
  cases hv : validRect (moveR (gd zs i).place (gd (gd xs (gd zs i).cell.toNat).shapes.xs m).box) with
  | true => rfl
  | false =>
    have hb := ha.bad hm hv
    by_cases ho : occE (erCls xs) cell = 0
    · rw [shE_flat ho, hb] at h0; simp at h0
    · rw [shE_occ ho] at h0; exact absurd h0 ho
theorem gd_memP {l : List (List Rect)} {ps : List Piece} (h : erPs ps = pcE l) {k : Nat} (hk : k < ps.length) : erP (gd ps k) ∈ pcE l := by
  rw [← h, erPs]; exact List.mem_map.2 ⟨gd ps k, gd_mem hk, rfl⟩
theorem placed_r {l : Lib} {cell : Int} {u : Value} {zs : List Occ} (hL : RLib G L l.cells.v l.cells.xs) (hlen : lenC (erCls l.cells.xs)) (h1 : Rs G L occT u zs) (hpth : RsE G L intT (pths zs)) (he : erOs zs = occR (erCls l.cells.xs) cell) (h0 : shE (erCls l.cells.xs) cell = 0) (k : ∀ v qs, erQs qs = plTo (erCls l.cells.xs) (occR (erCls l.cells.xs) cell) (occR (erCls l.cells.xs) cell).length → R v G (osl 108 ppieceT v qs :: bagS 116 rectT (regsQ qs) :: L)) : CallT Tryz.prog 74 #[vT libT l, u] G L R := by
  have hE := erCls_len l.cells.xs
  have hzl : zs.length = (occR (erCls l.cells.xs) cell).length := by rw [← he, erOs_len]
  refine CallT.bd h1 fun hbz => ?_
  refine CallT.enter (args := _) Tryz.func74 rfl rfl (by kernel_rfl) rfl ?_
  refine WP.seq ?_
  refine WP.region ?_
  refine RG.ot rfl (OT.box (cs := libT.enc l) rfl rfl rfl fun b2 => ?_)
  refine RG.pv rfl (PV.asg rfl rfl) ?_
  refine RG.nil ?_
  refine WP.seq ?_
  refine WP.region ?_
  refine RG.ot rfl (OT.bslice (F := ppieceT) (els := []) rfl El54 rfl (by decide) rfl (by decide) trivial fun v9 => ?_)
  refine RG.pv rfl (PV.asg (v := v9) rfl rfl) ?_
  refine RG.nil ?_
  refine WP.seq ?_
  refine WP.seq ?_
  refine WP.region ?_
  refine RG.pv rfl (PV.mvI (.inr rfl) rfl) ?_
  refine RG.nil ?_
  refine WP.block ?_
  refine WP.cv (Cv.cons (Cv.bag0 (e := 116) (F := rectT) (xs := regsQ []) rfl)) ?_
  refine WP.loop3 [1, 2] (fun (i : Nat) (qs : List PPiece) (q : Value) => i ≤ zs.length ∧ erQs qs = plTo (erCls l.cells.xs) (occR (erCls l.cells.xs) cell) i) (fun (i : Nat) (qs : List PPiece) (q : Value) => [(6, vi i), (5, q)]) (fun (i : Nat) (qs : List PPiece) (q : Value) => osl 108 ppieceT q qs :: bagS 116 rectT (regsQ qs) :: blk b2 30 (libT.enc l) :: L) (fun (i : Nat) (qs : List PPiece) (q : Value) => zs.length - i) 0 [] v9 ⟨by omega, rfl⟩ ⟨rfl, rfl, trivial⟩ Cv.p ?_
  rintro i qs q τ ⟨hi, hq⟩
  refine WP.seq ?_
  refine WP.seq ?_
  refine WP.region ?_
  refine RG.pv rfl (PV.mvI (.inl rfl) rfl) ?_
  refine RG.pv rfl (PV.move (v := u) rfl rfl) ?_
  refine RG.pv rfl (PV.len (v := u) rfl Tryz.underlying98 rfl (SlF.r h1)) ?_
  refine RG.pv rfl (PV.lss rfl rfl rfl) ?_
  refine RG.nil ?_
  refine WP.cond rfl (fun h2 => ?_) (fun h2 => ?_)
  · have h2 := of_decide_eq_true h2
    have h3 : i < zs.length := by omega
    have ha := OccAt.of (cell := cell) he h3
    have hal := ha.hl
    have hbig := ha.big
    have hto := plTo_len (erCls l.cells.xs) (occR (erCls l.cells.xs) cell) i
    refine WP.skip ?_
    refine WP.seq ?_
    refine WP.block ?_
    refine WP.seq ?_
    refine WP.regionH0 (.q 0 (.q 1 (.q 2 (.q 3 (.q 4 (.q 5 (.l 6 (.q 7 Sch.nil)))))))) (by kernel_rfl) (by kernel_rfl) (by kernel_rfl) rfl ?_
    refine RH.pv rfl (fun _ _ _ _ h => h) (Gh.le_refl _) PickC.pick rfl (PV.loadW rfl Ag30 rfl rfl) ?_
    refine RH.pv rfl (fun _ _ _ _ h => h) (Gh.le_refl _) PickC.pick rfl (PV.move (v := u) rfl rfl) ?_
    refine RH.pv rfl (fun _ _ _ _ h => h) (Gh.le_refl _) PickC.pick rfl (PV.mvI (.inl rfl) rfl) ?_
    refine RH.pv rfl (fun _ _ _ _ h => h) (Gh.le_refl _) PickC.pick rfl (PV.idxS (v := u) rfl Is98 rfl (SlF.r h1) rfl rfl (by omega)) ?_
    refine RH.pv rfl (fun _ _ _ _ h => h) (Gh.le_refl _) PickC.pick rfl (PV.field rfl Fo126_0 rfl) ?_
    refine RH.pv rfl (fun _ _ _ _ h => h) (Gh.le_refl _) PickC.pick rfl (PV.loadF rfl Sc2 rfl rfl (El.r h1 (getG (by omega))) rfl) ?_
    refine RH.ot rfl rfl (OT.callF (vs := [_, _]) rfl En29 rfl (ownP_r hL.up hlen (fun v22 psv22 hpv22 => ⟨Gh.le_refl _, PickC.pick, ?_⟩)))
    refine RH.pv rfl (fun _ _ _ _ h => h) (Gh.le_refl _) PickC.pick rfl (PV.asg (v := v22) rfl rfl) ?_
    refine RH.nil ?_
    refine WP.seq ?_
    refine WP.region ?_
    refine RG.pv rfl (PV.mvI (.inr rfl) rfl) ?_
    refine RG.nil ?_
    refine WP.block ?_
    have hpe : erPs psv22 = pcE (layL (gd l.cells.xs (gd zs i).cell.toNat).shapes.xs) := by rw [hpv22, ha.own]
    have hpl : psv22.length = (plAt (erCls l.cells.xs) (occR (erCls l.cells.xs) cell) i).length := by rw [plAt_len, ha.ho, ← erPs_len, hpv22]; rfl
    have hpb : psv22.length ≤ 25600 := by rw [← erPs_len, hpe]; exact pcE_len _
    refine WP.loop3 [1, 2, 6, 7] (fun (m : Nat) (rs : List PPiece) (w : Value) => m ≤ psv22.length ∧ erQs rs = plTo (erCls l.cells.xs) (occR (erCls l.cells.xs) cell) i ++ (plAt (erCls l.cells.xs) (occR (erCls l.cells.xs) cell) i).take m) (fun (m : Nat) (rs : List PPiece) (w : Value) => [(8, vi m), (5, w)]) (fun (m : Nat) (rs : List PPiece) (w : Value) => osl 108 ppieceT w rs :: bagS 116 rectT (regsQ rs) :: osl 96 pieceT v22 psv22 :: bagS 116 rectT (regs psv22) :: blk b2 30 (libT.enc l) :: L) (fun (m : Nat) (rs : List PPiece) (w : Value) => psv22.length - m) 0 qs q ⟨by omega, by rw [hq]; simp⟩ ⟨rfl, rfl, trivial⟩ Cv.p ?_
    rintro m rs w τ1 ⟨hm, hr⟩
    refine WP.seq ?_
    refine WP.seq ?_
    refine WP.region ?_
    refine RG.pv rfl (PV.mvI (.inl rfl) rfl) ?_
    refine RG.pv rfl (PV.move (v := v22) rfl rfl) ?_
    refine RG.pv rfl (PV.len (v := v22) rfl Tryz.underlying49 rfl SlF.o) ?_
    refine RG.pv rfl (PV.lss rfl rfl rfl) ?_
    refine RG.nil ?_
    have hrl : rs.length ≤ 6000000 := by rw [← erQs_len, hr, List.length_append, List.length_take]; omega
    refine WP.cond rfl (fun h4 => ?_) (fun h4 => ?_)
    · have h4 := of_decide_eq_true h4
      have h5 : m < psv22.length := by omega
      have hpm := gd_memP hpe h5
      refine WP.skip ?_
      refine WP.seq ?_
      refine WP.block ?_
      refine WP.regionHD [.s w] (.q 0 (.q 1 (.q 2 (.q 3 (.q 4 (.q 5 (.q 6 (.q 7 (.q 8 (.q 9 (.q 10 (.q 11 (.q 12 (.q 13 (.q 14 (.q 15 (.q 16 (.l 17 (.q 18 (.q 19 (.l 20 (.l 21 (.q 22 Sch.nil))))))))))))))))))))))) (by kernel_rfl) (by kernel_rfl) (by kernel_rfl) rfl ?_
      refine RH.pv rfl (fun _ _ _ _ h => h) (Gh.le_refl _) PickC.pick rfl (PV.move (v := w) rfl rfl) ?_
      refine RH.pv rfl (fun _ _ _ _ h => h) (Gh.le_refl _) PickC.pick rfl (PV.mvI (.inl rfl) rfl) ?_
      refine RH.pv rfl (fun _ _ _ _ h => h) (Gh.le_refl _) PickC.pick rfl (PV.move (v := v22) rfl rfl) ?_
      refine RH.pv rfl (fun _ _ _ _ h => h) (Gh.le_refl _) PickC.pick rfl (PV.mvI (.inl rfl) rfl) ?_
      refine RH.pv rfl (fun _ _ _ _ h => h) (Gh.le_refl _) PickC.pick rfl (PV.idxS (v := v22) rfl Is49 rfl SlF.o rfl rfl (by omega)) ?_
      refine RH.pv rfl (fun _ _ _ _ h => h) (Gh.le_refl _) PickC.pick rfl (PV.field rfl Fo96_0 rfl) ?_
      refine RH.pv rfl (fun _ _ _ _ h => h) (Gh.le_refl _) PickC.pick rfl (PV.loadF (v := v22) (j := 0) rfl Sc2 rfl rfl (El.o (getG (by omega))) rfl) ?_
      refine RH.pv rfl (fun _ _ _ _ h => h) (Gh.le_refl _) PickC.pick rfl (PV.move (v := u) rfl rfl) ?_
      refine RH.pv rfl (fun _ _ _ _ h => h) (Gh.le_refl _) PickC.pick rfl (PV.mvI (.inl rfl) rfl) ?_
      refine RH.pv rfl (fun _ _ _ _ h => h) (Gh.le_refl _) PickC.pick rfl (PV.idxS (v := u) rfl Is98 rfl (SlF.r h1) rfl rfl (by omega)) ?_
      refine RH.pv rfl (fun _ _ _ _ h => h) (Gh.le_refl _) PickC.pick rfl (PV.field rfl Fo126_1 rfl) ?_
      refine RH.pv rfl (fun _ _ _ _ h => h) (Gh.le_refl _) PickC.pick rfl (PV.loadEP rfl Ag124 rfl rfl (El.r h1 (getG (by omega))) rfl) ?_
      refine RH.pv rfl (fun _ _ _ _ h => h) (Gh.le_refl _) PickC.pick rfl (PV.move (v := v22) rfl rfl) ?_
      refine RH.pv rfl (fun _ _ _ _ h => h) (Gh.le_refl _) PickC.pick rfl (PV.mvI (.inl rfl) rfl) ?_
      refine RH.pv rfl (fun _ _ _ _ h => h) (Gh.le_refl _) PickC.pick rfl (PV.idxS (v := v22) rfl Is49 rfl SlF.o rfl rfl (by omega)) ?_
      refine RH.pv rfl (fun _ _ _ _ h => h) (Gh.le_refl _) PickC.pick rfl (PV.field rfl Fo96_1 rfl) ?_
      refine RH.pv rfl (fun _ _ _ _ h => h) (Gh.le_refl _) PickC.pick rfl (PV.loadF rfl Sc59 rfl rfl (El.o (getG (by omega))) rfl) ?_
      refine RH.ot rfl rfl (OT.callF (vs := [_, _]) rfl En121 rfl (mvReg_r (RsE.reg (RsE.o (xs := regs psv22)) (by omega)) hbig (RIn_all (pc_reg hpm)) (fun j hj => pc_mv ha.hp.1 (ha.ok h0) hpm _ (gd_mem hj)) (fun v46 => ⟨Gh.le_refl _, PickC.pick, ?_⟩)))
      refine RH.up1 ?_
      refine RH.pv rfl (fun _ _ _ _ h => h) (Gh.le_refl _) PickC.pick rfl (PV.build (vs := [(0, [vi _]), (1, [v46])]) (out := [_, _]) rfl Zr96 Pl96 ⟨rfl, (Cl.c rfl), ⟨rfl, (Cl.s (v := v46) SlF.o), trivial⟩⟩ rfl) ?_
      refine RH.pv rfl (fun _ _ _ _ h => h) (Gh.le_refl _) PickC.pick rfl (PV.build (vs := [(0, [vi _]), (1, [vi _, _])]) (out := [_, _, _]) rfl Zr108 Pl108 ⟨rfl, (Cl.c rfl), ⟨rfl, (Cl.c rfl), trivial⟩⟩ rfl) ?_
      refine RH.ot rfl rfl (OT.bslice (F := ppieceT) (els := [⟨(i : Int), ⟨(gd psv22 m).layer, ⟨v46, canon (bits ((gd psv22 m).reg.xs.map (moveR (gd zs i).place)))⟩⟩⟩]) rfl El54 rfl (by decide) rfl (by decide) ⟨rfl, (Cl.c rfl), trivial⟩ fun v49 => ⟨Gh.le_refl _, PickC.pick, ?_⟩)
      refine RH.ot rfl rfl (OT.append (v := w) (u := v49) (F := ppieceT) rfl El54 rfl (by decide) rfl rfl Rs.o (OneL.one (OneC.val rfl (OneC.val rfl (OneC.sl (SlF.o (v := v46)) OneC.nil)))) rfl (by first | omega | (simp <;> omega)) fun v50 => ⟨Gh.le_refl _, PickC.pick, ?_⟩)
      refine RH.pv rfl (fun _ _ _ _ h => h) (Gh.le_refl _) PickC.pick rfl (PV.asg (v := v50) rfl rfl) ?_
      refine RH.nil ?_
      refine WP.region ?_
      refine RG.pv rfl (PV.mvI (.inl rfl) rfl) ?_
      refine RG.pv rfl (PV.add rfl rfl rfl (by omega)) ?_
      refine RG.pv rfl (PV.mvI (.inr rfl) rfl) ?_
      refine RG.nil ?_
      have hnx : erQs (rs ++ [⟨(i : Int), ⟨(gd psv22 m).layer, ⟨v46, canon (bits ((gd psv22 m).reg.xs.map (moveR (gd zs i).place)))⟩⟩⟩]) = plTo (erCls l.cells.xs) (occR (erCls l.cells.xs) cell) i ++ (plAt (erCls l.cells.xs) (occR (erCls l.cells.xs) cell) i).take (m + 1) := by
        rw [List.take_add_one, getG (by omega), ← List.append_assoc, ← hr, plAt_gd (by rw [← plAt_len]; omega), ha.ho]
        simp only [erO]
        rw [← hpv22, erPs_gd h5, erQs, List.map_append]
        rfl
      exact ⟨rfl, m + 1, (rs ++ [⟨(i : Int), ⟨(gd psv22 m).layer, ⟨v46, canon (bits ((gd psv22 m).reg.xs.map (moveR (gd zs i).place)))⟩⟩⟩]), v50, ⟨by omega, hnx⟩, ⟨rfl, rfl, trivial⟩, ⟨rfl, rfl, rfl, rfl, trivial⟩, ((Cv.p (C := osl 116 rectT v46 (canon (bits ((gd psv22 m).reg.xs.map (moveR (gd zs i).place)))) :: bagS 116 rectT (regsQ rs) :: osl 108 ppieceT v50 (rs ++ [⟨(i : Int), ⟨(gd psv22 m).layer, ⟨v46, canon (bits ((gd psv22 m).reg.xs.map (moveR (gd zs i).place)))⟩⟩⟩]) :: osl 96 pieceT v22 psv22 :: bagS 116 rectT (regs psv22) :: blk b2 30 (libT.enc l) :: L)).trans ((Cv.grow (ys' := regsQ (rs ++ [⟨(i : Int), ⟨(gd psv22 m).layer, ⟨v46, canon (bits ((gd psv22 m).reg.xs.map (moveR (gd zs i).place)))⟩⟩⟩])) (regsQ_append _ _)).trans Cv.p)), by omega⟩
    · have h4 := of_decide_eq_false h4
      refine WP.exit ?_
      refine WP.region ?_
      refine RG.pv rfl (PV.mvI (.inl rfl) rfl) ?_
      refine RG.pv rfl (PV.add rfl rfl rfl (by omega)) ?_
      refine RG.pv rfl (PV.mvI (.inr rfl) rfl) ?_
      refine RG.nil ?_
      exact ⟨rfl, i + 1, rs, w, ⟨by omega, by rw [hr, plTo_succ, List.take_of_length_le (by omega)]⟩, ⟨rfl, rfl, trivial⟩, ⟨rfl, rfl, trivial⟩, Cv.p, by omega⟩
  · have h2 := of_decide_eq_false h2
    obtain rfl : i = zs.length := by omega
    rw [hzl] at hq
    refine WP.exit ?_
    refine WP.seq ?_
    refine WP.region ?_
    refine RG.pv rfl (PV.move (v := q) rfl rfl) ?_
    refine RG.pv rfl (PV.asg (v := q) rfl rfl) ?_
    refine RG.nil ?_
    refine WP.ret ?_
    exact ⟨_, _, ResV.one rfl rfl, Cv.p, k q qs hq⟩
end Go.Proofs.YtbkaincaahcnfaaGreat
namespace Go.Proofs.YtbkaincaahcnfaaGreat
set_option linter.unusedVariables false
set_option linter.unusedSimpArgs false
open Go
set_option maxRecDepth 20000
set_option linter.unusedSimpArgs false
variable {G : Gh} {L : List Ch} {R : Value → Gh → List Ch → Prop}
theorem Cv.bagJn {α : Type} {e : TypeId} {F : FT α} {X Y : List (Sl α)} {L : List Ch} : Cv (bagS e F X :: bagS e F Y :: L) (bagS e F (X ++ Y) :: L) := by
  have h1 : Cv (bagS e F X :: bagS e F Y :: L) (X.map (ownS e F) ++ (Y.map (ownS e F) ++ L)) := (Cv.cons Cv.ofBag).trans Cv.ofBag
  rw [← List.append_assoc, ← List.map_append] at h1
  exact h1.trans (Cv.toBag (B := (X ++ Y).map (ownS e F)))
end Go.Proofs.YtbkaincaahcnfaaGreat
namespace Go.Proofs.YtbkaincaahcnfaaGreat
set_option linter.unusedVariables false
set_option linter.unusedSimpArgs false
open Go
set_option maxRecDepth 20000
set_option maxHeartbeats 1000000
set_option linter.unusedSimpArgs false
variable {G : Gh} {L : List Ch} {R : Value → Gh → List Ch → Prop}
def pcsL (ps : List Plc) : List (Sl Piece) := ps.map Plc.pieces
def plsL (ps : List Plc) : List (Sl Rect) := ps.map Plc.poly
def rgsL (ps : List Plc) : List (Sl Rect) := ps.flatMap fun p => regs p.pieces.xs
theorem pcsL_app (ps : List Plc) (p : Plc) : pcsL (ps ++ [p]) = pcsL ps ++ [p.pieces] := by simp [pcsL]
theorem plsL_app (ps : List Plc) (p : Plc) : plsL (ps ++ [p]) = plsL ps ++ [p.poly] := by simp [plsL]
theorem rgsL_app (ps : List Plc) (p : Plc) : rgsL (ps ++ [p]) = rgsL ps ++ regs p.pieces.xs := by simp [rgsL]
theorem Cv.plcNew {e1 e2 e3 : TypeId} {ps : List Plc} {pv u q : Value} {qs : List Piece} {us : List Rect} : Cv (osl e1 pieceT pv qs :: bagS e1 pieceT (pcsL ps) :: osl e2 rectT u us :: bagS e2 rectT (plsL ps) :: bagS e2 rectT (rgsL ps) :: bagS e2 rectT (regs qs) :: osl e3 plcT q (ps ++ [⟨⟨pv, qs⟩, ⟨u, us⟩⟩]) :: L)
    (osl e3 plcT q (ps ++ [⟨⟨pv, qs⟩, ⟨u, us⟩⟩]) :: bagS e1 pieceT (pcsL (ps ++ [⟨⟨pv, qs⟩, ⟨u, us⟩⟩])) :: bagS e2 rectT (plsL (ps ++ [⟨⟨pv, qs⟩, ⟨u, us⟩⟩])) :: bagS e2 rectT (rgsL (ps ++ [⟨⟨pv, qs⟩, ⟨u, us⟩⟩])) :: L) := by
  rw [pcsL_app, plsL_app, rgsL_app]
  exact Cv.bagS_add.trans ((Cv.cons Cv.bagS_add).trans ((Cv.cons (Cv.cons Cv.bagJn)).trans Cv.p))
def erL (ps : List Plc) : List (List (Int × List Rect) × List Rect) := ps.map fun p => (erPs p.pieces.xs, p.poly.xs)
noncomputable def plPc (cs : List ECell) (os : List EOcc) (i : Nat) : List (Int × List Rect) := (ownP cs (gd os i).cell).map (mvP (gd os i).place)
def plPoly (cs : List ECell) (os : List EOcc) (i : Nat) : List Rect := canon (bits ((gd (layL (gd cs (gd os i).cell.toNat).shapes) 1).map (moveR (gd os i).place)))
noncomputable def plcTo (cs : List ECell) (os : List EOcc) (i : Nat) : List (List (Int × List Rect) × List Rect) := (List.range i).map fun j => (plPc cs os j, plPoly cs os j)
theorem plcTo_succ (cs : List ECell) (os : List EOcc) (i : Nat) : plcTo cs os (i + 1) = plcTo cs os i ++ [(plPc cs os i, plPoly cs os i)] := by simp [plcTo, List.range_succ]
theorem OccAt.vt {xs : List Cell} {cell : Int} {zs : List Occ} {i : Nat} (ha : OccAt xs cell zs i) : validT (gd zs i).place = true := by
  obtain ⟨-, -, h3, -⟩ := occR_cell ha.hi
  rw [ha.ho] at h3; exact h3
theorem OccAt.poly {xs : List Cell} {cell : Int} {zs : List Occ} {i : Nat} (ha : OccAt xs cell zs i) (h0 : shE (erCls xs) cell = 0) : mvI (gd zs i).place (gd (layL (gd xs (gd zs i).cell.toNat).shapes.xs) 1) = plPoly (erCls xs) (occR (erCls xs) cell) i := by
  rw [mvI_eq ha.vt (by rw [layL_gd (by omega)]; exact isReg_canon (bits_length _)) (lay_mv (by omega) ha.hp.1 (ha.ok h0)), plPoly, ha.ho]
  simp only [erO, ha.hs]
theorem OccAt.pc {xs : List Cell} {cell : Int} {zs : List Occ} {i : Nat} (ha : OccAt xs cell zs i) (h0 : shE (erCls xs) cell = 0) {p : Int × List Rect} (hp : p ∈ pcE (layL (gd xs (gd zs i).cell.toNat).shapes.xs)) : (p.1, mvI (gd zs i).place p.2) = mvP (gd zs i).place p := by
  rw [mvP, mvI_eq ha.vt (pc_reg hp) (pc_mv ha.hp.1 (ha.ok h0) hp)]
theorem layers_i8 {v : Value} {ss : List Shape} (h1 : Rs G L shapeT v ss) (k : ∀ v' ys, er ys = layL ss → ys.length = 8 → R v' G (osl 59 slT v' ys :: bagS 116 rectT ys :: L)) : CallT Tryz.prog 70 #[v] G L R :=
  layers_i h1 fun v' ys he => k v' ys he (by rw [← er_len, he, layL_len])
theorem plac_i {l : Lib} {cell : Int} (hL : RLib G L l.cells.v l.cells.xs) (hlen : lenC (erCls l.cells.xs)) (k0 : shE (erCls l.cells.xs) cell ≠ 0 → R (.tuple #[.slice none 0 0, .slice none 0 0, vi (shE (erCls l.cells.xs) cell)]) G L)
    (k : shE (erCls l.cells.xs) cell = 0 → ∀ v ps u ys, erL ps = plcTo (erCls l.cells.xs) (occR (erCls l.cells.xs) cell) (occR (erCls l.cells.xs) cell).length → er ys = flyL (erCls l.cells.xs) cell → R (.tuple #[v, u, vi 0]) G (osl 172 plcT v ps :: bagS 96 pieceT (pcsL ps) :: bagS 116 rectT (plsL ps) :: bagS 116 rectT (rgsL ps) :: osl 59 slT u ys :: bagS 116 rectT ys :: L)) : CallT Tryz.prog 75 #[vT libT l, vi cell] G L R := by
  have hE := erCls_len l.cells.xs
  refine CallT.enter (args := _) Tryz.func75 rfl rfl (by kernel_rfl) rfl ?_
  refine WP.seq ?_
  refine WP.region ?_
  refine RG.ot rfl (OT.box (cs := libT.enc l) rfl rfl rfl fun b2 => ?_)
  refine RG.pv rfl (PV.asg rfl rfl) ?_
  refine RG.pv rfl (PV.asg rfl rfl) ?_
  refine RG.pv rfl (PV.mvI (.inr rfl) rfl) ?_
  refine RG.nil ?_
  refine WP.seq ?_
  refine WP.region ?_
  refine RG.pv rfl (PV.loadW rfl Ag30 rfl rfl) ?_
  refine RG.pv rfl (PV.mvI (.inl rfl) rfl) ?_
  refine RG.callF (vs := [_, _]) rfl rfl En122 rfl (fly_i hL.up hlen (fun w23 ys0 hy0 => ?_))
  refine RG.pv rfl (PV.move (v := .tuple _) rfl rfl) ?_
  refine RG.pv rfl (PV.ext (v := w23) rfl rfl rfl) ?_
  refine RG.pv rfl (PV.ext rfl rfl rfl) ?_
  refine RG.pv rfl (PV.asg (v := w23) rfl rfl) ?_
  refine RG.pv rfl (PV.mvI (.inr rfl) rfl) ?_
  refine RG.nil ?_
  refine WP.seq ?_
  refine WP.seq ?_
  refine WP.region ?_
  refine RG.pv rfl (PV.mvI (.inl rfl) rfl) ?_
  refine RG.pv rfl (PV.neq rfl rfl rfl) ?_
  refine RG.nil ?_
  refine WP.cond rfl (fun h1 => ?_) (fun h1 => ?_)
  · have h1 : shE (erCls l.cells.xs) cell ≠ 0 := by simpa using h1
    refine WP.seq ?_
    refine WP.region ?_
    refine RG.pv rfl (PV.mvI (.inl rfl) rfl) ?_
    refine RG.pv rfl (PV.asg rfl rfl) ?_
    refine RG.pv rfl (PV.asg rfl rfl) ?_
    refine RG.pv rfl (PV.mvI (.inr rfl) rfl) ?_
    refine RG.nil ?_
    refine WP.ret ?_
    exact ⟨_, _, ResV.three rfl rfl rfl rfl, Cv.p, k0 h1⟩
  · have h1 : shE (erCls l.cells.xs) cell = 0 := by simpa using h1
    refine WP.skip ?_
    refine WP.seq ?_
    refine WP.region ?_
    refine RG.pv rfl (PV.loadW rfl Ag30 rfl rfl) ?_
    refine RG.pv rfl (PV.mvI (.inl rfl) rfl) ?_
    refine RG.callF (vs := [_, _]) rfl rfl En92 rfl (occ_i hL.up hlen (fun w32 zs he => ?_))
    refine RG.pv rfl (PV.move (v := .tuple _) rfl rfl) ?_
    refine RG.pv rfl (PV.ext (v := w32) rfl rfl rfl) ?_
    refine RG.pv rfl (PV.ext rfl rfl rfl) ?_
    refine RG.pv rfl (PV.asg (v := w32) rfl rfl) ?_
    refine RG.pv rfl (PV.mvI (.inr rfl) rfl) ?_
    refine RG.nil ?_
    refine WP.seq ?_
    refine WP.region ?_
    refine RG.ot rfl (OT.bslice (F := plcT) (els := []) rfl El102 rfl (by decide) rfl (by decide) trivial fun v35 => ?_)
    refine RG.pv rfl (PV.asg (v := v35) rfl rfl) ?_
    refine RG.nil ?_
    refine WP.seq ?_
    refine WP.seq ?_
    refine WP.region ?_
    refine RG.pv rfl (PV.move (v := w32) rfl rfl) ?_
    refine RG.pv rfl (PV.len (v := w32) rfl Tryz.underlying98 rfl SlF.o) ?_
    refine RG.pv rfl (PV.mvI (.inl rfl) rfl) ?_
    refine RG.nil ?_
    refine WP.block ?_
    have hzl : zs.length = (occR (erCls l.cells.xs) cell).length := by rw [← he, erOs_len]
    refine WP.bdo w32 fun hbz => ?_
    refine WP.cv ((Cv.p (C := osl 172 plcT v35 ([] : List Plc) :: osl 59 slT w23 ys0 :: bagS 116 rectT ys0 :: osl 126 occT w32 zs :: bagS 2 intT (pths zs) :: blk b2 30 (libT.enc l) :: L)).trans (Cv.cons ((Cv.bag0 (e := 116) (F := rectT) (xs := rgsL []) rfl).trans ((Cv.bag0 (e := 116) (F := rectT) (xs := plsL []) rfl).trans (Cv.bag0 (e := 96) (F := pieceT) (xs := pcsL []) rfl))))) ?_
    refine WP.loop3 [2, 7, 36, 37] (fun (i : Nat) (ps : List Plc) (q : Value) => i ≤ zs.length ∧ erL ps = plcTo (erCls l.cells.xs) (occR (erCls l.cells.xs) cell) i) (fun (i : Nat) (ps : List Plc) (q : Value) => [(38, vi i), (11, q)]) (fun (i : Nat) (ps : List Plc) (q : Value) => osl 172 plcT q ps :: bagS 96 pieceT (pcsL ps) :: bagS 116 rectT (plsL ps) :: bagS 116 rectT (rgsL ps) :: osl 59 slT w23 ys0 :: bagS 116 rectT ys0 :: osl 126 occT w32 zs :: bagS 2 intT (pths zs) :: blk b2 30 (libT.enc l) :: L) (fun (i : Nat) (ps : List Plc) (q : Value) => zs.length - i) 0 [] v35 ⟨by omega, rfl⟩ ⟨rfl, rfl, trivial⟩ Cv.p ?_
    rintro i ps q τ ⟨hi, hq⟩
    refine WP.seq ?_
    refine WP.region ?_
    refine RG.pv rfl (PV.lss rfl rfl rfl) ?_
    refine RG.nil ?_
    refine WP.seq ?_
    have hpsl : ps.length = i := by have := congrArg List.length hq; simpa [erL, plcTo] using this
    refine WP.cond rfl (fun h2 => ?_) (fun h2 => ?_)
    · have h2 := of_decide_eq_true h2
      have h3 : i < zs.length := by omega
      have ha := OccAt.of (cell := cell) he h3
      have hrd : Rs G (bagS 2 intT (pths zs) :: []) intT (gd zs i).path.v (gd zs i).path.xs := RsE.path RsE.o h3
      have hac := ha.hc
      have hal := ha.hl
      have hsl := hL.sa ha.hc.2
      refine WP.skip ?_
      refine WP.seq ?_
      refine WP.block ?_
      refine WP.seq ?_
      refine WP.region ?_
      refine RG.pv rfl (PV.idxS (v := w32) rfl Is98 rfl SlF.o rfl rfl (by omega)) ?_
      refine RG.pv rfl (PV.loadE rfl Ag126 rfl rfl (El.o (getG (by omega)))) ?_
      refine RG.ot rfl (OT.alloc rfl Zr126 fun b13 => ?_)
      refine RG.ot rfl (OT.storeW (vs := [vi _, vi _, vi _, vi _, _]) rfl Sz126 rfl rfl (Cl.c rfl) rfl rfl (OneC.val rfl (OneC.val rfl (OneC.val rfl (OneC.val rfl (OneC.sl (SlF.r hrd) OneC.nil))))) ?_)
      refine RG.nil ?_
      refine WP.seq ?_
      refine WP.region ?_
      refine RG.pv rfl (PV.field rfl Fo30_0 rfl) ?_
      refine RG.pv rfl (PV.load1 rfl Sc28 rfl (Rd.blk rfl)) ?_
      refine RG.pv rfl (PV.field rfl Fo126_0 rfl) ?_
      refine RG.pv rfl (PV.load1 rfl Sc2 rfl (Rd.blk rfl)) ?_
      refine RG.pv rfl (PV.idxS (j := (gd zs i).cell.toNat) rfl Is28 rfl (SlF.r hL.c) rfl (by omega) (by omega)) ?_
      refine RG.pv rfl (PV.field rfl Fo85_1 rfl) ?_
      refine RG.pv rfl (PV.loadF rfl Sc76 rfl rfl (El.r hL.c (getG (by omega))) rfl) ?_
      refine RG.callF (vs := [_]) rfl rfl En70 rfl (layers_i8 (v := (gd l.cells.xs (gd zs i).cell.toNat).shapes.v) (Rs.up hsl) (fun v49 ysv49 hev49 hlv49 => ?_))
      refine RG.pv rfl (PV.asg (v := v49) rfl rfl) ?_
      refine RG.nil ?_
      refine WP.seq ?_
      refine WP.region ?_
      refine RG.pv rfl (PV.build (vs := []) (out := [_, _]) rfl Zr172 Pl172 trivial rfl) ?_
      refine RG.ot rfl (OT.alloc rfl Zr172 fun b15 => ?_)
      refine RG.ot rfl (OT.storeW (vs := [_, _]) rfl Sz172 rfl rfl (Cl.c rfl) rfl rfl (OneC.val rfl (OneC.val rfl OneC.nil)) ?_)
      refine RG.nil ?_
      refine WP.seq ?_
      refine WP.regionHD [.b b15] (.q 0 (.q 1 (.q 2 (.q 3 (.q 4 (.l 5 (.q 6 (.q 7 (.q 8 (.q 9 (.l 10 Sch.nil))))))))))) (by kernel_rfl) (by kernel_rfl) (by kernel_rfl) rfl ?_
      refine RH.pv rfl (fun _ _ _ _ h => h) (Gh.le_refl _) PickC.pick rfl (PV.field rfl Fo126_1 rfl) ?_
      refine RH.pv rfl (fun _ _ _ _ h => h) (Gh.le_refl _) PickC.pick rfl (PV.loadB (vs := [_, _, _]) rfl Ag124 rfl rfl rfl) ?_
      refine RH.pv rfl (fun _ _ _ _ h => h) (Gh.le_refl _) PickC.pick rfl (PV.move (v := v49) rfl rfl) ?_
      refine RH.pv rfl (fun _ _ _ _ h => h) (Gh.le_refl _) PickC.pick rfl (PV.idxS (j := 1) (v := v49) rfl Is41 rfl SlF.o rfl (by omega) (by omega)) ?_
      refine RH.pv rfl (fun _ _ _ _ h => h) (Gh.le_refl _) PickC.pick rfl (PV.loadE1 rfl Sc59 rfl rfl (El.o (getG (by omega))) rfl) ?_
      refine RH.ot rfl rfl (OT.callF (vs := [_, _]) rfl En123 rfl (mvReg_i (Rs.inBag (xs := ysv49) 1 (by omega)) (fun w57 => ⟨Gh.le_refl _, PickC.pick, ?_⟩)))
      refine RH.pv rfl (fun _ _ _ _ h => h) (Gh.le_refl _) PickC.pick rfl (PV.move (v := .tuple _) rfl rfl) ?_
      refine RH.pv rfl (fun _ _ _ _ h => h) (Gh.le_refl _) PickC.pick rfl (PV.ext (v := w57) rfl rfl rfl) ?_
      refine RH.pv rfl (fun _ _ _ _ h => h) (Gh.le_refl _) PickC.pick rfl (PV.ext rfl rfl rfl) ?_
      refine RH.pv rfl (fun _ _ _ _ h => h) (Gh.le_refl _) PickC.pick rfl (PV.field rfl Fo172_1 rfl) ?_
      refine RH.ot rfl rfl (OT.storeB (v := w57) (vs := [_]) (cs' := [_, _]) rfl Sz59 rfl rfl (Cl.s (v := w57) SlF.o) rfl (OneC.sl SlF.o OneC.nil) rfl rfl ⟨Gh.le_refl _, PickC.pick, ?_⟩)
      refine RH.nil ?_
      refine WP.seq ?_
      refine WP.seq ?_
      refine WP.region ?_
      refine RG.pv rfl (PV.move (v := v49) rfl rfl) ?_
      refine RG.callF (vs := [v49]) rfl rfl En69 rfl (pieces_s (v := v49) (xs := ysv49) Rs.o RsE.o (by rw [hev49]; exact isLay_layL _) (fun v62 psv62 hpv62 => ?_))
      refine RG.pv rfl (PV.len (v := v62) rfl Tryz.underlying49 rfl SlF.o) ?_
      refine RG.pv rfl (PV.mvI (.inl rfl) rfl) ?_
      refine RG.nil ?_
      refine WP.block ?_
      have hpe : erPs psv62 = pcE (layL (gd l.cells.xs (gd zs i).cell.toNat).shapes.xs) := by rw [hpv62, hev49, pcE, isLay_layL]; rfl
      have hpb : psv62.length ≤ 25600 := by rw [← erPs_len, hpe]; exact pcE_len _
      have hpo : ownP (erCls l.cells.xs) (gd (occR (erCls l.cells.xs) cell) i).cell = erPs psv62 := by rw [hpe, ha.ho]; exact ha.own
      refine WP.cv ((Cv.p (C := osl 116 rectT w57 (mvI (gd zs i).place (gd ysv49 1).xs) :: osl 96 pieceT v62 psv62 :: bagS 116 rectT (regs psv62) :: blk b15 172 [.slice none 0 0, w57] :: blk b13 126 (occT.enc (gd zs i)) :: osl 172 plcT q ps :: bagS 96 pieceT (pcsL ps) :: bagS 116 rectT (plsL ps) :: bagS 116 rectT (rgsL ps) :: osl 59 slT w23 ys0 :: bagS 116 rectT ys0 :: osl 126 occT w32 zs :: bagS 2 intT (pths zs) :: blk b2 30 (libT.enc l) :: L)).trans ((Cv.bag0 (e := 116) (F := rectT) (xs := regs []) rfl).trans (Cv.nilS (e := 96) (F := pieceT)))) ?_
      refine WP.loop3 [2, 7, 11, 13, 15, 36, 37, 38, 62, 63] (fun (m : Nat) (qs : List Piece) (pv : Value) => m ≤ psv62.length ∧ erPs qs = ((erPs psv62).map (mvP (gd zs i).place)).take m) (fun (m : Nat) (qs : List Piece) (pv : Value) => [(64, vi m)]) (fun (m : Nat) (qs : List Piece) (pv : Value) => osl 96 pieceT pv qs :: bagS 116 rectT (regs qs) :: osl 116 rectT w57 (mvI (gd zs i).place (gd ysv49 1).xs) :: osl 96 pieceT v62 psv62 :: bagS 116 rectT (regs psv62) :: blk b15 172 [pv, w57] :: blk b13 126 (occT.enc (gd zs i)) :: osl 172 plcT q ps :: bagS 96 pieceT (pcsL ps) :: bagS 116 rectT (plsL ps) :: bagS 116 rectT (rgsL ps) :: osl 59 slT w23 ys0 :: bagS 116 rectT ys0 :: osl 126 occT w32 zs :: bagS 2 intT (pths zs) :: blk b2 30 (libT.enc l) :: L) (fun (m : Nat) (qs : List Piece) (pv : Value) => psv62.length - m) 0 [] (.slice none 0 0) ⟨by omega, rfl⟩ ⟨rfl, trivial⟩ Cv.p ?_
      rintro m qs pv τ1 ⟨hm, hr⟩
      refine WP.seq ?_
      refine WP.region ?_
      refine RG.pv rfl (PV.lss rfl rfl rfl) ?_
      refine RG.nil ?_
      refine WP.seq ?_
      have hql : qs.length ≤ 25600 := by rw [← erPs_len, hr, List.length_take]; omega
      refine WP.cond rfl (fun h4 => ?_) (fun h4 => ?_)
      · have h4 := of_decide_eq_true h4
        have h5 : m < psv62.length := by omega
        have hpm := gd_memP hpe h5
        have hrp : Rs G (bagS 116 rectT (regs psv62) :: []) rectT (gd psv62 m).reg.v (gd psv62 m).reg.xs := RsE.reg RsE.o h5
        have hnx : ∀ w, erPs (qs ++ [⟨(gd psv62 m).layer, ⟨w, mvI (gd zs i).place (gd psv62 m).reg.xs⟩⟩]) = ((erPs psv62).map (mvP (gd zs i).place)).take (m + 1) := fun w => by
          rw [List.take_add_one, getG (by rw [List.length_map, erPs_len]; exact h5), ← hr, gd_map _ (by rw [erPs_len]; exact h5), erPs_gd h5, ← ha.pc h1 hpm, erPs, List.map_append]
          rfl
        refine WP.skip ?_
        refine WP.seq ?_
        refine WP.block ?_
        refine WP.seq ?_
        refine WP.region ?_
        refine RG.pv rfl (PV.idxS (v := v62) rfl Is49 rfl SlF.o rfl rfl (by omega)) ?_
        refine RG.pv rfl (PV.loadE rfl Ag96 rfl rfl (El.o (getG (by omega)))) ?_
        refine RG.ot rfl (OT.alloc rfl Zr96 fun b17 => ?_)
        refine RG.ot rfl (OT.storeW (vs := [vi _, _]) rfl Sz96 rfl rfl (Cl.c rfl) rfl rfl (OneC.val rfl (OneC.sl (SlF.r hrp) OneC.nil)) ?_)
        refine RG.nil ?_
        refine WP.seq ?_
        refine WP.region ?_
        refine RG.pv rfl (PV.field rfl Fo126_1 rfl) ?_
        refine RG.pv rfl (PV.loadB (vs := [_, _, _]) rfl Ag124 rfl rfl rfl) ?_
        refine RG.pv rfl (PV.field rfl Fo96_1 rfl) ?_
        refine RG.pv rfl (PV.load1 rfl Sc59 rfl (Rd.blk rfl)) ?_
        refine RG.callF (vs := [_, _]) rfl rfl En123 rfl (mvReg_i (RsE.reg (RsE.o (xs := regs psv62)) h5) (fun w73 => ?_))
        refine RG.pv rfl (PV.move (v := .tuple _) rfl rfl) ?_
        refine RG.pv rfl (PV.ext (v := w73) rfl rfl rfl) ?_
        refine RG.pv rfl (PV.ext rfl rfl rfl) ?_
        refine RG.pv rfl (PV.asg (v := w73) rfl rfl) ?_
        refine RG.pv rfl (PV.mvB (.inr rfl) rfl) ?_
        refine RG.nil ?_
        refine WP.region ?_
        refine RG.pv rfl (PV.field rfl Fo172_0 rfl) ?_
        refine RG.pv rfl (PV.load1 rfl Sc49 rfl (Rd.blk rfl)) ?_
        refine RG.pv rfl (PV.field rfl Fo96_0 rfl) ?_
        refine RG.pv rfl (PV.load1 rfl Sc2 rfl (Rd.blk rfl)) ?_
        refine RG.pv rfl (PV.move (v := w73) rfl rfl) ?_
        refine RG.pv rfl (PV.build (vs := [(0, [vi _]), (1, [w73])]) (out := [_, _]) rfl Zr96 Pl96 ⟨rfl, (Cl.c rfl), ⟨rfl, (Cl.s (v := w73) SlF.o), trivial⟩⟩ rfl) ?_
        refine RG.ot rfl (OT.bslice (F := pieceT) (els := [⟨(gd psv62 m).layer, ⟨w73, mvI (gd zs i).place (gd psv62 m).reg.xs⟩⟩]) rfl El49 rfl (by decide) rfl (by decide) ⟨rfl, (Cl.c rfl), trivial⟩ fun v82 => ?_)
        refine RG.ot rfl (OT.append (v := pv) (u := v82) (F := pieceT) rfl El49 rfl (by decide) rfl rfl Rs.o (OneL.one (OneC.val rfl (OneC.sl (SlF.o (v := w73)) OneC.nil))) rfl (by first | omega | (simp <;> omega)) fun v83 => ?_)
        refine RG.pv rfl (PV.field rfl Fo172_0 rfl) ?_
        refine RG.ot rfl (OT.storeB (v := v83) (vs := [_]) (cs' := [_, _]) rfl Sz49 rfl rfl (Cl.s (v := v83) SlF.o) rfl (OneC.sl SlF.o OneC.nil) rfl rfl ?_)
        refine RG.nil ?_
        refine WP.region ?_
        refine RG.pv rfl (PV.add rfl rfl rfl (by omega)) ?_
        refine RG.pv rfl (PV.mvI (.inl rfl) rfl) ?_
        refine RG.nil ?_
        exact ⟨rfl, m + 1, (qs ++ [⟨(gd psv62 m).layer, ⟨w73, mvI (gd zs i).place (gd psv62 m).reg.xs⟩⟩]), v83, ⟨by omega, hnx _⟩, ⟨rfl, trivial⟩, ⟨rfl, rfl, rfl, rfl, rfl, rfl, rfl, rfl, rfl, rfl, trivial⟩, ((Cv.p (C := osl 116 rectT w73 (mvI (gd zs i).place (gd psv62 m).reg.xs) :: bagS 116 rectT (regs qs) :: osl 96 pieceT v83 (qs ++ [⟨(gd psv62 m).layer, ⟨w73, mvI (gd zs i).place (gd psv62 m).reg.xs⟩⟩]) :: osl 116 rectT w57 (mvI (gd zs i).place (gd ysv49 1).xs) :: osl 96 pieceT v62 psv62 :: bagS 116 rectT (regs psv62) :: blk b15 172 [v83, w57] :: blk b13 126 (occT.enc (gd zs i)) :: osl 172 plcT q ps :: bagS 96 pieceT (pcsL ps) :: bagS 116 rectT (plsL ps) :: bagS 116 rectT (rgsL ps) :: osl 59 slT w23 ys0 :: bagS 116 rectT ys0 :: osl 126 occT w32 zs :: bagS 2 intT (pths zs) :: blk b2 30 (libT.enc l) :: L)).trans ((Cv.grow (ys' := regs (qs ++ [⟨(gd psv62 m).layer, ⟨w73, mvI (gd zs i).place (gd psv62 m).reg.xs⟩⟩])) (regs_append _ _)).trans Cv.p)), by omega⟩
      · have h4 := of_decide_eq_false h4
        obtain rfl : m = psv62.length := by omega
        have hy1 : (gd ysv49 1).xs = gd (layL (gd l.cells.xs (gd zs i).cell.toNat).shapes.xs) 1 := by rw [← er_gd, hev49]
        have hnp : ∀ w u, erL (ps ++ [⟨⟨w, qs⟩, ⟨u, mvI (gd zs i).place (gd ysv49 1).xs⟩⟩]) = plcTo (erCls l.cells.xs) (occR (erCls l.cells.xs) cell) (i + 1) := fun w u => by
          rw [plcTo_succ, ← hq, ← ha.poly h1, hy1, plPc, hpo, ha.ho, erL, List.map_append]
          simp only [List.map_cons, List.map_nil, erO]
          rw [hr, List.take_of_length_le (by rw [List.length_map, erPs_len]; omega)]
          rfl
        refine WP.exit ?_
        refine WP.region ?_
        refine RG.pv rfl (PV.move (v := q) rfl rfl) ?_
        refine RG.pv rfl (PV.loadW rfl Ag172 rfl rfl) ?_
        refine RG.ot rfl (OT.bslice (F := plcT) (els := [⟨⟨pv, qs⟩, ⟨w57, mvI (gd zs i).place (gd ysv49 1).xs⟩⟩]) rfl El102 rfl (by decide) rfl (by decide) ⟨rfl, (Cl.c rfl), trivial⟩ fun v88 => ?_)
        refine RG.ot rfl (OT.append (v := q) (u := v88) (F := plcT) rfl El102 rfl (by decide) rfl rfl Rs.o (OneL.one (OneC.sl (SlF.o (v := pv)) (OneC.sl (SlF.o (v := w57)) OneC.nil))) rfl (by first | omega | (simp <;> omega)) fun v89 => ?_)
        refine RG.pv rfl (PV.asg (v := v89) rfl rfl) ?_
        refine RG.nil ?_
        refine WP.region ?_
        refine RG.pv rfl (PV.add rfl rfl rfl (by omega)) ?_
        refine RG.pv rfl (PV.mvI (.inl rfl) rfl) ?_
        refine RG.nil ?_
        exact ⟨rfl, i + 1, (ps ++ [⟨⟨pv, qs⟩, ⟨w57, mvI (gd zs i).place (gd ysv49 1).xs⟩⟩]), v89, ⟨by omega, hnp _ _⟩, ⟨rfl, rfl, trivial⟩, ⟨rfl, rfl, rfl, rfl, trivial⟩, ((Cv.p (C := osl 96 pieceT pv qs :: bagS 96 pieceT (pcsL ps) :: osl 116 rectT w57 (mvI (gd zs i).place (gd ysv49 1).xs) :: bagS 116 rectT (plsL ps) :: bagS 116 rectT (rgsL ps) :: bagS 116 rectT (regs qs) :: osl 172 plcT v89 (ps ++ [⟨⟨pv, qs⟩, ⟨w57, mvI (gd zs i).place (gd ysv49 1).xs⟩⟩]) :: osl 59 slT w23 ys0 :: bagS 116 rectT ys0 :: osl 126 occT w32 zs :: bagS 2 intT (pths zs) :: blk b2 30 (libT.enc l) :: L)).trans Cv.plcNew), by omega⟩
    · have h2 := of_decide_eq_false h2
      obtain rfl : i = zs.length := by omega
      rw [hzl] at hq
      refine WP.exit ?_
      refine WP.seq ?_
      refine WP.region ?_
      refine RG.pv rfl (PV.move (v := q) rfl rfl) ?_
      refine RG.pv rfl (PV.move (v := w23) rfl rfl) ?_
      refine RG.pv rfl (PV.asg (v := q) rfl rfl) ?_
      refine RG.pv rfl (PV.asg (v := w23) rfl rfl) ?_
      refine RG.pv rfl (PV.mvI (.inr rfl) rfl) ?_
      refine RG.nil ?_
      refine WP.ret ?_
      exact ⟨_, _, ResV.three rfl rfl rfl rfl, Cv.p, k h1 q ps w23 ys0 hq hy0⟩
end Go.Proofs.YtbkaincaahcnfaaGreat
namespace Go.Proofs.YtbkaincaahcnfaaGreat
set_option linter.unusedVariables false
set_option linter.unusedSimpArgs false
open Go
set_option maxRecDepth 20000
set_option maxHeartbeats 1000000
set_option linter.unusedSimpArgs false
variable {G : Gh} {L : List Ch} {R : Value → Gh → List Ch → Prop}
theorem RsE.mem {α : Type} [Inhabited α] {F : FT α} {xs : List (Sl α)} (h : RsE G L F xs) {s : Sl α} (hs : s ∈ xs) : Rs G L F s.v s.xs := by
  obtain ⟨i, hi, rfl⟩ := List.getElem_of_mem hs
  have := h i hi
  rwa [gd_eq hi] at this
noncomputable def ppAll (cs : List ECell) (cell : Int) : List (Int × (Int × List Rect)) := plTo cs (occR cs cell) (occR cs cell).length
theorem occR_200 (cs : List ECell) (cell : Int) : (occR cs cell).length ≤ 200 := by
  by_cases h : 0 < (occR cs cell).length
  · exact (occR_cell (i := 0) h).2.2.2
  · omega
end Go.Proofs.YtbkaincaahcnfaaGreat
namespace Go.Proofs.YtbkaincaahcnfaaGreat
set_option linter.unusedVariables false
set_option linter.unusedSimpArgs false
open Go
set_option maxRecDepth 20000
set_option maxHeartbeats 1000000
set_option linter.unusedSimpArgs false
variable {G : Gh} {L : List Ch} {R : Value → Gh → List Ch → Prop}
theorem RsE.regQ {xs : List PPiece} (h : RsE G L rectT (regsQ xs)) {i : Nat} (hi : i < xs.length) : Rs G L rectT (gd xs i).piece.reg.v (gd xs i).piece.reg.xs := by
  have := h i (by rw [regsQ_len]; exact hi); rwa [regsQ_gd hi] at this
theorem erQs_gd {xs : List PPiece} {i : Nat} (h : i < xs.length) : gd (erQs xs) i = erQ (gd xs i) := gd_map _ h
end Go.Proofs.YtbkaincaahcnfaaGreat
namespace Go.Proofs.YtbkaincaahcnfaaGreat
set_option linter.unusedVariables false
set_option linter.unusedSimpArgs false
open Go
set_option maxRecDepth 20000
set_option linter.unusedSimpArgs false
def cellIn (r : Rect) (X Y : Int) : Prop := r.x0 ≤ X ∧ X < r.x1 ∧ r.y0 ≤ Y ∧ Y < r.y1
theorem inR_cell {r : Rect} {y x : Nat} : inR r y x = true ↔ cellIn r ((x : Int) - 40) ((y : Int) - 40) := by
  rw [inR_iff, cellIn]; omega
theorem mv_pre {t : Trans} (ho : 0 ≤ t.o ∧ t.o ≤ 7) (X Y : Int) : ∃ X' Y' : Int, ∀ r : Rect, r.x0 < r.x1 → r.y0 < r.y1 → (cellIn (moveR t r) X Y ↔ cellIn r X' Y') := by
  obtain ⟨o, tx, ty⟩ := t
  have ho : o = 0 ∨ o = 1 ∨ o = 2 ∨ o = 3 ∨ o = 4 ∨ o = 5 ∨ o = 6 ∨ o = 7 := by simp only at ho; omega
  rcases ho with rfl | rfl | rfl | rfl | rfl | rfl | rfl | rfl <;>
    first
    | exact ⟨X - tx, Y - ty, fun r h1 h2 => by simp [cellIn, moveR, moveP, turnP, flip, rot]; omega⟩
    | exact ⟨tx - 1 - X, Y - ty, fun r h1 h2 => by simp [cellIn, moveR, moveP, turnP, flip, rot]; omega⟩
    | exact ⟨X - tx, ty - 1 - Y, fun r h1 h2 => by simp [cellIn, moveR, moveP, turnP, flip, rot]; omega⟩
    | exact ⟨tx - 1 - X, ty - 1 - Y, fun r h1 h2 => by simp [cellIn, moveR, moveP, turnP, flip, rot]; omega⟩
    | exact ⟨Y - ty, X - tx, fun r h1 h2 => by simp [cellIn, moveR, moveP, turnP, flip, rot]; omega⟩
    | exact ⟨ty - 1 - Y, X - tx, fun r h1 h2 => by simp [cellIn, moveR, moveP, turnP, flip, rot]; omega⟩
    | exact ⟨Y - ty, tx - 1 - X, fun r h1 h2 => by simp [cellIn, moveR, moveP, turnP, flip, rot]; omega⟩
    | exact ⟨ty - 1 - Y, tx - 1 - X, fun r h1 h2 => by simp [cellIn, moveR, moveP, turnP, flip, rot]; omega⟩
/-- the cell of the chip that a moved cell comes from, if any -/
theorem mv_gb {t : Trans} (ho : 0 ≤ t.o ∧ t.o ≤ 7) {y x : Nat} (hy : y < 80) (hx : x < 80) : (∃ y' x' : Nat, y' < 80 ∧ x' < 80 ∧ ∀ xs : List Rect, (∀ r ∈ xs, validRect r = true) → gb (bits (xs.map (moveR t))) y x = gb (bits xs) y' x') ∨ ∀ xs : List Rect, (∀ r ∈ xs, validRect r = true) → gb (bits (xs.map (moveR t))) y x = false := by
  obtain ⟨X', Y', h⟩ := mv_pre ho ((x : Int) - 40) ((y : Int) - 40)
  by_cases hr : (-40 ≤ X' ∧ X' < 40) ∧ (-40 ≤ Y' ∧ Y' < 40)
  · refine .inl ⟨(Y' + 40).toNat, (X' + 40).toNat, by omega, by omega, fun xs hv => ?_⟩
    rw [Bool.eq_iff_iff, gb_bits_iff hy hx, gb_bits_iff (by omega) (by omega)]
    constructor
    · rintro ⟨r, hr1, hr2⟩
      obtain ⟨q, hq, rfl⟩ := List.mem_map.1 hr1
      have hv1 := validR_iff.1 (hv q hq)
      refine ⟨q, hq, ?_⟩
      rw [inR_cell] at hr2 ⊢
      have := (h q (by omega) (by omega)).1 hr2
      rw [show (((X' + 40).toNat : Nat) : Int) - 40 = X' by omega, show (((Y' + 40).toNat : Nat) : Int) - 40 = Y' by omega]
      exact this
    · rintro ⟨q, hq, hq2⟩
      have hv1 := validR_iff.1 (hv q hq)
      refine ⟨moveR t q, List.mem_map.2 ⟨q, hq, rfl⟩, ?_⟩
      rw [inR_cell] at hq2 ⊢
      rw [show (((X' + 40).toNat : Nat) : Int) - 40 = X' by omega, show (((Y' + 40).toNat : Nat) : Int) - 40 = Y' by omega] at hq2
      exact (h q (by omega) (by omega)).2 hq2
  · refine .inr fun xs hv => ?_
    cases hg : gb (bits (xs.map (moveR t))) y x with
    | false => rfl
    | true =>
      exfalso
      rw [gb_bits_iff hy hx] at hg
      obtain ⟨r, hr1, hr2⟩ := hg
      obtain ⟨q, hq, rfl⟩ := List.mem_map.1 hr1
      have hv1 := validR_iff.1 (hv q hq)
      rw [inR_cell] at hr2
      have := (h q (by omega) (by omega)).1 hr2
      simp only [cellIn] at this
      omega
/-- lists with the same cells have, moved, the same cells -/
theorem mv_congr {t : Trans} (ho : 0 ≤ t.o ∧ t.o ≤ 7) {xs ys : List Rect} (hx : ∀ r ∈ xs, validRect r = true) (hy : ∀ r ∈ ys, validRect r = true) (h : bits xs = bits ys) : bits (xs.map (moveR t)) = bits (ys.map (moveR t)) := by
  refine bits_eq (bits_length _) fun y x h1 h2 => ?_
  rw [← gb_bits' _ h1 h2]
  rcases mv_gb ho h1 h2 with ⟨y', x', -, -, e⟩ | e
  · rw [e xs hx, e ys hy, h]
  · rw [e xs hx, e ys hy]
/-- lists without a common cell have, moved, none -/
theorem mv_disj {t : Trans} (ho : 0 ≤ t.o ∧ t.o ≤ 7) {xs ys : List Rect} (hx : ∀ r ∈ xs, validRect r = true) (hy : ∀ r ∈ ys, validRect r = true) (h : ∀ y x, y < 80 → x < 80 → gb (bits xs) y x = true → gb (bits ys) y x = false) {y x : Nat} (h1 : y < 80) (h2 : x < 80) (hg : gb (bits (xs.map (moveR t))) y x = true) : gb (bits (ys.map (moveR t))) y x = false := by
  rcases mv_gb ho h1 h2 with ⟨y', x', hy', hx', e⟩ | e
  · rw [e xs hx] at hg
    rw [e ys hy, h y' x' hy' hx' hg]
  · exact e ys hy
end Go.Proofs.YtbkaincaahcnfaaGreat
namespace Go.Proofs.YtbkaincaahcnfaaGreat
set_option linter.unusedVariables false
set_option linter.unusedSimpArgs false
open Go
set_option maxRecDepth 20000
set_option linter.unusedSimpArgs false
variable {G : Gh} {L : List Ch} {R : Value → Gh → List Ch → Prop}
theorem l19Or_s {v u : Value} {xs ys : List Bool} (h1 : Rs G L boolT v xs) (h2 : Rs G L boolT u ys) (hl : xs.length = 6400) (hl' : ys.length = 6400) (k : ∀ v', R v' G (osl 4 boolT v' (zipB (fun p q => p || q) xs ys) :: L)) : CallT Tryz.prog 126 #[v, u] G L R := by
  have hzl := zipB_len (f := fun p q => p || q) hl hl'
  refine CallT.enter (args := _) Tryz.func126 rfl rfl (by kernel_rfl) rfl ?_
  refine WP.seq ?_
  refine WP.region ?_
  refine RG.pv rfl (PV.asg rfl rfl) ?_
  refine RG.nil ?_
  refine WP.seq ?_
  refine WP.region ?_
  refine RG.pv rfl (PV.move (v := v) rfl rfl) ?_
  refine RG.pv rfl (PV.len (v := v) rfl Tryz.underlying110 rfl (SlF.r h1)) ?_
  refine RG.ot rfl (OT.make (F := boolT) (a0 := false) rfl El110 rfl (by decide) rfl rfl (by omega) (by omega) fun v9 => ?_)
  refine RG.pv rfl (PV.asg (v := v9) rfl rfl) ?_
  refine RG.nil ?_
  refine WP.seq ?_
  refine WP.seq ?_
  refine WP.region ?_
  refine RG.pv rfl (PV.mvI (.inr rfl) rfl) ?_
  refine RG.nil ?_
  refine WP.block ?_
  refine WP.loop2 [0, 1, 5] (fun (i : Nat) (zs : List Bool) => i ≤ 6400 ∧ zs.length = 6400 ∧ ∀ j, j < i → zs[j]? = (zipB (fun p q => p || q) xs ys)[j]?) (fun (i : Nat) (zs : List Bool) => [(6, vi i)]) (fun (i : Nat) (zs : List Bool) => osl 4 boolT v9 zs :: L) (fun (i : Nat) (zs : List Bool) => 6400 - i) 0 (List.replicate xs.length false) ⟨by omega, by simp [hl], fun j h => by omega⟩ ⟨rfl, trivial⟩ Cv.p ?_
  rintro i zs τ ⟨hi, hl2, he⟩
  refine WP.seq ?_
  refine WP.seq ?_
  refine WP.region ?_
  refine RG.pv rfl (PV.mvI (.inl rfl) rfl) ?_
  refine RG.pv rfl (PV.move (v := v) rfl rfl) ?_
  refine RG.pv rfl (PV.len (v := v) rfl Tryz.underlying110 rfl (SlF.r h1)) ?_
  refine RG.pv rfl (PV.lss rfl rfl rfl) ?_
  refine RG.nil ?_
  refine WP.cond rfl (fun h3 => ?_) (fun h3 => ?_)
  · have h3 := of_decide_eq_true h3
    have hz := zipB_get (f := fun p q => p || q) (a := xs) (b := ys) (i := i) (by omega) (by omega)
    refine WP.skip ?_
    refine WP.seq ?_
    refine WP.block ?_
    refine WP.region ?_
    refine RG.pv rfl (PV.move (v := v9) rfl rfl) ?_
    refine RG.pv rfl (PV.mvI (.inl rfl) rfl) ?_
    refine RG.pv rfl (PV.move (v := v) rfl rfl) ?_
    refine RG.pv rfl (PV.mvI (.inl rfl) rfl) ?_
    refine RG.pv rfl (PV.idxS (v := v) rfl Is110 rfl (SlF.r h1) rfl rfl (by omega)) ?_
    refine RG.pv rfl (PV.loadE1 rfl Sc4 rfl rfl (El.r h1 (getG (by omega))) rfl) ?_
    refine RG.pv rfl (PV.mvB (.inl rfl) rfl) ?_
    refine RG.gs rfl rfl rfl (fun hp => (PV.move (v := u) rfl rfl)) ?_
    refine RG.gs rfl rfl rfl (fun hp => (PV.mvI (.inl rfl) rfl)) ?_
    refine RG.gs rfl rfl rfl (fun hp => (PV.idxS (v := u) rfl Is110 (gs_t hp) (SlF.r h2) (gs_t hp) rfl (by first | omega | (simp at hp; omega)))) ?_
    refine RG.gs rfl rfl rfl (fun hp => (PV.loadE1 rfl Sc4 (gs_t hp) rfl (El.r h2 (getG (by first | omega | (simp at hp; omega)))) rfl)) ?_
    refine RG.pv rfl (PV.pickO rfl rfl rfl (fun hq => gs_t (geqF hq))) ?_
    refine RG.pv rfl (PV.idxS (v := v9) rfl Is110 rfl SlF.o rfl rfl (by omega)) ?_
    refine RG.ot rfl (OT.storeE (F := boolT) rfl Sz4 rfl rfl rfl (Cl.c rfl) (OneC.c rfl) (by omega) ?_)
    refine RG.nil ?_
    refine WP.region ?_
    refine RG.pv rfl (PV.mvI (.inl rfl) rfl) ?_
    refine RG.pv rfl (PV.add rfl rfl rfl (by omega)) ?_
    refine RG.pv rfl (PV.mvI (.inr rfl) rfl) ?_
    refine RG.nil ?_
    exact ⟨rfl, i + 1, (zs.set i (gd xs i || gd ys i)), ⟨by omega, by simpa using hl2, set_pre he (by rw [hz]) (by omega)⟩, ⟨rfl, trivial⟩, ⟨rfl, rfl, rfl, trivial⟩, Cv.p, by omega⟩
  · have h3 := of_decide_eq_false h3
    obtain rfl := pre_eq he (by omega) (by omega)
    refine WP.exit ?_
    refine WP.seq ?_
    refine WP.region ?_
    refine RG.pv rfl (PV.move (v := v9) rfl rfl) ?_
    refine RG.pv rfl (PV.asg (v := v9) rfl rfl) ?_
    refine RG.nil ?_
    refine WP.ret ?_
    exact ⟨_, _, ResV.one rfl rfl, Cv.p, k v9⟩
end Go.Proofs.YtbkaincaahcnfaaGreat
namespace Go.Proofs.YtbkaincaahcnfaaGreat
set_option linter.unusedVariables false
set_option linter.unusedSimpArgs false
open Go
set_option maxRecDepth 20000
set_option maxHeartbeats 1000000
set_option linter.unusedSimpArgs false
variable {G : Gh} {L : List Ch} {R : Value → Gh → List Ch → Prop}
theorem gb_zip2 {f : Bool → Bool → Bool} {a b : List Bool} (ha : a.length = 6400) (hb : b.length = 6400) {y x : Nat} (hy : y < 80) (hx : x < 80) : gb (zipB f a b) y x = f (gb a y x) (gb b y x) := by
  unfold gb; rw [zipB_gd (by omega) (by omega)]
def diffAny (E : List (Int × (Int × List Rect))) (y x : Nat) : Bool := E.any fun q => decide (q.2.1 = 0) && gb (bits q.2.2) y x
theorem diff_take {qs : List PPiece} {i y x : Nat} (h : i < qs.length) : diffAny ((erQs qs).take (i + 1)) y x = (diffAny ((erQs qs).take i) y x || (decide ((gd qs i).piece.layer = 0) && gb (bits (gd qs i).piece.reg.xs) y x)) := by
  rw [diffAny, List.take_add_one, getG (by rw [erQs_len]; exact h), List.any_append, erQs_gd h]
  simp [diffAny, erQ, erP]
theorem zipB_len2 {f : Bool → Bool → Bool} {a b : List Bool} (ha : a.length = 6400) (hb : b.length = 6400) : (zipB f a b).length = 6400 := by simp [zipB, ha, hb]
theorem cross_r {v u : Value} {qs : List PPiece} {P : List Bool} (h1 : Rs G L ppieceT v qs) (hd : RsE G L rectT (regsQ qs)) (h2 : Rs G L boolT u P) (hP : P.length = 6400) (hreg : ∀ i, i < qs.length → isReg (gd qs i).piece.reg.xs = true) (k : ∀ v' O, O.length = 6400 → (∀ y x, y < 80 → x < 80 → gb O y x = (diffAny (erQs qs) y x && gb P y x)) → R v' G (osl 4 boolT v' O :: L)) : CallT Tryz.prog 79 #[v, u] G L R := by
  refine CallT.bd h1 fun hb => ?_
  refine CallT.enter (args := _) Tryz.func79 rfl rfl (by kernel_rfl) rfl ?_
  refine WP.seq ?_
  refine WP.region ?_
  refine RG.pv rfl (PV.asg rfl rfl) ?_
  refine RG.nil ?_
  refine WP.seq ?_
  refine WP.region ?_
  refine RG.pv rfl (PV.move (v := u) rfl rfl) ?_
  refine RG.pv rfl (PV.len (v := u) rfl Tryz.underlying110 rfl (SlF.r h2)) ?_
  refine RG.ot rfl (OT.make (F := boolT) (a0 := false) rfl El110 rfl (by decide) rfl rfl (by omega) (by omega) fun v9 => ?_)
  refine RG.pv rfl (PV.asg (v := v9) rfl rfl) ?_
  refine RG.nil ?_
  refine WP.seq ?_
  refine WP.seq ?_
  refine WP.region ?_
  refine RG.pv rfl (PV.mvI (.inr rfl) rfl) ?_
  refine RG.nil ?_
  refine WP.block ?_
  refine WP.loop3 [0, 1] (fun (i : Nat) (O : List Bool) (q : Value) => i ≤ qs.length ∧ O.length = 6400 ∧ ∀ y x, y < 80 → x < 80 → gb O y x = (diffAny ((erQs qs).take i) y x && gb P y x)) (fun (i : Nat) (O : List Bool) (q : Value) => [(6, vi i), (5, q)]) (fun (i : Nat) (O : List Bool) (q : Value) => osl 4 boolT q O :: L) (fun (i : Nat) (O : List Bool) (q : Value) => qs.length - i) 0 (List.replicate P.length false) v9 ⟨by omega, by rw [List.length_replicate]; exact hP, fun y x _ _ => by rw [hP, gb_rep]; simp [diffAny]⟩ ⟨rfl, rfl, trivial⟩ Cv.p ?_
  rintro i O q τ ⟨hi, hl, hc⟩
  refine WP.seq ?_
  refine WP.seq ?_
  refine WP.region ?_
  refine RG.pv rfl (PV.mvI (.inl rfl) rfl) ?_
  refine RG.pv rfl (PV.move (v := v) rfl rfl) ?_
  refine RG.pv rfl (PV.len (v := v) rfl Tryz.underlying54 rfl (SlF.r h1)) ?_
  refine RG.pv rfl (PV.lss rfl rfl rfl) ?_
  refine RG.nil ?_
  refine WP.cond rfl (fun h3 => ?_) (fun h3 => ?_)
  · have h3 := of_decide_eq_true h3
    have h5 : i < qs.length := by omega
    refine WP.skip ?_
    refine WP.seq ?_
    refine WP.block ?_
    refine WP.seq ?_
    refine WP.region ?_
    refine RG.pv rfl (PV.move (v := v) rfl rfl) ?_
    refine RG.pv rfl (PV.mvI (.inl rfl) rfl) ?_
    refine RG.pv rfl (PV.idxS (v := v) rfl Is54 rfl (SlF.r h1) rfl rfl (by omega)) ?_
    refine RG.pv rfl (PV.field rfl Fo108_1 rfl) ?_
    refine RG.pv rfl (PV.field rfl Fo96_0 rfl) ?_
    refine RG.pv rfl (PV.loadF rfl Sc2 rfl rfl (El.r h1 (getG (by omega))) rfl) ?_
    refine RG.pv rfl (PV.eql rfl rfl rfl) ?_
    refine RG.nil ?_
    refine WP.cond rfl (fun h4 => ?_) (fun h4 => ?_)
    · have h4 := of_decide_eq_true h4
      refine WP.region ?_
      refine RG.pv rfl (PV.move (v := q) rfl rfl) ?_
      refine RG.pv rfl (PV.move (v := v) rfl rfl) ?_
      refine RG.pv rfl (PV.mvI (.inl rfl) rfl) ?_
      refine RG.pv rfl (PV.idxS (v := v) rfl Is54 rfl (SlF.r h1) rfl rfl (by omega)) ?_
      refine RG.pv rfl (PV.field rfl Fo108_1 rfl) ?_
      refine RG.pv rfl (PV.field rfl Fo96_1 rfl) ?_
      refine RG.pv rfl (PV.loadF (F := ppieceT) (v := v) (i := i) (j := 2) rfl Sc59 rfl rfl (El.r h1 (getG (by omega))) rfl) ?_
      refine RG.callF (vs := [_]) rfl rfl En80 rfl (l03Bits_s (RsE.regQ hd h5).up (fun j hj => by have := isReg_valid (hreg i h5); simp only [validRs, Bool.and_eq_true, List.all_eq_true] at this; exact this.2 _ (gd_mem hj)) (fun v30 => ?_))
      refine RG.pv rfl (PV.move (v := u) rfl rfl) ?_
      refine RG.callF (vs := [v30, u]) rfl rfl En127 rfl (l24Meet_s Rs.o (Rs.up h2) (bits_length _) hP (fun v32 => ?_))
      refine RG.callF (vs := [q, v32]) rfl rfl En126 rfl (l19Or_s (Rs.o (v := q)) Rs.o hl (zipB_len2 (bits_length _) hP) (fun v33 => ?_))
      refine RG.pv rfl (PV.asg (v := v33) rfl rfl) ?_
      refine RG.nil ?_
      refine WP.region ?_
      refine RG.pv rfl (PV.mvI (.inl rfl) rfl) ?_
      refine RG.pv rfl (PV.add rfl rfl rfl (by omega)) ?_
      refine RG.pv rfl (PV.mvI (.inr rfl) rfl) ?_
      refine RG.nil ?_
      refine ⟨rfl, i + 1, (zipB (fun p q => p || q) O (zipB (fun p q => p && q) (bits (gd qs i).piece.reg.xs) P)), v33, ⟨by omega, zipB_len2 hl (zipB_len2 (bits_length _) hP), fun y x h6 h7 => ?_⟩, ⟨rfl, rfl, trivial⟩, ⟨rfl, rfl, trivial⟩, Cv.p, by omega⟩
      rw [gb_zip2 hl (zipB_len2 (bits_length _) hP) h6 h7, gb_zip2 (bits_length _) hP h6 h7, hc y x h6 h7, diff_take h5, decide_eq_true h4]
      cases diffAny ((erQs qs).take i) y x <;> cases gb P y x <;> simp
    · have h4 := of_decide_eq_false h4
      refine WP.skip ?_
      refine WP.region ?_
      refine RG.pv rfl (PV.mvI (.inl rfl) rfl) ?_
      refine RG.pv rfl (PV.add rfl rfl rfl (by omega)) ?_
      refine RG.pv rfl (PV.mvI (.inr rfl) rfl) ?_
      refine RG.nil ?_
      refine ⟨rfl, i + 1, O, q, ⟨by omega, hl, fun y x h6 h7 => ?_⟩, ⟨rfl, rfl, trivial⟩, ⟨rfl, rfl, trivial⟩, Cv.p, by omega⟩
      rw [hc y x h6 h7, diff_take h5, decide_eq_false h4]
      simp
  · have h3 := of_decide_eq_false h3
    refine WP.exit ?_
    refine WP.seq ?_
    refine WP.region ?_
    refine RG.pv rfl (PV.move (v := q) rfl rfl) ?_
    refine RG.pv rfl (PV.asg (v := q) rfl rfl) ?_
    refine RG.nil ?_
    refine WP.ret ?_
    exact ⟨_, _, ResV.one rfl rfl, Cv.p, k q O hl (fun y x h6 h7 => by rw [hc y x h6 h7, List.take_of_length_le (by rw [erQs_len]; omega)])⟩
def crB (E : List (Int × (Int × List Rect))) (P : List Bool) : List Bool := (List.range 6400).map fun j => diffAny E (j / 80) (j % 80) && gb P (j / 80) (j % 80)
theorem crB_len (E : List (Int × (Int × List Rect))) (P : List Bool) : (crB E P).length = 6400 := by simp [crB]
theorem crB_eq {E : List (Int × (Int × List Rect))} {P O : List Bool} (hO : O.length = 6400) (h : ∀ y x, y < 80 → x < 80 → gb O y x = (diffAny E y x && gb P y x)) : O = crB E P := by
  apply List.ext_getElem?
  intro j
  by_cases hj : j < 6400
  · have hy : j / 80 < 80 := by omega
    have hx : j % 80 < 80 := by omega
    have h1 := h (j / 80) (j % 80) hy hx
    have e : j / 80 * 80 + j % 80 = j := by omega
    rw [getG (by omega), crB, getG (by simpa using hj), gd_map _ (by simpa using hj), range_gd hj, ← h1]
    unfold gb; rw [e]
  · rw [List.getElem?_eq_none (by omega), List.getElem?_eq_none (by rw [crB_len]; omega)]
noncomputable def crL (cs : List ECell) (cell : Int) : List Rect := bif decide (shE cs cell = 0) then canon (crB (ppAll cs cell) (bits (gd (flyL cs cell) 1))) else []
theorem fly_reg {cs : List ECell} {cell : Int} (h : shE cs cell = 0) : (flyL cs cell).length = 8 ∧ isReg (gd (flyL cs cell) 1) = true := by
  have e : flyL cs cell = layL (shR cs cell) := by rw [flyL, decide_eq_true h]; rfl
  rw [e, layL_len, layL_gd (by omega)]
  exact ⟨rfl, isReg_canon (bits_length _)⟩
theorem placed_reg {cs : List ECell} {os : List EOcc} {n : Nat} {qs : List PPiece} (h : erQs qs = plTo cs os n) {i : Nat} (hi : i < qs.length) : isReg (gd qs i).piece.reg.xs = true := by
  have hm : erQ (gd qs i) ∈ plTo cs os n := by rw [← h, erQs]; exact List.mem_map.2 ⟨_, gd_mem hi, rfl⟩
  rw [plTo] at hm
  obtain ⟨j, -, hm⟩ := List.mem_flatMap.1 hm
  obtain ⟨p, -, hp⟩ := List.mem_map.1 hm
  have e : (gd qs i).piece.reg.xs = canon (bits (p.2.map (moveR (gd os j).place))) := by
    have := congrArg (fun q => q.2.2) hp
    exact this.symm
  rw [e]; exact isReg_canon (bits_length _)
theorem cross_spec {l : Lib} {cell : Int} (hL : RLib G L l.cells.v l.cells.xs) (hlen : lenC (erCls l.cells.xs)) (k : ∀ v, R (.tuple #[v, vi (shE (erCls l.cells.xs) cell)]) G (osl 116 rectT v (crL (erCls l.cells.xs) cell) :: L)) : CallT Tryz.prog 39 #[vT libT l, vi cell] G L R := by
  refine CallT.enter (args := _) Tryz.func39 rfl rfl (by kernel_rfl) rfl ?_
  refine WP.seq ?_
  refine WP.region ?_
  refine RG.ot rfl (OT.box (cs := libT.enc l) rfl rfl rfl fun b2 => ?_)
  refine RG.pv rfl (PV.asg rfl rfl) ?_
  refine RG.pv rfl (PV.mvI (.inr rfl) rfl) ?_
  refine RG.nil ?_
  refine WP.seq ?_
  refine WP.region ?_
  refine RG.pv rfl (PV.loadW rfl Ag30 rfl rfl) ?_
  refine RG.pv rfl (PV.mvI (.inl rfl) rfl) ?_
  refine RG.callF (vs := [_, _]) rfl rfl En72 rfl (fly_r hL.up hlen (fun w13 ysw13 hyw13 => ?_))
  refine RG.pv rfl (PV.move (v := .tuple _) rfl rfl) ?_
  refine RG.pv rfl (PV.ext (v := w13) rfl rfl rfl) ?_
  refine RG.pv rfl (PV.ext rfl rfl rfl) ?_
  refine RG.pv rfl (PV.asg (v := w13) rfl rfl) ?_
  refine RG.pv rfl (PV.mvI (.inr rfl) rfl) ?_
  refine RG.nil ?_
  refine WP.seq ?_
  refine WP.seq ?_
  refine WP.region ?_
  refine RG.pv rfl (PV.mvI (.inl rfl) rfl) ?_
  refine RG.pv rfl (PV.neq rfl rfl rfl) ?_
  refine RG.nil ?_
  refine WP.cond rfl (fun h1 => ?_) (fun h1 => ?_)
  · have h1 : shE (erCls l.cells.xs) cell ≠ 0 := by simpa using h1
    have e : crL (erCls l.cells.xs) cell = [] := by rw [crL, decide_eq_false h1]; rfl
    rw [e] at k
    refine WP.seq ?_
    refine WP.region ?_
    refine RG.ot rfl (OT.bslice (F := rectT) (els := []) rfl El59 rfl (by decide) rfl (by decide) trivial fun v18 => ?_)
    refine RG.pv rfl (PV.mvI (.inl rfl) rfl) ?_
    refine RG.pv rfl (PV.asg (v := v18) rfl rfl) ?_
    refine RG.pv rfl (PV.mvI (.inr rfl) rfl) ?_
    refine RG.nil ?_
    refine WP.ret ?_
    exact ⟨_, _, ResV.two rfl rfl rfl, Cv.p, k v18⟩
  · have h1 : shE (erCls l.cells.xs) cell = 0 := by simpa using h1
    have e : crL (erCls l.cells.xs) cell = canon (crB (ppAll (erCls l.cells.xs) cell) (bits (gd (flyL (erCls l.cells.xs) cell) 1))) := by rw [crL, decide_eq_true h1]; rfl
    obtain ⟨hf8, hfr⟩ := fly_reg h1
    have hy8 : ysw13.length = 8 := by rw [← er_len, hyw13, hf8]
    have hy1 : (gd ysw13 1).xs = gd (flyL (erCls l.cells.xs) cell) 1 := by rw [← er_gd, hyw13]
    have hva : ∀ r ∈ (gd ysw13 1).xs, validRect r = true := by
      rw [hy1]
      have := isReg_valid hfr
      simp only [validRs, Bool.and_eq_true, List.all_eq_true] at this
      exact this.2
    rw [h1, e] at k
    refine WP.skip ?_
    refine WP.seq ?_
    refine WP.region ?_
    refine RG.pv rfl (PV.loadW rfl Ag30 rfl rfl) ?_
    refine RG.pv rfl (PV.mvI (.inl rfl) rfl) ?_
    refine RG.callF (vs := [_, _]) rfl rfl En73 rfl (occ_r hL.up hlen (fun w23 zs he => ?_))
    refine RG.pv rfl (PV.move (v := .tuple _) rfl rfl) ?_
    refine RG.pv rfl (PV.ext (v := w23) rfl rfl rfl) ?_
    refine RG.pv rfl (PV.ext rfl rfl rfl) ?_
    refine RG.pv rfl (PV.asg (v := w23) rfl rfl) ?_
    refine RG.pv rfl (PV.mvI (.inr rfl) rfl) ?_
    refine RG.nil ?_
    refine WP.seq ?_
    refine WP.regionH0 (.q 0 (.q 1 (.q 3 (.q 4 (.q 5 (.l 2 (.l 6 (.l 7 (.l 8 (.q 9 (.q 10 Sch.nil))))))))))) (by kernel_rfl) (by kernel_rfl) (by kernel_rfl) rfl ?_
    refine RH.pv rfl (fun _ _ _ _ h => h) (Gh.le_refl _) PickC.pick rfl (PV.loadW rfl Ag30 rfl rfl) ?_
    refine RH.pv rfl (fun _ _ _ _ h => h) (Gh.le_refl _) PickC.pick rfl (PV.move (v := w23) rfl rfl) ?_
    refine RH.pv rfl (fun _ _ _ _ h => h) (Gh.le_refl _) PickC.pick rfl (PV.move (v := w13) rfl rfl) ?_
    refine RH.pv rfl (fun _ _ _ _ h => h) (Gh.le_refl _) PickC.pick rfl (PV.idxS (j := 1) (v := w13) rfl Is41 rfl SlF.o rfl (by omega) (by omega)) ?_
    refine RH.pv rfl (fun _ _ _ _ h => h) (Gh.le_refl _) PickC.pick rfl (PV.loadE1 rfl Sc59 rfl rfl (El.o (getG (by omega))) rfl) ?_
    refine RH.ot rfl rfl (OT.callF (vs := [_, w23]) rfl En74 rfl (placed_r hL.up hlen Rs.o RsE.o he h1 (fun v28 qsv28 hqv28 => ⟨Gh.le_refl _, PickC.pick, ?_⟩)))
    refine RH.ot rfl rfl (OT.callF (vs := [_]) rfl En80 rfl (l03Bits_s (Rs.inBag (xs := ysw13) 1 (by omega)) (fun j hj => hva _ (gd_mem hj)) (fun v32 => ⟨Gh.le_refl _, PickC.pick, ?_⟩)))
    refine RH.ot rfl rfl (OT.callF (vs := [v28, v32]) rfl En79 rfl (cross_r Rs.o RsE.o Rs.o (bits_length _) (fun i hi => placed_reg hqv28 hi) (fun v33 O hO hg => ⟨Gh.le_refl _, PickC.pick, ?_⟩)))
    refine RH.ot rfl rfl (OT.callF (vs := [v33]) rfl En78 rfl (l03Canon_s Rs.o hO (fun v34 => ⟨Gh.le_refl _, PickC.pick, ?_⟩)))
    refine RH.pv rfl (fun _ _ _ _ h => h) (Gh.le_refl _) PickC.pick rfl (PV.asg (v := v34) rfl rfl) ?_
    refine RH.pv rfl (fun _ _ _ _ h => h) (Gh.le_refl _) PickC.pick rfl (PV.mvI (.inr rfl) rfl) ?_
    refine RH.nil ?_
    refine WP.ret ?_
    have eO : O = crB (ppAll (erCls l.cells.xs) cell) (bits (gd (flyL (erCls l.cells.xs) cell) 1)) := by
      refine crB_eq hO fun y x h3 h4 => ?_
      rw [hg y x h3 h4, hqv28, hy1]; rfl
    subst eO
    exact ⟨_, _, ResV.two rfl rfl rfl, Cv.p, k v34⟩
end Go.Proofs.YtbkaincaahcnfaaGreat
namespace Go.Proofs.YtbkaincaahcnfaaGreat
set_option linter.unusedVariables false
set_option linter.unusedSimpArgs false
open Go
set_option maxRecDepth 20000
set_option maxHeartbeats 1000000
set_option linter.unusedSimpArgs false
variable {G : Gh} {L : List Ch} {R : Value → Gh → List Ch → Prop}
def othTo (ps : List Plc) (i k : Nat) (y x : Nat) : Bool := (List.range k).any fun j => decide (j ≠ i) && gb (bits (gd ps j).poly.xs) y x
def pcCr (ps : List Plc) (i : Nat) (p : Piece) (k : Nat) (y x : Nat) : Bool := decide (p.layer = 0) && (gb (bits p.reg.xs) y x && othTo ps i k y x)
def atTo (ps : List Plc) (i m : Nat) (y x : Nat) : Bool := ((gd ps i).pieces.xs.take m).any fun p => pcCr ps i p ps.length y x
def crTo (ps : List Plc) (i : Nat) (y x : Nat) : Bool := (List.range i).any fun j => atTo ps j (gd ps j).pieces.xs.length y x
theorem crTo_succ (ps : List Plc) (i y x : Nat) : crTo ps (i + 1) y x = (crTo ps i y x || atTo ps i (gd ps i).pieces.xs.length y x) := by simp [crTo, List.range_succ]
theorem othTo_succ (ps : List Plc) (i k y x : Nat) : othTo ps i (k + 1) y x = (othTo ps i k y x || (decide (k ≠ i) && gb (bits (gd ps k).poly.xs) y x)) := by simp [othTo, List.range_succ]
theorem atTo_succ {ps : List Plc} {i m : Nat} (h : m < (gd ps i).pieces.xs.length) (y x : Nat) : atTo ps i (m + 1) y x = (atTo ps i m y x || pcCr ps i (gd (gd ps i).pieces.xs m) ps.length y x) := by
  simp only [atTo, List.take_add_one, getG h, List.any_append]; simp
def anyF (zs : List (Sl Rect)) (y x : Nat) : Bool := (er zs).flatten.any fun r => inR r y x
theorem anyF_new {zs : List (Sl Rect)} {u : Value} {az bs : List Rect} (ha : isReg az = true) (hb : isReg bs = true) {y x : Nat} (hy : y < 80) (hx : x < 80) : anyF (zs ++ [⟨u, opR (fun p q => p && q) az bs⟩]) y x = (anyF zs y x || (gb (bits az) y x && gb (bits bs) y x)) := by
  have e : opR (fun p q => p && q) az bs = canon (zipB (fun p q => p && q) (bits az) (bits bs)) := by rw [opR, ha, hb]; rfl
  have e2 : (er (zs ++ [(⟨u, opR (fun p q => p && q) az bs⟩ : Sl Rect)])).flatten = (er zs).flatten ++ opR (fun p q => p && q) az bs := by simp [er]
  rw [anyF, e2, List.any_append, e, canon_any hy hx, gb_zip2 (bits_length _) (bits_length _) hy hx]; rfl
theorem cross_i {v : Value} {ps : List Plc} (h1 : Rs G L plcT v ps) (hp : RsE G L pieceT (pcsL ps)) (hq : RsE G L rectT (plsL ps)) (hr : RsE G L rectT (rgsL ps)) (hl : ps.length ≤ 200) (hl2 : ∀ i, i < ps.length → (gd ps i).pieces.xs.length ≤ 25600) (hg1 : ∀ i, i < ps.length → isReg (gd ps i).poly.xs = true) (hg2 : ∀ i, i < ps.length → ∀ m, m < (gd ps i).pieces.xs.length → isReg (gd (gd ps i).pieces.xs m).reg.xs = true)
    (k : ∀ v' zs, (∀ y x, y < 80 → x < 80 → anyF zs y x = crTo ps ps.length y x) → R v' G (osl 116 rectT v' (canon (bits (er zs).flatten)) :: L)) : CallT Tryz.prog 81 #[v] G L R := by
  refine CallT.bd h1 fun hbz => ?_
  refine CallT.enter (args := _) Tryz.func81 rfl rfl (by kernel_rfl) rfl ?_
  refine WP.seq ?_
  refine WP.region ?_
  refine RG.pv rfl (PV.asg rfl rfl) ?_
  refine RG.nil ?_
  refine WP.seq ?_
  refine WP.region ?_
  refine RG.ot rfl (OT.bslice (F := (slT (α := Rect))) (els := []) rfl El41 rfl (by decide) rfl (by decide) trivial fun v10 => ?_)
  refine RG.pv rfl (PV.asg (v := v10) rfl rfl) ?_
  refine RG.nil ?_
  refine WP.seq ?_
  refine WP.seq ?_
  refine WP.region ?_
  refine RG.pv rfl (PV.move (v := v) rfl rfl) ?_
  refine RG.pv rfl (PV.len (v := v) rfl Tryz.underlying102 rfl (SlF.r h1)) ?_
  refine RG.pv rfl (PV.mvI (.inl rfl) rfl) ?_
  refine RG.nil ?_
  refine WP.block ?_
  refine WP.cv (Cv.cons (Cv.bag0 (e := 116) (F := rectT) (xs := []) rfl)) ?_
  refine WP.loop3 [0, 11, 12] (fun (i : Nat) (zs : List (Sl Rect)) (q : Value) => i ≤ ps.length ∧ (∀ y x, y < 80 → x < 80 → anyF zs y x = crTo ps i y x) ∧ (zs.length : Int) ≤ 5120000 * (i : Int)) (fun (i : Nat) (zs : List (Sl Rect)) (q : Value) => [(13, vi i), (3, q)]) (fun (i : Nat) (zs : List (Sl Rect)) (q : Value) => osl 59 slT q zs :: bagS 116 rectT zs :: L) (fun (i : Nat) (zs : List (Sl Rect)) (q : Value) => ps.length - i) 0 [] v10 ⟨by omega, fun y x _ _ => by simp [anyF, er, crTo], by simp⟩ ⟨rfl, rfl, trivial⟩ Cv.p ?_
  rintro i zs q τ ⟨hi, hz, hzl⟩
  refine WP.seq ?_
  refine WP.region ?_
  refine RG.pv rfl (PV.lss rfl rfl rfl) ?_
  refine RG.nil ?_
  refine WP.seq ?_
  refine WP.cond rfl (fun h2 => ?_) (fun h2 => ?_)
  · have h2 := of_decide_eq_true h2
    have h3 : i < ps.length := by omega
    have hpp : Rs G L pieceT (gd ps i).pieces.v (gd ps i).pieces.xs := hp.mem (List.mem_map.2 ⟨gd ps i, gd_mem h3, rfl⟩)
    have hqq : Rs G L rectT (gd ps i).poly.v (gd ps i).poly.xs := hq.mem (List.mem_map.2 ⟨gd ps i, gd_mem h3, rfl⟩)
    have hpl := hl2 i h3
    refine WP.skip ?_
    refine WP.seq ?_
    refine WP.block ?_
    refine WP.seq ?_
    refine WP.region ?_
    refine RG.pv rfl (PV.mvI (.inl rfl) rfl) ?_
    refine RG.pv rfl (PV.idxS (v := v) rfl Is102 rfl (SlF.r h1) rfl rfl (by omega)) ?_
    refine RG.pv rfl (PV.loadE rfl Ag172 rfl rfl (El.r h1 (getG (by omega)))) ?_
    refine RG.ot rfl (OT.alloc rfl Zr172 fun b5 => ?_)
    refine RG.pv rfl (PV.mvI (.inr rfl) rfl) ?_
    refine RG.ot rfl (OT.storeW (vs := [_, _]) rfl Sz172 rfl rfl (Cl.c rfl) rfl rfl (OneC.sl (SlF.r hpp) (OneC.sl (SlF.r hqq) OneC.nil)) ?_)
    refine RG.nil ?_
    refine WP.seq ?_
    refine WP.region ?_
    refine RG.pv rfl (PV.field rfl Fo172_0 rfl) ?_
    refine RG.pv rfl (PV.load1 rfl Sc49 rfl (Rd.blk rfl)) ?_
    refine RG.pv rfl (PV.len rfl Tryz.underlying49 rfl (SlF.r hpp)) ?_
    refine RG.pv rfl (PV.mvI (.inl rfl) rfl) ?_
    refine RG.nil ?_
    refine WP.block ?_
    refine WP.loop3 [0, 4, 11, 12, 13, 19, 20] (fun (m : Nat) (zs : List (Sl Rect)) (w : Value) => m ≤ (gd ps i).pieces.xs.length ∧ (∀ y x, y < 80 → x < 80 → anyF zs y x = (crTo ps i y x || atTo ps i m y x)) ∧ (zs.length : Int) ≤ 5120000 * (i : Int) + 200 * (m : Int)) (fun (m : Nat) (zs : List (Sl Rect)) (w : Value) => [(21, vi m), (3, w)]) (fun (m : Nat) (zs : List (Sl Rect)) (w : Value) => osl 59 slT w zs :: bagS 116 rectT zs :: blk b5 172 (plcT.enc (gd ps i)) :: L) (fun (m : Nat) (zs : List (Sl Rect)) (w : Value) => (gd ps i).pieces.xs.length - m) 0 zs q ⟨by omega, fun y x a b => by rw [hz y x a b]; simp [atTo], by omega⟩ ⟨rfl, rfl, trivial⟩ Cv.p ?_
    rintro m zs w τ1 ⟨hm, hz, hzm⟩
    refine WP.seq ?_
    refine WP.region ?_
    refine RG.pv rfl (PV.lss rfl rfl rfl) ?_
    refine RG.nil ?_
    refine WP.seq ?_
    refine WP.cond rfl (fun h4 => ?_) (fun h4 => ?_)
    · have h4 := of_decide_eq_true h4
      have h5 : m < (gd ps i).pieces.xs.length := by omega
      have hrr : Rs G L rectT (gd (gd ps i).pieces.xs m).reg.v (gd (gd ps i).pieces.xs m).reg.xs := hr.mem (List.mem_flatMap.2 ⟨gd ps i, gd_mem h3, List.mem_map.2 ⟨_, gd_mem h5, rfl⟩⟩)
      have hat := fun y x => atTo_succ h5 y x
      refine WP.skip ?_
      refine WP.seq ?_
      refine WP.block ?_
      refine WP.seq ?_
      refine WP.region ?_
      refine RG.pv rfl (PV.idxS rfl Is49 rfl (SlF.r hpp) rfl rfl (by omega)) ?_
      refine RG.pv rfl (PV.loadE rfl Ag96 rfl rfl (El.r hpp (getG (by omega)))) ?_
      refine RG.ot rfl (OT.alloc rfl Zr96 fun b7 => ?_)
      refine RG.ot rfl (OT.storeW (vs := [vi _, _]) rfl Sz96 rfl rfl (Cl.c rfl) rfl rfl (OneC.val rfl (OneC.sl (SlF.r hrr) OneC.nil)) ?_)
      refine RG.nil ?_
      refine WP.seq ?_
      refine WP.seq ?_
      refine WP.region ?_
      refine RG.pv rfl (PV.field rfl Fo96_0 rfl) ?_
      refine RG.pv rfl (PV.load1 rfl Sc2 rfl (Rd.blk rfl)) ?_
      refine RG.pv rfl (PV.neq rfl rfl rfl) ?_
      refine RG.nil ?_
      refine WP.cond rfl (fun h6 => ?_) (fun h6 => ?_)
      · have h6 : (gd (gd ps i).pieces.xs m).layer ≠ 0 := by simpa using h6
        refine WP.exit ?_
        refine WP.region ?_
        refine RG.pv rfl (PV.add rfl rfl rfl (by omega)) ?_
        refine RG.pv rfl (PV.mvI (.inl rfl) rfl) ?_
        refine RG.nil ?_
        exact ⟨rfl, m + 1, zs, w, ⟨by omega, fun y x a b => by rw [hz y x a b, hat, pcCr, decide_eq_false h6]; simp, by omega⟩, ⟨rfl, rfl, trivial⟩, ⟨rfl, rfl, rfl, rfl, rfl, rfl, rfl, trivial⟩, Cv.p, by omega⟩
      · have h6 : (gd (gd ps i).pieces.xs m).layer = 0 := by simpa using h6
        refine WP.skip ?_
        refine WP.seq ?_
        refine WP.region ?_
        refine RG.pv rfl (PV.move (v := v) rfl rfl) ?_
        refine RG.pv rfl (PV.len (v := v) rfl Tryz.underlying102 rfl (SlF.r h1)) ?_
        refine RG.pv rfl (PV.mvI (.inl rfl) rfl) ?_
        refine RG.nil ?_
        refine WP.block ?_
        refine WP.loop3 [0, 4, 7, 11, 12, 13, 19, 20, 21, 28, 29] (fun (c : Nat) (zs : List (Sl Rect)) (u : Value) => c ≤ ps.length ∧ (∀ y x, y < 80 → x < 80 → anyF zs y x = (crTo ps i y x || atTo ps i m y x || pcCr ps i (gd (gd ps i).pieces.xs m) c y x)) ∧ (zs.length : Int) ≤ 5120000 * (i : Int) + 200 * (m : Int) + c) (fun (c : Nat) (zs : List (Sl Rect)) (u : Value) => [(30, vi c), (3, u)]) (fun (c : Nat) (zs : List (Sl Rect)) (u : Value) => osl 59 slT u zs :: bagS 116 rectT zs :: blk b7 96 (pieceT.enc (gd (gd ps i).pieces.xs m)) :: blk b5 172 (plcT.enc (gd ps i)) :: L) (fun (c : Nat) (zs : List (Sl Rect)) (u : Value) => ps.length - c) 0 zs w ⟨by omega, fun y x a b => by rw [hz y x a b]; simp [pcCr, othTo], by omega⟩ ⟨rfl, rfl, trivial⟩ Cv.p ?_
        rintro c zs u τ2 ⟨hc, hz, hzc⟩
        refine WP.seq ?_
        refine WP.region ?_
        refine RG.pv rfl (PV.lss rfl rfl rfl) ?_
        refine RG.nil ?_
        refine WP.seq ?_
        refine WP.cond rfl (fun h7 => ?_) (fun h7 => ?_)
        · have h7 := of_decide_eq_true h7
          have h8 : c < ps.length := by omega
          have hpk : Rs G L pieceT (gd ps c).pieces.v (gd ps c).pieces.xs := hp.mem (List.mem_map.2 ⟨gd ps c, gd_mem h8, rfl⟩)
          have hqk : Rs G L rectT (gd ps c).poly.v (gd ps c).poly.xs := hq.mem (List.mem_map.2 ⟨gd ps c, gd_mem h8, rfl⟩)
          refine WP.skip ?_
          refine WP.seq ?_
          refine WP.block ?_
          refine WP.seq ?_
          refine WP.region ?_
          refine RG.pv rfl (PV.mvI (.inl rfl) rfl) ?_
          refine RG.pv rfl (PV.idxS (v := v) rfl Is102 rfl (SlF.r h1) rfl rfl (by omega)) ?_
          refine RG.pv rfl (PV.loadE rfl Ag172 rfl rfl (El.r h1 (getG (by omega)))) ?_
          refine RG.ot rfl (OT.alloc rfl Zr172 fun b9 => ?_)
          refine RG.pv rfl (PV.mvI (.inr rfl) rfl) ?_
          refine RG.ot rfl (OT.storeW (vs := [_, _]) rfl Sz172 rfl rfl (Cl.c rfl) rfl rfl (OneC.sl (SlF.r hpk) (OneC.sl (SlF.r hqk) OneC.nil)) ?_)
          refine RG.nil ?_
          refine WP.seq ?_
          refine WP.region ?_
          refine RG.pv rfl (PV.mvI (.inl rfl) rfl) ?_
          refine RG.pv rfl (PV.mvI (.inl rfl) rfl) ?_
          refine RG.pv rfl (PV.neq rfl rfl rfl) ?_
          refine RG.nil ?_
          refine WP.cond rfl (fun h9 => ?_) (fun h9 => ?_)
          · have h9 : c ≠ i := by simp at h9; omega
            refine WP.region ?_
            refine RG.pv rfl (PV.move (v := u) rfl rfl) ?_
            refine RG.pv rfl (PV.field rfl Fo96_1 rfl) ?_
            refine RG.pv rfl (PV.load1 rfl Sc59 rfl (Rd.blk rfl)) ?_
            refine RG.pv rfl (PV.field rfl Fo172_1 rfl) ?_
            refine RG.pv rfl (PV.load1 rfl Sc59 rfl (Rd.blk rfl)) ?_
            refine RG.callF (vs := [_, _]) rfl rfl En129 rfl (inter_s hrr.up hqk.up (fun v43 => ?_))
            refine RG.ot rfl (OT.bslice (F := (slT (α := Rect))) (els := [⟨v43, opR (fun p q => p && q) (gd (gd ps i).pieces.xs m).reg.xs (gd ps c).poly.xs⟩]) rfl El41 rfl (by decide) rfl (by decide) ⟨rfl, (Cl.s (v := v43) SlF.o), trivial⟩ fun v44 => ?_)
            refine RG.ot rfl (OT.append (v := u) (u := v44) (F := (slT (α := Rect))) rfl El41 rfl (by decide) rfl rfl Rs.o (OneL.one (OneC.sl (SlF.o (v := v43)) OneC.nil)) rfl (by first | omega | (simp <;> omega)) fun v45 => ?_)
            refine RG.pv rfl (PV.asg (v := v45) rfl rfl) ?_
            refine RG.nil ?_
            refine WP.region ?_
            refine RG.pv rfl (PV.add rfl rfl rfl (by omega)) ?_
            refine RG.pv rfl (PV.mvI (.inl rfl) rfl) ?_
            refine RG.nil ?_
            refine ⟨rfl, c + 1, (zs ++ [⟨v43, opR (fun p q => p && q) (gd (gd ps i).pieces.xs m).reg.xs (gd ps c).poly.xs⟩]), v45, ⟨by omega, fun y x a b => ?_, by rw [List.length_append]; simp; omega⟩, ⟨rfl, rfl, trivial⟩, ⟨rfl, rfl, rfl, rfl, rfl, rfl, rfl, rfl, rfl, rfl, rfl, trivial⟩, ((Cv.p (C := osl 116 rectT v43 (opR (fun p q => p && q) (gd (gd ps i).pieces.xs m).reg.xs (gd ps c).poly.xs) :: osl 59 slT v45 (zs ++ [⟨v43, opR (fun p q => p && q) (gd (gd ps i).pieces.xs m).reg.xs (gd ps c).poly.xs⟩]) :: bagS 116 rectT zs :: blk b7 96 (pieceT.enc (gd (gd ps i).pieces.xs m)) :: blk b5 172 (plcT.enc (gd ps i)) :: L)).trans Cv.slotNew), by omega⟩
            rw [anyF_new (hg2 i h3 m h5) (hg1 c h8) a b, hz y x a b, pcCr, pcCr, othTo_succ, decide_eq_true h9, decide_eq_true h6]
            cases gb (bits (gd (gd ps i).pieces.xs m).reg.xs) y x <;> cases gb (bits (gd ps c).poly.xs) y x <;> simp
          · have h9 : c = i := by simp at h9; omega
            refine WP.skip ?_
            refine WP.region ?_
            refine RG.pv rfl (PV.add rfl rfl rfl (by omega)) ?_
            refine RG.pv rfl (PV.mvI (.inl rfl) rfl) ?_
            refine RG.nil ?_
            refine ⟨rfl, c + 1, zs, u, ⟨by omega, fun y x a b => ?_, by omega⟩, ⟨rfl, rfl, trivial⟩, ⟨rfl, rfl, rfl, rfl, rfl, rfl, rfl, rfl, rfl, rfl, rfl, trivial⟩, Cv.p, by omega⟩
            rw [hz y x a b, pcCr, pcCr, othTo_succ, h9]
            simp
        · have h7 := of_decide_eq_false h7
          obtain rfl : c = ps.length := by omega
          refine WP.exit ?_
          refine WP.region ?_
          refine RG.pv rfl (PV.add rfl rfl rfl (by omega)) ?_
          refine RG.pv rfl (PV.mvI (.inl rfl) rfl) ?_
          refine RG.nil ?_
          exact ⟨rfl, m + 1, zs, u, ⟨by omega, fun y x a b => by rw [hz y x a b, hat, Bool.or_assoc], by omega⟩, ⟨rfl, rfl, trivial⟩, ⟨rfl, rfl, rfl, rfl, rfl, rfl, rfl, trivial⟩, Cv.p, by omega⟩
    · have h4 := of_decide_eq_false h4
      obtain rfl : m = (gd ps i).pieces.xs.length := by omega
      refine WP.exit ?_
      refine WP.region ?_
      refine RG.pv rfl (PV.add rfl rfl rfl (by omega)) ?_
      refine RG.pv rfl (PV.mvI (.inl rfl) rfl) ?_
      refine RG.nil ?_
      exact ⟨rfl, i + 1, zs, w, ⟨by omega, fun y x a b => by rw [hz y x a b, crTo_succ], by omega⟩, ⟨rfl, rfl, trivial⟩, ⟨rfl, rfl, rfl, trivial⟩, Cv.p, by omega⟩
  · have h2 := of_decide_eq_false h2
    obtain rfl : i = ps.length := by omega
    refine WP.exit ?_
    refine WP.seq ?_
    refine WP.region ?_
    refine RG.pv rfl (PV.move (v := q) rfl rfl) ?_
    refine RG.callF (vs := [q]) rfl rfl En130 rfl (unionAll_s Rs.o RsE.o (fun v50 => ?_))
    refine RG.pv rfl (PV.asg (v := v50) rfl rfl) ?_
    refine RG.nil ?_
    refine WP.ret ?_
    exact ⟨_, _, ResV.one rfl rfl, Cv.p, k v50 zs hz⟩
end Go.Proofs.YtbkaincaahcnfaaGreat
namespace Go.Proofs.YtbkaincaahcnfaaGreat
set_option linter.unusedVariables false
set_option linter.unusedSimpArgs false
open Go
set_option maxRecDepth 20000
set_option maxHeartbeats 1000000
set_option linter.unusedSimpArgs false
variable {G : Gh} {L : List Ch} {R : Value → Gh → List Ch → Prop}
theorem gb_crB {E : List (Int × (Int × List Rect))} {P : List Bool} {y x : Nat} (hy : y < 80) (hx : x < 80) : gb (crB E P) y x = (diffAny E y x && gb P y x) := by
  have hj : y * 80 + x < 6400 := by omega
  unfold crB gb
  rw [gd_map _ (by simpa using hj), range_gd hj, show (y * 80 + x) / 80 = y by omega, show (y * 80 + x) % 80 = x by omega]
theorem pc_mem2 {l : List (List Rect)} {p : Int × List Rect} (h : p ∈ pcE l) : ∃ i c, i < 4 ∧ c ∈ comps (gd (condB l) i) ∧ p.2 = canon c ∧ p.1 = gd [0, 1, 3, 5] i := by
  rw [pcE] at h
  cases hl : isLay l with
  | false => rw [hl] at h; simp at h
  | true =>
    rw [hl, cond_true] at h
    obtain ⟨q, hq, rfl⟩ := List.mem_map.1 h
    rw [pcL] at hq
    obtain ⟨z, hz, hq⟩ := List.mem_flatten.1 hq
    obtain ⟨i, hi, rfl⟩ := List.mem_map.1 hz
    obtain ⟨c, hc, rfl⟩ := List.mem_map.1 hq
    exact ⟨i, c, by simpa using hi, hc, rfl, rfl⟩
/-- a piece of diffusion has no cell of the poly -/
theorem pc_apart {ss : List Shape} {p : Int × List Rect} (h : p ∈ pcE (layL ss)) (h0 : p.1 = 0) {y x : Nat} (hy : y < 80) (hx : x < 80) (hg : gb (bits p.2) y x = true) : gb (bits (gd (layL ss) 1)) y x = false := by
  obtain ⟨i, c, hi, hc, e, e1⟩ := pc_mem2 h
  obtain ⟨g0, g1, g2, g3⟩ := gd4 (0 : Int) 1 3 5
  have hi0 : i = 0 := by
    have hh : i = 0 ∨ i = 1 ∨ i = 2 ∨ i = 3 := by omega
    rcases hh with rfl | rfl | rfl | rfl
    · rfl
    · rw [h0, g1] at e1; cases e1
    · rw [h0, g2] at e1; cases e1
    · rw [h0, g3] at e1; cases e1
  subst hi0
  rw [e, bits_canon (comps_mem hc)] at hg
  have hs := comp_sub hc hy hx hg
  obtain ⟨e0, -, -, -⟩ := gd4 (zipB (fun p q => p && !q) (bits (gd (layL ss) 0)) (bits (gd (layL ss) 1))) (bits (gd (layL ss) 1)) (bits (gd (layL ss) 3)) (bits (gd (layL ss) 5))
  rw [condB, e0, gb_zip2 (bits_length _) (bits_length _) hy hx] at hs
  simp only [Bool.and_eq_true, Bool.not_eq_true'] at hs
  exact hs.2
theorem reg_valid {xs : List Rect} (h : isReg xs = true) : ∀ r ∈ xs, validRect r = true := by
  have := isReg_valid h
  simp only [validRs, Bool.and_eq_true, List.all_eq_true] at this
  exact this.2
theorem lay_reg {ss : List Shape} {l : Nat} (h : l < 8) : isReg (gd (layL ss) l) = true := by rw [layL_gd h]; exact isReg_canon (bits_length _)
/-- .. nor has it, moved, a cell of the moved poly -/
theorem pc_apart_mv {ss : List Shape} {t : Trans} (ho : 0 ≤ t.o ∧ t.o ≤ 7) {p : Int × List Rect} (h : p ∈ pcE (layL ss)) (h0 : p.1 = 0) {y x : Nat} (hy : y < 80) (hx : x < 80) (hg : gb (bits (mvP t p).2) y x = true) : gb (bits (canon (bits ((gd (layL ss) 1).map (moveR t))))) y x = false := by
  rw [bits_canon (bits_length _)]
  rw [mvP, bits_canon (bits_length _)] at hg
  exact mv_disj ho (reg_valid (pc_reg h)) (reg_valid (lay_reg (by omega))) (fun y x hy hx hg => pc_apart h h0 hy hx hg) hy hx hg
theorem occ_facts {cs : List ECell} {cell : Int} {j : Nat} (hj : j < (occR cs cell).length) : (0 ≤ (gd (occR cs cell) j).place.o ∧ (gd (occR cs cell) j).place.o ≤ 7) ∧ ∀ b ∈ boxesOf (gd cs (gd (occR cs cell) j).cell.toNat).shapes 1, validRect b = true := by
  obtain ⟨h1, h2, h3, -⟩ := occR_cell hj
  refine ⟨(validT_iff.1 h3).1, fun b hb => ?_⟩
  obtain ⟨m, hm, rfl⟩ := boxesOf_sub hb
  have := okLib_shape h1 (i := (gd (occR cs cell) j).cell.toNat) (j := m) (by omega) hm
  simp only [okSh, Bool.and_eq_true] at this
  exact this.2
theorem poly_gb {cs : List ECell} {cell : Int} {j : Nat} (hj : j < (occR cs cell).length) : bits (plPoly cs (occR cs cell) j) = bits ((boxesOf (gd cs (gd (occR cs cell) j).cell.toNat).shapes 1).map (moveR (gd (occR cs cell) j).place)) := by
  obtain ⟨ho, hb⟩ := occ_facts hj
  rw [plPoly, bits_canon (bits_length _)]
  exact mv_congr ho (reg_valid (lay_reg (by omega))) hb (lay_bits (by omega))
theorem flat_poly {cs : List ECell} {cell : Int} (h0 : shE cs cell = 0) {y x : Nat} (hy : y < 80) (hx : x < 80) : gb (bits (gd (flyL cs cell) 1)) y x = (List.range (occR cs cell).length).any fun j => gb (bits (plPoly cs (occR cs cell) j)) y x := by
  have e : flyL cs cell = layL (flatL cs (occR cs cell)) := by rw [flyL, decide_eq_true h0, shR_ok h0]; rfl
  rw [e, lay_bits (by omega), Bool.eq_iff_iff, gb_bits_iff hy hx, List.any_eq_true]
  constructor
  · rintro ⟨r, hr, hi⟩
    rw [boxesOf] at hr
    obtain ⟨s, hs, rfl⟩ := List.mem_map.1 hr
    obtain ⟨hs1, hs2⟩ := List.mem_filter.1 hs
    obtain ⟨o, ho, hs1⟩ := List.mem_flatMap.1 hs1
    obtain ⟨j, hj, rfl⟩ := List.getElem_of_mem ho
    obtain ⟨q, hq, rfl⟩ := List.mem_map.1 hs1
    refine ⟨j, List.mem_range.2 hj, ?_⟩
    rw [poly_gb hj, gb_bits_iff hy hx]
    refine ⟨moveR (gd (occR cs cell) j).place q.box, List.mem_map.2 ⟨q.box, ?_, rfl⟩, ?_⟩
    · rw [boxesOf]
      exact List.mem_map.2 ⟨q, List.mem_filter.2 ⟨by rw [gd_eq hj]; exact hq, hs2⟩, rfl⟩
    · rw [gd_eq hj]; exact hi
  · rintro ⟨j, hj, hg⟩
    have hj := List.mem_range.1 hj
    rw [poly_gb hj, gb_bits_iff hy hx] at hg
    obtain ⟨r, hr, hi⟩ := hg
    obtain ⟨b, hb, rfl⟩ := List.mem_map.1 hr
    rw [boxesOf] at hb
    obtain ⟨q, hq, rfl⟩ := List.mem_map.1 hb
    obtain ⟨hq1, hq2⟩ := List.mem_filter.1 hq
    refine ⟨_, ?_, hi⟩
    rw [boxesOf]
    refine List.mem_map.2 ⟨⟨q.layer, moveR (gd (occR cs cell) j).place q.box⟩, List.mem_filter.2 ⟨List.mem_flatMap.2 ⟨gd (occR cs cell) j, gd_mem hj, List.mem_map.2 ⟨q, hq1, rfl⟩⟩, hq2⟩, rfl⟩
theorem ownP_mem {cs : List ECell} {c : Int} {q : Int × List Rect} (h : q ∈ ownP cs c) : q ∈ pcE (layL (gd cs c.toNat).shapes) := by
  rw [ownP] at h
  cases hh : hasCl cs c with
  | false => rw [hh] at h; cases h
  | true => rw [hh] at h; exact h
theorem erL_at {cs : List ECell} {os : List EOcc} {n : Nat} {ps : List Plc} (h : erL ps = plcTo cs os n) : ps.length = n ∧ ∀ i, i < n → erPs (gd ps i).pieces.xs = plPc cs os i ∧ (gd ps i).poly.xs = plPoly cs os i := by
  have hl : ps.length = n := by have := congrArg List.length h; simpa [erL, plcTo] using this
  refine ⟨hl, fun i hi => ?_⟩
  have h1 : gd (erL ps) i = (plPc cs os i, plPoly cs os i) := by rw [h, plcTo, gd_map _ (by rw [List.length_range]; omega), range_gd (by omega)]
  rw [erL, gd_map _ (by omega)] at h1
  exact ⟨congrArg Prod.fst h1, congrArg Prod.snd h1⟩
theorem cross_eq {cs : List ECell} {cell : Int} {ps : List Plc} (h0 : shE cs cell = 0) (he : erL ps = plcTo cs (occR cs cell) (occR cs cell).length) {y x : Nat} (hy : y < 80) (hx : x < 80) : crTo ps ps.length y x = (diffAny (ppAll cs cell) y x && gb (bits (gd (flyL cs cell) 1)) y x) := by
  obtain ⟨hl, hat⟩ := erL_at he
  rw [flat_poly h0 hy hx, Bool.eq_iff_iff, Bool.and_eq_true, crTo, diffAny, List.any_eq_true, List.any_eq_true, List.any_eq_true]
  constructor
  · rintro ⟨i, hi, h⟩
    have hi := List.mem_range.1 hi
    obtain ⟨e1, -⟩ := hat i (by omega)
    rw [atTo, List.take_length, List.any_eq_true] at h
    obtain ⟨p, hp, h⟩ := h
    simp only [pcCr, Bool.and_eq_true, othTo, List.any_eq_true] at h
    obtain ⟨ha, hb, j, hj, hc, hd⟩ := h
    have hj := List.mem_range.1 hj
    obtain ⟨-, e2⟩ := hat j (by omega)
    have hm : erP p ∈ plPc cs (occR cs cell) i := by rw [← e1, erPs]; exact List.mem_map.2 ⟨p, hp, rfl⟩
    rw [plPc] at hm
    obtain ⟨q, hq, hqe⟩ := List.mem_map.1 hm
    refine ⟨⟨((i : Int), erP p), ?_, ?_⟩, j, List.mem_range.2 (by omega), by rw [← e2]; exact hd⟩
    · rw [ppAll, plTo]
      exact List.mem_flatMap.2 ⟨i, List.mem_range.2 (by omega), List.mem_map.2 ⟨q, hq, by rw [hqe]⟩⟩
    · simp only [erP, Bool.and_eq_true]; exact ⟨ha, hb⟩
  · rintro ⟨⟨e, hm, h⟩, j, hj, hd⟩
    have hj := List.mem_range.1 hj
    rw [ppAll, plTo] at hm
    obtain ⟨i, hi, hm⟩ := List.mem_flatMap.1 hm
    have hi := List.mem_range.1 hi
    obtain ⟨q, hq, rfl⟩ := List.mem_map.1 hm
    simp only [Bool.and_eq_true, decide_eq_true_eq] at h
    obtain ⟨e1, -⟩ := hat i hi
    obtain ⟨-, e2⟩ := hat j hj
    have hpe : mvP (gd (occR cs cell) i).place q ∈ erPs (gd ps i).pieces.xs := by rw [e1, plPc]; exact List.mem_map.2 ⟨q, hq, rfl⟩
    rw [erPs] at hpe
    obtain ⟨p, hp, hpq⟩ := List.mem_map.1 hpe
    have hne : j ≠ i := fun hji => by
      subst hji
      obtain ⟨ho, -⟩ := occ_facts hj
      have := pc_apart_mv ho (ownP_mem hq) h.1 hy hx h.2
      rw [plPoly] at hd
      rw [this] at hd; cases hd
    refine ⟨i, List.mem_range.2 (by omega), ?_⟩
    rw [atTo, List.take_length, List.any_eq_true]
    refine ⟨p, hp, ?_⟩
    have hp1 : p.layer = (mvP (gd (occR cs cell) i).place q).1 := congrArg Prod.fst hpq
    have hp2 : p.reg.xs = (mvP (gd (occR cs cell) i).place q).2 := congrArg Prod.snd hpq
    simp only [pcCr, Bool.and_eq_true, othTo, List.any_eq_true, decide_eq_true_eq]
    exact ⟨by rw [hp1]; exact h.1, by rw [hp2]; exact h.2, j, List.mem_range.2 (by omega), hne, by rw [e2]; exact hd⟩
theorem cross_fin {cs : List ECell} {cell : Int} {ps : List Plc} {zs : List (Sl Rect)} (h0 : shE cs cell = 0) (he : erL ps = plcTo cs (occR cs cell) (occR cs cell).length) (hz : ∀ y x, y < 80 → x < 80 → anyF zs y x = crTo ps ps.length y x) : canon (bits (er zs).flatten) = crL cs cell := by
  rw [crL, decide_eq_true h0, cond_true]
  congr 1
  refine gb_ext (bits_length _) (crB_len _ _) fun y x hy hx => ?_
  rw [gb_bits' _ hy hx, gb_crB hy hx, ← cross_eq h0 he hy hx, ← hz y x hy hx]; rfl
theorem plPc_facts {cs : List ECell} {os : List EOcc} {i : Nat} {ps : List Piece} (h : erPs ps = plPc cs os i) : ps.length ≤ 25600 ∧ ∀ m, m < ps.length → isReg (gd ps m).reg.xs = true := by
  refine ⟨by rw [← erPs_len, h, plPc, List.length_map]; exact ownP_len _ _, fun m hm => ?_⟩
  have hh : erP (gd ps m) ∈ plPc cs os i := by rw [← h, erPs]; exact List.mem_map.2 ⟨_, gd_mem hm, rfl⟩
  rw [plPc] at hh
  obtain ⟨q, -, hq⟩ := List.mem_map.1 hh
  have e : (gd ps m).reg.xs = (mvP (gd os i).place q).2 := (congrArg Prod.snd hq).symm
  rw [e, mvP]; exact isReg_canon (bits_length _)
theorem cross_prog {l : Lib} {cell : Int} (hL : RLib G L l.cells.v l.cells.xs) (hlen : lenC (erCls l.cells.xs)) (k : ∀ v, R (.tuple #[v, vi (shE (erCls l.cells.xs) cell)]) G (osl 116 rectT v (crL (erCls l.cells.xs) cell) :: L)) : CallT Tryz.prog 40 #[vT libT l, vi cell] G L R := by
  by_cases h1 : shE (erCls l.cells.xs) cell = 0
  · skip
    rw [h1] at k
    refine CallT.enter (args := _) Tryz.func40 rfl rfl (by kernel_rfl) rfl ?_
    refine WP.seq ?_
    refine WP.region ?_
    refine RG.ot rfl (OT.box (cs := libT.enc l) rfl rfl rfl fun b2 => ?_)
    refine RG.pv rfl (PV.asg rfl rfl) ?_
    refine RG.pv rfl (PV.mvI (.inr rfl) rfl) ?_
    refine RG.nil ?_
    refine WP.seq ?_
    refine WP.region ?_
    refine RG.pv rfl (PV.loadW rfl Ag30 rfl rfl) ?_
    refine RG.pv rfl (PV.mvI (.inl rfl) rfl) ?_
    refine RG.callF (vs := [_, _]) rfl rfl En75 rfl (plac_i hL.up hlen (fun hne => absurd h1 hne) (fun _ w13 ps u13 ys13 hps hys => ?_))
    refine RG.pv rfl (PV.move (v := .tuple _) rfl rfl) ?_
    refine RG.pv rfl (PV.ext (v := w13) rfl rfl rfl) ?_
    refine RG.pv rfl (PV.ext rfl rfl rfl) ?_
    refine RG.pv rfl (PV.ext rfl rfl rfl) ?_
    refine RG.pv rfl (PV.asg (v := w13) rfl rfl) ?_
    refine RG.pv rfl (PV.asg rfl rfl) ?_
    refine RG.pv rfl (PV.mvI (.inr rfl) rfl) ?_
    refine RG.nil ?_
    refine WP.seq ?_
    refine WP.seq ?_
    refine WP.region ?_
    refine RG.pv rfl (PV.mvI (.inl rfl) rfl) ?_
    refine RG.pv rfl (PV.neq rfl rfl rfl) ?_
    refine RG.nil ?_
    refine WP.cond rfl (fun h2 => ?_) (fun h2 => ?_)
    · simp at h2
    · obtain ⟨hpl, hat⟩ := erL_at hps
      have ho2 := occR_200 (erCls l.cells.xs) cell
      have hf1 : ∀ i, i < ps.length → (gd ps i).pieces.xs.length ≤ 25600 := fun i hi => (plPc_facts (hat i (by omega)).1).1
      have hf2 : ∀ i, i < ps.length → isReg (gd ps i).poly.xs = true := fun i hi => by rw [(hat i (by omega)).2, plPoly]; exact isReg_canon (bits_length _)
      have hf3 : ∀ i, i < ps.length → ∀ m, m < (gd ps i).pieces.xs.length → isReg (gd (gd ps i).pieces.xs m).reg.xs = true := fun i hi m hm => (plPc_facts (hat i (by omega)).1).2 m hm
      refine WP.skip ?_
      refine WP.seq ?_
      refine WP.region ?_
      refine RG.pv rfl (PV.move (v := w13) rfl rfl) ?_
      refine RG.callF (vs := [w13]) rfl rfl En81 rfl (cross_i Rs.o RsE.o RsE.o RsE.o (by omega) hf1 hf2 hf3 (fun v20 zs hz => ?_))
      refine RG.pv rfl (PV.asg (v := v20) rfl rfl) ?_
      refine RG.pv rfl (PV.mvI (.inr rfl) rfl) ?_
      refine RG.nil ?_
      refine WP.ret ?_
      have e := cross_fin h1 hps hz
      rw [← e] at k
      exact ⟨_, _, ResV.two rfl rfl rfl, Cv.p, k v20⟩
  · have e : crL (erCls l.cells.xs) cell = [] := by rw [crL, decide_eq_false h1]; rfl
    rw [e] at k
    refine CallT.enter (args := _) Tryz.func40 rfl rfl (by kernel_rfl) rfl ?_
    refine WP.seq ?_
    refine WP.region ?_
    refine RG.ot rfl (OT.box (cs := libT.enc l) rfl rfl rfl fun b2 => ?_)
    refine RG.pv rfl (PV.asg rfl rfl) ?_
    refine RG.pv rfl (PV.mvI (.inr rfl) rfl) ?_
    refine RG.nil ?_
    refine WP.seq ?_
    refine WP.region ?_
    refine RG.pv rfl (PV.loadW rfl Ag30 rfl rfl) ?_
    refine RG.pv rfl (PV.mvI (.inl rfl) rfl) ?_
    refine RG.callF (vs := [_, _]) rfl rfl En75 rfl (plac_i hL.up hlen (fun _ => ?_) (fun h => absurd h h1))
    refine RG.pv rfl (PV.move (v := .tuple _) rfl rfl) ?_
    refine RG.pv rfl (PV.ext rfl rfl rfl) ?_
    refine RG.pv rfl (PV.ext rfl rfl rfl) ?_
    refine RG.pv rfl (PV.ext rfl rfl rfl) ?_
    refine RG.pv rfl (PV.asg rfl rfl) ?_
    refine RG.pv rfl (PV.asg rfl rfl) ?_
    refine RG.pv rfl (PV.mvI (.inr rfl) rfl) ?_
    refine RG.nil ?_
    refine WP.seq ?_
    refine WP.seq ?_
    refine WP.region ?_
    refine RG.pv rfl (PV.mvI (.inl rfl) rfl) ?_
    refine RG.pv rfl (PV.neq rfl rfl rfl) ?_
    refine RG.nil ?_
    refine WP.cond rfl (fun h2 => ?_) (fun h2 => ?_)
    · refine WP.seq ?_
      refine WP.region ?_
      refine RG.pv rfl (PV.mvI (.inl rfl) rfl) ?_
      refine RG.pv rfl (PV.asg rfl rfl) ?_
      refine RG.pv rfl (PV.mvI (.inr rfl) rfl) ?_
      refine RG.nil ?_
      refine WP.ret ?_
      exact ⟨_, _, ResV.two rfl rfl rfl, (Cv.p (C := L)).trans Cv.nilS, k (.slice none 0 0)⟩
    · exfalso; simp at h2; exact h1 h2
end Go.Proofs.YtbkaincaahcnfaaGreat
namespace Go.Proofs.YtbkaincaahcnfaaGreat
set_option linter.unusedVariables false
set_option linter.unusedSimpArgs false
open Go
set_option maxRecDepth 20000
set_option maxHeartbeats 1000000
set_option linter.unusedSimpArgs false
variable {G : Gh} {L : List Ch} {R : Value → Gh → List Ch → Prop}
theorem crL_cost (cs : List ECell) (cell : Int) : costL nRect (crL cs cell) ≤ 12800 := by
  rw [nRect_cost, crL]
  cases decide (shE cs cell = 0)
  · simp
  · have := canon_len (crB (ppAll cs cell) (bits (gd (flyL cs cell) 1)))
    simp only [cond_true]; omega
theorem law_CrossingCells {l : Lib} {cell : Int} (hA : RLib G L l.cells.v l.cells.xs) (hlen : lenC (erCls l.cells.xs)) (k : R (.bool true) G L) : CallT Tryz.prog 9 #[vT libT l, vi cell] G L R := by
  refine CallT.enter (args := _) Tryz.func9 rfl rfl (by kernel_rfl) rfl ?_
  refine WP.seq ?_
  refine WP.region ?_
  refine RG.ot rfl (OT.box (cs := libT.enc l) rfl rfl rfl fun b2 => ?_)
  refine RG.pv rfl (PV.mvB (.inr rfl) rfl) ?_
  refine RG.nil ?_
  refine WP.seq ?_
  refine WP.region ?_
  refine RG.pv rfl (PV.mvI (.inr rfl) rfl) ?_
  refine RG.nil ?_
  refine WP.seq ?_
  refine WP.region ?_
  refine RG.pv rfl (PV.loadW rfl Ag24 rfl rfl) ?_
  refine RG.pv rfl (PV.mvI (.inl rfl) rfl) ?_
  refine RG.callF (vs := [_, _]) rfl rfl En10 rfl (szLib_s hA.up hlen (by omega) (by omega) (fun r hr => ?_))
  refine RG.pv rfl (PV.mvI (.inr rfl) rfl) ?_
  refine RG.nil ?_
  refine WP.seq ?_
  refine WP.seq ?_
  refine WP.region ?_
  refine RG.pv rfl (PV.mvI (.inl rfl) rfl) ?_
  refine RG.pv rfl (PV.lss rfl rfl rfl) ?_
  refine RG.nil ?_
  refine WP.cond rfl (fun h2 => ?_) (fun h2 => ?_)
  · refine WP.seq ?_
    refine WP.region ?_
    refine RG.pv rfl (PV.mvB (.inr rfl) rfl) ?_
    refine RG.nil ?_
    refine WP.ret ?_
    exact ⟨_, _, ResV.one rfl rfl, Cv.p, k⟩
  · have h2 := of_decide_eq_false h2
    have hf := hr (by omega)
    refine WP.skip ?_
    refine WP.seq ?_
    refine WP.region ?_
    refine RG.pv rfl (PV.loadW rfl Ag24 rfl rfl) ?_
    refine RG.callF (vs := [_]) rfl rfl En12 rfl (toLib_s hA.up hf (fun w23 ysw23 hew23 => ?_))
    refine RG.pv rfl (PV.mvI (.inl rfl) rfl) ?_
    refine RG.callF (vs := [_, _]) rfl rfl En39 rfl (cross_spec (l := ⟨⟨w23, ysw23⟩⟩) ⟨Rs.o, RsE.o, RsE.o, RsE.o⟩ (by rw [hew23]; exact hlen) (fun w25 => ?_))
    refine RG.pv rfl (PV.move (v := .tuple _) rfl rfl) ?_
    refine RG.pv rfl (PV.ext (v := w25) rfl rfl rfl) ?_
    refine RG.pv rfl (PV.ext rfl rfl rfl) ?_
    refine RG.pv rfl (PV.asg (v := w25) rfl rfl) ?_
    refine RG.pv rfl (PV.mvI (.inr rfl) rfl) ?_
    refine RG.nil ?_
    refine WP.seq ?_
    refine WP.region ?_
    refine RG.pv rfl (PV.loadW rfl Ag24 rfl rfl) ?_
    refine RG.callF (vs := [_]) rfl rfl En12 rfl (toLib_s hA.up hf (fun w29 ysw29 hew29 => ?_))
    refine RG.ot rfl (OT.alloc rfl Zr30 fun b8 => ?_)
    refine RG.ot rfl (OT.storeW (vs := [_]) rfl Sz30 rfl rfl (Cl.c rfl) rfl rfl (OneC.sl (SlF.o (v := w29)) OneC.nil) ?_)
    refine RG.nil ?_
    refine WP.seq ?_
    refine WP.region ?_
    refine RG.pv rfl (PV.loadW rfl Ag30 rfl rfl) ?_
    refine RG.pv rfl (PV.mvI (.inl rfl) rfl) ?_
    refine RG.callF (vs := [_, _]) rfl rfl En40 rfl (cross_prog (l := ⟨⟨w29, ysw29⟩⟩) ⟨Rs.o, RsE.o, RsE.o, RsE.o⟩ (by rw [hew29]; exact hlen) (fun w33 => ?_))
    refine RG.pv rfl (PV.move (v := .tuple _) rfl rfl) ?_
    refine RG.pv rfl (PV.ext (v := w33) rfl rfl rfl) ?_
    refine RG.pv rfl (PV.ext rfl rfl rfl) ?_
    refine RG.pv rfl (PV.asg (v := w33) rfl rfl) ?_
    refine RG.pv rfl (PV.mvI (.inr rfl) rfl) ?_
    refine RG.nil ?_
    refine WP.seq ?_
    refine WP.seq ?_
    refine WP.region ?_
    refine RG.pv rfl (PV.move (v := w33) rfl rfl) ?_
    refine RG.pv rfl (PV.move (v := w25) rfl rfl) ?_
    refine RG.callF (vs := [w33, w25]) rfl rfl En41 rfl (eqRectS_s Rs.o Rs.o ?_)
    refine RG.pv rfl (PV.not rfl rfl) ?_
    refine RG.pv rfl (PV.mvB (.inl rfl) rfl) ?_
    refine RG.gs rfl rfl rfl (fun hp => (PV.mvI (.inl rfl) rfl)) ?_
    refine RG.gs rfl rfl rfl (fun hp => (PV.mvI (.inl rfl) rfl)) ?_
    refine RG.gs rfl rfl rfl (fun hp => (PV.neq rfl (gs_t hp) (gs_t hp))) ?_
    refine RG.pv rfl (PV.pickO rfl rfl rfl (fun hq => gs_t (geqF hq))) ?_
    refine RG.nil ?_
    refine WP.cond rfl (fun h3 => ?_) (fun h3 => ?_)
    · simp [hew23, hew29] at h3
    · refine WP.skip ?_
      refine WP.seq ?_
      refine WP.seq ?_
      refine WP.regionH0 (.q 0 (.q 1 (.l 2 (.l 3 (.q 4 Sch.nil))))) (by kernel_rfl) (by kernel_rfl) (by kernel_rfl) rfl ?_
      refine RH.pv rfl (fun _ _ _ _ h => h) (Gh.le_refl _) PickC.pick rfl (PV.loadW rfl Ag30 rfl rfl) ?_
      refine RH.pv rfl (fun _ _ _ _ h => h) (Gh.le_refl _) PickC.pick rfl (PV.loadW rfl Ag24 rfl rfl) ?_
      refine RH.ot rfl rfl (OT.callF (vs := [_]) rfl En12 rfl (toLib_s hA.up hf (fun w47 ysw47 hew47 => ⟨Gh.le_refl _, PickC.pick, ?_⟩)))
      refine RH.ot rfl rfl (OT.callF (vs := [_, _]) rfl En14 rfl (eqLib_s (l := ⟨⟨w29, ysw29⟩⟩) (m := ⟨⟨w47, ysw47⟩⟩) ⟨Rs.o, RsE.o, RsE.o, RsE.o⟩ ⟨Rs.o, RsE.o, RsE.o, RsE.o⟩ (by rw [hew29, hew47]) ⟨Gh.le_refl _, PickC.pick, ?_⟩))
      refine RH.pv rfl (fun _ _ _ _ h => h) (Gh.le_refl _) PickC.pick rfl (PV.not rfl rfl) ?_
      refine RH.nil ?_
      refine WP.cond rfl (fun h4 => ?_) (fun h4 => ?_)
      · simp at h4
      · have hcr := crL_cost (erCls l.cells.xs) cell
        have hm2 : costL nRect (crL (erCls ysw29) cell) ≤ 12800 := by rw [hew29]; exact hcr
        have hm4 : 0 ≤ costL nRect (crL (erCls ysw29) cell) := by rw [nRect_cost]; omega
        refine WP.skip ?_
        refine WP.seq ?_
        refine WP.region ?_
        refine RG.pv rfl (PV.mvI (.inr rfl) rfl) ?_
        refine RG.nil ?_
        refine WP.seq ?_
        refine WP.region ?_
        refine RG.pv rfl (PV.loadW rfl Ag30 rfl rfl) ?_
        refine RG.pv rfl (PV.mvI (.inl rfl) rfl) ?_
        refine RG.callF (vs := [_, _]) rfl rfl En18 rfl (CallT.exBg (ins ysw29) (CallT.exBg (lbs ysw29) (CallT.exBg (shs ysw29) (CallT.exS w29 (markLib_s (l := ⟨⟨w29, ysw29⟩⟩) (by rw [hew29]; exact hf) (by omega) (fun km hkm => ?_))))))
        refine RG.pv rfl (PV.mvI (.inr rfl) rfl) ?_
        refine RG.nil ?_
        refine WP.seq ?_
        refine WP.seq ?_
        refine WP.region ?_
        refine RG.pv rfl (PV.mvI (.inl rfl) rfl) ?_
        refine RG.pv rfl (PV.lss rfl rfl rfl) ?_
        refine RG.pv rfl (PV.mvB (.inl rfl) rfl) ?_
        refine RG.gs rfl rfl rfl (fun hp => (PV.move (v := w33) rfl rfl)) ?_
        refine RG.gs rfl rfl rfl (fun hp => (PV.move (v := w25) rfl rfl)) ?_
        refine RG.gsC rfl rfl rfl rfl En41 (fun hp => ⟨_, (acons (gs_t hp) (acons (gs_t hp) anil)), eqRectS_s Rs.o Rs.o ⟨rfl, rfl, rfl⟩⟩) ?_
        refine RG.gs rfl rfl rfl (fun hp => (PV.not rfl (gs_t hp))) ?_
        refine RG.pv rfl (PV.pickO rfl rfl rfl (fun hq => gs_t (geqF hq))) ?_
        refine RG.pv rfl (PV.mvB (.inl rfl) rfl) ?_
        refine RG.gs rfl rfl rfl (fun hp => (PV.mvI (.inl rfl) rfl)) ?_
        refine RG.gs rfl rfl rfl (fun hp => (PV.mvI (.inl rfl) rfl)) ?_
        refine RG.gs rfl rfl rfl (fun hp => (PV.neq rfl (gs_t hp) (gs_t hp))) ?_
        refine RG.pv rfl (PV.pickO rfl rfl rfl (fun hq => gs_t (geqF hq))) ?_
        refine RG.nil ?_
        refine WP.cond rfl (fun h5 => ?_) (fun h5 => ?_)
        · exfalso
          have : ¬ km < 0 := by omega
          simp [this, hew23, hew29] at h5
        · skip
          refine WP.skip ?_
          refine WP.seq ?_
          refine WP.region ?_
          refine RG.pv rfl (PV.mvI (.inr rfl) rfl) ?_
          refine RG.nil ?_
          refine WP.seq ?_
          refine WP.region ?_
          refine RG.pv rfl (PV.move (v := w33) rfl rfl) ?_
          refine RG.pv rfl (PV.mvI (.inl rfl) rfl) ?_
          refine RG.callF (vs := [w33, _]) rfl rfl En42 rfl (CallT.exS w33 (markRectS_s (by omega) (by simp only; omega) ?_))
          refine RG.pv rfl (PV.mvI (.inr rfl) rfl) ?_
          refine RG.nil ?_
          refine WP.seq ?_
          refine WP.region ?_
          refine RG.pv rfl (PV.mvI (.inr rfl) rfl) ?_
          refine RG.nil ?_
          refine WP.seq ?_
          refine WP.region ?_
          refine RG.pv rfl (PV.move (v := w33) rfl rfl) ?_
          refine RG.pv rfl (PV.mvI (.inl rfl) rfl) ?_
          refine RG.callF (vs := [w33, _]) rfl rfl En43 rfl (heldRectS_s Rs.o (by omega) (by simp only; omega) ?_)
          refine RG.pv rfl (PV.mvI (.inr rfl) rfl) ?_
          refine RG.nil ?_
          refine WP.seq ?_
          refine WP.seq ?_
          refine WP.region ?_
          refine RG.pv rfl (PV.mvI (.inl rfl) rfl) ?_
          refine RG.pv rfl (PV.lss rfl rfl rfl) ?_
          refine RG.nil ?_
          refine WP.cond rfl (fun h6 => ?_) (fun h6 => ?_)
          · simp at h6; omega
          · refine WP.skip ?_
            refine WP.seq ?_
            refine WP.seq ?_
            refine WP.region ?_
            refine RG.pv rfl (PV.mvI (.inl rfl) rfl) ?_
            refine RG.pv rfl (PV.mvI (.inl rfl) rfl) ?_
            refine RG.pv rfl (PV.neq rfl rfl rfl) ?_
            refine RG.nil ?_
            refine WP.cond rfl (fun h7 => ?_) (fun h7 => ?_)
            · simp at h7
            · skip
              refine WP.skip ?_
              refine WP.seq ?_
              refine WP.region ?_
              refine RG.pv rfl (PV.loadW rfl Ag24 rfl rfl) ?_
              refine RG.callF (vs := [_]) rfl rfl En12 rfl (toLib_s hA.up hf (fun w79 ysw79 hew79 => ?_))
              refine RG.pv rfl (PV.mvI (.inl rfl) rfl) ?_
              refine RG.callF (vs := [_, _]) rfl rfl En40 rfl (cross_prog (l := ⟨⟨w79, ysw79⟩⟩) ⟨Rs.o, RsE.o, RsE.o, RsE.o⟩ (by rw [hew79]; exact hlen) (fun w81 => ?_))
              refine RG.pv rfl (PV.move (v := .tuple _) rfl rfl) ?_
              refine RG.pv rfl (PV.ext (v := w81) rfl rfl rfl) ?_
              refine RG.pv rfl (PV.ext rfl rfl rfl) ?_
              refine RG.pv rfl (PV.asg (v := w81) rfl rfl) ?_
              refine RG.pv rfl (PV.mvI (.inr rfl) rfl) ?_
              refine RG.nil ?_
              refine WP.seq ?_
              refine WP.seq ?_
              refine WP.region ?_
              refine RG.pv rfl (PV.move (v := w81) rfl rfl) ?_
              refine RG.pv rfl (PV.move (v := w25) rfl rfl) ?_
              refine RG.callF (vs := [w81, w25]) rfl rfl En41 rfl (eqRectS_s Rs.o Rs.o ?_)
              refine RG.pv rfl (PV.not rfl rfl) ?_
              refine RG.pv rfl (PV.mvB (.inl rfl) rfl) ?_
              refine RG.gs rfl rfl rfl (fun hp => (PV.mvI (.inl rfl) rfl)) ?_
              refine RG.gs rfl rfl rfl (fun hp => (PV.mvI (.inl rfl) rfl)) ?_
              refine RG.gs rfl rfl rfl (fun hp => (PV.neq rfl (gs_t hp) (gs_t hp))) ?_
              refine RG.pv rfl (PV.pickO rfl rfl rfl (fun hq => gs_t (geqF hq))) ?_
              refine RG.nil ?_
              refine WP.cond rfl (fun h8 => ?_) (fun h8 => ?_)
              · simp [hew23, hew79] at h8
              · skip
                refine WP.skip ?_
                refine WP.seq ?_
                refine WP.region ?_
                refine RG.pv rfl (PV.mvI (.inr rfl) rfl) ?_
                refine RG.nil ?_
                refine WP.seq ?_
                refine WP.region ?_
                refine RG.pv rfl (PV.move (v := w33) rfl rfl) ?_
                refine RG.pv rfl (PV.mvI (.inl rfl) rfl) ?_
                refine RG.callF (vs := [w33, _]) rfl rfl En43 rfl (heldRectS_s Rs.o (by omega) (by simp only; omega) ?_)
                refine RG.pv rfl (PV.mvI (.inr rfl) rfl) ?_
                refine RG.nil ?_
                refine WP.seq ?_
                refine WP.seq ?_
                refine WP.region ?_
                refine RG.pv rfl (PV.mvI (.inl rfl) rfl) ?_
                refine RG.pv rfl (PV.lss rfl rfl rfl) ?_
                refine RG.nil ?_
                refine WP.cond rfl (fun h9 => ?_) (fun h9 => ?_)
                · simp at h9; omega
                · refine WP.skip ?_
                  refine WP.seq ?_
                  refine WP.seq ?_
                  refine WP.region ?_
                  refine RG.pv rfl (PV.mvI (.inl rfl) rfl) ?_
                  refine RG.pv rfl (PV.mvI (.inl rfl) rfl) ?_
                  refine RG.pv rfl (PV.neq rfl rfl rfl) ?_
                  refine RG.nil ?_
                  refine WP.cond rfl (fun h10 => ?_) (fun h10 => ?_)
                  · simp at h10
                  · refine WP.skip ?_
                    refine WP.seq ?_
                    refine WP.region ?_
                    refine RG.pv rfl (PV.mvB (.inr rfl) rfl) ?_
                    refine RG.nil ?_
                    refine WP.ret ?_
                    exact ⟨_, _, ResV.one rfl rfl, Cv.p, k⟩
end Go.Proofs.YtbkaincaahcnfaaGreat
namespace Go.Proofs.YtbkaincaahcnfaaGreat
set_option linter.unusedVariables false
set_option linter.unusedSimpArgs false
open Go Go.ChangeShapes Go.WideShapes Go.ChangeAt Go.RowKit Go.Deep
set_option linter.unusedVariables false
def Gw (w : World) : Gh := ⟨wh w, w.os, w.tape, w.output⟩
theorem St.start (w : World) : St (Gw w) [] w := ⟨fun _ => none, trivial, Hp.le_refl _, (fun _ _ h => by cases h), fun _ => .inl rfl, rfl, rfl, rfl⟩
/-- behind a call that began in W, all of W's blocks are as they were -/
theorem St.below {W w' : World} {G : Gh} {L : List Ch} (l : Gh.le (Gw W) G) (h : St G L w') : Below W.heap.size W w' := by
  obtain ⟨hp, s, l1, l2, d, ok⟩ := h
  have ok' := Gh.le_ok l ok
  have up := Hp.le_trans l.1 l1
  have key : ∀ k, k < W.heap.size → w'.heap[k]? = W.heap[k]? := fun k hk => by
    have : (Gw W).f k = some W.heap[k] := by simp [Gw, wh, hk]
    have h2 := up k _ this
    simp only [wh] at h2
    rw [h2]; simp [hk]
  refine ⟨ok'.1, ok'.2.1, ok'.2.2, ?_, key⟩
  by_cases h0 : W.heap.size = 0
  · omega
  · have := key (W.heap.size - 1) (by omega)
    rw [Array.getElem?_eq_getElem (by omega : W.heap.size - 1 < W.heap.size)] at this
    have := (Array.getElem?_eq_some_iff.1 this).1
    omega
def Opn {ρ : Type} (P : Program) (t : TypeId) (F : FT ρ) (ok : Gh → ρ → Prop) : Prop :=
  ∀ {H : Type} {enc : TypeId × Value → H} {w : World} {fuel : Nat} {cs : List Value} {x : DataW H × List MemPlace}, DataW.trod enc P w 0 (fun _ => true) true fuel t cs = some x → ∃ a : ρ, cs = F.enc a ∧ ok (Gw w) a
def okI (_ : Gh) (n : Int) : Prop := -9223372036854775808 ≤ n ∧ n ≤ 9223372036854775807
def okS (_ : Gh) (s : ByteArray) : Prop := s.size ≤ 9223372036854775807
def okL {ρ : Type} [Inhabited ρ] (F : FT ρ) (ok : Gh → ρ → Prop) (G : Gh) (v : Value) : Prop := ∃ xs : List ρ, SL G F v xs ∧ ∀ i, i < xs.length → ok G (gd xs i)
section
variable {P : Program} {t e : TypeId}
theorem opnI (ht : P.underlying t = some (.int .i64)) : Opn P t intT okI := fun h => by
  obtain ⟨n, rfl, _, hw⟩ := DataW.trod_int ht h
  refine ⟨n, rfl, ?_⟩
  have : IntKind.i64.min ≤ n ∧ n ≤ IntKind.i64.max := by simpa [Lit.wf] using hw
  simp only [show IntKind.i64.min = -9223372036854775808 from rfl, show IntKind.i64.max = 9223372036854775807 from rfl] at this
  exact this
theorem opnS (ht : P.underlying t = some .string) : Opn P t strT okS := fun h => by
  obtain ⟨s, rfl, _, hs⟩ := DataW.trod_string ht h
  refine ⟨s, rfl, ?_⟩
  simp only [maxLen] at hs
  exact (by omega : s.size ≤ 9223372036854775807)
theorem cells_get {w : World} {a : Addr} {n : Nat} {cs : List Value} (h : w.cells? 0 a n = some cs) : cs.length = n ∧ ∀ j c, cs[j]? = some c → w.cell? (a.add j) = some c := by
  obtain ⟨_, h1, h2⟩ := World.cells?_some h
  refine ⟨h1, fun j c hc => ?_⟩
  have hj := (List.getElem?_eq_some_iff.1 hc).1
  rw [h2 j (by omega), hc]
theorem opnL {ρ : Type} [Inhabited ρ] {F : FT ρ} {ok : Gh → ρ → Prop} (ht : P.underlying t = some (.slice e)) (hE : Opn P e F ok) (hc : P.cellsOf e = F.sz) (h0 : 0 < F.sz) : Opn P t rawT (okL F ok) := fun {H enc w fuel cs x} h => by
  rcases open_slice ht h with ⟨rfl, _⟩ | ⟨a, len, cap, m, n, D, Pl, rfl, _, hl, hm, hmm, _, hel⟩
  · exact ⟨_, rfl, [], ⟨⟨0, Nat.le_refl _, Nat.zero_le _, .inr ⟨⟨_, rfl⟩, rfl⟩⟩, fun j c hj => by simp [FT.flat] at hj⟩, fun i hi => by simp at hi⟩
  have hmcap : m = cap := by simpa using hmm
  refine ⟨.slice (some a) len cap, rfl, ?_⟩
  have hall : ∀ i, i < len → ∃ r : ρ, w.cells? 0 (a.add (i * F.sz)) F.sz = some (F.enc r) ∧ ok (Gw w) r := fun i hi => by
    obtain ⟨cs', h1, h2⟩ := hel i (by omega)
    obtain ⟨r, rfl, hr⟩ := hE h2
    rw [hc] at h1
    exact ⟨r, h1, hr⟩
  have : ∃ f : Nat → ρ, ∀ i, i < len → w.cells? 0 (a.add (i * F.sz)) F.sz = some (F.enc (f i)) ∧ ok (Gw w) (f i) := choose_lt hall
  obtain ⟨f, hf⟩ := this
  have hlen : ((List.range len).map f).length = len := by simp
  have hget : ∀ i, i < len → ((List.range len).map f)[i]? = some (f i) := fun i hi => by simp [hi]
  have hsp : len ≠ 0 → a.spot = none := fun hz => by
    obtain ⟨h1, _⟩ := hf 0 (by omega)
    obtain ⟨hl1, hg⟩ := cells_get h1
    cases hq : (F.enc (f 0))[0]? with
    | none => rw [List.getElem?_eq_none_iff] at hq; omega
    | some c =>
      have hcell := hg 0 c hq
      cases hs : a.spot with
      | none => rfl
      | some s =>
        exfalso
        have h3 : ((a.add (0 * F.sz)).add 0).spot.isSome = true := by simp [Addr.add, hs]
        unfold World.cell? at hcell
        split at hcell
        · rw [if_pos h3] at hcell; cases hcell
        · cases hcell
  refine ⟨(List.range len).map f, ⟨⟨cap, by simpa using hl, hm, ?_⟩, ?_⟩, fun i hi => ?_⟩
  · by_cases hz : len = 0
    · exact .inr ⟨⟨some a, by simp⟩, by simpa using hz⟩
    · refine .inl ⟨a.block, a.off, ?_⟩
      have hsp := hsp hz
      simp only [hlen]
      obtain ⟨ab, ao, az⟩ := a
      simp only at hsp
      subst hsp; rfl
  · intro j c hj
    by_cases hz : len = 0
    · subst hz; simp [FT.flat] at hj
    have hsp := hsp hz
    have hjl : j < len * F.sz := by
      have := (List.getElem?_eq_some_iff.1 hj).1
      rwa [FT.flat_len, hlen] at this
    have hq : j / F.sz < len := (Nat.div_lt_iff_lt_mul h0).2 hjl
    have hr : j % F.sz < F.sz := Nat.mod_lt _ h0
    have hjd : j / F.sz * F.sz + j % F.sz = j := by rw [Nat.mul_comm]; exact Nat.div_add_mod j F.sz
    obtain ⟨h1, _⟩ := hf (j / F.sz) hq
    obtain ⟨_, hg⟩ := cells_get h1
    have hc' : (F.enc (f (j / F.sz)))[j % F.sz]? = some ((F.enc (f (j / F.sz)))[j % F.sz]'(by rw [F.len]; exact hr)) := List.getElem?_eq_getElem _
    have hfl := F.flat_get (hget _ hq) hc'
    rw [hjd, hj] at hfl
    have hcell := hg _ _ hc'
    obtain ⟨ab, ao, az⟩ := a
    simp only at hsp
    subst hsp
    rw [add_none, add_none, cell_hc, Nat.add_assoc, hjd] at hcell
    simp only [sb, so, Gw]
    rw [hcell]; exact hfl.symm
  · have hi' : i < len := by simpa using hi
    have : gd ((List.range len).map f) i = f i := by simp [gd, hi']
    rw [this]; exact (hf i hi').2
end
def okSl {ρ : Type} [Inhabited ρ] (F : FT ρ) (ok : Gh → ρ → Prop) (G : Gh) (s : Sl ρ) : Prop := SL G F s.v s.xs ∧ ∀ i, i < s.xs.length → ok G (gd s.xs i)
theorem opnSl {P : Program} {t e : TypeId} {ρ : Type} [Inhabited ρ] {F : FT ρ} {ok : Gh → ρ → Prop} (ht : P.underlying t = some (.slice e)) (hE : Opn P e F ok) (hc : P.cellsOf e = F.sz) (h0 : 0 < F.sz) : Opn P t slT (okSl F ok) := fun h => by
  obtain ⟨v, rfl, xs, h1, h2⟩ := opnL ht hE hc h0 h
  exact ⟨⟨v, xs⟩, rfl, h1, h2⟩
section
variable {P : Program} {t e : TypeId} {H : Type} {enc : TypeId × Value → H} {W : World} {r : Reach} {base : Nat} {v : Value} {d : DataW H} {ps : List MemPlace}
theorem argI (ht : P.underlying t = some (.int .i64)) (hv : Value.okWide P W r base t v) (h : DataW.Trod enc P W 0 (fun _ => true) true t v d ps) : ∃ n, v = vi n ∧ okI (Gw W) n := by
  obtain ⟨n, rfl⟩ := okWide_int ht hv
  obtain ⟨fuel, hf⟩ := h
  obtain ⟨m, e1, hm⟩ := opnI ht hf
  simp [Value.cells, intT] at e1
  exact ⟨n, rfl, e1 ▸ hm⟩
theorem argT {ρ : Type} {F : FT ρ} {ok : Gh → ρ → Prop} {fs : Array Field} (ht : P.underlying t = some (.struct fs)) (hO : Opn P t F ok) (hv : Value.okWide P W r base t v) (h : DataW.Trod enc P W 0 (fun _ => true) true t v d ps) : ∃ a, v = vT F a ∧ ok (Gw W) a := by
  obtain ⟨cs, rfl, _⟩ := okWide_struct ht hv
  obtain ⟨fuel, hf⟩ := h
  obtain ⟨m, e1, hm⟩ := hO hf
  simp only [Value.cells] at e1
  exact ⟨m, by simp only [vT]; rw [← e1], hm⟩
theorem trodAll_stays (hl : laidOutB P = true) {W' : World} (hb : Below W.heap.size W W') : ∀ {ts : List TypeId} {vs : List Value} {ds : List (DataW H)} {ps : List MemPlace}, (∀ t ∈ ts, P.readableRec t = true ∧ t < P.types.size) → (∀ x ∈ ps, x.block < W.heap.size) →
    DataW.TrodAll enc P W 0 (fun _ => true) true ts vs ds ps → DataW.TrodAll enc P W' 0 (fun b => decide (b < W.heap.size)) true ts vs ds ps
  | [], [], [], _, _, _, h => h
  | t :: ts, v :: vs, d :: ds, ps, hr, hlt, h => by
    obtain ⟨p, q, h1, h2, rfl⟩ := h
    have := hr t (.head _)
    exact ⟨p, q, Below.trod hl this.1 this.2 h1 hb (fun x hx => hlt x (List.mem_append_left _ hx)), trodAll_stays hl hb (fun t ht => hr t (.tail _ ht)) (fun x hx => hlt x (List.mem_append_right _ hx)) h2, rfl⟩
end
def recsB (P : Program) (ts : List TypeId) : Bool := ts.all fun t => P.readableRec t && Nat.blt t P.types.size
theorem recs_of {P : Program} {ts : List TypeId} (h : recsB P ts = true) : ∀ t ∈ ts, P.readableRec t = true ∧ t < P.types.size := by
  intro t ht
  have := List.all_eq_true.1 h t ht
  simp only [Bool.and_eq_true] at this
  exact ⟨this.1, Nat.le_of_ble_eq_true this.2⟩
/-- A LAW, LIFTED: the call returns true, the arguments read as they did. -/
theorem law_lifted {H : Type} {enc : TypeId × Value → H} {C : Checked} {os : Os} {f : FuncId} {fn : Func} {s : ChangeSpec} {tb : TypeId} (own : ownKnob C.prog.godebug = none) (started : os.Started) (noInit : C.prog.inits.idxOf? f = none) (hfn : C.prog.funcs[f]? = some fn) (hl : laidOutB C.prog = true)
    (hvars : s.vars = []) (hr : recsB C.prog fn.params.toList = true) (hres : fn.resultTypes = #[tb]) (htb : C.prog.underlying tb = some .bool)
    (hsp : ∀ ds : List (DataW H), ds.length = fn.params.toList.length → s.fn H ds = { results := [.lit (.bool true)], args := ds })
    (witness : ∃ (w : World) (tape : Tape) (i : Input), w.os = os ∧ (w.forCall tape i).Shaped C.prog ∧ i.vars = [] ∧ Input.okWide C.prog (w.forCall tape i) .any w.heap.size f i ∧
      s.pre6 enc C.prog fn [] false (w.forCall tape i).memory i.args ∧ ({} : Assume).holds C.prog (lone (Frame.enter C.prog f i.args .normal) [] (w.forCall tape i)))
    (walk : ∀ (W : World) (base : Nat) (args : Array Value) (ds : List (DataW H)) (ps : List MemPlace), (∀ (j : Nat) t v, fn.params[j]? = some t → args[j]? = some v → Value.okWide C.prog W .any base t v) →
      DataW.TrodAll enc C.prog W 0 (fun _ => true) true fn.params.toList args.toList ds ps → CallT C.prog f args (Gw W) [] fun v G _ => v = .bool true ∧ Gh.le (Gw W) G) :
    ReturnsInHanded {} C os f .any (s.pre6 enc C.prog fn [] false) (s.post enc C.prog fn false true false false) := by
  refine returnsInHanded_of_change own started noInit hfn witness ?_
  intro W base args ds gs before hval hW _ _
  have hW' := hW
  obtain ⟨p, q, hA, hV, rfl, hfz, hnd⟩ := hW
  rw [hvars] at hV
  obtain ⟨rfl, rfl⟩ := trodVars_none hV
  refine ((walk W base args ds p hval hA).run (St.start W)).mono ?_
  rintro e W' ⟨v, G, L, rfl, hs, rfl, hG⟩
  have hb := hs.below hG
  have hlt : ∀ x ∈ p, x.block < W.heap.size := fun x hx => hW'.lt x (List.mem_append_left _ hx)
  have hlen : ds.length = fn.params.toList.length := by
    have : ∀ (ts : List TypeId) (vs : List Value) (ds : List (DataW H)) (ps : List MemPlace), DataW.TrodAll enc C.prog W 0 (fun _ => true) true ts vs ds ps → ds.length = ts.length := by
      intro ts
      induction ts with
      | nil => intro vs ds ps h; cases vs <;> cases ds <;> simp_all [DataW.TrodAll]
      | cons t ts ih =>
        intro vs ds ps h
        cases vs <;> cases ds <;> simp only [DataW.TrodAll] at h
        obtain ⟨_, _, _, h2, _⟩ := h
        simp [ih _ _ _ h2]
    exact this _ _ _ _ hA
  refine ⟨_, rfl, ds, [], _, [], p, [], hW', ?_, ?_, ?_, hb.frame _, fun h => by cases h⟩
  · rw [List.append_nil, hsp ds hlen, hres]
    exact trodAll_mk1 (shut_bool htb true)
  · rw [List.append_nil, hsp ds hlen]
    exact trodAll_stays hl hb (recs_of hr) hlt hA
  · rw [List.append_nil, hsp ds hlen, hvars]
    exact rfl
end Go.Proofs.YtbkaincaahcnfaaGreat
namespace Go.Proofs.YtbkaincaahcnfaaGreat
set_option linter.unusedVariables false
set_option linter.unusedSimpArgs false
open Go Go.ChangeShapes Go.WideShapes Go.ChangeAt Go.RowKit
set_option linter.unusedSimpArgs false
set_option maxRecDepth 100000
theorem Tryz.own : ownKnob Tryz.prog.godebug = none := by kernel_rfl
theorem Tryz.laidOut : laidOutB Tryz.prog = true := by kernel_rfl
def okrectT (G : Gh) (a : Rect) : Prop := okI G a.x0 ∧ okI G a.y0 ∧ okI G a.x1 ∧ okI G a.y1
theorem opn221 : Opn Tryz.prog 221 rectT okrectT := fun {H enc w fuel cs x} h => by
  obtain ⟨xs, n, _, _, hl, hx, hf⟩ := DataW.trod_struct Tryz.underlying221 h
  rw [show Tryz.prog.cellsOf 221 = 4 by kernel_rfl] at hl
  obtain ⟨c0, c1, c2, c3, rfl⟩ : ∃ c0 c1 c2 c3, cs = [c0, c1, c2, c3] := by
    match cs, hl with
    | [c0, c1, c2, c3], _ => exact ⟨c0, c1, c2, c3, rfl⟩
  have g0 := hf 0 _ rfl
  simp only [List.getElem_toArray, List.getElem_cons_zero, List.getElem_cons_succ] at g0
  rw [show Tryz.prog.cellsOf 2 = 1 by kernel_rfl] at g0
  obtain ⟨x0, y0⟩ : ∃ x, xs[0]? = some x := ⟨_, List.getElem?_eq_getElem (by rw [hx]; decide)⟩
  rw [y0] at g0
  obtain ⟨a0, e0, o0⟩ := (opnI Tryz.underlying2) g0
  have g1 := hf 1 _ rfl
  simp only [List.getElem_toArray, List.getElem_cons_zero, List.getElem_cons_succ] at g1
  rw [show Tryz.prog.cellsOf 2 = 1 by kernel_rfl] at g1
  obtain ⟨x1, y1⟩ : ∃ x, xs[1]? = some x := ⟨_, List.getElem?_eq_getElem (by rw [hx]; decide)⟩
  rw [y1] at g1
  obtain ⟨a1, e1, o1⟩ := (opnI Tryz.underlying2) g1
  have g2 := hf 2 _ rfl
  simp only [List.getElem_toArray, List.getElem_cons_zero, List.getElem_cons_succ] at g2
  rw [show Tryz.prog.cellsOf 2 = 1 by kernel_rfl] at g2
  obtain ⟨x2, y2⟩ : ∃ x, xs[2]? = some x := ⟨_, List.getElem?_eq_getElem (by rw [hx]; decide)⟩
  rw [y2] at g2
  obtain ⟨a2, e2, o2⟩ := (opnI Tryz.underlying2) g2
  have g3 := hf 3 _ rfl
  simp only [List.getElem_toArray, List.getElem_cons_zero, List.getElem_cons_succ] at g3
  rw [show Tryz.prog.cellsOf 2 = 1 by kernel_rfl] at g3
  obtain ⟨x3, y3⟩ : ∃ x, xs[3]? = some x := ⟨_, List.getElem?_eq_getElem (by rw [hx]; decide)⟩
  rw [y3] at g3
  obtain ⟨a3, e3, o3⟩ := (opnI Tryz.underlying2) g3
  clear hf hx hl
  refine ⟨⟨a0, a1, a2, a3⟩, ?_, o0, o1, o2, o3⟩
  simp [intT] at e0 e1 e2 e3
  simp [intT, rectT, e0, e1, e2, e3]
def okshapeT (G : Gh) (a : Shape) : Prop := okI G a.layer ∧ okrectT G a.box
theorem opn223 : Opn Tryz.prog 223 shapeT okshapeT := fun {H enc w fuel cs x} h => by
  obtain ⟨xs, n, _, _, hl, hx, hf⟩ := DataW.trod_struct Tryz.underlying223 h
  rw [show Tryz.prog.cellsOf 223 = 5 by kernel_rfl] at hl
  obtain ⟨c0, c1, c2, c3, c4, rfl⟩ : ∃ c0 c1 c2 c3 c4, cs = [c0, c1, c2, c3, c4] := by
    match cs, hl with
    | [c0, c1, c2, c3, c4], _ => exact ⟨c0, c1, c2, c3, c4, rfl⟩
  have g0 := hf 0 _ rfl
  simp only [List.getElem_toArray, List.getElem_cons_zero, List.getElem_cons_succ] at g0
  rw [show Tryz.prog.cellsOf 2 = 1 by kernel_rfl] at g0
  obtain ⟨x0, y0⟩ : ∃ x, xs[0]? = some x := ⟨_, List.getElem?_eq_getElem (by rw [hx]; decide)⟩
  rw [y0] at g0
  obtain ⟨a0, e0, o0⟩ := (opnI Tryz.underlying2) g0
  have g1 := hf 1 _ rfl
  simp only [List.getElem_toArray, List.getElem_cons_zero, List.getElem_cons_succ] at g1
  rw [show Tryz.prog.cellsOf 221 = 4 by kernel_rfl] at g1
  obtain ⟨x1, y1⟩ : ∃ x, xs[1]? = some x := ⟨_, List.getElem?_eq_getElem (by rw [hx]; decide)⟩
  rw [y1] at g1
  obtain ⟨a1, e1, o1⟩ := opn221 g1
  clear hf hx hl
  refine ⟨⟨a0, a1⟩, ?_, o0, o1⟩
  simp [intT, rectT] at e0 e1
  simp [intT, rectT, shapeT, e0, e1]
def okptT (G : Gh) (a : Pt) : Prop := okI G a.x ∧ okI G a.y
theorem opn216 : Opn Tryz.prog 216 ptT okptT := fun {H enc w fuel cs x} h => by
  obtain ⟨xs, n, _, _, hl, hx, hf⟩ := DataW.trod_struct Tryz.underlying216 h
  rw [show Tryz.prog.cellsOf 216 = 2 by kernel_rfl] at hl
  obtain ⟨c0, c1, rfl⟩ : ∃ c0 c1, cs = [c0, c1] := by
    match cs, hl with
    | [c0, c1], _ => exact ⟨c0, c1, rfl⟩
  have g0 := hf 0 _ rfl
  simp only [List.getElem_toArray, List.getElem_cons_zero, List.getElem_cons_succ] at g0
  rw [show Tryz.prog.cellsOf 2 = 1 by kernel_rfl] at g0
  obtain ⟨x0, y0⟩ : ∃ x, xs[0]? = some x := ⟨_, List.getElem?_eq_getElem (by rw [hx]; decide)⟩
  rw [y0] at g0
  obtain ⟨a0, e0, o0⟩ := (opnI Tryz.underlying2) g0
  have g1 := hf 1 _ rfl
  simp only [List.getElem_toArray, List.getElem_cons_zero, List.getElem_cons_succ] at g1
  rw [show Tryz.prog.cellsOf 2 = 1 by kernel_rfl] at g1
  obtain ⟨x1, y1⟩ : ∃ x, xs[1]? = some x := ⟨_, List.getElem?_eq_getElem (by rw [hx]; decide)⟩
  rw [y1] at g1
  obtain ⟨a1, e1, o1⟩ := (opnI Tryz.underlying2) g1
  clear hf hx hl
  refine ⟨⟨a0, a1⟩, ?_, o0, o1⟩
  simp [intT] at e0 e1
  simp [intT, ptT, e0, e1]
def oklabelT (G : Gh) (a : Label) : Prop := okI G a.layer ∧ okptT G a.at_ ∧ okS G a.name
theorem opn218 : Opn Tryz.prog 218 labelT oklabelT := fun {H enc w fuel cs x} h => by
  obtain ⟨xs, n, _, _, hl, hx, hf⟩ := DataW.trod_struct Tryz.underlying218 h
  rw [show Tryz.prog.cellsOf 218 = 4 by kernel_rfl] at hl
  obtain ⟨c0, c1, c2, c3, rfl⟩ : ∃ c0 c1 c2 c3, cs = [c0, c1, c2, c3] := by
    match cs, hl with
    | [c0, c1, c2, c3], _ => exact ⟨c0, c1, c2, c3, rfl⟩
  have g0 := hf 0 _ rfl
  simp only [List.getElem_toArray, List.getElem_cons_zero, List.getElem_cons_succ] at g0
  rw [show Tryz.prog.cellsOf 2 = 1 by kernel_rfl] at g0
  obtain ⟨x0, y0⟩ : ∃ x, xs[0]? = some x := ⟨_, List.getElem?_eq_getElem (by rw [hx]; decide)⟩
  rw [y0] at g0
  obtain ⟨a0, e0, o0⟩ := (opnI Tryz.underlying2) g0
  have g1 := hf 1 _ rfl
  simp only [List.getElem_toArray, List.getElem_cons_zero, List.getElem_cons_succ] at g1
  rw [show Tryz.prog.cellsOf 216 = 2 by kernel_rfl] at g1
  obtain ⟨x1, y1⟩ : ∃ x, xs[1]? = some x := ⟨_, List.getElem?_eq_getElem (by rw [hx]; decide)⟩
  rw [y1] at g1
  obtain ⟨a1, e1, o1⟩ := opn216 g1
  have g2 := hf 2 _ rfl
  simp only [List.getElem_toArray, List.getElem_cons_zero, List.getElem_cons_succ] at g2
  rw [show Tryz.prog.cellsOf 9 = 1 by kernel_rfl] at g2
  obtain ⟨x2, y2⟩ : ∃ x, xs[2]? = some x := ⟨_, List.getElem?_eq_getElem (by rw [hx]; decide)⟩
  rw [y2] at g2
  obtain ⟨a2, e2, o2⟩ := (opnS Tryz.underlying9) g2
  clear hf hx hl
  refine ⟨⟨a0, a1, a2⟩, ?_, o0, o1, o2⟩
  simp [intT, ptT, strT] at e0 e1 e2
  simp [intT, labelT, ptT, strT, e0, e1, e2]
def oktransT (G : Gh) (a : Trans) : Prop := okI G a.o ∧ okI G a.x ∧ okI G a.y
theorem opn226 : Opn Tryz.prog 226 transT oktransT := fun {H enc w fuel cs x} h => by
  obtain ⟨xs, n, _, _, hl, hx, hf⟩ := DataW.trod_struct Tryz.underlying226 h
  rw [show Tryz.prog.cellsOf 226 = 3 by kernel_rfl] at hl
  obtain ⟨c0, c1, c2, rfl⟩ : ∃ c0 c1 c2, cs = [c0, c1, c2] := by
    match cs, hl with
    | [c0, c1, c2], _ => exact ⟨c0, c1, c2, rfl⟩
  have g0 := hf 0 _ rfl
  simp only [List.getElem_toArray, List.getElem_cons_zero, List.getElem_cons_succ] at g0
  rw [show Tryz.prog.cellsOf 2 = 1 by kernel_rfl] at g0
  obtain ⟨x0, y0⟩ : ∃ x, xs[0]? = some x := ⟨_, List.getElem?_eq_getElem (by rw [hx]; decide)⟩
  rw [y0] at g0
  obtain ⟨a0, e0, o0⟩ := (opnI Tryz.underlying2) g0
  have g1 := hf 1 _ rfl
  simp only [List.getElem_toArray, List.getElem_cons_zero, List.getElem_cons_succ] at g1
  rw [show Tryz.prog.cellsOf 2 = 1 by kernel_rfl] at g1
  obtain ⟨x1, y1⟩ : ∃ x, xs[1]? = some x := ⟨_, List.getElem?_eq_getElem (by rw [hx]; decide)⟩
  rw [y1] at g1
  obtain ⟨a1, e1, o1⟩ := (opnI Tryz.underlying2) g1
  have g2 := hf 2 _ rfl
  simp only [List.getElem_toArray, List.getElem_cons_zero, List.getElem_cons_succ] at g2
  rw [show Tryz.prog.cellsOf 2 = 1 by kernel_rfl] at g2
  obtain ⟨x2, y2⟩ : ∃ x, xs[2]? = some x := ⟨_, List.getElem?_eq_getElem (by rw [hx]; decide)⟩
  rw [y2] at g2
  obtain ⟨a2, e2, o2⟩ := (opnI Tryz.underlying2) g2
  clear hf hx hl
  refine ⟨⟨a0, a1, a2⟩, ?_, o0, o1, o2⟩
  simp [intT] at e0 e1 e2
  simp [intT, transT, e0, e1, e2]
def okinstT (G : Gh) (a : Inst) : Prop := okI G a.cell ∧ oktransT G a.place ∧ okI G a.cols ∧ okI G a.rows ∧ okI G a.sx ∧ okI G a.sy
theorem opn228 : Opn Tryz.prog 228 instT okinstT := fun {H enc w fuel cs x} h => by
  obtain ⟨xs, n, _, _, hl, hx, hf⟩ := DataW.trod_struct Tryz.underlying228 h
  rw [show Tryz.prog.cellsOf 228 = 8 by kernel_rfl] at hl
  obtain ⟨c0, c1, c2, c3, c4, c5, c6, c7, rfl⟩ : ∃ c0 c1 c2 c3 c4 c5 c6 c7, cs = [c0, c1, c2, c3, c4, c5, c6, c7] := by
    match cs, hl with
    | [c0, c1, c2, c3, c4, c5, c6, c7], _ => exact ⟨c0, c1, c2, c3, c4, c5, c6, c7, rfl⟩
  have g0 := hf 0 _ rfl
  simp only [List.getElem_toArray, List.getElem_cons_zero, List.getElem_cons_succ] at g0
  rw [show Tryz.prog.cellsOf 2 = 1 by kernel_rfl] at g0
  obtain ⟨x0, y0⟩ : ∃ x, xs[0]? = some x := ⟨_, List.getElem?_eq_getElem (by rw [hx]; decide)⟩
  rw [y0] at g0
  obtain ⟨a0, e0, o0⟩ := (opnI Tryz.underlying2) g0
  have g1 := hf 1 _ rfl
  simp only [List.getElem_toArray, List.getElem_cons_zero, List.getElem_cons_succ] at g1
  rw [show Tryz.prog.cellsOf 226 = 3 by kernel_rfl] at g1
  obtain ⟨x1, y1⟩ : ∃ x, xs[1]? = some x := ⟨_, List.getElem?_eq_getElem (by rw [hx]; decide)⟩
  rw [y1] at g1
  obtain ⟨a1, e1, o1⟩ := opn226 g1
  have g2 := hf 2 _ rfl
  simp only [List.getElem_toArray, List.getElem_cons_zero, List.getElem_cons_succ] at g2
  rw [show Tryz.prog.cellsOf 2 = 1 by kernel_rfl] at g2
  obtain ⟨x2, y2⟩ : ∃ x, xs[2]? = some x := ⟨_, List.getElem?_eq_getElem (by rw [hx]; decide)⟩
  rw [y2] at g2
  obtain ⟨a2, e2, o2⟩ := (opnI Tryz.underlying2) g2
  have g3 := hf 3 _ rfl
  simp only [List.getElem_toArray, List.getElem_cons_zero, List.getElem_cons_succ] at g3
  rw [show Tryz.prog.cellsOf 2 = 1 by kernel_rfl] at g3
  obtain ⟨x3, y3⟩ : ∃ x, xs[3]? = some x := ⟨_, List.getElem?_eq_getElem (by rw [hx]; decide)⟩
  rw [y3] at g3
  obtain ⟨a3, e3, o3⟩ := (opnI Tryz.underlying2) g3
  have g4 := hf 4 _ rfl
  simp only [List.getElem_toArray, List.getElem_cons_zero, List.getElem_cons_succ] at g4
  rw [show Tryz.prog.cellsOf 2 = 1 by kernel_rfl] at g4
  obtain ⟨x4, y4⟩ : ∃ x, xs[4]? = some x := ⟨_, List.getElem?_eq_getElem (by rw [hx]; decide)⟩
  rw [y4] at g4
  obtain ⟨a4, e4, o4⟩ := (opnI Tryz.underlying2) g4
  have g5 := hf 5 _ rfl
  simp only [List.getElem_toArray, List.getElem_cons_zero, List.getElem_cons_succ] at g5
  rw [show Tryz.prog.cellsOf 2 = 1 by kernel_rfl] at g5
  obtain ⟨x5, y5⟩ : ∃ x, xs[5]? = some x := ⟨_, List.getElem?_eq_getElem (by rw [hx]; decide)⟩
  rw [y5] at g5
  obtain ⟨a5, e5, o5⟩ := (opnI Tryz.underlying2) g5
  clear hf hx hl
  refine ⟨⟨a0, a1, a2, a3, a4, a5⟩, ?_, o0, o1, o2, o3, o4, o5⟩
  simp [intT, transT] at e0 e1 e2 e3 e4 e5
  simp [instT, intT, transT, e0, e1, e2, e3, e4, e5]
def okcellT (G : Gh) (a : Cell) : Prop := okS G a.name ∧ (okSl shapeT okshapeT) G a.shapes ∧ (okSl labelT oklabelT) G a.labels ∧ (okSl instT okinstT) G a.insts
theorem opn122 : Opn Tryz.prog 122 cellT okcellT := fun {H enc w fuel cs x} h => by
  obtain ⟨xs, n, _, _, hl, hx, hf⟩ := DataW.trod_struct Tryz.underlying122 h
  rw [show Tryz.prog.cellsOf 122 = 4 by kernel_rfl] at hl
  obtain ⟨c0, c1, c2, c3, rfl⟩ : ∃ c0 c1 c2 c3, cs = [c0, c1, c2, c3] := by
    match cs, hl with
    | [c0, c1, c2, c3], _ => exact ⟨c0, c1, c2, c3, rfl⟩
  have g0 := hf 0 _ rfl
  simp only [List.getElem_toArray, List.getElem_cons_zero, List.getElem_cons_succ] at g0
  rw [show Tryz.prog.cellsOf 9 = 1 by kernel_rfl] at g0
  obtain ⟨x0, y0⟩ : ∃ x, xs[0]? = some x := ⟨_, List.getElem?_eq_getElem (by rw [hx]; decide)⟩
  rw [y0] at g0
  obtain ⟨a0, e0, o0⟩ := (opnS Tryz.underlying9) g0
  have g1 := hf 1 _ rfl
  simp only [List.getElem_toArray, List.getElem_cons_zero, List.getElem_cons_succ] at g1
  rw [show Tryz.prog.cellsOf 118 = 1 by kernel_rfl] at g1
  obtain ⟨x1, y1⟩ : ∃ x, xs[1]? = some x := ⟨_, List.getElem?_eq_getElem (by rw [hx]; decide)⟩
  rw [y1] at g1
  obtain ⟨a1, e1, o1⟩ := (opnSl Tryz.underlying118 opn223 (by kernel_rfl) (by decide)) g1
  have g2 := hf 2 _ rfl
  simp only [List.getElem_toArray, List.getElem_cons_zero, List.getElem_cons_succ] at g2
  rw [show Tryz.prog.cellsOf 119 = 1 by kernel_rfl] at g2
  obtain ⟨x2, y2⟩ : ∃ x, xs[2]? = some x := ⟨_, List.getElem?_eq_getElem (by rw [hx]; decide)⟩
  rw [y2] at g2
  obtain ⟨a2, e2, o2⟩ := (opnSl Tryz.underlying119 opn218 (by kernel_rfl) (by decide)) g2
  have g3 := hf 3 _ rfl
  simp only [List.getElem_toArray, List.getElem_cons_zero, List.getElem_cons_succ] at g3
  rw [show Tryz.prog.cellsOf 120 = 1 by kernel_rfl] at g3
  obtain ⟨x3, y3⟩ : ∃ x, xs[3]? = some x := ⟨_, List.getElem?_eq_getElem (by rw [hx]; decide)⟩
  rw [y3] at g3
  obtain ⟨a3, e3, o3⟩ := (opnSl Tryz.underlying120 opn228 (by kernel_rfl) (by decide)) g3
  clear hf hx hl
  refine ⟨⟨a0, a1, a2, a3⟩, ?_, o0, o1, o2, o3⟩
  simp [slT, strT] at e0 e1 e2 e3
  simp [cellT, slT, strT, e0, e1, e2, e3]
def oklibT (G : Gh) (a : Lib) : Prop := (okSl cellT okcellT) G a.cells
theorem opn24 : Opn Tryz.prog 24 libT oklibT := fun {H enc w fuel cs x} h => by
  obtain ⟨xs, n, _, _, hl, hx, hf⟩ := DataW.trod_struct Tryz.underlying24 h
  rw [show Tryz.prog.cellsOf 24 = 1 by kernel_rfl] at hl
  obtain ⟨c0, rfl⟩ : ∃ c0, cs = [c0] := by
    match cs, hl with
    | [c0], _ => exact ⟨c0, rfl⟩
  have g0 := hf 0 _ rfl
  simp only [List.getElem_toArray, List.getElem_cons_zero, List.getElem_cons_succ] at g0
  rw [show Tryz.prog.cellsOf 22 = 1 by kernel_rfl] at g0
  obtain ⟨x0, y0⟩ : ∃ x, xs[0]? = some x := ⟨_, List.getElem?_eq_getElem (by rw [hx]; decide)⟩
  rw [y0] at g0
  obtain ⟨a0, e0, o0⟩ := (opnSl Tryz.underlying22 opn122 (by kernel_rfl) (by decide)) g0
  clear hf hx hl
  refine ⟨⟨a0⟩, ?_, o0⟩
  simp [slT] at e0
  simp [libT, slT, e0]
theorem okLib_rl {G : Gh} {L : List Ch} {l : Lib} (h : oklibT G l) : RLib G L l.cells.v l.cells.xs :=
  ⟨Rs.g h.1, fun i hi => by
    have hi' : i < l.cells.xs.length := by simpa [shs] using hi
    rw [shs, gd_map _ hi']; exact Rs.g (h.2 i hi').2.1.1, fun i hi => by
    have hi' : i < l.cells.xs.length := by simpa [lbs] using hi
    rw [lbs, gd_map _ hi']; exact Rs.g (h.2 i hi').2.2.1.1, fun i hi => by
    have hi' : i < l.cells.xs.length := by simpa [ins] using hi
    rw [ins, gd_map _ hi']; exact Rs.g (h.2 i hi').2.2.2.1⟩
theorem okLib_len2 {G : Gh} {l : Lib} (h : oklibT G l) : lenC (erCls l.cells.xs) := fun i hi => by
  rw [erCls_len] at hi
  rw [erCls_gd hi]
  exact ⟨(h.2 i hi).1, fun j hj => ((h.2 i hi).2.2.1.2 j hj).2.2⟩
theorem crossingCells_lifted (os : Os) (started : os.Started) (H : Type) (enc : TypeId × Value → H) :
    ReturnsInHanded {} Tryz.checked os 9 .any (Rows.fnExactCrossingCellsSpec.pre6 enc Tryz.prog Tryz.f9 [] false) (Rows.fnExactCrossingCellsSpec.post enc Tryz.prog Tryz.f9 false true false false) := by
  refine law_lifted (C := Tryz.checked) Tryz.own started (by kernel_rfl) Tryz.func9 Tryz.laidOut rfl (by kernel_rfl) rfl Tryz.underlying4 (fun ds h => ?_)
    (ChangeSpec.witness6 (enc := enc) (C := Tryz.checked) false ⟨#[], #[.agg #[.slice none 0 0], .int .i64 0], []⟩ 8 (by kernel_rfl) (by kernel_rfl) (by kernel_rfl) (by kernel_rfl)) ?_
  · match ds, h with
    | [d, e], _ => rfl
  · intro W base args ds ps hval hA
    have hA : DataW.TrodAll enc Tryz.prog W 0 (fun _ => true) true Tryz.f9.params.toList args.toList ds ps := hA
    have hval : ∀ (j : Nat) t v, Tryz.f9.params[j]? = some t → args[j]? = some v → Value.okWide Tryz.prog W .any base t v := hval
    rw [Tryz.params9] at hA hval
    obtain ⟨v0, v1, d0, d1, p0, p1, rfl, rfl, _, h0, h1⟩ := trodAll_two hA
    obtain ⟨l, rfl, q1⟩ := argT Tryz.underlying24 opn24 (hval 0 _ v0 rfl rfl) h0
    obtain ⟨n1, rfl, _⟩ := argI Tryz.underlying2 (hval 1 _ v1 rfl rfl) h1
    exact law_CrossingCells (okLib_rl q1) (okLib_len2 q1) ⟨rfl, Gh.le_refl _⟩
theorem crossingCells_holds : Rows.FnExactCrossingCellsSaid :=
  OpenClaim.holds_of_wide 9 Tryz.f9 rfl rfl rfl rfl rfl rfl rfl ⟨rfl, rfl, rfl, rfl, rfl⟩ rfl rfl rfl rfl rfl (by kernel_rfl) Tryz.func9 (by kernel_rfl)
    (of_decide_eq_true (by kernel_rfl)) (by unfold Func.isWrapper; first | (rw [if_pos (by decide +kernel)]; kernel_rfl) | (rw [if_neg (by decide +kernel)]; exact ⟨rfl, rfl⟩))
    (fun os started H enc _ => crossingCells_lifted os started H enc)
end Go.Proofs.YtbkaincaahcnfaaGreat
