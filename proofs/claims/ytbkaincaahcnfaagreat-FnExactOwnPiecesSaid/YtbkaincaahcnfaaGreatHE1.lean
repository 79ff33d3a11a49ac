/-
  The law FnExactOwnPieces: whatever the library and the number, the law returns true and all read as before.
-/
import Derived.Test.YtbkaincaahcnfaaGreatCB7
import Derived.Test.YtbkaincaahcnfaaGreatRows
import Derived.Carry
namespace Go.Proofs.YtbkaincaahcnfaaGreat
set_option linter.unusedVariables false
set_option linter.unusedSimpArgs false
open Go
set_option maxRecDepth 20000
set_option maxHeartbeats 1000000
set_option linter.unusedSimpArgs false
variable {G : Gh} {L : List Ch} {R : Value → Gh → List Ch → Prop}
def eLay (cs : List ECell) (cell n : Int) : List (List Rect) := bif decide (elE cs cell n = 0) then layL (selL cs (occR cs cell) [n] true) else []
theorem eLay_no {cs : List ECell} {cell n : Int} (h : elE cs cell n ≠ 0) : eLay cs cell n = [] := by rw [eLay, decide_eq_false h]; rfl
theorem eLay_ok {cs : List ECell} {cell n : Int} (h : elE cs cell n = 0) : eLay cs cell n = layL (selL cs (occR cs cell) [n] true) := by rw [eLay, decide_eq_true h]; rfl
theorem elE_else {cs : List ECell} {cell n : Int} (h1 : (decide (shE cs cell = 0) && !within n 0 ((elN cs cell : Int) - 1)) = false) : shE cs cell = elE cs cell n := by
  rw [elE]
  by_cases c : shE cs cell = 0
  · rw [decide_eq_true c, cond_true, c]
    rw [decide_eq_true c, Bool.true_and, Bool.not_eq_false'] at h1
    rw [h1]; rfl
  · rw [decide_eq_false c]; rfl
theorem elem1_s {r n : Int} {b : Nat} (hb : Rd G L b 0 (vi n)) (k : R (.bool (decide (r = n))) G L) : CallT Tryz.prog 61 #[vi r, .pointer (some ⟨b, 0, none⟩)] G L R := by
  refine CallT.enter (args := _) Tryz.func61 rfl rfl (by kernel_rfl) rfl ?_
  refine WP.seq ?_
  refine WP.region ?_
  refine RG.pv rfl (PV.mvB (.inr rfl) rfl) ?_
  refine RG.nil ?_
  refine WP.seq ?_
  refine WP.region ?_
  refine RG.pv rfl (PV.mvI (.inl rfl) rfl) ?_
  refine RG.pv rfl (PV.load1 rfl Sc2 rfl (Rd.up hb)) ?_
  refine RG.pv rfl (PV.eql rfl rfl rfl) ?_
  refine RG.pv rfl (PV.mvB (.inr rfl) rfl) ?_
  refine RG.nil ?_
  refine WP.ret ?_
  exact ⟨_, _, ResV.one rfl rfl, Cv.p, k⟩
theorem rootR_ok {cs : List ECell} {cell : Int} (h : shE cs cell = 0) : rootR cs cell = rootL cs (occR cs cell) := by rw [rootR, decide_eq_true h]; rfl
theorem eLay_i {l : Lib} {cell n : Int} (hL : RLib G L l.cells.v l.cells.xs) (hlen : lenC (erCls l.cells.xs)) (k : ∀ v' ys, er ys = eLay (erCls l.cells.xs) cell n → R (.tuple #[v', vi (elE (erCls l.cells.xs) cell n)]) G (osl 59 slT v' ys :: bagS 116 rectT ys :: L)) : CallT Tryz.prog 22 #[vT libT l, vi cell, vi n] G L R := by
  refine CallT.enter (args := _) Tryz.func22 rfl rfl (by kernel_rfl) rfl ?_
  refine WP.seq ?_
  refine WP.region ?_
  refine RG.ot rfl (OT.box (cs := libT.enc l) rfl rfl rfl fun b3 => ?_)
  refine RG.ot rfl (OT.box (cs := [vi n]) rfl rfl rfl fun b5 => ?_)
  refine RG.pv rfl (PV.asg rfl rfl) ?_
  refine RG.pv rfl (PV.mvI (.inr rfl) rfl) ?_
  refine RG.nil ?_
  refine WP.seq ?_
  refine WP.region ?_
  refine RG.pv rfl (PV.loadW rfl Ag30 rfl rfl) ?_
  refine RG.pv rfl (PV.mvI (.inl rfl) rfl) ?_
  refine RG.callF (vs := [_, _]) rfl rfl En49 rfl (rooted_i hL.up hlen (fun w13 => ?_))
  refine RG.pv rfl (PV.move (v := .tuple _) rfl rfl) ?_
  refine RG.pv rfl (PV.ext (v := w13) rfl rfl rfl) ?_
  refine RG.pv rfl (PV.ext rfl rfl rfl) ?_
  refine RG.pv rfl (PV.asg (v := w13) rfl rfl) ?_
  refine RG.pv rfl (PV.mvI (.inr rfl) rfl) ?_
  refine RG.nil ?_
  refine WP.cut1 [5, 8] (fun (q : Int) => q = elE (erCls l.cells.xs) cell n) (fun (q : Int) => [(9, vi q)]) (fun (q : Int) => blk b3 30 (libT.enc l) :: blk b5 2 [vi n] :: osl 139 rshapeT w13 (rootR (erCls l.cells.xs) cell) :: L) ?_ ?_
  refine WP.seq ?_
  refine WP.region ?_
  refine RG.pv rfl (PV.mvI (.inl rfl) rfl) ?_
  refine RG.pv rfl (PV.eql rfl rfl rfl) ?_
  refine RG.pv rfl (PV.mvB (.inl rfl) rfl) ?_
  refine RG.gs rfl rfl rfl (fun hp => (PV.loadW rfl Ag30 rfl rfl)) ?_
  refine RG.gs rfl rfl rfl (fun hp => (PV.mvI (.inl rfl) rfl)) ?_
  refine RG.gs rfl rfl rfl (fun hp => (PV.load1 rfl Sc2 rfl (Rd.blk rfl))) ?_
  refine RG.gsC rfl rfl rfl rfl En50 (fun hp => ⟨_, (acons (gs_t hp) (acons (gs_t hp) (acons (gs_t hp) anil))), hasEl_i hL.up (shE_lib (by simpa using hp)) ⟨rfl, rfl, rfl⟩⟩) ?_
  refine RG.gs rfl rfl rfl (fun hp => (PV.not rfl (gs_t hp))) ?_
  refine RG.pv rfl (PV.pickA rfl rfl (fun hq => gs_t (geqT hq)) rfl) ?_
  refine RG.nil ?_
  refine WP.cond rfl (fun h1 => ?_) (fun h1 => ?_)
  · have h1 : shE (erCls l.cells.xs) cell = 0 ∧ within n 0 ((elN (erCls l.cells.xs) cell : Int) - 1) = false := by simpa using h1
    refine WP.region ?_
    refine RG.pv rfl (PV.mvI (.inr rfl) rfl) ?_
    refine RG.nil ?_
    exact ⟨rfl, 5, (by rw [elE, decide_eq_true h1.1, h1.2]; rfl), ⟨rfl, trivial⟩, ⟨rfl, rfl, trivial⟩, Cv.p⟩
  · refine WP.skip ?_
    exact ⟨rfl, (shE (erCls l.cells.xs) cell), (elE_else h1), ⟨rfl, trivial⟩, ⟨rfl, rfl, trivial⟩, Cv.p⟩
  rintro q τ0 hq
  subst hq
  refine WP.seq ?_
  refine WP.seq ?_
  refine WP.region ?_
  refine RG.pv rfl (PV.mvI (.inl rfl) rfl) ?_
  refine RG.pv rfl (PV.neq rfl rfl rfl) ?_
  refine RG.nil ?_
  refine WP.cond rfl (fun h2 => ?_) (fun h2 => ?_)
  · have h2 : elE (erCls l.cells.xs) cell n ≠ 0 := by simpa using h2
    refine WP.seq ?_
    refine WP.region ?_
    refine RG.pv rfl (PV.mvI (.inl rfl) rfl) ?_
    refine RG.pv rfl (PV.asg rfl rfl) ?_
    refine RG.pv rfl (PV.mvI (.inr rfl) rfl) ?_
    refine RG.nil ?_
    refine WP.ret ?_
    exact ⟨_, _, ResV.two rfl rfl rfl, Cv.nilSS, k _ [] (by rw [eLay_no h2]; rfl)⟩
  · have h2 : elE (erCls l.cells.xs) cell n = 0 := by simpa using h2
    have ha := elE_at h2
    have hpk : pickR (rootR (erCls l.cells.xs) cell) (fun r => decide (r = n)) = selL (erCls l.cells.xs) (occR (erCls l.cells.xs) cell) [n] true := by
      rw [rootR_ok ha.hz]
      exact pick_sel (fun o _ => by rw [root_one ha.hn.1]; cases selS [n] o <;> rfl)
    rw [h2] at k
    refine WP.skip ?_
    refine WP.seq ?_
    refine WP.region ?_
    refine RG.pv rfl (PV.move (v := w13) rfl rfl) ?_
    refine RG.pv rfl (PV.mkf1 rfl rfl) ?_
    refine RG.callF (vs := [w13, _]) rfl rfl En60 rfl (chosen_i (rs := rootR (erCls l.cells.xs) cell) (f := fun r => decide (r = n)) Rs.o (rootR_len _ _) (fun r => CB.mk1 En61 fun L' R c k => elem1_s (Rd.cv (Rd.blk rfl) c) k) (fun w8 ys he => ?_))
    refine RG.pv rfl (PV.asg rfl rfl) ?_
    refine RG.pv rfl (PV.mvI (.inr rfl) rfl) ?_
    refine RG.nil ?_
    refine WP.ret ?_
    exact ⟨_, _, ResV.two rfl rfl rfl, Cv.p, k w8 ys (by rw [he, hpk, eLay_ok h2])⟩
theorem eLay_r {l : Lib} {cell n : Int} (hL : RLib G L l.cells.v l.cells.xs) (hlen : lenC (erCls l.cells.xs)) (k : ∀ v' ys, er ys = eLay (erCls l.cells.xs) cell n → R (.tuple #[v', vi (elE (erCls l.cells.xs) cell n)]) G (osl 59 slT v' ys :: bagS 116 rectT ys :: L)) : CallT Tryz.prog 21 #[vT libT l, vi cell, vi n] G L R := by
  refine CallT.enter (args := _) Tryz.func21 rfl rfl (by kernel_rfl) rfl ?_
  refine WP.seq ?_
  refine WP.region ?_
  refine RG.ot rfl (OT.box (cs := libT.enc l) rfl rfl rfl fun b3 => ?_)
  refine RG.pv rfl (PV.asg rfl rfl) ?_
  refine RG.pv rfl (PV.mvI (.inr rfl) rfl) ?_
  refine RG.nil ?_
  refine WP.seq ?_
  refine WP.region ?_
  refine RG.pv rfl (PV.loadW rfl Ag30 rfl rfl) ?_
  refine RG.pv rfl (PV.mvI (.inl rfl) rfl) ?_
  refine RG.pv rfl (PV.mvI (.inl rfl) rfl) ?_
  refine RG.callF (vs := [_, _, _]) rfl rfl En45 rfl (l21Code_s hL.up hlen ?_)
  refine RG.pv rfl (PV.mvI (.inr rfl) rfl) ?_
  refine RG.nil ?_
  refine WP.seq ?_
  refine WP.seq ?_
  refine WP.region ?_
  refine RG.pv rfl (PV.mvI (.inl rfl) rfl) ?_
  refine RG.pv rfl (PV.neq rfl rfl rfl) ?_
  refine RG.nil ?_
  refine WP.cond rfl (fun h1 => ?_) (fun h1 => ?_)
  · have h1 : elE (erCls l.cells.xs) cell n ≠ 0 := by simpa using h1
    refine WP.seq ?_
    refine WP.region ?_
    refine RG.pv rfl (PV.mvI (.inl rfl) rfl) ?_
    refine RG.pv rfl (PV.asg rfl rfl) ?_
    refine RG.pv rfl (PV.mvI (.inr rfl) rfl) ?_
    refine RG.nil ?_
    refine WP.ret ?_
    exact ⟨_, _, ResV.two rfl rfl rfl, Cv.nilSS, k _ [] (by rw [eLay_no h1]; rfl)⟩
  · have h1 : elE (erCls l.cells.xs) cell n = 0 := by simpa using h1
    have e0 := eLay_ok h1
    rw [h1] at k
    refine WP.skip ?_
    refine WP.seq ?_
    refine WP.region ?_
    refine RG.pv rfl (PV.loadW rfl Ag30 rfl rfl) ?_
    refine RG.pv rfl (PV.mvI (.inl rfl) rfl) ?_
    refine RG.pv rfl (PV.mvI (.inl rfl) rfl) ?_
    refine RG.ot rfl (OT.bslice (F := intT) (els := [_]) rfl El34 rfl (by decide) rfl (by decide) ⟨rfl, (Cl.c rfl), trivial⟩ fun v19 => ?_)
    refine RG.callF (vs := [_, _, v19, _]) rfl rfl En59 rfl (l21Shapes_s hL.up hlen Rs.o (fun v20 => ?_))
    refine RG.callF (vs := [v20]) rfl rfl En58 rfl (layers_r Rs.o (fun i hi => selL_in (elE_at h1).hz hi) (fun w8 ys he => ?_))
    refine RG.pv rfl (PV.asg rfl rfl) ?_
    refine RG.pv rfl (PV.mvI (.inr rfl) rfl) ?_
    refine RG.nil ?_
    refine WP.ret ?_
    exact ⟨_, _, ResV.two rfl rfl rfl, Cv.p, k w8 ys (by rw [he, e0])⟩
theorem layL_len (ss : List Shape) : (layL ss).length = 8 := by simp [layL]
theorem layL_cost (ss : List Shape) : ∀ ys : List (Sl Rect), er ys = layL ss ∨ er ys = [] → 0 ≤ costL nRS ys ∧ costL nRS ys ≤ 102400 := by
  intro ys h
  have h0 : 0 ≤ costL nRS ys := costL_nonneg nSl_nn _
  refine ⟨h0, ?_⟩
  rcases h with h | h
  · have hl : ys.length = 8 := by have := congrArg List.length h; rwa [er_len, layL_len] at this
    have hb : ∀ i, i < ys.length → 0 ≤ nRS (gd ys i) ∧ nRS (gd ys i) ≤ 12800 := fun i hi => by
      refine ⟨nSl_nn _, ?_⟩
      have e : (gd ys i).xs = canon (bits (boxesOf ss i)) := by
        rw [← er_gd, h, layL, gd_map _ (by simpa [hl] using hi), range_gd (by omega)]
      have := isReg_len (isReg_canon (bits_length (boxesOf ss i)))
      simp only [nRS, nSl, nRect_cost]; rw [e]; omega
    have := costL_bdH (by omega) hb ys.length (Nat.le_refl _)
    rw [List.take_of_length_le (Nat.le_refl _)] at this
    omega
  · have hl : ys = [] := by
      have := congrArg List.length h; rw [er_len] at this
      exact List.eq_nil_of_length_eq_zero this
    subst hl; simp [costL]
theorem eLay_cases (cs : List ECell) (cell n : Int) : eLay cs cell n = layL (selL cs (occR cs cell) [n] true) ∨ eLay cs cell n = [] := by
  by_cases h : elE cs cell n = 0
  · exact .inl (eLay_ok h)
  · exact .inr (eLay_no h)
theorem law_ElementLayout {l : Lib} {cell n : Int} (hA : RLib G L l.cells.v l.cells.xs) (hlen : lenC (erCls l.cells.xs)) (k : R (.bool true) G L) : CallT Tryz.prog 5 #[vT libT l, vi cell, vi n] G L R := by
  refine CallT.enter (args := _) Tryz.func5 rfl rfl (by kernel_rfl) rfl ?_
  refine WP.seq ?_
  refine WP.region ?_
  refine RG.ot rfl (OT.box (cs := libT.enc l) rfl rfl rfl fun b3 => ?_)
  refine RG.pv rfl (PV.mvB (.inr rfl) rfl) ?_
  refine RG.nil ?_
  refine WP.seq ?_
  refine WP.region ?_
  refine RG.pv rfl (PV.mvI (.inr rfl) rfl) ?_
  refine RG.nil ?_
  refine WP.seq ?_
  refine WP.region ?_
  refine RG.pv rfl (PV.loadW rfl Ag24 rfl rfl) ?_
  refine RG.pv rfl (PV.mvI (.inl rfl) rfl) ?_
  refine RG.callF (vs := [_, _]) rfl rfl En10 rfl (szLib_s hA.up hlen (by omega) (by omega) (fun r hr => ?_))
  refine RG.pv rfl (PV.mvI (.inr rfl) rfl) ?_
  refine RG.nil ?_
  refine WP.seq ?_
  refine WP.seq ?_
  refine WP.region ?_
  refine RG.pv rfl (PV.mvI (.inl rfl) rfl) ?_
  refine RG.pv rfl (PV.lss rfl rfl rfl) ?_
  refine RG.nil ?_
  refine WP.cond rfl (fun h2 => ?_) (fun h2 => ?_)
  · refine WP.seq ?_
    refine WP.region ?_
    refine RG.pv rfl (PV.mvB (.inr rfl) rfl) ?_
    refine RG.nil ?_
    refine WP.ret ?_
    exact ⟨_, _, ResV.one rfl rfl, Cv.p, k⟩
  · have h2 := of_decide_eq_false h2
    have hf := hr (by omega)
    refine WP.skip ?_
    refine WP.seq ?_
    refine WP.region ?_
    refine RG.pv rfl (PV.loadW rfl Ag24 rfl rfl) ?_
    refine RG.callF (vs := [_]) rfl rfl En12 rfl (toLib_s hA.up hf (fun w25 ysw25 hew25 => ?_))
    refine RG.pv rfl (PV.mvI (.inl rfl) rfl) ?_
    refine RG.pv rfl (PV.mvI (.inl rfl) rfl) ?_
    refine RG.callF (vs := [_, _, _]) rfl rfl En21 rfl (eLay_r (l := ⟨⟨w25, ysw25⟩⟩) ⟨Rs.o, RsE.o, RsE.o, RsE.o⟩ (by rw [hew25]; exact hlen) (fun w28 rsw28 hrsw28 => ?_))
    refine RG.pv rfl (PV.move (v := .tuple _) rfl rfl) ?_
    refine RG.pv rfl (PV.ext (v := w28) rfl rfl rfl) ?_
    refine RG.pv rfl (PV.ext rfl rfl rfl) ?_
    refine RG.pv rfl (PV.asg (v := w28) rfl rfl) ?_
    refine RG.pv rfl (PV.mvI (.inr rfl) rfl) ?_
    refine RG.nil ?_
    refine WP.seq ?_
    refine WP.region ?_
    refine RG.pv rfl (PV.loadW rfl Ag24 rfl rfl) ?_
    refine RG.callF (vs := [_]) rfl rfl En12 rfl (toLib_s hA.up hf (fun w32 ysw32 hew32 => ?_))
    refine RG.ot rfl (OT.alloc rfl Zr30 fun b10 => ?_)
    refine RG.ot rfl (OT.storeW (vs := [_]) rfl Sz30 rfl rfl (Cl.c rfl) rfl rfl (OneC.sl (SlF.o (v := w32)) OneC.nil) ?_)
    refine RG.nil ?_
    refine WP.seq ?_
    refine WP.region ?_
    refine RG.pv rfl (PV.loadW rfl Ag30 rfl rfl) ?_
    refine RG.pv rfl (PV.mvI (.inl rfl) rfl) ?_
    refine RG.pv rfl (PV.mvI (.inl rfl) rfl) ?_
    refine RG.callF (vs := [_, _, _]) rfl rfl En22 rfl (eLay_i (l := ⟨⟨w32, ysw32⟩⟩) ⟨Rs.o, RsE.o, RsE.o, RsE.o⟩ (by rw [hew32]; exact hlen) (fun w37 rsw37 hrsw37 => ?_))
    refine RG.pv rfl (PV.move (v := .tuple _) rfl rfl) ?_
    refine RG.pv rfl (PV.ext (v := w37) rfl rfl rfl) ?_
    refine RG.pv rfl (PV.ext rfl rfl rfl) ?_
    refine RG.pv rfl (PV.asg (v := w37) rfl rfl) ?_
    refine RG.pv rfl (PV.mvI (.inr rfl) rfl) ?_
    refine RG.nil ?_
    refine WP.seq ?_
    refine WP.seq ?_
    refine WP.region ?_
    refine RG.pv rfl (PV.move (v := w37) rfl rfl) ?_
    refine RG.pv rfl (PV.move (v := w28) rfl rfl) ?_
    refine RG.callF (vs := [w37, w28]) rfl rfl En23 rfl (eqRectSS_s Rs.o RsE.o Rs.o RsE.o ?_)
    refine RG.pv rfl (PV.not rfl rfl) ?_
    refine RG.pv rfl (PV.mvB (.inl rfl) rfl) ?_
    refine RG.gs rfl rfl rfl (fun hp => (PV.mvI (.inl rfl) rfl)) ?_
    refine RG.gs rfl rfl rfl (fun hp => (PV.mvI (.inl rfl) rfl)) ?_
    refine RG.gs rfl rfl rfl (fun hp => (PV.neq rfl (gs_t hp) (gs_t hp))) ?_
    refine RG.pv rfl (PV.pickO rfl rfl rfl (fun hq => gs_t (geqF hq))) ?_
    refine RG.nil ?_
    refine WP.cond rfl (fun h3 => ?_) (fun h3 => ?_)
    · simp [hrsw28, hrsw37, hew25, hew32] at h3
    · refine WP.skip ?_
      refine WP.seq ?_
      refine WP.seq ?_
      refine WP.regionH0 (.q 0 (.q 1 (.l 2 (.l 3 (.q 4 Sch.nil))))) (by kernel_rfl) (by kernel_rfl) (by kernel_rfl) rfl ?_
      refine RH.pv rfl (fun _ _ _ _ h => h) (Gh.le_refl _) PickC.pick rfl (PV.loadW rfl Ag30 rfl rfl) ?_
      refine RH.pv rfl (fun _ _ _ _ h => h) (Gh.le_refl _) PickC.pick rfl (PV.loadW rfl Ag24 rfl rfl) ?_
      refine RH.ot rfl rfl (OT.callF (vs := [_]) rfl En12 rfl (toLib_s hA.up hf (fun w51 ysw51 hew51 => ⟨Gh.le_refl _, PickC.pick, ?_⟩)))
      refine RH.ot rfl rfl (OT.callF (vs := [_, _]) rfl En14 rfl (eqLib_s (l := ⟨⟨w32, ysw32⟩⟩) (m := ⟨⟨w51, ysw51⟩⟩) ⟨Rs.o, RsE.o, RsE.o, RsE.o⟩ ⟨Rs.o, RsE.o, RsE.o, RsE.o⟩ (by rw [hew32, hew51]) ⟨Gh.le_refl _, PickC.pick, ?_⟩))
      refine RH.pv rfl (fun _ _ _ _ h => h) (Gh.le_refl _) PickC.pick rfl (PV.not rfl rfl) ?_
      refine RH.nil ?_
      refine WP.cond rfl (fun h4 => ?_) (fun h4 => ?_)
      · simp at h4
      · have hcst := layL_cost _ rsw37 (by rw [hrsw37]; exact eLay_cases _ _ _)
        refine WP.skip ?_
        refine WP.seq ?_
        refine WP.region ?_
        refine RG.pv rfl (PV.mvI (.inr rfl) rfl) ?_
        refine RG.nil ?_
        refine WP.seq ?_
        refine WP.region ?_
        refine RG.pv rfl (PV.loadW rfl Ag30 rfl rfl) ?_
        refine RG.pv rfl (PV.mvI (.inl rfl) rfl) ?_
        refine RG.callF (vs := [_, _]) rfl rfl En18 rfl (CallT.exBg (ins ysw32) (CallT.exBg (lbs ysw32) (CallT.exBg (shs ysw32) (CallT.exS w32 (markLib_s (l := ⟨⟨w32, ysw32⟩⟩) (by rw [hew32]; exact hf) (by omega) (fun km hkm => ?_))))))
        refine RG.pv rfl (PV.mvI (.inr rfl) rfl) ?_
        refine RG.nil ?_
        refine WP.seq ?_
        refine WP.seq ?_
        refine WP.region ?_
        refine RG.pv rfl (PV.mvI (.inl rfl) rfl) ?_
        refine RG.pv rfl (PV.lss rfl rfl rfl) ?_
        refine RG.pv rfl (PV.mvB (.inl rfl) rfl) ?_
        refine RG.gs rfl rfl rfl (fun hp => (PV.move (v := w37) rfl rfl)) ?_
        refine RG.gs rfl rfl rfl (fun hp => (PV.move (v := w28) rfl rfl)) ?_
        refine RG.gsC rfl rfl rfl rfl En23 (fun hp => ⟨_, (acons (gs_t hp) (acons (gs_t hp) anil)), eqRectSS_s Rs.o RsE.o Rs.o RsE.o ⟨rfl, rfl, rfl⟩⟩) ?_
        refine RG.gs rfl rfl rfl (fun hp => (PV.not rfl (gs_t hp))) ?_
        refine RG.pv rfl (PV.pickO rfl rfl rfl (fun hq => gs_t (geqF hq))) ?_
        refine RG.pv rfl (PV.mvB (.inl rfl) rfl) ?_
        refine RG.gs rfl rfl rfl (fun hp => (PV.mvI (.inl rfl) rfl)) ?_
        refine RG.gs rfl rfl rfl (fun hp => (PV.mvI (.inl rfl) rfl)) ?_
        refine RG.gs rfl rfl rfl (fun hp => (PV.neq rfl (gs_t hp) (gs_t hp))) ?_
        refine RG.pv rfl (PV.pickO rfl rfl rfl (fun hq => gs_t (geqF hq))) ?_
        refine RG.nil ?_
        refine WP.cond rfl (fun h5 => ?_) (fun h5 => ?_)
        · exfalso
          have : ¬ km < 0 := by omega
          simp [this, hrsw28, hrsw37, hew25, hew32] at h5
        · skip
          refine WP.skip ?_
          refine WP.seq ?_
          refine WP.region ?_
          refine RG.pv rfl (PV.mvI (.inr rfl) rfl) ?_
          refine RG.nil ?_
          refine WP.seq ?_
          refine WP.region ?_
          refine RG.pv rfl (PV.move (v := w37) rfl rfl) ?_
          refine RG.pv rfl (PV.mvI (.inl rfl) rfl) ?_
          refine RG.callF (vs := [w37, _]) rfl rfl En24 rfl (CallT.exBg rsw37 (CallT.exS w37 (markRectSS_s (by omega) (by omega) ?_)))
          refine RG.pv rfl (PV.mvI (.inr rfl) rfl) ?_
          refine RG.nil ?_
          refine WP.seq ?_
          refine WP.region ?_
          refine RG.pv rfl (PV.mvI (.inr rfl) rfl) ?_
          refine RG.nil ?_
          refine WP.seq ?_
          refine WP.region ?_
          refine RG.pv rfl (PV.move (v := w37) rfl rfl) ?_
          refine RG.pv rfl (PV.mvI (.inl rfl) rfl) ?_
          refine RG.callF (vs := [w37, _]) rfl rfl En25 rfl (heldRectSS_s Rs.o RsE.o (by omega) (by omega) ?_)
          refine RG.pv rfl (PV.mvI (.inr rfl) rfl) ?_
          refine RG.nil ?_
          refine WP.seq ?_
          refine WP.seq ?_
          refine WP.region ?_
          refine RG.pv rfl (PV.mvI (.inl rfl) rfl) ?_
          refine RG.pv rfl (PV.lss rfl rfl rfl) ?_
          refine RG.nil ?_
          refine WP.cond rfl (fun h6 => ?_) (fun h6 => ?_)
          · simp at h6; omega
          · refine WP.skip ?_
            refine WP.seq ?_
            refine WP.seq ?_
            refine WP.region ?_
            refine RG.pv rfl (PV.mvI (.inl rfl) rfl) ?_
            refine RG.pv rfl (PV.mvI (.inl rfl) rfl) ?_
            refine RG.pv rfl (PV.neq rfl rfl rfl) ?_
            refine RG.nil ?_
            refine WP.cond rfl (fun h7 => ?_) (fun h7 => ?_)
            · simp at h7
            · skip
              refine WP.skip ?_
              refine WP.seq ?_
              refine WP.region ?_
              refine RG.pv rfl (PV.loadW rfl Ag24 rfl rfl) ?_
              refine RG.callF (vs := [_]) rfl rfl En12 rfl (toLib_s hA.up hf (fun w83 ysw83 hew83 => ?_))
              refine RG.pv rfl (PV.mvI (.inl rfl) rfl) ?_
              refine RG.pv rfl (PV.mvI (.inl rfl) rfl) ?_
              refine RG.callF (vs := [_, _, _]) rfl rfl En22 rfl (eLay_i (l := ⟨⟨w83, ysw83⟩⟩) ⟨Rs.o, RsE.o, RsE.o, RsE.o⟩ (by rw [hew83]; exact hlen) (fun w86 rsw86 hrsw86 => ?_))
              refine RG.pv rfl (PV.move (v := .tuple _) rfl rfl) ?_
              refine RG.pv rfl (PV.ext (v := w86) rfl rfl rfl) ?_
              refine RG.pv rfl (PV.ext rfl rfl rfl) ?_
              refine RG.pv rfl (PV.asg (v := w86) rfl rfl) ?_
              refine RG.pv rfl (PV.mvI (.inr rfl) rfl) ?_
              refine RG.nil ?_
              refine WP.seq ?_
              refine WP.seq ?_
              refine WP.region ?_
              refine RG.pv rfl (PV.move (v := w86) rfl rfl) ?_
              refine RG.pv rfl (PV.move (v := w28) rfl rfl) ?_
              refine RG.callF (vs := [w86, w28]) rfl rfl En23 rfl (eqRectSS_s Rs.o RsE.o Rs.o RsE.o ?_)
              refine RG.pv rfl (PV.not rfl rfl) ?_
              refine RG.pv rfl (PV.mvB (.inl rfl) rfl) ?_
              refine RG.gs rfl rfl rfl (fun hp => (PV.mvI (.inl rfl) rfl)) ?_
              refine RG.gs rfl rfl rfl (fun hp => (PV.mvI (.inl rfl) rfl)) ?_
              refine RG.gs rfl rfl rfl (fun hp => (PV.neq rfl (gs_t hp) (gs_t hp))) ?_
              refine RG.pv rfl (PV.pickO rfl rfl rfl (fun hq => gs_t (geqF hq))) ?_
              refine RG.nil ?_
              refine WP.cond rfl (fun h8 => ?_) (fun h8 => ?_)
              · simp [hrsw28, hrsw86, hew25, hew83] at h8
              · skip
                refine WP.skip ?_
                refine WP.seq ?_
                refine WP.region ?_
                refine RG.pv rfl (PV.mvI (.inr rfl) rfl) ?_
                refine RG.nil ?_
                refine WP.seq ?_
                refine WP.region ?_
                refine RG.pv rfl (PV.move (v := w37) rfl rfl) ?_
                refine RG.pv rfl (PV.mvI (.inl rfl) rfl) ?_
                refine RG.callF (vs := [w37, _]) rfl rfl En25 rfl (heldRectSS_s Rs.o RsE.o (by omega) (by omega) ?_)
                refine RG.pv rfl (PV.mvI (.inr rfl) rfl) ?_
                refine RG.nil ?_
                refine WP.seq ?_
                refine WP.seq ?_
                refine WP.region ?_
                refine RG.pv rfl (PV.mvI (.inl rfl) rfl) ?_
                refine RG.pv rfl (PV.lss rfl rfl rfl) ?_
                refine RG.nil ?_
                refine WP.cond rfl (fun h9 => ?_) (fun h9 => ?_)
                · simp at h9; omega
                · refine WP.skip ?_
                  refine WP.seq ?_
                  refine WP.seq ?_
                  refine WP.region ?_
                  refine RG.pv rfl (PV.mvI (.inl rfl) rfl) ?_
                  refine RG.pv rfl (PV.mvI (.inl rfl) rfl) ?_
                  refine RG.pv rfl (PV.neq rfl rfl rfl) ?_
                  refine RG.nil ?_
                  refine WP.cond rfl (fun h10 => ?_) (fun h10 => ?_)
                  · simp at h10
                  · refine WP.skip ?_
                    refine WP.seq ?_
                    refine WP.region ?_
                    refine RG.pv rfl (PV.mvB (.inr rfl) rfl) ?_
                    refine RG.nil ?_
                    refine WP.ret ?_
                    exact ⟨_, _, ResV.one rfl rfl, Cv.p, k⟩
end Go.Proofs.YtbkaincaahcnfaaGreat
namespace Go.Proofs.YtbkaincaahcnfaaGreat
set_option linter.unusedVariables false
set_option linter.unusedSimpArgs false
open Go
set_option maxRecDepth 20000
set_option maxHeartbeats 1000000
set_option linter.unusedSimpArgs false
variable {G : Gh} {L : List Ch} {R : Value → Gh → List Ch → Prop}
def incr (ls : List Int) : Bool := decide (∀ i, i < ls.length - 1 → gd ls i < gd ls (i + 1))
def elBad (cs : List ECell) (cell : Int) (ls : List Int) : Bool := ls.any fun e => !within e 0 ((elN cs cell : Int) - 1)
def rsE (cs : List ECell) (cell : Int) (ls : List Int) : Int := bif decide (shE cs cell = 0) then (bif !incr ls then 1 else bif elBad cs cell ls then 5 else 0) else shE cs cell
def rLay (cs : List ECell) (cell : Int) (ls : List Int) : List (List Rect) := bif decide (rsE cs cell ls = 0) then layL (selL cs (occR cs cell) ls false) else []
theorem rLay_no {cs : List ECell} {cell : Int} {ls : List Int} (h : rsE cs cell ls ≠ 0) : rLay cs cell ls = [] := by rw [rLay, decide_eq_false h]; rfl
theorem rLay_ok {cs : List ECell} {cell : Int} {ls : List Int} (h : rsE cs cell ls = 0) : rLay cs cell ls = layL (selL cs (occR cs cell) ls false) := by rw [rLay, decide_eq_true h]; rfl
theorem rLay_cases (cs : List ECell) (cell : Int) (ls : List Int) : rLay cs cell ls = layL (selL cs (occR cs cell) ls false) ∨ rLay cs cell ls = [] := by
  by_cases h : rsE cs cell ls = 0
  · exact .inl (rLay_ok h)
  · exact .inr (rLay_no h)
theorem incr_no {ls : List Int} {i : Nat} (h0 : 1 ≤ i) (h : i < ls.length) (hg : gd ls i ≤ gd ls (i - 1)) : incr ls = false := by
  rw [incr, decide_eq_false_iff_not]
  intro hh
  have := hh (i - 1) (by omega)
  rw [show i - 1 + 1 = i by omega] at this
  omega
theorem incr_yes {ls : List Int} (h : ∀ j, 1 ≤ j → j < ls.length → gd ls (j - 1) < gd ls j) : incr ls = true := by
  rw [incr, decide_eq_true_iff]
  intro i hi
  have := h (i + 1) (by omega) (by omega)
  rwa [show i + 1 - 1 = i by omega] at this
theorem root_many {o : EOcc} {ls : List Int} (h : ∀ a ∈ ls, 0 ≤ a) : (!(ls.any fun a => decide (a = rootOf o))) = (selS ls o == false) := by
  by_cases hp : 0 < o.path.length
  · rw [rootOf_pos hp, selS]
    have : (0 : Int) < o.path.length := by omega
    rw [decide_eq_true this, Bool.true_and]
    cases ls.any fun a => decide (a = gd o.path 0) <;> rfl
  · rw [rootOf_neg hp, selS]
    have h1 : ¬ (0 : Int) < o.path.length := by omega
    have h2 : (ls.any fun a => decide (a = (-1 : Int))) = false := by
      rw [List.any_eq_false]
      intro a ha
      have := h a ha
      simp; omega
    rw [decide_eq_false h1, h2]; rfl
theorem indexInt_s {v : Value} {rs : List Int} {q : Int} (h1 : Rs G L intT v rs) (k : R (vi (idxI (fun r => decide (q = r)) rs)) G L) : CallT Tryz.prog 108 #[v, vi q] G L R := by
  refine CallT.bd h1 fun hb => ?_
  refine CallT.enter (args := _) Tryz.func108 rfl rfl (by kernel_rfl) rfl ?_
  refine WP.seq ?_
  refine WP.region ?_
  refine RG.pv rfl (PV.mvI (.inr rfl) rfl) ?_
  refine RG.nil ?_
  refine WP.seq ?_
  refine WP.seq ?_
  refine WP.region ?_
  refine RG.pv rfl (PV.move (v := v) rfl rfl) ?_
  refine RG.pv rfl (PV.len (v := v) rfl Tryz.underlying34 rfl (SlF.r h1)) ?_
  refine RG.pv rfl (PV.mvI (.inl rfl) rfl) ?_
  refine RG.nil ?_
  refine WP.block ?_
  refine WP.loop1 [0, 1, 7] (fun i => i ≤ rs.length ∧ ∀ j, j < i → decide (q = gd rs j) = false) (fun i => [(8, vi i)]) (fun i => L) (fun i => rs.length - i) 0 ⟨by omega, fun j h => by omega⟩ ⟨rfl, trivial⟩ Cv.p ?_
  rintro i τ ⟨hi, hj⟩
  refine WP.seq ?_
  refine WP.region ?_
  refine RG.pv rfl (PV.lss rfl rfl rfl) ?_
  refine RG.nil ?_
  refine WP.seq ?_
  refine WP.cond rfl (fun h2 => ?_) (fun h2 => ?_)
  · have h2 := of_decide_eq_true h2
    refine WP.skip ?_
    refine WP.seq ?_
    refine WP.block ?_
    refine WP.seq ?_
    refine WP.region ?_
    refine RG.pv rfl (PV.mvI (.inl rfl) rfl) ?_
    refine RG.pv rfl (PV.mvI (.inr rfl) rfl) ?_
    refine RG.nil ?_
    refine WP.seq ?_
    refine WP.region ?_
    refine RG.pv rfl (PV.mvI (.inl rfl) rfl) ?_
    refine RG.pv rfl (PV.move (v := v) rfl rfl) ?_
    refine RG.pv rfl (PV.mvI (.inl rfl) rfl) ?_
    refine RG.pv rfl (PV.idxS (v := v) rfl Is34 rfl (SlF.r h1) rfl rfl (by omega)) ?_
    refine RG.pv rfl (PV.loadE1 rfl Sc2 rfl rfl (El.r h1 (getG (by omega))) rfl) ?_
    refine RG.pv rfl (PV.eql rfl rfl rfl) ?_
    refine RG.nil ?_
    refine WP.cond rfl (fun h3 => ?_) (fun h3 => ?_)
    · rw [idxI_at (by omega) h3 hj] at k
      refine WP.seq ?_
      refine WP.region ?_
      refine RG.pv rfl (PV.mvI (.inl rfl) rfl) ?_
      refine RG.pv rfl (PV.mvI (.inr rfl) rfl) ?_
      refine RG.nil ?_
      refine WP.ret ?_
      exact ⟨_, _, ResV.one rfl rfl, Cv.p, k⟩
    · have hj' : ∀ j, j < i + 1 → decide (q = gd rs j) = false := fun j h => by
        by_cases c : j = i
        · rw [c]; exact h3
        · exact hj j (by omega)
      refine WP.skip ?_
      refine WP.region ?_
      refine RG.pv rfl (PV.add rfl rfl rfl (by omega)) ?_
      refine RG.pv rfl (PV.mvI (.inl rfl) rfl) ?_
      refine RG.nil ?_
      exact ⟨rfl, i + 1, ⟨by omega, hj'⟩, ⟨rfl, trivial⟩, ⟨rfl, rfl, rfl, trivial⟩, Cv.p, by omega⟩
  · have h2 := of_decide_eq_false h2
    rw [idxI_none (fun j h => hj j (by omega))] at k
    refine WP.exit ?_
    refine WP.seq ?_
    refine WP.region ?_
    refine RG.pv rfl (PV.mvI (.inr rfl) rfl) ?_
    refine RG.nil ?_
    refine WP.ret ?_
    exact ⟨_, _, ResV.one rfl rfl, Cv.p, k⟩
theorem containsInt_s {v : Value} {rs : List Int} {q : Int} (h1 : Rs G L intT v rs) (k : R (.bool (rs.any fun a => decide (a = q))) G L) : CallT Tryz.prog 65 #[v, vi q] G L R := by
  have e : (rs.any fun a => decide (a = q)) = rs.any fun a => decide (q = a) := by congr 1; funext a; rw [decide_eq_decide]; exact eq_comm
  rw [e, ← idxI_any] at k
  refine CallT.enter (args := _) Tryz.func65 rfl rfl (by kernel_rfl) rfl ?_
  refine WP.seq ?_
  refine WP.region ?_
  refine RG.pv rfl (PV.mvB (.inr rfl) rfl) ?_
  refine RG.nil ?_
  refine WP.seq ?_
  refine WP.region ?_
  refine RG.pv rfl (PV.move (v := v) rfl rfl) ?_
  refine RG.pv rfl (PV.mvI (.inl rfl) rfl) ?_
  refine RG.callF (vs := [v, _]) rfl rfl En108 rfl (indexInt_s (Rs.up h1) ?_)
  refine RG.pv rfl (PV.geq rfl rfl rfl) ?_
  refine RG.pv rfl (PV.mvB (.inr rfl) rfl) ?_
  refine RG.nil ?_
  refine WP.ret ?_
  exact ⟨_, _, ResV.one rfl rfl, Cv.p, k⟩
theorem rest1_s {r : Int} {ls : List Int} {v : Value} {b : Nat} (hb : Rd G L b 0 v) (h1 : Rs G L intT v ls) (k : R (.bool (!(ls.any fun a => decide (a = r)))) G L) : CallT Tryz.prog 64 #[vi r, .pointer (some ⟨b, 0, none⟩)] G L R := by
  refine CallT.enter (args := _) Tryz.func64 rfl rfl (by kernel_rfl) rfl ?_
  refine WP.seq ?_
  refine WP.region ?_
  refine RG.pv rfl (PV.mvB (.inr rfl) rfl) ?_
  refine RG.nil ?_
  refine WP.seq ?_
  refine WP.region ?_
  refine RG.pv rfl (PV.load1 rfl Sc34 rfl (Rd.up hb)) ?_
  refine RG.pv rfl (PV.mvI (.inl rfl) rfl) ?_
  refine RG.callF (vs := [_, _]) rfl rfl En65 rfl (containsInt_s h1 ?_)
  refine RG.pv rfl (PV.not rfl rfl) ?_
  refine RG.pv rfl (PV.mvB (.inr rfl) rfl) ?_
  refine RG.nil ?_
  refine WP.ret ?_
  exact ⟨_, _, ResV.one rfl rfl, Cv.p, k⟩
theorem rLay_i {l : Lib} {cell : Int} {v : Value} {ls : List Int} (hL : RLib G L l.cells.v l.cells.xs) (hlen : lenC (erCls l.cells.xs)) (h5 : Rs G L intT v ls) (k : ∀ v' ys, er ys = rLay (erCls l.cells.xs) cell ls → R (.tuple #[v', vi (rsE (erCls l.cells.xs) cell ls)]) G (osl 59 slT v' ys :: bagS 116 rectT ys :: L)) : CallT Tryz.prog 28 #[vT libT l, vi cell, v] G L R := by
  refine CallT.bd h5 fun hb5 => ?_
  refine CallT.st (fun w hs => oneCell_cells (h5 w hs).1.one) fun hcell => ?_
  refine CallT.enter (args := _) Tryz.func28 rfl rfl (by kernel_rfl) rfl ?_
  refine WP.seq ?_
  refine WP.region ?_
  refine RG.ot rfl (OT.box (cs := libT.enc l) rfl rfl rfl fun b3 => ?_)
  refine RG.ot rfl (OT.box (cs := [v]) rfl rfl (by show v.cells.toList = [v]; rw [hcell]) fun b5 => ?_)
  refine RG.pv rfl (PV.asg rfl rfl) ?_
  refine RG.pv rfl (PV.mvI (.inr rfl) rfl) ?_
  refine RG.nil ?_
  refine WP.seq ?_
  refine WP.region ?_
  refine RG.pv rfl (PV.loadW rfl Ag30 rfl rfl) ?_
  refine RG.pv rfl (PV.mvI (.inl rfl) rfl) ?_
  refine RG.callF (vs := [_, _]) rfl rfl En49 rfl (rooted_i hL.up hlen (fun w16 => ?_))
  refine RG.pv rfl (PV.move (v := .tuple _) rfl rfl) ?_
  refine RG.pv rfl (PV.ext (v := w16) rfl rfl rfl) ?_
  refine RG.pv rfl (PV.ext rfl rfl rfl) ?_
  refine RG.pv rfl (PV.asg (v := w16) rfl rfl) ?_
  refine RG.pv rfl (PV.mvI (.inr rfl) rfl) ?_
  refine RG.nil ?_
  refine WP.seq ?_
  refine WP.seq ?_
  refine WP.region ?_
  refine RG.pv rfl (PV.mvI (.inl rfl) rfl) ?_
  refine RG.pv rfl (PV.neq rfl rfl rfl) ?_
  refine RG.nil ?_
  refine WP.cond rfl (fun h1 => ?_) (fun h1 => ?_)
  · have h1 : shE (erCls l.cells.xs) cell ≠ 0 := by simpa using h1
    have e : rsE (erCls l.cells.xs) cell ls = shE (erCls l.cells.xs) cell := by rw [rsE, decide_eq_false h1]; rfl
    have k := k (.slice none 0 0) [] (by rw [rLay_no (by rw [e]; exact h1)]; rfl)
    rw [e] at k
    refine WP.seq ?_
    refine WP.region ?_
    refine RG.pv rfl (PV.mvI (.inl rfl) rfl) ?_
    refine RG.pv rfl (PV.asg rfl rfl) ?_
    refine RG.pv rfl (PV.mvI (.inr rfl) rfl) ?_
    refine RG.nil ?_
    refine WP.ret ?_
    exact ⟨_, _, ResV.two rfl rfl rfl, Cv.nilSS, k⟩
  · have h1 : shE (erCls l.cells.xs) cell = 0 := by simpa using h1
    have hnb : elN (erCls l.cells.xs) cell ≤ 128 := by have := shE_lib h1; exact elems_len_bd this.1 (by omega)
    refine WP.skip ?_
    refine WP.seq ?_
    refine WP.seq ?_
    refine WP.region ?_
    refine RG.pv rfl (PV.mvI (.inr rfl) rfl) ?_
    refine RG.nil ?_
    refine WP.block ?_
    refine WP.loop1 [1, 3, 5, 8] (fun i => 1 ≤ i ∧ (i ≤ ls.length ∨ i = 1) ∧ ∀ j, 1 ≤ j → j < i → j < ls.length → gd ls (j - 1) < gd ls j) (fun i => [(10, vi i)]) (fun i => blk b3 30 (libT.enc l) :: blk b5 34 [v] :: osl 139 rshapeT w16 (rootR (erCls l.cells.xs) cell) :: L) (fun i => ls.length - i) 1 ⟨by omega, .inr rfl, fun j h h2 => by omega⟩ ⟨rfl, trivial⟩ Cv.p ?_
    rintro i τ ⟨hi, hi2, hj⟩
    refine WP.seq ?_
    refine WP.seq ?_
    refine WP.region ?_
    refine RG.pv rfl (PV.mvI (.inl rfl) rfl) ?_
    refine RG.pv rfl (PV.load1 rfl Sc34 rfl (Rd.blk rfl)) ?_
    refine RG.pv rfl (PV.len rfl Tryz.underlying34 rfl (SlF.r h5)) ?_
    refine RG.pv rfl (PV.lss rfl rfl rfl) ?_
    refine RG.nil ?_
    refine WP.cond rfl (fun h2 => ?_) (fun h2 => ?_)
    · have h2 := of_decide_eq_true h2
      refine WP.skip ?_
      refine WP.seq ?_
      refine WP.block ?_
      refine WP.seq ?_
      refine WP.regionQ (by kernel_rfl) (by kernel_rfl) ?_
      refine RQ.pv rfl (PV.load1 rfl Sc34 rfl (Rd.blk rfl)) ?_
      refine RQ.pv rfl (PV.mvI (.inl rfl) rfl) ?_
      refine RQ.pv rfl (PV.sub rfl rfl rfl (by omega)) ?_
      refine RQ.pv rfl (PV.idxS (j := i - 1) rfl Is34 rfl (SlF.r h5) rfl (by omega) (by omega)) ?_
      refine RQ.pv rfl (PV.loadE1 rfl Sc2 rfl rfl (El.r h5 (getG (by omega))) rfl) ?_
      refine RQ.pv rfl (PV.load1 rfl Sc34 rfl (Rd.blk rfl)) ?_
      refine RQ.pv rfl (PV.mvI (.inl rfl) rfl) ?_
      refine RQ.pv rfl (PV.idxS rfl Is34 rfl (SlF.r h5) rfl rfl (by omega)) ?_
      refine RQ.pv rfl (PV.loadE1 rfl Sc2 rfl rfl (El.r h5 (getG (by omega))) rfl) ?_
      refine RQ.pv rfl (PV.geq rfl rfl rfl) ?_
      refine RQ.nil ?_
      refine WP.cond rfl (fun h3 => ?_) (fun h3 => ?_)
      · have h3 := of_decide_eq_true h3
        have e : rsE (erCls l.cells.xs) cell ls = 1 := by rw [rsE, decide_eq_true h1, incr_no (i := i) (by omega) (by omega) h3]; rfl
        have k := k (.slice none 0 0) [] (by rw [rLay_no (by rw [e]; decide)]; rfl)
        rw [e] at k
        refine WP.seq ?_
        refine WP.region ?_
        refine RG.pv rfl (PV.asg rfl rfl) ?_
        refine RG.pv rfl (PV.mvI (.inr rfl) rfl) ?_
        refine RG.nil ?_
        refine WP.ret ?_
        exact ⟨_, _, ResV.two rfl rfl rfl, Cv.nilSS, k⟩
      · have h3 := of_decide_eq_false h3
        have hj' : ∀ j, 1 ≤ j → j < i + 1 → j < ls.length → gd ls (j - 1) < gd ls j := fun j q1 q2 q3 => by
          by_cases c : j = i
          · rw [c]; omega
          · exact hj j q1 (by omega) q3
        refine WP.skip ?_
        refine WP.region ?_
        refine RG.pv rfl (PV.mvI (.inl rfl) rfl) ?_
        refine RG.pv rfl (PV.add rfl rfl rfl (by omega)) ?_
        refine RG.pv rfl (PV.mvI (.inr rfl) rfl) ?_
        refine RG.nil ?_
        exact ⟨rfl, i + 1, ⟨by omega, by omega, hj'⟩, ⟨rfl, trivial⟩, ⟨rfl, rfl, rfl, rfl, trivial⟩, Cv.p, by omega⟩
    · have h2 := of_decide_eq_false h2
      have hinc : incr ls = true := incr_yes (fun j q1 q2 => hj j q1 (by omega) q2)
      refine WP.exit ?_
      refine WP.seq ?_
      refine WP.seq ?_
      refine WP.region ?_
      refine RG.pv rfl (PV.load1 rfl Sc34 rfl (Rd.blk rfl)) ?_
      refine RG.pv rfl (PV.len rfl Tryz.underlying34 rfl (SlF.r h5)) ?_
      refine RG.pv rfl (PV.mvI (.inl rfl) rfl) ?_
      refine RG.nil ?_
      refine WP.block ?_
      refine WP.loop1 [1, 3, 5, 8, 38, 39] (fun i => i ≤ ls.length ∧ ∀ j, j < i → within (gd ls j) 0 ((elN (erCls l.cells.xs) cell : Int) - 1) = true) (fun i => [(40, vi i)]) (fun i => blk b3 30 (libT.enc l) :: blk b5 34 [v] :: osl 139 rshapeT w16 (rootR (erCls l.cells.xs) cell) :: L) (fun i => ls.length - i) 0 ⟨by omega, fun j h => by omega⟩ ⟨rfl, trivial⟩ Cv.p ?_
      rintro i τ ⟨hi, hj⟩
      refine WP.seq ?_
      refine WP.region ?_
      refine RG.pv rfl (PV.lss rfl rfl rfl) ?_
      refine RG.nil ?_
      refine WP.seq ?_
      refine WP.cond rfl (fun h4 => ?_) (fun h4 => ?_)
      · have h4 := of_decide_eq_true h4
        refine WP.skip ?_
        refine WP.seq ?_
        refine WP.block ?_
        refine WP.seq ?_
        refine WP.region ?_
        refine RG.pv rfl (PV.idxS rfl Is34 rfl (SlF.r h5) rfl rfl (by omega)) ?_
        refine RG.pv rfl (PV.loadE1 rfl Sc2 rfl rfl (El.r h5 (getG (by omega))) rfl) ?_
        refine RG.pv rfl (PV.mvI (.inr rfl) rfl) ?_
        refine RG.nil ?_
        refine WP.seq ?_
        refine WP.region ?_
        refine RG.pv rfl (PV.loadW rfl Ag30 rfl rfl) ?_
        refine RG.pv rfl (PV.mvI (.inl rfl) rfl) ?_
        refine RG.pv rfl (PV.mvI (.inl rfl) rfl) ?_
        refine RG.callF (vs := [_, _, _]) rfl rfl En50 rfl (hasEl_i hL.up (shE_lib h1) ?_)
        refine RG.pv rfl (PV.not rfl rfl) ?_
        refine RG.nil ?_
        refine WP.cond rfl (fun h6 => ?_) (fun h6 => ?_)
        · have e : rsE (erCls l.cells.xs) cell ls = 5 := by
            have : elBad (erCls l.cells.xs) cell ls = true := List.any_eq_true.2 ⟨gd ls i, gd_mem (by omega), h6⟩
            rw [rsE, decide_eq_true h1, hinc, this]; rfl
          have k := k (.slice none 0 0) [] (by rw [rLay_no (by rw [e]; decide)]; rfl)
          rw [e] at k
          refine WP.seq ?_
          refine WP.region ?_
          refine RG.pv rfl (PV.asg rfl rfl) ?_
          refine RG.pv rfl (PV.mvI (.inr rfl) rfl) ?_
          refine RG.nil ?_
          refine WP.ret ?_
          exact ⟨_, _, ResV.two rfl rfl rfl, Cv.nilSS, k⟩
        · have hj' : ∀ j, j < i + 1 → within (gd ls j) 0 ((elN (erCls l.cells.xs) cell : Int) - 1) = true := fun j q => by
            by_cases c : j = i
            · rw [c]; simpa using h6
            · exact hj j (by omega)
          refine WP.skip ?_
          refine WP.region ?_
          refine RG.pv rfl (PV.add rfl rfl rfl (by omega)) ?_
          refine RG.pv rfl (PV.mvI (.inl rfl) rfl) ?_
          refine RG.nil ?_
          exact ⟨rfl, i + 1, ⟨by omega, hj'⟩, ⟨rfl, trivial⟩, ⟨rfl, rfl, rfl, rfl, rfl, rfl, trivial⟩, Cv.p, by omega⟩
      · have h4 := of_decide_eq_false h4
        have hall : ∀ a ∈ ls, within a 0 ((elN (erCls l.cells.xs) cell : Int) - 1) = true := fun a ha => by
          obtain ⟨j, hj2, rfl⟩ := List.getElem_of_mem ha
          have := hj j (by omega)
          rwa [gd_eq hj2] at this
        have e : rsE (erCls l.cells.xs) cell ls = 0 := by
          have : elBad (erCls l.cells.xs) cell ls = false := by
            rw [elBad, List.any_eq_false]; intro a ha; simp [hall a ha]
          rw [rsE, decide_eq_true h1, hinc, this]; rfl
        have hpk : pickR (rootR (erCls l.cells.xs) cell) (fun r => !(ls.any fun a => decide (a = r))) = selL (erCls l.cells.xs) (occR (erCls l.cells.xs) cell) ls false := by
          rw [rootR_ok h1]
          exact pick_sel (fun o _ => root_many (fun a ha => by have := hall a ha; simp only [within, Bool.and_eq_true, decide_eq_true_eq] at this; exact this.1))
        have e0 := rLay_ok e
        rw [e] at k
        refine WP.exit ?_
        refine WP.seq ?_
        refine WP.region ?_
        refine RG.pv rfl (PV.move (v := w16) rfl rfl) ?_
        refine RG.pv rfl (PV.mkf1 rfl rfl) ?_
        refine RG.callF (vs := [w16, _]) rfl rfl En60 rfl (chosen_i (rs := rootR (erCls l.cells.xs) cell) (f := fun r => !(ls.any fun a => decide (a = r))) Rs.o (rootR_len _ _) (fun r => CB.mk1 En64 fun L' R c k => rest1_s (Rd.cv (Rd.blk rfl) c) (Rs.cv c h5.up) k) (fun w8 ys he => ?_))
        refine RG.pv rfl (PV.asg rfl rfl) ?_
        refine RG.pv rfl (PV.mvI (.inr rfl) rfl) ?_
        refine RG.nil ?_
        refine WP.ret ?_
        exact ⟨_, _, ResV.two rfl rfl rfl, Cv.p, k w8 ys (by rw [he, hpk, e0])⟩
theorem rLay_r {l : Lib} {cell : Int} {v : Value} {ls : List Int} (hL : RLib G L l.cells.v l.cells.xs) (hlen : lenC (erCls l.cells.xs)) (h5 : Rs G L intT v ls) (k : ∀ v' ys, er ys = rLay (erCls l.cells.xs) cell ls → R (.tuple #[v', vi (rsE (erCls l.cells.xs) cell ls)]) G (osl 59 slT v' ys :: bagS 116 rectT ys :: L)) : CallT Tryz.prog 26 #[vT libT l, vi cell, v] G L R := by
  refine CallT.bd h5 fun hb5 => ?_
  refine CallT.enter (args := _) Tryz.func26 rfl rfl (by kernel_rfl) rfl ?_
  refine WP.seq ?_
  refine WP.region ?_
  refine RG.ot rfl (OT.box (cs := libT.enc l) rfl rfl rfl fun b3 => ?_)
  refine RG.pv rfl (PV.asg rfl rfl) ?_
  refine RG.pv rfl (PV.mvI (.inr rfl) rfl) ?_
  refine RG.nil ?_
  refine WP.seq ?_
  refine WP.region ?_
  refine RG.pv rfl (PV.loadW rfl Ag30 rfl rfl) ?_
  refine RG.pv rfl (PV.mvI (.inl rfl) rfl) ?_
  refine RG.callF (vs := [_, _]) rfl rfl En54 rfl (flat_r hL.up hlen (fun w15 => ?_))
  refine RG.pv rfl (PV.move (v := .tuple _) rfl rfl) ?_
  refine RG.pv rfl (PV.ext (v := w15) rfl rfl rfl) ?_
  refine RG.pv rfl (PV.ext rfl rfl rfl) ?_
  refine RG.pv rfl (PV.asg (v := w15) rfl rfl) ?_
  refine RG.pv rfl (PV.mvI (.inr rfl) rfl) ?_
  refine RG.nil ?_
  refine WP.seq ?_
  refine WP.seq ?_
  refine WP.region ?_
  refine RG.pv rfl (PV.mvI (.inl rfl) rfl) ?_
  refine RG.pv rfl (PV.neq rfl rfl rfl) ?_
  refine RG.nil ?_
  refine WP.cond rfl (fun h1 => ?_) (fun h1 => ?_)
  · have h1 : shE (erCls l.cells.xs) cell ≠ 0 := by simpa using h1
    have e : rsE (erCls l.cells.xs) cell ls = shE (erCls l.cells.xs) cell := by rw [rsE, decide_eq_false h1]; rfl
    have k := k (.slice none 0 0) [] (by rw [rLay_no (by rw [e]; exact h1)]; rfl)
    rw [e] at k
    refine WP.seq ?_
    refine WP.region ?_
    refine RG.pv rfl (PV.mvI (.inl rfl) rfl) ?_
    refine RG.pv rfl (PV.asg rfl rfl) ?_
    refine RG.pv rfl (PV.mvI (.inr rfl) rfl) ?_
    refine RG.nil ?_
    refine WP.ret ?_
    exact ⟨_, _, ResV.two rfl rfl rfl, Cv.nilSS, k⟩
  · have h1 : shE (erCls l.cells.xs) cell = 0 := by simpa using h1
    have hnb : elN (erCls l.cells.xs) cell ≤ 128 := by have := shE_lib h1; exact elems_len_bd this.1 (by omega)
    refine WP.skip ?_
    refine WP.seq ?_
    refine WP.seq ?_
    refine WP.region ?_
    refine RG.pv rfl (PV.mvI (.inr rfl) rfl) ?_
    refine RG.nil ?_
    refine WP.block ?_
    refine WP.loop1 [1, 2, 3] (fun i => 1 ≤ i ∧ (i ≤ ls.length ∨ i = 1) ∧ ∀ j, 1 ≤ j → j < i → j < ls.length → gd ls (j - 1) < gd ls j) (fun i => [(10, vi i)]) (fun i => blk b3 30 (libT.enc l) :: L) (fun i => ls.length - i) 1 ⟨by omega, .inr rfl, fun j h h2 => by omega⟩ ⟨rfl, trivial⟩ Cv.p ?_
    rintro i τ ⟨hi, hi2, hj⟩
    refine WP.seq ?_
    refine WP.seq ?_
    refine WP.region ?_
    refine RG.pv rfl (PV.mvI (.inl rfl) rfl) ?_
    refine RG.pv rfl (PV.move (v := v) rfl rfl) ?_
    refine RG.pv rfl (PV.len (v := v) rfl Tryz.underlying34 rfl (SlF.r h5)) ?_
    refine RG.pv rfl (PV.lss rfl rfl rfl) ?_
    refine RG.nil ?_
    refine WP.cond rfl (fun h2 => ?_) (fun h2 => ?_)
    · have h2 := of_decide_eq_true h2
      refine WP.skip ?_
      refine WP.seq ?_
      refine WP.block ?_
      refine WP.seq ?_
      refine WP.regionQ (by kernel_rfl) (by kernel_rfl) ?_
      refine RQ.pv rfl (PV.move (v := v) rfl rfl) ?_
      refine RQ.pv rfl (PV.mvI (.inl rfl) rfl) ?_
      refine RQ.pv rfl (PV.sub rfl rfl rfl (by omega)) ?_
      refine RQ.pv rfl (PV.idxS (j := i - 1) (v := v) rfl Is34 rfl (SlF.r h5) rfl (by omega) (by omega)) ?_
      refine RQ.pv rfl (PV.loadE1 rfl Sc2 rfl rfl (El.r h5 (getG (by omega))) rfl) ?_
      refine RQ.pv rfl (PV.move (v := v) rfl rfl) ?_
      refine RQ.pv rfl (PV.mvI (.inl rfl) rfl) ?_
      refine RQ.pv rfl (PV.idxS (v := v) rfl Is34 rfl (SlF.r h5) rfl rfl (by omega)) ?_
      refine RQ.pv rfl (PV.loadE1 rfl Sc2 rfl rfl (El.r h5 (getG (by omega))) rfl) ?_
      refine RQ.pv rfl (PV.geq rfl rfl rfl) ?_
      refine RQ.nil ?_
      refine WP.cond rfl (fun h3 => ?_) (fun h3 => ?_)
      · have h3 := of_decide_eq_true h3
        have e : rsE (erCls l.cells.xs) cell ls = 1 := by rw [rsE, decide_eq_true h1, incr_no (i := i) (by omega) (by omega) h3]; rfl
        have k := k (.slice none 0 0) [] (by rw [rLay_no (by rw [e]; decide)]; rfl)
        rw [e] at k
        refine WP.seq ?_
        refine WP.region ?_
        refine RG.pv rfl (PV.asg rfl rfl) ?_
        refine RG.pv rfl (PV.mvI (.inr rfl) rfl) ?_
        refine RG.nil ?_
        refine WP.ret ?_
        exact ⟨_, _, ResV.two rfl rfl rfl, Cv.nilSS, k⟩
      · have h3 := of_decide_eq_false h3
        have hj' : ∀ j, 1 ≤ j → j < i + 1 → j < ls.length → gd ls (j - 1) < gd ls j := fun j q1 q2 q3 => by
          by_cases c : j = i
          · rw [c]; omega
          · exact hj j q1 (by omega) q3
        refine WP.skip ?_
        refine WP.region ?_
        refine RG.pv rfl (PV.mvI (.inl rfl) rfl) ?_
        refine RG.pv rfl (PV.add rfl rfl rfl (by omega)) ?_
        refine RG.pv rfl (PV.mvI (.inr rfl) rfl) ?_
        refine RG.nil ?_
        exact ⟨rfl, i + 1, ⟨by omega, by omega, hj'⟩, ⟨rfl, trivial⟩, ⟨rfl, rfl, rfl, trivial⟩, Cv.p, by omega⟩
    · have h2 := of_decide_eq_false h2
      have hinc : incr ls = true := incr_yes (fun j q1 q2 => hj j q1 (by omega) q2)
      refine WP.exit ?_
      refine WP.seq ?_
      refine WP.seq ?_
      refine WP.region ?_
      refine RG.pv rfl (PV.mvI (.inr rfl) rfl) ?_
      refine RG.nil ?_
      refine WP.block ?_
      refine WP.loop1 [1, 2, 3] (fun i => i ≤ ls.length ∧ ∀ j, j < i → within (gd ls j) 0 ((elN (erCls l.cells.xs) cell : Int) - 1) = true) (fun i => [(11, vi i)]) (fun i => blk b3 30 (libT.enc l) :: L) (fun i => ls.length - i) 0 ⟨by omega, fun j h => by omega⟩ ⟨rfl, trivial⟩ Cv.p ?_
      rintro i τ ⟨hi, hj⟩
      refine WP.seq ?_
      refine WP.seq ?_
      refine WP.region ?_
      refine RG.pv rfl (PV.mvI (.inl rfl) rfl) ?_
      refine RG.pv rfl (PV.move (v := v) rfl rfl) ?_
      refine RG.pv rfl (PV.len (v := v) rfl Tryz.underlying34 rfl (SlF.r h5)) ?_
      refine RG.pv rfl (PV.lss rfl rfl rfl) ?_
      refine RG.nil ?_
      refine WP.cond rfl (fun h4 => ?_) (fun h4 => ?_)
      · have h4 := of_decide_eq_true h4
        refine WP.skip ?_
        refine WP.seq ?_
        refine WP.block ?_
        refine WP.seq ?_
        refine WP.regionQ (by kernel_rfl) (by kernel_rfl) ?_
        refine RQ.pv rfl (PV.move (v := v) rfl rfl) ?_
        refine RQ.pv rfl (PV.mvI (.inl rfl) rfl) ?_
        refine RQ.pv rfl (PV.idxS (v := v) rfl Is34 rfl (SlF.r h5) rfl rfl (by omega)) ?_
        refine RQ.pv rfl (PV.loadE1 rfl Sc2 rfl rfl (El.r h5 (getG (by omega))) rfl) ?_
        refine RQ.pv rfl (PV.loadW rfl Ag30 rfl rfl) ?_
        refine RQ.pv rfl (PV.mvI (.inl rfl) rfl) ?_
        refine RQ.callF (vs := [_, _]) rfl rfl En63 rfl (l21Elements_s hL.up (shE_lib h1) ⟨rfl, rfl, rfl⟩) ?_
        refine RQ.pv rfl (PV.sub rfl rfl rfl (by omega)) ?_
        refine RQ.callF (vs := [_, _, _]) rfl rfl En62 rfl (l01In_s ⟨rfl, rfl, rfl⟩) ?_
        refine RQ.pv rfl (PV.not rfl rfl) ?_
        refine RQ.nil ?_
        refine WP.cond rfl (fun h6 => ?_) (fun h6 => ?_)
        · have e : rsE (erCls l.cells.xs) cell ls = 5 := by
            have : elBad (erCls l.cells.xs) cell ls = true := List.any_eq_true.2 ⟨gd ls i, gd_mem (by omega), h6⟩
            rw [rsE, decide_eq_true h1, hinc, this]; rfl
          have k := k (.slice none 0 0) [] (by rw [rLay_no (by rw [e]; decide)]; rfl)
          rw [e] at k
          refine WP.seq ?_
          refine WP.region ?_
          refine RG.pv rfl (PV.asg rfl rfl) ?_
          refine RG.pv rfl (PV.mvI (.inr rfl) rfl) ?_
          refine RG.nil ?_
          refine WP.ret ?_
          exact ⟨_, _, ResV.two rfl rfl rfl, Cv.nilSS, k⟩
        · have hj' : ∀ j, j < i + 1 → within (gd ls j) 0 ((elN (erCls l.cells.xs) cell : Int) - 1) = true := fun j q => by
            by_cases c : j = i
            · rw [c]; simpa using h6
            · exact hj j (by omega)
          refine WP.skip ?_
          refine WP.region ?_
          refine RG.pv rfl (PV.mvI (.inl rfl) rfl) ?_
          refine RG.pv rfl (PV.add rfl rfl rfl (by omega)) ?_
          refine RG.pv rfl (PV.mvI (.inr rfl) rfl) ?_
          refine RG.nil ?_
          exact ⟨rfl, i + 1, ⟨by omega, hj'⟩, ⟨rfl, trivial⟩, ⟨rfl, rfl, rfl, trivial⟩, Cv.p, by omega⟩
      · have h4 := of_decide_eq_false h4
        have e : rsE (erCls l.cells.xs) cell ls = 0 := by
          have : elBad (erCls l.cells.xs) cell ls = false := by
            rw [elBad, List.any_eq_false]; intro a ha
            obtain ⟨j, hj2, rfl⟩ := List.getElem_of_mem ha
            have := hj j (by omega)
            rw [gd_eq hj2] at this
            simp [this]
          rw [rsE, decide_eq_true h1, hinc, this]; rfl
        have e0 := rLay_ok e
        rw [e] at k
        refine WP.exit ?_
        refine WP.seq ?_
        refine WP.region ?_
        refine RG.pv rfl (PV.loadW rfl Ag30 rfl rfl) ?_
        refine RG.pv rfl (PV.mvI (.inl rfl) rfl) ?_
        refine RG.pv rfl (PV.move (v := v) rfl rfl) ?_
        refine RG.callF (vs := [_, _, v, _]) rfl rfl En59 rfl (l21Shapes_s hL.up hlen (Rs.up h5) (fun v56 => ?_))
        refine RG.callF (vs := [v56]) rfl rfl En58 rfl (layers_r Rs.o (fun i hi => selL_in h1 hi) (fun w8 ys he => ?_))
        refine RG.pv rfl (PV.asg rfl rfl) ?_
        refine RG.pv rfl (PV.mvI (.inr rfl) rfl) ?_
        refine RG.nil ?_
        refine WP.ret ?_
        exact ⟨_, _, ResV.two rfl rfl rfl, Cv.p, k w8 ys (by rw [he, e0])⟩
theorem toInt64S_s {v : Value} {xs : List Int} (h1 : Rs G L intT v xs) (hb : xs.length ≤ 1048576) (k : ∀ v', R v' G (osl 2 intT v' xs :: L)) : CallT Tryz.prog 27 #[v] G L R := by
  refine CallT.enter (args := _) Tryz.func27 rfl rfl (by kernel_rfl) rfl ?_
  refine WP.seq ?_
  refine WP.region ?_
  refine RG.pv rfl (PV.asg rfl rfl) ?_
  refine RG.nil ?_
  refine WP.seq ?_
  refine WP.region ?_
  refine RG.pv rfl (PV.move (v := v) rfl rfl) ?_
  refine RG.pv rfl (PV.len (v := v) rfl Tryz.underlying34 rfl (SlF.r h1)) ?_
  refine RG.ot rfl (OT.make (F := intT) (a0 := 0) rfl El34 rfl (by decide) rfl rfl (by omega) (by omega) fun v7 => ?_)
  refine RG.pv rfl (PV.asg (v := v7) rfl rfl) ?_
  refine RG.nil ?_
  refine WP.seq ?_
  refine WP.seq ?_
  refine WP.region ?_
  refine RG.pv rfl (PV.mvI (.inr rfl) rfl) ?_
  refine RG.nil ?_
  refine WP.block ?_
  refine WP.loop2 [0, 3] (fun i ys => i ≤ xs.length ∧ ys.length = xs.length ∧ ∀ j, j < i → ys[j]? = xs[j]?) (fun i ys => [(4, vi i)]) (fun i ys => osl 2 intT v7 ys :: L) (fun i ys => xs.length - i) 0 (List.replicate xs.length 0) ⟨by omega, by simp, fun j h => by omega⟩ ⟨rfl, trivial⟩ Cv.p ?_
  rintro i ys τ ⟨hi, hl, he⟩
  refine WP.seq ?_
  refine WP.seq ?_
  refine WP.region ?_
  refine RG.pv rfl (PV.mvI (.inl rfl) rfl) ?_
  refine RG.pv rfl (PV.move (v := v) rfl rfl) ?_
  refine RG.pv rfl (PV.len (v := v) rfl Tryz.underlying34 rfl (SlF.r h1)) ?_
  refine RG.pv rfl (PV.lss rfl rfl rfl) ?_
  refine RG.nil ?_
  refine WP.cond rfl (fun h2 => ?_) (fun h2 => ?_)
  · have h2 := of_decide_eq_true h2
    refine WP.skip ?_
    refine WP.seq ?_
    refine WP.block ?_
    refine WP.region ?_
    refine RG.pv rfl (PV.move (v := v7) rfl rfl) ?_
    refine RG.pv rfl (PV.mvI (.inl rfl) rfl) ?_
    refine RG.pv rfl (PV.move (v := v) rfl rfl) ?_
    refine RG.pv rfl (PV.mvI (.inl rfl) rfl) ?_
    refine RG.pv rfl (PV.idxS (v := v) rfl Is34 rfl (SlF.r h1) rfl rfl (by omega)) ?_
    refine RG.pv rfl (PV.loadE1 rfl Sc2 rfl rfl (El.r h1 (getG (by omega))) rfl) ?_
    refine RG.pv rfl (PV.idxS (v := v7) rfl Is34 rfl SlF.o rfl rfl (by omega)) ?_
    refine RG.ot rfl (OT.storeE (F := intT) rfl Sz2 rfl rfl rfl (Cl.c rfl) (OneC.c rfl) (by omega) ?_)
    refine RG.nil ?_
    refine WP.region ?_
    refine RG.pv rfl (PV.mvI (.inl rfl) rfl) ?_
    refine RG.pv rfl (PV.add rfl rfl rfl (by omega)) ?_
    refine RG.pv rfl (PV.mvI (.inr rfl) rfl) ?_
    refine RG.nil ?_
    exact ⟨rfl, i + 1, _, ⟨by omega, by simpa using hl, set_pre he (getG (by omega)) hl⟩, ⟨rfl, trivial⟩, ⟨rfl, rfl, trivial⟩, Cv.p, by omega⟩
  · have h2 := of_decide_eq_false h2
    obtain rfl := pre_eq he hl (by omega)
    refine WP.exit ?_
    refine WP.seq ?_
    refine WP.region ?_
    refine RG.pv rfl (PV.move (v := v7) rfl rfl) ?_
    refine RG.pv rfl (PV.asg (v := v7) rfl rfl) ?_
    refine RG.nil ?_
    refine WP.ret ?_
    exact ⟨_, _, ResV.one rfl rfl, Cv.p, k v7⟩
theorem markCellB_s {v : Value} {xs : List Cell} {k0 : Int} (hf : few (erCls xs)) (hk : 0 ≤ k0 ∧ k0 ≤ 1000) (k : ∀ r : Int, 0 ≤ r ∧ r ≤ 40000000000000 → R (vi r) G L) : CallT Tryz.prog 57 #[v, vi k0] G (osl 85 cellT v (xs) :: bagS 135 shapeT (shs (xs)) :: bagS 199 labelT (lbs (xs)) :: bagS 147 instT (ins (xs)) :: L) R := by
  refine CallT.bd (T := cellT) (v := v) (xs := xs) Rs.o fun hb2 => ?_
  have hb : xs.length ≤ 1048576 := by have := hf.1; rwa [erCls_len] at this
  refine CallT.cv (L' := osl 85 cellT v xs :: bagS 135 shapeT (shs (xs.drop 0)) :: bagS 199 labelT (lbs (xs.drop 0)) :: bagS 147 instT (ins (xs.drop 0)) :: L) (by rw [List.drop_zero]; exact Cv.refl _) ?_
  refine CallT.enter (args := _) Tryz.func57 rfl rfl (by kernel_rfl) rfl ?_
  refine WP.seq ?_
  refine WP.region ?_
  refine RG.pv rfl (PV.mvI (.inr rfl) rfl) ?_
  refine RG.nil ?_
  refine WP.seq ?_
  refine WP.seq ?_
  refine WP.region ?_
  refine RG.pv rfl (PV.mvI (.inr rfl) rfl) ?_
  refine RG.nil ?_
  refine WP.block ?_
  refine WP.loop3 [0] (fun (i : Nat) (kk : Int) (ys : List Cell) => i ≤ xs.length ∧ (0 ≤ kk ∧ kk ≤ 1000 + 20000000 * i) ∧ ys.length = xs.length ∧ ∀ j, i ≤ j → j < xs.length → gd ys j = gd xs j) (fun (i : Nat) (kk : Int) (ys : List Cell) => [(5, vi i), (1, vi kk)]) (fun (i : Nat) (kk : Int) (ys : List Cell) => osl 85 cellT v ys :: bagS 135 shapeT (shs (xs.drop i)) :: bagS 199 labelT (lbs (xs.drop i)) :: bagS 147 instT (ins (xs.drop i)) :: L) (fun (i : Nat) (kk : Int) (ys : List Cell) => xs.length - i) 0 k0 xs ⟨by omega, by omega, rfl, fun j _ _ => rfl⟩ ⟨rfl, rfl, trivial⟩ Cv.p ?_
  rintro i kk ys τ ⟨hi, hkk, hl, he⟩
  refine WP.seq ?_
  refine WP.seq ?_
  refine WP.region ?_
  refine RG.pv rfl (PV.mvI (.inl rfl) rfl) ?_
  refine RG.pv rfl (PV.move (v := v) rfl rfl) ?_
  refine RG.pv rfl (PV.len (v := v) rfl Tryz.underlying28 rfl SlF.o) ?_
  refine RG.pv rfl (PV.lss rfl rfl rfl) ?_
  refine RG.nil ?_
  refine WP.cond rfl (fun h1 => ?_) (fun h1 => ?_)
  · have h1 := of_decide_eq_true h1
    have h2 : i < xs.length := by omega
    have h3 : i < ys.length := by omega
    have hg := he i (by omega) h2
    obtain ⟨f1, f2, f3⟩ := few.one hf h2
    have hq := nLb_cost (gd xs i).labels.xs
    have hq1 := nSh_cost (gd xs i).shapes.xs
    have hq3 := nIn_cost (gd xs i).insts.xs
    have hs1 : (gd (ys.set i (Cell.s0 (mText kk) (gd ys i))) i).shapes.v = (gd xs i).shapes.v := by rw [gd_setE' h3]; simp [hg]
    have hs2 : (gd (ys.set i (Cell.s0 (mText kk) (gd ys i))) i).labels.v = (gd xs i).labels.v := by rw [gd_setE' h3]; simp [hg]
    have hs3 : (gd (ys.set i (Cell.s0 (mText kk) (gd ys i))) i).insts.v = (gd xs i).insts.v := by rw [gd_setE' h3]; simp [hg]
    refine WP.cv (Cv.cons (Cv.uncons3 (s1 := (gd xs i).shapes) (y1' := shs (xs.drop (i + 1))) (s2 := (gd xs i).labels) (y2' := lbs (xs.drop (i + 1))) (s3 := (gd xs i).insts) (y3' := ins (xs.drop (i + 1))) (by rw [drop_gd h2]; rfl) (by rw [drop_gd h2]; rfl) (by rw [drop_gd h2]; rfl))) ?_
    refine WP.skip ?_
    refine WP.seq ?_
    refine WP.block ?_
    refine WP.seq ?_
    refine WP.region ?_
    refine RG.pv rfl (PV.move (v := v) rfl rfl) ?_
    refine RG.pv rfl (PV.mvI (.inl rfl) rfl) ?_
    refine RG.pv rfl (PV.mvI (.inl rfl) rfl) ?_
    refine RG.callF (vs := [_]) rfl rfl En103 rfl (markText_s (by omega) ?_)
    refine RG.pv rfl (PV.idxS (v := v) rfl Is28 rfl SlF.o rfl rfl (by omega)) ?_
    refine RG.pv rfl (PV.field rfl Fo85_0 rfl) ?_
    refine RG.ot rfl (OT.storeF (F := cellT) (val := Value.string) (cv := fun u => [.string u]) (st := Cell.s0) rfl Sz9 rfl rfl rfl (Cl.c rfl) rfl (OneC.c rfl) (by exact set_self (by omega)) (by first | omega | (simp; omega)) rfl (fun _ _ => rfl) ?_)
    refine RG.nil ?_
    refine WP.seq ?_
    refine WP.region ?_
    refine RG.pv rfl (PV.mvI (.inl rfl) rfl) ?_
    refine RG.pv rfl (PV.add rfl rfl rfl (by first | omega | (simp only [List.length_set]; omega))) ?_
    refine RG.pv rfl (PV.mvI (.inr rfl) rfl) ?_
    refine RG.nil ?_
    refine WP.seq ?_
    refine WP.region ?_
    refine RG.pv rfl (PV.move (v := v) rfl rfl) ?_
    refine RG.pv rfl (PV.mvI (.inl rfl) rfl) ?_
    refine RG.pv rfl (PV.idxS (v := v) rfl Is28 rfl SlF.o rfl rfl (by first | omega | (simp only [List.length_set]; omega))) ?_
    refine RG.pv rfl (PV.field rfl Fo85_1 rfl) ?_
    refine RG.pv rfl (PV.loadF rfl Sc76 rfl rfl (El.o (getG (by first | omega | (simp only [List.length_set]; omega)))) rfl) ?_
    refine RG.pv rfl (PV.mvI (.inl rfl) rfl) ?_
    refine RG.callF (vs := [_, _]) rfl rfl En104 rfl (CallT.eqv hs1 (CallT.exS (gd xs i).shapes.v (markShapeS_s (by omega) (by omega) ?_)))
    refine RG.pv rfl (PV.mvI (.inr rfl) rfl) ?_
    refine RG.nil ?_
    refine WP.seq ?_
    refine WP.region ?_
    refine RG.pv rfl (PV.move (v := v) rfl rfl) ?_
    refine RG.pv rfl (PV.mvI (.inl rfl) rfl) ?_
    refine RG.pv rfl (PV.idxS (v := v) rfl Is28 rfl SlF.o rfl rfl (by first | omega | (simp only [List.length_set]; omega))) ?_
    refine RG.pv rfl (PV.field rfl Fo85_2 rfl) ?_
    refine RG.pv rfl (PV.loadF rfl Sc82 rfl rfl (El.o (getG (by first | omega | (simp only [List.length_set]; omega)))) rfl) ?_
    refine RG.pv rfl (PV.mvI (.inl rfl) rfl) ?_
    refine RG.callF (vs := [_, _]) rfl rfl En105 rfl (CallT.eqv hs2 (CallT.exS (gd xs i).labels.v (markLabelS_s (by omega) (by omega) ?_)))
    refine RG.pv rfl (PV.mvI (.inr rfl) rfl) ?_
    refine RG.nil ?_
    refine WP.region ?_
    refine RG.pv rfl (PV.move (v := v) rfl rfl) ?_
    refine RG.pv rfl (PV.mvI (.inl rfl) rfl) ?_
    refine RG.pv rfl (PV.idxS (v := v) rfl Is28 rfl SlF.o rfl rfl (by first | omega | (simp only [List.length_set]; omega))) ?_
    refine RG.pv rfl (PV.field rfl Fo85_3 rfl) ?_
    refine RG.pv rfl (PV.loadF rfl Sc83 rfl rfl (El.o (getG (by first | omega | (simp only [List.length_set]; omega)))) rfl) ?_
    refine RG.pv rfl (PV.mvI (.inl rfl) rfl) ?_
    refine RG.callF (vs := [_, _]) rfl rfl En106 rfl (CallT.eqv hs3 (CallT.exS (gd xs i).insts.v (markInstS_s (by omega) (by omega) ?_)))
    refine RG.pv rfl (PV.mvI (.inr rfl) rfl) ?_
    refine RG.nil ?_
    refine WP.region ?_
    refine RG.pv rfl (PV.mvI (.inl rfl) rfl) ?_
    refine RG.pv rfl (PV.add rfl rfl rfl (by first | omega | (simp only [List.length_set]; omega))) ?_
    refine RG.pv rfl (PV.mvI (.inr rfl) rfl) ?_
    refine RG.nil ?_
    refine ⟨rfl, i + 1, _, (ys.set i (Cell.s0 (mText kk) (gd ys i))), ⟨by omega, by omega, by simpa using hl, fun j hj hj' => ?_⟩, ⟨rfl, rfl, trivial⟩, ⟨rfl, trivial⟩, Cv.p, by omega⟩
    rw [gd_setN (by omega)]; exact he j (by omega) hj'
  · have h1 := of_decide_eq_false h1
    refine WP.exit ?_
    refine WP.seq ?_
    refine WP.region ?_
    refine RG.pv rfl (PV.mvI (.inl rfl) rfl) ?_
    refine RG.pv rfl (PV.mvI (.inr rfl) rfl) ?_
    refine RG.nil ?_
    refine WP.ret ?_
    exact ⟨_, _, ResV.one rfl rfl, Cv.p, k _ (by omega)⟩
theorem markLibB_s {l : Lib} {k0 : Int} (hf : few (erCls l.cells.xs)) (hk : 0 ≤ k0 ∧ k0 ≤ 1000) (k : ∀ r : Int, 0 ≤ r ∧ r ≤ 40000000000000 → R (vi r) G L) : CallT Tryz.prog 18 #[vT libT l, vi k0] G (osl 85 cellT l.cells.v (l.cells.xs) :: bagS 135 shapeT (shs (l.cells.xs)) :: bagS 199 labelT (lbs (l.cells.xs)) :: bagS 147 instT (ins (l.cells.xs)) :: L) R := by
  refine CallT.enter (args := _) Tryz.func18 rfl rfl (by kernel_rfl) rfl ?_
  refine WP.seq ?_
  refine WP.region ?_
  refine RG.ot rfl (OT.box (cs := libT.enc l) rfl rfl rfl fun b2 => ?_)
  refine RG.pv rfl (PV.mvI (.inr rfl) rfl) ?_
  refine RG.nil ?_
  refine WP.seq ?_
  refine WP.region ?_
  refine RG.pv rfl (PV.field rfl Fo30_0 rfl) ?_
  refine RG.pv rfl (PV.load1 rfl Sc28 rfl (Rd.blk rfl)) ?_
  refine RG.pv rfl (PV.mvI (.inl rfl) rfl) ?_
  refine RG.callF (vs := [_, _]) rfl rfl En57 rfl (CallT.cv (Cv.p (C := osl 85 cellT l.cells.v (l.cells.xs) :: bagS 135 shapeT (shs (l.cells.xs)) :: bagS 199 labelT (lbs (l.cells.xs)) :: bagS 147 instT (ins (l.cells.xs)) :: L)) (markCellB_s hf hk (fun r hr => ?_)))
  refine RG.pv rfl (PV.mvI (.inr rfl) rfl) ?_
  refine RG.nil ?_
  refine WP.seq ?_
  refine WP.region ?_
  refine RG.pv rfl (PV.mvI (.inl rfl) rfl) ?_
  refine RG.pv rfl (PV.mvI (.inr rfl) rfl) ?_
  refine RG.nil ?_
  refine WP.ret ?_
  exact ⟨_, _, ResV.one rfl rfl, Cv.p, k _ hr⟩
theorem law_RestLayout {l : Lib} {cell : Int} {v : Value} {ls : List Int} (hA : RLib G L l.cells.v l.cells.xs) (hlen : lenC (erCls l.cells.xs)) (hE5 : Rs G L intT v ls) (k : R (.bool true) G L) : CallT Tryz.prog 6 #[vT libT l, vi cell, v] G L R := by
  refine CallT.enter (args := _) Tryz.func6 rfl rfl (by kernel_rfl) rfl ?_
  refine WP.seq ?_
  refine WP.region ?_
  refine RG.ot rfl (OT.box (cs := libT.enc l) rfl rfl rfl fun b3 => ?_)
  refine RG.pv rfl (PV.mvB (.inr rfl) rfl) ?_
  refine RG.nil ?_
  refine WP.seq ?_
  refine WP.seq ?_
  refine WP.region ?_
  refine RG.pv rfl (PV.move (v := v) rfl rfl) ?_
  refine RG.pv rfl (PV.len (v := v) rfl Tryz.underlying34 rfl (SlF.r hE5)) ?_
  refine RG.pv rfl (PV.gtr rfl rfl rfl) ?_
  refine RG.nil ?_
  refine WP.cond rfl (fun h1 => ?_) (fun h1 => ?_)
  · refine WP.seq ?_
    refine WP.region ?_
    refine RG.pv rfl (PV.mvB (.inr rfl) rfl) ?_
    refine RG.nil ?_
    refine WP.ret ?_
    exact ⟨_, _, ResV.one rfl rfl, Cv.p, k⟩
  · have h1 := of_decide_eq_false h1
    have hb5 : ls.length ≤ 1048576 := by omega
    refine WP.skip ?_
    refine WP.seq ?_
    refine WP.region ?_
    refine RG.pv rfl (PV.mvI (.inr rfl) rfl) ?_
    refine RG.nil ?_
    refine WP.seq ?_
    refine WP.region ?_
    refine RG.pv rfl (PV.loadW rfl Ag24 rfl rfl) ?_
    refine RG.pv rfl (PV.mvI (.inl rfl) rfl) ?_
    refine RG.callF (vs := [_, _]) rfl rfl En10 rfl (szLib_s hA.up hlen (by omega) (by omega) (fun r hr => ?_))
    refine RG.pv rfl (PV.mvI (.inr rfl) rfl) ?_
    refine RG.nil ?_
    refine WP.seq ?_
    refine WP.seq ?_
    refine WP.region ?_
    refine RG.pv rfl (PV.mvI (.inl rfl) rfl) ?_
    refine RG.pv rfl (PV.lss rfl rfl rfl) ?_
    refine RG.nil ?_
    refine WP.cond rfl (fun h2 => ?_) (fun h2 => ?_)
    · refine WP.seq ?_
      refine WP.region ?_
      refine RG.pv rfl (PV.mvB (.inr rfl) rfl) ?_
      refine RG.nil ?_
      refine WP.ret ?_
      exact ⟨_, _, ResV.one rfl rfl, Cv.p, k⟩
    · have h2 := of_decide_eq_false h2
      have hf := hr (by omega)
      have hci := nI_cost ls
      refine WP.skip ?_
      refine WP.seq ?_
      refine WP.region ?_
      refine RG.pv rfl (PV.loadW rfl Ag24 rfl rfl) ?_
      refine RG.callF (vs := [_]) rfl rfl En12 rfl (toLib_s hA.up hf (fun w29 ysw29 hew29 => ?_))
      refine RG.pv rfl (PV.mvI (.inl rfl) rfl) ?_
      refine RG.pv rfl (PV.move (v := v) rfl rfl) ?_
      refine RG.callF (vs := [v]) rfl rfl En27 rfl (toInt64S_s (Rs.up hE5) hb5 (fun v32 => ?_))
      refine RG.callF (vs := [_, _, v32]) rfl rfl En26 rfl (rLay_r (l := ⟨⟨w29, ysw29⟩⟩) ⟨Rs.o, RsE.o, RsE.o, RsE.o⟩ (by rw [hew29]; exact hlen) Rs.o (fun w33 rsw33 hrsw33 => ?_))
      refine RG.pv rfl (PV.move (v := .tuple _) rfl rfl) ?_
      refine RG.pv rfl (PV.ext (v := w33) rfl rfl rfl) ?_
      refine RG.pv rfl (PV.ext rfl rfl rfl) ?_
      refine RG.pv rfl (PV.asg (v := w33) rfl rfl) ?_
      refine RG.pv rfl (PV.mvI (.inr rfl) rfl) ?_
      refine RG.nil ?_
      refine WP.seq ?_
      refine WP.region ?_
      refine RG.pv rfl (PV.loadW rfl Ag24 rfl rfl) ?_
      refine RG.callF (vs := [_]) rfl rfl En12 rfl (toLib_s hA.up hf (fun w37 ysw37 hew37 => ?_))
      refine RG.ot rfl (OT.alloc rfl Zr30 fun b10 => ?_)
      refine RG.ot rfl (OT.storeW (vs := [_]) rfl Sz30 rfl rfl (Cl.c rfl) rfl rfl (OneC.sl (SlF.o (v := w37)) OneC.nil) ?_)
      refine RG.nil ?_
      refine WP.seq ?_
      refine WP.region ?_
      refine RG.pv rfl (PV.move (v := v) rfl rfl) ?_
      refine RG.callF (vs := [v]) rfl rfl En27 rfl (toInt64S_s (Rs.up hE5) hb5 (fun v39 => ?_))
      refine RG.pv rfl (PV.asg (v := v39) rfl rfl) ?_
      refine RG.nil ?_
      refine WP.seq ?_
      refine WP.region ?_
      refine RG.pv rfl (PV.loadW rfl Ag30 rfl rfl) ?_
      refine RG.pv rfl (PV.mvI (.inl rfl) rfl) ?_
      refine RG.pv rfl (PV.move (v := v39) rfl rfl) ?_
      refine RG.callF (vs := [_, _, v39]) rfl rfl En28 rfl (rLay_i (l := ⟨⟨w37, ysw37⟩⟩) ⟨Rs.o, RsE.o, RsE.o, RsE.o⟩ (by rw [hew37]; exact hlen) Rs.o (fun w44 rsw44 hrsw44 => ?_))
      refine RG.pv rfl (PV.move (v := .tuple _) rfl rfl) ?_
      refine RG.pv rfl (PV.ext (v := w44) rfl rfl rfl) ?_
      refine RG.pv rfl (PV.ext rfl rfl rfl) ?_
      refine RG.pv rfl (PV.asg (v := w44) rfl rfl) ?_
      refine RG.pv rfl (PV.mvI (.inr rfl) rfl) ?_
      refine RG.nil ?_
      refine WP.seq ?_
      refine WP.seq ?_
      refine WP.region ?_
      refine RG.pv rfl (PV.move (v := w44) rfl rfl) ?_
      refine RG.pv rfl (PV.move (v := w33) rfl rfl) ?_
      refine RG.callF (vs := [w44, w33]) rfl rfl En23 rfl (eqRectSS_s Rs.o RsE.o Rs.o RsE.o ?_)
      refine RG.pv rfl (PV.not rfl rfl) ?_
      refine RG.pv rfl (PV.mvB (.inl rfl) rfl) ?_
      refine RG.gs rfl rfl rfl (fun hp => (PV.mvI (.inl rfl) rfl)) ?_
      refine RG.gs rfl rfl rfl (fun hp => (PV.mvI (.inl rfl) rfl)) ?_
      refine RG.gs rfl rfl rfl (fun hp => (PV.neq rfl (gs_t hp) (gs_t hp))) ?_
      refine RG.pv rfl (PV.pickO rfl rfl rfl (fun hq => gs_t (geqF hq))) ?_
      refine RG.nil ?_
      refine WP.cond rfl (fun h3 => ?_) (fun h3 => ?_)
      · simp [hrsw33, hrsw44, hew29, hew37] at h3
      · refine WP.skip ?_
        refine WP.seq ?_
        refine WP.seq ?_
        refine WP.regionH0 (.q 0 (.q 1 (.l 2 (.l 3 (.q 4 Sch.nil))))) (by kernel_rfl) (by kernel_rfl) (by kernel_rfl) rfl ?_
        refine RH.pv rfl (fun _ _ _ _ h => h) (Gh.le_refl _) PickC.pick rfl (PV.loadW rfl Ag30 rfl rfl) ?_
        refine RH.pv rfl (fun _ _ _ _ h => h) (Gh.le_refl _) PickC.pick rfl (PV.loadW rfl Ag24 rfl rfl) ?_
        refine RH.ot rfl rfl (OT.callF (vs := [_]) rfl En12 rfl (toLib_s hA.up hf (fun w58 ysw58 hew58 => ⟨Gh.le_refl _, PickC.pick, ?_⟩)))
        refine RH.ot rfl rfl (OT.callF (vs := [_, _]) rfl En14 rfl (eqLib_s (l := ⟨⟨w37, ysw37⟩⟩) (m := ⟨⟨w58, ysw58⟩⟩) ⟨Rs.o, RsE.o, RsE.o, RsE.o⟩ ⟨Rs.o, RsE.o, RsE.o, RsE.o⟩ (by rw [hew37, hew58]) ⟨Gh.le_refl _, PickC.pick, ?_⟩))
        refine RH.pv rfl (fun _ _ _ _ h => h) (Gh.le_refl _) PickC.pick rfl (PV.not rfl rfl) ?_
        refine RH.nil ?_
        refine WP.cond rfl (fun h4 => ?_) (fun h4 => ?_)
        · simp at h4
        · refine WP.skip ?_
          refine WP.seq ?_
          refine WP.seq ?_
          refine WP.region ?_
          refine RG.pv rfl (PV.move (v := v39) rfl rfl) ?_
          refine RG.pv rfl (PV.move (v := v) rfl rfl) ?_
          refine RG.callF (vs := [v]) rfl rfl En27 rfl (toInt64S_s (Rs.up hE5) hb5 (fun v63 => ?_))
          refine RG.callF (vs := [v39, v63]) rfl rfl En17 rfl (eqInt_s Rs.o Rs.o ?_)
          refine RG.pv rfl (PV.not rfl rfl) ?_
          refine RG.nil ?_
          refine WP.cond rfl (fun h4 => ?_) (fun h4 => ?_)
          · simp at h4
          · have hcst := layL_cost _ rsw44 (by rw [hrsw44]; exact rLay_cases _ _ _)
            refine WP.skip ?_
            refine WP.seq ?_
            refine WP.region ?_
            refine RG.pv rfl (PV.mvI (.inr rfl) rfl) ?_
            refine RG.nil ?_
            refine WP.seq ?_
            refine WP.region ?_
            refine RG.pv rfl (PV.loadW rfl Ag30 rfl rfl) ?_
            refine RG.pv rfl (PV.mvI (.inl rfl) rfl) ?_
            refine RG.callF (vs := [_, _]) rfl rfl En18 rfl (CallT.exBg (ins ysw37) (CallT.exBg (lbs ysw37) (CallT.exBg (shs ysw37) (CallT.exS w37 (markLibB_s (l := ⟨⟨w37, ysw37⟩⟩) (by rw [hew37]; exact hf) (by omega) (fun km hkm => ?_))))))
            refine RG.pv rfl (PV.mvI (.inr rfl) rfl) ?_
            refine RG.nil ?_
            refine WP.seq ?_
            refine WP.region ?_
            refine RG.pv rfl (PV.move (v := v39) rfl rfl) ?_
            refine RG.pv rfl (PV.mvI (.inl rfl) rfl) ?_
            refine RG.callF (vs := [v39, _]) rfl rfl En19 rfl (CallT.exS v39 (markInt_s (by omega) (by omega) ?_))
            refine RG.pv rfl (PV.mvI (.inr rfl) rfl) ?_
            refine RG.nil ?_
            refine WP.seq ?_
            refine WP.seq ?_
            refine WP.region ?_
            refine RG.pv rfl (PV.mvI (.inl rfl) rfl) ?_
            refine RG.pv rfl (PV.lss rfl rfl rfl) ?_
            refine RG.pv rfl (PV.mvB (.inl rfl) rfl) ?_
            refine RG.gs rfl rfl rfl (fun hp => (PV.move (v := w44) rfl rfl)) ?_
            refine RG.gs rfl rfl rfl (fun hp => (PV.move (v := w33) rfl rfl)) ?_
            refine RG.gsC rfl rfl rfl rfl En23 (fun hp => ⟨_, (acons (gs_t hp) (acons (gs_t hp) anil)), eqRectSS_s Rs.o RsE.o Rs.o RsE.o ⟨rfl, rfl, rfl⟩⟩) ?_
            refine RG.gs rfl rfl rfl (fun hp => (PV.not rfl (gs_t hp))) ?_
            refine RG.pv rfl (PV.pickO rfl rfl rfl (fun hq => gs_t (geqF hq))) ?_
            refine RG.pv rfl (PV.mvB (.inl rfl) rfl) ?_
            refine RG.gs rfl rfl rfl (fun hp => (PV.mvI (.inl rfl) rfl)) ?_
            refine RG.gs rfl rfl rfl (fun hp => (PV.mvI (.inl rfl) rfl)) ?_
            refine RG.gs rfl rfl rfl (fun hp => (PV.neq rfl (gs_t hp) (gs_t hp))) ?_
            refine RG.pv rfl (PV.pickO rfl rfl rfl (fun hq => gs_t (geqF hq))) ?_
            refine RG.nil ?_
            refine WP.cond rfl (fun h5 => ?_) (fun h5 => ?_)
            · exfalso
              have : ¬ km + costL nI ls < 0 := by omega
              simp [this, hrsw33, hrsw44, hew29, hew37] at h5
            · skip
              refine WP.skip ?_
              refine WP.seq ?_
              refine WP.region ?_
              refine RG.pv rfl (PV.mvI (.inr rfl) rfl) ?_
              refine RG.nil ?_
              refine WP.seq ?_
              refine WP.region ?_
              refine RG.pv rfl (PV.move (v := w44) rfl rfl) ?_
              refine RG.pv rfl (PV.mvI (.inl rfl) rfl) ?_
              refine RG.callF (vs := [w44, _]) rfl rfl En24 rfl (CallT.exBg rsw44 (CallT.exS w44 (markRectSS_s (by omega) (by omega) ?_)))
              refine RG.pv rfl (PV.mvI (.inr rfl) rfl) ?_
              refine RG.nil ?_
              refine WP.seq ?_
              refine WP.region ?_
              refine RG.pv rfl (PV.mvI (.inr rfl) rfl) ?_
              refine RG.nil ?_
              refine WP.seq ?_
              refine WP.region ?_
              refine RG.pv rfl (PV.move (v := w44) rfl rfl) ?_
              refine RG.pv rfl (PV.mvI (.inl rfl) rfl) ?_
              refine RG.callF (vs := [w44, _]) rfl rfl En25 rfl (heldRectSS_s Rs.o RsE.o (by omega) (by omega) ?_)
              refine RG.pv rfl (PV.mvI (.inr rfl) rfl) ?_
              refine RG.nil ?_
              refine WP.seq ?_
              refine WP.seq ?_
              refine WP.region ?_
              refine RG.pv rfl (PV.mvI (.inl rfl) rfl) ?_
              refine RG.pv rfl (PV.lss rfl rfl rfl) ?_
              refine RG.nil ?_
              refine WP.cond rfl (fun h6 => ?_) (fun h6 => ?_)
              · simp at h6; omega
              · refine WP.skip ?_
                refine WP.seq ?_
                refine WP.seq ?_
                refine WP.region ?_
                refine RG.pv rfl (PV.mvI (.inl rfl) rfl) ?_
                refine RG.pv rfl (PV.mvI (.inl rfl) rfl) ?_
                refine RG.pv rfl (PV.neq rfl rfl rfl) ?_
                refine RG.nil ?_
                refine WP.cond rfl (fun h7 => ?_) (fun h7 => ?_)
                · simp at h7
                · skip
                  refine WP.skip ?_
                  refine WP.seq ?_
                  refine WP.region ?_
                  refine RG.pv rfl (PV.loadW rfl Ag24 rfl rfl) ?_
                  refine RG.callF (vs := [_]) rfl rfl En12 rfl (toLib_s hA.up hf (fun w98 ysw98 hew98 => ?_))
                  refine RG.pv rfl (PV.mvI (.inl rfl) rfl) ?_
                  refine RG.pv rfl (PV.move (v := v) rfl rfl) ?_
                  refine RG.callF (vs := [v]) rfl rfl En27 rfl (toInt64S_s (Rs.up hE5) hb5 (fun v101 => ?_))
                  refine RG.callF (vs := [_, _, v101]) rfl rfl En28 rfl (rLay_i (l := ⟨⟨w98, ysw98⟩⟩) ⟨Rs.o, RsE.o, RsE.o, RsE.o⟩ (by rw [hew98]; exact hlen) Rs.o (fun w102 rsw102 hrsw102 => ?_))
                  refine RG.pv rfl (PV.move (v := .tuple _) rfl rfl) ?_
                  refine RG.pv rfl (PV.ext (v := w102) rfl rfl rfl) ?_
                  refine RG.pv rfl (PV.ext rfl rfl rfl) ?_
                  refine RG.pv rfl (PV.asg (v := w102) rfl rfl) ?_
                  refine RG.pv rfl (PV.mvI (.inr rfl) rfl) ?_
                  refine RG.nil ?_
                  refine WP.seq ?_
                  refine WP.seq ?_
                  refine WP.region ?_
                  refine RG.pv rfl (PV.move (v := w102) rfl rfl) ?_
                  refine RG.pv rfl (PV.move (v := w33) rfl rfl) ?_
                  refine RG.callF (vs := [w102, w33]) rfl rfl En23 rfl (eqRectSS_s Rs.o RsE.o Rs.o RsE.o ?_)
                  refine RG.pv rfl (PV.not rfl rfl) ?_
                  refine RG.pv rfl (PV.mvB (.inl rfl) rfl) ?_
                  refine RG.gs rfl rfl rfl (fun hp => (PV.mvI (.inl rfl) rfl)) ?_
                  refine RG.gs rfl rfl rfl (fun hp => (PV.mvI (.inl rfl) rfl)) ?_
                  refine RG.gs rfl rfl rfl (fun hp => (PV.neq rfl (gs_t hp) (gs_t hp))) ?_
                  refine RG.pv rfl (PV.pickO rfl rfl rfl (fun hq => gs_t (geqF hq))) ?_
                  refine RG.nil ?_
                  refine WP.cond rfl (fun h8 => ?_) (fun h8 => ?_)
                  · simp [hrsw33, hrsw102, hew29, hew98] at h8
                  · skip
                    refine WP.skip ?_
                    refine WP.seq ?_
                    refine WP.region ?_
                    refine RG.pv rfl (PV.mvI (.inr rfl) rfl) ?_
                    refine RG.nil ?_
                    refine WP.seq ?_
                    refine WP.region ?_
                    refine RG.pv rfl (PV.move (v := w44) rfl rfl) ?_
                    refine RG.pv rfl (PV.mvI (.inl rfl) rfl) ?_
                    refine RG.callF (vs := [w44, _]) rfl rfl En25 rfl (heldRectSS_s Rs.o RsE.o (by omega) (by omega) ?_)
                    refine RG.pv rfl (PV.mvI (.inr rfl) rfl) ?_
                    refine RG.nil ?_
                    refine WP.seq ?_
                    refine WP.seq ?_
                    refine WP.region ?_
                    refine RG.pv rfl (PV.mvI (.inl rfl) rfl) ?_
                    refine RG.pv rfl (PV.lss rfl rfl rfl) ?_
                    refine RG.nil ?_
                    refine WP.cond rfl (fun h9 => ?_) (fun h9 => ?_)
                    · simp at h9; omega
                    · refine WP.skip ?_
                      refine WP.seq ?_
                      refine WP.seq ?_
                      refine WP.region ?_
                      refine RG.pv rfl (PV.mvI (.inl rfl) rfl) ?_
                      refine RG.pv rfl (PV.mvI (.inl rfl) rfl) ?_
                      refine RG.pv rfl (PV.neq rfl rfl rfl) ?_
                      refine RG.nil ?_
                      refine WP.cond rfl (fun h10 => ?_) (fun h10 => ?_)
                      · simp at h10
                      · refine WP.skip ?_
                        refine WP.seq ?_
                        refine WP.region ?_
                        refine RG.pv rfl (PV.mvB (.inr rfl) rfl) ?_
                        refine RG.nil ?_
                        refine WP.ret ?_
                        exact ⟨_, _, ResV.one rfl rfl, Cv.p, k⟩
end Go.Proofs.YtbkaincaahcnfaaGreat
namespace Go.Proofs.YtbkaincaahcnfaaGreat
set_option linter.unusedVariables false
set_option linter.unusedSimpArgs false
open Go
set_option maxRecDepth 20000
set_option linter.unusedSimpArgs false
variable {G : Gh} {L : List Ch} {R : Value → Gh → List Ch → Prop}
def mkPc (p : Piece) (k : Int) : Piece := ⟨k, mkRS p.reg (k + 1)⟩
def nPc (p : Piece) : Int := 1 + nRS p.reg
theorem nPc_nn (p : Piece) : 0 ≤ nPc p := by have : 0 ≤ nRS p.reg := nSl_nn p.reg; simp only [nPc]; omega
theorem flat_setEq {α : Type} {F : FT α} {zs : List α} {i : Nat} {p q : α} (h : F.enc p = F.enc q) : F.flat (zs.set i p) = F.flat (zs.set i q) := by
  simp only [FT.flat, List.flatMap_def, List.map_set, h]
/-- only what lies in memory matters -/
theorem Cv.flat {α : Type} {e : TypeId} {F : FT α} {v : Value} {xs ys : List α} {L : List Ch} (h : F.flat xs = F.flat ys) (hl : xs.length = ys.length) : Cv (osl e F v xs :: L) (osl e F v ys :: L) :=
  Cv.imp fun hp hc => by
    rcases hc with ⟨rfl, rfl⟩ | ⟨b, cap, c, h1, h2, h3, h4, h5, h6⟩
    · exact .inl ⟨rfl, List.eq_nil_of_length_eq_zero (by simpa using hl.symm)⟩
    · exact .inr ⟨b, cap, c, by rw [← hl]; exact h1, h2, by rw [← hl]; exact h3, h4, h5, by rw [← hl, ← h]; exact h6⟩
theorem CallT.eq2 {P : Program} {f : FuncId} {v v' x : Value} (h : v = v') (k : CallT P f #[v', x] G L R) : CallT P f #[v, x] G L R := by subst h; exact k
theorem regs_set (zs : List Piece) (i : Nat) (p : Piece) : regs (zs.set i p) = (regs zs).set i p.reg := by simp [regs, List.map_set]
/-- a piece's region, out of the bag and written, goes back -/
theorem Cv.slotP {e e' : TypeId} {v : Value} {zs : List Piece} {p q : Piece} {ys : List Rect} {L : List Ch} (i : Nat) (hi : i < zs.length) (hq : q = ⟨p.layer, ⟨(gd zs i).reg.v, ys⟩⟩) (hp : p.reg.v = (gd zs i).reg.v) :
    Cv (osl e rectT (gd (regs zs) i).v ys :: osl e' pieceT v (zs.set i p) :: bag (((regs zs).map (ownS e rectT)).set i emp) :: L) (osl e' pieceT v (zs.set i q) :: bagS e rectT (regs (zs.set i q)) :: L) := by
  subst hq
  have h1 : Cv (osl e rectT (gd (regs zs) i).v ys :: osl e' pieceT v (zs.set i p) :: bag (((regs zs).map (ownS e rectT)).set i emp) :: L) (osl e' pieceT v (zs.set i p) :: osl e rectT (gd (regs zs) i).v ys :: bag (((regs zs).map (ownS e rectT)).set i emp) :: L) := Cv.swap (A := [osl e rectT (gd (regs zs) i).v ys]) (B := [osl e' pieceT v (zs.set i p)])
  refine h1.trans ((Cv.cons (Cv.bagS_put i (by rw [regs_len]; exact hi))).trans ?_)
  rw [regs_set, regs_gd hi]
  exact Cv.flat (flat_setEq (by simp [pieceT, hp])) (by simp)
theorem markPieceS_s {v : Value} {xs : List Piece} {k0 : Int} (hk : 0 ≤ k0) (hb : k0 + costL nPc xs ≤ 4611686018427387904) (k : R (vi (k0 + costL nPc xs)) G (osl 96 pieceT v (markL mkPc nPc xs k0) :: bagS 116 rectT (regs (markL mkPc nPc xs k0)) :: L)) :
    CallT Tryz.prog 32 #[v, vi k0] G (osl 96 pieceT v xs :: bagS 116 rectT (regs xs) :: L) R := by
  refine CallT.bd (T := pieceT) (v := v) (xs := xs) Rs.o fun hb2 => ?_
  refine CallT.cv (L' := osl 96 pieceT v (markTo mkPc nPc xs k0 0) :: bagS 116 rectT (regs (markTo mkPc nPc xs k0 0)) :: L) (Cv.cast (by rw [markTo_zero])) ?_
  refine CallT.enter (args := _) Tryz.func32 rfl rfl (by kernel_rfl) rfl ?_
  refine WP.seq ?_
  refine WP.region ?_
  refine RG.pv rfl (PV.mvI (.inr rfl) rfl) ?_
  refine RG.nil ?_
  refine WP.seq ?_
  refine WP.seq ?_
  refine WP.region ?_
  refine RG.pv rfl (PV.mvI (.inr rfl) rfl) ?_
  refine RG.nil ?_
  refine WP.block ?_
  refine WP.loop2 [0] (fun (i : Nat) (kk : Int) => i ≤ xs.length ∧ kk = k0 + costL nPc (xs.take i)) (fun (i : Nat) (kk : Int) => [(5, vi i), (1, vi kk)]) (fun (i : Nat) (kk : Int) => osl 96 pieceT v (markTo mkPc nPc xs k0 i) :: bagS 116 rectT (regs (markTo mkPc nPc xs k0 i)) :: L) (fun (i : Nat) (kk : Int) => xs.length - i) 0 k0 ⟨by omega, by simp [costL]⟩ ⟨rfl, rfl, trivial⟩ Cv.p ?_
  rintro i kk τ ⟨hi, hkk⟩
  refine WP.seq ?_
  refine WP.seq ?_
  refine WP.region ?_
  refine RG.pv rfl (PV.mvI (.inl rfl) rfl) ?_
  refine RG.pv rfl (PV.move (v := v) rfl rfl) ?_
  refine RG.pv rfl (PV.len (v := v) rfl Tryz.underlying49 rfl SlF.o) ?_
  refine RG.pv rfl (PV.lss rfl rfl rfl) ?_
  refine RG.nil ?_
  have hml := markTo_len (mk := mkPc) (n := nPc) (k := k0) hi
  refine WP.cond rfl (fun h1 => ?_) (fun h1 => ?_)
  · have h1 := of_decide_eq_true h1
    have h2 : i < xs.length := by omega
    have hmg := markTo_gd (mk := mkPc) (n := nPc) (k := k0) h2
    have hc := costL_take nPc h2
    have hc1 : costL nPc (xs.take (i + 1)) ≤ costL nPc xs := costL_le nPc_nn xs (i + 1)
    have hc2 : 0 ≤ costL nPc (xs.take i) := costL_nonneg nPc_nn (xs.take i)
    have hc3 : 0 ≤ nRS (gd xs i).reg := nSl_nn (gd xs i).reg
    have hc5 : nPc (gd xs i) = 1 + nRS (gd xs i).reg := rfl
    have hgi : gd (regs (markTo mkPc nPc xs k0 i)) i = (gd xs i).reg := by rw [regs_gd (by omega), hmg]
    have hc4 : costL nRect (gd (regs (markTo mkPc nPc xs k0 i)) i).xs = nRS (gd xs i).reg := by rw [hgi]; rfl
    have hgs : (gd ((markTo mkPc nPc xs k0 i).set i (Piece.s0 kk (gd (markTo mkPc nPc xs k0 i) i))) i).reg.v = (gd (regs (markTo mkPc nPc xs k0 i)) i).v := by
      rw [hgi]; simp [gd, hml, h2, ← hmg]
    refine WP.cv (Cv.cons (Cv.bagS_take i (by rw [regs_len]; omega))) ?_
    refine WP.skip ?_
    refine WP.seq ?_
    refine WP.block ?_
    refine WP.seq ?_
    refine WP.region ?_
    refine RG.pv rfl (PV.move (v := v) rfl rfl) ?_
    refine RG.pv rfl (PV.mvI (.inl rfl) rfl) ?_
    refine RG.pv rfl (PV.mvI (.inl rfl) rfl) ?_
    refine RG.pv rfl (PV.idxS (v := v) rfl Is49 rfl SlF.o rfl rfl (by omega)) ?_
    refine RG.pv rfl (PV.field rfl Fo96_0 rfl) ?_
    refine RG.ot rfl (OT.storeF (F := pieceT) (val := vi) (cv := fun u => [vi u]) (st := Piece.s0) rfl Sz2 rfl rfl rfl (Cl.c rfl) rfl (OneC.c rfl) (by exact set_self (by omega)) (by first | omega | (simp; omega)) rfl (fun _ _ => rfl) ?_)
    refine RG.nil ?_
    refine WP.seq ?_
    refine WP.region ?_
    refine RG.pv rfl (PV.mvI (.inl rfl) rfl) ?_
    refine RG.pv rfl (PV.add rfl rfl rfl (by first | omega | (simp only [List.length_set]; omega))) ?_
    refine RG.pv rfl (PV.mvI (.inr rfl) rfl) ?_
    refine RG.nil ?_
    refine WP.region ?_
    refine RG.pv rfl (PV.move (v := v) rfl rfl) ?_
    refine RG.pv rfl (PV.mvI (.inl rfl) rfl) ?_
    refine RG.pv rfl (PV.idxS (v := v) rfl Is49 rfl SlF.o rfl rfl (by first | omega | (simp only [List.length_set]; omega))) ?_
    refine RG.pv rfl (PV.field rfl Fo96_1 rfl) ?_
    refine RG.pv rfl (PV.loadF rfl Sc59 rfl rfl (El.o (getG (by first | omega | (simp only [List.length_set]; omega)))) rfl) ?_
    refine RG.pv rfl (PV.mvI (.inl rfl) rfl) ?_
    refine RG.callF (vs := [_, _]) rfl rfl En42 rfl (CallT.eq2 hgs (CallT.exS (gd (regs (markTo mkPc nPc xs k0 i)) i).v (markRectS_s (by omega) (by omega) ?_)))
    refine RG.pv rfl (PV.mvI (.inr rfl) rfl) ?_
    refine RG.nil ?_
    refine WP.region ?_
    refine RG.pv rfl (PV.mvI (.inl rfl) rfl) ?_
    refine RG.pv rfl (PV.add rfl rfl rfl (by first | omega | (simp only [List.length_set]; omega))) ?_
    refine RG.pv rfl (PV.mvI (.inr rfl) rfl) ?_
    refine RG.nil ?_
    exact ⟨rfl, i + 1, _, ⟨by omega, by rw [hc]; omega⟩, ⟨rfl, rfl, trivial⟩, ⟨rfl, trivial⟩, ((Cv.slotP (zs := markTo mkPc nPc xs k0 i) (p := Piece.s0 kk (gd (markTo mkPc nPc xs k0 i) i)) (q := mkPc (gd xs i) (k0 + costL nPc (xs.take i))) (ys := markL mkRect nRect (gd (regs (markTo mkPc nPc xs k0 i)) i).xs (kk + 1)) i (by omega) (by rw [hgi, hmg, mkPc, ← hkk]; rfl) rfl).trans (Cv.cast (by rw [← markTo_set h2]))), by omega⟩
  · have h1 := of_decide_eq_false h1
    have e : kk = k0 + costL nPc xs := by rw [hkk, List.take_of_length_le (by omega)]
    rw [← e] at k
    refine WP.exit ?_
    refine WP.seq ?_
    refine WP.region ?_
    refine RG.pv rfl (PV.mvI (.inl rfl) rfl) ?_
    refine RG.pv rfl (PV.mvI (.inr rfl) rfl) ?_
    refine RG.nil ?_
    refine WP.ret ?_
    exact ⟨_, _, ResV.one rfl rfl, (Cv.cast (by rw [markTo_all (by omega)])), k⟩
theorem heldPieceS_s {v : Value} {xs : List Piece} {k0 : Int} (h0 : Rs G L pieceT v (markL mkPc nPc xs k0)) (hd : RsE G L rectT (regs (markL mkPc nPc xs k0))) (hk : 0 ≤ k0) (hb : k0 + costL nPc xs ≤ 4611686018427387904) (k : R (vi (k0 + costL nPc xs)) G L) : CallT Tryz.prog 33 #[v, vi k0] G L R := by
  have hml := markL_len mkPc nPc xs k0
  refine CallT.bd h0 fun hb2 => ?_
  refine CallT.enter (args := _) Tryz.func33 rfl rfl (by kernel_rfl) rfl ?_
  refine WP.seq ?_
  refine WP.region ?_
  refine RG.pv rfl (PV.mvI (.inr rfl) rfl) ?_
  refine RG.nil ?_
  refine WP.seq ?_
  refine WP.seq ?_
  refine WP.region ?_
  refine RG.pv rfl (PV.mvI (.inr rfl) rfl) ?_
  refine RG.nil ?_
  refine WP.block ?_
  refine WP.loop2 [0] (fun (i : Nat) (kk : Int) => i ≤ xs.length ∧ kk = k0 + costL nPc (xs.take i)) (fun (i : Nat) (kk : Int) => [(5, vi i), (1, vi kk)]) (fun (i : Nat) (kk : Int) => L) (fun (i : Nat) (kk : Int) => xs.length - i) 0 k0 ⟨by omega, by simp [costL]⟩ ⟨rfl, rfl, trivial⟩ Cv.p ?_
  rintro i kk τ ⟨hi, hkk⟩
  refine WP.seq ?_
  refine WP.seq ?_
  refine WP.region ?_
  refine RG.pv rfl (PV.mvI (.inl rfl) rfl) ?_
  refine RG.pv rfl (PV.move (v := v) rfl rfl) ?_
  refine RG.pv rfl (PV.len (v := v) rfl Tryz.underlying49 rfl (SlF.r h0)) ?_
  refine RG.pv rfl (PV.lss rfl rfl rfl) ?_
  refine RG.nil ?_
  refine WP.cond rfl (fun h1 => ?_) (fun h1 => ?_)
  · have h1 := of_decide_eq_true h1
    have h2 : i < xs.length := by omega
    have hc := costL_take nPc h2
    have hc1 : costL nPc (xs.take (i + 1)) ≤ costL nPc xs := costL_le nPc_nn xs (i + 1)
    have hc2 : 0 ≤ costL nPc (xs.take i) := costL_nonneg nPc_nn (xs.take i)
    have hc5 : nPc (gd xs i) = 1 + nRS (gd xs i).reg := rfl
    have hc3 : costL nRect (gd xs i).reg.xs = nRS (gd xs i).reg := rfl
    have hc4 : 0 ≤ nRS (gd xs i).reg := nSl_nn (gd xs i).reg
    refine WP.skip ?_
    refine WP.seq ?_
    refine WP.block ?_
    refine WP.seq ?_
    refine WP.seq ?_
    refine WP.region ?_
    refine RG.pv rfl (PV.move (v := v) rfl rfl) ?_
    refine RG.pv rfl (PV.mvI (.inl rfl) rfl) ?_
    refine RG.pv rfl (PV.idxS (v := v) rfl Is49 rfl (SlF.r h0) rfl rfl (by omega)) ?_
    refine RG.pv rfl (PV.field rfl Fo96_0 rfl) ?_
    refine RG.pv rfl (PV.loadF rfl Sc2 rfl rfl (El.r h0 (getG (by omega))) rfl) ?_
    refine RG.pv rfl (PV.mvI (.inl rfl) rfl) ?_
    refine RG.pv rfl (PV.neq rfl rfl rfl) ?_
    refine RG.nil ?_
    refine WP.cond rfl (fun h3 => ?_) (fun h3 => ?_)
    · simp [gd_mark h2, mkPc, hkk] at h3
    · refine WP.skip ?_
      refine WP.seq ?_
      refine WP.region ?_
      refine RG.pv rfl (PV.mvI (.inl rfl) rfl) ?_
      refine RG.pv rfl (PV.add rfl rfl rfl (by omega)) ?_
      refine RG.pv rfl (PV.mvI (.inr rfl) rfl) ?_
      refine RG.nil ?_
      refine WP.seq ?_
      refine WP.region ?_
      refine RG.pv rfl (PV.move (v := v) rfl rfl) ?_
      refine RG.pv rfl (PV.mvI (.inl rfl) rfl) ?_
      refine RG.pv rfl (PV.idxS (v := v) rfl Is49 rfl (SlF.r h0) rfl rfl (by omega)) ?_
      refine RG.pv rfl (PV.field rfl Fo96_1 rfl) ?_
      refine RG.pv rfl (PV.loadF rfl Sc59 rfl rfl (El.r h0 (getG (by omega))) rfl) ?_
      refine RG.pv rfl (PV.mvI (.inl rfl) rfl) ?_
      refine RG.callF (vs := [_, _]) rfl rfl En43 rfl (heldRectS_s (xs := (gd xs i).reg.xs) (by have := hd i (by rw [regs_len]; omega); rw [regs_gd (by omega), gd_mark h2] at this; rw [gd_mark h2, hkk]; exact this.up) (by omega) (by omega) ?_)
      refine RG.pv rfl (PV.mvI (.inr rfl) rfl) ?_
      refine RG.nil ?_
      refine WP.seq ?_
      refine WP.region ?_
      refine RG.pv rfl (PV.mvI (.inl rfl) rfl) ?_
      refine RG.pv rfl (PV.lss rfl rfl rfl) ?_
      refine RG.nil ?_
      refine WP.cond rfl (fun h4 => ?_) (fun h4 => ?_)
      · simp at h4; omega
      · refine WP.skip ?_
        refine WP.region ?_
        refine RG.pv rfl (PV.mvI (.inl rfl) rfl) ?_
        refine RG.pv rfl (PV.add rfl rfl rfl (by omega)) ?_
        refine RG.pv rfl (PV.mvI (.inr rfl) rfl) ?_
        refine RG.nil ?_
        exact ⟨rfl, i + 1, _, ⟨by omega, by rw [hc]; omega⟩, ⟨rfl, rfl, trivial⟩, ⟨rfl, trivial⟩, Cv.p, by omega⟩
  · have h1 := of_decide_eq_false h1
    have e : kk = k0 + costL nPc xs := by rw [hkk, List.take_of_length_le (by omega)]
    rw [← e] at k
    refine WP.exit ?_
    refine WP.seq ?_
    refine WP.region ?_
    refine RG.pv rfl (PV.mvI (.inl rfl) rfl) ?_
    refine RG.pv rfl (PV.mvI (.inr rfl) rfl) ?_
    refine RG.nil ?_
    refine WP.ret ?_
    exact ⟨_, _, ResV.one rfl rfl, Cv.p, k⟩
def nPe (p : Int × List Rect) : Int := 1 + 4 * (p.2.length : Int)
theorem nPc_er (xs : List Piece) : costL nPc xs = costL nPe (erPs xs) := by
  induction xs with
  | nil => rfl
  | cons z zs ih => simp only [erPs, List.map_cons, costL] at ih ⊢; rw [ih]; simp only [nPc, nPe, nRS, nSl, nRect_cost, erP]
theorem pcE_len (l : List (List Rect)) : (pcE l).length ≤ 25600 := by
  unfold pcE
  cases isLay l
  · simp
  · have := pcL_len l 4
    simp only [cond_true, List.length_map]; omega
theorem pcE_cost (l : List (List Rect)) : costL nPe (pcE l) ≤ 12801 * 25600 := by
  have h1 : costL nPe (pcE l) ≤ 12801 * (pcE l).length := costL_bd fun p hp => by
    unfold pcE at hp
    cases hl : isLay l
    · rw [hl] at hp; cases hp
    · rw [hl] at hp
      obtain ⟨q, _, rfl⟩ := List.mem_map.1 hp
      have := canon_len q.2
      simp only [nPe, pcR]; omega
  have h2 := pcE_len l
  omega
end Go.Proofs.YtbkaincaahcnfaaGreat
namespace Go.Proofs.YtbkaincaahcnfaaGreat
set_option linter.unusedVariables false
set_option linter.unusedSimpArgs false
open Go
set_option maxRecDepth 20000
set_option maxHeartbeats 1000000
set_option linter.unusedSimpArgs false
variable {G : Gh} {L : List Ch} {R : Value → Gh → List Ch → Prop}
theorem isLay_layL (ss : List Shape) : isLay (layL ss) = true := by
  have h : ∀ i, i < (layL ss).length → isReg (gd (layL ss) i) = true := fun i hi => by
    rw [layL_len] at hi
    rw [layL, gd_map _ (by simpa using hi), range_gd hi]
    exact isReg_canon (bits_length _)
  rw [isLay_all h, layL_len]; rfl
/-- the pieces of a cell without its instances -/
noncomputable def ownP (cs : List ECell) (cell : Int) : List (Int × List Rect) := bif hasCl cs cell then pcE (layL (gd cs cell.toNat).shapes) else []
theorem hasCl_in {cs : List ECell} {cell : Int} (h : hasCl cs cell = true) : okLib cs = true ∧ 0 ≤ cell ∧ cell < cs.length := by
  simp only [hasCl, within, Bool.and_eq_true, decide_eq_true_eq] at h
  exact ⟨h.1, by omega, by omega⟩
theorem erCl_shapes {xs : List Cell} {i : Nat} (h : i < xs.length) : (gd (erCls xs) i).shapes = (gd xs i).shapes.xs := by rw [erCls_gd h]; rfl
theorem Cv.nilPc {M : List Ch} {e e' : TypeId} [p : PickC L M] : Cv M (osl e pieceT (.slice none 0 0) ([] : List Piece) :: bagS e' rectT (regs []) :: L) := (Cv.pick p.pick).trans ((Cv.bag0 (xs := regs []) rfl).trans Cv.nilS)
theorem ownP_i {l : Lib} {cell : Int} (hL : RLib G L l.cells.v l.cells.xs) (hlen : lenC (erCls l.cells.xs)) (k : ∀ v' ps, erPs ps = ownP (erCls l.cells.xs) cell → R v' G (osl 96 pieceT v' ps :: bagS 116 rectT (regs ps) :: L)) : CallT Tryz.prog 30 #[vT libT l, vi cell] G L R := by
  have hE := erCls_len l.cells.xs
  refine CallT.enter (args := _) Tryz.func30 rfl rfl (by kernel_rfl) rfl ?_
  refine WP.seq ?_
  refine WP.region ?_
  refine RG.ot rfl (OT.box (cs := libT.enc l) rfl rfl rfl fun b2 => ?_)
  refine RG.pv rfl (PV.asg rfl rfl) ?_
  refine RG.nil ?_
  refine WP.seq ?_
  refine WP.seq ?_
  refine WP.region ?_
  refine RG.pv rfl (PV.loadW rfl Ag30 rfl rfl) ?_
  refine RG.pv rfl (PV.mvI (.inl rfl) rfl) ?_
  refine RG.callF (vs := [_, _]) rfl rfl En68 rfl (hasCl_i hL.up hlen ?_)
  refine RG.pv rfl (PV.not rfl rfl) ?_
  refine RG.nil ?_
  refine WP.cond rfl (fun h1 => ?_) (fun h1 => ?_)
  · have h1 : hasCl (erCls l.cells.xs) cell = false := by simpa using h1
    refine WP.seq ?_
    refine WP.region ?_
    refine RG.pv rfl (PV.asg rfl rfl) ?_
    refine RG.nil ?_
    refine WP.ret ?_
    exact ⟨_, _, ResV.one rfl rfl, Cv.nilPc, k _ [] (by rw [ownP, h1]; rfl)⟩
  · have h1 : hasCl (erCls l.cells.xs) cell = true := by simpa using h1
    obtain ⟨hok, hc0, hc1⟩ := hasCl_in h1
    have hsl := hL.sa (i := cell.toNat) (by omega)
    have hes := erCl_shapes (xs := l.cells.xs) (i := cell.toNat) (by omega)
    have e0 : ownP (erCls l.cells.xs) cell = pcE (layL (gd l.cells.xs cell.toNat).shapes.xs) := by rw [ownP, h1, cond_true, hes]
    have e1 : ∀ ss : List Shape, pcE (layL ss) = (pcL (layL ss) 4).map pcR := fun ss => by rw [pcE, isLay_layL]; rfl
    refine WP.skip ?_
    refine WP.seq ?_
    refine WP.region ?_
    refine RG.pv rfl (PV.field rfl Fo30_0 rfl) ?_
    refine RG.pv rfl (PV.load1 rfl Sc28 rfl (Rd.blk rfl)) ?_
    refine RG.pv rfl (PV.mvI (.inl rfl) rfl) ?_
    refine RG.pv rfl (PV.idxS (j := cell.toNat) rfl Is28 rfl (SlF.r hL.c) rfl (by omega) (by omega)) ?_
    refine RG.pv rfl (PV.field rfl Fo85_1 rfl) ?_
    refine RG.pv rfl (PV.loadF rfl Sc76 rfl rfl (El.r hL.c (getG (by omega))) rfl) ?_
    refine RG.callF (vs := [_]) rfl rfl En70 rfl (layers_i (v := (gd l.cells.xs cell.toNat).shapes.v) (Rs.up hsl) (fun w8 ys he => ?_))
    refine RG.callF (vs := [_]) rfl rfl En69 rfl (pieces_s (v := w8) Rs.o RsE.o (by rw [he]; exact isLay_layL _) (fun v16 psv16 hpv16 => ?_))
    refine RG.pv rfl (PV.asg (v := v16) rfl rfl) ?_
    refine RG.nil ?_
    refine WP.ret ?_
    exact ⟨_, _, ResV.one rfl rfl, Cv.p, k v16 psv16 (by rw [hpv16, he, e0, e1])⟩
theorem ownP_r {l : Lib} {cell : Int} (hL : RLib G L l.cells.v l.cells.xs) (hlen : lenC (erCls l.cells.xs)) (k : ∀ v' ps, erPs ps = ownP (erCls l.cells.xs) cell → R v' G (osl 96 pieceT v' ps :: bagS 116 rectT (regs ps) :: L)) : CallT Tryz.prog 29 #[vT libT l, vi cell] G L R := by
  have hE := erCls_len l.cells.xs
  refine CallT.enter (args := _) Tryz.func29 rfl rfl (by kernel_rfl) rfl ?_
  refine WP.seq ?_
  refine WP.region ?_
  refine RG.ot rfl (OT.box (cs := libT.enc l) rfl rfl rfl fun b2 => ?_)
  refine RG.pv rfl (PV.asg rfl rfl) ?_
  refine RG.nil ?_
  refine WP.seq ?_
  refine WP.seq ?_
  refine WP.region ?_
  refine RG.pv rfl (PV.loadW rfl Ag30 rfl rfl) ?_
  refine RG.pv rfl (PV.mvI (.inl rfl) rfl) ?_
  refine RG.callF (vs := [_, _]) rfl rfl En66 rfl (hasCl_r hL.up hlen ?_)
  refine RG.pv rfl (PV.not rfl rfl) ?_
  refine RG.nil ?_
  refine WP.cond rfl (fun h1 => ?_) (fun h1 => ?_)
  · have h1 : hasCl (erCls l.cells.xs) cell = false := by simpa using h1
    refine WP.seq ?_
    refine WP.region ?_
    refine RG.ot rfl (OT.bslice (F := pieceT) (els := []) rfl El49 rfl (by decide) rfl (by decide) trivial fun v9 => ?_)
    refine RG.pv rfl (PV.asg (v := v9) rfl rfl) ?_
    refine RG.nil ?_
    refine WP.ret ?_
    exact ⟨_, _, ResV.one rfl rfl, (Cv.p (C := osl 96 pieceT v9 [] :: L)).trans (Cv.cons (Cv.bag0 (xs := regs []) rfl)), k _ [] (by rw [ownP, h1]; rfl)⟩
  · have h1 : hasCl (erCls l.cells.xs) cell = true := by simpa using h1
    obtain ⟨hok, hc0, hc1⟩ := hasCl_in h1
    have hsl := hL.sa (i := cell.toNat) (by omega)
    have hes := erCl_shapes (xs := l.cells.xs) (i := cell.toNat) (by omega)
    have e0 : ownP (erCls l.cells.xs) cell = pcE (layL (gd l.cells.xs cell.toNat).shapes.xs) := by rw [ownP, h1, cond_true, hes]
    have hval : ∀ i, i < (gd l.cells.xs cell.toNat).shapes.xs.length → validRect (gd (gd l.cells.xs cell.toNat).shapes.xs i).box = true := fun i hi => by
      have := okLib_shape hok (i := cell.toNat) (j := i) (by omega) (by rw [hes]; exact hi)
      rw [hes] at this
      simp only [okSh, Bool.and_eq_true] at this; exact this.2
    refine WP.skip ?_
    refine WP.seq ?_
    refine WP.region ?_
    refine RG.pv rfl (PV.field rfl Fo30_0 rfl) ?_
    refine RG.pv rfl (PV.load1 rfl Sc28 rfl (Rd.blk rfl)) ?_
    refine RG.pv rfl (PV.mvI (.inl rfl) rfl) ?_
    refine RG.pv rfl (PV.idxS (j := cell.toNat) rfl Is28 rfl (SlF.r hL.c) rfl (by omega) (by omega)) ?_
    refine RG.pv rfl (PV.field rfl Fo85_1 rfl) ?_
    refine RG.pv rfl (PV.loadF rfl Sc76 rfl rfl (El.r hL.c (getG (by omega))) rfl) ?_
    refine RG.callF (vs := [_]) rfl rfl En58 rfl (layers_r (v := (gd l.cells.xs cell.toNat).shapes.v) (Rs.up hsl) hval (fun w8 ys he => ?_))
    refine RG.callF (vs := [_]) rfl rfl En67 rfl (pieces_r (v := w8) Rs.o RsE.o (fun v17 psv17 hpv17 => ?_))
    refine RG.pv rfl (PV.asg (v := v17) rfl rfl) ?_
    refine RG.nil ?_
    refine WP.ret ?_
    exact ⟨_, _, ResV.one rfl rfl, Cv.p, k v17 psv17 (by rw [hpv17, he, e0])⟩
theorem ownP_cost (cs : List ECell) (cell : Int) : costL nPe (ownP cs cell) ≤ 12801 * 25600 := by
  rw [ownP]
  cases hasCl cs cell
  · simp [costL]
  · exact pcE_cost _
theorem law_OwnPieces {l : Lib} {cell : Int} (hA : RLib G L l.cells.v l.cells.xs) (hlen : lenC (erCls l.cells.xs)) (k : R (.bool true) G L) : CallT Tryz.prog 7 #[vT libT l, vi cell] G L R := by
  refine CallT.enter (args := _) Tryz.func7 rfl rfl (by kernel_rfl) rfl ?_
  refine WP.seq ?_
  refine WP.region ?_
  refine RG.ot rfl (OT.box (cs := libT.enc l) rfl rfl rfl fun b2 => ?_)
  refine RG.pv rfl (PV.mvB (.inr rfl) rfl) ?_
  refine RG.nil ?_
  refine WP.seq ?_
  refine WP.region ?_
  refine RG.pv rfl (PV.mvI (.inr rfl) rfl) ?_
  refine RG.nil ?_
  refine WP.seq ?_
  refine WP.region ?_
  refine RG.pv rfl (PV.loadW rfl Ag24 rfl rfl) ?_
  refine RG.pv rfl (PV.mvI (.inl rfl) rfl) ?_
  refine RG.callF (vs := [_, _]) rfl rfl En10 rfl (szLib_s hA.up hlen (by omega) (by omega) (fun r hr => ?_))
  refine RG.pv rfl (PV.mvI (.inr rfl) rfl) ?_
  refine RG.nil ?_
  refine WP.seq ?_
  refine WP.seq ?_
  refine WP.region ?_
  refine RG.pv rfl (PV.mvI (.inl rfl) rfl) ?_
  refine RG.pv rfl (PV.lss rfl rfl rfl) ?_
  refine RG.nil ?_
  refine WP.cond rfl (fun h2 => ?_) (fun h2 => ?_)
  · refine WP.seq ?_
    refine WP.region ?_
    refine RG.pv rfl (PV.mvB (.inr rfl) rfl) ?_
    refine RG.nil ?_
    refine WP.ret ?_
    exact ⟨_, _, ResV.one rfl rfl, Cv.p, k⟩
  · have h2 := of_decide_eq_false h2
    have hf := hr (by omega)
    refine WP.skip ?_
    refine WP.seq ?_
    refine WP.region ?_
    refine RG.pv rfl (PV.loadW rfl Ag24 rfl rfl) ?_
    refine RG.callF (vs := [_]) rfl rfl En12 rfl (toLib_s hA.up hf (fun w19 ysw19 hew19 => ?_))
    refine RG.pv rfl (PV.mvI (.inl rfl) rfl) ?_
    refine RG.callF (vs := [_, _]) rfl rfl En29 rfl (ownP_r (l := ⟨⟨w19, ysw19⟩⟩) ⟨Rs.o, RsE.o, RsE.o, RsE.o⟩ (by rw [hew19]; exact hlen) (fun v21 psv21 hpv21 => ?_))
    refine RG.pv rfl (PV.asg (v := v21) rfl rfl) ?_
    refine RG.nil ?_
    refine WP.seq ?_
    refine WP.region ?_
    refine RG.pv rfl (PV.loadW rfl Ag24 rfl rfl) ?_
    refine RG.callF (vs := [_]) rfl rfl En12 rfl (toLib_s hA.up hf (fun w23 ysw23 hew23 => ?_))
    refine RG.ot rfl (OT.alloc rfl Zr30 fun b7 => ?_)
    refine RG.ot rfl (OT.storeW (vs := [_]) rfl Sz30 rfl rfl (Cl.c rfl) rfl rfl (OneC.sl (SlF.o (v := w23)) OneC.nil) ?_)
    refine RG.nil ?_
    refine WP.seq ?_
    refine WP.region ?_
    refine RG.pv rfl (PV.loadW rfl Ag30 rfl rfl) ?_
    refine RG.pv rfl (PV.mvI (.inl rfl) rfl) ?_
    refine RG.callF (vs := [_, _]) rfl rfl En30 rfl (ownP_i (l := ⟨⟨w23, ysw23⟩⟩) ⟨Rs.o, RsE.o, RsE.o, RsE.o⟩ (by rw [hew23]; exact hlen) (fun v26 psv26 hpv26 => ?_))
    refine RG.pv rfl (PV.asg (v := v26) rfl rfl) ?_
    refine RG.nil ?_
    refine WP.seq ?_
    refine WP.seq ?_
    refine WP.region ?_
    refine RG.pv rfl (PV.move (v := v26) rfl rfl) ?_
    refine RG.pv rfl (PV.move (v := v21) rfl rfl) ?_
    refine RG.callF (vs := [v26, v21]) rfl rfl En31 rfl (eqPieceS_s Rs.o RsE.o Rs.o RsE.o ?_)
    refine RG.pv rfl (PV.not rfl rfl) ?_
    refine RG.nil ?_
    refine WP.cond rfl (fun h3 => ?_) (fun h3 => ?_)
    · simp [hpv21, hpv26, hew19, hew23] at h3
    · refine WP.skip ?_
      refine WP.seq ?_
      refine WP.seq ?_
      refine WP.regionH0 (.q 0 (.q 1 (.l 2 (.l 3 (.q 4 Sch.nil))))) (by kernel_rfl) (by kernel_rfl) (by kernel_rfl) rfl ?_
      refine RH.pv rfl (fun _ _ _ _ h => h) (Gh.le_refl _) PickC.pick rfl (PV.loadW rfl Ag30 rfl rfl) ?_
      refine RH.pv rfl (fun _ _ _ _ h => h) (Gh.le_refl _) PickC.pick rfl (PV.loadW rfl Ag24 rfl rfl) ?_
      refine RH.ot rfl rfl (OT.callF (vs := [_]) rfl En12 rfl (toLib_s hA.up hf (fun w33 ysw33 hew33 => ⟨Gh.le_refl _, PickC.pick, ?_⟩)))
      refine RH.ot rfl rfl (OT.callF (vs := [_, _]) rfl En14 rfl (eqLib_s (l := ⟨⟨w23, ysw23⟩⟩) (m := ⟨⟨w33, ysw33⟩⟩) ⟨Rs.o, RsE.o, RsE.o, RsE.o⟩ ⟨Rs.o, RsE.o, RsE.o, RsE.o⟩ (by rw [hew23, hew33]) ⟨Gh.le_refl _, PickC.pick, ?_⟩))
      refine RH.pv rfl (fun _ _ _ _ h => h) (Gh.le_refl _) PickC.pick rfl (PV.not rfl rfl) ?_
      refine RH.nil ?_
      refine WP.cond rfl (fun h4 => ?_) (fun h4 => ?_)
      · simp at h4
      · have hcr := ownP_cost (erCls l.cells.xs) cell
        have hm2 : costL nPc psv26 ≤ 12801 * 25600 := by rw [nPc_er, hpv26, hew23]; exact hcr
        have hm4 : 0 ≤ costL nPc psv26 := costL_nonneg nPc_nn _
        refine WP.skip ?_
        refine WP.seq ?_
        refine WP.region ?_
        refine RG.pv rfl (PV.mvI (.inr rfl) rfl) ?_
        refine RG.nil ?_
        refine WP.seq ?_
        refine WP.region ?_
        refine RG.pv rfl (PV.loadW rfl Ag30 rfl rfl) ?_
        refine RG.pv rfl (PV.mvI (.inl rfl) rfl) ?_
        refine RG.callF (vs := [_, _]) rfl rfl En18 rfl (CallT.exBg (ins ysw23) (CallT.exBg (lbs ysw23) (CallT.exBg (shs ysw23) (CallT.exS w23 (markLib_s (l := ⟨⟨w23, ysw23⟩⟩) (by rw [hew23]; exact hf) (by omega) (fun km hkm => ?_))))))
        refine RG.pv rfl (PV.mvI (.inr rfl) rfl) ?_
        refine RG.nil ?_
        refine WP.seq ?_
        refine WP.seq ?_
        refine WP.region ?_
        refine RG.pv rfl (PV.mvI (.inl rfl) rfl) ?_
        refine RG.pv rfl (PV.lss rfl rfl rfl) ?_
        refine RG.pv rfl (PV.mvB (.inl rfl) rfl) ?_
        refine RG.gs rfl rfl rfl (fun hp => (PV.move (v := v26) rfl rfl)) ?_
        refine RG.gs rfl rfl rfl (fun hp => (PV.move (v := v21) rfl rfl)) ?_
        refine RG.gsC rfl rfl rfl rfl En31 (fun hp => ⟨_, (acons (gs_t hp) (acons (gs_t hp) anil)), eqPieceS_s Rs.o RsE.o Rs.o RsE.o ⟨rfl, rfl, rfl⟩⟩) ?_
        refine RG.gs rfl rfl rfl (fun hp => (PV.not rfl (gs_t hp))) ?_
        refine RG.pv rfl (PV.pickO rfl rfl rfl (fun hq => gs_t (geqF hq))) ?_
        refine RG.nil ?_
        refine WP.cond rfl (fun h5 => ?_) (fun h5 => ?_)
        · exfalso
          have : ¬ km < 0 := by omega
          simp [this, hpv21, hpv26, hew19, hew23] at h5
        · skip
          refine WP.skip ?_
          refine WP.seq ?_
          refine WP.region ?_
          refine RG.pv rfl (PV.mvI (.inr rfl) rfl) ?_
          refine RG.nil ?_
          refine WP.seq ?_
          refine WP.region ?_
          refine RG.pv rfl (PV.move (v := v26) rfl rfl) ?_
          refine RG.pv rfl (PV.mvI (.inl rfl) rfl) ?_
          refine RG.callF (vs := [v26, _]) rfl rfl En32 rfl (CallT.exBg (regs psv26) (CallT.exS v26 (markPieceS_s (by omega) (by omega) ?_)))
          refine RG.pv rfl (PV.mvI (.inr rfl) rfl) ?_
          refine RG.nil ?_
          refine WP.seq ?_
          refine WP.region ?_
          refine RG.pv rfl (PV.mvI (.inr rfl) rfl) ?_
          refine RG.nil ?_
          refine WP.seq ?_
          refine WP.region ?_
          refine RG.pv rfl (PV.move (v := v26) rfl rfl) ?_
          refine RG.pv rfl (PV.mvI (.inl rfl) rfl) ?_
          refine RG.callF (vs := [v26, _]) rfl rfl En33 rfl (heldPieceS_s Rs.o RsE.o (by omega) (by omega) ?_)
          refine RG.pv rfl (PV.mvI (.inr rfl) rfl) ?_
          refine RG.nil ?_
          refine WP.seq ?_
          refine WP.seq ?_
          refine WP.region ?_
          refine RG.pv rfl (PV.mvI (.inl rfl) rfl) ?_
          refine RG.pv rfl (PV.lss rfl rfl rfl) ?_
          refine RG.nil ?_
          refine WP.cond rfl (fun h6 => ?_) (fun h6 => ?_)
          · simp at h6; omega
          · refine WP.skip ?_
            refine WP.seq ?_
            refine WP.seq ?_
            refine WP.region ?_
            refine RG.pv rfl (PV.mvI (.inl rfl) rfl) ?_
            refine RG.pv rfl (PV.mvI (.inl rfl) rfl) ?_
            refine RG.pv rfl (PV.neq rfl rfl rfl) ?_
            refine RG.nil ?_
            refine WP.cond rfl (fun h7 => ?_) (fun h7 => ?_)
            · simp at h7
            · skip
              refine WP.skip ?_
              refine WP.seq ?_
              refine WP.region ?_
              refine RG.pv rfl (PV.loadW rfl Ag24 rfl rfl) ?_
              refine RG.callF (vs := [_]) rfl rfl En12 rfl (toLib_s hA.up hf (fun w59 ysw59 hew59 => ?_))
              refine RG.pv rfl (PV.mvI (.inl rfl) rfl) ?_
              refine RG.callF (vs := [_, _]) rfl rfl En30 rfl (ownP_i (l := ⟨⟨w59, ysw59⟩⟩) ⟨Rs.o, RsE.o, RsE.o, RsE.o⟩ (by rw [hew59]; exact hlen) (fun v61 psv61 hpv61 => ?_))
              refine RG.pv rfl (PV.asg (v := v61) rfl rfl) ?_
              refine RG.nil ?_
              refine WP.seq ?_
              refine WP.seq ?_
              refine WP.region ?_
              refine RG.pv rfl (PV.move (v := v61) rfl rfl) ?_
              refine RG.pv rfl (PV.move (v := v21) rfl rfl) ?_
              refine RG.callF (vs := [v61, v21]) rfl rfl En31 rfl (eqPieceS_s Rs.o RsE.o Rs.o RsE.o ?_)
              refine RG.pv rfl (PV.not rfl rfl) ?_
              refine RG.nil ?_
              refine WP.cond rfl (fun h8 => ?_) (fun h8 => ?_)
              · simp [hpv21, hpv61, hew19, hew59] at h8
              · skip
                refine WP.skip ?_
                refine WP.seq ?_
                refine WP.region ?_
                refine RG.pv rfl (PV.mvI (.inr rfl) rfl) ?_
                refine RG.nil ?_
                refine WP.seq ?_
                refine WP.region ?_
                refine RG.pv rfl (PV.move (v := v26) rfl rfl) ?_
                refine RG.pv rfl (PV.mvI (.inl rfl) rfl) ?_
                refine RG.callF (vs := [v26, _]) rfl rfl En33 rfl (heldPieceS_s Rs.o RsE.o (by omega) (by omega) ?_)
                refine RG.pv rfl (PV.mvI (.inr rfl) rfl) ?_
                refine RG.nil ?_
                refine WP.seq ?_
                refine WP.seq ?_
                refine WP.region ?_
                refine RG.pv rfl (PV.mvI (.inl rfl) rfl) ?_
                refine RG.pv rfl (PV.lss rfl rfl rfl) ?_
                refine RG.nil ?_
                refine WP.cond rfl (fun h9 => ?_) (fun h9 => ?_)
                · simp at h9; omega
                · refine WP.skip ?_
                  refine WP.seq ?_
                  refine WP.seq ?_
                  refine WP.region ?_
                  refine RG.pv rfl (PV.mvI (.inl rfl) rfl) ?_
                  refine RG.pv rfl (PV.mvI (.inl rfl) rfl) ?_
                  refine RG.pv rfl (PV.neq rfl rfl rfl) ?_
                  refine RG.nil ?_
                  refine WP.cond rfl (fun h10 => ?_) (fun h10 => ?_)
                  · simp at h10
                  · refine WP.skip ?_
                    refine WP.seq ?_
                    refine WP.region ?_
                    refine RG.pv rfl (PV.mvB (.inr rfl) rfl) ?_
                    refine RG.nil ?_
                    refine WP.ret ?_
                    exact ⟨_, _, ResV.one rfl rfl, Cv.p, k⟩
end Go.Proofs.YtbkaincaahcnfaaGreat
namespace Go.Proofs.YtbkaincaahcnfaaGreat
set_option linter.unusedVariables false
set_option linter.unusedSimpArgs false
open Go Go.ChangeShapes Go.WideShapes Go.ChangeAt Go.RowKit
set_option linter.unusedSimpArgs false
set_option maxRecDepth 100000
theorem Tryz.own : ownKnob Tryz.prog.godebug = none := by kernel_rfl
theorem Tryz.laidOut : laidOutB Tryz.prog = true := by kernel_rfl
def okrectT (G : Gh) (a : Rect) : Prop := okI G a.x0 ∧ okI G a.y0 ∧ okI G a.x1 ∧ okI G a.y1
theorem opn221 : Opn Tryz.prog 221 rectT okrectT := fun {H enc w fuel cs x} h => by
  obtain ⟨xs, n, _, _, hl, hx, hf⟩ := DataW.trod_struct Tryz.underlying221 h
  rw [show Tryz.prog.cellsOf 221 = 4 by kernel_rfl] at hl
  obtain ⟨c0, c1, c2, c3, rfl⟩ : ∃ c0 c1 c2 c3, cs = [c0, c1, c2, c3] := by
    match cs, hl with
    | [c0, c1, c2, c3], _ => exact ⟨c0, c1, c2, c3, rfl⟩
  have g0 := hf 0 _ rfl
  simp only [List.getElem_toArray, List.getElem_cons_zero, List.getElem_cons_succ] at g0
  rw [show Tryz.prog.cellsOf 2 = 1 by kernel_rfl] at g0
  obtain ⟨x0, y0⟩ : ∃ x, xs[0]? = some x := ⟨_, List.getElem?_eq_getElem (by rw [hx]; decide)⟩
  rw [y0] at g0
  obtain ⟨a0, e0, o0⟩ := (opnI Tryz.underlying2) g0
  have g1 := hf 1 _ rfl
  simp only [List.getElem_toArray, List.getElem_cons_zero, List.getElem_cons_succ] at g1
  rw [show Tryz.prog.cellsOf 2 = 1 by kernel_rfl] at g1
  obtain ⟨x1, y1⟩ : ∃ x, xs[1]? = some x := ⟨_, List.getElem?_eq_getElem (by rw [hx]; decide)⟩
  rw [y1] at g1
  obtain ⟨a1, e1, o1⟩ := (opnI Tryz.underlying2) g1
  have g2 := hf 2 _ rfl
  simp only [List.getElem_toArray, List.getElem_cons_zero, List.getElem_cons_succ] at g2
  rw [show Tryz.prog.cellsOf 2 = 1 by kernel_rfl] at g2
  obtain ⟨x2, y2⟩ : ∃ x, xs[2]? = some x := ⟨_, List.getElem?_eq_getElem (by rw [hx]; decide)⟩
  rw [y2] at g2
  obtain ⟨a2, e2, o2⟩ := (opnI Tryz.underlying2) g2
  have g3 := hf 3 _ rfl
  simp only [List.getElem_toArray, List.getElem_cons_zero, List.getElem_cons_succ] at g3
  rw [show Tryz.prog.cellsOf 2 = 1 by kernel_rfl] at g3
  obtain ⟨x3, y3⟩ : ∃ x, xs[3]? = some x := ⟨_, List.getElem?_eq_getElem (by rw [hx]; decide)⟩
  rw [y3] at g3
  obtain ⟨a3, e3, o3⟩ := (opnI Tryz.underlying2) g3
  clear hf hx hl
  refine ⟨⟨a0, a1, a2, a3⟩, ?_, o0, o1, o2, o3⟩
  simp [intT] at e0 e1 e2 e3
  simp [intT, rectT, e0, e1, e2, e3]
def okshapeT (G : Gh) (a : Shape) : Prop := okI G a.layer ∧ okrectT G a.box
theorem opn223 : Opn Tryz.prog 223 shapeT okshapeT := fun {H enc w fuel cs x} h => by
  obtain ⟨xs, n, _, _, hl, hx, hf⟩ := DataW.trod_struct Tryz.underlying223 h
  rw [show Tryz.prog.cellsOf 223 = 5 by kernel_rfl] at hl
  obtain ⟨c0, c1, c2, c3, c4, rfl⟩ : ∃ c0 c1 c2 c3 c4, cs = [c0, c1, c2, c3, c4] := by
    match cs, hl with
    | [c0, c1, c2, c3, c4], _ => exact ⟨c0, c1, c2, c3, c4, rfl⟩
  have g0 := hf 0 _ rfl
  simp only [List.getElem_toArray, List.getElem_cons_zero, List.getElem_cons_succ] at g0
  rw [show Tryz.prog.cellsOf 2 = 1 by kernel_rfl] at g0
  obtain ⟨x0, y0⟩ : ∃ x, xs[0]? = some x := ⟨_, List.getElem?_eq_getElem (by rw [hx]; decide)⟩
  rw [y0] at g0
  obtain ⟨a0, e0, o0⟩ := (opnI Tryz.underlying2) g0
  have g1 := hf 1 _ rfl
  simp only [List.getElem_toArray, List.getElem_cons_zero, List.getElem_cons_succ] at g1
  rw [show Tryz.prog.cellsOf 221 = 4 by kernel_rfl] at g1
  obtain ⟨x1, y1⟩ : ∃ x, xs[1]? = some x := ⟨_, List.getElem?_eq_getElem (by rw [hx]; decide)⟩
  rw [y1] at g1
  obtain ⟨a1, e1, o1⟩ := opn221 g1
  clear hf hx hl
  refine ⟨⟨a0, a1⟩, ?_, o0, o1⟩
  simp [intT, rectT] at e0 e1
  simp [intT, rectT, shapeT, e0, e1]
def okptT (G : Gh) (a : Pt) : Prop := okI G a.x ∧ okI G a.y
theorem opn216 : Opn Tryz.prog 216 ptT okptT := fun {H enc w fuel cs x} h => by
  obtain ⟨xs, n, _, _, hl, hx, hf⟩ := DataW.trod_struct Tryz.underlying216 h
  rw [show Tryz.prog.cellsOf 216 = 2 by kernel_rfl] at hl
  obtain ⟨c0, c1, rfl⟩ : ∃ c0 c1, cs = [c0, c1] := by
    match cs, hl with
    | [c0, c1], _ => exact ⟨c0, c1, rfl⟩
  have g0 := hf 0 _ rfl
  simp only [List.getElem_toArray, List.getElem_cons_zero, List.getElem_cons_succ] at g0
  rw [show Tryz.prog.cellsOf 2 = 1 by kernel_rfl] at g0
  obtain ⟨x0, y0⟩ : ∃ x, xs[0]? = some x := ⟨_, List.getElem?_eq_getElem (by rw [hx]; decide)⟩
  rw [y0] at g0
  obtain ⟨a0, e0, o0⟩ := (opnI Tryz.underlying2) g0
  have g1 := hf 1 _ rfl
  simp only [List.getElem_toArray, List.getElem_cons_zero, List.getElem_cons_succ] at g1
  rw [show Tryz.prog.cellsOf 2 = 1 by kernel_rfl] at g1
  obtain ⟨x1, y1⟩ : ∃ x, xs[1]? = some x := ⟨_, List.getElem?_eq_getElem (by rw [hx]; decide)⟩
  rw [y1] at g1
  obtain ⟨a1, e1, o1⟩ := (opnI Tryz.underlying2) g1
  clear hf hx hl
  refine ⟨⟨a0, a1⟩, ?_, o0, o1⟩
  simp [intT] at e0 e1
  simp [intT, ptT, e0, e1]
def oklabelT (G : Gh) (a : Label) : Prop := okI G a.layer ∧ okptT G a.at_ ∧ okS G a.name
theorem opn218 : Opn Tryz.prog 218 labelT oklabelT := fun {H enc w fuel cs x} h => by
  obtain ⟨xs, n, _, _, hl, hx, hf⟩ := DataW.trod_struct Tryz.underlying218 h
  rw [show Tryz.prog.cellsOf 218 = 4 by kernel_rfl] at hl
  obtain ⟨c0, c1, c2, c3, rfl⟩ : ∃ c0 c1 c2 c3, cs = [c0, c1, c2, c3] := by
    match cs, hl with
    | [c0, c1, c2, c3], _ => exact ⟨c0, c1, c2, c3, rfl⟩
  have g0 := hf 0 _ rfl
  simp only [List.getElem_toArray, List.getElem_cons_zero, List.getElem_cons_succ] at g0
  rw [show Tryz.prog.cellsOf 2 = 1 by kernel_rfl] at g0
  obtain ⟨x0, y0⟩ : ∃ x, xs[0]? = some x := ⟨_, List.getElem?_eq_getElem (by rw [hx]; decide)⟩
  rw [y0] at g0
  obtain ⟨a0, e0, o0⟩ := (opnI Tryz.underlying2) g0
  have g1 := hf 1 _ rfl
  simp only [List.getElem_toArray, List.getElem_cons_zero, List.getElem_cons_succ] at g1
  rw [show Tryz.prog.cellsOf 216 = 2 by kernel_rfl] at g1
  obtain ⟨x1, y1⟩ : ∃ x, xs[1]? = some x := ⟨_, List.getElem?_eq_getElem (by rw [hx]; decide)⟩
  rw [y1] at g1
  obtain ⟨a1, e1, o1⟩ := opn216 g1
  have g2 := hf 2 _ rfl
  simp only [List.getElem_toArray, List.getElem_cons_zero, List.getElem_cons_succ] at g2
  rw [show Tryz.prog.cellsOf 9 = 1 by kernel_rfl] at g2
  obtain ⟨x2, y2⟩ : ∃ x, xs[2]? = some x := ⟨_, List.getElem?_eq_getElem (by rw [hx]; decide)⟩
  rw [y2] at g2
  obtain ⟨a2, e2, o2⟩ := (opnS Tryz.underlying9) g2
  clear hf hx hl
  refine ⟨⟨a0, a1, a2⟩, ?_, o0, o1, o2⟩
  simp [intT, ptT, strT] at e0 e1 e2
  simp [intT, labelT, ptT, strT, e0, e1, e2]
def oktransT (G : Gh) (a : Trans) : Prop := okI G a.o ∧ okI G a.x ∧ okI G a.y
theorem opn226 : Opn Tryz.prog 226 transT oktransT := fun {H enc w fuel cs x} h => by
  obtain ⟨xs, n, _, _, hl, hx, hf⟩ := DataW.trod_struct Tryz.underlying226 h
  rw [show Tryz.prog.cellsOf 226 = 3 by kernel_rfl] at hl
  obtain ⟨c0, c1, c2, rfl⟩ : ∃ c0 c1 c2, cs = [c0, c1, c2] := by
    match cs, hl with
    | [c0, c1, c2], _ => exact ⟨c0, c1, c2, rfl⟩
  have g0 := hf 0 _ rfl
  simp only [List.getElem_toArray, List.getElem_cons_zero, List.getElem_cons_succ] at g0
  rw [show Tryz.prog.cellsOf 2 = 1 by kernel_rfl] at g0
  obtain ⟨x0, y0⟩ : ∃ x, xs[0]? = some x := ⟨_, List.getElem?_eq_getElem (by rw [hx]; decide)⟩
  rw [y0] at g0
  obtain ⟨a0, e0, o0⟩ := (opnI Tryz.underlying2) g0
  have g1 := hf 1 _ rfl
  simp only [List.getElem_toArray, List.getElem_cons_zero, List.getElem_cons_succ] at g1
  rw [show Tryz.prog.cellsOf 2 = 1 by kernel_rfl] at g1
  obtain ⟨x1, y1⟩ : ∃ x, xs[1]? = some x := ⟨_, List.getElem?_eq_getElem (by rw [hx]; decide)⟩
  rw [y1] at g1
  obtain ⟨a1, e1, o1⟩ := (opnI Tryz.underlying2) g1
  have g2 := hf 2 _ rfl
  simp only [List.getElem_toArray, List.getElem_cons_zero, List.getElem_cons_succ] at g2
  rw [show Tryz.prog.cellsOf 2 = 1 by kernel_rfl] at g2
  obtain ⟨x2, y2⟩ : ∃ x, xs[2]? = some x := ⟨_, List.getElem?_eq_getElem (by rw [hx]; decide)⟩
  rw [y2] at g2
  obtain ⟨a2, e2, o2⟩ := (opnI Tryz.underlying2) g2
  clear hf hx hl
  refine ⟨⟨a0, a1, a2⟩, ?_, o0, o1, o2⟩
  simp [intT] at e0 e1 e2
  simp [intT, transT, e0, e1, e2]
def okinstT (G : Gh) (a : Inst) : Prop := okI G a.cell ∧ oktransT G a.place ∧ okI G a.cols ∧ okI G a.rows ∧ okI G a.sx ∧ okI G a.sy
theorem opn228 : Opn Tryz.prog 228 instT okinstT := fun {H enc w fuel cs x} h => by
  obtain ⟨xs, n, _, _, hl, hx, hf⟩ := DataW.trod_struct Tryz.underlying228 h
  rw [show Tryz.prog.cellsOf 228 = 8 by kernel_rfl] at hl
  obtain ⟨c0, c1, c2, c3, c4, c5, c6, c7, rfl⟩ : ∃ c0 c1 c2 c3 c4 c5 c6 c7, cs = [c0, c1, c2, c3, c4, c5, c6, c7] := by
    match cs, hl with
    | [c0, c1, c2, c3, c4, c5, c6, c7], _ => exact ⟨c0, c1, c2, c3, c4, c5, c6, c7, rfl⟩
  have g0 := hf 0 _ rfl
  simp only [List.getElem_toArray, List.getElem_cons_zero, List.getElem_cons_succ] at g0
  rw [show Tryz.prog.cellsOf 2 = 1 by kernel_rfl] at g0
  obtain ⟨x0, y0⟩ : ∃ x, xs[0]? = some x := ⟨_, List.getElem?_eq_getElem (by rw [hx]; decide)⟩
  rw [y0] at g0
  obtain ⟨a0, e0, o0⟩ := (opnI Tryz.underlying2) g0
  have g1 := hf 1 _ rfl
  simp only [List.getElem_toArray, List.getElem_cons_zero, List.getElem_cons_succ] at g1
  rw [show Tryz.prog.cellsOf 226 = 3 by kernel_rfl] at g1
  obtain ⟨x1, y1⟩ : ∃ x, xs[1]? = some x := ⟨_, List.getElem?_eq_getElem (by rw [hx]; decide)⟩
  rw [y1] at g1
  obtain ⟨a1, e1, o1⟩ := opn226 g1
  have g2 := hf 2 _ rfl
  simp only [List.getElem_toArray, List.getElem_cons_zero, List.getElem_cons_succ] at g2
  rw [show Tryz.prog.cellsOf 2 = 1 by kernel_rfl] at g2
  obtain ⟨x2, y2⟩ : ∃ x, xs[2]? = some x := ⟨_, List.getElem?_eq_getElem (by rw [hx]; decide)⟩
  rw [y2] at g2
  obtain ⟨a2, e2, o2⟩ := (opnI Tryz.underlying2) g2
  have g3 := hf 3 _ rfl
  simp only [List.getElem_toArray, List.getElem_cons_zero, List.getElem_cons_succ] at g3
  rw [show Tryz.prog.cellsOf 2 = 1 by kernel_rfl] at g3
  obtain ⟨x3, y3⟩ : ∃ x, xs[3]? = some x := ⟨_, List.getElem?_eq_getElem (by rw [hx]; decide)⟩
  rw [y3] at g3
  obtain ⟨a3, e3, o3⟩ := (opnI Tryz.underlying2) g3
  have g4 := hf 4 _ rfl
  simp only [List.getElem_toArray, List.getElem_cons_zero, List.getElem_cons_succ] at g4
  rw [show Tryz.prog.cellsOf 2 = 1 by kernel_rfl] at g4
  obtain ⟨x4, y4⟩ : ∃ x, xs[4]? = some x := ⟨_, List.getElem?_eq_getElem (by rw [hx]; decide)⟩
  rw [y4] at g4
  obtain ⟨a4, e4, o4⟩ := (opnI Tryz.underlying2) g4
  have g5 := hf 5 _ rfl
  simp only [List.getElem_toArray, List.getElem_cons_zero, List.getElem_cons_succ] at g5
  rw [show Tryz.prog.cellsOf 2 = 1 by kernel_rfl] at g5
  obtain ⟨x5, y5⟩ : ∃ x, xs[5]? = some x := ⟨_, List.getElem?_eq_getElem (by rw [hx]; decide)⟩
  rw [y5] at g5
  obtain ⟨a5, e5, o5⟩ := (opnI Tryz.underlying2) g5
  clear hf hx hl
  refine ⟨⟨a0, a1, a2, a3, a4, a5⟩, ?_, o0, o1, o2, o3, o4, o5⟩
  simp [intT, transT] at e0 e1 e2 e3 e4 e5
  simp [instT, intT, transT, e0, e1, e2, e3, e4, e5]
def okcellT (G : Gh) (a : Cell) : Prop := okS G a.name ∧ (okSl shapeT okshapeT) G a.shapes ∧ (okSl labelT oklabelT) G a.labels ∧ (okSl instT okinstT) G a.insts
theorem opn122 : Opn Tryz.prog 122 cellT okcellT := fun {H enc w fuel cs x} h => by
  obtain ⟨xs, n, _, _, hl, hx, hf⟩ := DataW.trod_struct Tryz.underlying122 h
  rw [show Tryz.prog.cellsOf 122 = 4 by kernel_rfl] at hl
  obtain ⟨c0, c1, c2, c3, rfl⟩ : ∃ c0 c1 c2 c3, cs = [c0, c1, c2, c3] := by
    match cs, hl with
    | [c0, c1, c2, c3], _ => exact ⟨c0, c1, c2, c3, rfl⟩
  have g0 := hf 0 _ rfl
  simp only [List.getElem_toArray, List.getElem_cons_zero, List.getElem_cons_succ] at g0
  rw [show Tryz.prog.cellsOf 9 = 1 by kernel_rfl] at g0
  obtain ⟨x0, y0⟩ : ∃ x, xs[0]? = some x := ⟨_, List.getElem?_eq_getElem (by rw [hx]; decide)⟩
  rw [y0] at g0
  obtain ⟨a0, e0, o0⟩ := (opnS Tryz.underlying9) g0
  have g1 := hf 1 _ rfl
  simp only [List.getElem_toArray, List.getElem_cons_zero, List.getElem_cons_succ] at g1
  rw [show Tryz.prog.cellsOf 118 = 1 by kernel_rfl] at g1
  obtain ⟨x1, y1⟩ : ∃ x, xs[1]? = some x := ⟨_, List.getElem?_eq_getElem (by rw [hx]; decide)⟩
  rw [y1] at g1
  obtain ⟨a1, e1, o1⟩ := (opnSl Tryz.underlying118 opn223 (by kernel_rfl) (by decide)) g1
  have g2 := hf 2 _ rfl
  simp only [List.getElem_toArray, List.getElem_cons_zero, List.getElem_cons_succ] at g2
  rw [show Tryz.prog.cellsOf 119 = 1 by kernel_rfl] at g2
  obtain ⟨x2, y2⟩ : ∃ x, xs[2]? = some x := ⟨_, List.getElem?_eq_getElem (by rw [hx]; decide)⟩
  rw [y2] at g2
  obtain ⟨a2, e2, o2⟩ := (opnSl Tryz.underlying119 opn218 (by kernel_rfl) (by decide)) g2
  have g3 := hf 3 _ rfl
  simp only [List.getElem_toArray, List.getElem_cons_zero, List.getElem_cons_succ] at g3
  rw [show Tryz.prog.cellsOf 120 = 1 by kernel_rfl] at g3
  obtain ⟨x3, y3⟩ : ∃ x, xs[3]? = some x := ⟨_, List.getElem?_eq_getElem (by rw [hx]; decide)⟩
  rw [y3] at g3
  obtain ⟨a3, e3, o3⟩ := (opnSl Tryz.underlying120 opn228 (by kernel_rfl) (by decide)) g3
  clear hf hx hl
  refine ⟨⟨a0, a1, a2, a3⟩, ?_, o0, o1, o2, o3⟩
  simp [slT, strT] at e0 e1 e2 e3
  simp [cellT, slT, strT, e0, e1, e2, e3]
def oklibT (G : Gh) (a : Lib) : Prop := (okSl cellT okcellT) G a.cells
theorem opn24 : Opn Tryz.prog 24 libT oklibT := fun {H enc w fuel cs x} h => by
  obtain ⟨xs, n, _, _, hl, hx, hf⟩ := DataW.trod_struct Tryz.underlying24 h
  rw [show Tryz.prog.cellsOf 24 = 1 by kernel_rfl] at hl
  obtain ⟨c0, rfl⟩ : ∃ c0, cs = [c0] := by
    match cs, hl with
    | [c0], _ => exact ⟨c0, rfl⟩
  have g0 := hf 0 _ rfl
  simp only [List.getElem_toArray, List.getElem_cons_zero, List.getElem_cons_succ] at g0
  rw [show Tryz.prog.cellsOf 22 = 1 by kernel_rfl] at g0
  obtain ⟨x0, y0⟩ : ∃ x, xs[0]? = some x := ⟨_, List.getElem?_eq_getElem (by rw [hx]; decide)⟩
  rw [y0] at g0
  obtain ⟨a0, e0, o0⟩ := (opnSl Tryz.underlying22 opn122 (by kernel_rfl) (by decide)) g0
  clear hf hx hl
  refine ⟨⟨a0⟩, ?_, o0⟩
  simp [slT] at e0
  simp [libT, slT, e0]
theorem okLib_rl {G : Gh} {L : List Ch} {l : Lib} (h : oklibT G l) : RLib G L l.cells.v l.cells.xs :=
  ⟨Rs.g h.1, fun i hi => by
    have hi' : i < l.cells.xs.length := by simpa [shs] using hi
    rw [shs, gd_map _ hi']; exact Rs.g (h.2 i hi').2.1.1, fun i hi => by
    have hi' : i < l.cells.xs.length := by simpa [lbs] using hi
    rw [lbs, gd_map _ hi']; exact Rs.g (h.2 i hi').2.2.1.1, fun i hi => by
    have hi' : i < l.cells.xs.length := by simpa [ins] using hi
    rw [ins, gd_map _ hi']; exact Rs.g (h.2 i hi').2.2.2.1⟩
theorem okLib_len2 {G : Gh} {l : Lib} (h : oklibT G l) : lenC (erCls l.cells.xs) := fun i hi => by
  rw [erCls_len] at hi
  rw [erCls_gd hi]
  exact ⟨(h.2 i hi).1, fun j hj => ((h.2 i hi).2.2.1.2 j hj).2.2⟩
theorem ownPieces_lifted (os : Os) (started : os.Started) (H : Type) (enc : TypeId × Value → H) :
    ReturnsInHanded {} Tryz.checked os 7 .any (Rows.fnExactOwnPiecesSpec.pre6 enc Tryz.prog Tryz.f7 [] false) (Rows.fnExactOwnPiecesSpec.post enc Tryz.prog Tryz.f7 false true false false) := by
  refine law_lifted (C := Tryz.checked) Tryz.own started (by kernel_rfl) Tryz.func7 Tryz.laidOut rfl (by kernel_rfl) rfl Tryz.underlying4 (fun ds h => ?_)
    (ChangeSpec.witness6 (enc := enc) (C := Tryz.checked) false ⟨#[], #[.agg #[.slice none 0 0], .int .i64 0], []⟩ 8 (by kernel_rfl) (by kernel_rfl) (by kernel_rfl) (by kernel_rfl)) ?_
  · match ds, h with
    | [d, e], _ => rfl
  · intro W base args ds ps hval hA
    have hA : DataW.TrodAll enc Tryz.prog W 0 (fun _ => true) true Tryz.f7.params.toList args.toList ds ps := hA
    have hval : ∀ (j : Nat) t v, Tryz.f7.params[j]? = some t → args[j]? = some v → Value.okWide Tryz.prog W .any base t v := hval
    rw [Tryz.params7] at hA hval
    obtain ⟨v0, v1, d0, d1, p0, p1, rfl, rfl, _, h0, h1⟩ := trodAll_two hA
    obtain ⟨l, rfl, q1⟩ := argT Tryz.underlying24 opn24 (hval 0 _ v0 rfl rfl) h0
    obtain ⟨n1, rfl, _⟩ := argI Tryz.underlying2 (hval 1 _ v1 rfl rfl) h1
    exact law_OwnPieces (okLib_rl q1) (okLib_len2 q1) ⟨rfl, Gh.le_refl _⟩
theorem ownPieces_holds : Rows.FnExactOwnPiecesSaid :=
  OpenClaim.holds_of_wide 7 Tryz.f7 rfl rfl rfl rfl rfl rfl rfl ⟨rfl, rfl, rfl, rfl, rfl⟩ rfl rfl rfl rfl rfl (by kernel_rfl) Tryz.func7 (by kernel_rfl)
    (of_decide_eq_true (by kernel_rfl)) (by unfold Func.isWrapper; first | (rw [if_pos (by decide +kernel)]; kernel_rfl) | (rw [if_neg (by decide +kernel)]; exact ⟨rfl, rfl⟩))
    (fun os started H enc _ => ownPieces_lifted os started H enc)
end Go.Proofs.YtbkaincaahcnfaaGreat
