/-
  Contracts of functions and plain facts that the last text of this folder uses, part 5.
-/
import Derived.Test.YtgphjofccckloaaGreatHC4
set_option linter.unusedVariables false
set_option linter.unusedSimpArgs false
namespace Go.Proofs.YtgphjofccckloaaGreat
open Go
set_option maxRecDepth 20000
variable {G : Gh} {L : List Ch} {R : Value → Gh → List Ch → Prop}
theorem toShape_s {l : Shape} (k : R (vT shapeT l) G L) : CallT Tryz.prog 219 #[vT shapeT l] G L R := by
 refine CallT.enter (args := _) Tryz.func219 rfl rfl (by kernel_rfl) rfl ?_
 refine WP.sr ?_
 refine RG.ot rfl (OT.box (cs := shapeT.enc l) rfl rfl rfl fun b1 => ?_)
 refine RG.ot rfl (OT.alloc rfl Zr155 fun b2 => ?_)
 refine RG.nil (WP.sr ?_)
 refine RG.ot rfl (OT.alloc rfl Zr155 fun b3 => ?_)
 refine RG.nil (WP.sr (RG.p (PV.field rfl Fo245_0 rfl) (RG.p (PV.load1 rfl Sc2 rfl (Rd.blk rfl)) (RG.p (PV.field rfl Fo155_0 rfl) ?_))))
 refine RG.ot rfl (OT.storeB (vs := [vi _]) (cs' := [_, _, _, _, _]) rfl Sz2 rfl rfl (Cl.c rfl) rfl (OneC.c rfl) rfl rfl ?_)
 refine RG.nil (WP.sr (RG.p (PV.field rfl Fo245_1 rfl) (RG.p (PV.loadB (vs := [_, _, _, _]) rfl Ag243 rfl rfl rfl) ?_)))
 refine RG.callF (vs := [_]) rfl rfl En256 rfl (toRect_s ?_)
 refine RG.p (PV.field rfl Fo155_1 rfl) ?_
 refine RG.ot rfl (OT.storeB (vs := [vi _, vi _, vi _, vi _]) (cs' := [_, _, _, _, _]) rfl Sz91 rfl rfl (Cl.c rfl) rfl (OneC.c rfl) rfl rfl ?_)
 refine RG.nil (WP.sr (RG.p (PV.loadW rfl Ag155 rfl rfl) ?_))
 refine RG.ot rfl (OT.storeW (vs := [vi _, vi _, vi _, vi _, vi _]) rfl Sz155 rfl rfl (Cl.c rfl) rfl rfl (OneC.c rfl) ?_)
 refine RG.nil ?_
 exact WP.ret ⟨_, _, ResV.one rfl (RV1.cell rfl Ag155 rfl), Cv.p, k⟩
theorem toShapeS_s {v : Value} {xs : List Shape} (h1 : Rs G L shapeT v xs) (hb : xs.length ≤ 1048576) (k : ∀ v', R v' G (osl 155 shapeT v' xs :: L)) : CallT Tryz.prog 145 #[v] G L R := by
 refine CallT.enter (args := _) Tryz.func145 rfl rfl (by kernel_rfl) rfl ?_
 refine WP.sr (RG.p (PV.asg rfl rfl) (RG.nil (WP.sr (RG.p (PV.move (v := v) rfl rfl) (RG.p (PV.len (v := v) rfl Tryz.underlying120 rfl (SlF.r h1)) ?_)))))
 refine RG.ot rfl (OT.make (F := shapeT) (a0 := default) rfl El111 rfl (by decide) rfl rfl (by omega) (by omega) fun v7 => ?_)
 refine RG.p (PV.asg (v := v7) rfl rfl) (RG.nil (WP.seq (WP.sr (RG.mr rfl (RG.nil (WP.block ?_))))))
 refine WP.loop2 [0, 3] (fun i ys => i ≤ xs.length ∧ ys.length = xs.length ∧ ∀ j, j < i → ys[j]? = xs[j]?) (fun i ys => [(4, vi i)]) (fun i ys => osl 155 shapeT v7 ys :: L) (fun i ys => xs.length - i) 0 (List.replicate xs.length default) ⟨by omega, by simp, fun j h => by omega⟩ ⟨rfl, trivial⟩ Cv.p ?_
 rintro i ys τ ⟨hi, hl, he⟩
 refine WP.seq (WP.sr (RG.ml rfl (RG.p (PV.move (v := v) rfl rfl) (RG.p (PV.len (v := v) rfl Tryz.underlying120 rfl (SlF.r h1)) (RG.p (PV.lss rfl rfl rfl) (RG.nil ?_))))))
 refine WP.cond rfl (fun h2 => ?_) (fun h2 => ?_)
 ·have h2 := of_decide_eq_true h2
  refine WP.skip (WP.seq (WP.block (WP.region (RG.p (PV.move (v := v7) rfl rfl) (RG.ml rfl (RG.p (PV.move (v := v) rfl rfl) (RG.ml rfl (RG.p (PV.idxS (v := v) rfl Is120 rfl (SlF.r h1) rfl rfl (by omega)) (RG.p (PV.loadE rfl Ag245 rfl rfl (El.r h1 (getG (by omega)))) ?_)))))))))
  refine RG.callF (vs := [_]) rfl rfl En219 rfl (toShape_s ?_)
  refine RG.p (PV.idxS (v := v7) rfl Is111 rfl SlF.o rfl rfl (by omega)) ?_
  refine RG.ot rfl (OT.storeE (F := shapeT) rfl Sz155 rfl rfl rfl (Cl.c rfl) (OneC.c rfl) (by omega) ?_)
  refine RG.nil (WP.region (RG.ml rfl (RG.p (PV.add rfl rfl rfl (by omega)) (RG.mr rfl (RG.nil ?_)))))
  exact ⟨rfl, i + 1, _, ⟨by omega, by simpa using hl, set_pre he (getG (by omega)) hl⟩, ⟨rfl, trivial⟩, ⟨rfl, rfl, trivial⟩, Cv.p, by omega⟩
 ·have h2 := of_decide_eq_false h2
  obtain rfl := pre_eq he hl (by omega)
  refine WP.exit ?_
  refine WP.sr (RG.p (PV.move (v := v7) rfl rfl) (RG.p (PV.asg (v := v7) rfl rfl) (RG.nil ?_)))
  exact WP.ret ⟨_, _, ResV.one rfl rfl, Cv.p, k v7⟩
theorem szShapeS_s {v : Value} {xs : List Shape} {n : Int} (h1 : Rs G L shapeT v xs) (hn : n ≤ 1048576) (h0 : 0 ≤ n) (k : ∀ r : Int, r ≤ n → (0 ≤ r → r = n - xs.length) → R (vi r) G L) : CallT Tryz.prog 134 #[v, vi n] G L R := by
 refine CallT.bd h1 fun hb => ?_
 refine CallT.enter (args := _) Tryz.func134 rfl rfl (by kernel_rfl) rfl ?_
 refine WP.sr (RG.mr rfl (RG.nil (WP.sr (RG.ml rfl (RG.p (PV.move (v := v) rfl rfl) (RG.p (PV.len (v := v) rfl Tryz.underlying120 rfl (SlF.r h1)) (RG.p (PV.sub rfl rfl rfl (by omega)) (RG.mr rfl (RG.nil (WP.seq (WP.seq ?_)))))))))))
 refine WP.region (RG.ml rfl (RG.p (PV.lss rfl rfl rfl) (RG.nil ?_)))
 refine WP.cond rfl (fun h2 => ?_) (fun h2 => ?_)
 ·refine WP.seq ?_
  refine WP.region (RG.mr rfl (RG.nil ?_))
  exact WP.ret ⟨_, _, ResV.one rfl rfl, Cv.p, k _ (by omega) (fun h => by omega)⟩
 ·refine WP.skip ?_
  refine WP.sr (RG.ml rfl (RG.mr rfl (RG.nil ?_)))
  exact WP.ret ⟨_, _, ResV.one rfl rfl, Cv.p, k _ (by omega) (fun h => by omega)⟩
theorem toTrans_s {l : Trans} (k : R (vT transT l) G L) : CallT Tryz.prog 258 #[vT transT l] G L R := by
 refine CallT.enter (args := _) Tryz.func258 rfl rfl (by kernel_rfl) rfl ?_
 refine WP.sr ?_
 refine RG.ot rfl (OT.box (cs := transT.enc l) rfl rfl rfl fun b1 => ?_)
 refine RG.ot rfl (OT.alloc rfl Zr95 fun b2 => ?_)
 refine RG.nil (WP.sr ?_)
 refine RG.ot rfl (OT.alloc rfl Zr95 fun b3 => ?_)
 refine RG.nil (WP.sr (RG.p (PV.field rfl Fo248_0 rfl) (RG.p (PV.load1 rfl Sc2 rfl (Rd.blk rfl)) (RG.p (PV.field rfl Fo95_0 rfl) ?_))))
 refine RG.ot rfl (OT.storeB (vs := [vi _]) (cs' := [_, _, _]) rfl Sz2 rfl rfl (Cl.c rfl) rfl (OneC.c rfl) rfl rfl ?_)
 refine RG.nil (WP.sr (RG.p (PV.field rfl Fo248_1 rfl) (RG.p (PV.load1 rfl Sc2 rfl (Rd.blk rfl)) (RG.p (PV.field rfl Fo95_1 rfl) ?_))))
 refine RG.ot rfl (OT.storeB (vs := [vi _]) (cs' := [_, _, _]) rfl Sz2 rfl rfl (Cl.c rfl) rfl (OneC.c rfl) rfl rfl ?_)
 refine RG.nil (WP.sr (RG.p (PV.field rfl Fo248_2 rfl) (RG.p (PV.load1 rfl Sc2 rfl (Rd.blk rfl)) (RG.p (PV.field rfl Fo95_2 rfl) ?_))))
 refine RG.ot rfl (OT.storeB (vs := [vi _]) (cs' := [_, _, _]) rfl Sz2 rfl rfl (Cl.c rfl) rfl (OneC.c rfl) rfl rfl ?_)
 refine RG.nil (WP.sr (RG.p (PV.loadW rfl Ag95 rfl rfl) ?_))
 refine RG.ot rfl (OT.storeW (vs := [vi _, vi _, vi _]) rfl Sz95 rfl rfl (Cl.c rfl) rfl rfl (OneC.c rfl) ?_)
 refine RG.nil ?_
 exact WP.ret ⟨_, _, ResV.one rfl (RV1.cell rfl Ag95 rfl), Cv.p, k⟩
theorem toInst_s {l : Inst} (k : R (vT instT l) G L) : CallT Tryz.prog 221 #[vT instT l] G L R := by
 refine CallT.enter (args := _) Tryz.func221 rfl rfl (by kernel_rfl) rfl ?_
 refine WP.sr ?_
 refine RG.ot rfl (OT.box (cs := instT.enc l) rfl rfl rfl fun b1 => ?_)
 refine RG.ot rfl (OT.alloc rfl Zr173 fun b2 => ?_)
 refine RG.nil (WP.sr ?_)
 refine RG.ot rfl (OT.alloc rfl Zr173 fun b3 => ?_)
 refine RG.nil (WP.sr (RG.p (PV.field rfl Fo250_0 rfl) (RG.p (PV.load1 rfl Sc2 rfl (Rd.blk rfl)) (RG.p (PV.field rfl Fo173_0 rfl) ?_))))
 refine RG.ot rfl (OT.storeB (vs := [vi _]) (cs' := [_, _, _, _, _, _, _, _]) rfl Sz2 rfl rfl (Cl.c rfl) rfl (OneC.c rfl) rfl rfl ?_)
 refine RG.nil (WP.sr (RG.p (PV.field rfl Fo250_1 rfl) (RG.p (PV.loadB (vs := [_, _, _]) rfl Ag248 rfl rfl rfl) ?_)))
 refine RG.callF (vs := [_]) rfl rfl En258 rfl (toTrans_s ?_)
 refine RG.p (PV.field rfl Fo173_1 rfl) ?_
 refine RG.ot rfl (OT.storeB (vs := [vi _, vi _, vi _]) (cs' := [_, _, _, _, _, _, _, _]) rfl Sz95 rfl rfl (Cl.c rfl) rfl (OneC.c rfl) rfl rfl ?_)
 refine RG.nil (WP.sr (RG.p (PV.field rfl Fo250_2 rfl) (RG.p (PV.load1 rfl Sc2 rfl (Rd.blk rfl)) (RG.p (PV.field rfl Fo173_2 rfl) ?_))))
 refine RG.ot rfl (OT.storeB (vs := [vi _]) (cs' := [_, _, _, _, _, _, _, _]) rfl Sz2 rfl rfl (Cl.c rfl) rfl (OneC.c rfl) rfl rfl ?_)
 refine RG.nil (WP.sr (RG.p (PV.field rfl Fo250_3 rfl) (RG.p (PV.load1 rfl Sc2 rfl (Rd.blk rfl)) (RG.p (PV.field rfl Fo173_3 rfl) ?_))))
 refine RG.ot rfl (OT.storeB (vs := [vi _]) (cs' := [_, _, _, _, _, _, _, _]) rfl Sz2 rfl rfl (Cl.c rfl) rfl (OneC.c rfl) rfl rfl ?_)
 refine RG.nil (WP.sr (RG.p (PV.field rfl Fo250_4 rfl) (RG.p (PV.load1 rfl Sc2 rfl (Rd.blk rfl)) (RG.p (PV.field rfl Fo173_4 rfl) ?_))))
 refine RG.ot rfl (OT.storeB (vs := [vi _]) (cs' := [_, _, _, _, _, _, _, _]) rfl Sz2 rfl rfl (Cl.c rfl) rfl (OneC.c rfl) rfl rfl ?_)
 refine RG.nil (WP.sr (RG.p (PV.field rfl Fo250_5 rfl) (RG.p (PV.load1 rfl Sc2 rfl (Rd.blk rfl)) (RG.p (PV.field rfl Fo173_5 rfl) ?_))))
 refine RG.ot rfl (OT.storeB (vs := [vi _]) (cs' := [_, _, _, _, _, _, _, _]) rfl Sz2 rfl rfl (Cl.c rfl) rfl (OneC.c rfl) rfl rfl ?_)
 refine RG.nil (WP.sr (RG.p (PV.loadW rfl Ag173 rfl rfl) ?_))
 refine RG.ot rfl (OT.storeW (vs := [vi _, vi _, vi _, vi _, vi _, vi _, vi _, vi _]) rfl Sz173 rfl rfl (Cl.c rfl) rfl rfl (OneC.c rfl) ?_)
 refine RG.nil ?_
 exact WP.ret ⟨_, _, ResV.one rfl (RV1.cell rfl Ag173 rfl), Cv.p, k⟩
theorem eqShape_s {a b : Shape} (k : R (.bool (decide (a = b))) G L) : CallT Tryz.prog 228 #[vT shapeT a, vT shapeT b] G L R := by
 refine CallT.enter (args := _) Tryz.func228 rfl rfl (by kernel_rfl) rfl ?_
 refine WP.sr ?_
 refine RG.ot rfl (OT.box (cs := shapeT.enc a) rfl rfl rfl fun b2 => ?_)
 refine RG.ot rfl (OT.box (cs := shapeT.enc b) rfl rfl rfl fun b3 => ?_)
 refine RG.br rfl (RG.nil (WP.seq (WP.sr (RG.p (PV.field rfl Fo155_0 rfl) (RG.p (PV.load1 rfl Sc2 rfl (Rd.blk rfl)) (RG.p (PV.field rfl Fo155_0 rfl) (RG.p (PV.load1 rfl Sc2 rfl (Rd.blk rfl)) (RG.p (PV.neq rfl rfl rfl) (RG.nil ?_)))))))))
 refine WP.cond rfl (fun h1 => ?_) (fun h1 => ?_)
 ·have e : decide (a = b) = false := by rw [decide_eq_false_iff_not]; rintro rfl; simp at h1
  rw [e] at k
  refine WP.sr (RG.br rfl (RG.nil ?_))
  exact WP.ret ⟨_, _, ResV.one rfl rfl, Cv.p, k⟩
 ·refine WP.skip ?_
  refine WP.seq (WP.sr (RG.p (PV.field rfl Fo155_1 rfl) (RG.p (PV.loadB (vs := [_, _, _, _]) rfl Ag91 rfl rfl rfl) (RG.p (PV.field rfl Fo155_1 rfl) (RG.p (PV.loadB (vs := [_, _, _, _]) rfl Ag91 rfl rfl rfl) ?_)))))
  refine RG.callF (vs := [_, _]) rfl rfl En56 rfl (eqRect_s ?_)
  refine RG.p (PV.not rfl rfl) (RG.nil ?_)
  refine WP.cond rfl (fun h2 => ?_) (fun h2 => ?_)
  ·have e : decide (a = b) = false := by rw [decide_eq_false_iff_not]; rintro rfl; simp at h2
   rw [e] at k
   refine WP.sr (RG.br rfl (RG.nil ?_))
   exact WP.ret ⟨_, _, ResV.one rfl rfl, Cv.p, k⟩
  ·have e : decide (a = b) = true := by
    obtain ⟨a1, a2⟩ := a; obtain ⟨b1, b2⟩ := b
    simp at h1 h2 ⊢; exact ⟨h1, h2⟩
   rw [e] at k
   refine WP.skip (WP.sr (RG.br rfl (RG.nil ?_)))
   exact WP.ret ⟨_, _, ResV.one rfl rfl, Cv.p, k⟩
theorem eqShapeS_s {v u : Value} {xs ys : List Shape} (h1 : Rs G L shapeT v xs) (h2 : Rs G L shapeT u ys) (k : R (.bool (decide (xs = ys))) G L) : CallT Tryz.prog 164 #[v, u] G L R := by
 refine CallT.bd h1 fun hb => ?_
 refine CallT.bd h2 fun hb' => ?_
 refine CallT.enter (args := _) Tryz.func164 rfl rfl (by kernel_rfl) rfl ?_
 refine WP.sr (RG.br rfl (RG.nil (WP.seq (WP.sr (RG.p (PV.move (v := v) rfl rfl) (RG.p (PV.len (v := v) rfl Tryz.underlying111 rfl (SlF.r h1)) (RG.p (PV.move (v := u) rfl rfl) (RG.p (PV.len (v := u) rfl Tryz.underlying111 rfl (SlF.r h2)) (RG.p (PV.neq rfl rfl rfl) (RG.nil ?_))))))))))
 refine WP.cond rfl (fun h3 => ?_) (fun h3 => ?_)
 ·have e : decide (xs = ys) = false := by
   rw [decide_eq_false_iff_not]; rintro rfl; simp at h3
  rw [e] at k
  refine WP.sr (RG.br rfl (RG.nil ?_))
  exact WP.ret ⟨_, _, ResV.one rfl rfl, Cv.p, k⟩
 ·have hl : xs.length = ys.length := by simp at h3; omega
  refine WP.skip (WP.seq (WP.sr (RG.mr rfl (RG.nil (WP.block ?_)))))
  refine WP.loop1 [0, 1] (fun i => i ≤ xs.length ∧ ∀ j, j < i → xs[j]? = ys[j]?) (fun i => [(5, vi i)]) (fun i => L) (fun i => xs.length - i) 0 ⟨by omega, fun j h => by omega⟩ ⟨rfl, trivial⟩ Cv.p ?_
  rintro i τ ⟨hi, he⟩
  refine WP.seq (WP.sr (RG.ml rfl (RG.p (PV.move (v := v) rfl rfl) (RG.p (PV.len (v := v) rfl Tryz.underlying111 rfl (SlF.r h1)) (RG.p (PV.lss rfl rfl rfl) (RG.nil ?_))))))
  refine WP.cond rfl (fun h4 => ?_) (fun h4 => ?_)
  ·have h4 := of_decide_eq_true h4
   have h5 : i < xs.length := by omega
   refine WP.skip (WP.seq (WP.block (WP.seq ?_)))
   refine WP.regionQ (by kernel_rfl) (by kernel_rfl) ?_
   refine RQ.pv rfl (PV.move (v := v) rfl rfl) (RQ.pv rfl (PV.mvI (.inl rfl) rfl) (RQ.pv rfl (PV.idxS (v := v) rfl Is111 rfl (SlF.r h1) rfl rfl (by omega)) (RQ.pv rfl (PV.loadE rfl Ag155 rfl rfl (El.r h1 (getG (by omega)))) (RQ.pv rfl (PV.move (v := u) rfl rfl) (RQ.pv rfl (PV.mvI (.inl rfl) rfl) (RQ.pv rfl (PV.idxS (v := u) rfl Is111 rfl (SlF.r h2) rfl rfl (by omega)) (RQ.pv rfl (PV.loadE rfl Ag155 rfl rfl (El.r h2 (getG (by omega)))) ?_)))))))
   refine RQ.callF (vs := [_, _]) rfl rfl En228 rfl (eqShape_s ⟨rfl, rfl, rfl⟩) ?_
   refine RQ.pv rfl (PV.not rfl rfl) ?_
   refine RQ.nil ?_
   refine WP.cond rfl (fun h6 => ?_) (fun h6 => ?_)
   ·have e : decide (xs = ys) = false := by
     rw [decide_eq_false_iff_not]; rintro rfl; simp at h6
    rw [e] at k
    refine WP.sr (RG.br rfl (RG.nil ?_))
    exact WP.ret ⟨_, _, ResV.one rfl rfl, Cv.p, k⟩
   ·have e : gd xs i = gd ys i := by simpa using h6
    have he' : ∀ j, j < i + 1 → xs[j]? = ys[j]? := fun j h => by
     by_cases c : j = i
     ·rw [c, getG h5, getG (show i < ys.length by omega), e]
     ·exact he j (by omega)
    refine WP.skip (WP.region (RG.ml rfl (RG.p (PV.add rfl rfl rfl (by omega)) (RG.mr rfl (RG.nil ?_)))))
    exact ⟨rfl, i + 1, ⟨by omega, he'⟩, ⟨rfl, trivial⟩, ⟨rfl, rfl, trivial⟩, Cv.p, by omega⟩
  ·have h4 := of_decide_eq_false h4
   have e : decide (xs = ys) = true := by
    rw [decide_eq_true_iff]; exact pre_eq he hl (by omega)
   rw [e] at k
   refine WP.exit ?_
   refine WP.sr (RG.br rfl (RG.nil ?_))
   exact WP.ret ⟨_, _, ResV.one rfl rfl, Cv.p, k⟩
theorem eqTrans_s {a b : Trans} (k : R (.bool (decide (a = b))) G L) : CallT Tryz.prog 264 #[vT transT a, vT transT b] G L R := by
 refine CallT.enter (args := _) Tryz.func264 rfl rfl (by kernel_rfl) rfl ?_
 refine WP.sr ?_
 refine RG.ot rfl (OT.box (cs := transT.enc a) rfl rfl rfl fun b2 => ?_)
 refine RG.ot rfl (OT.box (cs := transT.enc b) rfl rfl rfl fun b3 => ?_)
 refine RG.br rfl (RG.nil (WP.seq (WP.sr (RG.p (PV.field rfl Fo95_0 rfl) (RG.p (PV.load1 rfl Sc2 rfl (Rd.blk rfl)) (RG.p (PV.field rfl Fo95_0 rfl) (RG.p (PV.load1 rfl Sc2 rfl (Rd.blk rfl)) (RG.p (PV.neq rfl rfl rfl) (RG.nil ?_)))))))))
 refine WP.cond rfl (fun h1 => ?_) (fun h1 => ?_)
 ·have e : decide (a = b) = false := by rw [decide_eq_false_iff_not]; rintro rfl; simp at h1
  rw [e] at k
  refine WP.sr (RG.br rfl (RG.nil ?_))
  exact WP.ret ⟨_, _, ResV.one rfl rfl, Cv.p, k⟩
 ·refine WP.skip ?_
  refine WP.seq (WP.sr (RG.p (PV.field rfl Fo95_1 rfl) (RG.p (PV.load1 rfl Sc2 rfl (Rd.blk rfl)) (RG.p (PV.field rfl Fo95_1 rfl) (RG.p (PV.load1 rfl Sc2 rfl (Rd.blk rfl)) (RG.p (PV.neq rfl rfl rfl) (RG.nil ?_)))))))
  refine WP.cond rfl (fun h2 => ?_) (fun h2 => ?_)
  ·have e : decide (a = b) = false := by rw [decide_eq_false_iff_not]; rintro rfl; simp at h2
   rw [e] at k
   refine WP.sr (RG.br rfl (RG.nil ?_))
   exact WP.ret ⟨_, _, ResV.one rfl rfl, Cv.p, k⟩
  ·refine WP.skip ?_
   refine WP.seq (WP.sr (RG.p (PV.field rfl Fo95_2 rfl) (RG.p (PV.load1 rfl Sc2 rfl (Rd.blk rfl)) (RG.p (PV.field rfl Fo95_2 rfl) (RG.p (PV.load1 rfl Sc2 rfl (Rd.blk rfl)) (RG.p (PV.neq rfl rfl rfl) (RG.nil ?_)))))))
   refine WP.cond rfl (fun h3 => ?_) (fun h3 => ?_)
   ·have e : decide (a = b) = false := by rw [decide_eq_false_iff_not]; rintro rfl; simp at h3
    rw [e] at k
    refine WP.sr (RG.br rfl (RG.nil ?_))
    exact WP.ret ⟨_, _, ResV.one rfl rfl, Cv.p, k⟩
   ·have e : decide (a = b) = true := by
     obtain ⟨a1, a2, a3⟩ := a; obtain ⟨b1, b2, b3⟩ := b
     simp at h1 h2 h3 ⊢; exact ⟨h1, h2, h3⟩
    rw [e] at k
    refine WP.skip (WP.sr (RG.br rfl (RG.nil ?_)))
    exact WP.ret ⟨_, _, ResV.one rfl rfl, Cv.p, k⟩
theorem eqInst_s {a b : Inst} (k : R (.bool (decide (a = b))) G L) : CallT Tryz.prog 230 #[vT instT a, vT instT b] G L R := by
 refine CallT.enter (args := _) Tryz.func230 rfl rfl (by kernel_rfl) rfl ?_
 refine WP.sr ?_
 refine RG.ot rfl (OT.box (cs := instT.enc a) rfl rfl rfl fun b2 => ?_)
 refine RG.ot rfl (OT.box (cs := instT.enc b) rfl rfl rfl fun b3 => ?_)
 refine RG.br rfl (RG.nil (WP.seq (WP.sr (RG.p (PV.field rfl Fo173_0 rfl) (RG.p (PV.load1 rfl Sc2 rfl (Rd.blk rfl)) (RG.p (PV.field rfl Fo173_0 rfl) (RG.p (PV.load1 rfl Sc2 rfl (Rd.blk rfl)) (RG.p (PV.neq rfl rfl rfl) (RG.nil ?_)))))))))
 refine WP.cond rfl (fun h1 => ?_) (fun h1 => ?_)
 ·have e : decide (a = b) = false := by rw [decide_eq_false_iff_not]; rintro rfl; simp at h1
  rw [e] at k
  refine WP.sr (RG.br rfl (RG.nil ?_))
  exact WP.ret ⟨_, _, ResV.one rfl rfl, Cv.p, k⟩
 ·refine WP.skip ?_
  refine WP.seq (WP.sr (RG.p (PV.field rfl Fo173_1 rfl) (RG.p (PV.loadB (vs := [_, _, _]) rfl Ag95 rfl rfl rfl) (RG.p (PV.field rfl Fo173_1 rfl) (RG.p (PV.loadB (vs := [_, _, _]) rfl Ag95 rfl rfl rfl) ?_)))))
  refine RG.callF (vs := [_, _]) rfl rfl En264 rfl (eqTrans_s ?_)
  refine RG.p (PV.not rfl rfl) (RG.nil ?_)
  refine WP.cond rfl (fun h2 => ?_) (fun h2 => ?_)
  ·have e : decide (a = b) = false := by rw [decide_eq_false_iff_not]; rintro rfl; simp at h2
   rw [e] at k
   refine WP.sr (RG.br rfl (RG.nil ?_))
   exact WP.ret ⟨_, _, ResV.one rfl rfl, Cv.p, k⟩
  ·refine WP.skip ?_
   refine WP.seq (WP.sr (RG.p (PV.field rfl Fo173_2 rfl) (RG.p (PV.load1 rfl Sc2 rfl (Rd.blk rfl)) (RG.p (PV.field rfl Fo173_2 rfl) (RG.p (PV.load1 rfl Sc2 rfl (Rd.blk rfl)) (RG.p (PV.neq rfl rfl rfl) (RG.nil ?_)))))))
   refine WP.cond rfl (fun h3 => ?_) (fun h3 => ?_)
   ·have e : decide (a = b) = false := by rw [decide_eq_false_iff_not]; rintro rfl; simp at h3
    rw [e] at k
    refine WP.sr (RG.br rfl (RG.nil ?_))
    exact WP.ret ⟨_, _, ResV.one rfl rfl, Cv.p, k⟩
   ·refine WP.skip ?_
    refine WP.seq (WP.sr (RG.p (PV.field rfl Fo173_3 rfl) (RG.p (PV.load1 rfl Sc2 rfl (Rd.blk rfl)) (RG.p (PV.field rfl Fo173_3 rfl) (RG.p (PV.load1 rfl Sc2 rfl (Rd.blk rfl)) (RG.p (PV.neq rfl rfl rfl) (RG.nil ?_)))))))
    refine WP.cond rfl (fun h4 => ?_) (fun h4 => ?_)
    ·have e : decide (a = b) = false := by rw [decide_eq_false_iff_not]; rintro rfl; simp at h4
     rw [e] at k
     refine WP.sr (RG.br rfl (RG.nil ?_))
     exact WP.ret ⟨_, _, ResV.one rfl rfl, Cv.p, k⟩
    ·refine WP.skip ?_
     refine WP.seq (WP.sr (RG.p (PV.field rfl Fo173_4 rfl) (RG.p (PV.load1 rfl Sc2 rfl (Rd.blk rfl)) (RG.p (PV.field rfl Fo173_4 rfl) (RG.p (PV.load1 rfl Sc2 rfl (Rd.blk rfl)) (RG.p (PV.neq rfl rfl rfl) (RG.nil ?_)))))))
     refine WP.cond rfl (fun h5 => ?_) (fun h5 => ?_)
     ·have e : decide (a = b) = false := by rw [decide_eq_false_iff_not]; rintro rfl; simp at h5
      rw [e] at k
      refine WP.sr (RG.br rfl (RG.nil ?_))
      exact WP.ret ⟨_, _, ResV.one rfl rfl, Cv.p, k⟩
     ·refine WP.skip ?_
      refine WP.seq (WP.sr (RG.p (PV.field rfl Fo173_5 rfl) (RG.p (PV.load1 rfl Sc2 rfl (Rd.blk rfl)) (RG.p (PV.field rfl Fo173_5 rfl) (RG.p (PV.load1 rfl Sc2 rfl (Rd.blk rfl)) (RG.p (PV.neq rfl rfl rfl) (RG.nil ?_)))))))
      refine WP.cond rfl (fun h6 => ?_) (fun h6 => ?_)
      ·have e : decide (a = b) = false := by rw [decide_eq_false_iff_not]; rintro rfl; simp at h6
       rw [e] at k
       refine WP.sr (RG.br rfl (RG.nil ?_))
       exact WP.ret ⟨_, _, ResV.one rfl rfl, Cv.p, k⟩
      ·have e : decide (a = b) = true := by
        obtain ⟨a1, a2, a3, a4, a5, a6⟩ := a; obtain ⟨b1, b2, b3, b4, b5, b6⟩ := b
        simp at h1 h2 h3 h4 h5 h6 ⊢; exact ⟨h1, h2, h3, h4, h5, h6⟩
       rw [e] at k
       refine WP.skip (WP.sr (RG.br rfl (RG.nil ?_)))
       exact WP.ret ⟨_, _, ResV.one rfl rfl, Cv.p, k⟩
theorem toInstS_s {v : Value} {xs : List Inst} (h1 : Rs G L instT v xs) (hb : xs.length ≤ 1048576) (k : ∀ v', R v' G (osl 173 instT v' xs :: L)) : CallT Tryz.prog 147 #[v] G L R := by
 refine CallT.enter (args := _) Tryz.func147 rfl rfl (by kernel_rfl) rfl ?_
 refine WP.sr (RG.p (PV.asg rfl rfl) (RG.nil (WP.sr (RG.p (PV.move (v := v) rfl rfl) (RG.p (PV.len (v := v) rfl Tryz.underlying122 rfl (SlF.r h1)) ?_)))))
 refine RG.ot rfl (OT.make (F := instT) (a0 := default) rfl El113 rfl (by decide) rfl rfl (by omega) (by omega) fun v7 => ?_)
 refine RG.p (PV.asg (v := v7) rfl rfl) (RG.nil (WP.seq (WP.sr (RG.mr rfl (RG.nil (WP.block ?_))))))
 refine WP.loop2 [0, 3] (fun i ys => i ≤ xs.length ∧ ys.length = xs.length ∧ ∀ j, j < i → ys[j]? = xs[j]?) (fun i ys => [(4, vi i)]) (fun i ys => osl 173 instT v7 ys :: L) (fun i ys => xs.length - i) 0 (List.replicate xs.length default) ⟨by omega, by simp, fun j h => by omega⟩ ⟨rfl, trivial⟩ Cv.p ?_
 rintro i ys τ ⟨hi, hl, he⟩
 refine WP.seq (WP.sr (RG.ml rfl (RG.p (PV.move (v := v) rfl rfl) (RG.p (PV.len (v := v) rfl Tryz.underlying122 rfl (SlF.r h1)) (RG.p (PV.lss rfl rfl rfl) (RG.nil ?_))))))
 refine WP.cond rfl (fun h2 => ?_) (fun h2 => ?_)
 ·have h2 := of_decide_eq_true h2
  refine WP.skip (WP.seq (WP.block (WP.region (RG.p (PV.move (v := v7) rfl rfl) (RG.ml rfl (RG.p (PV.move (v := v) rfl rfl) (RG.ml rfl (RG.p (PV.idxS (v := v) rfl Is122 rfl (SlF.r h1) rfl rfl (by omega)) (RG.p (PV.loadE rfl Ag250 rfl rfl (El.r h1 (getG (by omega)))) ?_)))))))))
  refine RG.callF (vs := [_]) rfl rfl En221 rfl (toInst_s ?_)
  refine RG.p (PV.idxS (v := v7) rfl Is113 rfl SlF.o rfl rfl (by omega)) ?_
  refine RG.ot rfl (OT.storeE (F := instT) rfl Sz173 rfl rfl rfl (Cl.c rfl) (OneC.c rfl) (by omega) ?_)
  refine RG.nil (WP.region (RG.ml rfl (RG.p (PV.add rfl rfl rfl (by omega)) (RG.mr rfl (RG.nil ?_)))))
  exact ⟨rfl, i + 1, _, ⟨by omega, by simpa using hl, set_pre he (getG (by omega)) hl⟩, ⟨rfl, trivial⟩, ⟨rfl, rfl, trivial⟩, Cv.p, by omega⟩
 ·have h2 := of_decide_eq_false h2
  obtain rfl := pre_eq he hl (by omega)
  refine WP.exit ?_
  refine WP.sr (RG.p (PV.move (v := v7) rfl rfl) (RG.p (PV.asg (v := v7) rfl rfl) (RG.nil ?_)))
  exact WP.ret ⟨_, _, ResV.one rfl rfl, Cv.p, k v7⟩
theorem szInstanceS_s {v : Value} {xs : List Inst} {n : Int} (h1 : Rs G L instT v xs) (hn : n ≤ 1048576) (h0 : 0 ≤ n) (k : ∀ r : Int, r ≤ n → (0 ≤ r → r = n - xs.length) → R (vi r) G L) : CallT Tryz.prog 136 #[v, vi n] G L R := by
 refine CallT.bd h1 fun hb => ?_
 refine CallT.enter (args := _) Tryz.func136 rfl rfl (by kernel_rfl) rfl ?_
 refine WP.sr (RG.mr rfl (RG.nil (WP.sr (RG.ml rfl (RG.p (PV.move (v := v) rfl rfl) (RG.p (PV.len (v := v) rfl Tryz.underlying122 rfl (SlF.r h1)) (RG.p (PV.sub rfl rfl rfl (by omega)) (RG.mr rfl (RG.nil (WP.seq (WP.seq ?_)))))))))))
 refine WP.region (RG.ml rfl (RG.p (PV.lss rfl rfl rfl) (RG.nil ?_)))
 refine WP.cond rfl (fun h2 => ?_) (fun h2 => ?_)
 ·refine WP.seq ?_
  refine WP.region (RG.mr rfl (RG.nil ?_))
  exact WP.ret ⟨_, _, ResV.one rfl rfl, Cv.p, k _ (by omega) (fun h => by omega)⟩
 ·refine WP.skip ?_
  refine WP.sr (RG.ml rfl (RG.mr rfl (RG.nil ?_)))
  exact WP.ret ⟨_, _, ResV.one rfl rfl, Cv.p, k _ (by omega) (fun h => by omega)⟩
theorem eqInstS_s {v u : Value} {xs ys : List Inst} (h1 : Rs G L instT v xs) (h2 : Rs G L instT u ys) (k : R (.bool (decide (xs = ys))) G L) : CallT Tryz.prog 166 #[v, u] G L R := by
 refine CallT.bd h1 fun hb => ?_
 refine CallT.bd h2 fun hb' => ?_
 refine CallT.enter (args := _) Tryz.func166 rfl rfl (by kernel_rfl) rfl ?_
 refine WP.sr (RG.br rfl (RG.nil (WP.seq (WP.sr (RG.p (PV.move (v := v) rfl rfl) (RG.p (PV.len (v := v) rfl Tryz.underlying113 rfl (SlF.r h1)) (RG.p (PV.move (v := u) rfl rfl) (RG.p (PV.len (v := u) rfl Tryz.underlying113 rfl (SlF.r h2)) (RG.p (PV.neq rfl rfl rfl) (RG.nil ?_))))))))))
 refine WP.cond rfl (fun h3 => ?_) (fun h3 => ?_)
 ·have e : decide (xs = ys) = false := by
   rw [decide_eq_false_iff_not]; rintro rfl; simp at h3
  rw [e] at k
  refine WP.sr (RG.br rfl (RG.nil ?_))
  exact WP.ret ⟨_, _, ResV.one rfl rfl, Cv.p, k⟩
 ·have hl : xs.length = ys.length := by simp at h3; omega
  refine WP.skip (WP.seq (WP.sr (RG.mr rfl (RG.nil (WP.block ?_)))))
  refine WP.loop1 [0, 1] (fun i => i ≤ xs.length ∧ ∀ j, j < i → xs[j]? = ys[j]?) (fun i => [(5, vi i)]) (fun i => L) (fun i => xs.length - i) 0 ⟨by omega, fun j h => by omega⟩ ⟨rfl, trivial⟩ Cv.p ?_
  rintro i τ ⟨hi, he⟩
  refine WP.seq (WP.sr (RG.ml rfl (RG.p (PV.move (v := v) rfl rfl) (RG.p (PV.len (v := v) rfl Tryz.underlying113 rfl (SlF.r h1)) (RG.p (PV.lss rfl rfl rfl) (RG.nil ?_))))))
  refine WP.cond rfl (fun h4 => ?_) (fun h4 => ?_)
  ·have h4 := of_decide_eq_true h4
   have h5 : i < xs.length := by omega
   refine WP.skip (WP.seq (WP.block (WP.seq ?_)))
   refine WP.regionQ (by kernel_rfl) (by kernel_rfl) ?_
   refine RQ.pv rfl (PV.move (v := v) rfl rfl) (RQ.pv rfl (PV.mvI (.inl rfl) rfl) (RQ.pv rfl (PV.idxS (v := v) rfl Is113 rfl (SlF.r h1) rfl rfl (by omega)) (RQ.pv rfl (PV.loadE rfl Ag173 rfl rfl (El.r h1 (getG (by omega)))) (RQ.pv rfl (PV.move (v := u) rfl rfl) (RQ.pv rfl (PV.mvI (.inl rfl) rfl) (RQ.pv rfl (PV.idxS (v := u) rfl Is113 rfl (SlF.r h2) rfl rfl (by omega)) (RQ.pv rfl (PV.loadE rfl Ag173 rfl rfl (El.r h2 (getG (by omega)))) ?_)))))))
   refine RQ.callF (vs := [_, _]) rfl rfl En230 rfl (eqInst_s ⟨rfl, rfl, rfl⟩) ?_
   refine RQ.pv rfl (PV.not rfl rfl) ?_
   refine RQ.nil ?_
   refine WP.cond rfl (fun h6 => ?_) (fun h6 => ?_)
   ·have e : decide (xs = ys) = false := by
     rw [decide_eq_false_iff_not]; rintro rfl; simp at h6
    rw [e] at k
    refine WP.sr (RG.br rfl (RG.nil ?_))
    exact WP.ret ⟨_, _, ResV.one rfl rfl, Cv.p, k⟩
   ·have e : gd xs i = gd ys i := by simpa using h6
    have he' : ∀ j, j < i + 1 → xs[j]? = ys[j]? := fun j h => by
     by_cases c : j = i
     ·rw [c, getG h5, getG (show i < ys.length by omega), e]
     ·exact he j (by omega)
    refine WP.skip (WP.region (RG.ml rfl (RG.p (PV.add rfl rfl rfl (by omega)) (RG.mr rfl (RG.nil ?_)))))
    exact ⟨rfl, i + 1, ⟨by omega, he'⟩, ⟨rfl, trivial⟩, ⟨rfl, rfl, trivial⟩, Cv.p, by omega⟩
  ·have h4 := of_decide_eq_false h4
   have e : decide (xs = ys) = true := by
    rw [decide_eq_true_iff]; exact pre_eq he hl (by omega)
   rw [e] at k
   refine WP.exit ?_
   refine WP.sr (RG.br rfl (RG.nil ?_))
   exact WP.ret ⟨_, _, ResV.one rfl rfl, Cv.p, k⟩
def mkSh (_ : Shape) (k : Int) : Shape := ⟨k, ⟨k + 1, k + 1 + 1, k + 1 + 1 + 1, k + 1 + 1 + 1 + 1⟩⟩
def nSh (_ : Shape) : Int := 5
theorem nSh_cost (xs : List Shape) : costL nSh xs = 5 * xs.length := costL_const 5 xs
theorem mkSh_at {xs : List Shape} {i : Nat} {k0 kk : Int} (h : i < xs.length) (e : kk = k0 + 5 * i) : mkSh (gd xs i) (k0 + costL nSh (xs.take i)) = ⟨kk, ⟨kk + 1, kk + 1 + 1, kk + 1 + 1 + 1, kk + 1 + 1 + 1 + 1⟩⟩ := by
 rw [mkSh, nSh_cost, List.length_take, Nat.min_eq_left (by omega), e]
def mkIn (_ : Inst) (k : Int) : Inst := ⟨k, ⟨k + 1, k + 1 + 1, k + 1 + 1 + 1⟩, k + 1 + 1 + 1 + 1, k + 1 + 1 + 1 + 1 + 1, k + 1 + 1 + 1 + 1 + 1 + 1, k + 1 + 1 + 1 + 1 + 1 + 1 + 1⟩
def nIn (_ : Inst) : Int := 8
theorem nIn_cost (xs : List Inst) : costL nIn xs = 8 * xs.length := costL_const 8 xs
theorem mkIn_at {xs : List Inst} {i : Nat} {k0 kk : Int} (h : i < xs.length) (e : kk = k0 + 8 * i) : mkIn (gd xs i) (k0 + costL nIn (xs.take i)) = ⟨kk, ⟨kk + 1, kk + 1 + 1, kk + 1 + 1 + 1⟩, kk + 1 + 1 + 1 + 1, kk + 1 + 1 + 1 + 1 + 1, kk + 1 + 1 + 1 + 1 + 1 + 1, kk + 1 + 1 + 1 + 1 + 1 + 1 + 1⟩ := by
 rw [mkIn, nIn_cost, List.length_take, Nat.min_eq_left (by omega), e]
theorem markShapeS_s {v : Value} {xs : List Shape} {k0 : Int} (hk : 0 ≤ k0) (hb : k0 + costL nSh xs ≤ 4611686018427387904) (k : R (vi (k0 + costL nSh xs)) G (osl 155 shapeT v (markL mkSh nSh xs k0) :: L)) : CallT Tryz.prog 86 #[v, vi k0] G (osl 155 shapeT v xs :: L) R := by
 have hc := nSh_cost xs
 refine CallT.cv (Cv.eqS (markTo_zero (mk := mkSh) (n := nSh) (k := k0)).symm) ?_
 refine CallT.enter (args := _) Tryz.func86 rfl rfl (by kernel_rfl) rfl ?_
 refine WP.sr (RG.mr rfl (RG.nil (WP.seq (WP.sr (RG.mr rfl (RG.nil (WP.block ?_)))))))
 refine WP.loop2 [0] (fun (i : Nat) (kk : Int) => i ≤ xs.length ∧ kk = k0 + 5 * i) (fun (i : Nat) (kk : Int) => [(5, vi i), (1, vi kk)]) (fun (i : Nat) (kk : Int) => osl 155 shapeT v (markTo mkSh nSh xs k0 i) :: L) (fun (i : Nat) (kk : Int) => xs.length - i) 0 k0 ⟨by omega, by omega⟩ ⟨rfl, rfl, trivial⟩ Cv.p ?_
 rintro i kk τ ⟨hi, hkk⟩
 refine WP.seq (WP.sr (RG.ml rfl (RG.p (PV.move (v := v) rfl rfl) (RG.p (PV.len (v := v) rfl Tryz.underlying111 rfl SlF.o) (RG.p (PV.lss rfl rfl rfl) (RG.nil ?_))))))
 have hml := markTo_len (mk := mkSh) (n := nSh) (k := k0) hi
 refine WP.cond rfl (fun h1 => ?_) (fun h1 => ?_)
 ·have h1 := of_decide_eq_true h1
  have h2 : i < xs.length := by omega
  refine WP.skip (WP.seq (WP.block (WP.sr (RG.p (PV.move (v := v) rfl rfl) (RG.ml rfl (RG.ml rfl (RG.p (PV.idxS (v := v) rfl Is111 rfl SlF.o rfl rfl (by omega)) (RG.p (PV.field rfl Fo155_0 rfl) ?_))))))))
  refine RG.ot rfl (OT.storeF (F := shapeT) (val := vi) (cv := fun u => [vi u]) (st := Shape.s0) rfl Sz2 rfl rfl rfl (Cl.c rfl) rfl (OneC.c rfl) (by exact set_self (by omega)) (by first | omega | (simp; omega)) rfl (fun _ _ => rfl) ?_)
  refine RG.nil (WP.sr (RG.ml rfl (RG.p (PV.add rfl rfl rfl (by first | omega | (simp only [List.length_set]; omega))) (RG.mr rfl (RG.nil (WP.sr (RG.p (PV.move (v := v) rfl rfl) (RG.ml rfl (RG.ml rfl (RG.p (PV.idxS (v := v) rfl Is111 rfl SlF.o rfl rfl (by first | omega | (simp only [List.length_set]; omega))) (RG.p (PV.field rfl Fo155_1 rfl) ?_)))))))))))
  refine RG.p (PV.field rfl Fo91_0 rfl) ?_
  refine RG.ot rfl (OT.storeF (F := shapeT) (val := vi) (cv := fun u => [vi u]) (j := 1) (st := Shape.s1_0) rfl Sz2 rfl rfl rfl (Cl.c rfl) rfl (OneC.c rfl) (by rfl) (by first | omega | (simp; omega)) rfl (fun _ _ => rfl) ?_)
  refine RG.nil (WP.sr (RG.ml rfl (RG.p (PV.add rfl rfl rfl (by first | omega | (simp only [List.length_set]; omega))) (RG.mr rfl (RG.nil (WP.sr (RG.p (PV.move (v := v) rfl rfl) (RG.ml rfl (RG.ml rfl (RG.p (PV.idxS (v := v) rfl Is111 rfl SlF.o rfl rfl (by first | omega | (simp only [List.length_set]; omega))) (RG.p (PV.field rfl Fo155_1 rfl) ?_)))))))))))
  refine RG.p (PV.field rfl Fo91_1 rfl) ?_
  refine RG.ot rfl (OT.storeF (F := shapeT) (val := vi) (cv := fun u => [vi u]) (j := 2) (st := Shape.s1_1) rfl Sz2 rfl rfl rfl (Cl.c rfl) rfl (OneC.c rfl) (by rfl) (by first | omega | (simp; omega)) rfl (fun _ _ => rfl) ?_)
  refine RG.nil (WP.sr (RG.ml rfl (RG.p (PV.add rfl rfl rfl (by first | omega | (simp only [List.length_set]; omega))) (RG.mr rfl (RG.nil (WP.sr (RG.p (PV.move (v := v) rfl rfl) (RG.ml rfl (RG.ml rfl (RG.p (PV.idxS (v := v) rfl Is111 rfl SlF.o rfl rfl (by first | omega | (simp only [List.length_set]; omega))) (RG.p (PV.field rfl Fo155_1 rfl) ?_)))))))))))
  refine RG.p (PV.field rfl Fo91_2 rfl) ?_
  refine RG.ot rfl (OT.storeF (F := shapeT) (val := vi) (cv := fun u => [vi u]) (j := 3) (st := Shape.s1_2) rfl Sz2 rfl rfl rfl (Cl.c rfl) rfl (OneC.c rfl) (by rfl) (by first | omega | (simp; omega)) rfl (fun _ _ => rfl) ?_)
  refine RG.nil (WP.sr (RG.ml rfl (RG.p (PV.add rfl rfl rfl (by first | omega | (simp only [List.length_set]; omega))) (RG.mr rfl (RG.nil (WP.sr (RG.p (PV.move (v := v) rfl rfl) (RG.ml rfl (RG.ml rfl (RG.p (PV.idxS (v := v) rfl Is111 rfl SlF.o rfl rfl (by first | omega | (simp only [List.length_set]; omega))) (RG.p (PV.field rfl Fo155_1 rfl) ?_)))))))))))
  refine RG.p (PV.field rfl Fo91_3 rfl) ?_
  refine RG.ot rfl (OT.storeF (F := shapeT) (val := vi) (cv := fun u => [vi u]) (j := 4) (st := Shape.s1_3) rfl Sz2 rfl rfl rfl (Cl.c rfl) rfl (OneC.c rfl) (by rfl) (by first | omega | (simp; omega)) rfl (fun _ _ => rfl) ?_)
  refine RG.nil (WP.region (RG.ml rfl (RG.p (PV.add rfl rfl rfl (by first | omega | (simp only [List.length_set]; omega))) (RG.mr rfl (RG.nil (WP.region (RG.ml rfl (RG.p (PV.add rfl rfl rfl (by first | omega | (simp only [List.length_set]; omega))) (RG.mr rfl (RG.nil ?_))))))))))
  exact ⟨rfl, i + 1, _, ⟨by omega, by omega⟩, ⟨rfl, rfl, trivial⟩, ⟨rfl, trivial⟩, (Cv.eqS (by rw [← markTo_set h2, mkSh_at h2 hkk])), by omega⟩
 ·have h1 := of_decide_eq_false h1
  have e : kk = k0 + costL nSh xs := by omega
  rw [← e] at k
  refine WP.exit ?_
  refine WP.sr (RG.ml rfl (RG.mr rfl (RG.nil ?_)))
  exact WP.ret ⟨_, _, ResV.one rfl rfl, (Cv.eqS (markTo_all (by omega))), k⟩
theorem markInstS_s {v : Value} {xs : List Inst} {k0 : Int} (hk : 0 ≤ k0) (hb : k0 + costL nIn xs ≤ 4611686018427387904) (k : R (vi (k0 + costL nIn xs)) G (osl 173 instT v (markL mkIn nIn xs k0) :: L)) : CallT Tryz.prog 88 #[v, vi k0] G (osl 173 instT v xs :: L) R := by
 have hc := nIn_cost xs
 refine CallT.cv (Cv.eqS (markTo_zero (mk := mkIn) (n := nIn) (k := k0)).symm) ?_
 refine CallT.enter (args := _) Tryz.func88 rfl rfl (by kernel_rfl) rfl ?_
 refine WP.sr (RG.mr rfl (RG.nil (WP.seq (WP.sr (RG.mr rfl (RG.nil (WP.block ?_)))))))
 refine WP.loop2 [0] (fun (i : Nat) (kk : Int) => i ≤ xs.length ∧ kk = k0 + 8 * i) (fun (i : Nat) (kk : Int) => [(5, vi i), (1, vi kk)]) (fun (i : Nat) (kk : Int) => osl 173 instT v (markTo mkIn nIn xs k0 i) :: L) (fun (i : Nat) (kk : Int) => xs.length - i) 0 k0 ⟨by omega, by omega⟩ ⟨rfl, rfl, trivial⟩ Cv.p ?_
 rintro i kk τ ⟨hi, hkk⟩
 refine WP.seq (WP.sr (RG.ml rfl (RG.p (PV.move (v := v) rfl rfl) (RG.p (PV.len (v := v) rfl Tryz.underlying113 rfl SlF.o) (RG.p (PV.lss rfl rfl rfl) (RG.nil ?_))))))
 have hml := markTo_len (mk := mkIn) (n := nIn) (k := k0) hi
 refine WP.cond rfl (fun h1 => ?_) (fun h1 => ?_)
 ·have h1 := of_decide_eq_true h1
  have h2 : i < xs.length := by omega
  refine WP.skip (WP.seq (WP.block (WP.sr (RG.p (PV.move (v := v) rfl rfl) (RG.ml rfl (RG.ml rfl (RG.p (PV.idxS (v := v) rfl Is113 rfl SlF.o rfl rfl (by omega)) (RG.p (PV.field rfl Fo173_0 rfl) ?_))))))))
  refine RG.ot rfl (OT.storeF (F := instT) (val := vi) (cv := fun u => [vi u]) (st := Inst.s0) rfl Sz2 rfl rfl rfl (Cl.c rfl) rfl (OneC.c rfl) (by exact set_self (by omega)) (by first | omega | (simp; omega)) rfl (fun _ _ => rfl) ?_)
  refine RG.nil (WP.sr (RG.ml rfl (RG.p (PV.add rfl rfl rfl (by first | omega | (simp only [List.length_set]; omega))) (RG.mr rfl (RG.nil (WP.sr (RG.p (PV.move (v := v) rfl rfl) (RG.ml rfl (RG.ml rfl (RG.p (PV.idxS (v := v) rfl Is113 rfl SlF.o rfl rfl (by first | omega | (simp only [List.length_set]; omega))) (RG.p (PV.field rfl Fo173_1 rfl) ?_)))))))))))
  refine RG.p (PV.field rfl Fo95_0 rfl) ?_
  refine RG.ot rfl (OT.storeF (F := instT) (val := vi) (cv := fun u => [vi u]) (j := 1) (st := Inst.s1_0) rfl Sz2 rfl rfl rfl (Cl.c rfl) rfl (OneC.c rfl) (by rfl) (by first | omega | (simp; omega)) rfl (fun _ _ => rfl) ?_)
  refine RG.nil (WP.sr (RG.ml rfl (RG.p (PV.add rfl rfl rfl (by first | omega | (simp only [List.length_set]; omega))) (RG.mr rfl (RG.nil (WP.sr (RG.p (PV.move (v := v) rfl rfl) (RG.ml rfl (RG.ml rfl (RG.p (PV.idxS (v := v) rfl Is113 rfl SlF.o rfl rfl (by first | omega | (simp only [List.length_set]; omega))) (RG.p (PV.field rfl Fo173_1 rfl) ?_)))))))))))
  refine RG.p (PV.field rfl Fo95_1 rfl) ?_
  refine RG.ot rfl (OT.storeF (F := instT) (val := vi) (cv := fun u => [vi u]) (j := 2) (st := Inst.s1_1) rfl Sz2 rfl rfl rfl (Cl.c rfl) rfl (OneC.c rfl) (by rfl) (by first | omega | (simp; omega)) rfl (fun _ _ => rfl) ?_)
  refine RG.nil (WP.sr (RG.ml rfl (RG.p (PV.add rfl rfl rfl (by first | omega | (simp only [List.length_set]; omega))) (RG.mr rfl (RG.nil (WP.sr (RG.p (PV.move (v := v) rfl rfl) (RG.ml rfl (RG.ml rfl (RG.p (PV.idxS (v := v) rfl Is113 rfl SlF.o rfl rfl (by first | omega | (simp only [List.length_set]; omega))) (RG.p (PV.field rfl Fo173_1 rfl) ?_)))))))))))
  refine RG.p (PV.field rfl Fo95_2 rfl) ?_
  refine RG.ot rfl (OT.storeF (F := instT) (val := vi) (cv := fun u => [vi u]) (j := 3) (st := Inst.s1_2) rfl Sz2 rfl rfl rfl (Cl.c rfl) rfl (OneC.c rfl) (by rfl) (by first | omega | (simp; omega)) rfl (fun _ _ => rfl) ?_)
  refine RG.nil (WP.sr (RG.ml rfl (RG.p (PV.add rfl rfl rfl (by first | omega | (simp only [List.length_set]; omega))) (RG.mr rfl (RG.nil (WP.sr (RG.p (PV.move (v := v) rfl rfl) (RG.ml rfl (RG.ml rfl (RG.p (PV.idxS (v := v) rfl Is113 rfl SlF.o rfl rfl (by first | omega | (simp only [List.length_set]; omega))) (RG.p (PV.field rfl Fo173_2 rfl) ?_)))))))))))
  refine RG.ot rfl (OT.storeF (F := instT) (val := vi) (cv := fun u => [vi u]) (st := Inst.s2) rfl Sz2 rfl rfl rfl (Cl.c rfl) rfl (OneC.c rfl) (by rfl) (by first | omega | (simp; omega)) rfl (fun _ _ => rfl) ?_)
  refine RG.nil (WP.sr (RG.ml rfl (RG.p (PV.add rfl rfl rfl (by first | omega | (simp only [List.length_set]; omega))) (RG.mr rfl (RG.nil (WP.sr (RG.p (PV.move (v := v) rfl rfl) (RG.ml rfl (RG.ml rfl (RG.p (PV.idxS (v := v) rfl Is113 rfl SlF.o rfl rfl (by first | omega | (simp only [List.length_set]; omega))) (RG.p (PV.field rfl Fo173_3 rfl) ?_)))))))))))
  refine RG.ot rfl (OT.storeF (F := instT) (val := vi) (cv := fun u => [vi u]) (st := Inst.s3) rfl Sz2 rfl rfl rfl (Cl.c rfl) rfl (OneC.c rfl) (by rfl) (by first | omega | (simp; omega)) rfl (fun _ _ => rfl) ?_)
  refine RG.nil (WP.sr (RG.ml rfl (RG.p (PV.add rfl rfl rfl (by first | omega | (simp only [List.length_set]; omega))) (RG.mr rfl (RG.nil (WP.sr (RG.p (PV.move (v := v) rfl rfl) (RG.ml rfl (RG.ml rfl (RG.p (PV.idxS (v := v) rfl Is113 rfl SlF.o rfl rfl (by first | omega | (simp only [List.length_set]; omega))) (RG.p (PV.field rfl Fo173_4 rfl) ?_)))))))))))
  refine RG.ot rfl (OT.storeF (F := instT) (val := vi) (cv := fun u => [vi u]) (st := Inst.s4) rfl Sz2 rfl rfl rfl (Cl.c rfl) rfl (OneC.c rfl) (by rfl) (by first | omega | (simp; omega)) rfl (fun _ _ => rfl) ?_)
  refine RG.nil (WP.sr (RG.ml rfl (RG.p (PV.add rfl rfl rfl (by first | omega | (simp only [List.length_set]; omega))) (RG.mr rfl (RG.nil (WP.sr (RG.p (PV.move (v := v) rfl rfl) (RG.ml rfl (RG.ml rfl (RG.p (PV.idxS (v := v) rfl Is113 rfl SlF.o rfl rfl (by first | omega | (simp only [List.length_set]; omega))) (RG.p (PV.field rfl Fo173_5 rfl) ?_)))))))))))
  refine RG.ot rfl (OT.storeF (F := instT) (val := vi) (cv := fun u => [vi u]) (st := Inst.s5) rfl Sz2 rfl rfl rfl (Cl.c rfl) rfl (OneC.c rfl) (by rfl) (by first | omega | (simp; omega)) rfl (fun _ _ => rfl) ?_)
  refine RG.nil (WP.region (RG.ml rfl (RG.p (PV.add rfl rfl rfl (by first | omega | (simp only [List.length_set]; omega))) (RG.mr rfl (RG.nil (WP.region (RG.ml rfl (RG.p (PV.add rfl rfl rfl (by first | omega | (simp only [List.length_set]; omega))) (RG.mr rfl (RG.nil ?_))))))))))
  exact ⟨rfl, i + 1, _, ⟨by omega, by omega⟩, ⟨rfl, rfl, trivial⟩, ⟨rfl, trivial⟩, (Cv.eqS (by rw [← markTo_set h2, mkIn_at h2 hkk])), by omega⟩
 ·have h1 := of_decide_eq_false h1
  have e : kk = k0 + costL nIn xs := by omega
  rw [← e] at k
  refine WP.exit ?_
  refine WP.sr (RG.ml rfl (RG.mr rfl (RG.nil ?_)))
  exact WP.ret ⟨_, _, ResV.one rfl rfl, (Cv.eqS (markTo_all (by omega))), k⟩
theorem gd_setE' {α : Type} [Inhabited α] {xs : List α} {i : Nat} {a : α} (h : i < xs.length) : gd (xs.set i a) i = a := by unfold gd; simp [h]
theorem gd_setN {α : Type} [Inhabited α] {xs : List α} {i j : Nat} {a : α} (h : i ≠ j) : gd (xs.set i a) j = gd xs j := by unfold gd; rw [List.getElem?_set_ne h]
def shs (xs : List Cell) : List (Sl Shape) := xs.map Cell.shapes
def lbs (xs : List Cell) : List (Sl Label) := xs.map Cell.labels
def ins (xs : List Cell) : List (Sl Inst) := xs.map Cell.insts
structure RLib (G : Gh) (L : List Ch) (v : Value) (xs : List Cell) : Prop where
  c : Rs G L cellT v xs
  s : RsE G L shapeT (shs xs)
  l : RsE G L labelT (lbs xs)
  n : RsE G L instT (ins xs)
theorem RLib.up {L' : List Ch} {v : Value} {xs : List Cell} (h : RLib G L v xs) [p : PickC L L'] : RLib G L' v xs := ⟨h.c.up, h.s.up, h.l.up, h.n.up⟩
theorem RLib.cv {L' : List Ch} {v : Value} {xs : List Cell} (c : Cv L' L) (h : RLib G L v xs) : RLib G L' v xs := ⟨h.c.cv c, h.s.cv c, h.l.cv c, h.n.cv c⟩
theorem RLib.sa {v : Value} {xs : List Cell} (h : RLib G L v xs) {i : Nat} (hi : i < xs.length) : Rs G L shapeT (gd xs i).shapes.v (gd xs i).shapes.xs := by
 have := h.s i (by simpa [shs] using hi); rwa [shs, gd_map _ hi] at this
theorem RLib.la {v : Value} {xs : List Cell} (h : RLib G L v xs) {i : Nat} (hi : i < xs.length) : Rs G L labelT (gd xs i).labels.v (gd xs i).labels.xs := by
 have := h.l i (by simpa [lbs] using hi); rwa [lbs, gd_map _ hi] at this
theorem RLib.na {v : Value} {xs : List Cell} (h : RLib G L v xs) {i : Nat} (hi : i < xs.length) : Rs G L instT (gd xs i).insts.v (gd xs i).insts.xs := by
 have := h.n i (by simpa [ins] using hi); rwa [ins, gd_map _ hi] at this
theorem RLib.one {L' : List Ch} {v : Value} {xs : List Cell} (h : RLib G L v xs) {i : Nat} (hi : i < xs.length) [p : PickC L L'] : OneC G L' [.string (gd xs i).name, (gd xs i).shapes.v, (gd xs i).labels.v, (gd xs i).insts.v] :=
 OneC.val rfl (OneC.sl (SlF.r (h.sa hi)) (OneC.sl (SlF.r (h.la hi)) (OneC.sl (SlF.r (h.na hi)) OneC.nil)))
def lenL (ls : List Label) : Prop := ∀ i, i < ls.length → (gd ls i).name.size ≤ 9223372036854775807
def lenC (cs : List ECell) : Prop := ∀ i, i < cs.length → (gd cs i).name.size ≤ 9223372036854775807 ∧ lenL (gd cs i).labels
def few (cs : List ECell) : Prop := cs.length ≤ 1048576 ∧ ∀ i, i < cs.length → (gd cs i).shapes.length ≤ 1048576 ∧ (gd cs i).labels.length ≤ 1048576 ∧ (gd cs i).insts.length ≤ 1048576
theorem toCell_s {c : Cell} (h1 : Rs G L shapeT c.shapes.v c.shapes.xs) (h2 : Rs G L labelT c.labels.v c.labels.xs) (h3 : Rs G L instT c.insts.v c.insts.xs) (hb : c.shapes.xs.length ≤ 1048576 ∧ c.labels.xs.length ≤ 1048576 ∧ c.insts.xs.length ≤ 1048576)
  (k : ∀ v1 v2 v3, R (vT cellT ⟨c.name, ⟨v1, c.shapes.xs⟩, ⟨v2, c.labels.xs⟩, ⟨v3, c.insts.xs⟩⟩) G (osl 155 shapeT v1 c.shapes.xs :: osl 191 labelT v2 c.labels.xs :: osl 173 instT v3 c.insts.xs :: L)) : CallT Tryz.prog 75 #[vT cellT c] G L R := by
 refine CallT.enter (args := _) Tryz.func75 rfl rfl (by kernel_rfl) rfl ?_
 refine WP.sr ?_
 refine RG.ot rfl (OT.box (cs := cellT.enc c) rfl rfl rfl fun b1 => ?_)
 refine RG.ot rfl (OT.alloc rfl Zr115 fun b2 => ?_)
 refine RG.nil (WP.sr ?_)
 refine RG.ot rfl (OT.alloc rfl Zr115 fun b3 => ?_)
 refine RG.nil (WP.sr (RG.p (PV.field rfl Fo124_0 rfl) (RG.p (PV.load1 rfl Sc9 rfl (Rd.blk rfl)) (RG.p (PV.field rfl Fo115_0 rfl) ?_))))
 refine RG.ot rfl (OT.storeB (vs := [.string _]) (cs' := [_, _, _, _]) rfl Sz9 rfl rfl (Cl.c rfl) rfl (OneC.c rfl) rfl rfl ?_)
 refine RG.nil (WP.sr (RG.p (PV.field rfl Fo124_1 rfl) (RG.p (PV.load1 rfl Sc120 rfl (Rd.blk rfl)) ?_)))
 refine RG.callF (vs := [_]) rfl rfl En145 rfl (toShapeS_s (Rs.up h1) (by omega) (fun v9 => ?_))
 refine RG.p (PV.field rfl Fo115_1 rfl) ?_
 refine RG.ot rfl (OT.storeB (v := v9) (vs := [_]) (cs' := [_, _, _, _]) rfl Sz111 rfl rfl (Cl.s (v := v9) SlF.o) rfl (OneC.sl SlF.o OneC.nil) rfl rfl ?_)
 refine RG.nil (WP.sr (RG.p (PV.field rfl Fo124_2 rfl) (RG.p (PV.load1 rfl Sc121 rfl (Rd.blk rfl)) ?_)))
 refine RG.callF (vs := [_]) rfl rfl En146 rfl (toLabelS_s (Rs.up h2) (by omega) (fun v13 => ?_))
 refine RG.p (PV.field rfl Fo115_2 rfl) ?_
 refine RG.ot rfl (OT.storeB (v := v13) (vs := [_]) (cs' := [_, _, _, _]) rfl Sz112 rfl rfl (Cl.s (v := v13) SlF.o) rfl (OneC.sl SlF.o OneC.nil) rfl rfl ?_)
 refine RG.nil (WP.sr (RG.p (PV.field rfl Fo124_3 rfl) (RG.p (PV.load1 rfl Sc122 rfl (Rd.blk rfl)) ?_)))
 refine RG.callF (vs := [_]) rfl rfl En147 rfl (toInstS_s (Rs.up h3) (by omega) (fun v17 => ?_))
 refine RG.p (PV.field rfl Fo115_3 rfl) ?_
 refine RG.ot rfl (OT.storeB (v := v17) (vs := [_]) (cs' := [_, _, _, _]) rfl Sz113 rfl rfl (Cl.s (v := v17) SlF.o) rfl (OneC.sl SlF.o OneC.nil) rfl rfl ?_)
 refine RG.nil (WP.sr (RG.p (PV.loadW rfl Ag115 rfl rfl) ?_))
 refine RG.ot rfl (OT.storeW (vs := [.string _, _, _, _]) rfl Sz115 rfl rfl (Cl.c rfl) rfl rfl (OneC.val rfl (OneC.sl SlF.o (OneC.sl SlF.o (OneC.sl SlF.o OneC.nil)))) ?_)
 refine RG.nil ?_
 exact WP.ret ⟨_, _, ResV.one rfl (RV1.cell rfl Ag115 rfl), Cv.p, k v9 v13 v17⟩
theorem Cv.grow3 {α β γ : Type} {e1 e2 e3 : TypeId} {F1 : FT α} {F2 : FT β} {F3 : FT γ} {u1 u2 u3 : Value} {us1 : List α} {us2 : List β} {us3 : List γ} {y1 y1' : List (Sl α)} {y2 y2' : List (Sl β)} {y3 y3' : List (Sl γ)} (h1 : y1' = y1 ++ [⟨u1, us1⟩]) (h2 : y2' = y2 ++ [⟨u2, us2⟩]) (h3 : y3' = y3 ++ [⟨u3, us3⟩]) :
  Cv (osl e1 F1 u1 us1 :: osl e2 F2 u2 us2 :: osl e3 F3 u3 us3 :: bagS e1 F1 y1 :: bagS e2 F2 y2 :: bagS e3 F3 y3 :: L) (bagS e1 F1 y1' :: bagS e2 F2 y2' :: bagS e3 F3 y3' :: L) :=
 (Cv.p (C := osl e1 F1 u1 us1 :: bagS e1 F1 y1 :: osl e2 F2 u2 us2 :: bagS e2 F2 y2 :: osl e3 F3 u3 us3 :: bagS e3 F3 y3 :: L)).trans ((Cv.grow h1).trans (Cv.cons ((Cv.grow h2).trans (Cv.cons (Cv.grow h3)))))
theorem few.one {xs : List Cell} {i : Nat} (hf : few (erCls xs)) (hi : i < xs.length) : (gd xs i).shapes.xs.length ≤ 1048576 ∧ (gd xs i).labels.xs.length ≤ 1048576 ∧ (gd xs i).insts.xs.length ≤ 1048576 := by
 have := hf.2 i (by rw [erCls_len]; exact hi)
 rwa [erCls_gd hi] at this
theorem erCls_of {xs ys : List Cell} (hl : xs.length = ys.length) (h : ∀ i, i < ys.length → erCl (gd xs i) = erCl (gd ys i)) : erCls xs = erCls ys := by
 apply List.ext_getElem?
 intro i
 by_cases hi : i < ys.length
 ·rw [getG (by rw [erCls_len]; omega), getG (by rw [erCls_len]; omega), erCls_gd (by omega), erCls_gd hi, h i hi]
 ·rw [List.getElem?_eq_none (by rw [erCls_len]; omega), List.getElem?_eq_none (by rw [erCls_len]; omega)]
theorem toCellS_s {v : Value} {xs : List Cell} (hL : RLib G L v xs) (hf : few (erCls xs)) (k : ∀ v' ys, erCls ys = erCls xs → R v' G (osl 115 cellT v' (ys) :: bagS 155 shapeT (shs (ys)) :: bagS 191 labelT (lbs (ys)) :: bagS 173 instT (ins (ys)) :: L)) : CallT Tryz.prog 39 #[v] G L R := by
 have hb : xs.length ≤ 1048576 := by have := hf.1; rwa [erCls_len] at this
 refine CallT.enter (args := _) Tryz.func39 rfl rfl (by kernel_rfl) rfl ?_
 refine WP.sr (RG.p (PV.asg rfl rfl) (RG.nil (WP.sr (RG.p (PV.move (v := v) rfl rfl) (RG.p (PV.len (v := v) rfl Tryz.underlying22 rfl (SlF.r hL.c)) ?_)))))
 refine RG.ot rfl (OT.make (F := cellT) (a0 := default) rfl El33 rfl (by decide) rfl rfl (by omega) (by omega) fun v7 => ?_)
 refine RG.p (PV.asg (v := v7) rfl rfl) (RG.nil (WP.seq (WP.sr (RG.mr rfl (RG.nil (WP.block ?_))))))
 refine WP.cv (Cv.cons (((Cv.bag0 (e := 173) (F := instT) (xs := ins ((List.replicate xs.length default).take 0)) rfl).trans (Cv.bag0 (e := 191) (F := labelT) (xs := lbs ((List.replicate xs.length default).take 0)) rfl)).trans (Cv.bag0 (e := 155) (F := shapeT) (xs := shs ((List.replicate xs.length default).take 0)) rfl))) ?_
 refine WP.loop2 [0, 3] (fun (i : Nat) (ys : List Cell) => i ≤ xs.length ∧ ys.length = xs.length ∧ ∀ j, j < i → erCl (gd ys j) = erCl (gd xs j)) (fun (i : Nat) (ys : List Cell) => [(4, vi i)]) (fun (i : Nat) (ys : List Cell) => osl 115 cellT v7 ys :: bagS 155 shapeT (shs (ys.take i)) :: bagS 191 labelT (lbs (ys.take i)) :: bagS 173 instT (ins (ys.take i)) :: L) (fun (i : Nat) (ys : List Cell) => xs.length - i) 0 (List.replicate xs.length default) ⟨by omega, by simp, fun j h => by omega⟩ ⟨rfl, trivial⟩ Cv.p ?_
 rintro i ys τ ⟨hi, hl, he⟩
 refine WP.seq (WP.sr (RG.ml rfl (RG.p (PV.move (v := v) rfl rfl) (RG.p (PV.len (v := v) rfl Tryz.underlying22 rfl (SlF.r hL.c)) (RG.p (PV.lss rfl rfl rfl) (RG.nil ?_))))))
 refine WP.cond rfl (fun h2 => ?_) (fun h2 => ?_)
 ·have h2 := of_decide_eq_true h2
  have h3 : i < ys.length := by omega
  refine WP.skip (WP.seq (WP.block (WP.region (RG.p (PV.move (v := v7) rfl rfl) (RG.ml rfl (RG.p (PV.move (v := v) rfl rfl) (RG.ml rfl (RG.p (PV.idxS (v := v) rfl Is22 rfl (SlF.r hL.c) rfl rfl (by omega)) (RG.p (PV.loadE rfl Ag124 rfl rfl (El.r hL.c (getG (by omega)))) ?_)))))))))
  refine RG.callF (vs := [_]) rfl rfl En75 rfl (toCell_s (hL.sa (by omega)).up (hL.la (by omega)).up (hL.na (by omega)).up (few.one hf (by omega)) (fun a1 a2 a3 => ?_))
  refine RG.p (PV.idxS (v := v7) rfl Is33 rfl SlF.o rfl rfl (by omega)) ?_
  refine RG.ot rfl (OT.storeE (a := ⟨(gd xs i).name, ⟨a1, (gd xs i).shapes.xs⟩, ⟨a2, (gd xs i).labels.xs⟩, ⟨a3, (gd xs i).insts.xs⟩⟩) (F := cellT) rfl Sz115 rfl rfl rfl (Cl.c rfl) (OneC.val rfl (OneC.sl (SlF.o (v := a1)) (OneC.sl (SlF.o (v := a2)) (OneC.sl (SlF.o (v := a3)) OneC.nil)))) (by omega) ?_)
  refine RG.nil (WP.region (RG.ml rfl (RG.p (PV.add rfl rfl rfl (by omega)) (RG.mr rfl (RG.nil ?_)))))
  refine ⟨rfl, i + 1, _, ⟨by omega, by simpa using hl, fun j hj => ?_⟩, ⟨rfl, trivial⟩, ⟨rfl, rfl, trivial⟩, (Cv.cons (Cv.grow3 (by rw [take_set_succ h3]; simp [shs]) (by rw [take_set_succ h3]; simp [lbs]) (by rw [take_set_succ h3]; simp [ins]))), by omega⟩
  by_cases c : j = i
  ·subst c; simp [gd, h3, erCl]
  ·have := he j (by omega)
   simpa [gd, List.getElem?_set, Ne.symm c] using this
 ·have h2 := of_decide_eq_false h2
  have e : ys.take i = ys := List.take_of_length_le (by omega)
  rw [e]
  refine WP.exit ?_
  refine WP.sr (RG.p (PV.move (v := v7) rfl rfl) (RG.p (PV.asg (v := v7) rfl rfl) (RG.nil ?_)))
  exact WP.ret ⟨_, _, ResV.one rfl rfl, Cv.p, k v7 ys (erCls_of hl (fun j hj => he j (by omega)))⟩
theorem toLib_s {l : Lib} (hL : RLib G L l.cells.v l.cells.xs) (hf : few (erCls l.cells.xs)) (k : ∀ v' ys, erCls ys = erCls l.cells.xs → R (vT libT ⟨⟨v', ys⟩⟩) G (osl 115 cellT v' (ys) :: bagS 155 shapeT (shs (ys)) :: bagS 191 labelT (lbs (ys)) :: bagS 173 instT (ins (ys)) :: L)) : CallT Tryz.prog 10 #[vT libT l] G L R := by
 refine CallT.enter (args := _) Tryz.func10 rfl rfl (by kernel_rfl) rfl ?_
 refine WP.sr ?_
 refine RG.ot rfl (OT.box (cs := libT.enc l) rfl rfl rfl fun b1 => ?_)
 refine RG.ot rfl (OT.alloc rfl Zr35 fun b2 => ?_)
 refine RG.nil (WP.sr ?_)
 refine RG.ot rfl (OT.alloc rfl Zr35 fun b3 => ?_)
 refine RG.nil (WP.sr (RG.p (PV.field rfl Fo24_0 rfl) (RG.p (PV.load1 rfl Sc22 rfl (Rd.blk rfl)) ?_)))
 refine RG.callF (vs := [_]) rfl rfl En39 rfl (toCellS_s hL.up hf (fun v6 ysv6 hev6 => ?_))
 refine RG.p (PV.field rfl Fo35_0 rfl) ?_
 refine RG.ot rfl (OT.storeB (v := v6) (vs := [_]) (cs' := [_]) rfl Sz33 rfl rfl (Cl.s (v := v6) SlF.o) rfl (OneC.sl SlF.o OneC.nil) rfl rfl ?_)
 refine RG.nil (WP.sr (RG.p (PV.loadW rfl Ag35 rfl rfl) ?_))
 refine RG.ot rfl (OT.storeW (vs := [_]) rfl Sz35 rfl rfl (Cl.c rfl) rfl rfl (OneC.sl SlF.o OneC.nil) ?_)
 refine RG.nil ?_
 exact WP.ret ⟨_, _, ResV.one rfl (RV1.cell rfl Ag35 rfl), Cv.p, k _ _ (by assumption)⟩
theorem szLbS_le {xs : List Label} {n : Int} (h0 : 0 ≤ n) : szLbS xs n ≤ n := by
 have : ∀ (l : List Label) (m : Int), szLb l m ≤ m ∨ szLb l m = -1 := by
  intro l
  induction l with
  | nil => intro m; exact .inl (Int.le_refl _)
  | cons w l ih =>
   intro m
   rw [szLb]
   split
   ·exact .inr rfl
   ·rcases ih (m - w.name.size) with h | h
    ·exact .inl (by omega)
    ·exact .inr h
 unfold szLbS; split
 ·omega
 ·rcases this xs (n - xs.length) with h | h <;> omega
theorem szCell_s {c : Cell} {n : Int} (h1 : Rs G L shapeT c.shapes.v c.shapes.xs) (h2 : Rs G L labelT c.labels.v c.labels.xs) (h3 : Rs G L instT c.insts.v c.insts.xs) (hs : c.name.size ≤ 9223372036854775807) (hlen : lenL c.labels.xs) (hn : n ≤ 1048576) (h0 : 0 ≤ n)
  (k : ∀ r : Int, r ≤ n → (0 ≤ r → (c.shapes.xs.length : Int) ≤ n ∧ (c.labels.xs.length : Int) ≤ n ∧ (c.insts.xs.length : Int) ≤ n) → R (vi r) G L) : CallT Tryz.prog 69 #[vT cellT c, vi n] G L R := by
 have hx := @szLbS_le c.labels.xs
 have hy := @szLbS_len c.labels.xs
 refine CallT.enter (args := _) Tryz.func69 rfl rfl (by kernel_rfl) rfl ?_
 refine WP.sr ?_
 refine RG.ot rfl (OT.box (cs := cellT.enc c) rfl rfl rfl fun b2 => ?_)
 refine RG.mr rfl (RG.nil (WP.sr (RG.ml rfl (RG.p (PV.field rfl Fo124_0 rfl) (RG.p (PV.load1 rfl Sc9 rfl (Rd.blk rfl)) (RG.p (PV.lenS rfl Tryz.underlying9 rfl) (RG.p (PV.sub rfl rfl rfl (by omega)) (RG.mr rfl (RG.nil (WP.seq (WP.sr ?_)))))))))))
 refine RG.ml rfl (RG.p (PV.lss rfl rfl rfl) (RG.nil ?_))
 refine WP.cond rfl (fun h4 => ?_) (fun h4 => ?_)
 ·refine WP.seq ?_
  refine WP.region (RG.mr rfl (RG.nil ?_))
  exact WP.ret ⟨_, _, ResV.one rfl rfl, Cv.p, k _ (by omega) (fun h => by omega)⟩
 ·have h4 := of_decide_eq_false h4
  refine WP.skip (WP.sr (RG.p (PV.field rfl Fo124_1 rfl) (RG.p (PV.load1 rfl Sc120 rfl (Rd.blk rfl)) (RG.ml rfl ?_))))
  refine RG.callF (vs := [_, _]) rfl rfl En134 rfl (szShapeS_s (Rs.up h1) (by omega) (by omega) (fun r1 hr1 hr1' => ?_))
  refine RG.mr rfl (RG.nil (WP.seq (WP.sr (RG.ml rfl (RG.p (PV.lss rfl rfl rfl) (RG.nil ?_))))))
  refine WP.cond rfl (fun h5 => ?_) (fun h5 => ?_)
  ·refine WP.seq ?_
   refine WP.region (RG.mr rfl (RG.nil ?_))
   exact WP.ret ⟨_, _, ResV.one rfl rfl, Cv.p, k _ (by omega) (fun h => by omega)⟩
  ·have h5 := of_decide_eq_false h5
   refine WP.skip (WP.sr (RG.p (PV.field rfl Fo124_2 rfl) (RG.p (PV.load1 rfl Sc121 rfl (Rd.blk rfl)) (RG.ml rfl ?_))))
   refine RG.callF (vs := [_, _]) rfl rfl En135 rfl (szLabelS_s (Rs.up h2) (by omega) (by omega) hlen ?_)
   refine RG.mr rfl (RG.nil (WP.seq (WP.sr (RG.ml rfl (RG.p (PV.lss rfl rfl rfl) (RG.nil ?_))))))
   refine WP.cond rfl (fun h6 => ?_) (fun h6 => ?_)
   ·refine WP.seq ?_
    refine WP.region (RG.mr rfl (RG.nil ?_))
    exact WP.ret ⟨_, _, ResV.one rfl rfl, Cv.p, k _ (by omega) (fun h => by omega)⟩
   ·have h6 := of_decide_eq_false h6
    have hx1 := hx (n := r1) (by omega)
    have hy1 := hy (n := r1) (by omega)
    refine WP.skip (WP.sr (RG.p (PV.field rfl Fo124_3 rfl) (RG.p (PV.load1 rfl Sc122 rfl (Rd.blk rfl)) (RG.ml rfl ?_))))
    refine RG.callF (vs := [_, _]) rfl rfl En136 rfl (szInstanceS_s (Rs.up h3) (by omega) (by omega) (fun r3 hr3 hr3' => ?_))
    refine RG.mr rfl (RG.nil (WP.seq (WP.sr (RG.ml rfl (RG.p (PV.lss rfl rfl rfl) (RG.nil ?_))))))
    refine WP.cond rfl (fun h7 => ?_) (fun h7 => ?_)
    ·refine WP.seq ?_
     refine WP.region (RG.mr rfl (RG.nil ?_))
     exact WP.ret ⟨_, _, ResV.one rfl rfl, Cv.p, k _ (by omega) (fun h => by omega)⟩
    ·have h7 := of_decide_eq_false h7
     refine WP.skip (WP.sr (RG.ml rfl (RG.mr rfl (RG.nil ?_))))
     exact WP.ret ⟨_, _, ResV.one rfl rfl, Cv.p, k _ (by omega) (fun h => ⟨by omega, by omega, by omega⟩)⟩
theorem lenC.one {xs : List Cell} (h : lenC (erCls xs)) {i : Nat} (hi : i < xs.length) : (gd xs i).name.size ≤ 9223372036854775807 ∧ lenL (gd xs i).labels.xs := by
 have := h i (by rw [erCls_len]; exact hi); rwa [erCls_gd hi] at this
theorem eqCell_s {c d : Cell} (h1 : Rs G L shapeT c.shapes.v c.shapes.xs) (h2 : Rs G L labelT c.labels.v c.labels.xs) (h3 : Rs G L instT c.insts.v c.insts.xs) (g1 : Rs G L shapeT d.shapes.v d.shapes.xs) (g2 : Rs G L labelT d.labels.v d.labels.xs) (g3 : Rs G L instT d.insts.v d.insts.xs) (he : erCl c = erCl d) (k : R (.bool true) G L) : CallT Tryz.prog 83 #[vT cellT c, vT cellT d] G L R := by
 have e0 : c.name = d.name := congrArg ECell.name he
 have e1 : c.shapes.xs = d.shapes.xs := congrArg ECell.shapes he
 have e2 : c.labels.xs = d.labels.xs := congrArg ECell.labels he
 have e3 : c.insts.xs = d.insts.xs := congrArg ECell.insts he
 refine CallT.enter (args := _) Tryz.func83 rfl rfl (by kernel_rfl) rfl ?_
 refine WP.sr ?_
 refine RG.ot rfl (OT.box (cs := cellT.enc c) rfl rfl rfl fun b2 => ?_)
 refine RG.ot rfl (OT.box (cs := cellT.enc d) rfl rfl rfl fun b3 => ?_)
 refine RG.br rfl (RG.nil (WP.seq (WP.sr (RG.p (PV.field rfl Fo115_0 rfl) (RG.p (PV.load1 rfl Sc9 rfl (Rd.blk rfl)) (RG.p (PV.field rfl Fo115_0 rfl) (RG.p (PV.load1 rfl Sc9 rfl (Rd.blk rfl)) (RG.p (PV.neqS rfl rfl rfl) (RG.nil ?_)))))))))
 refine WP.cond rfl (fun h4 => ?_) (fun h4 => ?_)
 ·exfalso; simp [e0] at h4
 refine WP.skip (WP.seq (WP.sr (RG.p (PV.field rfl Fo115_1 rfl) (RG.p (PV.load1 rfl Sc111 rfl (Rd.blk rfl)) (RG.p (PV.field rfl Fo115_1 rfl) (RG.p (PV.load1 rfl Sc111 rfl (Rd.blk rfl)) ?_))))))
 refine RG.callF (vs := [_, _]) rfl rfl En164 rfl (eqShapeS_s (Rs.up h1) (Rs.up g1) ?_)
 refine RG.p (PV.not rfl rfl) (RG.nil ?_)
 refine WP.cond rfl (fun h5 => ?_) (fun h5 => ?_)
 ·exfalso; simp [e1] at h5
 refine WP.skip (WP.seq (WP.sr (RG.p (PV.field rfl Fo115_2 rfl) (RG.p (PV.load1 rfl Sc112 rfl (Rd.blk rfl)) (RG.p (PV.field rfl Fo115_2 rfl) (RG.p (PV.load1 rfl Sc112 rfl (Rd.blk rfl)) ?_))))))
 refine RG.callF (vs := [_, _]) rfl rfl En165 rfl (eqLabelS_s (Rs.up h2) (Rs.up g2) ?_)
 refine RG.p (PV.not rfl rfl) (RG.nil ?_)
 refine WP.cond rfl (fun h6 => ?_) (fun h6 => ?_)
 ·exfalso; simp [e2] at h6
 refine WP.skip (WP.seq (WP.sr (RG.p (PV.field rfl Fo115_3 rfl) (RG.p (PV.load1 rfl Sc113 rfl (Rd.blk rfl)) (RG.p (PV.field rfl Fo115_3 rfl) (RG.p (PV.load1 rfl Sc113 rfl (Rd.blk rfl)) ?_))))))
 refine RG.callF (vs := [_, _]) rfl rfl En166 rfl (eqInstS_s (Rs.up h3) (Rs.up g3) ?_)
 refine RG.p (PV.not rfl rfl) (RG.nil ?_)
 refine WP.cond rfl (fun h7 => ?_) (fun h7 => ?_)
 ·exfalso; simp [e3] at h7
 refine WP.skip (WP.sr (RG.br rfl (RG.nil ?_)))
 exact WP.ret ⟨_, _, ResV.one rfl rfl, Cv.p, k⟩
theorem eqCellS_s {v u : Value} {xs ys : List Cell} (hL : RLib G L v xs) (hM : RLib G L u ys) (he : erCls xs = erCls ys) (k : R (.bool true) G L) : CallT Tryz.prog 45 #[v, u] G L R := by
 have hl : xs.length = ys.length := by rw [← erCls_len, he, erCls_len]
 refine CallT.bd hL.c fun hb => ?_
 refine CallT.enter (args := _) Tryz.func45 rfl rfl (by kernel_rfl) rfl ?_
 refine WP.sr (RG.br rfl (RG.nil (WP.seq (WP.sr (RG.p (PV.move (v := v) rfl rfl) (RG.p (PV.len (v := v) rfl Tryz.underlying33 rfl (SlF.r hL.c)) (RG.p (PV.move (v := u) rfl rfl) (RG.p (PV.len (v := u) rfl Tryz.underlying33 rfl (SlF.r hM.c)) (RG.p (PV.neq rfl rfl rfl) (RG.nil ?_))))))))))
 refine WP.cond rfl (fun h3 => ?_) (fun h3 => ?_)
 ·exfalso; simp [hl] at h3
 refine WP.skip (WP.seq (WP.sr (RG.mr rfl (RG.nil (WP.block ?_)))))
 refine WP.loop1 [0, 1] (fun i => i ≤ xs.length) (fun i => [(5, vi i)]) (fun i => L) (fun i => xs.length - i) 0 (by omega) ⟨rfl, trivial⟩ Cv.p ?_
 rintro i τ hi
 refine WP.seq (WP.sr (RG.ml rfl (RG.p (PV.move (v := v) rfl rfl) (RG.p (PV.len (v := v) rfl Tryz.underlying33 rfl (SlF.r hL.c)) (RG.p (PV.lss rfl rfl rfl) (RG.nil ?_))))))
 refine WP.cond rfl (fun h4 => ?_) (fun h4 => ?_)
 ·have h4 := of_decide_eq_true h4
  refine WP.skip (WP.seq (WP.block (WP.seq ?_)))
  refine WP.regionQ (by kernel_rfl) (by kernel_rfl) ?_
  refine RQ.pv rfl (PV.move (v := v) rfl rfl) (RQ.pv rfl (PV.mvI (.inl rfl) rfl) (RQ.pv rfl (PV.idxS (v := v) rfl Is33 rfl (SlF.r hL.c) rfl rfl (by omega)) (RQ.pv rfl (PV.loadE rfl Ag115 rfl rfl (El.r hL.c (getG (by omega)))) (RQ.pv rfl (PV.move (v := u) rfl rfl) (RQ.pv rfl (PV.mvI (.inl rfl) rfl) (RQ.pv rfl (PV.idxS (v := u) rfl Is33 rfl (SlF.r hM.c) rfl rfl (by omega)) (RQ.pv rfl (PV.loadE rfl Ag115 rfl rfl (El.r hM.c (getG (by omega)))) ?_)))))))
  refine RQ.callF (vs := [_, _]) rfl rfl En83 rfl (eqCell_s (hL.sa (by omega)).up (hL.la (by omega)).up (hL.na (by omega)).up (hM.sa (by omega)).up (hM.la (by omega)).up (hM.na (by omega)).up (by rw [← erCls_gd (by omega), ← erCls_gd (by omega), he]) ⟨rfl, rfl, rfl⟩) ?_
  refine RQ.pv rfl (PV.not rfl rfl) ?_
  refine RQ.nil ?_
  refine WP.cond rfl (fun h6 => ?_) (fun h6 => ?_)
  ·exfalso; simp at h6
  refine WP.skip (WP.region (RG.ml rfl (RG.p (PV.add rfl rfl rfl (by omega)) (RG.mr rfl (RG.nil ?_)))))
  exact ⟨rfl, i + 1, (by omega), ⟨rfl, trivial⟩, ⟨rfl, rfl, trivial⟩, Cv.p, by omega⟩
 ·refine WP.exit ?_
  refine WP.sr (RG.br rfl (RG.nil ?_))
  exact WP.ret ⟨_, _, ResV.one rfl rfl, Cv.p, k⟩
theorem eqLib_s {l m : Lib} (hL : RLib G L l.cells.v l.cells.xs) (hM : RLib G L m.cells.v m.cells.xs) (he : erCls l.cells.xs = erCls m.cells.xs) (k : R (.bool true) G L) : CallT Tryz.prog 14 #[vT libT l, vT libT m] G L R := by
 refine CallT.enter (args := _) Tryz.func14 rfl rfl (by kernel_rfl) rfl ?_
 refine WP.sr ?_
 refine RG.ot rfl (OT.box (cs := libT.enc l) rfl rfl rfl fun b2 => ?_)
 refine RG.ot rfl (OT.box (cs := libT.enc m) rfl rfl rfl fun b3 => ?_)
 refine RG.br rfl (RG.nil (WP.seq (WP.sr (RG.p (PV.field rfl Fo35_0 rfl) (RG.p (PV.load1 rfl Sc33 rfl (Rd.blk rfl)) (RG.p (PV.field rfl Fo35_0 rfl) (RG.p (PV.load1 rfl Sc33 rfl (Rd.blk rfl)) ?_)))))))
 refine RG.callF (vs := [_, _]) rfl rfl En45 rfl (eqCellS_s hL.up hM.up he ?_)
 refine RG.p (PV.not rfl rfl) (RG.nil ?_)
 refine WP.cond rfl (fun h3 => ?_) (fun h3 => ?_)
 ·exfalso; simp at h3
 refine WP.skip (WP.sr (RG.br rfl (RG.nil ?_)))
 exact WP.ret ⟨_, _, ResV.one rfl rfl, Cv.p, k⟩
theorem Cv.uncons {α : Type} {e : TypeId} {F : FT α} {s : Sl α} {ss : List (Sl α)} : Cv (bagS e F (s :: ss) :: L) (osl e F s.v s.xs :: bagS e F ss :: L) := by
 have h : Cv (bag ((s :: ss).map (ownS e F)) :: L) ((s :: ss).map (ownS e F) ++ L) := Cv.ofBag
 exact h.trans (Cv.cons (c := osl e F s.v s.xs) Cv.toBag)
theorem Cv.uncons3 {α β γ : Type} {e1 e2 e3 : TypeId} {F1 : FT α} {F2 : FT β} {F3 : FT γ} {y1 y1' : List (Sl α)} {y2 y2' : List (Sl β)} {y3 y3' : List (Sl γ)} {s1 : Sl α} {s2 : Sl β} {s3 : Sl γ} (h1 : y1 = s1 :: y1') (h2 : y2 = s2 :: y2') (h3 : y3 = s3 :: y3') :
  Cv (bagS e1 F1 y1 :: bagS e2 F2 y2 :: bagS e3 F3 y3 :: L) (osl e1 F1 s1.v s1.xs :: osl e2 F2 s2.v s2.xs :: osl e3 F3 s3.v s3.xs :: bagS e1 F1 y1' :: bagS e2 F2 y2' :: bagS e3 F3 y3' :: L) := by
 subst h1; subst h2; subst h3
 exact ((Cv.uncons.trans (Cv.cons (Cv.cons (Cv.uncons.trans (Cv.cons (Cv.cons Cv.uncons)))))).trans Cv.p)
theorem CallT.eqv {P : Program} {f : FuncId} {v v' u : Value} (h : v = v') (k : CallT P f #[v', u] G L R) : CallT P f #[v, u] G L R := h ▸ k
end Go.Proofs.YtgphjofccckloaaGreat
namespace Go.Proofs.YtgphjofccckloaaGreat
open Go
set_option maxRecDepth 20000
variable {G : Gh} {L : List Ch} {R : Value → Gh → List Ch → Prop}
theorem okSh_i {s : Shape} (k : R (.bool (okSh s)) G L) : CallT Tryz.prog 151 #[vT shapeT s] G L R := by
 refine CallT.enter (args := _) Tryz.func151 rfl rfl (by kernel_rfl) rfl ?_
 refine WP.sr ?_
 refine RG.ot rfl (OT.box (cs := shapeT.enc s) rfl rfl rfl fun b1 => ?_)
 refine RG.br rfl (RG.nil (WP.sr (RG.p (PV.field rfl Fo155_0 rfl) (RG.p (PV.load1 rfl Sc2 rfl (Rd.blk rfl)) ?_))))
 refine RG.callF (vs := [_, _, _]) rfl rfl En100 rfl (within_s ?_)
 refine RG.bl rfl ?_
 refine RG.g rfl (fun hp => (PV.field rfl Fo155_1 rfl)) ?_
 refine RG.g rfl (fun hp => (PV.loadB (vs := [_, _, _, _]) rfl Ag91 (gs_t hp) rfl rfl)) ?_
 refine RG.gsC rfl rfl rfl rfl En124 (fun hp => ⟨_, (acons (gs_t hp) anil), validRect_s ⟨rfl, rfl, rfl⟩⟩) ?_
 refine RG.p (PV.pickA rfl rfl (fun hq => gs_t (geqT hq)) rfl) (RG.br rfl (RG.nil ?_))
 exact WP.ret ⟨_, _, ResV.one rfl rfl, Cv.p, k⟩
theorem validT_i {t : Trans} (k : R (.bool (validT t)) G L) : CallT Tryz.prog 129 #[vtrans t] G L R := by
 refine CallT.enter (args := _) Tryz.func129 rfl rfl (by kernel_rfl) rfl ?_
 refine WP.sr ?_
 refine RG.ot rfl (OT.box (cs := transT.enc t) rfl rfl rfl fun b1 => ?_)
 refine RG.br rfl (RG.nil (WP.sr (RG.p (PV.field rfl Fo95_0 rfl) (RG.p (PV.load1 rfl Sc2 rfl (Rd.blk rfl)) ?_))))
 refine RG.callF (vs := [_, _, _]) rfl rfl En100 rfl (within_s ?_)
 refine RG.bl rfl ?_
 refine RG.g rfl (fun hp => (PV.field rfl Fo95_1 rfl)) ?_
 refine RG.g rfl (fun hp => (PV.load1 rfl Sc2 (gs_t hp) (Rd.blk rfl))) ?_
 refine RG.gsC rfl rfl rfl rfl En100 (fun hp => ⟨_, (acons (gs_t hp) (acons rfl (acons rfl anil))), within_s ⟨rfl, rfl, rfl⟩⟩) ?_
 refine RG.p (PV.pickA rfl rfl (fun hq => gs_t (geqT hq)) rfl) (RG.bl rfl ?_)
 refine RG.g rfl (fun hp => (PV.field rfl Fo95_2 rfl)) ?_
 refine RG.g rfl (fun hp => (PV.load1 rfl Sc2 (gs_t hp) (Rd.blk rfl))) ?_
 refine RG.gsC rfl rfl rfl rfl En100 (fun hp => ⟨_, (acons (gs_t hp) (acons rfl (acons rfl anil))), within_s ⟨rfl, rfl, rfl⟩⟩) ?_
 refine RG.p (PV.pickA rfl rfl (fun hq => gs_t (geqT hq)) rfl) (RG.br rfl (RG.nil ?_))
 refine WP.ret ?_
 have e : validT t = ((within t.o 0 7 && within t.x (-80) 80) && within t.y (-80) 80) := (Bool.and_assoc _ _ _).symm
 rw [e] at k
 exact ⟨_, _, ResV.one rfl rfl, Cv.p, k⟩
theorem okIn_i {n : Inst} {k0 : Int} (hk : 0 ≤ k0 ∧ k0 ≤ 1000) (k : R (.bool (okIn k0 n)) G L) : CallT Tryz.prog 157 #[vT instT n, vi k0] G L R := by
 refine CallT.enter (args := _) Tryz.func157 rfl rfl (by kernel_rfl) rfl ?_
 refine WP.sr ?_
 refine RG.ot rfl (OT.box (cs := instT.enc n) rfl rfl rfl fun b2 => ?_)
 refine RG.br rfl (RG.nil (WP.sr (RG.p (PV.field rfl Fo173_0 rfl) (RG.p (PV.load1 rfl Sc2 rfl (Rd.blk rfl)) (RG.ml rfl (RG.p (PV.sub rfl rfl rfl (by omega)) ?_))))))
 refine RG.callF (vs := [_, _, _]) rfl rfl En100 rfl (within_s ?_)
 refine RG.bl rfl ?_
 refine RG.g rfl (fun hp => (PV.field rfl Fo173_1 rfl)) ?_
 refine RG.g rfl (fun hp => (PV.loadB (vs := [_, _, _]) rfl Ag95 (gs_t hp) rfl rfl)) ?_
 refine RG.gsC rfl rfl rfl rfl En129 (fun hp => ⟨_, (acons (gs_t hp) anil), validT_i ⟨rfl, rfl, rfl⟩⟩) ?_
 refine RG.p (PV.pickA rfl rfl (fun hq => gs_t (geqT hq)) rfl) (RG.bl rfl ?_)
 refine RG.g rfl (fun hp => (PV.field rfl Fo173_2 rfl)) ?_
 refine RG.g rfl (fun hp => (PV.load1 rfl Sc2 (gs_t hp) (Rd.blk rfl))) ?_
 refine RG.gsC rfl rfl rfl rfl En100 (fun hp => ⟨_, (acons (gs_t hp) (acons rfl (acons rfl anil))), within_s ⟨rfl, rfl, rfl⟩⟩) ?_
 refine RG.p (PV.pickA rfl rfl (fun hq => gs_t (geqT hq)) rfl) (RG.bl rfl ?_)
 refine RG.g rfl (fun hp => (PV.field rfl Fo173_3 rfl)) ?_
 refine RG.g rfl (fun hp => (PV.load1 rfl Sc2 (gs_t hp) (Rd.blk rfl))) ?_
 refine RG.gsC rfl rfl rfl rfl En100 (fun hp => ⟨_, (acons (gs_t hp) (acons rfl (acons rfl anil))), within_s ⟨rfl, rfl, rfl⟩⟩) ?_
 refine RG.p (PV.pickA rfl rfl (fun hq => gs_t (geqT hq)) rfl) (RG.bl rfl ?_)
 refine RG.g rfl (fun hp => (PV.field rfl Fo173_4 rfl)) ?_
 refine RG.g rfl (fun hp => (PV.load1 rfl Sc2 (gs_t hp) (Rd.blk rfl))) ?_
 refine RG.gsC rfl rfl rfl rfl En100 (fun hp => ⟨_, (acons (gs_t hp) (acons rfl (acons rfl anil))), within_s ⟨rfl, rfl, rfl⟩⟩) ?_
 refine RG.p (PV.pickA rfl rfl (fun hq => gs_t (geqT hq)) rfl) (RG.bl rfl ?_)
 refine RG.g rfl (fun hp => (PV.field rfl Fo173_5 rfl)) ?_
 refine RG.g rfl (fun hp => (PV.load1 rfl Sc2 (gs_t hp) (Rd.blk rfl))) ?_
 refine RG.gsC rfl rfl rfl rfl En100 (fun hp => ⟨_, (acons (gs_t hp) (acons rfl (acons rfl anil))), within_s ⟨rfl, rfl, rfl⟩⟩) ?_
 refine RG.p (PV.pickA rfl rfl (fun hq => gs_t (geqT hq)) rfl) (RG.bl rfl ?_)
 refine RG.g rfl (fun hp => (PV.field rfl Fo173_4 rfl)) ?_
 refine RG.g rfl (fun hp => (PV.load1 rfl Sc2 (gs_t hp) (Rd.blk rfl))) ?_
 refine RG.g rfl (fun hp => (PV.eql rfl (gs_t hp) rfl)) ?_
 refine RG.g rfl (fun hp => (PV.mvB (.inl rfl) (gs_t hp))) ?_
 refine RG.gs2 rfl rfl rfl (fun hp => (PV.field rfl Fo173_2 rfl)) (RG.gs2 rfl rfl rfl (fun hp => (PV.load1 rfl Sc2 (gs_t hp) (Rd.blk rfl))) (RG.gs2 rfl rfl rfl (fun hp => (PV.gtr rfl (gs_t hp) rfl)) ?_))
 refine RG.g rfl (fun hp => (PV.pickO rfl (gs_t hp) rfl (fun hq => gs_t (gandF hp hq)))) ?_
 refine RG.p (PV.pickA rfl rfl (fun hq => gs_t (geqT hq)) rfl) (RG.bl rfl ?_)
 refine RG.g rfl (fun hp => (PV.field rfl Fo173_5 rfl)) ?_
 refine RG.g rfl (fun hp => (PV.load1 rfl Sc2 (gs_t hp) (Rd.blk rfl))) ?_
 refine RG.g rfl (fun hp => (PV.eql rfl (gs_t hp) rfl)) ?_
 refine RG.g rfl (fun hp => (PV.mvB (.inl rfl) (gs_t hp))) ?_
 refine RG.gs2 rfl rfl rfl (fun hp => (PV.field rfl Fo173_3 rfl)) (RG.gs2 rfl rfl rfl (fun hp => (PV.load1 rfl Sc2 (gs_t hp) (Rd.blk rfl))) (RG.gs2 rfl rfl rfl (fun hp => (PV.gtr rfl (gs_t hp) rfl)) ?_))
 refine RG.g rfl (fun hp => (PV.pickO rfl (gs_t hp) rfl (fun hq => gs_t (gandF hp hq)))) ?_
 refine RG.p (PV.pickA rfl rfl (fun hq => gs_t (geqT hq)) rfl) (RG.br rfl (RG.nil ?_))
 exact WP.ret ⟨_, _, ResV.one rfl rfl, Cv.p, k⟩
theorem notSh_s {s : Shape} (k : R (.bool (!okSh s)) G L) : CallT Tryz.prog 150 #[vT shapeT s] G L R := by
 refine CallT.enter (args := _) Tryz.func150 rfl rfl (by kernel_rfl) rfl ?_
 refine WP.sr ?_
 refine RG.ot rfl (OT.box (cs := shapeT.enc s) rfl rfl rfl fun b1 => ?_)
 refine RG.br rfl (RG.nil (WP.sr (RG.p (PV.loadW rfl Ag155 rfl rfl) ?_)))
 refine RG.callF (vs := [_]) rfl rfl En151 rfl (okSh_i ?_)
 refine RG.p (PV.not rfl rfl) (RG.br rfl (RG.nil ?_))
 exact WP.ret ⟨_, _, ResV.one rfl rfl, Cv.p, k⟩
theorem notLb2_s {l : Label} (hs : l.name.size ≤ 9223372036854775807) (k : R (.bool (!validLb l)) G L) : CallT Tryz.prog 153 #[vT labelT l] G L R := by
 refine CallT.enter (args := _) Tryz.func153 rfl rfl (by kernel_rfl) rfl ?_
 refine WP.sr ?_
 refine RG.ot rfl (OT.box (cs := labelT.enc l) rfl rfl rfl fun b1 => ?_)
 refine RG.br rfl (RG.nil (WP.sr (RG.p (PV.loadW rfl Ag191 rfl rfl) ?_)))
 refine RG.callF (vs := [_]) rfl rfl En154 rfl (validLb_i hs ?_)
 refine RG.p (PV.not rfl rfl) (RG.br rfl (RG.nil ?_))
 exact WP.ret ⟨_, _, ResV.one rfl rfl, Cv.p, k⟩
theorem notIn_s {n : Inst} {k0 : Int} {b : Nat} (hk : 0 ≤ k0 ∧ k0 ≤ 1000) (hb : Rd G L b 0 (vi k0)) (k : R (.bool (!okIn k0 n)) G L) : CallT Tryz.prog 156 #[vT instT n, .pointer (some ⟨b, 0, none⟩)] G L R := by
 refine CallT.enter (args := _) Tryz.func156 rfl rfl (by kernel_rfl) rfl ?_
 refine WP.sr ?_
 refine RG.ot rfl (OT.box (cs := instT.enc n) rfl rfl rfl fun b2 => ?_)
 refine RG.br rfl (RG.nil (WP.sr (RG.p (PV.loadW rfl Ag173 rfl rfl) (RG.p (PV.load1 rfl Sc2 rfl (Rd.up hb)) ?_))))
 refine RG.callF (vs := [_, _]) rfl rfl En157 rfl (okIn_i hk ?_)
 refine RG.p (PV.not rfl rfl) (RG.br rfl (RG.nil ?_))
 exact WP.ret ⟨_, _, ResV.one rfl rfl, Cv.p, k⟩
theorem indexF_shape {v fv : Value} {xs : List (Shape)} {p : (Shape) → Bool} (h1 : Rs G L shapeT v xs) (hf : ∀ i, i < xs.length → CB Tryz.prog G L fv [vT shapeT (gd xs i)] (.bool (p (gd xs i)))) (k : R (vi (idxI p xs)) G L) : CallT Tryz.prog 222 #[v, fv] G L R := by
 refine CallT.bd h1 fun hb => ?_
 refine CallT.enter (args := _) Tryz.func222 rfl rfl (by kernel_rfl) rfl ?_
 refine WP.sr (RG.mr rfl (RG.nil (WP.seq (WP.sr (RG.p (PV.move (v := v) rfl rfl) (RG.p (PV.len (v := v) rfl Tryz.underlying111 rfl (SlF.r h1)) (RG.ml rfl (RG.nil (WP.block ?_)))))))))
 refine WP.loop1 [0, 1, 7] (fun i => i ≤ xs.length ∧ ∀ j, j < i → p (gd xs j) = false) (fun i => [(8, vi i)]) (fun i => L) (fun i => xs.length - i) 0 ⟨by omega, fun j h => by omega⟩ ⟨rfl, trivial⟩ Cv.p ?_
 rintro i τ ⟨hi, hj⟩
 refine WP.sr (RG.p (PV.lss rfl rfl rfl) (RG.nil (WP.seq ?_)))
 refine WP.cond rfl (fun h2 => ?_) (fun h2 => ?_)
 ·have h2 := of_decide_eq_true h2
  refine WP.skip (WP.seq (WP.block (WP.sr (RG.ml rfl (RG.mr rfl (RG.nil (WP.sr (RG.p (PV.move (v := fv) rfl rfl) (RG.p (PV.move (v := v) rfl rfl) (RG.ml rfl (RG.p (PV.idxS (v := v) rfl Is111 rfl (SlF.r h1) rfl rfl (by omega)) ?_)))))))))))
  refine RG.p (PV.loadE rfl Ag155 rfl rfl (El.r h1 (getG (by omega)))) ?_
  refine RG.callB (vs := [_]) rfl rfl rfl rfl (CB.up (hf i (by omega))) ?_
  refine RG.nil ?_
  refine WP.cond rfl (fun h3 => ?_) (fun h3 => ?_)
  ·rw [idxI_at (by omega) h3 hj] at k
   refine WP.sr (RG.ml rfl (RG.mr rfl (RG.nil ?_)))
   exact WP.ret ⟨_, _, ResV.one rfl rfl, Cv.p, k⟩
  ·have hj' : ∀ j, j < i + 1 → p (gd xs j) = false := fun j h => by
    by_cases c : j = i
    ·rw [c]; exact h3
    ·exact hj j (by omega)
   refine WP.skip (WP.region (RG.p (PV.add rfl rfl rfl (by omega)) (RG.ml rfl (RG.nil ?_))))
   exact ⟨rfl, i + 1, ⟨by omega, hj'⟩, ⟨rfl, trivial⟩, ⟨rfl, rfl, rfl, trivial⟩, Cv.p, by omega⟩
 ·have h2 := of_decide_eq_false h2
  rw [idxI_none (fun j h => hj j (by omega))] at k
  refine WP.exit ?_
  refine WP.sr (RG.mr rfl (RG.nil ?_))
  exact WP.ret ⟨_, _, ResV.one rfl rfl, Cv.p, k⟩
theorem containsF_shape {v fv : Value} {xs : List (Shape)} {p : (Shape) → Bool} (h1 : Rs G L shapeT v xs) (hf : ∀ i, i < xs.length → CB Tryz.prog G L fv [vT shapeT (gd xs i)] (.bool (p (gd xs i)))) (k : R (.bool (xs.any p)) G L) : CallT Tryz.prog 149 #[v, fv] G L R := by
 rw [← idxI_any] at k
 refine CallT.enter (args := _) Tryz.func149 rfl rfl (by kernel_rfl) rfl ?_
 refine WP.sr (RG.br rfl (RG.nil (WP.sr (RG.p (PV.move (v := v) rfl rfl) (RG.p (PV.move (v := fv) rfl rfl) ?_)))))
 refine RG.callF (vs := [v, fv]) rfl rfl En222 rfl (indexF_shape (Rs.up h1) (fun i hi => (hf i hi).up) ?_)
 refine RG.p (PV.geq rfl rfl rfl) (RG.br rfl (RG.nil ?_))
 exact WP.ret ⟨_, _, ResV.one rfl rfl, Cv.p, k⟩
theorem indexF_inst {v fv : Value} {xs : List (Inst)} {p : (Inst) → Bool} (h1 : Rs G L instT v xs) (hf : ∀ i, i < xs.length → CB Tryz.prog G L fv [vT instT (gd xs i)] (.bool (p (gd xs i)))) (k : R (vi (idxI p xs)) G L) : CallT Tryz.prog 225 #[v, fv] G L R := by
 refine CallT.bd h1 fun hb => ?_
 refine CallT.enter (args := _) Tryz.func225 rfl rfl (by kernel_rfl) rfl ?_
 refine WP.sr (RG.mr rfl (RG.nil (WP.seq (WP.sr (RG.p (PV.move (v := v) rfl rfl) (RG.p (PV.len (v := v) rfl Tryz.underlying113 rfl (SlF.r h1)) (RG.ml rfl (RG.nil (WP.block ?_)))))))))
 refine WP.loop1 [0, 1, 7] (fun i => i ≤ xs.length ∧ ∀ j, j < i → p (gd xs j) = false) (fun i => [(8, vi i)]) (fun i => L) (fun i => xs.length - i) 0 ⟨by omega, fun j h => by omega⟩ ⟨rfl, trivial⟩ Cv.p ?_
 rintro i τ ⟨hi, hj⟩
 refine WP.sr (RG.p (PV.lss rfl rfl rfl) (RG.nil (WP.seq ?_)))
 refine WP.cond rfl (fun h2 => ?_) (fun h2 => ?_)
 ·have h2 := of_decide_eq_true h2
  refine WP.skip (WP.seq (WP.block (WP.sr (RG.ml rfl (RG.mr rfl (RG.nil (WP.sr (RG.p (PV.move (v := fv) rfl rfl) (RG.p (PV.move (v := v) rfl rfl) (RG.ml rfl (RG.p (PV.idxS (v := v) rfl Is113 rfl (SlF.r h1) rfl rfl (by omega)) ?_)))))))))))
  refine RG.p (PV.loadE rfl Ag173 rfl rfl (El.r h1 (getG (by omega)))) ?_
  refine RG.callB (vs := [_]) rfl rfl rfl rfl (CB.up (hf i (by omega))) ?_
  refine RG.nil ?_
  refine WP.cond rfl (fun h3 => ?_) (fun h3 => ?_)
  ·rw [idxI_at (by omega) h3 hj] at k
   refine WP.sr (RG.ml rfl (RG.mr rfl (RG.nil ?_)))
   exact WP.ret ⟨_, _, ResV.one rfl rfl, Cv.p, k⟩
  ·have hj' : ∀ j, j < i + 1 → p (gd xs j) = false := fun j h => by
    by_cases c : j = i
    ·rw [c]; exact h3
    ·exact hj j (by omega)
   refine WP.skip (WP.region (RG.p (PV.add rfl rfl rfl (by omega)) (RG.ml rfl (RG.nil ?_))))
   exact ⟨rfl, i + 1, ⟨by omega, hj'⟩, ⟨rfl, trivial⟩, ⟨rfl, rfl, rfl, trivial⟩, Cv.p, by omega⟩
 ·have h2 := of_decide_eq_false h2
  rw [idxI_none (fun j h => hj j (by omega))] at k
  refine WP.exit ?_
  refine WP.sr (RG.mr rfl (RG.nil ?_))
  exact WP.ret ⟨_, _, ResV.one rfl rfl, Cv.p, k⟩
theorem containsF_inst {v fv : Value} {xs : List (Inst)} {p : (Inst) → Bool} (h1 : Rs G L instT v xs) (hf : ∀ i, i < xs.length → CB Tryz.prog G L fv [vT instT (gd xs i)] (.bool (p (gd xs i)))) (k : R (.bool (xs.any p)) G L) : CallT Tryz.prog 155 #[v, fv] G L R := by
 rw [← idxI_any] at k
 refine CallT.enter (args := _) Tryz.func155 rfl rfl (by kernel_rfl) rfl ?_
 refine WP.sr (RG.br rfl (RG.nil (WP.sr (RG.p (PV.move (v := v) rfl rfl) (RG.p (PV.move (v := fv) rfl rfl) ?_)))))
 refine RG.callF (vs := [v, fv]) rfl rfl En225 rfl (indexF_inst (Rs.up h1) (fun i hi => (hf i hi).up) ?_)
 refine RG.p (PV.geq rfl rfl rfl) (RG.br rfl (RG.nil ?_))
 exact WP.ret ⟨_, _, ResV.one rfl rfl, Cv.p, k⟩
theorem okCell_i {c : Cell} {k0 : Int} (hk : 0 ≤ k0 ∧ k0 ≤ 1000) (h1 : Rs G L shapeT c.shapes.v c.shapes.xs) (h2 : Rs G L labelT c.labels.v c.labels.xs) (h3 : Rs G L instT c.insts.v c.insts.xs) (hs : c.name.size ≤ 9223372036854775807) (hlen : lenL c.labels.xs)
  (k : R (.bool (okCell k0 (erCl c))) G L) : CallT Tryz.prog 76 #[vT cellT c, vi k0] G L R := by
 refine CallT.enter (args := _) Tryz.func76 rfl rfl (by kernel_rfl) rfl ?_
 refine WP.sr ?_
 refine RG.ot rfl (OT.box (cs := cellT.enc c) rfl rfl rfl fun b2 => ?_)
 refine RG.ot rfl (OT.box (cs := [vi k0]) rfl rfl rfl fun b3 => ?_)
 refine RG.br rfl (RG.nil (WP.seq (WP.sr (RG.p (PV.field rfl Fo115_0 rfl) (RG.p (PV.load1 rfl Sc9 rfl (Rd.blk rfl)) ?_)))))
 refine RG.callF (vs := [_]) rfl rfl En148 rfl (isName_i hs ?_)
 refine RG.p (PV.not rfl rfl) (RG.bl rfl ?_)
 refine RG.g rfl (fun hp => (PV.field rfl Fo115_1 rfl)) ?_
 refine RG.g rfl (fun hp => (PV.load1 rfl Sc111 (gs_t hp) (Rd.blk rfl))) ?_
 refine RG.g rfl (fun hp => (PV.len rfl Tryz.underlying111 (gs_t hp) (SlF.r h1))) ?_
 refine RG.g rfl (fun hp => (PV.gtr rfl (gs_t hp) rfl)) ?_
 refine RG.p (PV.pickO rfl rfl rfl (fun hq => gs_t (geqF hq))) (RG.bl rfl ?_)
 refine RG.g rfl (fun hp => (PV.field rfl Fo115_2 rfl)) ?_
 refine RG.g rfl (fun hp => (PV.load1 rfl Sc112 (gs_t hp) (Rd.blk rfl))) ?_
 refine RG.g rfl (fun hp => (PV.len rfl Tryz.underlying112 (gs_t hp) (SlF.r h2))) ?_
 refine RG.g rfl (fun hp => (PV.gtr rfl (gs_t hp) rfl)) ?_
 refine RG.p (PV.pickO rfl rfl rfl (fun hq => gs_t (geqF hq))) (RG.bl rfl ?_)
 refine RG.g rfl (fun hp => (PV.field rfl Fo115_3 rfl)) ?_
 refine RG.g rfl (fun hp => (PV.load1 rfl Sc113 (gs_t hp) (Rd.blk rfl))) ?_
 refine RG.g rfl (fun hp => (PV.len rfl Tryz.underlying113 (gs_t hp) (SlF.r h3))) ?_
 refine RG.g rfl (fun hp => (PV.gtr rfl (gs_t hp) rfl)) ?_
 refine RG.p (PV.pickO rfl rfl rfl (fun hq => gs_t (geqF hq))) (RG.nil ?_)
 refine WP.cond rfl (fun h4 => ?_) (fun h4 => ?_)
 ·have e : okCell k0 (erCl c) = false := by
   simp [okCell, erCl] at h4 ⊢
   grind
  rw [e] at k
  refine WP.sr (RG.br rfl (RG.nil ?_))
  exact WP.ret ⟨_, _, ResV.one rfl rfl, Cv.p, k⟩
 ·refine WP.skip ?_
  refine WP.sr (RG.p (PV.field rfl Fo115_1 rfl) (RG.p (PV.load1 rfl Sc111 rfl (Rd.blk rfl)) ?_))
  refine RG.callF (vs := [_, _]) rfl rfl En149 rfl (containsF_shape (Rs.up h1) (p := fun s => !okSh s) (fun i hi => CB.mk0 En150 fun L' R c k => notSh_s k) ?_)
  refine RG.p (PV.not rfl rfl) (RG.bl rfl ?_)
  refine RG.g rfl (fun hp => (PV.field rfl Fo115_2 rfl)) ?_
  refine RG.g rfl (fun hp => (PV.load1 rfl Sc112 (gs_t hp) (Rd.blk rfl))) ?_
  refine RG.gsC rfl rfl rfl rfl En152 (fun hp => ⟨_, (acons (gs_t hp) (acons rfl anil)), containsF_label (Rs.up h2) (p := fun l => !validLb l) (fun i hi => CB.mk0 En153 fun L' R c k => notLb2_s (hlen i hi) k) ⟨rfl, rfl, rfl⟩⟩) ?_
  refine RG.g rfl (fun hp => (PV.not rfl (gs_t hp))) ?_
  refine RG.p (PV.pickA rfl rfl (fun hq => gs_t (geqT hq)) rfl) (RG.bl rfl ?_)
  refine RG.g rfl (fun hp => (PV.field rfl Fo115_3 rfl)) ?_
  refine RG.g rfl (fun hp => (PV.load1 rfl Sc113 (gs_t hp) (Rd.blk rfl))) ?_
  refine RG.g rfl (fun hp => (PV.mkf1 rfl rfl)) ?_
  refine RG.gsC rfl rfl rfl rfl En155 (fun hp => ⟨_, (acons (gs_t hp) (acons (gs_t hp) anil)), containsF_inst (Rs.up h3) (p := fun n => !okIn k0 n) (fun i hi => CB.mk1 En156 fun L' R c k => notIn_s hk (Rd.cv (Rd.blk rfl) c) k) ⟨rfl, rfl, rfl⟩⟩) ?_
  refine RG.g rfl (fun hp => (PV.not rfl (gs_t hp))) ?_
  refine RG.p (PV.pickA rfl rfl (fun hq => gs_t (geqT hq)) rfl) (RG.br rfl (RG.nil ?_))
  refine WP.ret ?_
  have e : okCell k0 (erCl c) = (!(c.shapes.xs.any fun s => !okSh s) && !(c.labels.xs.any fun l => !validLb l) && !(c.insts.xs.any fun n => !okIn k0 n)) := by
   simp [okCell, erCl] at h4 ⊢
   grind
  rw [e] at k
  exact ⟨_, _, ResV.one rfl rfl, Cv.p, k⟩
theorem named1_s {c : Cell} {nm : ByteArray} {b : Nat} (hb : Rd G L b 0 (.string nm)) (k : R (.bool (decide (c.name = nm))) G L) : CallT Tryz.prog 159 #[vT cellT c, .pointer (some ⟨b, 0, none⟩)] G L R := by
 refine CallT.enter (args := _) Tryz.func159 rfl rfl (by kernel_rfl) rfl ?_
 refine WP.sr ?_
 refine RG.ot rfl (OT.box (cs := cellT.enc c) rfl rfl rfl fun b2 => ?_)
 refine RG.br rfl (RG.nil (WP.sr (RG.p (PV.field rfl Fo115_0 rfl) (RG.p (PV.load1 rfl Sc9 rfl (Rd.blk rfl)) (RG.p (PV.load1 rfl Sc9 rfl (Rd.up hb)) (RG.p (PV.eqlS rfl rfl rfl) (RG.br rfl (RG.nil ?_))))))))
 exact WP.ret ⟨_, _, ResV.one rfl rfl, Cv.p, k⟩
theorem indexF_cell {v fv : Value} {xs : List (Cell)} {p : (Cell) → Bool} (h1 : Rs G L cellT v xs) (hf : ∀ i, i < xs.length → CB Tryz.prog G L fv [vT cellT (gd xs i)] (.bool (p (gd xs i)))) (k : R (vi (idxI p xs)) G L) : CallT Tryz.prog 158 #[v, fv] G L R := by
 refine CallT.bd h1 fun hb => ?_
 refine CallT.enter (args := _) Tryz.func158 rfl rfl (by kernel_rfl) rfl ?_
 refine WP.sr (RG.mr rfl (RG.nil (WP.seq (WP.sr (RG.p (PV.move (v := v) rfl rfl) (RG.p (PV.len (v := v) rfl Tryz.underlying33 rfl (SlF.r h1)) (RG.ml rfl (RG.nil (WP.block ?_)))))))))
 refine WP.loop1 [0, 1, 7] (fun i => i ≤ xs.length ∧ ∀ j, j < i → p (gd xs j) = false) (fun i => [(8, vi i)]) (fun i => L) (fun i => xs.length - i) 0 ⟨by omega, fun j h => by omega⟩ ⟨rfl, trivial⟩ Cv.p ?_
 rintro i τ ⟨hi, hj⟩
 refine WP.sr (RG.p (PV.lss rfl rfl rfl) (RG.nil (WP.seq ?_)))
 refine WP.cond rfl (fun h2 => ?_) (fun h2 => ?_)
 ·have h2 := of_decide_eq_true h2
  refine WP.skip (WP.seq (WP.block (WP.sr (RG.ml rfl (RG.mr rfl (RG.nil (WP.sr (RG.p (PV.move (v := fv) rfl rfl) (RG.p (PV.move (v := v) rfl rfl) (RG.ml rfl (RG.p (PV.idxS (v := v) rfl Is33 rfl (SlF.r h1) rfl rfl (by omega)) ?_)))))))))))
  refine RG.p (PV.loadE rfl Ag115 rfl rfl (El.r h1 (getG (by omega)))) ?_
  refine RG.callB (vs := [_]) rfl rfl rfl rfl (CB.up (hf i (by omega))) ?_
  refine RG.nil ?_
  refine WP.cond rfl (fun h3 => ?_) (fun h3 => ?_)
  ·rw [idxI_at (by omega) h3 hj] at k
   refine WP.sr (RG.ml rfl (RG.mr rfl (RG.nil ?_)))
   exact WP.ret ⟨_, _, ResV.one rfl rfl, Cv.p, k⟩
  ·have hj' : ∀ j, j < i + 1 → p (gd xs j) = false := fun j h => by
    by_cases c : j = i
    ·rw [c]; exact h3
    ·exact hj j (by omega)
   refine WP.skip (WP.region (RG.p (PV.add rfl rfl rfl (by omega)) (RG.ml rfl (RG.nil ?_))))
   exact ⟨rfl, i + 1, ⟨by omega, hj'⟩, ⟨rfl, trivial⟩, ⟨rfl, rfl, rfl, trivial⟩, Cv.p, by omega⟩
 ·have h2 := of_decide_eq_false h2
  rw [idxI_none (fun j h => hj j (by omega))] at k
  refine WP.exit ?_
  refine WP.sr (RG.mr rfl (RG.nil ?_))
  exact WP.ret ⟨_, _, ResV.one rfl rfl, Cv.p, k⟩
theorem named_i {l : Lib} {nm : ByteArray} (h1 : Rs G L cellT l.cells.v l.cells.xs) (k : R (vi (idxI (fun c : Cell => decide (c.name = nm)) l.cells.xs)) G L) : CallT Tryz.prog 77 #[vT libT l, .string nm] G L R := by
 refine CallT.enter (args := _) Tryz.func77 rfl rfl (by kernel_rfl) rfl ?_
 refine WP.sr ?_
 refine RG.ot rfl (OT.box (cs := libT.enc l) rfl rfl rfl fun b2 => ?_)
 refine RG.ot rfl (OT.box rfl rfl rfl fun b3 => ?_)
 refine RG.mr rfl (RG.nil (WP.sr (RG.p (PV.field rfl Fo35_0 rfl) (RG.p (PV.load1 rfl Sc33 rfl (Rd.blk rfl)) (RG.p (PV.mkf1 rfl rfl) ?_)))))
 refine RG.callF (vs := [_, _]) rfl rfl En158 rfl (indexF_cell (Rs.up h1) (p := fun c => decide (c.name = nm)) (fun i hi => CB.mk1 En159 fun L' R c k => named1_s (Rd.cv (Rd.blk rfl) c) k) ?_)
 refine RG.mr rfl (RG.nil ?_)
 exact WP.ret ⟨_, _, ResV.one rfl rfl, Cv.p, k⟩
theorem named_at {xs : List Cell} {i : Nat} (hi : i < xs.length) : decide (idxI (fun c : Cell => decide (c.name = (gd xs i).name)) xs = (i : Int)) = nameAt (erCls xs) i := by
 have hn : ∀ j, j < xs.length → (gd (erCls xs) j).name = (gd xs j).name := fun j hj => by rw [erCls_gd hj]; rfl
 by_cases h : ∀ j, j < i → (gd xs j).name ≠ (gd xs i).name
 ·rw [idxI_at (i := i) hi (by simp) (fun j hj => by simpa using h j hj)]
  have : nameAt (erCls xs) i = true := by
   rw [nameAt, decide_eq_true_iff]
   intro j hj
   rw [hn j (by omega), hn i hi]; exact h j hj
  rw [this]; simp
 ·have hx : nameAt (erCls xs) i = false := by
   rw [nameAt, decide_eq_false_iff_not]
   intro hh
   exact h fun j hj => by rw [← hn j (by omega), ← hn i hi]; exact hh j hj
  rw [hx, decide_eq_false_iff_not]
  intro e
  apply h
  intro j hj hq
  have hex : ∃ m, m ≤ j ∧ (gd xs m).name = (gd xs i).name ∧ ∀ l, l < m → (gd xs l).name ≠ (gd xs i).name := by
   induction j using Nat.strongRecOn with
   | ind j ih =>
    by_cases c : ∃ l, l < j ∧ (gd xs l).name = (gd xs i).name
    ·obtain ⟨l, hl, hq2⟩ := c
     obtain ⟨m, a1, a2, a3⟩ := ih l hl (by omega) hq2
     exact ⟨m, by omega, a2, a3⟩
    ·exact ⟨j, Nat.le_refl _, hq, fun l hl hh => c ⟨l, hl, hh⟩⟩
  obtain ⟨m, a1, a2, a3⟩ := hex
  rw [idxI_at (i := m) (by omega) (by simpa using a2) (fun l hl => by simpa using a3 l hl)] at e
  omega
theorem okLib_i {l : Lib} (hL : RLib G L l.cells.v l.cells.xs) (hlen : lenC (erCls l.cells.xs)) (k : R (.bool (okLib (erCls l.cells.xs))) G L) : CallT Tryz.prog 41 #[vT libT l] G L R := by
 have hE := erCls_len l.cells.xs
 refine CallT.bd hL.c fun hb => ?_
 refine CallT.enter (args := _) Tryz.func41 rfl rfl (by kernel_rfl) rfl ?_
 refine WP.sr ?_
 refine RG.ot rfl (OT.box (cs := libT.enc l) rfl rfl rfl fun b1 => ?_)
 refine RG.br rfl (RG.nil (WP.seq (WP.sr (RG.p (PV.field rfl Fo35_0 rfl) (RG.p (PV.load1 rfl Sc33 rfl (Rd.blk rfl)) (RG.p (PV.len rfl Tryz.underlying33 rfl (SlF.r hL.c)) (RG.p (PV.lss rfl rfl rfl) (RG.bl rfl ?_))))))))
 refine RG.g rfl (fun hp => (PV.field rfl Fo35_0 rfl)) ?_
 refine RG.g rfl (fun hp => (PV.load1 rfl Sc33 (gs_t hp) (Rd.blk rfl))) ?_
 refine RG.g rfl (fun hp => (PV.len rfl Tryz.underlying33 (gs_t hp) (SlF.r hL.c))) ?_
 refine RG.g rfl (fun hp => (PV.gtr rfl (gs_t hp) rfl)) ?_
 refine RG.p (PV.pickO rfl rfl rfl (fun hq => gs_t (geqF hq))) (RG.nil ?_)
 refine WP.cond rfl (fun h0 => ?_) (fun h0 => ?_)
 ·have e : okLib (erCls l.cells.xs) = false := by
   simp at h0
   simp [okLib, hE]; omega
  rw [e] at k
  refine WP.sr (RG.br rfl (RG.nil ?_))
  exact WP.ret ⟨_, _, ResV.one rfl rfl, Cv.p, k⟩
 ·simp at h0
  refine WP.skip (WP.seq (WP.sr (RG.p (PV.field rfl Fo35_0 rfl) (RG.p (PV.load1 rfl Sc33 rfl (Rd.blk rfl)) (RG.p (PV.len rfl Tryz.underlying33 rfl (SlF.r hL.c)) (RG.ml rfl (RG.nil (WP.block ?_))))))))
  refine WP.loop1 [1, 16, 17] (fun i => i ≤ l.cells.xs.length ∧ ∀ j, j < i → cellAt (erCls l.cells.xs) j = true) (fun i => [(18, vi i)]) (fun i => blk b1 35 (libT.enc l) :: L) (fun i => l.cells.xs.length - i) 0 ⟨by omega, fun j h => by omega⟩ ⟨rfl, trivial⟩ Cv.p ?_
  rintro i τ ⟨hi, hj⟩
  refine WP.sr (RG.p (PV.lss rfl rfl rfl) (RG.nil (WP.seq ?_)))
  refine WP.cond rfl (fun h2 => ?_) (fun h2 => ?_)
  ·have h2 := of_decide_eq_true h2
   have h3 : i < l.cells.xs.length := by omega
   refine WP.skip (WP.seq (WP.block (WP.sr (RG.ml rfl (RG.p (PV.idxS rfl Is33 rfl (SlF.r hL.c) rfl rfl (by omega)) (RG.p (PV.loadE rfl Ag115 rfl rfl (El.r hL.c (getG (by omega)))) ?_))))))
   refine RG.ot rfl (OT.alloc rfl Zr115 fun b4 => ?_)
   refine RG.mr rfl ?_
   refine RG.ot rfl (OT.storeW (vs := [.string _, _, _, _]) rfl Sz115 rfl rfl (Cl.c rfl) rfl rfl (hL.one h3) ?_)
   refine RG.nil (WP.sr (RG.p (PV.loadW rfl Ag115 rfl rfl) (RG.ml rfl ?_)))
   refine RG.callF (vs := [_, _]) rfl rfl En76 rfl (okCell_i (by omega) (hL.sa (by omega)).up (hL.la (by omega)).up (hL.na (by omega)).up (hlen.one (by omega)).1 (hlen.one (by omega)).2 ?_)
   refine RG.p (PV.not rfl rfl) (RG.bl rfl ?_)
   refine RG.g rfl (fun hp => (PV.loadW rfl Ag35 rfl rfl)) ?_
   refine RG.g rfl (fun hp => (PV.field rfl Fo115_0 rfl)) ?_
   refine RG.g rfl (fun hp => (PV.load1 rfl Sc9 (gs_t hp) (Rd.blk rfl))) ?_
   refine RG.gsC rfl rfl rfl rfl En77 (fun hp => ⟨_, (acons (gs_t hp) (acons (gs_t hp) anil)), named_i hL.c.up ⟨rfl, rfl, rfl⟩⟩) ?_
   refine RG.g rfl (fun hp => (PV.mvI (.inl rfl) rfl)) ?_
   refine RG.g rfl (fun hp => (PV.neq rfl (gs_t hp) (gs_t hp))) ?_
   refine RG.p (PV.pickO rfl rfl rfl (fun hq => gs_t (geqF hq))) (RG.nil ?_)
   refine WP.cond rfl (fun h4 => ?_) (fun h4 => ?_)
   ·have e : cellAt (erCls l.cells.xs) i = false := by
     simp [cellAt, erCls_gd h3, ← named_at h3] at h4 ⊢
     grind
    rw [okLib_false (by omega) e] at k
    refine WP.sr (RG.br rfl (RG.nil ?_))
    exact WP.ret ⟨_, _, ResV.one rfl rfl, Cv.p, k⟩
   ·have e : cellAt (erCls l.cells.xs) i = true := by
     simp [cellAt, erCls_gd h3, ← named_at h3] at h4 ⊢
     grind
    have hj' : ∀ j, j < i + 1 → cellAt (erCls l.cells.xs) j = true := fun j h => by
     by_cases c : j = i
     ·rw [c]; exact e
     ·exact hj j (by omega)
    refine WP.skip (WP.region (RG.p (PV.add rfl rfl rfl (by omega)) (RG.ml rfl (RG.nil ?_))))
    exact ⟨rfl, i + 1, ⟨by omega, hj'⟩, ⟨rfl, trivial⟩, ⟨rfl, rfl, rfl, trivial⟩, Cv.p, by omega⟩
  ·have h2 := of_decide_eq_false h2
   rw [okLib_all (by omega) (by omega) (fun j h => hj j (by omega))] at k
   refine WP.exit ?_
   refine WP.sr (RG.br rfl (RG.nil ?_))
   exact WP.ret ⟨_, _, ResV.one rfl rfl, Cv.p, k⟩
theorem l09Rect_r {r : Rect} (k : R (.bool (validRect r)) G L) : CallT Tryz.prog 143 #[vrect r] G L R := by
 refine CallT.enter (args := _) Tryz.func143 rfl rfl (by kernel_rfl) rfl ?_
 refine WP.sr ?_
 refine RG.ot rfl (OT.box (cs := rectT.enc r) rfl rfl rfl fun b1 => ?_)
 refine RG.br rfl (RG.nil (WP.sr (RG.p (PV.field rfl Fo91_0 rfl) (RG.p (PV.load1 rfl Sc2 rfl (Rd.blk rfl)) (RG.p (PV.leq rfl rfl rfl) (RG.bl rfl ?_))))))
 refine RG.g rfl (fun hp => (PV.field rfl Fo91_0 rfl)) ?_
 refine RG.g rfl (fun hp => (PV.load1 rfl Sc2 (gs_t hp) (Rd.blk rfl))) ?_
 refine RG.g rfl (fun hp => (PV.field rfl Fo91_2 rfl)) ?_
 refine RG.g rfl (fun hp => (PV.load1 rfl Sc2 (gs_t hp) (Rd.blk rfl))) ?_
 refine RG.g rfl (fun hp => (PV.lss rfl (gs_t hp) (gs_t hp))) ?_
 refine RG.p (PV.pickA rfl rfl (fun hq => gs_t (geqT hq)) rfl) (RG.bl rfl ?_)
 refine RG.g rfl (fun hp => (PV.field rfl Fo91_2 rfl)) ?_
 refine RG.g rfl (fun hp => (PV.load1 rfl Sc2 (gs_t hp) (Rd.blk rfl))) ?_
 refine RG.g rfl (fun hp => (PV.leq rfl (gs_t hp) rfl)) ?_
 refine RG.p (PV.pickA rfl rfl (fun hq => gs_t (geqT hq)) rfl) (RG.bl rfl ?_)
 refine RG.g rfl (fun hp => (PV.field rfl Fo91_1 rfl)) ?_
 refine RG.g rfl (fun hp => (PV.load1 rfl Sc2 (gs_t hp) (Rd.blk rfl))) ?_
 refine RG.g rfl (fun hp => (PV.leq rfl rfl (gs_t hp))) ?_
 refine RG.p (PV.pickA rfl rfl (fun hq => gs_t (geqT hq)) rfl) (RG.bl rfl ?_)
 refine RG.g rfl (fun hp => (PV.field rfl Fo91_1 rfl)) ?_
 refine RG.g rfl (fun hp => (PV.load1 rfl Sc2 (gs_t hp) (Rd.blk rfl))) ?_
 refine RG.g rfl (fun hp => (PV.field rfl Fo91_3 rfl)) ?_
 refine RG.g rfl (fun hp => (PV.load1 rfl Sc2 (gs_t hp) (Rd.blk rfl))) ?_
 refine RG.g rfl (fun hp => (PV.lss rfl (gs_t hp) (gs_t hp))) ?_
 refine RG.p (PV.pickA rfl rfl (fun hq => gs_t (geqT hq)) rfl) (RG.bl rfl ?_)
 refine RG.g rfl (fun hp => (PV.field rfl Fo91_3 rfl)) ?_
 refine RG.g rfl (fun hp => (PV.load1 rfl Sc2 (gs_t hp) (Rd.blk rfl))) ?_
 refine RG.g rfl (fun hp => (PV.leq rfl (gs_t hp) rfl)) ?_
 refine RG.p (PV.pickA rfl rfl (fun hq => gs_t (geqT hq)) rfl) (RG.br rfl (RG.nil ?_))
 exact WP.ret ⟨_, _, ResV.one rfl rfl, Cv.p, k⟩
theorem l09Trans_r {t : Trans} (k : R (.bool (validT t)) G L) : CallT Tryz.prog 118 #[vtrans t] G L R := by
 refine CallT.enter (args := _) Tryz.func118 rfl rfl (by kernel_rfl) rfl ?_
 refine WP.sr ?_
 refine RG.ot rfl (OT.box (cs := transT.enc t) rfl rfl rfl fun b1 => ?_)
 refine RG.br rfl (RG.nil (WP.sr (RG.p (PV.field rfl Fo95_0 rfl) (RG.p (PV.load1 rfl Sc2 rfl (Rd.blk rfl)) ?_))))
 refine RG.callF (vs := [_, _, _]) rfl rfl En196 rfl (l09In_s ?_)
 refine RG.bl rfl ?_
 refine RG.g rfl (fun hp => (PV.field rfl Fo95_1 rfl)) ?_
 refine RG.g rfl (fun hp => (PV.load1 rfl Sc2 (gs_t hp) (Rd.blk rfl))) ?_
 refine RG.gsC rfl rfl rfl rfl En196 (fun hp => ⟨_, (acons (gs_t hp) (acons rfl (acons rfl anil))), l09In_s ⟨rfl, rfl, rfl⟩⟩) ?_
 refine RG.p (PV.pickA rfl rfl (fun hq => gs_t (geqT hq)) rfl) (RG.bl rfl ?_)
 refine RG.g rfl (fun hp => (PV.field rfl Fo95_2 rfl)) ?_
 refine RG.g rfl (fun hp => (PV.load1 rfl Sc2 (gs_t hp) (Rd.blk rfl))) ?_
 refine RG.gsC rfl rfl rfl rfl En196 (fun hp => ⟨_, (acons (gs_t hp) (acons rfl (acons rfl anil))), l09In_s ⟨rfl, rfl, rfl⟩⟩) ?_
 refine RG.p (PV.pickA rfl rfl (fun hq => gs_t (geqT hq)) rfl) (RG.br rfl (RG.nil ?_))
 refine WP.ret ?_
 have e : validT t = ((within t.o 0 7 && within t.x (-80) 80) && within t.y (-80) 80) := (Bool.and_assoc _ _ _).symm
 rw [e] at k
 exact ⟨_, _, ResV.one rfl rfl, Cv.p, k⟩
theorem okSh_r {s : Shape} (k : R (.bool (okSh s)) G L) : CallT Tryz.prog 138 #[vT shapeT s] G L R := by
 refine CallT.enter (args := _) Tryz.func138 rfl rfl (by kernel_rfl) rfl ?_
 refine WP.sr ?_
 refine RG.ot rfl (OT.box (cs := shapeT.enc s) rfl rfl rfl fun b1 => ?_)
 refine RG.br rfl (RG.nil (WP.sr (RG.p (PV.field rfl Fo155_0 rfl) (RG.p (PV.load1 rfl Sc2 rfl (Rd.blk rfl)) ?_))))
 refine RG.callF (vs := [_]) rfl rfl En212 rfl (l09Layer_s ?_)
 refine RG.bl rfl ?_
 refine RG.g rfl (fun hp => (PV.field rfl Fo155_1 rfl)) ?_
 refine RG.g rfl (fun hp => (PV.loadB (vs := [_, _, _, _]) rfl Ag91 (gs_t hp) rfl rfl)) ?_
 refine RG.gsC rfl rfl rfl rfl En143 (fun hp => ⟨_, (acons (gs_t hp) anil), l09Rect_r ⟨rfl, rfl, rfl⟩⟩) ?_
 refine RG.p (PV.pickA rfl rfl (fun hq => gs_t (geqT hq)) rfl) (RG.br rfl (RG.nil ?_))
 exact WP.ret ⟨_, _, ResV.one rfl rfl, Cv.p, k⟩
theorem okIn_r {n : Inst} {k0 : Int} (hk : 0 ≤ k0 ∧ k0 ≤ 1000) (k : R (.bool (okIn k0 n)) G L) : CallT Tryz.prog 140 #[vT instT n, vi k0] G L R := by
 refine CallT.enter (args := _) Tryz.func140 rfl rfl (by kernel_rfl) rfl ?_
 refine WP.sr ?_
 refine RG.ot rfl (OT.box (cs := instT.enc n) rfl rfl rfl fun b2 => ?_)
 refine RG.br rfl (RG.nil (WP.seq (WP.sr (RG.p (PV.field rfl Fo173_0 rfl) (RG.p (PV.load1 rfl Sc2 rfl (Rd.blk rfl)) (RG.ml rfl (RG.p (PV.sub rfl rfl rfl (by omega)) ?_)))))))
 refine RG.callF (vs := [_, _, _]) rfl rfl En196 rfl (l09In_s ?_)
 refine RG.p (PV.not rfl rfl) (RG.bl rfl ?_)
 refine RG.g rfl (fun hp => (PV.field rfl Fo173_1 rfl)) ?_
 refine RG.g rfl (fun hp => (PV.loadB (vs := [_, _, _]) rfl Ag95 (gs_t hp) rfl rfl)) ?_
 refine RG.gsC rfl rfl rfl rfl En118 (fun hp => ⟨_, (acons (gs_t hp) anil), l09Trans_r ⟨rfl, rfl, rfl⟩⟩) ?_
 refine RG.g rfl (fun hp => (PV.not rfl (gs_t hp))) ?_
 refine RG.p (PV.pickO rfl rfl rfl (fun hq => gs_t (geqF hq))) (RG.bl rfl ?_)
 refine RG.g rfl (fun hp => (PV.field rfl Fo173_2 rfl)) ?_
 refine RG.g rfl (fun hp => (PV.load1 rfl Sc2 (gs_t hp) (Rd.blk rfl))) ?_
 refine RG.gsC rfl rfl rfl rfl En196 (fun hp => ⟨_, (acons (gs_t hp) (acons rfl (acons rfl anil))), l09In_s ⟨rfl, rfl, rfl⟩⟩) ?_
 refine RG.g rfl (fun hp => (PV.not rfl (gs_t hp))) ?_
 refine RG.p (PV.pickO rfl rfl rfl (fun hq => gs_t (geqF hq))) (RG.bl rfl ?_)
 refine RG.g rfl (fun hp => (PV.field rfl Fo173_3 rfl)) ?_
 refine RG.g rfl (fun hp => (PV.load1 rfl Sc2 (gs_t hp) (Rd.blk rfl))) ?_
 refine RG.gsC rfl rfl rfl rfl En196 (fun hp => ⟨_, (acons (gs_t hp) (acons rfl (acons rfl anil))), l09In_s ⟨rfl, rfl, rfl⟩⟩) ?_
 refine RG.g rfl (fun hp => (PV.not rfl (gs_t hp))) ?_
 refine RG.p (PV.pickO rfl rfl rfl (fun hq => gs_t (geqF hq))) (RG.nil ?_)
 refine WP.cond rfl (fun h1 => ?_) (fun h1 => ?_)
 ·have e : okIn k0 n = false := by
   simp [okIn] at h1 ⊢; grind
  rw [e] at k
  refine WP.sr (RG.br rfl (RG.nil ?_))
  exact WP.ret ⟨_, _, ResV.one rfl rfl, Cv.p, k⟩
 ·refine WP.skip ?_
  refine WP.seq (WP.sr (RG.p (PV.field rfl Fo173_4 rfl) (RG.p (PV.load1 rfl Sc2 rfl (Rd.blk rfl)) ?_)))
  refine RG.callF (vs := [_, _, _]) rfl rfl En196 rfl (l09In_s ?_)
  refine RG.p (PV.not rfl rfl) (RG.bl rfl ?_)
  refine RG.g rfl (fun hp => (PV.field rfl Fo173_5 rfl)) ?_
  refine RG.g rfl (fun hp => (PV.load1 rfl Sc2 (gs_t hp) (Rd.blk rfl))) ?_
  refine RG.gsC rfl rfl rfl rfl En196 (fun hp => ⟨_, (acons (gs_t hp) (acons rfl (acons rfl anil))), l09In_s ⟨rfl, rfl, rfl⟩⟩) ?_
  refine RG.g rfl (fun hp => (PV.not rfl (gs_t hp))) ?_
  refine RG.p (PV.pickO rfl rfl rfl (fun hq => gs_t (geqF hq))) (RG.nil ?_)
  refine WP.cond rfl (fun h2 => ?_) (fun h2 => ?_)
  ·have e : okIn k0 n = false := by
    simp [okIn] at h2 ⊢; grind
   rw [e] at k
   refine WP.sr (RG.br rfl (RG.nil ?_))
   exact WP.ret ⟨_, _, ResV.one rfl rfl, Cv.p, k⟩
  ·have e : okIn k0 n = ((decide (1 < n.cols) || decide (n.sx = 0)) && (decide (1 < n.rows) || decide (n.sy = 0))) := by
    simp [okIn] at h1 h2 ⊢; grind
   rw [e] at k
   refine WP.skip (WP.sr (RG.p (PV.field rfl Fo173_2 rfl) (RG.p (PV.load1 rfl Sc2 rfl (Rd.blk rfl)) (RG.p (PV.gtr rfl rfl rfl) (RG.bl rfl ?_)))))
   refine RG.g rfl (fun hp => (PV.field rfl Fo173_4 rfl)) ?_
   refine RG.g rfl (fun hp => (PV.load1 rfl Sc2 (gs_t hp) (Rd.blk rfl))) ?_
   refine RG.g rfl (fun hp => (PV.eql rfl (gs_t hp) rfl)) ?_
   refine RG.p (PV.pickO rfl rfl rfl (fun hq => gs_t (geqF hq))) (RG.bl rfl ?_)
   refine RG.g rfl (fun hp => (PV.field rfl Fo173_3 rfl)) ?_
   refine RG.g rfl (fun hp => (PV.load1 rfl Sc2 (gs_t hp) (Rd.blk rfl))) ?_
   refine RG.g rfl (fun hp => (PV.gtr rfl (gs_t hp) rfl)) ?_
   refine RG.g rfl (fun hp => (PV.mvB (.inl rfl) (gs_t hp))) ?_
   refine RG.gs2 rfl rfl rfl (fun hp => (PV.field rfl Fo173_5 rfl)) (RG.gs2 rfl rfl rfl (fun hp => (PV.load1 rfl Sc2 (gs_t hp) (Rd.blk rfl))) (RG.gs2 rfl rfl rfl (fun hp => (PV.eql rfl (gs_t hp) rfl)) ?_))
   refine RG.g rfl (fun hp => (PV.pickO rfl (gs_t hp) rfl (fun hq => gs_t (gandF hp hq)))) ?_
   refine RG.p (PV.pickA rfl rfl (fun hq => gs_t (geqT hq)) rfl) (RG.br rfl (RG.nil ?_))
   exact WP.ret ⟨_, _, ResV.one rfl rfl, Cv.p, k⟩
theorem okCell_r {c : Cell} {k0 : Int} (hk : 0 ≤ k0 ∧ k0 ≤ 1000) (h1 : Rs G L shapeT c.shapes.v c.shapes.xs) (h2 : Rs G L labelT c.labels.v c.labels.xs) (h3 : Rs G L instT c.insts.v c.insts.xs) (hs : c.name.size ≤ 9223372036854775807) (hlen : lenL c.labels.xs)
  (k : R (.bool (okCell k0 (erCl c))) G L) : CallT Tryz.prog 70 #[vT cellT c, vi k0] G L R := by
 have any0 : ∀ {α : Type} [Inhabited α] {p : α → Bool} {xs : List α}, (∀ j, j < xs.length → p (gd xs j) = true) → (xs.any fun a => !p a) = false := fun {α} _ {p xs} h => by
  rw [List.any_eq_false]; intro a ha; obtain ⟨j, hj, rfl⟩ := List.getElem_of_mem ha; have := h j hj; rw [gd_eq hj] at this; simp [this]
 have any1 : ∀ {α : Type} [Inhabited α] {p : α → Bool} {xs : List α} {j : Nat}, j < xs.length → p (gd xs j) = false → (xs.any fun a => !p a) = true := fun {α} _ {p xs j} h e =>
  List.any_eq_true.2 ⟨gd xs j, gd_mem h, by simp [e]⟩
 refine CallT.bd h1 fun hb1 => ?_
 refine CallT.bd h2 fun hb2 => ?_
 refine CallT.bd h3 fun hb3 => ?_
 refine CallT.enter (args := _) Tryz.func70 rfl rfl (by kernel_rfl) rfl ?_
 refine WP.sr ?_
 refine RG.ot rfl (OT.box (cs := cellT.enc c) rfl rfl rfl fun b2 => ?_)
 refine RG.br rfl (RG.nil (WP.seq (WP.sr (RG.p (PV.field rfl Fo115_0 rfl) (RG.p (PV.load1 rfl Sc9 rfl (Rd.blk rfl)) ?_)))))
 refine RG.callF (vs := [_]) rfl rfl En137 rfl (isName_r hs ?_)
 refine RG.p (PV.not rfl rfl) (RG.bl rfl ?_)
 refine RG.g rfl (fun hp => (PV.field rfl Fo115_1 rfl)) ?_
 refine RG.g rfl (fun hp => (PV.load1 rfl Sc111 (gs_t hp) (Rd.blk rfl))) ?_
 refine RG.g rfl (fun hp => (PV.len rfl Tryz.underlying111 (gs_t hp) (SlF.r h1))) ?_
 refine RG.g rfl (fun hp => (PV.gtr rfl (gs_t hp) rfl)) ?_
 refine RG.p (PV.pickO rfl rfl rfl (fun hq => gs_t (geqF hq))) (RG.bl rfl ?_)
 refine RG.g rfl (fun hp => (PV.field rfl Fo115_2 rfl)) ?_
 refine RG.g rfl (fun hp => (PV.load1 rfl Sc112 (gs_t hp) (Rd.blk rfl))) ?_
 refine RG.g rfl (fun hp => (PV.len rfl Tryz.underlying112 (gs_t hp) (SlF.r h2))) ?_
 refine RG.g rfl (fun hp => (PV.gtr rfl (gs_t hp) rfl)) ?_
 refine RG.p (PV.pickO rfl rfl rfl (fun hq => gs_t (geqF hq))) (RG.bl rfl ?_)
 refine RG.g rfl (fun hp => (PV.field rfl Fo115_3 rfl)) ?_
 refine RG.g rfl (fun hp => (PV.load1 rfl Sc113 (gs_t hp) (Rd.blk rfl))) ?_
 refine RG.g rfl (fun hp => (PV.len rfl Tryz.underlying113 (gs_t hp) (SlF.r h3))) ?_
 refine RG.g rfl (fun hp => (PV.gtr rfl (gs_t hp) rfl)) ?_
 refine RG.p (PV.pickO rfl rfl rfl (fun hq => gs_t (geqF hq))) (RG.nil ?_)
 refine WP.cond rfl (fun h4 => ?_) (fun h4 => ?_)
 ·have e : okCell k0 (erCl c) = false := by
   simp [okCell, erCl] at h4 ⊢
   grind
  rw [e] at k
  refine WP.sr (RG.br rfl (RG.nil ?_))
  exact WP.ret ⟨_, _, ResV.one rfl rfl, Cv.p, k⟩
 ·have e0 : okCell k0 (erCl c) = (!(c.shapes.xs.any fun s => !okSh s) && !(c.labels.xs.any fun l => !validLb l) && !(c.insts.xs.any fun n => !okIn k0 n)) := by
   simp [okCell, erCl] at h4 ⊢
   grind
  rw [e0] at k
  refine WP.skip (WP.seq (WP.sr (RG.mr rfl (RG.nil (WP.block ?_)))))
  refine WP.loop1 [1, 2] (fun i => i ≤ c.shapes.xs.length ∧ ∀ j, j < i → okSh (gd c.shapes.xs j) = true) (fun i => [(5, vi i)]) (fun i => blk b2 115 (cellT.enc c) :: L) (fun i => c.shapes.xs.length - i) 0 ⟨by omega, fun j h => by omega⟩ ⟨rfl, trivial⟩ Cv.p ?_
  rintro i τ ⟨hi, hj⟩
  refine WP.seq (WP.sr (RG.ml rfl (RG.p (PV.field rfl Fo115_1 rfl) (RG.p (PV.load1 rfl Sc111 rfl (Rd.blk rfl)) (RG.p (PV.len rfl Tryz.underlying111 rfl (SlF.r h1)) (RG.p (PV.lss rfl rfl rfl) (RG.nil ?_)))))))
  refine WP.cond rfl (fun h5 => ?_) (fun h5 => ?_)
  ·have h5 := of_decide_eq_true h5
   refine WP.skip (WP.seq (WP.block (WP.sr (RG.p (PV.field rfl Fo115_1 rfl) (RG.p (PV.load1 rfl Sc111 rfl (Rd.blk rfl)) (RG.ml rfl (RG.p (PV.idxS rfl Is111 rfl (SlF.r h1) rfl rfl (by omega)) (RG.p (PV.loadE rfl Ag155 rfl rfl (El.r h1 (getG (by omega)))) ?_))))))))
   refine RG.callF (vs := [_]) rfl rfl En138 rfl (okSh_r ?_)
   refine RG.p (PV.not rfl rfl) (RG.nil ?_)
   refine WP.cond rfl (fun h6 => ?_) (fun h6 => ?_)
   ·rw [any1 (j := i) (by omega) (by simpa using h6)] at k
    refine WP.sr (RG.br rfl (RG.nil ?_))
    exact WP.ret ⟨_, _, ResV.one rfl rfl, Cv.p, k⟩
   ·have hj' : ∀ j, j < i + 1 → okSh (gd c.shapes.xs j) = true := fun j h => by
     by_cases q : j = i
     ·rw [q]; simpa using h6
     ·exact hj j (by omega)
    refine WP.skip (WP.region (RG.ml rfl (RG.p (PV.add rfl rfl rfl (by omega)) (RG.mr rfl (RG.nil ?_)))))
    exact ⟨rfl, i + 1, ⟨by omega, hj'⟩, ⟨rfl, trivial⟩, ⟨rfl, rfl, trivial⟩, Cv.p, by omega⟩
  ·have h5 := of_decide_eq_false h5
   rw [any0 (fun j h => hj j (by omega))] at k
   refine WP.exit ?_
   refine WP.seq (WP.sr (RG.mr rfl (RG.nil (WP.block ?_))))
   refine WP.loop1 [1, 2] (fun i => i ≤ c.labels.xs.length ∧ ∀ j, j < i → validLb (gd c.labels.xs j) = true) (fun i => [(6, vi i)]) (fun i => blk b2 115 (cellT.enc c) :: L) (fun i => c.labels.xs.length - i) 0 ⟨by omega, fun j h => by omega⟩ ⟨rfl, trivial⟩ Cv.p ?_
   rintro i τ ⟨hi, hj⟩
   refine WP.seq (WP.sr (RG.ml rfl (RG.p (PV.field rfl Fo115_2 rfl) (RG.p (PV.load1 rfl Sc112 rfl (Rd.blk rfl)) (RG.p (PV.len rfl Tryz.underlying112 rfl (SlF.r h2)) (RG.p (PV.lss rfl rfl rfl) (RG.nil ?_)))))))
   refine WP.cond rfl (fun h5 => ?_) (fun h5 => ?_)
   ·have h5 := of_decide_eq_true h5
    refine WP.skip (WP.seq (WP.block (WP.sr (RG.p (PV.field rfl Fo115_2 rfl) (RG.p (PV.load1 rfl Sc112 rfl (Rd.blk rfl)) (RG.ml rfl (RG.p (PV.idxS rfl Is112 rfl (SlF.r h2) rfl rfl (by omega)) (RG.p (PV.loadE rfl Ag191 rfl rfl (El.r h2 (getG (by omega)))) ?_))))))))
    refine RG.callF (vs := [_]) rfl rfl En139 rfl (validLb_r (hlen _ (by omega)) ?_)
    refine RG.p (PV.not rfl rfl) (RG.nil ?_)
    refine WP.cond rfl (fun h6 => ?_) (fun h6 => ?_)
    ·rw [any1 (p := validLb) (j := i) (by omega) (by simpa using h6)] at k
     refine WP.sr (RG.br rfl (RG.nil ?_))
     exact WP.ret ⟨_, _, ResV.one rfl rfl, Cv.p, k⟩
    ·have hj' : ∀ j, j < i + 1 → validLb (gd c.labels.xs j) = true := fun j h => by
      by_cases q : j = i
      ·rw [q]; simpa using h6
      ·exact hj j (by omega)
     refine WP.skip (WP.region (RG.ml rfl (RG.p (PV.add rfl rfl rfl (by omega)) (RG.mr rfl (RG.nil ?_)))))
     exact ⟨rfl, i + 1, ⟨by omega, hj'⟩, ⟨rfl, trivial⟩, ⟨rfl, rfl, trivial⟩, Cv.p, by omega⟩
   ·have h5 := of_decide_eq_false h5
    rw [any0 (p := validLb) (fun j h => hj j (by omega))] at k
    refine WP.exit ?_
    refine WP.seq (WP.sr (RG.mr rfl (RG.nil (WP.block ?_))))
    refine WP.loop1 [1, 2] (fun i => i ≤ c.insts.xs.length ∧ ∀ j, j < i → okIn k0 (gd c.insts.xs j) = true) (fun i => [(7, vi i)]) (fun i => blk b2 115 (cellT.enc c) :: L) (fun i => c.insts.xs.length - i) 0 ⟨by omega, fun j h => by omega⟩ ⟨rfl, trivial⟩ Cv.p ?_
    rintro i τ ⟨hi, hj⟩
    refine WP.seq (WP.sr (RG.ml rfl (RG.p (PV.field rfl Fo115_3 rfl) (RG.p (PV.load1 rfl Sc113 rfl (Rd.blk rfl)) (RG.p (PV.len rfl Tryz.underlying113 rfl (SlF.r h3)) (RG.p (PV.lss rfl rfl rfl) (RG.nil ?_)))))))
    refine WP.cond rfl (fun h5 => ?_) (fun h5 => ?_)
    ·have h5 := of_decide_eq_true h5
     refine WP.skip (WP.seq (WP.block (WP.sr (RG.p (PV.field rfl Fo115_3 rfl) (RG.p (PV.load1 rfl Sc113 rfl (Rd.blk rfl)) (RG.ml rfl (RG.p (PV.idxS rfl Is113 rfl (SlF.r h3) rfl rfl (by omega)) (RG.p (PV.loadE rfl Ag173 rfl rfl (El.r h3 (getG (by omega)))) (RG.ml rfl ?_)))))))))
     refine RG.callF (vs := [_, _]) rfl rfl En140 rfl (okIn_r hk ?_)
     refine RG.p (PV.not rfl rfl) (RG.nil ?_)
     refine WP.cond rfl (fun h6 => ?_) (fun h6 => ?_)
     ·rw [any1 (p := okIn k0) (j := i) (by omega) (by simpa using h6)] at k
      refine WP.sr (RG.br rfl (RG.nil ?_))
      exact WP.ret ⟨_, _, ResV.one rfl rfl, Cv.p, k⟩
     ·have hj' : ∀ j, j < i + 1 → okIn k0 (gd c.insts.xs j) = true := fun j h => by
       by_cases q : j = i
       ·rw [q]; simpa using h6
       ·exact hj j (by omega)
      refine WP.skip (WP.region (RG.ml rfl (RG.p (PV.add rfl rfl rfl (by omega)) (RG.mr rfl (RG.nil ?_)))))
      exact ⟨rfl, i + 1, ⟨by omega, hj'⟩, ⟨rfl, trivial⟩, ⟨rfl, rfl, trivial⟩, Cv.p, by omega⟩
    ·have h5 := of_decide_eq_false h5
     rw [any0 (p := okIn k0) (fun j h => hj j (by omega))] at k
     refine WP.exit ?_
     refine WP.sr (RG.br rfl (RG.nil ?_))
     exact WP.ret ⟨_, _, ResV.one rfl rfl, Cv.p, k⟩
theorem okLib_r {l : Lib} (hL : RLib G L l.cells.v l.cells.xs) (hlen : lenC (erCls l.cells.xs)) (k : R (.bool (okLib (erCls l.cells.xs))) G L) : CallT Tryz.prog 35 #[vT libT l] G L R := by
 have hE := erCls_len l.cells.xs
 have hn : ∀ j, j < l.cells.xs.length → (gd (erCls l.cells.xs) j).name = (gd l.cells.xs j).name := fun j hj => by rw [erCls_gd hj]; rfl
 refine CallT.bd hL.c fun hb => ?_
 refine CallT.enter (args := _) Tryz.func35 rfl rfl (by kernel_rfl) rfl ?_
 refine WP.sr ?_
 refine RG.ot rfl (OT.box (cs := libT.enc l) rfl rfl rfl fun b1 => ?_)
 refine RG.br rfl (RG.nil (WP.seq (WP.sr (RG.p (PV.field rfl Fo35_0 rfl) (RG.p (PV.load1 rfl Sc33 rfl (Rd.blk rfl)) (RG.p (PV.len rfl Tryz.underlying33 rfl (SlF.r hL.c)) (RG.p (PV.lss rfl rfl rfl) (RG.bl rfl ?_))))))))
 refine RG.g rfl (fun hp => (PV.field rfl Fo35_0 rfl)) ?_
 refine RG.g rfl (fun hp => (PV.load1 rfl Sc33 (gs_t hp) (Rd.blk rfl))) ?_
 refine RG.g rfl (fun hp => (PV.len rfl Tryz.underlying33 (gs_t hp) (SlF.r hL.c))) ?_
 refine RG.g rfl (fun hp => (PV.gtr rfl (gs_t hp) rfl)) ?_
 refine RG.p (PV.pickO rfl rfl rfl (fun hq => gs_t (geqF hq))) (RG.nil ?_)
 refine WP.cond rfl (fun h0 => ?_) (fun h0 => ?_)
 ·have e : okLib (erCls l.cells.xs) = false := by
   simp at h0
   simp [okLib, hE]; omega
  rw [e] at k
  refine WP.sr (RG.br rfl (RG.nil ?_))
  exact WP.ret ⟨_, _, ResV.one rfl rfl, Cv.p, k⟩
 ·simp at h0
  refine WP.skip (WP.seq (WP.sr (RG.mr rfl (RG.nil (WP.block ?_)))))
  refine WP.loop1 [1] (fun i => i ≤ l.cells.xs.length ∧ ∀ j, j < i → cellAt (erCls l.cells.xs) j = true) (fun i => [(3, vi i)]) (fun i => blk b1 35 (libT.enc l) :: L) (fun i => l.cells.xs.length - i) 0 ⟨by omega, fun j h => by omega⟩ ⟨rfl, trivial⟩ Cv.p ?_
  rintro i τ ⟨hi, hj⟩
  refine WP.seq (WP.sr (RG.ml rfl (RG.p (PV.field rfl Fo35_0 rfl) (RG.p (PV.load1 rfl Sc33 rfl (Rd.blk rfl)) (RG.p (PV.len rfl Tryz.underlying33 rfl (SlF.r hL.c)) (RG.p (PV.lss rfl rfl rfl) (RG.nil ?_)))))))
  refine WP.cond rfl (fun h2 => ?_) (fun h2 => ?_)
  ·have h2 := of_decide_eq_true h2
   have h3 : i < l.cells.xs.length := by omega
   refine WP.skip (WP.seq (WP.block (WP.seq (WP.sr (RG.p (PV.field rfl Fo35_0 rfl) (RG.p (PV.load1 rfl Sc33 rfl (Rd.blk rfl)) (RG.ml rfl (RG.p (PV.idxS rfl Is33 rfl (SlF.r hL.c) rfl rfl (by omega)) (RG.p (PV.loadE rfl Ag115 rfl rfl (El.r hL.c (getG (by omega)))) (RG.ml rfl ?_))))))))))
   refine RG.callF (vs := [_, _]) rfl rfl En70 rfl (okCell_r (by omega) (hL.sa (by omega)).up (hL.la (by omega)).up (hL.na (by omega)).up (hlen.one (by omega)).1 (hlen.one (by omega)).2 ?_)
   refine RG.p (PV.not rfl rfl) (RG.nil ?_)
   refine WP.cond rfl (fun h4 => ?_) (fun h4 => ?_)
   ·have e : cellAt (erCls l.cells.xs) i = false := by
     simp at h4
     rw [cellAt, erCls_gd h3, h4]; rfl
    rw [okLib_false (by omega) e] at k
    refine WP.sr (RG.br rfl (RG.nil ?_))
    exact WP.ret ⟨_, _, ResV.one rfl rfl, Cv.p, k⟩
   ·simp at h4
    refine WP.skip (WP.sr (RG.mr rfl (RG.nil (WP.block ?_))))
    refine WP.loop1 [1, 3] (fun m => m ≤ i ∧ ∀ j, j < m → (gd l.cells.xs j).name ≠ (gd l.cells.xs i).name) (fun m => [(4, vi m)]) (fun m => blk b1 35 (libT.enc l) :: L) (fun m => i - m) 0 ⟨by omega, fun j h => by omega⟩ ⟨rfl, trivial⟩ Cv.p ?_
    rintro m τ ⟨hm, hq⟩
    refine WP.seq (WP.sr (RG.ml rfl (RG.ml rfl (RG.p (PV.lss rfl rfl rfl) (RG.nil ?_)))))
    refine WP.cond rfl (fun h5 => ?_) (fun h5 => ?_)
    ·have h5 := of_decide_eq_true h5
     refine WP.skip (WP.seq (WP.block (WP.seq ?_)))
     refine WP.regionQ (by kernel_rfl) (by kernel_rfl) ?_
     refine RQ.pv rfl (PV.field rfl Fo35_0 rfl) (RQ.pv rfl (PV.load1 rfl Sc33 rfl (Rd.blk rfl)) (RQ.pv rfl (PV.mvI (.inl rfl) rfl) (RQ.pv rfl (PV.idxS rfl Is33 rfl (SlF.r hL.c) rfl rfl (by omega)) (RQ.pv rfl (PV.field rfl Fo115_0 rfl) (RQ.pv rfl (PV.loadF rfl Sc9 rfl rfl (El.r hL.c (getG (by omega))) rfl) (RQ.pv rfl (PV.field rfl Fo35_0 rfl) (RQ.pv rfl (PV.load1 rfl Sc33 rfl (Rd.blk rfl)) (RQ.pv rfl (PV.mvI (.inl rfl) rfl) (RQ.pv rfl (PV.idxS rfl Is33 rfl (SlF.r hL.c) rfl rfl (by omega)) (RQ.pv rfl (PV.field rfl Fo115_0 rfl) (RQ.pv rfl (PV.loadF rfl Sc9 rfl rfl (El.r hL.c (getG (by omega))) rfl) (RQ.pv rfl (PV.eqlS rfl rfl rfl) ?_))))))))))))
     refine RQ.nil ?_
     refine WP.cond rfl (fun h6 => ?_) (fun h6 => ?_)
     ·have h6 := of_decide_eq_true h6
      have e : cellAt (erCls l.cells.xs) i = false := by
       have : nameAt (erCls l.cells.xs) i = false := by
        rw [nameAt, decide_eq_false_iff_not]
        intro hh
        have := hh m (by omega)
        rw [hn m (by omega), hn i h3] at this
        exact this h6
       rw [cellAt, this, Bool.and_false]
      rw [okLib_false (by omega) e] at k
      refine WP.sr (RG.br rfl (RG.nil ?_))
      exact WP.ret ⟨_, _, ResV.one rfl rfl, Cv.p, k⟩
     ·have h6 := of_decide_eq_false h6
      have hq' : ∀ j, j < m + 1 → (gd l.cells.xs j).name ≠ (gd l.cells.xs i).name := fun j h => by
       by_cases c : j = m
       ·rw [c]; exact h6
       ·exact hq j (by omega)
      refine WP.skip (WP.region (RG.ml rfl (RG.p (PV.add rfl rfl rfl (by omega)) (RG.mr rfl (RG.nil ?_)))))
      exact ⟨rfl, m + 1, ⟨by omega, hq'⟩, ⟨rfl, trivial⟩, ⟨rfl, rfl, trivial⟩, Cv.p, by omega⟩
    ·have h5 := of_decide_eq_false h5
     have e : cellAt (erCls l.cells.xs) i = true := by
      have : nameAt (erCls l.cells.xs) i = true := by
       rw [nameAt, decide_eq_true_iff]
       intro j hj2
       rw [hn j (by omega), hn i h3]
       exact hq j (by omega)
      rw [cellAt, this, erCls_gd h3, h4]; rfl
     have hj' : ∀ j, j < i + 1 → cellAt (erCls l.cells.xs) j = true := fun j h => by
      by_cases c : j = i
      ·rw [c]; exact e
      ·exact hj j (by omega)
     refine WP.exit ?_
     refine WP.region (RG.ml rfl (RG.p (PV.add rfl rfl rfl (by omega)) (RG.mr rfl (RG.nil ?_))))
     exact ⟨rfl, i + 1, ⟨by omega, hj'⟩, ⟨rfl, trivial⟩, ⟨rfl, trivial⟩, Cv.p, by omega⟩
  ·have h2 := of_decide_eq_false h2
   rw [okLib_all (by omega) (by omega) (fun j h => hj j (by omega))] at k
   refine WP.exit ?_
   refine WP.sr (RG.br rfl (RG.nil ?_))
   exact WP.ret ⟨_, _, ResV.one rfl rfl, Cv.p, k⟩
theorem hasCl_r {l : Lib} {cell : Int} (hL : RLib G L l.cells.v l.cells.xs) (hlen : lenC (erCls l.cells.xs)) (k : R (.bool (hasCl (erCls l.cells.xs) cell)) G L) : CallT Tryz.prog 116 #[vT libT l, vi cell] G L R := by
 have hE := erCls_len l.cells.xs
 refine CallT.bd hL.c fun hb => ?_
 rw [hasCl, hE] at k
 refine CallT.enter (args := _) Tryz.func116 rfl rfl (by kernel_rfl) rfl ?_
 refine WP.sr ?_
 refine RG.ot rfl (OT.box (cs := libT.enc l) rfl rfl rfl fun b2 => ?_)
 refine RG.br rfl (RG.nil (WP.sr (RG.p (PV.loadW rfl Ag35 rfl rfl) ?_)))
 refine RG.callF (vs := [_]) rfl rfl En35 rfl (okLib_r hL.up hlen ?_)
 refine RG.bl rfl ?_
 refine RG.g rfl (fun hp => (PV.mvI (.inl rfl) rfl)) ?_
 refine RG.g rfl (fun hp => (PV.field rfl Fo35_0 rfl)) ?_
 refine RG.g rfl (fun hp => (PV.load1 rfl Sc33 (gs_t hp) (Rd.blk rfl))) ?_
 refine RG.g rfl (fun hp => (PV.len rfl Tryz.underlying33 (gs_t hp) (SlF.r hL.c))) ?_
 refine RG.g rfl (fun hp => (PV.sub rfl (gs_t hp) rfl (by first | omega | (simp at hp; omega)))) ?_
 refine RG.gsC rfl rfl rfl rfl En196 (fun hp => ⟨_, (acons (gs_t hp) (acons rfl (acons (gs_t hp) anil))), l09In_s ⟨rfl, rfl, rfl⟩⟩) ?_
 refine RG.p (PV.pickA rfl rfl (fun hq => gs_t (geqT hq)) rfl) (RG.br rfl (RG.nil ?_))
 exact WP.ret ⟨_, _, ResV.one rfl rfl, Cv.p, k⟩
def celE (cs : List ECell) (cell : Int) : Int := bif !okLib cs then 1 else bif !within cell 0 ((cs.length : Int) - 1) then 5 else 0
theorem celE_i {l : Lib} {cell : Int} (hL : RLib G L l.cells.v l.cells.xs) (hlen : lenC (erCls l.cells.xs)) (k : R (vi (celE (erCls l.cells.xs) cell)) G L) : CallT Tryz.prog 202 #[vT libT l, vi cell] G L R := by
 have hE := erCls_len l.cells.xs
 refine CallT.bd hL.c fun hb => ?_
 rw [celE, hE] at k
 refine CallT.enter (args := _) Tryz.func202 rfl rfl (by kernel_rfl) rfl ?_
 refine WP.sr ?_
 refine RG.ot rfl (OT.box (cs := libT.enc l) rfl rfl rfl fun b2 => ?_)
 refine RG.mr rfl (RG.nil (WP.seq (WP.block (WP.sr (RG.p (PV.loadW rfl Ag35 rfl rfl) ?_)))))
 refine RG.callF (vs := [_]) rfl rfl En41 rfl (okLib_i hL.up hlen ?_)
 refine RG.p (PV.not rfl rfl) (RG.br rfl (RG.nil ?_))
 refine WP.cond rfl (fun h1 => ?_) (fun h1 => ?_)
 ·rw [h1, cond_true] at k
  refine WP.sr (RG.mr rfl (RG.nil ?_))
  exact WP.ret ⟨_, _, ResV.one rfl rfl, Cv.p, k⟩
 ·rw [h1, cond_false] at k
  refine WP.sr (RG.ml rfl (RG.p (PV.field rfl Fo35_0 rfl) (RG.p (PV.load1 rfl Sc33 rfl (Rd.blk rfl)) (RG.p (PV.len rfl Tryz.underlying33 rfl (SlF.r hL.c)) (RG.p (PV.sub rfl rfl rfl (by omega)) ?_)))))
  refine RG.callF (vs := [_, _, _]) rfl rfl En100 rfl (within_s ?_)
  refine RG.p (PV.not rfl rfl) (RG.br rfl (RG.nil ?_))
  refine WP.cond rfl (fun h2 => ?_) (fun h2 => ?_)
  ·rw [h2, cond_true] at k
   refine WP.sr (RG.mr rfl (RG.nil ?_))
   exact WP.ret ⟨_, _, ResV.one rfl rfl, Cv.p, k⟩
  ·rw [h2, cond_false] at k
   refine WP.skip (WP.sr (RG.mr rfl (RG.nil ?_)))
   exact WP.ret ⟨_, _, ResV.one rfl rfl, Cv.p, k⟩
theorem part0 {α : Type} [Inhabited α] {xs : List α} {i n : Nat} (h : i < n) (h' : i < xs.length) : ((xs.take n).drop 0)[i]? = some (gd xs i) := by
 rw [List.drop_zero, List.getElem?_take, if_pos h, getG h']
theorem erCl_insts {xs : List Cell} {i : Nat} (h : i < xs.length) : (gd (erCls xs) i).insts = (gd xs i).insts.xs := by rw [erCls_gd h]; rfl
theorem cnt_step {cs : List ECell} (hok : okLib cs = true) {i m : Nat} (hi : i < cs.length) (hm : m < (gd cs i).insts.length) :
  (0 ≤ (gd (gd cs i).insts m).cell ∧ (gd (gd cs i).insts m).cell < i) ∧ (0 ≤ (gd (gd cs i).insts m).cols * (gd (gd cs i).insts m).rows ∧ (gd (gd cs i).insts m).cols * (gd (gd cs i).insts m).rows ≤ 16) ∧
  (0 ≤ (gd (gd cs i).insts m).cols * (gd (gd cs i).insts m).rows * gd (cnts cs i) (gd (gd cs i).insts m).cell.toNat ∧ (gd (gd cs i).insts m).cols * (gd (gd cs i).insts m).rows * gd (cnts cs i) (gd (gd cs i).insts m).cell.toNat ≤ 9511476839856144) ∧
  (1 ≤ 1 + costL (cntI (cnts cs i)) ((gd cs i).insts.take m) ∧ 1 + costL (cntI (cnts cs i)) ((gd cs i).insts.take m) ≤ 76091814718849153) ∧
  1 + costL (cntI (cnts cs i)) ((gd cs i).insts.take (m + 1)) = 1 + costL (cntI (cnts cs i)) ((gd cs i).insts.take m) + (gd (gd cs i).insts m).cols * (gd (gd cs i).insts m).rows * gd (cnts cs i) (gd (gd cs i).insts m).cell.toNat := by
 have ho := okLib_inst hok hi hm
 obtain ⟨h1, _, h3, h4, _, _⟩ := okIn_bd ho
 have e1 := mul_bd (a := (gd (gd cs i).insts m).cols) (b := (gd (gd cs i).insts m).rows) (A := 4) (B := 4) (by omega) (by omega) (by omega)
 have e0 : 0 ≤ (gd (gd cs i).insts m).cols * (gd (gd cs i).insts m).rows := Int.mul_nonneg (by omega) (by omega)
 have hb := cnts_big hok hi
 have e2 := cntI_bd (ks := cnts cs i) (M := 594467302491009) ho (hb _ (by omega))
 have e3 := ownCnt_bd hok (M := 594467302491009) (by omega) hi hb m (by omega)
 simp only [cntI] at e2
 refine ⟨by omega, by omega, by omega, by omega, ?_⟩
 rw [costL_take _ hm, ← Int.add_assoc]; rfl
theorem elCnt_i {l : Lib} {cell : Int} (hL : RLib G L l.cells.v l.cells.xs) (hok : okLib (erCls l.cells.xs) = true) (hc : 0 ≤ cell ∧ cell < (erCls l.cells.xs).length) (k : R (vi (cntOf (erCls l.cells.xs) cell.toNat)) G L) : CallT Tryz.prog 203 #[vT libT l, vi cell] G L R := by
 have hE := erCls_len l.cells.xs
 have h8 := okLib_len hok
 refine CallT.enter (args := _) Tryz.func203 rfl rfl (by kernel_rfl) rfl ?_
 refine WP.sr ?_
 refine RG.ot rfl (OT.box (cs := libT.enc l) rfl rfl rfl fun b2 => ?_)
 refine RG.mr rfl (RG.nil (WP.sr ?_))
 refine RG.ot rfl (OT.bslice (F := intT) (els := []) rfl El30 rfl (by decide) rfl (by decide) trivial fun v11 => ?_)
 refine RG.p (PV.asg (v := v11) rfl rfl) (RG.nil (WP.seq (WP.sr (RG.p (PV.field rfl Fo35_0 rfl) (RG.p (PV.load1 rfl Sc33 rfl (Rd.blk rfl)) (RG.ml rfl (RG.p (PV.add rfl rfl rfl (by omega)) (RG.p (PV.slc (h := cell.toNat + 1) rfl Is33 rfl (SlF.r hL.c) optAt.n (optAt.s rfl (by omega)) (by omega) (by omega)) (RG.p (PV.len rfl Tryz.underlying33 rfl (SlF.r (Rs.slv (F := cellT) hL.c (by omega) (by omega)))) (RG.ml rfl (RG.nil (WP.block ?_))))))))))))
 have hpl : (List.drop 0 (List.take (cell.toNat + 1) l.cells.xs)).length = cell.toNat + 1 := by simp; omega
 refine WP.cv (Cv.eqS (xs := []) (ys := cnts (erCls l.cells.xs) 0) rfl) ?_
 refine WP.loop2 [1, 16, 17] (fun (i : Nat) (v : Value) => i ≤ cell.toNat + 1) (fun (i : Nat) (v : Value) => [(18, vi i), (5, v)]) (fun (i : Nat) (v : Value) => osl 2 intT v (cnts (erCls l.cells.xs) i) :: blk b2 35 (libT.enc l) :: L) (fun (i : Nat) (v : Value) => cell.toNat + 1 - i) 0 v11 (by omega) ⟨rfl, rfl, trivial⟩ Cv.p ?_
 rintro i v τ hi
 refine WP.sr (RG.p (PV.lss rfl rfl rfl) (RG.nil (WP.seq ?_)))
 have hcl := cnts_len (erCls l.cells.xs) i
 refine WP.cond rfl (fun h2 => ?_) (fun h2 => ?_)
 ·have h2 := of_decide_eq_true h2
  have h3 : i < l.cells.xs.length := by omega
  have hin := erCl_insts h3
  have h8i := (okLib_cnt hok (i := i) (by omega)).1
  rw [hin] at h8i
  refine WP.skip (WP.seq (WP.block (WP.sr (RG.p (PV.idxS rfl Is33 rfl (SlF.r (Rs.slv (F := cellT) hL.c (by omega) (by omega))) rfl rfl (by omega)) (RG.p (PV.loadE rfl Ag115 rfl rfl (El.r (Rs.slv (F := cellT) hL.c (lo := 0) (hi := cell.toNat + 1) (by omega) (by omega)) (part0 (by omega) (by omega)))) ?_)))))
  refine RG.ot rfl (OT.alloc rfl Zr115 fun b7 => ?_)
  refine RG.ot rfl (OT.storeW (vs := [.string _, _, _, _]) rfl Sz115 rfl rfl (Cl.c rfl) rfl rfl (hL.one h3) ?_)
  refine RG.nil (WP.sr (RG.mr rfl (RG.nil (WP.seq (WP.sr (RG.p (PV.field rfl Fo115_3 rfl) (RG.p (PV.load1 rfl Sc113 rfl (Rd.blk rfl)) (RG.p (PV.len rfl Tryz.underlying113 rfl (SlF.r (hL.na h3))) (RG.ml rfl (RG.nil (WP.block ?_)))))))))))
  refine WP.loop2 [1, 5, 16, 17, 18, 23, 24] (fun (m : Nat) (own : Int) => m ≤ (gd l.cells.xs i).insts.xs.length ∧ own = 1 + costL (cntI (cnts (erCls l.cells.xs) i)) ((gd (erCls l.cells.xs) i).insts.take m)) (fun (m : Nat) (own : Int) => [(25, vi m), (8, vi own)]) (fun (m : Nat) (own : Int) => osl 2 intT v (cnts (erCls l.cells.xs) i) :: blk b2 35 (libT.enc l) :: L) (fun (m : Nat) (own : Int) => (gd l.cells.xs i).insts.xs.length - m) 0 1 ⟨by omega, by simp [costL]⟩ ⟨rfl, rfl, trivial⟩ Cv.p ?_
  rintro m own τ ⟨hm, he⟩
  refine WP.sr (RG.p (PV.lss rfl rfl rfl) (RG.nil (WP.seq ?_)))
  refine WP.cond rfl (fun h4 => ?_) (fun h4 => ?_)
  ·have h4 := of_decide_eq_true h4
   have hst := cnt_step hok (i := i) (m := m) (by omega) (by rw [hin]; omega)
   rw [hin] at hst he
   obtain ⟨q1, q2, q3, q4, q5⟩ := hst
   refine WP.skip (WP.seq (WP.block (WP.sr (RG.p (PV.idxS rfl Is113 rfl (SlF.r (hL.na h3)) rfl rfl (by omega)) (RG.p (PV.loadE rfl Ag173 rfl rfl (El.r (hL.na h3) (getG (by omega)))) ?_)))))
   refine RG.ot rfl (OT.alloc rfl Zr173 fun b10 => ?_)
   refine RG.ot rfl (OT.storeW (vs := [vi _, vi _, vi _, vi _, vi _, vi _, vi _, vi _]) rfl Sz173 rfl rfl (Cl.c rfl) rfl rfl (OneC.c rfl) ?_)
   refine RG.nil ?_
   refine WP.regionQ (by kernel_rfl) (by kernel_rfl) ?_
   refine RQ.pv rfl (PV.mvI (.inl rfl) rfl) (RQ.pv rfl (PV.field rfl Fo173_2 rfl) (RQ.pv rfl (PV.load1 rfl Sc2 rfl (Rd.blk rfl)) (RQ.pv rfl (PV.field rfl Fo173_3 rfl) (RQ.pv rfl (PV.load1 rfl Sc2 rfl (Rd.blk rfl)) (RQ.pv rfl (PV.mul rfl rfl rfl (by omega)) (RQ.pv rfl (PV.move (v := v) rfl rfl) (RQ.pv rfl (PV.field rfl Fo173_0 rfl) (RQ.pv rfl (PV.load1 rfl Sc2 rfl (Rd.blk rfl)) (RQ.pv rfl (PV.idxS (j := (gd (gd l.cells.xs i).insts.xs m).cell.toNat) (v := v) rfl Is30 rfl SlF.o rfl (by omega) (by omega)) (RQ.pv rfl (PV.loadE1 rfl Sc2 rfl rfl (El.o (getG (by omega))) rfl) (RQ.pv rfl (PV.mul rfl rfl rfl (by omega)) (RQ.pv rfl (PV.add rfl rfl rfl (by omega)) (RQ.pv rfl (PV.mvI (.inr rfl) rfl) ?_)))))))))))))
   refine RQ.nil ?_
   refine WP.region (RG.p (PV.add rfl rfl rfl (by omega)) (RG.ml rfl (RG.nil ?_)))
   exact ⟨rfl, m + 1, _, ⟨by omega, by rw [hin, q5, he]⟩, ⟨rfl, rfl, trivial⟩, ⟨rfl, rfl, rfl, rfl, rfl, rfl, rfl, trivial⟩, Cv.p, by omega⟩
  ·have h4 := of_decide_eq_false h4
   have e : own = ownCnt (cnts (erCls l.cells.xs) i) (gd (erCls l.cells.xs) i).insts := by rw [he, List.take_of_length_le (by rw [hin]; omega)]; rfl
   refine WP.exit ?_
   refine WP.region (RG.p (PV.move (v := v) rfl rfl) (RG.ml rfl ?_))
   refine RG.ot rfl (OT.bslice (F := intT) (els := [_]) rfl El30 rfl (by decide) rfl (by decide) ⟨rfl, (Cl.c rfl), trivial⟩ fun v45 => ?_)
   refine RG.ot rfl (OT.append (v := v) (u := v45) (F := intT) rfl El30 rfl (by decide) rfl rfl Rs.o (OneL.c (fun _ => rfl)) rfl (by first | omega | (simp <;> omega)) fun v46 => ?_)
   refine RG.p (PV.asg (v := v46) rfl rfl) (RG.nil (WP.region (RG.p (PV.add rfl rfl rfl (by omega)) (RG.ml rfl (RG.nil ?_)))))
   exact ⟨rfl, i + 1, _, (by omega), ⟨rfl, rfl, trivial⟩, ⟨rfl, rfl, rfl, trivial⟩, ((Cv.p (C := osl 2 intT v46 (cnts (erCls l.cells.xs) i ++ [own]) :: blk b2 35 (libT.enc l) :: L)).trans (Cv.eqS (by rw [e]; rfl))), by omega⟩
 ·have h2 := of_decide_eq_false h2
  have e : gd (cnts (erCls l.cells.xs) i) cell.toNat = cntOf (erCls l.cells.xs) cell.toNat := cnts_gd _ (by omega)
  rw [← e] at k
  refine WP.exit ?_
  refine WP.sr (RG.p (PV.move (v := v) rfl rfl) (RG.ml rfl (RG.p (PV.idxS (j := cell.toNat) (v := v) rfl Is30 rfl SlF.o rfl (by omega) (by omega)) (RG.p (PV.loadE1 rfl Sc2 rfl rfl (El.o (getG (by omega))) rfl) (RG.mr rfl (RG.nil ?_))))))
  exact WP.ret ⟨_, _, ResV.one rfl rfl, Cv.p, k⟩
theorem elCnt_r {l : Lib} {cell : Int} (hL : RLib G L l.cells.v l.cells.xs) (hlen : lenC (erCls l.cells.xs)) (hok : okLib (erCls l.cells.xs) = true) (hc : 0 ≤ cell ∧ cell < (erCls l.cells.xs).length) (k : R (vi (cntOf (erCls l.cells.xs) cell.toNat)) G L) : CallT Tryz.prog 214 #[vT libT l, vi cell] G L R := by
 have hE := erCls_len l.cells.xs
 have h8 := okLib_len hok
 have hh : hasCl (erCls l.cells.xs) cell = true := by simp [hasCl, hok, within]; omega
 refine CallT.enter (args := _) Tryz.func214 rfl rfl (by kernel_rfl) rfl ?_
 refine WP.sr ?_
 refine RG.ot rfl (OT.box (cs := libT.enc l) rfl rfl rfl fun b2 => ?_)
 refine RG.mr rfl (RG.nil (WP.seq (WP.sr (RG.p (PV.loadW rfl Ag35 rfl rfl) (RG.ml rfl ?_)))))
 refine RG.callF (vs := [_, _]) rfl rfl En116 rfl (hasCl_r hL.up hlen ?_)
 refine RG.p (PV.not rfl rfl) (RG.nil ?_)
 refine WP.cond rfl (fun h1 => ?_) (fun h1 => ?_)
 ·exfalso; simp [hh] at h1
 refine WP.skip (WP.sr ?_)
 refine RG.ot rfl (OT.bslice (F := intT) (els := []) rfl El30 rfl (by decide) rfl (by decide) trivial fun v14 => ?_)
 refine RG.p (PV.asg (v := v14) rfl rfl) (RG.nil (WP.seq (WP.sr (RG.mr rfl (RG.nil (WP.block ?_))))))
 refine WP.cv (Cv.eqS (xs := []) (ys := cnts (erCls l.cells.xs) 0) rfl) ?_
 refine WP.loop2 [1, 2] (fun (i : Nat) (v : Value) => i ≤ l.cells.xs.length) (fun (i : Nat) (v : Value) => [(6, vi i), (5, v)]) (fun (i : Nat) (v : Value) => osl 2 intT v (cnts (erCls l.cells.xs) i) :: blk b2 35 (libT.enc l) :: L) (fun (i : Nat) (v : Value) => l.cells.xs.length - i) 0 v14 (by omega) ⟨rfl, rfl, trivial⟩ Cv.p ?_
 rintro i v τ hi
 refine WP.seq (WP.sr (RG.ml rfl (RG.p (PV.field rfl Fo35_0 rfl) (RG.p (PV.load1 rfl Sc33 rfl (Rd.blk rfl)) (RG.p (PV.len rfl Tryz.underlying33 rfl (SlF.r hL.c)) (RG.p (PV.lss rfl rfl rfl) (RG.nil ?_)))))))
 have hcl := cnts_len (erCls l.cells.xs) i
 refine WP.cond rfl (fun h2 => ?_) (fun h2 => ?_)
 ·have h2 := of_decide_eq_true h2
  have h3 : i < l.cells.xs.length := by omega
  have hin := erCl_insts h3
  have h8i := (okLib_cnt hok (i := i) (by omega)).1
  rw [hin] at h8i
  refine WP.skip (WP.seq (WP.block (WP.sr (RG.mr rfl (RG.nil (WP.sr (RG.p (PV.field rfl Fo35_0 rfl) (RG.p (PV.load1 rfl Sc33 rfl (Rd.blk rfl)) (RG.ml rfl (RG.p (PV.idxS rfl Is33 rfl (SlF.r hL.c) rfl rfl (by omega)) (RG.p (PV.field rfl Fo115_3 rfl) ?_)))))))))))
  refine RG.p (PV.loadF rfl Sc113 rfl rfl (El.r hL.c (getG (by omega))) rfl) (RG.p (PV.asg rfl rfl) (RG.nil (WP.seq (WP.sr (RG.mr rfl (RG.nil (WP.block ?_)))))))
  refine WP.loop2 [1, 2, 5, 6, 8] (fun (m : Nat) (own : Int) => m ≤ (gd l.cells.xs i).insts.xs.length ∧ own = 1 + costL (cntI (cnts (erCls l.cells.xs) i)) ((gd (erCls l.cells.xs) i).insts.take m)) (fun (m : Nat) (own : Int) => [(9, vi m), (7, vi own)]) (fun (m : Nat) (own : Int) => osl 2 intT v (cnts (erCls l.cells.xs) i) :: blk b2 35 (libT.enc l) :: L) (fun (m : Nat) (own : Int) => (gd l.cells.xs i).insts.xs.length - m) 0 1 ⟨by omega, by simp [costL]⟩ ⟨rfl, rfl, trivial⟩ Cv.p ?_
  rintro m own τ ⟨hm, he⟩
  refine WP.seq (WP.sr (RG.ml rfl (RG.p (PV.move rfl rfl) (RG.p (PV.len rfl Tryz.underlying113 rfl (SlF.r (hL.na h3))) (RG.p (PV.lss rfl rfl rfl) (RG.nil ?_))))))
  refine WP.cond rfl (fun h4 => ?_) (fun h4 => ?_)
  ·have h4 := of_decide_eq_true h4
   have hst := cnt_step hok (i := i) (m := m) (by omega) (by rw [hin]; omega)
   rw [hin] at hst he
   obtain ⟨q1, q2, q3, q4, q5⟩ := hst
   refine WP.skip (WP.seq (WP.block ?_))
   refine WP.regionQ (by kernel_rfl) (by kernel_rfl) ?_
   refine RQ.pv rfl (PV.mvI (.inl rfl) rfl) (RQ.pv rfl (PV.move rfl rfl) (RQ.pv rfl (PV.mvI (.inl rfl) rfl) (RQ.pv rfl (PV.idxS rfl Is113 rfl (SlF.r (hL.na h3)) rfl rfl (by omega)) (RQ.pv rfl (PV.field rfl Fo173_2 rfl) (RQ.pv rfl (PV.loadF rfl Sc2 rfl rfl (El.r (hL.na h3) (getG (by omega))) rfl) (RQ.pv rfl (PV.move rfl rfl) (RQ.pv rfl (PV.mvI (.inl rfl) rfl) (RQ.pv rfl (PV.idxS rfl Is113 rfl (SlF.r (hL.na h3)) rfl rfl (by omega)) (RQ.pv rfl (PV.field rfl Fo173_3 rfl) (RQ.pv rfl (PV.loadF rfl Sc2 rfl rfl (El.r (hL.na h3) (getG (by omega))) rfl) (RQ.pv rfl (PV.mul rfl rfl rfl (by omega)) (RQ.pv rfl (PV.move (v := v) rfl rfl) (RQ.pv rfl (PV.move rfl rfl) ?_)))))))))))))
   refine RQ.pv rfl (PV.mvI (.inl rfl) rfl) (RQ.pv rfl (PV.idxS rfl Is113 rfl (SlF.r (hL.na h3)) rfl rfl (by omega)) (RQ.pv rfl (PV.field rfl Fo173_0 rfl) (RQ.pv rfl (PV.loadF rfl Sc2 rfl rfl (El.r (hL.na h3) (getG (by omega))) rfl) (RQ.pv rfl (PV.idxS (j := (gd (gd l.cells.xs i).insts.xs m).cell.toNat) (v := v) rfl Is30 rfl SlF.o rfl (by omega) (by omega)) (RQ.pv rfl (PV.loadE1 rfl Sc2 rfl rfl (El.o (getG (by omega))) rfl) (RQ.pv rfl (PV.mul rfl rfl rfl (by omega)) (RQ.pv rfl (PV.add rfl rfl rfl (by omega)) (RQ.pv rfl (PV.mvI (.inr rfl) rfl) ?_))))))))
   refine RQ.nil ?_
   refine WP.region (RG.ml rfl (RG.p (PV.add rfl rfl rfl (by omega)) (RG.mr rfl (RG.nil ?_))))
   exact ⟨rfl, m + 1, _, ⟨by omega, by rw [hin, q5, he]⟩, ⟨rfl, rfl, trivial⟩, ⟨rfl, rfl, rfl, rfl, rfl, trivial⟩, Cv.p, by omega⟩
  ·have h4 := of_decide_eq_false h4
   have e : own = ownCnt (cnts (erCls l.cells.xs) i) (gd (erCls l.cells.xs) i).insts := by rw [he, List.take_of_length_le (by rw [hin]; omega)]; rfl
   refine WP.exit ?_
   refine WP.region (RG.p (PV.move (v := v) rfl rfl) (RG.ml rfl ?_))
   refine RG.ot rfl (OT.bslice (F := intT) (els := [_]) rfl El30 rfl (by decide) rfl (by decide) ⟨rfl, (Cl.c rfl), trivial⟩ fun v58 => ?_)
   refine RG.ot rfl (OT.append (v := v) (u := v58) (F := intT) rfl El30 rfl (by decide) rfl rfl Rs.o (OneL.c (fun _ => rfl)) rfl (by first | omega | (simp <;> omega)) fun v59 => ?_)
   refine RG.p (PV.asg (v := v59) rfl rfl) (RG.nil (WP.region (RG.ml rfl (RG.p (PV.add rfl rfl rfl (by omega)) (RG.mr rfl (RG.nil ?_))))))
   exact ⟨rfl, i + 1, _, (by omega), ⟨rfl, rfl, trivial⟩, ⟨rfl, rfl, trivial⟩, ((Cv.p (C := osl 2 intT v59 (cnts (erCls l.cells.xs) i ++ [own]) :: blk b2 35 (libT.enc l) :: L)).trans (Cv.eqS (by rw [e]; rfl))), by omega⟩
 ·have h2 := of_decide_eq_false h2
  have e : gd (cnts (erCls l.cells.xs) i) cell.toNat = cntOf (erCls l.cells.xs) cell.toNat := cnts_gd _ (by omega)
  rw [← e] at k
  refine WP.exit ?_
  refine WP.sr (RG.p (PV.move (v := v) rfl rfl) (RG.ml rfl (RG.p (PV.idxS (j := cell.toNat) (v := v) rfl Is30 rfl SlF.o rfl (by omega) (by omega)) (RG.p (PV.loadE1 rfl Sc2 rfl rfl (El.o (getG (by omega))) rfl) (RG.mr rfl (RG.nil ?_))))))
  exact WP.ret ⟨_, _, ResV.one rfl rfl, Cv.p, k⟩
end Go.Proofs.YtgphjofccckloaaGreat
namespace Go.Proofs.YtgphjofccckloaaGreat
open Go
set_option maxRecDepth 20000
variable {G : Gh} {L : List Ch} {R : Value → Gh → List Ch → Prop}
def TBig (t : Trans) : Prop := (0 ≤ t.o ∧ t.o ≤ 7) ∧ -100000 ≤ t.x ∧ t.x ≤ 100000 ∧ -100000 ≤ t.y ∧ t.y ≤ 100000
theorem moveBig_i {t : Trans} {p : Pt} (ht : TBig t) (hp : InB 1000 p) (k : R (vpt (moveP t p)) G L) : CallT Tryz.prog 206 #[vtrans t, vpt p] G L R := by
 obtain ⟨hq1, hq2, hq3, hq4⟩ : InB 1000 (turnP t.o p) := turnP_in hp
 obtain ⟨_, ht1, ht2, ht3, ht4⟩ := id ht
 refine CallT.enter (args := _) Tryz.func206 rfl rfl (by kernel_rfl) rfl ?_
 refine WP.sr ?_
 refine RG.ot rfl (OT.box (cs := transT.enc t) rfl rfl rfl fun b2 => ?_)
 refine RG.ot rfl (OT.box (cs := ptT.enc p) rfl rfl rfl fun b3 => ?_)
 refine RG.ot rfl (OT.alloc rfl Zr189 fun b4 => ?_)
 refine RG.nil (WP.sr (RG.p (PV.field rfl Fo95_0 rfl) (RG.p (PV.load1 rfl Sc2 rfl (Rd.blk rfl)) (RG.p (PV.loadW rfl Ag189 rfl rfl) ?_))))
 refine RG.callF (vs := [_, _]) rfl rfl En255 rfl (turn_s ht.1 hp ?_)
 refine RG.ot rfl (OT.storeW (vs := [vi _, vi _]) rfl Sz189 rfl rfl (Cl.c rfl) rfl rfl (OneC.c rfl) ?_)
 refine RG.nil (WP.sr (RG.p (PV.field rfl Fo189_0 rfl) (RG.p (PV.load1 rfl Sc2 rfl (Rd.blk rfl)) (RG.p (PV.field rfl Fo95_1 rfl) (RG.p (PV.load1 rfl Sc2 rfl (Rd.blk rfl)) (RG.p (PV.add rfl rfl rfl (by omega)) (RG.p (PV.field rfl Fo189_1 rfl) (RG.p (PV.load1 rfl Sc2 rfl (Rd.blk rfl)) (RG.p (PV.field rfl Fo95_2 rfl) (RG.p (PV.load1 rfl Sc2 rfl (Rd.blk rfl)) (RG.p (PV.add rfl rfl rfl (by omega)) (RG.p (PV.build (vs := [(0, [vi _]), (1, [vi _])]) (out := [_, _]) rfl Zr189 Pl189 ⟨rfl, (Cl.c rfl), ⟨rfl, (Cl.c rfl), trivial⟩⟩ rfl) ?_))))))))))))
 refine RG.ot rfl (OT.storeW (vs := [vi _, vi _]) rfl Sz189 rfl rfl (Cl.c rfl) rfl rfl (OneC.c rfl) ?_)
 refine RG.nil ?_
 exact WP.ret ⟨_, _, ResV.one rfl (RV1.cell rfl Ag189 rfl), Cv.p, k⟩
theorem composed_i {a b : Int} (ha : 0 ≤ a ∧ a ≤ 7) (hb : 0 ≤ b ∧ b ≤ 7) (k : R (vi (cmpo a b)) G L) : CallT Tryz.prog 275 #[vi a, vi b] G L R := by
 refine CallT.enter (args := _) Tryz.func275 rfl rfl (by kernel_rfl) rfl ?_
 refine WP.sr (RG.mr rfl (RG.nil (WP.sr (RG.ml rfl (RG.p (PV.rem rfl rfl rfl (by omega) (by omega) (by omega)) (RG.ml rfl (RG.p (PV.rem rfl rfl rfl (by omega) (by omega) (by omega)) (RG.p (PV.add rfl rfl rfl (by omega)) (RG.mr rfl (RG.nil ?_))))))))))
 refine WP.cut1 [0, 1] (fun (q : Int) => q = (if 4 ≤ b then b % 4 + 4 - a % 4 else b % 4 + a % 4)) (fun (q : Int) => [(5, vi q)]) (fun (q : Int) => L) ?_ ?_
 refine WP.sr (RG.ml rfl (RG.p (PV.geq rfl rfl rfl) (RG.nil ?_)))
 refine WP.cond rfl (fun h1 => ?_) (fun h1 => ?_)
 ·have h1 := of_decide_eq_true h1
  refine WP.region (RG.ml rfl (RG.p (PV.rem rfl rfl rfl (by omega) (by omega) (by omega)) (RG.p (PV.add rfl rfl rfl (by omega)) (RG.ml rfl (RG.p (PV.rem rfl rfl rfl (by omega) (by omega) (by omega)) (RG.p (PV.sub rfl rfl rfl (by omega)) (RG.mr rfl (RG.nil ?_))))))))
  exact ⟨rfl, (b % 4 + 4 - a % 4), (by rw [if_pos (by omega)]), ⟨rfl, trivial⟩, ⟨rfl, rfl, trivial⟩, Cv.p⟩
 ·have h1 := of_decide_eq_false h1
  refine WP.skip ?_
  exact ⟨rfl, (b % 4 + a % 4), (by rw [if_neg (by omega)]), ⟨rfl, trivial⟩, ⟨rfl, rfl, trivial⟩, Cv.p⟩
 rintro q τ1 hq
 have hqb : 0 ≤ q ∧ q ≤ 20 := by rw [hq]; split <;> omega
 refine WP.sr (RG.ml rfl (RG.p (PV.rem rfl rfl rfl (by omega) (by omega) (by omega)) (RG.mr rfl (RG.nil ?_))))
 refine WP.cut1 [] (fun (z : Int) => z = cmpo a b) (fun (z : Int) => [(6, vi z)]) (fun (z : Int) => L) ?_ ?_
 refine WP.sr (RG.ml rfl (RG.p (PV.geq rfl rfl rfl) (RG.ml rfl (RG.p (PV.geq rfl rfl rfl) (RG.p (PV.neqB rfl Tryz.underlying4 rfl rfl) (RG.nil ?_))))))
 refine WP.cond rfl (fun h2 => ?_) (fun h2 => ?_)
 ·refine WP.region ?_
  refine RG.ml rfl (RG.p (PV.add rfl rfl rfl (by omega)) (RG.mr rfl (RG.nil ?_)))
  exact ⟨rfl, (q % 4 + 4), (by rw [cmpo, ← hq, if_neg]; intro e; simp [e] at h2), ⟨rfl, trivial⟩, trivial, Cv.p⟩
 ·refine WP.skip ?_
  exact ⟨rfl, (q % 4), (by rw [cmpo, ← hq, if_pos]; omega; simpa using h2), ⟨rfl, trivial⟩, trivial, Cv.p⟩
 rintro z τ2 hz
 refine WP.sr (RG.ml rfl (RG.mr rfl (RG.nil ?_)))
 refine WP.ret ?_
 rw [← hz] at k
 exact ⟨_, _, ResV.one rfl rfl, Cv.p, k⟩
theorem pt_in {t : Trans} {b : Int} (h : (-b ≤ t.x ∧ t.x ≤ b) ∧ -b ≤ t.y ∧ t.y ≤ b) : InB b ⟨t.x, t.y⟩ := ⟨h.1.1, h.1.2, h.2.1, h.2.2⟩
theorem compose_i {t u : Trans} (ho : 0 ≤ t.o ∧ t.o ≤ 7) (ht : (-1000 ≤ t.x ∧ t.x ≤ 1000) ∧ -1000 ≤ t.y ∧ t.y ≤ 1000) (hu : TBig u) (k : R (vtrans (cmpT t u)) G L) : CallT Tryz.prog 254 #[vtrans t, vtrans u] G L R := by
 refine CallT.enter (args := _) Tryz.func254 rfl rfl (by kernel_rfl) rfl ?_
 refine WP.sr ?_
 refine RG.ot rfl (OT.box (cs := transT.enc t) rfl rfl rfl fun b2 => ?_)
 refine RG.ot rfl (OT.box (cs := transT.enc u) rfl rfl rfl fun b3 => ?_)
 refine RG.ot rfl (OT.alloc rfl Zr95 fun b4 => ?_)
 refine RG.nil (WP.sr (RG.p (PV.loadW rfl Ag95 rfl rfl) (RG.p (PV.field rfl Fo95_1 rfl) (RG.p (PV.load1 rfl Sc2 rfl (Rd.blk rfl)) (RG.p (PV.field rfl Fo95_2 rfl) (RG.p (PV.load1 rfl Sc2 rfl (Rd.blk rfl)) (RG.p (PV.build (vs := [(0, [vi _]), (1, [vi _])]) (out := [_, _]) rfl Zr189 Pl189 ⟨rfl, (Cl.c rfl), ⟨rfl, (Cl.c rfl), trivial⟩⟩ rfl) ?_)))))))
 refine RG.callF (vs := [_, _]) rfl rfl En206 rfl (moveBig_i (p := ⟨_, _⟩) hu (pt_in ht) ?_)
 refine RG.ot rfl (OT.alloc rfl Zr189 fun b5 => ?_)
 refine RG.ot rfl (OT.storeW (vs := [vi _, vi _]) rfl Sz189 rfl rfl (Cl.c rfl) rfl rfl (OneC.c rfl) ?_)
 refine RG.nil (WP.seq ?_)
 refine WP.regionHD [.b b4] (.q 0 (.q 1 (.q 2 (.q 3 (.q 5 (.q 6 (.q 7 (.q 8 (.l 4 (.q 9 (.l 10 Sch.nil))))))))))) (by kernel_rfl) (by kernel_rfl) (by kernel_rfl) rfl ?_
 refine RH.w rfl rfl (PV.field rfl Fo95_0 rfl) (RH.w rfl rfl (PV.load1 rfl Sc2 rfl (Rd.blk rfl)) (RH.w rfl rfl (PV.field rfl Fo95_0 rfl) (RH.w rfl rfl (PV.load1 rfl Sc2 rfl (Rd.blk rfl)) (RH.w rfl rfl (PV.field rfl Fo189_0 rfl) (RH.w rfl rfl (PV.load1 rfl Sc2 rfl (Rd.blk rfl)) (RH.w rfl rfl (PV.field rfl Fo189_1 rfl) (RH.w rfl rfl (PV.load1 rfl Sc2 rfl (Rd.blk rfl)) ?_)))))))
 refine RH.ot rfl rfl (OT.callF (vs := [_, _]) rfl En275 rfl (composed_i ho hu.1 ⟨Gh.le_refl _, PickC.pick, ?_⟩))
 refine RH.w rfl rfl (PV.build (vs := [(0, [vi _]), (1, [vi _]), (2, [vi _])]) (out := [_, _, _]) rfl Zr95 Pl95 ⟨rfl, (Cl.c rfl), ⟨rfl, (Cl.c rfl), ⟨rfl, (Cl.c rfl), trivial⟩⟩⟩ rfl) ?_
 refine RH.ot rfl rfl (OT.storeW (vs := [vi _, vi _, vi _]) rfl Sz95 rfl rfl (Cl.c rfl) rfl rfl (OneC.c rfl) ⟨Gh.le_refl _, PickC.pick, ?_⟩)
 refine RH.nil ?_
 exact WP.ret ⟨_, _, ResV.one rfl (RV1.cell rfl Ag95 rfl), Cv.p, k⟩
theorem elPlace_i {n : Inst} {kk : Int} {c r : Nat} (hk : okIn kk n = true) (hc : c < n.cols.toNat) (hr : r < n.rows.toNat) (k : R (vtrans (elPlace n c r)) G L) : CallT Tryz.prog 128 #[vT instT n, vi c, vi r] G L R := by
 obtain ⟨_, h2, h3, h4, h5, h6⟩ := okIn_bd hk
 obtain ⟨q1, q2, q3⟩ := validT_iff.1 h2
 have e1 := mul_bd (a := (c : Int)) (b := n.sx) (A := 3) (B := 80) (by omega) h5 (by omega)
 have e2 := mul_bd (a := (r : Int)) (b := n.sy) (A := 3) (B := 80) (by omega) h6 (by omega)
 refine CallT.enter (args := _) Tryz.func128 rfl rfl (by kernel_rfl) rfl ?_
 refine WP.sr ?_
 refine RG.ot rfl (OT.box (cs := instT.enc n) rfl rfl rfl fun b3 => ?_)
 refine RG.ot rfl (OT.alloc rfl Zr95 fun b6 => ?_)
 refine RG.nil (WP.sr (RG.p (PV.field rfl Fo173_1 rfl) (RG.p (PV.field rfl Fo95_0 rfl) (RG.p (PV.load1 rfl Sc2 rfl (Rd.blk rfl)) (RG.p (PV.field rfl Fo173_1 rfl) (RG.p (PV.field rfl Fo95_1 rfl) (RG.p (PV.load1 rfl Sc2 rfl (Rd.blk rfl)) (RG.ml rfl (RG.p (PV.field rfl Fo173_4 rfl) (RG.p (PV.load1 rfl Sc2 rfl (Rd.blk rfl)) (RG.p (PV.mul rfl rfl rfl (by omega)) (RG.p (PV.add rfl rfl rfl (by omega)) ?_))))))))))))
 refine RG.p (PV.field rfl Fo173_1 rfl) (RG.p (PV.field rfl Fo95_2 rfl) (RG.p (PV.load1 rfl Sc2 rfl (Rd.blk rfl)) (RG.ml rfl (RG.p (PV.field rfl Fo173_5 rfl) (RG.p (PV.load1 rfl Sc2 rfl (Rd.blk rfl)) (RG.p (PV.mul rfl rfl rfl (by omega)) (RG.p (PV.add rfl rfl rfl (by omega)) (RG.p (PV.build (vs := [(0, [vi _]), (1, [vi _]), (2, [vi _])]) (out := [_, _, _]) rfl Zr95 Pl95 ⟨rfl, (Cl.c rfl), ⟨rfl, (Cl.c rfl), ⟨rfl, (Cl.c rfl), trivial⟩⟩⟩ rfl) ?_))))))))
 refine RG.ot rfl (OT.storeW (vs := [vi _, vi _, vi _]) rfl Sz95 rfl rfl (Cl.c rfl) rfl rfl (OneC.c rfl) ?_)
 refine RG.nil ?_
 exact WP.ret ⟨_, _, ResV.one rfl (RV1.cell rfl Ag95 rfl), Cv.p, k⟩
theorem elPlace_r {n : Inst} {kk : Int} {c r : Nat} (hk : okIn kk n = true) (hc : c < n.cols.toNat) (hr : r < n.rows.toNat) (k : R (vtrans (elPlace n c r)) G L) : CallT Tryz.prog 197 #[vT instT n, vi c, vi r] G L R := by
 obtain ⟨_, h2, h3, h4, h5, h6⟩ := okIn_bd hk
 obtain ⟨q1, q2, q3⟩ := validT_iff.1 h2
 have e1 := mul_bd (a := (c : Int)) (b := n.sx) (A := 3) (B := 80) (by omega) h5 (by omega)
 have e2 := mul_bd (a := (r : Int)) (b := n.sy) (A := 3) (B := 80) (by omega) h6 (by omega)
 refine CallT.enter (args := _) Tryz.func197 rfl rfl (by kernel_rfl) rfl ?_
 refine WP.sr ?_
 refine RG.ot rfl (OT.box (cs := instT.enc n) rfl rfl rfl fun b3 => ?_)
 refine RG.ot rfl (OT.alloc rfl Zr95 fun b6 => ?_)
 refine RG.nil (WP.sr (RG.p (PV.field rfl Fo173_1 rfl) (RG.p (PV.field rfl Fo95_0 rfl) (RG.p (PV.load1 rfl Sc2 rfl (Rd.blk rfl)) (RG.p (PV.field rfl Fo173_1 rfl) (RG.p (PV.field rfl Fo95_1 rfl) (RG.p (PV.load1 rfl Sc2 rfl (Rd.blk rfl)) (RG.ml rfl (RG.p (PV.field rfl Fo173_4 rfl) (RG.p (PV.load1 rfl Sc2 rfl (Rd.blk rfl)) (RG.p (PV.mul rfl rfl rfl (by omega)) (RG.p (PV.add rfl rfl rfl (by omega)) ?_))))))))))))
 refine RG.p (PV.field rfl Fo173_1 rfl) (RG.p (PV.field rfl Fo95_2 rfl) (RG.p (PV.load1 rfl Sc2 rfl (Rd.blk rfl)) (RG.ml rfl (RG.p (PV.field rfl Fo173_5 rfl) (RG.p (PV.load1 rfl Sc2 rfl (Rd.blk rfl)) (RG.p (PV.mul rfl rfl rfl (by omega)) (RG.p (PV.add rfl rfl rfl (by omega)) (RG.p (PV.build (vs := [(0, [vi _]), (1, [vi _]), (2, [vi _])]) (out := [_, _, _]) rfl Zr95 Pl95 ⟨rfl, (Cl.c rfl), ⟨rfl, (Cl.c rfl), ⟨rfl, (Cl.c rfl), trivial⟩⟩⟩ rfl) ?_))))))))
 refine RG.ot rfl (OT.storeW (vs := [vi _, vi _, vi _]) rfl Sz95 rfl rfl (Cl.c rfl) rfl rfl (OneC.c rfl) ?_)
 refine RG.nil ?_
 exact WP.ret ⟨_, _, ResV.one rfl (RV1.cell rfl Ag95 rfl), Cv.p, k⟩
def okNs (ns : List Inst) : Prop := ns.length ≤ 8 ∧ ∃ kk, ∀ j, j < ns.length → okIn kk (gd ns j) = true
theorem okLib_ns {cs : List ECell} (h : okLib cs = true) {i : Nat} (hi : i < cs.length) : okNs (gd cs i).insts := ⟨(okLib_cnt h hi).1, i, fun j hj => okLib_inst h hi hj⟩
theorem elems_bd2 {ns : List Inst} (h : okNs ns) : ∀ i, i ≤ ns.length → (elems (ns.take i)).length ≤ 16 * i
 | 0, _ => by simp [elems]
 | i + 1, hi => by
  obtain ⟨h1, kk, h2⟩ := id h
  have ih := elems_bd2 h i (by omega)
  obtain ⟨_, _, h3, h4, _, _⟩ := okIn_bd (h2 i (by omega))
  have := Nat.mul_le_mul (show (gd ns i).rows.toNat ≤ 4 by omega) (show (gd ns i).cols.toNat ≤ 4 by omega)
  rw [elems_take (by omega), List.length_append, elsOf_len]; omega
def elTo (ns : List Inst) (i q : Nat) : List HElem := elems (ns.take i) ++ (elsOf (gd ns i)).take q
theorem elTo_zero (ns : List Inst) (i : Nat) : elems (ns.take i) = elTo ns i 0 := by simp [elTo]
theorem elTo_step {ns : List Inst} {i r q : Nat} (hq : q < (gd ns i).cols.toNat) (hr : r < (gd ns i).rows.toNat) : elTo ns i (r * (gd ns i).cols.toNat + q) ++ [⟨(gd ns i).cell, elPlace (gd ns i) q r⟩] = elTo ns i (r * (gd ns i).cols.toNat + (q + 1)) := by
 rw [elTo, elTo, elsOf_step hq hr, List.append_assoc]
theorem elTo_all {ns : List Inst} {i q : Nat} (hi : i < ns.length) (h : (gd ns i).rows.toNat * (gd ns i).cols.toNat ≤ q) : elTo ns i q = elems (ns.take (i + 1)) := by
 rw [elTo, elems_take hi, List.take_of_length_le (i := q) (by rw [elsOf_len]; exact h)]
theorem elTo_len {ns : List Inst} (h : okNs ns) {i q : Nat} (hi : i < ns.length) : (elTo ns i q).length ≤ 1000 := by
 have h1 := elems_bd2 h i (by omega)
 obtain ⟨h2, kk, h3⟩ := h
 obtain ⟨_, _, q3, q4, _, _⟩ := okIn_bd (h3 i hi)
 have hm := Nat.mul_le_mul (show (gd ns i).rows.toNat ≤ 4 by omega) (show (gd ns i).cols.toNat ≤ 4 by omega)
 rw [elTo, List.length_append, List.length_take, elsOf_len]; omega
theorem elems_i {c : Cell} (h3 : Rs G L instT c.insts.v c.insts.xs) (hok : okNs c.insts.xs) (k : ∀ v', R v' G (osl 108 helemT v' (elems c.insts.xs) :: L)) : CallT Tryz.prog 65 #[vT cellT c] G L R := by
 obtain ⟨h1, kk, h2⟩ := id hok
 refine CallT.enter (args := _) Tryz.func65 rfl rfl (by kernel_rfl) rfl ?_
 refine WP.sr ?_
 refine RG.ot rfl (OT.box (cs := cellT.enc c) rfl rfl rfl fun b1 => ?_)
 refine RG.p (PV.asg rfl rfl) (RG.nil (WP.sr ?_))
 refine RG.ot rfl (OT.bslice (F := helemT) (els := []) rfl El109 rfl (by decide) rfl (by decide) trivial fun v8 => ?_)
 refine RG.p (PV.asg (v := v8) rfl rfl) (RG.nil (WP.seq (WP.sr (RG.p (PV.field rfl Fo115_3 rfl) (RG.p (PV.load1 rfl Sc113 rfl (Rd.blk rfl)) (RG.p (PV.len rfl Tryz.underlying113 rfl (SlF.r h3)) (RG.ml rfl (RG.nil (WP.block ?_)))))))))
 refine WP.cv (Cv.eqS (ys := elems (c.insts.xs.take 0)) rfl) ?_
 refine WP.loop2 [10, 11] (fun (i : Nat) (v : Value) => i ≤ c.insts.xs.length) (fun (i : Nat) (v : Value) => [(12, vi i), (3, v)]) (fun (i : Nat) (v : Value) => osl 108 helemT v (elems (c.insts.xs.take i)) :: L) (fun (i : Nat) (v : Value) => c.insts.xs.length - i) 0 v8 (by omega) ⟨rfl, rfl, trivial⟩ Cv.p ?_
 rintro i v τ hi
 refine WP.sr (RG.p (PV.lss rfl rfl rfl) (RG.nil (WP.seq ?_)))
 have hel := elems_bd2 hok i hi
 refine WP.cond rfl (fun h4 => ?_) (fun h4 => ?_)
 ·have h4 := of_decide_eq_true h4
  have h5 : i < c.insts.xs.length := by omega
  obtain ⟨_, _, q3, q4, _, _⟩ := okIn_bd (h2 i h5)
  refine WP.skip (WP.seq (WP.block (WP.sr (RG.p (PV.idxS rfl Is113 rfl (SlF.r h3) rfl rfl (by omega)) (RG.p (PV.loadE rfl Ag173 rfl rfl (El.r h3 (getG (by omega)))) ?_)))))
  refine RG.ot rfl (OT.alloc rfl Zr173 fun b5 => ?_)
  refine RG.ot rfl (OT.storeW (vs := [vi _, vi _, vi _, vi _, vi _, vi _, vi _, vi _]) rfl Sz173 rfl rfl (Cl.c rfl) rfl rfl (OneC.c rfl) ?_)
  refine RG.nil (WP.sr (RG.p (PV.field rfl Fo173_3 rfl) (RG.p (PV.load1 rfl Sc2 rfl (Rd.blk rfl)) (RG.ml rfl (RG.nil (WP.block ?_))))))
  refine WP.cv ((Cv.p (C := osl 108 helemT v (elems (c.insts.xs.take i)) :: blk b5 173 (instT.enc (gd c.insts.xs i)) :: L)).trans (Cv.eqS (ys := elTo c.insts.xs i (0 * (gd c.insts.xs i).cols.toNat)) (by rw [Nat.zero_mul]; exact elTo_zero _ _))) ?_
  refine WP.loop2 [5, 10, 11, 12, 17] (fun (r : Nat) (v : Value) => r ≤ (gd c.insts.xs i).rows.toNat) (fun (r : Nat) (v : Value) => [(18, vi r), (3, v)]) (fun (r : Nat) (v : Value) => osl 108 helemT v (elTo c.insts.xs i (r * (gd c.insts.xs i).cols.toNat)) :: blk b5 173 (instT.enc (gd c.insts.xs i)) :: L) (fun (r : Nat) (v : Value) => (gd c.insts.xs i).rows.toNat - r) 0 v (by omega) ⟨rfl, rfl, trivial⟩ Cv.p ?_
  rintro r v τ hr
  refine WP.sr (RG.p (PV.lss rfl rfl rfl) (RG.nil (WP.seq ?_)))
  refine WP.cond rfl (fun h6 => ?_) (fun h6 => ?_)
  ·have h6 := of_decide_eq_true h6
   refine WP.skip (WP.seq (WP.block (WP.sr (RG.ml rfl (RG.mr rfl (RG.nil (WP.sr (RG.p (PV.field rfl Fo173_2 rfl) (RG.p (PV.load1 rfl Sc2 rfl (Rd.blk rfl)) (RG.ml rfl (RG.nil ?_)))))))))))
   refine WP.block ?_
   refine WP.cv (Cv.eqS (ys := elTo c.insts.xs i (r * (gd c.insts.xs i).cols.toNat + 0)) rfl) ?_
   refine WP.loop2 [5, 6, 10, 11, 12, 17, 18, 22] (fun (q : Nat) (v : Value) => q ≤ (gd c.insts.xs i).cols.toNat) (fun (q : Nat) (v : Value) => [(23, vi q), (3, v)]) (fun (q : Nat) (v : Value) => osl 108 helemT v (elTo c.insts.xs i (r * (gd c.insts.xs i).cols.toNat + q)) :: blk b5 173 (instT.enc (gd c.insts.xs i)) :: L) (fun (q : Nat) (v : Value) => (gd c.insts.xs i).cols.toNat - q) 0 v (by omega) ⟨rfl, rfl, trivial⟩ Cv.p ?_
   rintro q v τ hq
   refine WP.sr (RG.p (PV.lss rfl rfl rfl) (RG.nil (WP.seq ?_)))
   refine WP.cond rfl (fun h7 => ?_) (fun h7 => ?_)
   ·have h7 := of_decide_eq_true h7
    have hll := elTo_len hok (i := i) (q := r * (gd c.insts.xs i).cols.toNat + q) h5
    refine WP.skip (WP.seq (WP.block (WP.sr (RG.ml rfl (RG.mr rfl (RG.nil ?_))))))
    refine WP.regionHD [.s v] (.q 0 (.q 1 (.q 2 (.q 3 (.q 4 (.q 5 (.l 6 (.q 7 (.l 8 (.l 9 (.q 10 Sch.nil))))))))))) (by kernel_rfl) (by kernel_rfl) (by kernel_rfl) rfl ?_
    refine RH.w rfl rfl (PV.move (v := v) rfl rfl) (RH.w rfl rfl (PV.field rfl Fo173_0 rfl) (RH.w rfl rfl (PV.load1 rfl Sc2 rfl (Rd.blk rfl)) (RH.w rfl rfl (PV.loadW rfl Ag173 rfl rfl) (RH.w rfl rfl (PV.mvI (.inl rfl) rfl) (RH.w rfl rfl (PV.mvI (.inl rfl) rfl) ?_)))))
    refine RH.ot rfl rfl (OT.callF (vs := [_, _, _]) rfl En128 rfl (elPlace_i (h2 i (by omega)) (by omega) (by omega) ⟨Gh.le_refl _, PickC.pick, ?_⟩))
    refine RH.w rfl rfl (PV.build (vs := [(0, [vi _]), (1, [vi _, vi _, vi _])]) (out := [_, _, _, _]) rfl Zr108 Pl108 ⟨rfl, (Cl.c rfl), ⟨rfl, (Cl.c rfl), trivial⟩⟩ rfl) ?_
    refine RH.ot rfl rfl (OT.bslice (F := helemT) (els := [⟨_, _⟩]) rfl El109 rfl (by decide) rfl (by decide) ⟨rfl, (Cl.c rfl), trivial⟩ fun v34 => ⟨Gh.le_refl _, PickC.pick, ?_⟩)
    refine RH.ot rfl rfl (OT.append (v := v) (u := v34) (F := helemT) rfl El109 rfl (by decide) rfl rfl Rs.o (OneL.c (fun _ => rfl)) rfl (by first | omega | (simp <;> omega)) fun v35 => ⟨Gh.le_refl _, PickC.pick, ?_⟩)
    refine RH.w rfl rfl (PV.asg (v := v35) rfl rfl) ?_
    refine RH.nil ?_
    refine WP.region (RG.p (PV.add rfl rfl rfl (by omega)) (RG.ml rfl (RG.nil ?_)))
    exact ⟨rfl, q + 1, v35, (by omega), ⟨rfl, rfl, trivial⟩, ⟨rfl, rfl, rfl, rfl, rfl, rfl, rfl, rfl, trivial⟩, ((Cv.p (C := osl 108 helemT v35 (elTo c.insts.xs i (r * (gd c.insts.xs i).cols.toNat + q) ++ [⟨(gd c.insts.xs i).cell, ⟨(gd c.insts.xs i).place.o, (gd c.insts.xs i).place.x + (q : Int) * (gd c.insts.xs i).sx, (gd c.insts.xs i).place.y + (r : Int) * (gd c.insts.xs i).sy⟩⟩]) :: blk b5 173 (instT.enc (gd c.insts.xs i)) :: L)).trans (Cv.eqS (elTo_step (ns := c.insts.xs) (i := i) (r := r) (q := q) (by omega) (by omega)))), by omega⟩
   ·have h7 := of_decide_eq_false h7
    have e : r * (gd c.insts.xs i).cols.toNat + q = (r + 1) * (gd c.insts.xs i).cols.toNat := by rw [Nat.add_mul]; omega
    refine WP.exit ?_
    refine WP.region (RG.p (PV.add rfl rfl rfl (by omega)) (RG.ml rfl (RG.nil ?_)))
    exact ⟨rfl, r + 1, v, (by omega), ⟨rfl, rfl, trivial⟩, ⟨rfl, rfl, rfl, rfl, rfl, trivial⟩, (Cv.eqS (by rw [e])), by omega⟩
  ·have h6 := of_decide_eq_false h6
   refine WP.exit ?_
   refine WP.region (RG.p (PV.add rfl rfl rfl (by omega)) (RG.ml rfl (RG.nil ?_)))
   exact ⟨rfl, i + 1, v, (by omega), ⟨rfl, rfl, trivial⟩, ⟨rfl, rfl, trivial⟩, ((Cv.eqS (ys := elems (c.insts.xs.take (i + 1))) (elTo_all h5 (Nat.mul_le_mul_right _ (by omega)))).trans Cv.p), by omega⟩
 ·have h4 := of_decide_eq_false h4
  have e : c.insts.xs.take i = c.insts.xs := List.take_of_length_le (by omega)
  rw [e]
  refine WP.exit ?_
  refine WP.sr (RG.p (PV.move (v := v) rfl rfl) (RG.p (PV.asg (v := v) rfl rfl) (RG.nil ?_)))
  exact WP.ret ⟨_, _, ResV.one rfl rfl, Cv.p, k v⟩
theorem l10Point_r {t : Trans} {p : Pt} (ht : TBig t) (hp : InB 1000 p) (k : R (vpt (moveP t p)) G L) : CallT Tryz.prog 216 #[vtrans t, vpt p] G L R := by
 have hf : InB 1000 (flip t.o p) := flip_in hp
 obtain ⟨hq1, hq2, hq3, hq4⟩ : InB 1000 (turnP t.o p) := turnP_in hp
 obtain ⟨hp1, hp2, hp3, hp4⟩ := hp
 obtain ⟨ho, ht1, ht2, ht3, ht4⟩ := ht
 refine CallT.enter (args := _) Tryz.func216 rfl rfl (by kernel_rfl) rfl ?_
 refine WP.sr ?_
 refine RG.ot rfl (OT.box (cs := transT.enc t) rfl rfl rfl fun b2 => ?_)
 refine RG.ot rfl (OT.box (cs := ptT.enc p) rfl rfl rfl fun b3 => ?_)
 refine RG.ot rfl (OT.alloc rfl Zr189 fun b4 => ?_)
 refine RG.nil (WP.sr (RG.p (PV.field rfl Fo189_0 rfl) (RG.p (PV.load1 rfl Sc2 rfl (Rd.blk rfl)) (RG.mr rfl (RG.nil (WP.sr (RG.p (PV.field rfl Fo189_1 rfl) (RG.p (PV.load1 rfl Sc2 rfl (Rd.blk rfl)) (RG.mr rfl (RG.nil ?_))))))))))
 refine WP.cut1 [2, 4] (fun (q : Pt) => q = flip t.o p) (fun (q : Pt) => [(5, vi q.x), (6, vi q.y)]) (fun (q : Pt) => blk b2 95 (transT.enc t) :: blk b4 189 [vi 0, vi 0] :: L) ?_ ?_
 refine WP.sr (RG.p (PV.field rfl Fo95_0 rfl) (RG.p (PV.load1 rfl Sc2 rfl (Rd.blk rfl)) (RG.p (PV.geq rfl rfl rfl) (RG.nil ?_))))
 refine WP.cond rfl (fun h1 => ?_) (fun h1 => ?_)
 ·have h1 := of_decide_eq_true h1
  refine WP.region (RG.ml rfl (RG.p (PV.neg rfl rfl (by omega)) (RG.mr rfl (RG.nil ?_))))
  exact ⟨rfl, (⟨p.x, -p.y⟩ : Pt), (by rw [flip, if_pos (by omega)]), ⟨rfl, rfl, trivial⟩, ⟨rfl, rfl, trivial⟩, Cv.p⟩
 ·have h1 := of_decide_eq_false h1
  refine WP.skip ?_
  exact ⟨rfl, p, (by rw [flip, if_neg (by omega)]), ⟨rfl, rfl, trivial⟩, ⟨rfl, rfl, trivial⟩, Cv.p⟩
 rintro q τ1 hq
 refine WP.seq (WP.sr (RG.p (PV.field rfl Fo95_0 rfl) (RG.p (PV.load1 rfl Sc2 rfl (Rd.blk rfl)) (RG.p (PV.rem rfl rfl rfl (by omega) (by omega) (by omega)) (RG.mr rfl (RG.nil (WP.block ?_)))))))
 subst hq
 refine WP.loop2 [2, 4] (fun (n : Int) (q : Pt) => (0 ≤ n ∧ n < 4) ∧ rot n.toNat q = turnP t.o p ∧ InB 1000 q) (fun (n : Int) (q : Pt) => [(7, vi n), (5, vi q.x), (6, vi q.y)]) (fun (n : Int) (q : Pt) => blk b2 95 (transT.enc t) :: blk b4 189 [vi 0, vi 0] :: L) (fun (n : Int) (q : Pt) => n.toNat) (t.o % 4) (flip t.o p) ⟨by omega, rfl, hf⟩ ⟨rfl, rfl, rfl, trivial⟩ Cv.p ?_
 rintro n q τ ⟨hn, hr, hi1, hi2, hi3, hi4⟩
 refine WP.seq (WP.sr (RG.ml rfl (RG.p (PV.gtr rfl rfl rfl) (RG.nil ?_))))
 refine WP.cond rfl (fun h2 => ?_) (fun h2 => ?_)
 ·have h2 := of_decide_eq_true h2
  refine WP.skip (WP.seq (WP.block (WP.region (RG.ml rfl (RG.p (PV.neg rfl rfl (by omega)) (RG.ml rfl (RG.mr rfl (RG.mr rfl (RG.nil (WP.region (RG.ml rfl (RG.p (PV.sub rfl rfl rfl (by omega)) (RG.mr rfl ?_)))))))))))))
  refine RG.nil ?_
  refine ⟨rfl, n - 1, ⟨-q.y, q.x⟩, ⟨by omega, ?_, by simp only; omega, by simp only; omega, hi1, hi2⟩, ⟨rfl, rfl, rfl, trivial⟩, ⟨rfl, rfl, trivial⟩, Cv.p, by omega⟩
  rw [← hr, show n.toNat = (n - 1).toNat + 1 by omega]; rfl
 ·have h2 := of_decide_eq_false h2
  have e : turnP t.o p = q := by rw [← hr, show n.toNat = 0 by omega]; rfl
  rw [moveP, e] at k
  refine WP.exit ?_
  refine WP.sr (RG.ml rfl (RG.p (PV.field rfl Fo95_1 rfl) (RG.p (PV.load1 rfl Sc2 rfl (Rd.blk rfl)) (RG.p (PV.add rfl rfl rfl (by omega)) (RG.ml rfl (RG.p (PV.field rfl Fo95_2 rfl) (RG.p (PV.load1 rfl Sc2 rfl (Rd.blk rfl)) (RG.p (PV.add rfl rfl rfl (by omega)) (RG.p (PV.build (vs := [(0, [vi _]), (1, [vi _])]) (out := [_, _]) rfl Zr189 Pl189 ⟨rfl, (Cl.c rfl), ⟨rfl, (Cl.c rfl), trivial⟩⟩ rfl) ?_)))))))))
  refine RG.ot rfl (OT.storeW (vs := [vi _, vi _]) rfl Sz189 rfl rfl (Cl.c rfl) rfl rfl (OneC.c rfl) ?_)
  refine RG.nil ?_
  exact WP.ret ⟨_, _, ResV.one rfl (RV1.cell rfl Ag189 rfl), Cv.p, k⟩
theorem l10Rect_r {t : Trans} {r : Rect} (ht : TBig t) (hr : RIn 40 r) (k : R (vrect (moveR t r)) G L) : CallT Tryz.prog 142 #[vtrans t, vrect r] G L R := by
 refine CallT.enter (args := _) Tryz.func142 rfl rfl (by kernel_rfl) rfl ?_
 refine WP.sr ?_
 refine RG.ot rfl (OT.box (cs := transT.enc t) rfl rfl rfl fun b2 => ?_)
 refine RG.ot rfl (OT.box (cs := rectT.enc r) rfl rfl rfl fun b3 => ?_)
 refine RG.ot rfl (OT.alloc rfl Zr91 fun b4 => ?_)
 refine RG.nil (WP.sr (RG.p (PV.loadW rfl Ag95 rfl rfl) (RG.p (PV.field rfl Fo91_0 rfl) (RG.p (PV.load1 rfl Sc2 rfl (Rd.blk rfl)) (RG.p (PV.field rfl Fo91_1 rfl) (RG.p (PV.load1 rfl Sc2 rfl (Rd.blk rfl)) (RG.p (PV.build (vs := [(0, [vi _]), (1, [vi _])]) (out := [_, _]) rfl Zr189 Pl189 ⟨rfl, (Cl.c rfl), ⟨rfl, (Cl.c rfl), trivial⟩⟩ rfl) ?_)))))))
 refine RG.callF (vs := [_, _]) rfl rfl En216 rfl (l10Point_r (p := ⟨_, _⟩) ht (by first | exact (RIn_pts hr).1 | exact (RIn_pts hr).2) ?_)
 refine RG.ot rfl (OT.alloc rfl Zr189 fun b5 => ?_)
 refine RG.ot rfl (OT.storeW (vs := [vi _, vi _]) rfl Sz189 rfl rfl (Cl.c rfl) rfl rfl (OneC.c rfl) ?_)
 refine RG.nil (WP.sr (RG.p (PV.loadW rfl Ag95 rfl rfl) (RG.p (PV.field rfl Fo91_2 rfl) (RG.p (PV.load1 rfl Sc2 rfl (Rd.blk rfl)) (RG.p (PV.field rfl Fo91_3 rfl) (RG.p (PV.load1 rfl Sc2 rfl (Rd.blk rfl)) (RG.p (PV.build (vs := [(0, [vi _]), (1, [vi _])]) (out := [_, _]) rfl Zr189 Pl189 ⟨rfl, (Cl.c rfl), ⟨rfl, (Cl.c rfl), trivial⟩⟩ rfl) ?_)))))))
 refine RG.callF (vs := [_, _]) rfl rfl En216 rfl (l10Point_r (p := ⟨_, _⟩) ht (by first | exact (RIn_pts hr).1 | exact (RIn_pts hr).2) ?_)
 refine RG.ot rfl (OT.alloc rfl Zr189 fun b6 => ?_)
 refine RG.ot rfl (OT.storeW (vs := [vi _, vi _]) rfl Sz189 rfl rfl (Cl.c rfl) rfl rfl (OneC.c rfl) ?_)
 refine RG.nil (WP.sr (RG.p (PV.field rfl Fo189_0 rfl) (RG.p (PV.load1 rfl Sc2 rfl (Rd.blk rfl)) (RG.p (PV.field rfl Fo189_0 rfl) (RG.p (PV.load1 rfl Sc2 rfl (Rd.blk rfl)) (RG.p (PV.min2 rfl rfl rfl) (RG.p (PV.field rfl Fo189_1 rfl) (RG.p (PV.load1 rfl Sc2 rfl (Rd.blk rfl)) (RG.p (PV.field rfl Fo189_1 rfl) (RG.p (PV.load1 rfl Sc2 rfl (Rd.blk rfl)) (RG.p (PV.min2 rfl rfl rfl) (RG.p (PV.field rfl Fo189_0 rfl) ?_))))))))))))
 refine RG.p (PV.load1 rfl Sc2 rfl (Rd.blk rfl)) (RG.p (PV.field rfl Fo189_0 rfl) (RG.p (PV.load1 rfl Sc2 rfl (Rd.blk rfl)) (RG.p (PV.max2 rfl rfl rfl) (RG.p (PV.field rfl Fo189_1 rfl) (RG.p (PV.load1 rfl Sc2 rfl (Rd.blk rfl)) (RG.p (PV.field rfl Fo189_1 rfl) (RG.p (PV.load1 rfl Sc2 rfl (Rd.blk rfl)) (RG.p (PV.max2 rfl rfl rfl) (RG.p (PV.build (vs := [(0, [vi _]), (1, [vi _]), (2, [vi _]), (3, [vi _])]) (out := [_, _, _, _]) rfl Zr91 Pl91 ⟨rfl, (Cl.c rfl), ⟨rfl, (Cl.c rfl), ⟨rfl, (Cl.c rfl), ⟨rfl, (Cl.c rfl), trivial⟩⟩⟩⟩ rfl) ?_)))))))))
 refine RG.ot rfl (OT.storeW (vs := [vi _, vi _, vi _, vi _]) rfl Sz91 rfl rfl (Cl.c rfl) rfl rfl (OneC.c rfl) ?_)
 refine RG.nil ?_
 exact WP.ret ⟨_, _, ResV.one rfl (RV1.cell rfl Ag91 rfl), Cv.p, k⟩
theorem l10After_r {t u : Trans} (ho : 0 ≤ t.o ∧ t.o ≤ 7) (ht : (-1000 ≤ t.x ∧ t.x ≤ 1000) ∧ -1000 ≤ t.y ∧ t.y ≤ 1000) (hu : TBig u) (k : R (vtrans (cmpT t u)) G L) : CallT Tryz.prog 198 #[vtrans u, vtrans t] G L R := by
 obtain ⟨hu1, _⟩ := id hu
 refine CallT.enter (args := _) Tryz.func198 rfl rfl (by kernel_rfl) rfl ?_
 refine WP.sr ?_
 refine RG.ot rfl (OT.box (cs := transT.enc u) rfl rfl rfl fun b2 => ?_)
 refine RG.ot rfl (OT.box (cs := transT.enc t) rfl rfl rfl fun b3 => ?_)
 refine RG.ot rfl (OT.alloc rfl Zr95 fun b4 => ?_)
 refine RG.nil (WP.sr (RG.p (PV.field rfl Fo95_0 rfl) (RG.p (PV.load1 rfl Sc2 rfl (Rd.blk rfl)) (RG.p (PV.rem rfl rfl rfl (by omega) (by omega) (by omega)) (RG.mr rfl (RG.nil (WP.sr (RG.p (PV.field rfl Fo95_0 rfl) (RG.p (PV.load1 rfl Sc2 rfl (Rd.blk rfl)) (RG.p (PV.quo rfl rfl rfl (by omega) (by omega) (by omega)) (RG.mr rfl ?_)))))))))))
 refine RG.nil ?_
 refine WP.cut2 [2, 3, 4] (fun (a b : Int) => a = (if 4 ≤ u.o then -(t.o % 4) else t.o % 4) ∧ b = (if 4 ≤ u.o then 1 - t.o / 4 else t.o / 4)) (fun (a b : Int) => [(5, vi a), (6, vi b)]) (fun (a b : Int) => blk b2 95 (transT.enc u) :: blk b3 95 (transT.enc t) :: blk b4 95 [vi 0, vi 0, vi 0] :: L) ?_ ?_
 refine WP.sr (RG.p (PV.field rfl Fo95_0 rfl) (RG.p (PV.load1 rfl Sc2 rfl (Rd.blk rfl)) (RG.p (PV.geq rfl rfl rfl) (RG.nil ?_))))
 refine WP.cond rfl (fun h1 => ?_) (fun h1 => ?_)
 ·have h1 := of_decide_eq_true h1
  refine WP.sr (RG.ml rfl (RG.p (PV.neg rfl rfl (by omega)) (RG.mr rfl (RG.nil (WP.region (RG.ml rfl (RG.p (PV.sub rfl rfl rfl (by omega)) (RG.mr rfl (RG.nil ?_)))))))))
  exact ⟨rfl, (-(t.o % 4)), (1 - t.o / 4), ⟨by rw [if_pos (by omega)], by rw [if_pos (by omega)]⟩, ⟨rfl, rfl, trivial⟩, ⟨rfl, rfl, rfl, trivial⟩, Cv.p⟩
 ·have h1 := of_decide_eq_false h1
  refine WP.skip ?_
  exact ⟨rfl, (t.o % 4), (t.o / 4), ⟨by rw [if_neg (by omega)], by rw [if_neg (by omega)]⟩, ⟨rfl, rfl, trivial⟩, ⟨rfl, rfl, rfl, trivial⟩, Cv.p⟩
 rintro a b τ1 ⟨ha, hb⟩
 have hab : (-3 ≤ a ∧ a ≤ 3) ∧ 0 ≤ b ∧ b ≤ 1 := by rw [ha, hb]; split <;> omega
 have e : cmpo t.o u.o = (u.o % 4 + a + 4) % 4 + 4 * b := by rw [cmpo_r ho hu1, ← ha, ← hb]
 rw [cmpT, e] at k
 refine WP.sr (RG.p (PV.loadW rfl Ag95 rfl rfl) (RG.p (PV.field rfl Fo95_1 rfl) (RG.p (PV.load1 rfl Sc2 rfl (Rd.blk rfl)) (RG.p (PV.field rfl Fo95_2 rfl) (RG.p (PV.load1 rfl Sc2 rfl (Rd.blk rfl)) (RG.p (PV.build (vs := [(0, [vi _]), (1, [vi _])]) (out := [_, _]) rfl Zr189 Pl189 ⟨rfl, (Cl.c rfl), ⟨rfl, (Cl.c rfl), trivial⟩⟩ rfl) ?_))))))
 refine RG.callF (vs := [_, _]) rfl rfl En216 rfl (l10Point_r (p := ⟨_, _⟩) hu (pt_in ht) ?_)
 refine RG.ot rfl (OT.alloc rfl Zr189 fun b7 => ?_)
 refine RG.ot rfl (OT.storeW (vs := [vi _, vi _]) rfl Sz189 rfl rfl (Cl.c rfl) rfl rfl (OneC.c rfl) ?_)
 refine RG.nil (WP.sr (RG.p (PV.field rfl Fo95_0 rfl) (RG.p (PV.load1 rfl Sc2 rfl (Rd.blk rfl)) (RG.p (PV.rem rfl rfl rfl (by omega) (by omega) (by omega)) (RG.ml rfl (RG.p (PV.add rfl rfl rfl (by omega)) (RG.p (PV.add rfl rfl rfl (by omega)) (RG.p (PV.rem rfl rfl rfl (by omega) (by omega) (by omega)) (RG.ml rfl (RG.p (PV.mul rfl rfl rfl (by omega)) (RG.p (PV.add rfl rfl rfl (by omega)) (RG.p (PV.field rfl Fo189_0 rfl) ?_))))))))))))
 refine RG.p (PV.load1 rfl Sc2 rfl (Rd.blk rfl)) (RG.p (PV.field rfl Fo189_1 rfl) (RG.p (PV.load1 rfl Sc2 rfl (Rd.blk rfl)) (RG.p (PV.build (vs := [(0, [vi _]), (1, [vi _]), (2, [vi _])]) (out := [_, _, _]) rfl Zr95 Pl95 ⟨rfl, (Cl.c rfl), ⟨rfl, (Cl.c rfl), ⟨rfl, (Cl.c rfl), trivial⟩⟩⟩ rfl) ?_)))
 refine RG.ot rfl (OT.storeW (vs := [vi _, vi _, vi _]) rfl Sz95 rfl rfl (Cl.c rfl) rfl rfl (OneC.c rfl) ?_)
 refine RG.nil ?_
 exact WP.ret ⟨_, _, ResV.one rfl (RV1.cell rfl Ag95 rfl), Cv.p, k⟩
end Go.Proofs.YtgphjofccckloaaGreat
namespace Go.Proofs.YtgphjofccckloaaGreat
open Go
set_option maxRecDepth 20000
variable {G : Gh} {L : List Ch} {R : Value → Gh → List Ch → Prop}
def pths (xs : List Occ) : List (Sl Int) := xs.map Occ.path
theorem pths_gd {xs : List Occ} {i : Nat} (h : i < xs.length) : gd (pths xs) i = (gd xs i).path := gd_map _ h
theorem RsE.path {xs : List Occ} (h : RsE G L intT (pths xs)) {i : Nat} (hi : i < xs.length) : Rs G L intT (gd xs i).path.v (gd xs i).path.xs := by
 have := h i (by simpa [pths] using hi); rwa [pths_gd hi] at this
theorem clone_path {v : Value} {xs : List (Int)} (h1 : Rs G L intT v xs) (hb : xs.length ≤ 1048576) (k : ∀ v', R v' G (osl 2 intT v' xs :: L)) : CallT Tryz.prog 253 #[v] G L R := by
 refine CallT.st (fun w hs => isNilS_nil h1 hs) fun hn => ?_
 refine CallT.enter (args := _) Tryz.func253 rfl rfl (by kernel_rfl) rfl ?_
 refine WP.sr (RG.p (PV.asg rfl rfl) (RG.nil (WP.seq (WP.sr (RG.p (PV.move (v := v) rfl rfl) (RG.p (PV.eqlNil rfl Tryz.underlying30 rfl (SlF.r h1)) (RG.nil ?_)))))))
 refine WP.cond rfl (fun h2 => ?_) (fun h2 => ?_)
 ·have e := hn h2
  rw [e] at k
  refine WP.sr (RG.p (PV.asg rfl rfl) (RG.nil ?_))
  exact WP.ret ⟨_, _, ResV.one rfl rfl, Cv.nilS, k _⟩
 ·refine WP.skip ?_
  refine WP.sr ?_
  refine RG.ot rfl (OT.bslice (F := intT) (els := []) rfl El30 rfl (by decide) rfl (by decide) trivial fun v5 => ?_)
  refine RG.p (PV.move (v := v) rfl rfl) ?_
  refine RG.ot rfl (OT.append (v := v5) (u := v) (F := intT) rfl El30 rfl (by decide) rfl rfl (Rs.up h1) (OneL.c (fun _ => rfl)) rfl (by first | omega | (simp <;> omega)) fun v7 => ?_)
  refine RG.p (PV.asg (v := v7) rfl rfl) (RG.nil ?_)
  exact WP.ret ⟨_, _, ResV.one rfl rfl, (Cv.eqS (List.nil_append _)), k v7⟩
theorem oIn_big {f : Nat} {o : EOcc} (h : oIn f o) : TBig o.place := by
 obtain ⟨h1, h2, h3, h4⟩ := h
 exact ⟨h2, by omega, by omega, by omega, by omega⟩
theorem Cv.addOcc {e : TypeId} {u : Value} {us : List Int} {zs zs' : List Occ} (h : pths zs' = pths zs ++ [⟨u, us⟩]) : Cv (osl e intT u us :: bagS e intT (pths zs) :: L) (bagS e intT (pths zs') :: L) := Cv.grow h
structure OccBelow (cs : List ECell) (f : Nat) (o : Occ) (ys : List Occ) (m : Nat) (zs : List Occ) : Prop where
  len : zs.length = ys.length + (occTo cs f (erO o) m).length
  er : erOs zs = erOs ys ++ occTo cs f (erO o) m
  at_ : ys.length < zs.length ∧ gd zs ys.length = o
  pre : ∃ r, zs = ys ++ r
theorem OccBelow.init {cs : List ECell} {f : Nat} {o : Occ} {ys : List Occ} : OccBelow cs f o ys 0 (ys ++ [o]) :=
 ⟨by simp [occTo_zero], by simp [erOs, occTo_zero], ⟨by simp, gd_app_r⟩, ⟨[o], rfl⟩⟩
theorem OccBelow.next {cs : List ECell} {f : Nat} {o : Occ} {ys zs zs' : List Occ} {m : Nat} (h : OccBelow cs f o ys m zs) (hp : ∃ r, zs' = zs ++ r) (he : erOs zs' = erOs zs ++ occF cs f (kid (erO o) (gd (elems (gd cs o.cell.toNat).insts) m) m)) : OccBelow cs f o ys (m + 1) zs' := by
 obtain ⟨r, rfl⟩ := hp
 obtain ⟨r0, hr0⟩ := h.pre
 have e : erOs (zs ++ r) = erOs ys ++ occTo cs f (erO o) (m + 1) := by rw [he, h.er, occTo_succ, List.append_assoc]; rfl
 refine ⟨?_, e, ⟨by have := h.at_.1; simp only [List.length_append]; omega, by rw [gd_app_l h.at_.1]; exact h.at_.2⟩, ⟨r0 ++ r, by rw [hr0, List.append_assoc]⟩⟩
 have := congrArg List.length e
 rw [List.length_append, erOs_len, erOs_len] at this
 exact this
theorem OccBelow.rd {cs : List ECell} {f : Nat} {o : Occ} {ys zs : List Occ} {m : Nat} (h : OccBelow cs f o ys m zs) (hd : RsE G L intT (pths zs)) : Rs G L intT o.path.v o.path.xs := by
 have := hd.path h.at_.1; rwa [h.at_.2] at this
theorem below_i : ∀ (f : Nat) {G : Gh} {L : List Ch} {R : Value → Gh → List Ch → Prop} {l : Lib} {o : Occ} {v : Value} {ys : List Occ} (_ : RLib G L l.cells.v l.cells.xs) (_ : okLib (erCls l.cells.xs) = true) (_ : oIn f (erO o)) (_ : o.cell.toNat < l.cells.xs.length) (_ : o.path.xs.length + f ≤ 100) (_ : ys.length + (occF (erCls l.cells.xs) f (erO o)).length ≤ 1000)
  (_ : ∀ v' zs, (∃ r, zs = ys ++ r) → erOs zs = erOs ys ++ occF (erCls l.cells.xs) f (erO o) → R v' G (osl 97 occT v' zs :: bagS 2 intT (pths zs) :: L)), CallT Tryz.prog 204 #[vT libT l, v, vT occT o] G (osl 97 occT v ys :: bagS 2 intT (pths ys) :: osl 2 intT o.path.v o.path.xs :: L) R := by
 intro f
 induction f with
 | zero => intro G L R l o v ys _ _ hin; exact absurd hin.1 (by simp only [erO]; omega)
 | succ f ih =>
  intro G L R l o v ys hL hok hin hcl hpl htl k
  have hE := erCls_len l.cells.xs
  have hbig := oIn_big hin
  have hi1 := hin.1
  have hinc : (0 : Int) ≤ o.cell ∧ o.cell < (f : Int) + 1 := by have := hin.1; simp only [erO] at this; omega
  have hce : (gd (erCls l.cells.xs) o.cell.toNat).insts = (gd l.cells.xs o.cell.toNat).insts.xs := erCl_insts hcl
  have hns : okNs (gd l.cells.xs o.cell.toNat).insts.xs := by rw [← hce]; exact okLib_ns hok (by omega)
  have hEl : (elems (gd l.cells.xs o.cell.toNat).insts.xs).length ≤ 128 := by rw [← hce]; exact elems_len_bd hok (by omega)
  have hol : 1 ≤ (occF (erCls l.cells.xs) (f + 1) (erO o)).length := by rw [occF, List.length_cons]; omega
  refine CallT.enter (args := _) Tryz.func204 rfl rfl (by kernel_rfl) rfl ?_
  refine WP.sr ?_
  refine RG.ot rfl (OT.box (cs := libT.enc l) rfl rfl rfl fun b3 => ?_)
  refine RG.ot rfl (OT.box (cs := occT.enc o) rfl rfl rfl fun b5 => ?_)
  refine RG.p (PV.asg rfl rfl) (RG.nil (WP.sr (RG.p (PV.move (v := v) rfl rfl) (RG.p (PV.loadW rfl Ag97 rfl rfl) ?_))))
  refine RG.ot rfl (OT.bslice (F := occT) (els := [_]) rfl El164 rfl (by decide) rfl (by decide) ⟨rfl, (Cl.c rfl), trivial⟩ fun v12 => ?_)
  refine RG.ot rfl (OT.append (v := v) (u := v12) (F := occT) rfl El164 rfl (by decide) rfl rfl Rs.o (OneL.one (a := o) (OneC.val rfl (OneC.val rfl (OneC.val rfl (OneC.val rfl (OneC.sl SlF.o OneC.nil)))))) rfl (by first | omega | (simp <;> omega)) fun v13 => ?_)
  refine RG.p (PV.asg (v := v13) rfl rfl) (RG.nil (WP.seq (WP.sr (RG.p (PV.field rfl Fo35_0 rfl) (RG.p (PV.load1 rfl Sc33 rfl (Rd.blk rfl)) (RG.p (PV.field rfl Fo97_0 rfl) (RG.p (PV.load1 rfl Sc2 rfl (Rd.blk rfl)) (RG.p (PV.idxS (j := o.cell.toNat) rfl Is33 rfl (SlF.r hL.c) rfl (by omega) (by omega)) (RG.p (PV.loadE rfl Ag115 rfl rfl (El.r hL.c (getG (by omega)))) ?_)))))))))
  refine RG.callF (vs := [_]) rfl rfl En65 rfl (elems_i (hL.na (by omega)).up hns (fun v20 => ?_))
  refine RG.p (PV.len (v := v20) rfl Tryz.underlying109 rfl SlF.o) (RG.ml rfl (RG.nil (WP.block ?_)))
  refine WP.cv ((Cv.p (C := osl 2 intT o.path.v o.path.xs :: bagS 2 intT (pths ys) :: osl 97 occT v13 (ys ++ [o]) :: osl 108 helemT v20 (elems (gd l.cells.xs o.cell.toNat).insts.xs) :: blk b3 35 (libT.enc l) :: blk b5 97 (occT.enc o) :: L)).trans (Cv.addOcc (zs' := ys ++ [o]) (by simp [pths]))) ?_
  refine WP.loop3 [3, 5, 20, 21] (fun (m : Nat) (vo : Value) (zs : List Occ) => m ≤ (elems (gd l.cells.xs o.cell.toNat).insts.xs).length ∧ OccBelow (erCls l.cells.xs) f o ys m zs) (fun (m : Nat) (vo : Value) (zs : List Occ) => [(22, vi m), (1, vo)]) (fun (m : Nat) (vo : Value) (zs : List Occ) => osl 97 occT vo zs :: bagS 2 intT (pths zs) :: osl 108 helemT v20 (elems (gd l.cells.xs o.cell.toNat).insts.xs) :: blk b3 35 (libT.enc l) :: blk b5 97 (occT.enc o) :: L) (fun (m : Nat) (vo : Value) (zs : List Occ) => (elems (gd l.cells.xs o.cell.toNat).insts.xs).length - m) 0 v13 (ys ++ [o]) ⟨by omega, OccBelow.init⟩ ⟨rfl, rfl, trivial⟩ Cv.p ?_
  rintro m vo zs τ ⟨hm, hB⟩
  refine WP.sr (RG.p (PV.lss rfl rfl rfl) (RG.nil (WP.seq ?_)))
  refine WP.cond rfl (fun h1 => ?_) (fun h1 => ?_)
  ·have h1 := of_decide_eq_true h1
   have h2 : m < (elems (gd l.cells.xs o.cell.toNat).insts.xs).length := by omega
   have h2' : m < (elems (gd (erCls l.cells.xs) o.cell.toNat).insts).length := by rw [hce]; exact h2
   have hb := elem_bd hok (k := o.cell.toNat) (by omega) h2'
   have hke := kid_in hok hin (by simp only [erO]; omega) h2'
   have hle := occTo_le (cs := erCls l.cells.xs) (f := f) (o := erO o) (i := m + 1) h2'
   rw [occTo_succ, List.length_append] at hle
   have hlen := hB.len
   simp only [erO] at hke hle hlen htl
   rw [hce] at hb hke hle
   have hb1 := hb.2.1
   have hb2 : (-1000 ≤ (gd (elems (gd l.cells.xs o.cell.toNat).insts.xs) m).place.x ∧ (gd (elems (gd l.cells.xs o.cell.toNat).insts.xs) m).place.x ≤ 1000) ∧ -1000 ≤ (gd (elems (gd l.cells.xs o.cell.toNat).insts.xs) m).place.y ∧ (gd (elems (gd l.cells.xs o.cell.toNat).insts.xs) m).place.y ≤ 1000 := by omega
   refine WP.skip (WP.seq (WP.block (WP.sr (RG.ml rfl (RG.p (PV.idxS (v := v20) rfl Is109 rfl SlF.o rfl rfl (by omega)) (RG.p (PV.loadE rfl Ag108 rfl rfl (El.o (getG (by omega)))) ?_))))))
   refine RG.ot rfl (OT.alloc rfl Zr108 fun b8 => ?_)
   refine RG.mr rfl ?_
   refine RG.ot rfl (OT.storeW (vs := [vi _, vi _, vi _, vi _]) rfl Sz108 rfl rfl (Cl.c rfl) rfl rfl (OneC.c rfl) ?_)
   refine RG.nil (WP.sr (RG.p (PV.field rfl Fo97_2 rfl) (RG.p (PV.load1 rfl Sc30 rfl (Rd.blk rfl)) ?_)))
   refine RG.callF (vs := [_]) rfl rfl En253 rfl (clone_path (OccBelow.rd hB RsE.o) (by omega) (fun v29 => ?_))
   refine RG.ml rfl ?_
   refine RG.ot rfl (OT.bslice (F := intT) (els := [_]) rfl El30 rfl (by decide) rfl (by decide) ⟨rfl, (Cl.c rfl), trivial⟩ fun v31 => ?_)
   refine RG.ot rfl (OT.append (v := v29) (u := v31) (F := intT) rfl El30 rfl (by decide) rfl rfl Rs.o (OneL.c (fun _ => rfl)) rfl (by first | omega | (simp <;> omega)) fun v32 => ?_)
   refine RG.p (PV.asg (v := v32) rfl rfl) (RG.nil ?_)
   refine WP.regionH (blk b3 35 (libT.enc l) :: blk b5 97 (occT.enc o) :: blk b8 108 (helemT.enc (gd (elems (gd l.cells.xs o.cell.toNat).insts.xs) m)) :: L) (.q 0 (.q 1 (.q 2 (.q 3 (.q 4 (.q 5 (.q 6 (.q 7 (.q 9 (.l 8 (.l 10 (.l 11 (.q 12 Sch.nil))))))))))))) (by kernel_rfl) (by kernel_rfl) (by kernel_rfl) rfl ?_
   refine RH.w rfl rfl (PV.loadW rfl Ag35 rfl rfl) (RH.w rfl rfl (PV.move (v := vo) rfl rfl) (RH.w rfl rfl (PV.field rfl Fo108_0 rfl) (RH.w rfl rfl (PV.load1 rfl Sc2 rfl (Rd.blk rfl)) (RH.w rfl rfl (PV.field rfl Fo108_1 rfl) (RH.w rfl rfl (PV.loadB (vs := [_, _, _]) rfl Ag95 rfl rfl rfl) (RH.w rfl rfl (PV.field rfl Fo97_1 rfl) (RH.w rfl rfl (PV.loadB (vs := [_, _, _]) rfl Ag95 rfl rfl rfl) (RH.w rfl rfl (PV.move (v := v32) rfl rfl) ?_))))))))
   refine RH.ot rfl rfl (OT.callF (vs := [_, _]) rfl En254 rfl (compose_i hb1 hb2 hbig ⟨Gh.le_refl _, PickC.pick, ?_⟩))
   refine RH.ot rfl rfl (OT.pv (PV.build (vs := [(0, [vi _]), (1, [vi _, vi _, vi _]), (2, [v32])]) (out := [_, _, _, _, _]) rfl Zr97 Pl97 ⟨rfl, (Cl.c rfl), ⟨rfl, (Cl.c rfl), ⟨rfl, (Cl.s (v := v32) SlF.o), trivial⟩⟩⟩ rfl) ⟨Gh.le_refl _, PickC.pick, ?_⟩)
   refine RH.ot rfl rfl (OT.callF (vs := [_, vo, _]) rfl En204 rfl (CallT.cv (Cv.p (C := osl 97 occT vo zs :: bagS 2 intT (pths zs) :: osl 2 intT v32 (o.path.xs ++ [(m : Int)]) :: osl 108 helemT v20 (elems (gd l.cells.xs o.cell.toNat).insts.xs) :: blk b3 35 (libT.enc l) :: blk b5 97 (occT.enc o) :: blk b8 108 (helemT.enc (gd (elems (gd l.cells.xs o.cell.toNat).insts.xs) m)) :: L)) (ih (l := l) (o := ⟨(gd (elems (gd l.cells.xs o.cell.toNat).insts.xs) m).cell, cmpT (gd (elems (gd l.cells.xs o.cell.toNat).insts.xs) m).place o.place, ⟨v32, o.path.xs ++ [(m : Int)]⟩⟩) (v := vo) (ys := zs) hL.up hok hke (by simp only; omega) (by simp only [List.length_append, List.length_cons, List.length_nil]; omega) (by simp only [erO, kid] at hle ⊢; omega) (fun vn zn hr he => ⟨Gh.le_refl _, PickC.pick, ?_⟩))))
   refine RH.w rfl rfl (PV.asg rfl rfl) ?_
   refine RH.nil ?_
   refine WP.region (RG.p (PV.add rfl rfl rfl (by omega)) (RG.ml rfl (RG.nil ?_)))
   exact ⟨rfl, m + 1, vn, zn, ⟨by omega, hB.next hr (by rw [hce]; exact he)⟩, ⟨rfl, rfl, trivial⟩, ⟨rfl, rfl, rfl, rfl, trivial⟩, Cv.p, by omega⟩
  ·have h1 := of_decide_eq_false h1
   have e : erOs zs = erOs ys ++ occF (erCls l.cells.xs) (f + 1) (erO o) := by
    rw [hB.er, ← occTo_all]
    have : m = (elems (gd (erCls l.cells.xs) (erO o).cell.toNat).insts).length := by simp only [erO]; rw [hce]; omega
    rw [← this]
   refine WP.exit ?_
   refine WP.sr (RG.p (PV.move (v := vo) rfl rfl) (RG.p (PV.asg (v := vo) rfl rfl) (RG.nil ?_)))
   exact WP.ret ⟨_, _, ResV.one rfl rfl, Cv.p, k vo zs hB.pre e⟩
theorem below_r : ∀ (f : Nat) {G : Gh} {L : List Ch} {R : Value → Gh → List Ch → Prop} {l : Lib} {o : Occ} {v : Value} {ys : List Occ} (_ : RLib G L l.cells.v l.cells.xs) (_ : okLib (erCls l.cells.xs) = true) (_ : oIn f (erO o)) (_ : o.cell.toNat < l.cells.xs.length) (_ : o.path.xs.length + f ≤ 100) (_ : ys.length + (occF (erCls l.cells.xs) f (erO o)).length ≤ 1000)
  (_ : ∀ v' zs, (∃ r, zs = ys ++ r) → erOs zs = erOs ys ++ occF (erCls l.cells.xs) f (erO o) → R v' G (osl 97 occT v' zs :: bagS 2 intT (pths zs) :: L)), CallT Tryz.prog 215 #[vT libT l, v, vT occT o] G (osl 97 occT v ys :: bagS 2 intT (pths ys) :: osl 2 intT o.path.v o.path.xs :: L) R := by
 intro f
 induction f with
 | zero => intro G L R l o v ys _ _ hin; exact absurd hin.1 (by simp only [erO]; omega)
 | succ f ih =>
  intro G L R l o v ys hL hok hin hcl hpl htl k
  have hE := erCls_len l.cells.xs
  have hbig := oIn_big hin
  have hi1 := hin.1
  have hinc : (0 : Int) ≤ o.cell ∧ o.cell < (f : Int) + 1 := by have := hin.1; simp only [erO] at this; omega
  have hce : (gd (erCls l.cells.xs) o.cell.toNat).insts = (gd l.cells.xs o.cell.toNat).insts.xs := erCl_insts hcl
  have hns : okNs (gd l.cells.xs o.cell.toNat).insts.xs := by rw [← hce]; exact okLib_ns hok (by omega)
  obtain ⟨hn8, kk, hok2⟩ := id hns
  have hEl : (elems (gd l.cells.xs o.cell.toNat).insts.xs).length ≤ 128 := by rw [← hce]; exact elems_len_bd hok (by omega)
  have hol : 1 ≤ (occF (erCls l.cells.xs) (f + 1) (erO o)).length := by rw [occF, List.length_cons]; omega
  refine CallT.enter (args := _) Tryz.func215 rfl rfl (by kernel_rfl) rfl ?_
  refine WP.sr ?_
  refine RG.ot rfl (OT.box (cs := libT.enc l) rfl rfl rfl fun b3 => ?_)
  refine RG.ot rfl (OT.box (cs := occT.enc o) rfl rfl rfl fun b5 => ?_)
  refine RG.p (PV.asg rfl rfl) (RG.nil (WP.sr (RG.p (PV.move (v := v) rfl rfl) (RG.p (PV.loadW rfl Ag97 rfl rfl) ?_))))
  refine RG.ot rfl (OT.bslice (F := occT) (els := [_]) rfl El164 rfl (by decide) rfl (by decide) ⟨rfl, (Cl.c rfl), trivial⟩ fun v15 => ?_)
  refine RG.ot rfl (OT.append (v := v) (u := v15) (F := occT) rfl El164 rfl (by decide) rfl rfl Rs.o (OneL.one (a := o) (OneC.val rfl (OneC.val rfl (OneC.val rfl (OneC.val rfl (OneC.sl SlF.o OneC.nil)))))) rfl (by first | omega | (simp <;> omega)) fun v16 => ?_)
  refine RG.p (PV.asg (v := v16) rfl rfl) (RG.nil (WP.sr (RG.mr rfl (RG.nil (WP.sr (RG.p (PV.field rfl Fo35_0 rfl) (RG.p (PV.load1 rfl Sc33 rfl (Rd.blk rfl)) (RG.p (PV.field rfl Fo97_0 rfl) (RG.p (PV.load1 rfl Sc2 rfl (Rd.blk rfl)) (RG.p (PV.idxS (j := o.cell.toNat) rfl Is33 rfl (SlF.r hL.c) rfl (by omega) (by omega)) (RG.p (PV.field rfl Fo115_3 rfl) ?_)))))))))))
  refine RG.p (PV.loadF rfl Sc113 rfl rfl (El.r hL.c (getG (by omega))) rfl) (RG.p (PV.asg rfl rfl) (RG.nil (WP.seq (WP.sr (RG.mr rfl (RG.nil (WP.block ?_)))))))
  refine WP.cv ((Cv.p (C := osl 2 intT o.path.v o.path.xs :: bagS 2 intT (pths ys) :: osl 97 occT v16 (ys ++ [o]) :: blk b3 35 (libT.enc l) :: blk b5 97 (occT.enc o) :: L)).trans (Cv.addOcc (zs' := ys ++ [o]) (by simp [pths]))) ?_
  refine WP.loop4 [3, 5, 8] (fun (i : Nat) (e : Int) (vo : Value) (zs : List Occ) => i ≤ (gd l.cells.xs o.cell.toNat).insts.xs.length ∧ e = ((elems ((gd l.cells.xs o.cell.toNat).insts.xs.take i)).length : Int) ∧ OccBelow (erCls l.cells.xs) f o ys (elems ((gd l.cells.xs o.cell.toNat).insts.xs.take i)).length zs) (fun (i : Nat) (e : Int) (vo : Value) (zs : List Occ) => [(9, vi i), (7, vi e), (1, vo)]) (fun (i : Nat) (e : Int) (vo : Value) (zs : List Occ) => osl 97 occT vo zs :: bagS 2 intT (pths zs) :: blk b3 35 (libT.enc l) :: blk b5 97 (occT.enc o) :: L) (fun (i : Nat) (e : Int) (vo : Value) (zs : List Occ) => (gd l.cells.xs o.cell.toNat).insts.xs.length - i) 0 0 v16 (ys ++ [o]) ⟨by omega, by simp [elems], OccBelow.init⟩ ⟨rfl, rfl, rfl, trivial⟩ Cv.p ?_
  rintro i e vo zs τ ⟨hi, he, hB⟩
  refine WP.seq (WP.sr (RG.ml rfl (RG.p (PV.move rfl rfl) (RG.p (PV.len rfl Tryz.underlying113 rfl (SlF.r (hL.na hcl))) (RG.p (PV.lss rfl rfl rfl) (RG.nil ?_))))))
  refine WP.cond rfl (fun h1 => ?_) (fun h1 => ?_)
  ·have h1 := of_decide_eq_true h1
   have h2 : i < (gd l.cells.xs o.cell.toNat).insts.xs.length := by omega
   obtain ⟨_, _, q3, q4, _, _⟩ := okIn_bd (hok2 i h2)
   refine WP.skip (WP.seq (WP.block (WP.sr (RG.mr rfl (RG.nil (WP.block ?_))))))
   refine WP.loop4 [3, 5, 8, 9] (fun (r : Nat) (e : Int) (vo : Value) (zs : List Occ) => r ≤ (gd (gd l.cells.xs o.cell.toNat).insts.xs i).rows.toNat ∧ e = (((elems ((gd l.cells.xs o.cell.toNat).insts.xs.take i)).length + r * (gd (gd l.cells.xs o.cell.toNat).insts.xs i).cols.toNat : Nat) : Int) ∧ OccBelow (erCls l.cells.xs) f o ys ((elems ((gd l.cells.xs o.cell.toNat).insts.xs.take i)).length + r * (gd (gd l.cells.xs o.cell.toNat).insts.xs i).cols.toNat) zs) (fun (r : Nat) (e : Int) (vo : Value) (zs : List Occ) => [(10, vi r), (7, vi e), (1, vo)]) (fun (r : Nat) (e : Int) (vo : Value) (zs : List Occ) => osl 97 occT vo zs :: bagS 2 intT (pths zs) :: blk b3 35 (libT.enc l) :: blk b5 97 (occT.enc o) :: L) (fun (r : Nat) (e : Int) (vo : Value) (zs : List Occ) => (gd (gd l.cells.xs o.cell.toNat).insts.xs i).rows.toNat - r) 0 e vo zs ⟨by omega, by rw [Nat.zero_mul]; exact he, by rw [Nat.zero_mul]; exact hB⟩ ⟨rfl, rfl, rfl, trivial⟩ Cv.p ?_
   rintro r e vo zs τ ⟨hr, he, hB⟩
   refine WP.seq (WP.sr (RG.ml rfl (RG.p (PV.move rfl rfl) (RG.ml rfl (RG.p (PV.idxS rfl Is113 rfl (SlF.r (hL.na hcl)) rfl rfl (by omega)) (RG.p (PV.field rfl Fo173_3 rfl) (RG.p (PV.loadF rfl Sc2 rfl rfl (El.r (hL.na hcl) (getG (by omega))) rfl) (RG.p (PV.lss rfl rfl rfl) (RG.nil ?_)))))))))
   refine WP.cond rfl (fun h3 => ?_) (fun h3 => ?_)
   ·have h3 := of_decide_eq_true h3
    refine WP.skip (WP.seq (WP.block (WP.sr (RG.mr rfl (RG.nil (WP.block ?_))))))
    refine WP.loop4 [3, 5, 8, 9, 10] (fun (q : Nat) (e : Int) (vo : Value) (zs : List Occ) => q ≤ (gd (gd l.cells.xs o.cell.toNat).insts.xs i).cols.toNat ∧ e = (((elems ((gd l.cells.xs o.cell.toNat).insts.xs.take i)).length + (r * (gd (gd l.cells.xs o.cell.toNat).insts.xs i).cols.toNat + q) : Nat) : Int) ∧ OccBelow (erCls l.cells.xs) f o ys ((elems ((gd l.cells.xs o.cell.toNat).insts.xs.take i)).length + (r * (gd (gd l.cells.xs o.cell.toNat).insts.xs i).cols.toNat + q)) zs) (fun (q : Nat) (e : Int) (vo : Value) (zs : List Occ) => [(11, vi q), (7, vi e), (1, vo)]) (fun (q : Nat) (e : Int) (vo : Value) (zs : List Occ) => osl 97 occT vo zs :: bagS 2 intT (pths zs) :: blk b3 35 (libT.enc l) :: blk b5 97 (occT.enc o) :: L) (fun (q : Nat) (e : Int) (vo : Value) (zs : List Occ) => (gd (gd l.cells.xs o.cell.toNat).insts.xs i).cols.toNat - q) 0 e vo zs ⟨by omega, he, hB⟩ ⟨rfl, rfl, rfl, trivial⟩ Cv.p ?_
    rintro q e vo zs τ ⟨hq, he, hB⟩
    refine WP.seq (WP.sr (RG.ml rfl (RG.p (PV.move rfl rfl) (RG.ml rfl (RG.p (PV.idxS rfl Is113 rfl (SlF.r (hL.na hcl)) rfl rfl (by omega)) (RG.p (PV.field rfl Fo173_2 rfl) (RG.p (PV.loadF rfl Sc2 rfl rfl (El.r (hL.na hcl) (getG (by omega))) rfl) (RG.p (PV.lss rfl rfl rfl) (RG.nil ?_)))))))))
    subst he
    refine WP.cond rfl (fun h4 => ?_) (fun h4 => ?_)
    ·have h4 := of_decide_eq_true h4
     obtain ⟨hat, hag⟩ := elems_at (ns := (gd l.cells.xs o.cell.toNat).insts.xs) (i := i) (c := q) (r := r) h2 (by omega) (by omega)
     have h2' : (elems ((gd l.cells.xs o.cell.toNat).insts.xs.take i)).length + (r * (gd (gd l.cells.xs o.cell.toNat).insts.xs i).cols.toNat + q) < (elems (gd (erCls l.cells.xs) o.cell.toNat).insts).length := by rw [hce]; exact hat
     have hb := elem_bd hok (k := o.cell.toNat) (by omega) h2'
     have hke := kid_in hok hin (by simp only [erO]; omega) h2'
     have hle := occTo_le (cs := erCls l.cells.xs) (f := f) (o := erO o) (i := (elems ((gd l.cells.xs o.cell.toNat).insts.xs.take i)).length + (r * (gd (gd l.cells.xs o.cell.toNat).insts.xs i).cols.toNat + q) + 1) h2'
     rw [occTo_succ, List.length_append] at hle
     have hlen := hB.len
     simp only [erO] at hke hle hlen htl
     rw [hce, hag] at hb hke hle
     have hb1 := hb.2.1
     have hb2 : (-1000 ≤ (elPlace (gd (gd l.cells.xs o.cell.toNat).insts.xs i) q r).x ∧ (elPlace (gd (gd l.cells.xs o.cell.toNat).insts.xs i) q r).x ≤ 1000) ∧ -1000 ≤ (elPlace (gd (gd l.cells.xs o.cell.toNat).insts.xs i) q r).y ∧ (elPlace (gd (gd l.cells.xs o.cell.toNat).insts.xs i) q r).y ≤ 1000 := by have := hb.2.2; simp only at this; omega
     have hb0 := hb.1
     simp only at hb0 hke hle
     have hrd : Rs G (bagS 2 intT (pths zs) :: []) intT o.path.v o.path.xs := OccBelow.rd hB RsE.o
     refine WP.skip (WP.seq (WP.block (WP.sr ?_)))
     refine RG.ot rfl (OT.bslice (F := intT) (els := []) rfl El30 rfl (by decide) rfl (by decide) trivial fun v48 => ?_)
     refine RG.p (PV.field rfl Fo97_2 rfl) (RG.p (PV.load1 rfl Sc30 rfl (Rd.blk rfl)) ?_)
     refine RG.ot rfl (OT.append (v := v48) (F := intT) rfl El30 rfl (by decide) rfl rfl (Rs.up hrd) (OneL.c (fun _ => rfl)) rfl (by first | omega | (simp <;> omega)) fun v51 => ?_)
     refine RG.ml rfl ?_
     refine RG.ot rfl (OT.bslice (F := intT) (els := [_]) rfl El30 rfl (by decide) rfl (by decide) ⟨rfl, (Cl.c rfl), trivial⟩ fun v53 => ?_)
     refine RG.ot rfl (OT.append (v := v51) (u := v53) (F := intT) rfl El30 rfl (by decide) rfl rfl Rs.o (OneL.c (fun _ => rfl)) rfl (by first | omega | (simp <;> omega)) fun v54 => ?_)
     refine RG.p (PV.asg (v := v54) rfl rfl) (RG.nil (WP.seq ?_))
     refine WP.regionH (blk b3 35 (libT.enc l) :: blk b5 97 (occT.enc o) :: L) (.q 0 (.q 1 (.q 2 (.q 3 (.q 4 (.q 5 (.q 6 (.q 7 (.q 8 (.q 9 (.q 10 (.q 11 (.q 12 (.q 13 (.q 14 (.q 17 (.l 15 (.l 16 (.l 18 (.l 19 (.q 20 Sch.nil))))))))))))))))))))) (by kernel_rfl) (by kernel_rfl) (by kernel_rfl) rfl ?_
     refine RH.w rfl rfl (PV.loadW rfl Ag35 rfl rfl) (RH.w rfl rfl (PV.move (v := vo) rfl rfl) (RH.w rfl rfl (PV.move rfl rfl) (RH.w rfl rfl (PV.mvI (.inl rfl) rfl) (RH.w rfl rfl (PV.idxS rfl Is113 rfl (SlF.r (hL.na hcl)) rfl rfl (by omega)) (RH.w rfl rfl (PV.field rfl Fo173_0 rfl) (RH.w rfl rfl (PV.loadF rfl Sc2 rfl rfl (El.r (hL.na hcl) (getG (by omega))) rfl) (RH.w rfl rfl (PV.field rfl Fo97_1 rfl) (RH.w rfl rfl (PV.loadB (vs := [_, _, _]) rfl Ag95 rfl rfl rfl) (RH.w rfl rfl (PV.move rfl rfl) (RH.w rfl rfl (PV.mvI (.inl rfl) rfl) (RH.w rfl rfl (PV.idxS rfl Is113 rfl (SlF.r (hL.na hcl)) rfl rfl (by omega)) (RH.w rfl rfl (PV.loadE rfl Ag173 rfl rfl (El.r (hL.na hcl) (getG (by omega)))) (RH.w rfl rfl (PV.mvI (.inl rfl) rfl) ?_)))))))))))))
     refine RH.w rfl rfl (PV.mvI (.inl rfl) rfl) (RH.w rfl rfl (PV.move (v := v54) rfl rfl) ?_)
     refine RH.ot rfl rfl (OT.callF (vs := [_, _, _]) rfl En197 rfl (elPlace_r (hok2 i (by omega)) (c := q) (r := r) (by omega) (by omega) ⟨Gh.le_refl _, PickC.pick, ?_⟩))
     refine RH.ot rfl rfl (OT.callF (vs := [_, _]) rfl En198 rfl (l10After_r hb1 hb2 hbig ⟨Gh.le_refl _, PickC.pick, ?_⟩))
     refine RH.ot rfl rfl (OT.pv (PV.build (vs := [(0, [vi _]), (1, [vi _, vi _, vi _]), (2, [v54])]) (out := [_, _, _, _, _]) rfl Zr97 Pl97 ⟨rfl, (Cl.c rfl), ⟨rfl, (Cl.c rfl), ⟨rfl, (Cl.s (v := v54) SlF.o), trivial⟩⟩⟩ rfl) ⟨Gh.le_refl _, PickC.pick, ?_⟩)
     refine RH.ot rfl rfl (OT.callF (vs := [_, vo, _]) rfl En215 rfl (CallT.cv (Cv.p (C := osl 97 occT vo zs :: bagS 2 intT (pths zs) :: osl 2 intT v54 (([] ++ o.path.xs) ++ [(((elems ((gd l.cells.xs o.cell.toNat).insts.xs.take i)).length + (r * (gd (gd l.cells.xs o.cell.toNat).insts.xs i).cols.toNat + q) : Nat) : Int)]) :: blk b3 35 (libT.enc l) :: blk b5 97 (occT.enc o) :: L)) (ih (l := l) (o := ⟨(gd (gd l.cells.xs o.cell.toNat).insts.xs i).cell, cmpT (elPlace (gd (gd l.cells.xs o.cell.toNat).insts.xs i) q r) o.place, ⟨v54, ([] ++ o.path.xs) ++ [(((elems ((gd l.cells.xs o.cell.toNat).insts.xs.take i)).length + (r * (gd (gd l.cells.xs o.cell.toNat).insts.xs i).cols.toNat + q) : Nat) : Int)]⟩⟩) (v := vo) (ys := zs) hL.up hok hke (by simp only; omega) (by simp only [List.nil_append, List.length_append, List.length_cons, List.length_nil]; omega) (by simp only [erO, kid, List.nil_append] at hle ⊢; omega) (fun vn zn hr he => ⟨Gh.le_refl _, PickC.pick, ?_⟩))))
     refine RH.w rfl rfl (PV.asg rfl rfl) ?_
     refine RH.nil ?_
     refine WP.region (RG.ml rfl (RG.p (PV.add rfl rfl rfl (by omega)) (RG.mr rfl (RG.nil (WP.region (RG.ml rfl (RG.p (PV.add rfl rfl rfl (by omega)) (RG.mr rfl (RG.nil ?_)))))))))
     exact ⟨rfl, q + 1, _, vn, zn, ⟨by omega, rfl, hB.next hr (by rw [hce, hag]; exact he)⟩, ⟨rfl, rfl, rfl, trivial⟩, ⟨rfl, rfl, rfl, rfl, rfl, trivial⟩, Cv.p, by omega⟩
    ·have h4 := of_decide_eq_false h4
     have e1 : (elems ((gd l.cells.xs o.cell.toNat).insts.xs.take i)).length + (r * (gd (gd l.cells.xs o.cell.toNat).insts.xs i).cols.toNat + q) = (elems ((gd l.cells.xs o.cell.toNat).insts.xs.take i)).length + (r + 1) * (gd (gd l.cells.xs o.cell.toNat).insts.xs i).cols.toNat := by rw [Nat.add_mul]; omega
     refine WP.exit ?_
     refine WP.region (RG.ml rfl (RG.p (PV.add rfl rfl rfl (by omega)) (RG.mr rfl (RG.nil ?_))))
     exact ⟨rfl, r + 1, _, vo, zs, ⟨by omega, by rw [e1], by rw [← e1]; exact hB⟩, ⟨rfl, rfl, rfl, trivial⟩, ⟨rfl, rfl, rfl, rfl, trivial⟩, Cv.p, by omega⟩
   ·have h3 := of_decide_eq_false h3
    have e1 : (elems ((gd l.cells.xs o.cell.toNat).insts.xs.take i)).length + r * (gd (gd l.cells.xs o.cell.toNat).insts.xs i).cols.toNat = (elems ((gd l.cells.xs o.cell.toNat).insts.xs.take (i + 1))).length := by rw [elems_take h2, List.length_append, elsOf_len, show r = (gd (gd l.cells.xs o.cell.toNat).insts.xs i).rows.toNat by omega]
    refine WP.exit ?_
    refine WP.region (RG.ml rfl (RG.p (PV.add rfl rfl rfl (by omega)) (RG.mr rfl (RG.nil ?_))))
    exact ⟨rfl, i + 1, _, vo, zs, ⟨by omega, by rw [he, e1], by rw [← e1]; exact hB⟩, ⟨rfl, rfl, rfl, trivial⟩, ⟨rfl, rfl, rfl, trivial⟩, Cv.p, by omega⟩
  ·have h1 := of_decide_eq_false h1
   have e1 : (gd l.cells.xs o.cell.toNat).insts.xs.take i = (gd l.cells.xs o.cell.toNat).insts.xs := List.take_of_length_le (by omega)
   have e2 : erOs zs = erOs ys ++ occF (erCls l.cells.xs) (f + 1) (erO o) := by
    rw [hB.er, ← occTo_all, e1]
    have : (elems (gd l.cells.xs o.cell.toNat).insts.xs).length = (elems (gd (erCls l.cells.xs) (erO o).cell.toNat).insts).length := by simp only [erO]; rw [hce]
    rw [← this]
   refine WP.exit ?_
   refine WP.sr (RG.p (PV.move (v := vo) rfl rfl) (RG.p (PV.asg (v := vo) rfl rfl) (RG.nil ?_)))
   exact WP.ret ⟨_, _, ResV.one rfl rfl, Cv.p, k vo zs hB.pre e2⟩
theorem occE_cases {cs : List ECell} {cell : Int} (h : celE cs cell = 0) : okLib cs = true ∧ 0 ≤ cell ∧ cell < cs.length := by
 unfold celE at h
 cases h1 : okLib cs with
 | false => rw [h1] at h; cases h
 | true =>
  cases h2 : within cell 0 ((cs.length : Int) - 1) with
  | false => rw [h1, h2] at h; cases h
  | true => simp only [within, Bool.and_eq_true, decide_eq_true_eq] at h2; exact ⟨rfl, by omega⟩
theorem occE_code {cs : List ECell} {cell : Int} (h : celE cs cell ≠ 0) : occE cs cell = celE cs cell := by
 unfold celE at h ⊢
 unfold occE
 cases h1 : okLib cs with
 | false => rfl
 | true =>
  cases h2 : within cell 0 ((cs.length : Int) - 1) with
  | false => rfl
  | true => rw [h1, h2] at h; exact absurd rfl h
theorem occE_in {cs : List ECell} {cell : Int} (h : okLib cs = true) (hc : 0 ≤ cell ∧ cell < cs.length) : occE cs cell = bif decide (200 < cntOf cs cell.toNat) then 3 else bif (occAll cs cell).any fun o => !validT o.place then 2 else 0 := by
 have : within cell 0 ((cs.length : Int) - 1) = true := by simp [within]; omega
 rw [occE, h, this]; rfl
theorem top_in {cell : Int} {n : Nat} (hc : 0 ≤ cell ∧ cell < n) (h8 : n ≤ 8) : oIn (cell.toNat + 1) (top cell) := by
 refine ⟨by simp only [top]; omega, by simp [top], ?_, ?_⟩ <;> simp only [top] <;> omega
theorem occAny_true {cs : List ECell} {cell : Int} {zs : List Occ} (he : erOs zs = occAll cs cell) {i : Nat} (hi : i < zs.length) (h : validT (gd zs i).place = false) : ((occAll cs cell).any fun o => !validT o.place) = true := by
 rw [← he]
 exact List.any_eq_true.2 ⟨gd (erOs zs) i, gd_mem (by rw [erOs_len]; exact hi), by rw [erOs_gd hi]; simp [erO, h]⟩
theorem occAny_false {cs : List ECell} {cell : Int} {zs : List Occ} (he : erOs zs = occAll cs cell) (h : ∀ i, i < zs.length → validT (gd zs i).place = true) : ((occAll cs cell).any fun o => !validT o.place) = false := by
 rw [← he, List.any_eq_false]
 intro o ho
 obtain ⟨i, hi, rfl⟩ := List.getElem_of_mem ho
 rw [erOs_len] at hi
 rw [← gd_eq (by rw [erOs_len]; exact hi), erOs_gd hi]
 simp [erO, h i hi]
theorem Cv.nilOcc {M : List Ch} {e e' : TypeId} [p : PickC L M] : Cv M (osl e occT (.slice none 0 0) [] :: bagS e' intT (pths []) :: L) := (Cv.pick p.pick).trans ((Cv.bag0 (xs := pths []) rfl).trans Cv.nilS)
theorem occ_i {l : Lib} {cell : Int} (hL : RLib G L l.cells.v l.cells.xs) (hlen : lenC (erCls l.cells.xs)) (k : ∀ v' zs, erOs zs = occR (erCls l.cells.xs) cell → R (.tuple #[v', vi (occE (erCls l.cells.xs) cell)]) G (osl 97 occT v' zs :: bagS 2 intT (pths zs) :: L)) : CallT Tryz.prog 121 #[vT libT l, vi cell] G L R := by
 have hE := erCls_len l.cells.xs
 refine CallT.enter (args := _) Tryz.func121 rfl rfl (by kernel_rfl) rfl ?_
 refine WP.sr ?_
 refine RG.ot rfl (OT.box (cs := libT.enc l) rfl rfl rfl fun b2 => ?_)
 refine RG.p (PV.asg rfl rfl) (RG.mr rfl (RG.nil (WP.seq (WP.sr (RG.p (PV.loadW rfl Ag35 rfl rfl) (RG.ml rfl ?_))))))
 refine RG.callF (vs := [_, _]) rfl rfl En202 rfl (celE_i hL.up hlen ?_)
 refine RG.mr rfl (RG.nil (WP.sr (RG.ml rfl (RG.p (PV.neq rfl rfl rfl) (RG.nil ?_)))))
 refine WP.cond rfl (fun h1 => ?_) (fun h1 => ?_)
 ·have h1 : celE (erCls l.cells.xs) cell ≠ 0 := by simpa using h1
  have e := occE_code h1
  have k := k (.slice none 0 0) [] (by rw [occR_no (by rw [e]; exact h1)]; rfl)
  rw [e] at k
  refine WP.sr (RG.ml rfl (RG.p (PV.asg rfl rfl) (RG.mr rfl (RG.nil ?_))))
  exact WP.ret ⟨_, _, ResV.two rfl rfl rfl, Cv.nilOcc, k⟩
 ·have h1 : celE (erCls l.cells.xs) cell = 0 := by simpa using h1
  obtain ⟨hok, hc⟩ := occE_cases h1
  have h8 := okLib_len hok
  have hin := occE_in hok hc
  have hal := occAll_len hok hc
  refine WP.skip (WP.seq (WP.sr (RG.p (PV.loadW rfl Ag35 rfl rfl) (RG.ml rfl ?_))))
  refine RG.callF (vs := [_, _]) rfl rfl En203 rfl (elCnt_i hL.up hok hc ?_)
  refine RG.p (PV.gtr rfl rfl rfl) (RG.nil ?_)
  refine WP.cond rfl (fun h2 => ?_) (fun h2 => ?_)
  ·have e : occE (erCls l.cells.xs) cell = 3 := by rw [hin, h2]; rfl
   have k := k (.slice none 0 0) [] (by rw [occR_no (by rw [e]; decide)]; rfl)
   rw [e] at k
   refine WP.sr (RG.p (PV.asg rfl rfl) (RG.mr rfl (RG.nil ?_)))
   exact WP.ret ⟨_, _, ResV.two rfl rfl rfl, Cv.nilOcc, k⟩
  ·rw [h2, cond_false] at hin
   have h2 := of_decide_eq_false h2
   have hol : 0 + (occF (erCls l.cells.xs) (cell.toNat + 1) (top cell)).length ≤ 1000 := by rw [occAll] at hal; omega
   refine WP.skip (WP.sr (RG.p (PV.loadW rfl Ag35 rfl rfl) (RG.ml rfl (RG.p (PV.build (vs := [(0, [vi _])]) (out := [_, _, _, _, _]) rfl Zr97 Pl97 ⟨rfl, (Cl.c rfl), trivial⟩ rfl) ?_))))
   refine RG.callF (vs := [_, _, _]) rfl rfl En204 rfl (CallT.cv ((Cv.nilS (e := 2) (F := intT)).trans ((Cv.bag0 (e := 2) (F := intT) (xs := pths []) rfl).trans (Cv.nilS (e := 97) (F := occT)))) (below_i (cell.toNat + 1) (l := l) (o := ⟨cell, ⟨0, 0, 0⟩, ⟨.slice none 0 0, []⟩⟩) (ys := []) hL.up hok (top_in hc (by omega)) (by simp only; omega) (by simp only [List.length_nil]; omega) (by simp only [List.length_nil]; exact hol) (fun vn zn hr he => ?_)))
   refine RG.p (PV.asg (v := vn) rfl rfl) (RG.nil (WP.seq (WP.sr (RG.p (PV.move (v := vn) rfl rfl) (RG.p (PV.len (v := vn) rfl Tryz.underlying164 rfl SlF.o) (RG.ml rfl (RG.nil (WP.block ?_))))))))
   have he : erOs zn = occAll (erCls l.cells.xs) cell := he
   have hzl : zn.length ≤ 200 := by
    have := congrArg List.length he
    rw [erOs_len] at this; omega
   refine WP.loop1 [7, 24, 25] (fun i => i ≤ zn.length ∧ ∀ j, j < i → validT (gd zn j).place = true) (fun i => [(26, vi i)]) (fun i => osl 97 occT vn zn :: bagS 2 intT (pths zn) :: L) (fun i => zn.length - i) 0 ⟨by omega, fun j h => by omega⟩ ⟨rfl, trivial⟩ Cv.p ?_
   rintro i τ ⟨hi, hj⟩
   refine WP.sr (RG.p (PV.lss rfl rfl rfl) (RG.nil (WP.seq ?_)))
   refine WP.cond rfl (fun h3 => ?_) (fun h3 => ?_)
   ·have h3 := of_decide_eq_true h3
    have h4 : i < zn.length := by omega
    have hrd : Rs G (bagS 2 intT (pths zn) :: []) intT (gd zn i).path.v (gd zn i).path.xs := RsE.path RsE.o h4
    refine WP.skip (WP.seq (WP.block (WP.sr (RG.p (PV.idxS (v := vn) rfl Is164 rfl SlF.o rfl rfl (by omega)) (RG.p (PV.loadE rfl Ag97 rfl rfl (El.o (getG (by omega)))) ?_)))))
    refine RG.ot rfl (OT.alloc rfl Zr97 fun b9 => ?_)
    refine RG.ot rfl (OT.storeW (vs := [vi _, vi _, vi _, vi _, _]) rfl Sz97 rfl rfl (Cl.c rfl) rfl rfl (OneC.val rfl (OneC.val rfl (OneC.val rfl (OneC.val rfl (OneC.sl (SlF.r hrd) OneC.nil))))) ?_)
    refine RG.nil (WP.sr (RG.p (PV.field rfl Fo97_1 rfl) (RG.p (PV.loadB (vs := [_, _, _]) rfl Ag95 rfl rfl rfl) ?_)))
    refine RG.callF (vs := [_]) rfl rfl En129 rfl (validT_i ?_)
    refine RG.p (PV.not rfl rfl) (RG.nil ?_)
    refine WP.cond rfl (fun h5 => ?_) (fun h5 => ?_)
    ·have e : occE (erCls l.cells.xs) cell = 2 := by rw [hin, occAny_true he h4 (by simpa using h5)]; rfl
     have k := k (.slice none 0 0) [] (by rw [occR_no (by rw [e]; decide)]; rfl)
     rw [e] at k
     refine WP.sr (RG.p (PV.asg rfl rfl) (RG.mr rfl (RG.nil ?_)))
     exact WP.ret ⟨_, _, ResV.two rfl rfl rfl, Cv.nilOcc, k⟩
    ·have hj' : ∀ j, j < i + 1 → validT (gd zn j).place = true := fun j h => by
      by_cases c : j = i
      ·rw [c]; simpa using h5
      ·exact hj j (by omega)
     refine WP.skip (WP.region (RG.p (PV.add rfl rfl rfl (by omega)) (RG.ml rfl (RG.nil ?_))))
     exact ⟨rfl, i + 1, ⟨by omega, hj'⟩, ⟨rfl, trivial⟩, ⟨rfl, rfl, rfl, trivial⟩, Cv.p, by omega⟩
   ·have h3 := of_decide_eq_false h3
    have e : occE (erCls l.cells.xs) cell = 0 := by rw [hin, occAny_false he (fun j h => hj j (by omega))]; rfl
    have k := k vn zn (by rw [occR_ok e, he])
    rw [e] at k
    refine WP.exit ?_
    refine WP.sr (RG.p (PV.move (v := vn) rfl rfl) (RG.p (PV.asg (v := vn) rfl rfl) (RG.mr rfl (RG.nil ?_))))
    exact WP.ret ⟨_, _, ResV.two rfl rfl rfl, Cv.p, k⟩
theorem occ_r {l : Lib} {cell : Int} (hL : RLib G L l.cells.v l.cells.xs) (hlen : lenC (erCls l.cells.xs)) (k : ∀ v' zs, erOs zs = occR (erCls l.cells.xs) cell → R (.tuple #[v', vi (occE (erCls l.cells.xs) cell)]) G (osl 97 occT v' zs :: bagS 2 intT (pths zs) :: L)) : CallT Tryz.prog 141 #[vT libT l, vi cell] G L R := by
 have hE := erCls_len l.cells.xs
 refine CallT.enter (args := _) Tryz.func141 rfl rfl (by kernel_rfl) rfl ?_
 refine WP.sr ?_
 refine RG.ot rfl (OT.box (cs := libT.enc l) rfl rfl rfl fun b2 => ?_)
 refine RG.p (PV.asg rfl rfl) (RG.mr rfl (RG.nil (WP.seq (WP.block (WP.sr (RG.p (PV.loadW rfl Ag35 rfl rfl) ?_))))))
 refine RG.callF (vs := [_]) rfl rfl En35 rfl (okLib_r hL.up hlen ?_)
 refine RG.p (PV.not rfl rfl) (RG.br rfl (RG.nil ?_))
 refine WP.cond rfl (fun h0 => ?_) (fun h0 => ?_)
 ·have e : occE (erCls l.cells.xs) cell = 1 := by rw [occE, h0]; rfl
  have k := k (.slice none 0 0) [] (by rw [occR_no (by rw [e]; decide)]; rfl)
  rw [e] at k
  refine WP.sr (RG.p (PV.asg rfl rfl) (RG.mr rfl (RG.nil ?_)))
  exact WP.ret ⟨_, _, ResV.two rfl rfl rfl, Cv.nilOcc, k⟩
 ·have hok : okLib (erCls l.cells.xs) = true := by simpa using h0
  refine WP.sr (RG.p (PV.loadW rfl Ag35 rfl rfl) (RG.ml rfl ?_))
  refine RG.callF (vs := [_, _]) rfl rfl En116 rfl (hasCl_r hL.up hlen ?_)
  refine RG.p (PV.not rfl rfl) (RG.br rfl (RG.nil ?_))
  refine WP.cond rfl (fun h1 => ?_) (fun h1 => ?_)
  ·have hw : within cell 0 (((erCls l.cells.xs).length : Int) - 1) = false := by simpa [hasCl, hok] using h1
   have e : occE (erCls l.cells.xs) cell = 5 := by rw [occE, hok, hw]; rfl
   have k := k (.slice none 0 0) [] (by rw [occR_no (by rw [e]; decide)]; rfl)
   rw [e] at k
   refine WP.sr (RG.p (PV.asg rfl rfl) (RG.mr rfl (RG.nil ?_)))
   exact WP.ret ⟨_, _, ResV.two rfl rfl rfl, Cv.nilOcc, k⟩
  ·have hw : within cell 0 (((erCls l.cells.xs).length : Int) - 1) = true := by simpa [hasCl, hok] using h1
   have hc : 0 ≤ cell ∧ cell < (erCls l.cells.xs).length := by simp only [within, Bool.and_eq_true, decide_eq_true_eq] at hw; omega
   have h8 := okLib_len hok
   have hin := occE_in hok hc
   have hal := occAll_len hok hc
   refine WP.sr (RG.p (PV.loadW rfl Ag35 rfl rfl) (RG.ml rfl ?_))
   refine RG.callF (vs := [_, _]) rfl rfl En214 rfl (elCnt_r hL.up hlen hok hc ?_)
   refine RG.p (PV.gtr rfl rfl rfl) (RG.br rfl (RG.nil ?_))
   refine WP.cond rfl (fun h2 => ?_) (fun h2 => ?_)
   ·have e : occE (erCls l.cells.xs) cell = 3 := by rw [hin, h2]; rfl
    have k := k (.slice none 0 0) [] (by rw [occR_no (by rw [e]; decide)]; rfl)
    rw [e] at k
    refine WP.sr (RG.p (PV.asg rfl rfl) (RG.mr rfl (RG.nil ?_)))
    exact WP.ret ⟨_, _, ResV.two rfl rfl rfl, Cv.nilOcc, k⟩
   ·rw [h2, cond_false] at hin
    have h2 := of_decide_eq_false h2
    have hol : 0 + (occF (erCls l.cells.xs) (cell.toNat + 1) (top cell)).length ≤ 1000 := by rw [occAll] at hal; omega
    refine WP.skip (WP.sr (RG.p (PV.loadW rfl Ag35 rfl rfl) ?_))
    refine RG.ot rfl (OT.bslice (F := occT) (els := []) rfl El164 rfl (by decide) rfl (by decide) trivial fun v23 => ?_)
    refine RG.ml rfl (RG.p (PV.build (vs := [(0, [vi _])]) (out := [_, _, _, _, _]) rfl Zr97 Pl97 ⟨rfl, (Cl.c rfl), trivial⟩ rfl) ?_)
    refine RG.callF (vs := [_, v23, _]) rfl rfl En215 rfl (CallT.cv ((Cv.nilS (e := 2) (F := intT)).trans ((Cv.bag0 (e := 2) (F := intT) (xs := pths []) rfl).trans (Cv.p (C := osl 97 occT v23 [] :: bagS 2 intT (pths []) :: osl 2 intT (.slice none 0 0) [] :: L)))) (below_r (cell.toNat + 1) (l := l) (o := ⟨cell, ⟨0, 0, 0⟩, ⟨.slice none 0 0, []⟩⟩) (ys := []) hL hok (top_in hc (by omega)) (by simp only; omega) (by simp only [List.length_nil]; omega) (by simp only [List.length_nil]; exact hol) (fun vn zn hr he => ?_)))
    refine RG.p (PV.asg (v := vn) rfl rfl) (RG.nil (WP.seq (WP.sr (RG.mr rfl (RG.nil (WP.block ?_))))))
    have he : erOs zn = occAll (erCls l.cells.xs) cell := he
    have hzl : zn.length ≤ 200 := by
     have := congrArg List.length he
     rw [erOs_len] at this; omega
    refine WP.loop1 [6] (fun i => i ≤ zn.length ∧ ∀ j, j < i → validT (gd zn j).place = true) (fun i => [(7, vi i)]) (fun i => osl 97 occT vn zn :: bagS 2 intT (pths zn) :: L) (fun i => zn.length - i) 0 ⟨by omega, fun j h => by omega⟩ ⟨rfl, trivial⟩ Cv.p ?_
    rintro i τ ⟨hi, hj⟩
    refine WP.seq (WP.sr (RG.ml rfl (RG.p (PV.move (v := vn) rfl rfl) (RG.p (PV.len (v := vn) rfl Tryz.underlying164 rfl SlF.o) (RG.p (PV.lss rfl rfl rfl) (RG.nil ?_))))))
    refine WP.cond rfl (fun h3 => ?_) (fun h3 => ?_)
    ·have h3 := of_decide_eq_true h3
     have h4 : i < zn.length := by omega
     refine WP.skip (WP.seq (WP.block (WP.sr (RG.p (PV.move (v := vn) rfl rfl) (RG.ml rfl (RG.p (PV.idxS (v := vn) rfl Is164 rfl SlF.o rfl rfl (by omega)) (RG.p (PV.field rfl Fo97_1 rfl) (RG.p (PV.loadEP rfl Ag95 rfl rfl (El.o (getG (by omega))) rfl) ?_))))))))
     refine RG.callF (vs := [_]) rfl rfl En118 rfl (l09Trans_r ?_)
     refine RG.p (PV.not rfl rfl) (RG.nil ?_)
     refine WP.cond rfl (fun h5 => ?_) (fun h5 => ?_)
     ·have e : occE (erCls l.cells.xs) cell = 2 := by rw [hin, occAny_true he h4 (by simpa using h5)]; rfl
      have k := k (.slice none 0 0) [] (by rw [occR_no (by rw [e]; decide)]; rfl)
      rw [e] at k
      refine WP.sr (RG.p (PV.asg rfl rfl) (RG.mr rfl (RG.nil ?_)))
      exact WP.ret ⟨_, _, ResV.two rfl rfl rfl, Cv.nilOcc, k⟩
     ·have hj' : ∀ j, j < i + 1 → validT (gd zn j).place = true := fun j h => by
       by_cases c : j = i
       ·rw [c]; simpa using h5
       ·exact hj j (by omega)
      refine WP.skip (WP.region (RG.ml rfl (RG.p (PV.add rfl rfl rfl (by omega)) (RG.mr rfl (RG.nil ?_)))))
      exact ⟨rfl, i + 1, ⟨by omega, hj'⟩, ⟨rfl, trivial⟩, ⟨rfl, trivial⟩, Cv.p, by omega⟩
    ·have h3 := of_decide_eq_false h3
     have e : occE (erCls l.cells.xs) cell = 0 := by rw [hin, occAny_false he (fun j h => hj j (by omega))]; rfl
     have k := k vn zn (by rw [occR_ok e, he])
     rw [e] at k
     refine WP.exit ?_
     refine WP.sr (RG.p (PV.move (v := vn) rfl rfl) (RG.p (PV.asg (v := vn) rfl rfl) (RG.mr rfl (RG.nil ?_))))
     exact WP.ret ⟨_, _, ResV.two rfl rfl rfl, Cv.p, k⟩
end Go.Proofs.YtgphjofccckloaaGreat
