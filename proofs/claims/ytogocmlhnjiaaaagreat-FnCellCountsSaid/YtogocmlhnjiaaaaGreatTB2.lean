/-
  Contracts of functions and plain facts that the last text of this folder uses, part 2.
-/
import Derived.Test.YtogocmlhnjiaaaaGreatTB1
import Derived.Lib.BufferMore
set_option linter.unusedVariables false
set_option linter.unusedSimpArgs false
namespace Go.Proofs.YtogocmlhnjiaaaaGreat
open Go
set_option maxRecDepth 20000
variable {G : Gh} {L : List Ch} {R : Value -> Gh -> List Ch -> Prop}
theorem l03Equal_s {v u : Value} {xs ys : List Int} (h1 : Rs G L intT v xs) (h2 : Rs G L intT u ys) (k : R (.bool (decide (xs = ys))) G L) : CallT Tryz.prog 150 #[v, u] G L R := by
 refine CallT.bd h1 fun hb => ?_
 refine CallT.bd h2 fun hb' => ?_
 refine CallT.enter (args := _) Tryz.func150 rfl rfl (by kernel_rfl) rfl ?_
 refine WP.sr (RG.br rfl (RG.nil (WP.seq (WP.sr (RG.p (PV.move (v := v) rfl rfl) (RG.p (PV.len (v := v) rfl Tryz.underlying45 rfl (SlF.r h1)) (RG.p (PV.move (v := u) rfl rfl) (RG.p (PV.len (v := u) rfl Tryz.underlying45 rfl (SlF.r h2)) (RG.p (PV.neq rfl rfl rfl) (RG.nil ?_))))))))))
 refine WP.cond rfl (fun h3 => ?_) fun h3 => ?_
 ·have e : decide (xs = ys) = false := by
   rw [decide_eq_false_iff_not]; rintro rfl; simp at h3
  rw [e] at k
  refine WP.sr (RG.br rfl (RG.nil ?_))
  exact WP.ret ⟨_, _, rv rfl rfl, Cv.p, k⟩
 ·have hl : xs.length = ys.length := by simp at h3; omega
  refine WP.skip (WP.seq (WP.sr (RG.mr rfl (RG.nil (WP.block ?_)))))
  refine WP.loop1 [0, 1] (fun i => i <= xs.length ∧ ∀ j, j < i -> xs[j]? = ys[j]?) (fun i => [(5, vi i)]) (fun i => L) (fun i => xs.length - i) 0 ⟨by omega, fun j h => by omega⟩ ⟨rfl, trivial⟩ Cv.p ?_
  rintro i τ ⟨hi, he⟩
  refine WP.seq (WP.sr (RG.ml rfl (RG.p (PV.move (v := v) rfl rfl) (RG.p (PV.len (v := v) rfl Tryz.underlying45 rfl (SlF.r h1)) (RG.p (PV.lss rfl rfl rfl) (RG.nil ?_))))))
  refine WP.cond rfl (fun h4 => ?_) fun h4 => ?_
  ·have h4 := odt h4
   have h5 : i < xs.length := by omega
   refine WP.skip (WP.seq (WP.block (WP.seq ?_)))
   refine WP.regionQ (by kernel_rfl) (by kernel_rfl) ?_
   refine RQ.pv rfl (PV.move (v := v) rfl rfl) (RQ.pv rfl (PV.mvI (.inl rfl) rfl) (RQ.pv rfl (PV.idxS (v := v) rfl Is45 rfl (SlF.r h1) rfl rfl (by omega)) (RQ.pv rfl (PV.loadE1 rfl Sc2 rfl rfl (El.r h1 (getG (by omega))) rfl) (RQ.pv rfl (PV.move (v := u) rfl rfl) (RQ.pv rfl (PV.mvI (.inl rfl) rfl) (RQ.pv rfl (PV.idxS (v := u) rfl Is45 rfl (SlF.r h2) rfl rfl (by omega)) (RQ.pv rfl (PV.loadE1 rfl Sc2 rfl rfl (El.r h2 (getG (by omega))) rfl) (RQ.pv rfl (PV.neq rfl rfl rfl) (RQ.nil ?_)))))))))
   refine WP.cond rfl (fun h6 => ?_) fun h6 => ?_
   ·have e : decide (xs = ys) = false := by
     rw [decide_eq_false_iff_not]; rintro rfl; simp at h6
    rw [e] at k
    refine WP.sr (RG.br rfl (RG.nil ?_))
    exact WP.ret ⟨_, _, rv rfl rfl, Cv.p, k⟩
   ·have e : gd xs i = gd ys i := by simpa using h6
    have he' : ∀ j, j < i + 1 -> xs[j]? = ys[j]? := fun j h => by
     by_cases c : j = i
     ·rw [c, getG h5, getG (show i < ys.length by omega), e]
     ·exact he j (by omega)
    refine WP.skip (WP.region (RG.ml rfl (RG.p (PV.add rfl rfl rfl (by omega)) (RG.mr rfl (RG.nil ?_)))))
    exact ⟨rfl, i + 1, ⟨by omega, he'⟩, ⟨rfl, trivial⟩, ⟨rfl, rfl, trivial⟩, Cv.p, by omega⟩
  ·have h4 := odf h4
   have e : decide (xs = ys) = true := by
    rw [decide_eq_true_iff]; exact pre_eq he hl (by omega)
   rw [e] at k
   refine WP.exit (WP.sr (RG.br rfl (RG.nil ?_)))
   exact WP.ret ⟨_, _, rv rfl rfl, Cv.p, k⟩
theorem l03Same_s {v u : Value} {xs ys : List Rect} (h1 : Rs G L rectT v xs) (h2 : Rs G L rectT u ys) (k : R (.bool (decide (xs = ys))) G L) : CallT Tryz.prog 102 #[v, u] G L R := by
 refine CallT.bd h1 fun hb => ?_
 refine CallT.bd h2 fun hb' => ?_
 refine CallT.enter (args := _) Tryz.func102 rfl rfl (by kernel_rfl) rfl ?_
 refine WP.sr (RG.br rfl (RG.nil (WP.seq (WP.sr (RG.p (PV.move (v := v) rfl rfl) (RG.p (PV.len (v := v) rfl Tryz.underlying50 rfl (SlF.r h1)) (RG.p (PV.move (v := u) rfl rfl) (RG.p (PV.len (v := u) rfl Tryz.underlying50 rfl (SlF.r h2)) (RG.p (PV.neq rfl rfl rfl) (RG.nil ?_))))))))))
 refine WP.cond rfl (fun h3 => ?_) fun h3 => ?_
 ·have e : decide (xs = ys) = false := by
   rw [decide_eq_false_iff_not]; rintro rfl; simp at h3
  rw [e] at k
  refine WP.sr (RG.br rfl (RG.nil ?_))
  exact WP.ret ⟨_, _, rv rfl rfl, Cv.p, k⟩
 ·have hl : xs.length = ys.length := by simp at h3; omega
  refine WP.skip (WP.seq (WP.sr (RG.mr rfl (RG.nil (WP.block ?_)))))
  refine WP.loop1 [0, 1] (fun i => i <= xs.length ∧ ∀ j, j < i -> xs[j]? = ys[j]?) (fun i => [(5, vi i)]) (fun i => L) (fun i => xs.length - i) 0 ⟨by omega, fun j h => by omega⟩ ⟨rfl, trivial⟩ Cv.p ?_
  rintro i τ ⟨hi, he⟩
  refine WP.seq (WP.sr (RG.ml rfl (RG.p (PV.move (v := v) rfl rfl) (RG.p (PV.len (v := v) rfl Tryz.underlying50 rfl (SlF.r h1)) (RG.p (PV.lss rfl rfl rfl) (RG.nil ?_))))))
  refine WP.cond rfl (fun h4 => ?_) fun h4 => ?_
  ·have h4 := odt h4
   have h5 : i < xs.length := by omega
   refine WP.skip (WP.seq (WP.block (WP.seq ?_)))
   refine WP.regionQ (by kernel_rfl) (by kernel_rfl) ?_
   refine RQ.pv rfl (PV.move (v := v) rfl rfl) (RQ.pv rfl (PV.mvI (.inl rfl) rfl) (RQ.pv rfl (PV.idxS (v := v) rfl Is50 rfl (SlF.r h1) rfl rfl (by omega)) (RQ.pv rfl (PV.loadE rfl Ag101 rfl rfl (El.r h1 (getG (by omega)))) (RQ.pv rfl (PV.move (v := u) rfl rfl) (RQ.pv rfl (PV.mvI (.inl rfl) rfl) (RQ.pv rfl (PV.idxS (v := u) rfl Is50 rfl (SlF.r h2) rfl rfl (by omega)) (RQ.pv rfl (PV.loadE rfl Ag101 rfl rfl (El.r h2 (getG (by omega)))) (RQ.pv rfl (PV.neqT rfl Eq101 rfl rfl) (RQ.nil ?_)))))))))
   refine WP.cond rfl (fun h6 => ?_) fun h6 => ?_
   ·have e : decide (xs = ys) = false := by
     rw [decide_eq_false_iff_not]; rintro rfl; simp at h6
    rw [e] at k
    refine WP.sr (RG.br rfl (RG.nil ?_))
    exact WP.ret ⟨_, _, rv rfl rfl, Cv.p, k⟩
   ·have e : gd xs i = gd ys i := by simpa using h6
    have he' : ∀ j, j < i + 1 -> xs[j]? = ys[j]? := fun j h => by
     by_cases c : j = i
     ·rw [c, getG h5, getG (show i < ys.length by omega), e]
     ·exact he j (by omega)
    refine WP.skip (WP.region (RG.ml rfl (RG.p (PV.add rfl rfl rfl (by omega)) (RG.mr rfl (RG.nil ?_)))))
    exact ⟨rfl, i + 1, ⟨by omega, he'⟩, ⟨rfl, trivial⟩, ⟨rfl, rfl, trivial⟩, Cv.p, by omega⟩
  ·have h4 := odf h4
   have e : decide (xs = ys) = true := by
    rw [decide_eq_true_iff]; exact pre_eq he hl (by omega)
   rw [e] at k
   refine WP.exit (WP.sr (RG.br rfl (RG.nil ?_)))
   exact WP.ret ⟨_, _, rv rfl rfl, Cv.p, k⟩
theorem l03Valid_s {v : Value} {xs : List Rect} (h1 : Rs G L rectT v xs) (k : R (.bool (validRs xs)) G L) : CallT Tryz.prog 100 #[v] G L R := by
 refine CallT.bd h1 fun hb => ?_
 refine CallT.enter (args := _) Tryz.func100 rfl rfl (by kernel_rfl) rfl ?_
 refine WP.sr (RG.br rfl (RG.nil (WP.seq (WP.sr (RG.p (PV.move (v := v) rfl rfl) (RG.p (PV.len (v := v) rfl Tryz.underlying50 rfl (SlF.r h1)) (RG.p (PV.gtr rfl rfl rfl) (RG.nil ?_))))))))
 refine WP.cond rfl (fun h2 => ?_) fun h2 => ?_
 ·have e : validRs xs = false := by simp [validRs] at h2 ⊢; omega
  rw [e] at k
  refine WP.sr (RG.br rfl (RG.nil ?_))
  exact WP.ret ⟨_, _, rv rfl rfl, Cv.p, k⟩
 ·have h2 : xs.length <= 3200 := by simp at h2; omega
  refine WP.skip (WP.seq (WP.sr (RG.mr rfl (RG.nil (WP.block ?_)))))
  refine WP.loop1 [0] (fun i => i <= xs.length ∧ ∀ j, j < i -> validRect (gd xs j) = true) (fun i => [(3, vi i)]) (fun i => L) (fun i => xs.length - i) 0 ⟨by omega, fun j h => by omega⟩ ⟨rfl, trivial⟩ Cv.p ?_
  rintro i τ ⟨hi, hv⟩
  refine WP.seq (WP.sr (RG.ml rfl (RG.p (PV.move (v := v) rfl rfl) (RG.p (PV.len (v := v) rfl Tryz.underlying50 rfl (SlF.r h1)) (RG.p (PV.lss rfl rfl rfl) (RG.nil ?_))))))
  refine WP.cond rfl (fun h3 => ?_) fun h3 => ?_
  ·have h3 := odt h3
   refine WP.skip (WP.seq (WP.block (WP.sr (RG.p (PV.move (v := v) rfl rfl) (RG.ml rfl (RG.p (PV.idxS (v := v) rfl Is50 rfl (SlF.r h1) rfl rfl (by omega)) (RG.p (PV.loadE rfl Ag101 rfl rfl (El.r h1 (getG (by omega)))) ?_)))))))
   refine RG.callF (vs := [_]) rfl rfl En130 rfl (validRect_s' ?_)
   refine RG.p (PV.not rfl rfl) (RG.nil ?_)
   refine WP.cond rfl (fun h4 => ?_) fun h4 => ?_
   ·rw [validRs_false (i := i) (by omega) (by simpa using h4)] at k
    refine WP.sr (RG.br rfl (RG.nil ?_))
    exact WP.ret ⟨_, _, rv rfl rfl, Cv.p, k⟩
   ·have hv' : ∀ j, j < i + 1 -> validRect (gd xs j) = true := fun j h => by
     by_cases c : j = i
     ·subst c; simpa using h4
     ·exact hv j (by omega)
    refine WP.skip (WP.region (RG.ml rfl (RG.p (PV.add rfl rfl rfl (by omega)) (RG.mr rfl (RG.nil ?_)))))
    exact ⟨rfl, i + 1, ⟨by omega, hv'⟩, ⟨rfl, trivial⟩, ⟨rfl, trivial⟩, Cv.p, by omega⟩
  ·have h3 := odf h3
   rw [validRs_true h2 (fun i h => hv i (by omega))] at k
   refine WP.exit (WP.sr (RG.br rfl (RG.nil ?_)))
   exact WP.ret ⟨_, _, rv rfl rfl, Cv.p, k⟩
theorem valid_get {xs : List Rect} (h : validRs xs = true) {i : Nat} (hi : i < xs.length) : validRect (gd xs i) = true := by
 simp only [validRs, Bool.and_eq_true, List.all_eq_true] at h
 rw [gd_eq hi]; exact h.2 _ (List.getElem_mem hi)
theorem valid_bd {r : Rect} (h : validRect r = true) : -40 <= r.x0 ∧ r.x0 < r.x1 ∧ r.x1 <= 40 ∧ -40 <= r.y0 ∧ r.y0 < r.y1 ∧ r.y1 <= 40 := by
 simp [validRect] at h; omega
theorem area_bd {r : Rect} (h : validRect r = true) : 0 <= areaR r ∧ areaR r <= 6400 := by
 have := valid_bd h
 refine ⟨Int.mul_nonneg (by omega) (by omega), ?_⟩
 have h1 : r.x1 - r.x0 <= 80 := by omega
 have h2 : r.y1 - r.y0 <= 80 := by omega
 calc areaR r <= 80 * (r.y1 - r.y0) := Int.mul_le_mul_of_nonneg_right h1 (by omega)
  _ <= 80 * 80 := by omega
theorem rectArea_s {r : Rect} (hv : validRect r = true) (k : R (vi (areaR r)) G L) : CallT Tryz.prog 101 #[vrect r] G L R := by
 have hb := valid_bd hv
 have ha := area_bd hv
 simp only [areaR] at ha
 refine CallT.enter (args := _) Tryz.func101 rfl rfl (by kernel_rfl) rfl ?_
 refine WP.sr ?_
 refine RG.ot rfl (OT.box (cs := rectT.enc r) rfl rfl rfl fun b1 => ?_)
 refine RG.mr rfl (RG.nil (WP.seq (WP.sr (RG.p (PV.loadW rfl Ag101 rfl rfl) ?_))))
 refine RG.callF (vs := [_]) rfl rfl En130 rfl (validRect_s' ?_)
 refine RG.p (PV.not rfl rfl) (RG.nil ?_)
 refine WP.cond rfl (fun h1 => ?_) fun h1 => ?_
 ·simp [hv] at h1
 ·refine WP.skip ?_
  refine WP.sr (RG.p (PV.field rfl Fo101_2 rfl) (RG.p (PV.load1 rfl Sc2 rfl (Rd.blk rfl)) (RG.p (PV.field rfl Fo101_0 rfl) (RG.p (PV.load1 rfl Sc2 rfl (Rd.blk rfl)) (RG.p (PV.sub rfl rfl rfl (by omega)) (RG.p (PV.field rfl Fo101_3 rfl) (RG.p (PV.load1 rfl Sc2 rfl (Rd.blk rfl)) (RG.p (PV.field rfl Fo101_1 rfl) (RG.p (PV.load1 rfl Sc2 rfl (Rd.blk rfl)) (RG.p (PV.sub rfl rfl rfl (by omega)) (RG.p (PV.mul rfl rfl rfl (by omega)) (RG.mr rfl ?_))))))))))))
  refine RG.nil ?_
  exact WP.ret ⟨_, _, rv rfl rfl, Cv.p, k⟩
theorem area_s {r : Rect} (hv : validRect r = true) (k : R (vi (areaR r)) G L) : CallT Tryz.prog 145 #[vrect r] G L R := by
 have hb := valid_bd hv
 have ha := area_bd hv
 simp only [areaR] at ha
 refine CallT.enter (args := _) Tryz.func145 rfl rfl (by kernel_rfl) rfl ?_
 refine WP.sr ?_
 refine RG.ot rfl (OT.box (cs := rectT.enc r) rfl rfl rfl fun b1 => ?_)
 refine RG.mr rfl (RG.nil (WP.sr (RG.p (PV.field rfl Fo101_2 rfl) (RG.p (PV.load1 rfl Sc2 rfl (Rd.blk rfl)) (RG.p (PV.field rfl Fo101_0 rfl) (RG.p (PV.load1 rfl Sc2 rfl (Rd.blk rfl)) (RG.p (PV.sub rfl rfl rfl (by omega)) (RG.p (PV.field rfl Fo101_3 rfl) (RG.p (PV.load1 rfl Sc2 rfl (Rd.blk rfl)) (RG.p (PV.field rfl Fo101_1 rfl) (RG.p (PV.load1 rfl Sc2 rfl (Rd.blk rfl)) (RG.p (PV.sub rfl rfl rfl (by omega)) ?_))))))))))))
 refine RG.p (PV.mul rfl rfl rfl (by omega)) (RG.mr rfl (RG.nil ?_))
 exact WP.ret ⟨_, _, rv rfl rfl, Cv.p, k⟩
theorem areaS_take {xs : List Rect} {i : Nat} (h : i < xs.length) : areaS (xs.take (i + 1)) = areaS (xs.take i) + areaR (gd xs i) := by
 rw [List.take_add_one, getG h, areaS_append]; simp [areaS]
theorem areaS_bd {xs : List Rect} (h : validRs xs = true) : ∀ i, i <= xs.length -> 0 <= areaS (xs.take i) ∧ areaS (xs.take i) <= 6400 * i
 | 0, _ => by simp [areaS]
 | i + 1, hi => by
  have h1 := areaS_bd h i (by omega)
  have h2 := area_bd (valid_get h (i := i) (by omega))
  rw [areaS_take (by omega)]; omega
theorem regionArea_s {v : Value} {xs : List Rect} (h1 : Rs G L rectT v xs) (hv : validRs xs = true) (k : R (vi (areaS xs)) G L) : CallT Tryz.prog 199 #[v] G L R := by
 have hn : xs.length <= 3200 := by simp [validRs] at hv; omega
 refine CallT.enter (args := _) Tryz.func199 rfl rfl (by kernel_rfl) rfl ?_
 refine WP.sr (RG.mr rfl (RG.nil (WP.sr (RG.mr rfl (RG.nil (WP.seq (WP.sr (RG.p (PV.move (v := v) rfl rfl) (RG.p (PV.len (v := v) rfl Tryz.underlying50 rfl (SlF.r h1)) (RG.ml rfl ?_))))))))))
 refine RG.nil (WP.block ?_)
 refine WP.loop2 [6, 7] (fun (i : Nat) (s : Int) => i <= xs.length ∧ s = areaS (xs.take i)) (fun (i : Nat) (s : Int) => [(8, vi i), (3, vi s)]) (fun (i : Nat) (s : Int) => L) (fun (i : Nat) (s : Int) => xs.length - i) 0 0 ⟨by omega, by simp [areaS]⟩ ⟨rfl, rfl, trivial⟩ Cv.p ?_
 rintro i s τ ⟨hi, hs⟩
 refine WP.sr (RG.p (PV.lss rfl rfl rfl) (RG.nil (WP.seq ?_)))
 refine WP.cond rfl (fun h2 => ?_) fun h2 => ?_
 ·have h2 := odt h2
  have hA := area_bd (valid_get hv (i := i) (by omega))
  have hB := areaS_bd hv i hi
  refine WP.skip (WP.seq (WP.block (WP.sr (RG.p (PV.idxS (v := v) rfl Is50 rfl (SlF.r h1) rfl rfl (by omega)) (RG.p (PV.loadE rfl Ag101 rfl rfl (El.r h1 (getG (by omega)))) ?_)))))
  refine RG.ot rfl (OT.alloc rfl Zr101 fun b5 => ?_)
  refine RG.ot rfl (OT.storeW (vs := [vi _, vi _, vi _, vi _]) rfl Sz101 rfl rfl (Cl.c rfl) rfl rfl (OneC.c rfl) ?_)
  refine RG.nil (WP.region (RG.ml rfl (RG.p (PV.loadW rfl Ag101 rfl rfl) ?_)))
  refine RG.callF (vs := [_]) rfl rfl En145 rfl (area_s (valid_get (by assumption) (by omega)) ?_)
  refine RG.p (PV.add rfl rfl rfl (by omega)) (RG.mr rfl (RG.nil (WP.region (RG.p (PV.add rfl rfl rfl (by omega)) (RG.ml rfl (RG.nil ?_))))))
  exact ⟨rfl, i + 1, _, ⟨by omega, by rw [areaS_take (by omega), hs]⟩, ⟨rfl, rfl, trivial⟩, ⟨rfl, rfl, trivial⟩, Cv.p, by omega⟩
 ·have h2 := odf h2
  have e : s = areaS xs := by rw [hs, List.take_of_length_le (by omega)]
  rw [e]
  refine WP.exit (WP.sr (RG.ml rfl (RG.mr rfl (RG.nil ?_))))
  exact WP.ret ⟨_, _, rv rfl rfl, Cv.p, k⟩
theorem l03Bits_s {v : Value} {xs : List Rect} (h1 : Rs G L rectT v xs) (hv : ∀ i, i < xs.length -> validRect (gd xs i) = true) (k : ∀ v', R v' G (osl 4 boolT v' (bits xs) :: L)) : CallT Tryz.prog 104 #[v] G L R := by
 refine CallT.bd h1 fun hb => ?_
 refine CallT.enter (args := _) Tryz.func104 rfl rfl (by kernel_rfl) rfl ?_
 refine WP.sr (RG.p (PV.asg rfl rfl) (RG.nil (WP.sr ?_)))
 refine RG.ot rfl (OT.make (m := 6400) (F := boolT) (a0 := false) rfl El148 rfl (by decide) rfl rfl (by omega) (by omega) fun v7 => ?_)
 refine RG.p (PV.asg (v := v7) rfl rfl) (RG.nil (WP.seq (WP.sr (RG.mr rfl (RG.nil (WP.block ?_))))))
 refine WP.loop2 [0, 3] (fun (i : Nat) (bs : List Bool) => i <= xs.length ∧ bs.length = 6400 ∧ ∀ y x, y < 80 -> x < 80 -> gb bs y x = (xs.take i).any fun r => inR r y x) (fun (i : Nat) (bs : List Bool) => [(4, vi i)]) (fun (i : Nat) (bs : List Bool) => osl 4 boolT v7 bs :: L) (fun (i : Nat) (bs : List Bool) => xs.length - i) 0 (List.replicate 6400 false) ⟨by omega, by simp, fun y x _ _ => by rw [gb_rep]; simp⟩ ⟨rfl, trivial⟩ Cv.p ?_
 rintro i bs τ ⟨hi, hl, hc⟩
 refine WP.seq (WP.sr (RG.ml rfl (RG.p (PV.move (v := v) rfl rfl) (RG.p (PV.len (v := v) rfl Tryz.underlying50 rfl (SlF.r h1)) (RG.p (PV.lss rfl rfl rfl) (RG.nil ?_))))))
 refine WP.cond rfl (fun h2 => ?_) fun h2 => ?_
 ·have h2 := odt h2
  have hi' : i < xs.length := by omega
  have hr := valid_bd (hv i hi')
  refine WP.skip (WP.seq (WP.block (WP.sr (RG.p (PV.move (v := v) rfl rfl) (RG.ml rfl (RG.p (PV.idxS (v := v) rfl Is50 rfl (SlF.r h1) rfl rfl (by omega)) (RG.p (PV.field rfl Fo101_1 rfl) (RG.p (PV.loadF rfl Sc2 rfl rfl (El.r h1 (getG (by omega))) rfl) (RG.mr rfl (RG.nil (WP.block ?_)))))))))))
  refine WP.loop2 [0, 3, 4] (fun (y : Int) (cs : List Bool) => (gd xs i).y0 <= y ∧ y <= (gd xs i).y1 ∧ cs.length = 6400 ∧ ∀ y' x', y' < 80 -> x' < 80 -> gb cs y' x' = (gb bs y' x' || (inR (gd xs i) y' x' && decide ((y' : Int) - 40 < y)))) (fun (y : Int) (cs : List Bool) => [(5, vi y)]) (fun (y : Int) (cs : List Bool) => osl 4 boolT v7 cs :: L) (fun (y : Int) (cs : List Bool) => (40 - y).toNat) (gd xs i).y0 bs ⟨by omega, by omega, hl, fun y' x' h1 h2 => by rw [Bool.eq_iff_iff]; simp [inR]; omega⟩ ⟨rfl, trivial⟩ Cv.p ?_
  rintro y cs τ1 ⟨hy0, hy1, hlc, hcc⟩
  refine WP.seq (WP.sr (RG.ml rfl (RG.p (PV.move (v := v) rfl rfl) (RG.ml rfl (RG.p (PV.idxS (v := v) rfl Is50 rfl (SlF.r h1) rfl rfl (by omega)) (RG.p (PV.field rfl Fo101_3 rfl) (RG.p (PV.loadF rfl Sc2 rfl rfl (El.r h1 (getG (by omega))) rfl) (RG.p (PV.lss rfl rfl rfl) (RG.nil ?_)))))))))
  refine WP.cond rfl (fun h3 => ?_) fun h3 => ?_
  ·have h3 := odt h3
   refine WP.skip (WP.seq (WP.block (WP.sr (RG.p (PV.move (v := v) rfl rfl) (RG.ml rfl (RG.p (PV.idxS (v := v) rfl Is50 rfl (SlF.r h1) rfl rfl (by omega)) (RG.p (PV.field rfl Fo101_0 rfl) (RG.p (PV.loadF rfl Sc2 rfl rfl (El.r h1 (getG (by omega))) rfl) (RG.mr rfl (RG.nil (WP.block ?_)))))))))))
   refine WP.loop2 [0, 3, 4, 5] (fun (x : Int) (ds : List Bool) => (gd xs i).x0 <= x ∧ x <= (gd xs i).x1 ∧ ds.length = 6400 ∧ ∀ y' x', y' < 80 -> x' < 80 -> gb ds y' x' = (gb cs y' x' || (decide ((y' : Int) - 40 = y) && decide ((gd xs i).x0 <= (x' : Int) - 40) && decide ((x' : Int) - 40 < x)))) (fun (x : Int) (ds : List Bool) => [(6, vi x)]) (fun (x : Int) (ds : List Bool) => osl 4 boolT v7 ds :: L) (fun (x : Int) (ds : List Bool) => (40 - x).toNat) (gd xs i).x0 cs ⟨by omega, by omega, hlc, fun y' x' h1 h2 => by rw [Bool.eq_iff_iff]; simp; omega⟩ ⟨rfl, trivial⟩ Cv.p ?_
   rintro x ds τ2 ⟨hx0, hx1, hld, hd⟩
   refine WP.seq (WP.sr (RG.ml rfl (RG.p (PV.move (v := v) rfl rfl) (RG.ml rfl (RG.p (PV.idxS (v := v) rfl Is50 rfl (SlF.r h1) rfl rfl (by omega)) (RG.p (PV.field rfl Fo101_2 rfl) (RG.p (PV.loadF rfl Sc2 rfl rfl (El.r h1 (getG (by omega))) rfl) (RG.p (PV.lss rfl rfl rfl) (RG.nil ?_)))))))))
   refine WP.cond rfl (fun h4 => ?_) fun h4 => ?_
   ·have h4 := odt h4
    refine WP.skip (WP.seq (WP.block (WP.region (RG.p (PV.move (v := v7) rfl rfl) (RG.ml rfl (RG.ml rfl ?_))))))
    refine RG.callF (vs := [_, _]) rfl rfl En151 rfl (l03At_s (by first | omega | (simp [within] at hp; omega)) ?_)
    refine RG.p (PV.idxS (j := ((y + 40) * 80 + x + 40).toNat) (v := v7) rfl Is148 rfl SlF.o rfl (by omega) (by omega)) ?_
    refine RG.ot rfl (OT.storeE (F := boolT) rfl Sz4 rfl rfl rfl (Cl.c rfl) (OneC.c rfl) (by omega) ?_)
    refine RG.nil (WP.region (RG.ml rfl (RG.p (PV.add rfl rfl rfl (by omega)) (RG.mr rfl (RG.nil ?_)))))
    refine ⟨rfl, x + 1, (ds.set ((y + 40) * 80 + x + 40).toNat true), ⟨by omega, by omega, by simpa using hld, fun y' x' h5 h6 => ?_⟩, ⟨rfl, trivial⟩, ⟨rfl, rfl, rfl, rfl, trivial⟩, Cv.p, by omega⟩
    rw [show ((y + 40) * 80 + x + 40).toNat = (y + 40).toNat * 80 + (x + 40).toNat by omega, gb_set hld (by omega) (by omega) h6, hd y' x' h5 h6]
    cases gb cs y' x' <;> (rw [Bool.eq_iff_iff]; split <;> simp <;> omega)
   ·have h4 := odf h4
    refine WP.exit (WP.region (RG.ml rfl (RG.p (PV.add rfl rfl rfl (by omega)) (RG.mr rfl (RG.nil ?_)))))
    refine ⟨rfl, y + 1, ds, ⟨by omega, by omega, hld, fun y' x' h5 h6 => ?_⟩, ⟨rfl, trivial⟩, ⟨rfl, rfl, rfl, trivial⟩, Cv.p, by omega⟩
    rw [hd y' x' h5 h6, hcc y' x' h5 h6]
    cases gb bs y' x' <;> (rw [Bool.eq_iff_iff]; simp [inR]; try omega)
  ·have h3 := odf h3
   refine WP.exit (WP.region (RG.ml rfl (RG.p (PV.add rfl rfl rfl (by omega)) (RG.mr rfl (RG.nil ?_)))))
   refine ⟨rfl, i + 1, cs, ⟨by omega, hlc, fun y' x' h5 h6 => ?_⟩, ⟨rfl, trivial⟩, ⟨rfl, rfl, trivial⟩, Cv.p, by omega⟩
   rw [hcc y' x' h5 h6, hc y' x' h5 h6, List.take_add_one, getG hi', List.any_append]
   have e : (inR (gd xs i) y' x' && decide ((y' : Int) - 40 < y)) = inR (gd xs i) y' x' := by
    rw [Bool.eq_iff_iff]; simp [inR]; omega
   rw [e]; simp
 ·have h2 := odf h2
  have e : bs = bits xs := bits_eq hl fun y x h3 h4 => by rw [hc y x h3 h4, List.take_of_length_le (by omega)]
  subst e
  refine WP.exit (WP.sr (RG.p (PV.move (v := v7) rfl rfl) (RG.p (PV.asg (v := v7) rfl rfl) (RG.nil ?_))))
  exact WP.ret ⟨_, _, rv rfl rfl, Cv.p, k v7⟩
theorem gd_map {α β : Type} [Inhabited α] [Inhabited β] (f : α -> β) {xs : List α} {i : Nat} (h : i < xs.length) : gd (xs.map f) i = f (gd xs i) := by
 rw [gd_eq h, gd_eq (by simpa using h)]; simp
theorem toI_inj {a b : List Nat} : (a.map toI = b.map toI) ↔ a = b := by
 constructor
 ·intro h
  refine (List.map_inj_right fun x y hxy => ?_).1 h
  simp only [toI] at hxy; omega
 ·rintro rfl; rfl
theorem runsI_eq (bs : List Bool) (e y : Int) : decide (runsI bs e = runsI bs y) = rowsEq bs (e + 40).toNat (y + 40).toNat := by
 rw [rowsEq, decide_eq_decide, runsI, runsI]; exact toI_inj
theorem pairs_drop {l : List Nat} {i : Nat} (h : i + 1 < l.length) : pairs (l.drop i) = (gd l i, gd l (i + 1)) :: pairs (l.drop (i + 2)) := by
 rw [List.drop_eq_getElem_cons (show i < l.length by omega), List.drop_eq_getElem_cons h, pairs, gd_eq (show i < l.length by omega), gd_eq h]
theorem pairs_nil {l : List Nat} {i : Nat} (h : ¬ i + 1 < l.length) : pairs (l.drop i) = [] := by
 have : (l.drop i).length <= 1 := by simp; omega
 match l.drop i, this with
 | [], _ => rfl
 | [_], _ => rfl
 | _ :: _ :: _, h => simp at h
theorem l03Canon_s {v : Value} {bs : List Bool} (h1 : Rs G L boolT v bs) (hl : bs.length = 6400) (k : ∀ v', R v' G (osl 101 rectT v' (canon bs) :: L)) : CallT Tryz.prog 103 #[v] G L R := by
 refine CallT.enter (args := _) Tryz.func103 rfl rfl (by kernel_rfl) rfl ?_
 refine WP.sr (RG.p (PV.asg rfl rfl) (RG.nil (WP.sr ?_)))
 refine RG.ot rfl (OT.bslice (F := rectT) (els := []) rfl El50 rfl (by decide) rfl (by decide) trivial fun v8 => ?_)
 refine RG.p (PV.asg (v := v8) rfl rfl) (RG.nil (WP.sr (RG.mr rfl (RG.nil (WP.seq (WP.block ?_))))))
 refine WP.loop3 [0] (fun (y : Int) (out : List Rect) (v0 : Value) => -40 <= y ∧ y <= 40 ∧ canon bs = out ++ canonFrom bs (y + 40).toNat ∧ out.length <= 81 * (y + 40).toNat) (fun (y : Int) (out : List Rect) (v0 : Value) => [(4, vi y), (3, v0)]) (fun (y : Int) (out : List Rect) (v0 : Value) => osl 101 rectT v0 out :: L) (fun (y : Int) (out : List Rect) (v0 : Value) => (40 - y).toNat) (-40) [] v8 ⟨by omega, by omega, rfl, by simp⟩ ⟨rfl, rfl, trivial⟩ Cv.p ?_
 rintro y out v0 τ ⟨hy0, hy1, hc, hlen⟩
 refine WP.seq (WP.sr (RG.ml rfl (RG.p (PV.lss rfl rfl rfl) (RG.nil ?_))))
 refine WP.cond rfl (fun h2 => ?_) fun h2 => ?_
 ·have h2 := odt h2
  refine WP.skip (WP.block (WP.sr (RG.p (PV.move (v := v) rfl rfl) (RG.ml rfl ?_))))
  refine RG.callF (vs := [v, _]) rfl rfl En149 rfl (l03Runs_s (Rs.up h1) hl (by omega) (fun v13 => ?_))
  refine RG.p (PV.asg (v := v13) rfl rfl) (RG.nil (WP.sr (RG.ml rfl (RG.p (PV.add rfl rfl rfl (by omega)) (RG.mr rfl (RG.nil ?_))))))
  refine WP.cut1 [0, 3, 4, 5] (fun (e : Int) => y + 1 <= e ∧ e <= 40 ∧ endFrom bs (y + 40).toNat ((y + 40).toNat + 1) = (e + 40).toNat) (fun (e : Int) => [(6, vi e)]) (fun (e : Int) => osl 2 intT v13 (runsI bs y) :: osl 101 rectT v0 out :: L) ?_ ?_
  refine WP.block ?_
  ·refine WP.loop1 [0, 3, 4, 5] (fun (e : Int) => y + 1 <= e ∧ e <= 40 ∧ endFrom bs (y + 40).toNat ((y + 40).toNat + 1) = endFrom bs (y + 40).toNat (e + 40).toNat) (fun (e : Int) => [(6, vi e)]) (fun (e : Int) => osl 2 intT v13 (runsI bs y) :: osl 101 rectT v0 out :: L) (fun (e : Int) => (40 - e).toNat) (y + 1) ⟨by omega, by omega, by congr 1; omega⟩ ⟨rfl, trivial⟩ Cv.p ?_
   rintro e τ1 ⟨he0, he1, hee⟩
   refine WP.seq (WP.sr (RG.ml rfl (RG.p (PV.lss rfl rfl rfl) (RG.bl rfl ?_))))
   refine RG.spl (t := 18) rfl (fun h3 => ?_) (fun h3 => ?_)
   ·have h6 := odt h3
    refine RG.take rfl rfl rfl h3 ?_
    refine RG.p (PV.move (v := v) rfl rfl) ?_
    refine RG.take rfl rfl rfl h3 ?_
    refine RG.ml rfl ?_
    refine RG.take rfl rfl rfl h3 ?_
    refine RG.callF (vs := [v, _]) rfl rfl En149 rfl (l03Runs_s (Rs.up h1) hl (by omega) (fun v21 => ?_))
    refine RG.take rfl rfl rfl h3 ?_
    refine RG.p (PV.move (v := v13) rfl rfl) ?_
    refine RG.take rfl rfl rfl h3 ?_
    refine RG.callF (vs := [v21, v13]) rfl rfl En150 rfl (l03Equal_s Rs.o Rs.o ?_)
    refine RG.p (PV.pickT rfl rfl h3 rfl) (RG.nil ?_)
    refine WP.cond rfl (fun h4 => ?_) fun h4 => ?_
    ·rw [runsI_eq] at h4
     refine WP.skip (WP.block (WP.region (RG.ml rfl (RG.p (PV.add rfl rfl rfl (by omega)) (RG.mr rfl (RG.nil ?_))))))
     refine ⟨rfl, e + 1, ⟨by omega, by omega, ?_⟩, ⟨rfl, trivial⟩, ⟨rfl, rfl, rfl, rfl, trivial⟩, Cv.p, by omega⟩
     rw [hee, endFrom, if_pos ⟨by omega, h4⟩]; congr 1; omega
    ·rw [runsI_eq] at h4
     have h5 : endFrom bs (y + 40).toNat ((y + 40).toNat + 1) = (e + 40).toNat := by
      rw [hee, endFrom, if_neg (by simp [h4])]
     refine WP.exit ?_
     exact ⟨rfl, e, ⟨he0, he1, h5⟩, ⟨rfl, trivial⟩, ⟨rfl, rfl, rfl, rfl, trivial⟩, Cv.p⟩
   ·have h6 := odf h3
    have h5 : endFrom bs (y + 40).toNat ((y + 40).toNat + 1) = (e + 40).toNat := by
     rw [hee, endFrom, if_neg (by omega)]
    refine RG.skip rfl rfl rfl (gne h3) ?_
    refine RG.skip rfl rfl rfl (gne h3) ?_
    refine RG.skip rfl rfl rfl (gne h3) ?_
    refine RG.skip rfl rfl rfl (gne h3) ?_
    refine RG.skip rfl rfl rfl (gne h3) ?_
    refine RG.p (PV.pickE rfl rfl h3 rfl) (RG.nil ?_)
    refine WP.cond rfl (fun h4 => ?_) fun h4 => ?_
    ·cases h4
    ·refine WP.exit ?_
     exact ⟨rfl, e, ⟨he0, he1, h5⟩, ⟨rfl, trivial⟩, ⟨rfl, rfl, rfl, rfl, trivial⟩, Cv.p⟩
  ·rintro e τ2 ⟨he0, he1, h5⟩
   refine WP.seq (WP.sr (RG.mr rfl (RG.nil (WP.block ?_))))
   refine WP.loop3 [0, 4, 5, 6] (fun (i : Nat) (out' : List Rect) (v' : Value) => i <= 82 ∧ out ++ (pairs (trans (gb bs (y + 40).toNat))).map (mkR (y + 40).toNat (e + 40).toNat) = out' ++ (pairs ((trans (gb bs (y + 40).toNat)).drop i)).map (mkR (y + 40).toNat (e + 40).toNat) ∧ 2 * out'.length <= 2 * out.length + i) (fun (i : Nat) (out' : List Rect) (v' : Value) => [(7, vi i), (3, v')]) (fun (i : Nat) (out' : List Rect) (v' : Value) => osl 2 intT v13 (runsI bs y) :: osl 101 rectT v' out' :: L) (fun (i : Nat) (out' : List Rect) (v' : Value) => 84 - i) 0 out v0 ⟨by omega, rfl, by omega⟩ ⟨rfl, rfl, trivial⟩ Cv.p ?_
   rintro i out' v' τ3 ⟨hi, ho, hl2⟩
   refine WP.seq (WP.sr (RG.ml rfl (RG.p (PV.add rfl rfl rfl (by omega)) (RG.p (PV.move (v := v13) rfl rfl) (RG.p (PV.len (v := v13) rfl Tryz.underlying45 rfl SlF.o) (RG.p (PV.lss rfl rfl rfl) (RG.nil ?_)))))))
   have ht := trans_len (gb bs (y + 40).toNat)
   have hrl : (runsI bs y).length = (trans (gb bs (y + 40).toNat)).length := by simp [runsI]
   refine WP.cond rfl (fun h6 => ?_) fun h6 => ?_
   ·have h6 := odt h6
    have h7 : i + 1 < (trans (gb bs (y + 40).toNat)).length := by omega
    refine WP.skip (WP.seq (WP.block ?_))
    refine WP.regionHD [.s v'] (.q 0 (.q 1 (.q 2 (.q 3 (.q 4 (.q 5 (.q 6 (.q 7 (.q 8 (.q 9 (.q 10 (.q 11 (.q 12 (.l 13 (.l 14 (.q 15 Sch.nil)))))))))))))))) (by kernel_rfl) (by kernel_rfl) (by kernel_rfl) rfl ?_
    refine RH.w rfl rfl (PV.move (v := v') rfl rfl) (RH.w rfl rfl (PV.move (v := v13) rfl rfl) (RH.w rfl rfl (PV.mvI (.inl rfl) rfl) (RH.w rfl rfl (PV.idxS (v := v13) rfl Is45 rfl SlF.o rfl rfl (by omega)) (RH.w rfl rfl (PV.loadE1 rfl Sc2 rfl rfl (El.o (getG (by omega))) rfl) (RH.w rfl rfl (PV.mvI (.inl rfl) rfl) (RH.w rfl rfl (PV.move (v := v13) rfl rfl) (RH.w rfl rfl (PV.mvI (.inl rfl) rfl) (RH.w rfl rfl (PV.add rfl rfl rfl (by omega)) (RH.w rfl rfl (PV.idxS (j := i + 1) (v := v13) rfl Is45 rfl SlF.o rfl (by omega) (by omega)) (RH.w rfl rfl (PV.loadE1 rfl Sc2 rfl rfl (El.o (getG (by omega))) rfl) (RH.w rfl rfl (PV.mvI (.inl rfl) rfl) (RH.w rfl rfl (PV.build (vs := [(0, [vi _]), (1, [vi _]), (2, [vi _]), (3, [vi _])]) (out := [_, _, _, _]) rfl Zr101 Pl101 ⟨rfl, (Cl.c rfl), ⟨rfl, (Cl.c rfl), ⟨rfl, (Cl.c rfl), ⟨rfl, (Cl.c rfl), trivial⟩⟩⟩⟩ rfl) ?_))))))))))))
    refine RH.ot rfl rfl (OT.bslice (F := rectT) (els := [⟨_, _, _, _⟩]) rfl El50 rfl (by decide) rfl (by decide) ⟨rfl, (Cl.c rfl), trivial⟩ fun v47 => (kp ?_))
    refine RH.ot rfl rfl (OT.append (v := v') (u := v47) (F := rectT) rfl El50 rfl (by decide) rfl rfl Rs.o (OneL.c (fun _ => rfl)) rfl (by first | omega | (simp <;> omega)) fun v48 => (kp ?_))
    refine RH.w rfl rfl (PV.asg (v := v48) rfl rfl) (RH.nil (WP.region (RG.ml rfl (RG.p (PV.add rfl rfl rfl (by omega)) (RG.mr rfl (RG.nil ?_))))))
    refine ⟨rfl, i + 2, (out' ++ [⟨gd (runsI bs y) i, y, gd (runsI bs y) (i + 1), e⟩]), v48, ⟨by omega, ?_, by simp; omega⟩, ⟨rfl, rfl, trivial⟩, ⟨rfl, rfl, rfl, rfl, trivial⟩, Cv.p, by omega⟩
    rw [ho, pairs_drop h7, runsI, gd_map _ (by omega), gd_map _ h7]
    simp only [List.map_cons, mkR, toI, List.append_assoc, List.singleton_append, List.cons_append, List.nil_append]
    congr 3 <;> omega
   ·have h6 := odf h6
    refine WP.exit (WP.region (RG.ml rfl (RG.mr rfl (RG.nil ?_))))
    refine ⟨rfl, e, out', v', ⟨by omega, by omega, ?_, ?_⟩, ⟨rfl, rfl, trivial⟩, ⟨rfl, trivial⟩, Cv.p, by omega⟩
    ·have h8 : (y + 40).toNat < 80 := by omega
     rw [hc, canonFrom, if_pos h8, h5, <- pairs_trans0, <- List.append_assoc, ho, pairs_nil (by omega)]
     simp
    ·omega
 ·have h2 := odf h2
  have e : out = canon bs := by
   have : (y + 40).toNat = 80 := by omega
   rw [hc, this, canonFrom]; simp
  rw [e]
  refine WP.exit (WP.sr (RG.p (PV.move (v := v0) rfl rfl) (RG.p (PV.asg (v := v0) rfl rfl) (RG.nil ?_))))
  exact WP.ret ⟨_, _, rv rfl rfl, Cv.p, k v0⟩
theorem Cv.cons {c : Ch} {L L' : List Ch} (h : Cv L L') : Cv (c :: L) (c :: L') := fun hp ⟨h1, h2, d, l1, l2, cc, s⟩ => ⟨h1, h2, d, l1, l2, cc, h h2 s⟩
theorem Cv.ex {c : Ch} {L L' : List Ch} (h : Ex c L L') : Cv L (c :: L') := fun _ s => h.sep s
def hu (a b : Hp) : Hp := fun x => if (a x).isSome then a x else b x
theorem hu_l (a b : Hp) : Hp.le a (hu a b) := fun x o h => by simp [hu, h]
theorem hu_r {a b : Hp} (d : Hp.dj a b) : Hp.le b (hu a b) := fun x o h => by
 rcases d x with e | e
 ·simp [hu, e, h]
 ·rw [e] at h; cases h
theorem hu_le {a b c : Hp} (h : Hp.le a c) (k : Hp.le b c) : Hp.le (hu a b) c := fun x o e => by
 unfold hu at e; split at e
 ·exact h x o e
 ·exact k x o e
theorem hu_dj {a b c : Hp} (h : Hp.dj a c) (k : Hp.dj b c) : Hp.dj (hu a b) c := fun x => by
 rcases h x with e | e
 ·rcases k x with e' | e'
  ·left; simp [hu, e, e']
  ·exact .inr e'
 ·exact .inr e
theorem Hp.dj_symm {a b : Hp} (h : Hp.dj a b) : Hp.dj b a := fun x => (h x).symm
theorem Hp.dj_le {a b a' : Hp} (h : Hp.dj a b) (l : Hp.le a' a) : Hp.dj a' b := fun x => by
 rcases h x with e | e
 ·left
  cases h' : a' x with
  | none => rfl
  | some o => rw [l x o h'] at e; cases e
 ·exact .inr e
theorem sep_app : ∀ {A B : List Ch} {hp : Hp}, Sep (A ++ B) hp -> ∃ a b, Hp.dj a b ∧ Hp.le a hp ∧ Hp.le b hp ∧ Sep A a ∧ Sep B b
 | [], B, hp, h => ⟨fun _ => none, hp, fun _ => .inl rfl, (fun _ _ e => by cases e), Hp.le_refl _, trivial, h⟩
 | c :: A, B, hp, ⟨h1, h2, d, l1, l2, cc, s⟩ => by
  obtain ⟨a, b, d', m1, m2, sa, sb⟩ := sep_app s
  exact ⟨hu h1 a, b, hu_dj (Hp.dj_symm (Hp.dj_le (Hp.dj_symm d) m2)) d', hu_le l1 (Hp.le_trans m1 l2), Hp.le_trans m2 l2, ⟨h1, a, Hp.dj_symm (Hp.dj_le (Hp.dj_symm d) m1), hu_l _ _, hu_r (Hp.dj_symm (Hp.dj_le (Hp.dj_symm d) m1)), cc, sa⟩, sb⟩
theorem app_sep : ∀ {A B : List Ch} {hp a b : Hp}, Hp.dj a b -> Hp.le a hp -> Hp.le b hp -> Sep A a -> Sep B b -> Sep (A ++ B) hp
 | [], B, hp, a, b, _, _, l, _, s => s.up l
 | c :: A, B, hp, a, b, d, la, lb, ⟨h1, h2, d', m1, m2, cc, sa⟩, sb =>
  ⟨h1, hu h2 b, Hp.dj_symm (hu_dj (Hp.dj_symm d') (Hp.dj_symm (Hp.dj_le d m1))), Hp.le_trans m1 la, hu_le (Hp.le_trans m2 la) lb, cc,
   app_sep (Hp.dj_le d m2) (hu_l _ _) (hu_r (Hp.dj_le d m2)) sa sb⟩
theorem Cv.swap {A B L : List Ch} : Cv (A ++ B ++ L) (B ++ A ++ L) := fun hp s => by
 obtain ⟨ab, c, d, l1, l2, sab, sc⟩ := sep_app s
 obtain ⟨a, b, d', m1, m2, sa, sb⟩ := sep_app sab
 exact app_sep d l1 l2 (app_sep (Hp.dj_symm d') m2 m1 sb sa) sc
def bag (B : List Ch) : Ch := Sep B
def emp : Ch := fun _ => True
theorem Cv.bagNil {L : List Ch} : Cv L (bag [] :: L) := fun hp s => ⟨fun _ => none, hp, fun _ => .inl rfl, (fun _ _ e => by cases e), Hp.le_refl _, trivial, s⟩
theorem Cv.toBag {B L : List Ch} : Cv (B ++ L) (bag B :: L) := fun hp s => sep_app s
theorem Cv.ofBag {B L : List Ch} : Cv (bag B :: L) (B ++ L) := fun hp ⟨a, b, d, l1, l2, sa, sb⟩ => app_sep d l1 l2 sa sb
theorem Cv.bagAdd {c : Ch} {B L : List Ch} : Cv (c :: bag B :: L) (bag (B ++ [c]) :: L) :=
 (Cv.cons Cv.ofBag).trans ((Cv.swap (A := [c]) (B := B)).trans Cv.toBag)
theorem set_split {B : List Ch} {i : Nat} {c : Ch} (h : i < B.length) : B.set i c = B.take i ++ c :: B.drop (i + 1) := List.set_eq_take_append_cons_drop (a := c) ▸ by simp [h]
theorem get_split {B : List Ch} {i : Nat} {c : Ch} (h : B[i]? = some c) : B = B.take i ++ c :: B.drop (i + 1) := by
 obtain ⟨hi, rfl⟩ := List.getElem?_eq_some_iff.1 h
 rw [<- List.drop_eq_getElem_cons hi, List.take_append_drop]
theorem Cv.bagTake {B L : List Ch} {c : Ch} (i : Nat) (h : B[i]? = some c) : Cv (bag B :: L) (c :: bag (B.set i emp) :: L) := by
 have hi := (List.getElem?_eq_some_iff.1 h).1
 intro hp ⟨a, b, d, l1, l2, sa, sb⟩
 have e := get_split h
 rw [set_split hi]
 have sa : Sep B a := sa
 rw [e] at sa
 obtain ⟨x, y, d', m1, m2, sx, sy⟩ := sep_app sa
 obtain ⟨h1, h2, d2, n1, n2, cc, s2⟩ := sy
 refine ⟨h1, hu (hu x h2) b, ?_, Hp.le_trans n1 (Hp.le_trans m2 l1), hu_le (hu_le (Hp.le_trans m1 l1) (Hp.le_trans n2 (Hp.le_trans m2 l1))) l2, cc, hu x h2, b, ?_, hu_l _ _, hu_r ?_, ?_, sb⟩
 ·exact Hp.dj_symm (hu_dj (hu_dj (Hp.dj_symm (Hp.dj_le (Hp.dj_symm d') n1)) (Hp.dj_symm d2)) (Hp.dj_symm (Hp.dj_le d (Hp.le_trans n1 m2))))
 ·exact hu_dj (Hp.dj_le d m1) (Hp.dj_le d (Hp.le_trans n2 m2))
 ·exact hu_dj (Hp.dj_le d m1) (Hp.dj_le d (Hp.le_trans n2 m2))
 ·have dx : Hp.dj x h2 := Hp.dj_symm (Hp.dj_le (Hp.dj_symm d') n2)
  refine app_sep dx (hu_l _ _) (hu_r dx) sx ?_
  exact ⟨fun _ => none, h2, fun _ => .inl rfl, (fun _ _ e => by cases e), Hp.le_refl _, trivial, s2⟩
theorem Cv.bagPut {B L : List Ch} {c : Ch} (i : Nat) (hi : i < B.length) : Cv (c :: bag B :: L) (bag (B.set i c) :: L) := by
 intro hp ⟨h1, h2, d, l1, l2, cc, a, b, d', m1, m2, sa, sb⟩
 have e := get_split (List.getElem?_eq_getElem hi)
 have sa : Sep B a := sa
 rw [e] at sa
 obtain ⟨x, y, d2, n1, n2, sx, y1, y2, d3, o1, o2, _, sy⟩ := sep_app sa
 refine ⟨hu h1 (hu x y2), b, ?_, hu_le l1 (hu_le (Hp.le_trans n1 (Hp.le_trans m1 l2)) (Hp.le_trans o2 (Hp.le_trans n2 (Hp.le_trans m1 l2)))), Hp.le_trans m2 l2, ?_, sb⟩
 ·exact hu_dj (Hp.dj_symm (Hp.dj_le (Hp.dj_symm d) m2)) (hu_dj (Hp.dj_le d' n1) (Hp.dj_le d' (Hp.le_trans o2 n2)))
 ·show Sep _ _
  rw [set_split hi]
  have dxy : Hp.dj x y2 := Hp.dj_symm (Hp.dj_le (Hp.dj_symm d2) o2)
  have d1x : Hp.dj h1 x := Hp.dj_symm (Hp.dj_le (Hp.dj_symm d) (Hp.le_trans n1 m1))
  have d1y : Hp.dj h1 y2 := Hp.dj_symm (Hp.dj_le (Hp.dj_symm d) (Hp.le_trans o2 (Hp.le_trans n2 m1)))
  refine app_sep (a := x) (b := hu h1 y2) ?_ ?_ ?_ sx ⟨h1, y2, d1y, hu_l _ _, hu_r d1y, cc, sy⟩
  ·exact Hp.dj_symm (hu_dj d1x (Hp.dj_symm dxy))
  ·exact Hp.le_trans (hu_l x y2) (hu_r (Hp.dj_symm (hu_dj (Hp.dj_symm d1x) (Hp.dj_symm d1y))))
  ·exact hu_le (hu_l _ _) (Hp.le_trans (hu_r dxy) (hu_r (Hp.dj_symm (hu_dj (Hp.dj_symm d1x) (Hp.dj_symm d1y)))))
section
variable {P : Program} {n : Nat} {Q : Post} {σ : Nat -> Value} {G : Gh} {L L' : List Ch} {ops : Array Oper} {rest : List Oper}
theorem WP.cv {c : Code} (h : Cv L L') (k : WP P n c Q σ G L') : WP P n c Q σ G L := WP.of fun hk _ _ ha hs => k.run hk ha (hs.cv h)
theorem CallT.cv {f : FuncId} {args : Array Value} {R : Value -> Gh -> List Ch -> Prop} (h : Cv L L') (k : CallT P f args G L' R) : CallT P f args G L R := CallT.of fun _ hs => k.run (hs.cv h)
theorem Rs.cv {α : Type} {T : FT α} {v : Value} {xs : List α} (c : Cv L L') (h : Rs G L' T v xs) : Rs G L T v xs := fun w hs => h w (hs.cv c)
end
theorem Cv.nilS {α : Type} {e : TypeId} {F : FT α} {L : List Ch} : Cv L (osl e F (.slice none 0 0) [] :: L) := fun hp s => ⟨fun _ => none, hp, fun _ => .inl rfl, (fun _ _ e => by cases e), Hp.le_refl _, .inl ⟨rfl, rfl⟩, s⟩
def RsE {α : Type} (G : Gh) (L : List Ch) (F : FT α) (xs : List (Sl α)) : Prop := ∀ i, i < xs.length -> Rs G L F (gd xs i).v (gd xs i).xs
theorem RsE.up {α : Type} {G : Gh} {L L' : List Ch} {F : FT α} {xs : List (Sl α)} (h : RsE G L F xs) [p : PickC L L'] : RsE G L' F xs := fun i hi => (h i hi).up
def er {α : Type} (xs : List (Sl α)) : List (List α) := xs.map Sl.xs
theorem er_len {α : Type} (xs : List (Sl α)) : (er xs).length = xs.length := by simp [er]
theorem er_gd {α : Type} (xs : List (Sl α)) (i : Nat) : gd (er xs) i = (gd xs i).xs := by
 simp only [gd, er, List.getElem?_map]
 cases xs[i]? <;> rfl
def ownS {α : Type} (e : TypeId) (F : FT α) (s : Sl α) : Ch := osl e F s.v s.xs
abbrev bagS {α : Type} (e : TypeId) (F : FT α) (xs : List (Sl α)) : Ch := bag (xs.map (ownS e F))
theorem map_get {α β : Type} [Inhabited α] {f : α -> β} {xs : List α} {i : Nat} (h : i < xs.length) : (xs.map f)[i]? = some (f (gd xs i)) := by simp [gd, h]
class ExBg {α : Type} (xs : List (Sl α)) (L : List Ch) (e : outParam TypeId) (F : outParam (FT α)) (L' : outParam (List Ch)) : Prop where
  ex : Ex (bagS e F xs) L L'
instance (priority := low) {α : Type} (xs : List (Sl α)) (x : Ch) (L : List Ch) (e : TypeId) (F : FT α) (L' : List Ch) [h : ExBg xs L e F L'] : ExBg xs (x :: L) e F (x :: L') := ⟨.tail x h.ex⟩
instance {α : Type} (xs : List (Sl α)) (L : List Ch) (e : TypeId) (F : FT α) : ExBg xs (bagS e F xs :: L) e F L := ⟨.head _ L⟩
theorem Rs.inBag {α : Type} {G : Gh} {L L' : List Ch} {e : TypeId} {F : FT α} {xs : List (Sl α)} (i : Nat) (hi : i < xs.length) [hX : ExBg xs L e F L'] : Rs G L F (gd xs i).v (gd xs i).xs :=
 Rs.cv (L' := osl e F (gd xs i).v (gd xs i).xs :: bag ((xs.map (ownS e F)).set i emp) :: L') ((Cv.ex hX.ex).trans (Cv.bagTake i (map_get hi))) Rs.o
theorem RsE.o {α : Type} {G : Gh} {L L' : List Ch} {e : TypeId} {F : FT α} {xs : List (Sl α)} [hX : ExBg xs L e F L'] : RsE G L F xs := fun i hi => Rs.inBag (L := L) (L' := L') (e := e) (F := F) (xs := xs) i hi
theorem Cv.bagS_take {α : Type} {e : TypeId} {F : FT α} {xs : List (Sl α)} {L : List Ch} (i : Nat) (hi : i < xs.length) : Cv (bagS e F xs :: L) (osl e F (gd xs i).v (gd xs i).xs :: bag ((xs.map (ownS e F)).set i emp) :: L) :=
 Cv.bagTake i (map_get hi)
theorem Cv.bagS_put {α : Type} {e : TypeId} {F : FT α} {xs : List (Sl α)} {v : Value} {ys : List α} {L : List Ch} (i : Nat) (hi : i < xs.length) : Cv (osl e F v ys :: bag ((xs.map (ownS e F)).set i emp) :: L) (bagS e F (xs.set i ⟨v, ys⟩) :: L) := by
 have h := Cv.bagPut (B := (xs.map (ownS e F)).set i emp) (L := L) (c := osl e F v ys) i (by simpa using hi)
 rw [List.set_set] at h
 have e1 : (xs.map (ownS e F)).set i (osl e F v ys) = (xs.set i ⟨v, ys⟩).map (ownS e F) := by rw [List.map_set]; rfl
 rw [e1] at h; exact h
theorem Cv.bagS_add {α : Type} {e : TypeId} {F : FT α} {xs : List (Sl α)} {v : Value} {ys : List α} {L : List Ch} : Cv (osl e F v ys :: bagS e F xs :: L) (bagS e F (xs ++ [⟨v, ys⟩]) :: L) := by
 have h := Cv.bagAdd (c := osl e F v ys) (B := xs.map (ownS e F)) (L := L)
 have e1 : xs.map (ownS e F) ++ [osl e F v ys] = (xs ++ [(⟨v, ys⟩ : Sl α)]).map (ownS e F) := by simp [ownS]
 rw [e1] at h; exact h
theorem Cv.slotNew {α : Type} {e e' : TypeId} {F : FT α} {v u : Value} {zs : List (Sl α)} {ys : List α} {L : List Ch} :
  Cv (osl e F u ys :: osl e' slT v (zs ++ [⟨u, ys⟩]) :: bagS e F zs :: L) (osl e' slT v (zs ++ [⟨u, ys⟩]) :: bagS e F (zs ++ [⟨u, ys⟩]) :: L) := by
 have h1 : Cv (osl e F u ys :: osl e' slT v (zs ++ [⟨u, ys⟩]) :: bagS e F zs :: L) (osl e' slT v (zs ++ [⟨u, ys⟩]) :: osl e F u ys :: bagS e F zs :: L) := Cv.swap (A := [osl e F u ys]) (B := [osl e' slT v (zs ++ [⟨u, ys⟩])])
 exact h1.trans (Cv.cons Cv.bagS_add)
theorem Cv.eqS {α : Type} {e : TypeId} {F : FT α} {v : Value} {xs ys : List α} {L : List Ch} (h : xs = ys) : Cv (osl e F v xs :: L) (osl e F v ys :: L) := by subst h; exact Cv.refl _
theorem Cv.bag0 {α : Type} {e : TypeId} {F : FT α} {xs : List (Sl α)} {L : List Ch} (h : xs = []) : Cv L (bagS e F xs :: L) := by subst h; exact Cv.bagNil
theorem Cv.grow {α : Type} {e : TypeId} {F : FT α} {u : Value} {us : List α} {ys ys' : List (Sl α)} {L : List Ch} (h : ys' = ys ++ [⟨u, us⟩]) : Cv (osl e F u us :: bagS e F ys :: L) (bagS e F ys' :: L) := by subst h; exact Cv.bagS_add
theorem splice_splice (cs vs us : List Value) (k j : Nat) (h : j + us.length <= vs.length) (hk : k + vs.length <= cs.length) (hv : ∀ i, i < vs.length -> cs[k + i]? = vs[i]?) : splice cs k (splice vs j us) = splice cs (k + j) us := by
 apply List.ext_getElem?
 intro i
 rw [splice_get (splice vs j us) cs k i (by rw [splice_length]; omega), splice_get us cs (k + j) i (by omega), splice_length]
 by_cases h1 : k <= i ∧ i < k + vs.length
 ·rw [if_pos h1, splice_get us vs j (i - k) h]
  by_cases h2 : j <= i - k ∧ i - k < j + us.length
  ·rw [if_pos h2, if_pos (by omega)]; congr 1; omega
  ·rw [if_neg h2, if_neg (by omega), <- hv (i - k) (by omega)]; congr 1; omega
 ·rw [if_neg h1, if_neg (by omega)]
theorem flat_at {α : Type} [Inhabited α] (F : FT α) {xs : List α} {i : Nat} (hi : i < xs.length) : ∀ j, j < (F.enc (gd xs i)).length -> (F.flat xs)[i * F.sz + j]? = (F.enc (gd xs i))[j]? := fun j hj => by
 have hc : (F.enc (gd xs i))[j]? = some (F.enc (gd xs i))[j] := List.getElem?_eq_getElem hj
 rw [F.flat_get (getG hi) hc, hc]
theorem set_self {α : Type} [Inhabited α] {xs : List α} {i : Nat} (hi : i < xs.length) : xs = xs.set i (gd xs i) := by
 rw [gd_eq hi, List.set_getElem_self]
section
variable {P : Program} {n : Nat} {σ : Nat -> Value} {G : Gh} {L : List Ch} {o : Oper} {t : TypeId} {x y : Operand} {v : Value} {K : (Nat -> Value) -> Gh -> List Ch -> Prop}
theorem OT.storeF {α β : Type} [Inhabited α] {F : FT α} {e : TypeId} {xs ys : List α} {a : α} {val : β -> Value} {cv : β -> List Value} {u : β} {st : β -> α -> α} {s m i j : Nat} {sl : Value} {L' : List Ch} (ho : o.op = .store t x y) (hS : ∀ w, (sizeOf t).run P w = .ok m w) (hx : ev σ x = .pointer (some ⟨sb sl, so sl + i * s + j, none⟩)) (hs0 : s = F.sz) (hy : ev σ y = val u)
  (hv' : Cl G L (val u) (cv u)) (hl : (cv u).length = m) (h1' : OneC G L (cv u)) [hX : ExS sl L α e F xs L'] (hxs : xs = ys.set i a) (hi : i < ys.length) (hj : Nat.ble (j + m) F.sz = true) (he : ∀ u a, splice (F.enc a) j (cv u) = F.enc (st u a)) (K1 : K (updo σ o.dst undef) G (osl e F sl (ys.set i (st u a)) :: L')) : OT P n o σ G L K := by
 generalize hvs : cv u = vs at hl h1' hv'
 generalize hvu : val u = v at hy hv'
 have hj := Nat.le_of_ble_eq_true hj
 subst hs0 hl
 have hlen : xs.length = ys.length := by rw [hxs]; simp
 have hga : gd xs i = a := by rw [hxs, gd_eq (by simpa using hi)]; simp
 have hle : i * F.sz + F.sz <= xs.length * F.sz := by
  have := Nat.mul_le_mul_right F.sz (show i + 1 <= xs.length by omega); rwa [Nat.add_mul, Nat.one_mul] at this
 refine OT.ofRunU fun w hs => ?_
 have h1 := allOne_all (h1' w hs)
 have hv := hv' w hs
 have hb : ∃ b cap c, sl = .slice (some ⟨b, 0, none⟩) xs.length cap ∧ wh w b = some (.cells c e (0, 0)) ∧ xs.length <= cap ∧ cap <= maxLen ∧ c.size = cap * F.sz ∧ c.toList.take (xs.length * F.sz) = F.flat xs := by
  obtain ⟨hp, s, l1, l2, d⟩ := hs
  obtain ⟨g1, g2, _, m1, _, cc, _⟩ := hX.ex.sep s
  rcases cc with ⟨_, h⟩ | ⟨b, cap, c, h1, h2, h3⟩
  ·simp [h] at hlen; omega
  ·exact ⟨b, cap, c, h1, l2 _ _ (m1 _ _ h2), h3⟩
 obtain ⟨b, cap, c, rfl, hb, h3, h4, h5, h6⟩ := hb
 simp only [sb, so, Nat.zero_add] at hx
 have hsz : v.cells.size = vs.length := by rw [<- hv]; simp
 have hcap : xs.length * F.sz <= c.size := by rw [h5]; exact Nat.mul_le_mul_right _ h3
 obtain ⟨w', hr, hq, hw'⟩ := storeCells_run (P := P) vs b (i * F.sz + j) 0 c e w h1 hb (by omega)
 have hrun : (storeVar t ⟨b, i * F.sz + j, none⟩ v).run P w = .ok () w' := by
  simp [storeVar, hS w, hsz, hv, hr]
 refine ⟨G, _, w', ?_, hs.set hq hX.ex (b := b) (fun h hh => ?_) hw' (c' := osl e F (.slice (some ⟨b, 0, none⟩) xs.length cap) (ys.set i (st u a))) (fun h hh _ => ?_), K1⟩
 ·simp [execOp, ho, hx, hy, Instr.storeAt, Instr.sureAddr, hrun]
 ·rcases hh with ⟨_, h⟩ | ⟨b', cap', c', h1, h2, _⟩
  ·simp [h] at hlen; omega
  ·simp only [Value.slice.injEq, Option.some.injEq, Addr.mk.injEq] at h1
   obtain ⟨⟨rfl, _⟩, _⟩ := h1
   simp [h2]
 ·refine .inr ⟨b, cap, (splice c.toList (i * F.sz + j + 0) vs).toArray, by simp [hlen], by simp, by simp; omega, h4, by simp [splice_length, h5], ?_⟩
  have e1 : F.flat (ys.set i (st u a)) = splice (F.flat xs) (i * F.sz) (F.enc (st u a)) := by
   rw [<- flat_set F xs i (st u a) (by omega), hxs, List.set_set]
  rw [List.length_set, Nat.add_zero, <- hlen, e1, <- he, hvs, <- hga, splice_splice _ _ _ _ _ (by rw [F.len]; exact hj) (by rw [F.len, F.flat_len]; exact hle) (fun k hk => flat_at F (by omega) k hk), <- h6]
  exact splice_take _ _ _ _ (by omega) (by simpa using hcap)
end
def costL {α : Type} (n : α -> Int) : List α -> Int
  | [] => 0
  | a :: l => n a + costL n l
theorem costL_append {α : Type} (n : α -> Int) : ∀ (xs ys : List α), costL n (xs ++ ys) = costL n xs + costL n ys
 | [], ys => by simp [costL]
 | x :: xs, ys => by simp only [List.cons_append, costL, costL_append n xs ys]; omega
theorem costL_take {α : Type} [Inhabited α] (n : α -> Int) {xs : List α} {i : Nat} (h : i < xs.length) : costL n (xs.take (i + 1)) = costL n (xs.take i) + n (gd xs i) := by
 rw [List.take_add_one, getG h, costL_append]; simp [costL]
theorem costL_nonneg {α : Type} {n : α -> Int} (hn : ∀ a, 0 <= n a) : ∀ xs : List α, 0 <= costL n xs
 | [] => Int.le_refl _
 | x :: xs => by have := costL_nonneg hn xs; have := hn x; simp only [costL]; omega
theorem costL_const {α : Type} (c : Int) : ∀ xs : List α, costL (fun _ => c) xs = c * xs.length
 | [] => by simp [costL]
 | x :: xs => by simp only [costL, costL_const c xs, List.length_cons]; rw [Int.natCast_succ, Int.mul_add]; omega
def slv (s : Nat) (v : Value) (lo hi : Nat) : Value :=
  match v with
  | .slice a n c => .slice (if c = lo then a else a.map (·.add (lo * s))) (hi - lo) (c - lo)
  | v => v
def optAt (σ : Nat -> Value) (x : Option Operand) (d j : Nat) : Prop :=
  match x with
  | none => j = d
  | some x => ∃ k, ev σ x = .int k (j : Int)
theorem FT.flat_drop {α : Type} (F : FT α) : ∀ (xs : List α) (k : Nat), F.flat (xs.drop k) = (F.flat xs).drop (k * F.sz)
 | xs, 0 => by simp
 | [], k + 1 => by simp [FT.flat]
 | x :: xs, k + 1 => by
  have ih := FT.flat_drop F xs k
  have e : F.flat (x :: xs) = F.enc x ++ F.flat xs := by simp [FT.flat]
  rw [List.drop_succ_cons, ih, e, List.drop_append, F.len, List.drop_of_length_le (l := F.enc x) (by rw [F.len, Nat.add_mul]; omega), List.nil_append]
  congr 1; rw [Nat.add_mul]; omega
theorem FT.flat_take {α : Type} (F : FT α) : ∀ (xs : List α) (k : Nat), F.flat (xs.take k) = (F.flat xs).take (k * F.sz)
 | xs, 0 => by simp [FT.flat]
 | [], k + 1 => by simp [FT.flat]
 | x :: xs, k + 1 => by
  have ih := FT.flat_take F xs k
  have e : F.flat (x :: xs) = F.enc x ++ F.flat xs := by simp [FT.flat]
  have e' : F.flat (x :: xs.take k) = F.enc x ++ F.flat (xs.take k) := by simp [FT.flat]
  rw [List.take_succ_cons, e', ih, e, List.take_append, F.len, List.take_of_length_le (l := F.enc x) (by rw [F.len, Nat.add_mul]; omega)]
  congr 2; rw [Nat.add_mul]; omega
theorem IsSl.slv {v : Value} {n s lo hi : Nat} (h : IsSl v n) (h1 : lo <= hi) (h2 : hi <= n) : IsSl (slv s v lo hi) (hi - lo) := by
 obtain ⟨c, hc1, hc2, ⟨b, k, rfl⟩ | ⟨⟨a, rfl⟩, h0⟩⟩ := h
 ·refine ⟨c - lo, by omega, by omega, ?_⟩
  simp only [Go.Proofs.YtogocmlhnjiaaaaGreat.slv]
  by_cases e : c = lo
  ·rw [if_pos e]; exact .inl ⟨b, k, rfl⟩
  ·rw [if_neg e]; exact .inl ⟨b, k + lo * s, by simp [add_none]⟩
 ·refine ⟨c - lo, by omega, by omega, .inr ⟨⟨_, rfl⟩, by omega⟩⟩
theorem Rs.slv {α : Type} {G : Gh} {L : List Ch} {F : FT α} {v : Value} {xs : List α} {lo hi : Nat} (h : Rs G L F v xs) (h1 : lo <= hi) (h2 : hi <= xs.length) : Rs G L F (slv F.sz v lo hi) ((xs.take hi).drop lo) := by
 intro w hs
 obtain ⟨hi', hg⟩ := h w hs
 have hl : ((xs.take hi).drop lo).length = hi - lo := by simp; omega
 refine ⟨by rw [hl]; exact hi'.slv h1 h2, fun j c hj => ?_⟩
 have hj' := hj
 rw [FT.flat_drop, List.getElem?_drop, FT.flat_take, List.getElem?_take] at hj
 split at hj
 ·have key := hg (lo * F.sz + j) c hj
  obtain ⟨c', hc1, hc2, ⟨b, k, rfl⟩ | ⟨⟨a, rfl⟩, h0⟩⟩ := hi'
  ·simp only [Go.Proofs.YtogocmlhnjiaaaaGreat.slv]
   by_cases e : c' = lo
   ·exfalso
    have := (List.getElem?_eq_some_iff.1 hj').1
    rw [FT.flat_len, hl] at this
    have : hi - lo = 0 := by omega
    simp_all
   ·rw [if_neg e]
    simp only [Option.map_some, add_none, sb, so] at key ⊢
    rw [<- key]; congr 2; omega
  ·exfalso
   have := (List.getElem?_eq_some_iff.1 hj').1
   rw [FT.flat_len, hl] at this
   have : hi - lo = 0 := by omega
   simp_all
 ·cases hj
def isNilS : Value -> Bool
  | .slice none _ _ => true
  | _ => false
def CB (P : Program) (G : Gh) (L : List Ch) (fv : Value) (arg : List Value) (b : Value) : Prop :=
  ∃ f first caps, fv = .func (.func f) first.toArray caps.toArray ∧ Ent P f ∧ ∀ (L' : List Ch) (R : Value -> Gh -> List Ch -> Prop), Cv L' L -> R b G L' -> CallT P f (first ++ arg ++ caps).toArray G L' R
theorem CB.cv {P : Program} {G : Gh} {L L' : List Ch} {fv : Value} {arg : List Value} {b : Value} (h : CB P G L fv arg b) (p : Cv L' L) : CB P G L' fv arg b := by
 obtain ⟨f, first, caps, h1, h2, h3⟩ := h
 exact ⟨f, first, caps, h1, h2, fun M R q => h3 M R (q.trans p)⟩
theorem CB.up {P : Program} {G : Gh} {L L' : List Ch} {fv : Value} {arg : List Value} {b : Value} (h : CB P G L fv arg b) [p : PickC L L'] : CB P G L' fv arg b := h.cv (Cv.pick p.pick)
theorem CB.mk0 {P : Program} {G : Gh} {L : List Ch} {f : FuncId} {arg : List Value} {b : Value} (hE : Ent P f) (h : ∀ (L' : List Ch) (R : Value -> Gh -> List Ch -> Prop), Cv L' L -> R b G L' -> CallT P f arg.toArray G L' R) : CB P G L (.func (.func f) #[] #[]) arg b :=
 ⟨f, [], [], rfl, hE, fun L' R c k => by simpa using h L' R c k⟩
theorem CB.mk1 {P : Program} {G : Gh} {L : List Ch} {f : FuncId} {arg : List Value} {b c : Value} (hE : Ent P f) (h : ∀ (L' : List Ch) (R : Value -> Gh -> List Ch -> Prop), Cv L' L -> R b G L' -> CallT P f (arg ++ [c]).toArray G L' R) : CB P G L (.func (.func f) #[] #[c]) arg b :=
 ⟨f, [], [c], rfl, hE, fun L' R c k => by simpa using h L' R c k⟩
theorem CB.mk3 {P : Program} {G : Gh} {L : List Ch} {f : FuncId} {arg : List Value} {b c d e : Value} (hE : Ent P f) (h : ∀ (L' : List Ch) (R : Value -> Gh -> List Ch -> Prop), Cv L' L -> R b G L' -> CallT P f (arg ++ [c, d, e]).toArray G L' R) : CB P G L (.func (.func f) #[] #[c, d, e]) arg b :=
 ⟨f, [], [c, d, e], rfl, hE, fun L' R c k => by simpa using h L' R c k⟩
theorem Rd.cv {G : Gh} {L L' : List Ch} {b k : Nat} {v : Value} (h : Rd G L b k v) (c : Cv L' L) : Rd G L' b k v := fun w hs => h w (hs.cv c)
theorem Rd.up {G : Gh} {L L' : List Ch} {b k : Nat} {v : Value} (h : Rd G L b k v) [p : PickC L L'] : Rd G L' b k v := h.cv (Cv.pick p.pick)
def RdN (G : Gh) (L : List Ch) (b : Nat) (cs : List Value) : Prop := ∀ j c, cs[j]? = some c -> Rd G L b (0 + j) c
theorem RdN.cv {G : Gh} {L L' : List Ch} {b : Nat} {cs : List Value} (h : RdN G L b cs) (c : Cv L' L) : RdN G L' b cs := fun j x e => (h j x e).cv c
theorem RdN.up {G : Gh} {L L' : List Ch} {b : Nat} {cs : List Value} (h : RdN G L b cs) [p : PickC L L'] : RdN G L' b cs := h.cv (Cv.pick p.pick)
theorem RdN.blk {G : Gh} {L L' : List Ch} {b : Nat} {e : TypeId} {cs : List Value} [hx : ExB b L e cs L'] : RdN G L b cs := fun j _ h => by rw [Nat.zero_add]; exact Rd.blk (cs := cs) h
section
variable {P : Program} {n : Nat} {ops : Array Oper} {rest : List Oper} {Q : Post} {σ : Nat -> Value} {G : Gh} {L : List Ch} {o : Oper} {K : (Nat -> Value) -> Gh -> List Ch -> Prop}
variable {l : List Operand} {ats : Array TypeId} {fo : Operand} {fv : Value} {vs : List Value} {b : Value}
theorem OT.callB (ho : o.op = .call { callee := .value fo, args := l.toArray, argTypes := ats }) (hf : ev σ fo = fv) (ha : cargs σ l = vs) (h : CB P G L fv vs b) (k : K (updo σ o.dst b) G L) : OT P n o σ G L K := by
 obtain ⟨f, first, caps, rfl, hE, h3⟩ := h
 subst ha
 exact OT.call ho hf hE (h3 L _ (Cv.refl L) k)
theorem RG.callB (hg : o.guard = none) (ho : o.op = .call { callee := .value fo, args := l.toArray, argTypes := ats }) (hf : ev σ fo = fv) (ha : cargs σ l = vs) (h : CB P G L fv vs b) (k : RG P n ops rest Q (updo σ o.dst b) G L) : RG P n ops (o :: rest) Q σ G L :=
 RG.ot hg (OT.callB ho hf ha h k)
theorem RG.callK {f : FuncId} {caps vs : List Value} (hg : o.guard = none) (ho : o.op = .call { callee := .value fo, args := l.toArray, argTypes := ats }) (hf : ev σ fo = .func (.func f) #[] caps.toArray) (hE : Ent P f) (ha : cargs σ l ++ caps = vs)
  (h : CallT P f vs.toArray G L fun v G' L' => RG P n ops rest Q (updo σ o.dst v) G' L') : RG P n ops (o :: rest) Q σ G L :=
 RG.callC (first := []) (caps := caps) hg ho hf hE (by subst ha; simpa using h)
theorem RQ.callB (hg : o.guard = none) (ho : o.op = .call { callee := .value fo, args := l.toArray, argTypes := ats }) (hf : ev σ fo = fv) (ha : cargs σ l = vs) (h : CB P G L fv vs b) (k : RQ P n ops rest Q (updo σ o.dst b) G L) : RQ P n ops (o :: rest) Q σ G L := by
 obtain ⟨f, first, caps, rfl, hE, h3⟩ := h
 subst ha
 exact RQ.callC hg ho hf hE (h3 L _ (Cv.refl L) ⟨rfl, rfl, rfl⟩) k
theorem PV.slc {T : TypeId} {x : Operand} {lo hi : Option Operand} {l h m s : Nat} {e : TypeId} {v : Value} (ho : o.op = .slice T x lo hi none) (hI : IdxS P T e s) (hx : ev σ x = v) (hs : SlF G L v m) (hlo : optAt σ lo 0 l) (hhi : optAt σ hi m h) (h1 : l <= h) (h2 : h <= m) : PV P o σ G L (slv s v l h) := by
 obtain ⟨hu, hi'⟩ := hI
 obtain ⟨inf, h3, rfl⟩ := info_size hi'
 clear hi'
 intro w hw
 have hbd : ∀ c, m <= c -> (Instr.sliceBounds true m c (lo.map (ev σ)) (hi.map (ev σ)) none).run P w = .ok (l, h, c) w := by
  intro c hc
  have hl' : ∀ k : IntKind, (0 : Int) <= (l : Int) ∧ (l : Int) <= (h : Int) := fun _ => ⟨by omega, by omega⟩
  cases lo with
  | none =>
   have hlo : l = 0 := hlo
   subst hlo
   cases hi with
   | none => have hhi : h = m := hhi; subst hhi; simp [Instr.sliceBounds]
   | some y =>
    obtain ⟨k, hy⟩ := hhi
    have : h <= c := by omega
    simp [Instr.sliceBounds, Instr.sliceBound, hy, asIntOf, this]
  | some x' =>
   obtain ⟨k', hx'⟩ := hlo
   cases hi with
   | none => have hhi : h = m := hhi; subst hhi; simp [Instr.sliceBounds, Instr.sliceBound, hx', asIntOf, h1]
   | some y =>
    obtain ⟨k, hy⟩ := hhi
    have : h <= c := by omega
    simp [Instr.sliceBounds, Instr.sliceBound, hy, hx', asIntOf, this, h1]
 have key : ∀ a c, m <= c -> (execOp (ev σ) o).run P w = .ok (.value (slv inf.size (.slice a m c) l h)) w ∨ v ≠ .slice a m c := by
  intro a c hc
  by_cases hv : v = .slice a m c
  ·left
   have hx' : ev σ x = .slice a m c := hx.trans hv
   simp only [execOp, ho, hx', Instr.sliceAt, Sem.run_bind, run_underlying hu, Result.andThen_ok, Instr.slice, Option.map_none, hbd c hc, sizeOf, typeInfo, run_program, h3, Sem.run_pure, slv]
  ·exact .inr hv
 obtain ⟨c, hc1, hc2, ⟨b, k, hv⟩ | ⟨⟨a, hv⟩, h0⟩⟩ := hs w hw
 ·rcases key (some ⟨b, k, none⟩) c hc1 with h | h
  ·rw [hv]; exact h
  ·exact absurd hv h
 ·rcases key a c hc1 with h | h
  ·rw [hv]; exact h
  ·exact absurd hv h
theorem PV.eqlNil {T T' : TypeId} {x : Operand} {e : TypeId} {m : Nat} {v : Value} (ho : o.op = .binOp .eql T x (.const (.slice none 0 0)) T') (hu : P.underlying T = some (.slice e)) (hx : ev σ x = v) (hs : SlF G L v m) : PV P o σ G L (.bool (isNilS v)) := by
 intro w hw
 have hv : ∃ a n c, v = .slice a n c := by
  obtain ⟨c, hc1, hc2, ⟨b, k, hv⟩ | ⟨⟨a, hv⟩, h0⟩⟩ := hs w hw
  ·exact ⟨_, _, _, hv⟩
  ·exact ⟨_, _, _, hv⟩
 obtain ⟨a, n, c, rfl⟩ := hv
 have hy : ev σ (.const (.slice none 0 0)) = .slice none 0 0 := rfl
 cases a with
 | none => simp [execOp, ho, hx, hy, eqGuard, Go.Lib.run_eql_slice_nil_nil w n c hu, isNilS]
 | some a => simp [execOp, ho, hx, hy, eqGuard, Go.Lib.run_eql_slice_some_nil w a n c hu, isNilS]
end
theorem optAt.n {σ : Nat -> Value} {d : Nat} : optAt σ none d d := rfl
theorem optAt.s {σ : Nat -> Value} {x : Operand} {d j : Nat} {k : IntKind} {a : Int} (h : ev σ x = .int k a) (e : a = (j : Int)) : optAt σ (some x) d j := ⟨k, by rw [h, e]⟩
theorem PV.mkf1 {P : Program} {o : Oper} {σ : Nat -> Value} {G : Gh} {L : List Ch} {fn : Fn} {x : Operand} {a : Nat} (ho : o.op = .makeFunc fn #[] #[x]) (hx : ev σ x = .pointer (some ⟨a, 0, none⟩)) : PV P o σ G L (.func fn #[] #[.pointer (some ⟨a, 0, none⟩)]) := by
 intro w _; simp [execOp, ho, Instr.makeFunc, hx]
theorem PV.mkf3 {P : Program} {o : Oper} {σ : Nat -> Value} {G : Gh} {L : List Ch} {fn : Fn} {x y z : Operand} {a b c : Nat} (ho : o.op = .makeFunc fn #[] #[x, y, z]) (hx : ev σ x = .pointer (some ⟨a, 0, none⟩)) (hy : ev σ y = .pointer (some ⟨b, 0, none⟩)) (hz : ev σ z = .pointer (some ⟨c, 0, none⟩)) : PV P o σ G L (.func fn #[] #[.pointer (some ⟨a, 0, none⟩), .pointer (some ⟨b, 0, none⟩), .pointer (some ⟨c, 0, none⟩)]) := by
 intro w _; simp [execOp, ho, Instr.makeFunc, hx, hy, hz]
theorem isNilS_nil {α : Type} {G : Gh} {L : List Ch} {F : FT α} {v : Value} {xs : List α} {w : World} (h : Rs G L F v xs) (hs : St G L w) (e : isNilS v = true) : xs = [] := by
 obtain ⟨c, _, _, ⟨b, k, rfl⟩ | ⟨⟨a, rfl⟩, h0⟩⟩ := (h w hs).1
 ·cases e
 ·exact List.eq_nil_of_length_eq_zero h0
theorem CallT.st {P : Program} {f : FuncId} {args : Array Value} {G : Gh} {L : List Ch} {R : Value -> Gh -> List Ch -> Prop} {A : Prop} (h : ∀ w, St G L w -> A) (k : A -> CallT P f args G L R) : CallT P f args G L R := CallT.of fun w hs => (k (h w hs)).run hs
theorem isReg_area {xs : List Rect} (h : canon (bits xs) = xs) : areaS xs <= 6400 := by rw [<- h]; exact areaS_canon _
theorem isReg_valid {xs : List Rect} (h : isReg xs = true) : validRs xs = true := by simp [isReg] at h; exact h.1
theorem isReg_len {xs : List Rect} (h : isReg xs = true) : xs.length <= 3200 := by
 have := isReg_valid h; simp [validRs] at this; exact this.1
theorem isReg_eq {xs : List Rect} (h : isReg xs = true) : canon (bits xs) = xs := by simp [isReg] at h; exact h.2
theorem isReg_canon {bs : List Bool} (h : bs.length = 6400) : isReg (canon bs) = true := by
 simp only [isReg, Bool.and_eq_true, decide_eq_true_eq]
 refine ⟨?_, by rw [bits_canon h]⟩
 simp only [validRs, Bool.and_eq_true, decide_eq_true_eq, List.all_eq_true]
 exact ⟨canon_len bs, fun r hr => by have := canonFrom_mem bs 0 r hr; simp [validRect]; omega⟩
def idxI {α : Type} (p : α -> Bool) (xs : List α) : Int :=
  match xs.findIdx? p with
  | some i => i
  | none => -1
theorem idxI_at {α : Type} [Inhabited α] {p : α -> Bool} {xs : List α} {i : Nat} (h : i < xs.length) (hp : p (gd xs i) = true) (hj : ∀ j, j < i -> p (gd xs j) = false) : idxI p xs = i := by
 have : xs.findIdx? p = some i := by
  rw [List.findIdx?_eq_some_iff_getElem]
  refine ⟨h, by rwa [gd_eq h] at hp, fun j hji => ?_⟩
  have := hj j hji
  rw [gd_eq (by omega)] at this; simp [this]
 simp [idxI, this]
theorem idxI_none {α : Type} [Inhabited α] {p : α -> Bool} {xs : List α} (hj : ∀ j, j < xs.length -> p (gd xs j) = false) : idxI p xs = -1 := by
 have : xs.findIdx? p = none := by
  rw [List.findIdx?_eq_none_iff]
  intro x hx
  obtain ⟨j, hj', rfl⟩ := List.getElem_of_mem hx
  rw [<- gd_eq hj']; exact hj j hj'
 simp [idxI, this]
theorem idxI_any {α : Type} (p : α -> Bool) (xs : List α) : decide (0 <= idxI p xs) = xs.any p := by
 rw [<- List.findIdx?_isSome, idxI]
 cases xs.findIdx? p <;> simp
theorem indexF_rects {v fv : Value} {xs : List (Sl Rect)} {p : (Sl Rect) -> Bool} (h1 : Rs G L slT v xs) (hf : ∀ i, i < xs.length -> CB Tryz.prog G L fv [Sl.v (gd xs i)] (.bool (p (gd xs i)))) (k : R (vi (idxI p xs)) G L) : CallT Tryz.prog 116 #[v, fv] G L R := by
 refine CallT.bd h1 fun hb => ?_
 refine CallT.enter (args := _) Tryz.func116 rfl rfl (by kernel_rfl) rfl ?_
 refine WP.sr (RG.mr rfl (RG.nil (WP.seq (WP.sr (RG.p (PV.move (v := v) rfl rfl) (RG.p (PV.len (v := v) rfl Tryz.underlying35 rfl (SlF.r h1)) (RG.ml rfl (RG.nil (WP.block ?_)))))))))
 refine WP.loop1 [0, 1, 7] (fun i => i <= xs.length ∧ ∀ j, j < i -> p (gd xs j) = false) (fun i => [(8, vi i)]) (fun i => L) (fun i => xs.length - i) 0 ⟨by omega, fun j h => by omega⟩ ⟨rfl, trivial⟩ Cv.p ?_
 rintro i τ ⟨hi, hj⟩
 refine WP.sr (RG.p (PV.lss rfl rfl rfl) (RG.nil (WP.seq ?_)))
 refine WP.cond rfl (fun h2 => ?_) fun h2 => ?_
 ·have h2 := odt h2
  refine WP.skip (WP.seq (WP.block (WP.sr (RG.ml rfl (RG.mr rfl (RG.nil (WP.sr (RG.p (PV.move (v := fv) rfl rfl) (RG.p (PV.move (v := v) rfl rfl) (RG.ml rfl (RG.p (PV.idxS (v := v) rfl Is35 rfl (SlF.r h1) rfl rfl (by omega)) ?_)))))))))))
  refine RG.p (PV.loadE1 rfl Sc50 rfl rfl (El.r h1 (getG (by omega))) rfl) ?_
  refine RG.callB (vs := [_]) rfl rfl rfl rfl (CB.up (hf i (by omega))) ?_
  refine RG.nil ?_
  refine WP.cond rfl (fun h3 => ?_) fun h3 => ?_
  ·rw [idxI_at (by omega) h3 hj] at k
   refine WP.sr (RG.ml rfl (RG.mr rfl (RG.nil ?_)))
   exact WP.ret ⟨_, _, rv rfl rfl, Cv.p, k⟩
  ·have hj' : ∀ j, j < i + 1 -> p (gd xs j) = false := fun j h => by
    by_cases c : j = i
    ·rw [c]; exact h3
    ·exact hj j (by omega)
   refine WP.skip (WP.region (RG.p (PV.add rfl rfl rfl (by omega)) (RG.ml rfl (RG.nil ?_))))
   exact ⟨rfl, i + 1, ⟨by omega, hj'⟩, ⟨rfl, trivial⟩, ⟨rfl, rfl, rfl, trivial⟩, Cv.p, by omega⟩
 ·have h2 := odf h2
  rw [idxI_none (fun j h => hj j (by omega))] at k
  refine WP.exit (WP.sr (RG.mr rfl (RG.nil ?_)))
  exact WP.ret ⟨_, _, rv rfl rfl, Cv.p, k⟩
theorem containsF_rects {v fv : Value} {xs : List (Sl Rect)} {p : (Sl Rect) -> Bool} (h1 : Rs G L slT v xs) (hf : ∀ i, i < xs.length -> CB Tryz.prog G L fv [Sl.v (gd xs i)] (.bool (p (gd xs i)))) (k : R (.bool (xs.any p)) G L) : CallT Tryz.prog 70 #[v, fv] G L R := by
 rw [<- idxI_any] at k
 refine CallT.enter (args := _) Tryz.func70 rfl rfl (by kernel_rfl) rfl ?_
 refine WP.sr (RG.br rfl (RG.nil (WP.sr (RG.p (PV.move (v := v) rfl rfl) (RG.p (PV.move (v := fv) rfl rfl) ?_)))))
 refine RG.callF (vs := [v, fv]) rfl rfl En116 rfl (indexF_rects (Rs.up h1) (fun i hi => (hf i hi).up) ?_)
 refine RG.p (PV.geq rfl rfl rfl) (RG.br rfl (RG.nil ?_))
 exact WP.ret ⟨_, _, rv rfl rfl, Cv.p, k⟩
theorem l03Ok_s {v : Value} {xs : List Rect} (h1 : Rs G L rectT v xs) (k : R (.bool (isReg xs)) G L) : CallT Tryz.prog 54 #[v] G L R := by
 refine CallT.bd h1 fun hb => ?_
 refine CallT.enter (args := _) Tryz.func54 rfl rfl (by kernel_rfl) rfl ?_
 refine WP.sr (RG.br rfl (RG.nil (WP.seq (WP.sr (RG.p (PV.move (v := v) rfl rfl) ?_)))))
 refine RG.callF (vs := [v]) rfl rfl En100 rfl (l03Valid_s (Rs.up h1) ?_)
 refine RG.p (PV.not rfl rfl) (RG.nil ?_)
 refine WP.cond rfl (fun h2 => ?_) fun h2 => ?_
 ·have e : isReg xs = false := by simp at h2; simp [isReg, h2]
  rw [e] at k
  refine WP.sr (RG.br rfl (RG.nil ?_))
  exact WP.ret ⟨_, _, rv rfl rfl, Cv.p, k⟩
 ·have hv : validRs xs = true := by simpa using h2
  have hn : xs.length <= 3200 := by simp [validRs] at hv; omega
  refine WP.skip (WP.sr (RG.mr rfl (RG.nil (WP.seq (WP.sr (RG.mr rfl (RG.nil (WP.block ?_))))))))
  refine WP.loop2 [0] (fun (i : Nat) (s : Int) => i <= xs.length ∧ s = areaS (xs.take i)) (fun (i : Nat) (s : Int) => [(4, vi i), (3, vi s)]) (fun (i : Nat) (s : Int) => L) (fun (i : Nat) (s : Int) => xs.length - i) 0 0 ⟨by omega, by simp [areaS]⟩ ⟨rfl, rfl, trivial⟩ Cv.p ?_
  rintro i s τ ⟨hi, hs⟩
  refine WP.seq (WP.sr (RG.ml rfl (RG.p (PV.move (v := v) rfl rfl) (RG.p (PV.len (v := v) rfl Tryz.underlying50 rfl (SlF.r h1)) (RG.p (PV.lss rfl rfl rfl) (RG.nil ?_))))))
  refine WP.cond rfl (fun h3 => ?_) fun h3 => ?_
  ·have h3 := odt h3
   have hA := area_bd (valid_get hv (i := i) (by omega))
   have hB := areaS_bd hv i hi
   refine WP.skip (WP.seq (WP.block (WP.region (RG.ml rfl (RG.p (PV.move (v := v) rfl rfl) (RG.ml rfl (RG.p (PV.idxS (v := v) rfl Is50 rfl (SlF.r h1) rfl rfl (by omega)) (RG.p (PV.loadE rfl Ag101 rfl rfl (El.r h1 (getG (by omega)))) ?_))))))))
   refine RG.callF (vs := [_]) rfl rfl En101 rfl (rectArea_s (valid_get (by assumption) (by omega)) ?_)
   refine RG.p (PV.add rfl rfl rfl (by omega)) (RG.mr rfl (RG.nil (WP.region (RG.ml rfl (RG.p (PV.add rfl rfl rfl (by omega)) (RG.mr rfl (RG.nil ?_)))))))
   exact ⟨rfl, i + 1, _, ⟨by omega, by rw [areaS_take (by omega), hs]⟩, ⟨rfl, rfl, trivial⟩, ⟨rfl, trivial⟩, Cv.p, by omega⟩
  ·have h3 := odf h3
   have e1 : s = areaS xs := by rw [hs, List.take_of_length_le (by omega)]
   refine WP.exit (WP.sr (RG.ml rfl (RG.p (PV.leq rfl rfl rfl) (RG.bl rfl ?_))))
   refine RG.spl (t := 23) rfl (fun h4 => ?_) (fun h4 => ?_)
   ·have e : isReg xs = decide (canon (bits xs) = xs) := by simp [isReg, hv]
    rw [e] at k
    refine RG.take rfl rfl rfl h4 ?_
    refine RG.p (PV.move (v := v) rfl rfl) ?_
    refine RG.take rfl rfl rfl h4 ?_
    refine RG.callF (vs := [v]) rfl rfl En104 rfl (l03Bits_s (Rs.up h1) (fun i hi => valid_get (by assumption) hi) (fun v25 => ?_))
    refine RG.take rfl rfl rfl h4 ?_
    refine RG.callF (vs := [v25]) rfl rfl En103 rfl (l03Canon_s Rs.o (bits_length _) (fun v26 => ?_))
    refine RG.take rfl rfl rfl h4 ?_
    refine RG.p (PV.move (v := v) rfl rfl) ?_
    refine RG.take rfl rfl rfl h4 ?_
    refine RG.callF (vs := [v26, v]) rfl rfl En102 rfl (l03Same_s Rs.o (Rs.up h1) ?_)
    refine RG.p (PV.pickT rfl rfl h4 rfl) (RG.br rfl (RG.nil ?_))
    exact WP.ret ⟨_, _, rv rfl rfl, Cv.p, k⟩
   ·have e : isReg xs = false := by
     simp only [isReg, hv, Bool.true_and, decide_eq_false_iff_not]
     intro h5
     have := isReg_area h5
     simp at h4; omega
    rw [e] at k
    refine RG.skip rfl rfl rfl (gne h4) ?_
    refine RG.skip rfl rfl rfl (gne h4) ?_
    refine RG.skip rfl rfl rfl (gne h4) ?_
    refine RG.skip rfl rfl rfl (gne h4) ?_
    refine RG.skip rfl rfl rfl (gne h4) ?_
    refine RG.p (PV.pickE rfl rfl h4 rfl) (RG.br rfl (RG.nil ?_))
    exact WP.ret ⟨_, _, rv rfl rfl, Cv.p, k⟩
def isLay (l : List (List Rect)) : Bool := decide (l.length = 8) && l.all isReg
theorem isLay_len {l : List (List Rect)} (h : isLay l = true) : l.length = 8 := by simp [isLay] at h; exact h.1
theorem isLay_false {l : List (List Rect)} {i : Nat} (h : i < l.length) (e : isReg (gd l i) = false) : isLay l = false := by
 simp only [isLay, Bool.and_eq_false_iff, List.all_eq_false]
 exact .inr ⟨gd l i, by rw [gd_eq h]; exact List.getElem_mem _, by simp [e]⟩
theorem isLay_all {l : List (List Rect)} (h : ∀ i, i < l.length -> isReg (gd l i) = true) : isLay l = decide (l.length = 8) := by
 have : l.all isReg = true := by
  rw [List.all_eq_true]
  intro x hx
  obtain ⟨j, hj', rfl⟩ := List.getElem_of_mem hx
  rw [<- gd_eq hj']; exact h j hj'
 simp only [isLay, this, Bool.and_true]
theorem isLayout1_s {v : Value} {xs : List Rect} (h1 : Rs G L rectT v xs) (k : R (.bool (!isReg xs)) G L) : CallT Tryz.prog 71 #[v] G L R := by
 refine CallT.enter (args := _) Tryz.func71 rfl rfl (by kernel_rfl) rfl ?_
 refine WP.sr (RG.br rfl (RG.nil (WP.sr (RG.p (PV.move (v := v) rfl rfl) ?_))))
 refine RG.callF (vs := [v]) rfl rfl En72 rfl (isRegion_s (Rs.up h1) ?_)
 refine RG.p (PV.not rfl rfl) (RG.br rfl (RG.nil ?_))
 exact WP.ret ⟨_, _, rv rfl rfl, Cv.p, k⟩
theorem isLayout_s {v : Value} {xs : List (Sl Rect)} (h1 : Rs G L slT v xs) (hd : RsE G L rectT xs) (k : R (.bool (isLay (er xs))) G L) : CallT Tryz.prog 34 #[v] G L R := by
 have e : isLay (er xs) = (decide ((xs.length : Int) = 8) && !(xs.any fun s => !isReg s.xs)) := by
  simp only [isLay, er, List.length_map]
  congr 1
  ·rw [decide_eq_decide]; omega
  ·rw [List.all_map, List.not_any_eq_all_not]; simp [Function.comp_def]
 rw [e] at k
 refine CallT.enter (args := _) Tryz.func34 rfl rfl (by kernel_rfl) rfl ?_
 refine WP.sr (RG.br rfl (RG.nil (WP.sr (RG.p (PV.move (v := v) rfl rfl) (RG.p (PV.len (v := v) rfl Tryz.underlying35 rfl (SlF.r h1)) (RG.p (PV.eql rfl rfl rfl) (RG.bl rfl ?_)))))))
 refine RG.g rfl (fun hp => (PV.move (v := v) rfl rfl)) ?_
 refine RG.gsC rfl rfl rfl rfl En70 (fun hp => ⟨_, (acons (gt' hp) (acons rfl anil)), containsF_rects (p := fun s : Sl Rect => !isReg s.xs) (Rs.up h1) (fun i hi => CB.mk0 En71 fun L' R c k => isLayout1_s (((hd i hi).up).cv c) k) ⟨rfl, rfl, rfl⟩⟩) ?_
 refine RG.g rfl (fun hp => (PV.not rfl (gt' hp))) ?_
 refine RG.p (PV.pickA rfl rfl (fun hq => gt' (geqT hq)) rfl) (RG.br rfl (RG.nil ?_))
 exact WP.ret ⟨_, _, rv rfl rfl, Cv.p, k⟩
theorem l19Layout_s {v : Value} {xs : List (Sl Rect)} (h1 : Rs G L slT v xs) (hd : RsE G L rectT xs) (k : R (.bool (isLay (er xs))) G L) : CallT Tryz.prog 169 #[v] G L R := by
 refine CallT.bd h1 fun hb => ?_
 refine CallT.enter (args := _) Tryz.func169 rfl rfl (by kernel_rfl) rfl ?_
 refine WP.sr (RG.br rfl (RG.nil (WP.seq (WP.sr (RG.mr rfl (RG.nil (WP.block ?_)))))))
 refine WP.loop1 [0] (fun i => i <= xs.length ∧ ∀ j, j < i -> isReg (gd xs j).xs = true) (fun i => [(3, vi i)]) (fun i => L) (fun i => xs.length - i) 0 ⟨by omega, fun j h => by omega⟩ ⟨rfl, trivial⟩ Cv.p ?_
 rintro i τ ⟨hi, hj⟩
 refine WP.seq (WP.sr (RG.ml rfl (RG.p (PV.move (v := v) rfl rfl) (RG.p (PV.len (v := v) rfl Tryz.underlying35 rfl (SlF.r h1)) (RG.p (PV.lss rfl rfl rfl) (RG.nil ?_))))))
 refine WP.cond rfl (fun h2 => ?_) fun h2 => ?_
 ·have h2 := odt h2
  refine WP.skip (WP.seq (WP.block (WP.sr (RG.p (PV.move (v := v) rfl rfl) (RG.ml rfl (RG.p (PV.idxS (v := v) rfl Is35 rfl (SlF.r h1) rfl rfl (by omega)) (RG.p (PV.loadE1 rfl Sc50 rfl rfl (El.r h1 (getG (by omega))) rfl) ?_)))))))
  refine RG.callF (vs := [_]) rfl rfl En54 rfl (l03Ok_s (hd i (by omega)) ?_)
  refine RG.p (PV.not rfl rfl) (RG.nil ?_)
  refine WP.cond rfl (fun h3 => ?_) fun h3 => ?_
  ·rw [isLay_false (i := i) (by rw [er_len]; omega) (by rw [er_gd]; simpa using h3)] at k
   refine WP.sr (RG.br rfl (RG.nil ?_))
   exact WP.ret ⟨_, _, rv rfl rfl, Cv.p, k⟩
  ·have hj' : ∀ j, j < i + 1 -> isReg (gd xs j).xs = true := fun j h => by
    by_cases c : j = i
    ·subst c; simpa using h3
    ·exact hj j (by omega)
   refine WP.skip (WP.region (RG.ml rfl (RG.p (PV.add rfl rfl rfl (by omega)) (RG.mr rfl (RG.nil ?_)))))
   exact ⟨rfl, i + 1, ⟨by omega, hj'⟩, ⟨rfl, trivial⟩, ⟨rfl, trivial⟩, Cv.p, by omega⟩
 ·have h2 := odf h2
  have e : isLay (er xs) = decide ((xs.length : Int) = 8) := by
   rw [isLay_all (fun i hi => by rw [er_gd]; rw [er_len] at hi; exact hj i (by omega)), decide_eq_decide, er_len]; omega
  rw [e] at k
  refine WP.exit (WP.sr (RG.p (PV.move (v := v) rfl rfl) (RG.p (PV.len (v := v) rfl Tryz.underlying35 rfl (SlF.r h1)) (RG.p (PV.eql rfl rfl rfl) (RG.br rfl (RG.nil ?_))))))
  exact WP.ret ⟨_, _, rv rfl rfl, Cv.p, k⟩
def zipB (f : Bool -> Bool -> Bool) (a b : List Bool) : List Bool := List.zipWith f a b
theorem zipB_len {f : Bool -> Bool -> Bool} {a b : List Bool} (h : a.length = 6400) (h' : b.length = 6400) : (zipB f a b).length = 6400 := by simp [zipB, h, h']
theorem zipB_gd {f : Bool -> Bool -> Bool} {a b : List Bool} {i : Nat} (h : i < a.length) (h' : i < b.length) : gd (zipB f a b) i = f (gd a i) (gd b i) := by
 rw [gd_eq (by simp [zipB]; omega), gd_eq h, gd_eq h']; simp [zipB]
theorem zipB_get {f : Bool -> Bool -> Bool} {a b : List Bool} {i : Nat} (h : i < a.length) (h' : i < b.length) : (zipB f a b)[i]? = some (f (gd a i) (gd b i)) := by
 rw [getG (by simp [zipB]; omega), zipB_gd h h']
def opR (f : Bool -> Bool -> Bool) (xs ys : List Rect) : List Rect := bif isReg xs && isReg ys then canon (zipB f (bits xs) (bits ys)) else []
theorem combine_s {v u fv : Value} {xs ys : List Rect} {f : Bool -> Bool -> Bool} (h1 : Rs G L rectT v xs) (h2 : Rs G L rectT u ys) (hE : ∀ p q, CB Tryz.prog G L fv [.bool p, .bool q] (.bool (f p q))) (k : ∀ v', R v' G (osl 101 rectT v' (opR f xs ys) :: L)) :
  CallT Tryz.prog 52 #[v, u, fv] G L R := by
 refine CallT.enter (args := _) Tryz.func52 rfl rfl (by kernel_rfl) rfl ?_
 refine WP.sr (RG.p (PV.asg rfl rfl) (RG.nil (WP.seq (WP.sr (RG.p (PV.move (v := v) rfl rfl) ?_)))))
 refine RG.callF (vs := [v]) rfl rfl En72 rfl (isRegion_s (Rs.up h1) ?_)
 refine RG.p (PV.not rfl rfl) (RG.bl rfl ?_)
 refine RG.g rfl (fun hp => (PV.move (v := u) rfl rfl)) ?_
 refine RG.gsC rfl rfl rfl rfl En72 (fun hp => ⟨_, (acons (gt' hp) anil), isRegion_s (Rs.up h2) ⟨rfl, rfl, rfl⟩⟩) ?_
 refine RG.g rfl (fun hp => (PV.not rfl (gt' hp))) ?_
 refine RG.p (PV.pickO rfl rfl rfl (fun hq => gt' (geqF hq))) (RG.nil ?_)
 refine WP.cond rfl (fun h3 => ?_) fun h3 => ?_
 ·have e : opR f xs ys = [] := by simp only [opR]; cases h4 : isReg xs <;> cases h5 : isReg ys <;> simp_all
  rw [e] at k
  refine WP.sr (RG.p (PV.asg rfl rfl) (RG.nil ?_))
  exact WP.ret ⟨_, _, rv rfl rfl, Cv.nilS, k _⟩
 ·have hx : isReg xs = true := by cases h4 : isReg xs <;> simp_all
  have hy : isReg ys = true := by cases h5 : isReg ys <;> simp_all
  have e : opR f xs ys = canon (zipB f (bits xs) (bits ys)) := by simp [opR, hx, hy]
  rw [e] at k
  refine WP.skip (WP.sr (RG.p (PV.move (v := v) rfl rfl) ?_))
  refine RG.callF (vs := [v]) rfl rfl En99 rfl (cellsOf_s (Rs.up h1) (fun b7 => ?_))
  refine RG.p (PV.move (v := u) rfl rfl) ?_
  refine RG.callF (vs := [u]) rfl rfl En99 rfl (cellsOf_s (Rs.up h2) (fun b8 => ?_))
  refine RG.p (PV.build0 rfl Tryz.underlying125 ⟨80, by kernel_rfl⟩ (zeroB_spec (n := 6400) (by kernel_rfl))) ?_
  refine RG.ot rfl (OT.boxG rfl rfl fun b25 => ?_)
  refine RG.p (PV.asg rfl rfl) (RG.p (PV.asg rfl rfl) (RG.p (PV.mvP (.inr rfl) rfl) (RG.nil (WP.seq (WP.sr (RG.ml rfl (RG.nil (WP.block ?_))))))))
  have hlx := bits_length xs
  have hly := bits_length ys
  refine WP.loop2 [2, 7, 8, 9] (fun (i : Nat) (cs : List Bool) => i <= 80 ∧ cs.length = 6400 ∧ ∀ j, j < i * 80 -> gd cs j = f (gd (bits xs) j) (gd (bits ys) j)) (fun (i : Nat) (cs : List Bool) => [(26, vi i)]) (fun (i : Nat) (cs : List Bool) => grd b25 cs :: grd b8 (bits ys) :: grd b7 (bits xs) :: L) (fun (i : Nat) (cs : List Bool) => 80 - i) 0 (List.replicate 6400 false) ⟨by omega, by simp, fun j h => by omega⟩ ⟨rfl, trivial⟩ Cv.p ?_
  rintro i cs τ ⟨hi, hlc, hc⟩
  refine WP.sr (RG.p (PV.lss rfl rfl rfl) (RG.nil (WP.seq ?_)))
  refine WP.cond rfl (fun h4 => ?_) fun h4 => ?_
  ·have h4 := odt h4
   refine WP.skip (WP.seq (WP.block (WP.sr (RG.ml rfl (RG.mr rfl (RG.nil (WP.sr (RG.ml rfl (RG.nil (WP.block ?_))))))))))
   refine WP.loop2 [2, 7, 8, 9, 10, 26] (fun (m : Nat) (ds : List Bool) => m <= 80 ∧ ds.length = 6400 ∧ ∀ j, j < i * 80 + m -> gd ds j = f (gd (bits xs) j) (gd (bits ys) j)) (fun (m : Nat) (ds : List Bool) => [(29, vi m)]) (fun (m : Nat) (ds : List Bool) => grd b25 ds :: grd b8 (bits ys) :: grd b7 (bits xs) :: L) (fun (m : Nat) (ds : List Bool) => 80 - m) 0 cs ⟨by omega, hlc, fun j h => hc j (by omega)⟩ ⟨rfl, trivial⟩ Cv.p ?_
   rintro m ds τ1 ⟨hm, hld, hd⟩
   refine WP.sr (RG.p (PV.lss rfl rfl rfl) (RG.nil (WP.seq ?_)))
   refine WP.cond rfl (fun h5 => ?_) fun h5 => ?_
   ·have h5 := odt h5
    refine WP.skip (WP.seq (WP.block (WP.sr (RG.ml rfl (RG.mr rfl (RG.nil ?_))))))
    refine WP.regionHD [.b b25] (.q 0 (.q 1 (.q 2 (.q 3 (.q 4 (.q 5 (.q 6 (.q 7 (.q 8 (.q 9 (.q 10 (.q 11 (.q 12 (.q 13 (.q 14 (.q 15 (.q 16 (.q 17 (.q 19 (.q 20 (.l 18 (.q 21 (.l 22 Sch.nil))))))))))))))))))))))) (by kernel_rfl) (by kernel_rfl) (by kernel_rfl) rfl ?_
    refine RH.w rfl rfl (PV.mvP (.inl rfl) rfl) (RH.w rfl rfl (PV.mvI (.inl rfl) rfl) (RH.w rfl rfl (PV.mvI (.inl rfl) rfl) (RH.w rfl rfl (PV.move (v := fv) rfl rfl) (RH.w rfl rfl (PV.mvP (.inl rfl) rfl) (RH.w rfl rfl (PV.mvI (.inl rfl) rfl) (RH.w rfl rfl (PV.mvI (.inl rfl) rfl) (RH.w rfl rfl (PV.nilc rfl rfl) (RH.w rfl rfl (PV.idxA rfl Ia125 rfl rfl rfl (by omega)) (RH.w rfl rfl (PV.idxA rfl Ia123 rfl rfl rfl (by omega)) (RH.w rfl rfl (PV.loadGr rfl Sc4 rfl rfl (by omega)) (RH.w rfl rfl (PV.mvP (.inl rfl) rfl) (RH.w rfl rfl (PV.mvI (.inl rfl) rfl) (RH.w rfl rfl (PV.mvI (.inl rfl) rfl) ?_)))))))))))))
    refine RH.w rfl rfl (PV.nilc rfl rfl) (RH.w rfl rfl (PV.idxA rfl Ia125 rfl rfl rfl (by omega)) (RH.w rfl rfl (PV.idxA rfl Ia123 rfl rfl rfl (by omega)) (RH.w rfl rfl (PV.loadGr rfl Sc4 rfl rfl (by omega)) (RH.w rfl rfl (PV.nilc rfl rfl) (RH.w rfl rfl (PV.idxA rfl Ia125 rfl rfl rfl (by omega)) ?_)))))
    refine RH.ot rfl rfl (OT.callB (vs := [_, _]) rfl rfl rfl (CB.up (hE _ _)) (kp ?_))
    refine RH.w rfl rfl (PV.idxA rfl Ia123 rfl rfl rfl (by omega)) ?_
    refine RH.ot rfl rfl (OT.storeGr rfl Sz4 rfl rfl rfl (by first | omega | (simp; omega)) (kp ?_))
    refine RH.nil (WP.region (RG.p (PV.add rfl rfl rfl (by omega)) (RG.ml rfl (RG.nil ?_))))
    refine ⟨rfl, m + 1, (ds.set (0 + i * 80 + m * 1) (f (gd (bits xs) (0 + i * 80 + m * 1)) (gd (bits ys) (0 + i * 80 + m * 1)))), ⟨by omega, by simpa using hld, fun j hj => ?_⟩, ⟨rfl, trivial⟩, ⟨rfl, rfl, rfl, rfl, rfl, rfl, trivial⟩, Cv.p, by omega⟩
    rw [show 0 + i * 80 + m * 1 = i * 80 + m by omega]
    by_cases c : j = i * 80 + m
    ·subst c; rw [gd_eq (by simp; omega)]; simp
    ·have := hd j (by omega)
     rw [<- this]; simp only [gd]; rw [List.getElem?_set, if_neg (Ne.symm c)]
   ·have h5 := odf h5
    refine WP.exit (WP.region (RG.p (PV.add rfl rfl rfl (by omega)) (RG.ml rfl (RG.nil ?_))))
    exact ⟨rfl, i + 1, ds, ⟨by omega, hld, fun j hj => hd j (by omega)⟩, ⟨rfl, trivial⟩, ⟨rfl, rfl, rfl, rfl, trivial⟩, Cv.p, by omega⟩
  ·have h4 := odf h4
   have hz : cs = zipB f (bits xs) (bits ys) := by
    have hzl := zipB_len (f := f) hlx hly
    apply List.ext_getElem?
    intro j
    by_cases hj : j < 6400
    ·rw [getG (by omega), hc j (by omega), zipB_get (by omega) (by omega)]
    ·rw [List.getElem?_eq_none (by omega), List.getElem?_eq_none (by omega)]
   rw [<- hz] at k
   refine WP.exit (WP.sr (RG.p (PV.mvP (.inl rfl) rfl) ?_))
   refine RG.callF (vs := [(.pointer (some ⟨b25, 0, none⟩))]) rfl rfl En69 rfl (CallT.exB (region_s hlc (fun v57 => ?_)))
   refine RG.p (PV.asg (v := v57) rfl rfl) (RG.nil ?_)
   exact WP.ret ⟨_, _, rv rfl rfl, Cv.p, k v57⟩
theorem inter1_s {p q : Bool} (k : R (.bool (p && q)) G L) : CallT Tryz.prog 195 #[.bool p, .bool q] G L R := by
 refine CallT.enter (args := _) Tryz.func195 rfl rfl (by kernel_rfl) rfl ?_
 refine WP.sr (RG.br rfl (RG.nil (WP.sr (RG.bl rfl (RG.bl rfl ?_)))))
 refine RG.g rfl (fun hp => (PV.mvB (.inl rfl) rfl)) ?_
 refine RG.p (PV.pickA rfl rfl (fun hq => gt' (geqT hq)) rfl) (RG.br rfl (RG.nil ?_))
 exact WP.ret ⟨_, _, rv rfl rfl, Cv.p, k⟩
theorem diff1_s {p q : Bool} (k : R (.bool (p && !q)) G L) : CallT Tryz.prog 201 #[.bool p, .bool q] G L R := by
 refine CallT.enter (args := _) Tryz.func201 rfl rfl (by kernel_rfl) rfl ?_
 refine WP.sr (RG.br rfl (RG.nil (WP.sr (RG.bl rfl (RG.bl rfl ?_)))))
 refine RG.g rfl (fun hp => (PV.mvB (.inl rfl) rfl)) ?_
 refine RG.g rfl (fun hp => (PV.not rfl (gt' hp))) ?_
 refine RG.p (PV.pickA rfl rfl (fun hq => gt' (geqT hq)) rfl) (RG.br rfl (RG.nil ?_))
 exact WP.ret ⟨_, _, rv rfl rfl, Cv.p, k⟩
theorem inter_s {v u : Value} {xs ys : List Rect} (h1 : Rs G L rectT v xs) (h2 : Rs G L rectT u ys) (k : ∀ v', R v' G (osl 101 rectT v' (opR (fun p q => p && q) xs ys) :: L)) : CallT Tryz.prog 140 #[v, u] G L R := by
 refine CallT.enter (args := _) Tryz.func140 rfl rfl (by kernel_rfl) rfl ?_
 refine WP.sr (RG.p (PV.asg rfl rfl) (RG.nil (WP.sr (RG.p (PV.move (v := v) rfl rfl) (RG.p (PV.move (v := u) rfl rfl) ?_)))))
 refine RG.callF (vs := [v, u, _]) rfl rfl En52 rfl (combine_s (f := fun p q => p && q) (Rs.up h1) (Rs.up h2) (fun p q => CB.mk0 En195 fun L' R c k => inter1_s k) (fun v7 => ?_))
 refine RG.p (PV.asg (v := v7) rfl rfl) (RG.nil ?_)
 exact WP.ret ⟨_, _, rv rfl rfl, Cv.p, k v7⟩
theorem diff_s {v u : Value} {xs ys : List Rect} (h1 : Rs G L rectT v xs) (h2 : Rs G L rectT u ys) (k : ∀ v', R v' G (osl 101 rectT v' (opR (fun p q => p && !q) xs ys) :: L)) : CallT Tryz.prog 146 #[v, u] G L R := by
 refine CallT.enter (args := _) Tryz.func146 rfl rfl (by kernel_rfl) rfl ?_
 refine WP.sr (RG.p (PV.asg rfl rfl) (RG.nil (WP.sr (RG.p (PV.move (v := v) rfl rfl) (RG.p (PV.move (v := u) rfl rfl) ?_)))))
 refine RG.callF (vs := [v, u, _]) rfl rfl En52 rfl (combine_s (f := fun p q => p && !q) (Rs.up h1) (Rs.up h2) (fun p q => CB.mk0 En201 fun L' R c k => diff1_s k) (fun v7 => ?_))
 refine RG.p (PV.asg (v := v7) rfl rfl) (RG.nil ?_)
 exact WP.ret ⟨_, _, rv rfl rfl, Cv.p, k v7⟩
theorem WP.st {P : Program} {n : Nat} {c : Code} {Q : Post} {σ : Nat -> Value} {A : Prop} (h : ∀ w, St G L w -> A) (k : A -> WP P n c Q σ G L) : WP P n c Q σ G L := WP.of fun hk _ w ha hs => (k (h w hs)).run hk ha hs
def lenS {α : Type} (s : Sl α) : Int := s.xs.length
def opF (op : Int) (p q : Bool) : Bool := decide (op / ((if q then 2 else 1) * ((if p then 4 else 1) * 1)) % 2 = 1)
theorem gb_zip {f : Bool -> Bool -> Bool} {a b : List Bool} (h : a.length = 6400) (h' : b.length = 6400) {y x : Nat} (hy : y < 80) (hx : x < 80) : gb (zipB f a b) y x = f (gb a y x) (gb b y x) := zipB_gd (by omega) (by omega)
theorem gb_bits (rs : List Rect) {y x : Nat} (hy : y < 80) (hx : x < 80) : gb (bits rs) y x = rs.any fun r => inR r y x := by
 have h : y * 80 + x < 6400 := by omega
 have e1 : (y * 80 + x) / 80 = y := by omega
 have e2 : (y * 80 + x) % 80 = x := by omega
 rw [gb, gd_eq (by rw [bits_length]; exact h)]
 simp [bits, e1, e2]
theorem canon_any {bs : List Bool} {y x : Nat} (hy : y < 80) (hx : x < 80) : ((canon bs).any fun r => inR r y x) = gb bs y x := by
 rw [canon, canonFrom_any bs 0 y x hy hx]; simp
theorem isLayoutS_s {v : Value} {xs : List (Sl Rect)} (h1 : Rs G L slT v xs) (hd : RsE G L rectT xs) (k : R (.bool (isLay (er xs))) G L) : CallT Tryz.prog 62 #[v] G L R := by
 refine CallT.bd h1 fun hb => ?_
 refine CallT.enter (args := _) Tryz.func62 rfl rfl (by kernel_rfl) rfl ?_
 refine WP.sr (RG.br rfl (RG.nil (WP.seq (WP.sr (RG.p (PV.move (v := v) rfl rfl) (RG.p (PV.len (v := v) rfl Tryz.underlying35 rfl (SlF.r h1)) (RG.p (PV.neq rfl rfl rfl) (RG.nil ?_))))))))
 refine WP.cond rfl (fun h0 => ?_) fun h0 => ?_
 ·have e : isLay (er xs) = false := by simp at h0; simp [isLay, er_len]; omega
  rw [e] at k
  refine WP.sr (RG.br rfl (RG.nil ?_))
  exact WP.ret ⟨_, _, rv rfl rfl, Cv.p, k⟩
 ·have h8 : xs.length = 8 := by simp at h0; omega
  refine WP.skip (WP.seq (WP.sr (RG.mr rfl (RG.nil (WP.block ?_)))))
  refine WP.loop1 [0] (fun i => i <= xs.length ∧ ∀ j, j < i -> isReg (gd xs j).xs = true) (fun i => [(3, vi i)]) (fun i => L) (fun i => xs.length - i) 0 ⟨by omega, fun j h => by omega⟩ ⟨rfl, trivial⟩ Cv.p ?_
  rintro i τ ⟨hi, hj⟩
  refine WP.seq (WP.sr (RG.ml rfl (RG.p (PV.move (v := v) rfl rfl) (RG.p (PV.len (v := v) rfl Tryz.underlying35 rfl (SlF.r h1)) (RG.p (PV.lss rfl rfl rfl) (RG.nil ?_))))))
  refine WP.cond rfl (fun h2 => ?_) fun h2 => ?_
  ·have h2 := odt h2
   refine WP.skip (WP.seq (WP.block (WP.sr (RG.p (PV.move (v := v) rfl rfl) (RG.ml rfl (RG.p (PV.idxS (v := v) rfl Is35 rfl (SlF.r h1) rfl rfl (by omega)) (RG.p (PV.loadE1 rfl Sc50 rfl rfl (El.r h1 (getG (by omega))) rfl) ?_)))))))
   refine RG.callF (vs := [_]) rfl rfl En54 rfl (l03Ok_s (hd i (by omega)) ?_)
   refine RG.p (PV.not rfl rfl) (RG.nil ?_)
   refine WP.cond rfl (fun h3 => ?_) fun h3 => ?_
   ·rw [isLay_false (i := i) (by rw [er_len]; omega) (by rw [er_gd]; simpa using h3)] at k
    refine WP.sr (RG.br rfl (RG.nil ?_))
    exact WP.ret ⟨_, _, rv rfl rfl, Cv.p, k⟩
   ·have hj' : ∀ j, j < i + 1 -> isReg (gd xs j).xs = true := fun j h => by
     by_cases c : j = i
     ·subst c; simpa using h3
     ·exact hj j (by omega)
    refine WP.skip (WP.region (RG.ml rfl (RG.p (PV.add rfl rfl rfl (by omega)) (RG.mr rfl (RG.nil ?_)))))
    exact ⟨rfl, i + 1, ⟨by omega, hj'⟩, ⟨rfl, trivial⟩, ⟨rfl, trivial⟩, Cv.p, by omega⟩
  ·have h2 := odf h2
   have e : isLay (er xs) = true := by
    rw [isLay_all (fun i hi => by rw [er_gd]; rw [er_len] at hi; exact hj i (by omega)), er_len, h8]; rfl
   rw [e] at k
   refine WP.exit (WP.sr (RG.br rfl (RG.nil ?_)))
   exact WP.ret ⟨_, _, rv rfl rfl, Cv.p, k⟩
theorem l04Combine_s {v u : Value} {xs ys : List Bool} {op : Int} (h1 : Rs G L boolT v xs) (h2 : Rs G L boolT u ys) (hl : xs.length = 6400) (hl' : ys.length = 6400) (hop : 0 <= op ∧ op <= 15) (k : ∀ v', R v' G (osl 4 boolT v' (zipB (opF op) xs ys) :: L)) : CallT Tryz.prog 209 #[v, u, vi op] G L R := by
 have hzl := zipB_len (f := opF op) hl hl'
 refine CallT.enter (args := _) Tryz.func209 rfl rfl (by kernel_rfl) rfl ?_
 refine WP.sr (RG.p (PV.asg rfl rfl) (RG.nil (WP.sr (RG.p (PV.move (v := v) rfl rfl) (RG.p (PV.len (v := v) rfl Tryz.underlying148 rfl (SlF.r h1)) ?_)))))
 refine RG.ot rfl (OT.make (F := boolT) (a0 := false) rfl El148 rfl (by decide) rfl rfl (by omega) (by omega) fun v12 => ?_)
 refine RG.p (PV.asg (v := v12) rfl rfl) (RG.nil (WP.seq (WP.sr (RG.mr rfl (RG.nil (WP.block ?_))))))
 refine WP.loop2 [0, 1, 2, 7] (fun (i : Nat) (zs : List Bool) => i <= 6400 ∧ zs.length = 6400 ∧ ∀ j, j < i -> zs[j]? = (zipB (opF op) xs ys)[j]?) (fun (i : Nat) (zs : List Bool) => [(8, vi i)]) (fun (i : Nat) (zs : List Bool) => osl 4 boolT v12 zs :: L) (fun (i : Nat) (zs : List Bool) => 6400 - i) 0 (List.replicate xs.length false) ⟨by omega, by simp [hl], fun j h => by omega⟩ ⟨rfl, trivial⟩ Cv.p ?_
 rintro i zs τ ⟨hi, hl2, he⟩
 refine WP.seq (WP.sr (RG.ml rfl (RG.p (PV.move (v := v) rfl rfl) (RG.p (PV.len (v := v) rfl Tryz.underlying148 rfl (SlF.r h1)) (RG.p (PV.lss rfl rfl rfl) (RG.nil ?_))))))
 refine WP.cond rfl (fun h3 => ?_) fun h3 => ?_
 ·have h3 := odt h3
  have hz := zipB_get (f := opF op) (a := xs) (b := ys) (i := i) (by omega) (by omega)
  refine WP.skip (WP.seq (WP.block (WP.sr (RG.mr rfl (RG.nil (WP.seq (WP.sr (RG.p (PV.move (v := v) rfl rfl) (RG.ml rfl (RG.p (PV.idxS (v := v) rfl Is148 rfl (SlF.r h1) rfl rfl (by omega)) (RG.p (PV.loadE1 rfl Sc4 rfl rfl (El.r h1 (getG (by omega))) rfl) ?_)))))))))))
  refine RG.nil ?_
  refine WP.cond rfl (fun h4 => ?_) fun h4 => ?_
  ·refine WP.region ?_
   refine RG.ml rfl (RG.p (PV.mul rfl rfl rfl (by omega)) (RG.mr rfl (RG.nil (WP.seq (WP.sr (RG.p (PV.move (v := u) rfl rfl) (RG.ml rfl (RG.p (PV.idxS (v := u) rfl Is148 rfl (SlF.r h2) rfl rfl (by omega)) (RG.p (PV.loadE1 rfl Sc4 rfl rfl (El.r h2 (getG (by omega))) rfl) (RG.nil ?_))))))))))
   refine WP.cond rfl (fun h5 => ?_) fun h5 => ?_
   ·refine WP.region ?_
    refine RG.ml rfl (RG.p (PV.mul rfl rfl rfl (by omega)) (RG.mr rfl (RG.nil (WP.region (RG.p (PV.move (v := v12) rfl rfl) (RG.ml rfl (RG.ml rfl (RG.ml rfl (RG.p (PV.quo rfl rfl rfl (by omega) (by omega) (by omega)) (RG.p (PV.rem rfl rfl rfl (by omega) (by omega) (by omega)) (RG.p (PV.eql rfl rfl rfl) (RG.p (PV.idxS (v := v12) rfl Is148 rfl SlF.o rfl rfl (by omega)) ?_))))))))))))
    refine RG.ot rfl (OT.storeE (F := boolT) rfl Sz4 rfl rfl rfl (Cl.c rfl) (OneC.c rfl) (by omega) ?_)
    refine RG.nil (WP.region (RG.ml rfl (RG.p (PV.add rfl rfl rfl (by omega)) (RG.mr rfl (RG.nil ?_)))))
    exact ⟨rfl, i + 1, (zs.set i (decide (op / (2 * (4 * 1)) % 2 = 1))), ⟨by omega, by simpa using hl2, set_pre he (by rw [hz, opF, h4, h5]; try rfl) (by omega)⟩, ⟨rfl, trivial⟩, ⟨rfl, rfl, rfl, rfl, trivial⟩, Cv.p, by omega⟩
   ·refine WP.skip ?_
    refine WP.region (RG.p (PV.move (v := v12) rfl rfl) (RG.ml rfl (RG.ml rfl (RG.ml rfl (RG.p (PV.quo rfl rfl rfl (by omega) (by omega) (by omega)) (RG.p (PV.rem rfl rfl rfl (by omega) (by omega) (by omega)) (RG.p (PV.eql rfl rfl rfl) (RG.p (PV.idxS (v := v12) rfl Is148 rfl SlF.o rfl rfl (by omega)) ?_))))))))
    refine RG.ot rfl (OT.storeE (F := boolT) rfl Sz4 rfl rfl rfl (Cl.c rfl) (OneC.c rfl) (by omega) ?_)
    refine RG.nil (WP.region (RG.ml rfl (RG.p (PV.add rfl rfl rfl (by omega)) (RG.mr rfl (RG.nil ?_)))))
    exact ⟨rfl, i + 1, (zs.set i (decide (op / (4 * 1) % 2 = 1))), ⟨by omega, by simpa using hl2, set_pre he (by rw [hz, opF, h4, h5]; try rfl) (by omega)⟩, ⟨rfl, trivial⟩, ⟨rfl, rfl, rfl, rfl, trivial⟩, Cv.p, by omega⟩
  ·refine WP.skip ?_
   refine WP.seq (WP.sr (RG.p (PV.move (v := u) rfl rfl) (RG.ml rfl (RG.p (PV.idxS (v := u) rfl Is148 rfl (SlF.r h2) rfl rfl (by omega)) (RG.p (PV.loadE1 rfl Sc4 rfl rfl (El.r h2 (getG (by omega))) rfl) (RG.nil ?_))))))
   refine WP.cond rfl (fun h5 => ?_) fun h5 => ?_
   ·refine WP.region ?_
    refine RG.ml rfl (RG.p (PV.mul rfl rfl rfl (by omega)) (RG.mr rfl (RG.nil (WP.region (RG.p (PV.move (v := v12) rfl rfl) (RG.ml rfl (RG.ml rfl (RG.ml rfl (RG.p (PV.quo rfl rfl rfl (by omega) (by omega) (by omega)) (RG.p (PV.rem rfl rfl rfl (by omega) (by omega) (by omega)) (RG.p (PV.eql rfl rfl rfl) (RG.p (PV.idxS (v := v12) rfl Is148 rfl SlF.o rfl rfl (by omega)) ?_))))))))))))
    refine RG.ot rfl (OT.storeE (F := boolT) rfl Sz4 rfl rfl rfl (Cl.c rfl) (OneC.c rfl) (by omega) ?_)
    refine RG.nil (WP.region (RG.ml rfl (RG.p (PV.add rfl rfl rfl (by omega)) (RG.mr rfl (RG.nil ?_)))))
    exact ⟨rfl, i + 1, (zs.set i (decide (op / (2 * 1) % 2 = 1))), ⟨by omega, by simpa using hl2, set_pre he (by rw [hz, opF, h4, h5]; try rfl) (by omega)⟩, ⟨rfl, trivial⟩, ⟨rfl, rfl, rfl, rfl, trivial⟩, Cv.p, by omega⟩
   ·refine WP.skip ?_
    refine WP.region (RG.p (PV.move (v := v12) rfl rfl) (RG.ml rfl (RG.ml rfl (RG.ml rfl (RG.p (PV.quo rfl rfl rfl (by omega) (by omega) (by omega)) (RG.p (PV.rem rfl rfl rfl (by omega) (by omega) (by omega)) (RG.p (PV.eql rfl rfl rfl) (RG.p (PV.idxS (v := v12) rfl Is148 rfl SlF.o rfl rfl (by omega)) ?_))))))))
    refine RG.ot rfl (OT.storeE (F := boolT) rfl Sz4 rfl rfl rfl (Cl.c rfl) (OneC.c rfl) (by omega) ?_)
    refine RG.nil (WP.region (RG.ml rfl (RG.p (PV.add rfl rfl rfl (by omega)) (RG.mr rfl (RG.nil ?_)))))
    exact ⟨rfl, i + 1, (zs.set i (decide (op / 1 % 2 = 1))), ⟨by omega, by simpa using hl2, set_pre he (by rw [hz, opF, h4, h5]; try rfl) (by omega)⟩, ⟨rfl, trivial⟩, ⟨rfl, rfl, rfl, rfl, trivial⟩, Cv.p, by omega⟩
 ·have h3 := odf h3
  obtain rfl := pre_eq he (by omega) (by omega)
  refine WP.exit (WP.sr (RG.p (PV.move (v := v12) rfl rfl) (RG.p (PV.asg (v := v12) rfl rfl) (RG.nil ?_))))
  exact WP.ret ⟨_, _, rv rfl rfl, Cv.p, k v12⟩
theorem unionAll_s {v : Value} {xs : List (Sl Rect)} (h1 : Rs G L slT v xs) (hd : RsE G L rectT xs) (k : ∀ v', R v' G (osl 101 rectT v' (canon (bits (er xs).flatten)) :: L)) : CallT Tryz.prog 138 #[v] G L R := by
 refine CallT.bd h1 fun hb => ?_
 refine CallT.enter (args := _) Tryz.func138 rfl rfl (by kernel_rfl) rfl ?_
 refine WP.sr (RG.p (PV.asg rfl rfl) (RG.nil (WP.sr (RG.p (PV.build0 rfl Tryz.underlying125 ⟨80, by kernel_rfl⟩ (zeroB_spec (n := 6400) (by kernel_rfl))) ?_))))
 refine RG.ot rfl (OT.boxG rfl rfl fun b9 => ?_)
 refine RG.p (PV.mvP (.inr rfl) rfl) (RG.nil (WP.seq (WP.sr (RG.p (PV.move (v := v) rfl rfl) (RG.p (PV.len (v := v) rfl Tryz.underlying35 rfl (SlF.r h1)) (RG.ml rfl (RG.nil (WP.block ?_))))))))
 refine WP.loop2 [3, 10, 11] (fun (i : Nat) (cs : List Bool) => i <= xs.length ∧ cs.length = 6400 ∧ ∀ y x, y < 80 -> x < 80 -> gb cs y x = (xs.take i).any fun s => s.xs.any fun r => inR r y x) (fun (i : Nat) (cs : List Bool) => [(12, vi i)]) (fun (i : Nat) (cs : List Bool) => grd b9 cs :: L) (fun (i : Nat) (cs : List Bool) => xs.length - i) 0 (List.replicate 6400 false) ⟨by omega, by simp, fun y x _ _ => by rw [gb_rep]; simp⟩ ⟨rfl, trivial⟩ Cv.p ?_
 rintro i cs τ ⟨hi, hl, hc⟩
 refine WP.sr (RG.p (PV.lss rfl rfl rfl) (RG.nil (WP.seq ?_)))
 refine WP.cond rfl (fun h2 => ?_) fun h2 => ?_
 ·have h2 := odt h2
  have h3 : i < xs.length := by omega
  refine WP.bd (hd i h3) fun hb2 => ?_
  refine WP.skip (WP.seq (WP.block (WP.sr (RG.p (PV.idxS (v := v) rfl Is35 rfl (SlF.r h1) rfl rfl (by omega)) (RG.p (PV.loadE1 rfl Sc50 rfl rfl (El.r h1 (getG (by omega))) rfl) (RG.p (PV.asg rfl rfl) (RG.nil (WP.sr (RG.p (PV.move rfl rfl) (RG.p (PV.len rfl Tryz.underlying50 rfl (SlF.r (hd i h3))) (RG.ml rfl ?_)))))))))))
  refine RG.nil (WP.block ?_)
  refine WP.loop2 [3, 10, 11, 12, 16, 17] (fun (j : Nat) (ds : List Bool) => j <= (gd xs i).xs.length ∧ ds.length = 6400 ∧ ∀ y x, y < 80 -> x < 80 -> gb ds y x = (gb cs y x || ((gd xs i).xs.take j).any fun r => inR r y x)) (fun (j : Nat) (ds : List Bool) => [(18, vi j)]) (fun (j : Nat) (ds : List Bool) => grd b9 ds :: L) (fun (j : Nat) (ds : List Bool) => (gd xs i).xs.length - j) 0 cs ⟨by omega, hl, fun y x _ _ => by simp⟩ ⟨rfl, trivial⟩ Cv.p ?_
  rintro j ds τ1 ⟨hj, hl2, hc2⟩
  refine WP.sr (RG.p (PV.lss rfl rfl rfl) (RG.nil (WP.seq ?_)))
  refine WP.cond rfl (fun h4 => ?_) fun h4 => ?_
  ·have h4 := odt h4
   refine WP.skip (WP.seq (WP.block (WP.sr (RG.p (PV.idxS rfl Is50 rfl (SlF.r (hd i h3)) rfl rfl (by omega)) (RG.p (PV.loadE rfl Ag101 rfl rfl (El.r (hd i h3) (getG (by omega)))) ?_)))))
   refine RG.ot rfl (OT.alloc rfl Zr101 fun b7 => ?_)
   refine RG.ot rfl (OT.storeW (vs := [vi _, vi _, vi _, vi _]) rfl Sz101 rfl rfl (Cl.c rfl) rfl rfl (OneC.c rfl) ?_)
   refine RG.nil (WP.region (RG.p (PV.mvP (.inl rfl) rfl) (RG.p (PV.loadW rfl Ag101 rfl rfl) ?_)))
   refine RG.callF (vs := [(.pointer (some ⟨b9, 0, none⟩)), _]) rfl rfl En68 rfl (CallT.exB (put_s (by assumption) (fun bs' hb' hg' => ?_)))
   refine RG.nil (WP.region (RG.p (PV.add rfl rfl rfl (by omega)) (RG.ml rfl (RG.nil ?_))))
   refine ⟨rfl, j + 1, bs', ⟨by omega, hb', fun y x h5 h6 => ?_⟩, ⟨rfl, trivial⟩, ⟨rfl, rfl, rfl, rfl, rfl, rfl, trivial⟩, Cv.p, by omega⟩
   rw [hg' y x h5 h6, hc2 y x h5 h6, List.take_add_one, getG (by omega), List.any_append, Bool.or_assoc]; simp
  ·have h4 := odf h4
   refine WP.exit (WP.region (RG.p (PV.add rfl rfl rfl (by omega)) (RG.ml rfl (RG.nil ?_))))
   refine ⟨rfl, i + 1, ds, ⟨by omega, hl2, fun y x h5 h6 => ?_⟩, ⟨rfl, trivial⟩, ⟨rfl, rfl, rfl, trivial⟩, Cv.p, by omega⟩
   rw [hc2 y x h5 h6, hc y x h5 h6, List.take_of_length_le (l := (gd xs i).xs) (by omega), List.take_add_one, getG h3, List.any_append]; simp
 ·have h2 := odf h2
  have e : cs = bits (er xs).flatten := bits_eq hl fun y x h5 h6 => by
   rw [hc y x h5 h6, List.take_of_length_le (by omega), List.any_flatten, er, List.any_map]; rfl
  subst e
  refine WP.exit (WP.sr (RG.p (PV.mvP (.inl rfl) rfl) ?_))
  refine RG.callF (vs := [(.pointer (some ⟨b9, 0, none⟩))]) rfl rfl En69 rfl (CallT.exB (region_s (bits_length _) (fun v28 => ?_)))
  refine RG.p (PV.asg (v := v28) rfl rfl) (RG.nil ?_)
  exact WP.ret ⟨_, _, rv rfl rfl, Cv.p, k v28⟩
theorem RsN {α : Type} {F : FT α} : Rs G L F (.slice none 0 0) [] := fun w hs => ⟨⟨0, Nat.le_refl _, Nat.zero_le _, .inr ⟨⟨none, rfl⟩, rfl⟩⟩, fun j c h => by simp [FT.flat] at h⟩
def rcnt (r : Nat -> Bool) (x : Nat) : Nat := if x < 80 then (bif r x then 1 else 0) + rcnt r (x + 1) else 0
termination_by 80 - x
theorem rcnt_congr {r q : Nat -> Bool} (h : ∀ x, x < 80 -> r x = q x) (x : Nat) : rcnt r x = rcnt q x := by
 rw [rcnt.eq_1 r x, rcnt.eq_1 q x]
 by_cases hx : x < 80
 ·rw [if_pos hx, if_pos hx, h x hx, rcnt_congr h (x + 1)]
 ·rw [if_neg hx, if_neg hx]
termination_by 80 - x
theorem rcnt_run (r : Nat -> Bool) (x : Nat) (hx : x <= 80) : rcnt r x = (runEnd r x - x) + rcnt r (runEnd r x) := by
 rw [runEnd]
 by_cases h : x < 80 ∧ r x = true
 ·rw [if_pos h]
  have ih := rcnt_run r (x + 1) (by omega)
  have h1 := runEnd_ge r (x + 1)
  rw [rcnt, if_pos h.1, h.2, ih]; simp only [cond_true]; omega
 ·rw [if_neg h]; omega
termination_by 80 - x
theorem rcnt_skip (r : Nat -> Bool) (x : Nat) (h : has r x = false) : rcnt r x = rcnt r (x + 1) := by
 rw [rcnt]
 by_cases hx : x < 80
 ·rw [if_pos hx]
  have : r x = false := by simpa [has, hx] using h
  rw [this]; simp
 ·rw [if_neg hx, rcnt, if_neg (by omega)]
theorem wsum_rcnt (r : Nat -> Bool) (x : Nat) : wsum (runsFrom r x) = rcnt r x := by
 rw [runsFrom]
 by_cases hx : x < 80
 ·rw [if_pos hx]
  by_cases hr : r x = true
  ·rw [if_pos hr]
   have h1 := runEnd_ge r (x + 1)
   have ih := wsum_rcnt r (runEnd r (x + 1) + 1)
   have h2 := rcnt_run r (x + 1) (by omega)
   have h3 := rcnt_skip r (runEnd r (x + 1)) (runEnd_has r _)
   rw [rcnt, if_pos hx, hr, h2, h3, wsum, ih]; simp only [cond_true]; omega
  ·rw [if_neg hr, wsum_rcnt r (x + 1)]
   rw [rcnt_skip r x (by simp [has, hr])]
 ·rw [if_neg hx, rcnt, if_neg hx]; rfl
termination_by 80 - x
decreasing_by
 ·have := runEnd_ge r (x + 1); omega
 ·omega
def gcnt (bs : List Bool) (y : Nat) : Nat := if y < 80 then rcnt (gb bs y) 0 + gcnt bs (y + 1) else 0
termination_by 80 - y
theorem gcnt_run (bs : List Bool) (c : Nat) : ∀ (n y : Nat), y + n <= 80 -> (∀ z, y <= z -> z < y + n -> rcnt (gb bs z) 0 = c) -> gcnt bs y = n * c + gcnt bs (y + n)
 | 0, y, _, _ => by simp
 | n + 1, y, hy, h => by
  have ih := gcnt_run bs c n (y + 1) (by omega) (fun z h1 h2 => h z (by omega) (by omega))
  rw [gcnt, if_pos (by omega), h y (by omega) (by omega), ih, Nat.add_mul, Nat.one_mul, show y + 1 + n = y + (n + 1) by omega]; omega
theorem area_gcnt (bs : List Bool) (y : Nat) : areaS (canonFrom bs y) = ((gcnt bs y : Nat) : Int) := by
 rw [canonFrom]
 by_cases h : y < 80
 ·rw [if_pos h, areaS_append]
  have h1 := endFrom_ge bs y (y + 1)
  have h2 := endFrom_le bs y (y + 1) (by omega)
  have ih := area_gcnt bs (endFrom bs y (y + 1))
  rw [area_map (by omega) _ (runs_mem _ _), ih, wsum_rcnt]
  have h3 := gcnt_run bs (rcnt (gb bs y) 0) (endFrom bs y (y + 1) - y) y (by omega) (fun z hz1 hz2 => by
   by_cases c : z = y
   ·rw [c]
   ·exact rcnt_congr (rowsEq_gb' (endFrom_eq bs y (y + 1) z (by omega) (by omega))) 0)
  rw [h3, show y + (endFrom bs y (y + 1) - y) = endFrom bs y (y + 1) by omega, Nat.mul_comm]; omega
 ·rw [if_neg h, gcnt, if_neg h]; rfl
termination_by 80 - y
decreasing_by have := endFrom_ge bs y (y + 1); omega
theorem row_cnt {bs : List Bool} (hl : bs.length = 6400) (y : Nat) (hy : y < 80) : ∀ (n x : Nat), x + n = 80 -> ((bs.drop (y * 80 + x)).take n).count true = rcnt (gb bs y) x
 | 0, x, h => by rw [rcnt, if_neg (by omega)]; simp
 | n + 1, x, h => by
  have ih := row_cnt hl y hy n (x + 1) (by omega)
  have hlt : y * 80 + x < bs.length := by omega
  rw [List.drop_eq_getElem_cons hlt, List.take_succ_cons, List.count_cons, rcnt.eq_1 _ x, if_pos (show x < 80 by omega), show y * 80 + x + 1 = y * 80 + (x + 1) by omega, ih, gb, gd_eq hlt]
  cases bs[y * 80 + x] <;> simp [Nat.add_comm]
theorem count_gcnt {bs : List Bool} (hl : bs.length = 6400) (y : Nat) : (bs.drop (y * 80)).count true = gcnt bs y := by
 rw [gcnt]
 by_cases h : y < 80
 ·rw [if_pos h, <- count_gcnt hl (y + 1), <- row_cnt hl y h 80 0 (by omega)]
  have e : bs.drop ((y + 1) * 80) = (bs.drop (y * 80)).drop 80 := by rw [List.drop_drop]; congr 1; omega
  rw [e, Nat.add_zero, <- List.count_append, List.take_append_drop]
 ·rw [if_neg h, List.drop_eq_nil_of_le (by omega)]; rfl
termination_by 80 - y
def cnt (bs : List Bool) : Int := bs.count true
theorem cnt_canon {bs : List Bool} (hl : bs.length = 6400) : areaS (canon bs) = cnt bs := by
 rw [canon, area_gcnt, <- count_gcnt hl 0]; simp [cnt]
theorem cnt_take {bs : List Bool} {i : Nat} (h : i < bs.length) : cnt (bs.take (i + 1)) = cnt (bs.take i) + (bif gd bs i then 1 else 0) := by
 rw [List.take_add_one, getG h, cnt, cnt, List.count_append]
 cases gd bs i <;> simp
theorem cnt_le (bs : List Bool) : 0 <= cnt bs ∧ cnt bs <= bs.length := by
 have := List.count_le_length (a := true) (l := bs)
 simp only [cnt]; omega
def inI (n lo hi : Int) : Bool := decide (lo <= n) && decide (n <= hi)
def hasC (bs : List Bool) (x y : Int) : Bool := inI x (-40) 39 && inI y (-40) 39 && gd bs ((y + 40) * 80 + x + 40).toNat
theorem hasC_gb {bs : List Bool} {y x : Nat} (hy : y < 80) (hx : x < 80) : hasC bs ((x : Int) - 40) ((y : Int) - 40) = gb bs y x := by
 have h1 : inI ((x : Int) - 40) (-40) 39 = true := by simp [inI]; omega
 have h2 : inI ((y : Int) - 40) (-40) 39 = true := by simp [inI]; omega
 have h3 : (((y : Int) - 40 + 40) * 80 + ((x : Int) - 40) + 40).toNat = y * 80 + x := by omega
 rw [hasC, h1, h2, h3, gb]; rfl
theorem hasC_iff {bs : List Bool} {x y : Int} : hasC bs x y = true ↔ ∃ y' x' : Nat, y' < 80 ∧ x' < 80 ∧ (y' : Int) = y + 40 ∧ (x' : Int) = x + 40 ∧ gb bs y' x' = true := by
 constructor
 ·intro h
  have h' := h
  simp only [hasC, inI, Bool.and_eq_true, decide_eq_true_eq] at h
  refine ⟨(y + 40).toNat, (x + 40).toNat, by omega, by omega, by omega, by omega, ?_⟩
  rw [<- hasC_gb (by omega) (by omega)]
  rw [show (((x + 40).toNat : Nat) : Int) - 40 = x by omega, show (((y + 40).toNat : Nat) : Int) - 40 = y by omega]; exact h'
 ·rintro ⟨y', x', h1, h2, h3, h4, h5⟩
  rw [<- hasC_gb h1 h2] at h5
  rwa [show (x' : Int) - 40 = x by omega, show (y' : Int) - 40 = y by omega] at h5
def anyTo (c : Int -> Bool) (k d : Int) : Bool := (List.range (d + k).toNat).any fun n => c ((n : Int) - k)
theorem anyTo_iff (c : Int -> Bool) (k d : Int) : anyTo c k d = true ↔ ∃ e, -k <= e ∧ e < d ∧ c e = true := by
 rw [anyTo, List.any_eq_true]
 constructor
 ·rintro ⟨n, hn, hc⟩
  rw [List.mem_range] at hn
  exact ⟨n - k, by omega, by omega, hc⟩
 ·rintro ⟨e, h1, h2, h3⟩
  exact ⟨(e + k).toNat, by rw [List.mem_range]; omega, by rw [show (((e + k).toNat : Nat) : Int) - k = e by omega]; exact h3⟩
def cnd (ac : Bool) (bs : List Bool) (x y d : Int) : Bool := (ac && hasC bs (x + d) y) || (!ac && hasC bs x (y + d))
def rowG (ac : Bool) (bs : List Bool) (k : Int) (y x : Nat) : Bool := anyTo (cnd ac bs ((x : Int) - 40) ((y : Int) - 40)) k (k + 1)
def rowBits (ac : Bool) (bs : List Bool) (k : Int) : List Bool := (List.range 6400).map fun j => rowG ac bs k (j / 80) (j % 80)
theorem rowBits_len (ac : Bool) (bs : List Bool) (k : Int) : (rowBits ac bs k).length = 6400 := by simp [rowBits]
theorem gb_row {ac : Bool} {bs : List Bool} {k : Int} {y x : Nat} (hy : y < 80) (hx : x < 80) : gb (rowBits ac bs k) y x = rowG ac bs k y x := by
 have h : y * 80 + x < 6400 := by omega
 have e1 : (y * 80 + x) / 80 = y := by omega
 have e2 : (y * 80 + x) % 80 = x := by omega
 rw [gb, gd_eq (by rw [rowBits_len]; exact h)]
 simp [rowBits, e1, e2]
theorem gb_ext {az bs : List Bool} (h : az.length = 6400) (h' : bs.length = 6400) (hg : ∀ y x, y < 80 -> x < 80 -> gb az y x = gb bs y x) : az = bs := by
 apply List.ext_getElem?
 intro k
 by_cases hk : k < 6400
 ·have h1 := hg (k / 80) (k % 80) (by omega) (by omega)
  have e : k / 80 * 80 + k % 80 = k := by omega
  rw [gb, gb, e] at h1
  rw [getG (by omega), getG (by omega), h1]
 ·rw [List.getElem?_eq_none (by omega), List.getElem?_eq_none (by omega)]
theorem rowG_across {bs : List Bool} {k : Int} {y x : Nat} (hy : y < 80) : rowG true bs k y x = true ↔ ∃ x' : Nat, x' < 80 ∧ (x : Int) - k <= x' ∧ (x' : Int) <= x + k ∧ gb bs y x' = true := by
 rw [rowG, anyTo_iff]
 constructor
 ·rintro ⟨e, h1, h2, h3⟩
  simp only [cnd, Bool.true_and, Bool.not_true, Bool.false_and, Bool.or_false] at h3
  obtain ⟨y', x', q1, q2, q3, q4, q5⟩ := hasC_iff.1 h3
  have : y' = y := by omega
  subst this
  exact ⟨x', q2, by omega, by omega, q5⟩
 ·rintro ⟨x', h1, h2, h3, h4⟩
  refine ⟨(x' : Int) - x, by omega, by omega, ?_⟩
  simp only [cnd, Bool.true_and, Bool.not_true, Bool.false_and, Bool.or_false]
  exact hasC_iff.2 ⟨y, x', hy, h1, by omega, by omega, h4⟩
theorem rowG_down {bs : List Bool} {k : Int} {y x : Nat} (hx : x < 80) : rowG false bs k y x = true ↔ ∃ y' : Nat, y' < 80 ∧ (y : Int) - k <= y' ∧ (y' : Int) <= y + k ∧ gb bs y' x = true := by
 rw [rowG, anyTo_iff]
 constructor
 ·rintro ⟨e, h1, h2, h3⟩
  simp only [cnd, Bool.false_and, Bool.not_false, Bool.true_and, Bool.false_or] at h3
  obtain ⟨y', x', q1, q2, q3, q4, q5⟩ := hasC_iff.1 h3
  have : x' = x := by omega
  subst this
  exact ⟨y', q1, by omega, by omega, q5⟩
 ·rintro ⟨y', h1, h2, h3, h4⟩
  refine ⟨(y' : Int) - y, by omega, by omega, ?_⟩
  simp only [cnd, Bool.false_and, Bool.not_false, Bool.true_and, Bool.false_or]
  exact hasC_iff.2 ⟨y', x, h1, hx, by omega, by omega, h4⟩
def growB (bs : List Bool) (k : Int) : List Bool := rowBits false (rowBits true bs k) k
theorem growB_len (bs : List Bool) (k : Int) : (growB bs k).length = 6400 := rowBits_len _ _ _
theorem growB_iff {bs : List Bool} {k : Int} {y x : Nat} (hy : y < 80) (hx : x < 80) : gb (growB bs k) y x = true ↔ ∃ y' x' : Nat, y' < 80 ∧ x' < 80 ∧ (y : Int) - k <= y' ∧ (y' : Int) <= y + k ∧ (x : Int) - k <= x' ∧ (x' : Int) <= x + k ∧ gb bs y' x' = true := by
 rw [growB, gb_row hy hx, rowG_down hx]
 constructor
 ·rintro ⟨y', h1, h2, h3, h4⟩
  rw [gb_row h1 hx, rowG_across h1] at h4
  obtain ⟨x', q1, q2, q3, q4⟩ := h4
  exact ⟨y', x', h1, q1, h2, h3, q2, q3, q4⟩
 ·rintro ⟨y', x', h1, h2, h3, h4, h5, h6, h7⟩
  exact ⟨y', h1, h3, h4, by rw [gb_row h1 hx, rowG_across h1]; exact ⟨x', h2, h5, h6, h7⟩⟩
@[reducible] def enl (k : Int) (r : Rect) : Rect := ⟨r.x0 - k, r.y0 - k, r.x1 + k, r.y1 + k⟩
theorem gb_bits' (rs : List Rect) {y x : Nat} (hy : y < 80) (hx : x < 80) : gb (bits rs) y x = rs.any fun r => inR r y x := by
 have h : y * 80 + x < 6400 := by omega
 have e1 : (y * 80 + x) / 80 = y := by omega
 have e2 : (y * 80 + x) % 80 = x := by omega
 rw [gb, gd_eq (by rw [bits_length]; exact h)]
 simp [bits, e1, e2]
theorem clamp {lo hi y k : Int} (h0 : 0 <= lo) (h : lo < hi) (hk : 0 <= k) (h1 : lo - k <= y) (h2 : y < hi + k) : ∃ c : Nat, lo <= c ∧ (c : Int) < hi ∧ y - k <= c ∧ (c : Int) <= y + k := by
 by_cases a : y < lo
 ·exact ⟨lo.toNat, by omega, by omega, by omega, by omega⟩
 ·by_cases b : y < hi
  ·exact ⟨y.toNat, by omega, by omega, by omega, by omega⟩
  ·exact ⟨(hi - 1).toNat, by omega, by omega, by omega, by omega⟩
theorem grow_enl {xs : List Rect} {k : Int} (hk : 0 <= k) (hx : ∀ r ∈ xs, -40 <= r.x0 ∧ r.x0 < r.x1 ∧ r.x1 <= 40 ∧ -40 <= r.y0 ∧ r.y0 < r.y1 ∧ r.y1 <= 40) {y x : Nat} (hy : y < 80) (hx' : x < 80) : (xs.any fun r => inR (enl k r) y x) = gb (growB (bits xs) k) y x := by
 rw [Bool.eq_iff_iff, growB_iff hy hx', List.any_eq_true]
 constructor
 ·rintro ⟨r, hr, h⟩
  have hb := hx r hr
  simp [inR, enl] at h
  obtain ⟨y', a1, a2, a3, a4⟩ := clamp (lo := r.y0 + 40) (hi := r.y1 + 40) (y := (y : Int)) (k := k) (by omega) (by omega) hk (by omega) (by omega)
  obtain ⟨x', b1, b2, b3, b4⟩ := clamp (lo := r.x0 + 40) (hi := r.x1 + 40) (y := (x : Int)) (k := k) (by omega) (by omega) hk (by omega) (by omega)
  refine ⟨y', x', by omega, by omega, a3, a4, b3, b4, ?_⟩
  rw [gb_bits' xs (by omega) (by omega), List.any_eq_true]
  refine ⟨r, hr, ?_⟩
  simp [inR]; omega
 ·rintro ⟨y', x', h1, h2, h3, h4, h5, h6, h7⟩
  rw [gb_bits' xs h1 h2, List.any_eq_true] at h7
  obtain ⟨r, hr, h⟩ := h7
  refine ⟨r, hr, ?_⟩
  simp [inR, enl] at h ⊢; omega
abbrev Cel := Nat × Nat
def Adj (a b : Cel) : Prop := (a.1 = b.1 ∧ (a.2 = b.2 + 1 ∨ b.2 = a.2 + 1)) ∨ (a.2 = b.2 ∧ (a.1 = b.1 + 1 ∨ b.1 = a.1 + 1))
theorem Adj.symm {a b : Cel} (h : Adj a b) : Adj b a := by
 rcases h with ⟨h1, h2⟩ | ⟨h1, h2⟩
 ·exact .inl ⟨h1.symm, h2.symm⟩
 ·exact .inr ⟨h1.symm, h2.symm⟩
def On (S : List Bool) (a : Cel) : Prop := a.1 < 80 ∧ a.2 < 80 ∧ gb S a.1 a.2 = true
inductive Conn (S : List Bool) (a : Cel) : Cel -> Prop where
  | refl : Conn S a a
  | step {b c : Cel} : Conn S a b -> Adj b c -> On S c -> Conn S a c
theorem Conn.on {S : List Bool} {a b : Cel} (h : Conn S a b) (ha : On S a) : On S b := by
 cases h with
 | refl => exact ha
 | step _ _ h => exact h
theorem Conn.trans {S : List Bool} {a b c : Cel} (h : Conn S a b) (k : Conn S b c) : Conn S a c := by
 induction k with
 | refl => exact h
 | step _ h1 h2 ih => exact ih.step h1 h2
theorem Conn.symm {S : List Bool} {a b : Cel} (h : Conn S a b) (ha : On S a) : Conn S b a := by
 induction h with
 | refl => exact .refl
 | step h1 h2 h3 ih => exact (Conn.step .refl h2.symm (h1.on ha)).trans ih
theorem Conn.sub {S T : List Bool} {a b : Cel} (h : Conn S a b) (ha : On T a) (hc : ∀ p q, On T p -> Adj p q -> On S q -> On T q) : Conn T a b ∧ On T b := by
 induction h with
 | refl => exact ⟨.refl, ha⟩
 | step h1 h2 h3 ih =>
  have := hc _ _ ih.2 h2 h3
  exact ⟨ih.1.step h2 this, this⟩
theorem Conn.mono {S T : List Bool} {a b : Cel} (h : Conn T a b) (hc : ∀ p, On T p -> On S p) : Conn S a b := by
 induction h with
 | refl => exact .refl
 | step h1 h2 h3 ih => exact ih.step h2 (hc _ h3)
open Classical in
noncomputable def compB (S : List Bool) (a : Cel) : List Bool := (List.range 6400).map fun j => decide (Conn S a (j / 80, j % 80))
theorem compB_len (S : List Bool) (a : Cel) : (compB S a).length = 6400 := by simp [compB]
open Classical in
theorem gb_comp {S : List Bool} {a : Cel} {y x : Nat} (hy : y < 80) (hx : x < 80) : gb (compB S a) y x = decide (Conn S a (y, x)) := by
 have h : y * 80 + x < 6400 := by omega
 have e1 : (y * 80 + x) / 80 = y := by omega
 have e2 : (y * 80 + x) % 80 = x := by omega
 rw [gb, gd_eq (by rw [compB_len]; exact h)]
 simp [compB, e1, e2]
theorem comp_iff {S : List Bool} {a : Cel} {y x : Nat} (hy : y < 80) (hx : x < 80) : gb (compB S a) y x = true ↔ Conn S a (y, x) := by
 rw [gb_comp hy hx]; simp
theorem comp_of {S out : List Bool} {a : Cel} (hl : out.length = 6400) (ha : On S a) (ho : On out a) (hconn : ∀ b, On out b -> Conn S a b) (hcl : ∀ b c, On out b -> Adj b c -> On S c -> On out c) : out = compB S a := by
 refine gb_ext hl (compB_len _ _) fun y x hy hx => ?_
 rw [Bool.eq_iff_iff, comp_iff hy hx]
 constructor
 ·intro h; exact hconn (y, x) ⟨hy, hx, h⟩
 ·intro h
  exact (h.sub ho hcl).2.2.2
def pos (a : Cel) : Nat := a.1 * 80 + a.2
def cel (j : Nat) : Cel := (j / 80, j % 80)
theorem cel_pos {a : Cel} (h : a.2 < 80) : cel (pos a) = a := by
 obtain ⟨y, x⟩ := a
 simp only [cel, pos, Prod.mk.injEq] at *
 omega
def First (S : List Bool) (j : Nat) : Prop := On S (cel j) ∧ ∀ i, i < j -> On S (cel i) -> ¬ Conn S (cel i) (cel j)
open Classical in
noncomputable def firsts (S : List Bool) (n : Nat) : List Nat := (List.range n).filter fun j => decide (First S j)
noncomputable def comps (S : List Bool) : List (List Bool) := (firsts S 6400).map fun j => compB S (cel j)
open Classical in
theorem firsts_succ (S : List Bool) (n : Nat) : firsts S (n + 1) = if First S n then firsts S n ++ [n] else firsts S n := by
 rw [firsts, List.range_succ, List.filter_append]
 by_cases h : First S n <;> simp [h, firsts]
def Left (S : List Bool) (n : Nat) (a : Cel) : Prop := On S a ∧ ∀ i, i < n -> On S (cel i) -> ¬ Conn S (cel i) a
theorem left_zero {S : List Bool} {a : Cel} : Left S 0 a ↔ On S a := ⟨fun h => h.1, fun h => ⟨h, fun i hi => by omega⟩⟩
theorem left_first {S : List Bool} {n : Nat} : Left S n (cel n) ↔ First S n := Iff.rfl
theorem left_closed {S : List Bool} {n : Nat} {p q : Cel} (h : Left S n p) (ha : Adj p q) (hq : On S q) : Left S n q :=
 ⟨hq, fun i hi ho hc => h.2 i hi ho (hc.step ha.symm h.1)⟩
theorem comp_left {S T : List Bool} {n : Nat} (hT : ∀ a : Cel, On T a ↔ Left S n a) {a : Cel} (ha : Left S n a) : compB T a = compB S a := by
 refine comp_of (compB_len _ _) ha.1 ⟨((hT a).2 ha).1, ((hT a).2 ha).2.1, (comp_iff ((hT a).2 ha).1 ((hT a).2 ha).2.1).2 .refl⟩ (fun b hb => ?_) (fun b c hb hbc hc => ?_)
 ·exact ((comp_iff hb.1 hb.2.1).1 hb.2.2).mono fun p hp => ((hT p).1 hp).1
 ·have h1 := (comp_iff hb.1 hb.2.1).1 hb.2.2
  have h2 := h1.on ((hT a).2 ha)
  have h3 := left_closed ((hT _).1 h2) hbc hc
  exact ⟨hc.1, hc.2.1, (comp_iff hc.1 hc.2.1).2 (h1.step hbc ((hT c).2 h3))⟩
theorem left_succ_skip {S : List Bool} {n : Nat} (h : ¬ First S n) {a : Cel} : Left S (n + 1) a ↔ Left S n a := by
 constructor
 ·exact fun k => ⟨k.1, fun i hi => k.2 i (by omega)⟩
 ·intro k
  refine ⟨k.1, fun i hi ho hc => ?_⟩
  by_cases e : i = n
  ·subst e
   apply h
   exact ⟨ho, fun j hj hoj hcj => k.2 j hj hoj (hcj.trans hc)⟩
  ·exact k.2 i (by omega) ho hc
theorem left_succ_take {S : List Bool} {n : Nat} (h : First S n) {a : Cel} : Left S (n + 1) a ↔ Left S n a ∧ ¬ Conn S (cel n) a := by
 constructor
 ·exact fun k => ⟨⟨k.1, fun i hi => k.2 i (by omega)⟩, k.2 n (by omega) h.1⟩
 ·rintro ⟨k, hn⟩
  refine ⟨k.1, fun i hi ho hc => ?_⟩
  by_cases e : i = n
  ·subst e; exact hn hc
  ·exact k.2 i (by omega) ho hc
end Go.Proofs.YtogocmlhnjiaaaaGreat
namespace Go.Proofs.YtogocmlhnjiaaaaGreat
def qc (q : Int × Int) : Cel := (q.2.toNat, q.1.toNat)
structure FI (S : List Bool) (a : Cel) (O : List Bool) (Q : List (Int × Int)) : Prop where
  len : O.length = 6400
  bd : ∀ i, i < Q.length -> 0 <= (gd Q i).1 ∧ (gd Q i).1 < 80 ∧ 0 <= (gd Q i).2 ∧ (gd Q i).2 < 80
  on : ∀ i, i < Q.length -> On O (qc (gd Q i))
  all : ∀ c, On O c -> ∃ i, i < Q.length ∧ qc (gd Q i) = c
  conn : ∀ i, i < Q.length -> Conn S a (qc (gd Q i))
  cnt : cnt O = Q.length
theorem gd_app_l {α : Type} [Inhabited α] {xs ys : List α} {i : Nat} (h : i < xs.length) : gd (xs ++ ys) i = gd xs i := by
 simp only [gd, List.getElem?_append_left h]
theorem gd_app_r {α : Type} [Inhabited α] {xs : List α} {a : α} : gd (xs ++ [a]) xs.length = a := by
 simp [gd]
theorem gb_set' {bs : List Bool} {y x y' x' : Nat} {q : Bool} (h : bs.length = 6400) (hy : y < 80) (hx : x < 80) (hx' : x' < 80) : gb (bs.set (y * 80 + x) q) y' x' = if y' = y ∧ x' = x then q else gb bs y' x' := by
 unfold gb gd
 rw [List.getElem?_set]
 by_cases e : y * 80 + x = y' * 80 + x'
 ·have e1 : y' = y ∧ x' = x := by omega
  rw [if_pos e, if_pos e1, if_pos (by omega)]; rfl
 ·have e1 : ¬ (y' = y ∧ x' = x) := by omega
  rw [if_neg e, if_neg e1]
theorem cnt_set {bs : List Bool} {k : Nat} (h : k < bs.length) (hk : gd bs k = false) : cnt (bs.set k true) = cnt bs + 1 := by
 have e1 : bs.set k true = bs.take k ++ true :: bs.drop (k + 1) := by rw [List.set_eq_take_append_cons_drop, if_pos h]
 have e2 : bs = bs.take k ++ false :: bs.drop (k + 1) := by
  rw [gd_eq h] at hk
  conv => lhs; rw [<- List.take_append_drop k bs, List.drop_eq_getElem_cons h, hk]
 have h1 : cnt (bs.set k true) = (((bs.take k).count true + (bs.drop (k + 1)).count true + 1 : Nat) : Int) := by
  rw [cnt, e1, List.count_append, List.count_cons]; simp; omega
 have h2 : cnt bs = (((bs.take k).count true + (bs.drop (k + 1)).count true : Nat) : Int) := by
  rw [cnt]; conv => lhs; rw [e2, List.count_append, List.count_cons]
  simp
 rw [h1, h2]; omega
theorem FI.len_le {S O : List Bool} {a : Cel} {Q : List (Int × Int)} (h : FI S a O Q) : Q.length <= 6400 := by
 have h1 := h.cnt; have h2 := cnt_le O; rw [h.len] at h2; omega
theorem FI.add {S O : List Bool} {a : Cel} {Q : List (Int × Int)} (h : FI S a O Q) {x y : Int} (hx : 0 <= x ∧ x < 80) (hy : 0 <= y ∧ y < 80) (hO : gb O y.toNat x.toNat = false) (hS : gb S y.toNat x.toNat = true) {i : Nat} (hi : i < Q.length) (ha : Adj (qc (gd Q i)) (y.toNat, x.toNat)) :
  FI S a (O.set (y.toNat * 80 + x.toNat) true) (Q ++ [(x, y)]) := by
 have hk : y.toNat * 80 + x.toNat < O.length := by rw [h.len]; omega
 have hg : ∀ c : Cel, c.2 < 80 -> gb (O.set (y.toNat * 80 + x.toNat) true) c.1 c.2 = if c.1 = y.toNat ∧ c.2 = x.toNat then true else gb O c.1 c.2 := fun c hc => gb_set' h.len (by omega) (by omega) hc
 refine ⟨by simpa using h.len, fun j hj => ?_, fun j hj => ?_, fun c hc => ?_, fun j hj => ?_, ?_⟩
 ·by_cases e : j < Q.length
  ·rw [gd_app_l e]; exact h.bd j e
  ·have : j = Q.length := by simp at hj; omega
   rw [this, gd_app_r]; exact ⟨hx.1, hx.2, hy.1, hy.2⟩
 ·by_cases e : j < Q.length
  ·rw [gd_app_l e]
   have := h.on j e
   refine ⟨this.1, this.2.1, ?_⟩
   rw [hg _ this.2.1]; split
   ·rfl
   ·exact this.2.2
  ·have : j = Q.length := by simp at hj; omega
   rw [this, gd_app_r]
   refine ⟨by simp only [qc]; omega, by simp only [qc]; omega, ?_⟩
   rw [hg _ (by simp only [qc]; omega), if_pos ⟨rfl, rfl⟩]
 ·have := hc.2.2
  rw [hg c hc.2.1] at this
  by_cases e : c.1 = y.toNat ∧ c.2 = x.toNat
  ·refine ⟨Q.length, by simp, ?_⟩
   rw [gd_app_r]
   obtain ⟨c1, c2⟩ := c
   simp only at e
   simp [qc, e.1, e.2]
  ·rw [if_neg e] at this
   obtain ⟨j, hj, he⟩ := h.all c ⟨hc.1, hc.2.1, this⟩
   exact ⟨j, by simp; omega, by rw [gd_app_l hj]; exact he⟩
 ·by_cases e : j < Q.length
  ·rw [gd_app_l e]; exact h.conn j e
  ·have : j = Q.length := by simp at hj; omega
   rw [this, gd_app_r]
   exact (h.conn i hi).step ha ⟨by simp only [qc]; omega, by simp only [qc]; omega, hS⟩
 ·rw [cnt_set hk (by rw [gb] at hO; exact hO), h.cnt]; simp
theorem gb_rep' (y x : Nat) : gb (List.replicate 6400 false) y x = false := by
 unfold gb gd
 rw [List.getElem?_replicate]; split <;> rfl
theorem FI.start {S : List Bool} {x y : Int} (hx : 0 <= x ∧ x < 80) (hy : 0 <= y ∧ y < 80) : FI S (y.toNat, x.toNat) ((List.replicate 6400 false).set (y.toNat * 80 + x.toNat) true) [(x, y)] := by
 have hl : (List.replicate 6400 false).length = 6400 := List.length_replicate
 have hg : ∀ c : Cel, c.2 < 80 -> gb ((List.replicate 6400 false).set (y.toNat * 80 + x.toNat) true) c.1 c.2 = if c.1 = y.toNat ∧ c.2 = x.toNat then true else false := fun c hc => by
  rw [gb_set' hl (by omega) (by omega) hc, gb_rep']
 have hg0 : gd [(x, y)] 0 = (x, y) := by simp [gd]
 have one : ∀ i, i < [(x, y)].length -> i = 0 := fun i hi => by simpa using hi
 refine ⟨by rw [List.length_set, hl], fun i hi => ?_, fun i hi => ?_, fun c hc => ?_, fun i hi => ?_, ?_⟩
 ·rw [one i hi, hg0]; exact ⟨hx.1, hx.2, hy.1, hy.2⟩
 ·rw [one i hi, hg0]
  refine ⟨by simp [qc]; omega, by simp [qc]; omega, ?_⟩
  rw [hg _ (by simp [qc]; omega)]; simp [qc]
 ·have := hc.2.2
  rw [hg c hc.2.1] at this
  have e : c.1 = y.toNat ∧ c.2 = x.toNat := by
   by_cases e : c.1 = y.toNat ∧ c.2 = x.toNat
   ·exact e
   ·rw [if_neg e] at this; cases this
  refine ⟨0, by simp, ?_⟩
  rw [hg0]
  obtain ⟨c1, c2⟩ := c
  simp only at e
  simp [qc, e.1, e.2]
 ·rw [one i hi, hg0]; exact .refl
 ·rw [cnt_set (by rw [hl]; omega) (by have := gb_rep' y.toNat x.toNat; rwa [gb] at this)]
  have : Go.Proofs.YtogocmlhnjiaaaaGreat.cnt (List.replicate 6400 false) = 0 := by
   rw [Go.Proofs.YtogocmlhnjiaaaaGreat.cnt, List.count_replicate]; rfl
  rw [this]; simp
def Done (S O : List Bool) (Q : List (Int × Int)) (i : Nat) : Prop := ∀ m, m < i -> ∀ c, Adj (qc (gd Q m)) c -> On S c -> On O c
def Near (S O : List Bool) (p : Cel) (dy dx : Int) : Prop := ∀ c : Cel, Adj p c -> On S c -> ((c.1 : Int) - p.1 < dy ∨ ((c.1 : Int) - p.1 = dy ∧ (c.2 : Int) - p.2 < dx)) -> On O c
theorem Near.zero (S O : List Bool) (p : Cel) : Near S O p (-1) (-1) := fun c ha _ h => by
 rcases ha with ⟨h1, h2⟩ | ⟨h1, h2⟩ <;> omega
theorem Near.next {S O : List Bool} {p : Cel} {dy : Int} (h : Near S O p dy 2) : Near S O p (dy + 1) (-1) := fun c ha hs hc => by
 refine h c ha hs ?_
 rcases ha with ⟨h1, h2⟩ | ⟨h1, h2⟩ <;> omega
theorem Near.done {S O : List Bool} {p : Cel} (h : Near S O p 2 (-1)) : ∀ c, Adj p c -> On S c -> On O c := fun c ha hs => by
 refine h c ha hs ?_
 rcases ha with ⟨h1, h2⟩ | ⟨h1, h2⟩ <;> omega
theorem Near.step {S O O' : List Bool} {p : Cel} {dy dx : Int} (h : Near S O p dy dx) (hO : ∀ c, On O c -> On O' c) (hn : ∀ c : Cel, Adj p c -> On S c -> (c.1 : Int) - p.1 = dy -> (c.2 : Int) - p.2 = dx -> On O' c) : Near S O' p dy (dx + 1) := fun c ha hs hc => by
 by_cases e : (c.1 : Int) - p.1 = dy ∧ (c.2 : Int) - p.2 = dx
 ·exact hn c ha hs e.1 e.2
 ·exact hO c (h c ha hs (by omega))
theorem FI.final {S O : List Bool} {a : Cel} {Q : List (Int × Int)} (h : FI S a O Q) (ha : On S a) (h0 : On O a) (hd : Done S O Q Q.length) : O = compB S a :=
 comp_of h.len ha h0 (fun b hb => by obtain ⟨i, hi, rfl⟩ := h.all b hb; exact h.conn i hi) fun b c hb hbc hc => by
  obtain ⟨i, hi, rfl⟩ := h.all b hb
  exact hd i hi c hbc hc
theorem on_set {O : List Bool} {x y : Int} (hl : O.length = 6400) (hx : 0 <= x ∧ x < 80) (hy : 0 <= y ∧ y < 80) {c : Cel} (h : On O c) : On (O.set (y.toNat * 80 + x.toNat) true) c := by
 refine ⟨h.1, h.2.1, ?_⟩
 rw [gb_set' hl (by omega) (by omega) h.2.1]; split
 ·rfl
 ·exact h.2.2
open Go
set_option maxRecDepth 20000
variable {G : Gh} {L : List Ch} {R : Value -> Gh -> List Ch -> Prop}
theorem Cv.cast {L L' : List Ch} (h : L = L') : Cv L L' := by subst h; exact Cv.refl _
theorem WP.loop4 {P : Program} {n : Nat} {Q : Post} {σ : Nat -> Value} {G : Gh} {L : List Ch} {c : Code} (keep : List Nat) {A B D E : Type} (J : A -> B -> D -> E -> Prop) (S : A -> B -> D -> E -> List (Nat × Value)) (C : A -> B -> D -> E -> List Ch) (μ : A -> B -> D -> E -> Nat) (a0 : A) (b0 : B) (d0 : D) (e0 : E) (j0 : J a0 b0 d0 e0) (h0 : HasV σ (S a0 b0 d0 e0)) (p0 : Cv L (C a0 b0 d0 e0))
  (round : ∀ a b d e τ, J a b d e -> WP P n c (thenP (fun σ' G' L' => G' = G ∧ ∃ a' b' d' e', J a' b' d' e' ∧ HasV σ' (S a' b' d' e') ∧ Keeps σ' σ keep ∧ Cv L' (C a' b' d' e') ∧ μ a' b' d' e' < μ a b d e) Q) (upds (updk τ σ keep) (S a b d e)) G (C a b d e)) : WP P n (.loop c) Q σ G L :=
 WP.loop0 keep (A := A × B × D × E) (fun x => J x.1 x.2.1 x.2.2.1 x.2.2.2) (fun x => S x.1 x.2.1 x.2.2.1 x.2.2.2) (fun x => C x.1 x.2.1 x.2.2.1 x.2.2.2) (fun x => μ x.1 x.2.1 x.2.2.1 x.2.2.2) (a0, b0, d0, e0) j0 h0 p0 fun x τ j =>
  WP.mono (round x.1 x.2.1 x.2.2.1 x.2.2.2 τ j) fun e σ G L hq => by
   cases e with
   | normal => obtain ⟨e, a', b', d', e', h⟩ := hq; exact ⟨e, (a', b', d', e'), h⟩
   | _ => exact hq
theorem Cv.grd {b y x : Nat} {O : List Bool} {q : Bool} {L : List Ch} : Cv (Go.Proofs.YtogocmlhnjiaaaaGreat.grd b (O.set (0 + y * 80 + x * 1) q) :: L) (Go.Proofs.YtogocmlhnjiaaaaGreat.grd b (O.set (y * 80 + x) q) :: L) := Cv.cast (by rw [show 0 + y * 80 + x * 1 = y * 80 + x by omega])
theorem gd_gb {B : List Bool} {a b : Nat} : gd B (0 + a * 80 + b * 1) = gb B a b := by rw [gb]; congr 1; omega
theorem Done.add {S O O' : List Bool} {Q : List (Int × Int)} {i : Nat} {q : Int × Int} (h : Done S O Q i) (hi : i < Q.length) (hO : ∀ c, On O c -> On O' c) : Done S O' (Q ++ [q]) i := fun m hm c ha hs => by
 rw [gd_app_l (by omega)] at ha; exact hO c (h m hm c ha hs)
theorem Done.next {S O : List Bool} {Q : List (Int × Int)} {i : Nat} {p : Cel} (h : Done S O Q i) (hp : qc (gd Q i) = p) (hn : Near S O p 2 (-1)) : Done S O Q (i + 1) := fun m hm c ha hs => by
 by_cases e : m = i
 ·subst e; rw [hp] at ha; exact hn.done c ha hs
 ·exact h m (by omega) c ha hs
theorem Near.skip {S O : List Bool} {q : Int × Int} {dy dx : Int} (h : Near S O (qc q) dy dx) (hb : 0 <= q.1 ∧ q.1 < 80 ∧ 0 <= q.2 ∧ q.2 < 80) (hc : (dx ≠ 0 ∧ dy ≠ 0) ∨ q.1 + dx < 0 ∨ q.2 + dy < 0 ∨ q.1 + dx ≥ 80 ∨ q.2 + dy ≥ 80 ∨ gb S (q.2 + dy).toNat (q.1 + dx).toNat = false ∨ gb O (q.2 + dy).toNat (q.1 + dx).toNat = true) : Near S O (qc q) dy (dx + 1) :=
 h.step (fun _ h => h) fun c ha hs e1 e2 => by
  obtain ⟨c1, c2⟩ := c
  obtain ⟨h1, h2, h3⟩ := hs
  simp only [qc, Adj] at *
  have e3 : c1 = (q.2 + dy).toNat := by omega
  have e4 : c2 = (q.1 + dx).toNat := by omega
  rcases hc with k | k | k | k | k | k | k
  ·omega
  ·omega
  ·omega
  ·omega
  ·omega
  ·rw [<- e3, <- e4, h3] at k; cases k
  ·exact ⟨h1, h2, by rw [e3, e4]; exact k⟩
theorem Near.take {S O : List Bool} {q : Int × Int} {dy dx : Int} (h : Near S O (qc q) dy dx) (hl : O.length = 6400) (hb : 0 <= q.1 ∧ q.1 < 80 ∧ 0 <= q.2 ∧ q.2 < 80) (hx : 0 <= q.1 + dx ∧ q.1 + dx < 80) (hy : 0 <= q.2 + dy ∧ q.2 + dy < 80) : Near S (O.set ((q.2 + dy).toNat * 80 + (q.1 + dx).toNat) true) (qc q) dy (dx + 1) :=
 h.step (fun c hc => on_set hl hx hy hc) fun c ha hs e1 e2 => by
  obtain ⟨c1, c2⟩ := c
  obtain ⟨h1, h2, h3⟩ := hs
  simp only [qc, Adj] at *
  have e3 : c1 = (q.2 + dy).toNat := by omega
  have e4 : c2 = (q.1 + dx).toNat := by omega
  refine ⟨h1, h2, ?_⟩
  rw [gb_set' hl (by omega) (by omega) h2, if_pos ⟨e3, e4⟩]
theorem adj_near {q : Int × Int} {dy dx : Int} (hb : 0 <= q.1 ∧ q.1 < 80 ∧ 0 <= q.2 ∧ q.2 < 80) (hd : (-1 <= dy ∧ dy <= 1) ∧ (-1 <= dx ∧ dx <= 1)) (hn : dx = 0 ∨ dy = 0) (h0 : ¬ (dx = 0 ∧ dy = 0)) (hx : 0 <= q.1 + dx) (hy : 0 <= q.2 + dy) : Adj (qc q) ((q.2 + dy).toNat, (q.1 + dx).toNat) := by
 simp only [qc, Adj]; omega
theorem flood_s {b : Nat} {S : List Bool} {x y : Int} (hS : S.length = 6400) (hx : 0 <= x ∧ x < 80) (hy : 0 <= y ∧ y < 80) (hon : gb S y.toNat x.toNat = true) (k : ∀ b', R (.pointer (some ⟨b', 0, none⟩)) G (grd b' (compB S (y.toNat, x.toNat)) :: grd b S :: L)) :
  CallT Tryz.prog 179 #[.pointer (some ⟨b, 0, none⟩), vi x, vi y, .bool false] G (grd b S :: L) R := by
 have hst := FI.start (S := S) hx hy
 have hseed : On S (y.toNat, x.toNat) := ⟨by simp only; omega, by simp only; omega, hon⟩
 refine CallT.enter (args := _) Tryz.func179 rfl rfl (by kernel_rfl) rfl ?_
 refine WP.sr (RG.p (PV.asg rfl rfl) (RG.nil (WP.sr (RG.p (PV.build0 rfl Tryz.underlying125 ⟨80, by kernel_rfl⟩ (zeroB_spec (n := 6400) (by kernel_rfl))) ?_))))
 refine RG.ot rfl (OT.boxG rfl rfl fun b17 => ?_)
 refine RG.p (PV.mvP (.inr rfl) rfl) (RG.nil (WP.sr (RG.p (PV.mvP (.inl rfl) rfl) (RG.ml rfl (RG.ml rfl (RG.p (PV.nilc rfl rfl) (RG.p (PV.idxA (j := y.toNat) rfl Ia125 rfl rfl (by omega) (by omega)) (RG.p (PV.idxA (j := x.toNat) rfl Ia123 rfl rfl (by omega) (by omega)) ?_))))))))
 refine RG.ot rfl (OT.storeGr rfl Sz4 rfl rfl rfl (by first | omega | (simp; omega)) ?_)
 refine RG.nil (WP.sr (RG.ml rfl (RG.ml rfl (RG.p (PV.buildA (F := intT) (az := [_, _]) rfl Tryz.underlying226 (by kernel_rfl) ⟨rfl, (Cl.c rfl), ⟨rfl, (Cl.c rfl), trivial⟩⟩) ?_))))
 refine RG.ot rfl (OT.bslice (F := prT) (els := [⟨_, _⟩]) rfl El227 rfl (by decide) rfl (by decide) ⟨rfl, (Cl.c rfl), trivial⟩ fun v27 => ?_)
 refine RG.p (PV.asg (v := v27) rfl rfl) (RG.nil (WP.seq (WP.sr (RG.mr rfl (RG.nil (WP.block ?_))))))
 refine WP.cv ((Cv.p (C := grd b17 ((List.replicate 6400 false).set (0 + y.toNat * 80 + x.toNat * 1) true) :: osl 226 prT v27 [(x, y)] :: grd b S :: L)).trans Cv.grd) ?_
 refine WP.loop4 [0, 3, 9] (fun (i : Nat) (Q : List (Int × Int)) (O : List Bool) (qv : Value) => i <= Q.length ∧ FI S (y.toNat, x.toNat) O Q ∧ Done S O Q i ∧ On O (y.toNat, x.toNat)) (fun (i : Nat) (Q : List (Int × Int)) (O : List Bool) (qv : Value) => [(11, vi i), (10, qv)]) (fun (i : Nat) (Q : List (Int × Int)) (O : List Bool) (qv : Value) => grd b17 O :: osl 226 prT qv Q :: grd b S :: L) (fun (i : Nat) (Q : List (Int × Int)) (O : List Bool) (qv : Value) => 6401 - i) 0 [(x, y)] ((List.replicate 6400 false).set (y.toNat * 80 + x.toNat) true) v27 ⟨by simp, hst, fun m hm => by omega, by have := hst.on 0 (by simp); simpa [gd, qc] using this⟩ ⟨rfl, rfl, trivial⟩ Cv.p ?_
 rintro i Q O qv τ ⟨hi, hF, hD, h0⟩
 refine WP.seq (WP.sr (RG.ml rfl (RG.p (PV.move (v := qv) rfl rfl) (RG.p (PV.len (v := qv) rfl Tryz.underlying227 rfl SlF.o) (RG.p (PV.lss rfl rfl rfl) (RG.nil ?_))))))
 refine WP.cond rfl (fun h2 => ?_) fun h2 => ?_
 ·have h2 := odt h2
  have hQ := hF.len_le
  have hb := hF.bd i (by omega)
  refine WP.skip (WP.seq (WP.block (WP.sr (RG.mr rfl (RG.nil (WP.block ?_))))))
  refine WP.loop4 [0, 3, 9, 11] (fun (dy : Int) (Q1 : List (Int × Int)) (O1 : List Bool) (qv1 : Value) => (-1 <= dy ∧ dy <= 2) ∧ FI S (y.toNat, x.toNat) O1 Q1 ∧ Done S O1 Q1 i ∧ On O1 (y.toNat, x.toNat) ∧ i < Q1.length ∧ gd Q1 i = gd Q i ∧ Near S O1 (qc (gd Q i)) dy (-1)) (fun (dy : Int) (Q1 : List (Int × Int)) (O1 : List Bool) (qv1 : Value) => [(12, vi dy), (10, qv1)]) (fun (dy : Int) (Q1 : List (Int × Int)) (O1 : List Bool) (qv1 : Value) => grd b17 O1 :: osl 226 prT qv1 Q1 :: grd b S :: L) (fun (dy : Int) (Q1 : List (Int × Int)) (O1 : List Bool) (qv1 : Value) => (2 - dy).toNat) (-1) Q O qv ⟨by omega, hF, hD, h0, by omega, rfl, Near.zero _ _ _⟩ ⟨rfl, rfl, trivial⟩ Cv.p ?_
  rintro dy Q1 O1 qv1 τ1 ⟨⟨hy1, hy2⟩, hF1, hD1, h01, hi1, hq1, hN1⟩
  refine WP.seq (WP.sr (RG.ml rfl (RG.p (PV.leq rfl rfl rfl) (RG.nil ?_))))
  refine WP.cond rfl (fun h3 => ?_) fun h3 => ?_
  ·have h3 := odt h3
   refine WP.skip (WP.seq (WP.block (WP.sr (RG.mr rfl (RG.nil (WP.block ?_))))))
   refine WP.loop4 [0, 3, 9, 11, 12] (fun (dx : Int) (Q2 : List (Int × Int)) (O2 : List Bool) (qv2 : Value) => (-1 <= dx ∧ dx <= 2) ∧ FI S (y.toNat, x.toNat) O2 Q2 ∧ Done S O2 Q2 i ∧ On O2 (y.toNat, x.toNat) ∧ i < Q2.length ∧ gd Q2 i = gd Q i ∧ Near S O2 (qc (gd Q i)) dy dx) (fun (dx : Int) (Q2 : List (Int × Int)) (O2 : List Bool) (qv2 : Value) => [(13, vi dx), (10, qv2)]) (fun (dx : Int) (Q2 : List (Int × Int)) (O2 : List Bool) (qv2 : Value) => grd b17 O2 :: osl 226 prT qv2 Q2 :: grd b S :: L) (fun (dx : Int) (Q2 : List (Int × Int)) (O2 : List Bool) (qv2 : Value) => (2 - dx).toNat) (-1) Q1 O1 qv1 ⟨by omega, hF1, hD1, h01, hi1, hq1, hN1⟩ ⟨rfl, rfl, trivial⟩ Cv.p ?_
   rintro dx Q2 O2 qv2 τ2 ⟨⟨hx1, hx2⟩, hF2, hD2, h02, hi2, hq2, hN2⟩
   refine WP.seq (WP.sr (RG.ml rfl (RG.p (PV.leq rfl rfl rfl) (RG.nil ?_))))
   refine WP.cond rfl (fun h4 => ?_) fun h4 => ?_
   ·have h4 := odt h4
    have hl2 := hF2.len
    have hQ2 := hF2.len_le
    have hb2 : 0 <= (gd Q2 i).1 ∧ (gd Q2 i).1 < 80 ∧ 0 <= (gd Q2 i).2 ∧ (gd Q2 i).2 < 80 := by rw [hq2]; exact hb
    refine WP.skip (WP.seq (WP.block (WP.seq ?_)))
    refine WP.regionQ (by kernel_rfl) (by kernel_rfl) ?_
    refine RQ.pv rfl (PV.move (v := qv2) rfl rfl) (RQ.pv rfl (PV.mvI (.inl rfl) rfl) (RQ.pv rfl (PV.idxS (j := i) (v := qv2) rfl Is227 rfl SlF.o rfl (by omega) (by omega)) (RQ.pv rfl (PV.idxA (j := 0) rfl Ia226 rfl rfl (by omega) (by omega)) (RQ.pv rfl (PV.loadF rfl Sc3 rfl rfl (El.o (getG (by omega))) rfl) (RQ.pv rfl (PV.mvI (.inl rfl) rfl) (RQ.pv rfl (PV.add rfl rfl rfl (by omega)) (RQ.pv rfl (PV.move (v := qv2) rfl rfl) (RQ.pv rfl (PV.mvI (.inl rfl) rfl) (RQ.pv rfl (PV.idxS (j := i) (v := qv2) rfl Is227 rfl SlF.o rfl (by omega) (by omega)) (RQ.pv rfl (PV.idxA (j := 1) rfl Ia226 rfl rfl (by omega) (by omega)) (RQ.pv rfl (PV.loadF rfl Sc3 rfl rfl (El.o (getG (by omega))) rfl) (RQ.pv rfl (PV.mvI (.inl rfl) rfl) (RQ.pv rfl (PV.add rfl rfl rfl (by omega)) ?_)))))))))))))
    refine RQ.pv rfl (PV.mvI (.inr rfl) rfl) (RQ.pv rfl (PV.mvI (.inr rfl) rfl) (RQ.nil (WP.seq (WP.sr (RG.ml rfl (RG.p (PV.neq rfl rfl rfl) (RG.bl rfl ?_)))))))
    refine RG.g rfl (fun hp => (PV.mvI (.inl rfl) rfl)) ?_
    refine RG.g rfl (fun hp => (PV.neq rfl (gt' hp) rfl)) ?_
    refine RG.p (PV.pickA rfl rfl (fun hq => gt' (geqT hq)) rfl) (RG.bl rfl ?_)
    refine RG.g rfl (fun hp => (PV.mvB (.inl rfl) rfl)) ?_
    refine RG.g rfl (fun hp => (PV.not rfl (gt' hp))) ?_
    refine RG.p (PV.pickA rfl rfl (fun hq => gt' (geqT hq)) rfl) (RG.bl rfl ?_)
    refine RG.g rfl (fun hp => (PV.mvI (.inl rfl) rfl)) ?_
    refine RG.g rfl (fun hp => (PV.lss rfl (gt' hp) rfl)) ?_
    refine RG.p (PV.pickO rfl rfl rfl (fun hq => gt' (geqF hq))) (RG.bl rfl ?_)
    refine RG.g rfl (fun hp => (PV.mvI (.inl rfl) rfl)) ?_
    refine RG.g rfl (fun hp => (PV.lss rfl (gt' hp) rfl)) ?_
    refine RG.p (PV.pickO rfl rfl rfl (fun hq => gt' (geqF hq))) (RG.bl rfl ?_)
    refine RG.g rfl (fun hp => (PV.mvI (.inl rfl) rfl)) ?_
    refine RG.g rfl (fun hp => (PV.geq rfl (gt' hp) rfl)) ?_
    refine RG.p (PV.pickO rfl rfl rfl (fun hq => gt' (geqF hq))) (RG.bl rfl ?_)
    refine RG.g rfl (fun hp => (PV.mvI (.inl rfl) rfl)) ?_
    refine RG.g rfl (fun hp => (PV.geq rfl (gt' hp) rfl)) ?_
    refine RG.p (PV.pickO rfl rfl rfl (fun hq => gt' (geqF hq))) (RG.bl rfl ?_)
    refine RG.g rfl (fun hp => (PV.mvP (.inl rfl) rfl)) ?_
    refine RG.g rfl (fun hp => (PV.mvI (.inl rfl) rfl)) ?_
    refine RG.g rfl (fun hp => (PV.mvI (.inl rfl) rfl)) ?_
    refine RG.g rfl (fun hp => (PV.nilc rfl (gt' hp))) ?_
    refine RG.g rfl (fun hp => (PV.idxA (j := ((gd Q2 i).2 + dy).toNat) rfl Ia125 (gt' hp) (gt' hp) (by first | omega | (simp at hp; omega)) (by first | omega | (simp at hp; omega)))) ?_
    refine RG.g rfl (fun hp => (PV.idxA (j := ((gd Q2 i).1 + dx).toNat) rfl Ia123 (gt' hp) (gt' hp) (by first | omega | (simp at hp; omega)) (by first | omega | (simp at hp; omega)))) ?_
    refine RG.g rfl (fun hp => (PV.loadGr rfl Sc4 (gt' hp) rfl (by first | omega | (simp at hp; omega)))) ?_
    refine RG.g rfl (fun hp => (PV.not rfl (gt' hp))) ?_
    refine RG.p (PV.pickO rfl rfl rfl (fun hq => gt' (geqF hq))) (RG.bl rfl ?_)
    refine RG.g rfl (fun hp => (PV.mvP (.inl rfl) rfl)) ?_
    refine RG.g rfl (fun hp => (PV.mvI (.inl rfl) rfl)) ?_
    refine RG.g rfl (fun hp => (PV.mvI (.inl rfl) rfl)) ?_
    refine RG.g rfl (fun hp => (PV.nilc rfl (gt' hp))) ?_
    refine RG.g rfl (fun hp => (PV.idxA (j := ((gd Q2 i).2 + dy).toNat) rfl Ia125 (gt' hp) (gt' hp) (by first | omega | (simp at hp; omega)) (by first | omega | (simp at hp; omega)))) ?_
    refine RG.g rfl (fun hp => (PV.idxA (j := ((gd Q2 i).1 + dx).toNat) rfl Ia123 (gt' hp) (gt' hp) (by first | omega | (simp at hp; omega)) (by first | omega | (simp at hp; omega)))) ?_
    refine RG.g rfl (fun hp => (PV.loadGr rfl Sc4 (gt' hp) rfl (by first | omega | (simp at hp; omega)))) ?_
    refine RG.p (PV.pickO rfl rfl rfl (fun hq => gt' (geqF hq))) (RG.nil ?_)
    refine WP.cond rfl (fun h5 => ?_) fun h5 => ?_
    ·have h6 : (dx ≠ 0 ∧ dy ≠ 0) ∨ (gd Q2 i).1 + dx < 0 ∨ (gd Q2 i).2 + dy < 0 ∨ (gd Q2 i).1 + dx ≥ 80 ∨ (gd Q2 i).2 + dy ≥ 80 ∨ gb S ((gd Q2 i).2 + dy).toNat ((gd Q2 i).1 + dx).toNat = false ∨ gb O2 ((gd Q2 i).2 + dy).toNat ((gd Q2 i).1 + dx).toNat = true := by
      simp only [Bool.or_eq_true, Bool.and_eq_true, decide_eq_true_eq, Bool.not_eq_true', Bool.not_false, or_assoc, and_true, gd_gb, decide_eq_false_iff_not] at h5
      exact h5
     refine WP.exit (WP.region (RG.ml rfl (RG.p (PV.add rfl rfl rfl (by omega)) (RG.mr rfl (RG.nil ?_)))))
     exact ⟨rfl, dx + 1, Q2, O2, qv2, ⟨by omega, hF2, hD2, h02, hi2, hq2, by rw [<- hq2] at hN2 ⊢; exact hN2.skip hb2 h6⟩, ⟨rfl, rfl, trivial⟩, ⟨rfl, rfl, rfl, rfl, rfl, trivial⟩, Cv.p, by omega⟩
    ·have h6 : (dx = 0 ∨ dy = 0) ∧ 0 <= (gd Q2 i).1 + dx ∧ 0 <= (gd Q2 i).2 + dy ∧ (gd Q2 i).1 + dx < 80 ∧ (gd Q2 i).2 + dy < 80 ∧ gb S ((gd Q2 i).2 + dy).toNat ((gd Q2 i).1 + dx).toNat = true ∧ gb O2 ((gd Q2 i).2 + dy).toNat ((gd Q2 i).1 + dx).toNat = false := by
      simp only [Bool.or_eq_false_iff, Bool.and_eq_false_iff, decide_eq_false_iff_not, Bool.not_eq_false', Bool.not_false, and_assoc, Bool.true_eq_false, or_false, gd_gb, decide_eq_true_eq] at h5
      obtain ⟨a1, a2, a3, a4, a5, a6, a7⟩ := h5
      exact ⟨by omega, by omega, by omega, by omega, by omega, a6, a7⟩
     obtain ⟨a1, a2, a3, a4, a5, a6, a7⟩ := h6
     refine WP.skip (WP.sr (RG.p (PV.mvP (.inl rfl) rfl) (RG.ml rfl (RG.ml rfl (RG.p (PV.nilc rfl rfl) (RG.p (PV.idxA (j := ((gd Q2 i).2 + dy).toNat) rfl Ia125 rfl rfl (by omega) (by omega)) (RG.p (PV.idxA (j := ((gd Q2 i).1 + dx).toNat) rfl Ia123 rfl rfl (by omega) (by omega)) ?_)))))))
     refine RG.ot rfl (OT.storeGr rfl Sz4 rfl rfl rfl (by first | omega | (simp; omega)) ?_)
     refine RG.nil (WP.region (RG.p (PV.move (v := qv2) rfl rfl) (RG.ml rfl (RG.ml rfl (RG.p (PV.buildA (F := intT) (az := [_, _]) rfl Tryz.underlying226 (by kernel_rfl) ⟨rfl, (Cl.c rfl), ⟨rfl, (Cl.c rfl), trivial⟩⟩) ?_)))))
     refine RG.ot rfl (OT.bslice (F := prT) (els := [⟨_, _⟩]) rfl El227 rfl (by decide) rfl (by decide) ⟨rfl, (Cl.c rfl), trivial⟩ fun v111 => ?_)
     refine RG.ot rfl (OT.append (v := qv2) (u := v111) (F := prT) rfl El227 rfl (by decide) rfl rfl Rs.o (OneL.c (fun _ => rfl)) rfl (by first | omega | (simp <;> omega)) fun v112 => ?_)
     refine RG.p (PV.asg (v := v112) rfl rfl) (RG.nil (WP.region (RG.ml rfl (RG.p (PV.add rfl rfl rfl (by omega)) (RG.mr rfl (RG.nil ?_))))))
     exact ⟨rfl, dx + 1, (Q2 ++ [((gd Q2 i).1 + dx, (gd Q2 i).2 + dy)]), (O2.set (((gd Q2 i).2 + dy).toNat * 80 + ((gd Q2 i).1 + dx).toNat) true), v112, ⟨by omega, hF2.add ⟨by omega, by omega⟩ ⟨by omega, by omega⟩ a7 a6 hi2 (adj_near hb2 (by omega) a1 (fun e => by have := (hF2.on i hi2).2.2; simp only [qc] at this; rw [e.1, e.2, Int.add_zero, Int.add_zero, this] at a7; cases a7) a2 a3), hD2.add hi2 (fun c hc => on_set hl2 ⟨by omega, by omega⟩ ⟨by omega, by omega⟩ hc), on_set hl2 ⟨by omega, by omega⟩ ⟨by omega, by omega⟩ h02, by simp; omega, by rw [gd_app_l hi2]; exact hq2, by rw [<- hq2] at hN2 ⊢; exact hN2.take hl2 hb2 (by omega) (by omega)⟩, ⟨rfl, rfl, trivial⟩, ⟨rfl, rfl, rfl, rfl, rfl, trivial⟩, (Cv.p (C := grd b17 (O2.set (0 + ((gd Q2 i).2 + dy).toNat * 80 + ((gd Q2 i).1 + dx).toNat * 1) true) :: osl 226 prT v112 (Q2 ++ [((gd Q2 i).1 + dx, (gd Q2 i).2 + dy)]) :: grd b S :: L)).trans Cv.grd, by omega⟩
   ·have h4 := odf h4
    refine WP.exit (WP.region (RG.ml rfl (RG.p (PV.add rfl rfl rfl (by omega)) (RG.mr rfl (RG.nil ?_)))))
    exact ⟨rfl, dy + 1, Q2, O2, qv2, ⟨by omega, hF2, hD2, h02, hi2, hq2, by obtain rfl : dx = 2 := (by omega); exact hN2.next⟩, ⟨rfl, rfl, trivial⟩, ⟨rfl, rfl, rfl, rfl, trivial⟩, Cv.p, by omega⟩
  ·have h3 := odf h3
   refine WP.exit (WP.region (RG.ml rfl (RG.p (PV.add rfl rfl rfl (by omega)) (RG.mr rfl (RG.nil ?_)))))
   exact ⟨rfl, i + 1, Q1, O1, qv1, ⟨by omega, hF1, hD1.next (by rw [hq1]) (by obtain rfl : dy = 2 := (by omega); exact hN1), h01⟩, ⟨rfl, rfl, trivial⟩, ⟨rfl, rfl, rfl, trivial⟩, Cv.p, by omega⟩
 ·have h2 := odf h2
  obtain rfl : i = Q.length := by omega
  rw [<- hF.final hseed h0 hD] at k
  refine WP.exit (WP.sr (RG.p (PV.mvP (.inl rfl) rfl) (RG.p (PV.mvP (.inr rfl) rfl) (RG.nil ?_))))
  exact WP.ret ⟨_, _, rv rfl rfl, Cv.p, k _⟩
section
variable {P : Program} {n : Nat} {ops : Array Oper} {rest : List Oper} {Q : Post} {σ : Nat -> Value} {G : Gh} {L : List Ch} {o : Oper}
theorem RQ.gsB {j t : Nat} {want p : Bool} {b fv : Value} {fo : Operand} {l : List Operand} {ats : Array TypeId} (hg : o.guard = some (j, want)) (hj : (ops[j]?).bind (·.dst) = some t) (hb : σ t = .bool p)
  (ho : o.op = .call { callee := .value fo, args := l.toArray, argTypes := ats })
  (h : (p == want) = true -> ev σ fo = fv ∧ ∃ vs, cargs σ l = vs ∧ CB P G L fv vs b) (k : RQ P n ops rest Q (updo σ o.dst (gv (p == want) b)) G L) : RQ P n ops (o :: rest) Q σ G L :=
 RQ.gsK hg hj hb (fun e k => by obtain ⟨hf, vs, ha, hc⟩ := h e; exact RQ.callB rfl ho hf ha hc k) k
end
theorem PV.shr {P : Program} {o : Oper} {σ : Nat -> Value} {G : Gh} {L : List Ch} {T T' : TypeId} {x y : Operand} {k k' : IntKind} {a b : Int} (ho : o.op = .binOp .shr T x y T') (hx : ev σ x = .int k a) (hy : ev σ y = .int k' b) (h0 : 0 <= b) (h1 : b <= k.bits) : PV P o σ G L (.int k (a / 2 ^ b.toNat)) := by
 intro w _
 simp [execOp, ho, hx, hy, eqGuard, binOp, shift_shr k k' a b h0 h1]
theorem u64w {a : Int} (h : 0 <= a ∧ a <= 18446744073709551615) : IntKind.u64.wrap a = a := by simp [IntKind.wrap, IntKind.bits, IntKind.signed]; omega
theorem u8w {a : Int} (h : 0 <= a ∧ a <= 255) : IntKind.u8.wrap a = a := by simp [IntKind.wrap, IntKind.bits, IntKind.signed]; omega
theorem u8i (c : UInt8) : IntKind.i64.wrap (c.toNat : Int) = c.toNat := i64w (by have := c.toNat_lt; omega)
theorem u8add {a : Int} {c : UInt8} (h : 0 <= a ∧ a <= 1000) : -9223372036854775808 <= a + (c.toNat : Int) ∧ a + (c.toNat : Int) <= 9223372036854775807 := by have := c.toNat_lt; omega
theorem bitsLen64_s {a : Int} (ha : 0 <= a ∧ a <= 6400) (k : ∀ l : Int, (a ≠ 0 -> l ≠ 0) -> R (vi l) G L) : CallT Tryz.prog 252 #[.int .u64 a] G L R := by
 refine CallT.enter (args := _) Tryz.func252 rfl rfl (by kernel_rfl) rfl ?_
 refine WP.sr (RG.mr rfl (RG.nil (WP.seq (WP.sr (RG.ml rfl (RG.p (PV.geq rfl rfl rfl) (RG.nil ?_)))))))
 refine WP.cond rfl (fun h2 => ?_) fun h2 => ?_
 ·have h2 := odt h2
  omega
 ·refine WP.skip ?_
  refine WP.seq (WP.sr (RG.ml rfl (RG.p (PV.geq rfl rfl rfl) (RG.nil ?_))))
  refine WP.cond rfl (fun h3 => ?_) fun h3 => ?_
  ·have h3 := odt h3
   omega
  ·refine WP.skip ?_
   refine WP.seq (WP.sr (RG.ml rfl (RG.p (PV.geq rfl rfl rfl) (RG.nil ?_))))
   refine WP.cond rfl (fun h4 => ?_) fun h4 => ?_
   ·have h4 := odt h4
    have e1 : IntKind.u8.wrap (a / 2 ^ Int.toNat 8) = (((a / 256).toNat : Nat) : Int) := by rw [show (2 : Int) ^ Int.toNat 8 = 256 from rfl, u8w (by omega)]; omega
    have e2 : (a / 256).toNat < 256 := by omega
    refine WP.sr (RG.ml rfl (RG.p (PV.shr rfl rfl rfl (by decide) (by decide)) (RG.mr rfl (RG.nil (WP.region (RG.ml rfl (RG.p (PV.add rfl rfl rfl (by omega)) (RG.mr rfl (RG.nil (WP.sr (RG.ml rfl ?_)))))))))))
    refine RG.ml rfl (RG.p (PV.conv rfl ⟨_, Tryz.underlying254⟩ Tryz.underlying5 rfl rfl) (RG.p (PV.idxStr (j := (a / 256).toNat) rfl Tryz.underlying9 rfl rfl e1 (getBG e2)) (RG.p (PV.conv rfl ⟨_, Tryz.underlying5⟩ Tryz.underlying3 rfl (u8i _)) (RG.p (PV.add rfl rfl rfl (by first | omega | exact u8add (by omega))) (RG.mr rfl (RG.nil ?_))))))
    exact WP.ret ⟨_, _, rv rfl rfl, Cv.p, k _ (fun _ => by omega)⟩
   ·have h5 := odf h4
    have e1 : IntKind.u8.wrap a = ((a.toNat : Nat) : Int) := by rw [u8w (by omega)]; omega
    have e2 : a.toNat < 256 := by omega
    refine WP.skip (WP.sr (RG.ml rfl (RG.ml rfl (RG.p (PV.conv rfl ⟨_, Tryz.underlying254⟩ Tryz.underlying5 rfl rfl) (RG.p (PV.idxStr (j := a.toNat) rfl Tryz.underlying9 rfl rfl e1 (getBG e2)) (RG.p (PV.conv rfl ⟨_, Tryz.underlying5⟩ Tryz.underlying3 rfl (u8i _)) (RG.p (PV.add rfl rfl rfl (by first | omega | exact u8add (by omega))) (RG.mr rfl (RG.nil ?_)))))))))
    refine WP.ret ?_
    refine ⟨_, _, rv rfl rfl, Cv.p, k _ (fun h => ?_)⟩
    obtain ⟨m, rfl⟩ : ∃ m : Nat, a = (m : Int) := ⟨a.toNat, by omega⟩
    have hm : m < 256 := by omega
    have h0 : m ≠ 0 := by omega
    rw [Int.toNat_natCast]
    clear h e2 e1 h5 h4 h3 h2 k ha
    unfold bt
    revert m
    decide +kernel
theorem bitsLen_s {a : Int} (ha : 0 <= a ∧ a <= 6400) (k : ∀ l : Int, (a ≠ 0 -> l ≠ 0) -> R (vi l) G L) : CallT Tryz.prog 224 #[.int .u64 a] G L R := by
 refine CallT.enter (args := _) Tryz.func224 rfl rfl (by kernel_rfl) rfl ?_
 refine WP.sr (RG.mr rfl (RG.nil (WP.seq ?_)))
 refine WP.cond rfl (fun h2 => ?_) fun h2 => ?_
 ·exact absurd h2 (by decide)
 ·refine WP.skip ?_
  refine WP.sr (RG.ml rfl ?_)
  refine RG.callF (vs := [_]) rfl rfl En252 rfl (bitsLen64_s ha (fun l hl => ?_))
  refine RG.mr rfl (RG.nil ?_)
  exact WP.ret ⟨_, _, rv rfl rfl, Cv.p, k _ hl⟩
theorem order2_rss {v fv p : Value} {xs : List (Sl Rect)} {a b : Int} {cf : Nat -> Nat -> Int} (h1 : Rs G L slT v xs) (h0 : 0 <= a) (hab : a < b) (hb : b < xs.length) (hf : ∀ i j, i < xs.length -> j < xs.length -> CB Tryz.prog G L fv [Sl.v (gd xs i), Sl.v (gd xs j)] (vi (cf i j))) (hs : ∀ i j, i < j -> j < xs.length -> ¬ cf j i < 0) (k : R (.tuple #[vi a, vi b]) G L) : CallT Tryz.prog 265 #[v, vi a, vi b, p, fv] G L R := by
 refine CallT.bd h1 fun hbd => ?_
 refine CallT.enter (args := _) Tryz.func265 rfl rfl (by kernel_rfl) rfl ?_
 refine WP.sr (RG.mr rfl (RG.mr rfl (RG.nil (WP.seq (WP.seq ?_)))))
 refine WP.regionQ (by kernel_rfl) (by kernel_rfl) ?_
 refine RQ.pv rfl (PV.move (v := fv) rfl rfl) (RQ.pv rfl (PV.move (v := v) rfl rfl) (RQ.pv rfl (PV.mvI (.inl rfl) rfl) (RQ.pv rfl (PV.idxS (j := b.toNat) (v := v) rfl Is35 rfl (SlF.r h1) rfl (by omega) (by omega)) (RQ.pv rfl (PV.loadE1 rfl Sc50 rfl rfl (El.r h1 (getG (by omega))) rfl) (RQ.pv rfl (PV.move (v := v) rfl rfl) (RQ.pv rfl (PV.mvI (.inl rfl) rfl) (RQ.pv rfl (PV.idxS (j := a.toNat) (v := v) rfl Is35 rfl (SlF.r h1) rfl (by omega) (by omega)) (RQ.pv rfl (PV.loadE1 rfl Sc50 rfl rfl (El.r h1 (getG (by omega))) rfl) ?_))))))))
 refine RQ.callB (vs := [_, _]) rfl rfl rfl rfl (CB.up (hf b.toNat a.toNat (by omega) (by omega))) ?_
 refine RQ.pv rfl (PV.lss rfl rfl rfl) (RQ.nil ?_)
 refine WP.cond rfl (fun h2 => ?_) fun h2 => ?_
 ·exact absurd (odt h2) (hs _ _ (by omega) (by omega))
 ·refine WP.skip ?_
  refine WP.sr (RG.ml rfl (RG.ml rfl (RG.mr rfl (RG.mr rfl (RG.nil ?_)))))
  exact WP.ret ⟨_, _, ResV.two rfl rfl rfl, Cv.p, k⟩
theorem median_rss {v fv p : Value} {xs : List (Sl Rect)} {a b c : Int} {cf : Nat -> Nat -> Int} (h1 : Rs G L slT v xs) (h0 : 0 <= a) (hab : a < b) (hbc : b < c) (hc : c < xs.length) (hf : ∀ i j, i < xs.length -> j < xs.length -> CB Tryz.prog G L fv [Sl.v (gd xs i), Sl.v (gd xs j)] (vi (cf i j))) (hs : ∀ i j, i < j -> j < xs.length -> ¬ cf j i < 0) (k : R (vi b) G L) : CallT Tryz.prog 264 #[v, vi a, vi b, vi c, p, fv] G L R := by
 refine CallT.bd h1 fun hbd => ?_
 refine CallT.enter (args := _) Tryz.func264 rfl rfl (by kernel_rfl) rfl ?_
 refine WP.sr (RG.mr rfl (RG.nil (WP.sr (RG.p (PV.move (v := v) rfl rfl) (RG.ml rfl (RG.ml rfl (RG.p (PV.move (v := p) rfl rfl) (RG.p (PV.move (v := fv) rfl rfl) ?_))))))))
 refine RG.callF (vs := [v, _, _, p, fv]) rfl rfl En265 rfl (order2_rss (Rs.up h1) (by omega) (by omega) (by omega) (fun i j hi hj => (hf i j hi hj).up) hs ?_)
 refine RG.p (PV.move rfl rfl) (RG.p (PV.ext rfl rfl rfl) (RG.p (PV.ext rfl rfl rfl) (RG.mr rfl (RG.mr rfl (RG.nil (WP.sr (RG.p (PV.move (v := v) rfl rfl) (RG.ml rfl (RG.ml rfl (RG.p (PV.move (v := p) rfl rfl) (RG.p (PV.move (v := fv) rfl rfl) ?_)))))))))))
 refine RG.callF (vs := [v, _, _, p, fv]) rfl rfl En265 rfl (order2_rss (Rs.up h1) (by omega) (by omega) (by omega) (fun i j hi hj => (hf i j hi hj).up) hs ?_)
 refine RG.p (PV.move rfl rfl) (RG.p (PV.ext rfl rfl rfl) (RG.p (PV.ext rfl rfl rfl) (RG.mr rfl (RG.mr rfl (RG.nil (WP.sr (RG.p (PV.move (v := v) rfl rfl) (RG.ml rfl (RG.ml rfl (RG.p (PV.move (v := p) rfl rfl) (RG.p (PV.move (v := fv) rfl rfl) ?_)))))))))))
 refine RG.callF (vs := [v, _, _, p, fv]) rfl rfl En265 rfl (order2_rss (Rs.up h1) (by omega) (by omega) (by omega) (fun i j hi hj => (hf i j hi hj).up) hs ?_)
 refine RG.p (PV.move rfl rfl) (RG.p (PV.ext rfl rfl rfl) (RG.p (PV.ext rfl rfl rfl) (RG.mr rfl (RG.mr rfl (RG.nil (WP.sr (RG.ml rfl (RG.mr rfl (RG.nil ?_)))))))))
 exact WP.ret ⟨_, _, rv rfl rfl, Cv.p, k⟩
theorem medianAdj_rss {v fv p : Value} {xs : List (Sl Rect)} {a : Int} {cf : Nat -> Nat -> Int} (h1 : Rs G L slT v xs) (ha : 0 < a) (hc : a + 1 < xs.length) (hf : ∀ i j, i < xs.length -> j < xs.length -> CB Tryz.prog G L fv [Sl.v (gd xs i), Sl.v (gd xs j)] (vi (cf i j))) (hs : ∀ i j, i < j -> j < xs.length -> ¬ cf j i < 0) (k : R (vi a) G L) : CallT Tryz.prog 263 #[v, vi a, p, fv] G L R := by
 refine CallT.bd h1 fun hbd => ?_
 refine CallT.enter (args := _) Tryz.func263 rfl rfl (by kernel_rfl) rfl ?_
 refine WP.sr (RG.mr rfl (RG.nil (WP.sr (RG.p (PV.move (v := v) rfl rfl) (RG.ml rfl (RG.p (PV.sub rfl rfl rfl (by omega)) (RG.ml rfl (RG.ml rfl (RG.p (PV.add rfl rfl rfl (by omega)) (RG.p (PV.move (v := p) rfl rfl) (RG.p (PV.move (v := fv) rfl rfl) ?_)))))))))))
 refine RG.callF (vs := [v, _, _, _, p, fv]) rfl rfl En264 rfl (median_rss (Rs.up h1) (by omega) (by omega) (by omega) (by omega) (fun i j hi hj => (hf i j hi hj).up) hs ?_)
 refine RG.mr rfl (RG.nil ?_)
 exact WP.ret ⟨_, _, rv rfl rfl, Cv.p, k⟩
theorem choosePivot_rss {v fv : Value} {xs : List (Sl Rect)} {a b : Int} {cf : Nat -> Nat -> Int} (h1 : Rs G L slT v xs) (h0 : 0 <= a) (hab : 8 <= b - a) (hb : b <= xs.length) (hf : ∀ i j, i < xs.length -> j < xs.length -> CB Tryz.prog G L fv [Sl.v (gd xs i), Sl.v (gd xs j)] (vi (cf i j))) (hs : ∀ i j, i < j -> j < xs.length -> ¬ cf j i < 0) (k : ∀ p, R (.tuple #[vi p, vi 1]) G L) : CallT Tryz.prog 246 #[v, vi a, vi b, fv] G L R := by
 refine CallT.bd h1 fun hbd => ?_
 refine CallT.enter (args := _) Tryz.func246 rfl rfl (by kernel_rfl) rfl ?_
 refine WP.sr (RG.mr rfl (RG.mr rfl (RG.nil (WP.sr (RG.ml rfl (RG.ml rfl (RG.p (PV.sub rfl rfl rfl (by omega)) (RG.mr rfl (RG.nil (WP.sr ?_))))))))))
 refine RG.ot rfl (OT.alloc rfl Zr3 fun b11 => ?_)
 refine RG.nil (WP.sr (RG.ml rfl (RG.ml rfl (RG.p (PV.quo rfl rfl rfl (by omega) (by omega) (by omega)) (RG.p (PV.mul rfl rfl rfl (by omega)) (RG.p (PV.add rfl rfl rfl (by omega)) (RG.mr rfl (RG.nil (WP.sr (RG.ml rfl (RG.ml rfl ?_)))))))))))
 refine RG.p (PV.quo rfl rfl rfl (by omega) (by omega) (by omega)) (RG.p (PV.mul rfl rfl rfl (by omega)) (RG.p (PV.add rfl rfl rfl (by omega)) (RG.mr rfl (RG.nil (WP.sr (RG.ml rfl (RG.ml rfl (RG.p (PV.quo rfl rfl rfl (by omega) (by omega) (by omega)) (RG.p (PV.mul rfl rfl rfl (by omega)) (RG.p (PV.add rfl rfl rfl (by omega)) (RG.mr rfl (RG.nil ?_))))))))))))
 refine WP.seq (WP.sr (RG.ml rfl (RG.p (PV.geq rfl rfl rfl) (RG.nil ?_))))
 refine WP.cond rfl (fun h2 => ?_) fun h2 => ?_
 ·refine WP.seq ?_
  refine WP.sr (RG.ml rfl (RG.p (PV.geq rfl rfl rfl) (RG.nil ?_)))
  refine WP.cond rfl (fun h3 => ?_) fun h3 => ?_
  ·have h3 := odt h3
   refine WP.sr (RG.p (PV.move (v := v) rfl rfl) (RG.ml rfl (RG.p (PV.move (v := fv) rfl rfl) ?_)))
   refine RG.callF (vs := [v, _, _, fv]) rfl rfl En263 rfl (medianAdj_rss (Rs.up h1) (by omega) (by omega) (fun i j hi hj => (hf i j hi hj).up) hs ?_)
   refine RG.mr rfl (RG.nil (WP.sr (RG.p (PV.move (v := v) rfl rfl) (RG.ml rfl (RG.p (PV.move (v := fv) rfl rfl) ?_)))))
   refine RG.callF (vs := [v, _, _, fv]) rfl rfl En263 rfl (medianAdj_rss (Rs.up h1) (by omega) (by omega) (fun i j hi hj => (hf i j hi hj).up) hs ?_)
   refine RG.mr rfl (RG.nil (WP.region (RG.p (PV.move (v := v) rfl rfl) (RG.ml rfl (RG.p (PV.move (v := fv) rfl rfl) ?_)))))
   refine RG.callF (vs := [v, _, _, fv]) rfl rfl En263 rfl (medianAdj_rss (Rs.up h1) (by omega) (by omega) (fun i j hi hj => (hf i j hi hj).up) hs ?_)
   refine RG.mr rfl (RG.nil (WP.region (RG.p (PV.move (v := v) rfl rfl) (RG.ml rfl (RG.ml rfl (RG.ml rfl (RG.p (PV.move (v := fv) rfl rfl) ?_)))))))
   refine RG.callF (vs := [v, _, _, _, _, fv]) rfl rfl En264 rfl (median_rss (Rs.up h1) (by omega) (by omega) (by omega) (by omega) (fun i j hi hj => (hf i j hi hj).up) hs ?_)
   refine RG.mr rfl (RG.nil (WP.sr (RG.p (PV.load1 rfl Sc3 rfl (Rd.blk rfl)) (RG.nil (WP.block (WP.sr (RG.p (PV.eql rfl rfl rfl) (RG.br rfl (RG.nil ?_)))))))))
   refine WP.cond rfl (fun h4 => ?_) fun h4 => ?_
   ·refine WP.seq ?_
    refine WP.region (RG.ml rfl (RG.mr rfl (RG.mr rfl (RG.nil ?_))))
    exact WP.ret ⟨_, _, ResV.two rfl rfl rfl, Cv.p, k _⟩
   ·skip
    exact absurd h4 (by decide)
  ·refine WP.skip ?_
   refine WP.region (RG.p (PV.move (v := v) rfl rfl) (RG.ml rfl (RG.ml rfl (RG.ml rfl (RG.p (PV.move (v := fv) rfl rfl) ?_)))))
   refine RG.callF (vs := [v, _, _, _, _, fv]) rfl rfl En264 rfl (median_rss (Rs.up h1) (by omega) (by omega) (by omega) (by omega) (fun i j hi hj => (hf i j hi hj).up) hs ?_)
   refine RG.mr rfl (RG.nil (WP.sr (RG.p (PV.load1 rfl Sc3 rfl (Rd.blk rfl)) (RG.nil (WP.block (WP.sr (RG.p (PV.eql rfl rfl rfl) (RG.br rfl (RG.nil ?_)))))))))
   refine WP.cond rfl (fun h4 => ?_) fun h4 => ?_
   ·refine WP.seq ?_
    refine WP.region (RG.ml rfl (RG.mr rfl (RG.mr rfl (RG.nil ?_))))
    exact WP.ret ⟨_, _, ResV.two rfl rfl rfl, Cv.p, k _⟩
   ·skip
    exact absurd h4 (by decide)
 ·exact absurd (odf h2) (by omega)
theorem insertion_rss {v fv : Value} {xs : List (Sl Rect)} {a b : Int} {cf : Nat -> Nat -> Int} (hl : xs.length <= 1000000) (h1 : Rs G L slT v xs) (h0 : 0 <= a) (hab : a <= b) (hb : b <= xs.length) (hf : ∀ i j, i < xs.length -> j < xs.length -> CB Tryz.prog G L fv [Sl.v (gd xs i), Sl.v (gd xs j)] (vi (cf i j))) (hs : ∀ i j, i < j -> j < xs.length -> ¬ cf j i < 0) (k : R (.tuple #[]) G L) : CallT Tryz.prog 243 #[v, vi a, vi b, fv] G L R := by
 refine CallT.bd h1 fun hbd => ?_
 refine CallT.enter (args := _) Tryz.func243 rfl rfl (by kernel_rfl) rfl ?_
 refine WP.sr (RG.ml rfl (RG.p (PV.add rfl rfl rfl (by omega)) (RG.mr rfl (RG.nil (WP.block ?_)))))
 refine WP.loop1 [0, 1, 2, 3] (fun (i : Int) => a + 1 <= i) (fun (i : Int) => [(8, vi i)]) (fun (i : Int) => L) (fun (i : Int) => (b - i).toNat) (a + 1) (by omega) ⟨rfl, trivial⟩ Cv.p ?_
 rintro i τ hi
 refine WP.seq (WP.sr (RG.ml rfl (RG.ml rfl (RG.p (PV.lss rfl rfl rfl) (RG.nil ?_)))))
 refine WP.cond rfl (fun h2 => ?_) fun h2 => ?_
 ·have h2 := odt h2
  refine WP.skip (WP.seq (WP.block (WP.sr (RG.ml rfl (RG.mr rfl (RG.nil (WP.block ?_)))))))
  refine WP.loop1 [0, 1, 2, 3, 8] (fun (u : Unit) => True) (fun (u : Unit) => [(9, vi i)]) (fun (u : Unit) => L) (fun (u : Unit) => 0) () trivial ⟨rfl, trivial⟩ Cv.p ?_
  rintro _u τ1 _
  refine WP.seq (WP.seq ?_)
  refine WP.regionQ (by kernel_rfl) (by kernel_rfl) ?_
  refine RQ.pv rfl (PV.mvI (.inl rfl) rfl) (RQ.pv rfl (PV.mvI (.inl rfl) rfl) (RQ.pv rfl (PV.gtr rfl rfl rfl) (RQ.pv rfl (PV.mvB (.inl rfl) rfl) (RQ.gs rfl rfl rfl (fun hp => (PV.move (v := fv) rfl rfl)) (RQ.gs rfl rfl rfl (fun hp => (PV.move (v := v) rfl rfl)) (RQ.gs rfl rfl rfl (fun hp => (PV.mvI (.inl rfl) rfl)) (RQ.gs rfl rfl rfl (fun hp => (PV.idxS (j := i.toNat) (v := v) rfl Is35 (gt' hp) (SlF.r h1) (gt' hp) (by first | omega | (simp at hp; omega)) (by first | omega | (simp at hp; omega)))) (RQ.gs rfl rfl rfl (fun hp => (PV.loadE1 rfl Sc50 (gt' hp) rfl (El.r h1 (getG (by first | omega | (simp at hp; omega)))) rfl)) (RQ.gs rfl rfl rfl (fun hp => (PV.move (v := v) rfl rfl)) (RQ.gs rfl rfl rfl (fun hp => (PV.mvI (.inl rfl) rfl)) (RQ.gs rfl rfl rfl (fun hp => (PV.sub rfl (gt' hp) rfl (by first | omega | (simp at hp; omega)))) (RQ.gs rfl rfl rfl (fun hp => (PV.idxS (j := (i - 1).toNat) (v := v) rfl Is35 (gt' hp) (SlF.r h1) (gt' hp) (by first | omega | (simp at hp; omega)) (by first | omega | (simp at hp; omega)))) (RQ.gs rfl rfl rfl (fun hp => (PV.loadE1 rfl Sc50 (gt' hp) rfl (El.r h1 (getG (by first | omega | (simp at hp; omega)))) rfl)) ?_)))))))))))))
  refine RQ.gsB rfl rfl rfl rfl (fun hp => ⟨(gt' hp), _, (acons (gt' hp) (acons (gt' hp) anil)), CB.up (hf i.toNat (i - 1).toNat (by omega) (by omega))⟩) ?_
  refine RQ.gs rfl rfl rfl (fun hp => (PV.lss rfl (gt' hp) rfl)) (RQ.pv rfl (PV.pickA rfl rfl (fun hq => gt' (geqT hq)) rfl) (RQ.nil ?_))
  refine WP.cond rfl (fun h3 => ?_) fun h3 => ?_
  ·have h4 := hs (i - 1).toNat i.toNat (by omega) (by omega)
   simp only [Bool.and_eq_true, decide_eq_true_eq] at h3
   exact absurd h3.2 h4
  ·refine WP.exit ?_
   refine WP.region (RG.ml rfl (RG.p (PV.add rfl rfl rfl (by omega)) (RG.mr rfl (RG.nil ?_))))
   exact ⟨rfl, i + 1, (by omega), ⟨rfl, trivial⟩, ⟨rfl, rfl, rfl, rfl, trivial⟩, Cv.p, by omega⟩
 ·have h2 := odf h2
  refine WP.exit ?_
  exact ⟨_, _, ResV.zero rfl, Cv.p, k⟩
theorem partialIns_rss {v fv : Value} {xs : List (Sl Rect)} {a b : Int} {cf : Nat -> Nat -> Int} (h1 : Rs G L slT v xs) (h0 : 0 <= a) (hab : a < b) (hb : b <= xs.length) (hf : ∀ i j, i < xs.length -> j < xs.length -> CB Tryz.prog G L fv [Sl.v (gd xs i), Sl.v (gd xs j)] (vi (cf i j))) (hs : ∀ i j, i < j -> j < xs.length -> ¬ cf j i < 0) (k : R (.bool true) G L) : CallT Tryz.prog 248 #[v, vi a, vi b, fv] G L R := by
 refine CallT.bd h1 fun hbd => ?_
 refine CallT.enter (args := _) Tryz.func248 rfl rfl (by kernel_rfl) rfl ?_
 refine WP.sr (RG.br rfl (RG.nil (WP.sr (RG.ml rfl (RG.p (PV.add rfl rfl rfl (by omega)) (RG.mr rfl (RG.nil (WP.seq (WP.sr (RG.mr rfl ?_))))))))))
 refine RG.nil (WP.block ?_)
 refine WP.loop1 [0, 1, 2, 3] (fun (u : Unit) => True) (fun (u : Unit) => [(9, vi (a + 1)), (10, vi 0)]) (fun (u : Unit) => L) (fun (u : Unit) => 0) () trivial ⟨rfl, rfl, trivial⟩ Cv.p ?_
 rintro _u τ _
 refine WP.seq (WP.sr (RG.ml rfl (RG.p (PV.lss rfl rfl rfl) (RG.nil ?_))))
 refine WP.cond rfl (fun h2 => ?_) fun h2 => ?_
 ·refine WP.skip ?_
  refine WP.seq (WP.block (WP.seq (WP.block ?_)))
  refine WP.loop1 [0, 1, 2, 3, 10] (fun (i : Int) => a + 1 <= i ∧ i <= b) (fun (i : Int) => [(9, vi i)]) (fun (i : Int) => L) (fun (i : Int) => (b - i).toNat) (a + 1) (by omega) ⟨rfl, trivial⟩ Cv.p ?_
  rintro i τ1 hi
  refine WP.seq (WP.seq ?_)
  refine WP.regionQ (by kernel_rfl) (by kernel_rfl) ?_
  refine RQ.pv rfl (PV.mvI (.inl rfl) rfl) (RQ.pv rfl (PV.mvI (.inl rfl) rfl) (RQ.pv rfl (PV.lss rfl rfl rfl) (RQ.pv rfl (PV.mvB (.inl rfl) rfl) (RQ.gs rfl rfl rfl (fun hp => (PV.move (v := fv) rfl rfl)) (RQ.gs rfl rfl rfl (fun hp => (PV.move (v := v) rfl rfl)) (RQ.gs rfl rfl rfl (fun hp => (PV.mvI (.inl rfl) rfl)) (RQ.gs rfl rfl rfl (fun hp => (PV.idxS (j := i.toNat) (v := v) rfl Is35 (gt' hp) (SlF.r h1) (gt' hp) (by first | omega | (simp at hp; omega)) (by first | omega | (simp at hp; omega)))) (RQ.gs rfl rfl rfl (fun hp => (PV.loadE1 rfl Sc50 (gt' hp) rfl (El.r h1 (getG (by first | omega | (simp at hp; omega)))) rfl)) (RQ.gs rfl rfl rfl (fun hp => (PV.move (v := v) rfl rfl)) (RQ.gs rfl rfl rfl (fun hp => (PV.mvI (.inl rfl) rfl)) (RQ.gs rfl rfl rfl (fun hp => (PV.sub rfl (gt' hp) rfl (by first | omega | (simp at hp; omega)))) (RQ.gs rfl rfl rfl (fun hp => (PV.idxS (j := (i - 1).toNat) (v := v) rfl Is35 (gt' hp) (SlF.r h1) (gt' hp) (by first | omega | (simp at hp; omega)) (by first | omega | (simp at hp; omega)))) (RQ.gs rfl rfl rfl (fun hp => (PV.loadE1 rfl Sc50 (gt' hp) rfl (El.r h1 (getG (by first | omega | (simp at hp; omega)))) rfl)) ?_)))))))))))))
  refine RQ.gsB rfl rfl rfl rfl (fun hp => ⟨(gt' hp), _, (acons (gt' hp) (acons (gt' hp) anil)), CB.up (hf i.toNat (i - 1).toNat (by simp at hp; omega) (by simp at hp; omega))⟩) ?_
  refine RQ.gs rfl rfl rfl (fun hp => (PV.lss rfl (gt' hp) rfl)) (RQ.gs rfl rfl rfl (fun hp => (PV.not rfl (gt' hp))) (RQ.pv rfl (PV.pickA rfl rfl (fun hq => gt' (geqT hq)) rfl) (RQ.nil ?_)))
  refine WP.cond rfl (fun h3 => ?_) fun h3 => ?_
  ·have h4 : i < b := by simp at h3; omega
   refine WP.skip (WP.block (WP.region (RG.ml rfl (RG.p (PV.add rfl rfl rfl (by omega)) (RG.mr rfl (RG.nil ?_))))))
   exact ⟨rfl, i + 1, (by omega), ⟨rfl, trivial⟩, ⟨rfl, rfl, rfl, rfl, rfl, trivial⟩, Cv.p, by omega⟩
  ·have h4 : i = b := by
    by_cases e : i < b
    ·have h4 := hs (i - 1).toNat i.toNat (by omega) (by omega)
     simp only [Bool.and_eq_false_iff, decide_eq_false_iff_not, Bool.not_eq_false', decide_eq_true_eq] at h3
     omega
    ·omega
   subst h4
   refine WP.exit (WP.seq (WP.sr (RG.ml rfl (RG.ml rfl (RG.p (PV.eql rfl rfl rfl) (RG.nil ?_))))))
   refine WP.cond rfl (fun h5 => ?_) fun h5 => ?_
   ·refine WP.seq ?_
    refine WP.region (RG.br rfl (RG.nil ?_))
    exact WP.ret ⟨_, _, rv rfl rfl, Cv.p, k⟩
   ·simp at h5
 ·exact absurd h2 (by decide)
theorem pdq_rss {v fv : Value} {xs : List (Sl Rect)} {n l : Int} {cf : Nat -> Nat -> Int} (hl : xs.length <= 1000000) (h1 : Rs G L slT v xs) (hn : n = xs.length) (hl0 : 12 < n -> l ≠ 0) (hf : ∀ i j, i < xs.length -> j < xs.length -> CB Tryz.prog G L fv [Sl.v (gd xs i), Sl.v (gd xs j)] (vi (cf i j))) (hs : ∀ i j, i < j -> j < xs.length -> ¬ cf j i < 0) (k : R (.tuple #[]) G L) : CallT Tryz.prog 223 #[v, vi 0, vi n, vi l, fv] G L R := by
 refine CallT.bd h1 fun hbd => ?_
 refine CallT.enter (args := _) Tryz.func223 rfl rfl (by kernel_rfl) rfl ?_
 refine WP.sr (RG.br rfl (RG.nil (WP.sr (RG.br rfl (RG.nil (WP.block ?_))))))
 refine WP.loop1 [0, 4] (fun (u : Unit) => True) (fun (u : Unit) => [(1, vi 0), (2, vi n), (3, vi l), (10, .bool true), (11, .bool true)]) (fun (u : Unit) => L) (fun (u : Unit) => 0) () trivial ⟨rfl, rfl, rfl, rfl, rfl, trivial⟩ Cv.p ?_
 rintro _u τ _
 refine WP.block (WP.sr (RG.ml rfl (RG.ml rfl (RG.p (PV.sub rfl rfl rfl (by omega)) (RG.mr rfl (RG.nil (WP.seq (WP.sr (RG.ml rfl (RG.p (PV.leq rfl rfl rfl) (RG.nil ?_)))))))))))
 refine WP.cond rfl (fun h2 => ?_) fun h2 => ?_
 ·have h2 := odt h2
  refine WP.sr (RG.p (PV.move (v := v) rfl rfl) (RG.ml rfl (RG.ml rfl (RG.p (PV.move (v := fv) rfl rfl) ?_))))
  refine RG.callF (vs := [v, _, _, fv]) rfl rfl En243 rfl (insertion_rss hl (Rs.up h1) (by omega) (by omega) (by omega) (fun i j hi hj => (hf i j hi hj).up) hs ?_)
  refine RG.nil ?_
  exact WP.ret ⟨_, _, ResV.zero rfl, Cv.p, k⟩
 ·have h2 := odf h2
  refine WP.skip (WP.seq (WP.sr (RG.ml rfl (RG.p (PV.eql rfl rfl rfl) (RG.nil ?_)))))
  refine WP.cond rfl (fun h3 => ?_) fun h3 => ?_
  ·exact absurd (odt h3) (hl0 (by omega))
  ·refine WP.skip ?_
   refine WP.seq (WP.sr (RG.bl rfl (RG.p (PV.not rfl rfl) (RG.nil ?_))))
   refine WP.cond rfl (fun h4 => ?_) fun h4 => ?_
   ·exact absurd h4 (by decide)
   ·refine WP.skip ?_
    refine WP.sr (RG.p (PV.move (v := v) rfl rfl) (RG.ml rfl (RG.ml rfl (RG.p (PV.move (v := fv) rfl rfl) ?_))))
    refine RG.callF (vs := [v, _, _, fv]) rfl rfl En246 rfl (choosePivot_rss (Rs.up h1) (by omega) (by omega) (by omega) (fun i j hi hj => (hf i j hi hj).up) hs (fun pw52 => ?_))
    refine RG.p (PV.move (v := .tuple _) rfl rfl) (RG.p (PV.ext rfl rfl rfl) (RG.p (PV.ext rfl rfl rfl) (RG.mr rfl (RG.mr rfl (RG.nil (WP.seq (WP.sr (RG.ml rfl (RG.p (PV.eql rfl rfl rfl) (RG.nil ?_))))))))))
    refine WP.cond rfl (fun h5 => ?_) fun h5 => ?_
    ·exact absurd h5 (by decide)
    ·refine WP.skip ?_
     refine WP.seq (WP.sr (RG.bl rfl (RG.bl rfl ?_)))
     refine RG.g rfl (fun hp => (PV.mvB (.inl rfl) rfl)) ?_
     refine RG.p (PV.pickA rfl rfl (fun hq => gt' (geqT hq)) rfl) (RG.bl rfl ?_)
     refine RG.g rfl (fun hp => (PV.mvI (.inl rfl) rfl)) ?_
     refine RG.g rfl (fun hp => (PV.eql rfl (gt' hp) rfl)) ?_
     refine RG.p (PV.pickA rfl rfl (fun hq => gt' (geqT hq)) rfl) (RG.nil ?_)
     refine WP.cond rfl (fun h6 => ?_) fun h6 => ?_
     ·refine WP.seq ?_
      refine WP.region (RG.p (PV.move (v := v) rfl rfl) (RG.ml rfl (RG.ml rfl (RG.p (PV.move (v := fv) rfl rfl) ?_))))
      refine RG.callF (vs := [v, _, _, fv]) rfl rfl En248 rfl (partialIns_rss (Rs.up h1) (by omega) (by omega) (by omega) (fun i j hi hj => (hf i j hi hj).up) hs ?_)
      refine RG.nil ?_
      refine WP.cond rfl (fun h7 => ?_) fun h7 => ?_
      ·exact WP.ret ⟨_, _, ResV.zero rfl, Cv.p, k⟩
      ·skip
       exact absurd h7 (by decide)
     ·exact absurd h6 (by decide)
theorem sorted_rss {v fv : Value} {xs : List (Sl Rect)} {cf : Nat -> Nat -> Int} (hl : xs.length <= 6400) (h1 : Rs G L slT v xs) (hf : ∀ i j, i < xs.length -> j < xs.length -> CB Tryz.prog G L fv [Sl.v (gd xs i), Sl.v (gd xs j)] (vi (cf i j))) (hs : ∀ i j, i < j -> j < xs.length -> ¬ cf j i < 0) (k : R (.tuple #[]) G L) : CallT Tryz.prog 180 #[v, fv] G L R := by
 refine CallT.bd h1 fun hbd => ?_
 refine CallT.enter (args := _) Tryz.func180 rfl rfl (by kernel_rfl) rfl ?_
 refine WP.sr (RG.p (PV.move (v := v) rfl rfl) (RG.p (PV.len (v := v) rfl Tryz.underlying35 rfl (SlF.r h1)) (RG.mr rfl (RG.nil (WP.region (RG.p (PV.move (v := v) rfl rfl) (RG.ml rfl (RG.ml rfl (RG.p (PV.conv rfl ⟨_, Tryz.underlying3⟩ Tryz.underlying230 rfl rfl) ?_)))))))))
 refine RG.callF (vs := [_]) rfl rfl En224 rfl (bitsLen_s (by rw [u64w (by omega)]; omega) (fun lw11 hl0w11 => ?_))
 refine RG.p (PV.move (v := fv) rfl rfl) ?_
 refine RG.callF (vs := [v, _, _, _, fv]) rfl rfl En223 rfl (pdq_rss (by omega) (Rs.up h1) rfl (fun h => hl0w11 (by rw [u64w (by omega)]; omega)) (fun i j hi hj => (hf i j hi hj).up) hs ?_)
 refine RG.nil ?_
 exact ⟨_, _, ResV.zero rfl, Cv.p, k⟩
theorem runsFrom_first (r : Nat -> Bool) (X : Nat) (hX : X < 80) (hr : r X = true) (x : Nat) (hx : x <= X) (h0 : ∀ z, x <= z -> z < X -> r z = false) : ∃ e l, runsFrom r x = (X, e) :: l := by
 rw [runsFrom, if_pos (by omega)]
 by_cases e : x = X
 ·subst e; rw [if_pos hr]; exact ⟨_, _, rfl⟩
 ·rw [if_neg (by simp [h0 x (Nat.le_refl _) (by omega)])]
  exact runsFrom_first r X hX hr (x + 1) (by omega) fun z h1 h2 => h0 z (by omega) h2
termination_by 80 - x
theorem runsFrom_none (r : Nat -> Bool) (x : Nat) (h0 : ∀ z, x <= z -> z < 80 -> r z = false) : runsFrom r x = [] := by
 rw [runsFrom]; split
 ·rename_i h
  rw [if_neg (by simp [h0 x (Nat.le_refl _) h])]
  exact runsFrom_none r (x + 1) fun z h1 h2 => h0 z (by omega) h2
 ·rfl
termination_by 80 - x
theorem canonFrom_first (bs : List Bool) (Y X : Nat) (hY : Y < 80) (hX : X < 80) (hb : gb bs Y X = true) (hx : ∀ z, z < X -> gb bs Y z = false) (y : Nat) (hy : y <= Y) (h0 : ∀ z x, y <= z -> z < Y -> x < 80 -> gb bs z x = false) : ∃ e f l, canonFrom bs y = mkR Y e (X, f) :: l := by
 rw [canonFrom, if_pos (by omega)]
 by_cases e : y = Y
 ·subst e
  obtain ⟨f, l, hf⟩ := runsFrom_first (gb bs y) X hX hb 0 (by omega) fun z _ h => hx z h
  rw [hf]; exact ⟨_, _, _, rfl⟩
 ·rw [runsFrom_none (gb bs y) 0 fun z _ h => h0 y z (Nat.le_refl _) (by omega) h, List.map_nil, List.nil_append]
  have h1 := endFrom_ge bs y (y + 1)
  have h2 : endFrom bs y (y + 1) <= Y := by
   by_cases c : endFrom bs y (y + 1) <= Y
   ·exact c
   ·have h3 := rowsEq_gb' (endFrom_eq bs y (y + 1) Y (by omega) (by omega)) X hX
    rw [hb, h0 y X (Nat.le_refl _) (by omega) hX] at h3; cases h3
  exact canonFrom_first bs Y X hY hX hb hx (endFrom bs y (y + 1)) h2 fun z x h3 h4 h5 => h0 z x (by omega) h4 h5
termination_by 80 - y
theorem canon_first {S : List Bool} {n : Nat} (h : First S n) : 0 < (canon (compB S (cel n))).length ∧ (gd (canon (compB S (cel n))) 0).y0 = ((n / 80 : Nat) : Int) - 40 ∧ (gd (canon (compB S (cel n))) 0).x0 = ((n % 80 : Nat) : Int) - 40 := by
 obtain ⟨h1, h2⟩ := h
 have hY : n / 80 < 80 := h1.1
 have hX : n % 80 < 80 := h1.2.1
 have key : ∀ y x, y < 80 -> x < 80 -> y * 80 + x < n -> gb (compB S (cel n)) y x = false := fun y x hy hx hlt => by
  cases hg : gb (compB S (cel n)) y x with
  | false => rfl
  | true =>
   exfalso
   have hc := (comp_iff hy hx).1 hg
   have hon := hc.on h1
   have e : cel (y * 80 + x) = (y, x) := cel_pos (a := (y, x)) hx
   exact h2 _ hlt (by rw [e]; exact hon) (by rw [e]; exact hc.symm h1)
 have hb : gb (compB S (cel n)) (n / 80) (n % 80) = true := (comp_iff hY hX).2 .refl
 obtain ⟨e, f, l, hc⟩ := canonFrom_first (compB S (cel n)) (n / 80) (n % 80) hY hX hb (fun z hz => key _ _ hY (by omega) (by omega)) 0 (by omega) fun z x _ hz hx => key z x (by omega) hx (by omega)
 rw [canon, hc]
 refine ⟨by simp, ?_, ?_⟩ <;> simp [gd, mkR]
structure PI {β : Type} (f : List Bool -> β) (S : List Bool) (n : Nat) (T : List Bool) (zs : List β) : Prop where
  len : T.length = 6400
  left : ∀ a, On T a ↔ Left S n a
  er : zs = (firsts S n).map fun j => f (compB S (cel j))
theorem PI.start {β : Type} {f : List Bool -> β} {S : List Bool} (h : S.length = 6400) : PI f S 0 S [] := ⟨h, fun _ => left_zero.symm, rfl⟩
theorem on_cel {T : List Bool} {n : Nat} (hn : n < 6400) : On T (cel n) ↔ gb T (n / 80) (n % 80) = true := ⟨fun h => h.2.2, fun h => ⟨by simp only [cel]; omega, by simp only [cel]; omega, h⟩⟩
theorem PI.skip {β : Type} {f : List Bool -> β} {S T : List Bool} {n : Nat} {zs : List β} (h : PI f S n T zs) (hn : n < 6400) (hg : gb T (n / 80) (n % 80) = false) : PI f S (n + 1) T zs := by
 have hf : ¬ First S n := fun hf => by
  have := (on_cel hn).1 ((h.left _).2 (left_first.2 hf)); rw [hg] at this; cases this
 refine ⟨h.len, fun a => (h.left a).trans (left_succ_skip hf).symm, ?_⟩
 rw [firsts_succ, if_neg hf]; exact h.er
theorem PI.first {β : Type} {f : List Bool -> β} {S T : List Bool} {n : Nat} {zs : List β} (h : PI f S n T zs) (hn : n < 6400) (hg : gb T (n / 80) (n % 80) = true) : First S n := left_first.1 ((h.left _).1 ((on_cel hn).2 hg))
theorem PI.comp {β : Type} {f : List Bool -> β} {S T : List Bool} {n : Nat} {zs : List β} (h : PI f S n T zs) (hn : n < 6400) (hg : gb T (n / 80) (n % 80) = true) : compB T (cel n) = compB S (cel n) := comp_left h.left (left_first.2 (h.first hn hg))
theorem PI.take {β : Type} {f : List Bool -> β} {S T T' : List Bool} {n : Nat} {zs : List β} (h : PI f S n T zs) (hn : n < 6400) (hg : gb T (n / 80) (n % 80) = true) (hl : T'.length = 6400) (hg' : ∀ y x, y < 80 -> x < 80 -> gb T' y x = (gb T y x && !gb (compB T (cel n)) y x)) : PI f S (n + 1) T' (zs ++ [f (compB T (cel n))]) := by
 have hf := h.first hn hg
 have hc := h.comp hn hg
 refine ⟨hl, fun a => ?_, ?_⟩
 ·rw [left_succ_take hf, <- h.left a]
  constructor
  ·rintro ⟨h1, h2, h3⟩
   rw [hg' _ _ h1 h2, Bool.and_eq_true, Bool.not_eq_true', hc] at h3
   refine ⟨⟨h1, h2, h3.1⟩, fun k => ?_⟩
   have := (comp_iff h1 h2).2 k; rw [h3.2] at this; cases this
  ·rintro ⟨⟨h1, h2, h3⟩, h4⟩
   refine ⟨h1, h2, ?_⟩
   rw [hg' _ _ h1 h2, h3, hc, Bool.true_and, Bool.not_eq_true']
   cases hb : gb (compB S (cel n)) a.1 a.2 with
   | false => rfl
   | true => exact absurd ((comp_iff h1 h2).1 hb) h4
 ·rw [firsts_succ, if_pos hf, List.map_append, <- h.er, hc]; rfl
noncomputable def partsL (S : List Bool) : List (List Rect) := (comps S).map canon
theorem PI.all {S T : List Bool} {zs : List (List Bool)} (h : PI id S 6400 T zs) : zs = comps S := by
 rw [h.er, comps]; simp only [id]
theorem PI.final {S T : List Bool} {zs : List (List Rect)} (h : PI canon S 6400 T zs) : zs = partsL S := by
 rw [h.er, partsL, comps, List.map_map]; simp only [Function.comp_def]
open Classical in
theorem firsts_sorted (S : List Bool) (n : Nat) : (firsts S n).Pairwise (· < ·) := List.Pairwise.filter _ List.pairwise_lt_range
theorem firsts_lt {S : List Bool} {n i j : Nat} (h : i < j) (hj : j < (firsts S n).length) : gd (firsts S n) i < gd (firsts S n) j := by
 rw [gd_eq hj, gd_eq (by omega)]
 exact List.pairwise_iff_getElem.1 (firsts_sorted S n) i j (by omega) hj h
open Classical in
theorem firsts_first {S : List Bool} {n i : Nat} (hi : i < (firsts S n).length) : First S (gd (firsts S n) i) := by
 rw [gd_eq hi]
 have := List.getElem_mem hi
 have := (List.mem_filter.1 this).2
 simpa using this
theorem partsL_len (S : List Bool) : (partsL S).length = (firsts S 6400).length := by simp [partsL, comps]
open Classical in
theorem firsts_len (S : List Bool) (n : Nat) : (firsts S n).length <= n := by
 have := List.length_filter_le (fun j => decide (First S j)) (List.range n)
 simpa [firsts] using this
theorem partsL_gd {S : List Bool} {i : Nat} (hi : i < (firsts S 6400).length) : gd (partsL S) i = canon (compB S (cel (gd (firsts S 6400) i))) := by
 rw [gd_eq (by rw [partsL_len]; exact hi), gd_eq hi]; simp [partsL, comps]
def Sub (T C : List Bool) (n : Nat) (U : List Bool) : Prop := U.length = 6400 ∧ ∀ y x, y < 80 -> x < 80 -> gb U y x = if y * 80 + x < n then (gb T y x && !gb C y x) else gb T y x
theorem Sub.start {T C : List Bool} (h : T.length = 6400) : Sub T C 0 T := ⟨h, fun y x _ _ => by rw [if_neg (by omega)]⟩
theorem Sub.step {T C U : List Bool} {v u m : Nat} (h : Sub T C (v * 80 + u) U) (hv : v < 80) (hu : u < 80) (hm : m = v * 80 + u + 1) : Sub T C m (U.set (0 + v * 80 + u * 1) (gd U (0 + v * 80 + u * 1) && !gd C (0 + v * 80 + u * 1))) := by
 subst hm
 obtain ⟨h1, h2⟩ := h
 refine ⟨by simpa using h1, fun y x hy hx => ?_⟩
 rw [show 0 + v * 80 + u * 1 = v * 80 + u by omega, gb_set' h1 hv hu hx]
 by_cases e : y = v ∧ x = u
 ·obtain ⟨rfl, rfl⟩ := e
  rw [if_pos ⟨rfl, rfl⟩, if_pos (by omega)]
  have := h2 y x hv hu
  rw [if_neg (by omega)] at this
  show (gb U y x && !gb C y x) = _
  rw [this]
 ·rw [if_neg e, h2 y x hy hx]
  by_cases c : y * 80 + x < v * 80 + u
  ·rw [if_pos c, if_pos (by omega)]
  ·rw [if_neg c, if_neg (by omega)]
theorem Sub.final {T C U : List Bool} (h : Sub T C 6400 U) : ∀ y x, y < 80 -> x < 80 -> gb U y x = (gb T y x && !gb C y x) := fun y x hy hx => by
 rw [h.2 y x hy hx, if_pos (by omega)]
def dX (d : Nat) : Int := gd [1, -1, 0, 0] d
def dY (d : Nat) : Int := gd [0, 0, 1, -1] d
theorem dX_le (d : Nat) : -1 <= dX d ∧ dX d <= 1 := by
 match d with
 | 0 | 1 | 2 | 3 => simp [dX, gd]
 | n + 4 => simp [dX, gd]
theorem dY_le (d : Nat) : -1 <= dY d ∧ dY d <= 1 := by
 match d with
 | 0 | 1 | 2 | 3 => simp [dY, gd]
 | n + 4 => simp [dY, gd]
def Near4 (S O : List Bool) (p : Cel) (d : Nat) : Prop := ∀ e, e < d -> ∀ c : Cel, (c.1 : Int) = p.1 + dY e -> (c.2 : Int) = p.2 + dX e -> On S c -> On O c
theorem Near4.zero (S O : List Bool) (p : Cel) : Near4 S O p 0 := fun e h => by omega
theorem Near4.done {S O : List Bool} {p : Cel} (h : Near4 S O p 4) : ∀ c, Adj p c -> On S c -> On O c := fun c ha hs => by
 rcases ha with ⟨h1, h2 | h2⟩ | ⟨h1, h2 | h2⟩
 ·exact h 1 (by omega) c (by simp [dY, gd]; omega) (by simp [dX, gd]; omega) hs
 ·exact h 0 (by omega) c (by simp [dY, gd]; omega) (by simp [dX, gd]; omega) hs
 ·exact h 3 (by omega) c (by simp [dY, gd]; omega) (by simp [dX, gd]; omega) hs
 ·exact h 2 (by omega) c (by simp [dY, gd]; omega) (by simp [dX, gd]; omega) hs
theorem Near4.step {S O O' : List Bool} {p : Cel} {d : Nat} (h : Near4 S O p d) (hO : ∀ c, On O c -> On O' c) (hn : ∀ c : Cel, (c.1 : Int) = p.1 + dY d -> (c.2 : Int) = p.2 + dX d -> On S c -> On O' c) : Near4 S O' p (d + 1) := fun e he c h1 h2 hs => by
 by_cases k : e = d
 ·subst k; exact hn c h1 h2 hs
 ·exact hO c (h e (by omega) c h1 h2 hs)
theorem Done.next4 {S O : List Bool} {Q : List (Int × Int)} {i : Nat} {p : Cel} (h : Done S O Q i) (hp : qc (gd Q i) = p) (hn : Near4 S O p 4) : Done S O Q (i + 1) := fun m hm c ha hs => by
 by_cases e : m = i
 ·subst e; rw [hp] at ha; exact hn.done c ha hs
 ·exact h m (by omega) c ha hs
theorem Near4.skip {S O : List Bool} {q : Int × Int} {d : Nat} (h : Near4 S O (qc q) d) (hb : 0 <= q.1 ∧ q.1 < 80 ∧ 0 <= q.2 ∧ q.2 < 80) (hc : ¬ (0 <= q.1 + dX d ∧ q.1 + dX d < 80 ∧ 0 <= q.2 + dY d ∧ q.2 + dY d < 80) ∨ gb S (q.2 + dY d).toNat (q.1 + dX d).toNat = false ∨ gb O (q.2 + dY d).toNat (q.1 + dX d).toNat = true) : Near4 S O (qc q) (d + 1) :=
 h.step (fun _ h => h) fun c e1 e2 hs => by
  obtain ⟨c1, c2⟩ := c
  obtain ⟨h1, h2, h3⟩ := hs
  simp only [qc] at *
  have e3 : c1 = (q.2 + dY d).toNat := by omega
  have e4 : c2 = (q.1 + dX d).toNat := by omega
  rcases hc with k | k | k
  ·omega
  ·rw [<- e3, <- e4, h3] at k; cases k
  ·exact ⟨h1, h2, by rw [e3, e4]; exact k⟩
theorem Near4.take {S O : List Bool} {q : Int × Int} {d : Nat} (h : Near4 S O (qc q) d) (hl : O.length = 6400) (hb : 0 <= q.1 ∧ q.1 < 80 ∧ 0 <= q.2 ∧ q.2 < 80) (hx : 0 <= q.1 + dX d ∧ q.1 + dX d < 80) (hy : 0 <= q.2 + dY d ∧ q.2 + dY d < 80) : Near4 S (O.set ((q.2 + dY d).toNat * 80 + (q.1 + dX d).toNat) true) (qc q) (d + 1) :=
 h.step (fun c hc => on_set hl hx hy hc) fun c e1 e2 hs => by
  obtain ⟨c1, c2⟩ := c
  obtain ⟨h1, h2, h3⟩ := hs
  simp only [qc] at *
  have e3 : c1 = (q.2 + dY d).toNat := by omega
  have e4 : c2 = (q.1 + dX d).toNat := by omega
  refine ⟨h1, h2, ?_⟩
  rw [gb_set' hl (by omega) (by omega) h2, if_pos ⟨e3, e4⟩]
theorem adj4 {q : Int × Int} {d : Nat} (hd : d < 4) (hb : 0 <= q.1 ∧ q.1 < 80 ∧ 0 <= q.2 ∧ q.2 < 80) (hx : 0 <= q.1 + dX d) (hy : 0 <= q.2 + dY d) : Adj (qc q) ((q.2 + dY d).toNat, (q.1 + dX d).toNat) := by
 match d with
 | 0 | 1 | 2 | 3 => simp [dX, dY, gd, qc, Adj] at *; omega
end Go.Proofs.YtogocmlhnjiaaaaGreat
namespace Go.Proofs.YtogocmlhnjiaaaaGreat
open Go
set_option maxRecDepth 20000
variable {G : Gh} {L : List Ch} {R : Value -> Gh -> List Ch -> Prop}
def cmpI (x y : Int) : Int := if x < y then -1 else if y < x then 1 else 0
def orI : List Int -> Int
  | [] => 0
  | x :: l => if x ≠ 0 then x else orI l
def cmpR (a b : Rect) : Int := orI [cmpI a.y0 b.y0, cmpI a.x0 b.x0, cmpI a.y1 b.y1, cmpI a.x1 b.x1]
theorem orI_zero : ∀ {xs : List Int} {i : Nat}, (∀ j, j < i -> gd xs j = 0) -> orI xs = orI (xs.drop i)
 | xs, 0, _ => by simp
 | [], i + 1, _ => by simp
 | x :: xs, i + 1, h => by
  have h0 : x = 0 := by have := h 0 (by omega); simpa [gd] using this
  rw [List.drop_succ_cons, orI, if_neg (by simp [h0])]
  exact orI_zero fun j hj => by have := h (j + 1) (by omega); simpa [gd] using this
theorem orI_at {xs : List Int} {i : Nat} (hi : i < xs.length) (h : ∀ j, j < i -> gd xs j = 0) (hx : gd xs i ≠ 0) : orI xs = gd xs i := by
 rw [orI_zero h, List.drop_eq_getElem_cons hi, <- gd_eq hi, orI, if_pos hx]
theorem orI_all {xs : List Int} (h : ∀ j, j < xs.length -> gd xs j = 0) : orI xs = 0 := by
 rw [orI_zero h]; simp [orI]
theorem cmpOr_s {v : Value} {xs : List Int} (h1 : Rs G L intT v xs) (k : R (vi (orI xs)) G L) : CallT Tryz.prog 225 #[v] G L R := by
 refine CallT.bd h1 fun hb => ?_
 refine CallT.enter (args := _) Tryz.func225 rfl rfl (by kernel_rfl) rfl ?_
 refine WP.sr (RG.mr rfl (RG.nil (WP.sr (RG.mr rfl (RG.nil (WP.seq (WP.sr (RG.p (PV.move (v := v) rfl rfl) (RG.p (PV.len (v := v) rfl Tryz.underlying255 rfl (SlF.r h1)) (RG.ml rfl ?_))))))))))
 refine RG.nil (WP.block ?_)
 refine WP.loop1 [3, 6, 7] (fun i => i <= xs.length ∧ ∀ j, j < i -> gd xs j = 0) (fun i => [(8, vi i)]) (fun i => L) (fun i => xs.length - i) 0 ⟨by omega, fun j h => by omega⟩ ⟨rfl, trivial⟩ Cv.p ?_
 rintro i τ ⟨hi, hj⟩
 refine WP.sr (RG.p (PV.lss rfl rfl rfl) (RG.nil (WP.seq ?_)))
 refine WP.cond rfl (fun h2 => ?_) fun h2 => ?_
 ·have h2 := odt h2
  refine WP.skip (WP.seq (WP.block (WP.sr (RG.p (PV.idxS (v := v) rfl Is255 rfl (SlF.r h1) rfl rfl (by omega)) (RG.p (PV.loadE1 rfl Sc3 rfl rfl (El.r h1 (getG (by omega))) rfl) (RG.mr rfl (RG.nil (WP.sr (RG.ml rfl (RG.ml rfl (RG.p (PV.neq rfl rfl rfl) ?_)))))))))))
  refine RG.nil ?_
  refine WP.cond rfl (fun h3 => ?_) fun h3 => ?_
  ·have h3 : gd xs i ≠ 0 := by simpa using h3
   rw [orI_at (by omega) hj h3] at k
   refine WP.sr (RG.ml rfl (RG.mr rfl (RG.nil ?_)))
   exact WP.ret ⟨_, _, rv rfl rfl, Cv.p, k⟩
  ·have h3 : gd xs i = 0 := by simpa using h3
   have hj' : ∀ j, j < i + 1 -> gd xs j = 0 := fun j h => by
    by_cases c : j = i
    ·rw [c]; exact h3
    ·exact hj j (by omega)
   refine WP.skip (WP.region (RG.p (PV.add rfl rfl rfl (by omega)) (RG.ml rfl (RG.nil ?_))))
   exact ⟨rfl, i + 1, ⟨by omega, hj'⟩, ⟨rfl, trivial⟩, ⟨rfl, rfl, rfl, trivial⟩, Cv.p, by omega⟩
 ·have h2 := odf h2
  rw [orI_all (fun j h => hj j (by omega))] at k
  refine WP.exit (WP.sr (RG.ml rfl (RG.mr rfl (RG.nil ?_))))
  exact WP.ret ⟨_, _, rv rfl rfl, Cv.p, k⟩
theorem isNaN_s {a : Int} (k : R (.bool false) G L) : CallT Tryz.prog 253 #[vi a] G L R := by
 have e : (!decide (a = a)) = false := by simp
 refine CallT.enter (args := _) Tryz.func253 rfl rfl (by kernel_rfl) rfl ?_
 refine WP.sr (RG.br rfl (RG.nil (WP.sr (RG.ml rfl (RG.ml rfl (RG.p (PV.neq rfl rfl rfl) (RG.br rfl (RG.nil ?_))))))))
 exact WP.ret ⟨_, _, rv rfl rfl, Cv.p, (by rw [e]; exact k)⟩
theorem cmp_s {a b : Int} (k : R (vi (cmpI a b)) G L) : CallT Tryz.prog 226 #[vi a, vi b] G L R := by
 refine CallT.enter (args := _) Tryz.func226 rfl rfl (by kernel_rfl) rfl ?_
 refine WP.sr (RG.mr rfl (RG.nil (WP.sr (RG.ml rfl ?_))))
 refine RG.callF (vs := [_]) rfl rfl En253 rfl (isNaN_s ?_)
 refine RG.br rfl (RG.nil (WP.sr (RG.ml rfl ?_)))
 refine RG.callF (vs := [_]) rfl rfl En253 rfl (isNaN_s ?_)
 refine RG.br rfl (RG.nil (WP.seq (WP.sr (RG.bl rfl (RG.nil ?_)))))
 refine WP.cond rfl (fun h => ?_) fun h => ?_
 ·cases h
 ·refine WP.skip ?_
  refine WP.seq (WP.sr (RG.bl rfl (RG.nil ?_)))
  refine WP.cond rfl (fun h => ?_) fun h => ?_
  ·cases h
  ·refine WP.skip ?_
   refine WP.seq (WP.sr (RG.ml rfl (RG.ml rfl (RG.p (PV.lss rfl rfl rfl) (RG.nil ?_)))))
   refine WP.cond rfl (fun h1 => ?_) fun h1 => ?_
   ·rw [cmpI, if_pos (odt h1)] at k
    refine WP.sr (RG.mr rfl (RG.nil ?_))
    exact WP.ret ⟨_, _, rv rfl rfl, Cv.p, k⟩
   ·have h1 := odf h1
    refine WP.skip (WP.seq (WP.sr (RG.ml rfl (RG.ml rfl (RG.p (PV.gtr rfl rfl rfl) (RG.nil ?_))))))
    refine WP.cond rfl (fun h2 => ?_) fun h2 => ?_
    ·rw [cmpI, if_neg h1, if_pos (odt h2)] at k
     refine WP.sr (RG.mr rfl (RG.nil ?_))
     exact WP.ret ⟨_, _, rv rfl rfl, Cv.p, k⟩
    ·rw [cmpI, if_neg h1, if_neg (odf h2)] at k
     refine WP.skip (WP.sr (RG.mr rfl (RG.nil ?_)))
     exact WP.ret ⟨_, _, rv rfl rfl, Cv.p, k⟩
theorem compareRects_s {a b : Rect} (k : R (vi (cmpR a b)) G L) : CallT Tryz.prog 182 #[.agg #[vi a.x0, vi a.y0, vi a.x1, vi a.y1], .agg #[vi b.x0, vi b.y0, vi b.x1, vi b.y1]] G L R := by
 refine CallT.enter (args := _) Tryz.func182 rfl rfl (by kernel_rfl) rfl ?_
 refine WP.sr ?_
 refine RG.ot rfl (OT.box rfl rfl rfl fun b2 => ?_)
 refine RG.ot rfl (OT.box rfl rfl rfl fun b3 => ?_)
 refine RG.mr rfl (RG.nil (WP.seq ?_))
 refine WP.regionH0 (.q 0 (.q 1 (.q 2 (.q 3 (.q 5 (.q 6 (.q 7 (.q 8 (.q 10 (.q 11 (.q 12 (.q 13 (.q 15 (.q 16 (.q 17 (.q 18 (.l 4 (.l 9 (.l 14 (.l 19 (.l 20 (.l 21 (.q 22 Sch.nil))))))))))))))))))))))) (by kernel_rfl) (by kernel_rfl) (by kernel_rfl) rfl ?_
 refine RH.w rfl rfl (PV.field rfl Fo101_1 rfl) (RH.w rfl rfl (PV.load1 rfl Sc2 rfl (Rd.blk rfl)) (RH.w rfl rfl (PV.field rfl Fo101_1 rfl) (RH.w rfl rfl (PV.load1 rfl Sc2 rfl (Rd.blk rfl)) (RH.w rfl rfl (PV.field rfl Fo101_0 rfl) (RH.w rfl rfl (PV.load1 rfl Sc2 rfl (Rd.blk rfl)) (RH.w rfl rfl (PV.field rfl Fo101_0 rfl) (RH.w rfl rfl (PV.load1 rfl Sc2 rfl (Rd.blk rfl)) (RH.w rfl rfl (PV.field rfl Fo101_3 rfl) (RH.w rfl rfl (PV.load1 rfl Sc2 rfl (Rd.blk rfl)) (RH.w rfl rfl (PV.field rfl Fo101_3 rfl) (RH.w rfl rfl (PV.load1 rfl Sc2 rfl (Rd.blk rfl)) (RH.w rfl rfl (PV.field rfl Fo101_2 rfl) (RH.w rfl rfl (PV.load1 rfl Sc2 rfl (Rd.blk rfl)) ?_)))))))))))))
 refine RH.w rfl rfl (PV.field rfl Fo101_2 rfl) (RH.w rfl rfl (PV.load1 rfl Sc2 rfl (Rd.blk rfl)) ?_)
 refine RH.ot rfl rfl (OT.callF (vs := [_, _]) rfl En226 rfl (cmp_s (kp ?_)))
 refine RH.ot rfl rfl (OT.callF (vs := [_, _]) rfl En226 rfl (cmp_s (kp ?_)))
 refine RH.ot rfl rfl (OT.callF (vs := [_, _]) rfl En226 rfl (cmp_s (kp ?_)))
 refine RH.ot rfl rfl (OT.callF (vs := [_, _]) rfl En226 rfl (cmp_s (kp ?_)))
 refine RH.ot rfl rfl (OT.bslice (F := intT) (els := [_, _, _, _]) rfl El255 rfl (by decide) rfl (by decide) ⟨rfl, (Cl.c rfl), ⟨rfl, (Cl.c rfl), ⟨rfl, (Cl.c rfl), ⟨rfl, (Cl.c rfl), trivial⟩⟩⟩⟩ fun v25 => (kp ?_))
 refine RH.ot rfl rfl (OT.callF (vs := [v25]) rfl En225 rfl (cmpOr_s Rs.o (kp ?_)))
 refine RH.w rfl rfl (PV.mvI (.inr rfl) rfl) (RH.nil ?_)
 exact WP.ret ⟨_, _, rv rfl rfl, Cv.p, k⟩
theorem partsCmp_s {v u : Value} {xs ys : List Rect} (h1 : Rs G L rectT v xs) (h2 : Rs G L rectT u ys) (hx : 0 < xs.length) (hy : 0 < ys.length) (k : R (vi (cmpR (gd xs 0) (gd ys 0))) G L) : CallT Tryz.prog 181 #[v, u] G L R := by
 refine CallT.enter (args := _) Tryz.func181 rfl rfl (by kernel_rfl) rfl ?_
 refine WP.sr (RG.mr rfl (RG.nil (WP.seq ?_)))
 refine WP.regionQ (by kernel_rfl) (by kernel_rfl) ?_
 refine RQ.pv rfl (PV.move (v := v) rfl rfl) (RQ.pv rfl (PV.idxS (j := 0) (v := v) rfl Is50 rfl (SlF.r h1) rfl (by omega) (by omega)) (RQ.pv rfl (PV.loadE rfl Ag101 rfl rfl (El.r h1 (getG (by omega)))) (RQ.pv rfl (PV.move (v := u) rfl rfl) (RQ.pv rfl (PV.idxS (j := 0) (v := u) rfl Is50 rfl (SlF.r h2) rfl (by omega) (by omega)) (RQ.pv rfl (PV.loadE rfl Ag101 rfl rfl (El.r h2 (getG (by omega)))) ?_)))))
 refine RQ.callF (vs := [_, _]) rfl rfl En182 rfl (compareRects_s ⟨rfl, rfl, rfl⟩) ?_
 refine RQ.pv rfl (PV.mvI (.inr rfl) rfl) (RQ.nil ?_)
 exact WP.ret ⟨_, _, rv rfl rfl, Cv.p, k⟩
theorem parts_len {S : List Bool} {zs : List (Sl Rect)} (h : er zs = partsL S) : zs.length <= 6400 := by
 have := congrArg List.length h
 have h1 := firsts_len S 6400
 rw [er_len, partsL_len] at this; omega
theorem parts_at {S : List Bool} {zs : List (Sl Rect)} (h : er zs = partsL S) {i : Nat} (hi : i < zs.length) : i < (firsts S 6400).length ∧ (gd zs i).xs = canon (compB S (cel (gd (firsts S 6400) i))) := by
 have := congrArg List.length h
 rw [er_len, partsL_len] at this
 refine ⟨by omega, ?_⟩
 rw [<- er_gd, h, partsL_gd (by omega)]
theorem parts_ne {S : List Bool} {zs : List (Sl Rect)} (h : er zs = partsL S) {i : Nat} (hi : i < zs.length) : 0 < (gd zs i).xs.length := by
 obtain ⟨h1, h2⟩ := parts_at h hi
 rw [h2]; exact (canon_first (firsts_first h1)).1
theorem parts_lt {S : List Bool} {zs : List (Sl Rect)} (h : er zs = partsL S) {i j : Nat} (hij : i < j) (hj : j < zs.length) : ¬ cmpR (gd (gd zs j).xs 0) (gd (gd zs i).xs 0) < 0 := by
 obtain ⟨h1, h2⟩ := parts_at h (i := i) (by omega)
 obtain ⟨h3, h4⟩ := parts_at h hj
 obtain ⟨_, a1, a2⟩ := canon_first (firsts_first h1)
 obtain ⟨_, a3, a4⟩ := canon_first (firsts_first h3)
 have h5 := firsts_lt hij h3
 rw [h2, h4, cmpR, a1, a2, a3, a4]
 simp only [orI, cmpI]
 split <;> split <;> (try split) <;> (try split) <;> (try split) <;> omega
theorem pi_zlen {S T : List Bool} {n : Nat} {zs : List (Sl Rect)} (h : PI canon S n T (er zs)) : zs.length <= n := by
 have := congrArg List.length h.er
 have h1 := firsts_len S n
 rw [er_len, List.length_map] at this; omega
theorem bv_len (bs : List Bool) : (bv bs).length = bs.length := by simp [bv]
theorem take6400 {S : List Bool} (h : S.length = 6400) : (S.drop 0).take 6400 = S := by rw [List.drop_zero, List.take_of_length_le (by omega)]
theorem allOne_bv (bs : List Bool) : allOne (bv bs) = true := by simp [allOne, bv, Value.oneCell']
theorem OT.storeGG {P : Program} {n : Nat} {σ : Nat -> Value} {o : Oper} {K : (Nat -> Value) -> Gh -> List Ch -> Prop} {b : Nat} {t e : TypeId} {x y : Operand} {cs : List Value} {bs : List Bool} {L' : List Ch} (ho : o.op = .store t x y) (hS : ∀ w, (sizeOf t).run P w = .ok 6400 w) (hx : ev σ x = .pointer (some ⟨b, 0, none⟩)) (hy : ev σ y = .agg (bv bs).toArray) (hl : bs.length = 6400) [hX : ExB b L e cs L'] (hc : cs.length = 6400) (k : K (updo σ o.dst undef) G (blk b e (bv bs) :: L')) : OT P n o σ G L K :=
 OT.storeW ho hS hx hy (Cl.c (by simp [Value.cells])) (by simp [bv, hl]) hc (OneC.c (allOne_bv bs)) k
set_option maxHeartbeats 1000000 in
theorem parts_s {b : Nat} {S : List Bool} (hS : S.length = 6400) (k : ∀ v zs, er zs = partsL S -> R v G (osl 50 slT v zs :: bagS 101 rectT zs :: grd b S :: L)) : CallT Tryz.prog 120 #[.pointer (some ⟨b, 0, none⟩), .bool false] G (grd b S :: L) R := by
 refine CallT.enter (args := _) Tryz.func120 rfl rfl (by kernel_rfl) rfl ?_
 refine WP.sr (RG.p (PV.asg rfl rfl) (RG.nil ?_))
 refine WP.cut2 [1] (fun (o : Value) (b6 : Nat) => True) (fun (o : Value) (b6 : Nat) => [(5, o), (6, .pointer (some ⟨b6, 0, none⟩))]) (fun (o : Value) (b6 : Nat) => grd b6 S :: osl 50 slT o ([] : List (Sl Rect)) :: grd b S :: L) ?_ ?_
 refine WP.regionH0 (.q 1 (.q 2 (.q 3 (.b 0 (.l 4 (.q 5 (.l 6 Sch.nil))) 4 (.l 0 (.q 5 (.l 6 Sch.nil))))))) (by kernel_rfl) (by kernel_rfl) (by kernel_rfl) rfl ?_
 refine RH.w rfl rfl (PV.mvP (.inl rfl) rfl) (RH.w rfl rfl (PV.nilc rfl rfl) (RH.w rfl rfl (PV.loadRow rfl Ag125 rfl rfl (by omega)) ?_))
 ·refine RH.ot2 rfl rfl rfl rfl  (OT.bslice (F := (slT (α := Rect))) (els := []) rfl El35 rfl (by decide) rfl (by decide) trivial fun v12 => (kp ?_)) (OT.alloc rfl (zeroB_spec (n := 6400) (by kernel_rfl)) fun b6 => (kp ?_))
  ·refine RH.ot rfl rfl (OT.alloc rfl (zeroB_spec (n := 6400) (by kernel_rfl)) fun b6 => (kp ?_))
   refine RH.w rfl rfl (PV.asg (v := v12) rfl rfl) ?_
   refine RH.ot rfl rfl (OT.storeGG rfl Sz125 rfl rfl (by first | omega | (simp <;> omega)) (by first | assumption | rw [bv_len, List.length_replicate]) (kp ?_))
   refine RH.nil ?_
   exact ⟨rfl, v12, b6, trivial, ⟨rfl, rfl, trivial⟩, ⟨rfl, trivial⟩, (Cv.p (C := grd b6 ((S.drop 0).take 6400) :: osl 50 slT v12 ([] : List (Sl Rect)) :: grd b S :: L)).trans (Cv.cast (by rw [take6400 hS]))⟩
  ·refine RH.ot rfl rfl (OT.bslice (F := (slT (α := Rect))) (els := []) rfl El35 rfl (by decide) rfl (by decide) trivial fun v12 => (kp ?_))
   refine RH.w rfl rfl (PV.asg (v := v12) rfl rfl) ?_
   refine RH.ot rfl rfl (OT.storeGG rfl Sz125 rfl rfl (by first | omega | (simp <;> omega)) (by first | assumption | rw [bv_len, List.length_replicate]) (kp ?_))
   refine RH.nil ?_
   exact ⟨rfl, v12, b6, trivial, ⟨rfl, rfl, trivial⟩, ⟨rfl, trivial⟩, (Cv.p (C := grd b6 ((S.drop 0).take 6400) :: osl 50 slT v12 ([] : List (Sl Rect)) :: grd b S :: L)).trans (Cv.cast (by rw [take6400 hS]))⟩
 ·rintro o b6 τ _
  refine WP.seq (WP.sr (RG.ml rfl (RG.nil (WP.block ?_))))
  refine WP.cv ((Cv.p (C := osl 50 slT o ([] : List (Sl Rect)) :: grd b6 S :: grd b S :: L)).trans (Cv.cons (Cv.bag0 (e := 101) (F := rectT) (xs := []) rfl))) ?_
  refine WP.loop4 [1, 6] (fun (y : Nat) (T : List Bool) (zs : List (Sl Rect)) (q : Value) => y <= 80 ∧ PI canon S (y * 80) T (er zs)) (fun (y : Nat) (T : List Bool) (zs : List (Sl Rect)) (q : Value) => [(16, vi y), (5, q)]) (fun (y : Nat) (T : List Bool) (zs : List (Sl Rect)) (q : Value) => grd b6 T :: osl 50 slT q zs :: bagS 101 rectT zs :: grd b S :: L) (fun (y : Nat) (T : List Bool) (zs : List (Sl Rect)) (q : Value) => 80 - y) 0 S [] o ⟨by omega, PI.start hS⟩ ⟨rfl, rfl, trivial⟩ Cv.p ?_
  rintro y T zs q τ ⟨hy, hP⟩
  refine WP.sr (RG.p (PV.lss rfl rfl rfl) (RG.nil (WP.seq ?_)))
  refine WP.cond rfl (fun h2 => ?_) fun h2 => ?_
  ·have h2 := odt h2
   refine WP.skip (WP.seq (WP.block (WP.sr (RG.ml rfl (RG.mr rfl (RG.nil (WP.sr (RG.ml rfl (RG.nil (WP.block ?_))))))))))
   refine WP.loop4 [1, 6, 7, 16] (fun (x : Nat) (T1 : List Bool) (zs1 : List (Sl Rect)) (q1 : Value) => x <= 80 ∧ PI canon S (y * 80 + x) T1 (er zs1)) (fun (x : Nat) (T1 : List Bool) (zs1 : List (Sl Rect)) (q1 : Value) => [(19, vi x), (5, q1)]) (fun (x : Nat) (T1 : List Bool) (zs1 : List (Sl Rect)) (q1 : Value) => grd b6 T1 :: osl 50 slT q1 zs1 :: bagS 101 rectT zs1 :: grd b S :: L) (fun (x : Nat) (T1 : List Bool) (zs1 : List (Sl Rect)) (q1 : Value) => 80 - x) 0 T zs q ⟨by omega, hP⟩ ⟨rfl, rfl, trivial⟩ Cv.p ?_
   rintro x T1 zs1 q1 τ1 ⟨hx, hP1⟩
   refine WP.sr (RG.p (PV.lss rfl rfl rfl) (RG.nil (WP.seq ?_)))
   refine WP.cond rfl (fun h3 => ?_) fun h3 => ?_
   ·have h3 := odt h3
    have hl1 := hP1.len
    have hzl := pi_zlen hP1
    have e1 : (y * 80 + x) / 80 = y := by omega
    have e2 : (y * 80 + x) % 80 = x := by omega
    have e3 : cel (y * 80 + x) = (y, x) := by rw [cel, e1, e2]
    refine WP.skip (WP.seq (WP.block (WP.sr (RG.ml rfl (RG.mr rfl (RG.nil (WP.seq (WP.sr (RG.ml rfl (RG.ml rfl (RG.p (PV.idxA (j := y) rfl Ia125 rfl rfl (by omega) (by omega)) ?_)))))))))))
    refine RG.p (PV.idxA (j := x) rfl Ia123 rfl rfl (by omega) (by omega)) (RG.p (PV.loadGr rfl Sc4 rfl rfl (by omega)) (RG.p (PV.not rfl rfl) (RG.nil ?_)))
    refine WP.cond rfl (fun h4 => ?_) fun h4 => ?_
    ·have h5 : gb T1 y x = false := by rw [<- gd_gb]; simpa using h4
     refine WP.exit (WP.region (RG.p (PV.add rfl rfl rfl (by omega)) (RG.ml rfl (RG.nil ?_))))
     exact ⟨rfl, x + 1, T1, zs1, q1, ⟨by omega, hP1.skip (by omega) (by rw [e1, e2]; exact h5)⟩, ⟨rfl, rfl, trivial⟩, ⟨rfl, rfl, rfl, rfl, trivial⟩, Cv.p, by omega⟩
    ·have h5 : gb T1 y x = true := by rw [<- gd_gb]; simpa using h4
     refine WP.skip (WP.sr (RG.ml rfl (RG.ml rfl (RG.bl rfl ?_))))
     refine RG.callF (vs := [_, _, _, _]) rfl rfl En179 rfl (CallT.exB (flood_s (x := (x : Int)) (y := (y : Int)) hl1 (by omega) (by omega) (by rw [Int.toNat_natCast, Int.toNat_natCast]; exact h5) (fun b9 => ?_)))
     refine RG.p (PV.asg rfl rfl) (RG.nil (WP.seq (WP.sr (RG.ml rfl (RG.nil (WP.block ?_))))))
     refine WP.cv ((Cv.p (C := grd b9 (compB T1 ((y : Int).toNat, (x : Int).toNat)) :: grd b6 T1 :: osl 50 slT q1 zs1 :: bagS 101 rectT zs1 :: grd b S :: L)).trans (Cv.cast (by rw [Int.toNat_natCast, Int.toNat_natCast, <- e3]))) ?_
     have hlc := compB_len T1 (cel (y * 80 + x))
     refine WP.loop2 [1, 5, 6, 7, 9, 16, 19] (fun (v : Nat) (U : List Bool) => v <= 80 ∧ Sub T1 (compB T1 (cel (y * 80 + x))) (v * 80) U) (fun (v : Nat) (U : List Bool) => [(32, vi v)]) (fun (v : Nat) (U : List Bool) => grd b9 (compB T1 (cel (y * 80 + x))) :: grd b6 U :: osl 50 slT q1 zs1 :: bagS 101 rectT zs1 :: grd b S :: L) (fun (v : Nat) (U : List Bool) => 80 - v) 0 T1 ⟨by omega, Sub.start hl1⟩ ⟨rfl, trivial⟩ Cv.p ?_
     rintro v U τ2 ⟨hv, hU⟩
     refine WP.sr (RG.p (PV.lss rfl rfl rfl) (RG.nil (WP.seq ?_)))
     refine WP.cond rfl (fun h6 => ?_) fun h6 => ?_
     ·have h6 := odt h6
      refine WP.skip (WP.seq (WP.block (WP.sr (RG.ml rfl (RG.mr rfl (RG.nil (WP.sr (RG.ml rfl (RG.nil (WP.block ?_))))))))))
      refine WP.loop2 [1, 5, 6, 7, 9, 10, 16, 19, 32] (fun (u : Nat) (V : List Bool) => u <= 80 ∧ Sub T1 (compB T1 (cel (y * 80 + x))) (v * 80 + u) V) (fun (u : Nat) (V : List Bool) => [(35, vi u)]) (fun (u : Nat) (V : List Bool) => grd b9 (compB T1 (cel (y * 80 + x))) :: grd b6 V :: osl 50 slT q1 zs1 :: bagS 101 rectT zs1 :: grd b S :: L) (fun (u : Nat) (V : List Bool) => 80 - u) 0 U ⟨by omega, hU⟩ ⟨rfl, trivial⟩ Cv.p ?_
      rintro u V τ3 ⟨hu, hV⟩
      refine WP.sr (RG.p (PV.lss rfl rfl rfl) (RG.nil (WP.seq ?_)))
      refine WP.cond rfl (fun h7 => ?_) fun h7 => ?_
      ·have h7 := odt h7
       have hVl := hV.1
       refine WP.skip (WP.seq (WP.block (WP.sr (RG.ml rfl (RG.mr rfl (RG.nil ?_))))))
       refine WP.regionHD [.b b6] (.q 0 (.q 1 (.q 2 (.q 3 (.q 4 (.q 5 (.q 17 (.l 6 (.q 7 (.q 8 (.q 9 (.q 10 (.q 11 (.q 12 (.q 13 (.q 14 (.q 15 (.q 16 (.q 18 (.l 19 Sch.nil)))))))))))))))))))) (by kernel_rfl) (by kernel_rfl) (by kernel_rfl) rfl ?_
       refine RH.w rfl rfl (PV.mvI (.inl rfl) rfl) (RH.w rfl rfl (PV.mvI (.inl rfl) rfl) (RH.w rfl rfl (PV.mvI (.inl rfl) rfl) (RH.w rfl rfl (PV.mvI (.inl rfl) rfl) (RH.w rfl rfl (PV.idxA (j := v) rfl Ia125 rfl rfl (by omega) (by omega)) (RH.w rfl rfl (PV.idxA (j := u) rfl Ia123 rfl rfl (by omega) (by omega)) (RH.w rfl rfl (PV.idxA (j := v) rfl Ia125 rfl rfl (by omega) (by omega)) ?_))))))
       refine RH.ot rfl rfl (OT.pv (PV.loadGr rfl Sc4 rfl rfl (by omega)) (kp ?_))
       refine RH.w rfl rfl (PV.mvB (.inl rfl) rfl) ?_
       refine RH.gs rfl (fun _ _ _ _ h => h) (Gh.le_refl _) PickC.pick rfl rfl rfl (fun hp => (PV.mvP (.inl rfl) rfl)) ?_
       refine RH.gs rfl (fun _ _ _ _ h => h) (Gh.le_refl _) PickC.pick rfl rfl rfl (fun hp => (PV.mvI (.inl rfl) rfl)) ?_
       refine RH.gs rfl (fun _ _ _ _ h => h) (Gh.le_refl _) PickC.pick rfl rfl rfl (fun hp => (PV.mvI (.inl rfl) rfl)) ?_
       refine RH.gs rfl (fun _ _ _ _ h => h) (Gh.le_refl _) PickC.pick rfl rfl rfl (fun hp => (PV.nilc rfl (gt' hp))) ?_
       refine RH.gs rfl (fun _ _ _ _ h => h) (Gh.le_refl _) PickC.pick rfl rfl rfl (fun hp => (PV.idxA (j := v) rfl Ia125 (gt' hp) (gt' hp) (by first | omega | (simp at hp; omega)) (by first | omega | (simp at hp; omega)))) ?_
       refine RH.gs rfl (fun _ _ _ _ h => h) (Gh.le_refl _) PickC.pick rfl rfl rfl (fun hp => (PV.idxA (j := u) rfl Ia123 (gt' hp) (gt' hp) (by first | omega | (simp at hp; omega)) (by first | omega | (simp at hp; omega)))) ?_
       refine RH.gs rfl (fun _ _ _ _ h => h) (Gh.le_refl _) PickC.pick rfl rfl rfl (fun hp => (PV.loadGr rfl Sc4 (gt' hp) rfl (by first | omega | (simp at hp; omega)))) ?_
       refine RH.gs rfl (fun _ _ _ _ h => h) (Gh.le_refl _) PickC.pick rfl rfl rfl (fun hp => (PV.not rfl (gt' hp))) ?_
       refine RH.w rfl rfl (PV.pickA rfl rfl (fun hq => gt' (geqT hq)) rfl) (RH.w rfl rfl (PV.idxA (j := u) rfl Ia123 rfl rfl (by omega) (by omega)) ?_)
       refine RH.ot rfl rfl (OT.storeGr rfl Sz4 rfl rfl rfl (by first | omega | (simp; omega)) (kp ?_))
       refine RH.nil (WP.region (RG.p (PV.add rfl rfl rfl (by omega)) (RG.ml rfl (RG.nil ?_))))
       exact ⟨rfl, u + 1, (V.set (0 + v * 80 + u * 1) (gd V (0 + v * 80 + u * 1) && !gd (compB T1 (cel (y * 80 + x))) (0 + v * 80 + u * 1))), ⟨by omega, hV.step (by omega) (by omega) (by omega)⟩, ⟨rfl, trivial⟩, ⟨rfl, rfl, rfl, rfl, rfl, rfl, rfl, rfl, rfl, trivial⟩, Cv.p, by omega⟩
      ·have h7 := odf h7
       obtain rfl : u = 80 := by omega
       refine WP.exit (WP.region (RG.p (PV.add rfl rfl rfl (by omega)) (RG.ml rfl (RG.nil ?_))))
       exact ⟨rfl, v + 1, V, ⟨by omega, by rw [Nat.add_mul]; exact hV⟩, ⟨rfl, trivial⟩, ⟨rfl, rfl, rfl, rfl, rfl, rfl, rfl, trivial⟩, Cv.p, by omega⟩
     ·have h6 := odf h6
      obtain rfl : v = 80 := by omega
      refine WP.exit (WP.region (RG.p (PV.move (v := q1) rfl rfl) (RG.p (PV.mvP (.inl rfl) rfl) ?_)))
      refine RG.callF (vs := [_]) rfl rfl En69 rfl (region_s hlc (fun v61 => ?_))
      refine RG.ot rfl (OT.bslice (F := (slT (α := Rect))) (els := [⟨v61, canon (compB T1 (cel (y * 80 + x)))⟩]) rfl El35 rfl (by decide) rfl (by decide) ⟨rfl, (Cl.s (v := v61) SlF.o), trivial⟩ fun v62 => ?_)
      refine RG.ot rfl (OT.append (v := q1) (u := v62) (F := (slT (α := Rect))) rfl El35 rfl (by decide) rfl rfl Rs.o (OneL.one (OneC.sl SlF.o OneC.nil)) rfl (by first | omega | (simp <;> omega)) fun v63 => ?_)
      refine RG.p (PV.asg (v := v63) rfl rfl) (RG.nil (WP.region (RG.p (PV.add rfl rfl rfl (by omega)) (RG.ml rfl (RG.nil ?_)))))
      refine ⟨rfl, x + 1, U, (zs1 ++ [⟨v61, canon (compB T1 (cel (y * 80 + x)))⟩]), v63, ⟨by omega, ?_⟩, ⟨rfl, rfl, trivial⟩, ⟨rfl, rfl, rfl, rfl, trivial⟩, ((Cv.p (C := osl 101 rectT v61 (canon (compB T1 (cel (y * 80 + x)))) :: bagS 101 rectT zs1 :: grd b6 U :: osl 50 slT v63 (zs1 ++ [⟨v61, canon (compB T1 (cel (y * 80 + x)))⟩]) :: grd b S :: L)).trans (Cv.bagS_add.trans Cv.p)), by omega⟩
      rw [er, List.map_append]
      exact hP1.take (by omega) (by rw [e1, e2]; exact h5) hU.1 hU.final
   ·have h3 := odf h3
    obtain rfl : x = 80 := by omega
    refine WP.exit (WP.region (RG.p (PV.add rfl rfl rfl (by omega)) (RG.ml rfl (RG.nil ?_))))
    exact ⟨rfl, y + 1, T1, zs1, q1, ⟨by omega, by rw [Nat.add_mul]; exact hP1⟩, ⟨rfl, rfl, trivial⟩, ⟨rfl, rfl, trivial⟩, Cv.p, by omega⟩
  ·have h2 := odf h2
   obtain rfl : y = 80 := by omega
   have hz := hP.final
   refine WP.exit (WP.sr (RG.p (PV.move (v := q) rfl rfl) ?_))
   refine RG.callF (vs := [q, _]) rfl rfl En180 rfl (sorted_rss (cf := fun i j => cmpR (gd (gd zs i).xs 0) (gd (gd zs j).xs 0)) (parts_len hz) Rs.o (fun i j hi hj => CB.mk0 En181 fun L' R c k => partsCmp_s (Rs.cv c (RsE.o i hi)) (Rs.cv c (RsE.o j hj)) (parts_ne hz hi) (parts_ne hz hj) k) (fun i j hij hj => parts_lt hz hij hj) ?_)
   refine RG.nil (WP.sr (RG.p (PV.move (v := q) rfl rfl) (RG.p (PV.asg (v := q) rfl rfl) (RG.nil ?_))))
   exact WP.ret ⟨_, _, rv rfl rfl, Cv.p, k q zs hz⟩
end Go.Proofs.YtogocmlhnjiaaaaGreat
namespace Go.Proofs.YtogocmlhnjiaaaaGreat
open Go
set_option maxRecDepth 20000
variable {G : Gh} {L : List Ch} {R : Value -> Gh -> List Ch -> Prop}
theorem wpAnyH_mono {P : Program} {md : Region.Mode} {ops : Array Oper} {Q : Exit -> Act -> World -> Prop} {S S' : World -> Prop} (h : ∀ w, S' w -> S w) : ∀ (fuel : Nat) (ls : Array Bool) (a : Act) (w : World), wpAnyH P md ops Q S' fuel ls a w -> wpAnyH P md ops Q S fuel ls a w
 | 0, _, _, _, k => k
 | fuel + 1, _, _, _, k => ⟨k.1, fun i hi => wpOp_mono (fun a' w' k' => ⟨h w' k'.1, wpAnyH_mono h fuel _ a' w' k'.2⟩) (k.2 i hi)⟩
theorem RH.up1 {P : Program} {n : Nat} {ops : Array Oper} {Q : Post} {σ : Nat -> Value} {G G0 : Gh} {L C0 : List Ch} {r : Sch} {c : Ch} (k : RH P n ops G0 (c :: C0) r Q σ G (c :: L)) : RH P n ops G0 C0 r Q σ G (c :: L) :=
 RH.of fun h1 h2 ls a w hb ha hs => wpAnyH_mono (fun w' hs' => hs'.pick (.drop _ (.refl _))) _ _ _ _ (k.run h1 h2 hb ha hs)
theorem components_s {v : Value} {xs : List Rect} (h1 : Rs G L rectT v xs) (k : ∀ v zs, er zs = partsL (bits xs) -> R v G (osl 50 slT v zs :: bagS 101 rectT zs :: L)) : CallT Tryz.prog 74 #[v] G L R := by
 refine CallT.enter (args := _) Tryz.func74 rfl rfl (by kernel_rfl) rfl ?_
 refine WP.sr (RG.p (PV.asg rfl rfl) (RG.nil (WP.sr (RG.p (PV.move (v := v) rfl rfl) ?_))))
 refine RG.callF (vs := [v]) rfl rfl En99 rfl (cellsOf_s (Rs.up h1) (fun b7 => ?_))
 refine RG.callF (vs := [_, _]) rfl rfl En120 rfl (CallT.exB (parts_s (bits_length _) (fun v8 ps8 hp8 => ?_)))
 refine RG.p (PV.asg rfl rfl) (RG.nil ?_)
 exact WP.ret ⟨_, _, rv rfl rfl, Cv.p, k v8 ps8 hp8⟩
theorem l17At_s {x y : Int} (hx : -40 <= x ∧ x <= 40) (hy : -40 <= y ∧ y <= 40) (k : R (vi ((y + 40) * 80 + x + 40)) G L) : CallT Tryz.prog 240 #[vi x, vi y] G L R := by
 refine CallT.enter (args := _) Tryz.func240 rfl rfl (by kernel_rfl) rfl ?_
 refine WP.sr (RG.mr rfl (RG.nil (WP.sr (RG.ml rfl (RG.p (PV.add rfl rfl rfl (by omega)) (RG.p (PV.mul rfl rfl rfl (by omega)) (RG.ml rfl (RG.p (PV.add rfl rfl rfl (by omega)) (RG.p (PV.add rfl rfl rfl (by omega)) (RG.mr rfl (RG.nil ?_)))))))))))
 exact WP.ret ⟨_, _, rv rfl rfl, Cv.p, k⟩
theorem l17Inside_s {x y : Int} (k : R (.bool (decide (-40 <= x ∧ x < 40) && decide (-40 <= y ∧ y < 40))) G L) : CallT Tryz.prog 241 #[vi x, vi y] G L R := by
 have e : (decide (-40 <= x ∧ x < 40) && decide (-40 <= y ∧ y < 40)) = (decide (x ≥ -40) && decide (x < 40) && decide (y ≥ -40) && decide (y < 40)) := by rw [Bool.eq_iff_iff]; simp; omega
 rw [e] at k
 refine CallT.enter (args := _) Tryz.func241 rfl rfl (by kernel_rfl) rfl ?_
 refine WP.sr (RG.br rfl (RG.nil (WP.sr (RG.ml rfl (RG.p (PV.geq rfl rfl rfl) (RG.bl rfl ?_))))))
 refine RG.g rfl (fun hp => (PV.mvI (.inl rfl) rfl)) ?_
 refine RG.g rfl (fun hp => (PV.lss rfl (gt' hp) rfl)) ?_
 refine RG.p (PV.pickA rfl rfl (fun hq => gt' (geqT hq)) rfl) (RG.bl rfl ?_)
 refine RG.g rfl (fun hp => (PV.mvI (.inl rfl) rfl)) ?_
 refine RG.g rfl (fun hp => (PV.geq rfl (gt' hp) rfl)) ?_
 refine RG.p (PV.pickA rfl rfl (fun hq => gt' (geqT hq)) rfl) (RG.bl rfl ?_)
 refine RG.g rfl (fun hp => (PV.mvI (.inl rfl) rfl)) ?_
 refine RG.g rfl (fun hp => (PV.lss rfl (gt' hp) rfl)) ?_
 refine RG.p (PV.pickA rfl rfl (fun hq => gt' (geqT hq)) rfl) (RG.br rfl (RG.nil ?_))
 exact WP.ret ⟨_, _, rv rfl rfl, Cv.p, k⟩
theorem l17Cell_s {v : Value} {S : List Bool} {x y : Int} (h1 : Rs G L boolT v S) (hS : S.length = 6400) (k : R (.bool ((decide (-40 <= x ∧ x < 40) && decide (-40 <= y ∧ y < 40)) && gd S ((y + 40) * 80 + x + 40).toNat)) G L) : CallT Tryz.prog 256 #[v, vi x, vi y] G L R := by
 refine CallT.enter (args := _) Tryz.func256 rfl rfl (by kernel_rfl) rfl ?_
 refine WP.sr (RG.br rfl (RG.nil (WP.sr (RG.ml rfl (RG.ml rfl ?_)))))
 refine RG.callF (vs := [_, _]) rfl rfl En241 rfl (l17Inside_s ?_)
 refine RG.bl rfl ?_
 refine RG.g rfl (fun hp => (PV.move (v := v) rfl rfl)) ?_
 refine RG.g rfl (fun hp => (PV.mvI (.inl rfl) rfl)) ?_
 refine RG.g rfl (fun hp => (PV.mvI (.inl rfl) rfl)) ?_
 refine RG.gsC rfl rfl rfl rfl En240 (fun hp => ⟨_, (acons (gt' hp) (acons (gt' hp) anil)), l17At_s (by simp at hp <;> omega) (by simp at hp <;> omega) ⟨rfl, rfl, rfl⟩⟩) ?_
 refine RG.g rfl (fun hp => (PV.idxS (j := ((y + 40) * 80 + x + 40).toNat) (v := v) rfl Is148 (gt' hp) (SlF.r h1) (gt' hp) (by first | omega | (simp at hp; omega)) (by first | omega | (simp at hp; omega)))) ?_
 refine RG.g rfl (fun hp => (PV.loadE1 rfl Sc4 (gt' hp) rfl (El.r h1 (getG (by first | omega | (simp at hp; omega)))) rfl)) ?_
 refine RG.p (PV.pickA rfl rfl (fun hq => gt' (geqT hq)) rfl) (RG.br rfl (RG.nil ?_))
 exact WP.ret ⟨_, _, rv rfl rfl, Cv.p, k⟩
def ptOf (q : Int × Int) : Pt := ⟨q.1 - 40, q.2 - 40⟩
theorem gd_pt {Q : List (Int × Int)} {i : Nat} (h : i < Q.length) : gd (Q.map ptOf) i = ptOf (gd Q i) := by
 rw [gd_eq h, gd_eq (by simpa using h)]; simp
theorem visit_s {v : Value} {S : List Bool} {x y : Int} (h1 : Rs G L boolT v S) (hS : S.length = 6400) (hx : 0 <= x ∧ x < 80) (hy : 0 <= y ∧ y < 80) (hon : gb S y.toNat x.toNat = true)
  (k : ∀ v' Q, FI S (y.toNat, x.toNat) (compB S (y.toNat, x.toNat)) Q -> R v' G (osl 156 ptT v' (Q.map ptOf) :: L)) : CallT Tryz.prog 242 #[v, vi (x - 40), vi (y - 40)] G L R := by
 have hst := FI.start (S := S) hx hy
 have hseed : On S (y.toNat, x.toNat) := ⟨by simp only; omega, by simp only; omega, hon⟩
 have hrl : (List.replicate S.length false).length = 6400 := by simp [hS]
 refine CallT.enter (args := _) Tryz.func242 rfl rfl (by kernel_rfl) rfl ?_
 refine WP.sr (RG.p (PV.asg rfl rfl) (RG.nil (WP.sr (RG.p (PV.move (v := v) rfl rfl) (RG.p (PV.len (v := v) rfl Tryz.underlying148 rfl (SlF.r h1)) ?_)))))
 refine RG.ot rfl (OT.make (F := boolT) (a0 := false) rfl El148 rfl (by decide) rfl rfl (by omega) (by omega) fun v14 => ?_)
 refine RG.p (PV.asg (v := v14) rfl rfl) (RG.nil (WP.sr (RG.p (PV.move (v := v14) rfl rfl) (RG.ml rfl (RG.ml rfl ?_)))))
 refine RG.callF (vs := [_, _]) rfl rfl En240 rfl (l17At_s (by first | omega | (simp at hp; omega)) (by first | omega | (simp at hp; omega)) ?_)
 refine RG.p (PV.idxS (j := y.toNat * 80 + x.toNat) (v := v14) rfl Is148 rfl SlF.o rfl (by omega) (by omega)) ?_
 refine RG.ot rfl (OT.storeE (F := boolT) rfl Sz4 rfl rfl rfl (Cl.c rfl) (OneC.c rfl) (by omega) ?_)
 refine RG.nil (WP.sr (RG.ml rfl (RG.ml rfl (RG.p (PV.build (vs := [(0, [vi _]), (1, [vi _])]) (out := [_, _]) rfl Zr156 Pl156 ⟨rfl, (Cl.c rfl), ⟨rfl, (Cl.c rfl), trivial⟩⟩ rfl) ?_))))
 refine RG.ot rfl (OT.bslice (F := ptT) (els := [⟨_, _⟩]) rfl El239 rfl (by decide) rfl (by decide) ⟨rfl, (Cl.c rfl), trivial⟩ fun v23 => ?_)
 refine RG.p (PV.asg (v := v23) rfl rfl) (RG.nil (WP.seq (WP.sr (RG.mr rfl (RG.nil (WP.block ?_))))))
 refine WP.cv ((Cv.p (C := osl 4 boolT v14 ((List.replicate S.length false).set (y.toNat * 80 + x.toNat) true) :: osl 156 ptT v23 [⟨x - 40, y - 40⟩] :: L)).trans (Cv.cast (L' := osl 4 boolT v14 ((List.replicate 6400 false).set (y.toNat * 80 + x.toNat) true) :: osl 156 ptT v23 ([(x, y)].map ptOf) :: L) (by rw [hS]; rfl))) ?_
 refine WP.loop4 [0, 7] (fun (i : Nat) (Q : List (Int × Int)) (O : List Bool) (qv : Value) => i <= Q.length ∧ FI S (y.toNat, x.toNat) O Q ∧ Done S O Q i ∧ On O (y.toNat, x.toNat)) (fun (i : Nat) (Q : List (Int × Int)) (O : List Bool) (qv : Value) => [(9, vi i), (8, qv)]) (fun (i : Nat) (Q : List (Int × Int)) (O : List Bool) (qv : Value) => osl 4 boolT v14 O :: osl 156 ptT qv (Q.map ptOf) :: L) (fun (i : Nat) (Q : List (Int × Int)) (O : List Bool) (qv : Value) => 6401 - i) 0 [(x, y)] ((List.replicate 6400 false).set (y.toNat * 80 + x.toNat) true) v23 ⟨by simp, hst, fun m hm => by omega, by have := hst.on 0 (by simp); simpa [gd, qc] using this⟩ ⟨rfl, rfl, trivial⟩ Cv.p ?_
 rintro i Q O qv τ ⟨hi, hF, hD, h0⟩
 refine WP.seq (WP.sr (RG.ml rfl (RG.p (PV.move (v := qv) rfl rfl) (RG.p (PV.len (v := qv) rfl Tryz.underlying239 rfl SlF.o) (RG.p (PV.lss rfl rfl rfl) (RG.nil ?_))))))
 have hml : (Q.map ptOf).length = Q.length := by simp
 refine WP.cond rfl (fun h2 => ?_) fun h2 => ?_
 ·have h2 := odt h2
  have hQ := hF.len_le
  have hb := hF.bd i (by omega)
  refine WP.skip (WP.seq (WP.block (WP.sr (RG.mr rfl (RG.nil (WP.block ?_))))))
  refine WP.loop4 [0, 7, 9] (fun (d : Nat) (Q1 : List (Int × Int)) (O1 : List Bool) (qv1 : Value) => d <= 4 ∧ FI S (y.toNat, x.toNat) O1 Q1 ∧ Done S O1 Q1 i ∧ On O1 (y.toNat, x.toNat) ∧ i < Q1.length ∧ gd Q1 i = gd Q i ∧ Near4 S O1 (qc (gd Q i)) d) (fun (d : Nat) (Q1 : List (Int × Int)) (O1 : List Bool) (qv1 : Value) => [(10, vi d), (8, qv1)]) (fun (d : Nat) (Q1 : List (Int × Int)) (O1 : List Bool) (qv1 : Value) => osl 4 boolT v14 O1 :: osl 156 ptT qv1 (Q1.map ptOf) :: L) (fun (d : Nat) (Q1 : List (Int × Int)) (O1 : List Bool) (qv1 : Value) => 4 - d) 0 Q O qv ⟨by omega, hF, hD, h0, by omega, rfl, Near4.zero _ _ _⟩ ⟨rfl, rfl, trivial⟩ Cv.p ?_
  rintro d Q1 O1 qv1 τ1 ⟨hd, hF1, hD1, h01, hi1, hq1, hN1⟩
  refine WP.seq (WP.sr (RG.ml rfl (RG.p (PV.lss rfl rfl rfl) (RG.nil ?_))))
  have hml1 : (Q1.map ptOf).length = Q1.length := by simp
  refine WP.cond rfl (fun h3 => ?_) fun h3 => ?_
  ·have h3 := odt h3
   have hl1 := hF1.len
   have hQ1 := hF1.len_le
   have hb1 : 0 <= (gd Q1 i).1 ∧ (gd Q1 i).1 < 80 ∧ 0 <= (gd Q1 i).2 ∧ (gd Q1 i).2 < 80 := by rw [hq1]; exact hb
   have e1 : gd (Q1.map ptOf) i = ⟨(gd Q1 i).1 - 40, (gd Q1 i).2 - 40⟩ := gd_pt hi1
   have ex : (gd (Q1.map ptOf) i).x = (gd Q1 i).1 - 40 := by rw [e1]
   have ey : (gd (Q1.map ptOf) i).y = (gd Q1 i).2 - 40 := by rw [e1]
   have hdx : -1 <= gd [1, -1, 0, 0] d ∧ gd [1, -1, 0, 0] d <= (1 : Int) := dX_le d
   have hdy : -1 <= gd [0, 0, 1, -1] d ∧ gd [0, 0, 1, -1] d <= (1 : Int) := dY_le d
   have hn4 : ([1, -1, 0, 0] : List Int).length = 4 := rfl
   have hn4' : ([0, 0, 1, -1] : List Int).length = 4 := rfl
   refine WP.skip (WP.seq (WP.block ?_))
   refine WP.cut1 [0, 7, 8, 9, 10] (fun (b11 : Nat) => True) (fun (b11 : Nat) => [(11, .pointer (some ⟨b11, 0, none⟩))]) (fun (b11 : Nat) => blk b11 156 [vi ((gd Q1 i).1 - 40 + dX d), vi ((gd Q1 i).2 - 40 + dY d)] :: osl 4 boolT v14 O1 :: osl 156 ptT qv1 (Q1.map ptOf) :: L) ?_ ?_
   refine WP.regionH0 (.q 0 (.q 1 (.q 2 (.q 3 (.q 4 (.q 6 (.q 10 (.q 11 (.q 12 (.q 13 (.q 14 (.q 16 (.c 5 (.q 7 (.q 8 (.q 9 (.b 15 (.q 17 (.q 18 (.q 19 (.q 20 (.l 21 (.l 22 Sch.nil)))))) 21 (.l 15 (.q 17 (.q 18 (.q 19 (.q 20 (.l 22 Sch.nil)))))))))) 15 (.q 17 (.q 18 (.q 19 (.b 5 (.q 7 (.q 8 (.q 9 (.q 20 (.l 21 (.l 22 Sch.nil)))))) 21 (.l 5 (.q 7 (.q 8 (.q 9 (.q 20 (.l 22 Sch.nil)))))))))) 21 (.b 5 (.q 7 (.q 8 (.q 9 (.l 15 (.q 17 (.q 18 (.q 19 (.q 20 (.l 22 Sch.nil))))))))) 15 (.q 17 (.q 18 (.q 19 (.l 5 (.q 7 (.q 8 (.q 9 (.q 20 (.l 22 Sch.nil))))))))))))))))))))))) (by kernel_rfl) (by kernel_rfl) (by kernel_rfl) rfl ?_
   refine RH.w rfl rfl (PV.move (v := qv1) rfl rfl) (RH.w rfl rfl (PV.mvI (.inl rfl) rfl) (RH.w rfl rfl (PV.idxS (v := qv1) rfl Is239 rfl SlF.o rfl rfl (by omega)) (RH.w rfl rfl (PV.field rfl Fo156_0 rfl) (RH.w rfl rfl (PV.loadF (v := qv1) (j := 0) rfl Sc2 rfl rfl (El.o (getG (by omega))) rfl) (RH.w rfl rfl (PV.mvI (.inl rfl) rfl) (RH.w rfl rfl (PV.move (v := qv1) rfl rfl) (RH.w rfl rfl (PV.mvI (.inl rfl) rfl) (RH.w rfl rfl (PV.idxS (v := qv1) rfl Is239 rfl SlF.o rfl rfl (by omega)) (RH.w rfl rfl (PV.field rfl Fo156_1 rfl) (RH.w rfl rfl (PV.loadF rfl Sc2 rfl rfl (El.o (getG (by omega))) rfl) (RH.w rfl rfl (PV.mvI (.inl rfl) rfl) ?_)))))))))))
   ·refine RH.ot3 rfl rfl rfl rfl rfl rfl  (OT.bslice (F := intT) (els := [_, _, _, _]) rfl El45 rfl (by decide) rfl (by decide) ⟨rfl, (Cl.c rfl), ⟨rfl, (Cl.c rfl), ⟨rfl, (Cl.c rfl), ⟨rfl, (Cl.c rfl), trivial⟩⟩⟩⟩ fun v39 => (kp ?_)) (OT.bslice (F := intT) (els := [_, _, _, _]) rfl El45 rfl (by decide) rfl (by decide) ⟨rfl, (Cl.c rfl), ⟨rfl, (Cl.c rfl), ⟨rfl, (Cl.c rfl), ⟨rfl, (Cl.c rfl), trivial⟩⟩⟩⟩ fun v49 => (kp ?_)) (OT.alloc rfl Zr156 fun b11 => (kp ?_))
    ·refine RH.up1 ?_
     refine RH.w rfl rfl (PV.idxS (v := v39) rfl Is45 rfl SlF.o rfl rfl (by omega)) (RH.w rfl rfl (PV.loadE1 rfl Sc2 rfl rfl (El.o (getG (by omega))) rfl) (RH.w rfl rfl (PV.add rfl rfl rfl (by omega)) ?_))
     refine RH.ot2 rfl rfl rfl rfl  (OT.bslice (F := intT) (els := [_, _, _, _]) rfl El45 rfl (by decide) rfl (by decide) ⟨rfl, (Cl.c rfl), ⟨rfl, (Cl.c rfl), ⟨rfl, (Cl.c rfl), ⟨rfl, (Cl.c rfl), trivial⟩⟩⟩⟩ fun v49 => (kp ?_)) (OT.alloc rfl Zr156 fun b11 => (kp ?_))
     ·refine RH.up1 ?_
      refine RH.w rfl rfl (PV.idxS (v := v49) rfl Is45 rfl SlF.o rfl rfl (by omega)) (RH.w rfl rfl (PV.loadE1 rfl Sc2 rfl rfl (El.o (getG (by omega))) rfl) (RH.w rfl rfl (PV.add rfl rfl rfl (by omega)) (RH.w rfl rfl (PV.build (vs := [(0, [vi _]), (1, [vi _])]) (out := [_, _]) rfl Zr156 Pl156 ⟨rfl, (Cl.c rfl), ⟨rfl, (Cl.c rfl), trivial⟩⟩ rfl) ?_)))
      refine RH.ot rfl rfl (OT.alloc rfl Zr156 fun b11 => (kp ?_))
      refine RH.ot rfl rfl (OT.storeW (vs := [vi _, vi _]) rfl Sz156 rfl rfl (Cl.c rfl) rfl rfl (OneC.c rfl) (kp ?_))
      refine RH.nil ?_
      exact ⟨rfl, b11, trivial, ⟨rfl, trivial⟩, ⟨rfl, rfl, rfl, rfl, rfl, trivial⟩, (Cv.p (C := blk b11 156 [vi ((gd (Q1.map ptOf) i).x + gd [1, -1, 0, 0] d), vi ((gd (Q1.map ptOf) i).y + gd [0, 0, 1, -1] d)] :: osl 4 boolT v14 O1 :: osl 156 ptT qv1 (Q1.map ptOf) :: L)).trans (Cv.cast (by rw [ex, ey]; rfl))⟩
     ·refine RH.ot rfl rfl (OT.bslice (F := intT) (els := [_, _, _, _]) rfl El45 rfl (by decide) rfl (by decide) ⟨rfl, (Cl.c rfl), ⟨rfl, (Cl.c rfl), ⟨rfl, (Cl.c rfl), ⟨rfl, (Cl.c rfl), trivial⟩⟩⟩⟩ fun v49 => (kp ?_))
      refine RH.up1 ?_
      refine RH.w rfl rfl (PV.idxS (v := v49) rfl Is45 rfl SlF.o rfl rfl (by omega)) (RH.w rfl rfl (PV.loadE1 rfl Sc2 rfl rfl (El.o (getG (by omega))) rfl) (RH.w rfl rfl (PV.add rfl rfl rfl (by omega)) (RH.w rfl rfl (PV.build (vs := [(0, [vi _]), (1, [vi _])]) (out := [_, _]) rfl Zr156 Pl156 ⟨rfl, (Cl.c rfl), ⟨rfl, (Cl.c rfl), trivial⟩⟩ rfl) ?_)))
      refine RH.ot rfl rfl (OT.storeW (vs := [vi _, vi _]) rfl Sz156 rfl rfl (Cl.c rfl) rfl rfl (OneC.c rfl) (kp ?_))
      refine RH.nil ?_
      exact ⟨rfl, b11, trivial, ⟨rfl, trivial⟩, ⟨rfl, rfl, rfl, rfl, rfl, trivial⟩, (Cv.p (C := blk b11 156 [vi ((gd (Q1.map ptOf) i).x + gd [1, -1, 0, 0] d), vi ((gd (Q1.map ptOf) i).y + gd [0, 0, 1, -1] d)] :: osl 4 boolT v14 O1 :: osl 156 ptT qv1 (Q1.map ptOf) :: L)).trans (Cv.cast (by rw [ex, ey]; rfl))⟩
    ·refine RH.up1 ?_
     refine RH.w rfl rfl (PV.idxS (v := v49) rfl Is45 rfl SlF.o rfl rfl (by omega)) (RH.w rfl rfl (PV.loadE1 rfl Sc2 rfl rfl (El.o (getG (by omega))) rfl) (RH.w rfl rfl (PV.add rfl rfl rfl (by omega)) ?_))
     refine RH.ot2 rfl rfl rfl rfl  (OT.bslice (F := intT) (els := [_, _, _, _]) rfl El45 rfl (by decide) rfl (by decide) ⟨rfl, (Cl.c rfl), ⟨rfl, (Cl.c rfl), ⟨rfl, (Cl.c rfl), ⟨rfl, (Cl.c rfl), trivial⟩⟩⟩⟩ fun v39 => (kp ?_)) (OT.alloc rfl Zr156 fun b11 => (kp ?_))
     ·refine RH.up1 ?_
      refine RH.w rfl rfl (PV.idxS (v := v39) rfl Is45 rfl SlF.o rfl rfl (by omega)) (RH.w rfl rfl (PV.loadE1 rfl Sc2 rfl rfl (El.o (getG (by omega))) rfl) (RH.w rfl rfl (PV.add rfl rfl rfl (by omega)) (RH.w rfl rfl (PV.build (vs := [(0, [vi _]), (1, [vi _])]) (out := [_, _]) rfl Zr156 Pl156 ⟨rfl, (Cl.c rfl), ⟨rfl, (Cl.c rfl), trivial⟩⟩ rfl) ?_)))
      refine RH.ot rfl rfl (OT.alloc rfl Zr156 fun b11 => (kp ?_))
      refine RH.ot rfl rfl (OT.storeW (vs := [vi _, vi _]) rfl Sz156 rfl rfl (Cl.c rfl) rfl rfl (OneC.c rfl) (kp ?_))
      refine RH.nil ?_
      exact ⟨rfl, b11, trivial, ⟨rfl, trivial⟩, ⟨rfl, rfl, rfl, rfl, rfl, trivial⟩, (Cv.p (C := blk b11 156 [vi ((gd (Q1.map ptOf) i).x + gd [1, -1, 0, 0] d), vi ((gd (Q1.map ptOf) i).y + gd [0, 0, 1, -1] d)] :: osl 4 boolT v14 O1 :: osl 156 ptT qv1 (Q1.map ptOf) :: L)).trans (Cv.cast (by rw [ex, ey]; rfl))⟩
     ·refine RH.ot rfl rfl (OT.bslice (F := intT) (els := [_, _, _, _]) rfl El45 rfl (by decide) rfl (by decide) ⟨rfl, (Cl.c rfl), ⟨rfl, (Cl.c rfl), ⟨rfl, (Cl.c rfl), ⟨rfl, (Cl.c rfl), trivial⟩⟩⟩⟩ fun v39 => (kp ?_))
      refine RH.up1 ?_
      refine RH.w rfl rfl (PV.idxS (v := v39) rfl Is45 rfl SlF.o rfl rfl (by omega)) (RH.w rfl rfl (PV.loadE1 rfl Sc2 rfl rfl (El.o (getG (by omega))) rfl) (RH.w rfl rfl (PV.add rfl rfl rfl (by omega)) (RH.w rfl rfl (PV.build (vs := [(0, [vi _]), (1, [vi _])]) (out := [_, _]) rfl Zr156 Pl156 ⟨rfl, (Cl.c rfl), ⟨rfl, (Cl.c rfl), trivial⟩⟩ rfl) ?_)))
      refine RH.ot rfl rfl (OT.storeW (vs := [vi _, vi _]) rfl Sz156 rfl rfl (Cl.c rfl) rfl rfl (OneC.c rfl) (kp ?_))
      refine RH.nil ?_
      exact ⟨rfl, b11, trivial, ⟨rfl, trivial⟩, ⟨rfl, rfl, rfl, rfl, rfl, trivial⟩, (Cv.p (C := blk b11 156 [vi ((gd (Q1.map ptOf) i).x + gd [1, -1, 0, 0] d), vi ((gd (Q1.map ptOf) i).y + gd [0, 0, 1, -1] d)] :: osl 4 boolT v14 O1 :: osl 156 ptT qv1 (Q1.map ptOf) :: L)).trans (Cv.cast (by rw [ex, ey]; rfl))⟩
    ·refine RH.ot2 rfl rfl rfl rfl  (OT.bslice (F := intT) (els := [_, _, _, _]) rfl El45 rfl (by decide) rfl (by decide) ⟨rfl, (Cl.c rfl), ⟨rfl, (Cl.c rfl), ⟨rfl, (Cl.c rfl), ⟨rfl, (Cl.c rfl), trivial⟩⟩⟩⟩ fun v39 => (kp ?_)) (OT.bslice (F := intT) (els := [_, _, _, _]) rfl El45 rfl (by decide) rfl (by decide) ⟨rfl, (Cl.c rfl), ⟨rfl, (Cl.c rfl), ⟨rfl, (Cl.c rfl), ⟨rfl, (Cl.c rfl), trivial⟩⟩⟩⟩ fun v49 => (kp ?_))
     ·refine RH.up1 ?_
      refine RH.w rfl rfl (PV.idxS (v := v39) rfl Is45 rfl SlF.o rfl rfl (by omega)) (RH.w rfl rfl (PV.loadE1 rfl Sc2 rfl rfl (El.o (getG (by omega))) rfl) (RH.w rfl rfl (PV.add rfl rfl rfl (by omega)) ?_))
      refine RH.ot rfl rfl (OT.bslice (F := intT) (els := [_, _, _, _]) rfl El45 rfl (by decide) rfl (by decide) ⟨rfl, (Cl.c rfl), ⟨rfl, (Cl.c rfl), ⟨rfl, (Cl.c rfl), ⟨rfl, (Cl.c rfl), trivial⟩⟩⟩⟩ fun v49 => (kp ?_))
      refine RH.up1 ?_
      refine RH.w rfl rfl (PV.idxS (v := v49) rfl Is45 rfl SlF.o rfl rfl (by omega)) (RH.w rfl rfl (PV.loadE1 rfl Sc2 rfl rfl (El.o (getG (by omega))) rfl) (RH.w rfl rfl (PV.add rfl rfl rfl (by omega)) (RH.w rfl rfl (PV.build (vs := [(0, [vi _]), (1, [vi _])]) (out := [_, _]) rfl Zr156 Pl156 ⟨rfl, (Cl.c rfl), ⟨rfl, (Cl.c rfl), trivial⟩⟩ rfl) ?_)))
      refine RH.ot rfl rfl (OT.storeW (vs := [vi _, vi _]) rfl Sz156 rfl rfl (Cl.c rfl) rfl rfl (OneC.c rfl) (kp ?_))
      refine RH.nil ?_
      exact ⟨rfl, b11, trivial, ⟨rfl, trivial⟩, ⟨rfl, rfl, rfl, rfl, rfl, trivial⟩, (Cv.p (C := blk b11 156 [vi ((gd (Q1.map ptOf) i).x + gd [1, -1, 0, 0] d), vi ((gd (Q1.map ptOf) i).y + gd [0, 0, 1, -1] d)] :: osl 4 boolT v14 O1 :: osl 156 ptT qv1 (Q1.map ptOf) :: L)).trans (Cv.cast (by rw [ex, ey]; rfl))⟩
     ·refine RH.up1 ?_
      refine RH.w rfl rfl (PV.idxS (v := v49) rfl Is45 rfl SlF.o rfl rfl (by omega)) (RH.w rfl rfl (PV.loadE1 rfl Sc2 rfl rfl (El.o (getG (by omega))) rfl) (RH.w rfl rfl (PV.add rfl rfl rfl (by omega)) ?_))
      refine RH.ot rfl rfl (OT.bslice (F := intT) (els := [_, _, _, _]) rfl El45 rfl (by decide) rfl (by decide) ⟨rfl, (Cl.c rfl), ⟨rfl, (Cl.c rfl), ⟨rfl, (Cl.c rfl), ⟨rfl, (Cl.c rfl), trivial⟩⟩⟩⟩ fun v39 => (kp ?_))
      refine RH.up1 ?_
      refine RH.w rfl rfl (PV.idxS (v := v39) rfl Is45 rfl SlF.o rfl rfl (by omega)) (RH.w rfl rfl (PV.loadE1 rfl Sc2 rfl rfl (El.o (getG (by omega))) rfl) (RH.w rfl rfl (PV.add rfl rfl rfl (by omega)) (RH.w rfl rfl (PV.build (vs := [(0, [vi _]), (1, [vi _])]) (out := [_, _]) rfl Zr156 Pl156 ⟨rfl, (Cl.c rfl), ⟨rfl, (Cl.c rfl), trivial⟩⟩ rfl) ?_)))
      refine RH.ot rfl rfl (OT.storeW (vs := [vi _, vi _]) rfl Sz156 rfl rfl (Cl.c rfl) rfl rfl (OneC.c rfl) (kp ?_))
      refine RH.nil ?_
      exact ⟨rfl, b11, trivial, ⟨rfl, trivial⟩, ⟨rfl, rfl, rfl, rfl, rfl, trivial⟩, (Cv.p (C := blk b11 156 [vi ((gd (Q1.map ptOf) i).x + gd [1, -1, 0, 0] d), vi ((gd (Q1.map ptOf) i).y + gd [0, 0, 1, -1] d)] :: osl 4 boolT v14 O1 :: osl 156 ptT qv1 (Q1.map ptOf) :: L)).trans (Cv.cast (by rw [ex, ey]; rfl))⟩
   ·have ej : ((gd Q1 i).2 - 40 + dY d + 40) * 80 + ((gd Q1 i).1 - 40 + dX d) + 40 = ((gd Q1 i).2 + dY d) * 80 + ((gd Q1 i).1 + dX d) := by omega
    rintro b11 τ2 _
    refine WP.sr (RG.p (PV.move (v := v) rfl rfl) (RG.p (PV.field rfl Fo156_0 rfl) (RG.p (PV.load1 rfl Sc2 rfl (Rd.blk rfl)) (RG.p (PV.field rfl Fo156_1 rfl) (RG.p (PV.load1 rfl Sc2 rfl (Rd.blk rfl)) ?_)))))
    refine RG.callF (vs := [v, _, _]) rfl rfl En256 rfl (l17Cell_s (Rs.up h1) hS ?_)
    refine RG.bl rfl ?_
    refine RG.g rfl (fun hp => (PV.move (v := v14) rfl rfl)) ?_
    refine RG.g rfl (fun hp => (PV.field rfl Fo156_0 rfl)) ?_
    refine RG.g rfl (fun hp => (PV.load1 rfl Sc2 (gt' hp) (Rd.blk rfl))) ?_
    refine RG.g rfl (fun hp => (PV.field rfl Fo156_1 rfl)) ?_
    refine RG.g rfl (fun hp => (PV.load1 rfl Sc2 (gt' hp) (Rd.blk rfl))) ?_
    refine RG.gsC rfl rfl rfl rfl En240 (fun hp => ⟨_, (acons (gt' hp) (acons (gt' hp) anil)), l17At_s (by first | omega | (simp at hp; omega)) (by first | omega | (simp at hp; omega)) ⟨rfl, rfl, rfl⟩⟩) ?_
    refine RG.g rfl (fun hp => (PV.idxS (j := ((gd Q1 i).2 + dY d).toNat * 80 + ((gd Q1 i).1 + dX d).toNat) (v := v14) rfl Is148 (gt' hp) SlF.o (gt' hp) (by first | omega | (simp at hp; omega)) (by first | omega | (simp at hp; omega)))) ?_
    refine RG.g rfl (fun hp => (PV.loadE1 rfl Sc4 (gt' hp) rfl (El.o (getG (by first | omega | (simp at hp; omega)))) rfl)) ?_
    refine RG.g rfl (fun hp => (PV.not rfl (gt' hp))) ?_
    refine RG.p (PV.pickA rfl rfl (fun hq => gt' (geqT hq)) rfl) (RG.nil ?_)
    refine WP.cond rfl (fun h4 => ?_) fun h4 => ?_
    ·have h5 : ((-40 <= (gd Q1 i).1 - 40 + dX d ∧ (gd Q1 i).1 - 40 + dX d < 40) ∧ (-40 <= (gd Q1 i).2 - 40 + dY d ∧ (gd Q1 i).2 - 40 + dY d < 40)) ∧ gb S ((gd Q1 i).2 + dY d).toNat ((gd Q1 i).1 + dX d).toNat = true ∧ gb O1 ((gd Q1 i).2 + dY d).toNat ((gd Q1 i).1 + dX d).toNat = false := by
      simp only [Bool.and_eq_true, decide_eq_true_eq, Bool.not_eq_true', ej] at h4
      obtain ⟨⟨⟨a1, a2⟩, a3⟩, a4⟩ := h4
      rw [show (((gd Q1 i).2 + dY d) * 80 + ((gd Q1 i).1 + dX d)).toNat = ((gd Q1 i).2 + dY d).toNat * 80 + ((gd Q1 i).1 + dX d).toNat by omega] at a3
      exact ⟨⟨a1, a2⟩, a3, a4⟩
     obtain ⟨⟨a1, a2⟩, a3, a4⟩ := h5
     refine WP.sr (RG.p (PV.move (v := v14) rfl rfl) (RG.p (PV.field rfl Fo156_0 rfl) (RG.p (PV.load1 rfl Sc2 rfl (Rd.blk rfl)) (RG.p (PV.field rfl Fo156_1 rfl) (RG.p (PV.load1 rfl Sc2 rfl (Rd.blk rfl)) ?_)))))
     refine RG.callF (vs := [_, _]) rfl rfl En240 rfl (l17At_s (by first | omega | (simp at hp; omega)) (by first | omega | (simp at hp; omega)) ?_)
     refine RG.p (PV.idxS (j := ((gd Q1 i).2 + dY d).toNat * 80 + ((gd Q1 i).1 + dX d).toNat) (v := v14) rfl Is148 rfl SlF.o rfl (by omega) (by omega)) ?_
     refine RG.ot rfl (OT.storeE (F := boolT) rfl Sz4 rfl rfl rfl (Cl.c rfl) (OneC.c rfl) (by omega) ?_)
     refine RG.nil (WP.region (RG.p (PV.move (v := qv1) rfl rfl) (RG.p (PV.loadW rfl Ag156 rfl rfl) ?_)))
     refine RG.ot rfl (OT.bslice (F := ptT) (els := [⟨_, _⟩]) rfl El239 rfl (by decide) rfl (by decide) ⟨rfl, (Cl.c rfl), trivial⟩ fun v81 => ?_)
     refine RG.ot rfl (OT.append (v := qv1) (u := v81) (F := ptT) rfl El239 rfl (by decide) rfl rfl Rs.o (OneL.c (fun _ => rfl)) rfl (by first | omega | (simp <;> omega)) fun v82 => ?_)
     refine RG.p (PV.asg (v := v82) rfl rfl) (RG.nil (WP.region (RG.ml rfl (RG.p (PV.add rfl rfl rfl (by omega)) (RG.mr rfl (RG.nil ?_))))))
     have ep : ptOf ((gd Q1 i).1 + dX d, (gd Q1 i).2 + dY d) = ⟨(gd Q1 i).1 - 40 + dX d, (gd Q1 i).2 - 40 + dY d⟩ := by simp only [ptOf, Pt.mk.injEq]; omega
     have ha := adj4 (q := gd Q1 i) (d := d) (by omega) hb1 (by omega) (by omega)
     exact ⟨rfl, d + 1, (Q1 ++ [((gd Q1 i).1 + dX d, (gd Q1 i).2 + dY d)]), (O1.set (((gd Q1 i).2 + dY d).toNat * 80 + ((gd Q1 i).1 + dX d).toNat) true), v82, ⟨by omega, hF1.add ⟨by omega, by omega⟩ ⟨by omega, by omega⟩ a4 a3 hi1 ha, hD1.add hi1 (fun c hc => on_set hl1 ⟨by omega, by omega⟩ ⟨by omega, by omega⟩ hc), on_set hl1 ⟨by omega, by omega⟩ ⟨by omega, by omega⟩ h01, by simp; omega, by rw [gd_app_l hi1]; exact hq1, by rw [<- hq1] at hN1 ⊢; exact hN1.take hl1 hb1 (by omega) (by omega)⟩, ⟨rfl, rfl, trivial⟩, ⟨rfl, rfl, rfl, trivial⟩, (Cv.p (C := osl 4 boolT v14 (O1.set (((gd Q1 i).2 + dY d).toNat * 80 + ((gd Q1 i).1 + dX d).toNat) true) :: osl 156 ptT v82 (Q1.map ptOf ++ [⟨(gd Q1 i).1 - 40 + dX d, (gd Q1 i).2 - 40 + dY d⟩]) :: L)).trans (Cv.cast (by rw [List.map_append, <- ep]; rfl)), by omega⟩
    ·refine WP.skip ?_
     refine WP.region (RG.ml rfl (RG.p (PV.add rfl rfl rfl (by omega)) (RG.mr rfl (RG.nil ?_))))
     refine ⟨rfl, d + 1, Q1, O1, qv1, ⟨by omega, hF1, hD1, h01, hi1, hq1, ?_⟩, ⟨rfl, rfl, trivial⟩, ⟨rfl, rfl, rfl, trivial⟩, Cv.p, by omega⟩
     rw [<- hq1] at hN1 ⊢
     refine hN1.skip hb1 ?_
     by_cases hin : 0 <= (gd Q1 i).1 + dX d ∧ (gd Q1 i).1 + dX d < 80 ∧ 0 <= (gd Q1 i).2 + dY d ∧ (gd Q1 i).2 + dY d < 80
     ·refine .inr ?_
      simp only [Bool.and_eq_false_iff, decide_eq_false_iff_not, Bool.not_eq_false', ej] at h4
      rw [show (((gd Q1 i).2 + dY d) * 80 + ((gd Q1 i).1 + dX d)).toNat = ((gd Q1 i).2 + dY d).toNat * 80 + ((gd Q1 i).1 + dX d).toNat by omega] at h4
      rcases h4 with (((a | a) | a) | a)
      ·omega
      ·omega
      ·exact .inl a
      ·exact .inr a
     ·exact .inl hin
  ·have h3 := odf h3
   refine WP.exit (WP.region (RG.ml rfl (RG.p (PV.add rfl rfl rfl (by omega)) (RG.mr rfl (RG.nil ?_)))))
   exact ⟨rfl, i + 1, Q1, O1, qv1, ⟨by omega, hF1, hD1.next4 (by rw [hq1]) (by obtain rfl : d = 4 := (by omega); exact hN1), h01⟩, ⟨rfl, rfl, trivial⟩, ⟨rfl, rfl, trivial⟩, Cv.p, by omega⟩
 ·have h2 := odf h2
  obtain rfl : i = Q.length := by omega
  have e := hF.final hseed h0 hD
  rw [e] at hF
  refine WP.exit (WP.sr (RG.p (PV.move (v := qv) rfl rfl) (RG.p (PV.asg (v := qv) rfl rfl) (RG.nil ?_))))
  exact WP.ret ⟨_, _, rv rfl rfl, Cv.p, k qv Q hF⟩
def PQ (Q : List (Int × Int)) (n : Nat) (P : List Bool) : Prop := P.length = 6400 ∧ ∀ y x, y < 80 -> x < 80 -> (gb P y x = true ↔ ∃ m, m < n ∧ qc (gd Q m) = (y, x))
theorem PQ.zero (Q : List (Int × Int)) : PQ Q 0 (List.replicate 6400 false) := ⟨List.length_replicate, fun y x _ _ => by rw [gb_rep']; simp⟩
theorem PQ.step {Q : List (Int × Int)} {n : Nat} {P : List Bool} (h : PQ Q n P) (hb : 0 <= (gd Q n).1 ∧ (gd Q n).1 < 80 ∧ 0 <= (gd Q n).2 ∧ (gd Q n).2 < 80) : PQ Q (n + 1) (P.set ((gd Q n).2.toNat * 80 + (gd Q n).1.toNat) true) := by
 refine ⟨by simpa using h.1, fun y x hy hx => ?_⟩
 rw [gb_set' h.1 (by omega) (by omega) hx]
 by_cases e : y = (gd Q n).2.toNat ∧ x = (gd Q n).1.toNat
 ·rw [if_pos e]
  exact ⟨fun _ => ⟨n, by omega, by rw [qc, e.1, e.2]⟩, fun _ => rfl⟩
 ·rw [if_neg e, h.2 y x hy hx]
  constructor
  ·rintro ⟨m, hm, he⟩; exact ⟨m, by omega, he⟩
  ·rintro ⟨m, hm, he⟩
   by_cases c : m = n
   ·subst c; exfalso; apply e; simp only [qc, Prod.mk.injEq] at he; omega
   ·exact ⟨m, by omega, he⟩
theorem PQ.final {S : List Bool} {a : Cel} {Q : List (Int × Int)} {P : List Bool} (hF : FI S a (compB S a) Q) (h : PQ Q Q.length P) : P = compB S a := by
 refine gb_ext h.1 (compB_len _ _) fun y x hy hx => ?_
 rw [Bool.eq_iff_iff, h.2 y x hy hx]
 constructor
 ·rintro ⟨m, hm, he⟩; have := (hF.on m hm).2.2; rw [he] at this; exact this
 ·intro hg; exact hF.all (y, x) ⟨hy, hx, hg⟩
def MQ (T P U : List Bool) : Prop := U.length = 6400 ∧ ∀ y x, y < 80 -> x < 80 -> gb U y x = (gb T y x && !gb P y x)
theorem MQ.zero {T : List Bool} (h : T.length = 6400) : MQ T (List.replicate 6400 false) T := ⟨h, fun y x _ _ => by rw [gb_rep']; simp⟩
theorem MQ.step {T P U : List Bool} (h : MQ T P U) (hP : P.length = 6400) {v u : Nat} (hv : v < 80) (hu : u < 80) : MQ T (P.set (v * 80 + u) true) (U.set (v * 80 + u) false) := by
 refine ⟨by simpa using h.1, fun y x hy hx => ?_⟩
 rw [gb_set' h.1 hv hu hx, gb_set' hP hv hu hx]
 by_cases e : y = v ∧ x = u
 ·rw [if_pos e, if_pos e]; simp
 ·rw [if_neg e, if_neg e]; exact h.2 y x hy hx
theorem comps_s {v : Value} {S : List Bool} (h1 : Rs G L boolT v S) (hS : S.length = 6400) (k : ∀ v' zs, er zs = comps S -> R v' G (osl 148 slT v' zs :: bagS 4 boolT zs :: L)) : CallT Tryz.prog 215 #[v] G L R := by
 have hrl : (List.replicate S.length false).length = 6400 := by simp [hS]
 refine CallT.enter (args := _) Tryz.func215 rfl rfl (by kernel_rfl) rfl ?_
 refine WP.sr (RG.p (PV.asg rfl rfl) (RG.nil (WP.sr ?_)))
 refine RG.ot rfl (OT.bslice (F := (slT (α := Bool))) (els := []) rfl El194 rfl (by decide) rfl (by decide) trivial fun v10 => ?_)
 refine RG.p (PV.asg (v := v10) rfl rfl) (RG.nil (WP.sr ?_))
 refine RG.ot rfl (OT.bslice (F := boolT) (els := []) rfl El148 rfl (by decide) rfl (by decide) trivial fun v11 => ?_)
 refine RG.p (PV.move (v := v) rfl rfl) ?_
 refine RG.ot rfl (OT.append (v := v11) (u := v) (F := boolT) rfl El148 rfl (by decide) rfl rfl (Rs.up h1) (OneL.c (fun _ => rfl)) rfl (by first | omega | (simp <;> omega)) fun v13 => ?_)
 refine RG.p (PV.asg (v := v13) rfl rfl) (RG.nil (WP.seq (WP.sr (RG.mr rfl (RG.nil (WP.block ?_))))))
 refine WP.cv (((Cv.p (C := osl 148 slT v10 ([] : List (Sl Bool)) :: osl 4 boolT v13 ([] ++ S) :: L)).trans (Cv.cons (Cv.bag0 (e := 4) (F := boolT) (xs := []) rfl))).trans (Cv.cast (by rw [List.nil_append]))) ?_
 refine WP.loop4 [0, 4] (fun (yy : Int) (T : List Bool) (zs : List (Sl Bool)) (q : Value) => (-40 <= yy ∧ yy <= 40) ∧ PI id S ((yy + 40).toNat * 80) T (er zs)) (fun (yy : Int) (T : List Bool) (zs : List (Sl Bool)) (q : Value) => [(5, vi yy), (3, q)]) (fun (yy : Int) (T : List Bool) (zs : List (Sl Bool)) (q : Value) => osl 4 boolT v13 T :: osl 148 slT q zs :: bagS 4 boolT zs :: L) (fun (yy : Int) (T : List Bool) (zs : List (Sl Bool)) (q : Value) => (40 - yy).toNat) (-40) S [] v10 ⟨by omega, PI.start hS⟩ ⟨rfl, rfl, trivial⟩ Cv.p ?_
 rintro yy T zs q τ ⟨hy, hP⟩
 refine WP.seq (WP.sr (RG.ml rfl (RG.p (PV.lss rfl rfl rfl) (RG.nil ?_))))
 obtain ⟨y, rfl⟩ : ∃ n : Nat, yy = (n : Int) - 40 := ⟨(yy + 40).toNat, by omega⟩
 rw [show ((y : Int) - 40 + 40).toNat = y by omega] at hP
 refine WP.cond rfl (fun h2 => ?_) fun h2 => ?_
 ·have h2 := odt h2
  refine WP.skip (WP.seq (WP.block (WP.sr (RG.mr rfl (RG.nil (WP.block ?_))))))
  refine WP.loop4 [0, 4, 5] (fun (xx : Int) (T1 : List Bool) (zs1 : List (Sl Bool)) (q1 : Value) => (-40 <= xx ∧ xx <= 40) ∧ PI id S (y * 80 + (xx + 40).toNat) T1 (er zs1)) (fun (xx : Int) (T1 : List Bool) (zs1 : List (Sl Bool)) (q1 : Value) => [(6, vi xx), (3, q1)]) (fun (xx : Int) (T1 : List Bool) (zs1 : List (Sl Bool)) (q1 : Value) => osl 4 boolT v13 T1 :: osl 148 slT q1 zs1 :: bagS 4 boolT zs1 :: L) (fun (xx : Int) (T1 : List Bool) (zs1 : List (Sl Bool)) (q1 : Value) => (40 - xx).toNat) (-40) T zs q ⟨by omega, by rw [show ((-40 : Int) + 40).toNat = 0 from rfl]; exact hP⟩ ⟨rfl, rfl, trivial⟩ Cv.p ?_
  rintro xx T1 zs1 q1 τ1 ⟨hx, hP1⟩
  refine WP.seq (WP.sr (RG.ml rfl (RG.p (PV.lss rfl rfl rfl) (RG.nil ?_))))
  obtain ⟨x, rfl⟩ : ∃ n : Nat, xx = (n : Int) - 40 := ⟨(xx + 40).toNat, by omega⟩
  rw [show ((x : Int) - 40 + 40).toNat = x by omega] at hP1
  refine WP.cond rfl (fun h3 => ?_) fun h3 => ?_
  ·have h3 := odt h3
   have hl1 := hP1.len
   have hzl : zs1.length <= y * 80 + x := by
    have := congrArg List.length hP1.er
    have h1 := firsts_len S (y * 80 + x)
    rw [er_len, List.length_map] at this; omega
   have e1 : (y * 80 + x) / 80 = y := by omega
   have e2 : (y * 80 + x) % 80 = x := by omega
   have e3 : cel (y * 80 + x) = (y, x) := by rw [cel, e1, e2]
   have e4 : ((x : Int) - 40 + 1 + 40).toNat = x + 1 := by omega
   refine WP.skip (WP.seq (WP.block (WP.seq (WP.sr (RG.p (PV.move (v := v13) rfl rfl) (RG.ml rfl (RG.ml rfl ?_)))))))
   refine RG.callF (vs := [_, _]) rfl rfl En240 rfl (l17At_s (by omega) (by omega) ?_)
   refine RG.p (PV.idxS (j := y * 80 + x) (v := v13) rfl Is148 rfl SlF.o rfl (by omega) (by omega)) (RG.p (PV.loadE1 rfl Sc4 rfl rfl (El.o (getG (by omega))) rfl) (RG.p (PV.not rfl rfl) (RG.nil ?_)))
   refine WP.cond rfl (fun h4 => ?_) fun h4 => ?_
   ·have h5 : gb T1 y x = false := by rw [gb]; simpa using h4
    refine WP.exit (WP.region (RG.ml rfl (RG.p (PV.add rfl rfl rfl (by omega)) (RG.mr rfl (RG.nil ?_)))))
    exact ⟨rfl, (x : Int) - 40 + 1, T1, zs1, q1, ⟨by omega, by rw [e4]; exact hP1.skip (by omega) (by rw [e1, e2]; exact h5)⟩, ⟨rfl, rfl, trivial⟩, ⟨rfl, rfl, rfl, trivial⟩, Cv.p, by omega⟩
   ·have h5 : gb T1 y x = true := by rw [gb]; simpa using h4
    refine WP.skip (WP.sr (RG.p (PV.move (v := v13) rfl rfl) (RG.ml rfl (RG.ml rfl ?_))))
    refine RG.callF (vs := [v13, _, _]) rfl rfl En242 rfl (visit_s (x := (x : Int)) (y := (y : Int)) Rs.o hl1 (by omega) (by omega) (by rw [Int.toNat_natCast, Int.toNat_natCast]; exact h5) (fun v32 Q hQ => ?_))
    refine RG.p (PV.asg (v := v32) rfl rfl) (RG.nil (WP.sr (RG.p (PV.move (v := v) rfl rfl) (RG.p (PV.len (v := v) rfl Tryz.underlying148 rfl (SlF.r h1)) ?_))))
    refine RG.ot rfl (OT.make (F := boolT) (a0 := false) rfl El148 rfl (by decide) rfl rfl (by omega) (by omega) fun v35 => ?_)
    refine RG.p (PV.asg (v := v35) rfl rfl) (RG.nil (WP.seq (WP.sr (RG.mr rfl (RG.nil (WP.block ?_))))))
    rw [Int.toNat_natCast, Int.toNat_natCast, <- e3] at hQ
    have hQl := hQ.len_le
    have hml : (Q.map ptOf).length = Q.length := by simp
    refine WP.loop3 [0, 3, 4, 5, 6, 7, 8] (fun (i : Nat) (P U : List Bool) => i <= Q.length ∧ PQ Q i P ∧ MQ T1 P U) (fun (i : Nat) (P U : List Bool) => [(9, vi i)]) (fun (i : Nat) (P U : List Bool) => osl 4 boolT v35 P :: osl 4 boolT v13 U :: osl 156 ptT v32 (Q.map ptOf) :: osl 148 slT q1 zs1 :: bagS 4 boolT zs1 :: L) (fun (i : Nat) (P U : List Bool) => Q.length - i) 0 (List.replicate S.length false) T1 ⟨by omega, by rw [hS]; exact PQ.zero Q, by rw [hS]; exact MQ.zero hl1⟩ ⟨rfl, trivial⟩ Cv.p ?_
    rintro i P U τ2 ⟨hi, hPQ, hMQ⟩
    refine WP.seq (WP.sr (RG.ml rfl (RG.p (PV.move (v := v32) rfl rfl) (RG.p (PV.len (v := v32) rfl Tryz.underlying239 rfl SlF.o) (RG.p (PV.lss rfl rfl rfl) (RG.nil ?_))))))
    refine WP.cond rfl (fun h6 => ?_) fun h6 => ?_
    ·have h6 := odt h6
     have hPl := hPQ.1
     have hUl := hMQ.1
     have hbq := hQ.bd i (by omega)
     have e5 : gd (Q.map ptOf) i = ⟨(gd Q i).1 - 40, (gd Q i).2 - 40⟩ := gd_pt (by omega)
     have ex : (gd (Q.map ptOf) i).x = (gd Q i).1 - 40 := by rw [e5]
     have ey : (gd (Q.map ptOf) i).y = (gd Q i).2 - 40 := by rw [e5]
     refine WP.skip (WP.seq (WP.block (WP.seq ?_)))
     refine WP.regionHD [.s v35] (.q 0 (.q 1 (.q 2 (.q 3 (.q 4 (.q 5 (.q 6 (.q 7 (.q 8 (.q 9 (.q 10 (.l 11 (.l 12 (.l 13 Sch.nil)))))))))))))) (by kernel_rfl) (by kernel_rfl) (by kernel_rfl) rfl ?_
     refine RH.w rfl rfl (PV.move (v := v35) rfl rfl) (RH.w rfl rfl (PV.move (v := v32) rfl rfl) (RH.w rfl rfl (PV.mvI (.inl rfl) rfl) (RH.w rfl rfl (PV.idxS (v := v32) rfl Is239 rfl SlF.o rfl rfl (by omega)) (RH.w rfl rfl (PV.field rfl Fo156_0 rfl) (RH.w rfl rfl (PV.loadF rfl Sc2 rfl rfl (El.o (getG (by omega))) rfl) (RH.w rfl rfl (PV.move (v := v32) rfl rfl) (RH.w rfl rfl (PV.mvI (.inl rfl) rfl) (RH.w rfl rfl (PV.idxS (v := v32) rfl Is239 rfl SlF.o rfl rfl (by omega)) (RH.w rfl rfl (PV.field rfl Fo156_1 rfl) (RH.w rfl rfl (PV.loadF rfl Sc2 rfl rfl (El.o (getG (by omega))) rfl) ?_))))))))))
     refine RH.ot rfl rfl (OT.callF (vs := [_, _]) rfl En240 rfl (l17At_s (by omega) (by omega) (kp ?_)))
     refine RH.ot rfl rfl (OT.pv (PV.idxS (j := (gd Q i).2.toNat * 80 + (gd Q i).1.toNat) (v := v35) rfl Is148 rfl SlF.o rfl (by omega) (by omega)) (kp ?_))
     refine RH.ot rfl rfl (OT.storeE (F := boolT) rfl Sz4 rfl rfl rfl (Cl.c rfl) (OneC.c rfl) (by omega) (kp ?_))
     refine RH.nil ?_
     refine WP.regionHD [.s v13] (.q 0 (.q 1 (.q 2 (.q 3 (.q 4 (.q 5 (.q 6 (.q 7 (.q 8 (.q 9 (.q 10 (.l 11 (.l 12 (.l 13 Sch.nil)))))))))))))) (by kernel_rfl) (by kernel_rfl) (by kernel_rfl) rfl ?_
     refine RH.w rfl rfl (PV.move (v := v13) rfl rfl) (RH.w rfl rfl (PV.move (v := v32) rfl rfl) (RH.w rfl rfl (PV.mvI (.inl rfl) rfl) (RH.w rfl rfl (PV.idxS (v := v32) rfl Is239 rfl SlF.o rfl rfl (by omega)) (RH.w rfl rfl (PV.field rfl Fo156_0 rfl) (RH.w rfl rfl (PV.loadF rfl Sc2 rfl rfl (El.o (getG (by omega))) rfl) (RH.w rfl rfl (PV.move (v := v32) rfl rfl) (RH.w rfl rfl (PV.mvI (.inl rfl) rfl) (RH.w rfl rfl (PV.idxS (v := v32) rfl Is239 rfl SlF.o rfl rfl (by omega)) (RH.w rfl rfl (PV.field rfl Fo156_1 rfl) (RH.w rfl rfl (PV.loadF rfl Sc2 rfl rfl (El.o (getG (by omega))) rfl) ?_))))))))))
     refine RH.ot rfl rfl (OT.callF (vs := [_, _]) rfl En240 rfl (l17At_s (by omega) (by omega) (kp ?_)))
     refine RH.ot rfl rfl (OT.pv (PV.idxS (j := (gd Q i).2.toNat * 80 + (gd Q i).1.toNat) (v := v13) rfl Is148 rfl SlF.o rfl (by omega) (by omega)) (kp ?_))
     refine RH.ot rfl rfl (OT.storeE (F := boolT) rfl Sz4 rfl rfl rfl (Cl.c rfl) (OneC.c rfl) (by omega) (kp ?_))
     refine RH.nil (WP.region (RG.ml rfl (RG.p (PV.add rfl rfl rfl (by omega)) (RG.mr rfl (RG.nil ?_)))))
     exact ⟨rfl, i + 1, (P.set ((gd Q i).2.toNat * 80 + (gd Q i).1.toNat) true), (U.set ((gd Q i).2.toNat * 80 + (gd Q i).1.toNat) false), ⟨by omega, hPQ.step hbq, hMQ.step hPl (by omega) (by omega)⟩, ⟨rfl, trivial⟩, ⟨rfl, rfl, rfl, rfl, rfl, rfl, rfl, trivial⟩, Cv.p, by omega⟩
    ·have h6 := odf h6
     obtain rfl : i = Q.length := by omega
     obtain rfl := hPQ.final hQ
     refine WP.exit (WP.region (RG.p (PV.move (v := q1) rfl rfl) (RG.p (PV.move (v := v35) rfl rfl) ?_)))
     refine RG.ot rfl (OT.bslice (F := (slT (α := Bool))) (els := [⟨v35, compB T1 (cel (y * 80 + x))⟩]) rfl El194 rfl (by decide) rfl (by decide) ⟨rfl, (Cl.s (v := v35) SlF.o), trivial⟩ fun v70 => ?_)
     refine RG.ot rfl (OT.append (v := q1) (u := v70) (F := (slT (α := Bool))) rfl El194 rfl (by decide) rfl rfl Rs.o (OneL.one (OneC.sl SlF.o OneC.nil)) rfl (by first | omega | (simp <;> omega)) fun v71 => ?_)
     refine RG.p (PV.asg (v := v71) rfl rfl) (RG.nil (WP.region (RG.ml rfl (RG.p (PV.add rfl rfl rfl (by omega)) (RG.mr rfl (RG.nil ?_))))))
     refine ⟨rfl, (x : Int) - 40 + 1, U, (zs1 ++ [⟨v35, compB T1 (cel (y * 80 + x))⟩]), v71, ⟨by omega, ?_⟩, ⟨rfl, rfl, trivial⟩, ⟨rfl, rfl, rfl, trivial⟩, ((Cv.p (C := osl 4 boolT v35 (compB T1 (cel (y * 80 + x))) :: bagS 4 boolT zs1 :: osl 4 boolT v13 U :: osl 148 slT v71 (zs1 ++ [⟨v35, compB T1 (cel (y * 80 + x))⟩]) :: L)).trans (Cv.bagS_add.trans Cv.p)), by omega⟩
     rw [e4, er, List.map_append]
     exact hP1.take (by omega) (by rw [e1, e2]; exact h5) hMQ.1 hMQ.2
  ·have h3 := odf h3
   obtain rfl : x = 80 := by omega
   refine WP.exit (WP.region (RG.ml rfl (RG.p (PV.add rfl rfl rfl (by omega)) (RG.mr rfl (RG.nil ?_)))))
   exact ⟨rfl, (y : Int) - 40 + 1, T1, zs1, q1, ⟨by omega, by rw [show ((y : Int) - 40 + 1 + 40).toNat = y + 1 by omega, Nat.add_mul]; exact hP1⟩, ⟨rfl, rfl, trivial⟩, ⟨rfl, rfl, trivial⟩, Cv.p, by omega⟩
 ·have h2 := odf h2
  obtain rfl : y = 80 := by omega
  have hz := hP.all
  refine WP.exit (WP.sr (RG.p (PV.move (v := q) rfl rfl) (RG.p (PV.asg (v := q) rfl rfl) (RG.nil ?_))))
  exact WP.ret ⟨_, _, rv rfl rfl, Cv.p, k q zs hz⟩
end Go.Proofs.YtogocmlhnjiaaaaGreat
