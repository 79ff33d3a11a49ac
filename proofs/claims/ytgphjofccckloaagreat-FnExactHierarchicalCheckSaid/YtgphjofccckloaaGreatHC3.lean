/-
  Contracts of functions and plain facts that the last text of this folder uses, part 3.
-/
import Derived.Test.YtgphjofccckloaaGreatHC2
set_option linter.unusedVariables false
set_option linter.unusedSimpArgs false
namespace Go.Proofs.YtgphjofccckloaaGreat
open Go
set_option maxRecDepth 20000
variable {G : Gh} {L : List Ch} {R : Value → Gh → List Ch → Prop}
def cmpI (x y : Int) : Int := if x < y then -1 else if y < x then 1 else 0
def orI : List Int → Int
  | [] => 0
  | x :: l => if x ≠ 0 then x else orI l
def cmpR (a b : Rect) : Int := orI [cmpI a.y0 b.y0, cmpI a.x0 b.x0, cmpI a.y1 b.y1, cmpI a.x1 b.x1]
theorem orI_zero : ∀ {xs : List Int} {i : Nat}, (∀ j, j < i → gd xs j = 0) → orI xs = orI (xs.drop i)
 | xs, 0, _ => by simp
 | [], i + 1, _ => by simp
 | x :: xs, i + 1, h => by
  have h0 : x = 0 := by have := h 0 (by omega); simpa [gd] using this
  rw [List.drop_succ_cons, orI, if_neg (by simp [h0])]
  exact orI_zero fun j hj => by have := h (j + 1) (by omega); simpa [gd] using this
theorem orI_at {xs : List Int} {i : Nat} (hi : i < xs.length) (h : ∀ j, j < i → gd xs j = 0) (hx : gd xs i ≠ 0) : orI xs = gd xs i := by
 rw [orI_zero h, List.drop_eq_getElem_cons hi, ← gd_eq hi, orI, if_pos hx]
theorem orI_all {xs : List Int} (h : ∀ j, j < xs.length → gd xs j = 0) : orI xs = 0 := by
 rw [orI_zero h]; simp [orI]
theorem cmpOr_s {v : Value} {xs : List Int} (h1 : Rs G L intT v xs) (k : R (vi (orI xs)) G L) : CallT Tryz.prog 278 #[v] G L R := by
 refine CallT.bd h1 fun hb => ?_
 refine CallT.enter (args := _) Tryz.func278 rfl rfl (by kernel_rfl) rfl ?_
 refine WP.sr (RG.mr rfl (RG.nil (WP.sr (RG.mr rfl (RG.nil (WP.seq (WP.sr (RG.p (PV.move (v := v) rfl rfl) (RG.p (PV.len (v := v) rfl Tryz.underlying310 rfl (SlF.r h1)) (RG.ml rfl ?_))))))))))
 refine RG.nil (WP.block ?_)
 refine WP.loop1 [3, 6, 7] (fun i => i ≤ xs.length ∧ ∀ j, j < i → gd xs j = 0) (fun i => [(8, vi i)]) (fun i => L) (fun i => xs.length - i) 0 ⟨by omega, fun j h => by omega⟩ ⟨rfl, trivial⟩ Cv.p ?_
 rintro i τ ⟨hi, hj⟩
 refine WP.sr (RG.p (PV.lss rfl rfl rfl) (RG.nil (WP.seq ?_)))
 refine WP.cond rfl (fun h2 => ?_) (fun h2 => ?_)
 ·have h2 := of_decide_eq_true h2
  refine WP.skip (WP.seq (WP.block (WP.sr (RG.p (PV.idxS (v := v) rfl Is310 rfl (SlF.r h1) rfl rfl (by omega)) (RG.p (PV.loadE1 rfl Sc3 rfl rfl (El.r h1 (getG (by omega))) rfl) (RG.mr rfl (RG.nil (WP.sr (RG.ml rfl (RG.ml rfl (RG.p (PV.neq rfl rfl rfl) ?_)))))))))))
  refine RG.nil ?_
  refine WP.cond rfl (fun h3 => ?_) (fun h3 => ?_)
  ·have h3 : gd xs i ≠ 0 := by simpa using h3
   rw [orI_at (by omega) hj h3] at k
   refine WP.sr (RG.ml rfl (RG.mr rfl (RG.nil ?_)))
   exact WP.ret ⟨_, _, ResV.one rfl rfl, Cv.p, k⟩
  ·have h3 : gd xs i = 0 := by simpa using h3
   have hj' : ∀ j, j < i + 1 → gd xs j = 0 := fun j h => by
    by_cases c : j = i
    ·rw [c]; exact h3
    ·exact hj j (by omega)
   refine WP.skip (WP.region (RG.p (PV.add rfl rfl rfl (by omega)) (RG.ml rfl (RG.nil ?_))))
   exact ⟨rfl, i + 1, ⟨by omega, hj'⟩, ⟨rfl, trivial⟩, ⟨rfl, rfl, rfl, trivial⟩, Cv.p, by omega⟩
 ·have h2 := of_decide_eq_false h2
  rw [orI_all (fun j h => hj j (by omega))] at k
  refine WP.exit ?_
  refine WP.sr (RG.ml rfl (RG.mr rfl (RG.nil ?_)))
  exact WP.ret ⟨_, _, ResV.one rfl rfl, Cv.p, k⟩
theorem isNaN_s {a : Int} (k : R (.bool false) G L) : CallT Tryz.prog 290 #[vi a] G L R := by
 have e : (!decide (a = a)) = false := by simp
 refine CallT.enter (args := _) Tryz.func290 rfl rfl (by kernel_rfl) rfl ?_
 refine WP.sr (RG.br rfl (RG.nil (WP.sr (RG.ml rfl (RG.ml rfl (RG.p (PV.neq rfl rfl rfl) (RG.br rfl (RG.nil ?_))))))))
 exact WP.ret ⟨_, _, ResV.one rfl rfl, Cv.p, (by rw [e]; exact k)⟩
theorem cmp_s {a b : Int} (k : R (vi (cmpI a b)) G L) : CallT Tryz.prog 279 #[vi a, vi b] G L R := by
 refine CallT.enter (args := _) Tryz.func279 rfl rfl (by kernel_rfl) rfl ?_
 refine WP.sr (RG.mr rfl (RG.nil (WP.sr (RG.ml rfl ?_))))
 refine RG.callF (vs := [_]) rfl rfl En290 rfl (isNaN_s ?_)
 refine RG.br rfl (RG.nil (WP.sr (RG.ml rfl ?_)))
 refine RG.callF (vs := [_]) rfl rfl En290 rfl (isNaN_s ?_)
 refine RG.br rfl (RG.nil (WP.seq (WP.sr (RG.bl rfl (RG.nil ?_)))))
 refine WP.cond rfl (fun h => ?_) (fun h => ?_)
 ·cases h
 ·refine WP.skip ?_
  refine WP.seq (WP.sr (RG.bl rfl (RG.nil ?_)))
  refine WP.cond rfl (fun h => ?_) (fun h => ?_)
  ·cases h
  ·refine WP.skip ?_
   refine WP.seq (WP.sr (RG.ml rfl (RG.ml rfl (RG.p (PV.lss rfl rfl rfl) (RG.nil ?_)))))
   refine WP.cond rfl (fun h1 => ?_) (fun h1 => ?_)
   ·rw [cmpI, if_pos (of_decide_eq_true h1)] at k
    refine WP.sr (RG.mr rfl (RG.nil ?_))
    exact WP.ret ⟨_, _, ResV.one rfl rfl, Cv.p, k⟩
   ·have h1 := of_decide_eq_false h1
    refine WP.skip (WP.seq (WP.sr (RG.ml rfl (RG.ml rfl (RG.p (PV.gtr rfl rfl rfl) (RG.nil ?_))))))
    refine WP.cond rfl (fun h2 => ?_) (fun h2 => ?_)
    ·rw [cmpI, if_neg h1, if_pos (of_decide_eq_true h2)] at k
     refine WP.sr (RG.mr rfl (RG.nil ?_))
     exact WP.ret ⟨_, _, ResV.one rfl rfl, Cv.p, k⟩
    ·rw [cmpI, if_neg h1, if_neg (of_decide_eq_false h2)] at k
     refine WP.skip (WP.sr (RG.mr rfl (RG.nil ?_)))
     exact WP.ret ⟨_, _, ResV.one rfl rfl, Cv.p, k⟩
theorem compareRects_s {a b : Rect} (k : R (vi (cmpR a b)) G L) : CallT Tryz.prog 262 #[.agg #[vi a.x0, vi a.y0, vi a.x1, vi a.y1], .agg #[vi b.x0, vi b.y0, vi b.x1, vi b.y1]] G L R := by
 refine CallT.enter (args := _) Tryz.func262 rfl rfl (by kernel_rfl) rfl ?_
 refine WP.sr ?_
 refine RG.ot rfl (OT.box rfl rfl rfl fun b2 => ?_)
 refine RG.ot rfl (OT.box rfl rfl rfl fun b3 => ?_)
 refine RG.mr rfl (RG.nil (WP.seq ?_))
 refine WP.regionH0 (.q 0 (.q 1 (.q 2 (.q 3 (.q 5 (.q 6 (.q 7 (.q 8 (.q 10 (.q 11 (.q 12 (.q 13 (.q 15 (.q 16 (.q 17 (.q 18 (.l 4 (.l 9 (.l 14 (.l 19 (.l 20 (.l 21 (.q 22 Sch.nil))))))))))))))))))))))) (by kernel_rfl) (by kernel_rfl) (by kernel_rfl) rfl ?_
 refine RH.w rfl rfl (PV.field rfl Fo91_1 rfl) (RH.w rfl rfl (PV.load1 rfl Sc2 rfl (Rd.blk rfl)) (RH.w rfl rfl (PV.field rfl Fo91_1 rfl) (RH.w rfl rfl (PV.load1 rfl Sc2 rfl (Rd.blk rfl)) (RH.w rfl rfl (PV.field rfl Fo91_0 rfl) (RH.w rfl rfl (PV.load1 rfl Sc2 rfl (Rd.blk rfl)) (RH.w rfl rfl (PV.field rfl Fo91_0 rfl) (RH.w rfl rfl (PV.load1 rfl Sc2 rfl (Rd.blk rfl)) (RH.w rfl rfl (PV.field rfl Fo91_3 rfl) (RH.w rfl rfl (PV.load1 rfl Sc2 rfl (Rd.blk rfl)) (RH.w rfl rfl (PV.field rfl Fo91_3 rfl) (RH.w rfl rfl (PV.load1 rfl Sc2 rfl (Rd.blk rfl)) (RH.w rfl rfl (PV.field rfl Fo91_2 rfl) (RH.w rfl rfl (PV.load1 rfl Sc2 rfl (Rd.blk rfl)) ?_)))))))))))))
 refine RH.w rfl rfl (PV.field rfl Fo91_2 rfl) (RH.w rfl rfl (PV.load1 rfl Sc2 rfl (Rd.blk rfl)) ?_)
 refine RH.ot rfl rfl (OT.callF (vs := [_, _]) rfl En279 rfl (cmp_s ⟨Gh.le_refl _, PickC.pick, ?_⟩))
 refine RH.ot rfl rfl (OT.callF (vs := [_, _]) rfl En279 rfl (cmp_s ⟨Gh.le_refl _, PickC.pick, ?_⟩))
 refine RH.ot rfl rfl (OT.callF (vs := [_, _]) rfl En279 rfl (cmp_s ⟨Gh.le_refl _, PickC.pick, ?_⟩))
 refine RH.ot rfl rfl (OT.callF (vs := [_, _]) rfl En279 rfl (cmp_s ⟨Gh.le_refl _, PickC.pick, ?_⟩))
 refine RH.ot rfl rfl (OT.bslice (F := intT) (els := [_, _, _, _]) rfl El310 rfl (by decide) rfl (by decide) ⟨rfl, (Cl.c rfl), ⟨rfl, (Cl.c rfl), ⟨rfl, (Cl.c rfl), ⟨rfl, (Cl.c rfl), trivial⟩⟩⟩⟩ fun v25 => ⟨Gh.le_refl _, PickC.pick, ?_⟩)
 refine RH.ot rfl rfl (OT.callF (vs := [v25]) rfl En278 rfl (cmpOr_s Rs.o ⟨Gh.le_refl _, PickC.pick, ?_⟩))
 refine RH.w rfl rfl (PV.mvI (.inr rfl) rfl) ?_
 refine RH.nil ?_
 exact WP.ret ⟨_, _, ResV.one rfl rfl, Cv.p, k⟩
theorem partsCmp_s {v u : Value} {xs ys : List Rect} (h1 : Rs G L rectT v xs) (h2 : Rs G L rectT u ys) (hx : 0 < xs.length) (hy : 0 < ys.length) (k : R (vi (cmpR (gd xs 0) (gd ys 0))) G L) : CallT Tryz.prog 261 #[v, u] G L R := by
 refine CallT.enter (args := _) Tryz.func261 rfl rfl (by kernel_rfl) rfl ?_
 refine WP.sr (RG.mr rfl (RG.nil (WP.seq ?_)))
 refine WP.regionQ (by kernel_rfl) (by kernel_rfl) ?_
 refine RQ.pv rfl (PV.move (v := v) rfl rfl) (RQ.pv rfl (PV.idxS (j := 0) (v := v) rfl Is50 rfl (SlF.r h1) rfl (by omega) (by omega)) (RQ.pv rfl (PV.loadE rfl Ag91 rfl rfl (El.r h1 (getG (by omega)))) (RQ.pv rfl (PV.move (v := u) rfl rfl) (RQ.pv rfl (PV.idxS (j := 0) (v := u) rfl Is50 rfl (SlF.r h2) rfl (by omega) (by omega)) (RQ.pv rfl (PV.loadE rfl Ag91 rfl rfl (El.r h2 (getG (by omega)))) ?_)))))
 refine RQ.callF (vs := [_, _]) rfl rfl En262 rfl (compareRects_s ⟨rfl, rfl, rfl⟩) ?_
 refine RQ.pv rfl (PV.mvI (.inr rfl) rfl) ?_
 refine RQ.nil ?_
 exact WP.ret ⟨_, _, ResV.one rfl rfl, Cv.p, k⟩
theorem parts_len {S : List Bool} {zs : List (Sl Rect)} (h : er zs = partsL S) : zs.length ≤ 6400 := by
 have := congrArg List.length h
 have h1 := firsts_len S 6400
 rw [er_len, partsL_len] at this; omega
theorem parts_at {S : List Bool} {zs : List (Sl Rect)} (h : er zs = partsL S) {i : Nat} (hi : i < zs.length) : i < (firsts S 6400).length ∧ (gd zs i).xs = canon (compB S (cel (gd (firsts S 6400) i))) := by
 have := congrArg List.length h
 rw [er_len, partsL_len] at this
 refine ⟨by omega, ?_⟩
 rw [← er_gd, h, partsL_gd (by omega)]
theorem parts_ne {S : List Bool} {zs : List (Sl Rect)} (h : er zs = partsL S) {i : Nat} (hi : i < zs.length) : 0 < (gd zs i).xs.length := by
 obtain ⟨h1, h2⟩ := parts_at h hi
 rw [h2]; exact (canon_first (firsts_first h1)).1
theorem parts_lt {S : List Bool} {zs : List (Sl Rect)} (h : er zs = partsL S) {i j : Nat} (hij : i < j) (hj : j < zs.length) : ¬ cmpR (gd (gd zs j).xs 0) (gd (gd zs i).xs 0) < 0 := by
 obtain ⟨h1, h2⟩ := parts_at h (i := i) (by omega)
 obtain ⟨h3, h4⟩ := parts_at h hj
 obtain ⟨_, a1, a2⟩ := canon_first (firsts_first h1)
 obtain ⟨_, a3, a4⟩ := canon_first (firsts_first h3)
 have h5 := firsts_lt hij h3
 rw [h2, h4, cmpR, a1, a2, a3, a4]
 simp only [orI, cmpI]
 split <;> split <;> (try split) <;> (try split) <;> (try split) <;> omega
theorem pi_zlen {S T : List Bool} {n : Nat} {zs : List (Sl Rect)} (h : PI canon S n T (er zs)) : zs.length ≤ n := by
 have := congrArg List.length h.er
 have h1 := firsts_len S n
 rw [er_len, List.length_map] at this; omega
theorem bv_len (bs : List Bool) : (bv bs).length = bs.length := by simp [bv]
theorem take6400 {S : List Bool} (h : S.length = 6400) : (S.drop 0).take 6400 = S := by rw [List.drop_zero, List.take_of_length_le (by omega)]
theorem allOne_bv (bs : List Bool) : allOne (bv bs) = true := by simp [allOne, bv, Value.oneCell']
theorem OT.storeGG {P : Program} {n : Nat} {σ : Nat → Value} {o : Oper} {K : (Nat → Value) → Gh → List Ch → Prop} {b : Nat} {t e : TypeId} {x y : Operand} {cs : List Value} {bs : List Bool} {L' : List Ch} (ho : o.op = .store t x y) (hS : ∀ w, (sizeOf t).run P w = .ok 6400 w) (hx : ev σ x = .pointer (some ⟨b, 0, none⟩)) (hy : ev σ y = .agg (bv bs).toArray) (hl : bs.length = 6400) [hX : ExB b L e cs L'] (hc : cs.length = 6400) (k : K (updo σ o.dst undef) G (blk b e (bv bs) :: L')) : OT P n o σ G L K :=
 OT.storeW ho hS hx hy (Cl.c (by simp [Value.cells])) (by simp [bv, hl]) hc (OneC.c (allOne_bv bs)) k
set_option maxHeartbeats 1000000 in
theorem parts_s {b : Nat} {S : List Bool} (hS : S.length = 6400) (k : ∀ v zs, er zs = partsL S → R v G (osl 50 slT v zs :: bagS 91 rectT zs :: grd b S :: L)) : CallT Tryz.prog 227 #[.pointer (some ⟨b, 0, none⟩), .bool false] G (grd b S :: L) R := by
 refine CallT.enter (args := _) Tryz.func227 rfl rfl (by kernel_rfl) rfl ?_
 refine WP.sr (RG.p (PV.asg rfl rfl) (RG.nil ?_))
 refine WP.cut2 [1] (fun (o : Value) (b6 : Nat) => True) (fun (o : Value) (b6 : Nat) => [(5, o), (6, .pointer (some ⟨b6, 0, none⟩))]) (fun (o : Value) (b6 : Nat) => grd b6 S :: osl 50 slT o ([] : List (Sl Rect)) :: grd b S :: L) ?_ ?_
 refine WP.regionH0 (.q 1 (.q 2 (.q 3 (.b 0 (.l 4 (.q 5 (.l 6 Sch.nil))) 4 (.l 0 (.q 5 (.l 6 Sch.nil))))))) (by kernel_rfl) (by kernel_rfl) (by kernel_rfl) rfl ?_
 refine RH.w rfl rfl (PV.mvP (.inl rfl) rfl) (RH.w rfl rfl (PV.nilc rfl rfl) (RH.w rfl rfl (PV.loadRow rfl Ag179 rfl rfl (by omega)) ?_))
 ·refine RH.ot2 rfl rfl rfl rfl  (OT.bslice (F := (slT (α := Rect))) (els := []) rfl El71 rfl (by decide) rfl (by decide) trivial fun v12 => ⟨Gh.le_refl _, PickC.pick, ?_⟩) (OT.alloc rfl (zeroB_spec (n := 6400) (by kernel_rfl)) fun b6 => ⟨Gh.le_refl _, PickC.pick, ?_⟩)
  ·refine RH.ot rfl rfl (OT.alloc rfl (zeroB_spec (n := 6400) (by kernel_rfl)) fun b6 => ⟨Gh.le_refl _, PickC.pick, ?_⟩)
   refine RH.w rfl rfl (PV.asg (v := v12) rfl rfl) ?_
   refine RH.ot rfl rfl (OT.storeGG rfl Sz179 rfl rfl (by first | omega | (simp <;> omega)) (by first | assumption | rw [bv_len, List.length_replicate]) ⟨Gh.le_refl _, PickC.pick, ?_⟩)
   refine RH.nil ?_
   exact ⟨rfl, v12, b6, trivial, ⟨rfl, rfl, trivial⟩, ⟨rfl, trivial⟩, (Cv.p (C := grd b6 ((S.drop 0).take 6400) :: osl 50 slT v12 ([] : List (Sl Rect)) :: grd b S :: L)).trans (Cv.cast (by rw [take6400 hS]))⟩
  ·refine RH.ot rfl rfl (OT.bslice (F := (slT (α := Rect))) (els := []) rfl El71 rfl (by decide) rfl (by decide) trivial fun v12 => ⟨Gh.le_refl _, PickC.pick, ?_⟩)
   refine RH.w rfl rfl (PV.asg (v := v12) rfl rfl) ?_
   refine RH.ot rfl rfl (OT.storeGG rfl Sz179 rfl rfl (by first | omega | (simp <;> omega)) (by first | assumption | rw [bv_len, List.length_replicate]) ⟨Gh.le_refl _, PickC.pick, ?_⟩)
   refine RH.nil ?_
   exact ⟨rfl, v12, b6, trivial, ⟨rfl, rfl, trivial⟩, ⟨rfl, trivial⟩, (Cv.p (C := grd b6 ((S.drop 0).take 6400) :: osl 50 slT v12 ([] : List (Sl Rect)) :: grd b S :: L)).trans (Cv.cast (by rw [take6400 hS]))⟩
 ·rintro o b6 τ _
  refine WP.seq (WP.sr (RG.ml rfl (RG.nil (WP.block ?_))))
  refine WP.cv ((Cv.p (C := osl 50 slT o ([] : List (Sl Rect)) :: grd b6 S :: grd b S :: L)).trans (Cv.cons (Cv.bag0 (e := 91) (F := rectT) (xs := []) rfl))) ?_
  refine WP.loop4 [1, 6] (fun (y : Nat) (T : List Bool) (zs : List (Sl Rect)) (q : Value) => y ≤ 80 ∧ PI canon S (y * 80) T (er zs)) (fun (y : Nat) (T : List Bool) (zs : List (Sl Rect)) (q : Value) => [(16, vi y), (5, q)]) (fun (y : Nat) (T : List Bool) (zs : List (Sl Rect)) (q : Value) => grd b6 T :: osl 50 slT q zs :: bagS 91 rectT zs :: grd b S :: L) (fun (y : Nat) (T : List Bool) (zs : List (Sl Rect)) (q : Value) => 80 - y) 0 S [] o ⟨by omega, PI.start hS⟩ ⟨rfl, rfl, trivial⟩ Cv.p ?_
  rintro y T zs q τ ⟨hy, hP⟩
  refine WP.sr (RG.p (PV.lss rfl rfl rfl) (RG.nil (WP.seq ?_)))
  refine WP.cond rfl (fun h2 => ?_) (fun h2 => ?_)
  ·have h2 := of_decide_eq_true h2
   refine WP.skip (WP.seq (WP.block (WP.sr (RG.ml rfl (RG.mr rfl (RG.nil (WP.sr (RG.ml rfl (RG.nil (WP.block ?_))))))))))
   refine WP.loop4 [1, 6, 7, 16] (fun (x : Nat) (T1 : List Bool) (zs1 : List (Sl Rect)) (q1 : Value) => x ≤ 80 ∧ PI canon S (y * 80 + x) T1 (er zs1)) (fun (x : Nat) (T1 : List Bool) (zs1 : List (Sl Rect)) (q1 : Value) => [(19, vi x), (5, q1)]) (fun (x : Nat) (T1 : List Bool) (zs1 : List (Sl Rect)) (q1 : Value) => grd b6 T1 :: osl 50 slT q1 zs1 :: bagS 91 rectT zs1 :: grd b S :: L) (fun (x : Nat) (T1 : List Bool) (zs1 : List (Sl Rect)) (q1 : Value) => 80 - x) 0 T zs q ⟨by omega, hP⟩ ⟨rfl, rfl, trivial⟩ Cv.p ?_
   rintro x T1 zs1 q1 τ1 ⟨hx, hP1⟩
   refine WP.sr (RG.p (PV.lss rfl rfl rfl) (RG.nil (WP.seq ?_)))
   refine WP.cond rfl (fun h3 => ?_) (fun h3 => ?_)
   ·have h3 := of_decide_eq_true h3
    have hl1 := hP1.len
    have hzl := pi_zlen hP1
    have e1 : (y * 80 + x) / 80 = y := by omega
    have e2 : (y * 80 + x) % 80 = x := by omega
    have e3 : cel (y * 80 + x) = (y, x) := by rw [cel, e1, e2]
    refine WP.skip (WP.seq (WP.block (WP.sr (RG.ml rfl (RG.mr rfl (RG.nil (WP.seq (WP.sr (RG.ml rfl (RG.ml rfl (RG.p (PV.idxA (j := y) rfl Ia179 rfl rfl (by omega) (by omega)) ?_)))))))))))
    refine RG.p (PV.idxA (j := x) rfl Ia177 rfl rfl (by omega) (by omega)) (RG.p (PV.loadGr rfl Sc4 rfl rfl (by omega)) (RG.p (PV.not rfl rfl) (RG.nil ?_)))
    refine WP.cond rfl (fun h4 => ?_) (fun h4 => ?_)
    ·have h5 : gb T1 y x = false := by rw [← gd_gb]; simpa using h4
     refine WP.exit ?_
     refine WP.region (RG.p (PV.add rfl rfl rfl (by omega)) (RG.ml rfl (RG.nil ?_)))
     exact ⟨rfl, x + 1, T1, zs1, q1, ⟨by omega, hP1.skip (by omega) (by rw [e1, e2]; exact h5)⟩, ⟨rfl, rfl, trivial⟩, ⟨rfl, rfl, rfl, rfl, trivial⟩, Cv.p, by omega⟩
    ·have h5 : gb T1 y x = true := by rw [← gd_gb]; simpa using h4
     refine WP.skip (WP.sr (RG.ml rfl (RG.ml rfl (RG.bl rfl ?_))))
     refine RG.callF (vs := [_, _, _, _]) rfl rfl En259 rfl (CallT.exB (flood_s (x := (x : Int)) (y := (y : Int)) hl1 (by omega) (by omega) (by rw [Int.toNat_natCast, Int.toNat_natCast]; exact h5) (fun b9 => ?_)))
     refine RG.p (PV.asg rfl rfl) (RG.nil (WP.seq (WP.sr (RG.ml rfl (RG.nil (WP.block ?_))))))
     refine WP.cv ((Cv.p (C := grd b9 (compB T1 ((y : Int).toNat, (x : Int).toNat)) :: grd b6 T1 :: osl 50 slT q1 zs1 :: bagS 91 rectT zs1 :: grd b S :: L)).trans (Cv.cast (by rw [Int.toNat_natCast, Int.toNat_natCast, ← e3]))) ?_
     have hlc := compB_len T1 (cel (y * 80 + x))
     refine WP.loop2 [1, 5, 6, 7, 9, 16, 19] (fun (v : Nat) (U : List Bool) => v ≤ 80 ∧ Sub T1 (compB T1 (cel (y * 80 + x))) (v * 80) U) (fun (v : Nat) (U : List Bool) => [(32, vi v)]) (fun (v : Nat) (U : List Bool) => grd b9 (compB T1 (cel (y * 80 + x))) :: grd b6 U :: osl 50 slT q1 zs1 :: bagS 91 rectT zs1 :: grd b S :: L) (fun (v : Nat) (U : List Bool) => 80 - v) 0 T1 ⟨by omega, Sub.start hl1⟩ ⟨rfl, trivial⟩ Cv.p ?_
     rintro v U τ2 ⟨hv, hU⟩
     refine WP.sr (RG.p (PV.lss rfl rfl rfl) (RG.nil (WP.seq ?_)))
     refine WP.cond rfl (fun h6 => ?_) (fun h6 => ?_)
     ·have h6 := of_decide_eq_true h6
      refine WP.skip (WP.seq (WP.block (WP.sr (RG.ml rfl (RG.mr rfl (RG.nil (WP.sr (RG.ml rfl (RG.nil (WP.block ?_))))))))))
      refine WP.loop2 [1, 5, 6, 7, 9, 10, 16, 19, 32] (fun (u : Nat) (V : List Bool) => u ≤ 80 ∧ Sub T1 (compB T1 (cel (y * 80 + x))) (v * 80 + u) V) (fun (u : Nat) (V : List Bool) => [(35, vi u)]) (fun (u : Nat) (V : List Bool) => grd b9 (compB T1 (cel (y * 80 + x))) :: grd b6 V :: osl 50 slT q1 zs1 :: bagS 91 rectT zs1 :: grd b S :: L) (fun (u : Nat) (V : List Bool) => 80 - u) 0 U ⟨by omega, hU⟩ ⟨rfl, trivial⟩ Cv.p ?_
      rintro u V τ3 ⟨hu, hV⟩
      refine WP.sr (RG.p (PV.lss rfl rfl rfl) (RG.nil (WP.seq ?_)))
      refine WP.cond rfl (fun h7 => ?_) (fun h7 => ?_)
      ·have h7 := of_decide_eq_true h7
       have hVl := hV.1
       refine WP.skip (WP.seq (WP.block (WP.sr (RG.ml rfl (RG.mr rfl (RG.nil ?_))))))
       refine WP.regionHD [.b b6] (.q 0 (.q 1 (.q 2 (.q 3 (.q 4 (.q 5 (.q 17 (.l 6 (.q 7 (.q 8 (.q 9 (.q 10 (.q 11 (.q 12 (.q 13 (.q 14 (.q 15 (.q 16 (.q 18 (.l 19 Sch.nil)))))))))))))))))))) (by kernel_rfl) (by kernel_rfl) (by kernel_rfl) rfl ?_
       refine RH.w rfl rfl (PV.mvI (.inl rfl) rfl) (RH.w rfl rfl (PV.mvI (.inl rfl) rfl) (RH.w rfl rfl (PV.mvI (.inl rfl) rfl) (RH.w rfl rfl (PV.mvI (.inl rfl) rfl) (RH.w rfl rfl (PV.idxA (j := v) rfl Ia179 rfl rfl (by omega) (by omega)) (RH.w rfl rfl (PV.idxA (j := u) rfl Ia177 rfl rfl (by omega) (by omega)) (RH.w rfl rfl (PV.idxA (j := v) rfl Ia179 rfl rfl (by omega) (by omega)) ?_))))))
       refine RH.ot rfl rfl (OT.pv (PV.loadGr rfl Sc4 rfl rfl (by omega)) ⟨Gh.le_refl _, PickC.pick, ?_⟩)
       refine RH.w rfl rfl (PV.mvB (.inl rfl) rfl) ?_
       refine RH.gs rfl (fun _ _ _ _ h => h) (Gh.le_refl _) PickC.pick rfl rfl rfl (fun hp => (PV.mvP (.inl rfl) rfl)) ?_
       refine RH.gs rfl (fun _ _ _ _ h => h) (Gh.le_refl _) PickC.pick rfl rfl rfl (fun hp => (PV.mvI (.inl rfl) rfl)) ?_
       refine RH.gs rfl (fun _ _ _ _ h => h) (Gh.le_refl _) PickC.pick rfl rfl rfl (fun hp => (PV.mvI (.inl rfl) rfl)) ?_
       refine RH.gs rfl (fun _ _ _ _ h => h) (Gh.le_refl _) PickC.pick rfl rfl rfl (fun hp => (PV.nilc rfl (gs_t hp))) ?_
       refine RH.gs rfl (fun _ _ _ _ h => h) (Gh.le_refl _) PickC.pick rfl rfl rfl (fun hp => (PV.idxA (j := v) rfl Ia179 (gs_t hp) (gs_t hp) (by first | omega | (simp at hp; omega)) (by first | omega | (simp at hp; omega)))) ?_
       refine RH.gs rfl (fun _ _ _ _ h => h) (Gh.le_refl _) PickC.pick rfl rfl rfl (fun hp => (PV.idxA (j := u) rfl Ia177 (gs_t hp) (gs_t hp) (by first | omega | (simp at hp; omega)) (by first | omega | (simp at hp; omega)))) ?_
       refine RH.gs rfl (fun _ _ _ _ h => h) (Gh.le_refl _) PickC.pick rfl rfl rfl (fun hp => (PV.loadGr rfl Sc4 (gs_t hp) rfl (by first | omega | (simp at hp; omega)))) ?_
       refine RH.gs rfl (fun _ _ _ _ h => h) (Gh.le_refl _) PickC.pick rfl rfl rfl (fun hp => (PV.not rfl (gs_t hp))) ?_
       refine RH.w rfl rfl (PV.pickA rfl rfl (fun hq => gs_t (geqT hq)) rfl) (RH.w rfl rfl (PV.idxA (j := u) rfl Ia177 rfl rfl (by omega) (by omega)) ?_)
       refine RH.ot rfl rfl (OT.storeGr rfl Sz4 rfl rfl rfl (by first | omega | (simp; omega)) ⟨Gh.le_refl _, PickC.pick, ?_⟩)
       refine RH.nil ?_
       refine WP.region (RG.p (PV.add rfl rfl rfl (by omega)) (RG.ml rfl (RG.nil ?_)))
       exact ⟨rfl, u + 1, (V.set (0 + v * 80 + u * 1) (gd V (0 + v * 80 + u * 1) && !gd (compB T1 (cel (y * 80 + x))) (0 + v * 80 + u * 1))), ⟨by omega, hV.step (by omega) (by omega) (by omega)⟩, ⟨rfl, trivial⟩, ⟨rfl, rfl, rfl, rfl, rfl, rfl, rfl, rfl, rfl, trivial⟩, Cv.p, by omega⟩
      ·have h7 := of_decide_eq_false h7
       obtain rfl : u = 80 := by omega
       refine WP.exit ?_
       refine WP.region (RG.p (PV.add rfl rfl rfl (by omega)) (RG.ml rfl (RG.nil ?_)))
       exact ⟨rfl, v + 1, V, ⟨by omega, by rw [Nat.add_mul]; exact hV⟩, ⟨rfl, trivial⟩, ⟨rfl, rfl, rfl, rfl, rfl, rfl, rfl, trivial⟩, Cv.p, by omega⟩
     ·have h6 := of_decide_eq_false h6
      obtain rfl : v = 80 := by omega
      refine WP.exit ?_
      refine WP.region (RG.p (PV.move (v := q1) rfl rfl) (RG.p (PV.mvP (.inl rfl) rfl) ?_))
      refine RG.callF (vs := [_]) rfl rfl En132 rfl (region_s hlc (fun v61 => ?_))
      refine RG.ot rfl (OT.bslice (F := (slT (α := Rect))) (els := [⟨v61, canon (compB T1 (cel (y * 80 + x)))⟩]) rfl El71 rfl (by decide) rfl (by decide) ⟨rfl, (Cl.s (v := v61) SlF.o), trivial⟩ fun v62 => ?_)
      refine RG.ot rfl (OT.append (v := q1) (u := v62) (F := (slT (α := Rect))) rfl El71 rfl (by decide) rfl rfl Rs.o (OneL.one (OneC.sl SlF.o OneC.nil)) rfl (by first | omega | (simp <;> omega)) fun v63 => ?_)
      refine RG.p (PV.asg (v := v63) rfl rfl) (RG.nil (WP.region (RG.p (PV.add rfl rfl rfl (by omega)) (RG.ml rfl (RG.nil ?_)))))
      refine ⟨rfl, x + 1, U, (zs1 ++ [⟨v61, canon (compB T1 (cel (y * 80 + x)))⟩]), v63, ⟨by omega, ?_⟩, ⟨rfl, rfl, trivial⟩, ⟨rfl, rfl, rfl, rfl, trivial⟩, ((Cv.p (C := osl 91 rectT v61 (canon (compB T1 (cel (y * 80 + x)))) :: bagS 91 rectT zs1 :: grd b6 U :: osl 50 slT v63 (zs1 ++ [⟨v61, canon (compB T1 (cel (y * 80 + x)))⟩]) :: grd b S :: L)).trans (Cv.bagS_add.trans Cv.p)), by omega⟩
      rw [er, List.map_append]
      exact hP1.take (by omega) (by rw [e1, e2]; exact h5) hU.1 hU.final
   ·have h3 := of_decide_eq_false h3
    obtain rfl : x = 80 := by omega
    refine WP.exit ?_
    refine WP.region (RG.p (PV.add rfl rfl rfl (by omega)) (RG.ml rfl (RG.nil ?_)))
    exact ⟨rfl, y + 1, T1, zs1, q1, ⟨by omega, by rw [Nat.add_mul]; exact hP1⟩, ⟨rfl, rfl, trivial⟩, ⟨rfl, rfl, trivial⟩, Cv.p, by omega⟩
  ·have h2 := of_decide_eq_false h2
   obtain rfl : y = 80 := by omega
   have hz := hP.final
   refine WP.exit ?_
   refine WP.sr (RG.p (PV.move (v := q) rfl rfl) ?_)
   refine RG.callF (vs := [q, _]) rfl rfl En260 rfl (sorted_rss (cf := fun i j => cmpR (gd (gd zs i).xs 0) (gd (gd zs j).xs 0)) (parts_len hz) Rs.o (fun i j hi hj => CB.mk0 En261 fun L' R c k => partsCmp_s (Rs.cv c (RsE.o i hi)) (Rs.cv c (RsE.o j hj)) (parts_ne hz hi) (parts_ne hz hj) k) (fun i j hij hj => parts_lt hz hij hj) ?_)
   refine RG.nil (WP.sr (RG.p (PV.move (v := q) rfl rfl) (RG.p (PV.asg (v := q) rfl rfl) (RG.nil ?_))))
   exact WP.ret ⟨_, _, ResV.one rfl rfl, Cv.p, k q zs hz⟩
end Go.Proofs.YtgphjofccckloaaGreat
namespace Go.Proofs.YtgphjofccckloaaGreat
open Go
set_option maxRecDepth 20000
variable {G : Gh} {L : List Ch} {R : Value → Gh → List Ch → Prop}
theorem wpAnyH_mono {P : Program} {md : Region.Mode} {ops : Array Oper} {Q : Exit → Act → World → Prop} {S S' : World → Prop} (h : ∀ w, S' w → S w) : ∀ (fuel : Nat) (ls : Array Bool) (a : Act) (w : World), wpAnyH P md ops Q S' fuel ls a w → wpAnyH P md ops Q S fuel ls a w
 | 0, _, _, _, k => k
 | fuel + 1, _, _, _, k => ⟨k.1, fun i hi => wpOp_mono (fun a' w' k' => ⟨h w' k'.1, wpAnyH_mono h fuel _ a' w' k'.2⟩) (k.2 i hi)⟩
theorem RH.up1 {P : Program} {n : Nat} {ops : Array Oper} {Q : Post} {σ : Nat → Value} {G G0 : Gh} {L C0 : List Ch} {r : Sch} {c : Ch} (k : RH P n ops G0 (c :: C0) r Q σ G (c :: L)) : RH P n ops G0 C0 r Q σ G (c :: L) :=
 RH.of fun h1 h2 ls a w hb ha hs => wpAnyH_mono (fun w' hs' => hs'.pick (.drop _ (.refl _))) _ _ _ _ (k.run h1 h2 hb ha hs)
theorem components_s {v : Value} {xs : List Rect} (h1 : Rs G L rectT v xs) (k : ∀ v zs, er zs = partsL (bits xs) → R v G (osl 50 slT v zs :: bagS 91 rectT zs :: L)) : CallT Tryz.prog 163 #[v] G L R := by
 refine CallT.enter (args := _) Tryz.func163 rfl rfl (by kernel_rfl) rfl ?_
 refine WP.sr (RG.p (PV.asg rfl rfl) (RG.nil (WP.sr (RG.p (PV.move (v := v) rfl rfl) ?_))))
 refine RG.callF (vs := [v]) rfl rfl En210 rfl (cellsOf_s (Rs.up h1) (fun b7 => ?_))
 refine RG.callF (vs := [_, _]) rfl rfl En227 rfl (CallT.exB (parts_s (bits_length _) (fun v8 ps8 hp8 => ?_)))
 refine RG.p (PV.asg rfl rfl) (RG.nil ?_)
 exact WP.ret ⟨_, _, ResV.one rfl rfl, Cv.p, k v8 ps8 hp8⟩
theorem l17At_s {x y : Int} (hx : -40 ≤ x ∧ x ≤ 40) (hy : -40 ≤ y ∧ y ≤ 40) (k : R (vi ((y + 40) * 80 + x + 40)) G L) : CallT Tryz.prog 236 #[vi x, vi y] G L R := by
 refine CallT.enter (args := _) Tryz.func236 rfl rfl (by kernel_rfl) rfl ?_
 refine WP.sr (RG.mr rfl (RG.nil (WP.sr (RG.ml rfl (RG.p (PV.add rfl rfl rfl (by omega)) (RG.p (PV.mul rfl rfl rfl (by omega)) (RG.ml rfl (RG.p (PV.add rfl rfl rfl (by omega)) (RG.p (PV.add rfl rfl rfl (by omega)) (RG.mr rfl (RG.nil ?_)))))))))))
 exact WP.ret ⟨_, _, ResV.one rfl rfl, Cv.p, k⟩
theorem l17Inside_s {x y : Int} (k : R (.bool (decide (-40 ≤ x ∧ x < 40) && decide (-40 ≤ y ∧ y < 40))) G L) : CallT Tryz.prog 237 #[vi x, vi y] G L R := by
 have e : (decide (-40 ≤ x ∧ x < 40) && decide (-40 ≤ y ∧ y < 40)) = (decide (x ≥ -40) && decide (x < 40) && decide (y ≥ -40) && decide (y < 40)) := by rw [Bool.eq_iff_iff]; simp; omega
 rw [e] at k
 refine CallT.enter (args := _) Tryz.func237 rfl rfl (by kernel_rfl) rfl ?_
 refine WP.sr (RG.br rfl (RG.nil (WP.sr (RG.ml rfl (RG.p (PV.geq rfl rfl rfl) (RG.bl rfl ?_))))))
 refine RG.g rfl (fun hp => (PV.mvI (.inl rfl) rfl)) ?_
 refine RG.g rfl (fun hp => (PV.lss rfl (gs_t hp) rfl)) ?_
 refine RG.p (PV.pickA rfl rfl (fun hq => gs_t (geqT hq)) rfl) (RG.bl rfl ?_)
 refine RG.g rfl (fun hp => (PV.mvI (.inl rfl) rfl)) ?_
 refine RG.g rfl (fun hp => (PV.geq rfl (gs_t hp) rfl)) ?_
 refine RG.p (PV.pickA rfl rfl (fun hq => gs_t (geqT hq)) rfl) (RG.bl rfl ?_)
 refine RG.g rfl (fun hp => (PV.mvI (.inl rfl) rfl)) ?_
 refine RG.g rfl (fun hp => (PV.lss rfl (gs_t hp) rfl)) ?_
 refine RG.p (PV.pickA rfl rfl (fun hq => gs_t (geqT hq)) rfl) (RG.br rfl (RG.nil ?_))
 exact WP.ret ⟨_, _, ResV.one rfl rfl, Cv.p, k⟩
theorem l17Cell_s {v : Value} {S : List Bool} {x y : Int} (h1 : Rs G L boolT v S) (hS : S.length = 6400) (k : R (.bool ((decide (-40 ≤ x ∧ x < 40) && decide (-40 ≤ y ∧ y < 40)) && gd S ((y + 40) * 80 + x + 40).toNat)) G L) : CallT Tryz.prog 265 #[v, vi x, vi y] G L R := by
 refine CallT.enter (args := _) Tryz.func265 rfl rfl (by kernel_rfl) rfl ?_
 refine WP.sr (RG.br rfl (RG.nil (WP.sr (RG.ml rfl (RG.ml rfl ?_)))))
 refine RG.callF (vs := [_, _]) rfl rfl En237 rfl (l17Inside_s ?_)
 refine RG.bl rfl ?_
 refine RG.g rfl (fun hp => (PV.move (v := v) rfl rfl)) ?_
 refine RG.g rfl (fun hp => (PV.mvI (.inl rfl) rfl)) ?_
 refine RG.g rfl (fun hp => (PV.mvI (.inl rfl) rfl)) ?_
 refine RG.gsC rfl rfl rfl rfl En236 (fun hp => ⟨_, (acons (gs_t hp) (acons (gs_t hp) anil)), l17At_s (by simp at hp <;> omega) (by simp at hp <;> omega) ⟨rfl, rfl, rfl⟩⟩) ?_
 refine RG.g rfl (fun hp => (PV.idxS (j := ((y + 40) * 80 + x + 40).toNat) (v := v) rfl Is162 (gs_t hp) (SlF.r h1) (gs_t hp) (by first | omega | (simp at hp; omega)) (by first | omega | (simp at hp; omega)))) ?_
 refine RG.g rfl (fun hp => (PV.loadE1 rfl Sc4 (gs_t hp) rfl (El.r h1 (getG (by first | omega | (simp at hp; omega)))) rfl)) ?_
 refine RG.p (PV.pickA rfl rfl (fun hq => gs_t (geqT hq)) rfl) (RG.br rfl (RG.nil ?_))
 exact WP.ret ⟨_, _, ResV.one rfl rfl, Cv.p, k⟩
def ptOf (q : Int × Int) : Pt := ⟨q.1 - 40, q.2 - 40⟩
theorem gd_pt {Q : List (Int × Int)} {i : Nat} (h : i < Q.length) : gd (Q.map ptOf) i = ptOf (gd Q i) := by
 rw [gd_eq h, gd_eq (by simpa using h)]; simp
theorem visit_s {v : Value} {S : List Bool} {x y : Int} (h1 : Rs G L boolT v S) (hS : S.length = 6400) (hx : 0 ≤ x ∧ x < 80) (hy : 0 ≤ y ∧ y < 80) (hon : gb S y.toNat x.toNat = true)
  (k : ∀ v' Q, FI S (y.toNat, x.toNat) (compB S (y.toNat, x.toNat)) Q → R v' G (osl 189 ptT v' (Q.map ptOf) :: L)) : CallT Tryz.prog 238 #[v, vi (x - 40), vi (y - 40)] G L R := by
 have hst := FI.start (S := S) hx hy
 have hseed : On S (y.toNat, x.toNat) := ⟨by simp only; omega, by simp only; omega, hon⟩
 have hrl : (List.replicate S.length false).length = 6400 := by simp [hS]
 refine CallT.enter (args := _) Tryz.func238 rfl rfl (by kernel_rfl) rfl ?_
 refine WP.sr (RG.p (PV.asg rfl rfl) (RG.nil (WP.sr (RG.p (PV.move (v := v) rfl rfl) (RG.p (PV.len (v := v) rfl Tryz.underlying162 rfl (SlF.r h1)) ?_)))))
 refine RG.ot rfl (OT.make (F := boolT) (a0 := false) rfl El162 rfl (by decide) rfl rfl (by omega) (by omega) fun v14 => ?_)
 refine RG.p (PV.asg (v := v14) rfl rfl) (RG.nil (WP.sr (RG.p (PV.move (v := v14) rfl rfl) (RG.ml rfl (RG.ml rfl ?_)))))
 refine RG.callF (vs := [_, _]) rfl rfl En236 rfl (l17At_s (by first | omega | (simp at hp; omega)) (by first | omega | (simp at hp; omega)) ?_)
 refine RG.p (PV.idxS (j := y.toNat * 80 + x.toNat) (v := v14) rfl Is162 rfl SlF.o rfl (by omega) (by omega)) ?_
 refine RG.ot rfl (OT.storeE (F := boolT) rfl Sz4 rfl rfl rfl (Cl.c rfl) (OneC.c rfl) (by omega) ?_)
 refine RG.nil (WP.sr (RG.ml rfl (RG.ml rfl (RG.p (PV.build (vs := [(0, [vi _]), (1, [vi _])]) (out := [_, _]) rfl Zr189 Pl189 ⟨rfl, (Cl.c rfl), ⟨rfl, (Cl.c rfl), trivial⟩⟩ rfl) ?_))))
 refine RG.ot rfl (OT.bslice (F := ptT) (els := [⟨_, _⟩]) rfl El262 rfl (by decide) rfl (by decide) ⟨rfl, (Cl.c rfl), trivial⟩ fun v23 => ?_)
 refine RG.p (PV.asg (v := v23) rfl rfl) (RG.nil (WP.seq (WP.sr (RG.mr rfl (RG.nil (WP.block ?_))))))
 refine WP.cv ((Cv.p (C := osl 4 boolT v14 ((List.replicate S.length false).set (y.toNat * 80 + x.toNat) true) :: osl 189 ptT v23 [⟨x - 40, y - 40⟩] :: L)).trans (Cv.cast (L' := osl 4 boolT v14 ((List.replicate 6400 false).set (y.toNat * 80 + x.toNat) true) :: osl 189 ptT v23 ([(x, y)].map ptOf) :: L) (by rw [hS]; rfl))) ?_
 refine WP.loop4 [0, 7] (fun (i : Nat) (Q : List (Int × Int)) (O : List Bool) (qv : Value) => i ≤ Q.length ∧ FI S (y.toNat, x.toNat) O Q ∧ Done S O Q i ∧ On O (y.toNat, x.toNat)) (fun (i : Nat) (Q : List (Int × Int)) (O : List Bool) (qv : Value) => [(9, vi i), (8, qv)]) (fun (i : Nat) (Q : List (Int × Int)) (O : List Bool) (qv : Value) => osl 4 boolT v14 O :: osl 189 ptT qv (Q.map ptOf) :: L) (fun (i : Nat) (Q : List (Int × Int)) (O : List Bool) (qv : Value) => 6401 - i) 0 [(x, y)] ((List.replicate 6400 false).set (y.toNat * 80 + x.toNat) true) v23 ⟨by simp, hst, fun m hm => by omega, by have := hst.on 0 (by simp); simpa [gd, qc] using this⟩ ⟨rfl, rfl, trivial⟩ Cv.p ?_
 rintro i Q O qv τ ⟨hi, hF, hD, h0⟩
 refine WP.seq (WP.sr (RG.ml rfl (RG.p (PV.move (v := qv) rfl rfl) (RG.p (PV.len (v := qv) rfl Tryz.underlying262 rfl SlF.o) (RG.p (PV.lss rfl rfl rfl) (RG.nil ?_))))))
 have hml : (Q.map ptOf).length = Q.length := by simp
 refine WP.cond rfl (fun h2 => ?_) (fun h2 => ?_)
 ·have h2 := of_decide_eq_true h2
  have hQ := hF.len_le
  have hb := hF.bd i (by omega)
  refine WP.skip (WP.seq (WP.block (WP.sr (RG.mr rfl (RG.nil (WP.block ?_))))))
  refine WP.loop4 [0, 7, 9] (fun (d : Nat) (Q1 : List (Int × Int)) (O1 : List Bool) (qv1 : Value) => d ≤ 4 ∧ FI S (y.toNat, x.toNat) O1 Q1 ∧ Done S O1 Q1 i ∧ On O1 (y.toNat, x.toNat) ∧ i < Q1.length ∧ gd Q1 i = gd Q i ∧ Near4 S O1 (qc (gd Q i)) d) (fun (d : Nat) (Q1 : List (Int × Int)) (O1 : List Bool) (qv1 : Value) => [(10, vi d), (8, qv1)]) (fun (d : Nat) (Q1 : List (Int × Int)) (O1 : List Bool) (qv1 : Value) => osl 4 boolT v14 O1 :: osl 189 ptT qv1 (Q1.map ptOf) :: L) (fun (d : Nat) (Q1 : List (Int × Int)) (O1 : List Bool) (qv1 : Value) => 4 - d) 0 Q O qv ⟨by omega, hF, hD, h0, by omega, rfl, Near4.zero _ _ _⟩ ⟨rfl, rfl, trivial⟩ Cv.p ?_
  rintro d Q1 O1 qv1 τ1 ⟨hd, hF1, hD1, h01, hi1, hq1, hN1⟩
  refine WP.seq (WP.sr (RG.ml rfl (RG.p (PV.lss rfl rfl rfl) (RG.nil ?_))))
  have hml1 : (Q1.map ptOf).length = Q1.length := by simp
  refine WP.cond rfl (fun h3 => ?_) (fun h3 => ?_)
  ·have h3 := of_decide_eq_true h3
   have hl1 := hF1.len
   have hQ1 := hF1.len_le
   have hb1 : 0 ≤ (gd Q1 i).1 ∧ (gd Q1 i).1 < 80 ∧ 0 ≤ (gd Q1 i).2 ∧ (gd Q1 i).2 < 80 := by rw [hq1]; exact hb
   have e1 : gd (Q1.map ptOf) i = ⟨(gd Q1 i).1 - 40, (gd Q1 i).2 - 40⟩ := gd_pt hi1
   have ex : (gd (Q1.map ptOf) i).x = (gd Q1 i).1 - 40 := by rw [e1]
   have ey : (gd (Q1.map ptOf) i).y = (gd Q1 i).2 - 40 := by rw [e1]
   have hdx : -1 ≤ gd [1, -1, 0, 0] d ∧ gd [1, -1, 0, 0] d ≤ (1 : Int) := dX_le d
   have hdy : -1 ≤ gd [0, 0, 1, -1] d ∧ gd [0, 0, 1, -1] d ≤ (1 : Int) := dY_le d
   have hn4 : ([1, -1, 0, 0] : List Int).length = 4 := rfl
   have hn4' : ([0, 0, 1, -1] : List Int).length = 4 := rfl
   refine WP.skip (WP.seq (WP.block ?_))
   refine WP.cut1 [0, 7, 8, 9, 10] (fun (b11 : Nat) => True) (fun (b11 : Nat) => [(11, .pointer (some ⟨b11, 0, none⟩))]) (fun (b11 : Nat) => blk b11 189 [vi ((gd Q1 i).1 - 40 + dX d), vi ((gd Q1 i).2 - 40 + dY d)] :: osl 4 boolT v14 O1 :: osl 189 ptT qv1 (Q1.map ptOf) :: L) ?_ ?_
   refine WP.regionH0 (.q 0 (.q 1 (.q 2 (.q 3 (.q 4 (.q 6 (.q 10 (.q 11 (.q 12 (.q 13 (.q 14 (.q 16 (.c 5 (.q 7 (.q 8 (.q 9 (.b 15 (.q 17 (.q 18 (.q 19 (.q 20 (.l 21 (.l 22 Sch.nil)))))) 21 (.l 15 (.q 17 (.q 18 (.q 19 (.q 20 (.l 22 Sch.nil)))))))))) 15 (.q 17 (.q 18 (.q 19 (.b 5 (.q 7 (.q 8 (.q 9 (.q 20 (.l 21 (.l 22 Sch.nil)))))) 21 (.l 5 (.q 7 (.q 8 (.q 9 (.q 20 (.l 22 Sch.nil)))))))))) 21 (.b 5 (.q 7 (.q 8 (.q 9 (.l 15 (.q 17 (.q 18 (.q 19 (.q 20 (.l 22 Sch.nil))))))))) 15 (.q 17 (.q 18 (.q 19 (.l 5 (.q 7 (.q 8 (.q 9 (.q 20 (.l 22 Sch.nil))))))))))))))))))))))) (by kernel_rfl) (by kernel_rfl) (by kernel_rfl) rfl ?_
   refine RH.w rfl rfl (PV.move (v := qv1) rfl rfl) (RH.w rfl rfl (PV.mvI (.inl rfl) rfl) (RH.w rfl rfl (PV.idxS (v := qv1) rfl Is262 rfl SlF.o rfl rfl (by omega)) (RH.w rfl rfl (PV.field rfl Fo189_0 rfl) (RH.w rfl rfl (PV.loadF (v := qv1) (j := 0) rfl Sc2 rfl rfl (El.o (getG (by omega))) rfl) (RH.w rfl rfl (PV.mvI (.inl rfl) rfl) (RH.w rfl rfl (PV.move (v := qv1) rfl rfl) (RH.w rfl rfl (PV.mvI (.inl rfl) rfl) (RH.w rfl rfl (PV.idxS (v := qv1) rfl Is262 rfl SlF.o rfl rfl (by omega)) (RH.w rfl rfl (PV.field rfl Fo189_1 rfl) (RH.w rfl rfl (PV.loadF rfl Sc2 rfl rfl (El.o (getG (by omega))) rfl) (RH.w rfl rfl (PV.mvI (.inl rfl) rfl) ?_)))))))))))
   ·refine RH.ot3 rfl rfl rfl rfl rfl rfl  (OT.bslice (F := intT) (els := [_, _, _, _]) rfl El30 rfl (by decide) rfl (by decide) ⟨rfl, (Cl.c rfl), ⟨rfl, (Cl.c rfl), ⟨rfl, (Cl.c rfl), ⟨rfl, (Cl.c rfl), trivial⟩⟩⟩⟩ fun v39 => ⟨Gh.le_refl _, PickC.pick, ?_⟩) (OT.bslice (F := intT) (els := [_, _, _, _]) rfl El30 rfl (by decide) rfl (by decide) ⟨rfl, (Cl.c rfl), ⟨rfl, (Cl.c rfl), ⟨rfl, (Cl.c rfl), ⟨rfl, (Cl.c rfl), trivial⟩⟩⟩⟩ fun v49 => ⟨Gh.le_refl _, PickC.pick, ?_⟩) (OT.alloc rfl Zr189 fun b11 => ⟨Gh.le_refl _, PickC.pick, ?_⟩)
    ·refine RH.up1 ?_
     refine RH.w rfl rfl (PV.idxS (v := v39) rfl Is30 rfl SlF.o rfl rfl (by omega)) (RH.w rfl rfl (PV.loadE1 rfl Sc2 rfl rfl (El.o (getG (by omega))) rfl) (RH.w rfl rfl (PV.add rfl rfl rfl (by omega)) ?_))
     refine RH.ot2 rfl rfl rfl rfl  (OT.bslice (F := intT) (els := [_, _, _, _]) rfl El30 rfl (by decide) rfl (by decide) ⟨rfl, (Cl.c rfl), ⟨rfl, (Cl.c rfl), ⟨rfl, (Cl.c rfl), ⟨rfl, (Cl.c rfl), trivial⟩⟩⟩⟩ fun v49 => ⟨Gh.le_refl _, PickC.pick, ?_⟩) (OT.alloc rfl Zr189 fun b11 => ⟨Gh.le_refl _, PickC.pick, ?_⟩)
     ·refine RH.up1 ?_
      refine RH.w rfl rfl (PV.idxS (v := v49) rfl Is30 rfl SlF.o rfl rfl (by omega)) (RH.w rfl rfl (PV.loadE1 rfl Sc2 rfl rfl (El.o (getG (by omega))) rfl) (RH.w rfl rfl (PV.add rfl rfl rfl (by omega)) (RH.w rfl rfl (PV.build (vs := [(0, [vi _]), (1, [vi _])]) (out := [_, _]) rfl Zr189 Pl189 ⟨rfl, (Cl.c rfl), ⟨rfl, (Cl.c rfl), trivial⟩⟩ rfl) ?_)))
      refine RH.ot rfl rfl (OT.alloc rfl Zr189 fun b11 => ⟨Gh.le_refl _, PickC.pick, ?_⟩)
      refine RH.ot rfl rfl (OT.storeW (vs := [vi _, vi _]) rfl Sz189 rfl rfl (Cl.c rfl) rfl rfl (OneC.c rfl) ⟨Gh.le_refl _, PickC.pick, ?_⟩)
      refine RH.nil ?_
      exact ⟨rfl, b11, trivial, ⟨rfl, trivial⟩, ⟨rfl, rfl, rfl, rfl, rfl, trivial⟩, (Cv.p (C := blk b11 189 [vi ((gd (Q1.map ptOf) i).x + gd [1, -1, 0, 0] d), vi ((gd (Q1.map ptOf) i).y + gd [0, 0, 1, -1] d)] :: osl 4 boolT v14 O1 :: osl 189 ptT qv1 (Q1.map ptOf) :: L)).trans (Cv.cast (by rw [ex, ey]; rfl))⟩
     ·refine RH.ot rfl rfl (OT.bslice (F := intT) (els := [_, _, _, _]) rfl El30 rfl (by decide) rfl (by decide) ⟨rfl, (Cl.c rfl), ⟨rfl, (Cl.c rfl), ⟨rfl, (Cl.c rfl), ⟨rfl, (Cl.c rfl), trivial⟩⟩⟩⟩ fun v49 => ⟨Gh.le_refl _, PickC.pick, ?_⟩)
      refine RH.up1 ?_
      refine RH.w rfl rfl (PV.idxS (v := v49) rfl Is30 rfl SlF.o rfl rfl (by omega)) (RH.w rfl rfl (PV.loadE1 rfl Sc2 rfl rfl (El.o (getG (by omega))) rfl) (RH.w rfl rfl (PV.add rfl rfl rfl (by omega)) (RH.w rfl rfl (PV.build (vs := [(0, [vi _]), (1, [vi _])]) (out := [_, _]) rfl Zr189 Pl189 ⟨rfl, (Cl.c rfl), ⟨rfl, (Cl.c rfl), trivial⟩⟩ rfl) ?_)))
      refine RH.ot rfl rfl (OT.storeW (vs := [vi _, vi _]) rfl Sz189 rfl rfl (Cl.c rfl) rfl rfl (OneC.c rfl) ⟨Gh.le_refl _, PickC.pick, ?_⟩)
      refine RH.nil ?_
      exact ⟨rfl, b11, trivial, ⟨rfl, trivial⟩, ⟨rfl, rfl, rfl, rfl, rfl, trivial⟩, (Cv.p (C := blk b11 189 [vi ((gd (Q1.map ptOf) i).x + gd [1, -1, 0, 0] d), vi ((gd (Q1.map ptOf) i).y + gd [0, 0, 1, -1] d)] :: osl 4 boolT v14 O1 :: osl 189 ptT qv1 (Q1.map ptOf) :: L)).trans (Cv.cast (by rw [ex, ey]; rfl))⟩
    ·refine RH.up1 ?_
     refine RH.w rfl rfl (PV.idxS (v := v49) rfl Is30 rfl SlF.o rfl rfl (by omega)) (RH.w rfl rfl (PV.loadE1 rfl Sc2 rfl rfl (El.o (getG (by omega))) rfl) (RH.w rfl rfl (PV.add rfl rfl rfl (by omega)) ?_))
     refine RH.ot2 rfl rfl rfl rfl  (OT.bslice (F := intT) (els := [_, _, _, _]) rfl El30 rfl (by decide) rfl (by decide) ⟨rfl, (Cl.c rfl), ⟨rfl, (Cl.c rfl), ⟨rfl, (Cl.c rfl), ⟨rfl, (Cl.c rfl), trivial⟩⟩⟩⟩ fun v39 => ⟨Gh.le_refl _, PickC.pick, ?_⟩) (OT.alloc rfl Zr189 fun b11 => ⟨Gh.le_refl _, PickC.pick, ?_⟩)
     ·refine RH.up1 ?_
      refine RH.w rfl rfl (PV.idxS (v := v39) rfl Is30 rfl SlF.o rfl rfl (by omega)) (RH.w rfl rfl (PV.loadE1 rfl Sc2 rfl rfl (El.o (getG (by omega))) rfl) (RH.w rfl rfl (PV.add rfl rfl rfl (by omega)) (RH.w rfl rfl (PV.build (vs := [(0, [vi _]), (1, [vi _])]) (out := [_, _]) rfl Zr189 Pl189 ⟨rfl, (Cl.c rfl), ⟨rfl, (Cl.c rfl), trivial⟩⟩ rfl) ?_)))
      refine RH.ot rfl rfl (OT.alloc rfl Zr189 fun b11 => ⟨Gh.le_refl _, PickC.pick, ?_⟩)
      refine RH.ot rfl rfl (OT.storeW (vs := [vi _, vi _]) rfl Sz189 rfl rfl (Cl.c rfl) rfl rfl (OneC.c rfl) ⟨Gh.le_refl _, PickC.pick, ?_⟩)
      refine RH.nil ?_
      exact ⟨rfl, b11, trivial, ⟨rfl, trivial⟩, ⟨rfl, rfl, rfl, rfl, rfl, trivial⟩, (Cv.p (C := blk b11 189 [vi ((gd (Q1.map ptOf) i).x + gd [1, -1, 0, 0] d), vi ((gd (Q1.map ptOf) i).y + gd [0, 0, 1, -1] d)] :: osl 4 boolT v14 O1 :: osl 189 ptT qv1 (Q1.map ptOf) :: L)).trans (Cv.cast (by rw [ex, ey]; rfl))⟩
     ·refine RH.ot rfl rfl (OT.bslice (F := intT) (els := [_, _, _, _]) rfl El30 rfl (by decide) rfl (by decide) ⟨rfl, (Cl.c rfl), ⟨rfl, (Cl.c rfl), ⟨rfl, (Cl.c rfl), ⟨rfl, (Cl.c rfl), trivial⟩⟩⟩⟩ fun v39 => ⟨Gh.le_refl _, PickC.pick, ?_⟩)
      refine RH.up1 ?_
      refine RH.w rfl rfl (PV.idxS (v := v39) rfl Is30 rfl SlF.o rfl rfl (by omega)) (RH.w rfl rfl (PV.loadE1 rfl Sc2 rfl rfl (El.o (getG (by omega))) rfl) (RH.w rfl rfl (PV.add rfl rfl rfl (by omega)) (RH.w rfl rfl (PV.build (vs := [(0, [vi _]), (1, [vi _])]) (out := [_, _]) rfl Zr189 Pl189 ⟨rfl, (Cl.c rfl), ⟨rfl, (Cl.c rfl), trivial⟩⟩ rfl) ?_)))
      refine RH.ot rfl rfl (OT.storeW (vs := [vi _, vi _]) rfl Sz189 rfl rfl (Cl.c rfl) rfl rfl (OneC.c rfl) ⟨Gh.le_refl _, PickC.pick, ?_⟩)
      refine RH.nil ?_
      exact ⟨rfl, b11, trivial, ⟨rfl, trivial⟩, ⟨rfl, rfl, rfl, rfl, rfl, trivial⟩, (Cv.p (C := blk b11 189 [vi ((gd (Q1.map ptOf) i).x + gd [1, -1, 0, 0] d), vi ((gd (Q1.map ptOf) i).y + gd [0, 0, 1, -1] d)] :: osl 4 boolT v14 O1 :: osl 189 ptT qv1 (Q1.map ptOf) :: L)).trans (Cv.cast (by rw [ex, ey]; rfl))⟩
    ·refine RH.ot2 rfl rfl rfl rfl  (OT.bslice (F := intT) (els := [_, _, _, _]) rfl El30 rfl (by decide) rfl (by decide) ⟨rfl, (Cl.c rfl), ⟨rfl, (Cl.c rfl), ⟨rfl, (Cl.c rfl), ⟨rfl, (Cl.c rfl), trivial⟩⟩⟩⟩ fun v39 => ⟨Gh.le_refl _, PickC.pick, ?_⟩) (OT.bslice (F := intT) (els := [_, _, _, _]) rfl El30 rfl (by decide) rfl (by decide) ⟨rfl, (Cl.c rfl), ⟨rfl, (Cl.c rfl), ⟨rfl, (Cl.c rfl), ⟨rfl, (Cl.c rfl), trivial⟩⟩⟩⟩ fun v49 => ⟨Gh.le_refl _, PickC.pick, ?_⟩)
     ·refine RH.up1 ?_
      refine RH.w rfl rfl (PV.idxS (v := v39) rfl Is30 rfl SlF.o rfl rfl (by omega)) (RH.w rfl rfl (PV.loadE1 rfl Sc2 rfl rfl (El.o (getG (by omega))) rfl) (RH.w rfl rfl (PV.add rfl rfl rfl (by omega)) ?_))
      refine RH.ot rfl rfl (OT.bslice (F := intT) (els := [_, _, _, _]) rfl El30 rfl (by decide) rfl (by decide) ⟨rfl, (Cl.c rfl), ⟨rfl, (Cl.c rfl), ⟨rfl, (Cl.c rfl), ⟨rfl, (Cl.c rfl), trivial⟩⟩⟩⟩ fun v49 => ⟨Gh.le_refl _, PickC.pick, ?_⟩)
      refine RH.up1 ?_
      refine RH.w rfl rfl (PV.idxS (v := v49) rfl Is30 rfl SlF.o rfl rfl (by omega)) (RH.w rfl rfl (PV.loadE1 rfl Sc2 rfl rfl (El.o (getG (by omega))) rfl) (RH.w rfl rfl (PV.add rfl rfl rfl (by omega)) (RH.w rfl rfl (PV.build (vs := [(0, [vi _]), (1, [vi _])]) (out := [_, _]) rfl Zr189 Pl189 ⟨rfl, (Cl.c rfl), ⟨rfl, (Cl.c rfl), trivial⟩⟩ rfl) ?_)))
      refine RH.ot rfl rfl (OT.storeW (vs := [vi _, vi _]) rfl Sz189 rfl rfl (Cl.c rfl) rfl rfl (OneC.c rfl) ⟨Gh.le_refl _, PickC.pick, ?_⟩)
      refine RH.nil ?_
      exact ⟨rfl, b11, trivial, ⟨rfl, trivial⟩, ⟨rfl, rfl, rfl, rfl, rfl, trivial⟩, (Cv.p (C := blk b11 189 [vi ((gd (Q1.map ptOf) i).x + gd [1, -1, 0, 0] d), vi ((gd (Q1.map ptOf) i).y + gd [0, 0, 1, -1] d)] :: osl 4 boolT v14 O1 :: osl 189 ptT qv1 (Q1.map ptOf) :: L)).trans (Cv.cast (by rw [ex, ey]; rfl))⟩
     ·refine RH.up1 ?_
      refine RH.w rfl rfl (PV.idxS (v := v49) rfl Is30 rfl SlF.o rfl rfl (by omega)) (RH.w rfl rfl (PV.loadE1 rfl Sc2 rfl rfl (El.o (getG (by omega))) rfl) (RH.w rfl rfl (PV.add rfl rfl rfl (by omega)) ?_))
      refine RH.ot rfl rfl (OT.bslice (F := intT) (els := [_, _, _, _]) rfl El30 rfl (by decide) rfl (by decide) ⟨rfl, (Cl.c rfl), ⟨rfl, (Cl.c rfl), ⟨rfl, (Cl.c rfl), ⟨rfl, (Cl.c rfl), trivial⟩⟩⟩⟩ fun v39 => ⟨Gh.le_refl _, PickC.pick, ?_⟩)
      refine RH.up1 ?_
      refine RH.w rfl rfl (PV.idxS (v := v39) rfl Is30 rfl SlF.o rfl rfl (by omega)) (RH.w rfl rfl (PV.loadE1 rfl Sc2 rfl rfl (El.o (getG (by omega))) rfl) (RH.w rfl rfl (PV.add rfl rfl rfl (by omega)) (RH.w rfl rfl (PV.build (vs := [(0, [vi _]), (1, [vi _])]) (out := [_, _]) rfl Zr189 Pl189 ⟨rfl, (Cl.c rfl), ⟨rfl, (Cl.c rfl), trivial⟩⟩ rfl) ?_)))
      refine RH.ot rfl rfl (OT.storeW (vs := [vi _, vi _]) rfl Sz189 rfl rfl (Cl.c rfl) rfl rfl (OneC.c rfl) ⟨Gh.le_refl _, PickC.pick, ?_⟩)
      refine RH.nil ?_
      exact ⟨rfl, b11, trivial, ⟨rfl, trivial⟩, ⟨rfl, rfl, rfl, rfl, rfl, trivial⟩, (Cv.p (C := blk b11 189 [vi ((gd (Q1.map ptOf) i).x + gd [1, -1, 0, 0] d), vi ((gd (Q1.map ptOf) i).y + gd [0, 0, 1, -1] d)] :: osl 4 boolT v14 O1 :: osl 189 ptT qv1 (Q1.map ptOf) :: L)).trans (Cv.cast (by rw [ex, ey]; rfl))⟩
   ·have ej : ((gd Q1 i).2 - 40 + dY d + 40) * 80 + ((gd Q1 i).1 - 40 + dX d) + 40 = ((gd Q1 i).2 + dY d) * 80 + ((gd Q1 i).1 + dX d) := by omega
    rintro b11 τ2 _
    refine WP.sr (RG.p (PV.move (v := v) rfl rfl) (RG.p (PV.field rfl Fo189_0 rfl) (RG.p (PV.load1 rfl Sc2 rfl (Rd.blk rfl)) (RG.p (PV.field rfl Fo189_1 rfl) (RG.p (PV.load1 rfl Sc2 rfl (Rd.blk rfl)) ?_)))))
    refine RG.callF (vs := [v, _, _]) rfl rfl En265 rfl (l17Cell_s (Rs.up h1) hS ?_)
    refine RG.bl rfl ?_
    refine RG.g rfl (fun hp => (PV.move (v := v14) rfl rfl)) ?_
    refine RG.g rfl (fun hp => (PV.field rfl Fo189_0 rfl)) ?_
    refine RG.g rfl (fun hp => (PV.load1 rfl Sc2 (gs_t hp) (Rd.blk rfl))) ?_
    refine RG.g rfl (fun hp => (PV.field rfl Fo189_1 rfl)) ?_
    refine RG.g rfl (fun hp => (PV.load1 rfl Sc2 (gs_t hp) (Rd.blk rfl))) ?_
    refine RG.gsC rfl rfl rfl rfl En236 (fun hp => ⟨_, (acons (gs_t hp) (acons (gs_t hp) anil)), l17At_s (by first | omega | (simp at hp; omega)) (by first | omega | (simp at hp; omega)) ⟨rfl, rfl, rfl⟩⟩) ?_
    refine RG.g rfl (fun hp => (PV.idxS (j := ((gd Q1 i).2 + dY d).toNat * 80 + ((gd Q1 i).1 + dX d).toNat) (v := v14) rfl Is162 (gs_t hp) SlF.o (gs_t hp) (by first | omega | (simp at hp; omega)) (by first | omega | (simp at hp; omega)))) ?_
    refine RG.g rfl (fun hp => (PV.loadE1 rfl Sc4 (gs_t hp) rfl (El.o (getG (by first | omega | (simp at hp; omega)))) rfl)) ?_
    refine RG.g rfl (fun hp => (PV.not rfl (gs_t hp))) ?_
    refine RG.p (PV.pickA rfl rfl (fun hq => gs_t (geqT hq)) rfl) (RG.nil ?_)
    refine WP.cond rfl (fun h4 => ?_) (fun h4 => ?_)
    ·have h5 : ((-40 ≤ (gd Q1 i).1 - 40 + dX d ∧ (gd Q1 i).1 - 40 + dX d < 40) ∧ (-40 ≤ (gd Q1 i).2 - 40 + dY d ∧ (gd Q1 i).2 - 40 + dY d < 40)) ∧ gb S ((gd Q1 i).2 + dY d).toNat ((gd Q1 i).1 + dX d).toNat = true ∧ gb O1 ((gd Q1 i).2 + dY d).toNat ((gd Q1 i).1 + dX d).toNat = false := by
      simp only [Bool.and_eq_true, decide_eq_true_eq, Bool.not_eq_true', ej] at h4
      obtain ⟨⟨⟨a1, a2⟩, a3⟩, a4⟩ := h4
      rw [show (((gd Q1 i).2 + dY d) * 80 + ((gd Q1 i).1 + dX d)).toNat = ((gd Q1 i).2 + dY d).toNat * 80 + ((gd Q1 i).1 + dX d).toNat by omega] at a3
      exact ⟨⟨a1, a2⟩, a3, a4⟩
     obtain ⟨⟨a1, a2⟩, a3, a4⟩ := h5
     refine WP.sr (RG.p (PV.move (v := v14) rfl rfl) (RG.p (PV.field rfl Fo189_0 rfl) (RG.p (PV.load1 rfl Sc2 rfl (Rd.blk rfl)) (RG.p (PV.field rfl Fo189_1 rfl) (RG.p (PV.load1 rfl Sc2 rfl (Rd.blk rfl)) ?_)))))
     refine RG.callF (vs := [_, _]) rfl rfl En236 rfl (l17At_s (by first | omega | (simp at hp; omega)) (by first | omega | (simp at hp; omega)) ?_)
     refine RG.p (PV.idxS (j := ((gd Q1 i).2 + dY d).toNat * 80 + ((gd Q1 i).1 + dX d).toNat) (v := v14) rfl Is162 rfl SlF.o rfl (by omega) (by omega)) ?_
     refine RG.ot rfl (OT.storeE (F := boolT) rfl Sz4 rfl rfl rfl (Cl.c rfl) (OneC.c rfl) (by omega) ?_)
     refine RG.nil (WP.region (RG.p (PV.move (v := qv1) rfl rfl) (RG.p (PV.loadW rfl Ag189 rfl rfl) ?_)))
     refine RG.ot rfl (OT.bslice (F := ptT) (els := [⟨_, _⟩]) rfl El262 rfl (by decide) rfl (by decide) ⟨rfl, (Cl.c rfl), trivial⟩ fun v81 => ?_)
     refine RG.ot rfl (OT.append (v := qv1) (u := v81) (F := ptT) rfl El262 rfl (by decide) rfl rfl Rs.o (OneL.c (fun _ => rfl)) rfl (by first | omega | (simp <;> omega)) fun v82 => ?_)
     refine RG.p (PV.asg (v := v82) rfl rfl) (RG.nil (WP.region (RG.ml rfl (RG.p (PV.add rfl rfl rfl (by omega)) (RG.mr rfl (RG.nil ?_))))))
     have ep : ptOf ((gd Q1 i).1 + dX d, (gd Q1 i).2 + dY d) = ⟨(gd Q1 i).1 - 40 + dX d, (gd Q1 i).2 - 40 + dY d⟩ := by simp only [ptOf, Pt.mk.injEq]; omega
     have ha := adj4 (q := gd Q1 i) (d := d) (by omega) hb1 (by omega) (by omega)
     exact ⟨rfl, d + 1, (Q1 ++ [((gd Q1 i).1 + dX d, (gd Q1 i).2 + dY d)]), (O1.set (((gd Q1 i).2 + dY d).toNat * 80 + ((gd Q1 i).1 + dX d).toNat) true), v82, ⟨by omega, hF1.add ⟨by omega, by omega⟩ ⟨by omega, by omega⟩ a4 a3 hi1 ha, hD1.add hi1 (fun c hc => on_set hl1 ⟨by omega, by omega⟩ ⟨by omega, by omega⟩ hc), on_set hl1 ⟨by omega, by omega⟩ ⟨by omega, by omega⟩ h01, by simp; omega, by rw [gd_app_l hi1]; exact hq1, by rw [← hq1] at hN1 ⊢; exact hN1.take hl1 hb1 (by omega) (by omega)⟩, ⟨rfl, rfl, trivial⟩, ⟨rfl, rfl, rfl, trivial⟩, (Cv.p (C := osl 4 boolT v14 (O1.set (((gd Q1 i).2 + dY d).toNat * 80 + ((gd Q1 i).1 + dX d).toNat) true) :: osl 189 ptT v82 (Q1.map ptOf ++ [⟨(gd Q1 i).1 - 40 + dX d, (gd Q1 i).2 - 40 + dY d⟩]) :: L)).trans (Cv.cast (by rw [List.map_append, ← ep]; rfl)), by omega⟩
    ·refine WP.skip ?_
     refine WP.region (RG.ml rfl (RG.p (PV.add rfl rfl rfl (by omega)) (RG.mr rfl (RG.nil ?_))))
     refine ⟨rfl, d + 1, Q1, O1, qv1, ⟨by omega, hF1, hD1, h01, hi1, hq1, ?_⟩, ⟨rfl, rfl, trivial⟩, ⟨rfl, rfl, rfl, trivial⟩, Cv.p, by omega⟩
     rw [← hq1] at hN1 ⊢
     refine hN1.skip hb1 ?_
     by_cases hin : 0 ≤ (gd Q1 i).1 + dX d ∧ (gd Q1 i).1 + dX d < 80 ∧ 0 ≤ (gd Q1 i).2 + dY d ∧ (gd Q1 i).2 + dY d < 80
     ·refine .inr ?_
      simp only [Bool.and_eq_false_iff, decide_eq_false_iff_not, Bool.not_eq_false', ej] at h4
      rw [show (((gd Q1 i).2 + dY d) * 80 + ((gd Q1 i).1 + dX d)).toNat = ((gd Q1 i).2 + dY d).toNat * 80 + ((gd Q1 i).1 + dX d).toNat by omega] at h4
      rcases h4 with (((a | a) | a) | a)
      ·omega
      ·omega
      ·exact .inl a
      ·exact .inr a
     ·exact .inl hin
  ·have h3 := of_decide_eq_false h3
   refine WP.exit ?_
   refine WP.region (RG.ml rfl (RG.p (PV.add rfl rfl rfl (by omega)) (RG.mr rfl (RG.nil ?_))))
   exact ⟨rfl, i + 1, Q1, O1, qv1, ⟨by omega, hF1, hD1.next4 (by rw [hq1]) (by obtain rfl : d = 4 := (by omega); exact hN1), h01⟩, ⟨rfl, rfl, trivial⟩, ⟨rfl, rfl, trivial⟩, Cv.p, by omega⟩
 ·have h2 := of_decide_eq_false h2
  obtain rfl : i = Q.length := by omega
  have e := hF.final hseed h0 hD
  rw [e] at hF
  refine WP.exit ?_
  refine WP.sr (RG.p (PV.move (v := qv) rfl rfl) (RG.p (PV.asg (v := qv) rfl rfl) (RG.nil ?_)))
  exact WP.ret ⟨_, _, ResV.one rfl rfl, Cv.p, k qv Q hF⟩
def PQ (Q : List (Int × Int)) (n : Nat) (P : List Bool) : Prop := P.length = 6400 ∧ ∀ y x, y < 80 → x < 80 → (gb P y x = true ↔ ∃ m, m < n ∧ qc (gd Q m) = (y, x))
theorem PQ.zero (Q : List (Int × Int)) : PQ Q 0 (List.replicate 6400 false) := ⟨List.length_replicate, fun y x _ _ => by rw [gb_rep']; simp⟩
theorem PQ.step {Q : List (Int × Int)} {n : Nat} {P : List Bool} (h : PQ Q n P) (hb : 0 ≤ (gd Q n).1 ∧ (gd Q n).1 < 80 ∧ 0 ≤ (gd Q n).2 ∧ (gd Q n).2 < 80) : PQ Q (n + 1) (P.set ((gd Q n).2.toNat * 80 + (gd Q n).1.toNat) true) := by
 refine ⟨by simpa using h.1, fun y x hy hx => ?_⟩
 rw [gb_set' h.1 (by omega) (by omega) hx]
 by_cases e : y = (gd Q n).2.toNat ∧ x = (gd Q n).1.toNat
 ·rw [if_pos e]
  exact ⟨fun _ => ⟨n, by omega, by rw [qc, e.1, e.2]⟩, fun _ => rfl⟩
 ·rw [if_neg e, h.2 y x hy hx]
  constructor
  ·rintro ⟨m, hm, he⟩; exact ⟨m, by omega, he⟩
  ·rintro ⟨m, hm, he⟩
   by_cases c : m = n
   ·subst c; exfalso; apply e; simp only [qc, Prod.mk.injEq] at he; omega
   ·exact ⟨m, by omega, he⟩
theorem PQ.final {S : List Bool} {a : Cel} {Q : List (Int × Int)} {P : List Bool} (hF : FI S a (compB S a) Q) (h : PQ Q Q.length P) : P = compB S a := by
 refine gb_ext h.1 (compB_len _ _) fun y x hy hx => ?_
 rw [Bool.eq_iff_iff, h.2 y x hy hx]
 constructor
 ·rintro ⟨m, hm, he⟩; have := (hF.on m hm).2.2; rw [he] at this; exact this
 ·intro hg; exact hF.all (y, x) ⟨hy, hx, hg⟩
def MQ (T P U : List Bool) : Prop := U.length = 6400 ∧ ∀ y x, y < 80 → x < 80 → gb U y x = (gb T y x && !gb P y x)
theorem MQ.zero {T : List Bool} (h : T.length = 6400) : MQ T (List.replicate 6400 false) T := ⟨h, fun y x _ _ => by rw [gb_rep']; simp⟩
theorem MQ.step {T P U : List Bool} (h : MQ T P U) (hP : P.length = 6400) {v u : Nat} (hv : v < 80) (hu : u < 80) : MQ T (P.set (v * 80 + u) true) (U.set (v * 80 + u) false) := by
 refine ⟨by simpa using h.1, fun y x hy hx => ?_⟩
 rw [gb_set' h.1 hv hu hx, gb_set' hP hv hu hx]
 by_cases e : y = v ∧ x = u
 ·rw [if_pos e, if_pos e]; simp
 ·rw [if_neg e, if_neg e]; exact h.2 y x hy hx
theorem comps_s {v : Value} {S : List Bool} (h1 : Rs G L boolT v S) (hS : S.length = 6400) (k : ∀ v' zs, er zs = comps S → R v' G (osl 162 slT v' zs :: bagS 4 boolT zs :: L)) : CallT Tryz.prog 173 #[v] G L R := by
 have hrl : (List.replicate S.length false).length = 6400 := by simp [hS]
 refine CallT.enter (args := _) Tryz.func173 rfl rfl (by kernel_rfl) rfl ?_
 refine WP.sr (RG.p (PV.asg rfl rfl) (RG.nil (WP.sr ?_)))
 refine RG.ot rfl (OT.bslice (F := (slT (α := Bool))) (els := []) rfl El193 rfl (by decide) rfl (by decide) trivial fun v10 => ?_)
 refine RG.p (PV.asg (v := v10) rfl rfl) (RG.nil (WP.sr ?_))
 refine RG.ot rfl (OT.bslice (F := boolT) (els := []) rfl El162 rfl (by decide) rfl (by decide) trivial fun v11 => ?_)
 refine RG.p (PV.move (v := v) rfl rfl) ?_
 refine RG.ot rfl (OT.append (v := v11) (u := v) (F := boolT) rfl El162 rfl (by decide) rfl rfl (Rs.up h1) (OneL.c (fun _ => rfl)) rfl (by first | omega | (simp <;> omega)) fun v13 => ?_)
 refine RG.p (PV.asg (v := v13) rfl rfl) (RG.nil (WP.seq (WP.sr (RG.mr rfl (RG.nil (WP.block ?_))))))
 refine WP.cv (((Cv.p (C := osl 162 slT v10 ([] : List (Sl Bool)) :: osl 4 boolT v13 ([] ++ S) :: L)).trans (Cv.cons (Cv.bag0 (e := 4) (F := boolT) (xs := []) rfl))).trans (Cv.cast (by rw [List.nil_append]))) ?_
 refine WP.loop4 [0, 4] (fun (yy : Int) (T : List Bool) (zs : List (Sl Bool)) (q : Value) => (-40 ≤ yy ∧ yy ≤ 40) ∧ PI id S ((yy + 40).toNat * 80) T (er zs)) (fun (yy : Int) (T : List Bool) (zs : List (Sl Bool)) (q : Value) => [(5, vi yy), (3, q)]) (fun (yy : Int) (T : List Bool) (zs : List (Sl Bool)) (q : Value) => osl 4 boolT v13 T :: osl 162 slT q zs :: bagS 4 boolT zs :: L) (fun (yy : Int) (T : List Bool) (zs : List (Sl Bool)) (q : Value) => (40 - yy).toNat) (-40) S [] v10 ⟨by omega, PI.start hS⟩ ⟨rfl, rfl, trivial⟩ Cv.p ?_
 rintro yy T zs q τ ⟨hy, hP⟩
 refine WP.seq (WP.sr (RG.ml rfl (RG.p (PV.lss rfl rfl rfl) (RG.nil ?_))))
 obtain ⟨y, rfl⟩ : ∃ n : Nat, yy = (n : Int) - 40 := ⟨(yy + 40).toNat, by omega⟩
 rw [show ((y : Int) - 40 + 40).toNat = y by omega] at hP
 refine WP.cond rfl (fun h2 => ?_) (fun h2 => ?_)
 ·have h2 := of_decide_eq_true h2
  refine WP.skip (WP.seq (WP.block (WP.sr (RG.mr rfl (RG.nil (WP.block ?_))))))
  refine WP.loop4 [0, 4, 5] (fun (xx : Int) (T1 : List Bool) (zs1 : List (Sl Bool)) (q1 : Value) => (-40 ≤ xx ∧ xx ≤ 40) ∧ PI id S (y * 80 + (xx + 40).toNat) T1 (er zs1)) (fun (xx : Int) (T1 : List Bool) (zs1 : List (Sl Bool)) (q1 : Value) => [(6, vi xx), (3, q1)]) (fun (xx : Int) (T1 : List Bool) (zs1 : List (Sl Bool)) (q1 : Value) => osl 4 boolT v13 T1 :: osl 162 slT q1 zs1 :: bagS 4 boolT zs1 :: L) (fun (xx : Int) (T1 : List Bool) (zs1 : List (Sl Bool)) (q1 : Value) => (40 - xx).toNat) (-40) T zs q ⟨by omega, by rw [show ((-40 : Int) + 40).toNat = 0 from rfl]; exact hP⟩ ⟨rfl, rfl, trivial⟩ Cv.p ?_
  rintro xx T1 zs1 q1 τ1 ⟨hx, hP1⟩
  refine WP.seq (WP.sr (RG.ml rfl (RG.p (PV.lss rfl rfl rfl) (RG.nil ?_))))
  obtain ⟨x, rfl⟩ : ∃ n : Nat, xx = (n : Int) - 40 := ⟨(xx + 40).toNat, by omega⟩
  rw [show ((x : Int) - 40 + 40).toNat = x by omega] at hP1
  refine WP.cond rfl (fun h3 => ?_) (fun h3 => ?_)
  ·have h3 := of_decide_eq_true h3
   have hl1 := hP1.len
   have hzl : zs1.length ≤ y * 80 + x := by
    have := congrArg List.length hP1.er
    have h1 := firsts_len S (y * 80 + x)
    rw [er_len, List.length_map] at this; omega
   have e1 : (y * 80 + x) / 80 = y := by omega
   have e2 : (y * 80 + x) % 80 = x := by omega
   have e3 : cel (y * 80 + x) = (y, x) := by rw [cel, e1, e2]
   have e4 : ((x : Int) - 40 + 1 + 40).toNat = x + 1 := by omega
   refine WP.skip (WP.seq (WP.block (WP.seq (WP.sr (RG.p (PV.move (v := v13) rfl rfl) (RG.ml rfl (RG.ml rfl ?_)))))))
   refine RG.callF (vs := [_, _]) rfl rfl En236 rfl (l17At_s (by omega) (by omega) ?_)
   refine RG.p (PV.idxS (j := y * 80 + x) (v := v13) rfl Is162 rfl SlF.o rfl (by omega) (by omega)) (RG.p (PV.loadE1 rfl Sc4 rfl rfl (El.o (getG (by omega))) rfl) (RG.p (PV.not rfl rfl) (RG.nil ?_)))
   refine WP.cond rfl (fun h4 => ?_) (fun h4 => ?_)
   ·have h5 : gb T1 y x = false := by rw [gb]; simpa using h4
    refine WP.exit ?_
    refine WP.region (RG.ml rfl (RG.p (PV.add rfl rfl rfl (by omega)) (RG.mr rfl (RG.nil ?_))))
    exact ⟨rfl, (x : Int) - 40 + 1, T1, zs1, q1, ⟨by omega, by rw [e4]; exact hP1.skip (by omega) (by rw [e1, e2]; exact h5)⟩, ⟨rfl, rfl, trivial⟩, ⟨rfl, rfl, rfl, trivial⟩, Cv.p, by omega⟩
   ·have h5 : gb T1 y x = true := by rw [gb]; simpa using h4
    refine WP.skip (WP.sr (RG.p (PV.move (v := v13) rfl rfl) (RG.ml rfl (RG.ml rfl ?_))))
    refine RG.callF (vs := [v13, _, _]) rfl rfl En238 rfl (visit_s (x := (x : Int)) (y := (y : Int)) Rs.o hl1 (by omega) (by omega) (by rw [Int.toNat_natCast, Int.toNat_natCast]; exact h5) (fun v32 Q hQ => ?_))
    refine RG.p (PV.asg (v := v32) rfl rfl) (RG.nil (WP.sr (RG.p (PV.move (v := v) rfl rfl) (RG.p (PV.len (v := v) rfl Tryz.underlying162 rfl (SlF.r h1)) ?_))))
    refine RG.ot rfl (OT.make (F := boolT) (a0 := false) rfl El162 rfl (by decide) rfl rfl (by omega) (by omega) fun v35 => ?_)
    refine RG.p (PV.asg (v := v35) rfl rfl) (RG.nil (WP.seq (WP.sr (RG.mr rfl (RG.nil (WP.block ?_))))))
    rw [Int.toNat_natCast, Int.toNat_natCast, ← e3] at hQ
    have hQl := hQ.len_le
    have hml : (Q.map ptOf).length = Q.length := by simp
    refine WP.loop3 [0, 3, 4, 5, 6, 7, 8] (fun (i : Nat) (P U : List Bool) => i ≤ Q.length ∧ PQ Q i P ∧ MQ T1 P U) (fun (i : Nat) (P U : List Bool) => [(9, vi i)]) (fun (i : Nat) (P U : List Bool) => osl 4 boolT v35 P :: osl 4 boolT v13 U :: osl 189 ptT v32 (Q.map ptOf) :: osl 162 slT q1 zs1 :: bagS 4 boolT zs1 :: L) (fun (i : Nat) (P U : List Bool) => Q.length - i) 0 (List.replicate S.length false) T1 ⟨by omega, by rw [hS]; exact PQ.zero Q, by rw [hS]; exact MQ.zero hl1⟩ ⟨rfl, trivial⟩ Cv.p ?_
    rintro i P U τ2 ⟨hi, hPQ, hMQ⟩
    refine WP.seq (WP.sr (RG.ml rfl (RG.p (PV.move (v := v32) rfl rfl) (RG.p (PV.len (v := v32) rfl Tryz.underlying262 rfl SlF.o) (RG.p (PV.lss rfl rfl rfl) (RG.nil ?_))))))
    refine WP.cond rfl (fun h6 => ?_) (fun h6 => ?_)
    ·have h6 := of_decide_eq_true h6
     have hPl := hPQ.1
     have hUl := hMQ.1
     have hbq := hQ.bd i (by omega)
     have e5 : gd (Q.map ptOf) i = ⟨(gd Q i).1 - 40, (gd Q i).2 - 40⟩ := gd_pt (by omega)
     have ex : (gd (Q.map ptOf) i).x = (gd Q i).1 - 40 := by rw [e5]
     have ey : (gd (Q.map ptOf) i).y = (gd Q i).2 - 40 := by rw [e5]
     refine WP.skip (WP.seq (WP.block (WP.seq ?_)))
     refine WP.regionHD [.s v35] (.q 0 (.q 1 (.q 2 (.q 3 (.q 4 (.q 5 (.q 6 (.q 7 (.q 8 (.q 9 (.q 10 (.l 11 (.l 12 (.l 13 Sch.nil)))))))))))))) (by kernel_rfl) (by kernel_rfl) (by kernel_rfl) rfl ?_
     refine RH.w rfl rfl (PV.move (v := v35) rfl rfl) (RH.w rfl rfl (PV.move (v := v32) rfl rfl) (RH.w rfl rfl (PV.mvI (.inl rfl) rfl) (RH.w rfl rfl (PV.idxS (v := v32) rfl Is262 rfl SlF.o rfl rfl (by omega)) (RH.w rfl rfl (PV.field rfl Fo189_0 rfl) (RH.w rfl rfl (PV.loadF rfl Sc2 rfl rfl (El.o (getG (by omega))) rfl) (RH.w rfl rfl (PV.move (v := v32) rfl rfl) (RH.w rfl rfl (PV.mvI (.inl rfl) rfl) (RH.w rfl rfl (PV.idxS (v := v32) rfl Is262 rfl SlF.o rfl rfl (by omega)) (RH.w rfl rfl (PV.field rfl Fo189_1 rfl) (RH.w rfl rfl (PV.loadF rfl Sc2 rfl rfl (El.o (getG (by omega))) rfl) ?_))))))))))
     refine RH.ot rfl rfl (OT.callF (vs := [_, _]) rfl En236 rfl (l17At_s (by omega) (by omega) ⟨Gh.le_refl _, PickC.pick, ?_⟩))
     refine RH.ot rfl rfl (OT.pv (PV.idxS (j := (gd Q i).2.toNat * 80 + (gd Q i).1.toNat) (v := v35) rfl Is162 rfl SlF.o rfl (by omega) (by omega)) ⟨Gh.le_refl _, PickC.pick, ?_⟩)
     refine RH.ot rfl rfl (OT.storeE (F := boolT) rfl Sz4 rfl rfl rfl (Cl.c rfl) (OneC.c rfl) (by omega) ⟨Gh.le_refl _, PickC.pick, ?_⟩)
     refine RH.nil ?_
     refine WP.regionHD [.s v13] (.q 0 (.q 1 (.q 2 (.q 3 (.q 4 (.q 5 (.q 6 (.q 7 (.q 8 (.q 9 (.q 10 (.l 11 (.l 12 (.l 13 Sch.nil)))))))))))))) (by kernel_rfl) (by kernel_rfl) (by kernel_rfl) rfl ?_
     refine RH.w rfl rfl (PV.move (v := v13) rfl rfl) (RH.w rfl rfl (PV.move (v := v32) rfl rfl) (RH.w rfl rfl (PV.mvI (.inl rfl) rfl) (RH.w rfl rfl (PV.idxS (v := v32) rfl Is262 rfl SlF.o rfl rfl (by omega)) (RH.w rfl rfl (PV.field rfl Fo189_0 rfl) (RH.w rfl rfl (PV.loadF rfl Sc2 rfl rfl (El.o (getG (by omega))) rfl) (RH.w rfl rfl (PV.move (v := v32) rfl rfl) (RH.w rfl rfl (PV.mvI (.inl rfl) rfl) (RH.w rfl rfl (PV.idxS (v := v32) rfl Is262 rfl SlF.o rfl rfl (by omega)) (RH.w rfl rfl (PV.field rfl Fo189_1 rfl) (RH.w rfl rfl (PV.loadF rfl Sc2 rfl rfl (El.o (getG (by omega))) rfl) ?_))))))))))
     refine RH.ot rfl rfl (OT.callF (vs := [_, _]) rfl En236 rfl (l17At_s (by omega) (by omega) ⟨Gh.le_refl _, PickC.pick, ?_⟩))
     refine RH.ot rfl rfl (OT.pv (PV.idxS (j := (gd Q i).2.toNat * 80 + (gd Q i).1.toNat) (v := v13) rfl Is162 rfl SlF.o rfl (by omega) (by omega)) ⟨Gh.le_refl _, PickC.pick, ?_⟩)
     refine RH.ot rfl rfl (OT.storeE (F := boolT) rfl Sz4 rfl rfl rfl (Cl.c rfl) (OneC.c rfl) (by omega) ⟨Gh.le_refl _, PickC.pick, ?_⟩)
     refine RH.nil ?_
     refine WP.region (RG.ml rfl (RG.p (PV.add rfl rfl rfl (by omega)) (RG.mr rfl (RG.nil ?_))))
     exact ⟨rfl, i + 1, (P.set ((gd Q i).2.toNat * 80 + (gd Q i).1.toNat) true), (U.set ((gd Q i).2.toNat * 80 + (gd Q i).1.toNat) false), ⟨by omega, hPQ.step hbq, hMQ.step hPl (by omega) (by omega)⟩, ⟨rfl, trivial⟩, ⟨rfl, rfl, rfl, rfl, rfl, rfl, rfl, trivial⟩, Cv.p, by omega⟩
    ·have h6 := of_decide_eq_false h6
     obtain rfl : i = Q.length := by omega
     obtain rfl := hPQ.final hQ
     refine WP.exit ?_
     refine WP.region (RG.p (PV.move (v := q1) rfl rfl) (RG.p (PV.move (v := v35) rfl rfl) ?_))
     refine RG.ot rfl (OT.bslice (F := (slT (α := Bool))) (els := [⟨v35, compB T1 (cel (y * 80 + x))⟩]) rfl El193 rfl (by decide) rfl (by decide) ⟨rfl, (Cl.s (v := v35) SlF.o), trivial⟩ fun v70 => ?_)
     refine RG.ot rfl (OT.append (v := q1) (u := v70) (F := (slT (α := Bool))) rfl El193 rfl (by decide) rfl rfl Rs.o (OneL.one (OneC.sl SlF.o OneC.nil)) rfl (by first | omega | (simp <;> omega)) fun v71 => ?_)
     refine RG.p (PV.asg (v := v71) rfl rfl) (RG.nil (WP.region (RG.ml rfl (RG.p (PV.add rfl rfl rfl (by omega)) (RG.mr rfl (RG.nil ?_))))))
     refine ⟨rfl, (x : Int) - 40 + 1, U, (zs1 ++ [⟨v35, compB T1 (cel (y * 80 + x))⟩]), v71, ⟨by omega, ?_⟩, ⟨rfl, rfl, trivial⟩, ⟨rfl, rfl, rfl, trivial⟩, ((Cv.p (C := osl 4 boolT v35 (compB T1 (cel (y * 80 + x))) :: bagS 4 boolT zs1 :: osl 4 boolT v13 U :: osl 162 slT v71 (zs1 ++ [⟨v35, compB T1 (cel (y * 80 + x))⟩]) :: L)).trans (Cv.bagS_add.trans Cv.p)), by omega⟩
     rw [e4, er, List.map_append]
     exact hP1.take (by omega) (by rw [e1, e2]; exact h5) hMQ.1 hMQ.2
  ·have h3 := of_decide_eq_false h3
   obtain rfl : x = 80 := by omega
   refine WP.exit ?_
   refine WP.region (RG.ml rfl (RG.p (PV.add rfl rfl rfl (by omega)) (RG.mr rfl (RG.nil ?_))))
   exact ⟨rfl, (y : Int) - 40 + 1, T1, zs1, q1, ⟨by omega, by rw [show ((y : Int) - 40 + 1 + 40).toNat = y + 1 by omega, Nat.add_mul]; exact hP1⟩, ⟨rfl, rfl, trivial⟩, ⟨rfl, rfl, trivial⟩, Cv.p, by omega⟩
 ·have h2 := of_decide_eq_false h2
  obtain rfl : y = 80 := by omega
  have hz := hP.all
  refine WP.exit ?_
  refine WP.sr (RG.p (PV.move (v := q) rfl rfl) (RG.p (PV.asg (v := q) rfl rfl) (RG.nil ?_)))
  exact WP.ret ⟨_, _, ResV.one rfl rfl, Cv.p, k q zs hz⟩
end Go.Proofs.YtgphjofccckloaaGreat
namespace Go.Proofs.YtgphjofccckloaaGreat
open Go
set_option maxRecDepth 20000
variable {G : Gh} {L : List Ch} {R : Value → Gh → List Ch → Prop}
def regs (xs : List Piece) : List (Sl Rect) := xs.map Piece.reg
theorem regs_len (xs : List Piece) : (regs xs).length = xs.length := by simp [regs]
theorem regs_gd {xs : List Piece} {i : Nat} (h : i < xs.length) : gd (regs xs) i = (gd xs i).reg := gd_map _ h
theorem RsE.reg {xs : List Piece} (h : RsE G L rectT (regs xs)) {i : Nat} (hi : i < xs.length) : Rs G L rectT (gd xs i).reg.v (gd xs i).reg.xs := by
 have := h i (by rw [regs_len]; exact hi); rwa [regs_gd hi] at this
theorem l19Count_s {v : Value} {bs : List Bool} (h1 : Rs G L boolT v bs) (hl : bs.length = 6400) (k : R (vi (cnt bs)) G L) : CallT Tryz.prog 174 #[v] G L R := by
 refine CallT.enter (args := _) Tryz.func174 rfl rfl (by kernel_rfl) rfl ?_
 refine WP.sr (RG.mr rfl (RG.nil (WP.sr (RG.mr rfl (RG.nil (WP.seq (WP.sr (RG.mr rfl (RG.nil (WP.block ?_))))))))))
 refine WP.loop2 [0] (fun (i : Nat) (m : Int) => i ≤ bs.length ∧ m = cnt (bs.take i)) (fun (i : Nat) (m : Int) => [(4, vi i), (3, vi m)]) (fun (i : Nat) (m : Int) => L) (fun (i : Nat) (m : Int) => bs.length - i) 0 0 ⟨by omega, by simp [cnt]⟩ ⟨rfl, rfl, trivial⟩ Cv.p ?_
 rintro i m τ ⟨hi, hm⟩
 refine WP.seq (WP.sr (RG.ml rfl (RG.p (PV.move (v := v) rfl rfl) (RG.p (PV.len (v := v) rfl Tryz.underlying162 rfl (SlF.r h1)) (RG.p (PV.lss rfl rfl rfl) (RG.nil ?_))))))
 refine WP.cond rfl (fun h2 => ?_) (fun h2 => ?_)
 ·have h2 := of_decide_eq_true h2
  have hct := cnt_take (bs := bs) (i := i) (by omega)
  have hcb := cnt_le (bs.take i)
  have hcl : (bs.take i).length ≤ 6400 := by simp; omega
  refine WP.skip (WP.seq (WP.block (WP.sr (RG.p (PV.move (v := v) rfl rfl) (RG.ml rfl (RG.p (PV.idxS (v := v) rfl Is162 rfl (SlF.r h1) rfl rfl (by omega)) (RG.p (PV.loadE1 rfl Sc4 rfl rfl (El.r h1 (getG (by omega))) rfl) (RG.nil ?_))))))))
  refine WP.cond rfl (fun h3 => ?_) (fun h3 => ?_)
  ·rw [h3] at hct
   refine WP.region (RG.ml rfl (RG.p (PV.add rfl rfl rfl (by omega)) (RG.mr rfl (RG.nil (WP.region (RG.ml rfl (RG.p (PV.add rfl rfl rfl (by omega)) (RG.mr rfl (RG.nil ?_)))))))))
   exact ⟨rfl, i + 1, _, ⟨by omega, by simp only [cond_true] at hct; omega⟩, ⟨rfl, rfl, trivial⟩, ⟨rfl, trivial⟩, Cv.p, by omega⟩
  ·rw [h3] at hct
   refine WP.skip (WP.region (RG.ml rfl (RG.p (PV.add rfl rfl rfl (by omega)) (RG.mr rfl (RG.nil ?_)))))
   exact ⟨rfl, i + 1, _, ⟨by omega, by simp only [cond_false] at hct; omega⟩, ⟨rfl, rfl, trivial⟩, ⟨rfl, trivial⟩, Cv.p, by omega⟩
 ·have h2 := of_decide_eq_false h2
  have e : m = cnt bs := by rw [hm, List.take_of_length_le (by omega)]
  rw [← e] at k
  refine WP.exit ?_
  refine WP.sr (RG.ml rfl (RG.mr rfl (RG.nil ?_)))
  exact WP.ret ⟨_, _, ResV.one rfl rfl, Cv.p, k⟩
end Go.Proofs.YtgphjofccckloaaGreat
namespace Go.Proofs.YtgphjofccckloaaGreat
open Go
set_option maxRecDepth 20000
variable {G : Gh} {L : List Ch} {R : Value → Gh → List Ch → Prop}
theorem comps_len (S : List Bool) : (comps S).length ≤ 6400 := by
 have := firsts_len S 6400
 simpa [comps] using this
theorem drop_gd {α : Type} [Inhabited α] {xs : List α} {i : Nat} (h : i < xs.length) : xs.drop i = gd xs i :: xs.drop (i + 1) := by rw [List.drop_eq_getElem_cons h, gd_eq h]
theorem gd_app_at {α : Type} [Inhabited α] {xs ys : List α} {i : Nat} : gd (xs ++ ys) (xs.length + i) = gd ys i := by simp [gd, List.getElem?_append_right]
theorem RsE.right {α : Type} {G : Gh} {L L' : List Ch} {e : TypeId} {F : FT α} {ws xs : List (Sl α)} [hX : ExBg (ws ++ xs) L e F L'] : RsE G L F xs := fun i hi => by
 have := Rs.inBag (G := G) (L := L) (L' := L') (e := e) (F := F) (xs := ws ++ xs) (ws.length + i) (by simp; omega)
 rwa [gd_app_at] at this
theorem WP.sl {α : Type} {P : Program} {n : Nat} {c : Code} {Q : Post} {σ : Nat → Value} {G : Gh} {L : List Ch} {F : FT α} {v : Value} {xs : List α} (h : Rs G L F v xs) (k : IsSl v xs.length → WP P n c Q σ G L) : WP P n c Q σ G L := WP.of fun hk _ _ ha hs => (k (h _ hs).1).run hk ha hs
theorem SlF.i {G : Gh} {L : List Ch} {v : Value} {m : Nat} (h : IsSl v m) : SlF G L v m := fun _ _ => h
theorem Cv.pre {L L' : List Ch} (h : Cv L L') : ∀ A : List Ch, Cv (A ++ L) (A ++ L')
 | [] => h
 | _ :: A => Cv.cons (Cv.pre h A)
theorem Cv.bagJoin {α : Type} {e : TypeId} {F : FT α} {xs ys : List (Sl α)} {L : List Ch} : Cv (bagS e F xs :: bagS e F ys :: L) (bagS e F (xs ++ ys) :: L) := by
 unfold bagS
 refine Cv.ofBag.trans ((Cv.pre Cv.ofBag _).trans ?_)
 rw [← List.append_assoc, ← List.map_append]
 exact Cv.toBag
theorem comps_mem {S : List Bool} {c : List Bool} (h : c ∈ comps S) : c.length = 6400 := by
 obtain ⟨j, _, rfl⟩ := List.mem_map.1 h; exact compB_len _ _
end Go.Proofs.YtgphjofccckloaaGreat
namespace Go.Proofs.YtgphjofccckloaaGreat
open Go
theorem costL_bd {α : Type} {n : α → Int} {B : Int} : ∀ {xs : List α}, (∀ x ∈ xs, n x ≤ B) → costL n xs ≤ B * xs.length
 | [], _ => by simp [costL]
 | x :: xs, h => by
  have h1 := h x (.head _)
  have h2 := costL_bd (xs := xs) fun y hy => h y (.tail _ hy)
  simp only [costL, List.length_cons]; rw [Int.natCast_succ, Int.mul_add]; omega
def cmn (a b : Rect) : Rect := ⟨max a.x0 b.x0, max a.y0 b.y0, min a.x1 b.x1, min a.y1 b.y1⟩
theorem validR_iff {r : Rect} : validRect r = true ↔ -40 ≤ r.x0 ∧ r.x0 < r.x1 ∧ r.x1 ≤ 40 ∧ -40 ≤ r.y0 ∧ r.y0 < r.y1 ∧ r.y1 ≤ 40 := by simp [validRect, and_assoc]
theorem inR_iff {r : Rect} {y x : Nat} : inR r y x = true ↔ r.x0 + 40 ≤ x ∧ (x : Int) < r.x1 + 40 ∧ r.y0 + 40 ≤ y ∧ (y : Int) < r.y1 + 40 := by simp [inR, and_assoc]
theorem valid_mem {xs : List Rect} (h : validRs xs = true) {r : Rect} (hr : r ∈ xs) : validRect r = true := by
 simp only [validRs, Bool.and_eq_true, List.all_eq_true] at h; exact h.2 r hr
theorem gb_bits_iff {rs : List Rect} {y x : Nat} (hy : y < 80) (hx : x < 80) : gb (bits rs) y x = true ↔ ∃ r ∈ rs, inR r y x = true := by
 rw [gb_bits' rs hy hx, List.any_eq_true]
def rl (lo hi c : Int) : Int := if c = hi then lo else c
def stepJ (J : Nat → Nat → Bool) (i : Nat) (cls : List Int) (k : Nat) : List Int := if gd cls k = gd cls i ∨ J k i = false then cls else cls.map (rl (min (gd cls k) (gd cls i)) (max (gd cls k) (gd cls i)))
def Rt (cls : List Int) : Prop := ∀ j, j < cls.length → 0 ≤ gd cls j ∧ gd cls j ≤ j ∧ gd cls (gd cls j).toNat = gd cls j
theorem Rt.map {cls : List Int} (h : Rt cls) {lo hi : Int} (hl : lo < hi) {k : Nat} (hk : k < cls.length) (hlo : gd cls k = lo) : Rt (cls.map (rl lo hi)) := fun j hj => by
 have hj : j < cls.length := by simpa using hj
 obtain ⟨h1, h2, h3⟩ := h j hj
 obtain ⟨g1, g2, g3⟩ := h k hk
 rw [gd_map _ hj]
 unfold rl
 split
 ·rename_i e
  refine ⟨by omega, by omega, ?_⟩
  rw [gd_map _ (by omega), hlo] at *
  rw [g3, if_neg (by omega)]
 ·rename_i e
  refine ⟨h1, h2, ?_⟩
  rw [gd_map _ (by omega), h3, if_neg e]
theorem Rt.step {cls : List Int} (h : Rt cls) {J : Nat → Nat → Bool} {i k : Nat} (hi : i < cls.length) (hk : k < cls.length) : Rt (stepJ J i cls k) := by
 unfold stepJ
 split
 ·exact h
 ·rename_i e
  rw [not_or] at e
  by_cases c : gd cls k < gd cls i
  ·exact h.map (by omega) hk (by omega)
  ·exact h.map (k := i) (by omega) hi (by omega)
end Go.Proofs.YtgphjofccckloaaGreat
namespace Go.Proofs.YtgphjofccckloaaGreat
open Go
set_option maxRecDepth 20000
variable {G : Gh} {L : List Ch} {R : Value → Gh → List Ch → Prop}
theorem WP.cut4 {P : Program} {n : Nat} {Q : Post} {σ : Nat → Value} {x y : Code} {A B D E : Type} (keep : List Nat) (J : A → B → D → E → Prop) (S : A → B → D → E → List (Nat × Value)) (C : A → B → D → E → List Ch)
  (h : WP P n x (thenP (fun σ' G' L' => G' = G ∧ ∃ a b d e, J a b d e ∧ HasV σ' (S a b d e) ∧ Keeps σ' σ keep ∧ Cv L' (C a b d e)) Q) σ G L)
  (k : ∀ a b d e τ, J a b d e → WP P n y Q (upds (updk τ σ keep) (S a b d e)) G (C a b d e)) : WP P n (.seq x y) Q σ G L :=
 WP.cut1 keep (A := A × B × D × E) (fun x => J x.1 x.2.1 x.2.2.1 x.2.2.2) (fun x => S x.1 x.2.1 x.2.2.1 x.2.2.2) (fun x => C x.1 x.2.1 x.2.2.1 x.2.2.2) (WP.mono h fun e σ G L hq => by
   cases e with
   | normal => obtain ⟨e, a', b', d', e', h⟩ := hq; exact ⟨e, (a', b', d', e'), h⟩
   | _ => exact hq) fun a τ j => k a.1 a.2.1 a.2.2.1 a.2.2.2 τ j
theorem common_s {a b : Rect} (k : R (vrect (cmn a b)) G L) : CallT Tryz.prog 249 #[vrect a, vrect b] G L R := by
 refine CallT.enter (args := _) Tryz.func249 rfl rfl (by kernel_rfl) rfl ?_
 refine WP.sr ?_
 refine RG.ot rfl (OT.box (cs := rectT.enc a) rfl rfl rfl fun b2 => ?_)
 refine RG.ot rfl (OT.box (cs := rectT.enc b) rfl rfl rfl fun b3 => ?_)
 refine RG.ot rfl (OT.alloc rfl Zr91 fun b4 => ?_)
 refine RG.nil (WP.sr (RG.p (PV.field rfl Fo91_0 rfl) (RG.p (PV.load1 rfl Sc2 rfl (Rd.blk rfl)) (RG.p (PV.field rfl Fo91_0 rfl) (RG.p (PV.load1 rfl Sc2 rfl (Rd.blk rfl)) (RG.p (PV.max2 rfl rfl rfl) (RG.p (PV.field rfl Fo91_1 rfl) (RG.p (PV.load1 rfl Sc2 rfl (Rd.blk rfl)) (RG.p (PV.field rfl Fo91_1 rfl) (RG.p (PV.load1 rfl Sc2 rfl (Rd.blk rfl)) (RG.p (PV.max2 rfl rfl rfl) (RG.p (PV.field rfl Fo91_2 rfl) ?_))))))))))))
 refine RG.p (PV.load1 rfl Sc2 rfl (Rd.blk rfl)) (RG.p (PV.field rfl Fo91_2 rfl) (RG.p (PV.load1 rfl Sc2 rfl (Rd.blk rfl)) (RG.p (PV.min2 rfl rfl rfl) (RG.p (PV.field rfl Fo91_3 rfl) (RG.p (PV.load1 rfl Sc2 rfl (Rd.blk rfl)) (RG.p (PV.field rfl Fo91_3 rfl) (RG.p (PV.load1 rfl Sc2 rfl (Rd.blk rfl)) (RG.p (PV.min2 rfl rfl rfl) (RG.p (PV.build (vs := [(0, [vi _]), (1, [vi _]), (2, [vi _]), (3, [vi _])]) (out := [_, _, _, _]) rfl Zr91 Pl91 ⟨rfl, (Cl.c rfl), ⟨rfl, (Cl.c rfl), ⟨rfl, (Cl.c rfl), ⟨rfl, (Cl.c rfl), trivial⟩⟩⟩⟩ rfl) ?_)))))))))
 refine RG.ot rfl (OT.storeW (vs := [vi _, vi _, vi _, vi _]) rfl Sz91 rfl rfl (Cl.c rfl) rfl rfl (OneC.c rfl) ?_)
 refine RG.nil ?_
 exact WP.ret ⟨_, _, ResV.one rfl (RV1.cell rfl Ag91 rfl), Cv.p, k⟩
theorem gd_mem {α : Type} [Inhabited α] {xs : List α} {i : Nat} (h : i < xs.length) : gd xs i ∈ xs := by rw [gd_eq h]; exact List.getElem_mem h
end Go.Proofs.YtgphjofccckloaaGreat
namespace Go.Proofs.YtgphjofccckloaaGreat
open Go
set_option maxRecDepth 20000
variable {G : Gh} {L : List Ch} {R : Value → Gh → List Ch → Prop}
theorem at_eq {x y : Int} (hx : -40 ≤ x) (hy : -40 ≤ y) : ((y + 40) * 80 + x + 40).toNat = (y + 40).toNat * 80 + (x + 40).toNat := by omega
theorem fill_s {v : Value} {D : List Bool} {r : Rect} (hD : D.length = 6400) (hr : validRect r = true) (k : ∀ D' : List Bool, D'.length = 6400 → (∀ y x, y < 80 → x < 80 → gb D' y x = (gb D y x || inR r y x)) → R v G (osl 4 boolT v D' :: L)) :
  CallT Tryz.prog 179 #[v, vrect r] G (osl 4 boolT v D :: L) R := by
 have hv := validR_iff.1 hr
 refine CallT.enter (args := _) Tryz.func179 rfl rfl (by kernel_rfl) rfl ?_
 refine WP.sr ?_
 refine RG.ot rfl (OT.box (cs := rectT.enc r) rfl rfl rfl fun b3 => ?_)
 refine RG.p (PV.asg rfl rfl) (RG.nil (WP.seq (WP.sr (RG.p (PV.field rfl Fo91_1 rfl) (RG.p (PV.load1 rfl Sc2 rfl (Rd.blk rfl)) (RG.mr rfl (RG.nil (WP.block ?_))))))))
 refine WP.loop2 [0, 3] (fun (y : Int) (E : List Bool) => r.y0 ≤ y ∧ y ≤ r.y1 ∧ E.length = 6400 ∧ ∀ v u : Nat, v < 80 → u < 80 → (gb E v u = true ↔ gb D v u = true ∨ (inR r v u = true ∧ (v : Int) - 40 < y))) (fun (y : Int) (E : List Bool) => [(5, vi y)]) (fun (y : Int) (E : List Bool) => osl 4 boolT v E :: blk b3 91 (rectT.enc r) :: L) (fun (y : Int) (E : List Bool) => (r.y1 - y).toNat) r.y0 D ⟨by omega, by omega, hD, fun v u hv hu => ⟨.inl, fun h => h.resolve_right fun ⟨h1, h2⟩ => by rw [inR_iff] at h1; omega⟩⟩ ⟨rfl, trivial⟩ Cv.p ?_
 rintro y E τ ⟨hy0, hy1, hE, hg⟩
 refine WP.seq (WP.sr (RG.ml rfl (RG.p (PV.field rfl Fo91_3 rfl) (RG.p (PV.load1 rfl Sc2 rfl (Rd.blk rfl)) (RG.p (PV.lss rfl rfl rfl) (RG.nil ?_))))))
 refine WP.cond rfl (fun h2 => ?_) (fun h2 => ?_)
 ·have h2 := of_decide_eq_true h2
  refine WP.skip (WP.seq (WP.block (WP.sr (RG.p (PV.field rfl Fo91_0 rfl) (RG.p (PV.load1 rfl Sc2 rfl (Rd.blk rfl)) (RG.mr rfl (RG.nil (WP.block ?_))))))))
  refine WP.loop2 [0, 3, 5] (fun (x : Int) (F : List Bool) => r.x0 ≤ x ∧ x ≤ r.x1 ∧ F.length = 6400 ∧ ∀ v u : Nat, v < 80 → u < 80 → (gb F v u = true ↔ gb E v u = true ∨ ((v : Int) - 40 = y ∧ r.x0 ≤ (u : Int) - 40 ∧ (u : Int) - 40 < x))) (fun (x : Int) (F : List Bool) => [(6, vi x)]) (fun (x : Int) (F : List Bool) => osl 4 boolT v F :: blk b3 91 (rectT.enc r) :: L) (fun (x : Int) (F : List Bool) => (r.x1 - x).toNat) r.x0 E ⟨by omega, by omega, hE, fun v u hv hu => ⟨.inl, fun h => h.resolve_right fun ⟨h1, h2, h3⟩ => by omega⟩⟩ ⟨rfl, trivial⟩ Cv.p ?_
  rintro x F τ1 ⟨hx0, hx1, hF, hf⟩
  refine WP.seq (WP.sr (RG.ml rfl (RG.p (PV.field rfl Fo91_2 rfl) (RG.p (PV.load1 rfl Sc2 rfl (Rd.blk rfl)) (RG.p (PV.lss rfl rfl rfl) (RG.nil ?_))))))
  refine WP.cond rfl (fun h3 => ?_) (fun h3 => ?_)
  ·have h3 := of_decide_eq_true h3
   have hat := at_eq (x := x) (y := y) (by omega) (by omega)
   refine WP.skip (WP.seq (WP.block (WP.region (RG.p (PV.move (v := v) rfl rfl) (RG.ml rfl (RG.ml rfl ?_))))))
   refine RG.callF (vs := [_, _]) rfl rfl En236 rfl (l17At_s (by omega) (by omega) ?_)
   refine RG.p (PV.idxS (j := ((y + 40) * 80 + x + 40).toNat) (v := v) rfl Is162 rfl SlF.o rfl (by omega) (by omega)) ?_
   refine RG.ot rfl (OT.storeE (F := boolT) rfl Sz4 rfl rfl rfl (Cl.c rfl) (OneC.c rfl) (by omega) ?_)
   refine RG.nil (WP.region (RG.ml rfl (RG.p (PV.add rfl rfl rfl (by omega)) (RG.mr rfl (RG.nil ?_)))))
   refine ⟨rfl, x + 1, (F.set ((y + 40) * 80 + x + 40).toNat true), ⟨by omega, by omega, by simpa using hF, fun v u hv hu => ?_⟩, ⟨rfl, trivial⟩, ⟨rfl, rfl, rfl, trivial⟩, Cv.p, by omega⟩
   rw [hat, gb_set' hF (by omega) (by omega) hu]
   by_cases c : v = (y + 40).toNat ∧ u = (x + 40).toNat
   ·rw [if_pos c]; simp only [true_iff]; right; omega
   ·rw [if_neg c, hf v u hv hu]
    constructor
    ·rintro (h | h)
     ·exact .inl h
     ·right; omega
    ·rintro (h | h)
     ·exact .inl h
     ·right; omega
  ·have h3 := of_decide_eq_false h3
   refine WP.exit ?_
   refine WP.region (RG.ml rfl (RG.p (PV.add rfl rfl rfl (by omega)) (RG.mr rfl (RG.nil ?_))))
   refine ⟨rfl, y + 1, F, ⟨by omega, by omega, hF, fun v u hv hu => ?_⟩, ⟨rfl, trivial⟩, ⟨rfl, rfl, trivial⟩, Cv.p, by omega⟩
   rw [hf v u hv hu, hg v u hv hu, inR_iff]
   constructor
   ·rintro ((h | h) | h)
    ·exact .inl h
    ·right; omega
    ·right; omega
   ·rintro (h | h)
    ·exact .inl (.inl h)
    ·by_cases c : (v : Int) - 40 = y
     ·right; omega
     ·left; right; omega
 ·have h2 := of_decide_eq_false h2
  have hk : ∀ v u, v < 80 → u < 80 → gb E v u = (gb D v u || inR r v u) := fun v u hv hu => by
   rw [Bool.eq_iff_iff, hg v u hv hu, Bool.or_eq_true]
   constructor
   ·rintro (h | h)
    ·exact .inl h
    ·exact .inr h.1
   ·rintro (h | h)
    ·exact .inl h
    ·right; refine ⟨h, ?_⟩; rw [inR_iff] at h; omega
  refine WP.exit ?_
  refine WP.sr (RG.p (PV.move (v := v) rfl rfl) (RG.p (PV.asg (v := v) rfl rfl) (RG.nil ?_)))
  exact WP.ret ⟨_, _, ResV.one rfl rfl, Cv.p, k E hE hk⟩
end Go.Proofs.YtgphjofccckloaaGreat
namespace Go.Proofs.YtgphjofccckloaaGreat
open Go
set_option maxRecDepth 20000
variable {G : Gh} {L : List Ch} {R : Value → Gh → List Ch → Prop}
def celB (S : List Bool) (x y : Int) : Bool := (decide (-40 ≤ x ∧ x < 40) && decide (-40 ≤ y ∧ y < 40)) && gd S ((y + 40) * 80 + x + 40).toNat
def cv (S : List Bool) (ver : Bool) (l k : Int) : Bool := celB S (bif ver then l else k) (bif ver then k else l)
def lineR (ver : Bool) (l lo hi : Int) : Rect := bif ver then ⟨l, lo, l + 1, hi⟩ else ⟨lo, l, hi, l + 1⟩
theorem celB_rng {S : List Bool} {x y : Int} (h : celB S x y = true) : (-40 ≤ x ∧ x < 40) ∧ (-40 ≤ y ∧ y < 40) := by
 simp only [celB, Bool.and_eq_true, decide_eq_true_eq] at h; exact h.1
theorem cv_rng {S : List Bool} {ver : Bool} {l k : Int} (h : cv S ver l k = true) : (-40 ≤ l ∧ l < 40) ∧ (-40 ≤ k ∧ k < 40) := by
 have := celB_rng h
 cases ver
 ·exact ⟨this.2, this.1⟩
 ·exact this
structure isRun (S : List Bool) (ver : Bool) (l k lo hi : Int) : Prop where
  lk : lo ≤ k ∧ k < hi
  rng : (-40 ≤ lo ∧ hi ≤ 40) ∧ (-40 ≤ l ∧ l < 40)
  all : ∀ u, lo ≤ u → u < hi → cv S ver l u = true
  low : cv S ver l (lo - 1) = false
  high : cv S ver l hi = false
theorem l17Cel_s {v : Value} {S : List Bool} {x y : Int} (h1 : Rs G L boolT v S) (hS : S.length = 6400) (k : R (.bool (celB S x y)) G L) : CallT Tryz.prog 265 #[v, vi x, vi y] G L R := l17Cell_s h1 hS k
theorem run_s {v : Value} {S : List Bool} {ver : Bool} {l k0 : Int} (h1 : Rs G L boolT v S) (hS : S.length = 6400) (hc : cv S ver l k0 = true) (k : ∀ lo hi, isRun S ver l k0 lo hi → R (vrect (lineR ver l lo hi)) G L) : CallT Tryz.prog 266 #[v, vi (bif ver then l else k0), vi (bif ver then k0 else l), .bool ver] G L R := by
 have hr := cv_rng hc
 cases ver with
 | true =>
  have q1 : (bif true then l else k0) = l := rfl
  have q2 : (bif true then k0 else l) = k0 := rfl
  refine CallT.enter (args := _) Tryz.func266 rfl rfl (by kernel_rfl) rfl ?_
  refine WP.sr ?_
  refine RG.ot rfl (OT.alloc rfl Zr91 fun b8 => ?_)
  refine RG.nil (WP.sr (RG.ml rfl (RG.ml rfl (RG.p (PV.add rfl rfl rfl (by omega)) (RG.mr rfl (RG.mr rfl (RG.nil (WP.seq (WP.sr (RG.bl rfl (RG.nil ?_)))))))))))
  refine WP.cond rfl (fun h2 => ?_) (fun h2 => ?_)
  ·refine WP.seq ?_
   refine WP.region (RG.ml rfl (RG.ml rfl (RG.p (PV.add rfl rfl rfl (by omega)) (RG.mr rfl (RG.mr rfl (RG.nil (WP.seq (WP.block ?_))))))))
   refine WP.loop1 [0, 1, 8, 10] (fun (lo : Int) => (-40 ≤ lo ∧ lo ≤ k0) ∧ ∀ u, lo ≤ u → u ≤ k0 → cv S true l u = true) (fun (lo : Int) => [(9, vi lo)]) (fun (lo : Int) => blk b8 91 [vi 0, vi 0, vi 0, vi 0] :: L) (fun (lo : Int) => (lo + 41).toNat) k0 ⟨by omega, fun u h3 h4 => by rw [show u = k0 by omega]; exact hc⟩ ⟨rfl, trivial⟩ Cv.p ?_
   rintro lo τ ⟨hlo, ha⟩
   refine WP.seq (WP.sr (RG.p (PV.move (v := v) rfl rfl) (RG.ml rfl (RG.ml rfl (RG.p (PV.sub rfl rfl rfl (by omega)) ?_)))))
   refine RG.callF (vs := [v, _, _]) rfl rfl En265 rfl (l17Cel_s (Rs.up h1) hS ?_)
   refine RG.nil ?_
   refine WP.cond rfl (fun h3 => ?_) (fun h3 => ?_)
   ·have h4 : cv S true l (lo - 1) = true := h3
    have h5 := cv_rng h4
    have ha' : ∀ u, lo - 1 ≤ u → u ≤ k0 → cv S true l u = true := fun u g1 g2 => by
     by_cases c : u = lo - 1
     ·rw [c]; exact h4
     ·exact ha u (by omega) g2
    refine WP.skip (WP.block (WP.region (RG.ml rfl (RG.p (PV.sub rfl rfl rfl (by omega)) (RG.mr rfl (RG.nil ?_))))))
    exact ⟨rfl, lo - 1, ⟨by omega, ha'⟩, ⟨rfl, trivial⟩, ⟨rfl, rfl, rfl, rfl, trivial⟩, Cv.p, by omega⟩
   ·have h4 : cv S true l (lo - 1) = false := h3
    refine WP.exit ?_
    refine WP.seq (WP.block ?_)
    refine WP.loop1 [0, 1, 8, 9] (fun (hi : Int) => (k0 < hi ∧ hi ≤ 40) ∧ ∀ u, k0 ≤ u → u < hi → cv S true l u = true) (fun (hi : Int) => [(10, vi hi)]) (fun (hi : Int) => blk b8 91 [vi 0, vi 0, vi 0, vi 0] :: L) (fun (hi : Int) => (41 - hi).toNat) (k0 + 1) ⟨by omega, fun u h3 h4 => by rw [show u = k0 by omega]; exact hc⟩ ⟨rfl, trivial⟩ Cv.p ?_
    rintro hi τ1 ⟨hhi, hb⟩
    refine WP.seq (WP.sr (RG.p (PV.move (v := v) rfl rfl) (RG.ml rfl (RG.ml rfl ?_))))
    refine RG.callF (vs := [v, _, _]) rfl rfl En265 rfl (l17Cel_s (Rs.up h1) hS ?_)
    refine RG.nil ?_
    refine WP.cond rfl (fun h5 => ?_) (fun h5 => ?_)
    ·have h6 : cv S true l hi = true := h5
     have h7 := cv_rng h6
     have hb' : ∀ u, k0 ≤ u → u < hi + 1 → cv S true l u = true := fun u g1 g2 => by
      by_cases c : u = hi
      ·rw [c]; exact h6
      ·exact hb u g1 (by omega)
     refine WP.skip (WP.block (WP.region (RG.ml rfl (RG.p (PV.add rfl rfl rfl (by omega)) (RG.mr rfl (RG.nil ?_))))))
     exact ⟨rfl, hi + 1, ⟨by omega, hb'⟩, ⟨rfl, trivial⟩, ⟨rfl, rfl, rfl, rfl, trivial⟩, Cv.p, by omega⟩
    ·have h6 : cv S true l hi = false := h5
     have hrun : isRun S true l k0 lo hi := ⟨by omega, by omega, fun u g1 g2 => by
      by_cases c : u ≤ k0
      ·exact ha u g1 c
      ·exact hb u (by omega) g2, h4, h6⟩
     refine WP.exit ?_
     refine WP.sr (RG.ml rfl (RG.ml rfl (RG.ml rfl (RG.p (PV.add rfl rfl rfl (by omega)) (RG.ml rfl (RG.p (PV.build (vs := [(0, [vi _]), (1, [vi _]), (2, [vi _]), (3, [vi _])]) (out := [_, _, _, _]) rfl Zr91 Pl91 ⟨rfl, (Cl.c rfl), ⟨rfl, (Cl.c rfl), ⟨rfl, (Cl.c rfl), ⟨rfl, (Cl.c rfl), trivial⟩⟩⟩⟩ rfl) ?_))))))
     refine RG.ot rfl (OT.storeW (vs := [vi _, vi _, vi _, vi _]) rfl Sz91 rfl rfl (Cl.c rfl) rfl rfl (OneC.c rfl) ?_)
     refine RG.nil ?_
     exact WP.ret ⟨_, _, ResV.one rfl (RV1.cell rfl Ag91 rfl), Cv.p, k lo hi hrun⟩
  ·cases h2
 | false =>
  have q1 : (bif false then l else k0) = k0 := rfl
  have q2 : (bif false then k0 else l) = l := rfl
  refine CallT.enter (args := _) Tryz.func266 rfl rfl (by kernel_rfl) rfl ?_
  refine WP.sr ?_
  refine RG.ot rfl (OT.alloc rfl Zr91 fun b8 => ?_)
  refine RG.nil (WP.sr (RG.ml rfl (RG.ml rfl (RG.p (PV.add rfl rfl rfl (by omega)) (RG.mr rfl (RG.mr rfl (RG.nil (WP.seq (WP.sr (RG.bl rfl (RG.nil ?_)))))))))))
  refine WP.cond rfl (fun h2 => ?_) (fun h2 => ?_)
  ·cases h2
  ·refine WP.skip ?_
   refine WP.seq (WP.block ?_)
   refine WP.loop1 [0, 2, 8, 10] (fun (lo : Int) => (-40 ≤ lo ∧ lo ≤ k0) ∧ ∀ u, lo ≤ u → u ≤ k0 → cv S false l u = true) (fun (lo : Int) => [(9, vi lo)]) (fun (lo : Int) => blk b8 91 [vi 0, vi 0, vi 0, vi 0] :: L) (fun (lo : Int) => (lo + 41).toNat) k0 ⟨by omega, fun u h3 h4 => by rw [show u = k0 by omega]; exact hc⟩ ⟨rfl, trivial⟩ Cv.p ?_
   rintro lo τ ⟨hlo, ha⟩
   refine WP.seq (WP.sr (RG.p (PV.move (v := v) rfl rfl) (RG.ml rfl (RG.p (PV.sub rfl rfl rfl (by omega)) (RG.ml rfl ?_)))))
   refine RG.callF (vs := [v, _, _]) rfl rfl En265 rfl (l17Cel_s (Rs.up h1) hS ?_)
   refine RG.nil ?_
   refine WP.cond rfl (fun h3 => ?_) (fun h3 => ?_)
   ·have h4 : cv S false l (lo - 1) = true := h3
    have h5 := cv_rng h4
    have ha' : ∀ u, lo - 1 ≤ u → u ≤ k0 → cv S false l u = true := fun u g1 g2 => by
     by_cases c : u = lo - 1
     ·rw [c]; exact h4
     ·exact ha u (by omega) g2
    refine WP.skip (WP.block (WP.region (RG.ml rfl (RG.p (PV.sub rfl rfl rfl (by omega)) (RG.mr rfl (RG.nil ?_))))))
    exact ⟨rfl, lo - 1, ⟨by omega, ha'⟩, ⟨rfl, trivial⟩, ⟨rfl, rfl, rfl, rfl, trivial⟩, Cv.p, by omega⟩
   ·have h4 : cv S false l (lo - 1) = false := h3
    refine WP.exit ?_
    refine WP.seq (WP.block ?_)
    refine WP.loop1 [0, 2, 8, 9] (fun (hi : Int) => (k0 < hi ∧ hi ≤ 40) ∧ ∀ u, k0 ≤ u → u < hi → cv S false l u = true) (fun (hi : Int) => [(10, vi hi)]) (fun (hi : Int) => blk b8 91 [vi 0, vi 0, vi 0, vi 0] :: L) (fun (hi : Int) => (41 - hi).toNat) (k0 + 1) ⟨by omega, fun u h3 h4 => by rw [show u = k0 by omega]; exact hc⟩ ⟨rfl, trivial⟩ Cv.p ?_
    rintro hi τ1 ⟨hhi, hb⟩
    refine WP.seq (WP.sr (RG.p (PV.move (v := v) rfl rfl) (RG.ml rfl (RG.ml rfl ?_))))
    refine RG.callF (vs := [v, _, _]) rfl rfl En265 rfl (l17Cel_s (Rs.up h1) hS ?_)
    refine RG.nil ?_
    refine WP.cond rfl (fun h5 => ?_) (fun h5 => ?_)
    ·have h6 : cv S false l hi = true := h5
     have h7 := cv_rng h6
     have hb' : ∀ u, k0 ≤ u → u < hi + 1 → cv S false l u = true := fun u g1 g2 => by
      by_cases c : u = hi
      ·rw [c]; exact h6
      ·exact hb u g1 (by omega)
     refine WP.skip (WP.block (WP.region (RG.ml rfl (RG.p (PV.add rfl rfl rfl (by omega)) (RG.mr rfl (RG.nil ?_))))))
     exact ⟨rfl, hi + 1, ⟨by omega, hb'⟩, ⟨rfl, trivial⟩, ⟨rfl, rfl, rfl, rfl, trivial⟩, Cv.p, by omega⟩
    ·have h6 : cv S false l hi = false := h5
     have hrun : isRun S false l k0 lo hi := ⟨by omega, by omega, fun u g1 g2 => by
      by_cases c : u ≤ k0
      ·exact ha u g1 c
      ·exact hb u (by omega) g2, h4, h6⟩
     refine WP.exit ?_
     refine WP.sr (RG.ml rfl (RG.ml rfl (RG.ml rfl (RG.ml rfl (RG.p (PV.add rfl rfl rfl (by omega)) (RG.p (PV.build (vs := [(0, [vi _]), (1, [vi _]), (2, [vi _]), (3, [vi _])]) (out := [_, _, _, _]) rfl Zr91 Pl91 ⟨rfl, (Cl.c rfl), ⟨rfl, (Cl.c rfl), ⟨rfl, (Cl.c rfl), ⟨rfl, (Cl.c rfl), trivial⟩⟩⟩⟩ rfl) ?_))))))
     refine RG.ot rfl (OT.storeW (vs := [vi _, vi _, vi _, vi _]) rfl Sz91 rfl rfl (Cl.c rfl) rfl rfl (OneC.c rfl) ?_)
     refine RG.nil ?_
     exact WP.ret ⟨_, _, ResV.one rfl (RV1.cell rfl Ag91 rfl), Cv.p, k lo hi hrun⟩
structure RunsOf (S : List Bool) (ver : Bool) (out : List Rect) : Prop where
  len : out.length ≤ 6400
  run : ∀ r ∈ out, ∃ l k lo hi, isRun S ver l k lo hi ∧ r = lineR ver l lo hi
  all : ∀ l k, cv S ver l k = true → ∃ lo hi, isRun S ver l k lo hi ∧ lineR ver l lo hi ∈ out
theorem run_start {S : List Bool} {ver : Bool} {l : Int} : ∀ (n : Nat) (k : Int), (k + 41).toNat = n → cv S ver l k = true → ∃ s, s ≤ k ∧ cv S ver l (s - 1) = false ∧ ∀ u, s ≤ u → u ≤ k → cv S ver l u = true := by
 intro n
 induction n with
 | zero => intro k hk h; have := cv_rng h; omega
 | succ n ih =>
  intro k hk h
  have hr := cv_rng h
  cases hb : cv S ver l (k - 1) with
  | false => exact ⟨k, Int.le_refl _, hb, fun u h1 h2 => by rw [show u = k by omega]; exact h⟩
  | true =>
   obtain ⟨s, h1, h2, h3⟩ := ih (k - 1) (by omega) hb
   refine ⟨s, by omega, h2, fun u g1 g2 => ?_⟩
   by_cases c : u = k
   ·rw [c]; exact h
   ·exact h3 u g1 (by omega)
theorem isRun.mv {S : List Bool} {ver : Bool} {l s k lo hi : Int} (h : isRun S ver l s lo hi) (h1 : s ≤ k) (h2 : ∀ u, s ≤ u → u ≤ k → cv S ver l u = true) : isRun S ver l k lo hi := by
 refine ⟨⟨by have := h.lk; omega, ?_⟩, h.rng, h.all, h.low, h.high⟩
 by_cases c : k < hi
 ·exact c
 ·have := h2 hi (by have := h.lk; omega) (by omega)
  rw [h.high] at this; cases this
def Seen (S : List Bool) (ver : Bool) (out : List Rect) (i k : Int) : Prop := ∀ l s, (l < i ∨ (l = i ∧ s < k)) → cv S ver l s = true → cv S ver l (s - 1) = false → ∃ lo hi, isRun S ver l s lo hi ∧ lineR ver l lo hi ∈ out
theorem Seen.next {S : List Bool} {ver : Bool} {out : List Rect} {i k : Int} (h : Seen S ver out i k) (hc : (cv S ver i k && !cv S ver i (k - 1)) = false) : Seen S ver out i (k + 1) := fun l s h1 h2 h3 => by
 by_cases c : l = i ∧ s = k
 ·rw [c.1, c.2] at h2 h3; rw [h2, h3] at hc; cases hc
 ·exact h l s (by omega) h2 h3
theorem Seen.add {S : List Bool} {ver : Bool} {out : List Rect} {i k lo hi : Int} (h : Seen S ver out i k) (hr : isRun S ver i k lo hi) : Seen S ver (out ++ [lineR ver i lo hi]) i (k + 1) := fun l s h1 h2 h3 => by
 by_cases c : l = i ∧ s = k
 ·rw [c.1, c.2]; exact ⟨lo, hi, hr, by simp⟩
 ·obtain ⟨a, b, g1, g2⟩ := h l s (by omega) h2 h3
  exact ⟨a, b, g1, List.mem_append_left _ g2⟩
theorem Seen.all {S : List Bool} {ver : Bool} {out : List Rect} (h : Seen S ver out 40 (-40)) : ∀ l k, cv S ver l k = true → ∃ lo hi, isRun S ver l k lo hi ∧ lineR ver l lo hi ∈ out := fun l k hk => by
 obtain ⟨s, h1, h2, h3⟩ := run_start _ k rfl hk
 have hr := cv_rng hk
 obtain ⟨lo, hi, g1, g2⟩ := h l s (by omega) (h3 s (Int.le_refl _) h1) h2
 exact ⟨lo, hi, g1.mv h1 h3, g2⟩
def RunL (S : List Bool) (ver : Bool) (out : List Rect) : Prop := ∀ r ∈ out, ∃ l k lo hi, isRun S ver l k lo hi ∧ r = lineR ver l lo hi
theorem RunL.add {S : List Bool} {ver : Bool} {out : List Rect} {i k lo hi : Int} (h : RunL S ver out) (hr : isRun S ver i k lo hi) : RunL S ver (out ++ [lineR ver i lo hi]) := fun r hm => by
 rcases List.mem_append.1 hm with h1 | h1
 ·exact h r h1
 ·simp only [List.mem_singleton] at h1; exact ⟨i, k, lo, hi, hr, h1⟩
theorem RunL.nil {S : List Bool} {ver : Bool} : RunL S ver [] := fun r h => by cases h
theorem Seen.init {S : List Bool} {ver : Bool} {out : List Rect} : Seen S ver out (-40) (-40) := fun l s h1 h2 h3 => by have := cv_rng h2; omega
theorem Seen.line {S : List Bool} {ver : Bool} {out : List Rect} {i : Int} (h : Seen S ver out i 40) : Seen S ver out (i + 1) (-40) := fun l s h1 h2 h3 => by
 have := cv_rng h2
 exact h l s (by omega) h2 h3
theorem runs_s {v : Value} {S : List Bool} {ver : Bool} (h1 : Rs G L boolT v S) (hS : S.length = 6400) (k : ∀ v' out, RunsOf S ver out → R v' G (osl 91 rectT v' out :: L)) : CallT Tryz.prog 234 #[v, .bool ver] G L R := by
 refine CallT.enter (args := _) Tryz.func234 rfl rfl (by kernel_rfl) rfl ?_
 refine WP.sr (RG.p (PV.asg rfl rfl) (RG.nil (WP.sr ?_)))
 refine RG.ot rfl (OT.bslice (F := rectT) (els := []) rfl El50 rfl (by decide) rfl (by decide) trivial fun v11 => ?_)
 refine RG.p (PV.asg (v := v11) rfl rfl) (RG.nil (WP.seq (WP.sr (RG.mr rfl (RG.nil (WP.block ?_))))))
 refine WP.loop3 [0, 1] (fun (i : Int) (out : List Rect) (q : Value) => (-40 ≤ i ∧ i ≤ 40) ∧ (out.length : Int) ≤ (i + 40) * 80 ∧ RunL S ver out ∧ Seen S ver out i (-40)) (fun (i : Int) (out : List Rect) (q : Value) => [(6, vi i), (5, q)]) (fun (i : Int) (out : List Rect) (q : Value) => osl 91 rectT q out :: L) (fun (i : Int) (out : List Rect) (q : Value) => (40 - i).toNat) (-40) [] v11 ⟨by omega, by simp, RunL.nil, Seen.init⟩ ⟨rfl, rfl, trivial⟩ Cv.p ?_
 rintro i out q τ ⟨hi, hlen, hrl, hseen⟩
 refine WP.seq (WP.sr (RG.ml rfl (RG.p (PV.lss rfl rfl rfl) (RG.nil ?_))))
 refine WP.cond rfl (fun h2 => ?_) (fun h2 => ?_)
 ·have h2 := of_decide_eq_true h2
  refine WP.skip (WP.seq (WP.block (WP.sr (RG.mr rfl (RG.nil (WP.block ?_))))))
  refine WP.loop3 [0, 1, 6] (fun (m : Int) (out2 : List Rect) (q2 : Value) => (-40 ≤ m ∧ m ≤ 40) ∧ (out2.length : Int) ≤ (i + 40) * 80 + (m + 40) ∧ RunL S ver out2 ∧ Seen S ver out2 i m) (fun (m : Int) (out2 : List Rect) (q2 : Value) => [(7, vi m), (5, q2)]) (fun (m : Int) (out2 : List Rect) (q2 : Value) => osl 91 rectT q2 out2 :: L) (fun (m : Int) (out2 : List Rect) (q2 : Value) => (40 - m).toNat) (-40) out q ⟨by omega, by omega, hrl, hseen⟩ ⟨rfl, rfl, trivial⟩ Cv.p ?_
  rintro m out2 q2 τ1 ⟨hm, hlen2, hrl2, hseen2⟩
  refine WP.seq (WP.sr (RG.ml rfl (RG.p (PV.lss rfl rfl rfl) (RG.nil ?_))))
  refine WP.cond rfl (fun h3 => ?_) (fun h3 => ?_)
  ·have h3 := of_decide_eq_true h3
   refine WP.skip (WP.seq (WP.block (WP.sr (RG.ml rfl (RG.ml rfl (RG.mr rfl (RG.mr rfl (RG.nil (WP.sr (RG.p (PV.move (v := v) rfl rfl) (RG.ml rfl ?_)))))))))))
   refine RG.p (PV.sub rfl rfl rfl (by omega)) (RG.ml rfl ?_)
   refine RG.callF (vs := [v, _, _]) rfl rfl En265 rfl (l17Cel_s (Rs.up h1) hS ?_)
   refine RG.br rfl (RG.nil ?_)
   refine WP.cut1 [0, 1, 5, 6, 7] (fun (u : Unit) => True) (fun (u : Unit) => [(8, vi (bif ver then i else m)), (9, vi (bif ver then m else i)), (10, .bool (cv S ver i (m - 1)))]) (fun (u : Unit) => osl 91 rectT q2 out2 :: L) ?_ ?_
   refine WP.sr (RG.bl rfl (RG.nil ?_))
   ·refine WP.cond rfl (fun h4 => ?_) (fun h4 => ?_)
    ·subst h4
     refine WP.sr (RG.ml rfl (RG.ml rfl (RG.mr rfl (RG.mr rfl (RG.nil (WP.region (RG.p (PV.move (v := v) rfl rfl) (RG.ml rfl (RG.ml rfl (RG.p (PV.sub rfl rfl rfl (by omega)) ?_))))))))))
     refine RG.callF (vs := [v, _, _]) rfl rfl En265 rfl (l17Cel_s (Rs.up h1) hS ?_)
     refine RG.br rfl (RG.nil ?_)
     exact ⟨rfl, (), trivial, ⟨rfl, rfl, rfl, trivial⟩, ⟨rfl, rfl, rfl, rfl, rfl, trivial⟩, Cv.p⟩
    ·subst h4
     refine WP.skip ?_
     exact ⟨rfl, (), trivial, ⟨rfl, rfl, rfl, trivial⟩, ⟨rfl, rfl, rfl, rfl, rfl, trivial⟩, Cv.p⟩
   rintro _u τ2 _
   refine WP.sr (RG.p (PV.move (v := v) rfl rfl) (RG.ml rfl (RG.ml rfl ?_)))
   refine RG.callF (vs := [v, _, _]) rfl rfl En265 rfl (l17Cel_s (Rs.up h1) hS ?_)
   refine RG.bl rfl ?_
   refine RG.g rfl (fun hp => (PV.mvB (.inl rfl) rfl)) ?_
   refine RG.g rfl (fun hp => (PV.not rfl (gs_t hp))) ?_
   refine RG.p (PV.pickA rfl rfl (fun hq => gs_t (geqT hq)) rfl) (RG.nil ?_)
   refine WP.cond rfl (fun h5 => ?_) (fun h5 => ?_)
   ·have h50 : (cv S ver i m && !cv S ver i (m - 1)) = true := h5
    have h6 : cv S ver i m = true ∧ cv S ver i (m - 1) = false := by simpa using h50
    have hcm := h6.1
    refine WP.region (RG.p (PV.move (v := q2) rfl rfl) (RG.p (PV.move (v := v) rfl rfl) (RG.ml rfl (RG.ml rfl (RG.bl rfl ?_)))))
    refine RG.callF (vs := [v, _, _, _]) rfl rfl En266 rfl (run_s (l := i) (k0 := m) (Rs.up h1) hS hcm (fun low48 hiw48 hrw48 => ?_))
    refine RG.ot rfl (OT.bslice (F := rectT) (els := [_]) rfl El50 rfl (by decide) rfl (by decide) ⟨rfl, (Cl.c rfl), trivial⟩ fun v49 => ?_)
    refine RG.ot rfl (OT.append (v := q2) (u := v49) (F := rectT) rfl El50 rfl (by decide) rfl rfl Rs.o (OneL.c (fun _ => rfl)) rfl (by first | omega | (simp <;> omega)) fun v50 => ?_)
    refine RG.p (PV.asg (v := v50) rfl rfl) (RG.nil (WP.region (RG.ml rfl (RG.p (PV.add rfl rfl rfl (by omega)) (RG.mr rfl (RG.nil ?_))))))
    exact ⟨rfl, m + 1, (out2 ++ [lineR ver i low48 hiw48]), v50, ⟨by omega, by simp; omega, hrl2.add hrw48, hseen2.add hrw48⟩, ⟨rfl, rfl, trivial⟩, ⟨rfl, rfl, rfl, trivial⟩, Cv.p, by omega⟩
   ·refine WP.skip ?_
    refine WP.region (RG.ml rfl (RG.p (PV.add rfl rfl rfl (by omega)) (RG.mr rfl (RG.nil ?_))))
    exact ⟨rfl, m + 1, out2, q2, ⟨by omega, by omega, hrl2, hseen2.next h5⟩, ⟨rfl, rfl, trivial⟩, ⟨rfl, rfl, rfl, trivial⟩, Cv.p, by omega⟩
  ·have h3 := of_decide_eq_false h3
   obtain rfl : m = 40 := by omega
   refine WP.exit ?_
   refine WP.region (RG.ml rfl (RG.p (PV.add rfl rfl rfl (by omega)) (RG.mr rfl (RG.nil ?_))))
   exact ⟨rfl, i + 1, out2, q2, ⟨by omega, by omega, hrl2, hseen2.line⟩, ⟨rfl, rfl, trivial⟩, ⟨rfl, rfl, trivial⟩, Cv.p, by omega⟩
 ·have h2 := of_decide_eq_false h2
  obtain rfl : i = 40 := by omega
  refine WP.exit ?_
  refine WP.sr (RG.p (PV.move (v := q) rfl rfl) (RG.p (PV.asg (v := q) rfl rfl) (RG.nil ?_)))
  exact WP.ret ⟨_, _, ResV.one rfl rfl, Cv.p, k q out ⟨by omega, hrl, hseen.all⟩⟩
structure RunsA (S : List Bool) (out : List Rect) : Prop where
  len : out.length ≤ 12800
  run : ∀ r ∈ out, ∃ ver l k lo hi, isRun S ver l k lo hi ∧ r = lineR ver l lo hi
  all : ∀ ver l k, cv S ver l k = true → ∃ lo hi, isRun S ver l k lo hi ∧ lineR ver l lo hi ∈ out
theorem RunsA.of {S : List Bool} {a b : List Rect} (ha : RunsOf S false a) (hb : RunsOf S true b) : RunsA S (a ++ b) := ⟨by have := ha.len; have := hb.len; simp; omega, fun r hr => by
 rcases List.mem_append.1 hr with h | h
 ·obtain ⟨l, k, lo, hi, h1, h2⟩ := ha.run r h; exact ⟨false, l, k, lo, hi, h1, h2⟩
 ·obtain ⟨l, k, lo, hi, h1, h2⟩ := hb.run r h; exact ⟨true, l, k, lo, hi, h1, h2⟩, fun ver l k h => by
 cases ver with
 | false => obtain ⟨lo, hi, h1, h2⟩ := ha.all l k h; exact ⟨lo, hi, h1, List.mem_append_left _ h2⟩
 | true => obtain ⟨lo, hi, h1, h2⟩ := hb.all l k h; exact ⟨lo, hi, h1, List.mem_append_right _ h2⟩⟩
theorem lineR_valid {S : List Bool} {ver : Bool} {l k lo hi : Int} (h : isRun S ver l k lo hi) : validRect (lineR ver l lo hi) = true := by
 have h1 := h.lk; have h2 := h.rng
 rw [validR_iff]
 cases ver <;> simp only [lineR, cond_true, cond_false] <;> omega
theorem runsAll_s {v : Value} {S : List Bool} (h1 : Rs G L boolT v S) (hS : S.length = 6400) (k : ∀ v' out, RunsA S out → R v' G (osl 91 rectT v' out :: L)) : CallT Tryz.prog 170 #[v] G L R := by
 refine CallT.enter (args := _) Tryz.func170 rfl rfl (by kernel_rfl) rfl ?_
 refine WP.sr (RG.p (PV.asg rfl rfl) (RG.nil (WP.sr (RG.p (PV.move (v := v) rfl rfl) ?_))))
 refine RG.callF (vs := [v, _]) rfl rfl En234 rfl (runs_s (Rs.up h1) hS (fun v4 outv4 houtv4 => have hlnv4 := houtv4.len; ?_))
 refine RG.p (PV.move (v := v) rfl rfl) ?_
 refine RG.callF (vs := [v, _]) rfl rfl En234 rfl (runs_s (Rs.up h1) hS (fun v6 outv6 houtv6 => have hlnv6 := houtv6.len; ?_))
 refine RG.ot rfl (OT.append (v := v4) (u := v6) (F := rectT) rfl El50 rfl (by decide) rfl rfl Rs.o (OneL.c (fun _ => rfl)) rfl (by first | omega | (simp <;> omega)) fun v7 => ?_)
 refine RG.p (PV.asg (v := v7) rfl rfl) (RG.nil ?_)
 exact WP.ret ⟨_, _, ResV.one rfl rfl, Cv.p, k v7 _ (RunsA.of houtv4 houtv6)⟩
def lenR (r : Rect) : Int := (r.x1 - r.x0) * (r.y1 - r.y0)
def markC (list : List Rect) (w : Int) (y x : Nat) : Bool := list.any fun r => decide (lenR r < w) && inR r y x
theorem gb_repf (n y x : Nat) : gb (List.replicate n false) y x = false := by
 unfold gb gd
 rw [List.getElem?_replicate]; split <;> rfl
theorem gb_rep0 {list : List Rect} {w : Int} (y x : Nat) : gb (List.replicate 6400 false) y x = markC (list.take 0) w y x := by rw [gb_repf]; rfl
theorem len17_s {r : Rect} (hv : validRect r = true) (k : R (vi (lenR r)) G L) : CallT Tryz.prog 178 #[vrect r] G L R := by
 have h := validR_iff.1 hv
 have hm : 0 ≤ (r.x1 - r.x0) * (r.y1 - r.y0) ∧ (r.x1 - r.x0) * (r.y1 - r.y0) ≤ 80 * 80 := ⟨Int.mul_nonneg (by omega) (by omega), Int.mul_le_mul (by omega) (by omega) (by omega) (by omega)⟩
 refine CallT.enter (args := _) Tryz.func178 rfl rfl (by kernel_rfl) rfl ?_
 refine WP.sr ?_
 refine RG.ot rfl (OT.box (cs := rectT.enc r) rfl rfl rfl fun b1 => ?_)
 refine RG.mr rfl (RG.nil (WP.sr (RG.p (PV.field rfl Fo91_2 rfl) (RG.p (PV.load1 rfl Sc2 rfl (Rd.blk rfl)) (RG.p (PV.field rfl Fo91_0 rfl) (RG.p (PV.load1 rfl Sc2 rfl (Rd.blk rfl)) (RG.p (PV.sub rfl rfl rfl (by omega)) (RG.p (PV.field rfl Fo91_3 rfl) (RG.p (PV.load1 rfl Sc2 rfl (Rd.blk rfl)) (RG.p (PV.field rfl Fo91_1 rfl) (RG.p (PV.load1 rfl Sc2 rfl (Rd.blk rfl)) (RG.p (PV.sub rfl rfl rfl (by omega)) ?_))))))))))))
 refine RG.p (PV.mul rfl rfl rfl (by omega)) (RG.mr rfl (RG.nil ?_))
 exact WP.ret ⟨_, _, ResV.one rfl rfl, Cv.p, k⟩
theorem mark_s {v : Value} {list : List Rect} {w : Int} (h1 : Rs G L rectT v list) (hv : ∀ r ∈ list, validRect r = true) (hl : list.length ≤ 1000000) (k : ∀ v' D, D.length = 6400 → (∀ y x, y < 80 → x < 80 → gb D y x = markC list w y x) → R v' G (osl 4 boolT v' D :: L)) : CallT Tryz.prog 169 #[v, vi w] G L R := by
 refine CallT.enter (args := _) Tryz.func169 rfl rfl (by kernel_rfl) rfl ?_
 refine WP.sr (RG.p (PV.asg rfl rfl) (RG.nil (WP.sr ?_)))
 refine RG.ot rfl (OT.make (m := 6400) (F := boolT) (a0 := false) rfl El162 rfl (by decide) rfl rfl (by omega) (by omega) fun v7 => ?_)
 refine RG.p (PV.asg (v := v7) rfl rfl) (RG.nil (WP.seq (WP.sr (RG.mr rfl (RG.nil (WP.block ?_))))))
 refine WP.loop3 [0, 1] (fun (i : Nat) (E : List Bool) (q : Value) => i ≤ list.length ∧ E.length = 6400 ∧ ∀ y x, y < 80 → x < 80 → gb E y x = markC (list.take i) w y x) (fun (i : Nat) (E : List Bool) (q : Value) => [(6, vi i), (5, q)]) (fun (i : Nat) (E : List Bool) (q : Value) => osl 4 boolT q E :: L) (fun (i : Nat) (E : List Bool) (q : Value) => list.length - i) 0 (List.replicate 6400 false) v7 ⟨by omega, by simp, fun y x _ _ => gb_rep0 y x⟩ ⟨rfl, rfl, trivial⟩ Cv.p ?_
 rintro i E q τ ⟨hi, hE, hg⟩
 refine WP.seq (WP.sr (RG.ml rfl (RG.p (PV.move (v := v) rfl rfl) (RG.p (PV.len (v := v) rfl Tryz.underlying50 rfl (SlF.r h1)) (RG.p (PV.lss rfl rfl rfl) (RG.nil ?_))))))
 refine WP.cond rfl (fun h2 => ?_) (fun h2 => ?_)
 ·have h2 := of_decide_eq_true h2
  have hil : i < list.length := by omega
  have htk : list.take (i + 1) = list.take i ++ [gd list i] := by rw [List.take_add_one, getG hil]; rfl
  refine WP.skip (WP.seq (WP.block (WP.sr (RG.p (PV.move (v := v) rfl rfl) (RG.ml rfl (RG.p (PV.idxS (v := v) rfl Is50 rfl (SlF.r h1) rfl rfl (by omega)) (RG.p (PV.loadE rfl Ag91 rfl rfl (El.r h1 (getG (by omega)))) ?_)))))))
  refine RG.callF (vs := [_]) rfl rfl En178 rfl (len17_s (hv _ (gd_mem (by omega))) ?_)
  refine RG.ml rfl (RG.p (PV.lss rfl rfl rfl) (RG.nil ?_))
  refine WP.cond rfl (fun h3 => ?_) (fun h3 => ?_)
  ·have h3 := of_decide_eq_true h3
   have h4 : decide (lenR (gd list i) < w) = true := decide_eq_true h3
   refine WP.region (RG.p (PV.move (v := q) rfl rfl) (RG.p (PV.move (v := v) rfl rfl) (RG.ml rfl (RG.p (PV.idxS (v := v) rfl Is50 rfl (SlF.r h1) rfl rfl (by omega)) (RG.p (PV.loadE rfl Ag91 rfl rfl (El.r h1 (getG (by omega)))) ?_)))))
   refine RG.callF (vs := [q, _]) rfl rfl En179 rfl (CallT.exS q (fill_s hE (hv _ (gd_mem (by omega))) (fun D' hD' hg' => ?_)))
   refine RG.p (PV.asg rfl rfl) (RG.nil (WP.region (RG.ml rfl (RG.p (PV.add rfl rfl rfl (by omega)) (RG.mr rfl (RG.nil ?_))))))
   exact ⟨rfl, i + 1, D', q, ⟨by omega, hD', fun y x hy hx => by rw [hg' y x hy hx, hg y x hy hx, markC, markC, htk, List.any_append]; simp [h4]⟩, ⟨rfl, rfl, trivial⟩, ⟨rfl, rfl, trivial⟩, Cv.p, by omega⟩
  ·have h3 := of_decide_eq_false h3
   have h4 : decide (lenR (gd list i) < w) = false := decide_eq_false h3
   refine WP.skip (WP.region (RG.ml rfl (RG.p (PV.add rfl rfl rfl (by omega)) (RG.mr rfl (RG.nil ?_)))))
   exact ⟨rfl, i + 1, E, q, ⟨by omega, hE, fun y x hy hx => by rw [hg y x hy hx, markC, markC, htk, List.any_append]; simp [h4]⟩, ⟨rfl, rfl, trivial⟩, ⟨rfl, rfl, trivial⟩, Cv.p, by omega⟩
 ·have h2 := of_decide_eq_false h2
  rw [List.take_of_length_le (by omega)] at hg
  refine WP.exit ?_
  refine WP.sr (RG.p (PV.move (v := q) rfl rfl) (RG.p (PV.asg (v := q) rfl rfl) (RG.nil ?_)))
  exact WP.ret ⟨_, _, ResV.one rfl rfl, Cv.p, k q E hE hg⟩
end Go.Proofs.YtgphjofccckloaaGreat
namespace Go.Proofs.YtgphjofccckloaaGreat
def rot : Nat → Pt → Pt
  | 0, p => p
  | n + 1, p => rot n ⟨-p.y, p.x⟩
def flip (o : Int) (p : Pt) : Pt := if 4 ≤ o then ⟨p.x, -p.y⟩ else p
def turnP (o : Int) (p : Pt) : Pt := rot (o % 4).toNat (flip o p)
def InB (b : Int) (p : Pt) : Prop := -b ≤ p.x ∧ p.x ≤ b ∧ -b ≤ p.y ∧ p.y ≤ b
theorem rot_in {b : Int} : ∀ (n : Nat) {p : Pt}, InB b p → InB b (rot n p)
 | 0, _, h => h
 | n + 1, p, h => rot_in n (by obtain ⟨h1, h2, h3, h4⟩ := h; exact ⟨by simp only; omega, by simp only; omega, h1, h2⟩)
theorem flip_in {b o : Int} {p : Pt} (h : InB b p) : InB b (flip o p) := by
 unfold flip; split
 ·obtain ⟨h1, h2, h3, h4⟩ := h; exact ⟨h1, h2, by simp only; omega, by simp only; omega⟩
 ·exact h
theorem turnP_in {b o : Int} {p : Pt} (h : InB b p) : InB b (turnP o p) := rot_in _ (flip_in h)
def moveP (t : Trans) (p : Pt) : Pt := ⟨(turnP t.o p).x + t.x, (turnP t.o p).y + t.y⟩
def moveR (t : Trans) (r : Rect) : Rect :=
  ⟨min (moveP t ⟨r.x0, r.y0⟩).x (moveP t ⟨r.x1, r.y1⟩).x, min (moveP t ⟨r.x0, r.y0⟩).y (moveP t ⟨r.x1, r.y1⟩).y, max (moveP t ⟨r.x0, r.y0⟩).x (moveP t ⟨r.x1, r.y1⟩).x, max (moveP t ⟨r.x0, r.y0⟩).y (moveP t ⟨r.x1, r.y1⟩).y⟩
def RIn (b : Int) (r : Rect) : Prop := -b ≤ r.x0 ∧ r.x0 < r.x1 ∧ r.x1 ≤ b ∧ -b ≤ r.y0 ∧ r.y0 < r.y1 ∧ r.y1 ≤ b
theorem moveR_turn {o b : Int} (h : 0 ≤ o ∧ o ≤ 7) {r : Rect} (hr : RIn b r) : RIn b (moveR ⟨o, 0, 0⟩ r) := by
 obtain ⟨h1, h2, h3, h4, h5, h6⟩ := hr
 have ho : o = 0 ∨ o = 1 ∨ o = 2 ∨ o = 3 ∨ o = 4 ∨ o = 5 ∨ o = 6 ∨ o = 7 := by omega
 rcases ho with rfl | rfl | rfl | rfl | rfl | rfl | rfl | rfl <;> (simp [RIn, moveR, moveP, turnP, flip, rot]; omega)
@[reducible] def joinR (a r : Rect) : Rect := ⟨min a.x0 r.x0, min a.y0 r.y0, max a.x1 r.x1, max a.y1 r.y1⟩
def boxFrom (a : Rect) (xs : List Rect) : Rect := xs.foldl joinR a
def boxL (xs : List Rect) : Rect := boxFrom (gd xs 0) xs
theorem boxFrom_take {a : Rect} {xs : List Rect} {i : Nat} (h : i < xs.length) : boxFrom a (xs.take (i + 1)) = joinR (boxFrom a (xs.take i)) (gd xs i) := by
 rw [List.take_add_one, getG h, boxFrom, boxFrom, List.foldl_append]; rfl
theorem joinR_self (a : Rect) : joinR a a = a := by simp [joinR]
theorem boxFrom_one {xs : List Rect} (h : 0 < xs.length) : boxFrom (gd xs 0) (xs.take 1) = gd xs 0 := by
 rw [boxFrom_take h]; simp [boxFrom, joinR_self]
theorem boxFrom_in {b : Int} : ∀ (xs : List Rect) {a : Rect}, RIn b a → (∀ r ∈ xs, RIn b r) → RIn b (boxFrom a xs)
 | [], _, ha, _ => ha
 | x :: xs, a, ha, h => by
  have hx := h x (.head _)
  refine boxFrom_in xs (a := joinR a x) ?_ fun r hr => h r (.tail _ hr)
  simp only [RIn, joinR] at *; omega
theorem boxL_in {im : List Rect} (h0 : 0 < im.length) (h : ∀ r ∈ im, RIn 40 r) : RIn 40 (boxL im) :=
 boxFrom_in im (by rw [gd_eq h0]; exact h _ (List.getElem_mem _)) h
end Go.Proofs.YtgphjofccckloaaGreat
namespace Go.Proofs.YtgphjofccckloaaGreat
open Go
set_option maxRecDepth 20000
variable {G : Gh} {L : List Ch} {R : Value → Gh → List Ch → Prop}
theorem turn_s {o : Int} {p : Pt} (ho : 0 ≤ o ∧ o ≤ 7) (hp : InB 1000 p) (k : R (vpt (turnP o p)) G L) : CallT Tryz.prog 255 #[vi o, vpt p] G L R := by
 have hf : InB 1000 (flip o p) := flip_in hp
 obtain ⟨hp1, hp2, hp3, hp4⟩ := hp
 refine CallT.enter (args := _) Tryz.func255 rfl rfl (by kernel_rfl) rfl ?_
 refine WP.sr ?_
 refine RG.ot rfl (OT.box (cs := ptT.enc p) rfl rfl rfl fun b3 => ?_)
 refine RG.ot rfl (OT.alloc rfl Zr189 fun b4 => ?_)
 refine RG.nil ?_
 refine WP.cut1 [0, 3, 4] (fun (q : Pt) => q = flip o p) (fun (q : Pt) => []) (fun (q : Pt) => blk b3 189 (ptT.enc q) :: blk b4 189 [vi 0, vi 0] :: L) ?_ ?_
 refine WP.sr (RG.ml rfl (RG.p (PV.geq rfl rfl rfl) (RG.nil ?_)))
 refine WP.cond rfl (fun h1 => ?_) (fun h1 => ?_)
 ·have h1 := of_decide_eq_true h1
  refine WP.region (RG.p (PV.field rfl Fo189_1 rfl) (RG.p (PV.load1 rfl Sc2 rfl (Rd.blk rfl)) (RG.p (PV.neg rfl rfl (by omega)) (RG.p (PV.field rfl Fo189_1 rfl) ?_))))
  refine RG.ot rfl (OT.storeB (vs := [vi _]) (cs' := [_, _]) rfl Sz2 rfl rfl (Cl.c rfl) rfl (OneC.c rfl) rfl rfl ?_)
  refine RG.nil ?_
  exact ⟨rfl, (⟨p.x, -p.y⟩ : Pt), (by rw [flip, if_pos (by omega)]), trivial, ⟨rfl, rfl, rfl, trivial⟩, Cv.p⟩
 ·have h1 := of_decide_eq_false h1
  refine WP.skip ?_
  exact ⟨rfl, p, (by rw [flip, if_neg (by omega)]), trivial, ⟨rfl, rfl, rfl, trivial⟩, Cv.p⟩
 rintro q τ1 hq
 refine WP.seq (WP.sr (RG.ml rfl (RG.p (PV.rem rfl rfl rfl (by omega) (by omega) (by omega)) (RG.mr rfl (RG.nil (WP.block ?_))))))
 subst hq
 refine WP.loop2 [3, 4] (fun (n : Int) (q : Pt) => (0 ≤ n ∧ n < 4) ∧ rot n.toNat q = turnP o p ∧ InB 1000 q) (fun (n : Int) (q : Pt) => [(5, vi n)]) (fun (n : Int) (q : Pt) => blk b3 189 (ptT.enc q) :: blk b4 189 [vi 0, vi 0] :: L) (fun (n : Int) (q : Pt) => n.toNat) (o % 4) (flip o p) ⟨by omega, rfl, hf⟩ ⟨rfl, trivial⟩ Cv.p ?_
 rintro n q τ ⟨hn, hr, hi1, hi2, hi3, hi4⟩
 refine WP.seq (WP.sr (RG.ml rfl (RG.p (PV.gtr rfl rfl rfl) (RG.nil ?_))))
 refine WP.cond rfl (fun h2 => ?_) (fun h2 => ?_)
 ·have h2 := of_decide_eq_true h2
  refine WP.skip (WP.seq (WP.block (WP.region (RG.p (PV.field rfl Fo189_1 rfl) (RG.p (PV.load1 rfl Sc2 rfl (Rd.blk rfl)) (RG.p (PV.neg rfl rfl (by omega)) (RG.p (PV.field rfl Fo189_0 rfl) (RG.p (PV.load1 rfl Sc2 rfl (Rd.blk rfl)) (RG.p (PV.build (vs := [(0, [vi _]), (1, [vi _])]) (out := [_, _]) rfl Zr189 Pl189 ⟨rfl, (Cl.c rfl), ⟨rfl, (Cl.c rfl), trivial⟩⟩ rfl) ?_)))))))))
  refine RG.ot rfl (OT.storeW (vs := [vi _, vi _]) rfl Sz189 rfl rfl (Cl.c rfl) rfl rfl (OneC.c rfl) ?_)
  refine RG.nil (WP.region (RG.ml rfl (RG.p (PV.sub rfl rfl rfl (by omega)) (RG.mr rfl (RG.nil ?_)))))
  refine ⟨rfl, n - 1, ⟨-q.y, q.x⟩, ⟨by omega, ?_, by simp only; omega, by simp only; omega, hi1, hi2⟩, ⟨rfl, trivial⟩, ⟨rfl, rfl, trivial⟩, Cv.p, by omega⟩
  rw [← hr, show n.toNat = (n - 1).toNat + 1 by omega]; rfl
 ·have h2 := of_decide_eq_false h2
  have e : turnP o p = q := by rw [← hr, show n.toNat = 0 by omega]; rfl
  rw [e] at k
  refine WP.exit ?_
  refine WP.sr (RG.p (PV.loadW rfl Ag189 rfl rfl) ?_)
  refine RG.ot rfl (OT.storeW (vs := [vi _, vi _]) rfl Sz189 rfl rfl (Cl.c rfl) rfl rfl (OneC.c rfl) ?_)
  refine RG.nil ?_
  exact WP.ret ⟨_, _, ResV.one rfl (RV1.cell rfl Ag189 rfl), Cv.p, k⟩
theorem turn_r {o : Int} {p : Pt} (ho : 0 ≤ o ∧ o ≤ 7) (hp : InB 1000 p) (k : R (vpt (turnP o p)) G L) : CallT Tryz.prog 251 #[vi o, vpt p] G L R := by
 have hf : InB 1000 (flip o p) := flip_in hp
 obtain ⟨hp1, hp2, hp3, hp4⟩ := hp
 refine CallT.enter (args := _) Tryz.func251 rfl rfl (by kernel_rfl) rfl ?_
 refine WP.sr ?_
 refine RG.ot rfl (OT.box (cs := ptT.enc p) rfl rfl rfl fun b3 => ?_)
 refine RG.ot rfl (OT.alloc rfl Zr189 fun b4 => ?_)
 refine RG.nil (WP.seq ?_)
 refine WP.regionQ (by kernel_rfl) (by kernel_rfl) ?_
 refine RQ.pv rfl (PV.field rfl Fo189_0 rfl) (RQ.pv rfl (PV.load1 rfl Sc2 rfl (Rd.blk rfl)) (RQ.pv rfl (PV.field rfl Fo189_1 rfl) (RQ.pv rfl (PV.load1 rfl Sc2 rfl (Rd.blk rfl)) (RQ.pv rfl (PV.mvI (.inr rfl) rfl) (RQ.pv rfl (PV.mvI (.inr rfl) rfl) ?_)))))
 refine RQ.nil ?_
 refine WP.cut1 [0, 4] (fun (q : Pt) => q = flip o p) (fun (q : Pt) => [(5, vi q.x), (6, vi q.y)]) (fun (q : Pt) => blk b4 189 [vi 0, vi 0] :: L) ?_ ?_
 refine WP.sr (RG.ml rfl (RG.p (PV.geq rfl rfl rfl) (RG.nil ?_)))
 refine WP.cond rfl (fun h1 => ?_) (fun h1 => ?_)
 ·have h1 := of_decide_eq_true h1
  refine WP.region (RG.ml rfl (RG.p (PV.neg rfl rfl (by omega)) (RG.mr rfl (RG.nil ?_))))
  exact ⟨rfl, (⟨p.x, -p.y⟩ : Pt), (by rw [flip, if_pos (by omega)]), ⟨rfl, rfl, trivial⟩, ⟨rfl, rfl, trivial⟩, Cv.p⟩
 ·have h1 := of_decide_eq_false h1
  refine WP.skip ?_
  exact ⟨rfl, p, (by rw [flip, if_neg (by omega)]), ⟨rfl, rfl, trivial⟩, ⟨rfl, rfl, trivial⟩, Cv.p⟩
 rintro q τ1 hq
 refine WP.seq (WP.sr (RG.ml rfl (RG.p (PV.rem rfl rfl rfl (by omega) (by omega) (by omega)) (RG.mr rfl (RG.nil (WP.block ?_))))))
 subst hq
 refine WP.loop2 [4] (fun (n : Int) (q : Pt) => (0 ≤ n ∧ n < 4) ∧ rot n.toNat q = turnP o p ∧ InB 1000 q) (fun (n : Int) (q : Pt) => [(7, vi n), (5, vi q.x), (6, vi q.y)]) (fun (n : Int) (q : Pt) => blk b4 189 [vi 0, vi 0] :: L) (fun (n : Int) (q : Pt) => n.toNat) (o % 4) (flip o p) ⟨by omega, rfl, hf⟩ ⟨rfl, rfl, rfl, trivial⟩ Cv.p ?_
 rintro n q τ ⟨hn, hr, hi1, hi2, hi3, hi4⟩
 refine WP.seq (WP.sr (RG.ml rfl (RG.p (PV.gtr rfl rfl rfl) (RG.nil ?_))))
 refine WP.cond rfl (fun h2 => ?_) (fun h2 => ?_)
 ·have h2 := of_decide_eq_true h2
  refine WP.skip (WP.seq (WP.block (WP.region (RG.ml rfl (RG.p (PV.neg rfl rfl (by omega)) (RG.ml rfl (RG.mr rfl (RG.mr rfl (RG.nil (WP.region (RG.ml rfl (RG.p (PV.sub rfl rfl rfl (by omega)) (RG.mr rfl ?_)))))))))))))
  refine RG.nil ?_
  refine ⟨rfl, n - 1, ⟨-q.y, q.x⟩, ⟨by omega, ?_, by simp only; omega, by simp only; omega, hi1, hi2⟩, ⟨rfl, rfl, rfl, trivial⟩, ⟨rfl, trivial⟩, Cv.p, by omega⟩
  rw [← hr, show n.toNat = (n - 1).toNat + 1 by omega]; rfl
 ·have h2 := of_decide_eq_false h2
  have e : turnP o p = q := by rw [← hr, show n.toNat = 0 by omega]; rfl
  rw [e] at k
  refine WP.exit ?_
  refine WP.sr (RG.ml rfl (RG.ml rfl (RG.p (PV.build (vs := [(0, [vi _]), (1, [vi _])]) (out := [_, _]) rfl Zr189 Pl189 ⟨rfl, (Cl.c rfl), ⟨rfl, (Cl.c rfl), trivial⟩⟩ rfl) ?_)))
  refine RG.ot rfl (OT.storeW (vs := [vi _, vi _]) rfl Sz189 rfl rfl (Cl.c rfl) rfl rfl (OneC.c rfl) ?_)
  refine RG.nil ?_
  exact WP.ret ⟨_, _, ResV.one rfl (RV1.cell rfl Ag189 rfl), Cv.p, k⟩
theorem move_s {t : Trans} {p : Pt} (ho : 0 ≤ t.o ∧ t.o ≤ 7) (ht : -1000 ≤ t.x ∧ t.x ≤ 1000 ∧ -1000 ≤ t.y ∧ t.y ≤ 1000) (hp : InB 1000 p) (k : R (vpt (moveP t p)) G L) : CallT Tryz.prog 206 #[vtrans t, vpt p] G L R := by
 obtain ⟨hq1, hq2, hq3, hq4⟩ : InB 1000 (turnP t.o p) := turnP_in hp
 refine CallT.enter (args := _) Tryz.func206 rfl rfl (by kernel_rfl) rfl ?_
 refine WP.sr ?_
 refine RG.ot rfl (OT.box (cs := transT.enc t) rfl rfl rfl fun b2 => ?_)
 refine RG.ot rfl (OT.box (cs := ptT.enc p) rfl rfl rfl fun b3 => ?_)
 refine RG.ot rfl (OT.alloc rfl Zr189 fun b4 => ?_)
 refine RG.nil (WP.sr (RG.p (PV.field rfl Fo95_0 rfl) (RG.p (PV.load1 rfl Sc2 rfl (Rd.blk rfl)) (RG.p (PV.loadW rfl Ag189 rfl rfl) ?_))))
 refine RG.callF (vs := [_, _]) rfl rfl En255 rfl (turn_s ho hp ?_)
 refine RG.ot rfl (OT.storeW (vs := [vi _, vi _]) rfl Sz189 rfl rfl (Cl.c rfl) rfl rfl (OneC.c rfl) ?_)
 refine RG.nil (WP.sr (RG.p (PV.field rfl Fo189_0 rfl) (RG.p (PV.load1 rfl Sc2 rfl (Rd.blk rfl)) (RG.p (PV.field rfl Fo95_1 rfl) (RG.p (PV.load1 rfl Sc2 rfl (Rd.blk rfl)) (RG.p (PV.add rfl rfl rfl (by omega)) (RG.p (PV.field rfl Fo189_1 rfl) (RG.p (PV.load1 rfl Sc2 rfl (Rd.blk rfl)) (RG.p (PV.field rfl Fo95_2 rfl) (RG.p (PV.load1 rfl Sc2 rfl (Rd.blk rfl)) (RG.p (PV.add rfl rfl rfl (by omega)) (RG.p (PV.build (vs := [(0, [vi _]), (1, [vi _])]) (out := [_, _]) rfl Zr189 Pl189 ⟨rfl, (Cl.c rfl), ⟨rfl, (Cl.c rfl), trivial⟩⟩ rfl) ?_))))))))))))
 refine RG.ot rfl (OT.storeW (vs := [vi _, vi _]) rfl Sz189 rfl rfl (Cl.c rfl) rfl rfl (OneC.c rfl) ?_)
 refine RG.nil ?_
 exact WP.ret ⟨_, _, ResV.one rfl (RV1.cell rfl Ag189 rfl), Cv.p, k⟩
theorem move_r {t : Trans} {p : Pt} (ho : 0 ≤ t.o ∧ t.o ≤ 7) (ht : -1000 ≤ t.x ∧ t.x ≤ 1000 ∧ -1000 ≤ t.y ∧ t.y ≤ 1000) (hp : InB 1000 p) (k : R (vpt (moveP t p)) G L) : CallT Tryz.prog 194 #[vtrans t, vpt p] G L R := by
 obtain ⟨hq1, hq2, hq3, hq4⟩ : InB 1000 (turnP t.o p) := turnP_in hp
 refine CallT.enter (args := _) Tryz.func194 rfl rfl (by kernel_rfl) rfl ?_
 refine WP.sr ?_
 refine RG.ot rfl (OT.box (cs := transT.enc t) rfl rfl rfl fun b2 => ?_)
 refine RG.ot rfl (OT.box (cs := ptT.enc p) rfl rfl rfl fun b3 => ?_)
 refine RG.ot rfl (OT.alloc rfl Zr189 fun b4 => ?_)
 refine RG.nil (WP.sr (RG.p (PV.field rfl Fo95_0 rfl) (RG.p (PV.load1 rfl Sc2 rfl (Rd.blk rfl)) (RG.p (PV.loadW rfl Ag189 rfl rfl) ?_))))
 refine RG.callF (vs := [_, _]) rfl rfl En251 rfl (turn_r ho hp ?_)
 refine RG.ot rfl (OT.alloc rfl Zr189 fun b5 => ?_)
 refine RG.ot rfl (OT.storeW (vs := [vi _, vi _]) rfl Sz189 rfl rfl (Cl.c rfl) rfl rfl (OneC.c rfl) ?_)
 refine RG.nil (WP.sr (RG.p (PV.field rfl Fo189_0 rfl) (RG.p (PV.load1 rfl Sc2 rfl (Rd.blk rfl)) (RG.p (PV.field rfl Fo95_1 rfl) (RG.p (PV.load1 rfl Sc2 rfl (Rd.blk rfl)) (RG.p (PV.add rfl rfl rfl (by omega)) (RG.p (PV.field rfl Fo189_1 rfl) (RG.p (PV.load1 rfl Sc2 rfl (Rd.blk rfl)) (RG.p (PV.field rfl Fo95_2 rfl) (RG.p (PV.load1 rfl Sc2 rfl (Rd.blk rfl)) (RG.p (PV.add rfl rfl rfl (by omega)) (RG.p (PV.build (vs := [(0, [vi _]), (1, [vi _])]) (out := [_, _]) rfl Zr189 Pl189 ⟨rfl, (Cl.c rfl), ⟨rfl, (Cl.c rfl), trivial⟩⟩ rfl) ?_))))))))))))
 refine RG.ot rfl (OT.storeW (vs := [vi _, vi _]) rfl Sz189 rfl rfl (Cl.c rfl) rfl rfl (OneC.c rfl) ?_)
 refine RG.nil ?_
 exact WP.ret ⟨_, _, ResV.one rfl (RV1.cell rfl Ag189 rfl), Cv.p, k⟩
theorem RIn_pts {r : Rect} (h : RIn 40 r) : InB 1000 ⟨r.x0, r.y0⟩ ∧ InB 1000 ⟨r.x1, r.y1⟩ := by
 obtain ⟨h1, h2, h3, h4, h5, h6⟩ := h
 exact ⟨⟨by simp only; omega, by simp only; omega, by simp only; omega, by simp only; omega⟩, ⟨by simp only; omega, by simp only; omega, by simp only; omega, by simp only; omega⟩⟩
theorem moveRect_s {t : Trans} {r : Rect} (ho : 0 ≤ t.o ∧ t.o ≤ 7) (ht : -1000 ≤ t.x ∧ t.x ≤ 1000 ∧ -1000 ≤ t.y ∧ t.y ≤ 1000) (hr : RIn 40 r) (k : R (vrect (moveR t r)) G L) : CallT Tryz.prog 123 #[vtrans t, vrect r] G L R := by
 refine CallT.enter (args := _) Tryz.func123 rfl rfl (by kernel_rfl) rfl ?_
 refine WP.sr ?_
 refine RG.ot rfl (OT.box (cs := transT.enc t) rfl rfl rfl fun b2 => ?_)
 refine RG.ot rfl (OT.box (cs := rectT.enc r) rfl rfl rfl fun b3 => ?_)
 refine RG.ot rfl (OT.alloc rfl Zr91 fun b4 => ?_)
 refine RG.nil ?_
 refine WP.cut2 [4] (fun (b5 b6 : Nat) => True) (fun (b5 b6 : Nat) => [(5, .pointer (some ⟨b5, 0, none⟩)), (6, .pointer (some ⟨b6, 0, none⟩))]) (fun (b5 b6 : Nat) => blk b5 189 (ptT.enc (moveP t ⟨r.x0, r.y0⟩)) :: blk b6 189 (ptT.enc (moveP t ⟨r.x1, r.y1⟩)) :: blk b4 91 [vi 0, vi 0, vi 0, vi 0] :: L) ?_ ?_
 refine WP.regionH0 (.q 0 (.q 1 (.q 2 (.q 3 (.q 4 (.q 5 (.q 7 (.q 8 (.q 9 (.q 10 (.q 11 (.q 12 (.c 6 (.c 13 (.b 14 (.l 15 (.l 16 (.l 17 Sch.nil))) 15 (.l 14 (.l 16 (.l 17 Sch.nil)))) 14 (.b 13 (.l 15 (.l 16 (.l 17 Sch.nil))) 15 (.l 13 (.l 16 (.l 17 Sch.nil)))) 15 (.b 13 (.l 14 (.l 16 (.l 17 Sch.nil))) 14 (.l 13 (.l 16 (.l 17 Sch.nil))))) 14 (.b 6 (.b 13 (.l 15 (.l 16 (.l 17 Sch.nil))) 15 (.l 13 (.l 16 (.l 17 Sch.nil)))) 15 (.l 6 (.l 13 (.l 16 (.l 17 Sch.nil))))) 15 (.b 6 (.b 13 (.l 14 (.l 16 (.l 17 Sch.nil))) 14 (.l 13 (.l 16 (.l 17 Sch.nil)))) 14 (.l 6 (.l 13 (.l 16 (.l 17 Sch.nil)))))))))))))))))) (by kernel_rfl) (by kernel_rfl) (by kernel_rfl) rfl ?_
 refine RH.w rfl rfl (PV.loadW rfl Ag95 rfl rfl) (RH.w rfl rfl (PV.field rfl Fo91_0 rfl) (RH.w rfl rfl (PV.load1 rfl Sc2 rfl (Rd.blk rfl)) (RH.w rfl rfl (PV.field rfl Fo91_1 rfl) (RH.w rfl rfl (PV.load1 rfl Sc2 rfl (Rd.blk rfl)) (RH.w rfl rfl (PV.build (vs := [(0, [vi _]), (1, [vi _])]) (out := [_, _]) rfl Zr189 Pl189 ⟨rfl, (Cl.c rfl), ⟨rfl, (Cl.c rfl), trivial⟩⟩ rfl) (RH.w rfl rfl (PV.loadW rfl Ag95 rfl rfl) (RH.w rfl rfl (PV.field rfl Fo91_2 rfl) (RH.w rfl rfl (PV.load1 rfl Sc2 rfl (Rd.blk rfl)) (RH.w rfl rfl (PV.field rfl Fo91_3 rfl) (RH.w rfl rfl (PV.load1 rfl Sc2 rfl (Rd.blk rfl)) (RH.w rfl rfl (PV.build (vs := [(0, [vi _]), (1, [vi _])]) (out := [_, _]) rfl Zr189 Pl189 ⟨rfl, (Cl.c rfl), ⟨rfl, (Cl.c rfl), trivial⟩⟩ rfl) ?_)))))))))))
 ·refine RH.ot3 rfl rfl rfl rfl rfl rfl  (OT.callF (vs := [_, _]) rfl En206 rfl (move_s (p := ⟨_, _⟩) ho ht (by first | exact (RIn_pts hr).1 | exact (RIn_pts hr).2) ⟨Gh.le_refl _, PickC.pick, ?_⟩)) (OT.alloc rfl Zr189 fun b5 => ⟨Gh.le_refl _, PickC.pick, ?_⟩) (OT.alloc rfl Zr189 fun b6 => ⟨Gh.le_refl _, PickC.pick, ?_⟩)
  ·refine RH.ot3 rfl rfl rfl rfl rfl rfl  (OT.callF (vs := [_, _]) rfl En206 rfl (move_s (p := ⟨_, _⟩) ho ht (by first | exact (RIn_pts hr).1 | exact (RIn_pts hr).2) ⟨Gh.le_refl _, PickC.pick, ?_⟩)) (OT.alloc rfl Zr189 fun b5 => ⟨Gh.le_refl _, PickC.pick, ?_⟩) (OT.alloc rfl Zr189 fun b6 => ⟨Gh.le_refl _, PickC.pick, ?_⟩)
   ·refine RH.ot2 rfl rfl rfl rfl  (OT.alloc rfl Zr189 fun b5 => ⟨Gh.le_refl _, PickC.pick, ?_⟩) (OT.alloc rfl Zr189 fun b6 => ⟨Gh.le_refl _, PickC.pick, ?_⟩)
    ·refine RH.ot rfl rfl (OT.alloc rfl Zr189 fun b6 => ⟨Gh.le_refl _, PickC.pick, ?_⟩)
     refine RH.ot rfl rfl (OT.storeW (vs := [vi _, vi _]) rfl Sz189 rfl rfl (Cl.c rfl) rfl rfl (OneC.c rfl) ⟨Gh.le_refl _, PickC.pick, ?_⟩)
     refine RH.ot rfl rfl (OT.storeW (vs := [vi _, vi _]) rfl Sz189 rfl rfl (Cl.c rfl) rfl rfl (OneC.c rfl) ⟨Gh.le_refl _, PickC.pick, ?_⟩)
     refine RH.nil ?_
     exact ⟨rfl, b5, b6, trivial, ⟨rfl, rfl, trivial⟩, ⟨rfl, trivial⟩, Cv.p⟩
    ·refine RH.ot rfl rfl (OT.alloc rfl Zr189 fun b5 => ⟨Gh.le_refl _, PickC.pick, ?_⟩)
     refine RH.ot rfl rfl (OT.storeW (vs := [vi _, vi _]) rfl Sz189 rfl rfl (Cl.c rfl) rfl rfl (OneC.c rfl) ⟨Gh.le_refl _, PickC.pick, ?_⟩)
     refine RH.ot rfl rfl (OT.storeW (vs := [vi _, vi _]) rfl Sz189 rfl rfl (Cl.c rfl) rfl rfl (OneC.c rfl) ⟨Gh.le_refl _, PickC.pick, ?_⟩)
     refine RH.nil ?_
     exact ⟨rfl, b5, b6, trivial, ⟨rfl, rfl, trivial⟩, ⟨rfl, trivial⟩, Cv.p⟩
   ·refine RH.ot2 rfl rfl rfl rfl  (OT.callF (vs := [_, _]) rfl En206 rfl (move_s (p := ⟨_, _⟩) ho ht (by first | exact (RIn_pts hr).1 | exact (RIn_pts hr).2) ⟨Gh.le_refl _, PickC.pick, ?_⟩)) (OT.alloc rfl Zr189 fun b6 => ⟨Gh.le_refl _, PickC.pick, ?_⟩)
    ·refine RH.ot rfl rfl (OT.alloc rfl Zr189 fun b6 => ⟨Gh.le_refl _, PickC.pick, ?_⟩)
     refine RH.ot rfl rfl (OT.storeW (vs := [vi _, vi _]) rfl Sz189 rfl rfl (Cl.c rfl) rfl rfl (OneC.c rfl) ⟨Gh.le_refl _, PickC.pick, ?_⟩)
     refine RH.ot rfl rfl (OT.storeW (vs := [vi _, vi _]) rfl Sz189 rfl rfl (Cl.c rfl) rfl rfl (OneC.c rfl) ⟨Gh.le_refl _, PickC.pick, ?_⟩)
     refine RH.nil ?_
     exact ⟨rfl, b5, b6, trivial, ⟨rfl, rfl, trivial⟩, ⟨rfl, trivial⟩, Cv.p⟩
    ·refine RH.ot rfl rfl (OT.callF (vs := [_, _]) rfl En206 rfl (move_s (p := ⟨_, _⟩) ho ht (by first | exact (RIn_pts hr).1 | exact (RIn_pts hr).2) ⟨Gh.le_refl _, PickC.pick, ?_⟩))
     refine RH.ot rfl rfl (OT.storeW (vs := [vi _, vi _]) rfl Sz189 rfl rfl (Cl.c rfl) rfl rfl (OneC.c rfl) ⟨Gh.le_refl _, PickC.pick, ?_⟩)
     refine RH.ot rfl rfl (OT.storeW (vs := [vi _, vi _]) rfl Sz189 rfl rfl (Cl.c rfl) rfl rfl (OneC.c rfl) ⟨Gh.le_refl _, PickC.pick, ?_⟩)
     refine RH.nil ?_
     exact ⟨rfl, b5, b6, trivial, ⟨rfl, rfl, trivial⟩, ⟨rfl, trivial⟩, Cv.p⟩
   ·refine RH.ot2 rfl rfl rfl rfl  (OT.callF (vs := [_, _]) rfl En206 rfl (move_s (p := ⟨_, _⟩) ho ht (by first | exact (RIn_pts hr).1 | exact (RIn_pts hr).2) ⟨Gh.le_refl _, PickC.pick, ?_⟩)) (OT.alloc rfl Zr189 fun b5 => ⟨Gh.le_refl _, PickC.pick, ?_⟩)
    ·refine RH.ot rfl rfl (OT.alloc rfl Zr189 fun b5 => ⟨Gh.le_refl _, PickC.pick, ?_⟩)
     refine RH.ot rfl rfl (OT.storeW (vs := [vi _, vi _]) rfl Sz189 rfl rfl (Cl.c rfl) rfl rfl (OneC.c rfl) ⟨Gh.le_refl _, PickC.pick, ?_⟩)
     refine RH.ot rfl rfl (OT.storeW (vs := [vi _, vi _]) rfl Sz189 rfl rfl (Cl.c rfl) rfl rfl (OneC.c rfl) ⟨Gh.le_refl _, PickC.pick, ?_⟩)
     refine RH.nil ?_
     exact ⟨rfl, b5, b6, trivial, ⟨rfl, rfl, trivial⟩, ⟨rfl, trivial⟩, Cv.p⟩
    ·refine RH.ot rfl rfl (OT.callF (vs := [_, _]) rfl En206 rfl (move_s (p := ⟨_, _⟩) ho ht (by first | exact (RIn_pts hr).1 | exact (RIn_pts hr).2) ⟨Gh.le_refl _, PickC.pick, ?_⟩))
     refine RH.ot rfl rfl (OT.storeW (vs := [vi _, vi _]) rfl Sz189 rfl rfl (Cl.c rfl) rfl rfl (OneC.c rfl) ⟨Gh.le_refl _, PickC.pick, ?_⟩)
     refine RH.ot rfl rfl (OT.storeW (vs := [vi _, vi _]) rfl Sz189 rfl rfl (Cl.c rfl) rfl rfl (OneC.c rfl) ⟨Gh.le_refl _, PickC.pick, ?_⟩)
     refine RH.nil ?_
     exact ⟨rfl, b5, b6, trivial, ⟨rfl, rfl, trivial⟩, ⟨rfl, trivial⟩, Cv.p⟩
  ·refine RH.ot2 rfl rfl rfl rfl  (OT.callF (vs := [_, _]) rfl En206 rfl (move_s (p := ⟨_, _⟩) ho ht (by first | exact (RIn_pts hr).1 | exact (RIn_pts hr).2) ⟨Gh.le_refl _, PickC.pick, ?_⟩)) (OT.alloc rfl Zr189 fun b6 => ⟨Gh.le_refl _, PickC.pick, ?_⟩)
   ·refine RH.ot2 rfl rfl rfl rfl  (OT.callF (vs := [_, _]) rfl En206 rfl (move_s (p := ⟨_, _⟩) ho ht (by first | exact (RIn_pts hr).1 | exact (RIn_pts hr).2) ⟨Gh.le_refl _, PickC.pick, ?_⟩)) (OT.alloc rfl Zr189 fun b6 => ⟨Gh.le_refl _, PickC.pick, ?_⟩)
    ·refine RH.ot rfl rfl (OT.alloc rfl Zr189 fun b6 => ⟨Gh.le_refl _, PickC.pick, ?_⟩)
     refine RH.ot rfl rfl (OT.storeW (vs := [vi _, vi _]) rfl Sz189 rfl rfl (Cl.c rfl) rfl rfl (OneC.c rfl) ⟨Gh.le_refl _, PickC.pick, ?_⟩)
     refine RH.ot rfl rfl (OT.storeW (vs := [vi _, vi _]) rfl Sz189 rfl rfl (Cl.c rfl) rfl rfl (OneC.c rfl) ⟨Gh.le_refl _, PickC.pick, ?_⟩)
     refine RH.nil ?_
     exact ⟨rfl, b5, b6, trivial, ⟨rfl, rfl, trivial⟩, ⟨rfl, trivial⟩, Cv.p⟩
    ·refine RH.ot rfl rfl (OT.callF (vs := [_, _]) rfl En206 rfl (move_s (p := ⟨_, _⟩) ho ht (by first | exact (RIn_pts hr).1 | exact (RIn_pts hr).2) ⟨Gh.le_refl _, PickC.pick, ?_⟩))
     refine RH.ot rfl rfl (OT.storeW (vs := [vi _, vi _]) rfl Sz189 rfl rfl (Cl.c rfl) rfl rfl (OneC.c rfl) ⟨Gh.le_refl _, PickC.pick, ?_⟩)
     refine RH.ot rfl rfl (OT.storeW (vs := [vi _, vi _]) rfl Sz189 rfl rfl (Cl.c rfl) rfl rfl (OneC.c rfl) ⟨Gh.le_refl _, PickC.pick, ?_⟩)
     refine RH.nil ?_
     exact ⟨rfl, b5, b6, trivial, ⟨rfl, rfl, trivial⟩, ⟨rfl, trivial⟩, Cv.p⟩
   ·refine RH.ot rfl rfl (OT.callF (vs := [_, _]) rfl En206 rfl (move_s (p := ⟨_, _⟩) ho ht (by first | exact (RIn_pts hr).1 | exact (RIn_pts hr).2) ⟨Gh.le_refl _, PickC.pick, ?_⟩))
    refine RH.ot rfl rfl (OT.callF (vs := [_, _]) rfl En206 rfl (move_s (p := ⟨_, _⟩) ho ht (by first | exact (RIn_pts hr).1 | exact (RIn_pts hr).2) ⟨Gh.le_refl _, PickC.pick, ?_⟩))
    refine RH.ot rfl rfl (OT.storeW (vs := [vi _, vi _]) rfl Sz189 rfl rfl (Cl.c rfl) rfl rfl (OneC.c rfl) ⟨Gh.le_refl _, PickC.pick, ?_⟩)
    refine RH.ot rfl rfl (OT.storeW (vs := [vi _, vi _]) rfl Sz189 rfl rfl (Cl.c rfl) rfl rfl (OneC.c rfl) ⟨Gh.le_refl _, PickC.pick, ?_⟩)
    refine RH.nil ?_
    exact ⟨rfl, b5, b6, trivial, ⟨rfl, rfl, trivial⟩, ⟨rfl, trivial⟩, Cv.p⟩
  ·refine RH.ot2 rfl rfl rfl rfl  (OT.callF (vs := [_, _]) rfl En206 rfl (move_s (p := ⟨_, _⟩) ho ht (by first | exact (RIn_pts hr).1 | exact (RIn_pts hr).2) ⟨Gh.le_refl _, PickC.pick, ?_⟩)) (OT.alloc rfl Zr189 fun b5 => ⟨Gh.le_refl _, PickC.pick, ?_⟩)
   ·refine RH.ot2 rfl rfl rfl rfl  (OT.callF (vs := [_, _]) rfl En206 rfl (move_s (p := ⟨_, _⟩) ho ht (by first | exact (RIn_pts hr).1 | exact (RIn_pts hr).2) ⟨Gh.le_refl _, PickC.pick, ?_⟩)) (OT.alloc rfl Zr189 fun b5 => ⟨Gh.le_refl _, PickC.pick, ?_⟩)
    ·refine RH.ot rfl rfl (OT.alloc rfl Zr189 fun b5 => ⟨Gh.le_refl _, PickC.pick, ?_⟩)
     refine RH.ot rfl rfl (OT.storeW (vs := [vi _, vi _]) rfl Sz189 rfl rfl (Cl.c rfl) rfl rfl (OneC.c rfl) ⟨Gh.le_refl _, PickC.pick, ?_⟩)
     refine RH.ot rfl rfl (OT.storeW (vs := [vi _, vi _]) rfl Sz189 rfl rfl (Cl.c rfl) rfl rfl (OneC.c rfl) ⟨Gh.le_refl _, PickC.pick, ?_⟩)
     refine RH.nil ?_
     exact ⟨rfl, b5, b6, trivial, ⟨rfl, rfl, trivial⟩, ⟨rfl, trivial⟩, Cv.p⟩
    ·refine RH.ot rfl rfl (OT.callF (vs := [_, _]) rfl En206 rfl (move_s (p := ⟨_, _⟩) ho ht (by first | exact (RIn_pts hr).1 | exact (RIn_pts hr).2) ⟨Gh.le_refl _, PickC.pick, ?_⟩))
     refine RH.ot rfl rfl (OT.storeW (vs := [vi _, vi _]) rfl Sz189 rfl rfl (Cl.c rfl) rfl rfl (OneC.c rfl) ⟨Gh.le_refl _, PickC.pick, ?_⟩)
     refine RH.ot rfl rfl (OT.storeW (vs := [vi _, vi _]) rfl Sz189 rfl rfl (Cl.c rfl) rfl rfl (OneC.c rfl) ⟨Gh.le_refl _, PickC.pick, ?_⟩)
     refine RH.nil ?_
     exact ⟨rfl, b5, b6, trivial, ⟨rfl, rfl, trivial⟩, ⟨rfl, trivial⟩, Cv.p⟩
   ·refine RH.ot rfl rfl (OT.callF (vs := [_, _]) rfl En206 rfl (move_s (p := ⟨_, _⟩) ho ht (by first | exact (RIn_pts hr).1 | exact (RIn_pts hr).2) ⟨Gh.le_refl _, PickC.pick, ?_⟩))
    refine RH.ot rfl rfl (OT.callF (vs := [_, _]) rfl En206 rfl (move_s (p := ⟨_, _⟩) ho ht (by first | exact (RIn_pts hr).1 | exact (RIn_pts hr).2) ⟨Gh.le_refl _, PickC.pick, ?_⟩))
    refine RH.ot rfl rfl (OT.storeW (vs := [vi _, vi _]) rfl Sz189 rfl rfl (Cl.c rfl) rfl rfl (OneC.c rfl) ⟨Gh.le_refl _, PickC.pick, ?_⟩)
    refine RH.ot rfl rfl (OT.storeW (vs := [vi _, vi _]) rfl Sz189 rfl rfl (Cl.c rfl) rfl rfl (OneC.c rfl) ⟨Gh.le_refl _, PickC.pick, ?_⟩)
    refine RH.nil ?_
    exact ⟨rfl, b5, b6, trivial, ⟨rfl, rfl, trivial⟩, ⟨rfl, trivial⟩, Cv.p⟩
 ·rintro b5 b6 τ1 -
  refine WP.sr (RG.p (PV.field rfl Fo189_0 rfl) (RG.p (PV.load1 rfl Sc2 rfl (Rd.blk rfl)) (RG.p (PV.field rfl Fo189_0 rfl) (RG.p (PV.load1 rfl Sc2 rfl (Rd.blk rfl)) (RG.p (PV.min2 rfl rfl rfl) (RG.p (PV.field rfl Fo189_1 rfl) (RG.p (PV.load1 rfl Sc2 rfl (Rd.blk rfl)) (RG.p (PV.field rfl Fo189_1 rfl) (RG.p (PV.load1 rfl Sc2 rfl (Rd.blk rfl)) (RG.p (PV.min2 rfl rfl rfl) (RG.p (PV.field rfl Fo189_0 rfl) (RG.p (PV.load1 rfl Sc2 rfl (Rd.blk rfl)) ?_))))))))))))
  refine RG.p (PV.field rfl Fo189_0 rfl) (RG.p (PV.load1 rfl Sc2 rfl (Rd.blk rfl)) (RG.p (PV.max2 rfl rfl rfl) (RG.p (PV.field rfl Fo189_1 rfl) (RG.p (PV.load1 rfl Sc2 rfl (Rd.blk rfl)) (RG.p (PV.field rfl Fo189_1 rfl) (RG.p (PV.load1 rfl Sc2 rfl (Rd.blk rfl)) (RG.p (PV.max2 rfl rfl rfl) (RG.p (PV.build (vs := [(0, [vi _]), (1, [vi _]), (2, [vi _]), (3, [vi _])]) (out := [_, _, _, _]) rfl Zr91 Pl91 ⟨rfl, (Cl.c rfl), ⟨rfl, (Cl.c rfl), ⟨rfl, (Cl.c rfl), ⟨rfl, (Cl.c rfl), trivial⟩⟩⟩⟩ rfl) ?_))))))))
  refine RG.ot rfl (OT.storeW (vs := [vi _, vi _, vi _, vi _]) rfl Sz91 rfl rfl (Cl.c rfl) rfl rfl (OneC.c rfl) ?_)
  refine RG.nil ?_
  exact WP.ret ⟨_, _, ResV.one rfl (RV1.cell rfl Ag91 rfl), Cv.p, k⟩
theorem moveRect_r {t : Trans} {r : Rect} (ho : 0 ≤ t.o ∧ t.o ≤ 7) (ht : -1000 ≤ t.x ∧ t.x ≤ 1000 ∧ -1000 ≤ t.y ∧ t.y ≤ 1000) (hr : RIn 40 r) (k : R (vrect (moveR t r)) G L) : CallT Tryz.prog 111 #[vtrans t, vrect r] G L R := by
 refine CallT.enter (args := _) Tryz.func111 rfl rfl (by kernel_rfl) rfl ?_
 refine WP.sr ?_
 refine RG.ot rfl (OT.box (cs := transT.enc t) rfl rfl rfl fun b2 => ?_)
 refine RG.ot rfl (OT.box (cs := rectT.enc r) rfl rfl rfl fun b3 => ?_)
 refine RG.ot rfl (OT.alloc rfl Zr91 fun b4 => ?_)
 refine RG.nil (WP.sr (RG.p (PV.loadW rfl Ag95 rfl rfl) (RG.p (PV.field rfl Fo91_0 rfl) (RG.p (PV.load1 rfl Sc2 rfl (Rd.blk rfl)) (RG.p (PV.field rfl Fo91_1 rfl) (RG.p (PV.load1 rfl Sc2 rfl (Rd.blk rfl)) (RG.p (PV.build (vs := [(0, [vi _]), (1, [vi _])]) (out := [_, _]) rfl Zr189 Pl189 ⟨rfl, (Cl.c rfl), ⟨rfl, (Cl.c rfl), trivial⟩⟩ rfl) ?_)))))))
 refine RG.callF (vs := [_, _]) rfl rfl En194 rfl (move_r (p := ⟨_, _⟩) ho ht (by first | exact (RIn_pts hr).1 | exact (RIn_pts hr).2) ?_)
 refine RG.ot rfl (OT.alloc rfl Zr189 fun b5 => ?_)
 refine RG.ot rfl (OT.storeW (vs := [vi _, vi _]) rfl Sz189 rfl rfl (Cl.c rfl) rfl rfl (OneC.c rfl) ?_)
 refine RG.nil (WP.sr (RG.p (PV.loadW rfl Ag95 rfl rfl) (RG.p (PV.field rfl Fo91_2 rfl) (RG.p (PV.load1 rfl Sc2 rfl (Rd.blk rfl)) (RG.p (PV.field rfl Fo91_3 rfl) (RG.p (PV.load1 rfl Sc2 rfl (Rd.blk rfl)) (RG.p (PV.build (vs := [(0, [vi _]), (1, [vi _])]) (out := [_, _]) rfl Zr189 Pl189 ⟨rfl, (Cl.c rfl), ⟨rfl, (Cl.c rfl), trivial⟩⟩ rfl) ?_)))))))
 refine RG.callF (vs := [_, _]) rfl rfl En194 rfl (move_r (p := ⟨_, _⟩) ho ht (by first | exact (RIn_pts hr).1 | exact (RIn_pts hr).2) ?_)
 refine RG.ot rfl (OT.alloc rfl Zr189 fun b6 => ?_)
 refine RG.ot rfl (OT.storeW (vs := [vi _, vi _]) rfl Sz189 rfl rfl (Cl.c rfl) rfl rfl (OneC.c rfl) ?_)
 refine RG.nil (WP.sr (RG.p (PV.field rfl Fo189_0 rfl) (RG.p (PV.load1 rfl Sc2 rfl (Rd.blk rfl)) (RG.p (PV.field rfl Fo189_0 rfl) (RG.p (PV.load1 rfl Sc2 rfl (Rd.blk rfl)) (RG.p (PV.min2 rfl rfl rfl) (RG.p (PV.field rfl Fo189_1 rfl) (RG.p (PV.load1 rfl Sc2 rfl (Rd.blk rfl)) (RG.p (PV.field rfl Fo189_1 rfl) (RG.p (PV.load1 rfl Sc2 rfl (Rd.blk rfl)) (RG.p (PV.min2 rfl rfl rfl) (RG.p (PV.field rfl Fo189_0 rfl) ?_))))))))))))
 refine RG.p (PV.load1 rfl Sc2 rfl (Rd.blk rfl)) (RG.p (PV.field rfl Fo189_0 rfl) (RG.p (PV.load1 rfl Sc2 rfl (Rd.blk rfl)) (RG.p (PV.max2 rfl rfl rfl) (RG.p (PV.field rfl Fo189_1 rfl) (RG.p (PV.load1 rfl Sc2 rfl (Rd.blk rfl)) (RG.p (PV.field rfl Fo189_1 rfl) (RG.p (PV.load1 rfl Sc2 rfl (Rd.blk rfl)) (RG.p (PV.max2 rfl rfl rfl) (RG.p (PV.build (vs := [(0, [vi _]), (1, [vi _]), (2, [vi _]), (3, [vi _])]) (out := [_, _, _, _]) rfl Zr91 Pl91 ⟨rfl, (Cl.c rfl), ⟨rfl, (Cl.c rfl), ⟨rfl, (Cl.c rfl), ⟨rfl, (Cl.c rfl), trivial⟩⟩⟩⟩ rfl) ?_)))))))))
 refine RG.ot rfl (OT.storeW (vs := [vi _, vi _, vi _, vi _]) rfl Sz91 rfl rfl (Cl.c rfl) rfl rfl (OneC.c rfl) ?_)
 refine RG.nil ?_
 exact WP.ret ⟨_, _, ResV.one rfl (RV1.cell rfl Ag91 rfl), Cv.p, k⟩
end Go.Proofs.YtgphjofccckloaaGreat
namespace Go.Proofs.YtgphjofccckloaaGreat
open Go
set_option maxRecDepth 20000
variable {G : Gh} {L : List Ch} {R : Value → Gh → List Ch → Prop}
theorem RIn_valid {r : Rect} : validRect r = true ↔ RIn 40 r := by simp [validRect, RIn]; omega
theorem RIn_all {xs : List Rect} (h : isReg xs = true) : ∀ r ∈ xs, RIn 40 r := by
 have := isReg_valid h
 simp only [validRs, Bool.and_eq_true, List.all_eq_true] at this
 exact fun r hr => RIn_valid.1 (this.2 r hr)
theorem boxOf_s {v : Value} {xs : List Rect} (h1 : Rs G L rectT v xs) (h0 : 0 < xs.length) (k : R (vrect (boxL xs)) G L) : CallT Tryz.prog 205 #[v] G L R := by
 refine CallT.bd h1 fun hb => ?_
 refine CallT.enter (args := _) Tryz.func205 rfl rfl (by kernel_rfl) rfl ?_
 refine WP.sr ?_
 refine RG.ot rfl (OT.alloc rfl Zr91 fun b2 => ?_)
 refine RG.nil (WP.sr (RG.p (PV.move (v := v) rfl rfl) (RG.p (PV.idxS (j := 0) (v := v) rfl Is50 rfl (SlF.r h1) rfl (by omega) (by omega)) (RG.p (PV.loadE rfl Ag91 rfl rfl (El.r h1 (getG (by omega)))) ?_))))
 refine RG.ot rfl (OT.alloc rfl Zr91 fun b3 => ?_)
 refine RG.ot rfl (OT.storeW (vs := [vi _, vi _, vi _, vi _]) rfl Sz91 rfl rfl (Cl.c rfl) rfl rfl (OneC.c rfl) ?_)
 refine RG.nil (WP.seq (WP.sr (RG.p (PV.move (v := v) rfl rfl) (RG.p (PV.len (v := v) rfl Tryz.underlying50 rfl (SlF.r h1)) (RG.ml rfl (RG.nil (WP.block ?_)))))))
 refine WP.loop2 [2, 3, 9, 10] (fun (i : Nat) (a : Rect) => i ≤ xs.length ∧ a = boxFrom (gd xs 0) (xs.take i)) (fun (i : Nat) (a : Rect) => [(11, vi i)]) (fun (i : Nat) (a : Rect) => blk b3 91 (rectT.enc a) :: blk b2 91 [vi 0, vi 0, vi 0, vi 0] :: L) (fun (i : Nat) (a : Rect) => xs.length - i) 0 (gd xs 0) ⟨by omega, rfl⟩ ⟨rfl, trivial⟩ Cv.p ?_
 rintro i a τ ⟨hi, ha⟩
 refine WP.sr (RG.p (PV.lss rfl rfl rfl) (RG.nil (WP.seq ?_)))
 refine WP.cond rfl (fun h2 => ?_) (fun h2 => ?_)
 ·have h2 := of_decide_eq_true h2
  refine WP.skip (WP.seq (WP.block (WP.sr (RG.p (PV.idxS (v := v) rfl Is50 rfl (SlF.r h1) rfl rfl (by omega)) (RG.p (PV.loadE rfl Ag91 rfl rfl (El.r h1 (getG (by omega)))) ?_)))))
  refine RG.ot rfl (OT.alloc rfl Zr91 fun b5 => ?_)
  refine RG.ot rfl (OT.storeW (vs := [vi _, vi _, vi _, vi _]) rfl Sz91 rfl rfl (Cl.c rfl) rfl rfl (OneC.c rfl) ?_)
  refine RG.nil (WP.region (RG.p (PV.field rfl Fo91_0 rfl) (RG.p (PV.load1 rfl Sc2 rfl (Rd.blk rfl)) (RG.p (PV.field rfl Fo91_0 rfl) (RG.p (PV.load1 rfl Sc2 rfl (Rd.blk rfl)) (RG.p (PV.min2 rfl rfl rfl) (RG.p (PV.field rfl Fo91_1 rfl) (RG.p (PV.load1 rfl Sc2 rfl (Rd.blk rfl)) (RG.p (PV.field rfl Fo91_1 rfl) (RG.p (PV.load1 rfl Sc2 rfl (Rd.blk rfl)) (RG.p (PV.min2 rfl rfl rfl) (RG.p (PV.field rfl Fo91_2 rfl) (RG.p (PV.load1 rfl Sc2 rfl (Rd.blk rfl)) ?_)))))))))))))
  refine RG.p (PV.field rfl Fo91_2 rfl) (RG.p (PV.load1 rfl Sc2 rfl (Rd.blk rfl)) (RG.p (PV.max2 rfl rfl rfl) (RG.p (PV.field rfl Fo91_3 rfl) (RG.p (PV.load1 rfl Sc2 rfl (Rd.blk rfl)) (RG.p (PV.field rfl Fo91_3 rfl) (RG.p (PV.load1 rfl Sc2 rfl (Rd.blk rfl)) (RG.p (PV.max2 rfl rfl rfl) (RG.p (PV.build (vs := [(0, [vi _]), (1, [vi _]), (2, [vi _]), (3, [vi _])]) (out := [_, _, _, _]) rfl Zr91 Pl91 ⟨rfl, (Cl.c rfl), ⟨rfl, (Cl.c rfl), ⟨rfl, (Cl.c rfl), ⟨rfl, (Cl.c rfl), trivial⟩⟩⟩⟩ rfl) ?_))))))))
  refine RG.ot rfl (OT.storeW (vs := [vi _, vi _, vi _, vi _]) rfl Sz91 rfl rfl (Cl.c rfl) rfl rfl (OneC.c rfl) ?_)
  refine RG.nil (WP.region (RG.p (PV.add rfl rfl rfl (by omega)) (RG.ml rfl (RG.nil ?_))))
  exact ⟨rfl, i + 1, (joinR a (gd xs i)), ⟨by omega, by rw [boxFrom_take (by omega), ha]⟩, ⟨rfl, trivial⟩, ⟨rfl, rfl, rfl, rfl, trivial⟩, Cv.p, by omega⟩
 ·have h2 := of_decide_eq_false h2
  have e : a = boxL xs := by rw [ha, List.take_of_length_le (by omega)]; rfl
  rw [← e] at k
  refine WP.exit ?_
  refine WP.sr (RG.p (PV.loadW rfl Ag91 rfl rfl) ?_)
  refine RG.ot rfl (OT.storeW (vs := [vi _, vi _, vi _, vi _]) rfl Sz91 rfl rfl (Cl.c rfl) rfl rfl (OneC.c rfl) ?_)
  refine RG.nil ?_
  exact WP.ret ⟨_, _, ResV.one rfl (RV1.cell rfl Ag91 rfl), Cv.p, k⟩
def movedOk (t : Trans) (xs : List Rect) : Bool := xs.all fun r => validRect (moveR t r)
end Go.Proofs.YtgphjofccckloaaGreat
namespace Go.Proofs.YtgphjofccckloaaGreat
open Go
set_option maxRecDepth 20000
variable {G : Gh} {L : List Ch} {R : Value → Gh → List Ch → Prop}
open Classical in
noncomputable def celL (P : Nat → Nat → Prop) : List Bool := (List.range 6400).map fun k => decide (P (k / 80) (k % 80))
theorem celL_len (P : Nat → Nat → Prop) : (celL P).length = 6400 := by simp [celL]
theorem celL_gb {P : Nat → Nat → Prop} {y x : Nat} (hy : y < 80) (hx : x < 80) : gb (celL P) y x = true ↔ P y x := by
 have h1 : y * 80 + x < 6400 := by omega
 have h2 : (y * 80 + x) / 80 = y := by omega
 have h3 : (y * 80 + x) % 80 = x := by omega
 simp [gb, gd, celL, h1, h2, h3]
theorem celL_eq {P : Nat → Nat → Prop} {D : List Bool} (hD : D.length = 6400) (h : ∀ y x, y < 80 → x < 80 → (gb D y x = true ↔ P y x)) : D = celL P :=
 gb_ext hD (celL_len _) fun y x hy hx => by rw [Bool.eq_iff_iff, h y x hy hx, celL_gb hy hx]
def lnI (ver : Bool) (y x : Nat) : Int := bif ver then (x : Int) - 40 else (y : Int) - 40
def plI (ver : Bool) (y x : Nat) : Int := bif ver then (y : Int) - 40 else (x : Int) - 40
theorem inR_line {ver : Bool} {l lo hi : Int} {y x : Nat} : inR (lineR ver l lo hi) y x = true ↔ l = lnI ver y x ∧ lo ≤ plI ver y x ∧ plI ver y x < hi := by
 rw [inR_iff]
 cases ver <;> simp only [lineR, lnI, plI, cond_true, cond_false] <;> omega
theorem lenR_line {ver : Bool} {l lo hi : Int} : lenR (lineR ver l lo hi) = hi - lo := by
 cases ver
 ·simp only [lenR, lineR, cond_false]; rw [show l + 1 - l = 1 by omega, Int.mul_one]
 ·simp only [lenR, lineR, cond_true]; rw [show l + 1 - l = 1 by omega, Int.one_mul]
theorem isRun.uniq {S : List Bool} {ver : Bool} {l k lo hi lo' hi' : Int} (h : isRun S ver l k lo hi) (g : isRun S ver l k lo' hi') : lo = lo' ∧ hi = hi' := by
 have a1 := h.lk; have a2 := g.lk
 constructor
 ·rcases Int.lt_trichotomy lo lo' with c | c | c
  ·have := h.all (lo' - 1) (by omega) (by omega); rw [g.low] at this; cases this
  ·exact c
  ·have := g.all (lo - 1) (by omega) (by omega); rw [h.low] at this; cases this
 ·rcases Int.lt_trichotomy hi hi' with c | c | c
  ·have := g.all hi (by omega) (by omega); rw [h.high] at this; cases this
  ·exact c
  ·have := h.all hi' (by omega) (by omega); rw [g.high] at this; cases this
def Thin (S : List Bool) (w : Int) (y x : Nat) : Prop := ∃ ver lo hi, isRun S ver (lnI ver y x) (plI ver y x) lo hi ∧ hi - lo < w
theorem isRun.at {S : List Bool} {ver : Bool} {l k k' lo hi : Int} (h : isRun S ver l k lo hi) (h1 : lo ≤ k' ∧ k' < hi) : isRun S ver l k' lo hi := ⟨h1, h.rng, h.all, h.low, h.high⟩
theorem markC_iff {S : List Bool} {out : List Rect} (h : RunsA S out) {w : Int} {y x : Nat} : markC out w y x = true ↔ Thin S w y x := by
 simp only [markC, List.any_eq_true, Bool.and_eq_true, decide_eq_true_eq]
 constructor
 ·rintro ⟨r, hr, h1, h2⟩
  obtain ⟨ver, l, k, lo, hi, h3, rfl⟩ := h.run r hr
  obtain ⟨rfl, h4⟩ := inR_line.1 h2
  rw [lenR_line] at h1
  exact ⟨ver, lo, hi, h3.at h4, h1⟩
 ·rintro ⟨ver, lo, hi, h1, h2⟩
  obtain ⟨lo', hi', h3, h4⟩ := h.all ver _ _ (h1.all _ h1.lk.1 h1.lk.2)
  obtain ⟨rfl, rfl⟩ := h1.uniq h3
  exact ⟨_, h4, by rw [lenR_line]; exact h2, inR_line.2 ⟨rfl, h1.lk⟩⟩
def okDist (w : Int) : Bool := decide (w ≥ 1) && decide (w ≤ 8)
noncomputable def widthL (xs : List Rect) (w : Int) : List Rect := if (isReg xs && okDist w) = true then canon (celL (Thin (bits xs) w)) else []
theorem distance_s {w : Int} (k : R (.bool (okDist w)) G L) : CallT Tryz.prog 168 #[vi w] G L R := by
 refine CallT.enter (args := _) Tryz.func168 rfl rfl (by kernel_rfl) rfl ?_
 refine WP.sr (RG.br rfl (RG.nil (WP.sr (RG.ml rfl (RG.p (PV.geq rfl rfl rfl) (RG.bl rfl ?_))))))
 refine RG.g rfl (fun hp => (PV.mvI (.inl rfl) rfl)) ?_
 refine RG.g rfl (fun hp => (PV.leq rfl (gs_t hp) rfl)) ?_
 refine RG.p (PV.pickA rfl rfl (fun hq => gs_t (geqT hq)) rfl) (RG.br rfl (RG.nil ?_))
 exact WP.ret ⟨_, _, ResV.one rfl rfl, Cv.p, k⟩
theorem markWidth_s {v : Value} {xs : List Rect} {w : Int} (h1 : Rs G L rectT v xs) (k : ∀ v', R v' G (osl 91 rectT v' (widthL xs w) :: L)) : CallT Tryz.prog 93 #[v, vi w] G L R := by
 refine CallT.enter (args := _) Tryz.func93 rfl rfl (by kernel_rfl) rfl ?_
 refine WP.sr (RG.p (PV.asg rfl rfl) (RG.nil (WP.seq (WP.sr (RG.p (PV.move (v := v) rfl rfl) ?_)))))
 refine RG.callF (vs := [v]) rfl rfl En167 rfl (l03Ok_s (Rs.up h1) ?_)
 refine RG.p (PV.not rfl rfl) (RG.bl rfl ?_)
 refine RG.g rfl (fun hp => (PV.mvI (.inl rfl) rfl)) ?_
 refine RG.gsC rfl rfl rfl rfl En168 (fun hp => ⟨_, (acons (gs_t hp) anil), distance_s ⟨rfl, rfl, rfl⟩⟩) ?_
 refine RG.g rfl (fun hp => (PV.not rfl (gs_t hp))) ?_
 refine RG.p (PV.pickO rfl rfl rfl (fun hq => gs_t (geqF hq))) (RG.nil ?_)
 refine WP.cond rfl (fun h2 => ?_) (fun h2 => ?_)
 ·have e : widthL xs w = [] := by rw [widthL, if_neg]; cases h3 : isReg xs <;> cases h4 : okDist w <;> simp_all
  rw [e] at k
  refine WP.sr ?_
  refine RG.ot rfl (OT.bslice (F := rectT) (els := []) rfl El50 rfl (by decide) rfl (by decide) trivial fun v13 => ?_)
  refine RG.p (PV.asg (v := v13) rfl rfl) (RG.nil ?_)
  exact WP.ret ⟨_, _, ResV.one rfl rfl, Cv.p, k v13⟩
 ·have h3 : isReg xs = true ∧ okDist w = true := by cases h3 : isReg xs <;> cases h4 : okDist w <;> simp_all
  have hreg := h3.1
  refine WP.skip (WP.sr (RG.p (PV.move (v := v) rfl rfl) ?_))
  refine RG.callF (vs := [v]) rfl rfl En120 rfl (l03Bits_s (Rs.up h1) (fun i hi => valid_get (isReg_valid hreg) hi) (fun v15 => ?_))
  refine RG.callF (vs := [v15]) rfl rfl En170 rfl (runsAll_s Rs.o (bits_length _) (fun v16 outv16 houtv16 => have hlnv16 := houtv16.len; ?_))
  refine RG.ml rfl ?_
  refine RG.callF (vs := [v16, _]) rfl rfl En169 rfl (mark_s Rs.o (fun r hr => by obtain ⟨ver, l, k, lo, hi, g1, rfl⟩ := houtv16.run r hr; exact lineR_valid g1) (by omega) (fun v18 Dv18 hDv18 hgv18 => ?_))
  refine RG.callF (vs := [v18]) rfl rfl En119 rfl (l03Canon_s Rs.o hDv18 (fun v19 => ?_))
  refine RG.p (PV.asg (v := v19) rfl rfl) (RG.nil ?_)
  refine WP.ret ?_
  have e : widthL xs w = canon Dv18 := by rw [widthL, if_pos (by rw [h3.1, h3.2]; rfl), celL_eq (P := Thin (bits xs) w) hDv18 (fun y x hy hx => by rw [hgv18 y x hy hx, markC_iff houtv16])]
  rw [e] at k
  exact ⟨_, _, ResV.one rfl rfl, Cv.p, k v19⟩
end Go.Proofs.YtgphjofccckloaaGreat
namespace Go.Proofs.YtgphjofccckloaaGreat
open Go
set_option maxRecDepth 20000
variable {G : Gh} {L : List Ch} {R : Value → Gh → List Ch → Prop}
def notB (S : List Bool) : List Bool := S.map (!·)
theorem notB_len (S : List Bool) : (notB S).length = S.length := by simp [notB]
theorem mapB_set {f : Nat → Bool} {E : List Bool} {i n : Nat} (hi : i < n) (hE : E = (List.range i).map f ++ List.replicate (n - i) false) : E.set i (f i) = (List.range (i + 1)).map f ++ List.replicate (n - (i + 1)) false := by
 rw [hE, List.set_append_right _ _ (by simp), List.range_succ, List.map_append, List.append_assoc]
 congr 1
 rw [show n - i = (n - (i + 1)) + 1 by omega, List.replicate_succ]
 simp
theorem mapB_all {f : Nat → Bool} {S : List Bool} {g : Bool → Bool} (h : ∀ j, j < S.length → f j = g (gd S j)) : (List.range S.length).map f ++ List.replicate (S.length - S.length) false = S.map g := by
 rw [Nat.sub_self, List.replicate_zero, List.append_nil]
 apply List.ext_getElem
 ·simp
 ·intro j h1 h2
  have h3 : j < S.length := by simpa using h1
  simp only [List.getElem_map, List.getElem_range, h j h3]
  rw [gd_eq h3]
theorem outside_s {v : Value} {S : List Bool} (h1 : Rs G L boolT v S) (hl : S.length = 6400) (k : ∀ v', R v' G (osl 4 boolT v' (notB S) :: L)) : CallT Tryz.prog 267 #[v] G L R := by
 refine CallT.enter (args := _) Tryz.func267 rfl rfl (by kernel_rfl) rfl ?_
 refine WP.sr (RG.p (PV.asg rfl rfl) (RG.nil (WP.sr (RG.p (PV.move (v := v) rfl rfl) (RG.p (PV.len (v := v) rfl Tryz.underlying162 rfl (SlF.r h1)) ?_)))))
 refine RG.ot rfl (OT.make (F := boolT) (a0 := false) rfl El162 rfl (by decide) rfl rfl (by omega) (by omega) fun v7 => ?_)
 refine RG.p (PV.asg (v := v7) rfl rfl) (RG.nil (WP.seq (WP.sr (RG.mr rfl (RG.nil (WP.block ?_))))))
 refine WP.loop2 [0, 3] (fun (i : Nat) (E : List Bool) => i ≤ S.length ∧ E = (List.range i).map (fun j => !gd S j) ++ List.replicate (S.length - i) false) (fun (i : Nat) (E : List Bool) => [(4, vi i)]) (fun (i : Nat) (E : List Bool) => osl 4 boolT v7 E :: L) (fun (i : Nat) (E : List Bool) => S.length - i) 0 (List.replicate S.length false) ⟨by omega, by simp⟩ ⟨rfl, trivial⟩ Cv.p ?_
 rintro i E τ ⟨hi, hE⟩
 refine WP.seq (WP.sr (RG.ml rfl (RG.p (PV.move (v := v) rfl rfl) (RG.p (PV.len (v := v) rfl Tryz.underlying162 rfl (SlF.r h1)) (RG.p (PV.lss rfl rfl rfl) (RG.nil ?_))))))
 have hEl : E.length = S.length := by rw [hE]; simp; omega
 refine WP.cond rfl (fun h2 => ?_) (fun h2 => ?_)
 ·have h2 := of_decide_eq_true h2
  have hn := mapB_set (f := fun j => !gd S j) (n := S.length) (i := i) (by omega) hE
  refine WP.skip (WP.seq (WP.block (WP.region (RG.p (PV.move (v := v7) rfl rfl) (RG.ml rfl (RG.p (PV.move (v := v) rfl rfl) (RG.ml rfl (RG.p (PV.idxS (v := v) rfl Is162 rfl (SlF.r h1) rfl rfl (by omega)) (RG.p (PV.loadE1 rfl Sc4 rfl rfl (El.r h1 (getG (by omega))) rfl) (RG.p (PV.not rfl rfl) (RG.p (PV.idxS (v := v7) rfl Is162 rfl SlF.o rfl rfl (by omega)) ?_)))))))))))
  refine RG.ot rfl (OT.storeE (F := boolT) rfl Sz4 rfl rfl rfl (Cl.c rfl) (OneC.c rfl) (by omega) ?_)
  refine RG.nil (WP.region (RG.ml rfl (RG.p (PV.add rfl rfl rfl (by omega)) (RG.mr rfl (RG.nil ?_)))))
  exact ⟨rfl, i + 1, _, ⟨by omega, hn⟩, ⟨rfl, trivial⟩, ⟨rfl, rfl, trivial⟩, Cv.p, by omega⟩
 ·have h2 := of_decide_eq_false h2
  obtain rfl : i = S.length := by omega
  rw [mapB_all (g := (!·)) (fun j _ => rfl)] at hE
  have hE' : E = notB S := hE
  rw [hE']
  refine WP.exit ?_
  refine WP.sr (RG.p (PV.move (v := v7) rfl rfl) (RG.p (PV.asg (v := v7) rfl rfl) (RG.nil ?_)))
  exact WP.ret ⟨_, _, ResV.one rfl rfl, Cv.p, k v7⟩
def endP (r : Rect) (ver : Bool) : Pt := bif ver then ⟨r.x0, r.y0 - 1⟩ else ⟨r.x0 - 1, r.y0⟩
def endQ (r : Rect) (ver : Bool) : Pt := bif ver then ⟨r.x0, r.y1⟩ else ⟨r.x1, r.y0⟩
theorem ends_s {r : Rect} {ver : Bool} (hv : validRect r = true) (k : R (.tuple #[vpt (endP r ver), vpt (endQ r ver)]) G L) : CallT Tryz.prog 268 #[vrect r, .bool ver] G L R := by
 have h := validR_iff.1 hv
 refine CallT.enter (args := _) Tryz.func268 rfl rfl (by kernel_rfl) rfl ?_
 refine WP.sr ?_
 refine RG.ot rfl (OT.box (cs := rectT.enc r) rfl rfl rfl fun b2 => ?_)
 refine RG.ot rfl (OT.alloc rfl Zr189 fun b4 => ?_)
 refine RG.ot rfl (OT.alloc rfl Zr189 fun b5 => ?_)
 refine RG.nil (WP.seq (WP.sr (RG.bl rfl (RG.nil ?_))))
 refine WP.cond rfl (fun h2 => ?_) (fun h2 => ?_)
 ·subst h2
  refine WP.seq ?_
  refine WP.regionHD [.b b4, .b b5] (.q 0 (.q 1 (.q 2 (.q 3 (.q 4 (.q 5 (.q 6 (.q 7 (.q 8 (.q 9 (.q 10 (.l 11 (.l 12 Sch.nil))))))))))))) (by kernel_rfl) (by kernel_rfl) (by kernel_rfl) rfl ?_
  refine RH.w rfl rfl (PV.field rfl Fo91_0 rfl) (RH.w rfl rfl (PV.load1 rfl Sc2 rfl (Rd.blk rfl)) (RH.w rfl rfl (PV.field rfl Fo91_1 rfl) (RH.w rfl rfl (PV.load1 rfl Sc2 rfl (Rd.blk rfl)) (RH.w rfl rfl (PV.sub rfl rfl rfl (by omega)) (RH.w rfl rfl (PV.build (vs := [(0, [vi _]), (1, [vi _])]) (out := [_, _]) rfl Zr189 Pl189 ⟨rfl, (Cl.c rfl), ⟨rfl, (Cl.c rfl), trivial⟩⟩ rfl) (RH.w rfl rfl (PV.field rfl Fo91_0 rfl) (RH.w rfl rfl (PV.load1 rfl Sc2 rfl (Rd.blk rfl)) (RH.w rfl rfl (PV.field rfl Fo91_3 rfl) (RH.w rfl rfl (PV.load1 rfl Sc2 rfl (Rd.blk rfl)) (RH.w rfl rfl (PV.build (vs := [(0, [vi _]), (1, [vi _])]) (out := [_, _]) rfl Zr189 Pl189 ⟨rfl, (Cl.c rfl), ⟨rfl, (Cl.c rfl), trivial⟩⟩ rfl) ?_))))))))))
  refine RH.ot rfl rfl (OT.storeW (vs := [vi _, vi _]) rfl Sz189 rfl rfl (Cl.c rfl) rfl rfl (OneC.c rfl) ⟨Gh.le_refl _, PickC.pick, ?_⟩)
  refine RH.ot rfl rfl (OT.storeW (vs := [vi _, vi _]) rfl Sz189 rfl rfl (Cl.c rfl) rfl rfl (OneC.c rfl) ⟨Gh.le_refl _, PickC.pick, ?_⟩)
  refine RH.nil ?_
  exact WP.ret ⟨_, _, ResV.two rfl (RV1.cell rfl Ag189 rfl) (RV1.cell rfl Ag189 rfl), Cv.p, k⟩
 ·subst h2
  refine WP.skip (WP.seq ?_)
  refine WP.regionHD [.b b4, .b b5] (.q 0 (.q 1 (.q 2 (.q 3 (.q 4 (.q 5 (.q 6 (.q 7 (.q 8 (.q 9 (.q 10 (.l 11 (.l 12 Sch.nil))))))))))))) (by kernel_rfl) (by kernel_rfl) (by kernel_rfl) rfl ?_
  refine RH.w rfl rfl (PV.field rfl Fo91_0 rfl) (RH.w rfl rfl (PV.load1 rfl Sc2 rfl (Rd.blk rfl)) (RH.w rfl rfl (PV.sub rfl rfl rfl (by omega)) (RH.w rfl rfl (PV.field rfl Fo91_1 rfl) (RH.w rfl rfl (PV.load1 rfl Sc2 rfl (Rd.blk rfl)) (RH.w rfl rfl (PV.build (vs := [(0, [vi _]), (1, [vi _])]) (out := [_, _]) rfl Zr189 Pl189 ⟨rfl, (Cl.c rfl), ⟨rfl, (Cl.c rfl), trivial⟩⟩ rfl) (RH.w rfl rfl (PV.field rfl Fo91_2 rfl) (RH.w rfl rfl (PV.load1 rfl Sc2 rfl (Rd.blk rfl)) (RH.w rfl rfl (PV.field rfl Fo91_1 rfl) (RH.w rfl rfl (PV.load1 rfl Sc2 rfl (Rd.blk rfl)) (RH.w rfl rfl (PV.build (vs := [(0, [vi _]), (1, [vi _])]) (out := [_, _]) rfl Zr189 Pl189 ⟨rfl, (Cl.c rfl), ⟨rfl, (Cl.c rfl), trivial⟩⟩ rfl) ?_))))))))))
  refine RH.ot rfl rfl (OT.storeW (vs := [vi _, vi _]) rfl Sz189 rfl rfl (Cl.c rfl) rfl rfl (OneC.c rfl) ⟨Gh.le_refl _, PickC.pick, ?_⟩)
  refine RH.ot rfl rfl (OT.storeW (vs := [vi _, vi _]) rfl Sz189 rfl rfl (Cl.c rfl) rfl rfl (OneC.c rfl) ⟨Gh.le_refl _, PickC.pick, ?_⟩)
  refine RH.nil ?_
  exact WP.ret ⟨_, _, ResV.two rfl (RV1.cell rfl Ag189 rfl) (RV1.cell rfl Ag189 rfl), Cv.p, k⟩
def orZ (A B : List Bool) : List Bool := (List.range A.length).map fun j => gd A j || gd B j
theorem orZ_len (A B : List Bool) : (orZ A B).length = A.length := by simp [orZ]
def gapE (A B : List Bool) (ver : Bool) (r : Rect) : Bool := (celB A (endP r ver).x (endP r ver).y && celB B (endQ r ver).x (endQ r ver).y) || (celB B (endP r ver).x (endP r ver).y && celB A (endQ r ver).x (endQ r ver).y)
theorem filt_succ {α : Type} [Inhabited α] (p : α → Bool) {xs : List α} {i : Nat} (h : i < xs.length) : (xs.take (i + 1)).filter p = (xs.take i).filter p ++ (if p (gd xs i) = true then [gd xs i] else []) := by
 rw [List.take_add_one, getG h, List.filter_append]; congr 1; cases h2 : p (gd xs i) <;> simp [h2]
theorem betw_s {u v : Value} {A B : List Bool} {ver : Bool} (h1 : Rs G L boolT u A) (h2 : Rs G L boolT v B) (hA : A.length = 6400) (hB : B.length = 6400) (k : ∀ v' out, RunsOf (notB (orZ A B)) ver out → R v' G (osl 91 rectT v' (out.filter (gapE A B ver)) :: L)) : CallT Tryz.prog 235 #[u, v, .bool ver] G L R := by
 refine CallT.enter (args := _) Tryz.func235 rfl rfl (by kernel_rfl) rfl ?_
 refine WP.sr (RG.p (PV.asg rfl rfl) (RG.nil (WP.sr (RG.p (PV.move (v := u) rfl rfl) (RG.p (PV.len (v := u) rfl Tryz.underlying162 rfl (SlF.r h1)) ?_)))))
 refine RG.ot rfl (OT.make (F := boolT) (a0 := false) rfl El162 rfl (by decide) rfl rfl (by omega) (by omega) fun v16 => ?_)
 refine RG.p (PV.asg (v := v16) rfl rfl) (RG.nil (WP.seq (WP.sr (RG.mr rfl (RG.nil (WP.block ?_))))))
 refine WP.loop2 [0, 1, 2, 7] (fun (i : Nat) (E : List Bool) => i ≤ A.length ∧ E = (List.range i).map (fun j => gd A j || gd B j) ++ List.replicate (A.length - i) false) (fun (i : Nat) (E : List Bool) => [(8, vi i)]) (fun (i : Nat) (E : List Bool) => osl 4 boolT v16 E :: L) (fun (i : Nat) (E : List Bool) => A.length - i) 0 (List.replicate A.length false) ⟨by omega, by simp⟩ ⟨rfl, trivial⟩ Cv.p ?_
 rintro i E τ ⟨hi, hE⟩
 refine WP.seq (WP.sr (RG.ml rfl (RG.p (PV.move (v := u) rfl rfl) (RG.p (PV.len (v := u) rfl Tryz.underlying162 rfl (SlF.r h1)) (RG.p (PV.lss rfl rfl rfl) (RG.nil ?_))))))
 have hEl : E.length = A.length := by rw [hE]; simp; omega
 refine WP.cond rfl (fun h3 => ?_) (fun h3 => ?_)
 ·have h3 := of_decide_eq_true h3
  have hn := mapB_set (f := fun j => gd A j || gd B j) (n := A.length) (i := i) (by omega) hE
  refine WP.skip (WP.seq (WP.block (WP.region (RG.p (PV.move (v := v16) rfl rfl) (RG.ml rfl (RG.p (PV.move (v := u) rfl rfl) (RG.ml rfl (RG.p (PV.idxS (v := u) rfl Is162 rfl (SlF.r h1) rfl rfl (by omega)) (RG.p (PV.loadE1 rfl Sc4 rfl rfl (El.r h1 (getG (by omega))) rfl) (RG.bl rfl ?_))))))))))
  refine RG.g rfl (fun hp => (PV.move (v := v) rfl rfl)) ?_
  refine RG.g rfl (fun hp => (PV.mvI (.inl rfl) rfl)) ?_
  refine RG.g rfl (fun hp => (PV.idxS (v := v) rfl Is162 (gs_t hp) (SlF.r h2) (gs_t hp) rfl (by first | omega | (simp at hp; omega)))) ?_
  refine RG.g rfl (fun hp => (PV.loadE1 rfl Sc4 (gs_t hp) rfl (El.r h2 (getG (by first | omega | (simp at hp; omega)))) rfl)) ?_
  refine RG.p (PV.pickO rfl rfl rfl (fun hq => gs_t (geqF hq))) (RG.p (PV.idxS (v := v16) rfl Is162 rfl SlF.o rfl rfl (by omega)) ?_)
  refine RG.ot rfl (OT.storeE (F := boolT) rfl Sz4 rfl rfl rfl (Cl.c rfl) (OneC.c rfl) (by omega) ?_)
  refine RG.nil (WP.region (RG.ml rfl (RG.p (PV.add rfl rfl rfl (by omega)) (RG.mr rfl (RG.nil ?_)))))
  exact ⟨rfl, i + 1, _, ⟨by omega, hn⟩, ⟨rfl, trivial⟩, ⟨rfl, rfl, rfl, rfl, trivial⟩, Cv.p, by omega⟩
 ·have h3 := of_decide_eq_false h3
  obtain rfl : i = A.length := by omega
  have hE' : E = orZ A B := by rw [hE, Nat.sub_self, List.replicate_zero, List.append_nil]; rfl
  rw [hE']
  refine WP.exit ?_
  refine WP.sr (RG.p (PV.move (v := v16) rfl rfl) ?_)
  refine RG.callF (vs := [v16]) rfl rfl En267 rfl (outside_s Rs.o (by rw [orZ_len]; exact hA) (fun v37 => ?_))
  refine RG.bl rfl ?_
  refine RG.callF (vs := [v37, _]) rfl rfl En234 rfl (runs_s Rs.o (by rw [notB_len, orZ_len]; exact hA) (fun v39 outv39 houtv39 => have hlnv39 := houtv39.len; ?_))
  refine RG.p (PV.asg (v := v39) rfl rfl) (RG.nil (WP.sr ?_))
  refine RG.ot rfl (OT.bslice (F := rectT) (els := []) rfl El50 rfl (by decide) rfl (by decide) trivial fun v40 => ?_)
  refine RG.p (PV.asg (v := v40) rfl rfl) (RG.nil (WP.seq (WP.sr (RG.mr rfl (RG.nil (WP.block ?_))))))
  have hvr : ∀ r ∈ outv39, validRect r = true := fun r hr => by obtain ⟨l, k, lo, hi, g1, rfl⟩ := houtv39.run r hr; exact lineR_valid g1
  refine WP.loop3 [0, 1, 2, 9] (fun (i : Nat) (out : List Rect) (q : Value) => i ≤ outv39.length ∧ out = (outv39.take i).filter (gapE A B ver)) (fun (i : Nat) (out : List Rect) (q : Value) => [(11, vi i), (10, q)]) (fun (i : Nat) (out : List Rect) (q : Value) => osl 91 rectT q out :: osl 91 rectT v39 outv39 :: L) (fun (i : Nat) (out : List Rect) (q : Value) => outv39.length - i) 0 [] v40 ⟨by omega, rfl⟩ ⟨rfl, rfl, trivial⟩ Cv.p ?_
  rintro i out q τ1 ⟨hi, hout⟩
  refine WP.seq (WP.sr (RG.ml rfl (RG.p (PV.move (v := v39) rfl rfl) (RG.p (PV.len (v := v39) rfl Tryz.underlying50 rfl SlF.o) (RG.p (PV.lss rfl rfl rfl) (RG.nil ?_))))))
  have hol : out.length ≤ 6400 := by have := List.length_filter_le (gapE A B ver) (outv39.take i); rw [← hout, List.length_take] at this; omega
  refine WP.cond rfl (fun h4 => ?_) (fun h4 => ?_)
  ·have h4 := of_decide_eq_true h4
   have h40 : i < outv39.length := by omega
   have hf := filt_succ (gapE A B ver) h40
   refine WP.skip (WP.seq (WP.block (WP.sr (RG.p (PV.move (v := v39) rfl rfl) (RG.ml rfl (RG.p (PV.idxS (v := v39) rfl Is50 rfl SlF.o rfl rfl (by omega)) (RG.p (PV.loadE rfl Ag91 rfl rfl (El.o (getG (by omega)))) (RG.bl rfl ?_))))))))
   refine RG.callF (vs := [_, _]) rfl rfl En268 rfl (ends_s (hvr _ (gd_mem (by omega))) ?_)
   refine RG.p (PV.move (v := .tuple _) rfl rfl) (RG.p (PV.ext rfl rfl rfl) (RG.p (PV.ext rfl rfl rfl) ?_))
   refine RG.ot rfl (OT.alloc rfl Zr189 fun b12 => ?_)
   refine RG.ot rfl (OT.alloc rfl Zr189 fun b13 => ?_)
   refine RG.ot rfl (OT.storeW (vs := [vi _, vi _]) rfl Sz189 rfl rfl (Cl.c rfl) rfl rfl (OneC.c rfl) ?_)
   refine RG.ot rfl (OT.storeW (vs := [vi _, vi _]) rfl Sz189 rfl rfl (Cl.c rfl) rfl rfl (OneC.c rfl) ?_)
   refine RG.nil (WP.sr (RG.p (PV.move (v := u) rfl rfl) (RG.p (PV.field rfl Fo189_0 rfl) (RG.p (PV.load1 rfl Sc2 rfl (Rd.blk rfl)) (RG.p (PV.field rfl Fo189_1 rfl) (RG.p (PV.load1 rfl Sc2 rfl (Rd.blk rfl)) ?_))))))
   refine RG.callF (vs := [u, _, _]) rfl rfl En265 rfl (l17Cel_s (Rs.up h1) hA ?_)
   refine RG.bl rfl ?_
   refine RG.g rfl (fun hp => (PV.move (v := v) rfl rfl)) ?_
   refine RG.g rfl (fun hp => (PV.field rfl Fo189_0 rfl)) ?_
   refine RG.g rfl (fun hp => (PV.load1 rfl Sc2 (gs_t hp) (Rd.blk rfl))) ?_
   refine RG.g rfl (fun hp => (PV.field rfl Fo189_1 rfl)) ?_
   refine RG.g rfl (fun hp => (PV.load1 rfl Sc2 (gs_t hp) (Rd.blk rfl))) ?_
   refine RG.gsC rfl rfl rfl rfl En265 (fun hp => ⟨_, (acons (gs_t hp) (acons (gs_t hp) (acons (gs_t hp) anil))), l17Cel_s (Rs.up h2) hB ⟨rfl, rfl, rfl⟩⟩) ?_
   refine RG.p (PV.pickA rfl rfl (fun hq => gs_t (geqT hq)) rfl) (RG.bl rfl ?_)
   refine RG.g rfl (fun hp => (PV.move (v := v) rfl rfl)) ?_
   refine RG.g rfl (fun hp => (PV.field rfl Fo189_0 rfl)) ?_
   refine RG.g rfl (fun hp => (PV.load1 rfl Sc2 (gs_t hp) (Rd.blk rfl))) ?_
   refine RG.g rfl (fun hp => (PV.field rfl Fo189_1 rfl)) ?_
   refine RG.g rfl (fun hp => (PV.load1 rfl Sc2 (gs_t hp) (Rd.blk rfl))) ?_
   refine RG.gsC rfl rfl rfl rfl En265 (fun hp => ⟨_, (acons (gs_t hp) (acons (gs_t hp) (acons (gs_t hp) anil))), l17Cel_s (Rs.up h2) hB ⟨rfl, rfl, rfl⟩⟩) ?_
   refine RG.g rfl (fun hp => (PV.mvB (.inl rfl) (gs_t hp))) ?_
   refine RG.gs2 rfl rfl rfl (fun hp => (PV.move (v := u) rfl rfl)) (RG.gs2 rfl rfl rfl (fun hp => (PV.field rfl Fo189_0 rfl)) (RG.gs2 rfl rfl rfl (fun hp => (PV.load1 rfl Sc2 (gs_t hp) (Rd.blk rfl))) (RG.gs2 rfl rfl rfl (fun hp => (PV.field rfl Fo189_1 rfl)) (RG.gs2 rfl rfl rfl (fun hp => (PV.load1 rfl Sc2 (gs_t hp) (Rd.blk rfl))) ?_))))
   refine RG.gsC2 rfl rfl rfl rfl En265 (fun hp => ⟨_, (acons (gs_t hp) (acons (gs_t hp) (acons (gs_t hp) anil))), l17Cel_s (Rs.up h1) hA ⟨rfl, rfl, rfl⟩⟩) ?_
   refine RG.g rfl (fun hp => (PV.pickA rfl (gs_t hp) (fun hq => gs_t (gandT hp hq)) rfl)) ?_
   refine RG.p (PV.pickO rfl rfl rfl (fun hq => gs_t (geqF hq))) (RG.nil ?_)
   refine WP.cond rfl (fun h5 => ?_) (fun h5 => ?_)
   ·have h6 : gapE A B ver (gd outv39 i) = true := h5
    rw [if_pos h6, ← hout] at hf
    refine WP.region (RG.p (PV.move (v := q) rfl rfl) (RG.p (PV.move (v := v39) rfl rfl) (RG.ml rfl (RG.p (PV.idxS (v := v39) rfl Is50 rfl SlF.o rfl rfl (by omega)) (RG.p (PV.loadE rfl Ag91 rfl rfl (El.o (getG (by omega)))) ?_)))))
    refine RG.ot rfl (OT.bslice (F := rectT) (els := [_]) rfl El50 rfl (by decide) rfl (by decide) ⟨rfl, (Cl.c rfl), trivial⟩ fun v91 => ?_)
    refine RG.ot rfl (OT.append (v := q) (u := v91) (F := rectT) rfl El50 rfl (by decide) rfl rfl Rs.o (OneL.c (fun _ => rfl)) rfl (by first | omega | (simp <;> omega)) fun v92 => ?_)
    refine RG.p (PV.asg (v := v92) rfl rfl) (RG.nil (WP.region (RG.ml rfl (RG.p (PV.add rfl rfl rfl (by omega)) (RG.mr rfl (RG.nil ?_))))))
    exact ⟨rfl, i + 1, _, v92, ⟨by omega, hf.symm⟩, ⟨rfl, rfl, trivial⟩, ⟨rfl, rfl, rfl, rfl, trivial⟩, Cv.p, by omega⟩
   ·have h6 : ¬ gapE A B ver (gd outv39 i) = true := by rw [show gapE A B ver (gd outv39 i) = false from h5]; decide
    rw [if_neg h6, ← hout, List.append_nil] at hf
    refine WP.skip (WP.region (RG.ml rfl (RG.p (PV.add rfl rfl rfl (by omega)) (RG.mr rfl (RG.nil ?_)))))
    exact ⟨rfl, i + 1, _, q, ⟨by omega, hf.symm⟩, ⟨rfl, rfl, trivial⟩, ⟨rfl, rfl, rfl, rfl, trivial⟩, Cv.p, by omega⟩
  ·have h4 := of_decide_eq_false h4
   rw [List.take_of_length_le (by omega)] at hout
   rw [hout]
   refine WP.exit ?_
   refine WP.sr (RG.p (PV.move (v := q) rfl rfl) (RG.p (PV.asg (v := q) rfl rfl) (RG.nil ?_)))
   exact WP.ret ⟨_, _, ResV.one rfl rfl, Cv.p, k q outv39 houtv39⟩
structure GapsA (A B : List Bool) (out : List Rect) : Prop where
  len : out.length ≤ 12800
  run : ∀ r ∈ out, ∃ ver l k lo hi, isRun (notB (orZ A B)) ver l k lo hi ∧ gapE A B ver (lineR ver l lo hi) = true ∧ r = lineR ver l lo hi
  all : ∀ ver l k lo hi, isRun (notB (orZ A B)) ver l k lo hi → gapE A B ver (lineR ver l lo hi) = true → lineR ver l lo hi ∈ out
theorem GapsA.of {A B : List Bool} {a b : List Rect} (ha : RunsOf (notB (orZ A B)) false a) (hb : RunsOf (notB (orZ A B)) true b) : GapsA A B (a.filter (gapE A B false) ++ b.filter (gapE A B true)) := ⟨by
 have := ha.len; have := hb.len
 have := List.length_filter_le (gapE A B false) a; have := List.length_filter_le (gapE A B true) b
 rw [List.length_append]; omega, fun r hr => by
 rcases List.mem_append.1 hr with h | h
 ·obtain ⟨h1, h2⟩ := List.mem_filter.1 h
  obtain ⟨l, k, lo, hi, g1, rfl⟩ := ha.run r h1; exact ⟨false, l, k, lo, hi, g1, h2, rfl⟩
 ·obtain ⟨h1, h2⟩ := List.mem_filter.1 h
  obtain ⟨l, k, lo, hi, g1, rfl⟩ := hb.run r h1; exact ⟨true, l, k, lo, hi, g1, h2, rfl⟩, fun ver l k lo hi h1 h2 => by
 have hc := h1.all k h1.lk.1 h1.lk.2
 cases ver with
 | false =>
  obtain ⟨lo', hi', h3, h4⟩ := ha.all l k hc
  obtain ⟨rfl, rfl⟩ := h1.uniq h3
  exact List.mem_append_left _ (List.mem_filter.2 ⟨h4, h2⟩)
 | true =>
  obtain ⟨lo', hi', h3, h4⟩ := hb.all l k hc
  obtain ⟨rfl, rfl⟩ := h1.uniq h3
  exact List.mem_append_right _ (List.mem_filter.2 ⟨h4, h2⟩)⟩
theorem gapsAll_s {u v : Value} {A B : List Bool} (h1 : Rs G L boolT u A) (h2 : Rs G L boolT v B) (hA : A.length = 6400) (hB : B.length = 6400) (k : ∀ v' out, GapsA A B out → R v' G (osl 91 rectT v' out :: L)) : CallT Tryz.prog 171 #[u, v] G L R := by
 refine CallT.enter (args := _) Tryz.func171 rfl rfl (by kernel_rfl) rfl ?_
 refine WP.sr (RG.p (PV.asg rfl rfl) (RG.nil (WP.sr (RG.p (PV.move (v := u) rfl rfl) (RG.p (PV.move (v := v) rfl rfl) ?_)))))
 refine RG.callF (vs := [u, v, _]) rfl rfl En235 rfl (betw_s (Rs.up h1) (Rs.up h2) hA hB (fun v7 outv7 houtv7 => have hlnv7 := houtv7.len; have hfav7 := Nat.le_trans (List.length_filter_le (gapE A B false) outv7) hlnv7; have hfbv7 := Nat.le_trans (List.length_filter_le (gapE A B true) outv7) hlnv7; ?_))
 refine RG.p (PV.move (v := u) rfl rfl) (RG.p (PV.move (v := v) rfl rfl) ?_)
 refine RG.callF (vs := [u, v, _]) rfl rfl En235 rfl (betw_s (Rs.up h1) (Rs.up h2) hA hB (fun v10 outv10 houtv10 => have hlnv10 := houtv10.len; have hfav10 := Nat.le_trans (List.length_filter_le (gapE A B false) outv10) hlnv10; have hfbv10 := Nat.le_trans (List.length_filter_le (gapE A B true) outv10) hlnv10; ?_))
 refine RG.ot rfl (OT.append (v := v7) (u := v10) (F := rectT) rfl El50 rfl (by decide) rfl rfl Rs.o (OneL.c (fun _ => rfl)) rfl (by first | omega | (simp <;> omega)) fun v11 => ?_)
 refine RG.p (PV.asg (v := v11) rfl rfl) (RG.nil ?_)
 exact WP.ret ⟨_, _, ResV.one rfl rfl, Cv.p, k v11 _ (GapsA.of houtv7 houtv10)⟩
def Nigh (A B : List Bool) (w : Int) (y x : Nat) : Prop := ∃ ver lo hi, isRun (notB (orZ A B)) ver (lnI ver y x) (plI ver y x) lo hi ∧ gapE A B ver (lineR ver (lnI ver y x) lo hi) = true ∧ hi - lo < w
theorem near_iff {A B : List Bool} {out : List Rect} (h : GapsA A B out) {w : Int} {y x : Nat} : markC out w y x = true ↔ Nigh A B w y x := by
 simp only [markC, List.any_eq_true, Bool.and_eq_true, decide_eq_true_eq]
 constructor
 ·rintro ⟨r, hr, h1, h2⟩
  obtain ⟨ver, l, k, lo, hi, h3, h5, rfl⟩ := h.run r hr
  obtain ⟨rfl, h4⟩ := inR_line.1 h2
  rw [lenR_line] at h1
  exact ⟨ver, lo, hi, h3.at h4, h5, h1⟩
 ·rintro ⟨ver, lo, hi, h1, h5, h2⟩
  exact ⟨_, h.all ver _ _ _ _ h1 h5, by rw [lenR_line]; exact h2, inR_line.2 ⟨rfl, h1.lk⟩⟩
noncomputable def spaceL (xs : List Rect) (w : Int) : List Rect := if (isReg xs && okDist w) = true then canon (celL (Nigh (bits xs) (bits xs) w)) else []
noncomputable def betwL (xs ys : List Rect) (w : Int) : List Rect := if (isReg xs && isReg ys && okDist w) = true then canon (celL fun y x => Nigh (bits xs) (bits ys) w y x ∨ (gb (bits xs) y x = true ∧ gb (bits ys) y x = true)) else []
theorem gd_setE {α : Type} [Inhabited α] {xs : List α} {i : Nat} {a : α} (h : i < xs.length) : gd (xs.set i a) i = a := by unfold gd; simp [h]
theorem gd_setM {α : Type} [Inhabited α] {xs : List α} {i j : Nat} {a : α} (h : i ≠ j) : gd (xs.set i a) j = gd xs j := by unfold gd; rw [List.getElem?_set_ne h]
theorem markSpacing_s {v : Value} {xs : List Rect} {w : Int} (h1 : Rs G L rectT v xs) (k : ∀ v', R v' G (osl 91 rectT v' (spaceL xs w) :: L)) : CallT Tryz.prog 94 #[v, vi w] G L R := by
 refine CallT.enter (args := _) Tryz.func94 rfl rfl (by kernel_rfl) rfl ?_
 refine WP.sr (RG.p (PV.asg rfl rfl) (RG.nil (WP.seq (WP.sr (RG.p (PV.move (v := v) rfl rfl) ?_)))))
 refine RG.callF (vs := [v]) rfl rfl En167 rfl (l03Ok_s (Rs.up h1) ?_)
 refine RG.p (PV.not rfl rfl) (RG.bl rfl ?_)
 refine RG.g rfl (fun hp => (PV.mvI (.inl rfl) rfl)) ?_
 refine RG.gsC rfl rfl rfl rfl En168 (fun hp => ⟨_, (acons (gs_t hp) anil), distance_s ⟨rfl, rfl, rfl⟩⟩) ?_
 refine RG.g rfl (fun hp => (PV.not rfl (gs_t hp))) ?_
 refine RG.p (PV.pickO rfl rfl rfl (fun hq => gs_t (geqF hq))) (RG.nil ?_)
 refine WP.cond rfl (fun h2 => ?_) (fun h2 => ?_)
 ·have e : spaceL xs w = [] := by rw [spaceL, if_neg]; cases h3 : isReg xs <;> cases h4 : okDist w <;> simp_all
  rw [e] at k
  refine WP.sr ?_
  refine RG.ot rfl (OT.bslice (F := rectT) (els := []) rfl El50 rfl (by decide) rfl (by decide) trivial fun v13 => ?_)
  refine RG.p (PV.asg (v := v13) rfl rfl) (RG.nil ?_)
  exact WP.ret ⟨_, _, ResV.one rfl rfl, Cv.p, k v13⟩
 ·have h3 : isReg xs = true ∧ okDist w = true := by cases h3 : isReg xs <;> cases h4 : okDist w <;> simp_all
  have hreg := h3.1
  refine WP.skip (WP.sr (RG.p (PV.move (v := v) rfl rfl) ?_))
  refine RG.callF (vs := [v]) rfl rfl En120 rfl (l03Bits_s (Rs.up h1) (fun i hi => valid_get (isReg_valid hreg) hi) (fun v15 => ?_))
  refine RG.p (PV.move (v := v) rfl rfl) ?_
  refine RG.callF (vs := [v]) rfl rfl En120 rfl (l03Bits_s (Rs.up h1) (fun i hi => valid_get (isReg_valid hreg) hi) (fun v17 => ?_))
  refine RG.callF (vs := [v15, v17]) rfl rfl En171 rfl (gapsAll_s Rs.o Rs.o (bits_length _) (bits_length _) (fun v18 outv18 houtv18 => have hlnv18 := houtv18.len; ?_))
  refine RG.ml rfl ?_
  refine RG.callF (vs := [v18, _]) rfl rfl En169 rfl (mark_s Rs.o (fun r hr => by obtain ⟨ver, l, k, lo, hi, g1, _, rfl⟩ := houtv18.run r hr; exact lineR_valid g1) (by omega) (fun v20 Dv20 hDv20 hgv20 => ?_))
  refine RG.callF (vs := [v20]) rfl rfl En119 rfl (l03Canon_s Rs.o hDv20 (fun v21 => ?_))
  refine RG.p (PV.asg (v := v21) rfl rfl) (RG.nil ?_)
  refine WP.ret ?_
  have e : spaceL xs w = canon Dv20 := by rw [spaceL, if_pos (by rw [h3.1, h3.2]; rfl), celL_eq (P := Nigh (bits xs) (bits xs) w) hDv20 (fun y x hy hx => by rw [hgv20 y x hy hx, near_iff houtv18])]
  rw [e] at k
  exact ⟨_, _, ResV.one rfl rfl, Cv.p, k v21⟩
theorem markBetween_s {u v : Value} {xs ys : List Rect} {w : Int} (h1 : Rs G L rectT u xs) (h2 : Rs G L rectT v ys) (k : ∀ v', R v' G (osl 91 rectT v' (betwL xs ys w) :: L)) : CallT Tryz.prog 95 #[u, v, vi w] G L R := by
 refine CallT.enter (args := _) Tryz.func95 rfl rfl (by kernel_rfl) rfl ?_
 refine WP.sr (RG.p (PV.asg rfl rfl) (RG.nil (WP.seq (WP.sr (RG.p (PV.move (v := u) rfl rfl) ?_)))))
 refine RG.callF (vs := [u]) rfl rfl En167 rfl (l03Ok_s (Rs.up h1) ?_)
 refine RG.p (PV.not rfl rfl) (RG.bl rfl ?_)
 refine RG.g rfl (fun hp => (PV.move (v := v) rfl rfl)) ?_
 refine RG.gsC rfl rfl rfl rfl En167 (fun hp => ⟨_, (acons (gs_t hp) anil), l03Ok_s (Rs.up h2) ⟨rfl, rfl, rfl⟩⟩) ?_
 refine RG.g rfl (fun hp => (PV.not rfl (gs_t hp))) ?_
 refine RG.p (PV.pickO rfl rfl rfl (fun hq => gs_t (geqF hq))) (RG.bl rfl ?_)
 refine RG.g rfl (fun hp => (PV.mvI (.inl rfl) rfl)) ?_
 refine RG.gsC rfl rfl rfl rfl En168 (fun hp => ⟨_, (acons (gs_t hp) anil), distance_s ⟨rfl, rfl, rfl⟩⟩) ?_
 refine RG.g rfl (fun hp => (PV.not rfl (gs_t hp))) ?_
 refine RG.p (PV.pickO rfl rfl rfl (fun hq => gs_t (geqF hq))) (RG.nil ?_)
 refine WP.cond rfl (fun h3 => ?_) (fun h3 => ?_)
 ·have e : betwL xs ys w = [] := by rw [betwL, if_neg]; cases g1 : isReg xs <;> cases g2 : isReg ys <;> cases g4 : okDist w <;> simp_all
  rw [e] at k
  refine WP.sr ?_
  refine RG.ot rfl (OT.bslice (F := rectT) (els := []) rfl El50 rfl (by decide) rfl (by decide) trivial fun v24 => ?_)
  refine RG.p (PV.asg (v := v24) rfl rfl) (RG.nil ?_)
  exact WP.ret ⟨_, _, ResV.one rfl rfl, Cv.p, k v24⟩
 ·have h4 : isReg xs = true ∧ isReg ys = true ∧ okDist w = true := by cases g1 : isReg xs <;> cases g2 : isReg ys <;> cases g4 : okDist w <;> simp_all
  have hreg := h4.1
  have hregy := h4.2.1
  refine WP.skip (WP.sr (RG.p (PV.move (v := u) rfl rfl) ?_))
  refine RG.callF (vs := [u]) rfl rfl En120 rfl (l03Bits_s (Rs.up h1) (fun i hi => valid_get (isReg_valid hreg) hi) (fun v26 => ?_))
  refine RG.p (PV.move (v := v) rfl rfl) ?_
  refine RG.callF (vs := [v]) rfl rfl En120 rfl (l03Bits_s (Rs.up h2) (fun i hi => valid_get (isReg_valid hregy) hi) (fun v28 => ?_))
  refine RG.p (PV.asg (v := v26) rfl rfl) (RG.p (PV.asg (v := v28) rfl rfl) (RG.nil (WP.sr (RG.p (PV.move (v := v26) rfl rfl) (RG.p (PV.move (v := v28) rfl rfl) ?_)))))
  refine RG.callF (vs := [v26, v28]) rfl rfl En171 rfl (gapsAll_s Rs.o Rs.o (bits_length _) (bits_length _) (fun v31 outv31 houtv31 => have hlnv31 := houtv31.len; ?_))
  refine RG.ml rfl ?_
  refine RG.callF (vs := [v31, _]) rfl rfl En169 rfl (mark_s Rs.o (fun r hr => by obtain ⟨ver, l, k, lo, hi, g1, _, rfl⟩ := houtv31.run r hr; exact lineR_valid g1) (by omega) (fun v33 Dv33 hDv33 hgv33 => ?_))
  refine RG.p (PV.asg (v := v33) rfl rfl) (RG.nil (WP.seq (WP.sr (RG.mr rfl (RG.nil (WP.block ?_))))))
  refine WP.loop2 [7, 8, 9] (fun (i : Nat) (E : List Bool) => i ≤ 6400 ∧ E.length = 6400 ∧ (∀ j, j < i → gd E j = (gd Dv33 j || (gd (bits xs) j && gd (bits ys) j))) ∧ (∀ j, i ≤ j → gd E j = gd Dv33 j)) (fun (i : Nat) (E : List Bool) => [(10, vi i)]) (fun (i : Nat) (E : List Bool) => osl 4 boolT v33 E :: osl 4 boolT v26 (bits xs) :: osl 4 boolT v28 (bits ys) :: L) (fun (i : Nat) (E : List Bool) => 6400 - i) 0 Dv33 ⟨by omega, hDv33, fun j h => by omega, fun j _ => rfl⟩ ⟨rfl, trivial⟩ Cv.p ?_
  rintro i E τ ⟨hi, hE, hE1, hE2⟩
  refine WP.seq (WP.sr (RG.ml rfl (RG.p (PV.move (v := v33) rfl rfl) (RG.p (PV.len (v := v33) rfl Tryz.underlying162 rfl SlF.o) (RG.p (PV.lss rfl rfl rfl) (RG.nil ?_))))))
  have hbx := bits_length xs
  have hby := bits_length ys
  refine WP.cond rfl (fun h5 => ?_) (fun h5 => ?_)
  ·have h5 := of_decide_eq_true h5
   have hs1 : ∀ j, j < i + 1 → gd (E.set i (gd E i || (gd (bits xs) i && gd (bits ys) i))) j = (gd Dv33 j || (gd (bits xs) j && gd (bits ys) j)) := fun j hj => by
    by_cases c : j = i
    ·subst c; rw [gd_setE (by omega), hE2 j (Nat.le_refl _)]
    ·rw [gd_setM (fun e => c e.symm)]; exact hE1 j (by omega)
   have hs2 : ∀ j, i + 1 ≤ j → gd (E.set i (gd E i || (gd (bits xs) i && gd (bits ys) i))) j = gd Dv33 j := fun j hj => by rw [gd_setM (by omega)]; exact hE2 j (by omega)
   refine WP.skip (WP.seq (WP.block (WP.region (RG.p (PV.move (v := v33) rfl rfl) (RG.ml rfl (RG.p (PV.move (v := v33) rfl rfl) (RG.ml rfl (RG.p (PV.idxS (v := v33) rfl Is162 rfl SlF.o rfl rfl (by omega)) (RG.p (PV.loadE1 rfl Sc4 rfl rfl (El.o (getG (by omega))) rfl) (RG.bl rfl ?_))))))))))
   refine RG.g rfl (fun hp => (PV.move (v := v26) rfl rfl)) ?_
   refine RG.g rfl (fun hp => (PV.mvI (.inl rfl) rfl)) ?_
   refine RG.g rfl (fun hp => (PV.idxS (v := v26) rfl Is162 (gs_t hp) SlF.o (gs_t hp) rfl (by first | omega | (simp at hp; omega)))) ?_
   refine RG.g rfl (fun hp => (PV.loadE1 rfl Sc4 (gs_t hp) rfl (El.o (getG (by first | omega | (simp at hp; omega)))) rfl)) ?_
   refine RG.g rfl (fun hp => (PV.mvB (.inl rfl) (gs_t hp))) ?_
   refine RG.gs2 rfl rfl rfl (fun hp => (PV.move (v := v28) rfl rfl)) (RG.gs2 rfl rfl rfl (fun hp => (PV.mvI (.inl rfl) rfl)) (RG.gs2 rfl rfl rfl (fun hp => (PV.idxS (v := v28) rfl Is162 (gs_t hp) SlF.o (gs_t hp) rfl (by first | omega | (simp at hp; omega)))) (RG.gs2 rfl rfl rfl (fun hp => (PV.loadE1 rfl Sc4 (gs_t hp) rfl (El.o (getG (by first | omega | (simp at hp; omega)))) rfl)) ?_)))
   refine RG.g rfl (fun hp => (PV.pickA rfl (gs_t hp) (fun hq => gs_t (gandT hp hq)) rfl)) ?_
   refine RG.p (PV.pickO rfl rfl rfl (fun hq => gs_t (geqF hq))) (RG.p (PV.idxS (v := v33) rfl Is162 rfl SlF.o rfl rfl (by omega)) ?_)
   refine RG.ot rfl (OT.storeE (F := boolT) rfl Sz4 rfl rfl rfl (Cl.c rfl) (OneC.c rfl) (by omega) ?_)
   refine RG.nil (WP.region (RG.ml rfl (RG.p (PV.add rfl rfl rfl (by omega)) (RG.mr rfl (RG.nil ?_)))))
   exact ⟨rfl, i + 1, (E.set i (gd E i || (gd (bits xs) i && gd (bits ys) i))), ⟨by omega, by simpa using hE, hs1, hs2⟩, ⟨rfl, trivial⟩, ⟨rfl, rfl, rfl, trivial⟩, Cv.p, by omega⟩
  ·have h5 := of_decide_eq_false h5
   obtain rfl : i = 6400 := by omega
   refine WP.exit ?_
   refine WP.sr (RG.p (PV.move (v := v33) rfl rfl) ?_)
   refine RG.callF (vs := [v33]) rfl rfl En119 rfl (l03Canon_s Rs.o hE (fun v60 => ?_))
   refine RG.p (PV.asg (v := v60) rfl rfl) (RG.nil ?_)
   refine WP.ret ?_
   have e : betwL xs ys w = canon E := by
    rw [betwL, if_pos (by rw [h4.1, h4.2.1, h4.2.2]; rfl), celL_eq (P := fun y x => Nigh (bits xs) (bits ys) w y x ∨ (gb (bits xs) y x = true ∧ gb (bits ys) y x = true)) hE (fun y x hy hx => by
     have := hE1 (y * 80 + x) (by omega)
     rw [← near_iff houtv31, ← hgv33 y x hy hx]
     unfold gb; rw [this]; simp)]
   rw [e] at k
   exact ⟨_, _, ResV.one rfl rfl, Cv.p, k v60⟩
end Go.Proofs.YtgphjofccckloaaGreat
namespace Go.Proofs.YtgphjofccckloaaGreat
open Go
set_option maxRecDepth 20000
variable {G : Gh} {L : List Ch} {R : Value → Gh → List Ch → Prop}
theorem len_bd {r : Rect} (hv : validRect r = true) : 0 ≤ lenR r ∧ lenR r ≤ 6400 := by
 have h := validR_iff.1 hv
 exact ⟨Int.mul_nonneg (by omega) (by omega), Int.le_trans (Int.mul_le_mul (by omega : r.x1 - r.x0 ≤ 80) (by omega : r.y1 - r.y0 ≤ 80) (by omega) (by omega)) (by decide)⟩
theorem mulP_bd {a b : Int} (ha : 1 ≤ a ∧ a ≤ 100) (hb : 0 ≤ b ∧ b ≤ 6400) : 0 ≤ a * b ∧ a * b ≤ 640000 :=
 ⟨Int.mul_nonneg (by omega) (by omega), Int.le_trans (Int.mul_le_mul ha.2 hb.2 (by omega) (by omega)) (by decide)⟩
end Go.Proofs.YtgphjofccckloaaGreat
namespace Go.Proofs.YtgphjofccckloaaGreat
open Go
set_option maxRecDepth 20000
variable {G : Gh} {L : List Ch} {R : Value → Gh → List Ch → Prop}
def nps (zs : List Net) : List (Sl Piece) := zs.map Net.pieces
theorem nps_len (zs : List Net) : (nps zs).length = zs.length := by simp [nps]
theorem nps_gd {zs : List Net} {i : Nat} (h : i < zs.length) : gd (nps zs) i = (gd zs i).pieces := gd_map _ h
end Go.Proofs.YtgphjofccckloaaGreat
namespace Go.Proofs.YtgphjofccckloaaGreat
open Go
set_option maxRecDepth 20000
def cellB (S : List Bool) (x y : Int) : Bool := (decide (-40 ≤ x ∧ x < 40) && decide (-40 ≤ y ∧ y < 40)) && gd S ((y + 40) * 80 + x + 40).toNat
theorem cellB_in {S : List Bool} {x y : Int} (h : -40 ≤ x ∧ x < 40 ∧ -40 ≤ y ∧ y < 40) : cellB S x y = gb S (y + 40).toNat (x + 40).toNat := by
 have e : ((y + 40) * 80 + x + 40).toNat = (y + 40).toNat * 80 + (x + 40).toNat := by omega
 rw [cellB, decide_eq_true (by omega), decide_eq_true (by omega), e]; rfl
theorem cellB_out {S : List Bool} {x y : Int} (h : ¬ (-40 ≤ x ∧ x < 40 ∧ -40 ≤ y ∧ y < 40)) : cellB S x y = false := by
 rw [cellB]
 by_cases c : -40 ≤ x ∧ x < 40
 ·rw [decide_eq_false (p := -40 ≤ y ∧ y < 40) (by omega)]; simp
 ·rw [decide_eq_false c]; simp
end Go.Proofs.YtgphjofccckloaaGreat
namespace Go.Proofs.YtgphjofccckloaaGreat
open Go
set_option maxRecDepth 20000
variable {G : Gh} {L : List Ch} {R : Value → Gh → List Ch → Prop}
theorem Rs.mem {α : Type} {G : Gh} {L L' : List Ch} {e : TypeId} {F : FT α} {xs : List (Sl α)} [hX : ExBg xs L e F L'] {s : Sl α} (h : s ∈ xs) : Rs G L F s.v s.xs := by
 obtain ⟨i, hi, rfl⟩ := List.getElem_of_mem h
 have := Rs.inBag (G := G) (L := L) (L' := L') (e := e) (F := F) (xs := xs) i hi
 rwa [gd_eq hi] at this
theorem RsE.flat {G : Gh} {L L' : List Ch} {e : TypeId} {zs : List Net} [hX : ExBg (regs (er (nps zs)).flatten) L e rectT L'] {i : Nat} (hi : i < zs.length) : RsE G L rectT (regs (gd zs i).pieces.xs) := fun j hj => by
 rw [regs_len] at hj
 rw [regs_gd hj]
 refine Rs.mem (L := L) (L' := L') (e := e) (xs := regs (er (nps zs)).flatten) (List.mem_map_of_mem ?_)
 refine List.mem_flatten.2 ⟨(gd zs i).pieces.xs, ?_, gd_mem hj⟩
 rw [← nps_gd hi, ← er_gd]
 exact gd_mem (by rw [er_len, nps_len]; exact hi)
theorem toPoint_s {p : Pt} (k : R (vpt p) G L) : CallT Tryz.prog 257 #[vpt p] G L R := by
 refine CallT.enter (args := _) Tryz.func257 rfl rfl (by kernel_rfl) rfl ?_
 refine WP.sr ?_
 refine RG.ot rfl (OT.box (cs := ptT.enc p) rfl rfl rfl fun b1 => ?_)
 refine RG.ot rfl (OT.alloc rfl Zr189 fun b2 => ?_)
 refine RG.nil (WP.sr ?_)
 refine RG.ot rfl (OT.alloc rfl Zr189 fun b3 => ?_)
 refine RG.nil (WP.sr (RG.p (PV.field rfl Fo236_0 rfl) (RG.p (PV.load1 rfl Sc2 rfl (Rd.blk rfl)) (RG.p (PV.field rfl Fo189_0 rfl) ?_))))
 refine RG.ot rfl (OT.storeB (vs := [vi _]) (cs' := [_, _]) rfl Sz2 rfl rfl (Cl.c rfl) rfl (OneC.c rfl) rfl rfl ?_)
 refine RG.nil (WP.sr (RG.p (PV.field rfl Fo236_1 rfl) (RG.p (PV.load1 rfl Sc2 rfl (Rd.blk rfl)) (RG.p (PV.field rfl Fo189_1 rfl) ?_))))
 refine RG.ot rfl (OT.storeB (vs := [vi _]) (cs' := [_, _]) rfl Sz2 rfl rfl (Cl.c rfl) rfl (OneC.c rfl) rfl rfl ?_)
 refine RG.nil (WP.sr (RG.p (PV.loadW rfl Ag189 rfl rfl) ?_))
 refine RG.ot rfl (OT.storeW (vs := [vi _, vi _]) rfl Sz189 rfl rfl (Cl.c rfl) rfl rfl (OneC.c rfl) ?_)
 refine RG.nil ?_
 exact WP.ret ⟨_, _, ResV.one rfl (RV1.cell rfl Ag189 rfl), Cv.p, k⟩
end Go.Proofs.YtgphjofccckloaaGreat
namespace Go.Proofs.YtgphjofccckloaaGreat
open Go
set_option maxRecDepth 20000
def one (b : Bool) : Int := bif b then 1 else 0
theorem one_and (a b : Bool) : one (a && b) = one a * one b := by cases a <;> cases b <;> rfl
theorem one_nn (b : Bool) : 0 ≤ one b ∧ one b ≤ 1 := by cases b <;> simp [one]
def sumF (f : Nat → Int) : Nat → Int
  | 0 => 0
  | n + 1 => sumF f n + f n
def cntF (f : Nat → Bool) (n : Nat) : Int := sumF (fun k => one (f k)) n
theorem cntF_succ (f : Nat → Bool) (n : Nat) : cntF f (n + 1) = cntF f n + one (f n) := rfl
theorem cntF_bd (f : Nat → Bool) : ∀ n, 0 ≤ cntF f n ∧ cntF f n ≤ n
 | 0 => by simp [cntF, sumF]
 | n + 1 => by
  have := cntF_bd f n
  have := one_nn (f n)
  rw [cntF_succ]; omega
theorem sumF_congr {f g : Nat → Int} : ∀ {n : Nat}, (∀ k, k < n → f k = g k) → sumF f n = sumF g n
 | 0, _ => rfl
 | n + 1, h => by rw [sumF, sumF, sumF_congr fun k hk => h k (by omega), h n (by omega)]
theorem sumF_mul (f : Nat → Int) (c : Int) : ∀ n, sumF (fun k => f k * c) n = sumF f n * c
 | 0 => by simp [sumF]
 | n + 1 => by rw [sumF, sumF, sumF_mul f c n, Int.add_mul]
theorem sumF_bd {f : Nat → Int} {B : Int} (h : ∀ k, 0 ≤ f k ∧ f k ≤ B) : ∀ n, 0 ≤ sumF f n ∧ sumF f n ≤ n * B
 | 0 => by simp [sumF]
 | n + 1 => by
  have h1 := sumF_bd h n
  have h2 := h n
  rw [sumF, Int.natCast_add, Int.add_mul]; omega
theorem cntF_between (a b c : Int) : ∀ n, cntF (fun k => decide (a ≤ b + k) && decide (b + k < c)) n = max 0 (min c (b + n) - max a b)
 | 0 => by simp only [cntF, sumF]; omega
 | n + 1 => by
  rw [cntF_succ, cntF_between a b c n]
  by_cases h1 : a ≤ b + n <;> by_cases h2 : b + (n : Int) < c
  ·rw [decide_eq_true h1, decide_eq_true h2]; simp only [one, Bool.and_self, cond_true]; omega
  ·rw [decide_eq_true h1, decide_eq_false h2]; simp only [one, Bool.and_false, cond_false]; omega
  ·rw [decide_eq_false h1, decide_eq_true h2]; simp only [one, Bool.false_and, cond_false]; omega
  ·rw [decide_eq_false h1, decide_eq_false h2]; simp only [one, Bool.false_and, cond_false]; omega
theorem costL_add {α : Type} (f g : α → Int) : ∀ xs : List α, costL (fun x => f x + g x) xs = costL f xs + costL g xs
 | [] => by simp [costL]
 | x :: xs => by simp only [costL, costL_add f g xs]; omega
theorem costL_congr {α : Type} {f g : α → Int} : ∀ {xs : List α}, (∀ x ∈ xs, f x = g x) → costL f xs = costL g xs
 | [], _ => rfl
 | x :: xs, h => by rw [costL, costL, h x (.head _), costL_congr fun y hy => h y (.tail _ hy)]
theorem costL_zero {α : Type} (xs : List α) : costL (fun _ => 0) xs = 0 := by rw [costL_const]; simp
theorem sumF_costL {α : Type} (f : Nat → α → Int) (xs : List α) : ∀ n, sumF (fun k => costL (f k) xs) n = costL (fun x => sumF (fun k => f k x) n) xs
 | 0 => by simp [sumF, costL_zero]
 | n + 1 => by rw [sumF, sumF_costL f xs n, ← costL_add]; rfl
theorem one_any {α : Type} {p : α → Bool} : ∀ {xs : List α}, xs.Pairwise (fun a b => ¬ (p a = true ∧ p b = true)) → one (xs.any p) = costL (fun x => one (p x)) xs
 | [], _ => rfl
 | x :: xs, h => by
  rw [List.pairwise_cons] at h
  rw [List.any_cons, costL, ← one_any h.2]
  cases hp : p x
  ·simp [one]
  ·have : xs.any p = false := by
    rw [List.any_eq_false]; intro y hy hq; exact h.1 y hy ⟨hp, hq⟩
   rw [this]; rfl
theorem runs_ge (r : Nat → Bool) (x : Nat) : ∀ p ∈ runsFrom r x, x ≤ p.1 := by
 intro p hp
 rw [runsFrom] at hp
 by_cases h : x < 80
 ·rw [if_pos h] at hp
  by_cases hr : r x = true
  ·rw [if_pos hr] at hp
   have h1 := runEnd_ge r (x + 1)
   rcases List.mem_cons.1 hp with rfl | hp
   ·exact Nat.le_refl _
   ·have := runs_ge r _ p hp; omega
  ·rw [if_neg hr] at hp; have := runs_ge r _ p hp; omega
 ·rw [if_neg h] at hp; cases hp
termination_by 80 - x
decreasing_by
 ·have := runEnd_ge r (x + 1); omega
 ·omega
theorem runs_apart (r : Nat → Bool) (x : Nat) : (runsFrom r x).Pairwise fun p q => p.2 ≤ q.1 := by
 rw [runsFrom]
 split
 ·split
  ·rw [List.pairwise_cons]
   have h1 := runEnd_ge r (x + 1)
   refine ⟨fun q hq => ?_, runs_apart r _⟩
   have := runs_ge r _ q hq; simp only; omega
  ·exact runs_apart r (x + 1)
 ·exact .nil
termination_by 80 - x
decreasing_by
 ·have := runEnd_ge r (x + 1); omega
 ·omega
theorem canonFrom_ge (bs : List Bool) (y : Nat) : ∀ r ∈ canonFrom bs y, (y : Int) - 40 ≤ r.y0 := by
 intro r hr
 rw [canonFrom] at hr
 by_cases h : y < 80
 ·rw [if_pos h] at hr
  have h1 := endFrom_ge bs y (y + 1)
  rcases List.mem_append.1 hr with hr | hr
  ·obtain ⟨p, hp, rfl⟩ := List.mem_map.1 hr
   simp only [mkR]; omega
  ·have := canonFrom_ge bs _ r hr; omega
 ·rw [if_neg h] at hr; cases hr
termination_by 80 - y
decreasing_by have := endFrom_ge bs y (y + 1); omega
theorem canonFrom_apart (bs : List Bool) (y : Nat) : (canonFrom bs y).Pairwise fun r q => ∀ v u, ¬ (inR r v u = true ∧ inR q v u = true) := by
 rw [canonFrom]
 split
 ·rename_i h
  have h1 := endFrom_ge bs y (y + 1)
  rw [List.pairwise_append]
  refine ⟨?_, canonFrom_apart bs _, fun r hr q hq v u => ?_⟩
  ·rw [List.pairwise_map]
   refine (runs_apart (gb bs y) 0).imp ?_
   intro p q hpq v u ⟨h1, h2⟩
   rw [inR_iff] at h1 h2; simp only [mkR] at h1 h2; omega
  ·obtain ⟨p, _, rfl⟩ := List.mem_map.1 hr
   have := canonFrom_ge bs _ q hq
   rintro ⟨h1, h2⟩
   rw [inR_iff] at h1 h2; simp only [mkR] at h1; omega
 ·exact .nil
termination_by 80 - y
decreasing_by have := endFrom_ge bs y (y + 1); omega
theorem reg_apart {xs : List Rect} (h : isReg xs = true) (v u : Nat) : xs.Pairwise fun r q => ¬ (inR r v u = true ∧ inR q v u = true) := by
 have := canonFrom_apart (bits xs) 0
 rw [show canonFrom (bits xs) 0 = canon (bits xs) from rfl, isReg_eq h] at this
 exact this.imp fun k => k v u
def wR (r : Rect) : Nat := (r.x1 - r.x0).toNat
def hR (r : Rect) : Nat := (r.y1 - r.y0).toNat
def tH (D : List Bool) (y x0 : Int) (n : Nat) : Int := cntF (fun k => cellB D (x0 + k) y) n
def covB (S : List Bool) (r : Rect) : Int := sumF (fun j => tH S (r.y0 + j) r.x0 (wR r)) (hR r)
def covI (xs : List Rect) (r : Rect) : Int := costL (fun q => if validRect (cmn q r) = true then areaR (cmn q r) else 0) xs
theorem box_count {q r : Rect} (hq : validRect q = true) (hr : validRect r = true) : sumF (fun j => cntF (fun k => (decide (q.x0 ≤ r.x0 + k) && decide (r.x0 + (k : Int) < q.x1)) && (decide (q.y0 ≤ r.y0 + j) && decide (r.y0 + (j : Int) < q.y1))) (wR r)) (hR r) = if validRect (cmn q r) = true then areaR (cmn q r) else 0 := by
 have e : ∀ j : Nat, cntF (fun k => (decide (q.x0 ≤ r.x0 + k) && decide (r.x0 + (k : Int) < q.x1)) && (decide (q.y0 ≤ r.y0 + j) && decide (r.y0 + (j : Int) < q.y1))) (wR r) = one (decide (q.y0 ≤ r.y0 + j) && decide (r.y0 + (j : Int) < q.y1)) * cntF (fun k => decide (q.x0 ≤ r.x0 + k) && decide (r.x0 + (k : Int) < q.x1)) (wR r) := fun j => by
  simp only [cntF, one_and]
  rw [← one_and (decide (q.y0 ≤ r.y0 + j)), Int.mul_comm, ← sumF_mul]
 rw [sumF_congr fun j _ => e j, sumF_mul]
 show cntF _ _ * _ = _
 rw [cntF_between, cntF_between]
 rw [validR_iff] at hq hr
 have h1 : (wR r : Int) = r.x1 - r.x0 := by simp only [wR]; omega
 have h2 : (hR r : Int) = r.y1 - r.y0 := by simp only [hR]; omega
 rw [h1, h2]
 by_cases c : validRect (cmn q r) = true
 ·rw [if_pos c]
  rw [validR_iff] at c; simp only [cmn] at c
  simp only [areaR, cmn]
  rw [Int.mul_comm, show max 0 (min q.x1 (r.x0 + (r.x1 - r.x0)) - max q.x0 r.x0) = min q.x1 r.x1 - max q.x0 r.x0 by omega, show max 0 (min q.y1 (r.y0 + (r.y1 - r.y0)) - max q.y0 r.y0) = min q.y1 r.y1 - max q.y0 r.y0 by omega]
 ·rw [if_neg c]
  rw [validR_iff] at c; simp only [cmn] at c
  by_cases d : min q.x1 r.x1 ≤ max q.x0 r.x0
  ·rw [show max 0 (min q.x1 (r.x0 + (r.x1 - r.x0)) - max q.x0 r.x0) = 0 by omega, Int.mul_zero]
  ·rw [show max 0 (min q.y1 (r.y0 + (r.y1 - r.y0)) - max q.y0 r.y0) = 0 by omega, Int.zero_mul]
theorem cov_eq {xs : List Rect} {r : Rect} (hx : isReg xs = true) (hr : validRect r = true) : covI xs r = covB (bits xs) r := by
 have hv := isReg_valid hx
 have hr2 := validR_iff.1 hr
 have e : ∀ j, j < hR r → tH (bits xs) (r.y0 + j) r.x0 (wR r) = costL (fun q => cntF (fun k => (decide (q.x0 ≤ r.x0 + k) && decide (r.x0 + (k : Int) < q.x1)) && (decide (q.y0 ≤ r.y0 + j) && decide (r.y0 + (j : Int) < q.y1))) (wR r)) xs := fun j hj => by
  simp only [tH, cntF]
  rw [← sumF_costL]
  refine sumF_congr fun k hk => ?_
  have hin : -40 ≤ r.x0 + (k : Int) ∧ r.x0 + (k : Int) < 40 ∧ -40 ≤ r.y0 + (j : Int) ∧ r.y0 + (j : Int) < 40 := by
   simp only [hR, wR] at hj hk; omega
  rw [cellB_in hin, gb_bits' _ (by omega) (by omega), one_any (reg_apart hx _ _)]
  refine costL_congr fun q hq => ?_
  congr 1
  rw [Bool.eq_iff_iff, inR_iff]
  simp only [Bool.and_eq_true, decide_eq_true_eq]
  omega
 rw [covB, sumF_congr e, sumF_costL, covI]
 exact costL_congr fun q hq => (box_count (valid_mem hv hq) hr).symm
end Go.Proofs.YtgphjofccckloaaGreat
namespace Go.Proofs.YtgphjofccckloaaGreat
open Go
set_option maxRecDepth 20000
variable {G : Gh} {L : List Ch} {R : Value → Gh → List Ch → Prop}
theorem unitCell_s {p : Pt} (k : R (.bool (within p.x (-40) 39 && within p.y (-40) 39)) G L) : CallT Tryz.prog 224 #[vpt p] G L R := by
 refine CallT.enter (args := _) Tryz.func224 rfl rfl (by kernel_rfl) rfl ?_
 refine WP.sr ?_
 refine RG.ot rfl (OT.box (cs := ptT.enc p) rfl rfl rfl fun b1 => ?_)
 refine RG.br rfl (RG.nil (WP.sr (RG.p (PV.field rfl Fo189_0 rfl) (RG.p (PV.load1 rfl Sc2 rfl (Rd.blk rfl)) ?_))))
 refine RG.callF (vs := [_, _, _]) rfl rfl En100 rfl (within_s ?_)
 refine RG.bl rfl ?_
 refine RG.g rfl (fun hp => (PV.field rfl Fo189_1 rfl)) ?_
 refine RG.g rfl (fun hp => (PV.load1 rfl Sc2 (gs_t hp) (Rd.blk rfl))) ?_
 refine RG.gsC rfl rfl rfl rfl En100 (fun hp => ⟨_, (acons (gs_t hp) (acons rfl (acons rfl anil))), within_s ⟨rfl, rfl, rfl⟩⟩) ?_
 refine RG.p (PV.pickA rfl rfl (fun hq => gs_t (geqT hq)) rfl) (RG.br rfl (RG.nil ?_))
 exact WP.ret ⟨_, _, ResV.one rfl rfl, Cv.p, k⟩
theorem cellB_within {D : List Bool} {x y : Int} : cellB D x y = (within x (-40) 39 && within y (-40) 39 && gd D (0 + (y + 40).toNat * 80 + (x + 40).toNat * 1)) := by
 by_cases h : -40 ≤ x ∧ x < 40 ∧ -40 ≤ y ∧ y < 40
 ·rw [cellB_in h, show within x (-40) 39 = true by simp [within]; omega, show within y (-40) 39 = true by simp [within]; omega, Nat.zero_add, Nat.mul_one]; rfl
 ·rw [cellB_out h]
  by_cases c : -40 ≤ x ∧ x < 40
  ·rw [show within y (-40) 39 = false by simp [within]; omega]; simp
  ·rw [show within x (-40) 39 = false by simp [within]; omega]; simp
theorem has_s {b : Nat} {D : List Bool} {x y : Int} (hD : D.length = 6400) (k : R (.bool (cellB D x y)) G (grd b D :: L)) : CallT Tryz.prog 242 #[.pointer (some ⟨b, 0, none⟩), vi x, vi y] G (grd b D :: L) R := by
 rw [cellB_within] at k
 refine CallT.enter (args := _) Tryz.func242 rfl rfl (by kernel_rfl) rfl ?_
 refine WP.sr (RG.br rfl (RG.nil (WP.sr (RG.ml rfl (RG.ml rfl (RG.p (PV.build (vs := [(0, [vi _]), (1, [vi _])]) (out := [_, _]) rfl Zr189 Pl189 ⟨rfl, (Cl.c rfl), ⟨rfl, (Cl.c rfl), trivial⟩⟩ rfl) ?_))))))
 refine RG.callF (vs := [_]) rfl rfl En224 rfl (unitCell_s (p := ⟨x, y⟩) ?_)
 refine RG.bl rfl ?_
 refine RG.g rfl (fun hp => (PV.mvP (.inl rfl) rfl)) ?_
 refine RG.g rfl (fun hp => (PV.mvI (.inl rfl) rfl)) ?_
 refine RG.g rfl (fun hp => (PV.add rfl (gs_t hp) rfl (by first | omega | (simp [within] at hp; omega)))) ?_
 refine RG.g rfl (fun hp => (PV.mvI (.inl rfl) rfl)) ?_
 refine RG.g rfl (fun hp => (PV.add rfl (gs_t hp) rfl (by first | omega | (simp [within] at hp; omega)))) ?_
 refine RG.g rfl (fun hp => (PV.nilc rfl (gs_t hp))) ?_
 refine RG.g rfl (fun hp => (PV.idxA (j := (y + 40).toNat) rfl Ia179 (gs_t hp) (gs_t hp) (by first | omega | (simp [within] at hp; omega)) (by first | omega | (simp [within] at hp; omega)))) ?_
 refine RG.g rfl (fun hp => (PV.idxA (j := (x + 40).toNat) rfl Ia177 (gs_t hp) (gs_t hp) (by first | omega | (simp [within] at hp; omega)) (by first | omega | (simp [within] at hp; omega)))) ?_
 refine RG.g rfl (fun hp => (PV.loadGr rfl Sc4 (gs_t hp) rfl (by first | omega | (simp [within] at hp; omega)))) ?_
 refine RG.p (PV.pickA rfl rfl (fun hq => gs_t (geqT hq)) rfl) (RG.br rfl (RG.nil ?_))
 exact WP.ret ⟨_, _, ResV.one rfl rfl, Cv.p, k⟩
theorem covered_s {v : Value} {xs : List Rect} {r : Rect} (h1 : Rs G L rectT v xs) (hl : xs.length ≤ 3200) (k : R (vi (covI xs r)) G L) : CallT Tryz.prog 190 #[v, vrect r] G L R := by
 have hcb : ∀ q, 0 ≤ (if validRect (cmn q r) = true then areaR (cmn q r) else 0) ∧ (if validRect (cmn q r) = true then areaR (cmn q r) else 0) ≤ 6400 := fun q => by
  split
  ·rename_i h; exact area_bd h
  ·omega
 have hnn : ∀ ys : List Rect, 0 ≤ covI ys r ∧ covI ys r ≤ 6400 * ys.length := fun ys => ⟨costL_nonneg (fun q => (hcb q).1) ys, costL_bd fun q _ => (hcb q).2⟩
 refine CallT.enter (args := _) Tryz.func190 rfl rfl (by kernel_rfl) rfl ?_
 refine WP.sr ?_
 refine RG.ot rfl (OT.box (cs := rectT.enc r) rfl rfl rfl fun b3 => ?_)
 refine RG.mr rfl (RG.nil (WP.sr (RG.mr rfl (RG.nil (WP.seq (WP.sr (RG.p (PV.move (v := v) rfl rfl) (RG.p (PV.len (v := v) rfl Tryz.underlying50 rfl (SlF.r h1)) (RG.ml rfl (RG.nil (WP.block ?_)))))))))))
 refine WP.loop2 [3, 9, 10] (fun (i : Nat) (s : Int) => i ≤ xs.length ∧ s = covI (xs.take i) r) (fun (i : Nat) (s : Int) => [(11, vi i), (5, vi s)]) (fun (i : Nat) (s : Int) => blk b3 91 (rectT.enc r) :: L) (fun (i : Nat) (s : Int) => xs.length - i) 0 0 ⟨by omega, by simp [covI, costL]⟩ ⟨rfl, rfl, trivial⟩ Cv.p ?_
 rintro i s τ ⟨hi, hs⟩
 refine WP.sr (RG.p (PV.lss rfl rfl rfl) (RG.nil (WP.seq ?_)))
 refine WP.cond rfl (fun h2 => ?_) (fun h2 => ?_)
 ·have h2 := of_decide_eq_true h2
  have hct := costL_take (fun q => if validRect (cmn q r) = true then areaR (cmn q r) else 0) (xs := xs) (i := i) (by omega)
  have hb := hnn (xs.take i)
  have hlt : (xs.take i).length = i := by simp; omega
  rw [hlt] at hb
  refine WP.skip (WP.seq (WP.block (WP.sr (RG.p (PV.idxS (v := v) rfl Is50 rfl (SlF.r h1) rfl rfl (by omega)) (RG.p (PV.loadE rfl Ag91 rfl rfl (El.r h1 (getG (by omega)))) ?_)))))
  refine RG.ot rfl (OT.alloc rfl Zr91 fun b7 => ?_)
  refine RG.ot rfl (OT.storeW (vs := [vi _, vi _, vi _, vi _]) rfl Sz91 rfl rfl (Cl.c rfl) rfl rfl (OneC.c rfl) ?_)
  refine RG.nil (WP.sr (RG.p (PV.loadW rfl Ag91 rfl rfl) (RG.p (PV.loadW rfl Ag91 rfl rfl) ?_)))
  refine RG.callF (vs := [_, _]) rfl rfl En249 rfl (common_s ?_)
  refine RG.ot rfl (OT.alloc rfl Zr91 fun b8 => ?_)
  refine RG.ot rfl (OT.storeW (vs := [vi _, vi _, vi _, vi _]) rfl Sz91 rfl rfl (Cl.c rfl) rfl rfl (OneC.c rfl) ?_)
  refine RG.nil (WP.sr (RG.p (PV.loadW rfl Ag91 rfl rfl) ?_))
  refine RG.callF (vs := [_]) rfl rfl En124 rfl (validRect_s ?_)
  refine RG.nil ?_
  refine WP.cond rfl (fun h3 => ?_) (fun h3 => ?_)
  ·have hab := area_bd h3
   rw [if_pos h3] at hct
   refine WP.region (RG.ml rfl (RG.p (PV.loadW rfl Ag91 rfl rfl) ?_))
   refine RG.callF (vs := [_]) rfl rfl En191 rfl (area_s (by assumption) ?_)
   refine RG.p (PV.add rfl rfl rfl (by omega)) (RG.mr rfl (RG.nil (WP.region (RG.p (PV.add rfl rfl rfl (by omega)) (RG.ml rfl (RG.nil ?_))))))
   exact ⟨rfl, i + 1, _, ⟨by omega, by rw [hs]; exact hct.symm⟩, ⟨rfl, rfl, trivial⟩, ⟨rfl, rfl, rfl, trivial⟩, Cv.p, by omega⟩
  ·rw [if_neg (by simp [h3])] at hct
   refine WP.skip (WP.region (RG.p (PV.add rfl rfl rfl (by omega)) (RG.ml rfl (RG.nil ?_))))
   exact ⟨rfl, i + 1, _, ⟨by omega, by rw [hs]; simp only [covI]; omega⟩, ⟨rfl, rfl, trivial⟩, ⟨rfl, rfl, rfl, trivial⟩, Cv.p, by omega⟩
 ·have h2 := of_decide_eq_false h2
  have e : covI xs r = s := by rw [hs, List.take_of_length_le (by omega)]
  rw [e] at k
  refine WP.exit ?_
  refine WP.sr (RG.ml rfl (RG.mr rfl (RG.nil ?_)))
  exact WP.ret ⟨_, _, ResV.one rfl rfl, Cv.p, k⟩
end Go.Proofs.YtgphjofccckloaaGreat
namespace Go.Proofs.YtgphjofccckloaaGreat
open Go
set_option maxRecDepth 20000
variable {G : Gh} {L : List Ch} {R : Value → Gh → List Ch → Prop}
def Is (W : List Bool) (P : Nat → Nat → Prop) : Prop := W.length = 6400 ∧ ∀ v u : Nat, v < 80 → u < 80 → (gb W v u = true ↔ P v u)
theorem Is.congr {W : List Bool} {P Q : Nat → Nat → Prop} (h : Is W P) (e : ∀ v u : Nat, v < 80 → u < 80 → (P v u ↔ Q v u)) : Is W Q := ⟨h.1, fun v u hv hu => (h.2 v u hv hu).trans (e v u hv hu)⟩
theorem Is.set {W : List Bool} {P : Nat → Nat → Prop} (h : Is W P) {Y X : Nat} (hy : Y < 80) (hx : X < 80) : Is (W.set (Y * 80 + X) true) fun v u => P v u ∨ (v = Y ∧ u = X) := ⟨by simpa using h.1, fun v u hv hu => by
 rw [gb_set' h.1 hy hx hu]
 by_cases c : v = Y ∧ u = X
 ·rw [if_pos c]; simp [c]
 ·rw [if_neg c, h.2 v u hv hu]; simp [c]⟩
theorem Is.uniq {W V : List Bool} {P : Nat → Nat → Prop} (h : Is W P) (g : Is V P) : W = V := gb_ext h.1 g.1 fun y x hy hx => by rw [Bool.eq_iff_iff, h.2 y x hy hx, g.2 y x hy hx]
theorem Is.none {P : Nat → Nat → Prop} (n : Nat) (hn : n = 6400) (h : ∀ v u : Nat, v < 80 → u < 80 → ¬ P v u) : Is (List.replicate n false) P := ⟨by simp [hn], fun v u hv hu => by rw [gb_repf]; simp [h v u hv hu]⟩
def N1 (S : List Bool) (c y x : Int) (v u : Nat) : Prop := ∃ x' : Nat, x' < 80 ∧ gb S v x' = true ∧ (u : Int) - x' ≤ c ∧ (x' : Int) - u ≤ c ∧ ((v : Int) - 40 < y ∨ ((v : Int) - 40 = y ∧ (x' : Int) - 40 < x))
def N1d (S : List Bool) (c y x d : Int) (v u : Nat) : Prop := N1 S c y x v u ∨ ((v : Int) - 40 = y ∧ gb S v (x + 40).toNat = true ∧ x - c ≤ (u : Int) - 40 ∧ (u : Int) - 40 < x + d)
theorem N1.line {S : List Bool} {c y : Int} {v u : Nat} : N1 S c y 40 v u ↔ N1 S c (y + 1) (-40) v u := by
 constructor
 ·rintro ⟨x', h1, h2, h3, h4, h5⟩; exact ⟨x', h1, h2, h3, h4, by omega⟩
 ·rintro ⟨x', h1, h2, h3, h4, h5⟩; exact ⟨x', h1, h2, h3, h4, by omega⟩
theorem N1d.start {S : List Bool} {c y x : Int} {v u : Nat} : N1 S c y x v u ↔ N1d S c y x (-c) v u := by
 constructor
 ·exact .inl
 ·rintro (h | ⟨h1, h2, h3, h4⟩)
  ·exact h
  ·omega
theorem N1d.stop {S : List Bool} {c y x d : Int} {v u : Nat} (hx : -40 ≤ x ∧ x < 40) (hd : d = c + 1 ∨ ((v : Int) - 40 = y → gb S v (x + 40).toNat = false)) (hdc : d ≤ c + 1) : N1d S c y x d v u ↔ N1 S c y (x + 1) v u := by
 constructor
 ·rintro (⟨x', h1, h2, h3, h4, h5⟩ | ⟨h1, h2, h3, h4⟩)
  ·exact ⟨x', h1, h2, h3, h4, by omega⟩
  ·exact ⟨(x + 40).toNat, by omega, h2, by omega, by omega, by omega⟩
 ·rintro ⟨x', h1, h2, h3, h4, h5⟩
  by_cases e : (v : Int) - 40 = y ∧ (x' : Int) - 40 = x
  ·have e2 : x' = (x + 40).toNat := by omega
   rcases hd with hd | hd
   ·subst e2; exact .inr ⟨e.1, h2, by omega, by omega⟩
   ·rw [e2, hd e.1] at h2; cases h2
  ·exact .inl ⟨x', h1, h2, h3, h4, by omega⟩
theorem N1d.put {S : List Bool} {c y x d : Int} {v u : Nat} (hy : -40 ≤ y) (hd : -c ≤ d ∧ d ≤ c) (hx : -40 ≤ x + d) (hs : gb S (y + 40).toNat (x + 40).toNat = true) : (N1d S c y x d v u ∨ (v = (y + 40).toNat ∧ u = (x + d + 40).toNat)) ↔ N1d S c y x (d + 1) v u := by
 constructor
 ·rintro ((h | ⟨h1, h2, h3, h4⟩) | ⟨rfl, rfl⟩)
  ·exact .inl h
  ·exact .inr ⟨h1, h2, h3, by omega⟩
  ·exact .inr ⟨by omega, hs, by omega, by omega⟩
 ·rintro (h | ⟨h1, h2, h3, h4⟩)
  ·exact .inl (.inl h)
  ·by_cases e : (u : Int) - 40 = x + d
   ·exact .inr ⟨by omega, by omega⟩
   ·exact .inl (.inr ⟨h1, h2, h3, by omega⟩)
theorem N1d.out {S : List Bool} {c y x d : Int} {v u : Nat} (hu : u < 80) (hx : ¬ (-40 ≤ x + d ∧ x + d < 40)) : N1d S c y x d v u ↔ N1d S c y x (d + 1) v u := by
 constructor
 ·rintro (h | ⟨h1, h2, h3, h4⟩)
  ·exact .inl h
  ·exact .inr ⟨h1, h2, h3, by omega⟩
 ·rintro (h | ⟨h1, h2, h3, h4⟩)
  ·exact .inl h
  ·exact .inr ⟨h1, h2, h3, by omega⟩
def N2 (W : List Bool) (c y x : Int) (v u : Nat) : Prop := ∃ y' : Nat, y' < 80 ∧ gb W y' u = true ∧ (v : Int) - y' ≤ c ∧ (y' : Int) - v ≤ c ∧ ((y' : Int) - 40 < y ∨ ((y' : Int) - 40 = y ∧ (u : Int) - 40 < x))
def N2d (W : List Bool) (c y x d : Int) (v u : Nat) : Prop := N2 W c y x v u ∨ ((u : Int) - 40 = x ∧ gb W (y + 40).toNat u = true ∧ y - c ≤ (v : Int) - 40 ∧ (v : Int) - 40 < y + d)
theorem N2.line {S : List Bool} {c y : Int} {v u : Nat} (hu : u < 80) : N2 S c y 40 v u ↔ N2 S c (y + 1) (-40) v u := by
 constructor
 ·rintro ⟨x', h1, h2, h3, h4, h5⟩; exact ⟨x', h1, h2, h3, h4, by omega⟩
 ·rintro ⟨x', h1, h2, h3, h4, h5⟩; exact ⟨x', h1, h2, h3, h4, by omega⟩
theorem N2d.start {S : List Bool} {c y x : Int} {v u : Nat} : N2 S c y x v u ↔ N2d S c y x (-c) v u := by
 constructor
 ·exact .inl
 ·rintro (h | ⟨h1, h2, h3, h4⟩)
  ·exact h
  ·omega
theorem N2d.stop {S : List Bool} {c y x d : Int} {v u : Nat} (hy : -40 ≤ y ∧ y < 40) (hd : d = c + 1 ∨ ((u : Int) - 40 = x → gb S (y + 40).toNat u = false)) (hdc : d ≤ c + 1) : N2d S c y x d v u ↔ N2 S c y (x + 1) v u := by
 constructor
 ·rintro (⟨x', h1, h2, h3, h4, h5⟩ | ⟨h1, h2, h3, h4⟩)
  ·exact ⟨x', h1, h2, h3, h4, by omega⟩
  ·exact ⟨(y + 40).toNat, by omega, h2, by omega, by omega, by omega⟩
 ·rintro ⟨x', h1, h2, h3, h4, h5⟩
  by_cases e : (u : Int) - 40 = x ∧ (x' : Int) - 40 = y
  ·have e2 : x' = (y + 40).toNat := by omega
   rcases hd with hd | hd
   ·subst e2; exact .inr ⟨e.1, h2, by omega, by omega⟩
   ·rw [e2, hd e.1] at h2; cases h2
  ·exact .inl ⟨x', h1, h2, h3, h4, by omega⟩
theorem N2d.put {S : List Bool} {c y x d : Int} {v u : Nat} (hx : -40 ≤ x) (hd : -c ≤ d ∧ d ≤ c) (hy : -40 ≤ y + d) (hs : gb S (y + 40).toNat (x + 40).toNat = true) : (N2d S c y x d v u ∨ (v = (y + d + 40).toNat ∧ u = (x + 40).toNat)) ↔ N2d S c y x (d + 1) v u := by
 constructor
 ·rintro ((h | ⟨h1, h2, h3, h4⟩) | ⟨rfl, rfl⟩)
  ·exact .inl h
  ·exact .inr ⟨h1, h2, h3, by omega⟩
  ·exact .inr ⟨by omega, hs, by omega, by omega⟩
 ·rintro (h | ⟨h1, h2, h3, h4⟩)
  ·exact .inl (.inl h)
  ·by_cases e : (v : Int) - 40 = y + d
   ·exact .inr ⟨by omega, by omega⟩
   ·exact .inl (.inr ⟨h1, h2, h3, by omega⟩)
theorem N2d.out {S : List Bool} {c y x d : Int} {v u : Nat} (hv : v < 80) (hy : ¬ (-40 ≤ y + d ∧ y + d < 40)) : N2d S c y x d v u ↔ N2d S c y x (d + 1) v u := by
 constructor
 ·rintro (h | ⟨h1, h2, h3, h4⟩)
  ·exact .inl h
  ·exact .inr ⟨h1, h2, h3, by omega⟩
 ·rintro (h | ⟨h1, h2, h3, h4⟩)
  ·exact .inl h
  ·exact .inr ⟨h1, h2, h3, by omega⟩
theorem near_grow {S W E : List Bool} {c : Int} (hW : Is W (N1 S c 40 (-40))) (hE : Is E (N2 W c 40 (-40))) : E = growB S c := gb_ext hE.1 (growB_len _ _) fun y x hy hx => by
 rw [Bool.eq_iff_iff, hE.2 y x hy hx, growB_iff hy hx]
 constructor
 ·rintro ⟨y', h1, h2, h3, h4, _⟩
  obtain ⟨x', g1, g2, g3, g4, _⟩ := (hW.2 y' x h1 hx).1 h2
  exact ⟨y', x', h1, g1, by omega, by omega, by omega, by omega, g2⟩
 ·rintro ⟨y', x', h1, h2, h3, h4, h5, h6, h7⟩
  exact ⟨y', h1, (hW.2 y' x h1 hx).2 ⟨x', h2, h7, by omega, by omega, by omega⟩, by omega, by omega, by omega⟩
theorem near_s {v : Value} {S : List Bool} {c : Int} (h1 : Rs G L boolT v S) (hS : S.length = 6400) (hc : 0 ≤ c ∧ c ≤ 8) (k : ∀ v', R v' G (osl 4 boolT v' (growB S c) :: L)) : CallT Tryz.prog 172 #[v, vi c] G L R := by
 refine CallT.enter (args := _) Tryz.func172 rfl rfl (by kernel_rfl) rfl ?_
 refine WP.sr (RG.p (PV.asg rfl rfl) (RG.nil (WP.sr (RG.p (PV.move (v := v) rfl rfl) (RG.p (PV.len (v := v) rfl Tryz.underlying162 rfl (SlF.r h1)) ?_)))))
 refine RG.ot rfl (OT.make (F := boolT) (a0 := false) rfl El162 rfl (by decide) rfl rfl (by omega) (by omega) fun v15 => ?_)
 refine RG.p (PV.asg (v := v15) rfl rfl) (RG.nil (WP.sr (RG.p (PV.move (v := v) rfl rfl) (RG.p (PV.len (v := v) rfl Tryz.underlying162 rfl (SlF.r h1)) ?_))))
 refine RG.ot rfl (OT.make (F := boolT) (a0 := false) rfl El162 rfl (by decide) rfl rfl (by omega) (by omega) fun v18 => ?_)
 refine RG.p (PV.asg (v := v18) rfl rfl) (RG.nil (WP.seq (WP.sr (RG.mr rfl (RG.nil (WP.block ?_))))))
 refine WP.loop2 [0, 1, 5, 6] (fun (y : Int) (W : List Bool) => (-40 ≤ y ∧ y ≤ 40) ∧ Is W (N1 S c y (-40))) (fun (y : Int) (W : List Bool) => [(7, vi y)]) (fun (y : Int) (W : List Bool) => osl 4 boolT v15 W :: osl 4 boolT v18 (List.replicate S.length false) :: L) (fun (y : Int) (W : List Bool) => (40 - y).toNat) (-40) (List.replicate S.length false) ⟨by omega, Is.none _ hS fun v u hv hu => by rintro ⟨x', h1, h2, h3, h4, h5⟩; omega⟩ ⟨rfl, trivial⟩ Cv.p ?_
 rintro y W τ ⟨hy, hW⟩
 refine WP.seq (WP.sr (RG.ml rfl (RG.p (PV.lss rfl rfl rfl) (RG.nil ?_))))
 have hWl := hW.1
 refine WP.cond rfl (fun h2 => ?_) (fun h2 => ?_)
 ·have h2 := of_decide_eq_true h2
  refine WP.skip (WP.seq (WP.block (WP.sr (RG.mr rfl (RG.nil (WP.block ?_))))))
  refine WP.loop2 [0, 1, 5, 6, 7] (fun (x : Int) (W1 : List Bool) => (-40 ≤ x ∧ x ≤ 40) ∧ Is W1 (N1 S c y x)) (fun (x : Int) (W1 : List Bool) => [(8, vi x)]) (fun (x : Int) (W1 : List Bool) => osl 4 boolT v15 W1 :: osl 4 boolT v18 (List.replicate S.length false) :: L) (fun (x : Int) (W1 : List Bool) => (40 - x).toNat) (-40) W ⟨by omega, hW⟩ ⟨rfl, trivial⟩ Cv.p ?_
  rintro x W1 τ1 ⟨hx, hW1⟩
  refine WP.seq (WP.sr (RG.ml rfl (RG.p (PV.lss rfl rfl rfl) (RG.nil ?_))))
  have hWl1 := hW1.1
  refine WP.cond rfl (fun h3 => ?_) (fun h3 => ?_)
  ·have h3 := of_decide_eq_true h3
   have hat := at_eq (x := x) (y := y) (by omega) (by omega)
   refine WP.skip (WP.seq (WP.block (WP.sr (RG.ml rfl (RG.p (PV.neg rfl rfl (by omega)) (RG.mr rfl (RG.nil (WP.block ?_))))))))
   refine WP.loop2 [0, 1, 5, 6, 7, 8] (fun (d : Int) (W2 : List Bool) => (-c ≤ d ∧ d ≤ c + 1) ∧ Is W2 (N1d S c y x d)) (fun (d : Int) (W2 : List Bool) => [(9, vi d)]) (fun (d : Int) (W2 : List Bool) => osl 4 boolT v15 W2 :: osl 4 boolT v18 (List.replicate S.length false) :: L) (fun (d : Int) (W2 : List Bool) => (c + 1 - d).toNat) (-c) W1 ⟨by omega, hW1.congr fun v u _ _ => N1d.start⟩ ⟨rfl, trivial⟩ Cv.p ?_
   rintro d W2 τ2 ⟨hd, hW2⟩
   refine WP.seq (WP.sr (RG.ml rfl (RG.ml rfl (RG.p (PV.leq rfl rfl rfl) (RG.bl rfl ?_)))))
   refine RG.g rfl (fun hp => (PV.move (v := v) rfl rfl)) ?_
   refine RG.g rfl (fun hp => (PV.mvI (.inl rfl) rfl)) ?_
   refine RG.g rfl (fun hp => (PV.mvI (.inl rfl) rfl)) ?_
   refine RG.gsC rfl rfl rfl rfl En236 (fun hp => ⟨_, (acons (gs_t hp) (acons (gs_t hp) anil)), l17At_s (by first | omega | (simp at hp; omega)) (by first | omega | (simp at hp; omega)) ⟨rfl, rfl, rfl⟩⟩) ?_
   refine RG.g rfl (fun hp => (PV.idxS (j := ((y + 40) * 80 + x + 40).toNat) (v := v) rfl Is162 (gs_t hp) (SlF.r h1) (gs_t hp) (by first | omega | (simp at hp; omega)) (by first | omega | (simp at hp; omega)))) ?_
   refine RG.g rfl (fun hp => (PV.loadE1 rfl Sc4 (gs_t hp) rfl (El.r h1 (getG (by first | omega | (simp at hp; omega)))) rfl)) ?_
   refine RG.p (PV.pickA rfl rfl (fun hq => gs_t (geqT hq)) rfl) (RG.nil ?_)
   have hWl2 := hW2.1
   refine WP.cond rfl (fun h4 => ?_) (fun h4 => ?_)
   ·have h4' : d ≤ c ∧ gb S (y + 40).toNat (x + 40).toNat = true := by rw [gb, ← hat]; simpa using h4
    have h4 := h4'.1
    refine WP.skip (WP.seq (WP.block (WP.sr (RG.ml rfl (RG.ml rfl (RG.p (PV.add rfl rfl rfl (by omega)) (RG.ml rfl ?_)))))))
    refine RG.callF (vs := [_, _]) rfl rfl En237 rfl (l17Inside_s ?_)
    refine RG.nil ?_
    refine WP.cond rfl (fun h5 => ?_) (fun h5 => ?_)
    ·have h5 : (-40 ≤ x + d ∧ x + d < 40) ∧ -40 ≤ y ∧ y < 40 := by simpa using h5
     have hat2 := at_eq (x := x + d) (y := y) (by omega) (by omega)
     refine WP.region (RG.p (PV.move (v := v15) rfl rfl) (RG.ml rfl (RG.ml rfl (RG.p (PV.add rfl rfl rfl (by omega)) (RG.ml rfl ?_)))))
     refine RG.callF (vs := [_, _]) rfl rfl En236 rfl (l17At_s (by first | omega | (simp at hp; omega)) (by first | omega | (simp at hp; omega)) ?_)
     refine RG.p (PV.idxS (j := ((y + 40) * 80 + (x + d) + 40).toNat) (v := v15) rfl Is162 rfl SlF.o rfl (by first | omega | (simp only [List.length_set]; omega)) (by first | omega | (simp only [List.length_set]; omega))) ?_
     refine RG.ot rfl (OT.storeE (F := boolT) rfl Sz4 rfl rfl rfl (Cl.c rfl) (OneC.c rfl) (by first | omega | (simp only [List.length_set]; omega)) ?_)
     refine RG.nil (WP.region (RG.ml rfl (RG.p (PV.add rfl rfl rfl (by omega)) (RG.mr rfl (RG.nil ?_)))))
     exact ⟨rfl, d + 1, (W2.set ((y + 40) * 80 + (x + d) + 40).toNat true), ⟨by omega, by rw [hat2]; exact (hW2.set (by omega) (by omega)).congr fun v u _ _ => N1d.put (by omega) (by omega) (by omega) h4'.2⟩, ⟨rfl, trivial⟩, ⟨rfl, rfl, rfl, rfl, rfl, rfl, trivial⟩, Cv.p, by omega⟩
    ·have h5 : ¬ (-40 ≤ x + d ∧ x + d < 40) := by
      intro h6
      have h7 : ((-40 ≤ x + d ∧ x + d < 40) ∧ -40 ≤ y ∧ y < 40) := ⟨h6, by omega⟩
      simp [h7.1.1, h7.1.2, h7.2.1, h7.2.2] at h5
     refine WP.skip (WP.region (RG.ml rfl (RG.p (PV.add rfl rfl rfl (by omega)) (RG.mr rfl (RG.nil ?_)))))
     exact ⟨rfl, d + 1, W2, ⟨by omega, hW2.congr fun v u _ hu => N1d.out hu h5⟩, ⟨rfl, trivial⟩, ⟨rfl, rfl, rfl, rfl, rfl, rfl, trivial⟩, Cv.p, by omega⟩
   ·have h4' : d = c + 1 ∨ gb S (y + 40).toNat (x + 40).toNat = false := by
     by_cases c1 : d ≤ c
     ·right; rw [gb, ← hat]; simpa [c1] using h4
     ·left; omega
    refine WP.exit ?_
    refine WP.region (RG.ml rfl (RG.p (PV.add rfl rfl rfl (by omega)) (RG.mr rfl (RG.nil ?_))))
    exact ⟨rfl, x + 1, W2, ⟨by omega, hW2.congr fun v u _ _ => N1d.stop (by omega) (h4'.imp id fun e hv => by rw [show v = (y + 40).toNat by omega]; exact e) (by omega)⟩, ⟨rfl, trivial⟩, ⟨rfl, rfl, rfl, rfl, rfl, trivial⟩, Cv.p, by omega⟩
  ·obtain rfl : x = 40 := by have h3 := of_decide_eq_false h3; omega
   refine WP.exit ?_
   refine WP.region (RG.ml rfl (RG.p (PV.add rfl rfl rfl (by omega)) (RG.mr rfl (RG.nil ?_))))
   exact ⟨rfl, y + 1, W1, ⟨by omega, hW1.congr fun v u _ _ => N1.line⟩, ⟨rfl, trivial⟩, ⟨rfl, rfl, rfl, rfl, trivial⟩, Cv.p, by omega⟩
 ·obtain rfl : y = 40 := by have h2 := of_decide_eq_false h2; omega
  refine WP.exit ?_
  refine WP.seq (WP.sr (RG.mr rfl (RG.nil (WP.block ?_))))
  refine WP.loop2 [1, 5, 6] (fun (y : Int) (E : List Bool) => (-40 ≤ y ∧ y ≤ 40) ∧ Is E (N2 W c y (-40))) (fun (y : Int) (E : List Bool) => [(10, vi y)]) (fun (y : Int) (E : List Bool) => osl 4 boolT v15 W :: osl 4 boolT v18 E :: L) (fun (y : Int) (E : List Bool) => (40 - y).toNat) (-40) (List.replicate S.length false) ⟨by omega, Is.none _ hS fun v u hv hu => by rintro ⟨x', h1, h2, h3, h4, h5⟩; omega⟩ ⟨rfl, trivial⟩ Cv.p ?_
  rintro y E τ3 ⟨hy2, hE⟩
  refine WP.seq (WP.sr (RG.ml rfl (RG.p (PV.lss rfl rfl rfl) (RG.nil ?_))))
  have hEl := hE.1
  refine WP.cond rfl (fun h2 => ?_) (fun h2 => ?_)
  ·have h2 := of_decide_eq_true h2
   refine WP.skip (WP.seq (WP.block (WP.sr (RG.mr rfl (RG.nil (WP.block ?_))))))
   refine WP.loop2 [1, 5, 6, 10] (fun (x : Int) (E1 : List Bool) => (-40 ≤ x ∧ x ≤ 40) ∧ Is E1 (N2 W c y x)) (fun (x : Int) (E1 : List Bool) => [(11, vi x)]) (fun (x : Int) (E1 : List Bool) => osl 4 boolT v15 W :: osl 4 boolT v18 E1 :: L) (fun (x : Int) (E1 : List Bool) => (40 - x).toNat) (-40) E ⟨by omega, hE⟩ ⟨rfl, trivial⟩ Cv.p ?_
   rintro x E1 τ1 ⟨hx, hE1⟩
   refine WP.seq (WP.sr (RG.ml rfl (RG.p (PV.lss rfl rfl rfl) (RG.nil ?_))))
   have hEl1 := hE1.1
   refine WP.cond rfl (fun h3 => ?_) (fun h3 => ?_)
   ·have h3 := of_decide_eq_true h3
    have hat := at_eq (x := x) (y := y) (by omega) (by omega)
    refine WP.skip (WP.seq (WP.block (WP.sr (RG.ml rfl (RG.p (PV.neg rfl rfl (by omega)) (RG.mr rfl (RG.nil (WP.block ?_))))))))
    refine WP.loop2 [1, 5, 6, 10, 11] (fun (d : Int) (E2 : List Bool) => (-c ≤ d ∧ d ≤ c + 1) ∧ Is E2 (N2d W c y x d)) (fun (d : Int) (E2 : List Bool) => [(12, vi d)]) (fun (d : Int) (E2 : List Bool) => osl 4 boolT v15 W :: osl 4 boolT v18 E2 :: L) (fun (d : Int) (E2 : List Bool) => (c + 1 - d).toNat) (-c) E1 ⟨by omega, hE1.congr fun v u _ _ => N2d.start⟩ ⟨rfl, trivial⟩ Cv.p ?_
    rintro d E2 τ2 ⟨hd, hE2⟩
    refine WP.seq (WP.sr (RG.ml rfl (RG.ml rfl (RG.p (PV.leq rfl rfl rfl) (RG.bl rfl ?_)))))
    refine RG.g rfl (fun hp => (PV.move (v := v15) rfl rfl)) ?_
    refine RG.g rfl (fun hp => (PV.mvI (.inl rfl) rfl)) ?_
    refine RG.g rfl (fun hp => (PV.mvI (.inl rfl) rfl)) ?_
    refine RG.gsC rfl rfl rfl rfl En236 (fun hp => ⟨_, (acons (gs_t hp) (acons (gs_t hp) anil)), l17At_s (by first | omega | (simp at hp; omega)) (by first | omega | (simp at hp; omega)) ⟨rfl, rfl, rfl⟩⟩) ?_
    refine RG.g rfl (fun hp => (PV.idxS (j := ((y + 40) * 80 + x + 40).toNat) (v := v15) rfl Is162 (gs_t hp) SlF.o (gs_t hp) (by first | omega | (simp at hp; omega)) (by first | omega | (simp at hp; omega)))) ?_
    refine RG.g rfl (fun hp => (PV.loadE1 rfl Sc4 (gs_t hp) rfl (El.o (getG (by first | omega | (simp at hp; omega)))) rfl)) ?_
    refine RG.p (PV.pickA rfl rfl (fun hq => gs_t (geqT hq)) rfl) (RG.nil ?_)
    have hEl2 := hE2.1
    refine WP.cond rfl (fun h4 => ?_) (fun h4 => ?_)
    ·have h4' : d ≤ c ∧ gb W (y + 40).toNat (x + 40).toNat = true := by rw [gb, ← hat]; simpa using h4
     have h4 := h4'.1
     refine WP.skip (WP.seq (WP.block (WP.sr (RG.ml rfl (RG.ml rfl (RG.ml rfl (RG.p (PV.add rfl rfl rfl (by omega)) ?_)))))))
     refine RG.callF (vs := [_, _]) rfl rfl En237 rfl (l17Inside_s ?_)
     refine RG.nil ?_
     refine WP.cond rfl (fun h5 => ?_) (fun h5 => ?_)
     ·have h5 : (-40 ≤ x ∧ x < 40) ∧ -40 ≤ y + d ∧ y + d < 40 := by simpa using h5
      have hat2 := at_eq (x := x) (y := y + d) (by omega) (by omega)
      refine WP.region (RG.p (PV.move (v := v18) rfl rfl) (RG.ml rfl (RG.ml rfl (RG.ml rfl (RG.p (PV.add rfl rfl rfl (by omega)) ?_)))))
      refine RG.callF (vs := [_, _]) rfl rfl En236 rfl (l17At_s (by first | omega | (simp at hp; omega)) (by first | omega | (simp at hp; omega)) ?_)
      refine RG.p (PV.idxS (j := ((y + d + 40) * 80 + x + 40).toNat) (v := v18) rfl Is162 rfl SlF.o rfl (by first | omega | (simp only [List.length_set]; omega)) (by first | omega | (simp only [List.length_set]; omega))) ?_
      refine RG.ot rfl (OT.storeE (F := boolT) rfl Sz4 rfl rfl rfl (Cl.c rfl) (OneC.c rfl) (by first | omega | (simp only [List.length_set]; omega)) ?_)
      refine RG.nil (WP.region (RG.ml rfl (RG.p (PV.add rfl rfl rfl (by omega)) (RG.mr rfl (RG.nil ?_)))))
      exact ⟨rfl, d + 1, (E2.set ((y + d + 40) * 80 + x + 40).toNat true), ⟨by omega, by rw [hat2]; exact (hE2.set (by omega) (by omega)).congr fun v u _ _ => N2d.put (by omega) (by omega) (by omega) h4'.2⟩, ⟨rfl, trivial⟩, ⟨rfl, rfl, rfl, rfl, rfl, trivial⟩, Cv.p, by omega⟩
     ·have h5 : ¬ (-40 ≤ y + d ∧ y + d < 40) := by
       intro h6
       have h7 : ((-40 ≤ x ∧ x < 40) ∧ -40 ≤ y + d ∧ y + d < 40) := ⟨by omega, h6⟩
       simp [h7.1.1, h7.1.2, h7.2.1, h7.2.2] at h5
      refine WP.skip (WP.region (RG.ml rfl (RG.p (PV.add rfl rfl rfl (by omega)) (RG.mr rfl (RG.nil ?_)))))
      exact ⟨rfl, d + 1, E2, ⟨by omega, hE2.congr fun v u hv _ => N2d.out hv h5⟩, ⟨rfl, trivial⟩, ⟨rfl, rfl, rfl, rfl, rfl, trivial⟩, Cv.p, by omega⟩
    ·have h4' : d = c + 1 ∨ gb W (y + 40).toNat (x + 40).toNat = false := by
      by_cases c1 : d ≤ c
      ·right; rw [gb, ← hat]; simpa [c1] using h4
      ·left; omega
     refine WP.exit ?_
     refine WP.region (RG.ml rfl (RG.p (PV.add rfl rfl rfl (by omega)) (RG.mr rfl (RG.nil ?_))))
     exact ⟨rfl, x + 1, E2, ⟨by omega, hE2.congr fun v u _ _ => N2d.stop (by omega) (h4'.imp id fun e hv => by rw [show u = (x + 40).toNat by omega]; exact e) (by omega)⟩, ⟨rfl, trivial⟩, ⟨rfl, rfl, rfl, rfl, trivial⟩, Cv.p, by omega⟩
   ·obtain rfl : x = 40 := by have h3 := of_decide_eq_false h3; omega
    refine WP.exit ?_
    refine WP.region (RG.ml rfl (RG.p (PV.add rfl rfl rfl (by omega)) (RG.mr rfl (RG.nil ?_))))
    exact ⟨rfl, y + 1, E1, ⟨by omega, hE1.congr fun v u _ hu => N2.line hu⟩, ⟨rfl, trivial⟩, ⟨rfl, rfl, rfl, trivial⟩, Cv.p, by omega⟩
  ·obtain rfl : y = 40 := by have h2 := of_decide_eq_false h2; omega
   have e := near_grow hW hE
   rw [e]
   refine WP.exit ?_
   refine WP.sr (RG.p (PV.move (v := v18) rfl rfl) (RG.p (PV.asg (v := v18) rfl rfl) (RG.nil ?_)))
   exact WP.ret ⟨_, _, ResV.one rfl rfl, Cv.p, k v18⟩
def ZI (f : Bool → Bool → Bool) (D O : List Bool) (i : Nat) (E : List Bool) : Prop := E.length = 6400 ∧ (∀ j, j < i → gd E j = f (gd D j) (gd O j)) ∧ ∀ j, i ≤ j → gd E j = gd D j
theorem ZI.start {f : Bool → Bool → Bool} {D O : List Bool} (h : D.length = 6400) : ZI f D O 0 D := ⟨h, fun j hj => by omega, fun j _ => rfl⟩
theorem ZI.step {f : Bool → Bool → Bool} {D O E : List Bool} {i : Nat} (h : ZI f D O i E) (hi : i < 6400) : ZI f D O (i + 1) (E.set i (f (gd E i) (gd O i))) := ⟨by simpa using h.1, fun j hj => by
 by_cases c : j = i
 ·subst c; rw [gd_setE (by rw [h.1]; exact hi), h.2.2 j (Nat.le_refl _)]
 ·rw [gd_setM (fun e => c e.symm)]; exact h.2.1 j (by omega), fun j hj => by rw [gd_setM (by omega)]; exact h.2.2 j (by omega)⟩
theorem ZI.done {f : Bool → Bool → Bool} {D O E : List Bool} (h : ZI f D O 6400 E) (hD : D.length = 6400) (hO : O.length = 6400) : E = zipB f D O := by
 have hz := zipB_len (f := f) hD hO
 apply List.ext_getElem?
 intro j
 by_cases hj : j < 6400
 ·rw [getG (by rw [h.1]; omega), h.2.1 j hj, zipB_get (by omega) (by omega)]
 ·rw [List.getElem?_eq_none (by rw [h.1]; omega), List.getElem?_eq_none (by omega)]
def minB (p q : Bool) : Bool := p && !q
def enclL (xs ys : List Rect) (w : Int) : List Rect := if (isReg xs && isReg ys && within w 0 8) = true then canon (zipB minB (growB (bits xs) w) (bits ys)) else []
theorem markEncl_s {u v : Value} {xs ys : List Rect} {w : Int} (h1 : Rs G L rectT u xs) (h2 : Rs G L rectT v ys) (k : ∀ v', R v' G (osl 91 rectT v' (enclL xs ys w) :: L)) : CallT Tryz.prog 96 #[u, v, vi w] G L R := by
 refine CallT.enter (args := _) Tryz.func96 rfl rfl (by kernel_rfl) rfl ?_
 refine WP.sr (RG.p (PV.asg rfl rfl) (RG.nil (WP.seq (WP.sr (RG.p (PV.move (v := u) rfl rfl) ?_)))))
 refine RG.callF (vs := [u]) rfl rfl En167 rfl (l03Ok_s (Rs.up h1) ?_)
 refine RG.p (PV.not rfl rfl) (RG.bl rfl ?_)
 refine RG.g rfl (fun hp => (PV.move (v := v) rfl rfl)) ?_
 refine RG.gsC rfl rfl rfl rfl En167 (fun hp => ⟨_, (acons (gs_t hp) anil), l03Ok_s (Rs.up h2) ⟨rfl, rfl, rfl⟩⟩) ?_
 refine RG.g rfl (fun hp => (PV.not rfl (gs_t hp))) ?_
 refine RG.p (PV.pickO rfl rfl rfl (fun hq => gs_t (geqF hq))) (RG.bl rfl ?_)
 refine RG.g rfl (fun hp => (PV.mvI (.inl rfl) rfl)) ?_
 refine RG.g rfl (fun hp => (PV.lss rfl (gs_t hp) rfl)) ?_
 refine RG.p (PV.pickO rfl rfl rfl (fun hq => gs_t (geqF hq))) (RG.bl rfl ?_)
 refine RG.g rfl (fun hp => (PV.mvI (.inl rfl) rfl)) ?_
 refine RG.g rfl (fun hp => (PV.gtr rfl (gs_t hp) rfl)) ?_
 refine RG.p (PV.pickO rfl rfl rfl (fun hq => gs_t (geqF hq))) (RG.nil ?_)
 refine WP.cond rfl (fun h3 => ?_) (fun h3 => ?_)
 ·have e : enclL xs ys w = [] := by
   rw [enclL, if_neg]
   intro h4
   simp only [Bool.and_eq_true, within, decide_eq_true_eq] at h4
   simp [h4.1.1, h4.1.2] at h3; omega
  rw [e] at k
  refine WP.sr ?_
  refine RG.ot rfl (OT.bslice (F := rectT) (els := []) rfl El50 rfl (by decide) rfl (by decide) trivial fun v26 => ?_)
  refine RG.p (PV.asg (v := v26) rfl rfl) (RG.nil ?_)
  exact WP.ret ⟨_, _, ResV.one rfl rfl, Cv.p, k v26⟩
 ·have h4 : isReg xs = true ∧ isReg ys = true ∧ 0 ≤ w ∧ w ≤ 8 := by
   cases g1 : isReg xs <;> cases g2 : isReg ys <;> simp_all
  have hreg := h4.1
  have hregy := h4.2.1
  have hwb := h4.2.2
  have hgl := growB_len (bits xs) w
  have e : enclL xs ys w = canon (zipB minB (growB (bits xs) w) (bits ys)) := by rw [enclL, if_pos]; simp [hreg, hregy, within, hwb.1, hwb.2]
  rw [e] at k
  refine WP.skip (WP.sr (RG.p (PV.move (v := u) rfl rfl) ?_))
  refine RG.callF (vs := [u]) rfl rfl En120 rfl (l03Bits_s (Rs.up h1) (fun i hi => valid_get (isReg_valid hreg) hi) (fun v28 => ?_))
  refine RG.ml rfl ?_
  refine RG.callF (vs := [v28, _]) rfl rfl En172 rfl (near_s Rs.o (bits_length _) (by omega) (fun v30 => ?_))
  refine RG.p (PV.asg (v := v30) rfl rfl) (RG.nil (WP.sr (RG.p (PV.move (v := v) rfl rfl) ?_)))
  refine RG.callF (vs := [v]) rfl rfl En120 rfl (l03Bits_s (Rs.up h2) (fun i hi => valid_get (isReg_valid hregy) hi) (fun v32 => ?_))
  refine RG.p (PV.asg (v := v32) rfl rfl) (RG.nil (WP.seq (WP.sr (RG.mr rfl (RG.nil (WP.block ?_))))))
  have hby := bits_length ys
  refine WP.loop2 [7, 8] (fun (i : Nat) (E : List Bool) => i ≤ 6400 ∧ ZI minB (growB (bits xs) w) (bits ys) i E) (fun (i : Nat) (E : List Bool) => [(9, vi i)]) (fun (i : Nat) (E : List Bool) => osl 4 boolT v30 E :: osl 4 boolT v32 (bits ys) :: L) (fun (i : Nat) (E : List Bool) => 6400 - i) 0 (growB (bits xs) w) ⟨by omega, ZI.start hgl⟩ ⟨rfl, trivial⟩ Cv.p ?_
  rintro i E τ ⟨hi, hE⟩
  refine WP.seq (WP.sr (RG.ml rfl (RG.p (PV.move (v := v30) rfl rfl) (RG.p (PV.len (v := v30) rfl Tryz.underlying162 rfl SlF.o) (RG.p (PV.lss rfl rfl rfl) (RG.nil ?_))))))
  have hEl := hE.1
  refine WP.cond rfl (fun h5 => ?_) (fun h5 => ?_)
  ·have h5 := of_decide_eq_true h5
   refine WP.skip (WP.seq (WP.block (WP.region (RG.p (PV.move (v := v30) rfl rfl) (RG.ml rfl (RG.p (PV.move (v := v30) rfl rfl) (RG.ml rfl (RG.p (PV.idxS (v := v30) rfl Is162 rfl SlF.o rfl rfl (by omega)) (RG.p (PV.loadE1 rfl Sc4 rfl rfl (El.o (getG (by omega))) rfl) (RG.bl rfl ?_))))))))))
   refine RG.g rfl (fun hp => (PV.move (v := v32) rfl rfl)) ?_
   refine RG.g rfl (fun hp => (PV.mvI (.inl rfl) rfl)) ?_
   refine RG.g rfl (fun hp => (PV.idxS (v := v32) rfl Is162 (gs_t hp) SlF.o (gs_t hp) rfl (by first | omega | (simp at hp; omega)))) ?_
   refine RG.g rfl (fun hp => (PV.loadE1 rfl Sc4 (gs_t hp) rfl (El.o (getG (by first | omega | (simp at hp; omega)))) rfl)) ?_
   refine RG.g rfl (fun hp => (PV.not rfl (gs_t hp))) ?_
   refine RG.p (PV.pickA rfl rfl (fun hq => gs_t (geqT hq)) rfl) (RG.p (PV.idxS (v := v30) rfl Is162 rfl SlF.o rfl rfl (by omega)) ?_)
   refine RG.ot rfl (OT.storeE (F := boolT) rfl Sz4 rfl rfl rfl (Cl.c rfl) (OneC.c rfl) (by omega) ?_)
   refine RG.nil (WP.region (RG.ml rfl (RG.p (PV.add rfl rfl rfl (by omega)) (RG.mr rfl (RG.nil ?_)))))
   exact ⟨rfl, i + 1, (E.set i (gd E i && !gd (bits ys) i)), ⟨by omega, hE.step (by omega)⟩, ⟨rfl, trivial⟩, ⟨rfl, rfl, trivial⟩, Cv.p, by omega⟩
  ·have h5 := of_decide_eq_false h5
   obtain rfl : i = 6400 := by omega
   obtain rfl := hE.done hgl hby
   refine WP.exit ?_
   refine WP.sr (RG.p (PV.move (v := v30) rfl rfl) ?_)
   refine RG.callF (vs := [v30]) rfl rfl En119 rfl (l03Canon_s Rs.o hEl (fun v54 => ?_))
   refine RG.p (PV.asg (v := v54) rfl rfl) (RG.nil ?_)
   exact WP.ret ⟨_, _, ResV.one rfl rfl, Cv.p, k v54⟩
theorem or_s {u v : Value} {A B : List Bool} (h1 : Rs G L boolT u A) (h2 : Rs G L boolT v B) (hA : A.length = 6400) (hB : B.length = 6400) (k : ∀ v', R v' G (osl 4 boolT v' (orZ A B) :: L)) : CallT Tryz.prog 175 #[u, v] G L R := by
 refine CallT.enter (args := _) Tryz.func175 rfl rfl (by kernel_rfl) rfl ?_
 refine WP.sr (RG.p (PV.asg rfl rfl) (RG.nil (WP.sr (RG.p (PV.move (v := u) rfl rfl) (RG.p (PV.len (v := u) rfl Tryz.underlying162 rfl (SlF.r h1)) ?_)))))
 refine RG.ot rfl (OT.make (F := boolT) (a0 := false) rfl El162 rfl (by decide) rfl rfl (by omega) (by omega) fun v9 => ?_)
 refine RG.p (PV.asg (v := v9) rfl rfl) (RG.nil (WP.seq (WP.sr (RG.mr rfl (RG.nil (WP.block ?_))))))
 refine WP.loop2 [0, 1, 5] (fun (i : Nat) (E : List Bool) => i ≤ A.length ∧ E = (List.range i).map (fun j => gd A j || gd B j) ++ List.replicate (A.length - i) false) (fun (i : Nat) (E : List Bool) => [(6, vi i)]) (fun (i : Nat) (E : List Bool) => osl 4 boolT v9 E :: L) (fun (i : Nat) (E : List Bool) => A.length - i) 0 (List.replicate A.length false) ⟨by omega, by simp⟩ ⟨rfl, trivial⟩ Cv.p ?_
 rintro i E τ ⟨hi, hE⟩
 refine WP.seq (WP.sr (RG.ml rfl (RG.p (PV.move (v := u) rfl rfl) (RG.p (PV.len (v := u) rfl Tryz.underlying162 rfl (SlF.r h1)) (RG.p (PV.lss rfl rfl rfl) (RG.nil ?_))))))
 have hEl : E.length = A.length := by rw [hE]; simp; omega
 refine WP.cond rfl (fun h5 => ?_) (fun h5 => ?_)
 ·have h5 := of_decide_eq_true h5
  have hn := mapB_set (f := fun j => gd A j || gd B j) (n := A.length) (i := i) (by omega) hE
  refine WP.skip (WP.seq (WP.block (WP.region (RG.p (PV.move (v := v9) rfl rfl) (RG.ml rfl (RG.p (PV.move (v := u) rfl rfl) (RG.ml rfl (RG.p (PV.idxS (v := u) rfl Is162 rfl (SlF.r h1) rfl rfl (by omega)) (RG.p (PV.loadE1 rfl Sc4 rfl rfl (El.r h1 (getG (by omega))) rfl) (RG.bl rfl ?_))))))))))
  refine RG.g rfl (fun hp => (PV.move (v := v) rfl rfl)) ?_
  refine RG.g rfl (fun hp => (PV.mvI (.inl rfl) rfl)) ?_
  refine RG.g rfl (fun hp => (PV.idxS (v := v) rfl Is162 (gs_t hp) (SlF.r h2) (gs_t hp) rfl (by first | omega | (simp at hp; omega)))) ?_
  refine RG.g rfl (fun hp => (PV.loadE1 rfl Sc4 (gs_t hp) rfl (El.r h2 (getG (by first | omega | (simp at hp; omega)))) rfl)) ?_
  refine RG.p (PV.pickO rfl rfl rfl (fun hq => gs_t (geqF hq))) (RG.p (PV.idxS (v := v9) rfl Is162 rfl SlF.o rfl rfl (by omega)) ?_)
  refine RG.ot rfl (OT.storeE (F := boolT) rfl Sz4 rfl rfl rfl (Cl.c rfl) (OneC.c rfl) (by omega) ?_)
  refine RG.nil (WP.region (RG.ml rfl (RG.p (PV.add rfl rfl rfl (by omega)) (RG.mr rfl (RG.nil ?_)))))
  exact ⟨rfl, i + 1, (E.set i (gd A i || gd B i)), ⟨by omega, hn⟩, ⟨rfl, trivial⟩, ⟨rfl, rfl, rfl, trivial⟩, Cv.p, by omega⟩
 ·have h5 := of_decide_eq_false h5
  obtain rfl : i = A.length := by omega
  have hE' : E = orZ A B := by rw [hE, Nat.sub_self, List.replicate_zero, List.append_nil]; rfl
  rw [hE']
  refine WP.exit ?_
  refine WP.sr (RG.p (PV.move (v := v9) rfl rfl) (RG.p (PV.asg (v := v9) rfl rfl) (RG.nil ?_)))
  exact WP.ret ⟨_, _, ResV.one rfl rfl, Cv.p, k v9⟩
theorem orZ_gb {A B : List Bool} (hA : A.length = 6400) {y x : Nat} (hy : y < 80) (hx : x < 80) : gb (orZ A B) y x = (gb A y x || gb B y x) := by
 have h : y * 80 + x < (orZ A B).length := by rw [orZ_len]; omega
 rw [gb, gd_eq h]; simp [orZ, gb]
def Small (S : List Bool) (w : Int) (y x : Nat) : Prop := ∃ c ∈ comps S, cnt c < w ∧ gb c y x = true
noncomputable def areaL (xs : List Rect) (w : Int) : List Rect := if (isReg xs && within w 1 6400) = true then canon (celL (Small (bits xs) w)) else []
def SmallN (cs : List (List Bool)) (w : Int) (y x : Nat) : Prop := ∃ c ∈ cs, cnt c < w ∧ gb c y x = true
theorem SmallN.next {cs : List (List Bool)} {w : Int} {y x i : Nat} (h : i < cs.length) : SmallN (cs.take (i + 1)) w y x ↔ SmallN (cs.take i) w y x ∨ (cnt (gd cs i) < w ∧ gb (gd cs i) y x = true) := by
 unfold SmallN
 rw [List.take_add_one, getG h]
 constructor
 ·rintro ⟨c, hc, h1⟩
  rcases List.mem_append.1 hc with h2 | h2
  ·exact .inl ⟨c, h2, h1⟩
  ·simp only [Option.toList, List.mem_singleton] at h2; subst h2; exact .inr h1
 ·rintro (⟨c, hc, h1⟩ | h1)
  ·exact ⟨c, List.mem_append_left _ hc, h1⟩
  ·exact ⟨_, List.mem_append_right _ (by simp), h1⟩
theorem markArea_s {v : Value} {xs : List Rect} {w : Int} (h1 : Rs G L rectT v xs) (k : ∀ v', R v' G (osl 91 rectT v' (areaL xs w) :: L)) : CallT Tryz.prog 97 #[v, vi w] G L R := by
 refine CallT.enter (args := _) Tryz.func97 rfl rfl (by kernel_rfl) rfl ?_
 refine WP.sr (RG.p (PV.asg rfl rfl) (RG.nil (WP.seq (WP.sr (RG.p (PV.move (v := v) rfl rfl) ?_)))))
 refine RG.callF (vs := [v]) rfl rfl En167 rfl (l03Ok_s (Rs.up h1) ?_)
 refine RG.p (PV.not rfl rfl) (RG.bl rfl ?_)
 refine RG.g rfl (fun hp => (PV.mvI (.inl rfl) rfl)) ?_
 refine RG.g rfl (fun hp => (PV.lss rfl (gs_t hp) rfl)) ?_
 refine RG.p (PV.pickO rfl rfl rfl (fun hq => gs_t (geqF hq))) (RG.bl rfl ?_)
 refine RG.g rfl (fun hp => (PV.mvI (.inl rfl) rfl)) ?_
 refine RG.g rfl (fun hp => (PV.gtr rfl (gs_t hp) rfl)) ?_
 refine RG.p (PV.pickO rfl rfl rfl (fun hq => gs_t (geqF hq))) (RG.nil ?_)
 refine WP.cond rfl (fun h3 => ?_) (fun h3 => ?_)
 ·have e : areaL xs w = [] := by
   rw [areaL, if_neg]
   intro h4
   simp only [Bool.and_eq_true, within, decide_eq_true_eq] at h4
   simp [h4.1] at h3; omega
  rw [e] at k
  refine WP.sr ?_
  refine RG.ot rfl (OT.bslice (F := rectT) (els := []) rfl El50 rfl (by decide) rfl (by decide) trivial fun v19 => ?_)
  refine RG.p (PV.asg (v := v19) rfl rfl) (RG.nil ?_)
  exact WP.ret ⟨_, _, ResV.one rfl rfl, Cv.p, k v19⟩
 ·have h4 : isReg xs = true ∧ 1 ≤ w ∧ w ≤ 6400 := by cases g1 : isReg xs <;> simp_all
  have hreg : isReg xs = true := h4.1
  refine WP.skip (WP.sr ?_)
  refine RG.ot rfl (OT.make (m := 6400) (F := boolT) (a0 := false) rfl El162 rfl (by decide) rfl rfl (by omega) (by omega) fun v20 => ?_)
  refine RG.p (PV.asg (v := v20) rfl rfl) (RG.nil (WP.sr (RG.p (PV.move (v := v) rfl rfl) ?_)))
  refine RG.callF (vs := [v]) rfl rfl En120 rfl (l03Bits_s (Rs.up h1) (fun i hi => valid_get (isReg_valid hreg) hi) (fun v22 => ?_))
  refine RG.callF (vs := [v22]) rfl rfl En173 rfl (comps_s Rs.o (bits_length _) (fun v23 zsv23 hev23 => ?_))
  refine RG.p (PV.asg (v := v23) rfl rfl) (RG.nil (WP.seq (WP.sr (RG.mr rfl (RG.nil (WP.block ?_))))))
  have hcl : zsv23.length = (comps (bits xs)).length := by have := congrArg List.length hev23; rwa [er_len] at this
  have hzl : zsv23.length ≤ 6400 := by rw [hcl]; exact comps_len _
  have hl6 : ∀ i, i < zsv23.length → (gd zsv23 i).xs.length = 6400 := fun i hi => by
   rw [← er_gd, hev23]
   exact comps_mem (gd_mem (by omega))
  refine WP.loop3 [1, 6] (fun (i : Nat) (E : List Bool) (q : Value) => i ≤ zsv23.length ∧ Is E (SmallN ((comps (bits xs)).take i) w)) (fun (i : Nat) (E : List Bool) (q : Value) => [(7, vi i), (5, q)]) (fun (i : Nat) (E : List Bool) (q : Value) => osl 4 boolT q E :: osl 162 slT v23 zsv23 :: bagS 4 boolT zsv23 :: L) (fun (i : Nat) (E : List Bool) (q : Value) => zsv23.length - i) 0 (List.replicate 6400 false) v20 ⟨by omega, Is.none _ rfl fun v u _ _ => by rintro ⟨c, hc, _⟩; simp at hc⟩ ⟨rfl, rfl, trivial⟩ Cv.p ?_
  rintro i E q τ ⟨hi, hE⟩
  refine WP.seq (WP.sr (RG.ml rfl (RG.p (PV.move (v := v23) rfl rfl) (RG.p (PV.len (v := v23) rfl Tryz.underlying193 rfl SlF.o) (RG.p (PV.lss rfl rfl rfl) (RG.nil ?_))))))
  have hEl := hE.1
  refine WP.cond rfl (fun h5 => ?_) (fun h5 => ?_)
  ·have h5 := of_decide_eq_true h5
   have hgi : gd (comps (bits xs)) i = (gd zsv23 i).xs := by rw [← hev23, er_gd]
   have hnx := fun y x => SmallN.next (cs := comps (bits xs)) (w := w) (y := y) (x := x) (i := i) (by omega)
   rw [hgi] at hnx
   refine WP.skip (WP.seq (WP.block (WP.sr (RG.p (PV.move (v := v23) rfl rfl) (RG.ml rfl (RG.p (PV.idxS (v := v23) rfl Is193 rfl SlF.o rfl rfl (by omega)) (RG.p (PV.loadE1 rfl Sc162 rfl rfl (El.o (getG (by omega))) rfl) ?_)))))))
   refine RG.callF (vs := [_]) rfl rfl En174 rfl (l19Count_s (Rs.inBag (xs := zsv23) i (by omega)) (hl6 i (by omega)) ?_)
   refine RG.ml rfl (RG.p (PV.lss rfl rfl rfl) (RG.nil ?_))
   refine WP.cond rfl (fun h6 => ?_) (fun h6 => ?_)
   ·have h6 : cnt (gd zsv23 i).xs < w := by simpa using h6
    have hnE : Is (orZ E (gd zsv23 i).xs) (SmallN ((comps (bits xs)).take (i + 1)) w) := ⟨by rw [orZ_len]; exact hEl, fun y x hy hx => by rw [orZ_gb hEl hy hx, Bool.or_eq_true, hE.2 y x hy hx, hnx]; simp [h6]⟩
    refine WP.region (RG.p (PV.move (v := q) rfl rfl) (RG.p (PV.move (v := v23) rfl rfl) (RG.ml rfl (RG.p (PV.idxS (v := v23) rfl Is193 rfl SlF.o rfl rfl (by omega)) (RG.p (PV.loadE1 rfl Sc162 rfl rfl (El.o (getG (by omega))) rfl) ?_)))))
    refine RG.callF (vs := [q, _]) rfl rfl En175 rfl (or_s Rs.o (Rs.inBag (xs := zsv23) i (by omega)) hEl (hl6 i (by omega)) (fun v42 => ?_))
    refine RG.p (PV.asg (v := v42) rfl rfl) (RG.nil (WP.region (RG.ml rfl (RG.p (PV.add rfl rfl rfl (by omega)) (RG.mr rfl (RG.nil ?_))))))
    exact ⟨rfl, i + 1, (orZ E (gd zsv23 i).xs), v42, ⟨by omega, hnE⟩, ⟨rfl, rfl, trivial⟩, ⟨rfl, rfl, trivial⟩, Cv.p, by omega⟩
   ·have h6 : ¬ cnt (gd zsv23 i).xs < w := by simpa using h6
    have hnE : Is E (SmallN ((comps (bits xs)).take (i + 1)) w) := hE.congr fun y x _ _ => by rw [hnx]; simp [h6]
    refine WP.skip (WP.region (RG.ml rfl (RG.p (PV.add rfl rfl rfl (by omega)) (RG.mr rfl (RG.nil ?_)))))
    exact ⟨rfl, i + 1, E, q, ⟨by omega, hnE⟩, ⟨rfl, rfl, trivial⟩, ⟨rfl, rfl, trivial⟩, Cv.p, by omega⟩
  ·have h5 := of_decide_eq_false h5
   have e : areaL xs w = canon E := by
    rw [List.take_of_length_le (by omega)] at hE
    rw [areaL, if_pos (by simp [hreg, within, h4.2.1, h4.2.2])]
    exact congrArg canon (celL_eq (P := Small (bits xs) w) hE.1 hE.2).symm
   rw [e] at k
   refine WP.exit ?_
   refine WP.sr (RG.p (PV.move (v := q) rfl rfl) ?_)
   refine RG.callF (vs := [q]) rfl rfl En119 rfl (l03Canon_s Rs.o hEl (fun v44 => ?_))
   refine RG.p (PV.asg (v := v44) rfl rfl) (RG.nil ?_)
   exact WP.ret ⟨_, _, ResV.one rfl rfl, Cv.p, k v44⟩
end Go.Proofs.YtgphjofccckloaaGreat
