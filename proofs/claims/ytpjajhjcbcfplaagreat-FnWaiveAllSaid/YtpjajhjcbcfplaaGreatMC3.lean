/-
  Contracts of functions and plain facts that the last text of this folder uses, part 3.
-/
import Derived.Test.YtpjajhjcbcfplaaGreatMC2
namespace Go.Proofs.YtpjajhjcbcfplaaGreat
set_option linter.unusedVariables false
set_option linter.unusedSimpArgs false
open Go
set_option maxRecDepth 20000
set_option linter.unusedSimpArgs false
variable {G : Gh} {L : List Ch} {R : Value → Gh → List Ch → Prop}
def cmpI (x y : Int) : Int := if x < y then -1 else if y < x then 1 else 0
def orI : List Int → Int
  | [] => 0
  | x :: l => if x ≠ 0 then x else orI l
def cmpR (a b : Rect) : Int := orI [cmpI a.y0 b.y0, cmpI a.x0 b.x0, cmpI a.y1 b.y1, cmpI a.x1 b.x1]
theorem orI_zero : ∀ {xs : List Int} {i : Nat}, (∀ j, j < i → gd xs j = 0) → orI xs = orI (xs.drop i)
  | xs, 0, _ => by simp
  | [], i + 1, _ => by simp
  | x :: xs, i + 1, h => by
    have h0 : x = 0 := by have := h 0 (by omega); simpa [gd] using this
    rw [List.drop_succ_cons, orI, if_neg (by simp [h0])]
    exact orI_zero fun j hj => by have := h (j + 1) (by omega); simpa [gd] using this
theorem orI_at {xs : List Int} {i : Nat} (hi : i < xs.length) (h : ∀ j, j < i → gd xs j = 0) (hx : gd xs i ≠ 0) : orI xs = gd xs i := by
  rw [orI_zero h, List.drop_eq_getElem_cons hi, ← gd_eq hi, orI, if_pos hx]
theorem orI_all {xs : List Int} (h : ∀ j, j < xs.length → gd xs j = 0) : orI xs = 0 := by
  rw [orI_zero h]; simp [orI]
theorem cmpOr_s {v : Value} {xs : List Int} (h1 : Rs G L intT v xs) (k : R (vi (orI xs)) G L) : CallT Tryz.prog 210 #[v] G L R := by
  refine CallT.bd h1 fun hb => ?_
  refine CallT.enter (args := _) Tryz.func210 rfl rfl (by kernel_rfl) rfl ?_
  refine WP.seq ?_
  refine WP.region ?_
  refine RG.pv rfl (PV.mvI (.inr rfl) rfl) ?_
  refine RG.nil ?_
  refine WP.seq ?_
  refine WP.region ?_
  refine RG.pv rfl (PV.mvI (.inr rfl) rfl) ?_
  refine RG.nil ?_
  refine WP.seq ?_
  refine WP.seq ?_
  refine WP.region ?_
  refine RG.pv rfl (PV.move (v := v) rfl rfl) ?_
  refine RG.pv rfl (PV.len (v := v) rfl Tryz.underlying206 rfl (SlF.r h1)) ?_
  refine RG.pv rfl (PV.mvI (.inl rfl) rfl) ?_
  refine RG.nil ?_
  refine WP.block ?_
  refine WP.loop1 [3, 6, 7] (fun i => i ≤ xs.length ∧ ∀ j, j < i → gd xs j = 0) (fun i => [(8, vi i)]) (fun i => L) (fun i => xs.length - i) 0 ⟨by omega, fun j h => by omega⟩ ⟨rfl, trivial⟩ Cv.p ?_
  rintro i τ ⟨hi, hj⟩
  refine WP.seq ?_
  refine WP.region ?_
  refine RG.pv rfl (PV.lss rfl rfl rfl) ?_
  refine RG.nil ?_
  refine WP.seq ?_
  refine WP.cond rfl (fun h2 => ?_) (fun h2 => ?_)
  · have h2 := of_decide_eq_true h2
    refine WP.skip ?_
    refine WP.seq ?_
    refine WP.block ?_
    refine WP.seq ?_
    refine WP.region ?_
    refine RG.pv rfl (PV.idxS (v := v) rfl Is206 rfl (SlF.r h1) rfl rfl (by omega)) ?_
    refine RG.pv rfl (PV.loadE1 rfl Sc3 rfl rfl (El.r h1 (getG (by omega))) rfl) ?_
    refine RG.pv rfl (PV.mvI (.inr rfl) rfl) ?_
    refine RG.nil ?_
    refine WP.seq ?_
    refine WP.region ?_
    refine RG.pv rfl (PV.mvI (.inl rfl) rfl) ?_
    refine RG.pv rfl (PV.mvI (.inl rfl) rfl) ?_
    refine RG.pv rfl (PV.neq rfl rfl rfl) ?_
    refine RG.nil ?_
    refine WP.cond rfl (fun h3 => ?_) (fun h3 => ?_)
    · have h3 : gd xs i ≠ 0 := by simpa using h3
      rw [orI_at (by omega) hj h3] at k
      refine WP.seq ?_
      refine WP.region ?_
      refine RG.pv rfl (PV.mvI (.inl rfl) rfl) ?_
      refine RG.pv rfl (PV.mvI (.inr rfl) rfl) ?_
      refine RG.nil ?_
      refine WP.ret ?_
      exact ⟨_, _, ResV.one rfl rfl, Cv.p, k⟩
    · have h3 : gd xs i = 0 := by simpa using h3
      have hj' : ∀ j, j < i + 1 → gd xs j = 0 := fun j h => by
        by_cases c : j = i
        · rw [c]; exact h3
        · exact hj j (by omega)
      refine WP.skip ?_
      refine WP.region ?_
      refine RG.pv rfl (PV.add rfl rfl rfl (by omega)) ?_
      refine RG.pv rfl (PV.mvI (.inl rfl) rfl) ?_
      refine RG.nil ?_
      exact ⟨rfl, i + 1, ⟨by omega, hj'⟩, ⟨rfl, trivial⟩, ⟨rfl, rfl, rfl, trivial⟩, Cv.p, by omega⟩
  · have h2 := of_decide_eq_false h2
    rw [orI_all (fun j h => hj j (by omega))] at k
    refine WP.exit ?_
    refine WP.seq ?_
    refine WP.region ?_
    refine RG.pv rfl (PV.mvI (.inl rfl) rfl) ?_
    refine RG.pv rfl (PV.mvI (.inr rfl) rfl) ?_
    refine RG.nil ?_
    refine WP.ret ?_
    exact ⟨_, _, ResV.one rfl rfl, Cv.p, k⟩
theorem isNaN_s {a : Int} (k : R (.bool false) G L) : CallT Tryz.prog 226 #[vi a] G L R := by
  have e : (!decide (a = a)) = false := by simp
  refine CallT.enter (args := _) Tryz.func226 rfl rfl (by kernel_rfl) rfl ?_
  refine WP.seq ?_
  refine WP.region ?_
  refine RG.pv rfl (PV.mvB (.inr rfl) rfl) ?_
  refine RG.nil ?_
  refine WP.seq ?_
  refine WP.region ?_
  refine RG.pv rfl (PV.mvI (.inl rfl) rfl) ?_
  refine RG.pv rfl (PV.mvI (.inl rfl) rfl) ?_
  refine RG.pv rfl (PV.neq rfl rfl rfl) ?_
  refine RG.pv rfl (PV.mvB (.inr rfl) rfl) ?_
  refine RG.nil ?_
  refine WP.ret ?_
  exact ⟨_, _, ResV.one rfl rfl, Cv.p, (by rw [e]; exact k)⟩
theorem cmp_s {a b : Int} (k : R (vi (cmpI a b)) G L) : CallT Tryz.prog 211 #[vi a, vi b] G L R := by
  refine CallT.enter (args := _) Tryz.func211 rfl rfl (by kernel_rfl) rfl ?_
  refine WP.seq ?_
  refine WP.region ?_
  refine RG.pv rfl (PV.mvI (.inr rfl) rfl) ?_
  refine RG.nil ?_
  refine WP.seq ?_
  refine WP.region ?_
  refine RG.pv rfl (PV.mvI (.inl rfl) rfl) ?_
  refine RG.callF (vs := [_]) rfl rfl En226 rfl (isNaN_s ?_)
  refine RG.pv rfl (PV.mvB (.inr rfl) rfl) ?_
  refine RG.nil ?_
  refine WP.seq ?_
  refine WP.region ?_
  refine RG.pv rfl (PV.mvI (.inl rfl) rfl) ?_
  refine RG.callF (vs := [_]) rfl rfl En226 rfl (isNaN_s ?_)
  refine RG.pv rfl (PV.mvB (.inr rfl) rfl) ?_
  refine RG.nil ?_
  refine WP.seq ?_
  refine WP.seq ?_
  refine WP.region ?_
  refine RG.pv rfl (PV.mvB (.inl rfl) rfl) ?_
  refine RG.nil ?_
  refine WP.cond rfl (fun h => ?_) (fun h => ?_)
  · cases h
  · refine WP.skip ?_
    refine WP.seq ?_
    refine WP.seq ?_
    refine WP.region ?_
    refine RG.pv rfl (PV.mvB (.inl rfl) rfl) ?_
    refine RG.nil ?_
    refine WP.cond rfl (fun h => ?_) (fun h => ?_)
    · cases h
    · refine WP.skip ?_
      refine WP.seq ?_
      refine WP.seq ?_
      refine WP.region ?_
      refine RG.pv rfl (PV.mvI (.inl rfl) rfl) ?_
      refine RG.pv rfl (PV.mvI (.inl rfl) rfl) ?_
      refine RG.pv rfl (PV.lss rfl rfl rfl) ?_
      refine RG.nil ?_
      refine WP.cond rfl (fun h1 => ?_) (fun h1 => ?_)
      · rw [cmpI, if_pos (of_decide_eq_true h1)] at k
        refine WP.seq ?_
        refine WP.region ?_
        refine RG.pv rfl (PV.mvI (.inr rfl) rfl) ?_
        refine RG.nil ?_
        refine WP.ret ?_
        exact ⟨_, _, ResV.one rfl rfl, Cv.p, k⟩
      · have h1 := of_decide_eq_false h1
        refine WP.skip ?_
        refine WP.seq ?_
        refine WP.seq ?_
        refine WP.region ?_
        refine RG.pv rfl (PV.mvI (.inl rfl) rfl) ?_
        refine RG.pv rfl (PV.mvI (.inl rfl) rfl) ?_
        refine RG.pv rfl (PV.gtr rfl rfl rfl) ?_
        refine RG.nil ?_
        refine WP.cond rfl (fun h2 => ?_) (fun h2 => ?_)
        · rw [cmpI, if_neg h1, if_pos (of_decide_eq_true h2)] at k
          refine WP.seq ?_
          refine WP.region ?_
          refine RG.pv rfl (PV.mvI (.inr rfl) rfl) ?_
          refine RG.nil ?_
          refine WP.ret ?_
          exact ⟨_, _, ResV.one rfl rfl, Cv.p, k⟩
        · rw [cmpI, if_neg h1, if_neg (of_decide_eq_false h2)] at k
          refine WP.skip ?_
          refine WP.seq ?_
          refine WP.region ?_
          refine RG.pv rfl (PV.mvI (.inr rfl) rfl) ?_
          refine RG.nil ?_
          refine WP.ret ?_
          exact ⟨_, _, ResV.one rfl rfl, Cv.p, k⟩
theorem compareRects_s {a b : Rect} (k : R (vi (cmpR a b)) G L) : CallT Tryz.prog 183 #[.agg #[vi a.x0, vi a.y0, vi a.x1, vi a.y1], .agg #[vi b.x0, vi b.y0, vi b.x1, vi b.y1]] G L R := by
  refine CallT.enter (args := _) Tryz.func183 rfl rfl (by kernel_rfl) rfl ?_
  refine WP.seq ?_
  refine WP.region ?_
  refine RG.ot rfl (OT.box rfl rfl rfl fun b2 => ?_)
  refine RG.ot rfl (OT.box rfl rfl rfl fun b3 => ?_)
  refine RG.pv rfl (PV.mvI (.inr rfl) rfl) ?_
  refine RG.nil ?_
  refine WP.seq ?_
  refine WP.regionH0 (.q 0 (.q 1 (.q 2 (.q 3 (.q 5 (.q 6 (.q 7 (.q 8 (.q 10 (.q 11 (.q 12 (.q 13 (.q 15 (.q 16 (.q 17 (.q 18 (.l 4 (.l 9 (.l 14 (.l 19 (.l 20 (.l 21 (.q 22 Sch.nil))))))))))))))))))))))) (by kernel_rfl) (by kernel_rfl) (by kernel_rfl) rfl ?_
  refine RH.pv rfl (fun _ _ _ _ h => h) (Gh.le_refl _) PickC.pick rfl (PV.field rfl Fo71_1 rfl) ?_
  refine RH.pv rfl (fun _ _ _ _ h => h) (Gh.le_refl _) PickC.pick rfl (PV.load1 rfl Sc2 rfl (Rd.blk rfl)) ?_
  refine RH.pv rfl (fun _ _ _ _ h => h) (Gh.le_refl _) PickC.pick rfl (PV.field rfl Fo71_1 rfl) ?_
  refine RH.pv rfl (fun _ _ _ _ h => h) (Gh.le_refl _) PickC.pick rfl (PV.load1 rfl Sc2 rfl (Rd.blk rfl)) ?_
  refine RH.pv rfl (fun _ _ _ _ h => h) (Gh.le_refl _) PickC.pick rfl (PV.field rfl Fo71_0 rfl) ?_
  refine RH.pv rfl (fun _ _ _ _ h => h) (Gh.le_refl _) PickC.pick rfl (PV.load1 rfl Sc2 rfl (Rd.blk rfl)) ?_
  refine RH.pv rfl (fun _ _ _ _ h => h) (Gh.le_refl _) PickC.pick rfl (PV.field rfl Fo71_0 rfl) ?_
  refine RH.pv rfl (fun _ _ _ _ h => h) (Gh.le_refl _) PickC.pick rfl (PV.load1 rfl Sc2 rfl (Rd.blk rfl)) ?_
  refine RH.pv rfl (fun _ _ _ _ h => h) (Gh.le_refl _) PickC.pick rfl (PV.field rfl Fo71_3 rfl) ?_
  refine RH.pv rfl (fun _ _ _ _ h => h) (Gh.le_refl _) PickC.pick rfl (PV.load1 rfl Sc2 rfl (Rd.blk rfl)) ?_
  refine RH.pv rfl (fun _ _ _ _ h => h) (Gh.le_refl _) PickC.pick rfl (PV.field rfl Fo71_3 rfl) ?_
  refine RH.pv rfl (fun _ _ _ _ h => h) (Gh.le_refl _) PickC.pick rfl (PV.load1 rfl Sc2 rfl (Rd.blk rfl)) ?_
  refine RH.pv rfl (fun _ _ _ _ h => h) (Gh.le_refl _) PickC.pick rfl (PV.field rfl Fo71_2 rfl) ?_
  refine RH.pv rfl (fun _ _ _ _ h => h) (Gh.le_refl _) PickC.pick rfl (PV.load1 rfl Sc2 rfl (Rd.blk rfl)) ?_
  refine RH.pv rfl (fun _ _ _ _ h => h) (Gh.le_refl _) PickC.pick rfl (PV.field rfl Fo71_2 rfl) ?_
  refine RH.pv rfl (fun _ _ _ _ h => h) (Gh.le_refl _) PickC.pick rfl (PV.load1 rfl Sc2 rfl (Rd.blk rfl)) ?_
  refine RH.ot rfl rfl (OT.callF (vs := [_, _]) rfl En211 rfl (cmp_s ⟨Gh.le_refl _, PickC.pick, ?_⟩))
  refine RH.ot rfl rfl (OT.callF (vs := [_, _]) rfl En211 rfl (cmp_s ⟨Gh.le_refl _, PickC.pick, ?_⟩))
  refine RH.ot rfl rfl (OT.callF (vs := [_, _]) rfl En211 rfl (cmp_s ⟨Gh.le_refl _, PickC.pick, ?_⟩))
  refine RH.ot rfl rfl (OT.callF (vs := [_, _]) rfl En211 rfl (cmp_s ⟨Gh.le_refl _, PickC.pick, ?_⟩))
  refine RH.ot rfl rfl (OT.bslice (F := intT) (els := [_, _, _, _]) rfl El206 rfl (by decide) rfl (by decide) ⟨rfl, (Cl.c rfl), ⟨rfl, (Cl.c rfl), ⟨rfl, (Cl.c rfl), ⟨rfl, (Cl.c rfl), trivial⟩⟩⟩⟩ fun v25 => ⟨Gh.le_refl _, PickC.pick, ?_⟩)
  refine RH.ot rfl rfl (OT.callF (vs := [v25]) rfl En210 rfl (cmpOr_s Rs.o ⟨Gh.le_refl _, PickC.pick, ?_⟩))
  refine RH.pv rfl (fun _ _ _ _ h => h) (Gh.le_refl _) PickC.pick rfl (PV.mvI (.inr rfl) rfl) ?_
  refine RH.nil ?_
  refine WP.ret ?_
  exact ⟨_, _, ResV.one rfl rfl, Cv.p, k⟩
theorem partsCmp_s {v u : Value} {xs ys : List Rect} (h1 : Rs G L rectT v xs) (h2 : Rs G L rectT u ys) (hx : 0 < xs.length) (hy : 0 < ys.length) (k : R (vi (cmpR (gd xs 0) (gd ys 0))) G L) : CallT Tryz.prog 224 #[v, u] G L R := by
  refine CallT.enter (args := _) Tryz.func224 rfl rfl (by kernel_rfl) rfl ?_
  refine WP.seq ?_
  refine WP.region ?_
  refine RG.pv rfl (PV.mvI (.inr rfl) rfl) ?_
  refine RG.nil ?_
  refine WP.seq ?_
  refine WP.regionQ (by kernel_rfl) (by kernel_rfl) ?_
  refine RQ.pv rfl (PV.move (v := v) rfl rfl) ?_
  refine RQ.pv rfl (PV.idxS (j := 0) (v := v) rfl Is28 rfl (SlF.r h1) rfl (by omega) (by omega)) ?_
  refine RQ.pv rfl (PV.loadE rfl Ag71 rfl rfl (El.r h1 (getG (by omega)))) ?_
  refine RQ.pv rfl (PV.move (v := u) rfl rfl) ?_
  refine RQ.pv rfl (PV.idxS (j := 0) (v := u) rfl Is28 rfl (SlF.r h2) rfl (by omega) (by omega)) ?_
  refine RQ.pv rfl (PV.loadE rfl Ag71 rfl rfl (El.r h2 (getG (by omega)))) ?_
  refine RQ.callF (vs := [_, _]) rfl rfl En183 rfl (compareRects_s ⟨rfl, rfl, rfl⟩) ?_
  refine RQ.pv rfl (PV.mvI (.inr rfl) rfl) ?_
  refine RQ.nil ?_
  refine WP.ret ?_
  exact ⟨_, _, ResV.one rfl rfl, Cv.p, k⟩
theorem parts_len {S : List Bool} {zs : List (Sl Rect)} (h : er zs = partsL S) : zs.length ≤ 6400 := by
  have := congrArg List.length h
  have h1 := firsts_len S 6400
  rw [er_len, partsL_len] at this; omega
theorem parts_at {S : List Bool} {zs : List (Sl Rect)} (h : er zs = partsL S) {i : Nat} (hi : i < zs.length) : i < (firsts S 6400).length ∧ (gd zs i).xs = canon (compB S (cel (gd (firsts S 6400) i))) := by
  have := congrArg List.length h
  rw [er_len, partsL_len] at this
  refine ⟨by omega, ?_⟩
  rw [← er_gd, h, partsL_gd (by omega)]
theorem parts_ne {S : List Bool} {zs : List (Sl Rect)} (h : er zs = partsL S) {i : Nat} (hi : i < zs.length) : 0 < (gd zs i).xs.length := by
  obtain ⟨h1, h2⟩ := parts_at h hi
  rw [h2]; exact (canon_first (firsts_first h1)).1
theorem parts_lt {S : List Bool} {zs : List (Sl Rect)} (h : er zs = partsL S) {i j : Nat} (hij : i < j) (hj : j < zs.length) : ¬ cmpR (gd (gd zs j).xs 0) (gd (gd zs i).xs 0) < 0 := by
  obtain ⟨h1, h2⟩ := parts_at h (i := i) (by omega)
  obtain ⟨h3, h4⟩ := parts_at h hj
  obtain ⟨_, a1, a2⟩ := canon_first (firsts_first h1)
  obtain ⟨_, a3, a4⟩ := canon_first (firsts_first h3)
  have h5 := firsts_lt hij h3
  rw [h2, h4, cmpR, a1, a2, a3, a4]
  simp only [orI, cmpI]
  split <;> split <;> (try split) <;> (try split) <;> (try split) <;> omega
theorem pi_zlen {S T : List Bool} {n : Nat} {zs : List (Sl Rect)} (h : PI canon S n T (er zs)) : zs.length ≤ n := by
  have := congrArg List.length h.er
  have h1 := firsts_len S n
  rw [er_len, List.length_map] at this; omega
theorem bv_len (bs : List Bool) : (bv bs).length = bs.length := by simp [bv]
theorem take6400 {S : List Bool} (h : S.length = 6400) : (S.drop 0).take 6400 = S := by rw [List.drop_zero, List.take_of_length_le (by omega)]
theorem allOne_bv (bs : List Bool) : allOne (bv bs) = true := by simp [allOne, bv, Value.oneCell']
theorem OT.storeGG {P : Program} {n : Nat} {σ : Nat → Value} {o : Oper} {K : (Nat → Value) → Gh → List Ch → Prop} {b : Nat} {t e : TypeId} {x y : Operand} {cs : List Value} {bs : List Bool} {L' : List Ch} (ho : o.op = .store t x y) (hS : ∀ w, (sizeOf t).run P w = .ok 6400 w) (hx : ev σ x = .pointer (some ⟨b, 0, none⟩)) (hy : ev σ y = .agg (bv bs).toArray) (hl : bs.length = 6400) [hX : ExB b L e cs L'] (hc : cs.length = 6400) (k : K (updo σ o.dst undef) G (blk b e (bv bs) :: L')) : OT P n o σ G L K :=
  OT.storeW ho hS hx hy (Cl.c (by simp [Value.cells])) (by simp [bv, hl]) hc (OneC.c (allOne_bv bs)) k
set_option maxHeartbeats 1000000 in
theorem parts_s {b : Nat} {S : List Bool} (hS : S.length = 6400) (k : ∀ v zs, er zs = partsL S → R v G (osl 28 slT v zs :: bagS 71 rectT zs :: grd b S :: L)) : CallT Tryz.prog 207 #[.pointer (some ⟨b, 0, none⟩), .bool false] G (grd b S :: L) R := by
  refine CallT.enter (args := _) Tryz.func207 rfl rfl (by kernel_rfl) rfl ?_
  refine WP.seq ?_
  refine WP.region ?_
  refine RG.pv rfl (PV.asg rfl rfl) ?_
  refine RG.nil ?_
  refine WP.cut2 [1] (fun (o : Value) (b6 : Nat) => True) (fun (o : Value) (b6 : Nat) => [(5, o), (6, .pointer (some ⟨b6, 0, none⟩))]) (fun (o : Value) (b6 : Nat) => grd b6 S :: osl 28 slT o ([] : List (Sl Rect)) :: grd b S :: L) ?_ ?_
  refine WP.regionH0 (.q 1 (.q 2 (.q 3 (.b 0 (.l 4 (.q 5 (.l 6 Sch.nil))) 4 (.l 0 (.q 5 (.l 6 Sch.nil))))))) (by kernel_rfl) (by kernel_rfl) (by kernel_rfl) rfl ?_
  refine RH.pv rfl (fun _ _ _ _ h => h) (Gh.le_refl _) PickC.pick rfl (PV.mvP (.inl rfl) rfl) ?_
  refine RH.pv rfl (fun _ _ _ _ h => h) (Gh.le_refl _) PickC.pick rfl (PV.nilc rfl rfl) ?_
  refine RH.pv rfl (fun _ _ _ _ h => h) (Gh.le_refl _) PickC.pick rfl (PV.loadRow rfl Ag127 rfl rfl (by omega)) ?_
  · refine RH.ot2 rfl rfl rfl rfl  (OT.bslice (F := (slT (α := Rect))) (els := []) rfl El32 rfl (by decide) rfl (by decide) trivial fun v12 => ⟨Gh.le_refl _, PickC.pick, ?_⟩) (OT.alloc rfl (zeroB_spec (n := 6400) (by kernel_rfl)) fun b6 => ⟨Gh.le_refl _, PickC.pick, ?_⟩)
    · refine RH.ot rfl rfl (OT.alloc rfl (zeroB_spec (n := 6400) (by kernel_rfl)) fun b6 => ⟨Gh.le_refl _, PickC.pick, ?_⟩)
      refine RH.pv rfl (fun _ _ _ _ h => h) (Gh.le_refl _) PickC.pick rfl (PV.asg (v := v12) rfl rfl) ?_
      refine RH.ot rfl rfl (OT.storeGG rfl Sz127 rfl rfl (by first | omega | (simp <;> omega)) (by first | assumption | rw [bv_len, List.length_replicate]) ⟨Gh.le_refl _, PickC.pick, ?_⟩)
      refine RH.nil ?_
      exact ⟨rfl, v12, b6, trivial, ⟨rfl, rfl, trivial⟩, ⟨rfl, trivial⟩, (Cv.p (C := grd b6 ((S.drop 0).take 6400) :: osl 28 slT v12 ([] : List (Sl Rect)) :: grd b S :: L)).trans (Cv.cast (by rw [take6400 hS]))⟩
    · refine RH.ot rfl rfl (OT.bslice (F := (slT (α := Rect))) (els := []) rfl El32 rfl (by decide) rfl (by decide) trivial fun v12 => ⟨Gh.le_refl _, PickC.pick, ?_⟩)
      refine RH.pv rfl (fun _ _ _ _ h => h) (Gh.le_refl _) PickC.pick rfl (PV.asg (v := v12) rfl rfl) ?_
      refine RH.ot rfl rfl (OT.storeGG rfl Sz127 rfl rfl (by first | omega | (simp <;> omega)) (by first | assumption | rw [bv_len, List.length_replicate]) ⟨Gh.le_refl _, PickC.pick, ?_⟩)
      refine RH.nil ?_
      exact ⟨rfl, v12, b6, trivial, ⟨rfl, rfl, trivial⟩, ⟨rfl, trivial⟩, (Cv.p (C := grd b6 ((S.drop 0).take 6400) :: osl 28 slT v12 ([] : List (Sl Rect)) :: grd b S :: L)).trans (Cv.cast (by rw [take6400 hS]))⟩
  · rintro o b6 τ _
    refine WP.seq ?_
    refine WP.seq ?_
    refine WP.region ?_
    refine RG.pv rfl (PV.mvI (.inl rfl) rfl) ?_
    refine RG.nil ?_
    refine WP.block ?_
    refine WP.cv ((Cv.p (C := osl 28 slT o ([] : List (Sl Rect)) :: grd b6 S :: grd b S :: L)).trans (Cv.cons (Cv.bag0 (e := 71) (F := rectT) (xs := []) rfl))) ?_
    refine WP.loop4 [1, 6] (fun (y : Nat) (T : List Bool) (zs : List (Sl Rect)) (q : Value) => y ≤ 80 ∧ PI canon S (y * 80) T (er zs)) (fun (y : Nat) (T : List Bool) (zs : List (Sl Rect)) (q : Value) => [(16, vi y), (5, q)]) (fun (y : Nat) (T : List Bool) (zs : List (Sl Rect)) (q : Value) => grd b6 T :: osl 28 slT q zs :: bagS 71 rectT zs :: grd b S :: L) (fun (y : Nat) (T : List Bool) (zs : List (Sl Rect)) (q : Value) => 80 - y) 0 S [] o ⟨by omega, PI.start hS⟩ ⟨rfl, rfl, trivial⟩ Cv.p ?_
    rintro y T zs q τ ⟨hy, hP⟩
    refine WP.seq ?_
    refine WP.region ?_
    refine RG.pv rfl (PV.lss rfl rfl rfl) ?_
    refine RG.nil ?_
    refine WP.seq ?_
    refine WP.cond rfl (fun h2 => ?_) (fun h2 => ?_)
    · have h2 := of_decide_eq_true h2
      refine WP.skip ?_
      refine WP.seq ?_
      refine WP.block ?_
      refine WP.seq ?_
      refine WP.region ?_
      refine RG.pv rfl (PV.mvI (.inl rfl) rfl) ?_
      refine RG.pv rfl (PV.mvI (.inr rfl) rfl) ?_
      refine RG.nil ?_
      refine WP.seq ?_
      refine WP.region ?_
      refine RG.pv rfl (PV.mvI (.inl rfl) rfl) ?_
      refine RG.nil ?_
      refine WP.block ?_
      refine WP.loop4 [1, 6, 7, 16] (fun (x : Nat) (T1 : List Bool) (zs1 : List (Sl Rect)) (q1 : Value) => x ≤ 80 ∧ PI canon S (y * 80 + x) T1 (er zs1)) (fun (x : Nat) (T1 : List Bool) (zs1 : List (Sl Rect)) (q1 : Value) => [(19, vi x), (5, q1)]) (fun (x : Nat) (T1 : List Bool) (zs1 : List (Sl Rect)) (q1 : Value) => grd b6 T1 :: osl 28 slT q1 zs1 :: bagS 71 rectT zs1 :: grd b S :: L) (fun (x : Nat) (T1 : List Bool) (zs1 : List (Sl Rect)) (q1 : Value) => 80 - x) 0 T zs q ⟨by omega, hP⟩ ⟨rfl, rfl, trivial⟩ Cv.p ?_
      rintro x T1 zs1 q1 τ1 ⟨hx, hP1⟩
      refine WP.seq ?_
      refine WP.region ?_
      refine RG.pv rfl (PV.lss rfl rfl rfl) ?_
      refine RG.nil ?_
      refine WP.seq ?_
      refine WP.cond rfl (fun h3 => ?_) (fun h3 => ?_)
      · have h3 := of_decide_eq_true h3
        have hl1 := hP1.len
        have hzl := pi_zlen hP1
        have e1 : (y * 80 + x) / 80 = y := by omega
        have e2 : (y * 80 + x) % 80 = x := by omega
        have e3 : cel (y * 80 + x) = (y, x) := by rw [cel, e1, e2]
        refine WP.skip ?_
        refine WP.seq ?_
        refine WP.block ?_
        refine WP.seq ?_
        refine WP.region ?_
        refine RG.pv rfl (PV.mvI (.inl rfl) rfl) ?_
        refine RG.pv rfl (PV.mvI (.inr rfl) rfl) ?_
        refine RG.nil ?_
        refine WP.seq ?_
        refine WP.seq ?_
        refine WP.region ?_
        refine RG.pv rfl (PV.mvI (.inl rfl) rfl) ?_
        refine RG.pv rfl (PV.mvI (.inl rfl) rfl) ?_
        refine RG.pv rfl (PV.idxA (j := y) rfl Ia127 rfl rfl (by omega) (by omega)) ?_
        refine RG.pv rfl (PV.idxA (j := x) rfl Ia125 rfl rfl (by omega) (by omega)) ?_
        refine RG.pv rfl (PV.loadGr rfl Sc4 rfl rfl (by omega)) ?_
        refine RG.pv rfl (PV.not rfl rfl) ?_
        refine RG.nil ?_
        refine WP.cond rfl (fun h4 => ?_) (fun h4 => ?_)
        · have h5 : gb T1 y x = false := by rw [← gd_gb]; simpa using h4
          refine WP.exit ?_
          refine WP.region ?_
          refine RG.pv rfl (PV.add rfl rfl rfl (by omega)) ?_
          refine RG.pv rfl (PV.mvI (.inl rfl) rfl) ?_
          refine RG.nil ?_
          exact ⟨rfl, x + 1, T1, zs1, q1, ⟨by omega, hP1.skip (by omega) (by rw [e1, e2]; exact h5)⟩, ⟨rfl, rfl, trivial⟩, ⟨rfl, rfl, rfl, rfl, trivial⟩, Cv.p, by omega⟩
        · have h5 : gb T1 y x = true := by rw [← gd_gb]; simpa using h4
          refine WP.skip ?_
          refine WP.seq ?_
          refine WP.region ?_
          refine RG.pv rfl (PV.mvI (.inl rfl) rfl) ?_
          refine RG.pv rfl (PV.mvI (.inl rfl) rfl) ?_
          refine RG.pv rfl (PV.mvB (.inl rfl) rfl) ?_
          refine RG.callF (vs := [_, _, _, _]) rfl rfl En222 rfl (CallT.exB (flood_s (x := (x : Int)) (y := (y : Int)) hl1 (by omega) (by omega) (by rw [Int.toNat_natCast, Int.toNat_natCast]; exact h5) (fun b9 => ?_)))
          refine RG.pv rfl (PV.asg rfl rfl) ?_
          refine RG.nil ?_
          refine WP.seq ?_
          refine WP.seq ?_
          refine WP.region ?_
          refine RG.pv rfl (PV.mvI (.inl rfl) rfl) ?_
          refine RG.nil ?_
          refine WP.block ?_
          refine WP.cv ((Cv.p (C := grd b9 (compB T1 ((y : Int).toNat, (x : Int).toNat)) :: grd b6 T1 :: osl 28 slT q1 zs1 :: bagS 71 rectT zs1 :: grd b S :: L)).trans (Cv.cast (by rw [Int.toNat_natCast, Int.toNat_natCast, ← e3]))) ?_
          have hlc := compB_len T1 (cel (y * 80 + x))
          refine WP.loop2 [1, 5, 6, 7, 9, 16, 19] (fun (v : Nat) (U : List Bool) => v ≤ 80 ∧ Sub T1 (compB T1 (cel (y * 80 + x))) (v * 80) U) (fun (v : Nat) (U : List Bool) => [(32, vi v)]) (fun (v : Nat) (U : List Bool) => grd b9 (compB T1 (cel (y * 80 + x))) :: grd b6 U :: osl 28 slT q1 zs1 :: bagS 71 rectT zs1 :: grd b S :: L) (fun (v : Nat) (U : List Bool) => 80 - v) 0 T1 ⟨by omega, Sub.start hl1⟩ ⟨rfl, trivial⟩ Cv.p ?_
          rintro v U τ2 ⟨hv, hU⟩
          refine WP.seq ?_
          refine WP.region ?_
          refine RG.pv rfl (PV.lss rfl rfl rfl) ?_
          refine RG.nil ?_
          refine WP.seq ?_
          refine WP.cond rfl (fun h6 => ?_) (fun h6 => ?_)
          · have h6 := of_decide_eq_true h6
            refine WP.skip ?_
            refine WP.seq ?_
            refine WP.block ?_
            refine WP.seq ?_
            refine WP.region ?_
            refine RG.pv rfl (PV.mvI (.inl rfl) rfl) ?_
            refine RG.pv rfl (PV.mvI (.inr rfl) rfl) ?_
            refine RG.nil ?_
            refine WP.seq ?_
            refine WP.region ?_
            refine RG.pv rfl (PV.mvI (.inl rfl) rfl) ?_
            refine RG.nil ?_
            refine WP.block ?_
            refine WP.loop2 [1, 5, 6, 7, 9, 10, 16, 19, 32] (fun (u : Nat) (V : List Bool) => u ≤ 80 ∧ Sub T1 (compB T1 (cel (y * 80 + x))) (v * 80 + u) V) (fun (u : Nat) (V : List Bool) => [(35, vi u)]) (fun (u : Nat) (V : List Bool) => grd b9 (compB T1 (cel (y * 80 + x))) :: grd b6 V :: osl 28 slT q1 zs1 :: bagS 71 rectT zs1 :: grd b S :: L) (fun (u : Nat) (V : List Bool) => 80 - u) 0 U ⟨by omega, hU⟩ ⟨rfl, trivial⟩ Cv.p ?_
            rintro u V τ3 ⟨hu, hV⟩
            refine WP.seq ?_
            refine WP.region ?_
            refine RG.pv rfl (PV.lss rfl rfl rfl) ?_
            refine RG.nil ?_
            refine WP.seq ?_
            refine WP.cond rfl (fun h7 => ?_) (fun h7 => ?_)
            · have h7 := of_decide_eq_true h7
              have hVl := hV.1
              refine WP.skip ?_
              refine WP.seq ?_
              refine WP.block ?_
              refine WP.seq ?_
              refine WP.region ?_
              refine RG.pv rfl (PV.mvI (.inl rfl) rfl) ?_
              refine RG.pv rfl (PV.mvI (.inr rfl) rfl) ?_
              refine RG.nil ?_
              refine WP.regionHD [.b b6] (.q 0 (.q 1 (.q 2 (.q 3 (.q 4 (.q 5 (.q 17 (.l 6 (.q 7 (.q 8 (.q 9 (.q 10 (.q 11 (.q 12 (.q 13 (.q 14 (.q 15 (.q 16 (.q 18 (.l 19 Sch.nil)))))))))))))))))))) (by kernel_rfl) (by kernel_rfl) (by kernel_rfl) rfl ?_
              refine RH.pv rfl (fun _ _ _ _ h => h) (Gh.le_refl _) PickC.pick rfl (PV.mvI (.inl rfl) rfl) ?_
              refine RH.pv rfl (fun _ _ _ _ h => h) (Gh.le_refl _) PickC.pick rfl (PV.mvI (.inl rfl) rfl) ?_
              refine RH.pv rfl (fun _ _ _ _ h => h) (Gh.le_refl _) PickC.pick rfl (PV.mvI (.inl rfl) rfl) ?_
              refine RH.pv rfl (fun _ _ _ _ h => h) (Gh.le_refl _) PickC.pick rfl (PV.mvI (.inl rfl) rfl) ?_
              refine RH.pv rfl (fun _ _ _ _ h => h) (Gh.le_refl _) PickC.pick rfl (PV.idxA (j := v) rfl Ia127 rfl rfl (by omega) (by omega)) ?_
              refine RH.pv rfl (fun _ _ _ _ h => h) (Gh.le_refl _) PickC.pick rfl (PV.idxA (j := u) rfl Ia125 rfl rfl (by omega) (by omega)) ?_
              refine RH.pv rfl (fun _ _ _ _ h => h) (Gh.le_refl _) PickC.pick rfl (PV.idxA (j := v) rfl Ia127 rfl rfl (by omega) (by omega)) ?_
              refine RH.ot rfl rfl (OT.pv (PV.loadGr rfl Sc4 rfl rfl (by omega)) ⟨Gh.le_refl _, PickC.pick, ?_⟩)
              refine RH.pv rfl (fun _ _ _ _ h => h) (Gh.le_refl _) PickC.pick rfl (PV.mvB (.inl rfl) rfl) ?_
              refine RH.gs rfl (fun _ _ _ _ h => h) (Gh.le_refl _) PickC.pick rfl rfl rfl (fun hp => (PV.mvP (.inl rfl) rfl)) ?_
              refine RH.gs rfl (fun _ _ _ _ h => h) (Gh.le_refl _) PickC.pick rfl rfl rfl (fun hp => (PV.mvI (.inl rfl) rfl)) ?_
              refine RH.gs rfl (fun _ _ _ _ h => h) (Gh.le_refl _) PickC.pick rfl rfl rfl (fun hp => (PV.mvI (.inl rfl) rfl)) ?_
              refine RH.gs rfl (fun _ _ _ _ h => h) (Gh.le_refl _) PickC.pick rfl rfl rfl (fun hp => (PV.nilc rfl (gs_t hp))) ?_
              refine RH.gs rfl (fun _ _ _ _ h => h) (Gh.le_refl _) PickC.pick rfl rfl rfl (fun hp => (PV.idxA (j := v) rfl Ia127 (gs_t hp) (gs_t hp) (by first | omega | (simp at hp; omega)) (by first | omega | (simp at hp; omega)))) ?_
              refine RH.gs rfl (fun _ _ _ _ h => h) (Gh.le_refl _) PickC.pick rfl rfl rfl (fun hp => (PV.idxA (j := u) rfl Ia125 (gs_t hp) (gs_t hp) (by first | omega | (simp at hp; omega)) (by first | omega | (simp at hp; omega)))) ?_
              refine RH.gs rfl (fun _ _ _ _ h => h) (Gh.le_refl _) PickC.pick rfl rfl rfl (fun hp => (PV.loadGr rfl Sc4 (gs_t hp) rfl (by first | omega | (simp at hp; omega)))) ?_
              refine RH.gs rfl (fun _ _ _ _ h => h) (Gh.le_refl _) PickC.pick rfl rfl rfl (fun hp => (PV.not rfl (gs_t hp))) ?_
              refine RH.pv rfl (fun _ _ _ _ h => h) (Gh.le_refl _) PickC.pick rfl (PV.pickA rfl rfl (fun hq => gs_t (geqT hq)) rfl) ?_
              refine RH.pv rfl (fun _ _ _ _ h => h) (Gh.le_refl _) PickC.pick rfl (PV.idxA (j := u) rfl Ia125 rfl rfl (by omega) (by omega)) ?_
              refine RH.ot rfl rfl (OT.storeGr rfl Sz4 rfl rfl rfl (by first | omega | (simp; omega)) ⟨Gh.le_refl _, PickC.pick, ?_⟩)
              refine RH.nil ?_
              refine WP.region ?_
              refine RG.pv rfl (PV.add rfl rfl rfl (by omega)) ?_
              refine RG.pv rfl (PV.mvI (.inl rfl) rfl) ?_
              refine RG.nil ?_
              exact ⟨rfl, u + 1, (V.set (0 + v * 80 + u * 1) (gd V (0 + v * 80 + u * 1) && !gd (compB T1 (cel (y * 80 + x))) (0 + v * 80 + u * 1))), ⟨by omega, hV.step (by omega) (by omega) (by omega)⟩, ⟨rfl, trivial⟩, ⟨rfl, rfl, rfl, rfl, rfl, rfl, rfl, rfl, rfl, trivial⟩, Cv.p, by omega⟩
            · have h7 := of_decide_eq_false h7
              obtain rfl : u = 80 := by omega
              refine WP.exit ?_
              refine WP.region ?_
              refine RG.pv rfl (PV.add rfl rfl rfl (by omega)) ?_
              refine RG.pv rfl (PV.mvI (.inl rfl) rfl) ?_
              refine RG.nil ?_
              exact ⟨rfl, v + 1, V, ⟨by omega, by rw [Nat.add_mul]; exact hV⟩, ⟨rfl, trivial⟩, ⟨rfl, rfl, rfl, rfl, rfl, rfl, rfl, trivial⟩, Cv.p, by omega⟩
          · have h6 := of_decide_eq_false h6
            obtain rfl : v = 80 := by omega
            refine WP.exit ?_
            refine WP.region ?_
            refine RG.pv rfl (PV.move (v := q1) rfl rfl) ?_
            refine RG.pv rfl (PV.mvP (.inl rfl) rfl) ?_
            refine RG.callF (vs := [_]) rfl rfl En95 rfl (region_s hlc (fun v61 => ?_))
            refine RG.ot rfl (OT.bslice (F := (slT (α := Rect))) (els := [⟨v61, canon (compB T1 (cel (y * 80 + x)))⟩]) rfl El32 rfl (by decide) rfl (by decide) ⟨rfl, (Cl.s (v := v61) SlF.o), trivial⟩ fun v62 => ?_)
            refine RG.ot rfl (OT.append (v := q1) (u := v62) (F := (slT (α := Rect))) rfl El32 rfl (by decide) rfl rfl Rs.o (OneL.one (OneC.sl SlF.o OneC.nil)) rfl (by first | omega | (simp <;> omega)) fun v63 => ?_)
            refine RG.pv rfl (PV.asg (v := v63) rfl rfl) ?_
            refine RG.nil ?_
            refine WP.region ?_
            refine RG.pv rfl (PV.add rfl rfl rfl (by omega)) ?_
            refine RG.pv rfl (PV.mvI (.inl rfl) rfl) ?_
            refine RG.nil ?_
            refine ⟨rfl, x + 1, U, (zs1 ++ [⟨v61, canon (compB T1 (cel (y * 80 + x)))⟩]), v63, ⟨by omega, ?_⟩, ⟨rfl, rfl, trivial⟩, ⟨rfl, rfl, rfl, rfl, trivial⟩, ((Cv.p (C := osl 71 rectT v61 (canon (compB T1 (cel (y * 80 + x)))) :: bagS 71 rectT zs1 :: grd b6 U :: osl 28 slT v63 (zs1 ++ [⟨v61, canon (compB T1 (cel (y * 80 + x)))⟩]) :: grd b S :: L)).trans (Cv.bagS_add.trans Cv.p)), by omega⟩
            rw [er, List.map_append]
            exact hP1.take (by omega) (by rw [e1, e2]; exact h5) hU.1 hU.final
      · have h3 := of_decide_eq_false h3
        obtain rfl : x = 80 := by omega
        refine WP.exit ?_
        refine WP.region ?_
        refine RG.pv rfl (PV.add rfl rfl rfl (by omega)) ?_
        refine RG.pv rfl (PV.mvI (.inl rfl) rfl) ?_
        refine RG.nil ?_
        exact ⟨rfl, y + 1, T1, zs1, q1, ⟨by omega, by rw [Nat.add_mul]; exact hP1⟩, ⟨rfl, rfl, trivial⟩, ⟨rfl, rfl, trivial⟩, Cv.p, by omega⟩
    · have h2 := of_decide_eq_false h2
      obtain rfl : y = 80 := by omega
      have hz := hP.final
      refine WP.exit ?_
      refine WP.seq ?_
      refine WP.region ?_
      refine RG.pv rfl (PV.move (v := q) rfl rfl) ?_
      refine RG.callF (vs := [q, _]) rfl rfl En223 rfl (sorted_rss (cf := fun i j => cmpR (gd (gd zs i).xs 0) (gd (gd zs j).xs 0)) (parts_len hz) Rs.o (fun i j hi hj => CB.mk0 En224 fun L' R c k => partsCmp_s (Rs.cv c (RsE.o i hi)) (Rs.cv c (RsE.o j hj)) (parts_ne hz hi) (parts_ne hz hj) k) (fun i j hij hj => parts_lt hz hij hj) ?_)
      refine RG.nil ?_
      refine WP.seq ?_
      refine WP.region ?_
      refine RG.pv rfl (PV.move (v := q) rfl rfl) ?_
      refine RG.pv rfl (PV.asg (v := q) rfl rfl) ?_
      refine RG.nil ?_
      refine WP.ret ?_
      exact ⟨_, _, ResV.one rfl rfl, Cv.p, k q zs hz⟩
end Go.Proofs.YtpjajhjcbcfplaaGreat
namespace Go.Proofs.YtpjajhjcbcfplaaGreat
set_option linter.unusedVariables false
set_option linter.unusedSimpArgs false
open Go
set_option maxRecDepth 20000
set_option linter.unusedSimpArgs false
set_option linter.unusedVariables false
variable {G : Gh} {L : List Ch} {R : Value → Gh → List Ch → Prop}
theorem wpAnyH_mono {P : Program} {md : Region.Mode} {ops : Array Oper} {Q : Exit → Act → World → Prop} {S S' : World → Prop} (h : ∀ w, S' w → S w) : ∀ (fuel : Nat) (ls : Array Bool) (a : Act) (w : World), wpAnyH P md ops Q S' fuel ls a w → wpAnyH P md ops Q S fuel ls a w
  | 0, _, _, _, k => k
  | fuel + 1, _, _, _, k => ⟨k.1, fun i hi => wpOp_mono (fun a' w' k' => ⟨h w' k'.1, wpAnyH_mono h fuel _ a' w' k'.2⟩) (k.2 i hi)⟩
/-- a fresh chunk is held from here on -/
theorem RH.up1 {P : Program} {n : Nat} {ops : Array Oper} {Q : Post} {σ : Nat → Value} {G G0 : Gh} {L C0 : List Ch} {r : Sch} {c : Ch} (k : RH P n ops G0 (c :: C0) r Q σ G (c :: L)) : RH P n ops G0 C0 r Q σ G (c :: L) :=
  RH.of fun h1 h2 ls a w hb ha hs => wpAnyH_mono (fun w' hs' => hs'.pick (.drop _ (.refl _))) _ _ _ _ (k.run h1 h2 hb ha hs)
theorem components_s {v : Value} {xs : List Rect} (h1 : Rs G L rectT v xs) (k : ∀ v zs, er zs = partsL (bits xs) → R v G (osl 28 slT v zs :: bagS 71 rectT zs :: L)) : CallT Tryz.prog 178 #[v] G L R := by
  refine CallT.enter (args := _) Tryz.func178 rfl rfl (by kernel_rfl) rfl ?_
  refine WP.seq ?_
  refine WP.region ?_
  refine RG.pv rfl (PV.asg rfl rfl) ?_
  refine RG.nil ?_
  refine WP.seq ?_
  refine WP.region ?_
  refine RG.pv rfl (PV.move (v := v) rfl rfl) ?_
  refine RG.callF (vs := [v]) rfl rfl En94 rfl (cellsOf_s (Rs.up h1) (fun b7 => ?_))
  refine RG.callF (vs := [_, _]) rfl rfl En207 rfl (CallT.exB (parts_s (bits_length _) (fun v8 ps8 hp8 => ?_)))
  refine RG.pv rfl (PV.asg rfl rfl) ?_
  refine RG.nil ?_
  refine WP.ret ?_
  exact ⟨_, _, ResV.one rfl rfl, Cv.p, k v8 ps8 hp8⟩
theorem l17At_s {x y : Int} (hx : -40 ≤ x ∧ x ≤ 40) (hy : -40 ≤ y ∧ y ≤ 40) (k : R (vi ((y + 40) * 80 + x + 40)) G L) : CallT Tryz.prog 169 #[vi x, vi y] G L R := by
  refine CallT.enter (args := _) Tryz.func169 rfl rfl (by kernel_rfl) rfl ?_
  refine WP.seq ?_
  refine WP.region ?_
  refine RG.pv rfl (PV.mvI (.inr rfl) rfl) ?_
  refine RG.nil ?_
  refine WP.seq ?_
  refine WP.region ?_
  refine RG.pv rfl (PV.mvI (.inl rfl) rfl) ?_
  refine RG.pv rfl (PV.add rfl rfl rfl (by omega)) ?_
  refine RG.pv rfl (PV.mul rfl rfl rfl (by omega)) ?_
  refine RG.pv rfl (PV.mvI (.inl rfl) rfl) ?_
  refine RG.pv rfl (PV.add rfl rfl rfl (by omega)) ?_
  refine RG.pv rfl (PV.add rfl rfl rfl (by omega)) ?_
  refine RG.pv rfl (PV.mvI (.inr rfl) rfl) ?_
  refine RG.nil ?_
  refine WP.ret ?_
  exact ⟨_, _, ResV.one rfl rfl, Cv.p, k⟩
theorem l17Inside_s {x y : Int} (k : R (.bool (decide (-40 ≤ x ∧ x < 40) && decide (-40 ≤ y ∧ y < 40))) G L) : CallT Tryz.prog 170 #[vi x, vi y] G L R := by
  have e : (decide (-40 ≤ x ∧ x < 40) && decide (-40 ≤ y ∧ y < 40)) = (decide (x ≥ -40) && decide (x < 40) && decide (y ≥ -40) && decide (y < 40)) := by rw [Bool.eq_iff_iff]; simp; omega
  rw [e] at k
  refine CallT.enter (args := _) Tryz.func170 rfl rfl (by kernel_rfl) rfl ?_
  refine WP.seq ?_
  refine WP.region ?_
  refine RG.pv rfl (PV.mvB (.inr rfl) rfl) ?_
  refine RG.nil ?_
  refine WP.seq ?_
  refine WP.region ?_
  refine RG.pv rfl (PV.mvI (.inl rfl) rfl) ?_
  refine RG.pv rfl (PV.geq rfl rfl rfl) ?_
  refine RG.pv rfl (PV.mvB (.inl rfl) rfl) ?_
  refine RG.gs rfl rfl rfl (fun hp => (PV.mvI (.inl rfl) rfl)) ?_
  refine RG.gs rfl rfl rfl (fun hp => (PV.lss rfl (gs_t hp) rfl)) ?_
  refine RG.pv rfl (PV.pickA rfl rfl (fun hq => gs_t (geqT hq)) rfl) ?_
  refine RG.pv rfl (PV.mvB (.inl rfl) rfl) ?_
  refine RG.gs rfl rfl rfl (fun hp => (PV.mvI (.inl rfl) rfl)) ?_
  refine RG.gs rfl rfl rfl (fun hp => (PV.geq rfl (gs_t hp) rfl)) ?_
  refine RG.pv rfl (PV.pickA rfl rfl (fun hq => gs_t (geqT hq)) rfl) ?_
  refine RG.pv rfl (PV.mvB (.inl rfl) rfl) ?_
  refine RG.gs rfl rfl rfl (fun hp => (PV.mvI (.inl rfl) rfl)) ?_
  refine RG.gs rfl rfl rfl (fun hp => (PV.lss rfl (gs_t hp) rfl)) ?_
  refine RG.pv rfl (PV.pickA rfl rfl (fun hq => gs_t (geqT hq)) rfl) ?_
  refine RG.pv rfl (PV.mvB (.inr rfl) rfl) ?_
  refine RG.nil ?_
  refine WP.ret ?_
  exact ⟨_, _, ResV.one rfl rfl, Cv.p, k⟩
theorem l17Cell_s {v : Value} {S : List Bool} {x y : Int} (h1 : Rs G L boolT v S) (hS : S.length = 6400) (k : R (.bool ((decide (-40 ≤ x ∧ x < 40) && decide (-40 ≤ y ∧ y < 40)) && gd S ((y + 40) * 80 + x + 40).toNat)) G L) : CallT Tryz.prog 195 #[v, vi x, vi y] G L R := by
  refine CallT.enter (args := _) Tryz.func195 rfl rfl (by kernel_rfl) rfl ?_
  refine WP.seq ?_
  refine WP.region ?_
  refine RG.pv rfl (PV.mvB (.inr rfl) rfl) ?_
  refine RG.nil ?_
  refine WP.seq ?_
  refine WP.region ?_
  refine RG.pv rfl (PV.mvI (.inl rfl) rfl) ?_
  refine RG.pv rfl (PV.mvI (.inl rfl) rfl) ?_
  refine RG.callF (vs := [_, _]) rfl rfl En170 rfl (l17Inside_s ?_)
  refine RG.pv rfl (PV.mvB (.inl rfl) rfl) ?_
  refine RG.gs rfl rfl rfl (fun hp => (PV.move (v := v) rfl rfl)) ?_
  refine RG.gs rfl rfl rfl (fun hp => (PV.mvI (.inl rfl) rfl)) ?_
  refine RG.gs rfl rfl rfl (fun hp => (PV.mvI (.inl rfl) rfl)) ?_
  refine RG.gsC rfl rfl rfl rfl En169 (fun hp => ⟨_, (acons (gs_t hp) (acons (gs_t hp) anil)), l17At_s (by simp at hp <;> omega) (by simp at hp <;> omega) ⟨rfl, rfl, rfl⟩⟩) ?_
  refine RG.gs rfl rfl rfl (fun hp => (PV.idxS (j := ((y + 40) * 80 + x + 40).toNat) (v := v) rfl Is111 (gs_t hp) (SlF.r h1) (gs_t hp) (by first | omega | (simp at hp; omega)) (by first | omega | (simp at hp; omega)))) ?_
  refine RG.gs rfl rfl rfl (fun hp => (PV.loadE1 rfl Sc4 (gs_t hp) rfl (El.r h1 (getG (by first | omega | (simp at hp; omega)))) rfl)) ?_
  refine RG.pv rfl (PV.pickA rfl rfl (fun hq => gs_t (geqT hq)) rfl) ?_
  refine RG.pv rfl (PV.mvB (.inr rfl) rfl) ?_
  refine RG.nil ?_
  refine WP.ret ?_
  exact ⟨_, _, ResV.one rfl rfl, Cv.p, k⟩
def ptOf (q : Int × Int) : Pt := ⟨q.1 - 40, q.2 - 40⟩
theorem gd_pt {Q : List (Int × Int)} {i : Nat} (h : i < Q.length) : gd (Q.map ptOf) i = ptOf (gd Q i) := by
  rw [gd_eq h, gd_eq (by simpa using h)]; simp
theorem visit_s {v : Value} {S : List Bool} {x y : Int} (h1 : Rs G L boolT v S) (hS : S.length = 6400) (hx : 0 ≤ x ∧ x < 80) (hy : 0 ≤ y ∧ y < 80) (hon : gb S y.toNat x.toNat = true)
    (k : ∀ v' Q, FI S (y.toNat, x.toNat) (compB S (y.toNat, x.toNat)) Q → R v' G (osl 168 ptT v' (Q.map ptOf) :: L)) : CallT Tryz.prog 171 #[v, vi (x - 40), vi (y - 40)] G L R := by
  have hst := FI.start (S := S) hx hy
  have hseed : On S (y.toNat, x.toNat) := ⟨by simp only; omega, by simp only; omega, hon⟩
  have hrl : (List.replicate S.length false).length = 6400 := by simp [hS]
  refine CallT.enter (args := _) Tryz.func171 rfl rfl (by kernel_rfl) rfl ?_
  refine WP.seq ?_
  refine WP.region ?_
  refine RG.pv rfl (PV.asg rfl rfl) ?_
  refine RG.nil ?_
  refine WP.seq ?_
  refine WP.region ?_
  refine RG.pv rfl (PV.move (v := v) rfl rfl) ?_
  refine RG.pv rfl (PV.len (v := v) rfl Tryz.underlying111 rfl (SlF.r h1)) ?_
  refine RG.ot rfl (OT.make (F := boolT) (a0 := false) rfl El111 rfl (by decide) rfl rfl (by omega) (by omega) fun v14 => ?_)
  refine RG.pv rfl (PV.asg (v := v14) rfl rfl) ?_
  refine RG.nil ?_
  refine WP.seq ?_
  refine WP.region ?_
  refine RG.pv rfl (PV.move (v := v14) rfl rfl) ?_
  refine RG.pv rfl (PV.mvI (.inl rfl) rfl) ?_
  refine RG.pv rfl (PV.mvI (.inl rfl) rfl) ?_
  refine RG.callF (vs := [_, _]) rfl rfl En169 rfl (l17At_s (by first | omega | (simp at hp; omega)) (by first | omega | (simp at hp; omega)) ?_)
  refine RG.pv rfl (PV.idxS (j := y.toNat * 80 + x.toNat) (v := v14) rfl Is111 rfl SlF.o rfl (by omega) (by omega)) ?_
  refine RG.ot rfl (OT.storeE (F := boolT) rfl Sz4 rfl rfl rfl (Cl.c rfl) (OneC.c rfl) (by omega) ?_)
  refine RG.nil ?_
  refine WP.seq ?_
  refine WP.region ?_
  refine RG.pv rfl (PV.mvI (.inl rfl) rfl) ?_
  refine RG.pv rfl (PV.mvI (.inl rfl) rfl) ?_
  refine RG.pv rfl (PV.build (vs := [(0, [vi _]), (1, [vi _])]) (out := [_, _]) rfl Zr168 Pl168 ⟨rfl, (Cl.c rfl), ⟨rfl, (Cl.c rfl), trivial⟩⟩ rfl) ?_
  refine RG.ot rfl (OT.bslice (F := ptT) (els := [⟨_, _⟩]) rfl El165 rfl (by decide) rfl (by decide) ⟨rfl, (Cl.c rfl), trivial⟩ fun v23 => ?_)
  refine RG.pv rfl (PV.asg (v := v23) rfl rfl) ?_
  refine RG.nil ?_
  refine WP.seq ?_
  refine WP.seq ?_
  refine WP.region ?_
  refine RG.pv rfl (PV.mvI (.inr rfl) rfl) ?_
  refine RG.nil ?_
  refine WP.block ?_
  refine WP.cv ((Cv.p (C := osl 4 boolT v14 ((List.replicate S.length false).set (y.toNat * 80 + x.toNat) true) :: osl 168 ptT v23 [⟨x - 40, y - 40⟩] :: L)).trans (Cv.cast (L' := osl 4 boolT v14 ((List.replicate 6400 false).set (y.toNat * 80 + x.toNat) true) :: osl 168 ptT v23 ([(x, y)].map ptOf) :: L) (by rw [hS]; rfl))) ?_
  refine WP.loop4 [0, 7] (fun (i : Nat) (Q : List (Int × Int)) (O : List Bool) (qv : Value) => i ≤ Q.length ∧ FI S (y.toNat, x.toNat) O Q ∧ Done S O Q i ∧ On O (y.toNat, x.toNat)) (fun (i : Nat) (Q : List (Int × Int)) (O : List Bool) (qv : Value) => [(9, vi i), (8, qv)]) (fun (i : Nat) (Q : List (Int × Int)) (O : List Bool) (qv : Value) => osl 4 boolT v14 O :: osl 168 ptT qv (Q.map ptOf) :: L) (fun (i : Nat) (Q : List (Int × Int)) (O : List Bool) (qv : Value) => 6401 - i) 0 [(x, y)] ((List.replicate 6400 false).set (y.toNat * 80 + x.toNat) true) v23 ⟨by simp, hst, fun m hm => by omega, by have := hst.on 0 (by simp); simpa [gd, qc] using this⟩ ⟨rfl, rfl, trivial⟩ Cv.p ?_
  rintro i Q O qv τ ⟨hi, hF, hD, h0⟩
  refine WP.seq ?_
  refine WP.seq ?_
  refine WP.region ?_
  refine RG.pv rfl (PV.mvI (.inl rfl) rfl) ?_
  refine RG.pv rfl (PV.move (v := qv) rfl rfl) ?_
  refine RG.pv rfl (PV.len (v := qv) rfl Tryz.underlying165 rfl SlF.o) ?_
  refine RG.pv rfl (PV.lss rfl rfl rfl) ?_
  refine RG.nil ?_
  have hml : (Q.map ptOf).length = Q.length := by simp
  refine WP.cond rfl (fun h2 => ?_) (fun h2 => ?_)
  · have h2 := of_decide_eq_true h2
    have hQ := hF.len_le
    have hb := hF.bd i (by omega)
    refine WP.skip ?_
    refine WP.seq ?_
    refine WP.block ?_
    refine WP.seq ?_
    refine WP.region ?_
    refine RG.pv rfl (PV.mvI (.inr rfl) rfl) ?_
    refine RG.nil ?_
    refine WP.block ?_
    refine WP.loop4 [0, 7, 9] (fun (d : Nat) (Q1 : List (Int × Int)) (O1 : List Bool) (qv1 : Value) => d ≤ 4 ∧ FI S (y.toNat, x.toNat) O1 Q1 ∧ Done S O1 Q1 i ∧ On O1 (y.toNat, x.toNat) ∧ i < Q1.length ∧ gd Q1 i = gd Q i ∧ Near4 S O1 (qc (gd Q i)) d) (fun (d : Nat) (Q1 : List (Int × Int)) (O1 : List Bool) (qv1 : Value) => [(10, vi d), (8, qv1)]) (fun (d : Nat) (Q1 : List (Int × Int)) (O1 : List Bool) (qv1 : Value) => osl 4 boolT v14 O1 :: osl 168 ptT qv1 (Q1.map ptOf) :: L) (fun (d : Nat) (Q1 : List (Int × Int)) (O1 : List Bool) (qv1 : Value) => 4 - d) 0 Q O qv ⟨by omega, hF, hD, h0, by omega, rfl, Near4.zero _ _ _⟩ ⟨rfl, rfl, trivial⟩ Cv.p ?_
    rintro d Q1 O1 qv1 τ1 ⟨hd, hF1, hD1, h01, hi1, hq1, hN1⟩
    refine WP.seq ?_
    refine WP.seq ?_
    refine WP.region ?_
    refine RG.pv rfl (PV.mvI (.inl rfl) rfl) ?_
    refine RG.pv rfl (PV.lss rfl rfl rfl) ?_
    refine RG.nil ?_
    have hml1 : (Q1.map ptOf).length = Q1.length := by simp
    refine WP.cond rfl (fun h3 => ?_) (fun h3 => ?_)
    · have h3 := of_decide_eq_true h3
      have hl1 := hF1.len
      have hQ1 := hF1.len_le
      have hb1 : 0 ≤ (gd Q1 i).1 ∧ (gd Q1 i).1 < 80 ∧ 0 ≤ (gd Q1 i).2 ∧ (gd Q1 i).2 < 80 := by rw [hq1]; exact hb
      have e1 : gd (Q1.map ptOf) i = ⟨(gd Q1 i).1 - 40, (gd Q1 i).2 - 40⟩ := gd_pt hi1
      have ex : (gd (Q1.map ptOf) i).x = (gd Q1 i).1 - 40 := by rw [e1]
      have ey : (gd (Q1.map ptOf) i).y = (gd Q1 i).2 - 40 := by rw [e1]
      have hdx : -1 ≤ gd [1, -1, 0, 0] d ∧ gd [1, -1, 0, 0] d ≤ (1 : Int) := dX_le d
      have hdy : -1 ≤ gd [0, 0, 1, -1] d ∧ gd [0, 0, 1, -1] d ≤ (1 : Int) := dY_le d
      have hn4 : ([1, -1, 0, 0] : List Int).length = 4 := rfl
      have hn4' : ([0, 0, 1, -1] : List Int).length = 4 := rfl
      refine WP.skip ?_
      refine WP.seq ?_
      refine WP.block ?_
      refine WP.cut1 [0, 7, 8, 9, 10] (fun (b11 : Nat) => True) (fun (b11 : Nat) => [(11, .pointer (some ⟨b11, 0, none⟩))]) (fun (b11 : Nat) => blk b11 168 [vi ((gd Q1 i).1 - 40 + dX d), vi ((gd Q1 i).2 - 40 + dY d)] :: osl 4 boolT v14 O1 :: osl 168 ptT qv1 (Q1.map ptOf) :: L) ?_ ?_
      refine WP.regionH0 (.q 0 (.q 1 (.q 2 (.q 3 (.q 4 (.q 6 (.q 10 (.q 11 (.q 12 (.q 13 (.q 14 (.q 16 (.c 5 (.q 7 (.q 8 (.q 9 (.b 15 (.q 17 (.q 18 (.q 19 (.q 20 (.l 21 (.l 22 Sch.nil)))))) 21 (.l 15 (.q 17 (.q 18 (.q 19 (.q 20 (.l 22 Sch.nil)))))))))) 15 (.q 17 (.q 18 (.q 19 (.b 5 (.q 7 (.q 8 (.q 9 (.q 20 (.l 21 (.l 22 Sch.nil)))))) 21 (.l 5 (.q 7 (.q 8 (.q 9 (.q 20 (.l 22 Sch.nil)))))))))) 21 (.b 5 (.q 7 (.q 8 (.q 9 (.l 15 (.q 17 (.q 18 (.q 19 (.q 20 (.l 22 Sch.nil))))))))) 15 (.q 17 (.q 18 (.q 19 (.l 5 (.q 7 (.q 8 (.q 9 (.q 20 (.l 22 Sch.nil))))))))))))))))))))))) (by kernel_rfl) (by kernel_rfl) (by kernel_rfl) rfl ?_
      refine RH.pv rfl (fun _ _ _ _ h => h) (Gh.le_refl _) PickC.pick rfl (PV.move (v := qv1) rfl rfl) ?_
      refine RH.pv rfl (fun _ _ _ _ h => h) (Gh.le_refl _) PickC.pick rfl (PV.mvI (.inl rfl) rfl) ?_
      refine RH.pv rfl (fun _ _ _ _ h => h) (Gh.le_refl _) PickC.pick rfl (PV.idxS (v := qv1) rfl Is165 rfl SlF.o rfl rfl (by omega)) ?_
      refine RH.pv rfl (fun _ _ _ _ h => h) (Gh.le_refl _) PickC.pick rfl (PV.field rfl Fo168_0 rfl) ?_
      refine RH.pv rfl (fun _ _ _ _ h => h) (Gh.le_refl _) PickC.pick rfl (PV.loadF (v := qv1) (j := 0) rfl Sc2 rfl rfl (El.o (getG (by omega))) rfl) ?_
      refine RH.pv rfl (fun _ _ _ _ h => h) (Gh.le_refl _) PickC.pick rfl (PV.mvI (.inl rfl) rfl) ?_
      refine RH.pv rfl (fun _ _ _ _ h => h) (Gh.le_refl _) PickC.pick rfl (PV.move (v := qv1) rfl rfl) ?_
      refine RH.pv rfl (fun _ _ _ _ h => h) (Gh.le_refl _) PickC.pick rfl (PV.mvI (.inl rfl) rfl) ?_
      refine RH.pv rfl (fun _ _ _ _ h => h) (Gh.le_refl _) PickC.pick rfl (PV.idxS (v := qv1) rfl Is165 rfl SlF.o rfl rfl (by omega)) ?_
      refine RH.pv rfl (fun _ _ _ _ h => h) (Gh.le_refl _) PickC.pick rfl (PV.field rfl Fo168_1 rfl) ?_
      refine RH.pv rfl (fun _ _ _ _ h => h) (Gh.le_refl _) PickC.pick rfl (PV.loadF rfl Sc2 rfl rfl (El.o (getG (by omega))) rfl) ?_
      refine RH.pv rfl (fun _ _ _ _ h => h) (Gh.le_refl _) PickC.pick rfl (PV.mvI (.inl rfl) rfl) ?_
      · refine RH.ot3 rfl rfl rfl rfl rfl rfl  (OT.bslice (F := intT) (els := [_, _, _, _]) rfl El83 rfl (by decide) rfl (by decide) ⟨rfl, (Cl.c rfl), ⟨rfl, (Cl.c rfl), ⟨rfl, (Cl.c rfl), ⟨rfl, (Cl.c rfl), trivial⟩⟩⟩⟩ fun v39 => ⟨Gh.le_refl _, PickC.pick, ?_⟩) (OT.bslice (F := intT) (els := [_, _, _, _]) rfl El83 rfl (by decide) rfl (by decide) ⟨rfl, (Cl.c rfl), ⟨rfl, (Cl.c rfl), ⟨rfl, (Cl.c rfl), ⟨rfl, (Cl.c rfl), trivial⟩⟩⟩⟩ fun v49 => ⟨Gh.le_refl _, PickC.pick, ?_⟩) (OT.alloc rfl Zr168 fun b11 => ⟨Gh.le_refl _, PickC.pick, ?_⟩)
        · refine RH.up1 ?_
          refine RH.pv rfl (fun _ _ _ _ h => h) (Gh.le_refl _) PickC.pick rfl (PV.idxS (v := v39) rfl Is83 rfl SlF.o rfl rfl (by omega)) ?_
          refine RH.pv rfl (fun _ _ _ _ h => h) (Gh.le_refl _) PickC.pick rfl (PV.loadE1 rfl Sc2 rfl rfl (El.o (getG (by omega))) rfl) ?_
          refine RH.pv rfl (fun _ _ _ _ h => h) (Gh.le_refl _) PickC.pick rfl (PV.add rfl rfl rfl (by omega)) ?_
          refine RH.ot2 rfl rfl rfl rfl  (OT.bslice (F := intT) (els := [_, _, _, _]) rfl El83 rfl (by decide) rfl (by decide) ⟨rfl, (Cl.c rfl), ⟨rfl, (Cl.c rfl), ⟨rfl, (Cl.c rfl), ⟨rfl, (Cl.c rfl), trivial⟩⟩⟩⟩ fun v49 => ⟨Gh.le_refl _, PickC.pick, ?_⟩) (OT.alloc rfl Zr168 fun b11 => ⟨Gh.le_refl _, PickC.pick, ?_⟩)
          · refine RH.up1 ?_
            refine RH.pv rfl (fun _ _ _ _ h => h) (Gh.le_refl _) PickC.pick rfl (PV.idxS (v := v49) rfl Is83 rfl SlF.o rfl rfl (by omega)) ?_
            refine RH.pv rfl (fun _ _ _ _ h => h) (Gh.le_refl _) PickC.pick rfl (PV.loadE1 rfl Sc2 rfl rfl (El.o (getG (by omega))) rfl) ?_
            refine RH.pv rfl (fun _ _ _ _ h => h) (Gh.le_refl _) PickC.pick rfl (PV.add rfl rfl rfl (by omega)) ?_
            refine RH.pv rfl (fun _ _ _ _ h => h) (Gh.le_refl _) PickC.pick rfl (PV.build (vs := [(0, [vi _]), (1, [vi _])]) (out := [_, _]) rfl Zr168 Pl168 ⟨rfl, (Cl.c rfl), ⟨rfl, (Cl.c rfl), trivial⟩⟩ rfl) ?_
            refine RH.ot rfl rfl (OT.alloc rfl Zr168 fun b11 => ⟨Gh.le_refl _, PickC.pick, ?_⟩)
            refine RH.ot rfl rfl (OT.storeW (vs := [vi _, vi _]) rfl Sz168 rfl rfl (Cl.c rfl) rfl rfl (OneC.c rfl) ⟨Gh.le_refl _, PickC.pick, ?_⟩)
            refine RH.nil ?_
            exact ⟨rfl, b11, trivial, ⟨rfl, trivial⟩, ⟨rfl, rfl, rfl, rfl, rfl, trivial⟩, (Cv.p (C := blk b11 168 [vi ((gd (Q1.map ptOf) i).x + gd [1, -1, 0, 0] d), vi ((gd (Q1.map ptOf) i).y + gd [0, 0, 1, -1] d)] :: osl 4 boolT v14 O1 :: osl 168 ptT qv1 (Q1.map ptOf) :: L)).trans (Cv.cast (by rw [ex, ey]; rfl))⟩
          · refine RH.ot rfl rfl (OT.bslice (F := intT) (els := [_, _, _, _]) rfl El83 rfl (by decide) rfl (by decide) ⟨rfl, (Cl.c rfl), ⟨rfl, (Cl.c rfl), ⟨rfl, (Cl.c rfl), ⟨rfl, (Cl.c rfl), trivial⟩⟩⟩⟩ fun v49 => ⟨Gh.le_refl _, PickC.pick, ?_⟩)
            refine RH.up1 ?_
            refine RH.pv rfl (fun _ _ _ _ h => h) (Gh.le_refl _) PickC.pick rfl (PV.idxS (v := v49) rfl Is83 rfl SlF.o rfl rfl (by omega)) ?_
            refine RH.pv rfl (fun _ _ _ _ h => h) (Gh.le_refl _) PickC.pick rfl (PV.loadE1 rfl Sc2 rfl rfl (El.o (getG (by omega))) rfl) ?_
            refine RH.pv rfl (fun _ _ _ _ h => h) (Gh.le_refl _) PickC.pick rfl (PV.add rfl rfl rfl (by omega)) ?_
            refine RH.pv rfl (fun _ _ _ _ h => h) (Gh.le_refl _) PickC.pick rfl (PV.build (vs := [(0, [vi _]), (1, [vi _])]) (out := [_, _]) rfl Zr168 Pl168 ⟨rfl, (Cl.c rfl), ⟨rfl, (Cl.c rfl), trivial⟩⟩ rfl) ?_
            refine RH.ot rfl rfl (OT.storeW (vs := [vi _, vi _]) rfl Sz168 rfl rfl (Cl.c rfl) rfl rfl (OneC.c rfl) ⟨Gh.le_refl _, PickC.pick, ?_⟩)
            refine RH.nil ?_
            exact ⟨rfl, b11, trivial, ⟨rfl, trivial⟩, ⟨rfl, rfl, rfl, rfl, rfl, trivial⟩, (Cv.p (C := blk b11 168 [vi ((gd (Q1.map ptOf) i).x + gd [1, -1, 0, 0] d), vi ((gd (Q1.map ptOf) i).y + gd [0, 0, 1, -1] d)] :: osl 4 boolT v14 O1 :: osl 168 ptT qv1 (Q1.map ptOf) :: L)).trans (Cv.cast (by rw [ex, ey]; rfl))⟩
        · refine RH.up1 ?_
          refine RH.pv rfl (fun _ _ _ _ h => h) (Gh.le_refl _) PickC.pick rfl (PV.idxS (v := v49) rfl Is83 rfl SlF.o rfl rfl (by omega)) ?_
          refine RH.pv rfl (fun _ _ _ _ h => h) (Gh.le_refl _) PickC.pick rfl (PV.loadE1 rfl Sc2 rfl rfl (El.o (getG (by omega))) rfl) ?_
          refine RH.pv rfl (fun _ _ _ _ h => h) (Gh.le_refl _) PickC.pick rfl (PV.add rfl rfl rfl (by omega)) ?_
          refine RH.ot2 rfl rfl rfl rfl  (OT.bslice (F := intT) (els := [_, _, _, _]) rfl El83 rfl (by decide) rfl (by decide) ⟨rfl, (Cl.c rfl), ⟨rfl, (Cl.c rfl), ⟨rfl, (Cl.c rfl), ⟨rfl, (Cl.c rfl), trivial⟩⟩⟩⟩ fun v39 => ⟨Gh.le_refl _, PickC.pick, ?_⟩) (OT.alloc rfl Zr168 fun b11 => ⟨Gh.le_refl _, PickC.pick, ?_⟩)
          · refine RH.up1 ?_
            refine RH.pv rfl (fun _ _ _ _ h => h) (Gh.le_refl _) PickC.pick rfl (PV.idxS (v := v39) rfl Is83 rfl SlF.o rfl rfl (by omega)) ?_
            refine RH.pv rfl (fun _ _ _ _ h => h) (Gh.le_refl _) PickC.pick rfl (PV.loadE1 rfl Sc2 rfl rfl (El.o (getG (by omega))) rfl) ?_
            refine RH.pv rfl (fun _ _ _ _ h => h) (Gh.le_refl _) PickC.pick rfl (PV.add rfl rfl rfl (by omega)) ?_
            refine RH.pv rfl (fun _ _ _ _ h => h) (Gh.le_refl _) PickC.pick rfl (PV.build (vs := [(0, [vi _]), (1, [vi _])]) (out := [_, _]) rfl Zr168 Pl168 ⟨rfl, (Cl.c rfl), ⟨rfl, (Cl.c rfl), trivial⟩⟩ rfl) ?_
            refine RH.ot rfl rfl (OT.alloc rfl Zr168 fun b11 => ⟨Gh.le_refl _, PickC.pick, ?_⟩)
            refine RH.ot rfl rfl (OT.storeW (vs := [vi _, vi _]) rfl Sz168 rfl rfl (Cl.c rfl) rfl rfl (OneC.c rfl) ⟨Gh.le_refl _, PickC.pick, ?_⟩)
            refine RH.nil ?_
            exact ⟨rfl, b11, trivial, ⟨rfl, trivial⟩, ⟨rfl, rfl, rfl, rfl, rfl, trivial⟩, (Cv.p (C := blk b11 168 [vi ((gd (Q1.map ptOf) i).x + gd [1, -1, 0, 0] d), vi ((gd (Q1.map ptOf) i).y + gd [0, 0, 1, -1] d)] :: osl 4 boolT v14 O1 :: osl 168 ptT qv1 (Q1.map ptOf) :: L)).trans (Cv.cast (by rw [ex, ey]; rfl))⟩
          · refine RH.ot rfl rfl (OT.bslice (F := intT) (els := [_, _, _, _]) rfl El83 rfl (by decide) rfl (by decide) ⟨rfl, (Cl.c rfl), ⟨rfl, (Cl.c rfl), ⟨rfl, (Cl.c rfl), ⟨rfl, (Cl.c rfl), trivial⟩⟩⟩⟩ fun v39 => ⟨Gh.le_refl _, PickC.pick, ?_⟩)
            refine RH.up1 ?_
            refine RH.pv rfl (fun _ _ _ _ h => h) (Gh.le_refl _) PickC.pick rfl (PV.idxS (v := v39) rfl Is83 rfl SlF.o rfl rfl (by omega)) ?_
            refine RH.pv rfl (fun _ _ _ _ h => h) (Gh.le_refl _) PickC.pick rfl (PV.loadE1 rfl Sc2 rfl rfl (El.o (getG (by omega))) rfl) ?_
            refine RH.pv rfl (fun _ _ _ _ h => h) (Gh.le_refl _) PickC.pick rfl (PV.add rfl rfl rfl (by omega)) ?_
            refine RH.pv rfl (fun _ _ _ _ h => h) (Gh.le_refl _) PickC.pick rfl (PV.build (vs := [(0, [vi _]), (1, [vi _])]) (out := [_, _]) rfl Zr168 Pl168 ⟨rfl, (Cl.c rfl), ⟨rfl, (Cl.c rfl), trivial⟩⟩ rfl) ?_
            refine RH.ot rfl rfl (OT.storeW (vs := [vi _, vi _]) rfl Sz168 rfl rfl (Cl.c rfl) rfl rfl (OneC.c rfl) ⟨Gh.le_refl _, PickC.pick, ?_⟩)
            refine RH.nil ?_
            exact ⟨rfl, b11, trivial, ⟨rfl, trivial⟩, ⟨rfl, rfl, rfl, rfl, rfl, trivial⟩, (Cv.p (C := blk b11 168 [vi ((gd (Q1.map ptOf) i).x + gd [1, -1, 0, 0] d), vi ((gd (Q1.map ptOf) i).y + gd [0, 0, 1, -1] d)] :: osl 4 boolT v14 O1 :: osl 168 ptT qv1 (Q1.map ptOf) :: L)).trans (Cv.cast (by rw [ex, ey]; rfl))⟩
        · refine RH.ot2 rfl rfl rfl rfl  (OT.bslice (F := intT) (els := [_, _, _, _]) rfl El83 rfl (by decide) rfl (by decide) ⟨rfl, (Cl.c rfl), ⟨rfl, (Cl.c rfl), ⟨rfl, (Cl.c rfl), ⟨rfl, (Cl.c rfl), trivial⟩⟩⟩⟩ fun v39 => ⟨Gh.le_refl _, PickC.pick, ?_⟩) (OT.bslice (F := intT) (els := [_, _, _, _]) rfl El83 rfl (by decide) rfl (by decide) ⟨rfl, (Cl.c rfl), ⟨rfl, (Cl.c rfl), ⟨rfl, (Cl.c rfl), ⟨rfl, (Cl.c rfl), trivial⟩⟩⟩⟩ fun v49 => ⟨Gh.le_refl _, PickC.pick, ?_⟩)
          · refine RH.up1 ?_
            refine RH.pv rfl (fun _ _ _ _ h => h) (Gh.le_refl _) PickC.pick rfl (PV.idxS (v := v39) rfl Is83 rfl SlF.o rfl rfl (by omega)) ?_
            refine RH.pv rfl (fun _ _ _ _ h => h) (Gh.le_refl _) PickC.pick rfl (PV.loadE1 rfl Sc2 rfl rfl (El.o (getG (by omega))) rfl) ?_
            refine RH.pv rfl (fun _ _ _ _ h => h) (Gh.le_refl _) PickC.pick rfl (PV.add rfl rfl rfl (by omega)) ?_
            refine RH.ot rfl rfl (OT.bslice (F := intT) (els := [_, _, _, _]) rfl El83 rfl (by decide) rfl (by decide) ⟨rfl, (Cl.c rfl), ⟨rfl, (Cl.c rfl), ⟨rfl, (Cl.c rfl), ⟨rfl, (Cl.c rfl), trivial⟩⟩⟩⟩ fun v49 => ⟨Gh.le_refl _, PickC.pick, ?_⟩)
            refine RH.up1 ?_
            refine RH.pv rfl (fun _ _ _ _ h => h) (Gh.le_refl _) PickC.pick rfl (PV.idxS (v := v49) rfl Is83 rfl SlF.o rfl rfl (by omega)) ?_
            refine RH.pv rfl (fun _ _ _ _ h => h) (Gh.le_refl _) PickC.pick rfl (PV.loadE1 rfl Sc2 rfl rfl (El.o (getG (by omega))) rfl) ?_
            refine RH.pv rfl (fun _ _ _ _ h => h) (Gh.le_refl _) PickC.pick rfl (PV.add rfl rfl rfl (by omega)) ?_
            refine RH.pv rfl (fun _ _ _ _ h => h) (Gh.le_refl _) PickC.pick rfl (PV.build (vs := [(0, [vi _]), (1, [vi _])]) (out := [_, _]) rfl Zr168 Pl168 ⟨rfl, (Cl.c rfl), ⟨rfl, (Cl.c rfl), trivial⟩⟩ rfl) ?_
            refine RH.ot rfl rfl (OT.storeW (vs := [vi _, vi _]) rfl Sz168 rfl rfl (Cl.c rfl) rfl rfl (OneC.c rfl) ⟨Gh.le_refl _, PickC.pick, ?_⟩)
            refine RH.nil ?_
            exact ⟨rfl, b11, trivial, ⟨rfl, trivial⟩, ⟨rfl, rfl, rfl, rfl, rfl, trivial⟩, (Cv.p (C := blk b11 168 [vi ((gd (Q1.map ptOf) i).x + gd [1, -1, 0, 0] d), vi ((gd (Q1.map ptOf) i).y + gd [0, 0, 1, -1] d)] :: osl 4 boolT v14 O1 :: osl 168 ptT qv1 (Q1.map ptOf) :: L)).trans (Cv.cast (by rw [ex, ey]; rfl))⟩
          · refine RH.up1 ?_
            refine RH.pv rfl (fun _ _ _ _ h => h) (Gh.le_refl _) PickC.pick rfl (PV.idxS (v := v49) rfl Is83 rfl SlF.o rfl rfl (by omega)) ?_
            refine RH.pv rfl (fun _ _ _ _ h => h) (Gh.le_refl _) PickC.pick rfl (PV.loadE1 rfl Sc2 rfl rfl (El.o (getG (by omega))) rfl) ?_
            refine RH.pv rfl (fun _ _ _ _ h => h) (Gh.le_refl _) PickC.pick rfl (PV.add rfl rfl rfl (by omega)) ?_
            refine RH.ot rfl rfl (OT.bslice (F := intT) (els := [_, _, _, _]) rfl El83 rfl (by decide) rfl (by decide) ⟨rfl, (Cl.c rfl), ⟨rfl, (Cl.c rfl), ⟨rfl, (Cl.c rfl), ⟨rfl, (Cl.c rfl), trivial⟩⟩⟩⟩ fun v39 => ⟨Gh.le_refl _, PickC.pick, ?_⟩)
            refine RH.up1 ?_
            refine RH.pv rfl (fun _ _ _ _ h => h) (Gh.le_refl _) PickC.pick rfl (PV.idxS (v := v39) rfl Is83 rfl SlF.o rfl rfl (by omega)) ?_
            refine RH.pv rfl (fun _ _ _ _ h => h) (Gh.le_refl _) PickC.pick rfl (PV.loadE1 rfl Sc2 rfl rfl (El.o (getG (by omega))) rfl) ?_
            refine RH.pv rfl (fun _ _ _ _ h => h) (Gh.le_refl _) PickC.pick rfl (PV.add rfl rfl rfl (by omega)) ?_
            refine RH.pv rfl (fun _ _ _ _ h => h) (Gh.le_refl _) PickC.pick rfl (PV.build (vs := [(0, [vi _]), (1, [vi _])]) (out := [_, _]) rfl Zr168 Pl168 ⟨rfl, (Cl.c rfl), ⟨rfl, (Cl.c rfl), trivial⟩⟩ rfl) ?_
            refine RH.ot rfl rfl (OT.storeW (vs := [vi _, vi _]) rfl Sz168 rfl rfl (Cl.c rfl) rfl rfl (OneC.c rfl) ⟨Gh.le_refl _, PickC.pick, ?_⟩)
            refine RH.nil ?_
            exact ⟨rfl, b11, trivial, ⟨rfl, trivial⟩, ⟨rfl, rfl, rfl, rfl, rfl, trivial⟩, (Cv.p (C := blk b11 168 [vi ((gd (Q1.map ptOf) i).x + gd [1, -1, 0, 0] d), vi ((gd (Q1.map ptOf) i).y + gd [0, 0, 1, -1] d)] :: osl 4 boolT v14 O1 :: osl 168 ptT qv1 (Q1.map ptOf) :: L)).trans (Cv.cast (by rw [ex, ey]; rfl))⟩
      · have ej : ((gd Q1 i).2 - 40 + dY d + 40) * 80 + ((gd Q1 i).1 - 40 + dX d) + 40 = ((gd Q1 i).2 + dY d) * 80 + ((gd Q1 i).1 + dX d) := by omega
        rintro b11 τ2 _
        refine WP.seq ?_
        refine WP.region ?_
        refine RG.pv rfl (PV.move (v := v) rfl rfl) ?_
        refine RG.pv rfl (PV.field rfl Fo168_0 rfl) ?_
        refine RG.pv rfl (PV.load1 rfl Sc2 rfl (Rd.blk rfl)) ?_
        refine RG.pv rfl (PV.field rfl Fo168_1 rfl) ?_
        refine RG.pv rfl (PV.load1 rfl Sc2 rfl (Rd.blk rfl)) ?_
        refine RG.callF (vs := [v, _, _]) rfl rfl En195 rfl (l17Cell_s (Rs.up h1) hS ?_)
        refine RG.pv rfl (PV.mvB (.inl rfl) rfl) ?_
        refine RG.gs rfl rfl rfl (fun hp => (PV.move (v := v14) rfl rfl)) ?_
        refine RG.gs rfl rfl rfl (fun hp => (PV.field rfl Fo168_0 rfl)) ?_
        refine RG.gs rfl rfl rfl (fun hp => (PV.load1 rfl Sc2 (gs_t hp) (Rd.blk rfl))) ?_
        refine RG.gs rfl rfl rfl (fun hp => (PV.field rfl Fo168_1 rfl)) ?_
        refine RG.gs rfl rfl rfl (fun hp => (PV.load1 rfl Sc2 (gs_t hp) (Rd.blk rfl))) ?_
        refine RG.gsC rfl rfl rfl rfl En169 (fun hp => ⟨_, (acons (gs_t hp) (acons (gs_t hp) anil)), l17At_s (by first | omega | (simp at hp; omega)) (by first | omega | (simp at hp; omega)) ⟨rfl, rfl, rfl⟩⟩) ?_
        refine RG.gs rfl rfl rfl (fun hp => (PV.idxS (j := ((gd Q1 i).2 + dY d).toNat * 80 + ((gd Q1 i).1 + dX d).toNat) (v := v14) rfl Is111 (gs_t hp) SlF.o (gs_t hp) (by first | omega | (simp at hp; omega)) (by first | omega | (simp at hp; omega)))) ?_
        refine RG.gs rfl rfl rfl (fun hp => (PV.loadE1 rfl Sc4 (gs_t hp) rfl (El.o (getG (by first | omega | (simp at hp; omega)))) rfl)) ?_
        refine RG.gs rfl rfl rfl (fun hp => (PV.not rfl (gs_t hp))) ?_
        refine RG.pv rfl (PV.pickA rfl rfl (fun hq => gs_t (geqT hq)) rfl) ?_
        refine RG.nil ?_
        refine WP.cond rfl (fun h4 => ?_) (fun h4 => ?_)
        · have h5 : ((-40 ≤ (gd Q1 i).1 - 40 + dX d ∧ (gd Q1 i).1 - 40 + dX d < 40) ∧ (-40 ≤ (gd Q1 i).2 - 40 + dY d ∧ (gd Q1 i).2 - 40 + dY d < 40)) ∧ gb S ((gd Q1 i).2 + dY d).toNat ((gd Q1 i).1 + dX d).toNat = true ∧ gb O1 ((gd Q1 i).2 + dY d).toNat ((gd Q1 i).1 + dX d).toNat = false := by
            simp only [Bool.and_eq_true, decide_eq_true_eq, Bool.not_eq_true', ej] at h4
            obtain ⟨⟨⟨a1, a2⟩, a3⟩, a4⟩ := h4
            rw [show (((gd Q1 i).2 + dY d) * 80 + ((gd Q1 i).1 + dX d)).toNat = ((gd Q1 i).2 + dY d).toNat * 80 + ((gd Q1 i).1 + dX d).toNat by omega] at a3
            exact ⟨⟨a1, a2⟩, a3, a4⟩
          obtain ⟨⟨a1, a2⟩, a3, a4⟩ := h5
          refine WP.seq ?_
          refine WP.region ?_
          refine RG.pv rfl (PV.move (v := v14) rfl rfl) ?_
          refine RG.pv rfl (PV.field rfl Fo168_0 rfl) ?_
          refine RG.pv rfl (PV.load1 rfl Sc2 rfl (Rd.blk rfl)) ?_
          refine RG.pv rfl (PV.field rfl Fo168_1 rfl) ?_
          refine RG.pv rfl (PV.load1 rfl Sc2 rfl (Rd.blk rfl)) ?_
          refine RG.callF (vs := [_, _]) rfl rfl En169 rfl (l17At_s (by first | omega | (simp at hp; omega)) (by first | omega | (simp at hp; omega)) ?_)
          refine RG.pv rfl (PV.idxS (j := ((gd Q1 i).2 + dY d).toNat * 80 + ((gd Q1 i).1 + dX d).toNat) (v := v14) rfl Is111 rfl SlF.o rfl (by omega) (by omega)) ?_
          refine RG.ot rfl (OT.storeE (F := boolT) rfl Sz4 rfl rfl rfl (Cl.c rfl) (OneC.c rfl) (by omega) ?_)
          refine RG.nil ?_
          refine WP.region ?_
          refine RG.pv rfl (PV.move (v := qv1) rfl rfl) ?_
          refine RG.pv rfl (PV.loadW rfl Ag168 rfl rfl) ?_
          refine RG.ot rfl (OT.bslice (F := ptT) (els := [⟨_, _⟩]) rfl El165 rfl (by decide) rfl (by decide) ⟨rfl, (Cl.c rfl), trivial⟩ fun v81 => ?_)
          refine RG.ot rfl (OT.append (v := qv1) (u := v81) (F := ptT) rfl El165 rfl (by decide) rfl rfl Rs.o (OneL.c (fun _ => rfl)) rfl (by first | omega | (simp <;> omega)) fun v82 => ?_)
          refine RG.pv rfl (PV.asg (v := v82) rfl rfl) ?_
          refine RG.nil ?_
          refine WP.region ?_
          refine RG.pv rfl (PV.mvI (.inl rfl) rfl) ?_
          refine RG.pv rfl (PV.add rfl rfl rfl (by omega)) ?_
          refine RG.pv rfl (PV.mvI (.inr rfl) rfl) ?_
          refine RG.nil ?_
          have ep : ptOf ((gd Q1 i).1 + dX d, (gd Q1 i).2 + dY d) = ⟨(gd Q1 i).1 - 40 + dX d, (gd Q1 i).2 - 40 + dY d⟩ := by simp only [ptOf, Pt.mk.injEq]; omega
          have ha := adj4 (q := gd Q1 i) (d := d) (by omega) hb1 (by omega) (by omega)
          exact ⟨rfl, d + 1, (Q1 ++ [((gd Q1 i).1 + dX d, (gd Q1 i).2 + dY d)]), (O1.set (((gd Q1 i).2 + dY d).toNat * 80 + ((gd Q1 i).1 + dX d).toNat) true), v82, ⟨by omega, hF1.add ⟨by omega, by omega⟩ ⟨by omega, by omega⟩ a4 a3 hi1 ha, hD1.add hi1 (fun c hc => on_set hl1 ⟨by omega, by omega⟩ ⟨by omega, by omega⟩ hc), on_set hl1 ⟨by omega, by omega⟩ ⟨by omega, by omega⟩ h01, by simp; omega, by rw [gd_app_l hi1]; exact hq1, by rw [← hq1] at hN1 ⊢; exact hN1.take hl1 hb1 (by omega) (by omega)⟩, ⟨rfl, rfl, trivial⟩, ⟨rfl, rfl, rfl, trivial⟩, (Cv.p (C := osl 4 boolT v14 (O1.set (((gd Q1 i).2 + dY d).toNat * 80 + ((gd Q1 i).1 + dX d).toNat) true) :: osl 168 ptT v82 (Q1.map ptOf ++ [⟨(gd Q1 i).1 - 40 + dX d, (gd Q1 i).2 - 40 + dY d⟩]) :: L)).trans (Cv.cast (by rw [List.map_append, ← ep]; rfl)), by omega⟩
        · refine WP.skip ?_
          refine WP.region ?_
          refine RG.pv rfl (PV.mvI (.inl rfl) rfl) ?_
          refine RG.pv rfl (PV.add rfl rfl rfl (by omega)) ?_
          refine RG.pv rfl (PV.mvI (.inr rfl) rfl) ?_
          refine RG.nil ?_
          refine ⟨rfl, d + 1, Q1, O1, qv1, ⟨by omega, hF1, hD1, h01, hi1, hq1, ?_⟩, ⟨rfl, rfl, trivial⟩, ⟨rfl, rfl, rfl, trivial⟩, Cv.p, by omega⟩
          rw [← hq1] at hN1 ⊢
          refine hN1.skip hb1 ?_
          by_cases hin : 0 ≤ (gd Q1 i).1 + dX d ∧ (gd Q1 i).1 + dX d < 80 ∧ 0 ≤ (gd Q1 i).2 + dY d ∧ (gd Q1 i).2 + dY d < 80
          · refine .inr ?_
            simp only [Bool.and_eq_false_iff, decide_eq_false_iff_not, Bool.not_eq_false', ej] at h4
            rw [show (((gd Q1 i).2 + dY d) * 80 + ((gd Q1 i).1 + dX d)).toNat = ((gd Q1 i).2 + dY d).toNat * 80 + ((gd Q1 i).1 + dX d).toNat by omega] at h4
            rcases h4 with (((a | a) | a) | a)
            · omega
            · omega
            · exact .inl a
            · exact .inr a
          · exact .inl hin
    · have h3 := of_decide_eq_false h3
      refine WP.exit ?_
      refine WP.region ?_
      refine RG.pv rfl (PV.mvI (.inl rfl) rfl) ?_
      refine RG.pv rfl (PV.add rfl rfl rfl (by omega)) ?_
      refine RG.pv rfl (PV.mvI (.inr rfl) rfl) ?_
      refine RG.nil ?_
      exact ⟨rfl, i + 1, Q1, O1, qv1, ⟨by omega, hF1, hD1.next4 (by rw [hq1]) (by obtain rfl : d = 4 := (by omega); exact hN1), h01⟩, ⟨rfl, rfl, trivial⟩, ⟨rfl, rfl, trivial⟩, Cv.p, by omega⟩
  · have h2 := of_decide_eq_false h2
    obtain rfl : i = Q.length := by omega
    have e := hF.final hseed h0 hD
    rw [e] at hF
    refine WP.exit ?_
    refine WP.seq ?_
    refine WP.region ?_
    refine RG.pv rfl (PV.move (v := qv) rfl rfl) ?_
    refine RG.pv rfl (PV.asg (v := qv) rfl rfl) ?_
    refine RG.nil ?_
    refine WP.ret ?_
    exact ⟨_, _, ResV.one rfl rfl, Cv.p, k qv Q hF⟩
/-- the cells of the first n places of the queue -/
def PQ (Q : List (Int × Int)) (n : Nat) (P : List Bool) : Prop := P.length = 6400 ∧ ∀ y x, y < 80 → x < 80 → (gb P y x = true ↔ ∃ m, m < n ∧ qc (gd Q m) = (y, x))
theorem PQ.zero (Q : List (Int × Int)) : PQ Q 0 (List.replicate 6400 false) := ⟨List.length_replicate, fun y x _ _ => by rw [gb_rep']; simp⟩
theorem PQ.step {Q : List (Int × Int)} {n : Nat} {P : List Bool} (h : PQ Q n P) (hb : 0 ≤ (gd Q n).1 ∧ (gd Q n).1 < 80 ∧ 0 ≤ (gd Q n).2 ∧ (gd Q n).2 < 80) : PQ Q (n + 1) (P.set ((gd Q n).2.toNat * 80 + (gd Q n).1.toNat) true) := by
  refine ⟨by simpa using h.1, fun y x hy hx => ?_⟩
  rw [gb_set' h.1 (by omega) (by omega) hx]
  by_cases e : y = (gd Q n).2.toNat ∧ x = (gd Q n).1.toNat
  · rw [if_pos e]
    exact ⟨fun _ => ⟨n, by omega, by rw [qc, e.1, e.2]⟩, fun _ => rfl⟩
  · rw [if_neg e, h.2 y x hy hx]
    constructor
    · rintro ⟨m, hm, he⟩; exact ⟨m, by omega, he⟩
    · rintro ⟨m, hm, he⟩
      by_cases c : m = n
      · subst c; exfalso; apply e; simp only [qc, Prod.mk.injEq] at he; omega
      · exact ⟨m, by omega, he⟩
theorem PQ.final {S : List Bool} {a : Cel} {Q : List (Int × Int)} {P : List Bool} (hF : FI S a (compB S a) Q) (h : PQ Q Q.length P) : P = compB S a := by
  refine gb_ext h.1 (compB_len _ _) fun y x hy hx => ?_
  rw [Bool.eq_iff_iff, h.2 y x hy hx]
  constructor
  · rintro ⟨m, hm, he⟩; have := (hF.on m hm).2.2; rw [he] at this; exact this
  · intro hg; exact hF.all (y, x) ⟨hy, hx, hg⟩
/-- what is left when the cells of P are taken away -/
def MQ (T P U : List Bool) : Prop := U.length = 6400 ∧ ∀ y x, y < 80 → x < 80 → gb U y x = (gb T y x && !gb P y x)
theorem MQ.zero {T : List Bool} (h : T.length = 6400) : MQ T (List.replicate 6400 false) T := ⟨h, fun y x _ _ => by rw [gb_rep']; simp⟩
theorem MQ.step {T P U : List Bool} (h : MQ T P U) (hP : P.length = 6400) {v u : Nat} (hv : v < 80) (hu : u < 80) : MQ T (P.set (v * 80 + u) true) (U.set (v * 80 + u) false) := by
  refine ⟨by simpa using h.1, fun y x hy hx => ?_⟩
  rw [gb_set' h.1 hv hu hx, gb_set' hP hv hu hx]
  by_cases e : y = v ∧ x = u
  · rw [if_pos e, if_pos e]; simp
  · rw [if_neg e, if_neg e]; exact h.2 y x hy hx
theorem comps_s {v : Value} {S : List Bool} (h1 : Rs G L boolT v S) (hS : S.length = 6400) (k : ∀ v' zs, er zs = comps S → R v' G (osl 111 slT v' zs :: bagS 4 boolT zs :: L)) : CallT Tryz.prog 115 #[v] G L R := by
  have hrl : (List.replicate S.length false).length = 6400 := by simp [hS]
  refine CallT.enter (args := _) Tryz.func115 rfl rfl (by kernel_rfl) rfl ?_
  refine WP.seq ?_
  refine WP.region ?_
  refine RG.pv rfl (PV.asg rfl rfl) ?_
  refine RG.nil ?_
  refine WP.seq ?_
  refine WP.region ?_
  refine RG.ot rfl (OT.bslice (F := (slT (α := Bool))) (els := []) rfl El131 rfl (by decide) rfl (by decide) trivial fun v10 => ?_)
  refine RG.pv rfl (PV.asg (v := v10) rfl rfl) ?_
  refine RG.nil ?_
  refine WP.seq ?_
  refine WP.region ?_
  refine RG.ot rfl (OT.bslice (F := boolT) (els := []) rfl El111 rfl (by decide) rfl (by decide) trivial fun v11 => ?_)
  refine RG.pv rfl (PV.move (v := v) rfl rfl) ?_
  refine RG.ot rfl (OT.append (v := v11) (u := v) (F := boolT) rfl El111 rfl (by decide) rfl rfl (Rs.up h1) (OneL.c (fun _ => rfl)) rfl (by first | omega | (simp <;> omega)) fun v13 => ?_)
  refine RG.pv rfl (PV.asg (v := v13) rfl rfl) ?_
  refine RG.nil ?_
  refine WP.seq ?_
  refine WP.seq ?_
  refine WP.region ?_
  refine RG.pv rfl (PV.mvI (.inr rfl) rfl) ?_
  refine RG.nil ?_
  refine WP.block ?_
  refine WP.cv (((Cv.p (C := osl 111 slT v10 ([] : List (Sl Bool)) :: osl 4 boolT v13 ([] ++ S) :: L)).trans (Cv.cons (Cv.bag0 (e := 4) (F := boolT) (xs := []) rfl))).trans (Cv.cast (by rw [List.nil_append]))) ?_
  refine WP.loop4 [0, 4] (fun (yy : Int) (T : List Bool) (zs : List (Sl Bool)) (q : Value) => (-40 ≤ yy ∧ yy ≤ 40) ∧ PI id S ((yy + 40).toNat * 80) T (er zs)) (fun (yy : Int) (T : List Bool) (zs : List (Sl Bool)) (q : Value) => [(5, vi yy), (3, q)]) (fun (yy : Int) (T : List Bool) (zs : List (Sl Bool)) (q : Value) => osl 4 boolT v13 T :: osl 111 slT q zs :: bagS 4 boolT zs :: L) (fun (yy : Int) (T : List Bool) (zs : List (Sl Bool)) (q : Value) => (40 - yy).toNat) (-40) S [] v10 ⟨by omega, PI.start hS⟩ ⟨rfl, rfl, trivial⟩ Cv.p ?_
  rintro yy T zs q τ ⟨hy, hP⟩
  refine WP.seq ?_
  refine WP.seq ?_
  refine WP.region ?_
  refine RG.pv rfl (PV.mvI (.inl rfl) rfl) ?_
  refine RG.pv rfl (PV.lss rfl rfl rfl) ?_
  refine RG.nil ?_
  obtain ⟨y, rfl⟩ : ∃ n : Nat, yy = (n : Int) - 40 := ⟨(yy + 40).toNat, by omega⟩
  rw [show ((y : Int) - 40 + 40).toNat = y by omega] at hP
  refine WP.cond rfl (fun h2 => ?_) (fun h2 => ?_)
  · have h2 := of_decide_eq_true h2
    refine WP.skip ?_
    refine WP.seq ?_
    refine WP.block ?_
    refine WP.seq ?_
    refine WP.region ?_
    refine RG.pv rfl (PV.mvI (.inr rfl) rfl) ?_
    refine RG.nil ?_
    refine WP.block ?_
    refine WP.loop4 [0, 4, 5] (fun (xx : Int) (T1 : List Bool) (zs1 : List (Sl Bool)) (q1 : Value) => (-40 ≤ xx ∧ xx ≤ 40) ∧ PI id S (y * 80 + (xx + 40).toNat) T1 (er zs1)) (fun (xx : Int) (T1 : List Bool) (zs1 : List (Sl Bool)) (q1 : Value) => [(6, vi xx), (3, q1)]) (fun (xx : Int) (T1 : List Bool) (zs1 : List (Sl Bool)) (q1 : Value) => osl 4 boolT v13 T1 :: osl 111 slT q1 zs1 :: bagS 4 boolT zs1 :: L) (fun (xx : Int) (T1 : List Bool) (zs1 : List (Sl Bool)) (q1 : Value) => (40 - xx).toNat) (-40) T zs q ⟨by omega, by rw [show ((-40 : Int) + 40).toNat = 0 from rfl]; exact hP⟩ ⟨rfl, rfl, trivial⟩ Cv.p ?_
    rintro xx T1 zs1 q1 τ1 ⟨hx, hP1⟩
    refine WP.seq ?_
    refine WP.seq ?_
    refine WP.region ?_
    refine RG.pv rfl (PV.mvI (.inl rfl) rfl) ?_
    refine RG.pv rfl (PV.lss rfl rfl rfl) ?_
    refine RG.nil ?_
    obtain ⟨x, rfl⟩ : ∃ n : Nat, xx = (n : Int) - 40 := ⟨(xx + 40).toNat, by omega⟩
    rw [show ((x : Int) - 40 + 40).toNat = x by omega] at hP1
    refine WP.cond rfl (fun h3 => ?_) (fun h3 => ?_)
    · have h3 := of_decide_eq_true h3
      have hl1 := hP1.len
      have hzl : zs1.length ≤ y * 80 + x := by
        have := congrArg List.length hP1.er
        have h1 := firsts_len S (y * 80 + x)
        rw [er_len, List.length_map] at this; omega
      have e1 : (y * 80 + x) / 80 = y := by omega
      have e2 : (y * 80 + x) % 80 = x := by omega
      have e3 : cel (y * 80 + x) = (y, x) := by rw [cel, e1, e2]
      have e4 : ((x : Int) - 40 + 1 + 40).toNat = x + 1 := by omega
      refine WP.skip ?_
      refine WP.seq ?_
      refine WP.block ?_
      refine WP.seq ?_
      refine WP.seq ?_
      refine WP.region ?_
      refine RG.pv rfl (PV.move (v := v13) rfl rfl) ?_
      refine RG.pv rfl (PV.mvI (.inl rfl) rfl) ?_
      refine RG.pv rfl (PV.mvI (.inl rfl) rfl) ?_
      refine RG.callF (vs := [_, _]) rfl rfl En169 rfl (l17At_s (by omega) (by omega) ?_)
      refine RG.pv rfl (PV.idxS (j := y * 80 + x) (v := v13) rfl Is111 rfl SlF.o rfl (by omega) (by omega)) ?_
      refine RG.pv rfl (PV.loadE1 rfl Sc4 rfl rfl (El.o (getG (by omega))) rfl) ?_
      refine RG.pv rfl (PV.not rfl rfl) ?_
      refine RG.nil ?_
      refine WP.cond rfl (fun h4 => ?_) (fun h4 => ?_)
      · have h5 : gb T1 y x = false := by rw [gb]; simpa using h4
        refine WP.exit ?_
        refine WP.region ?_
        refine RG.pv rfl (PV.mvI (.inl rfl) rfl) ?_
        refine RG.pv rfl (PV.add rfl rfl rfl (by omega)) ?_
        refine RG.pv rfl (PV.mvI (.inr rfl) rfl) ?_
        refine RG.nil ?_
        exact ⟨rfl, (x : Int) - 40 + 1, T1, zs1, q1, ⟨by omega, by rw [e4]; exact hP1.skip (by omega) (by rw [e1, e2]; exact h5)⟩, ⟨rfl, rfl, trivial⟩, ⟨rfl, rfl, rfl, trivial⟩, Cv.p, by omega⟩
      · have h5 : gb T1 y x = true := by rw [gb]; simpa using h4
        refine WP.skip ?_
        refine WP.seq ?_
        refine WP.region ?_
        refine RG.pv rfl (PV.move (v := v13) rfl rfl) ?_
        refine RG.pv rfl (PV.mvI (.inl rfl) rfl) ?_
        refine RG.pv rfl (PV.mvI (.inl rfl) rfl) ?_
        refine RG.callF (vs := [v13, _, _]) rfl rfl En171 rfl (visit_s (x := (x : Int)) (y := (y : Int)) Rs.o hl1 (by omega) (by omega) (by rw [Int.toNat_natCast, Int.toNat_natCast]; exact h5) (fun v32 Q hQ => ?_))
        refine RG.pv rfl (PV.asg (v := v32) rfl rfl) ?_
        refine RG.nil ?_
        refine WP.seq ?_
        refine WP.region ?_
        refine RG.pv rfl (PV.move (v := v) rfl rfl) ?_
        refine RG.pv rfl (PV.len (v := v) rfl Tryz.underlying111 rfl (SlF.r h1)) ?_
        refine RG.ot rfl (OT.make (F := boolT) (a0 := false) rfl El111 rfl (by decide) rfl rfl (by omega) (by omega) fun v35 => ?_)
        refine RG.pv rfl (PV.asg (v := v35) rfl rfl) ?_
        refine RG.nil ?_
        refine WP.seq ?_
        refine WP.seq ?_
        refine WP.region ?_
        refine RG.pv rfl (PV.mvI (.inr rfl) rfl) ?_
        refine RG.nil ?_
        refine WP.block ?_
        rw [Int.toNat_natCast, Int.toNat_natCast, ← e3] at hQ
        have hQl := hQ.len_le
        have hml : (Q.map ptOf).length = Q.length := by simp
        refine WP.loop3 [0, 3, 4, 5, 6, 7, 8] (fun (i : Nat) (P U : List Bool) => i ≤ Q.length ∧ PQ Q i P ∧ MQ T1 P U) (fun (i : Nat) (P U : List Bool) => [(9, vi i)]) (fun (i : Nat) (P U : List Bool) => osl 4 boolT v35 P :: osl 4 boolT v13 U :: osl 168 ptT v32 (Q.map ptOf) :: osl 111 slT q1 zs1 :: bagS 4 boolT zs1 :: L) (fun (i : Nat) (P U : List Bool) => Q.length - i) 0 (List.replicate S.length false) T1 ⟨by omega, by rw [hS]; exact PQ.zero Q, by rw [hS]; exact MQ.zero hl1⟩ ⟨rfl, trivial⟩ Cv.p ?_
        rintro i P U τ2 ⟨hi, hPQ, hMQ⟩
        refine WP.seq ?_
        refine WP.seq ?_
        refine WP.region ?_
        refine RG.pv rfl (PV.mvI (.inl rfl) rfl) ?_
        refine RG.pv rfl (PV.move (v := v32) rfl rfl) ?_
        refine RG.pv rfl (PV.len (v := v32) rfl Tryz.underlying165 rfl SlF.o) ?_
        refine RG.pv rfl (PV.lss rfl rfl rfl) ?_
        refine RG.nil ?_
        refine WP.cond rfl (fun h6 => ?_) (fun h6 => ?_)
        · have h6 := of_decide_eq_true h6
          have hPl := hPQ.1
          have hUl := hMQ.1
          have hbq := hQ.bd i (by omega)
          have e5 : gd (Q.map ptOf) i = ⟨(gd Q i).1 - 40, (gd Q i).2 - 40⟩ := gd_pt (by omega)
          have ex : (gd (Q.map ptOf) i).x = (gd Q i).1 - 40 := by rw [e5]
          have ey : (gd (Q.map ptOf) i).y = (gd Q i).2 - 40 := by rw [e5]
          refine WP.skip ?_
          refine WP.seq ?_
          refine WP.block ?_
          refine WP.seq ?_
          refine WP.regionHD [.s v35] (.q 0 (.q 1 (.q 2 (.q 3 (.q 4 (.q 5 (.q 6 (.q 7 (.q 8 (.q 9 (.q 10 (.l 11 (.l 12 (.l 13 Sch.nil)))))))))))))) (by kernel_rfl) (by kernel_rfl) (by kernel_rfl) rfl ?_
          refine RH.pv rfl (fun _ _ _ _ h => h) (Gh.le_refl _) PickC.pick rfl (PV.move (v := v35) rfl rfl) ?_
          refine RH.pv rfl (fun _ _ _ _ h => h) (Gh.le_refl _) PickC.pick rfl (PV.move (v := v32) rfl rfl) ?_
          refine RH.pv rfl (fun _ _ _ _ h => h) (Gh.le_refl _) PickC.pick rfl (PV.mvI (.inl rfl) rfl) ?_
          refine RH.pv rfl (fun _ _ _ _ h => h) (Gh.le_refl _) PickC.pick rfl (PV.idxS (v := v32) rfl Is165 rfl SlF.o rfl rfl (by omega)) ?_
          refine RH.pv rfl (fun _ _ _ _ h => h) (Gh.le_refl _) PickC.pick rfl (PV.field rfl Fo168_0 rfl) ?_
          refine RH.pv rfl (fun _ _ _ _ h => h) (Gh.le_refl _) PickC.pick rfl (PV.loadF rfl Sc2 rfl rfl (El.o (getG (by omega))) rfl) ?_
          refine RH.pv rfl (fun _ _ _ _ h => h) (Gh.le_refl _) PickC.pick rfl (PV.move (v := v32) rfl rfl) ?_
          refine RH.pv rfl (fun _ _ _ _ h => h) (Gh.le_refl _) PickC.pick rfl (PV.mvI (.inl rfl) rfl) ?_
          refine RH.pv rfl (fun _ _ _ _ h => h) (Gh.le_refl _) PickC.pick rfl (PV.idxS (v := v32) rfl Is165 rfl SlF.o rfl rfl (by omega)) ?_
          refine RH.pv rfl (fun _ _ _ _ h => h) (Gh.le_refl _) PickC.pick rfl (PV.field rfl Fo168_1 rfl) ?_
          refine RH.pv rfl (fun _ _ _ _ h => h) (Gh.le_refl _) PickC.pick rfl (PV.loadF rfl Sc2 rfl rfl (El.o (getG (by omega))) rfl) ?_
          refine RH.ot rfl rfl (OT.callF (vs := [_, _]) rfl En169 rfl (l17At_s (by omega) (by omega) ⟨Gh.le_refl _, PickC.pick, ?_⟩))
          refine RH.ot rfl rfl (OT.pv (PV.idxS (j := (gd Q i).2.toNat * 80 + (gd Q i).1.toNat) (v := v35) rfl Is111 rfl SlF.o rfl (by omega) (by omega)) ⟨Gh.le_refl _, PickC.pick, ?_⟩)
          refine RH.ot rfl rfl (OT.storeE (F := boolT) rfl Sz4 rfl rfl rfl (Cl.c rfl) (OneC.c rfl) (by omega) ⟨Gh.le_refl _, PickC.pick, ?_⟩)
          refine RH.nil ?_
          refine WP.regionHD [.s v13] (.q 0 (.q 1 (.q 2 (.q 3 (.q 4 (.q 5 (.q 6 (.q 7 (.q 8 (.q 9 (.q 10 (.l 11 (.l 12 (.l 13 Sch.nil)))))))))))))) (by kernel_rfl) (by kernel_rfl) (by kernel_rfl) rfl ?_
          refine RH.pv rfl (fun _ _ _ _ h => h) (Gh.le_refl _) PickC.pick rfl (PV.move (v := v13) rfl rfl) ?_
          refine RH.pv rfl (fun _ _ _ _ h => h) (Gh.le_refl _) PickC.pick rfl (PV.move (v := v32) rfl rfl) ?_
          refine RH.pv rfl (fun _ _ _ _ h => h) (Gh.le_refl _) PickC.pick rfl (PV.mvI (.inl rfl) rfl) ?_
          refine RH.pv rfl (fun _ _ _ _ h => h) (Gh.le_refl _) PickC.pick rfl (PV.idxS (v := v32) rfl Is165 rfl SlF.o rfl rfl (by omega)) ?_
          refine RH.pv rfl (fun _ _ _ _ h => h) (Gh.le_refl _) PickC.pick rfl (PV.field rfl Fo168_0 rfl) ?_
          refine RH.pv rfl (fun _ _ _ _ h => h) (Gh.le_refl _) PickC.pick rfl (PV.loadF rfl Sc2 rfl rfl (El.o (getG (by omega))) rfl) ?_
          refine RH.pv rfl (fun _ _ _ _ h => h) (Gh.le_refl _) PickC.pick rfl (PV.move (v := v32) rfl rfl) ?_
          refine RH.pv rfl (fun _ _ _ _ h => h) (Gh.le_refl _) PickC.pick rfl (PV.mvI (.inl rfl) rfl) ?_
          refine RH.pv rfl (fun _ _ _ _ h => h) (Gh.le_refl _) PickC.pick rfl (PV.idxS (v := v32) rfl Is165 rfl SlF.o rfl rfl (by omega)) ?_
          refine RH.pv rfl (fun _ _ _ _ h => h) (Gh.le_refl _) PickC.pick rfl (PV.field rfl Fo168_1 rfl) ?_
          refine RH.pv rfl (fun _ _ _ _ h => h) (Gh.le_refl _) PickC.pick rfl (PV.loadF rfl Sc2 rfl rfl (El.o (getG (by omega))) rfl) ?_
          refine RH.ot rfl rfl (OT.callF (vs := [_, _]) rfl En169 rfl (l17At_s (by omega) (by omega) ⟨Gh.le_refl _, PickC.pick, ?_⟩))
          refine RH.ot rfl rfl (OT.pv (PV.idxS (j := (gd Q i).2.toNat * 80 + (gd Q i).1.toNat) (v := v13) rfl Is111 rfl SlF.o rfl (by omega) (by omega)) ⟨Gh.le_refl _, PickC.pick, ?_⟩)
          refine RH.ot rfl rfl (OT.storeE (F := boolT) rfl Sz4 rfl rfl rfl (Cl.c rfl) (OneC.c rfl) (by omega) ⟨Gh.le_refl _, PickC.pick, ?_⟩)
          refine RH.nil ?_
          refine WP.region ?_
          refine RG.pv rfl (PV.mvI (.inl rfl) rfl) ?_
          refine RG.pv rfl (PV.add rfl rfl rfl (by omega)) ?_
          refine RG.pv rfl (PV.mvI (.inr rfl) rfl) ?_
          refine RG.nil ?_
          exact ⟨rfl, i + 1, (P.set ((gd Q i).2.toNat * 80 + (gd Q i).1.toNat) true), (U.set ((gd Q i).2.toNat * 80 + (gd Q i).1.toNat) false), ⟨by omega, hPQ.step hbq, hMQ.step hPl (by omega) (by omega)⟩, ⟨rfl, trivial⟩, ⟨rfl, rfl, rfl, rfl, rfl, rfl, rfl, trivial⟩, Cv.p, by omega⟩
        · have h6 := of_decide_eq_false h6
          obtain rfl : i = Q.length := by omega
          obtain rfl := hPQ.final hQ
          refine WP.exit ?_
          refine WP.region ?_
          refine RG.pv rfl (PV.move (v := q1) rfl rfl) ?_
          refine RG.pv rfl (PV.move (v := v35) rfl rfl) ?_
          refine RG.ot rfl (OT.bslice (F := (slT (α := Bool))) (els := [⟨v35, compB T1 (cel (y * 80 + x))⟩]) rfl El131 rfl (by decide) rfl (by decide) ⟨rfl, (Cl.s (v := v35) SlF.o), trivial⟩ fun v70 => ?_)
          refine RG.ot rfl (OT.append (v := q1) (u := v70) (F := (slT (α := Bool))) rfl El131 rfl (by decide) rfl rfl Rs.o (OneL.one (OneC.sl SlF.o OneC.nil)) rfl (by first | omega | (simp <;> omega)) fun v71 => ?_)
          refine RG.pv rfl (PV.asg (v := v71) rfl rfl) ?_
          refine RG.nil ?_
          refine WP.region ?_
          refine RG.pv rfl (PV.mvI (.inl rfl) rfl) ?_
          refine RG.pv rfl (PV.add rfl rfl rfl (by omega)) ?_
          refine RG.pv rfl (PV.mvI (.inr rfl) rfl) ?_
          refine RG.nil ?_
          refine ⟨rfl, (x : Int) - 40 + 1, U, (zs1 ++ [⟨v35, compB T1 (cel (y * 80 + x))⟩]), v71, ⟨by omega, ?_⟩, ⟨rfl, rfl, trivial⟩, ⟨rfl, rfl, rfl, trivial⟩, ((Cv.p (C := osl 4 boolT v35 (compB T1 (cel (y * 80 + x))) :: bagS 4 boolT zs1 :: osl 4 boolT v13 U :: osl 111 slT v71 (zs1 ++ [⟨v35, compB T1 (cel (y * 80 + x))⟩]) :: L)).trans (Cv.bagS_add.trans Cv.p)), by omega⟩
          rw [e4, er, List.map_append]
          exact hP1.take (by omega) (by rw [e1, e2]; exact h5) hMQ.1 hMQ.2
    · have h3 := of_decide_eq_false h3
      obtain rfl : x = 80 := by omega
      refine WP.exit ?_
      refine WP.region ?_
      refine RG.pv rfl (PV.mvI (.inl rfl) rfl) ?_
      refine RG.pv rfl (PV.add rfl rfl rfl (by omega)) ?_
      refine RG.pv rfl (PV.mvI (.inr rfl) rfl) ?_
      refine RG.nil ?_
      exact ⟨rfl, (y : Int) - 40 + 1, T1, zs1, q1, ⟨by omega, by rw [show ((y : Int) - 40 + 1 + 40).toNat = y + 1 by omega, Nat.add_mul]; exact hP1⟩, ⟨rfl, rfl, trivial⟩, ⟨rfl, rfl, trivial⟩, Cv.p, by omega⟩
  · have h2 := of_decide_eq_false h2
    obtain rfl : y = 80 := by omega
    have hz := hP.all
    refine WP.exit ?_
    refine WP.seq ?_
    refine WP.region ?_
    refine RG.pv rfl (PV.move (v := q) rfl rfl) ?_
    refine RG.pv rfl (PV.asg (v := q) rfl rfl) ?_
    refine RG.nil ?_
    refine WP.ret ?_
    exact ⟨_, _, ResV.one rfl rfl, Cv.p, k q zs hz⟩
end Go.Proofs.YtpjajhjcbcfplaaGreat
namespace Go.Proofs.YtpjajhjcbcfplaaGreat
set_option linter.unusedVariables false
set_option linter.unusedSimpArgs false
open Go
set_option maxRecDepth 20000
set_option linter.unusedSimpArgs false
variable {G : Gh} {L : List Ch} {R : Value → Gh → List Ch → Prop}
def regs (xs : List Piece) : List (Sl Rect) := xs.map Piece.reg
theorem regs_len (xs : List Piece) : (regs xs).length = xs.length := by simp [regs]
theorem regs_gd {xs : List Piece} {i : Nat} (h : i < xs.length) : gd (regs xs) i = (gd xs i).reg := gd_map _ h
theorem RsE.reg {xs : List Piece} (h : RsE G L rectT (regs xs)) {i : Nat} (hi : i < xs.length) : Rs G L rectT (gd xs i).reg.v (gd xs i).reg.xs := by
  have := h i (by rw [regs_len]; exact hi); rwa [regs_gd hi] at this
theorem l19Count_s {v : Value} {bs : List Bool} (h1 : Rs G L boolT v bs) (hl : bs.length = 6400) (k : R (vi (cnt bs)) G L) : CallT Tryz.prog 116 #[v] G L R := by
  refine CallT.enter (args := _) Tryz.func116 rfl rfl (by kernel_rfl) rfl ?_
  refine WP.seq ?_
  refine WP.region ?_
  refine RG.pv rfl (PV.mvI (.inr rfl) rfl) ?_
  refine RG.nil ?_
  refine WP.seq ?_
  refine WP.region ?_
  refine RG.pv rfl (PV.mvI (.inr rfl) rfl) ?_
  refine RG.nil ?_
  refine WP.seq ?_
  refine WP.seq ?_
  refine WP.region ?_
  refine RG.pv rfl (PV.mvI (.inr rfl) rfl) ?_
  refine RG.nil ?_
  refine WP.block ?_
  refine WP.loop2 [0] (fun (i : Nat) (m : Int) => i ≤ bs.length ∧ m = cnt (bs.take i)) (fun (i : Nat) (m : Int) => [(4, vi i), (3, vi m)]) (fun (i : Nat) (m : Int) => L) (fun (i : Nat) (m : Int) => bs.length - i) 0 0 ⟨by omega, by simp [cnt]⟩ ⟨rfl, rfl, trivial⟩ Cv.p ?_
  rintro i m τ ⟨hi, hm⟩
  refine WP.seq ?_
  refine WP.seq ?_
  refine WP.region ?_
  refine RG.pv rfl (PV.mvI (.inl rfl) rfl) ?_
  refine RG.pv rfl (PV.move (v := v) rfl rfl) ?_
  refine RG.pv rfl (PV.len (v := v) rfl Tryz.underlying111 rfl (SlF.r h1)) ?_
  refine RG.pv rfl (PV.lss rfl rfl rfl) ?_
  refine RG.nil ?_
  refine WP.cond rfl (fun h2 => ?_) (fun h2 => ?_)
  · have h2 := of_decide_eq_true h2
    have hct := cnt_take (bs := bs) (i := i) (by omega)
    have hcb := cnt_le (bs.take i)
    have hcl : (bs.take i).length ≤ 6400 := by simp; omega
    refine WP.skip ?_
    refine WP.seq ?_
    refine WP.block ?_
    refine WP.seq ?_
    refine WP.region ?_
    refine RG.pv rfl (PV.move (v := v) rfl rfl) ?_
    refine RG.pv rfl (PV.mvI (.inl rfl) rfl) ?_
    refine RG.pv rfl (PV.idxS (v := v) rfl Is111 rfl (SlF.r h1) rfl rfl (by omega)) ?_
    refine RG.pv rfl (PV.loadE1 rfl Sc4 rfl rfl (El.r h1 (getG (by omega))) rfl) ?_
    refine RG.nil ?_
    refine WP.cond rfl (fun h3 => ?_) (fun h3 => ?_)
    · rw [h3] at hct
      refine WP.region ?_
      refine RG.pv rfl (PV.mvI (.inl rfl) rfl) ?_
      refine RG.pv rfl (PV.add rfl rfl rfl (by omega)) ?_
      refine RG.pv rfl (PV.mvI (.inr rfl) rfl) ?_
      refine RG.nil ?_
      refine WP.region ?_
      refine RG.pv rfl (PV.mvI (.inl rfl) rfl) ?_
      refine RG.pv rfl (PV.add rfl rfl rfl (by omega)) ?_
      refine RG.pv rfl (PV.mvI (.inr rfl) rfl) ?_
      refine RG.nil ?_
      exact ⟨rfl, i + 1, _, ⟨by omega, by simp only [cond_true] at hct; omega⟩, ⟨rfl, rfl, trivial⟩, ⟨rfl, trivial⟩, Cv.p, by omega⟩
    · rw [h3] at hct
      refine WP.skip ?_
      refine WP.region ?_
      refine RG.pv rfl (PV.mvI (.inl rfl) rfl) ?_
      refine RG.pv rfl (PV.add rfl rfl rfl (by omega)) ?_
      refine RG.pv rfl (PV.mvI (.inr rfl) rfl) ?_
      refine RG.nil ?_
      exact ⟨rfl, i + 1, _, ⟨by omega, by simp only [cond_false] at hct; omega⟩, ⟨rfl, rfl, trivial⟩, ⟨rfl, trivial⟩, Cv.p, by omega⟩
  · have h2 := of_decide_eq_false h2
    have e : m = cnt bs := by rw [hm, List.take_of_length_le (by omega)]
    rw [← e] at k
    refine WP.exit ?_
    refine WP.seq ?_
    refine WP.region ?_
    refine RG.pv rfl (PV.mvI (.inl rfl) rfl) ?_
    refine RG.pv rfl (PV.mvI (.inr rfl) rfl) ?_
    refine RG.nil ?_
    refine WP.ret ?_
    exact ⟨_, _, ResV.one rfl rfl, Cv.p, k⟩
end Go.Proofs.YtpjajhjcbcfplaaGreat
namespace Go.Proofs.YtpjajhjcbcfplaaGreat
set_option linter.unusedVariables false
set_option linter.unusedSimpArgs false
open Go
set_option maxRecDepth 20000
set_option linter.unusedSimpArgs false
variable {G : Gh} {L : List Ch} {R : Value → Gh → List Ch → Prop}
theorem clone_rects {v : Value} {xs : List (Rect)} (h1 : Rs G L rectT v xs) (hb : xs.length ≤ 1048576) (k : ∀ v', R v' G (osl 71 rectT v' xs :: L)) : CallT Tryz.prog 141 #[v] G L R := by
  refine CallT.st (fun w hs => isNilS_nil h1 hs) fun hn => ?_
  refine CallT.enter (args := _) Tryz.func141 rfl rfl (by kernel_rfl) rfl ?_
  refine WP.seq ?_
  refine WP.region ?_
  refine RG.pv rfl (PV.asg rfl rfl) ?_
  refine RG.nil ?_
  refine WP.seq ?_
  refine WP.seq ?_
  refine WP.region ?_
  refine RG.pv rfl (PV.move (v := v) rfl rfl) ?_
  refine RG.pv rfl (PV.eqlNil rfl Tryz.underlying28 rfl (SlF.r h1)) ?_
  refine RG.nil ?_
  refine WP.cond rfl (fun h2 => ?_) (fun h2 => ?_)
  · have e := hn h2
    rw [e] at k
    refine WP.seq ?_
    refine WP.region ?_
    refine RG.pv rfl (PV.asg rfl rfl) ?_
    refine RG.nil ?_
    refine WP.ret ?_
    exact ⟨_, _, ResV.one rfl rfl, Cv.nilS, k _⟩
  · refine WP.skip ?_
    refine WP.seq ?_
    refine WP.region ?_
    refine RG.ot rfl (OT.bslice (F := rectT) (els := []) rfl El28 rfl (by decide) rfl (by decide) trivial fun v5 => ?_)
    refine RG.pv rfl (PV.move (v := v) rfl rfl) ?_
    refine RG.ot rfl (OT.append (v := v5) (u := v) (F := rectT) rfl El28 rfl (by decide) rfl rfl (Rs.up h1) (OneL.c (fun _ => rfl)) rfl (by first | omega | (simp <;> omega)) fun v7 => ?_)
    refine RG.pv rfl (PV.asg (v := v7) rfl rfl) ?_
    refine RG.nil ?_
    refine WP.ret ?_
    exact ⟨_, _, ResV.one rfl rfl, (Cv.eqS (List.nil_append _)), k v7⟩
end Go.Proofs.YtpjajhjcbcfplaaGreat
namespace Go.Proofs.YtpjajhjcbcfplaaGreat
set_option linter.unusedVariables false
set_option linter.unusedSimpArgs false
open Go
set_option maxRecDepth 20000
set_option linter.unusedSimpArgs false
variable {G : Gh} {L : List Ch} {R : Value → Gh → List Ch → Prop}
theorem comps_len (S : List Bool) : (comps S).length ≤ 6400 := by
  have := firsts_len S 6400
  simpa [comps] using this
theorem gd_app_at {α : Type} [Inhabited α] {xs ys : List α} {i : Nat} : gd (xs ++ ys) (xs.length + i) = gd ys i := by simp [gd, List.getElem?_append_right]
/-- a list whose parts lie at the end of a bag -/
theorem RsE.right {α : Type} {G : Gh} {L L' : List Ch} {e : TypeId} {F : FT α} {ws xs : List (Sl α)} [hX : ExBg (ws ++ xs) L e F L'] : RsE G L F xs := fun i hi => by
  have := Rs.inBag (G := G) (L := L) (L' := L') (e := e) (F := F) (xs := ws ++ xs) (ws.length + i) (by simp; omega)
  rwa [gd_app_at] at this
theorem WP.sl {α : Type} {P : Program} {n : Nat} {c : Code} {Q : Post} {σ : Nat → Value} {G : Gh} {L : List Ch} {F : FT α} {v : Value} {xs : List α} (h : Rs G L F v xs) (k : IsSl v xs.length → WP P n c Q σ G L) : WP P n c Q σ G L := WP.of fun hk _ _ ha hs => (k (h _ hs).1).run hk ha hs
theorem SlF.i {G : Gh} {L : List Ch} {v : Value} {m : Nat} (h : IsSl v m) : SlF G L v m := fun _ _ => h
theorem Cv.pre {L L' : List Ch} (h : Cv L L') : ∀ A : List Ch, Cv (A ++ L) (A ++ L')
  | [] => h
  | _ :: A => Cv.cons (Cv.pre h A)
theorem Cv.bagJoin {α : Type} {e : TypeId} {F : FT α} {xs ys : List (Sl α)} {L : List Ch} : Cv (bagS e F xs :: bagS e F ys :: L) (bagS e F (xs ++ ys) :: L) := by
  unfold bagS
  refine Cv.ofBag.trans ((Cv.pre Cv.ofBag _).trans ?_)
  rw [← List.append_assoc, ← List.map_append]
  exact Cv.toBag
theorem comps_mem {S : List Bool} {c : List Bool} (h : c ∈ comps S) : c.length = 6400 := by
  obtain ⟨j, _, rfl⟩ := List.mem_map.1 h; exact compB_len _ _
end Go.Proofs.YtpjajhjcbcfplaaGreat
namespace Go.Proofs.YtpjajhjcbcfplaaGreat
set_option linter.unusedVariables false
set_option linter.unusedSimpArgs false
open Go
set_option linter.unusedSimpArgs false
def cmn (a b : Rect) : Rect := ⟨max a.x0 b.x0, max a.y0 b.y0, min a.x1 b.x1, min a.y1 b.y1⟩
def ovl (a b : Rect) : Bool := validRect a && validRect b && validRect (cmn a b)
def meetB (a b : List Rect) : Bool := a.any fun x => b.any fun y => ovl x y
theorem validR_iff {r : Rect} : validRect r = true ↔ -40 ≤ r.x0 ∧ r.x0 < r.x1 ∧ r.x1 ≤ 40 ∧ -40 ≤ r.y0 ∧ r.y0 < r.y1 ∧ r.y1 ≤ 40 := by simp [validRect, and_assoc]
theorem inR_iff {r : Rect} {y x : Nat} : inR r y x = true ↔ r.x0 + 40 ≤ x ∧ (x : Int) < r.x1 + 40 ∧ r.y0 + 40 ≤ y ∧ (y : Int) < r.y1 + 40 := by simp [inR, and_assoc]
theorem inR_cmn {a b : Rect} {y x : Nat} : inR (cmn a b) y x = true ↔ inR a y x = true ∧ inR b y x = true := by
  simp only [inR_iff, cmn]; omega
theorem valid_cell {r : Rect} (h : validRect r = true) : ∃ y x, y < 80 ∧ x < 80 ∧ inR r y x = true := by
  rw [validR_iff] at h
  exact ⟨(r.y0 + 40).toNat, (r.x0 + 40).toNat, by omega, by omega, inR_iff.2 (by omega)⟩
theorem cmn_valid {a b : Rect} (ha : validRect a = true) (hb : validRect b = true) {y x : Nat} (h1 : inR a y x = true) (h2 : inR b y x = true) : validRect (cmn a b) = true := by
  rw [validR_iff] at *; rw [inR_iff] at h1 h2; simp only [cmn]; omega
theorem ovl_iff {a b : Rect} (ha : validRect a = true) (hb : validRect b = true) : ovl a b = true ↔ ∃ y x, y < 80 ∧ x < 80 ∧ inR a y x = true ∧ inR b y x = true := by
  simp only [ovl, ha, hb, Bool.true_and]
  constructor
  · intro h
    obtain ⟨y, x, h1, h2, h3⟩ := valid_cell h
    exact ⟨y, x, h1, h2, inR_cmn.1 h3⟩
  · rintro ⟨y, x, _, _, h1, h2⟩; exact cmn_valid ha hb h1 h2
theorem valid_mem {xs : List Rect} (h : validRs xs = true) {r : Rect} (hr : r ∈ xs) : validRect r = true := by
  simp only [validRs, Bool.and_eq_true, List.all_eq_true] at h; exact h.2 r hr
theorem gb_bits_iff {rs : List Rect} {y x : Nat} (hy : y < 80) (hx : x < 80) : gb (bits rs) y x = true ↔ ∃ r ∈ rs, inR r y x = true := by
  rw [gb_bits' rs hy hx, List.any_eq_true]
theorem meetB_iff {a b : List Rect} (ha : validRs a = true) (hb : validRs b = true) : meetB a b = true ↔ ∃ y x, y < 80 ∧ x < 80 ∧ gb (bits a) y x = true ∧ gb (bits b) y x = true := by
  simp only [meetB, List.any_eq_true]
  constructor
  · rintro ⟨p, hp, q, hq, h⟩
    obtain ⟨y, x, hy, hx, h1, h2⟩ := (ovl_iff (valid_mem ha hp) (valid_mem hb hq)).1 h
    exact ⟨y, x, hy, hx, (gb_bits_iff hy hx).2 ⟨p, hp, h1⟩, (gb_bits_iff hy hx).2 ⟨q, hq, h2⟩⟩
  · rintro ⟨y, x, hy, hx, h1, h2⟩
    obtain ⟨p, hp, h3⟩ := (gb_bits_iff hy hx).1 h1
    obtain ⟨q, hq, h4⟩ := (gb_bits_iff hy hx).1 h2
    exact ⟨p, hp, q, hq, (ovl_iff (valid_mem ha hp) (valid_mem hb hq)).2 ⟨y, x, hy, hx, h3, h4⟩⟩
def rl (lo hi c : Int) : Int := if c = hi then lo else c
def stepJ (J : Nat → Nat → Bool) (i : Nat) (cls : List Int) (k : Nat) : List Int := if gd cls k = gd cls i ∨ J k i = false then cls else cls.map (rl (min (gd cls k) (gd cls i)) (max (gd cls k) (gd cls i)))
/-- each class is told by its first member -/
def Rt (cls : List Int) : Prop := ∀ j, j < cls.length → 0 ≤ gd cls j ∧ gd cls j ≤ j ∧ gd cls (gd cls j).toNat = gd cls j
theorem Rt.app {cls : List Int} (h : Rt cls) : Rt (cls ++ [(cls.length : Int)]) := fun j hj => by
  have hj : j < cls.length + 1 := by simpa using hj
  by_cases e : j = cls.length
  · subst e
    rw [gd_app_r]; refine ⟨by omega, by omega, ?_⟩
    rw [Int.toNat_natCast, gd_app_r]
  · have hj : j < cls.length := by omega
    obtain ⟨h1, h2, h3⟩ := h j hj
    rw [gd_app_l hj]
    exact ⟨h1, h2, by rw [gd_app_l (by omega)]; exact h3⟩
theorem Rt.map {cls : List Int} (h : Rt cls) {lo hi : Int} (hl : lo < hi) {k : Nat} (hk : k < cls.length) (hlo : gd cls k = lo) : Rt (cls.map (rl lo hi)) := fun j hj => by
  have hj : j < cls.length := by simpa using hj
  obtain ⟨h1, h2, h3⟩ := h j hj
  obtain ⟨g1, g2, g3⟩ := h k hk
  rw [gd_map _ hj]
  unfold rl
  split
  · rename_i e
    refine ⟨by omega, by omega, ?_⟩
    rw [gd_map _ (by omega), hlo] at *
    rw [g3, if_neg (by omega)]
  · rename_i e
    refine ⟨h1, h2, ?_⟩
    rw [gd_map _ (by omega), h3, if_neg e]
theorem Rt.step {cls : List Int} (h : Rt cls) {J : Nat → Nat → Bool} {i k : Nat} (hi : i < cls.length) (hk : k < cls.length) : Rt (stepJ J i cls k) := by
  unfold stepJ
  split
  · exact h
  · rename_i e
    rw [not_or] at e
    by_cases c : gd cls k < gd cls i
    · exact h.map (by omega) hk (by omega)
    · exact h.map (k := i) (by omega) hi (by omega)
end Go.Proofs.YtpjajhjcbcfplaaGreat
namespace Go.Proofs.YtpjajhjcbcfplaaGreat
set_option linter.unusedVariables false
set_option linter.unusedSimpArgs false
open Go
set_option maxRecDepth 20000
set_option linter.unusedSimpArgs false
variable {G : Gh} {L : List Ch} {R : Value → Gh → List Ch → Prop}
theorem common_s {a b : Rect} (k : R (vrect (cmn a b)) G L) : CallT Tryz.prog 194 #[vrect a, vrect b] G L R := by
  refine CallT.enter (args := _) Tryz.func194 rfl rfl (by kernel_rfl) rfl ?_
  refine WP.seq ?_
  refine WP.region ?_
  refine RG.ot rfl (OT.box (cs := rectT.enc a) rfl rfl rfl fun b2 => ?_)
  refine RG.ot rfl (OT.box (cs := rectT.enc b) rfl rfl rfl fun b3 => ?_)
  refine RG.ot rfl (OT.alloc rfl Zr71 fun b4 => ?_)
  refine RG.nil ?_
  refine WP.seq ?_
  refine WP.region ?_
  refine RG.pv rfl (PV.field rfl Fo71_0 rfl) ?_
  refine RG.pv rfl (PV.load1 rfl Sc2 rfl (Rd.blk rfl)) ?_
  refine RG.pv rfl (PV.field rfl Fo71_0 rfl) ?_
  refine RG.pv rfl (PV.load1 rfl Sc2 rfl (Rd.blk rfl)) ?_
  refine RG.pv rfl (PV.max2 rfl rfl rfl) ?_
  refine RG.pv rfl (PV.field rfl Fo71_1 rfl) ?_
  refine RG.pv rfl (PV.load1 rfl Sc2 rfl (Rd.blk rfl)) ?_
  refine RG.pv rfl (PV.field rfl Fo71_1 rfl) ?_
  refine RG.pv rfl (PV.load1 rfl Sc2 rfl (Rd.blk rfl)) ?_
  refine RG.pv rfl (PV.max2 rfl rfl rfl) ?_
  refine RG.pv rfl (PV.field rfl Fo71_2 rfl) ?_
  refine RG.pv rfl (PV.load1 rfl Sc2 rfl (Rd.blk rfl)) ?_
  refine RG.pv rfl (PV.field rfl Fo71_2 rfl) ?_
  refine RG.pv rfl (PV.load1 rfl Sc2 rfl (Rd.blk rfl)) ?_
  refine RG.pv rfl (PV.min2 rfl rfl rfl) ?_
  refine RG.pv rfl (PV.field rfl Fo71_3 rfl) ?_
  refine RG.pv rfl (PV.load1 rfl Sc2 rfl (Rd.blk rfl)) ?_
  refine RG.pv rfl (PV.field rfl Fo71_3 rfl) ?_
  refine RG.pv rfl (PV.load1 rfl Sc2 rfl (Rd.blk rfl)) ?_
  refine RG.pv rfl (PV.min2 rfl rfl rfl) ?_
  refine RG.pv rfl (PV.build (vs := [(0, [vi _]), (1, [vi _]), (2, [vi _]), (3, [vi _])]) (out := [_, _, _, _]) rfl Zr71 Pl71 ⟨rfl, (Cl.c rfl), ⟨rfl, (Cl.c rfl), ⟨rfl, (Cl.c rfl), ⟨rfl, (Cl.c rfl), trivial⟩⟩⟩⟩ rfl) ?_
  refine RG.ot rfl (OT.storeW (vs := [vi _, vi _, vi _, vi _]) rfl Sz71 rfl rfl (Cl.c rfl) rfl rfl (OneC.c rfl) ?_)
  refine RG.nil ?_
  refine WP.ret ?_
  exact ⟨_, _, ResV.one rfl (RV1.cell rfl Ag71 rfl), Cv.p, k⟩
theorem ovl_s {a b : Rect} (k : R (.bool (ovl a b)) G L) : CallT Tryz.prog 212 #[vrect a, vrect b] G L R := by
  refine CallT.enter (args := _) Tryz.func212 rfl rfl (by kernel_rfl) rfl ?_
  refine WP.seq ?_
  refine WP.region ?_
  refine RG.ot rfl (OT.box (cs := rectT.enc a) rfl rfl rfl fun b2 => ?_)
  refine RG.ot rfl (OT.box (cs := rectT.enc b) rfl rfl rfl fun b3 => ?_)
  refine RG.pv rfl (PV.mvB (.inr rfl) rfl) ?_
  refine RG.nil ?_
  refine WP.seq ?_
  refine WP.region ?_
  refine RG.pv rfl (PV.loadW rfl Ag71 rfl rfl) ?_
  refine RG.callF (vs := [_]) rfl rfl En148 rfl (validRect_s ?_)
  refine RG.pv rfl (PV.mvB (.inl rfl) rfl) ?_
  refine RG.gs rfl rfl rfl (fun hp => (PV.loadW rfl Ag71 rfl rfl)) ?_
  refine RG.gsC rfl rfl rfl rfl En148 (fun hp => ⟨_, (acons (gs_t hp) anil), validRect_s ⟨rfl, rfl, rfl⟩⟩) ?_
  refine RG.pv rfl (PV.pickA rfl rfl (fun hq => gs_t (geqT hq)) rfl) ?_
  refine RG.pv rfl (PV.mvB (.inl rfl) rfl) ?_
  refine RG.gs rfl rfl rfl (fun hp => (PV.loadW rfl Ag71 rfl rfl)) ?_
  refine RG.gs rfl rfl rfl (fun hp => (PV.loadW rfl Ag71 rfl rfl)) ?_
  refine RG.gsC rfl rfl rfl rfl En194 (fun hp => ⟨_, (acons (gs_t hp) (acons (gs_t hp) anil)), common_s ⟨rfl, rfl, rfl⟩⟩) ?_
  refine RG.gsC rfl rfl rfl rfl En148 (fun hp => ⟨_, (acons (gs_t hp) anil), validRect_s ⟨rfl, rfl, rfl⟩⟩) ?_
  refine RG.pv rfl (PV.pickA rfl rfl (fun hq => gs_t (geqT hq)) rfl) ?_
  refine RG.pv rfl (PV.mvB (.inr rfl) rfl) ?_
  refine RG.nil ?_
  refine WP.ret ?_
  exact ⟨_, _, ResV.one rfl rfl, Cv.p, k⟩
theorem gd_mem {α : Type} [Inhabited α] {xs : List α} {i : Nat} (h : i < xs.length) : gd xs i ∈ xs := by rw [gd_eq h]; exact List.getElem_mem h
theorem any2_false {α : Type} [Inhabited α] {p : α → α → Bool} {xs ys : List α} (h : ∀ i, i < xs.length → ∀ j, j < ys.length → p (gd xs i) (gd ys j) = false) : (xs.any fun x => ys.any fun y => p x y) = false := by
  rw [List.any_eq_false]
  intro x hx
  obtain ⟨i, hi, rfl⟩ := List.getElem_of_mem hx
  rw [Bool.not_eq_true, List.any_eq_false]
  intro y hy
  obtain ⟨j, hj, rfl⟩ := List.getElem_of_mem hy
  have := h i hi j hj
  rw [gd_eq hi, gd_eq hj] at this; simp [this]
theorem any2_true {α : Type} [Inhabited α] {p : α → α → Bool} {xs ys : List α} {i j : Nat} (hi : i < xs.length) (hj : j < ys.length) (h : p (gd xs i) (gd ys j) = true) : (xs.any fun x => ys.any fun y => p x y) = true := by
  simp only [List.any_eq_true]
  exact ⟨gd xs i, gd_mem hi, gd ys j, gd_mem hj, h⟩
theorem row_next {p : Nat → Nat → Bool} {i m : Nat} (h : ∀ a, a < i → ∀ b, b < m → p a b = false) (h2 : ∀ b, b < m → p i b = false) : ∀ a, a < i + 1 → ∀ b, b < m → p a b = false := fun a ha b hb => by
  by_cases e : a = i
  · subst e; exact h2 b hb
  · exact h a (by omega) b hb
theorem col_next {p : Nat → Bool} {j : Nat} (h : ∀ b, b < j → p b = false) (h2 : p j = false) : ∀ b, b < j + 1 → p b = false := fun b hb => by
  by_cases e : b = j
  · subst e; exact h2
  · exact h b (by omega)
theorem meet_s {v u : Value} {xs ys : List Rect} (h1 : Rs G L rectT v xs) (h2 : Rs G L rectT u ys) (k : R (.bool (meetB xs ys)) G L) : CallT Tryz.prog 184 #[v, u] G L R := by
  refine CallT.bd h1 fun hb => ?_
  refine CallT.bd h2 fun hb' => ?_
  refine CallT.enter (args := _) Tryz.func184 rfl rfl (by kernel_rfl) rfl ?_
  refine WP.seq ?_
  refine WP.region ?_
  refine RG.pv rfl (PV.mvB (.inr rfl) rfl) ?_
  refine RG.nil ?_
  refine WP.seq ?_
  refine WP.seq ?_
  refine WP.region ?_
  refine RG.pv rfl (PV.move (v := v) rfl rfl) ?_
  refine RG.pv rfl (PV.len (v := v) rfl Tryz.underlying28 rfl (SlF.r h1)) ?_
  refine RG.pv rfl (PV.mvI (.inl rfl) rfl) ?_
  refine RG.nil ?_
  refine WP.block ?_
  refine WP.loop1 [1, 9, 10] (fun i => i ≤ xs.length ∧ ∀ p, p < i → ∀ q, q < ys.length → ovl (gd xs p) (gd ys q) = false) (fun i => [(11, vi i)]) (fun i => L) (fun i => xs.length - i) 0 ⟨by omega, fun p h => by omega⟩ ⟨rfl, trivial⟩ Cv.p ?_
  rintro i τ ⟨hi, hn⟩
  refine WP.seq ?_
  refine WP.region ?_
  refine RG.pv rfl (PV.lss rfl rfl rfl) ?_
  refine RG.nil ?_
  refine WP.seq ?_
  refine WP.cond rfl (fun h3 => ?_) (fun h3 => ?_)
  · have h3 := of_decide_eq_true h3
    refine WP.skip ?_
    refine WP.seq ?_
    refine WP.block ?_
    refine WP.seq ?_
    refine WP.region ?_
    refine RG.pv rfl (PV.idxS (v := v) rfl Is28 rfl (SlF.r h1) rfl rfl (by omega)) ?_
    refine RG.pv rfl (PV.loadE rfl Ag71 rfl rfl (El.r h1 (getG (by omega)))) ?_
    refine RG.ot rfl (OT.alloc rfl Zr71 fun b6 => ?_)
    refine RG.ot rfl (OT.storeW (vs := [vi _, vi _, vi _, vi _]) rfl Sz71 rfl rfl (Cl.c rfl) rfl rfl (OneC.c rfl) ?_)
    refine RG.nil ?_
    refine WP.seq ?_
    refine WP.region ?_
    refine RG.pv rfl (PV.move (v := u) rfl rfl) ?_
    refine RG.pv rfl (PV.len (v := u) rfl Tryz.underlying28 rfl (SlF.r h2)) ?_
    refine RG.pv rfl (PV.mvI (.inl rfl) rfl) ?_
    refine RG.nil ?_
    refine WP.block ?_
    refine WP.loop1 [1, 6, 9, 10, 11, 15, 16] (fun j => j ≤ ys.length ∧ ∀ q, q < j → ovl (gd xs i) (gd ys q) = false) (fun j => [(17, vi j)]) (fun j => blk b6 71 (rectT.enc (gd xs i)) :: L) (fun j => ys.length - j) 0 ⟨by omega, fun q h => by omega⟩ ⟨rfl, trivial⟩ Cv.p ?_
    rintro j τ1 ⟨hj, hm⟩
    refine WP.seq ?_
    refine WP.region ?_
    refine RG.pv rfl (PV.lss rfl rfl rfl) ?_
    refine RG.nil ?_
    refine WP.seq ?_
    refine WP.cond rfl (fun h4 => ?_) (fun h4 => ?_)
    · have h4 := of_decide_eq_true h4
      refine WP.skip ?_
      refine WP.seq ?_
      refine WP.block ?_
      refine WP.seq ?_
      refine WP.region ?_
      refine RG.pv rfl (PV.idxS (v := u) rfl Is28 rfl (SlF.r h2) rfl rfl (by omega)) ?_
      refine RG.pv rfl (PV.loadE rfl Ag71 rfl rfl (El.r h2 (getG (by omega)))) ?_
      refine RG.ot rfl (OT.alloc rfl Zr71 fun b8 => ?_)
      refine RG.ot rfl (OT.storeW (vs := [vi _, vi _, vi _, vi _]) rfl Sz71 rfl rfl (Cl.c rfl) rfl rfl (OneC.c rfl) ?_)
      refine RG.nil ?_
      refine WP.seq ?_
      refine WP.region ?_
      refine RG.pv rfl (PV.loadW rfl Ag71 rfl rfl) ?_
      refine RG.pv rfl (PV.loadW rfl Ag71 rfl rfl) ?_
      refine RG.callF (vs := [_, _]) rfl rfl En212 rfl (ovl_s ?_)
      refine RG.nil ?_
      refine WP.cond rfl (fun h5 => ?_) (fun h5 => ?_)
      · have e : meetB xs ys = true := any2_true (i := i) (j := j) (by omega) (by omega) h5
        rw [e] at k
        refine WP.seq ?_
        refine WP.region ?_
        refine RG.pv rfl (PV.mvB (.inr rfl) rfl) ?_
        refine RG.nil ?_
        refine WP.ret ?_
        exact ⟨_, _, ResV.one rfl rfl, Cv.p, k⟩
      · refine WP.skip ?_
        refine WP.region ?_
        refine RG.pv rfl (PV.add rfl rfl rfl (by omega)) ?_
        refine RG.pv rfl (PV.mvI (.inl rfl) rfl) ?_
        refine RG.nil ?_
        exact ⟨rfl, j + 1, ⟨by omega, col_next hm h5⟩, ⟨rfl, trivial⟩, ⟨rfl, rfl, rfl, rfl, rfl, rfl, rfl, trivial⟩, Cv.p, by omega⟩
    · have h4 := of_decide_eq_false h4
      obtain rfl : j = ys.length := by omega
      refine WP.exit ?_
      refine WP.region ?_
      refine RG.pv rfl (PV.add rfl rfl rfl (by omega)) ?_
      refine RG.pv rfl (PV.mvI (.inl rfl) rfl) ?_
      refine RG.nil ?_
      exact ⟨rfl, i + 1, ⟨by omega, row_next (p := fun a b => ovl (gd xs a) (gd ys b)) hn hm⟩, ⟨rfl, trivial⟩, ⟨rfl, rfl, rfl, trivial⟩, Cv.p, by omega⟩
  · have h3 := of_decide_eq_false h3
    obtain rfl : i = xs.length := by omega
    have e : meetB xs ys = false := any2_false hn
    rw [e] at k
    refine WP.exit ?_
    refine WP.seq ?_
    refine WP.region ?_
    refine RG.pv rfl (PV.mvB (.inr rfl) rfl) ?_
    refine RG.nil ?_
    refine WP.ret ?_
    exact ⟨_, _, ResV.one rfl rfl, Cv.p, k⟩
end Go.Proofs.YtpjajhjcbcfplaaGreat
namespace Go.Proofs.YtpjajhjcbcfplaaGreat
set_option linter.unusedVariables false
set_option linter.unusedSimpArgs false
open Go
set_option maxRecDepth 20000
set_option linter.unusedSimpArgs false
variable {G : Gh} {L : List Ch} {R : Value → Gh → List Ch → Prop}
theorem at_eq {x y : Int} (hx : -40 ≤ x) (hy : -40 ≤ y) : ((y + 40) * 80 + x + 40).toNat = (y + 40).toNat * 80 + (x + 40).toNat := by omega
theorem fill_s {v : Value} {D : List Bool} {r : Rect} (hD : D.length = 6400) (hr : validRect r = true) (k : ∀ D' : List Bool, D'.length = 6400 → (∀ y x, y < 80 → x < 80 → gb D' y x = (gb D y x || inR r y x)) → R v G (osl 4 boolT v D' :: L)) :
    CallT Tryz.prog 121 #[v, vrect r] G (osl 4 boolT v D :: L) R := by
  have hv := validR_iff.1 hr
  refine CallT.enter (args := _) Tryz.func121 rfl rfl (by kernel_rfl) rfl ?_
  refine WP.seq ?_
  refine WP.region ?_
  refine RG.ot rfl (OT.box (cs := rectT.enc r) rfl rfl rfl fun b3 => ?_)
  refine RG.pv rfl (PV.asg rfl rfl) ?_
  refine RG.nil ?_
  refine WP.seq ?_
  refine WP.seq ?_
  refine WP.region ?_
  refine RG.pv rfl (PV.field rfl Fo71_1 rfl) ?_
  refine RG.pv rfl (PV.load1 rfl Sc2 rfl (Rd.blk rfl)) ?_
  refine RG.pv rfl (PV.mvI (.inr rfl) rfl) ?_
  refine RG.nil ?_
  refine WP.block ?_
  refine WP.loop2 [0, 3] (fun (y : Int) (E : List Bool) => r.y0 ≤ y ∧ y ≤ r.y1 ∧ E.length = 6400 ∧ ∀ v u : Nat, v < 80 → u < 80 → (gb E v u = true ↔ gb D v u = true ∨ (inR r v u = true ∧ (v : Int) - 40 < y))) (fun (y : Int) (E : List Bool) => [(5, vi y)]) (fun (y : Int) (E : List Bool) => osl 4 boolT v E :: blk b3 71 (rectT.enc r) :: L) (fun (y : Int) (E : List Bool) => (r.y1 - y).toNat) r.y0 D ⟨by omega, by omega, hD, fun v u hv hu => ⟨.inl, fun h => h.resolve_right fun ⟨h1, h2⟩ => by rw [inR_iff] at h1; omega⟩⟩ ⟨rfl, trivial⟩ Cv.p ?_
  rintro y E τ ⟨hy0, hy1, hE, hg⟩
  refine WP.seq ?_
  refine WP.seq ?_
  refine WP.region ?_
  refine RG.pv rfl (PV.mvI (.inl rfl) rfl) ?_
  refine RG.pv rfl (PV.field rfl Fo71_3 rfl) ?_
  refine RG.pv rfl (PV.load1 rfl Sc2 rfl (Rd.blk rfl)) ?_
  refine RG.pv rfl (PV.lss rfl rfl rfl) ?_
  refine RG.nil ?_
  refine WP.cond rfl (fun h2 => ?_) (fun h2 => ?_)
  · have h2 := of_decide_eq_true h2
    refine WP.skip ?_
    refine WP.seq ?_
    refine WP.block ?_
    refine WP.seq ?_
    refine WP.region ?_
    refine RG.pv rfl (PV.field rfl Fo71_0 rfl) ?_
    refine RG.pv rfl (PV.load1 rfl Sc2 rfl (Rd.blk rfl)) ?_
    refine RG.pv rfl (PV.mvI (.inr rfl) rfl) ?_
    refine RG.nil ?_
    refine WP.block ?_
    refine WP.loop2 [0, 3, 5] (fun (x : Int) (F : List Bool) => r.x0 ≤ x ∧ x ≤ r.x1 ∧ F.length = 6400 ∧ ∀ v u : Nat, v < 80 → u < 80 → (gb F v u = true ↔ gb E v u = true ∨ ((v : Int) - 40 = y ∧ r.x0 ≤ (u : Int) - 40 ∧ (u : Int) - 40 < x))) (fun (x : Int) (F : List Bool) => [(6, vi x)]) (fun (x : Int) (F : List Bool) => osl 4 boolT v F :: blk b3 71 (rectT.enc r) :: L) (fun (x : Int) (F : List Bool) => (r.x1 - x).toNat) r.x0 E ⟨by omega, by omega, hE, fun v u hv hu => ⟨.inl, fun h => h.resolve_right fun ⟨h1, h2, h3⟩ => by omega⟩⟩ ⟨rfl, trivial⟩ Cv.p ?_
    rintro x F τ1 ⟨hx0, hx1, hF, hf⟩
    refine WP.seq ?_
    refine WP.seq ?_
    refine WP.region ?_
    refine RG.pv rfl (PV.mvI (.inl rfl) rfl) ?_
    refine RG.pv rfl (PV.field rfl Fo71_2 rfl) ?_
    refine RG.pv rfl (PV.load1 rfl Sc2 rfl (Rd.blk rfl)) ?_
    refine RG.pv rfl (PV.lss rfl rfl rfl) ?_
    refine RG.nil ?_
    refine WP.cond rfl (fun h3 => ?_) (fun h3 => ?_)
    · have h3 := of_decide_eq_true h3
      have hat := at_eq (x := x) (y := y) (by omega) (by omega)
      refine WP.skip ?_
      refine WP.seq ?_
      refine WP.block ?_
      refine WP.region ?_
      refine RG.pv rfl (PV.move (v := v) rfl rfl) ?_
      refine RG.pv rfl (PV.mvI (.inl rfl) rfl) ?_
      refine RG.pv rfl (PV.mvI (.inl rfl) rfl) ?_
      refine RG.callF (vs := [_, _]) rfl rfl En169 rfl (l17At_s (by omega) (by omega) ?_)
      refine RG.pv rfl (PV.idxS (j := ((y + 40) * 80 + x + 40).toNat) (v := v) rfl Is111 rfl SlF.o rfl (by omega) (by omega)) ?_
      refine RG.ot rfl (OT.storeE (F := boolT) rfl Sz4 rfl rfl rfl (Cl.c rfl) (OneC.c rfl) (by omega) ?_)
      refine RG.nil ?_
      refine WP.region ?_
      refine RG.pv rfl (PV.mvI (.inl rfl) rfl) ?_
      refine RG.pv rfl (PV.add rfl rfl rfl (by omega)) ?_
      refine RG.pv rfl (PV.mvI (.inr rfl) rfl) ?_
      refine RG.nil ?_
      refine ⟨rfl, x + 1, (F.set ((y + 40) * 80 + x + 40).toNat true), ⟨by omega, by omega, by simpa using hF, fun v u hv hu => ?_⟩, ⟨rfl, trivial⟩, ⟨rfl, rfl, rfl, trivial⟩, Cv.p, by omega⟩
      rw [hat, gb_set' hF (by omega) (by omega) hu]
      by_cases c : v = (y + 40).toNat ∧ u = (x + 40).toNat
      · rw [if_pos c]; simp only [true_iff]; right; omega
      · rw [if_neg c, hf v u hv hu]
        constructor
        · rintro (h | h)
          · exact .inl h
          · right; omega
        · rintro (h | h)
          · exact .inl h
          · right; omega
    · have h3 := of_decide_eq_false h3
      refine WP.exit ?_
      refine WP.region ?_
      refine RG.pv rfl (PV.mvI (.inl rfl) rfl) ?_
      refine RG.pv rfl (PV.add rfl rfl rfl (by omega)) ?_
      refine RG.pv rfl (PV.mvI (.inr rfl) rfl) ?_
      refine RG.nil ?_
      refine ⟨rfl, y + 1, F, ⟨by omega, by omega, hF, fun v u hv hu => ?_⟩, ⟨rfl, trivial⟩, ⟨rfl, rfl, trivial⟩, Cv.p, by omega⟩
      rw [hf v u hv hu, hg v u hv hu, inR_iff]
      constructor
      · rintro ((h | h) | h)
        · exact .inl h
        · right; omega
        · right; omega
      · rintro (h | h)
        · exact .inl (.inl h)
        · by_cases c : (v : Int) - 40 = y
          · right; omega
          · left; right; omega
  · have h2 := of_decide_eq_false h2
    have hk : ∀ v u, v < 80 → u < 80 → gb E v u = (gb D v u || inR r v u) := fun v u hv hu => by
      rw [Bool.eq_iff_iff, hg v u hv hu, Bool.or_eq_true]
      constructor
      · rintro (h | h)
        · exact .inl h
        · exact .inr h.1
      · rintro (h | h)
        · exact .inl h
        · right; refine ⟨h, ?_⟩; rw [inR_iff] at h; omega
    refine WP.exit ?_
    refine WP.seq ?_
    refine WP.region ?_
    refine RG.pv rfl (PV.move (v := v) rfl rfl) ?_
    refine RG.pv rfl (PV.asg (v := v) rfl rfl) ?_
    refine RG.nil ?_
    refine WP.ret ?_
    exact ⟨_, _, ResV.one rfl rfl, Cv.p, k E hE hk⟩
/-- a slice of a bag, replaced -/
theorem Cv.bagSet {α : Type} {e : TypeId} {F : FT α} {xs : List (Sl α)} {v : Value} {ys : List α} {L : List Ch} (i : Nat) (hi : i < xs.length) : Cv (osl e F v ys :: bagS e F xs :: L) (bagS e F (xs.set i ⟨v, ys⟩) :: L) := by
  have h := Cv.bagPut (B := xs.map (ownS e F)) (L := L) (c := osl e F v ys) i (by simpa using hi)
  have e1 : (xs.map (ownS e F)).set i (osl e F v ys) = (xs.set i ⟨v, ys⟩).map (ownS e F) := by rw [List.map_set]; rfl
  rw [e1] at h; exact h
theorem big_s {cv : Value} {bs : List UInt8} (hcode : SL G byteT cv bs) (k : R (.bool (decide (4096 < bs.length))) G L) : CallT Tryz.prog 18 #[cv] G L R := by
  have e : decide (4096 < bs.length) = decide ((4096 : Int) < (bs.length : Int)) := by rw [Bool.eq_iff_iff]; simp; omega
  rw [e] at k
  refine CallT.enter (args := _) Tryz.func18 rfl rfl (by kernel_rfl) rfl ?_
  refine WP.seq ?_
  refine WP.region ?_
  refine RG.pv rfl (PV.mvB (.inr rfl) rfl) ?_
  refine RG.nil ?_
  refine WP.seq ?_
  refine WP.region ?_
  refine RG.pv rfl (PV.move (v := cv) rfl rfl) ?_
  refine RG.pv rfl (PV.len (v := cv) rfl Tryz.underlying41 rfl (SlF.r (Rs.g (L := []) hcode))) ?_
  refine RG.pv rfl (PV.gtr rfl rfl rfl) ?_
  refine RG.pv rfl (PV.mvB (.inr rfl) rfl) ?_
  refine RG.nil ?_
  refine WP.ret ?_
  exact ⟨_, _, ResV.one rfl rfl, Cv.p, k⟩
end Go.Proofs.YtpjajhjcbcfplaaGreat
namespace Go.Proofs.YtpjajhjcbcfplaaGreat
set_option linter.unusedVariables false
set_option linter.unusedSimpArgs false
open Go
set_option maxRecDepth 20000
set_option linter.unusedSimpArgs false
variable {G : Gh} {L : List Ch} {R : Value → Gh → List Ch → Prop}
def celB (S : List Bool) (x y : Int) : Bool := (decide (-40 ≤ x ∧ x < 40) && decide (-40 ≤ y ∧ y < 40)) && gd S ((y + 40) * 80 + x + 40).toNat
def cv (S : List Bool) (ver : Bool) (l k : Int) : Bool := celB S (bif ver then l else k) (bif ver then k else l)
def lineR (ver : Bool) (l lo hi : Int) : Rect := bif ver then ⟨l, lo, l + 1, hi⟩ else ⟨lo, l, hi, l + 1⟩
theorem celB_rng {S : List Bool} {x y : Int} (h : celB S x y = true) : (-40 ≤ x ∧ x < 40) ∧ (-40 ≤ y ∧ y < 40) := by
  simp only [celB, Bool.and_eq_true, decide_eq_true_eq] at h; exact h.1
theorem cv_rng {S : List Bool} {ver : Bool} {l k : Int} (h : cv S ver l k = true) : (-40 ≤ l ∧ l < 40) ∧ (-40 ≤ k ∧ k < 40) := by
  have := celB_rng h
  cases ver
  · exact ⟨this.2, this.1⟩
  · exact this
structure isRun (S : List Bool) (ver : Bool) (l k lo hi : Int) : Prop where
  lk : lo ≤ k ∧ k < hi
  rng : (-40 ≤ lo ∧ hi ≤ 40) ∧ (-40 ≤ l ∧ l < 40)
  all : ∀ u, lo ≤ u → u < hi → cv S ver l u = true
  low : cv S ver l (lo - 1) = false
  high : cv S ver l hi = false
theorem l17Cel_s {v : Value} {S : List Bool} {x y : Int} (h1 : Rs G L boolT v S) (hS : S.length = 6400) (k : R (.bool (celB S x y)) G L) : CallT Tryz.prog 195 #[v, vi x, vi y] G L R := l17Cell_s h1 hS k
theorem run_s {v : Value} {S : List Bool} {ver : Bool} {l k0 : Int} (h1 : Rs G L boolT v S) (hS : S.length = 6400) (hc : cv S ver l k0 = true) (k : ∀ lo hi, isRun S ver l k0 lo hi → R (vrect (lineR ver l lo hi)) G L) : CallT Tryz.prog 196 #[v, vi (bif ver then l else k0), vi (bif ver then k0 else l), .bool ver] G L R := by
  have hr := cv_rng hc
  cases ver with
  | true =>
    have q1 : (bif true then l else k0) = l := rfl
    have q2 : (bif true then k0 else l) = k0 := rfl
    refine CallT.enter (args := _) Tryz.func196 rfl rfl (by kernel_rfl) rfl ?_
    refine WP.seq ?_
    refine WP.region ?_
    refine RG.ot rfl (OT.alloc rfl Zr71 fun b8 => ?_)
    refine RG.nil ?_
    refine WP.seq ?_
    refine WP.region ?_
    refine RG.pv rfl (PV.mvI (.inl rfl) rfl) ?_
    refine RG.pv rfl (PV.mvI (.inl rfl) rfl) ?_
    refine RG.pv rfl (PV.add rfl rfl rfl (by omega)) ?_
    refine RG.pv rfl (PV.mvI (.inr rfl) rfl) ?_
    refine RG.pv rfl (PV.mvI (.inr rfl) rfl) ?_
    refine RG.nil ?_
    refine WP.seq ?_
    refine WP.seq ?_
    refine WP.region ?_
    refine RG.pv rfl (PV.mvB (.inl rfl) rfl) ?_
    refine RG.nil ?_
    refine WP.cond rfl (fun h2 => ?_) (fun h2 => ?_)
    · refine WP.seq ?_
      refine WP.region ?_
      refine RG.pv rfl (PV.mvI (.inl rfl) rfl) ?_
      refine RG.pv rfl (PV.mvI (.inl rfl) rfl) ?_
      refine RG.pv rfl (PV.add rfl rfl rfl (by omega)) ?_
      refine RG.pv rfl (PV.mvI (.inr rfl) rfl) ?_
      refine RG.pv rfl (PV.mvI (.inr rfl) rfl) ?_
      refine RG.nil ?_
      refine WP.seq ?_
      refine WP.block ?_
      refine WP.loop1 [0, 1, 8, 10] (fun (lo : Int) => (-40 ≤ lo ∧ lo ≤ k0) ∧ ∀ u, lo ≤ u → u ≤ k0 → cv S true l u = true) (fun (lo : Int) => [(9, vi lo)]) (fun (lo : Int) => blk b8 71 [vi 0, vi 0, vi 0, vi 0] :: L) (fun (lo : Int) => (lo + 41).toNat) k0 ⟨by omega, fun u h3 h4 => by rw [show u = k0 by omega]; exact hc⟩ ⟨rfl, trivial⟩ Cv.p ?_
      rintro lo τ ⟨hlo, ha⟩
      refine WP.seq ?_
      refine WP.seq ?_
      refine WP.region ?_
      refine RG.pv rfl (PV.move (v := v) rfl rfl) ?_
      refine RG.pv rfl (PV.mvI (.inl rfl) rfl) ?_
      refine RG.pv rfl (PV.mvI (.inl rfl) rfl) ?_
      refine RG.pv rfl (PV.sub rfl rfl rfl (by omega)) ?_
      refine RG.callF (vs := [v, _, _]) rfl rfl En195 rfl (l17Cel_s (Rs.up h1) hS ?_)
      refine RG.nil ?_
      refine WP.cond rfl (fun h3 => ?_) (fun h3 => ?_)
      · have h4 : cv S true l (lo - 1) = true := h3
        have h5 := cv_rng h4
        have ha' : ∀ u, lo - 1 ≤ u → u ≤ k0 → cv S true l u = true := fun u g1 g2 => by
          by_cases c : u = lo - 1
          · rw [c]; exact h4
          · exact ha u (by omega) g2
        refine WP.skip ?_
        refine WP.block ?_
        refine WP.region ?_
        refine RG.pv rfl (PV.mvI (.inl rfl) rfl) ?_
        refine RG.pv rfl (PV.sub rfl rfl rfl (by omega)) ?_
        refine RG.pv rfl (PV.mvI (.inr rfl) rfl) ?_
        refine RG.nil ?_
        exact ⟨rfl, lo - 1, ⟨by omega, ha'⟩, ⟨rfl, trivial⟩, ⟨rfl, rfl, rfl, rfl, trivial⟩, Cv.p, by omega⟩
      · have h4 : cv S true l (lo - 1) = false := h3
        refine WP.exit ?_
        refine WP.seq ?_
        refine WP.block ?_
        refine WP.loop1 [0, 1, 8, 9] (fun (hi : Int) => (k0 < hi ∧ hi ≤ 40) ∧ ∀ u, k0 ≤ u → u < hi → cv S true l u = true) (fun (hi : Int) => [(10, vi hi)]) (fun (hi : Int) => blk b8 71 [vi 0, vi 0, vi 0, vi 0] :: L) (fun (hi : Int) => (41 - hi).toNat) (k0 + 1) ⟨by omega, fun u h3 h4 => by rw [show u = k0 by omega]; exact hc⟩ ⟨rfl, trivial⟩ Cv.p ?_
        rintro hi τ1 ⟨hhi, hb⟩
        refine WP.seq ?_
        refine WP.seq ?_
        refine WP.region ?_
        refine RG.pv rfl (PV.move (v := v) rfl rfl) ?_
        refine RG.pv rfl (PV.mvI (.inl rfl) rfl) ?_
        refine RG.pv rfl (PV.mvI (.inl rfl) rfl) ?_
        refine RG.callF (vs := [v, _, _]) rfl rfl En195 rfl (l17Cel_s (Rs.up h1) hS ?_)
        refine RG.nil ?_
        refine WP.cond rfl (fun h5 => ?_) (fun h5 => ?_)
        · have h6 : cv S true l hi = true := h5
          have h7 := cv_rng h6
          have hb' : ∀ u, k0 ≤ u → u < hi + 1 → cv S true l u = true := fun u g1 g2 => by
            by_cases c : u = hi
            · rw [c]; exact h6
            · exact hb u g1 (by omega)
          refine WP.skip ?_
          refine WP.block ?_
          refine WP.region ?_
          refine RG.pv rfl (PV.mvI (.inl rfl) rfl) ?_
          refine RG.pv rfl (PV.add rfl rfl rfl (by omega)) ?_
          refine RG.pv rfl (PV.mvI (.inr rfl) rfl) ?_
          refine RG.nil ?_
          exact ⟨rfl, hi + 1, ⟨by omega, hb'⟩, ⟨rfl, trivial⟩, ⟨rfl, rfl, rfl, rfl, trivial⟩, Cv.p, by omega⟩
        · have h6 : cv S true l hi = false := h5
          have hrun : isRun S true l k0 lo hi := ⟨by omega, by omega, fun u g1 g2 => by
            by_cases c : u ≤ k0
            · exact ha u g1 c
            · exact hb u (by omega) g2, h4, h6⟩
          refine WP.exit ?_
          refine WP.seq ?_
          refine WP.region ?_
          refine RG.pv rfl (PV.mvI (.inl rfl) rfl) ?_
          refine RG.pv rfl (PV.mvI (.inl rfl) rfl) ?_
          refine RG.pv rfl (PV.mvI (.inl rfl) rfl) ?_
          refine RG.pv rfl (PV.add rfl rfl rfl (by omega)) ?_
          refine RG.pv rfl (PV.mvI (.inl rfl) rfl) ?_
          refine RG.pv rfl (PV.build (vs := [(0, [vi _]), (1, [vi _]), (2, [vi _]), (3, [vi _])]) (out := [_, _, _, _]) rfl Zr71 Pl71 ⟨rfl, (Cl.c rfl), ⟨rfl, (Cl.c rfl), ⟨rfl, (Cl.c rfl), ⟨rfl, (Cl.c rfl), trivial⟩⟩⟩⟩ rfl) ?_
          refine RG.ot rfl (OT.storeW (vs := [vi _, vi _, vi _, vi _]) rfl Sz71 rfl rfl (Cl.c rfl) rfl rfl (OneC.c rfl) ?_)
          refine RG.nil ?_
          refine WP.ret ?_
          exact ⟨_, _, ResV.one rfl (RV1.cell rfl Ag71 rfl), Cv.p, k lo hi hrun⟩
    · cases h2
  | false =>
    have q1 : (bif false then l else k0) = k0 := rfl
    have q2 : (bif false then k0 else l) = l := rfl
    refine CallT.enter (args := _) Tryz.func196 rfl rfl (by kernel_rfl) rfl ?_
    refine WP.seq ?_
    refine WP.region ?_
    refine RG.ot rfl (OT.alloc rfl Zr71 fun b8 => ?_)
    refine RG.nil ?_
    refine WP.seq ?_
    refine WP.region ?_
    refine RG.pv rfl (PV.mvI (.inl rfl) rfl) ?_
    refine RG.pv rfl (PV.mvI (.inl rfl) rfl) ?_
    refine RG.pv rfl (PV.add rfl rfl rfl (by omega)) ?_
    refine RG.pv rfl (PV.mvI (.inr rfl) rfl) ?_
    refine RG.pv rfl (PV.mvI (.inr rfl) rfl) ?_
    refine RG.nil ?_
    refine WP.seq ?_
    refine WP.seq ?_
    refine WP.region ?_
    refine RG.pv rfl (PV.mvB (.inl rfl) rfl) ?_
    refine RG.nil ?_
    refine WP.cond rfl (fun h2 => ?_) (fun h2 => ?_)
    · cases h2
    · refine WP.skip ?_
      refine WP.seq ?_
      refine WP.block ?_
      refine WP.loop1 [0, 2, 8, 10] (fun (lo : Int) => (-40 ≤ lo ∧ lo ≤ k0) ∧ ∀ u, lo ≤ u → u ≤ k0 → cv S false l u = true) (fun (lo : Int) => [(9, vi lo)]) (fun (lo : Int) => blk b8 71 [vi 0, vi 0, vi 0, vi 0] :: L) (fun (lo : Int) => (lo + 41).toNat) k0 ⟨by omega, fun u h3 h4 => by rw [show u = k0 by omega]; exact hc⟩ ⟨rfl, trivial⟩ Cv.p ?_
      rintro lo τ ⟨hlo, ha⟩
      refine WP.seq ?_
      refine WP.seq ?_
      refine WP.region ?_
      refine RG.pv rfl (PV.move (v := v) rfl rfl) ?_
      refine RG.pv rfl (PV.mvI (.inl rfl) rfl) ?_
      refine RG.pv rfl (PV.sub rfl rfl rfl (by omega)) ?_
      refine RG.pv rfl (PV.mvI (.inl rfl) rfl) ?_
      refine RG.callF (vs := [v, _, _]) rfl rfl En195 rfl (l17Cel_s (Rs.up h1) hS ?_)
      refine RG.nil ?_
      refine WP.cond rfl (fun h3 => ?_) (fun h3 => ?_)
      · have h4 : cv S false l (lo - 1) = true := h3
        have h5 := cv_rng h4
        have ha' : ∀ u, lo - 1 ≤ u → u ≤ k0 → cv S false l u = true := fun u g1 g2 => by
          by_cases c : u = lo - 1
          · rw [c]; exact h4
          · exact ha u (by omega) g2
        refine WP.skip ?_
        refine WP.block ?_
        refine WP.region ?_
        refine RG.pv rfl (PV.mvI (.inl rfl) rfl) ?_
        refine RG.pv rfl (PV.sub rfl rfl rfl (by omega)) ?_
        refine RG.pv rfl (PV.mvI (.inr rfl) rfl) ?_
        refine RG.nil ?_
        exact ⟨rfl, lo - 1, ⟨by omega, ha'⟩, ⟨rfl, trivial⟩, ⟨rfl, rfl, rfl, rfl, trivial⟩, Cv.p, by omega⟩
      · have h4 : cv S false l (lo - 1) = false := h3
        refine WP.exit ?_
        refine WP.seq ?_
        refine WP.block ?_
        refine WP.loop1 [0, 2, 8, 9] (fun (hi : Int) => (k0 < hi ∧ hi ≤ 40) ∧ ∀ u, k0 ≤ u → u < hi → cv S false l u = true) (fun (hi : Int) => [(10, vi hi)]) (fun (hi : Int) => blk b8 71 [vi 0, vi 0, vi 0, vi 0] :: L) (fun (hi : Int) => (41 - hi).toNat) (k0 + 1) ⟨by omega, fun u h3 h4 => by rw [show u = k0 by omega]; exact hc⟩ ⟨rfl, trivial⟩ Cv.p ?_
        rintro hi τ1 ⟨hhi, hb⟩
        refine WP.seq ?_
        refine WP.seq ?_
        refine WP.region ?_
        refine RG.pv rfl (PV.move (v := v) rfl rfl) ?_
        refine RG.pv rfl (PV.mvI (.inl rfl) rfl) ?_
        refine RG.pv rfl (PV.mvI (.inl rfl) rfl) ?_
        refine RG.callF (vs := [v, _, _]) rfl rfl En195 rfl (l17Cel_s (Rs.up h1) hS ?_)
        refine RG.nil ?_
        refine WP.cond rfl (fun h5 => ?_) (fun h5 => ?_)
        · have h6 : cv S false l hi = true := h5
          have h7 := cv_rng h6
          have hb' : ∀ u, k0 ≤ u → u < hi + 1 → cv S false l u = true := fun u g1 g2 => by
            by_cases c : u = hi
            · rw [c]; exact h6
            · exact hb u g1 (by omega)
          refine WP.skip ?_
          refine WP.block ?_
          refine WP.region ?_
          refine RG.pv rfl (PV.mvI (.inl rfl) rfl) ?_
          refine RG.pv rfl (PV.add rfl rfl rfl (by omega)) ?_
          refine RG.pv rfl (PV.mvI (.inr rfl) rfl) ?_
          refine RG.nil ?_
          exact ⟨rfl, hi + 1, ⟨by omega, hb'⟩, ⟨rfl, trivial⟩, ⟨rfl, rfl, rfl, rfl, trivial⟩, Cv.p, by omega⟩
        · have h6 : cv S false l hi = false := h5
          have hrun : isRun S false l k0 lo hi := ⟨by omega, by omega, fun u g1 g2 => by
            by_cases c : u ≤ k0
            · exact ha u g1 c
            · exact hb u (by omega) g2, h4, h6⟩
          refine WP.exit ?_
          refine WP.seq ?_
          refine WP.region ?_
          refine RG.pv rfl (PV.mvI (.inl rfl) rfl) ?_
          refine RG.pv rfl (PV.mvI (.inl rfl) rfl) ?_
          refine RG.pv rfl (PV.mvI (.inl rfl) rfl) ?_
          refine RG.pv rfl (PV.mvI (.inl rfl) rfl) ?_
          refine RG.pv rfl (PV.add rfl rfl rfl (by omega)) ?_
          refine RG.pv rfl (PV.build (vs := [(0, [vi _]), (1, [vi _]), (2, [vi _]), (3, [vi _])]) (out := [_, _, _, _]) rfl Zr71 Pl71 ⟨rfl, (Cl.c rfl), ⟨rfl, (Cl.c rfl), ⟨rfl, (Cl.c rfl), ⟨rfl, (Cl.c rfl), trivial⟩⟩⟩⟩ rfl) ?_
          refine RG.ot rfl (OT.storeW (vs := [vi _, vi _, vi _, vi _]) rfl Sz71 rfl rfl (Cl.c rfl) rfl rfl (OneC.c rfl) ?_)
          refine RG.nil ?_
          refine WP.ret ?_
          exact ⟨_, _, ResV.one rfl (RV1.cell rfl Ag71 rfl), Cv.p, k lo hi hrun⟩
/-- the runs of a set, in any order -/
structure RunsOf (S : List Bool) (ver : Bool) (out : List Rect) : Prop where
  len : out.length ≤ 6400
  run : ∀ r ∈ out, ∃ l k lo hi, isRun S ver l k lo hi ∧ r = lineR ver l lo hi
  all : ∀ l k, cv S ver l k = true → ∃ lo hi, isRun S ver l k lo hi ∧ lineR ver l lo hi ∈ out
theorem run_start {S : List Bool} {ver : Bool} {l : Int} : ∀ (n : Nat) (k : Int), (k + 41).toNat = n → cv S ver l k = true → ∃ s, s ≤ k ∧ cv S ver l (s - 1) = false ∧ ∀ u, s ≤ u → u ≤ k → cv S ver l u = true := by
  intro n
  induction n with
  | zero => intro k hk h; have := cv_rng h; omega
  | succ n ih =>
    intro k hk h
    have hr := cv_rng h
    cases hb : cv S ver l (k - 1) with
    | false => exact ⟨k, Int.le_refl _, hb, fun u h1 h2 => by rw [show u = k by omega]; exact h⟩
    | true =>
      obtain ⟨s, h1, h2, h3⟩ := ih (k - 1) (by omega) hb
      refine ⟨s, by omega, h2, fun u g1 g2 => ?_⟩
      by_cases c : u = k
      · rw [c]; exact h
      · exact h3 u g1 (by omega)
theorem isRun.mv {S : List Bool} {ver : Bool} {l s k lo hi : Int} (h : isRun S ver l s lo hi) (h1 : s ≤ k) (h2 : ∀ u, s ≤ u → u ≤ k → cv S ver l u = true) : isRun S ver l k lo hi := by
  refine ⟨⟨by have := h.lk; omega, ?_⟩, h.rng, h.all, h.low, h.high⟩
  by_cases c : k < hi
  · exact c
  · have := h2 hi (by have := h.lk; omega) (by omega)
    rw [h.high] at this; cases this
/-- the runs that begin in the lines and places seen -/
def Seen (S : List Bool) (ver : Bool) (out : List Rect) (i k : Int) : Prop := ∀ l s, (l < i ∨ (l = i ∧ s < k)) → cv S ver l s = true → cv S ver l (s - 1) = false → ∃ lo hi, isRun S ver l s lo hi ∧ lineR ver l lo hi ∈ out
theorem Seen.next {S : List Bool} {ver : Bool} {out : List Rect} {i k : Int} (h : Seen S ver out i k) (hc : (cv S ver i k && !cv S ver i (k - 1)) = false) : Seen S ver out i (k + 1) := fun l s h1 h2 h3 => by
  by_cases c : l = i ∧ s = k
  · rw [c.1, c.2] at h2 h3; rw [h2, h3] at hc; cases hc
  · exact h l s (by omega) h2 h3
theorem Seen.add {S : List Bool} {ver : Bool} {out : List Rect} {i k lo hi : Int} (h : Seen S ver out i k) (hr : isRun S ver i k lo hi) : Seen S ver (out ++ [lineR ver i lo hi]) i (k + 1) := fun l s h1 h2 h3 => by
  by_cases c : l = i ∧ s = k
  · rw [c.1, c.2]; exact ⟨lo, hi, hr, by simp⟩
  · obtain ⟨a, b, g1, g2⟩ := h l s (by omega) h2 h3
    exact ⟨a, b, g1, List.mem_append_left _ g2⟩
theorem Seen.all {S : List Bool} {ver : Bool} {out : List Rect} (h : Seen S ver out 40 (-40)) : ∀ l k, cv S ver l k = true → ∃ lo hi, isRun S ver l k lo hi ∧ lineR ver l lo hi ∈ out := fun l k hk => by
  obtain ⟨s, h1, h2, h3⟩ := run_start _ k rfl hk
  have hr := cv_rng hk
  obtain ⟨lo, hi, g1, g2⟩ := h l s (by omega) (h3 s (Int.le_refl _) h1) h2
  exact ⟨lo, hi, g1.mv h1 h3, g2⟩
def RunL (S : List Bool) (ver : Bool) (out : List Rect) : Prop := ∀ r ∈ out, ∃ l k lo hi, isRun S ver l k lo hi ∧ r = lineR ver l lo hi
theorem RunL.add {S : List Bool} {ver : Bool} {out : List Rect} {i k lo hi : Int} (h : RunL S ver out) (hr : isRun S ver i k lo hi) : RunL S ver (out ++ [lineR ver i lo hi]) := fun r hm => by
  rcases List.mem_append.1 hm with h1 | h1
  · exact h r h1
  · simp only [List.mem_singleton] at h1; exact ⟨i, k, lo, hi, hr, h1⟩
theorem RunL.nil {S : List Bool} {ver : Bool} : RunL S ver [] := fun r h => by cases h
theorem Seen.init {S : List Bool} {ver : Bool} {out : List Rect} : Seen S ver out (-40) (-40) := fun l s h1 h2 h3 => by have := cv_rng h2; omega
theorem Seen.line {S : List Bool} {ver : Bool} {out : List Rect} {i : Int} (h : Seen S ver out i 40) : Seen S ver out (i + 1) (-40) := fun l s h1 h2 h3 => by
  have := cv_rng h2
  exact h l s (by omega) h2 h3
theorem runs_s {v : Value} {S : List Bool} {ver : Bool} (h1 : Rs G L boolT v S) (hS : S.length = 6400) (k : ∀ v' out, RunsOf S ver out → R v' G (osl 71 rectT v' out :: L)) : CallT Tryz.prog 167 #[v, .bool ver] G L R := by
  refine CallT.enter (args := _) Tryz.func167 rfl rfl (by kernel_rfl) rfl ?_
  refine WP.seq ?_
  refine WP.region ?_
  refine RG.pv rfl (PV.asg rfl rfl) ?_
  refine RG.nil ?_
  refine WP.seq ?_
  refine WP.region ?_
  refine RG.ot rfl (OT.bslice (F := rectT) (els := []) rfl El28 rfl (by decide) rfl (by decide) trivial fun v11 => ?_)
  refine RG.pv rfl (PV.asg (v := v11) rfl rfl) ?_
  refine RG.nil ?_
  refine WP.seq ?_
  refine WP.seq ?_
  refine WP.region ?_
  refine RG.pv rfl (PV.mvI (.inr rfl) rfl) ?_
  refine RG.nil ?_
  refine WP.block ?_
  refine WP.loop3 [0, 1] (fun (i : Int) (out : List Rect) (q : Value) => (-40 ≤ i ∧ i ≤ 40) ∧ (out.length : Int) ≤ (i + 40) * 80 ∧ RunL S ver out ∧ Seen S ver out i (-40)) (fun (i : Int) (out : List Rect) (q : Value) => [(6, vi i), (5, q)]) (fun (i : Int) (out : List Rect) (q : Value) => osl 71 rectT q out :: L) (fun (i : Int) (out : List Rect) (q : Value) => (40 - i).toNat) (-40) [] v11 ⟨by omega, by simp, RunL.nil, Seen.init⟩ ⟨rfl, rfl, trivial⟩ Cv.p ?_
  rintro i out q τ ⟨hi, hlen, hrl, hseen⟩
  refine WP.seq ?_
  refine WP.seq ?_
  refine WP.region ?_
  refine RG.pv rfl (PV.mvI (.inl rfl) rfl) ?_
  refine RG.pv rfl (PV.lss rfl rfl rfl) ?_
  refine RG.nil ?_
  refine WP.cond rfl (fun h2 => ?_) (fun h2 => ?_)
  · have h2 := of_decide_eq_true h2
    refine WP.skip ?_
    refine WP.seq ?_
    refine WP.block ?_
    refine WP.seq ?_
    refine WP.region ?_
    refine RG.pv rfl (PV.mvI (.inr rfl) rfl) ?_
    refine RG.nil ?_
    refine WP.block ?_
    refine WP.loop3 [0, 1, 6] (fun (m : Int) (out2 : List Rect) (q2 : Value) => (-40 ≤ m ∧ m ≤ 40) ∧ (out2.length : Int) ≤ (i + 40) * 80 + (m + 40) ∧ RunL S ver out2 ∧ Seen S ver out2 i m) (fun (m : Int) (out2 : List Rect) (q2 : Value) => [(7, vi m), (5, q2)]) (fun (m : Int) (out2 : List Rect) (q2 : Value) => osl 71 rectT q2 out2 :: L) (fun (m : Int) (out2 : List Rect) (q2 : Value) => (40 - m).toNat) (-40) out q ⟨by omega, by omega, hrl, hseen⟩ ⟨rfl, rfl, trivial⟩ Cv.p ?_
    rintro m out2 q2 τ1 ⟨hm, hlen2, hrl2, hseen2⟩
    refine WP.seq ?_
    refine WP.seq ?_
    refine WP.region ?_
    refine RG.pv rfl (PV.mvI (.inl rfl) rfl) ?_
    refine RG.pv rfl (PV.lss rfl rfl rfl) ?_
    refine RG.nil ?_
    refine WP.cond rfl (fun h3 => ?_) (fun h3 => ?_)
    · have h3 := of_decide_eq_true h3
      refine WP.skip ?_
      refine WP.seq ?_
      refine WP.block ?_
      refine WP.seq ?_
      refine WP.region ?_
      refine RG.pv rfl (PV.mvI (.inl rfl) rfl) ?_
      refine RG.pv rfl (PV.mvI (.inl rfl) rfl) ?_
      refine RG.pv rfl (PV.mvI (.inr rfl) rfl) ?_
      refine RG.pv rfl (PV.mvI (.inr rfl) rfl) ?_
      refine RG.nil ?_
      refine WP.seq ?_
      refine WP.region ?_
      refine RG.pv rfl (PV.move (v := v) rfl rfl) ?_
      refine RG.pv rfl (PV.mvI (.inl rfl) rfl) ?_
      refine RG.pv rfl (PV.sub rfl rfl rfl (by omega)) ?_
      refine RG.pv rfl (PV.mvI (.inl rfl) rfl) ?_
      refine RG.callF (vs := [v, _, _]) rfl rfl En195 rfl (l17Cel_s (Rs.up h1) hS ?_)
      refine RG.pv rfl (PV.mvB (.inr rfl) rfl) ?_
      refine RG.nil ?_
      refine WP.cut1 [0, 1, 5, 6, 7] (fun (u : Unit) => True) (fun (u : Unit) => [(8, vi (bif ver then i else m)), (9, vi (bif ver then m else i)), (10, .bool (cv S ver i (m - 1)))]) (fun (u : Unit) => osl 71 rectT q2 out2 :: L) ?_ ?_
      refine WP.seq ?_
      refine WP.region ?_
      refine RG.pv rfl (PV.mvB (.inl rfl) rfl) ?_
      refine RG.nil ?_
      · refine WP.cond rfl (fun h4 => ?_) (fun h4 => ?_)
        · subst h4
          refine WP.seq ?_
          refine WP.region ?_
          refine RG.pv rfl (PV.mvI (.inl rfl) rfl) ?_
          refine RG.pv rfl (PV.mvI (.inl rfl) rfl) ?_
          refine RG.pv rfl (PV.mvI (.inr rfl) rfl) ?_
          refine RG.pv rfl (PV.mvI (.inr rfl) rfl) ?_
          refine RG.nil ?_
          refine WP.region ?_
          refine RG.pv rfl (PV.move (v := v) rfl rfl) ?_
          refine RG.pv rfl (PV.mvI (.inl rfl) rfl) ?_
          refine RG.pv rfl (PV.mvI (.inl rfl) rfl) ?_
          refine RG.pv rfl (PV.sub rfl rfl rfl (by omega)) ?_
          refine RG.callF (vs := [v, _, _]) rfl rfl En195 rfl (l17Cel_s (Rs.up h1) hS ?_)
          refine RG.pv rfl (PV.mvB (.inr rfl) rfl) ?_
          refine RG.nil ?_
          exact ⟨rfl, (), trivial, ⟨rfl, rfl, rfl, trivial⟩, ⟨rfl, rfl, rfl, rfl, rfl, trivial⟩, Cv.p⟩
        · subst h4
          refine WP.skip ?_
          exact ⟨rfl, (), trivial, ⟨rfl, rfl, rfl, trivial⟩, ⟨rfl, rfl, rfl, rfl, rfl, trivial⟩, Cv.p⟩
      rintro _u τ2 _
      refine WP.seq ?_
      refine WP.region ?_
      refine RG.pv rfl (PV.move (v := v) rfl rfl) ?_
      refine RG.pv rfl (PV.mvI (.inl rfl) rfl) ?_
      refine RG.pv rfl (PV.mvI (.inl rfl) rfl) ?_
      refine RG.callF (vs := [v, _, _]) rfl rfl En195 rfl (l17Cel_s (Rs.up h1) hS ?_)
      refine RG.pv rfl (PV.mvB (.inl rfl) rfl) ?_
      refine RG.gs rfl rfl rfl (fun hp => (PV.mvB (.inl rfl) rfl)) ?_
      refine RG.gs rfl rfl rfl (fun hp => (PV.not rfl (gs_t hp))) ?_
      refine RG.pv rfl (PV.pickA rfl rfl (fun hq => gs_t (geqT hq)) rfl) ?_
      refine RG.nil ?_
      refine WP.cond rfl (fun h5 => ?_) (fun h5 => ?_)
      · have h50 : (cv S ver i m && !cv S ver i (m - 1)) = true := h5
        have h6 : cv S ver i m = true ∧ cv S ver i (m - 1) = false := by simpa using h50
        have hcm := h6.1
        refine WP.region ?_
        refine RG.pv rfl (PV.move (v := q2) rfl rfl) ?_
        refine RG.pv rfl (PV.move (v := v) rfl rfl) ?_
        refine RG.pv rfl (PV.mvI (.inl rfl) rfl) ?_
        refine RG.pv rfl (PV.mvI (.inl rfl) rfl) ?_
        refine RG.pv rfl (PV.mvB (.inl rfl) rfl) ?_
        refine RG.callF (vs := [v, _, _, _]) rfl rfl En196 rfl (run_s (l := i) (k0 := m) (Rs.up h1) hS hcm (fun low48 hiw48 hrw48 => ?_))
        refine RG.ot rfl (OT.bslice (F := rectT) (els := [_]) rfl El28 rfl (by decide) rfl (by decide) ⟨rfl, (Cl.c rfl), trivial⟩ fun v49 => ?_)
        refine RG.ot rfl (OT.append (v := q2) (u := v49) (F := rectT) rfl El28 rfl (by decide) rfl rfl Rs.o (OneL.c (fun _ => rfl)) rfl (by first | omega | (simp <;> omega)) fun v50 => ?_)
        refine RG.pv rfl (PV.asg (v := v50) rfl rfl) ?_
        refine RG.nil ?_
        refine WP.region ?_
        refine RG.pv rfl (PV.mvI (.inl rfl) rfl) ?_
        refine RG.pv rfl (PV.add rfl rfl rfl (by omega)) ?_
        refine RG.pv rfl (PV.mvI (.inr rfl) rfl) ?_
        refine RG.nil ?_
        exact ⟨rfl, m + 1, (out2 ++ [lineR ver i low48 hiw48]), v50, ⟨by omega, by simp; omega, hrl2.add hrw48, hseen2.add hrw48⟩, ⟨rfl, rfl, trivial⟩, ⟨rfl, rfl, rfl, trivial⟩, Cv.p, by omega⟩
      · refine WP.skip ?_
        refine WP.region ?_
        refine RG.pv rfl (PV.mvI (.inl rfl) rfl) ?_
        refine RG.pv rfl (PV.add rfl rfl rfl (by omega)) ?_
        refine RG.pv rfl (PV.mvI (.inr rfl) rfl) ?_
        refine RG.nil ?_
        exact ⟨rfl, m + 1, out2, q2, ⟨by omega, by omega, hrl2, hseen2.next h5⟩, ⟨rfl, rfl, trivial⟩, ⟨rfl, rfl, rfl, trivial⟩, Cv.p, by omega⟩
    · have h3 := of_decide_eq_false h3
      obtain rfl : m = 40 := by omega
      refine WP.exit ?_
      refine WP.region ?_
      refine RG.pv rfl (PV.mvI (.inl rfl) rfl) ?_
      refine RG.pv rfl (PV.add rfl rfl rfl (by omega)) ?_
      refine RG.pv rfl (PV.mvI (.inr rfl) rfl) ?_
      refine RG.nil ?_
      exact ⟨rfl, i + 1, out2, q2, ⟨by omega, by omega, hrl2, hseen2.line⟩, ⟨rfl, rfl, trivial⟩, ⟨rfl, rfl, trivial⟩, Cv.p, by omega⟩
  · have h2 := of_decide_eq_false h2
    obtain rfl : i = 40 := by omega
    refine WP.exit ?_
    refine WP.seq ?_
    refine WP.region ?_
    refine RG.pv rfl (PV.move (v := q) rfl rfl) ?_
    refine RG.pv rfl (PV.asg (v := q) rfl rfl) ?_
    refine RG.nil ?_
    refine WP.ret ?_
    exact ⟨_, _, ResV.one rfl rfl, Cv.p, k q out ⟨by omega, hrl, hseen.all⟩⟩
structure RunsA (S : List Bool) (out : List Rect) : Prop where
  len : out.length ≤ 12800
  run : ∀ r ∈ out, ∃ ver l k lo hi, isRun S ver l k lo hi ∧ r = lineR ver l lo hi
  all : ∀ ver l k, cv S ver l k = true → ∃ lo hi, isRun S ver l k lo hi ∧ lineR ver l lo hi ∈ out
theorem RunsA.of {S : List Bool} {a b : List Rect} (ha : RunsOf S false a) (hb : RunsOf S true b) : RunsA S (a ++ b) := ⟨by have := ha.len; have := hb.len; simp; omega, fun r hr => by
  rcases List.mem_append.1 hr with h | h
  · obtain ⟨l, k, lo, hi, h1, h2⟩ := ha.run r h; exact ⟨false, l, k, lo, hi, h1, h2⟩
  · obtain ⟨l, k, lo, hi, h1, h2⟩ := hb.run r h; exact ⟨true, l, k, lo, hi, h1, h2⟩, fun ver l k h => by
  cases ver with
  | false => obtain ⟨lo, hi, h1, h2⟩ := ha.all l k h; exact ⟨lo, hi, h1, List.mem_append_left _ h2⟩
  | true => obtain ⟨lo, hi, h1, h2⟩ := hb.all l k h; exact ⟨lo, hi, h1, List.mem_append_right _ h2⟩⟩
theorem lineR_valid {S : List Bool} {ver : Bool} {l k lo hi : Int} (h : isRun S ver l k lo hi) : validRect (lineR ver l lo hi) = true := by
  have h1 := h.lk; have h2 := h.rng
  rw [validR_iff]
  cases ver <;> simp only [lineR, cond_true, cond_false] <;> omega
theorem runsAll_s {v : Value} {S : List Bool} (h1 : Rs G L boolT v S) (hS : S.length = 6400) (k : ∀ v' out, RunsA S out → R v' G (osl 71 rectT v' out :: L)) : CallT Tryz.prog 112 #[v] G L R := by
  refine CallT.enter (args := _) Tryz.func112 rfl rfl (by kernel_rfl) rfl ?_
  refine WP.seq ?_
  refine WP.region ?_
  refine RG.pv rfl (PV.asg rfl rfl) ?_
  refine RG.nil ?_
  refine WP.seq ?_
  refine WP.region ?_
  refine RG.pv rfl (PV.move (v := v) rfl rfl) ?_
  refine RG.callF (vs := [v, _]) rfl rfl En167 rfl (runs_s (Rs.up h1) hS (fun v4 outv4 houtv4 => have hlnv4 := houtv4.len; ?_))
  refine RG.pv rfl (PV.move (v := v) rfl rfl) ?_
  refine RG.callF (vs := [v, _]) rfl rfl En167 rfl (runs_s (Rs.up h1) hS (fun v6 outv6 houtv6 => have hlnv6 := houtv6.len; ?_))
  refine RG.ot rfl (OT.append (v := v4) (u := v6) (F := rectT) rfl El28 rfl (by decide) rfl rfl Rs.o (OneL.c (fun _ => rfl)) rfl (by first | omega | (simp <;> omega)) fun v7 => ?_)
  refine RG.pv rfl (PV.asg (v := v7) rfl rfl) ?_
  refine RG.nil ?_
  refine WP.ret ?_
  exact ⟨_, _, ResV.one rfl rfl, Cv.p, k v7 _ (RunsA.of houtv4 houtv6)⟩
def lenR (r : Rect) : Int := (r.x1 - r.x0) * (r.y1 - r.y0)
/-- the cells of the rectangles of a list that are shorter than w -/
def markC (list : List Rect) (w : Int) (y x : Nat) : Bool := list.any fun r => decide (lenR r < w) && inR r y x
theorem gb_repf (n y x : Nat) : gb (List.replicate n false) y x = false := by
  unfold gb gd
  rw [List.getElem?_replicate]; split <;> rfl
theorem gb_rep0 {list : List Rect} {w : Int} (y x : Nat) : gb (List.replicate 6400 false) y x = markC (list.take 0) w y x := by rw [gb_repf]; rfl
theorem len17_s {r : Rect} (hv : validRect r = true) (k : R (vi (lenR r)) G L) : CallT Tryz.prog 120 #[vrect r] G L R := by
  have h := validR_iff.1 hv
  have hm : 0 ≤ (r.x1 - r.x0) * (r.y1 - r.y0) ∧ (r.x1 - r.x0) * (r.y1 - r.y0) ≤ 80 * 80 := ⟨Int.mul_nonneg (by omega) (by omega), Int.mul_le_mul (by omega) (by omega) (by omega) (by omega)⟩
  refine CallT.enter (args := _) Tryz.func120 rfl rfl (by kernel_rfl) rfl ?_
  refine WP.seq ?_
  refine WP.region ?_
  refine RG.ot rfl (OT.box (cs := rectT.enc r) rfl rfl rfl fun b1 => ?_)
  refine RG.pv rfl (PV.mvI (.inr rfl) rfl) ?_
  refine RG.nil ?_
  refine WP.seq ?_
  refine WP.region ?_
  refine RG.pv rfl (PV.field rfl Fo71_2 rfl) ?_
  refine RG.pv rfl (PV.load1 rfl Sc2 rfl (Rd.blk rfl)) ?_
  refine RG.pv rfl (PV.field rfl Fo71_0 rfl) ?_
  refine RG.pv rfl (PV.load1 rfl Sc2 rfl (Rd.blk rfl)) ?_
  refine RG.pv rfl (PV.sub rfl rfl rfl (by omega)) ?_
  refine RG.pv rfl (PV.field rfl Fo71_3 rfl) ?_
  refine RG.pv rfl (PV.load1 rfl Sc2 rfl (Rd.blk rfl)) ?_
  refine RG.pv rfl (PV.field rfl Fo71_1 rfl) ?_
  refine RG.pv rfl (PV.load1 rfl Sc2 rfl (Rd.blk rfl)) ?_
  refine RG.pv rfl (PV.sub rfl rfl rfl (by omega)) ?_
  refine RG.pv rfl (PV.mul rfl rfl rfl (by omega)) ?_
  refine RG.pv rfl (PV.mvI (.inr rfl) rfl) ?_
  refine RG.nil ?_
  refine WP.ret ?_
  exact ⟨_, _, ResV.one rfl rfl, Cv.p, k⟩
theorem mark_s {v : Value} {list : List Rect} {w : Int} (h1 : Rs G L rectT v list) (hv : ∀ r ∈ list, validRect r = true) (hl : list.length ≤ 1000000) (k : ∀ v' D, D.length = 6400 → (∀ y x, y < 80 → x < 80 → gb D y x = markC list w y x) → R v' G (osl 4 boolT v' D :: L)) : CallT Tryz.prog 111 #[v, vi w] G L R := by
  refine CallT.enter (args := _) Tryz.func111 rfl rfl (by kernel_rfl) rfl ?_
  refine WP.seq ?_
  refine WP.region ?_
  refine RG.pv rfl (PV.asg rfl rfl) ?_
  refine RG.nil ?_
  refine WP.seq ?_
  refine WP.region ?_
  refine RG.ot rfl (OT.make (m := 6400) (F := boolT) (a0 := false) rfl El111 rfl (by decide) rfl rfl (by omega) (by omega) fun v7 => ?_)
  refine RG.pv rfl (PV.asg (v := v7) rfl rfl) ?_
  refine RG.nil ?_
  refine WP.seq ?_
  refine WP.seq ?_
  refine WP.region ?_
  refine RG.pv rfl (PV.mvI (.inr rfl) rfl) ?_
  refine RG.nil ?_
  refine WP.block ?_
  refine WP.loop3 [0, 1] (fun (i : Nat) (E : List Bool) (q : Value) => i ≤ list.length ∧ E.length = 6400 ∧ ∀ y x, y < 80 → x < 80 → gb E y x = markC (list.take i) w y x) (fun (i : Nat) (E : List Bool) (q : Value) => [(6, vi i), (5, q)]) (fun (i : Nat) (E : List Bool) (q : Value) => osl 4 boolT q E :: L) (fun (i : Nat) (E : List Bool) (q : Value) => list.length - i) 0 (List.replicate 6400 false) v7 ⟨by omega, by simp, fun y x _ _ => gb_rep0 y x⟩ ⟨rfl, rfl, trivial⟩ Cv.p ?_
  rintro i E q τ ⟨hi, hE, hg⟩
  refine WP.seq ?_
  refine WP.seq ?_
  refine WP.region ?_
  refine RG.pv rfl (PV.mvI (.inl rfl) rfl) ?_
  refine RG.pv rfl (PV.move (v := v) rfl rfl) ?_
  refine RG.pv rfl (PV.len (v := v) rfl Tryz.underlying28 rfl (SlF.r h1)) ?_
  refine RG.pv rfl (PV.lss rfl rfl rfl) ?_
  refine RG.nil ?_
  refine WP.cond rfl (fun h2 => ?_) (fun h2 => ?_)
  · have h2 := of_decide_eq_true h2
    have hil : i < list.length := by omega
    have htk : list.take (i + 1) = list.take i ++ [gd list i] := by rw [List.take_add_one, getG hil]; rfl
    refine WP.skip ?_
    refine WP.seq ?_
    refine WP.block ?_
    refine WP.seq ?_
    refine WP.region ?_
    refine RG.pv rfl (PV.move (v := v) rfl rfl) ?_
    refine RG.pv rfl (PV.mvI (.inl rfl) rfl) ?_
    refine RG.pv rfl (PV.idxS (v := v) rfl Is28 rfl (SlF.r h1) rfl rfl (by omega)) ?_
    refine RG.pv rfl (PV.loadE rfl Ag71 rfl rfl (El.r h1 (getG (by omega)))) ?_
    refine RG.callF (vs := [_]) rfl rfl En120 rfl (len17_s (hv _ (gd_mem (by omega))) ?_)
    refine RG.pv rfl (PV.mvI (.inl rfl) rfl) ?_
    refine RG.pv rfl (PV.lss rfl rfl rfl) ?_
    refine RG.nil ?_
    refine WP.cond rfl (fun h3 => ?_) (fun h3 => ?_)
    · have h3 := of_decide_eq_true h3
      have h4 : decide (lenR (gd list i) < w) = true := decide_eq_true h3
      refine WP.region ?_
      refine RG.pv rfl (PV.move (v := q) rfl rfl) ?_
      refine RG.pv rfl (PV.move (v := v) rfl rfl) ?_
      refine RG.pv rfl (PV.mvI (.inl rfl) rfl) ?_
      refine RG.pv rfl (PV.idxS (v := v) rfl Is28 rfl (SlF.r h1) rfl rfl (by omega)) ?_
      refine RG.pv rfl (PV.loadE rfl Ag71 rfl rfl (El.r h1 (getG (by omega)))) ?_
      refine RG.callF (vs := [q, _]) rfl rfl En121 rfl (CallT.exS q (fill_s hE (hv _ (gd_mem (by omega))) (fun D' hD' hg' => ?_)))
      refine RG.pv rfl (PV.asg rfl rfl) ?_
      refine RG.nil ?_
      refine WP.region ?_
      refine RG.pv rfl (PV.mvI (.inl rfl) rfl) ?_
      refine RG.pv rfl (PV.add rfl rfl rfl (by omega)) ?_
      refine RG.pv rfl (PV.mvI (.inr rfl) rfl) ?_
      refine RG.nil ?_
      exact ⟨rfl, i + 1, D', q, ⟨by omega, hD', fun y x hy hx => by rw [hg' y x hy hx, hg y x hy hx, markC, markC, htk, List.any_append]; simp [h4]⟩, ⟨rfl, rfl, trivial⟩, ⟨rfl, rfl, trivial⟩, Cv.p, by omega⟩
    · have h3 := of_decide_eq_false h3
      have h4 : decide (lenR (gd list i) < w) = false := decide_eq_false h3
      refine WP.skip ?_
      refine WP.region ?_
      refine RG.pv rfl (PV.mvI (.inl rfl) rfl) ?_
      refine RG.pv rfl (PV.add rfl rfl rfl (by omega)) ?_
      refine RG.pv rfl (PV.mvI (.inr rfl) rfl) ?_
      refine RG.nil ?_
      exact ⟨rfl, i + 1, E, q, ⟨by omega, hE, fun y x hy hx => by rw [hg y x hy hx, markC, markC, htk, List.any_append]; simp [h4]⟩, ⟨rfl, rfl, trivial⟩, ⟨rfl, rfl, trivial⟩, Cv.p, by omega⟩
  · have h2 := of_decide_eq_false h2
    rw [List.take_of_length_le (by omega)] at hg
    refine WP.exit ?_
    refine WP.seq ?_
    refine WP.region ?_
    refine RG.pv rfl (PV.move (v := q) rfl rfl) ?_
    refine RG.pv rfl (PV.asg (v := q) rfl rfl) ?_
    refine RG.nil ?_
    refine WP.ret ?_
    exact ⟨_, _, ResV.one rfl rfl, Cv.p, k q E hE hg⟩
end Go.Proofs.YtpjajhjcbcfplaaGreat
namespace Go.Proofs.YtpjajhjcbcfplaaGreat
set_option linter.unusedVariables false
set_option linter.unusedSimpArgs false
def rot : Nat → Pt → Pt
  | 0, p => p
  | n + 1, p => rot n ⟨-p.y, p.x⟩
def flip (o : Int) (p : Pt) : Pt := if 4 ≤ o then ⟨p.x, -p.y⟩ else p
def turnP (o : Int) (p : Pt) : Pt := rot (o % 4).toNat (flip o p)
def InB (b : Int) (p : Pt) : Prop := -b ≤ p.x ∧ p.x ≤ b ∧ -b ≤ p.y ∧ p.y ≤ b
theorem rot_in {b : Int} : ∀ (n : Nat) {p : Pt}, InB b p → InB b (rot n p)
  | 0, _, h => h
  | n + 1, p, h => rot_in n (by obtain ⟨h1, h2, h3, h4⟩ := h; exact ⟨by simp only; omega, by simp only; omega, h1, h2⟩)
theorem flip_in {b o : Int} {p : Pt} (h : InB b p) : InB b (flip o p) := by
  unfold flip; split
  · obtain ⟨h1, h2, h3, h4⟩ := h; exact ⟨h1, h2, by simp only; omega, by simp only; omega⟩
  · exact h
theorem turnP_in {b o : Int} {p : Pt} (h : InB b p) : InB b (turnP o p) := rot_in _ (flip_in h)
def moveP (t : Trans) (p : Pt) : Pt := ⟨(turnP t.o p).x + t.x, (turnP t.o p).y + t.y⟩
def moveR (t : Trans) (r : Rect) : Rect :=
  ⟨min (moveP t ⟨r.x0, r.y0⟩).x (moveP t ⟨r.x1, r.y1⟩).x, min (moveP t ⟨r.x0, r.y0⟩).y (moveP t ⟨r.x1, r.y1⟩).y, max (moveP t ⟨r.x0, r.y0⟩).x (moveP t ⟨r.x1, r.y1⟩).x, max (moveP t ⟨r.x0, r.y0⟩).y (moveP t ⟨r.x1, r.y1⟩).y⟩
/-- at most this far out -/
def RIn (b : Int) (r : Rect) : Prop := -b ≤ r.x0 ∧ r.x0 < r.x1 ∧ r.x1 ≤ b ∧ -b ≤ r.y0 ∧ r.y0 < r.y1 ∧ r.y1 ≤ b
theorem moveR_turn {o b : Int} (h : 0 ≤ o ∧ o ≤ 7) {r : Rect} (hr : RIn b r) : RIn b (moveR ⟨o, 0, 0⟩ r) := by
  obtain ⟨h1, h2, h3, h4, h5, h6⟩ := hr
  have ho : o = 0 ∨ o = 1 ∨ o = 2 ∨ o = 3 ∨ o = 4 ∨ o = 5 ∨ o = 6 ∨ o = 7 := by omega
  rcases ho with rfl | rfl | rfl | rfl | rfl | rfl | rfl | rfl <;> (simp [RIn, moveR, moveP, turnP, flip, rot]; omega)
@[reducible] def shiftR (dx dy : Int) (r : Rect) : Rect := ⟨r.x0 + dx, r.y0 + dy, r.x1 + dx, r.y1 + dy⟩
theorem moveR_shift {dx dy : Int} {r : Rect} (h : r.x0 < r.x1 ∧ r.y0 < r.y1) : moveR ⟨0, dx, dy⟩ r = shiftR dx dy r := by
  simp [moveR, moveP, turnP, flip, rot, shiftR]; omega
@[reducible] def joinR (a r : Rect) : Rect := ⟨min a.x0 r.x0, min a.y0 r.y0, max a.x1 r.x1, max a.y1 r.y1⟩
def boxFrom (a : Rect) (xs : List Rect) : Rect := xs.foldl joinR a
def boxL (xs : List Rect) : Rect := boxFrom (gd xs 0) xs
theorem boxFrom_take {a : Rect} {xs : List Rect} {i : Nat} (h : i < xs.length) : boxFrom a (xs.take (i + 1)) = joinR (boxFrom a (xs.take i)) (gd xs i) := by
  rw [List.take_add_one, getG h, boxFrom, boxFrom, List.foldl_append]; rfl
theorem joinR_self (a : Rect) : joinR a a = a := by simp [joinR]
theorem boxFrom_one {xs : List Rect} (h : 0 < xs.length) : boxFrom (gd xs 0) (xs.take 1) = gd xs 0 := by
  rw [boxFrom_take h]; simp [boxFrom, joinR_self]
theorem boxFrom_le (xs : List Rect) : ∀ a : Rect, (boxFrom a xs).x0 ≤ a.x0 ∧ (boxFrom a xs).y0 ≤ a.y0 ∧ a.x1 ≤ (boxFrom a xs).x1 ∧ a.y1 ≤ (boxFrom a xs).y1 ∧ ∀ r ∈ xs, (boxFrom a xs).x0 ≤ r.x0 ∧ (boxFrom a xs).y0 ≤ r.y0 ∧ r.x1 ≤ (boxFrom a xs).x1 ∧ r.y1 ≤ (boxFrom a xs).y1 := by
  induction xs with
  | nil => intro a; exact ⟨Int.le_refl _, Int.le_refl _, Int.le_refl _, Int.le_refl _, fun r hr => by cases hr⟩
  | cons x xs ih =>
    intro a
    obtain ⟨h1, h2, h3, h4, h5⟩ := ih (joinR a x)
    simp only [joinR] at h1 h2 h3 h4
    have e : boxFrom a (x :: xs) = boxFrom (joinR a x) xs := rfl
    rw [e]
    refine ⟨?_, ?_, ?_, ?_, fun r hr => ?_⟩
    · exact Int.le_trans h1 (Int.min_le_left _ _)
    · exact Int.le_trans h2 (Int.min_le_left _ _)
    · exact Int.le_trans (Int.le_max_left _ _) h3
    · exact Int.le_trans (Int.le_max_left _ _) h4
    · rcases List.mem_cons.1 hr with rfl | hr
      · exact ⟨Int.le_trans h1 (Int.min_le_right _ _), Int.le_trans h2 (Int.min_le_right _ _), Int.le_trans (Int.le_max_right _ _) h3, Int.le_trans (Int.le_max_right _ _) h4⟩
      · exact h5 r hr
theorem boxFrom_in {b : Int} : ∀ (xs : List Rect) {a : Rect}, RIn b a → (∀ r ∈ xs, RIn b r) → RIn b (boxFrom a xs)
  | [], _, ha, _ => ha
  | x :: xs, a, ha, h => by
    have hx := h x (.head _)
    refine boxFrom_in xs (a := joinR a x) ?_ fun r hr => h r (.tail _ hr)
    simp only [RIn, joinR] at *; omega
def hashI (h n : Int) : Int := (h * 1000003 + n + 1) % 2147483647
def hashL (h : Int) (l : List Int) : Int := l.foldl hashI h
theorem hashI_bd (h n : Int) : 0 ≤ hashI h n ∧ hashI h n < 2147483647 := ⟨Int.emod_nonneg _ (by omega), Int.emod_lt_of_pos _ (by omega)⟩
theorem hashL_bd {h : Int} : ∀ (l : List Int), 0 ≤ h ∧ h < 2147483647 → 0 ≤ hashL h l ∧ hashL h l < 2147483647 := by
  intro l
  induction l generalizing h with
  | nil => exact fun h => h
  | cons n l ih => exact fun _ => ih (hashI_bd h n)
theorem hashL_take {h : Int} {l : List Int} {i : Nat} (hi : i < l.length) : hashL h (l.take (i + 1)) = hashI (hashL h (l.take i)) (gd l i) := by
  rw [List.take_add_one, getG hi, hashL, hashL, List.foldl_append]; rfl
def hashR (h : Int) (r : Rect) : Int := hashI (hashI (hashI (hashI h (r.x0 + 40)) (r.y0 + 40)) (r.x1 + 40)) (r.y1 + 40)
def hashRs (h : Int) (l : List Rect) : Int := l.foldl hashR h
theorem hashRs_take {h : Int} {l : List Rect} {i : Nat} (hi : i < l.length) : hashRs h (l.take (i + 1)) = hashR (hashRs h (l.take i)) (gd l i) := by
  rw [List.take_add_one, getG hi, hashRs, hashRs, List.foldl_append]; rfl
theorem hashR_bd (h : Int) (r : Rect) : 0 ≤ hashR h r ∧ hashR h r < 2147483647 := hashI_bd _ _
theorem hashRs_bd {h : Int} : ∀ (l : List Rect), 0 ≤ h ∧ h < 2147483647 → 0 ≤ hashRs h l ∧ hashRs h l < 2147483647 := by
  intro l
  induction l generalizing h with
  | nil => exact fun h => h
  | cons n l ih => exact fun _ => ih (hashR_bd h n)
def imgs (xs : List Rect) (o : Int) : List Rect := xs.map (moveR ⟨o, 0, 0⟩)
def shifted (im : List Rect) : List Rect := im.map (shiftR (-40 - (boxL im).x0) (-40 - (boxL im).y0))
def sigO (xs : List Rect) (o : Int) : Int := hashRs 17 (canon (bits (shifted (imgs xs o))))
def sigTo (xs : List Rect) : Nat → Int
  | 0 => sigO xs 0
  | n + 1 => min (sigTo xs n) (sigO xs (n + 1))
theorem sigO_bd (xs : List Rect) (o : Int) : 0 ≤ sigO xs o ∧ sigO xs o < 2147483647 := hashRs_bd _ (by omega)
theorem sigTo_bd (xs : List Rect) : ∀ n, 0 ≤ sigTo xs n ∧ sigTo xs n < 2147483647
  | 0 => sigO_bd xs 0
  | n + 1 => by
    have h1 := sigTo_bd xs n
    have h2 := sigO_bd xs (n + 1)
    simp only [sigTo]; omega
theorem imgs_in {xs : List Rect} {o : Int} (ho : 0 ≤ o ∧ o ≤ 7) (h : ∀ r ∈ xs, RIn 40 r) : ∀ r ∈ imgs xs o, RIn 40 r := by
  intro r hr
  obtain ⟨q, hq, rfl⟩ := List.mem_map.1 hr
  exact moveR_turn ho (h q hq)
theorem boxL_in {im : List Rect} (h0 : 0 < im.length) (h : ∀ r ∈ im, RIn 40 r) : RIn 40 (boxL im) :=
  boxFrom_in im (by rw [gd_eq h0]; exact h _ (List.getElem_mem _)) h
theorem shifted_in {im : List Rect} (h0 : 0 < im.length) (h : ∀ r ∈ im, RIn 40 r) : ∀ r ∈ im, RIn 40 (shiftR (-40 - (boxL im).x0) (-40 - (boxL im).y0) r) := by
  intro r hr
  have h1 := boxL_in h0 h
  have h2 := (boxFrom_le im (gd im 0)).2.2.2.2 r hr
  have h3 := h r hr
  simp only [boxL] at *
  simp only [RIn, shiftR] at *; omega
end Go.Proofs.YtpjajhjcbcfplaaGreat
namespace Go.Proofs.YtpjajhjcbcfplaaGreat
set_option linter.unusedVariables false
set_option linter.unusedSimpArgs false
open Go
set_option maxRecDepth 20000
set_option linter.unusedSimpArgs false
variable {G : Gh} {L : List Ch} {R : Value → Gh → List Ch → Prop}
theorem turn_s {o : Int} {p : Pt} (ho : 0 ≤ o ∧ o ≤ 7) (hp : InB 1000 p) (k : R (vpt (turnP o p)) G L) : CallT Tryz.prog 225 #[vi o, vpt p] G L R := by
  have hf : InB 1000 (flip o p) := flip_in hp
  obtain ⟨hp1, hp2, hp3, hp4⟩ := hp
  refine CallT.enter (args := _) Tryz.func225 rfl rfl (by kernel_rfl) rfl ?_
  refine WP.seq ?_
  refine WP.region ?_
  refine RG.ot rfl (OT.box (cs := ptT.enc p) rfl rfl rfl fun b3 => ?_)
  refine RG.ot rfl (OT.alloc rfl Zr168 fun b4 => ?_)
  refine RG.nil ?_
  refine WP.cut1 [0, 3, 4] (fun (q : Pt) => q = flip o p) (fun (q : Pt) => []) (fun (q : Pt) => blk b3 168 (ptT.enc q) :: blk b4 168 [vi 0, vi 0] :: L) ?_ ?_
  refine WP.seq ?_
  refine WP.region ?_
  refine RG.pv rfl (PV.mvI (.inl rfl) rfl) ?_
  refine RG.pv rfl (PV.geq rfl rfl rfl) ?_
  refine RG.nil ?_
  refine WP.cond rfl (fun h1 => ?_) (fun h1 => ?_)
  · have h1 := of_decide_eq_true h1
    refine WP.region ?_
    refine RG.pv rfl (PV.field rfl Fo168_1 rfl) ?_
    refine RG.pv rfl (PV.load1 rfl Sc2 rfl (Rd.blk rfl)) ?_
    refine RG.pv rfl (PV.neg rfl rfl (by omega)) ?_
    refine RG.pv rfl (PV.field rfl Fo168_1 rfl) ?_
    refine RG.ot rfl (OT.storeB (vs := [vi _]) (cs' := [_, _]) rfl Sz2 rfl rfl (Cl.c rfl) rfl (OneC.c rfl) rfl rfl ?_)
    refine RG.nil ?_
    exact ⟨rfl, (⟨p.x, -p.y⟩ : Pt), (by rw [flip, if_pos (by omega)]), trivial, ⟨rfl, rfl, rfl, trivial⟩, Cv.p⟩
  · have h1 := of_decide_eq_false h1
    refine WP.skip ?_
    exact ⟨rfl, p, (by rw [flip, if_neg (by omega)]), trivial, ⟨rfl, rfl, rfl, trivial⟩, Cv.p⟩
  rintro q τ1 hq
  refine WP.seq ?_
  refine WP.seq ?_
  refine WP.region ?_
  refine RG.pv rfl (PV.mvI (.inl rfl) rfl) ?_
  refine RG.pv rfl (PV.rem rfl rfl rfl (by omega) (by omega) (by omega)) ?_
  refine RG.pv rfl (PV.mvI (.inr rfl) rfl) ?_
  refine RG.nil ?_
  refine WP.block ?_
  subst hq
  refine WP.loop2 [3, 4] (fun (n : Int) (q : Pt) => (0 ≤ n ∧ n < 4) ∧ rot n.toNat q = turnP o p ∧ InB 1000 q) (fun (n : Int) (q : Pt) => [(5, vi n)]) (fun (n : Int) (q : Pt) => blk b3 168 (ptT.enc q) :: blk b4 168 [vi 0, vi 0] :: L) (fun (n : Int) (q : Pt) => n.toNat) (o % 4) (flip o p) ⟨by omega, rfl, hf⟩ ⟨rfl, trivial⟩ Cv.p ?_
  rintro n q τ ⟨hn, hr, hi1, hi2, hi3, hi4⟩
  refine WP.seq ?_
  refine WP.seq ?_
  refine WP.region ?_
  refine RG.pv rfl (PV.mvI (.inl rfl) rfl) ?_
  refine RG.pv rfl (PV.gtr rfl rfl rfl) ?_
  refine RG.nil ?_
  refine WP.cond rfl (fun h2 => ?_) (fun h2 => ?_)
  · have h2 := of_decide_eq_true h2
    refine WP.skip ?_
    refine WP.seq ?_
    refine WP.block ?_
    refine WP.region ?_
    refine RG.pv rfl (PV.field rfl Fo168_1 rfl) ?_
    refine RG.pv rfl (PV.load1 rfl Sc2 rfl (Rd.blk rfl)) ?_
    refine RG.pv rfl (PV.neg rfl rfl (by omega)) ?_
    refine RG.pv rfl (PV.field rfl Fo168_0 rfl) ?_
    refine RG.pv rfl (PV.load1 rfl Sc2 rfl (Rd.blk rfl)) ?_
    refine RG.pv rfl (PV.build (vs := [(0, [vi _]), (1, [vi _])]) (out := [_, _]) rfl Zr168 Pl168 ⟨rfl, (Cl.c rfl), ⟨rfl, (Cl.c rfl), trivial⟩⟩ rfl) ?_
    refine RG.ot rfl (OT.storeW (vs := [vi _, vi _]) rfl Sz168 rfl rfl (Cl.c rfl) rfl rfl (OneC.c rfl) ?_)
    refine RG.nil ?_
    refine WP.region ?_
    refine RG.pv rfl (PV.mvI (.inl rfl) rfl) ?_
    refine RG.pv rfl (PV.sub rfl rfl rfl (by omega)) ?_
    refine RG.pv rfl (PV.mvI (.inr rfl) rfl) ?_
    refine RG.nil ?_
    refine ⟨rfl, n - 1, ⟨-q.y, q.x⟩, ⟨by omega, ?_, by simp only; omega, by simp only; omega, hi1, hi2⟩, ⟨rfl, trivial⟩, ⟨rfl, rfl, trivial⟩, Cv.p, by omega⟩
    rw [← hr, show n.toNat = (n - 1).toNat + 1 by omega]; rfl
  · have h2 := of_decide_eq_false h2
    have e : turnP o p = q := by rw [← hr, show n.toNat = 0 by omega]; rfl
    rw [e] at k
    refine WP.exit ?_
    refine WP.seq ?_
    refine WP.region ?_
    refine RG.pv rfl (PV.loadW rfl Ag168 rfl rfl) ?_
    refine RG.ot rfl (OT.storeW (vs := [vi _, vi _]) rfl Sz168 rfl rfl (Cl.c rfl) rfl rfl (OneC.c rfl) ?_)
    refine RG.nil ?_
    refine WP.ret ?_
    exact ⟨_, _, ResV.one rfl (RV1.cell rfl Ag168 rfl), Cv.p, k⟩
theorem turn_r {o : Int} {p : Pt} (ho : 0 ≤ o ∧ o ≤ 7) (hp : InB 1000 p) (k : R (vpt (turnP o p)) G L) : CallT Tryz.prog 227 #[vi o, vpt p] G L R := by
  have hf : InB 1000 (flip o p) := flip_in hp
  obtain ⟨hp1, hp2, hp3, hp4⟩ := hp
  refine CallT.enter (args := _) Tryz.func227 rfl rfl (by kernel_rfl) rfl ?_
  refine WP.seq ?_
  refine WP.region ?_
  refine RG.ot rfl (OT.box (cs := ptT.enc p) rfl rfl rfl fun b3 => ?_)
  refine RG.ot rfl (OT.alloc rfl Zr168 fun b4 => ?_)
  refine RG.nil ?_
  refine WP.seq ?_
  refine WP.regionQ (by kernel_rfl) (by kernel_rfl) ?_
  refine RQ.pv rfl (PV.field rfl Fo168_0 rfl) ?_
  refine RQ.pv rfl (PV.load1 rfl Sc2 rfl (Rd.blk rfl)) ?_
  refine RQ.pv rfl (PV.field rfl Fo168_1 rfl) ?_
  refine RQ.pv rfl (PV.load1 rfl Sc2 rfl (Rd.blk rfl)) ?_
  refine RQ.pv rfl (PV.mvI (.inr rfl) rfl) ?_
  refine RQ.pv rfl (PV.mvI (.inr rfl) rfl) ?_
  refine RQ.nil ?_
  refine WP.cut1 [0, 4] (fun (q : Pt) => q = flip o p) (fun (q : Pt) => [(5, vi q.x), (6, vi q.y)]) (fun (q : Pt) => blk b4 168 [vi 0, vi 0] :: L) ?_ ?_
  refine WP.seq ?_
  refine WP.region ?_
  refine RG.pv rfl (PV.mvI (.inl rfl) rfl) ?_
  refine RG.pv rfl (PV.geq rfl rfl rfl) ?_
  refine RG.nil ?_
  refine WP.cond rfl (fun h1 => ?_) (fun h1 => ?_)
  · have h1 := of_decide_eq_true h1
    refine WP.region ?_
    refine RG.pv rfl (PV.mvI (.inl rfl) rfl) ?_
    refine RG.pv rfl (PV.neg rfl rfl (by omega)) ?_
    refine RG.pv rfl (PV.mvI (.inr rfl) rfl) ?_
    refine RG.nil ?_
    exact ⟨rfl, (⟨p.x, -p.y⟩ : Pt), (by rw [flip, if_pos (by omega)]), ⟨rfl, rfl, trivial⟩, ⟨rfl, rfl, trivial⟩, Cv.p⟩
  · have h1 := of_decide_eq_false h1
    refine WP.skip ?_
    exact ⟨rfl, p, (by rw [flip, if_neg (by omega)]), ⟨rfl, rfl, trivial⟩, ⟨rfl, rfl, trivial⟩, Cv.p⟩
  rintro q τ1 hq
  refine WP.seq ?_
  refine WP.seq ?_
  refine WP.region ?_
  refine RG.pv rfl (PV.mvI (.inl rfl) rfl) ?_
  refine RG.pv rfl (PV.rem rfl rfl rfl (by omega) (by omega) (by omega)) ?_
  refine RG.pv rfl (PV.mvI (.inr rfl) rfl) ?_
  refine RG.nil ?_
  refine WP.block ?_
  subst hq
  refine WP.loop2 [4] (fun (n : Int) (q : Pt) => (0 ≤ n ∧ n < 4) ∧ rot n.toNat q = turnP o p ∧ InB 1000 q) (fun (n : Int) (q : Pt) => [(7, vi n), (5, vi q.x), (6, vi q.y)]) (fun (n : Int) (q : Pt) => blk b4 168 [vi 0, vi 0] :: L) (fun (n : Int) (q : Pt) => n.toNat) (o % 4) (flip o p) ⟨by omega, rfl, hf⟩ ⟨rfl, rfl, rfl, trivial⟩ Cv.p ?_
  rintro n q τ ⟨hn, hr, hi1, hi2, hi3, hi4⟩
  refine WP.seq ?_
  refine WP.seq ?_
  refine WP.region ?_
  refine RG.pv rfl (PV.mvI (.inl rfl) rfl) ?_
  refine RG.pv rfl (PV.gtr rfl rfl rfl) ?_
  refine RG.nil ?_
  refine WP.cond rfl (fun h2 => ?_) (fun h2 => ?_)
  · have h2 := of_decide_eq_true h2
    refine WP.skip ?_
    refine WP.seq ?_
    refine WP.block ?_
    refine WP.region ?_
    refine RG.pv rfl (PV.mvI (.inl rfl) rfl) ?_
    refine RG.pv rfl (PV.neg rfl rfl (by omega)) ?_
    refine RG.pv rfl (PV.mvI (.inl rfl) rfl) ?_
    refine RG.pv rfl (PV.mvI (.inr rfl) rfl) ?_
    refine RG.pv rfl (PV.mvI (.inr rfl) rfl) ?_
    refine RG.nil ?_
    refine WP.region ?_
    refine RG.pv rfl (PV.mvI (.inl rfl) rfl) ?_
    refine RG.pv rfl (PV.sub rfl rfl rfl (by omega)) ?_
    refine RG.pv rfl (PV.mvI (.inr rfl) rfl) ?_
    refine RG.nil ?_
    refine ⟨rfl, n - 1, ⟨-q.y, q.x⟩, ⟨by omega, ?_, by simp only; omega, by simp only; omega, hi1, hi2⟩, ⟨rfl, rfl, rfl, trivial⟩, ⟨rfl, trivial⟩, Cv.p, by omega⟩
    rw [← hr, show n.toNat = (n - 1).toNat + 1 by omega]; rfl
  · have h2 := of_decide_eq_false h2
    have e : turnP o p = q := by rw [← hr, show n.toNat = 0 by omega]; rfl
    rw [e] at k
    refine WP.exit ?_
    refine WP.seq ?_
    refine WP.region ?_
    refine RG.pv rfl (PV.mvI (.inl rfl) rfl) ?_
    refine RG.pv rfl (PV.mvI (.inl rfl) rfl) ?_
    refine RG.pv rfl (PV.build (vs := [(0, [vi _]), (1, [vi _])]) (out := [_, _]) rfl Zr168 Pl168 ⟨rfl, (Cl.c rfl), ⟨rfl, (Cl.c rfl), trivial⟩⟩ rfl) ?_
    refine RG.ot rfl (OT.storeW (vs := [vi _, vi _]) rfl Sz168 rfl rfl (Cl.c rfl) rfl rfl (OneC.c rfl) ?_)
    refine RG.nil ?_
    refine WP.ret ?_
    exact ⟨_, _, ResV.one rfl (RV1.cell rfl Ag168 rfl), Cv.p, k⟩
theorem move_s {t : Trans} {p : Pt} (ho : 0 ≤ t.o ∧ t.o ≤ 7) (ht : -1000 ≤ t.x ∧ t.x ≤ 1000 ∧ -1000 ≤ t.y ∧ t.y ≤ 1000) (hp : InB 1000 p) (k : R (vpt (moveP t p)) G L) : CallT Tryz.prog 208 #[vtrans t, vpt p] G L R := by
  obtain ⟨hq1, hq2, hq3, hq4⟩ : InB 1000 (turnP t.o p) := turnP_in hp
  refine CallT.enter (args := _) Tryz.func208 rfl rfl (by kernel_rfl) rfl ?_
  refine WP.seq ?_
  refine WP.region ?_
  refine RG.ot rfl (OT.box (cs := transT.enc t) rfl rfl rfl fun b2 => ?_)
  refine RG.ot rfl (OT.box (cs := ptT.enc p) rfl rfl rfl fun b3 => ?_)
  refine RG.ot rfl (OT.alloc rfl Zr168 fun b4 => ?_)
  refine RG.nil ?_
  refine WP.seq ?_
  refine WP.region ?_
  refine RG.pv rfl (PV.field rfl Fo175_0 rfl) ?_
  refine RG.pv rfl (PV.load1 rfl Sc2 rfl (Rd.blk rfl)) ?_
  refine RG.pv rfl (PV.loadW rfl Ag168 rfl rfl) ?_
  refine RG.callF (vs := [_, _]) rfl rfl En225 rfl (turn_s ho hp ?_)
  refine RG.ot rfl (OT.storeW (vs := [vi _, vi _]) rfl Sz168 rfl rfl (Cl.c rfl) rfl rfl (OneC.c rfl) ?_)
  refine RG.nil ?_
  refine WP.seq ?_
  refine WP.region ?_
  refine RG.pv rfl (PV.field rfl Fo168_0 rfl) ?_
  refine RG.pv rfl (PV.load1 rfl Sc2 rfl (Rd.blk rfl)) ?_
  refine RG.pv rfl (PV.field rfl Fo175_1 rfl) ?_
  refine RG.pv rfl (PV.load1 rfl Sc2 rfl (Rd.blk rfl)) ?_
  refine RG.pv rfl (PV.add rfl rfl rfl (by omega)) ?_
  refine RG.pv rfl (PV.field rfl Fo168_1 rfl) ?_
  refine RG.pv rfl (PV.load1 rfl Sc2 rfl (Rd.blk rfl)) ?_
  refine RG.pv rfl (PV.field rfl Fo175_2 rfl) ?_
  refine RG.pv rfl (PV.load1 rfl Sc2 rfl (Rd.blk rfl)) ?_
  refine RG.pv rfl (PV.add rfl rfl rfl (by omega)) ?_
  refine RG.pv rfl (PV.build (vs := [(0, [vi _]), (1, [vi _])]) (out := [_, _]) rfl Zr168 Pl168 ⟨rfl, (Cl.c rfl), ⟨rfl, (Cl.c rfl), trivial⟩⟩ rfl) ?_
  refine RG.ot rfl (OT.storeW (vs := [vi _, vi _]) rfl Sz168 rfl rfl (Cl.c rfl) rfl rfl (OneC.c rfl) ?_)
  refine RG.nil ?_
  refine WP.ret ?_
  exact ⟨_, _, ResV.one rfl (RV1.cell rfl Ag168 rfl), Cv.p, k⟩
theorem move_r {t : Trans} {p : Pt} (ho : 0 ≤ t.o ∧ t.o ≤ 7) (ht : -1000 ≤ t.x ∧ t.x ≤ 1000 ∧ -1000 ≤ t.y ∧ t.y ≤ 1000) (hp : InB 1000 p) (k : R (vpt (moveP t p)) G L) : CallT Tryz.prog 221 #[vtrans t, vpt p] G L R := by
  obtain ⟨hq1, hq2, hq3, hq4⟩ : InB 1000 (turnP t.o p) := turnP_in hp
  refine CallT.enter (args := _) Tryz.func221 rfl rfl (by kernel_rfl) rfl ?_
  refine WP.seq ?_
  refine WP.region ?_
  refine RG.ot rfl (OT.box (cs := transT.enc t) rfl rfl rfl fun b2 => ?_)
  refine RG.ot rfl (OT.box (cs := ptT.enc p) rfl rfl rfl fun b3 => ?_)
  refine RG.ot rfl (OT.alloc rfl Zr168 fun b4 => ?_)
  refine RG.nil ?_
  refine WP.seq ?_
  refine WP.region ?_
  refine RG.pv rfl (PV.field rfl Fo175_0 rfl) ?_
  refine RG.pv rfl (PV.load1 rfl Sc2 rfl (Rd.blk rfl)) ?_
  refine RG.pv rfl (PV.loadW rfl Ag168 rfl rfl) ?_
  refine RG.callF (vs := [_, _]) rfl rfl En227 rfl (turn_r ho hp ?_)
  refine RG.ot rfl (OT.alloc rfl Zr168 fun b5 => ?_)
  refine RG.ot rfl (OT.storeW (vs := [vi _, vi _]) rfl Sz168 rfl rfl (Cl.c rfl) rfl rfl (OneC.c rfl) ?_)
  refine RG.nil ?_
  refine WP.seq ?_
  refine WP.region ?_
  refine RG.pv rfl (PV.field rfl Fo168_0 rfl) ?_
  refine RG.pv rfl (PV.load1 rfl Sc2 rfl (Rd.blk rfl)) ?_
  refine RG.pv rfl (PV.field rfl Fo175_1 rfl) ?_
  refine RG.pv rfl (PV.load1 rfl Sc2 rfl (Rd.blk rfl)) ?_
  refine RG.pv rfl (PV.add rfl rfl rfl (by omega)) ?_
  refine RG.pv rfl (PV.field rfl Fo168_1 rfl) ?_
  refine RG.pv rfl (PV.load1 rfl Sc2 rfl (Rd.blk rfl)) ?_
  refine RG.pv rfl (PV.field rfl Fo175_2 rfl) ?_
  refine RG.pv rfl (PV.load1 rfl Sc2 rfl (Rd.blk rfl)) ?_
  refine RG.pv rfl (PV.add rfl rfl rfl (by omega)) ?_
  refine RG.pv rfl (PV.build (vs := [(0, [vi _]), (1, [vi _])]) (out := [_, _]) rfl Zr168 Pl168 ⟨rfl, (Cl.c rfl), ⟨rfl, (Cl.c rfl), trivial⟩⟩ rfl) ?_
  refine RG.ot rfl (OT.storeW (vs := [vi _, vi _]) rfl Sz168 rfl rfl (Cl.c rfl) rfl rfl (OneC.c rfl) ?_)
  refine RG.nil ?_
  refine WP.ret ?_
  exact ⟨_, _, ResV.one rfl (RV1.cell rfl Ag168 rfl), Cv.p, k⟩
theorem RIn_pts {r : Rect} (h : RIn 40 r) : InB 1000 ⟨r.x0, r.y0⟩ ∧ InB 1000 ⟨r.x1, r.y1⟩ := by
  obtain ⟨h1, h2, h3, h4, h5, h6⟩ := h
  exact ⟨⟨by simp only; omega, by simp only; omega, by simp only; omega, by simp only; omega⟩, ⟨by simp only; omega, by simp only; omega, by simp only; omega, by simp only; omega⟩⟩
theorem moveRect_s {t : Trans} {r : Rect} (ho : 0 ≤ t.o ∧ t.o ≤ 7) (ht : -1000 ≤ t.x ∧ t.x ≤ 1000 ∧ -1000 ≤ t.y ∧ t.y ≤ 1000) (hr : RIn 40 r) (k : R (vrect (moveR t r)) G L) : CallT Tryz.prog 179 #[vtrans t, vrect r] G L R := by
  refine CallT.enter (args := _) Tryz.func179 rfl rfl (by kernel_rfl) rfl ?_
  refine WP.seq ?_
  refine WP.region ?_
  refine RG.ot rfl (OT.box (cs := transT.enc t) rfl rfl rfl fun b2 => ?_)
  refine RG.ot rfl (OT.box (cs := rectT.enc r) rfl rfl rfl fun b3 => ?_)
  refine RG.ot rfl (OT.alloc rfl Zr71 fun b4 => ?_)
  refine RG.nil ?_
  refine WP.cut2 [4] (fun (b5 b6 : Nat) => True) (fun (b5 b6 : Nat) => [(5, .pointer (some ⟨b5, 0, none⟩)), (6, .pointer (some ⟨b6, 0, none⟩))]) (fun (b5 b6 : Nat) => blk b5 168 (ptT.enc (moveP t ⟨r.x0, r.y0⟩)) :: blk b6 168 (ptT.enc (moveP t ⟨r.x1, r.y1⟩)) :: blk b4 71 [vi 0, vi 0, vi 0, vi 0] :: L) ?_ ?_
  refine WP.regionH0 (.q 0 (.q 1 (.q 2 (.q 3 (.q 4 (.q 5 (.q 7 (.q 8 (.q 9 (.q 10 (.q 11 (.q 12 (.c 6 (.c 13 (.b 14 (.l 15 (.l 16 (.l 17 Sch.nil))) 15 (.l 14 (.l 16 (.l 17 Sch.nil)))) 14 (.b 13 (.l 15 (.l 16 (.l 17 Sch.nil))) 15 (.l 13 (.l 16 (.l 17 Sch.nil)))) 15 (.b 13 (.l 14 (.l 16 (.l 17 Sch.nil))) 14 (.l 13 (.l 16 (.l 17 Sch.nil))))) 14 (.b 6 (.b 13 (.l 15 (.l 16 (.l 17 Sch.nil))) 15 (.l 13 (.l 16 (.l 17 Sch.nil)))) 15 (.l 6 (.l 13 (.l 16 (.l 17 Sch.nil))))) 15 (.b 6 (.b 13 (.l 14 (.l 16 (.l 17 Sch.nil))) 14 (.l 13 (.l 16 (.l 17 Sch.nil)))) 14 (.l 6 (.l 13 (.l 16 (.l 17 Sch.nil)))))))))))))))))) (by kernel_rfl) (by kernel_rfl) (by kernel_rfl) rfl ?_
  refine RH.pv rfl (fun _ _ _ _ h => h) (Gh.le_refl _) PickC.pick rfl (PV.loadW rfl Ag175 rfl rfl) ?_
  refine RH.pv rfl (fun _ _ _ _ h => h) (Gh.le_refl _) PickC.pick rfl (PV.field rfl Fo71_0 rfl) ?_
  refine RH.pv rfl (fun _ _ _ _ h => h) (Gh.le_refl _) PickC.pick rfl (PV.load1 rfl Sc2 rfl (Rd.blk rfl)) ?_
  refine RH.pv rfl (fun _ _ _ _ h => h) (Gh.le_refl _) PickC.pick rfl (PV.field rfl Fo71_1 rfl) ?_
  refine RH.pv rfl (fun _ _ _ _ h => h) (Gh.le_refl _) PickC.pick rfl (PV.load1 rfl Sc2 rfl (Rd.blk rfl)) ?_
  refine RH.pv rfl (fun _ _ _ _ h => h) (Gh.le_refl _) PickC.pick rfl (PV.build (vs := [(0, [vi _]), (1, [vi _])]) (out := [_, _]) rfl Zr168 Pl168 ⟨rfl, (Cl.c rfl), ⟨rfl, (Cl.c rfl), trivial⟩⟩ rfl) ?_
  refine RH.pv rfl (fun _ _ _ _ h => h) (Gh.le_refl _) PickC.pick rfl (PV.loadW rfl Ag175 rfl rfl) ?_
  refine RH.pv rfl (fun _ _ _ _ h => h) (Gh.le_refl _) PickC.pick rfl (PV.field rfl Fo71_2 rfl) ?_
  refine RH.pv rfl (fun _ _ _ _ h => h) (Gh.le_refl _) PickC.pick rfl (PV.load1 rfl Sc2 rfl (Rd.blk rfl)) ?_
  refine RH.pv rfl (fun _ _ _ _ h => h) (Gh.le_refl _) PickC.pick rfl (PV.field rfl Fo71_3 rfl) ?_
  refine RH.pv rfl (fun _ _ _ _ h => h) (Gh.le_refl _) PickC.pick rfl (PV.load1 rfl Sc2 rfl (Rd.blk rfl)) ?_
  refine RH.pv rfl (fun _ _ _ _ h => h) (Gh.le_refl _) PickC.pick rfl (PV.build (vs := [(0, [vi _]), (1, [vi _])]) (out := [_, _]) rfl Zr168 Pl168 ⟨rfl, (Cl.c rfl), ⟨rfl, (Cl.c rfl), trivial⟩⟩ rfl) ?_
  · refine RH.ot3 rfl rfl rfl rfl rfl rfl  (OT.callF (vs := [_, _]) rfl En208 rfl (move_s (p := ⟨_, _⟩) ho ht (by first | exact (RIn_pts hr).1 | exact (RIn_pts hr).2) ⟨Gh.le_refl _, PickC.pick, ?_⟩)) (OT.alloc rfl Zr168 fun b5 => ⟨Gh.le_refl _, PickC.pick, ?_⟩) (OT.alloc rfl Zr168 fun b6 => ⟨Gh.le_refl _, PickC.pick, ?_⟩)
    · refine RH.ot3 rfl rfl rfl rfl rfl rfl  (OT.callF (vs := [_, _]) rfl En208 rfl (move_s (p := ⟨_, _⟩) ho ht (by first | exact (RIn_pts hr).1 | exact (RIn_pts hr).2) ⟨Gh.le_refl _, PickC.pick, ?_⟩)) (OT.alloc rfl Zr168 fun b5 => ⟨Gh.le_refl _, PickC.pick, ?_⟩) (OT.alloc rfl Zr168 fun b6 => ⟨Gh.le_refl _, PickC.pick, ?_⟩)
      · refine RH.ot2 rfl rfl rfl rfl  (OT.alloc rfl Zr168 fun b5 => ⟨Gh.le_refl _, PickC.pick, ?_⟩) (OT.alloc rfl Zr168 fun b6 => ⟨Gh.le_refl _, PickC.pick, ?_⟩)
        · refine RH.ot rfl rfl (OT.alloc rfl Zr168 fun b6 => ⟨Gh.le_refl _, PickC.pick, ?_⟩)
          refine RH.ot rfl rfl (OT.storeW (vs := [vi _, vi _]) rfl Sz168 rfl rfl (Cl.c rfl) rfl rfl (OneC.c rfl) ⟨Gh.le_refl _, PickC.pick, ?_⟩)
          refine RH.ot rfl rfl (OT.storeW (vs := [vi _, vi _]) rfl Sz168 rfl rfl (Cl.c rfl) rfl rfl (OneC.c rfl) ⟨Gh.le_refl _, PickC.pick, ?_⟩)
          refine RH.nil ?_
          exact ⟨rfl, b5, b6, trivial, ⟨rfl, rfl, trivial⟩, ⟨rfl, trivial⟩, Cv.p⟩
        · refine RH.ot rfl rfl (OT.alloc rfl Zr168 fun b5 => ⟨Gh.le_refl _, PickC.pick, ?_⟩)
          refine RH.ot rfl rfl (OT.storeW (vs := [vi _, vi _]) rfl Sz168 rfl rfl (Cl.c rfl) rfl rfl (OneC.c rfl) ⟨Gh.le_refl _, PickC.pick, ?_⟩)
          refine RH.ot rfl rfl (OT.storeW (vs := [vi _, vi _]) rfl Sz168 rfl rfl (Cl.c rfl) rfl rfl (OneC.c rfl) ⟨Gh.le_refl _, PickC.pick, ?_⟩)
          refine RH.nil ?_
          exact ⟨rfl, b5, b6, trivial, ⟨rfl, rfl, trivial⟩, ⟨rfl, trivial⟩, Cv.p⟩
      · refine RH.ot2 rfl rfl rfl rfl  (OT.callF (vs := [_, _]) rfl En208 rfl (move_s (p := ⟨_, _⟩) ho ht (by first | exact (RIn_pts hr).1 | exact (RIn_pts hr).2) ⟨Gh.le_refl _, PickC.pick, ?_⟩)) (OT.alloc rfl Zr168 fun b6 => ⟨Gh.le_refl _, PickC.pick, ?_⟩)
        · refine RH.ot rfl rfl (OT.alloc rfl Zr168 fun b6 => ⟨Gh.le_refl _, PickC.pick, ?_⟩)
          refine RH.ot rfl rfl (OT.storeW (vs := [vi _, vi _]) rfl Sz168 rfl rfl (Cl.c rfl) rfl rfl (OneC.c rfl) ⟨Gh.le_refl _, PickC.pick, ?_⟩)
          refine RH.ot rfl rfl (OT.storeW (vs := [vi _, vi _]) rfl Sz168 rfl rfl (Cl.c rfl) rfl rfl (OneC.c rfl) ⟨Gh.le_refl _, PickC.pick, ?_⟩)
          refine RH.nil ?_
          exact ⟨rfl, b5, b6, trivial, ⟨rfl, rfl, trivial⟩, ⟨rfl, trivial⟩, Cv.p⟩
        · refine RH.ot rfl rfl (OT.callF (vs := [_, _]) rfl En208 rfl (move_s (p := ⟨_, _⟩) ho ht (by first | exact (RIn_pts hr).1 | exact (RIn_pts hr).2) ⟨Gh.le_refl _, PickC.pick, ?_⟩))
          refine RH.ot rfl rfl (OT.storeW (vs := [vi _, vi _]) rfl Sz168 rfl rfl (Cl.c rfl) rfl rfl (OneC.c rfl) ⟨Gh.le_refl _, PickC.pick, ?_⟩)
          refine RH.ot rfl rfl (OT.storeW (vs := [vi _, vi _]) rfl Sz168 rfl rfl (Cl.c rfl) rfl rfl (OneC.c rfl) ⟨Gh.le_refl _, PickC.pick, ?_⟩)
          refine RH.nil ?_
          exact ⟨rfl, b5, b6, trivial, ⟨rfl, rfl, trivial⟩, ⟨rfl, trivial⟩, Cv.p⟩
      · refine RH.ot2 rfl rfl rfl rfl  (OT.callF (vs := [_, _]) rfl En208 rfl (move_s (p := ⟨_, _⟩) ho ht (by first | exact (RIn_pts hr).1 | exact (RIn_pts hr).2) ⟨Gh.le_refl _, PickC.pick, ?_⟩)) (OT.alloc rfl Zr168 fun b5 => ⟨Gh.le_refl _, PickC.pick, ?_⟩)
        · refine RH.ot rfl rfl (OT.alloc rfl Zr168 fun b5 => ⟨Gh.le_refl _, PickC.pick, ?_⟩)
          refine RH.ot rfl rfl (OT.storeW (vs := [vi _, vi _]) rfl Sz168 rfl rfl (Cl.c rfl) rfl rfl (OneC.c rfl) ⟨Gh.le_refl _, PickC.pick, ?_⟩)
          refine RH.ot rfl rfl (OT.storeW (vs := [vi _, vi _]) rfl Sz168 rfl rfl (Cl.c rfl) rfl rfl (OneC.c rfl) ⟨Gh.le_refl _, PickC.pick, ?_⟩)
          refine RH.nil ?_
          exact ⟨rfl, b5, b6, trivial, ⟨rfl, rfl, trivial⟩, ⟨rfl, trivial⟩, Cv.p⟩
        · refine RH.ot rfl rfl (OT.callF (vs := [_, _]) rfl En208 rfl (move_s (p := ⟨_, _⟩) ho ht (by first | exact (RIn_pts hr).1 | exact (RIn_pts hr).2) ⟨Gh.le_refl _, PickC.pick, ?_⟩))
          refine RH.ot rfl rfl (OT.storeW (vs := [vi _, vi _]) rfl Sz168 rfl rfl (Cl.c rfl) rfl rfl (OneC.c rfl) ⟨Gh.le_refl _, PickC.pick, ?_⟩)
          refine RH.ot rfl rfl (OT.storeW (vs := [vi _, vi _]) rfl Sz168 rfl rfl (Cl.c rfl) rfl rfl (OneC.c rfl) ⟨Gh.le_refl _, PickC.pick, ?_⟩)
          refine RH.nil ?_
          exact ⟨rfl, b5, b6, trivial, ⟨rfl, rfl, trivial⟩, ⟨rfl, trivial⟩, Cv.p⟩
    · refine RH.ot2 rfl rfl rfl rfl  (OT.callF (vs := [_, _]) rfl En208 rfl (move_s (p := ⟨_, _⟩) ho ht (by first | exact (RIn_pts hr).1 | exact (RIn_pts hr).2) ⟨Gh.le_refl _, PickC.pick, ?_⟩)) (OT.alloc rfl Zr168 fun b6 => ⟨Gh.le_refl _, PickC.pick, ?_⟩)
      · refine RH.ot2 rfl rfl rfl rfl  (OT.callF (vs := [_, _]) rfl En208 rfl (move_s (p := ⟨_, _⟩) ho ht (by first | exact (RIn_pts hr).1 | exact (RIn_pts hr).2) ⟨Gh.le_refl _, PickC.pick, ?_⟩)) (OT.alloc rfl Zr168 fun b6 => ⟨Gh.le_refl _, PickC.pick, ?_⟩)
        · refine RH.ot rfl rfl (OT.alloc rfl Zr168 fun b6 => ⟨Gh.le_refl _, PickC.pick, ?_⟩)
          refine RH.ot rfl rfl (OT.storeW (vs := [vi _, vi _]) rfl Sz168 rfl rfl (Cl.c rfl) rfl rfl (OneC.c rfl) ⟨Gh.le_refl _, PickC.pick, ?_⟩)
          refine RH.ot rfl rfl (OT.storeW (vs := [vi _, vi _]) rfl Sz168 rfl rfl (Cl.c rfl) rfl rfl (OneC.c rfl) ⟨Gh.le_refl _, PickC.pick, ?_⟩)
          refine RH.nil ?_
          exact ⟨rfl, b5, b6, trivial, ⟨rfl, rfl, trivial⟩, ⟨rfl, trivial⟩, Cv.p⟩
        · refine RH.ot rfl rfl (OT.callF (vs := [_, _]) rfl En208 rfl (move_s (p := ⟨_, _⟩) ho ht (by first | exact (RIn_pts hr).1 | exact (RIn_pts hr).2) ⟨Gh.le_refl _, PickC.pick, ?_⟩))
          refine RH.ot rfl rfl (OT.storeW (vs := [vi _, vi _]) rfl Sz168 rfl rfl (Cl.c rfl) rfl rfl (OneC.c rfl) ⟨Gh.le_refl _, PickC.pick, ?_⟩)
          refine RH.ot rfl rfl (OT.storeW (vs := [vi _, vi _]) rfl Sz168 rfl rfl (Cl.c rfl) rfl rfl (OneC.c rfl) ⟨Gh.le_refl _, PickC.pick, ?_⟩)
          refine RH.nil ?_
          exact ⟨rfl, b5, b6, trivial, ⟨rfl, rfl, trivial⟩, ⟨rfl, trivial⟩, Cv.p⟩
      · refine RH.ot rfl rfl (OT.callF (vs := [_, _]) rfl En208 rfl (move_s (p := ⟨_, _⟩) ho ht (by first | exact (RIn_pts hr).1 | exact (RIn_pts hr).2) ⟨Gh.le_refl _, PickC.pick, ?_⟩))
        refine RH.ot rfl rfl (OT.callF (vs := [_, _]) rfl En208 rfl (move_s (p := ⟨_, _⟩) ho ht (by first | exact (RIn_pts hr).1 | exact (RIn_pts hr).2) ⟨Gh.le_refl _, PickC.pick, ?_⟩))
        refine RH.ot rfl rfl (OT.storeW (vs := [vi _, vi _]) rfl Sz168 rfl rfl (Cl.c rfl) rfl rfl (OneC.c rfl) ⟨Gh.le_refl _, PickC.pick, ?_⟩)
        refine RH.ot rfl rfl (OT.storeW (vs := [vi _, vi _]) rfl Sz168 rfl rfl (Cl.c rfl) rfl rfl (OneC.c rfl) ⟨Gh.le_refl _, PickC.pick, ?_⟩)
        refine RH.nil ?_
        exact ⟨rfl, b5, b6, trivial, ⟨rfl, rfl, trivial⟩, ⟨rfl, trivial⟩, Cv.p⟩
    · refine RH.ot2 rfl rfl rfl rfl  (OT.callF (vs := [_, _]) rfl En208 rfl (move_s (p := ⟨_, _⟩) ho ht (by first | exact (RIn_pts hr).1 | exact (RIn_pts hr).2) ⟨Gh.le_refl _, PickC.pick, ?_⟩)) (OT.alloc rfl Zr168 fun b5 => ⟨Gh.le_refl _, PickC.pick, ?_⟩)
      · refine RH.ot2 rfl rfl rfl rfl  (OT.callF (vs := [_, _]) rfl En208 rfl (move_s (p := ⟨_, _⟩) ho ht (by first | exact (RIn_pts hr).1 | exact (RIn_pts hr).2) ⟨Gh.le_refl _, PickC.pick, ?_⟩)) (OT.alloc rfl Zr168 fun b5 => ⟨Gh.le_refl _, PickC.pick, ?_⟩)
        · refine RH.ot rfl rfl (OT.alloc rfl Zr168 fun b5 => ⟨Gh.le_refl _, PickC.pick, ?_⟩)
          refine RH.ot rfl rfl (OT.storeW (vs := [vi _, vi _]) rfl Sz168 rfl rfl (Cl.c rfl) rfl rfl (OneC.c rfl) ⟨Gh.le_refl _, PickC.pick, ?_⟩)
          refine RH.ot rfl rfl (OT.storeW (vs := [vi _, vi _]) rfl Sz168 rfl rfl (Cl.c rfl) rfl rfl (OneC.c rfl) ⟨Gh.le_refl _, PickC.pick, ?_⟩)
          refine RH.nil ?_
          exact ⟨rfl, b5, b6, trivial, ⟨rfl, rfl, trivial⟩, ⟨rfl, trivial⟩, Cv.p⟩
        · refine RH.ot rfl rfl (OT.callF (vs := [_, _]) rfl En208 rfl (move_s (p := ⟨_, _⟩) ho ht (by first | exact (RIn_pts hr).1 | exact (RIn_pts hr).2) ⟨Gh.le_refl _, PickC.pick, ?_⟩))
          refine RH.ot rfl rfl (OT.storeW (vs := [vi _, vi _]) rfl Sz168 rfl rfl (Cl.c rfl) rfl rfl (OneC.c rfl) ⟨Gh.le_refl _, PickC.pick, ?_⟩)
          refine RH.ot rfl rfl (OT.storeW (vs := [vi _, vi _]) rfl Sz168 rfl rfl (Cl.c rfl) rfl rfl (OneC.c rfl) ⟨Gh.le_refl _, PickC.pick, ?_⟩)
          refine RH.nil ?_
          exact ⟨rfl, b5, b6, trivial, ⟨rfl, rfl, trivial⟩, ⟨rfl, trivial⟩, Cv.p⟩
      · refine RH.ot rfl rfl (OT.callF (vs := [_, _]) rfl En208 rfl (move_s (p := ⟨_, _⟩) ho ht (by first | exact (RIn_pts hr).1 | exact (RIn_pts hr).2) ⟨Gh.le_refl _, PickC.pick, ?_⟩))
        refine RH.ot rfl rfl (OT.callF (vs := [_, _]) rfl En208 rfl (move_s (p := ⟨_, _⟩) ho ht (by first | exact (RIn_pts hr).1 | exact (RIn_pts hr).2) ⟨Gh.le_refl _, PickC.pick, ?_⟩))
        refine RH.ot rfl rfl (OT.storeW (vs := [vi _, vi _]) rfl Sz168 rfl rfl (Cl.c rfl) rfl rfl (OneC.c rfl) ⟨Gh.le_refl _, PickC.pick, ?_⟩)
        refine RH.ot rfl rfl (OT.storeW (vs := [vi _, vi _]) rfl Sz168 rfl rfl (Cl.c rfl) rfl rfl (OneC.c rfl) ⟨Gh.le_refl _, PickC.pick, ?_⟩)
        refine RH.nil ?_
        exact ⟨rfl, b5, b6, trivial, ⟨rfl, rfl, trivial⟩, ⟨rfl, trivial⟩, Cv.p⟩
  · rintro b5 b6 τ1 -
    refine WP.seq ?_
    refine WP.region ?_
    refine RG.pv rfl (PV.field rfl Fo168_0 rfl) ?_
    refine RG.pv rfl (PV.load1 rfl Sc2 rfl (Rd.blk rfl)) ?_
    refine RG.pv rfl (PV.field rfl Fo168_0 rfl) ?_
    refine RG.pv rfl (PV.load1 rfl Sc2 rfl (Rd.blk rfl)) ?_
    refine RG.pv rfl (PV.min2 rfl rfl rfl) ?_
    refine RG.pv rfl (PV.field rfl Fo168_1 rfl) ?_
    refine RG.pv rfl (PV.load1 rfl Sc2 rfl (Rd.blk rfl)) ?_
    refine RG.pv rfl (PV.field rfl Fo168_1 rfl) ?_
    refine RG.pv rfl (PV.load1 rfl Sc2 rfl (Rd.blk rfl)) ?_
    refine RG.pv rfl (PV.min2 rfl rfl rfl) ?_
    refine RG.pv rfl (PV.field rfl Fo168_0 rfl) ?_
    refine RG.pv rfl (PV.load1 rfl Sc2 rfl (Rd.blk rfl)) ?_
    refine RG.pv rfl (PV.field rfl Fo168_0 rfl) ?_
    refine RG.pv rfl (PV.load1 rfl Sc2 rfl (Rd.blk rfl)) ?_
    refine RG.pv rfl (PV.max2 rfl rfl rfl) ?_
    refine RG.pv rfl (PV.field rfl Fo168_1 rfl) ?_
    refine RG.pv rfl (PV.load1 rfl Sc2 rfl (Rd.blk rfl)) ?_
    refine RG.pv rfl (PV.field rfl Fo168_1 rfl) ?_
    refine RG.pv rfl (PV.load1 rfl Sc2 rfl (Rd.blk rfl)) ?_
    refine RG.pv rfl (PV.max2 rfl rfl rfl) ?_
    refine RG.pv rfl (PV.build (vs := [(0, [vi _]), (1, [vi _]), (2, [vi _]), (3, [vi _])]) (out := [_, _, _, _]) rfl Zr71 Pl71 ⟨rfl, (Cl.c rfl), ⟨rfl, (Cl.c rfl), ⟨rfl, (Cl.c rfl), ⟨rfl, (Cl.c rfl), trivial⟩⟩⟩⟩ rfl) ?_
    refine RG.ot rfl (OT.storeW (vs := [vi _, vi _, vi _, vi _]) rfl Sz71 rfl rfl (Cl.c rfl) rfl rfl (OneC.c rfl) ?_)
    refine RG.nil ?_
    refine WP.ret ?_
    exact ⟨_, _, ResV.one rfl (RV1.cell rfl Ag71 rfl), Cv.p, k⟩
theorem moveRect_r {t : Trans} {r : Rect} (ho : 0 ≤ t.o ∧ t.o ≤ 7) (ht : -1000 ≤ t.x ∧ t.x ≤ 1000 ∧ -1000 ≤ t.y ∧ t.y ≤ 1000) (hr : RIn 40 r) (k : R (vrect (moveR t r)) G L) : CallT Tryz.prog 204 #[vtrans t, vrect r] G L R := by
  refine CallT.enter (args := _) Tryz.func204 rfl rfl (by kernel_rfl) rfl ?_
  refine WP.seq ?_
  refine WP.region ?_
  refine RG.ot rfl (OT.box (cs := transT.enc t) rfl rfl rfl fun b2 => ?_)
  refine RG.ot rfl (OT.box (cs := rectT.enc r) rfl rfl rfl fun b3 => ?_)
  refine RG.ot rfl (OT.alloc rfl Zr71 fun b4 => ?_)
  refine RG.nil ?_
  refine WP.seq ?_
  refine WP.region ?_
  refine RG.pv rfl (PV.loadW rfl Ag175 rfl rfl) ?_
  refine RG.pv rfl (PV.field rfl Fo71_0 rfl) ?_
  refine RG.pv rfl (PV.load1 rfl Sc2 rfl (Rd.blk rfl)) ?_
  refine RG.pv rfl (PV.field rfl Fo71_1 rfl) ?_
  refine RG.pv rfl (PV.load1 rfl Sc2 rfl (Rd.blk rfl)) ?_
  refine RG.pv rfl (PV.build (vs := [(0, [vi _]), (1, [vi _])]) (out := [_, _]) rfl Zr168 Pl168 ⟨rfl, (Cl.c rfl), ⟨rfl, (Cl.c rfl), trivial⟩⟩ rfl) ?_
  refine RG.callF (vs := [_, _]) rfl rfl En221 rfl (move_r (p := ⟨_, _⟩) ho ht (by first | exact (RIn_pts hr).1 | exact (RIn_pts hr).2) ?_)
  refine RG.ot rfl (OT.alloc rfl Zr168 fun b5 => ?_)
  refine RG.ot rfl (OT.storeW (vs := [vi _, vi _]) rfl Sz168 rfl rfl (Cl.c rfl) rfl rfl (OneC.c rfl) ?_)
  refine RG.nil ?_
  refine WP.seq ?_
  refine WP.region ?_
  refine RG.pv rfl (PV.loadW rfl Ag175 rfl rfl) ?_
  refine RG.pv rfl (PV.field rfl Fo71_2 rfl) ?_
  refine RG.pv rfl (PV.load1 rfl Sc2 rfl (Rd.blk rfl)) ?_
  refine RG.pv rfl (PV.field rfl Fo71_3 rfl) ?_
  refine RG.pv rfl (PV.load1 rfl Sc2 rfl (Rd.blk rfl)) ?_
  refine RG.pv rfl (PV.build (vs := [(0, [vi _]), (1, [vi _])]) (out := [_, _]) rfl Zr168 Pl168 ⟨rfl, (Cl.c rfl), ⟨rfl, (Cl.c rfl), trivial⟩⟩ rfl) ?_
  refine RG.callF (vs := [_, _]) rfl rfl En221 rfl (move_r (p := ⟨_, _⟩) ho ht (by first | exact (RIn_pts hr).1 | exact (RIn_pts hr).2) ?_)
  refine RG.ot rfl (OT.alloc rfl Zr168 fun b6 => ?_)
  refine RG.ot rfl (OT.storeW (vs := [vi _, vi _]) rfl Sz168 rfl rfl (Cl.c rfl) rfl rfl (OneC.c rfl) ?_)
  refine RG.nil ?_
  refine WP.seq ?_
  refine WP.region ?_
  refine RG.pv rfl (PV.field rfl Fo168_0 rfl) ?_
  refine RG.pv rfl (PV.load1 rfl Sc2 rfl (Rd.blk rfl)) ?_
  refine RG.pv rfl (PV.field rfl Fo168_0 rfl) ?_
  refine RG.pv rfl (PV.load1 rfl Sc2 rfl (Rd.blk rfl)) ?_
  refine RG.pv rfl (PV.min2 rfl rfl rfl) ?_
  refine RG.pv rfl (PV.field rfl Fo168_1 rfl) ?_
  refine RG.pv rfl (PV.load1 rfl Sc2 rfl (Rd.blk rfl)) ?_
  refine RG.pv rfl (PV.field rfl Fo168_1 rfl) ?_
  refine RG.pv rfl (PV.load1 rfl Sc2 rfl (Rd.blk rfl)) ?_
  refine RG.pv rfl (PV.min2 rfl rfl rfl) ?_
  refine RG.pv rfl (PV.field rfl Fo168_0 rfl) ?_
  refine RG.pv rfl (PV.load1 rfl Sc2 rfl (Rd.blk rfl)) ?_
  refine RG.pv rfl (PV.field rfl Fo168_0 rfl) ?_
  refine RG.pv rfl (PV.load1 rfl Sc2 rfl (Rd.blk rfl)) ?_
  refine RG.pv rfl (PV.max2 rfl rfl rfl) ?_
  refine RG.pv rfl (PV.field rfl Fo168_1 rfl) ?_
  refine RG.pv rfl (PV.load1 rfl Sc2 rfl (Rd.blk rfl)) ?_
  refine RG.pv rfl (PV.field rfl Fo168_1 rfl) ?_
  refine RG.pv rfl (PV.load1 rfl Sc2 rfl (Rd.blk rfl)) ?_
  refine RG.pv rfl (PV.max2 rfl rfl rfl) ?_
  refine RG.pv rfl (PV.build (vs := [(0, [vi _]), (1, [vi _]), (2, [vi _]), (3, [vi _])]) (out := [_, _, _, _]) rfl Zr71 Pl71 ⟨rfl, (Cl.c rfl), ⟨rfl, (Cl.c rfl), ⟨rfl, (Cl.c rfl), ⟨rfl, (Cl.c rfl), trivial⟩⟩⟩⟩ rfl) ?_
  refine RG.ot rfl (OT.storeW (vs := [vi _, vi _, vi _, vi _]) rfl Sz71 rfl rfl (Cl.c rfl) rfl rfl (OneC.c rfl) ?_)
  refine RG.nil ?_
  refine WP.ret ?_
  exact ⟨_, _, ResV.one rfl (RV1.cell rfl Ag71 rfl), Cv.p, k⟩
end Go.Proofs.YtpjajhjcbcfplaaGreat
namespace Go.Proofs.YtpjajhjcbcfplaaGreat
set_option linter.unusedVariables false
set_option linter.unusedSimpArgs false
open Go
set_option maxRecDepth 20000
set_option linter.unusedSimpArgs false
variable {G : Gh} {L : List Ch} {R : Value → Gh → List Ch → Prop}
theorem RIn_valid {r : Rect} : validRect r = true ↔ RIn 40 r := by simp [validRect, RIn]; omega
theorem RIn_all {xs : List Rect} (h : isReg xs = true) : ∀ r ∈ xs, RIn 40 r := by
  have := isReg_valid h
  simp only [validRs, Bool.and_eq_true, List.all_eq_true] at this
  exact fun r hr => RIn_valid.1 (this.2 r hr)
theorem RIn_gd {b : Int} {xs : List Rect} (h : ∀ r ∈ xs, RIn b r) {i : Nat} (hi : i < xs.length) : RIn b (gd xs i) := by rw [gd_eq hi]; exact h _ (List.getElem_mem _)
theorem boxOf_s {v : Value} {xs : List Rect} (h1 : Rs G L rectT v xs) (h0 : 0 < xs.length) (k : R (vrect (boxL xs)) G L) : CallT Tryz.prog 180 #[v] G L R := by
  refine CallT.bd h1 fun hb => ?_
  refine CallT.enter (args := _) Tryz.func180 rfl rfl (by kernel_rfl) rfl ?_
  refine WP.seq ?_
  refine WP.region ?_
  refine RG.ot rfl (OT.alloc rfl Zr71 fun b2 => ?_)
  refine RG.nil ?_
  refine WP.seq ?_
  refine WP.region ?_
  refine RG.pv rfl (PV.move (v := v) rfl rfl) ?_
  refine RG.pv rfl (PV.idxS (j := 0) (v := v) rfl Is28 rfl (SlF.r h1) rfl (by omega) (by omega)) ?_
  refine RG.pv rfl (PV.loadE rfl Ag71 rfl rfl (El.r h1 (getG (by omega)))) ?_
  refine RG.ot rfl (OT.alloc rfl Zr71 fun b3 => ?_)
  refine RG.ot rfl (OT.storeW (vs := [vi _, vi _, vi _, vi _]) rfl Sz71 rfl rfl (Cl.c rfl) rfl rfl (OneC.c rfl) ?_)
  refine RG.nil ?_
  refine WP.seq ?_
  refine WP.seq ?_
  refine WP.region ?_
  refine RG.pv rfl (PV.move (v := v) rfl rfl) ?_
  refine RG.pv rfl (PV.len (v := v) rfl Tryz.underlying28 rfl (SlF.r h1)) ?_
  refine RG.pv rfl (PV.mvI (.inl rfl) rfl) ?_
  refine RG.nil ?_
  refine WP.block ?_
  refine WP.loop2 [2, 3, 9, 10] (fun (i : Nat) (a : Rect) => i ≤ xs.length ∧ a = boxFrom (gd xs 0) (xs.take i)) (fun (i : Nat) (a : Rect) => [(11, vi i)]) (fun (i : Nat) (a : Rect) => blk b3 71 (rectT.enc a) :: blk b2 71 [vi 0, vi 0, vi 0, vi 0] :: L) (fun (i : Nat) (a : Rect) => xs.length - i) 0 (gd xs 0) ⟨by omega, rfl⟩ ⟨rfl, trivial⟩ Cv.p ?_
  rintro i a τ ⟨hi, ha⟩
  refine WP.seq ?_
  refine WP.region ?_
  refine RG.pv rfl (PV.lss rfl rfl rfl) ?_
  refine RG.nil ?_
  refine WP.seq ?_
  refine WP.cond rfl (fun h2 => ?_) (fun h2 => ?_)
  · have h2 := of_decide_eq_true h2
    refine WP.skip ?_
    refine WP.seq ?_
    refine WP.block ?_
    refine WP.seq ?_
    refine WP.region ?_
    refine RG.pv rfl (PV.idxS (v := v) rfl Is28 rfl (SlF.r h1) rfl rfl (by omega)) ?_
    refine RG.pv rfl (PV.loadE rfl Ag71 rfl rfl (El.r h1 (getG (by omega)))) ?_
    refine RG.ot rfl (OT.alloc rfl Zr71 fun b5 => ?_)
    refine RG.ot rfl (OT.storeW (vs := [vi _, vi _, vi _, vi _]) rfl Sz71 rfl rfl (Cl.c rfl) rfl rfl (OneC.c rfl) ?_)
    refine RG.nil ?_
    refine WP.region ?_
    refine RG.pv rfl (PV.field rfl Fo71_0 rfl) ?_
    refine RG.pv rfl (PV.load1 rfl Sc2 rfl (Rd.blk rfl)) ?_
    refine RG.pv rfl (PV.field rfl Fo71_0 rfl) ?_
    refine RG.pv rfl (PV.load1 rfl Sc2 rfl (Rd.blk rfl)) ?_
    refine RG.pv rfl (PV.min2 rfl rfl rfl) ?_
    refine RG.pv rfl (PV.field rfl Fo71_1 rfl) ?_
    refine RG.pv rfl (PV.load1 rfl Sc2 rfl (Rd.blk rfl)) ?_
    refine RG.pv rfl (PV.field rfl Fo71_1 rfl) ?_
    refine RG.pv rfl (PV.load1 rfl Sc2 rfl (Rd.blk rfl)) ?_
    refine RG.pv rfl (PV.min2 rfl rfl rfl) ?_
    refine RG.pv rfl (PV.field rfl Fo71_2 rfl) ?_
    refine RG.pv rfl (PV.load1 rfl Sc2 rfl (Rd.blk rfl)) ?_
    refine RG.pv rfl (PV.field rfl Fo71_2 rfl) ?_
    refine RG.pv rfl (PV.load1 rfl Sc2 rfl (Rd.blk rfl)) ?_
    refine RG.pv rfl (PV.max2 rfl rfl rfl) ?_
    refine RG.pv rfl (PV.field rfl Fo71_3 rfl) ?_
    refine RG.pv rfl (PV.load1 rfl Sc2 rfl (Rd.blk rfl)) ?_
    refine RG.pv rfl (PV.field rfl Fo71_3 rfl) ?_
    refine RG.pv rfl (PV.load1 rfl Sc2 rfl (Rd.blk rfl)) ?_
    refine RG.pv rfl (PV.max2 rfl rfl rfl) ?_
    refine RG.pv rfl (PV.build (vs := [(0, [vi _]), (1, [vi _]), (2, [vi _]), (3, [vi _])]) (out := [_, _, _, _]) rfl Zr71 Pl71 ⟨rfl, (Cl.c rfl), ⟨rfl, (Cl.c rfl), ⟨rfl, (Cl.c rfl), ⟨rfl, (Cl.c rfl), trivial⟩⟩⟩⟩ rfl) ?_
    refine RG.ot rfl (OT.storeW (vs := [vi _, vi _, vi _, vi _]) rfl Sz71 rfl rfl (Cl.c rfl) rfl rfl (OneC.c rfl) ?_)
    refine RG.nil ?_
    refine WP.region ?_
    refine RG.pv rfl (PV.add rfl rfl rfl (by omega)) ?_
    refine RG.pv rfl (PV.mvI (.inl rfl) rfl) ?_
    refine RG.nil ?_
    exact ⟨rfl, i + 1, (joinR a (gd xs i)), ⟨by omega, by rw [boxFrom_take (by omega), ha]⟩, ⟨rfl, trivial⟩, ⟨rfl, rfl, rfl, rfl, trivial⟩, Cv.p, by omega⟩
  · have h2 := of_decide_eq_false h2
    have e : a = boxL xs := by rw [ha, List.take_of_length_le (by omega)]; rfl
    rw [← e] at k
    refine WP.exit ?_
    refine WP.seq ?_
    refine WP.region ?_
    refine RG.pv rfl (PV.loadW rfl Ag71 rfl rfl) ?_
    refine RG.ot rfl (OT.storeW (vs := [vi _, vi _, vi _, vi _]) rfl Sz71 rfl rfl (Cl.c rfl) rfl rfl (OneC.c rfl) ?_)
    refine RG.nil ?_
    refine WP.ret ?_
    exact ⟨_, _, ResV.one rfl (RV1.cell rfl Ag71 rfl), Cv.p, k⟩
theorem l02Box_s {v : Value} {xs : List Rect} (h1 : Rs G L rectT v xs) (h0 : 0 < xs.length) (k : R (vrect (boxL xs)) G L) : CallT Tryz.prog 205 #[v] G L R := by
  refine CallT.bd h1 fun hb => ?_
  refine CallT.enter (args := _) Tryz.func205 rfl rfl (by kernel_rfl) rfl ?_
  refine WP.seq ?_
  refine WP.region ?_
  refine RG.ot rfl (OT.alloc rfl Zr71 fun b2 => ?_)
  refine RG.nil ?_
  refine WP.seq ?_
  refine WP.region ?_
  refine RG.pv rfl (PV.move (v := v) rfl rfl) ?_
  refine RG.pv rfl (PV.idxS (j := 0) (v := v) rfl Is28 rfl (SlF.r h1) rfl (by omega) (by omega)) ?_
  refine RG.pv rfl (PV.loadE rfl Ag71 rfl rfl (El.r h1 (getG (by omega)))) ?_
  refine RG.ot rfl (OT.alloc rfl Zr71 fun b3 => ?_)
  refine RG.ot rfl (OT.storeW (vs := [vi _, vi _, vi _, vi _]) rfl Sz71 rfl rfl (Cl.c rfl) rfl rfl (OneC.c rfl) ?_)
  refine RG.nil ?_
  refine WP.seq ?_
  refine WP.seq ?_
  refine WP.region ?_
  refine RG.pv rfl (PV.mvI (.inr rfl) rfl) ?_
  refine RG.nil ?_
  refine WP.block ?_
  refine WP.loop2 [0, 2, 3] (fun (i : Nat) (a : Rect) => 1 ≤ i ∧ i ≤ xs.length ∧ a = boxFrom (gd xs 0) (xs.take i)) (fun (i : Nat) (a : Rect) => [(4, vi i)]) (fun (i : Nat) (a : Rect) => blk b3 71 (rectT.enc a) :: blk b2 71 [vi 0, vi 0, vi 0, vi 0] :: L) (fun (i : Nat) (a : Rect) => xs.length - i) 1 (gd xs 0) ⟨by omega, by omega, (boxFrom_one h0).symm⟩ ⟨rfl, trivial⟩ Cv.p ?_
  rintro i a τ ⟨hi0, hi, ha⟩
  refine WP.seq ?_
  refine WP.seq ?_
  refine WP.region ?_
  refine RG.pv rfl (PV.mvI (.inl rfl) rfl) ?_
  refine RG.pv rfl (PV.move (v := v) rfl rfl) ?_
  refine RG.pv rfl (PV.len (v := v) rfl Tryz.underlying28 rfl (SlF.r h1)) ?_
  refine RG.pv rfl (PV.lss rfl rfl rfl) ?_
  refine RG.nil ?_
  refine WP.cond rfl (fun h2 => ?_) (fun h2 => ?_)
  · have h2 := of_decide_eq_true h2
    refine WP.skip ?_
    refine WP.seq ?_
    refine WP.block ?_
    refine WP.seq ?_
    refine WP.region ?_
    refine RG.pv rfl (PV.move (v := v) rfl rfl) ?_
    refine RG.pv rfl (PV.mvI (.inl rfl) rfl) ?_
    refine RG.pv rfl (PV.idxS (v := v) rfl Is28 rfl (SlF.r h1) rfl rfl (by omega)) ?_
    refine RG.pv rfl (PV.loadE rfl Ag71 rfl rfl (El.r h1 (getG (by omega)))) ?_
    refine RG.ot rfl (OT.alloc rfl Zr71 fun b5 => ?_)
    refine RG.ot rfl (OT.storeW (vs := [vi _, vi _, vi _, vi _]) rfl Sz71 rfl rfl (Cl.c rfl) rfl rfl (OneC.c rfl) ?_)
    refine RG.nil ?_
    refine WP.region ?_
    refine RG.pv rfl (PV.field rfl Fo71_0 rfl) ?_
    refine RG.pv rfl (PV.load1 rfl Sc2 rfl (Rd.blk rfl)) ?_
    refine RG.pv rfl (PV.field rfl Fo71_0 rfl) ?_
    refine RG.pv rfl (PV.load1 rfl Sc2 rfl (Rd.blk rfl)) ?_
    refine RG.pv rfl (PV.min2 rfl rfl rfl) ?_
    refine RG.pv rfl (PV.field rfl Fo71_1 rfl) ?_
    refine RG.pv rfl (PV.load1 rfl Sc2 rfl (Rd.blk rfl)) ?_
    refine RG.pv rfl (PV.field rfl Fo71_1 rfl) ?_
    refine RG.pv rfl (PV.load1 rfl Sc2 rfl (Rd.blk rfl)) ?_
    refine RG.pv rfl (PV.min2 rfl rfl rfl) ?_
    refine RG.pv rfl (PV.field rfl Fo71_2 rfl) ?_
    refine RG.pv rfl (PV.load1 rfl Sc2 rfl (Rd.blk rfl)) ?_
    refine RG.pv rfl (PV.field rfl Fo71_2 rfl) ?_
    refine RG.pv rfl (PV.load1 rfl Sc2 rfl (Rd.blk rfl)) ?_
    refine RG.pv rfl (PV.max2 rfl rfl rfl) ?_
    refine RG.pv rfl (PV.field rfl Fo71_3 rfl) ?_
    refine RG.pv rfl (PV.load1 rfl Sc2 rfl (Rd.blk rfl)) ?_
    refine RG.pv rfl (PV.field rfl Fo71_3 rfl) ?_
    refine RG.pv rfl (PV.load1 rfl Sc2 rfl (Rd.blk rfl)) ?_
    refine RG.pv rfl (PV.max2 rfl rfl rfl) ?_
    refine RG.pv rfl (PV.build (vs := [(0, [vi _]), (1, [vi _]), (2, [vi _]), (3, [vi _])]) (out := [_, _, _, _]) rfl Zr71 Pl71 ⟨rfl, (Cl.c rfl), ⟨rfl, (Cl.c rfl), ⟨rfl, (Cl.c rfl), ⟨rfl, (Cl.c rfl), trivial⟩⟩⟩⟩ rfl) ?_
    refine RG.ot rfl (OT.storeW (vs := [vi _, vi _, vi _, vi _]) rfl Sz71 rfl rfl (Cl.c rfl) rfl rfl (OneC.c rfl) ?_)
    refine RG.nil ?_
    refine WP.region ?_
    refine RG.pv rfl (PV.mvI (.inl rfl) rfl) ?_
    refine RG.pv rfl (PV.add rfl rfl rfl (by omega)) ?_
    refine RG.pv rfl (PV.mvI (.inr rfl) rfl) ?_
    refine RG.nil ?_
    exact ⟨rfl, i + 1, (joinR a (gd xs i)), ⟨by omega, by omega, by rw [boxFrom_take (by omega), ha]⟩, ⟨rfl, trivial⟩, ⟨rfl, rfl, rfl, trivial⟩, Cv.p, by omega⟩
  · have h2 := of_decide_eq_false h2
    have e : a = boxL xs := by rw [ha, List.take_of_length_le (by omega)]; rfl
    rw [← e] at k
    refine WP.exit ?_
    refine WP.seq ?_
    refine WP.region ?_
    refine RG.pv rfl (PV.loadW rfl Ag71 rfl rfl) ?_
    refine RG.ot rfl (OT.storeW (vs := [vi _, vi _, vi _, vi _]) rfl Sz71 rfl rfl (Cl.c rfl) rfl rfl (OneC.c rfl) ?_)
    refine RG.nil ?_
    refine WP.ret ?_
    exact ⟨_, _, ResV.one rfl (RV1.cell rfl Ag71 rfl), Cv.p, k⟩
theorem hash_s {v : Value} {h : Int} {l : List Int} (h1 : Rs G L intT v l) (hh : 0 ≤ h ∧ h < 2147483647) (hl : ∀ i, i < l.length → 0 ≤ gd l i ∧ gd l i ≤ 4294967296) (k : R (vi (hashL h l)) G L) : CallT Tryz.prog 132 #[vi h, v] G L R := by
  refine CallT.bd h1 fun hb => ?_
  refine CallT.enter (args := _) Tryz.func132 rfl rfl (by kernel_rfl) rfl ?_
  refine WP.seq ?_
  refine WP.region ?_
  refine RG.pv rfl (PV.mvI (.inr rfl) rfl) ?_
  refine RG.nil ?_
  refine WP.seq ?_
  refine WP.seq ?_
  refine WP.region ?_
  refine RG.pv rfl (PV.move (v := v) rfl rfl) ?_
  refine RG.pv rfl (PV.len (v := v) rfl Tryz.underlying83 rfl (SlF.r h1)) ?_
  refine RG.pv rfl (PV.mvI (.inl rfl) rfl) ?_
  refine RG.nil ?_
  refine WP.block ?_
  refine WP.loop2 [7, 8] (fun (i : Nat) (g : Int) => i ≤ l.length ∧ g = hashL h (l.take i)) (fun (i : Nat) (g : Int) => [(9, vi i), (0, vi g)]) (fun (i : Nat) (g : Int) => L) (fun (i : Nat) (g : Int) => l.length - i) 0 h ⟨by omega, rfl⟩ ⟨rfl, rfl, trivial⟩ Cv.p ?_
  rintro i g τ ⟨hi, hg⟩
  refine WP.seq ?_
  refine WP.region ?_
  refine RG.pv rfl (PV.lss rfl rfl rfl) ?_
  refine RG.nil ?_
  refine WP.seq ?_
  have hgb := hashL_bd (l.take i) hh
  rw [← hg] at hgb
  refine WP.cond rfl (fun h2 => ?_) (fun h2 => ?_)
  · have h2 := of_decide_eq_true h2
    have hli := hl i (by omega)
    refine WP.skip ?_
    refine WP.seq ?_
    refine WP.block ?_
    refine WP.seq ?_
    refine WP.region ?_
    refine RG.pv rfl (PV.idxS (v := v) rfl Is83 rfl (SlF.r h1) rfl rfl (by omega)) ?_
    refine RG.pv rfl (PV.loadE1 rfl Sc2 rfl rfl (El.r h1 (getG (by omega))) rfl) ?_
    refine RG.pv rfl (PV.mvI (.inr rfl) rfl) ?_
    refine RG.nil ?_
    refine WP.region ?_
    refine RG.pv rfl (PV.mvI (.inl rfl) rfl) ?_
    refine RG.pv rfl (PV.mul rfl rfl rfl (by omega)) ?_
    refine RG.pv rfl (PV.mvI (.inl rfl) rfl) ?_
    refine RG.pv rfl (PV.add rfl rfl rfl (by omega)) ?_
    refine RG.pv rfl (PV.add rfl rfl rfl (by omega)) ?_
    refine RG.pv rfl (PV.rem rfl rfl rfl (by omega) (by omega) (by omega)) ?_
    refine RG.pv rfl (PV.mvI (.inr rfl) rfl) ?_
    refine RG.nil ?_
    refine WP.region ?_
    refine RG.pv rfl (PV.add rfl rfl rfl (by omega)) ?_
    refine RG.pv rfl (PV.mvI (.inl rfl) rfl) ?_
    refine RG.nil ?_
    exact ⟨rfl, i + 1, _, ⟨by omega, by rw [hashL_take (by omega), ← hg]; rfl⟩, ⟨rfl, rfl, trivial⟩, ⟨rfl, rfl, trivial⟩, Cv.p, by omega⟩
  · have h2 := of_decide_eq_false h2
    have e : g = hashL h l := by rw [hg, List.take_of_length_le (by omega)]
    rw [← e] at k
    refine WP.exit ?_
    refine WP.seq ?_
    refine WP.region ?_
    refine RG.pv rfl (PV.mvI (.inl rfl) rfl) ?_
    refine RG.pv rfl (PV.mvI (.inr rfl) rfl) ?_
    refine RG.nil ?_
    refine WP.ret ?_
    exact ⟨_, _, ResV.one rfl rfl, Cv.p, k⟩
theorem l22Hash_s {h n : Int} (hh : 0 ≤ h ∧ h < 2147483647) (hl : 0 ≤ n ∧ n ≤ 4294967296) (k : R (vi (hashI h n)) G L) : CallT Tryz.prog 129 #[vi h, vi n] G L R := by
  refine CallT.enter (args := _) Tryz.func129 rfl rfl (by kernel_rfl) rfl ?_
  refine WP.seq ?_
  refine WP.region ?_
  refine RG.pv rfl (PV.mvI (.inr rfl) rfl) ?_
  refine RG.nil ?_
  refine WP.seq ?_
  refine WP.region ?_
  refine RG.pv rfl (PV.mvI (.inl rfl) rfl) ?_
  refine RG.pv rfl (PV.mul rfl rfl rfl (by omega)) ?_
  refine RG.pv rfl (PV.mvI (.inl rfl) rfl) ?_
  refine RG.pv rfl (PV.add rfl rfl rfl (by omega)) ?_
  refine RG.pv rfl (PV.add rfl rfl rfl (by omega)) ?_
  refine RG.pv rfl (PV.rem rfl rfl rfl (by omega) (by omega) (by omega)) ?_
  refine RG.pv rfl (PV.mvI (.inr rfl) rfl) ?_
  refine RG.nil ?_
  refine WP.ret ?_
  exact ⟨_, _, ResV.one rfl rfl, Cv.p, k⟩
def movedOk (t : Trans) (xs : List Rect) : Bool := xs.all fun r => validRect (moveR t r)
def movedR (t : Trans) (xs : List Rect) : List Rect := bif movedOk t xs then canon (bits (xs.map (moveR t))) else []
theorem l03Moved_s {t : Trans} {v : Value} {xs : List Rect} (h1 : Rs G L rectT v xs) (hb2 : xs.length ≤ 1048576) (ho : 0 ≤ t.o ∧ t.o ≤ 7) (ht : -1000 ≤ t.x ∧ t.x ≤ 1000 ∧ -1000 ≤ t.y ∧ t.y ≤ 1000) (hr : ∀ i, i < xs.length → RIn 40 (gd xs i))
    (k : ∀ v', R (.tuple #[v', .bool (movedOk t xs)]) G (osl 71 rectT v' (movedR t xs) :: L)) : CallT Tryz.prog 206 #[vtrans t, v] G L R := by
  refine CallT.enter (args := _) Tryz.func206 rfl rfl (by kernel_rfl) rfl ?_
  refine WP.seq ?_
  refine WP.region ?_
  refine RG.ot rfl (OT.box (cs := transT.enc t) rfl rfl rfl fun b2 => ?_)
  refine RG.pv rfl (PV.asg rfl rfl) ?_
  refine RG.pv rfl (PV.mvB (.inr rfl) rfl) ?_
  refine RG.nil ?_
  refine WP.seq ?_
  refine WP.region ?_
  refine RG.ot rfl (OT.bslice (F := rectT) (els := []) rfl El28 rfl (by decide) rfl (by decide) trivial fun v9 => ?_)
  refine RG.pv rfl (PV.asg (v := v9) rfl rfl) ?_
  refine RG.nil ?_
  refine WP.seq ?_
  refine WP.seq ?_
  refine WP.region ?_
  refine RG.pv rfl (PV.mvI (.inr rfl) rfl) ?_
  refine RG.nil ?_
  refine WP.block ?_
  refine WP.loop3 [1, 2] (fun (i : Nat) (ys : List Rect) (u : Value) => i ≤ xs.length ∧ ys = (xs.take i).map (moveR t) ∧ ∀ j, j < ys.length → validRect (gd ys j) = true) (fun (i : Nat) (ys : List Rect) (u : Value) => [(7, vi i), (6, u)]) (fun (i : Nat) (ys : List Rect) (u : Value) => osl 71 rectT u ys :: blk b2 175 (transT.enc t) :: L) (fun (i : Nat) (ys : List Rect) (u : Value) => xs.length - i) 0 [] v9 ⟨by omega, rfl, fun j hj => by simp at hj⟩ ⟨rfl, rfl, trivial⟩ Cv.p ?_
  rintro i ys u τ ⟨hi, hys, hva⟩
  refine WP.seq ?_
  refine WP.seq ?_
  refine WP.region ?_
  refine RG.pv rfl (PV.mvI (.inl rfl) rfl) ?_
  refine RG.pv rfl (PV.move (v := v) rfl rfl) ?_
  refine RG.pv rfl (PV.len (v := v) rfl Tryz.underlying28 rfl (SlF.r h1)) ?_
  refine RG.pv rfl (PV.lss rfl rfl rfl) ?_
  refine RG.nil ?_
  have hyl : ys.length = i := by rw [hys]; simp; omega
  refine WP.cond rfl (fun h2 => ?_) (fun h2 => ?_)
  · have h2 := of_decide_eq_true h2
    refine WP.skip ?_
    refine WP.seq ?_
    refine WP.block ?_
    refine WP.cut1 [1, 2, 6, 7] (fun (b8 : Nat) => True) (fun (b8 : Nat) => [(8, .pointer (some ⟨b8, 0, none⟩))]) (fun (b8 : Nat) => blk b8 71 (rectT.enc (moveR t (gd xs i))) :: osl 71 rectT u ys :: blk b2 175 (transT.enc t) :: L) ?_ ?_
    refine WP.regionH0 (.q 0 (.q 1 (.q 2 (.q 3 (.q 4 (.b 5 (.l 6 (.l 7 Sch.nil)) 6 (.l 5 (.l 7 Sch.nil)))))))) (by kernel_rfl) (by kernel_rfl) (by kernel_rfl) rfl ?_
    refine RH.pv rfl (fun _ _ _ _ h => h) (Gh.le_refl _) PickC.pick rfl (PV.loadW rfl Ag175 rfl rfl) ?_
    refine RH.pv rfl (fun _ _ _ _ h => h) (Gh.le_refl _) PickC.pick rfl (PV.move (v := v) rfl rfl) ?_
    refine RH.pv rfl (fun _ _ _ _ h => h) (Gh.le_refl _) PickC.pick rfl (PV.mvI (.inl rfl) rfl) ?_
    refine RH.pv rfl (fun _ _ _ _ h => h) (Gh.le_refl _) PickC.pick rfl (PV.idxS (v := v) rfl Is28 rfl (SlF.r h1) rfl rfl (by omega)) ?_
    refine RH.pv rfl (fun _ _ _ _ h => h) (Gh.le_refl _) PickC.pick rfl (PV.loadE rfl Ag71 rfl rfl (El.r h1 (getG (by omega)))) ?_
    · refine RH.ot2 rfl rfl rfl rfl  (OT.callF (vs := [_, _]) rfl En204 rfl (moveRect_r ho ht (hr i (by omega)) ⟨Gh.le_refl _, PickC.pick, ?_⟩)) (OT.alloc rfl Zr71 fun b8 => ⟨Gh.le_refl _, PickC.pick, ?_⟩)
      · refine RH.ot rfl rfl (OT.alloc rfl Zr71 fun b8 => ⟨Gh.le_refl _, PickC.pick, ?_⟩)
        refine RH.ot rfl rfl (OT.storeW (vs := [vi _, vi _, vi _, vi _]) rfl Sz71 rfl rfl (Cl.c rfl) rfl rfl (OneC.c rfl) ⟨Gh.le_refl _, PickC.pick, ?_⟩)
        refine RH.nil ?_
        exact ⟨rfl, b8, trivial, ⟨rfl, trivial⟩, ⟨rfl, rfl, rfl, rfl, trivial⟩, Cv.p⟩
      · refine RH.ot rfl rfl (OT.callF (vs := [_, _]) rfl En204 rfl (moveRect_r ho ht (hr i (by omega)) ⟨Gh.le_refl _, PickC.pick, ?_⟩))
        refine RH.ot rfl rfl (OT.storeW (vs := [vi _, vi _, vi _, vi _]) rfl Sz71 rfl rfl (Cl.c rfl) rfl rfl (OneC.c rfl) ⟨Gh.le_refl _, PickC.pick, ?_⟩)
        refine RH.nil ?_
        exact ⟨rfl, b8, trivial, ⟨rfl, trivial⟩, ⟨rfl, rfl, rfl, rfl, trivial⟩, Cv.p⟩
    · rintro b8 τ1 -
      refine WP.seq ?_
      refine WP.seq ?_
      refine WP.region ?_
      refine RG.pv rfl (PV.loadW rfl Ag71 rfl rfl) ?_
      refine RG.callF (vs := [_]) rfl rfl En143 rfl (validRect_s' ?_)
      refine RG.pv rfl (PV.not rfl rfl) ?_
      refine RG.nil ?_
      refine WP.cond rfl (fun h3 => ?_) (fun h3 => ?_)
      · have e1 : movedOk t xs = false := by
          rw [movedOk, List.all_eq_false]
          exact ⟨gd xs i, by rw [gd_eq (by omega)]; exact List.getElem_mem _, by simpa using h3⟩
        have e2 : movedR t xs = [] := by rw [movedR, e1]; rfl
        rw [e1, e2] at k
        refine WP.seq ?_
        refine WP.region ?_
        refine RG.pv rfl (PV.asg rfl rfl) ?_
        refine RG.pv rfl (PV.mvB (.inr rfl) rfl) ?_
        refine RG.nil ?_
        refine WP.ret ?_
        exact ⟨_, _, ResV.two rfl rfl rfl, Cv.nilP, k (.slice none 0 0)⟩
      · have h4 : validRect (moveR t (gd xs i)) = true := by simpa using h3
        refine WP.skip ?_
        refine WP.region ?_
        refine RG.pv rfl (PV.move (v := u) rfl rfl) ?_
        refine RG.pv rfl (PV.loadW rfl Ag71 rfl rfl) ?_
        refine RG.ot rfl (OT.bslice (F := rectT) (els := [⟨_, _, _, _⟩]) rfl El28 rfl (by decide) rfl (by decide) ⟨rfl, (Cl.c rfl), trivial⟩ fun v27 => ?_)
        refine RG.ot rfl (OT.append (v := u) (u := v27) (F := rectT) rfl El28 rfl (by decide) rfl rfl Rs.o (OneL.c (fun _ => rfl)) rfl (by first | omega | (simp <;> omega)) fun v28 => ?_)
        refine RG.pv rfl (PV.asg (v := v28) rfl rfl) ?_
        refine RG.nil ?_
        refine WP.region ?_
        refine RG.pv rfl (PV.mvI (.inl rfl) rfl) ?_
        refine RG.pv rfl (PV.add rfl rfl rfl (by omega)) ?_
        refine RG.pv rfl (PV.mvI (.inr rfl) rfl) ?_
        refine RG.nil ?_
        refine ⟨rfl, i + 1, (ys ++ [moveR t (gd xs i)]), v28, ⟨by omega, by rw [hys, List.take_add_one, getG (by omega)]; simp, fun j hj => ?_⟩, ⟨rfl, rfl, trivial⟩, ⟨rfl, rfl, trivial⟩, ((Cv.eqS (ys := ys ++ [moveR t (gd xs i)]) rfl).trans Cv.p), by omega⟩
        by_cases c : j = ys.length
        · subst c; simpa [gd] using h4
        · have := hva j (by simp at hj; omega)
          simpa [gd, List.getElem?_append_left (show j < ys.length by simp at hj; omega)] using this
  · have h2 := of_decide_eq_false h2
    have e1 : movedOk t xs = true := by
      rw [movedOk, List.all_eq_true]
      intro r hr
      obtain ⟨j, hj, rfl⟩ := List.getElem_of_mem hr
      have := hva j (by omega)
      rw [hys, List.take_of_length_le (by omega), gd_map _ hj, gd_eq hj] at this; exact this
    have e2 : movedR t xs = canon (bits ys) := by rw [movedR, e1, hys, List.take_of_length_le (by omega)]; rfl
    rw [e1, e2] at k
    refine WP.exit ?_
    refine WP.seq ?_
    refine WP.region ?_
    refine RG.pv rfl (PV.move (v := u) rfl rfl) ?_
    refine RG.callF (vs := [u]) rfl rfl En89 rfl (l03Bits_s Rs.o (fun i hi => hva i hi) (fun v30 => ?_))
    refine RG.callF (vs := [v30]) rfl rfl En88 rfl (l03Canon_s Rs.o (bits_length _) (fun v31 => ?_))
    refine RG.pv rfl (PV.asg (v := v31) rfl rfl) ?_
    refine RG.pv rfl (PV.mvB (.inr rfl) rfl) ?_
    refine RG.nil ?_
    refine WP.ret ?_
    exact ⟨_, _, ResV.two rfl rfl rfl, Cv.p, k v31⟩
theorem imgs_take {xs : List Rect} {o : Int} {i : Nat} (h : i < xs.length) : (xs.take (i + 1)).map (moveR ⟨o, 0, 0⟩) = (xs.take i).map (moveR ⟨o, 0, 0⟩) ++ [moveR ⟨o, 0, 0⟩ (gd xs i)] := by
  rw [List.take_add_one, getG h]; simp
theorem shifted_valid {im : List Rect} (h0 : 0 < im.length) (h : ∀ r ∈ im, RIn 40 r) : movedR ⟨0, -40 - (boxL im).x0, -40 - (boxL im).y0⟩ im = canon (bits (shifted im)) ∧ movedOk ⟨0, -40 - (boxL im).x0, -40 - (boxL im).y0⟩ im = true := by
  have e : ∀ r ∈ im, moveR ⟨0, -40 - (boxL im).x0, -40 - (boxL im).y0⟩ r = shiftR (-40 - (boxL im).x0) (-40 - (boxL im).y0) r := fun r hr => moveR_shift (by have := h r hr; simp only [RIn] at this; omega)
  have e2 : movedOk ⟨0, -40 - (boxL im).x0, -40 - (boxL im).y0⟩ im = true := by
    rw [movedOk, List.all_eq_true]
    intro r hr
    rw [e r hr]; exact RIn_valid.2 (shifted_in h0 h r hr)
  refine ⟨?_, e2⟩
  rw [movedR, e2]
  simp only [cond_true, shifted]
  rw [List.map_congr_left e]
theorem canon_bd {bs : List Bool} {i : Nat} (h : i < (canon bs).length) : -40 ≤ (gd (canon bs) i).x0 ∧ (gd (canon bs) i).x0 ≤ 40 ∧ -40 ≤ (gd (canon bs) i).y0 ∧ (gd (canon bs) i).y0 ≤ 40 ∧ -40 ≤ (gd (canon bs) i).x1 ∧ (gd (canon bs) i).x1 ≤ 40 ∧ -40 ≤ (gd (canon bs) i).y1 ∧ (gd (canon bs) i).y1 ≤ 40 := by
  have := canonFrom_mem bs 0 (gd (canon bs) i) (by rw [gd_eq h]; exact List.getElem_mem _)
  omega
theorem l22Turned_s {o : Int} {v : Value} {xs : List Rect} (h1 : Rs G L rectT v xs) (hne : 0 < xs.length) (hb2 : xs.length ≤ 1048576) (hr : ∀ r ∈ xs, RIn 40 r) (ho : 0 ≤ o ∧ o ≤ 7) (k : R (vi (sigO xs o)) G L) : CallT Tryz.prog 176 #[v, vi o] G L R := by
  refine CallT.enter (args := _) Tryz.func176 rfl rfl (by kernel_rfl) rfl ?_
  refine WP.seq ?_
  refine WP.region ?_
  refine RG.pv rfl (PV.mvI (.inr rfl) rfl) ?_
  refine RG.nil ?_
  refine WP.seq ?_
  refine WP.region ?_
  refine RG.ot rfl (OT.bslice (F := rectT) (els := []) rfl El28 rfl (by decide) rfl (by decide) trivial fun v12 => ?_)
  refine RG.pv rfl (PV.asg (v := v12) rfl rfl) ?_
  refine RG.nil ?_
  refine WP.seq ?_
  refine WP.seq ?_
  refine WP.region ?_
  refine RG.pv rfl (PV.mvI (.inr rfl) rfl) ?_
  refine RG.nil ?_
  refine WP.block ?_
  refine WP.loop3 [0, 1] (fun (i : Nat) (ys : List Rect) (u : Value) => i ≤ xs.length ∧ ys = (xs.take i).map (moveR ⟨o, 0, 0⟩)) (fun (i : Nat) (ys : List Rect) (u : Value) => [(6, vi i), (5, u)]) (fun (i : Nat) (ys : List Rect) (u : Value) => osl 71 rectT u ys :: L) (fun (i : Nat) (ys : List Rect) (u : Value) => xs.length - i) 0 [] v12 ⟨by omega, rfl⟩ ⟨rfl, rfl, trivial⟩ Cv.p ?_
  rintro i ys u τ ⟨hi, hys⟩
  refine WP.seq ?_
  refine WP.seq ?_
  refine WP.region ?_
  refine RG.pv rfl (PV.mvI (.inl rfl) rfl) ?_
  refine RG.pv rfl (PV.move (v := v) rfl rfl) ?_
  refine RG.pv rfl (PV.len (v := v) rfl Tryz.underlying28 rfl (SlF.r h1)) ?_
  refine RG.pv rfl (PV.lss rfl rfl rfl) ?_
  refine RG.nil ?_
  have hyl : ys.length = i := by rw [hys]; simp; omega
  refine WP.cond rfl (fun h2 => ?_) (fun h2 => ?_)
  · have h2 := of_decide_eq_true h2
    refine WP.skip ?_
    refine WP.seq ?_
    refine WP.block ?_
    refine WP.region ?_
    refine RG.pv rfl (PV.move (v := u) rfl rfl) ?_
    refine RG.pv rfl (PV.mvI (.inl rfl) rfl) ?_
    refine RG.pv rfl (PV.build (vs := [(0, [vi _])]) (out := [_, _, _]) rfl Zr175 Pl175 ⟨rfl, (Cl.c rfl), trivial⟩ rfl) ?_
    refine RG.pv rfl (PV.move (v := v) rfl rfl) ?_
    refine RG.pv rfl (PV.mvI (.inl rfl) rfl) ?_
    refine RG.pv rfl (PV.idxS (v := v) rfl Is28 rfl (SlF.r h1) rfl rfl (by omega)) ?_
    refine RG.pv rfl (PV.loadE rfl Ag71 rfl rfl (El.r h1 (getG (by omega)))) ?_
    refine RG.callF (vs := [_, _]) rfl rfl En204 rfl (moveRect_r (t := ⟨_, _, _⟩) ho (by simp) (RIn_gd hr (by omega)) ?_)
    refine RG.ot rfl (OT.bslice (F := rectT) (els := [_]) rfl El28 rfl (by decide) rfl (by decide) ⟨rfl, (Cl.c rfl), trivial⟩ fun v27 => ?_)
    refine RG.ot rfl (OT.append (v := u) (u := v27) (F := rectT) rfl El28 rfl (by decide) rfl rfl Rs.o (OneL.c (fun _ => rfl)) rfl (by first | omega | (simp <;> omega)) fun v28 => ?_)
    refine RG.pv rfl (PV.asg (v := v28) rfl rfl) ?_
    refine RG.nil ?_
    refine WP.region ?_
    refine RG.pv rfl (PV.mvI (.inl rfl) rfl) ?_
    refine RG.pv rfl (PV.add rfl rfl rfl (by omega)) ?_
    refine RG.pv rfl (PV.mvI (.inr rfl) rfl) ?_
    refine RG.nil ?_
    exact ⟨rfl, i + 1, (ys ++ [moveR ⟨o, 0, 0⟩ (gd xs i)]), v28, ⟨by omega, by rw [hys, imgs_take (by omega)]⟩, ⟨rfl, rfl, trivial⟩, ⟨rfl, rfl, trivial⟩, Cv.p, by omega⟩
  · have h2 := of_decide_eq_false h2
    have e : ys = imgs xs o := by rw [hys, List.take_of_length_le (by omega)]; rfl
    subst e
    have h0 : 0 < (imgs xs o).length := by omega
    have hri := imgs_in ho hr
    have hbx := boxL_in h0 hri
    obtain ⟨hm1, hm2⟩ := shifted_valid h0 hri
    have hbx2 := hbx
    simp only [RIn] at hbx2
    refine WP.exit ?_
    refine WP.seq ?_
    refine WP.region ?_
    refine RG.pv rfl (PV.move (v := u) rfl rfl) ?_
    refine RG.callF (vs := [u]) rfl rfl En205 rfl (l02Box_s Rs.o h0 ?_)
    refine RG.ot rfl (OT.alloc rfl Zr71 fun b7 => ?_)
    refine RG.ot rfl (OT.storeW (vs := [vi _, vi _, vi _, vi _]) rfl Sz71 rfl rfl (Cl.c rfl) rfl rfl (OneC.c rfl) ?_)
    refine RG.nil ?_
    refine WP.seq ?_
    refine WP.region ?_
    refine RG.pv rfl (PV.field rfl Fo71_0 rfl) ?_
    refine RG.pv rfl (PV.load1 rfl Sc2 rfl (Rd.blk rfl)) ?_
    refine RG.pv rfl (PV.sub rfl rfl rfl (by omega)) ?_
    refine RG.pv rfl (PV.field rfl Fo71_1 rfl) ?_
    refine RG.pv rfl (PV.load1 rfl Sc2 rfl (Rd.blk rfl)) ?_
    refine RG.pv rfl (PV.sub rfl rfl rfl (by omega)) ?_
    refine RG.pv rfl (PV.build (vs := [(1, [vi _]), (2, [vi _])]) (out := [_, _, _]) rfl Zr175 Pl175 ⟨rfl, (Cl.c rfl), ⟨rfl, (Cl.c rfl), trivial⟩⟩ rfl) ?_
    refine RG.pv rfl (PV.move (v := u) rfl rfl) ?_
    refine RG.callF (vs := [_, u]) rfl rfl En206 rfl (l03Moved_s (t := ⟨0, _, _⟩) Rs.o (by omega) (by simp) (by simp only; omega) (fun i hi => RIn_gd hri hi) (fun w40 => ?_))
    refine RG.pv rfl (PV.move (v := .tuple _) rfl rfl) ?_
    refine RG.pv rfl (PV.ext (v := w40) rfl rfl rfl) ?_
    refine RG.pv rfl (PV.ext rfl rfl rfl) ?_
    refine RG.pv rfl (PV.asg (v := w40) rfl rfl) ?_
    refine RG.pv rfl (PV.mvB (.inr rfl) rfl) ?_
    refine RG.nil ?_
    refine WP.seq ?_
    refine WP.region ?_
    refine RG.pv rfl (PV.mvI (.inr rfl) rfl) ?_
    refine RG.nil ?_
    refine WP.seq ?_
    refine WP.seq ?_
    refine WP.region ?_
    refine RG.pv rfl (PV.mvI (.inr rfl) rfl) ?_
    refine RG.nil ?_
    refine WP.block ?_
    rw [hm1, hm2]
    have hcb : ∀ i, i < (canon (bits (shifted (imgs xs o)))).length → _ := fun i hi => canon_bd hi
    have hcl := canon_len (bits (shifted (imgs xs o)))
    have hsg : sigO xs o = hashRs 17 (canon (bits (shifted (imgs xs o)))) := rfl
    generalize canon (bits (shifted (imgs xs o))) = C at *
    refine WP.loop2 [8] (fun (m : Nat) (g : Int) => m ≤ C.length ∧ g = hashRs 17 (C.take m)) (fun (m : Nat) (g : Int) => [(11, vi m), (10, vi g)]) (fun (m : Nat) (g : Int) => osl 71 rectT w40 C :: L) (fun (m : Nat) (g : Int) => C.length - m) 0 17 ⟨by omega, rfl⟩ ⟨rfl, rfl, trivial⟩ Cv.p ?_
    rintro m g τ1 ⟨hm, hg⟩
    refine WP.seq ?_
    refine WP.seq ?_
    refine WP.region ?_
    refine RG.pv rfl (PV.mvI (.inl rfl) rfl) ?_
    refine RG.pv rfl (PV.move (v := w40) rfl rfl) ?_
    refine RG.pv rfl (PV.len (v := w40) rfl Tryz.underlying28 rfl SlF.o) ?_
    refine RG.pv rfl (PV.lss rfl rfl rfl) ?_
    refine RG.nil ?_
    have hgb := hashRs_bd (h := 17) (C.take m) (by omega)
    rw [← hg] at hgb
    refine WP.cond rfl (fun h3 => ?_) (fun h3 => ?_)
    · have h3 := of_decide_eq_true h3
      obtain ⟨q1, q2, q3, q4, q5, q6, q7, q8⟩ := hcb m (by omega)
      refine WP.skip ?_
      refine WP.seq ?_
      refine WP.block ?_
      refine WP.seq ?_
      refine WP.region ?_
      refine RG.pv rfl (PV.mvI (.inl rfl) rfl) ?_
      refine RG.pv rfl (PV.move (v := w40) rfl rfl) ?_
      refine RG.pv rfl (PV.mvI (.inl rfl) rfl) ?_
      refine RG.pv rfl (PV.idxS (v := w40) rfl Is28 rfl SlF.o rfl rfl (by omega)) ?_
      refine RG.pv rfl (PV.field rfl Fo71_0 rfl) ?_
      refine RG.pv rfl (PV.loadF (v := w40) (j := 0) rfl Sc2 rfl rfl (El.o (getG (by omega))) rfl) ?_
      refine RG.pv rfl (PV.add rfl rfl rfl (by omega)) ?_
      refine RG.callF (vs := [_, _]) rfl rfl En129 rfl (l22Hash_s (by first | exact hgb | exact hashI_bd _ _) (by omega) ?_)
      refine RG.pv rfl (PV.mvI (.inr rfl) rfl) ?_
      refine RG.nil ?_
      refine WP.seq ?_
      refine WP.region ?_
      refine RG.pv rfl (PV.mvI (.inl rfl) rfl) ?_
      refine RG.pv rfl (PV.move (v := w40) rfl rfl) ?_
      refine RG.pv rfl (PV.mvI (.inl rfl) rfl) ?_
      refine RG.pv rfl (PV.idxS (v := w40) rfl Is28 rfl SlF.o rfl rfl (by omega)) ?_
      refine RG.pv rfl (PV.field rfl Fo71_1 rfl) ?_
      refine RG.pv rfl (PV.loadF rfl Sc2 rfl rfl (El.o (getG (by omega))) rfl) ?_
      refine RG.pv rfl (PV.add rfl rfl rfl (by omega)) ?_
      refine RG.callF (vs := [_, _]) rfl rfl En129 rfl (l22Hash_s (by first | exact hgb | exact hashI_bd _ _) (by omega) ?_)
      refine RG.pv rfl (PV.mvI (.inr rfl) rfl) ?_
      refine RG.nil ?_
      refine WP.seq ?_
      refine WP.region ?_
      refine RG.pv rfl (PV.mvI (.inl rfl) rfl) ?_
      refine RG.pv rfl (PV.move (v := w40) rfl rfl) ?_
      refine RG.pv rfl (PV.mvI (.inl rfl) rfl) ?_
      refine RG.pv rfl (PV.idxS (v := w40) rfl Is28 rfl SlF.o rfl rfl (by omega)) ?_
      refine RG.pv rfl (PV.field rfl Fo71_2 rfl) ?_
      refine RG.pv rfl (PV.loadF rfl Sc2 rfl rfl (El.o (getG (by omega))) rfl) ?_
      refine RG.pv rfl (PV.add rfl rfl rfl (by omega)) ?_
      refine RG.callF (vs := [_, _]) rfl rfl En129 rfl (l22Hash_s (by first | exact hgb | exact hashI_bd _ _) (by omega) ?_)
      refine RG.pv rfl (PV.mvI (.inr rfl) rfl) ?_
      refine RG.nil ?_
      refine WP.region ?_
      refine RG.pv rfl (PV.mvI (.inl rfl) rfl) ?_
      refine RG.pv rfl (PV.move (v := w40) rfl rfl) ?_
      refine RG.pv rfl (PV.mvI (.inl rfl) rfl) ?_
      refine RG.pv rfl (PV.idxS (v := w40) rfl Is28 rfl SlF.o rfl rfl (by omega)) ?_
      refine RG.pv rfl (PV.field rfl Fo71_3 rfl) ?_
      refine RG.pv rfl (PV.loadF rfl Sc2 rfl rfl (El.o (getG (by omega))) rfl) ?_
      refine RG.pv rfl (PV.add rfl rfl rfl (by omega)) ?_
      refine RG.callF (vs := [_, _]) rfl rfl En129 rfl (l22Hash_s (by first | exact hgb | exact hashI_bd _ _) (by omega) ?_)
      refine RG.pv rfl (PV.mvI (.inr rfl) rfl) ?_
      refine RG.nil ?_
      refine WP.region ?_
      refine RG.pv rfl (PV.mvI (.inl rfl) rfl) ?_
      refine RG.pv rfl (PV.add rfl rfl rfl (by omega)) ?_
      refine RG.pv rfl (PV.mvI (.inr rfl) rfl) ?_
      refine RG.nil ?_
      exact ⟨rfl, m + 1, _, ⟨by omega, by rw [hashRs_take (by omega), ← hg]; rfl⟩, ⟨rfl, rfl, trivial⟩, ⟨rfl, trivial⟩, Cv.p, by omega⟩
    · have h3 := of_decide_eq_false h3
      have e : sigO xs o = g := by rw [hsg, hg, List.take_of_length_le (by omega)]
      rw [e] at k
      refine WP.exit ?_
      refine WP.seq ?_
      refine WP.region ?_
      refine RG.pv rfl (PV.mvI (.inl rfl) rfl) ?_
      refine RG.pv rfl (PV.mvI (.inr rfl) rfl) ?_
      refine RG.nil ?_
      refine WP.ret ?_
      exact ⟨_, _, ResV.one rfl rfl, Cv.p, k⟩
def regSig (xs : List Rect) : Int := bif isReg xs && decide (0 < xs.length) then sigTo xs 7 else -1
theorem regSig_s {v : Value} {xs : List Rect} (h1 : Rs G L rectT v xs) (k : R (vi (regSig xs)) G L) : CallT Tryz.prog 128 #[v] G L R := by
  refine CallT.bd h1 fun hb => ?_
  refine CallT.enter (args := _) Tryz.func128 rfl rfl (by kernel_rfl) rfl ?_
  refine WP.seq ?_
  refine WP.region ?_
  refine RG.pv rfl (PV.mvI (.inr rfl) rfl) ?_
  refine RG.nil ?_
  refine WP.seq ?_
  refine WP.seq ?_
  refine WP.region ?_
  refine RG.pv rfl (PV.move (v := v) rfl rfl) ?_
  refine RG.callF (vs := [v]) rfl rfl En35 rfl (l03Ok_s (Rs.up h1) ?_)
  refine RG.pv rfl (PV.not rfl rfl) ?_
  refine RG.pv rfl (PV.mvB (.inl rfl) rfl) ?_
  refine RG.gs rfl rfl rfl (fun hp => (PV.move (v := v) rfl rfl)) ?_
  refine RG.gs rfl rfl rfl (fun hp => (PV.len (v := v) rfl Tryz.underlying28 (gs_t hp) (SlF.r h1))) ?_
  refine RG.gs rfl rfl rfl (fun hp => (PV.eql rfl (gs_t hp) rfl)) ?_
  refine RG.pv rfl (PV.pickO rfl rfl rfl (fun hq => gs_t (geqF hq))) ?_
  refine RG.nil ?_
  refine WP.cond rfl (fun h2 => ?_) (fun h2 => ?_)
  · have e : regSig xs = -1 := by
      cases h4 : isReg xs
      · simp [regSig, h4]
      · simp [h4] at h2; simp [regSig, h4, h2]
    rw [e] at k
    refine WP.seq ?_
    refine WP.region ?_
    refine RG.pv rfl (PV.mvI (.inr rfl) rfl) ?_
    refine RG.nil ?_
    refine WP.ret ?_
    exact ⟨_, _, ResV.one rfl rfl, Cv.p, k⟩
  · have hreg : isReg xs = true := by cases h4 : isReg xs <;> simp_all
    have hne : 0 < xs.length := by
      rcases Nat.eq_zero_or_pos xs.length with h | h
      · simp [hreg, h] at h2
      · exact h
    have hl := isReg_len hreg
    have e : regSig xs = sigTo xs 7 := by simp [regSig, hreg, hne]
    rw [e] at k
    refine WP.skip ?_
    refine WP.seq ?_
    refine WP.region ?_
    refine RG.pv rfl (PV.move (v := v) rfl rfl) ?_
    refine RG.callF (vs := [v, _]) rfl rfl En176 rfl (l22Turned_s (Rs.up h1) hne (by omega) (RIn_all hreg) (by omega) ?_)
    refine RG.pv rfl (PV.mvI (.inr rfl) rfl) ?_
    refine RG.nil ?_
    refine WP.seq ?_
    refine WP.seq ?_
    refine WP.region ?_
    refine RG.pv rfl (PV.mvI (.inr rfl) rfl) ?_
    refine RG.nil ?_
    refine WP.block ?_
    refine WP.loop2 [0] (fun (o : Nat) (m : Int) => 1 ≤ o ∧ o ≤ 8 ∧ m = sigTo xs (o - 1)) (fun (o : Nat) (m : Int) => [(4, vi o), (3, vi m)]) (fun (o : Nat) (m : Int) => L) (fun (o : Nat) (m : Int) => 8 - o) 1 (sigO xs 0) ⟨by omega, by omega, rfl⟩ ⟨rfl, rfl, trivial⟩ Cv.p ?_
    rintro o m τ ⟨ho0, ho7, hm⟩
    refine WP.seq ?_
    refine WP.seq ?_
    refine WP.region ?_
    refine RG.pv rfl (PV.mvI (.inl rfl) rfl) ?_
    refine RG.pv rfl (PV.lss rfl rfl rfl) ?_
    refine RG.nil ?_
    refine WP.cond rfl (fun h3 => ?_) (fun h3 => ?_)
    · have h3 := of_decide_eq_true h3
      refine WP.skip ?_
      refine WP.seq ?_
      refine WP.block ?_
      refine WP.region ?_
      refine RG.pv rfl (PV.mvI (.inl rfl) rfl) ?_
      refine RG.pv rfl (PV.move (v := v) rfl rfl) ?_
      refine RG.pv rfl (PV.mvI (.inl rfl) rfl) ?_
      refine RG.callF (vs := [v, _]) rfl rfl En176 rfl (l22Turned_s (Rs.up h1) hne (by omega) (RIn_all hreg) (by omega) ?_)
      refine RG.pv rfl (PV.min2 rfl rfl rfl) ?_
      refine RG.pv rfl (PV.mvI (.inr rfl) rfl) ?_
      refine RG.nil ?_
      refine WP.region ?_
      refine RG.pv rfl (PV.mvI (.inl rfl) rfl) ?_
      refine RG.pv rfl (PV.add rfl rfl rfl (by omega)) ?_
      refine RG.pv rfl (PV.mvI (.inr rfl) rfl) ?_
      refine RG.nil ?_
      refine ⟨rfl, o + 1, _, ⟨by omega, by omega, ?_⟩, ⟨rfl, rfl, trivial⟩, ⟨rfl, trivial⟩, Cv.p, by omega⟩
      rw [show o + 1 - 1 = (o - 1) + 1 by omega, sigTo, hm, show ((o - 1 : Nat) : Int) + 1 = (o : Int) by omega]
    · have h3 := of_decide_eq_false h3
      have e : sigTo xs 7 = m := by rw [hm, show o - 1 = 7 by omega]
      rw [e] at k
      refine WP.exit ?_
      refine WP.seq ?_
      refine WP.region ?_
      refine RG.pv rfl (PV.mvI (.inl rfl) rfl) ?_
      refine RG.pv rfl (PV.mvI (.inr rfl) rfl) ?_
      refine RG.nil ?_
      refine WP.ret ?_
      exact ⟨_, _, ResV.one rfl rfl, Cv.p, k⟩
theorem four_bd {a b c d : Int} (ha : 0 ≤ a ∧ a ≤ 4294967296) (hb : 0 ≤ b ∧ b ≤ 4294967296) (hc : 0 ≤ c ∧ c ≤ 4294967296) (hd : 0 ≤ d ∧ d ≤ 4294967296) : ∀ i, i < [a, b, c, d].length → 0 ≤ gd [a, b, c, d] i ∧ gd [a, b, c, d] i ≤ 4294967296 := by
  intro i hi
  match i, hi with
  | 0, _ => simpa [gd] using ha
  | 1, _ => simpa [gd] using hb
  | 2, _ => simpa [gd] using hc
  | 3, _ => simpa [gd] using hd
theorem signature_s {v : Value} {xs : List Rect} (h1 : Rs G L rectT v xs) (hne : 0 < xs.length) (hb2 : xs.length ≤ 1048576) (hr : ∀ r ∈ xs, RIn 40 r) (k : R (vi (sigTo xs 7)) G L) : CallT Tryz.prog 133 #[v] G L R := by
  refine CallT.enter (args := _) Tryz.func133 rfl rfl (by kernel_rfl) rfl ?_
  refine WP.seq ?_
  refine WP.region ?_
  refine RG.pv rfl (PV.mvI (.inr rfl) rfl) ?_
  refine RG.nil ?_
  refine WP.seq ?_
  refine WP.region ?_
  refine RG.pv rfl (PV.mvI (.inr rfl) rfl) ?_
  refine RG.nil ?_
  refine WP.seq ?_
  refine WP.seq ?_
  refine WP.region ?_
  refine RG.pv rfl (PV.mvI (.inl rfl) rfl) ?_
  refine RG.nil ?_
  refine WP.block ?_
  refine WP.loop2 [0] (fun (o : Nat) (m : Int) => o ≤ 8 ∧ m = (if o = 0 then -1 else sigTo xs (o - 1))) (fun (o : Nat) (m : Int) => [(17, vi o), (3, vi m)]) (fun (o : Nat) (m : Int) => L) (fun (o : Nat) (m : Int) => 8 - o) 0 (-1) ⟨by omega, rfl⟩ ⟨rfl, rfl, trivial⟩ Cv.p ?_
  rintro o m τ ⟨ho7, hm⟩
  refine WP.seq ?_
  refine WP.region ?_
  refine RG.pv rfl (PV.lss rfl rfl rfl) ?_
  refine RG.nil ?_
  refine WP.seq ?_
  refine WP.cond rfl (fun h2 => ?_) (fun h2 => ?_)
  · have h2 := of_decide_eq_true h2
    have ho2 : 0 ≤ (o : Int) ∧ (o : Int) ≤ 7 := ⟨by omega, by omega⟩
    refine WP.skip ?_
    refine WP.seq ?_
    refine WP.block ?_
    refine WP.seq ?_
    refine WP.region ?_
    refine RG.pv rfl (PV.mvI (.inl rfl) rfl) ?_
    refine RG.pv rfl (PV.mvI (.inr rfl) rfl) ?_
    refine RG.nil ?_
    refine WP.seq ?_
    refine WP.region ?_
    refine RG.ot rfl (OT.bslice (F := rectT) (els := []) rfl El28 rfl (by decide) rfl (by decide) trivial fun v20 => ?_)
    refine RG.pv rfl (PV.asg (v := v20) rfl rfl) ?_
    refine RG.nil ?_
    refine WP.seq ?_
    refine WP.seq ?_
    refine WP.region ?_
    refine RG.pv rfl (PV.move (v := v) rfl rfl) ?_
    refine RG.pv rfl (PV.len (v := v) rfl Tryz.underlying28 rfl (SlF.r h1)) ?_
    refine RG.pv rfl (PV.mvI (.inl rfl) rfl) ?_
    refine RG.nil ?_
    refine WP.block ?_
    refine WP.loop3 [0, 3, 4, 17, 21, 22] (fun (i : Nat) (ys : List Rect) (u : Value) => i ≤ xs.length ∧ ys = (xs.take i).map (moveR ⟨o, 0, 0⟩)) (fun (i : Nat) (ys : List Rect) (u : Value) => [(23, vi i), (5, u)]) (fun (i : Nat) (ys : List Rect) (u : Value) => osl 71 rectT u ys :: L) (fun (i : Nat) (ys : List Rect) (u : Value) => xs.length - i) 0 [] v20 ⟨by omega, rfl⟩ ⟨rfl, rfl, trivial⟩ Cv.p ?_
    rintro i ys u τ1 ⟨hi, hys⟩
    refine WP.seq ?_
    refine WP.region ?_
    refine RG.pv rfl (PV.lss rfl rfl rfl) ?_
    refine RG.nil ?_
    refine WP.seq ?_
    have hyl : ys.length = i := by rw [hys]; simp; omega
    refine WP.cond rfl (fun h3 => ?_) (fun h3 => ?_)
    · have h3 := of_decide_eq_true h3
      refine WP.skip ?_
      refine WP.seq ?_
      refine WP.block ?_
      refine WP.seq ?_
      refine WP.region ?_
      refine RG.pv rfl (PV.idxS (v := v) rfl Is28 rfl (SlF.r h1) rfl rfl (by omega)) ?_
      refine RG.pv rfl (PV.loadE rfl Ag71 rfl rfl (El.r h1 (getG (by omega)))) ?_
      refine RG.ot rfl (OT.alloc rfl Zr71 fun b7 => ?_)
      refine RG.ot rfl (OT.storeW (vs := [vi _, vi _, vi _, vi _]) rfl Sz71 rfl rfl (Cl.c rfl) rfl rfl (OneC.c rfl) ?_)
      refine RG.nil ?_
      refine WP.region ?_
      refine RG.pv rfl (PV.move (v := u) rfl rfl) ?_
      refine RG.pv rfl (PV.mvI (.inl rfl) rfl) ?_
      refine RG.pv rfl (PV.build (vs := [(0, [vi _])]) (out := [_, _, _]) rfl Zr175 Pl175 ⟨rfl, (Cl.c rfl), trivial⟩ rfl) ?_
      refine RG.pv rfl (PV.loadW rfl Ag71 rfl rfl) ?_
      refine RG.callF (vs := [_, _]) rfl rfl En179 rfl (moveRect_s (t := ⟨_, _, _⟩) ho2 (by simp) (RIn_gd hr (by omega)) ?_)
      refine RG.ot rfl (OT.bslice (F := rectT) (els := [_]) rfl El28 rfl (by decide) rfl (by decide) ⟨rfl, (Cl.c rfl), trivial⟩ fun v32 => ?_)
      refine RG.ot rfl (OT.append (v := u) (u := v32) (F := rectT) rfl El28 rfl (by decide) rfl rfl Rs.o (OneL.c (fun _ => rfl)) rfl (by first | omega | (simp <;> omega)) fun v33 => ?_)
      refine RG.pv rfl (PV.asg (v := v33) rfl rfl) ?_
      refine RG.nil ?_
      refine WP.region ?_
      refine RG.pv rfl (PV.add rfl rfl rfl (by omega)) ?_
      refine RG.pv rfl (PV.mvI (.inl rfl) rfl) ?_
      refine RG.nil ?_
      exact ⟨rfl, i + 1, (ys ++ [moveR ⟨o, 0, 0⟩ (gd xs i)]), v33, ⟨by omega, by rw [hys, imgs_take (by omega)]⟩, ⟨rfl, rfl, trivial⟩, ⟨rfl, rfl, rfl, rfl, rfl, rfl, trivial⟩, Cv.p, by omega⟩
    · have h3 := of_decide_eq_false h3
      have e : ys = imgs xs o := by rw [hys, List.take_of_length_le (by omega)]; rfl
      subst e
      have h0 : 0 < (imgs xs o).length := by omega
      have hri := imgs_in (o := (o : Int)) ⟨by omega, by omega⟩ hr
      have hbx := boxL_in h0 hri
      simp only [RIn] at hbx
      have hbx2 : ∀ i, i < (imgs xs o).length → RIn 40 (gd (imgs xs o) i) := fun i hi => RIn_gd hri hi
      refine WP.exit ?_
      refine WP.seq ?_
      refine WP.region ?_
      refine RG.pv rfl (PV.move (v := u) rfl rfl) ?_
      refine RG.callF (vs := [u]) rfl rfl En180 rfl (boxOf_s Rs.o h0 ?_)
      refine RG.pv rfl (PV.build0 rfl Tryz.underlying127 ⟨80, by kernel_rfl⟩ (zeroB_spec (n := 6400) (by kernel_rfl))) ?_
      refine RG.ot rfl (OT.boxG rfl rfl fun b38 => ?_)
      refine RG.ot rfl (OT.alloc rfl Zr71 fun b8 => ?_)
      refine RG.ot rfl (OT.storeW (vs := [vi _, vi _, vi _, vi _]) rfl Sz71 rfl rfl (Cl.c rfl) rfl rfl (OneC.c rfl) ?_)
      refine RG.pv rfl (PV.mvP (.inr rfl) rfl) ?_
      refine RG.nil ?_
      refine WP.seq ?_
      refine WP.regionQ (by kernel_rfl) (by kernel_rfl) ?_
      refine RQ.pv rfl (PV.field rfl Fo71_0 rfl) ?_
      refine RQ.pv rfl (PV.load1 rfl Sc2 rfl (Rd.blk rfl)) ?_
      refine RQ.pv rfl (PV.sub rfl rfl rfl (by omega)) ?_
      refine RQ.pv rfl (PV.field rfl Fo71_1 rfl) ?_
      refine RQ.pv rfl (PV.load1 rfl Sc2 rfl (Rd.blk rfl)) ?_
      refine RQ.pv rfl (PV.sub rfl rfl rfl (by omega)) ?_
      refine RQ.pv rfl (PV.mvI (.inr rfl) rfl) ?_
      refine RQ.pv rfl (PV.mvI (.inr rfl) rfl) ?_
      refine RQ.nil ?_
      refine WP.seq ?_
      refine WP.seq ?_
      refine WP.region ?_
      refine RG.pv rfl (PV.move (v := u) rfl rfl) ?_
      refine RG.pv rfl (PV.len (v := u) rfl Tryz.underlying28 rfl SlF.o) ?_
      refine RG.pv rfl (PV.mvI (.inl rfl) rfl) ?_
      refine RG.nil ?_
      refine WP.block ?_
      refine WP.loop2 [0, 3, 9, 10, 11, 17, 45, 46] (fun (i : Nat) (cs : List Bool) => i ≤ (imgs xs o).length ∧ cs.length = 6400 ∧ ∀ y x, y < 80 → x < 80 → gb cs y x = ((shifted (imgs xs o)).take i).any fun r => inR r y x) (fun (i : Nat) (cs : List Bool) => [(47, vi i)]) (fun (i : Nat) (cs : List Bool) => grd b38 cs :: osl 71 rectT u (imgs xs o) :: L) (fun (i : Nat) (cs : List Bool) => (imgs xs o).length - i) 0 (List.replicate 6400 false) ⟨by omega, by simp, fun y x _ _ => by rw [gb_rep]; simp⟩ ⟨rfl, trivial⟩ Cv.p ?_
      rintro i cs τ2 ⟨hi2, hlc, hc⟩
      refine WP.seq ?_
      refine WP.region ?_
      refine RG.pv rfl (PV.lss rfl rfl rfl) ?_
      refine RG.nil ?_
      refine WP.seq ?_
      refine WP.cond rfl (fun h4 => ?_) (fun h4 => ?_)
      · have h4 := of_decide_eq_true h4
        have hri2 := hbx2 i (by omega)
        simp only [RIn] at hri2
        refine WP.skip ?_
        refine WP.seq ?_
        refine WP.block ?_
        refine WP.seq ?_
        refine WP.region ?_
        refine RG.pv rfl (PV.idxS (v := u) rfl Is28 rfl SlF.o rfl rfl (by omega)) ?_
        refine RG.pv rfl (PV.loadE rfl Ag71 rfl rfl (El.o (getG (by omega)))) ?_
        refine RG.ot rfl (OT.alloc rfl Zr71 fun b13 => ?_)
        refine RG.ot rfl (OT.storeW (vs := [vi _, vi _, vi _, vi _]) rfl Sz71 rfl rfl (Cl.c rfl) rfl rfl (OneC.c rfl) ?_)
        refine RG.nil ?_
        refine WP.region ?_
        refine RG.pv rfl (PV.mvP (.inl rfl) rfl) ?_
        refine RG.pv rfl (PV.field rfl Fo71_0 rfl) ?_
        refine RG.pv rfl (PV.load1 rfl Sc2 rfl (Rd.blk rfl)) ?_
        refine RG.pv rfl (PV.mvI (.inl rfl) rfl) ?_
        refine RG.pv rfl (PV.add rfl rfl rfl (by omega)) ?_
        refine RG.pv rfl (PV.field rfl Fo71_1 rfl) ?_
        refine RG.pv rfl (PV.load1 rfl Sc2 rfl (Rd.blk rfl)) ?_
        refine RG.pv rfl (PV.mvI (.inl rfl) rfl) ?_
        refine RG.pv rfl (PV.add rfl rfl rfl (by omega)) ?_
        refine RG.pv rfl (PV.field rfl Fo71_2 rfl) ?_
        refine RG.pv rfl (PV.load1 rfl Sc2 rfl (Rd.blk rfl)) ?_
        refine RG.pv rfl (PV.mvI (.inl rfl) rfl) ?_
        refine RG.pv rfl (PV.add rfl rfl rfl (by omega)) ?_
        refine RG.pv rfl (PV.field rfl Fo71_3 rfl) ?_
        refine RG.pv rfl (PV.load1 rfl Sc2 rfl (Rd.blk rfl)) ?_
        refine RG.pv rfl (PV.mvI (.inl rfl) rfl) ?_
        refine RG.pv rfl (PV.add rfl rfl rfl (by omega)) ?_
        refine RG.pv rfl (PV.build (vs := [(0, [vi _]), (1, [vi _]), (2, [vi _]), (3, [vi _])]) (out := [_, _, _, _]) rfl Zr71 Pl71 ⟨rfl, (Cl.c rfl), ⟨rfl, (Cl.c rfl), ⟨rfl, (Cl.c rfl), ⟨rfl, (Cl.c rfl), trivial⟩⟩⟩⟩ rfl) ?_
        refine RG.callF (vs := [(.pointer (some ⟨b38, 0, none⟩)), _]) rfl rfl En149 rfl (CallT.exB (put_s (r := ⟨_, _, _, _⟩) (by assumption) (fun bs' hb' hg' => ?_)))
        refine RG.nil ?_
        refine WP.region ?_
        refine RG.pv rfl (PV.add rfl rfl rfl (by omega)) ?_
        refine RG.pv rfl (PV.mvI (.inl rfl) rfl) ?_
        refine RG.nil ?_
        refine ⟨rfl, i + 1, bs', ⟨by omega, hb', fun y x h5 h6 => ?_⟩, ⟨rfl, trivial⟩, ⟨rfl, rfl, rfl, rfl, rfl, rfl, rfl, rfl, trivial⟩, Cv.p, by omega⟩
        rw [hg' y x h5 h6, hc y x h5 h6, List.take_add_one, getG (by simp [shifted]; omega), shifted, gd_map _ (by omega), List.any_append]
        simp only [Option.toList_some, List.any_cons, List.any_nil, Bool.or_false]
      · have h4 := of_decide_eq_false h4
        have e : cs = bits (shifted (imgs xs o)) := bits_eq hlc fun y x h5 h6 => by rw [hc y x h5 h6, List.take_of_length_le (by simp [shifted]; omega)]
        subst e
        have hcb : ∀ i, i < (canon (bits (shifted (imgs xs o)))).length → _ := fun i hi => canon_bd hi
        have hcl := canon_len (bits (shifted (imgs xs o)))
        have hsg : sigO xs o = hashRs 17 (canon (bits (shifted (imgs xs o)))) := rfl
        refine WP.exit ?_
        refine WP.seq ?_
        refine WP.region ?_
        refine RG.pv rfl (PV.mvI (.inr rfl) rfl) ?_
        refine RG.nil ?_
        refine WP.seq ?_
        refine WP.seq ?_
        refine WP.region ?_
        refine RG.pv rfl (PV.mvP (.inl rfl) rfl) ?_
        refine RG.callF (vs := [(.pointer (some ⟨b38, 0, none⟩))]) rfl rfl En95 rfl (CallT.exB (region_s (bits_length _) (fun v72 => ?_)))
        refine RG.pv rfl (PV.len (v := v72) rfl Tryz.underlying28 rfl SlF.o) ?_
        refine RG.pv rfl (PV.mvI (.inl rfl) rfl) ?_
        refine RG.nil ?_
        refine WP.block ?_
        generalize canon (bits (shifted (imgs xs o))) = C at *
        refine WP.loop2 [0, 3, 17, 72, 73] (fun (j : Nat) (g : Int) => j ≤ C.length ∧ g = hashRs 17 (C.take j)) (fun (j : Nat) (g : Int) => [(74, vi j), (14, vi g)]) (fun (j : Nat) (g : Int) => osl 71 rectT v72 C :: L) (fun (j : Nat) (g : Int) => C.length - j) 0 17 ⟨by omega, rfl⟩ ⟨rfl, rfl, trivial⟩ Cv.p ?_
        rintro j g τ3 ⟨hj, hg⟩
        refine WP.seq ?_
        refine WP.region ?_
        refine RG.pv rfl (PV.lss rfl rfl rfl) ?_
        refine RG.nil ?_
        refine WP.seq ?_
        have hgb := hashRs_bd (h := 17) (C.take j) (by omega)
        rw [← hg] at hgb
        refine WP.cond rfl (fun h5 => ?_) (fun h5 => ?_)
        · have h5 := of_decide_eq_true h5
          obtain ⟨q1, q2, q3, q4, q5, q6, q7, q8⟩ := hcb j (by omega)
          refine WP.skip ?_
          refine WP.seq ?_
          refine WP.block ?_
          refine WP.seq ?_
          refine WP.region ?_
          refine RG.pv rfl (PV.idxS (v := v72) rfl Is28 rfl SlF.o rfl rfl (by omega)) ?_
          refine RG.pv rfl (PV.loadE rfl Ag71 rfl rfl (El.o (getG (by omega)))) ?_
          refine RG.ot rfl (OT.alloc rfl Zr71 fun b16 => ?_)
          refine RG.ot rfl (OT.storeW (vs := [vi _, vi _, vi _, vi _]) rfl Sz71 rfl rfl (Cl.c rfl) rfl rfl (OneC.c rfl) ?_)
          refine RG.nil ?_
          refine WP.region ?_
          refine RG.pv rfl (PV.mvI (.inl rfl) rfl) ?_
          refine RG.pv rfl (PV.field rfl Fo71_0 rfl) ?_
          refine RG.pv rfl (PV.load1 rfl Sc2 rfl (Rd.blk rfl)) ?_
          refine RG.pv rfl (PV.add rfl rfl rfl (by omega)) ?_
          refine RG.pv rfl (PV.field rfl Fo71_1 rfl) ?_
          refine RG.pv rfl (PV.load1 rfl Sc2 rfl (Rd.blk rfl)) ?_
          refine RG.pv rfl (PV.add rfl rfl rfl (by omega)) ?_
          refine RG.pv rfl (PV.field rfl Fo71_2 rfl) ?_
          refine RG.pv rfl (PV.load1 rfl Sc2 rfl (Rd.blk rfl)) ?_
          refine RG.pv rfl (PV.add rfl rfl rfl (by omega)) ?_
          refine RG.pv rfl (PV.field rfl Fo71_3 rfl) ?_
          refine RG.pv rfl (PV.load1 rfl Sc2 rfl (Rd.blk rfl)) ?_
          refine RG.pv rfl (PV.add rfl rfl rfl (by omega)) ?_
          refine RG.ot rfl (OT.bslice (F := intT) (els := [_, _, _, _]) rfl El83 rfl (by decide) rfl (by decide) ⟨rfl, (Cl.c rfl), ⟨rfl, (Cl.c rfl), ⟨rfl, (Cl.c rfl), ⟨rfl, (Cl.c rfl), trivial⟩⟩⟩⟩ fun v91 => ?_)
          refine RG.callF (vs := [_, v91]) rfl rfl En132 rfl (hash_s Rs.o hgb (four_bd (by omega) (by omega) (by omega) (by omega)) ?_)
          refine RG.pv rfl (PV.mvI (.inr rfl) rfl) ?_
          refine RG.nil ?_
          refine WP.region ?_
          refine RG.pv rfl (PV.add rfl rfl rfl (by omega)) ?_
          refine RG.pv rfl (PV.mvI (.inl rfl) rfl) ?_
          refine RG.nil ?_
          exact ⟨rfl, j + 1, _, ⟨by omega, by rw [hashRs_take (by omega), ← hg]; rfl⟩, ⟨rfl, rfl, trivial⟩, ⟨rfl, rfl, rfl, rfl, rfl, trivial⟩, Cv.p, by omega⟩
        · have h5 := of_decide_eq_false h5
          have e : sigO xs o = g := by rw [hsg, hg, List.take_of_length_le (by omega)]
          have hsb := sigTo_bd xs (o - 1)
          refine WP.exit ?_
          refine WP.seq ?_
          refine WP.region ?_
          refine RG.pv rfl (PV.mvI (.inl rfl) rfl) ?_
          refine RG.pv rfl (PV.lss rfl rfl rfl) ?_
          refine RG.pv rfl (PV.mvB (.inl rfl) rfl) ?_
          refine RG.gs rfl rfl rfl (fun hp => (PV.mvI (.inl rfl) rfl)) ?_
          refine RG.gs rfl rfl rfl (fun hp => (PV.mvI (.inl rfl) rfl)) ?_
          refine RG.gs rfl rfl rfl (fun hp => (PV.lss rfl (gs_t hp) (gs_t hp))) ?_
          refine RG.pv rfl (PV.pickO rfl rfl rfl (fun hq => gs_t (geqF hq))) ?_
          refine RG.nil ?_
          refine WP.cond rfl (fun h6 => ?_) (fun h6 => ?_)
          · refine WP.region ?_
            refine RG.pv rfl (PV.mvI (.inl rfl) rfl) ?_
            refine RG.pv rfl (PV.mvI (.inr rfl) rfl) ?_
            refine RG.nil ?_
            refine WP.region ?_
            refine RG.pv rfl (PV.add rfl rfl rfl (by omega)) ?_
            refine RG.pv rfl (PV.mvI (.inl rfl) rfl) ?_
            refine RG.nil ?_
            refine ⟨rfl, o + 1, _, ⟨by omega, ?_⟩, ⟨rfl, rfl, trivial⟩, ⟨rfl, trivial⟩, Cv.p, by omega⟩
            by_cases c : o = 0
            · subst c; simp [sigTo, ← e]
            · rw [if_neg c] at hm
              have e2 : sigTo xs o = min (sigTo xs (o - 1)) (sigO xs o) := by
                rw [show o = (o - 1) + 1 by omega, sigTo, Nat.add_sub_cancel, show ((o - 1 : Nat) : Int) + 1 = ((o - 1 + 1 : Nat) : Int) by omega]
              simp at h6
              rw [if_neg (by omega), Nat.add_sub_cancel, e2, e, ← hm]; omega
          · refine WP.skip ?_
            refine WP.region ?_
            refine RG.pv rfl (PV.add rfl rfl rfl (by omega)) ?_
            refine RG.pv rfl (PV.mvI (.inl rfl) rfl) ?_
            refine RG.nil ?_
            refine ⟨rfl, o + 1, _, ⟨by omega, ?_⟩, ⟨rfl, rfl, trivial⟩, ⟨rfl, trivial⟩, Cv.p, by omega⟩
            by_cases c : o = 0
            · subst c; simp [hm] at h6
            · rw [if_neg c] at hm
              have e2 : sigTo xs o = min (sigTo xs (o - 1)) (sigO xs o) := by
                rw [show o = (o - 1) + 1 by omega, sigTo, Nat.add_sub_cancel, show ((o - 1 : Nat) : Int) + 1 = ((o - 1 + 1 : Nat) : Int) by omega]
              simp at h6
              rw [if_neg (by omega), Nat.add_sub_cancel, e2, e, ← hm]; omega
  · have h2 := of_decide_eq_false h2
    have e : sigTo xs 7 = m := by rw [hm, if_neg (by omega), show o - 1 = 7 by omega]
    rw [e] at k
    refine WP.exit ?_
    refine WP.seq ?_
    refine WP.region ?_
    refine RG.pv rfl (PV.mvI (.inl rfl) rfl) ?_
    refine RG.pv rfl (PV.mvI (.inr rfl) rfl) ?_
    refine RG.nil ?_
    refine WP.ret ?_
    exact ⟨_, _, ResV.one rfl rfl, Cv.p, k⟩
end Go.Proofs.YtpjajhjcbcfplaaGreat
