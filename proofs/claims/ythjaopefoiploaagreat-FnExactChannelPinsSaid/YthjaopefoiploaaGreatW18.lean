/-
  Contracts: comparison of rectangles; components of a set of cells, as regions.
-/
import Derived.Test.YthjaopefoiploaaGreatW17
import Derived.Test.YthjaopefoiploaaGreatParts
namespace Go.Proofs.YthjaopefoiploaaGreat
open Go
set_option maxRecDepth 20000
set_option linter.unusedSimpArgs false
variable {G : Gh} {L : List Ch} {R : Value → Gh → List Ch → Prop}
def cmpI (x y : Int) : Int := if x < y then -1 else if y < x then 1 else 0
def orI : List Int → Int
  | [] => 0
  | x :: l => if x ≠ 0 then x else orI l
def cmpR (a b : Rect) : Int := orI [cmpI a.y0 b.y0, cmpI a.x0 b.x0, cmpI a.y1 b.y1, cmpI a.x1 b.x1]
theorem orI_zero : ∀ {xs : List Int} {i : Nat}, (∀ j, j < i → gd xs j = 0) → orI xs = orI (xs.drop i)
  | xs, 0, _ => by simp
  | [], i + 1, _ => by simp
  | x :: xs, i + 1, h => by
    have h0 : x = 0 := by have := h 0 (by omega); simpa [gd] using this
    rw [List.drop_succ_cons, orI, if_neg (by simp [h0])]
    exact orI_zero fun j hj => by have := h (j + 1) (by omega); simpa [gd] using this
theorem orI_at {xs : List Int} {i : Nat} (hi : i < xs.length) (h : ∀ j, j < i → gd xs j = 0) (hx : gd xs i ≠ 0) : orI xs = gd xs i := by
  rw [orI_zero h, List.drop_eq_getElem_cons hi, ← gd_eq hi, orI, if_pos hx]
theorem orI_all {xs : List Int} (h : ∀ j, j < xs.length → gd xs j = 0) : orI xs = 0 := by
  rw [orI_zero h]; simp [orI]
theorem cmpOr_s {v : Value} {xs : List Int} (h1 : Rs G L intT v xs) (k : R (vi (orI xs)) G L) : CallT Tryz.prog 224 #[v] G L R := by
  refine CallT.bd h1 fun hb => ?_
  refine CallT.enter (args := _) Tryz.func224 rfl rfl (by kernel_rfl) rfl ?_
  refine WP.seq ?_
  refine WP.region ?_
  refine RG.pv rfl (PV.mvI (.inr rfl) rfl) ?_
  refine RG.nil ?_
  refine WP.seq ?_
  refine WP.region ?_
  refine RG.pv rfl (PV.mvI (.inr rfl) rfl) ?_
  refine RG.nil ?_
  refine WP.seq ?_
  refine WP.seq ?_
  refine WP.region ?_
  refine RG.pv rfl (PV.move (v := v) rfl rfl) ?_
  refine RG.pv rfl (PV.len (v := v) rfl Tryz.underlying176 rfl (SlF.r h1)) ?_
  refine RG.pv rfl (PV.mvI (.inl rfl) rfl) ?_
  refine RG.nil ?_
  refine WP.block ?_
  refine WP.loop1 [3, 6, 7] (fun i => i ≤ xs.length ∧ ∀ j, j < i → gd xs j = 0) (fun i => [(8, vi i)]) (fun i => L) (fun i => xs.length - i) 0 ⟨by omega, fun j h => by omega⟩ ⟨rfl, trivial⟩ Cv.p ?_
  rintro i τ ⟨hi, hj⟩
  refine WP.seq ?_
  refine WP.region ?_
  refine RG.pv rfl (PV.lss rfl rfl rfl) ?_
  refine RG.nil ?_
  refine WP.seq ?_
  refine WP.cond rfl (fun h2 => ?_) (fun h2 => ?_)
  · have h2 := of_decide_eq_true h2
    refine WP.skip ?_
    refine WP.seq ?_
    refine WP.block ?_
    refine WP.seq ?_
    refine WP.region ?_
    refine RG.pv rfl (PV.idxS (v := v) rfl Is176 rfl (SlF.r h1) rfl rfl (by omega)) ?_
    refine RG.pv rfl (PV.loadE1 rfl Sc3 rfl rfl (El.r h1 (getG (by omega))) rfl) ?_
    refine RG.pv rfl (PV.mvI (.inr rfl) rfl) ?_
    refine RG.nil ?_
    refine WP.seq ?_
    refine WP.region ?_
    refine RG.pv rfl (PV.mvI (.inl rfl) rfl) ?_
    refine RG.pv rfl (PV.mvI (.inl rfl) rfl) ?_
    refine RG.pv rfl (PV.neq rfl rfl rfl) ?_
    refine RG.nil ?_
    refine WP.cond rfl (fun h3 => ?_) (fun h3 => ?_)
    · have h3 : gd xs i ≠ 0 := by simpa using h3
      rw [orI_at (by omega) hj h3] at k
      refine WP.seq ?_
      refine WP.region ?_
      refine RG.pv rfl (PV.mvI (.inl rfl) rfl) ?_
      refine RG.pv rfl (PV.mvI (.inr rfl) rfl) ?_
      refine RG.nil ?_
      refine WP.ret ?_
      exact ⟨_, _, ResV.one rfl rfl, Cv.p, k⟩
    · have h3 : gd xs i = 0 := by simpa using h3
      have hj' : ∀ j, j < i + 1 → gd xs j = 0 := fun j h => by
        by_cases c : j = i
        · rw [c]; exact h3
        · exact hj j (by omega)
      refine WP.skip ?_
      refine WP.region ?_
      refine RG.pv rfl (PV.add rfl rfl rfl (by omega)) ?_
      refine RG.pv rfl (PV.mvI (.inl rfl) rfl) ?_
      refine RG.nil ?_
      exact ⟨rfl, i + 1, ⟨by omega, hj'⟩, ⟨rfl, trivial⟩, ⟨rfl, rfl, rfl, trivial⟩, Cv.p, by omega⟩
  · have h2 := of_decide_eq_false h2
    rw [orI_all (fun j h => hj j (by omega))] at k
    refine WP.exit ?_
    refine WP.seq ?_
    refine WP.region ?_
    refine RG.pv rfl (PV.mvI (.inl rfl) rfl) ?_
    refine RG.pv rfl (PV.mvI (.inr rfl) rfl) ?_
    refine RG.nil ?_
    refine WP.ret ?_
    exact ⟨_, _, ResV.one rfl rfl, Cv.p, k⟩
theorem isNaN_s {a : Int} (k : R (.bool false) G L) : CallT Tryz.prog 205 #[vi a] G L R := by
  have e : (!decide (a = a)) = false := by simp
  refine CallT.enter (args := _) Tryz.func205 rfl rfl (by kernel_rfl) rfl ?_
  refine WP.seq ?_
  refine WP.region ?_
  refine RG.pv rfl (PV.mvB (.inr rfl) rfl) ?_
  refine RG.nil ?_
  refine WP.seq ?_
  refine WP.region ?_
  refine RG.pv rfl (PV.mvI (.inl rfl) rfl) ?_
  refine RG.pv rfl (PV.mvI (.inl rfl) rfl) ?_
  refine RG.pv rfl (PV.neq rfl rfl rfl) ?_
  refine RG.pv rfl (PV.mvB (.inr rfl) rfl) ?_
  refine RG.nil ?_
  refine WP.ret ?_
  exact ⟨_, _, ResV.one rfl rfl, Cv.p, (by rw [e]; exact k)⟩
theorem cmp_s {a b : Int} (k : R (vi (cmpI a b)) G L) : CallT Tryz.prog 225 #[vi a, vi b] G L R := by
  refine CallT.enter (args := _) Tryz.func225 rfl rfl (by kernel_rfl) rfl ?_
  refine WP.seq ?_
  refine WP.region ?_
  refine RG.pv rfl (PV.mvI (.inr rfl) rfl) ?_
  refine RG.nil ?_
  refine WP.seq ?_
  refine WP.region ?_
  refine RG.pv rfl (PV.mvI (.inl rfl) rfl) ?_
  refine RG.callF (vs := [_]) rfl rfl En205 rfl (isNaN_s ?_)
  refine RG.pv rfl (PV.mvB (.inr rfl) rfl) ?_
  refine RG.nil ?_
  refine WP.seq ?_
  refine WP.region ?_
  refine RG.pv rfl (PV.mvI (.inl rfl) rfl) ?_
  refine RG.callF (vs := [_]) rfl rfl En205 rfl (isNaN_s ?_)
  refine RG.pv rfl (PV.mvB (.inr rfl) rfl) ?_
  refine RG.nil ?_
  refine WP.seq ?_
  refine WP.seq ?_
  refine WP.region ?_
  refine RG.pv rfl (PV.mvB (.inl rfl) rfl) ?_
  refine RG.nil ?_
  refine WP.cond rfl (fun h => ?_) (fun h => ?_)
  · cases h
  · refine WP.skip ?_
    refine WP.seq ?_
    refine WP.seq ?_
    refine WP.region ?_
    refine RG.pv rfl (PV.mvB (.inl rfl) rfl) ?_
    refine RG.nil ?_
    refine WP.cond rfl (fun h => ?_) (fun h => ?_)
    · cases h
    · refine WP.skip ?_
      refine WP.seq ?_
      refine WP.seq ?_
      refine WP.region ?_
      refine RG.pv rfl (PV.mvI (.inl rfl) rfl) ?_
      refine RG.pv rfl (PV.mvI (.inl rfl) rfl) ?_
      refine RG.pv rfl (PV.lss rfl rfl rfl) ?_
      refine RG.nil ?_
      refine WP.cond rfl (fun h1 => ?_) (fun h1 => ?_)
      · rw [cmpI, if_pos (of_decide_eq_true h1)] at k
        refine WP.seq ?_
        refine WP.region ?_
        refine RG.pv rfl (PV.mvI (.inr rfl) rfl) ?_
        refine RG.nil ?_
        refine WP.ret ?_
        exact ⟨_, _, ResV.one rfl rfl, Cv.p, k⟩
      · have h1 := of_decide_eq_false h1
        refine WP.skip ?_
        refine WP.seq ?_
        refine WP.seq ?_
        refine WP.region ?_
        refine RG.pv rfl (PV.mvI (.inl rfl) rfl) ?_
        refine RG.pv rfl (PV.mvI (.inl rfl) rfl) ?_
        refine RG.pv rfl (PV.gtr rfl rfl rfl) ?_
        refine RG.nil ?_
        refine WP.cond rfl (fun h2 => ?_) (fun h2 => ?_)
        · rw [cmpI, if_neg h1, if_pos (of_decide_eq_true h2)] at k
          refine WP.seq ?_
          refine WP.region ?_
          refine RG.pv rfl (PV.mvI (.inr rfl) rfl) ?_
          refine RG.nil ?_
          refine WP.ret ?_
          exact ⟨_, _, ResV.one rfl rfl, Cv.p, k⟩
        · rw [cmpI, if_neg h1, if_neg (of_decide_eq_false h2)] at k
          refine WP.skip ?_
          refine WP.seq ?_
          refine WP.region ?_
          refine RG.pv rfl (PV.mvI (.inr rfl) rfl) ?_
          refine RG.nil ?_
          refine WP.ret ?_
          exact ⟨_, _, ResV.one rfl rfl, Cv.p, k⟩
theorem compareRects_s {a b : Rect} (k : R (vi (cmpR a b)) G L) : CallT Tryz.prog 217 #[.agg #[vi a.x0, vi a.y0, vi a.x1, vi a.y1], .agg #[vi b.x0, vi b.y0, vi b.x1, vi b.y1]] G L R := by
  refine CallT.enter (args := _) Tryz.func217 rfl rfl (by kernel_rfl) rfl ?_
  refine WP.seq ?_
  refine WP.region ?_
  refine RG.ot rfl (OT.box rfl rfl rfl fun b2 => ?_)
  refine RG.ot rfl (OT.box rfl rfl rfl fun b3 => ?_)
  refine RG.pv rfl (PV.mvI (.inr rfl) rfl) ?_
  refine RG.nil ?_
  refine WP.seq ?_
  refine WP.regionH0 (.q 0 (.q 1 (.q 2 (.q 3 (.q 5 (.q 6 (.q 7 (.q 8 (.q 10 (.q 11 (.q 12 (.q 13 (.q 15 (.q 16 (.q 17 (.q 18 (.l 4 (.l 9 (.l 14 (.l 19 (.l 20 (.l 21 (.q 22 Sch.nil))))))))))))))))))))))) (by kernel_rfl) (by kernel_rfl) (by kernel_rfl) rfl ?_
  refine RH.pv rfl (fun _ _ _ _ h => h) (Gh.le_refl _) PickC.pick rfl (PV.field rfl Fo59_1 rfl) ?_
  refine RH.pv rfl (fun _ _ _ _ h => h) (Gh.le_refl _) PickC.pick rfl (PV.load1 rfl Sc2 rfl (Rd.blk rfl)) ?_
  refine RH.pv rfl (fun _ _ _ _ h => h) (Gh.le_refl _) PickC.pick rfl (PV.field rfl Fo59_1 rfl) ?_
  refine RH.pv rfl (fun _ _ _ _ h => h) (Gh.le_refl _) PickC.pick rfl (PV.load1 rfl Sc2 rfl (Rd.blk rfl)) ?_
  refine RH.pv rfl (fun _ _ _ _ h => h) (Gh.le_refl _) PickC.pick rfl (PV.field rfl Fo59_0 rfl) ?_
  refine RH.pv rfl (fun _ _ _ _ h => h) (Gh.le_refl _) PickC.pick rfl (PV.load1 rfl Sc2 rfl (Rd.blk rfl)) ?_
  refine RH.pv rfl (fun _ _ _ _ h => h) (Gh.le_refl _) PickC.pick rfl (PV.field rfl Fo59_0 rfl) ?_
  refine RH.pv rfl (fun _ _ _ _ h => h) (Gh.le_refl _) PickC.pick rfl (PV.load1 rfl Sc2 rfl (Rd.blk rfl)) ?_
  refine RH.pv rfl (fun _ _ _ _ h => h) (Gh.le_refl _) PickC.pick rfl (PV.field rfl Fo59_3 rfl) ?_
  refine RH.pv rfl (fun _ _ _ _ h => h) (Gh.le_refl _) PickC.pick rfl (PV.load1 rfl Sc2 rfl (Rd.blk rfl)) ?_
  refine RH.pv rfl (fun _ _ _ _ h => h) (Gh.le_refl _) PickC.pick rfl (PV.field rfl Fo59_3 rfl) ?_
  refine RH.pv rfl (fun _ _ _ _ h => h) (Gh.le_refl _) PickC.pick rfl (PV.load1 rfl Sc2 rfl (Rd.blk rfl)) ?_
  refine RH.pv rfl (fun _ _ _ _ h => h) (Gh.le_refl _) PickC.pick rfl (PV.field rfl Fo59_2 rfl) ?_
  refine RH.pv rfl (fun _ _ _ _ h => h) (Gh.le_refl _) PickC.pick rfl (PV.load1 rfl Sc2 rfl (Rd.blk rfl)) ?_
  refine RH.pv rfl (fun _ _ _ _ h => h) (Gh.le_refl _) PickC.pick rfl (PV.field rfl Fo59_2 rfl) ?_
  refine RH.pv rfl (fun _ _ _ _ h => h) (Gh.le_refl _) PickC.pick rfl (PV.load1 rfl Sc2 rfl (Rd.blk rfl)) ?_
  refine RH.ot rfl rfl (OT.callF (vs := [_, _]) rfl En225 rfl (cmp_s ⟨Gh.le_refl _, PickC.pick, ?_⟩))
  refine RH.ot rfl rfl (OT.callF (vs := [_, _]) rfl En225 rfl (cmp_s ⟨Gh.le_refl _, PickC.pick, ?_⟩))
  refine RH.ot rfl rfl (OT.callF (vs := [_, _]) rfl En225 rfl (cmp_s ⟨Gh.le_refl _, PickC.pick, ?_⟩))
  refine RH.ot rfl rfl (OT.callF (vs := [_, _]) rfl En225 rfl (cmp_s ⟨Gh.le_refl _, PickC.pick, ?_⟩))
  refine RH.ot rfl rfl (OT.bslice (F := intT) (els := [_, _, _, _]) rfl El176 rfl (by decide) rfl (by decide) ⟨rfl, (Cl.c rfl), ⟨rfl, (Cl.c rfl), ⟨rfl, (Cl.c rfl), ⟨rfl, (Cl.c rfl), trivial⟩⟩⟩⟩ fun v25 => ⟨Gh.le_refl _, PickC.pick, ?_⟩)
  refine RH.ot rfl rfl (OT.callF (vs := [v25]) rfl En224 rfl (cmpOr_s Rs.o ⟨Gh.le_refl _, PickC.pick, ?_⟩))
  refine RH.pv rfl (fun _ _ _ _ h => h) (Gh.le_refl _) PickC.pick rfl (PV.mvI (.inr rfl) rfl) ?_
  refine RH.nil ?_
  refine WP.ret ?_
  exact ⟨_, _, ResV.one rfl rfl, Cv.p, k⟩
theorem partsCmp_s {v u : Value} {xs ys : List Rect} (h1 : Rs G L rectT v xs) (h2 : Rs G L rectT u ys) (hx : 0 < xs.length) (hy : 0 < ys.length) (k : R (vi (cmpR (gd xs 0) (gd ys 0))) G L) : CallT Tryz.prog 216 #[v, u] G L R := by
  refine CallT.enter (args := _) Tryz.func216 rfl rfl (by kernel_rfl) rfl ?_
  refine WP.seq ?_
  refine WP.region ?_
  refine RG.pv rfl (PV.mvI (.inr rfl) rfl) ?_
  refine RG.nil ?_
  refine WP.seq ?_
  refine WP.regionQ (by kernel_rfl) (by kernel_rfl) ?_
  refine RQ.pv rfl (PV.move (v := v) rfl rfl) ?_
  refine RQ.pv rfl (PV.idxS (j := 0) (v := v) rfl Is66 rfl (SlF.r h1) rfl (by omega) (by omega)) ?_
  refine RQ.pv rfl (PV.loadE rfl Ag59 rfl rfl (El.r h1 (getG (by omega)))) ?_
  refine RQ.pv rfl (PV.move (v := u) rfl rfl) ?_
  refine RQ.pv rfl (PV.idxS (j := 0) (v := u) rfl Is66 rfl (SlF.r h2) rfl (by omega) (by omega)) ?_
  refine RQ.pv rfl (PV.loadE rfl Ag59 rfl rfl (El.r h2 (getG (by omega)))) ?_
  refine RQ.callF (vs := [_, _]) rfl rfl En217 rfl (compareRects_s ⟨rfl, rfl, rfl⟩) ?_
  refine RQ.pv rfl (PV.mvI (.inr rfl) rfl) ?_
  refine RQ.nil ?_
  refine WP.ret ?_
  exact ⟨_, _, ResV.one rfl rfl, Cv.p, k⟩
theorem parts_len {S : List Bool} {zs : List (Sl Rect)} (h : er zs = partsL S) : zs.length ≤ 6400 := by
  have := congrArg List.length h
  have h1 := firsts_len S 6400
  rw [er_len, partsL_len] at this; omega
theorem parts_at {S : List Bool} {zs : List (Sl Rect)} (h : er zs = partsL S) {i : Nat} (hi : i < zs.length) : i < (firsts S 6400).length ∧ (gd zs i).xs = canon (compB S (cel (gd (firsts S 6400) i))) := by
  have := congrArg List.length h
  rw [er_len, partsL_len] at this
  refine ⟨by omega, ?_⟩
  rw [← er_gd, h, partsL_gd (by omega)]
theorem parts_ne {S : List Bool} {zs : List (Sl Rect)} (h : er zs = partsL S) {i : Nat} (hi : i < zs.length) : 0 < (gd zs i).xs.length := by
  obtain ⟨h1, h2⟩ := parts_at h hi
  rw [h2]; exact (canon_first (firsts_first h1)).1
theorem parts_lt {S : List Bool} {zs : List (Sl Rect)} (h : er zs = partsL S) {i j : Nat} (hij : i < j) (hj : j < zs.length) : ¬ cmpR (gd (gd zs j).xs 0) (gd (gd zs i).xs 0) < 0 := by
  obtain ⟨h1, h2⟩ := parts_at h (i := i) (by omega)
  obtain ⟨h3, h4⟩ := parts_at h hj
  obtain ⟨_, a1, a2⟩ := canon_first (firsts_first h1)
  obtain ⟨_, a3, a4⟩ := canon_first (firsts_first h3)
  have h5 := firsts_lt hij h3
  rw [h2, h4, cmpR, a1, a2, a3, a4]
  simp only [orI, cmpI]
  split <;> split <;> (try split) <;> (try split) <;> (try split) <;> omega
theorem pi_zlen {S T : List Bool} {n : Nat} {zs : List (Sl Rect)} (h : PI canon S n T (er zs)) : zs.length ≤ n := by
  have := congrArg List.length h.er
  have h1 := firsts_len S n
  rw [er_len, List.length_map] at this; omega
theorem bv_len (bs : List Bool) : (bv bs).length = bs.length := by simp [bv]
theorem take6400 {S : List Bool} (h : S.length = 6400) : (S.drop 0).take 6400 = S := by rw [List.drop_zero, List.take_of_length_le (by omega)]
theorem allOne_bv (bs : List Bool) : allOne (bv bs) = true := by simp [allOne, bv, Value.oneCell']
theorem OT.storeGG {P : Program} {n : Nat} {σ : Nat → Value} {o : Oper} {K : (Nat → Value) → Gh → List Ch → Prop} {b : Nat} {t e : TypeId} {x y : Operand} {cs : List Value} {bs : List Bool} {L' : List Ch} (ho : o.op = .store t x y) (hS : ∀ w, (sizeOf t).run P w = .ok 6400 w) (hx : ev σ x = .pointer (some ⟨b, 0, none⟩)) (hy : ev σ y = .agg (bv bs).toArray) (hl : bs.length = 6400) [hX : ExB b L e cs L'] (hc : cs.length = 6400) (k : K (updo σ o.dst undef) G (blk b e (bv bs) :: L')) : OT P n o σ G L K :=
  OT.storeW ho hS hx hy (Cl.c (by simp [Value.cells])) (by simp [bv, hl]) hc (OneC.c (allOne_bv bs)) k
set_option maxHeartbeats 1000000 in
theorem parts_s {b : Nat} {S : List Bool} (hS : S.length = 6400) (k : ∀ v zs, er zs = partsL S → R v G (osl 66 slT v zs :: bagS 59 rectT zs :: grd b S :: L)) : CallT Tryz.prog 188 #[.pointer (some ⟨b, 0, none⟩), .bool false] G (grd b S :: L) R := by
  refine CallT.enter (args := _) Tryz.func188 rfl rfl (by kernel_rfl) rfl ?_
  refine WP.seq ?_
  refine WP.region ?_
  refine RG.pv rfl (PV.asg rfl rfl) ?_
  refine RG.nil ?_
  refine WP.cut2 [1] (fun (o : Value) (b6 : Nat) => True) (fun (o : Value) (b6 : Nat) => [(5, o), (6, .pointer (some ⟨b6, 0, none⟩))]) (fun (o : Value) (b6 : Nat) => grd b6 S :: osl 66 slT o ([] : List (Sl Rect)) :: grd b S :: L) ?_ ?_
  refine WP.regionH0 (.q 1 (.q 2 (.q 3 (.b 0 (.l 4 (.q 5 (.l 6 Sch.nil))) 4 (.l 0 (.q 5 (.l 6 Sch.nil))))))) (by kernel_rfl) (by kernel_rfl) (by kernel_rfl) rfl ?_
  refine RH.pv rfl (fun _ _ _ _ h => h) (Gh.le_refl _) PickC.pick rfl (PV.mvP (.inl rfl) rfl) ?_
  refine RH.pv rfl (fun _ _ _ _ h => h) (Gh.le_refl _) PickC.pick rfl (PV.nilc rfl rfl) ?_
  refine RH.pv rfl (fun _ _ _ _ h => h) (Gh.le_refl _) PickC.pick rfl (PV.loadRow rfl Ag218 rfl rfl (by omega)) ?_
  · refine RH.ot2 rfl rfl rfl rfl  (OT.bslice (F := (slT (α := Rect))) (els := []) rfl El27 rfl (by decide) rfl (by decide) trivial fun v12 => ⟨Gh.le_refl _, PickC.pick, ?_⟩) (OT.alloc rfl (zeroB_spec (n := 6400) (by kernel_rfl)) fun b6 => ⟨Gh.le_refl _, PickC.pick, ?_⟩)
    · refine RH.ot rfl rfl (OT.alloc rfl (zeroB_spec (n := 6400) (by kernel_rfl)) fun b6 => ⟨Gh.le_refl _, PickC.pick, ?_⟩)
      refine RH.pv rfl (fun _ _ _ _ h => h) (Gh.le_refl _) PickC.pick rfl (PV.asg (v := v12) rfl rfl) ?_
      refine RH.ot rfl rfl (OT.storeGG rfl Sz218 rfl rfl (by first | omega | (simp <;> omega)) (by first | assumption | rw [bv_len, List.length_replicate]) ⟨Gh.le_refl _, PickC.pick, ?_⟩)
      refine RH.nil ?_
      exact ⟨rfl, v12, b6, trivial, ⟨rfl, rfl, trivial⟩, ⟨rfl, trivial⟩, (Cv.p (C := grd b6 ((S.drop 0).take 6400) :: osl 66 slT v12 ([] : List (Sl Rect)) :: grd b S :: L)).trans (Cv.cast (by rw [take6400 hS]))⟩
    · refine RH.ot rfl rfl (OT.bslice (F := (slT (α := Rect))) (els := []) rfl El27 rfl (by decide) rfl (by decide) trivial fun v12 => ⟨Gh.le_refl _, PickC.pick, ?_⟩)
      refine RH.pv rfl (fun _ _ _ _ h => h) (Gh.le_refl _) PickC.pick rfl (PV.asg (v := v12) rfl rfl) ?_
      refine RH.ot rfl rfl (OT.storeGG rfl Sz218 rfl rfl (by first | omega | (simp <;> omega)) (by first | assumption | rw [bv_len, List.length_replicate]) ⟨Gh.le_refl _, PickC.pick, ?_⟩)
      refine RH.nil ?_
      exact ⟨rfl, v12, b6, trivial, ⟨rfl, rfl, trivial⟩, ⟨rfl, trivial⟩, (Cv.p (C := grd b6 ((S.drop 0).take 6400) :: osl 66 slT v12 ([] : List (Sl Rect)) :: grd b S :: L)).trans (Cv.cast (by rw [take6400 hS]))⟩
  · rintro o b6 τ _
    refine WP.seq ?_
    refine WP.seq ?_
    refine WP.region ?_
    refine RG.pv rfl (PV.mvI (.inl rfl) rfl) ?_
    refine RG.nil ?_
    refine WP.block ?_
    refine WP.cv ((Cv.p (C := osl 66 slT o ([] : List (Sl Rect)) :: grd b6 S :: grd b S :: L)).trans (Cv.cons (Cv.bag0 (e := 59) (F := rectT) (xs := []) rfl))) ?_
    refine WP.loop4 [1, 6] (fun (y : Nat) (T : List Bool) (zs : List (Sl Rect)) (q : Value) => y ≤ 80 ∧ PI canon S (y * 80) T (er zs)) (fun (y : Nat) (T : List Bool) (zs : List (Sl Rect)) (q : Value) => [(16, vi y), (5, q)]) (fun (y : Nat) (T : List Bool) (zs : List (Sl Rect)) (q : Value) => grd b6 T :: osl 66 slT q zs :: bagS 59 rectT zs :: grd b S :: L) (fun (y : Nat) (T : List Bool) (zs : List (Sl Rect)) (q : Value) => 80 - y) 0 S [] o ⟨by omega, PI.start hS⟩ ⟨rfl, rfl, trivial⟩ Cv.p ?_
    rintro y T zs q τ ⟨hy, hP⟩
    refine WP.seq ?_
    refine WP.region ?_
    refine RG.pv rfl (PV.lss rfl rfl rfl) ?_
    refine RG.nil ?_
    refine WP.seq ?_
    refine WP.cond rfl (fun h2 => ?_) (fun h2 => ?_)
    · have h2 := of_decide_eq_true h2
      refine WP.skip ?_
      refine WP.seq ?_
      refine WP.block ?_
      refine WP.seq ?_
      refine WP.region ?_
      refine RG.pv rfl (PV.mvI (.inl rfl) rfl) ?_
      refine RG.pv rfl (PV.mvI (.inr rfl) rfl) ?_
      refine RG.nil ?_
      refine WP.seq ?_
      refine WP.region ?_
      refine RG.pv rfl (PV.mvI (.inl rfl) rfl) ?_
      refine RG.nil ?_
      refine WP.block ?_
      refine WP.loop4 [1, 6, 7, 16] (fun (x : Nat) (T1 : List Bool) (zs1 : List (Sl Rect)) (q1 : Value) => x ≤ 80 ∧ PI canon S (y * 80 + x) T1 (er zs1)) (fun (x : Nat) (T1 : List Bool) (zs1 : List (Sl Rect)) (q1 : Value) => [(19, vi x), (5, q1)]) (fun (x : Nat) (T1 : List Bool) (zs1 : List (Sl Rect)) (q1 : Value) => grd b6 T1 :: osl 66 slT q1 zs1 :: bagS 59 rectT zs1 :: grd b S :: L) (fun (x : Nat) (T1 : List Bool) (zs1 : List (Sl Rect)) (q1 : Value) => 80 - x) 0 T zs q ⟨by omega, hP⟩ ⟨rfl, rfl, trivial⟩ Cv.p ?_
      rintro x T1 zs1 q1 τ1 ⟨hx, hP1⟩
      refine WP.seq ?_
      refine WP.region ?_
      refine RG.pv rfl (PV.lss rfl rfl rfl) ?_
      refine RG.nil ?_
      refine WP.seq ?_
      refine WP.cond rfl (fun h3 => ?_) (fun h3 => ?_)
      · have h3 := of_decide_eq_true h3
        have hl1 := hP1.len
        have hzl := pi_zlen hP1
        have e1 : (y * 80 + x) / 80 = y := by omega
        have e2 : (y * 80 + x) % 80 = x := by omega
        have e3 : cel (y * 80 + x) = (y, x) := by rw [cel, e1, e2]
        refine WP.skip ?_
        refine WP.seq ?_
        refine WP.block ?_
        refine WP.seq ?_
        refine WP.region ?_
        refine RG.pv rfl (PV.mvI (.inl rfl) rfl) ?_
        refine RG.pv rfl (PV.mvI (.inr rfl) rfl) ?_
        refine RG.nil ?_
        refine WP.seq ?_
        refine WP.seq ?_
        refine WP.region ?_
        refine RG.pv rfl (PV.mvI (.inl rfl) rfl) ?_
        refine RG.pv rfl (PV.mvI (.inl rfl) rfl) ?_
        refine RG.pv rfl (PV.idxA (j := y) rfl Ia218 rfl rfl (by omega) (by omega)) ?_
        refine RG.pv rfl (PV.idxA (j := x) rfl Ia216 rfl rfl (by omega) (by omega)) ?_
        refine RG.pv rfl (PV.loadGr rfl Sc4 rfl rfl (by omega)) ?_
        refine RG.pv rfl (PV.not rfl rfl) ?_
        refine RG.nil ?_
        refine WP.cond rfl (fun h4 => ?_) (fun h4 => ?_)
        · have h5 : gb T1 y x = false := by rw [← gd_gb]; simpa using h4
          refine WP.exit ?_
          refine WP.region ?_
          refine RG.pv rfl (PV.add rfl rfl rfl (by omega)) ?_
          refine RG.pv rfl (PV.mvI (.inl rfl) rfl) ?_
          refine RG.nil ?_
          exact ⟨rfl, x + 1, T1, zs1, q1, ⟨by omega, hP1.skip (by omega) (by rw [e1, e2]; exact h5)⟩, ⟨rfl, rfl, trivial⟩, ⟨rfl, rfl, rfl, rfl, trivial⟩, Cv.p, by omega⟩
        · have h5 : gb T1 y x = true := by rw [← gd_gb]; simpa using h4
          refine WP.skip ?_
          refine WP.seq ?_
          refine WP.region ?_
          refine RG.pv rfl (PV.mvI (.inl rfl) rfl) ?_
          refine RG.pv rfl (PV.mvI (.inl rfl) rfl) ?_
          refine RG.pv rfl (PV.mvB (.inl rfl) rfl) ?_
          refine RG.callF (vs := [_, _, _, _]) rfl rfl En214 rfl (CallT.exB (flood_s (x := (x : Int)) (y := (y : Int)) hl1 (by omega) (by omega) (by rw [Int.toNat_natCast, Int.toNat_natCast]; exact h5) (fun b9 => ?_)))
          refine RG.pv rfl (PV.asg rfl rfl) ?_
          refine RG.nil ?_
          refine WP.seq ?_
          refine WP.seq ?_
          refine WP.region ?_
          refine RG.pv rfl (PV.mvI (.inl rfl) rfl) ?_
          refine RG.nil ?_
          refine WP.block ?_
          refine WP.cv ((Cv.p (C := grd b9 (compB T1 ((y : Int).toNat, (x : Int).toNat)) :: grd b6 T1 :: osl 66 slT q1 zs1 :: bagS 59 rectT zs1 :: grd b S :: L)).trans (Cv.cast (by rw [Int.toNat_natCast, Int.toNat_natCast, ← e3]))) ?_
          have hlc := compB_len T1 (cel (y * 80 + x))
          refine WP.loop2 [1, 5, 6, 7, 9, 16, 19] (fun (v : Nat) (U : List Bool) => v ≤ 80 ∧ Sub T1 (compB T1 (cel (y * 80 + x))) (v * 80) U) (fun (v : Nat) (U : List Bool) => [(32, vi v)]) (fun (v : Nat) (U : List Bool) => grd b9 (compB T1 (cel (y * 80 + x))) :: grd b6 U :: osl 66 slT q1 zs1 :: bagS 59 rectT zs1 :: grd b S :: L) (fun (v : Nat) (U : List Bool) => 80 - v) 0 T1 ⟨by omega, Sub.start hl1⟩ ⟨rfl, trivial⟩ Cv.p ?_
          rintro v U τ2 ⟨hv, hU⟩
          refine WP.seq ?_
          refine WP.region ?_
          refine RG.pv rfl (PV.lss rfl rfl rfl) ?_
          refine RG.nil ?_
          refine WP.seq ?_
          refine WP.cond rfl (fun h6 => ?_) (fun h6 => ?_)
          · have h6 := of_decide_eq_true h6
            refine WP.skip ?_
            refine WP.seq ?_
            refine WP.block ?_
            refine WP.seq ?_
            refine WP.region ?_
            refine RG.pv rfl (PV.mvI (.inl rfl) rfl) ?_
            refine RG.pv rfl (PV.mvI (.inr rfl) rfl) ?_
            refine RG.nil ?_
            refine WP.seq ?_
            refine WP.region ?_
            refine RG.pv rfl (PV.mvI (.inl rfl) rfl) ?_
            refine RG.nil ?_
            refine WP.block ?_
            refine WP.loop2 [1, 5, 6, 7, 9, 10, 16, 19, 32] (fun (u : Nat) (V : List Bool) => u ≤ 80 ∧ Sub T1 (compB T1 (cel (y * 80 + x))) (v * 80 + u) V) (fun (u : Nat) (V : List Bool) => [(35, vi u)]) (fun (u : Nat) (V : List Bool) => grd b9 (compB T1 (cel (y * 80 + x))) :: grd b6 V :: osl 66 slT q1 zs1 :: bagS 59 rectT zs1 :: grd b S :: L) (fun (u : Nat) (V : List Bool) => 80 - u) 0 U ⟨by omega, hU⟩ ⟨rfl, trivial⟩ Cv.p ?_
            rintro u V τ3 ⟨hu, hV⟩
            refine WP.seq ?_
            refine WP.region ?_
            refine RG.pv rfl (PV.lss rfl rfl rfl) ?_
            refine RG.nil ?_
            refine WP.seq ?_
            refine WP.cond rfl (fun h7 => ?_) (fun h7 => ?_)
            · have h7 := of_decide_eq_true h7
              have hVl := hV.1
              refine WP.skip ?_
              refine WP.seq ?_
              refine WP.block ?_
              refine WP.seq ?_
              refine WP.region ?_
              refine RG.pv rfl (PV.mvI (.inl rfl) rfl) ?_
              refine RG.pv rfl (PV.mvI (.inr rfl) rfl) ?_
              refine RG.nil ?_
              refine WP.regionHD [.b b6] (.q 0 (.q 1 (.q 2 (.q 3 (.q 4 (.q 5 (.q 17 (.l 6 (.q 7 (.q 8 (.q 9 (.q 10 (.q 11 (.q 12 (.q 13 (.q 14 (.q 15 (.q 16 (.q 18 (.l 19 Sch.nil)))))))))))))))))))) (by kernel_rfl) (by kernel_rfl) (by kernel_rfl) rfl ?_
              refine RH.pv rfl (fun _ _ _ _ h => h) (Gh.le_refl _) PickC.pick rfl (PV.mvI (.inl rfl) rfl) ?_
              refine RH.pv rfl (fun _ _ _ _ h => h) (Gh.le_refl _) PickC.pick rfl (PV.mvI (.inl rfl) rfl) ?_
              refine RH.pv rfl (fun _ _ _ _ h => h) (Gh.le_refl _) PickC.pick rfl (PV.mvI (.inl rfl) rfl) ?_
              refine RH.pv rfl (fun _ _ _ _ h => h) (Gh.le_refl _) PickC.pick rfl (PV.mvI (.inl rfl) rfl) ?_
              refine RH.pv rfl (fun _ _ _ _ h => h) (Gh.le_refl _) PickC.pick rfl (PV.idxA (j := v) rfl Ia218 rfl rfl (by omega) (by omega)) ?_
              refine RH.pv rfl (fun _ _ _ _ h => h) (Gh.le_refl _) PickC.pick rfl (PV.idxA (j := u) rfl Ia216 rfl rfl (by omega) (by omega)) ?_
              refine RH.pv rfl (fun _ _ _ _ h => h) (Gh.le_refl _) PickC.pick rfl (PV.idxA (j := v) rfl Ia218 rfl rfl (by omega) (by omega)) ?_
              refine RH.ot rfl rfl (OT.pv (PV.loadGr rfl Sc4 rfl rfl (by omega)) ⟨Gh.le_refl _, PickC.pick, ?_⟩)
              refine RH.pv rfl (fun _ _ _ _ h => h) (Gh.le_refl _) PickC.pick rfl (PV.mvB (.inl rfl) rfl) ?_
              refine RH.gs rfl (fun _ _ _ _ h => h) (Gh.le_refl _) PickC.pick rfl rfl rfl (fun hp => (PV.mvP (.inl rfl) rfl)) ?_
              refine RH.gs rfl (fun _ _ _ _ h => h) (Gh.le_refl _) PickC.pick rfl rfl rfl (fun hp => (PV.mvI (.inl rfl) rfl)) ?_
              refine RH.gs rfl (fun _ _ _ _ h => h) (Gh.le_refl _) PickC.pick rfl rfl rfl (fun hp => (PV.mvI (.inl rfl) rfl)) ?_
              refine RH.gs rfl (fun _ _ _ _ h => h) (Gh.le_refl _) PickC.pick rfl rfl rfl (fun hp => (PV.nilc rfl (gs_t hp))) ?_
              refine RH.gs rfl (fun _ _ _ _ h => h) (Gh.le_refl _) PickC.pick rfl rfl rfl (fun hp => (PV.idxA (j := v) rfl Ia218 (gs_t hp) (gs_t hp) (by first | omega | (simp at hp; omega)) (by first | omega | (simp at hp; omega)))) ?_
              refine RH.gs rfl (fun _ _ _ _ h => h) (Gh.le_refl _) PickC.pick rfl rfl rfl (fun hp => (PV.idxA (j := u) rfl Ia216 (gs_t hp) (gs_t hp) (by first | omega | (simp at hp; omega)) (by first | omega | (simp at hp; omega)))) ?_
              refine RH.gs rfl (fun _ _ _ _ h => h) (Gh.le_refl _) PickC.pick rfl rfl rfl (fun hp => (PV.loadGr rfl Sc4 (gs_t hp) rfl (by first | omega | (simp at hp; omega)))) ?_
              refine RH.gs rfl (fun _ _ _ _ h => h) (Gh.le_refl _) PickC.pick rfl rfl rfl (fun hp => (PV.not rfl (gs_t hp))) ?_
              refine RH.pv rfl (fun _ _ _ _ h => h) (Gh.le_refl _) PickC.pick rfl (PV.pickA rfl rfl (fun hq => gs_t (geqT hq)) rfl) ?_
              refine RH.pv rfl (fun _ _ _ _ h => h) (Gh.le_refl _) PickC.pick rfl (PV.idxA (j := u) rfl Ia216 rfl rfl (by omega) (by omega)) ?_
              refine RH.ot rfl rfl (OT.storeGr rfl Sz4 rfl rfl rfl (by first | omega | (simp; omega)) ⟨Gh.le_refl _, PickC.pick, ?_⟩)
              refine RH.nil ?_
              refine WP.region ?_
              refine RG.pv rfl (PV.add rfl rfl rfl (by omega)) ?_
              refine RG.pv rfl (PV.mvI (.inl rfl) rfl) ?_
              refine RG.nil ?_
              exact ⟨rfl, u + 1, (V.set (0 + v * 80 + u * 1) (gd V (0 + v * 80 + u * 1) && !gd (compB T1 (cel (y * 80 + x))) (0 + v * 80 + u * 1))), ⟨by omega, hV.step (by omega) (by omega) (by omega)⟩, ⟨rfl, trivial⟩, ⟨rfl, rfl, rfl, rfl, rfl, rfl, rfl, rfl, rfl, trivial⟩, Cv.p, by omega⟩
            · have h7 := of_decide_eq_false h7
              obtain rfl : u = 80 := by omega
              refine WP.exit ?_
              refine WP.region ?_
              refine RG.pv rfl (PV.add rfl rfl rfl (by omega)) ?_
              refine RG.pv rfl (PV.mvI (.inl rfl) rfl) ?_
              refine RG.nil ?_
              exact ⟨rfl, v + 1, V, ⟨by omega, by rw [Nat.add_mul]; exact hV⟩, ⟨rfl, trivial⟩, ⟨rfl, rfl, rfl, rfl, rfl, rfl, rfl, trivial⟩, Cv.p, by omega⟩
          · have h6 := of_decide_eq_false h6
            obtain rfl : v = 80 := by omega
            refine WP.exit ?_
            refine WP.region ?_
            refine RG.pv rfl (PV.move (v := q1) rfl rfl) ?_
            refine RG.pv rfl (PV.mvP (.inl rfl) rfl) ?_
            refine RG.callF (vs := [_]) rfl rfl En151 rfl (region_s hlc (fun v61 => ?_))
            refine RG.ot rfl (OT.bslice (F := (slT (α := Rect))) (els := [⟨v61, canon (compB T1 (cel (y * 80 + x)))⟩]) rfl El27 rfl (by decide) rfl (by decide) ⟨rfl, (Cl.s (v := v61) SlF.o), trivial⟩ fun v62 => ?_)
            refine RG.ot rfl (OT.append (v := q1) (u := v62) (F := (slT (α := Rect))) rfl El27 rfl (by decide) rfl rfl Rs.o (OneL.one (OneC.sl SlF.o OneC.nil)) rfl (by first | omega | (simp <;> omega)) fun v63 => ?_)
            refine RG.pv rfl (PV.asg (v := v63) rfl rfl) ?_
            refine RG.nil ?_
            refine WP.region ?_
            refine RG.pv rfl (PV.add rfl rfl rfl (by omega)) ?_
            refine RG.pv rfl (PV.mvI (.inl rfl) rfl) ?_
            refine RG.nil ?_
            refine ⟨rfl, x + 1, U, (zs1 ++ [⟨v61, canon (compB T1 (cel (y * 80 + x)))⟩]), v63, ⟨by omega, ?_⟩, ⟨rfl, rfl, trivial⟩, ⟨rfl, rfl, rfl, rfl, trivial⟩, ((Cv.p (C := osl 59 rectT v61 (canon (compB T1 (cel (y * 80 + x)))) :: bagS 59 rectT zs1 :: grd b6 U :: osl 66 slT v63 (zs1 ++ [⟨v61, canon (compB T1 (cel (y * 80 + x)))⟩]) :: grd b S :: L)).trans (Cv.bagS_add.trans Cv.p)), by omega⟩
            rw [er, List.map_append]
            exact hP1.take (by omega) (by rw [e1, e2]; exact h5) hU.1 hU.final
      · have h3 := of_decide_eq_false h3
        obtain rfl : x = 80 := by omega
        refine WP.exit ?_
        refine WP.region ?_
        refine RG.pv rfl (PV.add rfl rfl rfl (by omega)) ?_
        refine RG.pv rfl (PV.mvI (.inl rfl) rfl) ?_
        refine RG.nil ?_
        exact ⟨rfl, y + 1, T1, zs1, q1, ⟨by omega, by rw [Nat.add_mul]; exact hP1⟩, ⟨rfl, rfl, trivial⟩, ⟨rfl, rfl, trivial⟩, Cv.p, by omega⟩
    · have h2 := of_decide_eq_false h2
      obtain rfl : y = 80 := by omega
      have hz := hP.final
      refine WP.exit ?_
      refine WP.seq ?_
      refine WP.region ?_
      refine RG.pv rfl (PV.move (v := q) rfl rfl) ?_
      refine RG.callF (vs := [q, _]) rfl rfl En215 rfl (sorted_rss (cf := fun i j => cmpR (gd (gd zs i).xs 0) (gd (gd zs j).xs 0)) (parts_len hz) Rs.o (fun i j hi hj => CB.mk0 En216 fun L' R c k => partsCmp_s (Rs.cv c (RsE.o i hi)) (Rs.cv c (RsE.o j hj)) (parts_ne hz hi) (parts_ne hz hj) k) (fun i j hij hj => parts_lt hz hij hj) ?_)
      refine RG.nil ?_
      refine WP.seq ?_
      refine WP.region ?_
      refine RG.pv rfl (PV.move (v := q) rfl rfl) ?_
      refine RG.pv rfl (PV.asg (v := q) rfl rfl) ?_
      refine RG.nil ?_
      refine WP.ret ?_
      exact ⟨_, _, ResV.one rfl rfl, Cv.p, k q zs hz⟩
end Go.Proofs.YthjaopefoiploaaGreat
