/-
  Contracts of functions and plain facts that the last text of this folder uses, part 4.
-/
import Derived.Test.YtgngpegmaceaiaaGreatCB3
namespace Go.Proofs.YtgngpegmaceaiaaGreat
set_option linter.unusedVariables false
set_option linter.unusedSimpArgs false
open Go
set_option maxRecDepth 20000
set_option linter.unusedSimpArgs false
set_option linter.unusedVariables false
variable {G : Gh} {L : List Ch} {R : Value → Gh → List Ch → Prop}
theorem wpAnyH_mono {P : Program} {md : Region.Mode} {ops : Array Oper} {Q : Exit → Act → World → Prop} {S S' : World → Prop} (h : ∀ w, S' w → S w) : ∀ (fuel : Nat) (ls : Array Bool) (a : Act) (w : World), wpAnyH P md ops Q S' fuel ls a w → wpAnyH P md ops Q S fuel ls a w
  | 0, _, _, _, k => k
  | fuel + 1, _, _, _, k => ⟨k.1, fun i hi => wpOp_mono (fun a' w' k' => ⟨h w' k'.1, wpAnyH_mono h fuel _ a' w' k'.2⟩) (k.2 i hi)⟩
/-- a fresh chunk is held from here on -/
theorem RH.up1 {P : Program} {n : Nat} {ops : Array Oper} {Q : Post} {σ : Nat → Value} {G G0 : Gh} {L C0 : List Ch} {r : Sch} {c : Ch} (k : RH P n ops G0 (c :: C0) r Q σ G (c :: L)) : RH P n ops G0 C0 r Q σ G (c :: L) :=
  RH.of fun h1 h2 ls a w hb ha hs => wpAnyH_mono (fun w' hs' => hs'.pick (.drop _ (.refl _))) _ _ _ _ (k.run h1 h2 hb ha hs)
theorem components_s {v : Value} {xs : List Rect} (h1 : Rs G L rectT v xs) (k : ∀ v zs, er zs = partsL (bits xs) → R v G (osl 35 slT v zs :: bagS 101 rectT zs :: L)) : CallT Tryz.prog 182 #[v] G L R := by
  refine CallT.enter (args := _) Tryz.func182 rfl rfl (by kernel_rfl) rfl ?_
  refine WP.seq ?_
  refine WP.region ?_
  refine RG.pv rfl (PV.asg rfl rfl) ?_
  refine RG.nil ?_
  refine WP.seq ?_
  refine WP.region ?_
  refine RG.pv rfl (PV.move (v := v) rfl rfl) ?_
  refine RG.callF (vs := [v]) rfl rfl En138 rfl (cellsOf_s (Rs.up h1) (fun b7 => ?_))
  refine RG.callF (vs := [_, _]) rfl rfl En223 rfl (CallT.exB (parts_s (bits_length _) (fun v8 ps8 hp8 => ?_)))
  refine RG.pv rfl (PV.asg rfl rfl) ?_
  refine RG.nil ?_
  refine WP.ret ?_
  exact ⟨_, _, ResV.one rfl rfl, Cv.p, k v8 ps8 hp8⟩
theorem l17At_s {x y : Int} (hx : -40 ≤ x ∧ x ≤ 40) (hy : -40 ≤ y ∧ y ≤ 40) (k : R (vi ((y + 40) * 80 + x + 40)) G L) : CallT Tryz.prog 217 #[vi x, vi y] G L R := by
  refine CallT.enter (args := _) Tryz.func217 rfl rfl (by kernel_rfl) rfl ?_
  refine WP.seq ?_
  refine WP.region ?_
  refine RG.pv rfl (PV.mvI (.inr rfl) rfl) ?_
  refine RG.nil ?_
  refine WP.seq ?_
  refine WP.region ?_
  refine RG.pv rfl (PV.mvI (.inl rfl) rfl) ?_
  refine RG.pv rfl (PV.add rfl rfl rfl (by omega)) ?_
  refine RG.pv rfl (PV.mul rfl rfl rfl (by omega)) ?_
  refine RG.pv rfl (PV.mvI (.inl rfl) rfl) ?_
  refine RG.pv rfl (PV.add rfl rfl rfl (by omega)) ?_
  refine RG.pv rfl (PV.add rfl rfl rfl (by omega)) ?_
  refine RG.pv rfl (PV.mvI (.inr rfl) rfl) ?_
  refine RG.nil ?_
  refine WP.ret ?_
  exact ⟨_, _, ResV.one rfl rfl, Cv.p, k⟩
theorem l17Inside_s {x y : Int} (k : R (.bool (decide (-40 ≤ x ∧ x < 40) && decide (-40 ≤ y ∧ y < 40))) G L) : CallT Tryz.prog 218 #[vi x, vi y] G L R := by
  have e : (decide (-40 ≤ x ∧ x < 40) && decide (-40 ≤ y ∧ y < 40)) = (decide (x ≥ -40) && decide (x < 40) && decide (y ≥ -40) && decide (y < 40)) := by rw [Bool.eq_iff_iff]; simp; omega
  rw [e] at k
  refine CallT.enter (args := _) Tryz.func218 rfl rfl (by kernel_rfl) rfl ?_
  refine WP.seq ?_
  refine WP.region ?_
  refine RG.pv rfl (PV.mvB (.inr rfl) rfl) ?_
  refine RG.nil ?_
  refine WP.seq ?_
  refine WP.region ?_
  refine RG.pv rfl (PV.mvI (.inl rfl) rfl) ?_
  refine RG.pv rfl (PV.geq rfl rfl rfl) ?_
  refine RG.pv rfl (PV.mvB (.inl rfl) rfl) ?_
  refine RG.gs rfl rfl rfl (fun hp => (PV.mvI (.inl rfl) rfl)) ?_
  refine RG.gs rfl rfl rfl (fun hp => (PV.lss rfl (gs_t hp) rfl)) ?_
  refine RG.pv rfl (PV.pickA rfl rfl (fun hq => gs_t (geqT hq)) rfl) ?_
  refine RG.pv rfl (PV.mvB (.inl rfl) rfl) ?_
  refine RG.gs rfl rfl rfl (fun hp => (PV.mvI (.inl rfl) rfl)) ?_
  refine RG.gs rfl rfl rfl (fun hp => (PV.geq rfl (gs_t hp) rfl)) ?_
  refine RG.pv rfl (PV.pickA rfl rfl (fun hq => gs_t (geqT hq)) rfl) ?_
  refine RG.pv rfl (PV.mvB (.inl rfl) rfl) ?_
  refine RG.gs rfl rfl rfl (fun hp => (PV.mvI (.inl rfl) rfl)) ?_
  refine RG.gs rfl rfl rfl (fun hp => (PV.lss rfl (gs_t hp) rfl)) ?_
  refine RG.pv rfl (PV.pickA rfl rfl (fun hq => gs_t (geqT hq)) rfl) ?_
  refine RG.pv rfl (PV.mvB (.inr rfl) rfl) ?_
  refine RG.nil ?_
  refine WP.ret ?_
  exact ⟨_, _, ResV.one rfl rfl, Cv.p, k⟩
theorem l17Cell_s {v : Value} {S : List Bool} {x y : Int} (h1 : Rs G L boolT v S) (hS : S.length = 6400) (k : R (.bool ((decide (-40 ≤ x ∧ x < 40) && decide (-40 ≤ y ∧ y < 40)) && gd S ((y + 40) * 80 + x + 40).toNat)) G L) : CallT Tryz.prog 242 #[v, vi x, vi y] G L R := by
  refine CallT.enter (args := _) Tryz.func242 rfl rfl (by kernel_rfl) rfl ?_
  refine WP.seq ?_
  refine WP.region ?_
  refine RG.pv rfl (PV.mvB (.inr rfl) rfl) ?_
  refine RG.nil ?_
  refine WP.seq ?_
  refine WP.region ?_
  refine RG.pv rfl (PV.mvI (.inl rfl) rfl) ?_
  refine RG.pv rfl (PV.mvI (.inl rfl) rfl) ?_
  refine RG.callF (vs := [_, _]) rfl rfl En218 rfl (l17Inside_s ?_)
  refine RG.pv rfl (PV.mvB (.inl rfl) rfl) ?_
  refine RG.gs rfl rfl rfl (fun hp => (PV.move (v := v) rfl rfl)) ?_
  refine RG.gs rfl rfl rfl (fun hp => (PV.mvI (.inl rfl) rfl)) ?_
  refine RG.gs rfl rfl rfl (fun hp => (PV.mvI (.inl rfl) rfl)) ?_
  refine RG.gsC rfl rfl rfl rfl En217 (fun hp => ⟨_, (acons (gs_t hp) (acons (gs_t hp) anil)), l17At_s (by simp at hp <;> omega) (by simp at hp <;> omega) ⟨rfl, rfl, rfl⟩⟩) ?_
  refine RG.gs rfl rfl rfl (fun hp => (PV.idxS (j := ((y + 40) * 80 + x + 40).toNat) (v := v) rfl Is149 (gs_t hp) (SlF.r h1) (gs_t hp) (by first | omega | (simp at hp; omega)) (by first | omega | (simp at hp; omega)))) ?_
  refine RG.gs rfl rfl rfl (fun hp => (PV.loadE1 rfl Sc4 (gs_t hp) rfl (El.r h1 (getG (by first | omega | (simp at hp; omega)))) rfl)) ?_
  refine RG.pv rfl (PV.pickA rfl rfl (fun hq => gs_t (geqT hq)) rfl) ?_
  refine RG.pv rfl (PV.mvB (.inr rfl) rfl) ?_
  refine RG.nil ?_
  refine WP.ret ?_
  exact ⟨_, _, ResV.one rfl rfl, Cv.p, k⟩
def ptOf (q : Int × Int) : Pt := ⟨q.1 - 40, q.2 - 40⟩
theorem gd_pt {Q : List (Int × Int)} {i : Nat} (h : i < Q.length) : gd (Q.map ptOf) i = ptOf (gd Q i) := by
  rw [gd_eq h, gd_eq (by simpa using h)]; simp
theorem dX_gd (d : Nat) : gd [1, -1, 0, 0] d = dX d := rfl
theorem dY_gd (d : Nat) : gd [0, 0, 1, -1] d = dY d := rfl
theorem visit_s {v : Value} {S : List Bool} {x y : Int} (h1 : Rs G L boolT v S) (hS : S.length = 6400) (hx : 0 ≤ x ∧ x < 80) (hy : 0 ≤ y ∧ y < 80) (hon : gb S y.toNat x.toNat = true)
    (k : ∀ v' Q, FI S (y.toNat, x.toNat) (compB S (y.toNat, x.toNat)) Q → R v' G (osl 210 ptT v' (Q.map ptOf) :: L)) : CallT Tryz.prog 219 #[v, vi (x - 40), vi (y - 40)] G L R := by
  have hst := FI.start (S := S) hx hy
  have hseed : On S (y.toNat, x.toNat) := ⟨by simp only; omega, by simp only; omega, hon⟩
  have hrl : (List.replicate S.length false).length = 6400 := by simp [hS]
  refine CallT.enter (args := _) Tryz.func219 rfl rfl (by kernel_rfl) rfl ?_
  refine WP.seq ?_
  refine WP.region ?_
  refine RG.pv rfl (PV.asg rfl rfl) ?_
  refine RG.nil ?_
  refine WP.seq ?_
  refine WP.region ?_
  refine RG.pv rfl (PV.move (v := v) rfl rfl) ?_
  refine RG.pv rfl (PV.len (v := v) rfl Tryz.underlying149 rfl (SlF.r h1)) ?_
  refine RG.ot rfl (OT.make (F := boolT) (a0 := false) rfl El149 rfl (by decide) rfl rfl (by omega) (by omega) fun v14 => ?_)
  refine RG.pv rfl (PV.asg (v := v14) rfl rfl) ?_
  refine RG.nil ?_
  refine WP.seq ?_
  refine WP.region ?_
  refine RG.pv rfl (PV.move (v := v14) rfl rfl) ?_
  refine RG.pv rfl (PV.mvI (.inl rfl) rfl) ?_
  refine RG.pv rfl (PV.mvI (.inl rfl) rfl) ?_
  refine RG.callF (vs := [_, _]) rfl rfl En217 rfl (l17At_s (by first | omega | (simp at hp; omega)) (by first | omega | (simp at hp; omega)) ?_)
  refine RG.pv rfl (PV.idxS (j := y.toNat * 80 + x.toNat) (v := v14) rfl Is149 rfl SlF.o rfl (by omega) (by omega)) ?_
  refine RG.ot rfl (OT.storeE (F := boolT) rfl Sz4 rfl rfl rfl (Cl.c rfl) (OneC.c rfl) (by omega) ?_)
  refine RG.nil ?_
  refine WP.seq ?_
  refine WP.region ?_
  refine RG.pv rfl (PV.mvI (.inl rfl) rfl) ?_
  refine RG.pv rfl (PV.mvI (.inl rfl) rfl) ?_
  refine RG.pv rfl (PV.build (vs := [(0, [vi _]), (1, [vi _])]) (out := [_, _]) rfl Zr210 Pl210 ⟨rfl, (Cl.c rfl), ⟨rfl, (Cl.c rfl), trivial⟩⟩ rfl) ?_
  refine RG.ot rfl (OT.bslice (F := ptT) (els := [⟨_, _⟩]) rfl El207 rfl (by decide) rfl (by decide) ⟨rfl, (Cl.c rfl), trivial⟩ fun v23 => ?_)
  refine RG.pv rfl (PV.asg (v := v23) rfl rfl) ?_
  refine RG.nil ?_
  refine WP.seq ?_
  refine WP.seq ?_
  refine WP.region ?_
  refine RG.pv rfl (PV.mvI (.inr rfl) rfl) ?_
  refine RG.nil ?_
  refine WP.block ?_
  refine WP.cv ((Cv.p (C := osl 4 boolT v14 ((List.replicate S.length false).set (y.toNat * 80 + x.toNat) true) :: osl 210 ptT v23 [⟨x - 40, y - 40⟩] :: L)).trans (Cv.cast (L' := osl 4 boolT v14 ((List.replicate 6400 false).set (y.toNat * 80 + x.toNat) true) :: osl 210 ptT v23 ([(x, y)].map ptOf) :: L) (by rw [hS]; rfl))) ?_
  refine WP.loop4 [0, 7] (fun (i : Nat) (Q : List (Int × Int)) (O : List Bool) (qv : Value) => i ≤ Q.length ∧ FI S (y.toNat, x.toNat) O Q ∧ Done S O Q i ∧ On O (y.toNat, x.toNat)) (fun (i : Nat) (Q : List (Int × Int)) (O : List Bool) (qv : Value) => [(9, vi i), (8, qv)]) (fun (i : Nat) (Q : List (Int × Int)) (O : List Bool) (qv : Value) => osl 4 boolT v14 O :: osl 210 ptT qv (Q.map ptOf) :: L) (fun (i : Nat) (Q : List (Int × Int)) (O : List Bool) (qv : Value) => 6401 - i) 0 [(x, y)] ((List.replicate 6400 false).set (y.toNat * 80 + x.toNat) true) v23 ⟨by simp, hst, fun m hm => by omega, by have := hst.on 0 (by simp); simpa [gd, qc] using this⟩ ⟨rfl, rfl, trivial⟩ Cv.p ?_
  rintro i Q O qv τ ⟨hi, hF, hD, h0⟩
  refine WP.seq ?_
  refine WP.seq ?_
  refine WP.region ?_
  refine RG.pv rfl (PV.mvI (.inl rfl) rfl) ?_
  refine RG.pv rfl (PV.move (v := qv) rfl rfl) ?_
  refine RG.pv rfl (PV.len (v := qv) rfl Tryz.underlying207 rfl SlF.o) ?_
  refine RG.pv rfl (PV.lss rfl rfl rfl) ?_
  refine RG.nil ?_
  have hml : (Q.map ptOf).length = Q.length := by simp
  refine WP.cond rfl (fun h2 => ?_) (fun h2 => ?_)
  · have h2 := of_decide_eq_true h2
    have hQ := hF.len_le
    have hb := hF.bd i (by omega)
    refine WP.skip ?_
    refine WP.seq ?_
    refine WP.block ?_
    refine WP.seq ?_
    refine WP.region ?_
    refine RG.pv rfl (PV.mvI (.inr rfl) rfl) ?_
    refine RG.nil ?_
    refine WP.block ?_
    refine WP.loop4 [0, 7, 9] (fun (d : Nat) (Q1 : List (Int × Int)) (O1 : List Bool) (qv1 : Value) => d ≤ 4 ∧ FI S (y.toNat, x.toNat) O1 Q1 ∧ Done S O1 Q1 i ∧ On O1 (y.toNat, x.toNat) ∧ i < Q1.length ∧ gd Q1 i = gd Q i ∧ Near4 S O1 (qc (gd Q i)) d) (fun (d : Nat) (Q1 : List (Int × Int)) (O1 : List Bool) (qv1 : Value) => [(10, vi d), (8, qv1)]) (fun (d : Nat) (Q1 : List (Int × Int)) (O1 : List Bool) (qv1 : Value) => osl 4 boolT v14 O1 :: osl 210 ptT qv1 (Q1.map ptOf) :: L) (fun (d : Nat) (Q1 : List (Int × Int)) (O1 : List Bool) (qv1 : Value) => 4 - d) 0 Q O qv ⟨by omega, hF, hD, h0, by omega, rfl, Near4.zero _ _ _⟩ ⟨rfl, rfl, trivial⟩ Cv.p ?_
    rintro d Q1 O1 qv1 τ1 ⟨hd, hF1, hD1, h01, hi1, hq1, hN1⟩
    refine WP.seq ?_
    refine WP.seq ?_
    refine WP.region ?_
    refine RG.pv rfl (PV.mvI (.inl rfl) rfl) ?_
    refine RG.pv rfl (PV.lss rfl rfl rfl) ?_
    refine RG.nil ?_
    have hml1 : (Q1.map ptOf).length = Q1.length := by simp
    refine WP.cond rfl (fun h3 => ?_) (fun h3 => ?_)
    · have h3 := of_decide_eq_true h3
      have hl1 := hF1.len
      have hQ1 := hF1.len_le
      have hb1 : 0 ≤ (gd Q1 i).1 ∧ (gd Q1 i).1 < 80 ∧ 0 ≤ (gd Q1 i).2 ∧ (gd Q1 i).2 < 80 := by rw [hq1]; exact hb
      have e1 : gd (Q1.map ptOf) i = ⟨(gd Q1 i).1 - 40, (gd Q1 i).2 - 40⟩ := gd_pt hi1
      have ex : (gd (Q1.map ptOf) i).x = (gd Q1 i).1 - 40 := by rw [e1]
      have ey : (gd (Q1.map ptOf) i).y = (gd Q1 i).2 - 40 := by rw [e1]
      have hdx : -1 ≤ gd [1, -1, 0, 0] d ∧ gd [1, -1, 0, 0] d ≤ (1 : Int) := dX_le d
      have hdy : -1 ≤ gd [0, 0, 1, -1] d ∧ gd [0, 0, 1, -1] d ≤ (1 : Int) := dY_le d
      have hn4 : ([1, -1, 0, 0] : List Int).length = 4 := rfl
      have hn4' : ([0, 0, 1, -1] : List Int).length = 4 := rfl
      refine WP.skip ?_
      refine WP.seq ?_
      refine WP.block ?_
      refine WP.cut1 [0, 7, 8, 9, 10] (fun (b11 : Nat) => True) (fun (b11 : Nat) => [(11, .pointer (some ⟨b11, 0, none⟩))]) (fun (b11 : Nat) => blk b11 210 [vi ((gd Q1 i).1 - 40 + dX d), vi ((gd Q1 i).2 - 40 + dY d)] :: osl 4 boolT v14 O1 :: osl 210 ptT qv1 (Q1.map ptOf) :: L) ?_ ?_
      refine WP.regionH0 (.q 0 (.q 1 (.q 2 (.q 3 (.q 4 (.q 6 (.q 10 (.q 11 (.q 12 (.q 13 (.q 14 (.q 16 (.c 5 (.q 7 (.q 8 (.q 9 (.b 15 (.q 17 (.q 18 (.q 19 (.q 20 (.l 21 (.l 22 Sch.nil)))))) 21 (.l 15 (.q 17 (.q 18 (.q 19 (.q 20 (.l 22 Sch.nil)))))))))) 15 (.q 17 (.q 18 (.q 19 (.b 5 (.q 7 (.q 8 (.q 9 (.q 20 (.l 21 (.l 22 Sch.nil)))))) 21 (.l 5 (.q 7 (.q 8 (.q 9 (.q 20 (.l 22 Sch.nil)))))))))) 21 (.b 5 (.q 7 (.q 8 (.q 9 (.l 15 (.q 17 (.q 18 (.q 19 (.q 20 (.l 22 Sch.nil))))))))) 15 (.q 17 (.q 18 (.q 19 (.l 5 (.q 7 (.q 8 (.q 9 (.q 20 (.l 22 Sch.nil))))))))))))))))))))))) (by kernel_rfl) (by kernel_rfl) (by kernel_rfl) rfl ?_
      refine RH.pv rfl (fun _ _ _ _ h => h) (Gh.le_refl _) PickC.pick rfl (PV.move (v := qv1) rfl rfl) ?_
      refine RH.pv rfl (fun _ _ _ _ h => h) (Gh.le_refl _) PickC.pick rfl (PV.mvI (.inl rfl) rfl) ?_
      refine RH.pv rfl (fun _ _ _ _ h => h) (Gh.le_refl _) PickC.pick rfl (PV.idxS (v := qv1) rfl Is207 rfl SlF.o rfl rfl (by omega)) ?_
      refine RH.pv rfl (fun _ _ _ _ h => h) (Gh.le_refl _) PickC.pick rfl (PV.field rfl Fo210_0 rfl) ?_
      refine RH.pv rfl (fun _ _ _ _ h => h) (Gh.le_refl _) PickC.pick rfl (PV.loadF (v := qv1) (j := 0) rfl Sc2 rfl rfl (El.o (getG (by omega))) rfl) ?_
      refine RH.pv rfl (fun _ _ _ _ h => h) (Gh.le_refl _) PickC.pick rfl (PV.mvI (.inl rfl) rfl) ?_
      refine RH.pv rfl (fun _ _ _ _ h => h) (Gh.le_refl _) PickC.pick rfl (PV.move (v := qv1) rfl rfl) ?_
      refine RH.pv rfl (fun _ _ _ _ h => h) (Gh.le_refl _) PickC.pick rfl (PV.mvI (.inl rfl) rfl) ?_
      refine RH.pv rfl (fun _ _ _ _ h => h) (Gh.le_refl _) PickC.pick rfl (PV.idxS (v := qv1) rfl Is207 rfl SlF.o rfl rfl (by omega)) ?_
      refine RH.pv rfl (fun _ _ _ _ h => h) (Gh.le_refl _) PickC.pick rfl (PV.field rfl Fo210_1 rfl) ?_
      refine RH.pv rfl (fun _ _ _ _ h => h) (Gh.le_refl _) PickC.pick rfl (PV.loadF rfl Sc2 rfl rfl (El.o (getG (by omega))) rfl) ?_
      refine RH.pv rfl (fun _ _ _ _ h => h) (Gh.le_refl _) PickC.pick rfl (PV.mvI (.inl rfl) rfl) ?_
      · refine RH.ot3 rfl rfl rfl rfl rfl rfl  (OT.bslice (F := intT) (els := [_, _, _, _]) rfl El134 rfl (by decide) rfl (by decide) ⟨rfl, (Cl.c rfl), ⟨rfl, (Cl.c rfl), ⟨rfl, (Cl.c rfl), ⟨rfl, (Cl.c rfl), trivial⟩⟩⟩⟩ fun v39 => ⟨Gh.le_refl _, PickC.pick, ?_⟩) (OT.bslice (F := intT) (els := [_, _, _, _]) rfl El134 rfl (by decide) rfl (by decide) ⟨rfl, (Cl.c rfl), ⟨rfl, (Cl.c rfl), ⟨rfl, (Cl.c rfl), ⟨rfl, (Cl.c rfl), trivial⟩⟩⟩⟩ fun v49 => ⟨Gh.le_refl _, PickC.pick, ?_⟩) (OT.alloc rfl Zr210 fun b11 => ⟨Gh.le_refl _, PickC.pick, ?_⟩)
        · refine RH.up1 ?_
          refine RH.pv rfl (fun _ _ _ _ h => h) (Gh.le_refl _) PickC.pick rfl (PV.idxS (v := v39) rfl Is134 rfl SlF.o rfl rfl (by omega)) ?_
          refine RH.pv rfl (fun _ _ _ _ h => h) (Gh.le_refl _) PickC.pick rfl (PV.loadE1 rfl Sc2 rfl rfl (El.o (getG (by omega))) rfl) ?_
          refine RH.pv rfl (fun _ _ _ _ h => h) (Gh.le_refl _) PickC.pick rfl (PV.add rfl rfl rfl (by omega)) ?_
          refine RH.ot2 rfl rfl rfl rfl  (OT.bslice (F := intT) (els := [_, _, _, _]) rfl El134 rfl (by decide) rfl (by decide) ⟨rfl, (Cl.c rfl), ⟨rfl, (Cl.c rfl), ⟨rfl, (Cl.c rfl), ⟨rfl, (Cl.c rfl), trivial⟩⟩⟩⟩ fun v49 => ⟨Gh.le_refl _, PickC.pick, ?_⟩) (OT.alloc rfl Zr210 fun b11 => ⟨Gh.le_refl _, PickC.pick, ?_⟩)
          · refine RH.up1 ?_
            refine RH.pv rfl (fun _ _ _ _ h => h) (Gh.le_refl _) PickC.pick rfl (PV.idxS (v := v49) rfl Is134 rfl SlF.o rfl rfl (by omega)) ?_
            refine RH.pv rfl (fun _ _ _ _ h => h) (Gh.le_refl _) PickC.pick rfl (PV.loadE1 rfl Sc2 rfl rfl (El.o (getG (by omega))) rfl) ?_
            refine RH.pv rfl (fun _ _ _ _ h => h) (Gh.le_refl _) PickC.pick rfl (PV.add rfl rfl rfl (by omega)) ?_
            refine RH.pv rfl (fun _ _ _ _ h => h) (Gh.le_refl _) PickC.pick rfl (PV.build (vs := [(0, [vi _]), (1, [vi _])]) (out := [_, _]) rfl Zr210 Pl210 ⟨rfl, (Cl.c rfl), ⟨rfl, (Cl.c rfl), trivial⟩⟩ rfl) ?_
            refine RH.ot rfl rfl (OT.alloc rfl Zr210 fun b11 => ⟨Gh.le_refl _, PickC.pick, ?_⟩)
            refine RH.ot rfl rfl (OT.storeW (vs := [vi _, vi _]) rfl Sz210 rfl rfl (Cl.c rfl) rfl rfl (OneC.c rfl) ⟨Gh.le_refl _, PickC.pick, ?_⟩)
            refine RH.nil ?_
            exact ⟨rfl, b11, trivial, ⟨rfl, trivial⟩, ⟨rfl, rfl, rfl, rfl, rfl, trivial⟩, (Cv.p (C := blk b11 210 [vi ((gd (Q1.map ptOf) i).x + gd [1, -1, 0, 0] d), vi ((gd (Q1.map ptOf) i).y + gd [0, 0, 1, -1] d)] :: osl 4 boolT v14 O1 :: osl 210 ptT qv1 (Q1.map ptOf) :: L)).trans (Cv.cast (by rw [ex, ey]; rfl))⟩
          · refine RH.ot rfl rfl (OT.bslice (F := intT) (els := [_, _, _, _]) rfl El134 rfl (by decide) rfl (by decide) ⟨rfl, (Cl.c rfl), ⟨rfl, (Cl.c rfl), ⟨rfl, (Cl.c rfl), ⟨rfl, (Cl.c rfl), trivial⟩⟩⟩⟩ fun v49 => ⟨Gh.le_refl _, PickC.pick, ?_⟩)
            refine RH.up1 ?_
            refine RH.pv rfl (fun _ _ _ _ h => h) (Gh.le_refl _) PickC.pick rfl (PV.idxS (v := v49) rfl Is134 rfl SlF.o rfl rfl (by omega)) ?_
            refine RH.pv rfl (fun _ _ _ _ h => h) (Gh.le_refl _) PickC.pick rfl (PV.loadE1 rfl Sc2 rfl rfl (El.o (getG (by omega))) rfl) ?_
            refine RH.pv rfl (fun _ _ _ _ h => h) (Gh.le_refl _) PickC.pick rfl (PV.add rfl rfl rfl (by omega)) ?_
            refine RH.pv rfl (fun _ _ _ _ h => h) (Gh.le_refl _) PickC.pick rfl (PV.build (vs := [(0, [vi _]), (1, [vi _])]) (out := [_, _]) rfl Zr210 Pl210 ⟨rfl, (Cl.c rfl), ⟨rfl, (Cl.c rfl), trivial⟩⟩ rfl) ?_
            refine RH.ot rfl rfl (OT.storeW (vs := [vi _, vi _]) rfl Sz210 rfl rfl (Cl.c rfl) rfl rfl (OneC.c rfl) ⟨Gh.le_refl _, PickC.pick, ?_⟩)
            refine RH.nil ?_
            exact ⟨rfl, b11, trivial, ⟨rfl, trivial⟩, ⟨rfl, rfl, rfl, rfl, rfl, trivial⟩, (Cv.p (C := blk b11 210 [vi ((gd (Q1.map ptOf) i).x + gd [1, -1, 0, 0] d), vi ((gd (Q1.map ptOf) i).y + gd [0, 0, 1, -1] d)] :: osl 4 boolT v14 O1 :: osl 210 ptT qv1 (Q1.map ptOf) :: L)).trans (Cv.cast (by rw [ex, ey]; rfl))⟩
        · refine RH.up1 ?_
          refine RH.pv rfl (fun _ _ _ _ h => h) (Gh.le_refl _) PickC.pick rfl (PV.idxS (v := v49) rfl Is134 rfl SlF.o rfl rfl (by omega)) ?_
          refine RH.pv rfl (fun _ _ _ _ h => h) (Gh.le_refl _) PickC.pick rfl (PV.loadE1 rfl Sc2 rfl rfl (El.o (getG (by omega))) rfl) ?_
          refine RH.pv rfl (fun _ _ _ _ h => h) (Gh.le_refl _) PickC.pick rfl (PV.add rfl rfl rfl (by omega)) ?_
          refine RH.ot2 rfl rfl rfl rfl  (OT.bslice (F := intT) (els := [_, _, _, _]) rfl El134 rfl (by decide) rfl (by decide) ⟨rfl, (Cl.c rfl), ⟨rfl, (Cl.c rfl), ⟨rfl, (Cl.c rfl), ⟨rfl, (Cl.c rfl), trivial⟩⟩⟩⟩ fun v39 => ⟨Gh.le_refl _, PickC.pick, ?_⟩) (OT.alloc rfl Zr210 fun b11 => ⟨Gh.le_refl _, PickC.pick, ?_⟩)
          · refine RH.up1 ?_
            refine RH.pv rfl (fun _ _ _ _ h => h) (Gh.le_refl _) PickC.pick rfl (PV.idxS (v := v39) rfl Is134 rfl SlF.o rfl rfl (by omega)) ?_
            refine RH.pv rfl (fun _ _ _ _ h => h) (Gh.le_refl _) PickC.pick rfl (PV.loadE1 rfl Sc2 rfl rfl (El.o (getG (by omega))) rfl) ?_
            refine RH.pv rfl (fun _ _ _ _ h => h) (Gh.le_refl _) PickC.pick rfl (PV.add rfl rfl rfl (by omega)) ?_
            refine RH.pv rfl (fun _ _ _ _ h => h) (Gh.le_refl _) PickC.pick rfl (PV.build (vs := [(0, [vi _]), (1, [vi _])]) (out := [_, _]) rfl Zr210 Pl210 ⟨rfl, (Cl.c rfl), ⟨rfl, (Cl.c rfl), trivial⟩⟩ rfl) ?_
            refine RH.ot rfl rfl (OT.alloc rfl Zr210 fun b11 => ⟨Gh.le_refl _, PickC.pick, ?_⟩)
            refine RH.ot rfl rfl (OT.storeW (vs := [vi _, vi _]) rfl Sz210 rfl rfl (Cl.c rfl) rfl rfl (OneC.c rfl) ⟨Gh.le_refl _, PickC.pick, ?_⟩)
            refine RH.nil ?_
            exact ⟨rfl, b11, trivial, ⟨rfl, trivial⟩, ⟨rfl, rfl, rfl, rfl, rfl, trivial⟩, (Cv.p (C := blk b11 210 [vi ((gd (Q1.map ptOf) i).x + gd [1, -1, 0, 0] d), vi ((gd (Q1.map ptOf) i).y + gd [0, 0, 1, -1] d)] :: osl 4 boolT v14 O1 :: osl 210 ptT qv1 (Q1.map ptOf) :: L)).trans (Cv.cast (by rw [ex, ey]; rfl))⟩
          · refine RH.ot rfl rfl (OT.bslice (F := intT) (els := [_, _, _, _]) rfl El134 rfl (by decide) rfl (by decide) ⟨rfl, (Cl.c rfl), ⟨rfl, (Cl.c rfl), ⟨rfl, (Cl.c rfl), ⟨rfl, (Cl.c rfl), trivial⟩⟩⟩⟩ fun v39 => ⟨Gh.le_refl _, PickC.pick, ?_⟩)
            refine RH.up1 ?_
            refine RH.pv rfl (fun _ _ _ _ h => h) (Gh.le_refl _) PickC.pick rfl (PV.idxS (v := v39) rfl Is134 rfl SlF.o rfl rfl (by omega)) ?_
            refine RH.pv rfl (fun _ _ _ _ h => h) (Gh.le_refl _) PickC.pick rfl (PV.loadE1 rfl Sc2 rfl rfl (El.o (getG (by omega))) rfl) ?_
            refine RH.pv rfl (fun _ _ _ _ h => h) (Gh.le_refl _) PickC.pick rfl (PV.add rfl rfl rfl (by omega)) ?_
            refine RH.pv rfl (fun _ _ _ _ h => h) (Gh.le_refl _) PickC.pick rfl (PV.build (vs := [(0, [vi _]), (1, [vi _])]) (out := [_, _]) rfl Zr210 Pl210 ⟨rfl, (Cl.c rfl), ⟨rfl, (Cl.c rfl), trivial⟩⟩ rfl) ?_
            refine RH.ot rfl rfl (OT.storeW (vs := [vi _, vi _]) rfl Sz210 rfl rfl (Cl.c rfl) rfl rfl (OneC.c rfl) ⟨Gh.le_refl _, PickC.pick, ?_⟩)
            refine RH.nil ?_
            exact ⟨rfl, b11, trivial, ⟨rfl, trivial⟩, ⟨rfl, rfl, rfl, rfl, rfl, trivial⟩, (Cv.p (C := blk b11 210 [vi ((gd (Q1.map ptOf) i).x + gd [1, -1, 0, 0] d), vi ((gd (Q1.map ptOf) i).y + gd [0, 0, 1, -1] d)] :: osl 4 boolT v14 O1 :: osl 210 ptT qv1 (Q1.map ptOf) :: L)).trans (Cv.cast (by rw [ex, ey]; rfl))⟩
        · refine RH.ot2 rfl rfl rfl rfl  (OT.bslice (F := intT) (els := [_, _, _, _]) rfl El134 rfl (by decide) rfl (by decide) ⟨rfl, (Cl.c rfl), ⟨rfl, (Cl.c rfl), ⟨rfl, (Cl.c rfl), ⟨rfl, (Cl.c rfl), trivial⟩⟩⟩⟩ fun v39 => ⟨Gh.le_refl _, PickC.pick, ?_⟩) (OT.bslice (F := intT) (els := [_, _, _, _]) rfl El134 rfl (by decide) rfl (by decide) ⟨rfl, (Cl.c rfl), ⟨rfl, (Cl.c rfl), ⟨rfl, (Cl.c rfl), ⟨rfl, (Cl.c rfl), trivial⟩⟩⟩⟩ fun v49 => ⟨Gh.le_refl _, PickC.pick, ?_⟩)
          · refine RH.up1 ?_
            refine RH.pv rfl (fun _ _ _ _ h => h) (Gh.le_refl _) PickC.pick rfl (PV.idxS (v := v39) rfl Is134 rfl SlF.o rfl rfl (by omega)) ?_
            refine RH.pv rfl (fun _ _ _ _ h => h) (Gh.le_refl _) PickC.pick rfl (PV.loadE1 rfl Sc2 rfl rfl (El.o (getG (by omega))) rfl) ?_
            refine RH.pv rfl (fun _ _ _ _ h => h) (Gh.le_refl _) PickC.pick rfl (PV.add rfl rfl rfl (by omega)) ?_
            refine RH.ot rfl rfl (OT.bslice (F := intT) (els := [_, _, _, _]) rfl El134 rfl (by decide) rfl (by decide) ⟨rfl, (Cl.c rfl), ⟨rfl, (Cl.c rfl), ⟨rfl, (Cl.c rfl), ⟨rfl, (Cl.c rfl), trivial⟩⟩⟩⟩ fun v49 => ⟨Gh.le_refl _, PickC.pick, ?_⟩)
            refine RH.up1 ?_
            refine RH.pv rfl (fun _ _ _ _ h => h) (Gh.le_refl _) PickC.pick rfl (PV.idxS (v := v49) rfl Is134 rfl SlF.o rfl rfl (by omega)) ?_
            refine RH.pv rfl (fun _ _ _ _ h => h) (Gh.le_refl _) PickC.pick rfl (PV.loadE1 rfl Sc2 rfl rfl (El.o (getG (by omega))) rfl) ?_
            refine RH.pv rfl (fun _ _ _ _ h => h) (Gh.le_refl _) PickC.pick rfl (PV.add rfl rfl rfl (by omega)) ?_
            refine RH.pv rfl (fun _ _ _ _ h => h) (Gh.le_refl _) PickC.pick rfl (PV.build (vs := [(0, [vi _]), (1, [vi _])]) (out := [_, _]) rfl Zr210 Pl210 ⟨rfl, (Cl.c rfl), ⟨rfl, (Cl.c rfl), trivial⟩⟩ rfl) ?_
            refine RH.ot rfl rfl (OT.storeW (vs := [vi _, vi _]) rfl Sz210 rfl rfl (Cl.c rfl) rfl rfl (OneC.c rfl) ⟨Gh.le_refl _, PickC.pick, ?_⟩)
            refine RH.nil ?_
            exact ⟨rfl, b11, trivial, ⟨rfl, trivial⟩, ⟨rfl, rfl, rfl, rfl, rfl, trivial⟩, (Cv.p (C := blk b11 210 [vi ((gd (Q1.map ptOf) i).x + gd [1, -1, 0, 0] d), vi ((gd (Q1.map ptOf) i).y + gd [0, 0, 1, -1] d)] :: osl 4 boolT v14 O1 :: osl 210 ptT qv1 (Q1.map ptOf) :: L)).trans (Cv.cast (by rw [ex, ey]; rfl))⟩
          · refine RH.up1 ?_
            refine RH.pv rfl (fun _ _ _ _ h => h) (Gh.le_refl _) PickC.pick rfl (PV.idxS (v := v49) rfl Is134 rfl SlF.o rfl rfl (by omega)) ?_
            refine RH.pv rfl (fun _ _ _ _ h => h) (Gh.le_refl _) PickC.pick rfl (PV.loadE1 rfl Sc2 rfl rfl (El.o (getG (by omega))) rfl) ?_
            refine RH.pv rfl (fun _ _ _ _ h => h) (Gh.le_refl _) PickC.pick rfl (PV.add rfl rfl rfl (by omega)) ?_
            refine RH.ot rfl rfl (OT.bslice (F := intT) (els := [_, _, _, _]) rfl El134 rfl (by decide) rfl (by decide) ⟨rfl, (Cl.c rfl), ⟨rfl, (Cl.c rfl), ⟨rfl, (Cl.c rfl), ⟨rfl, (Cl.c rfl), trivial⟩⟩⟩⟩ fun v39 => ⟨Gh.le_refl _, PickC.pick, ?_⟩)
            refine RH.up1 ?_
            refine RH.pv rfl (fun _ _ _ _ h => h) (Gh.le_refl _) PickC.pick rfl (PV.idxS (v := v39) rfl Is134 rfl SlF.o rfl rfl (by omega)) ?_
            refine RH.pv rfl (fun _ _ _ _ h => h) (Gh.le_refl _) PickC.pick rfl (PV.loadE1 rfl Sc2 rfl rfl (El.o (getG (by omega))) rfl) ?_
            refine RH.pv rfl (fun _ _ _ _ h => h) (Gh.le_refl _) PickC.pick rfl (PV.add rfl rfl rfl (by omega)) ?_
            refine RH.pv rfl (fun _ _ _ _ h => h) (Gh.le_refl _) PickC.pick rfl (PV.build (vs := [(0, [vi _]), (1, [vi _])]) (out := [_, _]) rfl Zr210 Pl210 ⟨rfl, (Cl.c rfl), ⟨rfl, (Cl.c rfl), trivial⟩⟩ rfl) ?_
            refine RH.ot rfl rfl (OT.storeW (vs := [vi _, vi _]) rfl Sz210 rfl rfl (Cl.c rfl) rfl rfl (OneC.c rfl) ⟨Gh.le_refl _, PickC.pick, ?_⟩)
            refine RH.nil ?_
            exact ⟨rfl, b11, trivial, ⟨rfl, trivial⟩, ⟨rfl, rfl, rfl, rfl, rfl, trivial⟩, (Cv.p (C := blk b11 210 [vi ((gd (Q1.map ptOf) i).x + gd [1, -1, 0, 0] d), vi ((gd (Q1.map ptOf) i).y + gd [0, 0, 1, -1] d)] :: osl 4 boolT v14 O1 :: osl 210 ptT qv1 (Q1.map ptOf) :: L)).trans (Cv.cast (by rw [ex, ey]; rfl))⟩
      · have ej : ((gd Q1 i).2 - 40 + dY d + 40) * 80 + ((gd Q1 i).1 - 40 + dX d) + 40 = ((gd Q1 i).2 + dY d) * 80 + ((gd Q1 i).1 + dX d) := by omega
        rintro b11 τ2 _
        refine WP.seq ?_
        refine WP.region ?_
        refine RG.pv rfl (PV.move (v := v) rfl rfl) ?_
        refine RG.pv rfl (PV.field rfl Fo210_0 rfl) ?_
        refine RG.pv rfl (PV.load1 rfl Sc2 rfl (Rd.blk rfl)) ?_
        refine RG.pv rfl (PV.field rfl Fo210_1 rfl) ?_
        refine RG.pv rfl (PV.load1 rfl Sc2 rfl (Rd.blk rfl)) ?_
        refine RG.callF (vs := [v, _, _]) rfl rfl En242 rfl (l17Cell_s (Rs.up h1) hS ?_)
        refine RG.pv rfl (PV.mvB (.inl rfl) rfl) ?_
        refine RG.gs rfl rfl rfl (fun hp => (PV.move (v := v14) rfl rfl)) ?_
        refine RG.gs rfl rfl rfl (fun hp => (PV.field rfl Fo210_0 rfl)) ?_
        refine RG.gs rfl rfl rfl (fun hp => (PV.load1 rfl Sc2 (gs_t hp) (Rd.blk rfl))) ?_
        refine RG.gs rfl rfl rfl (fun hp => (PV.field rfl Fo210_1 rfl)) ?_
        refine RG.gs rfl rfl rfl (fun hp => (PV.load1 rfl Sc2 (gs_t hp) (Rd.blk rfl))) ?_
        refine RG.gsC rfl rfl rfl rfl En217 (fun hp => ⟨_, (acons (gs_t hp) (acons (gs_t hp) anil)), l17At_s (by first | omega | (simp at hp; omega)) (by first | omega | (simp at hp; omega)) ⟨rfl, rfl, rfl⟩⟩) ?_
        refine RG.gs rfl rfl rfl (fun hp => (PV.idxS (j := ((gd Q1 i).2 + dY d).toNat * 80 + ((gd Q1 i).1 + dX d).toNat) (v := v14) rfl Is149 (gs_t hp) SlF.o (gs_t hp) (by first | omega | (simp at hp; omega)) (by first | omega | (simp at hp; omega)))) ?_
        refine RG.gs rfl rfl rfl (fun hp => (PV.loadE1 rfl Sc4 (gs_t hp) rfl (El.o (getG (by first | omega | (simp at hp; omega)))) rfl)) ?_
        refine RG.gs rfl rfl rfl (fun hp => (PV.not rfl (gs_t hp))) ?_
        refine RG.pv rfl (PV.pickA rfl rfl (fun hq => gs_t (geqT hq)) rfl) ?_
        refine RG.nil ?_
        refine WP.cond rfl (fun h4 => ?_) (fun h4 => ?_)
        · have h5 : ((-40 ≤ (gd Q1 i).1 - 40 + dX d ∧ (gd Q1 i).1 - 40 + dX d < 40) ∧ (-40 ≤ (gd Q1 i).2 - 40 + dY d ∧ (gd Q1 i).2 - 40 + dY d < 40)) ∧ gb S ((gd Q1 i).2 + dY d).toNat ((gd Q1 i).1 + dX d).toNat = true ∧ gb O1 ((gd Q1 i).2 + dY d).toNat ((gd Q1 i).1 + dX d).toNat = false := by
            simp only [Bool.and_eq_true, decide_eq_true_eq, Bool.not_eq_true', ej] at h4
            obtain ⟨⟨⟨a1, a2⟩, a3⟩, a4⟩ := h4
            rw [show (((gd Q1 i).2 + dY d) * 80 + ((gd Q1 i).1 + dX d)).toNat = ((gd Q1 i).2 + dY d).toNat * 80 + ((gd Q1 i).1 + dX d).toNat by omega] at a3
            exact ⟨⟨a1, a2⟩, a3, a4⟩
          obtain ⟨⟨a1, a2⟩, a3, a4⟩ := h5
          refine WP.seq ?_
          refine WP.region ?_
          refine RG.pv rfl (PV.move (v := v14) rfl rfl) ?_
          refine RG.pv rfl (PV.field rfl Fo210_0 rfl) ?_
          refine RG.pv rfl (PV.load1 rfl Sc2 rfl (Rd.blk rfl)) ?_
          refine RG.pv rfl (PV.field rfl Fo210_1 rfl) ?_
          refine RG.pv rfl (PV.load1 rfl Sc2 rfl (Rd.blk rfl)) ?_
          refine RG.callF (vs := [_, _]) rfl rfl En217 rfl (l17At_s (by first | omega | (simp at hp; omega)) (by first | omega | (simp at hp; omega)) ?_)
          refine RG.pv rfl (PV.idxS (j := ((gd Q1 i).2 + dY d).toNat * 80 + ((gd Q1 i).1 + dX d).toNat) (v := v14) rfl Is149 rfl SlF.o rfl (by omega) (by omega)) ?_
          refine RG.ot rfl (OT.storeE (F := boolT) rfl Sz4 rfl rfl rfl (Cl.c rfl) (OneC.c rfl) (by omega) ?_)
          refine RG.nil ?_
          refine WP.region ?_
          refine RG.pv rfl (PV.move (v := qv1) rfl rfl) ?_
          refine RG.pv rfl (PV.loadW rfl Ag210 rfl rfl) ?_
          refine RG.ot rfl (OT.bslice (F := ptT) (els := [⟨_, _⟩]) rfl El207 rfl (by decide) rfl (by decide) ⟨rfl, (Cl.c rfl), trivial⟩ fun v81 => ?_)
          refine RG.ot rfl (OT.append (v := qv1) (u := v81) (F := ptT) rfl El207 rfl (by decide) rfl rfl Rs.o (OneL.c (fun _ => rfl)) rfl (by first | omega | (simp <;> omega)) fun v82 => ?_)
          refine RG.pv rfl (PV.asg (v := v82) rfl rfl) ?_
          refine RG.nil ?_
          refine WP.region ?_
          refine RG.pv rfl (PV.mvI (.inl rfl) rfl) ?_
          refine RG.pv rfl (PV.add rfl rfl rfl (by omega)) ?_
          refine RG.pv rfl (PV.mvI (.inr rfl) rfl) ?_
          refine RG.nil ?_
          have ep : ptOf ((gd Q1 i).1 + dX d, (gd Q1 i).2 + dY d) = ⟨(gd Q1 i).1 - 40 + dX d, (gd Q1 i).2 - 40 + dY d⟩ := by simp only [ptOf, Pt.mk.injEq]; omega
          have ha := adj4 (q := gd Q1 i) (d := d) (by omega) hb1 (by omega) (by omega)
          exact ⟨rfl, d + 1, (Q1 ++ [((gd Q1 i).1 + dX d, (gd Q1 i).2 + dY d)]), (O1.set (((gd Q1 i).2 + dY d).toNat * 80 + ((gd Q1 i).1 + dX d).toNat) true), v82, ⟨by omega, hF1.add ⟨by omega, by omega⟩ ⟨by omega, by omega⟩ a4 a3 hi1 ha, hD1.add hi1 (fun c hc => on_set hl1 ⟨by omega, by omega⟩ ⟨by omega, by omega⟩ hc), on_set hl1 ⟨by omega, by omega⟩ ⟨by omega, by omega⟩ h01, by simp; omega, by rw [gd_app_l hi1]; exact hq1, by rw [← hq1] at hN1 ⊢; exact hN1.take hl1 hb1 (by omega) (by omega)⟩, ⟨rfl, rfl, trivial⟩, ⟨rfl, rfl, rfl, trivial⟩, (Cv.p (C := osl 4 boolT v14 (O1.set (((gd Q1 i).2 + dY d).toNat * 80 + ((gd Q1 i).1 + dX d).toNat) true) :: osl 210 ptT v82 (Q1.map ptOf ++ [⟨(gd Q1 i).1 - 40 + dX d, (gd Q1 i).2 - 40 + dY d⟩]) :: L)).trans (Cv.cast (by rw [List.map_append, ← ep]; rfl)), by omega⟩
        · refine WP.skip ?_
          refine WP.region ?_
          refine RG.pv rfl (PV.mvI (.inl rfl) rfl) ?_
          refine RG.pv rfl (PV.add rfl rfl rfl (by omega)) ?_
          refine RG.pv rfl (PV.mvI (.inr rfl) rfl) ?_
          refine RG.nil ?_
          refine ⟨rfl, d + 1, Q1, O1, qv1, ⟨by omega, hF1, hD1, h01, hi1, hq1, ?_⟩, ⟨rfl, rfl, trivial⟩, ⟨rfl, rfl, rfl, trivial⟩, Cv.p, by omega⟩
          rw [← hq1] at hN1 ⊢
          refine hN1.skip hb1 ?_
          by_cases hin : 0 ≤ (gd Q1 i).1 + dX d ∧ (gd Q1 i).1 + dX d < 80 ∧ 0 ≤ (gd Q1 i).2 + dY d ∧ (gd Q1 i).2 + dY d < 80
          · refine .inr ?_
            simp only [Bool.and_eq_false_iff, decide_eq_false_iff_not, Bool.not_eq_false', ej] at h4
            rw [show (((gd Q1 i).2 + dY d) * 80 + ((gd Q1 i).1 + dX d)).toNat = ((gd Q1 i).2 + dY d).toNat * 80 + ((gd Q1 i).1 + dX d).toNat by omega] at h4
            rcases h4 with (((a | a) | a) | a)
            · omega
            · omega
            · exact .inl a
            · exact .inr a
          · exact .inl hin
    · have h3 := of_decide_eq_false h3
      refine WP.exit ?_
      refine WP.region ?_
      refine RG.pv rfl (PV.mvI (.inl rfl) rfl) ?_
      refine RG.pv rfl (PV.add rfl rfl rfl (by omega)) ?_
      refine RG.pv rfl (PV.mvI (.inr rfl) rfl) ?_
      refine RG.nil ?_
      exact ⟨rfl, i + 1, Q1, O1, qv1, ⟨by omega, hF1, hD1.next4 (by rw [hq1]) (by obtain rfl : d = 4 := (by omega); exact hN1), h01⟩, ⟨rfl, rfl, trivial⟩, ⟨rfl, rfl, trivial⟩, Cv.p, by omega⟩
  · have h2 := of_decide_eq_false h2
    obtain rfl : i = Q.length := by omega
    have e := hF.final hseed h0 hD
    rw [e] at hF
    refine WP.exit ?_
    refine WP.seq ?_
    refine WP.region ?_
    refine RG.pv rfl (PV.move (v := qv) rfl rfl) ?_
    refine RG.pv rfl (PV.asg (v := qv) rfl rfl) ?_
    refine RG.nil ?_
    refine WP.ret ?_
    exact ⟨_, _, ResV.one rfl rfl, Cv.p, k qv Q hF⟩
/-- the cells of the first n places of the queue -/
def PQ (Q : List (Int × Int)) (n : Nat) (P : List Bool) : Prop := P.length = 6400 ∧ ∀ y x, y < 80 → x < 80 → (gb P y x = true ↔ ∃ m, m < n ∧ qc (gd Q m) = (y, x))
theorem PQ.zero (Q : List (Int × Int)) : PQ Q 0 (List.replicate 6400 false) := ⟨List.length_replicate, fun y x _ _ => by rw [gb_rep']; simp⟩
theorem PQ.step {Q : List (Int × Int)} {n : Nat} {P : List Bool} (h : PQ Q n P) (hb : 0 ≤ (gd Q n).1 ∧ (gd Q n).1 < 80 ∧ 0 ≤ (gd Q n).2 ∧ (gd Q n).2 < 80) : PQ Q (n + 1) (P.set ((gd Q n).2.toNat * 80 + (gd Q n).1.toNat) true) := by
  refine ⟨by simpa using h.1, fun y x hy hx => ?_⟩
  rw [gb_set' h.1 (by omega) (by omega) hx]
  by_cases e : y = (gd Q n).2.toNat ∧ x = (gd Q n).1.toNat
  · rw [if_pos e]
    exact ⟨fun _ => ⟨n, by omega, by rw [qc, e.1, e.2]⟩, fun _ => rfl⟩
  · rw [if_neg e, h.2 y x hy hx]
    constructor
    · rintro ⟨m, hm, he⟩; exact ⟨m, by omega, he⟩
    · rintro ⟨m, hm, he⟩
      by_cases c : m = n
      · subst c; exfalso; apply e; simp only [qc, Prod.mk.injEq] at he; omega
      · exact ⟨m, by omega, he⟩
theorem PQ.final {S : List Bool} {a : Cel} {Q : List (Int × Int)} {P : List Bool} (hF : FI S a (compB S a) Q) (h : PQ Q Q.length P) : P = compB S a := by
  refine gb_ext h.1 (compB_len _ _) fun y x hy hx => ?_
  rw [Bool.eq_iff_iff, h.2 y x hy hx]
  constructor
  · rintro ⟨m, hm, he⟩; have := (hF.on m hm).2.2; rw [he] at this; exact this
  · intro hg; exact hF.all (y, x) ⟨hy, hx, hg⟩
/-- what is left when the cells of P are taken away -/
def MQ (T P U : List Bool) : Prop := U.length = 6400 ∧ ∀ y x, y < 80 → x < 80 → gb U y x = (gb T y x && !gb P y x)
theorem MQ.zero {T : List Bool} (h : T.length = 6400) : MQ T (List.replicate 6400 false) T := ⟨h, fun y x _ _ => by rw [gb_rep']; simp⟩
theorem MQ.step {T P U : List Bool} (h : MQ T P U) (hP : P.length = 6400) {v u : Nat} (hv : v < 80) (hu : u < 80) : MQ T (P.set (v * 80 + u) true) (U.set (v * 80 + u) false) := by
  refine ⟨by simpa using h.1, fun y x hy hx => ?_⟩
  rw [gb_set' h.1 hv hu hx, gb_set' hP hv hu hx]
  by_cases e : y = v ∧ x = u
  · rw [if_pos e, if_pos e]; simp
  · rw [if_neg e, if_neg e]; exact h.2 y x hy hx
theorem comps_s {v : Value} {S : List Bool} (h1 : Rs G L boolT v S) (hS : S.length = 6400) (k : ∀ v' zs, er zs = comps S → R v' G (osl 149 slT v' zs :: bagS 4 boolT zs :: L)) : CallT Tryz.prog 172 #[v] G L R := by
  have hrl : (List.replicate S.length false).length = 6400 := by simp [hS]
  refine CallT.enter (args := _) Tryz.func172 rfl rfl (by kernel_rfl) rfl ?_
  refine WP.seq ?_
  refine WP.region ?_
  refine RG.pv rfl (PV.asg rfl rfl) ?_
  refine RG.nil ?_
  refine WP.seq ?_
  refine WP.region ?_
  refine RG.ot rfl (OT.bslice (F := (slT (α := Bool))) (els := []) rfl El178 rfl (by decide) rfl (by decide) trivial fun v10 => ?_)
  refine RG.pv rfl (PV.asg (v := v10) rfl rfl) ?_
  refine RG.nil ?_
  refine WP.seq ?_
  refine WP.region ?_
  refine RG.ot rfl (OT.bslice (F := boolT) (els := []) rfl El149 rfl (by decide) rfl (by decide) trivial fun v11 => ?_)
  refine RG.pv rfl (PV.move (v := v) rfl rfl) ?_
  refine RG.ot rfl (OT.append (v := v11) (u := v) (F := boolT) rfl El149 rfl (by decide) rfl rfl (Rs.up h1) (OneL.c (fun _ => rfl)) rfl (by first | omega | (simp <;> omega)) fun v13 => ?_)
  refine RG.pv rfl (PV.asg (v := v13) rfl rfl) ?_
  refine RG.nil ?_
  refine WP.seq ?_
  refine WP.seq ?_
  refine WP.region ?_
  refine RG.pv rfl (PV.mvI (.inr rfl) rfl) ?_
  refine RG.nil ?_
  refine WP.block ?_
  refine WP.cv (((Cv.p (C := osl 149 slT v10 ([] : List (Sl Bool)) :: osl 4 boolT v13 ([] ++ S) :: L)).trans (Cv.cons (Cv.bag0 (e := 4) (F := boolT) (xs := []) rfl))).trans (Cv.cast (by rw [List.nil_append]))) ?_
  refine WP.loop4 [0, 4] (fun (yy : Int) (T : List Bool) (zs : List (Sl Bool)) (q : Value) => (-40 ≤ yy ∧ yy ≤ 40) ∧ PI id S ((yy + 40).toNat * 80) T (er zs)) (fun (yy : Int) (T : List Bool) (zs : List (Sl Bool)) (q : Value) => [(5, vi yy), (3, q)]) (fun (yy : Int) (T : List Bool) (zs : List (Sl Bool)) (q : Value) => osl 4 boolT v13 T :: osl 149 slT q zs :: bagS 4 boolT zs :: L) (fun (yy : Int) (T : List Bool) (zs : List (Sl Bool)) (q : Value) => (40 - yy).toNat) (-40) S [] v10 ⟨by omega, PI.start hS⟩ ⟨rfl, rfl, trivial⟩ Cv.p ?_
  rintro yy T zs q τ ⟨hy, hP⟩
  refine WP.seq ?_
  refine WP.seq ?_
  refine WP.region ?_
  refine RG.pv rfl (PV.mvI (.inl rfl) rfl) ?_
  refine RG.pv rfl (PV.lss rfl rfl rfl) ?_
  refine RG.nil ?_
  obtain ⟨y, rfl⟩ : ∃ n : Nat, yy = (n : Int) - 40 := ⟨(yy + 40).toNat, by omega⟩
  rw [show ((y : Int) - 40 + 40).toNat = y by omega] at hP
  refine WP.cond rfl (fun h2 => ?_) (fun h2 => ?_)
  · have h2 := of_decide_eq_true h2
    refine WP.skip ?_
    refine WP.seq ?_
    refine WP.block ?_
    refine WP.seq ?_
    refine WP.region ?_
    refine RG.pv rfl (PV.mvI (.inr rfl) rfl) ?_
    refine RG.nil ?_
    refine WP.block ?_
    refine WP.loop4 [0, 4, 5] (fun (xx : Int) (T1 : List Bool) (zs1 : List (Sl Bool)) (q1 : Value) => (-40 ≤ xx ∧ xx ≤ 40) ∧ PI id S (y * 80 + (xx + 40).toNat) T1 (er zs1)) (fun (xx : Int) (T1 : List Bool) (zs1 : List (Sl Bool)) (q1 : Value) => [(6, vi xx), (3, q1)]) (fun (xx : Int) (T1 : List Bool) (zs1 : List (Sl Bool)) (q1 : Value) => osl 4 boolT v13 T1 :: osl 149 slT q1 zs1 :: bagS 4 boolT zs1 :: L) (fun (xx : Int) (T1 : List Bool) (zs1 : List (Sl Bool)) (q1 : Value) => (40 - xx).toNat) (-40) T zs q ⟨by omega, by rw [show ((-40 : Int) + 40).toNat = 0 from rfl]; exact hP⟩ ⟨rfl, rfl, trivial⟩ Cv.p ?_
    rintro xx T1 zs1 q1 τ1 ⟨hx, hP1⟩
    refine WP.seq ?_
    refine WP.seq ?_
    refine WP.region ?_
    refine RG.pv rfl (PV.mvI (.inl rfl) rfl) ?_
    refine RG.pv rfl (PV.lss rfl rfl rfl) ?_
    refine RG.nil ?_
    obtain ⟨x, rfl⟩ : ∃ n : Nat, xx = (n : Int) - 40 := ⟨(xx + 40).toNat, by omega⟩
    rw [show ((x : Int) - 40 + 40).toNat = x by omega] at hP1
    refine WP.cond rfl (fun h3 => ?_) (fun h3 => ?_)
    · have h3 := of_decide_eq_true h3
      have hl1 := hP1.len
      have hzl : zs1.length ≤ y * 80 + x := by
        have := congrArg List.length hP1.er
        have h1 := firsts_len S (y * 80 + x)
        rw [er_len, List.length_map] at this; omega
      have e1 : (y * 80 + x) / 80 = y := by omega
      have e2 : (y * 80 + x) % 80 = x := by omega
      have e3 : cel (y * 80 + x) = (y, x) := by rw [cel, e1, e2]
      have e4 : ((x : Int) - 40 + 1 + 40).toNat = x + 1 := by omega
      refine WP.skip ?_
      refine WP.seq ?_
      refine WP.block ?_
      refine WP.seq ?_
      refine WP.seq ?_
      refine WP.region ?_
      refine RG.pv rfl (PV.move (v := v13) rfl rfl) ?_
      refine RG.pv rfl (PV.mvI (.inl rfl) rfl) ?_
      refine RG.pv rfl (PV.mvI (.inl rfl) rfl) ?_
      refine RG.callF (vs := [_, _]) rfl rfl En217 rfl (l17At_s (by omega) (by omega) ?_)
      refine RG.pv rfl (PV.idxS (j := y * 80 + x) (v := v13) rfl Is149 rfl SlF.o rfl (by omega) (by omega)) ?_
      refine RG.pv rfl (PV.loadE1 rfl Sc4 rfl rfl (El.o (getG (by omega))) rfl) ?_
      refine RG.pv rfl (PV.not rfl rfl) ?_
      refine RG.nil ?_
      refine WP.cond rfl (fun h4 => ?_) (fun h4 => ?_)
      · have h5 : gb T1 y x = false := by rw [gb]; simpa using h4
        refine WP.exit ?_
        refine WP.region ?_
        refine RG.pv rfl (PV.mvI (.inl rfl) rfl) ?_
        refine RG.pv rfl (PV.add rfl rfl rfl (by omega)) ?_
        refine RG.pv rfl (PV.mvI (.inr rfl) rfl) ?_
        refine RG.nil ?_
        exact ⟨rfl, (x : Int) - 40 + 1, T1, zs1, q1, ⟨by omega, by rw [e4]; exact hP1.skip (by omega) (by rw [e1, e2]; exact h5)⟩, ⟨rfl, rfl, trivial⟩, ⟨rfl, rfl, rfl, trivial⟩, Cv.p, by omega⟩
      · have h5 : gb T1 y x = true := by rw [gb]; simpa using h4
        refine WP.skip ?_
        refine WP.seq ?_
        refine WP.region ?_
        refine RG.pv rfl (PV.move (v := v13) rfl rfl) ?_
        refine RG.pv rfl (PV.mvI (.inl rfl) rfl) ?_
        refine RG.pv rfl (PV.mvI (.inl rfl) rfl) ?_
        refine RG.callF (vs := [v13, _, _]) rfl rfl En219 rfl (visit_s (x := (x : Int)) (y := (y : Int)) Rs.o hl1 (by omega) (by omega) (by rw [Int.toNat_natCast, Int.toNat_natCast]; exact h5) (fun v32 Q hQ => ?_))
        refine RG.pv rfl (PV.asg (v := v32) rfl rfl) ?_
        refine RG.nil ?_
        refine WP.seq ?_
        refine WP.region ?_
        refine RG.pv rfl (PV.move (v := v) rfl rfl) ?_
        refine RG.pv rfl (PV.len (v := v) rfl Tryz.underlying149 rfl (SlF.r h1)) ?_
        refine RG.ot rfl (OT.make (F := boolT) (a0 := false) rfl El149 rfl (by decide) rfl rfl (by omega) (by omega) fun v35 => ?_)
        refine RG.pv rfl (PV.asg (v := v35) rfl rfl) ?_
        refine RG.nil ?_
        refine WP.seq ?_
        refine WP.seq ?_
        refine WP.region ?_
        refine RG.pv rfl (PV.mvI (.inr rfl) rfl) ?_
        refine RG.nil ?_
        refine WP.block ?_
        rw [Int.toNat_natCast, Int.toNat_natCast, ← e3] at hQ
        have hQl := hQ.len_le
        have hml : (Q.map ptOf).length = Q.length := by simp
        refine WP.loop3 [0, 3, 4, 5, 6, 7, 8] (fun (i : Nat) (P U : List Bool) => i ≤ Q.length ∧ PQ Q i P ∧ MQ T1 P U) (fun (i : Nat) (P U : List Bool) => [(9, vi i)]) (fun (i : Nat) (P U : List Bool) => osl 4 boolT v35 P :: osl 4 boolT v13 U :: osl 210 ptT v32 (Q.map ptOf) :: osl 149 slT q1 zs1 :: bagS 4 boolT zs1 :: L) (fun (i : Nat) (P U : List Bool) => Q.length - i) 0 (List.replicate S.length false) T1 ⟨by omega, by rw [hS]; exact PQ.zero Q, by rw [hS]; exact MQ.zero hl1⟩ ⟨rfl, trivial⟩ Cv.p ?_
        rintro i P U τ2 ⟨hi, hPQ, hMQ⟩
        refine WP.seq ?_
        refine WP.seq ?_
        refine WP.region ?_
        refine RG.pv rfl (PV.mvI (.inl rfl) rfl) ?_
        refine RG.pv rfl (PV.move (v := v32) rfl rfl) ?_
        refine RG.pv rfl (PV.len (v := v32) rfl Tryz.underlying207 rfl SlF.o) ?_
        refine RG.pv rfl (PV.lss rfl rfl rfl) ?_
        refine RG.nil ?_
        refine WP.cond rfl (fun h6 => ?_) (fun h6 => ?_)
        · have h6 := of_decide_eq_true h6
          have hPl := hPQ.1
          have hUl := hMQ.1
          have hbq := hQ.bd i (by omega)
          have e5 : gd (Q.map ptOf) i = ⟨(gd Q i).1 - 40, (gd Q i).2 - 40⟩ := gd_pt (by omega)
          have ex : (gd (Q.map ptOf) i).x = (gd Q i).1 - 40 := by rw [e5]
          have ey : (gd (Q.map ptOf) i).y = (gd Q i).2 - 40 := by rw [e5]
          refine WP.skip ?_
          refine WP.seq ?_
          refine WP.block ?_
          refine WP.seq ?_
          refine WP.regionHD [.s v35] (.q 0 (.q 1 (.q 2 (.q 3 (.q 4 (.q 5 (.q 6 (.q 7 (.q 8 (.q 9 (.q 10 (.l 11 (.l 12 (.l 13 Sch.nil)))))))))))))) (by kernel_rfl) (by kernel_rfl) (by kernel_rfl) rfl ?_
          refine RH.pv rfl (fun _ _ _ _ h => h) (Gh.le_refl _) PickC.pick rfl (PV.move (v := v35) rfl rfl) ?_
          refine RH.pv rfl (fun _ _ _ _ h => h) (Gh.le_refl _) PickC.pick rfl (PV.move (v := v32) rfl rfl) ?_
          refine RH.pv rfl (fun _ _ _ _ h => h) (Gh.le_refl _) PickC.pick rfl (PV.mvI (.inl rfl) rfl) ?_
          refine RH.pv rfl (fun _ _ _ _ h => h) (Gh.le_refl _) PickC.pick rfl (PV.idxS (v := v32) rfl Is207 rfl SlF.o rfl rfl (by omega)) ?_
          refine RH.pv rfl (fun _ _ _ _ h => h) (Gh.le_refl _) PickC.pick rfl (PV.field rfl Fo210_0 rfl) ?_
          refine RH.pv rfl (fun _ _ _ _ h => h) (Gh.le_refl _) PickC.pick rfl (PV.loadF rfl Sc2 rfl rfl (El.o (getG (by omega))) rfl) ?_
          refine RH.pv rfl (fun _ _ _ _ h => h) (Gh.le_refl _) PickC.pick rfl (PV.move (v := v32) rfl rfl) ?_
          refine RH.pv rfl (fun _ _ _ _ h => h) (Gh.le_refl _) PickC.pick rfl (PV.mvI (.inl rfl) rfl) ?_
          refine RH.pv rfl (fun _ _ _ _ h => h) (Gh.le_refl _) PickC.pick rfl (PV.idxS (v := v32) rfl Is207 rfl SlF.o rfl rfl (by omega)) ?_
          refine RH.pv rfl (fun _ _ _ _ h => h) (Gh.le_refl _) PickC.pick rfl (PV.field rfl Fo210_1 rfl) ?_
          refine RH.pv rfl (fun _ _ _ _ h => h) (Gh.le_refl _) PickC.pick rfl (PV.loadF rfl Sc2 rfl rfl (El.o (getG (by omega))) rfl) ?_
          refine RH.ot rfl rfl (OT.callF (vs := [_, _]) rfl En217 rfl (l17At_s (by omega) (by omega) ⟨Gh.le_refl _, PickC.pick, ?_⟩))
          refine RH.ot rfl rfl (OT.pv (PV.idxS (j := (gd Q i).2.toNat * 80 + (gd Q i).1.toNat) (v := v35) rfl Is149 rfl SlF.o rfl (by omega) (by omega)) ⟨Gh.le_refl _, PickC.pick, ?_⟩)
          refine RH.ot rfl rfl (OT.storeE (F := boolT) rfl Sz4 rfl rfl rfl (Cl.c rfl) (OneC.c rfl) (by omega) ⟨Gh.le_refl _, PickC.pick, ?_⟩)
          refine RH.nil ?_
          refine WP.regionHD [.s v13] (.q 0 (.q 1 (.q 2 (.q 3 (.q 4 (.q 5 (.q 6 (.q 7 (.q 8 (.q 9 (.q 10 (.l 11 (.l 12 (.l 13 Sch.nil)))))))))))))) (by kernel_rfl) (by kernel_rfl) (by kernel_rfl) rfl ?_
          refine RH.pv rfl (fun _ _ _ _ h => h) (Gh.le_refl _) PickC.pick rfl (PV.move (v := v13) rfl rfl) ?_
          refine RH.pv rfl (fun _ _ _ _ h => h) (Gh.le_refl _) PickC.pick rfl (PV.move (v := v32) rfl rfl) ?_
          refine RH.pv rfl (fun _ _ _ _ h => h) (Gh.le_refl _) PickC.pick rfl (PV.mvI (.inl rfl) rfl) ?_
          refine RH.pv rfl (fun _ _ _ _ h => h) (Gh.le_refl _) PickC.pick rfl (PV.idxS (v := v32) rfl Is207 rfl SlF.o rfl rfl (by omega)) ?_
          refine RH.pv rfl (fun _ _ _ _ h => h) (Gh.le_refl _) PickC.pick rfl (PV.field rfl Fo210_0 rfl) ?_
          refine RH.pv rfl (fun _ _ _ _ h => h) (Gh.le_refl _) PickC.pick rfl (PV.loadF rfl Sc2 rfl rfl (El.o (getG (by omega))) rfl) ?_
          refine RH.pv rfl (fun _ _ _ _ h => h) (Gh.le_refl _) PickC.pick rfl (PV.move (v := v32) rfl rfl) ?_
          refine RH.pv rfl (fun _ _ _ _ h => h) (Gh.le_refl _) PickC.pick rfl (PV.mvI (.inl rfl) rfl) ?_
          refine RH.pv rfl (fun _ _ _ _ h => h) (Gh.le_refl _) PickC.pick rfl (PV.idxS (v := v32) rfl Is207 rfl SlF.o rfl rfl (by omega)) ?_
          refine RH.pv rfl (fun _ _ _ _ h => h) (Gh.le_refl _) PickC.pick rfl (PV.field rfl Fo210_1 rfl) ?_
          refine RH.pv rfl (fun _ _ _ _ h => h) (Gh.le_refl _) PickC.pick rfl (PV.loadF rfl Sc2 rfl rfl (El.o (getG (by omega))) rfl) ?_
          refine RH.ot rfl rfl (OT.callF (vs := [_, _]) rfl En217 rfl (l17At_s (by omega) (by omega) ⟨Gh.le_refl _, PickC.pick, ?_⟩))
          refine RH.ot rfl rfl (OT.pv (PV.idxS (j := (gd Q i).2.toNat * 80 + (gd Q i).1.toNat) (v := v13) rfl Is149 rfl SlF.o rfl (by omega) (by omega)) ⟨Gh.le_refl _, PickC.pick, ?_⟩)
          refine RH.ot rfl rfl (OT.storeE (F := boolT) rfl Sz4 rfl rfl rfl (Cl.c rfl) (OneC.c rfl) (by omega) ⟨Gh.le_refl _, PickC.pick, ?_⟩)
          refine RH.nil ?_
          refine WP.region ?_
          refine RG.pv rfl (PV.mvI (.inl rfl) rfl) ?_
          refine RG.pv rfl (PV.add rfl rfl rfl (by omega)) ?_
          refine RG.pv rfl (PV.mvI (.inr rfl) rfl) ?_
          refine RG.nil ?_
          exact ⟨rfl, i + 1, (P.set ((gd Q i).2.toNat * 80 + (gd Q i).1.toNat) true), (U.set ((gd Q i).2.toNat * 80 + (gd Q i).1.toNat) false), ⟨by omega, hPQ.step hbq, hMQ.step hPl (by omega) (by omega)⟩, ⟨rfl, trivial⟩, ⟨rfl, rfl, rfl, rfl, rfl, rfl, rfl, trivial⟩, Cv.p, by omega⟩
        · have h6 := of_decide_eq_false h6
          obtain rfl : i = Q.length := by omega
          obtain rfl := hPQ.final hQ
          refine WP.exit ?_
          refine WP.region ?_
          refine RG.pv rfl (PV.move (v := q1) rfl rfl) ?_
          refine RG.pv rfl (PV.move (v := v35) rfl rfl) ?_
          refine RG.ot rfl (OT.bslice (F := (slT (α := Bool))) (els := [⟨v35, compB T1 (cel (y * 80 + x))⟩]) rfl El178 rfl (by decide) rfl (by decide) ⟨rfl, (Cl.s (v := v35) SlF.o), trivial⟩ fun v70 => ?_)
          refine RG.ot rfl (OT.append (v := q1) (u := v70) (F := (slT (α := Bool))) rfl El178 rfl (by decide) rfl rfl Rs.o (OneL.one (OneC.sl SlF.o OneC.nil)) rfl (by first | omega | (simp <;> omega)) fun v71 => ?_)
          refine RG.pv rfl (PV.asg (v := v71) rfl rfl) ?_
          refine RG.nil ?_
          refine WP.region ?_
          refine RG.pv rfl (PV.mvI (.inl rfl) rfl) ?_
          refine RG.pv rfl (PV.add rfl rfl rfl (by omega)) ?_
          refine RG.pv rfl (PV.mvI (.inr rfl) rfl) ?_
          refine RG.nil ?_
          refine ⟨rfl, (x : Int) - 40 + 1, U, (zs1 ++ [⟨v35, compB T1 (cel (y * 80 + x))⟩]), v71, ⟨by omega, ?_⟩, ⟨rfl, rfl, trivial⟩, ⟨rfl, rfl, rfl, trivial⟩, ((Cv.p (C := osl 4 boolT v35 (compB T1 (cel (y * 80 + x))) :: bagS 4 boolT zs1 :: osl 4 boolT v13 U :: osl 149 slT v71 (zs1 ++ [⟨v35, compB T1 (cel (y * 80 + x))⟩]) :: L)).trans (Cv.bagS_add.trans Cv.p)), by omega⟩
          rw [e4, er, List.map_append]
          exact hP1.take (by omega) (by rw [e1, e2]; exact h5) hMQ.1 hMQ.2
    · have h3 := of_decide_eq_false h3
      obtain rfl : x = 80 := by omega
      refine WP.exit ?_
      refine WP.region ?_
      refine RG.pv rfl (PV.mvI (.inl rfl) rfl) ?_
      refine RG.pv rfl (PV.add rfl rfl rfl (by omega)) ?_
      refine RG.pv rfl (PV.mvI (.inr rfl) rfl) ?_
      refine RG.nil ?_
      exact ⟨rfl, (y : Int) - 40 + 1, T1, zs1, q1, ⟨by omega, by rw [show ((y : Int) - 40 + 1 + 40).toNat = y + 1 by omega, Nat.add_mul]; exact hP1⟩, ⟨rfl, rfl, trivial⟩, ⟨rfl, rfl, trivial⟩, Cv.p, by omega⟩
  · have h2 := of_decide_eq_false h2
    obtain rfl : y = 80 := by omega
    have hz := hP.all
    refine WP.exit ?_
    refine WP.seq ?_
    refine WP.region ?_
    refine RG.pv rfl (PV.move (v := q) rfl rfl) ?_
    refine RG.pv rfl (PV.asg (v := q) rfl rfl) ?_
    refine RG.nil ?_
    refine WP.ret ?_
    exact ⟨_, _, ResV.one rfl rfl, Cv.p, k q zs hz⟩
end Go.Proofs.YtgngpegmaceaiaaGreat
namespace Go.Proofs.YtgngpegmaceaiaaGreat
set_option linter.unusedVariables false
set_option linter.unusedSimpArgs false
open Go
set_option maxRecDepth 20000
set_option linter.unusedSimpArgs false
variable {G : Gh} {L : List Ch} {R : Value → Gh → List Ch → Prop}
def opF (op : Int) (p q : Bool) : Bool := decide (op / ((if q then 2 else 1) * ((if p then 4 else 1) * 1)) % 2 = 1)
theorem opF_or : opF 14 = fun p q => p || q := by funext p q; cases p <;> cases q <;> rfl
theorem opF_xor : opF 6 = fun p q => p != q := by funext p q; cases p <;> cases q <;> rfl
theorem opF_and : opF 8 = fun p q => p && q := by funext p q; cases p <;> cases q <;> rfl
theorem opF_minus : opF 4 = fun p q => p && !q := by funext p q; cases p <;> cases q <;> rfl
abbrev orB (a b : List Bool) : List Bool := zipB (fun p q => p || q) a b
def chgB (l m : List (List Rect)) (k : Nat) : List Bool := zipB (fun p q => p != q) (bits (gd l k)) (bits (gd m k))
theorem chgB_len (l m : List (List Rect)) (k : Nat) : (chgB l m k).length = 6400 := zipB_len (bits_length _) (bits_length _)
def orL (l m : List (List Rect)) (ks : List Nat) : List Bool := ks.foldl (fun b k => orB b (chgB l m k)) (bits [])
theorem orL_len (l m : List (List Rect)) (ks : List Nat) : (orL l m ks).length = 6400 := by
  have : ∀ (ks : List Nat) (b : List Bool), b.length = 6400 → (ks.foldl (fun b k => orB b (chgB l m k)) b).length = 6400 := by
    intro ks
    induction ks with
    | nil => exact fun b h => h
    | cons k ks ih => exact fun b h => ih _ (zipB_len h (chgB_len l m k))
  exact this ks _ (bits_length _)
theorem gb_zip {f : Bool → Bool → Bool} {a b : List Bool} (h : a.length = 6400) (h' : b.length = 6400) {y x : Nat} (hy : y < 80) (hx : x < 80) : gb (zipB f a b) y x = f (gb a y x) (gb b y x) := zipB_gd (by omega) (by omega)
theorem gb_bits (rs : List Rect) {y x : Nat} (hy : y < 80) (hx : x < 80) : gb (bits rs) y x = rs.any fun r => inR r y x := by
  have h : y * 80 + x < 6400 := by omega
  have e1 : (y * 80 + x) / 80 = y := by omega
  have e2 : (y * 80 + x) % 80 = x := by omega
  rw [gb, gd_eq (by rw [bits_length]; exact h)]
  simp [bits, e1, e2]
theorem gb_orL (l m : List (List Rect)) (ks : List Nat) {y x : Nat} (hy : y < 80) (hx : x < 80) : gb (orL l m ks) y x = ks.any fun k => gb (chgB l m k) y x := by
  have : ∀ (ks : List Nat) (b : List Bool), b.length = 6400 → gb (ks.foldl (fun b k => orB b (chgB l m k)) b) y x = (gb b y x || ks.any fun k => gb (chgB l m k) y x) := by
    intro ks
    induction ks with
    | nil => intro b _; simp
    | cons k ks ih =>
      intro b h
      rw [List.foldl_cons, ih _ (zipB_len h (chgB_len l m k)), gb_zip h (chgB_len l m k) hy hx, List.any_cons, Bool.or_assoc]
  rw [orL, this ks _ (bits_length _), gb_bits [] hy hx]; simp
theorem canon_any {bs : List Bool} {y x : Nat} (hy : y < 80) (hx : x < 80) : ((canon bs).any fun r => inR r y x) = gb bs y x := by
  rw [canon, canonFrom_any bs 0 y x hy hx]; simp
theorem bits_orL (l m : List (List Rect)) (ks : List Nat) : bits ((ks.map fun k => canon (chgB l m k)).flatten) = orL l m ks := by
  refine (bits_eq (orL_len l m ks) fun y x hy hx => ?_).symm
  rw [gb_orL l m ks hy hx, List.any_flatten, List.any_map]
  congr 1; funext k; exact (canon_any hy hx).symm
theorem orL_snoc (l m : List (List Rect)) (ks : List Nat) (k : Nat) : orL l m (ks ++ [k]) = orB (orL l m ks) (chgB l m k) := by simp [orL, List.foldl_append]
theorem isLayoutS_s {v : Value} {xs : List (Sl Rect)} (h1 : Rs G L slT v xs) (hd : RsE G L rectT xs) (k : R (.bool (isLay (er xs))) G L) : CallT Tryz.prog 50 #[v] G L R := by
  refine CallT.bd h1 fun hb => ?_
  refine CallT.enter (args := _) Tryz.func50 rfl rfl (by kernel_rfl) rfl ?_
  refine WP.seq ?_
  refine WP.region ?_
  refine RG.pv rfl (PV.mvB (.inr rfl) rfl) ?_
  refine RG.nil ?_
  refine WP.seq ?_
  refine WP.seq ?_
  refine WP.region ?_
  refine RG.pv rfl (PV.move (v := v) rfl rfl) ?_
  refine RG.pv rfl (PV.len (v := v) rfl Tryz.underlying50 rfl (SlF.r h1)) ?_
  refine RG.pv rfl (PV.neq rfl rfl rfl) ?_
  refine RG.nil ?_
  refine WP.cond rfl (fun h0 => ?_) (fun h0 => ?_)
  · have e : isLay (er xs) = false := by simp at h0; simp [isLay, er_len]; omega
    rw [e] at k
    refine WP.seq ?_
    refine WP.region ?_
    refine RG.pv rfl (PV.mvB (.inr rfl) rfl) ?_
    refine RG.nil ?_
    refine WP.ret ?_
    exact ⟨_, _, ResV.one rfl rfl, Cv.p, k⟩
  · have h8 : xs.length = 8 := by simp at h0; omega
    refine WP.skip ?_
    refine WP.seq ?_
    refine WP.seq ?_
    refine WP.region ?_
    refine RG.pv rfl (PV.mvI (.inr rfl) rfl) ?_
    refine RG.nil ?_
    refine WP.block ?_
    refine WP.loop1 [0] (fun i => i ≤ xs.length ∧ ∀ j, j < i → isReg (gd xs j).xs = true) (fun i => [(3, vi i)]) (fun i => L) (fun i => xs.length - i) 0 ⟨by omega, fun j h => by omega⟩ ⟨rfl, trivial⟩ Cv.p ?_
    rintro i τ ⟨hi, hj⟩
    refine WP.seq ?_
    refine WP.seq ?_
    refine WP.region ?_
    refine RG.pv rfl (PV.mvI (.inl rfl) rfl) ?_
    refine RG.pv rfl (PV.move (v := v) rfl rfl) ?_
    refine RG.pv rfl (PV.len (v := v) rfl Tryz.underlying50 rfl (SlF.r h1)) ?_
    refine RG.pv rfl (PV.lss rfl rfl rfl) ?_
    refine RG.nil ?_
    refine WP.cond rfl (fun h2 => ?_) (fun h2 => ?_)
    · have h2 := of_decide_eq_true h2
      refine WP.skip ?_
      refine WP.seq ?_
      refine WP.block ?_
      refine WP.seq ?_
      refine WP.region ?_
      refine RG.pv rfl (PV.move (v := v) rfl rfl) ?_
      refine RG.pv rfl (PV.mvI (.inl rfl) rfl) ?_
      refine RG.pv rfl (PV.idxS (v := v) rfl Is50 rfl (SlF.r h1) rfl rfl (by omega)) ?_
      refine RG.pv rfl (PV.loadE1 rfl Sc35 rfl rfl (El.r h1 (getG (by omega))) rfl) ?_
      refine RG.callF (vs := [_]) rfl rfl En68 rfl (l03Ok_s (hd i (by omega)) ?_)
      refine RG.pv rfl (PV.not rfl rfl) ?_
      refine RG.nil ?_
      refine WP.cond rfl (fun h3 => ?_) (fun h3 => ?_)
      · rw [isLay_false (i := i) (by rw [er_len]; omega) (by rw [er_gd]; simpa using h3)] at k
        refine WP.seq ?_
        refine WP.region ?_
        refine RG.pv rfl (PV.mvB (.inr rfl) rfl) ?_
        refine RG.nil ?_
        refine WP.ret ?_
        exact ⟨_, _, ResV.one rfl rfl, Cv.p, k⟩
      · have hj' : ∀ j, j < i + 1 → isReg (gd xs j).xs = true := fun j h => by
          by_cases c : j = i
          · subst c; simpa using h3
          · exact hj j (by omega)
        refine WP.skip ?_
        refine WP.region ?_
        refine RG.pv rfl (PV.mvI (.inl rfl) rfl) ?_
        refine RG.pv rfl (PV.add rfl rfl rfl (by omega)) ?_
        refine RG.pv rfl (PV.mvI (.inr rfl) rfl) ?_
        refine RG.nil ?_
        exact ⟨rfl, i + 1, ⟨by omega, hj'⟩, ⟨rfl, trivial⟩, ⟨rfl, trivial⟩, Cv.p, by omega⟩
    · have h2 := of_decide_eq_false h2
      have e : isLay (er xs) = true := by
        rw [isLay_all (fun i hi => by rw [er_gd]; rw [er_len] at hi; exact hj i (by omega)), er_len, h8]; rfl
      rw [e] at k
      refine WP.exit ?_
      refine WP.seq ?_
      refine WP.region ?_
      refine RG.pv rfl (PV.mvB (.inr rfl) rfl) ?_
      refine RG.nil ?_
      refine WP.ret ?_
      exact ⟨_, _, ResV.one rfl rfl, Cv.p, k⟩
theorem l04Combine_s {v u : Value} {xs ys : List Bool} {op : Int} (h1 : Rs G L boolT v xs) (h2 : Rs G L boolT u ys) (hl : xs.length = 6400) (hl' : ys.length = 6400) (hop : 0 ≤ op ∧ op ≤ 15) (k : ∀ v', R v' G (osl 4 boolT v' (zipB (opF op) xs ys) :: L)) : CallT Tryz.prog 212 #[v, u, vi op] G L R := by
  have hzl := zipB_len (f := opF op) hl hl'
  refine CallT.enter (args := _) Tryz.func212 rfl rfl (by kernel_rfl) rfl ?_
  refine WP.seq ?_
  refine WP.region ?_
  refine RG.pv rfl (PV.asg rfl rfl) ?_
  refine RG.nil ?_
  refine WP.seq ?_
  refine WP.region ?_
  refine RG.pv rfl (PV.move (v := v) rfl rfl) ?_
  refine RG.pv rfl (PV.len (v := v) rfl Tryz.underlying149 rfl (SlF.r h1)) ?_
  refine RG.ot rfl (OT.make (F := boolT) (a0 := false) rfl El149 rfl (by decide) rfl rfl (by omega) (by omega) fun v12 => ?_)
  refine RG.pv rfl (PV.asg (v := v12) rfl rfl) ?_
  refine RG.nil ?_
  refine WP.seq ?_
  refine WP.seq ?_
  refine WP.region ?_
  refine RG.pv rfl (PV.mvI (.inr rfl) rfl) ?_
  refine RG.nil ?_
  refine WP.block ?_
  refine WP.loop2 [0, 1, 2, 7] (fun (i : Nat) (zs : List Bool) => i ≤ 6400 ∧ zs.length = 6400 ∧ ∀ j, j < i → zs[j]? = (zipB (opF op) xs ys)[j]?) (fun (i : Nat) (zs : List Bool) => [(8, vi i)]) (fun (i : Nat) (zs : List Bool) => osl 4 boolT v12 zs :: L) (fun (i : Nat) (zs : List Bool) => 6400 - i) 0 (List.replicate xs.length false) ⟨by omega, by simp [hl], fun j h => by omega⟩ ⟨rfl, trivial⟩ Cv.p ?_
  rintro i zs τ ⟨hi, hl2, he⟩
  refine WP.seq ?_
  refine WP.seq ?_
  refine WP.region ?_
  refine RG.pv rfl (PV.mvI (.inl rfl) rfl) ?_
  refine RG.pv rfl (PV.move (v := v) rfl rfl) ?_
  refine RG.pv rfl (PV.len (v := v) rfl Tryz.underlying149 rfl (SlF.r h1)) ?_
  refine RG.pv rfl (PV.lss rfl rfl rfl) ?_
  refine RG.nil ?_
  refine WP.cond rfl (fun h3 => ?_) (fun h3 => ?_)
  · have h3 := of_decide_eq_true h3
    have hz := zipB_get (f := opF op) (a := xs) (b := ys) (i := i) (by omega) (by omega)
    refine WP.skip ?_
    refine WP.seq ?_
    refine WP.block ?_
    refine WP.seq ?_
    refine WP.region ?_
    refine RG.pv rfl (PV.mvI (.inr rfl) rfl) ?_
    refine RG.nil ?_
    refine WP.seq ?_
    refine WP.seq ?_
    refine WP.region ?_
    refine RG.pv rfl (PV.move (v := v) rfl rfl) ?_
    refine RG.pv rfl (PV.mvI (.inl rfl) rfl) ?_
    refine RG.pv rfl (PV.idxS (v := v) rfl Is149 rfl (SlF.r h1) rfl rfl (by omega)) ?_
    refine RG.pv rfl (PV.loadE1 rfl Sc4 rfl rfl (El.r h1 (getG (by omega))) rfl) ?_
    refine RG.nil ?_
    refine WP.cond rfl (fun h4 => ?_) (fun h4 => ?_)
    · refine WP.region ?_
      refine RG.pv rfl (PV.mvI (.inl rfl) rfl) ?_
      refine RG.pv rfl (PV.mul rfl rfl rfl (by omega)) ?_
      refine RG.pv rfl (PV.mvI (.inr rfl) rfl) ?_
      refine RG.nil ?_
      refine WP.seq ?_
      refine WP.seq ?_
      refine WP.region ?_
      refine RG.pv rfl (PV.move (v := u) rfl rfl) ?_
      refine RG.pv rfl (PV.mvI (.inl rfl) rfl) ?_
      refine RG.pv rfl (PV.idxS (v := u) rfl Is149 rfl (SlF.r h2) rfl rfl (by omega)) ?_
      refine RG.pv rfl (PV.loadE1 rfl Sc4 rfl rfl (El.r h2 (getG (by omega))) rfl) ?_
      refine RG.nil ?_
      refine WP.cond rfl (fun h5 => ?_) (fun h5 => ?_)
      · refine WP.region ?_
        refine RG.pv rfl (PV.mvI (.inl rfl) rfl) ?_
        refine RG.pv rfl (PV.mul rfl rfl rfl (by omega)) ?_
        refine RG.pv rfl (PV.mvI (.inr rfl) rfl) ?_
        refine RG.nil ?_
        refine WP.region ?_
        refine RG.pv rfl (PV.move (v := v12) rfl rfl) ?_
        refine RG.pv rfl (PV.mvI (.inl rfl) rfl) ?_
        refine RG.pv rfl (PV.mvI (.inl rfl) rfl) ?_
        refine RG.pv rfl (PV.mvI (.inl rfl) rfl) ?_
        refine RG.pv rfl (PV.quo rfl rfl rfl (by omega) (by omega) (by omega)) ?_
        refine RG.pv rfl (PV.rem rfl rfl rfl (by omega) (by omega) (by omega)) ?_
        refine RG.pv rfl (PV.eql rfl rfl rfl) ?_
        refine RG.pv rfl (PV.idxS (v := v12) rfl Is149 rfl SlF.o rfl rfl (by omega)) ?_
        refine RG.ot rfl (OT.storeE (F := boolT) rfl Sz4 rfl rfl rfl (Cl.c rfl) (OneC.c rfl) (by omega) ?_)
        refine RG.nil ?_
        refine WP.region ?_
        refine RG.pv rfl (PV.mvI (.inl rfl) rfl) ?_
        refine RG.pv rfl (PV.add rfl rfl rfl (by omega)) ?_
        refine RG.pv rfl (PV.mvI (.inr rfl) rfl) ?_
        refine RG.nil ?_
        exact ⟨rfl, i + 1, (zs.set i (decide (op / (2 * (4 * 1)) % 2 = 1))), ⟨by omega, by simpa using hl2, set_pre he (by rw [hz, opF, h4, h5]; try rfl) (by omega)⟩, ⟨rfl, trivial⟩, ⟨rfl, rfl, rfl, rfl, trivial⟩, Cv.p, by omega⟩
      · refine WP.skip ?_
        refine WP.region ?_
        refine RG.pv rfl (PV.move (v := v12) rfl rfl) ?_
        refine RG.pv rfl (PV.mvI (.inl rfl) rfl) ?_
        refine RG.pv rfl (PV.mvI (.inl rfl) rfl) ?_
        refine RG.pv rfl (PV.mvI (.inl rfl) rfl) ?_
        refine RG.pv rfl (PV.quo rfl rfl rfl (by omega) (by omega) (by omega)) ?_
        refine RG.pv rfl (PV.rem rfl rfl rfl (by omega) (by omega) (by omega)) ?_
        refine RG.pv rfl (PV.eql rfl rfl rfl) ?_
        refine RG.pv rfl (PV.idxS (v := v12) rfl Is149 rfl SlF.o rfl rfl (by omega)) ?_
        refine RG.ot rfl (OT.storeE (F := boolT) rfl Sz4 rfl rfl rfl (Cl.c rfl) (OneC.c rfl) (by omega) ?_)
        refine RG.nil ?_
        refine WP.region ?_
        refine RG.pv rfl (PV.mvI (.inl rfl) rfl) ?_
        refine RG.pv rfl (PV.add rfl rfl rfl (by omega)) ?_
        refine RG.pv rfl (PV.mvI (.inr rfl) rfl) ?_
        refine RG.nil ?_
        exact ⟨rfl, i + 1, (zs.set i (decide (op / (4 * 1) % 2 = 1))), ⟨by omega, by simpa using hl2, set_pre he (by rw [hz, opF, h4, h5]; try rfl) (by omega)⟩, ⟨rfl, trivial⟩, ⟨rfl, rfl, rfl, rfl, trivial⟩, Cv.p, by omega⟩
    · refine WP.skip ?_
      refine WP.seq ?_
      refine WP.seq ?_
      refine WP.region ?_
      refine RG.pv rfl (PV.move (v := u) rfl rfl) ?_
      refine RG.pv rfl (PV.mvI (.inl rfl) rfl) ?_
      refine RG.pv rfl (PV.idxS (v := u) rfl Is149 rfl (SlF.r h2) rfl rfl (by omega)) ?_
      refine RG.pv rfl (PV.loadE1 rfl Sc4 rfl rfl (El.r h2 (getG (by omega))) rfl) ?_
      refine RG.nil ?_
      refine WP.cond rfl (fun h5 => ?_) (fun h5 => ?_)
      · refine WP.region ?_
        refine RG.pv rfl (PV.mvI (.inl rfl) rfl) ?_
        refine RG.pv rfl (PV.mul rfl rfl rfl (by omega)) ?_
        refine RG.pv rfl (PV.mvI (.inr rfl) rfl) ?_
        refine RG.nil ?_
        refine WP.region ?_
        refine RG.pv rfl (PV.move (v := v12) rfl rfl) ?_
        refine RG.pv rfl (PV.mvI (.inl rfl) rfl) ?_
        refine RG.pv rfl (PV.mvI (.inl rfl) rfl) ?_
        refine RG.pv rfl (PV.mvI (.inl rfl) rfl) ?_
        refine RG.pv rfl (PV.quo rfl rfl rfl (by omega) (by omega) (by omega)) ?_
        refine RG.pv rfl (PV.rem rfl rfl rfl (by omega) (by omega) (by omega)) ?_
        refine RG.pv rfl (PV.eql rfl rfl rfl) ?_
        refine RG.pv rfl (PV.idxS (v := v12) rfl Is149 rfl SlF.o rfl rfl (by omega)) ?_
        refine RG.ot rfl (OT.storeE (F := boolT) rfl Sz4 rfl rfl rfl (Cl.c rfl) (OneC.c rfl) (by omega) ?_)
        refine RG.nil ?_
        refine WP.region ?_
        refine RG.pv rfl (PV.mvI (.inl rfl) rfl) ?_
        refine RG.pv rfl (PV.add rfl rfl rfl (by omega)) ?_
        refine RG.pv rfl (PV.mvI (.inr rfl) rfl) ?_
        refine RG.nil ?_
        exact ⟨rfl, i + 1, (zs.set i (decide (op / (2 * 1) % 2 = 1))), ⟨by omega, by simpa using hl2, set_pre he (by rw [hz, opF, h4, h5]; try rfl) (by omega)⟩, ⟨rfl, trivial⟩, ⟨rfl, rfl, rfl, rfl, trivial⟩, Cv.p, by omega⟩
      · refine WP.skip ?_
        refine WP.region ?_
        refine RG.pv rfl (PV.move (v := v12) rfl rfl) ?_
        refine RG.pv rfl (PV.mvI (.inl rfl) rfl) ?_
        refine RG.pv rfl (PV.mvI (.inl rfl) rfl) ?_
        refine RG.pv rfl (PV.mvI (.inl rfl) rfl) ?_
        refine RG.pv rfl (PV.quo rfl rfl rfl (by omega) (by omega) (by omega)) ?_
        refine RG.pv rfl (PV.rem rfl rfl rfl (by omega) (by omega) (by omega)) ?_
        refine RG.pv rfl (PV.eql rfl rfl rfl) ?_
        refine RG.pv rfl (PV.idxS (v := v12) rfl Is149 rfl SlF.o rfl rfl (by omega)) ?_
        refine RG.ot rfl (OT.storeE (F := boolT) rfl Sz4 rfl rfl rfl (Cl.c rfl) (OneC.c rfl) (by omega) ?_)
        refine RG.nil ?_
        refine WP.region ?_
        refine RG.pv rfl (PV.mvI (.inl rfl) rfl) ?_
        refine RG.pv rfl (PV.add rfl rfl rfl (by omega)) ?_
        refine RG.pv rfl (PV.mvI (.inr rfl) rfl) ?_
        refine RG.nil ?_
        exact ⟨rfl, i + 1, (zs.set i (decide (op / 1 % 2 = 1))), ⟨by omega, by simpa using hl2, set_pre he (by rw [hz, opF, h4, h5]; try rfl) (by omega)⟩, ⟨rfl, trivial⟩, ⟨rfl, rfl, rfl, rfl, trivial⟩, Cv.p, by omega⟩
  · have h3 := of_decide_eq_false h3
    obtain rfl := pre_eq he (by omega) (by omega)
    refine WP.exit ?_
    refine WP.seq ?_
    refine WP.region ?_
    refine RG.pv rfl (PV.move (v := v12) rfl rfl) ?_
    refine RG.pv rfl (PV.asg (v := v12) rfl rfl) ?_
    refine RG.nil ?_
    refine WP.ret ?_
    exact ⟨_, _, ResV.one rfl rfl, Cv.p, k v12⟩
theorem xor1_s {p q : Bool} (k : R (.bool (p != q)) G L) : CallT Tryz.prog 214 #[.bool p, .bool q] G L R := by
  refine CallT.enter (args := _) Tryz.func214 rfl rfl (by kernel_rfl) rfl ?_
  refine WP.seq ?_
  refine WP.region ?_
  refine RG.pv rfl (PV.mvB (.inr rfl) rfl) ?_
  refine RG.nil ?_
  refine WP.seq ?_
  refine WP.region ?_
  refine RG.pv rfl (PV.mvB (.inl rfl) rfl) ?_
  refine RG.pv rfl (PV.mvB (.inl rfl) rfl) ?_
  refine RG.pv rfl (PV.neqB rfl Tryz.underlying4 rfl rfl) ?_
  refine RG.pv rfl (PV.mvB (.inr rfl) rfl) ?_
  refine RG.nil ?_
  refine WP.ret ?_
  exact ⟨_, _, ResV.one rfl rfl, Cv.p, k⟩
theorem symd_s {v u : Value} {xs ys : List Rect} (h1 : Rs G L rectT v xs) (h2 : Rs G L rectT u ys) (k : ∀ v', R v' G (osl 101 rectT v' (opR (fun p q => p != q) xs ys) :: L)) : CallT Tryz.prog 164 #[v, u] G L R := by
  refine CallT.enter (args := _) Tryz.func164 rfl rfl (by kernel_rfl) rfl ?_
  refine WP.seq ?_
  refine WP.region ?_
  refine RG.pv rfl (PV.asg rfl rfl) ?_
  refine RG.nil ?_
  refine WP.seq ?_
  refine WP.region ?_
  refine RG.pv rfl (PV.move (v := v) rfl rfl) ?_
  refine RG.pv rfl (PV.move (v := u) rfl rfl) ?_
  refine RG.callF (vs := [v, u, _]) rfl rfl En111 rfl (combine_s (f := fun p q => p != q) (Rs.up h1) (Rs.up h2) (fun p q => CB.mk0 En214 fun L' R c k => xor1_s k) (fun v7 => ?_))
  refine RG.pv rfl (PV.asg (v := v7) rfl rfl) ?_
  refine RG.nil ?_
  refine WP.ret ?_
  exact ⟨_, _, ResV.one rfl rfl, Cv.p, k v7⟩
theorem unionAll_s {v : Value} {xs : List (Sl Rect)} (h1 : Rs G L slT v xs) (hd : RsE G L rectT xs) (k : ∀ v', R v' G (osl 101 rectT v' (canon (bits (er xs).flatten)) :: L)) : CallT Tryz.prog 165 #[v] G L R := by
  refine CallT.bd h1 fun hb => ?_
  refine CallT.enter (args := _) Tryz.func165 rfl rfl (by kernel_rfl) rfl ?_
  refine WP.seq ?_
  refine WP.region ?_
  refine RG.pv rfl (PV.asg rfl rfl) ?_
  refine RG.nil ?_
  refine WP.seq ?_
  refine WP.region ?_
  refine RG.pv rfl (PV.build0 rfl Tryz.underlying174 ⟨80, by kernel_rfl⟩ (zeroB_spec (n := 6400) (by kernel_rfl))) ?_
  refine RG.ot rfl (OT.boxG rfl rfl fun b9 => ?_)
  refine RG.pv rfl (PV.mvP (.inr rfl) rfl) ?_
  refine RG.nil ?_
  refine WP.seq ?_
  refine WP.seq ?_
  refine WP.region ?_
  refine RG.pv rfl (PV.move (v := v) rfl rfl) ?_
  refine RG.pv rfl (PV.len (v := v) rfl Tryz.underlying50 rfl (SlF.r h1)) ?_
  refine RG.pv rfl (PV.mvI (.inl rfl) rfl) ?_
  refine RG.nil ?_
  refine WP.block ?_
  refine WP.loop2 [3, 10, 11] (fun (i : Nat) (cs : List Bool) => i ≤ xs.length ∧ cs.length = 6400 ∧ ∀ y x, y < 80 → x < 80 → gb cs y x = (xs.take i).any fun s => s.xs.any fun r => inR r y x) (fun (i : Nat) (cs : List Bool) => [(12, vi i)]) (fun (i : Nat) (cs : List Bool) => grd b9 cs :: L) (fun (i : Nat) (cs : List Bool) => xs.length - i) 0 (List.replicate 6400 false) ⟨by omega, by simp, fun y x _ _ => by rw [gb_rep]; simp⟩ ⟨rfl, trivial⟩ Cv.p ?_
  rintro i cs τ ⟨hi, hl, hc⟩
  refine WP.seq ?_
  refine WP.region ?_
  refine RG.pv rfl (PV.lss rfl rfl rfl) ?_
  refine RG.nil ?_
  refine WP.seq ?_
  refine WP.cond rfl (fun h2 => ?_) (fun h2 => ?_)
  · have h2 := of_decide_eq_true h2
    have h3 : i < xs.length := by omega
    refine WP.bd (hd i h3) fun hb2 => ?_
    refine WP.skip ?_
    refine WP.seq ?_
    refine WP.block ?_
    refine WP.seq ?_
    refine WP.region ?_
    refine RG.pv rfl (PV.idxS (v := v) rfl Is50 rfl (SlF.r h1) rfl rfl (by omega)) ?_
    refine RG.pv rfl (PV.loadE1 rfl Sc35 rfl rfl (El.r h1 (getG (by omega))) rfl) ?_
    refine RG.pv rfl (PV.asg rfl rfl) ?_
    refine RG.nil ?_
    refine WP.seq ?_
    refine WP.region ?_
    refine RG.pv rfl (PV.move rfl rfl) ?_
    refine RG.pv rfl (PV.len rfl Tryz.underlying35 rfl (SlF.r (hd i h3))) ?_
    refine RG.pv rfl (PV.mvI (.inl rfl) rfl) ?_
    refine RG.nil ?_
    refine WP.block ?_
    refine WP.loop2 [3, 10, 11, 12, 16, 17] (fun (j : Nat) (ds : List Bool) => j ≤ (gd xs i).xs.length ∧ ds.length = 6400 ∧ ∀ y x, y < 80 → x < 80 → gb ds y x = (gb cs y x || ((gd xs i).xs.take j).any fun r => inR r y x)) (fun (j : Nat) (ds : List Bool) => [(18, vi j)]) (fun (j : Nat) (ds : List Bool) => grd b9 ds :: L) (fun (j : Nat) (ds : List Bool) => (gd xs i).xs.length - j) 0 cs ⟨by omega, hl, fun y x _ _ => by simp⟩ ⟨rfl, trivial⟩ Cv.p ?_
    rintro j ds τ1 ⟨hj, hl2, hc2⟩
    refine WP.seq ?_
    refine WP.region ?_
    refine RG.pv rfl (PV.lss rfl rfl rfl) ?_
    refine RG.nil ?_
    refine WP.seq ?_
    refine WP.cond rfl (fun h4 => ?_) (fun h4 => ?_)
    · have h4 := of_decide_eq_true h4
      refine WP.skip ?_
      refine WP.seq ?_
      refine WP.block ?_
      refine WP.seq ?_
      refine WP.region ?_
      refine RG.pv rfl (PV.idxS rfl Is35 rfl (SlF.r (hd i h3)) rfl rfl (by omega)) ?_
      refine RG.pv rfl (PV.loadE rfl Ag101 rfl rfl (El.r (hd i h3) (getG (by omega)))) ?_
      refine RG.ot rfl (OT.alloc rfl Zr101 fun b7 => ?_)
      refine RG.ot rfl (OT.storeW (vs := [vi _, vi _, vi _, vi _]) rfl Sz101 rfl rfl (Cl.c rfl) rfl rfl (OneC.c rfl) ?_)
      refine RG.nil ?_
      refine WP.region ?_
      refine RG.pv rfl (PV.mvP (.inl rfl) rfl) ?_
      refine RG.pv rfl (PV.loadW rfl Ag101 rfl rfl) ?_
      refine RG.callF (vs := [(.pointer (some ⟨b9, 0, none⟩)), _]) rfl rfl En185 rfl (CallT.exB (put_s (by assumption) (fun bs' hb' hg' => ?_)))
      refine RG.nil ?_
      refine WP.region ?_
      refine RG.pv rfl (PV.add rfl rfl rfl (by omega)) ?_
      refine RG.pv rfl (PV.mvI (.inl rfl) rfl) ?_
      refine RG.nil ?_
      refine ⟨rfl, j + 1, bs', ⟨by omega, hb', fun y x h5 h6 => ?_⟩, ⟨rfl, trivial⟩, ⟨rfl, rfl, rfl, rfl, rfl, rfl, trivial⟩, Cv.p, by omega⟩
      rw [hg' y x h5 h6, hc2 y x h5 h6, List.take_add_one, getG (by omega), List.any_append, Bool.or_assoc]; simp
    · have h4 := of_decide_eq_false h4
      refine WP.exit ?_
      refine WP.region ?_
      refine RG.pv rfl (PV.add rfl rfl rfl (by omega)) ?_
      refine RG.pv rfl (PV.mvI (.inl rfl) rfl) ?_
      refine RG.nil ?_
      refine ⟨rfl, i + 1, ds, ⟨by omega, hl2, fun y x h5 h6 => ?_⟩, ⟨rfl, trivial⟩, ⟨rfl, rfl, rfl, trivial⟩, Cv.p, by omega⟩
      rw [hc2 y x h5 h6, hc y x h5 h6, List.take_of_length_le (l := (gd xs i).xs) (by omega), List.take_add_one, getG h3, List.any_append]; simp
  · have h2 := of_decide_eq_false h2
    have e : cs = bits (er xs).flatten := bits_eq hl fun y x h5 h6 => by
      rw [hc y x h5 h6, List.take_of_length_le (by omega), List.any_flatten, er, List.any_map]; rfl
    subst e
    refine WP.exit ?_
    refine WP.seq ?_
    refine WP.region ?_
    refine RG.pv rfl (PV.mvP (.inl rfl) rfl) ?_
    refine RG.callF (vs := [(.pointer (some ⟨b9, 0, none⟩))]) rfl rfl En139 rfl (CallT.exB (region_s (bits_length _) (fun v28 => ?_)))
    refine RG.pv rfl (PV.asg (v := v28) rfl rfl) ?_
    refine RG.nil ?_
    refine WP.ret ?_
    exact ⟨_, _, ResV.one rfl rfl, Cv.p, k v28⟩
theorem changed_s {v u w : Value} {xs ys : List (Sl Rect)} {ks : List Nat} (h1 : Rs G L slT v xs) (hd : RsE G L rectT xs) (h2 : Rs G L slT u ys) (hd' : RsE G L rectT ys) (h3 : Rs G L intT w (ks.map Int.ofNat)) (hx : isLay (er xs) = true) (hy : isLay (er ys) = true) (hk' : (ks.all fun k => decide (k < 8)) = true) (hkl : ks.length ≤ 100)
    (k : ∀ v', R v' G (osl 101 rectT v' (canon (orL (er xs) (er ys) ks)) :: L)) : CallT Tryz.prog 108 #[v, u, w] G L R := by
  have h8 : xs.length = 8 := by have := isLay_len hx; rwa [er_len] at this
  have h8' : ys.length = 8 := by have := isLay_len hy; rwa [er_len] at this
  have hml : (ks.map Int.ofNat).length = ks.length := by simp
  have hk : ∀ i, i < ks.length → gd ks i < 8 := fun i hi => by
    have := List.all_eq_true.1 hk' _ (List.getElem_mem hi)
    rw [gd_eq hi]; simpa using this
  refine CallT.enter (args := _) Tryz.func108 rfl rfl (by kernel_rfl) rfl ?_
  refine WP.seq ?_
  refine WP.region ?_
  refine RG.pv rfl (PV.asg rfl rfl) ?_
  refine RG.nil ?_
  refine WP.seq ?_
  refine WP.region ?_
  refine RG.ot rfl (OT.bslice (F := (slT (α := Rect))) (els := []) rfl El50 rfl (by decide) rfl (by decide) trivial fun v10 => ?_)
  refine RG.pv rfl (PV.asg (v := v10) rfl rfl) ?_
  refine RG.nil ?_
  refine WP.seq ?_
  refine WP.seq ?_
  refine WP.region ?_
  refine RG.pv rfl (PV.move (v := w) rfl rfl) ?_
  refine RG.pv rfl (PV.len (v := w) rfl Tryz.underlying134 rfl (SlF.r h3)) ?_
  refine RG.pv rfl (PV.mvI (.inl rfl) rfl) ?_
  refine RG.nil ?_
  refine WP.block ?_
  refine WP.cv ((Cv.p (C := osl 35 slT v10 ([] : List (Sl Rect)) :: L)).trans (Cv.cons (Cv.bag0 (e := 101) (F := rectT) (xs := []) rfl))) ?_
  refine WP.loop3 [0, 1, 11, 12] (fun (i : Nat) (zs : List (Sl Rect)) (q : Value) => i ≤ ks.length ∧ er zs = (ks.take i).map fun k => canon (chgB (er xs) (er ys) k)) (fun (i : Nat) (zs : List (Sl Rect)) (q : Value) => [(13, vi i), (7, q)]) (fun (i : Nat) (zs : List (Sl Rect)) (q : Value) => osl 35 slT q zs :: bagS 101 rectT zs :: L) (fun (i : Nat) (zs : List (Sl Rect)) (q : Value) => ks.length - i) 0 [] v10 ⟨by omega, rfl⟩ ⟨rfl, rfl, trivial⟩ Cv.p ?_
  rintro i zs q τ ⟨hi, hz⟩
  refine WP.seq ?_
  refine WP.region ?_
  refine RG.pv rfl (PV.lss rfl rfl rfl) ?_
  refine RG.nil ?_
  refine WP.seq ?_
  have hzl : zs.length = i := by have := congrArg List.length hz; rw [er_len] at this; simp at this; omega
  refine WP.cond rfl (fun h4 => ?_) (fun h4 => ?_)
  · have h4 := of_decide_eq_true h4
    have h5 : i < ks.length := by omega
    have h6 := hk i h5
    have h7 : gd (ks.map Int.ofNat) i = ((gd ks i : Nat) : Int) := gd_map _ h5
    have h8k : isReg (gd xs (gd ks i)).xs = true ∧ isReg (gd ys (gd ks i)).xs = true := by
      rw [← er_gd, ← er_gd]; exact ⟨isLay_reg hx h6, isLay_reg hy h6⟩
    refine WP.skip ?_
    refine WP.seq ?_
    refine WP.block ?_
    refine WP.seq ?_
    refine WP.region ?_
    refine RG.pv rfl (PV.idxS (v := w) rfl Is134 rfl (SlF.r h3) rfl rfl (by omega)) ?_
    refine RG.pv rfl (PV.loadE1 rfl Sc2 rfl rfl (El.r h3 (getG (by omega))) rfl) ?_
    refine RG.pv rfl (PV.mvI (.inr rfl) rfl) ?_
    refine RG.nil ?_
    refine WP.regionHD [.s q] (.q 0 (.q 1 (.q 2 (.q 3 (.q 4 (.q 5 (.q 6 (.q 7 (.q 8 (.l 9 (.l 10 (.l 11 (.q 12 Sch.nil))))))))))))) (by kernel_rfl) (by kernel_rfl) (by kernel_rfl) rfl ?_
    refine RH.pv rfl (fun _ _ _ _ h => h) (Gh.le_refl _) PickC.pick rfl (PV.move (v := q) rfl rfl) ?_
    refine RH.pv rfl (fun _ _ _ _ h => h) (Gh.le_refl _) PickC.pick rfl (PV.move (v := v) rfl rfl) ?_
    refine RH.pv rfl (fun _ _ _ _ h => h) (Gh.le_refl _) PickC.pick rfl (PV.mvI (.inl rfl) rfl) ?_
    refine RH.pv rfl (fun _ _ _ _ h => h) (Gh.le_refl _) PickC.pick rfl (PV.idxS (j := gd ks i) (v := v) rfl Is50 rfl (SlF.r h1) rfl (by omega) (by omega)) ?_
    refine RH.pv rfl (fun _ _ _ _ h => h) (Gh.le_refl _) PickC.pick rfl (PV.loadE1 rfl Sc35 rfl rfl (El.r h1 (getG (by omega))) rfl) ?_
    refine RH.pv rfl (fun _ _ _ _ h => h) (Gh.le_refl _) PickC.pick rfl (PV.move (v := u) rfl rfl) ?_
    refine RH.pv rfl (fun _ _ _ _ h => h) (Gh.le_refl _) PickC.pick rfl (PV.mvI (.inl rfl) rfl) ?_
    refine RH.pv rfl (fun _ _ _ _ h => h) (Gh.le_refl _) PickC.pick rfl (PV.idxS (j := gd ks i) (v := u) rfl Is50 rfl (SlF.r h2) rfl (by omega) (by omega)) ?_
    refine RH.pv rfl (fun _ _ _ _ h => h) (Gh.le_refl _) PickC.pick rfl (PV.loadE1 rfl Sc35 rfl rfl (El.r h2 (getG (by omega))) rfl) ?_
    refine RH.ot rfl rfl (OT.callF (vs := [_, _]) rfl En164 rfl (symd_s (Rs.up (hd (gd ks i) (by omega))) (Rs.up (hd' (gd ks i) (by omega))) (fun v26 => ⟨Gh.le_refl _, PickC.pick, ?_⟩)))
    refine RH.ot rfl rfl (OT.bslice (F := (slT (α := Rect))) (els := [⟨v26, opR (fun p q => p != q) (gd xs (gd ks i)).xs (gd ys (gd ks i)).xs⟩]) rfl El50 rfl (by decide) rfl (by decide) ⟨rfl, (Cl.s (v := v26) SlF.o), trivial⟩ fun v27 => ⟨Gh.le_refl _, PickC.pick, ?_⟩)
    refine RH.ot rfl rfl (OT.append (v := q) (u := v27) (F := (slT (α := Rect))) rfl El50 rfl (by decide) rfl rfl Rs.o (OneL.one (OneC.sl SlF.o OneC.nil)) rfl (by first | omega | (simp <;> omega)) fun v28 => ⟨Gh.le_refl _, PickC.pick, ?_⟩)
    refine RH.pv rfl (fun _ _ _ _ h => h) (Gh.le_refl _) PickC.pick rfl (PV.asg (v := v28) rfl rfl) ?_
    refine RH.nil ?_
    refine WP.region ?_
    refine RG.pv rfl (PV.add rfl rfl rfl (by omega)) ?_
    refine RG.pv rfl (PV.mvI (.inl rfl) rfl) ?_
    refine RG.nil ?_
    refine ⟨rfl, i + 1, (zs ++ [⟨v26, opR (fun p q => p != q) (gd xs (gd ks i)).xs (gd ys (gd ks i)).xs⟩]), v28, ⟨by omega, ?_⟩, ⟨rfl, rfl, trivial⟩, ⟨rfl, rfl, rfl, rfl, trivial⟩, ((Cv.p (C := osl 35 slT v28 (zs ++ [⟨v26, opR (fun p q => p != q) (gd xs (gd ks i)).xs (gd ys (gd ks i)).xs⟩]) :: osl 101 rectT v26 (opR (fun p q => p != q) (gd xs (gd ks i)).xs (gd ys (gd ks i)).xs) :: bagS 101 rectT zs :: L)).trans (Cv.cons Cv.bagS_add)), by omega⟩
    have e : opR (fun p q => p != q) (gd xs (gd ks i)).xs (gd ys (gd ks i)).xs = canon (chgB (er xs) (er ys) (gd ks i)) := by rw [opR, h8k.1, h8k.2, chgB, er_gd, er_gd]; rfl
    rw [List.take_add_one, getG h5, List.map_append, ← hz, er, List.map_append]
    simp only [List.map_cons, List.map_nil, Option.toList_some, e]; rfl
  · have h4 := of_decide_eq_false h4
    have e : canon (orL (er xs) (er ys) ks) = canon (bits (er zs).flatten) := by
      rw [hz, List.take_of_length_le (by omega), bits_orL]
    rw [e] at k
    refine WP.exit ?_
    refine WP.seq ?_
    refine WP.region ?_
    refine RG.pv rfl (PV.move (v := q) rfl rfl) ?_
    refine RG.callF (vs := [q]) rfl rfl En165 rfl (unionAll_s Rs.o RsE.o (fun v31 => ?_))
    refine RG.pv rfl (PV.asg (v := v31) rfl rfl) ?_
    refine RG.nil ?_
    refine WP.ret ?_
    exact ⟨_, _, ResV.one rfl rfl, Cv.p, k v31⟩
def chgR (l m : List (List Rect)) : List Rect := bif isLay l && isLay m then canon (orL l m [0, 1, 2, 3, 4, 5, 6, 7]) else []
def chgE (l m : List (List Rect)) : Int := bif isLay l && isLay m then 0 else 1
theorem chgR_len (l m : List (List Rect)) : (chgR l m).length ≤ 3200 := by
  unfold chgR; cases isLay l && isLay m
  · simp
  · exact canon_len _
theorem RsN {α : Type} {F : FT α} : Rs G L F (.slice none 0 0) [] := fun w hs => ⟨⟨0, Nat.le_refl _, Nat.zero_le _, .inr ⟨⟨none, rfl⟩, rfl⟩⟩, fun j c h => by simp [FT.flat] at h⟩
theorem range_snoc (k : Nat) : List.range (k + 1) = List.range k ++ [k] := List.range_succ
end Go.Proofs.YtgngpegmaceaiaaGreat
namespace Go.Proofs.YtgngpegmaceaiaaGreat
set_option linter.unusedVariables false
set_option linter.unusedSimpArgs false
open Go
set_option maxRecDepth 20000
set_option linter.unusedSimpArgs false
variable {G : Gh} {L : List Ch} {R : Value → Gh → List Ch → Prop}
def regs (xs : List Piece) : List (Sl Rect) := xs.map Piece.reg
theorem regs_len (xs : List Piece) : (regs xs).length = xs.length := by simp [regs]
theorem regs_gd {xs : List Piece} {i : Nat} (h : i < xs.length) : gd (regs xs) i = (gd xs i).reg := gd_map _ h
theorem RsE.reg {xs : List Piece} (h : RsE G L rectT (regs xs)) {i : Nat} (hi : i < xs.length) : Rs G L rectT (gd xs i).reg.v (gd xs i).reg.xs := by
  have := h i (by rw [regs_len]; exact hi); rwa [regs_gd hi] at this
def erP (p : Piece) : Int × List Rect := (p.layer, p.reg.xs)
def erPs (xs : List Piece) : List (Int × List Rect) := xs.map erP
theorem erPs_len (xs : List Piece) : (erPs xs).length = xs.length := by simp [erPs]
theorem erPs_gd {xs : List Piece} {i : Nat} (h : i < xs.length) : gd (erPs xs) i = erP (gd xs i) := gd_map _ h
theorem erPs_get {xs ys : List Piece} (h : erPs xs = erPs ys) {i : Nat} (hi : i < ys.length) : erP (gd xs i) = erP (gd ys i) := by
  have hl : xs.length = ys.length := by rw [← erPs_len, ← erPs_len, h]
  rw [← erPs_gd (by omega), ← erPs_gd hi, h]
theorem erPs_of {xs ys : List Piece} (hl : xs.length = ys.length) (h : ∀ i, i < ys.length → erP (gd xs i) = erP (gd ys i)) : erPs xs = erPs ys := by
  apply List.ext_getElem?
  intro i
  by_cases hi : i < ys.length
  · rw [getG (by rw [erPs_len]; omega), getG (by rw [erPs_len]; omega), erPs_gd (by omega), erPs_gd hi, h i hi]
  · rw [List.getElem?_eq_none (by rw [erPs_len]; omega), List.getElem?_eq_none (by rw [erPs_len]; omega)]
theorem erPs_regs {xs ys : List Piece} (h : erPs xs = erPs ys) : er (regs xs) = er (regs ys) := by
  have : ∀ zs : List Piece, er (regs zs) = (erPs zs).map Prod.snd := fun zs => by simp [er, regs, erPs, erP, Function.comp_def]
  rw [this, this, h]
def netC (l : List (List Rect)) : Int := bif l.all isReg then costL areaS l else -1
theorem netC_false {l : List (List Rect)} {i : Nat} (h : i < l.length) (e : isReg (gd l i) = false) : netC l = -1 := by
  have : l.all isReg = false := by
    rw [List.all_eq_false]; exact ⟨gd l i, by rw [gd_eq h]; exact List.getElem_mem _, by simp [e]⟩
  simp [netC, this]
theorem netC_all {l : List (List Rect)} (h : ∀ i, i < l.length → isReg (gd l i) = true) : netC l = costL areaS l := by
  have : l.all isReg = true := by
    rw [List.all_eq_true]
    intro x hx
    obtain ⟨j, hj', rfl⟩ := List.getElem_of_mem hx
    rw [← gd_eq hj']; exact h j hj'
  simp [netC, this]
theorem areaS_reg {xs : List Rect} (h : isReg xs = true) : areaS xs = cnt (bits xs) := by
  have := cnt_canon (bits_length xs); rwa [isReg_eq h] at this
theorem area_bnd {l : List (List Rect)} (h : ∀ i, i < l.length → isReg (gd l i) = true) : ∀ i, i ≤ l.length → 0 ≤ costL areaS (l.take i) ∧ costL areaS (l.take i) ≤ 6400 * i
  | 0, _ => by simp [costL]
  | i + 1, hi => by
    have ih := area_bnd h i (by omega)
    have h1 := areaS_reg (h i (by omega))
    have h2 := cnt_le (bits (gd l i))
    rw [bits_length] at h2
    rw [costL_take _ (by omega), h1]; omega
theorem l19Count_s {v : Value} {bs : List Bool} (h1 : Rs G L boolT v bs) (hl : bs.length = 6400) (k : R (vi (cnt bs)) G L) : CallT Tryz.prog 173 #[v] G L R := by
  refine CallT.enter (args := _) Tryz.func173 rfl rfl (by kernel_rfl) rfl ?_
  refine WP.seq ?_
  refine WP.region ?_
  refine RG.pv rfl (PV.mvI (.inr rfl) rfl) ?_
  refine RG.nil ?_
  refine WP.seq ?_
  refine WP.region ?_
  refine RG.pv rfl (PV.mvI (.inr rfl) rfl) ?_
  refine RG.nil ?_
  refine WP.seq ?_
  refine WP.seq ?_
  refine WP.region ?_
  refine RG.pv rfl (PV.mvI (.inr rfl) rfl) ?_
  refine RG.nil ?_
  refine WP.block ?_
  refine WP.loop2 [0] (fun (i : Nat) (m : Int) => i ≤ bs.length ∧ m = cnt (bs.take i)) (fun (i : Nat) (m : Int) => [(4, vi i), (3, vi m)]) (fun (i : Nat) (m : Int) => L) (fun (i : Nat) (m : Int) => bs.length - i) 0 0 ⟨by omega, by simp [cnt]⟩ ⟨rfl, rfl, trivial⟩ Cv.p ?_
  rintro i m τ ⟨hi, hm⟩
  refine WP.seq ?_
  refine WP.seq ?_
  refine WP.region ?_
  refine RG.pv rfl (PV.mvI (.inl rfl) rfl) ?_
  refine RG.pv rfl (PV.move (v := v) rfl rfl) ?_
  refine RG.pv rfl (PV.len (v := v) rfl Tryz.underlying149 rfl (SlF.r h1)) ?_
  refine RG.pv rfl (PV.lss rfl rfl rfl) ?_
  refine RG.nil ?_
  refine WP.cond rfl (fun h2 => ?_) (fun h2 => ?_)
  · have h2 := of_decide_eq_true h2
    have hct := cnt_take (bs := bs) (i := i) (by omega)
    have hcb := cnt_le (bs.take i)
    have hcl : (bs.take i).length ≤ 6400 := by simp; omega
    refine WP.skip ?_
    refine WP.seq ?_
    refine WP.block ?_
    refine WP.seq ?_
    refine WP.region ?_
    refine RG.pv rfl (PV.move (v := v) rfl rfl) ?_
    refine RG.pv rfl (PV.mvI (.inl rfl) rfl) ?_
    refine RG.pv rfl (PV.idxS (v := v) rfl Is149 rfl (SlF.r h1) rfl rfl (by omega)) ?_
    refine RG.pv rfl (PV.loadE1 rfl Sc4 rfl rfl (El.r h1 (getG (by omega))) rfl) ?_
    refine RG.nil ?_
    refine WP.cond rfl (fun h3 => ?_) (fun h3 => ?_)
    · rw [h3] at hct
      refine WP.region ?_
      refine RG.pv rfl (PV.mvI (.inl rfl) rfl) ?_
      refine RG.pv rfl (PV.add rfl rfl rfl (by omega)) ?_
      refine RG.pv rfl (PV.mvI (.inr rfl) rfl) ?_
      refine RG.nil ?_
      refine WP.region ?_
      refine RG.pv rfl (PV.mvI (.inl rfl) rfl) ?_
      refine RG.pv rfl (PV.add rfl rfl rfl (by omega)) ?_
      refine RG.pv rfl (PV.mvI (.inr rfl) rfl) ?_
      refine RG.nil ?_
      exact ⟨rfl, i + 1, _, ⟨by omega, by simp only [cond_true] at hct; omega⟩, ⟨rfl, rfl, trivial⟩, ⟨rfl, trivial⟩, Cv.p, by omega⟩
    · rw [h3] at hct
      refine WP.skip ?_
      refine WP.region ?_
      refine RG.pv rfl (PV.mvI (.inl rfl) rfl) ?_
      refine RG.pv rfl (PV.add rfl rfl rfl (by omega)) ?_
      refine RG.pv rfl (PV.mvI (.inr rfl) rfl) ?_
      refine RG.nil ?_
      exact ⟨rfl, i + 1, _, ⟨by omega, by simp only [cond_false] at hct; omega⟩, ⟨rfl, rfl, trivial⟩, ⟨rfl, trivial⟩, Cv.p, by omega⟩
  · have h2 := of_decide_eq_false h2
    have e : m = cnt bs := by rw [hm, List.take_of_length_le (by omega)]
    rw [← e] at k
    refine WP.exit ?_
    refine WP.seq ?_
    refine WP.region ?_
    refine RG.pv rfl (PV.mvI (.inl rfl) rfl) ?_
    refine RG.pv rfl (PV.mvI (.inr rfl) rfl) ?_
    refine RG.nil ?_
    refine WP.ret ?_
    exact ⟨_, _, ResV.one rfl rfl, Cv.p, k⟩
theorem erregs_gd {xs : List Piece} {i : Nat} (h : i < xs.length) : gd (er (regs xs)) i = (gd xs i).reg.xs := by rw [er_gd, regs_gd h]
end Go.Proofs.YtgngpegmaceaiaaGreat
namespace Go.Proofs.YtgngpegmaceaiaaGreat
set_option linter.unusedVariables false
set_option linter.unusedSimpArgs false
open Go
set_option maxRecDepth 20000
set_option linter.unusedSimpArgs false
variable {G : Gh} {L : List Ch} {R : Value → Gh → List Ch → Prop}
theorem clone_rects {v : Value} {xs : List (Rect)} (h1 : Rs G L rectT v xs) (hb : xs.length ≤ 1048576) (k : ∀ v', R v' G (osl 101 rectT v' xs :: L)) : CallT Tryz.prog 153 #[v] G L R := by
  refine CallT.st (fun w hs => isNilS_nil h1 hs) fun hn => ?_
  refine CallT.enter (args := _) Tryz.func153 rfl rfl (by kernel_rfl) rfl ?_
  refine WP.seq ?_
  refine WP.region ?_
  refine RG.pv rfl (PV.asg rfl rfl) ?_
  refine RG.nil ?_
  refine WP.seq ?_
  refine WP.seq ?_
  refine WP.region ?_
  refine RG.pv rfl (PV.move (v := v) rfl rfl) ?_
  refine RG.pv rfl (PV.eqlNil rfl Tryz.underlying35 rfl (SlF.r h1)) ?_
  refine RG.nil ?_
  refine WP.cond rfl (fun h2 => ?_) (fun h2 => ?_)
  · have e := hn h2
    rw [e] at k
    refine WP.seq ?_
    refine WP.region ?_
    refine RG.pv rfl (PV.asg rfl rfl) ?_
    refine RG.nil ?_
    refine WP.ret ?_
    exact ⟨_, _, ResV.one rfl rfl, Cv.nilS, k _⟩
  · refine WP.skip ?_
    refine WP.seq ?_
    refine WP.region ?_
    refine RG.ot rfl (OT.bslice (F := rectT) (els := []) rfl El35 rfl (by decide) rfl (by decide) trivial fun v5 => ?_)
    refine RG.pv rfl (PV.move (v := v) rfl rfl) ?_
    refine RG.ot rfl (OT.append (v := v5) (u := v) (F := rectT) rfl El35 rfl (by decide) rfl rfl (Rs.up h1) (OneL.c (fun _ => rfl)) rfl (by first | omega | (simp <;> omega)) fun v7 => ?_)
    refine RG.pv rfl (PV.asg (v := v7) rfl rfl) ?_
    refine RG.nil ?_
    refine WP.ret ?_
    exact ⟨_, _, ResV.one rfl rfl, (Cv.eqS (List.nil_append _)), k v7⟩
def condB (l : List (List Rect)) : List (List Bool) := [zipB (fun p q => p && !q) (bits (gd l 0)) (bits (gd l 1)), bits (gd l 1), bits (gd l 3), bits (gd l 5)]
def condR (l : List (List Rect)) : List (List Rect) := bif isLay l then (condB l).map canon else []
theorem condB_len (l : List (List Rect)) {i : Nat} (h : i < 4) : (gd (condB l) i).length = 6400 := by
  have h0 : ∀ xs, (bits xs).length = 6400 := bits_length
  match i, h with
  | 0, _ => simp [condB, gd, zipB, h0]
  | 1, _ => simp [condB, gd, h0]
  | 2, _ => simp [condB, gd, h0]
  | 3, _ => simp [condB, gd, h0]
theorem condR_eq {l : List (List Rect)} (h : isLay l = true) : condR l = [opR (fun p q => p && !q) (gd l 0) (gd l 1), gd l 1, gd l 3, gd l 5] := by
  simp only [condR, h, cond_true, condB, List.map_cons, List.map_nil, opR, isLay_reg h (show 0 < 8 by omega), isLay_reg h (show 1 < 8 by omega), Bool.and_self, isReg_eq (isLay_reg h (show 1 < 8 by omega)), isReg_eq (isLay_reg h (show 3 < 8 by omega)), isReg_eq (isLay_reg h (show 5 < 8 by omega))]
theorem condR_bd (l : List (List Rect)) : costL (costL nRect) (condR l) ≤ 51200 := by
  unfold condR
  cases isLay l
  · simp [costL]
  · have h := fun bs => canon_len bs
    simp only [cond_true, condB, List.map_cons, List.map_nil, costL, nRect_cost]
    have h1 := h (zipB (fun p q => p && !q) (bits (gd l 0)) (bits (gd l 1)))
    have h2 := h (bits (gd l 1)); have h3 := h (bits (gd l 3)); have h4 := h (bits (gd l 5))
    omega
theorem nRS_er (xs : List (Sl Rect)) : costL nRS xs = costL (costL nRect) (er xs) := by
  induction xs with
  | nil => rfl
  | cons z zs ih => simp only [er, List.map_cons, costL] at ih ⊢; rw [ih]; rfl
end Go.Proofs.YtgngpegmaceaiaaGreat
namespace Go.Proofs.YtgngpegmaceaiaaGreat
set_option linter.unusedVariables false
set_option linter.unusedSimpArgs false
open Go
set_option maxRecDepth 20000
set_option linter.unusedSimpArgs false
variable {G : Gh} {L : List Ch} {R : Value → Gh → List Ch → Prop}
/-- the pieces of the first n conductors: each with its layer -/
noncomputable def pcL (l : List (List Rect)) (n : Nat) : List (Int × List Bool) := ((List.range n).map fun i => (comps (gd (condB l) i)).map fun c => (gd [0, 1, 3, 5] i, c)).flatten
theorem pcL_succ (l : List (List Rect)) (n : Nat) : pcL l (n + 1) = pcL l n ++ (comps (gd (condB l) n)).map fun c => (gd [0, 1, 3, 5] n, c) := by
  simp [pcL, List.range_succ]
theorem comps_len (S : List Bool) : (comps S).length ≤ 6400 := by
  have := firsts_len S 6400
  simpa [comps] using this
theorem pcL_len (l : List (List Rect)) : ∀ n, (pcL l n).length ≤ 6400 * n
  | 0 => by simp [pcL]
  | n + 1 => by
    have h1 := pcL_len l n
    have h2 := comps_len (gd (condB l) n)
    rw [pcL_succ, List.length_append, List.length_map]; omega
def pcR (p : Int × List Bool) : Int × List Rect := (p.1, canon p.2)
theorem regs_append (xs ys : List Piece) : regs (xs ++ ys) = regs xs ++ regs ys := by simp [regs]
theorem drop_gd {α : Type} [Inhabited α] {xs : List α} {i : Nat} (h : i < xs.length) : xs.drop i = gd xs i :: xs.drop (i + 1) := by rw [List.drop_eq_getElem_cons h, gd_eq h]
theorem gd_app_at {α : Type} [Inhabited α] {xs ys : List α} {i : Nat} : gd (xs ++ ys) (xs.length + i) = gd ys i := by simp [gd, List.getElem?_append_right]
/-- a list whose parts lie at the end of a bag -/
theorem RsE.right {α : Type} {G : Gh} {L L' : List Ch} {e : TypeId} {F : FT α} {ws xs : List (Sl α)} [hX : ExBg (ws ++ xs) L e F L'] : RsE G L F xs := fun i hi => by
  have := Rs.inBag (G := G) (L := L) (L' := L') (e := e) (F := F) (xs := ws ++ xs) (ws.length + i) (by simp; omega)
  rwa [gd_app_at] at this
theorem Rs.inRight {α : Type} {G : Gh} {L L' : List Ch} {e : TypeId} {F : FT α} {ws xs : List (Sl α)} (j : Nat) (hj : j < xs.length) [hX : ExBg (ws ++ xs) L e F L'] : Rs G L F (gd xs j).v (gd xs j).xs := RsE.right (L := L) (L' := L') (e := e) (ws := ws) j hj
theorem WP.sl {α : Type} {P : Program} {n : Nat} {c : Code} {Q : Post} {σ : Nat → Value} {G : Gh} {L : List Ch} {F : FT α} {v : Value} {xs : List α} (h : Rs G L F v xs) (k : IsSl v xs.length → WP P n c Q σ G L) : WP P n c Q σ G L := WP.of fun hk _ _ ha hs => (k (h _ hs).1).run hk ha hs
theorem SlF.i {G : Gh} {L : List Ch} {v : Value} {m : Nat} (h : IsSl v m) : SlF G L v m := fun _ _ => h
theorem Cv.pre {L L' : List Ch} (h : Cv L L') : ∀ A : List Ch, Cv (A ++ L) (A ++ L')
  | [] => h
  | _ :: A => Cv.cons (Cv.pre h A)
theorem Cv.bagJoin {α : Type} {e : TypeId} {F : FT α} {xs ys : List (Sl α)} {L : List Ch} : Cv (bagS e F xs :: bagS e F ys :: L) (bagS e F (xs ++ ys) :: L) := by
  unfold bagS
  refine Cv.ofBag.trans ((Cv.pre Cv.ofBag _).trans ?_)
  rw [← List.append_assoc, ← List.map_append]
  exact Cv.toBag
def mkP (n : Int) (s : Sl Rect) : Piece := ⟨n, s⟩
theorem regs_mkP (n : Int) (zs : List (Sl Rect)) : regs (zs.map (mkP n)) = zs := by simp [regs, mkP, Function.comp_def]
def cels (xs : List Part) : List (Sl Bool) := xs.map Part.cells
theorem cels_append (xs ys : List Part) : cels (xs ++ ys) = cels xs ++ cels ys := by simp [cels]
def erC (p : Part) : Int × List Bool := (p.layer, p.cells.xs)
def mkC (n : Int) (s : Sl Bool) : Part := ⟨n, s⟩
theorem cels_mkC (n : Int) (zs : List (Sl Bool)) : cels (zs.map (mkC n)) = zs := by simp [cels, mkC, Function.comp_def]
noncomputable def pcE (l : List (List Rect)) : List (Int × List Rect) := bif isLay l then (pcL l 4).map pcR else []
theorem cels_len (xs : List Part) : (cels xs).length = xs.length := by simp [cels]
theorem cels_gd {xs : List Part} {i : Nat} (h : i < xs.length) : gd (cels xs) i = (gd xs i).cells := gd_map _ h
theorem Rs.inCels {G : Gh} {L L' : List Ch} {e : TypeId} {xs : List Part} (i : Nat) (hi : i < xs.length) [hX : ExBg (cels xs) L e boolT L'] : Rs G L boolT (gd xs i).cells.v (gd xs i).cells.xs := by
  have := Rs.inBag (G := G) (L := L) (L' := L') (e := e) (F := boolT) (xs := cels xs) i (by rw [cels_len]; exact hi)
  rwa [cels_gd hi] at this
theorem comps_mem {S : List Bool} {c : List Bool} (h : c ∈ comps S) : c.length = 6400 := by
  obtain ⟨j, _, rfl⟩ := List.mem_map.1 h; exact compB_len _ _
theorem pcL_mem {l : List (List Rect)} {n : Nat} {p : Int × List Bool} (h : p ∈ pcL l n) : p.2.length = 6400 := by
  obtain ⟨m, h1, h2⟩ := List.mem_flatten.1 h
  obtain ⟨i, _, rfl⟩ := List.mem_map.1 h1
  obtain ⟨c, hc, rfl⟩ := List.mem_map.1 h2
  exact comps_mem hc
end Go.Proofs.YtgngpegmaceaiaaGreat
namespace Go.Proofs.YtgngpegmaceaiaaGreat
set_option linter.unusedVariables false
set_option linter.unusedSimpArgs false
open Go
set_option linter.unusedSimpArgs false
theorem costL_bd {α : Type} {n : α → Int} {B : Int} : ∀ {xs : List α}, (∀ x ∈ xs, n x ≤ B) → costL n xs ≤ B * xs.length
  | [], _ => by simp [costL]
  | x :: xs, h => by
    have h1 := h x (.head _)
    have h2 := costL_bd (xs := xs) fun y hy => h y (.tail _ hy)
    simp only [costL, List.length_cons]; rw [Int.natCast_succ, Int.mul_add]; omega
def cmn (a b : Rect) : Rect := ⟨max a.x0 b.x0, max a.y0 b.y0, min a.x1 b.x1, min a.y1 b.y1⟩
def ovl (a b : Rect) : Bool := validRect a && validRect b && validRect (cmn a b)
def meetB (a b : List Rect) : Bool := a.any fun x => b.any fun y => ovl x y
def meetIn (a b c : List Rect) : Bool := a.any fun x => b.any fun y => validRect (cmn x y) && meetB [cmn x y] c
theorem validR_iff {r : Rect} : validRect r = true ↔ -40 ≤ r.x0 ∧ r.x0 < r.x1 ∧ r.x1 ≤ 40 ∧ -40 ≤ r.y0 ∧ r.y0 < r.y1 ∧ r.y1 ≤ 40 := by simp [validRect, and_assoc]
theorem inR_iff {r : Rect} {y x : Nat} : inR r y x = true ↔ r.x0 + 40 ≤ x ∧ (x : Int) < r.x1 + 40 ∧ r.y0 + 40 ≤ y ∧ (y : Int) < r.y1 + 40 := by simp [inR, and_assoc]
theorem inR_cmn {a b : Rect} {y x : Nat} : inR (cmn a b) y x = true ↔ inR a y x = true ∧ inR b y x = true := by
  simp only [inR_iff, cmn]; omega
theorem valid_cell {r : Rect} (h : validRect r = true) : ∃ y x, y < 80 ∧ x < 80 ∧ inR r y x = true := by
  rw [validR_iff] at h
  exact ⟨(r.y0 + 40).toNat, (r.x0 + 40).toNat, by omega, by omega, inR_iff.2 (by omega)⟩
theorem inR_lt {r : Rect} (h : validRect r = true) {y x : Nat} (hi : inR r y x = true) : y < 80 ∧ x < 80 := by
  rw [validR_iff] at h; rw [inR_iff] at hi; omega
theorem cmn_valid {a b : Rect} (ha : validRect a = true) (hb : validRect b = true) {y x : Nat} (h1 : inR a y x = true) (h2 : inR b y x = true) : validRect (cmn a b) = true := by
  rw [validR_iff] at *; rw [inR_iff] at h1 h2; simp only [cmn]; omega
theorem ovl_iff {a b : Rect} (ha : validRect a = true) (hb : validRect b = true) : ovl a b = true ↔ ∃ y x, y < 80 ∧ x < 80 ∧ inR a y x = true ∧ inR b y x = true := by
  simp only [ovl, ha, hb, Bool.true_and]
  constructor
  · intro h
    obtain ⟨y, x, h1, h2, h3⟩ := valid_cell h
    exact ⟨y, x, h1, h2, inR_cmn.1 h3⟩
  · rintro ⟨y, x, _, _, h1, h2⟩; exact cmn_valid ha hb h1 h2
theorem valid_mem {xs : List Rect} (h : validRs xs = true) {r : Rect} (hr : r ∈ xs) : validRect r = true := by
  simp only [validRs, Bool.and_eq_true, List.all_eq_true] at h; exact h.2 r hr
theorem gb_bits_iff {rs : List Rect} {y x : Nat} (hy : y < 80) (hx : x < 80) : gb (bits rs) y x = true ↔ ∃ r ∈ rs, inR r y x = true := by
  rw [gb_bits' rs hy hx, List.any_eq_true]
theorem meetB_iff {a b : List Rect} (ha : validRs a = true) (hb : validRs b = true) : meetB a b = true ↔ ∃ y x, y < 80 ∧ x < 80 ∧ gb (bits a) y x = true ∧ gb (bits b) y x = true := by
  simp only [meetB, List.any_eq_true]
  constructor
  · rintro ⟨p, hp, q, hq, h⟩
    obtain ⟨y, x, hy, hx, h1, h2⟩ := (ovl_iff (valid_mem ha hp) (valid_mem hb hq)).1 h
    exact ⟨y, x, hy, hx, (gb_bits_iff hy hx).2 ⟨p, hp, h1⟩, (gb_bits_iff hy hx).2 ⟨q, hq, h2⟩⟩
  · rintro ⟨y, x, hy, hx, h1, h2⟩
    obtain ⟨p, hp, h3⟩ := (gb_bits_iff hy hx).1 h1
    obtain ⟨q, hq, h4⟩ := (gb_bits_iff hy hx).1 h2
    exact ⟨p, hp, q, hq, (ovl_iff (valid_mem ha hp) (valid_mem hb hq)).2 ⟨y, x, hy, hx, h3, h4⟩⟩
/-- three sets have a common cell -/
def mt (A B C : List Bool) : Bool := (List.range 6400).any fun n => gd A n && gd B n && gd C n
theorem mt_iff {A B C : List Bool} : mt A B C = true ↔ ∃ y x, y < 80 ∧ x < 80 ∧ gb A y x = true ∧ gb B y x = true ∧ gb C y x = true := by
  simp only [mt, List.any_eq_true, List.mem_range, Bool.and_eq_true, gb]
  constructor
  · rintro ⟨n, hn, ⟨h1, h2⟩, h3⟩
    have e : n / 80 * 80 + n % 80 = n := by omega
    exact ⟨n / 80, n % 80, by omega, by omega, by rw [e]; exact h1, by rw [e]; exact h2, by rw [e]; exact h3⟩
  · rintro ⟨y, x, hy, hx, h1, h2, h3⟩
    exact ⟨y * 80 + x, by omega, ⟨h1, h2⟩, h3⟩
theorem meetIn_iff {a b c : List Rect} (ha : validRs a = true) (hb : validRs b = true) (hc : validRs c = true) : meetIn a b c = mt (bits a) (bits b) (bits c) := by
  rw [Bool.eq_iff_iff, mt_iff]
  simp only [meetIn, List.any_eq_true, Bool.and_eq_true]
  constructor
  · rintro ⟨p, hp, q, hq, h, h'⟩
    have h1 : validRs [cmn p q] = true := by simp [validRs, h]
    obtain ⟨y, x, hy, hx, h2, h3⟩ := (meetB_iff h1 hc).1 h'
    obtain ⟨r, hr, h4⟩ := (gb_bits_iff hy hx).1 h2
    obtain rfl : r = cmn p q := by simpa using hr
    obtain ⟨h5, h6⟩ := inR_cmn.1 h4
    exact ⟨y, x, hy, hx, (gb_bits_iff hy hx).2 ⟨p, hp, h5⟩, (gb_bits_iff hy hx).2 ⟨q, hq, h6⟩, h3⟩
  · rintro ⟨y, x, hy, hx, h1, h2, h3⟩
    obtain ⟨p, hp, h4⟩ := (gb_bits_iff hy hx).1 h1
    obtain ⟨q, hq, h5⟩ := (gb_bits_iff hy hx).1 h2
    have h := cmn_valid (valid_mem ha hp) (valid_mem hb hq) h4 h5
    have h6 : validRs [cmn p q] = true := by simp [validRs, h]
    exact ⟨p, hp, q, hq, h, (meetB_iff h6 hc).2 ⟨y, x, hy, hx, (gb_bits_iff hy hx).2 ⟨_, .head _, inR_cmn.2 ⟨h4, h5⟩⟩, h3⟩⟩
def jnO (l : List (List Rect)) (p q : Int × List Rect) : Bool := bif decide (q.1 = 3) && decide (p.1 < 3) then meetIn p.2 q.2 (gd l 2) else decide (p.1 = 3) && decide (q.1 = 5) && meetIn p.2 q.2 (gd l 4)
def jnI (l : List (List Rect)) (p q : Int × List Rect) : Bool := bif decide (q.1 < p.1) then jnO l q p else jnO l p q
def jnR (p q : Int × List Bool) (C V : List Bool) : Bool := (List.range 6400).any fun n => gd p.2 n && gd q.2 n && (gd C n && (decide (p.1 = 3) || decide (q.1 = 3)) && !(decide (p.1 = 5) || decide (q.1 = 5)) || gd V n && (decide (p.1 = 3) || decide (q.1 = 3)) && (decide (p.1 = 5) || decide (q.1 = 5)))
theorem jnR_eq (p q : Int × List Bool) (C V : List Bool) : jnR p q C V = ((decide (p.1 = 3) || decide (q.1 = 3)) && !(decide (p.1 = 5) || decide (q.1 = 5)) && mt p.2 q.2 C || (decide (p.1 = 3) || decide (q.1 = 3)) && (decide (p.1 = 5) || decide (q.1 = 5)) && mt p.2 q.2 V) := by
  simp only [jnR, mt]
  cases (decide (p.1 = 3) || decide (q.1 = 3)) <;> cases (decide (p.1 = 5) || decide (q.1 = 5)) <;> simp
def isL (n : Int) : Prop := n = 0 ∨ n = 1 ∨ n = 3 ∨ n = 5
theorem mt_comm (A B C : List Bool) : mt A B C = mt B A C := by
  simp only [mt]; congr 1; funext n; cases gd A n <;> cases gd B n <;> rfl
/-- joined, told by cells -/
def jnL (l : List (List Rect)) (p q : Int × List Bool) : Bool := !decide (p.1 = q.1) && jnR p q (bits (gd l 2)) (bits (gd l 4))
theorem jn_eq {l : List (List Rect)} (hl : isLay l = true) {p q : Int × List Bool} (hp : isL p.1) (hq : isL q.1) (hp2 : p.2.length = 6400) (hq2 : q.2.length = 6400) : jnI l (pcR p) (pcR q) = jnL l p q := by
  have h2 := isReg_valid (isLay_reg hl (i := 2) (by omega))
  have h4 := isReg_valid (isLay_reg hl (i := 4) (by omega))
  have hP := isReg_valid (isReg_canon hp2)
  have hQ := isReg_valid (isReg_canon hq2)
  have a1 := meetIn_iff hP hQ h2; have a2 := meetIn_iff hP hQ h4; have a3 := meetIn_iff hQ hP h2; have a4 := meetIn_iff hQ hP h4
  rw [bits_canon hp2, bits_canon hq2] at a1 a2 a3 a4
  rw [mt_comm] at a3 a4
  simp only [jnL, jnR_eq, jnI, jnO, pcR, a1, a2, a3, a4]
  obtain ⟨x, P⟩ := p; obtain ⟨y, Q⟩ := q
  simp only at hp hq ⊢
  rcases hp with rfl | rfl | rfl | rfl <;> rcases hq with rfl | rfl | rfl | rfl <;> simp
theorem isL_lay {i : Nat} (h : i < 4) : isL (gd [0, 1, 3, 5] i) := by
  rcases (by omega : i = 0 ∨ i = 1 ∨ i = 2 ∨ i = 3) with rfl | rfl | rfl | rfl <;> simp [isL, gd]
theorem pcL_isL {l : List (List Rect)} {p : Int × List Bool} (h : p ∈ pcL l 4) : isL p.1 := by
  obtain ⟨m, h1, h2⟩ := List.mem_flatten.1 h
  obtain ⟨i, hi, rfl⟩ := List.mem_map.1 h1
  obtain ⟨c, hc, rfl⟩ := List.mem_map.1 h2
  exact isL_lay (List.mem_range.1 hi)
def rl (lo hi c : Int) : Int := if c = hi then lo else c
def stepJ (J : Nat → Nat → Bool) (i : Nat) (cls : List Int) (k : Nat) : List Int := if gd cls k = gd cls i ∨ J k i = false then cls else cls.map (rl (min (gd cls k) (gd cls i)) (max (gd cls k) (gd cls i)))
def inJ (J : Nat → Nat → Bool) (i : Nat) (cls : List Int) (k : Nat) : List Int := (List.range k).foldl (stepJ J i) (cls ++ [(i : Int)])
def rootsJ (J : Nat → Nat → Bool) : Nat → List Int
  | 0 => []
  | i + 1 => inJ J i (rootsJ J i) i
theorem inJ_zero (J : Nat → Nat → Bool) (i : Nat) (cls : List Int) : inJ J i cls 0 = cls ++ [(i : Int)] := rfl
theorem inJ_succ (J : Nat → Nat → Bool) (i : Nat) (cls : List Int) (k : Nat) : inJ J i cls (k + 1) = stepJ J i (inJ J i cls k) k := by simp [inJ, List.range_succ]
theorem stepJ_len (J : Nat → Nat → Bool) (i : Nat) (cls : List Int) (k : Nat) : (stepJ J i cls k).length = cls.length := by
  unfold stepJ; split <;> simp
theorem inJ_len (J : Nat → Nat → Bool) (i : Nat) (cls : List Int) : ∀ k, (inJ J i cls k).length = cls.length + 1
  | 0 => by simp [inJ_zero]
  | k + 1 => by rw [inJ_succ, stepJ_len, inJ_len J i cls k]
theorem rootsJ_len (J : Nat → Nat → Bool) : ∀ n, (rootsJ J n).length = n
  | 0 => rfl
  | n + 1 => by rw [rootsJ, inJ_len, rootsJ_len J n]
/-- each class is told by its first member -/
def Rt (cls : List Int) : Prop := ∀ j, j < cls.length → 0 ≤ gd cls j ∧ gd cls j ≤ j ∧ gd cls (gd cls j).toNat = gd cls j
theorem Rt.app {cls : List Int} (h : Rt cls) : Rt (cls ++ [(cls.length : Int)]) := fun j hj => by
  have hj : j < cls.length + 1 := by simpa using hj
  by_cases e : j = cls.length
  · subst e
    rw [gd_app_r]; refine ⟨by omega, by omega, ?_⟩
    rw [Int.toNat_natCast, gd_app_r]
  · have hj : j < cls.length := by omega
    obtain ⟨h1, h2, h3⟩ := h j hj
    rw [gd_app_l hj]
    exact ⟨h1, h2, by rw [gd_app_l (by omega)]; exact h3⟩
theorem Rt.map {cls : List Int} (h : Rt cls) {lo hi : Int} (hl : lo < hi) {k : Nat} (hk : k < cls.length) (hlo : gd cls k = lo) : Rt (cls.map (rl lo hi)) := fun j hj => by
  have hj : j < cls.length := by simpa using hj
  obtain ⟨h1, h2, h3⟩ := h j hj
  obtain ⟨g1, g2, g3⟩ := h k hk
  rw [gd_map _ hj]
  unfold rl
  split
  · rename_i e
    refine ⟨by omega, by omega, ?_⟩
    rw [gd_map _ (by omega), hlo] at *
    rw [g3, if_neg (by omega)]
  · rename_i e
    refine ⟨h1, h2, ?_⟩
    rw [gd_map _ (by omega), h3, if_neg e]
theorem Rt.step {cls : List Int} (h : Rt cls) {J : Nat → Nat → Bool} {i k : Nat} (hi : i < cls.length) (hk : k < cls.length) : Rt (stepJ J i cls k) := by
  unfold stepJ
  split
  · exact h
  · rename_i e
    rw [not_or] at e
    by_cases c : gd cls k < gd cls i
    · exact h.map (by omega) hk (by omega)
    · exact h.map (k := i) (by omega) hi (by omega)
theorem Rt.inJ {J : Nat → Nat → Bool} {cls : List Int} (h : Rt cls) : ∀ k, k ≤ cls.length → Rt (inJ J cls.length cls k)
  | 0, _ => by rw [inJ_zero]; exact h.app
  | k + 1, hk => by
    rw [inJ_succ]
    exact (Rt.inJ h k (by omega)).step (by rw [inJ_len]; omega) (by rw [inJ_len]; omega)
theorem rt_roots (J : Nat → Nat → Bool) : ∀ n, Rt (rootsJ J n)
  | 0 => fun j hj => by simp [rootsJ] at hj
  | n + 1 => by
    have := (rt_roots J n).inJ (J := J) n (by rw [rootsJ_len]; omega)
    rw [rootsJ_len] at this; exact this
def mapTo (f : Int → Int) (d : List Int) (m : Nat) : List Int := (d.take m).map f ++ d.drop m
theorem mapTo_zero (f : Int → Int) (d : List Int) : mapTo f d 0 = d := by simp [mapTo]
theorem mapTo_len (f : Int → Int) (d : List Int) {m : Nat} (h : m ≤ d.length) : (mapTo f d m).length = d.length := by simp [mapTo]; omega
theorem mapTo_gd {f : Int → Int} {d : List Int} {m : Nat} (h : m < d.length) : gd (mapTo f d m) m = gd d m := by
  simp only [gd, mapTo]
  rw [List.getElem?_append_right (by simp; omega)]
  simp only [List.length_map, List.length_take, List.getElem?_drop]
  congr 2; omega
theorem mapTo_set {f : Int → Int} {d : List Int} {m : Nat} (h : m < d.length) : (mapTo f d m).set m (f (gd d m)) = mapTo f d (m + 1) := by
  have hl : ((d.take m).map f).length = m := by simp; omega
  simp only [mapTo]
  rw [List.set_append_right _ _ (by omega), hl, Nat.sub_self, drop_gd h, List.set_cons_zero, List.take_add_one, getG h]
  simp
theorem mapTo_skip {f : Int → Int} {d : List Int} {m : Nat} (h : m < d.length) (e : f (gd d m) = gd d m) : mapTo f d (m + 1) = mapTo f d m := by
  rw [← mapTo_set h, e, ← mapTo_gd (f := f) h]
  exact (set_self (by rw [mapTo_len f d (by omega)]; exact h)).symm
theorem mapTo_all {f : Int → Int} {c z : List Int} : mapTo f (c ++ z) c.length = c.map f ++ z := by simp [mapTo]
def cntR (cls : List Int) (m : Nat) : Nat := ((List.range m).filter fun j => decide (gd cls j = (j : Int))).length
def numR (cls : List Int) (i : Nat) : Nat := cntR cls (gd cls i).toNat
theorem cntR_zero (cls : List Int) : cntR cls 0 = 0 := rfl
theorem cntR_succ (cls : List Int) (m : Nat) : cntR cls (m + 1) = cntR cls m + if gd cls m = (m : Int) then 1 else 0 := by
  unfold cntR
  rw [List.range_succ, List.filter_append, List.length_append]
  congr 1
  split <;> simp [*]
theorem cntR_mono (cls : List Int) {m : Nat} : ∀ {n : Nat}, m ≤ n → cntR cls m ≤ cntR cls n
  | 0, h => by obtain rfl : m = 0 := by omega
               exact Nat.le_refl _
  | n + 1, h => by
    by_cases e : m = n + 1
    · rw [e]; exact Nat.le_refl _
    · have := cntR_mono cls (m := m) (n := n) (by omega)
      rw [cntR_succ]; omega
theorem cntR_le (cls : List Int) (m : Nat) : cntR cls m ≤ m := by
  have := List.length_filter_le (fun j => decide (gd cls j = (j : Int))) (List.range m)
  simpa [cntR] using this
theorem numR_root {cls : List Int} {i : Nat} (h : gd cls i = (i : Int)) : numR cls i = cntR cls i := by rw [numR, h, Int.toNat_natCast]
theorem numR_at {cls : List Int} (h : Rt cls) {i : Nat} (hi : i < cls.length) : numR cls (gd cls i).toNat = numR cls i := by
  rw [numR, (h i hi).2.2, numR]
theorem numR_lt {cls : List Int} (h : Rt cls) {i m : Nat} (hi : i < cls.length) (hm : i < m) : numR cls i < cntR cls m := by
  obtain ⟨h1, h2, h3⟩ := h i hi
  have h4 := cntR_mono cls (m := (gd cls i).toNat + 1) (n := m) (by omega)
  rw [cntR_succ, if_pos (by rw [h3]; omega)] at h4
  rw [numR]; omega
/-- the lists of a partition by numbers, as far as the first i members go -/
def netsP {α : Type} [Inhabited α] (cls : List Int) (xs : List α) (i : Nat) : List (List α) := (List.range (cntR cls i)).map fun k => ((List.range i).filter fun j => decide (numR cls j = k)).map (gd xs)
theorem netsP_len {α : Type} [Inhabited α] (cls : List Int) (xs : List α) (i : Nat) : (netsP cls xs i).length = cntR cls i := by simp [netsP]
theorem netsP_gd {α : Type} [Inhabited α] {cls : List Int} {xs : List α} {i k : Nat} (h : k < cntR cls i) : gd (netsP cls xs i) k = ((List.range i).filter fun j => decide (numR cls j = k)).map (gd xs) := by
  rw [netsP, gd_map _ (by simpa using h)]
  simp [gd, h]
/-- the lists with room for the list of member i -/
def netsE {α : Type} [Inhabited α] (cls : List Int) (xs : List α) (i : Nat) : List (List α) := if gd cls i = (i : Int) then netsP cls xs i ++ [[]] else netsP cls xs i
theorem netsE_len {α : Type} [Inhabited α] (cls : List Int) (xs : List α) (i : Nat) : (netsE cls xs i).length = cntR cls (i + 1) := by
  unfold netsE; rw [cntR_succ]; split <;> simp [netsP_len, *]
theorem numR_ge {cls : List Int} (h : Rt cls) {i j : Nat} (hi : i < cls.length) (hj : j < i) (hr : gd cls i = (i : Int)) : numR cls j ≠ cntR cls i := by
  have := numR_lt h (i := j) (m := i) (by omega) hj; omega
theorem netsE_gd {α : Type} [Inhabited α] {cls : List Int} (h : Rt cls) {xs : List α} {i k : Nat} (hi : i < cls.length) (hk : k < cntR cls (i + 1)) : gd (netsE cls xs i) k = ((List.range i).filter fun j => decide (numR cls j = k)).map (gd xs) := by
  unfold netsE
  rw [cntR_succ] at hk
  split
  · rename_i e
    rw [if_pos e] at hk
    by_cases c : k < cntR cls i
    · rw [gd_app_l (by rw [netsP_len]; exact c), netsP_gd c]
    · obtain rfl : k = cntR cls i := by omega
      have e1 := gd_app_r (xs := netsP cls xs i) (a := ([] : List α))
      rw [netsP_len] at e1
      rw [e1, List.filter_eq_nil_iff.2, List.map_nil]
      intro j hj
      have := numR_ge h hi (List.mem_range.1 hj) e
      simpa using this
  · rename_i e
    rw [if_neg e] at hk
    exact netsP_gd (by omega)
theorem netsP_succ {α : Type} [Inhabited α] {cls : List Int} (h : Rt cls) {xs : List α} {i : Nat} (hi : i < cls.length) : netsP cls xs (i + 1) = (netsE cls xs i).set (numR cls i) (gd (netsE cls xs i) (numR cls i) ++ [gd xs i]) := by
  have hn := numR_lt h hi (Nat.lt_succ_self i)
  apply List.ext_getElem?
  intro k
  by_cases hk : k < cntR cls (i + 1)
  · rw [getG (by rw [netsP_len]; exact hk), netsP_gd hk, List.getElem?_set]
    by_cases c : numR cls i = k
    · subst c
      rw [if_pos rfl, if_pos (by rw [netsE_len]; exact hk), netsE_gd h hi hk, List.range_succ, List.filter_append, List.map_append]
      simp
    · rw [if_neg c, getG (by rw [netsE_len]; exact hk), netsE_gd h hi hk, List.range_succ, List.filter_append, List.map_append]
      simp [c]
  · rw [List.getElem?_eq_none (by rw [netsP_len]; omega), List.getElem?_eq_none (by rw [List.length_set, netsE_len]; omega)]
theorem filter_or_perm {α : Type} {p q : α → Bool} : ∀ {l : List α}, (∀ x ∈ l, ¬ (p x = true ∧ q x = true)) → (l.filter p ++ l.filter q).Perm (l.filter fun x => p x || q x)
  | [], _ => .refl _
  | x :: l, h => by
    have ih := filter_or_perm (l := l) fun y hy => h y (.tail _ hy)
    have hx := h x (.head _)
    cases hp : p x <;> cases hq : q x
    · simpa [hp, hq] using ih
    · simp only [List.filter_cons, hp, hq]
      simp only [Bool.or_true, if_true, Bool.false_eq_true, if_false]
      exact (List.perm_middle).trans (.cons _ ih)
    · simpa [hp, hq] using ih
    · exact absurd ⟨hp, hq⟩ hx
theorem parts_perm (f : Nat → Nat) (l : List Nat) : ∀ c, ((List.range c).flatMap fun k => l.filter fun j => decide (f j = k)).Perm (l.filter fun j => decide (f j < c))
  | 0 => by simp
  | c + 1 => by
    rw [List.range_succ, List.flatMap_append]
    simp only [List.flatMap_cons, List.flatMap_nil, List.append_nil]
    refine ((parts_perm f l c).append_right _).trans ((filter_or_perm fun x _ h => by simp at h; omega).trans ?_)
    refine .of_eq (List.filter_congr fun x _ => ?_)
    rw [Bool.eq_iff_iff]; simp; omega
/-- the lists of a partition, one after the other, are a permutation of the members -/
theorem netsP_perm {α : Type} [Inhabited α] {cls : List Int} (h : Rt cls) (xs : List α) (hl : cls.length = xs.length) : (netsP cls xs xs.length).flatten.Perm xs := by
  have e : (netsP cls xs xs.length).flatten = (((List.range (cntR cls xs.length)).flatMap fun k => (List.range xs.length).filter fun j => decide (numR cls j = k)).map (gd xs)) := by
    rw [netsP, ← List.flatMap_def, List.map_flatMap]
  rw [e]
  refine ((parts_perm (numR cls) (List.range xs.length) (cntR cls xs.length)).map (gd xs)).trans ?_
  refine .of_eq ?_
  rw [List.filter_eq_self.2 fun j hj => ?_]
  · apply List.ext_getElem?
    intro j
    by_cases hj : j < xs.length
    · rw [getG hj]; simp [hj]
    · rw [List.getElem?_eq_none (by simp; omega), List.getElem?_eq_none (by omega)]
  · have hj := List.mem_range.1 hj
    simpa using numR_lt h (by omega) hj
theorem netsP_map {α β : Type} [Inhabited α] [Inhabited β] (f : α → β) (cls : List Int) (xs : List α) {i : Nat} (hi : i ≤ xs.length) : netsP cls (xs.map f) i = (netsP cls xs i).map (List.map f) := by
  simp only [netsP, List.map_map]
  apply List.map_congr_left
  intro k _
  simp only [Function.comp_apply, List.map_map]
  apply List.map_congr_left
  intro j hj
  have := List.mem_range.1 (List.mem_filter.1 hj).1
  simp only [Function.comp_apply]
  exact gd_map _ (by omega)
noncomputable def JL (l : List (List Rect)) (k i : Nat) : Bool := jnL l (gd (pcL l 4) k) (gd (pcL l 4) i)
noncomputable def clsL (l : List (List Rect)) : List Int := rootsJ (JL l) (pcL l 4).length
theorem clsL_len (l : List (List Rect)) : (clsL l).length = (pcL l 4).length := rootsJ_len _ _
theorem clsL_rt (l : List (List Rect)) : Rt (clsL l) := rt_roots _ _
noncomputable def netN (l : List (List Rect)) : Nat := cntR (clsL l) (pcL l 4).length
noncomputable def netL (l : List (List Rect)) : List (List (Int × List Rect)) := netsP (clsL l) ((pcL l 4).map pcR) (pcL l 4).length
theorem netL_len (l : List (List Rect)) : (netL l).length = netN l := netsP_len _ _ _
end Go.Proofs.YtgngpegmaceaiaaGreat
namespace Go.Proofs.YtgngpegmaceaiaaGreat
set_option linter.unusedVariables false
set_option linter.unusedSimpArgs false
open Go
theorem WP.loop5 {P : Program} {n : Nat} {Q : Post} {σ : Nat → Value} {G : Gh} {L : List Ch} {c : Code} (keep : List Nat) {A B D E F : Type} (J : A → B → D → E → F → Prop) (S : A → B → D → E → F → List (Nat × Value)) (C : A → B → D → E → F → List Ch) (μ : A → B → D → E → F → Nat) (a0 : A) (b0 : B) (d0 : D) (e0 : E) (f0 : F) (j0 : J a0 b0 d0 e0 f0) (h0 : HasV σ (S a0 b0 d0 e0 f0)) (p0 : Cv L (C a0 b0 d0 e0 f0))
    (round : ∀ a b d e f τ, J a b d e f → WP P n c (thenP (fun σ' G' L' => G' = G ∧ ∃ a' b' d' e' f', J a' b' d' e' f' ∧ HasV σ' (S a' b' d' e' f') ∧ Keeps σ' σ keep ∧ Cv L' (C a' b' d' e' f') ∧ μ a' b' d' e' f' < μ a b d e f) Q) (upds (updk τ σ keep) (S a b d e f)) G (C a b d e f)) : WP P n (.loop c) Q σ G L :=
  WP.loop0 keep (A := A × B × D × E × F) (fun x => J x.1 x.2.1 x.2.2.1 x.2.2.2.1 x.2.2.2.2) (fun x => S x.1 x.2.1 x.2.2.1 x.2.2.2.1 x.2.2.2.2) (fun x => C x.1 x.2.1 x.2.2.1 x.2.2.2.1 x.2.2.2.2) (fun x => μ x.1 x.2.1 x.2.2.1 x.2.2.2.1 x.2.2.2.2) (a0, b0, d0, e0, f0) j0 h0 p0 fun x τ j =>
    WP.mono (round x.1 x.2.1 x.2.2.1 x.2.2.2.1 x.2.2.2.2 τ j) fun e σ G L hq => by
      cases e with
      | normal => obtain ⟨e, a', b', d', e', f', h⟩ := hq; exact ⟨e, (a', b', d', e', f'), h⟩
      | _ => exact hq
theorem WP.loop6 {P : Program} {n : Nat} {Q : Post} {σ : Nat → Value} {G : Gh} {L : List Ch} {c : Code} (keep : List Nat) {A B D E F H : Type} (J : A → B → D → E → F → H → Prop) (S : A → B → D → E → F → H → List (Nat × Value)) (C : A → B → D → E → F → H → List Ch) (μ : A → B → D → E → F → H → Nat) (a0 : A) (b0 : B) (d0 : D) (e0 : E) (f0 : F) (g0 : H) (j0 : J a0 b0 d0 e0 f0 g0) (h0 : HasV σ (S a0 b0 d0 e0 f0 g0)) (p0 : Cv L (C a0 b0 d0 e0 f0 g0))
    (round : ∀ a b d e f g τ, J a b d e f g → WP P n c (thenP (fun σ' G' L' => G' = G ∧ ∃ a' b' d' e' f' g', J a' b' d' e' f' g' ∧ HasV σ' (S a' b' d' e' f' g') ∧ Keeps σ' σ keep ∧ Cv L' (C a' b' d' e' f' g') ∧ μ a' b' d' e' f' g' < μ a b d e f g) Q) (upds (updk τ σ keep) (S a b d e f g)) G (C a b d e f g)) : WP P n (.loop c) Q σ G L :=
  WP.loop0 keep (A := A × B × D × E × F × H) (fun x => J x.1 x.2.1 x.2.2.1 x.2.2.2.1 x.2.2.2.2.1 x.2.2.2.2.2) (fun x => S x.1 x.2.1 x.2.2.1 x.2.2.2.1 x.2.2.2.2.1 x.2.2.2.2.2) (fun x => C x.1 x.2.1 x.2.2.1 x.2.2.2.1 x.2.2.2.2.1 x.2.2.2.2.2) (fun x => μ x.1 x.2.1 x.2.2.1 x.2.2.2.1 x.2.2.2.2.1 x.2.2.2.2.2) (a0, b0, d0, e0, f0, g0) j0 h0 p0 fun x τ j =>
    WP.mono (round x.1 x.2.1 x.2.2.1 x.2.2.2.1 x.2.2.2.2.1 x.2.2.2.2.2 τ j) fun e σ G L hq => by
      cases e with
      | normal => obtain ⟨e, a', b', d', e', f', g', h⟩ := hq; exact ⟨e, (a', b', d', e', f', g'), h⟩
      | _ => exact hq
end Go.Proofs.YtgngpegmaceaiaaGreat
namespace Go.Proofs.YtgngpegmaceaiaaGreat
set_option linter.unusedVariables false
set_option linter.unusedSimpArgs false
open Go
set_option maxRecDepth 20000
set_option linter.unusedSimpArgs false
set_option linter.unusedVariables false
set_option maxHeartbeats 2000000
variable {G : Gh} {L : List Ch} {R : Value → Gh → List Ch → Prop}
theorem hasI_at {S : List Bool} {q : Int × Int} {dx dy : Int} : hasI S (q.1 - 40 + dx) (q.2 - 40 + dy) = (decide (0 ≤ q.1 + dx) && decide (q.1 + dx < 80) && (decide (0 ≤ q.2 + dy) && decide (q.2 + dy < 80)) && gd S ((q.2 + dy) * 80 + (q.1 + dx)).toNat) := by
  rw [hasI, within, within, show (q.2 - 40 + dy + 40) * 80 + (q.1 - 40 + dx) + 40 = (q.2 + dy) * 80 + (q.1 + dx) by omega]
  congr 1
  rw [Bool.eq_iff_iff]; simp; omega
theorem flood7_s {v : Value} {S : List Bool} {x y : Int} (h1 : Rs G L boolT v S) (hS : S.length = 6400) (hx : 0 ≤ x ∧ x < 80) (hy : 0 ≤ y ∧ y < 80) (hon : gb S y.toNat x.toNat = true)
    (k : ∀ v', R v' G (osl 4 boolT v' (compB S (y.toNat, x.toNat)) :: L)) : CallT Tryz.prog 258 #[v, vi (x - 40), vi (y - 40), .bool false] G L R := by
  have hst := FI.start (S := S) hx hy
  have hseed : On S (y.toNat, x.toNat) := ⟨by simp only; omega, by simp only; omega, hon⟩
  have hrl : (List.replicate S.length false).length = 6400 := by simp [hS]
  refine CallT.enter (args := _) Tryz.func258 rfl rfl (by kernel_rfl) rfl ?_
  refine WP.seq ?_
  refine WP.region ?_
  refine RG.pv rfl (PV.asg rfl rfl) ?_
  refine RG.nil ?_
  refine WP.seq ?_
  refine WP.region ?_
  refine RG.pv rfl (PV.move (v := v) rfl rfl) ?_
  refine RG.pv rfl (PV.len (v := v) rfl Tryz.underlying149 rfl (SlF.r h1)) ?_
  refine RG.ot rfl (OT.make (F := boolT) (a0 := false) rfl El149 rfl (by decide) rfl rfl (by omega) (by omega) fun v17 => ?_)
  refine RG.pv rfl (PV.asg (v := v17) rfl rfl) ?_
  refine RG.nil ?_
  refine WP.seq ?_
  refine WP.region ?_
  refine RG.pv rfl (PV.mvI (.inl rfl) rfl) ?_
  refine RG.pv rfl (PV.mvI (.inl rfl) rfl) ?_
  refine RG.pv rfl (PV.build (vs := [(0, [vi _]), (1, [vi _])]) (out := [_, _]) rfl Zr210 Pl210 ⟨rfl, (Cl.c rfl), ⟨rfl, (Cl.c rfl), trivial⟩⟩ rfl) ?_
  refine RG.ot rfl (OT.bslice (F := ptT) (els := [⟨_, _⟩]) rfl El207 rfl (by decide) rfl (by decide) ⟨rfl, (Cl.c rfl), trivial⟩ fun v21 => ?_)
  refine RG.pv rfl (PV.asg (v := v21) rfl rfl) ?_
  refine RG.nil ?_
  refine WP.seq ?_
  refine WP.region ?_
  refine RG.pv rfl (PV.move (v := v17) rfl rfl) ?_
  refine RG.pv rfl (PV.mvI (.inl rfl) rfl) ?_
  refine RG.pv rfl (PV.mvI (.inl rfl) rfl) ?_
  refine RG.callF (vs := [_, _]) rfl rfl En189 rfl (l03At_s (by first | omega | (simp [within, hasI] at hp; omega)) ?_)
  refine RG.pv rfl (PV.idxS (j := y.toNat * 80 + x.toNat) (v := v17) rfl Is149 rfl SlF.o rfl (by omega) (by omega)) ?_
  refine RG.ot rfl (OT.storeE (F := boolT) rfl Sz4 rfl rfl rfl (Cl.c rfl) (OneC.c rfl) (by omega) ?_)
  refine RG.nil ?_
  refine WP.seq ?_
  refine WP.seq ?_
  refine WP.region ?_
  refine RG.pv rfl (PV.mvI (.inr rfl) rfl) ?_
  refine RG.nil ?_
  refine WP.block ?_
  refine WP.cv ((Cv.p (C := osl 4 boolT v17 ((List.replicate S.length false).set (y.toNat * 80 + x.toNat) true) :: osl 210 ptT v21 [⟨x - 40, y - 40⟩] :: L)).trans (Cv.cast (L' := osl 4 boolT v17 ((List.replicate 6400 false).set (y.toNat * 80 + x.toNat) true) :: osl 210 ptT v21 ([(x, y)].map ptOf) :: L) (by rw [hS]; rfl))) ?_
  refine WP.loop4 [0, 3, 9] (fun (i : Nat) (Q : List (Int × Int)) (O : List Bool) (qv : Value) => i ≤ Q.length ∧ FI S (y.toNat, x.toNat) O Q ∧ Done S O Q i ∧ On O (y.toNat, x.toNat)) (fun (i : Nat) (Q : List (Int × Int)) (O : List Bool) (qv : Value) => [(11, vi i), (10, qv)]) (fun (i : Nat) (Q : List (Int × Int)) (O : List Bool) (qv : Value) => osl 4 boolT v17 O :: osl 210 ptT qv (Q.map ptOf) :: L) (fun (i : Nat) (Q : List (Int × Int)) (O : List Bool) (qv : Value) => 6401 - i) 0 [(x, y)] ((List.replicate 6400 false).set (y.toNat * 80 + x.toNat) true) v21 ⟨by simp, hst, fun m hm => by omega, by have := hst.on 0 (by simp); simpa [gd, qc] using this⟩ ⟨rfl, rfl, trivial⟩ Cv.p ?_
  rintro i Q O qv τ ⟨hi, hF, hD, h0⟩
  refine WP.seq ?_
  refine WP.seq ?_
  refine WP.region ?_
  refine RG.pv rfl (PV.mvI (.inl rfl) rfl) ?_
  refine RG.pv rfl (PV.move (v := qv) rfl rfl) ?_
  refine RG.pv rfl (PV.len (v := qv) rfl Tryz.underlying207 rfl SlF.o) ?_
  refine RG.pv rfl (PV.lss rfl rfl rfl) ?_
  refine RG.nil ?_
  have hml : (Q.map ptOf).length = Q.length := by simp
  refine WP.cond rfl (fun h2 => ?_) (fun h2 => ?_)
  · have h2 := of_decide_eq_true h2
    have hQ := hF.len_le
    have hb := hF.bd i (by omega)
    refine WP.skip ?_
    refine WP.seq ?_
    refine WP.block ?_
    refine WP.seq ?_
    refine WP.region ?_
    refine RG.pv rfl (PV.mvI (.inr rfl) rfl) ?_
    refine RG.nil ?_
    refine WP.block ?_
    refine WP.loop4 [0, 3, 9, 11] (fun (dy : Int) (Q1 : List (Int × Int)) (O1 : List Bool) (qv1 : Value) => (-1 ≤ dy ∧ dy ≤ 2) ∧ FI S (y.toNat, x.toNat) O1 Q1 ∧ Done S O1 Q1 i ∧ On O1 (y.toNat, x.toNat) ∧ i < Q1.length ∧ gd Q1 i = gd Q i ∧ Near S O1 (qc (gd Q i)) dy (-1)) (fun (dy : Int) (Q1 : List (Int × Int)) (O1 : List Bool) (qv1 : Value) => [(12, vi dy), (10, qv1)]) (fun (dy : Int) (Q1 : List (Int × Int)) (O1 : List Bool) (qv1 : Value) => osl 4 boolT v17 O1 :: osl 210 ptT qv1 (Q1.map ptOf) :: L) (fun (dy : Int) (Q1 : List (Int × Int)) (O1 : List Bool) (qv1 : Value) => (2 - dy).toNat) (-1) Q O qv ⟨by omega, hF, hD, h0, by omega, rfl, Near.zero _ _ _⟩ ⟨rfl, rfl, trivial⟩ Cv.p ?_
    rintro dy Q1 O1 qv1 τ1 ⟨⟨hy1, hy2⟩, hF1, hD1, h01, hi1, hq1, hN1⟩
    refine WP.seq ?_
    refine WP.seq ?_
    refine WP.region ?_
    refine RG.pv rfl (PV.mvI (.inl rfl) rfl) ?_
    refine RG.pv rfl (PV.leq rfl rfl rfl) ?_
    refine RG.nil ?_
    refine WP.cond rfl (fun h3 => ?_) (fun h3 => ?_)
    · have h3 := of_decide_eq_true h3
      refine WP.skip ?_
      refine WP.seq ?_
      refine WP.block ?_
      refine WP.seq ?_
      refine WP.region ?_
      refine RG.pv rfl (PV.mvI (.inr rfl) rfl) ?_
      refine RG.nil ?_
      refine WP.block ?_
      refine WP.loop4 [0, 3, 9, 11, 12] (fun (dx : Int) (Q2 : List (Int × Int)) (O2 : List Bool) (qv2 : Value) => (-1 ≤ dx ∧ dx ≤ 2) ∧ FI S (y.toNat, x.toNat) O2 Q2 ∧ Done S O2 Q2 i ∧ On O2 (y.toNat, x.toNat) ∧ i < Q2.length ∧ gd Q2 i = gd Q i ∧ Near S O2 (qc (gd Q i)) dy dx) (fun (dx : Int) (Q2 : List (Int × Int)) (O2 : List Bool) (qv2 : Value) => [(13, vi dx), (10, qv2)]) (fun (dx : Int) (Q2 : List (Int × Int)) (O2 : List Bool) (qv2 : Value) => osl 4 boolT v17 O2 :: osl 210 ptT qv2 (Q2.map ptOf) :: L) (fun (dx : Int) (Q2 : List (Int × Int)) (O2 : List Bool) (qv2 : Value) => (2 - dx).toNat) (-1) Q1 O1 qv1 ⟨by omega, hF1, hD1, h01, hi1, hq1, hN1⟩ ⟨rfl, rfl, trivial⟩ Cv.p ?_
      rintro dx Q2 O2 qv2 τ2 ⟨⟨hx1, hx2⟩, hF2, hD2, h02, hi2, hq2, hN2⟩
      refine WP.seq ?_
      refine WP.seq ?_
      refine WP.region ?_
      refine RG.pv rfl (PV.mvI (.inl rfl) rfl) ?_
      refine RG.pv rfl (PV.leq rfl rfl rfl) ?_
      refine RG.nil ?_
      have hml2 : (Q2.map ptOf).length = Q2.length := by simp
      refine WP.cond rfl (fun h4 => ?_) (fun h4 => ?_)
      · have h4 := of_decide_eq_true h4
        have hl2 := hF2.len
        have hQ2 := hF2.len_le
        have hb2 : 0 ≤ (gd Q2 i).1 ∧ (gd Q2 i).1 < 80 ∧ 0 ≤ (gd Q2 i).2 ∧ (gd Q2 i).2 < 80 := by rw [hq2]; exact hb
        have e1 : gd (Q2.map ptOf) i = ⟨(gd Q2 i).1 - 40, (gd Q2 i).2 - 40⟩ := gd_pt hi2
        have ex : (gd (Q2.map ptOf) i).x = (gd Q2 i).1 - 40 := by rw [e1]
        have ey : (gd (Q2.map ptOf) i).y = (gd Q2 i).2 - 40 := by rw [e1]
        refine WP.skip ?_
        refine WP.seq ?_
        refine WP.block ?_
        refine WP.cut1 [0, 3, 9, 10, 11, 12, 13] (fun (b14 : Nat) => True) (fun (b14 : Nat) => [(14, .pointer (some ⟨b14, 0, none⟩))]) (fun (b14 : Nat) => blk b14 210 [vi ((gd Q2 i).1 - 40 + dx), vi ((gd Q2 i).2 - 40 + dy)] :: osl 4 boolT v17 O2 :: osl 210 ptT qv2 (Q2.map ptOf) :: L) ?_ ?_
        refine WP.regionH0 (.q 0 (.q 1 (.q 2 (.q 3 (.q 4 (.q 5 (.q 6 (.q 7 (.q 8 (.q 9 (.q 10 (.q 11 (.q 12 (.q 13 (.q 14 (.l 15 (.l 16 Sch.nil))))))))))))))))) (by kernel_rfl) (by kernel_rfl) (by kernel_rfl) rfl ?_
        refine RH.pv rfl (fun _ _ _ _ h => h) (Gh.le_refl _) PickC.pick rfl (PV.move (v := qv2) rfl rfl) ?_
        refine RH.pv rfl (fun _ _ _ _ h => h) (Gh.le_refl _) PickC.pick rfl (PV.mvI (.inl rfl) rfl) ?_
        refine RH.pv rfl (fun _ _ _ _ h => h) (Gh.le_refl _) PickC.pick rfl (PV.idxS (v := qv2) rfl Is207 rfl SlF.o rfl rfl (by omega)) ?_
        refine RH.pv rfl (fun _ _ _ _ h => h) (Gh.le_refl _) PickC.pick rfl (PV.field rfl Fo210_0 rfl) ?_
        refine RH.pv rfl (fun _ _ _ _ h => h) (Gh.le_refl _) PickC.pick rfl (PV.loadF (v := qv2) (j := 0) rfl Sc2 rfl rfl (El.o (getG (by omega))) rfl) ?_
        refine RH.pv rfl (fun _ _ _ _ h => h) (Gh.le_refl _) PickC.pick rfl (PV.mvI (.inl rfl) rfl) ?_
        refine RH.pv rfl (fun _ _ _ _ h => h) (Gh.le_refl _) PickC.pick rfl (PV.add rfl rfl rfl (by omega)) ?_
        refine RH.pv rfl (fun _ _ _ _ h => h) (Gh.le_refl _) PickC.pick rfl (PV.move (v := qv2) rfl rfl) ?_
        refine RH.pv rfl (fun _ _ _ _ h => h) (Gh.le_refl _) PickC.pick rfl (PV.mvI (.inl rfl) rfl) ?_
        refine RH.pv rfl (fun _ _ _ _ h => h) (Gh.le_refl _) PickC.pick rfl (PV.idxS (v := qv2) rfl Is207 rfl SlF.o rfl rfl (by omega)) ?_
        refine RH.pv rfl (fun _ _ _ _ h => h) (Gh.le_refl _) PickC.pick rfl (PV.field rfl Fo210_1 rfl) ?_
        refine RH.pv rfl (fun _ _ _ _ h => h) (Gh.le_refl _) PickC.pick rfl (PV.loadF rfl Sc2 rfl rfl (El.o (getG (by omega))) rfl) ?_
        refine RH.pv rfl (fun _ _ _ _ h => h) (Gh.le_refl _) PickC.pick rfl (PV.mvI (.inl rfl) rfl) ?_
        refine RH.pv rfl (fun _ _ _ _ h => h) (Gh.le_refl _) PickC.pick rfl (PV.add rfl rfl rfl (by omega)) ?_
        refine RH.pv rfl (fun _ _ _ _ h => h) (Gh.le_refl _) PickC.pick rfl (PV.build (vs := [(0, [vi _]), (1, [vi _])]) (out := [_, _]) rfl Zr210 Pl210 ⟨rfl, (Cl.c rfl), ⟨rfl, (Cl.c rfl), trivial⟩⟩ rfl) ?_
        refine RH.ot rfl rfl (OT.alloc rfl Zr210 fun b14 => ⟨Gh.le_refl _, PickC.pick, ?_⟩)
        refine RH.ot rfl rfl (OT.storeW (vs := [vi _, vi _]) rfl Sz210 rfl rfl (Cl.c rfl) rfl rfl (OneC.c rfl) ⟨Gh.le_refl _, PickC.pick, ?_⟩)
        refine RH.nil ?_
        · exact ⟨rfl, b14, trivial, ⟨rfl, trivial⟩, ⟨rfl, rfl, rfl, rfl, rfl, rfl, rfl, trivial⟩, (Cv.p (C := blk b14 210 [vi ((gd (Q2.map ptOf) i).x + dx), vi ((gd (Q2.map ptOf) i).y + dy)] :: osl 4 boolT v17 O2 :: osl 210 ptT qv2 (Q2.map ptOf) :: L)).trans (Cv.cast (by rw [ex, ey]))⟩
        · have ej : ((gd Q2 i).2 - 40 + dy + 40) * 80 + ((gd Q2 i).1 - 40 + dx) + 40 = ((gd Q2 i).2 + dy) * 80 + ((gd Q2 i).1 + dx) := by omega
          rintro b14 τ3 _
          refine WP.seq ?_
          refine WP.region ?_
          refine RG.pv rfl (PV.mvB (.inl rfl) rfl) ?_
          refine RG.pv rfl (PV.mvB (.inl rfl) rfl) ?_
          refine RG.gs rfl rfl rfl (fun hp => (PV.mvI (.inl rfl) rfl)) ?_
          refine RG.gs rfl rfl rfl (fun hp => (PV.eql rfl (gs_t hp) rfl)) ?_
          refine RG.pv rfl (PV.pickO rfl rfl rfl (fun hq => gs_t (geqF hq))) ?_
          refine RG.pv rfl (PV.mvB (.inl rfl) rfl) ?_
          refine RG.gs rfl rfl rfl (fun hp => (PV.mvI (.inl rfl) rfl)) ?_
          refine RG.gs rfl rfl rfl (fun hp => (PV.eql rfl (gs_t hp) rfl)) ?_
          refine RG.pv rfl (PV.pickO rfl rfl rfl (fun hq => gs_t (geqF hq))) ?_
          refine RG.pv rfl (PV.mvB (.inl rfl) rfl) ?_
          refine RG.gs rfl rfl rfl (fun hp => (PV.move (v := v) rfl rfl)) ?_
          refine RG.gs rfl rfl rfl (fun hp => (PV.field rfl Fo210_0 rfl)) ?_
          refine RG.gs rfl rfl rfl (fun hp => (PV.load1 rfl Sc2 (gs_t hp) (Rd.blk rfl))) ?_
          refine RG.gs rfl rfl rfl (fun hp => (PV.field rfl Fo210_1 rfl)) ?_
          refine RG.gs rfl rfl rfl (fun hp => (PV.load1 rfl Sc2 (gs_t hp) (Rd.blk rfl))) ?_
          refine RG.gsC rfl rfl rfl rfl En225 (fun hp => ⟨_, (acons (gs_t hp) (acons (gs_t hp) (acons (gs_t hp) anil))), l03Has_s (Rs.up h1) hS ⟨rfl, rfl, rfl⟩⟩) ?_
          refine RG.pv rfl (PV.pickA rfl rfl (fun hq => gs_t (geqT hq)) rfl) ?_
          refine RG.pv rfl (PV.mvB (.inl rfl) rfl) ?_
          refine RG.gs rfl rfl rfl (fun hp => (PV.move (v := v17) rfl rfl)) ?_
          refine RG.gs rfl rfl rfl (fun hp => (PV.field rfl Fo210_0 rfl)) ?_
          refine RG.gs rfl rfl rfl (fun hp => (PV.load1 rfl Sc2 (gs_t hp) (Rd.blk rfl))) ?_
          refine RG.gs rfl rfl rfl (fun hp => (PV.field rfl Fo210_1 rfl)) ?_
          refine RG.gs rfl rfl rfl (fun hp => (PV.load1 rfl Sc2 (gs_t hp) (Rd.blk rfl))) ?_
          refine RG.gsC rfl rfl rfl rfl En189 (fun hp => ⟨_, (acons (gs_t hp) (acons (gs_t hp) anil)), l03At_s (by first | omega | (simp [within, hasI] at hp; omega)) ⟨rfl, rfl, rfl⟩⟩) ?_
          refine RG.gs rfl rfl rfl (fun hp => (PV.idxS (j := ((gd Q2 i).2 + dy).toNat * 80 + ((gd Q2 i).1 + dx).toNat) (v := v17) rfl Is149 (gs_t hp) SlF.o (gs_t hp) (by first | omega | (simp [within, hasI] at hp; omega)) (by first | omega | (simp [within, hasI] at hp; omega)))) ?_
          refine RG.gs rfl rfl rfl (fun hp => (PV.loadE1 rfl Sc4 (gs_t hp) rfl (El.o (getG (by first | omega | (simp [within, hasI] at hp; omega)))) rfl)) ?_
          refine RG.gs rfl rfl rfl (fun hp => (PV.not rfl (gs_t hp))) ?_
          refine RG.pv rfl (PV.pickA rfl rfl (fun hq => gs_t (geqT hq)) rfl) ?_
          refine RG.nil ?_
          have hcon : ((((false || decide (dx = 0)) || decide (dy = 0)) && hasI S ((gd Q2 i).1 - 40 + dx) ((gd Q2 i).2 - 40 + dy)) && !gd O2 (((gd Q2 i).2 + dy).toNat * 80 + ((gd Q2 i).1 + dx).toNat)) = true ↔ (dx = 0 ∨ dy = 0) ∧ (0 ≤ (gd Q2 i).1 + dx ∧ 0 ≤ (gd Q2 i).2 + dy ∧ (gd Q2 i).1 + dx < 80 ∧ (gd Q2 i).2 + dy < 80) ∧ gb S ((gd Q2 i).2 + dy).toNat ((gd Q2 i).1 + dx).toNat = true ∧ gb O2 ((gd Q2 i).2 + dy).toNat ((gd Q2 i).1 + dx).toNat = false := by
            rw [hasI_at]
            simp only [Bool.and_eq_true, Bool.or_eq_true, decide_eq_true_eq, Bool.not_eq_true', Bool.false_or, gb]
            constructor
            · rintro ⟨⟨a1, ⟨⟨a2, a3⟩, a4, a5⟩, a6⟩, a7⟩
              rw [show (((gd Q2 i).2 + dy) * 80 + ((gd Q2 i).1 + dx)).toNat = ((gd Q2 i).2 + dy).toNat * 80 + ((gd Q2 i).1 + dx).toNat by omega] at a6
              exact ⟨a1, ⟨a2, a4, a3, a5⟩, a6, a7⟩
            · rintro ⟨a1, ⟨a2, a4, a3, a5⟩, a6, a7⟩
              rw [show (((gd Q2 i).2 + dy) * 80 + ((gd Q2 i).1 + dx)).toNat = ((gd Q2 i).2 + dy).toNat * 80 + ((gd Q2 i).1 + dx).toNat by omega]
              exact ⟨⟨a1, ⟨⟨a2, a3⟩, a4, a5⟩, a6⟩, a7⟩
          refine WP.cond rfl (fun h5 => ?_) (fun h5 => ?_)
          · obtain ⟨a1, ⟨a2, a3, a4, a5⟩, a6, a7⟩ := hcon.1 h5
            refine WP.seq ?_
            refine WP.region ?_
            refine RG.pv rfl (PV.move (v := v17) rfl rfl) ?_
            refine RG.pv rfl (PV.field rfl Fo210_0 rfl) ?_
            refine RG.pv rfl (PV.load1 rfl Sc2 rfl (Rd.blk rfl)) ?_
            refine RG.pv rfl (PV.field rfl Fo210_1 rfl) ?_
            refine RG.pv rfl (PV.load1 rfl Sc2 rfl (Rd.blk rfl)) ?_
            refine RG.callF (vs := [_, _]) rfl rfl En189 rfl (l03At_s (by first | omega | (simp [within, hasI] at hp; omega)) ?_)
            refine RG.pv rfl (PV.idxS (j := ((gd Q2 i).2 + dy).toNat * 80 + ((gd Q2 i).1 + dx).toNat) (v := v17) rfl Is149 rfl SlF.o rfl (by omega) (by omega)) ?_
            refine RG.ot rfl (OT.storeE (F := boolT) rfl Sz4 rfl rfl rfl (Cl.c rfl) (OneC.c rfl) (by omega) ?_)
            refine RG.nil ?_
            refine WP.region ?_
            refine RG.pv rfl (PV.move (v := qv2) rfl rfl) ?_
            refine RG.pv rfl (PV.loadW rfl Ag210 rfl rfl) ?_
            refine RG.ot rfl (OT.bslice (F := ptT) (els := [⟨_, _⟩]) rfl El207 rfl (by decide) rfl (by decide) ⟨rfl, (Cl.c rfl), trivial⟩ fun v93 => ?_)
            refine RG.ot rfl (OT.append (v := qv2) (u := v93) (F := ptT) rfl El207 rfl (by decide) rfl rfl Rs.o (OneL.c (fun _ => rfl)) rfl (by first | omega | (simp <;> omega)) fun v94 => ?_)
            refine RG.pv rfl (PV.asg (v := v94) rfl rfl) ?_
            refine RG.nil ?_
            refine WP.region ?_
            refine RG.pv rfl (PV.mvI (.inl rfl) rfl) ?_
            refine RG.pv rfl (PV.add rfl rfl rfl (by omega)) ?_
            refine RG.pv rfl (PV.mvI (.inr rfl) rfl) ?_
            refine RG.nil ?_
            have ep : ptOf ((gd Q2 i).1 + dx, (gd Q2 i).2 + dy) = ⟨(gd Q2 i).1 - 40 + dx, (gd Q2 i).2 - 40 + dy⟩ := by simp only [ptOf, Pt.mk.injEq]; omega
            exact ⟨rfl, dx + 1, (Q2 ++ [((gd Q2 i).1 + dx, (gd Q2 i).2 + dy)]), (O2.set (((gd Q2 i).2 + dy).toNat * 80 + ((gd Q2 i).1 + dx).toNat) true), v94, ⟨by omega, hF2.add ⟨by omega, by omega⟩ ⟨by omega, by omega⟩ a7 a6 hi2 (adj_near hb2 (by omega) a1 (fun e => by have := (hF2.on i hi2).2.2; simp only [qc] at this; rw [e.1, e.2, Int.add_zero, Int.add_zero, this] at a7; cases a7) a2 a3), hD2.add hi2 (fun c hc => on_set hl2 ⟨by omega, by omega⟩ ⟨by omega, by omega⟩ hc), on_set hl2 ⟨by omega, by omega⟩ ⟨by omega, by omega⟩ h02, by simp; omega, by rw [gd_app_l hi2]; exact hq2, by rw [← hq2] at hN2 ⊢; exact hN2.take hl2 hb2 (by omega) (by omega)⟩, ⟨rfl, rfl, trivial⟩, ⟨rfl, rfl, rfl, rfl, rfl, trivial⟩, (Cv.p (C := osl 4 boolT v17 (O2.set (((gd Q2 i).2 + dy).toNat * 80 + ((gd Q2 i).1 + dx).toNat) true) :: osl 210 ptT v94 (Q2.map ptOf ++ [⟨(gd Q2 i).1 - 40 + dx, (gd Q2 i).2 - 40 + dy⟩]) :: L)).trans (Cv.cast (by rw [List.map_append, ← ep]; rfl)), by omega⟩
          · have h6 : (dx ≠ 0 ∧ dy ≠ 0) ∨ (gd Q2 i).1 + dx < 0 ∨ (gd Q2 i).2 + dy < 0 ∨ (gd Q2 i).1 + dx ≥ 80 ∨ (gd Q2 i).2 + dy ≥ 80 ∨ gb S ((gd Q2 i).2 + dy).toNat ((gd Q2 i).1 + dx).toNat = false ∨ gb O2 ((gd Q2 i).2 + dy).toNat ((gd Q2 i).1 + dx).toNat = true := by
              have hn : ¬ _ := fun hh => by rw [hcon.2 hh] at h5; cases h5
              by_cases c1 : dx = 0 ∨ dy = 0
              · by_cases c2 : 0 ≤ (gd Q2 i).1 + dx ∧ 0 ≤ (gd Q2 i).2 + dy ∧ (gd Q2 i).1 + dx < 80 ∧ (gd Q2 i).2 + dy < 80
                · cases c3 : gb S ((gd Q2 i).2 + dy).toNat ((gd Q2 i).1 + dx).toNat
                  · simp
                  · cases c4 : gb O2 ((gd Q2 i).2 + dy).toNat ((gd Q2 i).1 + dx).toNat
                    · exact absurd ⟨c1, c2, c3, c4⟩ hn
                    · simp
                · omega
              · omega
            refine WP.skip ?_
            refine WP.region ?_
            refine RG.pv rfl (PV.mvI (.inl rfl) rfl) ?_
            refine RG.pv rfl (PV.add rfl rfl rfl (by omega)) ?_
            refine RG.pv rfl (PV.mvI (.inr rfl) rfl) ?_
            refine RG.nil ?_
            exact ⟨rfl, dx + 1, Q2, O2, qv2, ⟨by omega, hF2, hD2, h02, hi2, hq2, by rw [← hq2] at hN2 ⊢; exact hN2.skip hb2 h6⟩, ⟨rfl, rfl, trivial⟩, ⟨rfl, rfl, rfl, rfl, rfl, trivial⟩, Cv.p, by omega⟩
      · have h4 := of_decide_eq_false h4
        refine WP.exit ?_
        refine WP.region ?_
        refine RG.pv rfl (PV.mvI (.inl rfl) rfl) ?_
        refine RG.pv rfl (PV.add rfl rfl rfl (by omega)) ?_
        refine RG.pv rfl (PV.mvI (.inr rfl) rfl) ?_
        refine RG.nil ?_
        exact ⟨rfl, dy + 1, Q2, O2, qv2, ⟨by omega, hF2, hD2, h02, hi2, hq2, by obtain rfl : dx = 2 := (by omega); exact hN2.next⟩, ⟨rfl, rfl, trivial⟩, ⟨rfl, rfl, rfl, rfl, trivial⟩, Cv.p, by omega⟩
    · have h3 := of_decide_eq_false h3
      refine WP.exit ?_
      refine WP.region ?_
      refine RG.pv rfl (PV.mvI (.inl rfl) rfl) ?_
      refine RG.pv rfl (PV.add rfl rfl rfl (by omega)) ?_
      refine RG.pv rfl (PV.mvI (.inr rfl) rfl) ?_
      refine RG.nil ?_
      exact ⟨rfl, i + 1, Q1, O1, qv1, ⟨by omega, hF1, hD1.next (by rw [hq1]) (by obtain rfl : dy = 2 := (by omega); exact hN1), h01⟩, ⟨rfl, rfl, trivial⟩, ⟨rfl, rfl, rfl, trivial⟩, Cv.p, by omega⟩
  · have h2 := of_decide_eq_false h2
    obtain rfl : i = Q.length := by omega
    rw [← hF.final hseed h0 hD] at k
    refine WP.exit ?_
    refine WP.seq ?_
    refine WP.region ?_
    refine RG.pv rfl (PV.move (v := v17) rfl rfl) ?_
    refine RG.pv rfl (PV.asg (v := v17) rfl rfl) ?_
    refine RG.nil ?_
    refine WP.ret ?_
    exact ⟨_, _, ResV.one rfl rfl, Cv.p, k v17⟩
/-- of the cells of S, those of D are done -/
def leftB (S D : List Bool) : List Bool := zipB (fun p q => p && !q) S D
theorem gb_left {S D : List Bool} (hS : S.length = 6400) (hD : D.length = 6400) {y x : Nat} (hy : y < 80) (hx : x < 80) : gb (leftB S D) y x = (gb S y x && !gb D y x) := gb_zip hS hD hy hx
theorem leftB_len {S D : List Bool} (hS : S.length = 6400) (hD : D.length = 6400) : (leftB S D).length = 6400 := zipB_len hS hD
theorem flood7n_s {v : Value} {S : List Bool} {x y : Nat} (h1 : Rs G L boolT v S) (hS : S.length = 6400) (hx : x < 80) (hy : y < 80) (hon : gb S y x = true)
    (k : ∀ v', R v' G (osl 4 boolT v' (compB S (y, x)) :: L)) : CallT Tryz.prog 258 #[v, vi ((x : Int) - 40), vi ((y : Int) - 40), .bool false] G L R :=
  flood7_s (x := (x : Int)) (y := (y : Int)) h1 hS (by omega) (by omega) (by rw [Int.toNat_natCast, Int.toNat_natCast]; exact hon) (by rw [Int.toNat_natCast, Int.toNat_natCast]; exact k)
theorem parts7_s {v : Value} {S : List Bool} (h1 : Rs G L boolT v S) (hS : S.length = 6400) (k : ∀ v' zs, er zs = comps S → R v' G (osl 149 slT v' zs :: bagS 4 boolT zs :: L)) : CallT Tryz.prog 240 #[v, .bool false] G L R := by
  have hrl : (List.replicate S.length false).length = 6400 := by simp [hS]
  have hl0 : leftB S (List.replicate 6400 false) = S := gb_ext (leftB_len hS List.length_replicate) hS fun y x hy hx => by
    rw [gb_left hS List.length_replicate hy hx, gb_rep']; simp
  refine CallT.enter (args := _) Tryz.func240 rfl rfl (by kernel_rfl) rfl ?_
  refine WP.seq ?_
  refine WP.region ?_
  refine RG.pv rfl (PV.asg rfl rfl) ?_
  refine RG.nil ?_
  refine WP.seq ?_
  refine WP.region ?_
  refine RG.ot rfl (OT.bslice (F := (slT (α := Bool))) (els := []) rfl El178 rfl (by decide) rfl (by decide) trivial fun v10 => ?_)
  refine RG.pv rfl (PV.asg (v := v10) rfl rfl) ?_
  refine RG.nil ?_
  refine WP.seq ?_
  refine WP.region ?_
  refine RG.pv rfl (PV.move (v := v) rfl rfl) ?_
  refine RG.pv rfl (PV.len (v := v) rfl Tryz.underlying149 rfl (SlF.r h1)) ?_
  refine RG.ot rfl (OT.make (F := boolT) (a0 := false) rfl El149 rfl (by decide) rfl rfl (by omega) (by omega) fun v13 => ?_)
  refine RG.pv rfl (PV.asg (v := v13) rfl rfl) ?_
  refine RG.nil ?_
  refine WP.seq ?_
  refine WP.seq ?_
  refine WP.region ?_
  refine RG.pv rfl (PV.mvI (.inr rfl) rfl) ?_
  refine RG.nil ?_
  refine WP.block ?_
  refine WP.cv (((Cv.p (C := osl 149 slT v10 ([] : List (Sl Bool)) :: osl 4 boolT v13 (List.replicate S.length false) :: L)).trans (Cv.cons (Cv.bag0 (e := 4) (F := boolT) (xs := []) rfl)))) ?_
  refine WP.loop5 [0, 1] (fun (yy : Int) (D : List Bool) (zs : List (Sl Bool)) (q : Value) (dv : Value) => (-40 ≤ yy ∧ yy ≤ 40) ∧ D.length = 6400 ∧ PI id S ((yy + 40).toNat * 80) (leftB S D) (er zs)) (fun (yy : Int) (D : List Bool) (zs : List (Sl Bool)) (q : Value) (dv : Value) => [(7, vi yy), (5, q), (6, dv)]) (fun (yy : Int) (D : List Bool) (zs : List (Sl Bool)) (q : Value) (dv : Value) => osl 149 slT q zs :: bagS 4 boolT zs :: osl 4 boolT dv D :: L) (fun (yy : Int) (D : List Bool) (zs : List (Sl Bool)) (q : Value) (dv : Value) => (40 - yy).toNat) (-40) (List.replicate S.length false) [] v10 v13 ⟨by omega, hrl, by rw [hS, hl0]; exact PI.start hS⟩ ⟨rfl, rfl, rfl, trivial⟩ Cv.p ?_
  rintro yy D zs q dv τ ⟨hy, hDl, hP⟩
  refine WP.seq ?_
  refine WP.seq ?_
  refine WP.region ?_
  refine RG.pv rfl (PV.mvI (.inl rfl) rfl) ?_
  refine RG.pv rfl (PV.lss rfl rfl rfl) ?_
  refine RG.nil ?_
  obtain ⟨y, rfl⟩ : ∃ n : Nat, yy = (n : Int) - 40 := ⟨(yy + 40).toNat, by omega⟩
  rw [show ((y : Int) - 40 + 40).toNat = y by omega] at hP
  refine WP.cond rfl (fun h2 => ?_) (fun h2 => ?_)
  · have h2 := of_decide_eq_true h2
    refine WP.skip ?_
    refine WP.seq ?_
    refine WP.block ?_
    refine WP.seq ?_
    refine WP.region ?_
    refine RG.pv rfl (PV.mvI (.inr rfl) rfl) ?_
    refine RG.nil ?_
    refine WP.block ?_
    refine WP.loop5 [0, 1, 7] (fun (xx : Int) (D1 : List Bool) (zs1 : List (Sl Bool)) (q1 : Value) (dv1 : Value) => (-40 ≤ xx ∧ xx ≤ 40) ∧ D1.length = 6400 ∧ PI id S (y * 80 + (xx + 40).toNat) (leftB S D1) (er zs1)) (fun (xx : Int) (D1 : List Bool) (zs1 : List (Sl Bool)) (q1 : Value) (dv1 : Value) => [(8, vi xx), (5, q1), (6, dv1)]) (fun (xx : Int) (D1 : List Bool) (zs1 : List (Sl Bool)) (q1 : Value) (dv1 : Value) => osl 149 slT q1 zs1 :: bagS 4 boolT zs1 :: osl 4 boolT dv1 D1 :: L) (fun (xx : Int) (D1 : List Bool) (zs1 : List (Sl Bool)) (q1 : Value) (dv1 : Value) => (40 - xx).toNat) (-40) D zs q dv ⟨by omega, hDl, by rw [show ((-40 : Int) + 40).toNat = 0 from rfl]; exact hP⟩ ⟨rfl, rfl, rfl, trivial⟩ Cv.p ?_
    rintro xx D1 zs1 q1 dv1 τ1 ⟨hx, hDl, hP1⟩
    refine WP.seq ?_
    refine WP.seq ?_
    refine WP.region ?_
    refine RG.pv rfl (PV.mvI (.inl rfl) rfl) ?_
    refine RG.pv rfl (PV.lss rfl rfl rfl) ?_
    refine RG.nil ?_
    obtain ⟨x, rfl⟩ : ∃ n : Nat, xx = (n : Int) - 40 := ⟨(xx + 40).toNat, by omega⟩
    rw [show ((x : Int) - 40 + 40).toNat = x by omega] at hP1
    refine WP.cond rfl (fun h3 => ?_) (fun h3 => ?_)
    · have h3 := of_decide_eq_true h3
      have hzl : zs1.length ≤ y * 80 + x := by
        have := congrArg List.length hP1.er
        have h1 := firsts_len S (y * 80 + x)
        rw [er_len, List.length_map] at this; omega
      have e1 : (y * 80 + x) / 80 = y := by omega
      have e2 : (y * 80 + x) % 80 = x := by omega
      have e3 : cel (y * 80 + x) = (y, x) := by rw [cel, e1, e2]
      have e4 : ((x : Int) - 40 + 1 + 40).toNat = x + 1 := by omega
      have hg := gb_left hS hDl (y := y) (x := x) (by omega) (by omega)
      refine WP.skip ?_
      refine WP.seq ?_
      refine WP.block ?_
      refine WP.seq ?_
      refine WP.region ?_
      refine RG.pv rfl (PV.move (v := v) rfl rfl) ?_
      refine RG.pv rfl (PV.mvI (.inl rfl) rfl) ?_
      refine RG.pv rfl (PV.mvI (.inl rfl) rfl) ?_
      refine RG.callF (vs := [_, _]) rfl rfl En189 rfl (l03At_s (by first | omega | (simp at hp; omega)) ?_)
      refine RG.pv rfl (PV.idxS (j := y * 80 + x) (v := v) rfl Is149 rfl (SlF.r h1) rfl (by omega) (by omega)) ?_
      refine RG.pv rfl (PV.loadE1 rfl Sc4 rfl rfl (El.r h1 (getG (by omega))) rfl) ?_
      refine RG.pv rfl (PV.mvB (.inl rfl) rfl) ?_
      refine RG.gs rfl rfl rfl (fun hp => (PV.move (v := dv1) rfl rfl)) ?_
      refine RG.gs rfl rfl rfl (fun hp => (PV.mvI (.inl rfl) rfl)) ?_
      refine RG.gs rfl rfl rfl (fun hp => (PV.mvI (.inl rfl) rfl)) ?_
      refine RG.gsC rfl rfl rfl rfl En189 (fun hp => ⟨_, (acons (gs_t hp) (acons (gs_t hp) anil)), l03At_s (by first | omega | (simp at hp; omega)) ⟨rfl, rfl, rfl⟩⟩) ?_
      refine RG.gs rfl rfl rfl (fun hp => (PV.idxS (j := y * 80 + x) (v := dv1) rfl Is149 (gs_t hp) SlF.o (gs_t hp) (by first | omega | (simp [within, hasI] at hp; omega)) (by first | omega | (simp [within, hasI] at hp; omega)))) ?_
      refine RG.gs rfl rfl rfl (fun hp => (PV.loadE1 rfl Sc4 (gs_t hp) rfl (El.o (getG (by first | omega | (simp [within, hasI] at hp; omega)))) rfl)) ?_
      refine RG.gs rfl rfl rfl (fun hp => (PV.not rfl (gs_t hp))) ?_
      refine RG.pv rfl (PV.pickA rfl rfl (fun hq => gs_t (geqT hq)) rfl) ?_
      refine RG.nil ?_
      refine WP.cond rfl (fun h4 => ?_) (fun h4 => ?_)
      · have h6 : gb (leftB S D1) y x = true := by rw [hg]; exact h4
        have h5 : gb S y x = true := by rw [hg, Bool.and_eq_true] at h6; exact h6.1
        refine WP.seq ?_
        refine WP.region ?_
        refine RG.pv rfl (PV.move (v := v) rfl rfl) ?_
        refine RG.pv rfl (PV.mvI (.inl rfl) rfl) ?_
        refine RG.pv rfl (PV.mvI (.inl rfl) rfl) ?_
        refine RG.pv rfl (PV.mvB (.inl rfl) rfl) ?_
        refine RG.callF (vs := [v, _, _, _]) rfl rfl En258 rfl (flood7n_s (Rs.up h1) hS (by omega) (by omega) h5 (fun v41 => ?_))
        refine RG.pv rfl (PV.asg (v := v41) rfl rfl) ?_
        refine RG.nil ?_
        refine WP.seq ?_
        refine WP.region ?_
        refine RG.pv rfl (PV.move (v := dv1) rfl rfl) ?_
        refine RG.pv rfl (PV.move (v := v41) rfl rfl) ?_
        refine RG.callF (vs := [dv1, v41, _]) rfl rfl En212 rfl (l04Combine_s Rs.o Rs.o hDl (compB_len _ _) (by omega) (fun v44 => ?_))
        refine RG.pv rfl (PV.asg (v := v44) rfl rfl) ?_
        refine RG.nil ?_
        refine WP.region ?_
        refine RG.pv rfl (PV.move (v := q1) rfl rfl) ?_
        refine RG.pv rfl (PV.move (v := v41) rfl rfl) ?_
        refine RG.ot rfl (OT.bslice (F := (slT (α := Bool))) (els := [⟨v41, compB S (y, x)⟩]) rfl El178 rfl (by decide) rfl (by decide) ⟨rfl, (Cl.s (v := v41) SlF.o), trivial⟩ fun v47 => ?_)
        refine RG.ot rfl (OT.append (v := q1) (u := v47) (F := (slT (α := Bool))) rfl El178 rfl (by decide) rfl rfl Rs.o (OneL.one (OneC.sl SlF.o OneC.nil)) rfl (by first | omega | (simp <;> omega)) fun v48 => ?_)
        refine RG.pv rfl (PV.asg (v := v48) rfl rfl) ?_
        refine RG.nil ?_
        refine WP.region ?_
        refine RG.pv rfl (PV.mvI (.inl rfl) rfl) ?_
        refine RG.pv rfl (PV.add rfl rfl rfl (by omega)) ?_
        refine RG.pv rfl (PV.mvI (.inr rfl) rfl) ?_
        refine RG.nil ?_
        have hcm := hP1.comp (n := y * 80 + x) (by omega) (by rw [e1, e2]; exact h6)
        rw [e3] at hcm
        refine ⟨rfl, (x : Int) - 40 + 1, (zipB (opF 14) D1 (compB S (y, x))), (zs1 ++ [⟨v41, compB S (y, x)⟩]), v48, v44, ⟨by omega, zipB_len hDl (compB_len _ _), ?_⟩, ⟨rfl, rfl, rfl, trivial⟩, ⟨rfl, rfl, rfl, trivial⟩, ((Cv.p (C := osl 4 boolT v41 (compB S (y, x)) :: bagS 4 boolT zs1 :: osl 149 slT v48 (zs1 ++ [⟨v41, compB S (y, x)⟩]) :: osl 4 boolT v44 (zipB (opF 14) D1 (compB S (y, x))) :: L)).trans (Cv.bagS_add.trans Cv.p)), by omega⟩
        rw [e4, er, List.map_append]
        have hk := hP1.take (T' := leftB S (zipB (opF 14) D1 (compB S (y, x)))) (n := y * 80 + x) (by omega) (by rw [e1, e2]; exact h6) (leftB_len hS (zipB_len hDl (compB_len _ _))) (fun y' x' hy' hx' => by
          rw [gb_left hS (zipB_len hDl (compB_len _ _)) hy' hx', gb_left hS hDl hy' hx', gb_zip hDl (compB_len _ _) hy' hx', e3, hcm, show ∀ a b : Bool, opF 14 a b = (a || b) by decide]
          cases gb S y' x' <;> cases gb D1 y' x' <;> simp)
        rw [e3, hcm] at hk
        exact hk
      · have h6 : gb (leftB S D1) y x = false := by rw [hg]; exact h4
        refine WP.skip ?_
        refine WP.region ?_
        refine RG.pv rfl (PV.mvI (.inl rfl) rfl) ?_
        refine RG.pv rfl (PV.add rfl rfl rfl (by omega)) ?_
        refine RG.pv rfl (PV.mvI (.inr rfl) rfl) ?_
        refine RG.nil ?_
        exact ⟨rfl, (x : Int) - 40 + 1, D1, zs1, q1, dv1, ⟨by omega, hDl, by rw [e4]; exact hP1.skip (by omega) (by rw [e1, e2]; exact h6)⟩, ⟨rfl, rfl, rfl, trivial⟩, ⟨rfl, rfl, rfl, trivial⟩, Cv.p, by omega⟩
    · have h3 := of_decide_eq_false h3
      obtain rfl : x = 80 := by omega
      refine WP.exit ?_
      refine WP.region ?_
      refine RG.pv rfl (PV.mvI (.inl rfl) rfl) ?_
      refine RG.pv rfl (PV.add rfl rfl rfl (by omega)) ?_
      refine RG.pv rfl (PV.mvI (.inr rfl) rfl) ?_
      refine RG.nil ?_
      exact ⟨rfl, (y : Int) - 40 + 1, D1, zs1, q1, dv1, ⟨by omega, hDl, by rw [show ((y : Int) - 40 + 1 + 40).toNat = y + 1 by omega, Nat.add_mul]; exact hP1⟩, ⟨rfl, rfl, rfl, trivial⟩, ⟨rfl, rfl, trivial⟩, Cv.p, by omega⟩
  · have h2 := of_decide_eq_false h2
    obtain rfl : y = 80 := by omega
    have hz := hP.all
    refine WP.exit ?_
    refine WP.seq ?_
    refine WP.region ?_
    refine RG.pv rfl (PV.move (v := q) rfl rfl) ?_
    refine RG.pv rfl (PV.asg (v := q) rfl rfl) ?_
    refine RG.nil ?_
    refine WP.ret ?_
    exact ⟨_, _, ResV.one rfl rfl, Cv.p, k q zs hz⟩
theorem comps7_s {v : Value} {xs : List Rect} (h1 : Rs G L rectT v xs) (hv : validRs xs = true) (k : ∀ v' zs, er zs = partsL (bits xs) → R v' G (osl 35 slT v' zs :: bagS 101 rectT zs :: L)) : CallT Tryz.prog 210 #[v] G L R := by
  refine CallT.enter (args := _) Tryz.func210 rfl rfl (by kernel_rfl) rfl ?_
  refine WP.seq ?_
  refine WP.region ?_
  refine RG.pv rfl (PV.asg rfl rfl) ?_
  refine RG.nil ?_
  refine WP.seq ?_
  refine WP.region ?_
  refine RG.ot rfl (OT.bslice (F := (slT (α := Rect))) (els := []) rfl El50 rfl (by decide) rfl (by decide) trivial fun v6 => ?_)
  refine RG.pv rfl (PV.asg (v := v6) rfl rfl) ?_
  refine RG.nil ?_
  refine WP.seq ?_
  refine WP.region ?_
  refine RG.pv rfl (PV.move (v := v) rfl rfl) ?_
  refine RG.callF (vs := [v]) rfl rfl En134 rfl (l03Bits_s (Rs.up h1) (fun j hj => valid_get hv hj) (fun v8 => ?_))
  refine RG.callF (vs := [v8, _]) rfl rfl En240 rfl (parts7_s Rs.o (bits_length _) (fun v9 zsv9 hev9 => ?_))
  refine RG.pv rfl (PV.asg (v := v9) rfl rfl) ?_
  refine RG.nil ?_
  refine WP.seq ?_
  refine WP.seq ?_
  refine WP.region ?_
  refine RG.pv rfl (PV.mvI (.inr rfl) rfl) ?_
  refine RG.nil ?_
  refine WP.block ?_
  have hzl : zsv9.length ≤ 6400 := by
    have := congrArg List.length hev9
    have h2 := comps_len (bits xs)
    rw [er_len] at this; omega
  refine WP.cv (((Cv.p (C := osl 35 slT v6 ([] : List (Sl Rect)) :: osl 149 slT v9 zsv9 :: bagS 4 boolT zsv9 :: L)).trans (Cv.cons (Cv.bag0 (e := 101) (F := rectT) (xs := []) rfl)))) ?_
  refine WP.loop3 [4] (fun (i : Nat) (ys : List (Sl Rect)) (q : Value) => i ≤ zsv9.length ∧ er ys = ((er zsv9).take i).map canon) (fun (i : Nat) (ys : List (Sl Rect)) (q : Value) => [(5, vi i), (3, q)]) (fun (i : Nat) (ys : List (Sl Rect)) (q : Value) => osl 35 slT q ys :: bagS 101 rectT ys :: osl 149 slT v9 zsv9 :: bagS 4 boolT zsv9 :: L) (fun (i : Nat) (ys : List (Sl Rect)) (q : Value) => zsv9.length - i) 0 [] v6 ⟨by omega, rfl⟩ ⟨rfl, rfl, trivial⟩ Cv.p ?_
  rintro i ys q τ ⟨hi, hys⟩
  refine WP.seq ?_
  refine WP.seq ?_
  refine WP.region ?_
  refine RG.pv rfl (PV.mvI (.inl rfl) rfl) ?_
  refine RG.pv rfl (PV.move (v := v9) rfl rfl) ?_
  refine RG.pv rfl (PV.len (v := v9) rfl Tryz.underlying178 rfl SlF.o) ?_
  refine RG.pv rfl (PV.lss rfl rfl rfl) ?_
  refine RG.nil ?_
  have hyl : ys.length = i := by
    have := congrArg List.length hys
    rw [er_len, List.length_map, List.length_take, er_len] at this; omega
  refine WP.cond rfl (fun h3 => ?_) (fun h3 => ?_)
  · have h3 := of_decide_eq_true h3
    have hci : (gd zsv9 i).xs.length = 6400 := by
      have e : (gd zsv9 i).xs ∈ comps (bits xs) := by rw [← hev9, ← er_gd]; rw [gd_eq (by rw [er_len]; omega)]; exact List.getElem_mem _
      obtain ⟨j0, _, e2⟩ := List.mem_map.1 e
      rw [← e2]; exact compB_len _ _
    refine WP.skip ?_
    refine WP.seq ?_
    refine WP.block ?_
    refine WP.region ?_
    refine RG.pv rfl (PV.move (v := q) rfl rfl) ?_
    refine RG.pv rfl (PV.move (v := v9) rfl rfl) ?_
    refine RG.pv rfl (PV.mvI (.inl rfl) rfl) ?_
    refine RG.pv rfl (PV.idxS (v := v9) rfl Is178 rfl SlF.o rfl rfl (by omega)) ?_
    refine RG.pv rfl (PV.loadE1 rfl Sc149 rfl rfl (El.o (getG (by omega))) rfl) ?_
    refine RG.callF (vs := [_]) rfl rfl En133 rfl (l03Canon_s (Rs.inBag (xs := zsv9) i (by omega)) hci (fun v21 => ?_))
    refine RG.ot rfl (OT.bslice (F := (slT (α := Rect))) (els := [⟨v21, canon (gd zsv9 i).xs⟩]) rfl El50 rfl (by decide) rfl (by decide) ⟨rfl, (Cl.s (v := v21) SlF.o), trivial⟩ fun v22 => ?_)
    refine RG.ot rfl (OT.append (v := q) (u := v22) (F := (slT (α := Rect))) rfl El50 rfl (by decide) rfl rfl Rs.o (OneL.one (OneC.sl SlF.o OneC.nil)) rfl (by first | omega | (simp <;> omega)) fun v23 => ?_)
    refine RG.pv rfl (PV.asg (v := v23) rfl rfl) ?_
    refine RG.nil ?_
    refine WP.region ?_
    refine RG.pv rfl (PV.mvI (.inl rfl) rfl) ?_
    refine RG.pv rfl (PV.add rfl rfl rfl (by omega)) ?_
    refine RG.pv rfl (PV.mvI (.inr rfl) rfl) ?_
    refine RG.nil ?_
    refine ⟨rfl, i + 1, (ys ++ [⟨v21, canon (gd zsv9 i).xs⟩]), v23, ⟨by omega, ?_⟩, ⟨rfl, rfl, trivial⟩, ⟨rfl, trivial⟩, ((Cv.p (C := osl 101 rectT v21 (canon (gd zsv9 i).xs) :: bagS 101 rectT ys :: osl 35 slT v23 (ys ++ [⟨v21, canon (gd zsv9 i).xs⟩]) :: osl 149 slT v9 zsv9 :: bagS 4 boolT zsv9 :: L)).trans (Cv.bagS_add.trans Cv.p)), by omega⟩
    rw [List.take_add_one, getG (by rw [er_len]; omega), List.map_append, ← hys, er_gd, er, List.map_append]; rfl
  · have h3 := of_decide_eq_false h3
    rw [List.take_of_length_le (by rw [er_len]; omega), hev9] at hys
    refine WP.exit ?_
    refine WP.seq ?_
    refine WP.region ?_
    refine RG.pv rfl (PV.move (v := q) rfl rfl) ?_
    refine RG.pv rfl (PV.asg (v := q) rfl rfl) ?_
    refine RG.nil ?_
    refine WP.ret ?_
    exact ⟨_, _, ResV.one rfl rfl, Cv.p, k q ys hys⟩
noncomputable def partN (r : List Rect) : Nat := (partsL (bits r)).length
noncomputable def connR (r : List Rect) : Bool := isReg r && decide (partN r = 1)
theorem compN_s {v : Value} {xs : List Rect} (h1 : Rs G L rectT v xs) (k : R (vi (if isReg xs = true then (partN xs : Int) else -1)) G L) : CallT Tryz.prog 179 #[v] G L R := by
  refine CallT.enter (args := _) Tryz.func179 rfl rfl (by kernel_rfl) rfl ?_
  refine WP.seq ?_
  refine WP.region ?_
  refine RG.pv rfl (PV.mvI (.inr rfl) rfl) ?_
  refine RG.nil ?_
  refine WP.seq ?_
  refine WP.seq ?_
  refine WP.region ?_
  refine RG.pv rfl (PV.move (v := v) rfl rfl) ?_
  refine RG.callF (vs := [v]) rfl rfl En68 rfl (l03Ok_s (Rs.up h1) ?_)
  refine RG.pv rfl (PV.not rfl rfl) ?_
  refine RG.nil ?_
  refine WP.cond rfl (fun h2 => ?_) (fun h2 => ?_)
  · rw [if_neg (by simpa using h2)] at k
    refine WP.seq ?_
    refine WP.region ?_
    refine RG.pv rfl (PV.mvI (.inr rfl) rfl) ?_
    refine RG.nil ?_
    refine WP.ret ?_
    exact ⟨_, _, ResV.one rfl rfl, Cv.p, k⟩
  · have hreg : isReg xs = true := by simpa using h2
    rw [if_pos hreg] at k
    refine WP.skip ?_
    refine WP.seq ?_
    refine WP.region ?_
    refine RG.pv rfl (PV.move (v := v) rfl rfl) ?_
    refine RG.callF (vs := [v]) rfl rfl En210 rfl (comps7_s (Rs.up h1) (isReg_valid hreg) (fun v7 zsv7 hev7 => ?_))
    refine RG.pv rfl (PV.len (v := v7) rfl Tryz.underlying50 rfl SlF.o) ?_
    refine RG.pv rfl (PV.mvI (.inr rfl) rfl) ?_
    refine RG.nil ?_
    refine WP.ret ?_
    have e : partN xs = zsv7.length := by rw [partN, ← hev7, er_len]
    rw [e] at k
    exact ⟨_, _, ResV.one rfl rfl, Cv.p, k⟩
theorem connR_s {v : Value} {xs : List Rect} (h1 : Rs G L rectT v xs) (k : R (.bool (connR xs)) G L) : CallT Tryz.prog 122 #[v] G L R := by
  have e : connR xs = decide ((if isReg xs = true then (partN xs : Int) else -1) = 1) := by
    rw [connR, Bool.eq_iff_iff]
    cases isReg xs <;> simp; omega
  rw [e] at k
  refine CallT.enter (args := _) Tryz.func122 rfl rfl (by kernel_rfl) rfl ?_
  refine WP.seq ?_
  refine WP.region ?_
  refine RG.pv rfl (PV.mvB (.inr rfl) rfl) ?_
  refine RG.nil ?_
  refine WP.seq ?_
  refine WP.region ?_
  refine RG.pv rfl (PV.move (v := v) rfl rfl) ?_
  refine RG.callF (vs := [v]) rfl rfl En179 rfl (compN_s (Rs.up h1) ?_)
  refine RG.pv rfl (PV.eql rfl rfl rfl) ?_
  refine RG.pv rfl (PV.mvB (.inr rfl) rfl) ?_
  refine RG.nil ?_
  refine WP.ret ?_
  exact ⟨_, _, ResV.one rfl rfl, Cv.p, k⟩
theorem connR_i {v : Value} {xs : List Rect} (h1 : Rs G L rectT v xs) (k : R (.bool (connR xs)) G L) : CallT Tryz.prog 127 #[v] G L R := by
  refine CallT.enter (args := _) Tryz.func127 rfl rfl (by kernel_rfl) rfl ?_
  refine WP.seq ?_
  refine WP.region ?_
  refine RG.pv rfl (PV.mvB (.inr rfl) rfl) ?_
  refine RG.nil ?_
  refine WP.seq ?_
  refine WP.region ?_
  refine RG.pv rfl (PV.move (v := v) rfl rfl) ?_
  refine RG.callF (vs := [v]) rfl rfl En73 rfl (isRegion_s (Rs.up h1) ?_)
  refine RG.pv rfl (PV.mvB (.inl rfl) rfl) ?_
  refine RG.spl (t := 5) rfl (fun g => ?_) (fun g => ?_)
  · refine RG.take rfl rfl rfl g ?_
    refine RG.pv rfl (PV.move (v := v) rfl rfl) ?_
    refine RG.take rfl rfl rfl g ?_
    refine RG.callF (vs := [v]) rfl rfl En182 rfl (components_s (Rs.up h1) (fun v7 zsv7 hev7 => ?_))
    refine RG.take rfl rfl rfl g ?_
    refine RG.pv rfl (PV.len (v := v7) rfl Tryz.underlying50 rfl SlF.o) ?_
    refine RG.take rfl rfl rfl g ?_
    refine RG.pv rfl (PV.eql rfl rfl rfl) ?_
    refine RG.pv rfl (PV.pickT rfl rfl g rfl) ?_
    refine RG.pv rfl (PV.mvB (.inr rfl) rfl) ?_
    refine RG.nil ?_
    refine WP.ret ?_
    have e : connR xs = decide ((zsv7.length : Int) = 1) := by
      rw [connR, g, partN, ← hev7, er_len, Bool.true_and, decide_eq_decide]; omega
    rw [e] at k
    exact ⟨_, _, ResV.one rfl rfl, Cv.p, k⟩
  · have e : connR xs = false := by rw [connR, g]; rfl
    rw [e] at k
    refine RG.skip rfl rfl rfl (gne g) ?_
    refine RG.skip rfl rfl rfl (gne g) ?_
    refine RG.skip rfl rfl rfl (gne g) ?_
    refine RG.skip rfl rfl rfl (gne g) ?_
    refine RG.pv rfl (PV.pickE rfl rfl g rfl) ?_
    refine RG.pv rfl (PV.mvB (.inr rfl) rfl) ?_
    refine RG.nil ?_
    refine WP.ret ?_
    exact ⟨_, _, ResV.one rfl rfl, Cv.p, k⟩
end Go.Proofs.YtgngpegmaceaiaaGreat
namespace Go.Proofs.YtgngpegmaceaiaaGreat
set_option linter.unusedVariables false
set_option linter.unusedSimpArgs false
open Go
set_option maxRecDepth 20000
set_option linter.unusedSimpArgs false
variable {G : Gh} {L : List Ch} {R : Value → Gh → List Ch → Prop}
def mkPc (p : Piece) (k : Int) : Piece := ⟨k, mkRS p.reg (k + 1)⟩
def nPc (p : Piece) : Int := 1 + nRS p.reg
theorem nPc_nn (p : Piece) : 0 ≤ nPc p := by have : 0 ≤ nRS p.reg := nSl_nn p.reg; simp only [nPc]; omega
theorem flat_setEq {α : Type} {F : FT α} {zs : List α} {i : Nat} {p q : α} (h : F.enc p = F.enc q) : F.flat (zs.set i p) = F.flat (zs.set i q) := by
  simp only [FT.flat, List.flatMap_def, List.map_set, h]
/-- only what lies in memory matters -/
theorem Cv.flat {α : Type} {e : TypeId} {F : FT α} {v : Value} {xs ys : List α} {L : List Ch} (h : F.flat xs = F.flat ys) (hl : xs.length = ys.length) : Cv (osl e F v xs :: L) (osl e F v ys :: L) :=
  Cv.imp fun hp hc => by
    rcases hc with ⟨rfl, rfl⟩ | ⟨b, cap, c, h1, h2, h3, h4, h5, h6⟩
    · exact .inl ⟨rfl, List.eq_nil_of_length_eq_zero (by simpa using hl.symm)⟩
    · exact .inr ⟨b, cap, c, by rw [← hl]; exact h1, h2, by rw [← hl]; exact h3, h4, h5, by rw [← hl, ← h]; exact h6⟩
theorem CallT.eq2 {P : Program} {f : FuncId} {v v' x : Value} (h : v = v') (k : CallT P f #[v', x] G L R) : CallT P f #[v, x] G L R := by subst h; exact k
theorem regs_set (zs : List Piece) (i : Nat) (p : Piece) : regs (zs.set i p) = (regs zs).set i p.reg := by simp [regs, List.map_set]
/-- a piece's region, out of the bag and written, goes back -/
theorem Cv.slotP {e e' : TypeId} {v : Value} {zs : List Piece} {p q : Piece} {ys : List Rect} {L : List Ch} (i : Nat) (hi : i < zs.length) (hq : q = ⟨p.layer, ⟨(gd zs i).reg.v, ys⟩⟩) (hp : p.reg.v = (gd zs i).reg.v) :
    Cv (osl e rectT (gd (regs zs) i).v ys :: osl e' pieceT v (zs.set i p) :: bag (((regs zs).map (ownS e rectT)).set i emp) :: L) (osl e' pieceT v (zs.set i q) :: bagS e rectT (regs (zs.set i q)) :: L) := by
  subst hq
  have h1 : Cv (osl e rectT (gd (regs zs) i).v ys :: osl e' pieceT v (zs.set i p) :: bag (((regs zs).map (ownS e rectT)).set i emp) :: L) (osl e' pieceT v (zs.set i p) :: osl e rectT (gd (regs zs) i).v ys :: bag (((regs zs).map (ownS e rectT)).set i emp) :: L) := Cv.swap (A := [osl e rectT (gd (regs zs) i).v ys]) (B := [osl e' pieceT v (zs.set i p)])
  refine h1.trans ((Cv.cons (Cv.bagS_put i (by rw [regs_len]; exact hi))).trans ?_)
  rw [regs_set, regs_gd hi]
  exact Cv.flat (flat_setEq (by simp [pieceT, hp])) (by simp)
def nPe (p : Int × List Rect) : Int := 1 + 4 * (p.2.length : Int)
theorem nPc_er (xs : List Piece) : costL nPc xs = costL nPe (erPs xs) := by
  induction xs with
  | nil => rfl
  | cons z zs ih => simp only [erPs, List.map_cons, costL] at ih ⊢; rw [ih]; simp only [nPc, nPe, nRS, nSl, nRect_cost, erP]
theorem pcE_len (l : List (List Rect)) : (pcE l).length ≤ 25600 := by
  unfold pcE
  cases isLay l
  · simp
  · have := pcL_len l 4
    simp only [cond_true, List.length_map]; omega
theorem pcE_cost (l : List (List Rect)) : costL nPe (pcE l) ≤ 12801 * 25600 := by
  have h1 : costL nPe (pcE l) ≤ 12801 * (pcE l).length := costL_bd fun p hp => by
    unfold pcE at hp
    cases hl : isLay l
    · rw [hl] at hp; cases hp
    · rw [hl] at hp
      obtain ⟨q, _, rfl⟩ := List.mem_map.1 hp
      have := canon_len q.2
      simp only [nPe, pcR]; omega
  have h2 := pcE_len l
  omega
end Go.Proofs.YtgngpegmaceaiaaGreat
namespace Go.Proofs.YtgngpegmaceaiaaGreat
set_option linter.unusedVariables false
set_option linter.unusedSimpArgs false
open Go
set_option maxRecDepth 20000
set_option linter.unusedSimpArgs false
variable {G : Gh} {L : List Ch} {R : Value → Gh → List Ch → Prop}
def mks (xs : List Viol) : List (Sl Rect) := xs.map Viol.marker
theorem mks_len (xs : List Viol) : (mks xs).length = xs.length := by simp [mks]
theorem mks_gd {xs : List Viol} {i : Nat} (h : i < xs.length) : gd (mks xs) i = (gd xs i).marker := gd_map _ h
theorem RsE.marker {xs : List Viol} (h : RsE G L rectT (mks xs)) {i : Nat} (hi : i < xs.length) : Rs G L rectT (gd xs i).marker.v (gd xs i).marker.xs := by
  have := h i (by rw [mks_len]; exact hi); rwa [mks_gd hi] at this
def erV (p : Viol) : Int × List Rect := (p.rule, p.marker.xs)
def erVs (xs : List Viol) : List (Int × List Rect) := xs.map erV
theorem erVs_len (xs : List Viol) : (erVs xs).length = xs.length := by simp [erVs]
theorem erVs_gd {xs : List Viol} {i : Nat} (h : i < xs.length) : gd (erVs xs) i = erV (gd xs i) := gd_map _ h
theorem erVs_get {xs ys : List Viol} (h : erVs xs = erVs ys) {i : Nat} (hi : i < ys.length) : erV (gd xs i) = erV (gd ys i) := by
  have hl : xs.length = ys.length := by rw [← erVs_len, ← erVs_len, h]
  rw [← erVs_gd (by omega), ← erVs_gd hi, h]
theorem erVs_of {xs ys : List Viol} (hl : xs.length = ys.length) (h : ∀ i, i < ys.length → erV (gd xs i) = erV (gd ys i)) : erVs xs = erVs ys := by
  apply List.ext_getElem?
  intro i
  by_cases hi : i < ys.length
  · rw [getG (by rw [erVs_len]; omega), getG (by rw [erVs_len]; omega), erVs_gd (by omega), erVs_gd hi, h i hi]
  · rw [List.getElem?_eq_none (by rw [erVs_len]; omega), List.getElem?_eq_none (by rw [erVs_len]; omega)]
theorem erVs_mks {xs ys : List Viol} (h : erVs xs = erVs ys) : er (mks xs) = er (mks ys) := by
  have : ∀ zs : List Viol, er (mks zs) = (erVs zs).map Prod.snd := fun zs => by simp [er, mks, erVs, erV, Function.comp_def]
  rw [this, this, h]
theorem toViol_s {p : Viol} (h : Rs G L rectT p.marker.v p.marker.xs) (hb : p.marker.xs.length ≤ 1048576) (k : ∀ v', R (vT violT ⟨p.rule, ⟨v', p.marker.xs⟩⟩) G (osl 101 rectT v' p.marker.xs :: L)) : CallT Tryz.prog 14 #[vT violT p] G L R := by
  refine CallT.enter (args := _) Tryz.func14 rfl rfl (by kernel_rfl) rfl ?_
  refine WP.seq ?_
  refine WP.region ?_
  refine RG.ot rfl (OT.box (cs := violT.enc p) rfl rfl rfl fun b1 => ?_)
  refine RG.ot rfl (OT.alloc rfl Zr37 fun b2 => ?_)
  refine RG.nil ?_
  refine WP.seq ?_
  refine WP.region ?_
  refine RG.ot rfl (OT.alloc rfl Zr37 fun b3 => ?_)
  refine RG.nil ?_
  refine WP.seq ?_
  refine WP.region ?_
  refine RG.pv rfl (PV.field rfl Fo27_0 rfl) ?_
  refine RG.pv rfl (PV.load1 rfl Sc2 rfl (Rd.blk rfl)) ?_
  refine RG.pv rfl (PV.field rfl Fo37_0 rfl) ?_
  refine RG.ot rfl (OT.storeB (vs := [vi _]) (cs' := [_, _]) rfl Sz2 rfl rfl (Cl.c rfl) rfl (OneC.c rfl) rfl rfl ?_)
  refine RG.nil ?_
  refine WP.seq ?_
  refine WP.region ?_
  refine RG.pv rfl (PV.field rfl Fo27_1 rfl) ?_
  refine RG.pv rfl (PV.load1 rfl Sc25 rfl (Rd.blk rfl)) ?_
  refine RG.callF (vs := [_]) rfl rfl En21 rfl (toRectS_s (Rs.up h) hb (fun v9 => ?_))
  refine RG.pv rfl (PV.field rfl Fo37_1 rfl) ?_
  refine RG.ot rfl (OT.storeB (v := v9) (vs := [_]) (cs' := [_, _]) rfl Sz35 rfl rfl (Cl.s (v := v9) SlF.o) rfl (OneC.sl SlF.o OneC.nil) rfl rfl ?_)
  refine RG.nil ?_
  refine WP.seq ?_
  refine WP.region ?_
  refine RG.pv rfl (PV.loadW rfl Ag37 rfl rfl) ?_
  refine RG.ot rfl (OT.storeW (vs := [vi _, _]) rfl Sz37 rfl rfl (Cl.c rfl) rfl rfl (OneC.val rfl (OneC.sl SlF.o OneC.nil)) ?_)
  refine RG.nil ?_
  refine WP.ret ?_
  exact ⟨_, _, ResV.one rfl (RV1.cell rfl Ag37 rfl), Cv.p, k v9⟩
theorem toViolS_s {v : Value} {xs : List Viol} (h1 : Rs G L violT v xs) (hd : RsE G L rectT (mks xs)) (hb : xs.length ≤ 1048576) (hbi : ∀ i, i < xs.length → (gd xs i).marker.xs.length ≤ 1048576) (k : ∀ v' ys, erVs ys = erVs xs → R v' G (osl 37 violT v' ys :: bagS 101 rectT (mks ys) :: L)) : CallT Tryz.prog 33 #[v] G L R := by
  refine CallT.enter (args := _) Tryz.func33 rfl rfl (by kernel_rfl) rfl ?_
  refine WP.seq ?_
  refine WP.region ?_
  refine RG.pv rfl (PV.asg rfl rfl) ?_
  refine RG.nil ?_
  refine WP.seq ?_
  refine WP.region ?_
  refine RG.pv rfl (PV.move (v := v) rfl rfl) ?_
  refine RG.pv rfl (PV.len (v := v) rfl Tryz.underlying59 rfl (SlF.r h1)) ?_
  refine RG.ot rfl (OT.make (F := violT) (a0 := default) rfl El66 rfl (by decide) rfl rfl (by omega) (by omega) fun v7 => ?_)
  refine RG.pv rfl (PV.asg (v := v7) rfl rfl) ?_
  refine RG.nil ?_
  refine WP.seq ?_
  refine WP.seq ?_
  refine WP.region ?_
  refine RG.pv rfl (PV.mvI (.inr rfl) rfl) ?_
  refine RG.nil ?_
  refine WP.block ?_
  refine WP.cv (Cv.cons (Cv.bag0 (e := 101) (F := rectT) (xs := mks ((List.replicate xs.length default).take 0)) rfl)) ?_
  refine WP.loop2 [0, 3] (fun (i : Nat) (ys : List Viol) => i ≤ xs.length ∧ ys.length = xs.length ∧ ∀ j, j < i → erV (gd ys j) = erV (gd xs j)) (fun (i : Nat) (ys : List Viol) => [(4, vi i)]) (fun (i : Nat) (ys : List Viol) => osl 37 violT v7 ys :: bagS 101 rectT (mks (ys.take i)) :: L) (fun (i : Nat) (ys : List Viol) => xs.length - i) 0 (List.replicate xs.length default) ⟨by omega, by simp, fun j h => by omega⟩ ⟨rfl, trivial⟩ Cv.p ?_
  rintro i ys τ ⟨hi, hl, he⟩
  refine WP.seq ?_
  refine WP.seq ?_
  refine WP.region ?_
  refine RG.pv rfl (PV.mvI (.inl rfl) rfl) ?_
  refine RG.pv rfl (PV.move (v := v) rfl rfl) ?_
  refine RG.pv rfl (PV.len (v := v) rfl Tryz.underlying59 rfl (SlF.r h1)) ?_
  refine RG.pv rfl (PV.lss rfl rfl rfl) ?_
  refine RG.nil ?_
  refine WP.cond rfl (fun h2 => ?_) (fun h2 => ?_)
  · have h2 := of_decide_eq_true h2
    have h3 : i < ys.length := by omega
    refine WP.skip ?_
    refine WP.seq ?_
    refine WP.block ?_
    refine WP.region ?_
    refine RG.pv rfl (PV.move (v := v7) rfl rfl) ?_
    refine RG.pv rfl (PV.mvI (.inl rfl) rfl) ?_
    refine RG.pv rfl (PV.move (v := v) rfl rfl) ?_
    refine RG.pv rfl (PV.mvI (.inl rfl) rfl) ?_
    refine RG.pv rfl (PV.idxS (v := v) rfl Is59 rfl (SlF.r h1) rfl rfl (by omega)) ?_
    refine RG.pv rfl (PV.loadE rfl Ag27 rfl rfl (El.r h1 (getG (by omega)))) ?_
    refine RG.callF (vs := [_]) rfl rfl En14 rfl (toViol_s (hd.marker (by omega)).up (hbi i (by omega)) (fun w20 => ?_))
    refine RG.pv rfl (PV.idxS (v := v7) rfl Is66 rfl SlF.o rfl rfl (by omega)) ?_
    refine RG.ot rfl (OT.storeE (a := ⟨(gd xs i).rule, ⟨w20, (gd xs i).marker.xs⟩⟩) (F := violT) rfl Sz37 rfl rfl rfl (Cl.c rfl) (OneC.val rfl (OneC.sl SlF.o OneC.nil)) (by omega) ?_)
    refine RG.nil ?_
    refine WP.region ?_
    refine RG.pv rfl (PV.mvI (.inl rfl) rfl) ?_
    refine RG.pv rfl (PV.add rfl rfl rfl (by omega)) ?_
    refine RG.pv rfl (PV.mvI (.inr rfl) rfl) ?_
    refine RG.nil ?_
    refine ⟨rfl, i + 1, _, ⟨by omega, by simpa using hl, fun j hj => ?_⟩, ⟨rfl, trivial⟩, ⟨rfl, rfl, trivial⟩, (Cv.cons (Cv.grow (by rw [take_set_succ h3]; simp [mks]))), by omega⟩
    by_cases c : j = i
    · subst c; simp [gd, h3, erV]
    · have := he j (by omega)
      simpa [gd, List.getElem?_set, Ne.symm c] using this
  · have h2 := of_decide_eq_false h2
    have e : ys.take i = ys := List.take_of_length_le (by omega)
    rw [e]
    refine WP.exit ?_
    refine WP.seq ?_
    refine WP.region ?_
    refine RG.pv rfl (PV.move (v := v7) rfl rfl) ?_
    refine RG.pv rfl (PV.asg (v := v7) rfl rfl) ?_
    refine RG.nil ?_
    refine WP.ret ?_
    exact ⟨_, _, ResV.one rfl rfl, Cv.p, k v7 ys (erVs_of hl (fun j hj => he j (by omega)))⟩
theorem szViol_s {p : Viol} {n : Int} (h : Rs G L rectT p.marker.v p.marker.xs) (hn : n ≤ 1048576) (h0 : 0 ≤ n) (k : ∀ r : Int, r ≤ n → (0 ≤ r → r = n - lenS p.marker) → R (vi r) G L) : CallT Tryz.prog 11 #[vT violT p, vi n] G L R := by
  refine CallT.enter (args := _) Tryz.func11 rfl rfl (by kernel_rfl) rfl ?_
  refine WP.seq ?_
  refine WP.region ?_
  refine RG.ot rfl (OT.box (cs := violT.enc p) rfl rfl rfl fun b2 => ?_)
  refine RG.pv rfl (PV.mvI (.inr rfl) rfl) ?_
  refine RG.nil ?_
  refine WP.seq ?_
  refine WP.region ?_
  refine RG.pv rfl (PV.field rfl Fo27_1 rfl) ?_
  refine RG.pv rfl (PV.load1 rfl Sc25 rfl (Rd.blk rfl)) ?_
  refine RG.pv rfl (PV.mvI (.inl rfl) rfl) ?_
  refine RG.callF (vs := [_, _]) rfl rfl En18 rfl (szRectS_s (Rs.up h) (by omega) (by omega) (fun r hr hr' => ?_))
  refine RG.pv rfl (PV.mvI (.inr rfl) rfl) ?_
  refine RG.nil ?_
  refine WP.seq ?_
  refine WP.seq ?_
  refine WP.region ?_
  refine RG.pv rfl (PV.mvI (.inl rfl) rfl) ?_
  refine RG.pv rfl (PV.lss rfl rfl rfl) ?_
  refine RG.nil ?_
  refine WP.cond rfl (fun h2 => ?_) (fun h2 => ?_)
  · refine WP.seq ?_
    refine WP.region ?_
    refine RG.pv rfl (PV.mvI (.inr rfl) rfl) ?_
    refine RG.nil ?_
    refine WP.ret ?_
    exact ⟨_, _, ResV.one rfl rfl, Cv.p, k _ (by omega) (fun h => by omega)⟩
  · refine WP.skip ?_
    refine WP.seq ?_
    refine WP.region ?_
    refine RG.pv rfl (PV.mvI (.inl rfl) rfl) ?_
    refine RG.pv rfl (PV.mvI (.inr rfl) rfl) ?_
    refine RG.nil ?_
    refine WP.ret ?_
    exact ⟨_, _, ResV.one rfl rfl, Cv.p, k _ (by omega) (fun h => by have := hr' h; simp only [lenS]; omega)⟩
theorem szViolS_s {v : Value} {xs : List Viol} {n : Int} (h1 : Rs G L violT v xs) (hd : RsE G L rectT (mks xs)) (hn : n ≤ 1048576) (h0 : 0 ≤ n) (k : ∀ r : Int, r ≤ n → (0 ≤ r → r = n - szOf (mks xs)) → R (vi r) G L) : CallT Tryz.prog 30 #[v, vi n] G L R := by
  refine CallT.bd h1 fun hb => ?_
  have hrl := mks_len xs
  refine CallT.enter (args := _) Tryz.func30 rfl rfl (by kernel_rfl) rfl ?_
  refine WP.seq ?_
  refine WP.region ?_
  refine RG.pv rfl (PV.mvI (.inr rfl) rfl) ?_
  refine RG.nil ?_
  refine WP.seq ?_
  refine WP.region ?_
  refine RG.pv rfl (PV.mvI (.inl rfl) rfl) ?_
  refine RG.pv rfl (PV.move (v := v) rfl rfl) ?_
  refine RG.pv rfl (PV.len (v := v) rfl Tryz.underlying59 rfl (SlF.r h1)) ?_
  refine RG.pv rfl (PV.sub rfl rfl rfl (by omega)) ?_
  refine RG.pv rfl (PV.mvI (.inr rfl) rfl) ?_
  refine RG.nil ?_
  refine WP.seq ?_
  refine WP.seq ?_
  refine WP.region ?_
  refine RG.pv rfl (PV.mvI (.inl rfl) rfl) ?_
  refine RG.pv rfl (PV.lss rfl rfl rfl) ?_
  refine RG.nil ?_
  refine WP.cond rfl (fun h2 => ?_) (fun h2 => ?_)
  · have h2 := of_decide_eq_true h2
    refine WP.seq ?_
    refine WP.region ?_
    refine RG.pv rfl (PV.mvI (.inr rfl) rfl) ?_
    refine RG.nil ?_
    refine WP.ret ?_
    exact ⟨_, _, ResV.one rfl rfl, Cv.p, k _ (by omega) (fun h => by omega)⟩
  · have h2 := of_decide_eq_false h2
    refine WP.skip ?_
    refine WP.seq ?_
    refine WP.seq ?_
    refine WP.region ?_
    refine RG.pv rfl (PV.mvI (.inr rfl) rfl) ?_
    refine RG.nil ?_
    refine WP.block ?_
    refine WP.loop2 [0] (fun (i : Nat) (m : Int) => i ≤ xs.length ∧ 0 ≤ m ∧ m = n - xs.length - costL lenS ((mks xs).take i)) (fun (i : Nat) (m : Int) => [(5, vi i), (1, vi m)]) (fun (i : Nat) (m : Int) => L) (fun (i : Nat) (m : Int) => xs.length - i) 0 (n - xs.length) ⟨by omega, by omega, by simp [costL]⟩ ⟨rfl, rfl, trivial⟩ Cv.p ?_
    rintro i m τ ⟨hi, hm0, hm1⟩
    refine WP.seq ?_
    refine WP.seq ?_
    refine WP.region ?_
    refine RG.pv rfl (PV.mvI (.inl rfl) rfl) ?_
    refine RG.pv rfl (PV.move (v := v) rfl rfl) ?_
    refine RG.pv rfl (PV.len (v := v) rfl Tryz.underlying59 rfl (SlF.r h1)) ?_
    refine RG.pv rfl (PV.lss rfl rfl rfl) ?_
    refine RG.nil ?_
    refine WP.cond rfl (fun h3 => ?_) (fun h3 => ?_)
    · have h3 := of_decide_eq_true h3
      have hct := costL_take lenS (xs := mks xs) (i := i) (by omega)
      rw [mks_gd (by omega)] at hct
      have hcn : 0 ≤ costL lenS ((mks xs).take i) := costL_nonneg lenS_nn _
      refine WP.skip ?_
      refine WP.seq ?_
      refine WP.block ?_
      refine WP.seq ?_
      refine WP.region ?_
      refine RG.pv rfl (PV.move (v := v) rfl rfl) ?_
      refine RG.pv rfl (PV.mvI (.inl rfl) rfl) ?_
      refine RG.pv rfl (PV.idxS (v := v) rfl Is59 rfl (SlF.r h1) rfl rfl (by omega)) ?_
      refine RG.pv rfl (PV.loadE rfl Ag27 rfl rfl (El.r h1 (getG (by omega)))) ?_
      refine RG.pv rfl (PV.mvI (.inl rfl) rfl) ?_
      refine RG.callF (vs := [_, _]) rfl rfl En11 rfl (szViol_s (hd.marker (by omega)).up (by omega) (by omega) (fun r hr hr' => ?_))
      refine RG.pv rfl (PV.mvI (.inr rfl) rfl) ?_
      refine RG.nil ?_
      refine WP.seq ?_
      refine WP.region ?_
      refine RG.pv rfl (PV.mvI (.inl rfl) rfl) ?_
      refine RG.pv rfl (PV.lss rfl rfl rfl) ?_
      refine RG.nil ?_
      refine WP.cond rfl (fun h5 => ?_) (fun h5 => ?_)
      · have h5 := of_decide_eq_true h5
        refine WP.seq ?_
        refine WP.region ?_
        refine RG.pv rfl (PV.mvI (.inr rfl) rfl) ?_
        refine RG.nil ?_
        refine WP.ret ?_
        exact ⟨_, _, ResV.one rfl rfl, Cv.p, k _ (by omega) (fun h => by omega)⟩
      · have h5 := of_decide_eq_false h5
        have hr2 := hr' (by omega)
        refine WP.skip ?_
        refine WP.region ?_
        refine RG.pv rfl (PV.mvI (.inl rfl) rfl) ?_
        refine RG.pv rfl (PV.add rfl rfl rfl (by omega)) ?_
        refine RG.pv rfl (PV.mvI (.inr rfl) rfl) ?_
        refine RG.nil ?_
        exact ⟨rfl, i + 1, _, ⟨by omega, by omega, by omega⟩, ⟨rfl, rfl, trivial⟩, ⟨rfl, trivial⟩, Cv.p, by omega⟩
    · have h3 := of_decide_eq_false h3
      refine WP.exit ?_
      refine WP.seq ?_
      refine WP.region ?_
      refine RG.pv rfl (PV.mvI (.inl rfl) rfl) ?_
      refine RG.pv rfl (PV.mvI (.inr rfl) rfl) ?_
      refine RG.nil ?_
      refine WP.ret ?_
      exact ⟨_, _, ResV.one rfl rfl, Cv.p, k _ (by have : 0 ≤ costL lenS ((mks xs).take i) := costL_nonneg lenS_nn _; omega) (fun h => by rw [List.take_of_length_le (by omega)] at hm1; simp only [szOf]; omega)⟩
theorem eqViol_s {p q : Viol} (h1 : Rs G L rectT p.marker.v p.marker.xs) (h2 : Rs G L rectT q.marker.v q.marker.xs) (k : R (.bool (decide (erV p = erV q))) G L) : CallT Tryz.prog 17 #[vT violT p, vT violT q] G L R := by
  refine CallT.enter (args := _) Tryz.func17 rfl rfl (by kernel_rfl) rfl ?_
  refine WP.seq ?_
  refine WP.region ?_
  refine RG.ot rfl (OT.box (cs := violT.enc p) rfl rfl rfl fun b2 => ?_)
  refine RG.ot rfl (OT.box (cs := violT.enc q) rfl rfl rfl fun b3 => ?_)
  refine RG.pv rfl (PV.mvB (.inr rfl) rfl) ?_
  refine RG.nil ?_
  refine WP.seq ?_
  refine WP.seq ?_
  refine WP.region ?_
  refine RG.pv rfl (PV.field rfl Fo37_0 rfl) ?_
  refine RG.pv rfl (PV.load1 rfl Sc2 rfl (Rd.blk rfl)) ?_
  refine RG.pv rfl (PV.field rfl Fo37_0 rfl) ?_
  refine RG.pv rfl (PV.load1 rfl Sc2 rfl (Rd.blk rfl)) ?_
  refine RG.pv rfl (PV.neq rfl rfl rfl) ?_
  refine RG.nil ?_
  refine WP.cond rfl (fun h3 => ?_) (fun h3 => ?_)
  · have e : decide (erV p = erV q) = false := by
      rw [decide_eq_false_iff_not]; intro h; simp [erV] at h h3; exact h3 h.1
    rw [e] at k
    refine WP.seq ?_
    refine WP.region ?_
    refine RG.pv rfl (PV.mvB (.inr rfl) rfl) ?_
    refine RG.nil ?_
    refine WP.ret ?_
    exact ⟨_, _, ResV.one rfl rfl, Cv.p, k⟩
  · refine WP.skip ?_
    refine WP.seq ?_
    refine WP.seq ?_
    refine WP.region ?_
    refine RG.pv rfl (PV.field rfl Fo37_1 rfl) ?_
    refine RG.pv rfl (PV.load1 rfl Sc35 rfl (Rd.blk rfl)) ?_
    refine RG.pv rfl (PV.field rfl Fo37_1 rfl) ?_
    refine RG.pv rfl (PV.load1 rfl Sc35 rfl (Rd.blk rfl)) ?_
    refine RG.callF (vs := [_, _]) rfl rfl En25 rfl (eqRectS_s (Rs.up h1) (Rs.up h2) ?_)
    refine RG.pv rfl (PV.not rfl rfl) ?_
    refine RG.nil ?_
    refine WP.cond rfl (fun h4 => ?_) (fun h4 => ?_)
    · have e : decide (erV p = erV q) = false := by
        rw [decide_eq_false_iff_not]; intro h; simp [erV] at h h4; exact h4 h.2
      rw [e] at k
      refine WP.seq ?_
      refine WP.region ?_
      refine RG.pv rfl (PV.mvB (.inr rfl) rfl) ?_
      refine RG.nil ?_
      refine WP.ret ?_
      exact ⟨_, _, ResV.one rfl rfl, Cv.p, k⟩
    · have e : decide (erV p = erV q) = true := by
        simp at h3 h4; simp [erV, h3, h4]
      rw [e] at k
      refine WP.skip ?_
      refine WP.seq ?_
      refine WP.region ?_
      refine RG.pv rfl (PV.mvB (.inr rfl) rfl) ?_
      refine RG.nil ?_
      refine WP.ret ?_
      exact ⟨_, _, ResV.one rfl rfl, Cv.p, k⟩
theorem eqViolS_s {v u : Value} {xs ys : List Viol} (h1 : Rs G L violT v xs) (hd : RsE G L rectT (mks xs)) (h2 : Rs G L violT u ys) (hd' : RsE G L rectT (mks ys)) (k : R (.bool (decide (erVs xs = erVs ys))) G L) : CallT Tryz.prog 37 #[v, u] G L R := by
  refine CallT.bd h1 fun hb => ?_
  refine CallT.bd h2 fun hb' => ?_
  refine CallT.enter (args := _) Tryz.func37 rfl rfl (by kernel_rfl) rfl ?_
  refine WP.seq ?_
  refine WP.region ?_
  refine RG.pv rfl (PV.mvB (.inr rfl) rfl) ?_
  refine RG.nil ?_
  refine WP.seq ?_
  refine WP.seq ?_
  refine WP.region ?_
  refine RG.pv rfl (PV.move (v := v) rfl rfl) ?_
  refine RG.pv rfl (PV.len (v := v) rfl Tryz.underlying66 rfl (SlF.r h1)) ?_
  refine RG.pv rfl (PV.move (v := u) rfl rfl) ?_
  refine RG.pv rfl (PV.len (v := u) rfl Tryz.underlying66 rfl (SlF.r h2)) ?_
  refine RG.pv rfl (PV.neq rfl rfl rfl) ?_
  refine RG.nil ?_
  refine WP.cond rfl (fun h3 => ?_) (fun h3 => ?_)
  · have e : decide (erVs xs = erVs ys) = false := by
      rw [decide_eq_false_iff_not]; intro h; have := congrArg List.length h; rw [erVs_len, erVs_len] at this; simp at h3; omega
    rw [e] at k
    refine WP.seq ?_
    refine WP.region ?_
    refine RG.pv rfl (PV.mvB (.inr rfl) rfl) ?_
    refine RG.nil ?_
    refine WP.ret ?_
    exact ⟨_, _, ResV.one rfl rfl, Cv.p, k⟩
  · have hl : xs.length = ys.length := by simp at h3; omega
    refine WP.skip ?_
    refine WP.seq ?_
    refine WP.seq ?_
    refine WP.region ?_
    refine RG.pv rfl (PV.mvI (.inr rfl) rfl) ?_
    refine RG.nil ?_
    refine WP.block ?_
    refine WP.loop1 [0, 1] (fun i => i ≤ xs.length ∧ ∀ j, j < i → erV (gd xs j) = erV (gd ys j)) (fun i => [(5, vi i)]) (fun i => L) (fun i => xs.length - i) 0 ⟨by omega, fun j h => by omega⟩ ⟨rfl, trivial⟩ Cv.p ?_
    rintro i τ ⟨hi, he⟩
    refine WP.seq ?_
    refine WP.seq ?_
    refine WP.region ?_
    refine RG.pv rfl (PV.mvI (.inl rfl) rfl) ?_
    refine RG.pv rfl (PV.move (v := v) rfl rfl) ?_
    refine RG.pv rfl (PV.len (v := v) rfl Tryz.underlying66 rfl (SlF.r h1)) ?_
    refine RG.pv rfl (PV.lss rfl rfl rfl) ?_
    refine RG.nil ?_
    refine WP.cond rfl (fun h4 => ?_) (fun h4 => ?_)
    · have h4 := of_decide_eq_true h4
      have h5 : i < xs.length := by omega
      refine WP.skip ?_
      refine WP.seq ?_
      refine WP.block ?_
      refine WP.seq ?_
      refine WP.regionQ (by kernel_rfl) (by kernel_rfl) ?_
      refine RQ.pv rfl (PV.move (v := v) rfl rfl) ?_
      refine RQ.pv rfl (PV.mvI (.inl rfl) rfl) ?_
      refine RQ.pv rfl (PV.idxS (v := v) rfl Is66 rfl (SlF.r h1) rfl rfl (by omega)) ?_
      refine RQ.pv rfl (PV.loadE rfl Ag37 rfl rfl (El.r h1 (getG (by omega)))) ?_
      refine RQ.pv rfl (PV.move (v := u) rfl rfl) ?_
      refine RQ.pv rfl (PV.mvI (.inl rfl) rfl) ?_
      refine RQ.pv rfl (PV.idxS (v := u) rfl Is66 rfl (SlF.r h2) rfl rfl (by omega)) ?_
      refine RQ.pv rfl (PV.loadE rfl Ag37 rfl rfl (El.r h2 (getG (by omega)))) ?_
      refine RQ.callF (vs := [_, _]) rfl rfl En17 rfl (eqViol_s (hd.marker (by omega)).up (hd'.marker (by omega)).up ⟨rfl, rfl, rfl⟩) ?_
      refine RQ.pv rfl (PV.not rfl rfl) ?_
      refine RQ.nil ?_
      refine WP.cond rfl (fun h6 => ?_) (fun h6 => ?_)
      · have e : decide (erVs xs = erVs ys) = false := by
          rw [decide_eq_false_iff_not]; intro h; simp [erVs_get h (i := i) (by omega)] at h6
        rw [e] at k
        refine WP.seq ?_
        refine WP.region ?_
        refine RG.pv rfl (PV.mvB (.inr rfl) rfl) ?_
        refine RG.nil ?_
        refine WP.ret ?_
        exact ⟨_, _, ResV.one rfl rfl, Cv.p, k⟩
      · have e : erV (gd xs i) = erV (gd ys i) := by simpa using h6
        have he' : ∀ j, j < i + 1 → erV (gd xs j) = erV (gd ys j) := fun j h => by
          by_cases c : j = i
          · rw [c, e]
          · exact he j (by omega)
        refine WP.skip ?_
        refine WP.region ?_
        refine RG.pv rfl (PV.mvI (.inl rfl) rfl) ?_
        refine RG.pv rfl (PV.add rfl rfl rfl (by omega)) ?_
        refine RG.pv rfl (PV.mvI (.inr rfl) rfl) ?_
        refine RG.nil ?_
        exact ⟨rfl, i + 1, ⟨by omega, he'⟩, ⟨rfl, trivial⟩, ⟨rfl, rfl, trivial⟩, Cv.p, by omega⟩
    · have h4 := of_decide_eq_false h4
      have e : decide (erVs xs = erVs ys) = true := by
        rw [decide_eq_true_iff]; exact erVs_of hl (fun j hj => he j (by omega))
      rw [e] at k
      refine WP.exit ?_
      refine WP.seq ?_
      refine WP.region ?_
      refine RG.pv rfl (PV.mvB (.inr rfl) rfl) ?_
      refine RG.nil ?_
      refine WP.ret ?_
      exact ⟨_, _, ResV.one rfl rfl, Cv.p, k⟩
def mkVi (p : Viol) (k : Int) : Viol := ⟨k, mkRS p.marker (k + 1)⟩
def nVi (p : Viol) : Int := 1 + nRS p.marker
theorem nVi_nn (p : Viol) : 0 ≤ nVi p := by have : 0 ≤ nRS p.marker := nSl_nn p.marker; simp only [nVi]; omega
theorem mks_set (zs : List Viol) (i : Nat) (p : Viol) : mks (zs.set i p) = (mks zs).set i p.marker := by simp [mks, List.map_set]
/-- a piece's region, out of the bag and written, goes back -/
theorem Cv.slotV {e e' : TypeId} {v : Value} {zs : List Viol} {p q : Viol} {ys : List Rect} {L : List Ch} (i : Nat) (hi : i < zs.length) (hq : q = ⟨p.rule, ⟨(gd zs i).marker.v, ys⟩⟩) (hp : p.marker.v = (gd zs i).marker.v) :
    Cv (osl e rectT (gd (mks zs) i).v ys :: osl e' violT v (zs.set i p) :: bag (((mks zs).map (ownS e rectT)).set i emp) :: L) (osl e' violT v (zs.set i q) :: bagS e rectT (mks (zs.set i q)) :: L) := by
  subst hq
  have h1 : Cv (osl e rectT (gd (mks zs) i).v ys :: osl e' violT v (zs.set i p) :: bag (((mks zs).map (ownS e rectT)).set i emp) :: L) (osl e' violT v (zs.set i p) :: osl e rectT (gd (mks zs) i).v ys :: bag (((mks zs).map (ownS e rectT)).set i emp) :: L) := Cv.swap (A := [osl e rectT (gd (mks zs) i).v ys]) (B := [osl e' violT v (zs.set i p)])
  refine h1.trans ((Cv.cons (Cv.bagS_put i (by rw [mks_len]; exact hi))).trans ?_)
  rw [mks_set, mks_gd hi]
  exact Cv.flat (flat_setEq (by simp [violT, hp])) (by simp)
theorem markViolS_s {v : Value} {xs : List Viol} {k0 : Int} (hk : 0 ≤ k0) (hb : k0 + costL nVi xs ≤ 4611686018427387904) (k : R (vi (k0 + costL nVi xs)) G (osl 37 violT v (markL mkVi nVi xs k0) :: bagS 101 rectT (mks (markL mkVi nVi xs k0)) :: L)) :
    CallT Tryz.prog 39 #[v, vi k0] G (osl 37 violT v xs :: bagS 101 rectT (mks xs) :: L) R := by
  refine CallT.bd (T := violT) (v := v) (xs := xs) Rs.o fun hb2 => ?_
  refine CallT.cv (L' := osl 37 violT v (markTo mkVi nVi xs k0 0) :: bagS 101 rectT (mks (markTo mkVi nVi xs k0 0)) :: L) (Cv.cast (by rw [markTo_zero])) ?_
  refine CallT.enter (args := _) Tryz.func39 rfl rfl (by kernel_rfl) rfl ?_
  refine WP.seq ?_
  refine WP.region ?_
  refine RG.pv rfl (PV.mvI (.inr rfl) rfl) ?_
  refine RG.nil ?_
  refine WP.seq ?_
  refine WP.seq ?_
  refine WP.region ?_
  refine RG.pv rfl (PV.mvI (.inr rfl) rfl) ?_
  refine RG.nil ?_
  refine WP.block ?_
  refine WP.loop2 [0] (fun (i : Nat) (kk : Int) => i ≤ xs.length ∧ kk = k0 + costL nVi (xs.take i)) (fun (i : Nat) (kk : Int) => [(5, vi i), (1, vi kk)]) (fun (i : Nat) (kk : Int) => osl 37 violT v (markTo mkVi nVi xs k0 i) :: bagS 101 rectT (mks (markTo mkVi nVi xs k0 i)) :: L) (fun (i : Nat) (kk : Int) => xs.length - i) 0 k0 ⟨by omega, by simp [costL]⟩ ⟨rfl, rfl, trivial⟩ Cv.p ?_
  rintro i kk τ ⟨hi, hkk⟩
  refine WP.seq ?_
  refine WP.seq ?_
  refine WP.region ?_
  refine RG.pv rfl (PV.mvI (.inl rfl) rfl) ?_
  refine RG.pv rfl (PV.move (v := v) rfl rfl) ?_
  refine RG.pv rfl (PV.len (v := v) rfl Tryz.underlying66 rfl SlF.o) ?_
  refine RG.pv rfl (PV.lss rfl rfl rfl) ?_
  refine RG.nil ?_
  have hml := markTo_len (mk := mkVi) (n := nVi) (k := k0) hi
  refine WP.cond rfl (fun h1 => ?_) (fun h1 => ?_)
  · have h1 := of_decide_eq_true h1
    have h2 : i < xs.length := by omega
    have hmg := markTo_gd (mk := mkVi) (n := nVi) (k := k0) h2
    have hc := costL_take nVi h2
    have hc1 : costL nVi (xs.take (i + 1)) ≤ costL nVi xs := costL_le nVi_nn xs (i + 1)
    have hc2 : 0 ≤ costL nVi (xs.take i) := costL_nonneg nVi_nn (xs.take i)
    have hc3 : 0 ≤ nRS (gd xs i).marker := nSl_nn (gd xs i).marker
    have hc5 : nVi (gd xs i) = 1 + nRS (gd xs i).marker := rfl
    have hgi : gd (mks (markTo mkVi nVi xs k0 i)) i = (gd xs i).marker := by rw [mks_gd (by omega), hmg]
    have hc4 : costL nRect (gd (mks (markTo mkVi nVi xs k0 i)) i).xs = nRS (gd xs i).marker := by rw [hgi]; rfl
    have hgs : (gd ((markTo mkVi nVi xs k0 i).set i (Viol.s0 kk (gd (markTo mkVi nVi xs k0 i) i))) i).marker.v = (gd (mks (markTo mkVi nVi xs k0 i)) i).v := by
      rw [hgi]; simp [gd, hml, h2, ← hmg]
    refine WP.cv (Cv.cons (Cv.bagS_take i (by rw [mks_len]; omega))) ?_
    refine WP.skip ?_
    refine WP.seq ?_
    refine WP.block ?_
    refine WP.seq ?_
    refine WP.region ?_
    refine RG.pv rfl (PV.move (v := v) rfl rfl) ?_
    refine RG.pv rfl (PV.mvI (.inl rfl) rfl) ?_
    refine RG.pv rfl (PV.mvI (.inl rfl) rfl) ?_
    refine RG.pv rfl (PV.idxS (v := v) rfl Is66 rfl SlF.o rfl rfl (by omega)) ?_
    refine RG.pv rfl (PV.field rfl Fo37_0 rfl) ?_
    refine RG.ot rfl (OT.storeF (F := violT) (val := vi) (cv := fun u => [vi u]) (st := Viol.s0) rfl Sz2 rfl rfl rfl (Cl.c rfl) rfl (OneC.c rfl) (by exact set_self (by omega)) (by first | omega | (simp; omega)) rfl (fun _ _ => rfl) ?_)
    refine RG.nil ?_
    refine WP.seq ?_
    refine WP.region ?_
    refine RG.pv rfl (PV.mvI (.inl rfl) rfl) ?_
    refine RG.pv rfl (PV.add rfl rfl rfl (by first | omega | (simp only [List.length_set]; omega))) ?_
    refine RG.pv rfl (PV.mvI (.inr rfl) rfl) ?_
    refine RG.nil ?_
    refine WP.region ?_
    refine RG.pv rfl (PV.move (v := v) rfl rfl) ?_
    refine RG.pv rfl (PV.mvI (.inl rfl) rfl) ?_
    refine RG.pv rfl (PV.idxS (v := v) rfl Is66 rfl SlF.o rfl rfl (by first | omega | (simp only [List.length_set]; omega))) ?_
    refine RG.pv rfl (PV.field rfl Fo37_1 rfl) ?_
    refine RG.pv rfl (PV.loadF rfl Sc35 rfl rfl (El.o (getG (by first | omega | (simp only [List.length_set]; omega)))) rfl) ?_
    refine RG.pv rfl (PV.mvI (.inl rfl) rfl) ?_
    refine RG.callF (vs := [_, _]) rfl rfl En27 rfl (CallT.eq2 hgs (CallT.exS (gd (mks (markTo mkVi nVi xs k0 i)) i).v (markRectS_s (by omega) (by omega) ?_)))
    refine RG.pv rfl (PV.mvI (.inr rfl) rfl) ?_
    refine RG.nil ?_
    refine WP.region ?_
    refine RG.pv rfl (PV.mvI (.inl rfl) rfl) ?_
    refine RG.pv rfl (PV.add rfl rfl rfl (by first | omega | (simp only [List.length_set]; omega))) ?_
    refine RG.pv rfl (PV.mvI (.inr rfl) rfl) ?_
    refine RG.nil ?_
    exact ⟨rfl, i + 1, _, ⟨by omega, by rw [hc]; omega⟩, ⟨rfl, rfl, trivial⟩, ⟨rfl, trivial⟩, ((Cv.slotV (zs := markTo mkVi nVi xs k0 i) (p := Viol.s0 kk (gd (markTo mkVi nVi xs k0 i) i)) (q := mkVi (gd xs i) (k0 + costL nVi (xs.take i))) (ys := markL mkRect nRect (gd (mks (markTo mkVi nVi xs k0 i)) i).xs (kk + 1)) i (by omega) (by rw [hgi, hmg, mkVi, ← hkk]; rfl) rfl).trans (Cv.cast (by rw [← markTo_set h2]))), by omega⟩
  · have h1 := of_decide_eq_false h1
    have e : kk = k0 + costL nVi xs := by rw [hkk, List.take_of_length_le (by omega)]
    rw [← e] at k
    refine WP.exit ?_
    refine WP.seq ?_
    refine WP.region ?_
    refine RG.pv rfl (PV.mvI (.inl rfl) rfl) ?_
    refine RG.pv rfl (PV.mvI (.inr rfl) rfl) ?_
    refine RG.nil ?_
    refine WP.ret ?_
    exact ⟨_, _, ResV.one rfl rfl, (Cv.cast (by rw [markTo_all (by omega)])), k⟩
theorem heldViolS_s {v : Value} {xs : List Viol} {k0 : Int} (h0 : Rs G L violT v (markL mkVi nVi xs k0)) (hd : RsE G L rectT (mks (markL mkVi nVi xs k0))) (hk : 0 ≤ k0) (hb : k0 + costL nVi xs ≤ 4611686018427387904) (k : R (vi (k0 + costL nVi xs)) G L) : CallT Tryz.prog 44 #[v, vi k0] G L R := by
  have hml := markL_len mkVi nVi xs k0
  refine CallT.bd h0 fun hb2 => ?_
  refine CallT.enter (args := _) Tryz.func44 rfl rfl (by kernel_rfl) rfl ?_
  refine WP.seq ?_
  refine WP.region ?_
  refine RG.pv rfl (PV.mvI (.inr rfl) rfl) ?_
  refine RG.nil ?_
  refine WP.seq ?_
  refine WP.seq ?_
  refine WP.region ?_
  refine RG.pv rfl (PV.mvI (.inr rfl) rfl) ?_
  refine RG.nil ?_
  refine WP.block ?_
  refine WP.loop2 [0] (fun (i : Nat) (kk : Int) => i ≤ xs.length ∧ kk = k0 + costL nVi (xs.take i)) (fun (i : Nat) (kk : Int) => [(5, vi i), (1, vi kk)]) (fun (i : Nat) (kk : Int) => L) (fun (i : Nat) (kk : Int) => xs.length - i) 0 k0 ⟨by omega, by simp [costL]⟩ ⟨rfl, rfl, trivial⟩ Cv.p ?_
  rintro i kk τ ⟨hi, hkk⟩
  refine WP.seq ?_
  refine WP.seq ?_
  refine WP.region ?_
  refine RG.pv rfl (PV.mvI (.inl rfl) rfl) ?_
  refine RG.pv rfl (PV.move (v := v) rfl rfl) ?_
  refine RG.pv rfl (PV.len (v := v) rfl Tryz.underlying66 rfl (SlF.r h0)) ?_
  refine RG.pv rfl (PV.lss rfl rfl rfl) ?_
  refine RG.nil ?_
  refine WP.cond rfl (fun h1 => ?_) (fun h1 => ?_)
  · have h1 := of_decide_eq_true h1
    have h2 : i < xs.length := by omega
    have hc := costL_take nVi h2
    have hc1 : costL nVi (xs.take (i + 1)) ≤ costL nVi xs := costL_le nVi_nn xs (i + 1)
    have hc2 : 0 ≤ costL nVi (xs.take i) := costL_nonneg nVi_nn (xs.take i)
    have hc5 : nVi (gd xs i) = 1 + nRS (gd xs i).marker := rfl
    have hc3 : costL nRect (gd xs i).marker.xs = nRS (gd xs i).marker := rfl
    have hc4 : 0 ≤ nRS (gd xs i).marker := nSl_nn (gd xs i).marker
    refine WP.skip ?_
    refine WP.seq ?_
    refine WP.block ?_
    refine WP.seq ?_
    refine WP.seq ?_
    refine WP.region ?_
    refine RG.pv rfl (PV.move (v := v) rfl rfl) ?_
    refine RG.pv rfl (PV.mvI (.inl rfl) rfl) ?_
    refine RG.pv rfl (PV.idxS (v := v) rfl Is66 rfl (SlF.r h0) rfl rfl (by omega)) ?_
    refine RG.pv rfl (PV.field rfl Fo37_0 rfl) ?_
    refine RG.pv rfl (PV.loadF rfl Sc2 rfl rfl (El.r h0 (getG (by omega))) rfl) ?_
    refine RG.pv rfl (PV.mvI (.inl rfl) rfl) ?_
    refine RG.pv rfl (PV.neq rfl rfl rfl) ?_
    refine RG.nil ?_
    refine WP.cond rfl (fun h3 => ?_) (fun h3 => ?_)
    · simp [gd_mark h2, mkVi, hkk] at h3
    · refine WP.skip ?_
      refine WP.seq ?_
      refine WP.region ?_
      refine RG.pv rfl (PV.mvI (.inl rfl) rfl) ?_
      refine RG.pv rfl (PV.add rfl rfl rfl (by omega)) ?_
      refine RG.pv rfl (PV.mvI (.inr rfl) rfl) ?_
      refine RG.nil ?_
      refine WP.seq ?_
      refine WP.region ?_
      refine RG.pv rfl (PV.move (v := v) rfl rfl) ?_
      refine RG.pv rfl (PV.mvI (.inl rfl) rfl) ?_
      refine RG.pv rfl (PV.idxS (v := v) rfl Is66 rfl (SlF.r h0) rfl rfl (by omega)) ?_
      refine RG.pv rfl (PV.field rfl Fo37_1 rfl) ?_
      refine RG.pv rfl (PV.loadF rfl Sc35 rfl rfl (El.r h0 (getG (by omega))) rfl) ?_
      refine RG.pv rfl (PV.mvI (.inl rfl) rfl) ?_
      refine RG.callF (vs := [_, _]) rfl rfl En29 rfl (heldRectS_s (xs := (gd xs i).marker.xs) (by have := hd i (by rw [mks_len]; omega); rw [mks_gd (by omega), gd_mark h2] at this; rw [gd_mark h2, hkk]; exact this.up) (by omega) (by omega) ?_)
      refine RG.pv rfl (PV.mvI (.inr rfl) rfl) ?_
      refine RG.nil ?_
      refine WP.seq ?_
      refine WP.region ?_
      refine RG.pv rfl (PV.mvI (.inl rfl) rfl) ?_
      refine RG.pv rfl (PV.lss rfl rfl rfl) ?_
      refine RG.nil ?_
      refine WP.cond rfl (fun h4 => ?_) (fun h4 => ?_)
      · simp at h4; omega
      · refine WP.skip ?_
        refine WP.region ?_
        refine RG.pv rfl (PV.mvI (.inl rfl) rfl) ?_
        refine RG.pv rfl (PV.add rfl rfl rfl (by omega)) ?_
        refine RG.pv rfl (PV.mvI (.inr rfl) rfl) ?_
        refine RG.nil ?_
        exact ⟨rfl, i + 1, _, ⟨by omega, by rw [hc]; omega⟩, ⟨rfl, rfl, trivial⟩, ⟨rfl, trivial⟩, Cv.p, by omega⟩
  · have h1 := of_decide_eq_false h1
    have e : kk = k0 + costL nVi xs := by rw [hkk, List.take_of_length_le (by omega)]
    rw [← e] at k
    refine WP.exit ?_
    refine WP.seq ?_
    refine WP.region ?_
    refine RG.pv rfl (PV.mvI (.inl rfl) rfl) ?_
    refine RG.pv rfl (PV.mvI (.inr rfl) rfl) ?_
    refine RG.nil ?_
    refine WP.ret ?_
    exact ⟨_, _, ResV.one rfl rfl, Cv.p, k⟩
def nVe (p : Int × List Rect) : Int := 1 + 4 * (p.2.length : Int)
theorem nVi_er (xs : List Viol) : costL nVi xs = costL nVe (erVs xs) := by
  induction xs with
  | nil => rfl
  | cons z zs ih => simp only [erVs, List.map_cons, costL] at ih ⊢; rw [ih]; simp only [nVi, nVe, nRS, nSl, nRect_cost, erV]
end Go.Proofs.YtgngpegmaceaiaaGreat
