/-
  Contracts of functions and plain facts that the last text of this folder uses, part 3.
-/
import Derived.Test.YtkiafbneemdajaaGreatCB2
namespace Go.Proofs.YtkiafbneemdajaaGreat
set_option linter.unusedVariables false
set_option linter.unusedSimpArgs false
open Go
set_option maxRecDepth 20000
set_option linter.unusedSimpArgs false
set_option linter.unusedVariables false
variable {G : Gh} {L : List Ch} {R : Value → Gh → List Ch → Prop}
theorem wpAnyH_mono {P : Program} {md : Region.Mode} {ops : Array Oper} {Q : Exit → Act → World → Prop} {S S' : World → Prop} (h : ∀ w, S' w → S w) : ∀ (fuel : Nat) (ls : Array Bool) (a : Act) (w : World), wpAnyH P md ops Q S' fuel ls a w → wpAnyH P md ops Q S fuel ls a w
  | 0, _, _, _, k => k
  | fuel + 1, _, _, _, k => ⟨k.1, fun i hi => wpOp_mono (fun a' w' k' => ⟨h w' k'.1, wpAnyH_mono h fuel _ a' w' k'.2⟩) (k.2 i hi)⟩
/-- a fresh chunk is held from here on -/
theorem RH.up1 {P : Program} {n : Nat} {ops : Array Oper} {Q : Post} {σ : Nat → Value} {G G0 : Gh} {L C0 : List Ch} {r : Sch} {c : Ch} (k : RH P n ops G0 (c :: C0) r Q σ G (c :: L)) : RH P n ops G0 C0 r Q σ G (c :: L) :=
  RH.of fun h1 h2 ls a w hb ha hs => wpAnyH_mono (fun w' hs' => hs'.pick (.drop _ (.refl _))) _ _ _ _ (k.run h1 h2 hb ha hs)
theorem components_s {v : Value} {xs : List Rect} (h1 : Rs G L rectT v xs) (k : ∀ v zs, er zs = partsL (bits xs) → R v G (osl 55 slT v zs :: bagS 79 rectT zs :: L)) : CallT Tryz.prog 139 #[v] G L R := by
  refine CallT.enter (args := _) Tryz.func139 rfl rfl (by kernel_rfl) rfl ?_
  refine WP.seq ?_
  refine WP.region ?_
  refine RG.pv rfl (PV.asg rfl rfl) ?_
  refine RG.nil ?_
  refine WP.seq ?_
  refine WP.region ?_
  refine RG.pv rfl (PV.move (v := v) rfl rfl) ?_
  refine RG.callF (vs := [v]) rfl rfl En110 rfl (cellsOf_s (Rs.up h1) (fun b7 => ?_))
  refine RG.callF (vs := [_, _]) rfl rfl En147 rfl (CallT.exB (parts_s (bits_length _) (fun v8 ps8 hp8 => ?_)))
  refine RG.pv rfl (PV.asg rfl rfl) ?_
  refine RG.nil ?_
  refine WP.ret ?_
  exact ⟨_, _, ResV.one rfl rfl, Cv.p, k v8 ps8 hp8⟩
theorem l17At_s {x y : Int} (hx : -40 ≤ x ∧ x ≤ 40) (hy : -40 ≤ y ∧ y ≤ 40) (k : R (vi ((y + 40) * 80 + x + 40)) G L) : CallT Tryz.prog 103 #[vi x, vi y] G L R := by
  refine CallT.enter (args := _) Tryz.func103 rfl rfl (by kernel_rfl) rfl ?_
  refine WP.seq ?_
  refine WP.region ?_
  refine RG.pv rfl (PV.mvI (.inr rfl) rfl) ?_
  refine RG.nil ?_
  refine WP.seq ?_
  refine WP.region ?_
  refine RG.pv rfl (PV.mvI (.inl rfl) rfl) ?_
  refine RG.pv rfl (PV.add rfl rfl rfl (by omega)) ?_
  refine RG.pv rfl (PV.mul rfl rfl rfl (by omega)) ?_
  refine RG.pv rfl (PV.mvI (.inl rfl) rfl) ?_
  refine RG.pv rfl (PV.add rfl rfl rfl (by omega)) ?_
  refine RG.pv rfl (PV.add rfl rfl rfl (by omega)) ?_
  refine RG.pv rfl (PV.mvI (.inr rfl) rfl) ?_
  refine RG.nil ?_
  refine WP.ret ?_
  exact ⟨_, _, ResV.one rfl rfl, Cv.p, k⟩
theorem l17Inside_s {x y : Int} (k : R (.bool (decide (-40 ≤ x ∧ x < 40) && decide (-40 ≤ y ∧ y < 40))) G L) : CallT Tryz.prog 106 #[vi x, vi y] G L R := by
  have e : (decide (-40 ≤ x ∧ x < 40) && decide (-40 ≤ y ∧ y < 40)) = (decide (x ≥ -40) && decide (x < 40) && decide (y ≥ -40) && decide (y < 40)) := by rw [Bool.eq_iff_iff]; simp; omega
  rw [e] at k
  refine CallT.enter (args := _) Tryz.func106 rfl rfl (by kernel_rfl) rfl ?_
  refine WP.seq ?_
  refine WP.region ?_
  refine RG.pv rfl (PV.mvB (.inr rfl) rfl) ?_
  refine RG.nil ?_
  refine WP.seq ?_
  refine WP.region ?_
  refine RG.pv rfl (PV.mvI (.inl rfl) rfl) ?_
  refine RG.pv rfl (PV.geq rfl rfl rfl) ?_
  refine RG.pv rfl (PV.mvB (.inl rfl) rfl) ?_
  refine RG.gs rfl rfl rfl (fun hp => (PV.mvI (.inl rfl) rfl)) ?_
  refine RG.gs rfl rfl rfl (fun hp => (PV.lss rfl (gs_t hp) rfl)) ?_
  refine RG.pv rfl (PV.pickA rfl rfl (fun hq => gs_t (geqT hq)) rfl) ?_
  refine RG.pv rfl (PV.mvB (.inl rfl) rfl) ?_
  refine RG.gs rfl rfl rfl (fun hp => (PV.mvI (.inl rfl) rfl)) ?_
  refine RG.gs rfl rfl rfl (fun hp => (PV.geq rfl (gs_t hp) rfl)) ?_
  refine RG.pv rfl (PV.pickA rfl rfl (fun hq => gs_t (geqT hq)) rfl) ?_
  refine RG.pv rfl (PV.mvB (.inl rfl) rfl) ?_
  refine RG.gs rfl rfl rfl (fun hp => (PV.mvI (.inl rfl) rfl)) ?_
  refine RG.gs rfl rfl rfl (fun hp => (PV.lss rfl (gs_t hp) rfl)) ?_
  refine RG.pv rfl (PV.pickA rfl rfl (fun hq => gs_t (geqT hq)) rfl) ?_
  refine RG.pv rfl (PV.mvB (.inr rfl) rfl) ?_
  refine RG.nil ?_
  refine WP.ret ?_
  exact ⟨_, _, ResV.one rfl rfl, Cv.p, k⟩
theorem l17Cell_s {v : Value} {S : List Bool} {x y : Int} (h1 : Rs G L boolT v S) (hS : S.length = 6400) (k : R (.bool ((decide (-40 ≤ x ∧ x < 40) && decide (-40 ≤ y ∧ y < 40)) && gd S ((y + 40) * 80 + x + 40).toNat)) G L) : CallT Tryz.prog 62 #[v, vi x, vi y] G L R := by
  refine CallT.enter (args := _) Tryz.func62 rfl rfl (by kernel_rfl) rfl ?_
  refine WP.seq ?_
  refine WP.region ?_
  refine RG.pv rfl (PV.mvB (.inr rfl) rfl) ?_
  refine RG.nil ?_
  refine WP.seq ?_
  refine WP.region ?_
  refine RG.pv rfl (PV.mvI (.inl rfl) rfl) ?_
  refine RG.pv rfl (PV.mvI (.inl rfl) rfl) ?_
  refine RG.callF (vs := [_, _]) rfl rfl En106 rfl (l17Inside_s ?_)
  refine RG.pv rfl (PV.mvB (.inl rfl) rfl) ?_
  refine RG.gs rfl rfl rfl (fun hp => (PV.move (v := v) rfl rfl)) ?_
  refine RG.gs rfl rfl rfl (fun hp => (PV.mvI (.inl rfl) rfl)) ?_
  refine RG.gs rfl rfl rfl (fun hp => (PV.mvI (.inl rfl) rfl)) ?_
  refine RG.gsC rfl rfl rfl rfl En103 (fun hp => ⟨_, (acons (gs_t hp) (acons (gs_t hp) anil)), l17At_s (by simp at hp <;> omega) (by simp at hp <;> omega) ⟨rfl, rfl, rfl⟩⟩) ?_
  refine RG.gs rfl rfl rfl (fun hp => (PV.idxS (j := ((y + 40) * 80 + x + 40).toNat) (v := v) rfl Is99 (gs_t hp) (SlF.r h1) (gs_t hp) (by first | omega | (simp at hp; omega)) (by first | omega | (simp at hp; omega)))) ?_
  refine RG.gs rfl rfl rfl (fun hp => (PV.loadE1 rfl Sc4 (gs_t hp) rfl (El.r h1 (getG (by first | omega | (simp at hp; omega)))) rfl)) ?_
  refine RG.pv rfl (PV.pickA rfl rfl (fun hq => gs_t (geqT hq)) rfl) ?_
  refine RG.pv rfl (PV.mvB (.inr rfl) rfl) ?_
  refine RG.nil ?_
  refine WP.ret ?_
  exact ⟨_, _, ResV.one rfl rfl, Cv.p, k⟩
def ptOf (q : Int × Int) : Pt := ⟨q.1 - 40, q.2 - 40⟩
theorem gd_pt {Q : List (Int × Int)} {i : Nat} (h : i < Q.length) : gd (Q.map ptOf) i = ptOf (gd Q i) := by
  rw [gd_eq h, gd_eq (by simpa using h)]; simp
theorem visit_s {v : Value} {S : List Bool} {x y : Int} (h1 : Rs G L boolT v S) (hS : S.length = 6400) (hx : 0 ≤ x ∧ x < 80) (hy : 0 ≤ y ∧ y < 80) (hon : gb S y.toNat x.toNat = true)
    (k : ∀ v' Q, FI S (y.toNat, x.toNat) (compB S (y.toNat, x.toNat)) Q → R v' G (osl 52 ptT v' (Q.map ptOf) :: L)) : CallT Tryz.prog 104 #[v, vi (x - 40), vi (y - 40)] G L R := by
  have hst := FI.start (S := S) hx hy
  have hseed : On S (y.toNat, x.toNat) := ⟨by simp only; omega, by simp only; omega, hon⟩
  have hrl : (List.replicate S.length false).length = 6400 := by simp [hS]
  refine CallT.enter (args := _) Tryz.func104 rfl rfl (by kernel_rfl) rfl ?_
  refine WP.seq ?_
  refine WP.region ?_
  refine RG.pv rfl (PV.asg rfl rfl) ?_
  refine RG.nil ?_
  refine WP.seq ?_
  refine WP.region ?_
  refine RG.pv rfl (PV.move (v := v) rfl rfl) ?_
  refine RG.pv rfl (PV.len (v := v) rfl Tryz.underlying99 rfl (SlF.r h1)) ?_
  refine RG.ot rfl (OT.make (F := boolT) (a0 := false) rfl El99 rfl (by decide) rfl rfl (by omega) (by omega) fun v14 => ?_)
  refine RG.pv rfl (PV.asg (v := v14) rfl rfl) ?_
  refine RG.nil ?_
  refine WP.seq ?_
  refine WP.region ?_
  refine RG.pv rfl (PV.move (v := v14) rfl rfl) ?_
  refine RG.pv rfl (PV.mvI (.inl rfl) rfl) ?_
  refine RG.pv rfl (PV.mvI (.inl rfl) rfl) ?_
  refine RG.callF (vs := [_, _]) rfl rfl En103 rfl (l17At_s (by first | omega | (simp at hp; omega)) (by first | omega | (simp at hp; omega)) ?_)
  refine RG.pv rfl (PV.idxS (j := y.toNat * 80 + x.toNat) (v := v14) rfl Is99 rfl SlF.o rfl (by omega) (by omega)) ?_
  refine RG.ot rfl (OT.storeE (F := boolT) rfl Sz4 rfl rfl rfl (Cl.c rfl) (OneC.c rfl) (by omega) ?_)
  refine RG.nil ?_
  refine WP.seq ?_
  refine WP.region ?_
  refine RG.pv rfl (PV.mvI (.inl rfl) rfl) ?_
  refine RG.pv rfl (PV.mvI (.inl rfl) rfl) ?_
  refine RG.pv rfl (PV.build (vs := [(0, [vi _]), (1, [vi _])]) (out := [_, _]) rfl Zr52 Pl52 ⟨rfl, (Cl.c rfl), ⟨rfl, (Cl.c rfl), trivial⟩⟩ rfl) ?_
  refine RG.ot rfl (OT.bslice (F := ptT) (els := [⟨_, _⟩]) rfl El145 rfl (by decide) rfl (by decide) ⟨rfl, (Cl.c rfl), trivial⟩ fun v23 => ?_)
  refine RG.pv rfl (PV.asg (v := v23) rfl rfl) ?_
  refine RG.nil ?_
  refine WP.seq ?_
  refine WP.seq ?_
  refine WP.region ?_
  refine RG.pv rfl (PV.mvI (.inr rfl) rfl) ?_
  refine RG.nil ?_
  refine WP.block ?_
  refine WP.cv ((Cv.p (C := osl 4 boolT v14 ((List.replicate S.length false).set (y.toNat * 80 + x.toNat) true) :: osl 52 ptT v23 [⟨x - 40, y - 40⟩] :: L)).trans (Cv.cast (L' := osl 4 boolT v14 ((List.replicate 6400 false).set (y.toNat * 80 + x.toNat) true) :: osl 52 ptT v23 ([(x, y)].map ptOf) :: L) (by rw [hS]; rfl))) ?_
  refine WP.loop4 [0, 7] (fun (i : Nat) (Q : List (Int × Int)) (O : List Bool) (qv : Value) => i ≤ Q.length ∧ FI S (y.toNat, x.toNat) O Q ∧ Done S O Q i ∧ On O (y.toNat, x.toNat)) (fun (i : Nat) (Q : List (Int × Int)) (O : List Bool) (qv : Value) => [(9, vi i), (8, qv)]) (fun (i : Nat) (Q : List (Int × Int)) (O : List Bool) (qv : Value) => osl 4 boolT v14 O :: osl 52 ptT qv (Q.map ptOf) :: L) (fun (i : Nat) (Q : List (Int × Int)) (O : List Bool) (qv : Value) => 6401 - i) 0 [(x, y)] ((List.replicate 6400 false).set (y.toNat * 80 + x.toNat) true) v23 ⟨by simp, hst, fun m hm => by omega, by have := hst.on 0 (by simp); simpa [gd, qc] using this⟩ ⟨rfl, rfl, trivial⟩ Cv.p ?_
  rintro i Q O qv τ ⟨hi, hF, hD, h0⟩
  refine WP.seq ?_
  refine WP.seq ?_
  refine WP.region ?_
  refine RG.pv rfl (PV.mvI (.inl rfl) rfl) ?_
  refine RG.pv rfl (PV.move (v := qv) rfl rfl) ?_
  refine RG.pv rfl (PV.len (v := qv) rfl Tryz.underlying145 rfl SlF.o) ?_
  refine RG.pv rfl (PV.lss rfl rfl rfl) ?_
  refine RG.nil ?_
  have hml : (Q.map ptOf).length = Q.length := by simp
  refine WP.cond rfl (fun h2 => ?_) (fun h2 => ?_)
  · have h2 := of_decide_eq_true h2
    have hQ := hF.len_le
    have hb := hF.bd i (by omega)
    refine WP.skip ?_
    refine WP.seq ?_
    refine WP.block ?_
    refine WP.seq ?_
    refine WP.region ?_
    refine RG.pv rfl (PV.mvI (.inr rfl) rfl) ?_
    refine RG.nil ?_
    refine WP.block ?_
    refine WP.loop4 [0, 7, 9] (fun (d : Nat) (Q1 : List (Int × Int)) (O1 : List Bool) (qv1 : Value) => d ≤ 4 ∧ FI S (y.toNat, x.toNat) O1 Q1 ∧ Done S O1 Q1 i ∧ On O1 (y.toNat, x.toNat) ∧ i < Q1.length ∧ gd Q1 i = gd Q i ∧ Near4 S O1 (qc (gd Q i)) d) (fun (d : Nat) (Q1 : List (Int × Int)) (O1 : List Bool) (qv1 : Value) => [(10, vi d), (8, qv1)]) (fun (d : Nat) (Q1 : List (Int × Int)) (O1 : List Bool) (qv1 : Value) => osl 4 boolT v14 O1 :: osl 52 ptT qv1 (Q1.map ptOf) :: L) (fun (d : Nat) (Q1 : List (Int × Int)) (O1 : List Bool) (qv1 : Value) => 4 - d) 0 Q O qv ⟨by omega, hF, hD, h0, by omega, rfl, Near4.zero _ _ _⟩ ⟨rfl, rfl, trivial⟩ Cv.p ?_
    rintro d Q1 O1 qv1 τ1 ⟨hd, hF1, hD1, h01, hi1, hq1, hN1⟩
    refine WP.seq ?_
    refine WP.seq ?_
    refine WP.region ?_
    refine RG.pv rfl (PV.mvI (.inl rfl) rfl) ?_
    refine RG.pv rfl (PV.lss rfl rfl rfl) ?_
    refine RG.nil ?_
    have hml1 : (Q1.map ptOf).length = Q1.length := by simp
    refine WP.cond rfl (fun h3 => ?_) (fun h3 => ?_)
    · have h3 := of_decide_eq_true h3
      have hl1 := hF1.len
      have hQ1 := hF1.len_le
      have hb1 : 0 ≤ (gd Q1 i).1 ∧ (gd Q1 i).1 < 80 ∧ 0 ≤ (gd Q1 i).2 ∧ (gd Q1 i).2 < 80 := by rw [hq1]; exact hb
      have e1 : gd (Q1.map ptOf) i = ⟨(gd Q1 i).1 - 40, (gd Q1 i).2 - 40⟩ := gd_pt hi1
      have ex : (gd (Q1.map ptOf) i).x = (gd Q1 i).1 - 40 := by rw [e1]
      have ey : (gd (Q1.map ptOf) i).y = (gd Q1 i).2 - 40 := by rw [e1]
      have hdx : -1 ≤ gd [1, -1, 0, 0] d ∧ gd [1, -1, 0, 0] d ≤ (1 : Int) := dX_le d
      have hdy : -1 ≤ gd [0, 0, 1, -1] d ∧ gd [0, 0, 1, -1] d ≤ (1 : Int) := dY_le d
      have hn4 : ([1, -1, 0, 0] : List Int).length = 4 := rfl
      have hn4' : ([0, 0, 1, -1] : List Int).length = 4 := rfl
      refine WP.skip ?_
      refine WP.seq ?_
      refine WP.block ?_
      refine WP.cut1 [0, 7, 8, 9, 10] (fun (b11 : Nat) => True) (fun (b11 : Nat) => [(11, .pointer (some ⟨b11, 0, none⟩))]) (fun (b11 : Nat) => blk b11 52 [vi ((gd Q1 i).1 - 40 + dX d), vi ((gd Q1 i).2 - 40 + dY d)] :: osl 4 boolT v14 O1 :: osl 52 ptT qv1 (Q1.map ptOf) :: L) ?_ ?_
      refine WP.regionH0 (.q 0 (.q 1 (.q 2 (.q 3 (.q 4 (.q 6 (.q 10 (.q 11 (.q 12 (.q 13 (.q 14 (.q 16 (.c 5 (.q 7 (.q 8 (.q 9 (.b 15 (.q 17 (.q 18 (.q 19 (.q 20 (.l 21 (.l 22 Sch.nil)))))) 21 (.l 15 (.q 17 (.q 18 (.q 19 (.q 20 (.l 22 Sch.nil)))))))))) 15 (.q 17 (.q 18 (.q 19 (.b 5 (.q 7 (.q 8 (.q 9 (.q 20 (.l 21 (.l 22 Sch.nil)))))) 21 (.l 5 (.q 7 (.q 8 (.q 9 (.q 20 (.l 22 Sch.nil)))))))))) 21 (.b 5 (.q 7 (.q 8 (.q 9 (.l 15 (.q 17 (.q 18 (.q 19 (.q 20 (.l 22 Sch.nil))))))))) 15 (.q 17 (.q 18 (.q 19 (.l 5 (.q 7 (.q 8 (.q 9 (.q 20 (.l 22 Sch.nil))))))))))))))))))))))) (by kernel_rfl) (by kernel_rfl) (by kernel_rfl) rfl ?_
      refine RH.pv rfl (fun _ _ _ _ h => h) (Gh.le_refl _) PickC.pick rfl (PV.move (v := qv1) rfl rfl) ?_
      refine RH.pv rfl (fun _ _ _ _ h => h) (Gh.le_refl _) PickC.pick rfl (PV.mvI (.inl rfl) rfl) ?_
      refine RH.pv rfl (fun _ _ _ _ h => h) (Gh.le_refl _) PickC.pick rfl (PV.idxS (v := qv1) rfl Is145 rfl SlF.o rfl rfl (by omega)) ?_
      refine RH.pv rfl (fun _ _ _ _ h => h) (Gh.le_refl _) PickC.pick rfl (PV.field rfl Fo52_0 rfl) ?_
      refine RH.pv rfl (fun _ _ _ _ h => h) (Gh.le_refl _) PickC.pick rfl (PV.loadF (v := qv1) (j := 0) rfl Sc2 rfl rfl (El.o (getG (by omega))) rfl) ?_
      refine RH.pv rfl (fun _ _ _ _ h => h) (Gh.le_refl _) PickC.pick rfl (PV.mvI (.inl rfl) rfl) ?_
      refine RH.pv rfl (fun _ _ _ _ h => h) (Gh.le_refl _) PickC.pick rfl (PV.move (v := qv1) rfl rfl) ?_
      refine RH.pv rfl (fun _ _ _ _ h => h) (Gh.le_refl _) PickC.pick rfl (PV.mvI (.inl rfl) rfl) ?_
      refine RH.pv rfl (fun _ _ _ _ h => h) (Gh.le_refl _) PickC.pick rfl (PV.idxS (v := qv1) rfl Is145 rfl SlF.o rfl rfl (by omega)) ?_
      refine RH.pv rfl (fun _ _ _ _ h => h) (Gh.le_refl _) PickC.pick rfl (PV.field rfl Fo52_1 rfl) ?_
      refine RH.pv rfl (fun _ _ _ _ h => h) (Gh.le_refl _) PickC.pick rfl (PV.loadF rfl Sc2 rfl rfl (El.o (getG (by omega))) rfl) ?_
      refine RH.pv rfl (fun _ _ _ _ h => h) (Gh.le_refl _) PickC.pick rfl (PV.mvI (.inl rfl) rfl) ?_
      · refine RH.ot3 rfl rfl rfl rfl rfl rfl  (OT.bslice (F := intT) (els := [_, _, _, _]) rfl El26 rfl (by decide) rfl (by decide) ⟨rfl, (Cl.c rfl), ⟨rfl, (Cl.c rfl), ⟨rfl, (Cl.c rfl), ⟨rfl, (Cl.c rfl), trivial⟩⟩⟩⟩ fun v39 => ⟨Gh.le_refl _, PickC.pick, ?_⟩) (OT.bslice (F := intT) (els := [_, _, _, _]) rfl El26 rfl (by decide) rfl (by decide) ⟨rfl, (Cl.c rfl), ⟨rfl, (Cl.c rfl), ⟨rfl, (Cl.c rfl), ⟨rfl, (Cl.c rfl), trivial⟩⟩⟩⟩ fun v49 => ⟨Gh.le_refl _, PickC.pick, ?_⟩) (OT.alloc rfl Zr52 fun b11 => ⟨Gh.le_refl _, PickC.pick, ?_⟩)
        · refine RH.up1 ?_
          refine RH.pv rfl (fun _ _ _ _ h => h) (Gh.le_refl _) PickC.pick rfl (PV.idxS (v := v39) rfl Is26 rfl SlF.o rfl rfl (by omega)) ?_
          refine RH.pv rfl (fun _ _ _ _ h => h) (Gh.le_refl _) PickC.pick rfl (PV.loadE1 rfl Sc2 rfl rfl (El.o (getG (by omega))) rfl) ?_
          refine RH.pv rfl (fun _ _ _ _ h => h) (Gh.le_refl _) PickC.pick rfl (PV.add rfl rfl rfl (by omega)) ?_
          refine RH.ot2 rfl rfl rfl rfl  (OT.bslice (F := intT) (els := [_, _, _, _]) rfl El26 rfl (by decide) rfl (by decide) ⟨rfl, (Cl.c rfl), ⟨rfl, (Cl.c rfl), ⟨rfl, (Cl.c rfl), ⟨rfl, (Cl.c rfl), trivial⟩⟩⟩⟩ fun v49 => ⟨Gh.le_refl _, PickC.pick, ?_⟩) (OT.alloc rfl Zr52 fun b11 => ⟨Gh.le_refl _, PickC.pick, ?_⟩)
          · refine RH.up1 ?_
            refine RH.pv rfl (fun _ _ _ _ h => h) (Gh.le_refl _) PickC.pick rfl (PV.idxS (v := v49) rfl Is26 rfl SlF.o rfl rfl (by omega)) ?_
            refine RH.pv rfl (fun _ _ _ _ h => h) (Gh.le_refl _) PickC.pick rfl (PV.loadE1 rfl Sc2 rfl rfl (El.o (getG (by omega))) rfl) ?_
            refine RH.pv rfl (fun _ _ _ _ h => h) (Gh.le_refl _) PickC.pick rfl (PV.add rfl rfl rfl (by omega)) ?_
            refine RH.pv rfl (fun _ _ _ _ h => h) (Gh.le_refl _) PickC.pick rfl (PV.build (vs := [(0, [vi _]), (1, [vi _])]) (out := [_, _]) rfl Zr52 Pl52 ⟨rfl, (Cl.c rfl), ⟨rfl, (Cl.c rfl), trivial⟩⟩ rfl) ?_
            refine RH.ot rfl rfl (OT.alloc rfl Zr52 fun b11 => ⟨Gh.le_refl _, PickC.pick, ?_⟩)
            refine RH.ot rfl rfl (OT.storeW (vs := [vi _, vi _]) rfl Sz52 rfl rfl (Cl.c rfl) rfl rfl (OneC.c rfl) ⟨Gh.le_refl _, PickC.pick, ?_⟩)
            refine RH.nil ?_
            exact ⟨rfl, b11, trivial, ⟨rfl, trivial⟩, ⟨rfl, rfl, rfl, rfl, rfl, trivial⟩, (Cv.p (C := blk b11 52 [vi ((gd (Q1.map ptOf) i).x + gd [1, -1, 0, 0] d), vi ((gd (Q1.map ptOf) i).y + gd [0, 0, 1, -1] d)] :: osl 4 boolT v14 O1 :: osl 52 ptT qv1 (Q1.map ptOf) :: L)).trans (Cv.cast (by rw [ex, ey]; rfl))⟩
          · refine RH.ot rfl rfl (OT.bslice (F := intT) (els := [_, _, _, _]) rfl El26 rfl (by decide) rfl (by decide) ⟨rfl, (Cl.c rfl), ⟨rfl, (Cl.c rfl), ⟨rfl, (Cl.c rfl), ⟨rfl, (Cl.c rfl), trivial⟩⟩⟩⟩ fun v49 => ⟨Gh.le_refl _, PickC.pick, ?_⟩)
            refine RH.up1 ?_
            refine RH.pv rfl (fun _ _ _ _ h => h) (Gh.le_refl _) PickC.pick rfl (PV.idxS (v := v49) rfl Is26 rfl SlF.o rfl rfl (by omega)) ?_
            refine RH.pv rfl (fun _ _ _ _ h => h) (Gh.le_refl _) PickC.pick rfl (PV.loadE1 rfl Sc2 rfl rfl (El.o (getG (by omega))) rfl) ?_
            refine RH.pv rfl (fun _ _ _ _ h => h) (Gh.le_refl _) PickC.pick rfl (PV.add rfl rfl rfl (by omega)) ?_
            refine RH.pv rfl (fun _ _ _ _ h => h) (Gh.le_refl _) PickC.pick rfl (PV.build (vs := [(0, [vi _]), (1, [vi _])]) (out := [_, _]) rfl Zr52 Pl52 ⟨rfl, (Cl.c rfl), ⟨rfl, (Cl.c rfl), trivial⟩⟩ rfl) ?_
            refine RH.ot rfl rfl (OT.storeW (vs := [vi _, vi _]) rfl Sz52 rfl rfl (Cl.c rfl) rfl rfl (OneC.c rfl) ⟨Gh.le_refl _, PickC.pick, ?_⟩)
            refine RH.nil ?_
            exact ⟨rfl, b11, trivial, ⟨rfl, trivial⟩, ⟨rfl, rfl, rfl, rfl, rfl, trivial⟩, (Cv.p (C := blk b11 52 [vi ((gd (Q1.map ptOf) i).x + gd [1, -1, 0, 0] d), vi ((gd (Q1.map ptOf) i).y + gd [0, 0, 1, -1] d)] :: osl 4 boolT v14 O1 :: osl 52 ptT qv1 (Q1.map ptOf) :: L)).trans (Cv.cast (by rw [ex, ey]; rfl))⟩
        · refine RH.up1 ?_
          refine RH.pv rfl (fun _ _ _ _ h => h) (Gh.le_refl _) PickC.pick rfl (PV.idxS (v := v49) rfl Is26 rfl SlF.o rfl rfl (by omega)) ?_
          refine RH.pv rfl (fun _ _ _ _ h => h) (Gh.le_refl _) PickC.pick rfl (PV.loadE1 rfl Sc2 rfl rfl (El.o (getG (by omega))) rfl) ?_
          refine RH.pv rfl (fun _ _ _ _ h => h) (Gh.le_refl _) PickC.pick rfl (PV.add rfl rfl rfl (by omega)) ?_
          refine RH.ot2 rfl rfl rfl rfl  (OT.bslice (F := intT) (els := [_, _, _, _]) rfl El26 rfl (by decide) rfl (by decide) ⟨rfl, (Cl.c rfl), ⟨rfl, (Cl.c rfl), ⟨rfl, (Cl.c rfl), ⟨rfl, (Cl.c rfl), trivial⟩⟩⟩⟩ fun v39 => ⟨Gh.le_refl _, PickC.pick, ?_⟩) (OT.alloc rfl Zr52 fun b11 => ⟨Gh.le_refl _, PickC.pick, ?_⟩)
          · refine RH.up1 ?_
            refine RH.pv rfl (fun _ _ _ _ h => h) (Gh.le_refl _) PickC.pick rfl (PV.idxS (v := v39) rfl Is26 rfl SlF.o rfl rfl (by omega)) ?_
            refine RH.pv rfl (fun _ _ _ _ h => h) (Gh.le_refl _) PickC.pick rfl (PV.loadE1 rfl Sc2 rfl rfl (El.o (getG (by omega))) rfl) ?_
            refine RH.pv rfl (fun _ _ _ _ h => h) (Gh.le_refl _) PickC.pick rfl (PV.add rfl rfl rfl (by omega)) ?_
            refine RH.pv rfl (fun _ _ _ _ h => h) (Gh.le_refl _) PickC.pick rfl (PV.build (vs := [(0, [vi _]), (1, [vi _])]) (out := [_, _]) rfl Zr52 Pl52 ⟨rfl, (Cl.c rfl), ⟨rfl, (Cl.c rfl), trivial⟩⟩ rfl) ?_
            refine RH.ot rfl rfl (OT.alloc rfl Zr52 fun b11 => ⟨Gh.le_refl _, PickC.pick, ?_⟩)
            refine RH.ot rfl rfl (OT.storeW (vs := [vi _, vi _]) rfl Sz52 rfl rfl (Cl.c rfl) rfl rfl (OneC.c rfl) ⟨Gh.le_refl _, PickC.pick, ?_⟩)
            refine RH.nil ?_
            exact ⟨rfl, b11, trivial, ⟨rfl, trivial⟩, ⟨rfl, rfl, rfl, rfl, rfl, trivial⟩, (Cv.p (C := blk b11 52 [vi ((gd (Q1.map ptOf) i).x + gd [1, -1, 0, 0] d), vi ((gd (Q1.map ptOf) i).y + gd [0, 0, 1, -1] d)] :: osl 4 boolT v14 O1 :: osl 52 ptT qv1 (Q1.map ptOf) :: L)).trans (Cv.cast (by rw [ex, ey]; rfl))⟩
          · refine RH.ot rfl rfl (OT.bslice (F := intT) (els := [_, _, _, _]) rfl El26 rfl (by decide) rfl (by decide) ⟨rfl, (Cl.c rfl), ⟨rfl, (Cl.c rfl), ⟨rfl, (Cl.c rfl), ⟨rfl, (Cl.c rfl), trivial⟩⟩⟩⟩ fun v39 => ⟨Gh.le_refl _, PickC.pick, ?_⟩)
            refine RH.up1 ?_
            refine RH.pv rfl (fun _ _ _ _ h => h) (Gh.le_refl _) PickC.pick rfl (PV.idxS (v := v39) rfl Is26 rfl SlF.o rfl rfl (by omega)) ?_
            refine RH.pv rfl (fun _ _ _ _ h => h) (Gh.le_refl _) PickC.pick rfl (PV.loadE1 rfl Sc2 rfl rfl (El.o (getG (by omega))) rfl) ?_
            refine RH.pv rfl (fun _ _ _ _ h => h) (Gh.le_refl _) PickC.pick rfl (PV.add rfl rfl rfl (by omega)) ?_
            refine RH.pv rfl (fun _ _ _ _ h => h) (Gh.le_refl _) PickC.pick rfl (PV.build (vs := [(0, [vi _]), (1, [vi _])]) (out := [_, _]) rfl Zr52 Pl52 ⟨rfl, (Cl.c rfl), ⟨rfl, (Cl.c rfl), trivial⟩⟩ rfl) ?_
            refine RH.ot rfl rfl (OT.storeW (vs := [vi _, vi _]) rfl Sz52 rfl rfl (Cl.c rfl) rfl rfl (OneC.c rfl) ⟨Gh.le_refl _, PickC.pick, ?_⟩)
            refine RH.nil ?_
            exact ⟨rfl, b11, trivial, ⟨rfl, trivial⟩, ⟨rfl, rfl, rfl, rfl, rfl, trivial⟩, (Cv.p (C := blk b11 52 [vi ((gd (Q1.map ptOf) i).x + gd [1, -1, 0, 0] d), vi ((gd (Q1.map ptOf) i).y + gd [0, 0, 1, -1] d)] :: osl 4 boolT v14 O1 :: osl 52 ptT qv1 (Q1.map ptOf) :: L)).trans (Cv.cast (by rw [ex, ey]; rfl))⟩
        · refine RH.ot2 rfl rfl rfl rfl  (OT.bslice (F := intT) (els := [_, _, _, _]) rfl El26 rfl (by decide) rfl (by decide) ⟨rfl, (Cl.c rfl), ⟨rfl, (Cl.c rfl), ⟨rfl, (Cl.c rfl), ⟨rfl, (Cl.c rfl), trivial⟩⟩⟩⟩ fun v39 => ⟨Gh.le_refl _, PickC.pick, ?_⟩) (OT.bslice (F := intT) (els := [_, _, _, _]) rfl El26 rfl (by decide) rfl (by decide) ⟨rfl, (Cl.c rfl), ⟨rfl, (Cl.c rfl), ⟨rfl, (Cl.c rfl), ⟨rfl, (Cl.c rfl), trivial⟩⟩⟩⟩ fun v49 => ⟨Gh.le_refl _, PickC.pick, ?_⟩)
          · refine RH.up1 ?_
            refine RH.pv rfl (fun _ _ _ _ h => h) (Gh.le_refl _) PickC.pick rfl (PV.idxS (v := v39) rfl Is26 rfl SlF.o rfl rfl (by omega)) ?_
            refine RH.pv rfl (fun _ _ _ _ h => h) (Gh.le_refl _) PickC.pick rfl (PV.loadE1 rfl Sc2 rfl rfl (El.o (getG (by omega))) rfl) ?_
            refine RH.pv rfl (fun _ _ _ _ h => h) (Gh.le_refl _) PickC.pick rfl (PV.add rfl rfl rfl (by omega)) ?_
            refine RH.ot rfl rfl (OT.bslice (F := intT) (els := [_, _, _, _]) rfl El26 rfl (by decide) rfl (by decide) ⟨rfl, (Cl.c rfl), ⟨rfl, (Cl.c rfl), ⟨rfl, (Cl.c rfl), ⟨rfl, (Cl.c rfl), trivial⟩⟩⟩⟩ fun v49 => ⟨Gh.le_refl _, PickC.pick, ?_⟩)
            refine RH.up1 ?_
            refine RH.pv rfl (fun _ _ _ _ h => h) (Gh.le_refl _) PickC.pick rfl (PV.idxS (v := v49) rfl Is26 rfl SlF.o rfl rfl (by omega)) ?_
            refine RH.pv rfl (fun _ _ _ _ h => h) (Gh.le_refl _) PickC.pick rfl (PV.loadE1 rfl Sc2 rfl rfl (El.o (getG (by omega))) rfl) ?_
            refine RH.pv rfl (fun _ _ _ _ h => h) (Gh.le_refl _) PickC.pick rfl (PV.add rfl rfl rfl (by omega)) ?_
            refine RH.pv rfl (fun _ _ _ _ h => h) (Gh.le_refl _) PickC.pick rfl (PV.build (vs := [(0, [vi _]), (1, [vi _])]) (out := [_, _]) rfl Zr52 Pl52 ⟨rfl, (Cl.c rfl), ⟨rfl, (Cl.c rfl), trivial⟩⟩ rfl) ?_
            refine RH.ot rfl rfl (OT.storeW (vs := [vi _, vi _]) rfl Sz52 rfl rfl (Cl.c rfl) rfl rfl (OneC.c rfl) ⟨Gh.le_refl _, PickC.pick, ?_⟩)
            refine RH.nil ?_
            exact ⟨rfl, b11, trivial, ⟨rfl, trivial⟩, ⟨rfl, rfl, rfl, rfl, rfl, trivial⟩, (Cv.p (C := blk b11 52 [vi ((gd (Q1.map ptOf) i).x + gd [1, -1, 0, 0] d), vi ((gd (Q1.map ptOf) i).y + gd [0, 0, 1, -1] d)] :: osl 4 boolT v14 O1 :: osl 52 ptT qv1 (Q1.map ptOf) :: L)).trans (Cv.cast (by rw [ex, ey]; rfl))⟩
          · refine RH.up1 ?_
            refine RH.pv rfl (fun _ _ _ _ h => h) (Gh.le_refl _) PickC.pick rfl (PV.idxS (v := v49) rfl Is26 rfl SlF.o rfl rfl (by omega)) ?_
            refine RH.pv rfl (fun _ _ _ _ h => h) (Gh.le_refl _) PickC.pick rfl (PV.loadE1 rfl Sc2 rfl rfl (El.o (getG (by omega))) rfl) ?_
            refine RH.pv rfl (fun _ _ _ _ h => h) (Gh.le_refl _) PickC.pick rfl (PV.add rfl rfl rfl (by omega)) ?_
            refine RH.ot rfl rfl (OT.bslice (F := intT) (els := [_, _, _, _]) rfl El26 rfl (by decide) rfl (by decide) ⟨rfl, (Cl.c rfl), ⟨rfl, (Cl.c rfl), ⟨rfl, (Cl.c rfl), ⟨rfl, (Cl.c rfl), trivial⟩⟩⟩⟩ fun v39 => ⟨Gh.le_refl _, PickC.pick, ?_⟩)
            refine RH.up1 ?_
            refine RH.pv rfl (fun _ _ _ _ h => h) (Gh.le_refl _) PickC.pick rfl (PV.idxS (v := v39) rfl Is26 rfl SlF.o rfl rfl (by omega)) ?_
            refine RH.pv rfl (fun _ _ _ _ h => h) (Gh.le_refl _) PickC.pick rfl (PV.loadE1 rfl Sc2 rfl rfl (El.o (getG (by omega))) rfl) ?_
            refine RH.pv rfl (fun _ _ _ _ h => h) (Gh.le_refl _) PickC.pick rfl (PV.add rfl rfl rfl (by omega)) ?_
            refine RH.pv rfl (fun _ _ _ _ h => h) (Gh.le_refl _) PickC.pick rfl (PV.build (vs := [(0, [vi _]), (1, [vi _])]) (out := [_, _]) rfl Zr52 Pl52 ⟨rfl, (Cl.c rfl), ⟨rfl, (Cl.c rfl), trivial⟩⟩ rfl) ?_
            refine RH.ot rfl rfl (OT.storeW (vs := [vi _, vi _]) rfl Sz52 rfl rfl (Cl.c rfl) rfl rfl (OneC.c rfl) ⟨Gh.le_refl _, PickC.pick, ?_⟩)
            refine RH.nil ?_
            exact ⟨rfl, b11, trivial, ⟨rfl, trivial⟩, ⟨rfl, rfl, rfl, rfl, rfl, trivial⟩, (Cv.p (C := blk b11 52 [vi ((gd (Q1.map ptOf) i).x + gd [1, -1, 0, 0] d), vi ((gd (Q1.map ptOf) i).y + gd [0, 0, 1, -1] d)] :: osl 4 boolT v14 O1 :: osl 52 ptT qv1 (Q1.map ptOf) :: L)).trans (Cv.cast (by rw [ex, ey]; rfl))⟩
      · have ej : ((gd Q1 i).2 - 40 + dY d + 40) * 80 + ((gd Q1 i).1 - 40 + dX d) + 40 = ((gd Q1 i).2 + dY d) * 80 + ((gd Q1 i).1 + dX d) := by omega
        rintro b11 τ2 _
        refine WP.seq ?_
        refine WP.region ?_
        refine RG.pv rfl (PV.move (v := v) rfl rfl) ?_
        refine RG.pv rfl (PV.field rfl Fo52_0 rfl) ?_
        refine RG.pv rfl (PV.load1 rfl Sc2 rfl (Rd.blk rfl)) ?_
        refine RG.pv rfl (PV.field rfl Fo52_1 rfl) ?_
        refine RG.pv rfl (PV.load1 rfl Sc2 rfl (Rd.blk rfl)) ?_
        refine RG.callF (vs := [v, _, _]) rfl rfl En62 rfl (l17Cell_s (Rs.up h1) hS ?_)
        refine RG.pv rfl (PV.mvB (.inl rfl) rfl) ?_
        refine RG.gs rfl rfl rfl (fun hp => (PV.move (v := v14) rfl rfl)) ?_
        refine RG.gs rfl rfl rfl (fun hp => (PV.field rfl Fo52_0 rfl)) ?_
        refine RG.gs rfl rfl rfl (fun hp => (PV.load1 rfl Sc2 (gs_t hp) (Rd.blk rfl))) ?_
        refine RG.gs rfl rfl rfl (fun hp => (PV.field rfl Fo52_1 rfl)) ?_
        refine RG.gs rfl rfl rfl (fun hp => (PV.load1 rfl Sc2 (gs_t hp) (Rd.blk rfl))) ?_
        refine RG.gsC rfl rfl rfl rfl En103 (fun hp => ⟨_, (acons (gs_t hp) (acons (gs_t hp) anil)), l17At_s (by first | omega | (simp at hp; omega)) (by first | omega | (simp at hp; omega)) ⟨rfl, rfl, rfl⟩⟩) ?_
        refine RG.gs rfl rfl rfl (fun hp => (PV.idxS (j := ((gd Q1 i).2 + dY d).toNat * 80 + ((gd Q1 i).1 + dX d).toNat) (v := v14) rfl Is99 (gs_t hp) SlF.o (gs_t hp) (by first | omega | (simp at hp; omega)) (by first | omega | (simp at hp; omega)))) ?_
        refine RG.gs rfl rfl rfl (fun hp => (PV.loadE1 rfl Sc4 (gs_t hp) rfl (El.o (getG (by first | omega | (simp at hp; omega)))) rfl)) ?_
        refine RG.gs rfl rfl rfl (fun hp => (PV.not rfl (gs_t hp))) ?_
        refine RG.pv rfl (PV.pickA rfl rfl (fun hq => gs_t (geqT hq)) rfl) ?_
        refine RG.nil ?_
        refine WP.cond rfl (fun h4 => ?_) (fun h4 => ?_)
        · have h5 : ((-40 ≤ (gd Q1 i).1 - 40 + dX d ∧ (gd Q1 i).1 - 40 + dX d < 40) ∧ (-40 ≤ (gd Q1 i).2 - 40 + dY d ∧ (gd Q1 i).2 - 40 + dY d < 40)) ∧ gb S ((gd Q1 i).2 + dY d).toNat ((gd Q1 i).1 + dX d).toNat = true ∧ gb O1 ((gd Q1 i).2 + dY d).toNat ((gd Q1 i).1 + dX d).toNat = false := by
            simp only [Bool.and_eq_true, decide_eq_true_eq, Bool.not_eq_true', ej] at h4
            obtain ⟨⟨⟨a1, a2⟩, a3⟩, a4⟩ := h4
            rw [show (((gd Q1 i).2 + dY d) * 80 + ((gd Q1 i).1 + dX d)).toNat = ((gd Q1 i).2 + dY d).toNat * 80 + ((gd Q1 i).1 + dX d).toNat by omega] at a3
            exact ⟨⟨a1, a2⟩, a3, a4⟩
          obtain ⟨⟨a1, a2⟩, a3, a4⟩ := h5
          refine WP.seq ?_
          refine WP.region ?_
          refine RG.pv rfl (PV.move (v := v14) rfl rfl) ?_
          refine RG.pv rfl (PV.field rfl Fo52_0 rfl) ?_
          refine RG.pv rfl (PV.load1 rfl Sc2 rfl (Rd.blk rfl)) ?_
          refine RG.pv rfl (PV.field rfl Fo52_1 rfl) ?_
          refine RG.pv rfl (PV.load1 rfl Sc2 rfl (Rd.blk rfl)) ?_
          refine RG.callF (vs := [_, _]) rfl rfl En103 rfl (l17At_s (by first | omega | (simp at hp; omega)) (by first | omega | (simp at hp; omega)) ?_)
          refine RG.pv rfl (PV.idxS (j := ((gd Q1 i).2 + dY d).toNat * 80 + ((gd Q1 i).1 + dX d).toNat) (v := v14) rfl Is99 rfl SlF.o rfl (by omega) (by omega)) ?_
          refine RG.ot rfl (OT.storeE (F := boolT) rfl Sz4 rfl rfl rfl (Cl.c rfl) (OneC.c rfl) (by omega) ?_)
          refine RG.nil ?_
          refine WP.region ?_
          refine RG.pv rfl (PV.move (v := qv1) rfl rfl) ?_
          refine RG.pv rfl (PV.loadW rfl Ag52 rfl rfl) ?_
          refine RG.ot rfl (OT.bslice (F := ptT) (els := [⟨_, _⟩]) rfl El145 rfl (by decide) rfl (by decide) ⟨rfl, (Cl.c rfl), trivial⟩ fun v81 => ?_)
          refine RG.ot rfl (OT.append (v := qv1) (u := v81) (F := ptT) rfl El145 rfl (by decide) rfl rfl Rs.o (OneL.c (fun _ => rfl)) rfl (by first | omega | (simp <;> omega)) fun v82 => ?_)
          refine RG.pv rfl (PV.asg (v := v82) rfl rfl) ?_
          refine RG.nil ?_
          refine WP.region ?_
          refine RG.pv rfl (PV.mvI (.inl rfl) rfl) ?_
          refine RG.pv rfl (PV.add rfl rfl rfl (by omega)) ?_
          refine RG.pv rfl (PV.mvI (.inr rfl) rfl) ?_
          refine RG.nil ?_
          have ep : ptOf ((gd Q1 i).1 + dX d, (gd Q1 i).2 + dY d) = ⟨(gd Q1 i).1 - 40 + dX d, (gd Q1 i).2 - 40 + dY d⟩ := by simp only [ptOf, Pt.mk.injEq]; omega
          have ha := adj4 (q := gd Q1 i) (d := d) (by omega) hb1 (by omega) (by omega)
          exact ⟨rfl, d + 1, (Q1 ++ [((gd Q1 i).1 + dX d, (gd Q1 i).2 + dY d)]), (O1.set (((gd Q1 i).2 + dY d).toNat * 80 + ((gd Q1 i).1 + dX d).toNat) true), v82, ⟨by omega, hF1.add ⟨by omega, by omega⟩ ⟨by omega, by omega⟩ a4 a3 hi1 ha, hD1.add hi1 (fun c hc => on_set hl1 ⟨by omega, by omega⟩ ⟨by omega, by omega⟩ hc), on_set hl1 ⟨by omega, by omega⟩ ⟨by omega, by omega⟩ h01, by simp; omega, by rw [gd_app_l hi1]; exact hq1, by rw [← hq1] at hN1 ⊢; exact hN1.take hl1 hb1 (by omega) (by omega)⟩, ⟨rfl, rfl, trivial⟩, ⟨rfl, rfl, rfl, trivial⟩, (Cv.p (C := osl 4 boolT v14 (O1.set (((gd Q1 i).2 + dY d).toNat * 80 + ((gd Q1 i).1 + dX d).toNat) true) :: osl 52 ptT v82 (Q1.map ptOf ++ [⟨(gd Q1 i).1 - 40 + dX d, (gd Q1 i).2 - 40 + dY d⟩]) :: L)).trans (Cv.cast (by rw [List.map_append, ← ep]; rfl)), by omega⟩
        · refine WP.skip ?_
          refine WP.region ?_
          refine RG.pv rfl (PV.mvI (.inl rfl) rfl) ?_
          refine RG.pv rfl (PV.add rfl rfl rfl (by omega)) ?_
          refine RG.pv rfl (PV.mvI (.inr rfl) rfl) ?_
          refine RG.nil ?_
          refine ⟨rfl, d + 1, Q1, O1, qv1, ⟨by omega, hF1, hD1, h01, hi1, hq1, ?_⟩, ⟨rfl, rfl, trivial⟩, ⟨rfl, rfl, rfl, trivial⟩, Cv.p, by omega⟩
          rw [← hq1] at hN1 ⊢
          refine hN1.skip hb1 ?_
          by_cases hin : 0 ≤ (gd Q1 i).1 + dX d ∧ (gd Q1 i).1 + dX d < 80 ∧ 0 ≤ (gd Q1 i).2 + dY d ∧ (gd Q1 i).2 + dY d < 80
          · refine .inr ?_
            simp only [Bool.and_eq_false_iff, decide_eq_false_iff_not, Bool.not_eq_false', ej] at h4
            rw [show (((gd Q1 i).2 + dY d) * 80 + ((gd Q1 i).1 + dX d)).toNat = ((gd Q1 i).2 + dY d).toNat * 80 + ((gd Q1 i).1 + dX d).toNat by omega] at h4
            rcases h4 with (((a | a) | a) | a)
            · omega
            · omega
            · exact .inl a
            · exact .inr a
          · exact .inl hin
    · have h3 := of_decide_eq_false h3
      refine WP.exit ?_
      refine WP.region ?_
      refine RG.pv rfl (PV.mvI (.inl rfl) rfl) ?_
      refine RG.pv rfl (PV.add rfl rfl rfl (by omega)) ?_
      refine RG.pv rfl (PV.mvI (.inr rfl) rfl) ?_
      refine RG.nil ?_
      exact ⟨rfl, i + 1, Q1, O1, qv1, ⟨by omega, hF1, hD1.next4 (by rw [hq1]) (by obtain rfl : d = 4 := (by omega); exact hN1), h01⟩, ⟨rfl, rfl, trivial⟩, ⟨rfl, rfl, trivial⟩, Cv.p, by omega⟩
  · have h2 := of_decide_eq_false h2
    obtain rfl : i = Q.length := by omega
    have e := hF.final hseed h0 hD
    rw [e] at hF
    refine WP.exit ?_
    refine WP.seq ?_
    refine WP.region ?_
    refine RG.pv rfl (PV.move (v := qv) rfl rfl) ?_
    refine RG.pv rfl (PV.asg (v := qv) rfl rfl) ?_
    refine RG.nil ?_
    refine WP.ret ?_
    exact ⟨_, _, ResV.one rfl rfl, Cv.p, k qv Q hF⟩
/-- the cells of the first n places of the queue -/
def PQ (Q : List (Int × Int)) (n : Nat) (P : List Bool) : Prop := P.length = 6400 ∧ ∀ y x, y < 80 → x < 80 → (gb P y x = true ↔ ∃ m, m < n ∧ qc (gd Q m) = (y, x))
theorem PQ.zero (Q : List (Int × Int)) : PQ Q 0 (List.replicate 6400 false) := ⟨List.length_replicate, fun y x _ _ => by rw [gb_rep']; simp⟩
theorem PQ.step {Q : List (Int × Int)} {n : Nat} {P : List Bool} (h : PQ Q n P) (hb : 0 ≤ (gd Q n).1 ∧ (gd Q n).1 < 80 ∧ 0 ≤ (gd Q n).2 ∧ (gd Q n).2 < 80) : PQ Q (n + 1) (P.set ((gd Q n).2.toNat * 80 + (gd Q n).1.toNat) true) := by
  refine ⟨by simpa using h.1, fun y x hy hx => ?_⟩
  rw [gb_set' h.1 (by omega) (by omega) hx]
  by_cases e : y = (gd Q n).2.toNat ∧ x = (gd Q n).1.toNat
  · rw [if_pos e]
    exact ⟨fun _ => ⟨n, by omega, by rw [qc, e.1, e.2]⟩, fun _ => rfl⟩
  · rw [if_neg e, h.2 y x hy hx]
    constructor
    · rintro ⟨m, hm, he⟩; exact ⟨m, by omega, he⟩
    · rintro ⟨m, hm, he⟩
      by_cases c : m = n
      · subst c; exfalso; apply e; simp only [qc, Prod.mk.injEq] at he; omega
      · exact ⟨m, by omega, he⟩
theorem PQ.final {S : List Bool} {a : Cel} {Q : List (Int × Int)} {P : List Bool} (hF : FI S a (compB S a) Q) (h : PQ Q Q.length P) : P = compB S a := by
  refine gb_ext h.1 (compB_len _ _) fun y x hy hx => ?_
  rw [Bool.eq_iff_iff, h.2 y x hy hx]
  constructor
  · rintro ⟨m, hm, he⟩; have := (hF.on m hm).2.2; rw [he] at this; exact this
  · intro hg; exact hF.all (y, x) ⟨hy, hx, hg⟩
/-- what is left when the cells of P are taken away -/
def MQ (T P U : List Bool) : Prop := U.length = 6400 ∧ ∀ y x, y < 80 → x < 80 → gb U y x = (gb T y x && !gb P y x)
theorem MQ.zero {T : List Bool} (h : T.length = 6400) : MQ T (List.replicate 6400 false) T := ⟨h, fun y x _ _ => by rw [gb_rep']; simp⟩
theorem MQ.step {T P U : List Bool} (h : MQ T P U) (hP : P.length = 6400) {v u : Nat} (hv : v < 80) (hu : u < 80) : MQ T (P.set (v * 80 + u) true) (U.set (v * 80 + u) false) := by
  refine ⟨by simpa using h.1, fun y x hy hx => ?_⟩
  rw [gb_set' h.1 hv hu hx, gb_set' hP hv hu hx]
  by_cases e : y = v ∧ x = u
  · rw [if_pos e, if_pos e]; simp
  · rw [if_neg e, if_neg e]; exact h.2 y x hy hx
theorem comps_s {v : Value} {S : List Bool} (h1 : Rs G L boolT v S) (hS : S.length = 6400) (k : ∀ v' zs, er zs = comps S → R v' G (osl 99 slT v' zs :: bagS 4 boolT zs :: L)) : CallT Tryz.prog 58 #[v] G L R := by
  have hrl : (List.replicate S.length false).length = 6400 := by simp [hS]
  refine CallT.enter (args := _) Tryz.func58 rfl rfl (by kernel_rfl) rfl ?_
  refine WP.seq ?_
  refine WP.region ?_
  refine RG.pv rfl (PV.asg rfl rfl) ?_
  refine RG.nil ?_
  refine WP.seq ?_
  refine WP.region ?_
  refine RG.ot rfl (OT.bslice (F := (slT (α := Bool))) (els := []) rfl El96 rfl (by decide) rfl (by decide) trivial fun v10 => ?_)
  refine RG.pv rfl (PV.asg (v := v10) rfl rfl) ?_
  refine RG.nil ?_
  refine WP.seq ?_
  refine WP.region ?_
  refine RG.ot rfl (OT.bslice (F := boolT) (els := []) rfl El99 rfl (by decide) rfl (by decide) trivial fun v11 => ?_)
  refine RG.pv rfl (PV.move (v := v) rfl rfl) ?_
  refine RG.ot rfl (OT.append (v := v11) (u := v) (F := boolT) rfl El99 rfl (by decide) rfl rfl (Rs.up h1) (OneL.c (fun _ => rfl)) rfl (by first | omega | (simp <;> omega)) fun v13 => ?_)
  refine RG.pv rfl (PV.asg (v := v13) rfl rfl) ?_
  refine RG.nil ?_
  refine WP.seq ?_
  refine WP.seq ?_
  refine WP.region ?_
  refine RG.pv rfl (PV.mvI (.inr rfl) rfl) ?_
  refine RG.nil ?_
  refine WP.block ?_
  refine WP.cv (((Cv.p (C := osl 99 slT v10 ([] : List (Sl Bool)) :: osl 4 boolT v13 ([] ++ S) :: L)).trans (Cv.cons (Cv.bag0 (e := 4) (F := boolT) (xs := []) rfl))).trans (Cv.cast (by rw [List.nil_append]))) ?_
  refine WP.loop4 [0, 4] (fun (yy : Int) (T : List Bool) (zs : List (Sl Bool)) (q : Value) => (-40 ≤ yy ∧ yy ≤ 40) ∧ PI id S ((yy + 40).toNat * 80) T (er zs)) (fun (yy : Int) (T : List Bool) (zs : List (Sl Bool)) (q : Value) => [(5, vi yy), (3, q)]) (fun (yy : Int) (T : List Bool) (zs : List (Sl Bool)) (q : Value) => osl 4 boolT v13 T :: osl 99 slT q zs :: bagS 4 boolT zs :: L) (fun (yy : Int) (T : List Bool) (zs : List (Sl Bool)) (q : Value) => (40 - yy).toNat) (-40) S [] v10 ⟨by omega, PI.start hS⟩ ⟨rfl, rfl, trivial⟩ Cv.p ?_
  rintro yy T zs q τ ⟨hy, hP⟩
  refine WP.seq ?_
  refine WP.seq ?_
  refine WP.region ?_
  refine RG.pv rfl (PV.mvI (.inl rfl) rfl) ?_
  refine RG.pv rfl (PV.lss rfl rfl rfl) ?_
  refine RG.nil ?_
  obtain ⟨y, rfl⟩ : ∃ n : Nat, yy = (n : Int) - 40 := ⟨(yy + 40).toNat, by omega⟩
  rw [show ((y : Int) - 40 + 40).toNat = y by omega] at hP
  refine WP.cond rfl (fun h2 => ?_) (fun h2 => ?_)
  · have h2 := of_decide_eq_true h2
    refine WP.skip ?_
    refine WP.seq ?_
    refine WP.block ?_
    refine WP.seq ?_
    refine WP.region ?_
    refine RG.pv rfl (PV.mvI (.inr rfl) rfl) ?_
    refine RG.nil ?_
    refine WP.block ?_
    refine WP.loop4 [0, 4, 5] (fun (xx : Int) (T1 : List Bool) (zs1 : List (Sl Bool)) (q1 : Value) => (-40 ≤ xx ∧ xx ≤ 40) ∧ PI id S (y * 80 + (xx + 40).toNat) T1 (er zs1)) (fun (xx : Int) (T1 : List Bool) (zs1 : List (Sl Bool)) (q1 : Value) => [(6, vi xx), (3, q1)]) (fun (xx : Int) (T1 : List Bool) (zs1 : List (Sl Bool)) (q1 : Value) => osl 4 boolT v13 T1 :: osl 99 slT q1 zs1 :: bagS 4 boolT zs1 :: L) (fun (xx : Int) (T1 : List Bool) (zs1 : List (Sl Bool)) (q1 : Value) => (40 - xx).toNat) (-40) T zs q ⟨by omega, by rw [show ((-40 : Int) + 40).toNat = 0 from rfl]; exact hP⟩ ⟨rfl, rfl, trivial⟩ Cv.p ?_
    rintro xx T1 zs1 q1 τ1 ⟨hx, hP1⟩
    refine WP.seq ?_
    refine WP.seq ?_
    refine WP.region ?_
    refine RG.pv rfl (PV.mvI (.inl rfl) rfl) ?_
    refine RG.pv rfl (PV.lss rfl rfl rfl) ?_
    refine RG.nil ?_
    obtain ⟨x, rfl⟩ : ∃ n : Nat, xx = (n : Int) - 40 := ⟨(xx + 40).toNat, by omega⟩
    rw [show ((x : Int) - 40 + 40).toNat = x by omega] at hP1
    refine WP.cond rfl (fun h3 => ?_) (fun h3 => ?_)
    · have h3 := of_decide_eq_true h3
      have hl1 := hP1.len
      have hzl : zs1.length ≤ y * 80 + x := by
        have := congrArg List.length hP1.er
        have h1 := firsts_len S (y * 80 + x)
        rw [er_len, List.length_map] at this; omega
      have e1 : (y * 80 + x) / 80 = y := by omega
      have e2 : (y * 80 + x) % 80 = x := by omega
      have e3 : cel (y * 80 + x) = (y, x) := by rw [cel, e1, e2]
      have e4 : ((x : Int) - 40 + 1 + 40).toNat = x + 1 := by omega
      refine WP.skip ?_
      refine WP.seq ?_
      refine WP.block ?_
      refine WP.seq ?_
      refine WP.seq ?_
      refine WP.region ?_
      refine RG.pv rfl (PV.move (v := v13) rfl rfl) ?_
      refine RG.pv rfl (PV.mvI (.inl rfl) rfl) ?_
      refine RG.pv rfl (PV.mvI (.inl rfl) rfl) ?_
      refine RG.callF (vs := [_, _]) rfl rfl En103 rfl (l17At_s (by omega) (by omega) ?_)
      refine RG.pv rfl (PV.idxS (j := y * 80 + x) (v := v13) rfl Is99 rfl SlF.o rfl (by omega) (by omega)) ?_
      refine RG.pv rfl (PV.loadE1 rfl Sc4 rfl rfl (El.o (getG (by omega))) rfl) ?_
      refine RG.pv rfl (PV.not rfl rfl) ?_
      refine RG.nil ?_
      refine WP.cond rfl (fun h4 => ?_) (fun h4 => ?_)
      · have h5 : gb T1 y x = false := by rw [gb]; simpa using h4
        refine WP.exit ?_
        refine WP.region ?_
        refine RG.pv rfl (PV.mvI (.inl rfl) rfl) ?_
        refine RG.pv rfl (PV.add rfl rfl rfl (by omega)) ?_
        refine RG.pv rfl (PV.mvI (.inr rfl) rfl) ?_
        refine RG.nil ?_
        exact ⟨rfl, (x : Int) - 40 + 1, T1, zs1, q1, ⟨by omega, by rw [e4]; exact hP1.skip (by omega) (by rw [e1, e2]; exact h5)⟩, ⟨rfl, rfl, trivial⟩, ⟨rfl, rfl, rfl, trivial⟩, Cv.p, by omega⟩
      · have h5 : gb T1 y x = true := by rw [gb]; simpa using h4
        refine WP.skip ?_
        refine WP.seq ?_
        refine WP.region ?_
        refine RG.pv rfl (PV.move (v := v13) rfl rfl) ?_
        refine RG.pv rfl (PV.mvI (.inl rfl) rfl) ?_
        refine RG.pv rfl (PV.mvI (.inl rfl) rfl) ?_
        refine RG.callF (vs := [v13, _, _]) rfl rfl En104 rfl (visit_s (x := (x : Int)) (y := (y : Int)) Rs.o hl1 (by omega) (by omega) (by rw [Int.toNat_natCast, Int.toNat_natCast]; exact h5) (fun v32 Q hQ => ?_))
        refine RG.pv rfl (PV.asg (v := v32) rfl rfl) ?_
        refine RG.nil ?_
        refine WP.seq ?_
        refine WP.region ?_
        refine RG.pv rfl (PV.move (v := v) rfl rfl) ?_
        refine RG.pv rfl (PV.len (v := v) rfl Tryz.underlying99 rfl (SlF.r h1)) ?_
        refine RG.ot rfl (OT.make (F := boolT) (a0 := false) rfl El99 rfl (by decide) rfl rfl (by omega) (by omega) fun v35 => ?_)
        refine RG.pv rfl (PV.asg (v := v35) rfl rfl) ?_
        refine RG.nil ?_
        refine WP.seq ?_
        refine WP.seq ?_
        refine WP.region ?_
        refine RG.pv rfl (PV.mvI (.inr rfl) rfl) ?_
        refine RG.nil ?_
        refine WP.block ?_
        rw [Int.toNat_natCast, Int.toNat_natCast, ← e3] at hQ
        have hQl := hQ.len_le
        have hml : (Q.map ptOf).length = Q.length := by simp
        refine WP.loop3 [0, 3, 4, 5, 6, 7, 8] (fun (i : Nat) (P U : List Bool) => i ≤ Q.length ∧ PQ Q i P ∧ MQ T1 P U) (fun (i : Nat) (P U : List Bool) => [(9, vi i)]) (fun (i : Nat) (P U : List Bool) => osl 4 boolT v35 P :: osl 4 boolT v13 U :: osl 52 ptT v32 (Q.map ptOf) :: osl 99 slT q1 zs1 :: bagS 4 boolT zs1 :: L) (fun (i : Nat) (P U : List Bool) => Q.length - i) 0 (List.replicate S.length false) T1 ⟨by omega, by rw [hS]; exact PQ.zero Q, by rw [hS]; exact MQ.zero hl1⟩ ⟨rfl, trivial⟩ Cv.p ?_
        rintro i P U τ2 ⟨hi, hPQ, hMQ⟩
        refine WP.seq ?_
        refine WP.seq ?_
        refine WP.region ?_
        refine RG.pv rfl (PV.mvI (.inl rfl) rfl) ?_
        refine RG.pv rfl (PV.move (v := v32) rfl rfl) ?_
        refine RG.pv rfl (PV.len (v := v32) rfl Tryz.underlying145 rfl SlF.o) ?_
        refine RG.pv rfl (PV.lss rfl rfl rfl) ?_
        refine RG.nil ?_
        refine WP.cond rfl (fun h6 => ?_) (fun h6 => ?_)
        · have h6 := of_decide_eq_true h6
          have hPl := hPQ.1
          have hUl := hMQ.1
          have hbq := hQ.bd i (by omega)
          have e5 : gd (Q.map ptOf) i = ⟨(gd Q i).1 - 40, (gd Q i).2 - 40⟩ := gd_pt (by omega)
          have ex : (gd (Q.map ptOf) i).x = (gd Q i).1 - 40 := by rw [e5]
          have ey : (gd (Q.map ptOf) i).y = (gd Q i).2 - 40 := by rw [e5]
          refine WP.skip ?_
          refine WP.seq ?_
          refine WP.block ?_
          refine WP.seq ?_
          refine WP.regionHD [.s v35] (.q 0 (.q 1 (.q 2 (.q 3 (.q 4 (.q 5 (.q 6 (.q 7 (.q 8 (.q 9 (.q 10 (.l 11 (.l 12 (.l 13 Sch.nil)))))))))))))) (by kernel_rfl) (by kernel_rfl) (by kernel_rfl) rfl ?_
          refine RH.pv rfl (fun _ _ _ _ h => h) (Gh.le_refl _) PickC.pick rfl (PV.move (v := v35) rfl rfl) ?_
          refine RH.pv rfl (fun _ _ _ _ h => h) (Gh.le_refl _) PickC.pick rfl (PV.move (v := v32) rfl rfl) ?_
          refine RH.pv rfl (fun _ _ _ _ h => h) (Gh.le_refl _) PickC.pick rfl (PV.mvI (.inl rfl) rfl) ?_
          refine RH.pv rfl (fun _ _ _ _ h => h) (Gh.le_refl _) PickC.pick rfl (PV.idxS (v := v32) rfl Is145 rfl SlF.o rfl rfl (by omega)) ?_
          refine RH.pv rfl (fun _ _ _ _ h => h) (Gh.le_refl _) PickC.pick rfl (PV.field rfl Fo52_0 rfl) ?_
          refine RH.pv rfl (fun _ _ _ _ h => h) (Gh.le_refl _) PickC.pick rfl (PV.loadF rfl Sc2 rfl rfl (El.o (getG (by omega))) rfl) ?_
          refine RH.pv rfl (fun _ _ _ _ h => h) (Gh.le_refl _) PickC.pick rfl (PV.move (v := v32) rfl rfl) ?_
          refine RH.pv rfl (fun _ _ _ _ h => h) (Gh.le_refl _) PickC.pick rfl (PV.mvI (.inl rfl) rfl) ?_
          refine RH.pv rfl (fun _ _ _ _ h => h) (Gh.le_refl _) PickC.pick rfl (PV.idxS (v := v32) rfl Is145 rfl SlF.o rfl rfl (by omega)) ?_
          refine RH.pv rfl (fun _ _ _ _ h => h) (Gh.le_refl _) PickC.pick rfl (PV.field rfl Fo52_1 rfl) ?_
          refine RH.pv rfl (fun _ _ _ _ h => h) (Gh.le_refl _) PickC.pick rfl (PV.loadF rfl Sc2 rfl rfl (El.o (getG (by omega))) rfl) ?_
          refine RH.ot rfl rfl (OT.callF (vs := [_, _]) rfl En103 rfl (l17At_s (by omega) (by omega) ⟨Gh.le_refl _, PickC.pick, ?_⟩))
          refine RH.ot rfl rfl (OT.pv (PV.idxS (j := (gd Q i).2.toNat * 80 + (gd Q i).1.toNat) (v := v35) rfl Is99 rfl SlF.o rfl (by omega) (by omega)) ⟨Gh.le_refl _, PickC.pick, ?_⟩)
          refine RH.ot rfl rfl (OT.storeE (F := boolT) rfl Sz4 rfl rfl rfl (Cl.c rfl) (OneC.c rfl) (by omega) ⟨Gh.le_refl _, PickC.pick, ?_⟩)
          refine RH.nil ?_
          refine WP.regionHD [.s v13] (.q 0 (.q 1 (.q 2 (.q 3 (.q 4 (.q 5 (.q 6 (.q 7 (.q 8 (.q 9 (.q 10 (.l 11 (.l 12 (.l 13 Sch.nil)))))))))))))) (by kernel_rfl) (by kernel_rfl) (by kernel_rfl) rfl ?_
          refine RH.pv rfl (fun _ _ _ _ h => h) (Gh.le_refl _) PickC.pick rfl (PV.move (v := v13) rfl rfl) ?_
          refine RH.pv rfl (fun _ _ _ _ h => h) (Gh.le_refl _) PickC.pick rfl (PV.move (v := v32) rfl rfl) ?_
          refine RH.pv rfl (fun _ _ _ _ h => h) (Gh.le_refl _) PickC.pick rfl (PV.mvI (.inl rfl) rfl) ?_
          refine RH.pv rfl (fun _ _ _ _ h => h) (Gh.le_refl _) PickC.pick rfl (PV.idxS (v := v32) rfl Is145 rfl SlF.o rfl rfl (by omega)) ?_
          refine RH.pv rfl (fun _ _ _ _ h => h) (Gh.le_refl _) PickC.pick rfl (PV.field rfl Fo52_0 rfl) ?_
          refine RH.pv rfl (fun _ _ _ _ h => h) (Gh.le_refl _) PickC.pick rfl (PV.loadF rfl Sc2 rfl rfl (El.o (getG (by omega))) rfl) ?_
          refine RH.pv rfl (fun _ _ _ _ h => h) (Gh.le_refl _) PickC.pick rfl (PV.move (v := v32) rfl rfl) ?_
          refine RH.pv rfl (fun _ _ _ _ h => h) (Gh.le_refl _) PickC.pick rfl (PV.mvI (.inl rfl) rfl) ?_
          refine RH.pv rfl (fun _ _ _ _ h => h) (Gh.le_refl _) PickC.pick rfl (PV.idxS (v := v32) rfl Is145 rfl SlF.o rfl rfl (by omega)) ?_
          refine RH.pv rfl (fun _ _ _ _ h => h) (Gh.le_refl _) PickC.pick rfl (PV.field rfl Fo52_1 rfl) ?_
          refine RH.pv rfl (fun _ _ _ _ h => h) (Gh.le_refl _) PickC.pick rfl (PV.loadF rfl Sc2 rfl rfl (El.o (getG (by omega))) rfl) ?_
          refine RH.ot rfl rfl (OT.callF (vs := [_, _]) rfl En103 rfl (l17At_s (by omega) (by omega) ⟨Gh.le_refl _, PickC.pick, ?_⟩))
          refine RH.ot rfl rfl (OT.pv (PV.idxS (j := (gd Q i).2.toNat * 80 + (gd Q i).1.toNat) (v := v13) rfl Is99 rfl SlF.o rfl (by omega) (by omega)) ⟨Gh.le_refl _, PickC.pick, ?_⟩)
          refine RH.ot rfl rfl (OT.storeE (F := boolT) rfl Sz4 rfl rfl rfl (Cl.c rfl) (OneC.c rfl) (by omega) ⟨Gh.le_refl _, PickC.pick, ?_⟩)
          refine RH.nil ?_
          refine WP.region ?_
          refine RG.pv rfl (PV.mvI (.inl rfl) rfl) ?_
          refine RG.pv rfl (PV.add rfl rfl rfl (by omega)) ?_
          refine RG.pv rfl (PV.mvI (.inr rfl) rfl) ?_
          refine RG.nil ?_
          exact ⟨rfl, i + 1, (P.set ((gd Q i).2.toNat * 80 + (gd Q i).1.toNat) true), (U.set ((gd Q i).2.toNat * 80 + (gd Q i).1.toNat) false), ⟨by omega, hPQ.step hbq, hMQ.step hPl (by omega) (by omega)⟩, ⟨rfl, trivial⟩, ⟨rfl, rfl, rfl, rfl, rfl, rfl, rfl, trivial⟩, Cv.p, by omega⟩
        · have h6 := of_decide_eq_false h6
          obtain rfl : i = Q.length := by omega
          obtain rfl := hPQ.final hQ
          refine WP.exit ?_
          refine WP.region ?_
          refine RG.pv rfl (PV.move (v := q1) rfl rfl) ?_
          refine RG.pv rfl (PV.move (v := v35) rfl rfl) ?_
          refine RG.ot rfl (OT.bslice (F := (slT (α := Bool))) (els := [⟨v35, compB T1 (cel (y * 80 + x))⟩]) rfl El96 rfl (by decide) rfl (by decide) ⟨rfl, (Cl.s (v := v35) SlF.o), trivial⟩ fun v70 => ?_)
          refine RG.ot rfl (OT.append (v := q1) (u := v70) (F := (slT (α := Bool))) rfl El96 rfl (by decide) rfl rfl Rs.o (OneL.one (OneC.sl SlF.o OneC.nil)) rfl (by first | omega | (simp <;> omega)) fun v71 => ?_)
          refine RG.pv rfl (PV.asg (v := v71) rfl rfl) ?_
          refine RG.nil ?_
          refine WP.region ?_
          refine RG.pv rfl (PV.mvI (.inl rfl) rfl) ?_
          refine RG.pv rfl (PV.add rfl rfl rfl (by omega)) ?_
          refine RG.pv rfl (PV.mvI (.inr rfl) rfl) ?_
          refine RG.nil ?_
          refine ⟨rfl, (x : Int) - 40 + 1, U, (zs1 ++ [⟨v35, compB T1 (cel (y * 80 + x))⟩]), v71, ⟨by omega, ?_⟩, ⟨rfl, rfl, trivial⟩, ⟨rfl, rfl, rfl, trivial⟩, ((Cv.p (C := osl 4 boolT v35 (compB T1 (cel (y * 80 + x))) :: bagS 4 boolT zs1 :: osl 4 boolT v13 U :: osl 99 slT v71 (zs1 ++ [⟨v35, compB T1 (cel (y * 80 + x))⟩]) :: L)).trans (Cv.bagS_add.trans Cv.p)), by omega⟩
          rw [e4, er, List.map_append]
          exact hP1.take (by omega) (by rw [e1, e2]; exact h5) hMQ.1 hMQ.2
    · have h3 := of_decide_eq_false h3
      obtain rfl : x = 80 := by omega
      refine WP.exit ?_
      refine WP.region ?_
      refine RG.pv rfl (PV.mvI (.inl rfl) rfl) ?_
      refine RG.pv rfl (PV.add rfl rfl rfl (by omega)) ?_
      refine RG.pv rfl (PV.mvI (.inr rfl) rfl) ?_
      refine RG.nil ?_
      exact ⟨rfl, (y : Int) - 40 + 1, T1, zs1, q1, ⟨by omega, by rw [show ((y : Int) - 40 + 1 + 40).toNat = y + 1 by omega, Nat.add_mul]; exact hP1⟩, ⟨rfl, rfl, trivial⟩, ⟨rfl, rfl, trivial⟩, Cv.p, by omega⟩
  · have h2 := of_decide_eq_false h2
    obtain rfl : y = 80 := by omega
    have hz := hP.all
    refine WP.exit ?_
    refine WP.seq ?_
    refine WP.region ?_
    refine RG.pv rfl (PV.move (v := q) rfl rfl) ?_
    refine RG.pv rfl (PV.asg (v := q) rfl rfl) ?_
    refine RG.nil ?_
    refine WP.ret ?_
    exact ⟨_, _, ResV.one rfl rfl, Cv.p, k q zs hz⟩
end Go.Proofs.YtkiafbneemdajaaGreat
namespace Go.Proofs.YtkiafbneemdajaaGreat
set_option linter.unusedVariables false
set_option linter.unusedSimpArgs false
open Go
set_option maxRecDepth 20000
set_option linter.unusedSimpArgs false
variable {G : Gh} {L : List Ch} {R : Value → Gh → List Ch → Prop}
theorem toRect_s {r : Rect} (k : R (vrect r) G L) : CallT Tryz.prog 44 #[vrect r] G L R := by
  refine CallT.enter (args := _) Tryz.func44 rfl rfl (by kernel_rfl) rfl ?_
  refine WP.seq ?_
  refine WP.region ?_
  refine RG.ot rfl (OT.box (cs := rectT.enc r) rfl rfl rfl fun b1 => ?_)
  refine RG.ot rfl (OT.alloc rfl Zr79 fun b2 => ?_)
  refine RG.nil ?_
  refine WP.seq ?_
  refine WP.region ?_
  refine RG.ot rfl (OT.alloc rfl Zr79 fun b3 => ?_)
  refine RG.nil ?_
  refine WP.seq ?_
  refine WP.region ?_
  refine RG.pv rfl (PV.field rfl Fo81_0 rfl) ?_
  refine RG.pv rfl (PV.load1 rfl Sc2 rfl (Rd.blk rfl)) ?_
  refine RG.pv rfl (PV.field rfl Fo79_0 rfl) ?_
  refine RG.ot rfl (OT.storeB (vs := [vi _]) (cs' := [_, _, _, _]) rfl Sz2 rfl rfl (Cl.c rfl) rfl (OneC.c rfl) rfl rfl ?_)
  refine RG.nil ?_
  refine WP.seq ?_
  refine WP.region ?_
  refine RG.pv rfl (PV.field rfl Fo81_1 rfl) ?_
  refine RG.pv rfl (PV.load1 rfl Sc2 rfl (Rd.blk rfl)) ?_
  refine RG.pv rfl (PV.field rfl Fo79_1 rfl) ?_
  refine RG.ot rfl (OT.storeB (vs := [vi _]) (cs' := [_, _, _, _]) rfl Sz2 rfl rfl (Cl.c rfl) rfl (OneC.c rfl) rfl rfl ?_)
  refine RG.nil ?_
  refine WP.seq ?_
  refine WP.region ?_
  refine RG.pv rfl (PV.field rfl Fo81_2 rfl) ?_
  refine RG.pv rfl (PV.load1 rfl Sc2 rfl (Rd.blk rfl)) ?_
  refine RG.pv rfl (PV.field rfl Fo79_2 rfl) ?_
  refine RG.ot rfl (OT.storeB (vs := [vi _]) (cs' := [_, _, _, _]) rfl Sz2 rfl rfl (Cl.c rfl) rfl (OneC.c rfl) rfl rfl ?_)
  refine RG.nil ?_
  refine WP.seq ?_
  refine WP.region ?_
  refine RG.pv rfl (PV.field rfl Fo81_3 rfl) ?_
  refine RG.pv rfl (PV.load1 rfl Sc2 rfl (Rd.blk rfl)) ?_
  refine RG.pv rfl (PV.field rfl Fo79_3 rfl) ?_
  refine RG.ot rfl (OT.storeB (vs := [vi _]) (cs' := [_, _, _, _]) rfl Sz2 rfl rfl (Cl.c rfl) rfl (OneC.c rfl) rfl rfl ?_)
  refine RG.nil ?_
  refine WP.seq ?_
  refine WP.region ?_
  refine RG.pv rfl (PV.loadW rfl Ag79 rfl rfl) ?_
  refine RG.ot rfl (OT.storeW (vs := [vi _, vi _, vi _, vi _]) rfl Sz79 rfl rfl (Cl.c rfl) rfl rfl (OneC.c rfl) ?_)
  refine RG.nil ?_
  refine WP.ret ?_
  exact ⟨_, _, ResV.one rfl (RV1.cell rfl Ag79 rfl), Cv.p, k⟩
theorem eqRect_s {a b : Rect} (k : R (.bool (decide (a = b))) G L) : CallT Tryz.prog 52 #[vrect a, vrect b] G L R := by
  refine CallT.enter (args := _) Tryz.func52 rfl rfl (by kernel_rfl) rfl ?_
  refine WP.seq ?_
  refine WP.region ?_
  refine RG.ot rfl (OT.box (cs := rectT.enc a) rfl rfl rfl fun b2 => ?_)
  refine RG.ot rfl (OT.box (cs := rectT.enc b) rfl rfl rfl fun b3 => ?_)
  refine RG.pv rfl (PV.mvB (.inr rfl) rfl) ?_
  refine RG.nil ?_
  refine WP.seq ?_
  refine WP.seq ?_
  refine WP.region ?_
  refine RG.pv rfl (PV.field rfl Fo79_0 rfl) ?_
  refine RG.pv rfl (PV.load1 rfl Sc2 rfl (Rd.blk rfl)) ?_
  refine RG.pv rfl (PV.field rfl Fo79_0 rfl) ?_
  refine RG.pv rfl (PV.load1 rfl Sc2 rfl (Rd.blk rfl)) ?_
  refine RG.pv rfl (PV.neq rfl rfl rfl) ?_
  refine RG.nil ?_
  refine WP.cond rfl (fun h1 => ?_) (fun h1 => ?_)
  · have e : decide (a = b) = false := by rw [decide_eq_false_iff_not]; rintro rfl; simp at h1
    rw [e] at k
    refine WP.seq ?_
    refine WP.region ?_
    refine RG.pv rfl (PV.mvB (.inr rfl) rfl) ?_
    refine RG.nil ?_
    refine WP.ret ?_
    exact ⟨_, _, ResV.one rfl rfl, Cv.p, k⟩
  · refine WP.skip ?_
    refine WP.seq ?_
    refine WP.seq ?_
    refine WP.region ?_
    refine RG.pv rfl (PV.field rfl Fo79_1 rfl) ?_
    refine RG.pv rfl (PV.load1 rfl Sc2 rfl (Rd.blk rfl)) ?_
    refine RG.pv rfl (PV.field rfl Fo79_1 rfl) ?_
    refine RG.pv rfl (PV.load1 rfl Sc2 rfl (Rd.blk rfl)) ?_
    refine RG.pv rfl (PV.neq rfl rfl rfl) ?_
    refine RG.nil ?_
    refine WP.cond rfl (fun h2 => ?_) (fun h2 => ?_)
    · have e : decide (a = b) = false := by rw [decide_eq_false_iff_not]; rintro rfl; simp at h2
      rw [e] at k
      refine WP.seq ?_
      refine WP.region ?_
      refine RG.pv rfl (PV.mvB (.inr rfl) rfl) ?_
      refine RG.nil ?_
      refine WP.ret ?_
      exact ⟨_, _, ResV.one rfl rfl, Cv.p, k⟩
    · refine WP.skip ?_
      refine WP.seq ?_
      refine WP.seq ?_
      refine WP.region ?_
      refine RG.pv rfl (PV.field rfl Fo79_2 rfl) ?_
      refine RG.pv rfl (PV.load1 rfl Sc2 rfl (Rd.blk rfl)) ?_
      refine RG.pv rfl (PV.field rfl Fo79_2 rfl) ?_
      refine RG.pv rfl (PV.load1 rfl Sc2 rfl (Rd.blk rfl)) ?_
      refine RG.pv rfl (PV.neq rfl rfl rfl) ?_
      refine RG.nil ?_
      refine WP.cond rfl (fun h3 => ?_) (fun h3 => ?_)
      · have e : decide (a = b) = false := by rw [decide_eq_false_iff_not]; rintro rfl; simp at h3
        rw [e] at k
        refine WP.seq ?_
        refine WP.region ?_
        refine RG.pv rfl (PV.mvB (.inr rfl) rfl) ?_
        refine RG.nil ?_
        refine WP.ret ?_
        exact ⟨_, _, ResV.one rfl rfl, Cv.p, k⟩
      · refine WP.skip ?_
        refine WP.seq ?_
        refine WP.seq ?_
        refine WP.region ?_
        refine RG.pv rfl (PV.field rfl Fo79_3 rfl) ?_
        refine RG.pv rfl (PV.load1 rfl Sc2 rfl (Rd.blk rfl)) ?_
        refine RG.pv rfl (PV.field rfl Fo79_3 rfl) ?_
        refine RG.pv rfl (PV.load1 rfl Sc2 rfl (Rd.blk rfl)) ?_
        refine RG.pv rfl (PV.neq rfl rfl rfl) ?_
        refine RG.nil ?_
        refine WP.cond rfl (fun h4 => ?_) (fun h4 => ?_)
        · have e : decide (a = b) = false := by rw [decide_eq_false_iff_not]; rintro rfl; simp at h4
          rw [e] at k
          refine WP.seq ?_
          refine WP.region ?_
          refine RG.pv rfl (PV.mvB (.inr rfl) rfl) ?_
          refine RG.nil ?_
          refine WP.ret ?_
          exact ⟨_, _, ResV.one rfl rfl, Cv.p, k⟩
        · have e : decide (a = b) = true := by
            obtain ⟨a0, a1, a2, a3⟩ := a; obtain ⟨b0, b1, b2, b3⟩ := b
            simp at h1 h2 h3 h4 ⊢; exact ⟨h1, h2, h3, h4⟩
          rw [e] at k
          refine WP.skip ?_
          refine WP.seq ?_
          refine WP.region ?_
          refine RG.pv rfl (PV.mvB (.inr rfl) rfl) ?_
          refine RG.nil ?_
          refine WP.ret ?_
          exact ⟨_, _, ResV.one rfl rfl, Cv.p, k⟩
theorem toRectS_s {v : Value} {xs : List Rect} (h1 : Rs G L rectT v xs) (hb : xs.length ≤ 1048576) (k : ∀ v', R v' G (osl 79 rectT v' xs :: L)) : CallT Tryz.prog 26 #[v] G L R := by
  refine CallT.enter (args := _) Tryz.func26 rfl rfl (by kernel_rfl) rfl ?_
  refine WP.seq ?_
  refine WP.region ?_
  refine RG.pv rfl (PV.asg rfl rfl) ?_
  refine RG.nil ?_
  refine WP.seq ?_
  refine WP.region ?_
  refine RG.pv rfl (PV.move (v := v) rfl rfl) ?_
  refine RG.pv rfl (PV.len (v := v) rfl Tryz.underlying44 rfl (SlF.r h1)) ?_
  refine RG.ot rfl (OT.make (F := rectT) (a0 := default) rfl El55 rfl (by decide) rfl rfl (by omega) (by omega) fun v7 => ?_)
  refine RG.pv rfl (PV.asg (v := v7) rfl rfl) ?_
  refine RG.nil ?_
  refine WP.seq ?_
  refine WP.seq ?_
  refine WP.region ?_
  refine RG.pv rfl (PV.mvI (.inr rfl) rfl) ?_
  refine RG.nil ?_
  refine WP.block ?_
  refine WP.loop2 [0, 3] (fun i ys => i ≤ xs.length ∧ ys.length = xs.length ∧ ∀ j, j < i → ys[j]? = xs[j]?) (fun i ys => [(4, vi i)]) (fun i ys => osl 79 rectT v7 ys :: L) (fun i ys => xs.length - i) 0 (List.replicate xs.length default) ⟨by omega, by simp, fun j h => by omega⟩ ⟨rfl, trivial⟩ Cv.p ?_
  rintro i ys τ ⟨hi, hl, he⟩
  refine WP.seq ?_
  refine WP.seq ?_
  refine WP.region ?_
  refine RG.pv rfl (PV.mvI (.inl rfl) rfl) ?_
  refine RG.pv rfl (PV.move (v := v) rfl rfl) ?_
  refine RG.pv rfl (PV.len (v := v) rfl Tryz.underlying44 rfl (SlF.r h1)) ?_
  refine RG.pv rfl (PV.lss rfl rfl rfl) ?_
  refine RG.nil ?_
  refine WP.cond rfl (fun h2 => ?_) (fun h2 => ?_)
  · have h2 := of_decide_eq_true h2
    refine WP.skip ?_
    refine WP.seq ?_
    refine WP.block ?_
    refine WP.region ?_
    refine RG.pv rfl (PV.move (v := v7) rfl rfl) ?_
    refine RG.pv rfl (PV.mvI (.inl rfl) rfl) ?_
    refine RG.pv rfl (PV.move (v := v) rfl rfl) ?_
    refine RG.pv rfl (PV.mvI (.inl rfl) rfl) ?_
    refine RG.pv rfl (PV.idxS (v := v) rfl Is44 rfl (SlF.r h1) rfl rfl (by omega)) ?_
    refine RG.pv rfl (PV.loadE rfl Ag81 rfl rfl (El.r h1 (getG (by omega)))) ?_
    refine RG.callF (vs := [_]) rfl rfl En44 rfl (toRect_s ?_)
    refine RG.pv rfl (PV.idxS (v := v7) rfl Is55 rfl SlF.o rfl rfl (by omega)) ?_
    refine RG.ot rfl (OT.storeE (F := rectT) rfl Sz79 rfl rfl rfl (Cl.c rfl) (OneC.c rfl) (by omega) ?_)
    refine RG.nil ?_
    refine WP.region ?_
    refine RG.pv rfl (PV.mvI (.inl rfl) rfl) ?_
    refine RG.pv rfl (PV.add rfl rfl rfl (by omega)) ?_
    refine RG.pv rfl (PV.mvI (.inr rfl) rfl) ?_
    refine RG.nil ?_
    exact ⟨rfl, i + 1, _, ⟨by omega, by simpa using hl, set_pre he (getG (by omega)) hl⟩, ⟨rfl, trivial⟩, ⟨rfl, rfl, trivial⟩, Cv.p, by omega⟩
  · have h2 := of_decide_eq_false h2
    obtain rfl := pre_eq he hl (by omega)
    refine WP.exit ?_
    refine WP.seq ?_
    refine WP.region ?_
    refine RG.pv rfl (PV.move (v := v7) rfl rfl) ?_
    refine RG.pv rfl (PV.asg (v := v7) rfl rfl) ?_
    refine RG.nil ?_
    refine WP.ret ?_
    exact ⟨_, _, ResV.one rfl rfl, Cv.p, k v7⟩
theorem eqRectS_s {v u : Value} {xs ys : List Rect} (h1 : Rs G L rectT v xs) (h2 : Rs G L rectT u ys) (k : R (.bool (decide (xs = ys))) G L) : CallT Tryz.prog 31 #[v, u] G L R := by
  refine CallT.bd h1 fun hb => ?_
  refine CallT.bd h2 fun hb' => ?_
  refine CallT.enter (args := _) Tryz.func31 rfl rfl (by kernel_rfl) rfl ?_
  refine WP.seq ?_
  refine WP.region ?_
  refine RG.pv rfl (PV.mvB (.inr rfl) rfl) ?_
  refine RG.nil ?_
  refine WP.seq ?_
  refine WP.seq ?_
  refine WP.region ?_
  refine RG.pv rfl (PV.move (v := v) rfl rfl) ?_
  refine RG.pv rfl (PV.len (v := v) rfl Tryz.underlying55 rfl (SlF.r h1)) ?_
  refine RG.pv rfl (PV.move (v := u) rfl rfl) ?_
  refine RG.pv rfl (PV.len (v := u) rfl Tryz.underlying55 rfl (SlF.r h2)) ?_
  refine RG.pv rfl (PV.neq rfl rfl rfl) ?_
  refine RG.nil ?_
  refine WP.cond rfl (fun h3 => ?_) (fun h3 => ?_)
  · have e : decide (xs = ys) = false := by
      rw [decide_eq_false_iff_not]; rintro rfl; simp at h3
    rw [e] at k
    refine WP.seq ?_
    refine WP.region ?_
    refine RG.pv rfl (PV.mvB (.inr rfl) rfl) ?_
    refine RG.nil ?_
    refine WP.ret ?_
    exact ⟨_, _, ResV.one rfl rfl, Cv.p, k⟩
  · have hl : xs.length = ys.length := by simp at h3; omega
    refine WP.skip ?_
    refine WP.seq ?_
    refine WP.seq ?_
    refine WP.region ?_
    refine RG.pv rfl (PV.mvI (.inr rfl) rfl) ?_
    refine RG.nil ?_
    refine WP.block ?_
    refine WP.loop1 [0, 1] (fun i => i ≤ xs.length ∧ ∀ j, j < i → xs[j]? = ys[j]?) (fun i => [(5, vi i)]) (fun i => L) (fun i => xs.length - i) 0 ⟨by omega, fun j h => by omega⟩ ⟨rfl, trivial⟩ Cv.p ?_
    rintro i τ ⟨hi, he⟩
    refine WP.seq ?_
    refine WP.seq ?_
    refine WP.region ?_
    refine RG.pv rfl (PV.mvI (.inl rfl) rfl) ?_
    refine RG.pv rfl (PV.move (v := v) rfl rfl) ?_
    refine RG.pv rfl (PV.len (v := v) rfl Tryz.underlying55 rfl (SlF.r h1)) ?_
    refine RG.pv rfl (PV.lss rfl rfl rfl) ?_
    refine RG.nil ?_
    refine WP.cond rfl (fun h4 => ?_) (fun h4 => ?_)
    · have h4 := of_decide_eq_true h4
      have h5 : i < xs.length := by omega
      refine WP.skip ?_
      refine WP.seq ?_
      refine WP.block ?_
      refine WP.seq ?_
      refine WP.regionQ (by kernel_rfl) (by kernel_rfl) ?_
      refine RQ.pv rfl (PV.move (v := v) rfl rfl) ?_
      refine RQ.pv rfl (PV.mvI (.inl rfl) rfl) ?_
      refine RQ.pv rfl (PV.idxS (v := v) rfl Is55 rfl (SlF.r h1) rfl rfl (by omega)) ?_
      refine RQ.pv rfl (PV.loadE rfl Ag79 rfl rfl (El.r h1 (getG (by omega)))) ?_
      refine RQ.pv rfl (PV.move (v := u) rfl rfl) ?_
      refine RQ.pv rfl (PV.mvI (.inl rfl) rfl) ?_
      refine RQ.pv rfl (PV.idxS (v := u) rfl Is55 rfl (SlF.r h2) rfl rfl (by omega)) ?_
      refine RQ.pv rfl (PV.loadE rfl Ag79 rfl rfl (El.r h2 (getG (by omega)))) ?_
      refine RQ.callF (vs := [_, _]) rfl rfl En52 rfl (eqRect_s ⟨rfl, rfl, rfl⟩) ?_
      refine RQ.pv rfl (PV.not rfl rfl) ?_
      refine RQ.nil ?_
      refine WP.cond rfl (fun h6 => ?_) (fun h6 => ?_)
      · have e : decide (xs = ys) = false := by
          rw [decide_eq_false_iff_not]; rintro rfl; simp at h6
        rw [e] at k
        refine WP.seq ?_
        refine WP.region ?_
        refine RG.pv rfl (PV.mvB (.inr rfl) rfl) ?_
        refine RG.nil ?_
        refine WP.ret ?_
        exact ⟨_, _, ResV.one rfl rfl, Cv.p, k⟩
      · have e : gd xs i = gd ys i := by simpa using h6
        have he' : ∀ j, j < i + 1 → xs[j]? = ys[j]? := fun j h => by
          by_cases c : j = i
          · rw [c, getG h5, getG (show i < ys.length by omega), e]
          · exact he j (by omega)
        refine WP.skip ?_
        refine WP.region ?_
        refine RG.pv rfl (PV.mvI (.inl rfl) rfl) ?_
        refine RG.pv rfl (PV.add rfl rfl rfl (by omega)) ?_
        refine RG.pv rfl (PV.mvI (.inr rfl) rfl) ?_
        refine RG.nil ?_
        exact ⟨rfl, i + 1, ⟨by omega, he'⟩, ⟨rfl, trivial⟩, ⟨rfl, rfl, trivial⟩, Cv.p, by omega⟩
    · have h4 := of_decide_eq_false h4
      have e : decide (xs = ys) = true := by
        rw [decide_eq_true_iff]; exact pre_eq he hl (by omega)
      rw [e] at k
      refine WP.exit ?_
      refine WP.seq ?_
      refine WP.region ?_
      refine RG.pv rfl (PV.mvB (.inr rfl) rfl) ?_
      refine RG.nil ?_
      refine WP.ret ?_
      exact ⟨_, _, ResV.one rfl rfl, Cv.p, k⟩
theorem szRectS_s {v : Value} {xs : List Rect} {n : Int} (h1 : Rs G L rectT v xs) (hn : n ≤ 1048576) (h0 : 0 ≤ n) (k : ∀ r : Int, r ≤ n → (0 ≤ r → r = n - xs.length) → R (vi r) G L) : CallT Tryz.prog 23 #[v, vi n] G L R := by
  refine CallT.bd h1 fun hb => ?_
  refine CallT.enter (args := _) Tryz.func23 rfl rfl (by kernel_rfl) rfl ?_
  refine WP.seq ?_
  refine WP.region ?_
  refine RG.pv rfl (PV.mvI (.inr rfl) rfl) ?_
  refine RG.nil ?_
  refine WP.seq ?_
  refine WP.region ?_
  refine RG.pv rfl (PV.mvI (.inl rfl) rfl) ?_
  refine RG.pv rfl (PV.move (v := v) rfl rfl) ?_
  refine RG.pv rfl (PV.len (v := v) rfl Tryz.underlying44 rfl (SlF.r h1)) ?_
  refine RG.pv rfl (PV.sub rfl rfl rfl (by omega)) ?_
  refine RG.pv rfl (PV.mvI (.inr rfl) rfl) ?_
  refine RG.nil ?_
  refine WP.seq ?_
  refine WP.seq ?_
  refine WP.region ?_
  refine RG.pv rfl (PV.mvI (.inl rfl) rfl) ?_
  refine RG.pv rfl (PV.lss rfl rfl rfl) ?_
  refine RG.nil ?_
  refine WP.cond rfl (fun h2 => ?_) (fun h2 => ?_)
  · refine WP.seq ?_
    refine WP.region ?_
    refine RG.pv rfl (PV.mvI (.inr rfl) rfl) ?_
    refine RG.nil ?_
    refine WP.ret ?_
    exact ⟨_, _, ResV.one rfl rfl, Cv.p, k _ (by omega) (fun h => by omega)⟩
  · refine WP.skip ?_
    refine WP.seq ?_
    refine WP.region ?_
    refine RG.pv rfl (PV.mvI (.inl rfl) rfl) ?_
    refine RG.pv rfl (PV.mvI (.inr rfl) rfl) ?_
    refine RG.nil ?_
    refine WP.ret ?_
    exact ⟨_, _, ResV.one rfl rfl, Cv.p, k _ (by omega) (fun h => by omega)⟩
def mkRect (_ : Rect) (k : Int) : Rect := ⟨k, k + 1, k + 1 + 1, k + 1 + 1 + 1⟩
def nRect (_ : Rect) : Int := 4
theorem nRect_cost (xs : List Rect) : costL nRect xs = 4 * xs.length := costL_const 4 xs
theorem mkRect_at {xs : List Rect} {i : Nat} {k0 kk : Int} (h : i < xs.length) (e : kk = k0 + 4 * i) : mkRect (gd xs i) (k0 + costL nRect (xs.take i)) = ⟨kk, kk + 1, kk + 1 + 1, kk + 1 + 1 + 1⟩ := by
  rw [mkRect, nRect_cost, List.length_take, Nat.min_eq_left (by omega), e]
theorem markRectS_s {v : Value} {xs : List Rect} {k0 : Int} (hk : 0 ≤ k0) (hb : k0 + costL nRect xs ≤ 4611686018427387904) (k : R (vi (k0 + costL nRect xs)) G (osl 79 rectT v (markL mkRect nRect xs k0) :: L)) : CallT Tryz.prog 33 #[v, vi k0] G (osl 79 rectT v xs :: L) R := by
  have hc := nRect_cost xs
  refine CallT.cv (Cv.eqS (markTo_zero (mk := mkRect) (n := nRect) (k := k0)).symm) ?_
  refine CallT.enter (args := _) Tryz.func33 rfl rfl (by kernel_rfl) rfl ?_
  refine WP.seq ?_
  refine WP.region ?_
  refine RG.pv rfl (PV.mvI (.inr rfl) rfl) ?_
  refine RG.nil ?_
  refine WP.seq ?_
  refine WP.seq ?_
  refine WP.region ?_
  refine RG.pv rfl (PV.mvI (.inr rfl) rfl) ?_
  refine RG.nil ?_
  refine WP.block ?_
  refine WP.loop2 [0] (fun (i : Nat) (kk : Int) => i ≤ xs.length ∧ kk = k0 + 4 * i) (fun (i : Nat) (kk : Int) => [(5, vi i), (1, vi kk)]) (fun (i : Nat) (kk : Int) => osl 79 rectT v (markTo mkRect nRect xs k0 i) :: L) (fun (i : Nat) (kk : Int) => xs.length - i) 0 k0 ⟨by omega, by omega⟩ ⟨rfl, rfl, trivial⟩ Cv.p ?_
  rintro i kk τ ⟨hi, hkk⟩
  refine WP.seq ?_
  refine WP.seq ?_
  refine WP.region ?_
  refine RG.pv rfl (PV.mvI (.inl rfl) rfl) ?_
  refine RG.pv rfl (PV.move (v := v) rfl rfl) ?_
  refine RG.pv rfl (PV.len (v := v) rfl Tryz.underlying55 rfl SlF.o) ?_
  refine RG.pv rfl (PV.lss rfl rfl rfl) ?_
  refine RG.nil ?_
  have hml := markTo_len (mk := mkRect) (n := nRect) (k := k0) hi
  refine WP.cond rfl (fun h1 => ?_) (fun h1 => ?_)
  · have h1 := of_decide_eq_true h1
    have h2 : i < xs.length := by omega
    refine WP.skip ?_
    refine WP.seq ?_
    refine WP.block ?_
    refine WP.seq ?_
    refine WP.region ?_
    refine RG.pv rfl (PV.move (v := v) rfl rfl) ?_
    refine RG.pv rfl (PV.mvI (.inl rfl) rfl) ?_
    refine RG.pv rfl (PV.mvI (.inl rfl) rfl) ?_
    refine RG.pv rfl (PV.idxS (v := v) rfl Is55 rfl SlF.o rfl rfl (by omega)) ?_
    refine RG.pv rfl (PV.field rfl Fo79_0 rfl) ?_
    refine RG.ot rfl (OT.storeF (F := rectT) (val := vi) (cv := fun u => [vi u]) (st := Rect.s0) rfl Sz2 rfl rfl rfl (Cl.c rfl) rfl (OneC.c rfl) (by exact set_self (by omega)) (by first | omega | (simp; omega)) rfl (fun _ _ => rfl) ?_)
    refine RG.nil ?_
    refine WP.seq ?_
    refine WP.region ?_
    refine RG.pv rfl (PV.mvI (.inl rfl) rfl) ?_
    refine RG.pv rfl (PV.add rfl rfl rfl (by first | omega | (simp only [List.length_set]; omega))) ?_
    refine RG.pv rfl (PV.mvI (.inr rfl) rfl) ?_
    refine RG.nil ?_
    refine WP.seq ?_
    refine WP.region ?_
    refine RG.pv rfl (PV.move (v := v) rfl rfl) ?_
    refine RG.pv rfl (PV.mvI (.inl rfl) rfl) ?_
    refine RG.pv rfl (PV.mvI (.inl rfl) rfl) ?_
    refine RG.pv rfl (PV.idxS (v := v) rfl Is55 rfl SlF.o rfl rfl (by first | omega | (simp only [List.length_set]; omega))) ?_
    refine RG.pv rfl (PV.field rfl Fo79_1 rfl) ?_
    refine RG.ot rfl (OT.storeF (F := rectT) (val := vi) (cv := fun u => [vi u]) (st := Rect.s1) rfl Sz2 rfl rfl rfl (Cl.c rfl) rfl (OneC.c rfl) (by rfl) (by first | omega | (simp; omega)) rfl (fun _ _ => rfl) ?_)
    refine RG.nil ?_
    refine WP.seq ?_
    refine WP.region ?_
    refine RG.pv rfl (PV.mvI (.inl rfl) rfl) ?_
    refine RG.pv rfl (PV.add rfl rfl rfl (by first | omega | (simp only [List.length_set]; omega))) ?_
    refine RG.pv rfl (PV.mvI (.inr rfl) rfl) ?_
    refine RG.nil ?_
    refine WP.seq ?_
    refine WP.region ?_
    refine RG.pv rfl (PV.move (v := v) rfl rfl) ?_
    refine RG.pv rfl (PV.mvI (.inl rfl) rfl) ?_
    refine RG.pv rfl (PV.mvI (.inl rfl) rfl) ?_
    refine RG.pv rfl (PV.idxS (v := v) rfl Is55 rfl SlF.o rfl rfl (by first | omega | (simp only [List.length_set]; omega))) ?_
    refine RG.pv rfl (PV.field rfl Fo79_2 rfl) ?_
    refine RG.ot rfl (OT.storeF (F := rectT) (val := vi) (cv := fun u => [vi u]) (st := Rect.s2) rfl Sz2 rfl rfl rfl (Cl.c rfl) rfl (OneC.c rfl) (by rfl) (by first | omega | (simp; omega)) rfl (fun _ _ => rfl) ?_)
    refine RG.nil ?_
    refine WP.seq ?_
    refine WP.region ?_
    refine RG.pv rfl (PV.mvI (.inl rfl) rfl) ?_
    refine RG.pv rfl (PV.add rfl rfl rfl (by first | omega | (simp only [List.length_set]; omega))) ?_
    refine RG.pv rfl (PV.mvI (.inr rfl) rfl) ?_
    refine RG.nil ?_
    refine WP.seq ?_
    refine WP.region ?_
    refine RG.pv rfl (PV.move (v := v) rfl rfl) ?_
    refine RG.pv rfl (PV.mvI (.inl rfl) rfl) ?_
    refine RG.pv rfl (PV.mvI (.inl rfl) rfl) ?_
    refine RG.pv rfl (PV.idxS (v := v) rfl Is55 rfl SlF.o rfl rfl (by first | omega | (simp only [List.length_set]; omega))) ?_
    refine RG.pv rfl (PV.field rfl Fo79_3 rfl) ?_
    refine RG.ot rfl (OT.storeF (F := rectT) (val := vi) (cv := fun u => [vi u]) (st := Rect.s3) rfl Sz2 rfl rfl rfl (Cl.c rfl) rfl (OneC.c rfl) (by rfl) (by first | omega | (simp; omega)) rfl (fun _ _ => rfl) ?_)
    refine RG.nil ?_
    refine WP.region ?_
    refine RG.pv rfl (PV.mvI (.inl rfl) rfl) ?_
    refine RG.pv rfl (PV.add rfl rfl rfl (by first | omega | (simp only [List.length_set]; omega))) ?_
    refine RG.pv rfl (PV.mvI (.inr rfl) rfl) ?_
    refine RG.nil ?_
    refine WP.region ?_
    refine RG.pv rfl (PV.mvI (.inl rfl) rfl) ?_
    refine RG.pv rfl (PV.add rfl rfl rfl (by first | omega | (simp only [List.length_set]; omega))) ?_
    refine RG.pv rfl (PV.mvI (.inr rfl) rfl) ?_
    refine RG.nil ?_
    exact ⟨rfl, i + 1, _, ⟨by omega, by omega⟩, ⟨rfl, rfl, trivial⟩, ⟨rfl, trivial⟩, (Cv.eqS (by rw [← markTo_set h2, mkRect_at h2 hkk])), by omega⟩
  · have h1 := of_decide_eq_false h1
    have e : kk = k0 + costL nRect xs := by omega
    rw [← e] at k
    refine WP.exit ?_
    refine WP.seq ?_
    refine WP.region ?_
    refine RG.pv rfl (PV.mvI (.inl rfl) rfl) ?_
    refine RG.pv rfl (PV.mvI (.inr rfl) rfl) ?_
    refine RG.nil ?_
    refine WP.ret ?_
    exact ⟨_, _, ResV.one rfl rfl, (Cv.eqS (markTo_all (by omega))), k⟩
theorem toRectSS_s {v : Value} {xs : List (Sl Rect)} (h1 : Rs G L slT v xs) (hd : RsE G L rectT xs) (hb : xs.length ≤ 1048576) (hbi : ∀ i, i < xs.length → (gd xs i).xs.length ≤ 1048576) (k : ∀ v' ys, er ys = er xs → R v' G (osl 55 slT v' ys :: bagS 79 rectT ys :: L)) : CallT Tryz.prog 8 #[v] G L R := by
  refine CallT.enter (args := _) Tryz.func8 rfl rfl (by kernel_rfl) rfl ?_
  refine WP.seq ?_
  refine WP.region ?_
  refine RG.pv rfl (PV.asg rfl rfl) ?_
  refine RG.nil ?_
  refine WP.seq ?_
  refine WP.region ?_
  refine RG.pv rfl (PV.move (v := v) rfl rfl) ?_
  refine RG.pv rfl (PV.len (v := v) rfl Tryz.underlying22 rfl (SlF.r h1)) ?_
  refine RG.ot rfl (OT.make (F := (slT (α := Rect))) (a0 := default) rfl El28 rfl (by decide) rfl rfl (by omega) (by omega) fun v7 => ?_)
  refine RG.pv rfl (PV.asg (v := v7) rfl rfl) ?_
  refine RG.nil ?_
  refine WP.seq ?_
  refine WP.seq ?_
  refine WP.region ?_
  refine RG.pv rfl (PV.mvI (.inr rfl) rfl) ?_
  refine RG.nil ?_
  refine WP.block ?_
  refine WP.cv (Cv.cons (Cv.bag0 (e := 79) (F := rectT) (xs := (List.replicate xs.length default).take 0) rfl)) ?_
  refine WP.loop2 [0, 3] (fun (i : Nat) (ys : List (Sl Rect)) => i ≤ xs.length ∧ ys.length = xs.length ∧ ∀ j, j < i → (gd ys j).xs = (gd xs j).xs) (fun (i : Nat) (ys : List (Sl Rect)) => [(4, vi i)]) (fun (i : Nat) (ys : List (Sl Rect)) => osl 55 slT v7 ys :: bagS 79 rectT (ys.take i) :: L) (fun (i : Nat) (ys : List (Sl Rect)) => xs.length - i) 0 (List.replicate xs.length default) ⟨by omega, by simp, fun j h => by omega⟩ ⟨rfl, trivial⟩ Cv.p ?_
  rintro i ys τ ⟨hi, hl, he⟩
  refine WP.seq ?_
  refine WP.seq ?_
  refine WP.region ?_
  refine RG.pv rfl (PV.mvI (.inl rfl) rfl) ?_
  refine RG.pv rfl (PV.move (v := v) rfl rfl) ?_
  refine RG.pv rfl (PV.len (v := v) rfl Tryz.underlying22 rfl (SlF.r h1)) ?_
  refine RG.pv rfl (PV.lss rfl rfl rfl) ?_
  refine RG.nil ?_
  refine WP.cond rfl (fun h2 => ?_) (fun h2 => ?_)
  · have h2 := of_decide_eq_true h2
    have h3 : i < ys.length := by omega
    refine WP.skip ?_
    refine WP.seq ?_
    refine WP.block ?_
    refine WP.region ?_
    refine RG.pv rfl (PV.move (v := v7) rfl rfl) ?_
    refine RG.pv rfl (PV.mvI (.inl rfl) rfl) ?_
    refine RG.pv rfl (PV.move (v := v) rfl rfl) ?_
    refine RG.pv rfl (PV.mvI (.inl rfl) rfl) ?_
    refine RG.pv rfl (PV.idxS (v := v) rfl Is22 rfl (SlF.r h1) rfl rfl (by omega)) ?_
    refine RG.pv rfl (PV.loadE1 rfl Sc44 rfl rfl (El.r h1 (getG (by omega))) rfl) ?_
    refine RG.callF (vs := [_]) rfl rfl En26 rfl (toRectS_s ((hd i (by omega)).up) (by have := hbi i (by omega); omega) (fun v20 => ?_))
    refine RG.pv rfl (PV.idxS (v := v7) rfl Is28 rfl SlF.o rfl rfl (by omega)) ?_
    refine RG.ot rfl (OT.storeE (v := v20) (a := ⟨v20, (gd xs i).xs⟩) (F := (slT (α := Rect))) rfl Sz55 rfl rfl rfl (Cl.s (v := v20) SlF.o) (OneC.sl SlF.o OneC.nil) (by omega) ?_)
    refine RG.nil ?_
    refine WP.region ?_
    refine RG.pv rfl (PV.mvI (.inl rfl) rfl) ?_
    refine RG.pv rfl (PV.add rfl rfl rfl (by omega)) ?_
    refine RG.pv rfl (PV.mvI (.inr rfl) rfl) ?_
    refine RG.nil ?_
    refine ⟨rfl, i + 1, _, ⟨by omega, by simpa using hl, fun j hj => ?_⟩, ⟨rfl, trivial⟩, ⟨rfl, rfl, trivial⟩, (Cv.cons (Cv.grow (take_set_succ h3))), by omega⟩
    by_cases c : j = i
    · subst c; simp [gd, h3]
    · have := he j (by omega)
      simpa [gd, List.getElem?_set, Ne.symm c] using this
  · have h2 := of_decide_eq_false h2
    have e : ys.take i = ys := List.take_of_length_le (by omega)
    rw [e]
    refine WP.exit ?_
    refine WP.seq ?_
    refine WP.region ?_
    refine RG.pv rfl (PV.move (v := v7) rfl rfl) ?_
    refine RG.pv rfl (PV.asg (v := v7) rfl rfl) ?_
    refine RG.nil ?_
    refine WP.ret ?_
    exact ⟨_, _, ResV.one rfl rfl, Cv.p, k v7 ys (er_of hl (fun j hj => he j (by omega)))⟩
theorem eqRectSS_s {v u : Value} {xs ys : List (Sl Rect)} (h1 : Rs G L slT v xs) (hd : RsE G L rectT xs) (h2 : Rs G L slT u ys) (hd' : RsE G L rectT ys) (k : R (.bool (decide (er xs = er ys))) G L) : CallT Tryz.prog 12 #[v, u] G L R := by
  refine CallT.bd h1 fun hb => ?_
  refine CallT.bd h2 fun hb' => ?_
  refine CallT.enter (args := _) Tryz.func12 rfl rfl (by kernel_rfl) rfl ?_
  refine WP.seq ?_
  refine WP.region ?_
  refine RG.pv rfl (PV.mvB (.inr rfl) rfl) ?_
  refine RG.nil ?_
  refine WP.seq ?_
  refine WP.seq ?_
  refine WP.region ?_
  refine RG.pv rfl (PV.move (v := v) rfl rfl) ?_
  refine RG.pv rfl (PV.len (v := v) rfl Tryz.underlying28 rfl (SlF.r h1)) ?_
  refine RG.pv rfl (PV.move (v := u) rfl rfl) ?_
  refine RG.pv rfl (PV.len (v := u) rfl Tryz.underlying28 rfl (SlF.r h2)) ?_
  refine RG.pv rfl (PV.neq rfl rfl rfl) ?_
  refine RG.nil ?_
  refine WP.cond rfl (fun h3 => ?_) (fun h3 => ?_)
  · have e : decide (er xs = er ys) = false := by
      rw [decide_eq_false_iff_not]; intro h; have := er_length h; simp at h3; omega
    rw [e] at k
    refine WP.seq ?_
    refine WP.region ?_
    refine RG.pv rfl (PV.mvB (.inr rfl) rfl) ?_
    refine RG.nil ?_
    refine WP.ret ?_
    exact ⟨_, _, ResV.one rfl rfl, Cv.p, k⟩
  · have hl : xs.length = ys.length := by simp at h3; omega
    refine WP.skip ?_
    refine WP.seq ?_
    refine WP.seq ?_
    refine WP.region ?_
    refine RG.pv rfl (PV.mvI (.inr rfl) rfl) ?_
    refine RG.nil ?_
    refine WP.block ?_
    refine WP.loop1 [0, 1] (fun i => i ≤ xs.length ∧ ∀ j, j < i → (gd xs j).xs = (gd ys j).xs) (fun i => [(5, vi i)]) (fun i => L) (fun i => xs.length - i) 0 ⟨by omega, fun j h => by omega⟩ ⟨rfl, trivial⟩ Cv.p ?_
    rintro i τ ⟨hi, he⟩
    refine WP.seq ?_
    refine WP.seq ?_
    refine WP.region ?_
    refine RG.pv rfl (PV.mvI (.inl rfl) rfl) ?_
    refine RG.pv rfl (PV.move (v := v) rfl rfl) ?_
    refine RG.pv rfl (PV.len (v := v) rfl Tryz.underlying28 rfl (SlF.r h1)) ?_
    refine RG.pv rfl (PV.lss rfl rfl rfl) ?_
    refine RG.nil ?_
    refine WP.cond rfl (fun h4 => ?_) (fun h4 => ?_)
    · have h4 := of_decide_eq_true h4
      have h5 : i < xs.length := by omega
      refine WP.skip ?_
      refine WP.seq ?_
      refine WP.block ?_
      refine WP.seq ?_
      refine WP.regionQ (by kernel_rfl) (by kernel_rfl) ?_
      refine RQ.pv rfl (PV.move (v := v) rfl rfl) ?_
      refine RQ.pv rfl (PV.mvI (.inl rfl) rfl) ?_
      refine RQ.pv rfl (PV.idxS (v := v) rfl Is28 rfl (SlF.r h1) rfl rfl (by omega)) ?_
      refine RQ.pv rfl (PV.loadE1 rfl Sc55 rfl rfl (El.r h1 (getG (by omega))) rfl) ?_
      refine RQ.pv rfl (PV.move (v := u) rfl rfl) ?_
      refine RQ.pv rfl (PV.mvI (.inl rfl) rfl) ?_
      refine RQ.pv rfl (PV.idxS (v := u) rfl Is28 rfl (SlF.r h2) rfl rfl (by omega)) ?_
      refine RQ.pv rfl (PV.loadE1 rfl Sc55 rfl rfl (El.r h2 (getG (by omega))) rfl) ?_
      refine RQ.callF (vs := [_, _]) rfl rfl En31 rfl (eqRectS_s ((hd i (by omega)).up) ((hd' i (by omega)).up) ⟨rfl, rfl, rfl⟩) ?_
      refine RQ.pv rfl (PV.not rfl rfl) ?_
      refine RQ.nil ?_
      refine WP.cond rfl (fun h6 => ?_) (fun h6 => ?_)
      · have e : decide (er xs = er ys) = false := by
          rw [decide_eq_false_iff_not]; intro h; simp [er_get h i] at h6
        rw [e] at k
        refine WP.seq ?_
        refine WP.region ?_
        refine RG.pv rfl (PV.mvB (.inr rfl) rfl) ?_
        refine RG.nil ?_
        refine WP.ret ?_
        exact ⟨_, _, ResV.one rfl rfl, Cv.p, k⟩
      · have e : (gd xs i).xs = (gd ys i).xs := by simpa using h6
        have he' : ∀ j, j < i + 1 → (gd xs j).xs = (gd ys j).xs := fun j h => by
          by_cases c : j = i
          · rw [c, e]
          · exact he j (by omega)
        refine WP.skip ?_
        refine WP.region ?_
        refine RG.pv rfl (PV.mvI (.inl rfl) rfl) ?_
        refine RG.pv rfl (PV.add rfl rfl rfl (by omega)) ?_
        refine RG.pv rfl (PV.mvI (.inr rfl) rfl) ?_
        refine RG.nil ?_
        exact ⟨rfl, i + 1, ⟨by omega, he'⟩, ⟨rfl, trivial⟩, ⟨rfl, rfl, trivial⟩, Cv.p, by omega⟩
    · have h4 := of_decide_eq_false h4
      have e : decide (er xs = er ys) = true := by
        rw [decide_eq_true_iff]; exact er_of hl (fun j hj => he j (by omega))
      rw [e] at k
      refine WP.exit ?_
      refine WP.seq ?_
      refine WP.region ?_
      refine RG.pv rfl (PV.mvB (.inr rfl) rfl) ?_
      refine RG.nil ?_
      refine WP.ret ?_
      exact ⟨_, _, ResV.one rfl rfl, Cv.p, k⟩
def nSl {α : Type} (n : α → Int) (s : Sl α) : Int := costL n s.xs
def mkSl {α : Type} (mk : α → Int → α) (n : α → Int) (s : Sl α) (k : Int) : Sl α := ⟨s.v, markL mk n s.xs k⟩
theorem nRect_nn (r : Rect) : 0 ≤ nRect r := by simp [nRect]
theorem nSl_nn (s : Sl Rect) : 0 ≤ nSl nRect s := costL_nonneg nRect_nn _
abbrev mkRS := mkSl mkRect nRect
abbrev nRS := nSl nRect
theorem markRectSS_s {v : Value} {xs : List (Sl Rect)} {k0 : Int} (hk : 0 ≤ k0) (hb : k0 + costL nRS xs ≤ 4611686018427387904) (k : R (vi (k0 + costL nRS xs)) G (osl 55 slT v (markL mkRS nRS xs k0) :: bagS 79 rectT (markL mkRS nRS xs k0) :: L)) :
    CallT Tryz.prog 14 #[v, vi k0] G (osl 55 slT v xs :: bagS 79 rectT xs :: L) R := by
  refine CallT.bd (T := slT) (v := v) (xs := xs) Rs.o fun hb2 => ?_
  refine CallT.cv (Cv.eq2 (markTo_zero (mk := mkRS) (n := nRS) (k := k0)).symm) ?_
  refine CallT.enter (args := _) Tryz.func14 rfl rfl (by kernel_rfl) rfl ?_
  refine WP.seq ?_
  refine WP.region ?_
  refine RG.pv rfl (PV.mvI (.inr rfl) rfl) ?_
  refine RG.nil ?_
  refine WP.seq ?_
  refine WP.seq ?_
  refine WP.region ?_
  refine RG.pv rfl (PV.mvI (.inr rfl) rfl) ?_
  refine RG.nil ?_
  refine WP.block ?_
  refine WP.loop2 [0] (fun (i : Nat) (kk : Int) => i ≤ xs.length ∧ kk = k0 + costL nRS (xs.take i)) (fun (i : Nat) (kk : Int) => [(5, vi i), (1, vi kk)]) (fun (i : Nat) (kk : Int) => osl 55 slT v (markTo mkRS nRS xs k0 i) :: bagS 79 rectT (markTo mkRS nRS xs k0 i) :: L) (fun (i : Nat) (kk : Int) => xs.length - i) 0 k0 ⟨by omega, by simp [costL]⟩ ⟨rfl, rfl, trivial⟩ Cv.p ?_
  rintro i kk τ ⟨hi, hkk⟩
  refine WP.seq ?_
  refine WP.seq ?_
  refine WP.region ?_
  refine RG.pv rfl (PV.mvI (.inl rfl) rfl) ?_
  refine RG.pv rfl (PV.move (v := v) rfl rfl) ?_
  refine RG.pv rfl (PV.len (v := v) rfl Tryz.underlying28 rfl SlF.o) ?_
  refine RG.pv rfl (PV.lss rfl rfl rfl) ?_
  refine RG.nil ?_
  have hml := markTo_len (mk := mkRS) (n := nRS) (k := k0) hi
  refine WP.cond rfl (fun h1 => ?_) (fun h1 => ?_)
  · have h1 := of_decide_eq_true h1
    have h2 : i < xs.length := by omega
    have hmg := markTo_gd (mk := mkRS) (n := nRS) (k := k0) h2
    have hc := costL_take nRS h2
    have hc1 : costL nRS (xs.take (i + 1)) ≤ costL nRS xs := costL_le nSl_nn xs (i + 1)
    have hc2 : 0 ≤ costL nRS (xs.take i) := costL_nonneg nSl_nn (xs.take i)
    have hc3 : 0 ≤ nRS (gd xs i) := nSl_nn (gd xs i)
    have hc4 : costL nRect (gd (markTo mkRS nRS xs k0 i) i).xs = nRS (gd xs i) := by rw [hmg]; rfl
    refine WP.cv (Cv.cons (Cv.bagS_take i (by omega))) ?_
    refine WP.skip ?_
    refine WP.seq ?_
    refine WP.block ?_
    refine WP.region ?_
    refine RG.pv rfl (PV.move (v := v) rfl rfl) ?_
    refine RG.pv rfl (PV.mvI (.inl rfl) rfl) ?_
    refine RG.pv rfl (PV.idxS (v := v) rfl Is28 rfl SlF.o rfl rfl (by omega)) ?_
    refine RG.pv rfl (PV.loadE1 rfl Sc55 rfl rfl (El.o (getG (by omega))) rfl) ?_
    refine RG.pv rfl (PV.mvI (.inl rfl) rfl) ?_
    refine RG.callF (vs := [_, _]) rfl rfl En33 rfl (CallT.exS (gd (markTo mkRS nRS xs k0 i) i).v (markRectS_s (by omega) (by omega) ?_))
    refine RG.pv rfl (PV.mvI (.inr rfl) rfl) ?_
    refine RG.nil ?_
    refine WP.region ?_
    refine RG.pv rfl (PV.mvI (.inl rfl) rfl) ?_
    refine RG.pv rfl (PV.add rfl rfl rfl (by omega)) ?_
    refine RG.pv rfl (PV.mvI (.inr rfl) rfl) ?_
    refine RG.nil ?_
    exact ⟨rfl, i + 1, _, ⟨by omega, by rw [hc]; omega⟩, ⟨rfl, rfl, trivial⟩, ⟨rfl, trivial⟩, ((Cv.slot i (by omega)).trans (Cv.eq2 (by rw [← markTo_set h2, hmg, hkk]; rfl))), by omega⟩
  · have h1 := of_decide_eq_false h1
    have e : kk = k0 + costL nRS xs := by rw [hkk, List.take_of_length_le (by omega)]
    rw [← e] at k
    refine WP.exit ?_
    refine WP.seq ?_
    refine WP.region ?_
    refine RG.pv rfl (PV.mvI (.inl rfl) rfl) ?_
    refine RG.pv rfl (PV.mvI (.inr rfl) rfl) ?_
    refine RG.nil ?_
    refine WP.ret ?_
    exact ⟨_, _, ResV.one rfl rfl, (Cv.eq2 (markTo_all (by omega))), k⟩
end Go.Proofs.YtkiafbneemdajaaGreat
namespace Go.Proofs.YtkiafbneemdajaaGreat
set_option linter.unusedVariables false
set_option linter.unusedSimpArgs false
open Go
set_option maxRecDepth 20000
set_option linter.unusedSimpArgs false
variable {G : Gh} {L : List Ch} {R : Value → Gh → List Ch → Prop}
theorem WP.st {P : Program} {n : Nat} {c : Code} {Q : Post} {σ : Nat → Value} {A : Prop} (h : ∀ w, St G L w → A) (k : A → WP P n c Q σ G L) : WP P n c Q σ G L := WP.of fun hk _ w ha hs => (k (h w hs)).run hk ha hs
def lenS {α : Type} (s : Sl α) : Int := s.xs.length
theorem lenS_nn {α : Type} (s : Sl α) : 0 ≤ lenS s := by simp [lenS]
theorem costL_er {α : Type} {n : α → Int} {xs ys : List (Sl α)} (h : er xs = er ys) : costL (nSl n) xs = costL (nSl n) ys := by
  have key : ∀ zs : List (Sl α), costL (nSl n) zs = costL (costL n) (er zs) := fun zs => by
    induction zs with
    | nil => rfl
    | cons z zs ih => simp only [er, List.map_cons, costL] at ih ⊢; rw [ih]; rfl
  rw [key, key, h]
theorem costL_scale {α : Type} {n m : α → Int} (c : Int) (h : ∀ a, n a = c * m a) : ∀ xs : List α, costL n xs = c * costL m xs
  | [] => by simp [costL]
  | x :: xs => by simp only [costL, h x, costL_scale c h xs, Int.mul_add]
theorem costL_mem {α : Type} [Inhabited α] {n : α → Int} (hn : ∀ a, 0 ≤ n a) {xs : List α} {i : Nat} (h : i < xs.length) : n (gd xs i) ≤ costL n xs := by
  have h1 := costL_take n h
  have h2 := costL_le hn xs (i + 1)
  have h3 := costL_nonneg hn (xs.take i)
  omega
theorem nRS_lenS (xs : List (Sl Rect)) : costL nRS xs = 4 * costL lenS xs := costL_scale 4 (fun s => by simp [nSl, nRect_cost, lenS]) xs
def szOf (xs : List (Sl Rect)) : Int := xs.length + costL lenS xs
theorem szRectSS_s {v : Value} {xs : List (Sl Rect)} {n : Int} (h1 : Rs G L slT v xs) (hd : RsE G L rectT xs) (hn : n ≤ 1048576) (h0 : 0 ≤ n) (k : ∀ r : Int, r ≤ n → (0 ≤ r → r = n - szOf xs) → R (vi r) G L) : CallT Tryz.prog 5 #[v, vi n] G L R := by
  refine CallT.bd h1 fun hb => ?_
  refine CallT.enter (args := _) Tryz.func5 rfl rfl (by kernel_rfl) rfl ?_
  refine WP.seq ?_
  refine WP.region ?_
  refine RG.pv rfl (PV.mvI (.inr rfl) rfl) ?_
  refine RG.nil ?_
  refine WP.seq ?_
  refine WP.region ?_
  refine RG.pv rfl (PV.mvI (.inl rfl) rfl) ?_
  refine RG.pv rfl (PV.move (v := v) rfl rfl) ?_
  refine RG.pv rfl (PV.len (v := v) rfl Tryz.underlying22 rfl (SlF.r h1)) ?_
  refine RG.pv rfl (PV.sub rfl rfl rfl (by omega)) ?_
  refine RG.pv rfl (PV.mvI (.inr rfl) rfl) ?_
  refine RG.nil ?_
  refine WP.seq ?_
  refine WP.seq ?_
  refine WP.region ?_
  refine RG.pv rfl (PV.mvI (.inl rfl) rfl) ?_
  refine RG.pv rfl (PV.lss rfl rfl rfl) ?_
  refine RG.nil ?_
  refine WP.cond rfl (fun h2 => ?_) (fun h2 => ?_)
  · have h2 := of_decide_eq_true h2
    refine WP.seq ?_
    refine WP.region ?_
    refine RG.pv rfl (PV.mvI (.inr rfl) rfl) ?_
    refine RG.nil ?_
    refine WP.ret ?_
    exact ⟨_, _, ResV.one rfl rfl, Cv.p, k _ (by omega) (fun h => by omega)⟩
  · have h2 := of_decide_eq_false h2
    refine WP.skip ?_
    refine WP.seq ?_
    refine WP.seq ?_
    refine WP.region ?_
    refine RG.pv rfl (PV.mvI (.inr rfl) rfl) ?_
    refine RG.nil ?_
    refine WP.block ?_
    refine WP.loop2 [0] (fun (i : Nat) (m : Int) => i ≤ xs.length ∧ 0 ≤ m ∧ m = n - xs.length - costL lenS (xs.take i)) (fun (i : Nat) (m : Int) => [(5, vi i), (1, vi m)]) (fun (i : Nat) (m : Int) => L) (fun (i : Nat) (m : Int) => xs.length - i) 0 (n - xs.length) ⟨by omega, by omega, by simp [costL]⟩ ⟨rfl, rfl, trivial⟩ Cv.p ?_
    rintro i m τ ⟨hi, hm0, hm1⟩
    refine WP.seq ?_
    refine WP.seq ?_
    refine WP.region ?_
    refine RG.pv rfl (PV.mvI (.inl rfl) rfl) ?_
    refine RG.pv rfl (PV.move (v := v) rfl rfl) ?_
    refine RG.pv rfl (PV.len (v := v) rfl Tryz.underlying22 rfl (SlF.r h1)) ?_
    refine RG.pv rfl (PV.lss rfl rfl rfl) ?_
    refine RG.nil ?_
    refine WP.cond rfl (fun h3 => ?_) (fun h3 => ?_)
    · have h3 := of_decide_eq_true h3
      have hct := costL_take lenS (xs := xs) (i := i) (by omega)
      have hcn : 0 ≤ costL lenS (xs.take i) := costL_nonneg lenS_nn _
      refine WP.skip ?_
      refine WP.seq ?_
      refine WP.block ?_
      refine WP.seq ?_
      refine WP.region ?_
      refine RG.pv rfl (PV.move (v := v) rfl rfl) ?_
      refine RG.pv rfl (PV.mvI (.inl rfl) rfl) ?_
      refine RG.pv rfl (PV.idxS (v := v) rfl Is22 rfl (SlF.r h1) rfl rfl (by omega)) ?_
      refine RG.pv rfl (PV.loadE1 rfl Sc44 rfl rfl (El.r h1 (getG (by omega))) rfl) ?_
      refine RG.pv rfl (PV.mvI (.inl rfl) rfl) ?_
      refine RG.callF (vs := [_, _]) rfl rfl En23 rfl (szRectS_s ((hd i (by omega)).up) (by omega) (by omega) (fun r hr hr' => ?_))
      refine RG.pv rfl (PV.mvI (.inr rfl) rfl) ?_
      refine RG.nil ?_
      refine WP.seq ?_
      refine WP.region ?_
      refine RG.pv rfl (PV.mvI (.inl rfl) rfl) ?_
      refine RG.pv rfl (PV.lss rfl rfl rfl) ?_
      refine RG.nil ?_
      refine WP.cond rfl (fun h5 => ?_) (fun h5 => ?_)
      · have h5 := of_decide_eq_true h5
        refine WP.seq ?_
        refine WP.region ?_
        refine RG.pv rfl (PV.mvI (.inr rfl) rfl) ?_
        refine RG.nil ?_
        refine WP.ret ?_
        exact ⟨_, _, ResV.one rfl rfl, Cv.p, k _ (by omega) (fun h => by omega)⟩
      · have h5 := of_decide_eq_false h5
        refine WP.skip ?_
        refine WP.region ?_
        refine RG.pv rfl (PV.mvI (.inl rfl) rfl) ?_
        refine RG.pv rfl (PV.add rfl rfl rfl (by omega)) ?_
        refine RG.pv rfl (PV.mvI (.inr rfl) rfl) ?_
        refine RG.nil ?_
        refine ⟨rfl, i + 1, _, ⟨by omega, by omega, ?_⟩, ⟨rfl, rfl, trivial⟩, ⟨rfl, trivial⟩, Cv.p, by omega⟩
        have hr' := hr' (by omega)
        rw [hct, lenS]; omega
    · have h3 := of_decide_eq_false h3
      refine WP.exit ?_
      refine WP.seq ?_
      refine WP.region ?_
      refine RG.pv rfl (PV.mvI (.inl rfl) rfl) ?_
      refine RG.pv rfl (PV.mvI (.inr rfl) rfl) ?_
      refine RG.nil ?_
      refine WP.ret ?_
      exact ⟨_, _, ResV.one rfl rfl, Cv.p, k _ (by have : 0 ≤ costL lenS (xs.take i) := costL_nonneg lenS_nn _; omega) (fun h => by rw [List.take_of_length_le (by omega)] at hm1; simp only [szOf]; omega)⟩
end Go.Proofs.YtkiafbneemdajaaGreat
namespace Go.Proofs.YtkiafbneemdajaaGreat
set_option linter.unusedVariables false
set_option linter.unusedSimpArgs false
open Go
set_option maxRecDepth 20000
set_option linter.unusedSimpArgs false
variable {G : Gh} {L : List Ch} {R : Value → Gh → List Ch → Prop}
def regs (xs : List Piece) : List (Sl Rect) := xs.map Piece.reg
theorem regs_len (xs : List Piece) : (regs xs).length = xs.length := by simp [regs]
theorem regs_gd {xs : List Piece} {i : Nat} (h : i < xs.length) : gd (regs xs) i = (gd xs i).reg := gd_map _ h
theorem RsE.reg {xs : List Piece} (h : RsE G L rectT (regs xs)) {i : Nat} (hi : i < xs.length) : Rs G L rectT (gd xs i).reg.v (gd xs i).reg.xs := by
  have := h i (by rw [regs_len]; exact hi); rwa [regs_gd hi] at this
def erP (p : Piece) : Int × List Rect := (p.layer, p.reg.xs)
def erPs (xs : List Piece) : List (Int × List Rect) := xs.map erP
theorem erPs_len (xs : List Piece) : (erPs xs).length = xs.length := by simp [erPs]
theorem erPs_gd {xs : List Piece} {i : Nat} (h : i < xs.length) : gd (erPs xs) i = erP (gd xs i) := gd_map _ h
end Go.Proofs.YtkiafbneemdajaaGreat
namespace Go.Proofs.YtkiafbneemdajaaGreat
set_option linter.unusedVariables false
set_option linter.unusedSimpArgs false
open Go
set_option maxRecDepth 20000
set_option linter.unusedSimpArgs false
variable {G : Gh} {L : List Ch} {R : Value → Gh → List Ch → Prop}
theorem clone_rects {v : Value} {xs : List (Rect)} (h1 : Rs G L rectT v xs) (hb : xs.length ≤ 1048576) (k : ∀ v', R v' G (osl 79 rectT v' xs :: L)) : CallT Tryz.prog 146 #[v] G L R := by
  refine CallT.st (fun w hs => isNilS_nil h1 hs) fun hn => ?_
  refine CallT.enter (args := _) Tryz.func146 rfl rfl (by kernel_rfl) rfl ?_
  refine WP.seq ?_
  refine WP.region ?_
  refine RG.pv rfl (PV.asg rfl rfl) ?_
  refine RG.nil ?_
  refine WP.seq ?_
  refine WP.seq ?_
  refine WP.region ?_
  refine RG.pv rfl (PV.move (v := v) rfl rfl) ?_
  refine RG.pv rfl (PV.eqlNil rfl Tryz.underlying55 rfl (SlF.r h1)) ?_
  refine RG.nil ?_
  refine WP.cond rfl (fun h2 => ?_) (fun h2 => ?_)
  · have e := hn h2
    rw [e] at k
    refine WP.seq ?_
    refine WP.region ?_
    refine RG.pv rfl (PV.asg rfl rfl) ?_
    refine RG.nil ?_
    refine WP.ret ?_
    exact ⟨_, _, ResV.one rfl rfl, Cv.nilS, k _⟩
  · refine WP.skip ?_
    refine WP.seq ?_
    refine WP.region ?_
    refine RG.ot rfl (OT.bslice (F := rectT) (els := []) rfl El55 rfl (by decide) rfl (by decide) trivial fun v5 => ?_)
    refine RG.pv rfl (PV.move (v := v) rfl rfl) ?_
    refine RG.ot rfl (OT.append (v := v5) (u := v) (F := rectT) rfl El55 rfl (by decide) rfl rfl (Rs.up h1) (OneL.c (fun _ => rfl)) rfl (by first | omega | (simp <;> omega)) fun v7 => ?_)
    refine RG.pv rfl (PV.asg (v := v7) rfl rfl) ?_
    refine RG.nil ?_
    refine WP.ret ?_
    exact ⟨_, _, ResV.one rfl rfl, (Cv.eqS (List.nil_append _)), k v7⟩
def condB (l : List (List Rect)) : List (List Bool) := [zipB (fun p q => p && !q) (bits (gd l 0)) (bits (gd l 1)), bits (gd l 1), bits (gd l 3), bits (gd l 5)]
def condR (l : List (List Rect)) : List (List Rect) := bif isLay l then (condB l).map canon else []
theorem condB_len (l : List (List Rect)) {i : Nat} (h : i < 4) : (gd (condB l) i).length = 6400 := by
  have h0 : ∀ xs, (bits xs).length = 6400 := bits_length
  match i, h with
  | 0, _ => simp [condB, gd, zipB, h0]
  | 1, _ => simp [condB, gd, h0]
  | 2, _ => simp [condB, gd, h0]
  | 3, _ => simp [condB, gd, h0]
theorem condR_eq {l : List (List Rect)} (h : isLay l = true) : condR l = [opR (fun p q => p && !q) (gd l 0) (gd l 1), gd l 1, gd l 3, gd l 5] := by
  simp only [condR, h, cond_true, condB, List.map_cons, List.map_nil, opR, isLay_reg h (show 0 < 8 by omega), isLay_reg h (show 1 < 8 by omega), Bool.and_self, isReg_eq (isLay_reg h (show 1 < 8 by omega)), isReg_eq (isLay_reg h (show 3 < 8 by omega)), isReg_eq (isLay_reg h (show 5 < 8 by omega))]
theorem l23Conductors_s {v : Value} {xs : List (Sl Rect)} (h1 : Rs G L slT v xs) (hd : RsE G L rectT xs) (h8 : xs.length = 8) (hreg : ∀ i, i < 8 → isReg (gd xs i).xs = true) (k : ∀ v' zs, er zs = condB (er xs) → R v' G (osl 99 slT v' zs :: bagS 4 boolT zs :: L)) : CallT Tryz.prog 57 #[v] G L R := by
  refine CallT.enter (args := _) Tryz.func57 rfl rfl (by kernel_rfl) rfl ?_
  refine WP.seq ?_
  refine WP.region ?_
  refine RG.pv rfl (PV.asg rfl rfl) ?_
  refine RG.nil ?_
  refine WP.seq ?_
  refine WP.region ?_
  refine RG.pv rfl (PV.move (v := v) rfl rfl) ?_
  refine RG.pv rfl (PV.idxS (j := 1) (v := v) rfl Is28 rfl (SlF.r h1) rfl (by omega) (by omega)) ?_
  refine RG.pv rfl (PV.loadE1 rfl Sc55 rfl rfl (El.r h1 (getG (by omega))) rfl) ?_
  refine RG.callF (vs := [_]) rfl rfl En60 rfl (l03Bits_s (Rs.up (hd _ (by omega))) (fun i hi => valid_get (isReg_valid (hreg _ (by omega))) hi) (fun v7 => ?_))
  refine RG.pv rfl (PV.asg (v := v7) rfl rfl) ?_
  refine RG.nil ?_
  refine WP.seq ?_
  refine WP.regionH0 (.q 0 (.q 1 (.q 2 (.q 4 (.q 6 (.q 7 (.q 8 (.q 9 (.q 11 (.q 12 (.q 13 (.l 3 (.l 5 (.l 10 (.l 14 (.l 15 (.q 16 Sch.nil))))))))))))))))) (by kernel_rfl) (by kernel_rfl) (by kernel_rfl) rfl ?_
  refine RH.pv rfl (fun _ _ _ _ h => h) (Gh.le_refl _) PickC.pick rfl (PV.move (v := v) rfl rfl) ?_
  refine RH.pv rfl (fun _ _ _ _ h => h) (Gh.le_refl _) PickC.pick rfl (PV.idxS (j := 0) (v := v) rfl Is28 rfl (SlF.r h1) rfl (by omega) (by omega)) ?_
  refine RH.pv rfl (fun _ _ _ _ h => h) (Gh.le_refl _) PickC.pick rfl (PV.loadE1 rfl Sc55 rfl rfl (El.r h1 (getG (by omega))) rfl) ?_
  refine RH.pv rfl (fun _ _ _ _ h => h) (Gh.le_refl _) PickC.pick rfl (PV.move (v := v7) rfl rfl) ?_
  refine RH.pv rfl (fun _ _ _ _ h => h) (Gh.le_refl _) PickC.pick rfl (PV.move (v := v7) rfl rfl) ?_
  refine RH.pv rfl (fun _ _ _ _ h => h) (Gh.le_refl _) PickC.pick rfl (PV.move (v := v) rfl rfl) ?_
  refine RH.pv rfl (fun _ _ _ _ h => h) (Gh.le_refl _) PickC.pick rfl (PV.idxS (j := 3) (v := v) rfl Is28 rfl (SlF.r h1) rfl (by omega) (by omega)) ?_
  refine RH.pv rfl (fun _ _ _ _ h => h) (Gh.le_refl _) PickC.pick rfl (PV.loadE1 rfl Sc55 rfl rfl (El.r h1 (getG (by omega))) rfl) ?_
  refine RH.pv rfl (fun _ _ _ _ h => h) (Gh.le_refl _) PickC.pick rfl (PV.move (v := v) rfl rfl) ?_
  refine RH.pv rfl (fun _ _ _ _ h => h) (Gh.le_refl _) PickC.pick rfl (PV.idxS (j := 5) (v := v) rfl Is28 rfl (SlF.r h1) rfl (by omega) (by omega)) ?_
  refine RH.pv rfl (fun _ _ _ _ h => h) (Gh.le_refl _) PickC.pick rfl (PV.loadE1 rfl Sc55 rfl rfl (El.r h1 (getG (by omega))) rfl) ?_
  refine RH.ot rfl rfl (OT.callF (vs := [_]) rfl En60 rfl (l03Bits_s (Rs.up (hd _ (by omega))) (fun i hi => valid_get (isReg_valid (hreg _ (by omega))) hi) (fun v11 => ⟨Gh.le_refl _, PickC.pick, ?_⟩)))
  refine RH.ot rfl rfl (OT.callF (vs := [v11, v7]) rfl En102 rfl (l23Minus_s Rs.o Rs.o (bits_length _) (bits_length _) (fun v13 => ⟨Gh.le_refl _, PickC.pick, ?_⟩)))
  refine RH.ot rfl rfl (OT.callF (vs := [_]) rfl En60 rfl (l03Bits_s (Rs.up (hd _ (by omega))) (fun i hi => valid_get (isReg_valid (hreg _ (by omega))) hi) (fun v18 => ⟨Gh.le_refl _, PickC.pick, ?_⟩)))
  refine RH.ot rfl rfl (OT.callF (vs := [_]) rfl En60 rfl (l03Bits_s (Rs.up (hd _ (by omega))) (fun i hi => valid_get (isReg_valid (hreg _ (by omega))) hi) (fun v22 => ⟨Gh.le_refl _, PickC.pick, ?_⟩)))
  refine RH.ot rfl rfl (OT.bslice (F := (slT (α := Bool))) (els := [⟨v13, zipB (fun p q => p && !q) (bits (gd xs 0).xs) (bits (gd xs 1).xs)⟩, ⟨v7, bits (gd xs 1).xs⟩, ⟨v18, bits (gd xs 3).xs⟩, ⟨v22, bits (gd xs 5).xs⟩]) rfl El96 rfl (by decide) rfl (by decide) ⟨rfl, (Cl.s (v := v13) SlF.o), ⟨rfl, (Cl.s (v := v7) SlF.o), ⟨rfl, (Cl.s (v := v18) SlF.o), ⟨rfl, (Cl.s (v := v22) SlF.o), trivial⟩⟩⟩⟩ fun v23 => ⟨Gh.le_refl _, PickC.pick, ?_⟩)
  refine RH.pv rfl (fun _ _ _ _ h => h) (Gh.le_refl _) PickC.pick rfl (PV.asg (v := v23) rfl rfl) ?_
  refine RH.nil ?_
  refine WP.ret ?_
  have e : er [(⟨v13, zipB (fun p q => p && !q) (bits (gd xs 0).xs) (bits (gd xs 1).xs)⟩ : Sl Bool), ⟨v7, bits (gd xs 1).xs⟩, ⟨v18, bits (gd xs 3).xs⟩, ⟨v22, bits (gd xs 5).xs⟩] = condB (er xs) := by
    simp [er, condB, ← er_gd]
  exact ⟨_, _, ResV.one rfl rfl, (Cv.p (C := osl 99 slT v23 [(⟨v13, zipB (fun p q => p && !q) (bits (gd xs 0).xs) (bits (gd xs 1).xs)⟩ : Sl Bool), ⟨v7, bits (gd xs 1).xs⟩, ⟨v18, bits (gd xs 3).xs⟩, ⟨v22, bits (gd xs 5).xs⟩] :: osl 4 boolT v13 (zipB (fun p q => p && !q) (bits (gd xs 0).xs) (bits (gd xs 1).xs)) :: osl 4 boolT v7 (bits (gd xs 1).xs) :: osl 4 boolT v18 (bits (gd xs 3).xs) :: osl 4 boolT v22 (bits (gd xs 5).xs) :: L)).trans (Cv.cons (Cv.toBag (B := [osl 4 boolT v13 (zipB (fun p q => p && !q) (bits (gd xs 0).xs) (bits (gd xs 1).xs)), osl 4 boolT v7 (bits (gd xs 1).xs), osl 4 boolT v18 (bits (gd xs 3).xs), osl 4 boolT v22 (bits (gd xs 5).xs)]))), k v23 _ e⟩
theorem conductors_s {v : Value} {xs : List (Sl Rect)} (h1 : Rs G L slT v xs) (hd : RsE G L rectT xs) (h8 : xs.length = 8) (hbi : ∀ i, i < 8 → (gd xs i).xs.length ≤ 1048576) (k : ∀ v' ys, er ys = [opR (fun p q => p && !q) (gd xs 0).xs (gd xs 1).xs, (gd xs 1).xs, (gd xs 3).xs, (gd xs 5).xs] → R v' G (osl 55 slT v' ys :: bagS 79 rectT ys :: L)) : CallT Tryz.prog 138 #[v] G L R := by
  refine CallT.enter (args := _) Tryz.func138 rfl rfl (by kernel_rfl) rfl ?_
  refine WP.seq ?_
  refine WP.region ?_
  refine RG.pv rfl (PV.asg rfl rfl) ?_
  refine RG.nil ?_
  refine WP.seq ?_
  refine WP.regionH0 (.q 0 (.q 1 (.q 2 (.q 3 (.q 4 (.q 5 (.q 7 (.q 8 (.q 9 (.q 11 (.q 12 (.q 13 (.q 15 (.q 16 (.q 17 (.l 6 (.l 10 (.l 14 (.l 18 (.l 19 (.q 20 Sch.nil))))))))))))))))))))) (by kernel_rfl) (by kernel_rfl) (by kernel_rfl) rfl ?_
  refine RH.pv rfl (fun _ _ _ _ h => h) (Gh.le_refl _) PickC.pick rfl (PV.move (v := v) rfl rfl) ?_
  refine RH.pv rfl (fun _ _ _ _ h => h) (Gh.le_refl _) PickC.pick rfl (PV.idxS (j := 0) (v := v) rfl Is28 rfl (SlF.r h1) rfl (by omega) (by omega)) ?_
  refine RH.pv rfl (fun _ _ _ _ h => h) (Gh.le_refl _) PickC.pick rfl (PV.loadE1 rfl Sc55 rfl rfl (El.r h1 (getG (by omega))) rfl) ?_
  refine RH.pv rfl (fun _ _ _ _ h => h) (Gh.le_refl _) PickC.pick rfl (PV.move (v := v) rfl rfl) ?_
  refine RH.pv rfl (fun _ _ _ _ h => h) (Gh.le_refl _) PickC.pick rfl (PV.idxS (j := 1) (v := v) rfl Is28 rfl (SlF.r h1) rfl (by omega) (by omega)) ?_
  refine RH.pv rfl (fun _ _ _ _ h => h) (Gh.le_refl _) PickC.pick rfl (PV.loadE1 rfl Sc55 rfl rfl (El.r h1 (getG (by omega))) rfl) ?_
  refine RH.pv rfl (fun _ _ _ _ h => h) (Gh.le_refl _) PickC.pick rfl (PV.move (v := v) rfl rfl) ?_
  refine RH.pv rfl (fun _ _ _ _ h => h) (Gh.le_refl _) PickC.pick rfl (PV.idxS (j := 1) (v := v) rfl Is28 rfl (SlF.r h1) rfl (by omega) (by omega)) ?_
  refine RH.pv rfl (fun _ _ _ _ h => h) (Gh.le_refl _) PickC.pick rfl (PV.loadE1 rfl Sc55 rfl rfl (El.r h1 (getG (by omega))) rfl) ?_
  refine RH.pv rfl (fun _ _ _ _ h => h) (Gh.le_refl _) PickC.pick rfl (PV.move (v := v) rfl rfl) ?_
  refine RH.pv rfl (fun _ _ _ _ h => h) (Gh.le_refl _) PickC.pick rfl (PV.idxS (j := 3) (v := v) rfl Is28 rfl (SlF.r h1) rfl (by omega) (by omega)) ?_
  refine RH.pv rfl (fun _ _ _ _ h => h) (Gh.le_refl _) PickC.pick rfl (PV.loadE1 rfl Sc55 rfl rfl (El.r h1 (getG (by omega))) rfl) ?_
  refine RH.pv rfl (fun _ _ _ _ h => h) (Gh.le_refl _) PickC.pick rfl (PV.move (v := v) rfl rfl) ?_
  refine RH.pv rfl (fun _ _ _ _ h => h) (Gh.le_refl _) PickC.pick rfl (PV.idxS (j := 5) (v := v) rfl Is28 rfl (SlF.r h1) rfl (by omega) (by omega)) ?_
  refine RH.pv rfl (fun _ _ _ _ h => h) (Gh.le_refl _) PickC.pick rfl (PV.loadE1 rfl Sc55 rfl rfl (El.r h1 (getG (by omega))) rfl) ?_
  refine RH.ot rfl rfl (OT.callF (vs := [_, _]) rfl En145 rfl (diff_s (Rs.up (hd 0 (by omega))) (Rs.up (hd 1 (by omega))) (fun v9 => ⟨Gh.le_refl _, PickC.pick, ?_⟩)))
  refine RH.ot rfl rfl (OT.callF (vs := [_]) rfl En146 rfl (clone_rects (Rs.up (hd _ (by omega))) (hbi _ (by omega)) (fun v13 => ⟨Gh.le_refl _, PickC.pick, ?_⟩)))
  refine RH.ot rfl rfl (OT.callF (vs := [_]) rfl En146 rfl (clone_rects (Rs.up (hd _ (by omega))) (hbi _ (by omega)) (fun v17 => ⟨Gh.le_refl _, PickC.pick, ?_⟩)))
  refine RH.ot rfl rfl (OT.callF (vs := [_]) rfl En146 rfl (clone_rects (Rs.up (hd _ (by omega))) (hbi _ (by omega)) (fun v21 => ⟨Gh.le_refl _, PickC.pick, ?_⟩)))
  refine RH.ot rfl rfl (OT.bslice (F := (slT (α := Rect))) (els := [⟨v9, opR (fun p q => p && !q) (gd xs 0).xs (gd xs 1).xs⟩, ⟨v13, (gd xs 1).xs⟩, ⟨v17, (gd xs 3).xs⟩, ⟨v21, (gd xs 5).xs⟩]) rfl El28 rfl (by decide) rfl (by decide) ⟨rfl, (Cl.s (v := v9) SlF.o), ⟨rfl, (Cl.s (v := v13) SlF.o), ⟨rfl, (Cl.s (v := v17) SlF.o), ⟨rfl, (Cl.s (v := v21) SlF.o), trivial⟩⟩⟩⟩ fun v22 => ⟨Gh.le_refl _, PickC.pick, ?_⟩)
  refine RH.pv rfl (fun _ _ _ _ h => h) (Gh.le_refl _) PickC.pick rfl (PV.asg (v := v22) rfl rfl) ?_
  refine RH.nil ?_
  refine WP.ret ?_
  exact ⟨_, _, ResV.one rfl rfl, (Cv.p (C := osl 55 slT v22 [(⟨v9, opR (fun p q => p && !q) (gd xs 0).xs (gd xs 1).xs⟩ : Sl Rect), ⟨v13, (gd xs 1).xs⟩, ⟨v17, (gd xs 3).xs⟩, ⟨v21, (gd xs 5).xs⟩] :: osl 79 rectT v9 (opR (fun p q => p && !q) (gd xs 0).xs (gd xs 1).xs) :: osl 79 rectT v13 (gd xs 1).xs :: osl 79 rectT v17 (gd xs 3).xs :: osl 79 rectT v21 (gd xs 5).xs :: L)).trans (Cv.cons (Cv.toBag (B := [osl 79 rectT v9 (opR (fun p q => p && !q) (gd xs 0).xs (gd xs 1).xs), osl 79 rectT v13 (gd xs 1).xs, osl 79 rectT v17 (gd xs 3).xs, osl 79 rectT v21 (gd xs 5).xs]))), k v22 [⟨v9, opR (fun p q => p && !q) (gd xs 0).xs (gd xs 1).xs⟩, ⟨v13, (gd xs 1).xs⟩, ⟨v17, (gd xs 3).xs⟩, ⟨v21, (gd xs 5).xs⟩] rfl⟩
end Go.Proofs.YtkiafbneemdajaaGreat
namespace Go.Proofs.YtkiafbneemdajaaGreat
set_option linter.unusedVariables false
set_option linter.unusedSimpArgs false
open Go
set_option maxRecDepth 20000
set_option linter.unusedSimpArgs false
variable {G : Gh} {L : List Ch} {R : Value → Gh → List Ch → Prop}
/-- the pieces of the first n conductors: each with its layer -/
noncomputable def pcL (l : List (List Rect)) (n : Nat) : List (Int × List Bool) := ((List.range n).map fun i => (comps (gd (condB l) i)).map fun c => (gd [0, 1, 3, 5] i, c)).flatten
theorem pcL_succ (l : List (List Rect)) (n : Nat) : pcL l (n + 1) = pcL l n ++ (comps (gd (condB l) n)).map fun c => (gd [0, 1, 3, 5] n, c) := by
  simp [pcL, List.range_succ]
theorem comps_len (S : List Bool) : (comps S).length ≤ 6400 := by
  have := firsts_len S 6400
  simpa [comps] using this
theorem pcL_len (l : List (List Rect)) : ∀ n, (pcL l n).length ≤ 6400 * n
  | 0 => by simp [pcL]
  | n + 1 => by
    have h1 := pcL_len l n
    have h2 := comps_len (gd (condB l) n)
    rw [pcL_succ, List.length_append, List.length_map]; omega
def pcR (p : Int × List Bool) : Int × List Rect := (p.1, canon p.2)
theorem regs_append (xs ys : List Piece) : regs (xs ++ ys) = regs xs ++ regs ys := by simp [regs]
theorem drop_gd {α : Type} [Inhabited α] {xs : List α} {i : Nat} (h : i < xs.length) : xs.drop i = gd xs i :: xs.drop (i + 1) := by rw [List.drop_eq_getElem_cons h, gd_eq h]
theorem gd_app_at {α : Type} [Inhabited α] {xs ys : List α} {i : Nat} : gd (xs ++ ys) (xs.length + i) = gd ys i := by simp [gd, List.getElem?_append_right]
/-- a list whose parts lie at the end of a bag -/
theorem RsE.right {α : Type} {G : Gh} {L L' : List Ch} {e : TypeId} {F : FT α} {ws xs : List (Sl α)} [hX : ExBg (ws ++ xs) L e F L'] : RsE G L F xs := fun i hi => by
  have := Rs.inBag (G := G) (L := L) (L' := L') (e := e) (F := F) (xs := ws ++ xs) (ws.length + i) (by simp; omega)
  rwa [gd_app_at] at this
theorem Rs.inRight {α : Type} {G : Gh} {L L' : List Ch} {e : TypeId} {F : FT α} {ws xs : List (Sl α)} (j : Nat) (hj : j < xs.length) [hX : ExBg (ws ++ xs) L e F L'] : Rs G L F (gd xs j).v (gd xs j).xs := RsE.right (L := L) (L' := L') (e := e) (ws := ws) j hj
theorem WP.sl {α : Type} {P : Program} {n : Nat} {c : Code} {Q : Post} {σ : Nat → Value} {G : Gh} {L : List Ch} {F : FT α} {v : Value} {xs : List α} (h : Rs G L F v xs) (k : IsSl v xs.length → WP P n c Q σ G L) : WP P n c Q σ G L := WP.of fun hk _ _ ha hs => (k (h _ hs).1).run hk ha hs
theorem SlF.i {G : Gh} {L : List Ch} {v : Value} {m : Nat} (h : IsSl v m) : SlF G L v m := fun _ _ => h
theorem Cv.pre {L L' : List Ch} (h : Cv L L') : ∀ A : List Ch, Cv (A ++ L) (A ++ L')
  | [] => h
  | _ :: A => Cv.cons (Cv.pre h A)
theorem Cv.bagJoin {α : Type} {e : TypeId} {F : FT α} {xs ys : List (Sl α)} {L : List Ch} : Cv (bagS e F xs :: bagS e F ys :: L) (bagS e F (xs ++ ys) :: L) := by
  unfold bagS
  refine Cv.ofBag.trans ((Cv.pre Cv.ofBag _).trans ?_)
  rw [← List.append_assoc, ← List.map_append]
  exact Cv.toBag
def mkP (n : Int) (s : Sl Rect) : Piece := ⟨n, s⟩
theorem regs_mkP (n : Int) (zs : List (Sl Rect)) : regs (zs.map (mkP n)) = zs := by simp [regs, mkP, Function.comp_def]
theorem pieces_s {v : Value} {xs : List (Sl Rect)} (h1 : Rs G L slT v xs) (hd : RsE G L rectT xs) (hlay : isLay (er xs) = true) (k : ∀ v' ps, erPs ps = (pcL (er xs) 4).map pcR → R v' G (osl 115 pieceT v' ps :: bagS 79 rectT (regs ps) :: L)) : CallT Tryz.prog 116 #[v] G L R := by
  have h8 : xs.length = 8 := by have := isLay_len hlay; rwa [er_len] at this
  have hreg : ∀ i, i < 8 → isReg (gd xs i).xs = true := fun i hi => by rw [← er_gd]; exact isLay_reg hlay hi
  refine CallT.enter (args := _) Tryz.func116 rfl rfl (by kernel_rfl) rfl ?_
  refine WP.seq ?_
  refine WP.region ?_
  refine RG.pv rfl (PV.asg rfl rfl) ?_
  refine RG.nil ?_
  refine WP.seq ?_
  refine WP.region ?_
  refine RG.ot rfl (OT.bslice (F := pieceT) (els := []) rfl El110 rfl (by decide) rfl (by decide) trivial fun v9 => ?_)
  refine RG.ot rfl (OT.bslice (F := intT) (els := [_, _, _, _]) rfl El26 rfl (by decide) rfl (by decide) ⟨rfl, (Cl.c rfl), ⟨rfl, (Cl.c rfl), ⟨rfl, (Cl.c rfl), ⟨rfl, (Cl.c rfl), trivial⟩⟩⟩⟩ fun v10 => ?_)
  refine RG.pv rfl (PV.asg (v := v9) rfl rfl) ?_
  refine RG.pv rfl (PV.asg (v := v10) rfl rfl) ?_
  refine RG.nil ?_
  refine WP.seq ?_
  refine WP.seq ?_
  refine WP.region ?_
  refine RG.pv rfl (PV.move (v := v) rfl rfl) ?_
  refine RG.callF (vs := [v]) rfl rfl En138 rfl (conductors_s (Rs.up h1) hd.up h8 (fun i hi => by have := isReg_len (hreg i hi); omega) (fun v12 ysv12 hev12 => ?_))
  refine RG.pv rfl (PV.len (v := v12) rfl Tryz.underlying28 rfl SlF.o) ?_
  refine RG.pv rfl (PV.mvI (.inl rfl) rfl) ?_
  refine RG.nil ?_
  refine WP.block ?_
  have hcy : er ysv12 = (condB (er xs)).map canon := by
    rw [hev12, ← er_gd, ← er_gd, ← er_gd, ← er_gd, ← condR_eq hlay, condR, hlay]; rfl
  have hy4 : ysv12.length = 4 := by have := congrArg List.length hcy; rw [er_len] at this; exact this
  refine WP.cv ((Cv.p (C := osl 115 pieceT v9 ([] : List Piece) :: osl 2 intT v10 [0, 1, 3, 5] :: osl 55 slT v12 ysv12 :: bagS 79 rectT ysv12 :: L)).trans (Cv.cons (Cv.bag0 (e := 79) (F := rectT) (xs := regs []) rfl))) ?_
  refine WP.loop3 [4, 12, 13] (fun (i : Nat) (ps : List Piece) (q : Value) => i ≤ 4 ∧ erPs ps = (pcL (er xs) i).map pcR) (fun (i : Nat) (ps : List Piece) (q : Value) => [(14, vi i), (3, q)]) (fun (i : Nat) (ps : List Piece) (q : Value) => osl 115 pieceT q ps :: bagS 79 rectT (regs ps) :: osl 2 intT v10 [0, 1, 3, 5] :: osl 55 slT v12 ysv12 :: bagS 79 rectT ysv12 :: L) (fun (i : Nat) (ps : List Piece) (q : Value) => 4 - i) 0 [] v9 ⟨by omega, rfl⟩ ⟨rfl, rfl, trivial⟩ Cv.p ?_
  rintro i ps q τ ⟨hi, hps⟩
  refine WP.seq ?_
  refine WP.region ?_
  refine RG.pv rfl (PV.lss rfl rfl rfl) ?_
  refine RG.nil ?_
  refine WP.seq ?_
  have hpl : ps.length ≤ 6400 * 4 := by
    have := congrArg List.length hps
    have h2 := pcL_len (er xs) i
    rw [erPs_len, List.length_map] at this; omega
  refine WP.cond rfl (fun h2 => ?_) (fun h2 => ?_)
  · have h2 := of_decide_eq_true h2
    have hi4 : i < 4 := by omega
    refine WP.skip ?_
    refine WP.seq ?_
    refine WP.block ?_
    refine WP.seq ?_
    refine WP.region ?_
    refine RG.pv rfl (PV.mvI (.inl rfl) rfl) ?_
    refine RG.pv rfl (PV.idxS (v := v12) rfl Is28 rfl SlF.o rfl rfl (by omega)) ?_
    refine RG.pv rfl (PV.loadE1 rfl Sc55 rfl rfl (El.o (getG (by omega))) rfl) ?_
    refine RG.pv rfl (PV.mvI (.inr rfl) rfl) ?_
    refine RG.pv rfl (PV.asg rfl rfl) ?_
    refine RG.nil ?_
    refine WP.seq ?_
    refine WP.region ?_
    refine RG.pv rfl (PV.move rfl rfl) ?_
    refine RG.callF (vs := [_]) rfl rfl En139 rfl (components_s (Rs.inBag (xs := ysv12) i (by omega)) (fun v20 zs hz => ?_))
    refine RG.pv rfl (PV.len (v := v20) rfl Tryz.underlying28 rfl SlF.o) ?_
    refine RG.pv rfl (PV.mvI (.inl rfl) rfl) ?_
    refine RG.nil ?_
    refine WP.block ?_
    have hzl := parts_len hz
    have hcz : er zs = (comps (gd (condB (er xs)) i)).map canon := by
      rw [hz, ← er_gd, hcy, gd_map _ (by simp [condB]; omega), bits_canon (condB_len _ hi4)]; rfl
    refine WP.cv ((Cv.p (C := bagS 79 rectT (regs ps) :: bagS 79 rectT zs :: osl 115 pieceT q ps :: osl 55 slT v20 zs :: osl 2 intT v10 [0, 1, 3, 5] :: osl 55 slT v12 ysv12 :: bagS 79 rectT ysv12 :: L)).trans (Cv.bagJoin.trans ((Cv.p (C := osl 115 pieceT q ps :: bagS 79 rectT (regs ps ++ zs) :: osl 55 slT v20 zs :: osl 2 intT v10 [0, 1, 3, 5] :: osl 55 slT v12 ysv12 :: bagS 79 rectT ysv12 :: L)).trans (Cv.cast (L' := osl 115 pieceT q (ps ++ (zs.take 0).map (mkP (gd [0, 1, 3, 5] i))) :: bagS 79 rectT (regs ps ++ zs) :: osl 55 slT v20 zs :: osl 2 intT v10 [0, 1, 3, 5] :: osl 55 slT v12 ysv12 :: bagS 79 rectT ysv12 :: L) (by simp))))) ?_
    refine WP.loop2 [4, 5, 12, 13, 14, 20, 21] (fun (j : Nat) (q1 : Value) => j ≤ zs.length) (fun (j : Nat) (q1 : Value) => [(22, vi j), (3, q1)]) (fun (j : Nat) (q1 : Value) => osl 115 pieceT q1 (ps ++ (zs.take j).map (mkP (gd [0, 1, 3, 5] i))) :: bagS 79 rectT (regs ps ++ zs) :: osl 55 slT v20 zs :: osl 2 intT v10 [0, 1, 3, 5] :: osl 55 slT v12 ysv12 :: bagS 79 rectT ysv12 :: L) (fun (j : Nat) (q1 : Value) => zs.length - j) 0 q (by omega) ⟨rfl, rfl, trivial⟩ Cv.p ?_
    rintro j q1 τ1 hj
    refine WP.seq ?_
    refine WP.region ?_
    refine RG.pv rfl (PV.lss rfl rfl rfl) ?_
    refine RG.nil ?_
    refine WP.seq ?_
    have hlt : (ps ++ (zs.take j).map (mkP (gd [0, 1, 3, 5] i))).length = ps.length + j := by simp; omega
    refine WP.cond rfl (fun h3 => ?_) (fun h3 => ?_)
    · have h3 := of_decide_eq_true h3
      have hn4 : ([0, 1, 3, 5] : List Int).length = 4 := rfl
      refine WP.sl (Rs.inRight (ws := regs ps) (xs := zs) j (by omega)) fun hI => ?_
      refine WP.skip ?_
      refine WP.seq ?_
      refine WP.block ?_
      refine WP.seq ?_
      refine WP.region ?_
      refine RG.pv rfl (PV.idxS (v := v20) rfl Is28 rfl SlF.o rfl rfl (by omega)) ?_
      refine RG.pv rfl (PV.loadE1 rfl Sc55 rfl rfl (El.o (getG (by omega))) rfl) ?_
      refine RG.pv rfl (PV.asg rfl rfl) ?_
      refine RG.nil ?_
      refine WP.region ?_
      refine RG.pv rfl (PV.move (v := q1) rfl rfl) ?_
      refine RG.pv rfl (PV.move (v := v10) rfl rfl) ?_
      refine RG.pv rfl (PV.mvI (.inl rfl) rfl) ?_
      refine RG.pv rfl (PV.idxS (v := v10) rfl Is26 rfl SlF.o rfl rfl (by omega)) ?_
      refine RG.pv rfl (PV.loadE1 rfl Sc2 rfl rfl (El.o (getG (by omega))) rfl) ?_
      refine RG.pv rfl (PV.move rfl rfl) ?_
      refine RG.pv rfl (PV.build (vs := [(0, [vi _]), (1, [_])]) (out := [_, _]) rfl Zr115 Pl115 ⟨rfl, (Cl.c rfl), ⟨rfl, (Cl.s (SlF.i hI)), trivial⟩⟩ rfl) ?_
      refine RG.ot rfl (OT.bslice (F := pieceT) (els := [⟨gd [0, 1, 3, 5] i, gd zs j⟩]) rfl El110 rfl (by decide) rfl (by decide) ⟨rfl, (Cl.c rfl), trivial⟩ fun v33 => ?_)
      refine RG.ot rfl (OT.append (v := q1) (u := v33) (F := pieceT) rfl El110 rfl (by decide) rfl rfl Rs.o (OneL.one (OneC.val rfl (OneC.sl (SlF.i hI) OneC.nil))) rfl (by first | omega | (simp <;> omega)) fun v34 => ?_)
      refine RG.pv rfl (PV.asg (v := v34) rfl rfl) ?_
      refine RG.nil ?_
      refine WP.region ?_
      refine RG.pv rfl (PV.add rfl rfl rfl (by omega)) ?_
      refine RG.pv rfl (PV.mvI (.inl rfl) rfl) ?_
      refine RG.nil ?_
      exact ⟨rfl, j + 1, v34, (by omega), ⟨rfl, rfl, trivial⟩, ⟨rfl, rfl, rfl, rfl, rfl, rfl, rfl, trivial⟩, (Cv.p (C := osl 115 pieceT v34 (ps ++ (zs.take j).map (mkP (gd [0, 1, 3, 5] i)) ++ [⟨gd [0, 1, 3, 5] i, gd zs j⟩]) :: bagS 79 rectT (regs ps ++ zs) :: osl 55 slT v20 zs :: osl 2 intT v10 [0, 1, 3, 5] :: osl 55 slT v12 ysv12 :: bagS 79 rectT ysv12 :: L)).trans (Cv.cast (by rw [List.take_add_one, getG (by omega), List.map_append, List.append_assoc]; rfl)), by omega⟩
    · have h3 := of_decide_eq_false h3
      obtain rfl : j = zs.length := by omega
      refine WP.exit ?_
      refine WP.region ?_
      refine RG.pv rfl (PV.add rfl rfl rfl (by omega)) ?_
      refine RG.pv rfl (PV.mvI (.inl rfl) rfl) ?_
      refine RG.nil ?_
      refine ⟨rfl, i + 1, (ps ++ zs.map (mkP (gd [0, 1, 3, 5] i))), q1, ⟨by omega, ?_⟩, ⟨rfl, rfl, trivial⟩, ⟨rfl, rfl, rfl, trivial⟩, (Cv.p (C := osl 115 pieceT q1 (ps ++ (zs.take zs.length).map (mkP (gd [0, 1, 3, 5] i))) :: bagS 79 rectT (regs ps ++ zs) :: osl 2 intT v10 [0, 1, 3, 5] :: osl 55 slT v12 ysv12 :: bagS 79 rectT ysv12 :: L)).trans (Cv.cast (by rw [List.take_length, regs_append, regs_mkP])), by omega⟩
      rw [pcL_succ, List.map_append, ← hps, erPs, List.map_append]
      congr 1
      have e : ∀ zs : List (Sl Rect), (zs.map (mkP (gd [0, 1, 3, 5] i))).map erP = (er zs).map fun r => (gd [0, 1, 3, 5] i, r) := fun zs => by simp [er, erP, mkP, Function.comp_def]
      rw [e, hcz, List.map_map, List.map_map]; rfl
  · have h2 := of_decide_eq_false h2
    obtain rfl : i = 4 := by omega
    refine WP.exit ?_
    refine WP.seq ?_
    refine WP.region ?_
    refine RG.pv rfl (PV.move (v := q) rfl rfl) ?_
    refine RG.pv rfl (PV.asg (v := q) rfl rfl) ?_
    refine RG.nil ?_
    refine WP.ret ?_
    exact ⟨_, _, ResV.one rfl rfl, Cv.p, k q ps hps⟩
def cels (xs : List Part) : List (Sl Bool) := xs.map Part.cells
theorem cels_append (xs ys : List Part) : cels (xs ++ ys) = cels xs ++ cels ys := by simp [cels]
def erC (p : Part) : Int × List Bool := (p.layer, p.cells.xs)
def mkC (n : Int) (s : Sl Bool) : Part := ⟨n, s⟩
theorem cels_mkC (n : Int) (zs : List (Sl Bool)) : cels (zs.map (mkC n)) = zs := by simp [cels, mkC, Function.comp_def]
theorem l23Layers_s (k : ∀ v, R v G (osl 2 intT v [0, 1, 3, 5] :: L)) : CallT Tryz.prog 59 #[] G L R := by
  refine CallT.enter (args := _) Tryz.func59 rfl rfl (by kernel_rfl) rfl ?_
  refine WP.seq ?_
  refine WP.region ?_
  refine RG.pv rfl (PV.asg rfl rfl) ?_
  refine RG.nil ?_
  refine WP.seq ?_
  refine WP.region ?_
  refine RG.ot rfl (OT.bslice (F := intT) (els := [_, _, _, _]) rfl El26 rfl (by decide) rfl (by decide) ⟨rfl, (Cl.c rfl), ⟨rfl, (Cl.c rfl), ⟨rfl, (Cl.c rfl), ⟨rfl, (Cl.c rfl), trivial⟩⟩⟩⟩ fun v1 => ?_)
  refine RG.pv rfl (PV.asg (v := v1) rfl rfl) ?_
  refine RG.nil ?_
  refine WP.ret ?_
  exact ⟨_, _, ResV.one rfl rfl, Cv.p, k v1⟩
theorem l23Parts_s {v : Value} {xs : List (Sl Rect)} (h1 : Rs G L slT v xs) (hd : RsE G L rectT xs) (hlay : isLay (er xs) = true) (k : ∀ v' ps, ps.map erC = pcL (er xs) 4 → R v' G (osl 102 partT v' ps :: bagS 4 boolT (cels ps) :: L)) : CallT Tryz.prog 40 #[v] G L R := by
  have h8 : xs.length = 8 := by have := isLay_len hlay; rwa [er_len] at this
  have hreg : ∀ i, i < 8 → isReg (gd xs i).xs = true := fun i hi => by rw [← er_gd]; exact isLay_reg hlay hi
  refine CallT.enter (args := _) Tryz.func40 rfl rfl (by kernel_rfl) rfl ?_
  refine WP.seq ?_
  refine WP.region ?_
  refine RG.pv rfl (PV.asg rfl rfl) ?_
  refine RG.nil ?_
  refine WP.seq ?_
  refine WP.region ?_
  refine RG.ot rfl (OT.bslice (F := partT) (els := []) rfl El73 rfl (by decide) rfl (by decide) trivial fun v8 => ?_)
  refine RG.pv rfl (PV.asg (v := v8) rfl rfl) ?_
  refine RG.nil ?_
  refine WP.seq ?_
  refine WP.region ?_
  refine RG.pv rfl (PV.move (v := v) rfl rfl) ?_
  refine RG.callF (vs := [v]) rfl rfl En57 rfl (l23Conductors_s (Rs.up h1) hd.up h8 hreg (fun v10 zsv10 hev10 => ?_))
  refine RG.pv rfl (PV.asg (v := v10) rfl rfl) ?_
  refine RG.nil ?_
  refine WP.seq ?_
  refine WP.seq ?_
  refine WP.region ?_
  refine RG.pv rfl (PV.mvI (.inr rfl) rfl) ?_
  refine RG.nil ?_
  refine WP.block ?_
  have hy4 : zsv10.length = 4 := by have := congrArg List.length hev10; rw [er_len] at this; exact this
  refine WP.cv ((Cv.p (C := osl 102 partT v8 ([] : List Part) :: osl 99 slT v10 zsv10 :: bagS 4 boolT zsv10 :: L)).trans (Cv.cons (Cv.bag0 (e := 4) (F := boolT) (xs := cels []) rfl))) ?_
  refine WP.loop3 [4] (fun (i : Nat) (ps : List Part) (q : Value) => i ≤ 4 ∧ ps.map erC = pcL (er xs) i) (fun (i : Nat) (ps : List Part) (q : Value) => [(5, vi i), (3, q)]) (fun (i : Nat) (ps : List Part) (q : Value) => osl 102 partT q ps :: bagS 4 boolT (cels ps) :: osl 99 slT v10 zsv10 :: bagS 4 boolT zsv10 :: L) (fun (i : Nat) (ps : List Part) (q : Value) => 4 - i) 0 [] v8 ⟨by omega, rfl⟩ ⟨rfl, rfl, trivial⟩ Cv.p ?_
  rintro i ps q τ ⟨hi, hps⟩
  refine WP.seq ?_
  refine WP.seq ?_
  refine WP.region ?_
  refine RG.pv rfl (PV.mvI (.inl rfl) rfl) ?_
  refine RG.pv rfl (PV.move (v := v10) rfl rfl) ?_
  refine RG.pv rfl (PV.len (v := v10) rfl Tryz.underlying96 rfl SlF.o) ?_
  refine RG.pv rfl (PV.lss rfl rfl rfl) ?_
  refine RG.nil ?_
  have hpl : ps.length ≤ 6400 * 4 := by
    have := congrArg List.length hps
    have h2 := pcL_len (er xs) i
    rw [List.length_map] at this; omega
  refine WP.cond rfl (fun h2 => ?_) (fun h2 => ?_)
  · have h2 := of_decide_eq_true h2
    have hi4 : i < 4 := by omega
    have hl6 : (gd zsv10 i).xs.length = 6400 := by rw [← er_gd, hev10]; exact condB_len _ hi4
    refine WP.skip ?_
    refine WP.seq ?_
    refine WP.block ?_
    refine WP.seq ?_
    refine WP.region ?_
    refine RG.pv rfl (PV.move (v := v10) rfl rfl) ?_
    refine RG.pv rfl (PV.mvI (.inl rfl) rfl) ?_
    refine RG.pv rfl (PV.idxS (v := v10) rfl Is96 rfl SlF.o rfl rfl (by omega)) ?_
    refine RG.pv rfl (PV.loadE1 rfl Sc99 rfl rfl (El.o (getG (by omega))) rfl) ?_
    refine RG.callF (vs := [_]) rfl rfl En58 rfl (comps_s (Rs.inBag (xs := zsv10) i (by omega)) hl6 (fun v21 zs hz => ?_))
    refine RG.pv rfl (PV.asg (v := v21) rfl rfl) ?_
    refine RG.nil ?_
    refine WP.seq ?_
    refine WP.region ?_
    refine RG.pv rfl (PV.mvI (.inr rfl) rfl) ?_
    refine RG.nil ?_
    refine WP.block ?_
    have hcz : er zs = comps (gd (condB (er xs)) i) := by rw [hz, ← er_gd, hev10]
    have hzl : zs.length ≤ 6400 := by have := congrArg List.length hcz; have h3 := comps_len (gd (condB (er xs)) i); rw [er_len] at this; omega
    refine WP.cv ((Cv.p (C := bagS 4 boolT (cels ps) :: bagS 4 boolT zs :: osl 102 partT q ps :: osl 99 slT v21 zs :: osl 99 slT v10 zsv10 :: bagS 4 boolT zsv10 :: L)).trans (Cv.bagJoin.trans ((Cv.p (C := osl 102 partT q ps :: bagS 4 boolT (cels ps ++ zs) :: osl 99 slT v21 zs :: osl 99 slT v10 zsv10 :: bagS 4 boolT zsv10 :: L)).trans (Cv.cast (L' := osl 102 partT q (ps ++ (zs.take 0).map (mkC (gd [0, 1, 3, 5] i))) :: bagS 4 boolT (cels ps ++ zs) :: osl 99 slT v21 zs :: osl 99 slT v10 zsv10 :: bagS 4 boolT zsv10 :: L) (by simp))))) ?_
    refine WP.loop2 [4, 5, 6] (fun (j : Nat) (q1 : Value) => j ≤ zs.length) (fun (j : Nat) (q1 : Value) => [(7, vi j), (3, q1)]) (fun (j : Nat) (q1 : Value) => osl 102 partT q1 (ps ++ (zs.take j).map (mkC (gd [0, 1, 3, 5] i))) :: bagS 4 boolT (cels ps ++ zs) :: osl 99 slT v21 zs :: osl 99 slT v10 zsv10 :: bagS 4 boolT zsv10 :: L) (fun (j : Nat) (q1 : Value) => zs.length - j) 0 q (by omega) ⟨rfl, rfl, trivial⟩ Cv.p ?_
    rintro j q1 τ1 hj
    refine WP.seq ?_
    refine WP.seq ?_
    refine WP.region ?_
    refine RG.pv rfl (PV.mvI (.inl rfl) rfl) ?_
    refine RG.pv rfl (PV.move (v := v21) rfl rfl) ?_
    refine RG.pv rfl (PV.len (v := v21) rfl Tryz.underlying96 rfl SlF.o) ?_
    refine RG.pv rfl (PV.lss rfl rfl rfl) ?_
    refine RG.nil ?_
    have hlt : (ps ++ (zs.take j).map (mkC (gd [0, 1, 3, 5] i))).length = ps.length + j := by simp; omega
    refine WP.cond rfl (fun h3 => ?_) (fun h3 => ?_)
    · have h3 := of_decide_eq_true h3
      have hn4 : ([0, 1, 3, 5] : List Int).length = 4 := rfl
      refine WP.sl (Rs.inRight (ws := cels ps) (xs := zs) j (by omega)) fun hI => ?_
      refine WP.skip ?_
      refine WP.seq ?_
      refine WP.block ?_
      refine WP.regionHD [.s q1] (.q 0 (.q 2 (.q 5 (.q 6 (.q 7 (.q 8 (.l 1 (.q 3 (.q 4 (.q 9 (.l 10 (.l 11 (.q 12 Sch.nil))))))))))))) (by kernel_rfl) (by kernel_rfl) (by kernel_rfl) rfl ?_
      refine RH.pv rfl (fun _ _ _ _ h => h) (Gh.le_refl _) PickC.pick rfl (PV.move (v := q1) rfl rfl) ?_
      refine RH.pv rfl (fun _ _ _ _ h => h) (Gh.le_refl _) PickC.pick rfl (PV.mvI (.inl rfl) rfl) ?_
      refine RH.pv rfl (fun _ _ _ _ h => h) (Gh.le_refl _) PickC.pick rfl (PV.move (v := v21) rfl rfl) ?_
      refine RH.pv rfl (fun _ _ _ _ h => h) (Gh.le_refl _) PickC.pick rfl (PV.mvI (.inl rfl) rfl) ?_
      refine RH.pv rfl (fun _ _ _ _ h => h) (Gh.le_refl _) PickC.pick rfl (PV.idxS (v := v21) rfl Is96 rfl SlF.o rfl rfl (by omega)) ?_
      refine RH.pv rfl (fun _ _ _ _ h => h) (Gh.le_refl _) PickC.pick rfl (PV.loadE1 rfl Sc99 rfl rfl (El.o (getG (by omega))) rfl) ?_
      refine RH.ot rfl rfl (OT.callF (vs := []) rfl En59 rfl (l23Layers_s (fun v29 => ⟨Gh.le_refl _, PickC.pick, ?_⟩)))
      refine RH.up1 ?_
      refine RH.pv rfl (fun _ _ _ _ h => h) (Gh.le_refl _) PickC.pick rfl (PV.idxS (v := v29) rfl Is26 rfl SlF.o rfl rfl (by omega)) ?_
      refine RH.pv rfl (fun _ _ _ _ h => h) (Gh.le_refl _) PickC.pick rfl (PV.loadE1 rfl Sc2 rfl rfl (El.o (getG (by omega))) rfl) ?_
      refine RH.pv rfl (fun _ _ _ _ h => h) (Gh.le_refl _) PickC.pick rfl (PV.build (vs := [(0, [vi _]), (1, [_])]) (out := [_, _]) rfl Zr102 Pl102 ⟨rfl, (Cl.c rfl), ⟨rfl, (Cl.s (SlF.i hI)), trivial⟩⟩ rfl) ?_
      refine RH.ot rfl rfl (OT.bslice (F := partT) (els := [⟨gd [0, 1, 3, 5] i, gd zs j⟩]) rfl El73 rfl (by decide) rfl (by decide) ⟨rfl, (Cl.c rfl), trivial⟩ fun v38 => ⟨Gh.le_refl _, PickC.pick, ?_⟩)
      refine RH.ot rfl rfl (OT.append (v := q1) (u := v38) (F := partT) rfl El73 rfl (by decide) rfl rfl Rs.o (OneL.one (OneC.val rfl (OneC.sl (SlF.i hI) OneC.nil))) rfl (by first | omega | (simp <;> omega)) fun v39 => ⟨Gh.le_refl _, PickC.pick, ?_⟩)
      refine RH.pv rfl (fun _ _ _ _ h => h) (Gh.le_refl _) PickC.pick rfl (PV.asg (v := v39) rfl rfl) ?_
      refine RH.nil ?_
      refine WP.region ?_
      refine RG.pv rfl (PV.mvI (.inl rfl) rfl) ?_
      refine RG.pv rfl (PV.add rfl rfl rfl (by omega)) ?_
      refine RG.pv rfl (PV.mvI (.inr rfl) rfl) ?_
      refine RG.nil ?_
      exact ⟨rfl, j + 1, v39, (by omega), ⟨rfl, rfl, trivial⟩, ⟨rfl, rfl, rfl, trivial⟩, (Cv.p (C := osl 102 partT v39 (ps ++ (zs.take j).map (mkC (gd [0, 1, 3, 5] i)) ++ [⟨gd [0, 1, 3, 5] i, gd zs j⟩]) :: bagS 4 boolT (cels ps ++ zs) :: osl 99 slT v21 zs :: osl 99 slT v10 zsv10 :: bagS 4 boolT zsv10 :: L)).trans (Cv.cast (by rw [List.take_add_one, getG (by omega), List.map_append, List.append_assoc]; rfl)), by omega⟩
    · have h3 := of_decide_eq_false h3
      obtain rfl : j = zs.length := by omega
      refine WP.exit ?_
      refine WP.region ?_
      refine RG.pv rfl (PV.mvI (.inl rfl) rfl) ?_
      refine RG.pv rfl (PV.add rfl rfl rfl (by omega)) ?_
      refine RG.pv rfl (PV.mvI (.inr rfl) rfl) ?_
      refine RG.nil ?_
      refine ⟨rfl, i + 1, (ps ++ zs.map (mkC (gd [0, 1, 3, 5] i))), q1, ⟨by omega, ?_⟩, ⟨rfl, rfl, trivial⟩, ⟨rfl, trivial⟩, (Cv.p (C := osl 102 partT q1 (ps ++ (zs.take zs.length).map (mkC (gd [0, 1, 3, 5] i))) :: bagS 4 boolT (cels ps ++ zs) :: osl 99 slT v10 zsv10 :: bagS 4 boolT zsv10 :: L)).trans (Cv.cast (by rw [List.take_length, cels_append, cels_mkC])), by omega⟩
      rw [pcL_succ, List.map_append, hps]
      congr 1
      have e : ∀ zs : List (Sl Bool), (zs.map (mkC (gd [0, 1, 3, 5] i))).map erC = (er zs).map fun r => (gd [0, 1, 3, 5] i, r) := fun zs => by simp [er, erC, mkC, Function.comp_def]
      rw [e, hcz]
  · have h2 := of_decide_eq_false h2
    obtain rfl : i = 4 := by omega
    refine WP.exit ?_
    refine WP.seq ?_
    refine WP.region ?_
    refine RG.pv rfl (PV.move (v := q) rfl rfl) ?_
    refine RG.pv rfl (PV.asg (v := q) rfl rfl) ?_
    refine RG.nil ?_
    refine WP.ret ?_
    exact ⟨_, _, ResV.one rfl rfl, Cv.p, k q ps hps⟩
theorem cels_len (xs : List Part) : (cels xs).length = xs.length := by simp [cels]
theorem cels_gd {xs : List Part} {i : Nat} (h : i < xs.length) : gd (cels xs) i = (gd xs i).cells := gd_map _ h
theorem comps_mem {S : List Bool} {c : List Bool} (h : c ∈ comps S) : c.length = 6400 := by
  obtain ⟨j, _, rfl⟩ := List.mem_map.1 h; exact compB_len _ _
theorem pcL_mem {l : List (List Rect)} {n : Nat} {p : Int × List Bool} (h : p ∈ pcL l n) : p.2.length = 6400 := by
  obtain ⟨m, h1, h2⟩ := List.mem_flatten.1 h
  obtain ⟨i, _, rfl⟩ := List.mem_map.1 h1
  obtain ⟨c, hc, rfl⟩ := List.mem_map.1 h2
  exact comps_mem hc
end Go.Proofs.YtkiafbneemdajaaGreat
namespace Go.Proofs.YtkiafbneemdajaaGreat
set_option linter.unusedVariables false
set_option linter.unusedSimpArgs false
open Go
set_option linter.unusedSimpArgs false
def cmn (a b : Rect) : Rect := ⟨max a.x0 b.x0, max a.y0 b.y0, min a.x1 b.x1, min a.y1 b.y1⟩
def ovl (a b : Rect) : Bool := validRect a && validRect b && validRect (cmn a b)
def meetB (a b : List Rect) : Bool := a.any fun x => b.any fun y => ovl x y
def meetIn (a b c : List Rect) : Bool := a.any fun x => b.any fun y => validRect (cmn x y) && meetB [cmn x y] c
theorem validR_iff {r : Rect} : validRect r = true ↔ -40 ≤ r.x0 ∧ r.x0 < r.x1 ∧ r.x1 ≤ 40 ∧ -40 ≤ r.y0 ∧ r.y0 < r.y1 ∧ r.y1 ≤ 40 := by simp [validRect, and_assoc]
theorem inR_iff {r : Rect} {y x : Nat} : inR r y x = true ↔ r.x0 + 40 ≤ x ∧ (x : Int) < r.x1 + 40 ∧ r.y0 + 40 ≤ y ∧ (y : Int) < r.y1 + 40 := by simp [inR, and_assoc]
theorem inR_cmn {a b : Rect} {y x : Nat} : inR (cmn a b) y x = true ↔ inR a y x = true ∧ inR b y x = true := by
  simp only [inR_iff, cmn]; omega
theorem valid_cell {r : Rect} (h : validRect r = true) : ∃ y x, y < 80 ∧ x < 80 ∧ inR r y x = true := by
  rw [validR_iff] at h
  exact ⟨(r.y0 + 40).toNat, (r.x0 + 40).toNat, by omega, by omega, inR_iff.2 (by omega)⟩
theorem cmn_valid {a b : Rect} (ha : validRect a = true) (hb : validRect b = true) {y x : Nat} (h1 : inR a y x = true) (h2 : inR b y x = true) : validRect (cmn a b) = true := by
  rw [validR_iff] at *; rw [inR_iff] at h1 h2; simp only [cmn]; omega
theorem ovl_iff {a b : Rect} (ha : validRect a = true) (hb : validRect b = true) : ovl a b = true ↔ ∃ y x, y < 80 ∧ x < 80 ∧ inR a y x = true ∧ inR b y x = true := by
  simp only [ovl, ha, hb, Bool.true_and]
  constructor
  · intro h
    obtain ⟨y, x, h1, h2, h3⟩ := valid_cell h
    exact ⟨y, x, h1, h2, inR_cmn.1 h3⟩
  · rintro ⟨y, x, _, _, h1, h2⟩; exact cmn_valid ha hb h1 h2
theorem valid_mem {xs : List Rect} (h : validRs xs = true) {r : Rect} (hr : r ∈ xs) : validRect r = true := by
  simp only [validRs, Bool.and_eq_true, List.all_eq_true] at h; exact h.2 r hr
theorem gb_bits_iff {rs : List Rect} {y x : Nat} (hy : y < 80) (hx : x < 80) : gb (bits rs) y x = true ↔ ∃ r ∈ rs, inR r y x = true := by
  rw [gb_bits' rs hy hx, List.any_eq_true]
theorem meetB_iff {a b : List Rect} (ha : validRs a = true) (hb : validRs b = true) : meetB a b = true ↔ ∃ y x, y < 80 ∧ x < 80 ∧ gb (bits a) y x = true ∧ gb (bits b) y x = true := by
  simp only [meetB, List.any_eq_true]
  constructor
  · rintro ⟨p, hp, q, hq, h⟩
    obtain ⟨y, x, hy, hx, h1, h2⟩ := (ovl_iff (valid_mem ha hp) (valid_mem hb hq)).1 h
    exact ⟨y, x, hy, hx, (gb_bits_iff hy hx).2 ⟨p, hp, h1⟩, (gb_bits_iff hy hx).2 ⟨q, hq, h2⟩⟩
  · rintro ⟨y, x, hy, hx, h1, h2⟩
    obtain ⟨p, hp, h3⟩ := (gb_bits_iff hy hx).1 h1
    obtain ⟨q, hq, h4⟩ := (gb_bits_iff hy hx).1 h2
    exact ⟨p, hp, q, hq, (ovl_iff (valid_mem ha hp) (valid_mem hb hq)).2 ⟨y, x, hy, hx, h3, h4⟩⟩
/-- three sets have a common cell -/
def mt (A B C : List Bool) : Bool := (List.range 6400).any fun n => gd A n && gd B n && gd C n
theorem mt_iff {A B C : List Bool} : mt A B C = true ↔ ∃ y x, y < 80 ∧ x < 80 ∧ gb A y x = true ∧ gb B y x = true ∧ gb C y x = true := by
  simp only [mt, List.any_eq_true, List.mem_range, Bool.and_eq_true, gb]
  constructor
  · rintro ⟨n, hn, ⟨h1, h2⟩, h3⟩
    have e : n / 80 * 80 + n % 80 = n := by omega
    exact ⟨n / 80, n % 80, by omega, by omega, by rw [e]; exact h1, by rw [e]; exact h2, by rw [e]; exact h3⟩
  · rintro ⟨y, x, hy, hx, h1, h2, h3⟩
    exact ⟨y * 80 + x, by omega, ⟨h1, h2⟩, h3⟩
theorem meetIn_iff {a b c : List Rect} (ha : validRs a = true) (hb : validRs b = true) (hc : validRs c = true) : meetIn a b c = mt (bits a) (bits b) (bits c) := by
  rw [Bool.eq_iff_iff, mt_iff]
  simp only [meetIn, List.any_eq_true, Bool.and_eq_true]
  constructor
  · rintro ⟨p, hp, q, hq, h, h'⟩
    have h1 : validRs [cmn p q] = true := by simp [validRs, h]
    obtain ⟨y, x, hy, hx, h2, h3⟩ := (meetB_iff h1 hc).1 h'
    obtain ⟨r, hr, h4⟩ := (gb_bits_iff hy hx).1 h2
    obtain rfl : r = cmn p q := by simpa using hr
    obtain ⟨h5, h6⟩ := inR_cmn.1 h4
    exact ⟨y, x, hy, hx, (gb_bits_iff hy hx).2 ⟨p, hp, h5⟩, (gb_bits_iff hy hx).2 ⟨q, hq, h6⟩, h3⟩
  · rintro ⟨y, x, hy, hx, h1, h2, h3⟩
    obtain ⟨p, hp, h4⟩ := (gb_bits_iff hy hx).1 h1
    obtain ⟨q, hq, h5⟩ := (gb_bits_iff hy hx).1 h2
    have h := cmn_valid (valid_mem ha hp) (valid_mem hb hq) h4 h5
    have h6 : validRs [cmn p q] = true := by simp [validRs, h]
    exact ⟨p, hp, q, hq, h, (meetB_iff h6 hc).2 ⟨y, x, hy, hx, (gb_bits_iff hy hx).2 ⟨_, .head _, inR_cmn.2 ⟨h4, h5⟩⟩, h3⟩⟩
def jnO (l : List (List Rect)) (p q : Int × List Rect) : Bool := bif decide (q.1 = 3) && decide (p.1 < 3) then meetIn p.2 q.2 (gd l 2) else decide (p.1 = 3) && decide (q.1 = 5) && meetIn p.2 q.2 (gd l 4)
def jnI (l : List (List Rect)) (p q : Int × List Rect) : Bool := bif decide (q.1 < p.1) then jnO l q p else jnO l p q
def jnR (p q : Int × List Bool) (C V : List Bool) : Bool := (List.range 6400).any fun n => gd p.2 n && gd q.2 n && (gd C n && (decide (p.1 = 3) || decide (q.1 = 3)) && !(decide (p.1 = 5) || decide (q.1 = 5)) || gd V n && (decide (p.1 = 3) || decide (q.1 = 3)) && (decide (p.1 = 5) || decide (q.1 = 5)))
theorem jnR_eq (p q : Int × List Bool) (C V : List Bool) : jnR p q C V = ((decide (p.1 = 3) || decide (q.1 = 3)) && !(decide (p.1 = 5) || decide (q.1 = 5)) && mt p.2 q.2 C || (decide (p.1 = 3) || decide (q.1 = 3)) && (decide (p.1 = 5) || decide (q.1 = 5)) && mt p.2 q.2 V) := by
  simp only [jnR, mt]
  cases (decide (p.1 = 3) || decide (q.1 = 3)) <;> cases (decide (p.1 = 5) || decide (q.1 = 5)) <;> simp
def isL (n : Int) : Prop := n = 0 ∨ n = 1 ∨ n = 3 ∨ n = 5
theorem mt_comm (A B C : List Bool) : mt A B C = mt B A C := by
  simp only [mt]; congr 1; funext n; cases gd A n <;> cases gd B n <;> rfl
/-- joined, told by cells -/
def jnL (l : List (List Rect)) (p q : Int × List Bool) : Bool := !decide (p.1 = q.1) && jnR p q (bits (gd l 2)) (bits (gd l 4))
theorem jn_eq {l : List (List Rect)} (hl : isLay l = true) {p q : Int × List Bool} (hp : isL p.1) (hq : isL q.1) (hp2 : p.2.length = 6400) (hq2 : q.2.length = 6400) : jnI l (pcR p) (pcR q) = jnL l p q := by
  have h2 := isReg_valid (isLay_reg hl (i := 2) (by omega))
  have h4 := isReg_valid (isLay_reg hl (i := 4) (by omega))
  have hP := isReg_valid (isReg_canon hp2)
  have hQ := isReg_valid (isReg_canon hq2)
  have a1 := meetIn_iff hP hQ h2; have a2 := meetIn_iff hP hQ h4; have a3 := meetIn_iff hQ hP h2; have a4 := meetIn_iff hQ hP h4
  rw [bits_canon hp2, bits_canon hq2] at a1 a2 a3 a4
  rw [mt_comm] at a3 a4
  simp only [jnL, jnR_eq, jnI, jnO, pcR, a1, a2, a3, a4]
  obtain ⟨x, P⟩ := p; obtain ⟨y, Q⟩ := q
  simp only at hp hq ⊢
  rcases hp with rfl | rfl | rfl | rfl <;> rcases hq with rfl | rfl | rfl | rfl <;> simp
theorem isL_lay {i : Nat} (h : i < 4) : isL (gd [0, 1, 3, 5] i) := by
  rcases (by omega : i = 0 ∨ i = 1 ∨ i = 2 ∨ i = 3) with rfl | rfl | rfl | rfl <;> simp [isL, gd]
theorem pcL_isL {l : List (List Rect)} {p : Int × List Bool} (h : p ∈ pcL l 4) : isL p.1 := by
  obtain ⟨m, h1, h2⟩ := List.mem_flatten.1 h
  obtain ⟨i, hi, rfl⟩ := List.mem_map.1 h1
  obtain ⟨c, hc, rfl⟩ := List.mem_map.1 h2
  exact isL_lay (List.mem_range.1 hi)
def rl (lo hi c : Int) : Int := if c = hi then lo else c
def stepJ (J : Nat → Nat → Bool) (i : Nat) (cls : List Int) (k : Nat) : List Int := if gd cls k = gd cls i ∨ J k i = false then cls else cls.map (rl (min (gd cls k) (gd cls i)) (max (gd cls k) (gd cls i)))
def inJ (J : Nat → Nat → Bool) (i : Nat) (cls : List Int) (k : Nat) : List Int := (List.range k).foldl (stepJ J i) (cls ++ [(i : Int)])
def rootsJ (J : Nat → Nat → Bool) : Nat → List Int
  | 0 => []
  | i + 1 => inJ J i (rootsJ J i) i
theorem inJ_zero (J : Nat → Nat → Bool) (i : Nat) (cls : List Int) : inJ J i cls 0 = cls ++ [(i : Int)] := rfl
theorem inJ_succ (J : Nat → Nat → Bool) (i : Nat) (cls : List Int) (k : Nat) : inJ J i cls (k + 1) = stepJ J i (inJ J i cls k) k := by simp [inJ, List.range_succ]
theorem stepJ_len (J : Nat → Nat → Bool) (i : Nat) (cls : List Int) (k : Nat) : (stepJ J i cls k).length = cls.length := by
  unfold stepJ; split <;> simp
theorem inJ_len (J : Nat → Nat → Bool) (i : Nat) (cls : List Int) : ∀ k, (inJ J i cls k).length = cls.length + 1
  | 0 => by simp [inJ_zero]
  | k + 1 => by rw [inJ_succ, stepJ_len, inJ_len J i cls k]
theorem rootsJ_len (J : Nat → Nat → Bool) : ∀ n, (rootsJ J n).length = n
  | 0 => rfl
  | n + 1 => by rw [rootsJ, inJ_len, rootsJ_len J n]
/-- each class is told by its first member -/
def Rt (cls : List Int) : Prop := ∀ j, j < cls.length → 0 ≤ gd cls j ∧ gd cls j ≤ j ∧ gd cls (gd cls j).toNat = gd cls j
theorem Rt.app {cls : List Int} (h : Rt cls) : Rt (cls ++ [(cls.length : Int)]) := fun j hj => by
  have hj : j < cls.length + 1 := by simpa using hj
  by_cases e : j = cls.length
  · subst e
    rw [gd_app_r]; refine ⟨by omega, by omega, ?_⟩
    rw [Int.toNat_natCast, gd_app_r]
  · have hj : j < cls.length := by omega
    obtain ⟨h1, h2, h3⟩ := h j hj
    rw [gd_app_l hj]
    exact ⟨h1, h2, by rw [gd_app_l (by omega)]; exact h3⟩
theorem Rt.map {cls : List Int} (h : Rt cls) {lo hi : Int} (hl : lo < hi) {k : Nat} (hk : k < cls.length) (hlo : gd cls k = lo) : Rt (cls.map (rl lo hi)) := fun j hj => by
  have hj : j < cls.length := by simpa using hj
  obtain ⟨h1, h2, h3⟩ := h j hj
  obtain ⟨g1, g2, g3⟩ := h k hk
  rw [gd_map _ hj]
  unfold rl
  split
  · rename_i e
    refine ⟨by omega, by omega, ?_⟩
    rw [gd_map _ (by omega), hlo] at *
    rw [g3, if_neg (by omega)]
  · rename_i e
    refine ⟨h1, h2, ?_⟩
    rw [gd_map _ (by omega), h3, if_neg e]
theorem Rt.step {cls : List Int} (h : Rt cls) {J : Nat → Nat → Bool} {i k : Nat} (hi : i < cls.length) (hk : k < cls.length) : Rt (stepJ J i cls k) := by
  unfold stepJ
  split
  · exact h
  · rename_i e
    rw [not_or] at e
    by_cases c : gd cls k < gd cls i
    · exact h.map (by omega) hk (by omega)
    · exact h.map (k := i) (by omega) hi (by omega)
theorem Rt.inJ {J : Nat → Nat → Bool} {cls : List Int} (h : Rt cls) : ∀ k, k ≤ cls.length → Rt (inJ J cls.length cls k)
  | 0, _ => by rw [inJ_zero]; exact h.app
  | k + 1, hk => by
    rw [inJ_succ]
    exact (Rt.inJ h k (by omega)).step (by rw [inJ_len]; omega) (by rw [inJ_len]; omega)
theorem rt_roots (J : Nat → Nat → Bool) : ∀ n, Rt (rootsJ J n)
  | 0 => fun j hj => by simp [rootsJ] at hj
  | n + 1 => by
    have := (rt_roots J n).inJ (J := J) n (by rw [rootsJ_len]; omega)
    rw [rootsJ_len] at this; exact this
def mapTo (f : Int → Int) (d : List Int) (m : Nat) : List Int := (d.take m).map f ++ d.drop m
theorem mapTo_zero (f : Int → Int) (d : List Int) : mapTo f d 0 = d := by simp [mapTo]
theorem mapTo_len (f : Int → Int) (d : List Int) {m : Nat} (h : m ≤ d.length) : (mapTo f d m).length = d.length := by simp [mapTo]; omega
theorem mapTo_gd {f : Int → Int} {d : List Int} {m : Nat} (h : m < d.length) : gd (mapTo f d m) m = gd d m := by
  simp only [gd, mapTo]
  rw [List.getElem?_append_right (by simp; omega)]
  simp only [List.length_map, List.length_take, List.getElem?_drop]
  congr 2; omega
theorem mapTo_set {f : Int → Int} {d : List Int} {m : Nat} (h : m < d.length) : (mapTo f d m).set m (f (gd d m)) = mapTo f d (m + 1) := by
  have hl : ((d.take m).map f).length = m := by simp; omega
  simp only [mapTo]
  rw [List.set_append_right _ _ (by omega), hl, Nat.sub_self, drop_gd h, List.set_cons_zero, List.take_add_one, getG h]
  simp
theorem mapTo_skip {f : Int → Int} {d : List Int} {m : Nat} (h : m < d.length) (e : f (gd d m) = gd d m) : mapTo f d (m + 1) = mapTo f d m := by
  rw [← mapTo_set h, e, ← mapTo_gd (f := f) h]
  exact (set_self (by rw [mapTo_len f d (by omega)]; exact h)).symm
theorem mapTo_all {f : Int → Int} {c z : List Int} : mapTo f (c ++ z) c.length = c.map f ++ z := by simp [mapTo]
def cntR (cls : List Int) (m : Nat) : Nat := ((List.range m).filter fun j => decide (gd cls j = (j : Int))).length
def numR (cls : List Int) (i : Nat) : Nat := cntR cls (gd cls i).toNat
theorem cntR_succ (cls : List Int) (m : Nat) : cntR cls (m + 1) = cntR cls m + if gd cls m = (m : Int) then 1 else 0 := by
  unfold cntR
  rw [List.range_succ, List.filter_append, List.length_append]
  congr 1
  split <;> simp [*]
theorem cntR_mono (cls : List Int) {m : Nat} : ∀ {n : Nat}, m ≤ n → cntR cls m ≤ cntR cls n
  | 0, h => by obtain rfl : m = 0 := by omega
               exact Nat.le_refl _
  | n + 1, h => by
    by_cases e : m = n + 1
    · rw [e]; exact Nat.le_refl _
    · have := cntR_mono cls (m := m) (n := n) (by omega)
      rw [cntR_succ]; omega
theorem cntR_le (cls : List Int) (m : Nat) : cntR cls m ≤ m := by
  have := List.length_filter_le (fun j => decide (gd cls j = (j : Int))) (List.range m)
  simpa [cntR] using this
theorem numR_root {cls : List Int} {i : Nat} (h : gd cls i = (i : Int)) : numR cls i = cntR cls i := by rw [numR, h, Int.toNat_natCast]
theorem numR_at {cls : List Int} (h : Rt cls) {i : Nat} (hi : i < cls.length) : numR cls (gd cls i).toNat = numR cls i := by
  rw [numR, (h i hi).2.2, numR]
theorem numR_lt {cls : List Int} (h : Rt cls) {i m : Nat} (hi : i < cls.length) (hm : i < m) : numR cls i < cntR cls m := by
  obtain ⟨h1, h2, h3⟩ := h i hi
  have h4 := cntR_mono cls (m := (gd cls i).toNat + 1) (n := m) (by omega)
  rw [cntR_succ, if_pos (by rw [h3]; omega)] at h4
  rw [numR]; omega
/-- the lists of a partition by numbers, as far as the first i members go -/
def netsP {α : Type} [Inhabited α] (cls : List Int) (xs : List α) (i : Nat) : List (List α) := (List.range (cntR cls i)).map fun k => ((List.range i).filter fun j => decide (numR cls j = k)).map (gd xs)
theorem netsP_len {α : Type} [Inhabited α] (cls : List Int) (xs : List α) (i : Nat) : (netsP cls xs i).length = cntR cls i := by simp [netsP]
theorem netsP_gd {α : Type} [Inhabited α] {cls : List Int} {xs : List α} {i k : Nat} (h : k < cntR cls i) : gd (netsP cls xs i) k = ((List.range i).filter fun j => decide (numR cls j = k)).map (gd xs) := by
  rw [netsP, gd_map _ (by simpa using h)]
  simp [gd, h]
/-- the lists with room for the list of member i -/
def netsE {α : Type} [Inhabited α] (cls : List Int) (xs : List α) (i : Nat) : List (List α) := if gd cls i = (i : Int) then netsP cls xs i ++ [[]] else netsP cls xs i
theorem netsE_len {α : Type} [Inhabited α] (cls : List Int) (xs : List α) (i : Nat) : (netsE cls xs i).length = cntR cls (i + 1) := by
  unfold netsE; rw [cntR_succ]; split <;> simp [netsP_len, *]
theorem numR_ge {cls : List Int} (h : Rt cls) {i j : Nat} (hi : i < cls.length) (hj : j < i) (hr : gd cls i = (i : Int)) : numR cls j ≠ cntR cls i := by
  have := numR_lt h (i := j) (m := i) (by omega) hj; omega
theorem netsE_gd {α : Type} [Inhabited α] {cls : List Int} (h : Rt cls) {xs : List α} {i k : Nat} (hi : i < cls.length) (hk : k < cntR cls (i + 1)) : gd (netsE cls xs i) k = ((List.range i).filter fun j => decide (numR cls j = k)).map (gd xs) := by
  unfold netsE
  rw [cntR_succ] at hk
  split
  · rename_i e
    rw [if_pos e] at hk
    by_cases c : k < cntR cls i
    · rw [gd_app_l (by rw [netsP_len]; exact c), netsP_gd c]
    · obtain rfl : k = cntR cls i := by omega
      have e1 := gd_app_r (xs := netsP cls xs i) (a := ([] : List α))
      rw [netsP_len] at e1
      rw [e1, List.filter_eq_nil_iff.2, List.map_nil]
      intro j hj
      have := numR_ge h hi (List.mem_range.1 hj) e
      simpa using this
  · rename_i e
    rw [if_neg e] at hk
    exact netsP_gd (by omega)
theorem netsP_succ {α : Type} [Inhabited α] {cls : List Int} (h : Rt cls) {xs : List α} {i : Nat} (hi : i < cls.length) : netsP cls xs (i + 1) = (netsE cls xs i).set (numR cls i) (gd (netsE cls xs i) (numR cls i) ++ [gd xs i]) := by
  have hn := numR_lt h hi (Nat.lt_succ_self i)
  apply List.ext_getElem?
  intro k
  by_cases hk : k < cntR cls (i + 1)
  · rw [getG (by rw [netsP_len]; exact hk), netsP_gd hk, List.getElem?_set]
    by_cases c : numR cls i = k
    · subst c
      rw [if_pos rfl, if_pos (by rw [netsE_len]; exact hk), netsE_gd h hi hk, List.range_succ, List.filter_append, List.map_append]
      simp
    · rw [if_neg c, getG (by rw [netsE_len]; exact hk), netsE_gd h hi hk, List.range_succ, List.filter_append, List.map_append]
      simp [c]
  · rw [List.getElem?_eq_none (by rw [netsP_len]; omega), List.getElem?_eq_none (by rw [List.length_set, netsE_len]; omega)]
theorem filter_or_perm {α : Type} {p q : α → Bool} : ∀ {l : List α}, (∀ x ∈ l, ¬ (p x = true ∧ q x = true)) → (l.filter p ++ l.filter q).Perm (l.filter fun x => p x || q x)
  | [], _ => .refl _
  | x :: l, h => by
    have ih := filter_or_perm (l := l) fun y hy => h y (.tail _ hy)
    have hx := h x (.head _)
    cases hp : p x <;> cases hq : q x
    · simpa [hp, hq] using ih
    · simp only [List.filter_cons, hp, hq]
      simp only [Bool.or_true, if_true, Bool.false_eq_true, if_false]
      exact (List.perm_middle).trans (.cons _ ih)
    · simpa [hp, hq] using ih
    · exact absurd ⟨hp, hq⟩ hx
theorem parts_perm (f : Nat → Nat) (l : List Nat) : ∀ c, ((List.range c).flatMap fun k => l.filter fun j => decide (f j = k)).Perm (l.filter fun j => decide (f j < c))
  | 0 => by simp
  | c + 1 => by
    rw [List.range_succ, List.flatMap_append]
    simp only [List.flatMap_cons, List.flatMap_nil, List.append_nil]
    refine ((parts_perm f l c).append_right _).trans ((filter_or_perm fun x _ h => by simp at h; omega).trans ?_)
    refine .of_eq (List.filter_congr fun x _ => ?_)
    rw [Bool.eq_iff_iff]; simp; omega
/-- the lists of a partition, one after the other, are a permutation of the members -/
theorem netsP_perm {α : Type} [Inhabited α] {cls : List Int} (h : Rt cls) (xs : List α) (hl : cls.length = xs.length) : (netsP cls xs xs.length).flatten.Perm xs := by
  have e : (netsP cls xs xs.length).flatten = (((List.range (cntR cls xs.length)).flatMap fun k => (List.range xs.length).filter fun j => decide (numR cls j = k)).map (gd xs)) := by
    rw [netsP, ← List.flatMap_def, List.map_flatMap]
  rw [e]
  refine ((parts_perm (numR cls) (List.range xs.length) (cntR cls xs.length)).map (gd xs)).trans ?_
  refine .of_eq ?_
  rw [List.filter_eq_self.2 fun j hj => ?_]
  · apply List.ext_getElem?
    intro j
    by_cases hj : j < xs.length
    · rw [getG hj]; simp [hj]
    · rw [List.getElem?_eq_none (by simp; omega), List.getElem?_eq_none (by omega)]
  · have hj := List.mem_range.1 hj
    simpa using numR_lt h (by omega) hj
theorem netsP_map {α β : Type} [Inhabited α] [Inhabited β] (f : α → β) (cls : List Int) (xs : List α) {i : Nat} (hi : i ≤ xs.length) : netsP cls (xs.map f) i = (netsP cls xs i).map (List.map f) := by
  simp only [netsP, List.map_map]
  apply List.map_congr_left
  intro k _
  simp only [Function.comp_apply, List.map_map]
  apply List.map_congr_left
  intro j hj
  have := List.mem_range.1 (List.mem_filter.1 hj).1
  simp only [Function.comp_apply]
  exact gd_map _ (by omega)
noncomputable def JL (l : List (List Rect)) (k i : Nat) : Bool := jnL l (gd (pcL l 4) k) (gd (pcL l 4) i)
noncomputable def clsL (l : List (List Rect)) : List Int := rootsJ (JL l) (pcL l 4).length
theorem clsL_len (l : List (List Rect)) : (clsL l).length = (pcL l 4).length := rootsJ_len _ _
theorem clsL_rt (l : List (List Rect)) : Rt (clsL l) := rt_roots _ _
noncomputable def netN (l : List (List Rect)) : Nat := cntR (clsL l) (pcL l 4).length
noncomputable def netL (l : List (List Rect)) : List (List (Int × List Rect)) := netsP (clsL l) ((pcL l 4).map pcR) (pcL l 4).length
theorem netL_len (l : List (List Rect)) : (netL l).length = netN l := netsP_len _ _ _
end Go.Proofs.YtkiafbneemdajaaGreat
namespace Go.Proofs.YtkiafbneemdajaaGreat
set_option linter.unusedVariables false
set_option linter.unusedSimpArgs false
open Go
set_option maxRecDepth 20000
set_option linter.unusedSimpArgs false
variable {G : Gh} {L : List Ch} {R : Value → Gh → List Ch → Prop}
theorem common_s {a b : Rect} (k : R (vrect (cmn a b)) G L) : CallT Tryz.prog 148 #[vrect a, vrect b] G L R := by
  refine CallT.enter (args := _) Tryz.func148 rfl rfl (by kernel_rfl) rfl ?_
  refine WP.seq ?_
  refine WP.region ?_
  refine RG.ot rfl (OT.box (cs := rectT.enc a) rfl rfl rfl fun b2 => ?_)
  refine RG.ot rfl (OT.box (cs := rectT.enc b) rfl rfl rfl fun b3 => ?_)
  refine RG.ot rfl (OT.alloc rfl Zr79 fun b4 => ?_)
  refine RG.nil ?_
  refine WP.seq ?_
  refine WP.region ?_
  refine RG.pv rfl (PV.field rfl Fo79_0 rfl) ?_
  refine RG.pv rfl (PV.load1 rfl Sc2 rfl (Rd.blk rfl)) ?_
  refine RG.pv rfl (PV.field rfl Fo79_0 rfl) ?_
  refine RG.pv rfl (PV.load1 rfl Sc2 rfl (Rd.blk rfl)) ?_
  refine RG.pv rfl (PV.max2 rfl rfl rfl) ?_
  refine RG.pv rfl (PV.field rfl Fo79_1 rfl) ?_
  refine RG.pv rfl (PV.load1 rfl Sc2 rfl (Rd.blk rfl)) ?_
  refine RG.pv rfl (PV.field rfl Fo79_1 rfl) ?_
  refine RG.pv rfl (PV.load1 rfl Sc2 rfl (Rd.blk rfl)) ?_
  refine RG.pv rfl (PV.max2 rfl rfl rfl) ?_
  refine RG.pv rfl (PV.field rfl Fo79_2 rfl) ?_
  refine RG.pv rfl (PV.load1 rfl Sc2 rfl (Rd.blk rfl)) ?_
  refine RG.pv rfl (PV.field rfl Fo79_2 rfl) ?_
  refine RG.pv rfl (PV.load1 rfl Sc2 rfl (Rd.blk rfl)) ?_
  refine RG.pv rfl (PV.min2 rfl rfl rfl) ?_
  refine RG.pv rfl (PV.field rfl Fo79_3 rfl) ?_
  refine RG.pv rfl (PV.load1 rfl Sc2 rfl (Rd.blk rfl)) ?_
  refine RG.pv rfl (PV.field rfl Fo79_3 rfl) ?_
  refine RG.pv rfl (PV.load1 rfl Sc2 rfl (Rd.blk rfl)) ?_
  refine RG.pv rfl (PV.min2 rfl rfl rfl) ?_
  refine RG.pv rfl (PV.build (vs := [(0, [vi _]), (1, [vi _]), (2, [vi _]), (3, [vi _])]) (out := [_, _, _, _]) rfl Zr79 Pl79 ⟨rfl, (Cl.c rfl), ⟨rfl, (Cl.c rfl), ⟨rfl, (Cl.c rfl), ⟨rfl, (Cl.c rfl), trivial⟩⟩⟩⟩ rfl) ?_
  refine RG.ot rfl (OT.storeW (vs := [vi _, vi _, vi _, vi _]) rfl Sz79 rfl rfl (Cl.c rfl) rfl rfl (OneC.c rfl) ?_)
  refine RG.nil ?_
  refine WP.ret ?_
  exact ⟨_, _, ResV.one rfl (RV1.cell rfl Ag79 rfl), Cv.p, k⟩
theorem ovl_s {a b : Rect} (k : R (.bool (ovl a b)) G L) : CallT Tryz.prog 157 #[vrect a, vrect b] G L R := by
  refine CallT.enter (args := _) Tryz.func157 rfl rfl (by kernel_rfl) rfl ?_
  refine WP.seq ?_
  refine WP.region ?_
  refine RG.ot rfl (OT.box (cs := rectT.enc a) rfl rfl rfl fun b2 => ?_)
  refine RG.ot rfl (OT.box (cs := rectT.enc b) rfl rfl rfl fun b3 => ?_)
  refine RG.pv rfl (PV.mvB (.inr rfl) rfl) ?_
  refine RG.nil ?_
  refine WP.seq ?_
  refine WP.region ?_
  refine RG.pv rfl (PV.loadW rfl Ag79 rfl rfl) ?_
  refine RG.callF (vs := [_]) rfl rfl En136 rfl (validRect_s ?_)
  refine RG.pv rfl (PV.mvB (.inl rfl) rfl) ?_
  refine RG.gs rfl rfl rfl (fun hp => (PV.loadW rfl Ag79 rfl rfl)) ?_
  refine RG.gsC rfl rfl rfl rfl En136 (fun hp => ⟨_, (acons (gs_t hp) anil), validRect_s ⟨rfl, rfl, rfl⟩⟩) ?_
  refine RG.pv rfl (PV.pickA rfl rfl (fun hq => gs_t (geqT hq)) rfl) ?_
  refine RG.pv rfl (PV.mvB (.inl rfl) rfl) ?_
  refine RG.gs rfl rfl rfl (fun hp => (PV.loadW rfl Ag79 rfl rfl)) ?_
  refine RG.gs rfl rfl rfl (fun hp => (PV.loadW rfl Ag79 rfl rfl)) ?_
  refine RG.gsC rfl rfl rfl rfl En148 (fun hp => ⟨_, (acons (gs_t hp) (acons (gs_t hp) anil)), common_s ⟨rfl, rfl, rfl⟩⟩) ?_
  refine RG.gsC rfl rfl rfl rfl En136 (fun hp => ⟨_, (acons (gs_t hp) anil), validRect_s ⟨rfl, rfl, rfl⟩⟩) ?_
  refine RG.pv rfl (PV.pickA rfl rfl (fun hq => gs_t (geqT hq)) rfl) ?_
  refine RG.pv rfl (PV.mvB (.inr rfl) rfl) ?_
  refine RG.nil ?_
  refine WP.ret ?_
  exact ⟨_, _, ResV.one rfl rfl, Cv.p, k⟩
theorem gd_mem {α : Type} [Inhabited α] {xs : List α} {i : Nat} (h : i < xs.length) : gd xs i ∈ xs := by rw [gd_eq h]; exact List.getElem_mem h
theorem any2_false {α : Type} [Inhabited α] {p : α → α → Bool} {xs ys : List α} (h : ∀ i, i < xs.length → ∀ j, j < ys.length → p (gd xs i) (gd ys j) = false) : (xs.any fun x => ys.any fun y => p x y) = false := by
  rw [List.any_eq_false]
  intro x hx
  obtain ⟨i, hi, rfl⟩ := List.getElem_of_mem hx
  rw [Bool.not_eq_true, List.any_eq_false]
  intro y hy
  obtain ⟨j, hj, rfl⟩ := List.getElem_of_mem hy
  have := h i hi j hj
  rw [gd_eq hi, gd_eq hj] at this; simp [this]
theorem any2_true {α : Type} [Inhabited α] {p : α → α → Bool} {xs ys : List α} {i j : Nat} (hi : i < xs.length) (hj : j < ys.length) (h : p (gd xs i) (gd ys j) = true) : (xs.any fun x => ys.any fun y => p x y) = true := by
  simp only [List.any_eq_true]
  exact ⟨gd xs i, gd_mem hi, gd ys j, gd_mem hj, h⟩
theorem row_next {p : Nat → Nat → Bool} {i m : Nat} (h : ∀ a, a < i → ∀ b, b < m → p a b = false) (h2 : ∀ b, b < m → p i b = false) : ∀ a, a < i + 1 → ∀ b, b < m → p a b = false := fun a ha b hb => by
  by_cases e : a = i
  · subst e; exact h2 b hb
  · exact h a (by omega) b hb
theorem col_next {p : Nat → Bool} {j : Nat} (h : ∀ b, b < j → p b = false) (h2 : p j = false) : ∀ b, b < j + 1 → p b = false := fun b hb => by
  by_cases e : b = j
  · subst e; exact h2
  · exact h b (by omega)
theorem meet_s {v u : Value} {xs ys : List Rect} (h1 : Rs G L rectT v xs) (h2 : Rs G L rectT u ys) (k : R (.bool (meetB xs ys)) G L) : CallT Tryz.prog 149 #[v, u] G L R := by
  refine CallT.bd h1 fun hb => ?_
  refine CallT.bd h2 fun hb' => ?_
  refine CallT.enter (args := _) Tryz.func149 rfl rfl (by kernel_rfl) rfl ?_
  refine WP.seq ?_
  refine WP.region ?_
  refine RG.pv rfl (PV.mvB (.inr rfl) rfl) ?_
  refine RG.nil ?_
  refine WP.seq ?_
  refine WP.seq ?_
  refine WP.region ?_
  refine RG.pv rfl (PV.move (v := v) rfl rfl) ?_
  refine RG.pv rfl (PV.len (v := v) rfl Tryz.underlying55 rfl (SlF.r h1)) ?_
  refine RG.pv rfl (PV.mvI (.inl rfl) rfl) ?_
  refine RG.nil ?_
  refine WP.block ?_
  refine WP.loop1 [1, 9, 10] (fun i => i ≤ xs.length ∧ ∀ p, p < i → ∀ q, q < ys.length → ovl (gd xs p) (gd ys q) = false) (fun i => [(11, vi i)]) (fun i => L) (fun i => xs.length - i) 0 ⟨by omega, fun p h => by omega⟩ ⟨rfl, trivial⟩ Cv.p ?_
  rintro i τ ⟨hi, hn⟩
  refine WP.seq ?_
  refine WP.region ?_
  refine RG.pv rfl (PV.lss rfl rfl rfl) ?_
  refine RG.nil ?_
  refine WP.seq ?_
  refine WP.cond rfl (fun h3 => ?_) (fun h3 => ?_)
  · have h3 := of_decide_eq_true h3
    refine WP.skip ?_
    refine WP.seq ?_
    refine WP.block ?_
    refine WP.seq ?_
    refine WP.region ?_
    refine RG.pv rfl (PV.idxS (v := v) rfl Is55 rfl (SlF.r h1) rfl rfl (by omega)) ?_
    refine RG.pv rfl (PV.loadE rfl Ag79 rfl rfl (El.r h1 (getG (by omega)))) ?_
    refine RG.ot rfl (OT.alloc rfl Zr79 fun b6 => ?_)
    refine RG.ot rfl (OT.storeW (vs := [vi _, vi _, vi _, vi _]) rfl Sz79 rfl rfl (Cl.c rfl) rfl rfl (OneC.c rfl) ?_)
    refine RG.nil ?_
    refine WP.seq ?_
    refine WP.region ?_
    refine RG.pv rfl (PV.move (v := u) rfl rfl) ?_
    refine RG.pv rfl (PV.len (v := u) rfl Tryz.underlying55 rfl (SlF.r h2)) ?_
    refine RG.pv rfl (PV.mvI (.inl rfl) rfl) ?_
    refine RG.nil ?_
    refine WP.block ?_
    refine WP.loop1 [1, 6, 9, 10, 11, 15, 16] (fun j => j ≤ ys.length ∧ ∀ q, q < j → ovl (gd xs i) (gd ys q) = false) (fun j => [(17, vi j)]) (fun j => blk b6 79 (rectT.enc (gd xs i)) :: L) (fun j => ys.length - j) 0 ⟨by omega, fun q h => by omega⟩ ⟨rfl, trivial⟩ Cv.p ?_
    rintro j τ1 ⟨hj, hm⟩
    refine WP.seq ?_
    refine WP.region ?_
    refine RG.pv rfl (PV.lss rfl rfl rfl) ?_
    refine RG.nil ?_
    refine WP.seq ?_
    refine WP.cond rfl (fun h4 => ?_) (fun h4 => ?_)
    · have h4 := of_decide_eq_true h4
      refine WP.skip ?_
      refine WP.seq ?_
      refine WP.block ?_
      refine WP.seq ?_
      refine WP.region ?_
      refine RG.pv rfl (PV.idxS (v := u) rfl Is55 rfl (SlF.r h2) rfl rfl (by omega)) ?_
      refine RG.pv rfl (PV.loadE rfl Ag79 rfl rfl (El.r h2 (getG (by omega)))) ?_
      refine RG.ot rfl (OT.alloc rfl Zr79 fun b8 => ?_)
      refine RG.ot rfl (OT.storeW (vs := [vi _, vi _, vi _, vi _]) rfl Sz79 rfl rfl (Cl.c rfl) rfl rfl (OneC.c rfl) ?_)
      refine RG.nil ?_
      refine WP.seq ?_
      refine WP.region ?_
      refine RG.pv rfl (PV.loadW rfl Ag79 rfl rfl) ?_
      refine RG.pv rfl (PV.loadW rfl Ag79 rfl rfl) ?_
      refine RG.callF (vs := [_, _]) rfl rfl En157 rfl (ovl_s ?_)
      refine RG.nil ?_
      refine WP.cond rfl (fun h5 => ?_) (fun h5 => ?_)
      · have e : meetB xs ys = true := any2_true (i := i) (j := j) (by omega) (by omega) h5
        rw [e] at k
        refine WP.seq ?_
        refine WP.region ?_
        refine RG.pv rfl (PV.mvB (.inr rfl) rfl) ?_
        refine RG.nil ?_
        refine WP.ret ?_
        exact ⟨_, _, ResV.one rfl rfl, Cv.p, k⟩
      · refine WP.skip ?_
        refine WP.region ?_
        refine RG.pv rfl (PV.add rfl rfl rfl (by omega)) ?_
        refine RG.pv rfl (PV.mvI (.inl rfl) rfl) ?_
        refine RG.nil ?_
        exact ⟨rfl, j + 1, ⟨by omega, col_next hm h5⟩, ⟨rfl, trivial⟩, ⟨rfl, rfl, rfl, rfl, rfl, rfl, rfl, trivial⟩, Cv.p, by omega⟩
    · have h4 := of_decide_eq_false h4
      obtain rfl : j = ys.length := by omega
      refine WP.exit ?_
      refine WP.region ?_
      refine RG.pv rfl (PV.add rfl rfl rfl (by omega)) ?_
      refine RG.pv rfl (PV.mvI (.inl rfl) rfl) ?_
      refine RG.nil ?_
      exact ⟨rfl, i + 1, ⟨by omega, row_next (p := fun a b => ovl (gd xs a) (gd ys b)) hn hm⟩, ⟨rfl, trivial⟩, ⟨rfl, rfl, rfl, trivial⟩, Cv.p, by omega⟩
  · have h3 := of_decide_eq_false h3
    obtain rfl : i = xs.length := by omega
    have e : meetB xs ys = false := any2_false hn
    rw [e] at k
    refine WP.exit ?_
    refine WP.seq ?_
    refine WP.region ?_
    refine RG.pv rfl (PV.mvB (.inr rfl) rfl) ?_
    refine RG.nil ?_
    refine WP.ret ?_
    exact ⟨_, _, ResV.one rfl rfl, Cv.p, k⟩
theorem meetIn_s {v u w : Value} {xs ys zs : List Rect} (h1 : Rs G L rectT v xs) (h2 : Rs G L rectT u ys) (h3 : Rs G L rectT w zs) (k : R (.bool (meetIn xs ys zs)) G L) : CallT Tryz.prog 140 #[v, u, w] G L R := by
  refine CallT.bd h1 fun hb => ?_
  refine CallT.bd h2 fun hb' => ?_
  refine CallT.enter (args := _) Tryz.func140 rfl rfl (by kernel_rfl) rfl ?_
  refine WP.seq ?_
  refine WP.region ?_
  refine RG.pv rfl (PV.mvB (.inr rfl) rfl) ?_
  refine RG.nil ?_
  refine WP.seq ?_
  refine WP.seq ?_
  refine WP.region ?_
  refine RG.pv rfl (PV.move (v := v) rfl rfl) ?_
  refine RG.pv rfl (PV.len (v := v) rfl Tryz.underlying55 rfl (SlF.r h1)) ?_
  refine RG.pv rfl (PV.mvI (.inl rfl) rfl) ?_
  refine RG.nil ?_
  refine WP.block ?_
  refine WP.loop1 [1, 2, 12, 13] (fun i => i ≤ xs.length ∧ ∀ p, p < i → ∀ q, q < ys.length → (validRect (cmn (gd xs p) (gd ys q)) && meetB [cmn (gd xs p) (gd ys q)] zs) = false) (fun i => [(14, vi i)]) (fun i => L) (fun i => xs.length - i) 0 ⟨by omega, fun p h => by omega⟩ ⟨rfl, trivial⟩ Cv.p ?_
  rintro i τ ⟨hi, hn⟩
  refine WP.seq ?_
  refine WP.region ?_
  refine RG.pv rfl (PV.lss rfl rfl rfl) ?_
  refine RG.nil ?_
  refine WP.seq ?_
  refine WP.cond rfl (fun h4 => ?_) (fun h4 => ?_)
  · have h4 := of_decide_eq_true h4
    refine WP.skip ?_
    refine WP.seq ?_
    refine WP.block ?_
    refine WP.seq ?_
    refine WP.region ?_
    refine RG.pv rfl (PV.idxS (v := v) rfl Is55 rfl (SlF.r h1) rfl rfl (by omega)) ?_
    refine RG.pv rfl (PV.loadE rfl Ag79 rfl rfl (El.r h1 (getG (by omega)))) ?_
    refine RG.ot rfl (OT.alloc rfl Zr79 fun b8 => ?_)
    refine RG.ot rfl (OT.storeW (vs := [vi _, vi _, vi _, vi _]) rfl Sz79 rfl rfl (Cl.c rfl) rfl rfl (OneC.c rfl) ?_)
    refine RG.nil ?_
    refine WP.seq ?_
    refine WP.region ?_
    refine RG.pv rfl (PV.move (v := u) rfl rfl) ?_
    refine RG.pv rfl (PV.len (v := u) rfl Tryz.underlying55 rfl (SlF.r h2)) ?_
    refine RG.pv rfl (PV.mvI (.inl rfl) rfl) ?_
    refine RG.nil ?_
    refine WP.block ?_
    refine WP.loop1 [1, 2, 8, 12, 13, 14, 18, 19] (fun j => j ≤ ys.length ∧ ∀ q, q < j → (validRect (cmn (gd xs i) (gd ys q)) && meetB [cmn (gd xs i) (gd ys q)] zs) = false) (fun j => [(20, vi j)]) (fun j => blk b8 79 (rectT.enc (gd xs i)) :: L) (fun j => ys.length - j) 0 ⟨by omega, fun q h => by omega⟩ ⟨rfl, trivial⟩ Cv.p ?_
    rintro j τ1 ⟨hj, hm⟩
    refine WP.seq ?_
    refine WP.region ?_
    refine RG.pv rfl (PV.lss rfl rfl rfl) ?_
    refine RG.nil ?_
    refine WP.seq ?_
    refine WP.cond rfl (fun h5 => ?_) (fun h5 => ?_)
    · have h5 := of_decide_eq_true h5
      refine WP.skip ?_
      refine WP.seq ?_
      refine WP.block ?_
      refine WP.seq ?_
      refine WP.region ?_
      refine RG.pv rfl (PV.idxS (v := u) rfl Is55 rfl (SlF.r h2) rfl rfl (by omega)) ?_
      refine RG.pv rfl (PV.loadE rfl Ag79 rfl rfl (El.r h2 (getG (by omega)))) ?_
      refine RG.ot rfl (OT.alloc rfl Zr79 fun b10 => ?_)
      refine RG.ot rfl (OT.storeW (vs := [vi _, vi _, vi _, vi _]) rfl Sz79 rfl rfl (Cl.c rfl) rfl rfl (OneC.c rfl) ?_)
      refine RG.nil ?_
      refine WP.seq ?_
      refine WP.region ?_
      refine RG.pv rfl (PV.loadW rfl Ag79 rfl rfl) ?_
      refine RG.pv rfl (PV.loadW rfl Ag79 rfl rfl) ?_
      refine RG.callF (vs := [_, _]) rfl rfl En148 rfl (common_s ?_)
      refine RG.ot rfl (OT.alloc rfl Zr79 fun b11 => ?_)
      refine RG.ot rfl (OT.storeW (vs := [vi _, vi _, vi _, vi _]) rfl Sz79 rfl rfl (Cl.c rfl) rfl rfl (OneC.c rfl) ?_)
      refine RG.nil ?_
      refine WP.seq ?_
      refine WP.region ?_
      refine RG.pv rfl (PV.loadW rfl Ag79 rfl rfl) ?_
      refine RG.callF (vs := [_]) rfl rfl En136 rfl (validRect_s ?_)
      refine RG.pv rfl (PV.mvB (.inl rfl) rfl) ?_
      refine RG.spl (t := 29) rfl (fun h6 => ?_) (fun h6 => ?_)
      · refine RG.take rfl rfl rfl h6 ?_
        refine RG.pv rfl (PV.loadW rfl Ag79 rfl rfl) ?_
        refine RG.take rfl rfl rfl h6 ?_
        refine RG.ot rfl (OT.bslice (F := rectT) (els := [_]) rfl El55 rfl (by decide) rfl (by decide) ⟨rfl, (Cl.c rfl), trivial⟩ fun v31 => ?_)
        refine RG.take rfl rfl rfl h6 ?_
        refine RG.pv rfl (PV.move (v := w) rfl rfl) ?_
        refine RG.take rfl rfl rfl h6 ?_
        refine RG.callF (vs := [v31, w]) rfl rfl En149 rfl (meet_s Rs.o (Rs.up h3) ?_)
        refine RG.pv rfl (PV.pickT rfl rfl h6 rfl) ?_
        refine RG.nil ?_
        refine WP.cond rfl (fun h7 => ?_) (fun h7 => ?_)
        · have e : meetIn xs ys zs = true := any2_true (p := fun x y => validRect (cmn x y) && meetB [cmn x y] zs) (i := i) (j := j) (by omega) (by omega) (by rw [h6]; exact h7)
          rw [e] at k
          refine WP.seq ?_
          refine WP.region ?_
          refine RG.pv rfl (PV.mvB (.inr rfl) rfl) ?_
          refine RG.nil ?_
          refine WP.ret ?_
          exact ⟨_, _, ResV.one rfl rfl, Cv.p, k⟩
        · refine WP.skip ?_
          refine WP.region ?_
          refine RG.pv rfl (PV.add rfl rfl rfl (by omega)) ?_
          refine RG.pv rfl (PV.mvI (.inl rfl) rfl) ?_
          refine RG.nil ?_
          exact ⟨rfl, j + 1, ⟨by omega, col_next hm (by rw [h6]; exact h7)⟩, ⟨rfl, trivial⟩, ⟨rfl, rfl, rfl, rfl, rfl, rfl, rfl, rfl, trivial⟩, Cv.p, by omega⟩
      · refine RG.skip rfl rfl rfl (gne h6) ?_
        refine RG.skip rfl rfl rfl (gne h6) ?_
        refine RG.skip rfl rfl rfl (gne h6) ?_
        refine RG.skip rfl rfl rfl (gne h6) ?_
        refine RG.pv rfl (PV.pickE rfl rfl h6 rfl) ?_
        refine RG.nil ?_
        refine WP.cond rfl (fun h7 => ?_) (fun h7 => ?_)
        · cases h7
        · refine WP.skip ?_
          refine WP.region ?_
          refine RG.pv rfl (PV.add rfl rfl rfl (by omega)) ?_
          refine RG.pv rfl (PV.mvI (.inl rfl) rfl) ?_
          refine RG.nil ?_
          exact ⟨rfl, j + 1, ⟨by omega, col_next hm (by rw [h6]; rfl)⟩, ⟨rfl, trivial⟩, ⟨rfl, rfl, rfl, rfl, rfl, rfl, rfl, rfl, trivial⟩, Cv.p, by omega⟩
    · have h5 := of_decide_eq_false h5
      obtain rfl : j = ys.length := by omega
      refine WP.exit ?_
      refine WP.region ?_
      refine RG.pv rfl (PV.add rfl rfl rfl (by omega)) ?_
      refine RG.pv rfl (PV.mvI (.inl rfl) rfl) ?_
      refine RG.nil ?_
      exact ⟨rfl, i + 1, ⟨by omega, row_next (p := fun a b => validRect (cmn (gd xs a) (gd ys b)) && meetB [cmn (gd xs a) (gd ys b)] zs) hn hm⟩, ⟨rfl, trivial⟩, ⟨rfl, rfl, rfl, rfl, trivial⟩, Cv.p, by omega⟩
  · have h4 := of_decide_eq_false h4
    obtain rfl : i = xs.length := by omega
    have e : meetIn xs ys zs = false := any2_false (p := fun x y => validRect (cmn x y) && meetB [cmn x y] zs) hn
    rw [e] at k
    refine WP.exit ?_
    refine WP.seq ?_
    refine WP.region ?_
    refine RG.pv rfl (PV.mvB (.inr rfl) rfl) ?_
    refine RG.nil ?_
    refine WP.ret ?_
    exact ⟨_, _, ResV.one rfl rfl, Cv.p, k⟩
end Go.Proofs.YtkiafbneemdajaaGreat
namespace Go.Proofs.YtkiafbneemdajaaGreat
set_option linter.unusedVariables false
set_option linter.unusedSimpArgs false
open Go
set_option maxRecDepth 20000
set_option linter.unusedSimpArgs false
variable {G : Gh} {L : List Ch} {R : Value → Gh → List Ch → Prop}
theorem rng_any {p : Nat → Bool} {n i : Nat} (h : i < n) (hp : p i = true) : (List.range n).any p = true := List.any_eq_true.2 ⟨i, List.mem_range.2 h, hp⟩
theorem rng_none {p : Nat → Bool} {n : Nat} (h : ∀ i, i < n → p i = false) : (List.range n).any p = false := List.any_eq_false.2 fun i hi => by simp [h i (List.mem_range.1 hi)]
def jnN (p q : Int × List Bool) (C V : List Bool) (n : Nat) : Bool := gd p.2 n && gd q.2 n && (gd C n && (decide (p.1 = 3) || decide (q.1 = 3)) && !(decide (p.1 = 5) || decide (q.1 = 5)) || gd V n && (decide (p.1 = 3) || decide (q.1 = 3)) && (decide (p.1 = 5) || decide (q.1 = 5)))
theorem jnR_N (p q : Int × List Bool) (C V : List Bool) : jnR p q C V = (List.range 6400).any (jnN p q C V) := rfl
theorem jnN_er (p q : Part) (C V : List Bool) (n : Nat) : jnN (erC p) (erC q) C V n = (gd p.cells.xs n && gd q.cells.xs n && (gd C n && (decide (p.layer = 3) || decide (q.layer = 3)) && !(decide (p.layer = 5) || decide (q.layer = 5)) || gd V n && (decide (p.layer = 3) || decide (q.layer = 3)) && (decide (p.layer = 5) || decide (q.layer = 5)))) := rfl
theorem l23Joined_s {p q : Part} {vc vv : Value} {C V : List Bool} (hp : Rs G L boolT p.cells.v p.cells.xs) (hq : Rs G L boolT q.cells.v q.cells.xs) (h1 : Rs G L boolT vc C) (h2 : Rs G L boolT vv V) (hpl : p.cells.xs.length = 6400) (hql : q.cells.xs.length = 6400) (hC : C.length = 6400) (hV : V.length = 6400)
    (k : R (.bool (jnR (erC p) (erC q) C V)) G L) : CallT Tryz.prog 61 #[vT partT p, vT partT q, vc, vv] G L R := by
  rw [jnR_N] at k
  refine CallT.enter (args := _) Tryz.func61 rfl rfl (by kernel_rfl) rfl ?_
  refine WP.seq ?_
  refine WP.region ?_
  refine RG.ot rfl (OT.box (cs := partT.enc p) rfl rfl rfl fun b4 => ?_)
  refine RG.ot rfl (OT.box (cs := partT.enc q) rfl rfl rfl fun b5 => ?_)
  refine RG.pv rfl (PV.mvB (.inr rfl) rfl) ?_
  refine RG.nil ?_
  refine WP.seq ?_
  refine WP.seq ?_
  refine WP.region ?_
  refine RG.pv rfl (PV.mvI (.inr rfl) rfl) ?_
  refine RG.nil ?_
  refine WP.block ?_
  refine WP.loop1 [2, 3, 4, 5] (fun i => i ≤ 6400 ∧ ∀ j, j < i → jnN (erC p) (erC q) C V j = false) (fun i => [(9, vi i)]) (fun i => blk b4 102 (partT.enc p) :: blk b5 102 (partT.enc q) :: L) (fun i => 6400 - i) 0 ⟨by omega, fun j h => by omega⟩ ⟨rfl, trivial⟩ Cv.p ?_
  rintro i τ ⟨hi, hn⟩
  refine WP.seq ?_
  refine WP.seq ?_
  refine WP.region ?_
  refine RG.pv rfl (PV.mvI (.inl rfl) rfl) ?_
  refine RG.pv rfl (PV.move (v := vc) rfl rfl) ?_
  refine RG.pv rfl (PV.len (v := vc) rfl Tryz.underlying99 rfl (SlF.r h1)) ?_
  refine RG.pv rfl (PV.lss rfl rfl rfl) ?_
  refine RG.nil ?_
  refine WP.cond rfl (fun h3 => ?_) (fun h3 => ?_)
  · have h3 := of_decide_eq_true h3
    have h4 : i < 6400 := by omega
    refine WP.skip ?_
    refine WP.seq ?_
    refine WP.block ?_
    refine WP.seq ?_
    refine WP.seq ?_
    refine WP.region ?_
    refine RG.pv rfl (PV.field rfl Fo102_1 rfl) ?_
    refine RG.pv rfl (PV.load1 rfl Sc99 rfl (Rd.blk rfl)) ?_
    refine RG.pv rfl (PV.mvI (.inl rfl) rfl) ?_
    refine RG.pv rfl (PV.idxS rfl Is99 rfl (SlF.r hp) rfl rfl (by omega)) ?_
    refine RG.pv rfl (PV.loadE1 rfl Sc4 rfl rfl (El.r hp (getG (by omega))) rfl) ?_
    refine RG.pv rfl (PV.not rfl rfl) ?_
    refine RG.pv rfl (PV.mvB (.inl rfl) rfl) ?_
    refine RG.gs rfl rfl rfl (fun hp => (PV.field rfl Fo102_1 rfl)) ?_
    refine RG.gs rfl rfl rfl (fun hp => (PV.load1 rfl Sc99 (gs_t hp) (Rd.blk rfl))) ?_
    refine RG.gs rfl rfl rfl (fun hp => (PV.mvI (.inl rfl) rfl)) ?_
    refine RG.gs rfl rfl rfl (fun hp => (PV.idxS rfl Is99 (gs_t hp) (SlF.r hq) (gs_t hp) rfl (by first | omega | (simp at hp; omega)))) ?_
    refine RG.gs rfl rfl rfl (fun hp => (PV.loadE1 rfl Sc4 (gs_t hp) rfl (El.r hq (getG (by first | omega | (simp at hp; omega)))) rfl)) ?_
    refine RG.gs rfl rfl rfl (fun hp => (PV.not rfl (gs_t hp))) ?_
    refine RG.pv rfl (PV.pickO rfl rfl rfl (fun hq => gs_t (geqF hq))) ?_
    refine RG.nil ?_
    refine WP.cond rfl (fun h5 => ?_) (fun h5 => ?_)
    · refine WP.exit ?_
      refine WP.region ?_
      refine RG.pv rfl (PV.mvI (.inl rfl) rfl) ?_
      refine RG.pv rfl (PV.add rfl rfl rfl (by omega)) ?_
      refine RG.pv rfl (PV.mvI (.inr rfl) rfl) ?_
      refine RG.nil ?_
      refine ⟨rfl, i + 1, ⟨by omega, col_next hn ?_⟩, ⟨rfl, trivial⟩, ⟨rfl, rfl, rfl, rfl, trivial⟩, Cv.p, by omega⟩
      rw [jnN_er]; revert h5; cases gd p.cells.xs i <;> cases gd q.cells.xs i <;> simp
    · refine WP.skip ?_
      refine WP.seq ?_
      refine WP.region ?_
      refine RG.pv rfl (PV.field rfl Fo102_0 rfl) ?_
      refine RG.pv rfl (PV.load1 rfl Sc2 rfl (Rd.blk rfl)) ?_
      refine RG.pv rfl (PV.eql rfl rfl rfl) ?_
      refine RG.pv rfl (PV.mvB (.inl rfl) rfl) ?_
      refine RG.gs rfl rfl rfl (fun hp => (PV.field rfl Fo102_0 rfl)) ?_
      refine RG.gs rfl rfl rfl (fun hp => (PV.load1 rfl Sc2 (gs_t hp) (Rd.blk rfl))) ?_
      refine RG.gs rfl rfl rfl (fun hp => (PV.eql rfl (gs_t hp) rfl)) ?_
      refine RG.pv rfl (PV.pickO rfl rfl rfl (fun hq => gs_t (geqF hq))) ?_
      refine RG.pv rfl (PV.mvB (.inr rfl) rfl) ?_
      refine RG.nil ?_
      refine WP.seq ?_
      refine WP.region ?_
      refine RG.pv rfl (PV.field rfl Fo102_0 rfl) ?_
      refine RG.pv rfl (PV.load1 rfl Sc2 rfl (Rd.blk rfl)) ?_
      refine RG.pv rfl (PV.eql rfl rfl rfl) ?_
      refine RG.pv rfl (PV.mvB (.inl rfl) rfl) ?_
      refine RG.gs rfl rfl rfl (fun hp => (PV.field rfl Fo102_0 rfl)) ?_
      refine RG.gs rfl rfl rfl (fun hp => (PV.load1 rfl Sc2 (gs_t hp) (Rd.blk rfl))) ?_
      refine RG.gs rfl rfl rfl (fun hp => (PV.eql rfl (gs_t hp) rfl)) ?_
      refine RG.pv rfl (PV.pickO rfl rfl rfl (fun hq => gs_t (geqF hq))) ?_
      refine RG.pv rfl (PV.mvB (.inr rfl) rfl) ?_
      refine RG.nil ?_
      refine WP.seq ?_
      refine WP.region ?_
      refine RG.pv rfl (PV.move (v := vc) rfl rfl) ?_
      refine RG.pv rfl (PV.mvI (.inl rfl) rfl) ?_
      refine RG.pv rfl (PV.idxS (v := vc) rfl Is99 rfl (SlF.r h1) rfl rfl (by omega)) ?_
      refine RG.pv rfl (PV.loadE1 rfl Sc4 rfl rfl (El.r h1 (getG (by omega))) rfl) ?_
      refine RG.pv rfl (PV.mvB (.inl rfl) rfl) ?_
      refine RG.gs rfl rfl rfl (fun hp => (PV.mvB (.inl rfl) rfl)) ?_
      refine RG.pv rfl (PV.pickA rfl rfl (fun hq => gs_t (geqT hq)) rfl) ?_
      refine RG.pv rfl (PV.mvB (.inl rfl) rfl) ?_
      refine RG.gs rfl rfl rfl (fun hp => (PV.mvB (.inl rfl) rfl)) ?_
      refine RG.gs rfl rfl rfl (fun hp => (PV.not rfl (gs_t hp))) ?_
      refine RG.pv rfl (PV.pickA rfl rfl (fun hq => gs_t (geqT hq)) rfl) ?_
      refine RG.pv rfl (PV.mvB (.inl rfl) rfl) ?_
      refine RG.gs rfl rfl rfl (fun hp => (PV.move (v := vv) rfl rfl)) ?_
      refine RG.gs rfl rfl rfl (fun hp => (PV.mvI (.inl rfl) rfl)) ?_
      refine RG.gs rfl rfl rfl (fun hp => (PV.idxS (v := vv) rfl Is99 (gs_t hp) (SlF.r h2) (gs_t hp) rfl (by first | omega | (simp at hp; omega)))) ?_
      refine RG.gs rfl rfl rfl (fun hp => (PV.loadE1 rfl Sc4 (gs_t hp) rfl (El.r h2 (getG (by first | omega | (simp at hp; omega)))) rfl)) ?_
      refine RG.gs rfl rfl rfl (fun hp => (PV.mvB (.inl rfl) (gs_t hp))) ?_
      refine RG.gs2 rfl rfl rfl (fun hp => (PV.mvB (.inl rfl) rfl)) ?_
      refine RG.gs rfl rfl rfl (fun hp => (PV.pickA rfl (gs_t hp) (fun hq => gs_t (gandT hp hq)) rfl)) ?_
      refine RG.gs rfl rfl rfl (fun hp => (PV.mvB (.inl rfl) (gs_t hp))) ?_
      refine RG.gs2 rfl rfl rfl (fun hp => (PV.mvB (.inl rfl) rfl)) ?_
      refine RG.gs rfl rfl rfl (fun hp => (PV.pickA rfl (gs_t hp) (fun hq => gs_t (gandT hp hq)) rfl)) ?_
      refine RG.pv rfl (PV.pickO rfl rfl rfl (fun hq => gs_t (geqF hq))) ?_
      refine RG.nil ?_
      refine WP.cond rfl (fun h6 => ?_) (fun h6 => ?_)
      · rw [rng_any h4 (by rw [jnN_er]; revert h5 h6; cases gd p.cells.xs i <;> cases gd q.cells.xs i <;> simp)] at k
        refine WP.seq ?_
        refine WP.region ?_
        refine RG.pv rfl (PV.mvB (.inr rfl) rfl) ?_
        refine RG.nil ?_
        refine WP.ret ?_
        exact ⟨_, _, ResV.one rfl rfl, Cv.p, k⟩
      · refine WP.skip ?_
        refine WP.region ?_
        refine RG.pv rfl (PV.mvI (.inl rfl) rfl) ?_
        refine RG.pv rfl (PV.add rfl rfl rfl (by omega)) ?_
        refine RG.pv rfl (PV.mvI (.inr rfl) rfl) ?_
        refine RG.nil ?_
        refine ⟨rfl, i + 1, ⟨by omega, col_next hn ?_⟩, ⟨rfl, trivial⟩, ⟨rfl, rfl, rfl, rfl, trivial⟩, Cv.p, by omega⟩
        rw [jnN_er]; revert h5 h6; cases gd p.cells.xs i <;> cases gd q.cells.xs i <;> simp
  · have h3 := of_decide_eq_false h3
    rw [rng_none fun j hj => hn j (by omega)] at k
    refine WP.exit ?_
    refine WP.seq ?_
    refine WP.region ?_
    refine RG.pv rfl (PV.mvB (.inr rfl) rfl) ?_
    refine RG.nil ?_
    refine WP.ret ?_
    exact ⟨_, _, ResV.one rfl rfl, Cv.p, k⟩
theorem inJ_vals {J : Nat → Nat → Bool} {i k : Nat} (hk : k ≤ i) : Rt (inJ J i (rootsJ J i) k) := by
  have := (rt_roots J i).inJ (J := J) k (by rw [rootsJ_len]; exact hk)
  rwa [rootsJ_len] at this
theorem inJ_le {J : Nat → Nat → Bool} {i k j : Nat} (hk : k ≤ i) (hj : j ≤ i) : 0 ≤ gd (inJ J i (rootsJ J i) k) j ∧ gd (inJ J i (rootsJ J i) k) j ≤ j := by
  have := inJ_vals (J := J) hk j (by rw [inJ_len, rootsJ_len]; omega)
  exact ⟨this.1, this.2.1⟩
theorem stepJ_same {J : Nat → Nat → Bool} {i k : Nat} {c : List Int} (h : gd c k = gd c i ∨ J k i = false) : stepJ J i c k = c := by rw [stepJ, if_pos h]
theorem stepJ_map {J : Nat → Nat → Bool} {i k : Nat} {c : List Int} (h : ¬ (gd c k = gd c i ∨ J k i = false)) : stepJ J i c k = c.map (rl (min (gd c k) (gd c i)) (max (gd c k) (gd c i))) := by rw [stepJ, if_neg h]
theorem pcL_gd_len {l : List (List Rect)} {i : Nat} (h : i < (pcL l 4).length) : (gd (pcL l 4) i).2.length = 6400 := pcL_mem (n := 4) (l := l) (by rw [gd_eq h]; exact List.getElem_mem h)
theorem pcL_gd_isL {l : List (List Rect)} {i : Nat} (h : i < (pcL l 4).length) : isL (gd (pcL l 4) i).1 := pcL_isL (by rw [gd_eq h]; exact List.getElem_mem h)
theorem l23Roots_s {v u : Value} {xs : List (Sl Rect)} {cs : List Part} (h1 : Rs G L partT u cs) (hcd : RsE G L boolT (cels cs)) (h2 : Rs G L slT v xs) (hd : RsE G L rectT xs) (hlay : isLay (er xs) = true) (hcs : cs.map erC = pcL (er xs) 4) (k : ∀ v', R v' G (osl 2 intT v' (clsL (er xs)) :: L)) : CallT Tryz.prog 42 #[u, v] G L R := by
  have h8 : xs.length = 8 := by have := isLay_len hlay; rwa [er_len] at this
  have hreg : ∀ i, i < 8 → isReg (gd xs i).xs = true := fun i hi => by rw [← er_gd]; exact isLay_reg hlay hi
  have hcl : cs.length = (pcL (er xs) 4).length := by rw [← hcs, List.length_map]
  have hpl := pcL_len (er xs) 4
  have hce : ∀ i, i < cs.length → erC (gd cs i) = gd (pcL (er xs) 4) i := fun i hi => by rw [← hcs, gd_map _ hi]
  have hc6 : ∀ i, i < cs.length → (gd cs i).cells.xs.length = 6400 := fun i hi => by
    have := pcL_gd_len (l := er xs) (i := i) (by omega)
    rw [← hce i hi] at this; exact this
  have hcr : ∀ i, i < cs.length → Rs G L boolT (gd cs i).cells.v (gd cs i).cells.xs := fun i hi => by
    have := hcd i (by rw [cels_len]; exact hi); rwa [cels_gd hi] at this
  refine CallT.enter (args := _) Tryz.func42 rfl rfl (by kernel_rfl) rfl ?_
  refine WP.seq ?_
  refine WP.region ?_
  refine RG.pv rfl (PV.asg rfl rfl) ?_
  refine RG.nil ?_
  refine WP.seq ?_
  refine WP.regionH0 (.q 0 (.q 1 (.q 2 (.q 4 (.q 5 (.q 6 (.l 3 (.l 7 (.q 8 (.q 9 Sch.nil)))))))))) (by kernel_rfl) (by kernel_rfl) (by kernel_rfl) rfl ?_
  refine RH.pv rfl (fun _ _ _ _ h => h) (Gh.le_refl _) PickC.pick rfl (PV.move (v := v) rfl rfl) ?_
  refine RH.pv rfl (fun _ _ _ _ h => h) (Gh.le_refl _) PickC.pick rfl (PV.idxS (j := 2) (v := v) rfl Is28 rfl (SlF.r h2) rfl (by omega) (by omega)) ?_
  refine RH.pv rfl (fun _ _ _ _ h => h) (Gh.le_refl _) PickC.pick rfl (PV.loadE1 rfl Sc55 rfl rfl (El.r h2 (getG (by omega))) rfl) ?_
  refine RH.pv rfl (fun _ _ _ _ h => h) (Gh.le_refl _) PickC.pick rfl (PV.move (v := v) rfl rfl) ?_
  refine RH.pv rfl (fun _ _ _ _ h => h) (Gh.le_refl _) PickC.pick rfl (PV.idxS (j := 4) (v := v) rfl Is28 rfl (SlF.r h2) rfl (by omega) (by omega)) ?_
  refine RH.pv rfl (fun _ _ _ _ h => h) (Gh.le_refl _) PickC.pick rfl (PV.loadE1 rfl Sc55 rfl rfl (El.r h2 (getG (by omega))) rfl) ?_
  refine RH.ot rfl rfl (OT.callF (vs := [_]) rfl En60 rfl (l03Bits_s (Rs.up (hd _ (by omega))) (fun i hi => valid_get (isReg_valid (hreg _ (by omega))) hi) (fun v16 => ⟨Gh.le_refl _, PickC.pick, ?_⟩)))
  refine RH.ot rfl rfl (OT.callF (vs := [_]) rfl En60 rfl (l03Bits_s (Rs.up (hd _ (by omega))) (fun i hi => valid_get (isReg_valid (hreg _ (by omega))) hi) (fun v20 => ⟨Gh.le_refl _, PickC.pick, ?_⟩)))
  refine RH.pv rfl (fun _ _ _ _ h => h) (Gh.le_refl _) PickC.pick rfl (PV.asg (v := v16) rfl rfl) ?_
  refine RH.pv rfl (fun _ _ _ _ h => h) (Gh.le_refl _) PickC.pick rfl (PV.asg (v := v20) rfl rfl) ?_
  refine RH.nil ?_
  refine WP.seq ?_
  refine WP.region ?_
  refine RG.ot rfl (OT.bslice (F := intT) (els := []) rfl El26 rfl (by decide) rfl (by decide) trivial fun v21 => ?_)
  refine RG.pv rfl (PV.asg (v := v21) rfl rfl) ?_
  refine RG.nil ?_
  refine WP.seq ?_
  refine WP.seq ?_
  refine WP.region ?_
  refine RG.pv rfl (PV.mvI (.inr rfl) rfl) ?_
  refine RG.nil ?_
  refine WP.block ?_
  refine WP.cv (Cv.p (C := osl 2 intT v21 ([] : List Int) :: osl 4 boolT v16 (bits (gd xs 2).xs) :: osl 4 boolT v20 (bits (gd xs 4).xs) :: L)) ?_
  refine WP.cv (Cv.eqS (show [] = rootsJ (JL (er xs)) 0 from rfl)) ?_
  refine WP.loop2 [0, 5, 6] (fun (i : Nat) (q : Value) => i ≤ cs.length) (fun (i : Nat) (q : Value) => [(8, vi i), (7, q)]) (fun (i : Nat) (q : Value) => osl 2 intT q (rootsJ (JL (er xs)) i) :: osl 4 boolT v16 (bits (gd xs 2).xs) :: osl 4 boolT v20 (bits (gd xs 4).xs) :: L) (fun (i : Nat) (q : Value) => cs.length - i) 0 v21 (by omega) ⟨rfl, rfl, trivial⟩ Cv.p ?_
  rintro i q τ hi
  refine WP.seq ?_
  refine WP.seq ?_
  refine WP.region ?_
  refine RG.pv rfl (PV.mvI (.inl rfl) rfl) ?_
  refine RG.pv rfl (PV.move (v := u) rfl rfl) ?_
  refine RG.pv rfl (PV.len (v := u) rfl Tryz.underlying73 rfl (SlF.r h1)) ?_
  refine RG.pv rfl (PV.lss rfl rfl rfl) ?_
  refine RG.nil ?_
  have hrl := rootsJ_len (JL (er xs)) i
  refine WP.cond rfl (fun h3 => ?_) (fun h3 => ?_)
  · have h3 := of_decide_eq_true h3
    have h4 : i < cs.length := by omega
    refine WP.skip ?_
    refine WP.seq ?_
    refine WP.block ?_
    refine WP.seq ?_
    refine WP.region ?_
    refine RG.pv rfl (PV.move (v := q) rfl rfl) ?_
    refine RG.pv rfl (PV.mvI (.inl rfl) rfl) ?_
    refine RG.ot rfl (OT.bslice (F := intT) (els := [_]) rfl El26 rfl (by decide) rfl (by decide) ⟨rfl, (Cl.c rfl), trivial⟩ fun v30 => ?_)
    refine RG.ot rfl (OT.append (v := q) (u := v30) (F := intT) rfl El26 rfl (by decide) rfl rfl Rs.o (OneL.c (fun _ => rfl)) rfl (by first | omega | (simp <;> omega)) fun v31 => ?_)
    refine RG.pv rfl (PV.asg (v := v31) rfl rfl) ?_
    refine RG.nil ?_
    refine WP.seq ?_
    refine WP.region ?_
    refine RG.pv rfl (PV.mvI (.inr rfl) rfl) ?_
    refine RG.nil ?_
    refine WP.block ?_
    refine WP.cv (Cv.eqS (inJ_zero (JL (er xs)) i (rootsJ (JL (er xs)) i)).symm) ?_
    refine WP.loop1 [0, 5, 6, 7, 8] (fun n => n ≤ i) (fun n => [(9, vi n)]) (fun n => osl 2 intT v31 (inJ (JL (er xs)) i (rootsJ (JL (er xs)) i) n) :: osl 4 boolT v16 (bits (gd xs 2).xs) :: osl 4 boolT v20 (bits (gd xs 4).xs) :: L) (fun n => i - n) 0 (by omega) ⟨rfl, trivial⟩ Cv.p ?_
    rintro n τ1 hn
    refine WP.seq ?_
    refine WP.seq ?_
    refine WP.region ?_
    refine RG.pv rfl (PV.mvI (.inl rfl) rfl) ?_
    refine RG.pv rfl (PV.mvI (.inl rfl) rfl) ?_
    refine RG.pv rfl (PV.lss rfl rfl rfl) ?_
    refine RG.nil ?_
    have hil := inJ_len (JL (er xs)) i (rootsJ (JL (er xs)) i) n
    have hil2 : (inJ (JL (er xs)) i (rootsJ (JL (er xs)) i) n).length = i + 1 := by omega
    have hin := fun j hj => inJ_le (J := JL (er xs)) (i := i) (k := n) (j := j) hn hj
    have hJe : ∀ n, n < cs.length → JL (er xs) n i = (!decide ((gd cs n).layer = (gd cs i).layer) && jnR (erC (gd cs n)) (erC (gd cs i)) (bits (gd xs 2).xs) (bits (gd xs 4).xs)) := fun n h => by
      rw [JL, jnL, ← hce n h, ← hce i h4, er_gd, er_gd]; rfl
    have hsc := inJ_succ (JL (er xs)) i (rootsJ (JL (er xs)) i) n
    generalize hceq : inJ (JL (er xs)) i (rootsJ (JL (er xs)) i) n = c at *
    refine WP.cond rfl (fun h5 => ?_) (fun h5 => ?_)
    · have h5 := of_decide_eq_true h5
      have h6 : n < i := by omega
      refine WP.skip ?_
      refine WP.seq ?_
      refine WP.block ?_
      refine WP.seq ?_
      refine WP.seq ?_
      refine WP.regionQ (by kernel_rfl) (by kernel_rfl) ?_
      refine RQ.pv rfl (PV.move (v := u) rfl rfl) ?_
      refine RQ.pv rfl (PV.mvI (.inl rfl) rfl) ?_
      refine RQ.pv rfl (PV.idxS (v := u) rfl Is73 rfl (SlF.r h1) rfl rfl (by omega)) ?_
      refine RQ.pv rfl (PV.field rfl Fo102_0 rfl) ?_
      refine RQ.pv rfl (PV.loadF rfl Sc2 rfl rfl (El.r h1 (getG (by omega))) rfl) ?_
      refine RQ.pv rfl (PV.move (v := u) rfl rfl) ?_
      refine RQ.pv rfl (PV.mvI (.inl rfl) rfl) ?_
      refine RQ.pv rfl (PV.idxS (v := u) rfl Is73 rfl (SlF.r h1) rfl rfl (by omega)) ?_
      refine RQ.pv rfl (PV.field rfl Fo102_0 rfl) ?_
      refine RQ.pv rfl (PV.loadF rfl Sc2 rfl rfl (El.r h1 (getG (by omega))) rfl) ?_
      refine RQ.pv rfl (PV.eql rfl rfl rfl) ?_
      refine RQ.pv rfl (PV.mvB (.inl rfl) rfl) ?_
      refine RQ.gs rfl rfl rfl (fun hp => (PV.move (v := v31) rfl rfl)) ?_
      refine RQ.gs rfl rfl rfl (fun hp => (PV.mvI (.inl rfl) rfl)) ?_
      refine RQ.gs rfl rfl rfl (fun hp => (PV.idxS (v := v31) rfl Is26 (gs_t hp) SlF.o (gs_t hp) rfl (by first | omega | (simp at hp; omega)))) ?_
      refine RQ.gs rfl rfl rfl (fun hp => (PV.loadE1 rfl Sc2 (gs_t hp) rfl (El.o (getG (by first | omega | (simp at hp; omega)))) rfl)) ?_
      refine RQ.gs rfl rfl rfl (fun hp => (PV.move (v := v31) rfl rfl)) ?_
      refine RQ.gs rfl rfl rfl (fun hp => (PV.mvI (.inl rfl) rfl)) ?_
      refine RQ.gs rfl rfl rfl (fun hp => (PV.idxS (v := v31) rfl Is26 (gs_t hp) SlF.o (gs_t hp) rfl (by first | omega | (simp at hp; omega)))) ?_
      refine RQ.gs rfl rfl rfl (fun hp => (PV.loadE1 rfl Sc2 (gs_t hp) rfl (El.o (getG (by first | omega | (simp at hp; omega)))) rfl)) ?_
      refine RQ.gs rfl rfl rfl (fun hp => (PV.eql rfl (gs_t hp) (gs_t hp))) ?_
      refine RQ.pv rfl (PV.pickO rfl rfl rfl (fun hq => gs_t (geqF hq))) ?_
      refine RQ.pv rfl (PV.mvB (.inl rfl) rfl) ?_
      refine RQ.gs rfl rfl rfl (fun hp => (PV.move (v := u) rfl rfl)) ?_
      refine RQ.gs rfl rfl rfl (fun hp => (PV.mvI (.inl rfl) rfl)) ?_
      refine RQ.gs rfl rfl rfl (fun hp => (PV.idxS (v := u) rfl Is73 (gs_t hp) (SlF.r h1) (gs_t hp) rfl (by first | omega | (simp at hp; omega)))) ?_
      refine RQ.gs rfl rfl rfl (fun hp => (PV.loadE rfl Ag102 (gs_t hp) rfl (El.r h1 (getG (by first | omega | (simp at hp; omega)))))) ?_
      refine RQ.gs rfl rfl rfl (fun hp => (PV.move (v := u) rfl rfl)) ?_
      refine RQ.gs rfl rfl rfl (fun hp => (PV.mvI (.inl rfl) rfl)) ?_
      refine RQ.gs rfl rfl rfl (fun hp => (PV.idxS (v := u) rfl Is73 (gs_t hp) (SlF.r h1) (gs_t hp) rfl (by first | omega | (simp at hp; omega)))) ?_
      refine RQ.gs rfl rfl rfl (fun hp => (PV.loadE rfl Ag102 (gs_t hp) rfl (El.r h1 (getG (by first | omega | (simp at hp; omega)))))) ?_
      refine RQ.gs rfl rfl rfl (fun hp => (PV.move (v := v16) rfl rfl)) ?_
      refine RQ.gs rfl rfl rfl (fun hp => (PV.move (v := v20) rfl rfl)) ?_
      refine RQ.gsC rfl rfl rfl rfl En61 (fun hp => ⟨_, (acons (gs_t hp) (acons (gs_t hp) (acons (gs_t hp) (acons (gs_t hp) anil)))), l23Joined_s (hcr n (by omega)).up (hcr i (by omega)).up Rs.o Rs.o (hc6 n (by omega)) (hc6 i (by omega)) (bits_length _) (bits_length _) ⟨rfl, rfl, rfl⟩⟩) ?_
      refine RQ.gs rfl rfl rfl (fun hp => (PV.not rfl (gs_t hp))) ?_
      refine RQ.pv rfl (PV.pickO rfl rfl rfl (fun hq => gs_t (geqF hq))) ?_
      refine RQ.nil ?_
      refine WP.cond rfl (fun h7 => ?_) (fun h7 => ?_)
      · have hs : gd c n = gd c i ∨ JL (er xs) n i = false := by
          rw [hJe n (by omega)]; revert h7
          cases decide ((gd cs n).layer = (gd cs i).layer) <;> cases jnR (erC (gd cs n)) (erC (gd cs i)) (bits (gd xs 2).xs) (bits (gd xs 4).xs) <;> simp
        refine WP.exit ?_
        refine WP.region ?_
        refine RG.pv rfl (PV.mvI (.inl rfl) rfl) ?_
        refine RG.pv rfl (PV.add rfl rfl rfl (by omega)) ?_
        refine RG.pv rfl (PV.mvI (.inr rfl) rfl) ?_
        refine RG.nil ?_
        exact ⟨rfl, n + 1, (by omega), ⟨rfl, trivial⟩, ⟨rfl, rfl, rfl, rfl, rfl, trivial⟩, (Cv.eqS (by rw [hsc, stepJ_same hs])), by omega⟩
      · have hs : ¬ (gd c n = gd c i ∨ JL (er xs) n i = false) := by
          rw [hJe n (by omega)]; revert h7
          cases decide ((gd cs n).layer = (gd cs i).layer) <;> cases jnR (erC (gd cs n)) (erC (gd cs i)) (bits (gd xs 2).xs) (bits (gd xs 4).xs) <;> simp
        refine WP.skip ?_
        refine WP.seq ?_
        refine WP.regionQ (by kernel_rfl) (by kernel_rfl) ?_
        refine RQ.pv rfl (PV.move (v := v31) rfl rfl) ?_
        refine RQ.pv rfl (PV.mvI (.inl rfl) rfl) ?_
        refine RQ.pv rfl (PV.idxS (v := v31) rfl Is26 rfl SlF.o rfl rfl (by omega)) ?_
        refine RQ.pv rfl (PV.loadE1 rfl Sc2 rfl rfl (El.o (getG (by omega))) rfl) ?_
        refine RQ.pv rfl (PV.move (v := v31) rfl rfl) ?_
        refine RQ.pv rfl (PV.mvI (.inl rfl) rfl) ?_
        refine RQ.pv rfl (PV.idxS (v := v31) rfl Is26 rfl SlF.o rfl rfl (by omega)) ?_
        refine RQ.pv rfl (PV.loadE1 rfl Sc2 rfl rfl (El.o (getG (by omega))) rfl) ?_
        refine RQ.pv rfl (PV.min2 rfl rfl rfl) ?_
        refine RQ.pv rfl (PV.move (v := v31) rfl rfl) ?_
        refine RQ.pv rfl (PV.mvI (.inl rfl) rfl) ?_
        refine RQ.pv rfl (PV.idxS (v := v31) rfl Is26 rfl SlF.o rfl rfl (by omega)) ?_
        refine RQ.pv rfl (PV.loadE1 rfl Sc2 rfl rfl (El.o (getG (by omega))) rfl) ?_
        refine RQ.pv rfl (PV.move (v := v31) rfl rfl) ?_
        refine RQ.pv rfl (PV.mvI (.inl rfl) rfl) ?_
        refine RQ.pv rfl (PV.idxS (v := v31) rfl Is26 rfl SlF.o rfl rfl (by omega)) ?_
        refine RQ.pv rfl (PV.loadE1 rfl Sc2 rfl rfl (El.o (getG (by omega))) rfl) ?_
        refine RQ.pv rfl (PV.max2 rfl rfl rfl) ?_
        refine RQ.pv rfl (PV.mvI (.inr rfl) rfl) ?_
        refine RQ.pv rfl (PV.mvI (.inr rfl) rfl) ?_
        refine RQ.nil ?_
        refine WP.seq ?_
        refine WP.region ?_
        refine RG.pv rfl (PV.mvI (.inr rfl) rfl) ?_
        refine RG.nil ?_
        refine WP.block ?_
        refine WP.cv (Cv.eqS (mapTo_zero (rl (min (gd c n) (gd c i)) (max (gd c n) (gd c i))) c).symm) ?_
        generalize hlo : min (gd c n) (gd c i) = lo at *
        generalize hhi : max (gd c n) (gd c i) = hi2 at *
        refine WP.loop1 [0, 5, 6, 7, 8, 9, 10, 11] (fun m => m ≤ i + 1) (fun m => [(12, vi m)]) (fun m => osl 2 intT v31 (mapTo (rl lo hi2) c m) :: osl 4 boolT v16 (bits (gd xs 2).xs) :: osl 4 boolT v20 (bits (gd xs 4).xs) :: L) (fun m => i + 1 - m) 0 (by omega) ⟨rfl, trivial⟩ Cv.p ?_
        rintro m τ2 hm
        refine WP.seq ?_
        refine WP.seq ?_
        refine WP.region ?_
        refine RG.pv rfl (PV.mvI (.inl rfl) rfl) ?_
        refine RG.pv rfl (PV.mvI (.inl rfl) rfl) ?_
        refine RG.pv rfl (PV.leq rfl rfl rfl) ?_
        refine RG.nil ?_
        have hml := mapTo_len (rl lo hi2) c (m := m) (by omega)
        refine WP.cond rfl (fun h8 => ?_) (fun h8 => ?_)
        · have h8 := of_decide_eq_true h8
          have hmg := mapTo_gd (f := rl lo hi2) (d := c) (m := m) (by omega)
          refine WP.skip ?_
          refine WP.seq ?_
          refine WP.block ?_
          refine WP.seq ?_
          refine WP.region ?_
          refine RG.pv rfl (PV.move (v := v31) rfl rfl) ?_
          refine RG.pv rfl (PV.mvI (.inl rfl) rfl) ?_
          refine RG.pv rfl (PV.idxS (v := v31) rfl Is26 rfl SlF.o rfl rfl (by omega)) ?_
          refine RG.pv rfl (PV.loadE1 rfl Sc2 rfl rfl (El.o (getG (by omega))) rfl) ?_
          refine RG.pv rfl (PV.mvI (.inl rfl) rfl) ?_
          refine RG.pv rfl (PV.eql rfl rfl rfl) ?_
          refine RG.nil ?_
          refine WP.cond rfl (fun h9 => ?_) (fun h9 => ?_)
          · refine WP.region ?_
            refine RG.pv rfl (PV.move (v := v31) rfl rfl) ?_
            refine RG.pv rfl (PV.mvI (.inl rfl) rfl) ?_
            refine RG.pv rfl (PV.mvI (.inl rfl) rfl) ?_
            refine RG.pv rfl (PV.idxS (v := v31) rfl Is26 rfl SlF.o rfl rfl (by omega)) ?_
            refine RG.ot rfl (OT.storeE (F := intT) rfl Sz2 rfl rfl rfl (Cl.c rfl) (OneC.c rfl) (by omega) ?_)
            refine RG.nil ?_
            refine WP.region ?_
            refine RG.pv rfl (PV.mvI (.inl rfl) rfl) ?_
            refine RG.pv rfl (PV.add rfl rfl rfl (by omega)) ?_
            refine RG.pv rfl (PV.mvI (.inr rfl) rfl) ?_
            refine RG.nil ?_
            exact ⟨rfl, m + 1, (by omega), ⟨rfl, trivial⟩, ⟨rfl, rfl, rfl, rfl, rfl, rfl, rfl, rfl, trivial⟩, (Cv.eqS (by rw [← mapTo_set (by omega), rl, if_pos (by rw [hmg] at h9; simpa using h9)])), by omega⟩
          · refine WP.skip ?_
            refine WP.region ?_
            refine RG.pv rfl (PV.mvI (.inl rfl) rfl) ?_
            refine RG.pv rfl (PV.add rfl rfl rfl (by omega)) ?_
            refine RG.pv rfl (PV.mvI (.inr rfl) rfl) ?_
            refine RG.nil ?_
            exact ⟨rfl, m + 1, (by omega), ⟨rfl, trivial⟩, ⟨rfl, rfl, rfl, rfl, rfl, rfl, rfl, rfl, trivial⟩, (Cv.eqS (by rw [mapTo_skip (by omega)]; rw [rl, if_neg (by rw [hmg] at h9; simpa using h9)])), by omega⟩
        · have h8 := of_decide_eq_false h8
          obtain rfl : m = i + 1 := by omega
          refine WP.exit ?_
          refine WP.region ?_
          refine RG.pv rfl (PV.mvI (.inl rfl) rfl) ?_
          refine RG.pv rfl (PV.add rfl rfl rfl (by omega)) ?_
          refine RG.pv rfl (PV.mvI (.inr rfl) rfl) ?_
          refine RG.nil ?_
          exact ⟨rfl, n + 1, (by omega), ⟨rfl, trivial⟩, ⟨rfl, rfl, rfl, rfl, rfl, trivial⟩, (Cv.eqS (by rw [hsc, stepJ_map hs, hlo, hhi, ← hil2]; simpa using mapTo_all (f := rl lo hi2) (c := c) (z := []))), by omega⟩
    · have h5 := of_decide_eq_false h5
      obtain rfl : n = i := by omega
      refine WP.exit ?_
      refine WP.region ?_
      refine RG.pv rfl (PV.mvI (.inl rfl) rfl) ?_
      refine RG.pv rfl (PV.add rfl rfl rfl (by omega)) ?_
      refine RG.pv rfl (PV.mvI (.inr rfl) rfl) ?_
      refine RG.nil ?_
      exact ⟨rfl, n + 1, v31, (by omega), ⟨rfl, rfl, trivial⟩, ⟨rfl, rfl, rfl, trivial⟩, (Cv.eqS (by rw [rootsJ, hceq])), by omega⟩
  · have h3 := of_decide_eq_false h3
    obtain rfl : i = cs.length := by omega
    refine WP.exit ?_
    refine WP.seq ?_
    refine WP.region ?_
    refine RG.pv rfl (PV.move (v := q) rfl rfl) ?_
    refine RG.pv rfl (PV.asg (v := q) rfl rfl) ?_
    refine RG.nil ?_
    refine WP.ret ?_
    exact ⟨_, _, ResV.one rfl rfl, ((Cv.eqS (ys := clsL (er xs)) (by rw [hcl]; rfl)).trans Cv.p), k q⟩
theorem numbers_at {cls : List Int} {n : Nat} (h : n < cls.length) (hr : Rt cls) : 0 ≤ gd cls n ∧ gd cls n ≤ n := ⟨(hr n h).1, (hr n h).2.1⟩
def nums (cls : List Int) : List Int := (List.range cls.length).map fun i => (numR cls i : Int)
def numsTo (cls : List Int) (n : Nat) : List Int := (List.range n).map fun i => (numR cls i : Int)
theorem numsTo_succ (cls : List Int) (n : Nat) : numsTo cls (n + 1) = numsTo cls n ++ [(numR cls n : Int)] := by simp [numsTo, List.range_succ]
theorem numsTo_len (cls : List Int) (n : Nat) : (numsTo cls n).length = n := by simp [numsTo]
theorem numsTo_gd {cls : List Int} {n i : Nat} (h : i < n) : gd (numsTo cls n) i = (numR cls i : Int) := by
  rw [numsTo, gd_map _ (by simpa using h)]; simp [gd, h]
theorem l23Numbers_s {v : Value} {cls : List Int} (h1 : Rs G L intT v cls) (hr : Rt cls) (hl : cls.length ≤ 25600) (k : ∀ v', R (.tuple #[v', vi (cntR cls cls.length)]) G (osl 2 intT v' (nums cls) :: L)) : CallT Tryz.prog 41 #[v] G L R := by
  refine CallT.enter (args := _) Tryz.func41 rfl rfl (by kernel_rfl) rfl ?_
  refine WP.seq ?_
  refine WP.region ?_
  refine RG.pv rfl (PV.asg rfl rfl) ?_
  refine RG.pv rfl (PV.mvI (.inr rfl) rfl) ?_
  refine RG.nil ?_
  refine WP.seq ?_
  refine WP.region ?_
  refine RG.ot rfl (OT.bslice (F := intT) (els := []) rfl El26 rfl (by decide) rfl (by decide) trivial fun v7 => ?_)
  refine RG.pv rfl (PV.asg (v := v7) rfl rfl) ?_
  refine RG.nil ?_
  refine WP.seq ?_
  refine WP.region ?_
  refine RG.pv rfl (PV.mvI (.inr rfl) rfl) ?_
  refine RG.nil ?_
  refine WP.seq ?_
  refine WP.seq ?_
  refine WP.region ?_
  refine RG.pv rfl (PV.mvI (.inr rfl) rfl) ?_
  refine RG.nil ?_
  refine WP.block ?_
  refine WP.cv (Cv.eqS (show [] = numsTo cls 0 from rfl)) ?_
  refine WP.loop3 [0] (fun (i : Nat) (m : Int) (q : Value) => i ≤ cls.length ∧ m = cntR cls i) (fun (i : Nat) (m : Int) (q : Value) => [(6, vi i), (5, vi m), (4, q)]) (fun (i : Nat) (m : Int) (q : Value) => osl 2 intT q (numsTo cls i) :: L) (fun (i : Nat) (m : Int) (q : Value) => cls.length - i) 0 0 v7 ⟨by omega, rfl⟩ ⟨rfl, rfl, rfl, trivial⟩ Cv.p ?_
  rintro i m q τ ⟨hi, hm⟩
  refine WP.seq ?_
  refine WP.seq ?_
  refine WP.region ?_
  refine RG.pv rfl (PV.mvI (.inl rfl) rfl) ?_
  refine RG.pv rfl (PV.move (v := v) rfl rfl) ?_
  refine RG.pv rfl (PV.len (v := v) rfl Tryz.underlying26 rfl (SlF.r h1)) ?_
  refine RG.pv rfl (PV.lss rfl rfl rfl) ?_
  refine RG.nil ?_
  have hnl := numsTo_len cls i
  have hcm := cntR_le cls i
  refine WP.cond rfl (fun h3 => ?_) (fun h3 => ?_)
  · have h3 := of_decide_eq_true h3
    have h4 : i < cls.length := by omega
    have hc1 := cntR_succ cls i
    obtain ⟨g1, g2⟩ := numbers_at h4 hr
    refine WP.skip ?_
    refine WP.seq ?_
    refine WP.block ?_
    refine WP.seq ?_
    refine WP.region ?_
    refine RG.pv rfl (PV.move (v := v) rfl rfl) ?_
    refine RG.pv rfl (PV.mvI (.inl rfl) rfl) ?_
    refine RG.pv rfl (PV.idxS (v := v) rfl Is26 rfl (SlF.r h1) rfl rfl (by omega)) ?_
    refine RG.pv rfl (PV.loadE1 rfl Sc2 rfl rfl (El.r h1 (getG (by omega))) rfl) ?_
    refine RG.pv rfl (PV.mvI (.inl rfl) rfl) ?_
    refine RG.pv rfl (PV.eql rfl rfl rfl) ?_
    refine RG.nil ?_
    refine WP.cond rfl (fun h5 => ?_) (fun h5 => ?_)
    · have h5 : gd cls i = (i : Int) := by simpa using h5
      rw [if_pos h5] at hc1
      refine WP.seq ?_
      refine WP.region ?_
      refine RG.pv rfl (PV.move (v := q) rfl rfl) ?_
      refine RG.pv rfl (PV.mvI (.inl rfl) rfl) ?_
      refine RG.ot rfl (OT.bslice (F := intT) (els := [_]) rfl El26 rfl (by decide) rfl (by decide) ⟨rfl, (Cl.c rfl), trivial⟩ fun v22 => ?_)
      refine RG.ot rfl (OT.append (v := q) (u := v22) (F := intT) rfl El26 rfl (by decide) rfl rfl Rs.o (OneL.c (fun _ => rfl)) rfl (by first | omega | (simp <;> omega)) fun v23 => ?_)
      refine RG.pv rfl (PV.asg (v := v23) rfl rfl) ?_
      refine RG.nil ?_
      refine WP.region ?_
      refine RG.pv rfl (PV.mvI (.inl rfl) rfl) ?_
      refine RG.pv rfl (PV.add rfl rfl rfl (by omega)) ?_
      refine RG.pv rfl (PV.mvI (.inr rfl) rfl) ?_
      refine RG.nil ?_
      refine WP.region ?_
      refine RG.pv rfl (PV.mvI (.inl rfl) rfl) ?_
      refine RG.pv rfl (PV.add rfl rfl rfl (by omega)) ?_
      refine RG.pv rfl (PV.mvI (.inr rfl) rfl) ?_
      refine RG.nil ?_
      exact ⟨rfl, i + 1, _, v23, ⟨by omega, by omega⟩, ⟨rfl, rfl, rfl, trivial⟩, ⟨rfl, trivial⟩, ((Cv.eqS (ys := numsTo cls (i + 1)) (by rw [numsTo_succ, numR_root h5, hm])).trans Cv.p), by omega⟩
    · have h5 : gd cls i ≠ (i : Int) := by simpa using h5
      rw [if_neg h5] at hc1
      have hng : gd (numsTo cls i) (gd cls i).toNat = (numR cls i : Int) := by rw [numsTo_gd (by omega), numR_at hr h4]
      refine WP.region ?_
      refine RG.pv rfl (PV.move (v := q) rfl rfl) ?_
      refine RG.pv rfl (PV.move (v := q) rfl rfl) ?_
      refine RG.pv rfl (PV.move (v := v) rfl rfl) ?_
      refine RG.pv rfl (PV.mvI (.inl rfl) rfl) ?_
      refine RG.pv rfl (PV.idxS (v := v) rfl Is26 rfl (SlF.r h1) rfl rfl (by omega)) ?_
      refine RG.pv rfl (PV.loadE1 rfl Sc2 rfl rfl (El.r h1 (getG (by omega))) rfl) ?_
      refine RG.pv rfl (PV.idxS (j := (gd cls i).toNat) (v := q) rfl Is26 rfl SlF.o rfl (by omega) (by omega)) ?_
      refine RG.pv rfl (PV.loadE1 rfl Sc2 rfl rfl (El.o (getG (by omega))) rfl) ?_
      refine RG.ot rfl (OT.bslice (F := intT) (els := [_]) rfl El26 rfl (by decide) rfl (by decide) ⟨rfl, (Cl.c rfl), trivial⟩ fun v34 => ?_)
      refine RG.ot rfl (OT.append (v := q) (u := v34) (F := intT) rfl El26 rfl (by decide) rfl rfl Rs.o (OneL.c (fun _ => rfl)) rfl (by first | omega | (simp <;> omega)) fun v35 => ?_)
      refine RG.pv rfl (PV.asg (v := v35) rfl rfl) ?_
      refine RG.nil ?_
      refine WP.region ?_
      refine RG.pv rfl (PV.mvI (.inl rfl) rfl) ?_
      refine RG.pv rfl (PV.add rfl rfl rfl (by omega)) ?_
      refine RG.pv rfl (PV.mvI (.inr rfl) rfl) ?_
      refine RG.nil ?_
      exact ⟨rfl, i + 1, _, v35, ⟨by omega, by omega⟩, ⟨rfl, rfl, rfl, trivial⟩, ⟨rfl, trivial⟩, ((Cv.eqS (ys := numsTo cls (i + 1)) (by rw [numsTo_succ, hng])).trans Cv.p), by omega⟩
  · have h3 := of_decide_eq_false h3
    obtain rfl : i = cls.length := by omega
    rw [← hm] at k
    refine WP.exit ?_
    refine WP.seq ?_
    refine WP.region ?_
    refine RG.pv rfl (PV.move (v := q) rfl rfl) ?_
    refine RG.pv rfl (PV.mvI (.inl rfl) rfl) ?_
    refine RG.pv rfl (PV.asg (v := q) rfl rfl) ?_
    refine RG.pv rfl (PV.mvI (.inr rfl) rfl) ?_
    refine RG.nil ?_
    refine WP.ret ?_
    exact ⟨_, _, ResV.two rfl rfl rfl, (Cv.eqS (ys := nums cls) rfl), k q⟩
end Go.Proofs.YtkiafbneemdajaaGreat
