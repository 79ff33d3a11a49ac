/-
  Contracts of functions and plain facts that the last text of this folder uses, part 3.
-/
import Derived.Test.YthhjapiggekjbaaGreatUA2
namespace Go.Proofs.YthhjapiggekjbaaGreat
set_option linter.unusedVariables false
set_option linter.unusedSimpArgs false
open Go
set_option maxRecDepth 20000
set_option linter.unusedSimpArgs false
set_option linter.unusedVariables false
variable {G : Gh} {L : List Ch} {R : Value → Gh → List Ch → Prop}
theorem wpAnyH_mono {P : Program} {md : Region.Mode} {ops : Array Oper} {Q : Exit → Act → World → Prop} {S S' : World → Prop} (h : ∀ w, S' w → S w) : ∀ (fuel : Nat) (ls : Array Bool) (a : Act) (w : World), wpAnyH P md ops Q S' fuel ls a w → wpAnyH P md ops Q S fuel ls a w
 | 0, _, _, _, k => k
 | fuel + 1, _, _, _, k => ⟨k.1, fun i hi => wpOp_mono (fun a' w' k' => ⟨h w' k'.1, wpAnyH_mono h fuel _ a' w' k'.2⟩) (k.2 i hi)⟩
/-- a fresh chunk is held from here on -/
theorem RH.up1 {P : Program} {n : Nat} {ops : Array Oper} {Q : Post} {σ : Nat → Value} {G G0 : Gh} {L C0 : List Ch} {r : Sch} {c : Ch} (k : RH P n ops G0 (c :: C0) r Q σ G (c :: L)) : RH P n ops G0 C0 r Q σ G (c :: L) :=
 RH.of fun h1 h2 ls a w hb ha hs => wpAnyH_mono (fun w' hs' => hs'.pick (.drop _ (.refl _))) _ _ _ _ (k.run h1 h2 hb ha hs)
theorem components_s {v : Value} {xs : List Rect} (h1 : Rs G L rectT v xs) (k : ∀ v zs, er zs = partsL (bits xs) → R v G (osl 50 slT v zs :: bagS 140 rectT zs :: L)) : CallT Tryz.prog 73 #[v] G L R := by
 refine CallT.enter (args := _) Tryz.func73 rfl rfl (by kernel_rfl) rfl ?_
 refine WP.seq (WP.region (RG.pv rfl (PV.asg rfl rfl) (RG.nil (WP.seq (WP.region (RG.pv rfl (PV.move (v := v) rfl rfl) ?_))))))
 refine RG.callF (vs := [v]) rfl rfl En124 rfl (cellsOf_s (Rs.up h1) (fun b7 => ?_))
 refine RG.callF (vs := [_, _]) rfl rfl En125 rfl (CallT.exB (parts_s (bits_length _) (fun v8 ps8 hp8 => ?_)))
 refine RG.pv rfl (PV.asg rfl rfl) (RG.nil ?_)
 refine WP.ret ?_
 exact ⟨_, _, ResV.one rfl rfl, Cv.p, k v8 ps8 hp8⟩
theorem l17At_s {x y : Int} (hx : -40 ≤ x ∧ x ≤ 40) (hy : -40 ≤ y ∧ y ≤ 40) (k : R (vi ((y + 40) * 80 + x + 40)) G L) : CallT Tryz.prog 194 #[vi x, vi y] G L R := by
 refine CallT.enter (args := _) Tryz.func194 rfl rfl (by kernel_rfl) rfl ?_
 refine WP.seq (WP.region (RG.mr rfl rfl rfl (RG.nil (WP.seq (WP.region (RG.ml rfl rfl rfl (RG.pv rfl (PV.add rfl rfl rfl (by omega)) ?_)))))))
 refine RG.pv rfl (PV.mul rfl rfl rfl (by omega)) (RG.ml rfl rfl rfl (RG.pv rfl (PV.add rfl rfl rfl (by omega)) (RG.pv rfl (PV.add rfl rfl rfl (by omega)) (RG.mr rfl rfl rfl (RG.nil ?_)))))
 refine WP.ret ?_
 exact ⟨_, _, ResV.one rfl rfl, Cv.p, k⟩
theorem l17Inside_s {x y : Int} (k : R (.bool (decide (-40 ≤ x ∧ x < 40) && decide (-40 ≤ y ∧ y < 40))) G L) : CallT Tryz.prog 202 #[vi x, vi y] G L R := by
 have e : (decide (-40 ≤ x ∧ x < 40) && decide (-40 ≤ y ∧ y < 40)) = (decide (x ≥ -40) && decide (x < 40) && decide (y ≥ -40) && decide (y < 40)) := by rw [Bool.eq_iff_iff]; simp; omega
 rw [e] at k
 refine CallT.enter (args := _) Tryz.func202 rfl rfl (by kernel_rfl) rfl ?_
 refine WP.seq (WP.region (RG.br rfl rfl rfl (RG.nil (WP.seq (WP.region (RG.ml rfl rfl rfl (RG.pv rfl (PV.geq rfl rfl rfl) ?_)))))))
 refine RG.bl rfl rfl rfl ?_
 refine RG.gs rfl rfl rfl (fun hp => (PV.mvI (.inl rfl) rfl)) ?_
 refine RG.gs rfl rfl rfl (fun hp => (PV.lss rfl (gs_t hp) rfl)) ?_
 refine RG.pv rfl (PV.pickA rfl rfl (fun hq => gs_t (geqT hq)) rfl) (RG.bl rfl rfl rfl ?_)
 refine RG.gs rfl rfl rfl (fun hp => (PV.mvI (.inl rfl) rfl)) ?_
 refine RG.gs rfl rfl rfl (fun hp => (PV.geq rfl (gs_t hp) rfl)) ?_
 refine RG.pv rfl (PV.pickA rfl rfl (fun hq => gs_t (geqT hq)) rfl) (RG.bl rfl rfl rfl ?_)
 refine RG.gs rfl rfl rfl (fun hp => (PV.mvI (.inl rfl) rfl)) ?_
 refine RG.gs rfl rfl rfl (fun hp => (PV.lss rfl (gs_t hp) rfl)) ?_
 refine RG.pv rfl (PV.pickA rfl rfl (fun hq => gs_t (geqT hq)) rfl) (RG.br rfl rfl rfl (RG.nil ?_))
 refine WP.ret ?_
 exact ⟨_, _, ResV.one rfl rfl, Cv.p, k⟩
theorem l17Cell_s {v : Value} {S : List Bool} {x y : Int} (h1 : Rs G L boolT v S) (hS : S.length = 6400) (k : R (.bool ((decide (-40 ≤ x ∧ x < 40) && decide (-40 ≤ y ∧ y < 40)) && gd S ((y + 40) * 80 + x + 40).toNat)) G L) : CallT Tryz.prog 160 #[v, vi x, vi y] G L R := by
 refine CallT.enter (args := _) Tryz.func160 rfl rfl (by kernel_rfl) rfl ?_
 refine WP.seq (WP.region (RG.br rfl rfl rfl (RG.nil (WP.seq (WP.region (RG.ml rfl rfl rfl (RG.ml rfl rfl rfl ?_)))))))
 refine RG.callF (vs := [_, _]) rfl rfl En202 rfl (l17Inside_s ?_)
 refine RG.bl rfl rfl rfl ?_
 refine RG.gs rfl rfl rfl (fun hp => (PV.move (v := v) rfl rfl)) ?_
 refine RG.gs rfl rfl rfl (fun hp => (PV.mvI (.inl rfl) rfl)) ?_
 refine RG.gs rfl rfl rfl (fun hp => (PV.mvI (.inl rfl) rfl)) ?_
 refine RG.gsC rfl rfl rfl rfl En194 (fun hp => ⟨_, (acons (gs_t hp) (acons (gs_t hp) anil)), l17At_s (by simp at hp <;> omega) (by simp at hp <;> omega) ⟨rfl, rfl, rfl⟩⟩) ?_
 refine RG.gs rfl rfl rfl (fun hp => (PV.idxS (j := ((y + 40) * 80 + x + 40).toNat) (v := v) rfl Is109 (gs_t hp) (SlF.r h1) (gs_t hp) (by first | omega | (simp at hp; omega)) (by first | omega | (simp at hp; omega)))) ?_
 refine RG.gs rfl rfl rfl (fun hp => (PV.loadE1 rfl Sc4 (gs_t hp) rfl (El.r h1 (getG (by first | omega | (simp at hp; omega)))) rfl)) ?_
 refine RG.pv rfl (PV.pickA rfl rfl (fun hq => gs_t (geqT hq)) rfl) (RG.br rfl rfl rfl (RG.nil ?_))
 refine WP.ret ?_
 exact ⟨_, _, ResV.one rfl rfl, Cv.p, k⟩
def ptOf (q : Int × Int) : Pt := ⟨q.1 - 40, q.2 - 40⟩
theorem gd_pt {Q : List (Int × Int)} {i : Nat} (h : i < Q.length) : gd (Q.map ptOf) i = ptOf (gd Q i) := by
 rw [gd_eq h, gd_eq (by simpa using h)]; simp
theorem visit_s {v : Value} {S : List Bool} {x y : Int} (h1 : Rs G L boolT v S) (hS : S.length = 6400) (hx : 0 ≤ x ∧ x < 80) (hy : 0 ≤ y ∧ y < 80) (hon : gb S y.toNat x.toNat = true)
   (k : ∀ v' Q, FI S (y.toNat, x.toNat) (compB S (y.toNat, x.toNat)) Q → R v' G (osl 183 ptT v' (Q.map ptOf) :: L)) : CallT Tryz.prog 195 #[v, vi (x - 40), vi (y - 40)] G L R := by
 have hst := FI.start (S := S) hx hy
 have hseed : On S (y.toNat, x.toNat) := ⟨by simp only; omega, by simp only; omega, hon⟩
 have hrl : (List.replicate S.length false).length = 6400 := by simp [hS]
 refine CallT.enter (args := _) Tryz.func195 rfl rfl (by kernel_rfl) rfl ?_
 refine WP.seq (WP.region (RG.pv rfl (PV.asg rfl rfl) (RG.nil (WP.seq (WP.region (RG.pv rfl (PV.move (v := v) rfl rfl) (RG.pv rfl (PV.len (v := v) rfl Tryz.underlying109 rfl (SlF.r h1)) ?_)))))))
 refine RG.ot rfl (OT.make (F := boolT) (a0 := false) rfl El109 rfl (by decide) rfl rfl (by omega) (by omega) fun v14 => ?_)
 refine RG.pv rfl (PV.asg (v := v14) rfl rfl) (RG.nil (WP.seq (WP.region (RG.pv rfl (PV.move (v := v14) rfl rfl) (RG.ml rfl rfl rfl (RG.ml rfl rfl rfl ?_))))))
 refine RG.callF (vs := [_, _]) rfl rfl En194 rfl (l17At_s (by first | omega | (simp at hp; omega)) (by first | omega | (simp at hp; omega)) ?_)
 refine RG.pv rfl (PV.idxS (j := y.toNat * 80 + x.toNat) (v := v14) rfl Is109 rfl SlF.o rfl (by omega) (by omega)) ?_
 refine RG.ot rfl (OT.storeE (F := boolT) rfl Sz4 rfl rfl rfl (Cl.c rfl) (OneC.c rfl) (by omega) ?_)
 refine RG.nil (WP.seq (WP.region (RG.ml rfl rfl rfl (RG.ml rfl rfl rfl (RG.pv rfl (PV.build (vs := [(0, [vi _]), (1, [vi _])]) (out := [_, _]) rfl Zr183 Pl183 ⟨rfl, (Cl.c rfl), ⟨rfl, (Cl.c rfl), trivial⟩⟩ rfl) ?_)))))
 refine RG.ot rfl (OT.bslice (F := ptT) (els := [⟨_, _⟩]) rfl El263 rfl (by decide) rfl (by decide) ⟨rfl, (Cl.c rfl), trivial⟩ fun v23 => ?_)
 refine RG.pv rfl (PV.asg (v := v23) rfl rfl) (RG.nil (WP.seq (WP.seq (WP.region (RG.mr rfl rfl rfl (RG.nil (WP.block ?_)))))))
 refine WP.cv ((Cv.p (C := osl 4 boolT v14 ((List.replicate S.length false).set (y.toNat * 80 + x.toNat) true) :: osl 183 ptT v23 [⟨x - 40, y - 40⟩] :: L)).trans (Cv.cast (L' := osl 4 boolT v14 ((List.replicate 6400 false).set (y.toNat * 80 + x.toNat) true) :: osl 183 ptT v23 ([(x, y)].map ptOf) :: L) (by rw [hS]; rfl))) ?_
 refine WP.loop4 [0, 7] (fun (i : Nat) (Q : List (Int × Int)) (O : List Bool) (qv : Value) => i ≤ Q.length ∧ FI S (y.toNat, x.toNat) O Q ∧ Done S O Q i ∧ On O (y.toNat, x.toNat)) (fun (i : Nat) (Q : List (Int × Int)) (O : List Bool) (qv : Value) => [(9, vi i), (8, qv)]) (fun (i : Nat) (Q : List (Int × Int)) (O : List Bool) (qv : Value) => osl 4 boolT v14 O :: osl 183 ptT qv (Q.map ptOf) :: L) (fun (i : Nat) (Q : List (Int × Int)) (O : List Bool) (qv : Value) => 6401 - i) 0 [(x, y)] ((List.replicate 6400 false).set (y.toNat * 80 + x.toNat) true) v23 ⟨by simp, hst, fun m hm => by omega, by have := hst.on 0 (by simp); simpa [gd, qc] using this⟩ ⟨rfl, rfl, trivial⟩ Cv.p ?_
 rintro i Q O qv τ ⟨hi, hF, hD, h0⟩
 refine WP.seq (WP.seq (WP.region (RG.ml rfl rfl rfl (RG.pv rfl (PV.move (v := qv) rfl rfl) (RG.pv rfl (PV.len (v := qv) rfl Tryz.underlying263 rfl SlF.o) (RG.pv rfl (PV.lss rfl rfl rfl) (RG.nil ?_)))))))
 have hml : (Q.map ptOf).length = Q.length := by simp
 refine WP.cond rfl (fun h2 => ?_) (fun h2 => ?_)
 · have h2 := of_decide_eq_true h2
   have hQ := hF.len_le
   have hb := hF.bd i (by omega)
   refine WP.skip (WP.seq (WP.block (WP.seq (WP.region (RG.mr rfl rfl rfl (RG.nil (WP.block ?_)))))))
   refine WP.loop4 [0, 7, 9] (fun (d : Nat) (Q1 : List (Int × Int)) (O1 : List Bool) (qv1 : Value) => d ≤ 4 ∧ FI S (y.toNat, x.toNat) O1 Q1 ∧ Done S O1 Q1 i ∧ On O1 (y.toNat, x.toNat) ∧ i < Q1.length ∧ gd Q1 i = gd Q i ∧ Near4 S O1 (qc (gd Q i)) d) (fun (d : Nat) (Q1 : List (Int × Int)) (O1 : List Bool) (qv1 : Value) => [(10, vi d), (8, qv1)]) (fun (d : Nat) (Q1 : List (Int × Int)) (O1 : List Bool) (qv1 : Value) => osl 4 boolT v14 O1 :: osl 183 ptT qv1 (Q1.map ptOf) :: L) (fun (d : Nat) (Q1 : List (Int × Int)) (O1 : List Bool) (qv1 : Value) => 4 - d) 0 Q O qv ⟨by omega, hF, hD, h0, by omega, rfl, Near4.zero _ _ _⟩ ⟨rfl, rfl, trivial⟩ Cv.p ?_
   rintro d Q1 O1 qv1 τ1 ⟨hd, hF1, hD1, h01, hi1, hq1, hN1⟩
   refine WP.seq (WP.seq (WP.region (RG.ml rfl rfl rfl (RG.pv rfl (PV.lss rfl rfl rfl) (RG.nil ?_)))))
   have hml1 : (Q1.map ptOf).length = Q1.length := by simp
   refine WP.cond rfl (fun h3 => ?_) (fun h3 => ?_)
   · have h3 := of_decide_eq_true h3
     have hl1 := hF1.len
     have hQ1 := hF1.len_le
     have hb1 : 0 ≤ (gd Q1 i).1 ∧ (gd Q1 i).1 < 80 ∧ 0 ≤ (gd Q1 i).2 ∧ (gd Q1 i).2 < 80 := by rw [hq1]; exact hb
     have e1 : gd (Q1.map ptOf) i = ⟨(gd Q1 i).1 - 40, (gd Q1 i).2 - 40⟩ := gd_pt hi1
     have ex : (gd (Q1.map ptOf) i).x = (gd Q1 i).1 - 40 := by rw [e1]
     have ey : (gd (Q1.map ptOf) i).y = (gd Q1 i).2 - 40 := by rw [e1]
     have hdx : -1 ≤ gd [1, -1, 0, 0] d ∧ gd [1, -1, 0, 0] d ≤ (1 : Int) := dX_le d
     have hdy : -1 ≤ gd [0, 0, 1, -1] d ∧ gd [0, 0, 1, -1] d ≤ (1 : Int) := dY_le d
     have hn4 : ([1, -1, 0, 0] : List Int).length = 4 := rfl
     have hn4' : ([0, 0, 1, -1] : List Int).length = 4 := rfl
     refine WP.skip (WP.seq (WP.block ?_))
     refine WP.cut1 [0, 7, 8, 9, 10] (fun (b11 : Nat) => True) (fun (b11 : Nat) => [(11, .pointer (some ⟨b11, 0, none⟩))]) (fun (b11 : Nat) => blk b11 183 [vi ((gd Q1 i).1 - 40 + dX d), vi ((gd Q1 i).2 - 40 + dY d)] :: osl 4 boolT v14 O1 :: osl 183 ptT qv1 (Q1.map ptOf) :: L) ?_ ?_
     refine WP.regionH0 (.q 0 (.q 1 (.q 2 (.q 3 (.q 4 (.q 6 (.q 10 (.q 11 (.q 12 (.q 13 (.q 14 (.q 16 (.c 5 (.q 7 (.q 8 (.q 9 (.b 15 (.q 17 (.q 18 (.q 19 (.q 20 (.l 21 (.l 22 Sch.nil)))))) 21 (.l 15 (.q 17 (.q 18 (.q 19 (.q 20 (.l 22 Sch.nil)))))))))) 15 (.q 17 (.q 18 (.q 19 (.b 5 (.q 7 (.q 8 (.q 9 (.q 20 (.l 21 (.l 22 Sch.nil)))))) 21 (.l 5 (.q 7 (.q 8 (.q 9 (.q 20 (.l 22 Sch.nil)))))))))) 21 (.b 5 (.q 7 (.q 8 (.q 9 (.l 15 (.q 17 (.q 18 (.q 19 (.q 20 (.l 22 Sch.nil))))))))) 15 (.q 17 (.q 18 (.q 19 (.l 5 (.q 7 (.q 8 (.q 9 (.q 20 (.l 22 Sch.nil))))))))))))))))))))))) (by kernel_rfl) (by kernel_rfl) (by kernel_rfl) rfl ?_
     refine RH.pv rfl (fun _ _ _ _ h => h) (Gh.le_refl _) PickC.pick rfl (PV.move (v := qv1) rfl rfl) ?_
     refine RH.pv rfl (fun _ _ _ _ h => h) (Gh.le_refl _) PickC.pick rfl (PV.mvI (.inl rfl) rfl) ?_
     refine RH.pv rfl (fun _ _ _ _ h => h) (Gh.le_refl _) PickC.pick rfl (PV.idxS (v := qv1) rfl Is263 rfl SlF.o rfl rfl (by omega)) ?_
     refine RH.pv rfl (fun _ _ _ _ h => h) (Gh.le_refl _) PickC.pick rfl (PV.field rfl Fo183_0 rfl) ?_
     refine RH.pv rfl (fun _ _ _ _ h => h) (Gh.le_refl _) PickC.pick rfl (PV.loadF (v := qv1) (j := 0) rfl Sc2 rfl rfl (El.o (getG (by omega))) rfl) ?_
     refine RH.pv rfl (fun _ _ _ _ h => h) (Gh.le_refl _) PickC.pick rfl (PV.mvI (.inl rfl) rfl) ?_
     refine RH.pv rfl (fun _ _ _ _ h => h) (Gh.le_refl _) PickC.pick rfl (PV.move (v := qv1) rfl rfl) ?_
     refine RH.pv rfl (fun _ _ _ _ h => h) (Gh.le_refl _) PickC.pick rfl (PV.mvI (.inl rfl) rfl) ?_
     refine RH.pv rfl (fun _ _ _ _ h => h) (Gh.le_refl _) PickC.pick rfl (PV.idxS (v := qv1) rfl Is263 rfl SlF.o rfl rfl (by omega)) ?_
     refine RH.pv rfl (fun _ _ _ _ h => h) (Gh.le_refl _) PickC.pick rfl (PV.field rfl Fo183_1 rfl) ?_
     refine RH.pv rfl (fun _ _ _ _ h => h) (Gh.le_refl _) PickC.pick rfl (PV.loadF rfl Sc2 rfl rfl (El.o (getG (by omega))) rfl) ?_
     refine RH.pv rfl (fun _ _ _ _ h => h) (Gh.le_refl _) PickC.pick rfl (PV.mvI (.inl rfl) rfl) ?_
     · refine RH.ot3 rfl rfl rfl rfl rfl rfl  (OT.bslice (F := intT) (els := [_, _, _, _]) rfl El26 rfl (by decide) rfl (by decide) ⟨rfl, (Cl.c rfl), ⟨rfl, (Cl.c rfl), ⟨rfl, (Cl.c rfl), ⟨rfl, (Cl.c rfl), trivial⟩⟩⟩⟩ fun v39 => ⟨Gh.le_refl _, PickC.pick, ?_⟩) (OT.bslice (F := intT) (els := [_, _, _, _]) rfl El26 rfl (by decide) rfl (by decide) ⟨rfl, (Cl.c rfl), ⟨rfl, (Cl.c rfl), ⟨rfl, (Cl.c rfl), ⟨rfl, (Cl.c rfl), trivial⟩⟩⟩⟩ fun v49 => ⟨Gh.le_refl _, PickC.pick, ?_⟩) (OT.alloc rfl Zr183 fun b11 => ⟨Gh.le_refl _, PickC.pick, ?_⟩)
       · refine RH.up1 ?_
         refine RH.pv rfl (fun _ _ _ _ h => h) (Gh.le_refl _) PickC.pick rfl (PV.idxS (v := v39) rfl Is26 rfl SlF.o rfl rfl (by omega)) ?_
         refine RH.pv rfl (fun _ _ _ _ h => h) (Gh.le_refl _) PickC.pick rfl (PV.loadE1 rfl Sc2 rfl rfl (El.o (getG (by omega))) rfl) ?_
         refine RH.pv rfl (fun _ _ _ _ h => h) (Gh.le_refl _) PickC.pick rfl (PV.add rfl rfl rfl (by omega)) ?_
         refine RH.ot2 rfl rfl rfl rfl  (OT.bslice (F := intT) (els := [_, _, _, _]) rfl El26 rfl (by decide) rfl (by decide) ⟨rfl, (Cl.c rfl), ⟨rfl, (Cl.c rfl), ⟨rfl, (Cl.c rfl), ⟨rfl, (Cl.c rfl), trivial⟩⟩⟩⟩ fun v49 => ⟨Gh.le_refl _, PickC.pick, ?_⟩) (OT.alloc rfl Zr183 fun b11 => ⟨Gh.le_refl _, PickC.pick, ?_⟩)
         · refine RH.up1 ?_
           refine RH.pv rfl (fun _ _ _ _ h => h) (Gh.le_refl _) PickC.pick rfl (PV.idxS (v := v49) rfl Is26 rfl SlF.o rfl rfl (by omega)) ?_
           refine RH.pv rfl (fun _ _ _ _ h => h) (Gh.le_refl _) PickC.pick rfl (PV.loadE1 rfl Sc2 rfl rfl (El.o (getG (by omega))) rfl) ?_
           refine RH.pv rfl (fun _ _ _ _ h => h) (Gh.le_refl _) PickC.pick rfl (PV.add rfl rfl rfl (by omega)) ?_
           refine RH.pv rfl (fun _ _ _ _ h => h) (Gh.le_refl _) PickC.pick rfl (PV.build (vs := [(0, [vi _]), (1, [vi _])]) (out := [_, _]) rfl Zr183 Pl183 ⟨rfl, (Cl.c rfl), ⟨rfl, (Cl.c rfl), trivial⟩⟩ rfl) ?_
           refine RH.ot rfl rfl (OT.alloc rfl Zr183 fun b11 => ⟨Gh.le_refl _, PickC.pick, ?_⟩)
           refine RH.ot rfl rfl (OT.storeW (vs := [vi _, vi _]) rfl Sz183 rfl rfl (Cl.c rfl) rfl rfl (OneC.c rfl) ⟨Gh.le_refl _, PickC.pick, ?_⟩)
           refine RH.nil ?_
           exact ⟨rfl, b11, trivial, ⟨rfl, trivial⟩, ⟨rfl, rfl, rfl, rfl, rfl, trivial⟩, (Cv.p (C := blk b11 183 [vi ((gd (Q1.map ptOf) i).x + gd [1, -1, 0, 0] d), vi ((gd (Q1.map ptOf) i).y + gd [0, 0, 1, -1] d)] :: osl 4 boolT v14 O1 :: osl 183 ptT qv1 (Q1.map ptOf) :: L)).trans (Cv.cast (by rw [ex, ey]; rfl))⟩
         · refine RH.ot rfl rfl (OT.bslice (F := intT) (els := [_, _, _, _]) rfl El26 rfl (by decide) rfl (by decide) ⟨rfl, (Cl.c rfl), ⟨rfl, (Cl.c rfl), ⟨rfl, (Cl.c rfl), ⟨rfl, (Cl.c rfl), trivial⟩⟩⟩⟩ fun v49 => ⟨Gh.le_refl _, PickC.pick, ?_⟩)
           refine RH.up1 ?_
           refine RH.pv rfl (fun _ _ _ _ h => h) (Gh.le_refl _) PickC.pick rfl (PV.idxS (v := v49) rfl Is26 rfl SlF.o rfl rfl (by omega)) ?_
           refine RH.pv rfl (fun _ _ _ _ h => h) (Gh.le_refl _) PickC.pick rfl (PV.loadE1 rfl Sc2 rfl rfl (El.o (getG (by omega))) rfl) ?_
           refine RH.pv rfl (fun _ _ _ _ h => h) (Gh.le_refl _) PickC.pick rfl (PV.add rfl rfl rfl (by omega)) ?_
           refine RH.pv rfl (fun _ _ _ _ h => h) (Gh.le_refl _) PickC.pick rfl (PV.build (vs := [(0, [vi _]), (1, [vi _])]) (out := [_, _]) rfl Zr183 Pl183 ⟨rfl, (Cl.c rfl), ⟨rfl, (Cl.c rfl), trivial⟩⟩ rfl) ?_
           refine RH.ot rfl rfl (OT.storeW (vs := [vi _, vi _]) rfl Sz183 rfl rfl (Cl.c rfl) rfl rfl (OneC.c rfl) ⟨Gh.le_refl _, PickC.pick, ?_⟩)
           refine RH.nil ?_
           exact ⟨rfl, b11, trivial, ⟨rfl, trivial⟩, ⟨rfl, rfl, rfl, rfl, rfl, trivial⟩, (Cv.p (C := blk b11 183 [vi ((gd (Q1.map ptOf) i).x + gd [1, -1, 0, 0] d), vi ((gd (Q1.map ptOf) i).y + gd [0, 0, 1, -1] d)] :: osl 4 boolT v14 O1 :: osl 183 ptT qv1 (Q1.map ptOf) :: L)).trans (Cv.cast (by rw [ex, ey]; rfl))⟩
       · refine RH.up1 ?_
         refine RH.pv rfl (fun _ _ _ _ h => h) (Gh.le_refl _) PickC.pick rfl (PV.idxS (v := v49) rfl Is26 rfl SlF.o rfl rfl (by omega)) ?_
         refine RH.pv rfl (fun _ _ _ _ h => h) (Gh.le_refl _) PickC.pick rfl (PV.loadE1 rfl Sc2 rfl rfl (El.o (getG (by omega))) rfl) ?_
         refine RH.pv rfl (fun _ _ _ _ h => h) (Gh.le_refl _) PickC.pick rfl (PV.add rfl rfl rfl (by omega)) ?_
         refine RH.ot2 rfl rfl rfl rfl  (OT.bslice (F := intT) (els := [_, _, _, _]) rfl El26 rfl (by decide) rfl (by decide) ⟨rfl, (Cl.c rfl), ⟨rfl, (Cl.c rfl), ⟨rfl, (Cl.c rfl), ⟨rfl, (Cl.c rfl), trivial⟩⟩⟩⟩ fun v39 => ⟨Gh.le_refl _, PickC.pick, ?_⟩) (OT.alloc rfl Zr183 fun b11 => ⟨Gh.le_refl _, PickC.pick, ?_⟩)
         · refine RH.up1 ?_
           refine RH.pv rfl (fun _ _ _ _ h => h) (Gh.le_refl _) PickC.pick rfl (PV.idxS (v := v39) rfl Is26 rfl SlF.o rfl rfl (by omega)) ?_
           refine RH.pv rfl (fun _ _ _ _ h => h) (Gh.le_refl _) PickC.pick rfl (PV.loadE1 rfl Sc2 rfl rfl (El.o (getG (by omega))) rfl) ?_
           refine RH.pv rfl (fun _ _ _ _ h => h) (Gh.le_refl _) PickC.pick rfl (PV.add rfl rfl rfl (by omega)) ?_
           refine RH.pv rfl (fun _ _ _ _ h => h) (Gh.le_refl _) PickC.pick rfl (PV.build (vs := [(0, [vi _]), (1, [vi _])]) (out := [_, _]) rfl Zr183 Pl183 ⟨rfl, (Cl.c rfl), ⟨rfl, (Cl.c rfl), trivial⟩⟩ rfl) ?_
           refine RH.ot rfl rfl (OT.alloc rfl Zr183 fun b11 => ⟨Gh.le_refl _, PickC.pick, ?_⟩)
           refine RH.ot rfl rfl (OT.storeW (vs := [vi _, vi _]) rfl Sz183 rfl rfl (Cl.c rfl) rfl rfl (OneC.c rfl) ⟨Gh.le_refl _, PickC.pick, ?_⟩)
           refine RH.nil ?_
           exact ⟨rfl, b11, trivial, ⟨rfl, trivial⟩, ⟨rfl, rfl, rfl, rfl, rfl, trivial⟩, (Cv.p (C := blk b11 183 [vi ((gd (Q1.map ptOf) i).x + gd [1, -1, 0, 0] d), vi ((gd (Q1.map ptOf) i).y + gd [0, 0, 1, -1] d)] :: osl 4 boolT v14 O1 :: osl 183 ptT qv1 (Q1.map ptOf) :: L)).trans (Cv.cast (by rw [ex, ey]; rfl))⟩
         · refine RH.ot rfl rfl (OT.bslice (F := intT) (els := [_, _, _, _]) rfl El26 rfl (by decide) rfl (by decide) ⟨rfl, (Cl.c rfl), ⟨rfl, (Cl.c rfl), ⟨rfl, (Cl.c rfl), ⟨rfl, (Cl.c rfl), trivial⟩⟩⟩⟩ fun v39 => ⟨Gh.le_refl _, PickC.pick, ?_⟩)
           refine RH.up1 ?_
           refine RH.pv rfl (fun _ _ _ _ h => h) (Gh.le_refl _) PickC.pick rfl (PV.idxS (v := v39) rfl Is26 rfl SlF.o rfl rfl (by omega)) ?_
           refine RH.pv rfl (fun _ _ _ _ h => h) (Gh.le_refl _) PickC.pick rfl (PV.loadE1 rfl Sc2 rfl rfl (El.o (getG (by omega))) rfl) ?_
           refine RH.pv rfl (fun _ _ _ _ h => h) (Gh.le_refl _) PickC.pick rfl (PV.add rfl rfl rfl (by omega)) ?_
           refine RH.pv rfl (fun _ _ _ _ h => h) (Gh.le_refl _) PickC.pick rfl (PV.build (vs := [(0, [vi _]), (1, [vi _])]) (out := [_, _]) rfl Zr183 Pl183 ⟨rfl, (Cl.c rfl), ⟨rfl, (Cl.c rfl), trivial⟩⟩ rfl) ?_
           refine RH.ot rfl rfl (OT.storeW (vs := [vi _, vi _]) rfl Sz183 rfl rfl (Cl.c rfl) rfl rfl (OneC.c rfl) ⟨Gh.le_refl _, PickC.pick, ?_⟩)
           refine RH.nil ?_
           exact ⟨rfl, b11, trivial, ⟨rfl, trivial⟩, ⟨rfl, rfl, rfl, rfl, rfl, trivial⟩, (Cv.p (C := blk b11 183 [vi ((gd (Q1.map ptOf) i).x + gd [1, -1, 0, 0] d), vi ((gd (Q1.map ptOf) i).y + gd [0, 0, 1, -1] d)] :: osl 4 boolT v14 O1 :: osl 183 ptT qv1 (Q1.map ptOf) :: L)).trans (Cv.cast (by rw [ex, ey]; rfl))⟩
       · refine RH.ot2 rfl rfl rfl rfl  (OT.bslice (F := intT) (els := [_, _, _, _]) rfl El26 rfl (by decide) rfl (by decide) ⟨rfl, (Cl.c rfl), ⟨rfl, (Cl.c rfl), ⟨rfl, (Cl.c rfl), ⟨rfl, (Cl.c rfl), trivial⟩⟩⟩⟩ fun v39 => ⟨Gh.le_refl _, PickC.pick, ?_⟩) (OT.bslice (F := intT) (els := [_, _, _, _]) rfl El26 rfl (by decide) rfl (by decide) ⟨rfl, (Cl.c rfl), ⟨rfl, (Cl.c rfl), ⟨rfl, (Cl.c rfl), ⟨rfl, (Cl.c rfl), trivial⟩⟩⟩⟩ fun v49 => ⟨Gh.le_refl _, PickC.pick, ?_⟩)
         · refine RH.up1 ?_
           refine RH.pv rfl (fun _ _ _ _ h => h) (Gh.le_refl _) PickC.pick rfl (PV.idxS (v := v39) rfl Is26 rfl SlF.o rfl rfl (by omega)) ?_
           refine RH.pv rfl (fun _ _ _ _ h => h) (Gh.le_refl _) PickC.pick rfl (PV.loadE1 rfl Sc2 rfl rfl (El.o (getG (by omega))) rfl) ?_
           refine RH.pv rfl (fun _ _ _ _ h => h) (Gh.le_refl _) PickC.pick rfl (PV.add rfl rfl rfl (by omega)) ?_
           refine RH.ot rfl rfl (OT.bslice (F := intT) (els := [_, _, _, _]) rfl El26 rfl (by decide) rfl (by decide) ⟨rfl, (Cl.c rfl), ⟨rfl, (Cl.c rfl), ⟨rfl, (Cl.c rfl), ⟨rfl, (Cl.c rfl), trivial⟩⟩⟩⟩ fun v49 => ⟨Gh.le_refl _, PickC.pick, ?_⟩)
           refine RH.up1 ?_
           refine RH.pv rfl (fun _ _ _ _ h => h) (Gh.le_refl _) PickC.pick rfl (PV.idxS (v := v49) rfl Is26 rfl SlF.o rfl rfl (by omega)) ?_
           refine RH.pv rfl (fun _ _ _ _ h => h) (Gh.le_refl _) PickC.pick rfl (PV.loadE1 rfl Sc2 rfl rfl (El.o (getG (by omega))) rfl) ?_
           refine RH.pv rfl (fun _ _ _ _ h => h) (Gh.le_refl _) PickC.pick rfl (PV.add rfl rfl rfl (by omega)) ?_
           refine RH.pv rfl (fun _ _ _ _ h => h) (Gh.le_refl _) PickC.pick rfl (PV.build (vs := [(0, [vi _]), (1, [vi _])]) (out := [_, _]) rfl Zr183 Pl183 ⟨rfl, (Cl.c rfl), ⟨rfl, (Cl.c rfl), trivial⟩⟩ rfl) ?_
           refine RH.ot rfl rfl (OT.storeW (vs := [vi _, vi _]) rfl Sz183 rfl rfl (Cl.c rfl) rfl rfl (OneC.c rfl) ⟨Gh.le_refl _, PickC.pick, ?_⟩)
           refine RH.nil ?_
           exact ⟨rfl, b11, trivial, ⟨rfl, trivial⟩, ⟨rfl, rfl, rfl, rfl, rfl, trivial⟩, (Cv.p (C := blk b11 183 [vi ((gd (Q1.map ptOf) i).x + gd [1, -1, 0, 0] d), vi ((gd (Q1.map ptOf) i).y + gd [0, 0, 1, -1] d)] :: osl 4 boolT v14 O1 :: osl 183 ptT qv1 (Q1.map ptOf) :: L)).trans (Cv.cast (by rw [ex, ey]; rfl))⟩
         · refine RH.up1 ?_
           refine RH.pv rfl (fun _ _ _ _ h => h) (Gh.le_refl _) PickC.pick rfl (PV.idxS (v := v49) rfl Is26 rfl SlF.o rfl rfl (by omega)) ?_
           refine RH.pv rfl (fun _ _ _ _ h => h) (Gh.le_refl _) PickC.pick rfl (PV.loadE1 rfl Sc2 rfl rfl (El.o (getG (by omega))) rfl) ?_
           refine RH.pv rfl (fun _ _ _ _ h => h) (Gh.le_refl _) PickC.pick rfl (PV.add rfl rfl rfl (by omega)) ?_
           refine RH.ot rfl rfl (OT.bslice (F := intT) (els := [_, _, _, _]) rfl El26 rfl (by decide) rfl (by decide) ⟨rfl, (Cl.c rfl), ⟨rfl, (Cl.c rfl), ⟨rfl, (Cl.c rfl), ⟨rfl, (Cl.c rfl), trivial⟩⟩⟩⟩ fun v39 => ⟨Gh.le_refl _, PickC.pick, ?_⟩)
           refine RH.up1 ?_
           refine RH.pv rfl (fun _ _ _ _ h => h) (Gh.le_refl _) PickC.pick rfl (PV.idxS (v := v39) rfl Is26 rfl SlF.o rfl rfl (by omega)) ?_
           refine RH.pv rfl (fun _ _ _ _ h => h) (Gh.le_refl _) PickC.pick rfl (PV.loadE1 rfl Sc2 rfl rfl (El.o (getG (by omega))) rfl) ?_
           refine RH.pv rfl (fun _ _ _ _ h => h) (Gh.le_refl _) PickC.pick rfl (PV.add rfl rfl rfl (by omega)) ?_
           refine RH.pv rfl (fun _ _ _ _ h => h) (Gh.le_refl _) PickC.pick rfl (PV.build (vs := [(0, [vi _]), (1, [vi _])]) (out := [_, _]) rfl Zr183 Pl183 ⟨rfl, (Cl.c rfl), ⟨rfl, (Cl.c rfl), trivial⟩⟩ rfl) ?_
           refine RH.ot rfl rfl (OT.storeW (vs := [vi _, vi _]) rfl Sz183 rfl rfl (Cl.c rfl) rfl rfl (OneC.c rfl) ⟨Gh.le_refl _, PickC.pick, ?_⟩)
           refine RH.nil ?_
           exact ⟨rfl, b11, trivial, ⟨rfl, trivial⟩, ⟨rfl, rfl, rfl, rfl, rfl, trivial⟩, (Cv.p (C := blk b11 183 [vi ((gd (Q1.map ptOf) i).x + gd [1, -1, 0, 0] d), vi ((gd (Q1.map ptOf) i).y + gd [0, 0, 1, -1] d)] :: osl 4 boolT v14 O1 :: osl 183 ptT qv1 (Q1.map ptOf) :: L)).trans (Cv.cast (by rw [ex, ey]; rfl))⟩
     · have ej : ((gd Q1 i).2 - 40 + dY d + 40) * 80 + ((gd Q1 i).1 - 40 + dX d) + 40 = ((gd Q1 i).2 + dY d) * 80 + ((gd Q1 i).1 + dX d) := by omega
       rintro b11 τ2 _
       refine WP.seq (WP.region (RG.pv rfl (PV.move (v := v) rfl rfl) (RG.pv rfl (PV.field rfl Fo183_0 rfl) (RG.pv rfl (PV.load1 rfl Sc2 rfl (Rd.blk rfl)) (RG.pv rfl (PV.field rfl Fo183_1 rfl) (RG.pv rfl (PV.load1 rfl Sc2 rfl (Rd.blk rfl)) ?_))))))
       refine RG.callF (vs := [v, _, _]) rfl rfl En160 rfl (l17Cell_s (Rs.up h1) hS ?_)
       refine RG.bl rfl rfl rfl ?_
       refine RG.gs rfl rfl rfl (fun hp => (PV.move (v := v14) rfl rfl)) ?_
       refine RG.gs rfl rfl rfl (fun hp => (PV.field rfl Fo183_0 rfl)) ?_
       refine RG.gs rfl rfl rfl (fun hp => (PV.load1 rfl Sc2 (gs_t hp) (Rd.blk rfl))) ?_
       refine RG.gs rfl rfl rfl (fun hp => (PV.field rfl Fo183_1 rfl)) ?_
       refine RG.gs rfl rfl rfl (fun hp => (PV.load1 rfl Sc2 (gs_t hp) (Rd.blk rfl))) ?_
       refine RG.gsC rfl rfl rfl rfl En194 (fun hp => ⟨_, (acons (gs_t hp) (acons (gs_t hp) anil)), l17At_s (by first | omega | (simp at hp; omega)) (by first | omega | (simp at hp; omega)) ⟨rfl, rfl, rfl⟩⟩) ?_
       refine RG.gs rfl rfl rfl (fun hp => (PV.idxS (j := ((gd Q1 i).2 + dY d).toNat * 80 + ((gd Q1 i).1 + dX d).toNat) (v := v14) rfl Is109 (gs_t hp) SlF.o (gs_t hp) (by first | omega | (simp at hp; omega)) (by first | omega | (simp at hp; omega)))) ?_
       refine RG.gs rfl rfl rfl (fun hp => (PV.loadE1 rfl Sc4 (gs_t hp) rfl (El.o (getG (by first | omega | (simp at hp; omega)))) rfl)) ?_
       refine RG.gs rfl rfl rfl (fun hp => (PV.not rfl (gs_t hp))) ?_
       refine RG.pv rfl (PV.pickA rfl rfl (fun hq => gs_t (geqT hq)) rfl) (RG.nil ?_)
       refine WP.cond rfl (fun h4 => ?_) (fun h4 => ?_)
       · have h5 : ((-40 ≤ (gd Q1 i).1 - 40 + dX d ∧ (gd Q1 i).1 - 40 + dX d < 40) ∧ (-40 ≤ (gd Q1 i).2 - 40 + dY d ∧ (gd Q1 i).2 - 40 + dY d < 40)) ∧ gb S ((gd Q1 i).2 + dY d).toNat ((gd Q1 i).1 + dX d).toNat = true ∧ gb O1 ((gd Q1 i).2 + dY d).toNat ((gd Q1 i).1 + dX d).toNat = false := by
           simp only [Bool.and_eq_true, decide_eq_true_eq, Bool.not_eq_true', ej] at h4
           obtain ⟨⟨⟨a1, a2⟩, a3⟩, a4⟩ := h4
           rw [show (((gd Q1 i).2 + dY d) * 80 + ((gd Q1 i).1 + dX d)).toNat = ((gd Q1 i).2 + dY d).toNat * 80 + ((gd Q1 i).1 + dX d).toNat by omega] at a3
           exact ⟨⟨a1, a2⟩, a3, a4⟩
         obtain ⟨⟨a1, a2⟩, a3, a4⟩ := h5
         refine WP.seq (WP.region (RG.pv rfl (PV.move (v := v14) rfl rfl) (RG.pv rfl (PV.field rfl Fo183_0 rfl) (RG.pv rfl (PV.load1 rfl Sc2 rfl (Rd.blk rfl)) (RG.pv rfl (PV.field rfl Fo183_1 rfl) (RG.pv rfl (PV.load1 rfl Sc2 rfl (Rd.blk rfl)) ?_))))))
         refine RG.callF (vs := [_, _]) rfl rfl En194 rfl (l17At_s (by first | omega | (simp at hp; omega)) (by first | omega | (simp at hp; omega)) ?_)
         refine RG.pv rfl (PV.idxS (j := ((gd Q1 i).2 + dY d).toNat * 80 + ((gd Q1 i).1 + dX d).toNat) (v := v14) rfl Is109 rfl SlF.o rfl (by omega) (by omega)) ?_
         refine RG.ot rfl (OT.storeE (F := boolT) rfl Sz4 rfl rfl rfl (Cl.c rfl) (OneC.c rfl) (by omega) ?_)
         refine RG.nil (WP.region (RG.pv rfl (PV.move (v := qv1) rfl rfl) (RG.pv rfl (PV.loadW rfl Ag183 rfl rfl) ?_)))
         refine RG.ot rfl (OT.bslice (F := ptT) (els := [⟨_, _⟩]) rfl El263 rfl (by decide) rfl (by decide) ⟨rfl, (Cl.c rfl), trivial⟩ fun v81 => ?_)
         refine RG.ot rfl (OT.append (v := qv1) (u := v81) (F := ptT) rfl El263 rfl (by decide) rfl rfl Rs.o (OneL.c (fun _ => rfl)) rfl (by first | omega | (simp <;> omega)) fun v82 => ?_)
         refine RG.pv rfl (PV.asg (v := v82) rfl rfl) (RG.nil (WP.region (RG.ml rfl rfl rfl (RG.pv rfl (PV.add rfl rfl rfl (by omega)) (RG.mr rfl rfl rfl (RG.nil ?_))))))
         have ep : ptOf ((gd Q1 i).1 + dX d, (gd Q1 i).2 + dY d) = ⟨(gd Q1 i).1 - 40 + dX d, (gd Q1 i).2 - 40 + dY d⟩ := by simp only [ptOf, Pt.mk.injEq]; omega
         have ha := adj4 (q := gd Q1 i) (d := d) (by omega) hb1 (by omega) (by omega)
         exact ⟨rfl, d + 1, (Q1 ++ [((gd Q1 i).1 + dX d, (gd Q1 i).2 + dY d)]), (O1.set (((gd Q1 i).2 + dY d).toNat * 80 + ((gd Q1 i).1 + dX d).toNat) true), v82, ⟨by omega, hF1.add ⟨by omega, by omega⟩ ⟨by omega, by omega⟩ a4 a3 hi1 ha, hD1.add hi1 (fun c hc => on_set hl1 ⟨by omega, by omega⟩ ⟨by omega, by omega⟩ hc), on_set hl1 ⟨by omega, by omega⟩ ⟨by omega, by omega⟩ h01, by simp; omega, by rw [gd_app_l hi1]; exact hq1, by rw [← hq1] at hN1 ⊢; exact hN1.take hl1 hb1 (by omega) (by omega)⟩, ⟨rfl, rfl, trivial⟩, ⟨rfl, rfl, rfl, trivial⟩, (Cv.p (C := osl 4 boolT v14 (O1.set (((gd Q1 i).2 + dY d).toNat * 80 + ((gd Q1 i).1 + dX d).toNat) true) :: osl 183 ptT v82 (Q1.map ptOf ++ [⟨(gd Q1 i).1 - 40 + dX d, (gd Q1 i).2 - 40 + dY d⟩]) :: L)).trans (Cv.cast (by rw [List.map_append, ← ep]; rfl)), by omega⟩
       · refine WP.skip ?_
         refine WP.region (RG.ml rfl rfl rfl (RG.pv rfl (PV.add rfl rfl rfl (by omega)) (RG.mr rfl rfl rfl (RG.nil ?_))))
         refine ⟨rfl, d + 1, Q1, O1, qv1, ⟨by omega, hF1, hD1, h01, hi1, hq1, ?_⟩, ⟨rfl, rfl, trivial⟩, ⟨rfl, rfl, rfl, trivial⟩, Cv.p, by omega⟩
         rw [← hq1] at hN1 ⊢
         refine hN1.skip hb1 ?_
         by_cases hin : 0 ≤ (gd Q1 i).1 + dX d ∧ (gd Q1 i).1 + dX d < 80 ∧ 0 ≤ (gd Q1 i).2 + dY d ∧ (gd Q1 i).2 + dY d < 80
         · refine .inr ?_
           simp only [Bool.and_eq_false_iff, decide_eq_false_iff_not, Bool.not_eq_false', ej] at h4
           rw [show (((gd Q1 i).2 + dY d) * 80 + ((gd Q1 i).1 + dX d)).toNat = ((gd Q1 i).2 + dY d).toNat * 80 + ((gd Q1 i).1 + dX d).toNat by omega] at h4
           rcases h4 with (((a | a) | a) | a)
           · omega
           · omega
           · exact .inl a
           · exact .inr a
         · exact .inl hin
   · have h3 := of_decide_eq_false h3
     refine WP.exit ?_
     refine WP.region (RG.ml rfl rfl rfl (RG.pv rfl (PV.add rfl rfl rfl (by omega)) (RG.mr rfl rfl rfl (RG.nil ?_))))
     exact ⟨rfl, i + 1, Q1, O1, qv1, ⟨by omega, hF1, hD1.next4 (by rw [hq1]) (by obtain rfl : d = 4 := (by omega); exact hN1), h01⟩, ⟨rfl, rfl, trivial⟩, ⟨rfl, rfl, trivial⟩, Cv.p, by omega⟩
 · have h2 := of_decide_eq_false h2
   obtain rfl : i = Q.length := by omega
   have e := hF.final hseed h0 hD
   rw [e] at hF
   refine WP.exit ?_
   refine WP.seq (WP.region (RG.pv rfl (PV.move (v := qv) rfl rfl) (RG.pv rfl (PV.asg (v := qv) rfl rfl) (RG.nil ?_))))
   refine WP.ret ?_
   exact ⟨_, _, ResV.one rfl rfl, Cv.p, k qv Q hF⟩
/-- the cells of the first n places of the queue -/
def PQ (Q : List (Int × Int)) (n : Nat) (P : List Bool) : Prop := P.length = 6400 ∧ ∀ y x, y < 80 → x < 80 → (gb P y x = true ↔ ∃ m, m < n ∧ qc (gd Q m) = (y, x))
theorem PQ.zero (Q : List (Int × Int)) : PQ Q 0 (List.replicate 6400 false) := ⟨List.length_replicate, fun y x _ _ => by rw [gb_rep']; simp⟩
theorem PQ.step {Q : List (Int × Int)} {n : Nat} {P : List Bool} (h : PQ Q n P) (hb : 0 ≤ (gd Q n).1 ∧ (gd Q n).1 < 80 ∧ 0 ≤ (gd Q n).2 ∧ (gd Q n).2 < 80) : PQ Q (n + 1) (P.set ((gd Q n).2.toNat * 80 + (gd Q n).1.toNat) true) := by
 refine ⟨by simpa using h.1, fun y x hy hx => ?_⟩
 rw [gb_set' h.1 (by omega) (by omega) hx]
 by_cases e : y = (gd Q n).2.toNat ∧ x = (gd Q n).1.toNat
 · rw [if_pos e]
   exact ⟨fun _ => ⟨n, by omega, by rw [qc, e.1, e.2]⟩, fun _ => rfl⟩
 · rw [if_neg e, h.2 y x hy hx]
   constructor
   · rintro ⟨m, hm, he⟩; exact ⟨m, by omega, he⟩
   · rintro ⟨m, hm, he⟩
     by_cases c : m = n
     · subst c; exfalso; apply e; simp only [qc, Prod.mk.injEq] at he; omega
     · exact ⟨m, by omega, he⟩
theorem PQ.final {S : List Bool} {a : Cel} {Q : List (Int × Int)} {P : List Bool} (hF : FI S a (compB S a) Q) (h : PQ Q Q.length P) : P = compB S a := by
 refine gb_ext h.1 (compB_len _ _) fun y x hy hx => ?_
 rw [Bool.eq_iff_iff, h.2 y x hy hx]
 constructor
 · rintro ⟨m, hm, he⟩; have := (hF.on m hm).2.2; rw [he] at this; exact this
 · intro hg; exact hF.all (y, x) ⟨hy, hx, hg⟩
/-- what is left when the cells of P are taken away -/
def MQ (T P U : List Bool) : Prop := U.length = 6400 ∧ ∀ y x, y < 80 → x < 80 → gb U y x = (gb T y x && !gb P y x)
theorem MQ.zero {T : List Bool} (h : T.length = 6400) : MQ T (List.replicate 6400 false) T := ⟨h, fun y x _ _ => by rw [gb_rep']; simp⟩
theorem MQ.step {T P U : List Bool} (h : MQ T P U) (hP : P.length = 6400) {v u : Nat} (hv : v < 80) (hu : u < 80) : MQ T (P.set (v * 80 + u) true) (U.set (v * 80 + u) false) := by
 refine ⟨by simpa using h.1, fun y x hy hx => ?_⟩
 rw [gb_set' h.1 hv hu hx, gb_set' hP hv hu hx]
 by_cases e : y = v ∧ x = u
 · rw [if_pos e, if_pos e]; simp
 · rw [if_neg e, if_neg e]; exact h.2 y x hy hx
theorem comps_s {v : Value} {S : List Bool} (h1 : Rs G L boolT v S) (hS : S.length = 6400) (k : ∀ v' zs, er zs = comps S → R v' G (osl 109 slT v' zs :: bagS 4 boolT zs :: L)) : CallT Tryz.prog 145 #[v] G L R := by
 have hrl : (List.replicate S.length false).length = 6400 := by simp [hS]
 refine CallT.enter (args := _) Tryz.func145 rfl rfl (by kernel_rfl) rfl ?_
 refine WP.seq (WP.region (RG.pv rfl (PV.asg rfl rfl) (RG.nil (WP.seq (WP.region ?_)))))
 refine RG.ot rfl (OT.bslice (F := (slT (α := Bool))) (els := []) rfl El211 rfl (by decide) rfl (by decide) trivial fun v10 => ?_)
 refine RG.pv rfl (PV.asg (v := v10) rfl rfl) (RG.nil (WP.seq (WP.region ?_)))
 refine RG.ot rfl (OT.bslice (F := boolT) (els := []) rfl El109 rfl (by decide) rfl (by decide) trivial fun v11 => ?_)
 refine RG.pv rfl (PV.move (v := v) rfl rfl) ?_
 refine RG.ot rfl (OT.append (v := v11) (u := v) (F := boolT) rfl El109 rfl (by decide) rfl rfl (Rs.up h1) (OneL.c (fun _ => rfl)) rfl (by first | omega | (simp <;> omega)) fun v13 => ?_)
 refine RG.pv rfl (PV.asg (v := v13) rfl rfl) (RG.nil (WP.seq (WP.seq (WP.region (RG.mr rfl rfl rfl (RG.nil (WP.block ?_)))))))
 refine WP.cv (((Cv.p (C := osl 109 slT v10 ([] : List (Sl Bool)) :: osl 4 boolT v13 ([] ++ S) :: L)).trans (Cv.cons (Cv.bag0 (e := 4) (F := boolT) (xs := []) rfl))).trans (Cv.cast (by rw [List.nil_append]))) ?_
 refine WP.loop4 [0, 4] (fun (yy : Int) (T : List Bool) (zs : List (Sl Bool)) (q : Value) => (-40 ≤ yy ∧ yy ≤ 40) ∧ PI id S ((yy + 40).toNat * 80) T (er zs)) (fun (yy : Int) (T : List Bool) (zs : List (Sl Bool)) (q : Value) => [(5, vi yy), (3, q)]) (fun (yy : Int) (T : List Bool) (zs : List (Sl Bool)) (q : Value) => osl 4 boolT v13 T :: osl 109 slT q zs :: bagS 4 boolT zs :: L) (fun (yy : Int) (T : List Bool) (zs : List (Sl Bool)) (q : Value) => (40 - yy).toNat) (-40) S [] v10 ⟨by omega, PI.start hS⟩ ⟨rfl, rfl, trivial⟩ Cv.p ?_
 rintro yy T zs q τ ⟨hy, hP⟩
 refine WP.seq (WP.seq (WP.region (RG.ml rfl rfl rfl (RG.pv rfl (PV.lss rfl rfl rfl) (RG.nil ?_)))))
 obtain ⟨y, rfl⟩ : ∃ n : Nat, yy = (n : Int) - 40 := ⟨(yy + 40).toNat, by omega⟩
 rw [show ((y : Int) - 40 + 40).toNat = y by omega] at hP
 refine WP.cond rfl (fun h2 => ?_) (fun h2 => ?_)
 · have h2 := of_decide_eq_true h2
   refine WP.skip (WP.seq (WP.block (WP.seq (WP.region (RG.mr rfl rfl rfl (RG.nil (WP.block ?_)))))))
   refine WP.loop4 [0, 4, 5] (fun (xx : Int) (T1 : List Bool) (zs1 : List (Sl Bool)) (q1 : Value) => (-40 ≤ xx ∧ xx ≤ 40) ∧ PI id S (y * 80 + (xx + 40).toNat) T1 (er zs1)) (fun (xx : Int) (T1 : List Bool) (zs1 : List (Sl Bool)) (q1 : Value) => [(6, vi xx), (3, q1)]) (fun (xx : Int) (T1 : List Bool) (zs1 : List (Sl Bool)) (q1 : Value) => osl 4 boolT v13 T1 :: osl 109 slT q1 zs1 :: bagS 4 boolT zs1 :: L) (fun (xx : Int) (T1 : List Bool) (zs1 : List (Sl Bool)) (q1 : Value) => (40 - xx).toNat) (-40) T zs q ⟨by omega, by rw [show ((-40 : Int) + 40).toNat = 0 from rfl]; exact hP⟩ ⟨rfl, rfl, trivial⟩ Cv.p ?_
   rintro xx T1 zs1 q1 τ1 ⟨hx, hP1⟩
   refine WP.seq (WP.seq (WP.region (RG.ml rfl rfl rfl (RG.pv rfl (PV.lss rfl rfl rfl) (RG.nil ?_)))))
   obtain ⟨x, rfl⟩ : ∃ n : Nat, xx = (n : Int) - 40 := ⟨(xx + 40).toNat, by omega⟩
   rw [show ((x : Int) - 40 + 40).toNat = x by omega] at hP1
   refine WP.cond rfl (fun h3 => ?_) (fun h3 => ?_)
   · have h3 := of_decide_eq_true h3
     have hl1 := hP1.len
     have hzl : zs1.length ≤ y * 80 + x := by
       have := congrArg List.length hP1.er
       have h1 := firsts_len S (y * 80 + x)
       rw [er_len, List.length_map] at this; omega
     have e1 : (y * 80 + x) / 80 = y := by omega
     have e2 : (y * 80 + x) % 80 = x := by omega
     have e3 : cel (y * 80 + x) = (y, x) := by rw [cel, e1, e2]
     have e4 : ((x : Int) - 40 + 1 + 40).toNat = x + 1 := by omega
     refine WP.skip (WP.seq (WP.block (WP.seq (WP.seq (WP.region (RG.pv rfl (PV.move (v := v13) rfl rfl) (RG.ml rfl rfl rfl ?_)))))))
     refine RG.ml rfl rfl rfl ?_
     refine RG.callF (vs := [_, _]) rfl rfl En194 rfl (l17At_s (by omega) (by omega) ?_)
     refine RG.pv rfl (PV.idxS (j := y * 80 + x) (v := v13) rfl Is109 rfl SlF.o rfl (by omega) (by omega)) (RG.pv rfl (PV.loadE1 rfl Sc4 rfl rfl (El.o (getG (by omega))) rfl) (RG.pv rfl (PV.not rfl rfl) (RG.nil ?_)))
     refine WP.cond rfl (fun h4 => ?_) (fun h4 => ?_)
     · have h5 : gb T1 y x = false := by rw [gb]; simpa using h4
       refine WP.exit ?_
       refine WP.region (RG.ml rfl rfl rfl (RG.pv rfl (PV.add rfl rfl rfl (by omega)) (RG.mr rfl rfl rfl (RG.nil ?_))))
       exact ⟨rfl, (x : Int) - 40 + 1, T1, zs1, q1, ⟨by omega, by rw [e4]; exact hP1.skip (by omega) (by rw [e1, e2]; exact h5)⟩, ⟨rfl, rfl, trivial⟩, ⟨rfl, rfl, rfl, trivial⟩, Cv.p, by omega⟩
     · have h5 : gb T1 y x = true := by rw [gb]; simpa using h4
       refine WP.skip (WP.seq (WP.region (RG.pv rfl (PV.move (v := v13) rfl rfl) (RG.ml rfl rfl rfl (RG.ml rfl rfl rfl ?_)))))
       refine RG.callF (vs := [v13, _, _]) rfl rfl En195 rfl (visit_s (x := (x : Int)) (y := (y : Int)) Rs.o hl1 (by omega) (by omega) (by rw [Int.toNat_natCast, Int.toNat_natCast]; exact h5) (fun v32 Q hQ => ?_))
       refine RG.pv rfl (PV.asg (v := v32) rfl rfl) (RG.nil (WP.seq (WP.region (RG.pv rfl (PV.move (v := v) rfl rfl) (RG.pv rfl (PV.len (v := v) rfl Tryz.underlying109 rfl (SlF.r h1)) ?_)))))
       refine RG.ot rfl (OT.make (F := boolT) (a0 := false) rfl El109 rfl (by decide) rfl rfl (by omega) (by omega) fun v35 => ?_)
       refine RG.pv rfl (PV.asg (v := v35) rfl rfl) (RG.nil (WP.seq (WP.seq (WP.region (RG.mr rfl rfl rfl (RG.nil (WP.block ?_)))))))
       rw [Int.toNat_natCast, Int.toNat_natCast, ← e3] at hQ
       have hQl := hQ.len_le
       have hml : (Q.map ptOf).length = Q.length := by simp
       refine WP.loop3 [0, 3, 4, 5, 6, 7, 8] (fun (i : Nat) (P U : List Bool) => i ≤ Q.length ∧ PQ Q i P ∧ MQ T1 P U) (fun (i : Nat) (P U : List Bool) => [(9, vi i)]) (fun (i : Nat) (P U : List Bool) => osl 4 boolT v35 P :: osl 4 boolT v13 U :: osl 183 ptT v32 (Q.map ptOf) :: osl 109 slT q1 zs1 :: bagS 4 boolT zs1 :: L) (fun (i : Nat) (P U : List Bool) => Q.length - i) 0 (List.replicate S.length false) T1 ⟨by omega, by rw [hS]; exact PQ.zero Q, by rw [hS]; exact MQ.zero hl1⟩ ⟨rfl, trivial⟩ Cv.p ?_
       rintro i P U τ2 ⟨hi, hPQ, hMQ⟩
       refine WP.seq (WP.seq (WP.region (RG.ml rfl rfl rfl (RG.pv rfl (PV.move (v := v32) rfl rfl) (RG.pv rfl (PV.len (v := v32) rfl Tryz.underlying263 rfl SlF.o) (RG.pv rfl (PV.lss rfl rfl rfl) (RG.nil ?_)))))))
       refine WP.cond rfl (fun h6 => ?_) (fun h6 => ?_)
       · have h6 := of_decide_eq_true h6
         have hPl := hPQ.1
         have hUl := hMQ.1
         have hbq := hQ.bd i (by omega)
         have e5 : gd (Q.map ptOf) i = ⟨(gd Q i).1 - 40, (gd Q i).2 - 40⟩ := gd_pt (by omega)
         have ex : (gd (Q.map ptOf) i).x = (gd Q i).1 - 40 := by rw [e5]
         have ey : (gd (Q.map ptOf) i).y = (gd Q i).2 - 40 := by rw [e5]
         refine WP.skip (WP.seq (WP.block (WP.seq ?_)))
         refine WP.regionHD [.s v35] (.q 0 (.q 1 (.q 2 (.q 3 (.q 4 (.q 5 (.q 6 (.q 7 (.q 8 (.q 9 (.q 10 (.l 11 (.l 12 (.l 13 Sch.nil)))))))))))))) (by kernel_rfl) (by kernel_rfl) (by kernel_rfl) rfl ?_
         refine RH.pv rfl (fun _ _ _ _ h => h) (Gh.le_refl _) PickC.pick rfl (PV.move (v := v35) rfl rfl) ?_
         refine RH.pv rfl (fun _ _ _ _ h => h) (Gh.le_refl _) PickC.pick rfl (PV.move (v := v32) rfl rfl) ?_
         refine RH.pv rfl (fun _ _ _ _ h => h) (Gh.le_refl _) PickC.pick rfl (PV.mvI (.inl rfl) rfl) ?_
         refine RH.pv rfl (fun _ _ _ _ h => h) (Gh.le_refl _) PickC.pick rfl (PV.idxS (v := v32) rfl Is263 rfl SlF.o rfl rfl (by omega)) ?_
         refine RH.pv rfl (fun _ _ _ _ h => h) (Gh.le_refl _) PickC.pick rfl (PV.field rfl Fo183_0 rfl) ?_
         refine RH.pv rfl (fun _ _ _ _ h => h) (Gh.le_refl _) PickC.pick rfl (PV.loadF rfl Sc2 rfl rfl (El.o (getG (by omega))) rfl) ?_
         refine RH.pv rfl (fun _ _ _ _ h => h) (Gh.le_refl _) PickC.pick rfl (PV.move (v := v32) rfl rfl) ?_
         refine RH.pv rfl (fun _ _ _ _ h => h) (Gh.le_refl _) PickC.pick rfl (PV.mvI (.inl rfl) rfl) ?_
         refine RH.pv rfl (fun _ _ _ _ h => h) (Gh.le_refl _) PickC.pick rfl (PV.idxS (v := v32) rfl Is263 rfl SlF.o rfl rfl (by omega)) ?_
         refine RH.pv rfl (fun _ _ _ _ h => h) (Gh.le_refl _) PickC.pick rfl (PV.field rfl Fo183_1 rfl) ?_
         refine RH.pv rfl (fun _ _ _ _ h => h) (Gh.le_refl _) PickC.pick rfl (PV.loadF rfl Sc2 rfl rfl (El.o (getG (by omega))) rfl) ?_
         refine RH.ot rfl rfl (OT.callF (vs := [_, _]) rfl En194 rfl (l17At_s (by omega) (by omega) ⟨Gh.le_refl _, PickC.pick, ?_⟩))
         refine RH.ot rfl rfl (OT.pv (PV.idxS (j := (gd Q i).2.toNat * 80 + (gd Q i).1.toNat) (v := v35) rfl Is109 rfl SlF.o rfl (by omega) (by omega)) ⟨Gh.le_refl _, PickC.pick, ?_⟩)
         refine RH.ot rfl rfl (OT.storeE (F := boolT) rfl Sz4 rfl rfl rfl (Cl.c rfl) (OneC.c rfl) (by omega) ⟨Gh.le_refl _, PickC.pick, ?_⟩)
         refine RH.nil ?_
         refine WP.regionHD [.s v13] (.q 0 (.q 1 (.q 2 (.q 3 (.q 4 (.q 5 (.q 6 (.q 7 (.q 8 (.q 9 (.q 10 (.l 11 (.l 12 (.l 13 Sch.nil)))))))))))))) (by kernel_rfl) (by kernel_rfl) (by kernel_rfl) rfl ?_
         refine RH.pv rfl (fun _ _ _ _ h => h) (Gh.le_refl _) PickC.pick rfl (PV.move (v := v13) rfl rfl) ?_
         refine RH.pv rfl (fun _ _ _ _ h => h) (Gh.le_refl _) PickC.pick rfl (PV.move (v := v32) rfl rfl) ?_
         refine RH.pv rfl (fun _ _ _ _ h => h) (Gh.le_refl _) PickC.pick rfl (PV.mvI (.inl rfl) rfl) ?_
         refine RH.pv rfl (fun _ _ _ _ h => h) (Gh.le_refl _) PickC.pick rfl (PV.idxS (v := v32) rfl Is263 rfl SlF.o rfl rfl (by omega)) ?_
         refine RH.pv rfl (fun _ _ _ _ h => h) (Gh.le_refl _) PickC.pick rfl (PV.field rfl Fo183_0 rfl) ?_
         refine RH.pv rfl (fun _ _ _ _ h => h) (Gh.le_refl _) PickC.pick rfl (PV.loadF rfl Sc2 rfl rfl (El.o (getG (by omega))) rfl) ?_
         refine RH.pv rfl (fun _ _ _ _ h => h) (Gh.le_refl _) PickC.pick rfl (PV.move (v := v32) rfl rfl) ?_
         refine RH.pv rfl (fun _ _ _ _ h => h) (Gh.le_refl _) PickC.pick rfl (PV.mvI (.inl rfl) rfl) ?_
         refine RH.pv rfl (fun _ _ _ _ h => h) (Gh.le_refl _) PickC.pick rfl (PV.idxS (v := v32) rfl Is263 rfl SlF.o rfl rfl (by omega)) ?_
         refine RH.pv rfl (fun _ _ _ _ h => h) (Gh.le_refl _) PickC.pick rfl (PV.field rfl Fo183_1 rfl) ?_
         refine RH.pv rfl (fun _ _ _ _ h => h) (Gh.le_refl _) PickC.pick rfl (PV.loadF rfl Sc2 rfl rfl (El.o (getG (by omega))) rfl) ?_
         refine RH.ot rfl rfl (OT.callF (vs := [_, _]) rfl En194 rfl (l17At_s (by omega) (by omega) ⟨Gh.le_refl _, PickC.pick, ?_⟩))
         refine RH.ot rfl rfl (OT.pv (PV.idxS (j := (gd Q i).2.toNat * 80 + (gd Q i).1.toNat) (v := v13) rfl Is109 rfl SlF.o rfl (by omega) (by omega)) ⟨Gh.le_refl _, PickC.pick, ?_⟩)
         refine RH.ot rfl rfl (OT.storeE (F := boolT) rfl Sz4 rfl rfl rfl (Cl.c rfl) (OneC.c rfl) (by omega) ⟨Gh.le_refl _, PickC.pick, ?_⟩)
         refine RH.nil ?_
         refine WP.region (RG.ml rfl rfl rfl (RG.pv rfl (PV.add rfl rfl rfl (by omega)) (RG.mr rfl rfl rfl (RG.nil ?_))))
         exact ⟨rfl, i + 1, (P.set ((gd Q i).2.toNat * 80 + (gd Q i).1.toNat) true), (U.set ((gd Q i).2.toNat * 80 + (gd Q i).1.toNat) false), ⟨by omega, hPQ.step hbq, hMQ.step hPl (by omega) (by omega)⟩, ⟨rfl, trivial⟩, ⟨rfl, rfl, rfl, rfl, rfl, rfl, rfl, trivial⟩, Cv.p, by omega⟩
       · have h6 := of_decide_eq_false h6
         obtain rfl : i = Q.length := by omega
         obtain rfl := hPQ.final hQ
         refine WP.exit ?_
         refine WP.region (RG.pv rfl (PV.move (v := q1) rfl rfl) (RG.pv rfl (PV.move (v := v35) rfl rfl) ?_))
         refine RG.ot rfl (OT.bslice (F := (slT (α := Bool))) (els := [⟨v35, compB T1 (cel (y * 80 + x))⟩]) rfl El211 rfl (by decide) rfl (by decide) ⟨rfl, (Cl.s (v := v35) SlF.o), trivial⟩ fun v70 => ?_)
         refine RG.ot rfl (OT.append (v := q1) (u := v70) (F := (slT (α := Bool))) rfl El211 rfl (by decide) rfl rfl Rs.o (OneL.one (OneC.sl SlF.o OneC.nil)) rfl (by first | omega | (simp <;> omega)) fun v71 => ?_)
         refine RG.pv rfl (PV.asg (v := v71) rfl rfl) (RG.nil (WP.region (RG.ml rfl rfl rfl (RG.pv rfl (PV.add rfl rfl rfl (by omega)) (RG.mr rfl rfl rfl (RG.nil ?_))))))
         refine ⟨rfl, (x : Int) - 40 + 1, U, (zs1 ++ [⟨v35, compB T1 (cel (y * 80 + x))⟩]), v71, ⟨by omega, ?_⟩, ⟨rfl, rfl, trivial⟩, ⟨rfl, rfl, rfl, trivial⟩, ((Cv.p (C := osl 4 boolT v35 (compB T1 (cel (y * 80 + x))) :: bagS 4 boolT zs1 :: osl 4 boolT v13 U :: osl 109 slT v71 (zs1 ++ [⟨v35, compB T1 (cel (y * 80 + x))⟩]) :: L)).trans (Cv.bagS_add.trans Cv.p)), by omega⟩
         rw [e4, er, List.map_append]
         exact hP1.take (by omega) (by rw [e1, e2]; exact h5) hMQ.1 hMQ.2
   · have h3 := of_decide_eq_false h3
     obtain rfl : x = 80 := by omega
     refine WP.exit ?_
     refine WP.region (RG.ml rfl rfl rfl (RG.pv rfl (PV.add rfl rfl rfl (by omega)) (RG.mr rfl rfl rfl (RG.nil ?_))))
     exact ⟨rfl, (y : Int) - 40 + 1, T1, zs1, q1, ⟨by omega, by rw [show ((y : Int) - 40 + 1 + 40).toNat = y + 1 by omega, Nat.add_mul]; exact hP1⟩, ⟨rfl, rfl, trivial⟩, ⟨rfl, rfl, trivial⟩, Cv.p, by omega⟩
 · have h2 := of_decide_eq_false h2
   obtain rfl : y = 80 := by omega
   have hz := hP.all
   refine WP.exit ?_
   refine WP.seq (WP.region (RG.pv rfl (PV.move (v := q) rfl rfl) (RG.pv rfl (PV.asg (v := q) rfl rfl) (RG.nil ?_))))
   refine WP.ret ?_
   exact ⟨_, _, ResV.one rfl rfl, Cv.p, k q zs hz⟩
end Go.Proofs.YthhjapiggekjbaaGreat
namespace Go.Proofs.YthhjapiggekjbaaGreat
set_option linter.unusedVariables false
set_option linter.unusedSimpArgs false
open Go
set_option maxRecDepth 20000
set_option linter.unusedSimpArgs false
variable {G : Gh} {L : List Ch} {R : Value → Gh → List Ch → Prop}
def regs (xs : List Piece) : List (Sl Rect) := xs.map Piece.reg
theorem regs_len (xs : List Piece) : (regs xs).length = xs.length := by simp [regs]
theorem regs_gd {xs : List Piece} {i : Nat} (h : i < xs.length) : gd (regs xs) i = (gd xs i).reg := gd_map _ h
theorem RsE.reg {xs : List Piece} (h : RsE G L rectT (regs xs)) {i : Nat} (hi : i < xs.length) : Rs G L rectT (gd xs i).reg.v (gd xs i).reg.xs := by
 have := h i (by rw [regs_len]; exact hi); rwa [regs_gd hi] at this
def erP (p : Piece) : Int × List Rect := (p.layer, p.reg.xs)
def erPs (xs : List Piece) : List (Int × List Rect) := xs.map erP
theorem erPs_len (xs : List Piece) : (erPs xs).length = xs.length := by simp [erPs]
theorem erPs_gd {xs : List Piece} {i : Nat} (h : i < xs.length) : gd (erPs xs) i = erP (gd xs i) := gd_map _ h
theorem l19Count_s {v : Value} {bs : List Bool} (h1 : Rs G L boolT v bs) (hl : bs.length = 6400) (k : R (vi (cnt bs)) G L) : CallT Tryz.prog 60 #[v] G L R := by
 refine CallT.enter (args := _) Tryz.func60 rfl rfl (by kernel_rfl) rfl ?_
 refine WP.seq (WP.region (RG.mr rfl rfl rfl (RG.nil (WP.seq (WP.region (RG.mr rfl rfl rfl (RG.nil ?_)))))))
 refine WP.seq (WP.seq (WP.region (RG.mr rfl rfl rfl (RG.nil (WP.block ?_)))))
 refine WP.loop2 [0] (fun (i : Nat) (m : Int) => i ≤ bs.length ∧ m = cnt (bs.take i)) (fun (i : Nat) (m : Int) => [(4, vi i), (3, vi m)]) (fun (i : Nat) (m : Int) => L) (fun (i : Nat) (m : Int) => bs.length - i) 0 0 ⟨by omega, by simp [cnt]⟩ ⟨rfl, rfl, trivial⟩ Cv.p ?_
 rintro i m τ ⟨hi, hm⟩
 refine WP.seq (WP.seq (WP.region (RG.ml rfl rfl rfl (RG.pv rfl (PV.move (v := v) rfl rfl) (RG.pv rfl (PV.len (v := v) rfl Tryz.underlying109 rfl (SlF.r h1)) (RG.pv rfl (PV.lss rfl rfl rfl) (RG.nil ?_)))))))
 refine WP.cond rfl (fun h2 => ?_) (fun h2 => ?_)
 · have h2 := of_decide_eq_true h2
   have hct := cnt_take (bs := bs) (i := i) (by omega)
   have hcb := cnt_le (bs.take i)
   have hcl : (bs.take i).length ≤ 6400 := by simp; omega
   refine WP.skip (WP.seq (WP.block (WP.seq (WP.region (RG.pv rfl (PV.move (v := v) rfl rfl) (RG.ml rfl rfl rfl (RG.pv rfl (PV.idxS (v := v) rfl Is109 rfl (SlF.r h1) rfl rfl (by omega)) ?_)))))))
   refine RG.pv rfl (PV.loadE1 rfl Sc4 rfl rfl (El.r h1 (getG (by omega))) rfl) (RG.nil ?_)
   refine WP.cond rfl (fun h3 => ?_) (fun h3 => ?_)
   · rw [h3] at hct
     refine WP.region (RG.ml rfl rfl rfl (RG.pv rfl (PV.add rfl rfl rfl (by omega)) (RG.mr rfl rfl rfl (RG.nil (WP.region (RG.ml rfl rfl rfl (RG.pv rfl (PV.add rfl rfl rfl (by omega)) ?_)))))))
     refine RG.mr rfl rfl rfl (RG.nil ?_)
     exact ⟨rfl, i + 1, _, ⟨by omega, by simp only [cond_true] at hct; omega⟩, ⟨rfl, rfl, trivial⟩, ⟨rfl, trivial⟩, Cv.p, by omega⟩
   · rw [h3] at hct
     refine WP.skip (WP.region (RG.ml rfl rfl rfl (RG.pv rfl (PV.add rfl rfl rfl (by omega)) (RG.mr rfl rfl rfl (RG.nil ?_)))))
     exact ⟨rfl, i + 1, _, ⟨by omega, by simp only [cond_false] at hct; omega⟩, ⟨rfl, rfl, trivial⟩, ⟨rfl, trivial⟩, Cv.p, by omega⟩
 · have h2 := of_decide_eq_false h2
   have e : m = cnt bs := by rw [hm, List.take_of_length_le (by omega)]
   rw [← e] at k
   refine WP.exit ?_
   refine WP.seq (WP.region (RG.ml rfl rfl rfl (RG.mr rfl rfl rfl (RG.nil ?_))))
   refine WP.ret ?_
   exact ⟨_, _, ResV.one rfl rfl, Cv.p, k⟩
end Go.Proofs.YthhjapiggekjbaaGreat
namespace Go.Proofs.YthhjapiggekjbaaGreat
set_option linter.unusedVariables false
set_option linter.unusedSimpArgs false
open Go
set_option maxRecDepth 20000
set_option linter.unusedSimpArgs false
variable {G : Gh} {L : List Ch} {R : Value → Gh → List Ch → Prop}
theorem clone_rects {v : Value} {xs : List (Rect)} (h1 : Rs G L rectT v xs) (hb : xs.length ≤ 1048576) (k : ∀ v', R v' G (osl 140 rectT v' xs :: L)) : CallT Tryz.prog 191 #[v] G L R := by
 refine CallT.st (fun w hs => isNilS_nil h1 hs) fun hn => ?_
 refine CallT.enter (args := _) Tryz.func191 rfl rfl (by kernel_rfl) rfl ?_
 refine WP.seq (WP.region (RG.pv rfl (PV.asg rfl rfl) (RG.nil (WP.seq (WP.seq (WP.region (RG.pv rfl (PV.move (v := v) rfl rfl) ?_)))))))
 refine RG.pv rfl (PV.eqlNil rfl Tryz.underlying50 rfl (SlF.r h1)) (RG.nil ?_)
 refine WP.cond rfl (fun h2 => ?_) (fun h2 => ?_)
 · have e := hn h2
   rw [e] at k
   refine WP.seq (WP.region (RG.pv rfl (PV.asg rfl rfl) (RG.nil ?_)))
   refine WP.ret ?_
   exact ⟨_, _, ResV.one rfl rfl, Cv.nilS, k _⟩
 · refine WP.skip ?_
   refine WP.seq (WP.region ?_)
   refine RG.ot rfl (OT.bslice (F := rectT) (els := []) rfl El50 rfl (by decide) rfl (by decide) trivial fun v5 => ?_)
   refine RG.pv rfl (PV.move (v := v) rfl rfl) ?_
   refine RG.ot rfl (OT.append (v := v5) (u := v) (F := rectT) rfl El50 rfl (by decide) rfl rfl (Rs.up h1) (OneL.c (fun _ => rfl)) rfl (by first | omega | (simp <;> omega)) fun v7 => ?_)
   refine RG.pv rfl (PV.asg (v := v7) rfl rfl) (RG.nil ?_)
   refine WP.ret ?_
   exact ⟨_, _, ResV.one rfl rfl, (Cv.eqS (List.nil_append _)), k v7⟩
def condB (l : List (List Rect)) : List (List Bool) := [zipB (fun p q => p && !q) (bits (gd l 0)) (bits (gd l 1)), bits (gd l 1), bits (gd l 3), bits (gd l 5)]
def condR (l : List (List Rect)) : List (List Rect) := bif isLay l then (condB l).map canon else []
theorem condB_len (l : List (List Rect)) {i : Nat} (h : i < 4) : (gd (condB l) i).length = 6400 := by
 have h0 : ∀ xs, (bits xs).length = 6400 := bits_length
 match i, h with
 | 0, _ => simp [condB, gd, zipB, h0]
 | 1, _ => simp [condB, gd, h0]
 | 2, _ => simp [condB, gd, h0]
 | 3, _ => simp [condB, gd, h0]
theorem condR_eq {l : List (List Rect)} (h : isLay l = true) : condR l = [opR (fun p q => p && !q) (gd l 0) (gd l 1), gd l 1, gd l 3, gd l 5] := by
 simp only [condR, h, cond_true, condB, List.map_cons, List.map_nil, opR, isLay_reg h (show 0 < 8 by omega), isLay_reg h (show 1 < 8 by omega), Bool.and_self, isReg_eq (isLay_reg h (show 1 < 8 by omega)), isReg_eq (isLay_reg h (show 3 < 8 by omega)), isReg_eq (isLay_reg h (show 5 < 8 by omega))]
theorem l23Conductors_s {v : Value} {xs : List (Sl Rect)} (h1 : Rs G L slT v xs) (hd : RsE G L rectT xs) (h8 : xs.length = 8) (hreg : ∀ i, i < 8 → isReg (gd xs i).xs = true) (k : ∀ v' zs, er zs = condB (er xs) → R v' G (osl 109 slT v' zs :: bagS 4 boolT zs :: L)) : CallT Tryz.prog 144 #[v] G L R := by
 refine CallT.enter (args := _) Tryz.func144 rfl rfl (by kernel_rfl) rfl ?_
 refine WP.seq (WP.region (RG.pv rfl (PV.asg rfl rfl) (RG.nil (WP.seq (WP.region (RG.pv rfl (PV.move (v := v) rfl rfl) (RG.pv rfl (PV.idxS (j := 1) (v := v) rfl Is47 rfl (SlF.r h1) rfl (by omega) (by omega)) ?_)))))))
 refine RG.pv rfl (PV.loadE1 rfl Sc50 rfl rfl (El.r h1 (getG (by omega))) rfl) ?_
 refine RG.callF (vs := [_]) rfl rfl En62 rfl (l03Bits_s (Rs.up (hd _ (by omega))) (fun i hi => valid_get (isReg_valid (hreg _ (by omega))) hi) (fun v7 => ?_))
 refine RG.pv rfl (PV.asg (v := v7) rfl rfl) (RG.nil (WP.seq ?_))
 refine WP.regionH0 (.q 0 (.q 1 (.q 2 (.q 4 (.q 6 (.q 7 (.q 8 (.q 9 (.q 11 (.q 12 (.q 13 (.l 3 (.l 5 (.l 10 (.l 14 (.l 15 (.q 16 Sch.nil))))))))))))))))) (by kernel_rfl) (by kernel_rfl) (by kernel_rfl) rfl ?_
 refine RH.pv rfl (fun _ _ _ _ h => h) (Gh.le_refl _) PickC.pick rfl (PV.move (v := v) rfl rfl) ?_
 refine RH.pv rfl (fun _ _ _ _ h => h) (Gh.le_refl _) PickC.pick rfl (PV.idxS (j := 0) (v := v) rfl Is47 rfl (SlF.r h1) rfl (by omega) (by omega)) ?_
 refine RH.pv rfl (fun _ _ _ _ h => h) (Gh.le_refl _) PickC.pick rfl (PV.loadE1 rfl Sc50 rfl rfl (El.r h1 (getG (by omega))) rfl) ?_
 refine RH.pv rfl (fun _ _ _ _ h => h) (Gh.le_refl _) PickC.pick rfl (PV.move (v := v7) rfl rfl) ?_
 refine RH.pv rfl (fun _ _ _ _ h => h) (Gh.le_refl _) PickC.pick rfl (PV.move (v := v7) rfl rfl) ?_
 refine RH.pv rfl (fun _ _ _ _ h => h) (Gh.le_refl _) PickC.pick rfl (PV.move (v := v) rfl rfl) ?_
 refine RH.pv rfl (fun _ _ _ _ h => h) (Gh.le_refl _) PickC.pick rfl (PV.idxS (j := 3) (v := v) rfl Is47 rfl (SlF.r h1) rfl (by omega) (by omega)) ?_
 refine RH.pv rfl (fun _ _ _ _ h => h) (Gh.le_refl _) PickC.pick rfl (PV.loadE1 rfl Sc50 rfl rfl (El.r h1 (getG (by omega))) rfl) ?_
 refine RH.pv rfl (fun _ _ _ _ h => h) (Gh.le_refl _) PickC.pick rfl (PV.move (v := v) rfl rfl) ?_
 refine RH.pv rfl (fun _ _ _ _ h => h) (Gh.le_refl _) PickC.pick rfl (PV.idxS (j := 5) (v := v) rfl Is47 rfl (SlF.r h1) rfl (by omega) (by omega)) ?_
 refine RH.pv rfl (fun _ _ _ _ h => h) (Gh.le_refl _) PickC.pick rfl (PV.loadE1 rfl Sc50 rfl rfl (El.r h1 (getG (by omega))) rfl) ?_
 refine RH.ot rfl rfl (OT.callF (vs := [_]) rfl En62 rfl (l03Bits_s (Rs.up (hd _ (by omega))) (fun i hi => valid_get (isReg_valid (hreg _ (by omega))) hi) (fun v11 => ⟨Gh.le_refl _, PickC.pick, ?_⟩)))
 refine RH.ot rfl rfl (OT.callF (vs := [v11, v7]) rfl En193 rfl (l23Minus_s Rs.o Rs.o (bits_length _) (bits_length _) (fun v13 => ⟨Gh.le_refl _, PickC.pick, ?_⟩)))
 refine RH.ot rfl rfl (OT.callF (vs := [_]) rfl En62 rfl (l03Bits_s (Rs.up (hd _ (by omega))) (fun i hi => valid_get (isReg_valid (hreg _ (by omega))) hi) (fun v18 => ⟨Gh.le_refl _, PickC.pick, ?_⟩)))
 refine RH.ot rfl rfl (OT.callF (vs := [_]) rfl En62 rfl (l03Bits_s (Rs.up (hd _ (by omega))) (fun i hi => valid_get (isReg_valid (hreg _ (by omega))) hi) (fun v22 => ⟨Gh.le_refl _, PickC.pick, ?_⟩)))
 refine RH.ot rfl rfl (OT.bslice (F := (slT (α := Bool))) (els := [⟨v13, zipB (fun p q => p && !q) (bits (gd xs 0).xs) (bits (gd xs 1).xs)⟩, ⟨v7, bits (gd xs 1).xs⟩, ⟨v18, bits (gd xs 3).xs⟩, ⟨v22, bits (gd xs 5).xs⟩]) rfl El211 rfl (by decide) rfl (by decide) ⟨rfl, (Cl.s (v := v13) SlF.o), ⟨rfl, (Cl.s (v := v7) SlF.o), ⟨rfl, (Cl.s (v := v18) SlF.o), ⟨rfl, (Cl.s (v := v22) SlF.o), trivial⟩⟩⟩⟩ fun v23 => ⟨Gh.le_refl _, PickC.pick, ?_⟩)
 refine RH.pv rfl (fun _ _ _ _ h => h) (Gh.le_refl _) PickC.pick rfl (PV.asg (v := v23) rfl rfl) ?_
 refine RH.nil ?_
 refine WP.ret ?_
 have e : er [(⟨v13, zipB (fun p q => p && !q) (bits (gd xs 0).xs) (bits (gd xs 1).xs)⟩ : Sl Bool), ⟨v7, bits (gd xs 1).xs⟩, ⟨v18, bits (gd xs 3).xs⟩, ⟨v22, bits (gd xs 5).xs⟩] = condB (er xs) := by
   simp [er, condB, ← er_gd]
 exact ⟨_, _, ResV.one rfl rfl, (Cv.p (C := osl 109 slT v23 [(⟨v13, zipB (fun p q => p && !q) (bits (gd xs 0).xs) (bits (gd xs 1).xs)⟩ : Sl Bool), ⟨v7, bits (gd xs 1).xs⟩, ⟨v18, bits (gd xs 3).xs⟩, ⟨v22, bits (gd xs 5).xs⟩] :: osl 4 boolT v13 (zipB (fun p q => p && !q) (bits (gd xs 0).xs) (bits (gd xs 1).xs)) :: osl 4 boolT v7 (bits (gd xs 1).xs) :: osl 4 boolT v18 (bits (gd xs 3).xs) :: osl 4 boolT v22 (bits (gd xs 5).xs) :: L)).trans (Cv.cons (Cv.toBag (B := [osl 4 boolT v13 (zipB (fun p q => p && !q) (bits (gd xs 0).xs) (bits (gd xs 1).xs)), osl 4 boolT v7 (bits (gd xs 1).xs), osl 4 boolT v18 (bits (gd xs 3).xs), osl 4 boolT v22 (bits (gd xs 5).xs)]))), k v23 _ e⟩
theorem conductors_s {v : Value} {xs : List (Sl Rect)} (h1 : Rs G L slT v xs) (hd : RsE G L rectT xs) (h8 : xs.length = 8) (hbi : ∀ i, i < 8 → (gd xs i).xs.length ≤ 1048576) (k : ∀ v' ys, er ys = [opR (fun p q => p && !q) (gd xs 0).xs (gd xs 1).xs, (gd xs 1).xs, (gd xs 3).xs, (gd xs 5).xs] → R v' G (osl 50 slT v' ys :: bagS 140 rectT ys :: L)) : CallT Tryz.prog 136 #[v] G L R := by
 refine CallT.enter (args := _) Tryz.func136 rfl rfl (by kernel_rfl) rfl ?_
 refine WP.seq (WP.region (RG.pv rfl (PV.asg rfl rfl) (RG.nil (WP.seq ?_))))
 refine WP.regionH0 (.q 0 (.q 1 (.q 2 (.q 3 (.q 4 (.q 5 (.q 7 (.q 8 (.q 9 (.q 11 (.q 12 (.q 13 (.q 15 (.q 16 (.q 17 (.l 6 (.l 10 (.l 14 (.l 18 (.l 19 (.q 20 Sch.nil))))))))))))))))))))) (by kernel_rfl) (by kernel_rfl) (by kernel_rfl) rfl ?_
 refine RH.pv rfl (fun _ _ _ _ h => h) (Gh.le_refl _) PickC.pick rfl (PV.move (v := v) rfl rfl) ?_
 refine RH.pv rfl (fun _ _ _ _ h => h) (Gh.le_refl _) PickC.pick rfl (PV.idxS (j := 0) (v := v) rfl Is47 rfl (SlF.r h1) rfl (by omega) (by omega)) ?_
 refine RH.pv rfl (fun _ _ _ _ h => h) (Gh.le_refl _) PickC.pick rfl (PV.loadE1 rfl Sc50 rfl rfl (El.r h1 (getG (by omega))) rfl) ?_
 refine RH.pv rfl (fun _ _ _ _ h => h) (Gh.le_refl _) PickC.pick rfl (PV.move (v := v) rfl rfl) ?_
 refine RH.pv rfl (fun _ _ _ _ h => h) (Gh.le_refl _) PickC.pick rfl (PV.idxS (j := 1) (v := v) rfl Is47 rfl (SlF.r h1) rfl (by omega) (by omega)) ?_
 refine RH.pv rfl (fun _ _ _ _ h => h) (Gh.le_refl _) PickC.pick rfl (PV.loadE1 rfl Sc50 rfl rfl (El.r h1 (getG (by omega))) rfl) ?_
 refine RH.pv rfl (fun _ _ _ _ h => h) (Gh.le_refl _) PickC.pick rfl (PV.move (v := v) rfl rfl) ?_
 refine RH.pv rfl (fun _ _ _ _ h => h) (Gh.le_refl _) PickC.pick rfl (PV.idxS (j := 1) (v := v) rfl Is47 rfl (SlF.r h1) rfl (by omega) (by omega)) ?_
 refine RH.pv rfl (fun _ _ _ _ h => h) (Gh.le_refl _) PickC.pick rfl (PV.loadE1 rfl Sc50 rfl rfl (El.r h1 (getG (by omega))) rfl) ?_
 refine RH.pv rfl (fun _ _ _ _ h => h) (Gh.le_refl _) PickC.pick rfl (PV.move (v := v) rfl rfl) ?_
 refine RH.pv rfl (fun _ _ _ _ h => h) (Gh.le_refl _) PickC.pick rfl (PV.idxS (j := 3) (v := v) rfl Is47 rfl (SlF.r h1) rfl (by omega) (by omega)) ?_
 refine RH.pv rfl (fun _ _ _ _ h => h) (Gh.le_refl _) PickC.pick rfl (PV.loadE1 rfl Sc50 rfl rfl (El.r h1 (getG (by omega))) rfl) ?_
 refine RH.pv rfl (fun _ _ _ _ h => h) (Gh.le_refl _) PickC.pick rfl (PV.move (v := v) rfl rfl) ?_
 refine RH.pv rfl (fun _ _ _ _ h => h) (Gh.le_refl _) PickC.pick rfl (PV.idxS (j := 5) (v := v) rfl Is47 rfl (SlF.r h1) rfl (by omega) (by omega)) ?_
 refine RH.pv rfl (fun _ _ _ _ h => h) (Gh.le_refl _) PickC.pick rfl (PV.loadE1 rfl Sc50 rfl rfl (El.r h1 (getG (by omega))) rfl) ?_
 refine RH.ot rfl rfl (OT.callF (vs := [_, _]) rfl En190 rfl (diff_s (Rs.up (hd 0 (by omega))) (Rs.up (hd 1 (by omega))) (fun v9 => ⟨Gh.le_refl _, PickC.pick, ?_⟩)))
 refine RH.ot rfl rfl (OT.callF (vs := [_]) rfl En191 rfl (clone_rects (Rs.up (hd _ (by omega))) (hbi _ (by omega)) (fun v13 => ⟨Gh.le_refl _, PickC.pick, ?_⟩)))
 refine RH.ot rfl rfl (OT.callF (vs := [_]) rfl En191 rfl (clone_rects (Rs.up (hd _ (by omega))) (hbi _ (by omega)) (fun v17 => ⟨Gh.le_refl _, PickC.pick, ?_⟩)))
 refine RH.ot rfl rfl (OT.callF (vs := [_]) rfl En191 rfl (clone_rects (Rs.up (hd _ (by omega))) (hbi _ (by omega)) (fun v21 => ⟨Gh.le_refl _, PickC.pick, ?_⟩)))
 refine RH.ot rfl rfl (OT.bslice (F := (slT (α := Rect))) (els := [⟨v9, opR (fun p q => p && !q) (gd xs 0).xs (gd xs 1).xs⟩, ⟨v13, (gd xs 1).xs⟩, ⟨v17, (gd xs 3).xs⟩, ⟨v21, (gd xs 5).xs⟩]) rfl El47 rfl (by decide) rfl (by decide) ⟨rfl, (Cl.s (v := v9) SlF.o), ⟨rfl, (Cl.s (v := v13) SlF.o), ⟨rfl, (Cl.s (v := v17) SlF.o), ⟨rfl, (Cl.s (v := v21) SlF.o), trivial⟩⟩⟩⟩ fun v22 => ⟨Gh.le_refl _, PickC.pick, ?_⟩)
 refine RH.pv rfl (fun _ _ _ _ h => h) (Gh.le_refl _) PickC.pick rfl (PV.asg (v := v22) rfl rfl) ?_
 refine RH.nil ?_
 refine WP.ret ?_
 exact ⟨_, _, ResV.one rfl rfl, (Cv.p (C := osl 50 slT v22 [(⟨v9, opR (fun p q => p && !q) (gd xs 0).xs (gd xs 1).xs⟩ : Sl Rect), ⟨v13, (gd xs 1).xs⟩, ⟨v17, (gd xs 3).xs⟩, ⟨v21, (gd xs 5).xs⟩] :: osl 140 rectT v9 (opR (fun p q => p && !q) (gd xs 0).xs (gd xs 1).xs) :: osl 140 rectT v13 (gd xs 1).xs :: osl 140 rectT v17 (gd xs 3).xs :: osl 140 rectT v21 (gd xs 5).xs :: L)).trans (Cv.cons (Cv.toBag (B := [osl 140 rectT v9 (opR (fun p q => p && !q) (gd xs 0).xs (gd xs 1).xs), osl 140 rectT v13 (gd xs 1).xs, osl 140 rectT v17 (gd xs 3).xs, osl 140 rectT v21 (gd xs 5).xs]))), k v22 [⟨v9, opR (fun p q => p && !q) (gd xs 0).xs (gd xs 1).xs⟩, ⟨v13, (gd xs 1).xs⟩, ⟨v17, (gd xs 3).xs⟩, ⟨v21, (gd xs 5).xs⟩] rfl⟩
end Go.Proofs.YthhjapiggekjbaaGreat
namespace Go.Proofs.YthhjapiggekjbaaGreat
set_option linter.unusedVariables false
set_option linter.unusedSimpArgs false
open Go
set_option maxRecDepth 20000
set_option linter.unusedSimpArgs false
variable {G : Gh} {L : List Ch} {R : Value → Gh → List Ch → Prop}
/-- the pieces of the first n conductors: each with its layer -/
noncomputable def pcL (l : List (List Rect)) (n : Nat) : List (Int × List Bool) := ((List.range n).map fun i => (comps (gd (condB l) i)).map fun c => (gd [0, 1, 3, 5] i, c)).flatten
theorem pcL_succ (l : List (List Rect)) (n : Nat) : pcL l (n + 1) = pcL l n ++ (comps (gd (condB l) n)).map fun c => (gd [0, 1, 3, 5] n, c) := by
 simp [pcL, List.range_succ]
theorem comps_len (S : List Bool) : (comps S).length ≤ 6400 := by
 have := firsts_len S 6400
 simpa [comps] using this
theorem pcL_len (l : List (List Rect)) : ∀ n, (pcL l n).length ≤ 6400 * n
 | 0 => by simp [pcL]
 | n + 1 => by
   have h1 := pcL_len l n
   have h2 := comps_len (gd (condB l) n)
   rw [pcL_succ, List.length_append, List.length_map]; omega
def pcR (p : Int × List Bool) : Int × List Rect := (p.1, canon p.2)
theorem regs_append (xs ys : List Piece) : regs (xs ++ ys) = regs xs ++ regs ys := by simp [regs]
theorem drop_gd {α : Type} [Inhabited α] {xs : List α} {i : Nat} (h : i < xs.length) : xs.drop i = gd xs i :: xs.drop (i + 1) := by rw [List.drop_eq_getElem_cons h, gd_eq h]
theorem gd_app_at {α : Type} [Inhabited α] {xs ys : List α} {i : Nat} : gd (xs ++ ys) (xs.length + i) = gd ys i := by simp [gd, List.getElem?_append_right]
/-- a list whose parts lie at the end of a bag -/
theorem RsE.right {α : Type} {G : Gh} {L L' : List Ch} {e : TypeId} {F : FT α} {ws xs : List (Sl α)} [hX : ExBg (ws ++ xs) L e F L'] : RsE G L F xs := fun i hi => by
 have := Rs.inBag (G := G) (L := L) (L' := L') (e := e) (F := F) (xs := ws ++ xs) (ws.length + i) (by simp; omega)
 rwa [gd_app_at] at this
theorem Rs.inRight {α : Type} {G : Gh} {L L' : List Ch} {e : TypeId} {F : FT α} {ws xs : List (Sl α)} (j : Nat) (hj : j < xs.length) [hX : ExBg (ws ++ xs) L e F L'] : Rs G L F (gd xs j).v (gd xs j).xs := RsE.right (L := L) (L' := L') (e := e) (ws := ws) j hj
theorem WP.sl {α : Type} {P : Program} {n : Nat} {c : Code} {Q : Post} {σ : Nat → Value} {G : Gh} {L : List Ch} {F : FT α} {v : Value} {xs : List α} (h : Rs G L F v xs) (k : IsSl v xs.length → WP P n c Q σ G L) : WP P n c Q σ G L := WP.of fun hk _ _ ha hs => (k (h _ hs).1).run hk ha hs
theorem SlF.i {G : Gh} {L : List Ch} {v : Value} {m : Nat} (h : IsSl v m) : SlF G L v m := fun _ _ => h
theorem Cv.pre {L L' : List Ch} (h : Cv L L') : ∀ A : List Ch, Cv (A ++ L) (A ++ L')
 | [] => h
 | _ :: A => Cv.cons (Cv.pre h A)
theorem Cv.bagJoin {α : Type} {e : TypeId} {F : FT α} {xs ys : List (Sl α)} {L : List Ch} : Cv (bagS e F xs :: bagS e F ys :: L) (bagS e F (xs ++ ys) :: L) := by
 unfold bagS
 refine Cv.ofBag.trans ((Cv.pre Cv.ofBag _).trans ?_)
 rw [← List.append_assoc, ← List.map_append]
 exact Cv.toBag
def mkP (n : Int) (s : Sl Rect) : Piece := ⟨n, s⟩
theorem regs_mkP (n : Int) (zs : List (Sl Rect)) : regs (zs.map (mkP n)) = zs := by simp [regs, mkP, Function.comp_def]
theorem pieces_s {v : Value} {xs : List (Sl Rect)} (h1 : Rs G L slT v xs) (hd : RsE G L rectT xs) (hlay : isLay (er xs) = true) (k : ∀ v' ps, erPs ps = (pcL (er xs) 4).map pcR → R v' G (osl 63 pieceT v' ps :: bagS 140 rectT (regs ps) :: L)) : CallT Tryz.prog 87 #[v] G L R := by
 have h8 : xs.length = 8 := by have := isLay_len hlay; rwa [er_len] at this
 have hreg : ∀ i, i < 8 → isReg (gd xs i).xs = true := fun i hi => by rw [← er_gd]; exact isLay_reg hlay hi
 refine CallT.enter (args := _) Tryz.func87 rfl rfl (by kernel_rfl) rfl ?_
 refine WP.seq (WP.region (RG.pv rfl (PV.asg rfl rfl) (RG.nil (WP.seq (WP.region ?_)))))
 refine RG.ot rfl (OT.bslice (F := pieceT) (els := []) rfl El78 rfl (by decide) rfl (by decide) trivial fun v9 => ?_)
 refine RG.ot rfl (OT.bslice (F := intT) (els := [_, _, _, _]) rfl El26 rfl (by decide) rfl (by decide) ⟨rfl, (Cl.c rfl), ⟨rfl, (Cl.c rfl), ⟨rfl, (Cl.c rfl), ⟨rfl, (Cl.c rfl), trivial⟩⟩⟩⟩ fun v10 => ?_)
 refine RG.pv rfl (PV.asg (v := v9) rfl rfl) (RG.pv rfl (PV.asg (v := v10) rfl rfl) (RG.nil (WP.seq (WP.seq (WP.region (RG.pv rfl (PV.move (v := v) rfl rfl) ?_))))))
 refine RG.callF (vs := [v]) rfl rfl En136 rfl (conductors_s (Rs.up h1) hd.up h8 (fun i hi => by have := isReg_len (hreg i hi); omega) (fun v12 ysv12 hev12 => ?_))
 refine RG.pv rfl (PV.len (v := v12) rfl Tryz.underlying47 rfl SlF.o) (RG.ml rfl rfl rfl (RG.nil (WP.block ?_)))
 have hcy : er ysv12 = (condB (er xs)).map canon := by
   rw [hev12, ← er_gd, ← er_gd, ← er_gd, ← er_gd, ← condR_eq hlay, condR, hlay]; rfl
 have hy4 : ysv12.length = 4 := by have := congrArg List.length hcy; rw [er_len] at this; exact this
 refine WP.cv ((Cv.p (C := osl 63 pieceT v9 ([] : List Piece) :: osl 2 intT v10 [0, 1, 3, 5] :: osl 50 slT v12 ysv12 :: bagS 140 rectT ysv12 :: L)).trans (Cv.cons (Cv.bag0 (e := 140) (F := rectT) (xs := regs []) rfl))) ?_
 refine WP.loop3 [4, 12, 13] (fun (i : Nat) (ps : List Piece) (q : Value) => i ≤ 4 ∧ erPs ps = (pcL (er xs) i).map pcR) (fun (i : Nat) (ps : List Piece) (q : Value) => [(14, vi i), (3, q)]) (fun (i : Nat) (ps : List Piece) (q : Value) => osl 63 pieceT q ps :: bagS 140 rectT (regs ps) :: osl 2 intT v10 [0, 1, 3, 5] :: osl 50 slT v12 ysv12 :: bagS 140 rectT ysv12 :: L) (fun (i : Nat) (ps : List Piece) (q : Value) => 4 - i) 0 [] v9 ⟨by omega, rfl⟩ ⟨rfl, rfl, trivial⟩ Cv.p ?_
 rintro i ps q τ ⟨hi, hps⟩
 refine WP.seq (WP.region (RG.pv rfl (PV.lss rfl rfl rfl) (RG.nil (WP.seq ?_))))
 have hpl : ps.length ≤ 6400 * 4 := by
   have := congrArg List.length hps
   have h2 := pcL_len (er xs) i
   rw [erPs_len, List.length_map] at this; omega
 refine WP.cond rfl (fun h2 => ?_) (fun h2 => ?_)
 · have h2 := of_decide_eq_true h2
   have hi4 : i < 4 := by omega
   refine WP.skip (WP.seq (WP.block (WP.seq (WP.region (RG.ml rfl rfl rfl (RG.pv rfl (PV.idxS (v := v12) rfl Is47 rfl SlF.o rfl rfl (by omega)) (RG.pv rfl (PV.loadE1 rfl Sc50 rfl rfl (El.o (getG (by omega))) rfl) ?_)))))))
   refine RG.mr rfl rfl rfl (RG.pv rfl (PV.asg rfl rfl) (RG.nil (WP.seq (WP.region (RG.pv rfl (PV.move rfl rfl) ?_)))))
   refine RG.callF (vs := [_]) rfl rfl En73 rfl (components_s (Rs.inBag (xs := ysv12) i (by omega)) (fun v20 zs hz => ?_))
   refine RG.pv rfl (PV.len (v := v20) rfl Tryz.underlying47 rfl SlF.o) (RG.ml rfl rfl rfl (RG.nil (WP.block ?_)))
   have hzl := parts_len hz
   have hcz : er zs = (comps (gd (condB (er xs)) i)).map canon := by
     rw [hz, ← er_gd, hcy, gd_map _ (by simp [condB]; omega), bits_canon (condB_len _ hi4)]; rfl
   refine WP.cv ((Cv.p (C := bagS 140 rectT (regs ps) :: bagS 140 rectT zs :: osl 63 pieceT q ps :: osl 50 slT v20 zs :: osl 2 intT v10 [0, 1, 3, 5] :: osl 50 slT v12 ysv12 :: bagS 140 rectT ysv12 :: L)).trans (Cv.bagJoin.trans ((Cv.p (C := osl 63 pieceT q ps :: bagS 140 rectT (regs ps ++ zs) :: osl 50 slT v20 zs :: osl 2 intT v10 [0, 1, 3, 5] :: osl 50 slT v12 ysv12 :: bagS 140 rectT ysv12 :: L)).trans (Cv.cast (L' := osl 63 pieceT q (ps ++ (zs.take 0).map (mkP (gd [0, 1, 3, 5] i))) :: bagS 140 rectT (regs ps ++ zs) :: osl 50 slT v20 zs :: osl 2 intT v10 [0, 1, 3, 5] :: osl 50 slT v12 ysv12 :: bagS 140 rectT ysv12 :: L) (by simp))))) ?_
   refine WP.loop2 [4, 5, 12, 13, 14, 20, 21] (fun (j : Nat) (q1 : Value) => j ≤ zs.length) (fun (j : Nat) (q1 : Value) => [(22, vi j), (3, q1)]) (fun (j : Nat) (q1 : Value) => osl 63 pieceT q1 (ps ++ (zs.take j).map (mkP (gd [0, 1, 3, 5] i))) :: bagS 140 rectT (regs ps ++ zs) :: osl 50 slT v20 zs :: osl 2 intT v10 [0, 1, 3, 5] :: osl 50 slT v12 ysv12 :: bagS 140 rectT ysv12 :: L) (fun (j : Nat) (q1 : Value) => zs.length - j) 0 q (by omega) ⟨rfl, rfl, trivial⟩ Cv.p ?_
   rintro j q1 τ1 hj
   refine WP.seq (WP.region (RG.pv rfl (PV.lss rfl rfl rfl) (RG.nil (WP.seq ?_))))
   have hlt : (ps ++ (zs.take j).map (mkP (gd [0, 1, 3, 5] i))).length = ps.length + j := by simp; omega
   refine WP.cond rfl (fun h3 => ?_) (fun h3 => ?_)
   · have h3 := of_decide_eq_true h3
     have hn4 : ([0, 1, 3, 5] : List Int).length = 4 := rfl
     refine WP.sl (Rs.inRight (ws := regs ps) (xs := zs) j (by omega)) fun hI => ?_
     refine WP.skip (WP.seq (WP.block (WP.seq (WP.region (RG.pv rfl (PV.idxS (v := v20) rfl Is47 rfl SlF.o rfl rfl (by omega)) (RG.pv rfl (PV.loadE1 rfl Sc50 rfl rfl (El.o (getG (by omega))) rfl) (RG.pv rfl (PV.asg rfl rfl) ?_)))))))
     refine RG.nil (WP.region (RG.pv rfl (PV.move (v := q1) rfl rfl) (RG.pv rfl (PV.move (v := v10) rfl rfl) (RG.ml rfl rfl rfl (RG.pv rfl (PV.idxS (v := v10) rfl Is26 rfl SlF.o rfl rfl (by omega)) (RG.pv rfl (PV.loadE1 rfl Sc2 rfl rfl (El.o (getG (by omega))) rfl) (RG.pv rfl (PV.move rfl rfl) ?_)))))))
     refine RG.pv rfl (PV.build (vs := [(0, [vi _]), (1, [_])]) (out := [_, _]) rfl Zr63 Pl63 ⟨rfl, (Cl.c rfl), ⟨rfl, (Cl.s (SlF.i hI)), trivial⟩⟩ rfl) ?_
     refine RG.ot rfl (OT.bslice (F := pieceT) (els := [⟨gd [0, 1, 3, 5] i, gd zs j⟩]) rfl El78 rfl (by decide) rfl (by decide) ⟨rfl, (Cl.c rfl), trivial⟩ fun v33 => ?_)
     refine RG.ot rfl (OT.append (v := q1) (u := v33) (F := pieceT) rfl El78 rfl (by decide) rfl rfl Rs.o (OneL.one (OneC.val rfl (OneC.sl (SlF.i hI) OneC.nil))) rfl (by first | omega | (simp <;> omega)) fun v34 => ?_)
     refine RG.pv rfl (PV.asg (v := v34) rfl rfl) (RG.nil (WP.region (RG.pv rfl (PV.add rfl rfl rfl (by omega)) (RG.ml rfl rfl rfl (RG.nil ?_)))))
     exact ⟨rfl, j + 1, v34, (by omega), ⟨rfl, rfl, trivial⟩, ⟨rfl, rfl, rfl, rfl, rfl, rfl, rfl, trivial⟩, (Cv.p (C := osl 63 pieceT v34 (ps ++ (zs.take j).map (mkP (gd [0, 1, 3, 5] i)) ++ [⟨gd [0, 1, 3, 5] i, gd zs j⟩]) :: bagS 140 rectT (regs ps ++ zs) :: osl 50 slT v20 zs :: osl 2 intT v10 [0, 1, 3, 5] :: osl 50 slT v12 ysv12 :: bagS 140 rectT ysv12 :: L)).trans (Cv.cast (by rw [List.take_add_one, getG (by omega), List.map_append, List.append_assoc]; rfl)), by omega⟩
   · have h3 := of_decide_eq_false h3
     obtain rfl : j = zs.length := by omega
     refine WP.exit ?_
     refine WP.region (RG.pv rfl (PV.add rfl rfl rfl (by omega)) (RG.ml rfl rfl rfl (RG.nil ?_)))
     refine ⟨rfl, i + 1, (ps ++ zs.map (mkP (gd [0, 1, 3, 5] i))), q1, ⟨by omega, ?_⟩, ⟨rfl, rfl, trivial⟩, ⟨rfl, rfl, rfl, trivial⟩, (Cv.p (C := osl 63 pieceT q1 (ps ++ (zs.take zs.length).map (mkP (gd [0, 1, 3, 5] i))) :: bagS 140 rectT (regs ps ++ zs) :: osl 2 intT v10 [0, 1, 3, 5] :: osl 50 slT v12 ysv12 :: bagS 140 rectT ysv12 :: L)).trans (Cv.cast (by rw [List.take_length, regs_append, regs_mkP])), by omega⟩
     rw [pcL_succ, List.map_append, ← hps, erPs, List.map_append]
     congr 1
     have e : ∀ zs : List (Sl Rect), (zs.map (mkP (gd [0, 1, 3, 5] i))).map erP = (er zs).map fun r => (gd [0, 1, 3, 5] i, r) := fun zs => by simp [er, erP, mkP, Function.comp_def]
     rw [e, hcz, List.map_map, List.map_map]; rfl
 · have h2 := of_decide_eq_false h2
   obtain rfl : i = 4 := by omega
   refine WP.exit ?_
   refine WP.seq (WP.region (RG.pv rfl (PV.move (v := q) rfl rfl) (RG.pv rfl (PV.asg (v := q) rfl rfl) (RG.nil ?_))))
   refine WP.ret ?_
   exact ⟨_, _, ResV.one rfl rfl, Cv.p, k q ps hps⟩
def cels (xs : List Part) : List (Sl Bool) := xs.map Part.cells
theorem cels_append (xs ys : List Part) : cels (xs ++ ys) = cels xs ++ cels ys := by simp [cels]
def erC (p : Part) : Int × List Bool := (p.layer, p.cells.xs)
def mkC (n : Int) (s : Sl Bool) : Part := ⟨n, s⟩
theorem cels_mkC (n : Int) (zs : List (Sl Bool)) : cels (zs.map (mkC n)) = zs := by simp [cels, mkC, Function.comp_def]
theorem l23Layers_s (k : ∀ v, R v G (osl 2 intT v [0, 1, 3, 5] :: L)) : CallT Tryz.prog 146 #[] G L R := by
 refine CallT.enter (args := _) Tryz.func146 rfl rfl (by kernel_rfl) rfl ?_
 refine WP.seq (WP.region (RG.pv rfl (PV.asg rfl rfl) (RG.nil (WP.seq (WP.region ?_)))))
 refine RG.ot rfl (OT.bslice (F := intT) (els := [_, _, _, _]) rfl El26 rfl (by decide) rfl (by decide) ⟨rfl, (Cl.c rfl), ⟨rfl, (Cl.c rfl), ⟨rfl, (Cl.c rfl), ⟨rfl, (Cl.c rfl), trivial⟩⟩⟩⟩ fun v1 => ?_)
 refine RG.pv rfl (PV.asg (v := v1) rfl rfl) (RG.nil ?_)
 refine WP.ret ?_
 exact ⟨_, _, ResV.one rfl rfl, Cv.p, k v1⟩
theorem l23Parts_s {v : Value} {xs : List (Sl Rect)} (h1 : Rs G L slT v xs) (hd : RsE G L rectT xs) (hlay : isLay (er xs) = true) (k : ∀ v' ps, ps.map erC = pcL (er xs) 4 → R v' G (osl 166 partT v' ps :: bagS 4 boolT (cels ps) :: L)) : CallT Tryz.prog 95 #[v] G L R := by
 have h8 : xs.length = 8 := by have := isLay_len hlay; rwa [er_len] at this
 have hreg : ∀ i, i < 8 → isReg (gd xs i).xs = true := fun i hi => by rw [← er_gd]; exact isLay_reg hlay hi
 refine CallT.enter (args := _) Tryz.func95 rfl rfl (by kernel_rfl) rfl ?_
 refine WP.seq (WP.region (RG.pv rfl (PV.asg rfl rfl) (RG.nil (WP.seq (WP.region ?_)))))
 refine RG.ot rfl (OT.bslice (F := partT) (els := []) rfl El161 rfl (by decide) rfl (by decide) trivial fun v8 => ?_)
 refine RG.pv rfl (PV.asg (v := v8) rfl rfl) (RG.nil (WP.seq (WP.region (RG.pv rfl (PV.move (v := v) rfl rfl) ?_))))
 refine RG.callF (vs := [v]) rfl rfl En144 rfl (l23Conductors_s (Rs.up h1) hd.up h8 hreg (fun v10 zsv10 hev10 => ?_))
 refine RG.pv rfl (PV.asg (v := v10) rfl rfl) (RG.nil (WP.seq (WP.seq (WP.region (RG.mr rfl rfl rfl (RG.nil (WP.block ?_)))))))
 have hy4 : zsv10.length = 4 := by have := congrArg List.length hev10; rw [er_len] at this; exact this
 refine WP.cv ((Cv.p (C := osl 166 partT v8 ([] : List Part) :: osl 109 slT v10 zsv10 :: bagS 4 boolT zsv10 :: L)).trans (Cv.cons (Cv.bag0 (e := 4) (F := boolT) (xs := cels []) rfl))) ?_
 refine WP.loop3 [4] (fun (i : Nat) (ps : List Part) (q : Value) => i ≤ 4 ∧ ps.map erC = pcL (er xs) i) (fun (i : Nat) (ps : List Part) (q : Value) => [(5, vi i), (3, q)]) (fun (i : Nat) (ps : List Part) (q : Value) => osl 166 partT q ps :: bagS 4 boolT (cels ps) :: osl 109 slT v10 zsv10 :: bagS 4 boolT zsv10 :: L) (fun (i : Nat) (ps : List Part) (q : Value) => 4 - i) 0 [] v8 ⟨by omega, rfl⟩ ⟨rfl, rfl, trivial⟩ Cv.p ?_
 rintro i ps q τ ⟨hi, hps⟩
 refine WP.seq (WP.seq (WP.region (RG.ml rfl rfl rfl (RG.pv rfl (PV.move (v := v10) rfl rfl) (RG.pv rfl (PV.len (v := v10) rfl Tryz.underlying211 rfl SlF.o) (RG.pv rfl (PV.lss rfl rfl rfl) (RG.nil ?_)))))))
 have hpl : ps.length ≤ 6400 * 4 := by
   have := congrArg List.length hps
   have h2 := pcL_len (er xs) i
   rw [List.length_map] at this; omega
 refine WP.cond rfl (fun h2 => ?_) (fun h2 => ?_)
 · have h2 := of_decide_eq_true h2
   have hi4 : i < 4 := by omega
   have hl6 : (gd zsv10 i).xs.length = 6400 := by rw [← er_gd, hev10]; exact condB_len _ hi4
   refine WP.skip (WP.seq (WP.block (WP.seq (WP.region (RG.pv rfl (PV.move (v := v10) rfl rfl) (RG.ml rfl rfl rfl (RG.pv rfl (PV.idxS (v := v10) rfl Is211 rfl SlF.o rfl rfl (by omega)) ?_)))))))
   refine RG.pv rfl (PV.loadE1 rfl Sc109 rfl rfl (El.o (getG (by omega))) rfl) ?_
   refine RG.callF (vs := [_]) rfl rfl En145 rfl (comps_s (Rs.inBag (xs := zsv10) i (by omega)) hl6 (fun v21 zs hz => ?_))
   refine RG.pv rfl (PV.asg (v := v21) rfl rfl) (RG.nil (WP.seq (WP.region (RG.mr rfl rfl rfl (RG.nil (WP.block ?_))))))
   have hcz : er zs = comps (gd (condB (er xs)) i) := by rw [hz, ← er_gd, hev10]
   have hzl : zs.length ≤ 6400 := by have := congrArg List.length hcz; have h3 := comps_len (gd (condB (er xs)) i); rw [er_len] at this; omega
   refine WP.cv ((Cv.p (C := bagS 4 boolT (cels ps) :: bagS 4 boolT zs :: osl 166 partT q ps :: osl 109 slT v21 zs :: osl 109 slT v10 zsv10 :: bagS 4 boolT zsv10 :: L)).trans (Cv.bagJoin.trans ((Cv.p (C := osl 166 partT q ps :: bagS 4 boolT (cels ps ++ zs) :: osl 109 slT v21 zs :: osl 109 slT v10 zsv10 :: bagS 4 boolT zsv10 :: L)).trans (Cv.cast (L' := osl 166 partT q (ps ++ (zs.take 0).map (mkC (gd [0, 1, 3, 5] i))) :: bagS 4 boolT (cels ps ++ zs) :: osl 109 slT v21 zs :: osl 109 slT v10 zsv10 :: bagS 4 boolT zsv10 :: L) (by simp))))) ?_
   refine WP.loop2 [4, 5, 6] (fun (j : Nat) (q1 : Value) => j ≤ zs.length) (fun (j : Nat) (q1 : Value) => [(7, vi j), (3, q1)]) (fun (j : Nat) (q1 : Value) => osl 166 partT q1 (ps ++ (zs.take j).map (mkC (gd [0, 1, 3, 5] i))) :: bagS 4 boolT (cels ps ++ zs) :: osl 109 slT v21 zs :: osl 109 slT v10 zsv10 :: bagS 4 boolT zsv10 :: L) (fun (j : Nat) (q1 : Value) => zs.length - j) 0 q (by omega) ⟨rfl, rfl, trivial⟩ Cv.p ?_
   rintro j q1 τ1 hj
   refine WP.seq (WP.seq (WP.region (RG.ml rfl rfl rfl (RG.pv rfl (PV.move (v := v21) rfl rfl) (RG.pv rfl (PV.len (v := v21) rfl Tryz.underlying211 rfl SlF.o) (RG.pv rfl (PV.lss rfl rfl rfl) (RG.nil ?_)))))))
   have hlt : (ps ++ (zs.take j).map (mkC (gd [0, 1, 3, 5] i))).length = ps.length + j := by simp; omega
   refine WP.cond rfl (fun h3 => ?_) (fun h3 => ?_)
   · have h3 := of_decide_eq_true h3
     have hn4 : ([0, 1, 3, 5] : List Int).length = 4 := rfl
     refine WP.sl (Rs.inRight (ws := cels ps) (xs := zs) j (by omega)) fun hI => ?_
     refine WP.skip (WP.seq (WP.block ?_))
     refine WP.regionHD [.s q1] (.q 0 (.q 2 (.q 5 (.q 6 (.q 7 (.q 8 (.l 1 (.q 3 (.q 4 (.q 9 (.l 10 (.l 11 (.q 12 Sch.nil))))))))))))) (by kernel_rfl) (by kernel_rfl) (by kernel_rfl) rfl ?_
     refine RH.pv rfl (fun _ _ _ _ h => h) (Gh.le_refl _) PickC.pick rfl (PV.move (v := q1) rfl rfl) ?_
     refine RH.pv rfl (fun _ _ _ _ h => h) (Gh.le_refl _) PickC.pick rfl (PV.mvI (.inl rfl) rfl) ?_
     refine RH.pv rfl (fun _ _ _ _ h => h) (Gh.le_refl _) PickC.pick rfl (PV.move (v := v21) rfl rfl) ?_
     refine RH.pv rfl (fun _ _ _ _ h => h) (Gh.le_refl _) PickC.pick rfl (PV.mvI (.inl rfl) rfl) ?_
     refine RH.pv rfl (fun _ _ _ _ h => h) (Gh.le_refl _) PickC.pick rfl (PV.idxS (v := v21) rfl Is211 rfl SlF.o rfl rfl (by omega)) ?_
     refine RH.pv rfl (fun _ _ _ _ h => h) (Gh.le_refl _) PickC.pick rfl (PV.loadE1 rfl Sc109 rfl rfl (El.o (getG (by omega))) rfl) ?_
     refine RH.ot rfl rfl (OT.callF (vs := []) rfl En146 rfl (l23Layers_s (fun v29 => ⟨Gh.le_refl _, PickC.pick, ?_⟩)))
     refine RH.up1 ?_
     refine RH.pv rfl (fun _ _ _ _ h => h) (Gh.le_refl _) PickC.pick rfl (PV.idxS (v := v29) rfl Is26 rfl SlF.o rfl rfl (by omega)) ?_
     refine RH.pv rfl (fun _ _ _ _ h => h) (Gh.le_refl _) PickC.pick rfl (PV.loadE1 rfl Sc2 rfl rfl (El.o (getG (by omega))) rfl) ?_
     refine RH.pv rfl (fun _ _ _ _ h => h) (Gh.le_refl _) PickC.pick rfl (PV.build (vs := [(0, [vi _]), (1, [_])]) (out := [_, _]) rfl Zr166 Pl166 ⟨rfl, (Cl.c rfl), ⟨rfl, (Cl.s (SlF.i hI)), trivial⟩⟩ rfl) ?_
     refine RH.ot rfl rfl (OT.bslice (F := partT) (els := [⟨gd [0, 1, 3, 5] i, gd zs j⟩]) rfl El161 rfl (by decide) rfl (by decide) ⟨rfl, (Cl.c rfl), trivial⟩ fun v38 => ⟨Gh.le_refl _, PickC.pick, ?_⟩)
     refine RH.ot rfl rfl (OT.append (v := q1) (u := v38) (F := partT) rfl El161 rfl (by decide) rfl rfl Rs.o (OneL.one (OneC.val rfl (OneC.sl (SlF.i hI) OneC.nil))) rfl (by first | omega | (simp <;> omega)) fun v39 => ⟨Gh.le_refl _, PickC.pick, ?_⟩)
     refine RH.pv rfl (fun _ _ _ _ h => h) (Gh.le_refl _) PickC.pick rfl (PV.asg (v := v39) rfl rfl) ?_
     refine RH.nil ?_
     refine WP.region (RG.ml rfl rfl rfl (RG.pv rfl (PV.add rfl rfl rfl (by omega)) (RG.mr rfl rfl rfl (RG.nil ?_))))
     exact ⟨rfl, j + 1, v39, (by omega), ⟨rfl, rfl, trivial⟩, ⟨rfl, rfl, rfl, trivial⟩, (Cv.p (C := osl 166 partT v39 (ps ++ (zs.take j).map (mkC (gd [0, 1, 3, 5] i)) ++ [⟨gd [0, 1, 3, 5] i, gd zs j⟩]) :: bagS 4 boolT (cels ps ++ zs) :: osl 109 slT v21 zs :: osl 109 slT v10 zsv10 :: bagS 4 boolT zsv10 :: L)).trans (Cv.cast (by rw [List.take_add_one, getG (by omega), List.map_append, List.append_assoc]; rfl)), by omega⟩
   · have h3 := of_decide_eq_false h3
     obtain rfl : j = zs.length := by omega
     refine WP.exit ?_
     refine WP.region (RG.ml rfl rfl rfl (RG.pv rfl (PV.add rfl rfl rfl (by omega)) (RG.mr rfl rfl rfl (RG.nil ?_))))
     refine ⟨rfl, i + 1, (ps ++ zs.map (mkC (gd [0, 1, 3, 5] i))), q1, ⟨by omega, ?_⟩, ⟨rfl, rfl, trivial⟩, ⟨rfl, trivial⟩, (Cv.p (C := osl 166 partT q1 (ps ++ (zs.take zs.length).map (mkC (gd [0, 1, 3, 5] i))) :: bagS 4 boolT (cels ps ++ zs) :: osl 109 slT v10 zsv10 :: bagS 4 boolT zsv10 :: L)).trans (Cv.cast (by rw [List.take_length, cels_append, cels_mkC])), by omega⟩
     rw [pcL_succ, List.map_append, hps]
     congr 1
     have e : ∀ zs : List (Sl Bool), (zs.map (mkC (gd [0, 1, 3, 5] i))).map erC = (er zs).map fun r => (gd [0, 1, 3, 5] i, r) := fun zs => by simp [er, erC, mkC, Function.comp_def]
     rw [e, hcz]
 · have h2 := of_decide_eq_false h2
   obtain rfl : i = 4 := by omega
   refine WP.exit ?_
   refine WP.seq (WP.region (RG.pv rfl (PV.move (v := q) rfl rfl) (RG.pv rfl (PV.asg (v := q) rfl rfl) (RG.nil ?_))))
   refine WP.ret ?_
   exact ⟨_, _, ResV.one rfl rfl, Cv.p, k q ps hps⟩
noncomputable def pcE (l : List (List Rect)) : List (Int × List Rect) := bif isLay l then (pcL l 4).map pcR else []
theorem cels_len (xs : List Part) : (cels xs).length = xs.length := by simp [cels]
theorem cels_gd {xs : List Part} {i : Nat} (h : i < xs.length) : gd (cels xs) i = (gd xs i).cells := gd_map _ h
theorem Rs.inCels {G : Gh} {L L' : List Ch} {e : TypeId} {xs : List Part} (i : Nat) (hi : i < xs.length) [hX : ExBg (cels xs) L e boolT L'] : Rs G L boolT (gd xs i).cells.v (gd xs i).cells.xs := by
 have := Rs.inBag (G := G) (L := L) (L' := L') (e := e) (F := boolT) (xs := cels xs) i (by rw [cels_len]; exact hi)
 rwa [cels_gd hi] at this
theorem comps_mem {S : List Bool} {c : List Bool} (h : c ∈ comps S) : c.length = 6400 := by
 obtain ⟨j, _, rfl⟩ := List.mem_map.1 h; exact compB_len _ _
theorem pcL_mem {l : List (List Rect)} {n : Nat} {p : Int × List Bool} (h : p ∈ pcL l n) : p.2.length = 6400 := by
 obtain ⟨m, h1, h2⟩ := List.mem_flatten.1 h
 obtain ⟨i, _, rfl⟩ := List.mem_map.1 h1
 obtain ⟨c, hc, rfl⟩ := List.mem_map.1 h2
 exact comps_mem hc
theorem pieces_r {v : Value} {xs : List (Sl Rect)} (h1 : Rs G L slT v xs) (hd : RsE G L rectT xs) (k : ∀ v' ps, erPs ps = pcE (er xs) → R v' G (osl 63 pieceT v' ps :: bagS 140 rectT (regs ps) :: L)) : CallT Tryz.prog 154 #[v] G L R := by
 refine CallT.enter (args := _) Tryz.func154 rfl rfl (by kernel_rfl) rfl ?_
 refine WP.seq (WP.region (RG.pv rfl (PV.asg rfl rfl) (RG.nil (WP.seq (WP.region ?_)))))
 refine RG.ot rfl (OT.bslice (F := pieceT) (els := []) rfl El78 rfl (by decide) rfl (by decide) trivial fun v6 => ?_)
 refine RG.pv rfl (PV.asg (v := v6) rfl rfl) (RG.nil (WP.seq (WP.seq (WP.region (RG.pv rfl (PV.move (v := v) rfl rfl) ?_)))))
 refine RG.callF (vs := [v]) rfl rfl En94 rfl (l19Layout_s (Rs.up h1) hd.up ?_)
 refine RG.pv rfl (PV.not rfl rfl) (RG.nil ?_)
 refine WP.cond rfl (fun h2 => ?_) (fun h2 => ?_)
 · have h3 : isLay (er xs) = false := by simpa using h2
   have e : pcE (er xs) = [] := by rw [pcE, h3]; rfl
   rw [e] at k
   refine WP.seq (WP.region (RG.pv rfl (PV.move (v := v6) rfl rfl) (RG.pv rfl (PV.asg (v := v6) rfl rfl) (RG.nil ?_))))
   refine WP.ret ?_
   exact ⟨_, _, ResV.one rfl rfl, (Cv.cons (Cv.bag0 rfl)), k v6 [] rfl⟩
 · have h3 : isLay (er xs) = true := by simpa using h2
   have e : pcE (er xs) = (pcL (er xs) 4).map pcR := by rw [pcE, h3]; rfl
   rw [e] at k
   refine WP.skip (WP.seq (WP.region (RG.pv rfl (PV.move (v := v) rfl rfl) ?_)))
   refine RG.callF (vs := [v]) rfl rfl En95 rfl (l23Parts_s (Rs.up h1) hd.up h3 (fun v12 csv12 hev12 => ?_))
   refine RG.pv rfl (PV.asg (v := v12) rfl rfl) (RG.nil (WP.seq (WP.seq (WP.region (RG.mr rfl rfl rfl (RG.nil (WP.block ?_)))))))
   have hcl : csv12.length ≤ 25600 := by
     have := congrArg List.length hev12
     have h4 := pcL_len (er xs) 4
     rw [List.length_map] at this; omega
   have hc6 : ∀ i, i < csv12.length → (gd csv12 i).cells.xs.length = 6400 := fun i hi => by
     have h5 : erC (gd csv12 i) ∈ pcL (er xs) 4 := by rw [← hev12, gd_eq hi]; exact List.mem_map_of_mem (List.getElem_mem hi)
     exact pcL_mem h5
   refine WP.cv ((Cv.p (C := osl 63 pieceT v6 ([] : List Piece) :: osl 166 partT v12 csv12 :: bagS 4 boolT (cels csv12) :: L)).trans (Cv.cons (Cv.bag0 (e := 140) (F := rectT) (xs := regs []) rfl))) ?_
   refine WP.loop3 [4] (fun (i : Nat) (ps : List Piece) (q : Value) => i ≤ csv12.length ∧ erPs ps = ((csv12.take i).map erC).map pcR) (fun (i : Nat) (ps : List Piece) (q : Value) => [(5, vi i), (3, q)]) (fun (i : Nat) (ps : List Piece) (q : Value) => osl 63 pieceT q ps :: bagS 140 rectT (regs ps) :: osl 166 partT v12 csv12 :: bagS 4 boolT (cels csv12) :: L) (fun (i : Nat) (ps : List Piece) (q : Value) => csv12.length - i) 0 [] v6 ⟨by omega, rfl⟩ ⟨rfl, rfl, trivial⟩ Cv.p ?_
   rintro i ps q τ ⟨hi, hps⟩
   refine WP.seq (WP.seq (WP.region (RG.ml rfl rfl rfl (RG.pv rfl (PV.move (v := v12) rfl rfl) (RG.pv rfl (PV.len (v := v12) rfl Tryz.underlying161 rfl SlF.o) (RG.pv rfl (PV.lss rfl rfl rfl) (RG.nil ?_)))))))
   have hpl : ps.length ≤ 25600 := by
     have := congrArg List.length hps
     rw [erPs_len] at this; simp at this; omega
   refine WP.cond rfl (fun h4 => ?_) (fun h4 => ?_)
   · have h4 := of_decide_eq_true h4
     have hl6 := hc6 i (by omega)
     refine WP.skip (WP.seq (WP.block ?_))
     refine WP.regionHD [.s q] (.q 0 (.q 1 (.q 2 (.q 3 (.q 4 (.q 5 (.q 6 (.q 7 (.q 8 (.q 9 (.q 10 (.l 11 (.q 12 (.l 13 (.l 14 (.q 15 Sch.nil)))))))))))))))) (by kernel_rfl) (by kernel_rfl) (by kernel_rfl) rfl ?_
     refine RH.pv rfl (fun _ _ _ _ h => h) (Gh.le_refl _) PickC.pick rfl (PV.move (v := q) rfl rfl) ?_
     refine RH.pv rfl (fun _ _ _ _ h => h) (Gh.le_refl _) PickC.pick rfl (PV.move (v := v12) rfl rfl) ?_
     refine RH.pv rfl (fun _ _ _ _ h => h) (Gh.le_refl _) PickC.pick rfl (PV.mvI (.inl rfl) rfl) ?_
     refine RH.pv rfl (fun _ _ _ _ h => h) (Gh.le_refl _) PickC.pick rfl (PV.idxS (v := v12) rfl Is161 rfl SlF.o rfl rfl (by omega)) ?_
     refine RH.pv rfl (fun _ _ _ _ h => h) (Gh.le_refl _) PickC.pick rfl (PV.field rfl Fo166_0 rfl) ?_
     refine RH.pv rfl (fun _ _ _ _ h => h) (Gh.le_refl _) PickC.pick rfl (PV.loadF (v := v12) (j := 0) rfl Sc2 rfl rfl (El.o (getG (by omega))) rfl) ?_
     refine RH.pv rfl (fun _ _ _ _ h => h) (Gh.le_refl _) PickC.pick rfl (PV.move (v := v12) rfl rfl) ?_
     refine RH.pv rfl (fun _ _ _ _ h => h) (Gh.le_refl _) PickC.pick rfl (PV.mvI (.inl rfl) rfl) ?_
     refine RH.pv rfl (fun _ _ _ _ h => h) (Gh.le_refl _) PickC.pick rfl (PV.idxS (v := v12) rfl Is161 rfl SlF.o rfl rfl (by omega)) ?_
     refine RH.pv rfl (fun _ _ _ _ h => h) (Gh.le_refl _) PickC.pick rfl (PV.field rfl Fo166_1 rfl) ?_
     refine RH.pv rfl (fun _ _ _ _ h => h) (Gh.le_refl _) PickC.pick rfl (PV.loadF rfl Sc109 rfl rfl (El.o (getG (by omega))) rfl) ?_
     refine RH.ot rfl rfl (OT.callF (vs := [_]) rfl En98 rfl (l03Canon_s (Rs.inCels (xs := csv12) i (by omega)) hl6 (fun v30 => ⟨Gh.le_refl _, PickC.pick, ?_⟩)))
     refine RH.up1 ?_
     refine RH.pv rfl (fun _ _ _ _ h => h) (Gh.le_refl _) PickC.pick rfl (PV.build (vs := [(0, [vi _]), (1, [v30])]) (out := [_, _]) rfl Zr63 Pl63 ⟨rfl, (Cl.c rfl), ⟨rfl, (Cl.s (v := v30) SlF.o), trivial⟩⟩ rfl) ?_
     refine RH.ot rfl rfl (OT.bslice (F := pieceT) (els := [⟨(gd csv12 i).layer, ⟨v30, canon (gd csv12 i).cells.xs⟩⟩]) rfl El78 rfl (by decide) rfl (by decide) ⟨rfl, (Cl.c rfl), trivial⟩ fun v32 => ⟨Gh.le_refl _, PickC.pick, ?_⟩)
     refine RH.ot rfl rfl (OT.append (v := q) (u := v32) (F := pieceT) rfl El78 rfl (by decide) rfl rfl Rs.o (OneL.one (OneC.val rfl (OneC.sl SlF.o OneC.nil))) rfl (by first | omega | (simp <;> omega)) fun v33 => ⟨Gh.le_refl _, PickC.pick, ?_⟩)
     refine RH.pv rfl (fun _ _ _ _ h => h) (Gh.le_refl _) PickC.pick rfl (PV.asg (v := v33) rfl rfl) ?_
     refine RH.nil ?_
     refine WP.region (RG.ml rfl rfl rfl (RG.pv rfl (PV.add rfl rfl rfl (by omega)) (RG.mr rfl rfl rfl (RG.nil ?_))))
     refine ⟨rfl, i + 1, (ps ++ [⟨(gd csv12 i).layer, ⟨v30, canon (gd csv12 i).cells.xs⟩⟩]), v33, ⟨by omega, ?_⟩, ⟨rfl, rfl, trivial⟩, ⟨rfl, trivial⟩, (Cv.p (C := osl 140 rectT v30 (canon (gd csv12 i).cells.xs) :: bagS 140 rectT (regs ps) :: osl 63 pieceT v33 (ps ++ [⟨(gd csv12 i).layer, ⟨v30, canon (gd csv12 i).cells.xs⟩⟩]) :: osl 166 partT v12 csv12 :: bagS 4 boolT (cels csv12) :: L)).trans ((Cv.grow (ys' := regs (ps ++ [⟨(gd csv12 i).layer, ⟨v30, canon (gd csv12 i).cells.xs⟩⟩])) (by simp [regs])).trans Cv.p), by omega⟩
     rw [List.take_add_one, getG (by omega), List.map_append, List.map_append, ← hps, erPs, List.map_append]; rfl
   · have h4 := of_decide_eq_false h4
     have e2 : erPs ps = (pcL (er xs) 4).map pcR := by rw [hps, List.take_of_length_le (by omega), hev12]
     refine WP.exit ?_
     refine WP.seq (WP.region (RG.pv rfl (PV.move (v := q) rfl rfl) (RG.pv rfl (PV.asg (v := q) rfl rfl) (RG.nil ?_))))
     refine WP.ret ?_
     exact ⟨_, _, ResV.one rfl rfl, Cv.p, k q ps e2⟩
end Go.Proofs.YthhjapiggekjbaaGreat
namespace Go.Proofs.YthhjapiggekjbaaGreat
set_option linter.unusedVariables false
set_option linter.unusedSimpArgs false
open Go
set_option linter.unusedSimpArgs false
def cmn (a b : Rect) : Rect := ⟨max a.x0 b.x0, max a.y0 b.y0, min a.x1 b.x1, min a.y1 b.y1⟩
def ovl (a b : Rect) : Bool := validRect a && validRect b && validRect (cmn a b)
def meetB (a b : List Rect) : Bool := a.any fun x => b.any fun y => ovl x y
def meetIn (a b c : List Rect) : Bool := a.any fun x => b.any fun y => validRect (cmn x y) && meetB [cmn x y] c
theorem validR_iff {r : Rect} : validRect r = true ↔ -40 ≤ r.x0 ∧ r.x0 < r.x1 ∧ r.x1 ≤ 40 ∧ -40 ≤ r.y0 ∧ r.y0 < r.y1 ∧ r.y1 ≤ 40 := by simp [validRect, and_assoc]
theorem inR_iff {r : Rect} {y x : Nat} : inR r y x = true ↔ r.x0 + 40 ≤ x ∧ (x : Int) < r.x1 + 40 ∧ r.y0 + 40 ≤ y ∧ (y : Int) < r.y1 + 40 := by simp [inR, and_assoc]
theorem inR_cmn {a b : Rect} {y x : Nat} : inR (cmn a b) y x = true ↔ inR a y x = true ∧ inR b y x = true := by
 simp only [inR_iff, cmn]; omega
theorem valid_cell {r : Rect} (h : validRect r = true) : ∃ y x, y < 80 ∧ x < 80 ∧ inR r y x = true := by
 rw [validR_iff] at h
 exact ⟨(r.y0 + 40).toNat, (r.x0 + 40).toNat, by omega, by omega, inR_iff.2 (by omega)⟩
theorem inR_lt {r : Rect} (h : validRect r = true) {y x : Nat} (hi : inR r y x = true) : y < 80 ∧ x < 80 := by
 rw [validR_iff] at h; rw [inR_iff] at hi; omega
theorem cmn_valid {a b : Rect} (ha : validRect a = true) (hb : validRect b = true) {y x : Nat} (h1 : inR a y x = true) (h2 : inR b y x = true) : validRect (cmn a b) = true := by
 rw [validR_iff] at *; rw [inR_iff] at h1 h2; simp only [cmn]; omega
theorem ovl_iff {a b : Rect} (ha : validRect a = true) (hb : validRect b = true) : ovl a b = true ↔ ∃ y x, y < 80 ∧ x < 80 ∧ inR a y x = true ∧ inR b y x = true := by
 simp only [ovl, ha, hb, Bool.true_and]
 constructor
 · intro h
   obtain ⟨y, x, h1, h2, h3⟩ := valid_cell h
   exact ⟨y, x, h1, h2, inR_cmn.1 h3⟩
 · rintro ⟨y, x, _, _, h1, h2⟩; exact cmn_valid ha hb h1 h2
theorem valid_mem {xs : List Rect} (h : validRs xs = true) {r : Rect} (hr : r ∈ xs) : validRect r = true := by
 simp only [validRs, Bool.and_eq_true, List.all_eq_true] at h; exact h.2 r hr
theorem gb_bits_iff {rs : List Rect} {y x : Nat} (hy : y < 80) (hx : x < 80) : gb (bits rs) y x = true ↔ ∃ r ∈ rs, inR r y x = true := by
 rw [gb_bits' rs hy hx, List.any_eq_true]
theorem meetB_iff {a b : List Rect} (ha : validRs a = true) (hb : validRs b = true) : meetB a b = true ↔ ∃ y x, y < 80 ∧ x < 80 ∧ gb (bits a) y x = true ∧ gb (bits b) y x = true := by
 simp only [meetB, List.any_eq_true]
 constructor
 · rintro ⟨p, hp, q, hq, h⟩
   obtain ⟨y, x, hy, hx, h1, h2⟩ := (ovl_iff (valid_mem ha hp) (valid_mem hb hq)).1 h
   exact ⟨y, x, hy, hx, (gb_bits_iff hy hx).2 ⟨p, hp, h1⟩, (gb_bits_iff hy hx).2 ⟨q, hq, h2⟩⟩
 · rintro ⟨y, x, hy, hx, h1, h2⟩
   obtain ⟨p, hp, h3⟩ := (gb_bits_iff hy hx).1 h1
   obtain ⟨q, hq, h4⟩ := (gb_bits_iff hy hx).1 h2
   exact ⟨p, hp, q, hq, (ovl_iff (valid_mem ha hp) (valid_mem hb hq)).2 ⟨y, x, hy, hx, h3, h4⟩⟩
/-- three sets have a common cell -/
def mt (A B C : List Bool) : Bool := (List.range 6400).any fun n => gd A n && gd B n && gd C n
theorem mt_iff {A B C : List Bool} : mt A B C = true ↔ ∃ y x, y < 80 ∧ x < 80 ∧ gb A y x = true ∧ gb B y x = true ∧ gb C y x = true := by
 simp only [mt, List.any_eq_true, List.mem_range, Bool.and_eq_true, gb]
 constructor
 · rintro ⟨n, hn, ⟨h1, h2⟩, h3⟩
   have e : n / 80 * 80 + n % 80 = n := by omega
   exact ⟨n / 80, n % 80, by omega, by omega, by rw [e]; exact h1, by rw [e]; exact h2, by rw [e]; exact h3⟩
 · rintro ⟨y, x, hy, hx, h1, h2, h3⟩
   exact ⟨y * 80 + x, by omega, ⟨h1, h2⟩, h3⟩
theorem meetIn_iff {a b c : List Rect} (ha : validRs a = true) (hb : validRs b = true) (hc : validRs c = true) : meetIn a b c = mt (bits a) (bits b) (bits c) := by
 rw [Bool.eq_iff_iff, mt_iff]
 simp only [meetIn, List.any_eq_true, Bool.and_eq_true]
 constructor
 · rintro ⟨p, hp, q, hq, h, h'⟩
   have h1 : validRs [cmn p q] = true := by simp [validRs, h]
   obtain ⟨y, x, hy, hx, h2, h3⟩ := (meetB_iff h1 hc).1 h'
   obtain ⟨r, hr, h4⟩ := (gb_bits_iff hy hx).1 h2
   obtain rfl : r = cmn p q := by simpa using hr
   obtain ⟨h5, h6⟩ := inR_cmn.1 h4
   exact ⟨y, x, hy, hx, (gb_bits_iff hy hx).2 ⟨p, hp, h5⟩, (gb_bits_iff hy hx).2 ⟨q, hq, h6⟩, h3⟩
 · rintro ⟨y, x, hy, hx, h1, h2, h3⟩
   obtain ⟨p, hp, h4⟩ := (gb_bits_iff hy hx).1 h1
   obtain ⟨q, hq, h5⟩ := (gb_bits_iff hy hx).1 h2
   have h := cmn_valid (valid_mem ha hp) (valid_mem hb hq) h4 h5
   have h6 : validRs [cmn p q] = true := by simp [validRs, h]
   exact ⟨p, hp, q, hq, h, (meetB_iff h6 hc).2 ⟨y, x, hy, hx, (gb_bits_iff hy hx).2 ⟨_, .head _, inR_cmn.2 ⟨h4, h5⟩⟩, h3⟩⟩
def jnO (l : List (List Rect)) (p q : Int × List Rect) : Bool := bif decide (q.1 = 3) && decide (p.1 < 3) then meetIn p.2 q.2 (gd l 2) else decide (p.1 = 3) && decide (q.1 = 5) && meetIn p.2 q.2 (gd l 4)
def jnI (l : List (List Rect)) (p q : Int × List Rect) : Bool := bif decide (q.1 < p.1) then jnO l q p else jnO l p q
def jnR (p q : Int × List Bool) (C V : List Bool) : Bool := (List.range 6400).any fun n => gd p.2 n && gd q.2 n && (gd C n && (decide (p.1 = 3) || decide (q.1 = 3)) && !(decide (p.1 = 5) || decide (q.1 = 5)) || gd V n && (decide (p.1 = 3) || decide (q.1 = 3)) && (decide (p.1 = 5) || decide (q.1 = 5)))
theorem jnR_eq (p q : Int × List Bool) (C V : List Bool) : jnR p q C V = ((decide (p.1 = 3) || decide (q.1 = 3)) && !(decide (p.1 = 5) || decide (q.1 = 5)) && mt p.2 q.2 C || (decide (p.1 = 3) || decide (q.1 = 3)) && (decide (p.1 = 5) || decide (q.1 = 5)) && mt p.2 q.2 V) := by
 simp only [jnR, mt]
 cases (decide (p.1 = 3) || decide (q.1 = 3)) <;> cases (decide (p.1 = 5) || decide (q.1 = 5)) <;> simp
def isL (n : Int) : Prop := n = 0 ∨ n = 1 ∨ n = 3 ∨ n = 5
theorem mt_comm (A B C : List Bool) : mt A B C = mt B A C := by
 simp only [mt]; congr 1; funext n; cases gd A n <;> cases gd B n <;> rfl
/-- joined, told by cells -/
def jnL (l : List (List Rect)) (p q : Int × List Bool) : Bool := !decide (p.1 = q.1) && jnR p q (bits (gd l 2)) (bits (gd l 4))
theorem jn_eq {l : List (List Rect)} (hl : isLay l = true) {p q : Int × List Bool} (hp : isL p.1) (hq : isL q.1) (hp2 : p.2.length = 6400) (hq2 : q.2.length = 6400) : jnI l (pcR p) (pcR q) = jnL l p q := by
 have h2 := isReg_valid (isLay_reg hl (i := 2) (by omega))
 have h4 := isReg_valid (isLay_reg hl (i := 4) (by omega))
 have hP := isReg_valid (isReg_canon hp2)
 have hQ := isReg_valid (isReg_canon hq2)
 have a1 := meetIn_iff hP hQ h2; have a2 := meetIn_iff hP hQ h4; have a3 := meetIn_iff hQ hP h2; have a4 := meetIn_iff hQ hP h4
 rw [bits_canon hp2, bits_canon hq2] at a1 a2 a3 a4
 rw [mt_comm] at a3 a4
 simp only [jnL, jnR_eq, jnI, jnO, pcR, a1, a2, a3, a4]
 obtain ⟨x, P⟩ := p; obtain ⟨y, Q⟩ := q
 simp only at hp hq ⊢
 rcases hp with rfl | rfl | rfl | rfl <;> rcases hq with rfl | rfl | rfl | rfl <;> simp
theorem isL_lay {i : Nat} (h : i < 4) : isL (gd [0, 1, 3, 5] i) := by
 rcases (by omega : i = 0 ∨ i = 1 ∨ i = 2 ∨ i = 3) with rfl | rfl | rfl | rfl <;> simp [isL, gd]
theorem pcL_isL {l : List (List Rect)} {p : Int × List Bool} (h : p ∈ pcL l 4) : isL p.1 := by
 obtain ⟨m, h1, h2⟩ := List.mem_flatten.1 h
 obtain ⟨i, hi, rfl⟩ := List.mem_map.1 h1
 obtain ⟨c, hc, rfl⟩ := List.mem_map.1 h2
 exact isL_lay (List.mem_range.1 hi)
def rl (lo hi c : Int) : Int := if c = hi then lo else c
def stepJ (J : Nat → Nat → Bool) (i : Nat) (cls : List Int) (k : Nat) : List Int := if gd cls k = gd cls i ∨ J k i = false then cls else cls.map (rl (min (gd cls k) (gd cls i)) (max (gd cls k) (gd cls i)))
def inJ (J : Nat → Nat → Bool) (i : Nat) (cls : List Int) (k : Nat) : List Int := (List.range k).foldl (stepJ J i) (cls ++ [(i : Int)])
def rootsJ (J : Nat → Nat → Bool) : Nat → List Int
  | 0 => []
  | i + 1 => inJ J i (rootsJ J i) i
theorem inJ_zero (J : Nat → Nat → Bool) (i : Nat) (cls : List Int) : inJ J i cls 0 = cls ++ [(i : Int)] := rfl
theorem inJ_succ (J : Nat → Nat → Bool) (i : Nat) (cls : List Int) (k : Nat) : inJ J i cls (k + 1) = stepJ J i (inJ J i cls k) k := by simp [inJ, List.range_succ]
theorem stepJ_len (J : Nat → Nat → Bool) (i : Nat) (cls : List Int) (k : Nat) : (stepJ J i cls k).length = cls.length := by
 unfold stepJ; split <;> simp
theorem inJ_len (J : Nat → Nat → Bool) (i : Nat) (cls : List Int) : ∀ k, (inJ J i cls k).length = cls.length + 1
 | 0 => by simp [inJ_zero]
 | k + 1 => by rw [inJ_succ, stepJ_len, inJ_len J i cls k]
theorem rootsJ_len (J : Nat → Nat → Bool) : ∀ n, (rootsJ J n).length = n
 | 0 => rfl
 | n + 1 => by rw [rootsJ, inJ_len, rootsJ_len J n]
/-- each class is told by its first member -/
def Rt (cls : List Int) : Prop := ∀ j, j < cls.length → 0 ≤ gd cls j ∧ gd cls j ≤ j ∧ gd cls (gd cls j).toNat = gd cls j
theorem Rt.app {cls : List Int} (h : Rt cls) : Rt (cls ++ [(cls.length : Int)]) := fun j hj => by
 have hj : j < cls.length + 1 := by simpa using hj
 by_cases e : j = cls.length
 · subst e
   rw [gd_app_r]; refine ⟨by omega, by omega, ?_⟩
   rw [Int.toNat_natCast, gd_app_r]
 · have hj : j < cls.length := by omega
   obtain ⟨h1, h2, h3⟩ := h j hj
   rw [gd_app_l hj]
   exact ⟨h1, h2, by rw [gd_app_l (by omega)]; exact h3⟩
theorem Rt.map {cls : List Int} (h : Rt cls) {lo hi : Int} (hl : lo < hi) {k : Nat} (hk : k < cls.length) (hlo : gd cls k = lo) : Rt (cls.map (rl lo hi)) := fun j hj => by
 have hj : j < cls.length := by simpa using hj
 obtain ⟨h1, h2, h3⟩ := h j hj
 obtain ⟨g1, g2, g3⟩ := h k hk
 rw [gd_map _ hj]
 unfold rl
 split
 · rename_i e
   refine ⟨by omega, by omega, ?_⟩
   rw [gd_map _ (by omega), hlo] at *
   rw [g3, if_neg (by omega)]
 · rename_i e
   refine ⟨h1, h2, ?_⟩
   rw [gd_map _ (by omega), h3, if_neg e]
theorem Rt.step {cls : List Int} (h : Rt cls) {J : Nat → Nat → Bool} {i k : Nat} (hi : i < cls.length) (hk : k < cls.length) : Rt (stepJ J i cls k) := by
 unfold stepJ
 split
 · exact h
 · rename_i e
   rw [not_or] at e
   by_cases c : gd cls k < gd cls i
   · exact h.map (by omega) hk (by omega)
   · exact h.map (k := i) (by omega) hi (by omega)
theorem Rt.inJ {J : Nat → Nat → Bool} {cls : List Int} (h : Rt cls) : ∀ k, k ≤ cls.length → Rt (inJ J cls.length cls k)
 | 0, _ => by rw [inJ_zero]; exact h.app
 | k + 1, hk => by
   rw [inJ_succ]
   exact (Rt.inJ h k (by omega)).step (by rw [inJ_len]; omega) (by rw [inJ_len]; omega)
theorem rt_roots (J : Nat → Nat → Bool) : ∀ n, Rt (rootsJ J n)
 | 0 => fun j hj => by simp [rootsJ] at hj
 | n + 1 => by
   have := (rt_roots J n).inJ (J := J) n (by rw [rootsJ_len]; omega)
   rw [rootsJ_len] at this; exact this
def mapTo (f : Int → Int) (d : List Int) (m : Nat) : List Int := (d.take m).map f ++ d.drop m
theorem mapTo_zero (f : Int → Int) (d : List Int) : mapTo f d 0 = d := by simp [mapTo]
theorem mapTo_len (f : Int → Int) (d : List Int) {m : Nat} (h : m ≤ d.length) : (mapTo f d m).length = d.length := by simp [mapTo]; omega
theorem mapTo_gd {f : Int → Int} {d : List Int} {m : Nat} (h : m < d.length) : gd (mapTo f d m) m = gd d m := by
 simp only [gd, mapTo]
 rw [List.getElem?_append_right (by simp; omega)]
 simp only [List.length_map, List.length_take, List.getElem?_drop]
 congr 2; omega
theorem mapTo_set {f : Int → Int} {d : List Int} {m : Nat} (h : m < d.length) : (mapTo f d m).set m (f (gd d m)) = mapTo f d (m + 1) := by
 have hl : ((d.take m).map f).length = m := by simp; omega
 simp only [mapTo]
 rw [List.set_append_right _ _ (by omega), hl, Nat.sub_self, drop_gd h, List.set_cons_zero, List.take_add_one, getG h]
 simp
theorem mapTo_skip {f : Int → Int} {d : List Int} {m : Nat} (h : m < d.length) (e : f (gd d m) = gd d m) : mapTo f d (m + 1) = mapTo f d m := by
 rw [← mapTo_set h, e, ← mapTo_gd (f := f) h]
 exact (set_self (by rw [mapTo_len f d (by omega)]; exact h)).symm
theorem mapTo_all {f : Int → Int} {c z : List Int} : mapTo f (c ++ z) c.length = c.map f ++ z := by simp [mapTo]
def cntR (cls : List Int) (m : Nat) : Nat := ((List.range m).filter fun j => decide (gd cls j = (j : Int))).length
def numR (cls : List Int) (i : Nat) : Nat := cntR cls (gd cls i).toNat
theorem cntR_succ (cls : List Int) (m : Nat) : cntR cls (m + 1) = cntR cls m + if gd cls m = (m : Int) then 1 else 0 := by
 unfold cntR
 rw [List.range_succ, List.filter_append, List.length_append]
 congr 1
 split <;> simp [*]
theorem cntR_mono (cls : List Int) {m : Nat} : ∀ {n : Nat}, m ≤ n → cntR cls m ≤ cntR cls n
 | 0, h => by obtain rfl : m = 0 := by omega
              exact Nat.le_refl _
 | n + 1, h => by
   by_cases e : m = n + 1
   · rw [e]; exact Nat.le_refl _
   · have := cntR_mono cls (m := m) (n := n) (by omega)
     rw [cntR_succ]; omega
theorem cntR_le (cls : List Int) (m : Nat) : cntR cls m ≤ m := by
 have := List.length_filter_le (fun j => decide (gd cls j = (j : Int))) (List.range m)
 simpa [cntR] using this
theorem numR_root {cls : List Int} {i : Nat} (h : gd cls i = (i : Int)) : numR cls i = cntR cls i := by rw [numR, h, Int.toNat_natCast]
theorem numR_at {cls : List Int} (h : Rt cls) {i : Nat} (hi : i < cls.length) : numR cls (gd cls i).toNat = numR cls i := by
 rw [numR, (h i hi).2.2, numR]
theorem numR_lt {cls : List Int} (h : Rt cls) {i m : Nat} (hi : i < cls.length) (hm : i < m) : numR cls i < cntR cls m := by
 obtain ⟨h1, h2, h3⟩ := h i hi
 have h4 := cntR_mono cls (m := (gd cls i).toNat + 1) (n := m) (by omega)
 rw [cntR_succ, if_pos (by rw [h3]; omega)] at h4
 rw [numR]; omega
/-- the lists of a partition by numbers, as far as the first i members go -/
def netsP {α : Type} [Inhabited α] (cls : List Int) (xs : List α) (i : Nat) : List (List α) := (List.range (cntR cls i)).map fun k => ((List.range i).filter fun j => decide (numR cls j = k)).map (gd xs)
theorem netsP_len {α : Type} [Inhabited α] (cls : List Int) (xs : List α) (i : Nat) : (netsP cls xs i).length = cntR cls i := by simp [netsP]
theorem netsP_gd {α : Type} [Inhabited α] {cls : List Int} {xs : List α} {i k : Nat} (h : k < cntR cls i) : gd (netsP cls xs i) k = ((List.range i).filter fun j => decide (numR cls j = k)).map (gd xs) := by
 rw [netsP, gd_map _ (by simpa using h)]
 simp [gd, h]
/-- the lists with room for the list of member i -/
def netsE {α : Type} [Inhabited α] (cls : List Int) (xs : List α) (i : Nat) : List (List α) := if gd cls i = (i : Int) then netsP cls xs i ++ [[]] else netsP cls xs i
theorem netsE_len {α : Type} [Inhabited α] (cls : List Int) (xs : List α) (i : Nat) : (netsE cls xs i).length = cntR cls (i + 1) := by
 unfold netsE; rw [cntR_succ]; split <;> simp [netsP_len, *]
theorem numR_ge {cls : List Int} (h : Rt cls) {i j : Nat} (hi : i < cls.length) (hj : j < i) (hr : gd cls i = (i : Int)) : numR cls j ≠ cntR cls i := by
 have := numR_lt h (i := j) (m := i) (by omega) hj; omega
theorem netsE_gd {α : Type} [Inhabited α] {cls : List Int} (h : Rt cls) {xs : List α} {i k : Nat} (hi : i < cls.length) (hk : k < cntR cls (i + 1)) : gd (netsE cls xs i) k = ((List.range i).filter fun j => decide (numR cls j = k)).map (gd xs) := by
 unfold netsE
 rw [cntR_succ] at hk
 split
 · rename_i e
   rw [if_pos e] at hk
   by_cases c : k < cntR cls i
   · rw [gd_app_l (by rw [netsP_len]; exact c), netsP_gd c]
   · obtain rfl : k = cntR cls i := by omega
     have e1 := gd_app_r (xs := netsP cls xs i) (a := ([] : List α))
     rw [netsP_len] at e1
     rw [e1, List.filter_eq_nil_iff.2, List.map_nil]
     intro j hj
     have := numR_ge h hi (List.mem_range.1 hj) e
     simpa using this
 · rename_i e
   rw [if_neg e] at hk
   exact netsP_gd (by omega)
theorem netsP_succ {α : Type} [Inhabited α] {cls : List Int} (h : Rt cls) {xs : List α} {i : Nat} (hi : i < cls.length) : netsP cls xs (i + 1) = (netsE cls xs i).set (numR cls i) (gd (netsE cls xs i) (numR cls i) ++ [gd xs i]) := by
 have hn := numR_lt h hi (Nat.lt_succ_self i)
 apply List.ext_getElem?
 intro k
 by_cases hk : k < cntR cls (i + 1)
 · rw [getG (by rw [netsP_len]; exact hk), netsP_gd hk, List.getElem?_set]
   by_cases c : numR cls i = k
   · subst c
     rw [if_pos rfl, if_pos (by rw [netsE_len]; exact hk), netsE_gd h hi hk, List.range_succ, List.filter_append, List.map_append]
     simp
   · rw [if_neg c, getG (by rw [netsE_len]; exact hk), netsE_gd h hi hk, List.range_succ, List.filter_append, List.map_append]
     simp [c]
 · rw [List.getElem?_eq_none (by rw [netsP_len]; omega), List.getElem?_eq_none (by rw [List.length_set, netsE_len]; omega)]
theorem filter_or_perm {α : Type} {p q : α → Bool} : ∀ {l : List α}, (∀ x ∈ l, ¬ (p x = true ∧ q x = true)) → (l.filter p ++ l.filter q).Perm (l.filter fun x => p x || q x)
 | [], _ => .refl _
 | x :: l, h => by
   have ih := filter_or_perm (l := l) fun y hy => h y (.tail _ hy)
   have hx := h x (.head _)
   cases hp : p x <;> cases hq : q x
   · simpa [hp, hq] using ih
   · simp only [List.filter_cons, hp, hq]
     simp only [Bool.or_true, if_true, Bool.false_eq_true, if_false]
     exact (List.perm_middle).trans (.cons _ ih)
   · simpa [hp, hq] using ih
   · exact absurd ⟨hp, hq⟩ hx
theorem parts_perm (f : Nat → Nat) (l : List Nat) : ∀ c, ((List.range c).flatMap fun k => l.filter fun j => decide (f j = k)).Perm (l.filter fun j => decide (f j < c))
 | 0 => by simp
 | c + 1 => by
   rw [List.range_succ, List.flatMap_append]
   simp only [List.flatMap_cons, List.flatMap_nil, List.append_nil]
   refine ((parts_perm f l c).append_right _).trans ((filter_or_perm fun x _ h => by simp at h; omega).trans ?_)
   refine .of_eq (List.filter_congr fun x _ => ?_)
   rw [Bool.eq_iff_iff]; simp; omega
/-- the lists of a partition, one after the other, are a permutation of the members -/
theorem netsP_perm {α : Type} [Inhabited α] {cls : List Int} (h : Rt cls) (xs : List α) (hl : cls.length = xs.length) : (netsP cls xs xs.length).flatten.Perm xs := by
 have e : (netsP cls xs xs.length).flatten = (((List.range (cntR cls xs.length)).flatMap fun k => (List.range xs.length).filter fun j => decide (numR cls j = k)).map (gd xs)) := by
   rw [netsP, ← List.flatMap_def, List.map_flatMap]
 rw [e]
 refine ((parts_perm (numR cls) (List.range xs.length) (cntR cls xs.length)).map (gd xs)).trans ?_
 refine .of_eq ?_
 rw [List.filter_eq_self.2 fun j hj => ?_]
 · apply List.ext_getElem?
   intro j
   by_cases hj : j < xs.length
   · rw [getG hj]; simp [hj]
   · rw [List.getElem?_eq_none (by simp; omega), List.getElem?_eq_none (by omega)]
 · have hj := List.mem_range.1 hj
   simpa using numR_lt h (by omega) hj
theorem netsP_map {α β : Type} [Inhabited α] [Inhabited β] (f : α → β) (cls : List Int) (xs : List α) {i : Nat} (hi : i ≤ xs.length) : netsP cls (xs.map f) i = (netsP cls xs i).map (List.map f) := by
 simp only [netsP, List.map_map]
 apply List.map_congr_left
 intro k _
 simp only [Function.comp_apply, List.map_map]
 apply List.map_congr_left
 intro j hj
 have := List.mem_range.1 (List.mem_filter.1 hj).1
 simp only [Function.comp_apply]
 exact gd_map _ (by omega)
noncomputable def JL (l : List (List Rect)) (k i : Nat) : Bool := jnL l (gd (pcL l 4) k) (gd (pcL l 4) i)
noncomputable def clsL (l : List (List Rect)) : List Int := rootsJ (JL l) (pcL l 4).length
theorem clsL_len (l : List (List Rect)) : (clsL l).length = (pcL l 4).length := rootsJ_len _ _
theorem clsL_rt (l : List (List Rect)) : Rt (clsL l) := rt_roots _ _
noncomputable def netN (l : List (List Rect)) : Nat := cntR (clsL l) (pcL l 4).length
noncomputable def netL (l : List (List Rect)) : List (List (Int × List Rect)) := netsP (clsL l) ((pcL l 4).map pcR) (pcL l 4).length
theorem netL_len (l : List (List Rect)) : (netL l).length = netN l := netsP_len _ _ _
end Go.Proofs.YthhjapiggekjbaaGreat
namespace Go.Proofs.YthhjapiggekjbaaGreat
set_option linter.unusedVariables false
set_option linter.unusedSimpArgs false
open Go
set_option maxRecDepth 20000
set_option linter.unusedSimpArgs false
variable {G : Gh} {L : List Ch} {R : Value → Gh → List Ch → Prop}
theorem WP.cut4 {P : Program} {n : Nat} {Q : Post} {σ : Nat → Value} {x y : Code} {A B D E : Type} (keep : List Nat) (J : A → B → D → E → Prop) (S : A → B → D → E → List (Nat × Value)) (C : A → B → D → E → List Ch)
   (h : WP P n x (thenP (fun σ' G' L' => G' = G ∧ ∃ a b d e, J a b d e ∧ HasV σ' (S a b d e) ∧ Keeps σ' σ keep ∧ Cv L' (C a b d e)) Q) σ G L)
   (k : ∀ a b d e τ, J a b d e → WP P n y Q (upds (updk τ σ keep) (S a b d e)) G (C a b d e)) : WP P n (.seq x y) Q σ G L :=
 WP.cut1 keep (A := A × B × D × E) (fun x => J x.1 x.2.1 x.2.2.1 x.2.2.2) (fun x => S x.1 x.2.1 x.2.2.1 x.2.2.2) (fun x => C x.1 x.2.1 x.2.2.1 x.2.2.2) (WP.mono h fun e σ G L hq => by
     cases e with
     | normal => obtain ⟨e, a', b', d', e', h⟩ := hq; exact ⟨e, (a', b', d', e'), h⟩
     | _ => exact hq) fun a τ j => k a.1 a.2.1 a.2.2.1 a.2.2.2 τ j
theorem common_s {a b : Rect} (k : R (vrect (cmn a b)) G L) : CallT Tryz.prog 164 #[vrect a, vrect b] G L R := by
 refine CallT.enter (args := _) Tryz.func164 rfl rfl (by kernel_rfl) rfl ?_
 refine WP.seq (WP.region ?_)
 refine RG.ot rfl (OT.box (cs := rectT.enc a) rfl rfl rfl fun b2 => ?_)
 refine RG.ot rfl (OT.box (cs := rectT.enc b) rfl rfl rfl fun b3 => ?_)
 refine RG.ot rfl (OT.alloc rfl Zr140 fun b4 => ?_)
 refine RG.nil (WP.seq (WP.region (RG.pv rfl (PV.field rfl Fo140_0 rfl) (RG.pv rfl (PV.load1 rfl Sc2 rfl (Rd.blk rfl)) (RG.pv rfl (PV.field rfl Fo140_0 rfl) (RG.pv rfl (PV.load1 rfl Sc2 rfl (Rd.blk rfl)) (RG.pv rfl (PV.max2 rfl rfl rfl) ?_)))))))
 refine RG.pv rfl (PV.field rfl Fo140_1 rfl) (RG.pv rfl (PV.load1 rfl Sc2 rfl (Rd.blk rfl)) (RG.pv rfl (PV.field rfl Fo140_1 rfl) (RG.pv rfl (PV.load1 rfl Sc2 rfl (Rd.blk rfl)) (RG.pv rfl (PV.max2 rfl rfl rfl) (RG.pv rfl (PV.field rfl Fo140_2 rfl) (RG.pv rfl (PV.load1 rfl Sc2 rfl (Rd.blk rfl)) (RG.pv rfl (PV.field rfl Fo140_2 rfl) ?_)))))))
 refine RG.pv rfl (PV.load1 rfl Sc2 rfl (Rd.blk rfl)) (RG.pv rfl (PV.min2 rfl rfl rfl) (RG.pv rfl (PV.field rfl Fo140_3 rfl) (RG.pv rfl (PV.load1 rfl Sc2 rfl (Rd.blk rfl)) (RG.pv rfl (PV.field rfl Fo140_3 rfl) (RG.pv rfl (PV.load1 rfl Sc2 rfl (Rd.blk rfl)) (RG.pv rfl (PV.min2 rfl rfl rfl) (RG.pv rfl (PV.build (vs := [(0, [vi _]), (1, [vi _]), (2, [vi _]), (3, [vi _])]) (out := [_, _, _, _]) rfl Zr140 Pl140 ⟨rfl, (Cl.c rfl), ⟨rfl, (Cl.c rfl), ⟨rfl, (Cl.c rfl), ⟨rfl, (Cl.c rfl), trivial⟩⟩⟩⟩ rfl) ?_)))))))
 refine RG.ot rfl (OT.storeW (vs := [vi _, vi _, vi _, vi _]) rfl Sz140 rfl rfl (Cl.c rfl) rfl rfl (OneC.c rfl) ?_)
 refine RG.nil ?_
 refine WP.ret ?_
 exact ⟨_, _, ResV.one rfl (RV1.cell rfl Ag140 rfl), Cv.p, k⟩
theorem ovl_s {a b : Rect} (k : R (.bool (ovl a b)) G L) : CallT Tryz.prog 118 #[vrect a, vrect b] G L R := by
 refine CallT.enter (args := _) Tryz.func118 rfl rfl (by kernel_rfl) rfl ?_
 refine WP.seq (WP.region ?_)
 refine RG.ot rfl (OT.box (cs := rectT.enc a) rfl rfl rfl fun b2 => ?_)
 refine RG.ot rfl (OT.box (cs := rectT.enc b) rfl rfl rfl fun b3 => ?_)
 refine RG.br rfl rfl rfl (RG.nil (WP.seq (WP.region (RG.pv rfl (PV.loadW rfl Ag140 rfl rfl) ?_))))
 refine RG.callF (vs := [_]) rfl rfl En83 rfl (validRect_s ?_)
 refine RG.bl rfl rfl rfl ?_
 refine RG.gs rfl rfl rfl (fun hp => (PV.loadW rfl Ag140 rfl rfl)) ?_
 refine RG.gsC rfl rfl rfl rfl En83 (fun hp => ⟨_, (acons (gs_t hp) anil), validRect_s ⟨rfl, rfl, rfl⟩⟩) ?_
 refine RG.pv rfl (PV.pickA rfl rfl (fun hq => gs_t (geqT hq)) rfl) (RG.bl rfl rfl rfl ?_)
 refine RG.gs rfl rfl rfl (fun hp => (PV.loadW rfl Ag140 rfl rfl)) ?_
 refine RG.gs rfl rfl rfl (fun hp => (PV.loadW rfl Ag140 rfl rfl)) ?_
 refine RG.gsC rfl rfl rfl rfl En164 (fun hp => ⟨_, (acons (gs_t hp) (acons (gs_t hp) anil)), common_s ⟨rfl, rfl, rfl⟩⟩) ?_
 refine RG.gsC rfl rfl rfl rfl En83 (fun hp => ⟨_, (acons (gs_t hp) anil), validRect_s ⟨rfl, rfl, rfl⟩⟩) ?_
 refine RG.pv rfl (PV.pickA rfl rfl (fun hq => gs_t (geqT hq)) rfl) (RG.br rfl rfl rfl (RG.nil ?_))
 refine WP.ret ?_
 exact ⟨_, _, ResV.one rfl rfl, Cv.p, k⟩
theorem gd_mem {α : Type} [Inhabited α] {xs : List α} {i : Nat} (h : i < xs.length) : gd xs i ∈ xs := by rw [gd_eq h]; exact List.getElem_mem h
theorem any2_false {α : Type} [Inhabited α] {p : α → α → Bool} {xs ys : List α} (h : ∀ i, i < xs.length → ∀ j, j < ys.length → p (gd xs i) (gd ys j) = false) : (xs.any fun x => ys.any fun y => p x y) = false := by
 rw [List.any_eq_false]
 intro x hx
 obtain ⟨i, hi, rfl⟩ := List.getElem_of_mem hx
 rw [Bool.not_eq_true, List.any_eq_false]
 intro y hy
 obtain ⟨j, hj, rfl⟩ := List.getElem_of_mem hy
 have := h i hi j hj
 rw [gd_eq hi, gd_eq hj] at this; simp [this]
theorem any2_true {α : Type} [Inhabited α] {p : α → α → Bool} {xs ys : List α} {i j : Nat} (hi : i < xs.length) (hj : j < ys.length) (h : p (gd xs i) (gd ys j) = true) : (xs.any fun x => ys.any fun y => p x y) = true := by
 simp only [List.any_eq_true]
 exact ⟨gd xs i, gd_mem hi, gd ys j, gd_mem hj, h⟩
theorem row_next {p : Nat → Nat → Bool} {i m : Nat} (h : ∀ a, a < i → ∀ b, b < m → p a b = false) (h2 : ∀ b, b < m → p i b = false) : ∀ a, a < i + 1 → ∀ b, b < m → p a b = false := fun a ha b hb => by
 by_cases e : a = i
 · subst e; exact h2 b hb
 · exact h a (by omega) b hb
theorem col_next {p : Nat → Bool} {j : Nat} (h : ∀ b, b < j → p b = false) (h2 : p j = false) : ∀ b, b < j + 1 → p b = false := fun b hb => by
 by_cases e : b = j
 · subst e; exact h2
 · exact h b (by omega)
theorem meet_s {v u : Value} {xs ys : List Rect} (h1 : Rs G L rectT v xs) (h2 : Rs G L rectT u ys) (k : R (.bool (meetB xs ys)) G L) : CallT Tryz.prog 165 #[v, u] G L R := by
 refine CallT.bd h1 fun hb => ?_
 refine CallT.bd h2 fun hb' => ?_
 refine CallT.enter (args := _) Tryz.func165 rfl rfl (by kernel_rfl) rfl ?_
 refine WP.seq (WP.region (RG.br rfl rfl rfl (RG.nil (WP.seq (WP.seq (WP.region (RG.pv rfl (PV.move (v := v) rfl rfl) ?_)))))))
 refine RG.pv rfl (PV.len (v := v) rfl Tryz.underlying50 rfl (SlF.r h1)) (RG.ml rfl rfl rfl (RG.nil (WP.block ?_)))
 refine WP.loop1 [1, 9, 10] (fun i => i ≤ xs.length ∧ ∀ p, p < i → ∀ q, q < ys.length → ovl (gd xs p) (gd ys q) = false) (fun i => [(11, vi i)]) (fun i => L) (fun i => xs.length - i) 0 ⟨by omega, fun p h => by omega⟩ ⟨rfl, trivial⟩ Cv.p ?_
 rintro i τ ⟨hi, hn⟩
 refine WP.seq (WP.region (RG.pv rfl (PV.lss rfl rfl rfl) (RG.nil (WP.seq ?_))))
 refine WP.cond rfl (fun h3 => ?_) (fun h3 => ?_)
 · have h3 := of_decide_eq_true h3
   refine WP.skip (WP.seq (WP.block (WP.seq (WP.region (RG.pv rfl (PV.idxS (v := v) rfl Is50 rfl (SlF.r h1) rfl rfl (by omega)) (RG.pv rfl (PV.loadE rfl Ag140 rfl rfl (El.r h1 (getG (by omega)))) ?_))))))
   refine RG.ot rfl (OT.alloc rfl Zr140 fun b6 => ?_)
   refine RG.ot rfl (OT.storeW (vs := [vi _, vi _, vi _, vi _]) rfl Sz140 rfl rfl (Cl.c rfl) rfl rfl (OneC.c rfl) ?_)
   refine RG.nil (WP.seq (WP.region (RG.pv rfl (PV.move (v := u) rfl rfl) (RG.pv rfl (PV.len (v := u) rfl Tryz.underlying50 rfl (SlF.r h2)) (RG.ml rfl rfl rfl (RG.nil (WP.block ?_)))))))
   refine WP.loop1 [1, 6, 9, 10, 11, 15, 16] (fun j => j ≤ ys.length ∧ ∀ q, q < j → ovl (gd xs i) (gd ys q) = false) (fun j => [(17, vi j)]) (fun j => blk b6 140 (rectT.enc (gd xs i)) :: L) (fun j => ys.length - j) 0 ⟨by omega, fun q h => by omega⟩ ⟨rfl, trivial⟩ Cv.p ?_
   rintro j τ1 ⟨hj, hm⟩
   refine WP.seq (WP.region (RG.pv rfl (PV.lss rfl rfl rfl) (RG.nil (WP.seq ?_))))
   refine WP.cond rfl (fun h4 => ?_) (fun h4 => ?_)
   · have h4 := of_decide_eq_true h4
     refine WP.skip (WP.seq (WP.block (WP.seq (WP.region (RG.pv rfl (PV.idxS (v := u) rfl Is50 rfl (SlF.r h2) rfl rfl (by omega)) (RG.pv rfl (PV.loadE rfl Ag140 rfl rfl (El.r h2 (getG (by omega)))) ?_))))))
     refine RG.ot rfl (OT.alloc rfl Zr140 fun b8 => ?_)
     refine RG.ot rfl (OT.storeW (vs := [vi _, vi _, vi _, vi _]) rfl Sz140 rfl rfl (Cl.c rfl) rfl rfl (OneC.c rfl) ?_)
     refine RG.nil (WP.seq (WP.region (RG.pv rfl (PV.loadW rfl Ag140 rfl rfl) (RG.pv rfl (PV.loadW rfl Ag140 rfl rfl) ?_))))
     refine RG.callF (vs := [_, _]) rfl rfl En118 rfl (ovl_s ?_)
     refine RG.nil ?_
     refine WP.cond rfl (fun h5 => ?_) (fun h5 => ?_)
     · have e : meetB xs ys = true := any2_true (i := i) (j := j) (by omega) (by omega) h5
       rw [e] at k
       refine WP.seq (WP.region (RG.br rfl rfl rfl (RG.nil ?_)))
       refine WP.ret ?_
       exact ⟨_, _, ResV.one rfl rfl, Cv.p, k⟩
     · refine WP.skip ?_
       refine WP.region (RG.pv rfl (PV.add rfl rfl rfl (by omega)) (RG.ml rfl rfl rfl (RG.nil ?_)))
       exact ⟨rfl, j + 1, ⟨by omega, col_next hm h5⟩, ⟨rfl, trivial⟩, ⟨rfl, rfl, rfl, rfl, rfl, rfl, rfl, trivial⟩, Cv.p, by omega⟩
   · have h4 := of_decide_eq_false h4
     obtain rfl : j = ys.length := by omega
     refine WP.exit ?_
     refine WP.region (RG.pv rfl (PV.add rfl rfl rfl (by omega)) (RG.ml rfl rfl rfl (RG.nil ?_)))
     exact ⟨rfl, i + 1, ⟨by omega, row_next (p := fun a b => ovl (gd xs a) (gd ys b)) hn hm⟩, ⟨rfl, trivial⟩, ⟨rfl, rfl, rfl, trivial⟩, Cv.p, by omega⟩
 · have h3 := of_decide_eq_false h3
   obtain rfl : i = xs.length := by omega
   have e : meetB xs ys = false := any2_false hn
   rw [e] at k
   refine WP.exit ?_
   refine WP.seq (WP.region (RG.br rfl rfl rfl (RG.nil ?_)))
   refine WP.ret ?_
   exact ⟨_, _, ResV.one rfl rfl, Cv.p, k⟩
theorem meetIn_s {v u w : Value} {xs ys zs : List Rect} (h1 : Rs G L rectT v xs) (h2 : Rs G L rectT u ys) (h3 : Rs G L rectT w zs) (k : R (.bool (meetIn xs ys zs)) G L) : CallT Tryz.prog 120 #[v, u, w] G L R := by
 refine CallT.bd h1 fun hb => ?_
 refine CallT.bd h2 fun hb' => ?_
 refine CallT.enter (args := _) Tryz.func120 rfl rfl (by kernel_rfl) rfl ?_
 refine WP.seq (WP.region (RG.br rfl rfl rfl (RG.nil (WP.seq (WP.seq (WP.region (RG.pv rfl (PV.move (v := v) rfl rfl) ?_)))))))
 refine RG.pv rfl (PV.len (v := v) rfl Tryz.underlying50 rfl (SlF.r h1)) (RG.ml rfl rfl rfl (RG.nil (WP.block ?_)))
 refine WP.loop1 [1, 2, 12, 13] (fun i => i ≤ xs.length ∧ ∀ p, p < i → ∀ q, q < ys.length → (validRect (cmn (gd xs p) (gd ys q)) && meetB [cmn (gd xs p) (gd ys q)] zs) = false) (fun i => [(14, vi i)]) (fun i => L) (fun i => xs.length - i) 0 ⟨by omega, fun p h => by omega⟩ ⟨rfl, trivial⟩ Cv.p ?_
 rintro i τ ⟨hi, hn⟩
 refine WP.seq (WP.region (RG.pv rfl (PV.lss rfl rfl rfl) (RG.nil (WP.seq ?_))))
 refine WP.cond rfl (fun h4 => ?_) (fun h4 => ?_)
 · have h4 := of_decide_eq_true h4
   refine WP.skip (WP.seq (WP.block (WP.seq (WP.region (RG.pv rfl (PV.idxS (v := v) rfl Is50 rfl (SlF.r h1) rfl rfl (by omega)) (RG.pv rfl (PV.loadE rfl Ag140 rfl rfl (El.r h1 (getG (by omega)))) ?_))))))
   refine RG.ot rfl (OT.alloc rfl Zr140 fun b8 => ?_)
   refine RG.ot rfl (OT.storeW (vs := [vi _, vi _, vi _, vi _]) rfl Sz140 rfl rfl (Cl.c rfl) rfl rfl (OneC.c rfl) ?_)
   refine RG.nil (WP.seq (WP.region (RG.pv rfl (PV.move (v := u) rfl rfl) (RG.pv rfl (PV.len (v := u) rfl Tryz.underlying50 rfl (SlF.r h2)) (RG.ml rfl rfl rfl (RG.nil (WP.block ?_)))))))
   refine WP.loop1 [1, 2, 8, 12, 13, 14, 18, 19] (fun j => j ≤ ys.length ∧ ∀ q, q < j → (validRect (cmn (gd xs i) (gd ys q)) && meetB [cmn (gd xs i) (gd ys q)] zs) = false) (fun j => [(20, vi j)]) (fun j => blk b8 140 (rectT.enc (gd xs i)) :: L) (fun j => ys.length - j) 0 ⟨by omega, fun q h => by omega⟩ ⟨rfl, trivial⟩ Cv.p ?_
   rintro j τ1 ⟨hj, hm⟩
   refine WP.seq (WP.region (RG.pv rfl (PV.lss rfl rfl rfl) (RG.nil (WP.seq ?_))))
   refine WP.cond rfl (fun h5 => ?_) (fun h5 => ?_)
   · have h5 := of_decide_eq_true h5
     refine WP.skip (WP.seq (WP.block (WP.seq (WP.region (RG.pv rfl (PV.idxS (v := u) rfl Is50 rfl (SlF.r h2) rfl rfl (by omega)) (RG.pv rfl (PV.loadE rfl Ag140 rfl rfl (El.r h2 (getG (by omega)))) ?_))))))
     refine RG.ot rfl (OT.alloc rfl Zr140 fun b10 => ?_)
     refine RG.ot rfl (OT.storeW (vs := [vi _, vi _, vi _, vi _]) rfl Sz140 rfl rfl (Cl.c rfl) rfl rfl (OneC.c rfl) ?_)
     refine RG.nil (WP.seq (WP.region (RG.pv rfl (PV.loadW rfl Ag140 rfl rfl) (RG.pv rfl (PV.loadW rfl Ag140 rfl rfl) ?_))))
     refine RG.callF (vs := [_, _]) rfl rfl En164 rfl (common_s ?_)
     refine RG.ot rfl (OT.alloc rfl Zr140 fun b11 => ?_)
     refine RG.ot rfl (OT.storeW (vs := [vi _, vi _, vi _, vi _]) rfl Sz140 rfl rfl (Cl.c rfl) rfl rfl (OneC.c rfl) ?_)
     refine RG.nil (WP.seq (WP.region (RG.pv rfl (PV.loadW rfl Ag140 rfl rfl) ?_)))
     refine RG.callF (vs := [_]) rfl rfl En83 rfl (validRect_s ?_)
     refine RG.bl rfl rfl rfl ?_
     refine RG.spl (t := 29) rfl (fun h6 => ?_) (fun h6 => ?_)
     · refine RG.take rfl rfl rfl h6 ?_
       refine RG.pv rfl (PV.loadW rfl Ag140 rfl rfl) ?_
       refine RG.take rfl rfl rfl h6 ?_
       refine RG.ot rfl (OT.bslice (F := rectT) (els := [_]) rfl El50 rfl (by decide) rfl (by decide) ⟨rfl, (Cl.c rfl), trivial⟩ fun v31 => ?_)
       refine RG.take rfl rfl rfl h6 ?_
       refine RG.pv rfl (PV.move (v := w) rfl rfl) ?_
       refine RG.take rfl rfl rfl h6 ?_
       refine RG.callF (vs := [v31, w]) rfl rfl En165 rfl (meet_s Rs.o (Rs.up h3) ?_)
       refine RG.pv rfl (PV.pickT rfl rfl h6 rfl) (RG.nil ?_)
       refine WP.cond rfl (fun h7 => ?_) (fun h7 => ?_)
       · have e : meetIn xs ys zs = true := any2_true (p := fun x y => validRect (cmn x y) && meetB [cmn x y] zs) (i := i) (j := j) (by omega) (by omega) (by rw [h6]; exact h7)
         rw [e] at k
         refine WP.seq (WP.region (RG.br rfl rfl rfl (RG.nil ?_)))
         refine WP.ret ?_
         exact ⟨_, _, ResV.one rfl rfl, Cv.p, k⟩
       · refine WP.skip ?_
         refine WP.region (RG.pv rfl (PV.add rfl rfl rfl (by omega)) (RG.ml rfl rfl rfl (RG.nil ?_)))
         exact ⟨rfl, j + 1, ⟨by omega, col_next hm (by rw [h6]; exact h7)⟩, ⟨rfl, trivial⟩, ⟨rfl, rfl, rfl, rfl, rfl, rfl, rfl, rfl, trivial⟩, Cv.p, by omega⟩
     · refine RG.skip rfl rfl rfl (gne h6) ?_
       refine RG.skip rfl rfl rfl (gne h6) ?_
       refine RG.skip rfl rfl rfl (gne h6) ?_
       refine RG.skip rfl rfl rfl (gne h6) ?_
       refine RG.pv rfl (PV.pickE rfl rfl h6 rfl) (RG.nil ?_)
       refine WP.cond rfl (fun h7 => ?_) (fun h7 => ?_)
       · cases h7
       · refine WP.skip ?_
         refine WP.region (RG.pv rfl (PV.add rfl rfl rfl (by omega)) (RG.ml rfl rfl rfl (RG.nil ?_)))
         exact ⟨rfl, j + 1, ⟨by omega, col_next hm (by rw [h6]; rfl)⟩, ⟨rfl, trivial⟩, ⟨rfl, rfl, rfl, rfl, rfl, rfl, rfl, rfl, trivial⟩, Cv.p, by omega⟩
   · have h5 := of_decide_eq_false h5
     obtain rfl : j = ys.length := by omega
     refine WP.exit ?_
     refine WP.region (RG.pv rfl (PV.add rfl rfl rfl (by omega)) (RG.ml rfl rfl rfl (RG.nil ?_)))
     exact ⟨rfl, i + 1, ⟨by omega, row_next (p := fun a b => validRect (cmn (gd xs a) (gd ys b)) && meetB [cmn (gd xs a) (gd ys b)] zs) hn hm⟩, ⟨rfl, trivial⟩, ⟨rfl, rfl, rfl, rfl, trivial⟩, Cv.p, by omega⟩
 · have h4 := of_decide_eq_false h4
   obtain rfl : i = xs.length := by omega
   have e : meetIn xs ys zs = false := any2_false (p := fun x y => validRect (cmn x y) && meetB [cmn x y] zs) hn
   rw [e] at k
   refine WP.exit ?_
   refine WP.seq (WP.region (RG.br rfl rfl rfl (RG.nil ?_)))
   refine WP.ret ?_
   exact ⟨_, _, ResV.one rfl rfl, Cv.p, k⟩
end Go.Proofs.YthhjapiggekjbaaGreat
namespace Go.Proofs.YthhjapiggekjbaaGreat
set_option linter.unusedVariables false
set_option linter.unusedSimpArgs false
open Go
set_option maxRecDepth 20000
set_option linter.unusedSimpArgs false
variable {G : Gh} {L : List Ch} {R : Value → Gh → List Ch → Prop}
theorem at_eq {x y : Int} (hx : -40 ≤ x) (hy : -40 ≤ y) : ((y + 40) * 80 + x + 40).toNat = (y + 40).toNat * 80 + (x + 40).toNat := by omega
theorem fill_s {v : Value} {D : List Bool} {r : Rect} (hD : D.length = 6400) (hr : validRect r = true) (k : ∀ D' : List Bool, D'.length = 6400 → (∀ y x, y < 80 → x < 80 → gb D' y x = (gb D y x || inR r y x)) → R v G (osl 4 boolT v D' :: L)) :
   CallT Tryz.prog 155 #[v, vrect r] G (osl 4 boolT v D :: L) R := by
 have hv := validR_iff.1 hr
 refine CallT.enter (args := _) Tryz.func155 rfl rfl (by kernel_rfl) rfl ?_
 refine WP.seq (WP.region ?_)
 refine RG.ot rfl (OT.box (cs := rectT.enc r) rfl rfl rfl fun b3 => ?_)
 refine RG.pv rfl (PV.asg rfl rfl) (RG.nil (WP.seq (WP.seq (WP.region (RG.pv rfl (PV.field rfl Fo140_1 rfl) (RG.pv rfl (PV.load1 rfl Sc2 rfl (Rd.blk rfl)) (RG.mr rfl rfl rfl ?_)))))))
 refine RG.nil (WP.block ?_)
 refine WP.loop2 [0, 3] (fun (y : Int) (E : List Bool) => r.y0 ≤ y ∧ y ≤ r.y1 ∧ E.length = 6400 ∧ ∀ v u : Nat, v < 80 → u < 80 → (gb E v u = true ↔ gb D v u = true ∨ (inR r v u = true ∧ (v : Int) - 40 < y))) (fun (y : Int) (E : List Bool) => [(5, vi y)]) (fun (y : Int) (E : List Bool) => osl 4 boolT v E :: blk b3 140 (rectT.enc r) :: L) (fun (y : Int) (E : List Bool) => (r.y1 - y).toNat) r.y0 D ⟨by omega, by omega, hD, fun v u hv hu => ⟨.inl, fun h => h.resolve_right fun ⟨h1, h2⟩ => by rw [inR_iff] at h1; omega⟩⟩ ⟨rfl, trivial⟩ Cv.p ?_
 rintro y E τ ⟨hy0, hy1, hE, hg⟩
 refine WP.seq (WP.seq (WP.region (RG.ml rfl rfl rfl (RG.pv rfl (PV.field rfl Fo140_3 rfl) (RG.pv rfl (PV.load1 rfl Sc2 rfl (Rd.blk rfl)) (RG.pv rfl (PV.lss rfl rfl rfl) (RG.nil ?_)))))))
 refine WP.cond rfl (fun h2 => ?_) (fun h2 => ?_)
 · have h2 := of_decide_eq_true h2
   refine WP.skip (WP.seq (WP.block (WP.seq (WP.region (RG.pv rfl (PV.field rfl Fo140_0 rfl) (RG.pv rfl (PV.load1 rfl Sc2 rfl (Rd.blk rfl)) (RG.mr rfl rfl rfl ?_)))))))
   refine RG.nil (WP.block ?_)
   refine WP.loop2 [0, 3, 5] (fun (x : Int) (F : List Bool) => r.x0 ≤ x ∧ x ≤ r.x1 ∧ F.length = 6400 ∧ ∀ v u : Nat, v < 80 → u < 80 → (gb F v u = true ↔ gb E v u = true ∨ ((v : Int) - 40 = y ∧ r.x0 ≤ (u : Int) - 40 ∧ (u : Int) - 40 < x))) (fun (x : Int) (F : List Bool) => [(6, vi x)]) (fun (x : Int) (F : List Bool) => osl 4 boolT v F :: blk b3 140 (rectT.enc r) :: L) (fun (x : Int) (F : List Bool) => (r.x1 - x).toNat) r.x0 E ⟨by omega, by omega, hE, fun v u hv hu => ⟨.inl, fun h => h.resolve_right fun ⟨h1, h2, h3⟩ => by omega⟩⟩ ⟨rfl, trivial⟩ Cv.p ?_
   rintro x F τ1 ⟨hx0, hx1, hF, hf⟩
   refine WP.seq (WP.seq (WP.region (RG.ml rfl rfl rfl (RG.pv rfl (PV.field rfl Fo140_2 rfl) (RG.pv rfl (PV.load1 rfl Sc2 rfl (Rd.blk rfl)) (RG.pv rfl (PV.lss rfl rfl rfl) (RG.nil ?_)))))))
   refine WP.cond rfl (fun h3 => ?_) (fun h3 => ?_)
   · have h3 := of_decide_eq_true h3
     have hat := at_eq (x := x) (y := y) (by omega) (by omega)
     refine WP.skip (WP.seq (WP.block (WP.region (RG.pv rfl (PV.move (v := v) rfl rfl) (RG.ml rfl rfl rfl (RG.ml rfl rfl rfl ?_))))))
     refine RG.callF (vs := [_, _]) rfl rfl En194 rfl (l17At_s (by omega) (by omega) ?_)
     refine RG.pv rfl (PV.idxS (j := ((y + 40) * 80 + x + 40).toNat) (v := v) rfl Is109 rfl SlF.o rfl (by omega) (by omega)) ?_
     refine RG.ot rfl (OT.storeE (F := boolT) rfl Sz4 rfl rfl rfl (Cl.c rfl) (OneC.c rfl) (by omega) ?_)
     refine RG.nil (WP.region (RG.ml rfl rfl rfl (RG.pv rfl (PV.add rfl rfl rfl (by omega)) (RG.mr rfl rfl rfl (RG.nil ?_)))))
     refine ⟨rfl, x + 1, (F.set ((y + 40) * 80 + x + 40).toNat true), ⟨by omega, by omega, by simpa using hF, fun v u hv hu => ?_⟩, ⟨rfl, trivial⟩, ⟨rfl, rfl, rfl, trivial⟩, Cv.p, by omega⟩
     rw [hat, gb_set' hF (by omega) (by omega) hu]
     by_cases c : v = (y + 40).toNat ∧ u = (x + 40).toNat
     · rw [if_pos c]; simp only [true_iff]; right; omega
     · rw [if_neg c, hf v u hv hu]
       constructor
       · rintro (h | h)
         · exact .inl h
         · right; omega
       · rintro (h | h)
         · exact .inl h
         · right; omega
   · have h3 := of_decide_eq_false h3
     refine WP.exit ?_
     refine WP.region (RG.ml rfl rfl rfl (RG.pv rfl (PV.add rfl rfl rfl (by omega)) (RG.mr rfl rfl rfl (RG.nil ?_))))
     refine ⟨rfl, y + 1, F, ⟨by omega, by omega, hF, fun v u hv hu => ?_⟩, ⟨rfl, trivial⟩, ⟨rfl, rfl, trivial⟩, Cv.p, by omega⟩
     rw [hf v u hv hu, hg v u hv hu, inR_iff]
     constructor
     · rintro ((h | h) | h)
       · exact .inl h
       · right; omega
       · right; omega
     · rintro (h | h)
       · exact .inl (.inl h)
       · by_cases c : (v : Int) - 40 = y
         · right; omega
         · left; right; omega
 · have h2 := of_decide_eq_false h2
   have hk : ∀ v u, v < 80 → u < 80 → gb E v u = (gb D v u || inR r v u) := fun v u hv hu => by
     rw [Bool.eq_iff_iff, hg v u hv hu, Bool.or_eq_true]
     constructor
     · rintro (h | h)
       · exact .inl h
       · exact .inr h.1
     · rintro (h | h)
       · exact .inl h
       · right; refine ⟨h, ?_⟩; rw [inR_iff] at h; omega
   refine WP.exit ?_
   refine WP.seq (WP.region (RG.pv rfl (PV.move (v := v) rfl rfl) (RG.pv rfl (PV.asg (v := v) rfl rfl) (RG.nil ?_))))
   refine WP.ret ?_
   exact ⟨_, _, ResV.one rfl rfl, Cv.p, k E hE hk⟩
theorem big_s {cv : Value} {bs : List UInt8} (hcode : SL G byteT cv bs) (k : R (.bool (decide (4096 < bs.length))) G L) : CallT Tryz.prog 19 #[cv] G L R := by
 have e : decide (4096 < bs.length) = decide ((4096 : Int) < (bs.length : Int)) := by rw [Bool.eq_iff_iff]; simp; omega
 rw [e] at k
 refine CallT.enter (args := _) Tryz.func19 rfl rfl (by kernel_rfl) rfl ?_
 refine WP.seq (WP.region (RG.br rfl rfl rfl (RG.nil (WP.seq (WP.region (RG.pv rfl (PV.move (v := cv) rfl rfl) (RG.pv rfl (PV.len (v := cv) rfl Tryz.underlying40 rfl (SlF.r (Rs.g (L := []) hcode))) ?_)))))))
 refine RG.pv rfl (PV.gtr rfl rfl rfl) (RG.br rfl rfl rfl (RG.nil ?_))
 refine WP.ret ?_
 exact ⟨_, _, ResV.one rfl rfl, Cv.p, k⟩
end Go.Proofs.YthhjapiggekjbaaGreat
namespace Go.Proofs.YthhjapiggekjbaaGreat
set_option linter.unusedVariables false
set_option linter.unusedSimpArgs false
def rot : Nat → Pt → Pt
  | 0, p => p
  | n + 1, p => rot n ⟨-p.y, p.x⟩
def flip (o : Int) (p : Pt) : Pt := if 4 ≤ o then ⟨p.x, -p.y⟩ else p
def turnP (o : Int) (p : Pt) : Pt := rot (o % 4).toNat (flip o p)
def InB (b : Int) (p : Pt) : Prop := -b ≤ p.x ∧ p.x ≤ b ∧ -b ≤ p.y ∧ p.y ≤ b
theorem rot_in {b : Int} : ∀ (n : Nat) {p : Pt}, InB b p → InB b (rot n p)
 | 0, _, h => h
 | n + 1, p, h => rot_in n (by obtain ⟨h1, h2, h3, h4⟩ := h; exact ⟨by simp only; omega, by simp only; omega, h1, h2⟩)
theorem flip_in {b o : Int} {p : Pt} (h : InB b p) : InB b (flip o p) := by
 unfold flip; split
 · obtain ⟨h1, h2, h3, h4⟩ := h; exact ⟨h1, h2, by simp only; omega, by simp only; omega⟩
 · exact h
theorem turnP_in {b o : Int} {p : Pt} (h : InB b p) : InB b (turnP o p) := rot_in _ (flip_in h)
def moveP (t : Trans) (p : Pt) : Pt := ⟨(turnP t.o p).x + t.x, (turnP t.o p).y + t.y⟩
def moveR (t : Trans) (r : Rect) : Rect :=
  ⟨min (moveP t ⟨r.x0, r.y0⟩).x (moveP t ⟨r.x1, r.y1⟩).x, min (moveP t ⟨r.x0, r.y0⟩).y (moveP t ⟨r.x1, r.y1⟩).y, max (moveP t ⟨r.x0, r.y0⟩).x (moveP t ⟨r.x1, r.y1⟩).x, max (moveP t ⟨r.x0, r.y0⟩).y (moveP t ⟨r.x1, r.y1⟩).y⟩
/-- at most this far out -/
def RIn (b : Int) (r : Rect) : Prop := -b ≤ r.x0 ∧ r.x0 < r.x1 ∧ r.x1 ≤ b ∧ -b ≤ r.y0 ∧ r.y0 < r.y1 ∧ r.y1 ≤ b
end Go.Proofs.YthhjapiggekjbaaGreat
namespace Go.Proofs.YthhjapiggekjbaaGreat
set_option linter.unusedVariables false
set_option linter.unusedSimpArgs false
open Go
set_option maxRecDepth 20000
set_option linter.unusedSimpArgs false
variable {G : Gh} {L : List Ch} {R : Value → Gh → List Ch → Prop}
theorem turn_s {o : Int} {p : Pt} (ho : 0 ≤ o ∧ o ≤ 7) (hp : InB 1000 p) (k : R (vpt (turnP o p)) G L) : CallT Tryz.prog 189 #[vi o, vpt p] G L R := by
 have hf : InB 1000 (flip o p) := flip_in hp
 obtain ⟨hp1, hp2, hp3, hp4⟩ := hp
 refine CallT.enter (args := _) Tryz.func189 rfl rfl (by kernel_rfl) rfl ?_
 refine WP.seq (WP.region ?_)
 refine RG.ot rfl (OT.box (cs := ptT.enc p) rfl rfl rfl fun b3 => ?_)
 refine RG.ot rfl (OT.alloc rfl Zr183 fun b4 => ?_)
 refine RG.nil ?_
 refine WP.cut1 [0, 3, 4] (fun (q : Pt) => q = flip o p) (fun (q : Pt) => []) (fun (q : Pt) => blk b3 183 (ptT.enc q) :: blk b4 183 [vi 0, vi 0] :: L) ?_ ?_
 refine WP.seq (WP.region (RG.ml rfl rfl rfl (RG.pv rfl (PV.geq rfl rfl rfl) (RG.nil ?_))))
 refine WP.cond rfl (fun h1 => ?_) (fun h1 => ?_)
 · have h1 := of_decide_eq_true h1
   refine WP.region (RG.pv rfl (PV.field rfl Fo183_1 rfl) (RG.pv rfl (PV.load1 rfl Sc2 rfl (Rd.blk rfl)) (RG.pv rfl (PV.neg rfl rfl (by omega)) (RG.pv rfl (PV.field rfl Fo183_1 rfl) ?_))))
   refine RG.ot rfl (OT.storeB (vs := [vi _]) (cs' := [_, _]) rfl Sz2 rfl rfl (Cl.c rfl) rfl (OneC.c rfl) rfl rfl ?_)
   refine RG.nil ?_
   exact ⟨rfl, (⟨p.x, -p.y⟩ : Pt), (by rw [flip, if_pos (by omega)]), trivial, ⟨rfl, rfl, rfl, trivial⟩, Cv.p⟩
 · have h1 := of_decide_eq_false h1
   refine WP.skip ?_
   exact ⟨rfl, p, (by rw [flip, if_neg (by omega)]), trivial, ⟨rfl, rfl, rfl, trivial⟩, Cv.p⟩
 rintro q τ1 hq
 refine WP.seq (WP.seq (WP.region (RG.ml rfl rfl rfl (RG.pv rfl (PV.rem rfl rfl rfl (by omega) (by omega) (by omega)) (RG.mr rfl rfl rfl (RG.nil (WP.block ?_)))))))
 subst hq
 refine WP.loop2 [3, 4] (fun (n : Int) (q : Pt) => (0 ≤ n ∧ n < 4) ∧ rot n.toNat q = turnP o p ∧ InB 1000 q) (fun (n : Int) (q : Pt) => [(5, vi n)]) (fun (n : Int) (q : Pt) => blk b3 183 (ptT.enc q) :: blk b4 183 [vi 0, vi 0] :: L) (fun (n : Int) (q : Pt) => n.toNat) (o % 4) (flip o p) ⟨by omega, rfl, hf⟩ ⟨rfl, trivial⟩ Cv.p ?_
 rintro n q τ ⟨hn, hr, hi1, hi2, hi3, hi4⟩
 refine WP.seq (WP.seq (WP.region (RG.ml rfl rfl rfl (RG.pv rfl (PV.gtr rfl rfl rfl) (RG.nil ?_)))))
 refine WP.cond rfl (fun h2 => ?_) (fun h2 => ?_)
 · have h2 := of_decide_eq_true h2
   refine WP.skip (WP.seq (WP.block (WP.region (RG.pv rfl (PV.field rfl Fo183_1 rfl) (RG.pv rfl (PV.load1 rfl Sc2 rfl (Rd.blk rfl)) (RG.pv rfl (PV.neg rfl rfl (by omega)) (RG.pv rfl (PV.field rfl Fo183_0 rfl) ?_)))))))
   refine RG.pv rfl (PV.load1 rfl Sc2 rfl (Rd.blk rfl)) (RG.pv rfl (PV.build (vs := [(0, [vi _]), (1, [vi _])]) (out := [_, _]) rfl Zr183 Pl183 ⟨rfl, (Cl.c rfl), ⟨rfl, (Cl.c rfl), trivial⟩⟩ rfl) ?_)
   refine RG.ot rfl (OT.storeW (vs := [vi _, vi _]) rfl Sz183 rfl rfl (Cl.c rfl) rfl rfl (OneC.c rfl) ?_)
   refine RG.nil (WP.region (RG.ml rfl rfl rfl (RG.pv rfl (PV.sub rfl rfl rfl (by omega)) (RG.mr rfl rfl rfl (RG.nil ?_)))))
   refine ⟨rfl, n - 1, ⟨-q.y, q.x⟩, ⟨by omega, ?_, by simp only; omega, by simp only; omega, hi1, hi2⟩, ⟨rfl, trivial⟩, ⟨rfl, rfl, trivial⟩, Cv.p, by omega⟩
   rw [← hr, show n.toNat = (n - 1).toNat + 1 by omega]; rfl
 · have h2 := of_decide_eq_false h2
   have e : turnP o p = q := by rw [← hr, show n.toNat = 0 by omega]; rfl
   rw [e] at k
   refine WP.exit ?_
   refine WP.seq (WP.region (RG.pv rfl (PV.loadW rfl Ag183 rfl rfl) ?_))
   refine RG.ot rfl (OT.storeW (vs := [vi _, vi _]) rfl Sz183 rfl rfl (Cl.c rfl) rfl rfl (OneC.c rfl) ?_)
   refine RG.nil ?_
   refine WP.ret ?_
   exact ⟨_, _, ResV.one rfl (RV1.cell rfl Ag183 rfl), Cv.p, k⟩
theorem move_s {t : Trans} {p : Pt} (ho : 0 ≤ t.o ∧ t.o ≤ 7) (ht : -1000 ≤ t.x ∧ t.x ≤ 1000 ∧ -1000 ≤ t.y ∧ t.y ≤ 1000) (hp : InB 1000 p) (k : R (vpt (moveP t p)) G L) : CallT Tryz.prog 135 #[vtrans t, vpt p] G L R := by
 obtain ⟨hq1, hq2, hq3, hq4⟩ : InB 1000 (turnP t.o p) := turnP_in hp
 refine CallT.enter (args := _) Tryz.func135 rfl rfl (by kernel_rfl) rfl ?_
 refine WP.seq (WP.region ?_)
 refine RG.ot rfl (OT.box (cs := transT.enc t) rfl rfl rfl fun b2 => ?_)
 refine RG.ot rfl (OT.box (cs := ptT.enc p) rfl rfl rfl fun b3 => ?_)
 refine RG.ot rfl (OT.alloc rfl Zr183 fun b4 => ?_)
 refine RG.nil (WP.seq (WP.region (RG.pv rfl (PV.field rfl Fo136_0 rfl) (RG.pv rfl (PV.load1 rfl Sc2 rfl (Rd.blk rfl)) (RG.pv rfl (PV.loadW rfl Ag183 rfl rfl) ?_)))))
 refine RG.callF (vs := [_, _]) rfl rfl En189 rfl (turn_s ho hp ?_)
 refine RG.ot rfl (OT.storeW (vs := [vi _, vi _]) rfl Sz183 rfl rfl (Cl.c rfl) rfl rfl (OneC.c rfl) ?_)
 refine RG.nil (WP.seq (WP.region (RG.pv rfl (PV.field rfl Fo183_0 rfl) (RG.pv rfl (PV.load1 rfl Sc2 rfl (Rd.blk rfl)) (RG.pv rfl (PV.field rfl Fo136_1 rfl) (RG.pv rfl (PV.load1 rfl Sc2 rfl (Rd.blk rfl)) (RG.pv rfl (PV.add rfl rfl rfl (by omega)) ?_)))))))
 refine RG.pv rfl (PV.field rfl Fo183_1 rfl) (RG.pv rfl (PV.load1 rfl Sc2 rfl (Rd.blk rfl)) (RG.pv rfl (PV.field rfl Fo136_2 rfl) (RG.pv rfl (PV.load1 rfl Sc2 rfl (Rd.blk rfl)) (RG.pv rfl (PV.add rfl rfl rfl (by omega)) (RG.pv rfl (PV.build (vs := [(0, [vi _]), (1, [vi _])]) (out := [_, _]) rfl Zr183 Pl183 ⟨rfl, (Cl.c rfl), ⟨rfl, (Cl.c rfl), trivial⟩⟩ rfl) ?_)))))
 refine RG.ot rfl (OT.storeW (vs := [vi _, vi _]) rfl Sz183 rfl rfl (Cl.c rfl) rfl rfl (OneC.c rfl) ?_)
 refine RG.nil ?_
 refine WP.ret ?_
 exact ⟨_, _, ResV.one rfl (RV1.cell rfl Ag183 rfl), Cv.p, k⟩
theorem RIn_pts {r : Rect} (h : RIn 40 r) : InB 1000 ⟨r.x0, r.y0⟩ ∧ InB 1000 ⟨r.x1, r.y1⟩ := by
 obtain ⟨h1, h2, h3, h4, h5, h6⟩ := h
 exact ⟨⟨by simp only; omega, by simp only; omega, by simp only; omega, by simp only; omega⟩, ⟨by simp only; omega, by simp only; omega, by simp only; omega, by simp only; omega⟩⟩
theorem moveRect_s {t : Trans} {r : Rect} (ho : 0 ≤ t.o ∧ t.o ≤ 7) (ht : -1000 ≤ t.x ∧ t.x ≤ 1000 ∧ -1000 ≤ t.y ∧ t.y ≤ 1000) (hr : RIn 40 r) (k : R (vrect (moveR t r)) G L) : CallT Tryz.prog 82 #[vtrans t, vrect r] G L R := by
 refine CallT.enter (args := _) Tryz.func82 rfl rfl (by kernel_rfl) rfl ?_
 refine WP.seq (WP.region ?_)
 refine RG.ot rfl (OT.box (cs := transT.enc t) rfl rfl rfl fun b2 => ?_)
 refine RG.ot rfl (OT.box (cs := rectT.enc r) rfl rfl rfl fun b3 => ?_)
 refine RG.ot rfl (OT.alloc rfl Zr140 fun b4 => ?_)
 refine RG.nil ?_
 refine WP.cut2 [4] (fun (b5 b6 : Nat) => True) (fun (b5 b6 : Nat) => [(5, .pointer (some ⟨b5, 0, none⟩)), (6, .pointer (some ⟨b6, 0, none⟩))]) (fun (b5 b6 : Nat) => blk b5 183 (ptT.enc (moveP t ⟨r.x0, r.y0⟩)) :: blk b6 183 (ptT.enc (moveP t ⟨r.x1, r.y1⟩)) :: blk b4 140 [vi 0, vi 0, vi 0, vi 0] :: L) ?_ ?_
 refine WP.regionH0 (.q 0 (.q 1 (.q 2 (.q 3 (.q 4 (.q 5 (.q 7 (.q 8 (.q 9 (.q 10 (.q 11 (.q 12 (.c 6 (.c 13 (.b 14 (.l 15 (.l 16 (.l 17 Sch.nil))) 15 (.l 14 (.l 16 (.l 17 Sch.nil)))) 14 (.b 13 (.l 15 (.l 16 (.l 17 Sch.nil))) 15 (.l 13 (.l 16 (.l 17 Sch.nil)))) 15 (.b 13 (.l 14 (.l 16 (.l 17 Sch.nil))) 14 (.l 13 (.l 16 (.l 17 Sch.nil))))) 14 (.b 6 (.b 13 (.l 15 (.l 16 (.l 17 Sch.nil))) 15 (.l 13 (.l 16 (.l 17 Sch.nil)))) 15 (.l 6 (.l 13 (.l 16 (.l 17 Sch.nil))))) 15 (.b 6 (.b 13 (.l 14 (.l 16 (.l 17 Sch.nil))) 14 (.l 13 (.l 16 (.l 17 Sch.nil)))) 14 (.l 6 (.l 13 (.l 16 (.l 17 Sch.nil)))))))))))))))))) (by kernel_rfl) (by kernel_rfl) (by kernel_rfl) rfl ?_
 refine RH.pv rfl (fun _ _ _ _ h => h) (Gh.le_refl _) PickC.pick rfl (PV.loadW rfl Ag136 rfl rfl) ?_
 refine RH.pv rfl (fun _ _ _ _ h => h) (Gh.le_refl _) PickC.pick rfl (PV.field rfl Fo140_0 rfl) ?_
 refine RH.pv rfl (fun _ _ _ _ h => h) (Gh.le_refl _) PickC.pick rfl (PV.load1 rfl Sc2 rfl (Rd.blk rfl)) ?_
 refine RH.pv rfl (fun _ _ _ _ h => h) (Gh.le_refl _) PickC.pick rfl (PV.field rfl Fo140_1 rfl) ?_
 refine RH.pv rfl (fun _ _ _ _ h => h) (Gh.le_refl _) PickC.pick rfl (PV.load1 rfl Sc2 rfl (Rd.blk rfl)) ?_
 refine RH.pv rfl (fun _ _ _ _ h => h) (Gh.le_refl _) PickC.pick rfl (PV.build (vs := [(0, [vi _]), (1, [vi _])]) (out := [_, _]) rfl Zr183 Pl183 ⟨rfl, (Cl.c rfl), ⟨rfl, (Cl.c rfl), trivial⟩⟩ rfl) ?_
 refine RH.pv rfl (fun _ _ _ _ h => h) (Gh.le_refl _) PickC.pick rfl (PV.loadW rfl Ag136 rfl rfl) ?_
 refine RH.pv rfl (fun _ _ _ _ h => h) (Gh.le_refl _) PickC.pick rfl (PV.field rfl Fo140_2 rfl) ?_
 refine RH.pv rfl (fun _ _ _ _ h => h) (Gh.le_refl _) PickC.pick rfl (PV.load1 rfl Sc2 rfl (Rd.blk rfl)) ?_
 refine RH.pv rfl (fun _ _ _ _ h => h) (Gh.le_refl _) PickC.pick rfl (PV.field rfl Fo140_3 rfl) ?_
 refine RH.pv rfl (fun _ _ _ _ h => h) (Gh.le_refl _) PickC.pick rfl (PV.load1 rfl Sc2 rfl (Rd.blk rfl)) ?_
 refine RH.pv rfl (fun _ _ _ _ h => h) (Gh.le_refl _) PickC.pick rfl (PV.build (vs := [(0, [vi _]), (1, [vi _])]) (out := [_, _]) rfl Zr183 Pl183 ⟨rfl, (Cl.c rfl), ⟨rfl, (Cl.c rfl), trivial⟩⟩ rfl) ?_
 · refine RH.ot3 rfl rfl rfl rfl rfl rfl  (OT.callF (vs := [_, _]) rfl En135 rfl (move_s (p := ⟨_, _⟩) ho ht (by first | exact (RIn_pts hr).1 | exact (RIn_pts hr).2) ⟨Gh.le_refl _, PickC.pick, ?_⟩)) (OT.alloc rfl Zr183 fun b5 => ⟨Gh.le_refl _, PickC.pick, ?_⟩) (OT.alloc rfl Zr183 fun b6 => ⟨Gh.le_refl _, PickC.pick, ?_⟩)
   · refine RH.ot3 rfl rfl rfl rfl rfl rfl  (OT.callF (vs := [_, _]) rfl En135 rfl (move_s (p := ⟨_, _⟩) ho ht (by first | exact (RIn_pts hr).1 | exact (RIn_pts hr).2) ⟨Gh.le_refl _, PickC.pick, ?_⟩)) (OT.alloc rfl Zr183 fun b5 => ⟨Gh.le_refl _, PickC.pick, ?_⟩) (OT.alloc rfl Zr183 fun b6 => ⟨Gh.le_refl _, PickC.pick, ?_⟩)
     · refine RH.ot2 rfl rfl rfl rfl  (OT.alloc rfl Zr183 fun b5 => ⟨Gh.le_refl _, PickC.pick, ?_⟩) (OT.alloc rfl Zr183 fun b6 => ⟨Gh.le_refl _, PickC.pick, ?_⟩)
       · refine RH.ot rfl rfl (OT.alloc rfl Zr183 fun b6 => ⟨Gh.le_refl _, PickC.pick, ?_⟩)
         refine RH.ot rfl rfl (OT.storeW (vs := [vi _, vi _]) rfl Sz183 rfl rfl (Cl.c rfl) rfl rfl (OneC.c rfl) ⟨Gh.le_refl _, PickC.pick, ?_⟩)
         refine RH.ot rfl rfl (OT.storeW (vs := [vi _, vi _]) rfl Sz183 rfl rfl (Cl.c rfl) rfl rfl (OneC.c rfl) ⟨Gh.le_refl _, PickC.pick, ?_⟩)
         refine RH.nil ?_
         exact ⟨rfl, b5, b6, trivial, ⟨rfl, rfl, trivial⟩, ⟨rfl, trivial⟩, Cv.p⟩
       · refine RH.ot rfl rfl (OT.alloc rfl Zr183 fun b5 => ⟨Gh.le_refl _, PickC.pick, ?_⟩)
         refine RH.ot rfl rfl (OT.storeW (vs := [vi _, vi _]) rfl Sz183 rfl rfl (Cl.c rfl) rfl rfl (OneC.c rfl) ⟨Gh.le_refl _, PickC.pick, ?_⟩)
         refine RH.ot rfl rfl (OT.storeW (vs := [vi _, vi _]) rfl Sz183 rfl rfl (Cl.c rfl) rfl rfl (OneC.c rfl) ⟨Gh.le_refl _, PickC.pick, ?_⟩)
         refine RH.nil ?_
         exact ⟨rfl, b5, b6, trivial, ⟨rfl, rfl, trivial⟩, ⟨rfl, trivial⟩, Cv.p⟩
     · refine RH.ot2 rfl rfl rfl rfl  (OT.callF (vs := [_, _]) rfl En135 rfl (move_s (p := ⟨_, _⟩) ho ht (by first | exact (RIn_pts hr).1 | exact (RIn_pts hr).2) ⟨Gh.le_refl _, PickC.pick, ?_⟩)) (OT.alloc rfl Zr183 fun b6 => ⟨Gh.le_refl _, PickC.pick, ?_⟩)
       · refine RH.ot rfl rfl (OT.alloc rfl Zr183 fun b6 => ⟨Gh.le_refl _, PickC.pick, ?_⟩)
         refine RH.ot rfl rfl (OT.storeW (vs := [vi _, vi _]) rfl Sz183 rfl rfl (Cl.c rfl) rfl rfl (OneC.c rfl) ⟨Gh.le_refl _, PickC.pick, ?_⟩)
         refine RH.ot rfl rfl (OT.storeW (vs := [vi _, vi _]) rfl Sz183 rfl rfl (Cl.c rfl) rfl rfl (OneC.c rfl) ⟨Gh.le_refl _, PickC.pick, ?_⟩)
         refine RH.nil ?_
         exact ⟨rfl, b5, b6, trivial, ⟨rfl, rfl, trivial⟩, ⟨rfl, trivial⟩, Cv.p⟩
       · refine RH.ot rfl rfl (OT.callF (vs := [_, _]) rfl En135 rfl (move_s (p := ⟨_, _⟩) ho ht (by first | exact (RIn_pts hr).1 | exact (RIn_pts hr).2) ⟨Gh.le_refl _, PickC.pick, ?_⟩))
         refine RH.ot rfl rfl (OT.storeW (vs := [vi _, vi _]) rfl Sz183 rfl rfl (Cl.c rfl) rfl rfl (OneC.c rfl) ⟨Gh.le_refl _, PickC.pick, ?_⟩)
         refine RH.ot rfl rfl (OT.storeW (vs := [vi _, vi _]) rfl Sz183 rfl rfl (Cl.c rfl) rfl rfl (OneC.c rfl) ⟨Gh.le_refl _, PickC.pick, ?_⟩)
         refine RH.nil ?_
         exact ⟨rfl, b5, b6, trivial, ⟨rfl, rfl, trivial⟩, ⟨rfl, trivial⟩, Cv.p⟩
     · refine RH.ot2 rfl rfl rfl rfl  (OT.callF (vs := [_, _]) rfl En135 rfl (move_s (p := ⟨_, _⟩) ho ht (by first | exact (RIn_pts hr).1 | exact (RIn_pts hr).2) ⟨Gh.le_refl _, PickC.pick, ?_⟩)) (OT.alloc rfl Zr183 fun b5 => ⟨Gh.le_refl _, PickC.pick, ?_⟩)
       · refine RH.ot rfl rfl (OT.alloc rfl Zr183 fun b5 => ⟨Gh.le_refl _, PickC.pick, ?_⟩)
         refine RH.ot rfl rfl (OT.storeW (vs := [vi _, vi _]) rfl Sz183 rfl rfl (Cl.c rfl) rfl rfl (OneC.c rfl) ⟨Gh.le_refl _, PickC.pick, ?_⟩)
         refine RH.ot rfl rfl (OT.storeW (vs := [vi _, vi _]) rfl Sz183 rfl rfl (Cl.c rfl) rfl rfl (OneC.c rfl) ⟨Gh.le_refl _, PickC.pick, ?_⟩)
         refine RH.nil ?_
         exact ⟨rfl, b5, b6, trivial, ⟨rfl, rfl, trivial⟩, ⟨rfl, trivial⟩, Cv.p⟩
       · refine RH.ot rfl rfl (OT.callF (vs := [_, _]) rfl En135 rfl (move_s (p := ⟨_, _⟩) ho ht (by first | exact (RIn_pts hr).1 | exact (RIn_pts hr).2) ⟨Gh.le_refl _, PickC.pick, ?_⟩))
         refine RH.ot rfl rfl (OT.storeW (vs := [vi _, vi _]) rfl Sz183 rfl rfl (Cl.c rfl) rfl rfl (OneC.c rfl) ⟨Gh.le_refl _, PickC.pick, ?_⟩)
         refine RH.ot rfl rfl (OT.storeW (vs := [vi _, vi _]) rfl Sz183 rfl rfl (Cl.c rfl) rfl rfl (OneC.c rfl) ⟨Gh.le_refl _, PickC.pick, ?_⟩)
         refine RH.nil ?_
         exact ⟨rfl, b5, b6, trivial, ⟨rfl, rfl, trivial⟩, ⟨rfl, trivial⟩, Cv.p⟩
   · refine RH.ot2 rfl rfl rfl rfl  (OT.callF (vs := [_, _]) rfl En135 rfl (move_s (p := ⟨_, _⟩) ho ht (by first | exact (RIn_pts hr).1 | exact (RIn_pts hr).2) ⟨Gh.le_refl _, PickC.pick, ?_⟩)) (OT.alloc rfl Zr183 fun b6 => ⟨Gh.le_refl _, PickC.pick, ?_⟩)
     · refine RH.ot2 rfl rfl rfl rfl  (OT.callF (vs := [_, _]) rfl En135 rfl (move_s (p := ⟨_, _⟩) ho ht (by first | exact (RIn_pts hr).1 | exact (RIn_pts hr).2) ⟨Gh.le_refl _, PickC.pick, ?_⟩)) (OT.alloc rfl Zr183 fun b6 => ⟨Gh.le_refl _, PickC.pick, ?_⟩)
       · refine RH.ot rfl rfl (OT.alloc rfl Zr183 fun b6 => ⟨Gh.le_refl _, PickC.pick, ?_⟩)
         refine RH.ot rfl rfl (OT.storeW (vs := [vi _, vi _]) rfl Sz183 rfl rfl (Cl.c rfl) rfl rfl (OneC.c rfl) ⟨Gh.le_refl _, PickC.pick, ?_⟩)
         refine RH.ot rfl rfl (OT.storeW (vs := [vi _, vi _]) rfl Sz183 rfl rfl (Cl.c rfl) rfl rfl (OneC.c rfl) ⟨Gh.le_refl _, PickC.pick, ?_⟩)
         refine RH.nil ?_
         exact ⟨rfl, b5, b6, trivial, ⟨rfl, rfl, trivial⟩, ⟨rfl, trivial⟩, Cv.p⟩
       · refine RH.ot rfl rfl (OT.callF (vs := [_, _]) rfl En135 rfl (move_s (p := ⟨_, _⟩) ho ht (by first | exact (RIn_pts hr).1 | exact (RIn_pts hr).2) ⟨Gh.le_refl _, PickC.pick, ?_⟩))
         refine RH.ot rfl rfl (OT.storeW (vs := [vi _, vi _]) rfl Sz183 rfl rfl (Cl.c rfl) rfl rfl (OneC.c rfl) ⟨Gh.le_refl _, PickC.pick, ?_⟩)
         refine RH.ot rfl rfl (OT.storeW (vs := [vi _, vi _]) rfl Sz183 rfl rfl (Cl.c rfl) rfl rfl (OneC.c rfl) ⟨Gh.le_refl _, PickC.pick, ?_⟩)
         refine RH.nil ?_
         exact ⟨rfl, b5, b6, trivial, ⟨rfl, rfl, trivial⟩, ⟨rfl, trivial⟩, Cv.p⟩
     · refine RH.ot rfl rfl (OT.callF (vs := [_, _]) rfl En135 rfl (move_s (p := ⟨_, _⟩) ho ht (by first | exact (RIn_pts hr).1 | exact (RIn_pts hr).2) ⟨Gh.le_refl _, PickC.pick, ?_⟩))
       refine RH.ot rfl rfl (OT.callF (vs := [_, _]) rfl En135 rfl (move_s (p := ⟨_, _⟩) ho ht (by first | exact (RIn_pts hr).1 | exact (RIn_pts hr).2) ⟨Gh.le_refl _, PickC.pick, ?_⟩))
       refine RH.ot rfl rfl (OT.storeW (vs := [vi _, vi _]) rfl Sz183 rfl rfl (Cl.c rfl) rfl rfl (OneC.c rfl) ⟨Gh.le_refl _, PickC.pick, ?_⟩)
       refine RH.ot rfl rfl (OT.storeW (vs := [vi _, vi _]) rfl Sz183 rfl rfl (Cl.c rfl) rfl rfl (OneC.c rfl) ⟨Gh.le_refl _, PickC.pick, ?_⟩)
       refine RH.nil ?_
       exact ⟨rfl, b5, b6, trivial, ⟨rfl, rfl, trivial⟩, ⟨rfl, trivial⟩, Cv.p⟩
   · refine RH.ot2 rfl rfl rfl rfl  (OT.callF (vs := [_, _]) rfl En135 rfl (move_s (p := ⟨_, _⟩) ho ht (by first | exact (RIn_pts hr).1 | exact (RIn_pts hr).2) ⟨Gh.le_refl _, PickC.pick, ?_⟩)) (OT.alloc rfl Zr183 fun b5 => ⟨Gh.le_refl _, PickC.pick, ?_⟩)
     · refine RH.ot2 rfl rfl rfl rfl  (OT.callF (vs := [_, _]) rfl En135 rfl (move_s (p := ⟨_, _⟩) ho ht (by first | exact (RIn_pts hr).1 | exact (RIn_pts hr).2) ⟨Gh.le_refl _, PickC.pick, ?_⟩)) (OT.alloc rfl Zr183 fun b5 => ⟨Gh.le_refl _, PickC.pick, ?_⟩)
       · refine RH.ot rfl rfl (OT.alloc rfl Zr183 fun b5 => ⟨Gh.le_refl _, PickC.pick, ?_⟩)
         refine RH.ot rfl rfl (OT.storeW (vs := [vi _, vi _]) rfl Sz183 rfl rfl (Cl.c rfl) rfl rfl (OneC.c rfl) ⟨Gh.le_refl _, PickC.pick, ?_⟩)
         refine RH.ot rfl rfl (OT.storeW (vs := [vi _, vi _]) rfl Sz183 rfl rfl (Cl.c rfl) rfl rfl (OneC.c rfl) ⟨Gh.le_refl _, PickC.pick, ?_⟩)
         refine RH.nil ?_
         exact ⟨rfl, b5, b6, trivial, ⟨rfl, rfl, trivial⟩, ⟨rfl, trivial⟩, Cv.p⟩
       · refine RH.ot rfl rfl (OT.callF (vs := [_, _]) rfl En135 rfl (move_s (p := ⟨_, _⟩) ho ht (by first | exact (RIn_pts hr).1 | exact (RIn_pts hr).2) ⟨Gh.le_refl _, PickC.pick, ?_⟩))
         refine RH.ot rfl rfl (OT.storeW (vs := [vi _, vi _]) rfl Sz183 rfl rfl (Cl.c rfl) rfl rfl (OneC.c rfl) ⟨Gh.le_refl _, PickC.pick, ?_⟩)
         refine RH.ot rfl rfl (OT.storeW (vs := [vi _, vi _]) rfl Sz183 rfl rfl (Cl.c rfl) rfl rfl (OneC.c rfl) ⟨Gh.le_refl _, PickC.pick, ?_⟩)
         refine RH.nil ?_
         exact ⟨rfl, b5, b6, trivial, ⟨rfl, rfl, trivial⟩, ⟨rfl, trivial⟩, Cv.p⟩
     · refine RH.ot rfl rfl (OT.callF (vs := [_, _]) rfl En135 rfl (move_s (p := ⟨_, _⟩) ho ht (by first | exact (RIn_pts hr).1 | exact (RIn_pts hr).2) ⟨Gh.le_refl _, PickC.pick, ?_⟩))
       refine RH.ot rfl rfl (OT.callF (vs := [_, _]) rfl En135 rfl (move_s (p := ⟨_, _⟩) ho ht (by first | exact (RIn_pts hr).1 | exact (RIn_pts hr).2) ⟨Gh.le_refl _, PickC.pick, ?_⟩))
       refine RH.ot rfl rfl (OT.storeW (vs := [vi _, vi _]) rfl Sz183 rfl rfl (Cl.c rfl) rfl rfl (OneC.c rfl) ⟨Gh.le_refl _, PickC.pick, ?_⟩)
       refine RH.ot rfl rfl (OT.storeW (vs := [vi _, vi _]) rfl Sz183 rfl rfl (Cl.c rfl) rfl rfl (OneC.c rfl) ⟨Gh.le_refl _, PickC.pick, ?_⟩)
       refine RH.nil ?_
       exact ⟨rfl, b5, b6, trivial, ⟨rfl, rfl, trivial⟩, ⟨rfl, trivial⟩, Cv.p⟩
 · rintro b5 b6 τ1 -
   refine WP.seq (WP.region (RG.pv rfl (PV.field rfl Fo183_0 rfl) (RG.pv rfl (PV.load1 rfl Sc2 rfl (Rd.blk rfl)) (RG.pv rfl (PV.field rfl Fo183_0 rfl) (RG.pv rfl (PV.load1 rfl Sc2 rfl (Rd.blk rfl)) (RG.pv rfl (PV.min2 rfl rfl rfl) (RG.pv rfl (PV.field rfl Fo183_1 rfl) ?_)))))))
   refine RG.pv rfl (PV.load1 rfl Sc2 rfl (Rd.blk rfl)) (RG.pv rfl (PV.field rfl Fo183_1 rfl) (RG.pv rfl (PV.load1 rfl Sc2 rfl (Rd.blk rfl)) (RG.pv rfl (PV.min2 rfl rfl rfl) (RG.pv rfl (PV.field rfl Fo183_0 rfl) (RG.pv rfl (PV.load1 rfl Sc2 rfl (Rd.blk rfl)) (RG.pv rfl (PV.field rfl Fo183_0 rfl) (RG.pv rfl (PV.load1 rfl Sc2 rfl (Rd.blk rfl)) ?_)))))))
   refine RG.pv rfl (PV.max2 rfl rfl rfl) (RG.pv rfl (PV.field rfl Fo183_1 rfl) (RG.pv rfl (PV.load1 rfl Sc2 rfl (Rd.blk rfl)) (RG.pv rfl (PV.field rfl Fo183_1 rfl) (RG.pv rfl (PV.load1 rfl Sc2 rfl (Rd.blk rfl)) (RG.pv rfl (PV.max2 rfl rfl rfl) (RG.pv rfl (PV.build (vs := [(0, [vi _]), (1, [vi _]), (2, [vi _]), (3, [vi _])]) (out := [_, _, _, _]) rfl Zr140 Pl140 ⟨rfl, (Cl.c rfl), ⟨rfl, (Cl.c rfl), ⟨rfl, (Cl.c rfl), ⟨rfl, (Cl.c rfl), trivial⟩⟩⟩⟩ rfl) ?_))))))
   refine RG.ot rfl (OT.storeW (vs := [vi _, vi _, vi _, vi _]) rfl Sz140 rfl rfl (Cl.c rfl) rfl rfl (OneC.c rfl) ?_)
   refine RG.nil ?_
   refine WP.ret ?_
   exact ⟨_, _, ResV.one rfl (RV1.cell rfl Ag140 rfl), Cv.p, k⟩
end Go.Proofs.YthhjapiggekjbaaGreat
namespace Go.Proofs.YthhjapiggekjbaaGreat
set_option linter.unusedVariables false
set_option linter.unusedSimpArgs false
open Go
set_option maxRecDepth 20000
set_option linter.unusedSimpArgs false
variable {G : Gh} {L : List Ch} {R : Value → Gh → List Ch → Prop}
theorem RIn_valid {r : Rect} : validRect r = true ↔ RIn 40 r := by simp [validRect, RIn]; omega
theorem RIn_all {xs : List Rect} (h : isReg xs = true) : ∀ r ∈ xs, RIn 40 r := by
 have := isReg_valid h
 simp only [validRs, Bool.and_eq_true, List.all_eq_true] at this
 exact fun r hr => RIn_valid.1 (this.2 r hr)
theorem RIn_gd {b : Int} {xs : List Rect} (h : ∀ r ∈ xs, RIn b r) {i : Nat} (hi : i < xs.length) : RIn b (gd xs i) := by rw [gd_eq hi]; exact h _ (List.getElem_mem _)
def movedOk (t : Trans) (xs : List Rect) : Bool := xs.all fun r => validRect (moveR t r)
end Go.Proofs.YthhjapiggekjbaaGreat
namespace Go.Proofs.YthhjapiggekjbaaGreat
set_option linter.unusedVariables false
set_option linter.unusedSimpArgs false
open Go
set_option maxRecDepth 20000
set_option linter.unusedSimpArgs false
def inC (r : Rect) (c : Pt) : Prop := 2 * r.x0 < c.x ∧ c.x < 2 * r.x1 ∧ 2 * r.y0 < c.y ∧ c.y < 2 * r.y1
def cov (xs : List Rect) (c : Pt) : Prop := ∃ r ∈ xs, inC r c
def OIn (o : Int) : Prop := 0 ≤ o ∧ o ≤ 7
theorem OIn.cases {o : Int} (h : OIn o) : o = 0 ∨ o = 1 ∨ o = 2 ∨ o = 3 ∨ o = 4 ∨ o = 5 ∨ o = 6 ∨ o = 7 := by unfold OIn at h; omega
end Go.Proofs.YthhjapiggekjbaaGreat
namespace Go.Proofs.YthhjapiggekjbaaGreat
set_option linter.unusedVariables false
set_option linter.unusedSimpArgs false
open Go
set_option maxRecDepth 20000
set_option linter.unusedSimpArgs false
variable {G : Gh} {L : List Ch} {R : Value → Gh → List Ch → Prop}
def validT (t : Trans) : Bool := within t.o 0 7 && (within t.x (-80) 80 && within t.y (-80) 80)
theorem validT_iff {t : Trans} : validT t = true ↔ (0 ≤ t.o ∧ t.o ≤ 7) ∧ (-80 ≤ t.x ∧ t.x ≤ 80) ∧ -80 ≤ t.y ∧ t.y ≤ 80 := by
 simp only [validT, within, Bool.and_eq_true, decide_eq_true_eq]
def mvOk (t : Trans) (xs : List Rect) : Bool := validT t && isReg xs && movedOk t xs
end Go.Proofs.YthhjapiggekjbaaGreat
namespace Go.Proofs.YthhjapiggekjbaaGreat
set_option linter.unusedVariables false
set_option linter.unusedSimpArgs false
open Go
set_option linter.unusedSimpArgs false
set_option maxRecDepth 20000
def Apart (p q : Int × List Bool) : Prop := p.1 = q.1 → ∀ y x, y < 80 → x < 80 → gb p.2 y x = true → gb q.2 y x = true → False
theorem comps_apart (S : List Bool) : (comps S).Pairwise fun c d => ∀ y x, y < 80 → x < 80 → gb c y x = true → gb d y x = true → False := by
 classical
 unfold comps
 rw [List.pairwise_map]
 refine List.Pairwise.imp_of_mem (fun {a b} ha hb hab => ?_) (firsts_sorted S 6400)
 intro y x hy hx h1 h2
 have fa : First S a := by simpa using (List.mem_filter.1 ha).2
 have fb : First S b := by simpa using (List.mem_filter.1 hb).2
 have c1 := (comp_iff hy hx).1 h1
 have c2 := (comp_iff hy hx).1 h2
 exact fb.2 a hab fa.1 (c1.trans (c2.symm fb.1))
theorem lay_ne {i n : Nat} (h : i < n) (hn : n < 4) : gd [0, 1, 3, 5] i ≠ (gd [0, 1, 3, 5] n : Int) := by
 rcases (by omega : n = 1 ∨ n = 2 ∨ n = 3) with rfl | rfl | rfl
 · obtain rfl : i = 0 := by omega
   simp [gd]
 · rcases (by omega : i = 0 ∨ i = 1) with rfl | rfl <;> simp [gd]
 · rcases (by omega : i = 0 ∨ i = 1 ∨ i = 2) with rfl | rfl | rfl <;> simp [gd]
theorem pcL_layer {l : List (List Rect)} {n : Nat} {p : Int × List Bool} (h : p ∈ pcL l n) : ∃ i, i < n ∧ p.1 = gd [0, 1, 3, 5] i := by
 obtain ⟨m, h1, h2⟩ := List.mem_flatten.1 h
 obtain ⟨i, hi, rfl⟩ := List.mem_map.1 h1
 obtain ⟨c, hc, rfl⟩ := List.mem_map.1 h2
 exact ⟨i, List.mem_range.1 hi, rfl⟩
theorem pcL_apart (l : List (List Rect)) : ∀ n, n ≤ 4 → (pcL l n).Pairwise Apart
 | 0, _ => by simp [pcL]
 | n + 1, hn => by
   rw [pcL_succ, List.pairwise_append]
   refine ⟨pcL_apart l n (by omega), ?_, ?_⟩
   · rw [List.pairwise_map]
     refine (comps_apart _).imp ?_
     intro a b h _; exact h
   · intro p hp q hq e
     exfalso
     obtain ⟨i, hi, h1⟩ := pcL_layer hp
     obtain ⟨c, hc, rfl⟩ := List.mem_map.1 hq
     exact lay_ne hi (by omega) (h1.symm.trans e)
theorem pcL_uniq {l : List (List Rect)} {i j : Nat} (hi : i < (pcL l 4).length) (hj : j < (pcL l 4).length) (e : (gd (pcL l 4) i).1 = (gd (pcL l 4) j).1) {y x : Nat} (hy : y < 80) (hx : x < 80) (h1 : gb (gd (pcL l 4) i).2 y x = true) (h2 : gb (gd (pcL l 4) j).2 y x = true) : i = j := by
 have hp := List.pairwise_iff_getElem.1 (pcL_apart l 4 (Nat.le_refl _))
 rw [gd_eq hi, gd_eq hj] at e; rw [gd_eq hi] at h1; rw [gd_eq hj] at h2
 rcases Nat.lt_trichotomy i j with c | c | c
 · exact (hp i j hi hj c e y x hy hx h1 h2).elim
 · exact c
 · exact (hp j i hj hi c e.symm y x hy hx h2 h1).elim
def cellB (S : List Bool) (x y : Int) : Bool := (decide (-40 ≤ x ∧ x < 40) && decide (-40 ≤ y ∧ y < 40)) && gd S ((y + 40) * 80 + x + 40).toNat
theorem cellB_in {S : List Bool} {x y : Int} (h : -40 ≤ x ∧ x < 40 ∧ -40 ≤ y ∧ y < 40) : cellB S x y = gb S (y + 40).toNat (x + 40).toNat := by
 have e : ((y + 40) * 80 + x + 40).toNat = (y + 40).toNat * 80 + (x + 40).toNat := by omega
 rw [cellB, decide_eq_true (by omega), decide_eq_true (by omega), e]; rfl
theorem cellB_out {S : List Bool} {x y : Int} (h : ¬ (-40 ≤ x ∧ x < 40 ∧ -40 ≤ y ∧ y < 40)) : cellB S x y = false := by
 rw [cellB]
 by_cases c : -40 ≤ x ∧ x < 40
 · rw [decide_eq_false (p := -40 ≤ y ∧ y < 40) (by omega)]; simp
 · rw [decide_eq_false c]; simp
theorem cellB_true {S : List Bool} {x y : Int} (h : cellB S x y = true) : -40 ≤ x ∧ x < 40 ∧ -40 ≤ y ∧ y < 40 := by
 by_cases c : -40 ≤ x ∧ x < 40 ∧ -40 ≤ y ∧ y < 40
 · exact c
 · rw [cellB_out c] at h; cases h
def atB (n x y : Int) (p : Int × List Bool) : Bool := decide (p.1 = n) && cellB p.2 x y
theorem atB_uniq {l : List (List Rect)} {n x y : Int} {i j : Nat} (hi : i < (pcL l 4).length) (hj : j < (pcL l 4).length) (h1 : atB n x y (gd (pcL l 4) i) = true) (h2 : atB n x y (gd (pcL l 4) j) = true) : i = j := by
 simp only [atB, Bool.and_eq_true, decide_eq_true_eq] at h1 h2
 have hr := cellB_true h1.2
 rw [cellB_in hr] at h1 h2
 exact pcL_uniq hi hj (h1.1.trans h2.1.symm) (by omega) (by omega) h1.2 h2.2
/-- the number of the net of the first piece at a place -/
noncomputable def findL (l : List (List Rect)) (n x y : Int) : Int :=
  match (pcL l 4).findIdx? (atB n x y) with
  | some i => numR (clsL l) i
  | none => -1
theorem findL_at {l : List (List Rect)} {n x y : Int} {i : Nat} (hi : i < (pcL l 4).length) (h : atB n x y (gd (pcL l 4) i) = true) : findL l n x y = numR (clsL l) i := by
 have : (pcL l 4).findIdx? (atB n x y) = some i := by
   rw [List.findIdx?_eq_some_iff_getElem]
   refine ⟨hi, by rwa [gd_eq hi] at h, fun j hj hp => ?_⟩
   have := atB_uniq (i := j) (by omega) hi (by rw [gd_eq (by omega)]; exact hp) h
   omega
 rw [findL, this]
theorem findL_none {l : List (List Rect)} {n x y : Int} (h : ∀ i, i < (pcL l 4).length → atB n x y (gd (pcL l 4) i) = false) : findL l n x y = -1 := by
 have : (pcL l 4).findIdx? (atB n x y) = none := by
   rw [List.findIdx?_eq_none_iff]
   intro p hp
   obtain ⟨j, hj, rfl⟩ := List.getElem_of_mem hp
   rw [← gd_eq hj]; exact h j hj
 rw [findL, this]
theorem netL_gd {l : List (List Rect)} {k : Nat} (h : k < netN l) : gd (netL l) k = ((List.range (pcL l 4).length).filter fun j => decide (numR (clsL l) j = k)).map fun j => pcR (gd (pcL l 4) j) := by
 rw [netL, netsP_gd h]
 apply List.map_congr_left
 intro j hj
 have := List.mem_range.1 (List.mem_filter.1 hj).1
 exact gd_map _ this
end Go.Proofs.YthhjapiggekjbaaGreat
namespace Go.Proofs.YthhjapiggekjbaaGreat
set_option linter.unusedVariables false
set_option linter.unusedSimpArgs false
open Go
set_option linter.unusedSimpArgs false
set_option maxRecDepth 20000
def one (b : Bool) : Int := bif b then 1 else 0
end Go.Proofs.YthhjapiggekjbaaGreat
namespace Go.Proofs.YthhjapiggekjbaaGreat
set_option linter.unusedVariables false
set_option linter.unusedSimpArgs false
open Go
set_option linter.unusedSimpArgs false
set_option maxRecDepth 20000
theorem least {P : Nat → Prop} (n : Nat) : P n → ∃ m, P m ∧ ∀ i, i < m → ¬ P i := by
 induction n using Nat.strongRecOn with
 | ind n ih =>
   intro h
   by_cases c : ∃ i, i < n ∧ P i
   · obtain ⟨i, hi, hp⟩ := c; exact ih i hi hp
   · exact ⟨n, h, fun i hi hp => c ⟨i, hi, hp⟩⟩
theorem comps_cover {S : List Bool} {y x : Nat} (hy : y < 80) (hx : x < 80) : ((comps S).any fun c => gb c y x) = gb S y x := by
 classical
 rw [Bool.eq_iff_iff, List.any_eq_true]
 constructor
 · rintro ⟨c, hc, h⟩
   obtain ⟨j, hj, rfl⟩ := List.mem_map.1 hc
   have hf : First S j := by simpa using (List.mem_filter.1 hj).2
   exact (((comp_iff hy hx).1 h).on hf.1).2.2
 · intro h
   have hon : On S (y, x) := ⟨hy, hx, h⟩
   obtain ⟨m, h1, hmin⟩ := least (P := fun i => On S (cel i) ∧ Conn S (cel i) (y, x)) (pos (y, x)) (by simp only [cel_pos (a := (y, x)) hx]; exact ⟨hon, .refl⟩)
   have hm : m < 6400 := by
     have a1 := h1.1.1; have a2 := h1.1.2.1
     simp only [cel] at a1 a2; omega
   have hf : First S m := ⟨h1.1, fun i hi ho hc => hmin i hi ⟨ho, hc.trans h1.2⟩⟩
   refine ⟨compB S (cel m), List.mem_map.2 ⟨m, List.mem_filter.2 ⟨List.mem_range.2 hm, by simpa using hf⟩, rfl⟩, (comp_iff hy hx).2 h1.2⟩
theorem stepJ_keep {J : Nat → Nat → Bool} {i k a b : Nat} {c : List Int} (ha : a < c.length) (hb : b < c.length) (h : gd c a = gd c b) : gd (stepJ J i c k) a = gd (stepJ J i c k) b := by
 unfold stepJ
 split
 · exact h
 · rw [gd_map _ ha, gd_map _ hb, h]
theorem inJ_keep {J : Nat → Nat → Bool} {i a b : Nat} {c : List Int} (ha : a < c.length) (hb : b < c.length) (h : gd c a = gd c b) : ∀ k, gd (inJ J i c k) a = gd (inJ J i c k) b
 | 0 => by rw [inJ_zero, gd_app_l ha, gd_app_l hb, h]
 | k + 1 => by
   rw [inJ_succ]
   exact stepJ_keep (by rw [inJ_len]; omega) (by rw [inJ_len]; omega) (inJ_keep ha hb h k)
theorem rootsJ_keep {J : Nat → Nat → Bool} {a b n : Nat} (ha : a < n) (hb : b < n) (h : gd (rootsJ J n) a = gd (rootsJ J n) b) : ∀ m, n ≤ m → gd (rootsJ J m) a = gd (rootsJ J m) b
 | 0, hm => by omega
 | m + 1, hm => by
   by_cases e : n = m + 1
   · rw [← e]; exact h
   · rw [rootsJ]
     exact inJ_keep (by rw [rootsJ_len]; omega) (by rw [rootsJ_len]; omega) (rootsJ_keep ha hb h m (by omega)) m
theorem inJ_join {J : Nat → Nat → Bool} {i k : Nat} {c : List Int} (hc : c.length = i) (hk : k < i) (hJ : J k i = true) : ∀ m, k < m → gd (inJ J i c m) k = gd (inJ J i c m) i
 | 0, h => by omega
 | m + 1, h => by
   rw [inJ_succ]
   have hl := inJ_len J i c m
   by_cases e : k = m
   · subst e
     unfold stepJ
     split
     · rename_i h1
       rcases h1 with h1 | h1
       · exact h1
       · rw [hJ] at h1; cases h1
     · rw [gd_map _ (by omega), gd_map _ (by omega)]
       simp only [rl]
       split <;> split <;> omega
   · exact stepJ_keep (by omega) (by omega) (inJ_join hc hk hJ m (by omega))
theorem rootsJ_join {J : Nat → Nat → Bool} {k i n : Nat} (hk : k < i) (hi : i < n) (hJ : J k i = true) : gd (rootsJ J n) k = gd (rootsJ J n) i := by
 refine rootsJ_keep (n := i + 1) (by omega) (by omega) ?_ n (by omega)
 rw [rootsJ]
 exact inJ_join (rootsJ_len J i) hk hJ i hk
theorem jnL_symm (l : List (List Rect)) (p q : Int × List Bool) : jnL l p q = jnL l q p := by
 simp only [jnL, jnR_eq, mt_comm p.2 q.2]
 rw [show decide (p.1 = q.1) = decide (q.1 = p.1) by rw [Bool.eq_iff_iff]; simp; omega, Bool.or_comm (decide (p.1 = 3)), Bool.or_comm (decide (p.1 = 5))]
/-- joined pieces are on one net -/
theorem numR_join {l : List (List Rect)} {k i : Nat} (hk : k < (pcL l 4).length) (hi : i < (pcL l 4).length) (h : jnL l (gd (pcL l 4) k) (gd (pcL l 4) i) = true) : numR (clsL l) k = numR (clsL l) i := by
 have key : gd (clsL l) k = gd (clsL l) i := by
   rcases Nat.lt_trichotomy k i with c | c | c
   · exact rootsJ_join c hi h
   · rw [c]
   · exact (rootsJ_join (J := JL l) c hk (by rw [JL, jnL_symm]; exact h)).symm
 rw [numR, numR, key]
end Go.Proofs.YthhjapiggekjbaaGreat
namespace Go.Proofs.YthhjapiggekjbaaGreat
set_option linter.unusedVariables false
set_option linter.unusedSimpArgs false
open Go
set_option maxRecDepth 20000
set_option linter.unusedSimpArgs false
theorem comp_sub {S c : List Bool} {y x : Nat} (hc : c ∈ comps S) (hy : y < 80) (hx : x < 80) (h : gb c y x = true) : gb S y x = true := by
 rw [← comps_cover hy hx, List.any_eq_true]
 exact ⟨c, hc, h⟩
theorem reg_valid {xs : List Rect} (h : isReg xs = true) : ∀ r ∈ xs, validRect r = true := by
 have := isReg_valid h
 simp only [validRs, Bool.and_eq_true, List.all_eq_true] at this
 exact this.2
def cellIn (r : Rect) (X Y : Int) : Prop := r.x0 ≤ X ∧ X < r.x1 ∧ r.y0 ≤ Y ∧ Y < r.y1
theorem inR_cell {r : Rect} {y x : Nat} : inR r y x = true ↔ cellIn r ((x : Int) - 40) ((y : Int) - 40) := by
 rw [inR_iff, cellIn]; omega
theorem mv_pre {t : Trans} (ho : 0 ≤ t.o ∧ t.o ≤ 7) (X Y : Int) : ∃ X' Y' : Int, ∀ r : Rect, r.x0 < r.x1 → r.y0 < r.y1 → (cellIn (moveR t r) X Y ↔ cellIn r X' Y') := by
 obtain ⟨o, tx, ty⟩ := t
 have ho : o = 0 ∨ o = 1 ∨ o = 2 ∨ o = 3 ∨ o = 4 ∨ o = 5 ∨ o = 6 ∨ o = 7 := by simp only at ho; omega
 rcases ho with rfl | rfl | rfl | rfl | rfl | rfl | rfl | rfl <;>
   first
   | exact ⟨X - tx, Y - ty, fun r h1 h2 => by simp [cellIn, moveR, moveP, turnP, flip, rot]; omega⟩
   | exact ⟨tx - 1 - X, Y - ty, fun r h1 h2 => by simp [cellIn, moveR, moveP, turnP, flip, rot]; omega⟩
   | exact ⟨X - tx, ty - 1 - Y, fun r h1 h2 => by simp [cellIn, moveR, moveP, turnP, flip, rot]; omega⟩
   | exact ⟨tx - 1 - X, ty - 1 - Y, fun r h1 h2 => by simp [cellIn, moveR, moveP, turnP, flip, rot]; omega⟩
   | exact ⟨Y - ty, X - tx, fun r h1 h2 => by simp [cellIn, moveR, moveP, turnP, flip, rot]; omega⟩
   | exact ⟨ty - 1 - Y, X - tx, fun r h1 h2 => by simp [cellIn, moveR, moveP, turnP, flip, rot]; omega⟩
   | exact ⟨Y - ty, tx - 1 - X, fun r h1 h2 => by simp [cellIn, moveR, moveP, turnP, flip, rot]; omega⟩
   | exact ⟨ty - 1 - Y, tx - 1 - X, fun r h1 h2 => by simp [cellIn, moveR, moveP, turnP, flip, rot]; omega⟩
/-- the cell of the chip that a moved cell comes from, if any -/
theorem mv_gb {t : Trans} (ho : 0 ≤ t.o ∧ t.o ≤ 7) {y x : Nat} (hy : y < 80) (hx : x < 80) : (∃ y' x' : Nat, y' < 80 ∧ x' < 80 ∧ ∀ xs : List Rect, (∀ r ∈ xs, validRect r = true) → gb (bits (xs.map (moveR t))) y x = gb (bits xs) y' x') ∨ ∀ xs : List Rect, (∀ r ∈ xs, validRect r = true) → gb (bits (xs.map (moveR t))) y x = false := by
 obtain ⟨X', Y', h⟩ := mv_pre ho ((x : Int) - 40) ((y : Int) - 40)
 by_cases hr : (-40 ≤ X' ∧ X' < 40) ∧ (-40 ≤ Y' ∧ Y' < 40)
 · refine .inl ⟨(Y' + 40).toNat, (X' + 40).toNat, by omega, by omega, fun xs hv => ?_⟩
   rw [Bool.eq_iff_iff, gb_bits_iff hy hx, gb_bits_iff (by omega) (by omega)]
   constructor
   · rintro ⟨r, hr1, hr2⟩
     obtain ⟨q, hq, rfl⟩ := List.mem_map.1 hr1
     have hv1 := validR_iff.1 (hv q hq)
     refine ⟨q, hq, ?_⟩
     rw [inR_cell] at hr2 ⊢
     have := (h q (by omega) (by omega)).1 hr2
     rw [show (((X' + 40).toNat : Nat) : Int) - 40 = X' by omega, show (((Y' + 40).toNat : Nat) : Int) - 40 = Y' by omega]
     exact this
   · rintro ⟨q, hq, hq2⟩
     have hv1 := validR_iff.1 (hv q hq)
     refine ⟨moveR t q, List.mem_map.2 ⟨q, hq, rfl⟩, ?_⟩
     rw [inR_cell] at hq2 ⊢
     rw [show (((X' + 40).toNat : Nat) : Int) - 40 = X' by omega, show (((Y' + 40).toNat : Nat) : Int) - 40 = Y' by omega] at hq2
     exact (h q (by omega) (by omega)).2 hq2
 · refine .inr fun xs hv => ?_
   cases hg : gb (bits (xs.map (moveR t))) y x with
   | false => rfl
   | true =>
     exfalso
     rw [gb_bits_iff hy hx] at hg
     obtain ⟨r, hr1, hr2⟩ := hg
     obtain ⟨q, hq, rfl⟩ := List.mem_map.1 hr1
     have hv1 := validR_iff.1 (hv q hq)
     rw [inR_cell] at hr2
     have := (h q (by omega) (by omega)).1 hr2
     simp only [cellIn] at this
     omega
/-- lists with the same cells have, moved, the same cells -/
theorem mv_congr {t : Trans} (ho : 0 ≤ t.o ∧ t.o ≤ 7) {xs ys : List Rect} (hx : ∀ r ∈ xs, validRect r = true) (hy : ∀ r ∈ ys, validRect r = true) (h : bits xs = bits ys) : bits (xs.map (moveR t)) = bits (ys.map (moveR t)) := by
 refine bits_eq (bits_length _) fun y x h1 h2 => ?_
 rw [← gb_bits' _ h1 h2]
 rcases mv_gb ho h1 h2 with ⟨y', x', -, -, e⟩ | e
 · rw [e xs hx, e ys hy, h]
 · rw [e xs hx, e ys hy]
/-- lists without a common cell have, moved, none -/
theorem mv_disj {t : Trans} (ho : 0 ≤ t.o ∧ t.o ≤ 7) {xs ys : List Rect} (hx : ∀ r ∈ xs, validRect r = true) (hy : ∀ r ∈ ys, validRect r = true) (h : ∀ y x, y < 80 → x < 80 → gb (bits xs) y x = true → gb (bits ys) y x = false) {y x : Nat} (h1 : y < 80) (h2 : x < 80) (hg : gb (bits (xs.map (moveR t))) y x = true) : gb (bits (ys.map (moveR t))) y x = false := by
 rcases mv_gb ho h1 h2 with ⟨y', x', hy', hx', e⟩ | e
 · rw [e xs hx] at hg
   rw [e ys hy, h y' x' hy' hx' hg]
 · exact e ys hy
end Go.Proofs.YthhjapiggekjbaaGreat
namespace Go.Proofs.YthhjapiggekjbaaGreat
set_option linter.unusedVariables false
set_option linter.unusedSimpArgs false
open Go
set_option linter.unusedSimpArgs false
set_option maxRecDepth 20000
theorem piece_at {l : List (List Rect)} {i : Nat} (hi : i < 4) {y x : Nat} (hy : y < 80) (hx : x < 80) (h : gb (gd (condB l) i) y x = true) :
   ∃ j, j < (pcL l 4).length ∧ (gd (pcL l 4) j).1 = gd [0, 1, 3, 5] i ∧ gb (gd (pcL l 4) j).2 y x = true ∧ ∀ y' x', y' < 80 → x' < 80 → Adj (y, x) (y', x') → gb (gd (condB l) i) y' x' = true → gb (gd (pcL l 4) j).2 y' x' = true := by
 have hc := comps_cover (S := gd (condB l) i) hy hx
 rw [h, List.any_eq_true] at hc
 obtain ⟨c, hc, hg⟩ := hc
 have hm : ((gd [0, 1, 3, 5] i, c) : Int × List Bool) ∈ pcL l 4 := by
   rw [pcL, List.mem_flatten]
   exact ⟨_, List.mem_map.2 ⟨i, List.mem_range.2 hi, rfl⟩, List.mem_map.2 ⟨c, hc, rfl⟩⟩
 obtain ⟨j, hj, e⟩ := List.getElem_of_mem hm
 refine ⟨j, hj, ?_⟩
 rw [gd_eq hj, e]
 refine ⟨rfl, hg, fun y' x' hy' hx' ha hs => ?_⟩
 obtain ⟨j0, _, rfl⟩ := List.mem_map.1 hc
 exact (comp_iff hy' hx').2 (((comp_iff hy hx).1 hg).step ha ⟨hy', hx', hs⟩)
theorem atB_of {n x y : Int} {p : Int × List Bool} (hr : -40 ≤ x ∧ x < 40 ∧ -40 ≤ y ∧ y < 40) (h1 : p.1 = n) (h2 : gb p.2 (y + 40).toNat (x + 40).toNat = true) : atB n x y p = true := by
 rw [atB, cellB_in hr, h2, decide_eq_true h1]; rfl
end Go.Proofs.YthhjapiggekjbaaGreat
namespace Go.Proofs.YthhjapiggekjbaaGreat
set_option linter.unusedVariables false
set_option linter.unusedSimpArgs false
open Go
set_option maxRecDepth 20000
set_option linter.unusedSimpArgs false
/-- a function that the relation keeps is the same at a member and at its class -/
def Snd {β : Type} (f : Nat → β) (c : List Int) : Prop := ∀ j, j < c.length → f (gd c j).toNat = f j
theorem Snd.step {β : Type} {f : Nat → β} {J : Nat → Nat → Bool} {i k : Nat} {c : List Int} (h : Snd f c) (hi : i < c.length) (hk : k < c.length) (hJ : J k i = true → f k = f i) : Snd f (stepJ J i c k) := by
 unfold stepJ
 split
 · exact h
 · rename_i e
   rw [not_or, Bool.not_eq_false] at e
   have hf := hJ e.2
   have h1 := h k hk
   have h2 := h i hi
   intro j hj
   have hj : j < c.length := by simpa using hj
   have h3 := h j hj
   rw [gd_map _ hj, rl]
   by_cases c1 : gd c j = max (gd c k) (gd c i)
   · rw [if_pos c1]
     by_cases c2 : gd c k ≤ gd c i
     · rw [Int.min_eq_left c2, h1, hf]
       rw [Int.max_eq_right c2] at c1
       rw [← h3, c1, h2]
     · have c2 : gd c i ≤ gd c k := by omega
       rw [Int.min_eq_right c2, h2, ← hf]
       rw [Int.max_eq_left c2] at c1
       rw [← h3, c1, h1]
   · rw [if_neg c1]; exact h3
theorem Snd.app {β : Type} {f : Nat → β} {c : List Int} (h : Snd f c) : Snd f (c ++ [(c.length : Int)]) := fun j hj => by
 have hj : j < c.length + 1 := by simpa using hj
 by_cases e : j = c.length
 · subst e; rw [gd_app_r, Int.toNat_natCast]
 · rw [gd_app_l (by omega)]; exact h j (by omega)
theorem Snd.inJ {β : Type} {f : Nat → β} {J : Nat → Nat → Bool} {c : List Int} (h : Snd f c) (hJ : ∀ k, k < c.length → J k c.length = true → f k = f c.length) : ∀ k, k ≤ c.length → Snd f (inJ J c.length c k)
 | 0, _ => by rw [inJ_zero]; exact h.app
 | k + 1, hk => by
   rw [inJ_succ]
   exact (Snd.inJ h hJ k (by omega)).step (by rw [inJ_len]; omega) (by rw [inJ_len]; omega) (hJ k (by omega))
theorem Snd.roots {β : Type} {f : Nat → β} {J : Nat → Nat → Bool} : ∀ n, (∀ k i, k < i → i < n → J k i = true → f k = f i) → Snd f (rootsJ J n)
 | 0, _ => fun j hj => by simp [rootsJ] at hj
 | n + 1, hJ => by
   have := (Snd.roots n fun k i h1 h2 h3 => hJ k i h1 (by omega) h3).inJ (J := J) (by rw [rootsJ_len]; exact fun k hk h => hJ k n hk (by omega) h) n (by rw [rootsJ_len]; omega)
   rw [rootsJ_len] at this; exact this
theorem Snd.of_eq {β : Type} {f : Nat → β} {c : List Int} (h : Snd f c) {a b : Nat} (ha : a < c.length) (hb : b < c.length) (e : gd c a = gd c b) : f a = f b := by
 rw [← h a ha, ← h b hb, e]
theorem numR_inj {cls : List Int} (h : Rt cls) {a b : Nat} (ha : a < cls.length) (hb : b < cls.length) (e : numR cls a = numR cls b) : gd cls a = gd cls b := by
 obtain ⟨a1, a2, a3⟩ := h a ha
 obtain ⟨b1, b2, b3⟩ := h b hb
 unfold numR at e
 rcases Int.lt_trichotomy (gd cls a) (gd cls b) with c | c | c
 · have h1 := cntR_succ cls (gd cls a).toNat
   rw [if_pos (by rw [a3]; omega)] at h1
   have := cntR_mono cls (m := (gd cls a).toNat + 1) (n := (gd cls b).toNat) (by omega)
   omega
 · exact c
 · have h1 := cntR_succ cls (gd cls b).toNat
   rw [if_pos (by rw [b3]; omega)] at h1
   have := cntR_mono cls (m := (gd cls b).toNat + 1) (n := (gd cls a).toNat) (by omega)
   omega
def abutR (a b : Rect) : Bool := validRect a && validRect b && (decide ((cmn a b).x0 = (cmn a b).x1) && decide ((cmn a b).y0 < (cmn a b).y1) || decide ((cmn a b).y0 = (cmn a b).y1) && decide ((cmn a b).x0 < (cmn a b).x1))
def tchR (a b : List Rect) : Bool := a.any fun x => b.any fun y => ovl x y || abutR x y
def Tch (A B : List Bool) : Prop := ∃ a b : Cel, On A a ∧ On B b ∧ (a = b ∨ Adj a b)
theorem tch1 {a b : Rect} (ha : validRect a = true) (hb : validRect b = true) : (ovl a b || abutR a b) = true ↔ ∃ p q : Cel, inR a p.1 p.2 = true ∧ inR b q.1 q.2 = true ∧ (p = q ∨ Adj p q) := by
 simp only [ovl, abutR, ha, hb, Bool.true_and, Bool.or_eq_true, Bool.and_eq_true, decide_eq_true_eq]
 rw [validR_iff] at ha hb
 constructor
 · rintro (h | ⟨h1, h2⟩ | ⟨h1, h2⟩)
   · obtain ⟨y, x, hy, hx, h3⟩ := valid_cell h
     exact ⟨(y, x), (y, x), (inR_cmn.1 h3).1, (inR_cmn.1 h3).2, .inl rfl⟩
   · simp only [cmn] at h1 h2
     by_cases c : a.x1 ≤ b.x0
     · refine ⟨((max a.y0 b.y0 + 40).toNat, (a.x1 + 39).toNat), ((max a.y0 b.y0 + 40).toNat, (b.x0 + 40).toNat), inR_iff.2 (by simp only; omega), inR_iff.2 (by simp only; omega), .inr (.inl ⟨rfl, ?_⟩)⟩
       simp only; omega
     · refine ⟨((max a.y0 b.y0 + 40).toNat, (a.x0 + 40).toNat), ((max a.y0 b.y0 + 40).toNat, (b.x1 + 39).toNat), inR_iff.2 (by simp only; omega), inR_iff.2 (by simp only; omega), .inr (.inl ⟨rfl, ?_⟩)⟩
       simp only; omega
   · simp only [cmn] at h1 h2
     by_cases c : a.y1 ≤ b.y0
     · refine ⟨((a.y1 + 39).toNat, (max a.x0 b.x0 + 40).toNat), ((b.y0 + 40).toNat, (max a.x0 b.x0 + 40).toNat), inR_iff.2 (by simp only; omega), inR_iff.2 (by simp only; omega), .inr (.inr ⟨rfl, ?_⟩)⟩
       simp only; omega
     · refine ⟨((a.y0 + 40).toNat, (max a.x0 b.x0 + 40).toNat), ((b.y1 + 39).toNat, (max a.x0 b.x0 + 40).toNat), inR_iff.2 (by simp only; omega), inR_iff.2 (by simp only; omega), .inr (.inr ⟨rfl, ?_⟩)⟩
       simp only; omega
 · rintro ⟨⟨y, x⟩, ⟨y', x'⟩, h1, h2, h⟩
   rw [inR_iff] at h1 h2
   simp only at h1 h2
   simp only [validR_iff, cmn]
   rcases h with h | ⟨h3, h4⟩ | ⟨h3, h4⟩
   · injection h with h3 h4; subst h3 h4; left; omega
   · simp only at h3 h4; omega
   · simp only at h3 h4; omega
theorem tch_iff {a b : List Rect} (ha : validRs a = true) (hb : validRs b = true) : tchR a b = true ↔ Tch (bits a) (bits b) := by
 simp only [tchR, List.any_eq_true]
 constructor
 · rintro ⟨p, hp, q, hq, h⟩
   obtain ⟨c, d, h1, h2, h3⟩ := (tch1 (valid_mem ha hp) (valid_mem hb hq)).1 h
   obtain ⟨c1, c2⟩ := inR_lt (valid_mem ha hp) h1
   obtain ⟨d1, d2⟩ := inR_lt (valid_mem hb hq) h2
   exact ⟨c, d, ⟨c1, c2, (gb_bits_iff c1 c2).2 ⟨p, hp, h1⟩⟩, ⟨d1, d2, (gb_bits_iff d1 d2).2 ⟨q, hq, h2⟩⟩, h3⟩
 · rintro ⟨c, d, ⟨c1, c2, c3⟩, ⟨d1, d2, d3⟩, h3⟩
   obtain ⟨p, hp, h1⟩ := (gb_bits_iff c1 c2).1 c3
   obtain ⟨q, hq, h2⟩ := (gb_bits_iff d1 d2).1 d3
   exact ⟨p, hp, q, hq, (tch1 (valid_mem ha hp) (valid_mem hb hq)).2 ⟨c, d, h1, h2, h3⟩⟩
theorem Tch.symm {A B : List Bool} (h : Tch A B) : Tch B A := by
 obtain ⟨a, b, h1, h2, h3⟩ := h
 exact ⟨b, a, h2, h1, h3.elim (fun e => .inl e.symm) fun e => .inr e.symm⟩
def Cnd (S : List Bool) : Prop := ∀ a b, On S a → On S b → Conn S a b
theorem comps_cnd {S c : List Bool} (h : c ∈ comps S) : Cnd c := by
 obtain ⟨j, hj, rfl⟩ := List.mem_map.1 h
 have hf : First S j := by
   have := (List.mem_filter.1 hj).2
   simpa using this
 have hs : On S (cel j) := hf.1
 have key : ∀ a, On (compB S (cel j)) a → Conn (compB S (cel j)) (cel j) a := fun a ha => by
   have h1 := (comp_iff ha.1 ha.2.1).1 ha.2.2
   have h0 : On (compB S (cel j)) (cel j) := ⟨hs.1, hs.2.1, (comp_iff hs.1 hs.2.1).2 .refl⟩
   exact (Conn.sub h1 h0 fun p q hp ha hq => ⟨hq.1, hq.2.1, (comp_iff hq.1 hq.2.1).2 (((comp_iff hp.1 hp.2.1).1 hp.2.2).step ha hq)⟩).1
 have h0 : On (compB S (cel j)) (cel j) := ⟨hs.1, hs.2.1, (comp_iff hs.1 hs.2.1).2 .refl⟩
 exact fun a b ha hb => ((key a ha).symm h0).trans (key b hb)
theorem comps_ne {S c : List Bool} (h : c ∈ comps S) : ∃ a, On c a := by
 obtain ⟨j, hj, rfl⟩ := List.mem_map.1 h
 have hf : First S j := by
   have := (List.mem_filter.1 hj).2
   simpa using this
 have hs : On S (cel j) := hf.1
 exact ⟨cel j, hs.1, hs.2.1, (comp_iff hs.1 hs.2.1).2 .refl⟩
def fw (t : Trans) (X Y : Int) : Int × Int := ((moveR t ⟨X, Y, X + 1, Y + 1⟩).x0, (moveR t ⟨X, Y, X + 1, Y + 1⟩).y0)
theorem ori {o : Int} (ho : 0 ≤ o ∧ o ≤ 7) : o = 0 ∨ o = 1 ∨ o = 2 ∨ o = 3 ∨ o = 4 ∨ o = 5 ∨ o = 6 ∨ o = 7 := by omega
theorem fw_in {t : Trans} (ho : 0 ≤ t.o ∧ t.o ≤ 7) {X Y : Int} {r : Rect} (h1 : r.x0 < r.x1) (h2 : r.y0 < r.y1) : cellIn (moveR t r) (fw t X Y).1 (fw t X Y).2 ↔ cellIn r X Y := by
 obtain ⟨o, tx, ty⟩ := t
 rcases ori ho with rfl | rfl | rfl | rfl | rfl | rfl | rfl | rfl <;> (simp [fw, cellIn, moveR, moveP, turnP, flip, rot]; omega)
theorem fw_surj {t : Trans} (ho : 0 ≤ t.o ∧ t.o ≤ 7) (X Y : Int) : ∃ X' Y', fw t X' Y' = (X, Y) := by
 obtain ⟨o, tx, ty⟩ := t
 rcases ori ho with rfl | rfl | rfl | rfl | rfl | rfl | rfl | rfl <;>
   first
   | exact ⟨X - tx, Y - ty, by simp [fw, moveR, moveP, turnP, flip, rot]; omega⟩
   | exact ⟨tx - 1 - X, Y - ty, by simp [fw, moveR, moveP, turnP, flip, rot]; omega⟩
   | exact ⟨X - tx, ty - 1 - Y, by simp [fw, moveR, moveP, turnP, flip, rot]; omega⟩
   | exact ⟨tx - 1 - X, ty - 1 - Y, by simp [fw, moveR, moveP, turnP, flip, rot]; omega⟩
   | exact ⟨Y - ty, X - tx, by simp [fw, moveR, moveP, turnP, flip, rot]; omega⟩
   | exact ⟨ty - 1 - Y, X - tx, by simp [fw, moveR, moveP, turnP, flip, rot]; omega⟩
   | exact ⟨Y - ty, tx - 1 - X, by simp [fw, moveR, moveP, turnP, flip, rot]; omega⟩
   | exact ⟨ty - 1 - Y, tx - 1 - X, by simp [fw, moveR, moveP, turnP, flip, rot]; omega⟩
def AdjI (X Y X' Y' : Int) : Prop := (Y = Y' ∧ (X = X' + 1 ∨ X' = X + 1)) ∨ (X = X' ∧ (Y = Y' + 1 ∨ Y' = Y + 1))
theorem fw_adj {t : Trans} (ho : 0 ≤ t.o ∧ t.o ≤ 7) {X Y X' Y' : Int} : AdjI (fw t X Y).1 (fw t X Y).2 (fw t X' Y').1 (fw t X' Y').2 ↔ AdjI X Y X' Y' := by
 obtain ⟨o, tx, ty⟩ := t
 rcases ori ho with rfl | rfl | rfl | rfl | rfl | rfl | rfl | rfl <;> (simp [AdjI, fw, moveR, moveP, turnP, flip, rot]; omega)
def im (t : Trans) (a : Cel) : Cel := (((fw t ((a.2 : Int) - 40) ((a.1 : Int) - 40)).2 + 40).toNat, ((fw t ((a.2 : Int) - 40) ((a.1 : Int) - 40)).1 + 40).toNat)
theorem im_on {t : Trans} (ho : 0 ≤ t.o ∧ t.o ≤ 7) {xs : List Rect} (hx : ∀ r ∈ xs, validRect r = true) (hv : ∀ r ∈ xs, validRect (moveR t r) = true) {a : Cel} (h : On (bits xs) a) :
   (-40 ≤ (fw t ((a.2 : Int) - 40) ((a.1 : Int) - 40)).1 ∧ -40 ≤ (fw t ((a.2 : Int) - 40) ((a.1 : Int) - 40)).2) ∧ On (bits (xs.map (moveR t))) (im t a) := by
 obtain ⟨h1, h2, h3⟩ := h
 obtain ⟨r, hr, hi⟩ := (gb_bits_iff h1 h2).1 h3
 rw [inR_cell] at hi
 have hv1 := validR_iff.1 (hx r hr)
 have hv2 := validR_iff.1 (hv r hr)
 have hc := (fw_in ho (r := r) (by omega) (by omega)).2 hi
 have hc' := hc
 simp only [cellIn] at hc'
 refine ⟨by omega, ?_⟩
 have l1 : (im t a).1 < 80 := by simp only [im]; omega
 have l2 : (im t a).2 < 80 := by simp only [im]; omega
 refine ⟨l1, l2, (gb_bits_iff l1 l2).2 ⟨moveR t r, List.mem_map.2 ⟨r, hr, rfl⟩, ?_⟩⟩
 rw [inR_cell]
 simp only [im]
 rw [Int.toNat_of_nonneg (by omega), Int.toNat_of_nonneg (by omega), Int.add_sub_cancel, Int.add_sub_cancel]
 exact hc
theorem im_surj {t : Trans} (ho : 0 ≤ t.o ∧ t.o ≤ 7) {xs : List Rect} (hx : ∀ r ∈ xs, validRect r = true) {b : Cel} (h : On (bits (xs.map (moveR t))) b) : ∃ a, On (bits xs) a ∧ im t a = b := by
 obtain ⟨h1, h2, h3⟩ := h
 obtain ⟨r', hr', hi⟩ := (gb_bits_iff h1 h2).1 h3
 obtain ⟨r, hr, er⟩ := List.mem_map.1 hr'
 subst er
 rw [inR_cell] at hi
 have hv1 := validR_iff.1 (hx r hr)
 obtain ⟨X, Y, e⟩ := fw_surj ho ((b.2 : Int) - 40) ((b.1 : Int) - 40)
 have hc : cellIn r X Y := (fw_in ho (by omega) (by omega)).1 (by rw [e]; exact hi)
 have hc' := hc
 simp only [cellIn] at hc'
 have e1 : (((X + 40).toNat : Nat) : Int) - 40 = X := by omega
 have e2 : (((Y + 40).toNat : Nat) : Int) - 40 = Y := by omega
 refine ⟨((Y + 40).toNat, (X + 40).toNat), ⟨by simp only; omega, by simp only; omega, (gb_bits_iff (by simp only; omega) (by simp only; omega)).2 ⟨r, hr, ?_⟩⟩, ?_⟩
 · rw [inR_cell]; simp only [e1, e2]; exact hc
 · simp only [im, e1, e2, e]
   obtain ⟨b1, b2⟩ := b
   simp only [Prod.mk.injEq]; omega
theorem im_adj {t : Trans} (ho : 0 ≤ t.o ∧ t.o ≤ 7) {xs : List Rect} (hx : ∀ r ∈ xs, validRect r = true) (hv : ∀ r ∈ xs, validRect (moveR t r) = true) {a b : Cel} (ha : On (bits xs) a) (hb : On (bits xs) b) (h : Adj a b) : Adj (im t a) (im t b) := by
 have h1 := (im_on ho hx hv ha).1
 have h2 := (im_on ho hx hv hb).1
 have h3 : AdjI ((a.2 : Int) - 40) ((a.1 : Int) - 40) ((b.2 : Int) - 40) ((b.1 : Int) - 40) := by
   simp only [AdjI, Adj] at h ⊢; omega
 have h4 := (fw_adj ho).2 h3
 simp only [AdjI, Adj, im] at h4 ⊢
 omega
/-- a connected figure is connected when moved -/
theorem cnd_mv {t : Trans} (ho : 0 ≤ t.o ∧ t.o ≤ 7) {xs : List Rect} (hx : ∀ r ∈ xs, validRect r = true) (hv : ∀ r ∈ xs, validRect (moveR t r) = true) (h : Cnd (bits xs)) : Cnd (bits (xs.map (moveR t))) := fun a' b' ha' hb' => by
 obtain ⟨a, ha, ea⟩ := im_surj ho hx ha'
 obtain ⟨b, hb, eb⟩ := im_surj ho hx hb'
 subst ea eb
 have hc := h a b ha hb
 have key : ∀ c, Conn (bits xs) a c → Conn (bits (xs.map (moveR t))) (im t a) (im t c) := fun c hc => by
   induction hc with
   | refl => exact .refl
   | step h1 h2 h3 ih => exact ih.step (im_adj ho hx hv (h1.on ha) h3 h2) (im_on ho hx hv h3).2
 exact key b hc
end Go.Proofs.YthhjapiggekjbaaGreat
namespace Go.Proofs.YthhjapiggekjbaaGreat
set_option linter.unusedVariables false
set_option linter.unusedSimpArgs false
open Go
set_option maxRecDepth 20000
set_option linter.unusedSimpArgs false
def pb (q : Int × List Rect) : Int × List Bool := (q.1, bits q.2)
theorem pb_pcR {q : Int × List Rect} (h : isReg q.2 = true) : pcR (pb q) = q := by rw [pcR, pb]; simp only [isReg_eq h]
structure PF (l : List (List Rect)) (q : Int × List Rect) (i : Nat) : Prop where
  hi : i < 4
  lay : q.1 = gd [0, 1, 3, 5] i
  reg : isReg q.2 = true
  cnd : Cnd (bits q.2)
  ne : ∃ a, On (bits q.2) a
  sub : ∀ a, On (bits q.2) a → On (gd (condB l) i) a
structure PAll (l : List (List Rect)) (E : List (Int × List Rect)) : Prop where
  mem : ∀ q ∈ E, ∃ i, PF l q i
  cov : ∀ i a, i < 4 → On (gd (condB l) i) a → ∃ q ∈ E, q.1 = gd [0, 1, 3, 5] i ∧ On (bits q.2) a
def JH (l : List (List Rect)) (E : List (Int × List Rect)) (k i : Nat) : Bool := (decide ((gd E k).1 = (gd E i).1) && tchR (gd E k).2 (gd E i).2) || jnI l (gd E k) (gd E i)
def clsH (l : List (List Rect)) (E : List (Int × List Rect)) : List Int := rootsJ (JH l E) E.length
theorem clsH_len (l : List (List Rect)) (E : List (Int × List Rect)) : (clsH l E).length = E.length := rootsJ_len _ _
theorem clsH_rt (l : List (List Rect)) (E : List (Int × List Rect)) : Rt (clsH l E) := rt_roots _ _
noncomputable def numH (l : List (List Rect)) (q : Int × List Rect) : Int := findL l q.1 (gd q.2 0).x0 (gd q.2 0).y0
def jnC (l : List (List Rect)) (m n : Int) (y x : Nat) : Bool := !decide (m = n) && (gb (bits (gd l 2)) y x && (decide (m = 3) || decide (n = 3)) && !(decide (m = 5) || decide (n = 5)) || gb (bits (gd l 4)) y x && (decide (m = 3) || decide (n = 3)) && (decide (m = 5) || decide (n = 5)))
theorem jnL_iff {l : List (List Rect)} {p q : Int × List Bool} : jnL l p q = true ↔ ∃ a : Cel, On p.2 a ∧ On q.2 a ∧ jnC l p.1 q.1 a.1 a.2 = true := by
 simp only [jnL, jnR, Bool.and_eq_true, List.any_eq_true, List.mem_range, jnC, On, gb]
 constructor
 · rintro ⟨h0, n, hn, ⟨h1, h2⟩, h3⟩
   have e : n / 80 * 80 + n % 80 = n := by omega
   exact ⟨(n / 80, n % 80), ⟨by simp only; omega, by simp only; omega, by simp only [e]; exact h1⟩, ⟨by simp only; omega, by simp only; omega, by simp only [e]; exact h2⟩, h0, by simp only [e]; exact h3⟩
 · rintro ⟨⟨y, x⟩, ⟨hy, hx, h1⟩, ⟨-, -, h2⟩, h0, h3⟩
   simp only at hy hx h1 h2 h3
   exact ⟨h0, y * 80 + x, by omega, ⟨h1, h2⟩, h3⟩
theorem PF.isL {l : List (List Rect)} {q : Int × List Rect} {i : Nat} (h : PF l q i) : Go.Proofs.YthhjapiggekjbaaGreat.isL q.1 := by rw [h.lay]; exact isL_lay h.hi
theorem lay_inj {i k : Nat} (hi : i < 4) (hk : k < 4) (h : (gd [0, 1, 3, 5] i : Int) = gd [0, 1, 3, 5] k) : i = k := by
 rcases Nat.lt_trichotomy i k with c | c | c
 · exact absurd h (lay_ne c hk)
 · exact c
 · exact absurd h.symm (lay_ne c hi)
theorem PAll.iff {l : List (List Rect)} {E : List (Int × List Rect)} (h : PAll l E) (hl : isLay l = true) {k i : Nat} (hk : k < E.length) (hi : i < E.length) : JH l E k i = true ↔ ((gd E k).1 = (gd E i).1 ∧ Tch (bits (gd E k).2) (bits (gd E i).2)) ∨ jnL l (pb (gd E k)) (pb (gd E i)) = true := by
 obtain ⟨m, hm⟩ := h.mem _ (gd_mem hk)
 obtain ⟨n, hn⟩ := h.mem _ (gd_mem hi)
 have e := jn_eq hl (p := pb (gd E k)) (q := pb (gd E i)) hm.isL hn.isL (bits_length _) (bits_length _)
 rw [pb_pcR hm.reg, pb_pcR hn.reg] at e
 rw [JH, e, Bool.or_eq_true, Bool.and_eq_true, decide_eq_true_eq, tch_iff (isReg_valid hm.reg) (isReg_valid hn.reg)]
theorem PAll.symm {l : List (List Rect)} {E : List (Int × List Rect)} (h : PAll l E) (hl : isLay l = true) {k i : Nat} (hk : k < E.length) (hi : i < E.length) (hJ : JH l E k i = true) : JH l E i k = true := by
 rw [h.iff hl hi hk]
 rcases (h.iff hl hk hi).1 hJ with ⟨e, t⟩ | t
 · exact .inl ⟨e.symm, t.symm⟩
 · rw [jnL_symm]; exact .inr t
theorem PAll.join {l : List (List Rect)} {E : List (Int × List Rect)} (h : PAll l E) (hl : isLay l = true) {k i : Nat} (hk : k < E.length) (hi : i < E.length) (hJ : JH l E k i = true) : gd (clsH l E) k = gd (clsH l E) i := by
 rcases Nat.lt_trichotomy k i with c | c | c
 · exact rootsJ_join c hi hJ
 · rw [c]
 · exact (rootsJ_join c hk (h.symm hl hk hi hJ)).symm
theorem piece_in {l : List (List Rect)} {j : Nat} (hj : j < (pcL l 4).length) : ∃ i, i < 4 ∧ (gd (pcL l 4) j).1 = gd [0, 1, 3, 5] i ∧ (gd (pcL l 4) j).2 ∈ comps (gd (condB l) i) := by
 have hm := gd_mem hj
 rw [pcL] at hm
 obtain ⟨z, hz, hq⟩ := List.mem_flatten.1 hm
 obtain ⟨i, hi, rfl⟩ := List.mem_map.1 hz
 obtain ⟨c, hc, e⟩ := List.mem_map.1 hq
 rw [← pcL] at e
 rw [← e]
 exact ⟨i, List.mem_range.1 hi, rfl, hc⟩
theorem piece_sub {l : List (List Rect)} {i j : Nat} (hi : i < 4) (hj : j < (pcL l 4).length) (e : (gd (pcL l 4) j).1 = gd [0, 1, 3, 5] i) {a : Cel} (h : On (gd (pcL l 4) j).2 a) : On (gd (condB l) i) a := by
 obtain ⟨i', hi', e', hc⟩ := piece_in hj
 obtain rfl := lay_inj hi hi' (e.symm.trans e')
 exact ⟨h.1, h.2.1, comp_sub hc h.1 h.2.1 h.2.2⟩
theorem piece_uniq {l : List (List Rect)} {i j : Nat} (hi : i < (pcL l 4).length) (hj : j < (pcL l 4).length) (e : (gd (pcL l 4) i).1 = (gd (pcL l 4) j).1) {a : Cel} (h1 : On (gd (pcL l 4) i).2 a) (h2 : On (gd (pcL l 4) j).2 a) : i = j :=
 pcL_uniq hi hj e h1.1 h1.2.1 h1.2.2 h2.2.2
theorem piece_closed {l : List (List Rect)} {i j : Nat} (hi : i < 4) (hj : j < (pcL l 4).length) (e : (gd (pcL l 4) j).1 = gd [0, 1, 3, 5] i) {a b : Cel} (ha : On (gd (pcL l 4) j).2 a) (hab : Adj a b) (hb : On (gd (condB l) i) b) : On (gd (pcL l 4) j).2 b := by
 have hs := piece_sub hi hj e ha
 obtain ⟨j', hj', e', h1, h2⟩ := piece_at hi hs.1 hs.2.1 hs.2.2
 obtain rfl := piece_uniq hj hj' (e.trans e'.symm) ha ⟨hs.1, hs.2.1, h1⟩
 exact ⟨hb.1, hb.2.1, h2 _ _ hb.1 hb.2.1 hab hb.2.2⟩
theorem region_first {r : List Rect} (hr : isReg r = true) (h : ∃ a, On (bits r) a) : 0 < r.length ∧ validRect (gd r 0) = true ∧ On (bits r) (((gd r 0).y0 + 40).toNat, ((gd r 0).x0 + 40).toNat) := by
 obtain ⟨a, h1, h2, h3⟩ := h
 obtain ⟨q, hq, -⟩ := (gb_bits_iff h1 h2).1 h3
 have hl : 0 < r.length := List.length_pos_of_mem hq
 have hv := reg_valid hr _ (gd_mem hl)
 have hv' := validR_iff.1 hv
 refine ⟨hl, hv, by simp only; omega, by simp only; omega, (gb_bits_iff (by simp only; omega) (by simp only; omega)).2 ⟨_, gd_mem hl, inR_iff.2 (by simp only; omega)⟩⟩
/-- a placed piece lies in one piece of the flattened layout -/
theorem PF.flat {l : List (List Rect)} {q : Int × List Rect} {i : Nat} (h : PF l q i) : ∃ j, j < (pcL l 4).length ∧ (gd (pcL l 4) j).1 = gd [0, 1, 3, 5] i ∧ (∀ a, On (bits q.2) a → On (gd (pcL l 4) j).2 a) ∧ numH l q = (numR (clsL l) j : Int) := by
 obtain ⟨h0, hv, hf⟩ := region_first h.reg h.ne
 have hs := h.sub _ hf
 obtain ⟨j, hj, e, h1, -⟩ := piece_at h.hi hs.1 hs.2.1 hs.2.2
 have hp : On (gd (pcL l 4) j).2 (((gd q.2 0).y0 + 40).toNat, ((gd q.2 0).x0 + 40).toNat) := ⟨hs.1, hs.2.1, h1⟩
 refine ⟨j, hj, e, fun a ha => ?_, ?_⟩
 · have hc := h.cnd _ a hf ha
   induction hc with
   | refl => exact hp
   | step g1 g2 g3 ih => exact piece_closed h.hi hj e (ih (g1.on hf)) g2 (h.sub _ g3)
 · rw [numH]
   rw [validR_iff] at hv
   exact findL_at hj (atB_of (by omega) (e.trans h.lay.symm) h1)
theorem PAll.num {l : List (List Rect)} {E : List (Int × List Rect)} (h : PAll l E) (hl : isLay l = true) {k i : Nat} (hk : k < E.length) (hi : i < E.length) (hJ : JH l E k i = true) : numH l (gd E k) = numH l (gd E i) := by
 obtain ⟨m, hm⟩ := h.mem _ (gd_mem hk)
 obtain ⟨n, hn⟩ := h.mem _ (gd_mem hi)
 obtain ⟨j1, a1, a2, a3, a4⟩ := hm.flat
 obtain ⟨j2, b1, b2, b3, b4⟩ := hn.flat
 rw [a4, b4]
 rcases (h.iff hl hk hi).1 hJ with ⟨e, a, b, ha, hb, hab⟩ | t
 · have e' : (gd (pcL l 4) j1).1 = (gd (pcL l 4) j2).1 := by rw [a2, b2, ← hm.lay, ← hn.lay, e]
   have hb2 : On (gd (pcL l 4) j1).2 b := by
     rcases hab with rfl | hab
     · exact a3 _ ha
     · refine piece_closed hm.hi a1 a2 (a3 _ ha) hab ?_
       have e2 : n = m := lay_inj hn.hi hm.hi (by rw [← hm.lay, ← hn.lay, e])
       rw [← e2]; exact hn.sub _ hb
   rw [piece_uniq a1 b1 e' hb2 (b3 _ hb)]
 · obtain ⟨a, ha, hb, hc⟩ := jnL_iff.1 t
   rw [numR_join a1 b1 (jnL_iff.2 ⟨a, a3 _ ha, b3 _ hb, by rw [a2, b2, ← hm.lay, ← hn.lay]; exact hc⟩)]
/-- placed pieces in one flattened piece are in one class -/
theorem PAll.same {l : List (List Rect)} {E : List (Int × List Rect)} (h : PAll l E) (hl : isLay l = true) {j : Nat} (hj : j < (pcL l 4).length) {k : Nat} (hk : k < E.length) (ek : (gd E k).1 = (gd (pcL l 4) j).1) {a : Cel} (ha : On (bits (gd E k).2) a) (ha2 : On (gd (pcL l 4) j).2 a) :
   ∀ b, On (gd (pcL l 4) j).2 b → ∀ k2, k2 < E.length → (gd E k2).1 = (gd (pcL l 4) j).1 → On (bits (gd E k2).2) b → gd (clsH l E) k2 = gd (clsH l E) k := fun b hb => by
 obtain ⟨i, hi, e, hc⟩ := piece_in hj
 have hcn := comps_cnd hc a b ha2 hb
 induction hcn with
 | refl => exact fun k2 h1 h2 h3 => h.join hl h1 hk ((h.iff hl h1 hk).2 (.inl ⟨h2.trans ek.symm, a, a, h3, ha, .inl rfl⟩))
 | step g1 g2 g3 ih =>
   intro k2 h1 h2 h3
   have hb' := g1.on ha2
   obtain ⟨q, hq, q1, q2⟩ := h.cov i _ hi (piece_sub hi hj e hb')
   obtain ⟨k3, hk3, rfl⟩ := List.getElem_of_mem hq
   have e3 : gd E k3 = E[k3] := gd_eq hk3
   rw [← e3] at q1 q2
   rw [← ih hb' k3 hk3 (q1.trans e.symm) q2]
   exact h.join hl h1 hk3 ((h.iff hl h1 hk3).2 (.inl ⟨by rw [h2, q1, e], _, _, h3, q2, .inr g2.symm⟩))
open Classical in
noncomputable def gCls (l : List (List Rect)) (E : List (Int × List Rect)) (j : Nat) : Int := if h : ∃ k, k < E.length ∧ (gd E k).1 = (gd (pcL l 4) j).1 ∧ ∃ a, On (bits (gd E k).2) a ∧ On (gd (pcL l 4) j).2 a then gd (clsH l E) h.choose else 0
theorem PAll.gCls {l : List (List Rect)} {E : List (Int × List Rect)} (h : PAll l E) (hl : isLay l = true) {j : Nat} (hj : j < (pcL l 4).length) {k : Nat} (hk : k < E.length) (ek : (gd E k).1 = (gd (pcL l 4) j).1) {a : Cel} (ha : On (bits (gd E k).2) a) (ha2 : On (gd (pcL l 4) j).2 a) : gCls l E j = gd (clsH l E) k := by
 have hx : ∃ k, k < E.length ∧ (gd E k).1 = (gd (pcL l 4) j).1 ∧ ∃ a, On (bits (gd E k).2) a ∧ On (gd (pcL l 4) j).2 a := ⟨k, hk, ek, a, ha, ha2⟩
 rw [Go.Proofs.YthhjapiggekjbaaGreat.gCls, dif_pos hx]
 obtain ⟨h1, h2, b, h3, h4⟩ := hx.choose_spec
 exact h.same hl hj hk ek ha ha2 b h4 _ h1 h2 h3
theorem PAll.snd {l : List (List Rect)} {E : List (Int × List Rect)} (h : PAll l E) (hl : isLay l = true) : Snd (Go.Proofs.YthhjapiggekjbaaGreat.gCls l E) (clsL l) := by
 refine Snd.roots _ fun k i hki hi hJ => ?_
 have hk : k < (pcL l 4).length := by omega
 rw [JL] at hJ
 obtain ⟨a, ha, hb, hc⟩ := jnL_iff.1 hJ
 obtain ⟨m, hm, em, -⟩ := piece_in hk
 obtain ⟨n, hn, en, -⟩ := piece_in hi
 obtain ⟨p, hp, p1, p2⟩ := h.cov m a hm (piece_sub hm hk em ha)
 obtain ⟨q, hq, q1, q2⟩ := h.cov n a hn (piece_sub hn hi en hb)
 obtain ⟨k1, hk1, rfl⟩ := List.getElem_of_mem hp
 obtain ⟨k2, hk2, rfl⟩ := List.getElem_of_mem hq
 rw [← gd_eq hk1] at p1 p2
 rw [← gd_eq hk2] at q1 q2
 rw [h.gCls hl hk hk1 (p1.trans em.symm) p2 ha, h.gCls hl hi hk2 (q1.trans en.symm) q2 hb]
 exact h.join hl hk1 hk2 ((h.iff hl hk1 hk2).2 (.inr (jnL_iff.2 ⟨a, p2, q2, by simp only [pb]; rw [p1, q1, ← em, ← en]; exact hc⟩)))
theorem PAll.cls {l : List (List Rect)} {E : List (Int × List Rect)} (h : PAll l E) (hl : isLay l = true) {a b : Nat} (ha : a < E.length) (hb : b < E.length) : gd (clsH l E) a = gd (clsH l E) b ↔ numH l (gd E a) = numH l (gd E b) := by
 constructor
 · have hs : Snd (fun k => numH l (gd E k)) (clsH l E) := Snd.roots _ fun k i hki hi hJ => h.num hl (by omega) hi hJ
   exact fun e => hs.of_eq (by rw [clsH_len]; exact ha) (by rw [clsH_len]; exact hb) e
 · intro e
   obtain ⟨m, hm⟩ := h.mem _ (gd_mem ha)
   obtain ⟨n, hn⟩ := h.mem _ (gd_mem hb)
   obtain ⟨j1, a1, a2, a3, a4⟩ := hm.flat
   obtain ⟨j2, b1, b2, b3, b4⟩ := hn.flat
   rw [a4, b4] at e
   have e2 := numR_inj (clsL_rt l) (a := j1) (b := j2) (by rw [clsL_len]; exact a1) (by rw [clsL_len]; exact b1) (by omega)
   have e3 := (h.snd hl).of_eq (a := j1) (b := j2) (by rw [clsL_len]; exact a1) (by rw [clsL_len]; exact b1) e2
   obtain ⟨c, hc⟩ := hm.ne
   obtain ⟨d, hd⟩ := hn.ne
   rwa [h.gCls hl a1 ha (hm.lay.trans a2.symm) hc (a3 _ hc), h.gCls hl b1 hb (hn.lay.trans b2.symm) hd (b3 _ hd)] at e3
/-- the class of a placed piece is the first piece with its number -/
theorem PAll.first {l : List (List Rect)} {E : List (Int × List Rect)} (h : PAll l E) (hl : isLay l = true) {i : Nat} (hi : i < E.length) : ∃ m : Nat, gd (clsH l E) i = (m : Int) ∧ m ≤ i ∧ numH l (gd E m) = numH l (gd E i) ∧ ∀ k, k < m → numH l (gd E k) ≠ numH l (gd E i) := by
 obtain ⟨h1, h2, h3⟩ := clsH_rt l E i (by rw [clsH_len]; exact hi)
 refine ⟨(gd (clsH l E) i).toNat, by omega, by omega, (h.cls hl (by omega) hi).1 h3, fun k hk e => ?_⟩
 have e2 := (h.cls hl (by omega) hi).2 e
 obtain ⟨k1, k2, k3⟩ := clsH_rt l E k (by rw [clsH_len]; omega)
 omega
end Go.Proofs.YthhjapiggekjbaaGreat
namespace Go.Proofs.YthhjapiggekjbaaGreat
set_option linter.unusedVariables false
set_option linter.unusedSimpArgs false
open Go
set_option maxRecDepth 20000
set_option linter.unusedSimpArgs false
open Classical in
theorem comps_sub {S U : List Bool} (hsub : ∀ a, On U a → On S a) (hcl : ∀ a b, On U a → Adj a b → On S b → On U b) : comps U = ((firsts S 6400).filter fun j => decide (On U (cel j))).map fun j => compB S (cel j) := by
 have k1 : ∀ a b, On U a → Conn S a b → Conn U a b ∧ On U b := fun a b ha h => h.sub ha fun p q hp hpq hq => hcl p q hp hpq hq
 have k2 : ∀ a b, Conn U a b → Conn S a b := fun a b h => h.mono hsub
 have k3 : ∀ j, First U j ↔ First S j ∧ On U (cel j) := fun j => by
   constructor
   · rintro ⟨h1, h2⟩
     refine ⟨⟨hsub _ h1, fun i hi hs hc => ?_⟩, h1⟩
     obtain ⟨h3, h4⟩ := k1 _ _ h1 (hc.symm hs)
     exact h2 i hi h4 (h3.symm h1)
   · rintro ⟨⟨h1, h2⟩, h3⟩
     exact ⟨h3, fun i hi hs hc => h2 i hi (hsub _ hs) (k2 _ _ hc)⟩
 have k4 : firsts U 6400 = (firsts S 6400).filter fun j => decide (On U (cel j)) := by
   rw [firsts, firsts, List.filter_filter]
   refine List.filter_congr fun j _ => ?_
   rw [← Bool.decide_and, decide_eq_decide, k3 j, and_comm]
 rw [comps, k4]
 refine List.map_congr_left fun j hj => ?_
 have hU : On U (cel j) := by simpa using (List.mem_filter.1 hj).2
 refine gb_ext (compB_len _ _) (compB_len _ _) fun y x hy hx => ?_
 rw [Bool.eq_iff_iff, comp_iff hy hx, comp_iff hy hx]
 exact ⟨k2 _ _, fun h => (k1 _ _ hU h).1⟩
/-- what a net's pieces are, told by the numbers of the pieces -/
theorem numH_pc {l : List (List Rect)} {j : Nat} (hj : j < (pcL l 4).length) : numH l (pcR (gd (pcL l 4) j)) = (numR (clsL l) j : Int) := by
 obtain ⟨i, hi, e, hc⟩ := piece_in hj
 have h6 := comps_mem hc
 have hb : bits (canon (gd (pcL l 4) j).2) = (gd (pcL l 4) j).2 := bits_canon h6
 obtain ⟨h0, hv, hf⟩ := region_first (isReg_canon h6) (by rw [hb]; exact comps_ne hc)
 rw [hb] at hf
 rw [validR_iff] at hv
 exact findL_at hj (atB_of (by simp only [pcR]; omega) rfl hf.2.2)
theorem filter_range {α : Type} [Inhabited α] (xs : List α) (q : α → Bool) : ((List.range xs.length).filter fun j => q (gd xs j)).map (gd xs) = xs.filter q := by
 have e : xs = (List.range xs.length).map (gd xs) := by
   apply List.ext_getElem?
   intro i
   by_cases hi : i < xs.length
   · rw [getG hi, getG (by simpa using hi), gd_map _ (by simpa using hi)]; simp [gd, hi]
   · rw [List.getElem?_eq_none (by omega), List.getElem?_eq_none (by simp; omega)]
 conv => rhs; rw [e]
 rw [List.filter_map]; rfl
theorem netL_filter {l : List (List Rect)} {m : Nat} (hm : m < netN l) : gd (netL l) m = ((pcL l 4).filter fun p => decide (numH l (pcR p) = (m : Int))).map pcR := by
 rw [netL_gd hm]
 have e : ((List.range (pcL l 4).length).filter fun j => decide (numR (clsL l) j = m)) = (List.range (pcL l 4).length).filter fun j => decide (numH l (pcR (gd (pcL l 4) j)) = (m : Int)) := by
   refine List.filter_congr fun j hj => ?_
   rw [numH_pc (List.mem_range.1 hj), decide_eq_decide]; omega
 rw [e, ← filter_range (pcL l 4) fun p => decide (numH l (pcR p) = (m : Int)), List.map_map]; rfl
/-- the cells of the layer n that the class of the first-th piece covers -/
def uniR (E : List (Int × List Rect)) (C : List Int) (first n : Nat) : List Rect := ((List.range E.length).filter fun i => decide (gd C i = (first : Int)) && decide ((gd E i).1 = (n : Int))).flatMap fun i => (gd E i).2
noncomputable def hPcs (E : List (Int × List Rect)) (C : List Int) (first : Nat) : List (Int × List Rect) := (List.range 8).flatMap fun n => (partsL (bits (uniR E C first n))).map fun r => ((n : Int), r)
theorem uniR_on {E : List (Int × List Rect)} {C : List Int} {first n : Nat} {a : Cel} : On (bits (uniR E C first n)) a ↔ ∃ i, i < E.length ∧ gd C i = (first : Int) ∧ (gd E i).1 = (n : Int) ∧ On (bits (gd E i).2) a := by
 constructor
 · rintro ⟨h1, h2, h3⟩
   obtain ⟨r, hr, hi⟩ := (gb_bits_iff h1 h2).1 h3
   rw [uniR] at hr
   obtain ⟨i, hi1, hr⟩ := List.mem_flatMap.1 hr
   simp only [List.mem_filter, List.mem_range, Bool.and_eq_true, decide_eq_true_eq] at hi1
   exact ⟨i, hi1.1, hi1.2.1, hi1.2.2, h1, h2, (gb_bits_iff h1 h2).2 ⟨r, hr, hi⟩⟩
 · rintro ⟨i, hi, h1, h2, h3, h4, h5⟩
   obtain ⟨r, hr, hir⟩ := (gb_bits_iff h3 h4).1 h5
   refine ⟨h3, h4, (gb_bits_iff h3 h4).2 ⟨r, ?_, hir⟩⟩
   rw [uniR]
   refine List.mem_flatMap.2 ⟨i, ?_, hr⟩
   simp only [List.mem_filter, List.mem_range, Bool.and_eq_true, decide_eq_true_eq]
   exact ⟨hi, h1, h2⟩
theorem comps_empty {S : List Bool} (h : ∀ a, ¬ On S a) : comps S = [] := by
 rw [comps, List.map_eq_nil_iff, firsts, List.filter_eq_nil_iff]
 intro j _
 simp only [decide_eq_true_eq]
 exact fun hf => h _ hf.1
section
variable {l : List (List Rect)} {E : List (Int × List Rect)}
theorem PAll.uni (h : PAll l E) (hl : isLay l = true) {first : Nat} (hf : first < E.length) (hr : gd (clsH l E) first = (first : Int)) {i n : Nat} (hi : i < 4) (hn : (gd [0, 1, 3, 5] i : Int) = n) :
   partsL (bits (uniR E (clsH l E) first n)) = ((comps (gd (condB l) i)).filter fun c => decide (numH l (pcR (gd [0, 1, 3, 5] i, c)) = numH l (gd E first))).map canon := by
 have hsub : ∀ a, On (bits (uniR E (clsH l E) first n)) a → On (gd (condB l) i) a := fun a ha => by
   obtain ⟨k, hk, -, h2, h3⟩ := uniR_on.1 ha
   obtain ⟨m, hm⟩ := h.mem _ (gd_mem hk)
   have e : m = i := lay_inj hm.hi hi (by rw [← hm.lay, h2, hn])
   rw [← e]; exact hm.sub a h3
 have hcl : ∀ a b, On (bits (uniR E (clsH l E) first n)) a → Adj a b → On (gd (condB l) i) b → On (bits (uniR E (clsH l E) first n)) b := fun a b ha hab hb => by
   obtain ⟨k, hk, h1, h2, h3⟩ := uniR_on.1 ha
   obtain ⟨q, hq, q1, q2⟩ := h.cov i b hi hb
   obtain ⟨k2, hk2, rfl⟩ := List.getElem_of_mem hq
   rw [← gd_eq hk2] at q1 q2
   refine uniR_on.2 ⟨k2, hk2, ?_, by rw [q1, hn], q2⟩
   rw [← h1]
   exact (h.join hl hk hk2 ((h.iff hl hk hk2).2 (.inl ⟨by rw [h2, q1, hn], a, b, h3, q2, .inr hab⟩))).symm
 rw [partsL, comps_sub hsub hcl, comps, List.filter_map]
 congr 2
 refine List.filter_congr fun j hj => ?_
 simp only [Function.comp_apply]
 have hfj : First (gd (condB l) i) j := by simpa using (List.mem_filter.1 hj).2
 have hcc : compB (gd (condB l) i) (cel j) ∈ comps (gd (condB l) i) := List.mem_map.2 ⟨j, hj, rfl⟩
 obtain ⟨p, hp, e⟩ : ∃ p, p < (pcL l 4).length ∧ gd (pcL l 4) p = (gd [0, 1, 3, 5] i, compB (gd (condB l) i) (cel j)) := by
   have hm : ((gd [0, 1, 3, 5] i, compB (gd (condB l) i) (cel j)) : Int × List Bool) ∈ pcL l 4 := by
     rw [pcL, List.mem_flatten]
     exact ⟨_, List.mem_map.2 ⟨i, List.mem_range.2 hi, rfl⟩, List.mem_map.2 ⟨_, hcc, rfl⟩⟩
   obtain ⟨p, hp, e⟩ := List.getElem_of_mem hm
   exact ⟨p, hp, by rw [gd_eq hp, e]⟩
 have hself : On (gd (pcL l 4) p).2 (cel j) := by
   rw [e]; exact ⟨hfj.1.1, hfj.1.2.1, (comp_iff hfj.1.1 hfj.1.2.1).2 .refl⟩
 rw [← e, numH_pc hp, decide_eq_decide]
 constructor
 · intro hU
   obtain ⟨k, hk, h1, h2, h3⟩ := uniR_on.1 hU
   obtain ⟨m, hm⟩ := h.mem _ (gd_mem hk)
   obtain ⟨j2, g1, g2, g3, g4⟩ := hm.flat
   have hmi : m = i := lay_inj hm.hi hi (by rw [← hm.lay, h2, hn])
   have ej : j2 = p := piece_uniq g1 hp (by rw [g2, e, hmi]) (g3 _ h3) hself
   rw [← ej, ← g4]
   exact (h.cls hl hk hf).1 (by rw [h1, hr])
 · intro hnum
   obtain ⟨q, hq, q1, q2⟩ := h.cov i (cel j) hi hfj.1
   obtain ⟨k, hk, rfl⟩ := List.getElem_of_mem hq
   rw [← gd_eq hk] at q1 q2
   obtain ⟨m, hm⟩ := h.mem _ (gd_mem hk)
   obtain ⟨j2, g1, g2, g3, g4⟩ := hm.flat
   have hmi : m = i := lay_inj hm.hi hi (by rw [← hm.lay, q1])
   have ej : j2 = p := piece_uniq g1 hp (by rw [g2, e, hmi]) (g3 _ q2) hself
   refine uniR_on.2 ⟨k, hk, ?_, by rw [q1, hn], q2⟩
   rw [← hr]
   exact (h.cls hl hk hf).2 (by rw [g4, ej, hnum])
theorem PAll.none (h : PAll l E) {first n : Nat} (hn : ∀ i, i < 4 → (gd [0, 1, 3, 5] i : Int) ≠ n) (C : List Int) : partsL (bits (uniR E C first n)) = [] := by
 rw [partsL, comps_empty, List.map_nil]
 intro a ha
 obtain ⟨k, hk, -, h2, -⟩ := uniR_on.1 ha
 obtain ⟨m, hm⟩ := h.mem _ (gd_mem hk)
 exact hn m hm.hi (by rw [← hm.lay, h2])
/-- the pieces of a class are those of the net -/
theorem PAll.net (h : PAll l E) (hl : isLay l = true) {first : Nat} (hf : first < E.length) (hr : gd (clsH l E) first = (first : Int)) : ∃ m, m < netN l ∧ numH l (gd E first) = (m : Int) ∧ hPcs E (clsH l E) first = gd (netL l) m := by
 obtain ⟨i, hi⟩ := h.mem _ (gd_mem hf)
 obtain ⟨j, g1, g2, g3, g4⟩ := hi.flat
 have hm : numR (clsL l) j < netN l := numR_lt (clsL_rt l) (by rw [clsL_len]; exact g1) g1
 refine ⟨numR (clsL l) j, hm, g4, ?_⟩
 rw [netL_filter hm, ← g4]
 have n2 := h.none (first := first) (n := 2) (fun i hi => by rcases (by omega : i = 0 ∨ i = 1 ∨ i = 2 ∨ i = 3) with rfl | rfl | rfl | rfl <;> simp [gd]) (clsH l E)
 have n4 := h.none (first := first) (n := 4) (fun i hi => by rcases (by omega : i = 0 ∨ i = 1 ∨ i = 2 ∨ i = 3) with rfl | rfl | rfl | rfl <;> simp [gd]) (clsH l E)
 have n6 := h.none (first := first) (n := 6) (fun i hi => by rcases (by omega : i = 0 ∨ i = 1 ∨ i = 2 ∨ i = 3) with rfl | rfl | rfl | rfl <;> simp [gd]) (clsH l E)
 have n7 := h.none (first := first) (n := 7) (fun i hi => by rcases (by omega : i = 0 ∨ i = 1 ∨ i = 2 ∨ i = 3) with rfl | rfl | rfl | rfl <;> simp [gd]) (clsH l E)
 have u0 := h.uni hl hf hr (i := 0) (n := 0) (by omega) (by simp [gd])
 have u1 := h.uni hl hf hr (i := 1) (n := 1) (by omega) (by simp [gd])
 have u3 := h.uni hl hf hr (i := 2) (n := 3) (by omega) (by simp [gd])
 have u5 := h.uni hl hf hr (i := 3) (n := 5) (by omega) (by simp [gd])
 have e8 : ∀ f : Nat → List (Int × List Rect), (List.range 8).flatMap f = f 0 ++ (f 1 ++ (f 2 ++ (f 3 ++ (f 4 ++ (f 5 ++ (f 6 ++ f 7)))))) := fun f => by simp [List.range_succ]
 have e4 : pcL l 4 = ((comps (gd (condB l) 0)).map fun c => (gd [0, 1, 3, 5] 0, c)) ++ (((comps (gd (condB l) 1)).map fun c => (gd [0, 1, 3, 5] 1, c)) ++ (((comps (gd (condB l) 2)).map fun c => (gd [0, 1, 3, 5] 2, c)) ++ ((comps (gd (condB l) 3)).map fun c => (gd [0, 1, 3, 5] 3, c)))) := by
   rw [pcL]; simp [List.range_succ]
 have hg : ∀ i, i < 4 → ∀ n : Nat, (gd [0, 1, 3, 5] i : Int) = n → (((comps (gd (condB l) i)).filter fun c => decide (numH l (pcR (gd [0, 1, 3, 5] i, c)) = numH l (gd E first))).map canon).map (fun r => ((n : Int), r)) = ((((comps (gd (condB l) i)).map fun c => ((gd [0, 1, 3, 5] i : Int), c)).filter fun p => decide (numH l (pcR p) = numH l (gd E first))).map pcR) := fun i hi n hn => by
   rw [List.filter_map, List.map_map, List.map_map]
   refine List.map_congr_left fun c _ => ?_
   simp only [Function.comp_apply, pcR, hn]
 rw [hPcs, e8, n2, n4, n6, n7, u0, u1, u3, u5, e4, List.filter_append, List.filter_append, List.filter_append, List.map_append, List.map_append, List.map_append, hg 0 (by omega) 0 (by simp [gd]), hg 1 (by omega) 1 (by simp [gd]), hg 2 (by omega) 3 (by simp [gd]), hg 3 (by omega) 5 (by simp [gd])]
 simp
end
end Go.Proofs.YthhjapiggekjbaaGreat
namespace Go.Proofs.YthhjapiggekjbaaGreat
set_option linter.unusedVariables false
set_option linter.unusedSimpArgs false
open Go
set_option maxRecDepth 20000
set_option linter.unusedSimpArgs false
def cmpP (p q : Int × List Rect) : Int := if p.1 = q.1 then orI [cmpI (gd p.2 0).y0 (gd q.2 0).y0, cmpI (gd p.2 0).x0 (gd q.2 0).x0] else p.1 - q.1
theorem orI2 (a b : Int) : orI [a, b] = if a = 0 then b else a := by
 by_cases h : a = 0
 · subst h; by_cases h2 : b = 0
   · subst h2; rfl
   · simp [orI, h2]
 · simp [orI, h]
theorem cmpI_neg {a b : Int} : (cmpI a b < 0 ↔ a < b) ∧ (cmpI a b = 0 ↔ a = b) := by
 unfold cmpI; split
 · omega
 · split <;> omega
theorem cmpP_lt {p q : Int × List Rect} : cmpP p q < 0 ↔ p.1 < q.1 ∨ (p.1 = q.1 ∧ ((gd p.2 0).y0 < (gd q.2 0).y0 ∨ ((gd p.2 0).y0 = (gd q.2 0).y0 ∧ (gd p.2 0).x0 < (gd q.2 0).x0))) := by
 unfold cmpP
 have h1 := cmpI_neg (a := (gd p.2 0).y0) (b := (gd q.2 0).y0)
 have h2 := cmpI_neg (a := (gd p.2 0).x0) (b := (gd q.2 0).x0)
 by_cases h : p.1 = q.1
 · rw [if_pos h, orI2]
   by_cases c : cmpI (gd p.2 0).y0 (gd q.2 0).y0 = 0
   · rw [if_pos c]; have := h1.2.1 c; rw [h2.1]; omega
   · rw [if_neg c, h1.1]
     have : (gd p.2 0).y0 ≠ (gd q.2 0).y0 := fun e => c (h1.2.2 e)
     omega
 · rw [if_neg h]; omega
theorem comps_lt (S : List Bool) (n : Int) : ((comps S).map fun c => (n, c)).Pairwise fun p q => cmpP (pcR p) (pcR q) < 0 := by
 rw [comps, List.map_map, List.pairwise_map]
 refine ((firsts_sorted S 6400).imp_of_mem fun {a b} ha hb hab => ?_)
 have fa : First S a := by simpa using (List.mem_filter.1 ha).2
 have fb : First S b := by simpa using (List.mem_filter.1 hb).2
 have hb6 : b < 6400 := by have := (List.mem_filter.1 hb).1; simpa using this
 obtain ⟨-, y1, x1⟩ := canon_first fa
 obtain ⟨-, y2, x2⟩ := canon_first fb
 rw [cmpP_lt]
 right
 simp only [Function.comp_apply, pcR, y1, x1, y2, x2, true_and]
 omega
theorem lay_lt {i k : Nat} (h : i < k) (hk : k < 4) : (gd [0, 1, 3, 5] i : Int) < gd [0, 1, 3, 5] k := by
 rcases (by omega : k = 1 ∨ k = 2 ∨ k = 3) with rfl | rfl | rfl <;> rcases (by omega : i = 0 ∨ i = 1 ∨ i = 2) with rfl | rfl | rfl <;> first | omega | simp [gd]
theorem pcL_lt (l : List (List Rect)) : ∀ n, n ≤ 4 → (pcL l n).Pairwise fun p q => cmpP (pcR p) (pcR q) < 0
 | 0, _ => by simp [pcL]
 | n + 1, hn => by
   rw [pcL_succ, List.pairwise_append]
   refine ⟨pcL_lt l n (by omega), comps_lt _ _, fun p hp q hq => ?_⟩
   obtain ⟨i, hi, e⟩ := pcL_layer hp
   obtain ⟨c, hc, rfl⟩ := List.mem_map.1 hq
   rw [cmpP_lt]
   left
   simp only [pcR, e]
   exact lay_lt hi (by omega)
theorem pcL_lt_gd {l : List (List Rect)} {i j : Nat} (hij : i < j) (hj : j < (pcL l 4).length) : cmpP (pcR (gd (pcL l 4) i)) (pcR (gd (pcL l 4) j)) < 0 := by
 have := pcL_lt l 4 (Nat.le_refl _)
 rw [List.pairwise_iff_getElem] at this
 have h := this i j (by omega) hj hij
 rwa [← gd_eq (by omega), ← gd_eq hj] at h
theorem cmpP_asym {p q : Int × List Rect} (h : cmpP p q < 0) : ¬ cmpP q p < 0 := by
 rw [cmpP_lt] at *; omega
theorem cmpP_irr (p : Int × List Rect) : ¬ cmpP p p < 0 := by rw [cmpP_lt]; omega
theorem cmpP_tr {p q r : Int × List Rect} (h1 : cmpP p q < 0) (h2 : cmpP q r < 0) : cmpP p r < 0 := by rw [cmpP_lt] at *; omega
theorem cmpP_nt {p q r : Int × List Rect} (h1 : ¬ cmpP p q < 0) (h2 : ¬ cmpP q r < 0) : ¬ cmpP p r < 0 := by rw [cmpP_lt] at *; omega
/-- the first piece of a net is that of its root -/
theorem net_head {l : List (List Rect)} {m : Nat} (hm : m < netN l) : ∃ j, j < (pcL l 4).length ∧ gd (clsL l) j = (j : Int) ∧ cntR (clsL l) j = m ∧ 0 < (gd (netL l) m).length ∧ gd (gd (netL l) m) 0 = pcR (gd (pcL l 4) j) := by
 obtain ⟨k, hk, e⟩ : ∃ k, k < (pcL l 4).length ∧ numR (clsL l) k = m := by
   have key : ∀ n, n ≤ (pcL l 4).length → m < cntR (clsL l) n → ∃ k, k < n ∧ numR (clsL l) k = m := fun n => by
     induction n with
     | zero => intro _ h; simp [cntR] at h
     | succ n ih =>
       intro hn h
       rw [cntR_succ] at h
       by_cases hr : gd (clsL l) n = (n : Int)
       · rw [if_pos hr] at h
         by_cases e : m = cntR (clsL l) n
         · exact ⟨n, by omega, by rw [numR_root hr, e]⟩
         · obtain ⟨k, hk, e2⟩ := ih (by omega) (by omega)
           exact ⟨k, by omega, e2⟩
       · rw [if_neg hr] at h
         obtain ⟨k, hk, e2⟩ := ih (by omega) (by omega)
         exact ⟨k, by omega, e2⟩
   exact key _ (Nat.le_refl _) hm
 obtain ⟨h1, h2, h3⟩ := clsL_rt l k (by rw [clsL_len]; exact hk)
 have hj : (gd (clsL l) k).toNat < (pcL l 4).length := by omega
 have hr : gd (clsL l) (gd (clsL l) k).toNat = ((gd (clsL l) k).toNat : Int) := by rw [h3]; omega
 have hc : cntR (clsL l) (gd (clsL l) k).toNat = m := by rw [← e, numR]
 refine ⟨(gd (clsL l) k).toNat, hj, hr, hc, ?_⟩
 rw [netL_gd hm]
 have hnum : ∀ i, i < (pcL l 4).length → numR (clsL l) i = m → (gd (clsL l) k).toNat ≤ i := fun i hi hn => by
   have e2 := numR_inj (clsL_rt l) (a := i) (b := k) (by rw [clsL_len]; exact hi) (by rw [clsL_len]; exact hk) (by rw [hn, e])
   have := (clsL_rt l i (by rw [clsL_len]; exact hi)).2.1
   omega
 generalize (gd (clsL l) k).toNat = j at *
 have hsp : List.range (pcL l 4).length = List.range j ++ (j :: (List.range ((pcL l 4).length - j - 1)).map fun i => i + j + 1) := by
   have e1 : (pcL l 4).length = j + (1 + ((pcL l 4).length - j - 1)) := by omega
   conv => lhs; rw [e1]
   rw [List.range_add, List.range_add]
   simp only [List.range_one, List.map_append, List.map_cons, List.map_nil, List.map_map, Nat.add_zero, List.singleton_append]
   congr 2
   refine List.map_congr_left fun i _ => ?_
   simp only [Function.comp_apply]; omega
 have hf : ((List.range (pcL l 4).length).filter fun i => decide (numR (clsL l) i = m)) = j :: (((List.range ((pcL l 4).length - j - 1)).map fun i => i + j + 1).filter fun i => decide (numR (clsL l) i = m)) := by
   rw [hsp, List.filter_append, List.filter_cons, if_pos (by rw [decide_eq_true_eq, numR_root hr, hc])]
   have : (List.range j).filter (fun i => decide (numR (clsL l) i = m)) = [] := by
     rw [List.filter_eq_nil_iff]
     intro i hi
     have hi := List.mem_range.1 hi
     simp only [decide_eq_true_eq]
     intro hn
     have := hnum i (by omega) hn
     omega
   rw [this, List.nil_append]
 rw [hf]
 exact ⟨by simp, by simp [gd]⟩
theorem net_lt {l : List (List Rect)} {m n : Nat} (hm : m < netN l) (hn : n < netN l) : cmpP (gd (gd (netL l) m) 0) (gd (gd (netL l) n) 0) < 0 ↔ m < n := by
 obtain ⟨i, i1, i2, i3, -, i4⟩ := net_head hm
 obtain ⟨j, j1, j2, j3, -, j4⟩ := net_head hn
 rw [i4, j4]
 constructor
 · intro h
   rcases Nat.lt_trichotomy i j with c | c | c
   · have := cntR_mono (clsL l) (m := i + 1) (n := j) (by omega)
     rw [cntR_succ, if_pos i2] at this
     omega
   · subst c; exact absurd h (cmpP_irr _)
   · exact absurd h (cmpP_asym (pcL_lt_gd c i1))
 · intro h
   refine pcL_lt_gd ?_ j1
   rcases Nat.lt_or_ge i j with c | c
   · exact c
   · have := cntR_mono (clsL l) (m := j) (n := i) c
     omega
end Go.Proofs.YthhjapiggekjbaaGreat
namespace Go.Proofs.YthhjapiggekjbaaGreat
set_option linter.unusedVariables false
set_option linter.unusedSimpArgs false
open Go
theorem zeroCells_one (z : Value) (n : Nat) : (Builtin.zeroCells #[z] n).toList = List.replicate n z := by
 apply List.ext_getElem
 · simp [Builtin.zeroCells]
 · intro i h1 h2
   simp [Builtin.zeroCells, Nat.mod_one]
theorem flat_rep {α : Type} {F : FT α} {a : α} {z : Value} (h : F.enc a = [z]) : ∀ n, F.flat (List.replicate n a) = List.replicate n z
 | 0 => rfl
 | n + 1 => by
   have ih := flat_rep h n
   simp only [FT.flat] at ih ⊢
   rw [List.replicate_succ, List.flatMap_cons, ih, h, List.replicate_succ, List.singleton_append]
section
variable {P : Program} {n : Nat} {σ : Nat → Value} {G : Gh} {L : List Ch} {o : Oper} {t : TypeId} {x : Operand} {v : Value} {K : (Nat → Value) → Gh → List Ch → Prop}
theorem OT.clr {α : Type} {F : FT α} {e : TypeId} {bytes : Nat} {z : Value} {z0 : α} {zs : List α} {k : Nat} {L' : List Ch} (ho : o.op = .call { callee := .builtin .clear, args := #[x], argTypes := #[t] }) (hT : ElemT P t e F.sz bytes [z]) (hz : F.enc z0 = [z]) (hz1 : z.oneCell' = true)
   (hx : ev σ x = slv 1 v k zs.length) [hX : ExS v L α e F zs L'] (hk : k < zs.length) (K1 : K (updo σ o.dst (.tuple #[])) G (osl e F v (zs.take k ++ List.replicate (zs.length - k) z0) :: L')) : OT P n o σ G L K := by
 obtain ⟨hu1, i, zv, hi, hi1, hi2, hi3, hi4⟩ := hT
 have hsz : F.sz = 1 := by rw [← F.len z0, hz]; rfl
 refine OT.ofRun fun w hs => ?_
 have hb : ∃ b cap c, v = .slice (some ⟨b, 0, none⟩) zs.length cap ∧ wh w b = some (.cells c e (0, 0)) ∧ zs.length ≤ cap ∧ cap ≤ maxLen ∧ c.size = cap * F.sz ∧ c.toList.take (zs.length * F.sz) = F.flat zs := by
   obtain ⟨hp, s, l1, l2, d⟩ := hs
   obtain ⟨g1, g2, _, m1, _, cc, _⟩ := hX.ex.sep s
   rcases cc with ⟨_, rfl⟩ | ⟨b, cap, c, h1, h2, h3⟩
   · simp at hk
   · exact ⟨b, cap, c, h1, l2 _ _ (m1 _ _ h2), h3⟩
 obtain ⟨b, cap, c, rfl, hb, h3, h4, h5, h6⟩ := hb
 rw [hsz, Nat.mul_one] at h5 h6
 have hx' : ev σ x = .slice (some ⟨b, k, none⟩) (zs.length - k) (cap - k) := by
   rw [hx]; simp only [slv]; rw [if_neg (by omega)]; simp [add_none]
 have hone : ∀ u ∈ List.replicate (zs.length - k) z, u.oneCell' = true := fun u hu => by rw [List.eq_of_mem_replicate hu]; exact hz1
 obtain ⟨w', hr, hq, hw'⟩ := storeCells_run (P := P) (List.replicate (zs.length - k) z) b k 0 c e w hone hb (by simp; omega)
 have hzc : zv.cells = #[z] := by rw [← Array.toList_inj]; exact hi4
 have hfl : F.flat (zs.take k ++ List.replicate (zs.length - k) z0) = (F.flat zs).take k ++ List.replicate (zs.length - k) z := by
   have h1 : F.flat (zs.take k ++ List.replicate (zs.length - k) z0) = F.flat (zs.take k) ++ F.flat (List.replicate (zs.length - k) z0) := by simp [FT.flat]
   rw [h1, flat_rep hz, FT.flat_take, hsz, Nat.mul_one]
 have hlen : (zs.take k ++ List.replicate (zs.length - k) z0).length = zs.length := by simp; omega
 refine ⟨.tuple #[], G, _, w', ?_, hs.set hq hX.ex (b := b) (fun h hh => ?_) hw' (c' := osl e F (.slice (some ⟨b, 0, none⟩) zs.length cap) (zs.take k ++ List.replicate (zs.length - k) z0)) (fun h hh _ => ?_), K1⟩
 · have hn : zs.length - k ≠ 0 := by omega
   obtain ⟨m, hm⟩ : ∃ m, zs.length - k = m + 1 := ⟨zs.length - k - 1, by omega⟩
   have hrun : (Builtin.clear_ #[t] o.type #[.slice (some ⟨b, k, none⟩) (zs.length - k) (cap - k)]).run P w = .ok (.tuple #[]) w' := by
     rw [hm] at hr ⊢
     have hzr : (zeroValue e).run P w = .ok zv w := by simp [zeroValue, typeInfo, hi, hi3]
     simp [Builtin.clear_, run_underlying hu1, hzr, hzc, zeroCells_one, hr, Result.andThen]
   simp [execOp, ho, resolve, invoke, builtin, hx', hrun]
 · rcases hh with ⟨_, rfl⟩ | ⟨b', cap', c', h1, h2, _⟩
   · simp at hk
   · simp only [Value.slice.injEq, Option.some.injEq, Addr.mk.injEq] at h1
     obtain ⟨⟨rfl, _⟩, _⟩ := h1
     simp [h2]
 · refine .inr ⟨b, cap, (splice c.toList (k + 0) (List.replicate (zs.length - k) z)).toArray, by rw [hlen], by simp, by rw [hlen]; exact h3, h4, by rw [hsz, Nat.mul_one]; simp [splice_length, h5], ?_⟩
   rw [hlen, hsz, Nat.mul_one, hfl, Nat.add_zero]
   have hfn : (F.flat zs).length = zs.length := by rw [F.flat_len, hsz, Nat.mul_one]
   show List.take zs.length (splice c.toList k (List.replicate (zs.length - k) z)) = _
   rw [splice_take _ _ _ _ (by simp; omega) (by simp; omega), h6, splice_all _ _ _ (by simp; omega)]
theorem SlF.r0 {α : Type} {T : FT α} {v : Value} {xs : List α} (h : Rs G L T v xs) : SlF G L v xs.length := fun w hs => (h w hs).1
theorem El.r0 {α : Type} {T : FT α} {v : Value} {xs : List α} {i : Nat} {x : α} (h : Rs G L T v xs) (hi : xs[i]? = some x) : El G L T v i x := El.r (p := ⟨.refl L⟩) h hi
/-- an owned slice cut short -/
theorem Cv.cut {α : Type} {F : FT α} {e : TypeId} {zs : List α} {k : Nat} (hk : k ≤ zs.length) (h0 : 0 < zs.length) (hsz : F.sz = 1) : Cv (osl e F v zs :: L) (osl e F (slv 1 v 0 k) (zs.take k) :: L) := by
 rintro hp ⟨h1, h2, d, l1, l2, cc, s⟩
 refine ⟨h1, h2, d, l1, l2, ?_, s⟩
 rcases cc with ⟨_, rfl⟩ | ⟨b, cap, c, rfl, hb, h3, h4, h5, h6⟩
 · simp at h0
 · refine .inr ⟨b, cap, c, ?_, hb, by simp; omega, h4, h5, ?_⟩
   · simp only [slv]; rw [if_neg (by omega)]; simp [add_none, Nat.min_eq_left hk]
   · rw [FT.flat_take, ← h6, List.take_take, List.length_take, Nat.min_eq_left hk, hsz]
     congr 1; omega
end
end Go.Proofs.YthhjapiggekjbaaGreat
namespace Go.Proofs.YthhjapiggekjbaaGreat
set_option linter.unusedVariables false
set_option linter.unusedSimpArgs false
open Go
set_option maxRecDepth 20000
set_option linter.unusedSimpArgs false
variable {G : Gh} {L : List Ch} {R : Value → Gh → List Ch → Prop}
def cpt {α : Type} [Inhabited α] [DecidableEq α] (xs : List α) : Nat → List α
  | 0 => []
  | n + 1 => if n = 0 ∨ gd xs n ≠ gd xs (n - 1) then cpt xs n ++ [gd xs n] else cpt xs n
def compactL {α : Type} [Inhabited α] [DecidableEq α] (xs : List α) : List α := cpt xs xs.length
theorem cpt_take {α : Type} [Inhabited α] [DecidableEq α] {xs : List α} : ∀ {n : Nat}, n ≤ xs.length → (∀ j, 1 ≤ j → j < n → gd xs j ≠ gd xs (j - 1)) → cpt xs n = xs.take n
 | 0, _, _ => rfl
 | n + 1, h, hd => by
   rw [cpt, if_pos, cpt_take (by omega) (fun j h1 h2 => hd j h1 (by omega)), List.take_add_one, getG (by omega)]; · rfl
   by_cases c : n = 0
   · exact .inl c
   · exact .inr (hd n (by omega) (by omega))
theorem cpt_all {α : Type} [Inhabited α] [DecidableEq α] {xs : List α} (hd : ∀ j, 1 ≤ j → j < xs.length → gd xs j ≠ gd xs (j - 1)) : compactL xs = xs := by
 rw [compactL, cpt_take (Nat.le_refl _) hd, List.take_length]
theorem gd_part {α : Type} [Inhabited α] {ys : List α} {n m p : Nat} (h : n + p < m) : gd ((ys.take m).drop n) p = gd ys (n + p) := by
 unfold gd; rw [List.getElem?_drop, List.getElem?_take, if_pos h]
theorem compact_int {v : Value} {xs : List Int} (hl : xs.length ≤ 1000000) (k : ∀ v', R v' G (osl 2 intT v' (compactL xs) :: L)) : CallT Tryz.prog 72 #[v] G (osl 2 intT v xs :: L) R := by
 refine CallT.enter (args := _) Tryz.func72 rfl rfl (by kernel_rfl) rfl ?_
 refine WP.seq (WP.region (RG.pv rfl (PV.asg rfl rfl) (RG.nil (WP.seq (WP.seq (WP.region (RG.pv rfl (PV.move (v := v) rfl rfl) ?_)))))))
 refine RG.pv rfl (PV.len (v := v) rfl Tryz.underlying26 rfl SlF.o) (RG.pv rfl (PV.lss rfl rfl rfl) (RG.nil ?_))
 refine WP.cond rfl (fun h2 => ?_) (fun h2 => ?_)
 · have h2 := of_decide_eq_true h2
   have e : compactL xs = xs := cpt_all fun j h3 h4 => by omega
   rw [e] at k
   refine WP.seq (WP.region (RG.pv rfl (PV.move (v := v) rfl rfl) (RG.pv rfl (PV.asg (v := v) rfl rfl) (RG.nil ?_))))
   refine WP.ret ?_
   exact ⟨_, _, ResV.one rfl rfl, Cv.p, k v⟩
 · have h2 := of_decide_eq_false h2
   have hg : gd xs = gd xs := rfl
   refine WP.skip (WP.seq (WP.seq (WP.region (RG.mr rfl rfl rfl (RG.nil (WP.block ?_))))))
   refine WP.loop1 [0] (fun n => (1 ≤ n ∧ n ≤ xs.length) ∧ ∀ j, 1 ≤ j → j < n → gd xs j ≠ gd xs (j - 1)) (fun n => [(3, vi n)]) (fun n => osl 2 intT v xs :: L) (fun n => xs.length - n) 1 ⟨by omega, fun j h3 h4 => by omega⟩ ⟨rfl, trivial⟩ Cv.p ?_
   rintro n τ ⟨hn, hd⟩
   refine WP.seq (WP.seq (WP.region (RG.ml rfl rfl rfl (RG.pv rfl (PV.move (v := v) rfl rfl) (RG.pv rfl (PV.len (v := v) rfl Tryz.underlying26 rfl SlF.o) (RG.pv rfl (PV.lss rfl rfl rfl) (RG.nil ?_)))))))
   refine WP.cond rfl (fun h3 => ?_) (fun h3 => ?_)
   · have h3 := of_decide_eq_true h3
     refine WP.skip (WP.seq (WP.block (WP.seq ?_)))
     refine WP.regionQ (by kernel_rfl) (by kernel_rfl) ?_
     refine RQ.pv rfl (PV.move (v := v) rfl rfl) ?_
     refine RQ.pv rfl (PV.mvI (.inl rfl) rfl) ?_
     refine RQ.pv rfl (PV.idxS (j := n) (v := v) rfl Is26 rfl SlF.o rfl (by first | omega | (simp only [List.length_set]; omega)) (by first | omega | (simp only [List.length_set]; omega))) ?_
     refine RQ.pv rfl (PV.loadE1 rfl Sc2 rfl rfl (El.o (getG (by omega))) rfl) ?_
     refine RQ.pv rfl (PV.move (v := v) rfl rfl) ?_
     refine RQ.pv rfl (PV.mvI (.inl rfl) rfl) ?_
     refine RQ.pv rfl (PV.sub rfl rfl rfl (by omega)) ?_
     refine RQ.pv rfl (PV.idxS (j := n - 1) (v := v) rfl Is26 rfl SlF.o rfl (by first | omega | (simp only [List.length_set]; omega)) (by first | omega | (simp only [List.length_set]; omega))) ?_
     refine RQ.pv rfl (PV.loadE1 rfl Sc2 rfl rfl (El.o (getG (by omega))) rfl) ?_
     refine RQ.pv rfl (PV.eql rfl rfl rfl) ?_
     refine RQ.nil ?_
     refine WP.cond rfl (fun h4 => ?_) (fun h4 => ?_)
     · have h4 := of_decide_eq_true h4
       have h30 : n < xs.length := by omega
       have e0 : xs.take n = cpt xs (n + 1) := by
         rw [cpt, if_neg (by rintro (c | c) <;> first | omega | exact c h4), cpt_take (by omega) hd]
       refine WP.seq (WP.region (RG.pv rfl (PV.move (v := v) rfl rfl) (RG.ml rfl rfl rfl (RG.pv rfl (PV.slc (v := v) rfl Is26 rfl SlF.o (optAt.s rfl rfl) optAt.n (by omega) (by omega)) (RG.pv rfl (PV.asg rfl rfl) (RG.nil (WP.seq ?_)))))))
       refine WP.seq (WP.region (RG.mr rfl rfl rfl (RG.nil (WP.block ?_))))
       refine WP.loop3 [0, 4] (fun (p q : Nat) (ys : List Int) => (1 ≤ p ∧ p ≤ xs.length - n ∧ q + 1 ≤ n + p) ∧ ys.length = xs.length ∧ ys.take q = cpt xs (n + p) ∧ ∀ j, n + p ≤ j + 1 → gd ys j = gd xs j) (fun (p q : Nat) (ys : List Int) => [(5, vi p), (3, vi q)]) (fun (p q : Nat) (ys : List Int) => osl 2 intT v ys :: L) (fun (p q : Nat) (ys : List Int) => xs.length - p) 1 n xs ⟨by omega, rfl, e0, fun j _ => rfl⟩ ⟨rfl, rfl, trivial⟩ Cv.p ?_
       rintro p q ys τ1 ⟨hp, hyl, hyt, hyr⟩
       refine WP.seq (WP.seq (WP.region (RG.ml rfl rfl rfl (RG.pv rfl (PV.move rfl rfl) (RG.pv rfl (PV.len rfl Tryz.underlying26 rfl (SlF.r0 (Rs.slv (F := intT) Rs.o (by omega) (by omega)))) (RG.pv rfl (PV.lss rfl rfl rfl) (RG.nil ?_)))))))
       have hpl : (List.drop n (List.take xs.length ys)).length = xs.length - n := by simp; omega
       refine WP.cond rfl (fun h5 => ?_) (fun h5 => ?_)
       · have h5 := of_decide_eq_true h5
         have h50 : n + p < xs.length := by omega
         have g1 : gd (List.drop n (List.take xs.length ys)) p = gd xs (n + p) := by rw [gd_part h50]; exact hyr _ (by omega)
         have g2 : gd (List.drop n (List.take xs.length ys)) (p - 1) = gd xs (n + p - 1) := by rw [gd_part (by omega), show n + (p - 1) = n + p - 1 by omega]; exact hyr _ (by omega)
         refine WP.skip (WP.seq (WP.block (WP.seq ?_)))
         refine WP.regionQ (by kernel_rfl) (by kernel_rfl) ?_
         refine RQ.pv rfl (PV.move rfl rfl) ?_
         refine RQ.pv rfl (PV.mvI (.inl rfl) rfl) ?_
         refine RQ.pv rfl (PV.idxS (j := p) rfl Is26 rfl (SlF.r0 (Rs.slv (F := intT) Rs.o (by omega) (by omega))) rfl (by first | omega | (simp only [List.length_set]; omega)) (by first | omega | (simp only [List.length_set]; omega))) ?_
         refine RQ.pv rfl (PV.loadE1 rfl Sc2 rfl rfl (El.r0 (Rs.slv (F := intT) Rs.o (by omega) (by omega)) (getG (by omega))) rfl) ?_
         refine RQ.pv rfl (PV.move rfl rfl) ?_
         refine RQ.pv rfl (PV.mvI (.inl rfl) rfl) ?_
         refine RQ.pv rfl (PV.sub rfl rfl rfl (by omega)) ?_
         refine RQ.pv rfl (PV.idxS (j := p - 1) rfl Is26 rfl (SlF.r0 (Rs.slv (F := intT) Rs.o (by omega) (by omega))) rfl (by first | omega | (simp only [List.length_set]; omega)) (by first | omega | (simp only [List.length_set]; omega))) ?_
         refine RQ.pv rfl (PV.loadE1 rfl Sc2 rfl rfl (El.r0 (Rs.slv (F := intT) Rs.o (by omega) (by omega)) (getG (by omega))) rfl) ?_
         refine RQ.pv rfl (PV.neq rfl rfl rfl) ?_
         refine RQ.nil ?_
         rw [g1, g2]
         refine WP.cond rfl (fun h6 => ?_) (fun h6 => ?_)
         · have h6 : ¬ gd xs (n + p) = gd xs (n + p - 1) := by simpa using h6
           have e1 : (ys.set q (gd xs (n + p))).take (q + 1) = cpt xs (n + (p + 1)) := by
             rw [show n + (p + 1) = (n + p) + 1 by omega, cpt, if_pos (.inr h6), ← hyt, List.take_add_one, List.take_set_of_le (Nat.le_refl _)]
             congr 1
             simp [show q < ys.length by omega]
           have e2 : ∀ j, n + (p + 1) ≤ j + 1 → gd (ys.set q (gd xs (n + p))) j = gd xs j := fun j hj => by
             rw [← hyr j (by omega)]; unfold gd; rw [List.getElem?_set_ne (by omega)]
           refine WP.seq (WP.region (RG.pv rfl (PV.move (v := v) rfl rfl) (RG.ml rfl rfl rfl (RG.pv rfl (PV.move rfl rfl) (RG.ml rfl rfl rfl (RG.pv rfl (PV.idxS (j := p) rfl Is26 rfl (SlF.r0 (Rs.slv (F := intT) Rs.o (by omega) (by omega))) rfl (by first | omega | (simp only [List.length_set]; omega)) (by first | omega | (simp only [List.length_set]; omega))) (RG.pv rfl (PV.loadE1 rfl Sc2 rfl rfl (El.r0 (Rs.slv (F := intT) Rs.o (by omega) (by omega)) (getG (by omega))) rfl) ?_)))))))
           refine RG.pv rfl (PV.idxS (j := q) (v := v) rfl Is26 rfl SlF.o rfl (by first | omega | (simp only [List.length_set]; omega)) (by first | omega | (simp only [List.length_set]; omega))) ?_
           refine RG.ot rfl (OT.storeE (F := intT) rfl Sz2 rfl rfl rfl (Cl.c rfl) (OneC.c rfl) (by first | omega | (simp only [List.length_set]; omega)) ?_)
           refine RG.nil (WP.region (RG.ml rfl rfl rfl (RG.pv rfl (PV.add rfl rfl rfl (by omega)) (RG.mr rfl rfl rfl (RG.nil (WP.region (RG.ml rfl rfl rfl ?_)))))))
           refine RG.pv rfl (PV.add rfl rfl rfl (by omega)) (RG.mr rfl rfl rfl (RG.nil ?_))
           exact ⟨rfl, p + 1, q + 1, (ys.set q (gd xs (n + p))), ⟨by omega, by simpa using hyl, e1, e2⟩, ⟨rfl, rfl, trivial⟩, ⟨rfl, rfl, trivial⟩, (Cv.eqS (by rw [g1])), by omega⟩
         · have h6 : gd xs (n + p) = gd xs (n + p - 1) := by simpa using h6
           have e1 : ys.take q = cpt xs (n + (p + 1)) := by
             rw [show n + (p + 1) = (n + p) + 1 by omega, cpt, if_neg (by rintro (c | c) <;> first | omega | exact c h6), ← hyt]
           refine WP.skip (WP.region (RG.ml rfl rfl rfl (RG.pv rfl (PV.add rfl rfl rfl (by omega)) (RG.mr rfl rfl rfl (RG.nil ?_)))))
           exact ⟨rfl, p + 1, q, ys, ⟨by omega, hyl, e1, fun j hj => hyr j (by omega)⟩, ⟨rfl, rfl, trivial⟩, ⟨rfl, rfl, trivial⟩, Cv.p, by omega⟩
       · have h5 := of_decide_eq_false h5
         have hcl : (List.take q ys ++ List.replicate (ys.length - q) (0 : Int)).length = ys.length := by simp; omega
         have e2 : (List.take q ys ++ List.replicate (ys.length - q) (0 : Int)).take q = compactL xs := by
           rw [List.take_append_of_le_length (by simp; omega), List.take_take, Nat.min_self, hyt, compactL]; congr 1; omega
         refine WP.exit ?_
         refine WP.seq (WP.region (RG.pv rfl (PV.move (v := v) rfl rfl) (RG.ml rfl rfl rfl (RG.pv rfl (PV.slc (v := v) rfl Is26 rfl SlF.o (optAt.s rfl rfl) optAt.n (by omega) (by omega)) ?_))))
         refine RG.ot rfl (OT.clr rfl El26 rfl rfl rfl (by omega) ?_)
         refine RG.nil (WP.seq (WP.region (RG.pv rfl (PV.move (v := v) rfl rfl) (RG.ml rfl rfl rfl (RG.pv rfl (PV.slc (v := v) rfl Is26 rfl SlF.o optAt.n (optAt.s rfl rfl) (by omega) (by omega)) (RG.pv rfl (PV.asg rfl rfl) (RG.nil ?_)))))))
         refine WP.ret ?_
         exact ⟨_, _, ResV.one rfl rfl, ((Cv.p (C := osl 2 intT v (List.take q ys ++ List.replicate (ys.length - q) (0 : Int)) :: L)).trans ((Cv.cut (k := q) (by omega) (by omega) rfl).trans (Cv.eqS e2))), k (slv 1 v 0 q)⟩
     · have h4 := of_decide_eq_false h4
       have hd' : ∀ j, 1 ≤ j → j < n + 1 → gd xs j ≠ gd xs (j - 1) := fun j h5 h6 => by
         by_cases c : j = n
         · rw [c]; exact h4
         · exact hd j h5 (by omega)
       refine WP.skip (WP.region (RG.ml rfl rfl rfl (RG.pv rfl (PV.add rfl rfl rfl (by omega)) (RG.mr rfl rfl rfl (RG.nil ?_)))))
       exact ⟨rfl, n + 1, ⟨by omega, hd'⟩, ⟨rfl, trivial⟩, ⟨rfl, trivial⟩, Cv.p, by omega⟩
   · have h3 := of_decide_eq_false h3
     have e : compactL xs = xs := cpt_all fun j h5 h6 => hd j h5 (by omega)
     rw [e] at k
     refine WP.exit ?_
     refine WP.seq (WP.region (RG.pv rfl (PV.move (v := v) rfl rfl) (RG.pv rfl (PV.asg (v := v) rfl rfl) (RG.nil ?_))))
     refine WP.ret ?_
     exact ⟨_, _, ResV.one rfl rfl, Cv.p, k v⟩
end Go.Proofs.YthhjapiggekjbaaGreat
