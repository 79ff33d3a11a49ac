/-
  The law FnHierNets: whatever the code, the law returns true and the code reads as before.
-/
import Derived.Test.YthhjapiggekjbaaGreatUA6
import Derived.Test.YthhjapiggekjbaaGreatRows
namespace Go.Proofs.YthhjapiggekjbaaGreat
set_option linter.unusedVariables false
set_option linter.unusedSimpArgs false
open Go
set_option maxRecDepth 20000
set_option maxHeartbeats 1000000
set_option linter.unusedSimpArgs false
variable {G : Gh} {L : List Ch} {R : Value → Gh → List Ch → Prop}
theorem dShapes_s {b : Nat} {cv : Value} {bs : List UInt8} {most : Int} (hcode : SL G byteT cv bs) (hm : 0 ≤ most ∧ most ≤ 100) (k : ∀ v ss, ss.length ≤ 100 → R v G (osl 142 shapeT v ss :: src b cv :: L)) : CallT Tryz.prog 129 #[.pointer (some ⟨b, 0, none⟩), vi most] G (src b cv :: L) R := by
 have hl8 : ([0, 1, 2, 3, 3, 4, 5, (3 : Int)] : List Int).length = 8 := rfl
 refine CallT.enter (args := _) Tryz.func129 rfl rfl (by kernel_rfl) rfl ?_
 refine WP.seq (WP.region (RG.pv rfl (PV.asg rfl rfl) (RG.nil (WP.seq (WP.region ?_)))))
 refine RG.ot rfl (OT.bslice (F := shapeT) (els := []) rfl El83 rfl (by decide) rfl (by decide) trivial fun v10 => ?_)
 refine RG.pv rfl (PV.asg (v := v10) rfl rfl) (RG.nil (WP.seq (WP.seq (WP.region (RG.pv rfl (PV.move rfl rfl) (RG.ml rfl rfl rfl (RG.pv rfl (PV.add rfl rfl rfl (by omega)) ?_)))))))
 refine RG.callF (vs := [_, _]) rfl rfl En80 rfl (CallT.exC (src b cv) (next_s hcode (by omega) (fun w14 hw14 => ?_)))
 refine RG.mr rfl rfl rfl (RG.nil (WP.block ?_))
 refine WP.loop3 [0] (fun (c : Int) (ss : List Shape) (q : Value) => 0 ≤ c ∧ c ≤ 100 ∧ (ss.length : Int) + c ≤ 100) (fun (c : Int) (ss : List Shape) (q : Value) => [(6, vi c), (5, q)]) (fun (c : Int) (ss : List Shape) (q : Value) => osl 142 shapeT q ss :: src b cv :: L) (fun (c : Int) (ss : List Shape) (q : Value) => c.toNat) w14 [] v10 ⟨by omega, by omega, by simp; omega⟩ ⟨rfl, rfl, trivial⟩ Cv.p ?_
 rintro c ss q τ ⟨h0, h1, h3⟩
 refine WP.seq (WP.seq (WP.region (RG.ml rfl rfl rfl (RG.pv rfl (PV.gtr rfl rfl rfl) (RG.nil ?_)))))
 refine WP.cond rfl (fun h2 => ?_) (fun h2 => ?_)
 · have h2 := of_decide_eq_true h2
   refine WP.skip (WP.seq (WP.block (WP.seq (WP.region ?_))))
   refine RG.ot rfl (OT.bslice (F := intT) (els := [_, _, _, _, _, _, _, _]) rfl El26 rfl (by decide) rfl (by decide) ⟨rfl, (Cl.c rfl), ⟨rfl, (Cl.c rfl), ⟨rfl, (Cl.c rfl), ⟨rfl, (Cl.c rfl), ⟨rfl, (Cl.c rfl), ⟨rfl, (Cl.c rfl), ⟨rfl, (Cl.c rfl), ⟨rfl, (Cl.c rfl), trivial⟩⟩⟩⟩⟩⟩⟩⟩ fun v19 => ?_)
   refine RG.pv rfl (PV.move rfl rfl) ?_
   refine RG.callF (vs := [_, _]) rfl rfl En80 rfl (CallT.exC (src b cv) (next_s hcode (by omega) (fun w21 hw21 => ?_)))
   refine RG.pv rfl (PV.idxS (j := w21.toNat) (v := v19) rfl Is26 rfl SlF.o rfl (by omega) (by omega)) (RG.pv rfl (PV.loadE1 rfl Sc2 rfl rfl (El.o (getG (by omega))) rfl) (RG.mr rfl rfl rfl (RG.nil (WP.seq (WP.region (RG.mr rfl rfl rfl (RG.nil ?_)))))))
   refine WP.seq (WP.seq (WP.region (RG.ml rfl rfl rfl (RG.pv rfl (PV.eql rfl rfl rfl) (RG.bl rfl rfl rfl ?_)))))
   refine RG.gs rfl rfl rfl (fun hp => (PV.mvI (.inl rfl) rfl)) ?_
   refine RG.gs rfl rfl rfl (fun hp => (PV.eql rfl (gs_t hp) rfl)) ?_
   refine RG.pv rfl (PV.pickO rfl rfl rfl (fun hq => gs_t (geqF hq))) (RG.nil ?_)
   refine WP.cond rfl (fun h4 => ?_) (fun h4 => ?_)
   · skip
     refine WP.region (RG.mr rfl rfl rfl (RG.nil (WP.seq (WP.region (RG.pv rfl (PV.move rfl rfl) ?_)))))
     refine RG.callF (vs := [_, _]) rfl rfl En80 rfl (CallT.exC (src b cv) (next_s hcode (by omega) (fun w31 hw31 => ?_)))
     refine RG.pv rfl (PV.sub rfl rfl rfl (by omega)) (RG.pv rfl (PV.move rfl rfl) ?_)
     refine RG.callF (vs := [_, _]) rfl rfl En80 rfl (CallT.exC (src b cv) (next_s hcode (by omega) (fun w34 hw34 => ?_)))
     refine RG.pv rfl (PV.sub rfl rfl rfl (by omega)) (RG.pv rfl (PV.build (vs := [(0, [vi _]), (1, [vi _])]) (out := [_, _, _, _]) rfl Zr140 Pl140 ⟨rfl, (Cl.c rfl), ⟨rfl, (Cl.c rfl), trivial⟩⟩ rfl) ?_)
     refine RG.ot rfl (OT.alloc rfl Zr140 fun b9 => ?_)
     refine RG.ot rfl (OT.storeW (vs := [vi _, vi _, vi _, vi _]) rfl Sz140 rfl rfl (Cl.c rfl) rfl rfl (OneC.c rfl) ?_)
     refine RG.nil ?_
     refine WP.cut1 [0, 5, 6, 7, 8, 9] (fun (x1 : Int) => -5 ≤ x1 ∧ x1 ≤ 10) (fun (x1 : Int) => []) (fun (x1 : Int) => blk b9 140 [vi (w31 - 5), vi (w34 - 5), vi x1, vi 0] :: osl 142 shapeT q ss :: src b cv :: L) ?_ ?_
     refine WP.regionHD [.b b9] (.q 0 (.q 3 (.q 4 (.b 1 (.q 2 (.l 5 (.q 6 (.q 7 (.l 8 Sch.nil))))) 5 (.l 1 (.q 2 (.q 6 (.q 7 (.l 8 Sch.nil))))))))) (by kernel_rfl) (by kernel_rfl) (by kernel_rfl) rfl ?_
     refine RH.pv rfl (fun _ _ _ _ h => h) (Gh.le_refl _) PickC.pick rfl (PV.field rfl Fo140_0 rfl) ?_
     refine RH.pv rfl (fun _ _ _ _ h => h) (Gh.le_refl _) PickC.pick rfl (PV.move rfl rfl) ?_
     refine RH.pv rfl (fun _ _ _ _ h => h) (Gh.le_refl _) PickC.pick rfl (PV.mvI (.inl rfl) rfl) ?_
     · refine RH.ot2 rfl rfl rfl rfl  (OT.pv (PV.load1 rfl Sc2 rfl (Rd.blk rfl)) ⟨Gh.le_refl _, PickC.pick, ?_⟩) (OT.callF (vs := [_, _]) rfl En80 rfl (CallT.exC (src b cv) (next_s hcode (by omega) (fun w42 hw42 => ⟨Gh.le_refl _, PickC.pick, ?_⟩))))
       · refine RH.pv rfl (fun _ _ _ _ h => h) (Gh.le_refl _) PickC.pick rfl (PV.add rfl rfl rfl (by omega)) ?_
         refine RH.ot rfl rfl (OT.callF (vs := [_, _]) rfl En80 rfl (CallT.exC (src b cv) (next_s hcode (by omega) (fun w42 hw42 => ⟨Gh.le_refl _, PickC.pick, ?_⟩))))
         refine RH.pv rfl (fun _ _ _ _ h => h) (Gh.le_refl _) PickC.pick rfl (PV.add rfl rfl rfl (by omega)) ?_
         refine RH.pv rfl (fun _ _ _ _ h => h) (Gh.le_refl _) PickC.pick rfl (PV.field rfl Fo140_2 rfl) ?_
         refine RH.ot rfl rfl (OT.storeB (vs := [vi _]) (cs' := [_, _, _, _]) rfl Sz2 rfl rfl (Cl.c rfl) rfl (OneC.c rfl) rfl rfl ⟨Gh.le_refl _, PickC.pick, ?_⟩)
         refine RH.nil ?_
         exact ⟨rfl, (w31 - 5 + 1 + w42), ⟨by omega, by omega⟩, trivial, ⟨rfl, rfl, rfl, rfl, rfl, rfl, trivial⟩, Cv.p⟩
       · refine RH.ot rfl rfl (OT.pv (PV.load1 rfl Sc2 rfl (Rd.blk rfl)) ⟨Gh.le_refl _, PickC.pick, ?_⟩)
         refine RH.pv rfl (fun _ _ _ _ h => h) (Gh.le_refl _) PickC.pick rfl (PV.add rfl rfl rfl (by omega)) ?_
         refine RH.pv rfl (fun _ _ _ _ h => h) (Gh.le_refl _) PickC.pick rfl (PV.add rfl rfl rfl (by omega)) ?_
         refine RH.pv rfl (fun _ _ _ _ h => h) (Gh.le_refl _) PickC.pick rfl (PV.field rfl Fo140_2 rfl) ?_
         refine RH.ot rfl rfl (OT.storeB (vs := [vi _]) (cs' := [_, _, _, _]) rfl Sz2 rfl rfl (Cl.c rfl) rfl (OneC.c rfl) rfl rfl ⟨Gh.le_refl _, PickC.pick, ?_⟩)
         refine RH.nil ?_
         exact ⟨rfl, (w31 - 5 + 1 + w42), ⟨by omega, by omega⟩, trivial, ⟨rfl, rfl, rfl, rfl, rfl, rfl, trivial⟩, Cv.p⟩
     rintro x1 τ2 hx1
     refine WP.cut1 [0, 5, 6, 7, 9] (fun (y1 : Int) => -5 ≤ y1 ∧ y1 ≤ 10) (fun (y1 : Int) => []) (fun (y1 : Int) => blk b9 140 (rectT.enc ⟨w31 - 5, w34 - 5, x1, y1⟩) :: osl 142 shapeT q ss :: src b cv :: L) ?_ ?_
     refine WP.regionHD [.b b9] (.q 0 (.q 3 (.q 4 (.b 1 (.q 2 (.l 5 (.q 6 (.q 7 (.l 8 Sch.nil))))) 5 (.l 1 (.q 2 (.q 6 (.q 7 (.l 8 Sch.nil))))))))) (by kernel_rfl) (by kernel_rfl) (by kernel_rfl) rfl ?_
     refine RH.pv rfl (fun _ _ _ _ h => h) (Gh.le_refl _) PickC.pick rfl (PV.field rfl Fo140_1 rfl) ?_
     refine RH.pv rfl (fun _ _ _ _ h => h) (Gh.le_refl _) PickC.pick rfl (PV.move rfl rfl) ?_
     refine RH.pv rfl (fun _ _ _ _ h => h) (Gh.le_refl _) PickC.pick rfl (PV.mvI (.inl rfl) rfl) ?_
     · refine RH.ot2 rfl rfl rfl rfl  (OT.pv (PV.load1 rfl Sc2 rfl (Rd.blk rfl)) ⟨Gh.le_refl _, PickC.pick, ?_⟩) (OT.callF (vs := [_, _]) rfl En80 rfl (CallT.exC (src b cv) (next_s hcode (by omega) (fun w50 hw50 => ⟨Gh.le_refl _, PickC.pick, ?_⟩))))
       · refine RH.pv rfl (fun _ _ _ _ h => h) (Gh.le_refl _) PickC.pick rfl (PV.add rfl rfl rfl (by omega)) ?_
         refine RH.ot rfl rfl (OT.callF (vs := [_, _]) rfl En80 rfl (CallT.exC (src b cv) (next_s hcode (by omega) (fun w50 hw50 => ⟨Gh.le_refl _, PickC.pick, ?_⟩))))
         refine RH.pv rfl (fun _ _ _ _ h => h) (Gh.le_refl _) PickC.pick rfl (PV.add rfl rfl rfl (by omega)) ?_
         refine RH.pv rfl (fun _ _ _ _ h => h) (Gh.le_refl _) PickC.pick rfl (PV.field rfl Fo140_3 rfl) ?_
         refine RH.ot rfl rfl (OT.storeB (vs := [vi _]) (cs' := [_, _, _, _]) rfl Sz2 rfl rfl (Cl.c rfl) rfl (OneC.c rfl) rfl rfl ⟨Gh.le_refl _, PickC.pick, ?_⟩)
         refine RH.nil ?_
         exact ⟨rfl, (w34 - 5 + 1 + w50), ⟨by omega, by omega⟩, trivial, ⟨rfl, rfl, rfl, rfl, rfl, trivial⟩, Cv.p⟩
       · refine RH.ot rfl rfl (OT.pv (PV.load1 rfl Sc2 rfl (Rd.blk rfl)) ⟨Gh.le_refl _, PickC.pick, ?_⟩)
         refine RH.pv rfl (fun _ _ _ _ h => h) (Gh.le_refl _) PickC.pick rfl (PV.add rfl rfl rfl (by omega)) ?_
         refine RH.pv rfl (fun _ _ _ _ h => h) (Gh.le_refl _) PickC.pick rfl (PV.add rfl rfl rfl (by omega)) ?_
         refine RH.pv rfl (fun _ _ _ _ h => h) (Gh.le_refl _) PickC.pick rfl (PV.field rfl Fo140_3 rfl) ?_
         refine RH.ot rfl rfl (OT.storeB (vs := [vi _]) (cs' := [_, _, _, _]) rfl Sz2 rfl rfl (Cl.c rfl) rfl (OneC.c rfl) rfl rfl ⟨Gh.le_refl _, PickC.pick, ?_⟩)
         refine RH.nil ?_
         exact ⟨rfl, (w34 - 5 + 1 + w50), ⟨by omega, by omega⟩, trivial, ⟨rfl, rfl, rfl, rfl, rfl, trivial⟩, Cv.p⟩
     rintro y1 τ3 hy1
     refine WP.region (RG.pv rfl (PV.move (v := q) rfl rfl) (RG.ml rfl rfl rfl (RG.pv rfl (PV.loadW rfl Ag140 rfl rfl) (RG.pv rfl (PV.build (vs := [(0, [vi _]), (1, [vi _, vi _, vi _, vi _])]) (out := [_, _, _, _, _]) rfl Zr142 Pl142 ⟨rfl, (Cl.c rfl), ⟨rfl, (Cl.c rfl), trivial⟩⟩ rfl) ?_))))
     refine RG.ot rfl (OT.bslice (F := shapeT) (els := [⟨gd [0, 1, 2, 3, 3, 4, 5, (3 : Int)] w21.toNat, ⟨w31 - 5, w34 - 5, x1, y1⟩⟩]) rfl El83 rfl (by decide) rfl (by decide) ⟨rfl, (Cl.c rfl), trivial⟩ fun v57 => ?_)
     refine RG.ot rfl (OT.append (v := q) (u := v57) (F := shapeT) rfl El83 rfl (by decide) rfl rfl Rs.o (OneL.c (fun _ => rfl)) rfl (by first | omega | (simp <;> omega)) fun v58 => ?_)
     refine RG.pv rfl (PV.asg (v := v58) rfl rfl) (RG.nil (WP.region (RG.ml rfl rfl rfl (RG.pv rfl (PV.sub rfl rfl rfl (by omega)) (RG.mr rfl rfl rfl (RG.nil ?_))))))
     exact ⟨rfl, c - 1, (ss ++ [⟨gd [0, 1, 2, 3, 3, 4, 5, (3 : Int)] w21.toNat, ⟨w31 - 5, w34 - 5, x1, y1⟩⟩]), v58, ⟨by omega, by omega, by rw [List.length_append]; simp; omega⟩, ⟨rfl, rfl, trivial⟩, ⟨rfl, trivial⟩, Cv.p, by omega⟩
   · skip
     refine WP.skip (WP.seq (WP.region (RG.pv rfl (PV.move rfl rfl) ?_)))
     refine RG.callF (vs := [_, _]) rfl rfl En80 rfl (CallT.exC (src b cv) (next_s hcode (by omega) (fun w31 hw31 => ?_)))
     refine RG.pv rfl (PV.sub rfl rfl rfl (by omega)) (RG.pv rfl (PV.move rfl rfl) ?_)
     refine RG.callF (vs := [_, _]) rfl rfl En80 rfl (CallT.exC (src b cv) (next_s hcode (by omega) (fun w34 hw34 => ?_)))
     refine RG.pv rfl (PV.sub rfl rfl rfl (by omega)) (RG.pv rfl (PV.build (vs := [(0, [vi _]), (1, [vi _])]) (out := [_, _, _, _]) rfl Zr140 Pl140 ⟨rfl, (Cl.c rfl), ⟨rfl, (Cl.c rfl), trivial⟩⟩ rfl) ?_)
     refine RG.ot rfl (OT.alloc rfl Zr140 fun b9 => ?_)
     refine RG.ot rfl (OT.storeW (vs := [vi _, vi _, vi _, vi _]) rfl Sz140 rfl rfl (Cl.c rfl) rfl rfl (OneC.c rfl) ?_)
     refine RG.nil ?_
     refine WP.cut1 [0, 5, 6, 7, 8, 9] (fun (x1 : Int) => -5 ≤ x1 ∧ x1 ≤ 10) (fun (x1 : Int) => []) (fun (x1 : Int) => blk b9 140 [vi (w31 - 5), vi (w34 - 5), vi x1, vi 0] :: osl 142 shapeT q ss :: src b cv :: L) ?_ ?_
     refine WP.regionHD [.b b9] (.q 0 (.q 3 (.q 4 (.b 1 (.q 2 (.l 5 (.q 6 (.q 7 (.l 8 Sch.nil))))) 5 (.l 1 (.q 2 (.q 6 (.q 7 (.l 8 Sch.nil))))))))) (by kernel_rfl) (by kernel_rfl) (by kernel_rfl) rfl ?_
     refine RH.pv rfl (fun _ _ _ _ h => h) (Gh.le_refl _) PickC.pick rfl (PV.field rfl Fo140_0 rfl) ?_
     refine RH.pv rfl (fun _ _ _ _ h => h) (Gh.le_refl _) PickC.pick rfl (PV.move rfl rfl) ?_
     refine RH.pv rfl (fun _ _ _ _ h => h) (Gh.le_refl _) PickC.pick rfl (PV.mvI (.inl rfl) rfl) ?_
     · refine RH.ot2 rfl rfl rfl rfl  (OT.pv (PV.load1 rfl Sc2 rfl (Rd.blk rfl)) ⟨Gh.le_refl _, PickC.pick, ?_⟩) (OT.callF (vs := [_, _]) rfl En80 rfl (CallT.exC (src b cv) (next_s hcode (by omega) (fun w42 hw42 => ⟨Gh.le_refl _, PickC.pick, ?_⟩))))
       · refine RH.pv rfl (fun _ _ _ _ h => h) (Gh.le_refl _) PickC.pick rfl (PV.add rfl rfl rfl (by omega)) ?_
         refine RH.ot rfl rfl (OT.callF (vs := [_, _]) rfl En80 rfl (CallT.exC (src b cv) (next_s hcode (by omega) (fun w42 hw42 => ⟨Gh.le_refl _, PickC.pick, ?_⟩))))
         refine RH.pv rfl (fun _ _ _ _ h => h) (Gh.le_refl _) PickC.pick rfl (PV.add rfl rfl rfl (by omega)) ?_
         refine RH.pv rfl (fun _ _ _ _ h => h) (Gh.le_refl _) PickC.pick rfl (PV.field rfl Fo140_2 rfl) ?_
         refine RH.ot rfl rfl (OT.storeB (vs := [vi _]) (cs' := [_, _, _, _]) rfl Sz2 rfl rfl (Cl.c rfl) rfl (OneC.c rfl) rfl rfl ⟨Gh.le_refl _, PickC.pick, ?_⟩)
         refine RH.nil ?_
         exact ⟨rfl, (w31 - 5 + 1 + w42), ⟨by omega, by omega⟩, trivial, ⟨rfl, rfl, rfl, rfl, rfl, rfl, trivial⟩, Cv.p⟩
       · refine RH.ot rfl rfl (OT.pv (PV.load1 rfl Sc2 rfl (Rd.blk rfl)) ⟨Gh.le_refl _, PickC.pick, ?_⟩)
         refine RH.pv rfl (fun _ _ _ _ h => h) (Gh.le_refl _) PickC.pick rfl (PV.add rfl rfl rfl (by omega)) ?_
         refine RH.pv rfl (fun _ _ _ _ h => h) (Gh.le_refl _) PickC.pick rfl (PV.add rfl rfl rfl (by omega)) ?_
         refine RH.pv rfl (fun _ _ _ _ h => h) (Gh.le_refl _) PickC.pick rfl (PV.field rfl Fo140_2 rfl) ?_
         refine RH.ot rfl rfl (OT.storeB (vs := [vi _]) (cs' := [_, _, _, _]) rfl Sz2 rfl rfl (Cl.c rfl) rfl (OneC.c rfl) rfl rfl ⟨Gh.le_refl _, PickC.pick, ?_⟩)
         refine RH.nil ?_
         exact ⟨rfl, (w31 - 5 + 1 + w42), ⟨by omega, by omega⟩, trivial, ⟨rfl, rfl, rfl, rfl, rfl, rfl, trivial⟩, Cv.p⟩
     rintro x1 τ2 hx1
     refine WP.cut1 [0, 5, 6, 7, 9] (fun (y1 : Int) => -5 ≤ y1 ∧ y1 ≤ 10) (fun (y1 : Int) => []) (fun (y1 : Int) => blk b9 140 (rectT.enc ⟨w31 - 5, w34 - 5, x1, y1⟩) :: osl 142 shapeT q ss :: src b cv :: L) ?_ ?_
     refine WP.regionHD [.b b9] (.q 0 (.q 3 (.q 4 (.b 1 (.q 2 (.l 5 (.q 6 (.q 7 (.l 8 Sch.nil))))) 5 (.l 1 (.q 2 (.q 6 (.q 7 (.l 8 Sch.nil))))))))) (by kernel_rfl) (by kernel_rfl) (by kernel_rfl) rfl ?_
     refine RH.pv rfl (fun _ _ _ _ h => h) (Gh.le_refl _) PickC.pick rfl (PV.field rfl Fo140_1 rfl) ?_
     refine RH.pv rfl (fun _ _ _ _ h => h) (Gh.le_refl _) PickC.pick rfl (PV.move rfl rfl) ?_
     refine RH.pv rfl (fun _ _ _ _ h => h) (Gh.le_refl _) PickC.pick rfl (PV.mvI (.inl rfl) rfl) ?_
     · refine RH.ot2 rfl rfl rfl rfl  (OT.pv (PV.load1 rfl Sc2 rfl (Rd.blk rfl)) ⟨Gh.le_refl _, PickC.pick, ?_⟩) (OT.callF (vs := [_, _]) rfl En80 rfl (CallT.exC (src b cv) (next_s hcode (by omega) (fun w50 hw50 => ⟨Gh.le_refl _, PickC.pick, ?_⟩))))
       · refine RH.pv rfl (fun _ _ _ _ h => h) (Gh.le_refl _) PickC.pick rfl (PV.add rfl rfl rfl (by omega)) ?_
         refine RH.ot rfl rfl (OT.callF (vs := [_, _]) rfl En80 rfl (CallT.exC (src b cv) (next_s hcode (by omega) (fun w50 hw50 => ⟨Gh.le_refl _, PickC.pick, ?_⟩))))
         refine RH.pv rfl (fun _ _ _ _ h => h) (Gh.le_refl _) PickC.pick rfl (PV.add rfl rfl rfl (by omega)) ?_
         refine RH.pv rfl (fun _ _ _ _ h => h) (Gh.le_refl _) PickC.pick rfl (PV.field rfl Fo140_3 rfl) ?_
         refine RH.ot rfl rfl (OT.storeB (vs := [vi _]) (cs' := [_, _, _, _]) rfl Sz2 rfl rfl (Cl.c rfl) rfl (OneC.c rfl) rfl rfl ⟨Gh.le_refl _, PickC.pick, ?_⟩)
         refine RH.nil ?_
         exact ⟨rfl, (w34 - 5 + 1 + w50), ⟨by omega, by omega⟩, trivial, ⟨rfl, rfl, rfl, rfl, rfl, trivial⟩, Cv.p⟩
       · refine RH.ot rfl rfl (OT.pv (PV.load1 rfl Sc2 rfl (Rd.blk rfl)) ⟨Gh.le_refl _, PickC.pick, ?_⟩)
         refine RH.pv rfl (fun _ _ _ _ h => h) (Gh.le_refl _) PickC.pick rfl (PV.add rfl rfl rfl (by omega)) ?_
         refine RH.pv rfl (fun _ _ _ _ h => h) (Gh.le_refl _) PickC.pick rfl (PV.add rfl rfl rfl (by omega)) ?_
         refine RH.pv rfl (fun _ _ _ _ h => h) (Gh.le_refl _) PickC.pick rfl (PV.field rfl Fo140_3 rfl) ?_
         refine RH.ot rfl rfl (OT.storeB (vs := [vi _]) (cs' := [_, _, _, _]) rfl Sz2 rfl rfl (Cl.c rfl) rfl (OneC.c rfl) rfl rfl ⟨Gh.le_refl _, PickC.pick, ?_⟩)
         refine RH.nil ?_
         exact ⟨rfl, (w34 - 5 + 1 + w50), ⟨by omega, by omega⟩, trivial, ⟨rfl, rfl, rfl, rfl, rfl, trivial⟩, Cv.p⟩
     rintro y1 τ3 hy1
     refine WP.region (RG.pv rfl (PV.move (v := q) rfl rfl) (RG.ml rfl rfl rfl (RG.pv rfl (PV.loadW rfl Ag140 rfl rfl) (RG.pv rfl (PV.build (vs := [(0, [vi _]), (1, [vi _, vi _, vi _, vi _])]) (out := [_, _, _, _, _]) rfl Zr142 Pl142 ⟨rfl, (Cl.c rfl), ⟨rfl, (Cl.c rfl), trivial⟩⟩ rfl) ?_))))
     refine RG.ot rfl (OT.bslice (F := shapeT) (els := [⟨gd [0, 1, 2, 3, 3, 4, 5, (3 : Int)] w21.toNat, ⟨w31 - 5, w34 - 5, x1, y1⟩⟩]) rfl El83 rfl (by decide) rfl (by decide) ⟨rfl, (Cl.c rfl), trivial⟩ fun v57 => ?_)
     refine RG.ot rfl (OT.append (v := q) (u := v57) (F := shapeT) rfl El83 rfl (by decide) rfl rfl Rs.o (OneL.c (fun _ => rfl)) rfl (by first | omega | (simp <;> omega)) fun v58 => ?_)
     refine RG.pv rfl (PV.asg (v := v58) rfl rfl) (RG.nil (WP.region (RG.ml rfl rfl rfl (RG.pv rfl (PV.sub rfl rfl rfl (by omega)) (RG.mr rfl rfl rfl (RG.nil ?_))))))
     exact ⟨rfl, c - 1, (ss ++ [⟨gd [0, 1, 2, 3, 3, 4, 5, (3 : Int)] w21.toNat, ⟨w31 - 5, w34 - 5, x1, y1⟩⟩]), v58, ⟨by omega, by omega, by rw [List.length_append]; simp; omega⟩, ⟨rfl, rfl, trivial⟩, ⟨rfl, trivial⟩, Cv.p, by omega⟩
 · refine WP.exit ?_
   refine WP.seq (WP.region (RG.pv rfl (PV.move (v := q) rfl rfl) (RG.pv rfl (PV.asg (v := q) rfl rfl) (RG.nil ?_))))
   refine WP.ret ?_
   exact ⟨_, _, ResV.one rfl rfl, Cv.p, k q ss (by omega)⟩
theorem dInst_s {b : Nat} {cv : Value} {bs : List UInt8} {n : Int} (hcode : SL G byteT cv bs) (hn : 0 ≤ n ∧ n ≤ 100) (k : ∀ i : Inst, R (vT instT i) G (src b cv :: L)) : CallT Tryz.prog 130 #[.pointer (some ⟨b, 0, none⟩), vi n] G (src b cv :: L) R := by
 refine CallT.enter (args := _) Tryz.func130 rfl rfl (by kernel_rfl) rfl ?_
 refine WP.seq (WP.region ?_)
 refine RG.ot rfl (OT.alloc rfl Zr195 fun b4 => ?_)
 refine RG.nil (WP.seq (WP.region (RG.pv rfl (PV.move rfl rfl) (RG.ml rfl rfl rfl ?_))))
 refine RG.callF (vs := [_, _]) rfl rfl En80 rfl (CallT.exC (src b cv) (next_s hcode (by omega) (fun w8 hw8 => ?_)))
 refine RG.pv rfl (PV.build (vs := [(0, [vi _]), (2, [vi _]), (3, [vi _])]) (out := [_, _, _, _, _, _, _, _]) rfl Zr195 Pl195 ⟨rfl, (Cl.c rfl), ⟨rfl, (Cl.c rfl), ⟨rfl, (Cl.c rfl), trivial⟩⟩⟩ rfl) ?_
 refine RG.ot rfl (OT.alloc rfl Zr195 fun b5 => ?_)
 refine RG.ot rfl (OT.storeW (vs := [vi _, vi _, vi _, vi _, vi _, vi _, vi _, vi _]) rfl Sz195 rfl rfl (Cl.c rfl) rfl rfl (OneC.c rfl) ?_)
 refine RG.nil (WP.seq (WP.region (RG.pv rfl (PV.move rfl rfl) ?_)))
 refine RG.callF (vs := [_, _]) rfl rfl En80 rfl (CallT.exC (src b cv) (next_s hcode (by omega) (fun w11 hw11 => ?_)))
 refine RG.pv rfl (PV.move rfl rfl) ?_
 refine RG.callF (vs := [_, _]) rfl rfl En80 rfl (CallT.exC (src b cv) (next_s hcode (by omega) (fun w13 hw13 => ?_)))
 refine RG.pv rfl (PV.sub rfl rfl rfl (by omega)) (RG.pv rfl (PV.move rfl rfl) ?_)
 refine RG.callF (vs := [_, _]) rfl rfl En80 rfl (CallT.exC (src b cv) (next_s hcode (by omega) (fun w16 hw16 => ?_)))
 refine RG.pv rfl (PV.sub rfl rfl rfl (by omega)) (RG.pv rfl (PV.build (vs := [(0, [vi _]), (1, [vi _]), (2, [vi _])]) (out := [_, _, _]) rfl Zr136 Pl136 ⟨rfl, (Cl.c rfl), ⟨rfl, (Cl.c rfl), ⟨rfl, (Cl.c rfl), trivial⟩⟩⟩ rfl) (RG.pv rfl (PV.field rfl Fo195_1 rfl) ?_))
 refine RG.ot rfl (OT.storeB (vs := [vi _, vi _, vi _]) (cs' := [_, _, _, _, _, _, _, _]) rfl Sz136 rfl rfl (Cl.c rfl) rfl (OneC.c rfl) rfl rfl ?_)
 refine RG.nil ?_
 refine WP.cut1 [0, 4, 5] (fun (x : Inst) => True) (fun (x : Inst) => []) (fun (x : Inst) => blk b5 195 (instT.enc x) :: src b cv :: blk b4 195 [vi 0, vi 0, vi 0, vi 0, vi 0, vi 0, vi 0, vi 0] :: L) ?_ ?_
 refine WP.seq (WP.region (RG.pv rfl (PV.move rfl rfl) ?_))
 refine RG.callF (vs := [_, _]) rfl rfl En80 rfl (CallT.exC (src b cv) (next_s hcode (by omega) (fun w21 hw21 => ?_)))
 refine RG.pv rfl (PV.eql rfl rfl rfl) (RG.nil ?_)
 · refine WP.cond rfl (fun h2 => ?_) (fun h2 => ?_)
   · refine WP.seq ?_
     refine WP.region (RG.pv rfl (PV.field rfl Fo195_2 rfl) ?_)
     refine RG.ot rfl (OT.storeB (vs := [vi _]) (cs' := [_, _, _, _, _, _, _, _]) rfl Sz2 rfl rfl (Cl.c rfl) rfl (OneC.c rfl) rfl rfl ?_)
     refine RG.nil (WP.region (RG.pv rfl (PV.move rfl rfl) ?_))
     refine RG.callF (vs := [_, _]) rfl rfl En80 rfl (CallT.exC (src b cv) (next_s hcode (by omega) (fun w25 hw25 => ?_)))
     refine RG.pv rfl (PV.sub rfl rfl rfl (by omega)) (RG.pv rfl (PV.field rfl Fo195_4 rfl) ?_)
     refine RG.ot rfl (OT.storeB (vs := [vi _]) (cs' := [_, _, _, _, _, _, _, _]) rfl Sz2 rfl rfl (Cl.c rfl) rfl (OneC.c rfl) rfl rfl ?_)
     refine RG.nil ?_
     exact ⟨rfl, ⟨w8, ⟨w11, w13 - 8, w16 - 8⟩, 2, 1, w25 - 2, 0⟩, trivial, trivial, ⟨rfl, rfl, rfl, trivial⟩, Cv.p⟩
   · refine WP.skip ?_
     exact ⟨rfl, ⟨w8, ⟨w11, w13 - 8, w16 - 8⟩, 1, 1, 0, 0⟩, trivial, trivial, ⟨rfl, rfl, rfl, trivial⟩, Cv.p⟩
 rintro x τ1 _
 refine WP.cut1 [4, 5] (fun (x : Inst) => True) (fun (x : Inst) => []) (fun (x : Inst) => blk b5 195 (instT.enc x) :: src b cv :: blk b4 195 [vi 0, vi 0, vi 0, vi 0, vi 0, vi 0, vi 0, vi 0] :: L) ?_ ?_
 refine WP.seq (WP.region (RG.pv rfl (PV.move rfl rfl) ?_))
 refine RG.callF (vs := [_, _]) rfl rfl En80 rfl (CallT.exC (src b cv) (next_s hcode (by omega) (fun w29 hw29 => ?_)))
 refine RG.pv rfl (PV.eql rfl rfl rfl) (RG.nil ?_)
 · refine WP.cond rfl (fun h3 => ?_) (fun h3 => ?_)
   · refine WP.seq ?_
     refine WP.region (RG.pv rfl (PV.field rfl Fo195_3 rfl) ?_)
     refine RG.ot rfl (OT.storeB (vs := [vi _]) (cs' := [_, _, _, _, _, _, _, _]) rfl Sz2 rfl rfl (Cl.c rfl) rfl (OneC.c rfl) rfl rfl ?_)
     refine RG.nil (WP.region (RG.pv rfl (PV.move rfl rfl) ?_))
     refine RG.callF (vs := [_, _]) rfl rfl En80 rfl (CallT.exC (src b cv) (next_s hcode (by omega) (fun w33 hw33 => ?_)))
     refine RG.pv rfl (PV.add rfl rfl rfl (by omega)) (RG.pv rfl (PV.field rfl Fo195_5 rfl) ?_)
     refine RG.ot rfl (OT.storeB (vs := [vi _]) (cs' := [_, _, _, _, _, _, _, _]) rfl Sz2 rfl rfl (Cl.c rfl) rfl (OneC.c rfl) rfl rfl ?_)
     refine RG.nil ?_
     exact ⟨rfl, ⟨x.cell, x.place, x.cols, 2, x.sx, 3 + w33⟩, trivial, trivial, ⟨rfl, rfl, trivial⟩, Cv.p⟩
   · refine WP.skip ?_
     exact ⟨rfl, x, trivial, trivial, ⟨rfl, rfl, trivial⟩, Cv.p⟩
 rintro x τ2 _
 refine WP.seq (WP.region (RG.pv rfl (PV.loadW rfl Ag195 rfl rfl) ?_))
 refine RG.ot rfl (OT.storeW (vs := [vi _, vi _, vi _, vi _, vi _, vi _, vi _, vi _]) rfl Sz195 rfl rfl (Cl.c rfl) rfl rfl (OneC.c rfl) ?_)
 refine RG.nil ?_
 refine WP.ret ?_
 exact ⟨_, _, ResV.one rfl (RV1.cell rfl Ag195 rfl), Cv.p, k _⟩
abbrev nmW : List ByteArray := [ByteArray.mk #[119, 105, 114, 101], ByteArray.mk #[112, 97, 105, 114], ByteArray.mk #[116, 111, 112]]
/-- drawn cells: short names, no labels, few shapes -/
def CellOk (c : Cell) : Prop := c.name.size ≤ 9 ∧ c.labels.xs = [] ∧ c.shapes.xs.length ≤ 101
def CellsOk (xs : List Cell) : Prop := ∀ i, i < xs.length → CellOk (gd xs i)
theorem CellsOk.app {xs : List Cell} {c : Cell} (h : CellsOk xs) (hc : CellOk c) : CellsOk (xs ++ [c]) := fun i hi => by
 have hi : i < xs.length + 1 := by simpa using hi
 by_cases e : i = xs.length
 · subst e; rw [gd_app_r]; exact hc
 · rw [gd_app_l (by omega)]; exact h i (by omega)
/-- .. without the bound of the shapes -/
def CellsL (xs : List Cell) : Prop := ∀ i, i < xs.length → (gd xs i).name.size ≤ 9 ∧ (gd xs i).labels.xs = []
theorem CellsOk.l {xs : List Cell} (h : CellsOk xs) : CellsL xs := fun i hi => ⟨(h i hi).1, (h i hi).2.1⟩
theorem CellsL.set {xs : List Cell} {c : Cell} {i : Nat} (h : CellsL xs) (hc : c.name.size ≤ 9 ∧ c.labels.xs = []) : CellsL (xs.set i c) := fun j hj => by
 have hj2 : j < xs.length := by simpa using hj
 by_cases e : j = i
 · subst e
   have e2 : gd (xs.set j c) j = c := by simp [gd, List.getElem?_set, hj2]
   rw [e2]; exact hc
 · have := h j hj2
   simpa [gd, List.getElem?_set, Ne.symm e] using this
theorem CellsL.lenC {xs : List Cell} (h : CellsL xs) : Go.Proofs.YthhjapiggekjbaaGreat.lenC (erCls xs) := fun i hi => by
 have hi : i < xs.length := by rwa [erCls_len] at hi
 have e : gd (erCls xs) i = erCl (gd xs i) := by rw [erCls, gd_map _ hi]
 obtain ⟨h1, h2⟩ := h i hi
 rw [e]
 refine ⟨by simp only [erCl]; omega, ?_⟩
 simp only [erCl, h2]
 intro j hj; simp at hj
theorem nmW_ok {i : Nat} (h : i < 3) : (gd nmW i).size ≤ 9 := by
 have key : ∀ b ∈ nmW, b.size ≤ 9 := by decide
 exact key _ (gd_mem h)
theorem Cv.cellNew {xs : List Cell} {q a1 a2 : Value} {nm : ByteArray} {s1 : List Shape} {s2 : List Inst} {e0 e1 e2 e3 : TypeId} : Cv (osl e1 shapeT a1 s1 :: osl e3 instT a2 s2 :: osl e0 cellT q (xs ++ [⟨nm, ⟨a1, s1⟩, ⟨.slice none 0 0, []⟩, ⟨a2, s2⟩⟩]) :: bagS e1 shapeT (shs xs) :: bagS e2 labelT (lbs xs) :: bagS e3 instT (ins xs) :: L)
   (osl e0 cellT q (xs ++ [⟨nm, ⟨a1, s1⟩, ⟨.slice none 0 0, []⟩, ⟨a2, s2⟩⟩]) :: bagS e1 shapeT (shs (xs ++ [⟨nm, ⟨a1, s1⟩, ⟨.slice none 0 0, []⟩, ⟨a2, s2⟩⟩])) :: bagS e2 labelT (lbs (xs ++ [⟨nm, ⟨a1, s1⟩, ⟨.slice none 0 0, []⟩, ⟨a2, s2⟩⟩])) :: bagS e3 instT (ins (xs ++ [⟨nm, ⟨a1, s1⟩, ⟨.slice none 0 0, []⟩, ⟨a2, s2⟩⟩])) :: L) := by
 have h := Cv.grow3 (e1 := e1) (e2 := e2) (e3 := e3) (F1 := shapeT) (F2 := labelT) (F3 := instT) (u1 := a1) (us1 := s1) (u2 := .slice none 0 0) (us2 := []) (u3 := a2) (us3 := s2) (y1 := shs xs) (y2 := lbs xs) (y3 := ins xs) (L := L)
   (y1' := shs (xs ++ [⟨nm, ⟨a1, s1⟩, ⟨.slice none 0 0, []⟩, ⟨a2, s2⟩⟩])) (y2' := lbs (xs ++ [⟨nm, ⟨a1, s1⟩, ⟨.slice none 0 0, []⟩, ⟨a2, s2⟩⟩])) (y3' := ins (xs ++ [⟨nm, ⟨a1, s1⟩, ⟨.slice none 0 0, []⟩, ⟨a2, s2⟩⟩])) (by simp [shs]) (by simp [lbs]) (by simp [ins])
 refine (Cv.p (C := osl e0 cellT q (xs ++ [⟨nm, ⟨a1, s1⟩, ⟨.slice none 0 0, []⟩, ⟨a2, s2⟩⟩]) :: osl e1 shapeT a1 s1 :: osl e3 instT a2 s2 :: bagS e1 shapeT (shs xs) :: bagS e2 labelT (lbs xs) :: bagS e3 instT (ins xs) :: L)).trans (Cv.cons ?_)
 refine Cv.trans ?_ h
 exact (Cv.nilS (e := e2) (F := labelT)).trans Cv.p
theorem map_set_same {α β : Type} [Inhabited α] {f : α → β} {xs : List α} {i : Nat} {c : α} (hi : i < xs.length) (h : f c = f (gd xs i)) : (xs.set i c).map f = xs.map f := by
 rw [List.map_set, h]
 apply List.ext_getElem?
 intro j
 rw [List.getElem?_set]
 by_cases e : i = j
 · subst e; simp [gd, hi]
 · simp [e]
theorem flat_set_same {α : Type} [Inhabited α] {F : FT α} {xs : List α} {i : Nat} {c : α} (hi : i < xs.length) (h : F.enc c = F.enc (gd xs i)) : F.flat (xs.set i c) = F.flat xs := by
 have e : ∀ zs : List α, F.flat zs = (zs.map F.enc).flatten := fun zs => by rw [FT.flat, List.flatMap_def]
 rw [e, e, map_set_same hi h]
theorem osl_set_same {α : Type} [Inhabited α] {F : FT α} {e : TypeId} {v : Value} {xs : List α} {i : Nat} {c : α} (hi : i < xs.length) (h : F.enc c = F.enc (gd xs i)) : osl e F v (xs.set i c) = osl e F v xs := by
 funext hp
 have h1 : xs ≠ [] := fun h => by rw [h] at hi; simp at hi
 simp only [osl, List.length_set, flat_set_same hi h, List.set_eq_nil_iff, h1]
theorem Cv.slotC {e e' : TypeId} {v : Value} {zs : List Cell} {ys : List Inst} {L : List Ch} (i : Nat) (hi : i < zs.length) :
   Cv (osl e instT (gd zs i).insts.v ys :: bag (((ins zs).map (ownS e instT)).set i emp) :: osl e' cellT v zs :: L) (bagS e instT (ins (zs.set i ⟨(gd zs i).name, (gd zs i).shapes, (gd zs i).labels, ⟨(gd zs i).insts.v, ys⟩⟩)) :: osl e' cellT v (zs.set i ⟨(gd zs i).name, (gd zs i).shapes, (gd zs i).labels, ⟨(gd zs i).insts.v, ys⟩⟩) :: L) := by
 refine (Cv.bagS_put i (by simpa [ins] using hi)).trans (Cv.cast ?_)
 rw [osl_set_same (c := ⟨(gd zs i).name, (gd zs i).shapes, (gd zs i).labels, ⟨(gd zs i).insts.v, ys⟩⟩) hi rfl]
 congr 2
 rw [ins, ins, List.map_set]
theorem WP.isl {α : Type} {P : Program} {n : Nat} {c : Code} {Q : Post} {σ : Nat → Value} {G : Gh} {L L' : List Ch} {e : TypeId} {T : FT α} (v : Value) {xs : List α} [hx : ExS v L α e T xs L'] (k : IsSl v xs.length → WP P n c Q σ G L) : WP P n c Q σ G L :=
 WP.of fun hk a w ha hs => (k (SlF.o (hx := hx) w hs)).run hk ha hs
theorem dLib_s {b : Nat} {cv : Value} {bs : List UInt8} (hcode : SL G byteT cv bs) (k : ∀ v xs, CellsL xs → 2 ≤ xs.length → xs.length ≤ 3 → R (vT libT ⟨⟨v, xs⟩⟩) G (osl 116 cellT v (xs) :: bagS 142 shapeT (shs (xs)) :: bagS 193 labelT (lbs (xs)) :: bagS 195 instT (ins (xs)) :: src b cv :: L)) : CallT Tryz.prog 79 #[.pointer (some ⟨b, 0, none⟩)] G (src b cv :: L) R := by
 have hl3 : nmW.length = 3 := rfl
 refine CallT.enter (args := _) Tryz.func79 rfl rfl (by kernel_rfl) rfl ?_
 refine WP.seq (WP.region ?_)
 refine RG.ot rfl (OT.alloc rfl Zr31 fun b2 => ?_)
 refine RG.nil (WP.seq (WP.region (RG.pv rfl (PV.build (vs := []) (out := [_]) rfl Zr31 Pl31 trivial rfl) ?_)))
 refine RG.ot rfl (OT.alloc rfl Zr31 fun b3 => ?_)
 refine RG.ot rfl (OT.storeW (vs := [_]) rfl Sz31 rfl rfl (Cl.c rfl) rfl rfl (OneC.c rfl) ?_)
 refine RG.nil (WP.seq (WP.region ?_))
 refine RG.ot rfl (OT.bslice (F := strT) (els := [_, _, _]) rfl El203 rfl (by decide) rfl (by decide) ⟨rfl, (Cl.c rfl), ⟨rfl, (Cl.c rfl), ⟨rfl, (Cl.c rfl), trivial⟩⟩⟩ fun v10 => ?_)
 refine RG.pv rfl (PV.asg (v := v10) rfl rfl) (RG.nil (WP.seq (WP.region (RG.pv rfl (PV.move rfl rfl) ?_))))
 refine RG.callF (vs := [_, _]) rfl rfl En80 rfl (CallT.exC (src b cv) (next_s hcode (by omega) (fun w12 hw12 => ?_)))
 refine RG.pv rfl (PV.add rfl rfl rfl (by first | omega | (simp only [List.length_cons, List.length_nil]; omega))) (RG.mr rfl rfl rfl (RG.nil (WP.seq (WP.seq (WP.region (RG.mr rfl rfl rfl (RG.nil ?_)))))))
 refine WP.block ?_
 refine WP.cv (Cv.p (C := osl 9 strT v10 nmW :: blk b3 31 [.slice none 0 0] :: blk b2 31 [.slice none 0 0] :: src b cv :: L)) ?_
 refine WP.cv ((((Cv.bag0 (e := 195) (F := instT) (xs := ins []) rfl).trans ((Cv.bag0 (e := 193) (F := labelT) (xs := lbs []) rfl).trans ((Cv.bag0 (e := 142) (F := shapeT) (xs := shs []) rfl).trans (Cv.nilS (e := 116) (F := cellT))))))) ?_
 refine WP.loop3 [0, 2, 3, 4, 5] (fun (i : Int) (xs : List Cell) (q : Value) => 0 ≤ i ∧ i ≤ w12 + 2 ∧ xs.length = i.toNat ∧ CellsOk xs ∧ (1 < xs.length → 0 < (gd xs 1).insts.xs.length)) (fun (i : Int) (xs : List Cell) (q : Value) => [(6, vi i)]) (fun (i : Int) (xs : List Cell) (q : Value) => osl 116 cellT q (xs) :: bagS 142 shapeT (shs (xs)) :: bagS 193 labelT (lbs (xs)) :: bagS 195 instT (ins (xs)) :: osl 9 strT v10 nmW :: blk b3 31 [q] :: blk b2 31 [.slice none 0 0] :: src b cv :: L) (fun (i : Int) (xs : List Cell) (q : Value) => (w12 + 2 - i).toNat) 0 [] (.slice none 0 0) ⟨by omega, by omega, rfl, fun i hi => by simp at hi, fun h => by simp at h⟩ ⟨(by kernel_rfl), trivial⟩ Cv.p ?_
 rintro i xs q τ ⟨h0, h1, h2, h3, h4⟩
 refine WP.seq (WP.seq (WP.region (RG.ml rfl rfl rfl (RG.ml rfl rfl rfl (RG.pv rfl (PV.lss rfl rfl rfl) (RG.nil ?_))))))
 refine WP.cond rfl (fun h5 => ?_) (fun h5 => ?_)
 · have h5 := of_decide_eq_true h5
   have hi3 : i.toNat < 3 := by omega
   have hnm := nmW_ok hi3
   refine WP.skip (WP.seq (WP.block ?_))
   refine WP.cut4 [0, 2, 3, 4, 5, 6] (fun (b7 : Nat) (nm : ByteArray) (vs : Value) (ss : List Shape) => nm.size ≤ 9 ∧ ss.length ≤ 100) (fun (b7 : Nat) (nm : ByteArray) (vs : Value) (ss : List Shape) => [(7, .pointer (some ⟨b7, 0, none⟩))]) (fun (b7 : Nat) (nm : ByteArray) (vs : Value) (ss : List Shape) => blk b7 116 [.string nm, vs, .slice none 0 0, .slice none 0 0] :: osl 142 shapeT vs ss :: osl 116 cellT q (xs) :: bagS 142 shapeT (shs (xs)) :: bagS 193 labelT (lbs (xs)) :: bagS 195 instT (ins (xs)) :: osl 9 strT v10 nmW :: blk b3 31 [q] :: blk b2 31 [.slice none 0 0] :: src b cv :: L) ?_ ?_
   refine WP.regionH0 (.q 0 (.q 1 (.q 2 (.q 3 (.q 4 (.b 5 (.q 6 (.l 7 (.l 8 Sch.nil))) 7 (.l 5 (.q 6 (.l 8 Sch.nil))))))))) (by kernel_rfl) (by kernel_rfl) (by kernel_rfl) rfl ?_
   refine RH.pv rfl (fun _ _ _ _ h => h) (Gh.le_refl _) PickC.pick rfl (PV.move (v := v10) rfl rfl) ?_
   refine RH.pv rfl (fun _ _ _ _ h => h) (Gh.le_refl _) PickC.pick rfl (PV.mvI (.inl rfl) rfl) ?_
   refine RH.pv rfl (fun _ _ _ _ h => h) (Gh.le_refl _) PickC.pick rfl (PV.idxS (j := i.toNat) (v := v10) rfl Is203 rfl SlF.o rfl (by first | omega | (simp only [List.length_cons, List.length_nil]; omega)) (by first | omega | (simp only [List.length_cons, List.length_nil]; omega))) ?_
   refine RH.pv rfl (fun _ _ _ _ h => h) (Gh.le_refl _) PickC.pick rfl (PV.loadE1 rfl Sc9 rfl rfl (El.o (getG (by first | omega | (simp only [List.length_cons, List.length_nil]; omega)))) rfl) ?_
   refine RH.pv rfl (fun _ _ _ _ h => h) (Gh.le_refl _) PickC.pick rfl (PV.move rfl rfl) ?_
   · refine RH.ot2 rfl rfl rfl rfl  (OT.callF (vs := [_, _]) rfl En129 rfl (CallT.exC (src b cv) (dShapes_s hcode (by omega) (fun v24 ssv24 hsv24 => ⟨Gh.le_refl _, PickC.pick, ?_⟩)))) (OT.alloc rfl Zr116 fun b7 => ⟨Gh.le_refl _, PickC.pick, ?_⟩)
     · refine RH.up1 ?_
       refine RH.pv rfl (fun _ _ _ _ h => h) (Gh.le_refl _) PickC.pick rfl (PV.build (vs := [(0, [.string _]), (1, [v24])]) (out := [_, _, _, _]) rfl Zr116 Pl116 ⟨rfl, (Cl.c rfl), ⟨rfl, (Cl.s (v := v24) SlF.o), trivial⟩⟩ rfl) ?_
       refine RH.ot rfl rfl (OT.alloc rfl Zr116 fun b7 => ⟨Gh.le_refl _, PickC.pick, ?_⟩)
       refine RH.ot rfl rfl (OT.storeW (vs := [.string _, _, _, _]) rfl Sz116 rfl rfl (Cl.c rfl) rfl rfl (OneC.val rfl (OneC.sl (SlF.o (v := v24)) (OneC.val rfl (OneC.val rfl OneC.nil)))) ⟨Gh.le_refl _, PickC.pick, ?_⟩)
       refine RH.nil ?_
       exact ⟨rfl, b7, (gd nmW i.toNat), v24, ssv24, ⟨hnm, hsv24⟩, ⟨(by kernel_rfl), trivial⟩, ⟨(by kernel_rfl), (by kernel_rfl), (by kernel_rfl), (by kernel_rfl), (by kernel_rfl), (by kernel_rfl), trivial⟩, Cv.p⟩
     · refine RH.ot rfl rfl (OT.callF (vs := [_, _]) rfl En129 rfl (CallT.exC (src b cv) (dShapes_s hcode (by omega) (fun v24 ssv24 hsv24 => ⟨Gh.le_refl _, PickC.pick, ?_⟩))))
       refine RH.up1 ?_
       refine RH.pv rfl (fun _ _ _ _ h => h) (Gh.le_refl _) PickC.pick rfl (PV.build (vs := [(0, [.string _]), (1, [v24])]) (out := [_, _, _, _]) rfl Zr116 Pl116 ⟨rfl, (Cl.c rfl), ⟨rfl, (Cl.s (v := v24) SlF.o), trivial⟩⟩ rfl) ?_
       refine RH.ot rfl rfl (OT.storeW (vs := [.string _, _, _, _]) rfl Sz116 rfl rfl (Cl.c rfl) rfl rfl (OneC.val rfl (OneC.sl (SlF.o (v := v24)) (OneC.val rfl (OneC.val rfl OneC.nil)))) ⟨Gh.le_refl _, PickC.pick, ?_⟩)
       refine RH.nil ?_
       exact ⟨rfl, b7, (gd nmW i.toNat), v24, ssv24, ⟨hnm, hsv24⟩, ⟨(by kernel_rfl), trivial⟩, ⟨(by kernel_rfl), (by kernel_rfl), (by kernel_rfl), (by kernel_rfl), (by kernel_rfl), (by kernel_rfl), trivial⟩, Cv.p⟩
   rintro b7 nm vs ss τ1 ⟨hnm, hss⟩
   refine WP.seq (WP.seq (WP.region (RG.pv rfl (PV.move rfl rfl) (RG.ml rfl rfl rfl (RG.pv rfl (PV.add rfl rfl rfl (by first | omega | (simp only [List.length_cons, List.length_nil]; omega))) ?_)))))
   refine RG.callF (vs := [_, _]) rfl rfl En80 rfl (CallT.exC (src b cv) (next_s hcode (by omega) (fun w29 hw29 => ?_)))
   refine RG.mr rfl rfl rfl (RG.nil (WP.block ?_))
   refine WP.cv (Cv.nilS (e := 195) (F := instT)) ?_
   refine WP.loop3 [0, 2, 3, 4, 5, 6, 7] (fun (m : Int) (ns : List Inst) (u : Value) => -1 ≤ m ∧ (ns.length : Int) + m = w29) (fun (m : Int) (ns : List Inst) (u : Value) => [(8, vi m)]) (fun (m : Int) (ns : List Inst) (u : Value) => osl 195 instT u ns :: blk b7 116 [.string nm, vs, .slice none 0 0, u] :: osl 142 shapeT vs ss :: osl 116 cellT q (xs) :: bagS 142 shapeT (shs (xs)) :: bagS 193 labelT (lbs (xs)) :: bagS 195 instT (ins (xs)) :: osl 9 strT v10 nmW :: blk b3 31 [q] :: blk b2 31 [.slice none 0 0] :: src b cv :: L) (fun (m : Int) (ns : List Inst) (u : Value) => (m + 1).toNat) w29 [] (.slice none 0 0) ⟨by omega, by simp⟩ ⟨(by kernel_rfl), trivial⟩ Cv.p ?_
   rintro m ns u τ2 ⟨g0, g1⟩
   refine WP.seq (WP.seq (WP.region (RG.ml rfl rfl rfl (RG.pv rfl (PV.gtr rfl rfl rfl) (RG.bl rfl rfl rfl ?_)))))
   refine RG.gs rfl rfl rfl (fun hp => (PV.mvI (.inl rfl) rfl)) ?_
   refine RG.gs rfl rfl rfl (fun hp => (PV.geq rfl (gs_t hp) rfl)) ?_
   refine RG.pv rfl (PV.pickA rfl rfl (fun hq => gs_t (geqT hq)) rfl) (RG.nil ?_)
   refine WP.cond rfl (fun h6 => ?_) (fun h6 => ?_)
   · have h6 : 0 < i ∧ 0 ≤ m := by simp at h6; omega
     refine WP.skip ?_
     refine WP.cut2 [0, 2, 3, 4, 5, 6, 7, 8] (fun (u2 : Value) (x : Inst) => True) (fun (u2 : Value) (x : Inst) => []) (fun (u2 : Value) (x : Inst) => osl 195 instT u2 (ns ++ [x]) :: blk b7 116 [.string nm, vs, .slice none 0 0, u2] :: osl 142 shapeT vs ss :: osl 116 cellT q (xs) :: bagS 142 shapeT (shs (xs)) :: bagS 193 labelT (lbs (xs)) :: bagS 195 instT (ins (xs)) :: osl 9 strT v10 nmW :: blk b3 31 [q] :: blk b2 31 [.slice none 0 0] :: src b cv :: L) ?_ ?_
     refine WP.block ?_
     refine WP.regionHD [.s u, .b b7] (.q 0 (.q 2 (.q 3 (.b 1 (.l 4 (.l 5 (.l 6 (.q 7 (.l 8 Sch.nil))))) 4 (.b 1 (.l 5 (.l 6 (.q 7 (.l 8 Sch.nil)))) 5 (.l 1 (.l 6 (.q 7 (.l 8 Sch.nil))))))))) (by kernel_rfl) (by kernel_rfl) (by kernel_rfl) rfl ?_
     refine RH.pv rfl (fun _ _ _ _ h => h) (Gh.le_refl _) PickC.pick rfl (PV.field rfl Fo116_3 rfl) ?_
     refine RH.pv rfl (fun _ _ _ _ h => h) (Gh.le_refl _) PickC.pick rfl (PV.move rfl rfl) ?_
     refine RH.pv rfl (fun _ _ _ _ h => h) (Gh.le_refl _) PickC.pick rfl (PV.mvI (.inl rfl) rfl) ?_
     · refine RH.ot2 rfl rfl rfl rfl  (OT.pv (PV.load1 rfl Sc114 rfl (Rd.blk rfl)) ⟨Gh.le_refl _, PickC.pick, ?_⟩) (OT.callF (vs := [_, _]) rfl En130 rfl (CallT.exC (src b cv) (dInst_s hcode (by omega) (fun xw42 => ⟨Gh.le_refl _, PickC.pick, ?_⟩))))
       · refine RH.ot rfl rfl (OT.callF (vs := [_, _]) rfl En130 rfl (CallT.exC (src b cv) (dInst_s hcode (by omega) (fun xw42 => ⟨Gh.le_refl _, PickC.pick, ?_⟩))))
         refine RH.ot rfl rfl (OT.bslice (F := instT) (els := [_]) rfl El114 rfl (by decide) rfl (by decide) ⟨rfl, (Cl.c rfl), trivial⟩ fun v43 => ⟨Gh.le_refl _, PickC.pick, ?_⟩)
         refine RH.ot rfl rfl (OT.append (v := u) (u := v43) (F := instT) rfl El114 rfl (by decide) rfl rfl Rs.o (OneL.c (fun _ => rfl)) rfl (by first | omega | (simp <;> omega)) fun v44 => ⟨Gh.le_refl _, PickC.pick, ?_⟩)
         refine RH.pv rfl (fun _ _ _ _ h => h) (Gh.le_refl _) PickC.pick rfl (PV.field rfl Fo116_3 rfl) ?_
         refine RH.ot rfl rfl (OT.storeB (v := v44) (vs := [_]) (cs' := [_, _, _, _]) rfl Sz114 rfl rfl (Cl.s (v := v44) SlF.o) rfl (OneC.sl SlF.o OneC.nil) rfl rfl ⟨Gh.le_refl _, PickC.pick, ?_⟩)
         refine RH.nil ?_
         exact ⟨rfl, v44, xw42, trivial, trivial, ⟨(by kernel_rfl), (by kernel_rfl), (by kernel_rfl), (by kernel_rfl), (by kernel_rfl), (by kernel_rfl), (by kernel_rfl), (by kernel_rfl), trivial⟩, Cv.p⟩
       · refine RH.ot2 rfl rfl rfl rfl  (OT.pv (PV.load1 rfl Sc114 rfl (Rd.blk rfl)) ⟨Gh.le_refl _, PickC.pick, ?_⟩) (OT.bslice (F := instT) (els := [_]) rfl El114 rfl (by decide) rfl (by decide) ⟨rfl, (Cl.c rfl), trivial⟩ fun v43 => ⟨Gh.le_refl _, PickC.pick, ?_⟩)
         · refine RH.ot rfl rfl (OT.bslice (F := instT) (els := [_]) rfl El114 rfl (by decide) rfl (by decide) ⟨rfl, (Cl.c rfl), trivial⟩ fun v43 => ⟨Gh.le_refl _, PickC.pick, ?_⟩)
           refine RH.ot rfl rfl (OT.append (v := u) (u := v43) (F := instT) rfl El114 rfl (by decide) rfl rfl Rs.o (OneL.c (fun _ => rfl)) rfl (by first | omega | (simp <;> omega)) fun v44 => ⟨Gh.le_refl _, PickC.pick, ?_⟩)
           refine RH.pv rfl (fun _ _ _ _ h => h) (Gh.le_refl _) PickC.pick rfl (PV.field rfl Fo116_3 rfl) ?_
           refine RH.ot rfl rfl (OT.storeB (v := v44) (vs := [_]) (cs' := [_, _, _, _]) rfl Sz114 rfl rfl (Cl.s (v := v44) SlF.o) rfl (OneC.sl SlF.o OneC.nil) rfl rfl ⟨Gh.le_refl _, PickC.pick, ?_⟩)
           refine RH.nil ?_
           exact ⟨rfl, v44, xw42, trivial, trivial, ⟨(by kernel_rfl), (by kernel_rfl), (by kernel_rfl), (by kernel_rfl), (by kernel_rfl), (by kernel_rfl), (by kernel_rfl), (by kernel_rfl), trivial⟩, Cv.p⟩
         · refine RH.ot rfl rfl (OT.pv (PV.load1 rfl Sc114 rfl (Rd.blk rfl)) ⟨Gh.le_refl _, PickC.pick, ?_⟩)
           refine RH.ot rfl rfl (OT.append (v := u) (u := v43) (F := instT) rfl El114 rfl (by decide) rfl rfl Rs.o (OneL.c (fun _ => rfl)) rfl (by first | omega | (simp <;> omega)) fun v44 => ⟨Gh.le_refl _, PickC.pick, ?_⟩)
           refine RH.pv rfl (fun _ _ _ _ h => h) (Gh.le_refl _) PickC.pick rfl (PV.field rfl Fo116_3 rfl) ?_
           refine RH.ot rfl rfl (OT.storeB (v := v44) (vs := [_]) (cs' := [_, _, _, _]) rfl Sz114 rfl rfl (Cl.s (v := v44) SlF.o) rfl (OneC.sl SlF.o OneC.nil) rfl rfl ⟨Gh.le_refl _, PickC.pick, ?_⟩)
           refine RH.nil ?_
           exact ⟨rfl, v44, xw42, trivial, trivial, ⟨(by kernel_rfl), (by kernel_rfl), (by kernel_rfl), (by kernel_rfl), (by kernel_rfl), (by kernel_rfl), (by kernel_rfl), (by kernel_rfl), trivial⟩, Cv.p⟩
     rintro u2 x τ3 _
     refine WP.region (RG.ml rfl rfl rfl (RG.pv rfl (PV.sub rfl rfl rfl (by first | omega | (simp only [List.length_cons, List.length_nil]; omega))) (RG.mr rfl rfl rfl (RG.nil ?_))))
     exact ⟨rfl, m - 1, (ns ++ [x]), u2, ⟨by omega, by rw [List.length_append]; simp; omega⟩, ⟨(by kernel_rfl), trivial⟩, ⟨(by kernel_rfl), (by kernel_rfl), (by kernel_rfl), (by kernel_rfl), (by kernel_rfl), (by kernel_rfl), (by kernel_rfl), trivial⟩, Cv.p, by omega⟩
   · have h6 : ¬ (0 < i ∧ 0 ≤ m) := by simp at h6; omega
     refine WP.exit ?_
     refine WP.region (RG.pv rfl (PV.field rfl Fo31_0 rfl) (RG.pv rfl (PV.load1 rfl Sc29 rfl (Rd.blk rfl)) (RG.pv rfl (PV.loadW rfl Ag116 rfl rfl) ?_)))
     refine RG.ot rfl (OT.bslice (F := cellT) (els := [⟨nm, ⟨vs, ss⟩, ⟨.slice none 0 0, []⟩, ⟨u, ns⟩⟩]) rfl El29 rfl (by decide) rfl (by decide) ⟨rfl, (Cl.c rfl), trivial⟩ fun v49 => ?_)
     refine RG.ot rfl (OT.append (v := q) (u := v49) (F := cellT) rfl El29 rfl (by decide) rfl rfl Rs.o (OneL.one (OneC.val rfl (OneC.sl (SlF.o (v := vs)) (OneC.val rfl (OneC.sl (SlF.o (v := u)) OneC.nil))))) rfl (by first | omega | (simp <;> omega)) fun v50 => ?_)
     refine RG.pv rfl (PV.field rfl Fo31_0 rfl) ?_
     refine RG.ot rfl (OT.storeB (v := v50) (vs := [_]) (cs' := [_]) rfl Sz29 rfl rfl (Cl.s (v := v50) SlF.o) rfl (OneC.sl SlF.o OneC.nil) rfl rfl ?_)
     refine RG.nil (WP.region (RG.ml rfl rfl rfl (RG.pv rfl (PV.add rfl rfl rfl (by first | omega | (simp only [List.length_cons, List.length_nil]; omega))) (RG.mr rfl rfl rfl (RG.nil ?_)))))
     refine ⟨rfl, i + 1, (xs ++ [⟨nm, ⟨vs, ss⟩, ⟨.slice none 0 0, []⟩, ⟨u, ns⟩⟩]), v50, ⟨by omega, by omega, by rw [List.length_append]; simp; omega, h3.app ⟨hnm, rfl, by simp only; omega⟩, fun hx => ?_⟩, ⟨(by kernel_rfl), trivial⟩, ⟨(by kernel_rfl), (by kernel_rfl), (by kernel_rfl), (by kernel_rfl), (by kernel_rfl), trivial⟩, ((Cv.p (C := osl 142 shapeT vs ss :: osl 195 instT u ns :: osl 116 cellT v50 (xs ++ [⟨nm, ⟨vs, ss⟩, ⟨.slice none 0 0, []⟩, ⟨u, ns⟩⟩]) :: bagS 142 shapeT (shs xs) :: bagS 193 labelT (lbs xs) :: bagS 195 instT (ins xs) :: osl 9 strT v10 nmW :: blk b3 31 [v50] :: blk b2 31 [.slice none 0 0] :: src b cv :: L)).trans Cv.cellNew), by omega⟩
     by_cases c : 1 < xs.length
     · rw [gd_app_l c]; exact h4 c
     · have hx : 1 < xs.length + 1 := by simpa using hx
       have e1 : xs.length = 1 := by omega
       have e2 := gd_app_r (xs := xs) (a := ⟨nm, ⟨vs, ss⟩, ⟨.slice none 0 0, []⟩, ⟨u, ns⟩⟩)
       rw [e1] at e2
       rw [e2]
       simp only
       omega
 · have hi2 : i = w12 + 2 := by have := of_decide_eq_false h5; omega
   have hx2 : 2 ≤ xs.length ∧ xs.length ≤ 3 := by omega
   refine WP.exit ?_
   refine WP.cut1 [2, 3] (fun (ys : List Cell) => CellsL ys ∧ 2 ≤ ys.length ∧ ys.length ≤ 3) (fun (ys : List Cell) => []) (fun (ys : List Cell) => osl 116 cellT q (ys) :: bagS 142 shapeT (shs (ys)) :: bagS 193 labelT (lbs (ys)) :: bagS 195 instT (ins (ys)) :: blk b3 31 [q] :: blk b2 31 [.slice none 0 0] :: src b cv :: L) ?_ ?_
   refine WP.seq (WP.region (RG.pv rfl (PV.move rfl rfl) ?_))
   refine RG.callF (vs := [_, _]) rfl rfl En80 rfl (CallT.exC (src b cv) (next_s hcode (by omega) (fun w53 hw53 => ?_)))
   refine RG.nil (WP.block (WP.seq (WP.region (RG.pv rfl (PV.eql rfl rfl rfl) (RG.br rfl rfl rfl (RG.nil ?_))))))
   · refine WP.cond rfl (fun h6 => ?_) (fun h6 => ?_)
     · skip
       refine WP.region (RG.pv rfl (PV.field rfl Fo31_0 rfl) (RG.pv rfl (PV.load1 rfl Sc29 rfl (Rd.blk rfl)) (RG.pv rfl (PV.idxS (j := 0) (v := q) rfl Is29 rfl SlF.o rfl (by first | omega | (simp only [List.length_cons, List.length_nil]; omega)) (by first | omega | (simp only [List.length_cons, List.length_nil]; omega))) (RG.pv rfl (PV.field rfl Fo116_0 rfl) ?_))))
       refine RG.ot rfl (OT.storeF (F := cellT) (val := Value.string) (cv := fun u => [.string u]) (st := Cell.s0) rfl Sz9 rfl rfl rfl (Cl.c rfl) rfl (OneC.c rfl) (by exact set_self (by omega)) (by first | omega | (simp; omega)) rfl (fun _ _ => rfl) ?_)
       refine RG.nil ?_
       have hc0 := h3 0 (by omega)
       have hcl : (Cell.s0 (ByteArray.mk #[84, 111, 112]) (gd xs 0)).name.size ≤ 9 ∧ (Cell.s0 (ByteArray.mk #[84, 111, 112]) (gd xs 0)).labels.xs = [] := ⟨by simp only [Cell.s0]; decide, hc0.2.1⟩
       exact ⟨rfl, (xs.set 0 (Cell.s0 (ByteArray.mk #[84, 111, 112]) (gd xs 0))), ⟨h3.l.set hcl, by simpa using hx2.1, by simpa using hx2.2⟩, trivial, ⟨(by kernel_rfl), (by kernel_rfl), trivial⟩, ((Cv.p (C := osl 116 cellT q (xs.set 0 (Cell.s0 (ByteArray.mk #[84, 111, 112]) (gd xs 0))) :: bagS 142 shapeT (shs xs) :: bagS 193 labelT (lbs xs) :: bagS 195 instT (ins xs) :: blk b3 31 [q] :: blk b2 31 [.slice none 0 0] :: src b cv :: L)).trans (Cv.cast (by rw [shs, lbs, ins, shs, lbs, ins, map_set_same (f := Cell.shapes) (i := 0) (c := Cell.s0 (ByteArray.mk #[84, 111, 112]) (gd xs 0)) (by omega) rfl, map_set_same (f := Cell.labels) (i := 0) (c := Cell.s0 (ByteArray.mk #[84, 111, 112]) (gd xs 0)) (by omega) rfl, map_set_same (f := Cell.insts) (i := 0) (c := Cell.s0 (ByteArray.mk #[84, 111, 112]) (gd xs 0)) (by omega) rfl])))⟩
     · refine WP.seq ?_
       refine WP.region (RG.pv rfl (PV.eql rfl rfl rfl) (RG.br rfl rfl rfl (RG.nil ?_)))
       refine WP.cond rfl (fun h7 => ?_) (fun h7 => ?_)
       · have h41 := h4 (by omega)
         have hil : (ins xs).length = xs.length := by simp [ins]
         have hi1 : gd (ins xs) 1 = (gd xs 1).insts := by rw [ins, gd_map _ (by omega)]
         refine WP.cv ((Cv.p (C := bagS 195 instT (ins xs) :: osl 116 cellT q xs :: bagS 142 shapeT (shs xs) :: bagS 193 labelT (lbs xs) :: blk b3 31 [q] :: blk b2 31 [.slice none 0 0] :: src b cv :: L)).trans ((Cv.bagS_take 1 (by omega)).trans (Cv.cast (by rw [hi1])))) ?_
         refine WP.region (RG.pv rfl (PV.field rfl Fo31_0 rfl) (RG.pv rfl (PV.load1 rfl Sc29 rfl (Rd.blk rfl)) (RG.pv rfl (PV.idxS (j := 1) (v := q) rfl Is29 rfl SlF.o rfl (by first | omega | (simp only [List.length_cons, List.length_nil]; omega)) (by first | omega | (simp only [List.length_cons, List.length_nil]; omega))) (RG.pv rfl (PV.field rfl Fo116_3 rfl) (RG.pv rfl (PV.loadF (F := cellT) (v := q) (i := 1) (j := 3) rfl Sc114 rfl rfl (El.o (getG (by omega))) rfl) (RG.pv rfl (PV.idxS (j := 0) (v := (gd xs 1).insts.v) rfl Is114 rfl SlF.o rfl (by first | omega | (simp only [List.length_cons, List.length_nil]; omega)) (by first | omega | (simp only [List.length_cons, List.length_nil]; omega))) (RG.pv rfl (PV.field rfl Fo195_1 rfl) ?_)))))))
         refine RG.pv rfl (PV.field rfl Fo136_1 rfl) ?_
         refine RG.ot rfl (OT.storeF (F := instT) (val := vi) (cv := fun u => [vi u]) (j := 2) (st := Inst.s1_1) rfl Sz2 rfl rfl rfl (Cl.c rfl) rfl (OneC.c rfl) (by exact set_self (by omega)) (by first | omega | (simp; omega)) rfl (fun _ _ => rfl) ?_)
         refine RG.nil ?_
         have hc1 := h3 1 (by omega)
         have e1 : shs (xs.set 1 ⟨(gd xs 1).name, (gd xs 1).shapes, (gd xs 1).labels, ⟨(gd xs 1).insts.v, (gd xs 1).insts.xs.set 0 (Inst.s1_1 60 (gd (gd xs 1).insts.xs 0))⟩⟩) = shs xs := map_set_same (by omega) rfl
         have e2 : lbs (xs.set 1 ⟨(gd xs 1).name, (gd xs 1).shapes, (gd xs 1).labels, ⟨(gd xs 1).insts.v, (gd xs 1).insts.xs.set 0 (Inst.s1_1 60 (gd (gd xs 1).insts.xs 0))⟩⟩) = lbs xs := map_set_same (by omega) rfl
         exact ⟨rfl, (xs.set 1 ⟨(gd xs 1).name, (gd xs 1).shapes, (gd xs 1).labels, ⟨(gd xs 1).insts.v, (gd xs 1).insts.xs.set 0 (Inst.s1_1 60 (gd (gd xs 1).insts.xs 0))⟩⟩), ⟨h3.l.set ⟨hc1.1, hc1.2.1⟩, by simpa using hx2.1, by simpa using hx2.2⟩, trivial, ⟨(by kernel_rfl), (by kernel_rfl), trivial⟩, ((Cv.p (C := osl 195 instT (gd xs 1).insts.v ((gd xs 1).insts.xs.set 0 (Inst.s1_1 60 (gd (gd xs 1).insts.xs 0))) :: bag (((ins xs).map (ownS 195 instT)).set 1 emp) :: osl 116 cellT q xs :: bagS 142 shapeT (shs xs) :: bagS 193 labelT (lbs xs) :: blk b3 31 [q] :: blk b2 31 [.slice none 0 0] :: src b cv :: L)).trans ((Cv.slotC 1 (by omega)).trans (by rw [e1, e2]; exact Cv.p)))⟩
       · refine WP.seq ?_
         refine WP.region (RG.pv rfl (PV.eql rfl rfl rfl) (RG.br rfl rfl rfl (RG.nil ?_)))
         refine WP.cond rfl (fun h8 => ?_) (fun h8 => ?_)
         · have hsl : (shs xs).length = xs.length := by simp [shs]
           have hi0 : gd (shs xs) 0 = (gd xs 0).shapes := by rw [shs, gd_map _ (by omega)]
           have hc0 := h3 0 (by omega)
           have hs0 := hc0.2.2
           refine WP.isl q fun hIq => ?_
           refine WP.cv ((Cv.p (C := bagS 142 shapeT (shs xs) :: osl 116 cellT q xs :: bagS 195 instT (ins xs) :: bagS 193 labelT (lbs xs) :: blk b3 31 [q] :: blk b2 31 [.slice none 0 0] :: src b cv :: L)).trans ((Cv.bagS_take 0 (by omega)).trans (Cv.cast (by rw [hi0])))) ?_
           refine WP.regionHD [.s q, .s (gd xs 0).shapes.v] (.q 0 (.q 1 (.q 2 (.q 3 (.q 4 (.q 5 (.q 7 (.q 8 (.b 6 (.l 9 (.l 10 (.q 11 (.q 12 (.l 13 Sch.nil))))) 9 (.l 6 (.l 10 (.q 11 (.q 12 (.l 13 Sch.nil)))))))))))))) (by kernel_rfl) (by kernel_rfl) (by kernel_rfl) rfl ?_
           refine RH.pv rfl (fun _ _ _ _ h => h) (Gh.le_refl _) PickC.pick rfl (PV.field rfl Fo31_0 rfl) ?_
           refine RH.pv rfl (fun _ _ _ _ h => h) (Gh.le_refl _) PickC.pick rfl (PV.load1 rfl Sc29 rfl (Rd.blk rfl)) ?_
           refine RH.pv rfl (fun _ _ _ _ h => h) (Gh.le_refl _) PickC.pick rfl (PV.field rfl Fo31_0 rfl) ?_
           refine RH.pv rfl (fun _ _ _ _ h => h) (Gh.le_refl _) PickC.pick rfl (PV.load1 rfl Sc29 rfl (Rd.blk rfl)) ?_
           refine RH.pv rfl (fun _ _ _ _ h => h) (Gh.le_refl _) PickC.pick rfl (PV.idxS (j := 0) (v := q) rfl Is29 rfl (SlF.i hIq) rfl (by first | omega | (simp only [List.length_cons, List.length_nil]; omega)) (by first | omega | (simp only [List.length_cons, List.length_nil]; omega))) ?_
           refine RH.pv rfl (fun _ _ _ _ h => h) (Gh.le_refl _) PickC.pick rfl (PV.field rfl Fo116_1 rfl) ?_
           refine RH.pv rfl (fun _ _ _ _ h => h) (Gh.le_refl _) PickC.pick rfl (PV.build (vs := [(0, [vi _]), (1, [vi _]), (2, [vi _]), (3, [vi _])]) (out := [_, _, _, _]) rfl Zr140 Pl140 ⟨rfl, (Cl.c rfl), ⟨rfl, (Cl.c rfl), ⟨rfl, (Cl.c rfl), ⟨rfl, (Cl.c rfl), trivial⟩⟩⟩⟩ rfl) ?_
           refine RH.pv rfl (fun _ _ _ _ h => h) (Gh.le_refl _) PickC.pick rfl (PV.build (vs := [(0, [vi _]), (1, [vi _, vi _, vi _, vi _])]) (out := [_, _, _, _, _]) rfl Zr142 Pl142 ⟨rfl, (Cl.c rfl), ⟨rfl, (Cl.c rfl), trivial⟩⟩ rfl) ?_
           have e1 : ∀ v, ins (xs.set 0 (Cell.s1 ⟨v, (gd xs 0).shapes.xs ++ [⟨3, ⟨30, 0, 40, 1⟩⟩]⟩ (gd xs 0))) = ins xs := fun v => map_set_same (by omega) rfl
           have e2 : ∀ v, lbs (xs.set 0 (Cell.s1 ⟨v, (gd xs 0).shapes.xs ++ [⟨3, ⟨30, 0, 40, 1⟩⟩]⟩ (gd xs 0))) = lbs xs := fun v => map_set_same (by omega) rfl
           have e3 : ∀ v, shs (xs.set 0 (Cell.s1 ⟨v, (gd xs 0).shapes.xs ++ [⟨3, ⟨30, 0, 40, 1⟩⟩]⟩ (gd xs 0))) = (shs xs).set 0 ⟨v, (gd xs 0).shapes.xs ++ [⟨3, ⟨30, 0, 40, 1⟩⟩]⟩ := fun v => by rw [shs, shs, List.map_set]
           have hcl : ∀ v, (Cell.s1 ⟨v, (gd xs 0).shapes.xs ++ [⟨3, ⟨30, 0, 40, 1⟩⟩]⟩ (gd xs 0)).name.size ≤ 9 ∧ (Cell.s1 ⟨v, (gd xs 0).shapes.xs ++ [⟨3, ⟨30, 0, 40, 1⟩⟩]⟩ (gd xs 0)).labels.xs = [] := fun v => ⟨hc0.1, hc0.2.1⟩
           · refine RH.ot2 rfl rfl rfl rfl  (OT.pv (PV.loadF (F := cellT) (v := q) (i := 0) (j := 1) rfl Sc83 rfl rfl (El.o (getG (by omega))) rfl) ⟨Gh.le_refl _, PickC.pick, ?_⟩) (OT.bslice (F := shapeT) (els := [⟨3, ⟨30, 0, 40, 1⟩⟩]) rfl El83 rfl (by decide) rfl (by decide) ⟨rfl, (Cl.c rfl), trivial⟩ fun v81 => ⟨Gh.le_refl _, PickC.pick, ?_⟩)
             · refine RH.ot rfl rfl (OT.bslice (F := shapeT) (els := [⟨3, ⟨30, 0, 40, 1⟩⟩]) rfl El83 rfl (by decide) rfl (by decide) ⟨rfl, (Cl.c rfl), trivial⟩ fun v81 => ⟨Gh.le_refl _, PickC.pick, ?_⟩)
               refine RH.ot rfl rfl (OT.append (v := (gd xs 0).shapes.v) (u := v81) (F := shapeT) rfl El83 rfl (by decide) rfl rfl Rs.o (OneL.c (fun _ => rfl)) rfl (by first | omega | (simp <;> omega)) fun v82 => ⟨Gh.le_refl _, PickC.pick, ?_⟩)
               refine RH.pv rfl (fun _ _ _ _ h => h) (Gh.le_refl _) PickC.pick rfl (PV.idxS (j := 0) (v := q) rfl Is29 rfl (SlF.i hIq) rfl (by first | omega | (simp only [List.length_cons, List.length_nil]; omega)) (by first | omega | (simp only [List.length_cons, List.length_nil]; omega))) ?_
               refine RH.pv rfl (fun _ _ _ _ h => h) (Gh.le_refl _) PickC.pick rfl (PV.field rfl Fo116_1 rfl) ?_
               refine RH.ot rfl rfl (OT.storeF (F := cellT) (val := Sl.v) (cv := fun u => [u.v]) (u := ⟨v82, (gd xs 0).shapes.xs ++ [⟨3, ⟨30, 0, 40, 1⟩⟩]⟩) (st := Cell.s1) rfl Sz83 rfl rfl rfl (Cl.s (v := v82) SlF.o) rfl (OneC.sl SlF.o OneC.nil) (by exact set_self (by omega)) (by first | omega | (simp; omega)) rfl (fun _ _ => rfl) ⟨Gh.le_refl _, PickC.pick, ?_⟩)
               refine RH.nil ?_
               exact ⟨rfl, (xs.set 0 (Cell.s1 ⟨v82, (gd xs 0).shapes.xs ++ [⟨3, ⟨30, 0, 40, 1⟩⟩]⟩ (gd xs 0))), ⟨h3.l.set (hcl v82), by simpa using hx2.1, by simpa using hx2.2⟩, trivial, ⟨(by kernel_rfl), (by kernel_rfl), trivial⟩, ((Cv.p (C := osl 142 shapeT v82 ((gd xs 0).shapes.xs ++ [⟨3, ⟨30, 0, 40, 1⟩⟩]) :: bag (((shs xs).map (ownS 142 shapeT)).set 0 emp) :: osl 116 cellT q (xs.set 0 (Cell.s1 ⟨v82, (gd xs 0).shapes.xs ++ [⟨3, ⟨30, 0, 40, 1⟩⟩]⟩ (gd xs 0))) :: bagS 195 instT (ins xs) :: bagS 193 labelT (lbs xs) :: blk b3 31 [q] :: blk b2 31 [.slice none 0 0] :: src b cv :: L)).trans ((Cv.bagS_put 0 (by omega)).trans (by rw [← e3 v82, ← e1 v82, ← e2 v82]; exact Cv.p)))⟩
             · refine RH.ot rfl rfl (OT.pv (PV.loadF (F := cellT) (v := q) (i := 0) (j := 1) rfl Sc83 rfl rfl (El.o (getG (by omega))) rfl) ⟨Gh.le_refl _, PickC.pick, ?_⟩)
               refine RH.ot rfl rfl (OT.append (v := (gd xs 0).shapes.v) (u := v81) (F := shapeT) rfl El83 rfl (by decide) rfl rfl Rs.o (OneL.c (fun _ => rfl)) rfl (by first | omega | (simp <;> omega)) fun v82 => ⟨Gh.le_refl _, PickC.pick, ?_⟩)
               refine RH.pv rfl (fun _ _ _ _ h => h) (Gh.le_refl _) PickC.pick rfl (PV.idxS (j := 0) (v := q) rfl Is29 rfl (SlF.i hIq) rfl (by first | omega | (simp only [List.length_cons, List.length_nil]; omega)) (by first | omega | (simp only [List.length_cons, List.length_nil]; omega))) ?_
               refine RH.pv rfl (fun _ _ _ _ h => h) (Gh.le_refl _) PickC.pick rfl (PV.field rfl Fo116_1 rfl) ?_
               refine RH.ot rfl rfl (OT.storeF (F := cellT) (val := Sl.v) (cv := fun u => [u.v]) (u := ⟨v82, (gd xs 0).shapes.xs ++ [⟨3, ⟨30, 0, 40, 1⟩⟩]⟩) (st := Cell.s1) rfl Sz83 rfl rfl rfl (Cl.s (v := v82) SlF.o) rfl (OneC.sl SlF.o OneC.nil) (by exact set_self (by omega)) (by first | omega | (simp; omega)) rfl (fun _ _ => rfl) ⟨Gh.le_refl _, PickC.pick, ?_⟩)
               refine RH.nil ?_
               exact ⟨rfl, (xs.set 0 (Cell.s1 ⟨v82, (gd xs 0).shapes.xs ++ [⟨3, ⟨30, 0, 40, 1⟩⟩]⟩ (gd xs 0))), ⟨h3.l.set (hcl v82), by simpa using hx2.1, by simpa using hx2.2⟩, trivial, ⟨(by kernel_rfl), (by kernel_rfl), trivial⟩, ((Cv.p (C := osl 142 shapeT v82 ((gd xs 0).shapes.xs ++ [⟨3, ⟨30, 0, 40, 1⟩⟩]) :: bag (((shs xs).map (ownS 142 shapeT)).set 0 emp) :: osl 116 cellT q (xs.set 0 (Cell.s1 ⟨v82, (gd xs 0).shapes.xs ++ [⟨3, ⟨30, 0, 40, 1⟩⟩]⟩ (gd xs 0))) :: bagS 195 instT (ins xs) :: bagS 193 labelT (lbs xs) :: blk b3 31 [q] :: blk b2 31 [.slice none 0 0] :: src b cv :: L)).trans ((Cv.bagS_put 0 (by omega)).trans (by rw [← e3 v82, ← e1 v82, ← e2 v82]; exact Cv.p)))⟩
         · refine WP.skip ?_
           exact ⟨rfl, xs, ⟨h3.l, hx2.1, hx2.2⟩, trivial, ⟨(by kernel_rfl), (by kernel_rfl), trivial⟩, Cv.p⟩
   rintro ys τ4 ⟨j1, j2, j3⟩
   refine WP.seq (WP.region (RG.pv rfl (PV.loadW rfl Ag31 rfl rfl) ?_))
   refine RG.ot rfl (OT.storeW (vs := [_]) rfl Sz31 rfl rfl (Cl.c rfl) rfl rfl (OneC.sl (SlF.o (v := q)) OneC.nil) ?_)
   refine RG.nil ?_
   refine WP.ret ?_
   exact ⟨_, _, ResV.one rfl (RV1.cell rfl Ag31 rfl), Cv.p, k q ys j1 j2 j3⟩
theorem dCell_s {cv : Value} {bs : List UInt8} (hcode : SL G byteT cv bs) (k : ∀ v xs n, CellsL xs → R (.tuple #[vT libT ⟨⟨v, xs⟩⟩, vi n]) G (osl 116 cellT v (xs) :: bagS 142 shapeT (shs (xs)) :: bagS 193 labelT (lbs (xs)) :: bagS 195 instT (ins (xs)) :: L)) : CallT Tryz.prog 44 #[cv] G L R := by
 refine CallT.enter (args := _) Tryz.func44 rfl rfl (by kernel_rfl) rfl ?_
 refine WP.seq (WP.region ?_)
 refine RG.ot rfl (OT.alloc rfl Zr31 fun b2 => ?_)
 refine RG.mr rfl rfl rfl (RG.nil (WP.seq (WP.region (RG.pv rfl (PV.move (v := cv) rfl rfl) ?_))))
 refine RG.callF (vs := [cv]) rfl rfl En78 rfl (from_s hcode (fun b => ?_))
 refine RG.pv rfl (PV.asg rfl rfl) (RG.nil (WP.seq (WP.region (RG.pv rfl (PV.move rfl rfl) ?_))))
 refine RG.callF (vs := [_]) rfl rfl En79 rfl (dLib_s hcode (fun w9 xs hx hx2 hx3 => ?_))
 refine RG.ot rfl (OT.alloc rfl Zr31 fun b5 => ?_)
 refine RG.ot rfl (OT.storeW (vs := [_]) rfl Sz31 rfl rfl (Cl.c rfl) rfl rfl (OneC.sl (SlF.o (v := w9)) OneC.nil) ?_)
 refine RG.nil (WP.seq (WP.seq (WP.region (RG.pv rfl (PV.move rfl rfl) ?_))))
 refine RG.callF (vs := [_, _]) rfl rfl En80 rfl (CallT.exC (src b cv) (next_s hcode (by omega) (fun w11 hw11 => ?_)))
 refine RG.pv rfl (PV.eql rfl rfl rfl) (RG.nil ?_)
 refine WP.cond rfl (fun h1 => ?_) (fun h1 => ?_)
 · refine WP.seq ?_
   refine WP.regionHD [.b b2] (.q 0 (.q 1 (.l 2 (.q 3 (.l 4 (.q 5 Sch.nil)))))) (by kernel_rfl) (by kernel_rfl) (by kernel_rfl) rfl ?_
   refine RH.pv rfl (fun _ _ _ _ h => h) (Gh.le_refl _) PickC.pick rfl (PV.loadW rfl Ag31 rfl rfl) ?_
   refine RH.pv rfl (fun _ _ _ _ h => h) (Gh.le_refl _) PickC.pick rfl (PV.move rfl rfl) ?_
   refine RH.ot rfl rfl (OT.callF (vs := [_, _]) rfl En80 rfl (CallT.exC (src b cv) (next_s hcode (by omega) (fun w15 hw15 => ⟨Gh.le_refl _, PickC.pick, ?_⟩))))
   refine RH.pv rfl (fun _ _ _ _ h => h) (Gh.le_refl _) PickC.pick rfl (PV.sub rfl rfl rfl (by omega)) ?_
   refine RH.ot rfl rfl (OT.storeW (vs := [_]) rfl Sz31 rfl rfl (Cl.c rfl) rfl rfl (OneC.sl (SlF.o (v := w9)) OneC.nil) ⟨Gh.le_refl _, PickC.pick, ?_⟩)
   refine RH.pv rfl (fun _ _ _ _ h => h) (Gh.le_refl _) PickC.pick rfl (PV.mvI (.inr rfl) rfl) ?_
   refine RH.nil ?_
   refine WP.ret ?_
   exact ⟨_, _, ResV.two rfl (RV1.cell rfl Ag31 rfl) rfl, Cv.p, k w9 xs _ hx⟩
 · skip
   refine WP.skip (WP.seq ?_)
   refine WP.regionHD [.b b2] (.q 0 (.q 1 (.q 2 (.q 3 (.q 4 (.l 5 (.q 6 Sch.nil))))))) (by kernel_rfl) (by kernel_rfl) (by kernel_rfl) rfl ?_
   refine RH.pv rfl (fun _ _ _ _ h => h) (Gh.le_refl _) PickC.pick rfl (PV.loadW rfl Ag31 rfl rfl) ?_
   refine RH.pv rfl (fun _ _ _ _ h => h) (Gh.le_refl _) PickC.pick rfl (PV.field rfl Fo31_0 rfl) ?_
   refine RH.pv rfl (fun _ _ _ _ h => h) (Gh.le_refl _) PickC.pick rfl (PV.load1 rfl Sc29 rfl (Rd.blk rfl)) ?_
   refine RH.pv rfl (fun _ _ _ _ h => h) (Gh.le_refl _) PickC.pick rfl (PV.len (v := w9) rfl Tryz.underlying29 rfl SlF.o) ?_
   refine RH.pv rfl (fun _ _ _ _ h => h) (Gh.le_refl _) PickC.pick rfl (PV.sub rfl rfl rfl (by omega)) ?_
   refine RH.ot rfl rfl (OT.storeW (vs := [_]) rfl Sz31 rfl rfl (Cl.c rfl) rfl rfl (OneC.sl (SlF.o (v := w9)) OneC.nil) ⟨Gh.le_refl _, PickC.pick, ?_⟩)
   refine RH.pv rfl (fun _ _ _ _ h => h) (Gh.le_refl _) PickC.pick rfl (PV.mvI (.inr rfl) rfl) ?_
   refine RH.nil ?_
   refine WP.ret ?_
   exact ⟨_, _, ResV.two rfl (RV1.cell rfl Ag31 rfl) rfl, Cv.p, k w9 xs _ hx⟩
end Go.Proofs.YthhjapiggekjbaaGreat
namespace Go.Proofs.YthhjapiggekjbaaGreat
set_option linter.unusedVariables false
set_option linter.unusedSimpArgs false
open Go
set_option maxRecDepth 20000
set_option linter.unusedSimpArgs false
variable {G : Gh} {L : List Ch} {R : Value → Gh → List Ch → Prop}
theorem sameRs_s {v u : Value} {xs ys : List Rect} (h1 : Rs G L rectT v xs) (h2 : Rs G L rectT u ys) (k : R (.bool (decide (xs = ys))) G L) : CallT Tryz.prog 54 #[v, u] G L R := by
 refine CallT.bd h1 fun hb => ?_
 refine CallT.bd h2 fun hb' => ?_
 refine CallT.enter (args := _) Tryz.func54 rfl rfl (by kernel_rfl) rfl ?_
 refine WP.seq (WP.region (RG.br rfl rfl rfl (RG.nil (WP.seq (WP.seq (WP.region (RG.pv rfl (PV.move (v := v) rfl rfl) ?_)))))))
 refine RG.pv rfl (PV.len (v := v) rfl Tryz.underlying50 rfl (SlF.r h1)) (RG.pv rfl (PV.move (v := u) rfl rfl) (RG.pv rfl (PV.len (v := u) rfl Tryz.underlying50 rfl (SlF.r h2)) (RG.pv rfl (PV.neq rfl rfl rfl) (RG.nil ?_))))
 refine WP.cond rfl (fun h3 => ?_) (fun h3 => ?_)
 · have e : decide (xs = ys) = false := by
     rw [decide_eq_false_iff_not]; rintro rfl; simp at h3
   rw [e] at k
   refine WP.seq (WP.region (RG.br rfl rfl rfl (RG.nil ?_)))
   refine WP.ret ?_
   exact ⟨_, _, ResV.one rfl rfl, Cv.p, k⟩
 · have hl : xs.length = ys.length := by simp at h3; omega
   refine WP.skip (WP.seq (WP.seq (WP.region (RG.mr rfl rfl rfl (RG.nil (WP.block ?_))))))
   refine WP.loop1 [0, 1] (fun i => i ≤ xs.length ∧ ∀ j, j < i → xs[j]? = ys[j]?) (fun i => [(5, vi i)]) (fun i => L) (fun i => xs.length - i) 0 ⟨by omega, fun j h => by omega⟩ ⟨rfl, trivial⟩ Cv.p ?_
   rintro i τ ⟨hi, he⟩
   refine WP.seq (WP.seq (WP.region (RG.ml rfl rfl rfl (RG.pv rfl (PV.move (v := v) rfl rfl) (RG.pv rfl (PV.len (v := v) rfl Tryz.underlying50 rfl (SlF.r h1)) (RG.pv rfl (PV.lss rfl rfl rfl) (RG.nil ?_)))))))
   refine WP.cond rfl (fun h4 => ?_) (fun h4 => ?_)
   · have h4 := of_decide_eq_true h4
     have h5 : i < xs.length := by omega
     refine WP.skip (WP.seq (WP.block (WP.seq ?_)))
     refine WP.regionQ (by kernel_rfl) (by kernel_rfl) ?_
     refine RQ.pv rfl (PV.move (v := v) rfl rfl) ?_
     refine RQ.pv rfl (PV.mvI (.inl rfl) rfl) ?_
     refine RQ.pv rfl (PV.idxS (v := v) rfl Is50 rfl (SlF.r h1) rfl rfl (by omega)) ?_
     refine RQ.pv rfl (PV.loadE rfl Ag140 rfl rfl (El.r h1 (getG (by omega)))) ?_
     refine RQ.pv rfl (PV.move (v := u) rfl rfl) ?_
     refine RQ.pv rfl (PV.mvI (.inl rfl) rfl) ?_
     refine RQ.pv rfl (PV.idxS (v := u) rfl Is50 rfl (SlF.r h2) rfl rfl (by omega)) ?_
     refine RQ.pv rfl (PV.loadE rfl Ag140 rfl rfl (El.r h2 (getG (by omega)))) ?_
     refine RQ.pv rfl (PV.neqT rfl Eq140 rfl rfl) ?_
     refine RQ.nil ?_
     refine WP.cond rfl (fun h6 => ?_) (fun h6 => ?_)
     · have e : decide (xs = ys) = false := by
         rw [decide_eq_false_iff_not]; rintro rfl; simp at h6
       rw [e] at k
       refine WP.seq (WP.region (RG.br rfl rfl rfl (RG.nil ?_)))
       refine WP.ret ?_
       exact ⟨_, _, ResV.one rfl rfl, Cv.p, k⟩
     · have e : gd xs i = gd ys i := by simpa using h6
       have he' : ∀ j, j < i + 1 → xs[j]? = ys[j]? := fun j h => by
         by_cases c : j = i
         · rw [c, getG h5, getG (show i < ys.length by omega), e]
         · exact he j (by omega)
       refine WP.skip (WP.region (RG.ml rfl rfl rfl (RG.pv rfl (PV.add rfl rfl rfl (by omega)) (RG.mr rfl rfl rfl (RG.nil ?_)))))
       exact ⟨rfl, i + 1, ⟨by omega, he'⟩, ⟨rfl, trivial⟩, ⟨rfl, rfl, trivial⟩, Cv.p, by omega⟩
   · have h4 := of_decide_eq_false h4
     have e : decide (xs = ys) = true := by
       rw [decide_eq_true_iff]; exact pre_eq he hl (by omega)
     rw [e] at k
     refine WP.exit ?_
     refine WP.seq (WP.region (RG.br rfl rfl rfl (RG.nil ?_)))
     refine WP.ret ?_
     exact ⟨_, _, ResV.one rfl rfl, Cv.p, k⟩
end Go.Proofs.YthhjapiggekjbaaGreat
namespace Go.Proofs.YthhjapiggekjbaaGreat
set_option linter.unusedVariables false
set_option linter.unusedSimpArgs false
open Go
set_option maxRecDepth 20000
set_option maxHeartbeats 1000000
set_option linter.unusedSimpArgs false
variable {G : Gh} {L : List Ch} {R : Value → Gh → List Ch → Prop}
theorem sameNets_s {v u : Value} {zs ws : List Net} (h1 : Rs G L netT v zs) (hp : RsE G L pieceT (nps zs)) (hr : ∀ i, i < zs.length → RsE G L rectT (regs (gd zs i).pieces.xs)) (h2 : Rs G L netT u ws) (hp' : RsE G L pieceT (nps ws)) (hr' : ∀ i, i < ws.length → RsE G L rectT (regs (gd ws i).pieces.xs)) (he : erN zs = erN ws) (k : R (.bool true) G L) : CallT Tryz.prog 27 #[v, u] G L R := by
 have hl : zs.length = ws.length := by have := congrArg List.length he; rwa [erN_len, erN_len] at this
 refine CallT.bd h1 fun hb => ?_
 refine CallT.bd h2 fun hb' => ?_
 refine CallT.enter (args := _) Tryz.func27 rfl rfl (by kernel_rfl) rfl ?_
 refine WP.seq (WP.region (RG.br rfl rfl rfl (RG.nil (WP.seq (WP.seq (WP.region (RG.pv rfl (PV.move (v := v) rfl rfl) ?_)))))))
 refine RG.pv rfl (PV.len (v := v) rfl Tryz.underlying44 rfl (SlF.r h1)) (RG.pv rfl (PV.move (v := u) rfl rfl) (RG.pv rfl (PV.len (v := u) rfl Tryz.underlying44 rfl (SlF.r h2)) (RG.pv rfl (PV.neq rfl rfl rfl) (RG.nil ?_))))
 refine WP.cond rfl (fun h3 => ?_) (fun h3 => ?_)
 · exfalso; simp [hl] at h3
 · refine WP.skip ?_
   refine WP.seq (WP.seq (WP.region (RG.mr rfl rfl rfl (RG.nil (WP.block ?_)))))
   refine WP.loop1 [0, 1] (fun i => i ≤ zs.length) (fun i => [(5, vi i)]) (fun i => L) (fun i => zs.length - i) 0 (by omega) ⟨rfl, trivial⟩ Cv.p ?_
   rintro i τ hi
   refine WP.seq (WP.seq (WP.region (RG.ml rfl rfl rfl (RG.pv rfl (PV.move (v := v) rfl rfl) (RG.pv rfl (PV.len (v := v) rfl Tryz.underlying44 rfl (SlF.r h1)) (RG.pv rfl (PV.lss rfl rfl rfl) (RG.nil ?_)))))))
   refine WP.cond rfl (fun h4 => ?_) (fun h4 => ?_)
   · have h4 := of_decide_eq_true h4
     have h5 : i < zs.length := by omega
     have h6 : i < ws.length := by omega
     have g1 := hp i (by rw [nps_len]; exact h5)
     have g2 := hp' i (by rw [nps_len]; exact h6)
     rw [nps_gd h5] at g1
     rw [nps_gd h6] at g2
     have he1 : erPs (gd zs i).pieces.xs = erPs (gd ws i).pieces.xs := by rw [← erN_gd h5, ← erN_gd h6, he]
     have hl1 : (gd zs i).pieces.xs.length = (gd ws i).pieces.xs.length := by have := congrArg List.length he1; rwa [erPs_len, erPs_len] at this
     refine WP.bd g1 fun hb1 => ?_
     refine WP.skip (WP.seq (WP.block (WP.seq (WP.seq ?_))))
     refine WP.regionQ (by kernel_rfl) (by kernel_rfl) ?_
     refine RQ.pv rfl (PV.move (v := v) rfl rfl) ?_
     refine RQ.pv rfl (PV.mvI (.inl rfl) rfl) ?_
     refine RQ.pv rfl (PV.idxS (v := v) rfl Is44 rfl (SlF.r h1) rfl rfl (by omega)) ?_
     refine RQ.pv rfl (PV.field rfl Fo80_0 rfl) ?_
     refine RQ.pv rfl (PV.loadF rfl Sc78 rfl rfl (El.r h1 (getG (by omega))) rfl) ?_
     refine RQ.pv rfl (PV.len rfl Tryz.underlying78 rfl (SlF.r g1)) ?_
     refine RQ.pv rfl (PV.move (v := u) rfl rfl) ?_
     refine RQ.pv rfl (PV.mvI (.inl rfl) rfl) ?_
     refine RQ.pv rfl (PV.idxS (v := u) rfl Is44 rfl (SlF.r h2) rfl rfl (by omega)) ?_
     refine RQ.pv rfl (PV.field rfl Fo80_0 rfl) ?_
     refine RQ.pv rfl (PV.loadF rfl Sc78 rfl rfl (El.r h2 (getG (by omega))) rfl) ?_
     refine RQ.pv rfl (PV.len rfl Tryz.underlying78 rfl (SlF.r g2)) ?_
     refine RQ.pv rfl (PV.neq rfl rfl rfl) ?_
     refine RQ.nil ?_
     refine WP.cond rfl (fun h7 => ?_) (fun h7 => ?_)
     · exfalso; simp [hl1] at h7
     · refine WP.skip ?_
       refine WP.seq (WP.region (RG.mr rfl rfl rfl (RG.nil (WP.block ?_))))
       refine WP.loop1 [0, 1, 5] (fun m => m ≤ (gd zs i).pieces.xs.length) (fun m => [(6, vi m)]) (fun m => L) (fun m => (gd zs i).pieces.xs.length - m) 0 (by omega) ⟨rfl, trivial⟩ Cv.p ?_
       rintro m τ1 hm
       refine WP.seq (WP.seq (WP.region (RG.ml rfl rfl rfl (RG.pv rfl (PV.move (v := v) rfl rfl) (RG.ml rfl rfl rfl (RG.pv rfl (PV.idxS (v := v) rfl Is44 rfl (SlF.r h1) rfl rfl (by omega)) (RG.pv rfl (PV.field rfl Fo80_0 rfl) ?_)))))))
       refine RG.pv rfl (PV.loadF rfl Sc78 rfl rfl (El.r h1 (getG (by omega))) rfl) (RG.pv rfl (PV.len rfl Tryz.underlying78 rfl (SlF.r g1)) (RG.pv rfl (PV.lss rfl rfl rfl) (RG.nil ?_)))
       refine WP.cond rfl (fun h8 => ?_) (fun h8 => ?_)
       · have h8 := of_decide_eq_true h8
         have h9 : m < (gd zs i).pieces.xs.length := by omega
         have h10 : m < (gd ws i).pieces.xs.length := by omega
         have hq1 := RsE.reg (hr i h5) h9
         have hq2 := RsE.reg (hr' i h6) h10
         have he2 : erP (gd (gd zs i).pieces.xs m) = erP (gd (gd ws i).pieces.xs m) := by rw [← erPs_gd h9, ← erPs_gd h10, he1]
         have he3 : (gd (gd zs i).pieces.xs m).layer = (gd (gd ws i).pieces.xs m).layer := congrArg Prod.fst he2
         have he4 : (gd (gd zs i).pieces.xs m).reg.xs = (gd (gd ws i).pieces.xs m).reg.xs := congrArg Prod.snd he2
         refine WP.skip (WP.seq (WP.block (WP.seq ?_)))
         refine WP.regionQ (by kernel_rfl) (by kernel_rfl) ?_
         refine RQ.pv rfl (PV.move (v := v) rfl rfl) ?_
         refine RQ.pv rfl (PV.mvI (.inl rfl) rfl) ?_
         refine RQ.pv rfl (PV.idxS (j := i) (v := v) rfl Is44 rfl (SlF.r h1) rfl (by omega) (by omega)) ?_
         refine RQ.pv rfl (PV.field rfl Fo80_0 rfl) ?_
         refine RQ.pv rfl (PV.loadF rfl Sc78 rfl rfl (El.r h1 (getG (by omega))) rfl) ?_
         refine RQ.pv rfl (PV.mvI (.inl rfl) rfl) ?_
         refine RQ.pv rfl (PV.idxS (j := m) rfl Is78 rfl (SlF.r g1) rfl (by omega) (by omega)) ?_
         refine RQ.pv rfl (PV.field rfl Fo63_0 rfl) ?_
         refine RQ.pv rfl (PV.loadF rfl Sc2 rfl rfl (El.r g1 (getG (by omega))) rfl) ?_
         refine RQ.pv rfl (PV.move (v := u) rfl rfl) ?_
         refine RQ.pv rfl (PV.mvI (.inl rfl) rfl) ?_
         refine RQ.pv rfl (PV.idxS (j := i) (v := u) rfl Is44 rfl (SlF.r h2) rfl (by omega) (by omega)) ?_
         refine RQ.pv rfl (PV.field rfl Fo80_0 rfl) ?_
         refine RQ.pv rfl (PV.loadF rfl Sc78 rfl rfl (El.r h2 (getG (by omega))) rfl) ?_
         refine RQ.pv rfl (PV.mvI (.inl rfl) rfl) ?_
         refine RQ.pv rfl (PV.idxS (j := m) rfl Is78 rfl (SlF.r g2) rfl (by omega) (by omega)) ?_
         refine RQ.pv rfl (PV.field rfl Fo63_0 rfl) ?_
         refine RQ.pv rfl (PV.loadF rfl Sc2 rfl rfl (El.r g2 (getG (by omega))) rfl) ?_
         refine RQ.pv rfl (PV.neq rfl rfl rfl) ?_
         refine RQ.pv rfl (PV.mvB (.inl rfl) rfl) ?_
         refine RQ.gs rfl rfl rfl (fun hp => (PV.move (v := v) rfl rfl)) ?_
         refine RQ.gs rfl rfl rfl (fun hp => (PV.mvI (.inl rfl) rfl)) ?_
         refine RQ.gs rfl rfl rfl (fun hp => (PV.idxS (j := i) (v := v) rfl Is44 (gs_t hp) (SlF.r h1) (gs_t hp) (by first | omega | (simp at hp; omega)) (by first | omega | (simp at hp; omega)))) ?_
         refine RQ.gs rfl rfl rfl (fun hp => (PV.field rfl Fo80_0 (gs_t hp))) ?_
         refine RQ.gs rfl rfl rfl (fun hp => (PV.loadF rfl Sc78 (gs_t hp) rfl (El.r h1 (getG (by first | omega | (simp at hp; omega)))) rfl)) ?_
         refine RQ.gs rfl rfl rfl (fun hp => (PV.mvI (.inl rfl) rfl)) ?_
         refine RQ.gs rfl rfl rfl (fun hp => (PV.idxS (j := m) rfl Is78 (gs_t hp) (SlF.r g1) (gs_t hp) (by first | omega | (simp at hp; omega)) (by first | omega | (simp at hp; omega)))) ?_
         refine RQ.gs rfl rfl rfl (fun hp => (PV.field rfl Fo63_1 (gs_t hp))) ?_
         refine RQ.gs rfl rfl rfl (fun hp => (PV.loadF rfl Sc50 (gs_t hp) rfl (El.r g1 (getG (by first | omega | (simp at hp; omega)))) rfl)) ?_
         refine RQ.gs rfl rfl rfl (fun hp => (PV.move (v := u) rfl rfl)) ?_
         refine RQ.gs rfl rfl rfl (fun hp => (PV.mvI (.inl rfl) rfl)) ?_
         refine RQ.gs rfl rfl rfl (fun hp => (PV.idxS (j := i) (v := u) rfl Is44 (gs_t hp) (SlF.r h2) (gs_t hp) (by first | omega | (simp at hp; omega)) (by first | omega | (simp at hp; omega)))) ?_
         refine RQ.gs rfl rfl rfl (fun hp => (PV.field rfl Fo80_0 (gs_t hp))) ?_
         refine RQ.gs rfl rfl rfl (fun hp => (PV.loadF rfl Sc78 (gs_t hp) rfl (El.r h2 (getG (by first | omega | (simp at hp; omega)))) rfl)) ?_
         refine RQ.gs rfl rfl rfl (fun hp => (PV.mvI (.inl rfl) rfl)) ?_
         refine RQ.gs rfl rfl rfl (fun hp => (PV.idxS (j := m) rfl Is78 (gs_t hp) (SlF.r g2) (gs_t hp) (by first | omega | (simp at hp; omega)) (by first | omega | (simp at hp; omega)))) ?_
         refine RQ.gs rfl rfl rfl (fun hp => (PV.field rfl Fo63_1 (gs_t hp))) ?_
         refine RQ.gs rfl rfl rfl (fun hp => (PV.loadF rfl Sc50 (gs_t hp) rfl (El.r g2 (getG (by first | omega | (simp at hp; omega)))) rfl)) ?_
         refine RQ.gsC rfl rfl rfl rfl En54 (fun hp => ⟨_, (acons (gs_t hp) (acons (gs_t hp) anil)), sameRs_s hq1.up hq2.up ⟨rfl, rfl, rfl⟩⟩) ?_
         refine RQ.gs rfl rfl rfl (fun hp => (PV.not rfl (gs_t hp))) ?_
         refine RQ.pv rfl (PV.pickO rfl rfl rfl (fun hq => gs_t (geqF hq))) ?_
         refine RQ.nil ?_
         refine WP.cond rfl (fun h11 => ?_) (fun h11 => ?_)
         · exfalso; simp [he3, he4] at h11
         · refine WP.skip ?_
           refine WP.region (RG.ml rfl rfl rfl (RG.pv rfl (PV.add rfl rfl rfl (by omega)) (RG.mr rfl rfl rfl (RG.nil ?_))))
           exact ⟨rfl, m + 1, (by omega), ⟨rfl, trivial⟩, ⟨rfl, rfl, rfl, trivial⟩, Cv.p, by omega⟩
       · have h8 := of_decide_eq_false h8
         refine WP.exit ?_
         refine WP.region (RG.ml rfl rfl rfl (RG.pv rfl (PV.add rfl rfl rfl (by omega)) (RG.mr rfl rfl rfl (RG.nil ?_))))
         exact ⟨rfl, i + 1, (by omega), ⟨rfl, trivial⟩, ⟨rfl, rfl, trivial⟩, Cv.p, by omega⟩
   · refine WP.exit ?_
     refine WP.seq (WP.region (RG.br rfl rfl rfl (RG.nil ?_)))
     refine WP.ret ?_
     exact ⟨_, _, ResV.one rfl rfl, Cv.p, k⟩
theorem dHN_s {cv : Value} {bs : List UInt8} (hcode : SL G byteT cv bs) (k : ∀ v xs n, CellsL xs → R (.tuple #[vT libT ⟨⟨v, xs⟩⟩, vi n]) G (osl 116 cellT v (xs) :: bagS 142 shapeT (shs (xs)) :: bagS 193 labelT (lbs (xs)) :: bagS 195 instT (ins (xs)) :: L)) : CallT Tryz.prog 20 #[cv] G L R := by
 refine CallT.enter (args := _) Tryz.func20 rfl rfl (by kernel_rfl) rfl ?_
 refine WP.seq (WP.region ?_)
 refine RG.ot rfl (OT.alloc rfl Zr31 fun b2 => ?_)
 refine RG.mr rfl rfl rfl (RG.nil (WP.seq (WP.region (RG.pv rfl (PV.move (v := cv) rfl rfl) ?_))))
 refine RG.callF (vs := [cv]) rfl rfl En44 rfl (dCell_s hcode (fun w5 xs n hx => ?_))
 refine RG.pv rfl (PV.ext rfl rfl rfl) (RG.pv rfl (PV.ext rfl rfl rfl) ?_)
 refine RG.ot rfl (OT.storeW (vs := [_]) rfl Sz31 rfl rfl (Cl.c rfl) rfl rfl (OneC.sl (SlF.o (v := w5)) OneC.nil) ?_)
 refine RG.mr rfl rfl rfl (RG.nil ?_)
 refine WP.ret ?_
 exact ⟨_, _, ResV.two rfl (RV1.cell rfl Ag31 rfl) rfl, Cv.p, k w5 xs _ hx⟩
theorem hnC_no {cs : List ECell} {cell : Int} (h : hcC cs cell ≠ 0) : hnC cs cell = hcC cs cell := by rw [hnC, if_neg h]
theorem hnN_no {cs : List ECell} {cell : Int} (h : hnC cs cell ≠ 0) : hnN cs cell = [] := by rw [hnN, if_neg h]
theorem hnN_len {cs : List ECell} {cell : Int} {zs : List Net} (h : (er (nps zs)).map erPs = hnN cs cell) : zs.length = (hnN cs cell).length := by
 have := congrArg List.length h; rwa [List.length_map, er_len, nps_len] at this
theorem law_HierNets {cv : Value} {bs : List UInt8} (hcode : SL G byteT cv bs) (k : R (.bool true) G L) : CallT Tryz.prog 5 #[cv] G L R := by
 refine CallT.enter (args := _) Tryz.func5 rfl rfl (by kernel_rfl) rfl ?_
 refine WP.seq (WP.region (RG.br rfl rfl rfl (RG.nil (WP.seq (WP.seq (WP.region (RG.pv rfl (PV.move (v := cv) rfl rfl) ?_)))))))
 refine RG.callF (vs := [cv]) rfl rfl En19 rfl (big_s hcode ?_)
 refine RG.nil ?_
 refine WP.cond rfl (fun h0 => ?_) (fun h0 => ?_)
 · refine WP.seq ?_
   refine WP.region (RG.br rfl rfl rfl (RG.nil ?_))
   refine WP.ret ?_
   exact ⟨_, _, ResV.one rfl rfl, Cv.p, k⟩
 · refine WP.skip ?_
   refine WP.seq (WP.region (RG.pv rfl (PV.move (v := cv) rfl rfl) ?_))
   refine RG.callF (vs := [cv]) rfl rfl En20 rfl (dHN_s hcode (fun w21 xs n hx => ?_))
   refine RG.pv rfl (PV.move (v := .tuple _) rfl rfl) (RG.pv rfl (PV.ext rfl rfl rfl) (RG.pv rfl (PV.ext rfl rfl rfl) ?_))
   refine RG.ot rfl (OT.alloc rfl Zr31 fun b3 => ?_)
   refine RG.ot rfl (OT.storeW (vs := [_]) rfl Sz31 rfl rfl (Cl.c rfl) rfl rfl (OneC.sl (SlF.o (v := w21)) OneC.nil) ?_)
   refine RG.mr rfl rfl rfl (RG.nil (WP.seq (WP.region (RG.pv rfl (PV.loadW rfl Ag31 rfl rfl) (RG.ml rfl rfl rfl ?_)))))
   refine RG.callF (vs := [_, _]) rfl rfl En21 rfl (hier_i (l := ⟨⟨w21, xs⟩⟩) ⟨Rs.o, RsE.o, RsE.o, RsE.o⟩ hx.lenC (fun w27 zsw27 hew27 => ?_))
   refine RG.pv rfl (PV.move (v := .tuple _) rfl rfl) (RG.pv rfl (PV.ext (v := w27) rfl rfl rfl) (RG.pv rfl (PV.ext rfl rfl rfl) (RG.pv rfl (PV.asg (v := w27) rfl rfl) (RG.mr rfl rfl rfl (RG.nil (WP.seq (WP.region ?_)))))))
   refine RG.pv rfl (PV.loadW rfl Ag31 rfl rfl) (RG.ml rfl rfl rfl ?_)
   refine RG.callF (vs := [_, _]) rfl rfl En22 rfl (fly_i (l := ⟨⟨w21, xs⟩⟩) ⟨Rs.o, RsE.o, RsE.o, RsE.o⟩ hx.lenC (fun w33 ys hy => ?_))
   refine RG.pv rfl (PV.move (v := .tuple _) rfl rfl) (RG.pv rfl (PV.ext (v := w33) rfl rfl rfl) (RG.pv rfl (PV.ext rfl rfl rfl) (RG.pv rfl (PV.asg (v := w33) rfl rfl) (RG.mr rfl rfl rfl (RG.nil (WP.seq (WP.seq ?_)))))))
   refine WP.region (RG.ml rfl rfl rfl (RG.pv rfl (PV.neq rfl rfl rfl) (RG.nil ?_)))
   have hzl := hnN_len hew27
   refine WP.cond rfl (fun h1 => ?_) (fun h1 => ?_)
   · have h1 : shE (erCls xs) n ≠ 0 := by simpa using h1
     have e1 := ppC_no h1
     have e2 := hcC_pp (cs := erCls xs) (cell := n) (by rw [e1]; exact h1)
     have e3 := hnC_no (cs := erCls xs) (cell := n) (by rw [e2, e1]; exact h1)
     have e4 := hnN_no (cs := erCls xs) (cell := n) (by rw [e3, e2, e1]; exact h1)
     rw [e4] at hzl
     have hb : (decide (hnC (erCls xs) n = shE (erCls xs) n) && decide ((zsw27.length : Int) = 0)) = true := by rw [e3, e2, e1, hzl]; simp
     rw [← hb] at k
     refine WP.seq (WP.region (RG.ml rfl rfl rfl (RG.ml rfl rfl rfl (RG.pv rfl (PV.eql rfl rfl rfl) (RG.bl rfl rfl rfl ?_)))))
     refine RG.gs rfl rfl rfl (fun hp => (PV.move (v := w27) rfl rfl)) ?_
     refine RG.gs rfl rfl rfl (fun hp => (PV.len (v := w27) rfl Tryz.underlying44 (gs_t hp) SlF.o)) ?_
     refine RG.gs rfl rfl rfl (fun hp => (PV.eql rfl (gs_t hp) rfl)) ?_
     refine RG.pv rfl (PV.pickA rfl rfl (fun hq => gs_t (geqT hq)) rfl) (RG.br rfl rfl rfl (RG.nil ?_))
     refine WP.ret ?_
     exact ⟨_, _, ResV.one rfl rfl, Cv.p, k⟩
   · have h1 : shE (erCls xs) n = 0 := by simpa using h1
     refine WP.skip (WP.seq (WP.region (RG.pv rfl (PV.loadW rfl Ag31 rfl rfl) (RG.ml rfl rfl rfl ?_))))
     refine RG.callF (vs := [_, _]) rfl rfl En23 rfl (cross_prog (l := ⟨⟨w21, xs⟩⟩) ⟨Rs.o, RsE.o, RsE.o, RsE.o⟩ hx.lenC (fun w49 => ?_))
     refine RG.pv rfl (PV.move (v := .tuple _) rfl rfl) (RG.pv rfl (PV.ext (v := w49) rfl rfl rfl) (RG.pv rfl (PV.ext rfl rfl rfl) (RG.pv rfl (PV.asg (v := w49) rfl rfl) (RG.mr rfl rfl rfl (RG.nil (WP.seq (WP.seq ?_)))))))
     refine WP.region (RG.ml rfl rfl rfl (RG.pv rfl (PV.neq rfl rfl rfl) (RG.nil ?_)))
     refine WP.cond rfl (fun h2 => ?_) (fun h2 => ?_)
     · exfalso; simp [h1] at h2
     · refine WP.skip ?_
       refine WP.seq (WP.seq (WP.region (RG.pv rfl (PV.loadW rfl Ag31 rfl rfl) (RG.ml rfl rfl rfl ?_))))
       refine RG.callF (vs := [_, _]) rfl rfl En24 rfl (pp_i (l := ⟨⟨w21, xs⟩⟩) ⟨Rs.o, RsE.o, RsE.o, RsE.o⟩ hx.lenC (fun w57 qs hq => ?_))
       refine RG.pv rfl (PV.move (v := .tuple _) rfl rfl) (RG.pv rfl (PV.ext (v := w57) rfl rfl rfl) (RG.pv rfl (PV.ext rfl rfl rfl) (RG.pv rfl (PV.asg (v := w57) rfl rfl) (RG.mr rfl rfl rfl (RG.nil (WP.seq (WP.region ?_)))))))
       refine RG.ml rfl rfl rfl (RG.pv rfl (PV.neq rfl rfl rfl) (RG.nil ?_))
       refine WP.cond rfl (fun h3 => ?_) (fun h3 => ?_)
       · have h3 : ppC (erCls xs) n ≠ 0 := by simpa using h3
         have e2 := hcC_pp h3
         have e3 := hnC_no (cs := erCls xs) (cell := n) (by rw [e2]; exact h3)
         have e5 : ppC (erCls xs) n = 3 := by
           have h5 := ppC_yes h1
           by_cases c : 400 < (ppAll (erCls xs) n).length
           · rw [h5, decide_eq_true c]; rfl
           · rw [decide_eq_false c] at h5; exact absurd h5 h3
         have hb : (decide (hnC (erCls xs) n = ppC (erCls xs) n) && decide (ppC (erCls xs) n = 3)) = true := by rw [e3, e2, e5]; simp
         rw [← hb] at k
         refine WP.seq (WP.region (RG.ml rfl rfl rfl (RG.ml rfl rfl rfl (RG.pv rfl (PV.eql rfl rfl rfl) (RG.bl rfl rfl rfl ?_)))))
         refine RG.gs rfl rfl rfl (fun hp => (PV.mvI (.inl rfl) rfl)) ?_
         refine RG.gs rfl rfl rfl (fun hp => (PV.eql rfl (gs_t hp) rfl)) ?_
         refine RG.pv rfl (PV.pickA rfl rfl (fun hq => gs_t (geqT hq)) rfl) (RG.br rfl rfl rfl (RG.nil ?_))
         refine WP.ret ?_
         exact ⟨_, _, ResV.one rfl rfl, Cv.p, k⟩
       · have h3 : ppC (erCls xs) n = 0 := by simpa using h3
         refine WP.skip (WP.seq (WP.seq (WP.region (RG.pv rfl (PV.move (v := w49) rfl rfl) (RG.pv rfl (PV.len (v := w49) rfl Tryz.underlying50 rfl SlF.o) (RG.pv rfl (PV.gtr rfl rfl rfl) (RG.nil ?_)))))))
         refine WP.cond rfl (fun h4 => ?_) (fun h4 => ?_)
         · have h4 : 0 < (crL (erCls xs) n).length := by simpa using h4
           have e2 := hcC_cr h3 h4
           have e3 := hnC_no (cs := erCls xs) (cell := n) (by rw [e2]; decide)
           have e4 := hnN_no (cs := erCls xs) (cell := n) (by rw [e3, e2]; decide)
           rw [e4] at hzl
           have hb : (decide (hnC (erCls xs) n = 6) && decide ((zsw27.length : Int) = 0)) = true := by rw [e3, e2, hzl]; simp
           rw [← hb] at k
           refine WP.seq (WP.region (RG.ml rfl rfl rfl (RG.pv rfl (PV.eql rfl rfl rfl) (RG.bl rfl rfl rfl ?_))))
           refine RG.gs rfl rfl rfl (fun hp => (PV.move (v := w27) rfl rfl)) ?_
           refine RG.gs rfl rfl rfl (fun hp => (PV.len (v := w27) rfl Tryz.underlying44 (gs_t hp) SlF.o)) ?_
           refine RG.gs rfl rfl rfl (fun hp => (PV.eql rfl (gs_t hp) rfl)) ?_
           refine RG.pv rfl (PV.pickA rfl rfl (fun hq => gs_t (geqT hq)) rfl) (RG.br rfl rfl rfl (RG.nil ?_))
           refine WP.ret ?_
           exact ⟨_, _, ResV.one rfl rfl, Cv.p, k⟩
         · have h4 : ¬ 0 < (crL (erCls xs) n).length := by simpa using h4
           have e2 := hcC_ok h3 h4
           have e3 : hnC (erCls xs) n = netE (flyL (erCls xs) n) := by rw [hnC, if_pos e2]
           have hnet : hnN (erCls xs) n = netR (er ys) := by rw [hy, hnN, e3]; rfl
           refine WP.skip (WP.seq (WP.region (RG.pv rfl (PV.move (v := w33) rfl rfl) ?_)))
           refine RG.callF (vs := [w33]) rfl rfl En25 rfl (nets_i Rs.o RsE.o (fun w81 zsw81 hew81 => ?_))
           refine RG.pv rfl (PV.move (v := .tuple _) rfl rfl) (RG.pv rfl (PV.ext (v := w81) rfl rfl rfl) (RG.pv rfl (PV.ext rfl rfl rfl) (RG.pv rfl (PV.asg (v := w81) rfl rfl) (RG.mr rfl rfl rfl (RG.nil (WP.seq (WP.region ?_)))))))
           refine RG.pv rfl (PV.loadW rfl Ag31 rfl rfl) (RG.ml rfl rfl rfl ?_)
           refine RG.callF (vs := [_, _]) rfl rfl En26 rfl (hier_r (l := ⟨⟨w21, xs⟩⟩) ⟨Rs.o, RsE.o, RsE.o, RsE.o⟩ hx.lenC (fun w87 zsw87 hew87 => ?_))
           refine RG.pv rfl (PV.move (v := .tuple _) rfl rfl) (RG.pv rfl (PV.ext (v := w87) rfl rfl rfl) (RG.pv rfl (PV.ext rfl rfl rfl) (RG.pv rfl (PV.asg (v := w87) rfl rfl) (RG.mr rfl rfl rfl (RG.nil (WP.seq (WP.region ?_)))))))
           refine RG.ml rfl rfl rfl (RG.ml rfl rfl rfl (RG.pv rfl (PV.eql rfl rfl rfl) (RG.bl rfl rfl rfl ?_)))
           refine RG.gs rfl rfl rfl (fun hp => (PV.mvI (.inl rfl) rfl)) ?_
           refine RG.gs rfl rfl rfl (fun hp => (PV.mvI (.inl rfl) rfl)) ?_
           refine RG.gs rfl rfl rfl (fun hp => (PV.eql rfl (gs_t hp) (gs_t hp))) ?_
           refine RG.pv rfl (PV.pickA rfl rfl (fun hq => gs_t (geqT hq)) rfl) (RG.bl rfl rfl rfl ?_)
           refine RG.gs rfl rfl rfl (fun hp => (PV.move (v := w27) rfl rfl)) ?_
           refine RG.gs rfl rfl rfl (fun hp => (PV.len (v := w27) rfl Tryz.underlying44 (gs_t hp) SlF.o)) ?_
           refine RG.gs rfl rfl rfl (fun hp => (PV.move (v := w87) rfl rfl)) ?_
           refine RG.gs rfl rfl rfl (fun hp => (PV.len (v := w87) rfl Tryz.underlying44 (gs_t hp) SlF.o)) ?_
           refine RG.gs rfl rfl rfl (fun hp => (PV.eql rfl (gs_t hp) (gs_t hp))) ?_
           refine RG.pv rfl (PV.pickA rfl rfl (fun hq => gs_t (geqT hq)) rfl) (RG.bl rfl rfl rfl ?_)
           refine RG.gs rfl rfl rfl (fun hp => (PV.move (v := w27) rfl rfl)) ?_
           refine RG.gs rfl rfl rfl (fun hp => (PV.move (v := w81) rfl rfl)) ?_
           refine RG.gsC rfl rfl rfl rfl En27 (fun hp => ⟨_, (acons (gs_t hp) (acons (gs_t hp) anil)), sameNets_s (zs := zsw27) (ws := zsw81) Rs.o RsE.o (fun i hi => RsE.flat hi) Rs.o RsE.o (fun i hi => RsE.flat hi) (by rw [erN, erN, hew27, hew81, hnet]) ⟨rfl, rfl, rfl⟩⟩) ?_
           refine RG.pv rfl (PV.pickA rfl rfl (fun hq => gs_t (geqT hq)) rfl) (RG.br rfl rfl rfl (RG.nil ?_))
           refine WP.ret ?_
           have hzl2 := hnN_len hew87
           have hb : (decide (hnC (erCls xs) n = netE (er ys)) && decide (hnC (erCls xs) n = hnC (erCls xs) n) && decide ((zsw27.length : Int) = (zsw87.length : Int)) && true) = true := by rw [hy, e3, hzl, hzl2]; simp
           rw [← hb] at k
           exact ⟨_, _, ResV.one rfl rfl, Cv.p, k⟩
end Go.Proofs.YthhjapiggekjbaaGreat
namespace Go.Proofs.YthhjapiggekjbaaGreat
set_option linter.unusedVariables false
set_option linter.unusedSimpArgs false
open Go Go.ChangeShapes Go.WideShapes Go.ChangeAt Go.RowKit
set_option linter.unusedSimpArgs false
def okU8 (_ : Gh) (_ : UInt8) : Prop := True
theorem opnU8 {P : Program} {t : TypeId} (ht : P.underlying t = some (.int .u8)) : Opn P t byteT okU8 := fun h => by
 obtain ⟨n, rfl, _, hw⟩ := DataW.trod_int ht h
 have : IntKind.u8.min ≤ n ∧ n ≤ IntKind.u8.max := by simpa [Lit.wf] using hw
 simp only [show IntKind.u8.min = 0 from rfl, show IntKind.u8.max = 255 from rfl] at this
 refine ⟨UInt8.ofNat n.toNat, ?_, trivial⟩
 simp only [byteT, UInt8.toNat_ofNat']
 congr 2
 omega
set_option maxRecDepth 100000
theorem Tryz.own : ownKnob Tryz.prog.godebug = none := by kernel_rfl
theorem Tryz.laidOut : laidOutB Tryz.prog = true := by kernel_rfl
theorem fnHierNets_lifted (os : Os) (started : os.Started) (H : Type) (enc : TypeId × Value → H) :
   ReturnsInHanded {} Tryz.checked os 5 .any (Rows.fnHierNetsSpec.pre6 enc Tryz.prog Tryz.f5 [] false) (Rows.fnHierNetsSpec.post enc Tryz.prog Tryz.f5 false true false false) := by
 refine law_lifted (C := Tryz.checked) Tryz.own started (by kernel_rfl) Tryz.func5 Tryz.laidOut rfl (by kernel_rfl) rfl Tryz.underlying4 (fun ds h => ?_)
   (ChangeSpec.witness6 (enc := enc) (C := Tryz.checked) false ⟨#[], #[.slice none 0 0], []⟩ 8 (by kernel_rfl) (by kernel_rfl) (by kernel_rfl) (by kernel_rfl)) ?_
 · match ds, h with
   | [d], _ => rfl
 · intro W base args ds ps hval hA
   have hA : DataW.TrodAll enc Tryz.prog W 0 (fun _ => true) true Tryz.f5.params.toList args.toList ds ps := hA
   have hval : ∀ (j : Nat) t v, Tryz.f5.params[j]? = some t → args[j]? = some v → Value.okWide Tryz.prog W .any base t v := hval
   rw [Tryz.params5] at hA hval
   obtain ⟨v0, d0, rfl, rfl, h0⟩ := trodAll_one hA
   obtain ⟨s, rfl, q1, _⟩ := argSl Tryz.underlying40 (opnSl (F := byteT) (ok := okU8) Tryz.underlying40 (opnU8 Tryz.underlying5) (by kernel_rfl) (by decide)) (hval 0 _ v0 rfl rfl) h0
   exact law_HierNets q1 ⟨rfl, Gh.le_refl _⟩
theorem fnHierNets_holds : Rows.FnHierNetsSaid :=
 OpenClaim.holds_of_wide 5 Tryz.f5 rfl rfl rfl rfl rfl rfl rfl ⟨rfl, rfl, rfl, rfl, rfl⟩ rfl rfl rfl rfl rfl (by kernel_rfl) Tryz.func5 (by kernel_rfl)
   (of_decide_eq_true (by kernel_rfl)) (by unfold Func.isWrapper; first | (rw [if_pos (by decide +kernel)]; kernel_rfl) | (rw [if_neg (by decide +kernel)]; exact ⟨rfl, rfl⟩))
   (fun os started H enc _ => fnHierNets_lifted os started H enc)
end Go.Proofs.YthhjapiggekjbaaGreat
