/-
  Contracts of functions and plain facts that the last text of this folder uses, part 3.
-/
import Derived.Test.YthhjapiggekjbaaGreatVA2
namespace Go.Proofs.YthhjapiggekjbaaGreat
set_option linter.unusedVariables false
set_option linter.unusedSimpArgs false
open Go
set_option maxRecDepth 20000
set_option linter.unusedSimpArgs false
variable {G : Gh} {L : List Ch} {R : Value → Gh → List Ch → Prop}
theorem turn_s {o : Int} {p : Pt} (ho : 0 ≤ o ∧ o ≤ 7) (hp : InB 1000 p) (k : R (vpt (turnP o p)) G L) : CallT Tryz.prog 189 #[vi o, vpt p] G L R := by
 have hf : InB 1000 (flip o p) := flip_in hp
 obtain ⟨hp1, hp2, hp3, hp4⟩ := hp
 refine CallT.enter (args := _) Tryz.func189 rfl rfl (by kernel_rfl) rfl ?_
 refine WP.seq (WP.region ?_)
 refine RG.ot rfl (OT.box (cs := ptT.enc p) rfl rfl rfl fun b3 => ?_)
 refine RG.ot rfl (OT.alloc rfl Zr183 fun b4 => ?_)
 refine RG.nil ?_
 refine WP.cut1 [0, 3, 4] (fun (q : Pt) => q = flip o p) (fun (q : Pt) => []) (fun (q : Pt) => blk b3 183 (ptT.enc q) :: blk b4 183 [vi 0, vi 0] :: L) ?_ ?_
 refine WP.seq (WP.region (RG.ml rfl rfl rfl (RG.pv rfl (PV.geq rfl rfl rfl) (RG.nil ?_))))
 refine WP.cond rfl (fun h1 => ?_) (fun h1 => ?_)
 · have h1 := of_decide_eq_true h1
   refine WP.region (RG.pv rfl (PV.field rfl Fo183_1 rfl) (RG.pv rfl (PV.load1 rfl Sc2 rfl (Rd.blk rfl)) (RG.pv rfl (PV.neg rfl rfl (by omega)) (RG.pv rfl (PV.field rfl Fo183_1 rfl) ?_))))
   refine RG.ot rfl (OT.storeB (vs := [vi _]) (cs' := [_, _]) rfl Sz2 rfl rfl (Cl.c rfl) rfl (OneC.c rfl) rfl rfl ?_)
   refine RG.nil ?_
   exact ⟨rfl, (⟨p.x, -p.y⟩ : Pt), (by rw [flip, if_pos (by omega)]), trivial, ⟨rfl, rfl, rfl, trivial⟩, Cv.p⟩
 · have h1 := of_decide_eq_false h1
   refine WP.skip ?_
   exact ⟨rfl, p, (by rw [flip, if_neg (by omega)]), trivial, ⟨rfl, rfl, rfl, trivial⟩, Cv.p⟩
 rintro q τ1 hq
 refine WP.seq (WP.seq (WP.region (RG.ml rfl rfl rfl (RG.pv rfl (PV.rem rfl rfl rfl (by omega) (by omega) (by omega)) (RG.mr rfl rfl rfl (RG.nil (WP.block ?_)))))))
 subst hq
 refine WP.loop2 [3, 4] (fun (n : Int) (q : Pt) => (0 ≤ n ∧ n < 4) ∧ rot n.toNat q = turnP o p ∧ InB 1000 q) (fun (n : Int) (q : Pt) => [(5, vi n)]) (fun (n : Int) (q : Pt) => blk b3 183 (ptT.enc q) :: blk b4 183 [vi 0, vi 0] :: L) (fun (n : Int) (q : Pt) => n.toNat) (o % 4) (flip o p) ⟨by omega, rfl, hf⟩ ⟨rfl, trivial⟩ Cv.p ?_
 rintro n q τ ⟨hn, hr, hi1, hi2, hi3, hi4⟩
 refine WP.seq (WP.seq (WP.region (RG.ml rfl rfl rfl (RG.pv rfl (PV.gtr rfl rfl rfl) (RG.nil ?_)))))
 refine WP.cond rfl (fun h2 => ?_) (fun h2 => ?_)
 · have h2 := of_decide_eq_true h2
   refine WP.skip (WP.seq (WP.block (WP.region (RG.pv rfl (PV.field rfl Fo183_1 rfl) (RG.pv rfl (PV.load1 rfl Sc2 rfl (Rd.blk rfl)) (RG.pv rfl (PV.neg rfl rfl (by omega)) (RG.pv rfl (PV.field rfl Fo183_0 rfl) ?_)))))))
   refine RG.pv rfl (PV.load1 rfl Sc2 rfl (Rd.blk rfl)) (RG.pv rfl (PV.build (vs := [(0, [vi _]), (1, [vi _])]) (out := [_, _]) rfl Zr183 Pl183 ⟨rfl, (Cl.c rfl), ⟨rfl, (Cl.c rfl), trivial⟩⟩ rfl) ?_)
   refine RG.ot rfl (OT.storeW (vs := [vi _, vi _]) rfl Sz183 rfl rfl (Cl.c rfl) rfl rfl (OneC.c rfl) ?_)
   refine RG.nil (WP.region (RG.ml rfl rfl rfl (RG.pv rfl (PV.sub rfl rfl rfl (by omega)) (RG.mr rfl rfl rfl (RG.nil ?_)))))
   refine ⟨rfl, n - 1, ⟨-q.y, q.x⟩, ⟨by omega, ?_, by simp only; omega, by simp only; omega, hi1, hi2⟩, ⟨rfl, trivial⟩, ⟨rfl, rfl, trivial⟩, Cv.p, by omega⟩
   rw [← hr, show n.toNat = (n - 1).toNat + 1 by omega]; rfl
 · have h2 := of_decide_eq_false h2
   have e : turnP o p = q := by rw [← hr, show n.toNat = 0 by omega]; rfl
   rw [e] at k
   refine WP.exit ?_
   refine WP.seq (WP.region (RG.pv rfl (PV.loadW rfl Ag183 rfl rfl) ?_))
   refine RG.ot rfl (OT.storeW (vs := [vi _, vi _]) rfl Sz183 rfl rfl (Cl.c rfl) rfl rfl (OneC.c rfl) ?_)
   refine RG.nil ?_
   refine WP.ret ?_
   exact ⟨_, _, ResV.one rfl (RV1.cell rfl Ag183 rfl), Cv.p, k⟩
theorem move_s {t : Trans} {p : Pt} (ho : 0 ≤ t.o ∧ t.o ≤ 7) (ht : -1000 ≤ t.x ∧ t.x ≤ 1000 ∧ -1000 ≤ t.y ∧ t.y ≤ 1000) (hp : InB 1000 p) (k : R (vpt (moveP t p)) G L) : CallT Tryz.prog 135 #[vtrans t, vpt p] G L R := by
 obtain ⟨hq1, hq2, hq3, hq4⟩ : InB 1000 (turnP t.o p) := turnP_in hp
 refine CallT.enter (args := _) Tryz.func135 rfl rfl (by kernel_rfl) rfl ?_
 refine WP.seq (WP.region ?_)
 refine RG.ot rfl (OT.box (cs := transT.enc t) rfl rfl rfl fun b2 => ?_)
 refine RG.ot rfl (OT.box (cs := ptT.enc p) rfl rfl rfl fun b3 => ?_)
 refine RG.ot rfl (OT.alloc rfl Zr183 fun b4 => ?_)
 refine RG.nil (WP.seq (WP.region (RG.pv rfl (PV.field rfl Fo136_0 rfl) (RG.pv rfl (PV.load1 rfl Sc2 rfl (Rd.blk rfl)) (RG.pv rfl (PV.loadW rfl Ag183 rfl rfl) ?_)))))
 refine RG.callF (vs := [_, _]) rfl rfl En189 rfl (turn_s ho hp ?_)
 refine RG.ot rfl (OT.storeW (vs := [vi _, vi _]) rfl Sz183 rfl rfl (Cl.c rfl) rfl rfl (OneC.c rfl) ?_)
 refine RG.nil (WP.seq (WP.region (RG.pv rfl (PV.field rfl Fo183_0 rfl) (RG.pv rfl (PV.load1 rfl Sc2 rfl (Rd.blk rfl)) (RG.pv rfl (PV.field rfl Fo136_1 rfl) (RG.pv rfl (PV.load1 rfl Sc2 rfl (Rd.blk rfl)) (RG.pv rfl (PV.add rfl rfl rfl (by omega)) ?_)))))))
 refine RG.pv rfl (PV.field rfl Fo183_1 rfl) (RG.pv rfl (PV.load1 rfl Sc2 rfl (Rd.blk rfl)) (RG.pv rfl (PV.field rfl Fo136_2 rfl) (RG.pv rfl (PV.load1 rfl Sc2 rfl (Rd.blk rfl)) (RG.pv rfl (PV.add rfl rfl rfl (by omega)) (RG.pv rfl (PV.build (vs := [(0, [vi _]), (1, [vi _])]) (out := [_, _]) rfl Zr183 Pl183 ⟨rfl, (Cl.c rfl), ⟨rfl, (Cl.c rfl), trivial⟩⟩ rfl) ?_)))))
 refine RG.ot rfl (OT.storeW (vs := [vi _, vi _]) rfl Sz183 rfl rfl (Cl.c rfl) rfl rfl (OneC.c rfl) ?_)
 refine RG.nil ?_
 refine WP.ret ?_
 exact ⟨_, _, ResV.one rfl (RV1.cell rfl Ag183 rfl), Cv.p, k⟩
theorem RIn_pts {r : Rect} (h : RIn 40 r) : InB 1000 ⟨r.x0, r.y0⟩ ∧ InB 1000 ⟨r.x1, r.y1⟩ := by
 obtain ⟨h1, h2, h3, h4, h5, h6⟩ := h
 exact ⟨⟨by simp only; omega, by simp only; omega, by simp only; omega, by simp only; omega⟩, ⟨by simp only; omega, by simp only; omega, by simp only; omega, by simp only; omega⟩⟩
theorem moveRect_s {t : Trans} {r : Rect} (ho : 0 ≤ t.o ∧ t.o ≤ 7) (ht : -1000 ≤ t.x ∧ t.x ≤ 1000 ∧ -1000 ≤ t.y ∧ t.y ≤ 1000) (hr : RIn 40 r) (k : R (vrect (moveR t r)) G L) : CallT Tryz.prog 82 #[vtrans t, vrect r] G L R := by
 refine CallT.enter (args := _) Tryz.func82 rfl rfl (by kernel_rfl) rfl ?_
 refine WP.seq (WP.region ?_)
 refine RG.ot rfl (OT.box (cs := transT.enc t) rfl rfl rfl fun b2 => ?_)
 refine RG.ot rfl (OT.box (cs := rectT.enc r) rfl rfl rfl fun b3 => ?_)
 refine RG.ot rfl (OT.alloc rfl Zr140 fun b4 => ?_)
 refine RG.nil ?_
 refine WP.cut2 [4] (fun (b5 b6 : Nat) => True) (fun (b5 b6 : Nat) => [(5, .pointer (some ⟨b5, 0, none⟩)), (6, .pointer (some ⟨b6, 0, none⟩))]) (fun (b5 b6 : Nat) => blk b5 183 (ptT.enc (moveP t ⟨r.x0, r.y0⟩)) :: blk b6 183 (ptT.enc (moveP t ⟨r.x1, r.y1⟩)) :: blk b4 140 [vi 0, vi 0, vi 0, vi 0] :: L) ?_ ?_
 refine WP.regionH0 (.q 0 (.q 1 (.q 2 (.q 3 (.q 4 (.q 5 (.q 7 (.q 8 (.q 9 (.q 10 (.q 11 (.q 12 (.c 6 (.c 13 (.b 14 (.l 15 (.l 16 (.l 17 Sch.nil))) 15 (.l 14 (.l 16 (.l 17 Sch.nil)))) 14 (.b 13 (.l 15 (.l 16 (.l 17 Sch.nil))) 15 (.l 13 (.l 16 (.l 17 Sch.nil)))) 15 (.b 13 (.l 14 (.l 16 (.l 17 Sch.nil))) 14 (.l 13 (.l 16 (.l 17 Sch.nil))))) 14 (.b 6 (.b 13 (.l 15 (.l 16 (.l 17 Sch.nil))) 15 (.l 13 (.l 16 (.l 17 Sch.nil)))) 15 (.l 6 (.l 13 (.l 16 (.l 17 Sch.nil))))) 15 (.b 6 (.b 13 (.l 14 (.l 16 (.l 17 Sch.nil))) 14 (.l 13 (.l 16 (.l 17 Sch.nil)))) 14 (.l 6 (.l 13 (.l 16 (.l 17 Sch.nil)))))))))))))))))) (by kernel_rfl) (by kernel_rfl) (by kernel_rfl) rfl ?_
 refine RH.pv rfl (fun _ _ _ _ h => h) (Gh.le_refl _) PickC.pick rfl (PV.loadW rfl Ag136 rfl rfl) ?_
 refine RH.pv rfl (fun _ _ _ _ h => h) (Gh.le_refl _) PickC.pick rfl (PV.field rfl Fo140_0 rfl) ?_
 refine RH.pv rfl (fun _ _ _ _ h => h) (Gh.le_refl _) PickC.pick rfl (PV.load1 rfl Sc2 rfl (Rd.blk rfl)) ?_
 refine RH.pv rfl (fun _ _ _ _ h => h) (Gh.le_refl _) PickC.pick rfl (PV.field rfl Fo140_1 rfl) ?_
 refine RH.pv rfl (fun _ _ _ _ h => h) (Gh.le_refl _) PickC.pick rfl (PV.load1 rfl Sc2 rfl (Rd.blk rfl)) ?_
 refine RH.pv rfl (fun _ _ _ _ h => h) (Gh.le_refl _) PickC.pick rfl (PV.build (vs := [(0, [vi _]), (1, [vi _])]) (out := [_, _]) rfl Zr183 Pl183 ⟨rfl, (Cl.c rfl), ⟨rfl, (Cl.c rfl), trivial⟩⟩ rfl) ?_
 refine RH.pv rfl (fun _ _ _ _ h => h) (Gh.le_refl _) PickC.pick rfl (PV.loadW rfl Ag136 rfl rfl) ?_
 refine RH.pv rfl (fun _ _ _ _ h => h) (Gh.le_refl _) PickC.pick rfl (PV.field rfl Fo140_2 rfl) ?_
 refine RH.pv rfl (fun _ _ _ _ h => h) (Gh.le_refl _) PickC.pick rfl (PV.load1 rfl Sc2 rfl (Rd.blk rfl)) ?_
 refine RH.pv rfl (fun _ _ _ _ h => h) (Gh.le_refl _) PickC.pick rfl (PV.field rfl Fo140_3 rfl) ?_
 refine RH.pv rfl (fun _ _ _ _ h => h) (Gh.le_refl _) PickC.pick rfl (PV.load1 rfl Sc2 rfl (Rd.blk rfl)) ?_
 refine RH.pv rfl (fun _ _ _ _ h => h) (Gh.le_refl _) PickC.pick rfl (PV.build (vs := [(0, [vi _]), (1, [vi _])]) (out := [_, _]) rfl Zr183 Pl183 ⟨rfl, (Cl.c rfl), ⟨rfl, (Cl.c rfl), trivial⟩⟩ rfl) ?_
 · refine RH.ot3 rfl rfl rfl rfl rfl rfl  (OT.callF (vs := [_, _]) rfl En135 rfl (move_s (p := ⟨_, _⟩) ho ht (by first | exact (RIn_pts hr).1 | exact (RIn_pts hr).2) ⟨Gh.le_refl _, PickC.pick, ?_⟩)) (OT.alloc rfl Zr183 fun b5 => ⟨Gh.le_refl _, PickC.pick, ?_⟩) (OT.alloc rfl Zr183 fun b6 => ⟨Gh.le_refl _, PickC.pick, ?_⟩)
   · refine RH.ot3 rfl rfl rfl rfl rfl rfl  (OT.callF (vs := [_, _]) rfl En135 rfl (move_s (p := ⟨_, _⟩) ho ht (by first | exact (RIn_pts hr).1 | exact (RIn_pts hr).2) ⟨Gh.le_refl _, PickC.pick, ?_⟩)) (OT.alloc rfl Zr183 fun b5 => ⟨Gh.le_refl _, PickC.pick, ?_⟩) (OT.alloc rfl Zr183 fun b6 => ⟨Gh.le_refl _, PickC.pick, ?_⟩)
     · refine RH.ot2 rfl rfl rfl rfl  (OT.alloc rfl Zr183 fun b5 => ⟨Gh.le_refl _, PickC.pick, ?_⟩) (OT.alloc rfl Zr183 fun b6 => ⟨Gh.le_refl _, PickC.pick, ?_⟩)
       · refine RH.ot rfl rfl (OT.alloc rfl Zr183 fun b6 => ⟨Gh.le_refl _, PickC.pick, ?_⟩)
         refine RH.ot rfl rfl (OT.storeW (vs := [vi _, vi _]) rfl Sz183 rfl rfl (Cl.c rfl) rfl rfl (OneC.c rfl) ⟨Gh.le_refl _, PickC.pick, ?_⟩)
         refine RH.ot rfl rfl (OT.storeW (vs := [vi _, vi _]) rfl Sz183 rfl rfl (Cl.c rfl) rfl rfl (OneC.c rfl) ⟨Gh.le_refl _, PickC.pick, ?_⟩)
         refine RH.nil ?_
         exact ⟨rfl, b5, b6, trivial, ⟨rfl, rfl, trivial⟩, ⟨rfl, trivial⟩, Cv.p⟩
       · refine RH.ot rfl rfl (OT.alloc rfl Zr183 fun b5 => ⟨Gh.le_refl _, PickC.pick, ?_⟩)
         refine RH.ot rfl rfl (OT.storeW (vs := [vi _, vi _]) rfl Sz183 rfl rfl (Cl.c rfl) rfl rfl (OneC.c rfl) ⟨Gh.le_refl _, PickC.pick, ?_⟩)
         refine RH.ot rfl rfl (OT.storeW (vs := [vi _, vi _]) rfl Sz183 rfl rfl (Cl.c rfl) rfl rfl (OneC.c rfl) ⟨Gh.le_refl _, PickC.pick, ?_⟩)
         refine RH.nil ?_
         exact ⟨rfl, b5, b6, trivial, ⟨rfl, rfl, trivial⟩, ⟨rfl, trivial⟩, Cv.p⟩
     · refine RH.ot2 rfl rfl rfl rfl  (OT.callF (vs := [_, _]) rfl En135 rfl (move_s (p := ⟨_, _⟩) ho ht (by first | exact (RIn_pts hr).1 | exact (RIn_pts hr).2) ⟨Gh.le_refl _, PickC.pick, ?_⟩)) (OT.alloc rfl Zr183 fun b6 => ⟨Gh.le_refl _, PickC.pick, ?_⟩)
       · refine RH.ot rfl rfl (OT.alloc rfl Zr183 fun b6 => ⟨Gh.le_refl _, PickC.pick, ?_⟩)
         refine RH.ot rfl rfl (OT.storeW (vs := [vi _, vi _]) rfl Sz183 rfl rfl (Cl.c rfl) rfl rfl (OneC.c rfl) ⟨Gh.le_refl _, PickC.pick, ?_⟩)
         refine RH.ot rfl rfl (OT.storeW (vs := [vi _, vi _]) rfl Sz183 rfl rfl (Cl.c rfl) rfl rfl (OneC.c rfl) ⟨Gh.le_refl _, PickC.pick, ?_⟩)
         refine RH.nil ?_
         exact ⟨rfl, b5, b6, trivial, ⟨rfl, rfl, trivial⟩, ⟨rfl, trivial⟩, Cv.p⟩
       · refine RH.ot rfl rfl (OT.callF (vs := [_, _]) rfl En135 rfl (move_s (p := ⟨_, _⟩) ho ht (by first | exact (RIn_pts hr).1 | exact (RIn_pts hr).2) ⟨Gh.le_refl _, PickC.pick, ?_⟩))
         refine RH.ot rfl rfl (OT.storeW (vs := [vi _, vi _]) rfl Sz183 rfl rfl (Cl.c rfl) rfl rfl (OneC.c rfl) ⟨Gh.le_refl _, PickC.pick, ?_⟩)
         refine RH.ot rfl rfl (OT.storeW (vs := [vi _, vi _]) rfl Sz183 rfl rfl (Cl.c rfl) rfl rfl (OneC.c rfl) ⟨Gh.le_refl _, PickC.pick, ?_⟩)
         refine RH.nil ?_
         exact ⟨rfl, b5, b6, trivial, ⟨rfl, rfl, trivial⟩, ⟨rfl, trivial⟩, Cv.p⟩
     · refine RH.ot2 rfl rfl rfl rfl  (OT.callF (vs := [_, _]) rfl En135 rfl (move_s (p := ⟨_, _⟩) ho ht (by first | exact (RIn_pts hr).1 | exact (RIn_pts hr).2) ⟨Gh.le_refl _, PickC.pick, ?_⟩)) (OT.alloc rfl Zr183 fun b5 => ⟨Gh.le_refl _, PickC.pick, ?_⟩)
       · refine RH.ot rfl rfl (OT.alloc rfl Zr183 fun b5 => ⟨Gh.le_refl _, PickC.pick, ?_⟩)
         refine RH.ot rfl rfl (OT.storeW (vs := [vi _, vi _]) rfl Sz183 rfl rfl (Cl.c rfl) rfl rfl (OneC.c rfl) ⟨Gh.le_refl _, PickC.pick, ?_⟩)
         refine RH.ot rfl rfl (OT.storeW (vs := [vi _, vi _]) rfl Sz183 rfl rfl (Cl.c rfl) rfl rfl (OneC.c rfl) ⟨Gh.le_refl _, PickC.pick, ?_⟩)
         refine RH.nil ?_
         exact ⟨rfl, b5, b6, trivial, ⟨rfl, rfl, trivial⟩, ⟨rfl, trivial⟩, Cv.p⟩
       · refine RH.ot rfl rfl (OT.callF (vs := [_, _]) rfl En135 rfl (move_s (p := ⟨_, _⟩) ho ht (by first | exact (RIn_pts hr).1 | exact (RIn_pts hr).2) ⟨Gh.le_refl _, PickC.pick, ?_⟩))
         refine RH.ot rfl rfl (OT.storeW (vs := [vi _, vi _]) rfl Sz183 rfl rfl (Cl.c rfl) rfl rfl (OneC.c rfl) ⟨Gh.le_refl _, PickC.pick, ?_⟩)
         refine RH.ot rfl rfl (OT.storeW (vs := [vi _, vi _]) rfl Sz183 rfl rfl (Cl.c rfl) rfl rfl (OneC.c rfl) ⟨Gh.le_refl _, PickC.pick, ?_⟩)
         refine RH.nil ?_
         exact ⟨rfl, b5, b6, trivial, ⟨rfl, rfl, trivial⟩, ⟨rfl, trivial⟩, Cv.p⟩
   · refine RH.ot2 rfl rfl rfl rfl  (OT.callF (vs := [_, _]) rfl En135 rfl (move_s (p := ⟨_, _⟩) ho ht (by first | exact (RIn_pts hr).1 | exact (RIn_pts hr).2) ⟨Gh.le_refl _, PickC.pick, ?_⟩)) (OT.alloc rfl Zr183 fun b6 => ⟨Gh.le_refl _, PickC.pick, ?_⟩)
     · refine RH.ot2 rfl rfl rfl rfl  (OT.callF (vs := [_, _]) rfl En135 rfl (move_s (p := ⟨_, _⟩) ho ht (by first | exact (RIn_pts hr).1 | exact (RIn_pts hr).2) ⟨Gh.le_refl _, PickC.pick, ?_⟩)) (OT.alloc rfl Zr183 fun b6 => ⟨Gh.le_refl _, PickC.pick, ?_⟩)
       · refine RH.ot rfl rfl (OT.alloc rfl Zr183 fun b6 => ⟨Gh.le_refl _, PickC.pick, ?_⟩)
         refine RH.ot rfl rfl (OT.storeW (vs := [vi _, vi _]) rfl Sz183 rfl rfl (Cl.c rfl) rfl rfl (OneC.c rfl) ⟨Gh.le_refl _, PickC.pick, ?_⟩)
         refine RH.ot rfl rfl (OT.storeW (vs := [vi _, vi _]) rfl Sz183 rfl rfl (Cl.c rfl) rfl rfl (OneC.c rfl) ⟨Gh.le_refl _, PickC.pick, ?_⟩)
         refine RH.nil ?_
         exact ⟨rfl, b5, b6, trivial, ⟨rfl, rfl, trivial⟩, ⟨rfl, trivial⟩, Cv.p⟩
       · refine RH.ot rfl rfl (OT.callF (vs := [_, _]) rfl En135 rfl (move_s (p := ⟨_, _⟩) ho ht (by first | exact (RIn_pts hr).1 | exact (RIn_pts hr).2) ⟨Gh.le_refl _, PickC.pick, ?_⟩))
         refine RH.ot rfl rfl (OT.storeW (vs := [vi _, vi _]) rfl Sz183 rfl rfl (Cl.c rfl) rfl rfl (OneC.c rfl) ⟨Gh.le_refl _, PickC.pick, ?_⟩)
         refine RH.ot rfl rfl (OT.storeW (vs := [vi _, vi _]) rfl Sz183 rfl rfl (Cl.c rfl) rfl rfl (OneC.c rfl) ⟨Gh.le_refl _, PickC.pick, ?_⟩)
         refine RH.nil ?_
         exact ⟨rfl, b5, b6, trivial, ⟨rfl, rfl, trivial⟩, ⟨rfl, trivial⟩, Cv.p⟩
     · refine RH.ot rfl rfl (OT.callF (vs := [_, _]) rfl En135 rfl (move_s (p := ⟨_, _⟩) ho ht (by first | exact (RIn_pts hr).1 | exact (RIn_pts hr).2) ⟨Gh.le_refl _, PickC.pick, ?_⟩))
       refine RH.ot rfl rfl (OT.callF (vs := [_, _]) rfl En135 rfl (move_s (p := ⟨_, _⟩) ho ht (by first | exact (RIn_pts hr).1 | exact (RIn_pts hr).2) ⟨Gh.le_refl _, PickC.pick, ?_⟩))
       refine RH.ot rfl rfl (OT.storeW (vs := [vi _, vi _]) rfl Sz183 rfl rfl (Cl.c rfl) rfl rfl (OneC.c rfl) ⟨Gh.le_refl _, PickC.pick, ?_⟩)
       refine RH.ot rfl rfl (OT.storeW (vs := [vi _, vi _]) rfl Sz183 rfl rfl (Cl.c rfl) rfl rfl (OneC.c rfl) ⟨Gh.le_refl _, PickC.pick, ?_⟩)
       refine RH.nil ?_
       exact ⟨rfl, b5, b6, trivial, ⟨rfl, rfl, trivial⟩, ⟨rfl, trivial⟩, Cv.p⟩
   · refine RH.ot2 rfl rfl rfl rfl  (OT.callF (vs := [_, _]) rfl En135 rfl (move_s (p := ⟨_, _⟩) ho ht (by first | exact (RIn_pts hr).1 | exact (RIn_pts hr).2) ⟨Gh.le_refl _, PickC.pick, ?_⟩)) (OT.alloc rfl Zr183 fun b5 => ⟨Gh.le_refl _, PickC.pick, ?_⟩)
     · refine RH.ot2 rfl rfl rfl rfl  (OT.callF (vs := [_, _]) rfl En135 rfl (move_s (p := ⟨_, _⟩) ho ht (by first | exact (RIn_pts hr).1 | exact (RIn_pts hr).2) ⟨Gh.le_refl _, PickC.pick, ?_⟩)) (OT.alloc rfl Zr183 fun b5 => ⟨Gh.le_refl _, PickC.pick, ?_⟩)
       · refine RH.ot rfl rfl (OT.alloc rfl Zr183 fun b5 => ⟨Gh.le_refl _, PickC.pick, ?_⟩)
         refine RH.ot rfl rfl (OT.storeW (vs := [vi _, vi _]) rfl Sz183 rfl rfl (Cl.c rfl) rfl rfl (OneC.c rfl) ⟨Gh.le_refl _, PickC.pick, ?_⟩)
         refine RH.ot rfl rfl (OT.storeW (vs := [vi _, vi _]) rfl Sz183 rfl rfl (Cl.c rfl) rfl rfl (OneC.c rfl) ⟨Gh.le_refl _, PickC.pick, ?_⟩)
         refine RH.nil ?_
         exact ⟨rfl, b5, b6, trivial, ⟨rfl, rfl, trivial⟩, ⟨rfl, trivial⟩, Cv.p⟩
       · refine RH.ot rfl rfl (OT.callF (vs := [_, _]) rfl En135 rfl (move_s (p := ⟨_, _⟩) ho ht (by first | exact (RIn_pts hr).1 | exact (RIn_pts hr).2) ⟨Gh.le_refl _, PickC.pick, ?_⟩))
         refine RH.ot rfl rfl (OT.storeW (vs := [vi _, vi _]) rfl Sz183 rfl rfl (Cl.c rfl) rfl rfl (OneC.c rfl) ⟨Gh.le_refl _, PickC.pick, ?_⟩)
         refine RH.ot rfl rfl (OT.storeW (vs := [vi _, vi _]) rfl Sz183 rfl rfl (Cl.c rfl) rfl rfl (OneC.c rfl) ⟨Gh.le_refl _, PickC.pick, ?_⟩)
         refine RH.nil ?_
         exact ⟨rfl, b5, b6, trivial, ⟨rfl, rfl, trivial⟩, ⟨rfl, trivial⟩, Cv.p⟩
     · refine RH.ot rfl rfl (OT.callF (vs := [_, _]) rfl En135 rfl (move_s (p := ⟨_, _⟩) ho ht (by first | exact (RIn_pts hr).1 | exact (RIn_pts hr).2) ⟨Gh.le_refl _, PickC.pick, ?_⟩))
       refine RH.ot rfl rfl (OT.callF (vs := [_, _]) rfl En135 rfl (move_s (p := ⟨_, _⟩) ho ht (by first | exact (RIn_pts hr).1 | exact (RIn_pts hr).2) ⟨Gh.le_refl _, PickC.pick, ?_⟩))
       refine RH.ot rfl rfl (OT.storeW (vs := [vi _, vi _]) rfl Sz183 rfl rfl (Cl.c rfl) rfl rfl (OneC.c rfl) ⟨Gh.le_refl _, PickC.pick, ?_⟩)
       refine RH.ot rfl rfl (OT.storeW (vs := [vi _, vi _]) rfl Sz183 rfl rfl (Cl.c rfl) rfl rfl (OneC.c rfl) ⟨Gh.le_refl _, PickC.pick, ?_⟩)
       refine RH.nil ?_
       exact ⟨rfl, b5, b6, trivial, ⟨rfl, rfl, trivial⟩, ⟨rfl, trivial⟩, Cv.p⟩
 · rintro b5 b6 τ1 -
   refine WP.seq (WP.region (RG.pv rfl (PV.field rfl Fo183_0 rfl) (RG.pv rfl (PV.load1 rfl Sc2 rfl (Rd.blk rfl)) (RG.pv rfl (PV.field rfl Fo183_0 rfl) (RG.pv rfl (PV.load1 rfl Sc2 rfl (Rd.blk rfl)) (RG.pv rfl (PV.min2 rfl rfl rfl) (RG.pv rfl (PV.field rfl Fo183_1 rfl) ?_)))))))
   refine RG.pv rfl (PV.load1 rfl Sc2 rfl (Rd.blk rfl)) (RG.pv rfl (PV.field rfl Fo183_1 rfl) (RG.pv rfl (PV.load1 rfl Sc2 rfl (Rd.blk rfl)) (RG.pv rfl (PV.min2 rfl rfl rfl) (RG.pv rfl (PV.field rfl Fo183_0 rfl) (RG.pv rfl (PV.load1 rfl Sc2 rfl (Rd.blk rfl)) (RG.pv rfl (PV.field rfl Fo183_0 rfl) (RG.pv rfl (PV.load1 rfl Sc2 rfl (Rd.blk rfl)) ?_)))))))
   refine RG.pv rfl (PV.max2 rfl rfl rfl) (RG.pv rfl (PV.field rfl Fo183_1 rfl) (RG.pv rfl (PV.load1 rfl Sc2 rfl (Rd.blk rfl)) (RG.pv rfl (PV.field rfl Fo183_1 rfl) (RG.pv rfl (PV.load1 rfl Sc2 rfl (Rd.blk rfl)) (RG.pv rfl (PV.max2 rfl rfl rfl) (RG.pv rfl (PV.build (vs := [(0, [vi _]), (1, [vi _]), (2, [vi _]), (3, [vi _])]) (out := [_, _, _, _]) rfl Zr140 Pl140 ⟨rfl, (Cl.c rfl), ⟨rfl, (Cl.c rfl), ⟨rfl, (Cl.c rfl), ⟨rfl, (Cl.c rfl), trivial⟩⟩⟩⟩ rfl) ?_))))))
   refine RG.ot rfl (OT.storeW (vs := [vi _, vi _, vi _, vi _]) rfl Sz140 rfl rfl (Cl.c rfl) rfl rfl (OneC.c rfl) ?_)
   refine RG.nil ?_
   refine WP.ret ?_
   exact ⟨_, _, ResV.one rfl (RV1.cell rfl Ag140 rfl), Cv.p, k⟩
end Go.Proofs.YthhjapiggekjbaaGreat
namespace Go.Proofs.YthhjapiggekjbaaGreat
set_option linter.unusedVariables false
set_option linter.unusedSimpArgs false
open Go
set_option maxRecDepth 20000
set_option linter.unusedSimpArgs false
variable {G : Gh} {L : List Ch} {R : Value → Gh → List Ch → Prop}
theorem RIn_valid {r : Rect} : validRect r = true ↔ RIn 40 r := by simp [validRect, RIn]; omega
theorem RIn_all {xs : List Rect} (h : isReg xs = true) : ∀ r ∈ xs, RIn 40 r := by
 have := isReg_valid h
 simp only [validRs, Bool.and_eq_true, List.all_eq_true] at this
 exact fun r hr => RIn_valid.1 (this.2 r hr)
theorem RIn_gd {b : Int} {xs : List Rect} (h : ∀ r ∈ xs, RIn b r) {i : Nat} (hi : i < xs.length) : RIn b (gd xs i) := by rw [gd_eq hi]; exact h _ (List.getElem_mem _)
def movedOk (t : Trans) (xs : List Rect) : Bool := xs.all fun r => validRect (moveR t r)
end Go.Proofs.YthhjapiggekjbaaGreat
namespace Go.Proofs.YthhjapiggekjbaaGreat
set_option linter.unusedVariables false
set_option linter.unusedSimpArgs false
open Go
set_option maxRecDepth 20000
set_option linter.unusedSimpArgs false
def inC (r : Rect) (c : Pt) : Prop := 2 * r.x0 < c.x ∧ c.x < 2 * r.x1 ∧ 2 * r.y0 < c.y ∧ c.y < 2 * r.y1
def cov (xs : List Rect) (c : Pt) : Prop := ∃ r ∈ xs, inC r c
def OIn (o : Int) : Prop := 0 ≤ o ∧ o ≤ 7
theorem OIn.cases {o : Int} (h : OIn o) : o = 0 ∨ o = 1 ∨ o = 2 ∨ o = 3 ∨ o = 4 ∨ o = 5 ∨ o = 6 ∨ o = 7 := by unfold OIn at h; omega
end Go.Proofs.YthhjapiggekjbaaGreat
namespace Go.Proofs.YthhjapiggekjbaaGreat
set_option linter.unusedVariables false
set_option linter.unusedSimpArgs false
open Go
set_option maxRecDepth 20000
set_option linter.unusedSimpArgs false
variable {G : Gh} {L : List Ch} {R : Value → Gh → List Ch → Prop}
def validT (t : Trans) : Bool := within t.o 0 7 && (within t.x (-80) 80 && within t.y (-80) 80)
theorem validT_iff {t : Trans} : validT t = true ↔ (0 ≤ t.o ∧ t.o ≤ 7) ∧ (-80 ≤ t.x ∧ t.x ≤ 80) ∧ -80 ≤ t.y ∧ t.y ≤ 80 := by
 simp only [validT, within, Bool.and_eq_true, decide_eq_true_eq]
def mvOk (t : Trans) (xs : List Rect) : Bool := validT t && isReg xs && movedOk t xs
end Go.Proofs.YthhjapiggekjbaaGreat
namespace Go.Proofs.YthhjapiggekjbaaGreat
set_option linter.unusedVariables false
set_option linter.unusedSimpArgs false
open Go
set_option linter.unusedSimpArgs false
set_option maxRecDepth 20000
def Apart (p q : Int × List Bool) : Prop := p.1 = q.1 → ∀ y x, y < 80 → x < 80 → gb p.2 y x = true → gb q.2 y x = true → False
theorem comps_apart (S : List Bool) : (comps S).Pairwise fun c d => ∀ y x, y < 80 → x < 80 → gb c y x = true → gb d y x = true → False := by
 classical
 unfold comps
 rw [List.pairwise_map]
 refine List.Pairwise.imp_of_mem (fun {a b} ha hb hab => ?_) (firsts_sorted S 6400)
 intro y x hy hx h1 h2
 have fa : First S a := by simpa using (List.mem_filter.1 ha).2
 have fb : First S b := by simpa using (List.mem_filter.1 hb).2
 have c1 := (comp_iff hy hx).1 h1
 have c2 := (comp_iff hy hx).1 h2
 exact fb.2 a hab fa.1 (c1.trans (c2.symm fb.1))
theorem lay_ne {i n : Nat} (h : i < n) (hn : n < 4) : gd [0, 1, 3, 5] i ≠ (gd [0, 1, 3, 5] n : Int) := by
 rcases (by omega : n = 1 ∨ n = 2 ∨ n = 3) with rfl | rfl | rfl
 · obtain rfl : i = 0 := by omega
   simp [gd]
 · rcases (by omega : i = 0 ∨ i = 1) with rfl | rfl <;> simp [gd]
 · rcases (by omega : i = 0 ∨ i = 1 ∨ i = 2) with rfl | rfl | rfl <;> simp [gd]
theorem pcL_layer {l : List (List Rect)} {n : Nat} {p : Int × List Bool} (h : p ∈ pcL l n) : ∃ i, i < n ∧ p.1 = gd [0, 1, 3, 5] i := by
 obtain ⟨m, h1, h2⟩ := List.mem_flatten.1 h
 obtain ⟨i, hi, rfl⟩ := List.mem_map.1 h1
 obtain ⟨c, hc, rfl⟩ := List.mem_map.1 h2
 exact ⟨i, List.mem_range.1 hi, rfl⟩
theorem pcL_apart (l : List (List Rect)) : ∀ n, n ≤ 4 → (pcL l n).Pairwise Apart
 | 0, _ => by simp [pcL]
 | n + 1, hn => by
   rw [pcL_succ, List.pairwise_append]
   refine ⟨pcL_apart l n (by omega), ?_, ?_⟩
   · rw [List.pairwise_map]
     refine (comps_apart _).imp ?_
     intro a b h _; exact h
   · intro p hp q hq e
     exfalso
     obtain ⟨i, hi, h1⟩ := pcL_layer hp
     obtain ⟨c, hc, rfl⟩ := List.mem_map.1 hq
     exact lay_ne hi (by omega) (h1.symm.trans e)
theorem pcL_uniq {l : List (List Rect)} {i j : Nat} (hi : i < (pcL l 4).length) (hj : j < (pcL l 4).length) (e : (gd (pcL l 4) i).1 = (gd (pcL l 4) j).1) {y x : Nat} (hy : y < 80) (hx : x < 80) (h1 : gb (gd (pcL l 4) i).2 y x = true) (h2 : gb (gd (pcL l 4) j).2 y x = true) : i = j := by
 have hp := List.pairwise_iff_getElem.1 (pcL_apart l 4 (Nat.le_refl _))
 rw [gd_eq hi, gd_eq hj] at e; rw [gd_eq hi] at h1; rw [gd_eq hj] at h2
 rcases Nat.lt_trichotomy i j with c | c | c
 · exact (hp i j hi hj c e y x hy hx h1 h2).elim
 · exact c
 · exact (hp j i hj hi c e.symm y x hy hx h2 h1).elim
def cellB (S : List Bool) (x y : Int) : Bool := (decide (-40 ≤ x ∧ x < 40) && decide (-40 ≤ y ∧ y < 40)) && gd S ((y + 40) * 80 + x + 40).toNat
theorem cellB_in {S : List Bool} {x y : Int} (h : -40 ≤ x ∧ x < 40 ∧ -40 ≤ y ∧ y < 40) : cellB S x y = gb S (y + 40).toNat (x + 40).toNat := by
 have e : ((y + 40) * 80 + x + 40).toNat = (y + 40).toNat * 80 + (x + 40).toNat := by omega
 rw [cellB, decide_eq_true (by omega), decide_eq_true (by omega), e]; rfl
theorem cellB_out {S : List Bool} {x y : Int} (h : ¬ (-40 ≤ x ∧ x < 40 ∧ -40 ≤ y ∧ y < 40)) : cellB S x y = false := by
 rw [cellB]
 by_cases c : -40 ≤ x ∧ x < 40
 · rw [decide_eq_false (p := -40 ≤ y ∧ y < 40) (by omega)]; simp
 · rw [decide_eq_false c]; simp
theorem cellB_true {S : List Bool} {x y : Int} (h : cellB S x y = true) : -40 ≤ x ∧ x < 40 ∧ -40 ≤ y ∧ y < 40 := by
 by_cases c : -40 ≤ x ∧ x < 40 ∧ -40 ≤ y ∧ y < 40
 · exact c
 · rw [cellB_out c] at h; cases h
def atB (n x y : Int) (p : Int × List Bool) : Bool := decide (p.1 = n) && cellB p.2 x y
theorem atB_uniq {l : List (List Rect)} {n x y : Int} {i j : Nat} (hi : i < (pcL l 4).length) (hj : j < (pcL l 4).length) (h1 : atB n x y (gd (pcL l 4) i) = true) (h2 : atB n x y (gd (pcL l 4) j) = true) : i = j := by
 simp only [atB, Bool.and_eq_true, decide_eq_true_eq] at h1 h2
 have hr := cellB_true h1.2
 rw [cellB_in hr] at h1 h2
 exact pcL_uniq hi hj (h1.1.trans h2.1.symm) (by omega) (by omega) h1.2 h2.2
/-- the number of the net of the first piece at a place -/
noncomputable def findL (l : List (List Rect)) (n x y : Int) : Int :=
  match (pcL l 4).findIdx? (atB n x y) with
  | some i => numR (clsL l) i
  | none => -1
theorem findL_at {l : List (List Rect)} {n x y : Int} {i : Nat} (hi : i < (pcL l 4).length) (h : atB n x y (gd (pcL l 4) i) = true) : findL l n x y = numR (clsL l) i := by
 have : (pcL l 4).findIdx? (atB n x y) = some i := by
   rw [List.findIdx?_eq_some_iff_getElem]
   refine ⟨hi, by rwa [gd_eq hi] at h, fun j hj hp => ?_⟩
   have := atB_uniq (i := j) (by omega) hi (by rw [gd_eq (by omega)]; exact hp) h
   omega
 rw [findL, this]
theorem netL_gd {l : List (List Rect)} {k : Nat} (h : k < netN l) : gd (netL l) k = ((List.range (pcL l 4).length).filter fun j => decide (numR (clsL l) j = k)).map fun j => pcR (gd (pcL l 4) j) := by
 rw [netL, netsP_gd h]
 apply List.map_congr_left
 intro j hj
 have := List.mem_range.1 (List.mem_filter.1 hj).1
 exact gd_map _ this
end Go.Proofs.YthhjapiggekjbaaGreat
namespace Go.Proofs.YthhjapiggekjbaaGreat
set_option linter.unusedVariables false
set_option linter.unusedSimpArgs false
open Go
set_option linter.unusedSimpArgs false
set_option maxRecDepth 20000
def one (b : Bool) : Int := bif b then 1 else 0
end Go.Proofs.YthhjapiggekjbaaGreat
namespace Go.Proofs.YthhjapiggekjbaaGreat
set_option linter.unusedVariables false
set_option linter.unusedSimpArgs false
open Go
set_option linter.unusedSimpArgs false
set_option maxRecDepth 20000
theorem least {P : Nat → Prop} (n : Nat) : P n → ∃ m, P m ∧ ∀ i, i < m → ¬ P i := by
 induction n using Nat.strongRecOn with
 | ind n ih =>
   intro h
   by_cases c : ∃ i, i < n ∧ P i
   · obtain ⟨i, hi, hp⟩ := c; exact ih i hi hp
   · exact ⟨n, h, fun i hi hp => c ⟨i, hi, hp⟩⟩
theorem comps_cover {S : List Bool} {y x : Nat} (hy : y < 80) (hx : x < 80) : ((comps S).any fun c => gb c y x) = gb S y x := by
 classical
 rw [Bool.eq_iff_iff, List.any_eq_true]
 constructor
 · rintro ⟨c, hc, h⟩
   obtain ⟨j, hj, rfl⟩ := List.mem_map.1 hc
   have hf : First S j := by simpa using (List.mem_filter.1 hj).2
   exact (((comp_iff hy hx).1 h).on hf.1).2.2
 · intro h
   have hon : On S (y, x) := ⟨hy, hx, h⟩
   obtain ⟨m, h1, hmin⟩ := least (P := fun i => On S (cel i) ∧ Conn S (cel i) (y, x)) (pos (y, x)) (by simp only [cel_pos (a := (y, x)) hx]; exact ⟨hon, .refl⟩)
   have hm : m < 6400 := by
     have a1 := h1.1.1; have a2 := h1.1.2.1
     simp only [cel] at a1 a2; omega
   have hf : First S m := ⟨h1.1, fun i hi ho hc => hmin i hi ⟨ho, hc.trans h1.2⟩⟩
   refine ⟨compB S (cel m), List.mem_map.2 ⟨m, List.mem_filter.2 ⟨List.mem_range.2 hm, by simpa using hf⟩, rfl⟩, (comp_iff hy hx).2 h1.2⟩
theorem stepJ_keep {J : Nat → Nat → Bool} {i k a b : Nat} {c : List Int} (ha : a < c.length) (hb : b < c.length) (h : gd c a = gd c b) : gd (stepJ J i c k) a = gd (stepJ J i c k) b := by
 unfold stepJ
 split
 · exact h
 · rw [gd_map _ ha, gd_map _ hb, h]
theorem inJ_keep {J : Nat → Nat → Bool} {i a b : Nat} {c : List Int} (ha : a < c.length) (hb : b < c.length) (h : gd c a = gd c b) : ∀ k, gd (inJ J i c k) a = gd (inJ J i c k) b
 | 0 => by rw [inJ_zero, gd_app_l ha, gd_app_l hb, h]
 | k + 1 => by
   rw [inJ_succ]
   exact stepJ_keep (by rw [inJ_len]; omega) (by rw [inJ_len]; omega) (inJ_keep ha hb h k)
theorem rootsJ_keep {J : Nat → Nat → Bool} {a b n : Nat} (ha : a < n) (hb : b < n) (h : gd (rootsJ J n) a = gd (rootsJ J n) b) : ∀ m, n ≤ m → gd (rootsJ J m) a = gd (rootsJ J m) b
 | 0, hm => by omega
 | m + 1, hm => by
   by_cases e : n = m + 1
   · rw [← e]; exact h
   · rw [rootsJ]
     exact inJ_keep (by rw [rootsJ_len]; omega) (by rw [rootsJ_len]; omega) (rootsJ_keep ha hb h m (by omega)) m
theorem inJ_join {J : Nat → Nat → Bool} {i k : Nat} {c : List Int} (hc : c.length = i) (hk : k < i) (hJ : J k i = true) : ∀ m, k < m → gd (inJ J i c m) k = gd (inJ J i c m) i
 | 0, h => by omega
 | m + 1, h => by
   rw [inJ_succ]
   have hl := inJ_len J i c m
   by_cases e : k = m
   · subst e
     unfold stepJ
     split
     · rename_i h1
       rcases h1 with h1 | h1
       · exact h1
       · rw [hJ] at h1; cases h1
     · rw [gd_map _ (by omega), gd_map _ (by omega)]
       simp only [rl]
       split <;> split <;> omega
   · exact stepJ_keep (by omega) (by omega) (inJ_join hc hk hJ m (by omega))
theorem rootsJ_join {J : Nat → Nat → Bool} {k i n : Nat} (hk : k < i) (hi : i < n) (hJ : J k i = true) : gd (rootsJ J n) k = gd (rootsJ J n) i := by
 refine rootsJ_keep (n := i + 1) (by omega) (by omega) ?_ n (by omega)
 rw [rootsJ]
 exact inJ_join (rootsJ_len J i) hk hJ i hk
theorem jnL_symm (l : List (List Rect)) (p q : Int × List Bool) : jnL l p q = jnL l q p := by
 simp only [jnL, jnR_eq, mt_comm p.2 q.2]
 rw [show decide (p.1 = q.1) = decide (q.1 = p.1) by rw [Bool.eq_iff_iff]; simp; omega, Bool.or_comm (decide (p.1 = 3)), Bool.or_comm (decide (p.1 = 5))]
/-- joined pieces are on one net -/
theorem numR_join {l : List (List Rect)} {k i : Nat} (hk : k < (pcL l 4).length) (hi : i < (pcL l 4).length) (h : jnL l (gd (pcL l 4) k) (gd (pcL l 4) i) = true) : numR (clsL l) k = numR (clsL l) i := by
 have key : gd (clsL l) k = gd (clsL l) i := by
   rcases Nat.lt_trichotomy k i with c | c | c
   · exact rootsJ_join c hi h
   · rw [c]
   · exact (rootsJ_join (J := JL l) c hk (by rw [JL, jnL_symm]; exact h)).symm
 rw [numR, numR, key]
end Go.Proofs.YthhjapiggekjbaaGreat
namespace Go.Proofs.YthhjapiggekjbaaGreat
set_option linter.unusedVariables false
set_option linter.unusedSimpArgs false
open Go
set_option maxRecDepth 20000
set_option linter.unusedSimpArgs false
theorem comp_sub {S c : List Bool} {y x : Nat} (hc : c ∈ comps S) (hy : y < 80) (hx : x < 80) (h : gb c y x = true) : gb S y x = true := by
 rw [← comps_cover hy hx, List.any_eq_true]
 exact ⟨c, hc, h⟩
theorem reg_valid {xs : List Rect} (h : isReg xs = true) : ∀ r ∈ xs, validRect r = true := by
 have := isReg_valid h
 simp only [validRs, Bool.and_eq_true, List.all_eq_true] at this
 exact this.2
def cellIn (r : Rect) (X Y : Int) : Prop := r.x0 ≤ X ∧ X < r.x1 ∧ r.y0 ≤ Y ∧ Y < r.y1
theorem inR_cell {r : Rect} {y x : Nat} : inR r y x = true ↔ cellIn r ((x : Int) - 40) ((y : Int) - 40) := by
 rw [inR_iff, cellIn]; omega
theorem mv_pre {t : Trans} (ho : 0 ≤ t.o ∧ t.o ≤ 7) (X Y : Int) : ∃ X' Y' : Int, ∀ r : Rect, r.x0 < r.x1 → r.y0 < r.y1 → (cellIn (moveR t r) X Y ↔ cellIn r X' Y') := by
 obtain ⟨o, tx, ty⟩ := t
 have ho : o = 0 ∨ o = 1 ∨ o = 2 ∨ o = 3 ∨ o = 4 ∨ o = 5 ∨ o = 6 ∨ o = 7 := by simp only at ho; omega
 rcases ho with rfl | rfl | rfl | rfl | rfl | rfl | rfl | rfl <;>
   first
   | exact ⟨X - tx, Y - ty, fun r h1 h2 => by simp [cellIn, moveR, moveP, turnP, flip, rot]; omega⟩
   | exact ⟨tx - 1 - X, Y - ty, fun r h1 h2 => by simp [cellIn, moveR, moveP, turnP, flip, rot]; omega⟩
   | exact ⟨X - tx, ty - 1 - Y, fun r h1 h2 => by simp [cellIn, moveR, moveP, turnP, flip, rot]; omega⟩
   | exact ⟨tx - 1 - X, ty - 1 - Y, fun r h1 h2 => by simp [cellIn, moveR, moveP, turnP, flip, rot]; omega⟩
   | exact ⟨Y - ty, X - tx, fun r h1 h2 => by simp [cellIn, moveR, moveP, turnP, flip, rot]; omega⟩
   | exact ⟨ty - 1 - Y, X - tx, fun r h1 h2 => by simp [cellIn, moveR, moveP, turnP, flip, rot]; omega⟩
   | exact ⟨Y - ty, tx - 1 - X, fun r h1 h2 => by simp [cellIn, moveR, moveP, turnP, flip, rot]; omega⟩
   | exact ⟨ty - 1 - Y, tx - 1 - X, fun r h1 h2 => by simp [cellIn, moveR, moveP, turnP, flip, rot]; omega⟩
/-- the cell of the chip that a moved cell comes from, if any -/
theorem mv_gb {t : Trans} (ho : 0 ≤ t.o ∧ t.o ≤ 7) {y x : Nat} (hy : y < 80) (hx : x < 80) : (∃ y' x' : Nat, y' < 80 ∧ x' < 80 ∧ ∀ xs : List Rect, (∀ r ∈ xs, validRect r = true) → gb (bits (xs.map (moveR t))) y x = gb (bits xs) y' x') ∨ ∀ xs : List Rect, (∀ r ∈ xs, validRect r = true) → gb (bits (xs.map (moveR t))) y x = false := by
 obtain ⟨X', Y', h⟩ := mv_pre ho ((x : Int) - 40) ((y : Int) - 40)
 by_cases hr : (-40 ≤ X' ∧ X' < 40) ∧ (-40 ≤ Y' ∧ Y' < 40)
 · refine .inl ⟨(Y' + 40).toNat, (X' + 40).toNat, by omega, by omega, fun xs hv => ?_⟩
   rw [Bool.eq_iff_iff, gb_bits_iff hy hx, gb_bits_iff (by omega) (by omega)]
   constructor
   · rintro ⟨r, hr1, hr2⟩
     obtain ⟨q, hq, rfl⟩ := List.mem_map.1 hr1
     have hv1 := validR_iff.1 (hv q hq)
     refine ⟨q, hq, ?_⟩
     rw [inR_cell] at hr2 ⊢
     have := (h q (by omega) (by omega)).1 hr2
     rw [show (((X' + 40).toNat : Nat) : Int) - 40 = X' by omega, show (((Y' + 40).toNat : Nat) : Int) - 40 = Y' by omega]
     exact this
   · rintro ⟨q, hq, hq2⟩
     have hv1 := validR_iff.1 (hv q hq)
     refine ⟨moveR t q, List.mem_map.2 ⟨q, hq, rfl⟩, ?_⟩
     rw [inR_cell] at hq2 ⊢
     rw [show (((X' + 40).toNat : Nat) : Int) - 40 = X' by omega, show (((Y' + 40).toNat : Nat) : Int) - 40 = Y' by omega] at hq2
     exact (h q (by omega) (by omega)).2 hq2
 · refine .inr fun xs hv => ?_
   cases hg : gb (bits (xs.map (moveR t))) y x with
   | false => rfl
   | true =>
     exfalso
     rw [gb_bits_iff hy hx] at hg
     obtain ⟨r, hr1, hr2⟩ := hg
     obtain ⟨q, hq, rfl⟩ := List.mem_map.1 hr1
     have hv1 := validR_iff.1 (hv q hq)
     rw [inR_cell] at hr2
     have := (h q (by omega) (by omega)).1 hr2
     simp only [cellIn] at this
     omega
/-- lists with the same cells have, moved, the same cells -/
theorem mv_congr {t : Trans} (ho : 0 ≤ t.o ∧ t.o ≤ 7) {xs ys : List Rect} (hx : ∀ r ∈ xs, validRect r = true) (hy : ∀ r ∈ ys, validRect r = true) (h : bits xs = bits ys) : bits (xs.map (moveR t)) = bits (ys.map (moveR t)) := by
 refine bits_eq (bits_length _) fun y x h1 h2 => ?_
 rw [← gb_bits' _ h1 h2]
 rcases mv_gb ho h1 h2 with ⟨y', x', -, -, e⟩ | e
 · rw [e xs hx, e ys hy, h]
 · rw [e xs hx, e ys hy]
/-- lists without a common cell have, moved, none -/
theorem mv_disj {t : Trans} (ho : 0 ≤ t.o ∧ t.o ≤ 7) {xs ys : List Rect} (hx : ∀ r ∈ xs, validRect r = true) (hy : ∀ r ∈ ys, validRect r = true) (h : ∀ y x, y < 80 → x < 80 → gb (bits xs) y x = true → gb (bits ys) y x = false) {y x : Nat} (h1 : y < 80) (h2 : x < 80) (hg : gb (bits (xs.map (moveR t))) y x = true) : gb (bits (ys.map (moveR t))) y x = false := by
 rcases mv_gb ho h1 h2 with ⟨y', x', hy', hx', e⟩ | e
 · rw [e xs hx] at hg
   rw [e ys hy, h y' x' hy' hx' hg]
 · exact e ys hy
end Go.Proofs.YthhjapiggekjbaaGreat
namespace Go.Proofs.YthhjapiggekjbaaGreat
set_option linter.unusedVariables false
set_option linter.unusedSimpArgs false
open Go
set_option linter.unusedSimpArgs false
set_option maxRecDepth 20000
theorem piece_at {l : List (List Rect)} {i : Nat} (hi : i < 4) {y x : Nat} (hy : y < 80) (hx : x < 80) (h : gb (gd (condB l) i) y x = true) :
   ∃ j, j < (pcL l 4).length ∧ (gd (pcL l 4) j).1 = gd [0, 1, 3, 5] i ∧ gb (gd (pcL l 4) j).2 y x = true ∧ ∀ y' x', y' < 80 → x' < 80 → Adj (y, x) (y', x') → gb (gd (condB l) i) y' x' = true → gb (gd (pcL l 4) j).2 y' x' = true := by
 have hc := comps_cover (S := gd (condB l) i) hy hx
 rw [h, List.any_eq_true] at hc
 obtain ⟨c, hc, hg⟩ := hc
 have hm : ((gd [0, 1, 3, 5] i, c) : Int × List Bool) ∈ pcL l 4 := by
   rw [pcL, List.mem_flatten]
   exact ⟨_, List.mem_map.2 ⟨i, List.mem_range.2 hi, rfl⟩, List.mem_map.2 ⟨c, hc, rfl⟩⟩
 obtain ⟨j, hj, e⟩ := List.getElem_of_mem hm
 refine ⟨j, hj, ?_⟩
 rw [gd_eq hj, e]
 refine ⟨rfl, hg, fun y' x' hy' hx' ha hs => ?_⟩
 obtain ⟨j0, _, rfl⟩ := List.mem_map.1 hc
 exact (comp_iff hy' hx').2 (((comp_iff hy hx).1 hg).step ha ⟨hy', hx', hs⟩)
theorem atB_of {n x y : Int} {p : Int × List Bool} (hr : -40 ≤ x ∧ x < 40 ∧ -40 ≤ y ∧ y < 40) (h1 : p.1 = n) (h2 : gb p.2 (y + 40).toNat (x + 40).toNat = true) : atB n x y p = true := by
 rw [atB, cellB_in hr, h2, decide_eq_true h1]; rfl
end Go.Proofs.YthhjapiggekjbaaGreat
namespace Go.Proofs.YthhjapiggekjbaaGreat
set_option linter.unusedVariables false
set_option linter.unusedSimpArgs false
open Go
set_option maxRecDepth 20000
set_option linter.unusedSimpArgs false
/-- a function that the relation keeps is the same at a member and at its class -/
def Snd {β : Type} (f : Nat → β) (c : List Int) : Prop := ∀ j, j < c.length → f (gd c j).toNat = f j
theorem Snd.step {β : Type} {f : Nat → β} {J : Nat → Nat → Bool} {i k : Nat} {c : List Int} (h : Snd f c) (hi : i < c.length) (hk : k < c.length) (hJ : J k i = true → f k = f i) : Snd f (stepJ J i c k) := by
 unfold stepJ
 split
 · exact h
 · rename_i e
   rw [not_or, Bool.not_eq_false] at e
   have hf := hJ e.2
   have h1 := h k hk
   have h2 := h i hi
   intro j hj
   have hj : j < c.length := by simpa using hj
   have h3 := h j hj
   rw [gd_map _ hj, rl]
   by_cases c1 : gd c j = max (gd c k) (gd c i)
   · rw [if_pos c1]
     by_cases c2 : gd c k ≤ gd c i
     · rw [Int.min_eq_left c2, h1, hf]
       rw [Int.max_eq_right c2] at c1
       rw [← h3, c1, h2]
     · have c2 : gd c i ≤ gd c k := by omega
       rw [Int.min_eq_right c2, h2, ← hf]
       rw [Int.max_eq_left c2] at c1
       rw [← h3, c1, h1]
   · rw [if_neg c1]; exact h3
theorem Snd.app {β : Type} {f : Nat → β} {c : List Int} (h : Snd f c) : Snd f (c ++ [(c.length : Int)]) := fun j hj => by
 have hj : j < c.length + 1 := by simpa using hj
 by_cases e : j = c.length
 · subst e; rw [gd_app_r, Int.toNat_natCast]
 · rw [gd_app_l (by omega)]; exact h j (by omega)
theorem Snd.inJ {β : Type} {f : Nat → β} {J : Nat → Nat → Bool} {c : List Int} (h : Snd f c) (hJ : ∀ k, k < c.length → J k c.length = true → f k = f c.length) : ∀ k, k ≤ c.length → Snd f (inJ J c.length c k)
 | 0, _ => by rw [inJ_zero]; exact h.app
 | k + 1, hk => by
   rw [inJ_succ]
   exact (Snd.inJ h hJ k (by omega)).step (by rw [inJ_len]; omega) (by rw [inJ_len]; omega) (hJ k (by omega))
theorem Snd.roots {β : Type} {f : Nat → β} {J : Nat → Nat → Bool} : ∀ n, (∀ k i, k < i → i < n → J k i = true → f k = f i) → Snd f (rootsJ J n)
 | 0, _ => fun j hj => by simp [rootsJ] at hj
 | n + 1, hJ => by
   have := (Snd.roots n fun k i h1 h2 h3 => hJ k i h1 (by omega) h3).inJ (J := J) (by rw [rootsJ_len]; exact fun k hk h => hJ k n hk (by omega) h) n (by rw [rootsJ_len]; omega)
   rw [rootsJ_len] at this; exact this
theorem Snd.of_eq {β : Type} {f : Nat → β} {c : List Int} (h : Snd f c) {a b : Nat} (ha : a < c.length) (hb : b < c.length) (e : gd c a = gd c b) : f a = f b := by
 rw [← h a ha, ← h b hb, e]
theorem numR_inj {cls : List Int} (h : Rt cls) {a b : Nat} (ha : a < cls.length) (hb : b < cls.length) (e : numR cls a = numR cls b) : gd cls a = gd cls b := by
 obtain ⟨a1, a2, a3⟩ := h a ha
 obtain ⟨b1, b2, b3⟩ := h b hb
 unfold numR at e
 rcases Int.lt_trichotomy (gd cls a) (gd cls b) with c | c | c
 · have h1 := cntR_succ cls (gd cls a).toNat
   rw [if_pos (by rw [a3]; omega)] at h1
   have := cntR_mono cls (m := (gd cls a).toNat + 1) (n := (gd cls b).toNat) (by omega)
   omega
 · exact c
 · have h1 := cntR_succ cls (gd cls b).toNat
   rw [if_pos (by rw [b3]; omega)] at h1
   have := cntR_mono cls (m := (gd cls b).toNat + 1) (n := (gd cls a).toNat) (by omega)
   omega
def abutR (a b : Rect) : Bool := validRect a && validRect b && (decide ((cmn a b).x0 = (cmn a b).x1) && decide ((cmn a b).y0 < (cmn a b).y1) || decide ((cmn a b).y0 = (cmn a b).y1) && decide ((cmn a b).x0 < (cmn a b).x1))
def tchR (a b : List Rect) : Bool := a.any fun x => b.any fun y => ovl x y || abutR x y
def Tch (A B : List Bool) : Prop := ∃ a b : Cel, On A a ∧ On B b ∧ (a = b ∨ Adj a b)
theorem tch1 {a b : Rect} (ha : validRect a = true) (hb : validRect b = true) : (ovl a b || abutR a b) = true ↔ ∃ p q : Cel, inR a p.1 p.2 = true ∧ inR b q.1 q.2 = true ∧ (p = q ∨ Adj p q) := by
 simp only [ovl, abutR, ha, hb, Bool.true_and, Bool.or_eq_true, Bool.and_eq_true, decide_eq_true_eq]
 rw [validR_iff] at ha hb
 constructor
 · rintro (h | ⟨h1, h2⟩ | ⟨h1, h2⟩)
   · obtain ⟨y, x, hy, hx, h3⟩ := valid_cell h
     exact ⟨(y, x), (y, x), (inR_cmn.1 h3).1, (inR_cmn.1 h3).2, .inl rfl⟩
   · simp only [cmn] at h1 h2
     by_cases c : a.x1 ≤ b.x0
     · refine ⟨((max a.y0 b.y0 + 40).toNat, (a.x1 + 39).toNat), ((max a.y0 b.y0 + 40).toNat, (b.x0 + 40).toNat), inR_iff.2 (by simp only; omega), inR_iff.2 (by simp only; omega), .inr (.inl ⟨rfl, ?_⟩)⟩
       simp only; omega
     · refine ⟨((max a.y0 b.y0 + 40).toNat, (a.x0 + 40).toNat), ((max a.y0 b.y0 + 40).toNat, (b.x1 + 39).toNat), inR_iff.2 (by simp only; omega), inR_iff.2 (by simp only; omega), .inr (.inl ⟨rfl, ?_⟩)⟩
       simp only; omega
   · simp only [cmn] at h1 h2
     by_cases c : a.y1 ≤ b.y0
     · refine ⟨((a.y1 + 39).toNat, (max a.x0 b.x0 + 40).toNat), ((b.y0 + 40).toNat, (max a.x0 b.x0 + 40).toNat), inR_iff.2 (by simp only; omega), inR_iff.2 (by simp only; omega), .inr (.inr ⟨rfl, ?_⟩)⟩
       simp only; omega
     · refine ⟨((a.y0 + 40).toNat, (max a.x0 b.x0 + 40).toNat), ((b.y1 + 39).toNat, (max a.x0 b.x0 + 40).toNat), inR_iff.2 (by simp only; omega), inR_iff.2 (by simp only; omega), .inr (.inr ⟨rfl, ?_⟩)⟩
       simp only; omega
 · rintro ⟨⟨y, x⟩, ⟨y', x'⟩, h1, h2, h⟩
   rw [inR_iff] at h1 h2
   simp only at h1 h2
   simp only [validR_iff, cmn]
   rcases h with h | ⟨h3, h4⟩ | ⟨h3, h4⟩
   · injection h with h3 h4; subst h3 h4; left; omega
   · simp only at h3 h4; omega
   · simp only at h3 h4; omega
theorem tch_iff {a b : List Rect} (ha : validRs a = true) (hb : validRs b = true) : tchR a b = true ↔ Tch (bits a) (bits b) := by
 simp only [tchR, List.any_eq_true]
 constructor
 · rintro ⟨p, hp, q, hq, h⟩
   obtain ⟨c, d, h1, h2, h3⟩ := (tch1 (valid_mem ha hp) (valid_mem hb hq)).1 h
   obtain ⟨c1, c2⟩ := inR_lt (valid_mem ha hp) h1
   obtain ⟨d1, d2⟩ := inR_lt (valid_mem hb hq) h2
   exact ⟨c, d, ⟨c1, c2, (gb_bits_iff c1 c2).2 ⟨p, hp, h1⟩⟩, ⟨d1, d2, (gb_bits_iff d1 d2).2 ⟨q, hq, h2⟩⟩, h3⟩
 · rintro ⟨c, d, ⟨c1, c2, c3⟩, ⟨d1, d2, d3⟩, h3⟩
   obtain ⟨p, hp, h1⟩ := (gb_bits_iff c1 c2).1 c3
   obtain ⟨q, hq, h2⟩ := (gb_bits_iff d1 d2).1 d3
   exact ⟨p, hp, q, hq, (tch1 (valid_mem ha hp) (valid_mem hb hq)).2 ⟨c, d, h1, h2, h3⟩⟩
theorem Tch.symm {A B : List Bool} (h : Tch A B) : Tch B A := by
 obtain ⟨a, b, h1, h2, h3⟩ := h
 exact ⟨b, a, h2, h1, h3.elim (fun e => .inl e.symm) fun e => .inr e.symm⟩
def Cnd (S : List Bool) : Prop := ∀ a b, On S a → On S b → Conn S a b
theorem comps_cnd {S c : List Bool} (h : c ∈ comps S) : Cnd c := by
 obtain ⟨j, hj, rfl⟩ := List.mem_map.1 h
 have hf : First S j := by
   have := (List.mem_filter.1 hj).2
   simpa using this
 have hs : On S (cel j) := hf.1
 have key : ∀ a, On (compB S (cel j)) a → Conn (compB S (cel j)) (cel j) a := fun a ha => by
   have h1 := (comp_iff ha.1 ha.2.1).1 ha.2.2
   have h0 : On (compB S (cel j)) (cel j) := ⟨hs.1, hs.2.1, (comp_iff hs.1 hs.2.1).2 .refl⟩
   exact (Conn.sub h1 h0 fun p q hp ha hq => ⟨hq.1, hq.2.1, (comp_iff hq.1 hq.2.1).2 (((comp_iff hp.1 hp.2.1).1 hp.2.2).step ha hq)⟩).1
 have h0 : On (compB S (cel j)) (cel j) := ⟨hs.1, hs.2.1, (comp_iff hs.1 hs.2.1).2 .refl⟩
 exact fun a b ha hb => ((key a ha).symm h0).trans (key b hb)
theorem comps_ne {S c : List Bool} (h : c ∈ comps S) : ∃ a, On c a := by
 obtain ⟨j, hj, rfl⟩ := List.mem_map.1 h
 have hf : First S j := by
   have := (List.mem_filter.1 hj).2
   simpa using this
 have hs : On S (cel j) := hf.1
 exact ⟨cel j, hs.1, hs.2.1, (comp_iff hs.1 hs.2.1).2 .refl⟩
def fw (t : Trans) (X Y : Int) : Int × Int := ((moveR t ⟨X, Y, X + 1, Y + 1⟩).x0, (moveR t ⟨X, Y, X + 1, Y + 1⟩).y0)
theorem ori {o : Int} (ho : 0 ≤ o ∧ o ≤ 7) : o = 0 ∨ o = 1 ∨ o = 2 ∨ o = 3 ∨ o = 4 ∨ o = 5 ∨ o = 6 ∨ o = 7 := by omega
theorem fw_in {t : Trans} (ho : 0 ≤ t.o ∧ t.o ≤ 7) {X Y : Int} {r : Rect} (h1 : r.x0 < r.x1) (h2 : r.y0 < r.y1) : cellIn (moveR t r) (fw t X Y).1 (fw t X Y).2 ↔ cellIn r X Y := by
 obtain ⟨o, tx, ty⟩ := t
 rcases ori ho with rfl | rfl | rfl | rfl | rfl | rfl | rfl | rfl <;> (simp [fw, cellIn, moveR, moveP, turnP, flip, rot]; omega)
theorem fw_surj {t : Trans} (ho : 0 ≤ t.o ∧ t.o ≤ 7) (X Y : Int) : ∃ X' Y', fw t X' Y' = (X, Y) := by
 obtain ⟨o, tx, ty⟩ := t
 rcases ori ho with rfl | rfl | rfl | rfl | rfl | rfl | rfl | rfl <;>
   first
   | exact ⟨X - tx, Y - ty, by simp [fw, moveR, moveP, turnP, flip, rot]; omega⟩
   | exact ⟨tx - 1 - X, Y - ty, by simp [fw, moveR, moveP, turnP, flip, rot]; omega⟩
   | exact ⟨X - tx, ty - 1 - Y, by simp [fw, moveR, moveP, turnP, flip, rot]; omega⟩
   | exact ⟨tx - 1 - X, ty - 1 - Y, by simp [fw, moveR, moveP, turnP, flip, rot]; omega⟩
   | exact ⟨Y - ty, X - tx, by simp [fw, moveR, moveP, turnP, flip, rot]; omega⟩
   | exact ⟨ty - 1 - Y, X - tx, by simp [fw, moveR, moveP, turnP, flip, rot]; omega⟩
   | exact ⟨Y - ty, tx - 1 - X, by simp [fw, moveR, moveP, turnP, flip, rot]; omega⟩
   | exact ⟨ty - 1 - Y, tx - 1 - X, by simp [fw, moveR, moveP, turnP, flip, rot]; omega⟩
def AdjI (X Y X' Y' : Int) : Prop := (Y = Y' ∧ (X = X' + 1 ∨ X' = X + 1)) ∨ (X = X' ∧ (Y = Y' + 1 ∨ Y' = Y + 1))
theorem fw_adj {t : Trans} (ho : 0 ≤ t.o ∧ t.o ≤ 7) {X Y X' Y' : Int} : AdjI (fw t X Y).1 (fw t X Y).2 (fw t X' Y').1 (fw t X' Y').2 ↔ AdjI X Y X' Y' := by
 obtain ⟨o, tx, ty⟩ := t
 rcases ori ho with rfl | rfl | rfl | rfl | rfl | rfl | rfl | rfl <;> (simp [AdjI, fw, moveR, moveP, turnP, flip, rot]; omega)
def im (t : Trans) (a : Cel) : Cel := (((fw t ((a.2 : Int) - 40) ((a.1 : Int) - 40)).2 + 40).toNat, ((fw t ((a.2 : Int) - 40) ((a.1 : Int) - 40)).1 + 40).toNat)
theorem im_on {t : Trans} (ho : 0 ≤ t.o ∧ t.o ≤ 7) {xs : List Rect} (hx : ∀ r ∈ xs, validRect r = true) (hv : ∀ r ∈ xs, validRect (moveR t r) = true) {a : Cel} (h : On (bits xs) a) :
   (-40 ≤ (fw t ((a.2 : Int) - 40) ((a.1 : Int) - 40)).1 ∧ -40 ≤ (fw t ((a.2 : Int) - 40) ((a.1 : Int) - 40)).2) ∧ On (bits (xs.map (moveR t))) (im t a) := by
 obtain ⟨h1, h2, h3⟩ := h
 obtain ⟨r, hr, hi⟩ := (gb_bits_iff h1 h2).1 h3
 rw [inR_cell] at hi
 have hv1 := validR_iff.1 (hx r hr)
 have hv2 := validR_iff.1 (hv r hr)
 have hc := (fw_in ho (r := r) (by omega) (by omega)).2 hi
 have hc' := hc
 simp only [cellIn] at hc'
 refine ⟨by omega, ?_⟩
 have l1 : (im t a).1 < 80 := by simp only [im]; omega
 have l2 : (im t a).2 < 80 := by simp only [im]; omega
 refine ⟨l1, l2, (gb_bits_iff l1 l2).2 ⟨moveR t r, List.mem_map.2 ⟨r, hr, rfl⟩, ?_⟩⟩
 rw [inR_cell]
 simp only [im]
 rw [Int.toNat_of_nonneg (by omega), Int.toNat_of_nonneg (by omega), Int.add_sub_cancel, Int.add_sub_cancel]
 exact hc
theorem im_surj {t : Trans} (ho : 0 ≤ t.o ∧ t.o ≤ 7) {xs : List Rect} (hx : ∀ r ∈ xs, validRect r = true) {b : Cel} (h : On (bits (xs.map (moveR t))) b) : ∃ a, On (bits xs) a ∧ im t a = b := by
 obtain ⟨h1, h2, h3⟩ := h
 obtain ⟨r', hr', hi⟩ := (gb_bits_iff h1 h2).1 h3
 obtain ⟨r, hr, er⟩ := List.mem_map.1 hr'
 subst er
 rw [inR_cell] at hi
 have hv1 := validR_iff.1 (hx r hr)
 obtain ⟨X, Y, e⟩ := fw_surj ho ((b.2 : Int) - 40) ((b.1 : Int) - 40)
 have hc : cellIn r X Y := (fw_in ho (by omega) (by omega)).1 (by rw [e]; exact hi)
 have hc' := hc
 simp only [cellIn] at hc'
 have e1 : (((X + 40).toNat : Nat) : Int) - 40 = X := by omega
 have e2 : (((Y + 40).toNat : Nat) : Int) - 40 = Y := by omega
 refine ⟨((Y + 40).toNat, (X + 40).toNat), ⟨by simp only; omega, by simp only; omega, (gb_bits_iff (by simp only; omega) (by simp only; omega)).2 ⟨r, hr, ?_⟩⟩, ?_⟩
 · rw [inR_cell]; simp only [e1, e2]; exact hc
 · simp only [im, e1, e2, e]
   obtain ⟨b1, b2⟩ := b
   simp only [Prod.mk.injEq]; omega
theorem im_adj {t : Trans} (ho : 0 ≤ t.o ∧ t.o ≤ 7) {xs : List Rect} (hx : ∀ r ∈ xs, validRect r = true) (hv : ∀ r ∈ xs, validRect (moveR t r) = true) {a b : Cel} (ha : On (bits xs) a) (hb : On (bits xs) b) (h : Adj a b) : Adj (im t a) (im t b) := by
 have h1 := (im_on ho hx hv ha).1
 have h2 := (im_on ho hx hv hb).1
 have h3 : AdjI ((a.2 : Int) - 40) ((a.1 : Int) - 40) ((b.2 : Int) - 40) ((b.1 : Int) - 40) := by
   simp only [AdjI, Adj] at h ⊢; omega
 have h4 := (fw_adj ho).2 h3
 simp only [AdjI, Adj, im] at h4 ⊢
 omega
/-- a connected figure is connected when moved -/
theorem cnd_mv {t : Trans} (ho : 0 ≤ t.o ∧ t.o ≤ 7) {xs : List Rect} (hx : ∀ r ∈ xs, validRect r = true) (hv : ∀ r ∈ xs, validRect (moveR t r) = true) (h : Cnd (bits xs)) : Cnd (bits (xs.map (moveR t))) := fun a' b' ha' hb' => by
 obtain ⟨a, ha, ea⟩ := im_surj ho hx ha'
 obtain ⟨b, hb, eb⟩ := im_surj ho hx hb'
 subst ea eb
 have hc := h a b ha hb
 have key : ∀ c, Conn (bits xs) a c → Conn (bits (xs.map (moveR t))) (im t a) (im t c) := fun c hc => by
   induction hc with
   | refl => exact .refl
   | step h1 h2 h3 ih => exact ih.step (im_adj ho hx hv (h1.on ha) h3 h2) (im_on ho hx hv h3).2
 exact key b hc
end Go.Proofs.YthhjapiggekjbaaGreat
namespace Go.Proofs.YthhjapiggekjbaaGreat
set_option linter.unusedVariables false
set_option linter.unusedSimpArgs false
open Go
set_option maxRecDepth 20000
set_option linter.unusedSimpArgs false
def pb (q : Int × List Rect) : Int × List Bool := (q.1, bits q.2)
theorem pb_pcR {q : Int × List Rect} (h : isReg q.2 = true) : pcR (pb q) = q := by rw [pcR, pb]; simp only [isReg_eq h]
structure PF (l : List (List Rect)) (q : Int × List Rect) (i : Nat) : Prop where
  hi : i < 4
  lay : q.1 = gd [0, 1, 3, 5] i
  reg : isReg q.2 = true
  cnd : Cnd (bits q.2)
  ne : ∃ a, On (bits q.2) a
  sub : ∀ a, On (bits q.2) a → On (gd (condB l) i) a
structure PAll (l : List (List Rect)) (E : List (Int × List Rect)) : Prop where
  mem : ∀ q ∈ E, ∃ i, PF l q i
  cov : ∀ i a, i < 4 → On (gd (condB l) i) a → ∃ q ∈ E, q.1 = gd [0, 1, 3, 5] i ∧ On (bits q.2) a
def JH (l : List (List Rect)) (E : List (Int × List Rect)) (k i : Nat) : Bool := (decide ((gd E k).1 = (gd E i).1) && tchR (gd E k).2 (gd E i).2) || jnI l (gd E k) (gd E i)
def clsH (l : List (List Rect)) (E : List (Int × List Rect)) : List Int := rootsJ (JH l E) E.length
theorem clsH_len (l : List (List Rect)) (E : List (Int × List Rect)) : (clsH l E).length = E.length := rootsJ_len _ _
theorem clsH_rt (l : List (List Rect)) (E : List (Int × List Rect)) : Rt (clsH l E) := rt_roots _ _
noncomputable def numH (l : List (List Rect)) (q : Int × List Rect) : Int := findL l q.1 (gd q.2 0).x0 (gd q.2 0).y0
def jnC (l : List (List Rect)) (m n : Int) (y x : Nat) : Bool := !decide (m = n) && (gb (bits (gd l 2)) y x && (decide (m = 3) || decide (n = 3)) && !(decide (m = 5) || decide (n = 5)) || gb (bits (gd l 4)) y x && (decide (m = 3) || decide (n = 3)) && (decide (m = 5) || decide (n = 5)))
theorem jnL_iff {l : List (List Rect)} {p q : Int × List Bool} : jnL l p q = true ↔ ∃ a : Cel, On p.2 a ∧ On q.2 a ∧ jnC l p.1 q.1 a.1 a.2 = true := by
 simp only [jnL, jnR, Bool.and_eq_true, List.any_eq_true, List.mem_range, jnC, On, gb]
 constructor
 · rintro ⟨h0, n, hn, ⟨h1, h2⟩, h3⟩
   have e : n / 80 * 80 + n % 80 = n := by omega
   exact ⟨(n / 80, n % 80), ⟨by simp only; omega, by simp only; omega, by simp only [e]; exact h1⟩, ⟨by simp only; omega, by simp only; omega, by simp only [e]; exact h2⟩, h0, by simp only [e]; exact h3⟩
 · rintro ⟨⟨y, x⟩, ⟨hy, hx, h1⟩, ⟨-, -, h2⟩, h0, h3⟩
   simp only at hy hx h1 h2 h3
   exact ⟨h0, y * 80 + x, by omega, ⟨h1, h2⟩, h3⟩
theorem PF.isL {l : List (List Rect)} {q : Int × List Rect} {i : Nat} (h : PF l q i) : Go.Proofs.YthhjapiggekjbaaGreat.isL q.1 := by rw [h.lay]; exact isL_lay h.hi
theorem lay_inj {i k : Nat} (hi : i < 4) (hk : k < 4) (h : (gd [0, 1, 3, 5] i : Int) = gd [0, 1, 3, 5] k) : i = k := by
 rcases Nat.lt_trichotomy i k with c | c | c
 · exact absurd h (lay_ne c hk)
 · exact c
 · exact absurd h.symm (lay_ne c hi)
theorem PAll.iff {l : List (List Rect)} {E : List (Int × List Rect)} (h : PAll l E) (hl : isLay l = true) {k i : Nat} (hk : k < E.length) (hi : i < E.length) : JH l E k i = true ↔ ((gd E k).1 = (gd E i).1 ∧ Tch (bits (gd E k).2) (bits (gd E i).2)) ∨ jnL l (pb (gd E k)) (pb (gd E i)) = true := by
 obtain ⟨m, hm⟩ := h.mem _ (gd_mem hk)
 obtain ⟨n, hn⟩ := h.mem _ (gd_mem hi)
 have e := jn_eq hl (p := pb (gd E k)) (q := pb (gd E i)) hm.isL hn.isL (bits_length _) (bits_length _)
 rw [pb_pcR hm.reg, pb_pcR hn.reg] at e
 rw [JH, e, Bool.or_eq_true, Bool.and_eq_true, decide_eq_true_eq, tch_iff (isReg_valid hm.reg) (isReg_valid hn.reg)]
theorem PAll.symm {l : List (List Rect)} {E : List (Int × List Rect)} (h : PAll l E) (hl : isLay l = true) {k i : Nat} (hk : k < E.length) (hi : i < E.length) (hJ : JH l E k i = true) : JH l E i k = true := by
 rw [h.iff hl hi hk]
 rcases (h.iff hl hk hi).1 hJ with ⟨e, t⟩ | t
 · exact .inl ⟨e.symm, t.symm⟩
 · rw [jnL_symm]; exact .inr t
theorem PAll.join {l : List (List Rect)} {E : List (Int × List Rect)} (h : PAll l E) (hl : isLay l = true) {k i : Nat} (hk : k < E.length) (hi : i < E.length) (hJ : JH l E k i = true) : gd (clsH l E) k = gd (clsH l E) i := by
 rcases Nat.lt_trichotomy k i with c | c | c
 · exact rootsJ_join c hi hJ
 · rw [c]
 · exact (rootsJ_join c hk (h.symm hl hk hi hJ)).symm
theorem piece_in {l : List (List Rect)} {j : Nat} (hj : j < (pcL l 4).length) : ∃ i, i < 4 ∧ (gd (pcL l 4) j).1 = gd [0, 1, 3, 5] i ∧ (gd (pcL l 4) j).2 ∈ comps (gd (condB l) i) := by
 have hm := gd_mem hj
 rw [pcL] at hm
 obtain ⟨z, hz, hq⟩ := List.mem_flatten.1 hm
 obtain ⟨i, hi, rfl⟩ := List.mem_map.1 hz
 obtain ⟨c, hc, e⟩ := List.mem_map.1 hq
 rw [← pcL] at e
 rw [← e]
 exact ⟨i, List.mem_range.1 hi, rfl, hc⟩
theorem piece_sub {l : List (List Rect)} {i j : Nat} (hi : i < 4) (hj : j < (pcL l 4).length) (e : (gd (pcL l 4) j).1 = gd [0, 1, 3, 5] i) {a : Cel} (h : On (gd (pcL l 4) j).2 a) : On (gd (condB l) i) a := by
 obtain ⟨i', hi', e', hc⟩ := piece_in hj
 obtain rfl := lay_inj hi hi' (e.symm.trans e')
 exact ⟨h.1, h.2.1, comp_sub hc h.1 h.2.1 h.2.2⟩
theorem piece_uniq {l : List (List Rect)} {i j : Nat} (hi : i < (pcL l 4).length) (hj : j < (pcL l 4).length) (e : (gd (pcL l 4) i).1 = (gd (pcL l 4) j).1) {a : Cel} (h1 : On (gd (pcL l 4) i).2 a) (h2 : On (gd (pcL l 4) j).2 a) : i = j :=
 pcL_uniq hi hj e h1.1 h1.2.1 h1.2.2 h2.2.2
theorem piece_closed {l : List (List Rect)} {i j : Nat} (hi : i < 4) (hj : j < (pcL l 4).length) (e : (gd (pcL l 4) j).1 = gd [0, 1, 3, 5] i) {a b : Cel} (ha : On (gd (pcL l 4) j).2 a) (hab : Adj a b) (hb : On (gd (condB l) i) b) : On (gd (pcL l 4) j).2 b := by
 have hs := piece_sub hi hj e ha
 obtain ⟨j', hj', e', h1, h2⟩ := piece_at hi hs.1 hs.2.1 hs.2.2
 obtain rfl := piece_uniq hj hj' (e.trans e'.symm) ha ⟨hs.1, hs.2.1, h1⟩
 exact ⟨hb.1, hb.2.1, h2 _ _ hb.1 hb.2.1 hab hb.2.2⟩
theorem region_first {r : List Rect} (hr : isReg r = true) (h : ∃ a, On (bits r) a) : 0 < r.length ∧ validRect (gd r 0) = true ∧ On (bits r) (((gd r 0).y0 + 40).toNat, ((gd r 0).x0 + 40).toNat) := by
 obtain ⟨a, h1, h2, h3⟩ := h
 obtain ⟨q, hq, -⟩ := (gb_bits_iff h1 h2).1 h3
 have hl : 0 < r.length := List.length_pos_of_mem hq
 have hv := reg_valid hr _ (gd_mem hl)
 have hv' := validR_iff.1 hv
 refine ⟨hl, hv, by simp only; omega, by simp only; omega, (gb_bits_iff (by simp only; omega) (by simp only; omega)).2 ⟨_, gd_mem hl, inR_iff.2 (by simp only; omega)⟩⟩
/-- a placed piece lies in one piece of the flattened layout -/
theorem PF.flat {l : List (List Rect)} {q : Int × List Rect} {i : Nat} (h : PF l q i) : ∃ j, j < (pcL l 4).length ∧ (gd (pcL l 4) j).1 = gd [0, 1, 3, 5] i ∧ (∀ a, On (bits q.2) a → On (gd (pcL l 4) j).2 a) ∧ numH l q = (numR (clsL l) j : Int) := by
 obtain ⟨h0, hv, hf⟩ := region_first h.reg h.ne
 have hs := h.sub _ hf
 obtain ⟨j, hj, e, h1, -⟩ := piece_at h.hi hs.1 hs.2.1 hs.2.2
 have hp : On (gd (pcL l 4) j).2 (((gd q.2 0).y0 + 40).toNat, ((gd q.2 0).x0 + 40).toNat) := ⟨hs.1, hs.2.1, h1⟩
 refine ⟨j, hj, e, fun a ha => ?_, ?_⟩
 · have hc := h.cnd _ a hf ha
   induction hc with
   | refl => exact hp
   | step g1 g2 g3 ih => exact piece_closed h.hi hj e (ih (g1.on hf)) g2 (h.sub _ g3)
 · rw [numH]
   rw [validR_iff] at hv
   exact findL_at hj (atB_of (by omega) (e.trans h.lay.symm) h1)
theorem PAll.num {l : List (List Rect)} {E : List (Int × List Rect)} (h : PAll l E) (hl : isLay l = true) {k i : Nat} (hk : k < E.length) (hi : i < E.length) (hJ : JH l E k i = true) : numH l (gd E k) = numH l (gd E i) := by
 obtain ⟨m, hm⟩ := h.mem _ (gd_mem hk)
 obtain ⟨n, hn⟩ := h.mem _ (gd_mem hi)
 obtain ⟨j1, a1, a2, a3, a4⟩ := hm.flat
 obtain ⟨j2, b1, b2, b3, b4⟩ := hn.flat
 rw [a4, b4]
 rcases (h.iff hl hk hi).1 hJ with ⟨e, a, b, ha, hb, hab⟩ | t
 · have e' : (gd (pcL l 4) j1).1 = (gd (pcL l 4) j2).1 := by rw [a2, b2, ← hm.lay, ← hn.lay, e]
   have hb2 : On (gd (pcL l 4) j1).2 b := by
     rcases hab with rfl | hab
     · exact a3 _ ha
     · refine piece_closed hm.hi a1 a2 (a3 _ ha) hab ?_
       have e2 : n = m := lay_inj hn.hi hm.hi (by rw [← hm.lay, ← hn.lay, e])
       rw [← e2]; exact hn.sub _ hb
   rw [piece_uniq a1 b1 e' hb2 (b3 _ hb)]
 · obtain ⟨a, ha, hb, hc⟩ := jnL_iff.1 t
   rw [numR_join a1 b1 (jnL_iff.2 ⟨a, a3 _ ha, b3 _ hb, by rw [a2, b2, ← hm.lay, ← hn.lay]; exact hc⟩)]
/-- placed pieces in one flattened piece are in one class -/
theorem PAll.same {l : List (List Rect)} {E : List (Int × List Rect)} (h : PAll l E) (hl : isLay l = true) {j : Nat} (hj : j < (pcL l 4).length) {k : Nat} (hk : k < E.length) (ek : (gd E k).1 = (gd (pcL l 4) j).1) {a : Cel} (ha : On (bits (gd E k).2) a) (ha2 : On (gd (pcL l 4) j).2 a) :
   ∀ b, On (gd (pcL l 4) j).2 b → ∀ k2, k2 < E.length → (gd E k2).1 = (gd (pcL l 4) j).1 → On (bits (gd E k2).2) b → gd (clsH l E) k2 = gd (clsH l E) k := fun b hb => by
 obtain ⟨i, hi, e, hc⟩ := piece_in hj
 have hcn := comps_cnd hc a b ha2 hb
 induction hcn with
 | refl => exact fun k2 h1 h2 h3 => h.join hl h1 hk ((h.iff hl h1 hk).2 (.inl ⟨h2.trans ek.symm, a, a, h3, ha, .inl rfl⟩))
 | step g1 g2 g3 ih =>
   intro k2 h1 h2 h3
   have hb' := g1.on ha2
   obtain ⟨q, hq, q1, q2⟩ := h.cov i _ hi (piece_sub hi hj e hb')
   obtain ⟨k3, hk3, rfl⟩ := List.getElem_of_mem hq
   have e3 : gd E k3 = E[k3] := gd_eq hk3
   rw [← e3] at q1 q2
   rw [← ih hb' k3 hk3 (q1.trans e.symm) q2]
   exact h.join hl h1 hk3 ((h.iff hl h1 hk3).2 (.inl ⟨by rw [h2, q1, e], _, _, h3, q2, .inr g2.symm⟩))
open Classical in
noncomputable def gCls (l : List (List Rect)) (E : List (Int × List Rect)) (j : Nat) : Int := if h : ∃ k, k < E.length ∧ (gd E k).1 = (gd (pcL l 4) j).1 ∧ ∃ a, On (bits (gd E k).2) a ∧ On (gd (pcL l 4) j).2 a then gd (clsH l E) h.choose else 0
theorem PAll.gCls {l : List (List Rect)} {E : List (Int × List Rect)} (h : PAll l E) (hl : isLay l = true) {j : Nat} (hj : j < (pcL l 4).length) {k : Nat} (hk : k < E.length) (ek : (gd E k).1 = (gd (pcL l 4) j).1) {a : Cel} (ha : On (bits (gd E k).2) a) (ha2 : On (gd (pcL l 4) j).2 a) : gCls l E j = gd (clsH l E) k := by
 have hx : ∃ k, k < E.length ∧ (gd E k).1 = (gd (pcL l 4) j).1 ∧ ∃ a, On (bits (gd E k).2) a ∧ On (gd (pcL l 4) j).2 a := ⟨k, hk, ek, a, ha, ha2⟩
 rw [Go.Proofs.YthhjapiggekjbaaGreat.gCls, dif_pos hx]
 obtain ⟨h1, h2, b, h3, h4⟩ := hx.choose_spec
 exact h.same hl hj hk ek ha ha2 b h4 _ h1 h2 h3
theorem PAll.snd {l : List (List Rect)} {E : List (Int × List Rect)} (h : PAll l E) (hl : isLay l = true) : Snd (Go.Proofs.YthhjapiggekjbaaGreat.gCls l E) (clsL l) := by
 refine Snd.roots _ fun k i hki hi hJ => ?_
 have hk : k < (pcL l 4).length := by omega
 rw [JL] at hJ
 obtain ⟨a, ha, hb, hc⟩ := jnL_iff.1 hJ
 obtain ⟨m, hm, em, -⟩ := piece_in hk
 obtain ⟨n, hn, en, -⟩ := piece_in hi
 obtain ⟨p, hp, p1, p2⟩ := h.cov m a hm (piece_sub hm hk em ha)
 obtain ⟨q, hq, q1, q2⟩ := h.cov n a hn (piece_sub hn hi en hb)
 obtain ⟨k1, hk1, rfl⟩ := List.getElem_of_mem hp
 obtain ⟨k2, hk2, rfl⟩ := List.getElem_of_mem hq
 rw [← gd_eq hk1] at p1 p2
 rw [← gd_eq hk2] at q1 q2
 rw [h.gCls hl hk hk1 (p1.trans em.symm) p2 ha, h.gCls hl hi hk2 (q1.trans en.symm) q2 hb]
 exact h.join hl hk1 hk2 ((h.iff hl hk1 hk2).2 (.inr (jnL_iff.2 ⟨a, p2, q2, by simp only [pb]; rw [p1, q1, ← em, ← en]; exact hc⟩)))
theorem PAll.cls {l : List (List Rect)} {E : List (Int × List Rect)} (h : PAll l E) (hl : isLay l = true) {a b : Nat} (ha : a < E.length) (hb : b < E.length) : gd (clsH l E) a = gd (clsH l E) b ↔ numH l (gd E a) = numH l (gd E b) := by
 constructor
 · have hs : Snd (fun k => numH l (gd E k)) (clsH l E) := Snd.roots _ fun k i hki hi hJ => h.num hl (by omega) hi hJ
   exact fun e => hs.of_eq (by rw [clsH_len]; exact ha) (by rw [clsH_len]; exact hb) e
 · intro e
   obtain ⟨m, hm⟩ := h.mem _ (gd_mem ha)
   obtain ⟨n, hn⟩ := h.mem _ (gd_mem hb)
   obtain ⟨j1, a1, a2, a3, a4⟩ := hm.flat
   obtain ⟨j2, b1, b2, b3, b4⟩ := hn.flat
   rw [a4, b4] at e
   have e2 := numR_inj (clsL_rt l) (a := j1) (b := j2) (by rw [clsL_len]; exact a1) (by rw [clsL_len]; exact b1) (by omega)
   have e3 := (h.snd hl).of_eq (a := j1) (b := j2) (by rw [clsL_len]; exact a1) (by rw [clsL_len]; exact b1) e2
   obtain ⟨c, hc⟩ := hm.ne
   obtain ⟨d, hd⟩ := hn.ne
   rwa [h.gCls hl a1 ha (hm.lay.trans a2.symm) hc (a3 _ hc), h.gCls hl b1 hb (hn.lay.trans b2.symm) hd (b3 _ hd)] at e3
/-- the class of a placed piece is the first piece with its number -/
theorem PAll.first {l : List (List Rect)} {E : List (Int × List Rect)} (h : PAll l E) (hl : isLay l = true) {i : Nat} (hi : i < E.length) : ∃ m : Nat, gd (clsH l E) i = (m : Int) ∧ m ≤ i ∧ numH l (gd E m) = numH l (gd E i) ∧ ∀ k, k < m → numH l (gd E k) ≠ numH l (gd E i) := by
 obtain ⟨h1, h2, h3⟩ := clsH_rt l E i (by rw [clsH_len]; exact hi)
 refine ⟨(gd (clsH l E) i).toNat, by omega, by omega, (h.cls hl (by omega) hi).1 h3, fun k hk e => ?_⟩
 have e2 := (h.cls hl (by omega) hi).2 e
 obtain ⟨k1, k2, k3⟩ := clsH_rt l E k (by rw [clsH_len]; omega)
 omega
end Go.Proofs.YthhjapiggekjbaaGreat
namespace Go.Proofs.YthhjapiggekjbaaGreat
set_option linter.unusedVariables false
set_option linter.unusedSimpArgs false
open Go
set_option maxRecDepth 20000
set_option linter.unusedSimpArgs false
open Classical in
theorem comps_sub {S U : List Bool} (hsub : ∀ a, On U a → On S a) (hcl : ∀ a b, On U a → Adj a b → On S b → On U b) : comps U = ((firsts S 6400).filter fun j => decide (On U (cel j))).map fun j => compB S (cel j) := by
 have k1 : ∀ a b, On U a → Conn S a b → Conn U a b ∧ On U b := fun a b ha h => h.sub ha fun p q hp hpq hq => hcl p q hp hpq hq
 have k2 : ∀ a b, Conn U a b → Conn S a b := fun a b h => h.mono hsub
 have k3 : ∀ j, First U j ↔ First S j ∧ On U (cel j) := fun j => by
   constructor
   · rintro ⟨h1, h2⟩
     refine ⟨⟨hsub _ h1, fun i hi hs hc => ?_⟩, h1⟩
     obtain ⟨h3, h4⟩ := k1 _ _ h1 (hc.symm hs)
     exact h2 i hi h4 (h3.symm h1)
   · rintro ⟨⟨h1, h2⟩, h3⟩
     exact ⟨h3, fun i hi hs hc => h2 i hi (hsub _ hs) (k2 _ _ hc)⟩
 have k4 : firsts U 6400 = (firsts S 6400).filter fun j => decide (On U (cel j)) := by
   rw [firsts, firsts, List.filter_filter]
   refine List.filter_congr fun j _ => ?_
   rw [← Bool.decide_and, decide_eq_decide, k3 j, and_comm]
 rw [comps, k4]
 refine List.map_congr_left fun j hj => ?_
 have hU : On U (cel j) := by simpa using (List.mem_filter.1 hj).2
 refine gb_ext (compB_len _ _) (compB_len _ _) fun y x hy hx => ?_
 rw [Bool.eq_iff_iff, comp_iff hy hx, comp_iff hy hx]
 exact ⟨k2 _ _, fun h => (k1 _ _ hU h).1⟩
/-- what a net's pieces are, told by the numbers of the pieces -/
theorem numH_pc {l : List (List Rect)} {j : Nat} (hj : j < (pcL l 4).length) : numH l (pcR (gd (pcL l 4) j)) = (numR (clsL l) j : Int) := by
 obtain ⟨i, hi, e, hc⟩ := piece_in hj
 have h6 := comps_mem hc
 have hb : bits (canon (gd (pcL l 4) j).2) = (gd (pcL l 4) j).2 := bits_canon h6
 obtain ⟨h0, hv, hf⟩ := region_first (isReg_canon h6) (by rw [hb]; exact comps_ne hc)
 rw [hb] at hf
 rw [validR_iff] at hv
 exact findL_at hj (atB_of (by simp only [pcR]; omega) rfl hf.2.2)
theorem filter_range {α : Type} [Inhabited α] (xs : List α) (q : α → Bool) : ((List.range xs.length).filter fun j => q (gd xs j)).map (gd xs) = xs.filter q := by
 have e : xs = (List.range xs.length).map (gd xs) := by
   apply List.ext_getElem?
   intro i
   by_cases hi : i < xs.length
   · rw [getG hi, getG (by simpa using hi), gd_map _ (by simpa using hi)]; simp [gd, hi]
   · rw [List.getElem?_eq_none (by omega), List.getElem?_eq_none (by simp; omega)]
 conv => rhs; rw [e]
 rw [List.filter_map]; rfl
theorem netL_filter {l : List (List Rect)} {m : Nat} (hm : m < netN l) : gd (netL l) m = ((pcL l 4).filter fun p => decide (numH l (pcR p) = (m : Int))).map pcR := by
 rw [netL_gd hm]
 have e : ((List.range (pcL l 4).length).filter fun j => decide (numR (clsL l) j = m)) = (List.range (pcL l 4).length).filter fun j => decide (numH l (pcR (gd (pcL l 4) j)) = (m : Int)) := by
   refine List.filter_congr fun j hj => ?_
   rw [numH_pc (List.mem_range.1 hj), decide_eq_decide]; omega
 rw [e, ← filter_range (pcL l 4) fun p => decide (numH l (pcR p) = (m : Int)), List.map_map]; rfl
/-- the cells of the layer n that the class of the first-th piece covers -/
def uniR (E : List (Int × List Rect)) (C : List Int) (first n : Nat) : List Rect := ((List.range E.length).filter fun i => decide (gd C i = (first : Int)) && decide ((gd E i).1 = (n : Int))).flatMap fun i => (gd E i).2
noncomputable def hPcs (E : List (Int × List Rect)) (C : List Int) (first : Nat) : List (Int × List Rect) := (List.range 8).flatMap fun n => (partsL (bits (uniR E C first n))).map fun r => ((n : Int), r)
theorem uniR_on {E : List (Int × List Rect)} {C : List Int} {first n : Nat} {a : Cel} : On (bits (uniR E C first n)) a ↔ ∃ i, i < E.length ∧ gd C i = (first : Int) ∧ (gd E i).1 = (n : Int) ∧ On (bits (gd E i).2) a := by
 constructor
 · rintro ⟨h1, h2, h3⟩
   obtain ⟨r, hr, hi⟩ := (gb_bits_iff h1 h2).1 h3
   rw [uniR] at hr
   obtain ⟨i, hi1, hr⟩ := List.mem_flatMap.1 hr
   simp only [List.mem_filter, List.mem_range, Bool.and_eq_true, decide_eq_true_eq] at hi1
   exact ⟨i, hi1.1, hi1.2.1, hi1.2.2, h1, h2, (gb_bits_iff h1 h2).2 ⟨r, hr, hi⟩⟩
 · rintro ⟨i, hi, h1, h2, h3, h4, h5⟩
   obtain ⟨r, hr, hir⟩ := (gb_bits_iff h3 h4).1 h5
   refine ⟨h3, h4, (gb_bits_iff h3 h4).2 ⟨r, ?_, hir⟩⟩
   rw [uniR]
   refine List.mem_flatMap.2 ⟨i, ?_, hr⟩
   simp only [List.mem_filter, List.mem_range, Bool.and_eq_true, decide_eq_true_eq]
   exact ⟨hi, h1, h2⟩
theorem comps_empty {S : List Bool} (h : ∀ a, ¬ On S a) : comps S = [] := by
 rw [comps, List.map_eq_nil_iff, firsts, List.filter_eq_nil_iff]
 intro j _
 simp only [decide_eq_true_eq]
 exact fun hf => h _ hf.1
section
variable {l : List (List Rect)} {E : List (Int × List Rect)}
theorem PAll.uni (h : PAll l E) (hl : isLay l = true) {first : Nat} (hf : first < E.length) (hr : gd (clsH l E) first = (first : Int)) {i n : Nat} (hi : i < 4) (hn : (gd [0, 1, 3, 5] i : Int) = n) :
   partsL (bits (uniR E (clsH l E) first n)) = ((comps (gd (condB l) i)).filter fun c => decide (numH l (pcR (gd [0, 1, 3, 5] i, c)) = numH l (gd E first))).map canon := by
 have hsub : ∀ a, On (bits (uniR E (clsH l E) first n)) a → On (gd (condB l) i) a := fun a ha => by
   obtain ⟨k, hk, -, h2, h3⟩ := uniR_on.1 ha
   obtain ⟨m, hm⟩ := h.mem _ (gd_mem hk)
   have e : m = i := lay_inj hm.hi hi (by rw [← hm.lay, h2, hn])
   rw [← e]; exact hm.sub a h3
 have hcl : ∀ a b, On (bits (uniR E (clsH l E) first n)) a → Adj a b → On (gd (condB l) i) b → On (bits (uniR E (clsH l E) first n)) b := fun a b ha hab hb => by
   obtain ⟨k, hk, h1, h2, h3⟩ := uniR_on.1 ha
   obtain ⟨q, hq, q1, q2⟩ := h.cov i b hi hb
   obtain ⟨k2, hk2, rfl⟩ := List.getElem_of_mem hq
   rw [← gd_eq hk2] at q1 q2
   refine uniR_on.2 ⟨k2, hk2, ?_, by rw [q1, hn], q2⟩
   rw [← h1]
   exact (h.join hl hk hk2 ((h.iff hl hk hk2).2 (.inl ⟨by rw [h2, q1, hn], a, b, h3, q2, .inr hab⟩))).symm
 rw [partsL, comps_sub hsub hcl, comps, List.filter_map]
 congr 2
 refine List.filter_congr fun j hj => ?_
 simp only [Function.comp_apply]
 have hfj : First (gd (condB l) i) j := by simpa using (List.mem_filter.1 hj).2
 have hcc : compB (gd (condB l) i) (cel j) ∈ comps (gd (condB l) i) := List.mem_map.2 ⟨j, hj, rfl⟩
 obtain ⟨p, hp, e⟩ : ∃ p, p < (pcL l 4).length ∧ gd (pcL l 4) p = (gd [0, 1, 3, 5] i, compB (gd (condB l) i) (cel j)) := by
   have hm : ((gd [0, 1, 3, 5] i, compB (gd (condB l) i) (cel j)) : Int × List Bool) ∈ pcL l 4 := by
     rw [pcL, List.mem_flatten]
     exact ⟨_, List.mem_map.2 ⟨i, List.mem_range.2 hi, rfl⟩, List.mem_map.2 ⟨_, hcc, rfl⟩⟩
   obtain ⟨p, hp, e⟩ := List.getElem_of_mem hm
   exact ⟨p, hp, by rw [gd_eq hp, e]⟩
 have hself : On (gd (pcL l 4) p).2 (cel j) := by
   rw [e]; exact ⟨hfj.1.1, hfj.1.2.1, (comp_iff hfj.1.1 hfj.1.2.1).2 .refl⟩
 rw [← e, numH_pc hp, decide_eq_decide]
 constructor
 · intro hU
   obtain ⟨k, hk, h1, h2, h3⟩ := uniR_on.1 hU
   obtain ⟨m, hm⟩ := h.mem _ (gd_mem hk)
   obtain ⟨j2, g1, g2, g3, g4⟩ := hm.flat
   have hmi : m = i := lay_inj hm.hi hi (by rw [← hm.lay, h2, hn])
   have ej : j2 = p := piece_uniq g1 hp (by rw [g2, e, hmi]) (g3 _ h3) hself
   rw [← ej, ← g4]
   exact (h.cls hl hk hf).1 (by rw [h1, hr])
 · intro hnum
   obtain ⟨q, hq, q1, q2⟩ := h.cov i (cel j) hi hfj.1
   obtain ⟨k, hk, rfl⟩ := List.getElem_of_mem hq
   rw [← gd_eq hk] at q1 q2
   obtain ⟨m, hm⟩ := h.mem _ (gd_mem hk)
   obtain ⟨j2, g1, g2, g3, g4⟩ := hm.flat
   have hmi : m = i := lay_inj hm.hi hi (by rw [← hm.lay, q1])
   have ej : j2 = p := piece_uniq g1 hp (by rw [g2, e, hmi]) (g3 _ q2) hself
   refine uniR_on.2 ⟨k, hk, ?_, by rw [q1, hn], q2⟩
   rw [← hr]
   exact (h.cls hl hk hf).2 (by rw [g4, ej, hnum])
theorem PAll.none (h : PAll l E) {first n : Nat} (hn : ∀ i, i < 4 → (gd [0, 1, 3, 5] i : Int) ≠ n) (C : List Int) : partsL (bits (uniR E C first n)) = [] := by
 rw [partsL, comps_empty, List.map_nil]
 intro a ha
 obtain ⟨k, hk, -, h2, -⟩ := uniR_on.1 ha
 obtain ⟨m, hm⟩ := h.mem _ (gd_mem hk)
 exact hn m hm.hi (by rw [← hm.lay, h2])
/-- the pieces of a class are those of the net -/
theorem PAll.net (h : PAll l E) (hl : isLay l = true) {first : Nat} (hf : first < E.length) (hr : gd (clsH l E) first = (first : Int)) : ∃ m, m < netN l ∧ numH l (gd E first) = (m : Int) ∧ hPcs E (clsH l E) first = gd (netL l) m := by
 obtain ⟨i, hi⟩ := h.mem _ (gd_mem hf)
 obtain ⟨j, g1, g2, g3, g4⟩ := hi.flat
 have hm : numR (clsL l) j < netN l := numR_lt (clsL_rt l) (by rw [clsL_len]; exact g1) g1
 refine ⟨numR (clsL l) j, hm, g4, ?_⟩
 rw [netL_filter hm, ← g4]
 have n2 := h.none (first := first) (n := 2) (fun i hi => by rcases (by omega : i = 0 ∨ i = 1 ∨ i = 2 ∨ i = 3) with rfl | rfl | rfl | rfl <;> simp [gd]) (clsH l E)
 have n4 := h.none (first := first) (n := 4) (fun i hi => by rcases (by omega : i = 0 ∨ i = 1 ∨ i = 2 ∨ i = 3) with rfl | rfl | rfl | rfl <;> simp [gd]) (clsH l E)
 have n6 := h.none (first := first) (n := 6) (fun i hi => by rcases (by omega : i = 0 ∨ i = 1 ∨ i = 2 ∨ i = 3) with rfl | rfl | rfl | rfl <;> simp [gd]) (clsH l E)
 have n7 := h.none (first := first) (n := 7) (fun i hi => by rcases (by omega : i = 0 ∨ i = 1 ∨ i = 2 ∨ i = 3) with rfl | rfl | rfl | rfl <;> simp [gd]) (clsH l E)
 have u0 := h.uni hl hf hr (i := 0) (n := 0) (by omega) (by simp [gd])
 have u1 := h.uni hl hf hr (i := 1) (n := 1) (by omega) (by simp [gd])
 have u3 := h.uni hl hf hr (i := 2) (n := 3) (by omega) (by simp [gd])
 have u5 := h.uni hl hf hr (i := 3) (n := 5) (by omega) (by simp [gd])
 have e8 : ∀ f : Nat → List (Int × List Rect), (List.range 8).flatMap f = f 0 ++ (f 1 ++ (f 2 ++ (f 3 ++ (f 4 ++ (f 5 ++ (f 6 ++ f 7)))))) := fun f => by simp [List.range_succ]
 have e4 : pcL l 4 = ((comps (gd (condB l) 0)).map fun c => (gd [0, 1, 3, 5] 0, c)) ++ (((comps (gd (condB l) 1)).map fun c => (gd [0, 1, 3, 5] 1, c)) ++ (((comps (gd (condB l) 2)).map fun c => (gd [0, 1, 3, 5] 2, c)) ++ ((comps (gd (condB l) 3)).map fun c => (gd [0, 1, 3, 5] 3, c)))) := by
   rw [pcL]; simp [List.range_succ]
 have hg : ∀ i, i < 4 → ∀ n : Nat, (gd [0, 1, 3, 5] i : Int) = n → (((comps (gd (condB l) i)).filter fun c => decide (numH l (pcR (gd [0, 1, 3, 5] i, c)) = numH l (gd E first))).map canon).map (fun r => ((n : Int), r)) = ((((comps (gd (condB l) i)).map fun c => ((gd [0, 1, 3, 5] i : Int), c)).filter fun p => decide (numH l (pcR p) = numH l (gd E first))).map pcR) := fun i hi n hn => by
   rw [List.filter_map, List.map_map, List.map_map]
   refine List.map_congr_left fun c _ => ?_
   simp only [Function.comp_apply, pcR, hn]
 rw [hPcs, e8, n2, n4, n6, n7, u0, u1, u3, u5, e4, List.filter_append, List.filter_append, List.filter_append, List.map_append, List.map_append, List.map_append, hg 0 (by omega) 0 (by simp [gd]), hg 1 (by omega) 1 (by simp [gd]), hg 2 (by omega) 3 (by simp [gd]), hg 3 (by omega) 5 (by simp [gd])]
 simp
end
end Go.Proofs.YthhjapiggekjbaaGreat
namespace Go.Proofs.YthhjapiggekjbaaGreat
set_option linter.unusedVariables false
set_option linter.unusedSimpArgs false
open Go
set_option maxRecDepth 20000
set_option linter.unusedSimpArgs false
def cmpP (p q : Int × List Rect) : Int := if p.1 = q.1 then orI [cmpI (gd p.2 0).y0 (gd q.2 0).y0, cmpI (gd p.2 0).x0 (gd q.2 0).x0] else p.1 - q.1
theorem orI2 (a b : Int) : orI [a, b] = if a = 0 then b else a := by
 by_cases h : a = 0
 · subst h; by_cases h2 : b = 0
   · subst h2; rfl
   · simp [orI, h2]
 · simp [orI, h]
theorem cmpI_neg {a b : Int} : (cmpI a b < 0 ↔ a < b) ∧ (cmpI a b = 0 ↔ a = b) := by
 unfold cmpI; split
 · omega
 · split <;> omega
theorem cmpP_lt {p q : Int × List Rect} : cmpP p q < 0 ↔ p.1 < q.1 ∨ (p.1 = q.1 ∧ ((gd p.2 0).y0 < (gd q.2 0).y0 ∨ ((gd p.2 0).y0 = (gd q.2 0).y0 ∧ (gd p.2 0).x0 < (gd q.2 0).x0))) := by
 unfold cmpP
 have h1 := cmpI_neg (a := (gd p.2 0).y0) (b := (gd q.2 0).y0)
 have h2 := cmpI_neg (a := (gd p.2 0).x0) (b := (gd q.2 0).x0)
 by_cases h : p.1 = q.1
 · rw [if_pos h, orI2]
   by_cases c : cmpI (gd p.2 0).y0 (gd q.2 0).y0 = 0
   · rw [if_pos c]; have := h1.2.1 c; rw [h2.1]; omega
   · rw [if_neg c, h1.1]
     have : (gd p.2 0).y0 ≠ (gd q.2 0).y0 := fun e => c (h1.2.2 e)
     omega
 · rw [if_neg h]; omega
theorem comps_lt (S : List Bool) (n : Int) : ((comps S).map fun c => (n, c)).Pairwise fun p q => cmpP (pcR p) (pcR q) < 0 := by
 rw [comps, List.map_map, List.pairwise_map]
 refine ((firsts_sorted S 6400).imp_of_mem fun {a b} ha hb hab => ?_)
 have fa : First S a := by simpa using (List.mem_filter.1 ha).2
 have fb : First S b := by simpa using (List.mem_filter.1 hb).2
 have hb6 : b < 6400 := by have := (List.mem_filter.1 hb).1; simpa using this
 obtain ⟨-, y1, x1⟩ := canon_first fa
 obtain ⟨-, y2, x2⟩ := canon_first fb
 rw [cmpP_lt]
 right
 simp only [Function.comp_apply, pcR, y1, x1, y2, x2, true_and]
 omega
theorem lay_lt {i k : Nat} (h : i < k) (hk : k < 4) : (gd [0, 1, 3, 5] i : Int) < gd [0, 1, 3, 5] k := by
 rcases (by omega : k = 1 ∨ k = 2 ∨ k = 3) with rfl | rfl | rfl <;> rcases (by omega : i = 0 ∨ i = 1 ∨ i = 2) with rfl | rfl | rfl <;> first | omega | simp [gd]
theorem pcL_lt (l : List (List Rect)) : ∀ n, n ≤ 4 → (pcL l n).Pairwise fun p q => cmpP (pcR p) (pcR q) < 0
 | 0, _ => by simp [pcL]
 | n + 1, hn => by
   rw [pcL_succ, List.pairwise_append]
   refine ⟨pcL_lt l n (by omega), comps_lt _ _, fun p hp q hq => ?_⟩
   obtain ⟨i, hi, e⟩ := pcL_layer hp
   obtain ⟨c, hc, rfl⟩ := List.mem_map.1 hq
   rw [cmpP_lt]
   left
   simp only [pcR, e]
   exact lay_lt hi (by omega)
theorem pcL_lt_gd {l : List (List Rect)} {i j : Nat} (hij : i < j) (hj : j < (pcL l 4).length) : cmpP (pcR (gd (pcL l 4) i)) (pcR (gd (pcL l 4) j)) < 0 := by
 have := pcL_lt l 4 (Nat.le_refl _)
 rw [List.pairwise_iff_getElem] at this
 have h := this i j (by omega) hj hij
 rwa [← gd_eq (by omega), ← gd_eq hj] at h
theorem cmpP_asym {p q : Int × List Rect} (h : cmpP p q < 0) : ¬ cmpP q p < 0 := by
 rw [cmpP_lt] at *; omega
theorem cmpP_irr (p : Int × List Rect) : ¬ cmpP p p < 0 := by rw [cmpP_lt]; omega
theorem cmpP_tr {p q r : Int × List Rect} (h1 : cmpP p q < 0) (h2 : cmpP q r < 0) : cmpP p r < 0 := by rw [cmpP_lt] at *; omega
theorem cmpP_nt {p q r : Int × List Rect} (h1 : ¬ cmpP p q < 0) (h2 : ¬ cmpP q r < 0) : ¬ cmpP p r < 0 := by rw [cmpP_lt] at *; omega
/-- the first piece of a net is that of its root -/
theorem net_head {l : List (List Rect)} {m : Nat} (hm : m < netN l) : ∃ j, j < (pcL l 4).length ∧ gd (clsL l) j = (j : Int) ∧ cntR (clsL l) j = m ∧ 0 < (gd (netL l) m).length ∧ gd (gd (netL l) m) 0 = pcR (gd (pcL l 4) j) := by
 obtain ⟨k, hk, e⟩ : ∃ k, k < (pcL l 4).length ∧ numR (clsL l) k = m := by
   have key : ∀ n, n ≤ (pcL l 4).length → m < cntR (clsL l) n → ∃ k, k < n ∧ numR (clsL l) k = m := fun n => by
     induction n with
     | zero => intro _ h; simp [cntR] at h
     | succ n ih =>
       intro hn h
       rw [cntR_succ] at h
       by_cases hr : gd (clsL l) n = (n : Int)
       · rw [if_pos hr] at h
         by_cases e : m = cntR (clsL l) n
         · exact ⟨n, by omega, by rw [numR_root hr, e]⟩
         · obtain ⟨k, hk, e2⟩ := ih (by omega) (by omega)
           exact ⟨k, by omega, e2⟩
       · rw [if_neg hr] at h
         obtain ⟨k, hk, e2⟩ := ih (by omega) (by omega)
         exact ⟨k, by omega, e2⟩
   exact key _ (Nat.le_refl _) hm
 obtain ⟨h1, h2, h3⟩ := clsL_rt l k (by rw [clsL_len]; exact hk)
 have hj : (gd (clsL l) k).toNat < (pcL l 4).length := by omega
 have hr : gd (clsL l) (gd (clsL l) k).toNat = ((gd (clsL l) k).toNat : Int) := by rw [h3]; omega
 have hc : cntR (clsL l) (gd (clsL l) k).toNat = m := by rw [← e, numR]
 refine ⟨(gd (clsL l) k).toNat, hj, hr, hc, ?_⟩
 rw [netL_gd hm]
 have hnum : ∀ i, i < (pcL l 4).length → numR (clsL l) i = m → (gd (clsL l) k).toNat ≤ i := fun i hi hn => by
   have e2 := numR_inj (clsL_rt l) (a := i) (b := k) (by rw [clsL_len]; exact hi) (by rw [clsL_len]; exact hk) (by rw [hn, e])
   have := (clsL_rt l i (by rw [clsL_len]; exact hi)).2.1
   omega
 generalize (gd (clsL l) k).toNat = j at *
 have hsp : List.range (pcL l 4).length = List.range j ++ (j :: (List.range ((pcL l 4).length - j - 1)).map fun i => i + j + 1) := by
   have e1 : (pcL l 4).length = j + (1 + ((pcL l 4).length - j - 1)) := by omega
   conv => lhs; rw [e1]
   rw [List.range_add, List.range_add]
   simp only [List.range_one, List.map_append, List.map_cons, List.map_nil, List.map_map, Nat.add_zero, List.singleton_append]
   congr 2
   refine List.map_congr_left fun i _ => ?_
   simp only [Function.comp_apply]; omega
 have hf : ((List.range (pcL l 4).length).filter fun i => decide (numR (clsL l) i = m)) = j :: (((List.range ((pcL l 4).length - j - 1)).map fun i => i + j + 1).filter fun i => decide (numR (clsL l) i = m)) := by
   rw [hsp, List.filter_append, List.filter_cons, if_pos (by rw [decide_eq_true_eq, numR_root hr, hc])]
   have : (List.range j).filter (fun i => decide (numR (clsL l) i = m)) = [] := by
     rw [List.filter_eq_nil_iff]
     intro i hi
     have hi := List.mem_range.1 hi
     simp only [decide_eq_true_eq]
     intro hn
     have := hnum i (by omega) hn
     omega
   rw [this, List.nil_append]
 rw [hf]
 exact ⟨by simp, by simp [gd]⟩
theorem net_lt {l : List (List Rect)} {m n : Nat} (hm : m < netN l) (hn : n < netN l) : cmpP (gd (gd (netL l) m) 0) (gd (gd (netL l) n) 0) < 0 ↔ m < n := by
 obtain ⟨i, i1, i2, i3, -, i4⟩ := net_head hm
 obtain ⟨j, j1, j2, j3, -, j4⟩ := net_head hn
 rw [i4, j4]
 constructor
 · intro h
   rcases Nat.lt_trichotomy i j with c | c | c
   · have := cntR_mono (clsL l) (m := i + 1) (n := j) (by omega)
     rw [cntR_succ, if_pos i2] at this
     omega
   · subst c; exact absurd h (cmpP_irr _)
   · exact absurd h (cmpP_asym (pcL_lt_gd c i1))
 · intro h
   refine pcL_lt_gd ?_ j1
   rcases Nat.lt_or_ge i j with c | c
   · exact c
   · have := cntR_mono (clsL l) (m := j) (n := i) c
     omega
end Go.Proofs.YthhjapiggekjbaaGreat
namespace Go.Proofs.YthhjapiggekjbaaGreat
set_option linter.unusedVariables false
set_option linter.unusedSimpArgs false
open Go
theorem zeroCells_one (z : Value) (n : Nat) : (Builtin.zeroCells #[z] n).toList = List.replicate n z := by
 apply List.ext_getElem
 · simp [Builtin.zeroCells]
 · intro i h1 h2
   simp [Builtin.zeroCells, Nat.mod_one]
theorem flat_rep {α : Type} {F : FT α} {a : α} {z : Value} (h : F.enc a = [z]) : ∀ n, F.flat (List.replicate n a) = List.replicate n z
 | 0 => rfl
 | n + 1 => by
   have ih := flat_rep h n
   simp only [FT.flat] at ih ⊢
   rw [List.replicate_succ, List.flatMap_cons, ih, h, List.replicate_succ, List.singleton_append]
section
variable {P : Program} {n : Nat} {σ : Nat → Value} {G : Gh} {L : List Ch} {o : Oper} {t : TypeId} {x : Operand} {v : Value} {K : (Nat → Value) → Gh → List Ch → Prop}
theorem OT.clr {α : Type} {F : FT α} {e : TypeId} {bytes : Nat} {z : Value} {z0 : α} {zs : List α} {k : Nat} {L' : List Ch} (ho : o.op = .call { callee := .builtin .clear, args := #[x], argTypes := #[t] }) (hT : ElemT P t e F.sz bytes [z]) (hz : F.enc z0 = [z]) (hz1 : z.oneCell' = true)
   (hx : ev σ x = slv 1 v k zs.length) [hX : ExS v L α e F zs L'] (hk : k < zs.length) (K1 : K (updo σ o.dst (.tuple #[])) G (osl e F v (zs.take k ++ List.replicate (zs.length - k) z0) :: L')) : OT P n o σ G L K := by
 obtain ⟨hu1, i, zv, hi, hi1, hi2, hi3, hi4⟩ := hT
 have hsz : F.sz = 1 := by rw [← F.len z0, hz]; rfl
 refine OT.ofRun fun w hs => ?_
 have hb : ∃ b cap c, v = .slice (some ⟨b, 0, none⟩) zs.length cap ∧ wh w b = some (.cells c e (0, 0)) ∧ zs.length ≤ cap ∧ cap ≤ maxLen ∧ c.size = cap * F.sz ∧ c.toList.take (zs.length * F.sz) = F.flat zs := by
   obtain ⟨hp, s, l1, l2, d⟩ := hs
   obtain ⟨g1, g2, _, m1, _, cc, _⟩ := hX.ex.sep s
   rcases cc with ⟨_, rfl⟩ | ⟨b, cap, c, h1, h2, h3⟩
   · simp at hk
   · exact ⟨b, cap, c, h1, l2 _ _ (m1 _ _ h2), h3⟩
 obtain ⟨b, cap, c, rfl, hb, h3, h4, h5, h6⟩ := hb
 rw [hsz, Nat.mul_one] at h5 h6
 have hx' : ev σ x = .slice (some ⟨b, k, none⟩) (zs.length - k) (cap - k) := by
   rw [hx]; simp only [slv]; rw [if_neg (by omega)]; simp [add_none]
 have hone : ∀ u ∈ List.replicate (zs.length - k) z, u.oneCell' = true := fun u hu => by rw [List.eq_of_mem_replicate hu]; exact hz1
 obtain ⟨w', hr, hq, hw'⟩ := storeCells_run (P := P) (List.replicate (zs.length - k) z) b k 0 c e w hone hb (by simp; omega)
 have hzc : zv.cells = #[z] := by rw [← Array.toList_inj]; exact hi4
 have hfl : F.flat (zs.take k ++ List.replicate (zs.length - k) z0) = (F.flat zs).take k ++ List.replicate (zs.length - k) z := by
   have h1 : F.flat (zs.take k ++ List.replicate (zs.length - k) z0) = F.flat (zs.take k) ++ F.flat (List.replicate (zs.length - k) z0) := by simp [FT.flat]
   rw [h1, flat_rep hz, FT.flat_take, hsz, Nat.mul_one]
 have hlen : (zs.take k ++ List.replicate (zs.length - k) z0).length = zs.length := by simp; omega
 refine ⟨.tuple #[], G, _, w', ?_, hs.set hq hX.ex (b := b) (fun h hh => ?_) hw' (c' := osl e F (.slice (some ⟨b, 0, none⟩) zs.length cap) (zs.take k ++ List.replicate (zs.length - k) z0)) (fun h hh _ => ?_), K1⟩
 · have hn : zs.length - k ≠ 0 := by omega
   obtain ⟨m, hm⟩ : ∃ m, zs.length - k = m + 1 := ⟨zs.length - k - 1, by omega⟩
   have hrun : (Builtin.clear_ #[t] o.type #[.slice (some ⟨b, k, none⟩) (zs.length - k) (cap - k)]).run P w = .ok (.tuple #[]) w' := by
     rw [hm] at hr ⊢
     have hzr : (zeroValue e).run P w = .ok zv w := by simp [zeroValue, typeInfo, hi, hi3]
     simp [Builtin.clear_, run_underlying hu1, hzr, hzc, zeroCells_one, hr, Result.andThen]
   simp [execOp, ho, resolve, invoke, builtin, hx', hrun]
 · rcases hh with ⟨_, rfl⟩ | ⟨b', cap', c', h1, h2, _⟩
   · simp at hk
   · simp only [Value.slice.injEq, Option.some.injEq, Addr.mk.injEq] at h1
     obtain ⟨⟨rfl, _⟩, _⟩ := h1
     simp [h2]
 · refine .inr ⟨b, cap, (splice c.toList (k + 0) (List.replicate (zs.length - k) z)).toArray, by rw [hlen], by simp, by rw [hlen]; exact h3, h4, by rw [hsz, Nat.mul_one]; simp [splice_length, h5], ?_⟩
   rw [hlen, hsz, Nat.mul_one, hfl, Nat.add_zero]
   have hfn : (F.flat zs).length = zs.length := by rw [F.flat_len, hsz, Nat.mul_one]
   show List.take zs.length (splice c.toList k (List.replicate (zs.length - k) z)) = _
   rw [splice_take _ _ _ _ (by simp; omega) (by simp; omega), h6, splice_all _ _ _ (by simp; omega)]
theorem SlF.r0 {α : Type} {T : FT α} {v : Value} {xs : List α} (h : Rs G L T v xs) : SlF G L v xs.length := fun w hs => (h w hs).1
theorem El.r0 {α : Type} {T : FT α} {v : Value} {xs : List α} {i : Nat} {x : α} (h : Rs G L T v xs) (hi : xs[i]? = some x) : El G L T v i x := El.r (p := ⟨.refl L⟩) h hi
/-- an owned slice cut short -/
theorem Cv.cut {α : Type} {F : FT α} {e : TypeId} {zs : List α} {k : Nat} (hk : k ≤ zs.length) (h0 : 0 < zs.length) (hsz : F.sz = 1) : Cv (osl e F v zs :: L) (osl e F (slv 1 v 0 k) (zs.take k) :: L) := by
 rintro hp ⟨h1, h2, d, l1, l2, cc, s⟩
 refine ⟨h1, h2, d, l1, l2, ?_, s⟩
 rcases cc with ⟨_, rfl⟩ | ⟨b, cap, c, rfl, hb, h3, h4, h5, h6⟩
 · simp at h0
 · refine .inr ⟨b, cap, c, ?_, hb, by simp; omega, h4, h5, ?_⟩
   · simp only [slv]; rw [if_neg (by omega)]; simp [add_none, Nat.min_eq_left hk]
   · rw [FT.flat_take, ← h6, List.take_take, List.length_take, Nat.min_eq_left hk, hsz]
     congr 1; omega
end
end Go.Proofs.YthhjapiggekjbaaGreat
namespace Go.Proofs.YthhjapiggekjbaaGreat
set_option linter.unusedVariables false
set_option linter.unusedSimpArgs false
open Go
set_option maxRecDepth 20000
set_option linter.unusedSimpArgs false
variable {G : Gh} {L : List Ch} {R : Value → Gh → List Ch → Prop}
def cpt {α : Type} [Inhabited α] [DecidableEq α] (xs : List α) : Nat → List α
  | 0 => []
  | n + 1 => if n = 0 ∨ gd xs n ≠ gd xs (n - 1) then cpt xs n ++ [gd xs n] else cpt xs n
def compactL {α : Type} [Inhabited α] [DecidableEq α] (xs : List α) : List α := cpt xs xs.length
theorem cpt_take {α : Type} [Inhabited α] [DecidableEq α] {xs : List α} : ∀ {n : Nat}, n ≤ xs.length → (∀ j, 1 ≤ j → j < n → gd xs j ≠ gd xs (j - 1)) → cpt xs n = xs.take n
 | 0, _, _ => rfl
 | n + 1, h, hd => by
   rw [cpt, if_pos, cpt_take (by omega) (fun j h1 h2 => hd j h1 (by omega)), List.take_add_one, getG (by omega)]; · rfl
   by_cases c : n = 0
   · exact .inl c
   · exact .inr (hd n (by omega) (by omega))
theorem cpt_all {α : Type} [Inhabited α] [DecidableEq α] {xs : List α} (hd : ∀ j, 1 ≤ j → j < xs.length → gd xs j ≠ gd xs (j - 1)) : compactL xs = xs := by
 rw [compactL, cpt_take (Nat.le_refl _) hd, List.take_length]
theorem gd_part {α : Type} [Inhabited α] {ys : List α} {n m p : Nat} (h : n + p < m) : gd ((ys.take m).drop n) p = gd ys (n + p) := by
 unfold gd; rw [List.getElem?_drop, List.getElem?_take, if_pos h]
theorem compact_nil {α : Type} [Inhabited α] [DecidableEq α] {xs : List α} : compactL xs = [] ↔ xs = [] := by
 constructor
 · intro h
   cases xs with
   | nil => rfl
   | cons a xs =>
     exfalso
     have key : ∀ n, cpt (a :: xs) (n + 1) ≠ [] := by
       intro n
       induction n with
       | zero => simp [cpt]
       | succ n ih =>
         rw [cpt]; split
         · simp
         · exact ih
     exact key xs.length h
 · rintro rfl; rfl
theorem compact_int {v : Value} {xs : List Int} (hl : xs.length ≤ 1000000) (k : ∀ v', R v' G (osl 2 intT v' (compactL xs) :: L)) : CallT Tryz.prog 72 #[v] G (osl 2 intT v xs :: L) R := by
 refine CallT.enter (args := _) Tryz.func72 rfl rfl (by kernel_rfl) rfl ?_
 refine WP.seq (WP.region (RG.pv rfl (PV.asg rfl rfl) (RG.nil (WP.seq (WP.seq (WP.region (RG.pv rfl (PV.move (v := v) rfl rfl) ?_)))))))
 refine RG.pv rfl (PV.len (v := v) rfl Tryz.underlying26 rfl SlF.o) (RG.pv rfl (PV.lss rfl rfl rfl) (RG.nil ?_))
 refine WP.cond rfl (fun h2 => ?_) (fun h2 => ?_)
 · have h2 := of_decide_eq_true h2
   have e : compactL xs = xs := cpt_all fun j h3 h4 => by omega
   rw [e] at k
   refine WP.seq (WP.region (RG.pv rfl (PV.move (v := v) rfl rfl) (RG.pv rfl (PV.asg (v := v) rfl rfl) (RG.nil ?_))))
   refine WP.ret ?_
   exact ⟨_, _, ResV.one rfl rfl, Cv.p, k v⟩
 · have h2 := of_decide_eq_false h2
   have hg : gd xs = gd xs := rfl
   refine WP.skip (WP.seq (WP.seq (WP.region (RG.mr rfl rfl rfl (RG.nil (WP.block ?_))))))
   refine WP.loop1 [0] (fun n => (1 ≤ n ∧ n ≤ xs.length) ∧ ∀ j, 1 ≤ j → j < n → gd xs j ≠ gd xs (j - 1)) (fun n => [(3, vi n)]) (fun n => osl 2 intT v xs :: L) (fun n => xs.length - n) 1 ⟨by omega, fun j h3 h4 => by omega⟩ ⟨rfl, trivial⟩ Cv.p ?_
   rintro n τ ⟨hn, hd⟩
   refine WP.seq (WP.seq (WP.region (RG.ml rfl rfl rfl (RG.pv rfl (PV.move (v := v) rfl rfl) (RG.pv rfl (PV.len (v := v) rfl Tryz.underlying26 rfl SlF.o) (RG.pv rfl (PV.lss rfl rfl rfl) (RG.nil ?_)))))))
   refine WP.cond rfl (fun h3 => ?_) (fun h3 => ?_)
   · have h3 := of_decide_eq_true h3
     refine WP.skip (WP.seq (WP.block (WP.seq ?_)))
     refine WP.regionQ (by kernel_rfl) (by kernel_rfl) ?_
     refine RQ.pv rfl (PV.move (v := v) rfl rfl) ?_
     refine RQ.pv rfl (PV.mvI (.inl rfl) rfl) ?_
     refine RQ.pv rfl (PV.idxS (j := n) (v := v) rfl Is26 rfl SlF.o rfl (by first | omega | (simp only [List.length_set]; omega)) (by first | omega | (simp only [List.length_set]; omega))) ?_
     refine RQ.pv rfl (PV.loadE1 rfl Sc2 rfl rfl (El.o (getG (by omega))) rfl) ?_
     refine RQ.pv rfl (PV.move (v := v) rfl rfl) ?_
     refine RQ.pv rfl (PV.mvI (.inl rfl) rfl) ?_
     refine RQ.pv rfl (PV.sub rfl rfl rfl (by omega)) ?_
     refine RQ.pv rfl (PV.idxS (j := n - 1) (v := v) rfl Is26 rfl SlF.o rfl (by first | omega | (simp only [List.length_set]; omega)) (by first | omega | (simp only [List.length_set]; omega))) ?_
     refine RQ.pv rfl (PV.loadE1 rfl Sc2 rfl rfl (El.o (getG (by omega))) rfl) ?_
     refine RQ.pv rfl (PV.eql rfl rfl rfl) ?_
     refine RQ.nil ?_
     refine WP.cond rfl (fun h4 => ?_) (fun h4 => ?_)
     · have h4 := of_decide_eq_true h4
       have h30 : n < xs.length := by omega
       have e0 : xs.take n = cpt xs (n + 1) := by
         rw [cpt, if_neg (by rintro (c | c) <;> first | omega | exact c h4), cpt_take (by omega) hd]
       refine WP.seq (WP.region (RG.pv rfl (PV.move (v := v) rfl rfl) (RG.ml rfl rfl rfl (RG.pv rfl (PV.slc (v := v) rfl Is26 rfl SlF.o (optAt.s rfl rfl) optAt.n (by omega) (by omega)) (RG.pv rfl (PV.asg rfl rfl) (RG.nil (WP.seq ?_)))))))
       refine WP.seq (WP.region (RG.mr rfl rfl rfl (RG.nil (WP.block ?_))))
       refine WP.loop3 [0, 4] (fun (p q : Nat) (ys : List Int) => (1 ≤ p ∧ p ≤ xs.length - n ∧ q + 1 ≤ n + p) ∧ ys.length = xs.length ∧ ys.take q = cpt xs (n + p) ∧ ∀ j, n + p ≤ j + 1 → gd ys j = gd xs j) (fun (p q : Nat) (ys : List Int) => [(5, vi p), (3, vi q)]) (fun (p q : Nat) (ys : List Int) => osl 2 intT v ys :: L) (fun (p q : Nat) (ys : List Int) => xs.length - p) 1 n xs ⟨by omega, rfl, e0, fun j _ => rfl⟩ ⟨rfl, rfl, trivial⟩ Cv.p ?_
       rintro p q ys τ1 ⟨hp, hyl, hyt, hyr⟩
       refine WP.seq (WP.seq (WP.region (RG.ml rfl rfl rfl (RG.pv rfl (PV.move rfl rfl) (RG.pv rfl (PV.len rfl Tryz.underlying26 rfl (SlF.r0 (Rs.slv (F := intT) Rs.o (by omega) (by omega)))) (RG.pv rfl (PV.lss rfl rfl rfl) (RG.nil ?_)))))))
       have hpl : (List.drop n (List.take xs.length ys)).length = xs.length - n := by simp; omega
       refine WP.cond rfl (fun h5 => ?_) (fun h5 => ?_)
       · have h5 := of_decide_eq_true h5
         have h50 : n + p < xs.length := by omega
         have g1 : gd (List.drop n (List.take xs.length ys)) p = gd xs (n + p) := by rw [gd_part h50]; exact hyr _ (by omega)
         have g2 : gd (List.drop n (List.take xs.length ys)) (p - 1) = gd xs (n + p - 1) := by rw [gd_part (by omega), show n + (p - 1) = n + p - 1 by omega]; exact hyr _ (by omega)
         refine WP.skip (WP.seq (WP.block (WP.seq ?_)))
         refine WP.regionQ (by kernel_rfl) (by kernel_rfl) ?_
         refine RQ.pv rfl (PV.move rfl rfl) ?_
         refine RQ.pv rfl (PV.mvI (.inl rfl) rfl) ?_
         refine RQ.pv rfl (PV.idxS (j := p) rfl Is26 rfl (SlF.r0 (Rs.slv (F := intT) Rs.o (by omega) (by omega))) rfl (by first | omega | (simp only [List.length_set]; omega)) (by first | omega | (simp only [List.length_set]; omega))) ?_
         refine RQ.pv rfl (PV.loadE1 rfl Sc2 rfl rfl (El.r0 (Rs.slv (F := intT) Rs.o (by omega) (by omega)) (getG (by omega))) rfl) ?_
         refine RQ.pv rfl (PV.move rfl rfl) ?_
         refine RQ.pv rfl (PV.mvI (.inl rfl) rfl) ?_
         refine RQ.pv rfl (PV.sub rfl rfl rfl (by omega)) ?_
         refine RQ.pv rfl (PV.idxS (j := p - 1) rfl Is26 rfl (SlF.r0 (Rs.slv (F := intT) Rs.o (by omega) (by omega))) rfl (by first | omega | (simp only [List.length_set]; omega)) (by first | omega | (simp only [List.length_set]; omega))) ?_
         refine RQ.pv rfl (PV.loadE1 rfl Sc2 rfl rfl (El.r0 (Rs.slv (F := intT) Rs.o (by omega) (by omega)) (getG (by omega))) rfl) ?_
         refine RQ.pv rfl (PV.neq rfl rfl rfl) ?_
         refine RQ.nil ?_
         rw [g1, g2]
         refine WP.cond rfl (fun h6 => ?_) (fun h6 => ?_)
         · have h6 : ¬ gd xs (n + p) = gd xs (n + p - 1) := by simpa using h6
           have e1 : (ys.set q (gd xs (n + p))).take (q + 1) = cpt xs (n + (p + 1)) := by
             rw [show n + (p + 1) = (n + p) + 1 by omega, cpt, if_pos (.inr h6), ← hyt, List.take_add_one, List.take_set_of_le (Nat.le_refl _)]
             congr 1
             simp [show q < ys.length by omega]
           have e2 : ∀ j, n + (p + 1) ≤ j + 1 → gd (ys.set q (gd xs (n + p))) j = gd xs j := fun j hj => by
             rw [← hyr j (by omega)]; unfold gd; rw [List.getElem?_set_ne (by omega)]
           refine WP.seq (WP.region (RG.pv rfl (PV.move (v := v) rfl rfl) (RG.ml rfl rfl rfl (RG.pv rfl (PV.move rfl rfl) (RG.ml rfl rfl rfl (RG.pv rfl (PV.idxS (j := p) rfl Is26 rfl (SlF.r0 (Rs.slv (F := intT) Rs.o (by omega) (by omega))) rfl (by first | omega | (simp only [List.length_set]; omega)) (by first | omega | (simp only [List.length_set]; omega))) (RG.pv rfl (PV.loadE1 rfl Sc2 rfl rfl (El.r0 (Rs.slv (F := intT) Rs.o (by omega) (by omega)) (getG (by omega))) rfl) ?_)))))))
           refine RG.pv rfl (PV.idxS (j := q) (v := v) rfl Is26 rfl SlF.o rfl (by first | omega | (simp only [List.length_set]; omega)) (by first | omega | (simp only [List.length_set]; omega))) ?_
           refine RG.ot rfl (OT.storeE (F := intT) rfl Sz2 rfl rfl rfl (Cl.c rfl) (OneC.c rfl) (by first | omega | (simp only [List.length_set]; omega)) ?_)
           refine RG.nil (WP.region (RG.ml rfl rfl rfl (RG.pv rfl (PV.add rfl rfl rfl (by omega)) (RG.mr rfl rfl rfl (RG.nil (WP.region (RG.ml rfl rfl rfl ?_)))))))
           refine RG.pv rfl (PV.add rfl rfl rfl (by omega)) (RG.mr rfl rfl rfl (RG.nil ?_))
           exact ⟨rfl, p + 1, q + 1, (ys.set q (gd xs (n + p))), ⟨by omega, by simpa using hyl, e1, e2⟩, ⟨rfl, rfl, trivial⟩, ⟨rfl, rfl, trivial⟩, (Cv.eqS (by rw [g1])), by omega⟩
         · have h6 : gd xs (n + p) = gd xs (n + p - 1) := by simpa using h6
           have e1 : ys.take q = cpt xs (n + (p + 1)) := by
             rw [show n + (p + 1) = (n + p) + 1 by omega, cpt, if_neg (by rintro (c | c) <;> first | omega | exact c h6), ← hyt]
           refine WP.skip (WP.region (RG.ml rfl rfl rfl (RG.pv rfl (PV.add rfl rfl rfl (by omega)) (RG.mr rfl rfl rfl (RG.nil ?_)))))
           exact ⟨rfl, p + 1, q, ys, ⟨by omega, hyl, e1, fun j hj => hyr j (by omega)⟩, ⟨rfl, rfl, trivial⟩, ⟨rfl, rfl, trivial⟩, Cv.p, by omega⟩
       · have h5 := of_decide_eq_false h5
         have hcl : (List.take q ys ++ List.replicate (ys.length - q) (0 : Int)).length = ys.length := by simp; omega
         have e2 : (List.take q ys ++ List.replicate (ys.length - q) (0 : Int)).take q = compactL xs := by
           rw [List.take_append_of_le_length (by simp; omega), List.take_take, Nat.min_self, hyt, compactL]; congr 1; omega
         refine WP.exit ?_
         refine WP.seq (WP.region (RG.pv rfl (PV.move (v := v) rfl rfl) (RG.ml rfl rfl rfl (RG.pv rfl (PV.slc (v := v) rfl Is26 rfl SlF.o (optAt.s rfl rfl) optAt.n (by omega) (by omega)) ?_))))
         refine RG.ot rfl (OT.clr rfl El26 rfl rfl rfl (by omega) ?_)
         refine RG.nil (WP.seq (WP.region (RG.pv rfl (PV.move (v := v) rfl rfl) (RG.ml rfl rfl rfl (RG.pv rfl (PV.slc (v := v) rfl Is26 rfl SlF.o optAt.n (optAt.s rfl rfl) (by omega) (by omega)) (RG.pv rfl (PV.asg rfl rfl) (RG.nil ?_)))))))
         refine WP.ret ?_
         exact ⟨_, _, ResV.one rfl rfl, ((Cv.p (C := osl 2 intT v (List.take q ys ++ List.replicate (ys.length - q) (0 : Int)) :: L)).trans ((Cv.cut (k := q) (by omega) (by omega) rfl).trans (Cv.eqS e2))), k (slv 1 v 0 q)⟩
     · have h4 := of_decide_eq_false h4
       have hd' : ∀ j, 1 ≤ j → j < n + 1 → gd xs j ≠ gd xs (j - 1) := fun j h5 h6 => by
         by_cases c : j = n
         · rw [c]; exact h4
         · exact hd j h5 (by omega)
       refine WP.skip (WP.region (RG.ml rfl rfl rfl (RG.pv rfl (PV.add rfl rfl rfl (by omega)) (RG.mr rfl rfl rfl (RG.nil ?_)))))
       exact ⟨rfl, n + 1, ⟨by omega, hd'⟩, ⟨rfl, trivial⟩, ⟨rfl, trivial⟩, Cv.p, by omega⟩
   · have h3 := of_decide_eq_false h3
     have e : compactL xs = xs := cpt_all fun j h5 h6 => hd j h5 (by omega)
     rw [e] at k
     refine WP.exit ?_
     refine WP.seq (WP.region (RG.pv rfl (PV.move (v := v) rfl rfl) (RG.pv rfl (PV.asg (v := v) rfl rfl) (RG.nil ?_))))
     refine WP.ret ?_
     exact ⟨_, _, ResV.one rfl rfl, Cv.p, k v⟩
end Go.Proofs.YthhjapiggekjbaaGreat
namespace Go.Proofs.YthhjapiggekjbaaGreat
set_option linter.unusedVariables false
set_option linter.unusedSimpArgs false
open Go
set_option maxRecDepth 20000
set_option linter.unusedSimpArgs false
variable {G : Gh} {L : List Ch} {R : Value → Gh → List Ch → Prop}
theorem inJ_vals {J : Nat → Nat → Bool} {i k : Nat} (hk : k ≤ i) : Rt (inJ J i (rootsJ J i) k) := by
 have := (rt_roots J i).inJ (J := J) k (by rw [rootsJ_len]; exact hk)
 rwa [rootsJ_len] at this
theorem inJ_le {J : Nat → Nat → Bool} {i k j : Nat} (hk : k ≤ i) (hj : j ≤ i) : 0 ≤ gd (inJ J i (rootsJ J i) k) j ∧ gd (inJ J i (rootsJ J i) k) j ≤ j := by
 have := inJ_vals (J := J) hk j (by rw [inJ_len, rootsJ_len]; omega)
 exact ⟨this.1, this.2.1⟩
theorem stepJ_same {J : Nat → Nat → Bool} {i k : Nat} {c : List Int} (h : gd c k = gd c i ∨ J k i = false) : stepJ J i c k = c := by rw [stepJ, if_pos h]
theorem stepJ_map {J : Nat → Nat → Bool} {i k : Nat} {c : List Int} (h : ¬ (gd c k = gd c i ∨ J k i = false)) : stepJ J i c k = c.map (rl (min (gd c k) (gd c i)) (max (gd c k) (gd c i))) := by rw [stepJ, if_neg h]
end Go.Proofs.YthhjapiggekjbaaGreat
namespace Go.Proofs.YthhjapiggekjbaaGreat
set_option linter.unusedVariables false
set_option linter.unusedSimpArgs false
open Go
set_option maxRecDepth 20000
set_option linter.unusedSimpArgs false
variable {G : Gh} {L : List Ch} {R : Value → Gh → List Ch → Prop}
theorem jnI_er (l : List (List Rect)) (p q : Piece) : jnI l (erP p) (erP q) = bif decide (q.layer < p.layer) then jnO l (erP q) (erP p) else jnO l (erP p) (erP q) := rfl
theorem jnO_er (l : List (List Rect)) (p q : Piece) : jnO l (erP p) (erP q) = bif decide (q.layer = 3) && decide (p.layer < 3) then meetIn p.reg.xs q.reg.xs (gd l 2) else decide (p.layer = 3) && decide (q.layer = 5) && meetIn p.reg.xs q.reg.xs (gd l 4) := rfl
theorem joined_s {v : Value} {xs : List (Sl Rect)} {p q : Piece} (h1 : Rs G L slT v xs) (hd : RsE G L rectT xs) (h8 : xs.length = 8) (hp : Rs G L rectT p.reg.v p.reg.xs) (hq : Rs G L rectT q.reg.v q.reg.xs) (k : R (.bool (jnI (er xs) (erP p) (erP q))) G L) : CallT Tryz.prog 66 #[v, vT pieceT p, vT pieceT q] G L R := by
 refine CallT.enter (args := _) Tryz.func66 rfl rfl (by kernel_rfl) rfl ?_
 refine WP.seq (WP.region ?_)
 refine RG.ot rfl (OT.box (cs := pieceT.enc p) rfl rfl rfl fun b4 => ?_)
 refine RG.ot rfl (OT.box (cs := pieceT.enc q) rfl rfl rfl fun b5 => ?_)
 refine RG.br rfl rfl rfl (RG.nil ?_)
 refine WP.cut1 [0, 4, 5] (fun (pq : Piece × Piece) => Rs G L rectT pq.1.reg.v pq.1.reg.xs ∧ Rs G L rectT pq.2.reg.v pq.2.reg.xs ∧ jnI (er xs) (erP p) (erP q) = jnO (er xs) (erP pq.1) (erP pq.2)) (fun (pq : Piece × Piece) => []) (fun (pq : Piece × Piece) => blk b4 63 (pieceT.enc pq.1) :: blk b5 63 (pieceT.enc pq.2) :: L) ?_ ?_
 refine WP.seq (WP.region (RG.pv rfl (PV.field rfl Fo63_0 rfl) (RG.pv rfl (PV.load1 rfl Sc2 rfl (Rd.blk rfl)) (RG.pv rfl (PV.field rfl Fo63_0 rfl) (RG.pv rfl (PV.load1 rfl Sc2 rfl (Rd.blk rfl)) (RG.pv rfl (PV.gtr rfl rfl rfl) (RG.nil ?_)))))))
 · refine WP.cond rfl (fun h2 => ?_) (fun h2 => ?_)
   · refine WP.region ?_
     refine RG.pv rfl (PV.loadW rfl Ag63 rfl rfl) (RG.pv rfl (PV.loadW rfl Ag63 rfl rfl) ?_)
     refine RG.ot rfl (OT.storeW (vs := [vi _, _]) rfl Sz63 rfl rfl (Cl.c rfl) rfl rfl (OneC.val rfl (OneC.sl (SlF.r hq) OneC.nil)) ?_)
     refine RG.ot rfl (OT.storeW (vs := [vi _, _]) rfl Sz63 rfl rfl (Cl.c rfl) rfl rfl (OneC.val rfl (OneC.sl (SlF.r hp) OneC.nil)) ?_)
     refine RG.nil ?_
     exact ⟨rfl, (q, p), ⟨hq, hp, by rw [jnI_er, h2]; rfl⟩, trivial, ⟨rfl, rfl, rfl, trivial⟩, Cv.p⟩
   · refine WP.skip ?_
     exact ⟨rfl, (p, q), ⟨hp, hq, by rw [jnI_er, h2]; rfl⟩, trivial, ⟨rfl, rfl, rfl, trivial⟩, Cv.p⟩
 rintro pq τ0 ⟨hp', hq', hk⟩
 refine WP.seq (WP.seq (WP.region (RG.pv rfl (PV.field rfl Fo63_0 rfl) (RG.pv rfl (PV.load1 rfl Sc2 rfl (Rd.blk rfl)) (RG.pv rfl (PV.eql rfl rfl rfl) (RG.bl rfl rfl rfl ?_))))))
 refine RG.gs rfl rfl rfl (fun hp => (PV.field rfl Fo63_0 rfl)) ?_
 refine RG.gs rfl rfl rfl (fun hp => (PV.load1 rfl Sc2 (gs_t hp) (Rd.blk rfl))) ?_
 refine RG.gs rfl rfl rfl (fun hp => (PV.lss rfl (gs_t hp) rfl)) ?_
 refine RG.pv rfl (PV.pickA rfl rfl (fun hq => gs_t (geqT hq)) rfl) (RG.nil ?_)
 rw [hk, jnO_er] at k
 refine WP.cond rfl (fun h3 => ?_) (fun h3 => ?_)
 · rw [h3] at k
   simp only [cond_true, er_gd] at k
   refine WP.seq ?_
   refine WP.regionQ (by kernel_rfl) (by kernel_rfl) ?_
   refine RQ.pv rfl (PV.field rfl Fo63_1 rfl) ?_
   refine RQ.pv rfl (PV.load1 rfl Sc50 rfl (Rd.blk rfl)) ?_
   refine RQ.pv rfl (PV.field rfl Fo63_1 rfl) ?_
   refine RQ.pv rfl (PV.load1 rfl Sc50 rfl (Rd.blk rfl)) ?_
   refine RQ.pv rfl (PV.move (v := v) rfl rfl) ?_
   refine RQ.pv rfl (PV.idxS (j := 2) (v := v) rfl Is47 rfl (SlF.r h1) rfl (by omega) (by omega)) ?_
   refine RQ.pv rfl (PV.loadE1 rfl Sc50 rfl rfl (El.r h1 (getG (by omega))) rfl) ?_
   refine RQ.callF (vs := [_, _, _]) rfl rfl En120 rfl (meetIn_s (Rs.up hp') (Rs.up hq') (Rs.up (hd 2 (by omega))) ⟨rfl, rfl, rfl⟩) ?_
   refine RQ.pv rfl (PV.mvB (.inr rfl) rfl) ?_
   refine RQ.nil ?_
   refine WP.ret ?_
   exact ⟨_, _, ResV.one rfl rfl, Cv.p, k⟩
 · rw [h3] at k
   simp only [cond_false, er_gd] at k
   refine WP.skip (WP.seq ?_)
   refine WP.regionQ (by kernel_rfl) (by kernel_rfl) ?_
   refine RQ.pv rfl (PV.field rfl Fo63_0 rfl) ?_
   refine RQ.pv rfl (PV.load1 rfl Sc2 rfl (Rd.blk rfl)) ?_
   refine RQ.pv rfl (PV.eql rfl rfl rfl) ?_
   refine RQ.pv rfl (PV.mvB (.inl rfl) rfl) ?_
   refine RQ.gs rfl rfl rfl (fun hp => (PV.field rfl Fo63_0 rfl)) ?_
   refine RQ.gs rfl rfl rfl (fun hp => (PV.load1 rfl Sc2 (gs_t hp) (Rd.blk rfl))) ?_
   refine RQ.gs rfl rfl rfl (fun hp => (PV.eql rfl (gs_t hp) rfl)) ?_
   refine RQ.pv rfl (PV.pickA rfl rfl (fun hq => gs_t (geqT hq)) rfl) ?_
   refine RQ.pv rfl (PV.mvB (.inl rfl) rfl) ?_
   refine RQ.gs rfl rfl rfl (fun hp => (PV.field rfl Fo63_1 rfl)) ?_
   refine RQ.gs rfl rfl rfl (fun hp => (PV.load1 rfl Sc50 (gs_t hp) (Rd.blk rfl))) ?_
   refine RQ.gs rfl rfl rfl (fun hp => (PV.field rfl Fo63_1 rfl)) ?_
   refine RQ.gs rfl rfl rfl (fun hp => (PV.load1 rfl Sc50 (gs_t hp) (Rd.blk rfl))) ?_
   refine RQ.gs rfl rfl rfl (fun hp => (PV.move (v := v) rfl rfl)) ?_
   refine RQ.gs rfl rfl rfl (fun hp => (PV.idxS (j := 4) (v := v) rfl Is47 (gs_t hp) (SlF.r h1) rfl (by first | omega | (simp at hp; omega)) (by first | omega | (simp at hp; omega)))) ?_
   refine RQ.gs rfl rfl rfl (fun hp => (PV.loadE1 rfl Sc50 (gs_t hp) rfl (El.r h1 (getG (by first | omega | (simp at hp; omega)))) rfl)) ?_
   refine RQ.gsC rfl rfl rfl rfl En120 (fun hp => ⟨_, (acons (gs_t hp) (acons (gs_t hp) (acons (gs_t hp) anil))), meetIn_s (Rs.up hp') (Rs.up hq') (Rs.up (hd 4 (by omega))) ⟨rfl, rfl, rfl⟩⟩) ?_
   refine RQ.pv rfl (PV.pickA rfl rfl (fun hq => gs_t (geqT hq)) rfl) ?_
   refine RQ.pv rfl (PV.mvB (.inr rfl) rfl) ?_
   refine RQ.nil ?_
   refine WP.ret ?_
   exact ⟨_, _, ResV.one rfl rfl, Cv.p, k⟩
def nps (zs : List Net) : List (Sl Piece) := zs.map Net.pieces
theorem nps_len (zs : List Net) : (nps zs).length = zs.length := by simp [nps]
theorem nps_gd {zs : List Net} {i : Nat} (h : i < zs.length) : gd (nps zs) i = (gd zs i).pieces := gd_map _ h
/-- a bag in another order -/
theorem sep_perm {A B : List Ch} (h : A.Perm B) : ∀ hp, Sep A hp → Sep B hp := by
 induction h with
 | nil => exact fun _ h => h
 | cons x _ ih => exact fun hp ⟨h1, h2, d, l1, l2, c, s⟩ => ⟨h1, h2, d, l1, l2, c, ih h2 s⟩
 | swap x y l => exact Cv.swap (A := [y]) (B := [x]) (L := l)
 | trans _ _ ih1 ih2 => exact fun hp s => ih2 hp (ih1 hp s)
theorem Cv.bagPerm {α : Type} {e : TypeId} {F : FT α} {xs ys : List (Sl α)} {L : List Ch} (h : xs.Perm ys) : Cv (bagS e F xs :: L) (bagS e F ys :: L) :=
 Cv.imp fun hp s => sep_perm (h.map (ownS e F)) hp s
theorem set_mid {c : List Int} {n : Nat} {x : Int} (h : c.length < n) : (c ++ List.replicate (n - c.length) 0).set c.length x = c ++ [x] ++ List.replicate (n - (c.length + 1)) 0 := by
 rw [List.set_append_right _ _ (Nat.le_refl _), Nat.sub_self, show n - c.length = (n - (c.length + 1)) + 1 by omega, List.replicate_succ, List.set_cons_zero, List.append_assoc]
 simp
end Go.Proofs.YthhjapiggekjbaaGreat
namespace Go.Proofs.YthhjapiggekjbaaGreat
set_option linter.unusedVariables false
set_option linter.unusedSimpArgs false
open Go
set_option maxRecDepth 20000
set_option linter.unusedSimpArgs false
variable {G : Gh} {L : List Ch} {R : Value → Gh → List Ch → Prop}
noncomputable def netE (l : List (List Rect)) : Int := bif isLay l then (if 24 < netN l then 3 else 0) else 1
theorem netE_ok {l : List (List Rect)} (h : netE l = 0) : isLay l = true ∧ netN l ≤ 24 := by
 unfold netE at h
 cases hl : isLay l
 · rw [hl] at h; cases h
 · rw [hl] at h
   refine ⟨rfl, ?_⟩
   by_cases c : 24 < netN l
   · simp [c] at h
   · omega
/-- all slices of a bag, by membership -/
theorem Rs.mem {α : Type} {G : Gh} {L L' : List Ch} {e : TypeId} {F : FT α} {xs : List (Sl α)} [hX : ExBg xs L e F L'] {s : Sl α} (h : s ∈ xs) : Rs G L F s.v s.xs := by
 obtain ⟨i, hi, rfl⟩ := List.getElem_of_mem h
 have := Rs.inBag (G := G) (L := L) (L' := L') (e := e) (F := F) (xs := xs) i hi
 rwa [gd_eq hi] at this
theorem RsE.flat {G : Gh} {L L' : List Ch} {e : TypeId} {zs : List Net} [hX : ExBg (regs (er (nps zs)).flatten) L e rectT L'] {i : Nat} (hi : i < zs.length) : RsE G L rectT (regs (gd zs i).pieces.xs) := fun j hj => by
 rw [regs_len] at hj
 rw [regs_gd hj]
 refine Rs.mem (L := L) (L' := L') (e := e) (xs := regs (er (nps zs)).flatten) (List.mem_map_of_mem ?_)
 refine List.mem_flatten.2 ⟨(gd zs i).pieces.xs, ?_, gd_mem hj⟩
 rw [← nps_gd hi, ← er_gd]
 exact gd_mem (by rw [er_len, nps_len]; exact hi)
end Go.Proofs.YthhjapiggekjbaaGreat
namespace Go.Proofs.YthhjapiggekjbaaGreat
set_option linter.unusedVariables false
set_option linter.unusedSimpArgs false
open Go
set_option maxRecDepth 20000
set_option linter.unusedSimpArgs false
variable {G : Gh} {L : List Ch} {R : Value → Gh → List Ch → Prop}
theorem unitCell_s {p : Pt} (k : R (.bool (within p.x (-40) 39 && within p.y (-40) 39)) G L) : CallT Tryz.prog 250 #[vpt p] G L R := by
 refine CallT.enter (args := _) Tryz.func250 rfl rfl (by kernel_rfl) rfl ?_
 refine WP.seq (WP.region ?_)
 refine RG.ot rfl (OT.box (cs := ptT.enc p) rfl rfl rfl fun b1 => ?_)
 refine RG.br rfl rfl rfl (RG.nil (WP.seq (WP.region (RG.pv rfl (PV.field rfl Fo183_0 rfl) (RG.pv rfl (PV.load1 rfl Sc2 rfl (Rd.blk rfl)) ?_)))))
 refine RG.callF (vs := [_, _, _]) rfl rfl En43 rfl (within_s ?_)
 refine RG.bl rfl rfl rfl ?_
 refine RG.gs rfl rfl rfl (fun hp => (PV.field rfl Fo183_1 rfl)) ?_
 refine RG.gs rfl rfl rfl (fun hp => (PV.load1 rfl Sc2 (gs_t hp) (Rd.blk rfl))) ?_
 refine RG.gsC rfl rfl rfl rfl En43 (fun hp => ⟨_, (acons (gs_t hp) (acons rfl (acons rfl anil))), within_s ⟨rfl, rfl, rfl⟩⟩) ?_
 refine RG.pv rfl (PV.pickA rfl rfl (fun hq => gs_t (geqT hq)) rfl) (RG.br rfl rfl rfl (RG.nil ?_))
 refine WP.ret ?_
 exact ⟨_, _, ResV.one rfl rfl, Cv.p, k⟩
end Go.Proofs.YthhjapiggekjbaaGreat
namespace Go.Proofs.YthhjapiggekjbaaGreat
set_option linter.unusedVariables false
set_option linter.unusedSimpArgs false
open Go
set_option maxRecDepth 20000
set_option linter.unusedSimpArgs false
variable {G : Gh} {L : List Ch} {R : Value → Gh → List Ch → Prop}
def nameByte (c : UInt8) : Bool := decide (97 ≤ c.toNat) && decide (c.toNat ≤ 122) || decide (48 ≤ c.toNat) && decide (c.toNat ≤ 57)
def isName (s : ByteArray) : Bool := decide (1 ≤ s.size) && decide (s.size ≤ 8) && decide (∀ i, i < s.size → nameByte (bt s i) = true)
theorem isName_all {s : ByteArray} (h : ∀ i, i < s.size → nameByte (bt s i) = true) : isName s = (decide (1 ≤ (s.size : Int)) && decide ((s.size : Int) ≤ 8)) := by
 simp only [isName, decide_eq_true h, Bool.and_true]
 congr 1 <;> (rw [decide_eq_decide]; omega)
theorem isName_not {s : ByteArray} {i : Nat} (h : i < s.size) (e : nameByte (bt s i) = false) : isName s = false := by
 simp only [isName, Bool.and_eq_false_iff, decide_eq_false_iff_not]
 exact .inr fun hh => by rw [hh i h] at e; cases e
theorem isName_i {s : ByteArray} (hs : s.size ≤ 9223372036854775807) (k : R (.bool (isName s)) G L) : CallT Tryz.prog 233 #[.string s] G L R := by
 refine CallT.enter (args := _) Tryz.func233 rfl rfl (by kernel_rfl) rfl ?_
 refine WP.seq (WP.region (RG.br rfl rfl rfl (RG.nil (WP.seq (WP.seq (WP.region (RG.mr rfl rfl rfl ?_)))))))
 refine RG.nil (WP.block ?_)
 refine WP.loop1 [0] (fun i => i ≤ s.size ∧ ∀ j, j < i → nameByte (bt s j) = true) (fun i => [(3, vi i)]) (fun i => L) (fun i => s.size - i) 0 ⟨by omega, fun j h => by omega⟩ ⟨rfl, trivial⟩ Cv.p ?_
 rintro i τ ⟨hi, hb⟩
 refine WP.seq (WP.seq (WP.region (RG.ml rfl rfl rfl (RG.pv rfl (PV.mvS (.inl rfl) rfl) (RG.pv rfl (PV.lenS rfl Tryz.underlying9 rfl) (RG.pv rfl (PV.lss rfl rfl rfl) (RG.nil ?_)))))))
 refine WP.cond rfl (fun h1 => ?_) (fun h1 => ?_)
 · have h1 := of_decide_eq_true h1
   refine WP.skip (WP.seq (WP.block (WP.seq (WP.region (RG.pv rfl (PV.mvS (.inl rfl) rfl) (RG.ml rfl rfl rfl (RG.pv rfl (PV.idxStr rfl Tryz.underlying9 rfl rfl rfl (getBG (by omega))) ?_)))))))
   refine RG.pv rfl (PV.lss rfl rfl rfl) (RG.bl rfl rfl rfl ?_)
   refine RG.gs rfl rfl rfl (fun hp => (PV.mvS (.inl rfl) rfl)) ?_
   refine RG.gs rfl rfl rfl (fun hp => (PV.mvI (.inl rfl) rfl)) ?_
   refine RG.gs rfl rfl rfl (fun hp => (PV.idxStr rfl Tryz.underlying9 (gs_t hp) (gs_t hp) rfl (getBG (by first | omega | (simp at hp; omega))))) ?_
   refine RG.gs rfl rfl rfl (fun hp => (PV.gtr rfl (gs_t hp) rfl)) ?_
   refine RG.pv rfl (PV.pickO rfl rfl rfl (fun hq => gs_t (geqF hq))) (RG.bl rfl rfl rfl ?_)
   refine RG.gs rfl rfl rfl (fun hp => (PV.mvS (.inl rfl) rfl)) ?_
   refine RG.gs rfl rfl rfl (fun hp => (PV.mvI (.inl rfl) rfl)) ?_
   refine RG.gs rfl rfl rfl (fun hp => (PV.idxStr rfl Tryz.underlying9 (gs_t hp) (gs_t hp) rfl (getBG (by first | omega | (simp at hp; omega))))) ?_
   refine RG.gs rfl rfl rfl (fun hp => (PV.lss rfl (gs_t hp) rfl)) ?_
   refine RG.gs rfl rfl rfl (fun hp => (PV.mvB (.inl rfl) (gs_t hp))) ?_
   refine RG.gs2 rfl rfl rfl (fun hp => (PV.mvS (.inl rfl) rfl)) ?_
   refine RG.gs2 rfl rfl rfl (fun hp => (PV.mvI (.inl rfl) rfl)) ?_
   refine RG.gs2 rfl rfl rfl (fun hp => (PV.idxStr rfl Tryz.underlying9 (gs_t hp) (gs_t hp) rfl (getBG (by first | omega | (simp at hp; omega))))) ?_
   refine RG.gs2 rfl rfl rfl (fun hp => (PV.gtr rfl (gs_t hp) rfl)) ?_
   refine RG.gs rfl rfl rfl (fun hp => (PV.pickO rfl (gs_t hp) rfl (fun hq => gs_t (gandF hp hq)))) ?_
   refine RG.pv rfl (PV.pickA rfl rfl (fun hq => gs_t (geqT hq)) rfl) (RG.nil ?_)
   refine WP.cond rfl (fun h2 => ?_) (fun h2 => ?_)
   · have e : isName s = false := isName_not (i := i) (by omega) (by simp [nameByte] at h2 ⊢; omega)
     rw [e] at k
     refine WP.seq (WP.region (RG.br rfl rfl rfl (RG.nil ?_)))
     refine WP.ret ?_
     exact ⟨_, _, ResV.one rfl rfl, Cv.p, k⟩
   · have h3 : nameByte (bt s i) = true := by
       simp [nameByte] at h2 ⊢; omega
     have hj : ∀ j, j < i + 1 → nameByte (bt s j) = true := fun j h => by
       by_cases e : j = i
       · subst e; exact h3
       · exact hb j (by omega)
     refine WP.skip (WP.region (RG.ml rfl rfl rfl (RG.pv rfl (PV.add rfl rfl rfl (by omega)) (RG.mr rfl rfl rfl (RG.nil ?_)))))
     exact ⟨rfl, i + 1, ⟨by omega, hj⟩, ⟨rfl, trivial⟩, ⟨rfl, trivial⟩, Cv.p, by omega⟩
 · have h1 := of_decide_eq_false h1
   have e := isName_all (s := s) (fun j h => hb j (by omega))
   rw [e] at k
   refine WP.exit ?_
   refine WP.seq (WP.region (RG.pv rfl (PV.mvS (.inl rfl) rfl) (RG.pv rfl (PV.lenS rfl Tryz.underlying9 rfl) (RG.pv rfl (PV.geq rfl rfl rfl) (RG.bl rfl rfl rfl ?_)))))
   refine RG.gs rfl rfl rfl (fun hp => (PV.mvS (.inl rfl) rfl)) ?_
   refine RG.gs rfl rfl rfl (fun hp => (PV.lenS rfl Tryz.underlying9 (gs_t hp))) ?_
   refine RG.gs rfl rfl rfl (fun hp => (PV.leq rfl (gs_t hp) rfl)) ?_
   refine RG.pv rfl (PV.pickA rfl rfl (fun hq => gs_t (geqT hq)) rfl) (RG.br rfl rfl rfl (RG.nil ?_))
   refine WP.ret ?_
   exact ⟨_, _, ResV.one rfl rfl, Cv.p, k⟩
def unitB (p : Pt) : Bool := within p.x (-40) 39 && within p.y (-40) 39
def validLb (l : Label) : Bool := (within l.layer 0 7 && unitB l.at_) && isName l.name
theorem validLb_i {l : Label} (hs : l.name.size ≤ 9223372036854775807) (k : R (.bool (validLb l)) G L) : CallT Tryz.prog 239 #[vT labelT l] G L R := by
 refine CallT.enter (args := _) Tryz.func239 rfl rfl (by kernel_rfl) rfl ?_
 refine WP.seq (WP.region ?_)
 refine RG.ot rfl (OT.box (cs := labelT.enc l) rfl rfl rfl fun b1 => ?_)
 refine RG.br rfl rfl rfl (RG.nil (WP.seq (WP.region (RG.pv rfl (PV.field rfl Fo193_0 rfl) (RG.pv rfl (PV.load1 rfl Sc2 rfl (Rd.blk rfl)) ?_)))))
 refine RG.callF (vs := [_, _, _]) rfl rfl En43 rfl (within_s ?_)
 refine RG.bl rfl rfl rfl ?_
 refine RG.gs rfl rfl rfl (fun hp => (PV.field rfl Fo193_1 rfl)) ?_
 refine RG.gs rfl rfl rfl (fun hp => (PV.loadB (vs := [_, _]) rfl Ag183 (gs_t hp) rfl rfl)) ?_
 refine RG.gsC rfl rfl rfl rfl En250 (fun hp => ⟨_, (acons (gs_t hp) anil), unitCell_s ⟨rfl, rfl, rfl⟩⟩) ?_
 refine RG.pv rfl (PV.pickA rfl rfl (fun hq => gs_t (geqT hq)) rfl) (RG.bl rfl rfl rfl ?_)
 refine RG.gs rfl rfl rfl (fun hp => (PV.field rfl Fo193_2 rfl)) ?_
 refine RG.gs rfl rfl rfl (fun hp => (PV.load1 rfl Sc9 (gs_t hp) (Rd.blk rfl))) ?_
 refine RG.gsC rfl rfl rfl rfl En233 (fun hp => ⟨_, (acons (gs_t hp) anil), isName_i hs ⟨rfl, rfl, rfl⟩⟩) ?_
 refine RG.pv rfl (PV.pickA rfl rfl (fun hq => gs_t (geqT hq)) rfl) (RG.br rfl rfl rfl (RG.nil ?_))
 refine WP.ret ?_
 exact ⟨_, _, ResV.one rfl rfl, Cv.p, k⟩
theorem indexF_label {v fv : Value} {xs : List (Label)} {p : (Label) → Bool} (h1 : Rs G L labelT v xs) (hf : ∀ i, i < xs.length → CB Tryz.prog G L fv [vT labelT (gd xs i)] (.bool (p (gd xs i)))) (k : R (vi (idxI p xs)) G L) : CallT Tryz.prog 249 #[v, fv] G L R := by
 refine CallT.bd h1 fun hb => ?_
 refine CallT.enter (args := _) Tryz.func249 rfl rfl (by kernel_rfl) rfl ?_
 refine WP.seq (WP.region (RG.mr rfl rfl rfl (RG.nil (WP.seq (WP.seq (WP.region (RG.pv rfl (PV.move (v := v) rfl rfl) ?_)))))))
 refine RG.pv rfl (PV.len (v := v) rfl Tryz.underlying113 rfl (SlF.r h1)) (RG.ml rfl rfl rfl (RG.nil (WP.block ?_)))
 refine WP.loop1 [0, 1, 7] (fun i => i ≤ xs.length ∧ ∀ j, j < i → p (gd xs j) = false) (fun i => [(8, vi i)]) (fun i => L) (fun i => xs.length - i) 0 ⟨by omega, fun j h => by omega⟩ ⟨rfl, trivial⟩ Cv.p ?_
 rintro i τ ⟨hi, hj⟩
 refine WP.seq (WP.region (RG.pv rfl (PV.lss rfl rfl rfl) (RG.nil (WP.seq ?_))))
 refine WP.cond rfl (fun h2 => ?_) (fun h2 => ?_)
 · have h2 := of_decide_eq_true h2
   refine WP.skip (WP.seq (WP.block (WP.seq (WP.region (RG.ml rfl rfl rfl (RG.mr rfl rfl rfl (RG.nil ?_)))))))
   refine WP.seq (WP.region (RG.pv rfl (PV.move (v := fv) rfl rfl) (RG.pv rfl (PV.move (v := v) rfl rfl) (RG.ml rfl rfl rfl (RG.pv rfl (PV.idxS (v := v) rfl Is113 rfl (SlF.r h1) rfl rfl (by omega)) (RG.pv rfl (PV.loadE rfl Ag193 rfl rfl (El.r h1 (getG (by omega)))) ?_))))))
   refine RG.callB (vs := [_]) rfl rfl rfl rfl (CB.up (hf i (by omega))) ?_
   refine RG.nil ?_
   refine WP.cond rfl (fun h3 => ?_) (fun h3 => ?_)
   · rw [idxI_at (by omega) h3 hj] at k
     refine WP.seq (WP.region (RG.ml rfl rfl rfl (RG.mr rfl rfl rfl (RG.nil ?_))))
     refine WP.ret ?_
     exact ⟨_, _, ResV.one rfl rfl, Cv.p, k⟩
   · have hj' : ∀ j, j < i + 1 → p (gd xs j) = false := fun j h => by
       by_cases c : j = i
       · rw [c]; exact h3
       · exact hj j (by omega)
     refine WP.skip (WP.region (RG.pv rfl (PV.add rfl rfl rfl (by omega)) (RG.ml rfl rfl rfl (RG.nil ?_))))
     exact ⟨rfl, i + 1, ⟨by omega, hj'⟩, ⟨rfl, trivial⟩, ⟨rfl, rfl, rfl, trivial⟩, Cv.p, by omega⟩
 · have h2 := of_decide_eq_false h2
   rw [idxI_none (fun j h => hj j (by omega))] at k
   refine WP.exit ?_
   refine WP.seq (WP.region (RG.mr rfl rfl rfl (RG.nil ?_)))
   refine WP.ret ?_
   exact ⟨_, _, ResV.one rfl rfl, Cv.p, k⟩
theorem containsF_label {v fv : Value} {xs : List (Label)} {p : (Label) → Bool} (h1 : Rs G L labelT v xs) (hf : ∀ i, i < xs.length → CB Tryz.prog G L fv [vT labelT (gd xs i)] (.bool (p (gd xs i)))) (k : R (.bool (xs.any p)) G L) : CallT Tryz.prog 237 #[v, fv] G L R := by
 rw [← idxI_any] at k
 refine CallT.enter (args := _) Tryz.func237 rfl rfl (by kernel_rfl) rfl ?_
 refine WP.seq (WP.region (RG.br rfl rfl rfl (RG.nil (WP.seq (WP.region (RG.pv rfl (PV.move (v := v) rfl rfl) (RG.pv rfl (PV.move (v := fv) rfl rfl) ?_)))))))
 refine RG.callF (vs := [v, fv]) rfl rfl En249 rfl (indexF_label (Rs.up h1) (fun i hi => (hf i hi).up) ?_)
 refine RG.pv rfl (PV.geq rfl rfl rfl) (RG.br rfl rfl rfl (RG.nil ?_))
 refine WP.ret ?_
 exact ⟨_, _, ResV.one rfl rfl, Cv.p, k⟩
end Go.Proofs.YthhjapiggekjbaaGreat
namespace Go.Proofs.YthhjapiggekjbaaGreat
set_option linter.unusedVariables false
set_option linter.unusedSimpArgs false
open Go
set_option linter.unusedSimpArgs false
set_option linter.unusedVariables false
set_option maxRecDepth 20000
/-- a cell, without its memory -/
structure ECell where
  name : ByteArray
  shapes : List Shape
  labels : List Label
  insts : List Inst
  deriving DecidableEq, Inhabited
def erCl (c : Cell) : ECell := ⟨c.name, c.shapes.xs, c.labels.xs, c.insts.xs⟩
def erCls (xs : List Cell) : List ECell := xs.map erCl
theorem erCls_len (xs : List Cell) : (erCls xs).length = xs.length := by simp [erCls]
theorem erCls_gd {xs : List Cell} {i : Nat} (h : i < xs.length) : gd (erCls xs) i = erCl (gd xs i) := gd_map _ h
def okSh (s : Shape) : Bool := within s.layer 0 7 && validRect s.box
def okIn (k : Int) (n : Inst) : Bool :=
  within n.cell 0 (k - 1) && validT n.place && within n.cols 1 4 && within n.rows 1 4 && within n.sx (-80) 80 && within n.sy (-80) 80 && (decide (n.sx = 0) || decide (1 < n.cols)) && (decide (n.sy = 0) || decide (1 < n.rows))
def okCell (k : Int) (c : ECell) : Bool :=
  isName c.name && decide ((c.shapes.length : Int) ≤ 24) && decide ((c.labels.length : Int) ≤ 8) && decide ((c.insts.length : Int) ≤ 8) && !(c.shapes.any fun s => !okSh s) && !(c.labels.any fun l => !validLb l) && !(c.insts.any fun n => !okIn k n)
def nameAt (cs : List ECell) (i : Nat) : Bool := decide (∀ j, j < i → (gd cs j).name ≠ (gd cs i).name)
def cellAt (cs : List ECell) (i : Nat) : Bool := okCell i (gd cs i) && nameAt cs i
def okLib (cs : List ECell) : Bool := decide (1 ≤ cs.length) && decide (cs.length ≤ 8) && decide (∀ i, i < cs.length → cellAt cs i = true)
theorem okLib_false {cs : List ECell} {i : Nat} (h : i < cs.length) (e : cellAt cs i = false) : okLib cs = false := by
 simp only [okLib, Bool.and_eq_false_iff, decide_eq_false_iff_not]
 exact .inr fun hh => by rw [hh i h] at e; cases e
theorem okLib_all {cs : List ECell} (h1 : 1 ≤ cs.length) (h2 : cs.length ≤ 8) (h : ∀ i, i < cs.length → cellAt cs i = true) : okLib cs = true := by
 simp only [okLib, Bool.and_eq_true, decide_eq_true_eq]
 exact ⟨⟨h1, h2⟩, h⟩
theorem okLib_len {cs : List ECell} (h : okLib cs = true) : 1 ≤ cs.length ∧ cs.length ≤ 8 := by
 simp only [okLib, Bool.and_eq_true, decide_eq_true_eq] at h; exact h.1
theorem okLib_cell {cs : List ECell} (h : okLib cs = true) {i : Nat} (hi : i < cs.length) : okCell i (gd cs i) = true := by
 simp only [okLib, Bool.and_eq_true, decide_eq_true_eq] at h
 have := h.2 i hi
 simp only [cellAt, Bool.and_eq_true] at this; exact this.1
theorem any_not {α : Type} [Inhabited α] {p : α → Bool} {xs : List α} (h : (xs.any fun a => !p a) = false) {i : Nat} (hi : i < xs.length) : p (gd xs i) = true := by
 rw [List.any_eq_false] at h
 have := h (gd xs i) (gd_mem hi)
 simpa using this
theorem okLib_inst {cs : List ECell} (h : okLib cs = true) {i j : Nat} (hi : i < cs.length) (hj : j < (gd cs i).insts.length) : okIn i (gd (gd cs i).insts j) = true := by
 have := okLib_cell h hi
 simp only [okCell, Bool.and_eq_true, Bool.not_eq_true'] at this
 exact any_not this.2 hj
theorem okLib_shape {cs : List ECell} (h : okLib cs = true) {i j : Nat} (hi : i < cs.length) (hj : j < (gd cs i).shapes.length) : okSh (gd (gd cs i).shapes j) = true := by
 have := okLib_cell h hi
 simp only [okCell, Bool.and_eq_true, Bool.not_eq_true'] at this
 exact any_not this.1.1.2 hj
theorem okLib_cnt {cs : List ECell} (h : okLib cs = true) {i : Nat} (hi : i < cs.length) : (gd cs i).insts.length ≤ 8 ∧ (gd cs i).shapes.length ≤ 24 := by
 have := okLib_cell h hi
 simp only [okCell, Bool.and_eq_true, decide_eq_true_eq] at this
 omega
/-- what an instance of a valid library gives -/
theorem okIn_bd {k : Int} {n : Inst} (h : okIn k n = true) : (0 ≤ n.cell ∧ n.cell ≤ k - 1) ∧ validT n.place = true ∧ (1 ≤ n.cols ∧ n.cols ≤ 4) ∧ (1 ≤ n.rows ∧ n.rows ≤ 4) ∧ (-80 ≤ n.sx ∧ n.sx ≤ 80) ∧ (-80 ≤ n.sy ∧ n.sy ≤ 80) := by
 simp only [okIn, within, Bool.and_eq_true, decide_eq_true_eq] at h
 exact ⟨h.1.1.1.1.1.1.1, h.1.1.1.1.1.1.2, h.1.1.1.1.1.2, h.1.1.1.1.2, h.1.1.1.2, h.1.1.2⟩
theorem range_gd {n q : Nat} (h : q < n) : gd (List.range n) q = q := by unfold gd; simp [h]
def elPlace (n : Inst) (c r : Int) : Trans := ⟨n.place.o, n.place.x + c * n.sx, n.place.y + r * n.sy⟩
def elsOf (n : Inst) : List HElem := (List.range (n.rows.toNat * n.cols.toNat)).map fun q => ⟨n.cell, elPlace n ((q % n.cols.toNat : Nat) : Int) ((q / n.cols.toNat : Nat) : Int)⟩
def elems (ns : List Inst) : List HElem := ns.flatMap elsOf
theorem elsOf_len (n : Inst) : (elsOf n).length = n.rows.toNat * n.cols.toNat := by simp [elsOf]
theorem elsOf_gd {n : Inst} {c r : Nat} (hc : c < n.cols.toNat) (hr : r < n.rows.toNat) : r * n.cols.toNat + c < (elsOf n).length ∧ gd (elsOf n) (r * n.cols.toNat + c) = ⟨n.cell, elPlace n c r⟩ := by
 have h1 : r * n.cols.toNat + c < n.rows.toNat * n.cols.toNat := by
   have := Nat.mul_le_mul_right n.cols.toNat (show r + 1 ≤ n.rows.toNat by omega)
   rw [Nat.add_mul] at this; omega
 refine ⟨by rw [elsOf_len]; exact h1, ?_⟩
 have hm : (r * n.cols.toNat + c) % n.cols.toNat = c := by rw [Nat.add_comm, Nat.add_mul_mod_self_right, Nat.mod_eq_of_lt hc]
 have hd : (r * n.cols.toNat + c) / n.cols.toNat = r := by rw [Nat.add_comm, Nat.add_mul_div_right _ _ (by omega), Nat.div_eq_of_lt hc, Nat.zero_add]
 have hr : gd (List.range (n.rows.toNat * n.cols.toNat)) (r * n.cols.toNat + c) = r * n.cols.toNat + c := range_gd h1
 rw [elsOf, gd_map _ (by simpa using h1), hr, hm, hd]
theorem elsOf_step {n : Inst} {c r : Nat} (hc : c < n.cols.toNat) (hr : r < n.rows.toNat) : (elsOf n).take (r * n.cols.toNat + (c + 1)) = (elsOf n).take (r * n.cols.toNat + c) ++ [⟨n.cell, elPlace n c r⟩] := by
 obtain ⟨h1, h2⟩ := elsOf_gd hc hr
 rw [← Nat.add_assoc, List.take_add_one, getG h1, h2]; rfl
theorem elems_take {ns : List Inst} {i : Nat} (h : i < ns.length) : elems (ns.take (i + 1)) = elems (ns.take i) ++ elsOf (gd ns i) := by
 rw [elems, elems, List.take_add_one, getG h, List.flatMap_append]; simp
/-- each element is one of an instance -/
theorem elems_mem {ns : List Inst} {e : HElem} (h : e ∈ elems ns) : ∃ j c r : Nat, j < ns.length ∧ c < (gd ns j).cols.toNat ∧ r < (gd ns j).rows.toNat ∧ e = ⟨(gd ns j).cell, elPlace (gd ns j) c r⟩ := by
 obtain ⟨n, hn, he⟩ := List.mem_flatMap.1 h
 obtain ⟨j, hj, rfl⟩ := List.getElem_of_mem hn
 rw [← gd_eq hj] at he
 obtain ⟨q, hq, rfl⟩ := List.mem_map.1 he
 have hq := List.mem_range.1 hq
 have h0 : 0 < (gd ns j).cols.toNat := by
   rcases Nat.eq_zero_or_pos (gd ns j).cols.toNat with h | h
   · rw [h] at hq; omega
   · exact h
 exact ⟨j, q % (gd ns j).cols.toNat, q / (gd ns j).cols.toNat, hj, Nat.mod_lt _ h0, (Nat.div_lt_iff_lt_mul h0).2 hq, rfl⟩
theorem mul_bd {a b A B : Int} (ha : 0 ≤ a ∧ a ≤ A) (hb : -B ≤ b ∧ b ≤ B) (hB : 0 ≤ B) : -(A * B) ≤ a * b ∧ a * b ≤ A * B := by
 have h1 : a * b ≤ a * B := Int.mul_le_mul_of_nonneg_left hb.2 ha.1
 have h2 : a * -B ≤ a * b := Int.mul_le_mul_of_nonneg_left hb.1 ha.1
 have h3 : a * B ≤ A * B := Int.mul_le_mul_of_nonneg_right ha.2 hB
 rw [Int.mul_neg] at h2
 omega
theorem elPlace_bd {k : Int} {n : Inst} (h : okIn k n = true) {c r : Nat} (hc : c < n.cols.toNat) (hr : r < n.rows.toNat) : (0 ≤ (elPlace n c r).o ∧ (elPlace n c r).o ≤ 7) ∧ (-320 ≤ (elPlace n c r).x ∧ (elPlace n c r).x ≤ 320) ∧ -320 ≤ (elPlace n c r).y ∧ (elPlace n c r).y ≤ 320 := by
 obtain ⟨_, h2, h3, h4, h5, h6⟩ := okIn_bd h
 obtain ⟨q1, q2, q3⟩ := validT_iff.1 h2
 have e1 := mul_bd (a := (c : Int)) (b := n.sx) (A := 3) (B := 80) (by omega) h5 (by omega)
 have e2 := mul_bd (a := (r : Int)) (b := n.sy) (A := 3) (B := 80) (by omega) h6 (by omega)
 refine ⟨q1, ?_, ?_⟩ <;> simp only [elPlace] <;> omega
theorem elem_bd {cs : List ECell} (h : okLib cs = true) {k : Nat} (hk : k < cs.length) {i : Nat} (hi : i < (elems (gd cs k).insts).length) :
   (0 ≤ (gd (elems (gd cs k).insts) i).cell ∧ (gd (elems (gd cs k).insts) i).cell < k) ∧ (0 ≤ (gd (elems (gd cs k).insts) i).place.o ∧ (gd (elems (gd cs k).insts) i).place.o ≤ 7) ∧ (-320 ≤ (gd (elems (gd cs k).insts) i).place.x ∧ (gd (elems (gd cs k).insts) i).place.x ≤ 320) ∧ -320 ≤ (gd (elems (gd cs k).insts) i).place.y ∧ (gd (elems (gd cs k).insts) i).place.y ≤ 320 := by
 obtain ⟨j, c, r, hj, hc, hr, e⟩ := elems_mem (gd_mem hi)
 have ho := okLib_inst h hk hj
 rw [e]
 exact ⟨by have := (okIn_bd ho).1; simp only; omega, elPlace_bd ho hc hr⟩
theorem elems_bd {cs : List ECell} (h : okLib cs = true) {k : Nat} (hk : k < cs.length) : ∀ i, i ≤ (gd cs k).insts.length → (elems ((gd cs k).insts.take i)).length ≤ 16 * i
 | 0, _ => by simp [elems]
 | i + 1, hi => by
   have ih := elems_bd h hk i (by omega)
   obtain ⟨_, _, h3, h4, _, _⟩ := okIn_bd (okLib_inst h hk (j := i) (by omega))
   have := Nat.mul_le_mul (show (gd (gd cs k).insts i).rows.toNat ≤ 4 by omega) (show (gd (gd cs k).insts i).cols.toNat ≤ 4 by omega)
   rw [elems_take (by omega), List.length_append, elsOf_len]; omega
theorem elems_len_bd {cs : List ECell} (h : okLib cs = true) {k : Nat} (hk : k < cs.length) : (elems (gd cs k).insts).length ≤ 128 := by
 have := elems_bd h hk _ (Nat.le_refl _)
 rw [List.take_of_length_le (Nat.le_refl _)] at this
 have := (okLib_cnt h hk).1
 omega
def cntI (ks : List Int) (n : Inst) : Int := n.cols * n.rows * gd ks n.cell.toNat
def ownCnt (ks : List Int) (ns : List Inst) : Int := 1 + costL (cntI ks) ns
def cnts (cs : List ECell) : Nat → List Int
  | 0 => []
  | n + 1 => cnts cs n ++ [ownCnt (cnts cs n) (gd cs n).insts]
theorem cnts_len (cs : List ECell) : ∀ n, (cnts cs n).length = n
 | 0 => rfl
 | n + 1 => by simp [cnts, cnts_len cs n]
def cntOf (cs : List ECell) (k : Nat) : Int := ownCnt (cnts cs k) (gd cs k).insts
theorem cnts_gd (cs : List ECell) : ∀ {n i : Nat}, i < n → gd (cnts cs n) i = cntOf cs i
 | n + 1, i, h => by
   rw [cnts]
   by_cases e : i < n
   · rw [gd_app_l (by rw [cnts_len]; exact e), cnts_gd cs e]
   · obtain rfl : i = n := by omega
     have := gd_app_r (xs := cnts cs i) (a := ownCnt (cnts cs i) (gd cs i).insts)
     rw [cnts_len] at this
     rw [this]; rfl
theorem costL_bdH {α : Type} [Inhabited α] {n : α → Int} {B : Int} (hB : 0 ≤ B) {xs : List α} (h : ∀ i, i < xs.length → 0 ≤ n (gd xs i) ∧ n (gd xs i) ≤ B) : ∀ i, i ≤ xs.length → 0 ≤ costL n (xs.take i) ∧ costL n (xs.take i) ≤ B * i
 | 0, _ => by simp [costL]
 | i + 1, hi => by
   have ih := costL_bdH hB h i (by omega)
   have := h i (by omega)
   rw [costL_take n (by omega)]
   have e : B * ((i + 1 : Nat) : Int) = B * i + B := by rw [Int.natCast_add, Int.mul_add]; simp
   omega
theorem cntI_bd {k M : Int} {ks : List Int} {n : Inst} (h : okIn k n = true) (hk : 0 ≤ gd ks n.cell.toNat ∧ gd ks n.cell.toNat ≤ M) : 0 ≤ cntI ks n ∧ cntI ks n ≤ 16 * M := by
 obtain ⟨_, _, h3, h4, _, _⟩ := okIn_bd h
 have e1 := mul_bd (a := n.cols) (b := n.rows) (A := 4) (B := 4) (by omega) (by omega) (by omega)
 have e0 : 0 ≤ n.cols * n.rows := Int.mul_nonneg (by omega) (by omega)
 have e2 := mul_bd (a := n.cols * n.rows) (b := gd ks n.cell.toNat) (A := 16) (B := M) (by omega) (by omega) (by omega)
 have e3 : 0 ≤ n.cols * n.rows * gd ks n.cell.toNat := Int.mul_nonneg e0 hk.1
 simp only [cntI]; omega
theorem ownCnt_bd {cs : List ECell} (h : okLib cs = true) {M : Int} (hM : 0 ≤ M) {k : Nat} (hk : k < cs.length) (hh : ∀ i, i < k → 0 ≤ gd (cnts cs k) i ∧ gd (cnts cs k) i ≤ M) : ∀ i, i ≤ (gd cs k).insts.length → 1 ≤ 1 + costL (cntI (cnts cs k)) ((gd cs k).insts.take i) ∧ 1 + costL (cntI (cnts cs k)) ((gd cs k).insts.take i) ≤ 1 + 128 * M := by
 intro i hi
 have hc := (okLib_cnt h hk).1
 have := costL_bdH (n := cntI (cnts cs k)) (B := 16 * M) (by omega) (xs := (gd cs k).insts) (fun j hj => cntI_bd (okLib_inst h hk hj) (hh _ (by have := (okIn_bd (okLib_inst h hk hj)).1; omega))) i hi
 have e : 16 * M * i ≤ 16 * M * 8 := Int.mul_le_mul_of_nonneg_left (by omega) (by omega)
 omega
theorem cntOf_bd {cs : List ECell} (h : okLib cs = true) : ∀ k, k < cs.length → 1 ≤ cntOf cs k ∧ cntOf cs k ≤ 129 ^ (k + 1) := by
 intro k
 induction k using Nat.strongRecOn with
 | ind k ih =>
   intro hk
   have := ownCnt_bd h (M := 129 ^ k) (Int.le_of_lt (Int.pow_pos (show (0 : Int) < 129 by omega))) hk (fun i hi => by
     have hb := ih i hi (by omega)
     rw [cnts_gd cs hi]
     refine ⟨by omega, Int.le_trans hb.2 ?_⟩
     have := Nat.pow_le_pow_right (n := 129) (by omega) (show i + 1 ≤ k by omega)
     exact_mod_cast this) _ (Nat.le_refl _)
   rw [List.take_of_length_le (Nat.le_refl _)] at this
   refine ⟨this.1, Int.le_trans this.2 ?_⟩
   have h1 : (1 : Int) ≤ 129 ^ k := by
     have : (0 : Int) < 129 ^ k := Int.pow_pos (show (0 : Int) < 129 by omega)
     omega
   rw [Int.pow_succ]; omega
theorem cnts_big {cs : List ECell} (h : okLib cs = true) {k : Nat} (hk : k < cs.length) : ∀ i, i < k → 0 ≤ gd (cnts cs k) i ∧ gd (cnts cs k) i ≤ 594467302491009 := by
 intro i hi
 rw [cnts_gd cs hi]
 have h1 := cntOf_bd h i (by omega)
 have h2 := (okLib_len h).2
 have : (129 : Nat) ^ (i + 1) ≤ 129 ^ 7 := Nat.pow_le_pow_right (by omega) (by omega)
 have h3' : ((129 : Int) ^ (i + 1)) ≤ 129 ^ 7 := by exact_mod_cast this
 have h3 : ((129 : Int) ^ (i + 1)) ≤ 594467302491009 := Int.le_trans h3' (by decide)
 omega
structure EOcc where
  cell : Int
  place : Trans
  path : List Int
  deriving DecidableEq, Inhabited
def erO (o : Occ) : EOcc := ⟨o.cell, o.place, o.path.xs⟩
def erOs (xs : List Occ) : List EOcc := xs.map erO
theorem erOs_len (xs : List Occ) : (erOs xs).length = xs.length := by simp [erOs]
theorem erOs_gd {xs : List Occ} {i : Nat} (h : i < xs.length) : gd (erOs xs) i = erO (gd xs i) := gd_map _ h
def cmpo (a b : Int) : Int := (if 4 ≤ b then b % 4 + 4 - a % 4 else b % 4 + a % 4) % 4 + (if decide (4 ≤ a) = decide (4 ≤ b) then 0 else 4)
theorem cmpo_in {a b : Int} : 0 ≤ cmpo a b ∧ cmpo a b ≤ 7 := by
 unfold cmpo
 generalize (if 4 ≤ b then b % 4 + 4 - a % 4 else b % 4 + a % 4) = z
 split <;> omega
def cmpT (t u : Trans) : Trans := ⟨cmpo t.o u.o, (moveP u ⟨t.x, t.y⟩).x, (moveP u ⟨t.x, t.y⟩).y⟩
def kid (o : EOcc) (e : HElem) (n : Nat) : EOcc := ⟨e.cell, cmpT e.place o.place, o.path ++ [(n : Int)]⟩
def occF (cs : List ECell) : Nat → EOcc → List EOcc
  | 0, o => [o]
  | f + 1, o => o :: ((List.range (elems (gd cs o.cell.toNat).insts).length).flatMap fun n => occF cs f (kid o (gd (elems (gd cs o.cell.toNat).insts) n) n))
/-- an occurrence and those below its first elements -/
def occTo (cs : List ECell) (f : Nat) (o : EOcc) (i : Nat) : List EOcc := o :: ((List.range i).flatMap fun n => occF cs f (kid o (gd (elems (gd cs o.cell.toNat).insts) n) n))
theorem occTo_zero (cs : List ECell) (f : Nat) (o : EOcc) : occTo cs f o 0 = [o] := rfl
theorem occTo_succ (cs : List ECell) (f : Nat) (o : EOcc) (i : Nat) : occTo cs f o (i + 1) = occTo cs f o i ++ occF cs f (kid o (gd (elems (gd cs o.cell.toNat).insts) i) i) := by
 simp [occTo, List.range_succ, List.flatMap_append]
theorem occTo_all (cs : List ECell) (f : Nat) (o : EOcc) : occTo cs f o (elems (gd cs o.cell.toNat).insts).length = occF cs (f + 1) o := rfl
def oIn (f : Nat) (o : EOcc) : Prop := (0 ≤ o.cell ∧ o.cell < f) ∧ (0 ≤ o.place.o ∧ o.place.o ≤ 7) ∧ (-(320 * (8 - (f : Int))) ≤ o.place.x ∧ o.place.x ≤ 320 * (8 - f)) ∧ -(320 * (8 - (f : Int))) ≤ o.place.y ∧ o.place.y ≤ 320 * (8 - f)
theorem kid_in {cs : List ECell} (h : okLib cs = true) {f : Nat} {o : EOcc} (ho : oIn (f + 1) o) (hl : o.cell.toNat < cs.length) {i : Nat} (hi : i < (elems (gd cs o.cell.toNat).insts).length) : oIn f (kid o (gd (elems (gd cs o.cell.toNat).insts) i) i) := by
 obtain ⟨h1, h2, h3, h4⟩ := elem_bd h hl hi
 obtain ⟨⟨k1, k2⟩, k3, k4, k5⟩ := ho
 obtain ⟨t1, t2, t3, t4⟩ : InB 320 (turnP o.place.o ⟨(gd (elems (gd cs o.cell.toNat).insts) i).place.x, (gd (elems (gd cs o.cell.toNat).insts) i).place.y⟩) := turnP_in ⟨h3.1, h3.2, h4.1, h4.2⟩
 refine ⟨?_, ?_, ?_, ?_⟩
 · simp only [kid]; omega
 · exact cmpo_in
 · simp only [kid, cmpT, moveP]; omega
 · simp only [kid, cmpT, moveP]; omega
theorem flatMap_len {α : Type} (g : Nat → List α) : ∀ n, (((List.range n).flatMap g).length : Int) = ((List.range n).map fun i => ((g i).length : Int)).sum
 | 0 => rfl
 | n + 1 => by
   have ih := flatMap_len g n
   simp only [List.range_succ, List.flatMap_append, List.length_append, List.map_append, List.sum_append, Int.natCast_add, ih]
   simp
/-- the sum over the elements is the sum over the instances -/
theorem sum_elems (g : Int → Int) : ∀ ns : List Inst, (∀ i, i < ns.length → 1 ≤ (gd ns i).cols ∧ 1 ≤ (gd ns i).rows) → (((elems ns).map fun e => g e.cell).sum : Int) = costL (fun n => n.cols * n.rows * g n.cell) ns
 | [], _ => rfl
 | n :: ns, h => by
   have ih := sum_elems g ns (fun i hi => by have := h (i + 1) (by simpa using hi); simpa [gd] using this)
   have h0 := h 0 (by simp)
   have e0 : gd (n :: ns) 0 = n := by simp [gd]
   rw [e0] at h0
   have e : elems (n :: ns) = elsOf n ++ elems ns := rfl
   rw [e, List.map_append, List.sum_append, ih, costL]
   congr 1
   have : (elsOf n).map (fun e => g e.cell) = List.replicate (n.rows.toNat * n.cols.toNat) (g n.cell) := by
     rw [elsOf, List.map_map, List.eq_replicate_iff]
     simp [Function.comp_def]
   rw [this, List.sum_replicate_int]
   rw [Int.natCast_mul, Int.toNat_of_nonneg (by omega), Int.toNat_of_nonneg (by omega), Int.mul_comm n.rows]
theorem map_range_gd {α β : Type} [Inhabited α] (g : α → β) (xs : List α) : (List.range xs.length).map (fun i => g (gd xs i)) = xs.map g := by
 apply List.ext_getElem?
 intro i
 by_cases hi : i < xs.length
 · simp [hi, gd_eq hi]
 · simp [List.getElem?_eq_none (Nat.le_of_not_lt hi), List.getElem?_eq_none (l := List.range xs.length) (by simpa using Nat.le_of_not_lt hi)]
theorem occF_len {cs : List ECell} (h : okLib cs = true) : ∀ (f : Nat) (o : EOcc), 0 ≤ o.cell → o.cell.toNat < f → o.cell.toNat < cs.length → ((occF cs f o).length : Int) = cntOf cs o.cell.toNat
 | 0, _, _, h, _ => by omega
 | f + 1, o, h0, hf, hl => by
   rw [occF, List.length_cons, Int.natCast_add, flatMap_len]
   have e1 : ∀ i ∈ List.range (elems (gd cs o.cell.toNat).insts).length, ((occF cs f (kid o (gd (elems (gd cs o.cell.toNat).insts) i) i)).length : Int) = cntOf cs (gd (elems (gd cs o.cell.toNat).insts) i).cell.toNat := fun i hi => by
     have hi := List.mem_range.1 hi
     have hb := (elem_bd h hl hi).1
     exact occF_len h f _ hb.1 (by simp only [kid]; omega) (by simp only [kid]; omega)
   rw [List.map_congr_left e1, map_range_gd (fun e : HElem => cntOf cs e.cell.toNat), sum_elems (fun c => cntOf cs c.toNat) _ (fun i hi => by have := okIn_bd (okLib_inst h hl hi); omega), cntOf, ownCnt]
   have e2 : ∀ ns : List Inst, (∀ n ∈ ns, n.cell.toNat < o.cell.toNat) → costL (fun n => n.cols * n.rows * cntOf cs n.cell.toNat) ns = costL (cntI (cnts cs o.cell.toNat)) ns := by
     intro ns
     induction ns with
     | nil => intro _; rfl
     | cons n ns ih =>
       intro hn
       rw [costL, costL, ih (fun m hm => hn m (.tail _ hm)), cntI, cnts_gd cs (hn n (.head _))]
   rw [e2 _ (fun n hn => by
     obtain ⟨j, hj, rfl⟩ := List.getElem_of_mem hn
     have := (okIn_bd (okLib_inst h hl hj)).1
     rw [gd_eq hj] at this
     omega)]
   omega
theorem occTo_le {cs : List ECell} {f : Nat} {o : EOcc} {i : Nat} (hi : i ≤ (elems (gd cs o.cell.toNat).insts).length) : (occTo cs f o i).length ≤ (occF cs (f + 1) o).length := by
 rw [← occTo_all, occTo, occTo, List.length_cons, List.length_cons]
 have : (List.range i).flatMap (fun n => occF cs f (kid o (gd (elems (gd cs o.cell.toNat).insts) n) n)) = ((List.range (elems (gd cs o.cell.toNat).insts).length).take i).flatMap (fun n => occF cs f (kid o (gd (elems (gd cs o.cell.toNat).insts) n) n)) := by
   rw [List.take_range, Nat.min_eq_left hi]
 rw [this]
 have h2 := congrArg List.length (congrArg (List.flatMap (fun n => occF cs f (kid o (gd (elems (gd cs o.cell.toNat).insts) n) n))) (List.take_append_drop i (List.range (elems (gd cs o.cell.toNat).insts).length)))
 rw [List.flatMap_append, List.length_append] at h2
 omega
def top (cell : Int) : EOcc := ⟨cell, ⟨0, 0, 0⟩, []⟩
def occAll (cs : List ECell) (cell : Int) : List EOcc := occF cs (cell.toNat + 1) (top cell)
def hasCl (cs : List ECell) (cell : Int) : Bool := okLib cs && within cell 0 ((cs.length : Int) - 1)
def occE (cs : List ECell) (cell : Int) : Int :=
  bif !okLib cs then 1 else bif !within cell 0 ((cs.length : Int) - 1) then 5 else bif decide (200 < cntOf cs cell.toNat) then 3 else bif (occAll cs cell).any fun o => !validT o.place then 2 else 0
def occR (cs : List ECell) (cell : Int) : List EOcc := bif decide (occE cs cell = 0) then occAll cs cell else []
theorem occE_zero {cs : List ECell} {cell : Int} (h : occE cs cell = 0) : okLib cs = true ∧ (0 ≤ cell ∧ cell < cs.length) ∧ cntOf cs cell.toNat ≤ 200 ∧ ∀ o ∈ occAll cs cell, validT o.place = true := by
 unfold occE at h
 cases h1 : okLib cs with
 | false => rw [h1] at h; cases h
 | true =>
   cases h2 : within cell 0 ((cs.length : Int) - 1) with
   | false => rw [h1, h2] at h; cases h
   | true =>
     cases h3 : decide (200 < cntOf cs cell.toNat) with
     | true => rw [h1, h2, h3] at h; cases h
     | false =>
       cases h4 : (occAll cs cell).any fun o => !validT o.place with
       | true => rw [h1, h2, h3, h4] at h; cases h
       | false =>
         refine ⟨rfl, ?_, ?_, fun o ho => ?_⟩
         · simp only [within, Bool.and_eq_true, decide_eq_true_eq] at h2; omega
         · have := of_decide_eq_false h3; omega
         · rw [List.any_eq_false] at h4
           simpa using h4 o ho
theorem occR_ok {cs : List ECell} {cell : Int} (h : occE cs cell = 0) : occR cs cell = occAll cs cell := by rw [occR, h]; rfl
theorem occR_no {cs : List ECell} {cell : Int} (h : occE cs cell ≠ 0) : occR cs cell = [] := by rw [occR, decide_eq_false h]; rfl
theorem occAll_len {cs : List ECell} {cell : Int} (h : okLib cs = true) (hc : 0 ≤ cell ∧ cell < cs.length) : ((occAll cs cell).length : Int) = cntOf cs cell.toNat := occF_len h _ (top cell) hc.1 (by simp [top]) (by simp only [top]; omega)
/-- the cells of occurrences are those of the library -/
theorem occF_cell {cs : List ECell} (h : okLib cs = true) : ∀ (f : Nat) (o : EOcc), 0 ≤ o.cell → o.cell.toNat < f → o.cell.toNat < cs.length → ∀ q ∈ occF cs f o, 0 ≤ q.cell ∧ q.cell ≤ o.cell
 | 0, _, _, h, _, _, _ => by omega
 | f + 1, o, h0, hf, hl, q, hq => by
   rw [occF, List.mem_cons] at hq
   rcases hq with rfl | hq
   · exact ⟨h0, Int.le_refl _⟩
   · obtain ⟨i, hi, hq⟩ := List.mem_flatMap.1 hq
     have hb := (elem_bd h hl (List.mem_range.1 hi)).1
     have := occF_cell h f _ hb.1 (by simp only [kid]; omega) (by simp only [kid]; omega) q hq
     simp only [kid] at this
     omega
theorem occR_cell {cs : List ECell} {cell : Int} {i : Nat} (hi : i < (occR cs cell).length) : okLib cs = true ∧ (0 ≤ (gd (occR cs cell) i).cell ∧ (gd (occR cs cell) i).cell < cs.length) ∧ validT (gd (occR cs cell) i).place = true ∧ (occR cs cell).length ≤ 200 := by
 by_cases h : occE cs cell = 0
 · have hm := gd_mem hi
   rw [occR_ok h] at hm ⊢
   obtain ⟨h1, h2, h3, h4⟩ := occE_zero h
   have := occF_cell h1 _ (top cell) h2.1 (by simp [top]) (by simp only [top]; omega) _ hm
   have hl := occAll_len h1 h2
   exact ⟨h1, by simp only [top] at this; omega, h4 _ hm, by omega⟩
 · rw [occR_no h] at hi; simp at hi
def flatOf (cs : List ECell) (o : EOcc) : List Shape := (gd cs o.cell.toNat).shapes.map fun s => ⟨s.layer, moveR o.place s.box⟩
def flatL (cs : List ECell) (os : List EOcc) : List Shape := os.flatMap (flatOf cs)
theorem flatOf_len (cs : List ECell) (o : EOcc) : (flatOf cs o).length = (gd cs o.cell.toNat).shapes.length := by simp [flatOf]
theorem flatL_take {cs : List ECell} {os : List EOcc} {i : Nat} (h : i < os.length) : flatL cs (os.take (i + 1)) = flatL cs (os.take i) ++ flatOf cs (gd os i) := by
 rw [flatL, flatL, List.take_add_one, getG h, List.flatMap_append]; simp
theorem flatOf_step {cs : List ECell} {o : EOcc} {k : Nat} (h : k < (gd cs o.cell.toNat).shapes.length) : (flatOf cs o).take (k + 1) = (flatOf cs o).take k ++ [⟨(gd (gd cs o.cell.toNat).shapes k).layer, moveR o.place (gd (gd cs o.cell.toNat).shapes k).box⟩] := by
 rw [List.take_add_one, getG (by rw [flatOf_len]; exact h), flatOf, gd_map _ h]; rfl
theorem flatL_bd {cs : List ECell} {cell : Int} : ∀ i, i ≤ (occR cs cell).length → (flatL cs ((occR cs cell).take i)).length ≤ 24 * i
 | 0, _ => by simp [flatL]
 | i + 1, hi => by
   have ih := flatL_bd (cs := cs) (cell := cell) i (by omega)
   obtain ⟨h1, h2, _, _⟩ := occR_cell (cs := cs) (cell := cell) (i := i) (by omega)
   have := (okLib_cnt h1 (i := (gd (occR cs cell) i).cell.toNat) (by omega)).2
   rw [flatL_take (by omega), List.length_append, flatOf_len]; omega
def shE (cs : List ECell) (cell : Int) : Int := bif decide (occE cs cell = 0) then (bif (flatL cs (occR cs cell)).any fun s => !validRect s.box then 2 else 0) else occE cs cell
def shR (cs : List ECell) (cell : Int) : List Shape := bif decide (shE cs cell = 0) then flatL cs (occR cs cell) else []
theorem shE_zero {cs : List ECell} {cell : Int} (h : shE cs cell = 0) : occE cs cell = 0 ∧ ∀ s ∈ flatL cs (occR cs cell), validRect s.box = true := by
 unfold shE at h
 by_cases h1 : occE cs cell = 0
 · rw [decide_eq_true h1, cond_true] at h
   cases h2 : (flatL cs (occR cs cell)).any fun s => !validRect s.box with
   | true => rw [h2] at h; cases h
   | false =>
     refine ⟨h1, fun s hs => ?_⟩
     rw [List.any_eq_false] at h2
     simpa using h2 s hs
 · rw [decide_eq_false h1, cond_false] at h; exact absurd h h1
theorem shR_ok {cs : List ECell} {cell : Int} (h : shE cs cell = 0) : shR cs cell = flatL cs (occR cs cell) := by rw [shR, h]; rfl
theorem shR_no {cs : List ECell} {cell : Int} (h : shE cs cell ≠ 0) : shR cs cell = [] := by rw [shR, decide_eq_false h]; rfl
def boxesOf (ss : List Shape) (l : Nat) : List Rect := (ss.filter fun s => decide (s.layer = (l : Int))).map Shape.box
def layL (ss : List Shape) : List (List Rect) := (List.range 8).map fun l => canon (bits (boxesOf ss l))
theorem boxesOf_step {ss : List Shape} {i l : Nat} (h : i < ss.length) : boxesOf (ss.take (i + 1)) l = boxesOf (ss.take i) l ++ (if (gd ss i).layer = (l : Int) then [(gd ss i).box] else []) := by
 rw [boxesOf, boxesOf, List.take_add_one, getG h, List.filter_append, List.map_append]
 by_cases e : (gd ss i).layer = (l : Int) <;> simp [e]
theorem validR_in {r : Rect} (h : validRect r = true) : RIn 40 r := by
 have := valid_bd h; exact this
def rootOf (o : EOcc) : Int := match o.path with | [] => -1 | a :: _ => a
def rootAt (cs : List ECell) (o : EOcc) : List RShape := (flatOf cs o).map fun s => ⟨rootOf o, s⟩
def rootL (cs : List ECell) (os : List EOcc) : List RShape := os.flatMap (rootAt cs)
theorem rootL_flat (cs : List ECell) (os : List EOcc) : (rootL cs os).map RShape.shape = flatL cs os := by
 induction os with
 | nil => rfl
 | cons o os ih =>
   have e1 : rootL cs (o :: os) = rootAt cs o ++ rootL cs os := rfl
   have e2 : flatL cs (o :: os) = flatOf cs o ++ flatL cs os := rfl
   rw [e1, e2, List.map_append, ih]
   congr 1
   simp [rootAt, Function.comp_def]
theorem rootAt_len (cs : List ECell) (o : EOcc) : (rootAt cs o).length = (gd cs o.cell.toNat).shapes.length := by rw [rootAt, List.length_map, flatOf_len]
theorem rootL_len (cs : List ECell) (os : List EOcc) : (rootL cs os).length = (flatL cs os).length := by rw [← rootL_flat, List.length_map]
theorem flatL_split {cs : List ECell} {os : List EOcc} {i : Nat} (h : i < os.length) : flatL cs os = flatL cs (os.take i) ++ (flatOf cs (gd os i) ++ flatL cs (os.drop (i + 1))) := by
 conv => lhs; rw [← List.take_append_drop (i + 1) os]
 rw [flatL, List.flatMap_append]
 have := flatL_take (cs := cs) h
 rw [flatL] at this
 rw [this, List.append_assoc]; rfl
/-- the next rooted shape -/
theorem rootAt_step {cs : List ECell} {os : List EOcc} {i k : Nat} (h : i < os.length) (hk : k < (gd cs (gd os i).cell.toNat).shapes.length) :
   (rootL cs (os.take i) ++ (rootAt cs (gd os i)).take k).length < (flatL cs os).length ∧ (rootAt cs (gd os i)).take (k + 1) = (rootAt cs (gd os i)).take k ++ [⟨rootOf (gd os i), gd (flatL cs os) (rootL cs (os.take i) ++ (rootAt cs (gd os i)).take k).length⟩] := by
 have hl : ((rootAt cs (gd os i)).take k).length = k := by rw [List.length_take, rootAt_len]; omega
 have hf : k < (flatOf cs (gd os i)).length := by rw [flatOf_len]; exact hk
 have e : gd (flatL cs os) (rootL cs (os.take i) ++ (rootAt cs (gd os i)).take k).length = gd (flatOf cs (gd os i)) k := by
   rw [List.length_append, hl, rootL_len, flatL_split h, gd_app_at, gd_app_l hf]
 refine ⟨?_, ?_⟩
 · rw [List.length_append, hl, rootL_len, flatL_split h, List.length_append, List.length_append]; omega
 · rw [e, List.take_add_one, getG (by rw [rootAt_len]; exact hk), rootAt, gd_map _ hf]; rfl
def elN (cs : List ECell) (cell : Int) : Nat := (elems (gd cs cell.toNat).insts).length
theorem shE_lib {cs : List ECell} {cell : Int} (h : shE cs cell = 0) : okLib cs = true ∧ 0 ≤ cell ∧ cell < cs.length := by
 have := occE_zero (shE_zero h).1
 exact ⟨this.1, this.2.1⟩
end Go.Proofs.YthhjapiggekjbaaGreat
namespace Go.Proofs.YthhjapiggekjbaaGreat
set_option linter.unusedVariables false
set_option linter.unusedSimpArgs false
open Go
set_option maxRecDepth 20000
set_option linter.unusedSimpArgs false
variable {G : Gh} {L : List Ch} {R : Value → Gh → List Ch → Prop}
def shs (xs : List Cell) : List (Sl Shape) := xs.map Cell.shapes
def lbs (xs : List Cell) : List (Sl Label) := xs.map Cell.labels
def ins (xs : List Cell) : List (Sl Inst) := xs.map Cell.insts
/-- the library reads as xs -/
structure RLib (G : Gh) (L : List Ch) (v : Value) (xs : List Cell) : Prop where
  c : Rs G L cellT v xs
  s : RsE G L shapeT (shs xs)
  l : RsE G L labelT (lbs xs)
  n : RsE G L instT (ins xs)
theorem RLib.up {L' : List Ch} {v : Value} {xs : List Cell} (h : RLib G L v xs) [p : PickC L L'] : RLib G L' v xs := ⟨h.c.up, h.s.up, h.l.up, h.n.up⟩
theorem RLib.cv {L' : List Ch} {v : Value} {xs : List Cell} (c : Cv L' L) (h : RLib G L v xs) : RLib G L' v xs := ⟨h.c.cv c, h.s.cv c, h.l.cv c, h.n.cv c⟩
theorem RLib.sa {v : Value} {xs : List Cell} (h : RLib G L v xs) {i : Nat} (hi : i < xs.length) : Rs G L shapeT (gd xs i).shapes.v (gd xs i).shapes.xs := by
 have := h.s i (by simpa [shs] using hi); rwa [shs, gd_map _ hi] at this
theorem RLib.la {v : Value} {xs : List Cell} (h : RLib G L v xs) {i : Nat} (hi : i < xs.length) : Rs G L labelT (gd xs i).labels.v (gd xs i).labels.xs := by
 have := h.l i (by simpa [lbs] using hi); rwa [lbs, gd_map _ hi] at this
theorem RLib.na {v : Value} {xs : List Cell} (h : RLib G L v xs) {i : Nat} (hi : i < xs.length) : Rs G L instT (gd xs i).insts.v (gd xs i).insts.xs := by
 have := h.n i (by simpa [ins] using hi); rwa [ins, gd_map _ hi] at this
/-- the cells of a cell of the library are one each -/
theorem RLib.one {L' : List Ch} {v : Value} {xs : List Cell} (h : RLib G L v xs) {i : Nat} (hi : i < xs.length) [p : PickC L L'] : OneC G L' [.string (gd xs i).name, (gd xs i).shapes.v, (gd xs i).labels.v, (gd xs i).insts.v] :=
 OneC.val rfl (OneC.sl (SlF.r (h.sa hi)) (OneC.sl (SlF.r (h.la hi)) (OneC.sl (SlF.r (h.na hi)) OneC.nil)))
/-- names are no longer than a machine bears -/
def lenL (ls : List Label) : Prop := ∀ i, i < ls.length → (gd ls i).name.size ≤ 9223372036854775807
def lenC (cs : List ECell) : Prop := ∀ i, i < cs.length → (gd cs i).name.size ≤ 9223372036854775807 ∧ lenL (gd cs i).labels
/-- lists of at most 2^20 -/
def few (cs : List ECell) : Prop := cs.length ≤ 1048576 ∧ ∀ i, i < cs.length → (gd cs i).shapes.length ≤ 1048576 ∧ (gd cs i).labels.length ≤ 1048576 ∧ (gd cs i).insts.length ≤ 1048576
theorem Cv.grow3 {α β γ : Type} {e1 e2 e3 : TypeId} {F1 : FT α} {F2 : FT β} {F3 : FT γ} {u1 u2 u3 : Value} {us1 : List α} {us2 : List β} {us3 : List γ} {y1 y1' : List (Sl α)} {y2 y2' : List (Sl β)} {y3 y3' : List (Sl γ)} (h1 : y1' = y1 ++ [⟨u1, us1⟩]) (h2 : y2' = y2 ++ [⟨u2, us2⟩]) (h3 : y3' = y3 ++ [⟨u3, us3⟩]) :
   Cv (osl e1 F1 u1 us1 :: osl e2 F2 u2 us2 :: osl e3 F3 u3 us3 :: bagS e1 F1 y1 :: bagS e2 F2 y2 :: bagS e3 F3 y3 :: L) (bagS e1 F1 y1' :: bagS e2 F2 y2' :: bagS e3 F3 y3' :: L) :=
 (Cv.p (C := osl e1 F1 u1 us1 :: bagS e1 F1 y1 :: osl e2 F2 u2 us2 :: bagS e2 F2 y2 :: osl e3 F3 u3 us3 :: bagS e3 F3 y3 :: L)).trans ((Cv.grow h1).trans (Cv.cons ((Cv.grow h2).trans (Cv.cons (Cv.grow h3)))))
/-- .. the same with the cells themselves -/
theorem few.one {xs : List Cell} {i : Nat} (hf : few (erCls xs)) (hi : i < xs.length) : (gd xs i).shapes.xs.length ≤ 1048576 ∧ (gd xs i).labels.xs.length ≤ 1048576 ∧ (gd xs i).insts.xs.length ≤ 1048576 := by
 have := hf.2 i (by rw [erCls_len]; exact hi)
 rwa [erCls_gd hi] at this
theorem lenC.one {xs : List Cell} (h : lenC (erCls xs)) {i : Nat} (hi : i < xs.length) : (gd xs i).name.size ≤ 9223372036854775807 ∧ lenL (gd xs i).labels.xs := by
 have := h i (by rw [erCls_len]; exact hi); rwa [erCls_gd hi] at this
end Go.Proofs.YthhjapiggekjbaaGreat
namespace Go.Proofs.YthhjapiggekjbaaGreat
set_option linter.unusedVariables false
set_option linter.unusedSimpArgs false
open Go
set_option maxRecDepth 20000
set_option linter.unusedSimpArgs false
variable {G : Gh} {L : List Ch} {R : Value → Gh → List Ch → Prop}
theorem okSh_i {s : Shape} (k : R (.bool (okSh s)) G L) : CallT Tryz.prog 236 #[vT shapeT s] G L R := by
 refine CallT.enter (args := _) Tryz.func236 rfl rfl (by kernel_rfl) rfl ?_
 refine WP.seq (WP.region ?_)
 refine RG.ot rfl (OT.box (cs := shapeT.enc s) rfl rfl rfl fun b1 => ?_)
 refine RG.br rfl rfl rfl (RG.nil (WP.seq (WP.region (RG.pv rfl (PV.field rfl Fo142_0 rfl) (RG.pv rfl (PV.load1 rfl Sc2 rfl (Rd.blk rfl)) ?_)))))
 refine RG.callF (vs := [_, _, _]) rfl rfl En43 rfl (within_s ?_)
 refine RG.bl rfl rfl rfl ?_
 refine RG.gs rfl rfl rfl (fun hp => (PV.field rfl Fo142_1 rfl)) ?_
 refine RG.gs rfl rfl rfl (fun hp => (PV.loadB (vs := [_, _, _, _]) rfl Ag140 (gs_t hp) rfl rfl)) ?_
 refine RG.gsC rfl rfl rfl rfl En83 (fun hp => ⟨_, (acons (gs_t hp) anil), validRect_s ⟨rfl, rfl, rfl⟩⟩) ?_
 refine RG.pv rfl (PV.pickA rfl rfl (fun hq => gs_t (geqT hq)) rfl) (RG.br rfl rfl rfl (RG.nil ?_))
 refine WP.ret ?_
 exact ⟨_, _, ResV.one rfl rfl, Cv.p, k⟩
theorem validT_i {t : Trans} (k : R (.bool (validT t)) G L) : CallT Tryz.prog 134 #[vtrans t] G L R := by
 refine CallT.enter (args := _) Tryz.func134 rfl rfl (by kernel_rfl) rfl ?_
 refine WP.seq (WP.region ?_)
 refine RG.ot rfl (OT.box (cs := transT.enc t) rfl rfl rfl fun b1 => ?_)
 refine RG.br rfl rfl rfl (RG.nil (WP.seq (WP.region (RG.pv rfl (PV.field rfl Fo136_0 rfl) (RG.pv rfl (PV.load1 rfl Sc2 rfl (Rd.blk rfl)) ?_)))))
 refine RG.callF (vs := [_, _, _]) rfl rfl En43 rfl (within_s ?_)
 refine RG.bl rfl rfl rfl ?_
 refine RG.gs rfl rfl rfl (fun hp => (PV.field rfl Fo136_1 rfl)) ?_
 refine RG.gs rfl rfl rfl (fun hp => (PV.load1 rfl Sc2 (gs_t hp) (Rd.blk rfl))) ?_
 refine RG.gsC rfl rfl rfl rfl En43 (fun hp => ⟨_, (acons (gs_t hp) (acons rfl (acons rfl anil))), within_s ⟨rfl, rfl, rfl⟩⟩) ?_
 refine RG.pv rfl (PV.pickA rfl rfl (fun hq => gs_t (geqT hq)) rfl) (RG.bl rfl rfl rfl ?_)
 refine RG.gs rfl rfl rfl (fun hp => (PV.field rfl Fo136_2 rfl)) ?_
 refine RG.gs rfl rfl rfl (fun hp => (PV.load1 rfl Sc2 (gs_t hp) (Rd.blk rfl))) ?_
 refine RG.gsC rfl rfl rfl rfl En43 (fun hp => ⟨_, (acons (gs_t hp) (acons rfl (acons rfl anil))), within_s ⟨rfl, rfl, rfl⟩⟩) ?_
 refine RG.pv rfl (PV.pickA rfl rfl (fun hq => gs_t (geqT hq)) rfl) (RG.br rfl rfl rfl (RG.nil ?_))
 refine WP.ret ?_
 have e : validT t = ((within t.o 0 7 && within t.x (-80) 80) && within t.y (-80) 80) := (Bool.and_assoc _ _ _).symm
 rw [e] at k
 exact ⟨_, _, ResV.one rfl rfl, Cv.p, k⟩
theorem okIn_i {n : Inst} {k0 : Int} (hk : 0 ≤ k0 ∧ k0 ≤ 1000) (k : R (.bool (okIn k0 n)) G L) : CallT Tryz.prog 242 #[vT instT n, vi k0] G L R := by
 refine CallT.enter (args := _) Tryz.func242 rfl rfl (by kernel_rfl) rfl ?_
 refine WP.seq (WP.region ?_)
 refine RG.ot rfl (OT.box (cs := instT.enc n) rfl rfl rfl fun b2 => ?_)
 refine RG.br rfl rfl rfl (RG.nil (WP.seq (WP.region (RG.pv rfl (PV.field rfl Fo195_0 rfl) (RG.pv rfl (PV.load1 rfl Sc2 rfl (Rd.blk rfl)) (RG.ml rfl rfl rfl (RG.pv rfl (PV.sub rfl rfl rfl (by omega)) ?_)))))))
 refine RG.callF (vs := [_, _, _]) rfl rfl En43 rfl (within_s ?_)
 refine RG.bl rfl rfl rfl ?_
 refine RG.gs rfl rfl rfl (fun hp => (PV.field rfl Fo195_1 rfl)) ?_
 refine RG.gs rfl rfl rfl (fun hp => (PV.loadB (vs := [_, _, _]) rfl Ag136 (gs_t hp) rfl rfl)) ?_
 refine RG.gsC rfl rfl rfl rfl En134 (fun hp => ⟨_, (acons (gs_t hp) anil), validT_i ⟨rfl, rfl, rfl⟩⟩) ?_
 refine RG.pv rfl (PV.pickA rfl rfl (fun hq => gs_t (geqT hq)) rfl) (RG.bl rfl rfl rfl ?_)
 refine RG.gs rfl rfl rfl (fun hp => (PV.field rfl Fo195_2 rfl)) ?_
 refine RG.gs rfl rfl rfl (fun hp => (PV.load1 rfl Sc2 (gs_t hp) (Rd.blk rfl))) ?_
 refine RG.gsC rfl rfl rfl rfl En43 (fun hp => ⟨_, (acons (gs_t hp) (acons rfl (acons rfl anil))), within_s ⟨rfl, rfl, rfl⟩⟩) ?_
 refine RG.pv rfl (PV.pickA rfl rfl (fun hq => gs_t (geqT hq)) rfl) (RG.bl rfl rfl rfl ?_)
 refine RG.gs rfl rfl rfl (fun hp => (PV.field rfl Fo195_3 rfl)) ?_
 refine RG.gs rfl rfl rfl (fun hp => (PV.load1 rfl Sc2 (gs_t hp) (Rd.blk rfl))) ?_
 refine RG.gsC rfl rfl rfl rfl En43 (fun hp => ⟨_, (acons (gs_t hp) (acons rfl (acons rfl anil))), within_s ⟨rfl, rfl, rfl⟩⟩) ?_
 refine RG.pv rfl (PV.pickA rfl rfl (fun hq => gs_t (geqT hq)) rfl) (RG.bl rfl rfl rfl ?_)
 refine RG.gs rfl rfl rfl (fun hp => (PV.field rfl Fo195_4 rfl)) ?_
 refine RG.gs rfl rfl rfl (fun hp => (PV.load1 rfl Sc2 (gs_t hp) (Rd.blk rfl))) ?_
 refine RG.gsC rfl rfl rfl rfl En43 (fun hp => ⟨_, (acons (gs_t hp) (acons rfl (acons rfl anil))), within_s ⟨rfl, rfl, rfl⟩⟩) ?_
 refine RG.pv rfl (PV.pickA rfl rfl (fun hq => gs_t (geqT hq)) rfl) (RG.bl rfl rfl rfl ?_)
 refine RG.gs rfl rfl rfl (fun hp => (PV.field rfl Fo195_5 rfl)) ?_
 refine RG.gs rfl rfl rfl (fun hp => (PV.load1 rfl Sc2 (gs_t hp) (Rd.blk rfl))) ?_
 refine RG.gsC rfl rfl rfl rfl En43 (fun hp => ⟨_, (acons (gs_t hp) (acons rfl (acons rfl anil))), within_s ⟨rfl, rfl, rfl⟩⟩) ?_
 refine RG.pv rfl (PV.pickA rfl rfl (fun hq => gs_t (geqT hq)) rfl) (RG.bl rfl rfl rfl ?_)
 refine RG.gs rfl rfl rfl (fun hp => (PV.field rfl Fo195_4 rfl)) ?_
 refine RG.gs rfl rfl rfl (fun hp => (PV.load1 rfl Sc2 (gs_t hp) (Rd.blk rfl))) ?_
 refine RG.gs rfl rfl rfl (fun hp => (PV.eql rfl (gs_t hp) rfl)) ?_
 refine RG.gs rfl rfl rfl (fun hp => (PV.mvB (.inl rfl) (gs_t hp))) ?_
 refine RG.gs2 rfl rfl rfl (fun hp => (PV.field rfl Fo195_2 rfl)) ?_
 refine RG.gs2 rfl rfl rfl (fun hp => (PV.load1 rfl Sc2 (gs_t hp) (Rd.blk rfl))) ?_
 refine RG.gs2 rfl rfl rfl (fun hp => (PV.gtr rfl (gs_t hp) rfl)) ?_
 refine RG.gs rfl rfl rfl (fun hp => (PV.pickO rfl (gs_t hp) rfl (fun hq => gs_t (gandF hp hq)))) ?_
 refine RG.pv rfl (PV.pickA rfl rfl (fun hq => gs_t (geqT hq)) rfl) (RG.bl rfl rfl rfl ?_)
 refine RG.gs rfl rfl rfl (fun hp => (PV.field rfl Fo195_5 rfl)) ?_
 refine RG.gs rfl rfl rfl (fun hp => (PV.load1 rfl Sc2 (gs_t hp) (Rd.blk rfl))) ?_
 refine RG.gs rfl rfl rfl (fun hp => (PV.eql rfl (gs_t hp) rfl)) ?_
 refine RG.gs rfl rfl rfl (fun hp => (PV.mvB (.inl rfl) (gs_t hp))) ?_
 refine RG.gs2 rfl rfl rfl (fun hp => (PV.field rfl Fo195_3 rfl)) ?_
 refine RG.gs2 rfl rfl rfl (fun hp => (PV.load1 rfl Sc2 (gs_t hp) (Rd.blk rfl))) ?_
 refine RG.gs2 rfl rfl rfl (fun hp => (PV.gtr rfl (gs_t hp) rfl)) ?_
 refine RG.gs rfl rfl rfl (fun hp => (PV.pickO rfl (gs_t hp) rfl (fun hq => gs_t (gandF hp hq)))) ?_
 refine RG.pv rfl (PV.pickA rfl rfl (fun hq => gs_t (geqT hq)) rfl) (RG.br rfl rfl rfl (RG.nil ?_))
 refine WP.ret ?_
 exact ⟨_, _, ResV.one rfl rfl, Cv.p, k⟩
theorem notSh_s {s : Shape} (k : R (.bool (!okSh s)) G L) : CallT Tryz.prog 235 #[vT shapeT s] G L R := by
 refine CallT.enter (args := _) Tryz.func235 rfl rfl (by kernel_rfl) rfl ?_
 refine WP.seq (WP.region ?_)
 refine RG.ot rfl (OT.box (cs := shapeT.enc s) rfl rfl rfl fun b1 => ?_)
 refine RG.br rfl rfl rfl (RG.nil (WP.seq (WP.region (RG.pv rfl (PV.loadW rfl Ag142 rfl rfl) ?_))))
 refine RG.callF (vs := [_]) rfl rfl En236 rfl (okSh_i ?_)
 refine RG.pv rfl (PV.not rfl rfl) (RG.br rfl rfl rfl (RG.nil ?_))
 refine WP.ret ?_
 exact ⟨_, _, ResV.one rfl rfl, Cv.p, k⟩
theorem notLb2_s {l : Label} (hs : l.name.size ≤ 9223372036854775807) (k : R (.bool (!validLb l)) G L) : CallT Tryz.prog 238 #[vT labelT l] G L R := by
 refine CallT.enter (args := _) Tryz.func238 rfl rfl (by kernel_rfl) rfl ?_
 refine WP.seq (WP.region ?_)
 refine RG.ot rfl (OT.box (cs := labelT.enc l) rfl rfl rfl fun b1 => ?_)
 refine RG.br rfl rfl rfl (RG.nil (WP.seq (WP.region (RG.pv rfl (PV.loadW rfl Ag193 rfl rfl) ?_))))
 refine RG.callF (vs := [_]) rfl rfl En239 rfl (validLb_i hs ?_)
 refine RG.pv rfl (PV.not rfl rfl) (RG.br rfl rfl rfl (RG.nil ?_))
 refine WP.ret ?_
 exact ⟨_, _, ResV.one rfl rfl, Cv.p, k⟩
theorem notIn_s {n : Inst} {k0 : Int} {b : Nat} (hk : 0 ≤ k0 ∧ k0 ≤ 1000) (hb : Rd G L b 0 (vi k0)) (k : R (.bool (!okIn k0 n)) G L) : CallT Tryz.prog 241 #[vT instT n, .pointer (some ⟨b, 0, none⟩)] G L R := by
 refine CallT.enter (args := _) Tryz.func241 rfl rfl (by kernel_rfl) rfl ?_
 refine WP.seq (WP.region ?_)
 refine RG.ot rfl (OT.box (cs := instT.enc n) rfl rfl rfl fun b2 => ?_)
 refine RG.br rfl rfl rfl (RG.nil (WP.seq (WP.region (RG.pv rfl (PV.loadW rfl Ag195 rfl rfl) (RG.pv rfl (PV.load1 rfl Sc2 rfl (Rd.up hb)) ?_)))))
 refine RG.callF (vs := [_, _]) rfl rfl En242 rfl (okIn_i hk ?_)
 refine RG.pv rfl (PV.not rfl rfl) (RG.br rfl rfl rfl (RG.nil ?_))
 refine WP.ret ?_
 exact ⟨_, _, ResV.one rfl rfl, Cv.p, k⟩
theorem indexF_shape {v fv : Value} {xs : List (Shape)} {p : (Shape) → Bool} (h1 : Rs G L shapeT v xs) (hf : ∀ i, i < xs.length → CB Tryz.prog G L fv [vT shapeT (gd xs i)] (.bool (p (gd xs i)))) (k : R (vi (idxI p xs)) G L) : CallT Tryz.prog 248 #[v, fv] G L R := by
 refine CallT.bd h1 fun hb => ?_
 refine CallT.enter (args := _) Tryz.func248 rfl rfl (by kernel_rfl) rfl ?_
 refine WP.seq (WP.region (RG.mr rfl rfl rfl (RG.nil (WP.seq (WP.seq (WP.region (RG.pv rfl (PV.move (v := v) rfl rfl) ?_)))))))
 refine RG.pv rfl (PV.len (v := v) rfl Tryz.underlying83 rfl (SlF.r h1)) (RG.ml rfl rfl rfl (RG.nil (WP.block ?_)))
 refine WP.loop1 [0, 1, 7] (fun i => i ≤ xs.length ∧ ∀ j, j < i → p (gd xs j) = false) (fun i => [(8, vi i)]) (fun i => L) (fun i => xs.length - i) 0 ⟨by omega, fun j h => by omega⟩ ⟨rfl, trivial⟩ Cv.p ?_
 rintro i τ ⟨hi, hj⟩
 refine WP.seq (WP.region (RG.pv rfl (PV.lss rfl rfl rfl) (RG.nil (WP.seq ?_))))
 refine WP.cond rfl (fun h2 => ?_) (fun h2 => ?_)
 · have h2 := of_decide_eq_true h2
   refine WP.skip (WP.seq (WP.block (WP.seq (WP.region (RG.ml rfl rfl rfl (RG.mr rfl rfl rfl (RG.nil ?_)))))))
   refine WP.seq (WP.region (RG.pv rfl (PV.move (v := fv) rfl rfl) (RG.pv rfl (PV.move (v := v) rfl rfl) (RG.ml rfl rfl rfl (RG.pv rfl (PV.idxS (v := v) rfl Is83 rfl (SlF.r h1) rfl rfl (by omega)) (RG.pv rfl (PV.loadE rfl Ag142 rfl rfl (El.r h1 (getG (by omega)))) ?_))))))
   refine RG.callB (vs := [_]) rfl rfl rfl rfl (CB.up (hf i (by omega))) ?_
   refine RG.nil ?_
   refine WP.cond rfl (fun h3 => ?_) (fun h3 => ?_)
   · rw [idxI_at (by omega) h3 hj] at k
     refine WP.seq (WP.region (RG.ml rfl rfl rfl (RG.mr rfl rfl rfl (RG.nil ?_))))
     refine WP.ret ?_
     exact ⟨_, _, ResV.one rfl rfl, Cv.p, k⟩
   · have hj' : ∀ j, j < i + 1 → p (gd xs j) = false := fun j h => by
       by_cases c : j = i
       · rw [c]; exact h3
       · exact hj j (by omega)
     refine WP.skip (WP.region (RG.pv rfl (PV.add rfl rfl rfl (by omega)) (RG.ml rfl rfl rfl (RG.nil ?_))))
     exact ⟨rfl, i + 1, ⟨by omega, hj'⟩, ⟨rfl, trivial⟩, ⟨rfl, rfl, rfl, trivial⟩, Cv.p, by omega⟩
 · have h2 := of_decide_eq_false h2
   rw [idxI_none (fun j h => hj j (by omega))] at k
   refine WP.exit ?_
   refine WP.seq (WP.region (RG.mr rfl rfl rfl (RG.nil ?_)))
   refine WP.ret ?_
   exact ⟨_, _, ResV.one rfl rfl, Cv.p, k⟩
theorem containsF_shape {v fv : Value} {xs : List (Shape)} {p : (Shape) → Bool} (h1 : Rs G L shapeT v xs) (hf : ∀ i, i < xs.length → CB Tryz.prog G L fv [vT shapeT (gd xs i)] (.bool (p (gd xs i)))) (k : R (.bool (xs.any p)) G L) : CallT Tryz.prog 234 #[v, fv] G L R := by
 rw [← idxI_any] at k
 refine CallT.enter (args := _) Tryz.func234 rfl rfl (by kernel_rfl) rfl ?_
 refine WP.seq (WP.region (RG.br rfl rfl rfl (RG.nil (WP.seq (WP.region (RG.pv rfl (PV.move (v := v) rfl rfl) (RG.pv rfl (PV.move (v := fv) rfl rfl) ?_)))))))
 refine RG.callF (vs := [v, fv]) rfl rfl En248 rfl (indexF_shape (Rs.up h1) (fun i hi => (hf i hi).up) ?_)
 refine RG.pv rfl (PV.geq rfl rfl rfl) (RG.br rfl rfl rfl (RG.nil ?_))
 refine WP.ret ?_
 exact ⟨_, _, ResV.one rfl rfl, Cv.p, k⟩
theorem indexF_inst {v fv : Value} {xs : List (Inst)} {p : (Inst) → Bool} (h1 : Rs G L instT v xs) (hf : ∀ i, i < xs.length → CB Tryz.prog G L fv [vT instT (gd xs i)] (.bool (p (gd xs i)))) (k : R (vi (idxI p xs)) G L) : CallT Tryz.prog 251 #[v, fv] G L R := by
 refine CallT.bd h1 fun hb => ?_
 refine CallT.enter (args := _) Tryz.func251 rfl rfl (by kernel_rfl) rfl ?_
 refine WP.seq (WP.region (RG.mr rfl rfl rfl (RG.nil (WP.seq (WP.seq (WP.region (RG.pv rfl (PV.move (v := v) rfl rfl) ?_)))))))
 refine RG.pv rfl (PV.len (v := v) rfl Tryz.underlying114 rfl (SlF.r h1)) (RG.ml rfl rfl rfl (RG.nil (WP.block ?_)))
 refine WP.loop1 [0, 1, 7] (fun i => i ≤ xs.length ∧ ∀ j, j < i → p (gd xs j) = false) (fun i => [(8, vi i)]) (fun i => L) (fun i => xs.length - i) 0 ⟨by omega, fun j h => by omega⟩ ⟨rfl, trivial⟩ Cv.p ?_
 rintro i τ ⟨hi, hj⟩
 refine WP.seq (WP.region (RG.pv rfl (PV.lss rfl rfl rfl) (RG.nil (WP.seq ?_))))
 refine WP.cond rfl (fun h2 => ?_) (fun h2 => ?_)
 · have h2 := of_decide_eq_true h2
   refine WP.skip (WP.seq (WP.block (WP.seq (WP.region (RG.ml rfl rfl rfl (RG.mr rfl rfl rfl (RG.nil ?_)))))))
   refine WP.seq (WP.region (RG.pv rfl (PV.move (v := fv) rfl rfl) (RG.pv rfl (PV.move (v := v) rfl rfl) (RG.ml rfl rfl rfl (RG.pv rfl (PV.idxS (v := v) rfl Is114 rfl (SlF.r h1) rfl rfl (by omega)) (RG.pv rfl (PV.loadE rfl Ag195 rfl rfl (El.r h1 (getG (by omega)))) ?_))))))
   refine RG.callB (vs := [_]) rfl rfl rfl rfl (CB.up (hf i (by omega))) ?_
   refine RG.nil ?_
   refine WP.cond rfl (fun h3 => ?_) (fun h3 => ?_)
   · rw [idxI_at (by omega) h3 hj] at k
     refine WP.seq (WP.region (RG.ml rfl rfl rfl (RG.mr rfl rfl rfl (RG.nil ?_))))
     refine WP.ret ?_
     exact ⟨_, _, ResV.one rfl rfl, Cv.p, k⟩
   · have hj' : ∀ j, j < i + 1 → p (gd xs j) = false := fun j h => by
       by_cases c : j = i
       · rw [c]; exact h3
       · exact hj j (by omega)
     refine WP.skip (WP.region (RG.pv rfl (PV.add rfl rfl rfl (by omega)) (RG.ml rfl rfl rfl (RG.nil ?_))))
     exact ⟨rfl, i + 1, ⟨by omega, hj'⟩, ⟨rfl, trivial⟩, ⟨rfl, rfl, rfl, trivial⟩, Cv.p, by omega⟩
 · have h2 := of_decide_eq_false h2
   rw [idxI_none (fun j h => hj j (by omega))] at k
   refine WP.exit ?_
   refine WP.seq (WP.region (RG.mr rfl rfl rfl (RG.nil ?_)))
   refine WP.ret ?_
   exact ⟨_, _, ResV.one rfl rfl, Cv.p, k⟩
theorem containsF_inst {v fv : Value} {xs : List (Inst)} {p : (Inst) → Bool} (h1 : Rs G L instT v xs) (hf : ∀ i, i < xs.length → CB Tryz.prog G L fv [vT instT (gd xs i)] (.bool (p (gd xs i)))) (k : R (.bool (xs.any p)) G L) : CallT Tryz.prog 240 #[v, fv] G L R := by
 rw [← idxI_any] at k
 refine CallT.enter (args := _) Tryz.func240 rfl rfl (by kernel_rfl) rfl ?_
 refine WP.seq (WP.region (RG.br rfl rfl rfl (RG.nil (WP.seq (WP.region (RG.pv rfl (PV.move (v := v) rfl rfl) (RG.pv rfl (PV.move (v := fv) rfl rfl) ?_)))))))
 refine RG.callF (vs := [v, fv]) rfl rfl En251 rfl (indexF_inst (Rs.up h1) (fun i hi => (hf i hi).up) ?_)
 refine RG.pv rfl (PV.geq rfl rfl rfl) (RG.br rfl rfl rfl (RG.nil ?_))
 refine WP.ret ?_
 exact ⟨_, _, ResV.one rfl rfl, Cv.p, k⟩
theorem okCell_i {c : Cell} {k0 : Int} (hk : 0 ≤ k0 ∧ k0 ≤ 1000) (h1 : Rs G L shapeT c.shapes.v c.shapes.xs) (h2 : Rs G L labelT c.labels.v c.labels.xs) (h3 : Rs G L instT c.insts.v c.insts.xs) (hs : c.name.size ≤ 9223372036854775807) (hlen : lenL c.labels.xs)
   (k : R (.bool (okCell k0 (erCl c))) G L) : CallT Tryz.prog 216 #[vT cellT c, vi k0] G L R := by
 refine CallT.enter (args := _) Tryz.func216 rfl rfl (by kernel_rfl) rfl ?_
 refine WP.seq (WP.region ?_)
 refine RG.ot rfl (OT.box (cs := cellT.enc c) rfl rfl rfl fun b2 => ?_)
 refine RG.ot rfl (OT.box (cs := [vi k0]) rfl rfl rfl fun b3 => ?_)
 refine RG.br rfl rfl rfl (RG.nil (WP.seq (WP.seq (WP.region (RG.pv rfl (PV.field rfl Fo116_0 rfl) (RG.pv rfl (PV.load1 rfl Sc9 rfl (Rd.blk rfl)) ?_))))))
 refine RG.callF (vs := [_]) rfl rfl En233 rfl (isName_i hs ?_)
 refine RG.pv rfl (PV.not rfl rfl) (RG.bl rfl rfl rfl ?_)
 refine RG.gs rfl rfl rfl (fun hp => (PV.field rfl Fo116_1 rfl)) ?_
 refine RG.gs rfl rfl rfl (fun hp => (PV.load1 rfl Sc83 (gs_t hp) (Rd.blk rfl))) ?_
 refine RG.gs rfl rfl rfl (fun hp => (PV.len rfl Tryz.underlying83 (gs_t hp) (SlF.r h1))) ?_
 refine RG.gs rfl rfl rfl (fun hp => (PV.gtr rfl (gs_t hp) rfl)) ?_
 refine RG.pv rfl (PV.pickO rfl rfl rfl (fun hq => gs_t (geqF hq))) (RG.bl rfl rfl rfl ?_)
 refine RG.gs rfl rfl rfl (fun hp => (PV.field rfl Fo116_2 rfl)) ?_
 refine RG.gs rfl rfl rfl (fun hp => (PV.load1 rfl Sc113 (gs_t hp) (Rd.blk rfl))) ?_
 refine RG.gs rfl rfl rfl (fun hp => (PV.len rfl Tryz.underlying113 (gs_t hp) (SlF.r h2))) ?_
 refine RG.gs rfl rfl rfl (fun hp => (PV.gtr rfl (gs_t hp) rfl)) ?_
 refine RG.pv rfl (PV.pickO rfl rfl rfl (fun hq => gs_t (geqF hq))) (RG.bl rfl rfl rfl ?_)
 refine RG.gs rfl rfl rfl (fun hp => (PV.field rfl Fo116_3 rfl)) ?_
 refine RG.gs rfl rfl rfl (fun hp => (PV.load1 rfl Sc114 (gs_t hp) (Rd.blk rfl))) ?_
 refine RG.gs rfl rfl rfl (fun hp => (PV.len rfl Tryz.underlying114 (gs_t hp) (SlF.r h3))) ?_
 refine RG.gs rfl rfl rfl (fun hp => (PV.gtr rfl (gs_t hp) rfl)) ?_
 refine RG.pv rfl (PV.pickO rfl rfl rfl (fun hq => gs_t (geqF hq))) (RG.nil ?_)
 refine WP.cond rfl (fun h4 => ?_) (fun h4 => ?_)
 · have e : okCell k0 (erCl c) = false := by
     simp [okCell, erCl] at h4 ⊢
     grind
   rw [e] at k
   refine WP.seq (WP.region (RG.br rfl rfl rfl (RG.nil ?_)))
   refine WP.ret ?_
   exact ⟨_, _, ResV.one rfl rfl, Cv.p, k⟩
 · refine WP.skip ?_
   refine WP.seq (WP.region (RG.pv rfl (PV.field rfl Fo116_1 rfl) (RG.pv rfl (PV.load1 rfl Sc83 rfl (Rd.blk rfl)) ?_)))
   refine RG.callF (vs := [_, _]) rfl rfl En234 rfl (containsF_shape (Rs.up h1) (p := fun s => !okSh s) (fun i hi => CB.mk0 En235 fun L' R c k => notSh_s k) ?_)
   refine RG.pv rfl (PV.not rfl rfl) (RG.bl rfl rfl rfl ?_)
   refine RG.gs rfl rfl rfl (fun hp => (PV.field rfl Fo116_2 rfl)) ?_
   refine RG.gs rfl rfl rfl (fun hp => (PV.load1 rfl Sc113 (gs_t hp) (Rd.blk rfl))) ?_
   refine RG.gsC rfl rfl rfl rfl En237 (fun hp => ⟨_, (acons (gs_t hp) (acons rfl anil)), containsF_label (Rs.up h2) (p := fun l => !validLb l) (fun i hi => CB.mk0 En238 fun L' R c k => notLb2_s (hlen i hi) k) ⟨rfl, rfl, rfl⟩⟩) ?_
   refine RG.gs rfl rfl rfl (fun hp => (PV.not rfl (gs_t hp))) ?_
   refine RG.pv rfl (PV.pickA rfl rfl (fun hq => gs_t (geqT hq)) rfl) (RG.bl rfl rfl rfl ?_)
   refine RG.gs rfl rfl rfl (fun hp => (PV.field rfl Fo116_3 rfl)) ?_
   refine RG.gs rfl rfl rfl (fun hp => (PV.load1 rfl Sc114 (gs_t hp) (Rd.blk rfl))) ?_
   refine RG.gs rfl rfl rfl (fun hp => (PV.mkf1 rfl rfl)) ?_
   refine RG.gsC rfl rfl rfl rfl En240 (fun hp => ⟨_, (acons (gs_t hp) (acons (gs_t hp) anil)), containsF_inst (Rs.up h3) (p := fun n => !okIn k0 n) (fun i hi => CB.mk1 En241 fun L' R c k => notIn_s hk (Rd.cv (Rd.blk rfl) c) k) ⟨rfl, rfl, rfl⟩⟩) ?_
   refine RG.gs rfl rfl rfl (fun hp => (PV.not rfl (gs_t hp))) ?_
   refine RG.pv rfl (PV.pickA rfl rfl (fun hq => gs_t (geqT hq)) rfl) (RG.br rfl rfl rfl (RG.nil ?_))
   refine WP.ret ?_
   have e : okCell k0 (erCl c) = (!(c.shapes.xs.any fun s => !okSh s) && !(c.labels.xs.any fun l => !validLb l) && !(c.insts.xs.any fun n => !okIn k0 n)) := by
     simp [okCell, erCl] at h4 ⊢
     grind
   rw [e] at k
   exact ⟨_, _, ResV.one rfl rfl, Cv.p, k⟩
theorem named1_s {c : Cell} {nm : ByteArray} {b : Nat} (hb : Rd G L b 0 (.string nm)) (k : R (.bool (decide (c.name = nm))) G L) : CallT Tryz.prog 244 #[vT cellT c, .pointer (some ⟨b, 0, none⟩)] G L R := by
 refine CallT.enter (args := _) Tryz.func244 rfl rfl (by kernel_rfl) rfl ?_
 refine WP.seq (WP.region ?_)
 refine RG.ot rfl (OT.box (cs := cellT.enc c) rfl rfl rfl fun b2 => ?_)
 refine RG.br rfl rfl rfl (RG.nil (WP.seq (WP.region (RG.pv rfl (PV.field rfl Fo116_0 rfl) (RG.pv rfl (PV.load1 rfl Sc9 rfl (Rd.blk rfl)) (RG.pv rfl (PV.load1 rfl Sc9 rfl (Rd.up hb)) (RG.pv rfl (PV.eqlS rfl rfl rfl) ?_)))))))
 refine RG.br rfl rfl rfl (RG.nil ?_)
 refine WP.ret ?_
 exact ⟨_, _, ResV.one rfl rfl, Cv.p, k⟩
theorem indexF_cell {v fv : Value} {xs : List (Cell)} {p : (Cell) → Bool} (h1 : Rs G L cellT v xs) (hf : ∀ i, i < xs.length → CB Tryz.prog G L fv [vT cellT (gd xs i)] (.bool (p (gd xs i)))) (k : R (vi (idxI p xs)) G L) : CallT Tryz.prog 243 #[v, fv] G L R := by
 refine CallT.bd h1 fun hb => ?_
 refine CallT.enter (args := _) Tryz.func243 rfl rfl (by kernel_rfl) rfl ?_
 refine WP.seq (WP.region (RG.mr rfl rfl rfl (RG.nil (WP.seq (WP.seq (WP.region (RG.pv rfl (PV.move (v := v) rfl rfl) ?_)))))))
 refine RG.pv rfl (PV.len (v := v) rfl Tryz.underlying29 rfl (SlF.r h1)) (RG.ml rfl rfl rfl (RG.nil (WP.block ?_)))
 refine WP.loop1 [0, 1, 7] (fun i => i ≤ xs.length ∧ ∀ j, j < i → p (gd xs j) = false) (fun i => [(8, vi i)]) (fun i => L) (fun i => xs.length - i) 0 ⟨by omega, fun j h => by omega⟩ ⟨rfl, trivial⟩ Cv.p ?_
 rintro i τ ⟨hi, hj⟩
 refine WP.seq (WP.region (RG.pv rfl (PV.lss rfl rfl rfl) (RG.nil (WP.seq ?_))))
 refine WP.cond rfl (fun h2 => ?_) (fun h2 => ?_)
 · have h2 := of_decide_eq_true h2
   refine WP.skip (WP.seq (WP.block (WP.seq (WP.region (RG.ml rfl rfl rfl (RG.mr rfl rfl rfl (RG.nil ?_)))))))
   refine WP.seq (WP.region (RG.pv rfl (PV.move (v := fv) rfl rfl) (RG.pv rfl (PV.move (v := v) rfl rfl) (RG.ml rfl rfl rfl (RG.pv rfl (PV.idxS (v := v) rfl Is29 rfl (SlF.r h1) rfl rfl (by omega)) (RG.pv rfl (PV.loadE rfl Ag116 rfl rfl (El.r h1 (getG (by omega)))) ?_))))))
   refine RG.callB (vs := [_]) rfl rfl rfl rfl (CB.up (hf i (by omega))) ?_
   refine RG.nil ?_
   refine WP.cond rfl (fun h3 => ?_) (fun h3 => ?_)
   · rw [idxI_at (by omega) h3 hj] at k
     refine WP.seq (WP.region (RG.ml rfl rfl rfl (RG.mr rfl rfl rfl (RG.nil ?_))))
     refine WP.ret ?_
     exact ⟨_, _, ResV.one rfl rfl, Cv.p, k⟩
   · have hj' : ∀ j, j < i + 1 → p (gd xs j) = false := fun j h => by
       by_cases c : j = i
       · rw [c]; exact h3
       · exact hj j (by omega)
     refine WP.skip (WP.region (RG.pv rfl (PV.add rfl rfl rfl (by omega)) (RG.ml rfl rfl rfl (RG.nil ?_))))
     exact ⟨rfl, i + 1, ⟨by omega, hj'⟩, ⟨rfl, trivial⟩, ⟨rfl, rfl, rfl, trivial⟩, Cv.p, by omega⟩
 · have h2 := of_decide_eq_false h2
   rw [idxI_none (fun j h => hj j (by omega))] at k
   refine WP.exit ?_
   refine WP.seq (WP.region (RG.mr rfl rfl rfl (RG.nil ?_)))
   refine WP.ret ?_
   exact ⟨_, _, ResV.one rfl rfl, Cv.p, k⟩
theorem named_i {l : Lib} {nm : ByteArray} (h1 : Rs G L cellT l.cells.v l.cells.xs) (k : R (vi (idxI (fun c : Cell => decide (c.name = nm)) l.cells.xs)) G L) : CallT Tryz.prog 217 #[vT libT l, .string nm] G L R := by
 refine CallT.enter (args := _) Tryz.func217 rfl rfl (by kernel_rfl) rfl ?_
 refine WP.seq (WP.region ?_)
 refine RG.ot rfl (OT.box (cs := libT.enc l) rfl rfl rfl fun b2 => ?_)
 refine RG.ot rfl (OT.box rfl rfl rfl fun b3 => ?_)
 refine RG.mr rfl rfl rfl (RG.nil (WP.seq (WP.region (RG.pv rfl (PV.field rfl Fo31_0 rfl) (RG.pv rfl (PV.load1 rfl Sc29 rfl (Rd.blk rfl)) (RG.pv rfl (PV.mkf1 rfl rfl) ?_))))))
 refine RG.callF (vs := [_, _]) rfl rfl En243 rfl (indexF_cell (Rs.up h1) (p := fun c => decide (c.name = nm)) (fun i hi => CB.mk1 En244 fun L' R c k => named1_s (Rd.cv (Rd.blk rfl) c) k) ?_)
 refine RG.mr rfl rfl rfl (RG.nil ?_)
 refine WP.ret ?_
 exact ⟨_, _, ResV.one rfl rfl, Cv.p, k⟩
theorem named_at {xs : List Cell} {i : Nat} (hi : i < xs.length) : decide (idxI (fun c : Cell => decide (c.name = (gd xs i).name)) xs = (i : Int)) = nameAt (erCls xs) i := by
 have hn : ∀ j, j < xs.length → (gd (erCls xs) j).name = (gd xs j).name := fun j hj => by rw [erCls_gd hj]; rfl
 by_cases h : ∀ j, j < i → (gd xs j).name ≠ (gd xs i).name
 · rw [idxI_at (i := i) hi (by simp) (fun j hj => by simpa using h j hj)]
   have : nameAt (erCls xs) i = true := by
     rw [nameAt, decide_eq_true_iff]
     intro j hj
     rw [hn j (by omega), hn i hi]; exact h j hj
   rw [this]; simp
 · have hx : nameAt (erCls xs) i = false := by
     rw [nameAt, decide_eq_false_iff_not]
     intro hh
     exact h fun j hj => by rw [← hn j (by omega), ← hn i hi]; exact hh j hj
   rw [hx, decide_eq_false_iff_not]
   intro e
   apply h
   intro j hj hq
   have hex : ∃ m, m ≤ j ∧ (gd xs m).name = (gd xs i).name ∧ ∀ l, l < m → (gd xs l).name ≠ (gd xs i).name := by
     induction j using Nat.strongRecOn with
     | ind j ih =>
       by_cases c : ∃ l, l < j ∧ (gd xs l).name = (gd xs i).name
       · obtain ⟨l, hl, hq2⟩ := c
         obtain ⟨m, a1, a2, a3⟩ := ih l hl (by omega) hq2
         exact ⟨m, by omega, a2, a3⟩
       · exact ⟨j, Nat.le_refl _, hq, fun l hl hh => c ⟨l, hl, hh⟩⟩
   obtain ⟨m, a1, a2, a3⟩ := hex
   rw [idxI_at (i := m) (by omega) (by simpa using a2) (fun l hl => by simpa using a3 l hl)] at e
   omega
theorem okLib_i {l : Lib} (hL : RLib G L l.cells.v l.cells.xs) (hlen : lenC (erCls l.cells.xs)) (k : R (.bool (okLib (erCls l.cells.xs))) G L) : CallT Tryz.prog 185 #[vT libT l] G L R := by
 have hE := erCls_len l.cells.xs
 refine CallT.bd hL.c fun hb => ?_
 refine CallT.enter (args := _) Tryz.func185 rfl rfl (by kernel_rfl) rfl ?_
 refine WP.seq (WP.region ?_)
 refine RG.ot rfl (OT.box (cs := libT.enc l) rfl rfl rfl fun b1 => ?_)
 refine RG.br rfl rfl rfl (RG.nil (WP.seq (WP.seq (WP.region (RG.pv rfl (PV.field rfl Fo31_0 rfl) (RG.pv rfl (PV.load1 rfl Sc29 rfl (Rd.blk rfl)) (RG.pv rfl (PV.len rfl Tryz.underlying29 rfl (SlF.r hL.c)) ?_)))))))
 refine RG.pv rfl (PV.lss rfl rfl rfl) (RG.bl rfl rfl rfl ?_)
 refine RG.gs rfl rfl rfl (fun hp => (PV.field rfl Fo31_0 rfl)) ?_
 refine RG.gs rfl rfl rfl (fun hp => (PV.load1 rfl Sc29 (gs_t hp) (Rd.blk rfl))) ?_
 refine RG.gs rfl rfl rfl (fun hp => (PV.len rfl Tryz.underlying29 (gs_t hp) (SlF.r hL.c))) ?_
 refine RG.gs rfl rfl rfl (fun hp => (PV.gtr rfl (gs_t hp) rfl)) ?_
 refine RG.pv rfl (PV.pickO rfl rfl rfl (fun hq => gs_t (geqF hq))) (RG.nil ?_)
 refine WP.cond rfl (fun h0 => ?_) (fun h0 => ?_)
 · have e : okLib (erCls l.cells.xs) = false := by
     simp at h0
     simp [okLib, hE]; omega
   rw [e] at k
   refine WP.seq (WP.region (RG.br rfl rfl rfl (RG.nil ?_)))
   refine WP.ret ?_
   exact ⟨_, _, ResV.one rfl rfl, Cv.p, k⟩
 · simp at h0
   refine WP.skip (WP.seq (WP.seq (WP.region (RG.pv rfl (PV.field rfl Fo31_0 rfl) (RG.pv rfl (PV.load1 rfl Sc29 rfl (Rd.blk rfl)) (RG.pv rfl (PV.len rfl Tryz.underlying29 rfl (SlF.r hL.c)) (RG.ml rfl rfl rfl ?_)))))))
   refine RG.nil (WP.block ?_)
   refine WP.loop1 [1, 16, 17] (fun i => i ≤ l.cells.xs.length ∧ ∀ j, j < i → cellAt (erCls l.cells.xs) j = true) (fun i => [(18, vi i)]) (fun i => blk b1 31 (libT.enc l) :: L) (fun i => l.cells.xs.length - i) 0 ⟨by omega, fun j h => by omega⟩ ⟨rfl, trivial⟩ Cv.p ?_
   rintro i τ ⟨hi, hj⟩
   refine WP.seq (WP.region (RG.pv rfl (PV.lss rfl rfl rfl) (RG.nil (WP.seq ?_))))
   refine WP.cond rfl (fun h2 => ?_) (fun h2 => ?_)
   · have h2 := of_decide_eq_true h2
     have h3 : i < l.cells.xs.length := by omega
     refine WP.skip (WP.seq (WP.block (WP.seq (WP.region (RG.ml rfl rfl rfl (RG.pv rfl (PV.idxS rfl Is29 rfl (SlF.r hL.c) rfl rfl (by omega)) (RG.pv rfl (PV.loadE rfl Ag116 rfl rfl (El.r hL.c (getG (by omega)))) ?_)))))))
     refine RG.ot rfl (OT.alloc rfl Zr116 fun b4 => ?_)
     refine RG.mr rfl rfl rfl ?_
     refine RG.ot rfl (OT.storeW (vs := [.string _, _, _, _]) rfl Sz116 rfl rfl (Cl.c rfl) rfl rfl (hL.one h3) ?_)
     refine RG.nil (WP.seq (WP.region (RG.pv rfl (PV.loadW rfl Ag116 rfl rfl) (RG.ml rfl rfl rfl ?_))))
     refine RG.callF (vs := [_, _]) rfl rfl En216 rfl (okCell_i (by omega) (hL.sa (by omega)).up (hL.la (by omega)).up (hL.na (by omega)).up (hlen.one (by omega)).1 (hlen.one (by omega)).2 ?_)
     refine RG.pv rfl (PV.not rfl rfl) (RG.bl rfl rfl rfl ?_)
     refine RG.gs rfl rfl rfl (fun hp => (PV.loadW rfl Ag31 rfl rfl)) ?_
     refine RG.gs rfl rfl rfl (fun hp => (PV.field rfl Fo116_0 rfl)) ?_
     refine RG.gs rfl rfl rfl (fun hp => (PV.load1 rfl Sc9 (gs_t hp) (Rd.blk rfl))) ?_
     refine RG.gsC rfl rfl rfl rfl En217 (fun hp => ⟨_, (acons (gs_t hp) (acons (gs_t hp) anil)), named_i hL.c.up ⟨rfl, rfl, rfl⟩⟩) ?_
     refine RG.gs rfl rfl rfl (fun hp => (PV.mvI (.inl rfl) rfl)) ?_
     refine RG.gs rfl rfl rfl (fun hp => (PV.neq rfl (gs_t hp) (gs_t hp))) ?_
     refine RG.pv rfl (PV.pickO rfl rfl rfl (fun hq => gs_t (geqF hq))) (RG.nil ?_)
     refine WP.cond rfl (fun h4 => ?_) (fun h4 => ?_)
     · have e : cellAt (erCls l.cells.xs) i = false := by
         simp [cellAt, erCls_gd h3, ← named_at h3] at h4 ⊢
         grind
       rw [okLib_false (by omega) e] at k
       refine WP.seq (WP.region (RG.br rfl rfl rfl (RG.nil ?_)))
       refine WP.ret ?_
       exact ⟨_, _, ResV.one rfl rfl, Cv.p, k⟩
     · have e : cellAt (erCls l.cells.xs) i = true := by
         simp [cellAt, erCls_gd h3, ← named_at h3] at h4 ⊢
         grind
       have hj' : ∀ j, j < i + 1 → cellAt (erCls l.cells.xs) j = true := fun j h => by
         by_cases c : j = i
         · rw [c]; exact e
         · exact hj j (by omega)
       refine WP.skip (WP.region (RG.pv rfl (PV.add rfl rfl rfl (by omega)) (RG.ml rfl rfl rfl (RG.nil ?_))))
       exact ⟨rfl, i + 1, ⟨by omega, hj'⟩, ⟨rfl, trivial⟩, ⟨rfl, rfl, rfl, trivial⟩, Cv.p, by omega⟩
   · have h2 := of_decide_eq_false h2
     rw [okLib_all (by omega) (by omega) (fun j h => hj j (by omega))] at k
     refine WP.exit ?_
     refine WP.seq (WP.region (RG.br rfl rfl rfl (RG.nil ?_)))
     refine WP.ret ?_
     exact ⟨_, _, ResV.one rfl rfl, Cv.p, k⟩
def celE (cs : List ECell) (cell : Int) : Int := bif !okLib cs then 1 else bif !within cell 0 ((cs.length : Int) - 1) then 5 else 0
theorem celE_i {l : Lib} {cell : Int} (hL : RLib G L l.cells.v l.cells.xs) (hlen : lenC (erCls l.cells.xs)) (k : R (vi (celE (erCls l.cells.xs) cell)) G L) : CallT Tryz.prog 131 #[vT libT l, vi cell] G L R := by
 have hE := erCls_len l.cells.xs
 refine CallT.bd hL.c fun hb => ?_
 rw [celE, hE] at k
 refine CallT.enter (args := _) Tryz.func131 rfl rfl (by kernel_rfl) rfl ?_
 refine WP.seq (WP.region ?_)
 refine RG.ot rfl (OT.box (cs := libT.enc l) rfl rfl rfl fun b2 => ?_)
 refine RG.mr rfl rfl rfl (RG.nil (WP.seq (WP.block (WP.seq (WP.region (RG.pv rfl (PV.loadW rfl Ag31 rfl rfl) ?_))))))
 refine RG.callF (vs := [_]) rfl rfl En185 rfl (okLib_i hL.up hlen ?_)
 refine RG.pv rfl (PV.not rfl rfl) (RG.br rfl rfl rfl (RG.nil ?_))
 refine WP.cond rfl (fun h1 => ?_) (fun h1 => ?_)
 · rw [h1, cond_true] at k
   refine WP.seq (WP.region (RG.mr rfl rfl rfl (RG.nil ?_)))
   refine WP.ret ?_
   exact ⟨_, _, ResV.one rfl rfl, Cv.p, k⟩
 · rw [h1, cond_false] at k
   refine WP.seq (WP.region (RG.ml rfl rfl rfl (RG.pv rfl (PV.field rfl Fo31_0 rfl) (RG.pv rfl (PV.load1 rfl Sc29 rfl (Rd.blk rfl)) (RG.pv rfl (PV.len rfl Tryz.underlying29 rfl (SlF.r hL.c)) (RG.pv rfl (PV.sub rfl rfl rfl (by omega)) ?_))))))
   refine RG.callF (vs := [_, _, _]) rfl rfl En43 rfl (within_s ?_)
   refine RG.pv rfl (PV.not rfl rfl) (RG.br rfl rfl rfl (RG.nil ?_))
   refine WP.cond rfl (fun h2 => ?_) (fun h2 => ?_)
   · rw [h2, cond_true] at k
     refine WP.seq (WP.region (RG.mr rfl rfl rfl (RG.nil ?_)))
     refine WP.ret ?_
     exact ⟨_, _, ResV.one rfl rfl, Cv.p, k⟩
   · rw [h2, cond_false] at k
     refine WP.skip (WP.seq (WP.region (RG.mr rfl rfl rfl (RG.nil ?_))))
     refine WP.ret ?_
     exact ⟨_, _, ResV.one rfl rfl, Cv.p, k⟩
theorem part0 {α : Type} [Inhabited α] {xs : List α} {i n : Nat} (h : i < n) (h' : i < xs.length) : ((xs.take n).drop 0)[i]? = some (gd xs i) := by
 rw [List.drop_zero, List.getElem?_take, if_pos h, getG h']
theorem erCl_insts {xs : List Cell} {i : Nat} (h : i < xs.length) : (gd (erCls xs) i).insts = (gd xs i).insts.xs := by rw [erCls_gd h]; rfl
/-- one step of a count -/
theorem cnt_step {cs : List ECell} (hok : okLib cs = true) {i m : Nat} (hi : i < cs.length) (hm : m < (gd cs i).insts.length) :
   (0 ≤ (gd (gd cs i).insts m).cell ∧ (gd (gd cs i).insts m).cell < i) ∧ (0 ≤ (gd (gd cs i).insts m).cols * (gd (gd cs i).insts m).rows ∧ (gd (gd cs i).insts m).cols * (gd (gd cs i).insts m).rows ≤ 16) ∧
   (0 ≤ (gd (gd cs i).insts m).cols * (gd (gd cs i).insts m).rows * gd (cnts cs i) (gd (gd cs i).insts m).cell.toNat ∧ (gd (gd cs i).insts m).cols * (gd (gd cs i).insts m).rows * gd (cnts cs i) (gd (gd cs i).insts m).cell.toNat ≤ 9511476839856144) ∧
   (1 ≤ 1 + costL (cntI (cnts cs i)) ((gd cs i).insts.take m) ∧ 1 + costL (cntI (cnts cs i)) ((gd cs i).insts.take m) ≤ 76091814718849153) ∧
   1 + costL (cntI (cnts cs i)) ((gd cs i).insts.take (m + 1)) = 1 + costL (cntI (cnts cs i)) ((gd cs i).insts.take m) + (gd (gd cs i).insts m).cols * (gd (gd cs i).insts m).rows * gd (cnts cs i) (gd (gd cs i).insts m).cell.toNat := by
 have ho := okLib_inst hok hi hm
 obtain ⟨h1, _, h3, h4, _, _⟩ := okIn_bd ho
 have e1 := mul_bd (a := (gd (gd cs i).insts m).cols) (b := (gd (gd cs i).insts m).rows) (A := 4) (B := 4) (by omega) (by omega) (by omega)
 have e0 : 0 ≤ (gd (gd cs i).insts m).cols * (gd (gd cs i).insts m).rows := Int.mul_nonneg (by omega) (by omega)
 have hb := cnts_big hok hi
 have e2 := cntI_bd (ks := cnts cs i) (M := 594467302491009) ho (hb _ (by omega))
 have e3 := ownCnt_bd hok (M := 594467302491009) (by omega) hi hb m (by omega)
 simp only [cntI] at e2
 refine ⟨by omega, by omega, by omega, by omega, ?_⟩
 rw [costL_take _ hm, ← Int.add_assoc]; rfl
theorem elCnt_i {l : Lib} {cell : Int} (hL : RLib G L l.cells.v l.cells.xs) (hok : okLib (erCls l.cells.xs) = true) (hc : 0 ≤ cell ∧ cell < (erCls l.cells.xs).length) (k : R (vi (cntOf (erCls l.cells.xs) cell.toNat)) G L) : CallT Tryz.prog 132 #[vT libT l, vi cell] G L R := by
 have hE := erCls_len l.cells.xs
 have h8 := okLib_len hok
 refine CallT.enter (args := _) Tryz.func132 rfl rfl (by kernel_rfl) rfl ?_
 refine WP.seq (WP.region ?_)
 refine RG.ot rfl (OT.box (cs := libT.enc l) rfl rfl rfl fun b2 => ?_)
 refine RG.mr rfl rfl rfl (RG.nil (WP.seq (WP.region ?_)))
 refine RG.ot rfl (OT.bslice (F := intT) (els := []) rfl El26 rfl (by decide) rfl (by decide) trivial fun v11 => ?_)
 refine RG.pv rfl (PV.asg (v := v11) rfl rfl) (RG.nil (WP.seq (WP.seq (WP.region (RG.pv rfl (PV.field rfl Fo31_0 rfl) (RG.pv rfl (PV.load1 rfl Sc29 rfl (Rd.blk rfl)) (RG.ml rfl rfl rfl ?_)))))))
 refine RG.pv rfl (PV.add rfl rfl rfl (by omega)) (RG.pv rfl (PV.slc (h := cell.toNat + 1) rfl Is29 rfl (SlF.r hL.c) optAt.n (optAt.s rfl (by omega)) (by omega) (by omega)) (RG.pv rfl (PV.len rfl Tryz.underlying29 rfl (SlF.r (Rs.slv (F := cellT) hL.c (by omega) (by omega)))) (RG.ml rfl rfl rfl (RG.nil (WP.block ?_)))))
 have hpl : (List.drop 0 (List.take (cell.toNat + 1) l.cells.xs)).length = cell.toNat + 1 := by simp; omega
 refine WP.cv (Cv.eqS (xs := []) (ys := cnts (erCls l.cells.xs) 0) rfl) ?_
 refine WP.loop2 [1, 16, 17] (fun (i : Nat) (v : Value) => i ≤ cell.toNat + 1) (fun (i : Nat) (v : Value) => [(18, vi i), (5, v)]) (fun (i : Nat) (v : Value) => osl 2 intT v (cnts (erCls l.cells.xs) i) :: blk b2 31 (libT.enc l) :: L) (fun (i : Nat) (v : Value) => cell.toNat + 1 - i) 0 v11 (by omega) ⟨rfl, rfl, trivial⟩ Cv.p ?_
 rintro i v τ hi
 refine WP.seq (WP.region (RG.pv rfl (PV.lss rfl rfl rfl) (RG.nil (WP.seq ?_))))
 have hcl := cnts_len (erCls l.cells.xs) i
 refine WP.cond rfl (fun h2 => ?_) (fun h2 => ?_)
 · have h2 := of_decide_eq_true h2
   have h3 : i < l.cells.xs.length := by omega
   have hin := erCl_insts h3
   have h8i := (okLib_cnt hok (i := i) (by omega)).1
   rw [hin] at h8i
   refine WP.skip (WP.seq (WP.block (WP.seq (WP.region (RG.pv rfl (PV.idxS rfl Is29 rfl (SlF.r (Rs.slv (F := cellT) hL.c (by omega) (by omega))) rfl rfl (by omega)) (RG.pv rfl (PV.loadE rfl Ag116 rfl rfl (El.r (Rs.slv (F := cellT) hL.c (lo := 0) (hi := cell.toNat + 1) (by omega) (by omega)) (part0 (by omega) (by omega)))) ?_))))))
   refine RG.ot rfl (OT.alloc rfl Zr116 fun b7 => ?_)
   refine RG.ot rfl (OT.storeW (vs := [.string _, _, _, _]) rfl Sz116 rfl rfl (Cl.c rfl) rfl rfl (hL.one h3) ?_)
   refine RG.nil (WP.seq (WP.region (RG.mr rfl rfl rfl (RG.nil (WP.seq (WP.seq (WP.region ?_)))))))
   refine RG.pv rfl (PV.field rfl Fo116_3 rfl) (RG.pv rfl (PV.load1 rfl Sc114 rfl (Rd.blk rfl)) (RG.pv rfl (PV.len rfl Tryz.underlying114 rfl (SlF.r (hL.na h3))) (RG.ml rfl rfl rfl (RG.nil (WP.block ?_)))))
   refine WP.loop2 [1, 5, 16, 17, 18, 23, 24] (fun (m : Nat) (own : Int) => m ≤ (gd l.cells.xs i).insts.xs.length ∧ own = 1 + costL (cntI (cnts (erCls l.cells.xs) i)) ((gd (erCls l.cells.xs) i).insts.take m)) (fun (m : Nat) (own : Int) => [(25, vi m), (8, vi own)]) (fun (m : Nat) (own : Int) => osl 2 intT v (cnts (erCls l.cells.xs) i) :: blk b2 31 (libT.enc l) :: L) (fun (m : Nat) (own : Int) => (gd l.cells.xs i).insts.xs.length - m) 0 1 ⟨by omega, by simp [costL]⟩ ⟨rfl, rfl, trivial⟩ Cv.p ?_
   rintro m own τ ⟨hm, he⟩
   refine WP.seq (WP.region (RG.pv rfl (PV.lss rfl rfl rfl) (RG.nil (WP.seq ?_))))
   refine WP.cond rfl (fun h4 => ?_) (fun h4 => ?_)
   · have h4 := of_decide_eq_true h4
     have hst := cnt_step hok (i := i) (m := m) (by omega) (by rw [hin]; omega)
     rw [hin] at hst he
     obtain ⟨q1, q2, q3, q4, q5⟩ := hst
     refine WP.skip (WP.seq (WP.block (WP.seq (WP.region (RG.pv rfl (PV.idxS rfl Is114 rfl (SlF.r (hL.na h3)) rfl rfl (by omega)) (RG.pv rfl (PV.loadE rfl Ag195 rfl rfl (El.r (hL.na h3) (getG (by omega)))) ?_))))))
     refine RG.ot rfl (OT.alloc rfl Zr195 fun b10 => ?_)
     refine RG.ot rfl (OT.storeW (vs := [vi _, vi _, vi _, vi _, vi _, vi _, vi _, vi _]) rfl Sz195 rfl rfl (Cl.c rfl) rfl rfl (OneC.c rfl) ?_)
     refine RG.nil ?_
     refine WP.regionQ (by kernel_rfl) (by kernel_rfl) ?_
     refine RQ.pv rfl (PV.mvI (.inl rfl) rfl) ?_
     refine RQ.pv rfl (PV.field rfl Fo195_2 rfl) ?_
     refine RQ.pv rfl (PV.load1 rfl Sc2 rfl (Rd.blk rfl)) ?_
     refine RQ.pv rfl (PV.field rfl Fo195_3 rfl) ?_
     refine RQ.pv rfl (PV.load1 rfl Sc2 rfl (Rd.blk rfl)) ?_
     refine RQ.pv rfl (PV.mul rfl rfl rfl (by omega)) ?_
     refine RQ.pv rfl (PV.move (v := v) rfl rfl) ?_
     refine RQ.pv rfl (PV.field rfl Fo195_0 rfl) ?_
     refine RQ.pv rfl (PV.load1 rfl Sc2 rfl (Rd.blk rfl)) ?_
     refine RQ.pv rfl (PV.idxS (j := (gd (gd l.cells.xs i).insts.xs m).cell.toNat) (v := v) rfl Is26 rfl SlF.o rfl (by omega) (by omega)) ?_
     refine RQ.pv rfl (PV.loadE1 rfl Sc2 rfl rfl (El.o (getG (by omega))) rfl) ?_
     refine RQ.pv rfl (PV.mul rfl rfl rfl (by omega)) ?_
     refine RQ.pv rfl (PV.add rfl rfl rfl (by omega)) ?_
     refine RQ.pv rfl (PV.mvI (.inr rfl) rfl) ?_
     refine RQ.nil ?_
     refine WP.region (RG.pv rfl (PV.add rfl rfl rfl (by omega)) (RG.ml rfl rfl rfl (RG.nil ?_)))
     exact ⟨rfl, m + 1, _, ⟨by omega, by rw [hin, q5, he]⟩, ⟨rfl, rfl, trivial⟩, ⟨rfl, rfl, rfl, rfl, rfl, rfl, rfl, trivial⟩, Cv.p, by omega⟩
   · have h4 := of_decide_eq_false h4
     have e : own = ownCnt (cnts (erCls l.cells.xs) i) (gd (erCls l.cells.xs) i).insts := by rw [he, List.take_of_length_le (by rw [hin]; omega)]; rfl
     refine WP.exit ?_
     refine WP.region (RG.pv rfl (PV.move (v := v) rfl rfl) (RG.ml rfl rfl rfl ?_))
     refine RG.ot rfl (OT.bslice (F := intT) (els := [_]) rfl El26 rfl (by decide) rfl (by decide) ⟨rfl, (Cl.c rfl), trivial⟩ fun v45 => ?_)
     refine RG.ot rfl (OT.append (v := v) (u := v45) (F := intT) rfl El26 rfl (by decide) rfl rfl Rs.o (OneL.c (fun _ => rfl)) rfl (by first | omega | (simp <;> omega)) fun v46 => ?_)
     refine RG.pv rfl (PV.asg (v := v46) rfl rfl) (RG.nil (WP.region (RG.pv rfl (PV.add rfl rfl rfl (by omega)) (RG.ml rfl rfl rfl (RG.nil ?_)))))
     exact ⟨rfl, i + 1, _, (by omega), ⟨rfl, rfl, trivial⟩, ⟨rfl, rfl, rfl, trivial⟩, ((Cv.p (C := osl 2 intT v46 (cnts (erCls l.cells.xs) i ++ [own]) :: blk b2 31 (libT.enc l) :: L)).trans (Cv.eqS (by rw [e]; rfl))), by omega⟩
 · have h2 := of_decide_eq_false h2
   have e : gd (cnts (erCls l.cells.xs) i) cell.toNat = cntOf (erCls l.cells.xs) cell.toNat := cnts_gd _ (by omega)
   rw [← e] at k
   refine WP.exit ?_
   refine WP.seq (WP.region (RG.pv rfl (PV.move (v := v) rfl rfl) (RG.ml rfl rfl rfl (RG.pv rfl (PV.idxS (j := cell.toNat) (v := v) rfl Is26 rfl SlF.o rfl (by omega) (by omega)) (RG.pv rfl (PV.loadE1 rfl Sc2 rfl rfl (El.o (getG (by omega))) rfl) (RG.mr rfl rfl rfl (RG.nil ?_)))))))
   refine WP.ret ?_
   exact ⟨_, _, ResV.one rfl rfl, Cv.p, k⟩
end Go.Proofs.YthhjapiggekjbaaGreat
namespace Go.Proofs.YthhjapiggekjbaaGreat
set_option linter.unusedVariables false
set_option linter.unusedSimpArgs false
open Go
set_option maxRecDepth 20000
set_option linter.unusedSimpArgs false
variable {G : Gh} {L : List Ch} {R : Value → Gh → List Ch → Prop}
/-- a transform that may have left its range -/
def TBig (t : Trans) : Prop := (0 ≤ t.o ∧ t.o ≤ 7) ∧ -100000 ≤ t.x ∧ t.x ≤ 100000 ∧ -100000 ≤ t.y ∧ t.y ≤ 100000
theorem moveBig_i {t : Trans} {p : Pt} (ht : TBig t) (hp : InB 1000 p) (k : R (vpt (moveP t p)) G L) : CallT Tryz.prog 135 #[vtrans t, vpt p] G L R := by
 obtain ⟨hq1, hq2, hq3, hq4⟩ : InB 1000 (turnP t.o p) := turnP_in hp
 obtain ⟨_, ht1, ht2, ht3, ht4⟩ := id ht
 refine CallT.enter (args := _) Tryz.func135 rfl rfl (by kernel_rfl) rfl ?_
 refine WP.seq (WP.region ?_)
 refine RG.ot rfl (OT.box (cs := transT.enc t) rfl rfl rfl fun b2 => ?_)
 refine RG.ot rfl (OT.box (cs := ptT.enc p) rfl rfl rfl fun b3 => ?_)
 refine RG.ot rfl (OT.alloc rfl Zr183 fun b4 => ?_)
 refine RG.nil (WP.seq (WP.region (RG.pv rfl (PV.field rfl Fo136_0 rfl) (RG.pv rfl (PV.load1 rfl Sc2 rfl (Rd.blk rfl)) (RG.pv rfl (PV.loadW rfl Ag183 rfl rfl) ?_)))))
 refine RG.callF (vs := [_, _]) rfl rfl En189 rfl (turn_s ht.1 hp ?_)
 refine RG.ot rfl (OT.storeW (vs := [vi _, vi _]) rfl Sz183 rfl rfl (Cl.c rfl) rfl rfl (OneC.c rfl) ?_)
 refine RG.nil (WP.seq (WP.region (RG.pv rfl (PV.field rfl Fo183_0 rfl) (RG.pv rfl (PV.load1 rfl Sc2 rfl (Rd.blk rfl)) (RG.pv rfl (PV.field rfl Fo136_1 rfl) (RG.pv rfl (PV.load1 rfl Sc2 rfl (Rd.blk rfl)) (RG.pv rfl (PV.add rfl rfl rfl (by omega)) ?_)))))))
 refine RG.pv rfl (PV.field rfl Fo183_1 rfl) (RG.pv rfl (PV.load1 rfl Sc2 rfl (Rd.blk rfl)) (RG.pv rfl (PV.field rfl Fo136_2 rfl) (RG.pv rfl (PV.load1 rfl Sc2 rfl (Rd.blk rfl)) (RG.pv rfl (PV.add rfl rfl rfl (by omega)) (RG.pv rfl (PV.build (vs := [(0, [vi _]), (1, [vi _])]) (out := [_, _]) rfl Zr183 Pl183 ⟨rfl, (Cl.c rfl), ⟨rfl, (Cl.c rfl), trivial⟩⟩ rfl) ?_)))))
 refine RG.ot rfl (OT.storeW (vs := [vi _, vi _]) rfl Sz183 rfl rfl (Cl.c rfl) rfl rfl (OneC.c rfl) ?_)
 refine RG.nil ?_
 refine WP.ret ?_
 exact ⟨_, _, ResV.one rfl (RV1.cell rfl Ag183 rfl), Cv.p, k⟩
theorem composed_i {a b : Int} (ha : 0 ≤ a ∧ a ≤ 7) (hb : 0 ≤ b ∧ b ≤ 7) (k : R (vi (cmpo a b)) G L) : CallT Tryz.prog 219 #[vi a, vi b] G L R := by
 refine CallT.enter (args := _) Tryz.func219 rfl rfl (by kernel_rfl) rfl ?_
 refine WP.seq (WP.region (RG.mr rfl rfl rfl (RG.nil (WP.seq (WP.region (RG.ml rfl rfl rfl (RG.pv rfl (PV.rem rfl rfl rfl (by omega) (by omega) (by omega)) ?_)))))))
 refine RG.ml rfl rfl rfl (RG.pv rfl (PV.rem rfl rfl rfl (by omega) (by omega) (by omega)) (RG.pv rfl (PV.add rfl rfl rfl (by omega)) (RG.mr rfl rfl rfl (RG.nil ?_))))
 refine WP.cut1 [0, 1] (fun (q : Int) => q = (if 4 ≤ b then b % 4 + 4 - a % 4 else b % 4 + a % 4)) (fun (q : Int) => [(5, vi q)]) (fun (q : Int) => L) ?_ ?_
 refine WP.seq (WP.region (RG.ml rfl rfl rfl (RG.pv rfl (PV.geq rfl rfl rfl) (RG.nil ?_))))
 refine WP.cond rfl (fun h1 => ?_) (fun h1 => ?_)
 · have h1 := of_decide_eq_true h1
   refine WP.region (RG.ml rfl rfl rfl (RG.pv rfl (PV.rem rfl rfl rfl (by omega) (by omega) (by omega)) (RG.pv rfl (PV.add rfl rfl rfl (by omega)) (RG.ml rfl rfl rfl (RG.pv rfl (PV.rem rfl rfl rfl (by omega) (by omega) (by omega)) (RG.pv rfl (PV.sub rfl rfl rfl (by omega)) (RG.mr rfl rfl rfl ?_)))))))
   refine RG.nil ?_
   exact ⟨rfl, (b % 4 + 4 - a % 4), (by rw [if_pos (by omega)]), ⟨rfl, trivial⟩, ⟨rfl, rfl, trivial⟩, Cv.p⟩
 · have h1 := of_decide_eq_false h1
   refine WP.skip ?_
   exact ⟨rfl, (b % 4 + a % 4), (by rw [if_neg (by omega)]), ⟨rfl, trivial⟩, ⟨rfl, rfl, trivial⟩, Cv.p⟩
 rintro q τ1 hq
 have hqb : 0 ≤ q ∧ q ≤ 20 := by rw [hq]; split <;> omega
 refine WP.seq (WP.region (RG.ml rfl rfl rfl (RG.pv rfl (PV.rem rfl rfl rfl (by omega) (by omega) (by omega)) (RG.mr rfl rfl rfl (RG.nil ?_)))))
 refine WP.cut1 [] (fun (z : Int) => z = cmpo a b) (fun (z : Int) => [(6, vi z)]) (fun (z : Int) => L) ?_ ?_
 refine WP.seq (WP.region (RG.ml rfl rfl rfl (RG.pv rfl (PV.geq rfl rfl rfl) (RG.ml rfl rfl rfl (RG.pv rfl (PV.geq rfl rfl rfl) (RG.pv rfl (PV.neqB rfl Tryz.underlying4 rfl rfl) (RG.nil ?_)))))))
 refine WP.cond rfl (fun h2 => ?_) (fun h2 => ?_)
 · refine WP.region ?_
   refine RG.ml rfl rfl rfl (RG.pv rfl (PV.add rfl rfl rfl (by omega)) (RG.mr rfl rfl rfl (RG.nil ?_)))
   exact ⟨rfl, (q % 4 + 4), (by rw [cmpo, ← hq, if_neg]; intro e; simp [e] at h2), ⟨rfl, trivial⟩, trivial, Cv.p⟩
 · refine WP.skip ?_
   exact ⟨rfl, (q % 4), (by rw [cmpo, ← hq, if_pos]; omega; simpa using h2), ⟨rfl, trivial⟩, trivial, Cv.p⟩
 rintro z τ2 hz
 refine WP.seq (WP.region (RG.ml rfl rfl rfl (RG.mr rfl rfl rfl (RG.nil ?_))))
 refine WP.ret ?_
 rw [← hz] at k
 exact ⟨_, _, ResV.one rfl rfl, Cv.p, k⟩
theorem pt_in {t : Trans} {b : Int} (h : (-b ≤ t.x ∧ t.x ≤ b) ∧ -b ≤ t.y ∧ t.y ≤ b) : InB b ⟨t.x, t.y⟩ := ⟨h.1.1, h.1.2, h.2.1, h.2.2⟩
theorem compose_i {t u : Trans} (ho : 0 ≤ t.o ∧ t.o ≤ 7) (ht : (-1000 ≤ t.x ∧ t.x ≤ 1000) ∧ -1000 ≤ t.y ∧ t.y ≤ 1000) (hu : TBig u) (k : R (vtrans (cmpT t u)) G L) : CallT Tryz.prog 188 #[vtrans t, vtrans u] G L R := by
 refine CallT.enter (args := _) Tryz.func188 rfl rfl (by kernel_rfl) rfl ?_
 refine WP.seq (WP.region ?_)
 refine RG.ot rfl (OT.box (cs := transT.enc t) rfl rfl rfl fun b2 => ?_)
 refine RG.ot rfl (OT.box (cs := transT.enc u) rfl rfl rfl fun b3 => ?_)
 refine RG.ot rfl (OT.alloc rfl Zr136 fun b4 => ?_)
 refine RG.nil (WP.seq (WP.region (RG.pv rfl (PV.loadW rfl Ag136 rfl rfl) (RG.pv rfl (PV.field rfl Fo136_1 rfl) (RG.pv rfl (PV.load1 rfl Sc2 rfl (Rd.blk rfl)) (RG.pv rfl (PV.field rfl Fo136_2 rfl) (RG.pv rfl (PV.load1 rfl Sc2 rfl (Rd.blk rfl)) ?_)))))))
 refine RG.pv rfl (PV.build (vs := [(0, [vi _]), (1, [vi _])]) (out := [_, _]) rfl Zr183 Pl183 ⟨rfl, (Cl.c rfl), ⟨rfl, (Cl.c rfl), trivial⟩⟩ rfl) ?_
 refine RG.callF (vs := [_, _]) rfl rfl En135 rfl (moveBig_i (p := ⟨_, _⟩) hu (pt_in ht) ?_)
 refine RG.ot rfl (OT.alloc rfl Zr183 fun b5 => ?_)
 refine RG.ot rfl (OT.storeW (vs := [vi _, vi _]) rfl Sz183 rfl rfl (Cl.c rfl) rfl rfl (OneC.c rfl) ?_)
 refine RG.nil (WP.seq ?_)
 refine WP.regionHD [.b b4] (.q 0 (.q 1 (.q 2 (.q 3 (.q 5 (.q 6 (.q 7 (.q 8 (.l 4 (.q 9 (.l 10 Sch.nil))))))))))) (by kernel_rfl) (by kernel_rfl) (by kernel_rfl) rfl ?_
 refine RH.pv rfl (fun _ _ _ _ h => h) (Gh.le_refl _) PickC.pick rfl (PV.field rfl Fo136_0 rfl) ?_
 refine RH.pv rfl (fun _ _ _ _ h => h) (Gh.le_refl _) PickC.pick rfl (PV.load1 rfl Sc2 rfl (Rd.blk rfl)) ?_
 refine RH.pv rfl (fun _ _ _ _ h => h) (Gh.le_refl _) PickC.pick rfl (PV.field rfl Fo136_0 rfl) ?_
 refine RH.pv rfl (fun _ _ _ _ h => h) (Gh.le_refl _) PickC.pick rfl (PV.load1 rfl Sc2 rfl (Rd.blk rfl)) ?_
 refine RH.pv rfl (fun _ _ _ _ h => h) (Gh.le_refl _) PickC.pick rfl (PV.field rfl Fo183_0 rfl) ?_
 refine RH.pv rfl (fun _ _ _ _ h => h) (Gh.le_refl _) PickC.pick rfl (PV.load1 rfl Sc2 rfl (Rd.blk rfl)) ?_
 refine RH.pv rfl (fun _ _ _ _ h => h) (Gh.le_refl _) PickC.pick rfl (PV.field rfl Fo183_1 rfl) ?_
 refine RH.pv rfl (fun _ _ _ _ h => h) (Gh.le_refl _) PickC.pick rfl (PV.load1 rfl Sc2 rfl (Rd.blk rfl)) ?_
 refine RH.ot rfl rfl (OT.callF (vs := [_, _]) rfl En219 rfl (composed_i ho hu.1 ⟨Gh.le_refl _, PickC.pick, ?_⟩))
 refine RH.pv rfl (fun _ _ _ _ h => h) (Gh.le_refl _) PickC.pick rfl (PV.build (vs := [(0, [vi _]), (1, [vi _]), (2, [vi _])]) (out := [_, _, _]) rfl Zr136 Pl136 ⟨rfl, (Cl.c rfl), ⟨rfl, (Cl.c rfl), ⟨rfl, (Cl.c rfl), trivial⟩⟩⟩ rfl) ?_
 refine RH.ot rfl rfl (OT.storeW (vs := [vi _, vi _, vi _]) rfl Sz136 rfl rfl (Cl.c rfl) rfl rfl (OneC.c rfl) ⟨Gh.le_refl _, PickC.pick, ?_⟩)
 refine RH.nil ?_
 refine WP.ret ?_
 exact ⟨_, _, ResV.one rfl (RV1.cell rfl Ag136 rfl), Cv.p, k⟩
theorem elPlace_i {n : Inst} {kk : Int} {c r : Nat} (hk : okIn kk n = true) (hc : c < n.cols.toNat) (hr : r < n.rows.toNat) (k : R (vtrans (elPlace n c r)) G L) : CallT Tryz.prog 218 #[vT instT n, vi c, vi r] G L R := by
 obtain ⟨_, h2, h3, h4, h5, h6⟩ := okIn_bd hk
 obtain ⟨q1, q2, q3⟩ := validT_iff.1 h2
 have e1 := mul_bd (a := (c : Int)) (b := n.sx) (A := 3) (B := 80) (by omega) h5 (by omega)
 have e2 := mul_bd (a := (r : Int)) (b := n.sy) (A := 3) (B := 80) (by omega) h6 (by omega)
 refine CallT.enter (args := _) Tryz.func218 rfl rfl (by kernel_rfl) rfl ?_
 refine WP.seq (WP.region ?_)
 refine RG.ot rfl (OT.box (cs := instT.enc n) rfl rfl rfl fun b3 => ?_)
 refine RG.ot rfl (OT.alloc rfl Zr136 fun b6 => ?_)
 refine RG.nil (WP.seq (WP.region (RG.pv rfl (PV.field rfl Fo195_1 rfl) (RG.pv rfl (PV.field rfl Fo136_0 rfl) (RG.pv rfl (PV.load1 rfl Sc2 rfl (Rd.blk rfl)) (RG.pv rfl (PV.field rfl Fo195_1 rfl) (RG.pv rfl (PV.field rfl Fo136_1 rfl) ?_)))))))
 refine RG.pv rfl (PV.load1 rfl Sc2 rfl (Rd.blk rfl)) (RG.ml rfl rfl rfl (RG.pv rfl (PV.field rfl Fo195_4 rfl) (RG.pv rfl (PV.load1 rfl Sc2 rfl (Rd.blk rfl)) (RG.pv rfl (PV.mul rfl rfl rfl (by omega)) (RG.pv rfl (PV.add rfl rfl rfl (by omega)) (RG.pv rfl (PV.field rfl Fo195_1 rfl) (RG.pv rfl (PV.field rfl Fo136_2 rfl) ?_)))))))
 refine RG.pv rfl (PV.load1 rfl Sc2 rfl (Rd.blk rfl)) (RG.ml rfl rfl rfl (RG.pv rfl (PV.field rfl Fo195_5 rfl) (RG.pv rfl (PV.load1 rfl Sc2 rfl (Rd.blk rfl)) (RG.pv rfl (PV.mul rfl rfl rfl (by omega)) (RG.pv rfl (PV.add rfl rfl rfl (by omega)) (RG.pv rfl (PV.build (vs := [(0, [vi _]), (1, [vi _]), (2, [vi _])]) (out := [_, _, _]) rfl Zr136 Pl136 ⟨rfl, (Cl.c rfl), ⟨rfl, (Cl.c rfl), ⟨rfl, (Cl.c rfl), trivial⟩⟩⟩ rfl) ?_))))))
 refine RG.ot rfl (OT.storeW (vs := [vi _, vi _, vi _]) rfl Sz136 rfl rfl (Cl.c rfl) rfl rfl (OneC.c rfl) ?_)
 refine RG.nil ?_
 refine WP.ret ?_
 exact ⟨_, _, ResV.one rfl (RV1.cell rfl Ag136 rfl), Cv.p, k⟩
/-- the instances of a cell, each valid -/
def okNs (ns : List Inst) : Prop := ns.length ≤ 8 ∧ ∃ kk, ∀ j, j < ns.length → okIn kk (gd ns j) = true
theorem okLib_ns {cs : List ECell} (h : okLib cs = true) {i : Nat} (hi : i < cs.length) : okNs (gd cs i).insts := ⟨(okLib_cnt h hi).1, i, fun j hj => okLib_inst h hi hj⟩
theorem elems_bd2 {ns : List Inst} (h : okNs ns) : ∀ i, i ≤ ns.length → (elems (ns.take i)).length ≤ 16 * i
 | 0, _ => by simp [elems]
 | i + 1, hi => by
   obtain ⟨h1, kk, h2⟩ := id h
   have ih := elems_bd2 h i (by omega)
   obtain ⟨_, _, h3, h4, _, _⟩ := okIn_bd (h2 i (by omega))
   have := Nat.mul_le_mul (show (gd ns i).rows.toNat ≤ 4 by omega) (show (gd ns i).cols.toNat ≤ 4 by omega)
   rw [elems_take (by omega), List.length_append, elsOf_len]; omega
/-- the elements before the q-th of the i-th instance -/
def elTo (ns : List Inst) (i q : Nat) : List HElem := elems (ns.take i) ++ (elsOf (gd ns i)).take q
theorem elTo_zero (ns : List Inst) (i : Nat) : elems (ns.take i) = elTo ns i 0 := by simp [elTo]
theorem elTo_step {ns : List Inst} {i r q : Nat} (hq : q < (gd ns i).cols.toNat) (hr : r < (gd ns i).rows.toNat) : elTo ns i (r * (gd ns i).cols.toNat + q) ++ [⟨(gd ns i).cell, elPlace (gd ns i) q r⟩] = elTo ns i (r * (gd ns i).cols.toNat + (q + 1)) := by
 rw [elTo, elTo, elsOf_step hq hr, List.append_assoc]
theorem elTo_all {ns : List Inst} {i q : Nat} (hi : i < ns.length) (h : (gd ns i).rows.toNat * (gd ns i).cols.toNat ≤ q) : elTo ns i q = elems (ns.take (i + 1)) := by
 rw [elTo, elems_take hi, List.take_of_length_le (i := q) (by rw [elsOf_len]; exact h)]
theorem elTo_len {ns : List Inst} (h : okNs ns) {i q : Nat} (hi : i < ns.length) : (elTo ns i q).length ≤ 1000 := by
 have h1 := elems_bd2 h i (by omega)
 obtain ⟨h2, kk, h3⟩ := h
 obtain ⟨_, _, q3, q4, _, _⟩ := okIn_bd (h3 i hi)
 have hm := Nat.mul_le_mul (show (gd ns i).rows.toNat ≤ 4 by omega) (show (gd ns i).cols.toNat ≤ 4 by omega)
 rw [elTo, List.length_append, List.length_take, elsOf_len]; omega
theorem elems_i {c : Cell} (h3 : Rs G L instT c.insts.v c.insts.xs) (hok : okNs c.insts.xs) (k : ∀ v', R v' G (osl 260 helemT v' (elems c.insts.xs) :: L)) : CallT Tryz.prog 186 #[vT cellT c] G L R := by
 obtain ⟨h1, kk, h2⟩ := id hok
 refine CallT.enter (args := _) Tryz.func186 rfl rfl (by kernel_rfl) rfl ?_
 refine WP.seq (WP.region ?_)
 refine RG.ot rfl (OT.box (cs := cellT.enc c) rfl rfl rfl fun b1 => ?_)
 refine RG.pv rfl (PV.asg rfl rfl) (RG.nil (WP.seq (WP.region ?_)))
 refine RG.ot rfl (OT.bslice (F := helemT) (els := []) rfl El257 rfl (by decide) rfl (by decide) trivial fun v8 => ?_)
 refine RG.pv rfl (PV.asg (v := v8) rfl rfl) (RG.nil (WP.seq (WP.seq (WP.region (RG.pv rfl (PV.field rfl Fo116_3 rfl) (RG.pv rfl (PV.load1 rfl Sc114 rfl (Rd.blk rfl)) (RG.pv rfl (PV.len rfl Tryz.underlying114 rfl (SlF.r h3)) ?_)))))))
 refine RG.ml rfl rfl rfl (RG.nil (WP.block ?_))
 refine WP.cv (Cv.eqS (ys := elems (c.insts.xs.take 0)) rfl) ?_
 refine WP.loop2 [10, 11] (fun (i : Nat) (v : Value) => i ≤ c.insts.xs.length) (fun (i : Nat) (v : Value) => [(12, vi i), (3, v)]) (fun (i : Nat) (v : Value) => osl 260 helemT v (elems (c.insts.xs.take i)) :: L) (fun (i : Nat) (v : Value) => c.insts.xs.length - i) 0 v8 (by omega) ⟨rfl, rfl, trivial⟩ Cv.p ?_
 rintro i v τ hi
 refine WP.seq (WP.region (RG.pv rfl (PV.lss rfl rfl rfl) (RG.nil (WP.seq ?_))))
 have hel := elems_bd2 hok i hi
 refine WP.cond rfl (fun h4 => ?_) (fun h4 => ?_)
 · have h4 := of_decide_eq_true h4
   have h5 : i < c.insts.xs.length := by omega
   obtain ⟨_, _, q3, q4, _, _⟩ := okIn_bd (h2 i h5)
   refine WP.skip (WP.seq (WP.block (WP.seq (WP.region (RG.pv rfl (PV.idxS rfl Is114 rfl (SlF.r h3) rfl rfl (by omega)) (RG.pv rfl (PV.loadE rfl Ag195 rfl rfl (El.r h3 (getG (by omega)))) ?_))))))
   refine RG.ot rfl (OT.alloc rfl Zr195 fun b5 => ?_)
   refine RG.ot rfl (OT.storeW (vs := [vi _, vi _, vi _, vi _, vi _, vi _, vi _, vi _]) rfl Sz195 rfl rfl (Cl.c rfl) rfl rfl (OneC.c rfl) ?_)
   refine RG.nil (WP.seq (WP.region (RG.pv rfl (PV.field rfl Fo195_3 rfl) (RG.pv rfl (PV.load1 rfl Sc2 rfl (Rd.blk rfl)) (RG.ml rfl rfl rfl (RG.nil (WP.block ?_)))))))
   refine WP.cv ((Cv.p (C := osl 260 helemT v (elems (c.insts.xs.take i)) :: blk b5 195 (instT.enc (gd c.insts.xs i)) :: L)).trans (Cv.eqS (ys := elTo c.insts.xs i (0 * (gd c.insts.xs i).cols.toNat)) (by rw [Nat.zero_mul]; exact elTo_zero _ _))) ?_
   refine WP.loop2 [5, 10, 11, 12, 17] (fun (r : Nat) (v : Value) => r ≤ (gd c.insts.xs i).rows.toNat) (fun (r : Nat) (v : Value) => [(18, vi r), (3, v)]) (fun (r : Nat) (v : Value) => osl 260 helemT v (elTo c.insts.xs i (r * (gd c.insts.xs i).cols.toNat)) :: blk b5 195 (instT.enc (gd c.insts.xs i)) :: L) (fun (r : Nat) (v : Value) => (gd c.insts.xs i).rows.toNat - r) 0 v (by omega) ⟨rfl, rfl, trivial⟩ Cv.p ?_
   rintro r v τ hr
   refine WP.seq (WP.region (RG.pv rfl (PV.lss rfl rfl rfl) (RG.nil (WP.seq ?_))))
   refine WP.cond rfl (fun h6 => ?_) (fun h6 => ?_)
   · have h6 := of_decide_eq_true h6
     refine WP.skip (WP.seq (WP.block (WP.seq (WP.region (RG.ml rfl rfl rfl (RG.mr rfl rfl rfl (RG.nil ?_)))))))
     refine WP.seq (WP.region (RG.pv rfl (PV.field rfl Fo195_2 rfl) (RG.pv rfl (PV.load1 rfl Sc2 rfl (Rd.blk rfl)) (RG.ml rfl rfl rfl (RG.nil (WP.block ?_))))))
     refine WP.cv (Cv.eqS (ys := elTo c.insts.xs i (r * (gd c.insts.xs i).cols.toNat + 0)) rfl) ?_
     refine WP.loop2 [5, 6, 10, 11, 12, 17, 18, 22] (fun (q : Nat) (v : Value) => q ≤ (gd c.insts.xs i).cols.toNat) (fun (q : Nat) (v : Value) => [(23, vi q), (3, v)]) (fun (q : Nat) (v : Value) => osl 260 helemT v (elTo c.insts.xs i (r * (gd c.insts.xs i).cols.toNat + q)) :: blk b5 195 (instT.enc (gd c.insts.xs i)) :: L) (fun (q : Nat) (v : Value) => (gd c.insts.xs i).cols.toNat - q) 0 v (by omega) ⟨rfl, rfl, trivial⟩ Cv.p ?_
     rintro q v τ hq
     refine WP.seq (WP.region (RG.pv rfl (PV.lss rfl rfl rfl) (RG.nil (WP.seq ?_))))
     refine WP.cond rfl (fun h7 => ?_) (fun h7 => ?_)
     · have h7 := of_decide_eq_true h7
       have hll := elTo_len hok (i := i) (q := r * (gd c.insts.xs i).cols.toNat + q) h5
       refine WP.skip (WP.seq (WP.block (WP.seq (WP.region (RG.ml rfl rfl rfl (RG.mr rfl rfl rfl (RG.nil ?_)))))))
       refine WP.regionHD [.s v] (.q 0 (.q 1 (.q 2 (.q 3 (.q 4 (.q 5 (.l 6 (.q 7 (.l 8 (.l 9 (.q 10 Sch.nil))))))))))) (by kernel_rfl) (by kernel_rfl) (by kernel_rfl) rfl ?_
       refine RH.pv rfl (fun _ _ _ _ h => h) (Gh.le_refl _) PickC.pick rfl (PV.move (v := v) rfl rfl) ?_
       refine RH.pv rfl (fun _ _ _ _ h => h) (Gh.le_refl _) PickC.pick rfl (PV.field rfl Fo195_0 rfl) ?_
       refine RH.pv rfl (fun _ _ _ _ h => h) (Gh.le_refl _) PickC.pick rfl (PV.load1 rfl Sc2 rfl (Rd.blk rfl)) ?_
       refine RH.pv rfl (fun _ _ _ _ h => h) (Gh.le_refl _) PickC.pick rfl (PV.loadW rfl Ag195 rfl rfl) ?_
       refine RH.pv rfl (fun _ _ _ _ h => h) (Gh.le_refl _) PickC.pick rfl (PV.mvI (.inl rfl) rfl) ?_
       refine RH.pv rfl (fun _ _ _ _ h => h) (Gh.le_refl _) PickC.pick rfl (PV.mvI (.inl rfl) rfl) ?_
       refine RH.ot rfl rfl (OT.callF (vs := [_, _, _]) rfl En218 rfl (elPlace_i (h2 i (by omega)) (by omega) (by omega) ⟨Gh.le_refl _, PickC.pick, ?_⟩))
       refine RH.pv rfl (fun _ _ _ _ h => h) (Gh.le_refl _) PickC.pick rfl (PV.build (vs := [(0, [vi _]), (1, [vi _, vi _, vi _])]) (out := [_, _, _, _]) rfl Zr260 Pl260 ⟨rfl, (Cl.c rfl), ⟨rfl, (Cl.c rfl), trivial⟩⟩ rfl) ?_
       refine RH.ot rfl rfl (OT.bslice (F := helemT) (els := [⟨_, _⟩]) rfl El257 rfl (by decide) rfl (by decide) ⟨rfl, (Cl.c rfl), trivial⟩ fun v34 => ⟨Gh.le_refl _, PickC.pick, ?_⟩)
       refine RH.ot rfl rfl (OT.append (v := v) (u := v34) (F := helemT) rfl El257 rfl (by decide) rfl rfl Rs.o (OneL.c (fun _ => rfl)) rfl (by first | omega | (simp <;> omega)) fun v35 => ⟨Gh.le_refl _, PickC.pick, ?_⟩)
       refine RH.pv rfl (fun _ _ _ _ h => h) (Gh.le_refl _) PickC.pick rfl (PV.asg (v := v35) rfl rfl) ?_
       refine RH.nil ?_
       refine WP.region (RG.pv rfl (PV.add rfl rfl rfl (by omega)) (RG.ml rfl rfl rfl (RG.nil ?_)))
       exact ⟨rfl, q + 1, v35, (by omega), ⟨rfl, rfl, trivial⟩, ⟨rfl, rfl, rfl, rfl, rfl, rfl, rfl, rfl, trivial⟩, ((Cv.p (C := osl 260 helemT v35 (elTo c.insts.xs i (r * (gd c.insts.xs i).cols.toNat + q) ++ [⟨(gd c.insts.xs i).cell, ⟨(gd c.insts.xs i).place.o, (gd c.insts.xs i).place.x + (q : Int) * (gd c.insts.xs i).sx, (gd c.insts.xs i).place.y + (r : Int) * (gd c.insts.xs i).sy⟩⟩]) :: blk b5 195 (instT.enc (gd c.insts.xs i)) :: L)).trans (Cv.eqS (elTo_step (ns := c.insts.xs) (i := i) (r := r) (q := q) (by omega) (by omega)))), by omega⟩
     · have h7 := of_decide_eq_false h7
       have e : r * (gd c.insts.xs i).cols.toNat + q = (r + 1) * (gd c.insts.xs i).cols.toNat := by rw [Nat.add_mul]; omega
       refine WP.exit ?_
       refine WP.region (RG.pv rfl (PV.add rfl rfl rfl (by omega)) (RG.ml rfl rfl rfl (RG.nil ?_)))
       exact ⟨rfl, r + 1, v, (by omega), ⟨rfl, rfl, trivial⟩, ⟨rfl, rfl, rfl, rfl, rfl, trivial⟩, (Cv.eqS (by rw [e])), by omega⟩
   · have h6 := of_decide_eq_false h6
     refine WP.exit ?_
     refine WP.region (RG.pv rfl (PV.add rfl rfl rfl (by omega)) (RG.ml rfl rfl rfl (RG.nil ?_)))
     exact ⟨rfl, i + 1, v, (by omega), ⟨rfl, rfl, trivial⟩, ⟨rfl, rfl, trivial⟩, ((Cv.eqS (ys := elems (c.insts.xs.take (i + 1))) (elTo_all h5 (Nat.mul_le_mul_right _ (by omega)))).trans Cv.p), by omega⟩
 · have h4 := of_decide_eq_false h4
   have e : c.insts.xs.take i = c.insts.xs := List.take_of_length_le (by omega)
   rw [e]
   refine WP.exit ?_
   refine WP.seq (WP.region (RG.pv rfl (PV.move (v := v) rfl rfl) (RG.pv rfl (PV.asg (v := v) rfl rfl) (RG.nil ?_))))
   refine WP.ret ?_
   exact ⟨_, _, ResV.one rfl rfl, Cv.p, k v⟩
end Go.Proofs.YthhjapiggekjbaaGreat
namespace Go.Proofs.YthhjapiggekjbaaGreat
set_option linter.unusedVariables false
set_option linter.unusedSimpArgs false
open Go
set_option maxRecDepth 20000
set_option linter.unusedSimpArgs false
variable {G : Gh} {L : List Ch} {R : Value → Gh → List Ch → Prop}
def pths (xs : List Occ) : List (Sl Int) := xs.map Occ.path
theorem pths_gd {xs : List Occ} {i : Nat} (h : i < xs.length) : gd (pths xs) i = (gd xs i).path := gd_map _ h
theorem RsE.path {xs : List Occ} (h : RsE G L intT (pths xs)) {i : Nat} (hi : i < xs.length) : Rs G L intT (gd xs i).path.v (gd xs i).path.xs := by
 have := h i (by simpa [pths] using hi); rwa [pths_gd hi] at this
theorem clone_path {v : Value} {xs : List (Int)} (h1 : Rs G L intT v xs) (hb : xs.length ≤ 1048576) (k : ∀ v', R v' G (osl 2 intT v' xs :: L)) : CallT Tryz.prog 187 #[v] G L R := by
 refine CallT.st (fun w hs => isNilS_nil h1 hs) fun hn => ?_
 refine CallT.enter (args := _) Tryz.func187 rfl rfl (by kernel_rfl) rfl ?_
 refine WP.seq (WP.region (RG.pv rfl (PV.asg rfl rfl) (RG.nil (WP.seq (WP.seq (WP.region (RG.pv rfl (PV.move (v := v) rfl rfl) ?_)))))))
 refine RG.pv rfl (PV.eqlNil rfl Tryz.underlying26 rfl (SlF.r h1)) (RG.nil ?_)
 refine WP.cond rfl (fun h2 => ?_) (fun h2 => ?_)
 · have e := hn h2
   rw [e] at k
   refine WP.seq (WP.region (RG.pv rfl (PV.asg rfl rfl) (RG.nil ?_)))
   refine WP.ret ?_
   exact ⟨_, _, ResV.one rfl rfl, Cv.nilS, k _⟩
 · refine WP.skip ?_
   refine WP.seq (WP.region ?_)
   refine RG.ot rfl (OT.bslice (F := intT) (els := []) rfl El26 rfl (by decide) rfl (by decide) trivial fun v5 => ?_)
   refine RG.pv rfl (PV.move (v := v) rfl rfl) ?_
   refine RG.ot rfl (OT.append (v := v5) (u := v) (F := intT) rfl El26 rfl (by decide) rfl rfl (Rs.up h1) (OneL.c (fun _ => rfl)) rfl (by first | omega | (simp <;> omega)) fun v7 => ?_)
   refine RG.pv rfl (PV.asg (v := v7) rfl rfl) (RG.nil ?_)
   refine WP.ret ?_
   exact ⟨_, _, ResV.one rfl rfl, (Cv.eqS (List.nil_append _)), k v7⟩
theorem oIn_big {f : Nat} {o : EOcc} (h : oIn f o) : TBig o.place := by
 obtain ⟨h1, h2, h3, h4⟩ := h
 exact ⟨h2, by omega, by omega, by omega, by omega⟩
/-- a path is written at the end of the list of occurrences -/
theorem Cv.addOcc {e : TypeId} {u : Value} {us : List Int} {zs zs' : List Occ} (h : pths zs' = pths zs ++ [⟨u, us⟩]) : Cv (osl e intT u us :: bagS e intT (pths zs) :: L) (bagS e intT (pths zs') :: L) := Cv.grow h
/-- the state of a list of occurrences: those before, then one and those below its first elements -/
structure OccBelow (cs : List ECell) (f : Nat) (o : Occ) (ys : List Occ) (m : Nat) (zs : List Occ) : Prop where
  len : zs.length = ys.length + (occTo cs f (erO o) m).length
  er : erOs zs = erOs ys ++ occTo cs f (erO o) m
  at_ : ys.length < zs.length ∧ gd zs ys.length = o
  pre : ∃ r, zs = ys ++ r
theorem OccBelow.init {cs : List ECell} {f : Nat} {o : Occ} {ys : List Occ} : OccBelow cs f o ys 0 (ys ++ [o]) :=
 ⟨by simp [occTo_zero], by simp [erOs, occTo_zero], ⟨by simp, gd_app_r⟩, ⟨[o], rfl⟩⟩
theorem OccBelow.next {cs : List ECell} {f : Nat} {o : Occ} {ys zs zs' : List Occ} {m : Nat} (h : OccBelow cs f o ys m zs) (hp : ∃ r, zs' = zs ++ r) (he : erOs zs' = erOs zs ++ occF cs f (kid (erO o) (gd (elems (gd cs o.cell.toNat).insts) m) m)) : OccBelow cs f o ys (m + 1) zs' := by
 obtain ⟨r, rfl⟩ := hp
 obtain ⟨r0, hr0⟩ := h.pre
 have e : erOs (zs ++ r) = erOs ys ++ occTo cs f (erO o) (m + 1) := by rw [he, h.er, occTo_succ, List.append_assoc]; rfl
 refine ⟨?_, e, ⟨by have := h.at_.1; simp only [List.length_append]; omega, by rw [gd_app_l h.at_.1]; exact h.at_.2⟩, ⟨r0 ++ r, by rw [hr0, List.append_assoc]⟩⟩
 have := congrArg List.length e
 rw [List.length_append, erOs_len, erOs_len] at this
 exact this
theorem OccBelow.rd {cs : List ECell} {f : Nat} {o : Occ} {ys zs : List Occ} {m : Nat} (h : OccBelow cs f o ys m zs) (hd : RsE G L intT (pths zs)) : Rs G L intT o.path.v o.path.xs := by
 have := hd.path h.at_.1; rwa [h.at_.2] at this
theorem below_i : ∀ (f : Nat) {G : Gh} {L : List Ch} {R : Value → Gh → List Ch → Prop} {l : Lib} {o : Occ} {v : Value} {ys : List Occ} (_ : RLib G L l.cells.v l.cells.xs) (_ : okLib (erCls l.cells.xs) = true) (_ : oIn f (erO o)) (_ : o.cell.toNat < l.cells.xs.length) (_ : o.path.xs.length + f ≤ 100) (_ : ys.length + (occF (erCls l.cells.xs) f (erO o)).length ≤ 1000)
   (_ : ∀ v' zs, (∃ r, zs = ys ++ r) → erOs zs = erOs ys ++ occF (erCls l.cells.xs) f (erO o) → R v' G (osl 138 occT v' zs :: bagS 2 intT (pths zs) :: L)), CallT Tryz.prog 133 #[vT libT l, v, vT occT o] G (osl 138 occT v ys :: bagS 2 intT (pths ys) :: osl 2 intT o.path.v o.path.xs :: L) R := by
 intro f
 induction f with
 | zero => intro G L R l o v ys _ _ hin; exact absurd hin.1 (by simp only [erO]; omega)
 | succ f ih =>
   intro G L R l o v ys hL hok hin hcl hpl htl k
   have hE := erCls_len l.cells.xs
   have hbig := oIn_big hin
   have hi1 := hin.1
   have hinc : (0 : Int) ≤ o.cell ∧ o.cell < (f : Int) + 1 := by have := hin.1; simp only [erO] at this; omega
   have hce : (gd (erCls l.cells.xs) o.cell.toNat).insts = (gd l.cells.xs o.cell.toNat).insts.xs := erCl_insts hcl
   have hns : okNs (gd l.cells.xs o.cell.toNat).insts.xs := by rw [← hce]; exact okLib_ns hok (by omega)
   have hEl : (elems (gd l.cells.xs o.cell.toNat).insts.xs).length ≤ 128 := by rw [← hce]; exact elems_len_bd hok (by omega)
   have hol : 1 ≤ (occF (erCls l.cells.xs) (f + 1) (erO o)).length := by rw [occF, List.length_cons]; omega
   refine CallT.enter (args := _) Tryz.func133 rfl rfl (by kernel_rfl) rfl ?_
   refine WP.seq (WP.region ?_)
   refine RG.ot rfl (OT.box (cs := libT.enc l) rfl rfl rfl fun b3 => ?_)
   refine RG.ot rfl (OT.box (cs := occT.enc o) rfl rfl rfl fun b5 => ?_)
   refine RG.pv rfl (PV.asg rfl rfl) (RG.nil (WP.seq (WP.region (RG.pv rfl (PV.move (v := v) rfl rfl) (RG.pv rfl (PV.loadW rfl Ag138 rfl rfl) ?_)))))
   refine RG.ot rfl (OT.bslice (F := occT) (els := [_]) rfl El94 rfl (by decide) rfl (by decide) ⟨rfl, (Cl.c rfl), trivial⟩ fun v12 => ?_)
   refine RG.ot rfl (OT.append (v := v) (u := v12) (F := occT) rfl El94 rfl (by decide) rfl rfl Rs.o (OneL.one (a := o) (OneC.val rfl (OneC.val rfl (OneC.val rfl (OneC.val rfl (OneC.sl SlF.o OneC.nil)))))) rfl (by first | omega | (simp <;> omega)) fun v13 => ?_)
   refine RG.pv rfl (PV.asg (v := v13) rfl rfl) (RG.nil (WP.seq (WP.seq (WP.region (RG.pv rfl (PV.field rfl Fo31_0 rfl) (RG.pv rfl (PV.load1 rfl Sc29 rfl (Rd.blk rfl)) (RG.pv rfl (PV.field rfl Fo138_0 rfl) ?_)))))))
   refine RG.pv rfl (PV.load1 rfl Sc2 rfl (Rd.blk rfl)) (RG.pv rfl (PV.idxS (j := o.cell.toNat) rfl Is29 rfl (SlF.r hL.c) rfl (by omega) (by omega)) (RG.pv rfl (PV.loadE rfl Ag116 rfl rfl (El.r hL.c (getG (by omega)))) ?_))
   refine RG.callF (vs := [_]) rfl rfl En186 rfl (elems_i (hL.na (by omega)).up hns (fun v20 => ?_))
   refine RG.pv rfl (PV.len (v := v20) rfl Tryz.underlying257 rfl SlF.o) (RG.ml rfl rfl rfl (RG.nil (WP.block ?_)))
   refine WP.cv ((Cv.p (C := osl 2 intT o.path.v o.path.xs :: bagS 2 intT (pths ys) :: osl 138 occT v13 (ys ++ [o]) :: osl 260 helemT v20 (elems (gd l.cells.xs o.cell.toNat).insts.xs) :: blk b3 31 (libT.enc l) :: blk b5 138 (occT.enc o) :: L)).trans (Cv.addOcc (zs' := ys ++ [o]) (by simp [pths]))) ?_
   refine WP.loop3 [3, 5, 20, 21] (fun (m : Nat) (vo : Value) (zs : List Occ) => m ≤ (elems (gd l.cells.xs o.cell.toNat).insts.xs).length ∧ OccBelow (erCls l.cells.xs) f o ys m zs) (fun (m : Nat) (vo : Value) (zs : List Occ) => [(22, vi m), (1, vo)]) (fun (m : Nat) (vo : Value) (zs : List Occ) => osl 138 occT vo zs :: bagS 2 intT (pths zs) :: osl 260 helemT v20 (elems (gd l.cells.xs o.cell.toNat).insts.xs) :: blk b3 31 (libT.enc l) :: blk b5 138 (occT.enc o) :: L) (fun (m : Nat) (vo : Value) (zs : List Occ) => (elems (gd l.cells.xs o.cell.toNat).insts.xs).length - m) 0 v13 (ys ++ [o]) ⟨by omega, OccBelow.init⟩ ⟨rfl, rfl, trivial⟩ Cv.p ?_
   rintro m vo zs τ ⟨hm, hB⟩
   refine WP.seq (WP.region (RG.pv rfl (PV.lss rfl rfl rfl) (RG.nil (WP.seq ?_))))
   refine WP.cond rfl (fun h1 => ?_) (fun h1 => ?_)
   · have h1 := of_decide_eq_true h1
     have h2 : m < (elems (gd l.cells.xs o.cell.toNat).insts.xs).length := by omega
     have h2' : m < (elems (gd (erCls l.cells.xs) o.cell.toNat).insts).length := by rw [hce]; exact h2
     have hb := elem_bd hok (k := o.cell.toNat) (by omega) h2'
     have hke := kid_in hok hin (by simp only [erO]; omega) h2'
     have hle := occTo_le (cs := erCls l.cells.xs) (f := f) (o := erO o) (i := m + 1) h2'
     rw [occTo_succ, List.length_append] at hle
     have hlen := hB.len
     simp only [erO] at hke hle hlen htl
     rw [hce] at hb hke hle
     have hb1 := hb.2.1
     have hb2 : (-1000 ≤ (gd (elems (gd l.cells.xs o.cell.toNat).insts.xs) m).place.x ∧ (gd (elems (gd l.cells.xs o.cell.toNat).insts.xs) m).place.x ≤ 1000) ∧ -1000 ≤ (gd (elems (gd l.cells.xs o.cell.toNat).insts.xs) m).place.y ∧ (gd (elems (gd l.cells.xs o.cell.toNat).insts.xs) m).place.y ≤ 1000 := by omega
     refine WP.skip (WP.seq (WP.block (WP.seq (WP.region (RG.ml rfl rfl rfl (RG.pv rfl (PV.idxS (v := v20) rfl Is257 rfl SlF.o rfl rfl (by omega)) (RG.pv rfl (PV.loadE rfl Ag260 rfl rfl (El.o (getG (by omega)))) ?_)))))))
     refine RG.ot rfl (OT.alloc rfl Zr260 fun b8 => ?_)
     refine RG.mr rfl rfl rfl ?_
     refine RG.ot rfl (OT.storeW (vs := [vi _, vi _, vi _, vi _]) rfl Sz260 rfl rfl (Cl.c rfl) rfl rfl (OneC.c rfl) ?_)
     refine RG.nil (WP.seq (WP.region (RG.pv rfl (PV.field rfl Fo138_2 rfl) (RG.pv rfl (PV.load1 rfl Sc26 rfl (Rd.blk rfl)) ?_))))
     refine RG.callF (vs := [_]) rfl rfl En187 rfl (clone_path (OccBelow.rd hB RsE.o) (by omega) (fun v29 => ?_))
     refine RG.ml rfl rfl rfl ?_
     refine RG.ot rfl (OT.bslice (F := intT) (els := [_]) rfl El26 rfl (by decide) rfl (by decide) ⟨rfl, (Cl.c rfl), trivial⟩ fun v31 => ?_)
     refine RG.ot rfl (OT.append (v := v29) (u := v31) (F := intT) rfl El26 rfl (by decide) rfl rfl Rs.o (OneL.c (fun _ => rfl)) rfl (by first | omega | (simp <;> omega)) fun v32 => ?_)
     refine RG.pv rfl (PV.asg (v := v32) rfl rfl) (RG.nil ?_)
     refine WP.regionH (blk b3 31 (libT.enc l) :: blk b5 138 (occT.enc o) :: blk b8 260 (helemT.enc (gd (elems (gd l.cells.xs o.cell.toNat).insts.xs) m)) :: L) (.q 0 (.q 1 (.q 2 (.q 3 (.q 4 (.q 5 (.q 6 (.q 7 (.q 9 (.l 8 (.l 10 (.l 11 (.q 12 Sch.nil))))))))))))) (by kernel_rfl) (by kernel_rfl) (by kernel_rfl) rfl ?_
     refine RH.pv rfl (fun _ _ _ _ h => h) (Gh.le_refl _) PickC.pick rfl (PV.loadW rfl Ag31 rfl rfl) ?_
     refine RH.pv rfl (fun _ _ _ _ h => h) (Gh.le_refl _) PickC.pick rfl (PV.move (v := vo) rfl rfl) ?_
     refine RH.pv rfl (fun _ _ _ _ h => h) (Gh.le_refl _) PickC.pick rfl (PV.field rfl Fo260_0 rfl) ?_
     refine RH.pv rfl (fun _ _ _ _ h => h) (Gh.le_refl _) PickC.pick rfl (PV.load1 rfl Sc2 rfl (Rd.blk rfl)) ?_
     refine RH.pv rfl (fun _ _ _ _ h => h) (Gh.le_refl _) PickC.pick rfl (PV.field rfl Fo260_1 rfl) ?_
     refine RH.pv rfl (fun _ _ _ _ h => h) (Gh.le_refl _) PickC.pick rfl (PV.loadB (vs := [_, _, _]) rfl Ag136 rfl rfl rfl) ?_
     refine RH.pv rfl (fun _ _ _ _ h => h) (Gh.le_refl _) PickC.pick rfl (PV.field rfl Fo138_1 rfl) ?_
     refine RH.pv rfl (fun _ _ _ _ h => h) (Gh.le_refl _) PickC.pick rfl (PV.loadB (vs := [_, _, _]) rfl Ag136 rfl rfl rfl) ?_
     refine RH.pv rfl (fun _ _ _ _ h => h) (Gh.le_refl _) PickC.pick rfl (PV.move (v := v32) rfl rfl) ?_
     refine RH.ot rfl rfl (OT.callF (vs := [_, _]) rfl En188 rfl (compose_i hb1 hb2 hbig ⟨Gh.le_refl _, PickC.pick, ?_⟩))
     refine RH.ot rfl rfl (OT.pv (PV.build (vs := [(0, [vi _]), (1, [vi _, vi _, vi _]), (2, [v32])]) (out := [_, _, _, _, _]) rfl Zr138 Pl138 ⟨rfl, (Cl.c rfl), ⟨rfl, (Cl.c rfl), ⟨rfl, (Cl.s (v := v32) SlF.o), trivial⟩⟩⟩ rfl) ⟨Gh.le_refl _, PickC.pick, ?_⟩)
     refine RH.ot rfl rfl (OT.callF (vs := [_, vo, _]) rfl En133 rfl (CallT.cv (Cv.p (C := osl 138 occT vo zs :: bagS 2 intT (pths zs) :: osl 2 intT v32 (o.path.xs ++ [(m : Int)]) :: osl 260 helemT v20 (elems (gd l.cells.xs o.cell.toNat).insts.xs) :: blk b3 31 (libT.enc l) :: blk b5 138 (occT.enc o) :: blk b8 260 (helemT.enc (gd (elems (gd l.cells.xs o.cell.toNat).insts.xs) m)) :: L)) (ih (l := l) (o := ⟨(gd (elems (gd l.cells.xs o.cell.toNat).insts.xs) m).cell, cmpT (gd (elems (gd l.cells.xs o.cell.toNat).insts.xs) m).place o.place, ⟨v32, o.path.xs ++ [(m : Int)]⟩⟩) (v := vo) (ys := zs) hL.up hok hke (by simp only; omega) (by simp only [List.length_append, List.length_cons, List.length_nil]; omega) (by simp only [erO, kid] at hle ⊢; omega) (fun vn zn hr he => ⟨Gh.le_refl _, PickC.pick, ?_⟩))))
     refine RH.pv rfl (fun _ _ _ _ h => h) (Gh.le_refl _) PickC.pick rfl (PV.asg rfl rfl) ?_
     refine RH.nil ?_
     refine WP.region (RG.pv rfl (PV.add rfl rfl rfl (by omega)) (RG.ml rfl rfl rfl (RG.nil ?_)))
     exact ⟨rfl, m + 1, vn, zn, ⟨by omega, hB.next hr (by rw [hce]; exact he)⟩, ⟨rfl, rfl, trivial⟩, ⟨rfl, rfl, rfl, rfl, trivial⟩, Cv.p, by omega⟩
   · have h1 := of_decide_eq_false h1
     have e : erOs zs = erOs ys ++ occF (erCls l.cells.xs) (f + 1) (erO o) := by
       rw [hB.er, ← occTo_all]
       have : m = (elems (gd (erCls l.cells.xs) (erO o).cell.toNat).insts).length := by simp only [erO]; rw [hce]; omega
       rw [← this]
     refine WP.exit ?_
     refine WP.seq (WP.region (RG.pv rfl (PV.move (v := vo) rfl rfl) (RG.pv rfl (PV.asg (v := vo) rfl rfl) (RG.nil ?_))))
     refine WP.ret ?_
     exact ⟨_, _, ResV.one rfl rfl, Cv.p, k vo zs hB.pre e⟩
theorem occE_cases {cs : List ECell} {cell : Int} (h : celE cs cell = 0) : okLib cs = true ∧ 0 ≤ cell ∧ cell < cs.length := by
 unfold celE at h
 cases h1 : okLib cs with
 | false => rw [h1] at h; cases h
 | true =>
   cases h2 : within cell 0 ((cs.length : Int) - 1) with
   | false => rw [h1, h2] at h; cases h
   | true => simp only [within, Bool.and_eq_true, decide_eq_true_eq] at h2; exact ⟨rfl, by omega⟩
theorem occE_code {cs : List ECell} {cell : Int} (h : celE cs cell ≠ 0) : occE cs cell = celE cs cell := by
 unfold celE at h ⊢
 unfold occE
 cases h1 : okLib cs with
 | false => rfl
 | true =>
   cases h2 : within cell 0 ((cs.length : Int) - 1) with
   | false => rfl
   | true => rw [h1, h2] at h; exact absurd rfl h
theorem occE_in {cs : List ECell} {cell : Int} (h : okLib cs = true) (hc : 0 ≤ cell ∧ cell < cs.length) : occE cs cell = bif decide (200 < cntOf cs cell.toNat) then 3 else bif (occAll cs cell).any fun o => !validT o.place then 2 else 0 := by
 have : within cell 0 ((cs.length : Int) - 1) = true := by simp [within]; omega
 rw [occE, h, this]; rfl
theorem top_in {cell : Int} {n : Nat} (hc : 0 ≤ cell ∧ cell < n) (h8 : n ≤ 8) : oIn (cell.toNat + 1) (top cell) := by
 refine ⟨by simp only [top]; omega, by simp [top], ?_, ?_⟩ <;> simp only [top] <;> omega
theorem occAny_true {cs : List ECell} {cell : Int} {zs : List Occ} (he : erOs zs = occAll cs cell) {i : Nat} (hi : i < zs.length) (h : validT (gd zs i).place = false) : ((occAll cs cell).any fun o => !validT o.place) = true := by
 rw [← he]
 exact List.any_eq_true.2 ⟨gd (erOs zs) i, gd_mem (by rw [erOs_len]; exact hi), by rw [erOs_gd hi]; simp [erO, h]⟩
theorem occAny_false {cs : List ECell} {cell : Int} {zs : List Occ} (he : erOs zs = occAll cs cell) (h : ∀ i, i < zs.length → validT (gd zs i).place = true) : ((occAll cs cell).any fun o => !validT o.place) = false := by
 rw [← he, List.any_eq_false]
 intro o ho
 obtain ⟨i, hi, rfl⟩ := List.getElem_of_mem ho
 rw [erOs_len] at hi
 rw [← gd_eq (by rw [erOs_len]; exact hi), erOs_gd hi]
 simp [erO, h i hi]
theorem Cv.nilOcc {M : List Ch} {e e' : TypeId} [p : PickC L M] : Cv M (osl e occT (.slice none 0 0) [] :: bagS e' intT (pths []) :: L) := (Cv.pick p.pick).trans ((Cv.bag0 (xs := pths []) rfl).trans Cv.nilS)
theorem occ_i {l : Lib} {cell : Int} (hL : RLib G L l.cells.v l.cells.xs) (hlen : lenC (erCls l.cells.xs)) (k : ∀ v' zs, erOs zs = occR (erCls l.cells.xs) cell → R (.tuple #[v', vi (occE (erCls l.cells.xs) cell)]) G (osl 138 occT v' zs :: bagS 2 intT (pths zs) :: L)) : CallT Tryz.prog 81 #[vT libT l, vi cell] G L R := by
 have hE := erCls_len l.cells.xs
 refine CallT.enter (args := _) Tryz.func81 rfl rfl (by kernel_rfl) rfl ?_
 refine WP.seq (WP.region ?_)
 refine RG.ot rfl (OT.box (cs := libT.enc l) rfl rfl rfl fun b2 => ?_)
 refine RG.pv rfl (PV.asg rfl rfl) (RG.mr rfl rfl rfl (RG.nil (WP.seq (WP.seq (WP.region (RG.pv rfl (PV.loadW rfl Ag31 rfl rfl) (RG.ml rfl rfl rfl ?_)))))))
 refine RG.callF (vs := [_, _]) rfl rfl En131 rfl (celE_i hL.up hlen ?_)
 refine RG.mr rfl rfl rfl (RG.nil (WP.seq (WP.region (RG.ml rfl rfl rfl (RG.pv rfl (PV.neq rfl rfl rfl) (RG.nil ?_))))))
 refine WP.cond rfl (fun h1 => ?_) (fun h1 => ?_)
 · have h1 : celE (erCls l.cells.xs) cell ≠ 0 := by simpa using h1
   have e := occE_code h1
   have k := k (.slice none 0 0) [] (by rw [occR_no (by rw [e]; exact h1)]; rfl)
   rw [e] at k
   refine WP.seq (WP.region (RG.ml rfl rfl rfl (RG.pv rfl (PV.asg rfl rfl) (RG.mr rfl rfl rfl (RG.nil ?_)))))
   refine WP.ret ?_
   exact ⟨_, _, ResV.two rfl rfl rfl, Cv.nilOcc, k⟩
 · have h1 : celE (erCls l.cells.xs) cell = 0 := by simpa using h1
   obtain ⟨hok, hc⟩ := occE_cases h1
   have h8 := okLib_len hok
   have hin := occE_in hok hc
   have hal := occAll_len hok hc
   refine WP.skip (WP.seq (WP.seq (WP.region (RG.pv rfl (PV.loadW rfl Ag31 rfl rfl) (RG.ml rfl rfl rfl ?_)))))
   refine RG.callF (vs := [_, _]) rfl rfl En132 rfl (elCnt_i hL.up hok hc ?_)
   refine RG.pv rfl (PV.gtr rfl rfl rfl) (RG.nil ?_)
   refine WP.cond rfl (fun h2 => ?_) (fun h2 => ?_)
   · have e : occE (erCls l.cells.xs) cell = 3 := by rw [hin, h2]; rfl
     have k := k (.slice none 0 0) [] (by rw [occR_no (by rw [e]; decide)]; rfl)
     rw [e] at k
     refine WP.seq (WP.region (RG.pv rfl (PV.asg rfl rfl) (RG.mr rfl rfl rfl (RG.nil ?_))))
     refine WP.ret ?_
     exact ⟨_, _, ResV.two rfl rfl rfl, Cv.nilOcc, k⟩
   · rw [h2, cond_false] at hin
     have h2 := of_decide_eq_false h2
     have hol : 0 + (occF (erCls l.cells.xs) (cell.toNat + 1) (top cell)).length ≤ 1000 := by rw [occAll] at hal; omega
     refine WP.skip (WP.seq (WP.region (RG.pv rfl (PV.loadW rfl Ag31 rfl rfl) (RG.ml rfl rfl rfl (RG.pv rfl (PV.build (vs := [(0, [vi _])]) (out := [_, _, _, _, _]) rfl Zr138 Pl138 ⟨rfl, (Cl.c rfl), trivial⟩ rfl) ?_)))))
     refine RG.callF (vs := [_, _, _]) rfl rfl En133 rfl (CallT.cv ((Cv.nilS (e := 2) (F := intT)).trans ((Cv.bag0 (e := 2) (F := intT) (xs := pths []) rfl).trans (Cv.nilS (e := 138) (F := occT)))) (below_i (cell.toNat + 1) (l := l) (o := ⟨cell, ⟨0, 0, 0⟩, ⟨.slice none 0 0, []⟩⟩) (ys := []) hL.up hok (top_in hc (by omega)) (by simp only; omega) (by simp only [List.length_nil]; omega) (by simp only [List.length_nil]; exact hol) (fun vn zn hr he => ?_)))
     refine RG.pv rfl (PV.asg (v := vn) rfl rfl) (RG.nil (WP.seq (WP.seq (WP.region (RG.pv rfl (PV.move (v := vn) rfl rfl) (RG.pv rfl (PV.len (v := vn) rfl Tryz.underlying94 rfl SlF.o) (RG.ml rfl rfl rfl ?_)))))))
     refine RG.nil (WP.block ?_)
     have he : erOs zn = occAll (erCls l.cells.xs) cell := he
     have hzl : zn.length ≤ 200 := by
       have := congrArg List.length he
       rw [erOs_len] at this; omega
     refine WP.loop1 [7, 24, 25] (fun i => i ≤ zn.length ∧ ∀ j, j < i → validT (gd zn j).place = true) (fun i => [(26, vi i)]) (fun i => osl 138 occT vn zn :: bagS 2 intT (pths zn) :: L) (fun i => zn.length - i) 0 ⟨by omega, fun j h => by omega⟩ ⟨rfl, trivial⟩ Cv.p ?_
     rintro i τ ⟨hi, hj⟩
     refine WP.seq (WP.region (RG.pv rfl (PV.lss rfl rfl rfl) (RG.nil (WP.seq ?_))))
     refine WP.cond rfl (fun h3 => ?_) (fun h3 => ?_)
     · have h3 := of_decide_eq_true h3
       have h4 : i < zn.length := by omega
       have hrd : Rs G (bagS 2 intT (pths zn) :: []) intT (gd zn i).path.v (gd zn i).path.xs := RsE.path RsE.o h4
       refine WP.skip (WP.seq (WP.block (WP.seq (WP.region (RG.pv rfl (PV.idxS (v := vn) rfl Is94 rfl SlF.o rfl rfl (by omega)) (RG.pv rfl (PV.loadE rfl Ag138 rfl rfl (El.o (getG (by omega)))) ?_))))))
       refine RG.ot rfl (OT.alloc rfl Zr138 fun b9 => ?_)
       refine RG.ot rfl (OT.storeW (vs := [vi _, vi _, vi _, vi _, _]) rfl Sz138 rfl rfl (Cl.c rfl) rfl rfl (OneC.val rfl (OneC.val rfl (OneC.val rfl (OneC.val rfl (OneC.sl (SlF.r hrd) OneC.nil))))) ?_)
       refine RG.nil (WP.seq (WP.region (RG.pv rfl (PV.field rfl Fo138_1 rfl) (RG.pv rfl (PV.loadB (vs := [_, _, _]) rfl Ag136 rfl rfl rfl) ?_))))
       refine RG.callF (vs := [_]) rfl rfl En134 rfl (validT_i ?_)
       refine RG.pv rfl (PV.not rfl rfl) (RG.nil ?_)
       refine WP.cond rfl (fun h5 => ?_) (fun h5 => ?_)
       · have e : occE (erCls l.cells.xs) cell = 2 := by rw [hin, occAny_true he h4 (by simpa using h5)]; rfl
         have k := k (.slice none 0 0) [] (by rw [occR_no (by rw [e]; decide)]; rfl)
         rw [e] at k
         refine WP.seq (WP.region (RG.pv rfl (PV.asg rfl rfl) (RG.mr rfl rfl rfl (RG.nil ?_))))
         refine WP.ret ?_
         exact ⟨_, _, ResV.two rfl rfl rfl, Cv.nilOcc, k⟩
       · have hj' : ∀ j, j < i + 1 → validT (gd zn j).place = true := fun j h => by
           by_cases c : j = i
           · rw [c]; simpa using h5
           · exact hj j (by omega)
         refine WP.skip (WP.region (RG.pv rfl (PV.add rfl rfl rfl (by omega)) (RG.ml rfl rfl rfl (RG.nil ?_))))
         exact ⟨rfl, i + 1, ⟨by omega, hj'⟩, ⟨rfl, trivial⟩, ⟨rfl, rfl, rfl, trivial⟩, Cv.p, by omega⟩
     · have h3 := of_decide_eq_false h3
       have e : occE (erCls l.cells.xs) cell = 0 := by rw [hin, occAny_false he (fun j h => hj j (by omega))]; rfl
       have k := k vn zn (by rw [occR_ok e, he])
       rw [e] at k
       refine WP.exit ?_
       refine WP.seq (WP.region (RG.pv rfl (PV.move (v := vn) rfl rfl) (RG.pv rfl (PV.asg (v := vn) rfl rfl) (RG.mr rfl rfl rfl (RG.nil ?_)))))
       refine WP.ret ?_
       exact ⟨_, _, ResV.two rfl rfl rfl, Cv.p, k⟩
end Go.Proofs.YthhjapiggekjbaaGreat
