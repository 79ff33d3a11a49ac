/-
  Contracts of functions and plain facts that the last text of this folder uses, part 6.
-/
import Derived.Test.YtgphjofccckloaaGreatHD5
namespace Go.Proofs.YtgphjofccckloaaGreat
set_option linter.unusedVariables false
set_option linter.unusedSimpArgs false
open Go
set_option maxRecDepth 20000
set_option linter.unusedSimpArgs false
variable {G : Gh} {L : List Ch} {R : Value → Gh → List Ch → Prop}
/-- a transform that may have left its range -/
def TBig (t : Trans) : Prop := (0 ≤ t.o ∧ t.o ≤ 7) ∧ -100000 ≤ t.x ∧ t.x ≤ 100000 ∧ -100000 ≤ t.y ∧ t.y ≤ 100000
theorem moveBig_i {t : Trans} {p : Pt} (ht : TBig t) (hp : InB 1000 p) (k : R (vpt (moveP t p)) G L) : CallT Tryz.prog 206 #[vtrans t, vpt p] G L R := by
 obtain ⟨hq1, hq2, hq3, hq4⟩ : InB 1000 (turnP t.o p) := turnP_in hp
 obtain ⟨_, ht1, ht2, ht3, ht4⟩ := id ht
 refine CallT.enter (args := _) Tryz.func206 rfl rfl (by kernel_rfl) rfl ?_
 refine WP.seq (WP.region ?_)
 refine RG.ot rfl (OT.box (cs := transT.enc t) rfl rfl rfl fun b2 => ?_)
 refine RG.ot rfl (OT.box (cs := ptT.enc p) rfl rfl rfl fun b3 => ?_)
 refine RG.ot rfl (OT.alloc rfl Zr189 fun b4 => ?_)
 refine RG.nil (WP.seq (WP.region (RG.pv rfl (PV.field rfl Fo95_0 rfl) (RG.pv rfl (PV.load1 rfl Sc2 rfl (Rd.blk rfl)) (RG.pv rfl (PV.loadW rfl Ag189 rfl rfl) ?_)))))
 refine RG.callF (vs := [_, _]) rfl rfl En255 rfl (turn_s ht.1 hp ?_)
 refine RG.ot rfl (OT.storeW (vs := [vi _, vi _]) rfl Sz189 rfl rfl (Cl.c rfl) rfl rfl (OneC.c rfl) ?_)
 refine RG.nil (WP.seq (WP.region (RG.pv rfl (PV.field rfl Fo189_0 rfl) (RG.pv rfl (PV.load1 rfl Sc2 rfl (Rd.blk rfl)) (RG.pv rfl (PV.field rfl Fo95_1 rfl) (RG.pv rfl (PV.load1 rfl Sc2 rfl (Rd.blk rfl)) (RG.pv rfl (PV.add rfl rfl rfl (by omega)) ?_)))))))
 refine RG.pv rfl (PV.field rfl Fo189_1 rfl) (RG.pv rfl (PV.load1 rfl Sc2 rfl (Rd.blk rfl)) (RG.pv rfl (PV.field rfl Fo95_2 rfl) (RG.pv rfl (PV.load1 rfl Sc2 rfl (Rd.blk rfl)) (RG.pv rfl (PV.add rfl rfl rfl (by omega)) (RG.pv rfl (PV.build (vs := [(0, [vi _]), (1, [vi _])]) (out := [_, _]) rfl Zr189 Pl189 ⟨rfl, (Cl.c rfl), ⟨rfl, (Cl.c rfl), trivial⟩⟩ rfl) ?_)))))
 refine RG.ot rfl (OT.storeW (vs := [vi _, vi _]) rfl Sz189 rfl rfl (Cl.c rfl) rfl rfl (OneC.c rfl) ?_)
 refine RG.nil ?_
 refine WP.ret ?_
 exact ⟨_, _, ResV.one rfl (RV1.cell rfl Ag189 rfl), Cv.p, k⟩
theorem composed_i {a b : Int} (ha : 0 ≤ a ∧ a ≤ 7) (hb : 0 ≤ b ∧ b ≤ 7) (k : R (vi (cmpo a b)) G L) : CallT Tryz.prog 275 #[vi a, vi b] G L R := by
 refine CallT.enter (args := _) Tryz.func275 rfl rfl (by kernel_rfl) rfl ?_
 refine WP.seq (WP.region (RG.mr rfl rfl rfl (RG.nil (WP.seq (WP.region (RG.ml rfl rfl rfl (RG.pv rfl (PV.rem rfl rfl rfl (by omega) (by omega) (by omega)) ?_)))))))
 refine RG.ml rfl rfl rfl (RG.pv rfl (PV.rem rfl rfl rfl (by omega) (by omega) (by omega)) (RG.pv rfl (PV.add rfl rfl rfl (by omega)) (RG.mr rfl rfl rfl (RG.nil ?_))))
 refine WP.cut1 [0, 1] (fun (q : Int) => q = (if 4 ≤ b then b % 4 + 4 - a % 4 else b % 4 + a % 4)) (fun (q : Int) => [(5, vi q)]) (fun (q : Int) => L) ?_ ?_
 refine WP.seq (WP.region (RG.ml rfl rfl rfl (RG.pv rfl (PV.geq rfl rfl rfl) (RG.nil ?_))))
 refine WP.cond rfl (fun h1 => ?_) (fun h1 => ?_)
 · have h1 := of_decide_eq_true h1
   refine WP.region (RG.ml rfl rfl rfl (RG.pv rfl (PV.rem rfl rfl rfl (by omega) (by omega) (by omega)) (RG.pv rfl (PV.add rfl rfl rfl (by omega)) (RG.ml rfl rfl rfl (RG.pv rfl (PV.rem rfl rfl rfl (by omega) (by omega) (by omega)) (RG.pv rfl (PV.sub rfl rfl rfl (by omega)) (RG.mr rfl rfl rfl ?_)))))))
   refine RG.nil ?_
   exact ⟨rfl, (b % 4 + 4 - a % 4), (by rw [if_pos (by omega)]), ⟨rfl, trivial⟩, ⟨rfl, rfl, trivial⟩, Cv.p⟩
 · have h1 := of_decide_eq_false h1
   refine WP.skip ?_
   exact ⟨rfl, (b % 4 + a % 4), (by rw [if_neg (by omega)]), ⟨rfl, trivial⟩, ⟨rfl, rfl, trivial⟩, Cv.p⟩
 rintro q τ1 hq
 have hqb : 0 ≤ q ∧ q ≤ 20 := by rw [hq]; split <;> omega
 refine WP.seq (WP.region (RG.ml rfl rfl rfl (RG.pv rfl (PV.rem rfl rfl rfl (by omega) (by omega) (by omega)) (RG.mr rfl rfl rfl (RG.nil ?_)))))
 refine WP.cut1 [] (fun (z : Int) => z = cmpo a b) (fun (z : Int) => [(6, vi z)]) (fun (z : Int) => L) ?_ ?_
 refine WP.seq (WP.region (RG.ml rfl rfl rfl (RG.pv rfl (PV.geq rfl rfl rfl) (RG.ml rfl rfl rfl (RG.pv rfl (PV.geq rfl rfl rfl) (RG.pv rfl (PV.neqB rfl Tryz.underlying4 rfl rfl) (RG.nil ?_)))))))
 refine WP.cond rfl (fun h2 => ?_) (fun h2 => ?_)
 · refine WP.region ?_
   refine RG.ml rfl rfl rfl (RG.pv rfl (PV.add rfl rfl rfl (by omega)) (RG.mr rfl rfl rfl (RG.nil ?_)))
   exact ⟨rfl, (q % 4 + 4), (by rw [cmpo, ← hq, if_neg]; intro e; simp [e] at h2), ⟨rfl, trivial⟩, trivial, Cv.p⟩
 · refine WP.skip ?_
   exact ⟨rfl, (q % 4), (by rw [cmpo, ← hq, if_pos]; omega; simpa using h2), ⟨rfl, trivial⟩, trivial, Cv.p⟩
 rintro z τ2 hz
 refine WP.seq (WP.region (RG.ml rfl rfl rfl (RG.mr rfl rfl rfl (RG.nil ?_))))
 refine WP.ret ?_
 rw [← hz] at k
 exact ⟨_, _, ResV.one rfl rfl, Cv.p, k⟩
theorem pt_in {t : Trans} {b : Int} (h : (-b ≤ t.x ∧ t.x ≤ b) ∧ -b ≤ t.y ∧ t.y ≤ b) : InB b ⟨t.x, t.y⟩ := ⟨h.1.1, h.1.2, h.2.1, h.2.2⟩
theorem compose_i {t u : Trans} (ho : 0 ≤ t.o ∧ t.o ≤ 7) (ht : (-1000 ≤ t.x ∧ t.x ≤ 1000) ∧ -1000 ≤ t.y ∧ t.y ≤ 1000) (hu : TBig u) (k : R (vtrans (cmpT t u)) G L) : CallT Tryz.prog 254 #[vtrans t, vtrans u] G L R := by
 refine CallT.enter (args := _) Tryz.func254 rfl rfl (by kernel_rfl) rfl ?_
 refine WP.seq (WP.region ?_)
 refine RG.ot rfl (OT.box (cs := transT.enc t) rfl rfl rfl fun b2 => ?_)
 refine RG.ot rfl (OT.box (cs := transT.enc u) rfl rfl rfl fun b3 => ?_)
 refine RG.ot rfl (OT.alloc rfl Zr95 fun b4 => ?_)
 refine RG.nil (WP.seq (WP.region (RG.pv rfl (PV.loadW rfl Ag95 rfl rfl) (RG.pv rfl (PV.field rfl Fo95_1 rfl) (RG.pv rfl (PV.load1 rfl Sc2 rfl (Rd.blk rfl)) (RG.pv rfl (PV.field rfl Fo95_2 rfl) (RG.pv rfl (PV.load1 rfl Sc2 rfl (Rd.blk rfl)) ?_)))))))
 refine RG.pv rfl (PV.build (vs := [(0, [vi _]), (1, [vi _])]) (out := [_, _]) rfl Zr189 Pl189 ⟨rfl, (Cl.c rfl), ⟨rfl, (Cl.c rfl), trivial⟩⟩ rfl) ?_
 refine RG.callF (vs := [_, _]) rfl rfl En206 rfl (moveBig_i (p := ⟨_, _⟩) hu (pt_in ht) ?_)
 refine RG.ot rfl (OT.alloc rfl Zr189 fun b5 => ?_)
 refine RG.ot rfl (OT.storeW (vs := [vi _, vi _]) rfl Sz189 rfl rfl (Cl.c rfl) rfl rfl (OneC.c rfl) ?_)
 refine RG.nil (WP.seq ?_)
 refine WP.regionHD [.b b4] (.q 0 (.q 1 (.q 2 (.q 3 (.q 5 (.q 6 (.q 7 (.q 8 (.l 4 (.q 9 (.l 10 Sch.nil))))))))))) (by kernel_rfl) (by kernel_rfl) (by kernel_rfl) rfl ?_
 refine RH.pv rfl (fun _ _ _ _ h => h) (Gh.le_refl _) PickC.pick rfl (PV.field rfl Fo95_0 rfl) ?_
 refine RH.pv rfl (fun _ _ _ _ h => h) (Gh.le_refl _) PickC.pick rfl (PV.load1 rfl Sc2 rfl (Rd.blk rfl)) ?_
 refine RH.pv rfl (fun _ _ _ _ h => h) (Gh.le_refl _) PickC.pick rfl (PV.field rfl Fo95_0 rfl) ?_
 refine RH.pv rfl (fun _ _ _ _ h => h) (Gh.le_refl _) PickC.pick rfl (PV.load1 rfl Sc2 rfl (Rd.blk rfl)) ?_
 refine RH.pv rfl (fun _ _ _ _ h => h) (Gh.le_refl _) PickC.pick rfl (PV.field rfl Fo189_0 rfl) ?_
 refine RH.pv rfl (fun _ _ _ _ h => h) (Gh.le_refl _) PickC.pick rfl (PV.load1 rfl Sc2 rfl (Rd.blk rfl)) ?_
 refine RH.pv rfl (fun _ _ _ _ h => h) (Gh.le_refl _) PickC.pick rfl (PV.field rfl Fo189_1 rfl) ?_
 refine RH.pv rfl (fun _ _ _ _ h => h) (Gh.le_refl _) PickC.pick rfl (PV.load1 rfl Sc2 rfl (Rd.blk rfl)) ?_
 refine RH.ot rfl rfl (OT.callF (vs := [_, _]) rfl En275 rfl (composed_i ho hu.1 ⟨Gh.le_refl _, PickC.pick, ?_⟩))
 refine RH.pv rfl (fun _ _ _ _ h => h) (Gh.le_refl _) PickC.pick rfl (PV.build (vs := [(0, [vi _]), (1, [vi _]), (2, [vi _])]) (out := [_, _, _]) rfl Zr95 Pl95 ⟨rfl, (Cl.c rfl), ⟨rfl, (Cl.c rfl), ⟨rfl, (Cl.c rfl), trivial⟩⟩⟩ rfl) ?_
 refine RH.ot rfl rfl (OT.storeW (vs := [vi _, vi _, vi _]) rfl Sz95 rfl rfl (Cl.c rfl) rfl rfl (OneC.c rfl) ⟨Gh.le_refl _, PickC.pick, ?_⟩)
 refine RH.nil ?_
 refine WP.ret ?_
 exact ⟨_, _, ResV.one rfl (RV1.cell rfl Ag95 rfl), Cv.p, k⟩
theorem elPlace_i {n : Inst} {kk : Int} {c r : Nat} (hk : okIn kk n = true) (hc : c < n.cols.toNat) (hr : r < n.rows.toNat) (k : R (vtrans (elPlace n c r)) G L) : CallT Tryz.prog 128 #[vT instT n, vi c, vi r] G L R := by
 obtain ⟨_, h2, h3, h4, h5, h6⟩ := okIn_bd hk
 obtain ⟨q1, q2, q3⟩ := validT_iff.1 h2
 have e1 := mul_bd (a := (c : Int)) (b := n.sx) (A := 3) (B := 80) (by omega) h5 (by omega)
 have e2 := mul_bd (a := (r : Int)) (b := n.sy) (A := 3) (B := 80) (by omega) h6 (by omega)
 refine CallT.enter (args := _) Tryz.func128 rfl rfl (by kernel_rfl) rfl ?_
 refine WP.seq (WP.region ?_)
 refine RG.ot rfl (OT.box (cs := instT.enc n) rfl rfl rfl fun b3 => ?_)
 refine RG.ot rfl (OT.alloc rfl Zr95 fun b6 => ?_)
 refine RG.nil (WP.seq (WP.region (RG.pv rfl (PV.field rfl Fo173_1 rfl) (RG.pv rfl (PV.field rfl Fo95_0 rfl) (RG.pv rfl (PV.load1 rfl Sc2 rfl (Rd.blk rfl)) (RG.pv rfl (PV.field rfl Fo173_1 rfl) (RG.pv rfl (PV.field rfl Fo95_1 rfl) ?_)))))))
 refine RG.pv rfl (PV.load1 rfl Sc2 rfl (Rd.blk rfl)) (RG.ml rfl rfl rfl (RG.pv rfl (PV.field rfl Fo173_4 rfl) (RG.pv rfl (PV.load1 rfl Sc2 rfl (Rd.blk rfl)) (RG.pv rfl (PV.mul rfl rfl rfl (by omega)) (RG.pv rfl (PV.add rfl rfl rfl (by omega)) (RG.pv rfl (PV.field rfl Fo173_1 rfl) (RG.pv rfl (PV.field rfl Fo95_2 rfl) ?_)))))))
 refine RG.pv rfl (PV.load1 rfl Sc2 rfl (Rd.blk rfl)) (RG.ml rfl rfl rfl (RG.pv rfl (PV.field rfl Fo173_5 rfl) (RG.pv rfl (PV.load1 rfl Sc2 rfl (Rd.blk rfl)) (RG.pv rfl (PV.mul rfl rfl rfl (by omega)) (RG.pv rfl (PV.add rfl rfl rfl (by omega)) (RG.pv rfl (PV.build (vs := [(0, [vi _]), (1, [vi _]), (2, [vi _])]) (out := [_, _, _]) rfl Zr95 Pl95 ⟨rfl, (Cl.c rfl), ⟨rfl, (Cl.c rfl), ⟨rfl, (Cl.c rfl), trivial⟩⟩⟩ rfl) ?_))))))
 refine RG.ot rfl (OT.storeW (vs := [vi _, vi _, vi _]) rfl Sz95 rfl rfl (Cl.c rfl) rfl rfl (OneC.c rfl) ?_)
 refine RG.nil ?_
 refine WP.ret ?_
 exact ⟨_, _, ResV.one rfl (RV1.cell rfl Ag95 rfl), Cv.p, k⟩
theorem elPlace_r {n : Inst} {kk : Int} {c r : Nat} (hk : okIn kk n = true) (hc : c < n.cols.toNat) (hr : r < n.rows.toNat) (k : R (vtrans (elPlace n c r)) G L) : CallT Tryz.prog 197 #[vT instT n, vi c, vi r] G L R := by
 obtain ⟨_, h2, h3, h4, h5, h6⟩ := okIn_bd hk
 obtain ⟨q1, q2, q3⟩ := validT_iff.1 h2
 have e1 := mul_bd (a := (c : Int)) (b := n.sx) (A := 3) (B := 80) (by omega) h5 (by omega)
 have e2 := mul_bd (a := (r : Int)) (b := n.sy) (A := 3) (B := 80) (by omega) h6 (by omega)
 refine CallT.enter (args := _) Tryz.func197 rfl rfl (by kernel_rfl) rfl ?_
 refine WP.seq (WP.region ?_)
 refine RG.ot rfl (OT.box (cs := instT.enc n) rfl rfl rfl fun b3 => ?_)
 refine RG.ot rfl (OT.alloc rfl Zr95 fun b6 => ?_)
 refine RG.nil (WP.seq (WP.region (RG.pv rfl (PV.field rfl Fo173_1 rfl) (RG.pv rfl (PV.field rfl Fo95_0 rfl) (RG.pv rfl (PV.load1 rfl Sc2 rfl (Rd.blk rfl)) (RG.pv rfl (PV.field rfl Fo173_1 rfl) (RG.pv rfl (PV.field rfl Fo95_1 rfl) ?_)))))))
 refine RG.pv rfl (PV.load1 rfl Sc2 rfl (Rd.blk rfl)) (RG.ml rfl rfl rfl (RG.pv rfl (PV.field rfl Fo173_4 rfl) (RG.pv rfl (PV.load1 rfl Sc2 rfl (Rd.blk rfl)) (RG.pv rfl (PV.mul rfl rfl rfl (by omega)) (RG.pv rfl (PV.add rfl rfl rfl (by omega)) (RG.pv rfl (PV.field rfl Fo173_1 rfl) (RG.pv rfl (PV.field rfl Fo95_2 rfl) ?_)))))))
 refine RG.pv rfl (PV.load1 rfl Sc2 rfl (Rd.blk rfl)) (RG.ml rfl rfl rfl (RG.pv rfl (PV.field rfl Fo173_5 rfl) (RG.pv rfl (PV.load1 rfl Sc2 rfl (Rd.blk rfl)) (RG.pv rfl (PV.mul rfl rfl rfl (by omega)) (RG.pv rfl (PV.add rfl rfl rfl (by omega)) (RG.pv rfl (PV.build (vs := [(0, [vi _]), (1, [vi _]), (2, [vi _])]) (out := [_, _, _]) rfl Zr95 Pl95 ⟨rfl, (Cl.c rfl), ⟨rfl, (Cl.c rfl), ⟨rfl, (Cl.c rfl), trivial⟩⟩⟩ rfl) ?_))))))
 refine RG.ot rfl (OT.storeW (vs := [vi _, vi _, vi _]) rfl Sz95 rfl rfl (Cl.c rfl) rfl rfl (OneC.c rfl) ?_)
 refine RG.nil ?_
 refine WP.ret ?_
 exact ⟨_, _, ResV.one rfl (RV1.cell rfl Ag95 rfl), Cv.p, k⟩
/-- the instances of a cell, each valid -/
def okNs (ns : List Inst) : Prop := ns.length ≤ 8 ∧ ∃ kk, ∀ j, j < ns.length → okIn kk (gd ns j) = true
theorem okLib_ns {cs : List ECell} (h : okLib cs = true) {i : Nat} (hi : i < cs.length) : okNs (gd cs i).insts := ⟨(okLib_cnt h hi).1, i, fun j hj => okLib_inst h hi hj⟩
theorem elems_bd2 {ns : List Inst} (h : okNs ns) : ∀ i, i ≤ ns.length → (elems (ns.take i)).length ≤ 16 * i
 | 0, _ => by simp [elems]
 | i + 1, hi => by
   obtain ⟨h1, kk, h2⟩ := id h
   have ih := elems_bd2 h i (by omega)
   obtain ⟨_, _, h3, h4, _, _⟩ := okIn_bd (h2 i (by omega))
   have := Nat.mul_le_mul (show (gd ns i).rows.toNat ≤ 4 by omega) (show (gd ns i).cols.toNat ≤ 4 by omega)
   rw [elems_take (by omega), List.length_append, elsOf_len]; omega
/-- the elements before the q-th of the i-th instance -/
def elTo (ns : List Inst) (i q : Nat) : List HElem := elems (ns.take i) ++ (elsOf (gd ns i)).take q
theorem elTo_zero (ns : List Inst) (i : Nat) : elems (ns.take i) = elTo ns i 0 := by simp [elTo]
theorem elTo_step {ns : List Inst} {i r q : Nat} (hq : q < (gd ns i).cols.toNat) (hr : r < (gd ns i).rows.toNat) : elTo ns i (r * (gd ns i).cols.toNat + q) ++ [⟨(gd ns i).cell, elPlace (gd ns i) q r⟩] = elTo ns i (r * (gd ns i).cols.toNat + (q + 1)) := by
 rw [elTo, elTo, elsOf_step hq hr, List.append_assoc]
theorem elTo_all {ns : List Inst} {i q : Nat} (hi : i < ns.length) (h : (gd ns i).rows.toNat * (gd ns i).cols.toNat ≤ q) : elTo ns i q = elems (ns.take (i + 1)) := by
 rw [elTo, elems_take hi, List.take_of_length_le (i := q) (by rw [elsOf_len]; exact h)]
theorem elTo_len {ns : List Inst} (h : okNs ns) {i q : Nat} (hi : i < ns.length) : (elTo ns i q).length ≤ 1000 := by
 have h1 := elems_bd2 h i (by omega)
 obtain ⟨h2, kk, h3⟩ := h
 obtain ⟨_, _, q3, q4, _, _⟩ := okIn_bd (h3 i hi)
 have hm := Nat.mul_le_mul (show (gd ns i).rows.toNat ≤ 4 by omega) (show (gd ns i).cols.toNat ≤ 4 by omega)
 rw [elTo, List.length_append, List.length_take, elsOf_len]; omega
theorem elems_i {c : Cell} (h3 : Rs G L instT c.insts.v c.insts.xs) (hok : okNs c.insts.xs) (k : ∀ v', R v' G (osl 108 helemT v' (elems c.insts.xs) :: L)) : CallT Tryz.prog 65 #[vT cellT c] G L R := by
 obtain ⟨h1, kk, h2⟩ := id hok
 refine CallT.enter (args := _) Tryz.func65 rfl rfl (by kernel_rfl) rfl ?_
 refine WP.seq (WP.region ?_)
 refine RG.ot rfl (OT.box (cs := cellT.enc c) rfl rfl rfl fun b1 => ?_)
 refine RG.pv rfl (PV.asg rfl rfl) (RG.nil (WP.seq (WP.region ?_)))
 refine RG.ot rfl (OT.bslice (F := helemT) (els := []) rfl El109 rfl (by decide) rfl (by decide) trivial fun v8 => ?_)
 refine RG.pv rfl (PV.asg (v := v8) rfl rfl) (RG.nil (WP.seq (WP.seq (WP.region (RG.pv rfl (PV.field rfl Fo115_3 rfl) (RG.pv rfl (PV.load1 rfl Sc113 rfl (Rd.blk rfl)) (RG.pv rfl (PV.len rfl Tryz.underlying113 rfl (SlF.r h3)) ?_)))))))
 refine RG.ml rfl rfl rfl (RG.nil (WP.block ?_))
 refine WP.cv (Cv.eqS (ys := elems (c.insts.xs.take 0)) rfl) ?_
 refine WP.loop2 [10, 11] (fun (i : Nat) (v : Value) => i ≤ c.insts.xs.length) (fun (i : Nat) (v : Value) => [(12, vi i), (3, v)]) (fun (i : Nat) (v : Value) => osl 108 helemT v (elems (c.insts.xs.take i)) :: L) (fun (i : Nat) (v : Value) => c.insts.xs.length - i) 0 v8 (by omega) ⟨rfl, rfl, trivial⟩ Cv.p ?_
 rintro i v τ hi
 refine WP.seq (WP.region (RG.pv rfl (PV.lss rfl rfl rfl) (RG.nil (WP.seq ?_))))
 have hel := elems_bd2 hok i hi
 refine WP.cond rfl (fun h4 => ?_) (fun h4 => ?_)
 · have h4 := of_decide_eq_true h4
   have h5 : i < c.insts.xs.length := by omega
   obtain ⟨_, _, q3, q4, _, _⟩ := okIn_bd (h2 i h5)
   refine WP.skip (WP.seq (WP.block (WP.seq (WP.region (RG.pv rfl (PV.idxS rfl Is113 rfl (SlF.r h3) rfl rfl (by omega)) (RG.pv rfl (PV.loadE rfl Ag173 rfl rfl (El.r h3 (getG (by omega)))) ?_))))))
   refine RG.ot rfl (OT.alloc rfl Zr173 fun b5 => ?_)
   refine RG.ot rfl (OT.storeW (vs := [vi _, vi _, vi _, vi _, vi _, vi _, vi _, vi _]) rfl Sz173 rfl rfl (Cl.c rfl) rfl rfl (OneC.c rfl) ?_)
   refine RG.nil (WP.seq (WP.region (RG.pv rfl (PV.field rfl Fo173_3 rfl) (RG.pv rfl (PV.load1 rfl Sc2 rfl (Rd.blk rfl)) (RG.ml rfl rfl rfl (RG.nil (WP.block ?_)))))))
   refine WP.cv ((Cv.p (C := osl 108 helemT v (elems (c.insts.xs.take i)) :: blk b5 173 (instT.enc (gd c.insts.xs i)) :: L)).trans (Cv.eqS (ys := elTo c.insts.xs i (0 * (gd c.insts.xs i).cols.toNat)) (by rw [Nat.zero_mul]; exact elTo_zero _ _))) ?_
   refine WP.loop2 [5, 10, 11, 12, 17] (fun (r : Nat) (v : Value) => r ≤ (gd c.insts.xs i).rows.toNat) (fun (r : Nat) (v : Value) => [(18, vi r), (3, v)]) (fun (r : Nat) (v : Value) => osl 108 helemT v (elTo c.insts.xs i (r * (gd c.insts.xs i).cols.toNat)) :: blk b5 173 (instT.enc (gd c.insts.xs i)) :: L) (fun (r : Nat) (v : Value) => (gd c.insts.xs i).rows.toNat - r) 0 v (by omega) ⟨rfl, rfl, trivial⟩ Cv.p ?_
   rintro r v τ hr
   refine WP.seq (WP.region (RG.pv rfl (PV.lss rfl rfl rfl) (RG.nil (WP.seq ?_))))
   refine WP.cond rfl (fun h6 => ?_) (fun h6 => ?_)
   · have h6 := of_decide_eq_true h6
     refine WP.skip (WP.seq (WP.block (WP.seq (WP.region (RG.ml rfl rfl rfl (RG.mr rfl rfl rfl (RG.nil ?_)))))))
     refine WP.seq (WP.region (RG.pv rfl (PV.field rfl Fo173_2 rfl) (RG.pv rfl (PV.load1 rfl Sc2 rfl (Rd.blk rfl)) (RG.ml rfl rfl rfl (RG.nil (WP.block ?_))))))
     refine WP.cv (Cv.eqS (ys := elTo c.insts.xs i (r * (gd c.insts.xs i).cols.toNat + 0)) rfl) ?_
     refine WP.loop2 [5, 6, 10, 11, 12, 17, 18, 22] (fun (q : Nat) (v : Value) => q ≤ (gd c.insts.xs i).cols.toNat) (fun (q : Nat) (v : Value) => [(23, vi q), (3, v)]) (fun (q : Nat) (v : Value) => osl 108 helemT v (elTo c.insts.xs i (r * (gd c.insts.xs i).cols.toNat + q)) :: blk b5 173 (instT.enc (gd c.insts.xs i)) :: L) (fun (q : Nat) (v : Value) => (gd c.insts.xs i).cols.toNat - q) 0 v (by omega) ⟨rfl, rfl, trivial⟩ Cv.p ?_
     rintro q v τ hq
     refine WP.seq (WP.region (RG.pv rfl (PV.lss rfl rfl rfl) (RG.nil (WP.seq ?_))))
     refine WP.cond rfl (fun h7 => ?_) (fun h7 => ?_)
     · have h7 := of_decide_eq_true h7
       have hll := elTo_len hok (i := i) (q := r * (gd c.insts.xs i).cols.toNat + q) h5
       refine WP.skip (WP.seq (WP.block (WP.seq (WP.region (RG.ml rfl rfl rfl (RG.mr rfl rfl rfl (RG.nil ?_)))))))
       refine WP.regionHD [.s v] (.q 0 (.q 1 (.q 2 (.q 3 (.q 4 (.q 5 (.l 6 (.q 7 (.l 8 (.l 9 (.q 10 Sch.nil))))))))))) (by kernel_rfl) (by kernel_rfl) (by kernel_rfl) rfl ?_
       refine RH.pv rfl (fun _ _ _ _ h => h) (Gh.le_refl _) PickC.pick rfl (PV.move (v := v) rfl rfl) ?_
       refine RH.pv rfl (fun _ _ _ _ h => h) (Gh.le_refl _) PickC.pick rfl (PV.field rfl Fo173_0 rfl) ?_
       refine RH.pv rfl (fun _ _ _ _ h => h) (Gh.le_refl _) PickC.pick rfl (PV.load1 rfl Sc2 rfl (Rd.blk rfl)) ?_
       refine RH.pv rfl (fun _ _ _ _ h => h) (Gh.le_refl _) PickC.pick rfl (PV.loadW rfl Ag173 rfl rfl) ?_
       refine RH.pv rfl (fun _ _ _ _ h => h) (Gh.le_refl _) PickC.pick rfl (PV.mvI (.inl rfl) rfl) ?_
       refine RH.pv rfl (fun _ _ _ _ h => h) (Gh.le_refl _) PickC.pick rfl (PV.mvI (.inl rfl) rfl) ?_
       refine RH.ot rfl rfl (OT.callF (vs := [_, _, _]) rfl En128 rfl (elPlace_i (h2 i (by omega)) (by omega) (by omega) ⟨Gh.le_refl _, PickC.pick, ?_⟩))
       refine RH.pv rfl (fun _ _ _ _ h => h) (Gh.le_refl _) PickC.pick rfl (PV.build (vs := [(0, [vi _]), (1, [vi _, vi _, vi _])]) (out := [_, _, _, _]) rfl Zr108 Pl108 ⟨rfl, (Cl.c rfl), ⟨rfl, (Cl.c rfl), trivial⟩⟩ rfl) ?_
       refine RH.ot rfl rfl (OT.bslice (F := helemT) (els := [⟨_, _⟩]) rfl El109 rfl (by decide) rfl (by decide) ⟨rfl, (Cl.c rfl), trivial⟩ fun v34 => ⟨Gh.le_refl _, PickC.pick, ?_⟩)
       refine RH.ot rfl rfl (OT.append (v := v) (u := v34) (F := helemT) rfl El109 rfl (by decide) rfl rfl Rs.o (OneL.c (fun _ => rfl)) rfl (by first | omega | (simp <;> omega)) fun v35 => ⟨Gh.le_refl _, PickC.pick, ?_⟩)
       refine RH.pv rfl (fun _ _ _ _ h => h) (Gh.le_refl _) PickC.pick rfl (PV.asg (v := v35) rfl rfl) ?_
       refine RH.nil ?_
       refine WP.region (RG.pv rfl (PV.add rfl rfl rfl (by omega)) (RG.ml rfl rfl rfl (RG.nil ?_)))
       exact ⟨rfl, q + 1, v35, (by omega), ⟨rfl, rfl, trivial⟩, ⟨rfl, rfl, rfl, rfl, rfl, rfl, rfl, rfl, trivial⟩, ((Cv.p (C := osl 108 helemT v35 (elTo c.insts.xs i (r * (gd c.insts.xs i).cols.toNat + q) ++ [⟨(gd c.insts.xs i).cell, ⟨(gd c.insts.xs i).place.o, (gd c.insts.xs i).place.x + (q : Int) * (gd c.insts.xs i).sx, (gd c.insts.xs i).place.y + (r : Int) * (gd c.insts.xs i).sy⟩⟩]) :: blk b5 173 (instT.enc (gd c.insts.xs i)) :: L)).trans (Cv.eqS (elTo_step (ns := c.insts.xs) (i := i) (r := r) (q := q) (by omega) (by omega)))), by omega⟩
     · have h7 := of_decide_eq_false h7
       have e : r * (gd c.insts.xs i).cols.toNat + q = (r + 1) * (gd c.insts.xs i).cols.toNat := by rw [Nat.add_mul]; omega
       refine WP.exit ?_
       refine WP.region (RG.pv rfl (PV.add rfl rfl rfl (by omega)) (RG.ml rfl rfl rfl (RG.nil ?_)))
       exact ⟨rfl, r + 1, v, (by omega), ⟨rfl, rfl, trivial⟩, ⟨rfl, rfl, rfl, rfl, rfl, trivial⟩, (Cv.eqS (by rw [e])), by omega⟩
   · have h6 := of_decide_eq_false h6
     refine WP.exit ?_
     refine WP.region (RG.pv rfl (PV.add rfl rfl rfl (by omega)) (RG.ml rfl rfl rfl (RG.nil ?_)))
     exact ⟨rfl, i + 1, v, (by omega), ⟨rfl, rfl, trivial⟩, ⟨rfl, rfl, trivial⟩, ((Cv.eqS (ys := elems (c.insts.xs.take (i + 1))) (elTo_all h5 (Nat.mul_le_mul_right _ (by omega)))).trans Cv.p), by omega⟩
 · have h4 := of_decide_eq_false h4
   have e : c.insts.xs.take i = c.insts.xs := List.take_of_length_le (by omega)
   rw [e]
   refine WP.exit ?_
   refine WP.seq (WP.region (RG.pv rfl (PV.move (v := v) rfl rfl) (RG.pv rfl (PV.asg (v := v) rfl rfl) (RG.nil ?_))))
   refine WP.ret ?_
   exact ⟨_, _, ResV.one rfl rfl, Cv.p, k v⟩
theorem l10Point_r {t : Trans} {p : Pt} (ht : TBig t) (hp : InB 1000 p) (k : R (vpt (moveP t p)) G L) : CallT Tryz.prog 216 #[vtrans t, vpt p] G L R := by
 have hf : InB 1000 (flip t.o p) := flip_in hp
 obtain ⟨hq1, hq2, hq3, hq4⟩ : InB 1000 (turnP t.o p) := turnP_in hp
 obtain ⟨hp1, hp2, hp3, hp4⟩ := hp
 obtain ⟨ho, ht1, ht2, ht3, ht4⟩ := ht
 refine CallT.enter (args := _) Tryz.func216 rfl rfl (by kernel_rfl) rfl ?_
 refine WP.seq (WP.region ?_)
 refine RG.ot rfl (OT.box (cs := transT.enc t) rfl rfl rfl fun b2 => ?_)
 refine RG.ot rfl (OT.box (cs := ptT.enc p) rfl rfl rfl fun b3 => ?_)
 refine RG.ot rfl (OT.alloc rfl Zr189 fun b4 => ?_)
 refine RG.nil (WP.seq (WP.region (RG.pv rfl (PV.field rfl Fo189_0 rfl) (RG.pv rfl (PV.load1 rfl Sc2 rfl (Rd.blk rfl)) (RG.mr rfl rfl rfl (RG.nil (WP.seq ?_)))))))
 refine WP.region (RG.pv rfl (PV.field rfl Fo189_1 rfl) (RG.pv rfl (PV.load1 rfl Sc2 rfl (Rd.blk rfl)) (RG.mr rfl rfl rfl (RG.nil ?_))))
 refine WP.cut1 [2, 4] (fun (q : Pt) => q = flip t.o p) (fun (q : Pt) => [(5, vi q.x), (6, vi q.y)]) (fun (q : Pt) => blk b2 95 (transT.enc t) :: blk b4 189 [vi 0, vi 0] :: L) ?_ ?_
 refine WP.seq (WP.region (RG.pv rfl (PV.field rfl Fo95_0 rfl) (RG.pv rfl (PV.load1 rfl Sc2 rfl (Rd.blk rfl)) (RG.pv rfl (PV.geq rfl rfl rfl) (RG.nil ?_)))))
 refine WP.cond rfl (fun h1 => ?_) (fun h1 => ?_)
 · have h1 := of_decide_eq_true h1
   refine WP.region (RG.ml rfl rfl rfl (RG.pv rfl (PV.neg rfl rfl (by omega)) (RG.mr rfl rfl rfl (RG.nil ?_))))
   exact ⟨rfl, (⟨p.x, -p.y⟩ : Pt), (by rw [flip, if_pos (by omega)]), ⟨rfl, rfl, trivial⟩, ⟨rfl, rfl, trivial⟩, Cv.p⟩
 · have h1 := of_decide_eq_false h1
   refine WP.skip ?_
   exact ⟨rfl, p, (by rw [flip, if_neg (by omega)]), ⟨rfl, rfl, trivial⟩, ⟨rfl, rfl, trivial⟩, Cv.p⟩
 rintro q τ1 hq
 refine WP.seq (WP.seq (WP.region (RG.pv rfl (PV.field rfl Fo95_0 rfl) (RG.pv rfl (PV.load1 rfl Sc2 rfl (Rd.blk rfl)) (RG.pv rfl (PV.rem rfl rfl rfl (by omega) (by omega) (by omega)) (RG.mr rfl rfl rfl (RG.nil ?_)))))))
 refine WP.block ?_
 subst hq
 refine WP.loop2 [2, 4] (fun (n : Int) (q : Pt) => (0 ≤ n ∧ n < 4) ∧ rot n.toNat q = turnP t.o p ∧ InB 1000 q) (fun (n : Int) (q : Pt) => [(7, vi n), (5, vi q.x), (6, vi q.y)]) (fun (n : Int) (q : Pt) => blk b2 95 (transT.enc t) :: blk b4 189 [vi 0, vi 0] :: L) (fun (n : Int) (q : Pt) => n.toNat) (t.o % 4) (flip t.o p) ⟨by omega, rfl, hf⟩ ⟨rfl, rfl, rfl, trivial⟩ Cv.p ?_
 rintro n q τ ⟨hn, hr, hi1, hi2, hi3, hi4⟩
 refine WP.seq (WP.seq (WP.region (RG.ml rfl rfl rfl (RG.pv rfl (PV.gtr rfl rfl rfl) (RG.nil ?_)))))
 refine WP.cond rfl (fun h2 => ?_) (fun h2 => ?_)
 · have h2 := of_decide_eq_true h2
   refine WP.skip (WP.seq (WP.block (WP.region (RG.ml rfl rfl rfl (RG.pv rfl (PV.neg rfl rfl (by omega)) (RG.ml rfl rfl rfl (RG.mr rfl rfl rfl ?_)))))))
   refine RG.mr rfl rfl rfl (RG.nil (WP.region (RG.ml rfl rfl rfl (RG.pv rfl (PV.sub rfl rfl rfl (by omega)) (RG.mr rfl rfl rfl (RG.nil ?_))))))
   refine ⟨rfl, n - 1, ⟨-q.y, q.x⟩, ⟨by omega, ?_, by simp only; omega, by simp only; omega, hi1, hi2⟩, ⟨rfl, rfl, rfl, trivial⟩, ⟨rfl, rfl, trivial⟩, Cv.p, by omega⟩
   rw [← hr, show n.toNat = (n - 1).toNat + 1 by omega]; rfl
 · have h2 := of_decide_eq_false h2
   have e : turnP t.o p = q := by rw [← hr, show n.toNat = 0 by omega]; rfl
   rw [moveP, e] at k
   refine WP.exit ?_
   refine WP.seq (WP.region (RG.ml rfl rfl rfl (RG.pv rfl (PV.field rfl Fo95_1 rfl) (RG.pv rfl (PV.load1 rfl Sc2 rfl (Rd.blk rfl)) (RG.pv rfl (PV.add rfl rfl rfl (by omega)) (RG.ml rfl rfl rfl (RG.pv rfl (PV.field rfl Fo95_2 rfl) ?_)))))))
   refine RG.pv rfl (PV.load1 rfl Sc2 rfl (Rd.blk rfl)) (RG.pv rfl (PV.add rfl rfl rfl (by omega)) (RG.pv rfl (PV.build (vs := [(0, [vi _]), (1, [vi _])]) (out := [_, _]) rfl Zr189 Pl189 ⟨rfl, (Cl.c rfl), ⟨rfl, (Cl.c rfl), trivial⟩⟩ rfl) ?_))
   refine RG.ot rfl (OT.storeW (vs := [vi _, vi _]) rfl Sz189 rfl rfl (Cl.c rfl) rfl rfl (OneC.c rfl) ?_)
   refine RG.nil ?_
   refine WP.ret ?_
   exact ⟨_, _, ResV.one rfl (RV1.cell rfl Ag189 rfl), Cv.p, k⟩
theorem l10Rect_r {t : Trans} {r : Rect} (ht : TBig t) (hr : RIn 40 r) (k : R (vrect (moveR t r)) G L) : CallT Tryz.prog 142 #[vtrans t, vrect r] G L R := by
 refine CallT.enter (args := _) Tryz.func142 rfl rfl (by kernel_rfl) rfl ?_
 refine WP.seq (WP.region ?_)
 refine RG.ot rfl (OT.box (cs := transT.enc t) rfl rfl rfl fun b2 => ?_)
 refine RG.ot rfl (OT.box (cs := rectT.enc r) rfl rfl rfl fun b3 => ?_)
 refine RG.ot rfl (OT.alloc rfl Zr91 fun b4 => ?_)
 refine RG.nil (WP.seq (WP.region (RG.pv rfl (PV.loadW rfl Ag95 rfl rfl) (RG.pv rfl (PV.field rfl Fo91_0 rfl) (RG.pv rfl (PV.load1 rfl Sc2 rfl (Rd.blk rfl)) (RG.pv rfl (PV.field rfl Fo91_1 rfl) (RG.pv rfl (PV.load1 rfl Sc2 rfl (Rd.blk rfl)) ?_)))))))
 refine RG.pv rfl (PV.build (vs := [(0, [vi _]), (1, [vi _])]) (out := [_, _]) rfl Zr189 Pl189 ⟨rfl, (Cl.c rfl), ⟨rfl, (Cl.c rfl), trivial⟩⟩ rfl) ?_
 refine RG.callF (vs := [_, _]) rfl rfl En216 rfl (l10Point_r (p := ⟨_, _⟩) ht (by first | exact (RIn_pts hr).1 | exact (RIn_pts hr).2) ?_)
 refine RG.ot rfl (OT.alloc rfl Zr189 fun b5 => ?_)
 refine RG.ot rfl (OT.storeW (vs := [vi _, vi _]) rfl Sz189 rfl rfl (Cl.c rfl) rfl rfl (OneC.c rfl) ?_)
 refine RG.nil (WP.seq (WP.region (RG.pv rfl (PV.loadW rfl Ag95 rfl rfl) (RG.pv rfl (PV.field rfl Fo91_2 rfl) (RG.pv rfl (PV.load1 rfl Sc2 rfl (Rd.blk rfl)) (RG.pv rfl (PV.field rfl Fo91_3 rfl) (RG.pv rfl (PV.load1 rfl Sc2 rfl (Rd.blk rfl)) ?_)))))))
 refine RG.pv rfl (PV.build (vs := [(0, [vi _]), (1, [vi _])]) (out := [_, _]) rfl Zr189 Pl189 ⟨rfl, (Cl.c rfl), ⟨rfl, (Cl.c rfl), trivial⟩⟩ rfl) ?_
 refine RG.callF (vs := [_, _]) rfl rfl En216 rfl (l10Point_r (p := ⟨_, _⟩) ht (by first | exact (RIn_pts hr).1 | exact (RIn_pts hr).2) ?_)
 refine RG.ot rfl (OT.alloc rfl Zr189 fun b6 => ?_)
 refine RG.ot rfl (OT.storeW (vs := [vi _, vi _]) rfl Sz189 rfl rfl (Cl.c rfl) rfl rfl (OneC.c rfl) ?_)
 refine RG.nil (WP.seq (WP.region (RG.pv rfl (PV.field rfl Fo189_0 rfl) (RG.pv rfl (PV.load1 rfl Sc2 rfl (Rd.blk rfl)) (RG.pv rfl (PV.field rfl Fo189_0 rfl) (RG.pv rfl (PV.load1 rfl Sc2 rfl (Rd.blk rfl)) (RG.pv rfl (PV.min2 rfl rfl rfl) ?_)))))))
 refine RG.pv rfl (PV.field rfl Fo189_1 rfl) (RG.pv rfl (PV.load1 rfl Sc2 rfl (Rd.blk rfl)) (RG.pv rfl (PV.field rfl Fo189_1 rfl) (RG.pv rfl (PV.load1 rfl Sc2 rfl (Rd.blk rfl)) (RG.pv rfl (PV.min2 rfl rfl rfl) (RG.pv rfl (PV.field rfl Fo189_0 rfl) (RG.pv rfl (PV.load1 rfl Sc2 rfl (Rd.blk rfl)) (RG.pv rfl (PV.field rfl Fo189_0 rfl) ?_)))))))
 refine RG.pv rfl (PV.load1 rfl Sc2 rfl (Rd.blk rfl)) (RG.pv rfl (PV.max2 rfl rfl rfl) (RG.pv rfl (PV.field rfl Fo189_1 rfl) (RG.pv rfl (PV.load1 rfl Sc2 rfl (Rd.blk rfl)) (RG.pv rfl (PV.field rfl Fo189_1 rfl) (RG.pv rfl (PV.load1 rfl Sc2 rfl (Rd.blk rfl)) (RG.pv rfl (PV.max2 rfl rfl rfl) (RG.pv rfl (PV.build (vs := [(0, [vi _]), (1, [vi _]), (2, [vi _]), (3, [vi _])]) (out := [_, _, _, _]) rfl Zr91 Pl91 ⟨rfl, (Cl.c rfl), ⟨rfl, (Cl.c rfl), ⟨rfl, (Cl.c rfl), ⟨rfl, (Cl.c rfl), trivial⟩⟩⟩⟩ rfl) ?_)))))))
 refine RG.ot rfl (OT.storeW (vs := [vi _, vi _, vi _, vi _]) rfl Sz91 rfl rfl (Cl.c rfl) rfl rfl (OneC.c rfl) ?_)
 refine RG.nil ?_
 refine WP.ret ?_
 exact ⟨_, _, ResV.one rfl (RV1.cell rfl Ag91 rfl), Cv.p, k⟩
theorem l10After_r {t u : Trans} (ho : 0 ≤ t.o ∧ t.o ≤ 7) (ht : (-1000 ≤ t.x ∧ t.x ≤ 1000) ∧ -1000 ≤ t.y ∧ t.y ≤ 1000) (hu : TBig u) (k : R (vtrans (cmpT t u)) G L) : CallT Tryz.prog 198 #[vtrans u, vtrans t] G L R := by
 obtain ⟨hu1, _⟩ := id hu
 refine CallT.enter (args := _) Tryz.func198 rfl rfl (by kernel_rfl) rfl ?_
 refine WP.seq (WP.region ?_)
 refine RG.ot rfl (OT.box (cs := transT.enc u) rfl rfl rfl fun b2 => ?_)
 refine RG.ot rfl (OT.box (cs := transT.enc t) rfl rfl rfl fun b3 => ?_)
 refine RG.ot rfl (OT.alloc rfl Zr95 fun b4 => ?_)
 refine RG.nil (WP.seq (WP.region (RG.pv rfl (PV.field rfl Fo95_0 rfl) (RG.pv rfl (PV.load1 rfl Sc2 rfl (Rd.blk rfl)) (RG.pv rfl (PV.rem rfl rfl rfl (by omega) (by omega) (by omega)) (RG.mr rfl rfl rfl (RG.nil ?_)))))))
 refine WP.seq (WP.region (RG.pv rfl (PV.field rfl Fo95_0 rfl) (RG.pv rfl (PV.load1 rfl Sc2 rfl (Rd.blk rfl)) (RG.pv rfl (PV.quo rfl rfl rfl (by omega) (by omega) (by omega)) (RG.mr rfl rfl rfl (RG.nil ?_))))))
 refine WP.cut2 [2, 3, 4] (fun (a b : Int) => a = (if 4 ≤ u.o then -(t.o % 4) else t.o % 4) ∧ b = (if 4 ≤ u.o then 1 - t.o / 4 else t.o / 4)) (fun (a b : Int) => [(5, vi a), (6, vi b)]) (fun (a b : Int) => blk b2 95 (transT.enc u) :: blk b3 95 (transT.enc t) :: blk b4 95 [vi 0, vi 0, vi 0] :: L) ?_ ?_
 refine WP.seq (WP.region (RG.pv rfl (PV.field rfl Fo95_0 rfl) (RG.pv rfl (PV.load1 rfl Sc2 rfl (Rd.blk rfl)) (RG.pv rfl (PV.geq rfl rfl rfl) (RG.nil ?_)))))
 refine WP.cond rfl (fun h1 => ?_) (fun h1 => ?_)
 · have h1 := of_decide_eq_true h1
   refine WP.seq (WP.region (RG.ml rfl rfl rfl (RG.pv rfl (PV.neg rfl rfl (by omega)) (RG.mr rfl rfl rfl (RG.nil (WP.region (RG.ml rfl rfl rfl ?_)))))))
   refine RG.pv rfl (PV.sub rfl rfl rfl (by omega)) (RG.mr rfl rfl rfl (RG.nil ?_))
   exact ⟨rfl, (-(t.o % 4)), (1 - t.o / 4), ⟨by rw [if_pos (by omega)], by rw [if_pos (by omega)]⟩, ⟨rfl, rfl, trivial⟩, ⟨rfl, rfl, rfl, trivial⟩, Cv.p⟩
 · have h1 := of_decide_eq_false h1
   refine WP.skip ?_
   exact ⟨rfl, (t.o % 4), (t.o / 4), ⟨by rw [if_neg (by omega)], by rw [if_neg (by omega)]⟩, ⟨rfl, rfl, trivial⟩, ⟨rfl, rfl, rfl, trivial⟩, Cv.p⟩
 rintro a b τ1 ⟨ha, hb⟩
 have hab : (-3 ≤ a ∧ a ≤ 3) ∧ 0 ≤ b ∧ b ≤ 1 := by rw [ha, hb]; split <;> omega
 have e : cmpo t.o u.o = (u.o % 4 + a + 4) % 4 + 4 * b := by rw [cmpo_r ho hu1, ← ha, ← hb]
 rw [cmpT, e] at k
 refine WP.seq (WP.region (RG.pv rfl (PV.loadW rfl Ag95 rfl rfl) (RG.pv rfl (PV.field rfl Fo95_1 rfl) (RG.pv rfl (PV.load1 rfl Sc2 rfl (Rd.blk rfl)) (RG.pv rfl (PV.field rfl Fo95_2 rfl) (RG.pv rfl (PV.load1 rfl Sc2 rfl (Rd.blk rfl)) (RG.pv rfl (PV.build (vs := [(0, [vi _]), (1, [vi _])]) (out := [_, _]) rfl Zr189 Pl189 ⟨rfl, (Cl.c rfl), ⟨rfl, (Cl.c rfl), trivial⟩⟩ rfl) ?_)))))))
 refine RG.callF (vs := [_, _]) rfl rfl En216 rfl (l10Point_r (p := ⟨_, _⟩) hu (pt_in ht) ?_)
 refine RG.ot rfl (OT.alloc rfl Zr189 fun b7 => ?_)
 refine RG.ot rfl (OT.storeW (vs := [vi _, vi _]) rfl Sz189 rfl rfl (Cl.c rfl) rfl rfl (OneC.c rfl) ?_)
 refine RG.nil (WP.seq (WP.region (RG.pv rfl (PV.field rfl Fo95_0 rfl) (RG.pv rfl (PV.load1 rfl Sc2 rfl (Rd.blk rfl)) (RG.pv rfl (PV.rem rfl rfl rfl (by omega) (by omega) (by omega)) (RG.ml rfl rfl rfl (RG.pv rfl (PV.add rfl rfl rfl (by omega)) ?_)))))))
 refine RG.pv rfl (PV.add rfl rfl rfl (by omega)) (RG.pv rfl (PV.rem rfl rfl rfl (by omega) (by omega) (by omega)) (RG.ml rfl rfl rfl (RG.pv rfl (PV.mul rfl rfl rfl (by omega)) (RG.pv rfl (PV.add rfl rfl rfl (by omega)) (RG.pv rfl (PV.field rfl Fo189_0 rfl) (RG.pv rfl (PV.load1 rfl Sc2 rfl (Rd.blk rfl)) (RG.pv rfl (PV.field rfl Fo189_1 rfl) ?_)))))))
 refine RG.pv rfl (PV.load1 rfl Sc2 rfl (Rd.blk rfl)) (RG.pv rfl (PV.build (vs := [(0, [vi _]), (1, [vi _]), (2, [vi _])]) (out := [_, _, _]) rfl Zr95 Pl95 ⟨rfl, (Cl.c rfl), ⟨rfl, (Cl.c rfl), ⟨rfl, (Cl.c rfl), trivial⟩⟩⟩ rfl) ?_)
 refine RG.ot rfl (OT.storeW (vs := [vi _, vi _, vi _]) rfl Sz95 rfl rfl (Cl.c rfl) rfl rfl (OneC.c rfl) ?_)
 refine RG.nil ?_
 refine WP.ret ?_
 exact ⟨_, _, ResV.one rfl (RV1.cell rfl Ag95 rfl), Cv.p, k⟩
end Go.Proofs.YtgphjofccckloaaGreat
namespace Go.Proofs.YtgphjofccckloaaGreat
set_option linter.unusedVariables false
set_option linter.unusedSimpArgs false
open Go
set_option maxRecDepth 20000
set_option linter.unusedSimpArgs false
variable {G : Gh} {L : List Ch} {R : Value → Gh → List Ch → Prop}
def pths (xs : List Occ) : List (Sl Int) := xs.map Occ.path
theorem pths_gd {xs : List Occ} {i : Nat} (h : i < xs.length) : gd (pths xs) i = (gd xs i).path := gd_map _ h
theorem RsE.path {xs : List Occ} (h : RsE G L intT (pths xs)) {i : Nat} (hi : i < xs.length) : Rs G L intT (gd xs i).path.v (gd xs i).path.xs := by
 have := h i (by simpa [pths] using hi); rwa [pths_gd hi] at this
theorem clone_path {v : Value} {xs : List (Int)} (h1 : Rs G L intT v xs) (hb : xs.length ≤ 1048576) (k : ∀ v', R v' G (osl 2 intT v' xs :: L)) : CallT Tryz.prog 253 #[v] G L R := by
 refine CallT.st (fun w hs => isNilS_nil h1 hs) fun hn => ?_
 refine CallT.enter (args := _) Tryz.func253 rfl rfl (by kernel_rfl) rfl ?_
 refine WP.seq (WP.region (RG.pv rfl (PV.asg rfl rfl) (RG.nil (WP.seq (WP.seq (WP.region (RG.pv rfl (PV.move (v := v) rfl rfl) ?_)))))))
 refine RG.pv rfl (PV.eqlNil rfl Tryz.underlying30 rfl (SlF.r h1)) (RG.nil ?_)
 refine WP.cond rfl (fun h2 => ?_) (fun h2 => ?_)
 · have e := hn h2
   rw [e] at k
   refine WP.seq (WP.region (RG.pv rfl (PV.asg rfl rfl) (RG.nil ?_)))
   refine WP.ret ?_
   exact ⟨_, _, ResV.one rfl rfl, Cv.nilS, k _⟩
 · refine WP.skip ?_
   refine WP.seq (WP.region ?_)
   refine RG.ot rfl (OT.bslice (F := intT) (els := []) rfl El30 rfl (by decide) rfl (by decide) trivial fun v5 => ?_)
   refine RG.pv rfl (PV.move (v := v) rfl rfl) ?_
   refine RG.ot rfl (OT.append (v := v5) (u := v) (F := intT) rfl El30 rfl (by decide) rfl rfl (Rs.up h1) (OneL.c (fun _ => rfl)) rfl (by first | omega | (simp <;> omega)) fun v7 => ?_)
   refine RG.pv rfl (PV.asg (v := v7) rfl rfl) (RG.nil ?_)
   refine WP.ret ?_
   exact ⟨_, _, ResV.one rfl rfl, (Cv.eqS (List.nil_append _)), k v7⟩
theorem oIn_big {f : Nat} {o : EOcc} (h : oIn f o) : TBig o.place := by
 obtain ⟨h1, h2, h3, h4⟩ := h
 exact ⟨h2, by omega, by omega, by omega, by omega⟩
/-- a path is written at the end of the list of occurrences -/
theorem Cv.addOcc {e : TypeId} {u : Value} {us : List Int} {zs zs' : List Occ} (h : pths zs' = pths zs ++ [⟨u, us⟩]) : Cv (osl e intT u us :: bagS e intT (pths zs) :: L) (bagS e intT (pths zs') :: L) := Cv.grow h
/-- the state of a list of occurrences: those before, then one and those below its first elements -/
structure OccBelow (cs : List ECell) (f : Nat) (o : Occ) (ys : List Occ) (m : Nat) (zs : List Occ) : Prop where
  len : zs.length = ys.length + (occTo cs f (erO o) m).length
  er : erOs zs = erOs ys ++ occTo cs f (erO o) m
  at_ : ys.length < zs.length ∧ gd zs ys.length = o
  pre : ∃ r, zs = ys ++ r
theorem OccBelow.init {cs : List ECell} {f : Nat} {o : Occ} {ys : List Occ} : OccBelow cs f o ys 0 (ys ++ [o]) :=
 ⟨by simp [occTo_zero], by simp [erOs, occTo_zero], ⟨by simp, gd_app_r⟩, ⟨[o], rfl⟩⟩
theorem OccBelow.next {cs : List ECell} {f : Nat} {o : Occ} {ys zs zs' : List Occ} {m : Nat} (h : OccBelow cs f o ys m zs) (hp : ∃ r, zs' = zs ++ r) (he : erOs zs' = erOs zs ++ occF cs f (kid (erO o) (gd (elems (gd cs o.cell.toNat).insts) m) m)) : OccBelow cs f o ys (m + 1) zs' := by
 obtain ⟨r, rfl⟩ := hp
 obtain ⟨r0, hr0⟩ := h.pre
 have e : erOs (zs ++ r) = erOs ys ++ occTo cs f (erO o) (m + 1) := by rw [he, h.er, occTo_succ, List.append_assoc]; rfl
 refine ⟨?_, e, ⟨by have := h.at_.1; simp only [List.length_append]; omega, by rw [gd_app_l h.at_.1]; exact h.at_.2⟩, ⟨r0 ++ r, by rw [hr0, List.append_assoc]⟩⟩
 have := congrArg List.length e
 rw [List.length_append, erOs_len, erOs_len] at this
 exact this
theorem OccBelow.rd {cs : List ECell} {f : Nat} {o : Occ} {ys zs : List Occ} {m : Nat} (h : OccBelow cs f o ys m zs) (hd : RsE G L intT (pths zs)) : Rs G L intT o.path.v o.path.xs := by
 have := hd.path h.at_.1; rwa [h.at_.2] at this
theorem below_i : ∀ (f : Nat) {G : Gh} {L : List Ch} {R : Value → Gh → List Ch → Prop} {l : Lib} {o : Occ} {v : Value} {ys : List Occ} (_ : RLib G L l.cells.v l.cells.xs) (_ : okLib (erCls l.cells.xs) = true) (_ : oIn f (erO o)) (_ : o.cell.toNat < l.cells.xs.length) (_ : o.path.xs.length + f ≤ 100) (_ : ys.length + (occF (erCls l.cells.xs) f (erO o)).length ≤ 1000)
   (_ : ∀ v' zs, (∃ r, zs = ys ++ r) → erOs zs = erOs ys ++ occF (erCls l.cells.xs) f (erO o) → R v' G (osl 97 occT v' zs :: bagS 2 intT (pths zs) :: L)), CallT Tryz.prog 204 #[vT libT l, v, vT occT o] G (osl 97 occT v ys :: bagS 2 intT (pths ys) :: osl 2 intT o.path.v o.path.xs :: L) R := by
 intro f
 induction f with
 | zero => intro G L R l o v ys _ _ hin; exact absurd hin.1 (by simp only [erO]; omega)
 | succ f ih =>
   intro G L R l o v ys hL hok hin hcl hpl htl k
   have hE := erCls_len l.cells.xs
   have hbig := oIn_big hin
   have hi1 := hin.1
   have hinc : (0 : Int) ≤ o.cell ∧ o.cell < (f : Int) + 1 := by have := hin.1; simp only [erO] at this; omega
   have hce : (gd (erCls l.cells.xs) o.cell.toNat).insts = (gd l.cells.xs o.cell.toNat).insts.xs := erCl_insts hcl
   have hns : okNs (gd l.cells.xs o.cell.toNat).insts.xs := by rw [← hce]; exact okLib_ns hok (by omega)
   have hEl : (elems (gd l.cells.xs o.cell.toNat).insts.xs).length ≤ 128 := by rw [← hce]; exact elems_len_bd hok (by omega)
   have hol : 1 ≤ (occF (erCls l.cells.xs) (f + 1) (erO o)).length := by rw [occF, List.length_cons]; omega
   refine CallT.enter (args := _) Tryz.func204 rfl rfl (by kernel_rfl) rfl ?_
   refine WP.seq (WP.region ?_)
   refine RG.ot rfl (OT.box (cs := libT.enc l) rfl rfl rfl fun b3 => ?_)
   refine RG.ot rfl (OT.box (cs := occT.enc o) rfl rfl rfl fun b5 => ?_)
   refine RG.pv rfl (PV.asg rfl rfl) (RG.nil (WP.seq (WP.region (RG.pv rfl (PV.move (v := v) rfl rfl) (RG.pv rfl (PV.loadW rfl Ag97 rfl rfl) ?_)))))
   refine RG.ot rfl (OT.bslice (F := occT) (els := [_]) rfl El164 rfl (by decide) rfl (by decide) ⟨rfl, (Cl.c rfl), trivial⟩ fun v12 => ?_)
   refine RG.ot rfl (OT.append (v := v) (u := v12) (F := occT) rfl El164 rfl (by decide) rfl rfl Rs.o (OneL.one (a := o) (OneC.val rfl (OneC.val rfl (OneC.val rfl (OneC.val rfl (OneC.sl SlF.o OneC.nil)))))) rfl (by first | omega | (simp <;> omega)) fun v13 => ?_)
   refine RG.pv rfl (PV.asg (v := v13) rfl rfl) (RG.nil (WP.seq (WP.seq (WP.region (RG.pv rfl (PV.field rfl Fo35_0 rfl) (RG.pv rfl (PV.load1 rfl Sc33 rfl (Rd.blk rfl)) (RG.pv rfl (PV.field rfl Fo97_0 rfl) ?_)))))))
   refine RG.pv rfl (PV.load1 rfl Sc2 rfl (Rd.blk rfl)) (RG.pv rfl (PV.idxS (j := o.cell.toNat) rfl Is33 rfl (SlF.r hL.c) rfl (by omega) (by omega)) (RG.pv rfl (PV.loadE rfl Ag115 rfl rfl (El.r hL.c (getG (by omega)))) ?_))
   refine RG.callF (vs := [_]) rfl rfl En65 rfl (elems_i (hL.na (by omega)).up hns (fun v20 => ?_))
   refine RG.pv rfl (PV.len (v := v20) rfl Tryz.underlying109 rfl SlF.o) (RG.ml rfl rfl rfl (RG.nil (WP.block ?_)))
   refine WP.cv ((Cv.p (C := osl 2 intT o.path.v o.path.xs :: bagS 2 intT (pths ys) :: osl 97 occT v13 (ys ++ [o]) :: osl 108 helemT v20 (elems (gd l.cells.xs o.cell.toNat).insts.xs) :: blk b3 35 (libT.enc l) :: blk b5 97 (occT.enc o) :: L)).trans (Cv.addOcc (zs' := ys ++ [o]) (by simp [pths]))) ?_
   refine WP.loop3 [3, 5, 20, 21] (fun (m : Nat) (vo : Value) (zs : List Occ) => m ≤ (elems (gd l.cells.xs o.cell.toNat).insts.xs).length ∧ OccBelow (erCls l.cells.xs) f o ys m zs) (fun (m : Nat) (vo : Value) (zs : List Occ) => [(22, vi m), (1, vo)]) (fun (m : Nat) (vo : Value) (zs : List Occ) => osl 97 occT vo zs :: bagS 2 intT (pths zs) :: osl 108 helemT v20 (elems (gd l.cells.xs o.cell.toNat).insts.xs) :: blk b3 35 (libT.enc l) :: blk b5 97 (occT.enc o) :: L) (fun (m : Nat) (vo : Value) (zs : List Occ) => (elems (gd l.cells.xs o.cell.toNat).insts.xs).length - m) 0 v13 (ys ++ [o]) ⟨by omega, OccBelow.init⟩ ⟨rfl, rfl, trivial⟩ Cv.p ?_
   rintro m vo zs τ ⟨hm, hB⟩
   refine WP.seq (WP.region (RG.pv rfl (PV.lss rfl rfl rfl) (RG.nil (WP.seq ?_))))
   refine WP.cond rfl (fun h1 => ?_) (fun h1 => ?_)
   · have h1 := of_decide_eq_true h1
     have h2 : m < (elems (gd l.cells.xs o.cell.toNat).insts.xs).length := by omega
     have h2' : m < (elems (gd (erCls l.cells.xs) o.cell.toNat).insts).length := by rw [hce]; exact h2
     have hb := elem_bd hok (k := o.cell.toNat) (by omega) h2'
     have hke := kid_in hok hin (by simp only [erO]; omega) h2'
     have hle := occTo_le (cs := erCls l.cells.xs) (f := f) (o := erO o) (i := m + 1) h2'
     rw [occTo_succ, List.length_append] at hle
     have hlen := hB.len
     simp only [erO] at hke hle hlen htl
     rw [hce] at hb hke hle
     have hb1 := hb.2.1
     have hb2 : (-1000 ≤ (gd (elems (gd l.cells.xs o.cell.toNat).insts.xs) m).place.x ∧ (gd (elems (gd l.cells.xs o.cell.toNat).insts.xs) m).place.x ≤ 1000) ∧ -1000 ≤ (gd (elems (gd l.cells.xs o.cell.toNat).insts.xs) m).place.y ∧ (gd (elems (gd l.cells.xs o.cell.toNat).insts.xs) m).place.y ≤ 1000 := by omega
     refine WP.skip (WP.seq (WP.block (WP.seq (WP.region (RG.ml rfl rfl rfl (RG.pv rfl (PV.idxS (v := v20) rfl Is109 rfl SlF.o rfl rfl (by omega)) (RG.pv rfl (PV.loadE rfl Ag108 rfl rfl (El.o (getG (by omega)))) ?_)))))))
     refine RG.ot rfl (OT.alloc rfl Zr108 fun b8 => ?_)
     refine RG.mr rfl rfl rfl ?_
     refine RG.ot rfl (OT.storeW (vs := [vi _, vi _, vi _, vi _]) rfl Sz108 rfl rfl (Cl.c rfl) rfl rfl (OneC.c rfl) ?_)
     refine RG.nil (WP.seq (WP.region (RG.pv rfl (PV.field rfl Fo97_2 rfl) (RG.pv rfl (PV.load1 rfl Sc30 rfl (Rd.blk rfl)) ?_))))
     refine RG.callF (vs := [_]) rfl rfl En253 rfl (clone_path (OccBelow.rd hB RsE.o) (by omega) (fun v29 => ?_))
     refine RG.ml rfl rfl rfl ?_
     refine RG.ot rfl (OT.bslice (F := intT) (els := [_]) rfl El30 rfl (by decide) rfl (by decide) ⟨rfl, (Cl.c rfl), trivial⟩ fun v31 => ?_)
     refine RG.ot rfl (OT.append (v := v29) (u := v31) (F := intT) rfl El30 rfl (by decide) rfl rfl Rs.o (OneL.c (fun _ => rfl)) rfl (by first | omega | (simp <;> omega)) fun v32 => ?_)
     refine RG.pv rfl (PV.asg (v := v32) rfl rfl) (RG.nil ?_)
     refine WP.regionH (blk b3 35 (libT.enc l) :: blk b5 97 (occT.enc o) :: blk b8 108 (helemT.enc (gd (elems (gd l.cells.xs o.cell.toNat).insts.xs) m)) :: L) (.q 0 (.q 1 (.q 2 (.q 3 (.q 4 (.q 5 (.q 6 (.q 7 (.q 9 (.l 8 (.l 10 (.l 11 (.q 12 Sch.nil))))))))))))) (by kernel_rfl) (by kernel_rfl) (by kernel_rfl) rfl ?_
     refine RH.pv rfl (fun _ _ _ _ h => h) (Gh.le_refl _) PickC.pick rfl (PV.loadW rfl Ag35 rfl rfl) ?_
     refine RH.pv rfl (fun _ _ _ _ h => h) (Gh.le_refl _) PickC.pick rfl (PV.move (v := vo) rfl rfl) ?_
     refine RH.pv rfl (fun _ _ _ _ h => h) (Gh.le_refl _) PickC.pick rfl (PV.field rfl Fo108_0 rfl) ?_
     refine RH.pv rfl (fun _ _ _ _ h => h) (Gh.le_refl _) PickC.pick rfl (PV.load1 rfl Sc2 rfl (Rd.blk rfl)) ?_
     refine RH.pv rfl (fun _ _ _ _ h => h) (Gh.le_refl _) PickC.pick rfl (PV.field rfl Fo108_1 rfl) ?_
     refine RH.pv rfl (fun _ _ _ _ h => h) (Gh.le_refl _) PickC.pick rfl (PV.loadB (vs := [_, _, _]) rfl Ag95 rfl rfl rfl) ?_
     refine RH.pv rfl (fun _ _ _ _ h => h) (Gh.le_refl _) PickC.pick rfl (PV.field rfl Fo97_1 rfl) ?_
     refine RH.pv rfl (fun _ _ _ _ h => h) (Gh.le_refl _) PickC.pick rfl (PV.loadB (vs := [_, _, _]) rfl Ag95 rfl rfl rfl) ?_
     refine RH.pv rfl (fun _ _ _ _ h => h) (Gh.le_refl _) PickC.pick rfl (PV.move (v := v32) rfl rfl) ?_
     refine RH.ot rfl rfl (OT.callF (vs := [_, _]) rfl En254 rfl (compose_i hb1 hb2 hbig ⟨Gh.le_refl _, PickC.pick, ?_⟩))
     refine RH.ot rfl rfl (OT.pv (PV.build (vs := [(0, [vi _]), (1, [vi _, vi _, vi _]), (2, [v32])]) (out := [_, _, _, _, _]) rfl Zr97 Pl97 ⟨rfl, (Cl.c rfl), ⟨rfl, (Cl.c rfl), ⟨rfl, (Cl.s (v := v32) SlF.o), trivial⟩⟩⟩ rfl) ⟨Gh.le_refl _, PickC.pick, ?_⟩)
     refine RH.ot rfl rfl (OT.callF (vs := [_, vo, _]) rfl En204 rfl (CallT.cv (Cv.p (C := osl 97 occT vo zs :: bagS 2 intT (pths zs) :: osl 2 intT v32 (o.path.xs ++ [(m : Int)]) :: osl 108 helemT v20 (elems (gd l.cells.xs o.cell.toNat).insts.xs) :: blk b3 35 (libT.enc l) :: blk b5 97 (occT.enc o) :: blk b8 108 (helemT.enc (gd (elems (gd l.cells.xs o.cell.toNat).insts.xs) m)) :: L)) (ih (l := l) (o := ⟨(gd (elems (gd l.cells.xs o.cell.toNat).insts.xs) m).cell, cmpT (gd (elems (gd l.cells.xs o.cell.toNat).insts.xs) m).place o.place, ⟨v32, o.path.xs ++ [(m : Int)]⟩⟩) (v := vo) (ys := zs) hL.up hok hke (by simp only; omega) (by simp only [List.length_append, List.length_cons, List.length_nil]; omega) (by simp only [erO, kid] at hle ⊢; omega) (fun vn zn hr he => ⟨Gh.le_refl _, PickC.pick, ?_⟩))))
     refine RH.pv rfl (fun _ _ _ _ h => h) (Gh.le_refl _) PickC.pick rfl (PV.asg rfl rfl) ?_
     refine RH.nil ?_
     refine WP.region (RG.pv rfl (PV.add rfl rfl rfl (by omega)) (RG.ml rfl rfl rfl (RG.nil ?_)))
     exact ⟨rfl, m + 1, vn, zn, ⟨by omega, hB.next hr (by rw [hce]; exact he)⟩, ⟨rfl, rfl, trivial⟩, ⟨rfl, rfl, rfl, rfl, trivial⟩, Cv.p, by omega⟩
   · have h1 := of_decide_eq_false h1
     have e : erOs zs = erOs ys ++ occF (erCls l.cells.xs) (f + 1) (erO o) := by
       rw [hB.er, ← occTo_all]
       have : m = (elems (gd (erCls l.cells.xs) (erO o).cell.toNat).insts).length := by simp only [erO]; rw [hce]; omega
       rw [← this]
     refine WP.exit ?_
     refine WP.seq (WP.region (RG.pv rfl (PV.move (v := vo) rfl rfl) (RG.pv rfl (PV.asg (v := vo) rfl rfl) (RG.nil ?_))))
     refine WP.ret ?_
     exact ⟨_, _, ResV.one rfl rfl, Cv.p, k vo zs hB.pre e⟩
theorem below_r : ∀ (f : Nat) {G : Gh} {L : List Ch} {R : Value → Gh → List Ch → Prop} {l : Lib} {o : Occ} {v : Value} {ys : List Occ} (_ : RLib G L l.cells.v l.cells.xs) (_ : okLib (erCls l.cells.xs) = true) (_ : oIn f (erO o)) (_ : o.cell.toNat < l.cells.xs.length) (_ : o.path.xs.length + f ≤ 100) (_ : ys.length + (occF (erCls l.cells.xs) f (erO o)).length ≤ 1000)
   (_ : ∀ v' zs, (∃ r, zs = ys ++ r) → erOs zs = erOs ys ++ occF (erCls l.cells.xs) f (erO o) → R v' G (osl 97 occT v' zs :: bagS 2 intT (pths zs) :: L)), CallT Tryz.prog 215 #[vT libT l, v, vT occT o] G (osl 97 occT v ys :: bagS 2 intT (pths ys) :: osl 2 intT o.path.v o.path.xs :: L) R := by
 intro f
 induction f with
 | zero => intro G L R l o v ys _ _ hin; exact absurd hin.1 (by simp only [erO]; omega)
 | succ f ih =>
   intro G L R l o v ys hL hok hin hcl hpl htl k
   have hE := erCls_len l.cells.xs
   have hbig := oIn_big hin
   have hi1 := hin.1
   have hinc : (0 : Int) ≤ o.cell ∧ o.cell < (f : Int) + 1 := by have := hin.1; simp only [erO] at this; omega
   have hce : (gd (erCls l.cells.xs) o.cell.toNat).insts = (gd l.cells.xs o.cell.toNat).insts.xs := erCl_insts hcl
   have hns : okNs (gd l.cells.xs o.cell.toNat).insts.xs := by rw [← hce]; exact okLib_ns hok (by omega)
   obtain ⟨hn8, kk, hok2⟩ := id hns
   have hEl : (elems (gd l.cells.xs o.cell.toNat).insts.xs).length ≤ 128 := by rw [← hce]; exact elems_len_bd hok (by omega)
   have hol : 1 ≤ (occF (erCls l.cells.xs) (f + 1) (erO o)).length := by rw [occF, List.length_cons]; omega
   refine CallT.enter (args := _) Tryz.func215 rfl rfl (by kernel_rfl) rfl ?_
   refine WP.seq (WP.region ?_)
   refine RG.ot rfl (OT.box (cs := libT.enc l) rfl rfl rfl fun b3 => ?_)
   refine RG.ot rfl (OT.box (cs := occT.enc o) rfl rfl rfl fun b5 => ?_)
   refine RG.pv rfl (PV.asg rfl rfl) (RG.nil (WP.seq (WP.region (RG.pv rfl (PV.move (v := v) rfl rfl) (RG.pv rfl (PV.loadW rfl Ag97 rfl rfl) ?_)))))
   refine RG.ot rfl (OT.bslice (F := occT) (els := [_]) rfl El164 rfl (by decide) rfl (by decide) ⟨rfl, (Cl.c rfl), trivial⟩ fun v15 => ?_)
   refine RG.ot rfl (OT.append (v := v) (u := v15) (F := occT) rfl El164 rfl (by decide) rfl rfl Rs.o (OneL.one (a := o) (OneC.val rfl (OneC.val rfl (OneC.val rfl (OneC.val rfl (OneC.sl SlF.o OneC.nil)))))) rfl (by first | omega | (simp <;> omega)) fun v16 => ?_)
   refine RG.pv rfl (PV.asg (v := v16) rfl rfl) (RG.nil (WP.seq (WP.region (RG.mr rfl rfl rfl (RG.nil (WP.seq (WP.region ?_)))))))
   refine RG.pv rfl (PV.field rfl Fo35_0 rfl) (RG.pv rfl (PV.load1 rfl Sc33 rfl (Rd.blk rfl)) (RG.pv rfl (PV.field rfl Fo97_0 rfl) (RG.pv rfl (PV.load1 rfl Sc2 rfl (Rd.blk rfl)) (RG.pv rfl (PV.idxS (j := o.cell.toNat) rfl Is33 rfl (SlF.r hL.c) rfl (by omega) (by omega)) (RG.pv rfl (PV.field rfl Fo115_3 rfl) (RG.pv rfl (PV.loadF rfl Sc113 rfl rfl (El.r hL.c (getG (by omega))) rfl) (RG.pv rfl (PV.asg rfl rfl) ?_)))))))
   refine RG.nil (WP.seq (WP.seq (WP.region (RG.mr rfl rfl rfl (RG.nil (WP.block ?_))))))
   refine WP.cv ((Cv.p (C := osl 2 intT o.path.v o.path.xs :: bagS 2 intT (pths ys) :: osl 97 occT v16 (ys ++ [o]) :: blk b3 35 (libT.enc l) :: blk b5 97 (occT.enc o) :: L)).trans (Cv.addOcc (zs' := ys ++ [o]) (by simp [pths]))) ?_
   refine WP.loop4 [3, 5, 8] (fun (i : Nat) (e : Int) (vo : Value) (zs : List Occ) => i ≤ (gd l.cells.xs o.cell.toNat).insts.xs.length ∧ e = ((elems ((gd l.cells.xs o.cell.toNat).insts.xs.take i)).length : Int) ∧ OccBelow (erCls l.cells.xs) f o ys (elems ((gd l.cells.xs o.cell.toNat).insts.xs.take i)).length zs) (fun (i : Nat) (e : Int) (vo : Value) (zs : List Occ) => [(9, vi i), (7, vi e), (1, vo)]) (fun (i : Nat) (e : Int) (vo : Value) (zs : List Occ) => osl 97 occT vo zs :: bagS 2 intT (pths zs) :: blk b3 35 (libT.enc l) :: blk b5 97 (occT.enc o) :: L) (fun (i : Nat) (e : Int) (vo : Value) (zs : List Occ) => (gd l.cells.xs o.cell.toNat).insts.xs.length - i) 0 0 v16 (ys ++ [o]) ⟨by omega, by simp [elems], OccBelow.init⟩ ⟨rfl, rfl, rfl, trivial⟩ Cv.p ?_
   rintro i e vo zs τ ⟨hi, he, hB⟩
   refine WP.seq (WP.seq (WP.region (RG.ml rfl rfl rfl (RG.pv rfl (PV.move rfl rfl) (RG.pv rfl (PV.len rfl Tryz.underlying113 rfl (SlF.r (hL.na hcl))) (RG.pv rfl (PV.lss rfl rfl rfl) (RG.nil ?_)))))))
   refine WP.cond rfl (fun h1 => ?_) (fun h1 => ?_)
   · have h1 := of_decide_eq_true h1
     have h2 : i < (gd l.cells.xs o.cell.toNat).insts.xs.length := by omega
     obtain ⟨_, _, q3, q4, _, _⟩ := okIn_bd (hok2 i h2)
     refine WP.skip (WP.seq (WP.block (WP.seq (WP.region (RG.mr rfl rfl rfl (RG.nil (WP.block ?_)))))))
     refine WP.loop4 [3, 5, 8, 9] (fun (r : Nat) (e : Int) (vo : Value) (zs : List Occ) => r ≤ (gd (gd l.cells.xs o.cell.toNat).insts.xs i).rows.toNat ∧ e = (((elems ((gd l.cells.xs o.cell.toNat).insts.xs.take i)).length + r * (gd (gd l.cells.xs o.cell.toNat).insts.xs i).cols.toNat : Nat) : Int) ∧ OccBelow (erCls l.cells.xs) f o ys ((elems ((gd l.cells.xs o.cell.toNat).insts.xs.take i)).length + r * (gd (gd l.cells.xs o.cell.toNat).insts.xs i).cols.toNat) zs) (fun (r : Nat) (e : Int) (vo : Value) (zs : List Occ) => [(10, vi r), (7, vi e), (1, vo)]) (fun (r : Nat) (e : Int) (vo : Value) (zs : List Occ) => osl 97 occT vo zs :: bagS 2 intT (pths zs) :: blk b3 35 (libT.enc l) :: blk b5 97 (occT.enc o) :: L) (fun (r : Nat) (e : Int) (vo : Value) (zs : List Occ) => (gd (gd l.cells.xs o.cell.toNat).insts.xs i).rows.toNat - r) 0 e vo zs ⟨by omega, by rw [Nat.zero_mul]; exact he, by rw [Nat.zero_mul]; exact hB⟩ ⟨rfl, rfl, rfl, trivial⟩ Cv.p ?_
     rintro r e vo zs τ ⟨hr, he, hB⟩
     refine WP.seq (WP.seq (WP.region (RG.ml rfl rfl rfl (RG.pv rfl (PV.move rfl rfl) (RG.ml rfl rfl rfl (RG.pv rfl (PV.idxS rfl Is113 rfl (SlF.r (hL.na hcl)) rfl rfl (by omega)) (RG.pv rfl (PV.field rfl Fo173_3 rfl) ?_)))))))
     refine RG.pv rfl (PV.loadF rfl Sc2 rfl rfl (El.r (hL.na hcl) (getG (by omega))) rfl) (RG.pv rfl (PV.lss rfl rfl rfl) (RG.nil ?_))
     refine WP.cond rfl (fun h3 => ?_) (fun h3 => ?_)
     · have h3 := of_decide_eq_true h3
       refine WP.skip (WP.seq (WP.block (WP.seq (WP.region (RG.mr rfl rfl rfl (RG.nil (WP.block ?_)))))))
       refine WP.loop4 [3, 5, 8, 9, 10] (fun (q : Nat) (e : Int) (vo : Value) (zs : List Occ) => q ≤ (gd (gd l.cells.xs o.cell.toNat).insts.xs i).cols.toNat ∧ e = (((elems ((gd l.cells.xs o.cell.toNat).insts.xs.take i)).length + (r * (gd (gd l.cells.xs o.cell.toNat).insts.xs i).cols.toNat + q) : Nat) : Int) ∧ OccBelow (erCls l.cells.xs) f o ys ((elems ((gd l.cells.xs o.cell.toNat).insts.xs.take i)).length + (r * (gd (gd l.cells.xs o.cell.toNat).insts.xs i).cols.toNat + q)) zs) (fun (q : Nat) (e : Int) (vo : Value) (zs : List Occ) => [(11, vi q), (7, vi e), (1, vo)]) (fun (q : Nat) (e : Int) (vo : Value) (zs : List Occ) => osl 97 occT vo zs :: bagS 2 intT (pths zs) :: blk b3 35 (libT.enc l) :: blk b5 97 (occT.enc o) :: L) (fun (q : Nat) (e : Int) (vo : Value) (zs : List Occ) => (gd (gd l.cells.xs o.cell.toNat).insts.xs i).cols.toNat - q) 0 e vo zs ⟨by omega, he, hB⟩ ⟨rfl, rfl, rfl, trivial⟩ Cv.p ?_
       rintro q e vo zs τ ⟨hq, he, hB⟩
       refine WP.seq (WP.seq (WP.region (RG.ml rfl rfl rfl (RG.pv rfl (PV.move rfl rfl) (RG.ml rfl rfl rfl (RG.pv rfl (PV.idxS rfl Is113 rfl (SlF.r (hL.na hcl)) rfl rfl (by omega)) (RG.pv rfl (PV.field rfl Fo173_2 rfl) ?_)))))))
       refine RG.pv rfl (PV.loadF rfl Sc2 rfl rfl (El.r (hL.na hcl) (getG (by omega))) rfl) (RG.pv rfl (PV.lss rfl rfl rfl) (RG.nil ?_))
       subst he
       refine WP.cond rfl (fun h4 => ?_) (fun h4 => ?_)
       · have h4 := of_decide_eq_true h4
         obtain ⟨hat, hag⟩ := elems_at (ns := (gd l.cells.xs o.cell.toNat).insts.xs) (i := i) (c := q) (r := r) h2 (by omega) (by omega)
         have h2' : (elems ((gd l.cells.xs o.cell.toNat).insts.xs.take i)).length + (r * (gd (gd l.cells.xs o.cell.toNat).insts.xs i).cols.toNat + q) < (elems (gd (erCls l.cells.xs) o.cell.toNat).insts).length := by rw [hce]; exact hat
         have hb := elem_bd hok (k := o.cell.toNat) (by omega) h2'
         have hke := kid_in hok hin (by simp only [erO]; omega) h2'
         have hle := occTo_le (cs := erCls l.cells.xs) (f := f) (o := erO o) (i := (elems ((gd l.cells.xs o.cell.toNat).insts.xs.take i)).length + (r * (gd (gd l.cells.xs o.cell.toNat).insts.xs i).cols.toNat + q) + 1) h2'
         rw [occTo_succ, List.length_append] at hle
         have hlen := hB.len
         simp only [erO] at hke hle hlen htl
         rw [hce, hag] at hb hke hle
         have hb1 := hb.2.1
         have hb2 : (-1000 ≤ (elPlace (gd (gd l.cells.xs o.cell.toNat).insts.xs i) q r).x ∧ (elPlace (gd (gd l.cells.xs o.cell.toNat).insts.xs i) q r).x ≤ 1000) ∧ -1000 ≤ (elPlace (gd (gd l.cells.xs o.cell.toNat).insts.xs i) q r).y ∧ (elPlace (gd (gd l.cells.xs o.cell.toNat).insts.xs i) q r).y ≤ 1000 := by have := hb.2.2; simp only at this; omega
         have hb0 := hb.1
         simp only at hb0 hke hle
         have hrd : Rs G (bagS 2 intT (pths zs) :: []) intT o.path.v o.path.xs := OccBelow.rd hB RsE.o
         refine WP.skip (WP.seq (WP.block (WP.seq (WP.region ?_))))
         refine RG.ot rfl (OT.bslice (F := intT) (els := []) rfl El30 rfl (by decide) rfl (by decide) trivial fun v48 => ?_)
         refine RG.pv rfl (PV.field rfl Fo97_2 rfl) (RG.pv rfl (PV.load1 rfl Sc30 rfl (Rd.blk rfl)) ?_)
         refine RG.ot rfl (OT.append (v := v48) (F := intT) rfl El30 rfl (by decide) rfl rfl (Rs.up hrd) (OneL.c (fun _ => rfl)) rfl (by first | omega | (simp <;> omega)) fun v51 => ?_)
         refine RG.ml rfl rfl rfl ?_
         refine RG.ot rfl (OT.bslice (F := intT) (els := [_]) rfl El30 rfl (by decide) rfl (by decide) ⟨rfl, (Cl.c rfl), trivial⟩ fun v53 => ?_)
         refine RG.ot rfl (OT.append (v := v51) (u := v53) (F := intT) rfl El30 rfl (by decide) rfl rfl Rs.o (OneL.c (fun _ => rfl)) rfl (by first | omega | (simp <;> omega)) fun v54 => ?_)
         refine RG.pv rfl (PV.asg (v := v54) rfl rfl) (RG.nil (WP.seq ?_))
         refine WP.regionH (blk b3 35 (libT.enc l) :: blk b5 97 (occT.enc o) :: L) (.q 0 (.q 1 (.q 2 (.q 3 (.q 4 (.q 5 (.q 6 (.q 7 (.q 8 (.q 9 (.q 10 (.q 11 (.q 12 (.q 13 (.q 14 (.q 17 (.l 15 (.l 16 (.l 18 (.l 19 (.q 20 Sch.nil))))))))))))))))))))) (by kernel_rfl) (by kernel_rfl) (by kernel_rfl) rfl ?_
         refine RH.pv rfl (fun _ _ _ _ h => h) (Gh.le_refl _) PickC.pick rfl (PV.loadW rfl Ag35 rfl rfl) ?_
         refine RH.pv rfl (fun _ _ _ _ h => h) (Gh.le_refl _) PickC.pick rfl (PV.move (v := vo) rfl rfl) ?_
         refine RH.pv rfl (fun _ _ _ _ h => h) (Gh.le_refl _) PickC.pick rfl (PV.move rfl rfl) ?_
         refine RH.pv rfl (fun _ _ _ _ h => h) (Gh.le_refl _) PickC.pick rfl (PV.mvI (.inl rfl) rfl) ?_
         refine RH.pv rfl (fun _ _ _ _ h => h) (Gh.le_refl _) PickC.pick rfl (PV.idxS rfl Is113 rfl (SlF.r (hL.na hcl)) rfl rfl (by omega)) ?_
         refine RH.pv rfl (fun _ _ _ _ h => h) (Gh.le_refl _) PickC.pick rfl (PV.field rfl Fo173_0 rfl) ?_
         refine RH.pv rfl (fun _ _ _ _ h => h) (Gh.le_refl _) PickC.pick rfl (PV.loadF rfl Sc2 rfl rfl (El.r (hL.na hcl) (getG (by omega))) rfl) ?_
         refine RH.pv rfl (fun _ _ _ _ h => h) (Gh.le_refl _) PickC.pick rfl (PV.field rfl Fo97_1 rfl) ?_
         refine RH.pv rfl (fun _ _ _ _ h => h) (Gh.le_refl _) PickC.pick rfl (PV.loadB (vs := [_, _, _]) rfl Ag95 rfl rfl rfl) ?_
         refine RH.pv rfl (fun _ _ _ _ h => h) (Gh.le_refl _) PickC.pick rfl (PV.move rfl rfl) ?_
         refine RH.pv rfl (fun _ _ _ _ h => h) (Gh.le_refl _) PickC.pick rfl (PV.mvI (.inl rfl) rfl) ?_
         refine RH.pv rfl (fun _ _ _ _ h => h) (Gh.le_refl _) PickC.pick rfl (PV.idxS rfl Is113 rfl (SlF.r (hL.na hcl)) rfl rfl (by omega)) ?_
         refine RH.pv rfl (fun _ _ _ _ h => h) (Gh.le_refl _) PickC.pick rfl (PV.loadE rfl Ag173 rfl rfl (El.r (hL.na hcl) (getG (by omega)))) ?_
         refine RH.pv rfl (fun _ _ _ _ h => h) (Gh.le_refl _) PickC.pick rfl (PV.mvI (.inl rfl) rfl) ?_
         refine RH.pv rfl (fun _ _ _ _ h => h) (Gh.le_refl _) PickC.pick rfl (PV.mvI (.inl rfl) rfl) ?_
         refine RH.pv rfl (fun _ _ _ _ h => h) (Gh.le_refl _) PickC.pick rfl (PV.move (v := v54) rfl rfl) ?_
         refine RH.ot rfl rfl (OT.callF (vs := [_, _, _]) rfl En197 rfl (elPlace_r (hok2 i (by omega)) (c := q) (r := r) (by omega) (by omega) ⟨Gh.le_refl _, PickC.pick, ?_⟩))
         refine RH.ot rfl rfl (OT.callF (vs := [_, _]) rfl En198 rfl (l10After_r hb1 hb2 hbig ⟨Gh.le_refl _, PickC.pick, ?_⟩))
         refine RH.ot rfl rfl (OT.pv (PV.build (vs := [(0, [vi _]), (1, [vi _, vi _, vi _]), (2, [v54])]) (out := [_, _, _, _, _]) rfl Zr97 Pl97 ⟨rfl, (Cl.c rfl), ⟨rfl, (Cl.c rfl), ⟨rfl, (Cl.s (v := v54) SlF.o), trivial⟩⟩⟩ rfl) ⟨Gh.le_refl _, PickC.pick, ?_⟩)
         refine RH.ot rfl rfl (OT.callF (vs := [_, vo, _]) rfl En215 rfl (CallT.cv (Cv.p (C := osl 97 occT vo zs :: bagS 2 intT (pths zs) :: osl 2 intT v54 (([] ++ o.path.xs) ++ [(((elems ((gd l.cells.xs o.cell.toNat).insts.xs.take i)).length + (r * (gd (gd l.cells.xs o.cell.toNat).insts.xs i).cols.toNat + q) : Nat) : Int)]) :: blk b3 35 (libT.enc l) :: blk b5 97 (occT.enc o) :: L)) (ih (l := l) (o := ⟨(gd (gd l.cells.xs o.cell.toNat).insts.xs i).cell, cmpT (elPlace (gd (gd l.cells.xs o.cell.toNat).insts.xs i) q r) o.place, ⟨v54, ([] ++ o.path.xs) ++ [(((elems ((gd l.cells.xs o.cell.toNat).insts.xs.take i)).length + (r * (gd (gd l.cells.xs o.cell.toNat).insts.xs i).cols.toNat + q) : Nat) : Int)]⟩⟩) (v := vo) (ys := zs) hL.up hok hke (by simp only; omega) (by simp only [List.nil_append, List.length_append, List.length_cons, List.length_nil]; omega) (by simp only [erO, kid, List.nil_append] at hle ⊢; omega) (fun vn zn hr he => ⟨Gh.le_refl _, PickC.pick, ?_⟩))))
         refine RH.pv rfl (fun _ _ _ _ h => h) (Gh.le_refl _) PickC.pick rfl (PV.asg rfl rfl) ?_
         refine RH.nil ?_
         refine WP.region (RG.ml rfl rfl rfl (RG.pv rfl (PV.add rfl rfl rfl (by omega)) (RG.mr rfl rfl rfl (RG.nil (WP.region (RG.ml rfl rfl rfl (RG.pv rfl (PV.add rfl rfl rfl (by omega)) ?_)))))))
         refine RG.mr rfl rfl rfl (RG.nil ?_)
         exact ⟨rfl, q + 1, _, vn, zn, ⟨by omega, rfl, hB.next hr (by rw [hce, hag]; exact he)⟩, ⟨rfl, rfl, rfl, trivial⟩, ⟨rfl, rfl, rfl, rfl, rfl, trivial⟩, Cv.p, by omega⟩
       · have h4 := of_decide_eq_false h4
         have e1 : (elems ((gd l.cells.xs o.cell.toNat).insts.xs.take i)).length + (r * (gd (gd l.cells.xs o.cell.toNat).insts.xs i).cols.toNat + q) = (elems ((gd l.cells.xs o.cell.toNat).insts.xs.take i)).length + (r + 1) * (gd (gd l.cells.xs o.cell.toNat).insts.xs i).cols.toNat := by rw [Nat.add_mul]; omega
         refine WP.exit ?_
         refine WP.region (RG.ml rfl rfl rfl (RG.pv rfl (PV.add rfl rfl rfl (by omega)) (RG.mr rfl rfl rfl (RG.nil ?_))))
         exact ⟨rfl, r + 1, _, vo, zs, ⟨by omega, by rw [e1], by rw [← e1]; exact hB⟩, ⟨rfl, rfl, rfl, trivial⟩, ⟨rfl, rfl, rfl, rfl, trivial⟩, Cv.p, by omega⟩
     · have h3 := of_decide_eq_false h3
       have e1 : (elems ((gd l.cells.xs o.cell.toNat).insts.xs.take i)).length + r * (gd (gd l.cells.xs o.cell.toNat).insts.xs i).cols.toNat = (elems ((gd l.cells.xs o.cell.toNat).insts.xs.take (i + 1))).length := by rw [elems_take h2, List.length_append, elsOf_len, show r = (gd (gd l.cells.xs o.cell.toNat).insts.xs i).rows.toNat by omega]
       refine WP.exit ?_
       refine WP.region (RG.ml rfl rfl rfl (RG.pv rfl (PV.add rfl rfl rfl (by omega)) (RG.mr rfl rfl rfl (RG.nil ?_))))
       exact ⟨rfl, i + 1, _, vo, zs, ⟨by omega, by rw [he, e1], by rw [← e1]; exact hB⟩, ⟨rfl, rfl, rfl, trivial⟩, ⟨rfl, rfl, rfl, trivial⟩, Cv.p, by omega⟩
   · have h1 := of_decide_eq_false h1
     have e1 : (gd l.cells.xs o.cell.toNat).insts.xs.take i = (gd l.cells.xs o.cell.toNat).insts.xs := List.take_of_length_le (by omega)
     have e2 : erOs zs = erOs ys ++ occF (erCls l.cells.xs) (f + 1) (erO o) := by
       rw [hB.er, ← occTo_all, e1]
       have : (elems (gd l.cells.xs o.cell.toNat).insts.xs).length = (elems (gd (erCls l.cells.xs) (erO o).cell.toNat).insts).length := by simp only [erO]; rw [hce]
       rw [← this]
     refine WP.exit ?_
     refine WP.seq (WP.region (RG.pv rfl (PV.move (v := vo) rfl rfl) (RG.pv rfl (PV.asg (v := vo) rfl rfl) (RG.nil ?_))))
     refine WP.ret ?_
     exact ⟨_, _, ResV.one rfl rfl, Cv.p, k vo zs hB.pre e2⟩
theorem occE_cases {cs : List ECell} {cell : Int} (h : celE cs cell = 0) : okLib cs = true ∧ 0 ≤ cell ∧ cell < cs.length := by
 unfold celE at h
 cases h1 : okLib cs with
 | false => rw [h1] at h; cases h
 | true =>
   cases h2 : within cell 0 ((cs.length : Int) - 1) with
   | false => rw [h1, h2] at h; cases h
   | true => simp only [within, Bool.and_eq_true, decide_eq_true_eq] at h2; exact ⟨rfl, by omega⟩
theorem occE_code {cs : List ECell} {cell : Int} (h : celE cs cell ≠ 0) : occE cs cell = celE cs cell := by
 unfold celE at h ⊢
 unfold occE
 cases h1 : okLib cs with
 | false => rfl
 | true =>
   cases h2 : within cell 0 ((cs.length : Int) - 1) with
   | false => rfl
   | true => rw [h1, h2] at h; exact absurd rfl h
theorem occE_in {cs : List ECell} {cell : Int} (h : okLib cs = true) (hc : 0 ≤ cell ∧ cell < cs.length) : occE cs cell = bif decide (200 < cntOf cs cell.toNat) then 3 else bif (occAll cs cell).any fun o => !validT o.place then 2 else 0 := by
 have : within cell 0 ((cs.length : Int) - 1) = true := by simp [within]; omega
 rw [occE, h, this]; rfl
theorem top_in {cell : Int} {n : Nat} (hc : 0 ≤ cell ∧ cell < n) (h8 : n ≤ 8) : oIn (cell.toNat + 1) (top cell) := by
 refine ⟨by simp only [top]; omega, by simp [top], ?_, ?_⟩ <;> simp only [top] <;> omega
theorem occAny_true {cs : List ECell} {cell : Int} {zs : List Occ} (he : erOs zs = occAll cs cell) {i : Nat} (hi : i < zs.length) (h : validT (gd zs i).place = false) : ((occAll cs cell).any fun o => !validT o.place) = true := by
 rw [← he]
 exact List.any_eq_true.2 ⟨gd (erOs zs) i, gd_mem (by rw [erOs_len]; exact hi), by rw [erOs_gd hi]; simp [erO, h]⟩
theorem occAny_false {cs : List ECell} {cell : Int} {zs : List Occ} (he : erOs zs = occAll cs cell) (h : ∀ i, i < zs.length → validT (gd zs i).place = true) : ((occAll cs cell).any fun o => !validT o.place) = false := by
 rw [← he, List.any_eq_false]
 intro o ho
 obtain ⟨i, hi, rfl⟩ := List.getElem_of_mem ho
 rw [erOs_len] at hi
 rw [← gd_eq (by rw [erOs_len]; exact hi), erOs_gd hi]
 simp [erO, h i hi]
theorem Cv.nilOcc {M : List Ch} {e e' : TypeId} [p : PickC L M] : Cv M (osl e occT (.slice none 0 0) [] :: bagS e' intT (pths []) :: L) := (Cv.pick p.pick).trans ((Cv.bag0 (xs := pths []) rfl).trans Cv.nilS)
theorem occ_i {l : Lib} {cell : Int} (hL : RLib G L l.cells.v l.cells.xs) (hlen : lenC (erCls l.cells.xs)) (k : ∀ v' zs, erOs zs = occR (erCls l.cells.xs) cell → R (.tuple #[v', vi (occE (erCls l.cells.xs) cell)]) G (osl 97 occT v' zs :: bagS 2 intT (pths zs) :: L)) : CallT Tryz.prog 121 #[vT libT l, vi cell] G L R := by
 have hE := erCls_len l.cells.xs
 refine CallT.enter (args := _) Tryz.func121 rfl rfl (by kernel_rfl) rfl ?_
 refine WP.seq (WP.region ?_)
 refine RG.ot rfl (OT.box (cs := libT.enc l) rfl rfl rfl fun b2 => ?_)
 refine RG.pv rfl (PV.asg rfl rfl) (RG.mr rfl rfl rfl (RG.nil (WP.seq (WP.seq (WP.region (RG.pv rfl (PV.loadW rfl Ag35 rfl rfl) (RG.ml rfl rfl rfl ?_)))))))
 refine RG.callF (vs := [_, _]) rfl rfl En202 rfl (celE_i hL.up hlen ?_)
 refine RG.mr rfl rfl rfl (RG.nil (WP.seq (WP.region (RG.ml rfl rfl rfl (RG.pv rfl (PV.neq rfl rfl rfl) (RG.nil ?_))))))
 refine WP.cond rfl (fun h1 => ?_) (fun h1 => ?_)
 · have h1 : celE (erCls l.cells.xs) cell ≠ 0 := by simpa using h1
   have e := occE_code h1
   have k := k (.slice none 0 0) [] (by rw [occR_no (by rw [e]; exact h1)]; rfl)
   rw [e] at k
   refine WP.seq (WP.region (RG.ml rfl rfl rfl (RG.pv rfl (PV.asg rfl rfl) (RG.mr rfl rfl rfl (RG.nil ?_)))))
   refine WP.ret ?_
   exact ⟨_, _, ResV.two rfl rfl rfl, Cv.nilOcc, k⟩
 · have h1 : celE (erCls l.cells.xs) cell = 0 := by simpa using h1
   obtain ⟨hok, hc⟩ := occE_cases h1
   have h8 := okLib_len hok
   have hin := occE_in hok hc
   have hal := occAll_len hok hc
   refine WP.skip (WP.seq (WP.seq (WP.region (RG.pv rfl (PV.loadW rfl Ag35 rfl rfl) (RG.ml rfl rfl rfl ?_)))))
   refine RG.callF (vs := [_, _]) rfl rfl En203 rfl (elCnt_i hL.up hok hc ?_)
   refine RG.pv rfl (PV.gtr rfl rfl rfl) (RG.nil ?_)
   refine WP.cond rfl (fun h2 => ?_) (fun h2 => ?_)
   · have e : occE (erCls l.cells.xs) cell = 3 := by rw [hin, h2]; rfl
     have k := k (.slice none 0 0) [] (by rw [occR_no (by rw [e]; decide)]; rfl)
     rw [e] at k
     refine WP.seq (WP.region (RG.pv rfl (PV.asg rfl rfl) (RG.mr rfl rfl rfl (RG.nil ?_))))
     refine WP.ret ?_
     exact ⟨_, _, ResV.two rfl rfl rfl, Cv.nilOcc, k⟩
   · rw [h2, cond_false] at hin
     have h2 := of_decide_eq_false h2
     have hol : 0 + (occF (erCls l.cells.xs) (cell.toNat + 1) (top cell)).length ≤ 1000 := by rw [occAll] at hal; omega
     refine WP.skip (WP.seq (WP.region (RG.pv rfl (PV.loadW rfl Ag35 rfl rfl) (RG.ml rfl rfl rfl (RG.pv rfl (PV.build (vs := [(0, [vi _])]) (out := [_, _, _, _, _]) rfl Zr97 Pl97 ⟨rfl, (Cl.c rfl), trivial⟩ rfl) ?_)))))
     refine RG.callF (vs := [_, _, _]) rfl rfl En204 rfl (CallT.cv ((Cv.nilS (e := 2) (F := intT)).trans ((Cv.bag0 (e := 2) (F := intT) (xs := pths []) rfl).trans (Cv.nilS (e := 97) (F := occT)))) (below_i (cell.toNat + 1) (l := l) (o := ⟨cell, ⟨0, 0, 0⟩, ⟨.slice none 0 0, []⟩⟩) (ys := []) hL.up hok (top_in hc (by omega)) (by simp only; omega) (by simp only [List.length_nil]; omega) (by simp only [List.length_nil]; exact hol) (fun vn zn hr he => ?_)))
     refine RG.pv rfl (PV.asg (v := vn) rfl rfl) (RG.nil (WP.seq (WP.seq (WP.region (RG.pv rfl (PV.move (v := vn) rfl rfl) (RG.pv rfl (PV.len (v := vn) rfl Tryz.underlying164 rfl SlF.o) (RG.ml rfl rfl rfl ?_)))))))
     refine RG.nil (WP.block ?_)
     have he : erOs zn = occAll (erCls l.cells.xs) cell := he
     have hzl : zn.length ≤ 200 := by
       have := congrArg List.length he
       rw [erOs_len] at this; omega
     refine WP.loop1 [7, 24, 25] (fun i => i ≤ zn.length ∧ ∀ j, j < i → validT (gd zn j).place = true) (fun i => [(26, vi i)]) (fun i => osl 97 occT vn zn :: bagS 2 intT (pths zn) :: L) (fun i => zn.length - i) 0 ⟨by omega, fun j h => by omega⟩ ⟨rfl, trivial⟩ Cv.p ?_
     rintro i τ ⟨hi, hj⟩
     refine WP.seq (WP.region (RG.pv rfl (PV.lss rfl rfl rfl) (RG.nil (WP.seq ?_))))
     refine WP.cond rfl (fun h3 => ?_) (fun h3 => ?_)
     · have h3 := of_decide_eq_true h3
       have h4 : i < zn.length := by omega
       have hrd : Rs G (bagS 2 intT (pths zn) :: []) intT (gd zn i).path.v (gd zn i).path.xs := RsE.path RsE.o h4
       refine WP.skip (WP.seq (WP.block (WP.seq (WP.region (RG.pv rfl (PV.idxS (v := vn) rfl Is164 rfl SlF.o rfl rfl (by omega)) (RG.pv rfl (PV.loadE rfl Ag97 rfl rfl (El.o (getG (by omega)))) ?_))))))
       refine RG.ot rfl (OT.alloc rfl Zr97 fun b9 => ?_)
       refine RG.ot rfl (OT.storeW (vs := [vi _, vi _, vi _, vi _, _]) rfl Sz97 rfl rfl (Cl.c rfl) rfl rfl (OneC.val rfl (OneC.val rfl (OneC.val rfl (OneC.val rfl (OneC.sl (SlF.r hrd) OneC.nil))))) ?_)
       refine RG.nil (WP.seq (WP.region (RG.pv rfl (PV.field rfl Fo97_1 rfl) (RG.pv rfl (PV.loadB (vs := [_, _, _]) rfl Ag95 rfl rfl rfl) ?_))))
       refine RG.callF (vs := [_]) rfl rfl En129 rfl (validT_i ?_)
       refine RG.pv rfl (PV.not rfl rfl) (RG.nil ?_)
       refine WP.cond rfl (fun h5 => ?_) (fun h5 => ?_)
       · have e : occE (erCls l.cells.xs) cell = 2 := by rw [hin, occAny_true he h4 (by simpa using h5)]; rfl
         have k := k (.slice none 0 0) [] (by rw [occR_no (by rw [e]; decide)]; rfl)
         rw [e] at k
         refine WP.seq (WP.region (RG.pv rfl (PV.asg rfl rfl) (RG.mr rfl rfl rfl (RG.nil ?_))))
         refine WP.ret ?_
         exact ⟨_, _, ResV.two rfl rfl rfl, Cv.nilOcc, k⟩
       · have hj' : ∀ j, j < i + 1 → validT (gd zn j).place = true := fun j h => by
           by_cases c : j = i
           · rw [c]; simpa using h5
           · exact hj j (by omega)
         refine WP.skip (WP.region (RG.pv rfl (PV.add rfl rfl rfl (by omega)) (RG.ml rfl rfl rfl (RG.nil ?_))))
         exact ⟨rfl, i + 1, ⟨by omega, hj'⟩, ⟨rfl, trivial⟩, ⟨rfl, rfl, rfl, trivial⟩, Cv.p, by omega⟩
     · have h3 := of_decide_eq_false h3
       have e : occE (erCls l.cells.xs) cell = 0 := by rw [hin, occAny_false he (fun j h => hj j (by omega))]; rfl
       have k := k vn zn (by rw [occR_ok e, he])
       rw [e] at k
       refine WP.exit ?_
       refine WP.seq (WP.region (RG.pv rfl (PV.move (v := vn) rfl rfl) (RG.pv rfl (PV.asg (v := vn) rfl rfl) (RG.mr rfl rfl rfl (RG.nil ?_)))))
       refine WP.ret ?_
       exact ⟨_, _, ResV.two rfl rfl rfl, Cv.p, k⟩
theorem occ_r {l : Lib} {cell : Int} (hL : RLib G L l.cells.v l.cells.xs) (hlen : lenC (erCls l.cells.xs)) (k : ∀ v' zs, erOs zs = occR (erCls l.cells.xs) cell → R (.tuple #[v', vi (occE (erCls l.cells.xs) cell)]) G (osl 97 occT v' zs :: bagS 2 intT (pths zs) :: L)) : CallT Tryz.prog 141 #[vT libT l, vi cell] G L R := by
 have hE := erCls_len l.cells.xs
 refine CallT.enter (args := _) Tryz.func141 rfl rfl (by kernel_rfl) rfl ?_
 refine WP.seq (WP.region ?_)
 refine RG.ot rfl (OT.box (cs := libT.enc l) rfl rfl rfl fun b2 => ?_)
 refine RG.pv rfl (PV.asg rfl rfl) (RG.mr rfl rfl rfl (RG.nil (WP.seq (WP.block (WP.seq (WP.region (RG.pv rfl (PV.loadW rfl Ag35 rfl rfl) ?_)))))))
 refine RG.callF (vs := [_]) rfl rfl En35 rfl (okLib_r hL.up hlen ?_)
 refine RG.pv rfl (PV.not rfl rfl) (RG.br rfl rfl rfl (RG.nil ?_))
 refine WP.cond rfl (fun h0 => ?_) (fun h0 => ?_)
 · have e : occE (erCls l.cells.xs) cell = 1 := by rw [occE, h0]; rfl
   have k := k (.slice none 0 0) [] (by rw [occR_no (by rw [e]; decide)]; rfl)
   rw [e] at k
   refine WP.seq (WP.region (RG.pv rfl (PV.asg rfl rfl) (RG.mr rfl rfl rfl (RG.nil ?_))))
   refine WP.ret ?_
   exact ⟨_, _, ResV.two rfl rfl rfl, Cv.nilOcc, k⟩
 · have hok : okLib (erCls l.cells.xs) = true := by simpa using h0
   refine WP.seq (WP.region (RG.pv rfl (PV.loadW rfl Ag35 rfl rfl) (RG.ml rfl rfl rfl ?_)))
   refine RG.callF (vs := [_, _]) rfl rfl En116 rfl (hasCl_r hL.up hlen ?_)
   refine RG.pv rfl (PV.not rfl rfl) (RG.br rfl rfl rfl (RG.nil ?_))
   refine WP.cond rfl (fun h1 => ?_) (fun h1 => ?_)
   · have hw : within cell 0 (((erCls l.cells.xs).length : Int) - 1) = false := by simpa [hasCl, hok] using h1
     have e : occE (erCls l.cells.xs) cell = 5 := by rw [occE, hok, hw]; rfl
     have k := k (.slice none 0 0) [] (by rw [occR_no (by rw [e]; decide)]; rfl)
     rw [e] at k
     refine WP.seq (WP.region (RG.pv rfl (PV.asg rfl rfl) (RG.mr rfl rfl rfl (RG.nil ?_))))
     refine WP.ret ?_
     exact ⟨_, _, ResV.two rfl rfl rfl, Cv.nilOcc, k⟩
   · have hw : within cell 0 (((erCls l.cells.xs).length : Int) - 1) = true := by simpa [hasCl, hok] using h1
     have hc : 0 ≤ cell ∧ cell < (erCls l.cells.xs).length := by simp only [within, Bool.and_eq_true, decide_eq_true_eq] at hw; omega
     have h8 := okLib_len hok
     have hin := occE_in hok hc
     have hal := occAll_len hok hc
     refine WP.seq (WP.region (RG.pv rfl (PV.loadW rfl Ag35 rfl rfl) (RG.ml rfl rfl rfl ?_)))
     refine RG.callF (vs := [_, _]) rfl rfl En214 rfl (elCnt_r hL.up hlen hok hc ?_)
     refine RG.pv rfl (PV.gtr rfl rfl rfl) (RG.br rfl rfl rfl (RG.nil ?_))
     refine WP.cond rfl (fun h2 => ?_) (fun h2 => ?_)
     · have e : occE (erCls l.cells.xs) cell = 3 := by rw [hin, h2]; rfl
       have k := k (.slice none 0 0) [] (by rw [occR_no (by rw [e]; decide)]; rfl)
       rw [e] at k
       refine WP.seq (WP.region (RG.pv rfl (PV.asg rfl rfl) (RG.mr rfl rfl rfl (RG.nil ?_))))
       refine WP.ret ?_
       exact ⟨_, _, ResV.two rfl rfl rfl, Cv.nilOcc, k⟩
     · rw [h2, cond_false] at hin
       have h2 := of_decide_eq_false h2
       have hol : 0 + (occF (erCls l.cells.xs) (cell.toNat + 1) (top cell)).length ≤ 1000 := by rw [occAll] at hal; omega
       refine WP.skip (WP.seq (WP.region (RG.pv rfl (PV.loadW rfl Ag35 rfl rfl) ?_)))
       refine RG.ot rfl (OT.bslice (F := occT) (els := []) rfl El164 rfl (by decide) rfl (by decide) trivial fun v23 => ?_)
       refine RG.ml rfl rfl rfl (RG.pv rfl (PV.build (vs := [(0, [vi _])]) (out := [_, _, _, _, _]) rfl Zr97 Pl97 ⟨rfl, (Cl.c rfl), trivial⟩ rfl) ?_)
       refine RG.callF (vs := [_, v23, _]) rfl rfl En215 rfl (CallT.cv ((Cv.nilS (e := 2) (F := intT)).trans ((Cv.bag0 (e := 2) (F := intT) (xs := pths []) rfl).trans (Cv.p (C := osl 97 occT v23 [] :: bagS 2 intT (pths []) :: osl 2 intT (.slice none 0 0) [] :: L)))) (below_r (cell.toNat + 1) (l := l) (o := ⟨cell, ⟨0, 0, 0⟩, ⟨.slice none 0 0, []⟩⟩) (ys := []) hL hok (top_in hc (by omega)) (by simp only; omega) (by simp only [List.length_nil]; omega) (by simp only [List.length_nil]; exact hol) (fun vn zn hr he => ?_)))
       refine RG.pv rfl (PV.asg (v := vn) rfl rfl) (RG.nil (WP.seq (WP.seq (WP.region (RG.mr rfl rfl rfl (RG.nil (WP.block ?_)))))))
       have he : erOs zn = occAll (erCls l.cells.xs) cell := he
       have hzl : zn.length ≤ 200 := by
         have := congrArg List.length he
         rw [erOs_len] at this; omega
       refine WP.loop1 [6] (fun i => i ≤ zn.length ∧ ∀ j, j < i → validT (gd zn j).place = true) (fun i => [(7, vi i)]) (fun i => osl 97 occT vn zn :: bagS 2 intT (pths zn) :: L) (fun i => zn.length - i) 0 ⟨by omega, fun j h => by omega⟩ ⟨rfl, trivial⟩ Cv.p ?_
       rintro i τ ⟨hi, hj⟩
       refine WP.seq (WP.seq (WP.region (RG.ml rfl rfl rfl (RG.pv rfl (PV.move (v := vn) rfl rfl) (RG.pv rfl (PV.len (v := vn) rfl Tryz.underlying164 rfl SlF.o) (RG.pv rfl (PV.lss rfl rfl rfl) (RG.nil ?_)))))))
       refine WP.cond rfl (fun h3 => ?_) (fun h3 => ?_)
       · have h3 := of_decide_eq_true h3
         have h4 : i < zn.length := by omega
         refine WP.skip (WP.seq (WP.block (WP.seq (WP.region (RG.pv rfl (PV.move (v := vn) rfl rfl) (RG.ml rfl rfl rfl (RG.pv rfl (PV.idxS (v := vn) rfl Is164 rfl SlF.o rfl rfl (by omega)) ?_)))))))
         refine RG.pv rfl (PV.field rfl Fo97_1 rfl) (RG.pv rfl (PV.loadEP rfl Ag95 rfl rfl (El.o (getG (by omega))) rfl) ?_)
         refine RG.callF (vs := [_]) rfl rfl En118 rfl (l09Trans_r ?_)
         refine RG.pv rfl (PV.not rfl rfl) (RG.nil ?_)
         refine WP.cond rfl (fun h5 => ?_) (fun h5 => ?_)
         · have e : occE (erCls l.cells.xs) cell = 2 := by rw [hin, occAny_true he h4 (by simpa using h5)]; rfl
           have k := k (.slice none 0 0) [] (by rw [occR_no (by rw [e]; decide)]; rfl)
           rw [e] at k
           refine WP.seq (WP.region (RG.pv rfl (PV.asg rfl rfl) (RG.mr rfl rfl rfl (RG.nil ?_))))
           refine WP.ret ?_
           exact ⟨_, _, ResV.two rfl rfl rfl, Cv.nilOcc, k⟩
         · have hj' : ∀ j, j < i + 1 → validT (gd zn j).place = true := fun j h => by
             by_cases c : j = i
             · rw [c]; simpa using h5
             · exact hj j (by omega)
           refine WP.skip (WP.region (RG.ml rfl rfl rfl (RG.pv rfl (PV.add rfl rfl rfl (by omega)) (RG.mr rfl rfl rfl (RG.nil ?_)))))
           exact ⟨rfl, i + 1, ⟨by omega, hj'⟩, ⟨rfl, trivial⟩, ⟨rfl, trivial⟩, Cv.p, by omega⟩
       · have h3 := of_decide_eq_false h3
         have e : occE (erCls l.cells.xs) cell = 0 := by rw [hin, occAny_false he (fun j h => hj j (by omega))]; rfl
         have k := k vn zn (by rw [occR_ok e, he])
         rw [e] at k
         refine WP.exit ?_
         refine WP.seq (WP.region (RG.pv rfl (PV.move (v := vn) rfl rfl) (RG.pv rfl (PV.asg (v := vn) rfl rfl) (RG.mr rfl rfl rfl (RG.nil ?_)))))
         refine WP.ret ?_
         exact ⟨_, _, ResV.two rfl rfl rfl, Cv.p, k⟩
end Go.Proofs.YtgphjofccckloaaGreat
namespace Go.Proofs.YtgphjofccckloaaGreat
set_option linter.unusedVariables false
set_option linter.unusedSimpArgs false
open Go
set_option maxRecDepth 20000
set_option linter.unusedSimpArgs false
variable {G : Gh} {L : List Ch} {R : Value → Gh → List Ch → Prop}
theorem flat_mem {cs : List ECell} {os : List EOcc} {i m : Nat} (hi : i < os.length) (hm : m < (gd cs (gd os i).cell.toNat).shapes.length) : (⟨(gd (gd cs (gd os i).cell.toNat).shapes m).layer, moveR (gd os i).place (gd (gd cs (gd os i).cell.toNat).shapes m).box⟩ : Shape) ∈ flatL cs os :=
 List.mem_flatMap.2 ⟨gd os i, gd_mem hi, List.mem_map.2 ⟨_, gd_mem hm, rfl⟩⟩
theorem flat_bad {cs : List ECell} {os : List EOcc} {i m : Nat} (hi : i < os.length) (hm : m < (gd cs (gd os i).cell.toNat).shapes.length) (h : validRect (moveR (gd os i).place (gd (gd cs (gd os i).cell.toNat).shapes m).box) = false) : ((flatL cs os).any fun s => !validRect s.box) = true :=
 List.any_eq_true.2 ⟨_, flat_mem hi hm, by simp [h]⟩
theorem flat_good {cs : List ECell} {os : List EOcc} (h : ∀ i, i < os.length → ∀ m, m < (gd cs (gd os i).cell.toNat).shapes.length → validRect (moveR (gd os i).place (gd (gd cs (gd os i).cell.toNat).shapes m).box) = true) : ((flatL cs os).any fun s => !validRect s.box) = false := by
 rw [List.any_eq_false]
 intro s hs
 obtain ⟨o, ho, hs⟩ := List.mem_flatMap.1 hs
 obtain ⟨i, hi, rfl⟩ := List.getElem_of_mem ho
 obtain ⟨q, hq, rfl⟩ := List.mem_map.1 hs
 obtain ⟨m, hm, rfl⟩ := List.getElem_of_mem hq
 have := h i hi m (by rw [gd_eq hi]; exact hm)
 rw [gd_eq hi, gd_eq hm] at this
 simp [this]
theorem shE_occ {cs : List ECell} {cell : Int} (h : occE cs cell ≠ 0) : shE cs cell = occE cs cell := by rw [shE, decide_eq_false h]; rfl
theorem shE_flat {cs : List ECell} {cell : Int} (h : occE cs cell = 0) : shE cs cell = bif (flatL cs (occR cs cell)).any fun s => !validRect s.box then 2 else 0 := by rw [shE, decide_eq_true h]; rfl
/-- what an occurrence gives -/
structure OccAt (xs : List Cell) (cell : Int) (zs : List Occ) (i : Nat) : Prop where
  hc : 0 ≤ (gd zs i).cell ∧ (gd zs i).cell.toNat < xs.length
  ho : gd (occR (erCls xs) cell) i = erO (gd zs i)
  hi : i < (occR (erCls xs) cell).length
  hp : (0 ≤ (gd zs i).place.o ∧ (gd zs i).place.o ≤ 7) ∧ -1000 ≤ (gd zs i).place.x ∧ (gd zs i).place.x ≤ 1000 ∧ -1000 ≤ (gd zs i).place.y ∧ (gd zs i).place.y ≤ 1000
  hs : (gd (erCls xs) (gd zs i).cell.toNat).shapes = (gd xs (gd zs i).cell.toNat).shapes.xs
  hb : ∀ m, m < (gd xs (gd zs i).cell.toNat).shapes.xs.length → RIn 40 (gd (gd xs (gd zs i).cell.toNat).shapes.xs m).box
  hl : (gd xs (gd zs i).cell.toNat).shapes.xs.length ≤ 24 ∧ (occR (erCls xs) cell).length ≤ 200
theorem OccAt.of {xs : List Cell} {cell : Int} {zs : List Occ} (he : erOs zs = occR (erCls xs) cell) {i : Nat} (hi : i < zs.length) : OccAt xs cell zs i := by
 have hl : zs.length = (occR (erCls xs) cell).length := by rw [← he, erOs_len]
 have ho : gd (occR (erCls xs) cell) i = erO (gd zs i) := by rw [← he, erOs_gd hi]
 obtain ⟨h1, h2, h3, h4⟩ := occR_cell (cs := erCls xs) (cell := cell) (i := i) (by omega)
 rw [ho] at h2 h3
 simp only [erO] at h2 h3
 have hE := erCls_len xs
 obtain ⟨q1, q2, q3⟩ := validT_iff.1 h3
 have hs : (gd (erCls xs) (gd zs i).cell.toNat).shapes = (gd xs (gd zs i).cell.toNat).shapes.xs := by rw [erCls_gd (by omega)]; rfl
 refine ⟨by omega, ho, by omega, by omega, hs, fun m hm => ?_, ?_⟩
 · have := okLib_shape h1 (i := (gd zs i).cell.toNat) (j := m) (by omega) (by rw [hs]; exact hm)
   rw [hs] at this
   simp only [okSh, Bool.and_eq_true] at this
   exact validR_in this.2
 · have := (okLib_cnt h1 (i := (gd zs i).cell.toNat) (by omega)).2
   rw [hs] at this
   exact ⟨this, h4⟩
theorem OccAt.step {xs : List Cell} {cell : Int} {zs : List Occ} {i m : Nat} (h : OccAt xs cell zs i) (hm : m < (gd xs (gd zs i).cell.toNat).shapes.xs.length) :
   (flatOf (erCls xs) (gd (occR (erCls xs) cell) i)).take (m + 1) = (flatOf (erCls xs) (gd (occR (erCls xs) cell) i)).take m ++ [⟨(gd (gd xs (gd zs i).cell.toNat).shapes.xs m).layer, moveR (gd zs i).place (gd (gd xs (gd zs i).cell.toNat).shapes.xs m).box⟩] := by
 have := flatOf_step (cs := erCls xs) (o := gd (occR (erCls xs) cell) i) (k := m) (by rw [h.ho]; simp only [erO]; rw [h.hs]; exact hm)
 rw [this, h.ho]
 simp only [erO, h.hs]
theorem OccAt.len {xs : List Cell} {cell : Int} {zs : List Occ} {i : Nat} (h : OccAt xs cell zs i) : (flatOf (erCls xs) (gd (occR (erCls xs) cell) i)).length = (gd xs (gd zs i).cell.toNat).shapes.xs.length := by
 rw [flatOf_len, h.ho]; simp only [erO, h.hs]
/-- shapes of the occurrences before the i-th are valid -/
def goodTo (cs : List ECell) (os : List EOcc) (i : Nat) : Prop := ∀ j, j < i → ∀ m, m < (gd cs (gd os j).cell.toNat).shapes.length → validRect (moveR (gd os j).place (gd (gd cs (gd os j).cell.toNat).shapes m).box) = true
theorem goodTo.next {xs : List Cell} {cell : Int} {zs : List Occ} {i : Nat} (h : goodTo (erCls xs) (occR (erCls xs) cell) i) (ha : OccAt xs cell zs i) (hm : ∀ m, m < (gd xs (gd zs i).cell.toNat).shapes.xs.length → validRect (moveR (gd zs i).place (gd (gd xs (gd zs i).cell.toNat).shapes.xs m).box) = true) : goodTo (erCls xs) (occR (erCls xs) cell) (i + 1) := by
 intro j hj m hm2
 by_cases c : j = i
 · subst c
   rw [ha.ho] at hm2 ⊢
   simp only [erO, ha.hs] at hm2 ⊢
   exact hm m hm2
 · exact h j (by omega) m hm2
theorem OccAt.bad {xs : List Cell} {cell : Int} {zs : List Occ} {i m : Nat} (ha : OccAt xs cell zs i) (hm : m < (gd xs (gd zs i).cell.toNat).shapes.xs.length) (h : validRect (moveR (gd zs i).place (gd (gd xs (gd zs i).cell.toNat).shapes.xs m).box) = false) : ((flatL (erCls xs) (occR (erCls xs) cell)).any fun s => !validRect s.box) = true := by
 refine flat_bad (i := i) (m := m) ha.hi ?_ ?_
 · rw [ha.ho]; simp only [erO, ha.hs]; exact hm
 · rw [ha.ho]; simp only [erO, ha.hs]; exact h
theorem flat_i {l : Lib} {cell : Int} (hL : RLib G L l.cells.v l.cells.xs) (hlen : lenC (erCls l.cells.xs)) (k : ∀ v', R (.tuple #[v', vi (shE (erCls l.cells.xs) cell)]) G (osl 155 shapeT v' (shR (erCls l.cells.xs) cell) :: L)) : CallT Tryz.prog 79 #[vT libT l, vi cell] G L R := by
 have hE := erCls_len l.cells.xs
 refine CallT.enter (args := _) Tryz.func79 rfl rfl (by kernel_rfl) rfl ?_
 refine WP.seq (WP.region ?_)
 refine RG.ot rfl (OT.box (cs := libT.enc l) rfl rfl rfl fun b2 => ?_)
 refine RG.pv rfl (PV.asg rfl rfl) (RG.mr rfl rfl rfl (RG.nil (WP.seq (WP.region (RG.pv rfl (PV.loadW rfl Ag35 rfl rfl) (RG.ml rfl rfl rfl ?_))))))
 refine RG.callF (vs := [_, _]) rfl rfl En121 rfl (occ_i hL.up hlen (fun w17 zs he => ?_))
 refine RG.pv rfl (PV.move (v := .tuple _) rfl rfl) (RG.pv rfl (PV.ext (v := w17) rfl rfl rfl) (RG.pv rfl (PV.ext rfl rfl rfl) (RG.pv rfl (PV.asg (v := w17) rfl rfl) (RG.mr rfl rfl rfl (RG.nil (WP.seq (WP.seq ?_)))))))
 refine WP.region (RG.ml rfl rfl rfl (RG.pv rfl (PV.neq rfl rfl rfl) (RG.nil ?_)))
 refine WP.cond rfl (fun h1 => ?_) (fun h1 => ?_)
 · have h1 : occE (erCls l.cells.xs) cell ≠ 0 := by simpa using h1
   have e := shE_occ h1
   have e2 : shR (erCls l.cells.xs) cell = [] := shR_no (by rw [e]; exact h1)
   rw [e, e2] at k
   refine WP.seq (WP.region (RG.ml rfl rfl rfl (RG.pv rfl (PV.asg rfl rfl) (RG.mr rfl rfl rfl (RG.nil ?_)))))
   refine WP.ret ?_
   exact ⟨_, _, ResV.two rfl rfl rfl, Cv.p.trans Cv.nilS, k (.slice none 0 0)⟩
 · have h1 : occE (erCls l.cells.xs) cell = 0 := by simpa using h1
   have hse := shE_flat h1
   have hzl : zs.length = (occR (erCls l.cells.xs) cell).length := by rw [← he, erOs_len]
   refine WP.skip (WP.seq (WP.region ?_))
   refine RG.ot rfl (OT.bslice (F := shapeT) (els := []) rfl El111 rfl (by decide) rfl (by decide) trivial fun v23 => ?_)
   refine RG.pv rfl (PV.asg (v := v23) rfl rfl) (RG.nil (WP.seq (WP.seq (WP.region (RG.pv rfl (PV.move (v := w17) rfl rfl) (RG.pv rfl (PV.len (v := w17) rfl Tryz.underlying164 rfl SlF.o) (RG.ml rfl rfl rfl ?_)))))))
   refine RG.nil (WP.block ?_)
   refine WP.bdo w17 fun hbz => ?_
   refine WP.cv (Cv.eqS (ys := flatL (erCls l.cells.xs) ((occR (erCls l.cells.xs) cell).take 0)) rfl) ?_
   refine WP.loop2 [2, 24, 25] (fun (i : Nat) (v : Value) => i ≤ zs.length ∧ goodTo (erCls l.cells.xs) (occR (erCls l.cells.xs) cell) i) (fun (i : Nat) (v : Value) => [(26, vi i), (8, v)]) (fun (i : Nat) (v : Value) => osl 155 shapeT v (flatL (erCls l.cells.xs) ((occR (erCls l.cells.xs) cell).take i)) :: osl 97 occT w17 zs :: bagS 2 intT (pths zs) :: blk b2 35 (libT.enc l) :: L) (fun (i : Nat) (v : Value) => zs.length - i) 0 v23 ⟨by omega, fun j h => by omega⟩ ⟨rfl, rfl, trivial⟩ Cv.p ?_
   rintro i v τ ⟨hi, hg⟩
   refine WP.seq (WP.region (RG.pv rfl (PV.lss rfl rfl rfl) (RG.nil (WP.seq ?_))))
   have hfb := flatL_bd (cs := (erCls l.cells.xs)) (cell := cell) i (by omega)
   refine WP.cond rfl (fun h2 => ?_) (fun h2 => ?_)
   · have h2 := of_decide_eq_true h2
     have h3 : i < zs.length := by omega
     have ha := OccAt.of (cell := cell) he h3
     have hrd : Rs G (bagS 2 intT (pths zs) :: []) intT (gd zs i).path.v (gd zs i).path.xs := RsE.path RsE.o h3
     have hac := ha.hc
     have hal := ha.hl
     have hsl := hL.sa ha.hc.2
     refine WP.skip (WP.seq (WP.block (WP.seq (WP.region (RG.pv rfl (PV.idxS (v := w17) rfl Is164 rfl SlF.o rfl rfl (by omega)) (RG.pv rfl (PV.loadE rfl Ag97 rfl rfl (El.o (getG (by omega)))) ?_))))))
     refine RG.ot rfl (OT.alloc rfl Zr97 fun b10 => ?_)
     refine RG.ot rfl (OT.storeW (vs := [vi _, vi _, vi _, vi _, _]) rfl Sz97 rfl rfl (Cl.c rfl) rfl rfl (OneC.val rfl (OneC.val rfl (OneC.val rfl (OneC.val rfl (OneC.sl (SlF.r hrd) OneC.nil))))) ?_)
     refine RG.nil (WP.seq (WP.region (RG.pv rfl (PV.field rfl Fo35_0 rfl) (RG.pv rfl (PV.load1 rfl Sc33 rfl (Rd.blk rfl)) (RG.pv rfl (PV.field rfl Fo97_0 rfl) (RG.pv rfl (PV.load1 rfl Sc2 rfl (Rd.blk rfl)) (RG.pv rfl (PV.idxS (j := (gd zs i).cell.toNat) rfl Is33 rfl (SlF.r hL.c) rfl (by omega) (by omega)) ?_)))))))
     refine RG.pv rfl (PV.field rfl Fo115_1 rfl) (RG.pv rfl (PV.loadF rfl Sc111 rfl rfl (El.r hL.c (getG (by omega))) rfl) (RG.pv rfl (PV.len rfl Tryz.underlying111 rfl (SlF.r hsl)) (RG.ml rfl rfl rfl (RG.nil (WP.block ?_)))))
     refine WP.cv ((Cv.p (C := osl 155 shapeT v (flatL (erCls l.cells.xs) ((occR (erCls l.cells.xs) cell).take i)) :: osl 97 occT w17 zs :: bagS 2 intT (pths zs) :: blk b2 35 (libT.enc l) :: blk b10 97 (occT.enc (gd zs i)) :: L)).trans (Cv.eqS (ys := flatL (erCls l.cells.xs) ((occR (erCls l.cells.xs) cell).take i) ++ (flatOf (erCls l.cells.xs) (gd (occR (erCls l.cells.xs) cell) i)).take 0) (by simp))) ?_
     refine WP.loop2 [2, 10, 24, 25, 26, 36, 37] (fun (m : Nat) (v : Value) => m ≤ (gd l.cells.xs (gd zs i).cell.toNat).shapes.xs.length ∧ ∀ j, j < m → validRect (moveR (gd zs i).place (gd (gd l.cells.xs (gd zs i).cell.toNat).shapes.xs j).box) = true) (fun (m : Nat) (v : Value) => [(38, vi m), (8, v)]) (fun (m : Nat) (v : Value) => osl 155 shapeT v (flatL (erCls l.cells.xs) ((occR (erCls l.cells.xs) cell).take i) ++ (flatOf (erCls l.cells.xs) (gd (occR (erCls l.cells.xs) cell) i)).take m) :: osl 97 occT w17 zs :: bagS 2 intT (pths zs) :: blk b2 35 (libT.enc l) :: blk b10 97 (occT.enc (gd zs i)) :: L) (fun (m : Nat) (v : Value) => (gd l.cells.xs (gd zs i).cell.toNat).shapes.xs.length - m) 0 v ⟨by omega, fun j h => by omega⟩ ⟨rfl, rfl, trivial⟩ Cv.p ?_
     rintro m v τ ⟨hm, hq⟩
     refine WP.seq (WP.region (RG.pv rfl (PV.lss rfl rfl rfl) (RG.nil (WP.seq ?_))))
     refine WP.cond rfl (fun h4 => ?_) (fun h4 => ?_)
     · have h4 := of_decide_eq_true h4
       have hst := ha.step (m := m) (by omega)
       have hll : (flatL (erCls l.cells.xs) ((occR (erCls l.cells.xs) cell).take i) ++ (flatOf (erCls l.cells.xs) (gd (occR (erCls l.cells.xs) cell) i)).take m).length ≤ 6000 := by rw [List.length_append, List.length_take]; omega
       refine WP.skip (WP.seq (WP.block (WP.seq (WP.region (RG.pv rfl (PV.idxS rfl Is111 rfl (SlF.r hsl) rfl rfl (by omega)) (RG.pv rfl (PV.loadE rfl Ag155 rfl rfl (El.r hsl (getG (by omega)))) ?_))))))
       refine RG.ot rfl (OT.alloc rfl Zr155 fun b12 => ?_)
       refine RG.ot rfl (OT.storeW (vs := [vi _, vi _, vi _, vi _, vi _]) rfl Sz155 rfl rfl (Cl.c rfl) rfl rfl (OneC.c rfl) ?_)
       refine RG.nil (WP.seq (WP.region (RG.pv rfl (PV.field rfl Fo97_1 rfl) (RG.pv rfl (PV.loadB (vs := [_, _, _]) rfl Ag95 rfl rfl rfl) (RG.pv rfl (PV.field rfl Fo155_1 rfl) (RG.pv rfl (PV.loadB (vs := [_, _, _, _]) rfl Ag91 rfl rfl rfl) ?_))))))
       refine RG.callF (vs := [_, _]) rfl rfl En123 rfl (moveRect_s ha.hp.1 ha.hp.2 (ha.hb m (by omega)) ?_)
       refine RG.ot rfl (OT.alloc rfl Zr91 fun b13 => ?_)
       refine RG.ot rfl (OT.storeW (vs := [vi _, vi _, vi _, vi _]) rfl Sz91 rfl rfl (Cl.c rfl) rfl rfl (OneC.c rfl) ?_)
       refine RG.nil (WP.seq (WP.seq (WP.region (RG.pv rfl (PV.loadW rfl Ag91 rfl rfl) ?_))))
       refine RG.callF (vs := [_]) rfl rfl En124 rfl (validRect_s ?_)
       refine RG.pv rfl (PV.not rfl rfl) (RG.nil ?_)
       refine WP.cond rfl (fun h5 => ?_) (fun h5 => ?_)
       · have e : shE (erCls l.cells.xs) cell = 2 := by rw [hse, ha.bad (m := m) (by omega) (by simpa using h5)]; rfl
         have e2 : shR (erCls l.cells.xs) cell = [] := shR_no (by rw [e]; decide)
         rw [e, e2] at k
         refine WP.seq (WP.region (RG.pv rfl (PV.asg rfl rfl) (RG.mr rfl rfl rfl (RG.nil ?_))))
         refine WP.ret ?_
         exact ⟨_, _, ResV.two rfl rfl rfl, Cv.p.trans Cv.nilS, k (.slice none 0 0)⟩
       · have hq' : ∀ j, j < m + 1 → validRect (moveR (gd zs i).place (gd (gd l.cells.xs (gd zs i).cell.toNat).shapes.xs j).box) = true := fun j h => by
           by_cases c : j = m
           · rw [c]; simpa using h5
           · exact hq j (by omega)
         refine WP.skip (WP.region (RG.pv rfl (PV.move (v := v) rfl rfl) (RG.pv rfl (PV.field rfl Fo155_0 rfl) (RG.pv rfl (PV.load1 rfl Sc2 rfl (Rd.blk rfl)) (RG.pv rfl (PV.loadW rfl Ag91 rfl rfl) (RG.pv rfl (PV.build (vs := [(0, [vi _]), (1, [vi _, vi _, vi _, vi _])]) (out := [_, _, _, _, _]) rfl Zr155 Pl155 ⟨rfl, (Cl.c rfl), ⟨rfl, (Cl.c rfl), trivial⟩⟩ rfl) ?_))))))
         refine RG.ot rfl (OT.bslice (F := shapeT) (els := [⟨(gd (gd l.cells.xs (gd zs i).cell.toNat).shapes.xs m).layer, moveR (gd zs i).place (gd (gd l.cells.xs (gd zs i).cell.toNat).shapes.xs m).box⟩]) rfl El111 rfl (by decide) rfl (by decide) ⟨rfl, (Cl.c rfl), trivial⟩ fun v55 => ?_)
         refine RG.ot rfl (OT.append (v := v) (u := v55) (F := shapeT) rfl El111 rfl (by decide) rfl rfl Rs.o (OneL.c (fun _ => rfl)) rfl (by first | omega | (simp <;> omega)) fun v56 => ?_)
         refine RG.pv rfl (PV.asg (v := v56) rfl rfl) (RG.nil (WP.region (RG.pv rfl (PV.add rfl rfl rfl (by omega)) (RG.ml rfl rfl rfl (RG.nil ?_)))))
         exact ⟨rfl, m + 1, v56, ⟨by omega, hq'⟩, ⟨rfl, rfl, trivial⟩, ⟨rfl, rfl, rfl, rfl, rfl, rfl, rfl, trivial⟩, ((Cv.p (C := osl 155 shapeT v56 (flatL (erCls l.cells.xs) ((occR (erCls l.cells.xs) cell).take i) ++ (flatOf (erCls l.cells.xs) (gd (occR (erCls l.cells.xs) cell) i)).take m ++ [⟨(gd (gd l.cells.xs (gd zs i).cell.toNat).shapes.xs m).layer, moveR (gd zs i).place (gd (gd l.cells.xs (gd zs i).cell.toNat).shapes.xs m).box⟩]) :: osl 97 occT w17 zs :: bagS 2 intT (pths zs) :: blk b2 35 (libT.enc l) :: blk b10 97 (occT.enc (gd zs i)) :: L)).trans (Cv.eqS (by rw [List.append_assoc, ← hst]))), by omega⟩
     · have h4 := of_decide_eq_false h4
       have e : flatL (erCls l.cells.xs) ((occR (erCls l.cells.xs) cell).take i) ++ (flatOf (erCls l.cells.xs) (gd (occR (erCls l.cells.xs) cell) i)).take m = flatL (erCls l.cells.xs) ((occR (erCls l.cells.xs) cell).take (i + 1)) := by rw [List.take_of_length_le (i := m) (l := flatOf (erCls l.cells.xs) (gd (occR (erCls l.cells.xs) cell) i)) (by rw [ha.len]; omega), flatL_take ha.hi]
       refine WP.exit ?_
       refine WP.region (RG.pv rfl (PV.add rfl rfl rfl (by omega)) (RG.ml rfl rfl rfl (RG.nil ?_)))
       exact ⟨rfl, i + 1, v, ⟨by omega, hg.next ha (fun j h => hq j (by omega))⟩, ⟨rfl, rfl, trivial⟩, ⟨rfl, rfl, rfl, trivial⟩, ((Cv.eqS e).trans Cv.p), by omega⟩
   · have h2 := of_decide_eq_false h2
     have e : shE (erCls l.cells.xs) cell = 0 := by rw [hse, flat_good (fun j h => hg j (by omega))]; rfl
     have e2 : shR (erCls l.cells.xs) cell = flatL (erCls l.cells.xs) ((occR (erCls l.cells.xs) cell).take i) := by rw [shR_ok e, List.take_of_length_le (by omega)]
     rw [e, e2] at k
     refine WP.exit ?_
     refine WP.seq (WP.region (RG.pv rfl (PV.move (v := v) rfl rfl) (RG.pv rfl (PV.asg (v := v) rfl rfl) (RG.mr rfl rfl rfl (RG.nil ?_)))))
     refine WP.ret ?_
     exact ⟨_, _, ResV.two rfl rfl rfl, Cv.p, k v⟩
theorem OccAt.big {xs : List Cell} {cell : Int} {zs : List Occ} {i : Nat} (h : OccAt xs cell zs i) : TBig (gd zs i).place := by
 obtain ⟨q1, q2⟩ := h.hp
 exact ⟨q1, by omega⟩
theorem flat_r {l : Lib} {cell : Int} (hL : RLib G L l.cells.v l.cells.xs) (hlen : lenC (erCls l.cells.xs)) (k : ∀ v', R (.tuple #[v', vi (shE (erCls l.cells.xs) cell)]) G (osl 155 shapeT v' (shR (erCls l.cells.xs) cell) :: L)) : CallT Tryz.prog 72 #[vT libT l, vi cell] G L R := by
 have hE := erCls_len l.cells.xs
 refine CallT.enter (args := _) Tryz.func72 rfl rfl (by kernel_rfl) rfl ?_
 refine WP.seq (WP.region ?_)
 refine RG.ot rfl (OT.box (cs := libT.enc l) rfl rfl rfl fun b2 => ?_)
 refine RG.pv rfl (PV.asg rfl rfl) (RG.mr rfl rfl rfl (RG.nil (WP.seq (WP.region (RG.pv rfl (PV.loadW rfl Ag35 rfl rfl) (RG.ml rfl rfl rfl ?_))))))
 refine RG.callF (vs := [_, _]) rfl rfl En141 rfl (occ_r hL.up hlen (fun w16 zs he => ?_))
 refine RG.pv rfl (PV.move (v := .tuple _) rfl rfl) (RG.pv rfl (PV.ext (v := w16) rfl rfl rfl) (RG.pv rfl (PV.ext rfl rfl rfl) (RG.pv rfl (PV.asg (v := w16) rfl rfl) (RG.mr rfl rfl rfl (RG.nil (WP.seq (WP.seq ?_)))))))
 refine WP.region (RG.ml rfl rfl rfl (RG.pv rfl (PV.neq rfl rfl rfl) (RG.nil ?_)))
 refine WP.cond rfl (fun h1 => ?_) (fun h1 => ?_)
 · have h1 : occE (erCls l.cells.xs) cell ≠ 0 := by simpa using h1
   have e := shE_occ h1
   have e2 : shR (erCls l.cells.xs) cell = [] := shR_no (by rw [e]; exact h1)
   rw [e, e2] at k
   refine WP.seq (WP.region (RG.ml rfl rfl rfl (RG.pv rfl (PV.asg rfl rfl) (RG.mr rfl rfl rfl (RG.nil ?_)))))
   refine WP.ret ?_
   exact ⟨_, _, ResV.two rfl rfl rfl, Cv.p.trans Cv.nilS, k (.slice none 0 0)⟩
 · have h1 : occE (erCls l.cells.xs) cell = 0 := by simpa using h1
   have hse := shE_flat h1
   have hzl : zs.length = (occR (erCls l.cells.xs) cell).length := by rw [← he, erOs_len]
   refine WP.skip (WP.seq (WP.region ?_))
   refine RG.ot rfl (OT.bslice (F := shapeT) (els := []) rfl El111 rfl (by decide) rfl (by decide) trivial fun v22 => ?_)
   refine RG.pv rfl (PV.asg (v := v22) rfl rfl) (RG.nil (WP.seq (WP.seq (WP.region (RG.mr rfl rfl rfl (RG.nil (WP.block ?_)))))))
   refine WP.bdo w16 fun hbz => ?_
   refine WP.cv (Cv.eqS (ys := flatL (erCls l.cells.xs) ((occR (erCls l.cells.xs) cell).take 0)) rfl) ?_
   refine WP.loop2 [2, 6] (fun (i : Nat) (v : Value) => i ≤ zs.length ∧ goodTo (erCls l.cells.xs) (occR (erCls l.cells.xs) cell) i) (fun (i : Nat) (v : Value) => [(9, vi i), (8, v)]) (fun (i : Nat) (v : Value) => osl 155 shapeT v (flatL (erCls l.cells.xs) ((occR (erCls l.cells.xs) cell).take i)) :: osl 97 occT w16 zs :: bagS 2 intT (pths zs) :: blk b2 35 (libT.enc l) :: L) (fun (i : Nat) (v : Value) => zs.length - i) 0 v22 ⟨by omega, fun j h => by omega⟩ ⟨rfl, rfl, trivial⟩ Cv.p ?_
   rintro i v τ ⟨hi, hg⟩
   refine WP.seq (WP.seq (WP.region (RG.ml rfl rfl rfl (RG.pv rfl (PV.move (v := w16) rfl rfl) (RG.pv rfl (PV.len (v := w16) rfl Tryz.underlying164 rfl SlF.o) (RG.pv rfl (PV.lss rfl rfl rfl) (RG.nil ?_)))))))
   have hfb := flatL_bd (cs := (erCls l.cells.xs)) (cell := cell) i (by omega)
   refine WP.cond rfl (fun h2 => ?_) (fun h2 => ?_)
   · have h2 := of_decide_eq_true h2
     have h3 : i < zs.length := by omega
     have ha := OccAt.of (cell := cell) he h3
     have hac := ha.hc
     have hal := ha.hl
     have hsl := hL.sa ha.hc.2
     refine WP.skip (WP.seq (WP.block (WP.seq ?_)))
     refine WP.regionH0 (.q 0 (.q 1 (.q 2 (.q 3 (.q 4 (.q 5 (.q 6 (.q 7 (.q 8 (.l 9 (.l 10 Sch.nil))))))))))) (by kernel_rfl) (by kernel_rfl) (by kernel_rfl) rfl ?_
     refine RH.pv rfl (fun _ _ _ _ h => h) (Gh.le_refl _) PickC.pick rfl (PV.field rfl Fo35_0 rfl) ?_
     refine RH.pv rfl (fun _ _ _ _ h => h) (Gh.le_refl _) PickC.pick rfl (PV.load1 rfl Sc33 rfl (Rd.blk rfl)) ?_
     refine RH.pv rfl (fun _ _ _ _ h => h) (Gh.le_refl _) PickC.pick rfl (PV.move (v := w16) rfl rfl) ?_
     refine RH.pv rfl (fun _ _ _ _ h => h) (Gh.le_refl _) PickC.pick rfl (PV.mvI (.inl rfl) rfl) ?_
     refine RH.pv rfl (fun _ _ _ _ h => h) (Gh.le_refl _) PickC.pick rfl (PV.idxS (v := w16) rfl Is164 rfl SlF.o rfl rfl (by omega)) ?_
     refine RH.pv rfl (fun _ _ _ _ h => h) (Gh.le_refl _) PickC.pick rfl (PV.field rfl Fo97_0 rfl) ?_
     refine RH.pv rfl (fun _ _ _ _ h => h) (Gh.le_refl _) PickC.pick rfl (PV.loadF rfl Sc2 rfl rfl (El.o (getG (by omega))) rfl) ?_
     refine RH.pv rfl (fun _ _ _ _ h => h) (Gh.le_refl _) PickC.pick rfl (PV.idxS (j := (gd zs i).cell.toNat) rfl Is33 rfl (SlF.r hL.c) rfl (by omega) (by omega)) ?_
     refine RH.pv rfl (fun _ _ _ _ h => h) (Gh.le_refl _) PickC.pick rfl (PV.loadE rfl Ag115 rfl rfl (El.r hL.c (getG (by omega)))) ?_
     refine RH.ot rfl rfl (OT.alloc rfl Zr115 fun b10 => ⟨Gh.le_refl _, PickC.pick, ?_⟩)
     refine RH.ot rfl rfl (OT.storeW (vs := [.string _, _, _, _]) rfl Sz115 rfl rfl (Cl.c rfl) rfl rfl (hL.one ha.hc.2) ⟨Gh.le_refl _, PickC.pick, ?_⟩)
     refine RH.nil ?_
     refine WP.seq (WP.region (RG.mr rfl rfl rfl (RG.nil (WP.block ?_))))
     refine WP.cv ((Cv.p (C := osl 155 shapeT v (flatL (erCls l.cells.xs) ((occR (erCls l.cells.xs) cell).take i)) :: osl 97 occT w16 zs :: bagS 2 intT (pths zs) :: blk b2 35 (libT.enc l) :: blk b10 115 (cellT.enc (gd l.cells.xs (gd zs i).cell.toNat)) :: L)).trans (Cv.eqS (ys := flatL (erCls l.cells.xs) ((occR (erCls l.cells.xs) cell).take i) ++ (flatOf (erCls l.cells.xs) (gd (occR (erCls l.cells.xs) cell) i)).take 0) (by simp))) ?_
     refine WP.loop2 [2, 6, 9, 10] (fun (m : Nat) (v : Value) => m ≤ (gd l.cells.xs (gd zs i).cell.toNat).shapes.xs.length ∧ ∀ j, j < m → validRect (moveR (gd zs i).place (gd (gd l.cells.xs (gd zs i).cell.toNat).shapes.xs j).box) = true) (fun (m : Nat) (v : Value) => [(11, vi m), (8, v)]) (fun (m : Nat) (v : Value) => osl 155 shapeT v (flatL (erCls l.cells.xs) ((occR (erCls l.cells.xs) cell).take i) ++ (flatOf (erCls l.cells.xs) (gd (occR (erCls l.cells.xs) cell) i)).take m) :: osl 97 occT w16 zs :: bagS 2 intT (pths zs) :: blk b2 35 (libT.enc l) :: blk b10 115 (cellT.enc (gd l.cells.xs (gd zs i).cell.toNat)) :: L) (fun (m : Nat) (v : Value) => (gd l.cells.xs (gd zs i).cell.toNat).shapes.xs.length - m) 0 v ⟨by omega, fun j h => by omega⟩ ⟨rfl, rfl, trivial⟩ Cv.p ?_
     rintro m v τ ⟨hm, hq⟩
     refine WP.seq (WP.seq (WP.region (RG.ml rfl rfl rfl (RG.pv rfl (PV.field rfl Fo115_1 rfl) (RG.pv rfl (PV.load1 rfl Sc111 rfl (Rd.blk rfl)) (RG.pv rfl (PV.len rfl Tryz.underlying111 rfl (SlF.r hsl)) (RG.pv rfl (PV.lss rfl rfl rfl) ?_)))))))
     refine RG.nil ?_
     refine WP.cond rfl (fun h4 => ?_) (fun h4 => ?_)
     · have h4 := of_decide_eq_true h4
       have hst := ha.step (m := m) (by omega)
       have hll : (flatL (erCls l.cells.xs) ((occR (erCls l.cells.xs) cell).take i) ++ (flatOf (erCls l.cells.xs) (gd (occR (erCls l.cells.xs) cell) i)).take m).length ≤ 6000 := by rw [List.length_append, List.length_take]; omega
       refine WP.skip (WP.seq (WP.block ?_))
       refine WP.cut1 [2, 6, 8, 9, 10, 11] (fun (b12 : Nat) => True) (fun (b12 : Nat) => [(12, .pointer (some ⟨b12, 0, none⟩))]) (fun (b12 : Nat) => blk b12 91 (rectT.enc (moveR (gd zs i).place (gd (gd l.cells.xs (gd zs i).cell.toNat).shapes.xs m).box)) :: osl 155 shapeT v (flatL (erCls l.cells.xs) ((occR (erCls l.cells.xs) cell).take i) ++ (flatOf (erCls l.cells.xs) (gd (occR (erCls l.cells.xs) cell) i)).take m) :: osl 97 occT w16 zs :: bagS 2 intT (pths zs) :: blk b2 35 (libT.enc l) :: blk b10 115 (cellT.enc (gd l.cells.xs (gd zs i).cell.toNat)) :: L) ?_ ?_
       refine WP.regionH0 (.q 0 (.q 1 (.q 2 (.q 3 (.q 4 (.q 5 (.q 6 (.q 7 (.q 8 (.q 9 (.q 10 (.b 11 (.l 12 (.l 13 Sch.nil)) 12 (.l 11 (.l 13 Sch.nil)))))))))))))) (by kernel_rfl) (by kernel_rfl) (by kernel_rfl) rfl ?_
       refine RH.pv rfl (fun _ _ _ _ h => h) (Gh.le_refl _) PickC.pick rfl (PV.move (v := w16) rfl rfl) ?_
       refine RH.pv rfl (fun _ _ _ _ h => h) (Gh.le_refl _) PickC.pick rfl (PV.mvI (.inl rfl) rfl) ?_
       refine RH.pv rfl (fun _ _ _ _ h => h) (Gh.le_refl _) PickC.pick rfl (PV.idxS (v := w16) rfl Is164 rfl SlF.o rfl rfl (by omega)) ?_
       refine RH.pv rfl (fun _ _ _ _ h => h) (Gh.le_refl _) PickC.pick rfl (PV.field rfl Fo97_1 rfl) ?_
       refine RH.pv rfl (fun _ _ _ _ h => h) (Gh.le_refl _) PickC.pick rfl (PV.loadEP rfl Ag95 rfl rfl (El.o (getG (by omega))) rfl) ?_
       refine RH.pv rfl (fun _ _ _ _ h => h) (Gh.le_refl _) PickC.pick rfl (PV.field rfl Fo115_1 rfl) ?_
       refine RH.pv rfl (fun _ _ _ _ h => h) (Gh.le_refl _) PickC.pick rfl (PV.load1 rfl Sc111 rfl (Rd.blk rfl)) ?_
       refine RH.pv rfl (fun _ _ _ _ h => h) (Gh.le_refl _) PickC.pick rfl (PV.mvI (.inl rfl) rfl) ?_
       refine RH.pv rfl (fun _ _ _ _ h => h) (Gh.le_refl _) PickC.pick rfl (PV.idxS rfl Is111 rfl (SlF.r hsl) rfl rfl (by omega)) ?_
       refine RH.pv rfl (fun _ _ _ _ h => h) (Gh.le_refl _) PickC.pick rfl (PV.field rfl Fo155_1 rfl) ?_
       refine RH.pv rfl (fun _ _ _ _ h => h) (Gh.le_refl _) PickC.pick rfl (PV.loadEP rfl Ag91 rfl rfl (El.r hsl (getG (by omega))) rfl) ?_
       · refine RH.ot2 rfl rfl rfl rfl  (OT.callF (vs := [_, _]) rfl En142 rfl (l10Rect_r ha.big (ha.hb m (by omega)) ⟨Gh.le_refl _, PickC.pick, ?_⟩)) (OT.alloc rfl Zr91 fun b12 => ⟨Gh.le_refl _, PickC.pick, ?_⟩)
         · refine RH.ot rfl rfl (OT.alloc rfl Zr91 fun b12 => ⟨Gh.le_refl _, PickC.pick, ?_⟩)
           refine RH.ot rfl rfl (OT.storeW (vs := [vi _, vi _, vi _, vi _]) rfl Sz91 rfl rfl (Cl.c rfl) rfl rfl (OneC.c rfl) ⟨Gh.le_refl _, PickC.pick, ?_⟩)
           refine RH.nil ?_
           exact ⟨rfl, b12, trivial, ⟨rfl, trivial⟩, ⟨rfl, rfl, rfl, rfl, rfl, rfl, trivial⟩, Cv.p⟩
         · refine RH.ot rfl rfl (OT.callF (vs := [_, _]) rfl En142 rfl (l10Rect_r ha.big (ha.hb m (by omega)) ⟨Gh.le_refl _, PickC.pick, ?_⟩))
           refine RH.ot rfl rfl (OT.storeW (vs := [vi _, vi _, vi _, vi _]) rfl Sz91 rfl rfl (Cl.c rfl) rfl rfl (OneC.c rfl) ⟨Gh.le_refl _, PickC.pick, ?_⟩)
           refine RH.nil ?_
           exact ⟨rfl, b12, trivial, ⟨rfl, trivial⟩, ⟨rfl, rfl, rfl, rfl, rfl, rfl, trivial⟩, Cv.p⟩
       rintro b12 τ5 -
       refine WP.seq (WP.seq (WP.region (RG.pv rfl (PV.loadW rfl Ag91 rfl rfl) ?_)))
       refine RG.callF (vs := [_]) rfl rfl En143 rfl (l09Rect_r ?_)
       refine RG.pv rfl (PV.not rfl rfl) (RG.nil ?_)
       refine WP.cond rfl (fun h5 => ?_) (fun h5 => ?_)
       · have e : shE (erCls l.cells.xs) cell = 2 := by rw [hse, ha.bad (m := m) (by omega) (by simpa using h5)]; rfl
         have e2 : shR (erCls l.cells.xs) cell = [] := shR_no (by rw [e]; decide)
         rw [e, e2] at k
         refine WP.seq (WP.region (RG.pv rfl (PV.asg rfl rfl) (RG.mr rfl rfl rfl (RG.nil ?_))))
         refine WP.ret ?_
         exact ⟨_, _, ResV.two rfl rfl rfl, Cv.p.trans Cv.nilS, k (.slice none 0 0)⟩
       · have hq' : ∀ j, j < m + 1 → validRect (moveR (gd zs i).place (gd (gd l.cells.xs (gd zs i).cell.toNat).shapes.xs j).box) = true := fun j h => by
           by_cases c : j = m
           · rw [c]; simpa using h5
           · exact hq j (by omega)
         refine WP.skip ?_
         refine WP.regionHD [.s v] (.q 0 (.q 1 (.q 2 (.q 3 (.q 4 (.q 5 (.q 6 (.q 7 (.q 8 (.l 9 (.l 10 (.q 11 Sch.nil)))))))))))) (by kernel_rfl) (by kernel_rfl) (by kernel_rfl) rfl ?_
         refine RH.pv rfl (fun _ _ _ _ h => h) (Gh.le_refl _) PickC.pick rfl (PV.move (v := v) rfl rfl) ?_
         refine RH.pv rfl (fun _ _ _ _ h => h) (Gh.le_refl _) PickC.pick rfl (PV.field rfl Fo115_1 rfl) ?_
         refine RH.pv rfl (fun _ _ _ _ h => h) (Gh.le_refl _) PickC.pick rfl (PV.load1 rfl Sc111 rfl (Rd.blk rfl)) ?_
         refine RH.pv rfl (fun _ _ _ _ h => h) (Gh.le_refl _) PickC.pick rfl (PV.mvI (.inl rfl) rfl) ?_
         refine RH.pv rfl (fun _ _ _ _ h => h) (Gh.le_refl _) PickC.pick rfl (PV.idxS rfl Is111 rfl (SlF.r hsl) rfl rfl (by omega)) ?_
         refine RH.pv rfl (fun _ _ _ _ h => h) (Gh.le_refl _) PickC.pick rfl (PV.field rfl Fo155_0 rfl) ?_
         refine RH.pv rfl (fun _ _ _ _ h => h) (Gh.le_refl _) PickC.pick rfl (PV.loadF rfl Sc2 rfl rfl (El.r hsl (getG (by omega))) rfl) ?_
         refine RH.pv rfl (fun _ _ _ _ h => h) (Gh.le_refl _) PickC.pick rfl (PV.loadW rfl Ag91 rfl rfl) ?_
         refine RH.pv rfl (fun _ _ _ _ h => h) (Gh.le_refl _) PickC.pick rfl (PV.build (vs := [(0, [vi _]), (1, [vi _, vi _, vi _, vi _])]) (out := [_, _, _, _, _]) rfl Zr155 Pl155 ⟨rfl, (Cl.c rfl), ⟨rfl, (Cl.c rfl), trivial⟩⟩ rfl) ?_
         refine RH.ot rfl rfl (OT.bslice (F := shapeT) (els := [⟨(gd (gd l.cells.xs (gd zs i).cell.toNat).shapes.xs m).layer, moveR (gd zs i).place (gd (gd l.cells.xs (gd zs i).cell.toNat).shapes.xs m).box⟩]) rfl El111 rfl (by decide) rfl (by decide) ⟨rfl, (Cl.c rfl), trivial⟩ fun v69 => ⟨Gh.le_refl _, PickC.pick, ?_⟩)
         refine RH.ot rfl rfl (OT.append (v := v) (u := v69) (F := shapeT) rfl El111 rfl (by decide) rfl rfl Rs.o (OneL.c (fun _ => rfl)) rfl (by first | omega | (simp <;> omega)) fun v70 => ⟨Gh.le_refl _, PickC.pick, ?_⟩)
         refine RH.pv rfl (fun _ _ _ _ h => h) (Gh.le_refl _) PickC.pick rfl (PV.asg (v := v70) rfl rfl) ?_
         refine RH.nil ?_
         refine WP.region (RG.ml rfl rfl rfl (RG.pv rfl (PV.add rfl rfl rfl (by omega)) (RG.mr rfl rfl rfl (RG.nil ?_))))
         exact ⟨rfl, m + 1, v70, ⟨by omega, hq'⟩, ⟨rfl, rfl, trivial⟩, ⟨rfl, rfl, rfl, rfl, trivial⟩, ((Cv.p (C := osl 155 shapeT v70 (flatL (erCls l.cells.xs) ((occR (erCls l.cells.xs) cell).take i) ++ (flatOf (erCls l.cells.xs) (gd (occR (erCls l.cells.xs) cell) i)).take m ++ [⟨(gd (gd l.cells.xs (gd zs i).cell.toNat).shapes.xs m).layer, moveR (gd zs i).place (gd (gd l.cells.xs (gd zs i).cell.toNat).shapes.xs m).box⟩]) :: osl 97 occT w16 zs :: bagS 2 intT (pths zs) :: blk b2 35 (libT.enc l) :: blk b10 115 (cellT.enc (gd l.cells.xs (gd zs i).cell.toNat)) :: L)).trans (Cv.eqS (by rw [List.append_assoc, ← hst]))), by omega⟩
     · have h4 := of_decide_eq_false h4
       have e : flatL (erCls l.cells.xs) ((occR (erCls l.cells.xs) cell).take i) ++ (flatOf (erCls l.cells.xs) (gd (occR (erCls l.cells.xs) cell) i)).take m = flatL (erCls l.cells.xs) ((occR (erCls l.cells.xs) cell).take (i + 1)) := by rw [List.take_of_length_le (i := m) (l := flatOf (erCls l.cells.xs) (gd (occR (erCls l.cells.xs) cell) i)) (by rw [ha.len]; omega), flatL_take ha.hi]
       refine WP.exit ?_
       refine WP.region (RG.ml rfl rfl rfl (RG.pv rfl (PV.add rfl rfl rfl (by omega)) (RG.mr rfl rfl rfl (RG.nil ?_))))
       exact ⟨rfl, i + 1, v, ⟨by omega, hg.next ha (fun j h => hq j (by omega))⟩, ⟨rfl, rfl, trivial⟩, ⟨rfl, rfl, trivial⟩, ((Cv.eqS e).trans Cv.p), by omega⟩
   · have h2 := of_decide_eq_false h2
     have e : shE (erCls l.cells.xs) cell = 0 := by rw [hse, flat_good (fun j h => hg j (by omega))]; rfl
     have e2 : shR (erCls l.cells.xs) cell = flatL (erCls l.cells.xs) ((occR (erCls l.cells.xs) cell).take i) := by rw [shR_ok e, List.take_of_length_le (by omega)]
     rw [e, e2] at k
     refine WP.exit ?_
     refine WP.seq (WP.region (RG.pv rfl (PV.move (v := v) rfl rfl) (RG.pv rfl (PV.asg (v := v) rfl rfl) (RG.mr rfl rfl rfl (RG.nil ?_)))))
     refine WP.ret ?_
     exact ⟨_, _, ResV.two rfl rfl rfl, Cv.p, k v⟩
def layTo (ss : List Shape) (n : Nat) : List (List Rect) := (List.range n).map fun l => canon (bits (boxesOf ss l))
theorem layTo_next {ss : List Shape} {n : Nat} {zs : List (Sl Rect)} {u : Value} (h : er zs = layTo ss n) : er (zs ++ [⟨u, canon (bits (boxesOf ss n))⟩]) = layTo ss (n + 1) := by
 have e : er (zs ++ [(⟨u, canon (bits (boxesOf ss n))⟩ : Sl Rect)]) = er zs ++ [canon (bits (boxesOf ss n))] := by simp [er]
 rw [e, h, layTo, layTo, List.range_succ, List.map_append]; rfl
theorem layTo_len {ss : List Shape} {n : Nat} {zs : List (Sl Rect)} (h : er zs = layTo ss n) : zs.length = n := by
 have := congrArg List.length h; simpa [er, layTo] using this
theorem any_boxes {ss : List Shape} {i n y x : Nat} (h : i < ss.length) : ((boxesOf (ss.take (i + 1)) n).any fun r => inR r y x) = (((boxesOf (ss.take i) n).any fun r => inR r y x) || (decide ((gd ss i).layer = (n : Int)) && inR (gd ss i).box y x)) := by
 rw [boxesOf_step h, List.any_append]
 by_cases e : (gd ss i).layer = (n : Int) <;> simp [e]
theorem layers_i {v : Value} {ss : List Shape} (h1 : Rs G L shapeT v ss) (k : ∀ v' ys, er ys = layL ss → R v' G (osl 50 slT v' ys :: bagS 91 rectT ys :: L)) : CallT Tryz.prog 80 #[v] G L R := by
 refine CallT.bd h1 fun hb => ?_
 refine CallT.enter (args := _) Tryz.func80 rfl rfl (by kernel_rfl) rfl ?_
 refine WP.seq (WP.region (RG.pv rfl (PV.asg rfl rfl) (RG.nil (WP.seq (WP.region ?_)))))
 refine RG.ot rfl (OT.bslice (F := (slT (α := Rect))) (els := []) rfl El71 rfl (by decide) rfl (by decide) trivial fun v8 => ?_)
 refine RG.pv rfl (PV.asg (v := v8) rfl rfl) (RG.nil (WP.seq (WP.seq (WP.region (RG.ml rfl rfl rfl (RG.nil (WP.block ?_)))))))
 refine WP.cv (Cv.cons (Cv.bag0 (e := 91) (F := rectT) (xs := []) rfl)) ?_
 refine WP.loop3 [0] (fun (n : Nat) (vo : Value) (zs : List (Sl Rect)) => n ≤ 8 ∧ er zs = layTo ss n) (fun (n : Nat) (vo : Value) (zs : List (Sl Rect)) => [(9, vi n), (3, vo)]) (fun (n : Nat) (vo : Value) (zs : List (Sl Rect)) => osl 50 slT vo zs :: bagS 91 rectT zs :: L) (fun (n : Nat) (vo : Value) (zs : List (Sl Rect)) => 8 - n) 0 v8 [] ⟨by omega, rfl⟩ ⟨rfl, rfl, trivial⟩ Cv.p ?_
 rintro n vo zs τ ⟨hn, hz⟩
 refine WP.seq (WP.region (RG.pv rfl (PV.lss rfl rfl rfl) (RG.nil (WP.seq ?_))))
 have hzl := layTo_len hz
 refine WP.cond rfl (fun h2 => ?_) (fun h2 => ?_)
 · have h2 := of_decide_eq_true h2
   refine WP.skip (WP.seq (WP.block (WP.seq (WP.region (RG.ml rfl rfl rfl (RG.mr rfl rfl rfl (RG.nil ?_)))))))
   refine WP.seq (WP.region (RG.pv rfl (PV.build0 rfl Tryz.underlying179 ⟨80, by kernel_rfl⟩ (zeroB_spec (n := 6400) (by kernel_rfl))) ?_))
   refine RG.ot rfl (OT.boxG rfl rfl fun b13 => ?_)
   refine RG.pv rfl (PV.mvP (.inr rfl) rfl) (RG.nil (WP.seq (WP.seq (WP.region (RG.pv rfl (PV.move (v := v) rfl rfl) (RG.pv rfl (PV.len (v := v) rfl Tryz.underlying111 rfl (SlF.r h1)) (RG.ml rfl rfl rfl ?_)))))))
   refine RG.nil (WP.block ?_)
   refine WP.loop2 [0, 3, 4, 5, 9, 14, 15] (fun (i : Nat) (cs : List Bool) => i ≤ ss.length ∧ cs.length = 6400 ∧ ∀ y x, y < 80 → x < 80 → gb cs y x = (boxesOf (ss.take i) n).any fun r => inR r y x) (fun (i : Nat) (cs : List Bool) => [(16, vi i)]) (fun (i : Nat) (cs : List Bool) => grd b13 cs :: osl 50 slT vo zs :: bagS 91 rectT zs :: L) (fun (i : Nat) (cs : List Bool) => ss.length - i) 0 (List.replicate 6400 false) ⟨by omega, by simp, fun y x _ _ => by rw [gb_rep]; simp [boxesOf]⟩ ⟨rfl, trivial⟩ Cv.p ?_
   rintro i cs τ1 ⟨hi, hl, hc⟩
   refine WP.seq (WP.region (RG.pv rfl (PV.lss rfl rfl rfl) (RG.nil (WP.seq ?_))))
   refine WP.cond rfl (fun h3 => ?_) (fun h3 => ?_)
   · have h3 := of_decide_eq_true h3
     have h4 : i < ss.length := by omega
     refine WP.skip (WP.seq (WP.block (WP.seq (WP.region (RG.pv rfl (PV.idxS (v := v) rfl Is111 rfl (SlF.r h1) rfl rfl (by omega)) (RG.pv rfl (PV.loadE rfl Ag155 rfl rfl (El.r h1 (getG (by omega)))) ?_))))))
     refine RG.ot rfl (OT.alloc rfl Zr155 fun b7 => ?_)
     refine RG.ot rfl (OT.storeW (vs := [vi _, vi _, vi _, vi _, vi _]) rfl Sz155 rfl rfl (Cl.c rfl) rfl rfl (OneC.c rfl) ?_)
     refine RG.nil (WP.seq (WP.region (RG.pv rfl (PV.field rfl Fo155_0 rfl) (RG.pv rfl (PV.load1 rfl Sc2 rfl (Rd.blk rfl)) (RG.ml rfl rfl rfl (RG.pv rfl (PV.eql rfl rfl rfl) (RG.nil ?_)))))))
     refine WP.cond rfl (fun h5 => ?_) (fun h5 => ?_)
     · have h5 := of_decide_eq_true h5
       refine WP.region (RG.pv rfl (PV.mvP (.inl rfl) rfl) (RG.pv rfl (PV.field rfl Fo155_1 rfl) (RG.pv rfl (PV.loadB (vs := [_, _, _, _]) rfl Ag91 rfl rfl rfl) ?_)))
       refine RG.callF (vs := [(.pointer (some ⟨b13, 0, none⟩)), _]) rfl rfl En131 rfl (CallT.exB (put_s (by assumption) (fun bs' hb' hg' => ?_)))
       refine RG.nil (WP.region (RG.pv rfl (PV.add rfl rfl rfl (by omega)) (RG.ml rfl rfl rfl (RG.nil ?_))))
       refine ⟨rfl, i + 1, bs', ⟨by omega, hb', fun y x h6 h7 => ?_⟩, ⟨rfl, trivial⟩, ⟨rfl, rfl, rfl, rfl, rfl, rfl, rfl, trivial⟩, Cv.p, by omega⟩
       rw [hg' y x h6 h7, hc y x h6 h7, any_boxes h4, decide_eq_true h5, Bool.true_and]
     · have h5 := of_decide_eq_false h5
       refine WP.skip (WP.region (RG.pv rfl (PV.add rfl rfl rfl (by omega)) (RG.ml rfl rfl rfl (RG.nil ?_))))
       refine ⟨rfl, i + 1, cs, ⟨by omega, hl, fun y x h6 h7 => ?_⟩, ⟨rfl, trivial⟩, ⟨rfl, rfl, rfl, rfl, rfl, rfl, rfl, trivial⟩, Cv.p, by omega⟩
       rw [hc y x h6 h7, any_boxes h4, decide_eq_false h5, Bool.false_and, Bool.or_false]
   · have h3 := of_decide_eq_false h3
     have e : cs = bits (boxesOf ss n) := bits_eq hl fun y x h6 h7 => by rw [hc y x h6 h7, List.take_of_length_le (by omega)]
     subst e
     refine WP.exit ?_
     refine WP.region (RG.pv rfl (PV.move (v := vo) rfl rfl) (RG.pv rfl (PV.mvP (.inl rfl) rfl) ?_))
     refine RG.callF (vs := [(.pointer (some ⟨b13, 0, none⟩))]) rfl rfl En132 rfl (CallT.exB (region_s (bits_length _) (fun v31 => ?_)))
     refine RG.ot rfl (OT.bslice (F := (slT (α := Rect))) (els := [⟨v31, canon (bits (boxesOf ss n))⟩]) rfl El71 rfl (by decide) rfl (by decide) ⟨rfl, (Cl.s (v := v31) SlF.o), trivial⟩ fun v32 => ?_)
     refine RG.ot rfl (OT.append (v := vo) (u := v32) (F := (slT (α := Rect))) rfl El71 rfl (by decide) rfl rfl Rs.o (OneL.one (a := (⟨v31, canon (bits (boxesOf ss n))⟩ : Sl Rect)) (OneC.sl SlF.o OneC.nil)) rfl (by first | omega | (simp <;> omega)) fun v33 => ?_)
     refine RG.pv rfl (PV.asg (v := v33) rfl rfl) (RG.nil (WP.region (RG.pv rfl (PV.add rfl rfl rfl (by omega)) (RG.ml rfl rfl rfl (RG.nil ?_)))))
     exact ⟨rfl, n + 1, v33, (zs ++ [⟨v31, canon (bits (boxesOf ss n))⟩]), ⟨by omega, layTo_next hz⟩, ⟨rfl, rfl, trivial⟩, ⟨rfl, trivial⟩, ((Cv.p (C := osl 91 rectT v31 (canon (bits (boxesOf ss n))) :: osl 50 slT v33 (zs ++ [⟨v31, canon (bits (boxesOf ss n))⟩]) :: bagS 91 rectT zs :: L)).trans Cv.slotNew), by omega⟩
 · have h2 := of_decide_eq_false h2
   obtain rfl : n = 8 := by omega
   refine WP.exit ?_
   refine WP.seq (WP.region (RG.pv rfl (PV.move (v := vo) rfl rfl) (RG.pv rfl (PV.asg (v := vo) rfl rfl) (RG.nil ?_))))
   refine WP.ret ?_
   exact ⟨_, _, ResV.one rfl rfl, Cv.p, k vo zs hz⟩
theorem layers_r {v : Value} {ss : List Shape} (h1 : Rs G L shapeT v ss) (hv : ∀ i, i < ss.length → validRect (gd ss i).box = true) (k : ∀ v' ys, er ys = layL ss → R v' G (osl 50 slT v' ys :: bagS 91 rectT ys :: L)) : CallT Tryz.prog 73 #[v] G L R := by
 refine CallT.bd h1 fun hb => ?_
 refine CallT.enter (args := _) Tryz.func73 rfl rfl (by kernel_rfl) rfl ?_
 refine WP.seq (WP.region (RG.pv rfl (PV.asg rfl rfl) (RG.nil (WP.seq (WP.region ?_)))))
 refine RG.ot rfl (OT.bslice (F := (slT (α := Rect))) (els := []) rfl El71 rfl (by decide) rfl (by decide) trivial fun v10 => ?_)
 refine RG.pv rfl (PV.asg (v := v10) rfl rfl) (RG.nil (WP.seq (WP.seq (WP.region (RG.mr rfl rfl rfl (RG.nil (WP.block ?_)))))))
 refine WP.cv (Cv.cons (Cv.bag0 (e := 91) (F := rectT) (xs := []) rfl)) ?_
 refine WP.loop3 [0] (fun (n : Nat) (vo : Value) (zs : List (Sl Rect)) => n ≤ 8 ∧ er zs = layTo ss n) (fun (n : Nat) (vo : Value) (zs : List (Sl Rect)) => [(4, vi n), (3, vo)]) (fun (n : Nat) (vo : Value) (zs : List (Sl Rect)) => osl 50 slT vo zs :: bagS 91 rectT zs :: L) (fun (n : Nat) (vo : Value) (zs : List (Sl Rect)) => 8 - n) 0 v10 [] ⟨by omega, rfl⟩ ⟨rfl, rfl, trivial⟩ Cv.p ?_
 rintro n vo zs τ ⟨hn, hz⟩
 refine WP.seq (WP.seq (WP.region (RG.ml rfl rfl rfl (RG.pv rfl (PV.lss rfl rfl rfl) (RG.nil ?_)))))
 have hzl := layTo_len hz
 refine WP.cond rfl (fun h2 => ?_) (fun h2 => ?_)
 · have h2 := of_decide_eq_true h2
   refine WP.skip (WP.seq (WP.block (WP.seq (WP.region ?_))))
   refine RG.callF (vs := [_]) rfl rfl En120 rfl (l03Bits_s (xs := []) (RsN) (fun i hi => by simp at hi) (fun v15 => ?_))
   refine RG.pv rfl (PV.asg (v := v15) rfl rfl) (RG.nil (WP.seq (WP.seq (WP.region (RG.mr rfl rfl rfl (RG.nil (WP.block ?_)))))))
   refine WP.loop2 [0, 3, 4, 5] (fun (i : Nat) (cs : List Bool) => i ≤ ss.length ∧ cs.length = 6400 ∧ ∀ y x, y < 80 → x < 80 → gb cs y x = (boxesOf (ss.take i) n).any fun r => inR r y x) (fun (i : Nat) (cs : List Bool) => [(6, vi i)]) (fun (i : Nat) (cs : List Bool) => osl 4 boolT v15 cs :: osl 50 slT vo zs :: bagS 91 rectT zs :: L) (fun (i : Nat) (cs : List Bool) => ss.length - i) 0 (bits []) ⟨by omega, bits_length _, fun y x h1 h2 => by rw [gb_bits [] h1 h2]; simp [boxesOf]⟩ ⟨rfl, trivial⟩ Cv.p ?_
   rintro i cs τ1 ⟨hi, hl, hc⟩
   refine WP.seq (WP.seq (WP.region (RG.ml rfl rfl rfl (RG.pv rfl (PV.move (v := v) rfl rfl) (RG.pv rfl (PV.len (v := v) rfl Tryz.underlying111 rfl (SlF.r h1)) (RG.pv rfl (PV.lss rfl rfl rfl) (RG.nil ?_)))))))
   refine WP.cond rfl (fun h3 => ?_) (fun h3 => ?_)
   · have h3 := of_decide_eq_true h3
     have h4 : i < ss.length := by omega
     have hr := valid_bd (hv i h4)
     refine WP.skip (WP.seq (WP.block (WP.seq (WP.region (RG.pv rfl (PV.move (v := v) rfl rfl) (RG.ml rfl rfl rfl (RG.pv rfl (PV.idxS (v := v) rfl Is111 rfl (SlF.r h1) rfl rfl (by omega)) ?_)))))))
     refine RG.pv rfl (PV.field rfl Fo155_1 rfl) (RG.pv rfl (PV.loadEP rfl Ag91 rfl rfl (El.r h1 (getG (by omega))) rfl) ?_)
     refine RG.ot rfl (OT.alloc rfl Zr91 fun b7 => ?_)
     refine RG.ot rfl (OT.storeW (vs := [vi _, vi _, vi _, vi _]) rfl Sz91 rfl rfl (Cl.c rfl) rfl rfl (OneC.c rfl) ?_)
     refine RG.nil (WP.seq (WP.region (RG.pv rfl (PV.field rfl Fo91_1 rfl) (RG.pv rfl (PV.load1 rfl Sc2 rfl (Rd.blk rfl)) (RG.mr rfl rfl rfl (RG.nil (WP.block ?_)))))))
     refine WP.loop2 [0, 3, 4, 5, 6, 7] (fun (y : Int) (ds : List Bool) => (gd ss i).box.y0 ≤ y ∧ y ≤ (gd ss i).box.y1 ∧ (¬ (gd ss i).layer = (n : Int) → y = (gd ss i).box.y0) ∧ ds.length = 6400 ∧ ∀ y' x', y' < 80 → x' < 80 → gb ds y' x' = (gb cs y' x' || (inR (gd ss i).box y' x' && decide ((y' : Int) - 40 < y)))) (fun (y : Int) (ds : List Bool) => [(8, vi y)]) (fun (y : Int) (ds : List Bool) => osl 4 boolT v15 ds :: blk b7 91 (rectT.enc (gd ss i).box) :: osl 50 slT vo zs :: bagS 91 rectT zs :: L) (fun (y : Int) (ds : List Bool) => (40 - y).toNat) (gd ss i).box.y0 cs ⟨by omega, by omega, fun _ => rfl, hl, fun y' x' h1 h2 => by rw [Bool.eq_iff_iff]; simp [inR]; omega⟩ ⟨rfl, trivial⟩ Cv.p ?_
     rintro y ds τ2 ⟨hy0, hy1, hly, hld, hd⟩
     refine WP.seq (WP.seq (WP.region (RG.pv rfl (PV.move (v := v) rfl rfl) (RG.ml rfl rfl rfl (RG.pv rfl (PV.idxS (v := v) rfl Is111 rfl (SlF.r h1) rfl rfl (by omega)) (RG.pv rfl (PV.field rfl Fo155_0 rfl) (RG.pv rfl (PV.loadF rfl Sc2 rfl rfl (El.r h1 (getG (by omega))) rfl) ?_)))))))
     refine RG.ml rfl rfl rfl (RG.pv rfl (PV.eql rfl rfl rfl) (RG.bl rfl rfl rfl ?_))
     refine RG.gs rfl rfl rfl (fun hp => (PV.mvI (.inl rfl) rfl)) ?_
     refine RG.gs rfl rfl rfl (fun hp => (PV.field rfl Fo91_3 rfl)) ?_
     refine RG.gs rfl rfl rfl (fun hp => (PV.load1 rfl Sc2 (gs_t hp) (Rd.blk rfl))) ?_
     refine RG.gs rfl rfl rfl (fun hp => (PV.lss rfl (gs_t hp) (gs_t hp))) ?_
     refine RG.pv rfl (PV.pickA rfl rfl (fun hq => gs_t (geqT hq)) rfl) (RG.nil ?_)
     refine WP.cond rfl (fun h5 => ?_) (fun h5 => ?_)
     · have h5' : (gd ss i).layer = (n : Int) ∧ y < (gd ss i).box.y1 := by simpa using h5
       refine WP.skip (WP.seq (WP.block (WP.seq (WP.region (RG.pv rfl (PV.field rfl Fo91_0 rfl) (RG.pv rfl (PV.load1 rfl Sc2 rfl (Rd.blk rfl)) (RG.mr rfl rfl rfl ?_)))))))
       refine RG.nil (WP.block ?_)
       refine WP.loop2 [0, 3, 4, 5, 6, 7, 8] (fun (x : Int) (es : List Bool) => (gd ss i).box.x0 ≤ x ∧ x ≤ (gd ss i).box.x1 ∧ es.length = 6400 ∧ ∀ y' x', y' < 80 → x' < 80 → gb es y' x' = (gb ds y' x' || (decide ((y' : Int) - 40 = y) && decide ((gd ss i).box.x0 ≤ (x' : Int) - 40) && decide ((x' : Int) - 40 < x)))) (fun (x : Int) (es : List Bool) => [(9, vi x)]) (fun (x : Int) (es : List Bool) => osl 4 boolT v15 es :: blk b7 91 (rectT.enc (gd ss i).box) :: osl 50 slT vo zs :: bagS 91 rectT zs :: L) (fun (x : Int) (es : List Bool) => (40 - x).toNat) (gd ss i).box.x0 ds ⟨by omega, by omega, hld, fun y' x' h1 h2 => by rw [Bool.eq_iff_iff]; simp; omega⟩ ⟨rfl, trivial⟩ Cv.p ?_
       rintro x es τ3 ⟨hx0, hx1, hle, hee⟩
       refine WP.seq (WP.seq (WP.region (RG.ml rfl rfl rfl (RG.pv rfl (PV.field rfl Fo91_2 rfl) (RG.pv rfl (PV.load1 rfl Sc2 rfl (Rd.blk rfl)) (RG.pv rfl (PV.lss rfl rfl rfl) (RG.nil ?_)))))))
       refine WP.cond rfl (fun h6 => ?_) (fun h6 => ?_)
       · have h6 := of_decide_eq_true h6
         refine WP.skip (WP.seq (WP.block (WP.region (RG.pv rfl (PV.move (v := v15) rfl rfl) (RG.ml rfl rfl rfl (RG.pv rfl (PV.add rfl rfl rfl (by omega)) (RG.pv rfl (PV.mul rfl rfl rfl (by omega)) ?_)))))))
         refine RG.ml rfl rfl rfl (RG.pv rfl (PV.add rfl rfl rfl (by omega)) (RG.pv rfl (PV.add rfl rfl rfl (by omega)) (RG.pv rfl (PV.idxS (j := ((y + 40) * 80 + x + 40).toNat) (v := v15) rfl Is162 rfl SlF.o rfl (by omega) (by omega)) ?_)))
         refine RG.ot rfl (OT.storeE (F := boolT) rfl Sz4 rfl rfl rfl (Cl.c rfl) (OneC.c rfl) (by omega) ?_)
         refine RG.nil (WP.region (RG.ml rfl rfl rfl (RG.pv rfl (PV.add rfl rfl rfl (by omega)) (RG.mr rfl rfl rfl (RG.nil ?_)))))
         refine ⟨rfl, x + 1, (es.set ((y + 40) * 80 + x + 40).toNat true), ⟨by omega, by omega, by simpa using hle, fun y' x' h7 h8 => ?_⟩, ⟨rfl, trivial⟩, ⟨rfl, rfl, rfl, rfl, rfl, rfl, rfl, trivial⟩, Cv.p, by omega⟩
         rw [show ((y + 40) * 80 + x + 40).toNat = (y + 40).toNat * 80 + (x + 40).toNat by omega, gb_set hle (by omega) (by omega) h8, hee y' x' h7 h8]
         cases gb ds y' x' <;> (rw [Bool.eq_iff_iff]; split <;> simp <;> omega)
       · have h6 := of_decide_eq_false h6
         refine WP.exit ?_
         refine WP.region (RG.ml rfl rfl rfl (RG.pv rfl (PV.add rfl rfl rfl (by omega)) (RG.mr rfl rfl rfl (RG.nil ?_))))
         refine ⟨rfl, y + 1, es, ⟨by omega, by omega, fun h => absurd h5'.1 h, hle, fun y' x' h7 h8 => ?_⟩, ⟨rfl, trivial⟩, ⟨rfl, rfl, rfl, rfl, rfl, rfl, trivial⟩, Cv.p, by omega⟩
         rw [hee y' x' h7 h8, hd y' x' h7 h8]
         cases gb cs y' x' <;> (rw [Bool.eq_iff_iff]; simp [inR]; try omega)
     · have h5' : (gd ss i).layer = (n : Int) → (gd ss i).box.y1 ≤ y := by simpa using h5
       refine WP.exit ?_
       refine WP.region (RG.ml rfl rfl rfl (RG.pv rfl (PV.add rfl rfl rfl (by omega)) (RG.mr rfl rfl rfl (RG.nil ?_))))
       refine ⟨rfl, i + 1, ds, ⟨by omega, hld, fun y' x' h7 h8 => ?_⟩, ⟨rfl, trivial⟩, ⟨rfl, rfl, rfl, rfl, trivial⟩, Cv.p, by omega⟩
       rw [hd y' x' h7 h8, hc y' x' h7 h8, any_boxes h4]
       congr 1
       by_cases e : (gd ss i).layer = (n : Int)
       · have := h5' e
         rw [Bool.eq_iff_iff]; simp [inR, e]; omega
       · have := hly e
         rw [Bool.eq_iff_iff]; simp [inR, e]; omega
   · have h3 := of_decide_eq_false h3
     have e : cs = bits (boxesOf ss n) := bits_eq hl fun y x h6 h7 => by rw [hc y x h6 h7, List.take_of_length_le (by omega)]
     subst e
     refine WP.exit ?_
     refine WP.region (RG.pv rfl (PV.move (v := vo) rfl rfl) (RG.pv rfl (PV.move (v := v15) rfl rfl) ?_))
     refine RG.callF (vs := [v15]) rfl rfl En119 rfl (l03Canon_s Rs.o (bits_length _) (fun v62 => ?_))
     refine RG.ot rfl (OT.bslice (F := (slT (α := Rect))) (els := [⟨v62, canon (bits (boxesOf ss n))⟩]) rfl El71 rfl (by decide) rfl (by decide) ⟨rfl, (Cl.s (v := v62) SlF.o), trivial⟩ fun v63 => ?_)
     refine RG.ot rfl (OT.append (v := vo) (u := v63) (F := (slT (α := Rect))) rfl El71 rfl (by decide) rfl rfl Rs.o (OneL.one (a := (⟨v62, canon (bits (boxesOf ss n))⟩ : Sl Rect)) (OneC.sl SlF.o OneC.nil)) rfl (by first | omega | (simp <;> omega)) fun v64 => ?_)
     refine RG.pv rfl (PV.asg (v := v64) rfl rfl) (RG.nil (WP.region (RG.ml rfl rfl rfl (RG.pv rfl (PV.add rfl rfl rfl (by omega)) (RG.mr rfl rfl rfl (RG.nil ?_))))))
     exact ⟨rfl, n + 1, v64, (zs ++ [⟨v62, canon (bits (boxesOf ss n))⟩]), ⟨by omega, layTo_next hz⟩, ⟨rfl, rfl, trivial⟩, ⟨rfl, trivial⟩, ((Cv.p (C := osl 91 rectT v62 (canon (bits (boxesOf ss n))) :: osl 50 slT v64 (zs ++ [⟨v62, canon (bits (boxesOf ss n))⟩]) :: bagS 91 rectT zs :: L)).trans Cv.slotNew), by omega⟩
 · have h2 := of_decide_eq_false h2
   obtain rfl : n = 8 := by omega
   refine WP.exit ?_
   refine WP.seq (WP.region (RG.pv rfl (PV.move (v := vo) rfl rfl) (RG.pv rfl (PV.asg (v := vo) rfl rfl) (RG.nil ?_))))
   refine WP.ret ?_
   exact ⟨_, _, ResV.one rfl rfl, Cv.p, k vo zs hz⟩
def flyL (cs : List ECell) (cell : Int) : List (List Rect) := bif decide (shE cs cell = 0) then layL (shR cs cell) else []
theorem Cv.nilSS {M : List Ch} {e e' : TypeId} [p : PickC L M] : Cv M (osl e slT (.slice none 0 0) ([] : List (Sl Rect)) :: bagS e' rectT [] :: L) := (Cv.pick p.pick).trans ((Cv.bag0 (xs := []) rfl).trans Cv.nilS)
theorem fly_i {l : Lib} {cell : Int} (hL : RLib G L l.cells.v l.cells.xs) (hlen : lenC (erCls l.cells.xs)) (k : ∀ v' ys, er ys = flyL (erCls l.cells.xs) cell → R (.tuple #[v', vi (shE (erCls l.cells.xs) cell)]) G (osl 50 slT v' ys :: bagS 91 rectT ys :: L)) : CallT Tryz.prog 43 #[vT libT l, vi cell] G L R := by
 refine CallT.enter (args := _) Tryz.func43 rfl rfl (by kernel_rfl) rfl ?_
 refine WP.seq (WP.region ?_)
 refine RG.ot rfl (OT.box (cs := libT.enc l) rfl rfl rfl fun b2 => ?_)
 refine RG.pv rfl (PV.asg rfl rfl) (RG.mr rfl rfl rfl (RG.nil (WP.seq (WP.region (RG.pv rfl (PV.loadW rfl Ag35 rfl rfl) (RG.ml rfl rfl rfl ?_))))))
 refine RG.callF (vs := [_, _]) rfl rfl En79 rfl (flat_i hL.up hlen (fun w11 => ?_))
 refine RG.pv rfl (PV.move (v := .tuple _) rfl rfl) (RG.pv rfl (PV.ext (v := w11) rfl rfl rfl) (RG.pv rfl (PV.ext rfl rfl rfl) (RG.pv rfl (PV.asg (v := w11) rfl rfl) (RG.mr rfl rfl rfl (RG.nil (WP.seq (WP.seq ?_)))))))
 refine WP.region (RG.ml rfl rfl rfl (RG.pv rfl (PV.neq rfl rfl rfl) (RG.nil ?_)))
 refine WP.cond rfl (fun h1 => ?_) (fun h1 => ?_)
 · have h1 : shE (erCls l.cells.xs) cell ≠ 0 := by simpa using h1
   refine WP.seq (WP.region (RG.ml rfl rfl rfl (RG.pv rfl (PV.asg rfl rfl) (RG.mr rfl rfl rfl (RG.nil ?_)))))
   refine WP.ret ?_
   exact ⟨_, _, ResV.two rfl rfl rfl, Cv.nilSS, k _ [] (by rw [flyL, decide_eq_false h1]; rfl)⟩
 · have h1 : shE (erCls l.cells.xs) cell = 0 := by simpa using h1
   have ef : flyL (erCls l.cells.xs) cell = layL (shR (erCls l.cells.xs) cell) := by rw [flyL, decide_eq_true h1]; rfl
   rw [h1] at k
   refine WP.skip (WP.seq (WP.region (RG.pv rfl (PV.move (v := w11) rfl rfl) ?_)))
   refine RG.callF (vs := [w11]) rfl rfl En80 rfl (layers_i Rs.o (fun w8 ys he => ?_))
   refine RG.pv rfl (PV.asg rfl rfl) (RG.mr rfl rfl rfl (RG.nil ?_))
   refine WP.ret ?_
   exact ⟨_, _, ResV.two rfl rfl rfl, Cv.p, k w8 ys (by rw [he, ef])⟩
theorem fly_r {l : Lib} {cell : Int} (hL : RLib G L l.cells.v l.cells.xs) (hlen : lenC (erCls l.cells.xs)) (k : ∀ v' ys, er ys = flyL (erCls l.cells.xs) cell → R (.tuple #[v', vi (shE (erCls l.cells.xs) cell)]) G (osl 50 slT v' ys :: bagS 91 rectT ys :: L)) : CallT Tryz.prog 37 #[vT libT l, vi cell] G L R := by
 refine CallT.enter (args := _) Tryz.func37 rfl rfl (by kernel_rfl) rfl ?_
 refine WP.seq (WP.region ?_)
 refine RG.ot rfl (OT.box (cs := libT.enc l) rfl rfl rfl fun b2 => ?_)
 refine RG.pv rfl (PV.asg rfl rfl) (RG.mr rfl rfl rfl (RG.nil (WP.seq (WP.region (RG.pv rfl (PV.loadW rfl Ag35 rfl rfl) (RG.ml rfl rfl rfl ?_))))))
 refine RG.callF (vs := [_, _]) rfl rfl En72 rfl (flat_r hL.up hlen (fun w11 => ?_))
 refine RG.pv rfl (PV.move (v := .tuple _) rfl rfl) (RG.pv rfl (PV.ext (v := w11) rfl rfl rfl) (RG.pv rfl (PV.ext rfl rfl rfl) (RG.pv rfl (PV.asg (v := w11) rfl rfl) (RG.mr rfl rfl rfl (RG.nil (WP.seq (WP.seq ?_)))))))
 refine WP.region (RG.ml rfl rfl rfl (RG.pv rfl (PV.neq rfl rfl rfl) (RG.nil ?_)))
 refine WP.cond rfl (fun h1 => ?_) (fun h1 => ?_)
 · have h1 : shE (erCls l.cells.xs) cell ≠ 0 := by simpa using h1
   refine WP.seq (WP.region (RG.ml rfl rfl rfl (RG.pv rfl (PV.asg rfl rfl) (RG.mr rfl rfl rfl (RG.nil ?_)))))
   refine WP.ret ?_
   exact ⟨_, _, ResV.two rfl rfl rfl, Cv.nilSS, k _ [] (by rw [flyL, decide_eq_false h1]; rfl)⟩
 · have h1 : shE (erCls l.cells.xs) cell = 0 := by simpa using h1
   have ef : flyL (erCls l.cells.xs) cell = layL (shR (erCls l.cells.xs) cell) := by rw [flyL, decide_eq_true h1]; rfl
   rw [h1] at k
   refine WP.skip (WP.seq (WP.region (RG.pv rfl (PV.move (v := w11) rfl rfl) ?_)))
   refine RG.callF (vs := [w11]) rfl rfl En73 rfl (layers_r Rs.o (fun i hi => shR_valid hi) (fun w8 ys he => ?_))
   refine RG.pv rfl (PV.asg rfl rfl) (RG.mr rfl rfl rfl (RG.nil ?_))
   refine WP.ret ?_
   exact ⟨_, _, ResV.two rfl rfl rfl, Cv.p, k w8 ys (by rw [he, ef])⟩
end Go.Proofs.YtgphjofccckloaaGreat
namespace Go.Proofs.YtgphjofccckloaaGreat
set_option linter.unusedVariables false
set_option linter.unusedSimpArgs false
open Go
set_option maxRecDepth 20000
set_option linter.unusedSimpArgs false
variable {G : Gh} {L : List Ch} {R : Value → Gh → List Ch → Prop}
theorem OccAt.root {xs : List Cell} {cell : Int} {zs : List Occ} {i m : Nat} (h : OccAt xs cell zs i) (hm : m < (gd xs (gd zs i).cell.toNat).shapes.xs.length) :
   (rootL (erCls xs) ((occR (erCls xs) cell).take i) ++ (rootAt (erCls xs) (gd (occR (erCls xs) cell) i)).take m).length < (flatL (erCls xs) (occR (erCls xs) cell)).length ∧ (rootAt (erCls xs) (gd (occR (erCls xs) cell) i)).take (m + 1) = (rootAt (erCls xs) (gd (occR (erCls xs) cell) i)).take m ++ [⟨rootOf (erO (gd zs i)), gd (flatL (erCls xs) (occR (erCls xs) cell)) (rootL (erCls xs) ((occR (erCls xs) cell).take i) ++ (rootAt (erCls xs) (gd (occR (erCls xs) cell) i)).take m).length⟩] := by
 have := rootAt_step (cs := erCls xs) (os := occR (erCls xs) cell) (i := i) (k := m) h.hi (by rw [h.ho]; simp only [erO, h.hs]; exact hm)
 refine ⟨this.1, ?_⟩
 rw [this.2, ← h.ho]
theorem elN_ns {xs : List Cell} {cell : Int} (hc : cell.toNat < xs.length) : elN (erCls xs) cell = (elems (gd xs cell.toNat).insts.xs).length := by rw [elN, erCl_insts hc]
end Go.Proofs.YtgphjofccckloaaGreat
namespace Go.Proofs.YtgphjofccckloaaGreat
set_option linter.unusedVariables false
set_option linter.unusedSimpArgs false
open Go
set_option maxRecDepth 20000
set_option maxHeartbeats 1000000
set_option linter.unusedSimpArgs false
variable {G : Gh} {L : List Ch} {R : Value → Gh → List Ch → Prop}
/-- what is known where an element is asked for -/
structure AtEl (xs : List Cell) (cell n : Int) : Prop where
  hz : shE (erCls xs) cell = 0
  hn : 0 ≤ n ∧ n < elN (erCls xs) cell
theorem AtEl.lib {xs : List Cell} {cell n : Int} (h : AtEl xs cell n) : okLib (erCls xs) = true ∧ 0 ≤ cell ∧ cell.toNat < xs.length := by
 have := shE_lib h.hz
 rw [erCls_len] at this
 exact ⟨this.1, by omega, by omega⟩
theorem AtEl.lt {xs : List Cell} {cell n : Int} (h : AtEl xs cell n) : n.toNat < (elems (gd xs cell.toNat).insts.xs).length := by
 have := h.hn
 rw [elN_ns h.lib.2.2] at this
 omega
end Go.Proofs.YtgphjofccckloaaGreat
namespace Go.Proofs.YtgphjofccckloaaGreat
set_option linter.unusedVariables false
set_option linter.unusedSimpArgs false
open Go
set_option maxRecDepth 20000
set_option maxHeartbeats 1000000
set_option linter.unusedSimpArgs false
variable {G : Gh} {L : List Ch} {R : Value → Gh → List Ch → Prop}
theorem AtEl.of {xs : List Cell} {cell n : Int} (hz : shE (erCls xs) cell = 0) (h : within n 0 ((elN (erCls xs) cell : Int) - 1) = true) : AtEl xs cell n := by
 simp only [within, Bool.and_eq_true, decide_eq_true_eq] at h
 exact ⟨hz, by omega, by omega⟩
end Go.Proofs.YtgphjofccckloaaGreat
namespace Go.Proofs.YtgphjofccckloaaGreat
set_option linter.unusedVariables false
set_option linter.unusedSimpArgs false
open Go
set_option maxRecDepth 20000
set_option linter.unusedSimpArgs false
variable {G : Gh} {L : List Ch} {R : Value → Gh → List Ch → Prop}
theorem eqInt_s {v u : Value} {xs ys : List Int} (h1 : Rs G L intT v xs) (h2 : Rs G L intT u ys) (k : R (.bool (decide (xs = ys))) G L) : CallT Tryz.prog 13 #[v, u] G L R := by
 refine CallT.bd h1 fun hb => ?_
 refine CallT.bd h2 fun hb' => ?_
 refine CallT.enter (args := _) Tryz.func13 rfl rfl (by kernel_rfl) rfl ?_
 refine WP.seq (WP.region (RG.br rfl rfl rfl (RG.nil (WP.seq (WP.seq (WP.region (RG.pv rfl (PV.move (v := v) rfl rfl) ?_)))))))
 refine RG.pv rfl (PV.len (v := v) rfl Tryz.underlying30 rfl (SlF.r h1)) (RG.pv rfl (PV.move (v := u) rfl rfl) (RG.pv rfl (PV.len (v := u) rfl Tryz.underlying30 rfl (SlF.r h2)) (RG.pv rfl (PV.neq rfl rfl rfl) (RG.nil ?_))))
 refine WP.cond rfl (fun h3 => ?_) (fun h3 => ?_)
 · have e : decide (xs = ys) = false := by
     rw [decide_eq_false_iff_not]; rintro rfl; simp at h3
   rw [e] at k
   refine WP.seq (WP.region (RG.br rfl rfl rfl (RG.nil ?_)))
   refine WP.ret ?_
   exact ⟨_, _, ResV.one rfl rfl, Cv.p, k⟩
 · have hl : xs.length = ys.length := by simp at h3; omega
   refine WP.skip (WP.seq (WP.seq (WP.region (RG.mr rfl rfl rfl (RG.nil (WP.block ?_))))))
   refine WP.loop1 [0, 1] (fun i => i ≤ xs.length ∧ ∀ j, j < i → xs[j]? = ys[j]?) (fun i => [(5, vi i)]) (fun i => L) (fun i => xs.length - i) 0 ⟨by omega, fun j h => by omega⟩ ⟨rfl, trivial⟩ Cv.p ?_
   rintro i τ ⟨hi, he⟩
   refine WP.seq (WP.seq (WP.region (RG.ml rfl rfl rfl (RG.pv rfl (PV.move (v := v) rfl rfl) (RG.pv rfl (PV.len (v := v) rfl Tryz.underlying30 rfl (SlF.r h1)) (RG.pv rfl (PV.lss rfl rfl rfl) (RG.nil ?_)))))))
   refine WP.cond rfl (fun h4 => ?_) (fun h4 => ?_)
   · have h4 := of_decide_eq_true h4
     have h5 : i < xs.length := by omega
     refine WP.skip (WP.seq (WP.block (WP.seq ?_)))
     refine WP.regionQ (by kernel_rfl) (by kernel_rfl) ?_
     refine RQ.pv rfl (PV.move (v := v) rfl rfl) ?_
     refine RQ.pv rfl (PV.mvI (.inl rfl) rfl) ?_
     refine RQ.pv rfl (PV.idxS (v := v) rfl Is30 rfl (SlF.r h1) rfl rfl (by omega)) ?_
     refine RQ.pv rfl (PV.loadE1 rfl Sc2 rfl rfl (El.r h1 (getG (by omega))) rfl) ?_
     refine RQ.pv rfl (PV.move (v := u) rfl rfl) ?_
     refine RQ.pv rfl (PV.mvI (.inl rfl) rfl) ?_
     refine RQ.pv rfl (PV.idxS (v := u) rfl Is30 rfl (SlF.r h2) rfl rfl (by omega)) ?_
     refine RQ.pv rfl (PV.loadE1 rfl Sc2 rfl rfl (El.r h2 (getG (by omega))) rfl) ?_
     refine RQ.pv rfl (PV.neq rfl rfl rfl) ?_
     refine RQ.nil ?_
     refine WP.cond rfl (fun h6 => ?_) (fun h6 => ?_)
     · have e : decide (xs = ys) = false := by
         rw [decide_eq_false_iff_not]; rintro rfl; simp at h6
       rw [e] at k
       refine WP.seq (WP.region (RG.br rfl rfl rfl (RG.nil ?_)))
       refine WP.ret ?_
       exact ⟨_, _, ResV.one rfl rfl, Cv.p, k⟩
     · have e : gd xs i = gd ys i := by simpa using h6
       have he' : ∀ j, j < i + 1 → xs[j]? = ys[j]? := fun j h => by
         by_cases c : j = i
         · rw [c, getG h5, getG (show i < ys.length by omega), e]
         · exact he j (by omega)
       refine WP.skip (WP.region (RG.ml rfl rfl rfl (RG.pv rfl (PV.add rfl rfl rfl (by omega)) (RG.mr rfl rfl rfl (RG.nil ?_)))))
       exact ⟨rfl, i + 1, ⟨by omega, he'⟩, ⟨rfl, trivial⟩, ⟨rfl, rfl, trivial⟩, Cv.p, by omega⟩
   · have h4 := of_decide_eq_false h4
     have e : decide (xs = ys) = true := by
       rw [decide_eq_true_iff]; exact pre_eq he hl (by omega)
     rw [e] at k
     refine WP.exit ?_
     refine WP.seq (WP.region (RG.br rfl rfl rfl (RG.nil ?_)))
     refine WP.ret ?_
     exact ⟨_, _, ResV.one rfl rfl, Cv.p, k⟩
def mkI (_ k : Int) : Int := k
def nI (_ : Int) : Int := 1
theorem nI_cost (xs : List Int) : costL nI xs = 1 * xs.length := costL_const 1 xs
theorem mkI_at {xs : List Int} {i : Nat} {k0 kk : Int} (h : i < xs.length) (e : kk = k0 + i) : mkI (gd xs i) (k0 + costL nI (xs.take i)) = kk := by
 rw [mkI, nI_cost, List.length_take, Nat.min_eq_left (by omega), e]; omega
theorem markInt_s {v : Value} {xs : List Int} {k0 : Int} (hk : 0 ≤ k0) (hb : k0 + costL nI xs ≤ 4611686018427387904) (k : R (vi (k0 + costL nI xs)) G (osl 2 intT v (markL mkI nI xs k0) :: L)) : CallT Tryz.prog 18 #[v, vi k0] G (osl 2 intT v xs :: L) R := by
 have hc := nI_cost xs
 refine CallT.cv (Cv.eqS (markTo_zero (mk := mkI) (n := nI) (k := k0)).symm) ?_
 refine CallT.enter (args := _) Tryz.func18 rfl rfl (by kernel_rfl) rfl ?_
 refine WP.seq (WP.region (RG.mr rfl rfl rfl (RG.nil (WP.seq (WP.seq (WP.region (RG.mr rfl rfl rfl ?_)))))))
 refine RG.nil (WP.block ?_)
 refine WP.loop2 [0] (fun (i : Nat) (kk : Int) => i ≤ xs.length ∧ kk = k0 + i) (fun (i : Nat) (kk : Int) => [(5, vi i), (1, vi kk)]) (fun (i : Nat) (kk : Int) => osl 2 intT v (markTo mkI nI xs k0 i) :: L) (fun (i : Nat) (kk : Int) => xs.length - i) 0 k0 ⟨by omega, by omega⟩ ⟨rfl, rfl, trivial⟩ Cv.p ?_
 rintro i kk τ ⟨hi, hkk⟩
 refine WP.seq (WP.seq (WP.region (RG.ml rfl rfl rfl (RG.pv rfl (PV.move (v := v) rfl rfl) (RG.pv rfl (PV.len (v := v) rfl Tryz.underlying30 rfl SlF.o) (RG.pv rfl (PV.lss rfl rfl rfl) (RG.nil ?_)))))))
 have hml := markTo_len (mk := mkI) (n := nI) (k := k0) hi
 refine WP.cond rfl (fun h1 => ?_) (fun h1 => ?_)
 · have h1 := of_decide_eq_true h1
   have h2 : i < xs.length := by omega
   refine WP.skip (WP.seq (WP.block (WP.seq (WP.region (RG.pv rfl (PV.move (v := v) rfl rfl) (RG.ml rfl rfl rfl (RG.ml rfl rfl rfl ?_)))))))
   refine RG.pv rfl (PV.idxS (v := v) rfl Is30 rfl SlF.o rfl rfl (by omega)) ?_
   refine RG.ot rfl (OT.storeE (F := intT) rfl Sz2 rfl rfl rfl (Cl.c rfl) (OneC.c rfl) (by omega) ?_)
   refine RG.nil (WP.region (RG.ml rfl rfl rfl (RG.pv rfl (PV.add rfl rfl rfl (by omega)) (RG.mr rfl rfl rfl (RG.nil (WP.region (RG.ml rfl rfl rfl ?_)))))))
   refine RG.pv rfl (PV.add rfl rfl rfl (by omega)) (RG.mr rfl rfl rfl (RG.nil ?_))
   exact ⟨rfl, i + 1, _, ⟨by omega, by omega⟩, ⟨rfl, rfl, trivial⟩, ⟨rfl, trivial⟩, (Cv.eqS (by rw [← markTo_set h2, mkI_at h2 hkk])), by omega⟩
 · have h1 := of_decide_eq_false h1
   have e : kk = k0 + costL nI xs := by omega
   rw [← e] at k
   refine WP.exit ?_
   refine WP.seq (WP.region (RG.ml rfl rfl rfl (RG.mr rfl rfl rfl (RG.nil ?_))))
   refine WP.ret ?_
   exact ⟨_, _, ResV.one rfl rfl, (Cv.eqS (markTo_all (by omega))), k⟩
theorem heldInt_s {v : Value} {xs : List Int} {k0 : Int} (h0 : Rs G L intT v (markL mkI nI xs k0)) (hk : 0 ≤ k0) (hb : k0 + costL nI xs ≤ 4611686018427387904) (k : R (vi (k0 + costL nI xs)) G L) : CallT Tryz.prog 19 #[v, vi k0] G L R := by
 have hc := nI_cost xs
 have hml := markL_len mkI nI xs k0
 refine CallT.enter (args := _) Tryz.func19 rfl rfl (by kernel_rfl) rfl ?_
 refine WP.seq (WP.region (RG.mr rfl rfl rfl (RG.nil (WP.seq (WP.seq (WP.region (RG.mr rfl rfl rfl ?_)))))))
 refine RG.nil (WP.block ?_)
 refine WP.loop2 [0] (fun (i : Nat) (kk : Int) => i ≤ xs.length ∧ kk = k0 + i) (fun (i : Nat) (kk : Int) => [(5, vi i), (1, vi kk)]) (fun (i : Nat) (kk : Int) => L) (fun (i : Nat) (kk : Int) => xs.length - i) 0 k0 ⟨by omega, by omega⟩ ⟨rfl, rfl, trivial⟩ Cv.p ?_
 rintro i kk τ ⟨hi, hkk⟩
 refine WP.seq (WP.seq (WP.region (RG.ml rfl rfl rfl (RG.pv rfl (PV.move (v := v) rfl rfl) (RG.pv rfl (PV.len (v := v) rfl Tryz.underlying30 rfl (SlF.r h0)) (RG.pv rfl (PV.lss rfl rfl rfl) (RG.nil ?_)))))))
 refine WP.cond rfl (fun h1 => ?_) (fun h1 => ?_)
 · have h1 := of_decide_eq_true h1
   have h2 : i < xs.length := by omega
   have hg : gd (markL mkI nI xs k0) i = kk := by rw [gd_mark h2, mkI_at h2 hkk]
   refine WP.skip (WP.seq (WP.block (WP.seq (WP.seq (WP.region (RG.pv rfl (PV.move (v := v) rfl rfl) (RG.ml rfl rfl rfl ?_)))))))
   refine RG.pv rfl (PV.idxS (v := v) rfl Is30 rfl (SlF.r h0) rfl rfl (by omega)) (RG.pv rfl (PV.loadE1 rfl Sc2 rfl rfl (El.r h0 (getG (by omega))) rfl) (RG.ml rfl rfl rfl (RG.pv rfl (PV.neq rfl rfl rfl) (RG.nil ?_))))
   refine WP.cond rfl (fun h3 => ?_) (fun h3 => ?_)
   · simp [hg] at h3
   · refine WP.skip ?_
     refine WP.region (RG.ml rfl rfl rfl (RG.pv rfl (PV.add rfl rfl rfl (by omega)) (RG.mr rfl rfl rfl (RG.nil (WP.region (RG.ml rfl rfl rfl (RG.pv rfl (PV.add rfl rfl rfl (by omega)) ?_)))))))
     refine RG.mr rfl rfl rfl (RG.nil ?_)
     exact ⟨rfl, i + 1, _, ⟨by omega, by omega⟩, ⟨rfl, rfl, trivial⟩, ⟨rfl, trivial⟩, Cv.p, by omega⟩
 · have h1 := of_decide_eq_false h1
   have e : kk = k0 + costL nI xs := by omega
   rw [← e] at k
   refine WP.exit ?_
   refine WP.seq (WP.region (RG.ml rfl rfl rfl (RG.mr rfl rfl rfl (RG.nil ?_))))
   refine WP.ret ?_
   exact ⟨_, _, ResV.one rfl rfl, Cv.p, k⟩
end Go.Proofs.YtgphjofccckloaaGreat
namespace Go.Proofs.YtgphjofccckloaaGreat
set_option linter.unusedVariables false
set_option linter.unusedSimpArgs false
open Go
set_option maxRecDepth 20000
set_option maxHeartbeats 1000000
set_option linter.unusedSimpArgs false
variable {G : Gh} {L : List Ch} {R : Value → Gh → List Ch → Prop}
theorem markCellB_s {v : Value} {xs : List Cell} {k0 : Int} (hf : few (erCls xs)) (hk : 0 ≤ k0 ∧ k0 ≤ 1000) (k : ∀ r : Int, 0 ≤ r ∧ r ≤ 40000000000000 → R (vi r) G L) : CallT Tryz.prog 47 #[v, vi k0] G (osl 115 cellT v (xs) :: bagS 155 shapeT (shs (xs)) :: bagS 191 labelT (lbs (xs)) :: bagS 173 instT (ins (xs)) :: L) R := by
 refine CallT.bd (T := cellT) (v := v) (xs := xs) Rs.o fun hb2 => ?_
 have hb : xs.length ≤ 1048576 := by have := hf.1; rwa [erCls_len] at this
 refine CallT.cv (L' := osl 115 cellT v xs :: bagS 155 shapeT (shs (xs.drop 0)) :: bagS 191 labelT (lbs (xs.drop 0)) :: bagS 173 instT (ins (xs.drop 0)) :: L) (by rw [List.drop_zero]; exact Cv.refl _) ?_
 refine CallT.enter (args := _) Tryz.func47 rfl rfl (by kernel_rfl) rfl ?_
 refine WP.seq (WP.region (RG.mr rfl rfl rfl (RG.nil (WP.seq (WP.seq (WP.region (RG.mr rfl rfl rfl ?_)))))))
 refine RG.nil (WP.block ?_)
 refine WP.loop3 [0] (fun (i : Nat) (kk : Int) (ys : List Cell) => i ≤ xs.length ∧ (0 ≤ kk ∧ kk ≤ 1000 + 20000000 * i) ∧ ys.length = xs.length ∧ ∀ j, i ≤ j → j < xs.length → gd ys j = gd xs j) (fun (i : Nat) (kk : Int) (ys : List Cell) => [(5, vi i), (1, vi kk)]) (fun (i : Nat) (kk : Int) (ys : List Cell) => osl 115 cellT v ys :: bagS 155 shapeT (shs (xs.drop i)) :: bagS 191 labelT (lbs (xs.drop i)) :: bagS 173 instT (ins (xs.drop i)) :: L) (fun (i : Nat) (kk : Int) (ys : List Cell) => xs.length - i) 0 k0 xs ⟨by omega, by omega, rfl, fun j _ _ => rfl⟩ ⟨rfl, rfl, trivial⟩ Cv.p ?_
 rintro i kk ys τ ⟨hi, hkk, hl, he⟩
 refine WP.seq (WP.seq (WP.region (RG.ml rfl rfl rfl (RG.pv rfl (PV.move (v := v) rfl rfl) (RG.pv rfl (PV.len (v := v) rfl Tryz.underlying33 rfl SlF.o) (RG.pv rfl (PV.lss rfl rfl rfl) (RG.nil ?_)))))))
 refine WP.cond rfl (fun h1 => ?_) (fun h1 => ?_)
 · have h1 := of_decide_eq_true h1
   have h2 : i < xs.length := by omega
   have h3 : i < ys.length := by omega
   have hg := he i (by omega) h2
   obtain ⟨f1, f2, f3⟩ := few.one hf h2
   have hq := nLb_cost (gd xs i).labels.xs
   have hq1 := nSh_cost (gd xs i).shapes.xs
   have hq3 := nIn_cost (gd xs i).insts.xs
   have hs1 : (gd (ys.set i (Cell.s0 (mText kk) (gd ys i))) i).shapes.v = (gd xs i).shapes.v := by rw [gd_setE' h3]; simp [hg]
   have hs2 : (gd (ys.set i (Cell.s0 (mText kk) (gd ys i))) i).labels.v = (gd xs i).labels.v := by rw [gd_setE' h3]; simp [hg]
   have hs3 : (gd (ys.set i (Cell.s0 (mText kk) (gd ys i))) i).insts.v = (gd xs i).insts.v := by rw [gd_setE' h3]; simp [hg]
   refine WP.cv (Cv.cons (Cv.uncons3 (s1 := (gd xs i).shapes) (y1' := shs (xs.drop (i + 1))) (s2 := (gd xs i).labels) (y2' := lbs (xs.drop (i + 1))) (s3 := (gd xs i).insts) (y3' := ins (xs.drop (i + 1))) (by rw [drop_gd h2]; rfl) (by rw [drop_gd h2]; rfl) (by rw [drop_gd h2]; rfl))) ?_
   refine WP.skip (WP.seq (WP.block (WP.seq (WP.region (RG.pv rfl (PV.move (v := v) rfl rfl) (RG.ml rfl rfl rfl (RG.ml rfl rfl rfl ?_)))))))
   refine RG.callF (vs := [_]) rfl rfl En85 rfl (markText_s (by omega) ?_)
   refine RG.pv rfl (PV.idxS (v := v) rfl Is33 rfl SlF.o rfl rfl (by omega)) (RG.pv rfl (PV.field rfl Fo115_0 rfl) ?_)
   refine RG.ot rfl (OT.storeF (F := cellT) (val := Value.string) (cv := fun u => [.string u]) (st := Cell.s0) rfl Sz9 rfl rfl rfl (Cl.c rfl) rfl (OneC.c rfl) (by exact set_self (by omega)) (by first | omega | (simp; omega)) rfl (fun _ _ => rfl) ?_)
   refine RG.nil (WP.seq (WP.region (RG.ml rfl rfl rfl (RG.pv rfl (PV.add rfl rfl rfl (by first | omega | (simp only [List.length_set]; omega))) (RG.mr rfl rfl rfl (RG.nil (WP.seq ?_)))))))
   refine WP.region (RG.pv rfl (PV.move (v := v) rfl rfl) (RG.ml rfl rfl rfl (RG.pv rfl (PV.idxS (v := v) rfl Is33 rfl SlF.o rfl rfl (by first | omega | (simp only [List.length_set]; omega))) (RG.pv rfl (PV.field rfl Fo115_1 rfl) (RG.pv rfl (PV.loadF rfl Sc111 rfl rfl (El.o (getG (by first | omega | (simp only [List.length_set]; omega)))) rfl) (RG.ml rfl rfl rfl ?_))))))
   refine RG.callF (vs := [_, _]) rfl rfl En86 rfl (CallT.eqv hs1 (CallT.exS (gd xs i).shapes.v (markShapeS_s (by omega) (by omega) ?_)))
   refine RG.mr rfl rfl rfl (RG.nil (WP.seq (WP.region (RG.pv rfl (PV.move (v := v) rfl rfl) (RG.ml rfl rfl rfl (RG.pv rfl (PV.idxS (v := v) rfl Is33 rfl SlF.o rfl rfl (by first | omega | (simp only [List.length_set]; omega))) (RG.pv rfl (PV.field rfl Fo115_2 rfl) ?_)))))))
   refine RG.pv rfl (PV.loadF rfl Sc112 rfl rfl (El.o (getG (by first | omega | (simp only [List.length_set]; omega)))) rfl) (RG.ml rfl rfl rfl ?_)
   refine RG.callF (vs := [_, _]) rfl rfl En87 rfl (CallT.eqv hs2 (CallT.exS (gd xs i).labels.v (markLabelS_s (by omega) (by omega) ?_)))
   refine RG.mr rfl rfl rfl (RG.nil (WP.region (RG.pv rfl (PV.move (v := v) rfl rfl) (RG.ml rfl rfl rfl (RG.pv rfl (PV.idxS (v := v) rfl Is33 rfl SlF.o rfl rfl (by first | omega | (simp only [List.length_set]; omega))) (RG.pv rfl (PV.field rfl Fo115_3 rfl) (RG.pv rfl (PV.loadF rfl Sc113 rfl rfl (El.o (getG (by first | omega | (simp only [List.length_set]; omega)))) rfl) ?_)))))))
   refine RG.ml rfl rfl rfl ?_
   refine RG.callF (vs := [_, _]) rfl rfl En88 rfl (CallT.eqv hs3 (CallT.exS (gd xs i).insts.v (markInstS_s (by omega) (by omega) ?_)))
   refine RG.mr rfl rfl rfl (RG.nil (WP.region (RG.ml rfl rfl rfl (RG.pv rfl (PV.add rfl rfl rfl (by first | omega | (simp only [List.length_set]; omega))) (RG.mr rfl rfl rfl (RG.nil ?_))))))
   refine ⟨rfl, i + 1, _, (ys.set i (Cell.s0 (mText kk) (gd ys i))), ⟨by omega, by omega, by simpa using hl, fun j hj hj' => ?_⟩, ⟨rfl, rfl, trivial⟩, ⟨rfl, trivial⟩, Cv.p, by omega⟩
   rw [gd_setN (by omega)]; exact he j (by omega) hj'
 · have h1 := of_decide_eq_false h1
   refine WP.exit ?_
   refine WP.seq (WP.region (RG.ml rfl rfl rfl (RG.mr rfl rfl rfl (RG.nil ?_))))
   refine WP.ret ?_
   exact ⟨_, _, ResV.one rfl rfl, Cv.p, k _ (by omega)⟩
theorem markLibB_s {l : Lib} {k0 : Int} (hf : few (erCls l.cells.xs)) (hk : 0 ≤ k0 ∧ k0 ≤ 1000) (k : ∀ r : Int, 0 ≤ r ∧ r ≤ 40000000000000 → R (vi r) G L) : CallT Tryz.prog 16 #[vT libT l, vi k0] G (osl 115 cellT l.cells.v (l.cells.xs) :: bagS 155 shapeT (shs (l.cells.xs)) :: bagS 191 labelT (lbs (l.cells.xs)) :: bagS 173 instT (ins (l.cells.xs)) :: L) R := by
 refine CallT.enter (args := _) Tryz.func16 rfl rfl (by kernel_rfl) rfl ?_
 refine WP.seq (WP.region ?_)
 refine RG.ot rfl (OT.box (cs := libT.enc l) rfl rfl rfl fun b2 => ?_)
 refine RG.mr rfl rfl rfl (RG.nil (WP.seq (WP.region (RG.pv rfl (PV.field rfl Fo35_0 rfl) (RG.pv rfl (PV.load1 rfl Sc33 rfl (Rd.blk rfl)) (RG.ml rfl rfl rfl ?_))))))
 refine RG.callF (vs := [_, _]) rfl rfl En47 rfl (CallT.cv (Cv.p (C := osl 115 cellT l.cells.v (l.cells.xs) :: bagS 155 shapeT (shs (l.cells.xs)) :: bagS 191 labelT (lbs (l.cells.xs)) :: bagS 173 instT (ins (l.cells.xs)) :: L)) (markCellB_s hf hk (fun r hr => ?_)))
 refine RG.mr rfl rfl rfl (RG.nil (WP.seq (WP.region (RG.ml rfl rfl rfl (RG.mr rfl rfl rfl (RG.nil ?_))))))
 refine WP.ret ?_
 exact ⟨_, _, ResV.one rfl rfl, Cv.p, k _ hr⟩
end Go.Proofs.YtgphjofccckloaaGreat
namespace Go.Proofs.YtgphjofccckloaaGreat
set_option linter.unusedVariables false
set_option linter.unusedSimpArgs false
open Go
set_option maxRecDepth 20000
set_option linter.unusedSimpArgs false
variable {G : Gh} {L : List Ch} {R : Value → Gh → List Ch → Prop}
/-- only what lies in memory matters -/
theorem Cv.flat {α : Type} {e : TypeId} {F : FT α} {v : Value} {xs ys : List α} {L : List Ch} (h : F.flat xs = F.flat ys) (hl : xs.length = ys.length) : Cv (osl e F v xs :: L) (osl e F v ys :: L) :=
 Cv.imp fun hp hc => by
   rcases hc with ⟨rfl, rfl⟩ | ⟨b, cap, c, h1, h2, h3, h4, h5, h6⟩
   · exact .inl ⟨rfl, List.eq_nil_of_length_eq_zero (by simpa using hl.symm)⟩
   · exact .inr ⟨b, cap, c, by rw [← hl]; exact h1, h2, by rw [← hl]; exact h3, h4, h5, by rw [← hl, ← h]; exact h6⟩
end Go.Proofs.YtgphjofccckloaaGreat
namespace Go.Proofs.YtgphjofccckloaaGreat
set_option linter.unusedVariables false
set_option linter.unusedSimpArgs false
open Go
set_option maxRecDepth 20000
set_option maxHeartbeats 1000000
set_option linter.unusedSimpArgs false
variable {G : Gh} {L : List Ch} {R : Value → Gh → List Ch → Prop}
def mvI (t : Trans) (xs : List Rect) : List Rect := bif mvOk t xs then canon (bits (xs.map (moveR t))) else []
end Go.Proofs.YtgphjofccckloaaGreat
namespace Go.Proofs.YtgphjofccckloaaGreat
set_option linter.unusedVariables false
set_option linter.unusedSimpArgs false
open Go
set_option maxRecDepth 20000
set_option linter.unusedSimpArgs false
theorem layL_gd {ss : List Shape} {l : Nat} (h : l < 8) : gd (layL ss) l = canon (bits (boxesOf ss l)) := by
 rw [layL, gd_map _ (by simpa using h), range_gd h]
/-- moved pieces -/
def mvP (t : Trans) (p : Int × List Rect) : Int × List Rect := (p.1, canon (bits (p.2.map (moveR t))))
end Go.Proofs.YtgphjofccckloaaGreat
namespace Go.Proofs.YtgphjofccckloaaGreat
set_option linter.unusedVariables false
set_option linter.unusedSimpArgs false
open Go
set_option maxRecDepth 20000
set_option maxHeartbeats 1000000
set_option linter.unusedSimpArgs false
variable {G : Gh} {L : List Ch} {R : Value → Gh → List Ch → Prop}
theorem lay_isLay (ss : List Shape) : isLay (layL ss) = true := by
 have h1 : (layL ss).length = 8 := by simp [layL]
 rw [isLay, h1, Bool.and_eq_true, List.all_eq_true]
 refine ⟨by decide, fun r hr => ?_⟩
 obtain ⟨i, hi, rfl⟩ := List.getElem_of_mem hr
 rw [← gd_eq hi, layL_gd (by omega)]
 exact isReg_canon (bits_length _)
theorem fly_isLay {cs : List ECell} {cell : Int} (h : shE cs cell = 0) : isLay (flyL cs cell) = true := by
 rw [flyL, decide_eq_true h, cond_true]; exact lay_isLay _
end Go.Proofs.YtgphjofccckloaaGreat
namespace Go.Proofs.YtgphjofccckloaaGreat
set_option linter.unusedVariables false
set_option linter.unusedSimpArgs false
open Go
theorem WP.loop5 {P : Program} {n : Nat} {Q : Post} {σ : Nat → Value} {G : Gh} {L : List Ch} {c : Code} (keep : List Nat) {A B D E F : Type} (J : A → B → D → E → F → Prop) (S : A → B → D → E → F → List (Nat × Value)) (C : A → B → D → E → F → List Ch) (μ : A → B → D → E → F → Nat) (a0 : A) (b0 : B) (d0 : D) (e0 : E) (f0 : F) (j0 : J a0 b0 d0 e0 f0) (h0 : HasV σ (S a0 b0 d0 e0 f0)) (p0 : Cv L (C a0 b0 d0 e0 f0))
   (round : ∀ a b d e f τ, J a b d e f → WP P n c (thenP (fun σ' G' L' => G' = G ∧ ∃ a' b' d' e' f', J a' b' d' e' f' ∧ HasV σ' (S a' b' d' e' f') ∧ Keeps σ' σ keep ∧ Cv L' (C a' b' d' e' f') ∧ μ a' b' d' e' f' < μ a b d e f) Q) (upds (updk τ σ keep) (S a b d e f)) G (C a b d e f)) : WP P n (.loop c) Q σ G L :=
 WP.loop0 keep (A := A × B × D × E × F) (fun x => J x.1 x.2.1 x.2.2.1 x.2.2.2.1 x.2.2.2.2) (fun x => S x.1 x.2.1 x.2.2.1 x.2.2.2.1 x.2.2.2.2) (fun x => C x.1 x.2.1 x.2.2.1 x.2.2.2.1 x.2.2.2.2) (fun x => μ x.1 x.2.1 x.2.2.1 x.2.2.2.1 x.2.2.2.2) (a0, b0, d0, e0, f0) j0 h0 p0 fun x τ j =>
   WP.mono (round x.1 x.2.1 x.2.2.1 x.2.2.2.1 x.2.2.2.2 τ j) fun e σ G L hq => by
     cases e with
     | normal => obtain ⟨e, a', b', d', e', f', h⟩ := hq; exact ⟨e, (a', b', d', e', f'), h⟩
     | _ => exact hq
end Go.Proofs.YtgphjofccckloaaGreat
namespace Go.Proofs.YtgphjofccckloaaGreat
set_option linter.unusedVariables false
set_option linter.unusedSimpArgs false
open Go
set_option maxRecDepth 20000
set_option linter.unusedSimpArgs false
set_option linter.unusedVariables false
set_option maxHeartbeats 2000000
variable {G : Gh} {L : List Ch} {R : Value → Gh → List Ch → Prop}
theorem hasI_at {S : List Bool} {q : Int × Int} {dx dy : Int} : hasI S (q.1 - 40 + dx) (q.2 - 40 + dy) = (decide (0 ≤ q.1 + dx) && decide (q.1 + dx < 80) && (decide (0 ≤ q.2 + dy) && decide (q.2 + dy < 80)) && gd S ((q.2 + dy) * 80 + (q.1 + dx)).toNat) := by
 rw [hasI, within, within, show (q.2 - 40 + dy + 40) * 80 + (q.1 - 40 + dx) + 40 = (q.2 + dy) * 80 + (q.1 + dx) by omega]
 congr 1
 rw [Bool.eq_iff_iff]; simp; omega
theorem flood7_s {v : Value} {S : List Bool} {x y : Int} (h1 : Rs G L boolT v S) (hS : S.length = 6400) (hx : 0 ≤ x ∧ x < 80) (hy : 0 ≤ y ∧ y < 80) (hon : gb S y.toNat x.toNat = true)
   (k : ∀ v', R v' G (osl 4 boolT v' (compB S (y.toNat, x.toNat)) :: L)) : CallT Tryz.prog 217 #[v, vi (x - 40), vi (y - 40), .bool false] G L R := by
 have hst := FI.start (S := S) hx hy
 have hseed : On S (y.toNat, x.toNat) := ⟨by simp only; omega, by simp only; omega, hon⟩
 have hrl : (List.replicate S.length false).length = 6400 := by simp [hS]
 refine CallT.enter (args := _) Tryz.func217 rfl rfl (by kernel_rfl) rfl ?_
 refine WP.seq (WP.region (RG.pv rfl (PV.asg rfl rfl) (RG.nil (WP.seq (WP.region (RG.pv rfl (PV.move (v := v) rfl rfl) (RG.pv rfl (PV.len (v := v) rfl Tryz.underlying162 rfl (SlF.r h1)) ?_)))))))
 refine RG.ot rfl (OT.make (F := boolT) (a0 := false) rfl El162 rfl (by decide) rfl rfl (by omega) (by omega) fun v17 => ?_)
 refine RG.pv rfl (PV.asg (v := v17) rfl rfl) (RG.nil (WP.seq (WP.region (RG.ml rfl rfl rfl (RG.ml rfl rfl rfl (RG.pv rfl (PV.build (vs := [(0, [vi _]), (1, [vi _])]) (out := [_, _]) rfl Zr189 Pl189 ⟨rfl, (Cl.c rfl), ⟨rfl, (Cl.c rfl), trivial⟩⟩ rfl) ?_))))))
 refine RG.ot rfl (OT.bslice (F := ptT) (els := [⟨_, _⟩]) rfl El262 rfl (by decide) rfl (by decide) ⟨rfl, (Cl.c rfl), trivial⟩ fun v21 => ?_)
 refine RG.pv rfl (PV.asg (v := v21) rfl rfl) (RG.nil (WP.seq (WP.region (RG.pv rfl (PV.move (v := v17) rfl rfl) (RG.ml rfl rfl rfl (RG.ml rfl rfl rfl ?_))))))
 refine RG.callF (vs := [_, _]) rfl rfl En201 rfl (l03At_s (by first | omega | (simp [within, hasI] at hp; omega)) ?_)
 refine RG.pv rfl (PV.idxS (j := y.toNat * 80 + x.toNat) (v := v17) rfl Is162 rfl SlF.o rfl (by omega) (by omega)) ?_
 refine RG.ot rfl (OT.storeE (F := boolT) rfl Sz4 rfl rfl rfl (Cl.c rfl) (OneC.c rfl) (by omega) ?_)
 refine RG.nil (WP.seq (WP.seq (WP.region (RG.mr rfl rfl rfl (RG.nil (WP.block ?_))))))
 refine WP.cv ((Cv.p (C := osl 4 boolT v17 ((List.replicate S.length false).set (y.toNat * 80 + x.toNat) true) :: osl 189 ptT v21 [⟨x - 40, y - 40⟩] :: L)).trans (Cv.cast (L' := osl 4 boolT v17 ((List.replicate 6400 false).set (y.toNat * 80 + x.toNat) true) :: osl 189 ptT v21 ([(x, y)].map ptOf) :: L) (by rw [hS]; rfl))) ?_
 refine WP.loop4 [0, 3, 9] (fun (i : Nat) (Q : List (Int × Int)) (O : List Bool) (qv : Value) => i ≤ Q.length ∧ FI S (y.toNat, x.toNat) O Q ∧ Done S O Q i ∧ On O (y.toNat, x.toNat)) (fun (i : Nat) (Q : List (Int × Int)) (O : List Bool) (qv : Value) => [(11, vi i), (10, qv)]) (fun (i : Nat) (Q : List (Int × Int)) (O : List Bool) (qv : Value) => osl 4 boolT v17 O :: osl 189 ptT qv (Q.map ptOf) :: L) (fun (i : Nat) (Q : List (Int × Int)) (O : List Bool) (qv : Value) => 6401 - i) 0 [(x, y)] ((List.replicate 6400 false).set (y.toNat * 80 + x.toNat) true) v21 ⟨by simp, hst, fun m hm => by omega, by have := hst.on 0 (by simp); simpa [gd, qc] using this⟩ ⟨rfl, rfl, trivial⟩ Cv.p ?_
 rintro i Q O qv τ ⟨hi, hF, hD, h0⟩
 refine WP.seq (WP.seq (WP.region (RG.ml rfl rfl rfl (RG.pv rfl (PV.move (v := qv) rfl rfl) (RG.pv rfl (PV.len (v := qv) rfl Tryz.underlying262 rfl SlF.o) (RG.pv rfl (PV.lss rfl rfl rfl) (RG.nil ?_)))))))
 have hml : (Q.map ptOf).length = Q.length := by simp
 refine WP.cond rfl (fun h2 => ?_) (fun h2 => ?_)
 · have h2 := of_decide_eq_true h2
   have hQ := hF.len_le
   have hb := hF.bd i (by omega)
   refine WP.skip (WP.seq (WP.block (WP.seq (WP.region (RG.mr rfl rfl rfl (RG.nil (WP.block ?_)))))))
   refine WP.loop4 [0, 3, 9, 11] (fun (dy : Int) (Q1 : List (Int × Int)) (O1 : List Bool) (qv1 : Value) => (-1 ≤ dy ∧ dy ≤ 2) ∧ FI S (y.toNat, x.toNat) O1 Q1 ∧ Done S O1 Q1 i ∧ On O1 (y.toNat, x.toNat) ∧ i < Q1.length ∧ gd Q1 i = gd Q i ∧ Near S O1 (qc (gd Q i)) dy (-1)) (fun (dy : Int) (Q1 : List (Int × Int)) (O1 : List Bool) (qv1 : Value) => [(12, vi dy), (10, qv1)]) (fun (dy : Int) (Q1 : List (Int × Int)) (O1 : List Bool) (qv1 : Value) => osl 4 boolT v17 O1 :: osl 189 ptT qv1 (Q1.map ptOf) :: L) (fun (dy : Int) (Q1 : List (Int × Int)) (O1 : List Bool) (qv1 : Value) => (2 - dy).toNat) (-1) Q O qv ⟨by omega, hF, hD, h0, by omega, rfl, Near.zero _ _ _⟩ ⟨rfl, rfl, trivial⟩ Cv.p ?_
   rintro dy Q1 O1 qv1 τ1 ⟨⟨hy1, hy2⟩, hF1, hD1, h01, hi1, hq1, hN1⟩
   refine WP.seq (WP.seq (WP.region (RG.ml rfl rfl rfl (RG.pv rfl (PV.leq rfl rfl rfl) (RG.nil ?_)))))
   refine WP.cond rfl (fun h3 => ?_) (fun h3 => ?_)
   · have h3 := of_decide_eq_true h3
     refine WP.skip (WP.seq (WP.block (WP.seq (WP.region (RG.mr rfl rfl rfl (RG.nil (WP.block ?_)))))))
     refine WP.loop4 [0, 3, 9, 11, 12] (fun (dx : Int) (Q2 : List (Int × Int)) (O2 : List Bool) (qv2 : Value) => (-1 ≤ dx ∧ dx ≤ 2) ∧ FI S (y.toNat, x.toNat) O2 Q2 ∧ Done S O2 Q2 i ∧ On O2 (y.toNat, x.toNat) ∧ i < Q2.length ∧ gd Q2 i = gd Q i ∧ Near S O2 (qc (gd Q i)) dy dx) (fun (dx : Int) (Q2 : List (Int × Int)) (O2 : List Bool) (qv2 : Value) => [(13, vi dx), (10, qv2)]) (fun (dx : Int) (Q2 : List (Int × Int)) (O2 : List Bool) (qv2 : Value) => osl 4 boolT v17 O2 :: osl 189 ptT qv2 (Q2.map ptOf) :: L) (fun (dx : Int) (Q2 : List (Int × Int)) (O2 : List Bool) (qv2 : Value) => (2 - dx).toNat) (-1) Q1 O1 qv1 ⟨by omega, hF1, hD1, h01, hi1, hq1, hN1⟩ ⟨rfl, rfl, trivial⟩ Cv.p ?_
     rintro dx Q2 O2 qv2 τ2 ⟨⟨hx1, hx2⟩, hF2, hD2, h02, hi2, hq2, hN2⟩
     refine WP.seq (WP.seq (WP.region (RG.ml rfl rfl rfl (RG.pv rfl (PV.leq rfl rfl rfl) (RG.nil ?_)))))
     have hml2 : (Q2.map ptOf).length = Q2.length := by simp
     refine WP.cond rfl (fun h4 => ?_) (fun h4 => ?_)
     · have h4 := of_decide_eq_true h4
       have hl2 := hF2.len
       have hQ2 := hF2.len_le
       have hb2 : 0 ≤ (gd Q2 i).1 ∧ (gd Q2 i).1 < 80 ∧ 0 ≤ (gd Q2 i).2 ∧ (gd Q2 i).2 < 80 := by rw [hq2]; exact hb
       have e1 : gd (Q2.map ptOf) i = ⟨(gd Q2 i).1 - 40, (gd Q2 i).2 - 40⟩ := gd_pt hi2
       have ex : (gd (Q2.map ptOf) i).x = (gd Q2 i).1 - 40 := by rw [e1]
       have ey : (gd (Q2.map ptOf) i).y = (gd Q2 i).2 - 40 := by rw [e1]
       refine WP.skip (WP.seq (WP.block ?_))
       refine WP.cut1 [0, 3, 9, 10, 11, 12, 13] (fun (b14 : Nat) => True) (fun (b14 : Nat) => [(14, .pointer (some ⟨b14, 0, none⟩))]) (fun (b14 : Nat) => blk b14 189 [vi ((gd Q2 i).1 - 40 + dx), vi ((gd Q2 i).2 - 40 + dy)] :: osl 4 boolT v17 O2 :: osl 189 ptT qv2 (Q2.map ptOf) :: L) ?_ ?_
       refine WP.regionH0 (.q 0 (.q 1 (.q 2 (.q 3 (.q 4 (.q 5 (.q 6 (.q 7 (.q 8 (.q 9 (.q 10 (.q 11 (.q 12 (.q 13 (.q 14 (.l 15 (.l 16 Sch.nil))))))))))))))))) (by kernel_rfl) (by kernel_rfl) (by kernel_rfl) rfl ?_
       refine RH.pv rfl (fun _ _ _ _ h => h) (Gh.le_refl _) PickC.pick rfl (PV.move (v := qv2) rfl rfl) ?_
       refine RH.pv rfl (fun _ _ _ _ h => h) (Gh.le_refl _) PickC.pick rfl (PV.mvI (.inl rfl) rfl) ?_
       refine RH.pv rfl (fun _ _ _ _ h => h) (Gh.le_refl _) PickC.pick rfl (PV.idxS (v := qv2) rfl Is262 rfl SlF.o rfl rfl (by omega)) ?_
       refine RH.pv rfl (fun _ _ _ _ h => h) (Gh.le_refl _) PickC.pick rfl (PV.field rfl Fo189_0 rfl) ?_
       refine RH.pv rfl (fun _ _ _ _ h => h) (Gh.le_refl _) PickC.pick rfl (PV.loadF (v := qv2) (j := 0) rfl Sc2 rfl rfl (El.o (getG (by omega))) rfl) ?_
       refine RH.pv rfl (fun _ _ _ _ h => h) (Gh.le_refl _) PickC.pick rfl (PV.mvI (.inl rfl) rfl) ?_
       refine RH.pv rfl (fun _ _ _ _ h => h) (Gh.le_refl _) PickC.pick rfl (PV.add rfl rfl rfl (by omega)) ?_
       refine RH.pv rfl (fun _ _ _ _ h => h) (Gh.le_refl _) PickC.pick rfl (PV.move (v := qv2) rfl rfl) ?_
       refine RH.pv rfl (fun _ _ _ _ h => h) (Gh.le_refl _) PickC.pick rfl (PV.mvI (.inl rfl) rfl) ?_
       refine RH.pv rfl (fun _ _ _ _ h => h) (Gh.le_refl _) PickC.pick rfl (PV.idxS (v := qv2) rfl Is262 rfl SlF.o rfl rfl (by omega)) ?_
       refine RH.pv rfl (fun _ _ _ _ h => h) (Gh.le_refl _) PickC.pick rfl (PV.field rfl Fo189_1 rfl) ?_
       refine RH.pv rfl (fun _ _ _ _ h => h) (Gh.le_refl _) PickC.pick rfl (PV.loadF rfl Sc2 rfl rfl (El.o (getG (by omega))) rfl) ?_
       refine RH.pv rfl (fun _ _ _ _ h => h) (Gh.le_refl _) PickC.pick rfl (PV.mvI (.inl rfl) rfl) ?_
       refine RH.pv rfl (fun _ _ _ _ h => h) (Gh.le_refl _) PickC.pick rfl (PV.add rfl rfl rfl (by omega)) ?_
       refine RH.pv rfl (fun _ _ _ _ h => h) (Gh.le_refl _) PickC.pick rfl (PV.build (vs := [(0, [vi _]), (1, [vi _])]) (out := [_, _]) rfl Zr189 Pl189 ⟨rfl, (Cl.c rfl), ⟨rfl, (Cl.c rfl), trivial⟩⟩ rfl) ?_
       refine RH.ot rfl rfl (OT.alloc rfl Zr189 fun b14 => ⟨Gh.le_refl _, PickC.pick, ?_⟩)
       refine RH.ot rfl rfl (OT.storeW (vs := [vi _, vi _]) rfl Sz189 rfl rfl (Cl.c rfl) rfl rfl (OneC.c rfl) ⟨Gh.le_refl _, PickC.pick, ?_⟩)
       refine RH.nil ?_
       · exact ⟨rfl, b14, trivial, ⟨rfl, trivial⟩, ⟨rfl, rfl, rfl, rfl, rfl, rfl, rfl, trivial⟩, (Cv.p (C := blk b14 189 [vi ((gd (Q2.map ptOf) i).x + dx), vi ((gd (Q2.map ptOf) i).y + dy)] :: osl 4 boolT v17 O2 :: osl 189 ptT qv2 (Q2.map ptOf) :: L)).trans (Cv.cast (by rw [ex, ey]))⟩
       · have ej : ((gd Q2 i).2 - 40 + dy + 40) * 80 + ((gd Q2 i).1 - 40 + dx) + 40 = ((gd Q2 i).2 + dy) * 80 + ((gd Q2 i).1 + dx) := by omega
         rintro b14 τ3 _
         refine WP.seq (WP.region (RG.bl rfl rfl rfl (RG.bl rfl rfl rfl ?_)))
         refine RG.gs rfl rfl rfl (fun hp => (PV.mvI (.inl rfl) rfl)) ?_
         refine RG.gs rfl rfl rfl (fun hp => (PV.eql rfl (gs_t hp) rfl)) ?_
         refine RG.pv rfl (PV.pickO rfl rfl rfl (fun hq => gs_t (geqF hq))) (RG.bl rfl rfl rfl ?_)
         refine RG.gs rfl rfl rfl (fun hp => (PV.mvI (.inl rfl) rfl)) ?_
         refine RG.gs rfl rfl rfl (fun hp => (PV.eql rfl (gs_t hp) rfl)) ?_
         refine RG.pv rfl (PV.pickO rfl rfl rfl (fun hq => gs_t (geqF hq))) (RG.bl rfl rfl rfl ?_)
         refine RG.gs rfl rfl rfl (fun hp => (PV.move (v := v) rfl rfl)) ?_
         refine RG.gs rfl rfl rfl (fun hp => (PV.field rfl Fo189_0 rfl)) ?_
         refine RG.gs rfl rfl rfl (fun hp => (PV.load1 rfl Sc2 (gs_t hp) (Rd.blk rfl))) ?_
         refine RG.gs rfl rfl rfl (fun hp => (PV.field rfl Fo189_1 rfl)) ?_
         refine RG.gs rfl rfl rfl (fun hp => (PV.load1 rfl Sc2 (gs_t hp) (Rd.blk rfl))) ?_
         refine RG.gsC rfl rfl rfl rfl En252 (fun hp => ⟨_, (acons (gs_t hp) (acons (gs_t hp) (acons (gs_t hp) anil))), l03Has_s (Rs.up h1) hS ⟨rfl, rfl, rfl⟩⟩) ?_
         refine RG.pv rfl (PV.pickA rfl rfl (fun hq => gs_t (geqT hq)) rfl) (RG.bl rfl rfl rfl ?_)
         refine RG.gs rfl rfl rfl (fun hp => (PV.move (v := v17) rfl rfl)) ?_
         refine RG.gs rfl rfl rfl (fun hp => (PV.field rfl Fo189_0 rfl)) ?_
         refine RG.gs rfl rfl rfl (fun hp => (PV.load1 rfl Sc2 (gs_t hp) (Rd.blk rfl))) ?_
         refine RG.gs rfl rfl rfl (fun hp => (PV.field rfl Fo189_1 rfl)) ?_
         refine RG.gs rfl rfl rfl (fun hp => (PV.load1 rfl Sc2 (gs_t hp) (Rd.blk rfl))) ?_
         refine RG.gsC rfl rfl rfl rfl En201 (fun hp => ⟨_, (acons (gs_t hp) (acons (gs_t hp) anil)), l03At_s (by first | omega | (simp [within, hasI] at hp; omega)) ⟨rfl, rfl, rfl⟩⟩) ?_
         refine RG.gs rfl rfl rfl (fun hp => (PV.idxS (j := ((gd Q2 i).2 + dy).toNat * 80 + ((gd Q2 i).1 + dx).toNat) (v := v17) rfl Is162 (gs_t hp) SlF.o (gs_t hp) (by first | omega | (simp [within, hasI] at hp; omega)) (by first | omega | (simp [within, hasI] at hp; omega)))) ?_
         refine RG.gs rfl rfl rfl (fun hp => (PV.loadE1 rfl Sc4 (gs_t hp) rfl (El.o (getG (by first | omega | (simp [within, hasI] at hp; omega)))) rfl)) ?_
         refine RG.gs rfl rfl rfl (fun hp => (PV.not rfl (gs_t hp))) ?_
         refine RG.pv rfl (PV.pickA rfl rfl (fun hq => gs_t (geqT hq)) rfl) (RG.nil ?_)
         have hcon : ((((false || decide (dx = 0)) || decide (dy = 0)) && hasI S ((gd Q2 i).1 - 40 + dx) ((gd Q2 i).2 - 40 + dy)) && !gd O2 (((gd Q2 i).2 + dy).toNat * 80 + ((gd Q2 i).1 + dx).toNat)) = true ↔ (dx = 0 ∨ dy = 0) ∧ (0 ≤ (gd Q2 i).1 + dx ∧ 0 ≤ (gd Q2 i).2 + dy ∧ (gd Q2 i).1 + dx < 80 ∧ (gd Q2 i).2 + dy < 80) ∧ gb S ((gd Q2 i).2 + dy).toNat ((gd Q2 i).1 + dx).toNat = true ∧ gb O2 ((gd Q2 i).2 + dy).toNat ((gd Q2 i).1 + dx).toNat = false := by
           rw [hasI_at]
           simp only [Bool.and_eq_true, Bool.or_eq_true, decide_eq_true_eq, Bool.not_eq_true', Bool.false_or, gb]
           constructor
           · rintro ⟨⟨a1, ⟨⟨a2, a3⟩, a4, a5⟩, a6⟩, a7⟩
             rw [show (((gd Q2 i).2 + dy) * 80 + ((gd Q2 i).1 + dx)).toNat = ((gd Q2 i).2 + dy).toNat * 80 + ((gd Q2 i).1 + dx).toNat by omega] at a6
             exact ⟨a1, ⟨a2, a4, a3, a5⟩, a6, a7⟩
           · rintro ⟨a1, ⟨a2, a4, a3, a5⟩, a6, a7⟩
             rw [show (((gd Q2 i).2 + dy) * 80 + ((gd Q2 i).1 + dx)).toNat = ((gd Q2 i).2 + dy).toNat * 80 + ((gd Q2 i).1 + dx).toNat by omega]
             exact ⟨⟨a1, ⟨⟨a2, a3⟩, a4, a5⟩, a6⟩, a7⟩
         refine WP.cond rfl (fun h5 => ?_) (fun h5 => ?_)
         · obtain ⟨a1, ⟨a2, a3, a4, a5⟩, a6, a7⟩ := hcon.1 h5
           refine WP.seq (WP.region (RG.pv rfl (PV.move (v := v17) rfl rfl) (RG.pv rfl (PV.field rfl Fo189_0 rfl) (RG.pv rfl (PV.load1 rfl Sc2 rfl (Rd.blk rfl)) (RG.pv rfl (PV.field rfl Fo189_1 rfl) (RG.pv rfl (PV.load1 rfl Sc2 rfl (Rd.blk rfl)) ?_))))))
           refine RG.callF (vs := [_, _]) rfl rfl En201 rfl (l03At_s (by first | omega | (simp [within, hasI] at hp; omega)) ?_)
           refine RG.pv rfl (PV.idxS (j := ((gd Q2 i).2 + dy).toNat * 80 + ((gd Q2 i).1 + dx).toNat) (v := v17) rfl Is162 rfl SlF.o rfl (by omega) (by omega)) ?_
           refine RG.ot rfl (OT.storeE (F := boolT) rfl Sz4 rfl rfl rfl (Cl.c rfl) (OneC.c rfl) (by omega) ?_)
           refine RG.nil (WP.region (RG.pv rfl (PV.move (v := qv2) rfl rfl) (RG.pv rfl (PV.loadW rfl Ag189 rfl rfl) ?_)))
           refine RG.ot rfl (OT.bslice (F := ptT) (els := [⟨_, _⟩]) rfl El262 rfl (by decide) rfl (by decide) ⟨rfl, (Cl.c rfl), trivial⟩ fun v93 => ?_)
           refine RG.ot rfl (OT.append (v := qv2) (u := v93) (F := ptT) rfl El262 rfl (by decide) rfl rfl Rs.o (OneL.c (fun _ => rfl)) rfl (by first | omega | (simp <;> omega)) fun v94 => ?_)
           refine RG.pv rfl (PV.asg (v := v94) rfl rfl) (RG.nil (WP.region (RG.ml rfl rfl rfl (RG.pv rfl (PV.add rfl rfl rfl (by omega)) (RG.mr rfl rfl rfl (RG.nil ?_))))))
           have ep : ptOf ((gd Q2 i).1 + dx, (gd Q2 i).2 + dy) = ⟨(gd Q2 i).1 - 40 + dx, (gd Q2 i).2 - 40 + dy⟩ := by simp only [ptOf, Pt.mk.injEq]; omega
           exact ⟨rfl, dx + 1, (Q2 ++ [((gd Q2 i).1 + dx, (gd Q2 i).2 + dy)]), (O2.set (((gd Q2 i).2 + dy).toNat * 80 + ((gd Q2 i).1 + dx).toNat) true), v94, ⟨by omega, hF2.add ⟨by omega, by omega⟩ ⟨by omega, by omega⟩ a7 a6 hi2 (adj_near hb2 (by omega) a1 (fun e => by have := (hF2.on i hi2).2.2; simp only [qc] at this; rw [e.1, e.2, Int.add_zero, Int.add_zero, this] at a7; cases a7) a2 a3), hD2.add hi2 (fun c hc => on_set hl2 ⟨by omega, by omega⟩ ⟨by omega, by omega⟩ hc), on_set hl2 ⟨by omega, by omega⟩ ⟨by omega, by omega⟩ h02, by simp; omega, by rw [gd_app_l hi2]; exact hq2, by rw [← hq2] at hN2 ⊢; exact hN2.take hl2 hb2 (by omega) (by omega)⟩, ⟨rfl, rfl, trivial⟩, ⟨rfl, rfl, rfl, rfl, rfl, trivial⟩, (Cv.p (C := osl 4 boolT v17 (O2.set (((gd Q2 i).2 + dy).toNat * 80 + ((gd Q2 i).1 + dx).toNat) true) :: osl 189 ptT v94 (Q2.map ptOf ++ [⟨(gd Q2 i).1 - 40 + dx, (gd Q2 i).2 - 40 + dy⟩]) :: L)).trans (Cv.cast (by rw [List.map_append, ← ep]; rfl)), by omega⟩
         · have h6 : (dx ≠ 0 ∧ dy ≠ 0) ∨ (gd Q2 i).1 + dx < 0 ∨ (gd Q2 i).2 + dy < 0 ∨ (gd Q2 i).1 + dx ≥ 80 ∨ (gd Q2 i).2 + dy ≥ 80 ∨ gb S ((gd Q2 i).2 + dy).toNat ((gd Q2 i).1 + dx).toNat = false ∨ gb O2 ((gd Q2 i).2 + dy).toNat ((gd Q2 i).1 + dx).toNat = true := by
             have hn : ¬ _ := fun hh => by rw [hcon.2 hh] at h5; cases h5
             by_cases c1 : dx = 0 ∨ dy = 0
             · by_cases c2 : 0 ≤ (gd Q2 i).1 + dx ∧ 0 ≤ (gd Q2 i).2 + dy ∧ (gd Q2 i).1 + dx < 80 ∧ (gd Q2 i).2 + dy < 80
               · cases c3 : gb S ((gd Q2 i).2 + dy).toNat ((gd Q2 i).1 + dx).toNat
                 · simp
                 · cases c4 : gb O2 ((gd Q2 i).2 + dy).toNat ((gd Q2 i).1 + dx).toNat
                   · exact absurd ⟨c1, c2, c3, c4⟩ hn
                   · simp
               · omega
             · omega
           refine WP.skip (WP.region (RG.ml rfl rfl rfl (RG.pv rfl (PV.add rfl rfl rfl (by omega)) (RG.mr rfl rfl rfl (RG.nil ?_)))))
           exact ⟨rfl, dx + 1, Q2, O2, qv2, ⟨by omega, hF2, hD2, h02, hi2, hq2, by rw [← hq2] at hN2 ⊢; exact hN2.skip hb2 h6⟩, ⟨rfl, rfl, trivial⟩, ⟨rfl, rfl, rfl, rfl, rfl, trivial⟩, Cv.p, by omega⟩
     · have h4 := of_decide_eq_false h4
       refine WP.exit ?_
       refine WP.region (RG.ml rfl rfl rfl (RG.pv rfl (PV.add rfl rfl rfl (by omega)) (RG.mr rfl rfl rfl (RG.nil ?_))))
       exact ⟨rfl, dy + 1, Q2, O2, qv2, ⟨by omega, hF2, hD2, h02, hi2, hq2, by obtain rfl : dx = 2 := (by omega); exact hN2.next⟩, ⟨rfl, rfl, trivial⟩, ⟨rfl, rfl, rfl, rfl, trivial⟩, Cv.p, by omega⟩
   · have h3 := of_decide_eq_false h3
     refine WP.exit ?_
     refine WP.region (RG.ml rfl rfl rfl (RG.pv rfl (PV.add rfl rfl rfl (by omega)) (RG.mr rfl rfl rfl (RG.nil ?_))))
     exact ⟨rfl, i + 1, Q1, O1, qv1, ⟨by omega, hF1, hD1.next (by rw [hq1]) (by obtain rfl : dy = 2 := (by omega); exact hN1), h01⟩, ⟨rfl, rfl, trivial⟩, ⟨rfl, rfl, rfl, trivial⟩, Cv.p, by omega⟩
 · have h2 := of_decide_eq_false h2
   obtain rfl : i = Q.length := by omega
   rw [← hF.final hseed h0 hD] at k
   refine WP.exit ?_
   refine WP.seq (WP.region (RG.pv rfl (PV.move (v := v17) rfl rfl) (RG.pv rfl (PV.asg (v := v17) rfl rfl) (RG.nil ?_))))
   refine WP.ret ?_
   exact ⟨_, _, ResV.one rfl rfl, Cv.p, k v17⟩
/-- of the cells of S, those of D are done -/
def leftB (S D : List Bool) : List Bool := zipB (fun p q => p && !q) S D
theorem gb_left {S D : List Bool} (hS : S.length = 6400) (hD : D.length = 6400) {y x : Nat} (hy : y < 80) (hx : x < 80) : gb (leftB S D) y x = (gb S y x && !gb D y x) := gb_zip hS hD hy hx
theorem leftB_len {S D : List Bool} (hS : S.length = 6400) (hD : D.length = 6400) : (leftB S D).length = 6400 := zipB_len hS hD
theorem flood7n_s {v : Value} {S : List Bool} {x y : Nat} (h1 : Rs G L boolT v S) (hS : S.length = 6400) (hx : x < 80) (hy : y < 80) (hon : gb S y x = true)
   (k : ∀ v', R v' G (osl 4 boolT v' (compB S (y, x)) :: L)) : CallT Tryz.prog 217 #[v, vi ((x : Int) - 40), vi ((y : Int) - 40), .bool false] G L R :=
 flood7_s (x := (x : Int)) (y := (y : Int)) h1 hS (by omega) (by omega) (by rw [Int.toNat_natCast, Int.toNat_natCast]; exact hon) (by rw [Int.toNat_natCast, Int.toNat_natCast]; exact k)
theorem parts7_s {v : Value} {S : List Bool} (h1 : Rs G L boolT v S) (hS : S.length = 6400) (k : ∀ v' zs, er zs = comps S → R v' G (osl 162 slT v' zs :: bagS 4 boolT zs :: L)) : CallT Tryz.prog 144 #[v, .bool false] G L R := by
 have hrl : (List.replicate S.length false).length = 6400 := by simp [hS]
 have hl0 : leftB S (List.replicate 6400 false) = S := gb_ext (leftB_len hS List.length_replicate) hS fun y x hy hx => by
   rw [gb_left hS List.length_replicate hy hx, gb_rep']; simp
 refine CallT.enter (args := _) Tryz.func144 rfl rfl (by kernel_rfl) rfl ?_
 refine WP.seq (WP.region (RG.pv rfl (PV.asg rfl rfl) (RG.nil (WP.seq (WP.region ?_)))))
 refine RG.ot rfl (OT.bslice (F := (slT (α := Bool))) (els := []) rfl El193 rfl (by decide) rfl (by decide) trivial fun v10 => ?_)
 refine RG.pv rfl (PV.asg (v := v10) rfl rfl) (RG.nil (WP.seq (WP.region (RG.pv rfl (PV.move (v := v) rfl rfl) (RG.pv rfl (PV.len (v := v) rfl Tryz.underlying162 rfl (SlF.r h1)) ?_)))))
 refine RG.ot rfl (OT.make (F := boolT) (a0 := false) rfl El162 rfl (by decide) rfl rfl (by omega) (by omega) fun v13 => ?_)
 refine RG.pv rfl (PV.asg (v := v13) rfl rfl) (RG.nil (WP.seq (WP.seq (WP.region (RG.mr rfl rfl rfl (RG.nil (WP.block ?_)))))))
 refine WP.cv (((Cv.p (C := osl 162 slT v10 ([] : List (Sl Bool)) :: osl 4 boolT v13 (List.replicate S.length false) :: L)).trans (Cv.cons (Cv.bag0 (e := 4) (F := boolT) (xs := []) rfl)))) ?_
 refine WP.loop5 [0, 1] (fun (yy : Int) (D : List Bool) (zs : List (Sl Bool)) (q : Value) (dv : Value) => (-40 ≤ yy ∧ yy ≤ 40) ∧ D.length = 6400 ∧ PI id S ((yy + 40).toNat * 80) (leftB S D) (er zs)) (fun (yy : Int) (D : List Bool) (zs : List (Sl Bool)) (q : Value) (dv : Value) => [(7, vi yy), (5, q), (6, dv)]) (fun (yy : Int) (D : List Bool) (zs : List (Sl Bool)) (q : Value) (dv : Value) => osl 162 slT q zs :: bagS 4 boolT zs :: osl 4 boolT dv D :: L) (fun (yy : Int) (D : List Bool) (zs : List (Sl Bool)) (q : Value) (dv : Value) => (40 - yy).toNat) (-40) (List.replicate S.length false) [] v10 v13 ⟨by omega, hrl, by rw [hS, hl0]; exact PI.start hS⟩ ⟨rfl, rfl, rfl, trivial⟩ Cv.p ?_
 rintro yy D zs q dv τ ⟨hy, hDl, hP⟩
 refine WP.seq (WP.seq (WP.region (RG.ml rfl rfl rfl (RG.pv rfl (PV.lss rfl rfl rfl) (RG.nil ?_)))))
 obtain ⟨y, rfl⟩ : ∃ n : Nat, yy = (n : Int) - 40 := ⟨(yy + 40).toNat, by omega⟩
 rw [show ((y : Int) - 40 + 40).toNat = y by omega] at hP
 refine WP.cond rfl (fun h2 => ?_) (fun h2 => ?_)
 · have h2 := of_decide_eq_true h2
   refine WP.skip (WP.seq (WP.block (WP.seq (WP.region (RG.mr rfl rfl rfl (RG.nil (WP.block ?_)))))))
   refine WP.loop5 [0, 1, 7] (fun (xx : Int) (D1 : List Bool) (zs1 : List (Sl Bool)) (q1 : Value) (dv1 : Value) => (-40 ≤ xx ∧ xx ≤ 40) ∧ D1.length = 6400 ∧ PI id S (y * 80 + (xx + 40).toNat) (leftB S D1) (er zs1)) (fun (xx : Int) (D1 : List Bool) (zs1 : List (Sl Bool)) (q1 : Value) (dv1 : Value) => [(8, vi xx), (5, q1), (6, dv1)]) (fun (xx : Int) (D1 : List Bool) (zs1 : List (Sl Bool)) (q1 : Value) (dv1 : Value) => osl 162 slT q1 zs1 :: bagS 4 boolT zs1 :: osl 4 boolT dv1 D1 :: L) (fun (xx : Int) (D1 : List Bool) (zs1 : List (Sl Bool)) (q1 : Value) (dv1 : Value) => (40 - xx).toNat) (-40) D zs q dv ⟨by omega, hDl, by rw [show ((-40 : Int) + 40).toNat = 0 from rfl]; exact hP⟩ ⟨rfl, rfl, rfl, trivial⟩ Cv.p ?_
   rintro xx D1 zs1 q1 dv1 τ1 ⟨hx, hDl, hP1⟩
   refine WP.seq (WP.seq (WP.region (RG.ml rfl rfl rfl (RG.pv rfl (PV.lss rfl rfl rfl) (RG.nil ?_)))))
   obtain ⟨x, rfl⟩ : ∃ n : Nat, xx = (n : Int) - 40 := ⟨(xx + 40).toNat, by omega⟩
   rw [show ((x : Int) - 40 + 40).toNat = x by omega] at hP1
   refine WP.cond rfl (fun h3 => ?_) (fun h3 => ?_)
   · have h3 := of_decide_eq_true h3
     have hzl : zs1.length ≤ y * 80 + x := by
       have := congrArg List.length hP1.er
       have h1 := firsts_len S (y * 80 + x)
       rw [er_len, List.length_map] at this; omega
     have e1 : (y * 80 + x) / 80 = y := by omega
     have e2 : (y * 80 + x) % 80 = x := by omega
     have e3 : cel (y * 80 + x) = (y, x) := by rw [cel, e1, e2]
     have e4 : ((x : Int) - 40 + 1 + 40).toNat = x + 1 := by omega
     have hg := gb_left hS hDl (y := y) (x := x) (by omega) (by omega)
     refine WP.skip (WP.seq (WP.block (WP.seq (WP.region (RG.pv rfl (PV.move (v := v) rfl rfl) (RG.ml rfl rfl rfl (RG.ml rfl rfl rfl ?_)))))))
     refine RG.callF (vs := [_, _]) rfl rfl En201 rfl (l03At_s (by first | omega | (simp at hp; omega)) ?_)
     refine RG.pv rfl (PV.idxS (j := y * 80 + x) (v := v) rfl Is162 rfl (SlF.r h1) rfl (by omega) (by omega)) (RG.pv rfl (PV.loadE1 rfl Sc4 rfl rfl (El.r h1 (getG (by omega))) rfl) (RG.bl rfl rfl rfl ?_))
     refine RG.gs rfl rfl rfl (fun hp => (PV.move (v := dv1) rfl rfl)) ?_
     refine RG.gs rfl rfl rfl (fun hp => (PV.mvI (.inl rfl) rfl)) ?_
     refine RG.gs rfl rfl rfl (fun hp => (PV.mvI (.inl rfl) rfl)) ?_
     refine RG.gsC rfl rfl rfl rfl En201 (fun hp => ⟨_, (acons (gs_t hp) (acons (gs_t hp) anil)), l03At_s (by first | omega | (simp at hp; omega)) ⟨rfl, rfl, rfl⟩⟩) ?_
     refine RG.gs rfl rfl rfl (fun hp => (PV.idxS (j := y * 80 + x) (v := dv1) rfl Is162 (gs_t hp) SlF.o (gs_t hp) (by first | omega | (simp [within, hasI] at hp; omega)) (by first | omega | (simp [within, hasI] at hp; omega)))) ?_
     refine RG.gs rfl rfl rfl (fun hp => (PV.loadE1 rfl Sc4 (gs_t hp) rfl (El.o (getG (by first | omega | (simp [within, hasI] at hp; omega)))) rfl)) ?_
     refine RG.gs rfl rfl rfl (fun hp => (PV.not rfl (gs_t hp))) ?_
     refine RG.pv rfl (PV.pickA rfl rfl (fun hq => gs_t (geqT hq)) rfl) (RG.nil ?_)
     refine WP.cond rfl (fun h4 => ?_) (fun h4 => ?_)
     · have h6 : gb (leftB S D1) y x = true := by rw [hg]; exact h4
       have h5 : gb S y x = true := by rw [hg, Bool.and_eq_true] at h6; exact h6.1
       refine WP.seq (WP.region (RG.pv rfl (PV.move (v := v) rfl rfl) (RG.ml rfl rfl rfl (RG.ml rfl rfl rfl (RG.bl rfl rfl rfl ?_)))))
       refine RG.callF (vs := [v, _, _, _]) rfl rfl En217 rfl (flood7n_s (Rs.up h1) hS (by omega) (by omega) h5 (fun v41 => ?_))
       refine RG.pv rfl (PV.asg (v := v41) rfl rfl) (RG.nil (WP.seq (WP.region (RG.pv rfl (PV.move (v := dv1) rfl rfl) (RG.pv rfl (PV.move (v := v41) rfl rfl) ?_)))))
       refine RG.callF (vs := [dv1, v41, _]) rfl rfl En218 rfl (l04Combine_s Rs.o Rs.o hDl (compB_len _ _) (by omega) (fun v44 => ?_))
       refine RG.pv rfl (PV.asg (v := v44) rfl rfl) (RG.nil (WP.region (RG.pv rfl (PV.move (v := q1) rfl rfl) (RG.pv rfl (PV.move (v := v41) rfl rfl) ?_))))
       refine RG.ot rfl (OT.bslice (F := (slT (α := Bool))) (els := [⟨v41, compB S (y, x)⟩]) rfl El193 rfl (by decide) rfl (by decide) ⟨rfl, (Cl.s (v := v41) SlF.o), trivial⟩ fun v47 => ?_)
       refine RG.ot rfl (OT.append (v := q1) (u := v47) (F := (slT (α := Bool))) rfl El193 rfl (by decide) rfl rfl Rs.o (OneL.one (OneC.sl SlF.o OneC.nil)) rfl (by first | omega | (simp <;> omega)) fun v48 => ?_)
       refine RG.pv rfl (PV.asg (v := v48) rfl rfl) (RG.nil (WP.region (RG.ml rfl rfl rfl (RG.pv rfl (PV.add rfl rfl rfl (by omega)) (RG.mr rfl rfl rfl (RG.nil ?_))))))
       have hcm := hP1.comp (n := y * 80 + x) (by omega) (by rw [e1, e2]; exact h6)
       rw [e3] at hcm
       refine ⟨rfl, (x : Int) - 40 + 1, (zipB (opF 14) D1 (compB S (y, x))), (zs1 ++ [⟨v41, compB S (y, x)⟩]), v48, v44, ⟨by omega, zipB_len hDl (compB_len _ _), ?_⟩, ⟨rfl, rfl, rfl, trivial⟩, ⟨rfl, rfl, rfl, trivial⟩, ((Cv.p (C := osl 4 boolT v41 (compB S (y, x)) :: bagS 4 boolT zs1 :: osl 162 slT v48 (zs1 ++ [⟨v41, compB S (y, x)⟩]) :: osl 4 boolT v44 (zipB (opF 14) D1 (compB S (y, x))) :: L)).trans (Cv.bagS_add.trans Cv.p)), by omega⟩
       rw [e4, er, List.map_append]
       have hk := hP1.take (T' := leftB S (zipB (opF 14) D1 (compB S (y, x)))) (n := y * 80 + x) (by omega) (by rw [e1, e2]; exact h6) (leftB_len hS (zipB_len hDl (compB_len _ _))) (fun y' x' hy' hx' => by
         rw [gb_left hS (zipB_len hDl (compB_len _ _)) hy' hx', gb_left hS hDl hy' hx', gb_zip hDl (compB_len _ _) hy' hx', e3, hcm, show ∀ a b : Bool, opF 14 a b = (a || b) by decide]
         cases gb S y' x' <;> cases gb D1 y' x' <;> simp)
       rw [e3, hcm] at hk
       exact hk
     · have h6 : gb (leftB S D1) y x = false := by rw [hg]; exact h4
       refine WP.skip (WP.region (RG.ml rfl rfl rfl (RG.pv rfl (PV.add rfl rfl rfl (by omega)) (RG.mr rfl rfl rfl (RG.nil ?_)))))
       exact ⟨rfl, (x : Int) - 40 + 1, D1, zs1, q1, dv1, ⟨by omega, hDl, by rw [e4]; exact hP1.skip (by omega) (by rw [e1, e2]; exact h6)⟩, ⟨rfl, rfl, rfl, trivial⟩, ⟨rfl, rfl, rfl, trivial⟩, Cv.p, by omega⟩
   · have h3 := of_decide_eq_false h3
     obtain rfl : x = 80 := by omega
     refine WP.exit ?_
     refine WP.region (RG.ml rfl rfl rfl (RG.pv rfl (PV.add rfl rfl rfl (by omega)) (RG.mr rfl rfl rfl (RG.nil ?_))))
     exact ⟨rfl, (y : Int) - 40 + 1, D1, zs1, q1, dv1, ⟨by omega, hDl, by rw [show ((y : Int) - 40 + 1 + 40).toNat = y + 1 by omega, Nat.add_mul]; exact hP1⟩, ⟨rfl, rfl, rfl, trivial⟩, ⟨rfl, rfl, trivial⟩, Cv.p, by omega⟩
 · have h2 := of_decide_eq_false h2
   obtain rfl : y = 80 := by omega
   have hz := hP.all
   refine WP.exit ?_
   refine WP.seq (WP.region (RG.pv rfl (PV.move (v := q) rfl rfl) (RG.pv rfl (PV.asg (v := q) rfl rfl) (RG.nil ?_))))
   refine WP.ret ?_
   exact ⟨_, _, ResV.one rfl rfl, Cv.p, k q zs hz⟩
theorem comps7_s {v : Value} {xs : List Rect} (h1 : Rs G L rectT v xs) (hv : validRs xs = true) (k : ∀ v' zs, er zs = partsL (bits xs) → R v' G (osl 50 slT v' zs :: bagS 91 rectT zs :: L)) : CallT Tryz.prog 74 #[v] G L R := by
 refine CallT.enter (args := _) Tryz.func74 rfl rfl (by kernel_rfl) rfl ?_
 refine WP.seq (WP.region (RG.pv rfl (PV.asg rfl rfl) (RG.nil (WP.seq (WP.region ?_)))))
 refine RG.ot rfl (OT.bslice (F := (slT (α := Rect))) (els := []) rfl El71 rfl (by decide) rfl (by decide) trivial fun v6 => ?_)
 refine RG.pv rfl (PV.asg (v := v6) rfl rfl) (RG.nil (WP.seq (WP.region (RG.pv rfl (PV.move (v := v) rfl rfl) ?_))))
 refine RG.callF (vs := [v]) rfl rfl En120 rfl (l03Bits_s (Rs.up h1) (fun j hj => valid_get hv hj) (fun v8 => ?_))
 refine RG.callF (vs := [v8, _]) rfl rfl En144 rfl (parts7_s Rs.o (bits_length _) (fun v9 zsv9 hev9 => ?_))
 refine RG.pv rfl (PV.asg (v := v9) rfl rfl) (RG.nil (WP.seq (WP.seq (WP.region (RG.mr rfl rfl rfl (RG.nil (WP.block ?_)))))))
 have hzl : zsv9.length ≤ 6400 := by
   have := congrArg List.length hev9
   have h2 := comps_len (bits xs)
   rw [er_len] at this; omega
 refine WP.cv (((Cv.p (C := osl 50 slT v6 ([] : List (Sl Rect)) :: osl 162 slT v9 zsv9 :: bagS 4 boolT zsv9 :: L)).trans (Cv.cons (Cv.bag0 (e := 91) (F := rectT) (xs := []) rfl)))) ?_
 refine WP.loop3 [4] (fun (i : Nat) (ys : List (Sl Rect)) (q : Value) => i ≤ zsv9.length ∧ er ys = ((er zsv9).take i).map canon) (fun (i : Nat) (ys : List (Sl Rect)) (q : Value) => [(5, vi i), (3, q)]) (fun (i : Nat) (ys : List (Sl Rect)) (q : Value) => osl 50 slT q ys :: bagS 91 rectT ys :: osl 162 slT v9 zsv9 :: bagS 4 boolT zsv9 :: L) (fun (i : Nat) (ys : List (Sl Rect)) (q : Value) => zsv9.length - i) 0 [] v6 ⟨by omega, rfl⟩ ⟨rfl, rfl, trivial⟩ Cv.p ?_
 rintro i ys q τ ⟨hi, hys⟩
 refine WP.seq (WP.seq (WP.region (RG.ml rfl rfl rfl (RG.pv rfl (PV.move (v := v9) rfl rfl) (RG.pv rfl (PV.len (v := v9) rfl Tryz.underlying193 rfl SlF.o) (RG.pv rfl (PV.lss rfl rfl rfl) (RG.nil ?_)))))))
 have hyl : ys.length = i := by
   have := congrArg List.length hys
   rw [er_len, List.length_map, List.length_take, er_len] at this; omega
 refine WP.cond rfl (fun h3 => ?_) (fun h3 => ?_)
 · have h3 := of_decide_eq_true h3
   have hci : (gd zsv9 i).xs.length = 6400 := by
     have e : (gd zsv9 i).xs ∈ comps (bits xs) := by rw [← hev9, ← er_gd]; rw [gd_eq (by rw [er_len]; omega)]; exact List.getElem_mem _
     obtain ⟨j0, _, e2⟩ := List.mem_map.1 e
     rw [← e2]; exact compB_len _ _
   refine WP.skip (WP.seq (WP.block (WP.region (RG.pv rfl (PV.move (v := q) rfl rfl) (RG.pv rfl (PV.move (v := v9) rfl rfl) (RG.ml rfl rfl rfl (RG.pv rfl (PV.idxS (v := v9) rfl Is193 rfl SlF.o rfl rfl (by omega)) ?_)))))))
   refine RG.pv rfl (PV.loadE1 rfl Sc162 rfl rfl (El.o (getG (by omega))) rfl) ?_
   refine RG.callF (vs := [_]) rfl rfl En119 rfl (l03Canon_s (Rs.inBag (xs := zsv9) i (by omega)) hci (fun v21 => ?_))
   refine RG.ot rfl (OT.bslice (F := (slT (α := Rect))) (els := [⟨v21, canon (gd zsv9 i).xs⟩]) rfl El71 rfl (by decide) rfl (by decide) ⟨rfl, (Cl.s (v := v21) SlF.o), trivial⟩ fun v22 => ?_)
   refine RG.ot rfl (OT.append (v := q) (u := v22) (F := (slT (α := Rect))) rfl El71 rfl (by decide) rfl rfl Rs.o (OneL.one (OneC.sl SlF.o OneC.nil)) rfl (by first | omega | (simp <;> omega)) fun v23 => ?_)
   refine RG.pv rfl (PV.asg (v := v23) rfl rfl) (RG.nil (WP.region (RG.ml rfl rfl rfl (RG.pv rfl (PV.add rfl rfl rfl (by omega)) (RG.mr rfl rfl rfl (RG.nil ?_))))))
   refine ⟨rfl, i + 1, (ys ++ [⟨v21, canon (gd zsv9 i).xs⟩]), v23, ⟨by omega, ?_⟩, ⟨rfl, rfl, trivial⟩, ⟨rfl, trivial⟩, ((Cv.p (C := osl 91 rectT v21 (canon (gd zsv9 i).xs) :: bagS 91 rectT ys :: osl 50 slT v23 (ys ++ [⟨v21, canon (gd zsv9 i).xs⟩]) :: osl 162 slT v9 zsv9 :: bagS 4 boolT zsv9 :: L)).trans (Cv.bagS_add.trans Cv.p)), by omega⟩
   rw [List.take_add_one, getG (by rw [er_len]; omega), List.map_append, ← hys, er_gd, er, List.map_append]; rfl
 · have h3 := of_decide_eq_false h3
   rw [List.take_of_length_le (by rw [er_len]; omega), hev9] at hys
   refine WP.exit ?_
   refine WP.seq (WP.region (RG.pv rfl (PV.move (v := q) rfl rfl) (RG.pv rfl (PV.asg (v := q) rfl rfl) (RG.nil ?_))))
   refine WP.ret ?_
   exact ⟨_, _, ResV.one rfl rfl, Cv.p, k q ys hys⟩
end Go.Proofs.YtgphjofccckloaaGreat
namespace Go.Proofs.YtgphjofccckloaaGreat
set_option linter.unusedVariables false
set_option linter.unusedSimpArgs false
open Go
set_option maxRecDepth 20000
set_option linter.unusedSimpArgs false
variable {G : Gh} {L : List Ch} {R : Value → Gh → List Ch → Prop}
def mks (xs : List Viol) : List (Sl Rect) := xs.map Viol.marker
theorem mks_len (xs : List Viol) : (mks xs).length = xs.length := by simp [mks]
theorem mks_gd {xs : List Viol} {i : Nat} (h : i < xs.length) : gd (mks xs) i = (gd xs i).marker := gd_map _ h
theorem RsE.marker {xs : List Viol} (h : RsE G L rectT (mks xs)) {i : Nat} (hi : i < xs.length) : Rs G L rectT (gd xs i).marker.v (gd xs i).marker.xs := by
 have := h i (by rw [mks_len]; exact hi); rwa [mks_gd hi] at this
def erV (p : Viol) : Int × List Rect := (p.rule, p.marker.xs)
def erVs (xs : List Viol) : List (Int × List Rect) := xs.map erV
theorem erVs_len (xs : List Viol) : (erVs xs).length = xs.length := by simp [erVs]
end Go.Proofs.YtgphjofccckloaaGreat
namespace Go.Proofs.YtgphjofccckloaaGreat
set_option linter.unusedVariables false
set_option linter.unusedSimpArgs false
open Go
set_option maxRecDepth 20000
set_option linter.unusedSimpArgs false
variable {G : Gh} {L : List Ch} {R : Value → Gh → List Ch → Prop}
theorem Eq53 : EqT Tryz.prog 53 ruleT := ⟨by kernel_rfl, fun a b w => by
 rw [eqT_run 9999 _ _ w Tryz.underlying53 (by kernel_rfl)]
 obtain ⟨a0, a1, a2, a3, a4⟩ := a; obtain ⟨b0, b1, b2, b3, b4⟩ := b
 simp only [ruleT]
 simp [Op.eqFields, part, isAgg, run_underlying Tryz.underlying2, run_equalIn_int _ _ _ _ _ _ _ Tryz.underlying2]
 by_cases e0 : a0 = b0 <;> by_cases e1 : a1 = b1 <;> by_cases e2 : a2 = b2 <;> by_cases e3 : a3 = b3 <;> by_cases e4 : a4 = b4 <;> simp_all⟩
def hasR (rs : List Rule) (q : Rule) : Bool := rs.any fun r => decide (q = r)
def deckAt (rs : List Rule) (i : Nat) : Bool := validRule (gd rs i) && !hasR (rs.take i) (gd rs i)
def deckOk (rs : List Rule) : Bool := decide (rs.length ≤ 12) && decide (∀ i, i < rs.length → deckAt rs i = true)
theorem deck_false {rs : List Rule} {i : Nat} (h : i < rs.length) (e : deckAt rs i = false) : deckOk rs = false := by
 simp only [deckOk, Bool.and_eq_false_iff, decide_eq_false_iff_not]
 exact .inr fun hh => by rw [hh i h] at e; cases e
theorem deck_all {rs : List Rule} (h : ∀ i, i < rs.length → deckAt rs i = true) : deckOk rs = decide ((rs.length : Int) ≤ 12) := by
 simp only [deckOk, decide_eq_true h, Bool.and_true]; rw [decide_eq_decide]; omega
theorem deck_rule {rs : List Rule} (h : deckOk rs = true) {i : Nat} (hi : i < rs.length) : validRule (gd rs i) = true := by
 simp only [deckOk, Bool.and_eq_true, decide_eq_true_eq] at h
 have := h.2 i hi; simp only [deckAt, Bool.and_eq_true] at this; exact this.1
theorem deck_len {rs : List Rule} (h : deckOk rs = true) : rs.length ≤ 12 := by
 simp only [deckOk, Bool.and_eq_true, decide_eq_true_eq] at h; exact h.1
theorem indexRule_s {v : Value} {rs : List Rule} {q : Rule} (h1 : Rs G L ruleT v rs) (k : R (vi (idxI (fun r => decide (q = r)) rs)) G L) : CallT Tryz.prog 160 #[v, vrule q] G L R := by
 refine CallT.bd h1 fun hb => ?_
 refine CallT.enter (args := _) Tryz.func160 rfl rfl (by kernel_rfl) rfl ?_
 refine WP.seq (WP.region ?_)
 refine RG.ot rfl (OT.box (cs := ruleT.enc q) rfl rfl rfl fun b3 => ?_)
 refine RG.mr rfl rfl rfl (RG.nil (WP.seq (WP.seq (WP.region (RG.pv rfl (PV.move (v := v) rfl rfl) (RG.pv rfl (PV.len (v := v) rfl Tryz.underlying37 rfl (SlF.r h1)) (RG.ml rfl rfl rfl ?_)))))))
 refine RG.nil (WP.block ?_)
 refine WP.loop1 [0, 3, 7] (fun i => i ≤ rs.length ∧ ∀ j, j < i → decide (q = gd rs j) = false) (fun i => [(8, vi i)]) (fun i => blk b3 53 (ruleT.enc q) :: L) (fun i => rs.length - i) 0 ⟨by omega, fun j h => by omega⟩ ⟨rfl, trivial⟩ Cv.p ?_
 rintro i τ ⟨hi, hj⟩
 refine WP.seq (WP.region (RG.pv rfl (PV.lss rfl rfl rfl) (RG.nil (WP.seq ?_))))
 refine WP.cond rfl (fun h2 => ?_) (fun h2 => ?_)
 · have h2 := of_decide_eq_true h2
   refine WP.skip (WP.seq (WP.block (WP.seq (WP.region (RG.ml rfl rfl rfl (RG.mr rfl rfl rfl (RG.nil ?_)))))))
   refine WP.seq ?_
   refine WP.regionQ (by kernel_rfl) (by kernel_rfl) ?_
   refine RQ.pv rfl (PV.loadW rfl Ag53 rfl rfl) ?_
   refine RQ.pv rfl (PV.move (v := v) rfl rfl) ?_
   refine RQ.pv rfl (PV.mvI (.inl rfl) rfl) ?_
   refine RQ.pv rfl (PV.idxS (v := v) rfl Is37 rfl (SlF.r h1) rfl rfl (by omega)) ?_
   refine RQ.pv rfl (PV.loadE rfl Ag53 rfl rfl (El.r h1 (getG (by omega)))) ?_
   refine RQ.pv rfl (PV.eqlT rfl Eq53 rfl rfl) ?_
   refine RQ.nil ?_
   refine WP.cond rfl (fun h3 => ?_) (fun h3 => ?_)
   · rw [idxI_at (by omega) h3 hj] at k
     refine WP.seq (WP.region (RG.ml rfl rfl rfl (RG.mr rfl rfl rfl (RG.nil ?_))))
     refine WP.ret ?_
     exact ⟨_, _, ResV.one rfl rfl, Cv.p, k⟩
   · have hj' : ∀ j, j < i + 1 → decide (q = gd rs j) = false := fun j h => by
       by_cases c : j = i
       · rw [c]; exact h3
       · exact hj j (by omega)
     refine WP.skip (WP.region (RG.pv rfl (PV.add rfl rfl rfl (by omega)) (RG.ml rfl rfl rfl (RG.nil ?_))))
     exact ⟨rfl, i + 1, ⟨by omega, hj'⟩, ⟨rfl, trivial⟩, ⟨rfl, rfl, rfl, trivial⟩, Cv.p, by omega⟩
 · have h2 := of_decide_eq_false h2
   rw [idxI_none (fun j h => hj j (by omega))] at k
   refine WP.exit ?_
   refine WP.seq (WP.region (RG.mr rfl rfl rfl (RG.nil ?_)))
   refine WP.ret ?_
   exact ⟨_, _, ResV.one rfl rfl, Cv.p, k⟩
theorem containsRule_s {v : Value} {rs : List Rule} {q : Rule} (h1 : Rs G L ruleT v rs) (k : R (.bool (hasR rs q)) G L) : CallT Tryz.prog 78 #[v, vrule q] G L R := by
 rw [hasR, ← idxI_any] at k
 refine CallT.enter (args := _) Tryz.func78 rfl rfl (by kernel_rfl) rfl ?_
 refine WP.seq (WP.region ?_)
 refine RG.ot rfl (OT.box (cs := ruleT.enc q) rfl rfl rfl fun b3 => ?_)
 refine RG.br rfl rfl rfl (RG.nil (WP.seq (WP.region (RG.pv rfl (PV.move (v := v) rfl rfl) (RG.pv rfl (PV.loadW rfl Ag53 rfl rfl) ?_)))))
 refine RG.callF (vs := [v, _]) rfl rfl En160 rfl (indexRule_s (Rs.up h1) ?_)
 refine RG.pv rfl (PV.geq rfl rfl rfl) (RG.br rfl rfl rfl (RG.nil ?_))
 refine WP.ret ?_
 exact ⟨_, _, ResV.one rfl rfl, Cv.p, k⟩
theorem deck_i {d : Deck} (h1 : Rs G L ruleT d.rules.v d.rules.xs) (k : R (.bool (deckOk d.rules.xs)) G L) : CallT Tryz.prog 42 #[vT deckT d] G L R := by
 refine CallT.bd h1 fun hb => ?_
 refine CallT.enter (args := _) Tryz.func42 rfl rfl (by kernel_rfl) rfl ?_
 refine WP.seq (WP.region ?_)
 refine RG.ot rfl (OT.box (cs := deckT.enc d) rfl rfl rfl fun b1 => ?_)
 refine RG.br rfl rfl rfl (RG.nil (WP.seq (WP.seq (WP.region (RG.pv rfl (PV.field rfl Fo39_0 rfl) (RG.pv rfl (PV.load1 rfl Sc37 rfl (Rd.blk rfl)) (RG.pv rfl (PV.len rfl Tryz.underlying37 rfl (SlF.r h1)) ?_)))))))
 refine RG.ml rfl rfl rfl (RG.nil (WP.block ?_))
 refine WP.loop1 [1, 6, 7] (fun i => i ≤ d.rules.xs.length ∧ ∀ j, j < i → deckAt d.rules.xs j = true) (fun i => [(8, vi i)]) (fun i => blk b1 39 (deckT.enc d) :: L) (fun i => d.rules.xs.length - i) 0 ⟨by omega, fun j h => by omega⟩ ⟨rfl, trivial⟩ Cv.p ?_
 rintro i τ ⟨hi, hj⟩
 refine WP.seq (WP.region (RG.pv rfl (PV.lss rfl rfl rfl) (RG.nil (WP.seq ?_))))
 refine WP.cond rfl (fun h2 => ?_) (fun h2 => ?_)
 · have h2 := of_decide_eq_true h2
   have h3 : i < d.rules.xs.length := by omega
   refine WP.skip (WP.seq (WP.block (WP.seq (WP.region (RG.ml rfl rfl rfl (RG.pv rfl (PV.idxS rfl Is37 rfl (SlF.r h1) rfl rfl (by omega)) (RG.pv rfl (PV.loadE rfl Ag53 rfl rfl (El.r h1 (getG (by omega)))) ?_)))))))
   refine RG.ot rfl (OT.alloc rfl Zr53 fun b4 => ?_)
   refine RG.mr rfl rfl rfl ?_
   refine RG.ot rfl (OT.storeW (vs := [vi _, vi _, vi _, vi _, vi _]) rfl Sz53 rfl rfl (Cl.c rfl) rfl rfl (OneC.c rfl) ?_)
   refine RG.nil (WP.seq ?_)
   refine WP.regionQ (by kernel_rfl) (by kernel_rfl) ?_
   refine RQ.pv rfl (PV.loadW rfl Ag53 rfl rfl) ?_
   refine RQ.callF (vs := [_]) rfl rfl En52 rfl (validRule_i ⟨rfl, rfl, rfl⟩) ?_
   refine RQ.pv rfl (PV.not rfl rfl) ?_
   refine RQ.pv rfl (PV.mvB (.inl rfl) rfl) ?_
   refine RQ.gs rfl rfl rfl (fun hp => (PV.field rfl Fo39_0 rfl)) ?_
   refine RQ.gs rfl rfl rfl (fun hp => (PV.load1 rfl Sc37 (gs_t hp) (Rd.blk rfl))) ?_
   refine RQ.gs rfl rfl rfl (fun hp => (PV.mvI (.inl rfl) rfl)) ?_
   refine RQ.gs rfl rfl rfl (fun hp => (PV.slc rfl Is37 (gs_t hp) (SlF.r h1) optAt.n (optAt.s (gs_t hp) rfl) (by first | omega | (simp at hp; omega)) (by first | omega | (simp at hp; omega)))) ?_
   refine RQ.gs rfl rfl rfl (fun hp => (PV.loadW rfl Ag53 rfl rfl)) ?_
   refine RQ.gsC rfl rfl rfl rfl En78 (fun hp => ⟨_, (acons (gs_t hp) (acons (gs_t hp) anil)), containsRule_s (rs := d.rules.xs.take i) (by have := Rs.slv h1 (lo := 0) (hi := i) (by omega) (by omega); rw [List.drop_zero] at this; exact this.up) ⟨rfl, rfl, rfl⟩⟩) ?_
   refine RQ.pv rfl (PV.pickO rfl rfl rfl (fun hq => gs_t (geqF hq))) ?_
   refine RQ.nil ?_
   refine WP.cond rfl (fun h4 => ?_) (fun h4 => ?_)
   · have e : deckAt d.rules.xs i = false := by
       revert h4; unfold deckAt
       cases validRule (gd d.rules.xs i) <;> cases hasR (d.rules.xs.take i) (gd d.rules.xs i) <;> simp
     rw [deck_false h3 e] at k
     refine WP.seq (WP.region (RG.br rfl rfl rfl (RG.nil ?_)))
     refine WP.ret ?_
     exact ⟨_, _, ResV.one rfl rfl, Cv.p, k⟩
   · have e : deckAt d.rules.xs i = true := by
       revert h4; unfold deckAt
       cases validRule (gd d.rules.xs i) <;> cases hasR (d.rules.xs.take i) (gd d.rules.xs i) <;> simp
     have hj' : ∀ j, j < i + 1 → deckAt d.rules.xs j = true := fun j h => by
       by_cases c : j = i
       · rw [c]; exact e
       · exact hj j (by omega)
     refine WP.skip (WP.region (RG.pv rfl (PV.add rfl rfl rfl (by omega)) (RG.ml rfl rfl rfl (RG.nil ?_))))
     exact ⟨rfl, i + 1, ⟨by omega, hj'⟩, ⟨rfl, trivial⟩, ⟨rfl, rfl, rfl, trivial⟩, Cv.p, by omega⟩
 · have h2 := of_decide_eq_false h2
   rw [deck_all (fun i h => hj i (by omega))] at k
   refine WP.exit ?_
   refine WP.seq (WP.region (RG.pv rfl (PV.field rfl Fo39_0 rfl) (RG.pv rfl (PV.load1 rfl Sc37 rfl (Rd.blk rfl)) (RG.pv rfl (PV.len rfl Tryz.underlying37 rfl (SlF.r h1)) (RG.pv rfl (PV.leq rfl rfl rfl) (RG.br rfl rfl rfl (RG.nil ?_)))))))
   refine WP.ret ?_
   exact ⟨_, _, ResV.one rfl rfl, Cv.p, k⟩
theorem l16Has_s {v : Value} {rs : List Rule} {q : Rule} (h1 : Rs G L ruleT v rs) (k : R (.bool (hasR rs q)) G L) : CallT Tryz.prog 71 #[v, vrule q] G L R := by
 refine CallT.bd h1 fun hb => ?_
 refine CallT.enter (args := _) Tryz.func71 rfl rfl (by kernel_rfl) rfl ?_
 refine WP.seq (WP.region ?_)
 refine RG.ot rfl (OT.box (cs := ruleT.enc q) rfl rfl rfl fun b3 => ?_)
 refine RG.br rfl rfl rfl (RG.nil (WP.seq (WP.seq (WP.region (RG.mr rfl rfl rfl (RG.nil (WP.block ?_)))))))
 refine WP.loop1 [0, 3] (fun i => i ≤ rs.length ∧ ∀ j, j < i → ¬ q = gd rs j) (fun i => [(5, vi i)]) (fun i => blk b3 53 (ruleT.enc q) :: L) (fun i => rs.length - i) 0 ⟨by omega, fun j h => by omega⟩ ⟨rfl, trivial⟩ Cv.p ?_
 rintro i τ ⟨hi, hj⟩
 refine WP.seq (WP.seq (WP.region (RG.ml rfl rfl rfl (RG.pv rfl (PV.move (v := v) rfl rfl) (RG.pv rfl (PV.len (v := v) rfl Tryz.underlying37 rfl (SlF.r h1)) (RG.pv rfl (PV.lss rfl rfl rfl) (RG.nil ?_)))))))
 refine WP.cond rfl (fun h2 => ?_) (fun h2 => ?_)
 · have h2 := of_decide_eq_true h2
   refine WP.skip (WP.seq (WP.block (WP.seq ?_)))
   refine WP.regionQ (by kernel_rfl) (by kernel_rfl) ?_
   refine RQ.pv rfl (PV.move (v := v) rfl rfl) ?_
   refine RQ.pv rfl (PV.mvI (.inl rfl) rfl) ?_
   refine RQ.pv rfl (PV.idxS (v := v) rfl Is37 rfl (SlF.r h1) rfl rfl (by omega)) ?_
   refine RQ.pv rfl (PV.loadE rfl Ag53 rfl rfl (El.r h1 (getG (by omega)))) ?_
   refine RQ.pv rfl (PV.loadW rfl Ag53 rfl rfl) ?_
   refine RQ.pv rfl (PV.eqlT rfl Eq53 rfl rfl) ?_
   refine RQ.nil ?_
   refine WP.cond rfl (fun h3 => ?_) (fun h3 => ?_)
   · have e : hasR rs q = true := List.any_eq_true.2 ⟨gd rs i, by rw [gd_eq (by omega)]; exact List.getElem_mem _, by rw [decide_eq_true_iff]; exact (of_decide_eq_true h3).symm⟩
     rw [e] at k
     refine WP.seq (WP.region (RG.br rfl rfl rfl (RG.nil ?_)))
     refine WP.ret ?_
     exact ⟨_, _, ResV.one rfl rfl, Cv.p, k⟩
   · have hj' : ∀ j, j < i + 1 → ¬ q = gd rs j := fun j h => by
       by_cases c : j = i
       · rw [c]; exact fun e => (of_decide_eq_false h3) e.symm
       · exact hj j (by omega)
     refine WP.skip (WP.region (RG.ml rfl rfl rfl (RG.pv rfl (PV.add rfl rfl rfl (by omega)) (RG.mr rfl rfl rfl (RG.nil ?_)))))
     exact ⟨rfl, i + 1, ⟨by omega, hj'⟩, ⟨rfl, trivial⟩, ⟨rfl, rfl, trivial⟩, Cv.p, by omega⟩
 · have h2 := of_decide_eq_false h2
   have e : hasR rs q = false := by
     rw [hasR, List.any_eq_false]
     intro r hr
     obtain ⟨j, hj2, rfl⟩ := List.getElem_of_mem hr
     have := hj j (by omega)
     rw [gd_eq hj2] at this
     simpa using this
   rw [e] at k
   refine WP.exit ?_
   refine WP.seq (WP.region (RG.br rfl rfl rfl (RG.nil ?_)))
   refine WP.ret ?_
   exact ⟨_, _, ResV.one rfl rfl, Cv.p, k⟩
theorem deck_r {d : Deck} (h1 : Rs G L ruleT d.rules.v d.rules.xs) (k : R (.bool (deckOk d.rules.xs)) G L) : CallT Tryz.prog 36 #[vT deckT d] G L R := by
 refine CallT.bd h1 fun hb => ?_
 refine CallT.enter (args := _) Tryz.func36 rfl rfl (by kernel_rfl) rfl ?_
 refine WP.seq (WP.region ?_)
 refine RG.ot rfl (OT.box (cs := deckT.enc d) rfl rfl rfl fun b1 => ?_)
 refine RG.br rfl rfl rfl (RG.nil (WP.seq (WP.seq (WP.region (RG.pv rfl (PV.field rfl Fo39_0 rfl) (RG.pv rfl (PV.load1 rfl Sc37 rfl (Rd.blk rfl)) (RG.pv rfl (PV.len rfl Tryz.underlying37 rfl (SlF.r h1)) ?_)))))))
 refine RG.pv rfl (PV.gtr rfl rfl rfl) (RG.nil ?_)
 refine WP.cond rfl (fun h0 => ?_) (fun h0 => ?_)
 · have h0 := of_decide_eq_true h0
   have e : deckOk d.rules.xs = false := by
     have : ¬ d.rules.xs.length ≤ 12 := by omega
     simp [deckOk, this]
   rw [e] at k
   refine WP.seq (WP.region (RG.br rfl rfl rfl (RG.nil ?_)))
   refine WP.ret ?_
   exact ⟨_, _, ResV.one rfl rfl, Cv.p, k⟩
 · have h0 := of_decide_eq_false h0
   refine WP.skip (WP.seq (WP.seq (WP.region (RG.mr rfl rfl rfl (RG.nil (WP.block ?_))))))
   refine WP.loop1 [1] (fun i => i ≤ d.rules.xs.length ∧ ∀ j, j < i → deckAt d.rules.xs j = true) (fun i => [(3, vi i)]) (fun i => blk b1 39 (deckT.enc d) :: L) (fun i => d.rules.xs.length - i) 0 ⟨by omega, fun j h => by omega⟩ ⟨rfl, trivial⟩ Cv.p ?_
   rintro i τ ⟨hi, hj⟩
   refine WP.seq (WP.seq (WP.region (RG.ml rfl rfl rfl (RG.pv rfl (PV.field rfl Fo39_0 rfl) (RG.pv rfl (PV.load1 rfl Sc37 rfl (Rd.blk rfl)) (RG.pv rfl (PV.len rfl Tryz.underlying37 rfl (SlF.r h1)) (RG.pv rfl (PV.lss rfl rfl rfl) ?_)))))))
   refine RG.nil ?_
   refine WP.cond rfl (fun h2 => ?_) (fun h2 => ?_)
   · have h2 := of_decide_eq_true h2
     have h3 : i < d.rules.xs.length := by omega
     refine WP.skip (WP.seq (WP.block (WP.seq ?_)))
     refine WP.regionQ (by kernel_rfl) (by kernel_rfl) ?_
     refine RQ.pv rfl (PV.field rfl Fo39_0 rfl) ?_
     refine RQ.pv rfl (PV.load1 rfl Sc37 rfl (Rd.blk rfl)) ?_
     refine RQ.pv rfl (PV.mvI (.inl rfl) rfl) ?_
     refine RQ.pv rfl (PV.idxS rfl Is37 rfl (SlF.r h1) rfl rfl (by omega)) ?_
     refine RQ.pv rfl (PV.loadE rfl Ag53 rfl rfl (El.r h1 (getG (by omega)))) ?_
     refine RQ.callF (vs := [_]) rfl rfl En49 rfl (validRule_s ⟨rfl, rfl, rfl⟩) ?_
     refine RQ.pv rfl (PV.not rfl rfl) ?_
     refine RQ.pv rfl (PV.mvB (.inl rfl) rfl) ?_
     refine RQ.gs rfl rfl rfl (fun hp => (PV.field rfl Fo39_0 rfl)) ?_
     refine RQ.gs rfl rfl rfl (fun hp => (PV.load1 rfl Sc37 (gs_t hp) (Rd.blk rfl))) ?_
     refine RQ.gs rfl rfl rfl (fun hp => (PV.mvI (.inl rfl) rfl)) ?_
     refine RQ.gs rfl rfl rfl (fun hp => (PV.slc rfl Is37 (gs_t hp) (SlF.r h1) optAt.n (optAt.s (gs_t hp) rfl) (by first | omega | (simp at hp; omega)) (by first | omega | (simp at hp; omega)))) ?_
     refine RQ.gs rfl rfl rfl (fun hp => (PV.field rfl Fo39_0 rfl)) ?_
     refine RQ.gs rfl rfl rfl (fun hp => (PV.load1 rfl Sc37 (gs_t hp) (Rd.blk rfl))) ?_
     refine RQ.gs rfl rfl rfl (fun hp => (PV.mvI (.inl rfl) rfl)) ?_
     refine RQ.gs rfl rfl rfl (fun hp => (PV.idxS rfl Is37 (gs_t hp) (SlF.r h1) (gs_t hp) rfl (by first | omega | (simp at hp; omega)))) ?_
     refine RQ.gs rfl rfl rfl (fun hp => (PV.loadE rfl Ag53 (gs_t hp) rfl (El.r h1 (getG (by first | omega | (simp at hp; omega)))))) ?_
     refine RQ.gsC rfl rfl rfl rfl En71 (fun hp => ⟨_, (acons (gs_t hp) (acons (gs_t hp) anil)), l16Has_s (rs := d.rules.xs.take i) (by have := Rs.slv h1 (lo := 0) (hi := i) (by omega) (by omega); rw [List.drop_zero] at this; exact this.up) ⟨rfl, rfl, rfl⟩⟩) ?_
     refine RQ.pv rfl (PV.pickO rfl rfl rfl (fun hq => gs_t (geqF hq))) ?_
     refine RQ.nil ?_
     refine WP.cond rfl (fun h4 => ?_) (fun h4 => ?_)
     · have e : deckAt d.rules.xs i = false := by
         revert h4; unfold deckAt
         cases validRule (gd d.rules.xs i) <;> cases hasR (d.rules.xs.take i) (gd d.rules.xs i) <;> simp
       rw [deck_false h3 e] at k
       refine WP.seq (WP.region (RG.br rfl rfl rfl (RG.nil ?_)))
       refine WP.ret ?_
       exact ⟨_, _, ResV.one rfl rfl, Cv.p, k⟩
     · have e : deckAt d.rules.xs i = true := by
         revert h4; unfold deckAt
         cases validRule (gd d.rules.xs i) <;> cases hasR (d.rules.xs.take i) (gd d.rules.xs i) <;> simp
       have hj' : ∀ j, j < i + 1 → deckAt d.rules.xs j = true := fun j h => by
         by_cases c : j = i
         · rw [c]; exact e
         · exact hj j (by omega)
       refine WP.skip (WP.region (RG.ml rfl rfl rfl (RG.pv rfl (PV.add rfl rfl rfl (by omega)) (RG.mr rfl rfl rfl (RG.nil ?_)))))
       exact ⟨rfl, i + 1, ⟨by omega, hj'⟩, ⟨rfl, trivial⟩, ⟨rfl, trivial⟩, Cv.p, by omega⟩
   · have h2 := of_decide_eq_false h2
     have e : deckOk d.rules.xs = true := by
       rw [deck_all (fun i h => hj i (by omega)), decide_eq_true_iff]; omega
     rw [e] at k
     refine WP.exit ?_
     refine WP.seq (WP.region (RG.br rfl rfl rfl (RG.nil ?_)))
     refine WP.ret ?_
     exact ⟨_, _, ResV.one rfl rfl, Cv.p, k⟩
theorem szRuleS_s {v : Value} {xs : List Rule} {n : Int} (h1 : Rs G L ruleT v xs) (hn : n ≤ 1048576) (h0 : 0 ≤ n) (k : ∀ r : Int, r ≤ n → (0 ≤ r → r = n - xs.length) → R (vi r) G L) : CallT Tryz.prog 34 #[v, vi n] G L R := by
 refine CallT.bd h1 fun hb => ?_
 refine CallT.enter (args := _) Tryz.func34 rfl rfl (by kernel_rfl) rfl ?_
 refine WP.seq (WP.region (RG.mr rfl rfl rfl (RG.nil (WP.seq (WP.region (RG.ml rfl rfl rfl (RG.pv rfl (PV.move (v := v) rfl rfl) ?_)))))))
 refine RG.pv rfl (PV.len (v := v) rfl Tryz.underlying25 rfl (SlF.r h1)) (RG.pv rfl (PV.sub rfl rfl rfl (by omega)) (RG.mr rfl rfl rfl (RG.nil (WP.seq (WP.seq (WP.region (RG.ml rfl rfl rfl ?_)))))))
 refine RG.pv rfl (PV.lss rfl rfl rfl) (RG.nil ?_)
 refine WP.cond rfl (fun h2 => ?_) (fun h2 => ?_)
 · refine WP.seq ?_
   refine WP.region (RG.mr rfl rfl rfl (RG.nil ?_))
   refine WP.ret ?_
   exact ⟨_, _, ResV.one rfl rfl, Cv.p, k _ (by omega) (fun h => by omega)⟩
 · refine WP.skip ?_
   refine WP.seq (WP.region (RG.ml rfl rfl rfl (RG.mr rfl rfl rfl (RG.nil ?_))))
   refine WP.ret ?_
   exact ⟨_, _, ResV.one rfl rfl, Cv.p, k _ (by omega) (fun h => by omega)⟩
theorem toRuleS_s {v : Value} {xs : List Rule} (h1 : Rs G L ruleT v xs) (hb : xs.length ≤ 1048576) (k : ∀ v', R v' G (osl 53 ruleT v' xs :: L)) : CallT Tryz.prog 40 #[v] G L R := by
 refine CallT.enter (args := _) Tryz.func40 rfl rfl (by kernel_rfl) rfl ?_
 refine WP.seq (WP.region (RG.pv rfl (PV.asg rfl rfl) (RG.nil (WP.seq (WP.region (RG.pv rfl (PV.move (v := v) rfl rfl) (RG.pv rfl (PV.len (v := v) rfl Tryz.underlying25 rfl (SlF.r h1)) ?_)))))))
 refine RG.ot rfl (OT.make (F := ruleT) (a0 := default) rfl El37 rfl (by decide) rfl rfl (by omega) (by omega) fun v7 => ?_)
 refine RG.pv rfl (PV.asg (v := v7) rfl rfl) (RG.nil (WP.seq (WP.seq (WP.region (RG.mr rfl rfl rfl (RG.nil (WP.block ?_)))))))
 refine WP.loop2 [0, 3] (fun i ys => i ≤ xs.length ∧ ys.length = xs.length ∧ ∀ j, j < i → ys[j]? = xs[j]?) (fun i ys => [(4, vi i)]) (fun i ys => osl 53 ruleT v7 ys :: L) (fun i ys => xs.length - i) 0 (List.replicate xs.length default) ⟨by omega, by simp, fun j h => by omega⟩ ⟨rfl, trivial⟩ Cv.p ?_
 rintro i ys τ ⟨hi, hl, he⟩
 refine WP.seq (WP.seq (WP.region (RG.ml rfl rfl rfl (RG.pv rfl (PV.move (v := v) rfl rfl) (RG.pv rfl (PV.len (v := v) rfl Tryz.underlying25 rfl (SlF.r h1)) (RG.pv rfl (PV.lss rfl rfl rfl) (RG.nil ?_)))))))
 refine WP.cond rfl (fun h2 => ?_) (fun h2 => ?_)
 · have h2 := of_decide_eq_true h2
   refine WP.skip (WP.seq (WP.block (WP.region (RG.pv rfl (PV.move (v := v7) rfl rfl) (RG.ml rfl rfl rfl (RG.pv rfl (PV.move (v := v) rfl rfl) (RG.ml rfl rfl rfl ?_)))))))
   refine RG.pv rfl (PV.idxS (v := v) rfl Is25 rfl (SlF.r h1) rfl rfl (by omega)) (RG.pv rfl (PV.loadE rfl Ag49 rfl rfl (El.r h1 (getG (by omega)))) ?_)
   refine RG.callF (vs := [_]) rfl rfl En21 rfl (toRule_s ?_)
   refine RG.pv rfl (PV.idxS (v := v7) rfl Is37 rfl SlF.o rfl rfl (by omega)) ?_
   refine RG.ot rfl (OT.storeE (F := ruleT) rfl Sz53 rfl rfl rfl (Cl.c rfl) (OneC.c rfl) (by omega) ?_)
   refine RG.nil (WP.region (RG.ml rfl rfl rfl (RG.pv rfl (PV.add rfl rfl rfl (by omega)) (RG.mr rfl rfl rfl (RG.nil ?_)))))
   exact ⟨rfl, i + 1, _, ⟨by omega, by simpa using hl, set_pre he (getG (by omega)) hl⟩, ⟨rfl, trivial⟩, ⟨rfl, rfl, trivial⟩, Cv.p, by omega⟩
 · have h2 := of_decide_eq_false h2
   obtain rfl := pre_eq he hl (by omega)
   refine WP.exit ?_
   refine WP.seq (WP.region (RG.pv rfl (PV.move (v := v7) rfl rfl) (RG.pv rfl (PV.asg (v := v7) rfl rfl) (RG.nil ?_))))
   refine WP.ret ?_
   exact ⟨_, _, ResV.one rfl rfl, Cv.p, k v7⟩
theorem eqRule_s {a b : Rule} (k : R (.bool (decide (a = b))) G L) : CallT Tryz.prog 84 #[vT ruleT a, vT ruleT b] G L R := by
 refine CallT.enter (args := _) Tryz.func84 rfl rfl (by kernel_rfl) rfl ?_
 refine WP.seq (WP.region ?_)
 refine RG.ot rfl (OT.box (cs := ruleT.enc a) rfl rfl rfl fun b2 => ?_)
 refine RG.ot rfl (OT.box (cs := ruleT.enc b) rfl rfl rfl fun b3 => ?_)
 refine RG.br rfl rfl rfl (RG.nil (WP.seq (WP.seq (WP.region (RG.pv rfl (PV.field rfl Fo53_0 rfl) (RG.pv rfl (PV.load1 rfl Sc2 rfl (Rd.blk rfl)) (RG.pv rfl (PV.field rfl Fo53_0 rfl) ?_)))))))
 refine RG.pv rfl (PV.load1 rfl Sc2 rfl (Rd.blk rfl)) (RG.pv rfl (PV.neq rfl rfl rfl) (RG.nil ?_))
 refine WP.cond rfl (fun h1 => ?_) (fun h1 => ?_)
 · have e : decide (a = b) = false := by rw [decide_eq_false_iff_not]; rintro rfl; simp at h1
   rw [e] at k
   refine WP.seq (WP.region (RG.br rfl rfl rfl (RG.nil ?_)))
   refine WP.ret ?_
   exact ⟨_, _, ResV.one rfl rfl, Cv.p, k⟩
 · refine WP.skip ?_
   refine WP.seq (WP.seq (WP.region (RG.pv rfl (PV.field rfl Fo53_1 rfl) (RG.pv rfl (PV.load1 rfl Sc2 rfl (Rd.blk rfl)) (RG.pv rfl (PV.field rfl Fo53_1 rfl) (RG.pv rfl (PV.load1 rfl Sc2 rfl (Rd.blk rfl)) (RG.pv rfl (PV.neq rfl rfl rfl) ?_)))))))
   refine RG.nil ?_
   refine WP.cond rfl (fun h2 => ?_) (fun h2 => ?_)
   · have e : decide (a = b) = false := by rw [decide_eq_false_iff_not]; rintro rfl; simp at h2
     rw [e] at k
     refine WP.seq (WP.region (RG.br rfl rfl rfl (RG.nil ?_)))
     refine WP.ret ?_
     exact ⟨_, _, ResV.one rfl rfl, Cv.p, k⟩
   · refine WP.skip ?_
     refine WP.seq (WP.seq (WP.region (RG.pv rfl (PV.field rfl Fo53_2 rfl) (RG.pv rfl (PV.load1 rfl Sc2 rfl (Rd.blk rfl)) (RG.pv rfl (PV.field rfl Fo53_2 rfl) (RG.pv rfl (PV.load1 rfl Sc2 rfl (Rd.blk rfl)) (RG.pv rfl (PV.neq rfl rfl rfl) ?_)))))))
     refine RG.nil ?_
     refine WP.cond rfl (fun h3 => ?_) (fun h3 => ?_)
     · have e : decide (a = b) = false := by rw [decide_eq_false_iff_not]; rintro rfl; simp at h3
       rw [e] at k
       refine WP.seq (WP.region (RG.br rfl rfl rfl (RG.nil ?_)))
       refine WP.ret ?_
       exact ⟨_, _, ResV.one rfl rfl, Cv.p, k⟩
     · refine WP.skip ?_
       refine WP.seq (WP.seq (WP.region (RG.pv rfl (PV.field rfl Fo53_3 rfl) (RG.pv rfl (PV.load1 rfl Sc2 rfl (Rd.blk rfl)) (RG.pv rfl (PV.field rfl Fo53_3 rfl) (RG.pv rfl (PV.load1 rfl Sc2 rfl (Rd.blk rfl)) (RG.pv rfl (PV.neq rfl rfl rfl) ?_)))))))
       refine RG.nil ?_
       refine WP.cond rfl (fun h4 => ?_) (fun h4 => ?_)
       · have e : decide (a = b) = false := by rw [decide_eq_false_iff_not]; rintro rfl; simp at h4
         rw [e] at k
         refine WP.seq (WP.region (RG.br rfl rfl rfl (RG.nil ?_)))
         refine WP.ret ?_
         exact ⟨_, _, ResV.one rfl rfl, Cv.p, k⟩
       · refine WP.skip ?_
         refine WP.seq (WP.seq (WP.region (RG.pv rfl (PV.field rfl Fo53_4 rfl) (RG.pv rfl (PV.load1 rfl Sc2 rfl (Rd.blk rfl)) (RG.pv rfl (PV.field rfl Fo53_4 rfl) (RG.pv rfl (PV.load1 rfl Sc2 rfl (Rd.blk rfl)) (RG.pv rfl (PV.neq rfl rfl rfl) ?_)))))))
         refine RG.nil ?_
         refine WP.cond rfl (fun h5 => ?_) (fun h5 => ?_)
         · have e : decide (a = b) = false := by rw [decide_eq_false_iff_not]; rintro rfl; simp at h5
           rw [e] at k
           refine WP.seq (WP.region (RG.br rfl rfl rfl (RG.nil ?_)))
           refine WP.ret ?_
           exact ⟨_, _, ResV.one rfl rfl, Cv.p, k⟩
         · have e : decide (a = b) = true := by
             obtain ⟨a1, a2, a3, a4, a5⟩ := a; obtain ⟨b1, b2, b3, b4, b5⟩ := b
             simp at h1 h2 h3 h4 h5 ⊢; exact ⟨h1, h2, h3, h4, h5⟩
           rw [e] at k
           refine WP.skip (WP.seq (WP.region (RG.br rfl rfl rfl (RG.nil ?_))))
           refine WP.ret ?_
           exact ⟨_, _, ResV.one rfl rfl, Cv.p, k⟩
theorem eqRuleS_s {v u : Value} {xs ys : List Rule} (h1 : Rs G L ruleT v xs) (h2 : Rs G L ruleT u ys) (k : R (.bool (decide (xs = ys))) G L) : CallT Tryz.prog 46 #[v, u] G L R := by
 refine CallT.bd h1 fun hb => ?_
 refine CallT.bd h2 fun hb' => ?_
 refine CallT.enter (args := _) Tryz.func46 rfl rfl (by kernel_rfl) rfl ?_
 refine WP.seq (WP.region (RG.br rfl rfl rfl (RG.nil (WP.seq (WP.seq (WP.region (RG.pv rfl (PV.move (v := v) rfl rfl) ?_)))))))
 refine RG.pv rfl (PV.len (v := v) rfl Tryz.underlying37 rfl (SlF.r h1)) (RG.pv rfl (PV.move (v := u) rfl rfl) (RG.pv rfl (PV.len (v := u) rfl Tryz.underlying37 rfl (SlF.r h2)) (RG.pv rfl (PV.neq rfl rfl rfl) (RG.nil ?_))))
 refine WP.cond rfl (fun h3 => ?_) (fun h3 => ?_)
 · have e : decide (xs = ys) = false := by
     rw [decide_eq_false_iff_not]; rintro rfl; simp at h3
   rw [e] at k
   refine WP.seq (WP.region (RG.br rfl rfl rfl (RG.nil ?_)))
   refine WP.ret ?_
   exact ⟨_, _, ResV.one rfl rfl, Cv.p, k⟩
 · have hl : xs.length = ys.length := by simp at h3; omega
   refine WP.skip (WP.seq (WP.seq (WP.region (RG.mr rfl rfl rfl (RG.nil (WP.block ?_))))))
   refine WP.loop1 [0, 1] (fun i => i ≤ xs.length ∧ ∀ j, j < i → xs[j]? = ys[j]?) (fun i => [(5, vi i)]) (fun i => L) (fun i => xs.length - i) 0 ⟨by omega, fun j h => by omega⟩ ⟨rfl, trivial⟩ Cv.p ?_
   rintro i τ ⟨hi, he⟩
   refine WP.seq (WP.seq (WP.region (RG.ml rfl rfl rfl (RG.pv rfl (PV.move (v := v) rfl rfl) (RG.pv rfl (PV.len (v := v) rfl Tryz.underlying37 rfl (SlF.r h1)) (RG.pv rfl (PV.lss rfl rfl rfl) (RG.nil ?_)))))))
   refine WP.cond rfl (fun h4 => ?_) (fun h4 => ?_)
   · have h4 := of_decide_eq_true h4
     have h5 : i < xs.length := by omega
     refine WP.skip (WP.seq (WP.block (WP.seq ?_)))
     refine WP.regionQ (by kernel_rfl) (by kernel_rfl) ?_
     refine RQ.pv rfl (PV.move (v := v) rfl rfl) ?_
     refine RQ.pv rfl (PV.mvI (.inl rfl) rfl) ?_
     refine RQ.pv rfl (PV.idxS (v := v) rfl Is37 rfl (SlF.r h1) rfl rfl (by omega)) ?_
     refine RQ.pv rfl (PV.loadE rfl Ag53 rfl rfl (El.r h1 (getG (by omega)))) ?_
     refine RQ.pv rfl (PV.move (v := u) rfl rfl) ?_
     refine RQ.pv rfl (PV.mvI (.inl rfl) rfl) ?_
     refine RQ.pv rfl (PV.idxS (v := u) rfl Is37 rfl (SlF.r h2) rfl rfl (by omega)) ?_
     refine RQ.pv rfl (PV.loadE rfl Ag53 rfl rfl (El.r h2 (getG (by omega)))) ?_
     refine RQ.callF (vs := [_, _]) rfl rfl En84 rfl (eqRule_s ⟨rfl, rfl, rfl⟩) ?_
     refine RQ.pv rfl (PV.not rfl rfl) ?_
     refine RQ.nil ?_
     refine WP.cond rfl (fun h6 => ?_) (fun h6 => ?_)
     · have e : decide (xs = ys) = false := by
         rw [decide_eq_false_iff_not]; rintro rfl; simp at h6
       rw [e] at k
       refine WP.seq (WP.region (RG.br rfl rfl rfl (RG.nil ?_)))
       refine WP.ret ?_
       exact ⟨_, _, ResV.one rfl rfl, Cv.p, k⟩
     · have e : gd xs i = gd ys i := by simpa using h6
       have he' : ∀ j, j < i + 1 → xs[j]? = ys[j]? := fun j h => by
         by_cases c : j = i
         · rw [c, getG h5, getG (show i < ys.length by omega), e]
         · exact he j (by omega)
       refine WP.skip (WP.region (RG.ml rfl rfl rfl (RG.pv rfl (PV.add rfl rfl rfl (by omega)) (RG.mr rfl rfl rfl (RG.nil ?_)))))
       exact ⟨rfl, i + 1, ⟨by omega, he'⟩, ⟨rfl, trivial⟩, ⟨rfl, rfl, trivial⟩, Cv.p, by omega⟩
   · have h4 := of_decide_eq_false h4
     have e : decide (xs = ys) = true := by
       rw [decide_eq_true_iff]; exact pre_eq he hl (by omega)
     rw [e] at k
     refine WP.exit ?_
     refine WP.seq (WP.region (RG.br rfl rfl rfl (RG.nil ?_)))
     refine WP.ret ?_
     exact ⟨_, _, ResV.one rfl rfl, Cv.p, k⟩
def mkRu (_ : Rule) (k : Int) : Rule := ⟨k, k + 1, k + 1 + 1, k + 1 + 1 + 1, k + 1 + 1 + 1 + 1⟩
def nRu (_ : Rule) : Int := 5
theorem nRu_cost (xs : List Rule) : costL nRu xs = 5 * xs.length := costL_const 5 xs
theorem mkRu_at {xs : List Rule} {i : Nat} {k0 kk : Int} (h : i < xs.length) (e : kk = k0 + 5 * i) : mkRu (gd xs i) (k0 + costL nRu (xs.take i)) = ⟨kk, kk + 1, kk + 1 + 1, kk + 1 + 1 + 1, kk + 1 + 1 + 1 + 1⟩ := by
 rw [mkRu, nRu_cost, List.length_take, Nat.min_eq_left (by omega), e]
theorem markRuleS_s {v : Value} {xs : List Rule} {k0 : Int} (hk : 0 ≤ k0) (hb : k0 + costL nRu xs ≤ 4611686018427387904) (k : R (vi (k0 + costL nRu xs)) G (osl 53 ruleT v (markL mkRu nRu xs k0) :: L)) : CallT Tryz.prog 48 #[v, vi k0] G (osl 53 ruleT v xs :: L) R := by
 have hc := nRu_cost xs
 refine CallT.cv (Cv.eqS (markTo_zero (mk := mkRu) (n := nRu) (k := k0)).symm) ?_
 refine CallT.enter (args := _) Tryz.func48 rfl rfl (by kernel_rfl) rfl ?_
 refine WP.seq (WP.region (RG.mr rfl rfl rfl (RG.nil (WP.seq (WP.seq (WP.region (RG.mr rfl rfl rfl ?_)))))))
 refine RG.nil (WP.block ?_)
 refine WP.loop2 [0] (fun (i : Nat) (kk : Int) => i ≤ xs.length ∧ kk = k0 + 5 * i) (fun (i : Nat) (kk : Int) => [(5, vi i), (1, vi kk)]) (fun (i : Nat) (kk : Int) => osl 53 ruleT v (markTo mkRu nRu xs k0 i) :: L) (fun (i : Nat) (kk : Int) => xs.length - i) 0 k0 ⟨by omega, by omega⟩ ⟨rfl, rfl, trivial⟩ Cv.p ?_
 rintro i kk τ ⟨hi, hkk⟩
 refine WP.seq (WP.seq (WP.region (RG.ml rfl rfl rfl (RG.pv rfl (PV.move (v := v) rfl rfl) (RG.pv rfl (PV.len (v := v) rfl Tryz.underlying37 rfl SlF.o) (RG.pv rfl (PV.lss rfl rfl rfl) (RG.nil ?_)))))))
 have hml := markTo_len (mk := mkRu) (n := nRu) (k := k0) hi
 refine WP.cond rfl (fun h1 => ?_) (fun h1 => ?_)
 · have h1 := of_decide_eq_true h1
   have h2 : i < xs.length := by omega
   refine WP.skip (WP.seq (WP.block (WP.seq (WP.region (RG.pv rfl (PV.move (v := v) rfl rfl) (RG.ml rfl rfl rfl (RG.ml rfl rfl rfl ?_)))))))
   refine RG.pv rfl (PV.idxS (v := v) rfl Is37 rfl SlF.o rfl rfl (by omega)) (RG.pv rfl (PV.field rfl Fo53_0 rfl) ?_)
   refine RG.ot rfl (OT.storeF (F := ruleT) (val := vi) (cv := fun u => [vi u]) (st := Rule.s0) rfl Sz2 rfl rfl rfl (Cl.c rfl) rfl (OneC.c rfl) (by exact set_self (by omega)) (by first | omega | (simp; omega)) rfl (fun _ _ => rfl) ?_)
   refine RG.nil (WP.seq (WP.region (RG.ml rfl rfl rfl (RG.pv rfl (PV.add rfl rfl rfl (by first | omega | (simp only [List.length_set]; omega))) (RG.mr rfl rfl rfl (RG.nil (WP.seq ?_)))))))
   refine WP.region (RG.pv rfl (PV.move (v := v) rfl rfl) (RG.ml rfl rfl rfl (RG.ml rfl rfl rfl (RG.pv rfl (PV.idxS (v := v) rfl Is37 rfl SlF.o rfl rfl (by first | omega | (simp only [List.length_set]; omega))) (RG.pv rfl (PV.field rfl Fo53_1 rfl) ?_)))))
   refine RG.ot rfl (OT.storeF (F := ruleT) (val := vi) (cv := fun u => [vi u]) (st := Rule.s1) rfl Sz2 rfl rfl rfl (Cl.c rfl) rfl (OneC.c rfl) (by rfl) (by first | omega | (simp; omega)) rfl (fun _ _ => rfl) ?_)
   refine RG.nil (WP.seq (WP.region (RG.ml rfl rfl rfl (RG.pv rfl (PV.add rfl rfl rfl (by first | omega | (simp only [List.length_set]; omega))) (RG.mr rfl rfl rfl (RG.nil (WP.seq ?_)))))))
   refine WP.region (RG.pv rfl (PV.move (v := v) rfl rfl) (RG.ml rfl rfl rfl (RG.ml rfl rfl rfl (RG.pv rfl (PV.idxS (v := v) rfl Is37 rfl SlF.o rfl rfl (by first | omega | (simp only [List.length_set]; omega))) (RG.pv rfl (PV.field rfl Fo53_2 rfl) ?_)))))
   refine RG.ot rfl (OT.storeF (F := ruleT) (val := vi) (cv := fun u => [vi u]) (st := Rule.s2) rfl Sz2 rfl rfl rfl (Cl.c rfl) rfl (OneC.c rfl) (by rfl) (by first | omega | (simp; omega)) rfl (fun _ _ => rfl) ?_)
   refine RG.nil (WP.seq (WP.region (RG.ml rfl rfl rfl (RG.pv rfl (PV.add rfl rfl rfl (by first | omega | (simp only [List.length_set]; omega))) (RG.mr rfl rfl rfl (RG.nil (WP.seq ?_)))))))
   refine WP.region (RG.pv rfl (PV.move (v := v) rfl rfl) (RG.ml rfl rfl rfl (RG.ml rfl rfl rfl (RG.pv rfl (PV.idxS (v := v) rfl Is37 rfl SlF.o rfl rfl (by first | omega | (simp only [List.length_set]; omega))) (RG.pv rfl (PV.field rfl Fo53_3 rfl) ?_)))))
   refine RG.ot rfl (OT.storeF (F := ruleT) (val := vi) (cv := fun u => [vi u]) (st := Rule.s3) rfl Sz2 rfl rfl rfl (Cl.c rfl) rfl (OneC.c rfl) (by rfl) (by first | omega | (simp; omega)) rfl (fun _ _ => rfl) ?_)
   refine RG.nil (WP.seq (WP.region (RG.ml rfl rfl rfl (RG.pv rfl (PV.add rfl rfl rfl (by first | omega | (simp only [List.length_set]; omega))) (RG.mr rfl rfl rfl (RG.nil (WP.seq ?_)))))))
   refine WP.region (RG.pv rfl (PV.move (v := v) rfl rfl) (RG.ml rfl rfl rfl (RG.ml rfl rfl rfl (RG.pv rfl (PV.idxS (v := v) rfl Is37 rfl SlF.o rfl rfl (by first | omega | (simp only [List.length_set]; omega))) (RG.pv rfl (PV.field rfl Fo53_4 rfl) ?_)))))
   refine RG.ot rfl (OT.storeF (F := ruleT) (val := vi) (cv := fun u => [vi u]) (st := Rule.s4) rfl Sz2 rfl rfl rfl (Cl.c rfl) rfl (OneC.c rfl) (by rfl) (by first | omega | (simp; omega)) rfl (fun _ _ => rfl) ?_)
   refine RG.nil (WP.region (RG.ml rfl rfl rfl (RG.pv rfl (PV.add rfl rfl rfl (by first | omega | (simp only [List.length_set]; omega))) (RG.mr rfl rfl rfl (RG.nil (WP.region (RG.ml rfl rfl rfl ?_)))))))
   refine RG.pv rfl (PV.add rfl rfl rfl (by first | omega | (simp only [List.length_set]; omega))) (RG.mr rfl rfl rfl (RG.nil ?_))
   exact ⟨rfl, i + 1, _, ⟨by omega, by omega⟩, ⟨rfl, rfl, trivial⟩, ⟨rfl, trivial⟩, (Cv.eqS (by rw [← markTo_set h2, mkRu_at h2 hkk])), by omega⟩
 · have h1 := of_decide_eq_false h1
   have e : kk = k0 + costL nRu xs := by omega
   rw [← e] at k
   refine WP.exit ?_
   refine WP.seq (WP.region (RG.ml rfl rfl rfl (RG.mr rfl rfl rfl (RG.nil ?_))))
   refine WP.ret ?_
   exact ⟨_, _, ResV.one rfl rfl, (Cv.eqS (markTo_all (by omega))), k⟩
theorem toDeck_s {d : Deck} (h1 : Rs G L ruleT d.rules.v d.rules.xs) (hb : d.rules.xs.length ≤ 1048576) (k : ∀ v', R (vT deckT ⟨⟨v', d.rules.xs⟩⟩) G (osl 53 ruleT v' d.rules.xs :: L)) : CallT Tryz.prog 11 #[vT deckT d] G L R := by
 refine CallT.enter (args := _) Tryz.func11 rfl rfl (by kernel_rfl) rfl ?_
 refine WP.seq (WP.region ?_)
 refine RG.ot rfl (OT.box (cs := deckT.enc d) rfl rfl rfl fun b1 => ?_)
 refine RG.ot rfl (OT.alloc rfl Zr39 fun b2 => ?_)
 refine RG.nil (WP.seq (WP.region ?_))
 refine RG.ot rfl (OT.alloc rfl Zr39 fun b3 => ?_)
 refine RG.nil (WP.seq (WP.region (RG.pv rfl (PV.field rfl Fo27_0 rfl) (RG.pv rfl (PV.load1 rfl Sc25 rfl (Rd.blk rfl)) ?_))))
 refine RG.callF (vs := [_]) rfl rfl En40 rfl (toRuleS_s (Rs.up h1) hb (fun v6 => ?_))
 refine RG.pv rfl (PV.field rfl Fo39_0 rfl) ?_
 refine RG.ot rfl (OT.storeB (v := v6) (vs := [_]) (cs' := [_]) rfl Sz37 rfl rfl (Cl.s (v := v6) SlF.o) rfl (OneC.sl SlF.o OneC.nil) rfl rfl ?_)
 refine RG.nil (WP.seq (WP.region (RG.pv rfl (PV.loadW rfl Ag39 rfl rfl) ?_)))
 refine RG.ot rfl (OT.storeW (vs := [_]) rfl Sz39 rfl rfl (Cl.c rfl) rfl rfl (OneC.sl SlF.o OneC.nil) ?_)
 refine RG.nil ?_
 refine WP.ret ?_
 exact ⟨_, _, ResV.one rfl (RV1.cell rfl Ag39 rfl), Cv.p, k v6⟩
theorem szDeck_s {d : Deck} {m : Int} (h1 : Rs G L ruleT d.rules.v d.rules.xs) (hn : m ≤ 1048576) (h0 : 0 ≤ m) (k : ∀ r : Int, r ≤ m → (0 ≤ r → r = m - d.rules.xs.length) → R (vi r) G L) : CallT Tryz.prog 8 #[vT deckT d, vi m] G L R := by
 refine CallT.enter (args := _) Tryz.func8 rfl rfl (by kernel_rfl) rfl ?_
 refine WP.seq (WP.region ?_)
 refine RG.ot rfl (OT.box (cs := deckT.enc d) rfl rfl rfl fun b2 => ?_)
 refine RG.mr rfl rfl rfl (RG.nil (WP.seq (WP.region (RG.pv rfl (PV.field rfl Fo27_0 rfl) (RG.pv rfl (PV.load1 rfl Sc25 rfl (Rd.blk rfl)) (RG.ml rfl rfl rfl ?_))))))
 refine RG.callF (vs := [_, _]) rfl rfl En34 rfl (szRuleS_s (Rs.up h1) (by omega) (by omega) (fun r hr hr' => ?_))
 refine RG.mr rfl rfl rfl (RG.nil (WP.seq (WP.seq (WP.region (RG.ml rfl rfl rfl (RG.pv rfl (PV.lss rfl rfl rfl) (RG.nil ?_)))))))
 refine WP.cond rfl (fun h2 => ?_) (fun h2 => ?_)
 · have h2 := of_decide_eq_true h2
   refine WP.seq (WP.region (RG.mr rfl rfl rfl (RG.nil ?_)))
   refine WP.ret ?_
   exact ⟨_, _, ResV.one rfl rfl, Cv.p, k _ (by omega) (fun h => by omega)⟩
 · refine WP.skip ?_
   refine WP.seq (WP.region (RG.ml rfl rfl rfl (RG.mr rfl rfl rfl (RG.nil ?_))))
   refine WP.ret ?_
   exact ⟨_, _, ResV.one rfl rfl, Cv.p, k _ (by omega) hr'⟩
theorem eqDeck_s {d e : Deck} (h1 : Rs G L ruleT d.rules.v d.rules.xs) (h2 : Rs G L ruleT e.rules.v e.rules.xs) (k : R (.bool (decide (d.rules.xs = e.rules.xs))) G L) : CallT Tryz.prog 15 #[vT deckT d, vT deckT e] G L R := by
 refine CallT.enter (args := _) Tryz.func15 rfl rfl (by kernel_rfl) rfl ?_
 refine WP.seq (WP.region ?_)
 refine RG.ot rfl (OT.box (cs := deckT.enc d) rfl rfl rfl fun b2 => ?_)
 refine RG.ot rfl (OT.box (cs := deckT.enc e) rfl rfl rfl fun b3 => ?_)
 refine RG.br rfl rfl rfl (RG.nil (WP.seq (WP.seq (WP.region (RG.pv rfl (PV.field rfl Fo39_0 rfl) (RG.pv rfl (PV.load1 rfl Sc37 rfl (Rd.blk rfl)) (RG.pv rfl (PV.field rfl Fo39_0 rfl) ?_)))))))
 refine RG.pv rfl (PV.load1 rfl Sc37 rfl (Rd.blk rfl)) ?_
 refine RG.callF (vs := [_, _]) rfl rfl En46 rfl (eqRuleS_s (Rs.up h1) (Rs.up h2) ?_)
 refine RG.pv rfl (PV.not rfl rfl) (RG.nil ?_)
 refine WP.cond rfl (fun h3 => ?_) (fun h3 => ?_)
 · have e : decide (d.rules.xs = e.rules.xs) = false := by simpa using h3
   rw [e] at k
   refine WP.seq (WP.region (RG.br rfl rfl rfl (RG.nil ?_)))
   refine WP.ret ?_
   exact ⟨_, _, ResV.one rfl rfl, Cv.p, k⟩
 · have e : decide (d.rules.xs = e.rules.xs) = true := by simpa using h3
   rw [e] at k
   refine WP.skip (WP.seq (WP.region (RG.br rfl rfl rfl (RG.nil ?_))))
   refine WP.ret ?_
   exact ⟨_, _, ResV.one rfl rfl, Cv.p, k⟩
end Go.Proofs.YtgphjofccckloaaGreat
namespace Go.Proofs.YtgphjofccckloaaGreat
set_option linter.unusedVariables false
set_option linter.unusedSimpArgs false
open Go
set_option maxRecDepth 20000
set_option linter.unusedSimpArgs false
section
variable {P : Program} {n : Nat} {ops : Array Oper} {Q : Post} {σ : Nat → Value} {G G0 : Gh} {L C0 : List Ch} {r : Sch} {oi : Oper}
theorem PV.any {P : Program} {o : Oper} {σ : Nat → Value} {G : Gh} {L : List Ch} {v : Value} (h : False) : PV P o σ G L v := h.elim
end
variable {G : Gh} {L : List Ch} {R : Value → Gh → List Ch → Prop}
end Go.Proofs.YtgphjofccckloaaGreat
namespace Go.Proofs.YtgphjofccckloaaGreat
set_option linter.unusedVariables false
set_option linter.unusedSimpArgs false
open Go
set_option maxRecDepth 20000
set_option linter.unusedSimpArgs false
variable {G : Gh} {L : List Ch} {R : Value → Gh → List Ch → Prop}
theorem markDeck_s {d : Deck} {k0 : Int} (hk : 0 ≤ k0) (hb : k0 + costL nRu d.rules.xs ≤ 4611686018427387904) (k : R (vi (k0 + costL nRu d.rules.xs)) G (osl 53 ruleT d.rules.v (markL mkRu nRu d.rules.xs k0) :: L)) :
   CallT Tryz.prog 17 #[vT deckT d, vi k0] G (osl 53 ruleT d.rules.v d.rules.xs :: L) R := by
 refine CallT.enter (args := _) Tryz.func17 rfl rfl (by kernel_rfl) rfl ?_
 refine WP.seq (WP.region ?_)
 refine RG.ot rfl (OT.box (cs := deckT.enc d) rfl rfl rfl fun b2 => ?_)
 refine RG.mr rfl rfl rfl (RG.nil (WP.seq (WP.region (RG.pv rfl (PV.field rfl Fo39_0 rfl) (RG.pv rfl (PV.load1 rfl Sc37 rfl (Rd.blk rfl)) (RG.ml rfl rfl rfl ?_))))))
 refine RG.callF (vs := [_, _]) rfl rfl En48 rfl (CallT.exS d.rules.v (markRuleS_s (v := d.rules.v) (by omega) (by omega) ?_))
 refine RG.mr rfl rfl rfl (RG.nil (WP.seq (WP.region (RG.ml rfl rfl rfl (RG.mr rfl rfl rfl (RG.nil ?_))))))
 refine WP.ret ?_
 exact ⟨_, _, ResV.one rfl rfl, Cv.p, k⟩
end Go.Proofs.YtgphjofccckloaaGreat
namespace Go.Proofs.YtgphjofccckloaaGreat
set_option linter.unusedVariables false
set_option linter.unusedSimpArgs false
open Go
set_option maxRecDepth 20000
set_option linter.unusedSimpArgs false
variable {G : Gh} {L : List Ch} {R : Value → Gh → List Ch → Prop}
theorem mks_app (xs ys : List Viol) : mks (xs ++ ys) = mks xs ++ mks ys := by simp [mks]
theorem erVs_app (xs ys : List Viol) : erVs (xs ++ ys) = erVs xs ++ erVs ys := by simp [erVs]
end Go.Proofs.YtgphjofccckloaaGreat
namespace Go.Proofs.YtgphjofccckloaaGreat
set_option linter.unusedVariables false
set_option linter.unusedSimpArgs false
open Go
set_option maxRecDepth 20000
set_option maxHeartbeats 2000000
set_option linter.unusedSimpArgs false
variable {G : Gh} {L : List Ch} {R : Value → Gh → List Ch → Prop}
theorem gd_apq {α : Type} [Inhabited α] (xs ys : List α) (m : Nat) : gd (xs ++ ys) (xs.length + m) = gd ys m := by
 unfold gd; rw [List.getElem?_append_right (by omega), Nat.add_sub_cancel_left]
/-- the violations of the first i rules -/
noncomputable def chkTo (l : List (List Rect)) (rs : List Rule) (i : Nat) : List (Int × List Rect) := (List.range i).flatMap fun j => (partsL (bits (rmE l (gd rs j)))).map fun p => ((j : Int), p)
theorem chkTo_succ (l : List (List Rect)) (rs : List Rule) (i : Nat) : chkTo l rs (i + 1) = chkTo l rs i ++ (partsL (bits (rmE l (gd rs i)))).map fun p => ((i : Int), p) := by
 rw [chkTo, chkTo, List.range_succ, List.flatMap_append]; simp
theorem check_s {v : Value} {ys : List (Sl Rect)} {d : Deck} (h1 : Rs G L slT v ys) (hd : RsE G L rectT ys) (h2 : Rs G L ruleT d.rules.v d.rules.xs) (hl : d.rules.xs.length ≤ 1000) (k : ∀ v' zs, erVs zs = chkTo (er ys) d.rules.xs d.rules.xs.length → R (.tuple #[v', .bool (decide ((zs.length : Int) ≤ 256))]) G (osl 118 violT v' zs :: bagS 91 rectT (mks zs) :: L)) : CallT Tryz.prog 38 #[v, vT deckT d] G L R := by
 refine CallT.enter (args := _) Tryz.func38 rfl rfl (by kernel_rfl) rfl ?_
 refine WP.seq (WP.region ?_)
 refine RG.ot rfl (OT.box (cs := deckT.enc d) rfl rfl rfl fun b3 => ?_)
 refine RG.pv rfl (PV.asg rfl rfl) (RG.br rfl rfl rfl (RG.nil (WP.seq (WP.region ?_))))
 refine RG.ot rfl (OT.bslice (F := violT) (els := []) rfl El61 rfl (by decide) rfl (by decide) trivial fun v10 => ?_)
 refine RG.pv rfl (PV.asg (v := v10) rfl rfl) (RG.nil (WP.seq (WP.seq (WP.region (RG.mr rfl rfl rfl (RG.nil (WP.block ?_)))))))
 refine WP.cv ((Cv.p (C := osl 118 violT v10 ([] : List Viol) :: blk b3 39 (deckT.enc d) :: L)).trans (Cv.cons (Cv.bag0 (e := 91) (F := rectT) (xs := mks []) rfl))) ?_
 refine WP.loop3 [0, 3] (fun (i : Nat) (out : List Viol) (q : Value) => i ≤ d.rules.xs.length ∧ out.length ≤ i * 6400 ∧ erVs out = chkTo (er ys) d.rules.xs i) (fun (i : Nat) (out : List Viol) (q : Value) => [(7, vi i), (6, q)]) (fun (i : Nat) (out : List Viol) (q : Value) => osl 118 violT q out :: bagS 91 rectT (mks out) :: blk b3 39 (deckT.enc d) :: L) (fun (i : Nat) (out : List Viol) (q : Value) => d.rules.xs.length - i) 0 [] v10 ⟨by omega, by simp, rfl⟩ ⟨rfl, rfl, trivial⟩ Cv.p ?_
 rintro i out q τ ⟨hi, hol, hev⟩
 refine WP.seq (WP.seq (WP.region (RG.ml rfl rfl rfl (RG.pv rfl (PV.field rfl Fo39_0 rfl) (RG.pv rfl (PV.load1 rfl Sc37 rfl (Rd.blk rfl)) (RG.pv rfl (PV.len rfl Tryz.underlying37 rfl (SlF.r h2)) (RG.pv rfl (PV.lss rfl rfl rfl) ?_)))))))
 refine RG.nil ?_
 refine WP.cond rfl (fun h3 => ?_) (fun h3 => ?_)
 · have h3 := of_decide_eq_true h3
   refine WP.skip (WP.seq (WP.block (WP.seq (WP.region (RG.pv rfl (PV.move (v := v) rfl rfl) (RG.pv rfl (PV.field rfl Fo39_0 rfl) (RG.pv rfl (PV.load1 rfl Sc37 rfl (Rd.blk rfl)) ?_)))))))
   refine RG.ml rfl rfl rfl (RG.pv rfl (PV.idxS rfl Is37 rfl (SlF.r h2) rfl rfl (by omega)) (RG.pv rfl (PV.loadE rfl Ag53 rfl rfl (El.r h2 (getG (by omega)))) ?_))
   refine RG.callF (vs := [v, _]) rfl rfl En50 rfl (rule_s (Rs.up h1) hd.up (fun v24 => ?_))
   refine RG.callF (vs := [v24]) rfl rfl En74 rfl (comps7_s Rs.o (isReg_valid (rmE_reg _ _)) (fun v25 psv25 hpv25 => ?_))
   refine RG.pv rfl (PV.asg (v := v25) rfl rfl) (RG.nil (WP.seq (WP.region (RG.mr rfl rfl rfl (RG.nil (WP.block ?_))))))
   have hpl : psv25.length ≤ 6400 := by have := congrArg List.length hpv25; rw [er_len] at this; rw [this, partsL, List.length_map]; exact comps_len _
   have hps : ∀ m, m < psv25.length → Rs G [bagS 91 rectT (mks out ++ psv25)] rectT (gd psv25 m).v (gd psv25 m).xs := fun m hm => by
     have := Rs.inBag (G := G) (L := [bagS 91 rectT (mks out ++ psv25)]) (L' := []) (e := 91) (F := rectT) (xs := mks out ++ psv25) ((mks out).length + m) (by simp; omega)
     rwa [gd_apq] at this
   refine WP.cv ((Cv.p (C := bagS 91 rectT (mks out) :: bagS 91 rectT psv25 :: osl 118 violT q out :: osl 50 slT v25 psv25 :: blk b3 39 (deckT.enc d) :: L)).trans Cv.bagJoin) ?_
   refine WP.loop3 [0, 3, 7, 8] (fun (m : Nat) (out2 : List Viol) (q2 : Value) => m ≤ psv25.length ∧ out2.length = out.length + m ∧ mks out2 ++ psv25.drop m = mks out ++ psv25 ∧ erVs out2 = erVs out ++ ((er psv25).take m).map (fun p => ((i : Int), p))) (fun (m : Nat) (out2 : List Viol) (q2 : Value) => [(9, vi m), (6, q2)]) (fun (m : Nat) (out2 : List Viol) (q2 : Value) => bagS 91 rectT (mks out ++ psv25) :: osl 118 violT q2 out2 :: osl 50 slT v25 psv25 :: blk b3 39 (deckT.enc d) :: L) (fun (m : Nat) (out2 : List Viol) (q2 : Value) => psv25.length - m) 0 out q ⟨by omega, by omega, rfl, by simp⟩ ⟨rfl, rfl, trivial⟩ Cv.p ?_
   rintro m out2 q2 τ1 ⟨hm, hol2, heq, hev2⟩
   refine WP.seq (WP.seq (WP.region (RG.ml rfl rfl rfl (RG.pv rfl (PV.move (v := v25) rfl rfl) (RG.pv rfl (PV.len (v := v25) rfl Tryz.underlying71 rfl SlF.o) (RG.pv rfl (PV.lss rfl rfl rfl) (RG.nil ?_)))))))
   refine WP.cond rfl (fun h4 => ?_) (fun h4 => ?_)
   · have h4 := of_decide_eq_true h4
     have h40 : m < psv25.length := by omega
     have hpm := hps m h40
     have heq' : mks (out2 ++ [⟨(i : Int), gd psv25 m⟩]) ++ psv25.drop (m + 1) = mks out ++ psv25 := by
       rw [mks_app, List.append_assoc, ← heq, List.drop_eq_getElem_cons h40, gd_eq h40]; rfl
     have hev3 : erVs (out2 ++ [⟨(i : Int), gd psv25 m⟩]) = erVs out ++ ((er psv25).take (m + 1)).map (fun p => ((i : Int), p)) := by
       rw [erVs_app, hev2, List.take_add_one, getG (by rw [er_len]; exact h40), er_gd, List.append_assoc, List.map_append]; rfl
     refine WP.skip (WP.seq (WP.block (WP.region (RG.pv rfl (PV.move (v := q2) rfl rfl) (RG.ml rfl rfl rfl (RG.pv rfl (PV.move (v := v25) rfl rfl) (RG.ml rfl rfl rfl ?_)))))))
     refine RG.pv rfl (PV.idxS (v := v25) rfl Is71 rfl SlF.o rfl rfl (by omega)) (RG.pv rfl (PV.loadE1 rfl Sc50 rfl rfl (El.o (getG (by omega))) rfl) (RG.pv rfl (PV.build (vs := [(0, [vi _]), (1, [_])]) (out := [_, _]) rfl Zr118 Pl118 ⟨rfl, (Cl.c rfl), ⟨rfl, (Cl.s (SlF.r hpm)), trivial⟩⟩ rfl) ?_))
     refine RG.ot rfl (OT.bslice (F := violT) (els := [⟨(i : Int), gd psv25 m⟩]) rfl El61 rfl (by decide) rfl (by decide) ⟨rfl, (Cl.c rfl), trivial⟩ fun v39 => ?_)
     refine RG.ot rfl (OT.append (v := q2) (u := v39) (F := violT) rfl El61 rfl (by decide) rfl rfl Rs.o (OneL.one (OneC.val rfl (OneC.sl (SlF.r hpm) OneC.nil))) rfl (by first | omega | (simp <;> omega)) fun v40 => ?_)
     refine RG.pv rfl (PV.asg (v := v40) rfl rfl) (RG.nil (WP.region (RG.ml rfl rfl rfl (RG.pv rfl (PV.add rfl rfl rfl (by omega)) (RG.mr rfl rfl rfl (RG.nil ?_))))))
     exact ⟨rfl, m + 1, (out2 ++ [⟨(i : Int), gd psv25 m⟩]), v40, ⟨by omega, by simp; omega, heq', hev3⟩, ⟨rfl, rfl, trivial⟩, ⟨rfl, rfl, rfl, rfl, trivial⟩, Cv.p, by omega⟩
   · have h4 := of_decide_eq_false h4
     obtain rfl : m = psv25.length := by omega
     rw [List.drop_length, List.append_nil] at heq
     rw [List.take_of_length_le (by rw [er_len]; omega), hpv25, hev, ← chkTo_succ] at hev2
     refine WP.exit ?_
     refine WP.region (RG.ml rfl rfl rfl (RG.pv rfl (PV.add rfl rfl rfl (by omega)) (RG.mr rfl rfl rfl (RG.nil ?_))))
     exact ⟨rfl, i + 1, out2, q2, ⟨by omega, by omega, hev2⟩, ⟨rfl, rfl, trivial⟩, ⟨rfl, rfl, trivial⟩, (by simp only [heq]; exact Cv.p), by omega⟩
 · have h3 := of_decide_eq_false h3
   obtain rfl : i = d.rules.xs.length := by omega
   refine WP.exit ?_
   refine WP.seq (WP.region (RG.pv rfl (PV.move (v := q) rfl rfl) (RG.pv rfl (PV.move (v := q) rfl rfl) (RG.pv rfl (PV.len (v := q) rfl Tryz.underlying61 rfl SlF.o) (RG.pv rfl (PV.leq rfl rfl rfl) (RG.pv rfl (PV.asg (v := q) rfl rfl) (RG.br rfl rfl rfl ?_)))))))
   refine RG.nil ?_
   refine WP.ret ?_
   exact ⟨_, _, ResV.two rfl rfl rfl, Cv.p, k q out hev⟩
noncomputable def chkL (l : List (List Rect)) (rs : List Rule) : List (Int × List Rect) := chkTo l rs rs.length
noncomputable def chkE (l : List (List Rect)) (rs : List Rule) : Int := if (isLay l && deckOk rs) = true then (if (chkL l rs).length ≤ 256 then 0 else 3) else 1
noncomputable def chkR (l : List (List Rect)) (rs : List Rule) : List (Int × List Rect) := if chkE l rs = 0 then chkL l rs else []
theorem chkE_no {l : List (List Rect)} {rs : List Rule} (h : (!isLay l || !deckOk rs) = true) : chkE l rs = 1 ∧ chkR l rs = [] := by
 have : chkE l rs = 1 := by rw [chkE, if_neg]; intro h2; cases c : isLay l <;> cases d : deckOk rs <;> simp_all
 exact ⟨this, by rw [chkR, this, if_neg (by decide)]⟩
theorem chkE_big {l : List (List Rect)} {rs : List Rule} (h : isLay l = true ∧ deckOk rs = true) (h2 : ¬ (chkL l rs).length ≤ 256) : chkE l rs = 3 ∧ chkR l rs = [] := by
 have : chkE l rs = 3 := by rw [chkE, if_pos (by rw [h.1, h.2]; rfl), if_neg h2]
 exact ⟨this, by rw [chkR, this, if_neg (by decide)]⟩
theorem chkE_ok {l : List (List Rect)} {rs : List Rule} (h : isLay l = true ∧ deckOk rs = true) (h2 : (chkL l rs).length ≤ 256) : chkE l rs = 0 ∧ chkR l rs = chkL l rs := by
 have : chkE l rs = 0 := by rw [chkE, if_pos (by rw [h.1, h.2]; rfl), if_pos h2]
 exact ⟨this, by rw [chkR, this, if_pos rfl]⟩
theorem Cv.nilV {M : List Ch} {e e' : TypeId} [p : PickC L M] : Cv M (osl e violT (.slice none 0 0) ([] : List Viol) :: bagS e' rectT (mks []) :: L) := (Cv.pick p.pick).trans ((Cv.bag0 (xs := mks []) rfl).trans Cv.nilS)
end Go.Proofs.YtgphjofccckloaaGreat
