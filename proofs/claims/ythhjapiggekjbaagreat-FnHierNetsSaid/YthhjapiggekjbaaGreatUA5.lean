/-
  Contracts of functions and plain facts that the last text of this folder uses, part 5.
-/
import Derived.Test.YthhjapiggekjbaaGreatUA4
namespace Go.Proofs.YthhjapiggekjbaaGreat
set_option linter.unusedVariables false
set_option linter.unusedSimpArgs false
open Go
set_option maxRecDepth 20000
set_option linter.unusedSimpArgs false
variable {G : Gh} {L : List Ch} {R : Value → Gh → List Ch → Prop}
/-- a transform that may have left its range -/
def TBig (t : Trans) : Prop := (0 ≤ t.o ∧ t.o ≤ 7) ∧ -100000 ≤ t.x ∧ t.x ≤ 100000 ∧ -100000 ≤ t.y ∧ t.y ≤ 100000
theorem moveBig_i {t : Trans} {p : Pt} (ht : TBig t) (hp : InB 1000 p) (k : R (vpt (moveP t p)) G L) : CallT Tryz.prog 135 #[vtrans t, vpt p] G L R := by
 obtain ⟨hq1, hq2, hq3, hq4⟩ : InB 1000 (turnP t.o p) := turnP_in hp
 obtain ⟨_, ht1, ht2, ht3, ht4⟩ := id ht
 refine CallT.enter (args := _) Tryz.func135 rfl rfl (by kernel_rfl) rfl ?_
 refine WP.seq (WP.region ?_)
 refine RG.ot rfl (OT.box (cs := transT.enc t) rfl rfl rfl fun b2 => ?_)
 refine RG.ot rfl (OT.box (cs := ptT.enc p) rfl rfl rfl fun b3 => ?_)
 refine RG.ot rfl (OT.alloc rfl Zr183 fun b4 => ?_)
 refine RG.nil (WP.seq (WP.region (RG.pv rfl (PV.field rfl Fo136_0 rfl) (RG.pv rfl (PV.load1 rfl Sc2 rfl (Rd.blk rfl)) (RG.pv rfl (PV.loadW rfl Ag183 rfl rfl) ?_)))))
 refine RG.callF (vs := [_, _]) rfl rfl En189 rfl (turn_s ht.1 hp ?_)
 refine RG.ot rfl (OT.storeW (vs := [vi _, vi _]) rfl Sz183 rfl rfl (Cl.c rfl) rfl rfl (OneC.c rfl) ?_)
 refine RG.nil (WP.seq (WP.region (RG.pv rfl (PV.field rfl Fo183_0 rfl) (RG.pv rfl (PV.load1 rfl Sc2 rfl (Rd.blk rfl)) (RG.pv rfl (PV.field rfl Fo136_1 rfl) (RG.pv rfl (PV.load1 rfl Sc2 rfl (Rd.blk rfl)) (RG.pv rfl (PV.add rfl rfl rfl (by omega)) ?_)))))))
 refine RG.pv rfl (PV.field rfl Fo183_1 rfl) (RG.pv rfl (PV.load1 rfl Sc2 rfl (Rd.blk rfl)) (RG.pv rfl (PV.field rfl Fo136_2 rfl) (RG.pv rfl (PV.load1 rfl Sc2 rfl (Rd.blk rfl)) (RG.pv rfl (PV.add rfl rfl rfl (by omega)) (RG.pv rfl (PV.build (vs := [(0, [vi _]), (1, [vi _])]) (out := [_, _]) rfl Zr183 Pl183 ⟨rfl, (Cl.c rfl), ⟨rfl, (Cl.c rfl), trivial⟩⟩ rfl) ?_)))))
 refine RG.ot rfl (OT.storeW (vs := [vi _, vi _]) rfl Sz183 rfl rfl (Cl.c rfl) rfl rfl (OneC.c rfl) ?_)
 refine RG.nil ?_
 refine WP.ret ?_
 exact ⟨_, _, ResV.one rfl (RV1.cell rfl Ag183 rfl), Cv.p, k⟩
theorem composed_i {a b : Int} (ha : 0 ≤ a ∧ a ≤ 7) (hb : 0 ≤ b ∧ b ≤ 7) (k : R (vi (cmpo a b)) G L) : CallT Tryz.prog 219 #[vi a, vi b] G L R := by
 refine CallT.enter (args := _) Tryz.func219 rfl rfl (by kernel_rfl) rfl ?_
 refine WP.seq (WP.region (RG.mr rfl rfl rfl (RG.nil (WP.seq (WP.region (RG.ml rfl rfl rfl (RG.pv rfl (PV.rem rfl rfl rfl (by omega) (by omega) (by omega)) ?_)))))))
 refine RG.ml rfl rfl rfl (RG.pv rfl (PV.rem rfl rfl rfl (by omega) (by omega) (by omega)) (RG.pv rfl (PV.add rfl rfl rfl (by omega)) (RG.mr rfl rfl rfl (RG.nil ?_))))
 refine WP.cut1 [0, 1] (fun (q : Int) => q = (if 4 ≤ b then b % 4 + 4 - a % 4 else b % 4 + a % 4)) (fun (q : Int) => [(5, vi q)]) (fun (q : Int) => L) ?_ ?_
 refine WP.seq (WP.region (RG.ml rfl rfl rfl (RG.pv rfl (PV.geq rfl rfl rfl) (RG.nil ?_))))
 refine WP.cond rfl (fun h1 => ?_) (fun h1 => ?_)
 · have h1 := of_decide_eq_true h1
   refine WP.region (RG.ml rfl rfl rfl (RG.pv rfl (PV.rem rfl rfl rfl (by omega) (by omega) (by omega)) (RG.pv rfl (PV.add rfl rfl rfl (by omega)) (RG.ml rfl rfl rfl (RG.pv rfl (PV.rem rfl rfl rfl (by omega) (by omega) (by omega)) (RG.pv rfl (PV.sub rfl rfl rfl (by omega)) (RG.mr rfl rfl rfl ?_)))))))
   refine RG.nil ?_
   exact ⟨rfl, (b % 4 + 4 - a % 4), (by rw [if_pos (by omega)]), ⟨rfl, trivial⟩, ⟨rfl, rfl, trivial⟩, Cv.p⟩
 · have h1 := of_decide_eq_false h1
   refine WP.skip ?_
   exact ⟨rfl, (b % 4 + a % 4), (by rw [if_neg (by omega)]), ⟨rfl, trivial⟩, ⟨rfl, rfl, trivial⟩, Cv.p⟩
 rintro q τ1 hq
 have hqb : 0 ≤ q ∧ q ≤ 20 := by rw [hq]; split <;> omega
 refine WP.seq (WP.region (RG.ml rfl rfl rfl (RG.pv rfl (PV.rem rfl rfl rfl (by omega) (by omega) (by omega)) (RG.mr rfl rfl rfl (RG.nil ?_)))))
 refine WP.cut1 [] (fun (z : Int) => z = cmpo a b) (fun (z : Int) => [(6, vi z)]) (fun (z : Int) => L) ?_ ?_
 refine WP.seq (WP.region (RG.ml rfl rfl rfl (RG.pv rfl (PV.geq rfl rfl rfl) (RG.ml rfl rfl rfl (RG.pv rfl (PV.geq rfl rfl rfl) (RG.pv rfl (PV.neqB rfl Tryz.underlying4 rfl rfl) (RG.nil ?_)))))))
 refine WP.cond rfl (fun h2 => ?_) (fun h2 => ?_)
 · refine WP.region ?_
   refine RG.ml rfl rfl rfl (RG.pv rfl (PV.add rfl rfl rfl (by omega)) (RG.mr rfl rfl rfl (RG.nil ?_)))
   exact ⟨rfl, (q % 4 + 4), (by rw [cmpo, ← hq, if_neg]; intro e; simp [e] at h2), ⟨rfl, trivial⟩, trivial, Cv.p⟩
 · refine WP.skip ?_
   exact ⟨rfl, (q % 4), (by rw [cmpo, ← hq, if_pos]; omega; simpa using h2), ⟨rfl, trivial⟩, trivial, Cv.p⟩
 rintro z τ2 hz
 refine WP.seq (WP.region (RG.ml rfl rfl rfl (RG.mr rfl rfl rfl (RG.nil ?_))))
 refine WP.ret ?_
 rw [← hz] at k
 exact ⟨_, _, ResV.one rfl rfl, Cv.p, k⟩
theorem pt_in {t : Trans} {b : Int} (h : (-b ≤ t.x ∧ t.x ≤ b) ∧ -b ≤ t.y ∧ t.y ≤ b) : InB b ⟨t.x, t.y⟩ := ⟨h.1.1, h.1.2, h.2.1, h.2.2⟩
theorem compose_i {t u : Trans} (ho : 0 ≤ t.o ∧ t.o ≤ 7) (ht : (-1000 ≤ t.x ∧ t.x ≤ 1000) ∧ -1000 ≤ t.y ∧ t.y ≤ 1000) (hu : TBig u) (k : R (vtrans (cmpT t u)) G L) : CallT Tryz.prog 188 #[vtrans t, vtrans u] G L R := by
 refine CallT.enter (args := _) Tryz.func188 rfl rfl (by kernel_rfl) rfl ?_
 refine WP.seq (WP.region ?_)
 refine RG.ot rfl (OT.box (cs := transT.enc t) rfl rfl rfl fun b2 => ?_)
 refine RG.ot rfl (OT.box (cs := transT.enc u) rfl rfl rfl fun b3 => ?_)
 refine RG.ot rfl (OT.alloc rfl Zr136 fun b4 => ?_)
 refine RG.nil (WP.seq (WP.region (RG.pv rfl (PV.loadW rfl Ag136 rfl rfl) (RG.pv rfl (PV.field rfl Fo136_1 rfl) (RG.pv rfl (PV.load1 rfl Sc2 rfl (Rd.blk rfl)) (RG.pv rfl (PV.field rfl Fo136_2 rfl) (RG.pv rfl (PV.load1 rfl Sc2 rfl (Rd.blk rfl)) ?_)))))))
 refine RG.pv rfl (PV.build (vs := [(0, [vi _]), (1, [vi _])]) (out := [_, _]) rfl Zr183 Pl183 ⟨rfl, (Cl.c rfl), ⟨rfl, (Cl.c rfl), trivial⟩⟩ rfl) ?_
 refine RG.callF (vs := [_, _]) rfl rfl En135 rfl (moveBig_i (p := ⟨_, _⟩) hu (pt_in ht) ?_)
 refine RG.ot rfl (OT.alloc rfl Zr183 fun b5 => ?_)
 refine RG.ot rfl (OT.storeW (vs := [vi _, vi _]) rfl Sz183 rfl rfl (Cl.c rfl) rfl rfl (OneC.c rfl) ?_)
 refine RG.nil (WP.seq ?_)
 refine WP.regionHD [.b b4] (.q 0 (.q 1 (.q 2 (.q 3 (.q 5 (.q 6 (.q 7 (.q 8 (.l 4 (.q 9 (.l 10 Sch.nil))))))))))) (by kernel_rfl) (by kernel_rfl) (by kernel_rfl) rfl ?_
 refine RH.pv rfl (fun _ _ _ _ h => h) (Gh.le_refl _) PickC.pick rfl (PV.field rfl Fo136_0 rfl) ?_
 refine RH.pv rfl (fun _ _ _ _ h => h) (Gh.le_refl _) PickC.pick rfl (PV.load1 rfl Sc2 rfl (Rd.blk rfl)) ?_
 refine RH.pv rfl (fun _ _ _ _ h => h) (Gh.le_refl _) PickC.pick rfl (PV.field rfl Fo136_0 rfl) ?_
 refine RH.pv rfl (fun _ _ _ _ h => h) (Gh.le_refl _) PickC.pick rfl (PV.load1 rfl Sc2 rfl (Rd.blk rfl)) ?_
 refine RH.pv rfl (fun _ _ _ _ h => h) (Gh.le_refl _) PickC.pick rfl (PV.field rfl Fo183_0 rfl) ?_
 refine RH.pv rfl (fun _ _ _ _ h => h) (Gh.le_refl _) PickC.pick rfl (PV.load1 rfl Sc2 rfl (Rd.blk rfl)) ?_
 refine RH.pv rfl (fun _ _ _ _ h => h) (Gh.le_refl _) PickC.pick rfl (PV.field rfl Fo183_1 rfl) ?_
 refine RH.pv rfl (fun _ _ _ _ h => h) (Gh.le_refl _) PickC.pick rfl (PV.load1 rfl Sc2 rfl (Rd.blk rfl)) ?_
 refine RH.ot rfl rfl (OT.callF (vs := [_, _]) rfl En219 rfl (composed_i ho hu.1 ⟨Gh.le_refl _, PickC.pick, ?_⟩))
 refine RH.pv rfl (fun _ _ _ _ h => h) (Gh.le_refl _) PickC.pick rfl (PV.build (vs := [(0, [vi _]), (1, [vi _]), (2, [vi _])]) (out := [_, _, _]) rfl Zr136 Pl136 ⟨rfl, (Cl.c rfl), ⟨rfl, (Cl.c rfl), ⟨rfl, (Cl.c rfl), trivial⟩⟩⟩ rfl) ?_
 refine RH.ot rfl rfl (OT.storeW (vs := [vi _, vi _, vi _]) rfl Sz136 rfl rfl (Cl.c rfl) rfl rfl (OneC.c rfl) ⟨Gh.le_refl _, PickC.pick, ?_⟩)
 refine RH.nil ?_
 refine WP.ret ?_
 exact ⟨_, _, ResV.one rfl (RV1.cell rfl Ag136 rfl), Cv.p, k⟩
theorem elPlace_i {n : Inst} {kk : Int} {c r : Nat} (hk : okIn kk n = true) (hc : c < n.cols.toNat) (hr : r < n.rows.toNat) (k : R (vtrans (elPlace n c r)) G L) : CallT Tryz.prog 218 #[vT instT n, vi c, vi r] G L R := by
 obtain ⟨_, h2, h3, h4, h5, h6⟩ := okIn_bd hk
 obtain ⟨q1, q2, q3⟩ := validT_iff.1 h2
 have e1 := mul_bd (a := (c : Int)) (b := n.sx) (A := 3) (B := 80) (by omega) h5 (by omega)
 have e2 := mul_bd (a := (r : Int)) (b := n.sy) (A := 3) (B := 80) (by omega) h6 (by omega)
 refine CallT.enter (args := _) Tryz.func218 rfl rfl (by kernel_rfl) rfl ?_
 refine WP.seq (WP.region ?_)
 refine RG.ot rfl (OT.box (cs := instT.enc n) rfl rfl rfl fun b3 => ?_)
 refine RG.ot rfl (OT.alloc rfl Zr136 fun b6 => ?_)
 refine RG.nil (WP.seq (WP.region (RG.pv rfl (PV.field rfl Fo195_1 rfl) (RG.pv rfl (PV.field rfl Fo136_0 rfl) (RG.pv rfl (PV.load1 rfl Sc2 rfl (Rd.blk rfl)) (RG.pv rfl (PV.field rfl Fo195_1 rfl) (RG.pv rfl (PV.field rfl Fo136_1 rfl) ?_)))))))
 refine RG.pv rfl (PV.load1 rfl Sc2 rfl (Rd.blk rfl)) (RG.ml rfl rfl rfl (RG.pv rfl (PV.field rfl Fo195_4 rfl) (RG.pv rfl (PV.load1 rfl Sc2 rfl (Rd.blk rfl)) (RG.pv rfl (PV.mul rfl rfl rfl (by omega)) (RG.pv rfl (PV.add rfl rfl rfl (by omega)) (RG.pv rfl (PV.field rfl Fo195_1 rfl) (RG.pv rfl (PV.field rfl Fo136_2 rfl) ?_)))))))
 refine RG.pv rfl (PV.load1 rfl Sc2 rfl (Rd.blk rfl)) (RG.ml rfl rfl rfl (RG.pv rfl (PV.field rfl Fo195_5 rfl) (RG.pv rfl (PV.load1 rfl Sc2 rfl (Rd.blk rfl)) (RG.pv rfl (PV.mul rfl rfl rfl (by omega)) (RG.pv rfl (PV.add rfl rfl rfl (by omega)) (RG.pv rfl (PV.build (vs := [(0, [vi _]), (1, [vi _]), (2, [vi _])]) (out := [_, _, _]) rfl Zr136 Pl136 ⟨rfl, (Cl.c rfl), ⟨rfl, (Cl.c rfl), ⟨rfl, (Cl.c rfl), trivial⟩⟩⟩ rfl) ?_))))))
 refine RG.ot rfl (OT.storeW (vs := [vi _, vi _, vi _]) rfl Sz136 rfl rfl (Cl.c rfl) rfl rfl (OneC.c rfl) ?_)
 refine RG.nil ?_
 refine WP.ret ?_
 exact ⟨_, _, ResV.one rfl (RV1.cell rfl Ag136 rfl), Cv.p, k⟩
theorem elPlace_r {n : Inst} {kk : Int} {c r : Nat} (hk : okIn kk n = true) (hc : c < n.cols.toNat) (hr : r < n.rows.toNat) (k : R (vtrans (elPlace n c r)) G L) : CallT Tryz.prog 153 #[vT instT n, vi c, vi r] G L R := by
 obtain ⟨_, h2, h3, h4, h5, h6⟩ := okIn_bd hk
 obtain ⟨q1, q2, q3⟩ := validT_iff.1 h2
 have e1 := mul_bd (a := (c : Int)) (b := n.sx) (A := 3) (B := 80) (by omega) h5 (by omega)
 have e2 := mul_bd (a := (r : Int)) (b := n.sy) (A := 3) (B := 80) (by omega) h6 (by omega)
 refine CallT.enter (args := _) Tryz.func153 rfl rfl (by kernel_rfl) rfl ?_
 refine WP.seq (WP.region ?_)
 refine RG.ot rfl (OT.box (cs := instT.enc n) rfl rfl rfl fun b3 => ?_)
 refine RG.ot rfl (OT.alloc rfl Zr136 fun b6 => ?_)
 refine RG.nil (WP.seq (WP.region (RG.pv rfl (PV.field rfl Fo195_1 rfl) (RG.pv rfl (PV.field rfl Fo136_0 rfl) (RG.pv rfl (PV.load1 rfl Sc2 rfl (Rd.blk rfl)) (RG.pv rfl (PV.field rfl Fo195_1 rfl) (RG.pv rfl (PV.field rfl Fo136_1 rfl) ?_)))))))
 refine RG.pv rfl (PV.load1 rfl Sc2 rfl (Rd.blk rfl)) (RG.ml rfl rfl rfl (RG.pv rfl (PV.field rfl Fo195_4 rfl) (RG.pv rfl (PV.load1 rfl Sc2 rfl (Rd.blk rfl)) (RG.pv rfl (PV.mul rfl rfl rfl (by omega)) (RG.pv rfl (PV.add rfl rfl rfl (by omega)) (RG.pv rfl (PV.field rfl Fo195_1 rfl) (RG.pv rfl (PV.field rfl Fo136_2 rfl) ?_)))))))
 refine RG.pv rfl (PV.load1 rfl Sc2 rfl (Rd.blk rfl)) (RG.ml rfl rfl rfl (RG.pv rfl (PV.field rfl Fo195_5 rfl) (RG.pv rfl (PV.load1 rfl Sc2 rfl (Rd.blk rfl)) (RG.pv rfl (PV.mul rfl rfl rfl (by omega)) (RG.pv rfl (PV.add rfl rfl rfl (by omega)) (RG.pv rfl (PV.build (vs := [(0, [vi _]), (1, [vi _]), (2, [vi _])]) (out := [_, _, _]) rfl Zr136 Pl136 ⟨rfl, (Cl.c rfl), ⟨rfl, (Cl.c rfl), ⟨rfl, (Cl.c rfl), trivial⟩⟩⟩ rfl) ?_))))))
 refine RG.ot rfl (OT.storeW (vs := [vi _, vi _, vi _]) rfl Sz136 rfl rfl (Cl.c rfl) rfl rfl (OneC.c rfl) ?_)
 refine RG.nil ?_
 refine WP.ret ?_
 exact ⟨_, _, ResV.one rfl (RV1.cell rfl Ag136 rfl), Cv.p, k⟩
/-- the instances of a cell, each valid -/
def okNs (ns : List Inst) : Prop := ns.length ≤ 8 ∧ ∃ kk, ∀ j, j < ns.length → okIn kk (gd ns j) = true
theorem okLib_ns {cs : List ECell} (h : okLib cs = true) {i : Nat} (hi : i < cs.length) : okNs (gd cs i).insts := ⟨(okLib_cnt h hi).1, i, fun j hj => okLib_inst h hi hj⟩
theorem elems_bd2 {ns : List Inst} (h : okNs ns) : ∀ i, i ≤ ns.length → (elems (ns.take i)).length ≤ 16 * i
 | 0, _ => by simp [elems]
 | i + 1, hi => by
   obtain ⟨h1, kk, h2⟩ := id h
   have ih := elems_bd2 h i (by omega)
   obtain ⟨_, _, h3, h4, _, _⟩ := okIn_bd (h2 i (by omega))
   have := Nat.mul_le_mul (show (gd ns i).rows.toNat ≤ 4 by omega) (show (gd ns i).cols.toNat ≤ 4 by omega)
   rw [elems_take (by omega), List.length_append, elsOf_len]; omega
/-- the elements before the q-th of the i-th instance -/
def elTo (ns : List Inst) (i q : Nat) : List HElem := elems (ns.take i) ++ (elsOf (gd ns i)).take q
theorem elTo_zero (ns : List Inst) (i : Nat) : elems (ns.take i) = elTo ns i 0 := by simp [elTo]
theorem elTo_step {ns : List Inst} {i r q : Nat} (hq : q < (gd ns i).cols.toNat) (hr : r < (gd ns i).rows.toNat) : elTo ns i (r * (gd ns i).cols.toNat + q) ++ [⟨(gd ns i).cell, elPlace (gd ns i) q r⟩] = elTo ns i (r * (gd ns i).cols.toNat + (q + 1)) := by
 rw [elTo, elTo, elsOf_step hq hr, List.append_assoc]
theorem elTo_all {ns : List Inst} {i q : Nat} (hi : i < ns.length) (h : (gd ns i).rows.toNat * (gd ns i).cols.toNat ≤ q) : elTo ns i q = elems (ns.take (i + 1)) := by
 rw [elTo, elems_take hi, List.take_of_length_le (i := q) (by rw [elsOf_len]; exact h)]
theorem elTo_len {ns : List Inst} (h : okNs ns) {i q : Nat} (hi : i < ns.length) : (elTo ns i q).length ≤ 1000 := by
 have h1 := elems_bd2 h i (by omega)
 obtain ⟨h2, kk, h3⟩ := h
 obtain ⟨_, _, q3, q4, _, _⟩ := okIn_bd (h3 i hi)
 have hm := Nat.mul_le_mul (show (gd ns i).rows.toNat ≤ 4 by omega) (show (gd ns i).cols.toNat ≤ 4 by omega)
 rw [elTo, List.length_append, List.length_take, elsOf_len]; omega
theorem elems_i {c : Cell} (h3 : Rs G L instT c.insts.v c.insts.xs) (hok : okNs c.insts.xs) (k : ∀ v', R v' G (osl 260 helemT v' (elems c.insts.xs) :: L)) : CallT Tryz.prog 186 #[vT cellT c] G L R := by
 obtain ⟨h1, kk, h2⟩ := id hok
 refine CallT.enter (args := _) Tryz.func186 rfl rfl (by kernel_rfl) rfl ?_
 refine WP.seq (WP.region ?_)
 refine RG.ot rfl (OT.box (cs := cellT.enc c) rfl rfl rfl fun b1 => ?_)
 refine RG.pv rfl (PV.asg rfl rfl) (RG.nil (WP.seq (WP.region ?_)))
 refine RG.ot rfl (OT.bslice (F := helemT) (els := []) rfl El257 rfl (by decide) rfl (by decide) trivial fun v8 => ?_)
 refine RG.pv rfl (PV.asg (v := v8) rfl rfl) (RG.nil (WP.seq (WP.seq (WP.region (RG.pv rfl (PV.field rfl Fo116_3 rfl) (RG.pv rfl (PV.load1 rfl Sc114 rfl (Rd.blk rfl)) (RG.pv rfl (PV.len rfl Tryz.underlying114 rfl (SlF.r h3)) ?_)))))))
 refine RG.ml rfl rfl rfl (RG.nil (WP.block ?_))
 refine WP.cv (Cv.eqS (ys := elems (c.insts.xs.take 0)) rfl) ?_
 refine WP.loop2 [10, 11] (fun (i : Nat) (v : Value) => i ≤ c.insts.xs.length) (fun (i : Nat) (v : Value) => [(12, vi i), (3, v)]) (fun (i : Nat) (v : Value) => osl 260 helemT v (elems (c.insts.xs.take i)) :: L) (fun (i : Nat) (v : Value) => c.insts.xs.length - i) 0 v8 (by omega) ⟨rfl, rfl, trivial⟩ Cv.p ?_
 rintro i v τ hi
 refine WP.seq (WP.region (RG.pv rfl (PV.lss rfl rfl rfl) (RG.nil (WP.seq ?_))))
 have hel := elems_bd2 hok i hi
 refine WP.cond rfl (fun h4 => ?_) (fun h4 => ?_)
 · have h4 := of_decide_eq_true h4
   have h5 : i < c.insts.xs.length := by omega
   obtain ⟨_, _, q3, q4, _, _⟩ := okIn_bd (h2 i h5)
   refine WP.skip (WP.seq (WP.block (WP.seq (WP.region (RG.pv rfl (PV.idxS rfl Is114 rfl (SlF.r h3) rfl rfl (by omega)) (RG.pv rfl (PV.loadE rfl Ag195 rfl rfl (El.r h3 (getG (by omega)))) ?_))))))
   refine RG.ot rfl (OT.alloc rfl Zr195 fun b5 => ?_)
   refine RG.ot rfl (OT.storeW (vs := [vi _, vi _, vi _, vi _, vi _, vi _, vi _, vi _]) rfl Sz195 rfl rfl (Cl.c rfl) rfl rfl (OneC.c rfl) ?_)
   refine RG.nil (WP.seq (WP.region (RG.pv rfl (PV.field rfl Fo195_3 rfl) (RG.pv rfl (PV.load1 rfl Sc2 rfl (Rd.blk rfl)) (RG.ml rfl rfl rfl (RG.nil (WP.block ?_)))))))
   refine WP.cv ((Cv.p (C := osl 260 helemT v (elems (c.insts.xs.take i)) :: blk b5 195 (instT.enc (gd c.insts.xs i)) :: L)).trans (Cv.eqS (ys := elTo c.insts.xs i (0 * (gd c.insts.xs i).cols.toNat)) (by rw [Nat.zero_mul]; exact elTo_zero _ _))) ?_
   refine WP.loop2 [5, 10, 11, 12, 17] (fun (r : Nat) (v : Value) => r ≤ (gd c.insts.xs i).rows.toNat) (fun (r : Nat) (v : Value) => [(18, vi r), (3, v)]) (fun (r : Nat) (v : Value) => osl 260 helemT v (elTo c.insts.xs i (r * (gd c.insts.xs i).cols.toNat)) :: blk b5 195 (instT.enc (gd c.insts.xs i)) :: L) (fun (r : Nat) (v : Value) => (gd c.insts.xs i).rows.toNat - r) 0 v (by omega) ⟨rfl, rfl, trivial⟩ Cv.p ?_
   rintro r v τ hr
   refine WP.seq (WP.region (RG.pv rfl (PV.lss rfl rfl rfl) (RG.nil (WP.seq ?_))))
   refine WP.cond rfl (fun h6 => ?_) (fun h6 => ?_)
   · have h6 := of_decide_eq_true h6
     refine WP.skip (WP.seq (WP.block (WP.seq (WP.region (RG.ml rfl rfl rfl (RG.mr rfl rfl rfl (RG.nil ?_)))))))
     refine WP.seq (WP.region (RG.pv rfl (PV.field rfl Fo195_2 rfl) (RG.pv rfl (PV.load1 rfl Sc2 rfl (Rd.blk rfl)) (RG.ml rfl rfl rfl (RG.nil (WP.block ?_))))))
     refine WP.cv (Cv.eqS (ys := elTo c.insts.xs i (r * (gd c.insts.xs i).cols.toNat + 0)) rfl) ?_
     refine WP.loop2 [5, 6, 10, 11, 12, 17, 18, 22] (fun (q : Nat) (v : Value) => q ≤ (gd c.insts.xs i).cols.toNat) (fun (q : Nat) (v : Value) => [(23, vi q), (3, v)]) (fun (q : Nat) (v : Value) => osl 260 helemT v (elTo c.insts.xs i (r * (gd c.insts.xs i).cols.toNat + q)) :: blk b5 195 (instT.enc (gd c.insts.xs i)) :: L) (fun (q : Nat) (v : Value) => (gd c.insts.xs i).cols.toNat - q) 0 v (by omega) ⟨rfl, rfl, trivial⟩ Cv.p ?_
     rintro q v τ hq
     refine WP.seq (WP.region (RG.pv rfl (PV.lss rfl rfl rfl) (RG.nil (WP.seq ?_))))
     refine WP.cond rfl (fun h7 => ?_) (fun h7 => ?_)
     · have h7 := of_decide_eq_true h7
       have hll := elTo_len hok (i := i) (q := r * (gd c.insts.xs i).cols.toNat + q) h5
       refine WP.skip (WP.seq (WP.block (WP.seq (WP.region (RG.ml rfl rfl rfl (RG.mr rfl rfl rfl (RG.nil ?_)))))))
       refine WP.regionHD [.s v] (.q 0 (.q 1 (.q 2 (.q 3 (.q 4 (.q 5 (.l 6 (.q 7 (.l 8 (.l 9 (.q 10 Sch.nil))))))))))) (by kernel_rfl) (by kernel_rfl) (by kernel_rfl) rfl ?_
       refine RH.pv rfl (fun _ _ _ _ h => h) (Gh.le_refl _) PickC.pick rfl (PV.move (v := v) rfl rfl) ?_
       refine RH.pv rfl (fun _ _ _ _ h => h) (Gh.le_refl _) PickC.pick rfl (PV.field rfl Fo195_0 rfl) ?_
       refine RH.pv rfl (fun _ _ _ _ h => h) (Gh.le_refl _) PickC.pick rfl (PV.load1 rfl Sc2 rfl (Rd.blk rfl)) ?_
       refine RH.pv rfl (fun _ _ _ _ h => h) (Gh.le_refl _) PickC.pick rfl (PV.loadW rfl Ag195 rfl rfl) ?_
       refine RH.pv rfl (fun _ _ _ _ h => h) (Gh.le_refl _) PickC.pick rfl (PV.mvI (.inl rfl) rfl) ?_
       refine RH.pv rfl (fun _ _ _ _ h => h) (Gh.le_refl _) PickC.pick rfl (PV.mvI (.inl rfl) rfl) ?_
       refine RH.ot rfl rfl (OT.callF (vs := [_, _, _]) rfl En218 rfl (elPlace_i (h2 i (by omega)) (by omega) (by omega) ⟨Gh.le_refl _, PickC.pick, ?_⟩))
       refine RH.pv rfl (fun _ _ _ _ h => h) (Gh.le_refl _) PickC.pick rfl (PV.build (vs := [(0, [vi _]), (1, [vi _, vi _, vi _])]) (out := [_, _, _, _]) rfl Zr260 Pl260 ⟨rfl, (Cl.c rfl), ⟨rfl, (Cl.c rfl), trivial⟩⟩ rfl) ?_
       refine RH.ot rfl rfl (OT.bslice (F := helemT) (els := [⟨_, _⟩]) rfl El257 rfl (by decide) rfl (by decide) ⟨rfl, (Cl.c rfl), trivial⟩ fun v34 => ⟨Gh.le_refl _, PickC.pick, ?_⟩)
       refine RH.ot rfl rfl (OT.append (v := v) (u := v34) (F := helemT) rfl El257 rfl (by decide) rfl rfl Rs.o (OneL.c (fun _ => rfl)) rfl (by first | omega | (simp <;> omega)) fun v35 => ⟨Gh.le_refl _, PickC.pick, ?_⟩)
       refine RH.pv rfl (fun _ _ _ _ h => h) (Gh.le_refl _) PickC.pick rfl (PV.asg (v := v35) rfl rfl) ?_
       refine RH.nil ?_
       refine WP.region (RG.pv rfl (PV.add rfl rfl rfl (by omega)) (RG.ml rfl rfl rfl (RG.nil ?_)))
       exact ⟨rfl, q + 1, v35, (by omega), ⟨rfl, rfl, trivial⟩, ⟨rfl, rfl, rfl, rfl, rfl, rfl, rfl, rfl, trivial⟩, ((Cv.p (C := osl 260 helemT v35 (elTo c.insts.xs i (r * (gd c.insts.xs i).cols.toNat + q) ++ [⟨(gd c.insts.xs i).cell, ⟨(gd c.insts.xs i).place.o, (gd c.insts.xs i).place.x + (q : Int) * (gd c.insts.xs i).sx, (gd c.insts.xs i).place.y + (r : Int) * (gd c.insts.xs i).sy⟩⟩]) :: blk b5 195 (instT.enc (gd c.insts.xs i)) :: L)).trans (Cv.eqS (elTo_step (ns := c.insts.xs) (i := i) (r := r) (q := q) (by omega) (by omega)))), by omega⟩
     · have h7 := of_decide_eq_false h7
       have e : r * (gd c.insts.xs i).cols.toNat + q = (r + 1) * (gd c.insts.xs i).cols.toNat := by rw [Nat.add_mul]; omega
       refine WP.exit ?_
       refine WP.region (RG.pv rfl (PV.add rfl rfl rfl (by omega)) (RG.ml rfl rfl rfl (RG.nil ?_)))
       exact ⟨rfl, r + 1, v, (by omega), ⟨rfl, rfl, trivial⟩, ⟨rfl, rfl, rfl, rfl, rfl, trivial⟩, (Cv.eqS (by rw [e])), by omega⟩
   · have h6 := of_decide_eq_false h6
     refine WP.exit ?_
     refine WP.region (RG.pv rfl (PV.add rfl rfl rfl (by omega)) (RG.ml rfl rfl rfl (RG.nil ?_)))
     exact ⟨rfl, i + 1, v, (by omega), ⟨rfl, rfl, trivial⟩, ⟨rfl, rfl, trivial⟩, ((Cv.eqS (ys := elems (c.insts.xs.take (i + 1))) (elTo_all h5 (Nat.mul_le_mul_right _ (by omega)))).trans Cv.p), by omega⟩
 · have h4 := of_decide_eq_false h4
   have e : c.insts.xs.take i = c.insts.xs := List.take_of_length_le (by omega)
   rw [e]
   refine WP.exit ?_
   refine WP.seq (WP.region (RG.pv rfl (PV.move (v := v) rfl rfl) (RG.pv rfl (PV.asg (v := v) rfl rfl) (RG.nil ?_))))
   refine WP.ret ?_
   exact ⟨_, _, ResV.one rfl rfl, Cv.p, k v⟩
theorem l10Point_r {t : Trans} {p : Pt} (ht : TBig t) (hp : InB 1000 p) (k : R (vpt (moveP t p)) G L) : CallT Tryz.prog 192 #[vtrans t, vpt p] G L R := by
 have hf : InB 1000 (flip t.o p) := flip_in hp
 obtain ⟨hq1, hq2, hq3, hq4⟩ : InB 1000 (turnP t.o p) := turnP_in hp
 obtain ⟨hp1, hp2, hp3, hp4⟩ := hp
 obtain ⟨ho, ht1, ht2, ht3, ht4⟩ := ht
 refine CallT.enter (args := _) Tryz.func192 rfl rfl (by kernel_rfl) rfl ?_
 refine WP.seq (WP.region ?_)
 refine RG.ot rfl (OT.box (cs := transT.enc t) rfl rfl rfl fun b2 => ?_)
 refine RG.ot rfl (OT.box (cs := ptT.enc p) rfl rfl rfl fun b3 => ?_)
 refine RG.ot rfl (OT.alloc rfl Zr183 fun b4 => ?_)
 refine RG.nil (WP.seq (WP.region (RG.pv rfl (PV.field rfl Fo183_0 rfl) (RG.pv rfl (PV.load1 rfl Sc2 rfl (Rd.blk rfl)) (RG.mr rfl rfl rfl (RG.nil (WP.seq ?_)))))))
 refine WP.region (RG.pv rfl (PV.field rfl Fo183_1 rfl) (RG.pv rfl (PV.load1 rfl Sc2 rfl (Rd.blk rfl)) (RG.mr rfl rfl rfl (RG.nil ?_))))
 refine WP.cut1 [2, 4] (fun (q : Pt) => q = flip t.o p) (fun (q : Pt) => [(5, vi q.x), (6, vi q.y)]) (fun (q : Pt) => blk b2 136 (transT.enc t) :: blk b4 183 [vi 0, vi 0] :: L) ?_ ?_
 refine WP.seq (WP.region (RG.pv rfl (PV.field rfl Fo136_0 rfl) (RG.pv rfl (PV.load1 rfl Sc2 rfl (Rd.blk rfl)) (RG.pv rfl (PV.geq rfl rfl rfl) (RG.nil ?_)))))
 refine WP.cond rfl (fun h1 => ?_) (fun h1 => ?_)
 · have h1 := of_decide_eq_true h1
   refine WP.region (RG.ml rfl rfl rfl (RG.pv rfl (PV.neg rfl rfl (by omega)) (RG.mr rfl rfl rfl (RG.nil ?_))))
   exact ⟨rfl, (⟨p.x, -p.y⟩ : Pt), (by rw [flip, if_pos (by omega)]), ⟨rfl, rfl, trivial⟩, ⟨rfl, rfl, trivial⟩, Cv.p⟩
 · have h1 := of_decide_eq_false h1
   refine WP.skip ?_
   exact ⟨rfl, p, (by rw [flip, if_neg (by omega)]), ⟨rfl, rfl, trivial⟩, ⟨rfl, rfl, trivial⟩, Cv.p⟩
 rintro q τ1 hq
 refine WP.seq (WP.seq (WP.region (RG.pv rfl (PV.field rfl Fo136_0 rfl) (RG.pv rfl (PV.load1 rfl Sc2 rfl (Rd.blk rfl)) (RG.pv rfl (PV.rem rfl rfl rfl (by omega) (by omega) (by omega)) (RG.mr rfl rfl rfl (RG.nil ?_)))))))
 refine WP.block ?_
 subst hq
 refine WP.loop2 [2, 4] (fun (n : Int) (q : Pt) => (0 ≤ n ∧ n < 4) ∧ rot n.toNat q = turnP t.o p ∧ InB 1000 q) (fun (n : Int) (q : Pt) => [(7, vi n), (5, vi q.x), (6, vi q.y)]) (fun (n : Int) (q : Pt) => blk b2 136 (transT.enc t) :: blk b4 183 [vi 0, vi 0] :: L) (fun (n : Int) (q : Pt) => n.toNat) (t.o % 4) (flip t.o p) ⟨by omega, rfl, hf⟩ ⟨rfl, rfl, rfl, trivial⟩ Cv.p ?_
 rintro n q τ ⟨hn, hr, hi1, hi2, hi3, hi4⟩
 refine WP.seq (WP.seq (WP.region (RG.ml rfl rfl rfl (RG.pv rfl (PV.gtr rfl rfl rfl) (RG.nil ?_)))))
 refine WP.cond rfl (fun h2 => ?_) (fun h2 => ?_)
 · have h2 := of_decide_eq_true h2
   refine WP.skip (WP.seq (WP.block (WP.region (RG.ml rfl rfl rfl (RG.pv rfl (PV.neg rfl rfl (by omega)) (RG.ml rfl rfl rfl (RG.mr rfl rfl rfl ?_)))))))
   refine RG.mr rfl rfl rfl (RG.nil (WP.region (RG.ml rfl rfl rfl (RG.pv rfl (PV.sub rfl rfl rfl (by omega)) (RG.mr rfl rfl rfl (RG.nil ?_))))))
   refine ⟨rfl, n - 1, ⟨-q.y, q.x⟩, ⟨by omega, ?_, by simp only; omega, by simp only; omega, hi1, hi2⟩, ⟨rfl, rfl, rfl, trivial⟩, ⟨rfl, rfl, trivial⟩, Cv.p, by omega⟩
   rw [← hr, show n.toNat = (n - 1).toNat + 1 by omega]; rfl
 · have h2 := of_decide_eq_false h2
   have e : turnP t.o p = q := by rw [← hr, show n.toNat = 0 by omega]; rfl
   rw [moveP, e] at k
   refine WP.exit ?_
   refine WP.seq (WP.region (RG.ml rfl rfl rfl (RG.pv rfl (PV.field rfl Fo136_1 rfl) (RG.pv rfl (PV.load1 rfl Sc2 rfl (Rd.blk rfl)) (RG.pv rfl (PV.add rfl rfl rfl (by omega)) (RG.ml rfl rfl rfl (RG.pv rfl (PV.field rfl Fo136_2 rfl) ?_)))))))
   refine RG.pv rfl (PV.load1 rfl Sc2 rfl (Rd.blk rfl)) (RG.pv rfl (PV.add rfl rfl rfl (by omega)) (RG.pv rfl (PV.build (vs := [(0, [vi _]), (1, [vi _])]) (out := [_, _]) rfl Zr183 Pl183 ⟨rfl, (Cl.c rfl), ⟨rfl, (Cl.c rfl), trivial⟩⟩ rfl) ?_))
   refine RG.ot rfl (OT.storeW (vs := [vi _, vi _]) rfl Sz183 rfl rfl (Cl.c rfl) rfl rfl (OneC.c rfl) ?_)
   refine RG.nil ?_
   refine WP.ret ?_
   exact ⟨_, _, ResV.one rfl (RV1.cell rfl Ag183 rfl), Cv.p, k⟩
theorem l10Rect_r {t : Trans} {r : Rect} (ht : TBig t) (hr : RIn 40 r) (k : R (vrect (moveR t r)) G L) : CallT Tryz.prog 142 #[vtrans t, vrect r] G L R := by
 refine CallT.enter (args := _) Tryz.func142 rfl rfl (by kernel_rfl) rfl ?_
 refine WP.seq (WP.region ?_)
 refine RG.ot rfl (OT.box (cs := transT.enc t) rfl rfl rfl fun b2 => ?_)
 refine RG.ot rfl (OT.box (cs := rectT.enc r) rfl rfl rfl fun b3 => ?_)
 refine RG.ot rfl (OT.alloc rfl Zr140 fun b4 => ?_)
 refine RG.nil (WP.seq (WP.region (RG.pv rfl (PV.loadW rfl Ag136 rfl rfl) (RG.pv rfl (PV.field rfl Fo140_0 rfl) (RG.pv rfl (PV.load1 rfl Sc2 rfl (Rd.blk rfl)) (RG.pv rfl (PV.field rfl Fo140_1 rfl) (RG.pv rfl (PV.load1 rfl Sc2 rfl (Rd.blk rfl)) ?_)))))))
 refine RG.pv rfl (PV.build (vs := [(0, [vi _]), (1, [vi _])]) (out := [_, _]) rfl Zr183 Pl183 ⟨rfl, (Cl.c rfl), ⟨rfl, (Cl.c rfl), trivial⟩⟩ rfl) ?_
 refine RG.callF (vs := [_, _]) rfl rfl En192 rfl (l10Point_r (p := ⟨_, _⟩) ht (by first | exact (RIn_pts hr).1 | exact (RIn_pts hr).2) ?_)
 refine RG.ot rfl (OT.alloc rfl Zr183 fun b5 => ?_)
 refine RG.ot rfl (OT.storeW (vs := [vi _, vi _]) rfl Sz183 rfl rfl (Cl.c rfl) rfl rfl (OneC.c rfl) ?_)
 refine RG.nil (WP.seq (WP.region (RG.pv rfl (PV.loadW rfl Ag136 rfl rfl) (RG.pv rfl (PV.field rfl Fo140_2 rfl) (RG.pv rfl (PV.load1 rfl Sc2 rfl (Rd.blk rfl)) (RG.pv rfl (PV.field rfl Fo140_3 rfl) (RG.pv rfl (PV.load1 rfl Sc2 rfl (Rd.blk rfl)) ?_)))))))
 refine RG.pv rfl (PV.build (vs := [(0, [vi _]), (1, [vi _])]) (out := [_, _]) rfl Zr183 Pl183 ⟨rfl, (Cl.c rfl), ⟨rfl, (Cl.c rfl), trivial⟩⟩ rfl) ?_
 refine RG.callF (vs := [_, _]) rfl rfl En192 rfl (l10Point_r (p := ⟨_, _⟩) ht (by first | exact (RIn_pts hr).1 | exact (RIn_pts hr).2) ?_)
 refine RG.ot rfl (OT.alloc rfl Zr183 fun b6 => ?_)
 refine RG.ot rfl (OT.storeW (vs := [vi _, vi _]) rfl Sz183 rfl rfl (Cl.c rfl) rfl rfl (OneC.c rfl) ?_)
 refine RG.nil (WP.seq (WP.region (RG.pv rfl (PV.field rfl Fo183_0 rfl) (RG.pv rfl (PV.load1 rfl Sc2 rfl (Rd.blk rfl)) (RG.pv rfl (PV.field rfl Fo183_0 rfl) (RG.pv rfl (PV.load1 rfl Sc2 rfl (Rd.blk rfl)) (RG.pv rfl (PV.min2 rfl rfl rfl) ?_)))))))
 refine RG.pv rfl (PV.field rfl Fo183_1 rfl) (RG.pv rfl (PV.load1 rfl Sc2 rfl (Rd.blk rfl)) (RG.pv rfl (PV.field rfl Fo183_1 rfl) (RG.pv rfl (PV.load1 rfl Sc2 rfl (Rd.blk rfl)) (RG.pv rfl (PV.min2 rfl rfl rfl) (RG.pv rfl (PV.field rfl Fo183_0 rfl) (RG.pv rfl (PV.load1 rfl Sc2 rfl (Rd.blk rfl)) (RG.pv rfl (PV.field rfl Fo183_0 rfl) ?_)))))))
 refine RG.pv rfl (PV.load1 rfl Sc2 rfl (Rd.blk rfl)) (RG.pv rfl (PV.max2 rfl rfl rfl) (RG.pv rfl (PV.field rfl Fo183_1 rfl) (RG.pv rfl (PV.load1 rfl Sc2 rfl (Rd.blk rfl)) (RG.pv rfl (PV.field rfl Fo183_1 rfl) (RG.pv rfl (PV.load1 rfl Sc2 rfl (Rd.blk rfl)) (RG.pv rfl (PV.max2 rfl rfl rfl) (RG.pv rfl (PV.build (vs := [(0, [vi _]), (1, [vi _]), (2, [vi _]), (3, [vi _])]) (out := [_, _, _, _]) rfl Zr140 Pl140 ⟨rfl, (Cl.c rfl), ⟨rfl, (Cl.c rfl), ⟨rfl, (Cl.c rfl), ⟨rfl, (Cl.c rfl), trivial⟩⟩⟩⟩ rfl) ?_)))))))
 refine RG.ot rfl (OT.storeW (vs := [vi _, vi _, vi _, vi _]) rfl Sz140 rfl rfl (Cl.c rfl) rfl rfl (OneC.c rfl) ?_)
 refine RG.nil ?_
 refine WP.ret ?_
 exact ⟨_, _, ResV.one rfl (RV1.cell rfl Ag140 rfl), Cv.p, k⟩
theorem l10After_r {t u : Trans} (ho : 0 ≤ t.o ∧ t.o ≤ 7) (ht : (-1000 ≤ t.x ∧ t.x ≤ 1000) ∧ -1000 ≤ t.y ∧ t.y ≤ 1000) (hu : TBig u) (k : R (vtrans (cmpT t u)) G L) : CallT Tryz.prog 152 #[vtrans u, vtrans t] G L R := by
 obtain ⟨hu1, _⟩ := id hu
 refine CallT.enter (args := _) Tryz.func152 rfl rfl (by kernel_rfl) rfl ?_
 refine WP.seq (WP.region ?_)
 refine RG.ot rfl (OT.box (cs := transT.enc u) rfl rfl rfl fun b2 => ?_)
 refine RG.ot rfl (OT.box (cs := transT.enc t) rfl rfl rfl fun b3 => ?_)
 refine RG.ot rfl (OT.alloc rfl Zr136 fun b4 => ?_)
 refine RG.nil (WP.seq (WP.region (RG.pv rfl (PV.field rfl Fo136_0 rfl) (RG.pv rfl (PV.load1 rfl Sc2 rfl (Rd.blk rfl)) (RG.pv rfl (PV.rem rfl rfl rfl (by omega) (by omega) (by omega)) (RG.mr rfl rfl rfl (RG.nil ?_)))))))
 refine WP.seq (WP.region (RG.pv rfl (PV.field rfl Fo136_0 rfl) (RG.pv rfl (PV.load1 rfl Sc2 rfl (Rd.blk rfl)) (RG.pv rfl (PV.quo rfl rfl rfl (by omega) (by omega) (by omega)) (RG.mr rfl rfl rfl (RG.nil ?_))))))
 refine WP.cut2 [2, 3, 4] (fun (a b : Int) => a = (if 4 ≤ u.o then -(t.o % 4) else t.o % 4) ∧ b = (if 4 ≤ u.o then 1 - t.o / 4 else t.o / 4)) (fun (a b : Int) => [(5, vi a), (6, vi b)]) (fun (a b : Int) => blk b2 136 (transT.enc u) :: blk b3 136 (transT.enc t) :: blk b4 136 [vi 0, vi 0, vi 0] :: L) ?_ ?_
 refine WP.seq (WP.region (RG.pv rfl (PV.field rfl Fo136_0 rfl) (RG.pv rfl (PV.load1 rfl Sc2 rfl (Rd.blk rfl)) (RG.pv rfl (PV.geq rfl rfl rfl) (RG.nil ?_)))))
 refine WP.cond rfl (fun h1 => ?_) (fun h1 => ?_)
 · have h1 := of_decide_eq_true h1
   refine WP.seq (WP.region (RG.ml rfl rfl rfl (RG.pv rfl (PV.neg rfl rfl (by omega)) (RG.mr rfl rfl rfl (RG.nil (WP.region (RG.ml rfl rfl rfl ?_)))))))
   refine RG.pv rfl (PV.sub rfl rfl rfl (by omega)) (RG.mr rfl rfl rfl (RG.nil ?_))
   exact ⟨rfl, (-(t.o % 4)), (1 - t.o / 4), ⟨by rw [if_pos (by omega)], by rw [if_pos (by omega)]⟩, ⟨rfl, rfl, trivial⟩, ⟨rfl, rfl, rfl, trivial⟩, Cv.p⟩
 · have h1 := of_decide_eq_false h1
   refine WP.skip ?_
   exact ⟨rfl, (t.o % 4), (t.o / 4), ⟨by rw [if_neg (by omega)], by rw [if_neg (by omega)]⟩, ⟨rfl, rfl, trivial⟩, ⟨rfl, rfl, rfl, trivial⟩, Cv.p⟩
 rintro a b τ1 ⟨ha, hb⟩
 have hab : (-3 ≤ a ∧ a ≤ 3) ∧ 0 ≤ b ∧ b ≤ 1 := by rw [ha, hb]; split <;> omega
 have e : cmpo t.o u.o = (u.o % 4 + a + 4) % 4 + 4 * b := by rw [cmpo_r ho hu1, ← ha, ← hb]
 rw [cmpT, e] at k
 refine WP.seq (WP.region (RG.pv rfl (PV.loadW rfl Ag136 rfl rfl) (RG.pv rfl (PV.field rfl Fo136_1 rfl) (RG.pv rfl (PV.load1 rfl Sc2 rfl (Rd.blk rfl)) (RG.pv rfl (PV.field rfl Fo136_2 rfl) (RG.pv rfl (PV.load1 rfl Sc2 rfl (Rd.blk rfl)) (RG.pv rfl (PV.build (vs := [(0, [vi _]), (1, [vi _])]) (out := [_, _]) rfl Zr183 Pl183 ⟨rfl, (Cl.c rfl), ⟨rfl, (Cl.c rfl), trivial⟩⟩ rfl) ?_)))))))
 refine RG.callF (vs := [_, _]) rfl rfl En192 rfl (l10Point_r (p := ⟨_, _⟩) hu (pt_in ht) ?_)
 refine RG.ot rfl (OT.alloc rfl Zr183 fun b7 => ?_)
 refine RG.ot rfl (OT.storeW (vs := [vi _, vi _]) rfl Sz183 rfl rfl (Cl.c rfl) rfl rfl (OneC.c rfl) ?_)
 refine RG.nil (WP.seq (WP.region (RG.pv rfl (PV.field rfl Fo136_0 rfl) (RG.pv rfl (PV.load1 rfl Sc2 rfl (Rd.blk rfl)) (RG.pv rfl (PV.rem rfl rfl rfl (by omega) (by omega) (by omega)) (RG.ml rfl rfl rfl (RG.pv rfl (PV.add rfl rfl rfl (by omega)) ?_)))))))
 refine RG.pv rfl (PV.add rfl rfl rfl (by omega)) (RG.pv rfl (PV.rem rfl rfl rfl (by omega) (by omega) (by omega)) (RG.ml rfl rfl rfl (RG.pv rfl (PV.mul rfl rfl rfl (by omega)) (RG.pv rfl (PV.add rfl rfl rfl (by omega)) (RG.pv rfl (PV.field rfl Fo183_0 rfl) (RG.pv rfl (PV.load1 rfl Sc2 rfl (Rd.blk rfl)) (RG.pv rfl (PV.field rfl Fo183_1 rfl) ?_)))))))
 refine RG.pv rfl (PV.load1 rfl Sc2 rfl (Rd.blk rfl)) (RG.pv rfl (PV.build (vs := [(0, [vi _]), (1, [vi _]), (2, [vi _])]) (out := [_, _, _]) rfl Zr136 Pl136 ⟨rfl, (Cl.c rfl), ⟨rfl, (Cl.c rfl), ⟨rfl, (Cl.c rfl), trivial⟩⟩⟩ rfl) ?_)
 refine RG.ot rfl (OT.storeW (vs := [vi _, vi _, vi _]) rfl Sz136 rfl rfl (Cl.c rfl) rfl rfl (OneC.c rfl) ?_)
 refine RG.nil ?_
 refine WP.ret ?_
 exact ⟨_, _, ResV.one rfl (RV1.cell rfl Ag136 rfl), Cv.p, k⟩
end Go.Proofs.YthhjapiggekjbaaGreat
namespace Go.Proofs.YthhjapiggekjbaaGreat
set_option linter.unusedVariables false
set_option linter.unusedSimpArgs false
open Go
set_option maxRecDepth 20000
set_option linter.unusedSimpArgs false
variable {G : Gh} {L : List Ch} {R : Value → Gh → List Ch → Prop}
def pths (xs : List Occ) : List (Sl Int) := xs.map Occ.path
theorem pths_gd {xs : List Occ} {i : Nat} (h : i < xs.length) : gd (pths xs) i = (gd xs i).path := gd_map _ h
theorem RsE.path {xs : List Occ} (h : RsE G L intT (pths xs)) {i : Nat} (hi : i < xs.length) : Rs G L intT (gd xs i).path.v (gd xs i).path.xs := by
 have := h i (by simpa [pths] using hi); rwa [pths_gd hi] at this
theorem clone_path {v : Value} {xs : List (Int)} (h1 : Rs G L intT v xs) (hb : xs.length ≤ 1048576) (k : ∀ v', R v' G (osl 2 intT v' xs :: L)) : CallT Tryz.prog 187 #[v] G L R := by
 refine CallT.st (fun w hs => isNilS_nil h1 hs) fun hn => ?_
 refine CallT.enter (args := _) Tryz.func187 rfl rfl (by kernel_rfl) rfl ?_
 refine WP.seq (WP.region (RG.pv rfl (PV.asg rfl rfl) (RG.nil (WP.seq (WP.seq (WP.region (RG.pv rfl (PV.move (v := v) rfl rfl) ?_)))))))
 refine RG.pv rfl (PV.eqlNil rfl Tryz.underlying26 rfl (SlF.r h1)) (RG.nil ?_)
 refine WP.cond rfl (fun h2 => ?_) (fun h2 => ?_)
 · have e := hn h2
   rw [e] at k
   refine WP.seq (WP.region (RG.pv rfl (PV.asg rfl rfl) (RG.nil ?_)))
   refine WP.ret ?_
   exact ⟨_, _, ResV.one rfl rfl, Cv.nilS, k _⟩
 · refine WP.skip ?_
   refine WP.seq (WP.region ?_)
   refine RG.ot rfl (OT.bslice (F := intT) (els := []) rfl El26 rfl (by decide) rfl (by decide) trivial fun v5 => ?_)
   refine RG.pv rfl (PV.move (v := v) rfl rfl) ?_
   refine RG.ot rfl (OT.append (v := v5) (u := v) (F := intT) rfl El26 rfl (by decide) rfl rfl (Rs.up h1) (OneL.c (fun _ => rfl)) rfl (by first | omega | (simp <;> omega)) fun v7 => ?_)
   refine RG.pv rfl (PV.asg (v := v7) rfl rfl) (RG.nil ?_)
   refine WP.ret ?_
   exact ⟨_, _, ResV.one rfl rfl, (Cv.eqS (List.nil_append _)), k v7⟩
theorem oIn_big {f : Nat} {o : EOcc} (h : oIn f o) : TBig o.place := by
 obtain ⟨h1, h2, h3, h4⟩ := h
 exact ⟨h2, by omega, by omega, by omega, by omega⟩
/-- a path is written at the end of the list of occurrences -/
theorem Cv.addOcc {e : TypeId} {u : Value} {us : List Int} {zs zs' : List Occ} (h : pths zs' = pths zs ++ [⟨u, us⟩]) : Cv (osl e intT u us :: bagS e intT (pths zs) :: L) (bagS e intT (pths zs') :: L) := Cv.grow h
/-- the state of a list of occurrences: those before, then one and those below its first elements -/
structure OccBelow (cs : List ECell) (f : Nat) (o : Occ) (ys : List Occ) (m : Nat) (zs : List Occ) : Prop where
  len : zs.length = ys.length + (occTo cs f (erO o) m).length
  er : erOs zs = erOs ys ++ occTo cs f (erO o) m
  at_ : ys.length < zs.length ∧ gd zs ys.length = o
  pre : ∃ r, zs = ys ++ r
theorem OccBelow.init {cs : List ECell} {f : Nat} {o : Occ} {ys : List Occ} : OccBelow cs f o ys 0 (ys ++ [o]) :=
 ⟨by simp [occTo_zero], by simp [erOs, occTo_zero], ⟨by simp, gd_app_r⟩, ⟨[o], rfl⟩⟩
theorem OccBelow.next {cs : List ECell} {f : Nat} {o : Occ} {ys zs zs' : List Occ} {m : Nat} (h : OccBelow cs f o ys m zs) (hp : ∃ r, zs' = zs ++ r) (he : erOs zs' = erOs zs ++ occF cs f (kid (erO o) (gd (elems (gd cs o.cell.toNat).insts) m) m)) : OccBelow cs f o ys (m + 1) zs' := by
 obtain ⟨r, rfl⟩ := hp
 obtain ⟨r0, hr0⟩ := h.pre
 have e : erOs (zs ++ r) = erOs ys ++ occTo cs f (erO o) (m + 1) := by rw [he, h.er, occTo_succ, List.append_assoc]; rfl
 refine ⟨?_, e, ⟨by have := h.at_.1; simp only [List.length_append]; omega, by rw [gd_app_l h.at_.1]; exact h.at_.2⟩, ⟨r0 ++ r, by rw [hr0, List.append_assoc]⟩⟩
 have := congrArg List.length e
 rw [List.length_append, erOs_len, erOs_len] at this
 exact this
theorem OccBelow.rd {cs : List ECell} {f : Nat} {o : Occ} {ys zs : List Occ} {m : Nat} (h : OccBelow cs f o ys m zs) (hd : RsE G L intT (pths zs)) : Rs G L intT o.path.v o.path.xs := by
 have := hd.path h.at_.1; rwa [h.at_.2] at this
theorem below_i : ∀ (f : Nat) {G : Gh} {L : List Ch} {R : Value → Gh → List Ch → Prop} {l : Lib} {o : Occ} {v : Value} {ys : List Occ} (_ : RLib G L l.cells.v l.cells.xs) (_ : okLib (erCls l.cells.xs) = true) (_ : oIn f (erO o)) (_ : o.cell.toNat < l.cells.xs.length) (_ : o.path.xs.length + f ≤ 100) (_ : ys.length + (occF (erCls l.cells.xs) f (erO o)).length ≤ 1000)
   (_ : ∀ v' zs, (∃ r, zs = ys ++ r) → erOs zs = erOs ys ++ occF (erCls l.cells.xs) f (erO o) → R v' G (osl 138 occT v' zs :: bagS 2 intT (pths zs) :: L)), CallT Tryz.prog 133 #[vT libT l, v, vT occT o] G (osl 138 occT v ys :: bagS 2 intT (pths ys) :: osl 2 intT o.path.v o.path.xs :: L) R := by
 intro f
 induction f with
 | zero => intro G L R l o v ys _ _ hin; exact absurd hin.1 (by simp only [erO]; omega)
 | succ f ih =>
   intro G L R l o v ys hL hok hin hcl hpl htl k
   have hE := erCls_len l.cells.xs
   have hbig := oIn_big hin
   have hi1 := hin.1
   have hinc : (0 : Int) ≤ o.cell ∧ o.cell < (f : Int) + 1 := by have := hin.1; simp only [erO] at this; omega
   have hce : (gd (erCls l.cells.xs) o.cell.toNat).insts = (gd l.cells.xs o.cell.toNat).insts.xs := erCl_insts hcl
   have hns : okNs (gd l.cells.xs o.cell.toNat).insts.xs := by rw [← hce]; exact okLib_ns hok (by omega)
   have hEl : (elems (gd l.cells.xs o.cell.toNat).insts.xs).length ≤ 128 := by rw [← hce]; exact elems_len_bd hok (by omega)
   have hol : 1 ≤ (occF (erCls l.cells.xs) (f + 1) (erO o)).length := by rw [occF, List.length_cons]; omega
   refine CallT.enter (args := _) Tryz.func133 rfl rfl (by kernel_rfl) rfl ?_
   refine WP.seq (WP.region ?_)
   refine RG.ot rfl (OT.box (cs := libT.enc l) rfl rfl rfl fun b3 => ?_)
   refine RG.ot rfl (OT.box (cs := occT.enc o) rfl rfl rfl fun b5 => ?_)
   refine RG.pv rfl (PV.asg rfl rfl) (RG.nil (WP.seq (WP.region (RG.pv rfl (PV.move (v := v) rfl rfl) (RG.pv rfl (PV.loadW rfl Ag138 rfl rfl) ?_)))))
   refine RG.ot rfl (OT.bslice (F := occT) (els := [_]) rfl El94 rfl (by decide) rfl (by decide) ⟨rfl, (Cl.c rfl), trivial⟩ fun v12 => ?_)
   refine RG.ot rfl (OT.append (v := v) (u := v12) (F := occT) rfl El94 rfl (by decide) rfl rfl Rs.o (OneL.one (a := o) (OneC.val rfl (OneC.val rfl (OneC.val rfl (OneC.val rfl (OneC.sl SlF.o OneC.nil)))))) rfl (by first | omega | (simp <;> omega)) fun v13 => ?_)
   refine RG.pv rfl (PV.asg (v := v13) rfl rfl) (RG.nil (WP.seq (WP.seq (WP.region (RG.pv rfl (PV.field rfl Fo31_0 rfl) (RG.pv rfl (PV.load1 rfl Sc29 rfl (Rd.blk rfl)) (RG.pv rfl (PV.field rfl Fo138_0 rfl) ?_)))))))
   refine RG.pv rfl (PV.load1 rfl Sc2 rfl (Rd.blk rfl)) (RG.pv rfl (PV.idxS (j := o.cell.toNat) rfl Is29 rfl (SlF.r hL.c) rfl (by omega) (by omega)) (RG.pv rfl (PV.loadE rfl Ag116 rfl rfl (El.r hL.c (getG (by omega)))) ?_))
   refine RG.callF (vs := [_]) rfl rfl En186 rfl (elems_i (hL.na (by omega)).up hns (fun v20 => ?_))
   refine RG.pv rfl (PV.len (v := v20) rfl Tryz.underlying257 rfl SlF.o) (RG.ml rfl rfl rfl (RG.nil (WP.block ?_)))
   refine WP.cv ((Cv.p (C := osl 2 intT o.path.v o.path.xs :: bagS 2 intT (pths ys) :: osl 138 occT v13 (ys ++ [o]) :: osl 260 helemT v20 (elems (gd l.cells.xs o.cell.toNat).insts.xs) :: blk b3 31 (libT.enc l) :: blk b5 138 (occT.enc o) :: L)).trans (Cv.addOcc (zs' := ys ++ [o]) (by simp [pths]))) ?_
   refine WP.loop3 [3, 5, 20, 21] (fun (m : Nat) (vo : Value) (zs : List Occ) => m ≤ (elems (gd l.cells.xs o.cell.toNat).insts.xs).length ∧ OccBelow (erCls l.cells.xs) f o ys m zs) (fun (m : Nat) (vo : Value) (zs : List Occ) => [(22, vi m), (1, vo)]) (fun (m : Nat) (vo : Value) (zs : List Occ) => osl 138 occT vo zs :: bagS 2 intT (pths zs) :: osl 260 helemT v20 (elems (gd l.cells.xs o.cell.toNat).insts.xs) :: blk b3 31 (libT.enc l) :: blk b5 138 (occT.enc o) :: L) (fun (m : Nat) (vo : Value) (zs : List Occ) => (elems (gd l.cells.xs o.cell.toNat).insts.xs).length - m) 0 v13 (ys ++ [o]) ⟨by omega, OccBelow.init⟩ ⟨rfl, rfl, trivial⟩ Cv.p ?_
   rintro m vo zs τ ⟨hm, hB⟩
   refine WP.seq (WP.region (RG.pv rfl (PV.lss rfl rfl rfl) (RG.nil (WP.seq ?_))))
   refine WP.cond rfl (fun h1 => ?_) (fun h1 => ?_)
   · have h1 := of_decide_eq_true h1
     have h2 : m < (elems (gd l.cells.xs o.cell.toNat).insts.xs).length := by omega
     have h2' : m < (elems (gd (erCls l.cells.xs) o.cell.toNat).insts).length := by rw [hce]; exact h2
     have hb := elem_bd hok (k := o.cell.toNat) (by omega) h2'
     have hke := kid_in hok hin (by simp only [erO]; omega) h2'
     have hle := occTo_le (cs := erCls l.cells.xs) (f := f) (o := erO o) (i := m + 1) h2'
     rw [occTo_succ, List.length_append] at hle
     have hlen := hB.len
     simp only [erO] at hke hle hlen htl
     rw [hce] at hb hke hle
     have hb1 := hb.2.1
     have hb2 : (-1000 ≤ (gd (elems (gd l.cells.xs o.cell.toNat).insts.xs) m).place.x ∧ (gd (elems (gd l.cells.xs o.cell.toNat).insts.xs) m).place.x ≤ 1000) ∧ -1000 ≤ (gd (elems (gd l.cells.xs o.cell.toNat).insts.xs) m).place.y ∧ (gd (elems (gd l.cells.xs o.cell.toNat).insts.xs) m).place.y ≤ 1000 := by omega
     refine WP.skip (WP.seq (WP.block (WP.seq (WP.region (RG.ml rfl rfl rfl (RG.pv rfl (PV.idxS (v := v20) rfl Is257 rfl SlF.o rfl rfl (by omega)) (RG.pv rfl (PV.loadE rfl Ag260 rfl rfl (El.o (getG (by omega)))) ?_)))))))
     refine RG.ot rfl (OT.alloc rfl Zr260 fun b8 => ?_)
     refine RG.mr rfl rfl rfl ?_
     refine RG.ot rfl (OT.storeW (vs := [vi _, vi _, vi _, vi _]) rfl Sz260 rfl rfl (Cl.c rfl) rfl rfl (OneC.c rfl) ?_)
     refine RG.nil (WP.seq (WP.region (RG.pv rfl (PV.field rfl Fo138_2 rfl) (RG.pv rfl (PV.load1 rfl Sc26 rfl (Rd.blk rfl)) ?_))))
     refine RG.callF (vs := [_]) rfl rfl En187 rfl (clone_path (OccBelow.rd hB RsE.o) (by omega) (fun v29 => ?_))
     refine RG.ml rfl rfl rfl ?_
     refine RG.ot rfl (OT.bslice (F := intT) (els := [_]) rfl El26 rfl (by decide) rfl (by decide) ⟨rfl, (Cl.c rfl), trivial⟩ fun v31 => ?_)
     refine RG.ot rfl (OT.append (v := v29) (u := v31) (F := intT) rfl El26 rfl (by decide) rfl rfl Rs.o (OneL.c (fun _ => rfl)) rfl (by first | omega | (simp <;> omega)) fun v32 => ?_)
     refine RG.pv rfl (PV.asg (v := v32) rfl rfl) (RG.nil ?_)
     refine WP.regionH (blk b3 31 (libT.enc l) :: blk b5 138 (occT.enc o) :: blk b8 260 (helemT.enc (gd (elems (gd l.cells.xs o.cell.toNat).insts.xs) m)) :: L) (.q 0 (.q 1 (.q 2 (.q 3 (.q 4 (.q 5 (.q 6 (.q 7 (.q 9 (.l 8 (.l 10 (.l 11 (.q 12 Sch.nil))))))))))))) (by kernel_rfl) (by kernel_rfl) (by kernel_rfl) rfl ?_
     refine RH.pv rfl (fun _ _ _ _ h => h) (Gh.le_refl _) PickC.pick rfl (PV.loadW rfl Ag31 rfl rfl) ?_
     refine RH.pv rfl (fun _ _ _ _ h => h) (Gh.le_refl _) PickC.pick rfl (PV.move (v := vo) rfl rfl) ?_
     refine RH.pv rfl (fun _ _ _ _ h => h) (Gh.le_refl _) PickC.pick rfl (PV.field rfl Fo260_0 rfl) ?_
     refine RH.pv rfl (fun _ _ _ _ h => h) (Gh.le_refl _) PickC.pick rfl (PV.load1 rfl Sc2 rfl (Rd.blk rfl)) ?_
     refine RH.pv rfl (fun _ _ _ _ h => h) (Gh.le_refl _) PickC.pick rfl (PV.field rfl Fo260_1 rfl) ?_
     refine RH.pv rfl (fun _ _ _ _ h => h) (Gh.le_refl _) PickC.pick rfl (PV.loadB (vs := [_, _, _]) rfl Ag136 rfl rfl rfl) ?_
     refine RH.pv rfl (fun _ _ _ _ h => h) (Gh.le_refl _) PickC.pick rfl (PV.field rfl Fo138_1 rfl) ?_
     refine RH.pv rfl (fun _ _ _ _ h => h) (Gh.le_refl _) PickC.pick rfl (PV.loadB (vs := [_, _, _]) rfl Ag136 rfl rfl rfl) ?_
     refine RH.pv rfl (fun _ _ _ _ h => h) (Gh.le_refl _) PickC.pick rfl (PV.move (v := v32) rfl rfl) ?_
     refine RH.ot rfl rfl (OT.callF (vs := [_, _]) rfl En188 rfl (compose_i hb1 hb2 hbig ⟨Gh.le_refl _, PickC.pick, ?_⟩))
     refine RH.ot rfl rfl (OT.pv (PV.build (vs := [(0, [vi _]), (1, [vi _, vi _, vi _]), (2, [v32])]) (out := [_, _, _, _, _]) rfl Zr138 Pl138 ⟨rfl, (Cl.c rfl), ⟨rfl, (Cl.c rfl), ⟨rfl, (Cl.s (v := v32) SlF.o), trivial⟩⟩⟩ rfl) ⟨Gh.le_refl _, PickC.pick, ?_⟩)
     refine RH.ot rfl rfl (OT.callF (vs := [_, vo, _]) rfl En133 rfl (CallT.cv (Cv.p (C := osl 138 occT vo zs :: bagS 2 intT (pths zs) :: osl 2 intT v32 (o.path.xs ++ [(m : Int)]) :: osl 260 helemT v20 (elems (gd l.cells.xs o.cell.toNat).insts.xs) :: blk b3 31 (libT.enc l) :: blk b5 138 (occT.enc o) :: blk b8 260 (helemT.enc (gd (elems (gd l.cells.xs o.cell.toNat).insts.xs) m)) :: L)) (ih (l := l) (o := ⟨(gd (elems (gd l.cells.xs o.cell.toNat).insts.xs) m).cell, cmpT (gd (elems (gd l.cells.xs o.cell.toNat).insts.xs) m).place o.place, ⟨v32, o.path.xs ++ [(m : Int)]⟩⟩) (v := vo) (ys := zs) hL.up hok hke (by simp only; omega) (by simp only [List.length_append, List.length_cons, List.length_nil]; omega) (by simp only [erO, kid] at hle ⊢; omega) (fun vn zn hr he => ⟨Gh.le_refl _, PickC.pick, ?_⟩))))
     refine RH.pv rfl (fun _ _ _ _ h => h) (Gh.le_refl _) PickC.pick rfl (PV.asg rfl rfl) ?_
     refine RH.nil ?_
     refine WP.region (RG.pv rfl (PV.add rfl rfl rfl (by omega)) (RG.ml rfl rfl rfl (RG.nil ?_)))
     exact ⟨rfl, m + 1, vn, zn, ⟨by omega, hB.next hr (by rw [hce]; exact he)⟩, ⟨rfl, rfl, trivial⟩, ⟨rfl, rfl, rfl, rfl, trivial⟩, Cv.p, by omega⟩
   · have h1 := of_decide_eq_false h1
     have e : erOs zs = erOs ys ++ occF (erCls l.cells.xs) (f + 1) (erO o) := by
       rw [hB.er, ← occTo_all]
       have : m = (elems (gd (erCls l.cells.xs) (erO o).cell.toNat).insts).length := by simp only [erO]; rw [hce]; omega
       rw [← this]
     refine WP.exit ?_
     refine WP.seq (WP.region (RG.pv rfl (PV.move (v := vo) rfl rfl) (RG.pv rfl (PV.asg (v := vo) rfl rfl) (RG.nil ?_))))
     refine WP.ret ?_
     exact ⟨_, _, ResV.one rfl rfl, Cv.p, k vo zs hB.pre e⟩
theorem below_r : ∀ (f : Nat) {G : Gh} {L : List Ch} {R : Value → Gh → List Ch → Prop} {l : Lib} {o : Occ} {v : Value} {ys : List Occ} (_ : RLib G L l.cells.v l.cells.xs) (_ : okLib (erCls l.cells.xs) = true) (_ : oIn f (erO o)) (_ : o.cell.toNat < l.cells.xs.length) (_ : o.path.xs.length + f ≤ 100) (_ : ys.length + (occF (erCls l.cells.xs) f (erO o)).length ≤ 1000)
   (_ : ∀ v' zs, (∃ r, zs = ys ++ r) → erOs zs = erOs ys ++ occF (erCls l.cells.xs) f (erO o) → R v' G (osl 138 occT v' zs :: bagS 2 intT (pths zs) :: L)), CallT Tryz.prog 102 #[vT libT l, v, vT occT o] G (osl 138 occT v ys :: bagS 2 intT (pths ys) :: osl 2 intT o.path.v o.path.xs :: L) R := by
 intro f
 induction f with
 | zero => intro G L R l o v ys _ _ hin; exact absurd hin.1 (by simp only [erO]; omega)
 | succ f ih =>
   intro G L R l o v ys hL hok hin hcl hpl htl k
   have hE := erCls_len l.cells.xs
   have hbig := oIn_big hin
   have hi1 := hin.1
   have hinc : (0 : Int) ≤ o.cell ∧ o.cell < (f : Int) + 1 := by have := hin.1; simp only [erO] at this; omega
   have hce : (gd (erCls l.cells.xs) o.cell.toNat).insts = (gd l.cells.xs o.cell.toNat).insts.xs := erCl_insts hcl
   have hns : okNs (gd l.cells.xs o.cell.toNat).insts.xs := by rw [← hce]; exact okLib_ns hok (by omega)
   obtain ⟨hn8, kk, hok2⟩ := id hns
   have hEl : (elems (gd l.cells.xs o.cell.toNat).insts.xs).length ≤ 128 := by rw [← hce]; exact elems_len_bd hok (by omega)
   have hol : 1 ≤ (occF (erCls l.cells.xs) (f + 1) (erO o)).length := by rw [occF, List.length_cons]; omega
   refine CallT.enter (args := _) Tryz.func102 rfl rfl (by kernel_rfl) rfl ?_
   refine WP.seq (WP.region ?_)
   refine RG.ot rfl (OT.box (cs := libT.enc l) rfl rfl rfl fun b3 => ?_)
   refine RG.ot rfl (OT.box (cs := occT.enc o) rfl rfl rfl fun b5 => ?_)
   refine RG.pv rfl (PV.asg rfl rfl) (RG.nil (WP.seq (WP.region (RG.pv rfl (PV.move (v := v) rfl rfl) (RG.pv rfl (PV.loadW rfl Ag138 rfl rfl) ?_)))))
   refine RG.ot rfl (OT.bslice (F := occT) (els := [_]) rfl El94 rfl (by decide) rfl (by decide) ⟨rfl, (Cl.c rfl), trivial⟩ fun v15 => ?_)
   refine RG.ot rfl (OT.append (v := v) (u := v15) (F := occT) rfl El94 rfl (by decide) rfl rfl Rs.o (OneL.one (a := o) (OneC.val rfl (OneC.val rfl (OneC.val rfl (OneC.val rfl (OneC.sl SlF.o OneC.nil)))))) rfl (by first | omega | (simp <;> omega)) fun v16 => ?_)
   refine RG.pv rfl (PV.asg (v := v16) rfl rfl) (RG.nil (WP.seq (WP.region (RG.mr rfl rfl rfl (RG.nil (WP.seq (WP.region ?_)))))))
   refine RG.pv rfl (PV.field rfl Fo31_0 rfl) (RG.pv rfl (PV.load1 rfl Sc29 rfl (Rd.blk rfl)) (RG.pv rfl (PV.field rfl Fo138_0 rfl) (RG.pv rfl (PV.load1 rfl Sc2 rfl (Rd.blk rfl)) (RG.pv rfl (PV.idxS (j := o.cell.toNat) rfl Is29 rfl (SlF.r hL.c) rfl (by omega) (by omega)) (RG.pv rfl (PV.field rfl Fo116_3 rfl) (RG.pv rfl (PV.loadF rfl Sc114 rfl rfl (El.r hL.c (getG (by omega))) rfl) (RG.pv rfl (PV.asg rfl rfl) ?_)))))))
   refine RG.nil (WP.seq (WP.seq (WP.region (RG.mr rfl rfl rfl (RG.nil (WP.block ?_))))))
   refine WP.cv ((Cv.p (C := osl 2 intT o.path.v o.path.xs :: bagS 2 intT (pths ys) :: osl 138 occT v16 (ys ++ [o]) :: blk b3 31 (libT.enc l) :: blk b5 138 (occT.enc o) :: L)).trans (Cv.addOcc (zs' := ys ++ [o]) (by simp [pths]))) ?_
   refine WP.loop4 [3, 5, 8] (fun (i : Nat) (e : Int) (vo : Value) (zs : List Occ) => i ≤ (gd l.cells.xs o.cell.toNat).insts.xs.length ∧ e = ((elems ((gd l.cells.xs o.cell.toNat).insts.xs.take i)).length : Int) ∧ OccBelow (erCls l.cells.xs) f o ys (elems ((gd l.cells.xs o.cell.toNat).insts.xs.take i)).length zs) (fun (i : Nat) (e : Int) (vo : Value) (zs : List Occ) => [(9, vi i), (7, vi e), (1, vo)]) (fun (i : Nat) (e : Int) (vo : Value) (zs : List Occ) => osl 138 occT vo zs :: bagS 2 intT (pths zs) :: blk b3 31 (libT.enc l) :: blk b5 138 (occT.enc o) :: L) (fun (i : Nat) (e : Int) (vo : Value) (zs : List Occ) => (gd l.cells.xs o.cell.toNat).insts.xs.length - i) 0 0 v16 (ys ++ [o]) ⟨by omega, by simp [elems], OccBelow.init⟩ ⟨rfl, rfl, rfl, trivial⟩ Cv.p ?_
   rintro i e vo zs τ ⟨hi, he, hB⟩
   refine WP.seq (WP.seq (WP.region (RG.ml rfl rfl rfl (RG.pv rfl (PV.move rfl rfl) (RG.pv rfl (PV.len rfl Tryz.underlying114 rfl (SlF.r (hL.na hcl))) (RG.pv rfl (PV.lss rfl rfl rfl) (RG.nil ?_)))))))
   refine WP.cond rfl (fun h1 => ?_) (fun h1 => ?_)
   · have h1 := of_decide_eq_true h1
     have h2 : i < (gd l.cells.xs o.cell.toNat).insts.xs.length := by omega
     obtain ⟨_, _, q3, q4, _, _⟩ := okIn_bd (hok2 i h2)
     refine WP.skip (WP.seq (WP.block (WP.seq (WP.region (RG.mr rfl rfl rfl (RG.nil (WP.block ?_)))))))
     refine WP.loop4 [3, 5, 8, 9] (fun (r : Nat) (e : Int) (vo : Value) (zs : List Occ) => r ≤ (gd (gd l.cells.xs o.cell.toNat).insts.xs i).rows.toNat ∧ e = (((elems ((gd l.cells.xs o.cell.toNat).insts.xs.take i)).length + r * (gd (gd l.cells.xs o.cell.toNat).insts.xs i).cols.toNat : Nat) : Int) ∧ OccBelow (erCls l.cells.xs) f o ys ((elems ((gd l.cells.xs o.cell.toNat).insts.xs.take i)).length + r * (gd (gd l.cells.xs o.cell.toNat).insts.xs i).cols.toNat) zs) (fun (r : Nat) (e : Int) (vo : Value) (zs : List Occ) => [(10, vi r), (7, vi e), (1, vo)]) (fun (r : Nat) (e : Int) (vo : Value) (zs : List Occ) => osl 138 occT vo zs :: bagS 2 intT (pths zs) :: blk b3 31 (libT.enc l) :: blk b5 138 (occT.enc o) :: L) (fun (r : Nat) (e : Int) (vo : Value) (zs : List Occ) => (gd (gd l.cells.xs o.cell.toNat).insts.xs i).rows.toNat - r) 0 e vo zs ⟨by omega, by rw [Nat.zero_mul]; exact he, by rw [Nat.zero_mul]; exact hB⟩ ⟨rfl, rfl, rfl, trivial⟩ Cv.p ?_
     rintro r e vo zs τ ⟨hr, he, hB⟩
     refine WP.seq (WP.seq (WP.region (RG.ml rfl rfl rfl (RG.pv rfl (PV.move rfl rfl) (RG.ml rfl rfl rfl (RG.pv rfl (PV.idxS rfl Is114 rfl (SlF.r (hL.na hcl)) rfl rfl (by omega)) (RG.pv rfl (PV.field rfl Fo195_3 rfl) ?_)))))))
     refine RG.pv rfl (PV.loadF rfl Sc2 rfl rfl (El.r (hL.na hcl) (getG (by omega))) rfl) (RG.pv rfl (PV.lss rfl rfl rfl) (RG.nil ?_))
     refine WP.cond rfl (fun h3 => ?_) (fun h3 => ?_)
     · have h3 := of_decide_eq_true h3
       refine WP.skip (WP.seq (WP.block (WP.seq (WP.region (RG.mr rfl rfl rfl (RG.nil (WP.block ?_)))))))
       refine WP.loop4 [3, 5, 8, 9, 10] (fun (q : Nat) (e : Int) (vo : Value) (zs : List Occ) => q ≤ (gd (gd l.cells.xs o.cell.toNat).insts.xs i).cols.toNat ∧ e = (((elems ((gd l.cells.xs o.cell.toNat).insts.xs.take i)).length + (r * (gd (gd l.cells.xs o.cell.toNat).insts.xs i).cols.toNat + q) : Nat) : Int) ∧ OccBelow (erCls l.cells.xs) f o ys ((elems ((gd l.cells.xs o.cell.toNat).insts.xs.take i)).length + (r * (gd (gd l.cells.xs o.cell.toNat).insts.xs i).cols.toNat + q)) zs) (fun (q : Nat) (e : Int) (vo : Value) (zs : List Occ) => [(11, vi q), (7, vi e), (1, vo)]) (fun (q : Nat) (e : Int) (vo : Value) (zs : List Occ) => osl 138 occT vo zs :: bagS 2 intT (pths zs) :: blk b3 31 (libT.enc l) :: blk b5 138 (occT.enc o) :: L) (fun (q : Nat) (e : Int) (vo : Value) (zs : List Occ) => (gd (gd l.cells.xs o.cell.toNat).insts.xs i).cols.toNat - q) 0 e vo zs ⟨by omega, he, hB⟩ ⟨rfl, rfl, rfl, trivial⟩ Cv.p ?_
       rintro q e vo zs τ ⟨hq, he, hB⟩
       refine WP.seq (WP.seq (WP.region (RG.ml rfl rfl rfl (RG.pv rfl (PV.move rfl rfl) (RG.ml rfl rfl rfl (RG.pv rfl (PV.idxS rfl Is114 rfl (SlF.r (hL.na hcl)) rfl rfl (by omega)) (RG.pv rfl (PV.field rfl Fo195_2 rfl) ?_)))))))
       refine RG.pv rfl (PV.loadF rfl Sc2 rfl rfl (El.r (hL.na hcl) (getG (by omega))) rfl) (RG.pv rfl (PV.lss rfl rfl rfl) (RG.nil ?_))
       subst he
       refine WP.cond rfl (fun h4 => ?_) (fun h4 => ?_)
       · have h4 := of_decide_eq_true h4
         obtain ⟨hat, hag⟩ := elems_at (ns := (gd l.cells.xs o.cell.toNat).insts.xs) (i := i) (c := q) (r := r) h2 (by omega) (by omega)
         have h2' : (elems ((gd l.cells.xs o.cell.toNat).insts.xs.take i)).length + (r * (gd (gd l.cells.xs o.cell.toNat).insts.xs i).cols.toNat + q) < (elems (gd (erCls l.cells.xs) o.cell.toNat).insts).length := by rw [hce]; exact hat
         have hb := elem_bd hok (k := o.cell.toNat) (by omega) h2'
         have hke := kid_in hok hin (by simp only [erO]; omega) h2'
         have hle := occTo_le (cs := erCls l.cells.xs) (f := f) (o := erO o) (i := (elems ((gd l.cells.xs o.cell.toNat).insts.xs.take i)).length + (r * (gd (gd l.cells.xs o.cell.toNat).insts.xs i).cols.toNat + q) + 1) h2'
         rw [occTo_succ, List.length_append] at hle
         have hlen := hB.len
         simp only [erO] at hke hle hlen htl
         rw [hce, hag] at hb hke hle
         have hb1 := hb.2.1
         have hb2 : (-1000 ≤ (elPlace (gd (gd l.cells.xs o.cell.toNat).insts.xs i) q r).x ∧ (elPlace (gd (gd l.cells.xs o.cell.toNat).insts.xs i) q r).x ≤ 1000) ∧ -1000 ≤ (elPlace (gd (gd l.cells.xs o.cell.toNat).insts.xs i) q r).y ∧ (elPlace (gd (gd l.cells.xs o.cell.toNat).insts.xs i) q r).y ≤ 1000 := by have := hb.2.2; simp only at this; omega
         have hb0 := hb.1
         simp only at hb0 hke hle
         have hrd : Rs G (bagS 2 intT (pths zs) :: []) intT o.path.v o.path.xs := OccBelow.rd hB RsE.o
         refine WP.skip (WP.seq (WP.block (WP.seq (WP.region ?_))))
         refine RG.ot rfl (OT.bslice (F := intT) (els := []) rfl El26 rfl (by decide) rfl (by decide) trivial fun v48 => ?_)
         refine RG.pv rfl (PV.field rfl Fo138_2 rfl) (RG.pv rfl (PV.load1 rfl Sc26 rfl (Rd.blk rfl)) ?_)
         refine RG.ot rfl (OT.append (v := v48) (F := intT) rfl El26 rfl (by decide) rfl rfl (Rs.up hrd) (OneL.c (fun _ => rfl)) rfl (by first | omega | (simp <;> omega)) fun v51 => ?_)
         refine RG.ml rfl rfl rfl ?_
         refine RG.ot rfl (OT.bslice (F := intT) (els := [_]) rfl El26 rfl (by decide) rfl (by decide) ⟨rfl, (Cl.c rfl), trivial⟩ fun v53 => ?_)
         refine RG.ot rfl (OT.append (v := v51) (u := v53) (F := intT) rfl El26 rfl (by decide) rfl rfl Rs.o (OneL.c (fun _ => rfl)) rfl (by first | omega | (simp <;> omega)) fun v54 => ?_)
         refine RG.pv rfl (PV.asg (v := v54) rfl rfl) (RG.nil (WP.seq ?_))
         refine WP.regionH (blk b3 31 (libT.enc l) :: blk b5 138 (occT.enc o) :: L) (.q 0 (.q 1 (.q 2 (.q 3 (.q 4 (.q 5 (.q 6 (.q 7 (.q 8 (.q 9 (.q 10 (.q 11 (.q 12 (.q 13 (.q 14 (.q 17 (.l 15 (.l 16 (.l 18 (.l 19 (.q 20 Sch.nil))))))))))))))))))))) (by kernel_rfl) (by kernel_rfl) (by kernel_rfl) rfl ?_
         refine RH.pv rfl (fun _ _ _ _ h => h) (Gh.le_refl _) PickC.pick rfl (PV.loadW rfl Ag31 rfl rfl) ?_
         refine RH.pv rfl (fun _ _ _ _ h => h) (Gh.le_refl _) PickC.pick rfl (PV.move (v := vo) rfl rfl) ?_
         refine RH.pv rfl (fun _ _ _ _ h => h) (Gh.le_refl _) PickC.pick rfl (PV.move rfl rfl) ?_
         refine RH.pv rfl (fun _ _ _ _ h => h) (Gh.le_refl _) PickC.pick rfl (PV.mvI (.inl rfl) rfl) ?_
         refine RH.pv rfl (fun _ _ _ _ h => h) (Gh.le_refl _) PickC.pick rfl (PV.idxS rfl Is114 rfl (SlF.r (hL.na hcl)) rfl rfl (by omega)) ?_
         refine RH.pv rfl (fun _ _ _ _ h => h) (Gh.le_refl _) PickC.pick rfl (PV.field rfl Fo195_0 rfl) ?_
         refine RH.pv rfl (fun _ _ _ _ h => h) (Gh.le_refl _) PickC.pick rfl (PV.loadF rfl Sc2 rfl rfl (El.r (hL.na hcl) (getG (by omega))) rfl) ?_
         refine RH.pv rfl (fun _ _ _ _ h => h) (Gh.le_refl _) PickC.pick rfl (PV.field rfl Fo138_1 rfl) ?_
         refine RH.pv rfl (fun _ _ _ _ h => h) (Gh.le_refl _) PickC.pick rfl (PV.loadB (vs := [_, _, _]) rfl Ag136 rfl rfl rfl) ?_
         refine RH.pv rfl (fun _ _ _ _ h => h) (Gh.le_refl _) PickC.pick rfl (PV.move rfl rfl) ?_
         refine RH.pv rfl (fun _ _ _ _ h => h) (Gh.le_refl _) PickC.pick rfl (PV.mvI (.inl rfl) rfl) ?_
         refine RH.pv rfl (fun _ _ _ _ h => h) (Gh.le_refl _) PickC.pick rfl (PV.idxS rfl Is114 rfl (SlF.r (hL.na hcl)) rfl rfl (by omega)) ?_
         refine RH.pv rfl (fun _ _ _ _ h => h) (Gh.le_refl _) PickC.pick rfl (PV.loadE rfl Ag195 rfl rfl (El.r (hL.na hcl) (getG (by omega)))) ?_
         refine RH.pv rfl (fun _ _ _ _ h => h) (Gh.le_refl _) PickC.pick rfl (PV.mvI (.inl rfl) rfl) ?_
         refine RH.pv rfl (fun _ _ _ _ h => h) (Gh.le_refl _) PickC.pick rfl (PV.mvI (.inl rfl) rfl) ?_
         refine RH.pv rfl (fun _ _ _ _ h => h) (Gh.le_refl _) PickC.pick rfl (PV.move (v := v54) rfl rfl) ?_
         refine RH.ot rfl rfl (OT.callF (vs := [_, _, _]) rfl En153 rfl (elPlace_r (hok2 i (by omega)) (c := q) (r := r) (by omega) (by omega) ⟨Gh.le_refl _, PickC.pick, ?_⟩))
         refine RH.ot rfl rfl (OT.callF (vs := [_, _]) rfl En152 rfl (l10After_r hb1 hb2 hbig ⟨Gh.le_refl _, PickC.pick, ?_⟩))
         refine RH.ot rfl rfl (OT.pv (PV.build (vs := [(0, [vi _]), (1, [vi _, vi _, vi _]), (2, [v54])]) (out := [_, _, _, _, _]) rfl Zr138 Pl138 ⟨rfl, (Cl.c rfl), ⟨rfl, (Cl.c rfl), ⟨rfl, (Cl.s (v := v54) SlF.o), trivial⟩⟩⟩ rfl) ⟨Gh.le_refl _, PickC.pick, ?_⟩)
         refine RH.ot rfl rfl (OT.callF (vs := [_, vo, _]) rfl En102 rfl (CallT.cv (Cv.p (C := osl 138 occT vo zs :: bagS 2 intT (pths zs) :: osl 2 intT v54 (([] ++ o.path.xs) ++ [(((elems ((gd l.cells.xs o.cell.toNat).insts.xs.take i)).length + (r * (gd (gd l.cells.xs o.cell.toNat).insts.xs i).cols.toNat + q) : Nat) : Int)]) :: blk b3 31 (libT.enc l) :: blk b5 138 (occT.enc o) :: L)) (ih (l := l) (o := ⟨(gd (gd l.cells.xs o.cell.toNat).insts.xs i).cell, cmpT (elPlace (gd (gd l.cells.xs o.cell.toNat).insts.xs i) q r) o.place, ⟨v54, ([] ++ o.path.xs) ++ [(((elems ((gd l.cells.xs o.cell.toNat).insts.xs.take i)).length + (r * (gd (gd l.cells.xs o.cell.toNat).insts.xs i).cols.toNat + q) : Nat) : Int)]⟩⟩) (v := vo) (ys := zs) hL.up hok hke (by simp only; omega) (by simp only [List.nil_append, List.length_append, List.length_cons, List.length_nil]; omega) (by simp only [erO, kid, List.nil_append] at hle ⊢; omega) (fun vn zn hr he => ⟨Gh.le_refl _, PickC.pick, ?_⟩))))
         refine RH.pv rfl (fun _ _ _ _ h => h) (Gh.le_refl _) PickC.pick rfl (PV.asg rfl rfl) ?_
         refine RH.nil ?_
         refine WP.region (RG.ml rfl rfl rfl (RG.pv rfl (PV.add rfl rfl rfl (by omega)) (RG.mr rfl rfl rfl (RG.nil (WP.region (RG.ml rfl rfl rfl (RG.pv rfl (PV.add rfl rfl rfl (by omega)) ?_)))))))
         refine RG.mr rfl rfl rfl (RG.nil ?_)
         exact ⟨rfl, q + 1, _, vn, zn, ⟨by omega, rfl, hB.next hr (by rw [hce, hag]; exact he)⟩, ⟨rfl, rfl, rfl, trivial⟩, ⟨rfl, rfl, rfl, rfl, rfl, trivial⟩, Cv.p, by omega⟩
       · have h4 := of_decide_eq_false h4
         have e1 : (elems ((gd l.cells.xs o.cell.toNat).insts.xs.take i)).length + (r * (gd (gd l.cells.xs o.cell.toNat).insts.xs i).cols.toNat + q) = (elems ((gd l.cells.xs o.cell.toNat).insts.xs.take i)).length + (r + 1) * (gd (gd l.cells.xs o.cell.toNat).insts.xs i).cols.toNat := by rw [Nat.add_mul]; omega
         refine WP.exit ?_
         refine WP.region (RG.ml rfl rfl rfl (RG.pv rfl (PV.add rfl rfl rfl (by omega)) (RG.mr rfl rfl rfl (RG.nil ?_))))
         exact ⟨rfl, r + 1, _, vo, zs, ⟨by omega, by rw [e1], by rw [← e1]; exact hB⟩, ⟨rfl, rfl, rfl, trivial⟩, ⟨rfl, rfl, rfl, rfl, trivial⟩, Cv.p, by omega⟩
     · have h3 := of_decide_eq_false h3
       have e1 : (elems ((gd l.cells.xs o.cell.toNat).insts.xs.take i)).length + r * (gd (gd l.cells.xs o.cell.toNat).insts.xs i).cols.toNat = (elems ((gd l.cells.xs o.cell.toNat).insts.xs.take (i + 1))).length := by rw [elems_take h2, List.length_append, elsOf_len, show r = (gd (gd l.cells.xs o.cell.toNat).insts.xs i).rows.toNat by omega]
       refine WP.exit ?_
       refine WP.region (RG.ml rfl rfl rfl (RG.pv rfl (PV.add rfl rfl rfl (by omega)) (RG.mr rfl rfl rfl (RG.nil ?_))))
       exact ⟨rfl, i + 1, _, vo, zs, ⟨by omega, by rw [he, e1], by rw [← e1]; exact hB⟩, ⟨rfl, rfl, rfl, trivial⟩, ⟨rfl, rfl, rfl, trivial⟩, Cv.p, by omega⟩
   · have h1 := of_decide_eq_false h1
     have e1 : (gd l.cells.xs o.cell.toNat).insts.xs.take i = (gd l.cells.xs o.cell.toNat).insts.xs := List.take_of_length_le (by omega)
     have e2 : erOs zs = erOs ys ++ occF (erCls l.cells.xs) (f + 1) (erO o) := by
       rw [hB.er, ← occTo_all, e1]
       have : (elems (gd l.cells.xs o.cell.toNat).insts.xs).length = (elems (gd (erCls l.cells.xs) (erO o).cell.toNat).insts).length := by simp only [erO]; rw [hce]
       rw [← this]
     refine WP.exit ?_
     refine WP.seq (WP.region (RG.pv rfl (PV.move (v := vo) rfl rfl) (RG.pv rfl (PV.asg (v := vo) rfl rfl) (RG.nil ?_))))
     refine WP.ret ?_
     exact ⟨_, _, ResV.one rfl rfl, Cv.p, k vo zs hB.pre e2⟩
theorem occE_cases {cs : List ECell} {cell : Int} (h : celE cs cell = 0) : okLib cs = true ∧ 0 ≤ cell ∧ cell < cs.length := by
 unfold celE at h
 cases h1 : okLib cs with
 | false => rw [h1] at h; cases h
 | true =>
   cases h2 : within cell 0 ((cs.length : Int) - 1) with
   | false => rw [h1, h2] at h; cases h
   | true => simp only [within, Bool.and_eq_true, decide_eq_true_eq] at h2; exact ⟨rfl, by omega⟩
theorem occE_code {cs : List ECell} {cell : Int} (h : celE cs cell ≠ 0) : occE cs cell = celE cs cell := by
 unfold celE at h ⊢
 unfold occE
 cases h1 : okLib cs with
 | false => rfl
 | true =>
   cases h2 : within cell 0 ((cs.length : Int) - 1) with
   | false => rfl
   | true => rw [h1, h2] at h; exact absurd rfl h
theorem occE_in {cs : List ECell} {cell : Int} (h : okLib cs = true) (hc : 0 ≤ cell ∧ cell < cs.length) : occE cs cell = bif decide (200 < cntOf cs cell.toNat) then 3 else bif (occAll cs cell).any fun o => !validT o.place then 2 else 0 := by
 have : within cell 0 ((cs.length : Int) - 1) = true := by simp [within]; omega
 rw [occE, h, this]; rfl
theorem top_in {cell : Int} {n : Nat} (hc : 0 ≤ cell ∧ cell < n) (h8 : n ≤ 8) : oIn (cell.toNat + 1) (top cell) := by
 refine ⟨by simp only [top]; omega, by simp [top], ?_, ?_⟩ <;> simp only [top] <;> omega
theorem occAny_true {cs : List ECell} {cell : Int} {zs : List Occ} (he : erOs zs = occAll cs cell) {i : Nat} (hi : i < zs.length) (h : validT (gd zs i).place = false) : ((occAll cs cell).any fun o => !validT o.place) = true := by
 rw [← he]
 exact List.any_eq_true.2 ⟨gd (erOs zs) i, gd_mem (by rw [erOs_len]; exact hi), by rw [erOs_gd hi]; simp [erO, h]⟩
theorem occAny_false {cs : List ECell} {cell : Int} {zs : List Occ} (he : erOs zs = occAll cs cell) (h : ∀ i, i < zs.length → validT (gd zs i).place = true) : ((occAll cs cell).any fun o => !validT o.place) = false := by
 rw [← he, List.any_eq_false]
 intro o ho
 obtain ⟨i, hi, rfl⟩ := List.getElem_of_mem ho
 rw [erOs_len] at hi
 rw [← gd_eq (by rw [erOs_len]; exact hi), erOs_gd hi]
 simp [erO, h i hi]
theorem Cv.nilOcc {M : List Ch} {e e' : TypeId} [p : PickC L M] : Cv M (osl e occT (.slice none 0 0) [] :: bagS e' intT (pths []) :: L) := (Cv.pick p.pick).trans ((Cv.bag0 (xs := pths []) rfl).trans Cv.nilS)
theorem occ_i {l : Lib} {cell : Int} (hL : RLib G L l.cells.v l.cells.xs) (hlen : lenC (erCls l.cells.xs)) (k : ∀ v' zs, erOs zs = occR (erCls l.cells.xs) cell → R (.tuple #[v', vi (occE (erCls l.cells.xs) cell)]) G (osl 138 occT v' zs :: bagS 2 intT (pths zs) :: L)) : CallT Tryz.prog 81 #[vT libT l, vi cell] G L R := by
 have hE := erCls_len l.cells.xs
 refine CallT.enter (args := _) Tryz.func81 rfl rfl (by kernel_rfl) rfl ?_
 refine WP.seq (WP.region ?_)
 refine RG.ot rfl (OT.box (cs := libT.enc l) rfl rfl rfl fun b2 => ?_)
 refine RG.pv rfl (PV.asg rfl rfl) (RG.mr rfl rfl rfl (RG.nil (WP.seq (WP.seq (WP.region (RG.pv rfl (PV.loadW rfl Ag31 rfl rfl) (RG.ml rfl rfl rfl ?_)))))))
 refine RG.callF (vs := [_, _]) rfl rfl En131 rfl (celE_i hL.up hlen ?_)
 refine RG.mr rfl rfl rfl (RG.nil (WP.seq (WP.region (RG.ml rfl rfl rfl (RG.pv rfl (PV.neq rfl rfl rfl) (RG.nil ?_))))))
 refine WP.cond rfl (fun h1 => ?_) (fun h1 => ?_)
 · have h1 : celE (erCls l.cells.xs) cell ≠ 0 := by simpa using h1
   have e := occE_code h1
   have k := k (.slice none 0 0) [] (by rw [occR_no (by rw [e]; exact h1)]; rfl)
   rw [e] at k
   refine WP.seq (WP.region (RG.ml rfl rfl rfl (RG.pv rfl (PV.asg rfl rfl) (RG.mr rfl rfl rfl (RG.nil ?_)))))
   refine WP.ret ?_
   exact ⟨_, _, ResV.two rfl rfl rfl, Cv.nilOcc, k⟩
 · have h1 : celE (erCls l.cells.xs) cell = 0 := by simpa using h1
   obtain ⟨hok, hc⟩ := occE_cases h1
   have h8 := okLib_len hok
   have hin := occE_in hok hc
   have hal := occAll_len hok hc
   refine WP.skip (WP.seq (WP.seq (WP.region (RG.pv rfl (PV.loadW rfl Ag31 rfl rfl) (RG.ml rfl rfl rfl ?_)))))
   refine RG.callF (vs := [_, _]) rfl rfl En132 rfl (elCnt_i hL.up hok hc ?_)
   refine RG.pv rfl (PV.gtr rfl rfl rfl) (RG.nil ?_)
   refine WP.cond rfl (fun h2 => ?_) (fun h2 => ?_)
   · have e : occE (erCls l.cells.xs) cell = 3 := by rw [hin, h2]; rfl
     have k := k (.slice none 0 0) [] (by rw [occR_no (by rw [e]; decide)]; rfl)
     rw [e] at k
     refine WP.seq (WP.region (RG.pv rfl (PV.asg rfl rfl) (RG.mr rfl rfl rfl (RG.nil ?_))))
     refine WP.ret ?_
     exact ⟨_, _, ResV.two rfl rfl rfl, Cv.nilOcc, k⟩
   · rw [h2, cond_false] at hin
     have h2 := of_decide_eq_false h2
     have hol : 0 + (occF (erCls l.cells.xs) (cell.toNat + 1) (top cell)).length ≤ 1000 := by rw [occAll] at hal; omega
     refine WP.skip (WP.seq (WP.region (RG.pv rfl (PV.loadW rfl Ag31 rfl rfl) (RG.ml rfl rfl rfl (RG.pv rfl (PV.build (vs := [(0, [vi _])]) (out := [_, _, _, _, _]) rfl Zr138 Pl138 ⟨rfl, (Cl.c rfl), trivial⟩ rfl) ?_)))))
     refine RG.callF (vs := [_, _, _]) rfl rfl En133 rfl (CallT.cv ((Cv.nilS (e := 2) (F := intT)).trans ((Cv.bag0 (e := 2) (F := intT) (xs := pths []) rfl).trans (Cv.nilS (e := 138) (F := occT)))) (below_i (cell.toNat + 1) (l := l) (o := ⟨cell, ⟨0, 0, 0⟩, ⟨.slice none 0 0, []⟩⟩) (ys := []) hL.up hok (top_in hc (by omega)) (by simp only; omega) (by simp only [List.length_nil]; omega) (by simp only [List.length_nil]; exact hol) (fun vn zn hr he => ?_)))
     refine RG.pv rfl (PV.asg (v := vn) rfl rfl) (RG.nil (WP.seq (WP.seq (WP.region (RG.pv rfl (PV.move (v := vn) rfl rfl) (RG.pv rfl (PV.len (v := vn) rfl Tryz.underlying94 rfl SlF.o) (RG.ml rfl rfl rfl ?_)))))))
     refine RG.nil (WP.block ?_)
     have he : erOs zn = occAll (erCls l.cells.xs) cell := he
     have hzl : zn.length ≤ 200 := by
       have := congrArg List.length he
       rw [erOs_len] at this; omega
     refine WP.loop1 [7, 24, 25] (fun i => i ≤ zn.length ∧ ∀ j, j < i → validT (gd zn j).place = true) (fun i => [(26, vi i)]) (fun i => osl 138 occT vn zn :: bagS 2 intT (pths zn) :: L) (fun i => zn.length - i) 0 ⟨by omega, fun j h => by omega⟩ ⟨rfl, trivial⟩ Cv.p ?_
     rintro i τ ⟨hi, hj⟩
     refine WP.seq (WP.region (RG.pv rfl (PV.lss rfl rfl rfl) (RG.nil (WP.seq ?_))))
     refine WP.cond rfl (fun h3 => ?_) (fun h3 => ?_)
     · have h3 := of_decide_eq_true h3
       have h4 : i < zn.length := by omega
       have hrd : Rs G (bagS 2 intT (pths zn) :: []) intT (gd zn i).path.v (gd zn i).path.xs := RsE.path RsE.o h4
       refine WP.skip (WP.seq (WP.block (WP.seq (WP.region (RG.pv rfl (PV.idxS (v := vn) rfl Is94 rfl SlF.o rfl rfl (by omega)) (RG.pv rfl (PV.loadE rfl Ag138 rfl rfl (El.o (getG (by omega)))) ?_))))))
       refine RG.ot rfl (OT.alloc rfl Zr138 fun b9 => ?_)
       refine RG.ot rfl (OT.storeW (vs := [vi _, vi _, vi _, vi _, _]) rfl Sz138 rfl rfl (Cl.c rfl) rfl rfl (OneC.val rfl (OneC.val rfl (OneC.val rfl (OneC.val rfl (OneC.sl (SlF.r hrd) OneC.nil))))) ?_)
       refine RG.nil (WP.seq (WP.region (RG.pv rfl (PV.field rfl Fo138_1 rfl) (RG.pv rfl (PV.loadB (vs := [_, _, _]) rfl Ag136 rfl rfl rfl) ?_))))
       refine RG.callF (vs := [_]) rfl rfl En134 rfl (validT_i ?_)
       refine RG.pv rfl (PV.not rfl rfl) (RG.nil ?_)
       refine WP.cond rfl (fun h5 => ?_) (fun h5 => ?_)
       · have e : occE (erCls l.cells.xs) cell = 2 := by rw [hin, occAny_true he h4 (by simpa using h5)]; rfl
         have k := k (.slice none 0 0) [] (by rw [occR_no (by rw [e]; decide)]; rfl)
         rw [e] at k
         refine WP.seq (WP.region (RG.pv rfl (PV.asg rfl rfl) (RG.mr rfl rfl rfl (RG.nil ?_))))
         refine WP.ret ?_
         exact ⟨_, _, ResV.two rfl rfl rfl, Cv.nilOcc, k⟩
       · have hj' : ∀ j, j < i + 1 → validT (gd zn j).place = true := fun j h => by
           by_cases c : j = i
           · rw [c]; simpa using h5
           · exact hj j (by omega)
         refine WP.skip (WP.region (RG.pv rfl (PV.add rfl rfl rfl (by omega)) (RG.ml rfl rfl rfl (RG.nil ?_))))
         exact ⟨rfl, i + 1, ⟨by omega, hj'⟩, ⟨rfl, trivial⟩, ⟨rfl, rfl, rfl, trivial⟩, Cv.p, by omega⟩
     · have h3 := of_decide_eq_false h3
       have e : occE (erCls l.cells.xs) cell = 0 := by rw [hin, occAny_false he (fun j h => hj j (by omega))]; rfl
       have k := k vn zn (by rw [occR_ok e, he])
       rw [e] at k
       refine WP.exit ?_
       refine WP.seq (WP.region (RG.pv rfl (PV.move (v := vn) rfl rfl) (RG.pv rfl (PV.asg (v := vn) rfl rfl) (RG.mr rfl rfl rfl (RG.nil ?_)))))
       refine WP.ret ?_
       exact ⟨_, _, ResV.two rfl rfl rfl, Cv.p, k⟩
theorem occ_r {l : Lib} {cell : Int} (hL : RLib G L l.cells.v l.cells.xs) (hlen : lenC (erCls l.cells.xs)) (k : ∀ v' zs, erOs zs = occR (erCls l.cells.xs) cell → R (.tuple #[v', vi (occE (erCls l.cells.xs) cell)]) G (osl 138 occT v' zs :: bagS 2 intT (pths zs) :: L)) : CallT Tryz.prog 55 #[vT libT l, vi cell] G L R := by
 have hE := erCls_len l.cells.xs
 refine CallT.enter (args := _) Tryz.func55 rfl rfl (by kernel_rfl) rfl ?_
 refine WP.seq (WP.region ?_)
 refine RG.ot rfl (OT.box (cs := libT.enc l) rfl rfl rfl fun b2 => ?_)
 refine RG.pv rfl (PV.asg rfl rfl) (RG.mr rfl rfl rfl (RG.nil (WP.seq (WP.block (WP.seq (WP.region (RG.pv rfl (PV.loadW rfl Ag31 rfl rfl) ?_)))))))
 refine RG.callF (vs := [_]) rfl rfl En99 rfl (okLib_r hL.up hlen ?_)
 refine RG.pv rfl (PV.not rfl rfl) (RG.br rfl rfl rfl (RG.nil ?_))
 refine WP.cond rfl (fun h0 => ?_) (fun h0 => ?_)
 · have e : occE (erCls l.cells.xs) cell = 1 := by rw [occE, h0]; rfl
   have k := k (.slice none 0 0) [] (by rw [occR_no (by rw [e]; decide)]; rfl)
   rw [e] at k
   refine WP.seq (WP.region (RG.pv rfl (PV.asg rfl rfl) (RG.mr rfl rfl rfl (RG.nil ?_))))
   refine WP.ret ?_
   exact ⟨_, _, ResV.two rfl rfl rfl, Cv.nilOcc, k⟩
 · have hok : okLib (erCls l.cells.xs) = true := by simpa using h0
   refine WP.seq (WP.region (RG.pv rfl (PV.loadW rfl Ag31 rfl rfl) (RG.ml rfl rfl rfl ?_)))
   refine RG.callF (vs := [_, _]) rfl rfl En100 rfl (hasCl_r hL.up hlen ?_)
   refine RG.pv rfl (PV.not rfl rfl) (RG.br rfl rfl rfl (RG.nil ?_))
   refine WP.cond rfl (fun h1 => ?_) (fun h1 => ?_)
   · have hw : within cell 0 (((erCls l.cells.xs).length : Int) - 1) = false := by simpa [hasCl, hok] using h1
     have e : occE (erCls l.cells.xs) cell = 5 := by rw [occE, hok, hw]; rfl
     have k := k (.slice none 0 0) [] (by rw [occR_no (by rw [e]; decide)]; rfl)
     rw [e] at k
     refine WP.seq (WP.region (RG.pv rfl (PV.asg rfl rfl) (RG.mr rfl rfl rfl (RG.nil ?_))))
     refine WP.ret ?_
     exact ⟨_, _, ResV.two rfl rfl rfl, Cv.nilOcc, k⟩
   · have hw : within cell 0 (((erCls l.cells.xs).length : Int) - 1) = true := by simpa [hasCl, hok] using h1
     have hc : 0 ≤ cell ∧ cell < (erCls l.cells.xs).length := by simp only [within, Bool.and_eq_true, decide_eq_true_eq] at hw; omega
     have h8 := okLib_len hok
     have hin := occE_in hok hc
     have hal := occAll_len hok hc
     refine WP.seq (WP.region (RG.pv rfl (PV.loadW rfl Ag31 rfl rfl) (RG.ml rfl rfl rfl ?_)))
     refine RG.callF (vs := [_, _]) rfl rfl En101 rfl (elCnt_r hL.up hlen hok hc ?_)
     refine RG.pv rfl (PV.gtr rfl rfl rfl) (RG.br rfl rfl rfl (RG.nil ?_))
     refine WP.cond rfl (fun h2 => ?_) (fun h2 => ?_)
     · have e : occE (erCls l.cells.xs) cell = 3 := by rw [hin, h2]; rfl
       have k := k (.slice none 0 0) [] (by rw [occR_no (by rw [e]; decide)]; rfl)
       rw [e] at k
       refine WP.seq (WP.region (RG.pv rfl (PV.asg rfl rfl) (RG.mr rfl rfl rfl (RG.nil ?_))))
       refine WP.ret ?_
       exact ⟨_, _, ResV.two rfl rfl rfl, Cv.nilOcc, k⟩
     · rw [h2, cond_false] at hin
       have h2 := of_decide_eq_false h2
       have hol : 0 + (occF (erCls l.cells.xs) (cell.toNat + 1) (top cell)).length ≤ 1000 := by rw [occAll] at hal; omega
       refine WP.skip (WP.seq (WP.region (RG.pv rfl (PV.loadW rfl Ag31 rfl rfl) ?_)))
       refine RG.ot rfl (OT.bslice (F := occT) (els := []) rfl El94 rfl (by decide) rfl (by decide) trivial fun v23 => ?_)
       refine RG.ml rfl rfl rfl (RG.pv rfl (PV.build (vs := [(0, [vi _])]) (out := [_, _, _, _, _]) rfl Zr138 Pl138 ⟨rfl, (Cl.c rfl), trivial⟩ rfl) ?_)
       refine RG.callF (vs := [_, v23, _]) rfl rfl En102 rfl (CallT.cv ((Cv.nilS (e := 2) (F := intT)).trans ((Cv.bag0 (e := 2) (F := intT) (xs := pths []) rfl).trans (Cv.p (C := osl 138 occT v23 [] :: bagS 2 intT (pths []) :: osl 2 intT (.slice none 0 0) [] :: L)))) (below_r (cell.toNat + 1) (l := l) (o := ⟨cell, ⟨0, 0, 0⟩, ⟨.slice none 0 0, []⟩⟩) (ys := []) hL hok (top_in hc (by omega)) (by simp only; omega) (by simp only [List.length_nil]; omega) (by simp only [List.length_nil]; exact hol) (fun vn zn hr he => ?_)))
       refine RG.pv rfl (PV.asg (v := vn) rfl rfl) (RG.nil (WP.seq (WP.seq (WP.region (RG.mr rfl rfl rfl (RG.nil (WP.block ?_)))))))
       have he : erOs zn = occAll (erCls l.cells.xs) cell := he
       have hzl : zn.length ≤ 200 := by
         have := congrArg List.length he
         rw [erOs_len] at this; omega
       refine WP.loop1 [6] (fun i => i ≤ zn.length ∧ ∀ j, j < i → validT (gd zn j).place = true) (fun i => [(7, vi i)]) (fun i => osl 138 occT vn zn :: bagS 2 intT (pths zn) :: L) (fun i => zn.length - i) 0 ⟨by omega, fun j h => by omega⟩ ⟨rfl, trivial⟩ Cv.p ?_
       rintro i τ ⟨hi, hj⟩
       refine WP.seq (WP.seq (WP.region (RG.ml rfl rfl rfl (RG.pv rfl (PV.move (v := vn) rfl rfl) (RG.pv rfl (PV.len (v := vn) rfl Tryz.underlying94 rfl SlF.o) (RG.pv rfl (PV.lss rfl rfl rfl) (RG.nil ?_)))))))
       refine WP.cond rfl (fun h3 => ?_) (fun h3 => ?_)
       · have h3 := of_decide_eq_true h3
         have h4 : i < zn.length := by omega
         refine WP.skip (WP.seq (WP.block (WP.seq (WP.region (RG.pv rfl (PV.move (v := vn) rfl rfl) (RG.ml rfl rfl rfl (RG.pv rfl (PV.idxS (v := vn) rfl Is94 rfl SlF.o rfl rfl (by omega)) ?_)))))))
         refine RG.pv rfl (PV.field rfl Fo138_1 rfl) (RG.pv rfl (PV.loadEP rfl Ag136 rfl rfl (El.o (getG (by omega))) rfl) ?_)
         refine RG.callF (vs := [_]) rfl rfl En103 rfl (l09Trans_r ?_)
         refine RG.pv rfl (PV.not rfl rfl) (RG.nil ?_)
         refine WP.cond rfl (fun h5 => ?_) (fun h5 => ?_)
         · have e : occE (erCls l.cells.xs) cell = 2 := by rw [hin, occAny_true he h4 (by simpa using h5)]; rfl
           have k := k (.slice none 0 0) [] (by rw [occR_no (by rw [e]; decide)]; rfl)
           rw [e] at k
           refine WP.seq (WP.region (RG.pv rfl (PV.asg rfl rfl) (RG.mr rfl rfl rfl (RG.nil ?_))))
           refine WP.ret ?_
           exact ⟨_, _, ResV.two rfl rfl rfl, Cv.nilOcc, k⟩
         · have hj' : ∀ j, j < i + 1 → validT (gd zn j).place = true := fun j h => by
             by_cases c : j = i
             · rw [c]; simpa using h5
             · exact hj j (by omega)
           refine WP.skip (WP.region (RG.ml rfl rfl rfl (RG.pv rfl (PV.add rfl rfl rfl (by omega)) (RG.mr rfl rfl rfl (RG.nil ?_)))))
           exact ⟨rfl, i + 1, ⟨by omega, hj'⟩, ⟨rfl, trivial⟩, ⟨rfl, trivial⟩, Cv.p, by omega⟩
       · have h3 := of_decide_eq_false h3
         have e : occE (erCls l.cells.xs) cell = 0 := by rw [hin, occAny_false he (fun j h => hj j (by omega))]; rfl
         have k := k vn zn (by rw [occR_ok e, he])
         rw [e] at k
         refine WP.exit ?_
         refine WP.seq (WP.region (RG.pv rfl (PV.move (v := vn) rfl rfl) (RG.pv rfl (PV.asg (v := vn) rfl rfl) (RG.mr rfl rfl rfl (RG.nil ?_)))))
         refine WP.ret ?_
         exact ⟨_, _, ResV.two rfl rfl rfl, Cv.p, k⟩
end Go.Proofs.YthhjapiggekjbaaGreat
namespace Go.Proofs.YthhjapiggekjbaaGreat
set_option linter.unusedVariables false
set_option linter.unusedSimpArgs false
open Go
set_option maxRecDepth 20000
set_option linter.unusedSimpArgs false
variable {G : Gh} {L : List Ch} {R : Value → Gh → List Ch → Prop}
theorem flat_mem {cs : List ECell} {os : List EOcc} {i m : Nat} (hi : i < os.length) (hm : m < (gd cs (gd os i).cell.toNat).shapes.length) : (⟨(gd (gd cs (gd os i).cell.toNat).shapes m).layer, moveR (gd os i).place (gd (gd cs (gd os i).cell.toNat).shapes m).box⟩ : Shape) ∈ flatL cs os :=
 List.mem_flatMap.2 ⟨gd os i, gd_mem hi, List.mem_map.2 ⟨_, gd_mem hm, rfl⟩⟩
theorem flat_bad {cs : List ECell} {os : List EOcc} {i m : Nat} (hi : i < os.length) (hm : m < (gd cs (gd os i).cell.toNat).shapes.length) (h : validRect (moveR (gd os i).place (gd (gd cs (gd os i).cell.toNat).shapes m).box) = false) : ((flatL cs os).any fun s => !validRect s.box) = true :=
 List.any_eq_true.2 ⟨_, flat_mem hi hm, by simp [h]⟩
theorem flat_good {cs : List ECell} {os : List EOcc} (h : ∀ i, i < os.length → ∀ m, m < (gd cs (gd os i).cell.toNat).shapes.length → validRect (moveR (gd os i).place (gd (gd cs (gd os i).cell.toNat).shapes m).box) = true) : ((flatL cs os).any fun s => !validRect s.box) = false := by
 rw [List.any_eq_false]
 intro s hs
 obtain ⟨o, ho, hs⟩ := List.mem_flatMap.1 hs
 obtain ⟨i, hi, rfl⟩ := List.getElem_of_mem ho
 obtain ⟨q, hq, rfl⟩ := List.mem_map.1 hs
 obtain ⟨m, hm, rfl⟩ := List.getElem_of_mem hq
 have := h i hi m (by rw [gd_eq hi]; exact hm)
 rw [gd_eq hi, gd_eq hm] at this
 simp [this]
theorem shE_occ {cs : List ECell} {cell : Int} (h : occE cs cell ≠ 0) : shE cs cell = occE cs cell := by rw [shE, decide_eq_false h]; rfl
theorem shE_flat {cs : List ECell} {cell : Int} (h : occE cs cell = 0) : shE cs cell = bif (flatL cs (occR cs cell)).any fun s => !validRect s.box then 2 else 0 := by rw [shE, decide_eq_true h]; rfl
/-- what an occurrence gives -/
structure OccAt (xs : List Cell) (cell : Int) (zs : List Occ) (i : Nat) : Prop where
  hc : 0 ≤ (gd zs i).cell ∧ (gd zs i).cell.toNat < xs.length
  ho : gd (occR (erCls xs) cell) i = erO (gd zs i)
  hi : i < (occR (erCls xs) cell).length
  hp : (0 ≤ (gd zs i).place.o ∧ (gd zs i).place.o ≤ 7) ∧ -1000 ≤ (gd zs i).place.x ∧ (gd zs i).place.x ≤ 1000 ∧ -1000 ≤ (gd zs i).place.y ∧ (gd zs i).place.y ≤ 1000
  hs : (gd (erCls xs) (gd zs i).cell.toNat).shapes = (gd xs (gd zs i).cell.toNat).shapes.xs
  hb : ∀ m, m < (gd xs (gd zs i).cell.toNat).shapes.xs.length → RIn 40 (gd (gd xs (gd zs i).cell.toNat).shapes.xs m).box
  hl : (gd xs (gd zs i).cell.toNat).shapes.xs.length ≤ 24 ∧ (occR (erCls xs) cell).length ≤ 200
theorem OccAt.of {xs : List Cell} {cell : Int} {zs : List Occ} (he : erOs zs = occR (erCls xs) cell) {i : Nat} (hi : i < zs.length) : OccAt xs cell zs i := by
 have hl : zs.length = (occR (erCls xs) cell).length := by rw [← he, erOs_len]
 have ho : gd (occR (erCls xs) cell) i = erO (gd zs i) := by rw [← he, erOs_gd hi]
 obtain ⟨h1, h2, h3, h4⟩ := occR_cell (cs := erCls xs) (cell := cell) (i := i) (by omega)
 rw [ho] at h2 h3
 simp only [erO] at h2 h3
 have hE := erCls_len xs
 obtain ⟨q1, q2, q3⟩ := validT_iff.1 h3
 have hs : (gd (erCls xs) (gd zs i).cell.toNat).shapes = (gd xs (gd zs i).cell.toNat).shapes.xs := by rw [erCls_gd (by omega)]; rfl
 refine ⟨by omega, ho, by omega, by omega, hs, fun m hm => ?_, ?_⟩
 · have := okLib_shape h1 (i := (gd zs i).cell.toNat) (j := m) (by omega) (by rw [hs]; exact hm)
   rw [hs] at this
   simp only [okSh, Bool.and_eq_true] at this
   exact validR_in this.2
 · have := (okLib_cnt h1 (i := (gd zs i).cell.toNat) (by omega)).2
   rw [hs] at this
   exact ⟨this, h4⟩
theorem OccAt.step {xs : List Cell} {cell : Int} {zs : List Occ} {i m : Nat} (h : OccAt xs cell zs i) (hm : m < (gd xs (gd zs i).cell.toNat).shapes.xs.length) :
   (flatOf (erCls xs) (gd (occR (erCls xs) cell) i)).take (m + 1) = (flatOf (erCls xs) (gd (occR (erCls xs) cell) i)).take m ++ [⟨(gd (gd xs (gd zs i).cell.toNat).shapes.xs m).layer, moveR (gd zs i).place (gd (gd xs (gd zs i).cell.toNat).shapes.xs m).box⟩] := by
 have := flatOf_step (cs := erCls xs) (o := gd (occR (erCls xs) cell) i) (k := m) (by rw [h.ho]; simp only [erO]; rw [h.hs]; exact hm)
 rw [this, h.ho]
 simp only [erO, h.hs]
theorem OccAt.len {xs : List Cell} {cell : Int} {zs : List Occ} {i : Nat} (h : OccAt xs cell zs i) : (flatOf (erCls xs) (gd (occR (erCls xs) cell) i)).length = (gd xs (gd zs i).cell.toNat).shapes.xs.length := by
 rw [flatOf_len, h.ho]; simp only [erO, h.hs]
/-- shapes of the occurrences before the i-th are valid -/
def goodTo (cs : List ECell) (os : List EOcc) (i : Nat) : Prop := ∀ j, j < i → ∀ m, m < (gd cs (gd os j).cell.toNat).shapes.length → validRect (moveR (gd os j).place (gd (gd cs (gd os j).cell.toNat).shapes m).box) = true
theorem goodTo.next {xs : List Cell} {cell : Int} {zs : List Occ} {i : Nat} (h : goodTo (erCls xs) (occR (erCls xs) cell) i) (ha : OccAt xs cell zs i) (hm : ∀ m, m < (gd xs (gd zs i).cell.toNat).shapes.xs.length → validRect (moveR (gd zs i).place (gd (gd xs (gd zs i).cell.toNat).shapes.xs m).box) = true) : goodTo (erCls xs) (occR (erCls xs) cell) (i + 1) := by
 intro j hj m hm2
 by_cases c : j = i
 · subst c
   rw [ha.ho] at hm2 ⊢
   simp only [erO, ha.hs] at hm2 ⊢
   exact hm m hm2
 · exact h j (by omega) m hm2
theorem OccAt.bad {xs : List Cell} {cell : Int} {zs : List Occ} {i m : Nat} (ha : OccAt xs cell zs i) (hm : m < (gd xs (gd zs i).cell.toNat).shapes.xs.length) (h : validRect (moveR (gd zs i).place (gd (gd xs (gd zs i).cell.toNat).shapes.xs m).box) = false) : ((flatL (erCls xs) (occR (erCls xs) cell)).any fun s => !validRect s.box) = true := by
 refine flat_bad (i := i) (m := m) ha.hi ?_ ?_
 · rw [ha.ho]; simp only [erO, ha.hs]; exact hm
 · rw [ha.ho]; simp only [erO, ha.hs]; exact h
theorem flat_i {l : Lib} {cell : Int} (hL : RLib G L l.cells.v l.cells.xs) (hlen : lenC (erCls l.cells.xs)) (k : ∀ v', R (.tuple #[v', vi (shE (erCls l.cells.xs) cell)]) G (osl 142 shapeT v' (shR (erCls l.cells.xs) cell) :: L)) : CallT Tryz.prog 45 #[vT libT l, vi cell] G L R := by
 have hE := erCls_len l.cells.xs
 refine CallT.enter (args := _) Tryz.func45 rfl rfl (by kernel_rfl) rfl ?_
 refine WP.seq (WP.region ?_)
 refine RG.ot rfl (OT.box (cs := libT.enc l) rfl rfl rfl fun b2 => ?_)
 refine RG.pv rfl (PV.asg rfl rfl) (RG.mr rfl rfl rfl (RG.nil (WP.seq (WP.region (RG.pv rfl (PV.loadW rfl Ag31 rfl rfl) (RG.ml rfl rfl rfl ?_))))))
 refine RG.callF (vs := [_, _]) rfl rfl En81 rfl (occ_i hL.up hlen (fun w17 zs he => ?_))
 refine RG.pv rfl (PV.move (v := .tuple _) rfl rfl) (RG.pv rfl (PV.ext (v := w17) rfl rfl rfl) (RG.pv rfl (PV.ext rfl rfl rfl) (RG.pv rfl (PV.asg (v := w17) rfl rfl) (RG.mr rfl rfl rfl (RG.nil (WP.seq (WP.seq ?_)))))))
 refine WP.region (RG.ml rfl rfl rfl (RG.pv rfl (PV.neq rfl rfl rfl) (RG.nil ?_)))
 refine WP.cond rfl (fun h1 => ?_) (fun h1 => ?_)
 · have h1 : occE (erCls l.cells.xs) cell ≠ 0 := by simpa using h1
   have e := shE_occ h1
   have e2 : shR (erCls l.cells.xs) cell = [] := shR_no (by rw [e]; exact h1)
   rw [e, e2] at k
   refine WP.seq (WP.region (RG.ml rfl rfl rfl (RG.pv rfl (PV.asg rfl rfl) (RG.mr rfl rfl rfl (RG.nil ?_)))))
   refine WP.ret ?_
   exact ⟨_, _, ResV.two rfl rfl rfl, Cv.p.trans Cv.nilS, k (.slice none 0 0)⟩
 · have h1 : occE (erCls l.cells.xs) cell = 0 := by simpa using h1
   have hse := shE_flat h1
   have hzl : zs.length = (occR (erCls l.cells.xs) cell).length := by rw [← he, erOs_len]
   refine WP.skip (WP.seq (WP.region ?_))
   refine RG.ot rfl (OT.bslice (F := shapeT) (els := []) rfl El83 rfl (by decide) rfl (by decide) trivial fun v23 => ?_)
   refine RG.pv rfl (PV.asg (v := v23) rfl rfl) (RG.nil (WP.seq (WP.seq (WP.region (RG.pv rfl (PV.move (v := w17) rfl rfl) (RG.pv rfl (PV.len (v := w17) rfl Tryz.underlying94 rfl SlF.o) (RG.ml rfl rfl rfl ?_)))))))
   refine RG.nil (WP.block ?_)
   refine WP.bdo w17 fun hbz => ?_
   refine WP.cv (Cv.eqS (ys := flatL (erCls l.cells.xs) ((occR (erCls l.cells.xs) cell).take 0)) rfl) ?_
   refine WP.loop2 [2, 24, 25] (fun (i : Nat) (v : Value) => i ≤ zs.length ∧ goodTo (erCls l.cells.xs) (occR (erCls l.cells.xs) cell) i) (fun (i : Nat) (v : Value) => [(26, vi i), (8, v)]) (fun (i : Nat) (v : Value) => osl 142 shapeT v (flatL (erCls l.cells.xs) ((occR (erCls l.cells.xs) cell).take i)) :: osl 138 occT w17 zs :: bagS 2 intT (pths zs) :: blk b2 31 (libT.enc l) :: L) (fun (i : Nat) (v : Value) => zs.length - i) 0 v23 ⟨by omega, fun j h => by omega⟩ ⟨rfl, rfl, trivial⟩ Cv.p ?_
   rintro i v τ ⟨hi, hg⟩
   refine WP.seq (WP.region (RG.pv rfl (PV.lss rfl rfl rfl) (RG.nil (WP.seq ?_))))
   have hfb := flatL_bd (cs := (erCls l.cells.xs)) (cell := cell) i (by omega)
   refine WP.cond rfl (fun h2 => ?_) (fun h2 => ?_)
   · have h2 := of_decide_eq_true h2
     have h3 : i < zs.length := by omega
     have ha := OccAt.of (cell := cell) he h3
     have hrd : Rs G (bagS 2 intT (pths zs) :: []) intT (gd zs i).path.v (gd zs i).path.xs := RsE.path RsE.o h3
     have hac := ha.hc
     have hal := ha.hl
     have hsl := hL.sa ha.hc.2
     refine WP.skip (WP.seq (WP.block (WP.seq (WP.region (RG.pv rfl (PV.idxS (v := w17) rfl Is94 rfl SlF.o rfl rfl (by omega)) (RG.pv rfl (PV.loadE rfl Ag138 rfl rfl (El.o (getG (by omega)))) ?_))))))
     refine RG.ot rfl (OT.alloc rfl Zr138 fun b10 => ?_)
     refine RG.ot rfl (OT.storeW (vs := [vi _, vi _, vi _, vi _, _]) rfl Sz138 rfl rfl (Cl.c rfl) rfl rfl (OneC.val rfl (OneC.val rfl (OneC.val rfl (OneC.val rfl (OneC.sl (SlF.r hrd) OneC.nil))))) ?_)
     refine RG.nil (WP.seq (WP.region (RG.pv rfl (PV.field rfl Fo31_0 rfl) (RG.pv rfl (PV.load1 rfl Sc29 rfl (Rd.blk rfl)) (RG.pv rfl (PV.field rfl Fo138_0 rfl) (RG.pv rfl (PV.load1 rfl Sc2 rfl (Rd.blk rfl)) (RG.pv rfl (PV.idxS (j := (gd zs i).cell.toNat) rfl Is29 rfl (SlF.r hL.c) rfl (by omega) (by omega)) ?_)))))))
     refine RG.pv rfl (PV.field rfl Fo116_1 rfl) (RG.pv rfl (PV.loadF rfl Sc83 rfl rfl (El.r hL.c (getG (by omega))) rfl) (RG.pv rfl (PV.len rfl Tryz.underlying83 rfl (SlF.r hsl)) (RG.ml rfl rfl rfl (RG.nil (WP.block ?_)))))
     refine WP.cv ((Cv.p (C := osl 142 shapeT v (flatL (erCls l.cells.xs) ((occR (erCls l.cells.xs) cell).take i)) :: osl 138 occT w17 zs :: bagS 2 intT (pths zs) :: blk b2 31 (libT.enc l) :: blk b10 138 (occT.enc (gd zs i)) :: L)).trans (Cv.eqS (ys := flatL (erCls l.cells.xs) ((occR (erCls l.cells.xs) cell).take i) ++ (flatOf (erCls l.cells.xs) (gd (occR (erCls l.cells.xs) cell) i)).take 0) (by simp))) ?_
     refine WP.loop2 [2, 10, 24, 25, 26, 36, 37] (fun (m : Nat) (v : Value) => m ≤ (gd l.cells.xs (gd zs i).cell.toNat).shapes.xs.length ∧ ∀ j, j < m → validRect (moveR (gd zs i).place (gd (gd l.cells.xs (gd zs i).cell.toNat).shapes.xs j).box) = true) (fun (m : Nat) (v : Value) => [(38, vi m), (8, v)]) (fun (m : Nat) (v : Value) => osl 142 shapeT v (flatL (erCls l.cells.xs) ((occR (erCls l.cells.xs) cell).take i) ++ (flatOf (erCls l.cells.xs) (gd (occR (erCls l.cells.xs) cell) i)).take m) :: osl 138 occT w17 zs :: bagS 2 intT (pths zs) :: blk b2 31 (libT.enc l) :: blk b10 138 (occT.enc (gd zs i)) :: L) (fun (m : Nat) (v : Value) => (gd l.cells.xs (gd zs i).cell.toNat).shapes.xs.length - m) 0 v ⟨by omega, fun j h => by omega⟩ ⟨rfl, rfl, trivial⟩ Cv.p ?_
     rintro m v τ ⟨hm, hq⟩
     refine WP.seq (WP.region (RG.pv rfl (PV.lss rfl rfl rfl) (RG.nil (WP.seq ?_))))
     refine WP.cond rfl (fun h4 => ?_) (fun h4 => ?_)
     · have h4 := of_decide_eq_true h4
       have hst := ha.step (m := m) (by omega)
       have hll : (flatL (erCls l.cells.xs) ((occR (erCls l.cells.xs) cell).take i) ++ (flatOf (erCls l.cells.xs) (gd (occR (erCls l.cells.xs) cell) i)).take m).length ≤ 6000 := by rw [List.length_append, List.length_take]; omega
       refine WP.skip (WP.seq (WP.block (WP.seq (WP.region (RG.pv rfl (PV.idxS rfl Is83 rfl (SlF.r hsl) rfl rfl (by omega)) (RG.pv rfl (PV.loadE rfl Ag142 rfl rfl (El.r hsl (getG (by omega)))) ?_))))))
       refine RG.ot rfl (OT.alloc rfl Zr142 fun b12 => ?_)
       refine RG.ot rfl (OT.storeW (vs := [vi _, vi _, vi _, vi _, vi _]) rfl Sz142 rfl rfl (Cl.c rfl) rfl rfl (OneC.c rfl) ?_)
       refine RG.nil (WP.seq (WP.region (RG.pv rfl (PV.field rfl Fo138_1 rfl) (RG.pv rfl (PV.loadB (vs := [_, _, _]) rfl Ag136 rfl rfl rfl) (RG.pv rfl (PV.field rfl Fo142_1 rfl) (RG.pv rfl (PV.loadB (vs := [_, _, _, _]) rfl Ag140 rfl rfl rfl) ?_))))))
       refine RG.callF (vs := [_, _]) rfl rfl En82 rfl (moveRect_s ha.hp.1 ha.hp.2 (ha.hb m (by omega)) ?_)
       refine RG.ot rfl (OT.alloc rfl Zr140 fun b13 => ?_)
       refine RG.ot rfl (OT.storeW (vs := [vi _, vi _, vi _, vi _]) rfl Sz140 rfl rfl (Cl.c rfl) rfl rfl (OneC.c rfl) ?_)
       refine RG.nil (WP.seq (WP.seq (WP.region (RG.pv rfl (PV.loadW rfl Ag140 rfl rfl) ?_))))
       refine RG.callF (vs := [_]) rfl rfl En83 rfl (validRect_s ?_)
       refine RG.pv rfl (PV.not rfl rfl) (RG.nil ?_)
       refine WP.cond rfl (fun h5 => ?_) (fun h5 => ?_)
       · have e : shE (erCls l.cells.xs) cell = 2 := by rw [hse, ha.bad (m := m) (by omega) (by simpa using h5)]; rfl
         have e2 : shR (erCls l.cells.xs) cell = [] := shR_no (by rw [e]; decide)
         rw [e, e2] at k
         refine WP.seq (WP.region (RG.pv rfl (PV.asg rfl rfl) (RG.mr rfl rfl rfl (RG.nil ?_))))
         refine WP.ret ?_
         exact ⟨_, _, ResV.two rfl rfl rfl, Cv.p.trans Cv.nilS, k (.slice none 0 0)⟩
       · have hq' : ∀ j, j < m + 1 → validRect (moveR (gd zs i).place (gd (gd l.cells.xs (gd zs i).cell.toNat).shapes.xs j).box) = true := fun j h => by
           by_cases c : j = m
           · rw [c]; simpa using h5
           · exact hq j (by omega)
         refine WP.skip (WP.region (RG.pv rfl (PV.move (v := v) rfl rfl) (RG.pv rfl (PV.field rfl Fo142_0 rfl) (RG.pv rfl (PV.load1 rfl Sc2 rfl (Rd.blk rfl)) (RG.pv rfl (PV.loadW rfl Ag140 rfl rfl) (RG.pv rfl (PV.build (vs := [(0, [vi _]), (1, [vi _, vi _, vi _, vi _])]) (out := [_, _, _, _, _]) rfl Zr142 Pl142 ⟨rfl, (Cl.c rfl), ⟨rfl, (Cl.c rfl), trivial⟩⟩ rfl) ?_))))))
         refine RG.ot rfl (OT.bslice (F := shapeT) (els := [⟨(gd (gd l.cells.xs (gd zs i).cell.toNat).shapes.xs m).layer, moveR (gd zs i).place (gd (gd l.cells.xs (gd zs i).cell.toNat).shapes.xs m).box⟩]) rfl El83 rfl (by decide) rfl (by decide) ⟨rfl, (Cl.c rfl), trivial⟩ fun v55 => ?_)
         refine RG.ot rfl (OT.append (v := v) (u := v55) (F := shapeT) rfl El83 rfl (by decide) rfl rfl Rs.o (OneL.c (fun _ => rfl)) rfl (by first | omega | (simp <;> omega)) fun v56 => ?_)
         refine RG.pv rfl (PV.asg (v := v56) rfl rfl) (RG.nil (WP.region (RG.pv rfl (PV.add rfl rfl rfl (by omega)) (RG.ml rfl rfl rfl (RG.nil ?_)))))
         exact ⟨rfl, m + 1, v56, ⟨by omega, hq'⟩, ⟨rfl, rfl, trivial⟩, ⟨rfl, rfl, rfl, rfl, rfl, rfl, rfl, trivial⟩, ((Cv.p (C := osl 142 shapeT v56 (flatL (erCls l.cells.xs) ((occR (erCls l.cells.xs) cell).take i) ++ (flatOf (erCls l.cells.xs) (gd (occR (erCls l.cells.xs) cell) i)).take m ++ [⟨(gd (gd l.cells.xs (gd zs i).cell.toNat).shapes.xs m).layer, moveR (gd zs i).place (gd (gd l.cells.xs (gd zs i).cell.toNat).shapes.xs m).box⟩]) :: osl 138 occT w17 zs :: bagS 2 intT (pths zs) :: blk b2 31 (libT.enc l) :: blk b10 138 (occT.enc (gd zs i)) :: L)).trans (Cv.eqS (by rw [List.append_assoc, ← hst]))), by omega⟩
     · have h4 := of_decide_eq_false h4
       have e : flatL (erCls l.cells.xs) ((occR (erCls l.cells.xs) cell).take i) ++ (flatOf (erCls l.cells.xs) (gd (occR (erCls l.cells.xs) cell) i)).take m = flatL (erCls l.cells.xs) ((occR (erCls l.cells.xs) cell).take (i + 1)) := by rw [List.take_of_length_le (i := m) (l := flatOf (erCls l.cells.xs) (gd (occR (erCls l.cells.xs) cell) i)) (by rw [ha.len]; omega), flatL_take ha.hi]
       refine WP.exit ?_
       refine WP.region (RG.pv rfl (PV.add rfl rfl rfl (by omega)) (RG.ml rfl rfl rfl (RG.nil ?_)))
       exact ⟨rfl, i + 1, v, ⟨by omega, hg.next ha (fun j h => hq j (by omega))⟩, ⟨rfl, rfl, trivial⟩, ⟨rfl, rfl, rfl, trivial⟩, ((Cv.eqS e).trans Cv.p), by omega⟩
   · have h2 := of_decide_eq_false h2
     have e : shE (erCls l.cells.xs) cell = 0 := by rw [hse, flat_good (fun j h => hg j (by omega))]; rfl
     have e2 : shR (erCls l.cells.xs) cell = flatL (erCls l.cells.xs) ((occR (erCls l.cells.xs) cell).take i) := by rw [shR_ok e, List.take_of_length_le (by omega)]
     rw [e, e2] at k
     refine WP.exit ?_
     refine WP.seq (WP.region (RG.pv rfl (PV.move (v := v) rfl rfl) (RG.pv rfl (PV.asg (v := v) rfl rfl) (RG.mr rfl rfl rfl (RG.nil ?_)))))
     refine WP.ret ?_
     exact ⟨_, _, ResV.two rfl rfl rfl, Cv.p, k v⟩
theorem OccAt.big {xs : List Cell} {cell : Int} {zs : List Occ} {i : Nat} (h : OccAt xs cell zs i) : TBig (gd zs i).place := by
 obtain ⟨q1, q2⟩ := h.hp
 exact ⟨q1, by omega⟩
theorem flat_r {l : Lib} {cell : Int} (hL : RLib G L l.cells.v l.cells.xs) (hlen : lenC (erCls l.cells.xs)) (k : ∀ v', R (.tuple #[v', vi (shE (erCls l.cells.xs) cell)]) G (osl 142 shapeT v' (shR (erCls l.cells.xs) cell) :: L)) : CallT Tryz.prog 92 #[vT libT l, vi cell] G L R := by
 have hE := erCls_len l.cells.xs
 refine CallT.enter (args := _) Tryz.func92 rfl rfl (by kernel_rfl) rfl ?_
 refine WP.seq (WP.region ?_)
 refine RG.ot rfl (OT.box (cs := libT.enc l) rfl rfl rfl fun b2 => ?_)
 refine RG.pv rfl (PV.asg rfl rfl) (RG.mr rfl rfl rfl (RG.nil (WP.seq (WP.region (RG.pv rfl (PV.loadW rfl Ag31 rfl rfl) (RG.ml rfl rfl rfl ?_))))))
 refine RG.callF (vs := [_, _]) rfl rfl En55 rfl (occ_r hL.up hlen (fun w16 zs he => ?_))
 refine RG.pv rfl (PV.move (v := .tuple _) rfl rfl) (RG.pv rfl (PV.ext (v := w16) rfl rfl rfl) (RG.pv rfl (PV.ext rfl rfl rfl) (RG.pv rfl (PV.asg (v := w16) rfl rfl) (RG.mr rfl rfl rfl (RG.nil (WP.seq (WP.seq ?_)))))))
 refine WP.region (RG.ml rfl rfl rfl (RG.pv rfl (PV.neq rfl rfl rfl) (RG.nil ?_)))
 refine WP.cond rfl (fun h1 => ?_) (fun h1 => ?_)
 · have h1 : occE (erCls l.cells.xs) cell ≠ 0 := by simpa using h1
   have e := shE_occ h1
   have e2 : shR (erCls l.cells.xs) cell = [] := shR_no (by rw [e]; exact h1)
   rw [e, e2] at k
   refine WP.seq (WP.region (RG.ml rfl rfl rfl (RG.pv rfl (PV.asg rfl rfl) (RG.mr rfl rfl rfl (RG.nil ?_)))))
   refine WP.ret ?_
   exact ⟨_, _, ResV.two rfl rfl rfl, Cv.p.trans Cv.nilS, k (.slice none 0 0)⟩
 · have h1 : occE (erCls l.cells.xs) cell = 0 := by simpa using h1
   have hse := shE_flat h1
   have hzl : zs.length = (occR (erCls l.cells.xs) cell).length := by rw [← he, erOs_len]
   refine WP.skip (WP.seq (WP.region ?_))
   refine RG.ot rfl (OT.bslice (F := shapeT) (els := []) rfl El83 rfl (by decide) rfl (by decide) trivial fun v22 => ?_)
   refine RG.pv rfl (PV.asg (v := v22) rfl rfl) (RG.nil (WP.seq (WP.seq (WP.region (RG.mr rfl rfl rfl (RG.nil (WP.block ?_)))))))
   refine WP.bdo w16 fun hbz => ?_
   refine WP.cv (Cv.eqS (ys := flatL (erCls l.cells.xs) ((occR (erCls l.cells.xs) cell).take 0)) rfl) ?_
   refine WP.loop2 [2, 6] (fun (i : Nat) (v : Value) => i ≤ zs.length ∧ goodTo (erCls l.cells.xs) (occR (erCls l.cells.xs) cell) i) (fun (i : Nat) (v : Value) => [(9, vi i), (8, v)]) (fun (i : Nat) (v : Value) => osl 142 shapeT v (flatL (erCls l.cells.xs) ((occR (erCls l.cells.xs) cell).take i)) :: osl 138 occT w16 zs :: bagS 2 intT (pths zs) :: blk b2 31 (libT.enc l) :: L) (fun (i : Nat) (v : Value) => zs.length - i) 0 v22 ⟨by omega, fun j h => by omega⟩ ⟨rfl, rfl, trivial⟩ Cv.p ?_
   rintro i v τ ⟨hi, hg⟩
   refine WP.seq (WP.seq (WP.region (RG.ml rfl rfl rfl (RG.pv rfl (PV.move (v := w16) rfl rfl) (RG.pv rfl (PV.len (v := w16) rfl Tryz.underlying94 rfl SlF.o) (RG.pv rfl (PV.lss rfl rfl rfl) (RG.nil ?_)))))))
   have hfb := flatL_bd (cs := (erCls l.cells.xs)) (cell := cell) i (by omega)
   refine WP.cond rfl (fun h2 => ?_) (fun h2 => ?_)
   · have h2 := of_decide_eq_true h2
     have h3 : i < zs.length := by omega
     have ha := OccAt.of (cell := cell) he h3
     have hac := ha.hc
     have hal := ha.hl
     have hsl := hL.sa ha.hc.2
     refine WP.skip (WP.seq (WP.block (WP.seq ?_)))
     refine WP.regionH0 (.q 0 (.q 1 (.q 2 (.q 3 (.q 4 (.q 5 (.q 6 (.q 7 (.q 8 (.l 9 (.l 10 Sch.nil))))))))))) (by kernel_rfl) (by kernel_rfl) (by kernel_rfl) rfl ?_
     refine RH.pv rfl (fun _ _ _ _ h => h) (Gh.le_refl _) PickC.pick rfl (PV.field rfl Fo31_0 rfl) ?_
     refine RH.pv rfl (fun _ _ _ _ h => h) (Gh.le_refl _) PickC.pick rfl (PV.load1 rfl Sc29 rfl (Rd.blk rfl)) ?_
     refine RH.pv rfl (fun _ _ _ _ h => h) (Gh.le_refl _) PickC.pick rfl (PV.move (v := w16) rfl rfl) ?_
     refine RH.pv rfl (fun _ _ _ _ h => h) (Gh.le_refl _) PickC.pick rfl (PV.mvI (.inl rfl) rfl) ?_
     refine RH.pv rfl (fun _ _ _ _ h => h) (Gh.le_refl _) PickC.pick rfl (PV.idxS (v := w16) rfl Is94 rfl SlF.o rfl rfl (by omega)) ?_
     refine RH.pv rfl (fun _ _ _ _ h => h) (Gh.le_refl _) PickC.pick rfl (PV.field rfl Fo138_0 rfl) ?_
     refine RH.pv rfl (fun _ _ _ _ h => h) (Gh.le_refl _) PickC.pick rfl (PV.loadF rfl Sc2 rfl rfl (El.o (getG (by omega))) rfl) ?_
     refine RH.pv rfl (fun _ _ _ _ h => h) (Gh.le_refl _) PickC.pick rfl (PV.idxS (j := (gd zs i).cell.toNat) rfl Is29 rfl (SlF.r hL.c) rfl (by omega) (by omega)) ?_
     refine RH.pv rfl (fun _ _ _ _ h => h) (Gh.le_refl _) PickC.pick rfl (PV.loadE rfl Ag116 rfl rfl (El.r hL.c (getG (by omega)))) ?_
     refine RH.ot rfl rfl (OT.alloc rfl Zr116 fun b10 => ⟨Gh.le_refl _, PickC.pick, ?_⟩)
     refine RH.ot rfl rfl (OT.storeW (vs := [.string _, _, _, _]) rfl Sz116 rfl rfl (Cl.c rfl) rfl rfl (hL.one ha.hc.2) ⟨Gh.le_refl _, PickC.pick, ?_⟩)
     refine RH.nil ?_
     refine WP.seq (WP.region (RG.mr rfl rfl rfl (RG.nil (WP.block ?_))))
     refine WP.cv ((Cv.p (C := osl 142 shapeT v (flatL (erCls l.cells.xs) ((occR (erCls l.cells.xs) cell).take i)) :: osl 138 occT w16 zs :: bagS 2 intT (pths zs) :: blk b2 31 (libT.enc l) :: blk b10 116 (cellT.enc (gd l.cells.xs (gd zs i).cell.toNat)) :: L)).trans (Cv.eqS (ys := flatL (erCls l.cells.xs) ((occR (erCls l.cells.xs) cell).take i) ++ (flatOf (erCls l.cells.xs) (gd (occR (erCls l.cells.xs) cell) i)).take 0) (by simp))) ?_
     refine WP.loop2 [2, 6, 9, 10] (fun (m : Nat) (v : Value) => m ≤ (gd l.cells.xs (gd zs i).cell.toNat).shapes.xs.length ∧ ∀ j, j < m → validRect (moveR (gd zs i).place (gd (gd l.cells.xs (gd zs i).cell.toNat).shapes.xs j).box) = true) (fun (m : Nat) (v : Value) => [(11, vi m), (8, v)]) (fun (m : Nat) (v : Value) => osl 142 shapeT v (flatL (erCls l.cells.xs) ((occR (erCls l.cells.xs) cell).take i) ++ (flatOf (erCls l.cells.xs) (gd (occR (erCls l.cells.xs) cell) i)).take m) :: osl 138 occT w16 zs :: bagS 2 intT (pths zs) :: blk b2 31 (libT.enc l) :: blk b10 116 (cellT.enc (gd l.cells.xs (gd zs i).cell.toNat)) :: L) (fun (m : Nat) (v : Value) => (gd l.cells.xs (gd zs i).cell.toNat).shapes.xs.length - m) 0 v ⟨by omega, fun j h => by omega⟩ ⟨rfl, rfl, trivial⟩ Cv.p ?_
     rintro m v τ ⟨hm, hq⟩
     refine WP.seq (WP.seq (WP.region (RG.ml rfl rfl rfl (RG.pv rfl (PV.field rfl Fo116_1 rfl) (RG.pv rfl (PV.load1 rfl Sc83 rfl (Rd.blk rfl)) (RG.pv rfl (PV.len rfl Tryz.underlying83 rfl (SlF.r hsl)) (RG.pv rfl (PV.lss rfl rfl rfl) ?_)))))))
     refine RG.nil ?_
     refine WP.cond rfl (fun h4 => ?_) (fun h4 => ?_)
     · have h4 := of_decide_eq_true h4
       have hst := ha.step (m := m) (by omega)
       have hll : (flatL (erCls l.cells.xs) ((occR (erCls l.cells.xs) cell).take i) ++ (flatOf (erCls l.cells.xs) (gd (occR (erCls l.cells.xs) cell) i)).take m).length ≤ 6000 := by rw [List.length_append, List.length_take]; omega
       refine WP.skip (WP.seq (WP.block ?_))
       refine WP.cut1 [2, 6, 8, 9, 10, 11] (fun (b12 : Nat) => True) (fun (b12 : Nat) => [(12, .pointer (some ⟨b12, 0, none⟩))]) (fun (b12 : Nat) => blk b12 140 (rectT.enc (moveR (gd zs i).place (gd (gd l.cells.xs (gd zs i).cell.toNat).shapes.xs m).box)) :: osl 142 shapeT v (flatL (erCls l.cells.xs) ((occR (erCls l.cells.xs) cell).take i) ++ (flatOf (erCls l.cells.xs) (gd (occR (erCls l.cells.xs) cell) i)).take m) :: osl 138 occT w16 zs :: bagS 2 intT (pths zs) :: blk b2 31 (libT.enc l) :: blk b10 116 (cellT.enc (gd l.cells.xs (gd zs i).cell.toNat)) :: L) ?_ ?_
       refine WP.regionH0 (.q 0 (.q 1 (.q 2 (.q 3 (.q 4 (.q 5 (.q 6 (.q 7 (.q 8 (.q 9 (.q 10 (.b 11 (.l 12 (.l 13 Sch.nil)) 12 (.l 11 (.l 13 Sch.nil)))))))))))))) (by kernel_rfl) (by kernel_rfl) (by kernel_rfl) rfl ?_
       refine RH.pv rfl (fun _ _ _ _ h => h) (Gh.le_refl _) PickC.pick rfl (PV.move (v := w16) rfl rfl) ?_
       refine RH.pv rfl (fun _ _ _ _ h => h) (Gh.le_refl _) PickC.pick rfl (PV.mvI (.inl rfl) rfl) ?_
       refine RH.pv rfl (fun _ _ _ _ h => h) (Gh.le_refl _) PickC.pick rfl (PV.idxS (v := w16) rfl Is94 rfl SlF.o rfl rfl (by omega)) ?_
       refine RH.pv rfl (fun _ _ _ _ h => h) (Gh.le_refl _) PickC.pick rfl (PV.field rfl Fo138_1 rfl) ?_
       refine RH.pv rfl (fun _ _ _ _ h => h) (Gh.le_refl _) PickC.pick rfl (PV.loadEP rfl Ag136 rfl rfl (El.o (getG (by omega))) rfl) ?_
       refine RH.pv rfl (fun _ _ _ _ h => h) (Gh.le_refl _) PickC.pick rfl (PV.field rfl Fo116_1 rfl) ?_
       refine RH.pv rfl (fun _ _ _ _ h => h) (Gh.le_refl _) PickC.pick rfl (PV.load1 rfl Sc83 rfl (Rd.blk rfl)) ?_
       refine RH.pv rfl (fun _ _ _ _ h => h) (Gh.le_refl _) PickC.pick rfl (PV.mvI (.inl rfl) rfl) ?_
       refine RH.pv rfl (fun _ _ _ _ h => h) (Gh.le_refl _) PickC.pick rfl (PV.idxS rfl Is83 rfl (SlF.r hsl) rfl rfl (by omega)) ?_
       refine RH.pv rfl (fun _ _ _ _ h => h) (Gh.le_refl _) PickC.pick rfl (PV.field rfl Fo142_1 rfl) ?_
       refine RH.pv rfl (fun _ _ _ _ h => h) (Gh.le_refl _) PickC.pick rfl (PV.loadEP rfl Ag140 rfl rfl (El.r hsl (getG (by omega))) rfl) ?_
       · refine RH.ot2 rfl rfl rfl rfl  (OT.callF (vs := [_, _]) rfl En142 rfl (l10Rect_r ha.big (ha.hb m (by omega)) ⟨Gh.le_refl _, PickC.pick, ?_⟩)) (OT.alloc rfl Zr140 fun b12 => ⟨Gh.le_refl _, PickC.pick, ?_⟩)
         · refine RH.ot rfl rfl (OT.alloc rfl Zr140 fun b12 => ⟨Gh.le_refl _, PickC.pick, ?_⟩)
           refine RH.ot rfl rfl (OT.storeW (vs := [vi _, vi _, vi _, vi _]) rfl Sz140 rfl rfl (Cl.c rfl) rfl rfl (OneC.c rfl) ⟨Gh.le_refl _, PickC.pick, ?_⟩)
           refine RH.nil ?_
           exact ⟨rfl, b12, trivial, ⟨rfl, trivial⟩, ⟨rfl, rfl, rfl, rfl, rfl, rfl, trivial⟩, Cv.p⟩
         · refine RH.ot rfl rfl (OT.callF (vs := [_, _]) rfl En142 rfl (l10Rect_r ha.big (ha.hb m (by omega)) ⟨Gh.le_refl _, PickC.pick, ?_⟩))
           refine RH.ot rfl rfl (OT.storeW (vs := [vi _, vi _, vi _, vi _]) rfl Sz140 rfl rfl (Cl.c rfl) rfl rfl (OneC.c rfl) ⟨Gh.le_refl _, PickC.pick, ?_⟩)
           refine RH.nil ?_
           exact ⟨rfl, b12, trivial, ⟨rfl, trivial⟩, ⟨rfl, rfl, rfl, rfl, rfl, rfl, trivial⟩, Cv.p⟩
       rintro b12 τ5 -
       refine WP.seq (WP.seq (WP.region (RG.pv rfl (PV.loadW rfl Ag140 rfl rfl) ?_)))
       refine RG.callF (vs := [_]) rfl rfl En143 rfl (l09Rect_r ?_)
       refine RG.pv rfl (PV.not rfl rfl) (RG.nil ?_)
       refine WP.cond rfl (fun h5 => ?_) (fun h5 => ?_)
       · have e : shE (erCls l.cells.xs) cell = 2 := by rw [hse, ha.bad (m := m) (by omega) (by simpa using h5)]; rfl
         have e2 : shR (erCls l.cells.xs) cell = [] := shR_no (by rw [e]; decide)
         rw [e, e2] at k
         refine WP.seq (WP.region (RG.pv rfl (PV.asg rfl rfl) (RG.mr rfl rfl rfl (RG.nil ?_))))
         refine WP.ret ?_
         exact ⟨_, _, ResV.two rfl rfl rfl, Cv.p.trans Cv.nilS, k (.slice none 0 0)⟩
       · have hq' : ∀ j, j < m + 1 → validRect (moveR (gd zs i).place (gd (gd l.cells.xs (gd zs i).cell.toNat).shapes.xs j).box) = true := fun j h => by
           by_cases c : j = m
           · rw [c]; simpa using h5
           · exact hq j (by omega)
         refine WP.skip ?_
         refine WP.regionHD [.s v] (.q 0 (.q 1 (.q 2 (.q 3 (.q 4 (.q 5 (.q 6 (.q 7 (.q 8 (.l 9 (.l 10 (.q 11 Sch.nil)))))))))))) (by kernel_rfl) (by kernel_rfl) (by kernel_rfl) rfl ?_
         refine RH.pv rfl (fun _ _ _ _ h => h) (Gh.le_refl _) PickC.pick rfl (PV.move (v := v) rfl rfl) ?_
         refine RH.pv rfl (fun _ _ _ _ h => h) (Gh.le_refl _) PickC.pick rfl (PV.field rfl Fo116_1 rfl) ?_
         refine RH.pv rfl (fun _ _ _ _ h => h) (Gh.le_refl _) PickC.pick rfl (PV.load1 rfl Sc83 rfl (Rd.blk rfl)) ?_
         refine RH.pv rfl (fun _ _ _ _ h => h) (Gh.le_refl _) PickC.pick rfl (PV.mvI (.inl rfl) rfl) ?_
         refine RH.pv rfl (fun _ _ _ _ h => h) (Gh.le_refl _) PickC.pick rfl (PV.idxS rfl Is83 rfl (SlF.r hsl) rfl rfl (by omega)) ?_
         refine RH.pv rfl (fun _ _ _ _ h => h) (Gh.le_refl _) PickC.pick rfl (PV.field rfl Fo142_0 rfl) ?_
         refine RH.pv rfl (fun _ _ _ _ h => h) (Gh.le_refl _) PickC.pick rfl (PV.loadF rfl Sc2 rfl rfl (El.r hsl (getG (by omega))) rfl) ?_
         refine RH.pv rfl (fun _ _ _ _ h => h) (Gh.le_refl _) PickC.pick rfl (PV.loadW rfl Ag140 rfl rfl) ?_
         refine RH.pv rfl (fun _ _ _ _ h => h) (Gh.le_refl _) PickC.pick rfl (PV.build (vs := [(0, [vi _]), (1, [vi _, vi _, vi _, vi _])]) (out := [_, _, _, _, _]) rfl Zr142 Pl142 ⟨rfl, (Cl.c rfl), ⟨rfl, (Cl.c rfl), trivial⟩⟩ rfl) ?_
         refine RH.ot rfl rfl (OT.bslice (F := shapeT) (els := [⟨(gd (gd l.cells.xs (gd zs i).cell.toNat).shapes.xs m).layer, moveR (gd zs i).place (gd (gd l.cells.xs (gd zs i).cell.toNat).shapes.xs m).box⟩]) rfl El83 rfl (by decide) rfl (by decide) ⟨rfl, (Cl.c rfl), trivial⟩ fun v69 => ⟨Gh.le_refl _, PickC.pick, ?_⟩)
         refine RH.ot rfl rfl (OT.append (v := v) (u := v69) (F := shapeT) rfl El83 rfl (by decide) rfl rfl Rs.o (OneL.c (fun _ => rfl)) rfl (by first | omega | (simp <;> omega)) fun v70 => ⟨Gh.le_refl _, PickC.pick, ?_⟩)
         refine RH.pv rfl (fun _ _ _ _ h => h) (Gh.le_refl _) PickC.pick rfl (PV.asg (v := v70) rfl rfl) ?_
         refine RH.nil ?_
         refine WP.region (RG.ml rfl rfl rfl (RG.pv rfl (PV.add rfl rfl rfl (by omega)) (RG.mr rfl rfl rfl (RG.nil ?_))))
         exact ⟨rfl, m + 1, v70, ⟨by omega, hq'⟩, ⟨rfl, rfl, trivial⟩, ⟨rfl, rfl, rfl, rfl, trivial⟩, ((Cv.p (C := osl 142 shapeT v70 (flatL (erCls l.cells.xs) ((occR (erCls l.cells.xs) cell).take i) ++ (flatOf (erCls l.cells.xs) (gd (occR (erCls l.cells.xs) cell) i)).take m ++ [⟨(gd (gd l.cells.xs (gd zs i).cell.toNat).shapes.xs m).layer, moveR (gd zs i).place (gd (gd l.cells.xs (gd zs i).cell.toNat).shapes.xs m).box⟩]) :: osl 138 occT w16 zs :: bagS 2 intT (pths zs) :: blk b2 31 (libT.enc l) :: blk b10 116 (cellT.enc (gd l.cells.xs (gd zs i).cell.toNat)) :: L)).trans (Cv.eqS (by rw [List.append_assoc, ← hst]))), by omega⟩
     · have h4 := of_decide_eq_false h4
       have e : flatL (erCls l.cells.xs) ((occR (erCls l.cells.xs) cell).take i) ++ (flatOf (erCls l.cells.xs) (gd (occR (erCls l.cells.xs) cell) i)).take m = flatL (erCls l.cells.xs) ((occR (erCls l.cells.xs) cell).take (i + 1)) := by rw [List.take_of_length_le (i := m) (l := flatOf (erCls l.cells.xs) (gd (occR (erCls l.cells.xs) cell) i)) (by rw [ha.len]; omega), flatL_take ha.hi]
       refine WP.exit ?_
       refine WP.region (RG.ml rfl rfl rfl (RG.pv rfl (PV.add rfl rfl rfl (by omega)) (RG.mr rfl rfl rfl (RG.nil ?_))))
       exact ⟨rfl, i + 1, v, ⟨by omega, hg.next ha (fun j h => hq j (by omega))⟩, ⟨rfl, rfl, trivial⟩, ⟨rfl, rfl, trivial⟩, ((Cv.eqS e).trans Cv.p), by omega⟩
   · have h2 := of_decide_eq_false h2
     have e : shE (erCls l.cells.xs) cell = 0 := by rw [hse, flat_good (fun j h => hg j (by omega))]; rfl
     have e2 : shR (erCls l.cells.xs) cell = flatL (erCls l.cells.xs) ((occR (erCls l.cells.xs) cell).take i) := by rw [shR_ok e, List.take_of_length_le (by omega)]
     rw [e, e2] at k
     refine WP.exit ?_
     refine WP.seq (WP.region (RG.pv rfl (PV.move (v := v) rfl rfl) (RG.pv rfl (PV.asg (v := v) rfl rfl) (RG.mr rfl rfl rfl (RG.nil ?_)))))
     refine WP.ret ?_
     exact ⟨_, _, ResV.two rfl rfl rfl, Cv.p, k v⟩
def layTo (ss : List Shape) (n : Nat) : List (List Rect) := (List.range n).map fun l => canon (bits (boxesOf ss l))
theorem layTo_next {ss : List Shape} {n : Nat} {zs : List (Sl Rect)} {u : Value} (h : er zs = layTo ss n) : er (zs ++ [⟨u, canon (bits (boxesOf ss n))⟩]) = layTo ss (n + 1) := by
 have e : er (zs ++ [(⟨u, canon (bits (boxesOf ss n))⟩ : Sl Rect)]) = er zs ++ [canon (bits (boxesOf ss n))] := by simp [er]
 rw [e, h, layTo, layTo, List.range_succ, List.map_append]; rfl
theorem layTo_len {ss : List Shape} {n : Nat} {zs : List (Sl Rect)} (h : er zs = layTo ss n) : zs.length = n := by
 have := congrArg List.length h; simpa [er, layTo] using this
theorem any_boxes {ss : List Shape} {i n y x : Nat} (h : i < ss.length) : ((boxesOf (ss.take (i + 1)) n).any fun r => inR r y x) = (((boxesOf (ss.take i) n).any fun r => inR r y x) || (decide ((gd ss i).layer = (n : Int)) && inR (gd ss i).box y x)) := by
 rw [boxesOf_step h, List.any_append]
 by_cases e : (gd ss i).layer = (n : Int) <;> simp [e]
theorem layers_i {v : Value} {ss : List Shape} (h1 : Rs G L shapeT v ss) (k : ∀ v' ys, er ys = layL ss → R v' G (osl 50 slT v' ys :: bagS 140 rectT ys :: L)) : CallT Tryz.prog 46 #[v] G L R := by
 refine CallT.bd h1 fun hb => ?_
 refine CallT.enter (args := _) Tryz.func46 rfl rfl (by kernel_rfl) rfl ?_
 refine WP.seq (WP.region (RG.pv rfl (PV.asg rfl rfl) (RG.nil (WP.seq (WP.region ?_)))))
 refine RG.ot rfl (OT.bslice (F := (slT (α := Rect))) (els := []) rfl El47 rfl (by decide) rfl (by decide) trivial fun v8 => ?_)
 refine RG.pv rfl (PV.asg (v := v8) rfl rfl) (RG.nil (WP.seq (WP.seq (WP.region (RG.ml rfl rfl rfl (RG.nil (WP.block ?_)))))))
 refine WP.cv (Cv.cons (Cv.bag0 (e := 140) (F := rectT) (xs := []) rfl)) ?_
 refine WP.loop3 [0] (fun (n : Nat) (vo : Value) (zs : List (Sl Rect)) => n ≤ 8 ∧ er zs = layTo ss n) (fun (n : Nat) (vo : Value) (zs : List (Sl Rect)) => [(9, vi n), (3, vo)]) (fun (n : Nat) (vo : Value) (zs : List (Sl Rect)) => osl 50 slT vo zs :: bagS 140 rectT zs :: L) (fun (n : Nat) (vo : Value) (zs : List (Sl Rect)) => 8 - n) 0 v8 [] ⟨by omega, rfl⟩ ⟨rfl, rfl, trivial⟩ Cv.p ?_
 rintro n vo zs τ ⟨hn, hz⟩
 refine WP.seq (WP.region (RG.pv rfl (PV.lss rfl rfl rfl) (RG.nil (WP.seq ?_))))
 have hzl := layTo_len hz
 refine WP.cond rfl (fun h2 => ?_) (fun h2 => ?_)
 · have h2 := of_decide_eq_true h2
   refine WP.skip (WP.seq (WP.block (WP.seq (WP.region (RG.ml rfl rfl rfl (RG.mr rfl rfl rfl (RG.nil ?_)))))))
   refine WP.seq (WP.region (RG.pv rfl (PV.build0 rfl Tryz.underlying148 ⟨80, by kernel_rfl⟩ (zeroB_spec (n := 6400) (by kernel_rfl))) ?_))
   refine RG.ot rfl (OT.boxG rfl rfl fun b13 => ?_)
   refine RG.pv rfl (PV.mvP (.inr rfl) rfl) (RG.nil (WP.seq (WP.seq (WP.region (RG.pv rfl (PV.move (v := v) rfl rfl) (RG.pv rfl (PV.len (v := v) rfl Tryz.underlying83 rfl (SlF.r h1)) (RG.ml rfl rfl rfl ?_)))))))
   refine RG.nil (WP.block ?_)
   refine WP.loop2 [0, 3, 4, 5, 9, 14, 15] (fun (i : Nat) (cs : List Bool) => i ≤ ss.length ∧ cs.length = 6400 ∧ ∀ y x, y < 80 → x < 80 → gb cs y x = (boxesOf (ss.take i) n).any fun r => inR r y x) (fun (i : Nat) (cs : List Bool) => [(16, vi i)]) (fun (i : Nat) (cs : List Bool) => grd b13 cs :: osl 50 slT vo zs :: bagS 140 rectT zs :: L) (fun (i : Nat) (cs : List Bool) => ss.length - i) 0 (List.replicate 6400 false) ⟨by omega, by simp, fun y x _ _ => by rw [gb_rep]; simp [boxesOf]⟩ ⟨rfl, trivial⟩ Cv.p ?_
   rintro i cs τ1 ⟨hi, hl, hc⟩
   refine WP.seq (WP.region (RG.pv rfl (PV.lss rfl rfl rfl) (RG.nil (WP.seq ?_))))
   refine WP.cond rfl (fun h3 => ?_) (fun h3 => ?_)
   · have h3 := of_decide_eq_true h3
     have h4 : i < ss.length := by omega
     refine WP.skip (WP.seq (WP.block (WP.seq (WP.region (RG.pv rfl (PV.idxS (v := v) rfl Is83 rfl (SlF.r h1) rfl rfl (by omega)) (RG.pv rfl (PV.loadE rfl Ag142 rfl rfl (El.r h1 (getG (by omega)))) ?_))))))
     refine RG.ot rfl (OT.alloc rfl Zr142 fun b7 => ?_)
     refine RG.ot rfl (OT.storeW (vs := [vi _, vi _, vi _, vi _, vi _]) rfl Sz142 rfl rfl (Cl.c rfl) rfl rfl (OneC.c rfl) ?_)
     refine RG.nil (WP.seq (WP.region (RG.pv rfl (PV.field rfl Fo142_0 rfl) (RG.pv rfl (PV.load1 rfl Sc2 rfl (Rd.blk rfl)) (RG.ml rfl rfl rfl (RG.pv rfl (PV.eql rfl rfl rfl) (RG.nil ?_)))))))
     refine WP.cond rfl (fun h5 => ?_) (fun h5 => ?_)
     · have h5 := of_decide_eq_true h5
       refine WP.region (RG.pv rfl (PV.mvP (.inl rfl) rfl) (RG.pv rfl (PV.field rfl Fo142_1 rfl) (RG.pv rfl (PV.loadB (vs := [_, _, _, _]) rfl Ag140 rfl rfl rfl) ?_)))
       refine RG.callF (vs := [(.pointer (some ⟨b13, 0, none⟩)), _]) rfl rfl En84 rfl (CallT.exB (put_s (by assumption) (fun bs' hb' hg' => ?_)))
       refine RG.nil (WP.region (RG.pv rfl (PV.add rfl rfl rfl (by omega)) (RG.ml rfl rfl rfl (RG.nil ?_))))
       refine ⟨rfl, i + 1, bs', ⟨by omega, hb', fun y x h6 h7 => ?_⟩, ⟨rfl, trivial⟩, ⟨rfl, rfl, rfl, rfl, rfl, rfl, rfl, trivial⟩, Cv.p, by omega⟩
       rw [hg' y x h6 h7, hc y x h6 h7, any_boxes h4, decide_eq_true h5, Bool.true_and]
     · have h5 := of_decide_eq_false h5
       refine WP.skip (WP.region (RG.pv rfl (PV.add rfl rfl rfl (by omega)) (RG.ml rfl rfl rfl (RG.nil ?_))))
       refine ⟨rfl, i + 1, cs, ⟨by omega, hl, fun y x h6 h7 => ?_⟩, ⟨rfl, trivial⟩, ⟨rfl, rfl, rfl, rfl, rfl, rfl, rfl, trivial⟩, Cv.p, by omega⟩
       rw [hc y x h6 h7, any_boxes h4, decide_eq_false h5, Bool.false_and, Bool.or_false]
   · have h3 := of_decide_eq_false h3
     have e : cs = bits (boxesOf ss n) := bits_eq hl fun y x h6 h7 => by rw [hc y x h6 h7, List.take_of_length_le (by omega)]
     subst e
     refine WP.exit ?_
     refine WP.region (RG.pv rfl (PV.move (v := vo) rfl rfl) (RG.pv rfl (PV.mvP (.inl rfl) rfl) ?_))
     refine RG.callF (vs := [(.pointer (some ⟨b13, 0, none⟩))]) rfl rfl En85 rfl (CallT.exB (region_s (bits_length _) (fun v31 => ?_)))
     refine RG.ot rfl (OT.bslice (F := (slT (α := Rect))) (els := [⟨v31, canon (bits (boxesOf ss n))⟩]) rfl El47 rfl (by decide) rfl (by decide) ⟨rfl, (Cl.s (v := v31) SlF.o), trivial⟩ fun v32 => ?_)
     refine RG.ot rfl (OT.append (v := vo) (u := v32) (F := (slT (α := Rect))) rfl El47 rfl (by decide) rfl rfl Rs.o (OneL.one (a := (⟨v31, canon (bits (boxesOf ss n))⟩ : Sl Rect)) (OneC.sl SlF.o OneC.nil)) rfl (by first | omega | (simp <;> omega)) fun v33 => ?_)
     refine RG.pv rfl (PV.asg (v := v33) rfl rfl) (RG.nil (WP.region (RG.pv rfl (PV.add rfl rfl rfl (by omega)) (RG.ml rfl rfl rfl (RG.nil ?_)))))
     exact ⟨rfl, n + 1, v33, (zs ++ [⟨v31, canon (bits (boxesOf ss n))⟩]), ⟨by omega, layTo_next hz⟩, ⟨rfl, rfl, trivial⟩, ⟨rfl, trivial⟩, ((Cv.p (C := osl 140 rectT v31 (canon (bits (boxesOf ss n))) :: osl 50 slT v33 (zs ++ [⟨v31, canon (bits (boxesOf ss n))⟩]) :: bagS 140 rectT zs :: L)).trans Cv.slotNew), by omega⟩
 · have h2 := of_decide_eq_false h2
   obtain rfl : n = 8 := by omega
   refine WP.exit ?_
   refine WP.seq (WP.region (RG.pv rfl (PV.move (v := vo) rfl rfl) (RG.pv rfl (PV.asg (v := vo) rfl rfl) (RG.nil ?_))))
   refine WP.ret ?_
   exact ⟨_, _, ResV.one rfl rfl, Cv.p, k vo zs hz⟩
theorem layers_r {v : Value} {ss : List Shape} (h1 : Rs G L shapeT v ss) (hv : ∀ i, i < ss.length → validRect (gd ss i).box = true) (k : ∀ v' ys, er ys = layL ss → R v' G (osl 50 slT v' ys :: bagS 140 rectT ys :: L)) : CallT Tryz.prog 93 #[v] G L R := by
 refine CallT.bd h1 fun hb => ?_
 refine CallT.enter (args := _) Tryz.func93 rfl rfl (by kernel_rfl) rfl ?_
 refine WP.seq (WP.region (RG.pv rfl (PV.asg rfl rfl) (RG.nil (WP.seq (WP.region ?_)))))
 refine RG.ot rfl (OT.bslice (F := (slT (α := Rect))) (els := []) rfl El47 rfl (by decide) rfl (by decide) trivial fun v10 => ?_)
 refine RG.pv rfl (PV.asg (v := v10) rfl rfl) (RG.nil (WP.seq (WP.seq (WP.region (RG.mr rfl rfl rfl (RG.nil (WP.block ?_)))))))
 refine WP.cv (Cv.cons (Cv.bag0 (e := 140) (F := rectT) (xs := []) rfl)) ?_
 refine WP.loop3 [0] (fun (n : Nat) (vo : Value) (zs : List (Sl Rect)) => n ≤ 8 ∧ er zs = layTo ss n) (fun (n : Nat) (vo : Value) (zs : List (Sl Rect)) => [(4, vi n), (3, vo)]) (fun (n : Nat) (vo : Value) (zs : List (Sl Rect)) => osl 50 slT vo zs :: bagS 140 rectT zs :: L) (fun (n : Nat) (vo : Value) (zs : List (Sl Rect)) => 8 - n) 0 v10 [] ⟨by omega, rfl⟩ ⟨rfl, rfl, trivial⟩ Cv.p ?_
 rintro n vo zs τ ⟨hn, hz⟩
 refine WP.seq (WP.seq (WP.region (RG.ml rfl rfl rfl (RG.pv rfl (PV.lss rfl rfl rfl) (RG.nil ?_)))))
 have hzl := layTo_len hz
 refine WP.cond rfl (fun h2 => ?_) (fun h2 => ?_)
 · have h2 := of_decide_eq_true h2
   refine WP.skip (WP.seq (WP.block (WP.seq (WP.region ?_))))
   refine RG.callF (vs := [_]) rfl rfl En62 rfl (l03Bits_s (xs := []) (RsN) (fun i hi => by simp at hi) (fun v15 => ?_))
   refine RG.pv rfl (PV.asg (v := v15) rfl rfl) (RG.nil (WP.seq (WP.seq (WP.region (RG.mr rfl rfl rfl (RG.nil (WP.block ?_)))))))
   refine WP.loop2 [0, 3, 4, 5] (fun (i : Nat) (cs : List Bool) => i ≤ ss.length ∧ cs.length = 6400 ∧ ∀ y x, y < 80 → x < 80 → gb cs y x = (boxesOf (ss.take i) n).any fun r => inR r y x) (fun (i : Nat) (cs : List Bool) => [(6, vi i)]) (fun (i : Nat) (cs : List Bool) => osl 4 boolT v15 cs :: osl 50 slT vo zs :: bagS 140 rectT zs :: L) (fun (i : Nat) (cs : List Bool) => ss.length - i) 0 (bits []) ⟨by omega, bits_length _, fun y x h1 h2 => by rw [gb_bits [] h1 h2]; simp [boxesOf]⟩ ⟨rfl, trivial⟩ Cv.p ?_
   rintro i cs τ1 ⟨hi, hl, hc⟩
   refine WP.seq (WP.seq (WP.region (RG.ml rfl rfl rfl (RG.pv rfl (PV.move (v := v) rfl rfl) (RG.pv rfl (PV.len (v := v) rfl Tryz.underlying83 rfl (SlF.r h1)) (RG.pv rfl (PV.lss rfl rfl rfl) (RG.nil ?_)))))))
   refine WP.cond rfl (fun h3 => ?_) (fun h3 => ?_)
   · have h3 := of_decide_eq_true h3
     have h4 : i < ss.length := by omega
     have hr := valid_bd (hv i h4)
     refine WP.skip (WP.seq (WP.block (WP.seq (WP.region (RG.pv rfl (PV.move (v := v) rfl rfl) (RG.ml rfl rfl rfl (RG.pv rfl (PV.idxS (v := v) rfl Is83 rfl (SlF.r h1) rfl rfl (by omega)) ?_)))))))
     refine RG.pv rfl (PV.field rfl Fo142_1 rfl) (RG.pv rfl (PV.loadEP rfl Ag140 rfl rfl (El.r h1 (getG (by omega))) rfl) ?_)
     refine RG.ot rfl (OT.alloc rfl Zr140 fun b7 => ?_)
     refine RG.ot rfl (OT.storeW (vs := [vi _, vi _, vi _, vi _]) rfl Sz140 rfl rfl (Cl.c rfl) rfl rfl (OneC.c rfl) ?_)
     refine RG.nil (WP.seq (WP.region (RG.pv rfl (PV.field rfl Fo140_1 rfl) (RG.pv rfl (PV.load1 rfl Sc2 rfl (Rd.blk rfl)) (RG.mr rfl rfl rfl (RG.nil (WP.block ?_)))))))
     refine WP.loop2 [0, 3, 4, 5, 6, 7] (fun (y : Int) (ds : List Bool) => (gd ss i).box.y0 ≤ y ∧ y ≤ (gd ss i).box.y1 ∧ (¬ (gd ss i).layer = (n : Int) → y = (gd ss i).box.y0) ∧ ds.length = 6400 ∧ ∀ y' x', y' < 80 → x' < 80 → gb ds y' x' = (gb cs y' x' || (inR (gd ss i).box y' x' && decide ((y' : Int) - 40 < y)))) (fun (y : Int) (ds : List Bool) => [(8, vi y)]) (fun (y : Int) (ds : List Bool) => osl 4 boolT v15 ds :: blk b7 140 (rectT.enc (gd ss i).box) :: osl 50 slT vo zs :: bagS 140 rectT zs :: L) (fun (y : Int) (ds : List Bool) => (40 - y).toNat) (gd ss i).box.y0 cs ⟨by omega, by omega, fun _ => rfl, hl, fun y' x' h1 h2 => by rw [Bool.eq_iff_iff]; simp [inR]; omega⟩ ⟨rfl, trivial⟩ Cv.p ?_
     rintro y ds τ2 ⟨hy0, hy1, hly, hld, hd⟩
     refine WP.seq (WP.seq (WP.region (RG.pv rfl (PV.move (v := v) rfl rfl) (RG.ml rfl rfl rfl (RG.pv rfl (PV.idxS (v := v) rfl Is83 rfl (SlF.r h1) rfl rfl (by omega)) (RG.pv rfl (PV.field rfl Fo142_0 rfl) (RG.pv rfl (PV.loadF rfl Sc2 rfl rfl (El.r h1 (getG (by omega))) rfl) ?_)))))))
     refine RG.ml rfl rfl rfl (RG.pv rfl (PV.eql rfl rfl rfl) (RG.bl rfl rfl rfl ?_))
     refine RG.gs rfl rfl rfl (fun hp => (PV.mvI (.inl rfl) rfl)) ?_
     refine RG.gs rfl rfl rfl (fun hp => (PV.field rfl Fo140_3 rfl)) ?_
     refine RG.gs rfl rfl rfl (fun hp => (PV.load1 rfl Sc2 (gs_t hp) (Rd.blk rfl))) ?_
     refine RG.gs rfl rfl rfl (fun hp => (PV.lss rfl (gs_t hp) (gs_t hp))) ?_
     refine RG.pv rfl (PV.pickA rfl rfl (fun hq => gs_t (geqT hq)) rfl) (RG.nil ?_)
     refine WP.cond rfl (fun h5 => ?_) (fun h5 => ?_)
     · have h5' : (gd ss i).layer = (n : Int) ∧ y < (gd ss i).box.y1 := by simpa using h5
       refine WP.skip (WP.seq (WP.block (WP.seq (WP.region (RG.pv rfl (PV.field rfl Fo140_0 rfl) (RG.pv rfl (PV.load1 rfl Sc2 rfl (Rd.blk rfl)) (RG.mr rfl rfl rfl ?_)))))))
       refine RG.nil (WP.block ?_)
       refine WP.loop2 [0, 3, 4, 5, 6, 7, 8] (fun (x : Int) (es : List Bool) => (gd ss i).box.x0 ≤ x ∧ x ≤ (gd ss i).box.x1 ∧ es.length = 6400 ∧ ∀ y' x', y' < 80 → x' < 80 → gb es y' x' = (gb ds y' x' || (decide ((y' : Int) - 40 = y) && decide ((gd ss i).box.x0 ≤ (x' : Int) - 40) && decide ((x' : Int) - 40 < x)))) (fun (x : Int) (es : List Bool) => [(9, vi x)]) (fun (x : Int) (es : List Bool) => osl 4 boolT v15 es :: blk b7 140 (rectT.enc (gd ss i).box) :: osl 50 slT vo zs :: bagS 140 rectT zs :: L) (fun (x : Int) (es : List Bool) => (40 - x).toNat) (gd ss i).box.x0 ds ⟨by omega, by omega, hld, fun y' x' h1 h2 => by rw [Bool.eq_iff_iff]; simp; omega⟩ ⟨rfl, trivial⟩ Cv.p ?_
       rintro x es τ3 ⟨hx0, hx1, hle, hee⟩
       refine WP.seq (WP.seq (WP.region (RG.ml rfl rfl rfl (RG.pv rfl (PV.field rfl Fo140_2 rfl) (RG.pv rfl (PV.load1 rfl Sc2 rfl (Rd.blk rfl)) (RG.pv rfl (PV.lss rfl rfl rfl) (RG.nil ?_)))))))
       refine WP.cond rfl (fun h6 => ?_) (fun h6 => ?_)
       · have h6 := of_decide_eq_true h6
         refine WP.skip (WP.seq (WP.block (WP.region (RG.pv rfl (PV.move (v := v15) rfl rfl) (RG.ml rfl rfl rfl (RG.pv rfl (PV.add rfl rfl rfl (by omega)) (RG.pv rfl (PV.mul rfl rfl rfl (by omega)) ?_)))))))
         refine RG.ml rfl rfl rfl (RG.pv rfl (PV.add rfl rfl rfl (by omega)) (RG.pv rfl (PV.add rfl rfl rfl (by omega)) (RG.pv rfl (PV.idxS (j := ((y + 40) * 80 + x + 40).toNat) (v := v15) rfl Is109 rfl SlF.o rfl (by omega) (by omega)) ?_)))
         refine RG.ot rfl (OT.storeE (F := boolT) rfl Sz4 rfl rfl rfl (Cl.c rfl) (OneC.c rfl) (by omega) ?_)
         refine RG.nil (WP.region (RG.ml rfl rfl rfl (RG.pv rfl (PV.add rfl rfl rfl (by omega)) (RG.mr rfl rfl rfl (RG.nil ?_)))))
         refine ⟨rfl, x + 1, (es.set ((y + 40) * 80 + x + 40).toNat true), ⟨by omega, by omega, by simpa using hle, fun y' x' h7 h8 => ?_⟩, ⟨rfl, trivial⟩, ⟨rfl, rfl, rfl, rfl, rfl, rfl, rfl, trivial⟩, Cv.p, by omega⟩
         rw [show ((y + 40) * 80 + x + 40).toNat = (y + 40).toNat * 80 + (x + 40).toNat by omega, gb_set hle (by omega) (by omega) h8, hee y' x' h7 h8]
         cases gb ds y' x' <;> (rw [Bool.eq_iff_iff]; split <;> simp <;> omega)
       · have h6 := of_decide_eq_false h6
         refine WP.exit ?_
         refine WP.region (RG.ml rfl rfl rfl (RG.pv rfl (PV.add rfl rfl rfl (by omega)) (RG.mr rfl rfl rfl (RG.nil ?_))))
         refine ⟨rfl, y + 1, es, ⟨by omega, by omega, fun h => absurd h5'.1 h, hle, fun y' x' h7 h8 => ?_⟩, ⟨rfl, trivial⟩, ⟨rfl, rfl, rfl, rfl, rfl, rfl, trivial⟩, Cv.p, by omega⟩
         rw [hee y' x' h7 h8, hd y' x' h7 h8]
         cases gb cs y' x' <;> (rw [Bool.eq_iff_iff]; simp [inR]; try omega)
     · have h5' : (gd ss i).layer = (n : Int) → (gd ss i).box.y1 ≤ y := by simpa using h5
       refine WP.exit ?_
       refine WP.region (RG.ml rfl rfl rfl (RG.pv rfl (PV.add rfl rfl rfl (by omega)) (RG.mr rfl rfl rfl (RG.nil ?_))))
       refine ⟨rfl, i + 1, ds, ⟨by omega, hld, fun y' x' h7 h8 => ?_⟩, ⟨rfl, trivial⟩, ⟨rfl, rfl, rfl, rfl, trivial⟩, Cv.p, by omega⟩
       rw [hd y' x' h7 h8, hc y' x' h7 h8, any_boxes h4]
       congr 1
       by_cases e : (gd ss i).layer = (n : Int)
       · have := h5' e
         rw [Bool.eq_iff_iff]; simp [inR, e]; omega
       · have := hly e
         rw [Bool.eq_iff_iff]; simp [inR, e]; omega
   · have h3 := of_decide_eq_false h3
     have e : cs = bits (boxesOf ss n) := bits_eq hl fun y x h6 h7 => by rw [hc y x h6 h7, List.take_of_length_le (by omega)]
     subst e
     refine WP.exit ?_
     refine WP.region (RG.pv rfl (PV.move (v := vo) rfl rfl) (RG.pv rfl (PV.move (v := v15) rfl rfl) ?_))
     refine RG.callF (vs := [v15]) rfl rfl En98 rfl (l03Canon_s Rs.o (bits_length _) (fun v62 => ?_))
     refine RG.ot rfl (OT.bslice (F := (slT (α := Rect))) (els := [⟨v62, canon (bits (boxesOf ss n))⟩]) rfl El47 rfl (by decide) rfl (by decide) ⟨rfl, (Cl.s (v := v62) SlF.o), trivial⟩ fun v63 => ?_)
     refine RG.ot rfl (OT.append (v := vo) (u := v63) (F := (slT (α := Rect))) rfl El47 rfl (by decide) rfl rfl Rs.o (OneL.one (a := (⟨v62, canon (bits (boxesOf ss n))⟩ : Sl Rect)) (OneC.sl SlF.o OneC.nil)) rfl (by first | omega | (simp <;> omega)) fun v64 => ?_)
     refine RG.pv rfl (PV.asg (v := v64) rfl rfl) (RG.nil (WP.region (RG.ml rfl rfl rfl (RG.pv rfl (PV.add rfl rfl rfl (by omega)) (RG.mr rfl rfl rfl (RG.nil ?_))))))
     exact ⟨rfl, n + 1, v64, (zs ++ [⟨v62, canon (bits (boxesOf ss n))⟩]), ⟨by omega, layTo_next hz⟩, ⟨rfl, rfl, trivial⟩, ⟨rfl, trivial⟩, ((Cv.p (C := osl 140 rectT v62 (canon (bits (boxesOf ss n))) :: osl 50 slT v64 (zs ++ [⟨v62, canon (bits (boxesOf ss n))⟩]) :: bagS 140 rectT zs :: L)).trans Cv.slotNew), by omega⟩
 · have h2 := of_decide_eq_false h2
   obtain rfl : n = 8 := by omega
   refine WP.exit ?_
   refine WP.seq (WP.region (RG.pv rfl (PV.move (v := vo) rfl rfl) (RG.pv rfl (PV.asg (v := vo) rfl rfl) (RG.nil ?_))))
   refine WP.ret ?_
   exact ⟨_, _, ResV.one rfl rfl, Cv.p, k vo zs hz⟩
def flyL (cs : List ECell) (cell : Int) : List (List Rect) := bif decide (shE cs cell = 0) then layL (shR cs cell) else []
theorem Cv.nilSS {M : List Ch} {e e' : TypeId} [p : PickC L M] : Cv M (osl e slT (.slice none 0 0) ([] : List (Sl Rect)) :: bagS e' rectT [] :: L) := (Cv.pick p.pick).trans ((Cv.bag0 (xs := []) rfl).trans Cv.nilS)
theorem fly_i {l : Lib} {cell : Int} (hL : RLib G L l.cells.v l.cells.xs) (hlen : lenC (erCls l.cells.xs)) (k : ∀ v' ys, er ys = flyL (erCls l.cells.xs) cell → R (.tuple #[v', vi (shE (erCls l.cells.xs) cell)]) G (osl 50 slT v' ys :: bagS 140 rectT ys :: L)) : CallT Tryz.prog 22 #[vT libT l, vi cell] G L R := by
 refine CallT.enter (args := _) Tryz.func22 rfl rfl (by kernel_rfl) rfl ?_
 refine WP.seq (WP.region ?_)
 refine RG.ot rfl (OT.box (cs := libT.enc l) rfl rfl rfl fun b2 => ?_)
 refine RG.pv rfl (PV.asg rfl rfl) (RG.mr rfl rfl rfl (RG.nil (WP.seq (WP.region (RG.pv rfl (PV.loadW rfl Ag31 rfl rfl) (RG.ml rfl rfl rfl ?_))))))
 refine RG.callF (vs := [_, _]) rfl rfl En45 rfl (flat_i hL.up hlen (fun w11 => ?_))
 refine RG.pv rfl (PV.move (v := .tuple _) rfl rfl) (RG.pv rfl (PV.ext (v := w11) rfl rfl rfl) (RG.pv rfl (PV.ext rfl rfl rfl) (RG.pv rfl (PV.asg (v := w11) rfl rfl) (RG.mr rfl rfl rfl (RG.nil (WP.seq (WP.seq ?_)))))))
 refine WP.region (RG.ml rfl rfl rfl (RG.pv rfl (PV.neq rfl rfl rfl) (RG.nil ?_)))
 refine WP.cond rfl (fun h1 => ?_) (fun h1 => ?_)
 · have h1 : shE (erCls l.cells.xs) cell ≠ 0 := by simpa using h1
   refine WP.seq (WP.region (RG.ml rfl rfl rfl (RG.pv rfl (PV.asg rfl rfl) (RG.mr rfl rfl rfl (RG.nil ?_)))))
   refine WP.ret ?_
   exact ⟨_, _, ResV.two rfl rfl rfl, Cv.nilSS, k _ [] (by rw [flyL, decide_eq_false h1]; rfl)⟩
 · have h1 : shE (erCls l.cells.xs) cell = 0 := by simpa using h1
   have ef : flyL (erCls l.cells.xs) cell = layL (shR (erCls l.cells.xs) cell) := by rw [flyL, decide_eq_true h1]; rfl
   rw [h1] at k
   refine WP.skip (WP.seq (WP.region (RG.pv rfl (PV.move (v := w11) rfl rfl) ?_)))
   refine RG.callF (vs := [w11]) rfl rfl En46 rfl (layers_i Rs.o (fun w8 ys he => ?_))
   refine RG.pv rfl (PV.asg rfl rfl) (RG.mr rfl rfl rfl (RG.nil ?_))
   refine WP.ret ?_
   exact ⟨_, _, ResV.two rfl rfl rfl, Cv.p, k w8 ys (by rw [he, ef])⟩
theorem fly_r {l : Lib} {cell : Int} (hL : RLib G L l.cells.v l.cells.xs) (hlen : lenC (erCls l.cells.xs)) (k : ∀ v' ys, er ys = flyL (erCls l.cells.xs) cell → R (.tuple #[v', vi (shE (erCls l.cells.xs) cell)]) G (osl 50 slT v' ys :: bagS 140 rectT ys :: L)) : CallT Tryz.prog 52 #[vT libT l, vi cell] G L R := by
 refine CallT.enter (args := _) Tryz.func52 rfl rfl (by kernel_rfl) rfl ?_
 refine WP.seq (WP.region ?_)
 refine RG.ot rfl (OT.box (cs := libT.enc l) rfl rfl rfl fun b2 => ?_)
 refine RG.pv rfl (PV.asg rfl rfl) (RG.mr rfl rfl rfl (RG.nil (WP.seq (WP.region (RG.pv rfl (PV.loadW rfl Ag31 rfl rfl) (RG.ml rfl rfl rfl ?_))))))
 refine RG.callF (vs := [_, _]) rfl rfl En92 rfl (flat_r hL.up hlen (fun w11 => ?_))
 refine RG.pv rfl (PV.move (v := .tuple _) rfl rfl) (RG.pv rfl (PV.ext (v := w11) rfl rfl rfl) (RG.pv rfl (PV.ext rfl rfl rfl) (RG.pv rfl (PV.asg (v := w11) rfl rfl) (RG.mr rfl rfl rfl (RG.nil (WP.seq (WP.seq ?_)))))))
 refine WP.region (RG.ml rfl rfl rfl (RG.pv rfl (PV.neq rfl rfl rfl) (RG.nil ?_)))
 refine WP.cond rfl (fun h1 => ?_) (fun h1 => ?_)
 · have h1 : shE (erCls l.cells.xs) cell ≠ 0 := by simpa using h1
   refine WP.seq (WP.region (RG.ml rfl rfl rfl (RG.pv rfl (PV.asg rfl rfl) (RG.mr rfl rfl rfl (RG.nil ?_)))))
   refine WP.ret ?_
   exact ⟨_, _, ResV.two rfl rfl rfl, Cv.nilSS, k _ [] (by rw [flyL, decide_eq_false h1]; rfl)⟩
 · have h1 : shE (erCls l.cells.xs) cell = 0 := by simpa using h1
   have ef : flyL (erCls l.cells.xs) cell = layL (shR (erCls l.cells.xs) cell) := by rw [flyL, decide_eq_true h1]; rfl
   rw [h1] at k
   refine WP.skip (WP.seq (WP.region (RG.pv rfl (PV.move (v := w11) rfl rfl) ?_)))
   refine RG.callF (vs := [w11]) rfl rfl En93 rfl (layers_r Rs.o (fun i hi => shR_valid hi) (fun w8 ys he => ?_))
   refine RG.pv rfl (PV.asg rfl rfl) (RG.mr rfl rfl rfl (RG.nil ?_))
   refine WP.ret ?_
   exact ⟨_, _, ResV.two rfl rfl rfl, Cv.p, k w8 ys (by rw [he, ef])⟩
end Go.Proofs.YthhjapiggekjbaaGreat
namespace Go.Proofs.YthhjapiggekjbaaGreat
set_option linter.unusedVariables false
set_option linter.unusedSimpArgs false
open Go
set_option maxRecDepth 20000
set_option linter.unusedSimpArgs false
variable {G : Gh} {L : List Ch} {R : Value → Gh → List Ch → Prop}
theorem OccAt.root {xs : List Cell} {cell : Int} {zs : List Occ} {i m : Nat} (h : OccAt xs cell zs i) (hm : m < (gd xs (gd zs i).cell.toNat).shapes.xs.length) :
   (rootL (erCls xs) ((occR (erCls xs) cell).take i) ++ (rootAt (erCls xs) (gd (occR (erCls xs) cell) i)).take m).length < (flatL (erCls xs) (occR (erCls xs) cell)).length ∧ (rootAt (erCls xs) (gd (occR (erCls xs) cell) i)).take (m + 1) = (rootAt (erCls xs) (gd (occR (erCls xs) cell) i)).take m ++ [⟨rootOf (erO (gd zs i)), gd (flatL (erCls xs) (occR (erCls xs) cell)) (rootL (erCls xs) ((occR (erCls xs) cell).take i) ++ (rootAt (erCls xs) (gd (occR (erCls xs) cell) i)).take m).length⟩] := by
 have := rootAt_step (cs := erCls xs) (os := occR (erCls xs) cell) (i := i) (k := m) h.hi (by rw [h.ho]; simp only [erO, h.hs]; exact hm)
 refine ⟨this.1, ?_⟩
 rw [this.2, ← h.ho]
theorem elN_ns {xs : List Cell} {cell : Int} (hc : cell.toNat < xs.length) : elN (erCls xs) cell = (elems (gd xs cell.toNat).insts.xs).length := by rw [elN, erCl_insts hc]
end Go.Proofs.YthhjapiggekjbaaGreat
namespace Go.Proofs.YthhjapiggekjbaaGreat
set_option linter.unusedVariables false
set_option linter.unusedSimpArgs false
open Go
set_option maxRecDepth 20000
set_option maxHeartbeats 1000000
set_option linter.unusedSimpArgs false
variable {G : Gh} {L : List Ch} {R : Value → Gh → List Ch → Prop}
/-- what is known where an element is asked for -/
structure AtEl (xs : List Cell) (cell n : Int) : Prop where
  hz : shE (erCls xs) cell = 0
  hn : 0 ≤ n ∧ n < elN (erCls xs) cell
theorem AtEl.lib {xs : List Cell} {cell n : Int} (h : AtEl xs cell n) : okLib (erCls xs) = true ∧ 0 ≤ cell ∧ cell.toNat < xs.length := by
 have := shE_lib h.hz
 rw [erCls_len] at this
 exact ⟨this.1, by omega, by omega⟩
theorem AtEl.lt {xs : List Cell} {cell n : Int} (h : AtEl xs cell n) : n.toNat < (elems (gd xs cell.toNat).insts.xs).length := by
 have := h.hn
 rw [elN_ns h.lib.2.2] at this
 omega
end Go.Proofs.YthhjapiggekjbaaGreat
namespace Go.Proofs.YthhjapiggekjbaaGreat
set_option linter.unusedVariables false
set_option linter.unusedSimpArgs false
open Go
set_option maxRecDepth 20000
set_option maxHeartbeats 1000000
set_option linter.unusedSimpArgs false
variable {G : Gh} {L : List Ch} {R : Value → Gh → List Ch → Prop}
theorem AtEl.of {xs : List Cell} {cell n : Int} (hz : shE (erCls xs) cell = 0) (h : within n 0 ((elN (erCls xs) cell : Int) - 1) = true) : AtEl xs cell n := by
 simp only [within, Bool.and_eq_true, decide_eq_true_eq] at h
 exact ⟨hz, by omega, by omega⟩
end Go.Proofs.YthhjapiggekjbaaGreat
namespace Go.Proofs.YthhjapiggekjbaaGreat
set_option linter.unusedVariables false
set_option linter.unusedSimpArgs false
open Go
set_option maxRecDepth 20000
set_option linter.unusedSimpArgs false
variable {G : Gh} {L : List Ch} {R : Value → Gh → List Ch → Prop}
theorem nets_r {v : Value} {xs : List (Sl Rect)} (h1 : Rs G L slT v xs) (hd : RsE G L rectT xs) (k : ∀ v' zs, (er (nps zs)).map erPs = netR (er xs) → R (.tuple #[v', vi (netE (er xs))]) G (osl 80 netT v' zs :: bagS 63 pieceT (nps zs) :: bagS 140 rectT (regs (er (nps zs)).flatten) :: L)) : CallT Tryz.prog 53 #[v] G L R := by
 have hcl : (clsL (er xs)).length ≤ 25600 := by rw [clsL_len]; exact pcL_len (er xs) 4
 have hcn : cntR (clsL (er xs)) (clsL (er xs)).length = netN (er xs) := by rw [clsL_len]; rfl
 refine CallT.enter (args := _) Tryz.func53 rfl rfl (by kernel_rfl) rfl ?_
 refine WP.seq (WP.region (RG.pv rfl (PV.asg rfl rfl) (RG.mr rfl rfl rfl (RG.nil (WP.seq (WP.seq (WP.region ?_)))))))
 refine RG.pv rfl (PV.move (v := v) rfl rfl) ?_
 refine RG.callF (vs := [v]) rfl rfl En94 rfl (l19Layout_s (Rs.up h1) hd.up ?_)
 refine RG.pv rfl (PV.not rfl rfl) (RG.nil ?_)
 refine WP.cond rfl (fun h2 => ?_) (fun h2 => ?_)
 · have h3 : isLay (er xs) = false := by simpa using h2
   have e : netE (er xs) = 1 := by rw [netE, h3]; rfl
   have e2 : netR (er xs) = [] := by rw [netR, e]; rfl
   rw [e, e2] at k
   refine WP.seq (WP.region ?_)
   refine RG.ot rfl (OT.bslice (F := netT) (els := []) rfl El44 rfl (by decide) rfl (by decide) trivial fun v14 => ?_)
   refine RG.pv rfl (PV.asg (v := v14) rfl rfl) (RG.mr rfl rfl rfl (RG.nil ?_))
   refine WP.ret ?_
   exact ⟨_, _, ResV.two rfl rfl rfl, ((Cv.p (C := osl 80 netT v14 ([] : List Net) :: L)).trans (Cv.cons ((Cv.bag0 (e := 140) (F := rectT) (xs := regs []) rfl).trans (Cv.bag0 (e := 63) (F := pieceT) (xs := nps []) rfl)))), k v14 [] rfl⟩
 · have h3 : isLay (er xs) = true := by simpa using h2
   refine WP.skip (WP.seq (WP.region (RG.pv rfl (PV.move (v := v) rfl rfl) ?_)))
   refine RG.callF (vs := [v]) rfl rfl En95 rfl (l23Parts_s (Rs.up h1) hd.up h3 (fun v16 csv16 hev16 => ?_))
   refine RG.pv rfl (PV.asg (v := v16) rfl rfl) (RG.nil (WP.seq (WP.region (RG.pv rfl (PV.move (v := v16) rfl rfl) (RG.pv rfl (PV.move (v := v) rfl rfl) ?_)))))
   refine RG.callF (vs := [v16, v]) rfl rfl En97 rfl (l23Roots_s Rs.o RsE.o (Rs.up h1) hd.up h3 hev16 (fun v20 => ?_))
   refine RG.callF (vs := [v20]) rfl rfl En96 rfl (l23Numbers_s Rs.o (clsL_rt _) hcl (fun w21 => ?_))
   refine RG.pv rfl (PV.move (v := .tuple _) rfl rfl) (RG.pv rfl (PV.ext (v := w21) rfl rfl rfl) (RG.pv rfl (PV.ext rfl rfl rfl) (RG.pv rfl (PV.asg (v := w21) rfl rfl) (RG.mr rfl rfl rfl (RG.nil (WP.seq (WP.seq ?_)))))))
   refine WP.region (RG.ml rfl rfl rfl (RG.pv rfl (PV.gtr rfl rfl rfl) (RG.nil ?_)))
   refine WP.cond rfl (fun h4 => ?_) (fun h4 => ?_)
   · have h4 := of_decide_eq_true h4
     have e : netE (er xs) = 3 := by rw [netE, h3, cond_true, if_pos (by omega)]
     have e2 : netR (er xs) = [] := by rw [netR, e]; rfl
     rw [e, e2] at k
     refine WP.seq (WP.region ?_)
     refine RG.ot rfl (OT.bslice (F := netT) (els := []) rfl El44 rfl (by decide) rfl (by decide) trivial fun v26 => ?_)
     refine RG.pv rfl (PV.asg (v := v26) rfl rfl) (RG.mr rfl rfl rfl (RG.nil ?_))
     refine WP.ret ?_
     exact ⟨_, _, ResV.two rfl rfl rfl, ((Cv.p (C := osl 80 netT v26 ([] : List Net) :: L)).trans (Cv.cons ((Cv.bag0 (e := 140) (F := rectT) (xs := regs []) rfl).trans (Cv.bag0 (e := 63) (F := pieceT) (xs := nps []) rfl)))), k v26 [] rfl⟩
   · have h4 := of_decide_eq_false h4
     have e : netE (er xs) = 0 := by rw [netE, h3, cond_true, if_neg (by omega)]
     have e2 : netR (er xs) = netL (er xs) := by rw [netR, e]; rfl
     rw [e, e2] at k
     have hcs : csv16.map erC = pcL (er xs) 4 := hev16
     have hcsl : csv16.length = (pcL (er xs) 4).length := by rw [← hcs, List.length_map]
     have hpl4 := pcL_len (er xs) 4
     have hce : ∀ i, i < csv16.length → erC (gd csv16 i) = gd (pcL (er xs) 4) i := fun i hi => by rw [← hcs, gd_map _ hi]
     have hc6 : ∀ i, i < csv16.length → (gd csv16 i).cells.xs.length = 6400 := fun i hi => by
       have := pcL_gd_len (l := er xs) (i := i) (by omega)
       rw [← hce i hi] at this; exact this
     have hnl : (nums (clsL (er xs))).length = csv16.length := by rw [nums, List.length_map, List.length_range, clsL_len, hcsl]
     have hng : ∀ i, i < csv16.length → gd (nums (clsL (er xs))) i = (numR (clsL (er xs)) i : Int) := fun i hi => by
       rw [nums, gd_map _ (by rw [List.length_range, clsL_len]; omega)]
       simp [gd, clsL_len, ← hcsl, hi]
     have hnN : (netL (er xs)).length = netN (er xs) := netL_len _
     refine WP.skip (WP.seq (WP.region ?_))
     refine RG.ot rfl (OT.bslice (F := netT) (els := []) rfl El44 rfl (by decide) rfl (by decide) trivial fun v27 => ?_)
     refine RG.pv rfl (PV.asg (v := v27) rfl rfl) (RG.nil (WP.seq (WP.seq (WP.region (RG.mr rfl rfl rfl (RG.nil (WP.block ?_)))))))
     refine WP.cv ((Cv.p (C := osl 80 netT v27 ([] : List Net) :: osl 166 partT v16 csv16 :: bagS 4 boolT (cels csv16) :: osl 2 intT w21 (nums (clsL (er xs))) :: L)).trans (Cv.cons ((Cv.bag0 (e := 140) (F := rectT) (xs := regs (er (nps [])).flatten) rfl).trans (Cv.bag0 (e := 63) (F := pieceT) (xs := nps []) rfl)))) ?_
     refine WP.loop3 [4, 5, 6] (fun (n : Nat) (zs : List Net) (q : Value) => n ≤ netN (er xs) ∧ (er (nps zs)).map erPs = (netL (er xs)).take n) (fun (n : Nat) (zs : List Net) (q : Value) => [(8, vi n), (7, q)]) (fun (n : Nat) (zs : List Net) (q : Value) => osl 80 netT q zs :: bagS 63 pieceT (nps zs) :: bagS 140 rectT (regs (er (nps zs)).flatten) :: osl 166 partT v16 csv16 :: bagS 4 boolT (cels csv16) :: osl 2 intT w21 (nums (clsL (er xs))) :: L) (fun (n : Nat) (zs : List Net) (q : Value) => netN (er xs) - n) 0 [] v27 ⟨by omega, rfl⟩ ⟨rfl, rfl, trivial⟩ Cv.p ?_
     rintro n zs q τ ⟨hn, hzs⟩
     refine WP.seq (WP.seq (WP.region (RG.ml rfl rfl rfl (RG.ml rfl rfl rfl (RG.pv rfl (PV.lss rfl rfl rfl) (RG.nil ?_))))))
     have hzl : zs.length = n := by
       have := congrArg List.length hzs
       rw [List.length_map, er_len, nps_len, List.length_take] at this; omega
     refine WP.cond rfl (fun h5 => ?_) (fun h5 => ?_)
     · have h5 := of_decide_eq_true h5
       refine WP.skip (WP.seq (WP.block (WP.seq (WP.region ?_))))
       refine RG.ot rfl (OT.bslice (F := pieceT) (els := []) rfl El78 rfl (by decide) rfl (by decide) trivial fun v33 => ?_)
       refine RG.pv rfl (PV.asg (v := v33) rfl rfl) (RG.nil (WP.seq (WP.seq (WP.region (RG.mr rfl rfl rfl (RG.nil (WP.block ?_)))))))
       refine WP.loop4 [4, 5, 6, 7, 8] (fun (i : Nat) (ps : List Piece) (bs : List (Sl Rect)) (p : Value) => i ≤ csv16.length ∧ erPs ps = (((List.range i).filter fun j => decide (numR (clsL (er xs)) j = n)).map fun j => pcR (gd (pcL (er xs) 4) j)) ∧ bs = regs ((er (nps zs)).flatten ++ ps)) (fun (i : Nat) (ps : List Piece) (bs : List (Sl Rect)) (p : Value) => [(10, vi i), (9, p)]) (fun (i : Nat) (ps : List Piece) (bs : List (Sl Rect)) (p : Value) => osl 63 pieceT p ps :: bagS 140 rectT bs :: osl 80 netT q zs :: bagS 63 pieceT (nps zs) :: osl 166 partT v16 csv16 :: bagS 4 boolT (cels csv16) :: osl 2 intT w21 (nums (clsL (er xs))) :: L) (fun (i : Nat) (ps : List Piece) (bs : List (Sl Rect)) (p : Value) => csv16.length - i) 0 [] (regs (er (nps zs)).flatten) v33 ⟨by omega, rfl, by rw [List.append_nil]⟩ ⟨rfl, rfl, trivial⟩ Cv.p ?_
       rintro i ps bs p τ1 ⟨hi, hps, hbs⟩
       refine WP.seq (WP.seq (WP.region (RG.ml rfl rfl rfl (RG.pv rfl (PV.move (v := v16) rfl rfl) (RG.pv rfl (PV.len (v := v16) rfl Tryz.underlying161 rfl SlF.o) (RG.pv rfl (PV.lss rfl rfl rfl) (RG.nil ?_)))))))
       have hpl : ps.length ≤ 25600 := by
         have := congrArg List.length hps
         have h6 := List.length_filter_le (fun j => decide (numR (clsL (er xs)) j = n)) (List.range i)
         rw [List.length_range] at h6
         rw [erPs_len, List.length_map] at this; omega
       refine WP.cond rfl (fun h6 => ?_) (fun h6 => ?_)
       · have h6 := of_decide_eq_true h6
         have h7 : i < csv16.length := by omega
         have hnu := hng i h7
         have hfs : (List.range (i + 1)).filter (fun j => decide (numR (clsL (er xs)) j = n)) = (List.range i).filter (fun j => decide (numR (clsL (er xs)) j = n)) ++ (if numR (clsL (er xs)) i = n then [i] else []) := by
           rw [List.range_succ, List.filter_append]
           by_cases c : numR (clsL (er xs)) i = n <;> simp [c]
         refine WP.skip (WP.seq (WP.block (WP.seq (WP.region (RG.pv rfl (PV.move (v := w21) rfl rfl) (RG.ml rfl rfl rfl (RG.pv rfl (PV.idxS (v := w21) rfl Is26 rfl SlF.o rfl rfl (by omega)) ?_)))))))
         refine RG.pv rfl (PV.loadE1 rfl Sc2 rfl rfl (El.o (getG (by omega))) rfl) (RG.ml rfl rfl rfl (RG.pv rfl (PV.eql rfl rfl rfl) (RG.nil ?_)))
         refine WP.cond rfl (fun h8 => ?_) (fun h8 => ?_)
         · have h8 := of_decide_eq_true h8
           have h9 : numR (clsL (er xs)) i = n := by omega
           rw [if_pos h9] at hfs
           have hl6 := hc6 i h7
           refine WP.regionHD [.s p] (.q 0 (.q 1 (.q 2 (.q 3 (.q 4 (.q 5 (.q 6 (.q 7 (.q 8 (.q 9 (.q 10 (.l 11 (.q 12 (.l 13 (.l 14 (.q 15 Sch.nil)))))))))))))))) (by kernel_rfl) (by kernel_rfl) (by kernel_rfl) rfl ?_
           refine RH.pv rfl (fun _ _ _ _ h => h) (Gh.le_refl _) PickC.pick rfl (PV.move (v := p) rfl rfl) ?_
           refine RH.pv rfl (fun _ _ _ _ h => h) (Gh.le_refl _) PickC.pick rfl (PV.move (v := v16) rfl rfl) ?_
           refine RH.pv rfl (fun _ _ _ _ h => h) (Gh.le_refl _) PickC.pick rfl (PV.mvI (.inl rfl) rfl) ?_
           refine RH.pv rfl (fun _ _ _ _ h => h) (Gh.le_refl _) PickC.pick rfl (PV.idxS (v := v16) rfl Is161 rfl SlF.o rfl rfl (by omega)) ?_
           refine RH.pv rfl (fun _ _ _ _ h => h) (Gh.le_refl _) PickC.pick rfl (PV.field rfl Fo166_0 rfl) ?_
           refine RH.pv rfl (fun _ _ _ _ h => h) (Gh.le_refl _) PickC.pick rfl (PV.loadF (v := v16) (j := 0) rfl Sc2 rfl rfl (El.o (getG (by omega))) rfl) ?_
           refine RH.pv rfl (fun _ _ _ _ h => h) (Gh.le_refl _) PickC.pick rfl (PV.move (v := v16) rfl rfl) ?_
           refine RH.pv rfl (fun _ _ _ _ h => h) (Gh.le_refl _) PickC.pick rfl (PV.mvI (.inl rfl) rfl) ?_
           refine RH.pv rfl (fun _ _ _ _ h => h) (Gh.le_refl _) PickC.pick rfl (PV.idxS (v := v16) rfl Is161 rfl SlF.o rfl rfl (by omega)) ?_
           refine RH.pv rfl (fun _ _ _ _ h => h) (Gh.le_refl _) PickC.pick rfl (PV.field rfl Fo166_1 rfl) ?_
           refine RH.pv rfl (fun _ _ _ _ h => h) (Gh.le_refl _) PickC.pick rfl (PV.loadF rfl Sc109 rfl rfl (El.o (getG (by omega))) rfl) ?_
           refine RH.ot rfl rfl (OT.callF (vs := [_]) rfl En98 rfl (l03Canon_s (Rs.inCels (xs := csv16) i (by omega)) hl6 (fun v57 => ⟨Gh.le_refl _, PickC.pick, ?_⟩)))
           refine RH.up1 ?_
           refine RH.pv rfl (fun _ _ _ _ h => h) (Gh.le_refl _) PickC.pick rfl (PV.build (vs := [(0, [vi _]), (1, [v57])]) (out := [_, _]) rfl Zr63 Pl63 ⟨rfl, (Cl.c rfl), ⟨rfl, (Cl.s (v := v57) SlF.o), trivial⟩⟩ rfl) ?_
           refine RH.ot rfl rfl (OT.bslice (F := pieceT) (els := [⟨(gd csv16 i).layer, ⟨v57, canon (gd csv16 i).cells.xs⟩⟩]) rfl El78 rfl (by decide) rfl (by decide) ⟨rfl, (Cl.c rfl), trivial⟩ fun v59 => ⟨Gh.le_refl _, PickC.pick, ?_⟩)
           refine RH.ot rfl rfl (OT.append (v := p) (u := v59) (F := pieceT) rfl El78 rfl (by decide) rfl rfl Rs.o (OneL.one (OneC.val rfl (OneC.sl SlF.o OneC.nil))) rfl (by first | omega | (simp <;> omega)) fun v60 => ⟨Gh.le_refl _, PickC.pick, ?_⟩)
           refine RH.pv rfl (fun _ _ _ _ h => h) (Gh.le_refl _) PickC.pick rfl (PV.asg (v := v60) rfl rfl) ?_
           refine RH.nil ?_
           refine WP.region (RG.ml rfl rfl rfl (RG.pv rfl (PV.add rfl rfl rfl (by omega)) (RG.mr rfl rfl rfl (RG.nil ?_))))
           refine ⟨rfl, i + 1, (ps ++ [⟨(gd csv16 i).layer, ⟨v57, canon (gd csv16 i).cells.xs⟩⟩]), (bs ++ [⟨v57, canon (gd csv16 i).cells.xs⟩]), v60, ⟨by omega, ?_, by rw [hbs]; simp [regs]⟩, ⟨rfl, rfl, trivial⟩, ⟨rfl, rfl, rfl, rfl, rfl, trivial⟩, ((Cv.p (C := osl 140 rectT v57 (canon (gd csv16 i).cells.xs) :: bagS 140 rectT bs :: osl 63 pieceT v60 (ps ++ [⟨(gd csv16 i).layer, ⟨v57, canon (gd csv16 i).cells.xs⟩⟩]) :: osl 80 netT q zs :: bagS 63 pieceT (nps zs) :: osl 166 partT v16 csv16 :: bagS 4 boolT (cels csv16) :: osl 2 intT w21 (nums (clsL (er xs))) :: L)).trans (Cv.bagS_add.trans Cv.p)), by omega⟩
           rw [hfs, List.map_append, ← hps, erPs, List.map_append]
           have := hce i h7
           rw [List.map_cons, List.map_nil, List.map_cons, List.map_nil, ← this]; rfl
         · have h8 := of_decide_eq_false h8
           have h9 : ¬ numR (clsL (er xs)) i = n := by omega
           rw [if_neg h9, List.append_nil] at hfs
           refine WP.skip (WP.region (RG.ml rfl rfl rfl (RG.pv rfl (PV.add rfl rfl rfl (by omega)) (RG.mr rfl rfl rfl (RG.nil ?_)))))
           exact ⟨rfl, i + 1, ps, bs, p, ⟨by omega, by rw [hfs]; exact hps, hbs⟩, ⟨rfl, rfl, trivial⟩, ⟨rfl, rfl, rfl, rfl, rfl, trivial⟩, Cv.p, by omega⟩
       · have h6 := of_decide_eq_false h6
         obtain rfl : i = csv16.length := by omega
         have hnz : (netL (er xs)).take (n + 1) = (netL (er xs)).take n ++ [erPs ps] := by
           rw [List.take_add_one, getG (by omega), netL_gd (by omega), ← hcsl, ← hps]; rfl
         refine WP.exit ?_
         refine WP.region (RG.pv rfl (PV.move (v := q) rfl rfl) (RG.pv rfl (PV.move (v := p) rfl rfl) (RG.pv rfl (PV.build (vs := [(0, [p])]) (out := [_]) rfl Zr80 Pl80 ⟨rfl, (Cl.s (v := p) SlF.o), trivial⟩ rfl) ?_)))
         refine RG.ot rfl (OT.bslice (F := netT) (els := [⟨⟨p, ps⟩⟩]) rfl El44 rfl (by decide) rfl (by decide) ⟨rfl, (Cl.c rfl), trivial⟩ fun v64 => ?_)
         refine RG.ot rfl (OT.append (v := q) (u := v64) (F := netT) rfl El44 rfl (by decide) rfl rfl Rs.o (OneL.one (OneC.sl SlF.o OneC.nil)) rfl (by first | omega | (simp <;> omega)) fun v65 => ?_)
         refine RG.pv rfl (PV.asg (v := v65) rfl rfl) (RG.nil (WP.region (RG.ml rfl rfl rfl (RG.pv rfl (PV.add rfl rfl rfl (by omega)) (RG.mr rfl rfl rfl (RG.nil ?_))))))
         exact ⟨rfl, n + 1, (zs ++ [⟨⟨p, ps⟩⟩]), v65, ⟨by omega, by rw [hnz, ← hzs, nps_append, er_append, List.map_append]; rfl⟩, ⟨rfl, rfl, trivial⟩, ⟨rfl, rfl, rfl, trivial⟩, ((Cv.p (C := osl 63 pieceT p ps :: bagS 63 pieceT (nps zs) :: bagS 140 rectT bs :: osl 80 netT v65 (zs ++ [⟨⟨p, ps⟩⟩]) :: osl 166 partT v16 csv16 :: bagS 4 boolT (cels csv16) :: osl 2 intT w21 (nums (clsL (er xs))) :: L)).trans ((Cv.grow (ys' := nps (zs ++ [⟨⟨p, ps⟩⟩])) (by simp [nps])).trans ((Cv.cons (Cv.bagPerm (ys := regs (er (nps (zs ++ [⟨⟨p, ps⟩⟩]))).flatten) (.of_eq (by rw [hbs, nps_append, er_append, List.flatten_append]; simp [nps, er])))).trans Cv.p))), by omega⟩
     · have h5 := of_decide_eq_false h5
       have hzs2 : (er (nps zs)).map erPs = netL (er xs) := by rw [hzs, List.take_of_length_le (by omega)]
       refine WP.exit ?_
       refine WP.seq (WP.region (RG.pv rfl (PV.move (v := q) rfl rfl) (RG.pv rfl (PV.asg (v := q) rfl rfl) (RG.mr rfl rfl rfl (RG.nil ?_)))))
       refine WP.ret ?_
       exact ⟨_, _, ResV.two rfl rfl rfl, Cv.p, k q zs hzs2⟩
end Go.Proofs.YthhjapiggekjbaaGreat
namespace Go.Proofs.YthhjapiggekjbaaGreat
set_option linter.unusedVariables false
set_option linter.unusedSimpArgs false
open Go
set_option maxRecDepth 20000
set_option maxHeartbeats 1000000
set_option linter.unusedSimpArgs false
variable {G : Gh} {L : List Ch} {R : Value → Gh → List Ch → Prop}
theorem layL_len (ss : List Shape) : (layL ss).length = 8 := by simp [layL]
end Go.Proofs.YthhjapiggekjbaaGreat
namespace Go.Proofs.YthhjapiggekjbaaGreat
set_option linter.unusedVariables false
set_option linter.unusedSimpArgs false
open Go
set_option maxRecDepth 20000
set_option linter.unusedSimpArgs false
variable {G : Gh} {L : List Ch} {R : Value → Gh → List Ch → Prop}
/-- only what lies in memory matters -/
theorem Cv.flat {α : Type} {e : TypeId} {F : FT α} {v : Value} {xs ys : List α} {L : List Ch} (h : F.flat xs = F.flat ys) (hl : xs.length = ys.length) : Cv (osl e F v xs :: L) (osl e F v ys :: L) :=
 Cv.imp fun hp hc => by
   rcases hc with ⟨rfl, rfl⟩ | ⟨b, cap, c, h1, h2, h3, h4, h5, h6⟩
   · exact .inl ⟨rfl, List.eq_nil_of_length_eq_zero (by simpa using hl.symm)⟩
   · exact .inr ⟨b, cap, c, by rw [← hl]; exact h1, h2, by rw [← hl]; exact h3, h4, h5, by rw [← hl, ← h]; exact h6⟩
theorem pcE_len (l : List (List Rect)) : (pcE l).length ≤ 25600 := by
 unfold pcE
 cases isLay l
 · simp
 · have := pcL_len l 4
   simp only [cond_true, List.length_map]; omega
end Go.Proofs.YthhjapiggekjbaaGreat
namespace Go.Proofs.YthhjapiggekjbaaGreat
set_option linter.unusedVariables false
set_option linter.unusedSimpArgs false
open Go
set_option maxRecDepth 20000
set_option maxHeartbeats 1000000
set_option linter.unusedSimpArgs false
variable {G : Gh} {L : List Ch} {R : Value → Gh → List Ch → Prop}
theorem isLay_layL (ss : List Shape) : isLay (layL ss) = true := by
 have h : ∀ i, i < (layL ss).length → isReg (gd (layL ss) i) = true := fun i hi => by
   rw [layL_len] at hi
   rw [layL, gd_map _ (by simpa using hi), range_gd hi]
   exact isReg_canon (bits_length _)
 rw [isLay_all h, layL_len]; rfl
/-- the pieces of a cell without its instances -/
noncomputable def ownP (cs : List ECell) (cell : Int) : List (Int × List Rect) := bif hasCl cs cell then pcE (layL (gd cs cell.toNat).shapes) else []
theorem hasCl_in {cs : List ECell} {cell : Int} (h : hasCl cs cell = true) : okLib cs = true ∧ 0 ≤ cell ∧ cell < cs.length := by
 simp only [hasCl, within, Bool.and_eq_true, decide_eq_true_eq] at h
 exact ⟨h.1, by omega, by omega⟩
theorem erCl_shapes {xs : List Cell} {i : Nat} (h : i < xs.length) : (gd (erCls xs) i).shapes = (gd xs i).shapes.xs := by rw [erCls_gd h]; rfl
theorem ownP_r {l : Lib} {cell : Int} (hL : RLib G L l.cells.v l.cells.xs) (hlen : lenC (erCls l.cells.xs)) (k : ∀ v' ps, erPs ps = ownP (erCls l.cells.xs) cell → R v' G (osl 63 pieceT v' ps :: bagS 140 rectT (regs ps) :: L)) : CallT Tryz.prog 104 #[vT libT l, vi cell] G L R := by
 have hE := erCls_len l.cells.xs
 refine CallT.enter (args := _) Tryz.func104 rfl rfl (by kernel_rfl) rfl ?_
 refine WP.seq (WP.region ?_)
 refine RG.ot rfl (OT.box (cs := libT.enc l) rfl rfl rfl fun b2 => ?_)
 refine RG.pv rfl (PV.asg rfl rfl) (RG.nil (WP.seq (WP.seq (WP.region (RG.pv rfl (PV.loadW rfl Ag31 rfl rfl) (RG.ml rfl rfl rfl ?_))))))
 refine RG.callF (vs := [_, _]) rfl rfl En100 rfl (hasCl_r hL.up hlen ?_)
 refine RG.pv rfl (PV.not rfl rfl) (RG.nil ?_)
 refine WP.cond rfl (fun h1 => ?_) (fun h1 => ?_)
 · have h1 : hasCl (erCls l.cells.xs) cell = false := by simpa using h1
   refine WP.seq (WP.region ?_)
   refine RG.ot rfl (OT.bslice (F := pieceT) (els := []) rfl El78 rfl (by decide) rfl (by decide) trivial fun v9 => ?_)
   refine RG.pv rfl (PV.asg (v := v9) rfl rfl) (RG.nil ?_)
   refine WP.ret ?_
   exact ⟨_, _, ResV.one rfl rfl, (Cv.p (C := osl 63 pieceT v9 [] :: L)).trans (Cv.cons (Cv.bag0 (xs := regs []) rfl)), k _ [] (by rw [ownP, h1]; rfl)⟩
 · have h1 : hasCl (erCls l.cells.xs) cell = true := by simpa using h1
   obtain ⟨hok, hc0, hc1⟩ := hasCl_in h1
   have hsl := hL.sa (i := cell.toNat) (by omega)
   have hes := erCl_shapes (xs := l.cells.xs) (i := cell.toNat) (by omega)
   have e0 : ownP (erCls l.cells.xs) cell = pcE (layL (gd l.cells.xs cell.toNat).shapes.xs) := by rw [ownP, h1, cond_true, hes]
   have hval : ∀ i, i < (gd l.cells.xs cell.toNat).shapes.xs.length → validRect (gd (gd l.cells.xs cell.toNat).shapes.xs i).box = true := fun i hi => by
     have := okLib_shape hok (i := cell.toNat) (j := i) (by omega) (by rw [hes]; exact hi)
     rw [hes] at this
     simp only [okSh, Bool.and_eq_true] at this; exact this.2
   refine WP.skip (WP.seq (WP.region (RG.pv rfl (PV.field rfl Fo31_0 rfl) (RG.pv rfl (PV.load1 rfl Sc29 rfl (Rd.blk rfl)) (RG.ml rfl rfl rfl (RG.pv rfl (PV.idxS (j := cell.toNat) rfl Is29 rfl (SlF.r hL.c) rfl (by omega) (by omega)) (RG.pv rfl (PV.field rfl Fo116_1 rfl) ?_)))))))
   refine RG.pv rfl (PV.loadF rfl Sc83 rfl rfl (El.r hL.c (getG (by omega))) rfl) ?_
   refine RG.callF (vs := [_]) rfl rfl En93 rfl (layers_r (v := (gd l.cells.xs cell.toNat).shapes.v) (Rs.up hsl) hval (fun w8 ys he => ?_))
   refine RG.callF (vs := [_]) rfl rfl En154 rfl (pieces_r (v := w8) Rs.o RsE.o (fun v17 psv17 hpv17 => ?_))
   refine RG.pv rfl (PV.asg (v := v17) rfl rfl) (RG.nil ?_)
   refine WP.ret ?_
   exact ⟨_, _, ResV.one rfl rfl, Cv.p, k v17 psv17 (by rw [hpv17, he, e0])⟩
end Go.Proofs.YthhjapiggekjbaaGreat
namespace Go.Proofs.YthhjapiggekjbaaGreat
set_option linter.unusedVariables false
set_option linter.unusedSimpArgs false
open Go
set_option maxRecDepth 20000
set_option maxHeartbeats 1000000
set_option linter.unusedSimpArgs false
variable {G : Gh} {L : List Ch} {R : Value → Gh → List Ch → Prop}
def mvI (t : Trans) (xs : List Rect) : List Rect := bif mvOk t xs then canon (bits (xs.map (moveR t))) else []
theorem mvI_no {t : Trans} {xs : List Rect} (h : mvOk t xs = false) : mvI t xs = [] := by rw [mvI, h]; rfl
theorem mvI_ok {t : Trans} {xs : List Rect} (h : mvOk t xs = true) : mvI t xs = canon (bits (xs.map (moveR t))) := by rw [mvI, h]; rfl
theorem mvTo_any {t : Trans} {xs : List Rect} {i y x : Nat} (h : i < xs.length) : (((xs.map (moveR t)).take (i + 1)).any fun r => inR r y x) = ((((xs.map (moveR t)).take i).any fun r => inR r y x) || inR (moveR t (gd xs i)) y x) := by
 rw [List.take_add_one, getG (by simpa using h), gd_map _ h, List.any_append]
 simp
theorem movedOk_no {t : Trans} {xs : List Rect} {i : Nat} (h : i < xs.length) (e : validRect (moveR t (gd xs i)) = false) : movedOk t xs = false := by
 rw [movedOk, List.all_eq_false]
 exact ⟨gd xs i, gd_mem h, by simpa using e⟩
theorem movedOk_yes {t : Trans} {xs : List Rect} (h : ∀ j, j < xs.length → validRect (moveR t (gd xs j)) = true) : movedOk t xs = true := by
 rw [movedOk, List.all_eq_true]
 intro r hr
 obtain ⟨j, hj, rfl⟩ := List.getElem_of_mem hr
 have := h j hj
 rwa [gd_eq hj] at this
theorem mvReg_i {t : Trans} {v : Value} {xs : List Rect} (h1 : Rs G L rectT v xs) (k : ∀ v', R (.tuple #[v', .bool (mvOk t xs)]) G (osl 140 rectT v' (mvI t xs) :: L)) : CallT Tryz.prog 86 #[vtrans t, v] G L R := by
 refine CallT.bd h1 fun hbd => ?_
 refine CallT.enter (args := _) Tryz.func86 rfl rfl (by kernel_rfl) rfl ?_
 refine WP.seq (WP.region ?_)
 refine RG.ot rfl (OT.box (cs := transT.enc t) rfl rfl rfl fun b2 => ?_)
 refine RG.pv rfl (PV.asg rfl rfl) (RG.br rfl rfl rfl (RG.nil (WP.seq (WP.seq (WP.region (RG.pv rfl (PV.loadW rfl Ag136 rfl rfl) ?_))))))
 refine RG.callF (vs := [_]) rfl rfl En134 rfl (validT_i ?_)
 refine RG.pv rfl (PV.not rfl rfl) (RG.bl rfl rfl rfl ?_)
 refine RG.gs rfl rfl rfl (fun hp => (PV.move (v := v) rfl rfl)) ?_
 refine RG.gsC rfl rfl rfl rfl En91 (fun hp => ⟨_, (acons (gs_t hp) anil), isRegion_s (Rs.up h1) ⟨rfl, rfl, rfl⟩⟩) ?_
 refine RG.gs rfl rfl rfl (fun hp => (PV.not rfl (gs_t hp))) ?_
 refine RG.pv rfl (PV.pickO rfl rfl rfl (fun hq => gs_t (geqF hq))) (RG.nil ?_)
 refine WP.cond rfl (fun h2 => ?_) (fun h2 => ?_)
 · have h3 : (validT t && isReg xs) = false := by
     cases h4 : validT t <;> cases h5 : isReg xs <;> simp_all
   have e1 : mvOk t xs = false := by rw [mvOk, h3]; rfl
   have e2 := mvI_no e1
   rw [e1, e2] at k
   refine WP.seq (WP.region (RG.pv rfl (PV.asg rfl rfl) (RG.br rfl rfl rfl (RG.nil ?_))))
   refine WP.ret ?_
   exact ⟨_, _, ResV.two rfl rfl rfl, (Cv.p (C := L)).trans Cv.nilS, k (.slice none 0 0)⟩
 · have h3 : validT t = true ∧ isReg xs = true := by
     cases h4 : validT t <;> cases h5 : isReg xs <;> simp_all
   have e0 : mvOk t xs = movedOk t xs := by rw [mvOk, h3.1, h3.2]; rfl
   obtain ⟨hto, hx, hy⟩ := validT_iff.1 h3.1
   have hri := RIn_all h3.2
   refine WP.skip (WP.seq (WP.region (RG.pv rfl (PV.build0 rfl Tryz.underlying148 ⟨80, by kernel_rfl⟩ (zeroB_spec (n := 6400) (by kernel_rfl))) ?_)))
   refine RG.ot rfl (OT.boxG rfl rfl fun b19 => ?_)
   refine RG.pv rfl (PV.mvP (.inr rfl) rfl) (RG.nil (WP.seq (WP.seq (WP.region (RG.pv rfl (PV.move (v := v) rfl rfl) (RG.pv rfl (PV.len (v := v) rfl Tryz.underlying50 rfl (SlF.r h1)) (RG.ml rfl rfl rfl ?_)))))))
   refine RG.nil (WP.block ?_)
   refine WP.loop2 [2, 6, 20, 21] (fun (i : Nat) (cs : List Bool) => i ≤ xs.length ∧ cs.length = 6400 ∧ (∀ j, j < i → validRect (moveR t (gd xs j)) = true) ∧ ∀ y x, y < 80 → x < 80 → gb cs y x = ((xs.map (moveR t)).take i).any fun r => inR r y x) (fun (i : Nat) (cs : List Bool) => [(22, vi i)]) (fun (i : Nat) (cs : List Bool) => grd b19 cs :: blk b2 136 (transT.enc t) :: L) (fun (i : Nat) (cs : List Bool) => xs.length - i) 0 (List.replicate 6400 false) ⟨by omega, by simp, fun j h => by omega, fun y x _ _ => by rw [gb_rep]; simp⟩ ⟨rfl, trivial⟩ Cv.p ?_
   rintro i cs τ ⟨hi, hl, hj, hc⟩
   refine WP.seq (WP.region (RG.pv rfl (PV.lss rfl rfl rfl) (RG.nil (WP.seq ?_))))
   refine WP.cond rfl (fun h4 => ?_) (fun h4 => ?_)
   · have h4 := of_decide_eq_true h4
     have h5 : i < xs.length := by omega
     refine WP.skip (WP.seq (WP.block (WP.seq (WP.region (RG.pv rfl (PV.idxS (v := v) rfl Is50 rfl (SlF.r h1) rfl rfl (by omega)) (RG.pv rfl (PV.loadE rfl Ag140 rfl rfl (El.r h1 (getG (by omega)))) ?_))))))
     refine RG.ot rfl (OT.alloc rfl Zr140 fun b8 => ?_)
     refine RG.ot rfl (OT.storeW (vs := [vi _, vi _, vi _, vi _]) rfl Sz140 rfl rfl (Cl.c rfl) rfl rfl (OneC.c rfl) ?_)
     refine RG.nil (WP.seq (WP.region (RG.pv rfl (PV.loadW rfl Ag136 rfl rfl) (RG.pv rfl (PV.loadW rfl Ag140 rfl rfl) ?_))))
     refine RG.callF (vs := [_, _]) rfl rfl En82 rfl (moveRect_s hto (by omega) (RIn_gd hri (by omega)) ?_)
     refine RG.ot rfl (OT.alloc rfl Zr140 fun b9 => ?_)
     refine RG.ot rfl (OT.storeW (vs := [vi _, vi _, vi _, vi _]) rfl Sz140 rfl rfl (Cl.c rfl) rfl rfl (OneC.c rfl) ?_)
     refine RG.nil (WP.seq (WP.seq (WP.region (RG.pv rfl (PV.loadW rfl Ag140 rfl rfl) ?_))))
     refine RG.callF (vs := [_]) rfl rfl En83 rfl (validRect_s ?_)
     refine RG.pv rfl (PV.not rfl rfl) (RG.nil ?_)
     refine WP.cond rfl (fun h6 => ?_) (fun h6 => ?_)
     · have h6 : validRect (moveR t (gd xs i)) = false := by simpa using h6
       have e1 : mvOk t xs = false := by rw [e0, movedOk_no h5 h6]
       have e2 := mvI_no e1
       rw [e1, e2] at k
       refine WP.seq (WP.region (RG.pv rfl (PV.asg rfl rfl) (RG.br rfl rfl rfl (RG.nil ?_))))
       refine WP.ret ?_
       exact ⟨_, _, ResV.two rfl rfl rfl, (Cv.p (C := L)).trans Cv.nilS, k (.slice none 0 0)⟩
     · have h6 : validRect (moveR t (gd xs i)) = true := by simpa using h6
       have hj' : ∀ j, j < i + 1 → validRect (moveR t (gd xs j)) = true := fun j h => by
         by_cases c : j = i
         · rw [c]; exact h6
         · exact hj j (by omega)
       refine WP.skip (WP.region (RG.pv rfl (PV.mvP (.inl rfl) rfl) (RG.pv rfl (PV.loadW rfl Ag140 rfl rfl) ?_)))
       refine RG.callF (vs := [(.pointer (some ⟨b19, 0, none⟩)), _]) rfl rfl En84 rfl (CallT.exB (put_s (by assumption) (fun bs' hb' hg' => ?_)))
       refine RG.nil (WP.region (RG.pv rfl (PV.add rfl rfl rfl (by omega)) (RG.ml rfl rfl rfl (RG.nil ?_))))
       exact ⟨rfl, i + 1, bs', ⟨by omega, hb', hj', fun y x h7 h8 => by rw [hg' y x h7 h8, hc y x h7 h8, mvTo_any h5]⟩, ⟨rfl, trivial⟩, ⟨rfl, rfl, rfl, rfl, trivial⟩, Cv.p, by omega⟩
   · have h4 := of_decide_eq_false h4
     have e1 : mvOk t xs = true := by rw [e0, movedOk_yes (fun j h => hj j (by omega))]
     have e : cs = bits (xs.map (moveR t)) := bits_eq hl fun y x h6 h7 => by rw [hc y x h6 h7, List.take_of_length_le (by simp; omega)]
     subst e
     rw [e1, mvI_ok e1] at k
     refine WP.exit ?_
     refine WP.seq (WP.region (RG.pv rfl (PV.mvP (.inl rfl) rfl) ?_))
     refine RG.callF (vs := [(.pointer (some ⟨b19, 0, none⟩))]) rfl rfl En85 rfl (CallT.exB (region_s (bits_length _) (fun v37 => ?_)))
     refine RG.pv rfl (PV.asg (v := v37) rfl rfl) (RG.br rfl rfl rfl (RG.nil ?_))
     refine WP.ret ?_
     exact ⟨_, _, ResV.two rfl rfl rfl, Cv.p, k v37⟩
theorem mvReg_r {t : Trans} {v : Value} {xs : List Rect} (h1 : Rs G L rectT v xs) (hb : TBig t) (hri : ∀ r ∈ xs, RIn 40 r) (hv : ∀ i, i < xs.length → validRect (moveR t (gd xs i)) = true) (k : ∀ v', R v' G (osl 140 rectT v' (canon (bits (xs.map (moveR t)))) :: L)) : CallT Tryz.prog 105 #[vtrans t, v] G L R := by
 refine CallT.bd h1 fun hbd => ?_
 refine CallT.enter (args := _) Tryz.func105 rfl rfl (by kernel_rfl) rfl ?_
 refine WP.seq (WP.region ?_)
 refine RG.ot rfl (OT.box (cs := transT.enc t) rfl rfl rfl fun b2 => ?_)
 refine RG.pv rfl (PV.asg rfl rfl) (RG.nil (WP.seq (WP.region ?_)))
 refine RG.ot rfl (OT.make (m := 6400) (F := boolT) (a0 := false) rfl El109 rfl (by decide) rfl rfl (by omega) (by omega) fun v7 => ?_)
 refine RG.pv rfl (PV.asg (v := v7) rfl rfl) (RG.nil (WP.seq (WP.seq (WP.region (RG.mr rfl rfl rfl (RG.nil (WP.block ?_)))))))
 refine WP.loop3 [1, 2] (fun (i : Nat) (cs : List Bool) (u : Value) => i ≤ xs.length ∧ cs.length = 6400 ∧ ∀ y x, y < 80 → x < 80 → gb cs y x = ((xs.map (moveR t)).take i).any fun r => inR r y x) (fun (i : Nat) (cs : List Bool) (u : Value) => [(6, vi i), (5, u)]) (fun (i : Nat) (cs : List Bool) (u : Value) => osl 4 boolT u cs :: blk b2 136 (transT.enc t) :: L) (fun (i : Nat) (cs : List Bool) (u : Value) => xs.length - i) 0 (List.replicate 6400 false) v7 ⟨by omega, by simp, fun y x _ _ => by rw [gb_rep]; simp⟩ ⟨rfl, rfl, trivial⟩ Cv.p ?_
 rintro i cs u τ ⟨hi, hl, hc⟩
 refine WP.seq (WP.seq (WP.region (RG.ml rfl rfl rfl (RG.pv rfl (PV.move (v := v) rfl rfl) (RG.pv rfl (PV.len (v := v) rfl Tryz.underlying50 rfl (SlF.r h1)) (RG.pv rfl (PV.lss rfl rfl rfl) (RG.nil ?_)))))))
 refine WP.cond rfl (fun h4 => ?_) (fun h4 => ?_)
 · have h4 := of_decide_eq_true h4
   have h5 : i < xs.length := by omega
   refine WP.skip (WP.seq (WP.block ?_))
   refine WP.regionHD [.s u] (.q 0 (.q 1 (.q 2 (.q 3 (.q 4 (.q 5 (.l 6 (.l 7 (.q 8 Sch.nil))))))))) (by kernel_rfl) (by kernel_rfl) (by kernel_rfl) rfl ?_
   refine RH.pv rfl (fun _ _ _ _ h => h) (Gh.le_refl _) PickC.pick rfl (PV.move (v := u) rfl rfl) ?_
   refine RH.pv rfl (fun _ _ _ _ h => h) (Gh.le_refl _) PickC.pick rfl (PV.loadW rfl Ag136 rfl rfl) ?_
   refine RH.pv rfl (fun _ _ _ _ h => h) (Gh.le_refl _) PickC.pick rfl (PV.move (v := v) rfl rfl) ?_
   refine RH.pv rfl (fun _ _ _ _ h => h) (Gh.le_refl _) PickC.pick rfl (PV.mvI (.inl rfl) rfl) ?_
   refine RH.pv rfl (fun _ _ _ _ h => h) (Gh.le_refl _) PickC.pick rfl (PV.idxS (v := v) rfl Is50 rfl (SlF.r h1) rfl rfl (by omega)) ?_
   refine RH.pv rfl (fun _ _ _ _ h => h) (Gh.le_refl _) PickC.pick rfl (PV.loadE rfl Ag140 rfl rfl (El.r h1 (getG (by omega)))) ?_
   refine RH.ot rfl rfl (OT.callF (vs := [_, _]) rfl En142 rfl (l10Rect_r hb (RIn_gd hri (by omega)) ⟨Gh.le_refl _, PickC.pick, ?_⟩))
   refine RH.ot rfl rfl (OT.callF (vs := [u, _]) rfl En155 rfl ( CallT.exS u (fill_s hl (hv i (by omega)) (fun D' hD' hg' => ⟨Gh.le_refl _, PickC.pick, ?_⟩))))
   refine RH.pv rfl (fun _ _ _ _ h => h) (Gh.le_refl _) PickC.pick rfl (PV.asg rfl rfl) ?_
   refine RH.nil ?_
   refine WP.region (RG.ml rfl rfl rfl (RG.pv rfl (PV.add rfl rfl rfl (by omega)) (RG.mr rfl rfl rfl (RG.nil ?_))))
   exact ⟨rfl, i + 1, D', u, ⟨by omega, hD', fun y x h7 h8 => by rw [hg' y x h7 h8, hc y x h7 h8, mvTo_any h5]⟩, ⟨rfl, rfl, trivial⟩, ⟨rfl, rfl, trivial⟩, Cv.p, by omega⟩
 · have h4 := of_decide_eq_false h4
   have e : cs = bits (xs.map (moveR t)) := bits_eq hl fun y x h6 h7 => by rw [hc y x h6 h7, List.take_of_length_le (by simp; omega)]
   subst e
   refine WP.exit ?_
   refine WP.seq (WP.region (RG.pv rfl (PV.move (v := u) rfl rfl) ?_))
   refine RG.callF (vs := [u]) rfl rfl En98 rfl (l03Canon_s Rs.o (bits_length _) (fun v23 => ?_))
   refine RG.pv rfl (PV.asg (v := v23) rfl rfl) (RG.nil ?_)
   refine WP.ret ?_
   exact ⟨_, _, ResV.one rfl rfl, Cv.p, k v23⟩
end Go.Proofs.YthhjapiggekjbaaGreat
namespace Go.Proofs.YthhjapiggekjbaaGreat
set_option linter.unusedVariables false
set_option linter.unusedSimpArgs false
open Go
set_option maxRecDepth 20000
set_option linter.unusedSimpArgs false
theorem mv_valid {t : Trans} {r b c : Rect} (ho : 0 ≤ t.o ∧ t.o ≤ 7) (hr : r.x0 < r.x1 ∧ r.y0 < r.y1) (hb : b.x0 ≤ r.x0 ∧ r.x0 < b.x1 ∧ b.y0 ≤ r.y0 ∧ r.y0 < b.y1) (hc : c.x0 ≤ r.x1 - 1 ∧ r.x1 ≤ c.x1 ∧ c.y0 ≤ r.y1 - 1 ∧ r.y1 ≤ c.y1)
   (h1 : validRect (moveR t b) = true) (h2 : validRect (moveR t c) = true) : validRect (moveR t r) = true := by
 obtain ⟨o, tx, ty⟩ := t
 rw [validR_iff] at *
 have ho : o = 0 ∨ o = 1 ∨ o = 2 ∨ o = 3 ∨ o = 4 ∨ o = 5 ∨ o = 6 ∨ o = 7 := by simp only at ho; omega
 rcases ho with rfl | rfl | rfl | rfl | rfl | rfl | rfl | rfl <;> (simp [moveR, moveP, turnP, flip, rot] at h1 h2 ⊢; omega)
theorem canon_mv {t : Trans} {S : List Bool} {bs : List Rect} (ho : 0 ≤ t.o ∧ t.o ≤ 7) (hS : S.length = 6400) (hsub : ∀ y x, y < 80 → x < 80 → gb S y x = true → ∃ b ∈ bs, inR b y x = true) (hv : ∀ b ∈ bs, validRect (moveR t b) = true) : ∀ r ∈ canon S, validRect (moveR t r) = true := by
 intro r hr
 have hva : validRect r = true := by
   have := isReg_valid (isReg_canon hS)
   simp only [validRs, Bool.and_eq_true, List.all_eq_true] at this
   exact this.2 r hr
 have hv1 := validR_iff.1 hva
 have key : ∀ y x : Nat, y < 80 → x < 80 → inR r y x = true → ∃ b ∈ bs, inR b y x = true := fun y x hy hx h => by
   refine hsub y x hy hx ?_
   rw [← canon_any hy hx, List.any_eq_true]
   exact ⟨r, hr, h⟩
 obtain ⟨b, hb, hb2⟩ := key (r.y0 + 40).toNat (r.x0 + 40).toNat (by omega) (by omega) (by rw [inR_iff]; omega)
 obtain ⟨c, hc, hc2⟩ := key (r.y1 + 39).toNat (r.x1 + 39).toNat (by omega) (by omega) (by rw [inR_iff]; omega)
 rw [inR_iff] at hb2 hc2
 exact mv_valid ho (by omega) (by omega) (by omega) (hv b hb) (hv c hc)
theorem boxesOf_sub {ss : List Shape} {l : Nat} {b : Rect} (h : b ∈ boxesOf ss l) : ∃ m, m < ss.length ∧ (gd ss m).box = b := by
 rw [boxesOf] at h
 obtain ⟨s, hs, rfl⟩ := List.mem_map.1 h
 obtain ⟨m, hm, rfl⟩ := List.getElem_of_mem (List.mem_filter.1 hs).1
 exact ⟨m, hm, by rw [gd_eq hm]⟩
theorem layL_gd {ss : List Shape} {l : Nat} (h : l < 8) : gd (layL ss) l = canon (bits (boxesOf ss l)) := by
 rw [layL, gd_map _ (by simpa using h), range_gd h]
theorem lay_bits {ss : List Shape} {l : Nat} (h : l < 8) : bits (gd (layL ss) l) = bits (boxesOf ss l) := by
 rw [layL_gd h, bits_canon (bits_length _)]
theorem lay_box {ss : List Shape} {l y x : Nat} (h : l < 8) (hy : y < 80) (hx : x < 80) (hg : gb (bits (gd (layL ss) l)) y x = true) : ∃ b ∈ ss.map Shape.box, inR b y x = true := by
 rw [lay_bits h, gb_bits_iff hy hx] at hg
 obtain ⟨b, hb, hi⟩ := hg
 obtain ⟨m, hm, rfl⟩ := boxesOf_sub hb
 exact ⟨_, List.mem_map.2 ⟨gd ss m, gd_mem hm, rfl⟩, hi⟩
theorem gd4 {α : Type} [Inhabited α] (a b c d : α) : gd [a, b, c, d] 0 = a ∧ gd [a, b, c, d] 1 = b ∧ gd [a, b, c, d] 2 = c ∧ gd [a, b, c, d] 3 = d := by
 unfold gd; exact ⟨rfl, rfl, rfl, rfl⟩
theorem cond_box {ss : List Shape} {i y x : Nat} (h : i < 4) (hy : y < 80) (hx : x < 80) (hg : gb (gd (condB (layL ss)) i) y x = true) : ∃ b ∈ ss.map Shape.box, inR b y x = true := by
 have hk : y * 80 + x < 6400 := by omega
 obtain ⟨e0, e1, e2, e3⟩ := gd4 (zipB (fun p q => p && !q) (bits (gd (layL ss) 0)) (bits (gd (layL ss) 1))) (bits (gd (layL ss) 1)) (bits (gd (layL ss) 3)) (bits (gd (layL ss) 5))
 have hi : i = 0 ∨ i = 1 ∨ i = 2 ∨ i = 3 := by omega
 rw [condB] at hg
 rcases hi with rfl | rfl | rfl | rfl
 · rw [e0] at hg
   unfold gb at hg
   rw [zipB_gd (by rw [bits_length]; exact hk) (by rw [bits_length]; exact hk)] at hg
   simp only [Bool.and_eq_true] at hg
   exact lay_box (l := 0) (by omega) hy hx hg.1
 · rw [e1] at hg; exact lay_box (l := 1) (by omega) hy hx hg
 · rw [e2] at hg; exact lay_box (l := 3) (by omega) hy hx hg
 · rw [e3] at hg; exact lay_box (l := 5) (by omega) hy hx hg
theorem pc_mem {l : List (List Rect)} {p : Int × List Rect} (h : p ∈ pcE l) : ∃ i c, i < 4 ∧ c ∈ comps (gd (condB l) i) ∧ p.2 = canon c := by
 rw [pcE] at h
 cases hl : isLay l with
 | false => rw [hl] at h; simp at h
 | true =>
   rw [hl, cond_true] at h
   obtain ⟨q, hq, rfl⟩ := List.mem_map.1 h
   rw [pcL] at hq
   obtain ⟨z, hz, hq⟩ := List.mem_flatten.1 hq
   obtain ⟨i, hi, rfl⟩ := List.mem_map.1 hz
   obtain ⟨c, hc, rfl⟩ := List.mem_map.1 hq
   exact ⟨i, c, by simpa using hi, hc, rfl⟩
theorem pc_reg {l : List (List Rect)} {p : Int × List Rect} (h : p ∈ pcE l) : isReg p.2 = true := by
 obtain ⟨i, c, hi, hc, e⟩ := pc_mem h
 rw [e]; exact isReg_canon (comps_mem hc)
/-- what a piece of a cell's own shapes covers stays on the chip where the shapes stay on it -/
theorem pc_mv {ss : List Shape} {t : Trans} (ho : 0 ≤ t.o ∧ t.o ≤ 7) (hv : ∀ m, m < ss.length → validRect (moveR t (gd ss m).box) = true) {p : Int × List Rect} (h : p ∈ pcE (layL ss)) : ∀ r ∈ p.2, validRect (moveR t r) = true := by
 obtain ⟨i, c, hi, hc, e⟩ := pc_mem h
 rw [e]
 refine canon_mv (bs := ss.map Shape.box) ho (comps_mem hc) (fun y x hy hx hg => cond_box hi hy hx (comp_sub hc hy hx hg)) fun b hb => ?_
 obtain ⟨s, hs, rfl⟩ := List.mem_map.1 hb
 obtain ⟨m, hm, rfl⟩ := List.getElem_of_mem hs
 have := hv m hm
 rwa [gd_eq hm] at this
theorem lay_mv {ss : List Shape} {t : Trans} {l : Nat} (hl : l < 8) (ho : 0 ≤ t.o ∧ t.o ≤ 7) (hv : ∀ m, m < ss.length → validRect (moveR t (gd ss m).box) = true) : ∀ r ∈ gd (layL ss) l, validRect (moveR t r) = true := by
 rw [layL_gd hl]
 refine canon_mv (bs := ss.map Shape.box) ho (bits_length _) (fun y x hy hx hg => lay_box hl hy hx (by rw [lay_bits hl]; exact hg)) fun b hb => ?_
 obtain ⟨s, hs, rfl⟩ := List.mem_map.1 hb
 obtain ⟨m, hm, rfl⟩ := List.getElem_of_mem hs
 have := hv m hm
 rwa [gd_eq hm] at this
/-- moved pieces -/
def mvP (t : Trans) (p : Int × List Rect) : Int × List Rect := (p.1, canon (bits (p.2.map (moveR t))))
theorem mvI_eq {t : Trans} {xs : List Rect} (ht : validT t = true) (hx : isReg xs = true) (hv : ∀ r ∈ xs, validRect (moveR t r) = true) : mvI t xs = canon (bits (xs.map (moveR t))) := by
 refine mvI_ok ?_
 rw [mvOk, ht, hx, Bool.true_and, Bool.true_and, movedOk, List.all_eq_true]
 exact hv
end Go.Proofs.YthhjapiggekjbaaGreat
namespace Go.Proofs.YthhjapiggekjbaaGreat
set_option linter.unusedVariables false
set_option linter.unusedSimpArgs false
open Go
set_option maxRecDepth 20000
set_option maxHeartbeats 1000000
set_option linter.unusedSimpArgs false
variable {G : Gh} {L : List Ch} {R : Value → Gh → List Ch → Prop}
def regsQ (xs : List PPiece) : List (Sl Rect) := xs.map fun q => q.piece.reg
theorem regsQ_len (xs : List PPiece) : (regsQ xs).length = xs.length := by simp [regsQ]
theorem regsQ_gd {xs : List PPiece} {i : Nat} (h : i < xs.length) : gd (regsQ xs) i = (gd xs i).piece.reg := gd_map _ h
theorem regsQ_append (xs ys : List PPiece) : regsQ (xs ++ ys) = regsQ xs ++ regsQ ys := by simp [regsQ]
def erQ (q : PPiece) : Int × (Int × List Rect) := (q.occ, erP q.piece)
def erQs (xs : List PPiece) : List (Int × (Int × List Rect)) := xs.map erQ
theorem erQs_len (xs : List PPiece) : (erQs xs).length = xs.length := by simp [erQs]
/-- the placed pieces of the i-th occurrence; of those before it -/
noncomputable def plAt (cs : List ECell) (os : List EOcc) (i : Nat) : List (Int × (Int × List Rect)) := (ownP cs (gd os i).cell).map fun p => ((i : Int), mvP (gd os i).place p)
noncomputable def plTo (cs : List ECell) (os : List EOcc) (i : Nat) : List (Int × (Int × List Rect)) := (List.range i).flatMap (plAt cs os)
theorem plTo_succ (cs : List ECell) (os : List EOcc) (i : Nat) : plTo cs os (i + 1) = plTo cs os i ++ plAt cs os i := by simp [plTo, List.range_succ, List.flatMap_append]
theorem ownP_len (cs : List ECell) (cell : Int) : (ownP cs cell).length ≤ 25600 := by
 rw [ownP]; cases hasCl cs cell
 · simp
 · exact pcE_len _
theorem plAt_len (cs : List ECell) (os : List EOcc) (i : Nat) : (plAt cs os i).length = (ownP cs (gd os i).cell).length := by simp [plAt]
theorem plTo_len (cs : List ECell) (os : List EOcc) : ∀ i, (plTo cs os i).length ≤ 25600 * i
 | 0 => by simp [plTo]
 | i + 1 => by
   have h1 := plTo_len cs os i
   have h2 := ownP_len cs (gd os i).cell
   rw [plTo_succ, List.length_append, plAt_len]; omega
theorem plAt_gd {cs : List ECell} {os : List EOcc} {i k : Nat} (h : k < (ownP cs (gd os i).cell).length) : gd (plAt cs os i) k = ((i : Int), mvP (gd os i).place (gd (ownP cs (gd os i).cell) k)) := gd_map _ h
theorem OccAt.own {xs : List Cell} {cell : Int} {zs : List Occ} {i : Nat} (ha : OccAt xs cell zs i) : ownP (erCls xs) (gd zs i).cell = pcE (layL (gd xs (gd zs i).cell.toNat).shapes.xs) := by
 obtain ⟨h1, h2, -, -⟩ := occR_cell ha.hi
 rw [ha.ho] at h2
 simp only [erO] at h2
 have hh : hasCl (erCls xs) (gd zs i).cell = true := by
   simp only [hasCl, within, Bool.and_eq_true, decide_eq_true_eq]
   exact ⟨h1, by omega, by omega⟩
 rw [ownP, hh, cond_true, ha.hs]
theorem OccAt.ok {xs : List Cell} {cell : Int} {zs : List Occ} {i : Nat} (ha : OccAt xs cell zs i) (h0 : shE (erCls xs) cell = 0) : ∀ m, m < (gd xs (gd zs i).cell.toNat).shapes.xs.length → validRect (moveR (gd zs i).place (gd (gd xs (gd zs i).cell.toNat).shapes.xs m).box) = true := fun m hm => by
 cases hv : validRect (moveR (gd zs i).place (gd (gd xs (gd zs i).cell.toNat).shapes.xs m).box) with
 | true => rfl
 | false =>
   have hb := ha.bad hm hv
   by_cases ho : occE (erCls xs) cell = 0
   · rw [shE_flat ho, hb] at h0; simp at h0
   · rw [shE_occ ho] at h0; exact absurd h0 ho
theorem gd_memP {l : List (List Rect)} {ps : List Piece} (h : erPs ps = pcE l) {k : Nat} (hk : k < ps.length) : erP (gd ps k) ∈ pcE l := by
 rw [← h, erPs]; exact List.mem_map.2 ⟨gd ps k, gd_mem hk, rfl⟩
theorem placed_r {l : Lib} {cell : Int} {u : Value} {zs : List Occ} (hL : RLib G L l.cells.v l.cells.xs) (hlen : lenC (erCls l.cells.xs)) (h1 : Rs G L occT u zs) (hpth : RsE G L intT (pths zs)) (he : erOs zs = occR (erCls l.cells.xs) cell) (h0 : shE (erCls l.cells.xs) cell = 0) (k : ∀ v qs, erQs qs = plTo (erCls l.cells.xs) (occR (erCls l.cells.xs) cell) (occR (erCls l.cells.xs) cell).length → R v G (osl 65 ppieceT v qs :: bagS 140 rectT (regsQ qs) :: L)) : CallT Tryz.prog 56 #[vT libT l, u] G L R := by
 have hE := erCls_len l.cells.xs
 have hzl : zs.length = (occR (erCls l.cells.xs) cell).length := by rw [← he, erOs_len]
 refine CallT.bd h1 fun hbz => ?_
 refine CallT.enter (args := _) Tryz.func56 rfl rfl (by kernel_rfl) rfl ?_
 refine WP.seq (WP.region ?_)
 refine RG.ot rfl (OT.box (cs := libT.enc l) rfl rfl rfl fun b2 => ?_)
 refine RG.pv rfl (PV.asg rfl rfl) (RG.nil (WP.seq (WP.region ?_)))
 refine RG.ot rfl (OT.bslice (F := ppieceT) (els := []) rfl El53 rfl (by decide) rfl (by decide) trivial fun v9 => ?_)
 refine RG.pv rfl (PV.asg (v := v9) rfl rfl) (RG.nil (WP.seq (WP.seq (WP.region (RG.mr rfl rfl rfl (RG.nil (WP.block ?_)))))))
 refine WP.cv (Cv.cons (Cv.bag0 (e := 140) (F := rectT) (xs := regsQ []) rfl)) ?_
 refine WP.loop3 [1, 2] (fun (i : Nat) (qs : List PPiece) (q : Value) => i ≤ zs.length ∧ erQs qs = plTo (erCls l.cells.xs) (occR (erCls l.cells.xs) cell) i) (fun (i : Nat) (qs : List PPiece) (q : Value) => [(6, vi i), (5, q)]) (fun (i : Nat) (qs : List PPiece) (q : Value) => osl 65 ppieceT q qs :: bagS 140 rectT (regsQ qs) :: blk b2 31 (libT.enc l) :: L) (fun (i : Nat) (qs : List PPiece) (q : Value) => zs.length - i) 0 [] v9 ⟨by omega, rfl⟩ ⟨rfl, rfl, trivial⟩ Cv.p ?_
 rintro i qs q τ ⟨hi, hq⟩
 refine WP.seq (WP.seq (WP.region (RG.ml rfl rfl rfl (RG.pv rfl (PV.move (v := u) rfl rfl) (RG.pv rfl (PV.len (v := u) rfl Tryz.underlying94 rfl (SlF.r h1)) (RG.pv rfl (PV.lss rfl rfl rfl) (RG.nil ?_)))))))
 refine WP.cond rfl (fun h2 => ?_) (fun h2 => ?_)
 · have h2 := of_decide_eq_true h2
   have h3 : i < zs.length := by omega
   have ha := OccAt.of (cell := cell) he h3
   have hal := ha.hl
   have hbig := ha.big
   have hto := plTo_len (erCls l.cells.xs) (occR (erCls l.cells.xs) cell) i
   refine WP.skip (WP.seq (WP.block (WP.seq ?_)))
   refine WP.regionH0 (.q 0 (.q 1 (.q 2 (.q 3 (.q 4 (.q 5 (.l 6 (.q 7 Sch.nil)))))))) (by kernel_rfl) (by kernel_rfl) (by kernel_rfl) rfl ?_
   refine RH.pv rfl (fun _ _ _ _ h => h) (Gh.le_refl _) PickC.pick rfl (PV.loadW rfl Ag31 rfl rfl) ?_
   refine RH.pv rfl (fun _ _ _ _ h => h) (Gh.le_refl _) PickC.pick rfl (PV.move (v := u) rfl rfl) ?_
   refine RH.pv rfl (fun _ _ _ _ h => h) (Gh.le_refl _) PickC.pick rfl (PV.mvI (.inl rfl) rfl) ?_
   refine RH.pv rfl (fun _ _ _ _ h => h) (Gh.le_refl _) PickC.pick rfl (PV.idxS (v := u) rfl Is94 rfl (SlF.r h1) rfl rfl (by omega)) ?_
   refine RH.pv rfl (fun _ _ _ _ h => h) (Gh.le_refl _) PickC.pick rfl (PV.field rfl Fo138_0 rfl) ?_
   refine RH.pv rfl (fun _ _ _ _ h => h) (Gh.le_refl _) PickC.pick rfl (PV.loadF rfl Sc2 rfl rfl (El.r h1 (getG (by omega))) rfl) ?_
   refine RH.ot rfl rfl (OT.callF (vs := [_, _]) rfl En104 rfl (ownP_r hL.up hlen (fun v22 psv22 hpv22 => ⟨Gh.le_refl _, PickC.pick, ?_⟩)))
   refine RH.pv rfl (fun _ _ _ _ h => h) (Gh.le_refl _) PickC.pick rfl (PV.asg (v := v22) rfl rfl) ?_
   refine RH.nil ?_
   refine WP.seq (WP.region (RG.mr rfl rfl rfl (RG.nil (WP.block ?_))))
   have hpe : erPs psv22 = pcE (layL (gd l.cells.xs (gd zs i).cell.toNat).shapes.xs) := by rw [hpv22, ha.own]
   have hpl : psv22.length = (plAt (erCls l.cells.xs) (occR (erCls l.cells.xs) cell) i).length := by rw [plAt_len, ha.ho, ← erPs_len, hpv22]; rfl
   have hpb : psv22.length ≤ 25600 := by rw [← erPs_len, hpe]; exact pcE_len _
   refine WP.loop3 [1, 2, 6, 7] (fun (m : Nat) (rs : List PPiece) (w : Value) => m ≤ psv22.length ∧ erQs rs = plTo (erCls l.cells.xs) (occR (erCls l.cells.xs) cell) i ++ (plAt (erCls l.cells.xs) (occR (erCls l.cells.xs) cell) i).take m) (fun (m : Nat) (rs : List PPiece) (w : Value) => [(8, vi m), (5, w)]) (fun (m : Nat) (rs : List PPiece) (w : Value) => osl 65 ppieceT w rs :: bagS 140 rectT (regsQ rs) :: osl 63 pieceT v22 psv22 :: bagS 140 rectT (regs psv22) :: blk b2 31 (libT.enc l) :: L) (fun (m : Nat) (rs : List PPiece) (w : Value) => psv22.length - m) 0 qs q ⟨by omega, by rw [hq]; simp⟩ ⟨rfl, rfl, trivial⟩ Cv.p ?_
   rintro m rs w τ1 ⟨hm, hr⟩
   refine WP.seq (WP.seq (WP.region (RG.ml rfl rfl rfl (RG.pv rfl (PV.move (v := v22) rfl rfl) (RG.pv rfl (PV.len (v := v22) rfl Tryz.underlying78 rfl SlF.o) (RG.pv rfl (PV.lss rfl rfl rfl) (RG.nil ?_)))))))
   have hrl : rs.length ≤ 6000000 := by rw [← erQs_len, hr, List.length_append, List.length_take]; omega
   refine WP.cond rfl (fun h4 => ?_) (fun h4 => ?_)
   · have h4 := of_decide_eq_true h4
     have h5 : m < psv22.length := by omega
     have hpm := gd_memP hpe h5
     refine WP.skip (WP.seq (WP.block ?_))
     refine WP.regionHD [.s w] (.q 0 (.q 1 (.q 2 (.q 3 (.q 4 (.q 5 (.q 6 (.q 7 (.q 8 (.q 9 (.q 10 (.q 11 (.q 12 (.q 13 (.q 14 (.q 15 (.q 16 (.l 17 (.q 18 (.q 19 (.l 20 (.l 21 (.q 22 Sch.nil))))))))))))))))))))))) (by kernel_rfl) (by kernel_rfl) (by kernel_rfl) rfl ?_
     refine RH.pv rfl (fun _ _ _ _ h => h) (Gh.le_refl _) PickC.pick rfl (PV.move (v := w) rfl rfl) ?_
     refine RH.pv rfl (fun _ _ _ _ h => h) (Gh.le_refl _) PickC.pick rfl (PV.mvI (.inl rfl) rfl) ?_
     refine RH.pv rfl (fun _ _ _ _ h => h) (Gh.le_refl _) PickC.pick rfl (PV.move (v := v22) rfl rfl) ?_
     refine RH.pv rfl (fun _ _ _ _ h => h) (Gh.le_refl _) PickC.pick rfl (PV.mvI (.inl rfl) rfl) ?_
     refine RH.pv rfl (fun _ _ _ _ h => h) (Gh.le_refl _) PickC.pick rfl (PV.idxS (v := v22) rfl Is78 rfl SlF.o rfl rfl (by omega)) ?_
     refine RH.pv rfl (fun _ _ _ _ h => h) (Gh.le_refl _) PickC.pick rfl (PV.field rfl Fo63_0 rfl) ?_
     refine RH.pv rfl (fun _ _ _ _ h => h) (Gh.le_refl _) PickC.pick rfl (PV.loadF (v := v22) (j := 0) rfl Sc2 rfl rfl (El.o (getG (by omega))) rfl) ?_
     refine RH.pv rfl (fun _ _ _ _ h => h) (Gh.le_refl _) PickC.pick rfl (PV.move (v := u) rfl rfl) ?_
     refine RH.pv rfl (fun _ _ _ _ h => h) (Gh.le_refl _) PickC.pick rfl (PV.mvI (.inl rfl) rfl) ?_
     refine RH.pv rfl (fun _ _ _ _ h => h) (Gh.le_refl _) PickC.pick rfl (PV.idxS (v := u) rfl Is94 rfl (SlF.r h1) rfl rfl (by omega)) ?_
     refine RH.pv rfl (fun _ _ _ _ h => h) (Gh.le_refl _) PickC.pick rfl (PV.field rfl Fo138_1 rfl) ?_
     refine RH.pv rfl (fun _ _ _ _ h => h) (Gh.le_refl _) PickC.pick rfl (PV.loadEP rfl Ag136 rfl rfl (El.r h1 (getG (by omega))) rfl) ?_
     refine RH.pv rfl (fun _ _ _ _ h => h) (Gh.le_refl _) PickC.pick rfl (PV.move (v := v22) rfl rfl) ?_
     refine RH.pv rfl (fun _ _ _ _ h => h) (Gh.le_refl _) PickC.pick rfl (PV.mvI (.inl rfl) rfl) ?_
     refine RH.pv rfl (fun _ _ _ _ h => h) (Gh.le_refl _) PickC.pick rfl (PV.idxS (v := v22) rfl Is78 rfl SlF.o rfl rfl (by omega)) ?_
     refine RH.pv rfl (fun _ _ _ _ h => h) (Gh.le_refl _) PickC.pick rfl (PV.field rfl Fo63_1 rfl) ?_
     refine RH.pv rfl (fun _ _ _ _ h => h) (Gh.le_refl _) PickC.pick rfl (PV.loadF rfl Sc50 rfl rfl (El.o (getG (by omega))) rfl) ?_
     refine RH.ot rfl rfl (OT.callF (vs := [_, _]) rfl En105 rfl (mvReg_r (RsE.reg (RsE.o (xs := regs psv22)) (by omega)) hbig (RIn_all (pc_reg hpm)) (fun j hj => pc_mv ha.hp.1 (ha.ok h0) hpm _ (gd_mem hj)) (fun v46 => ⟨Gh.le_refl _, PickC.pick, ?_⟩)))
     refine RH.up1 ?_
     refine RH.pv rfl (fun _ _ _ _ h => h) (Gh.le_refl _) PickC.pick rfl (PV.build (vs := [(0, [vi _]), (1, [v46])]) (out := [_, _]) rfl Zr63 Pl63 ⟨rfl, (Cl.c rfl), ⟨rfl, (Cl.s (v := v46) SlF.o), trivial⟩⟩ rfl) ?_
     refine RH.pv rfl (fun _ _ _ _ h => h) (Gh.le_refl _) PickC.pick rfl (PV.build (vs := [(0, [vi _]), (1, [vi _, _])]) (out := [_, _, _]) rfl Zr65 Pl65 ⟨rfl, (Cl.c rfl), ⟨rfl, (Cl.c rfl), trivial⟩⟩ rfl) ?_
     refine RH.ot rfl rfl (OT.bslice (F := ppieceT) (els := [⟨(i : Int), ⟨(gd psv22 m).layer, ⟨v46, canon (bits ((gd psv22 m).reg.xs.map (moveR (gd zs i).place)))⟩⟩⟩]) rfl El53 rfl (by decide) rfl (by decide) ⟨rfl, (Cl.c rfl), trivial⟩ fun v49 => ⟨Gh.le_refl _, PickC.pick, ?_⟩)
     refine RH.ot rfl rfl (OT.append (v := w) (u := v49) (F := ppieceT) rfl El53 rfl (by decide) rfl rfl Rs.o (OneL.one (OneC.val rfl (OneC.val rfl (OneC.sl (SlF.o (v := v46)) OneC.nil)))) rfl (by first | omega | (simp <;> omega)) fun v50 => ⟨Gh.le_refl _, PickC.pick, ?_⟩)
     refine RH.pv rfl (fun _ _ _ _ h => h) (Gh.le_refl _) PickC.pick rfl (PV.asg (v := v50) rfl rfl) ?_
     refine RH.nil ?_
     refine WP.region (RG.ml rfl rfl rfl (RG.pv rfl (PV.add rfl rfl rfl (by omega)) (RG.mr rfl rfl rfl (RG.nil ?_))))
     have hnx : erQs (rs ++ [⟨(i : Int), ⟨(gd psv22 m).layer, ⟨v46, canon (bits ((gd psv22 m).reg.xs.map (moveR (gd zs i).place)))⟩⟩⟩]) = plTo (erCls l.cells.xs) (occR (erCls l.cells.xs) cell) i ++ (plAt (erCls l.cells.xs) (occR (erCls l.cells.xs) cell) i).take (m + 1) := by
       rw [List.take_add_one, getG (by omega), ← List.append_assoc, ← hr, plAt_gd (by rw [← plAt_len]; omega), ha.ho]
       simp only [erO]
       rw [← hpv22, erPs_gd h5, erQs, List.map_append]
       rfl
     exact ⟨rfl, m + 1, (rs ++ [⟨(i : Int), ⟨(gd psv22 m).layer, ⟨v46, canon (bits ((gd psv22 m).reg.xs.map (moveR (gd zs i).place)))⟩⟩⟩]), v50, ⟨by omega, hnx⟩, ⟨rfl, rfl, trivial⟩, ⟨rfl, rfl, rfl, rfl, trivial⟩, ((Cv.p (C := osl 140 rectT v46 (canon (bits ((gd psv22 m).reg.xs.map (moveR (gd zs i).place)))) :: bagS 140 rectT (regsQ rs) :: osl 65 ppieceT v50 (rs ++ [⟨(i : Int), ⟨(gd psv22 m).layer, ⟨v46, canon (bits ((gd psv22 m).reg.xs.map (moveR (gd zs i).place)))⟩⟩⟩]) :: osl 63 pieceT v22 psv22 :: bagS 140 rectT (regs psv22) :: blk b2 31 (libT.enc l) :: L)).trans ((Cv.grow (ys' := regsQ (rs ++ [⟨(i : Int), ⟨(gd psv22 m).layer, ⟨v46, canon (bits ((gd psv22 m).reg.xs.map (moveR (gd zs i).place)))⟩⟩⟩])) (regsQ_append _ _)).trans Cv.p)), by omega⟩
   · have h4 := of_decide_eq_false h4
     refine WP.exit ?_
     refine WP.region (RG.ml rfl rfl rfl (RG.pv rfl (PV.add rfl rfl rfl (by omega)) (RG.mr rfl rfl rfl (RG.nil ?_))))
     exact ⟨rfl, i + 1, rs, w, ⟨by omega, by rw [hr, plTo_succ, List.take_of_length_le (by omega)]⟩, ⟨rfl, rfl, trivial⟩, ⟨rfl, rfl, trivial⟩, Cv.p, by omega⟩
 · have h2 := of_decide_eq_false h2
   obtain rfl : i = zs.length := by omega
   rw [hzl] at hq
   refine WP.exit ?_
   refine WP.seq (WP.region (RG.pv rfl (PV.move (v := q) rfl rfl) (RG.pv rfl (PV.asg (v := q) rfl rfl) (RG.nil ?_))))
   refine WP.ret ?_
   exact ⟨_, _, ResV.one rfl rfl, Cv.p, k q qs hq⟩
end Go.Proofs.YthhjapiggekjbaaGreat
namespace Go.Proofs.YthhjapiggekjbaaGreat
set_option linter.unusedVariables false
set_option linter.unusedSimpArgs false
open Go
set_option maxRecDepth 20000
set_option linter.unusedSimpArgs false
def ofC (C : List Int) (f i : Nat) : Bool := decide (gd C i = (f : Int))
def ocTo (C O : List Int) (f m : Nat) : List Int := ((List.range m).filter (ofC C f)).map (gd O)
def ofN (qs : List PPiece) (C : List Int) (f n i : Nat) : Bool := ofC C f i && decide ((gd qs i).piece.layer = (n : Int))
def rgTo (qs : List PPiece) (C : List Int) (f n m : Nat) : List (Sl Rect) := ((List.range m).filter (ofN qs C f n)).map fun i => (gd qs i).piece.reg
theorem ocTo_yes {C O : List Int} {f m : Nat} (h : gd C m = (f : Int)) : ocTo C O f (m + 1) = ocTo C O f m ++ [gd O m] := by
 rw [ocTo, List.range_succ, List.filter_append, List.map_append]; simp [ofC, h, ocTo]
theorem ocTo_no {C O : List Int} {f m : Nat} (h : gd C m ≠ (f : Int)) : ocTo C O f (m + 1) = ocTo C O f m := by
 rw [ocTo, List.range_succ, List.filter_append, List.map_append]; simp [ofC, h, ocTo]
theorem rgTo_yes {qs : List PPiece} {C : List Int} {f n m : Nat} (h : gd C m = (f : Int)) (h2 : (gd qs m).piece.layer = (n : Int)) : rgTo qs C f n (m + 1) = rgTo qs C f n m ++ [(gd qs m).piece.reg] := by
 rw [rgTo, List.range_succ, List.filter_append, List.map_append]; simp [ofN, ofC, h, h2, rgTo]
theorem rgTo_no {qs : List PPiece} {C : List Int} {f n m : Nat} (h : gd C m ≠ (f : Int) ∨ (gd qs m).piece.layer ≠ (n : Int)) : rgTo qs C f n (m + 1) = rgTo qs C f n m := by
 rw [rgTo, List.range_succ, List.filter_append, List.map_append]
 have e : ofN qs C f n m = false := by
   rw [ofN, ofC, Bool.and_eq_false_iff, decide_eq_false_iff_not, decide_eq_false_iff_not]; exact h
 simp [e, rgTo]
theorem ocTo_len (C O : List Int) (f m : Nat) : (ocTo C O f m).length ≤ m := by
 rw [ocTo, List.length_map]; have := List.length_filter_le (ofC C f) (List.range m); rwa [List.length_range] at this
theorem rgTo_len (qs : List PPiece) (C : List Int) (f n m : Nat) : (rgTo qs C f n m).length ≤ m := by
 rw [rgTo, List.length_map]; have := List.length_filter_le (ofN qs C f n) (List.range m); rwa [List.length_range] at this
theorem rgTo_mem {qs : List PPiece} {C : List Int} {f n m : Nat} {s : Sl Rect} (h : s ∈ rgTo qs C f n m) : ∃ i, i < m ∧ (gd qs i).piece.reg = s := by
 rw [rgTo] at h
 obtain ⟨i, hi, e⟩ := List.mem_map.1 h
 exact ⟨i, List.mem_range.1 (List.mem_filter.1 hi).1, e⟩
theorem rgTo_uni {qs : List PPiece} {C : List Int} {f n : Nat} : (er (rgTo qs C f n qs.length)).flatten = uniR ((erQs qs).map Prod.snd) C f n := by
 have e0 : ((erQs qs).map Prod.snd).length = qs.length := by simp [erQs]
 have e1 : ∀ i, i < qs.length → gd ((erQs qs).map Prod.snd) i = erP (gd qs i).piece := fun i hi => by
   rw [gd_map _ (by simpa [erQs] using hi), erQs, gd_map _ hi]; rfl
 rw [uniR, e0, rgTo, er, List.map_map, List.flatMap]
 have e2 : (List.range qs.length).filter (ofN qs C f n) = (List.range qs.length).filter fun i => decide (gd C i = (f : Int)) && decide ((gd ((erQs qs).map Prod.snd) i).1 = (n : Int)) := by
   refine List.filter_congr fun i hi => ?_
   rw [e1 i (List.mem_range.1 hi)]; rfl
 rw [e2]
 congr 1
 refine List.map_congr_left fun i hi => ?_
 rw [e1 i (List.mem_range.1 (List.mem_filter.1 hi).1)]; rfl
/-- one net after the other -/
noncomputable def hTo (E : List (Int × List Rect)) (O C : List Int) (m : Nat) : List (List (Int × List Rect) × List Int) := ((List.range m).filter fun f => ofC C f f).map fun f => (hPcs E C f, compactL (ocTo C O f E.length))
theorem hTo_yes {E : List (Int × List Rect)} {O C : List Int} {m : Nat} (h : gd C m = (m : Int)) : hTo E O C (m + 1) = hTo E O C m ++ [(hPcs E C m, compactL (ocTo C O m E.length))] := by
 rw [hTo, List.range_succ, List.filter_append, List.map_append]; simp [ofC, h, hTo]
theorem hTo_no {E : List (Int × List Rect)} {O C : List Int} {m : Nat} (h : gd C m ≠ (m : Int)) : hTo E O C (m + 1) = hTo E O C m := by
 rw [hTo, List.range_succ, List.filter_append, List.map_append]; simp [ofC, h, hTo]
theorem hTo_len (E : List (Int × List Rect)) (O C : List Int) (m : Nat) : (hTo E O C m).length ≤ m := by
 rw [hTo, List.length_map]; have := List.length_filter_le (fun f => ofC C f f) (List.range m); rwa [List.length_range] at this
noncomputable def ocN (l : List (List Rect)) (E : List (Int × List Rect)) (O : List Int) (m : Nat) : List Int := compactL (((List.range E.length).filter fun i => decide (numH l (gd E i) = (m : Int))).map (gd O))
noncomputable def netH (l : List (List Rect)) (E : List (Int × List Rect)) (O : List Int) : List (List (Int × List Rect) × List Int) := (List.range (netN l)).map fun m => (gd (netL l) m, ocN l E O m)
def cmpH (a b : List (Int × List Rect) × List Int) : Int := cmpP (gd a.1 0) (gd b.1 0)
section
variable {l : List (List Rect)} {E : List (Int × List Rect)} {O : List Int}
theorem PAll.member (h : PAll l E) (hl : isLay l = true) {m : Nat} (hm : m < netN l) : ∃ f, f < E.length ∧ gd (clsH l E) f = (f : Int) ∧ numH l (gd E f) = (m : Int) := by
 obtain ⟨j, hj, h1, h2, -, -⟩ := net_head hm
 obtain ⟨i, hi, e, hc⟩ := piece_in hj
 obtain ⟨a, ha⟩ := comps_ne hc
 have hsub : On (gd (condB l) i) a := ⟨ha.1, ha.2.1, comp_sub hc ha.1 ha.2.1 ha.2.2⟩
 obtain ⟨q, hq, q1, q2⟩ := h.cov i a hi hsub
 obtain ⟨k, hk, rfl⟩ := List.getElem_of_mem hq
 rw [← gd_eq hk] at q1 q2
 obtain ⟨i2, hp⟩ := h.mem _ (gd_mem hk)
 obtain ⟨j2, g1, g2, g3, g4⟩ := hp.flat
 have ei : i2 = i := lay_inj hp.hi hi (by rw [← hp.lay, q1])
 have ej : j2 = j := piece_uniq g1 hj (by rw [g2, e, ei]) (g3 _ q2) ha
 have hk2 : numH l (gd E k) = (m : Int) := by rw [g4, ej, numR_root h1, h2]
 obtain ⟨r1, r2, r3⟩ := clsH_rt l E k (by rw [clsH_len]; exact hk)
 have hr : gd (clsH l E) (gd (clsH l E) k).toNat = ((gd (clsH l E) k).toNat : Int) := by rw [r3]; omega
 refine ⟨(gd (clsH l E) k).toNat, by omega, hr, ?_⟩
 rw [← hk2]
 exact (h.cls hl (by omega) hk).1 r3
theorem PAll.hTo (h : PAll l E) (hl : isLay l = true) : (hTo E O (clsH l E) E.length).Perm (netH l E O) := by
 have e1 : Go.Proofs.YthhjapiggekjbaaGreat.hTo E O (clsH l E) E.length = (((List.range E.length).filter fun f => ofC (clsH l E) f f).map fun f => (numH l (gd E f)).toNat).map fun m => (gd (netL l) m, ocN l E O m) := by
   rw [Go.Proofs.YthhjapiggekjbaaGreat.hTo, List.map_map]
   refine List.map_congr_left fun f hf => ?_
   have hf2 := List.mem_filter.1 hf
   have hf1 : f < E.length := List.mem_range.1 hf2.1
   have hr : gd (clsH l E) f = (f : Int) := of_decide_eq_true hf2.2
   obtain ⟨m, hm, e, e2⟩ := h.net hl hf1 hr
   simp only [Function.comp_apply, e, Int.toNat_natCast, e2]
   congr 2
   rw [ocTo]
   congr 1
   refine List.filter_congr fun i hi => ?_
   have hi := List.mem_range.1 hi
   rw [ofC, decide_eq_decide, ← hr, h.cls hl hi hf1, e]
 rw [e1, netH]
 refine List.Perm.map _ ((List.perm_ext_iff_of_nodup ?_ List.nodup_range).2 fun m => ?_)
 · rw [List.nodup_iff_pairwise_ne, List.pairwise_map]
   refine ((List.nodup_iff_pairwise_ne.1 (List.nodup_range (n := E.length))).sublist List.filter_sublist).imp_of_mem fun {a b} ha hb hab e => hab ?_
   have ha := List.mem_filter.1 ha
   have hb := List.mem_filter.1 hb
   have ha1 : a < E.length := List.mem_range.1 ha.1
   have hb1 : b < E.length := List.mem_range.1 hb.1
   have ra : gd (clsH l E) a = (a : Int) := of_decide_eq_true ha.2
   have rb : gd (clsH l E) b = (b : Int) := of_decide_eq_true hb.2
   obtain ⟨m1, -, e1, -⟩ := h.net hl ha1 ra
   obtain ⟨m2, -, e2, -⟩ := h.net hl hb1 rb
   have e3 : numH l (gd E a) = numH l (gd E b) := by rw [e1, e2] at e; simp only [Int.toNat_natCast] at e; rw [e1, e2, e]
   have := (h.cls hl ha1 hb1).2 e3
   omega
 · rw [List.mem_map, List.mem_range]
   constructor
   · rintro ⟨f, hf, e⟩
     have hf := List.mem_filter.1 hf
     obtain ⟨m1, h1, e1, -⟩ := h.net hl (List.mem_range.1 hf.1) (of_decide_eq_true hf.2)
     rw [e1] at e; simp only [Int.toNat_natCast] at e
     omega
   · intro hm
     obtain ⟨f, h1, h2, h3⟩ := h.member hl hm
     exact ⟨f, List.mem_filter.2 ⟨List.mem_range.2 h1, decide_eq_true h2⟩, by rw [h3]; rfl⟩
theorem PAll.hsort (h : PAll l E) (hl : isLay l = true) {zs : List (List (Int × List Rect) × List Int)} (hp : zs.Perm (Go.Proofs.YthhjapiggekjbaaGreat.hTo E O (clsH l E) E.length)) (hs : zs.Pairwise fun a b => ¬ cmpH b a < 0) : zs = netH l E O := by
 have hp2 := hp.trans (h.hTo (O := O) hl)
 refine List.Perm.eq_of_pairwise (le := fun a b => ¬ cmpH b a < 0) (fun a b ha hb h1 h2 => ?_) hs ?_ hp2
 · have ha := hp2.mem_iff.1 ha
   obtain ⟨m, hm, rfl⟩ := List.mem_map.1 ha
   obtain ⟨n, hn, rfl⟩ := List.mem_map.1 hb
   have hm := List.mem_range.1 hm
   have hn := List.mem_range.1 hn
   rw [cmpH, net_lt hn hm] at h1
   rw [cmpH, net_lt hm hn] at h2
   rw [show m = n by omega]
 · rw [netH, List.pairwise_map]
   refine List.pairwise_lt_range.imp_of_mem fun {a b} ha hb hab => ?_
   rw [cmpH, net_lt (List.mem_range.1 hb) (List.mem_range.1 ha)]
   omega
end
theorem gd_rep8 {α : Type} [Inhabited α] (a : α) {n : Nat} (h : n < 8) : gd (List.replicate 8 a) n = a := by rw [gd_eq (by simp; omega), List.getElem_replicate]
/-- the first piece of each net -/
theorem PAll.hgood {l : List (List Rect)} {E : List (Int × List Rect)} {O : List Int} (h : PAll l E) (hl : isLay l = true) {x : List (Int × List Rect) × List Int} (hx : x ∈ Go.Proofs.YthhjapiggekjbaaGreat.hTo E O (clsH l E) E.length) : 0 < x.1.length ∧ 0 < (gd x.1 0).2.length ∧ 0 ≤ (gd x.1 0).1 ∧ (gd x.1 0).1 ≤ 7 := by
 have hx := (h.hTo (O := O) hl).mem_iff.1 hx
 obtain ⟨m, hm, rfl⟩ := List.mem_map.1 hx
 obtain ⟨j, hj, -, -, h3, h4⟩ := net_head (List.mem_range.1 hm)
 obtain ⟨i, hi, e, hc⟩ := piece_in hj
 have h6 := comps_mem hc
 have hb : bits (canon (gd (pcL l 4) j).2) = (gd (pcL l 4) j).2 := bits_canon h6
 obtain ⟨h0, -, -⟩ := region_first (isReg_canon h6) (by rw [hb]; exact comps_ne hc)
 refine ⟨h3, by rw [h4]; exact h0, ?_⟩
 rw [h4]
 simp only [pcR, e]
 rcases (by omega : i = 0 ∨ i = 1 ∨ i = 2 ∨ i = 3) with rfl | rfl | rfl | rfl <;> simp [gd]
noncomputable def hpTo (E : List (Int × List Rect)) (C : List Int) (f n : Nat) : List (Int × List Rect) := (List.range n).flatMap fun n => (partsL (bits (uniR E C f n))).map fun r => ((n : Int), r)
theorem hpTo_succ (E : List (Int × List Rect)) (C : List Int) (f n : Nat) : hpTo E C f (n + 1) = hpTo E C f n ++ (partsL (bits (uniR E C f n))).map fun r => ((n : Int), r) := by
 rw [hpTo, List.range_succ, List.flatMap_append]; simp [hpTo]
theorem hpTo_len (E : List (Int × List Rect)) (C : List Int) (f n : Nat) : (hpTo E C f n).length ≤ 6400 * n := by
 induction n with
 | zero => simp [hpTo]
 | succ n ih =>
   have h1 := firsts_len (bits (uniR E C f n)) 6400
   rw [hpTo_succ, List.length_append, List.length_map, partsL_len]; omega
def hps (hs : List HNet) : List (Sl Piece) := hs.map fun h => h.net.pieces
def hos (hs : List HNet) : List (Sl Int) := hs.map HNet.occs
def hrg (hs : List HNet) : List (Sl Rect) := hs.flatMap fun h => regs h.net.pieces.xs
def erH (h : HNet) : List (Int × List Rect) × List Int := (erPs h.net.pieces.xs, h.occs.xs)
theorem hps_len (hs : List HNet) : (hps hs).length = hs.length := by simp [hps]
theorem hos_len (hs : List HNet) : (hos hs).length = hs.length := by simp [hos]
theorem hps_gd {hs : List HNet} {i : Nat} (h : i < hs.length) : gd (hps hs) i = (gd hs i).net.pieces := gd_map _ h
theorem hos_gd {hs : List HNet} {i : Nat} (h : i < hs.length) : gd (hos hs) i = (gd hs i).occs := gd_map _ h
theorem hps_app (xs ys : List HNet) : hps (xs ++ ys) = hps xs ++ hps ys := by simp [hps]
theorem hos_app (xs ys : List HNet) : hos (xs ++ ys) = hos xs ++ hos ys := by simp [hos]
theorem hrg_app (xs ys : List HNet) : hrg (xs ++ ys) = hrg xs ++ hrg ys := by simp [hrg]
theorem hrg_perm {xs ys : List HNet} (h : xs.Perm ys) : (hrg xs).Perm (hrg ys) := h.flatMap_right _
theorem RsE.hReg {G : Gh} {L : List Ch} {hs : List HNet} (h : RsE G L rectT (hrg hs)) {x : HNet} (hx : x ∈ hs) {j : Nat} (hj : j < x.net.pieces.xs.length) : Rs G L rectT (gd x.net.pieces.xs j).reg.v (gd x.net.pieces.xs j).reg.xs := by
 have hm : (gd x.net.pieces.xs j).reg ∈ hrg hs := List.mem_flatMap.2 ⟨x, hx, List.mem_map.2 ⟨_, gd_mem hj, rfl⟩⟩
 obtain ⟨i, hi, e⟩ := List.getElem_of_mem hm
 have := h i hi
 rw [gd_eq hi, e] at this
 exact this
theorem RsE.rgs {G : Gh} {L : List Ch} {qs : List PPiece} {C : List Int} {f n m : Nat} (h : RsE G L rectT (regsQ qs)) (hm : m ≤ qs.length) {xs : List (Sl Rect)} (e : xs = rgTo qs C f n m) : RsE G L rectT xs := fun i hi => by
 subst e
 obtain ⟨j, hj, e⟩ := rgTo_mem (gd_mem hi)
 have := h j (by simp [regsQ]; omega)
 rw [show gd (regsQ qs) j = (gd qs j).piece.reg from gd_map _ (by omega), e] at this
 exact this
theorem Cv.bagRep {α : Type} {e : TypeId} {F : FT α} {L : List Ch} : ∀ n : Nat, Cv L (bagS e F (List.replicate n ⟨.slice none 0 0, []⟩) :: L)
 | 0 => Cv.bag0 rfl
 | n + 1 => (Cv.bagRep n).trans (Cv.nilS.trans (Cv.grow List.replicate_succ'))
/-- an element of an owned slice of slices, set to a slice out of the bag, goes back -/
theorem Cv.slotU {α : Type} {e e' : TypeId} {F : FT α} {v u : Value} {zs : List (Sl α)} {ys : List α} {L : List Ch} (i : Nat) (hi : i < zs.length) :
   Cv (osl e F u ys :: osl e' slT v (zs.set i ⟨u, ys⟩) :: bag ((zs.map (ownS e F)).set i emp) :: L) (osl e' slT v (zs.set i ⟨u, ys⟩) :: bagS e F (zs.set i ⟨u, ys⟩) :: L) :=
 (Cv.swap (A := [osl e F u ys]) (B := [osl e' slT v (zs.set i ⟨u, ys⟩)])).trans (Cv.cons (Cv.bagS_put i hi))
theorem gd_set_self {α : Type} [Inhabited α] {xs : List α} {i : Nat} {a : α} (h : i < xs.length) : gd (xs.set i a) i = a := by rw [gd_eq (by simpa using h)]; simp
theorem gd_set_ne {α : Type} [Inhabited α] {xs : List α} {i j : Nat} {a : α} (h : i ≠ j) : gd (xs.set i a) j = gd xs j := by simp [gd, List.getElem?_set, h]
theorem rgTo_set {qs : List PPiece} {C : List Int} {f n m : Nat} {zs : List (Sl (Sl Rect))} (hl : zs.length = 8) (hz : ∀ k, k < 8 → (gd zs k).xs = rgTo qs C f k m) (hn : n < 8) (h : gd C m = (f : Int)) (en : (gd qs m).piece.layer = (n : Int)) (w : Value) : ∀ k, k < 8 → (gd (zs.set n (⟨w, (gd zs n).xs ++ [(gd qs m).piece.reg]⟩ : Sl (Sl Rect))) k).xs = rgTo qs C f k (m + 1) := fun k hk => by
 by_cases e : n = k
 · subst e; rw [gd_set_self (by omega), rgTo_yes h en, ← hz n hn]
 · rw [gd_set_ne e, rgTo_no (.inr (by rw [en]; omega)), hz k hk]
theorem hnet_len {E : List (Int × List Rect)} {C : List Int} {f n : Nat} {ps : List Piece} (h : erPs ps = hpTo E C f n) (hn : n ≤ 8) : ps.length ≤ 51200 := by
 have h1 := congrArg List.length h
 have h2 := hpTo_len E C f n
 rw [erPs_len] at h1; omega
theorem erPs_mkP (n : Int) (zs : List (Sl Rect)) : erPs (zs.map (mkP n)) = (er zs).map fun r => (n, r) := by simp [erPs, er, erP, mkP, Function.comp_def]
theorem erPs_app (xs ys : List Piece) : erPs (xs ++ ys) = erPs xs ++ erPs ys := by simp [erPs]
theorem hrg_one (x : HNet) : hrg [x] = regs x.net.pieces.xs := by simp [hrg]
theorem erH_good {x : HNet} (h : 0 < (erH x).1.length ∧ 0 < (gd (erH x).1 0).2.length ∧ 0 ≤ (gd (erH x).1 0).1 ∧ (gd (erH x).1 0).1 ≤ 7) : 0 < x.net.pieces.xs.length ∧ 0 < (gd x.net.pieces.xs 0).reg.xs.length ∧ 0 ≤ (gd x.net.pieces.xs 0).layer ∧ (gd x.net.pieces.xs 0).layer ≤ 7 := by
 obtain ⟨h1, h2⟩ := h
 have h3 : 0 < x.net.pieces.xs.length := by simpa [erH, erPs] using h1
 rw [erH, erPs_gd h3] at h2
 exact ⟨h3, h2⟩
theorem netH_len (l : List (List Rect)) (E : List (Int × List Rect)) (O : List Int) : (netH l E O).length = netN l := by simp [netH]
end Go.Proofs.YthhjapiggekjbaaGreat
namespace Go.Proofs.YthhjapiggekjbaaGreat
set_option linter.unusedVariables false
set_option linter.unusedSimpArgs false
open Go
set_option maxRecDepth 20000
set_option linter.unusedSimpArgs false
variable {G : Gh} {L : List Ch} {R : Value → Gh → List Ch → Prop}
theorem Cv.bagJn {α : Type} {e : TypeId} {F : FT α} {X Y : List (Sl α)} {L : List Ch} : Cv (bagS e F X :: bagS e F Y :: L) (bagS e F (X ++ Y) :: L) := by
 have h1 : Cv (bagS e F X :: bagS e F Y :: L) (X.map (ownS e F) ++ (Y.map (ownS e F) ++ L)) := (Cv.cons Cv.ofBag).trans Cv.ofBag
 rw [← List.append_assoc, ← List.map_append] at h1
 exact h1.trans (Cv.toBag (B := (X ++ Y).map (ownS e F)))
def erN (zs : List Net) : List (List (Int × List Rect)) := (er (nps zs)).map erPs
theorem erN_len (zs : List Net) : (erN zs).length = zs.length := by simp [erN, er, nps]
theorem erN_gd {zs : List Net} {i : Nat} (h : i < zs.length) : gd (erN zs) i = erPs (gd zs i).pieces.xs := by
 rw [erN, gd_map _ (by rw [er_len, nps_len]; exact h), er_gd, nps_gd h]
end Go.Proofs.YthhjapiggekjbaaGreat
namespace Go.Proofs.YthhjapiggekjbaaGreat
set_option linter.unusedVariables false
set_option linter.unusedSimpArgs false
open Go
set_option maxRecDepth 20000
set_option linter.unusedSimpArgs false
variable {G : Gh} {L : List Ch} {R : Value → Gh → List Ch → Prop}
theorem cmpPts_s {p q : Pt} (k : R (vi (orI [cmpI p.y q.y, cmpI p.x q.x])) G L) : CallT Tryz.prog 128 #[vpt p, vpt q] G L R := by
 refine CallT.enter (args := _) Tryz.func128 rfl rfl (by kernel_rfl) rfl ?_
 refine WP.seq (WP.region ?_)
 refine RG.ot rfl (OT.box (cs := ptT.enc p) rfl rfl rfl fun b2 => ?_)
 refine RG.ot rfl (OT.box (cs := ptT.enc q) rfl rfl rfl fun b3 => ?_)
 refine RG.mr rfl rfl rfl (RG.nil (WP.seq ?_))
 refine WP.regionH0 (.q 0 (.q 1 (.q 2 (.q 3 (.q 5 (.q 6 (.q 7 (.q 8 (.l 4 (.l 9 (.l 10 (.l 11 (.q 12 Sch.nil))))))))))))) (by kernel_rfl) (by kernel_rfl) (by kernel_rfl) rfl ?_
 refine RH.pv rfl (fun _ _ _ _ h => h) (Gh.le_refl _) PickC.pick rfl (PV.field rfl Fo183_1 rfl) ?_
 refine RH.pv rfl (fun _ _ _ _ h => h) (Gh.le_refl _) PickC.pick rfl (PV.load1 rfl Sc2 rfl (Rd.blk rfl)) ?_
 refine RH.pv rfl (fun _ _ _ _ h => h) (Gh.le_refl _) PickC.pick rfl (PV.field rfl Fo183_1 rfl) ?_
 refine RH.pv rfl (fun _ _ _ _ h => h) (Gh.le_refl _) PickC.pick rfl (PV.load1 rfl Sc2 rfl (Rd.blk rfl)) ?_
 refine RH.pv rfl (fun _ _ _ _ h => h) (Gh.le_refl _) PickC.pick rfl (PV.field rfl Fo183_0 rfl) ?_
 refine RH.pv rfl (fun _ _ _ _ h => h) (Gh.le_refl _) PickC.pick rfl (PV.load1 rfl Sc2 rfl (Rd.blk rfl)) ?_
 refine RH.pv rfl (fun _ _ _ _ h => h) (Gh.le_refl _) PickC.pick rfl (PV.field rfl Fo183_0 rfl) ?_
 refine RH.pv rfl (fun _ _ _ _ h => h) (Gh.le_refl _) PickC.pick rfl (PV.load1 rfl Sc2 rfl (Rd.blk rfl)) ?_
 refine RH.ot rfl rfl (OT.callF (vs := [_, _]) rfl En184 rfl (cmp_s ⟨Gh.le_refl _, PickC.pick, ?_⟩))
 refine RH.ot rfl rfl (OT.callF (vs := [_, _]) rfl En184 rfl (cmp_s ⟨Gh.le_refl _, PickC.pick, ?_⟩))
 refine RH.ot rfl rfl (OT.bslice (F := intT) (els := [_, _]) rfl El159 rfl (by decide) rfl (by decide) ⟨rfl, (Cl.c rfl), ⟨rfl, (Cl.c rfl), trivial⟩⟩ fun v15 => ⟨Gh.le_refl _, PickC.pick, ?_⟩)
 refine RH.ot rfl rfl (OT.callF (vs := [v15]) rfl En183 rfl (cmpOr_s Rs.o ⟨Gh.le_refl _, PickC.pick, ?_⟩))
 refine RH.pv rfl (fun _ _ _ _ h => h) (Gh.le_refl _) PickC.pick rfl (PV.mvI (.inr rfl) rfl) ?_
 refine RH.nil ?_
 refine WP.ret ?_
 exact ⟨_, _, ResV.one rfl rfl, Cv.p, k⟩
theorem cmpPcs_s {p q : Piece} (h1 : Rs G L rectT p.reg.v p.reg.xs) (h2 : Rs G L rectT q.reg.v q.reg.xs) (n1 : 0 < p.reg.xs.length) (n2 : 0 < q.reg.xs.length) (b1 : 0 ≤ p.layer ∧ p.layer ≤ 7) (b2 : 0 ≤ q.layer ∧ q.layer ≤ 7) (k : R (vi (cmpP (erP p) (erP q))) G L) : CallT Tryz.prog 77 #[vT pieceT p, vT pieceT q] G L R := by
 refine CallT.enter (args := _) Tryz.func77 rfl rfl (by kernel_rfl) rfl ?_
 refine WP.seq (WP.region ?_)
 refine RG.ot rfl (OT.box (cs := pieceT.enc p) rfl rfl rfl fun b2 => ?_)
 refine RG.ot rfl (OT.box (cs := pieceT.enc q) rfl rfl rfl fun b3 => ?_)
 refine RG.mr rfl rfl rfl (RG.nil (WP.seq (WP.seq (WP.region (RG.pv rfl (PV.field rfl Fo63_0 rfl) (RG.pv rfl (PV.load1 rfl Sc2 rfl (Rd.blk rfl)) (RG.pv rfl (PV.field rfl Fo63_0 rfl) ?_)))))))
 refine RG.pv rfl (PV.load1 rfl Sc2 rfl (Rd.blk rfl)) (RG.pv rfl (PV.neq rfl rfl rfl) (RG.nil ?_))
 refine WP.cond rfl (fun h3 => ?_) (fun h3 => ?_)
 · have h3 : ¬ p.layer = q.layer := by simpa using h3
   have e : cmpP (erP p) (erP q) = p.layer - q.layer := by rw [cmpP, erP, erP, if_neg h3]
   rw [e] at k
   refine WP.seq (WP.region (RG.pv rfl (PV.field rfl Fo63_0 rfl) (RG.pv rfl (PV.load1 rfl Sc2 rfl (Rd.blk rfl)) (RG.pv rfl (PV.field rfl Fo63_0 rfl) (RG.pv rfl (PV.load1 rfl Sc2 rfl (Rd.blk rfl)) (RG.pv rfl (PV.sub rfl rfl rfl (by omega)) (RG.mr rfl rfl rfl ?_)))))))
   refine RG.nil ?_
   refine WP.ret ?_
   exact ⟨_, _, ResV.one rfl rfl, Cv.p, k⟩
 · have h3 : p.layer = q.layer := by simpa using h3
   have e : cmpP (erP p) (erP q) = orI [cmpI (gd p.reg.xs 0).y0 (gd q.reg.xs 0).y0, cmpI (gd p.reg.xs 0).x0 (gd q.reg.xs 0).x0] := by rw [cmpP, erP, erP, if_pos h3]
   rw [e] at k
   refine WP.skip (WP.seq ?_)
   refine WP.regionQ (by kernel_rfl) (by kernel_rfl) ?_
   refine RQ.pv rfl (PV.field rfl Fo63_1 rfl) ?_
   refine RQ.pv rfl (PV.load1 rfl Sc50 rfl (Rd.blk rfl)) ?_
   refine RQ.pv rfl (PV.idxS (j := 0) rfl Is50 rfl (SlF.r h1) rfl (by omega) (by omega)) ?_
   refine RQ.pv rfl (PV.field rfl Fo140_0 rfl) ?_
   refine RQ.pv rfl (PV.loadF rfl Sc2 rfl rfl (El.r h1 (getG (by omega))) rfl) ?_
   refine RQ.pv rfl (PV.field rfl Fo63_1 rfl) ?_
   refine RQ.pv rfl (PV.load1 rfl Sc50 rfl (Rd.blk rfl)) ?_
   refine RQ.pv rfl (PV.idxS (j := 0) rfl Is50 rfl (SlF.r h1) rfl (by omega) (by omega)) ?_
   refine RQ.pv rfl (PV.field rfl Fo140_1 rfl) ?_
   refine RQ.pv rfl (PV.loadF rfl Sc2 rfl rfl (El.r h1 (getG (by omega))) rfl) ?_
   refine RQ.pv rfl (PV.build (vs := [(0, [vi _]), (1, [vi _])]) (out := [_, _]) rfl Zr183 Pl183 ⟨rfl, (Cl.c rfl), ⟨rfl, (Cl.c rfl), trivial⟩⟩ rfl) ?_
   refine RQ.pv rfl (PV.field rfl Fo63_1 rfl) ?_
   refine RQ.pv rfl (PV.load1 rfl Sc50 rfl (Rd.blk rfl)) ?_
   refine RQ.pv rfl (PV.idxS (j := 0) rfl Is50 rfl (SlF.r h2) rfl (by omega) (by omega)) ?_
   refine RQ.pv rfl (PV.field rfl Fo140_0 rfl) ?_
   refine RQ.pv rfl (PV.loadF rfl Sc2 rfl rfl (El.r h2 (getG (by omega))) rfl) ?_
   refine RQ.pv rfl (PV.field rfl Fo63_1 rfl) ?_
   refine RQ.pv rfl (PV.load1 rfl Sc50 rfl (Rd.blk rfl)) ?_
   refine RQ.pv rfl (PV.idxS (j := 0) rfl Is50 rfl (SlF.r h2) rfl (by omega) (by omega)) ?_
   refine RQ.pv rfl (PV.field rfl Fo140_1 rfl) ?_
   refine RQ.pv rfl (PV.loadF rfl Sc2 rfl rfl (El.r h2 (getG (by omega))) rfl) ?_
   refine RQ.pv rfl (PV.build (vs := [(0, [vi _]), (1, [vi _])]) (out := [_, _]) rfl Zr183 Pl183 ⟨rfl, (Cl.c rfl), ⟨rfl, (Cl.c rfl), trivial⟩⟩ rfl) ?_
   refine RQ.callF (vs := [_, _]) rfl rfl En128 rfl (cmpPts_s (p := ⟨(gd p.reg.xs 0).x0, (gd p.reg.xs 0).y0⟩) (q := ⟨(gd q.reg.xs 0).x0, (gd q.reg.xs 0).y0⟩) ⟨rfl, rfl, rfl⟩) ?_
   refine RQ.pv rfl (PV.mvI (.inr rfl) rfl) ?_
   refine RQ.nil ?_
   refine WP.ret ?_
   exact ⟨_, _, ResV.one rfl rfl, Cv.p, k⟩
theorem cmpH_s {a b : HNet} (h1 : Rs G L pieceT a.net.pieces.v a.net.pieces.xs) (h2 : Rs G L pieceT b.net.pieces.v b.net.pieces.xs) (l1 : 0 < a.net.pieces.xs.length) (l2 : 0 < b.net.pieces.xs.length) (hr1 : Rs G L rectT (gd a.net.pieces.xs 0).reg.v (gd a.net.pieces.xs 0).reg.xs) (hr2 : Rs G L rectT (gd b.net.pieces.xs 0).reg.v (gd b.net.pieces.xs 0).reg.xs) (n1 : 0 < (gd a.net.pieces.xs 0).reg.xs.length) (n2 : 0 < (gd b.net.pieces.xs 0).reg.xs.length) (y1 : 0 ≤ (gd a.net.pieces.xs 0).layer ∧ (gd a.net.pieces.xs 0).layer ≤ 7) (y2 : 0 ≤ (gd b.net.pieces.xs 0).layer ∧ (gd b.net.pieces.xs 0).layer ≤ 7) (k : R (vi (cmpP (erP (gd a.net.pieces.xs 0)) (erP (gd b.net.pieces.xs 0)))) G L) : CallT Tryz.prog 76 #[vT hnetT a, vT hnetT b] G L R := by
 refine CallT.enter (args := _) Tryz.func76 rfl rfl (by kernel_rfl) rfl ?_
 refine WP.seq (WP.region ?_)
 refine RG.ot rfl (OT.box (cs := hnetT.enc a) rfl rfl rfl fun b2 => ?_)
 refine RG.ot rfl (OT.box (cs := hnetT.enc b) rfl rfl rfl fun b3 => ?_)
 refine RG.mr rfl rfl rfl (RG.nil (WP.seq ?_))
 refine WP.regionQ (by kernel_rfl) (by kernel_rfl) ?_
 refine RQ.pv rfl (PV.field rfl Fo82_0 rfl) ?_
 refine RQ.pv rfl (PV.field rfl Fo80_0 rfl) ?_
 refine RQ.pv rfl (PV.load1 rfl Sc78 rfl (Rd.blk rfl)) ?_
 refine RQ.pv rfl (PV.idxS (j := 0) rfl Is78 rfl (SlF.r h1) rfl (by omega) (by omega)) ?_
 refine RQ.pv rfl (PV.loadE rfl Ag63 rfl rfl (El.r h1 (getG (by omega)))) ?_
 refine RQ.pv rfl (PV.field rfl Fo82_0 rfl) ?_
 refine RQ.pv rfl (PV.field rfl Fo80_0 rfl) ?_
 refine RQ.pv rfl (PV.load1 rfl Sc78 rfl (Rd.blk rfl)) ?_
 refine RQ.pv rfl (PV.idxS (j := 0) rfl Is78 rfl (SlF.r h2) rfl (by omega) (by omega)) ?_
 refine RQ.pv rfl (PV.loadE rfl Ag63 rfl rfl (El.r h2 (getG (by omega)))) ?_
 refine RQ.callF (vs := [_, _]) rfl rfl En77 rfl (cmpPcs_s (p := gd a.net.pieces.xs 0) (q := gd b.net.pieces.xs 0) (Rs.up hr1) (Rs.up hr2) n1 n2 y1 y2 ⟨rfl, rfl, rfl⟩) ?_
 refine RQ.pv rfl (PV.mvI (.inr rfl) rfl) ?_
 refine RQ.nil ?_
 refine WP.ret ?_
 exact ⟨_, _, ResV.one rfl rfl, Cv.p, k⟩
end Go.Proofs.YthhjapiggekjbaaGreat
namespace Go.Proofs.YthhjapiggekjbaaGreat
set_option linter.unusedVariables false
set_option linter.unusedSimpArgs false
open Go
set_option maxRecDepth 20000
set_option maxHeartbeats 1000000
set_option linter.unusedSimpArgs false
variable {G : Gh} {L : List Ch} {R : Value → Gh → List Ch → Prop}
def pcsL (ps : List Plc) : List (Sl Piece) := ps.map Plc.pieces
def plsL (ps : List Plc) : List (Sl Rect) := ps.map Plc.poly
def rgsL (ps : List Plc) : List (Sl Rect) := ps.flatMap fun p => regs p.pieces.xs
theorem pcsL_app (ps : List Plc) (p : Plc) : pcsL (ps ++ [p]) = pcsL ps ++ [p.pieces] := by simp [pcsL]
theorem plsL_app (ps : List Plc) (p : Plc) : plsL (ps ++ [p]) = plsL ps ++ [p.poly] := by simp [plsL]
theorem rgsL_app (ps : List Plc) (p : Plc) : rgsL (ps ++ [p]) = rgsL ps ++ regs p.pieces.xs := by simp [rgsL]
theorem Cv.plcNew {e1 e2 e3 : TypeId} {ps : List Plc} {pv u q : Value} {qs : List Piece} {us : List Rect} : Cv (osl e1 pieceT pv qs :: bagS e1 pieceT (pcsL ps) :: osl e2 rectT u us :: bagS e2 rectT (plsL ps) :: bagS e2 rectT (rgsL ps) :: bagS e2 rectT (regs qs) :: osl e3 plcT q (ps ++ [⟨⟨pv, qs⟩, ⟨u, us⟩⟩]) :: L)
   (osl e3 plcT q (ps ++ [⟨⟨pv, qs⟩, ⟨u, us⟩⟩]) :: bagS e1 pieceT (pcsL (ps ++ [⟨⟨pv, qs⟩, ⟨u, us⟩⟩])) :: bagS e2 rectT (plsL (ps ++ [⟨⟨pv, qs⟩, ⟨u, us⟩⟩])) :: bagS e2 rectT (rgsL (ps ++ [⟨⟨pv, qs⟩, ⟨u, us⟩⟩])) :: L) := by
 rw [pcsL_app, plsL_app, rgsL_app]
 exact Cv.bagS_add.trans ((Cv.cons Cv.bagS_add).trans ((Cv.cons (Cv.cons Cv.bagJn)).trans Cv.p))
def erL (ps : List Plc) : List (List (Int × List Rect) × List Rect) := ps.map fun p => (erPs p.pieces.xs, p.poly.xs)
noncomputable def plPc (cs : List ECell) (os : List EOcc) (i : Nat) : List (Int × List Rect) := (ownP cs (gd os i).cell).map (mvP (gd os i).place)
def plPoly (cs : List ECell) (os : List EOcc) (i : Nat) : List Rect := canon (bits ((gd (layL (gd cs (gd os i).cell.toNat).shapes) 1).map (moveR (gd os i).place)))
noncomputable def plcTo (cs : List ECell) (os : List EOcc) (i : Nat) : List (List (Int × List Rect) × List Rect) := (List.range i).map fun j => (plPc cs os j, plPoly cs os j)
theorem plcTo_succ (cs : List ECell) (os : List EOcc) (i : Nat) : plcTo cs os (i + 1) = plcTo cs os i ++ [(plPc cs os i, plPoly cs os i)] := by simp [plcTo, List.range_succ]
theorem OccAt.vt {xs : List Cell} {cell : Int} {zs : List Occ} {i : Nat} (ha : OccAt xs cell zs i) : validT (gd zs i).place = true := by
 obtain ⟨-, -, h3, -⟩ := occR_cell ha.hi
 rw [ha.ho] at h3; exact h3
theorem OccAt.poly {xs : List Cell} {cell : Int} {zs : List Occ} {i : Nat} (ha : OccAt xs cell zs i) (h0 : shE (erCls xs) cell = 0) : mvI (gd zs i).place (gd (layL (gd xs (gd zs i).cell.toNat).shapes.xs) 1) = plPoly (erCls xs) (occR (erCls xs) cell) i := by
 rw [mvI_eq ha.vt (by rw [layL_gd (by omega)]; exact isReg_canon (bits_length _)) (lay_mv (by omega) ha.hp.1 (ha.ok h0)), plPoly, ha.ho]
 simp only [erO, ha.hs]
theorem OccAt.pc {xs : List Cell} {cell : Int} {zs : List Occ} {i : Nat} (ha : OccAt xs cell zs i) (h0 : shE (erCls xs) cell = 0) {p : Int × List Rect} (hp : p ∈ pcE (layL (gd xs (gd zs i).cell.toNat).shapes.xs)) : (p.1, mvI (gd zs i).place p.2) = mvP (gd zs i).place p := by
 rw [mvP, mvI_eq ha.vt (pc_reg hp) (pc_mv ha.hp.1 (ha.ok h0) hp)]
theorem layers_i8 {v : Value} {ss : List Shape} (h1 : Rs G L shapeT v ss) (k : ∀ v' ys, er ys = layL ss → ys.length = 8 → R v' G (osl 50 slT v' ys :: bagS 140 rectT ys :: L)) : CallT Tryz.prog 46 #[v] G L R :=
 layers_i h1 fun v' ys he => k v' ys he (by rw [← er_len, he, layL_len])
theorem plac_i {l : Lib} {cell : Int} (hL : RLib G L l.cells.v l.cells.xs) (hlen : lenC (erCls l.cells.xs)) (k0 : shE (erCls l.cells.xs) cell ≠ 0 → R (.tuple #[.slice none 0 0, .slice none 0 0, vi (shE (erCls l.cells.xs) cell)]) G L)
   (k : shE (erCls l.cells.xs) cell = 0 → ∀ v ps u ys, erL ps = plcTo (erCls l.cells.xs) (occR (erCls l.cells.xs) cell) (occR (erCls l.cells.xs) cell).length → er ys = flyL (erCls l.cells.xs) cell → R (.tuple #[v, u, vi 0]) G (osl 152 plcT v ps :: bagS 63 pieceT (pcsL ps) :: bagS 140 rectT (plsL ps) :: bagS 140 rectT (rgsL ps) :: osl 50 slT u ys :: bagS 140 rectT ys :: L)) : CallT Tryz.prog 47 #[vT libT l, vi cell] G L R := by
 have hE := erCls_len l.cells.xs
 refine CallT.enter (args := _) Tryz.func47 rfl rfl (by kernel_rfl) rfl ?_
 refine WP.seq (WP.region ?_)
 refine RG.ot rfl (OT.box (cs := libT.enc l) rfl rfl rfl fun b2 => ?_)
 refine RG.pv rfl (PV.asg rfl rfl) (RG.pv rfl (PV.asg rfl rfl) (RG.mr rfl rfl rfl (RG.nil (WP.seq (WP.region (RG.pv rfl (PV.loadW rfl Ag31 rfl rfl) (RG.ml rfl rfl rfl ?_)))))))
 refine RG.callF (vs := [_, _]) rfl rfl En22 rfl (fly_i hL.up hlen (fun w23 ys0 hy0 => ?_))
 refine RG.pv rfl (PV.move (v := .tuple _) rfl rfl) (RG.pv rfl (PV.ext (v := w23) rfl rfl rfl) (RG.pv rfl (PV.ext rfl rfl rfl) (RG.pv rfl (PV.asg (v := w23) rfl rfl) (RG.mr rfl rfl rfl (RG.nil (WP.seq (WP.seq ?_)))))))
 refine WP.region (RG.ml rfl rfl rfl (RG.pv rfl (PV.neq rfl rfl rfl) (RG.nil ?_)))
 refine WP.cond rfl (fun h1 => ?_) (fun h1 => ?_)
 · have h1 : shE (erCls l.cells.xs) cell ≠ 0 := by simpa using h1
   refine WP.seq (WP.region (RG.ml rfl rfl rfl (RG.pv rfl (PV.asg rfl rfl) (RG.pv rfl (PV.asg rfl rfl) (RG.mr rfl rfl rfl (RG.nil ?_))))))
   refine WP.ret ?_
   exact ⟨_, _, ResV.three rfl rfl rfl rfl, Cv.p, k0 h1⟩
 · have h1 : shE (erCls l.cells.xs) cell = 0 := by simpa using h1
   refine WP.skip (WP.seq (WP.region (RG.pv rfl (PV.loadW rfl Ag31 rfl rfl) (RG.ml rfl rfl rfl ?_))))
   refine RG.callF (vs := [_, _]) rfl rfl En81 rfl (occ_i hL.up hlen (fun w32 zs he => ?_))
   refine RG.pv rfl (PV.move (v := .tuple _) rfl rfl) (RG.pv rfl (PV.ext (v := w32) rfl rfl rfl) (RG.pv rfl (PV.ext rfl rfl rfl) (RG.pv rfl (PV.asg (v := w32) rfl rfl) (RG.mr rfl rfl rfl (RG.nil (WP.seq (WP.region ?_)))))))
   refine RG.ot rfl (OT.bslice (F := plcT) (els := []) rfl El87 rfl (by decide) rfl (by decide) trivial fun v35 => ?_)
   refine RG.pv rfl (PV.asg (v := v35) rfl rfl) (RG.nil (WP.seq (WP.seq (WP.region (RG.pv rfl (PV.move (v := w32) rfl rfl) (RG.pv rfl (PV.len (v := w32) rfl Tryz.underlying94 rfl SlF.o) (RG.ml rfl rfl rfl ?_)))))))
   refine RG.nil (WP.block ?_)
   have hzl : zs.length = (occR (erCls l.cells.xs) cell).length := by rw [← he, erOs_len]
   refine WP.bdo w32 fun hbz => ?_
   refine WP.cv ((Cv.p (C := osl 152 plcT v35 ([] : List Plc) :: osl 50 slT w23 ys0 :: bagS 140 rectT ys0 :: osl 138 occT w32 zs :: bagS 2 intT (pths zs) :: blk b2 31 (libT.enc l) :: L)).trans (Cv.cons ((Cv.bag0 (e := 140) (F := rectT) (xs := rgsL []) rfl).trans ((Cv.bag0 (e := 140) (F := rectT) (xs := plsL []) rfl).trans (Cv.bag0 (e := 63) (F := pieceT) (xs := pcsL []) rfl))))) ?_
   refine WP.loop3 [2, 7, 36, 37] (fun (i : Nat) (ps : List Plc) (q : Value) => i ≤ zs.length ∧ erL ps = plcTo (erCls l.cells.xs) (occR (erCls l.cells.xs) cell) i) (fun (i : Nat) (ps : List Plc) (q : Value) => [(38, vi i), (11, q)]) (fun (i : Nat) (ps : List Plc) (q : Value) => osl 152 plcT q ps :: bagS 63 pieceT (pcsL ps) :: bagS 140 rectT (plsL ps) :: bagS 140 rectT (rgsL ps) :: osl 50 slT w23 ys0 :: bagS 140 rectT ys0 :: osl 138 occT w32 zs :: bagS 2 intT (pths zs) :: blk b2 31 (libT.enc l) :: L) (fun (i : Nat) (ps : List Plc) (q : Value) => zs.length - i) 0 [] v35 ⟨by omega, rfl⟩ ⟨rfl, rfl, trivial⟩ Cv.p ?_
   rintro i ps q τ ⟨hi, hq⟩
   refine WP.seq (WP.region (RG.pv rfl (PV.lss rfl rfl rfl) (RG.nil (WP.seq ?_))))
   have hpsl : ps.length = i := by have := congrArg List.length hq; simpa [erL, plcTo] using this
   refine WP.cond rfl (fun h2 => ?_) (fun h2 => ?_)
   · have h2 := of_decide_eq_true h2
     have h3 : i < zs.length := by omega
     have ha := OccAt.of (cell := cell) he h3
     have hrd : Rs G (bagS 2 intT (pths zs) :: []) intT (gd zs i).path.v (gd zs i).path.xs := RsE.path RsE.o h3
     have hac := ha.hc
     have hal := ha.hl
     have hsl := hL.sa ha.hc.2
     refine WP.skip (WP.seq (WP.block (WP.seq (WP.region (RG.pv rfl (PV.idxS (v := w32) rfl Is94 rfl SlF.o rfl rfl (by omega)) (RG.pv rfl (PV.loadE rfl Ag138 rfl rfl (El.o (getG (by omega)))) ?_))))))
     refine RG.ot rfl (OT.alloc rfl Zr138 fun b13 => ?_)
     refine RG.ot rfl (OT.storeW (vs := [vi _, vi _, vi _, vi _, _]) rfl Sz138 rfl rfl (Cl.c rfl) rfl rfl (OneC.val rfl (OneC.val rfl (OneC.val rfl (OneC.val rfl (OneC.sl (SlF.r hrd) OneC.nil))))) ?_)
     refine RG.nil (WP.seq (WP.region (RG.pv rfl (PV.field rfl Fo31_0 rfl) (RG.pv rfl (PV.load1 rfl Sc29 rfl (Rd.blk rfl)) (RG.pv rfl (PV.field rfl Fo138_0 rfl) (RG.pv rfl (PV.load1 rfl Sc2 rfl (Rd.blk rfl)) (RG.pv rfl (PV.idxS (j := (gd zs i).cell.toNat) rfl Is29 rfl (SlF.r hL.c) rfl (by omega) (by omega)) ?_)))))))
     refine RG.pv rfl (PV.field rfl Fo116_1 rfl) (RG.pv rfl (PV.loadF rfl Sc83 rfl rfl (El.r hL.c (getG (by omega))) rfl) ?_)
     refine RG.callF (vs := [_]) rfl rfl En46 rfl (layers_i8 (v := (gd l.cells.xs (gd zs i).cell.toNat).shapes.v) (Rs.up hsl) (fun v49 ysv49 hev49 hlv49 => ?_))
     refine RG.pv rfl (PV.asg (v := v49) rfl rfl) (RG.nil (WP.seq (WP.region (RG.pv rfl (PV.build (vs := []) (out := [_, _]) rfl Zr152 Pl152 trivial rfl) ?_))))
     refine RG.ot rfl (OT.alloc rfl Zr152 fun b15 => ?_)
     refine RG.ot rfl (OT.storeW (vs := [_, _]) rfl Sz152 rfl rfl (Cl.c rfl) rfl rfl (OneC.val rfl (OneC.val rfl OneC.nil)) ?_)
     refine RG.nil (WP.seq ?_)
     refine WP.regionHD [.b b15] (.q 0 (.q 1 (.q 2 (.q 3 (.q 4 (.l 5 (.q 6 (.q 7 (.q 8 (.q 9 (.l 10 Sch.nil))))))))))) (by kernel_rfl) (by kernel_rfl) (by kernel_rfl) rfl ?_
     refine RH.pv rfl (fun _ _ _ _ h => h) (Gh.le_refl _) PickC.pick rfl (PV.field rfl Fo138_1 rfl) ?_
     refine RH.pv rfl (fun _ _ _ _ h => h) (Gh.le_refl _) PickC.pick rfl (PV.loadB (vs := [_, _, _]) rfl Ag136 rfl rfl rfl) ?_
     refine RH.pv rfl (fun _ _ _ _ h => h) (Gh.le_refl _) PickC.pick rfl (PV.move (v := v49) rfl rfl) ?_
     refine RH.pv rfl (fun _ _ _ _ h => h) (Gh.le_refl _) PickC.pick rfl (PV.idxS (j := 1) (v := v49) rfl Is47 rfl SlF.o rfl (by omega) (by omega)) ?_
     refine RH.pv rfl (fun _ _ _ _ h => h) (Gh.le_refl _) PickC.pick rfl (PV.loadE1 rfl Sc50 rfl rfl (El.o (getG (by omega))) rfl) ?_
     refine RH.ot rfl rfl (OT.callF (vs := [_, _]) rfl En86 rfl (mvReg_i (Rs.inBag (xs := ysv49) 1 (by omega)) (fun w57 => ⟨Gh.le_refl _, PickC.pick, ?_⟩)))
     refine RH.pv rfl (fun _ _ _ _ h => h) (Gh.le_refl _) PickC.pick rfl (PV.move (v := .tuple _) rfl rfl) ?_
     refine RH.pv rfl (fun _ _ _ _ h => h) (Gh.le_refl _) PickC.pick rfl (PV.ext (v := w57) rfl rfl rfl) ?_
     refine RH.pv rfl (fun _ _ _ _ h => h) (Gh.le_refl _) PickC.pick rfl (PV.ext rfl rfl rfl) ?_
     refine RH.pv rfl (fun _ _ _ _ h => h) (Gh.le_refl _) PickC.pick rfl (PV.field rfl Fo152_1 rfl) ?_
     refine RH.ot rfl rfl (OT.storeB (v := w57) (vs := [_]) (cs' := [_, _]) rfl Sz50 rfl rfl (Cl.s (v := w57) SlF.o) rfl (OneC.sl SlF.o OneC.nil) rfl rfl ⟨Gh.le_refl _, PickC.pick, ?_⟩)
     refine RH.nil ?_
     refine WP.seq (WP.seq (WP.region (RG.pv rfl (PV.move (v := v49) rfl rfl) ?_)))
     refine RG.callF (vs := [v49]) rfl rfl En87 rfl (pieces_s (v := v49) (xs := ysv49) Rs.o RsE.o (by rw [hev49]; exact isLay_layL _) (fun v62 psv62 hpv62 => ?_))
     refine RG.pv rfl (PV.len (v := v62) rfl Tryz.underlying78 rfl SlF.o) (RG.ml rfl rfl rfl (RG.nil (WP.block ?_)))
     have hpe : erPs psv62 = pcE (layL (gd l.cells.xs (gd zs i).cell.toNat).shapes.xs) := by rw [hpv62, hev49, pcE, isLay_layL]; rfl
     have hpb : psv62.length ≤ 25600 := by rw [← erPs_len, hpe]; exact pcE_len _
     have hpo : ownP (erCls l.cells.xs) (gd (occR (erCls l.cells.xs) cell) i).cell = erPs psv62 := by rw [hpe, ha.ho]; exact ha.own
     refine WP.cv ((Cv.p (C := osl 140 rectT w57 (mvI (gd zs i).place (gd ysv49 1).xs) :: osl 63 pieceT v62 psv62 :: bagS 140 rectT (regs psv62) :: blk b15 152 [.slice none 0 0, w57] :: blk b13 138 (occT.enc (gd zs i)) :: osl 152 plcT q ps :: bagS 63 pieceT (pcsL ps) :: bagS 140 rectT (plsL ps) :: bagS 140 rectT (rgsL ps) :: osl 50 slT w23 ys0 :: bagS 140 rectT ys0 :: osl 138 occT w32 zs :: bagS 2 intT (pths zs) :: blk b2 31 (libT.enc l) :: L)).trans ((Cv.bag0 (e := 140) (F := rectT) (xs := regs []) rfl).trans (Cv.nilS (e := 63) (F := pieceT)))) ?_
     refine WP.loop3 [2, 7, 11, 13, 15, 36, 37, 38, 62, 63] (fun (m : Nat) (qs : List Piece) (pv : Value) => m ≤ psv62.length ∧ erPs qs = ((erPs psv62).map (mvP (gd zs i).place)).take m) (fun (m : Nat) (qs : List Piece) (pv : Value) => [(64, vi m)]) (fun (m : Nat) (qs : List Piece) (pv : Value) => osl 63 pieceT pv qs :: bagS 140 rectT (regs qs) :: osl 140 rectT w57 (mvI (gd zs i).place (gd ysv49 1).xs) :: osl 63 pieceT v62 psv62 :: bagS 140 rectT (regs psv62) :: blk b15 152 [pv, w57] :: blk b13 138 (occT.enc (gd zs i)) :: osl 152 plcT q ps :: bagS 63 pieceT (pcsL ps) :: bagS 140 rectT (plsL ps) :: bagS 140 rectT (rgsL ps) :: osl 50 slT w23 ys0 :: bagS 140 rectT ys0 :: osl 138 occT w32 zs :: bagS 2 intT (pths zs) :: blk b2 31 (libT.enc l) :: L) (fun (m : Nat) (qs : List Piece) (pv : Value) => psv62.length - m) 0 [] (.slice none 0 0) ⟨by omega, rfl⟩ ⟨rfl, trivial⟩ Cv.p ?_
     rintro m qs pv τ1 ⟨hm, hr⟩
     refine WP.seq (WP.region (RG.pv rfl (PV.lss rfl rfl rfl) (RG.nil (WP.seq ?_))))
     have hql : qs.length ≤ 25600 := by rw [← erPs_len, hr, List.length_take]; omega
     refine WP.cond rfl (fun h4 => ?_) (fun h4 => ?_)
     · have h4 := of_decide_eq_true h4
       have h5 : m < psv62.length := by omega
       have hpm := gd_memP hpe h5
       have hrp : Rs G (bagS 140 rectT (regs psv62) :: []) rectT (gd psv62 m).reg.v (gd psv62 m).reg.xs := RsE.reg RsE.o h5
       have hnx : ∀ w, erPs (qs ++ [⟨(gd psv62 m).layer, ⟨w, mvI (gd zs i).place (gd psv62 m).reg.xs⟩⟩]) = ((erPs psv62).map (mvP (gd zs i).place)).take (m + 1) := fun w => by
         rw [List.take_add_one, getG (by rw [List.length_map, erPs_len]; exact h5), ← hr, gd_map _ (by rw [erPs_len]; exact h5), erPs_gd h5, ← ha.pc h1 hpm, erPs, List.map_append]
         rfl
       refine WP.skip (WP.seq (WP.block (WP.seq (WP.region (RG.pv rfl (PV.idxS (v := v62) rfl Is78 rfl SlF.o rfl rfl (by omega)) (RG.pv rfl (PV.loadE rfl Ag63 rfl rfl (El.o (getG (by omega)))) ?_))))))
       refine RG.ot rfl (OT.alloc rfl Zr63 fun b17 => ?_)
       refine RG.ot rfl (OT.storeW (vs := [vi _, _]) rfl Sz63 rfl rfl (Cl.c rfl) rfl rfl (OneC.val rfl (OneC.sl (SlF.r hrp) OneC.nil)) ?_)
       refine RG.nil (WP.seq (WP.region (RG.pv rfl (PV.field rfl Fo138_1 rfl) (RG.pv rfl (PV.loadB (vs := [_, _, _]) rfl Ag136 rfl rfl rfl) (RG.pv rfl (PV.field rfl Fo63_1 rfl) (RG.pv rfl (PV.load1 rfl Sc50 rfl (Rd.blk rfl)) ?_))))))
       refine RG.callF (vs := [_, _]) rfl rfl En86 rfl (mvReg_i (RsE.reg (RsE.o (xs := regs psv62)) h5) (fun w73 => ?_))
       refine RG.pv rfl (PV.move (v := .tuple _) rfl rfl) (RG.pv rfl (PV.ext (v := w73) rfl rfl rfl) (RG.pv rfl (PV.ext rfl rfl rfl) (RG.pv rfl (PV.asg (v := w73) rfl rfl) (RG.br rfl rfl rfl (RG.nil (WP.region (RG.pv rfl (PV.field rfl Fo152_0 rfl) ?_)))))))
       refine RG.pv rfl (PV.load1 rfl Sc78 rfl (Rd.blk rfl)) (RG.pv rfl (PV.field rfl Fo63_0 rfl) (RG.pv rfl (PV.load1 rfl Sc2 rfl (Rd.blk rfl)) (RG.pv rfl (PV.move (v := w73) rfl rfl) (RG.pv rfl (PV.build (vs := [(0, [vi _]), (1, [w73])]) (out := [_, _]) rfl Zr63 Pl63 ⟨rfl, (Cl.c rfl), ⟨rfl, (Cl.s (v := w73) SlF.o), trivial⟩⟩ rfl) ?_))))
       refine RG.ot rfl (OT.bslice (F := pieceT) (els := [⟨(gd psv62 m).layer, ⟨w73, mvI (gd zs i).place (gd psv62 m).reg.xs⟩⟩]) rfl El78 rfl (by decide) rfl (by decide) ⟨rfl, (Cl.c rfl), trivial⟩ fun v82 => ?_)
       refine RG.ot rfl (OT.append (v := pv) (u := v82) (F := pieceT) rfl El78 rfl (by decide) rfl rfl Rs.o (OneL.one (OneC.val rfl (OneC.sl (SlF.o (v := w73)) OneC.nil))) rfl (by first | omega | (simp <;> omega)) fun v83 => ?_)
       refine RG.pv rfl (PV.field rfl Fo152_0 rfl) ?_
       refine RG.ot rfl (OT.storeB (v := v83) (vs := [_]) (cs' := [_, _]) rfl Sz78 rfl rfl (Cl.s (v := v83) SlF.o) rfl (OneC.sl SlF.o OneC.nil) rfl rfl ?_)
       refine RG.nil (WP.region (RG.pv rfl (PV.add rfl rfl rfl (by omega)) (RG.ml rfl rfl rfl (RG.nil ?_))))
       exact ⟨rfl, m + 1, (qs ++ [⟨(gd psv62 m).layer, ⟨w73, mvI (gd zs i).place (gd psv62 m).reg.xs⟩⟩]), v83, ⟨by omega, hnx _⟩, ⟨rfl, trivial⟩, ⟨rfl, rfl, rfl, rfl, rfl, rfl, rfl, rfl, rfl, rfl, trivial⟩, ((Cv.p (C := osl 140 rectT w73 (mvI (gd zs i).place (gd psv62 m).reg.xs) :: bagS 140 rectT (regs qs) :: osl 63 pieceT v83 (qs ++ [⟨(gd psv62 m).layer, ⟨w73, mvI (gd zs i).place (gd psv62 m).reg.xs⟩⟩]) :: osl 140 rectT w57 (mvI (gd zs i).place (gd ysv49 1).xs) :: osl 63 pieceT v62 psv62 :: bagS 140 rectT (regs psv62) :: blk b15 152 [v83, w57] :: blk b13 138 (occT.enc (gd zs i)) :: osl 152 plcT q ps :: bagS 63 pieceT (pcsL ps) :: bagS 140 rectT (plsL ps) :: bagS 140 rectT (rgsL ps) :: osl 50 slT w23 ys0 :: bagS 140 rectT ys0 :: osl 138 occT w32 zs :: bagS 2 intT (pths zs) :: blk b2 31 (libT.enc l) :: L)).trans ((Cv.grow (ys' := regs (qs ++ [⟨(gd psv62 m).layer, ⟨w73, mvI (gd zs i).place (gd psv62 m).reg.xs⟩⟩])) (regs_append _ _)).trans Cv.p)), by omega⟩
     · have h4 := of_decide_eq_false h4
       obtain rfl : m = psv62.length := by omega
       have hy1 : (gd ysv49 1).xs = gd (layL (gd l.cells.xs (gd zs i).cell.toNat).shapes.xs) 1 := by rw [← er_gd, hev49]
       have hnp : ∀ w u, erL (ps ++ [⟨⟨w, qs⟩, ⟨u, mvI (gd zs i).place (gd ysv49 1).xs⟩⟩]) = plcTo (erCls l.cells.xs) (occR (erCls l.cells.xs) cell) (i + 1) := fun w u => by
         rw [plcTo_succ, ← hq, ← ha.poly h1, hy1, plPc, hpo, ha.ho, erL, List.map_append]
         simp only [List.map_cons, List.map_nil, erO]
         rw [hr, List.take_of_length_le (by rw [List.length_map, erPs_len]; omega)]
         rfl
       refine WP.exit ?_
       refine WP.region (RG.pv rfl (PV.move (v := q) rfl rfl) (RG.pv rfl (PV.loadW rfl Ag152 rfl rfl) ?_))
       refine RG.ot rfl (OT.bslice (F := plcT) (els := [⟨⟨pv, qs⟩, ⟨w57, mvI (gd zs i).place (gd ysv49 1).xs⟩⟩]) rfl El87 rfl (by decide) rfl (by decide) ⟨rfl, (Cl.c rfl), trivial⟩ fun v88 => ?_)
       refine RG.ot rfl (OT.append (v := q) (u := v88) (F := plcT) rfl El87 rfl (by decide) rfl rfl Rs.o (OneL.one (OneC.sl (SlF.o (v := pv)) (OneC.sl (SlF.o (v := w57)) OneC.nil))) rfl (by first | omega | (simp <;> omega)) fun v89 => ?_)
       refine RG.pv rfl (PV.asg (v := v89) rfl rfl) (RG.nil (WP.region (RG.pv rfl (PV.add rfl rfl rfl (by omega)) (RG.ml rfl rfl rfl (RG.nil ?_)))))
       exact ⟨rfl, i + 1, (ps ++ [⟨⟨pv, qs⟩, ⟨w57, mvI (gd zs i).place (gd ysv49 1).xs⟩⟩]), v89, ⟨by omega, hnp _ _⟩, ⟨rfl, rfl, trivial⟩, ⟨rfl, rfl, rfl, rfl, trivial⟩, ((Cv.p (C := osl 63 pieceT pv qs :: bagS 63 pieceT (pcsL ps) :: osl 140 rectT w57 (mvI (gd zs i).place (gd ysv49 1).xs) :: bagS 140 rectT (plsL ps) :: bagS 140 rectT (rgsL ps) :: bagS 140 rectT (regs qs) :: osl 152 plcT v89 (ps ++ [⟨⟨pv, qs⟩, ⟨w57, mvI (gd zs i).place (gd ysv49 1).xs⟩⟩]) :: osl 50 slT w23 ys0 :: bagS 140 rectT ys0 :: osl 138 occT w32 zs :: bagS 2 intT (pths zs) :: blk b2 31 (libT.enc l) :: L)).trans Cv.plcNew), by omega⟩
   · have h2 := of_decide_eq_false h2
     obtain rfl : i = zs.length := by omega
     rw [hzl] at hq
     refine WP.exit ?_
     refine WP.seq (WP.region (RG.pv rfl (PV.move (v := q) rfl rfl) (RG.pv rfl (PV.move (v := w23) rfl rfl) (RG.pv rfl (PV.asg (v := q) rfl rfl) (RG.pv rfl (PV.asg (v := w23) rfl rfl) (RG.mr rfl rfl rfl (RG.nil ?_)))))))
     refine WP.ret ?_
     exact ⟨_, _, ResV.three rfl rfl rfl rfl, Cv.p, k h1 q ps w23 ys0 hq hy0⟩
end Go.Proofs.YthhjapiggekjbaaGreat
