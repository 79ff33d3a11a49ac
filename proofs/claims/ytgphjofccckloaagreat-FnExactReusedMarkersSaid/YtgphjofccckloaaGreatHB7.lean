/-
  The law FnExactReusedMarkers: whatever the library, the numbers and the rule, the law returns true and all read as before.
-/
import Derived.Test.YtgphjofccckloaaGreatHB6
import Derived.ProofKit
import Derived.Deep.Slices
import Derived.Carry
import Derived.Test.YtgphjofccckloaaGreatRows
namespace Go.Proofs.YtgphjofccckloaaGreat
set_option linter.unusedVariables false
set_option linter.unusedSimpArgs false
open Go
set_option maxRecDepth 20000
set_option maxHeartbeats 1000000
set_option linter.unusedSimpArgs false
variable {G : Gh} {L : List Ch} {R : Value → Gh → List Ch → Prop}
theorem elPlaceI_r {n : Inst} {kk c r : Int} (hk : okIn kk n = true) (hc : 0 ≤ c ∧ c < n.cols) (hr : 0 ≤ r ∧ r < n.rows) (k : R (vtrans (elPlace n c r)) G L) : CallT Tryz.prog 197 #[vT instT n, vi c, vi r] G L R := by
 obtain ⟨c', rfl⟩ := Int.eq_ofNat_of_zero_le hc.1
 obtain ⟨r', rfl⟩ := Int.eq_ofNat_of_zero_le hr.1
 exact elPlace_r hk (by omega) (by omega) k
/-- the element that a number stands for -/
theorem step_found {ns : List Inst} (h : okNs ns) {i : Nat} {rest : Int} (hi : i < ns.length) (h0 : 0 ≤ rest) (hr : rest < (gd ns i).cols * (gd ns i).rows) {n : Int} (hn : n = ((elems (ns.take i)).length : Int) + rest) :
   (0 ≤ rest % (gd ns i).cols ∧ rest % (gd ns i).cols < (gd ns i).cols) ∧ (0 ≤ rest / (gd ns i).cols ∧ rest / (gd ns i).cols < (gd ns i).rows) ∧ gd (elems ns) n.toNat = ⟨(gd ns i).cell, elPlace (gd ns i) (rest % (gd ns i).cols) (rest / (gd ns i).cols)⟩ := by
 obtain ⟨q, rfl⟩ := Int.eq_ofNat_of_zero_le h0
 obtain ⟨_, kk, h2⟩ := h
 obtain ⟨_, _, h3, h4, _, _⟩ := okIn_bd (h2 i hi)
 obtain ⟨c, hc⟩ := Int.eq_ofNat_of_zero_le (show 0 ≤ (gd ns i).cols by omega)
 obtain ⟨r, hr'⟩ := Int.eq_ofNat_of_zero_le (show 0 ≤ (gd ns i).rows by omega)
 have hq : q < r * c := by rw [hc, hr', ← Int.natCast_mul] at hr; rw [Nat.mul_comm]; omega
 have hel := elems_found (ns := ns) (i := i) (q := q) hi (by rw [elsOf_len, hr', hc]; exact hq)
 have e1 : n.toNat = (elems (ns.take i)).length + q := by omega
 have e2 : (gd ns i).cols.toNat = c := by omega
 rw [e1, hel, e2, hc, ← Int.natCast_emod, ← Int.natCast_ediv, hr']
 have hc0 : 0 < c := by omega
 have m1 := Nat.mod_lt q hc0
 have m2 : q / c < r := (Nat.div_lt_iff_lt_mul hc0).2 hq
 have m3 : ((q / c : Nat) : Int) < (r : Int) := by exact_mod_cast m2
 have m4 : ((q % c : Nat) : Int) < (c : Int) := by exact_mod_cast m1
 exact ⟨⟨Int.natCast_nonneg _, m4⟩, ⟨Int.natCast_nonneg _, m3⟩, rfl⟩
theorem step_s {l : Lib} {o : Occ} {n : Int} (hL : RLib G L l.cells.v l.cells.xs) (hok : okLib (erCls l.cells.xs) = true) (hcl : 0 ≤ o.cell ∧ o.cell.toNat < l.cells.xs.length) (hbig : TBig o.place) (hp : Rs G L intT o.path.v o.path.xs) (hpl : o.path.xs.length ≤ 100) (hn : 0 ≤ n ∧ n.toNat < (elems (gd l.cells.xs o.cell.toNat).insts.xs).length)
   (k : ∀ v', R (.tuple #[vT occT ⟨(gd (elems (gd l.cells.xs o.cell.toNat).insts.xs) n.toNat).cell, cmpT (gd (elems (gd l.cells.xs o.cell.toNat).insts.xs) n.toNat).place o.place, ⟨v', [] ++ o.path.xs ++ [n]⟩⟩, .bool true]) G (osl 2 intT v' ([] ++ o.path.xs ++ [n]) :: L)) : CallT Tryz.prog 117 #[vT libT l, vT occT o, vi n] G L R := by
 have hE := erCls_len l.cells.xs
 have hce := erCl_insts (xs := l.cells.xs) (i := o.cell.toNat) hcl.2
 have hns : okNs (gd l.cells.xs o.cell.toNat).insts.xs := by rw [← hce]; exact okLib_ns hok (by omega)
 obtain ⟨hn8, kk, h2⟩ := id hns
 have hbe := elem_bd hok (k := o.cell.toNat) (by omega) (i := n.toNat) (by rw [hce]; exact hn.2)
 rw [hce] at hbe
 have hEl : (elems (gd l.cells.xs o.cell.toNat).insts.xs).length ≤ 128 := by rw [← hce]; exact elems_len_bd hok (by omega)
 have hb1 := hbe.2.1
 have hb2 : (-1000 ≤ (gd (elems (gd l.cells.xs o.cell.toNat).insts.xs) n.toNat).place.x ∧ (gd (elems (gd l.cells.xs o.cell.toNat).insts.xs) n.toNat).place.x ≤ 1000) ∧ -1000 ≤ (gd (elems (gd l.cells.xs o.cell.toNat).insts.xs) n.toNat).place.y ∧ (gd (elems (gd l.cells.xs o.cell.toNat).insts.xs) n.toNat).place.y ≤ 1000 := by omega
 refine CallT.enter (args := _) Tryz.func117 rfl rfl (by kernel_rfl) rfl ?_
 refine WP.seq (WP.region ?_)
 refine RG.ot rfl (OT.box (cs := libT.enc l) rfl rfl rfl fun b3 => ?_)
 refine RG.ot rfl (OT.box (cs := occT.enc o) rfl rfl rfl fun b4 => ?_)
 refine RG.ot rfl (OT.alloc rfl Zr97 fun b6 => ?_)
 refine RG.br rfl rfl rfl (RG.nil (WP.seq (WP.region (RG.pv rfl (PV.field rfl Fo35_0 rfl) (RG.pv rfl (PV.load1 rfl Sc33 rfl (Rd.blk rfl)) (RG.pv rfl (PV.field rfl Fo97_0 rfl) (RG.pv rfl (PV.load1 rfl Sc2 rfl (Rd.blk rfl)) ?_)))))))
 refine RG.pv rfl (PV.idxS (j := o.cell.toNat) rfl Is33 rfl (SlF.r hL.c) rfl (by omega) (by omega)) (RG.pv rfl (PV.field rfl Fo115_3 rfl) (RG.pv rfl (PV.loadF rfl Sc113 rfl rfl (El.r hL.c (getG (by omega))) rfl) (RG.pv rfl (PV.asg rfl rfl) (RG.nil (WP.seq (WP.region (RG.ml rfl rfl rfl ?_)))))))
 refine RG.mr rfl rfl rfl (RG.nil (WP.seq (WP.seq (WP.region (RG.mr rfl rfl rfl (RG.nil (WP.block ?_)))))))
 refine WP.loop2 [2, 4, 6, 8] (fun (i : Nat) (rest : Int) => i ≤ (gd l.cells.xs o.cell.toNat).insts.xs.length ∧ 0 ≤ rest ∧ n = ((elems ((gd l.cells.xs o.cell.toNat).insts.xs.take i)).length : Int) + rest) (fun (i : Nat) (rest : Int) => [(10, vi i), (9, vi rest)]) (fun (i : Nat) (rest : Int) => blk b3 35 (libT.enc l) :: blk b4 97 (occT.enc o) :: blk b6 97 [vi 0, vi 0, vi 0, vi 0, .slice none 0 0] :: L) (fun (i : Nat) (rest : Int) => (gd l.cells.xs o.cell.toNat).insts.xs.length - i) 0 n ⟨by omega, by omega, by simp [elems]⟩ ⟨rfl, rfl, trivial⟩ Cv.p ?_
 rintro i rest τ ⟨hi, h0, hre⟩
 refine WP.seq (WP.seq (WP.region (RG.ml rfl rfl rfl (RG.pv rfl (PV.move rfl rfl) (RG.pv rfl (PV.len rfl Tryz.underlying113 rfl (SlF.r (hL.na hcl.2))) (RG.pv rfl (PV.lss rfl rfl rfl) (RG.bl rfl rfl rfl ?_)))))))
 refine RG.gs rfl rfl rfl (fun hp => (PV.mvI (.inl rfl) rfl)) ?_
 refine RG.gs rfl rfl rfl (fun hp => (PV.geq rfl (gs_t hp) rfl)) ?_
 refine RG.pv rfl (PV.pickA rfl rfl (fun hq => gs_t (geqT hq)) rfl) (RG.nil ?_)
 refine WP.cond rfl (fun h3 => ?_) (fun h3 => ?_)
 · have h3 : i < (gd l.cells.xs o.cell.toNat).insts.xs.length := by simp only [Bool.and_eq_true, decide_eq_true_eq] at h3; omega
   obtain ⟨z1, z2, z3⟩ := elems_cnt hns h3
   refine WP.skip (WP.seq (WP.block (WP.seq ?_)))
   refine WP.regionQ (by kernel_rfl) (by kernel_rfl) ?_
   refine RQ.pv rfl (PV.move rfl rfl) ?_
   refine RQ.pv rfl (PV.mvI (.inl rfl) rfl) ?_
   refine RQ.pv rfl (PV.idxS rfl Is113 rfl (SlF.r (hL.na hcl.2)) rfl rfl (by omega)) ?_
   refine RQ.pv rfl (PV.field rfl Fo173_2 rfl) ?_
   refine RQ.pv rfl (PV.loadF rfl Sc2 rfl rfl (El.r (hL.na hcl.2) (getG (by omega))) rfl) ?_
   refine RQ.pv rfl (PV.move rfl rfl) ?_
   refine RQ.pv rfl (PV.mvI (.inl rfl) rfl) ?_
   refine RQ.pv rfl (PV.idxS rfl Is113 rfl (SlF.r (hL.na hcl.2)) rfl rfl (by omega)) ?_
   refine RQ.pv rfl (PV.field rfl Fo173_3 rfl) ?_
   refine RQ.pv rfl (PV.loadF rfl Sc2 rfl rfl (El.r (hL.na hcl.2) (getG (by omega))) rfl) ?_
   refine RQ.pv rfl (PV.mul rfl rfl rfl (by omega)) ?_
   refine RQ.pv rfl (PV.mvI (.inr rfl) rfl) ?_
   refine RQ.nil ?_
   refine WP.seq (WP.seq (WP.region (RG.ml rfl rfl rfl (RG.ml rfl rfl rfl (RG.pv rfl (PV.lss rfl rfl rfl) (RG.nil ?_))))))
   refine WP.cond rfl (fun h4 => ?_) (fun h4 => ?_)
   · have h4 := of_decide_eq_true h4
     obtain ⟨q1, q2, q3⟩ := step_found hns h3 h0 h4 hre
     obtain ⟨_, _, q4, q5, _, _⟩ := okIn_bd (h2 i h3)
     rw [q3] at hb1 hb2 k
     simp only at hb1 hb2 k
     refine WP.cut1 [2, 4, 6, 8, 10] (fun (b12 : Nat) => True) (fun (b12 : Nat) => [(12, .pointer (some ⟨b12, 0, none⟩))]) (fun (b12 : Nat) => blk b12 95 (transT.enc (elPlace (gd (gd l.cells.xs o.cell.toNat).insts.xs i) (rest % (gd (gd l.cells.xs o.cell.toNat).insts.xs i).cols) (rest / (gd (gd l.cells.xs o.cell.toNat).insts.xs i).cols))) :: blk b3 35 (libT.enc l) :: blk b4 97 (occT.enc o) :: blk b6 97 [vi 0, vi 0, vi 0, vi 0, .slice none 0 0] :: L) ?_ ?_
     refine WP.regionH0 (.q 0 (.q 1 (.q 2 (.q 3 (.q 4 (.q 5 (.q 6 (.q 7 (.q 8 (.q 9 (.q 10 (.q 11 (.q 12 (.q 13 (.q 14 (.q 15 (.q 16 (.q 17 (.b 18 (.l 19 (.l 20 Sch.nil)) 19 (.l 18 (.l 20 Sch.nil))))))))))))))))))))) (by kernel_rfl) (by kernel_rfl) (by kernel_rfl) rfl ?_
     refine RH.pv rfl (fun _ _ _ _ h => h) (Gh.le_refl _) PickC.pick rfl (PV.move rfl rfl) ?_
     refine RH.pv rfl (fun _ _ _ _ h => h) (Gh.le_refl _) PickC.pick rfl (PV.mvI (.inl rfl) rfl) ?_
     refine RH.pv rfl (fun _ _ _ _ h => h) (Gh.le_refl _) PickC.pick rfl (PV.idxS rfl Is113 rfl (SlF.r (hL.na hcl.2)) rfl rfl (by omega)) ?_
     refine RH.pv rfl (fun _ _ _ _ h => h) (Gh.le_refl _) PickC.pick rfl (PV.loadE rfl Ag173 rfl rfl (El.r (hL.na hcl.2) (getG (by omega)))) ?_
     refine RH.pv rfl (fun _ _ _ _ h => h) (Gh.le_refl _) PickC.pick rfl (PV.mvI (.inl rfl) rfl) ?_
     refine RH.pv rfl (fun _ _ _ _ h => h) (Gh.le_refl _) PickC.pick rfl (PV.move rfl rfl) ?_
     refine RH.pv rfl (fun _ _ _ _ h => h) (Gh.le_refl _) PickC.pick rfl (PV.mvI (.inl rfl) rfl) ?_
     refine RH.pv rfl (fun _ _ _ _ h => h) (Gh.le_refl _) PickC.pick rfl (PV.idxS rfl Is113 rfl (SlF.r (hL.na hcl.2)) rfl rfl (by omega)) ?_
     refine RH.pv rfl (fun _ _ _ _ h => h) (Gh.le_refl _) PickC.pick rfl (PV.field rfl Fo173_2 rfl) ?_
     refine RH.pv rfl (fun _ _ _ _ h => h) (Gh.le_refl _) PickC.pick rfl (PV.loadF rfl Sc2 rfl rfl (El.r (hL.na hcl.2) (getG (by omega))) rfl) ?_
     refine RH.pv rfl (fun _ _ _ _ h => h) (Gh.le_refl _) PickC.pick rfl (PV.rem rfl rfl rfl (by omega) (by omega) (by omega)) ?_
     refine RH.pv rfl (fun _ _ _ _ h => h) (Gh.le_refl _) PickC.pick rfl (PV.mvI (.inl rfl) rfl) ?_
     refine RH.pv rfl (fun _ _ _ _ h => h) (Gh.le_refl _) PickC.pick rfl (PV.move rfl rfl) ?_
     refine RH.pv rfl (fun _ _ _ _ h => h) (Gh.le_refl _) PickC.pick rfl (PV.mvI (.inl rfl) rfl) ?_
     refine RH.pv rfl (fun _ _ _ _ h => h) (Gh.le_refl _) PickC.pick rfl (PV.idxS rfl Is113 rfl (SlF.r (hL.na hcl.2)) rfl rfl (by omega)) ?_
     refine RH.pv rfl (fun _ _ _ _ h => h) (Gh.le_refl _) PickC.pick rfl (PV.field rfl Fo173_2 rfl) ?_
     refine RH.pv rfl (fun _ _ _ _ h => h) (Gh.le_refl _) PickC.pick rfl (PV.loadF rfl Sc2 rfl rfl (El.r (hL.na hcl.2) (getG (by omega))) rfl) ?_
     refine RH.pv rfl (fun _ _ _ _ h => h) (Gh.le_refl _) PickC.pick rfl (PV.quo rfl rfl rfl (by omega) (by omega) (by omega)) ?_
     · refine RH.ot2 rfl rfl rfl rfl  (OT.callF (vs := [_, _, _]) rfl En197 rfl (elPlaceI_r (h2 i (by omega)) q1 q2 ⟨Gh.le_refl _, PickC.pick, ?_⟩)) (OT.alloc rfl Zr95 fun b12 => ⟨Gh.le_refl _, PickC.pick, ?_⟩)
       · refine RH.ot rfl rfl (OT.alloc rfl Zr95 fun b12 => ⟨Gh.le_refl _, PickC.pick, ?_⟩)
         refine RH.ot rfl rfl (OT.storeW (vs := [vi _, vi _, vi _]) rfl Sz95 rfl rfl (Cl.c rfl) rfl rfl (OneC.c rfl) ⟨Gh.le_refl _, PickC.pick, ?_⟩)
         refine RH.nil ?_
         exact ⟨rfl, b12, trivial, ⟨rfl, trivial⟩, ⟨rfl, rfl, rfl, rfl, rfl, trivial⟩, Cv.p⟩
       · refine RH.ot rfl rfl (OT.callF (vs := [_, _, _]) rfl En197 rfl (elPlaceI_r (h2 i (by omega)) q1 q2 ⟨Gh.le_refl _, PickC.pick, ?_⟩))
         refine RH.ot rfl rfl (OT.storeW (vs := [vi _, vi _, vi _]) rfl Sz95 rfl rfl (Cl.c rfl) rfl rfl (OneC.c rfl) ⟨Gh.le_refl _, PickC.pick, ?_⟩)
         refine RH.nil ?_
         exact ⟨rfl, b12, trivial, ⟨rfl, trivial⟩, ⟨rfl, rfl, rfl, rfl, rfl, trivial⟩, Cv.p⟩
     rintro b12 τ1 -
     refine WP.cut1 [6] (fun (v79 : Value) => True) (fun (v79 : Value) => [(7, .bool true)]) (fun (v79 : Value) => blk b6 97 (occT.enc ⟨(gd (gd l.cells.xs o.cell.toNat).insts.xs i).cell, cmpT (elPlace (gd (gd l.cells.xs o.cell.toNat).insts.xs i) (rest % (gd (gd l.cells.xs o.cell.toNat).insts.xs i).cols) (rest / (gd (gd l.cells.xs o.cell.toNat).insts.xs i).cols)) o.place, ⟨v79, [] ++ o.path.xs ++ [n]⟩⟩) :: osl 2 intT v79 ([] ++ o.path.xs ++ [n]) :: L) ?_ ?_
     refine WP.regionHD [.b b6] (.q 0 (.q 1 (.q 2 (.q 3 (.q 4 (.q 5 (.q 6 (.q 7 (.q 10 (.q 11 (.q 13 (.c 8 (.b 9 (.b 12 (.l 14 (.l 15 (.q 16 (.l 17 (.q 18 Sch.nil))))) 14 (.l 12 (.l 15 (.q 16 (.l 17 (.q 18 Sch.nil)))))) 14 (.l 9 (.l 12 (.l 15 (.q 16 (.l 17 (.q 18 Sch.nil))))))) 9 (.b 8 (.b 12 (.l 14 (.l 15 (.q 16 (.l 17 (.q 18 Sch.nil))))) 14 (.l 12 (.l 15 (.q 16 (.l 17 (.q 18 Sch.nil)))))) 14 (.l 8 (.l 12 (.l 15 (.q 16 (.l 17 (.q 18 Sch.nil))))))) 14 (.b 8 (.l 9 (.l 12 (.l 15 (.q 16 (.l 17 (.q 18 Sch.nil)))))) 9 (.l 8 (.l 12 (.l 15 (.q 16 (.l 17 (.q 18 Sch.nil))))))))))))))))))) (by kernel_rfl) (by kernel_rfl) (by kernel_rfl) rfl ?_
     refine RH.pv rfl (fun _ _ _ _ h => h) (Gh.le_refl _) PickC.pick rfl (PV.move rfl rfl) ?_
     refine RH.pv rfl (fun _ _ _ _ h => h) (Gh.le_refl _) PickC.pick rfl (PV.mvI (.inl rfl) rfl) ?_
     refine RH.pv rfl (fun _ _ _ _ h => h) (Gh.le_refl _) PickC.pick rfl (PV.idxS rfl Is113 rfl (SlF.r (hL.na hcl.2)) rfl rfl (by omega)) ?_
     refine RH.pv rfl (fun _ _ _ _ h => h) (Gh.le_refl _) PickC.pick rfl (PV.field rfl Fo173_0 rfl) ?_
     refine RH.pv rfl (fun _ _ _ _ h => h) (Gh.le_refl _) PickC.pick rfl (PV.loadF rfl Sc2 rfl rfl (El.r (hL.na hcl.2) (getG (by omega))) rfl) ?_
     refine RH.pv rfl (fun _ _ _ _ h => h) (Gh.le_refl _) PickC.pick rfl (PV.field rfl Fo97_1 rfl) ?_
     refine RH.pv rfl (fun _ _ _ _ h => h) (Gh.le_refl _) PickC.pick rfl (PV.loadB (vs := [_, _, _]) rfl Ag95 rfl rfl rfl) ?_
     refine RH.pv rfl (fun _ _ _ _ h => h) (Gh.le_refl _) PickC.pick rfl (PV.loadW rfl Ag95 rfl rfl) ?_
     refine RH.pv rfl (fun _ _ _ _ h => h) (Gh.le_refl _) PickC.pick rfl (PV.field rfl Fo97_2 rfl) ?_
     refine RH.pv rfl (fun _ _ _ _ h => h) (Gh.le_refl _) PickC.pick rfl (PV.load1 rfl Sc30 rfl (Rd.blk rfl)) ?_
     refine RH.pv rfl (fun _ _ _ _ h => h) (Gh.le_refl _) PickC.pick rfl (PV.mvI (.inl rfl) rfl) ?_
     · refine RH.ot3 rfl rfl rfl rfl rfl rfl  (OT.callF (vs := [_, _]) rfl En198 rfl (l10After_r hb1 hb2 hbig ⟨Gh.le_refl _, PickC.pick, ?_⟩)) (OT.bslice (F := intT) (els := []) rfl El30 rfl (by decide) rfl (by decide) trivial fun v73 => ⟨Gh.le_refl _, PickC.pick, ?_⟩) (OT.bslice (F := intT) (els := [_]) rfl El30 rfl (by decide) rfl (by decide) ⟨rfl, (Cl.c rfl), trivial⟩ fun v78 => ⟨Gh.le_refl _, PickC.pick, ?_⟩)
       · refine RH.ot2 rfl rfl rfl rfl  (OT.bslice (F := intT) (els := []) rfl El30 rfl (by decide) rfl (by decide) trivial fun v73 => ⟨Gh.le_refl _, PickC.pick, ?_⟩) (OT.bslice (F := intT) (els := [_]) rfl El30 rfl (by decide) rfl (by decide) ⟨rfl, (Cl.c rfl), trivial⟩ fun v78 => ⟨Gh.le_refl _, PickC.pick, ?_⟩)
         · refine RH.ot2 rfl rfl rfl rfl  (OT.append (v := v73) (F := intT) rfl El30 rfl (by decide) rfl rfl (Rs.up hp) (OneL.c (fun _ => rfl)) rfl (by first | omega | (simp <;> omega)) fun v76 => ⟨Gh.le_refl _, PickC.pick, ?_⟩) (OT.bslice (F := intT) (els := [_]) rfl El30 rfl (by decide) rfl (by decide) ⟨rfl, (Cl.c rfl), trivial⟩ fun v78 => ⟨Gh.le_refl _, PickC.pick, ?_⟩)
           · refine RH.ot rfl rfl (OT.bslice (F := intT) (els := [_]) rfl El30 rfl (by decide) rfl (by decide) ⟨rfl, (Cl.c rfl), trivial⟩ fun v78 => ⟨Gh.le_refl _, PickC.pick, ?_⟩)
             refine RH.ot rfl rfl (OT.append (v := v76) (u := v78) (F := intT) rfl El30 rfl (by decide) rfl rfl Rs.o (OneL.c (fun _ => rfl)) rfl (by first | omega | (simp <;> omega)) fun v79 => ⟨Gh.le_refl _, PickC.pick, ?_⟩)
             refine RH.up1 ?_
             refine RH.pv rfl (fun _ _ _ _ h => h) (Gh.le_refl _) PickC.pick rfl (PV.build (vs := [(0, [vi _]), (1, [vi _, vi _, vi _]), (2, [v79])]) (out := [_, _, _, _, _]) rfl Zr97 Pl97 ⟨rfl, (Cl.c rfl), ⟨rfl, (Cl.c rfl), ⟨rfl, (Cl.s (v := v79) SlF.o), trivial⟩⟩⟩ rfl) ?_
             refine RH.ot rfl rfl (OT.storeW (vs := [vi _, vi _, vi _, vi _, _]) rfl Sz97 rfl rfl (Cl.c rfl) rfl rfl (OneC.val rfl (OneC.val rfl (OneC.val rfl (OneC.val rfl (OneC.sl (SlF.o (v := v79)) OneC.nil))))) ⟨Gh.le_refl _, PickC.pick, ?_⟩)
             refine RH.pv rfl (fun _ _ _ _ h => h) (Gh.le_refl _) PickC.pick rfl (PV.mvB (.inr rfl) rfl) ?_
             refine RH.nil ?_
             exact ⟨rfl, v79, trivial, ⟨rfl, trivial⟩, ⟨rfl, trivial⟩, Cv.p⟩
           · refine RH.ot rfl rfl (OT.append (v := v73) (F := intT) rfl El30 rfl (by decide) rfl rfl (Rs.up hp) (OneL.c (fun _ => rfl)) rfl (by first | omega | (simp <;> omega)) fun v76 => ⟨Gh.le_refl _, PickC.pick, ?_⟩)
             refine RH.ot rfl rfl (OT.append (v := v76) (u := v78) (F := intT) rfl El30 rfl (by decide) rfl rfl Rs.o (OneL.c (fun _ => rfl)) rfl (by first | omega | (simp <;> omega)) fun v79 => ⟨Gh.le_refl _, PickC.pick, ?_⟩)
             refine RH.up1 ?_
             refine RH.pv rfl (fun _ _ _ _ h => h) (Gh.le_refl _) PickC.pick rfl (PV.build (vs := [(0, [vi _]), (1, [vi _, vi _, vi _]), (2, [v79])]) (out := [_, _, _, _, _]) rfl Zr97 Pl97 ⟨rfl, (Cl.c rfl), ⟨rfl, (Cl.c rfl), ⟨rfl, (Cl.s (v := v79) SlF.o), trivial⟩⟩⟩ rfl) ?_
             refine RH.ot rfl rfl (OT.storeW (vs := [vi _, vi _, vi _, vi _, _]) rfl Sz97 rfl rfl (Cl.c rfl) rfl rfl (OneC.val rfl (OneC.val rfl (OneC.val rfl (OneC.val rfl (OneC.sl (SlF.o (v := v79)) OneC.nil))))) ⟨Gh.le_refl _, PickC.pick, ?_⟩)
             refine RH.pv rfl (fun _ _ _ _ h => h) (Gh.le_refl _) PickC.pick rfl (PV.mvB (.inr rfl) rfl) ?_
             refine RH.nil ?_
             exact ⟨rfl, v79, trivial, ⟨rfl, trivial⟩, ⟨rfl, trivial⟩, Cv.p⟩
         · refine RH.ot rfl rfl (OT.bslice (F := intT) (els := []) rfl El30 rfl (by decide) rfl (by decide) trivial fun v73 => ⟨Gh.le_refl _, PickC.pick, ?_⟩)
           refine RH.ot rfl rfl (OT.append (v := v73) (F := intT) rfl El30 rfl (by decide) rfl rfl (Rs.up hp) (OneL.c (fun _ => rfl)) rfl (by first | omega | (simp <;> omega)) fun v76 => ⟨Gh.le_refl _, PickC.pick, ?_⟩)
           refine RH.ot rfl rfl (OT.append (v := v76) (u := v78) (F := intT) rfl El30 rfl (by decide) rfl rfl Rs.o (OneL.c (fun _ => rfl)) rfl (by first | omega | (simp <;> omega)) fun v79 => ⟨Gh.le_refl _, PickC.pick, ?_⟩)
           refine RH.up1 ?_
           refine RH.pv rfl (fun _ _ _ _ h => h) (Gh.le_refl _) PickC.pick rfl (PV.build (vs := [(0, [vi _]), (1, [vi _, vi _, vi _]), (2, [v79])]) (out := [_, _, _, _, _]) rfl Zr97 Pl97 ⟨rfl, (Cl.c rfl), ⟨rfl, (Cl.c rfl), ⟨rfl, (Cl.s (v := v79) SlF.o), trivial⟩⟩⟩ rfl) ?_
           refine RH.ot rfl rfl (OT.storeW (vs := [vi _, vi _, vi _, vi _, _]) rfl Sz97 rfl rfl (Cl.c rfl) rfl rfl (OneC.val rfl (OneC.val rfl (OneC.val rfl (OneC.val rfl (OneC.sl (SlF.o (v := v79)) OneC.nil))))) ⟨Gh.le_refl _, PickC.pick, ?_⟩)
           refine RH.pv rfl (fun _ _ _ _ h => h) (Gh.le_refl _) PickC.pick rfl (PV.mvB (.inr rfl) rfl) ?_
           refine RH.nil ?_
           exact ⟨rfl, v79, trivial, ⟨rfl, trivial⟩, ⟨rfl, trivial⟩, Cv.p⟩
       · refine RH.ot2 rfl rfl rfl rfl  (OT.callF (vs := [_, _]) rfl En198 rfl (l10After_r hb1 hb2 hbig ⟨Gh.le_refl _, PickC.pick, ?_⟩)) (OT.bslice (F := intT) (els := [_]) rfl El30 rfl (by decide) rfl (by decide) ⟨rfl, (Cl.c rfl), trivial⟩ fun v78 => ⟨Gh.le_refl _, PickC.pick, ?_⟩)
         · refine RH.ot2 rfl rfl rfl rfl  (OT.append (v := v73) (F := intT) rfl El30 rfl (by decide) rfl rfl (Rs.up hp) (OneL.c (fun _ => rfl)) rfl (by first | omega | (simp <;> omega)) fun v76 => ⟨Gh.le_refl _, PickC.pick, ?_⟩) (OT.bslice (F := intT) (els := [_]) rfl El30 rfl (by decide) rfl (by decide) ⟨rfl, (Cl.c rfl), trivial⟩ fun v78 => ⟨Gh.le_refl _, PickC.pick, ?_⟩)
           · refine RH.ot rfl rfl (OT.bslice (F := intT) (els := [_]) rfl El30 rfl (by decide) rfl (by decide) ⟨rfl, (Cl.c rfl), trivial⟩ fun v78 => ⟨Gh.le_refl _, PickC.pick, ?_⟩)
             refine RH.ot rfl rfl (OT.append (v := v76) (u := v78) (F := intT) rfl El30 rfl (by decide) rfl rfl Rs.o (OneL.c (fun _ => rfl)) rfl (by first | omega | (simp <;> omega)) fun v79 => ⟨Gh.le_refl _, PickC.pick, ?_⟩)
             refine RH.up1 ?_
             refine RH.pv rfl (fun _ _ _ _ h => h) (Gh.le_refl _) PickC.pick rfl (PV.build (vs := [(0, [vi _]), (1, [vi _, vi _, vi _]), (2, [v79])]) (out := [_, _, _, _, _]) rfl Zr97 Pl97 ⟨rfl, (Cl.c rfl), ⟨rfl, (Cl.c rfl), ⟨rfl, (Cl.s (v := v79) SlF.o), trivial⟩⟩⟩ rfl) ?_
             refine RH.ot rfl rfl (OT.storeW (vs := [vi _, vi _, vi _, vi _, _]) rfl Sz97 rfl rfl (Cl.c rfl) rfl rfl (OneC.val rfl (OneC.val rfl (OneC.val rfl (OneC.val rfl (OneC.sl (SlF.o (v := v79)) OneC.nil))))) ⟨Gh.le_refl _, PickC.pick, ?_⟩)
             refine RH.pv rfl (fun _ _ _ _ h => h) (Gh.le_refl _) PickC.pick rfl (PV.mvB (.inr rfl) rfl) ?_
             refine RH.nil ?_
             exact ⟨rfl, v79, trivial, ⟨rfl, trivial⟩, ⟨rfl, trivial⟩, Cv.p⟩
           · refine RH.ot rfl rfl (OT.append (v := v73) (F := intT) rfl El30 rfl (by decide) rfl rfl (Rs.up hp) (OneL.c (fun _ => rfl)) rfl (by first | omega | (simp <;> omega)) fun v76 => ⟨Gh.le_refl _, PickC.pick, ?_⟩)
             refine RH.ot rfl rfl (OT.append (v := v76) (u := v78) (F := intT) rfl El30 rfl (by decide) rfl rfl Rs.o (OneL.c (fun _ => rfl)) rfl (by first | omega | (simp <;> omega)) fun v79 => ⟨Gh.le_refl _, PickC.pick, ?_⟩)
             refine RH.up1 ?_
             refine RH.pv rfl (fun _ _ _ _ h => h) (Gh.le_refl _) PickC.pick rfl (PV.build (vs := [(0, [vi _]), (1, [vi _, vi _, vi _]), (2, [v79])]) (out := [_, _, _, _, _]) rfl Zr97 Pl97 ⟨rfl, (Cl.c rfl), ⟨rfl, (Cl.c rfl), ⟨rfl, (Cl.s (v := v79) SlF.o), trivial⟩⟩⟩ rfl) ?_
             refine RH.ot rfl rfl (OT.storeW (vs := [vi _, vi _, vi _, vi _, _]) rfl Sz97 rfl rfl (Cl.c rfl) rfl rfl (OneC.val rfl (OneC.val rfl (OneC.val rfl (OneC.val rfl (OneC.sl (SlF.o (v := v79)) OneC.nil))))) ⟨Gh.le_refl _, PickC.pick, ?_⟩)
             refine RH.pv rfl (fun _ _ _ _ h => h) (Gh.le_refl _) PickC.pick rfl (PV.mvB (.inr rfl) rfl) ?_
             refine RH.nil ?_
             exact ⟨rfl, v79, trivial, ⟨rfl, trivial⟩, ⟨rfl, trivial⟩, Cv.p⟩
         · refine RH.ot rfl rfl (OT.callF (vs := [_, _]) rfl En198 rfl (l10After_r hb1 hb2 hbig ⟨Gh.le_refl _, PickC.pick, ?_⟩))
           refine RH.ot rfl rfl (OT.append (v := v73) (F := intT) rfl El30 rfl (by decide) rfl rfl (Rs.up hp) (OneL.c (fun _ => rfl)) rfl (by first | omega | (simp <;> omega)) fun v76 => ⟨Gh.le_refl _, PickC.pick, ?_⟩)
           refine RH.ot rfl rfl (OT.append (v := v76) (u := v78) (F := intT) rfl El30 rfl (by decide) rfl rfl Rs.o (OneL.c (fun _ => rfl)) rfl (by first | omega | (simp <;> omega)) fun v79 => ⟨Gh.le_refl _, PickC.pick, ?_⟩)
           refine RH.up1 ?_
           refine RH.pv rfl (fun _ _ _ _ h => h) (Gh.le_refl _) PickC.pick rfl (PV.build (vs := [(0, [vi _]), (1, [vi _, vi _, vi _]), (2, [v79])]) (out := [_, _, _, _, _]) rfl Zr97 Pl97 ⟨rfl, (Cl.c rfl), ⟨rfl, (Cl.c rfl), ⟨rfl, (Cl.s (v := v79) SlF.o), trivial⟩⟩⟩ rfl) ?_
           refine RH.ot rfl rfl (OT.storeW (vs := [vi _, vi _, vi _, vi _, _]) rfl Sz97 rfl rfl (Cl.c rfl) rfl rfl (OneC.val rfl (OneC.val rfl (OneC.val rfl (OneC.val rfl (OneC.sl (SlF.o (v := v79)) OneC.nil))))) ⟨Gh.le_refl _, PickC.pick, ?_⟩)
           refine RH.pv rfl (fun _ _ _ _ h => h) (Gh.le_refl _) PickC.pick rfl (PV.mvB (.inr rfl) rfl) ?_
           refine RH.nil ?_
           exact ⟨rfl, v79, trivial, ⟨rfl, trivial⟩, ⟨rfl, trivial⟩, Cv.p⟩
       · refine RH.ot2 rfl rfl rfl rfl  (OT.callF (vs := [_, _]) rfl En198 rfl (l10After_r hb1 hb2 hbig ⟨Gh.le_refl _, PickC.pick, ?_⟩)) (OT.bslice (F := intT) (els := []) rfl El30 rfl (by decide) rfl (by decide) trivial fun v73 => ⟨Gh.le_refl _, PickC.pick, ?_⟩)
         · refine RH.ot rfl rfl (OT.bslice (F := intT) (els := []) rfl El30 rfl (by decide) rfl (by decide) trivial fun v73 => ⟨Gh.le_refl _, PickC.pick, ?_⟩)
           refine RH.ot rfl rfl (OT.append (v := v73) (F := intT) rfl El30 rfl (by decide) rfl rfl (Rs.up hp) (OneL.c (fun _ => rfl)) rfl (by first | omega | (simp <;> omega)) fun v76 => ⟨Gh.le_refl _, PickC.pick, ?_⟩)
           refine RH.ot rfl rfl (OT.append (v := v76) (u := v78) (F := intT) rfl El30 rfl (by decide) rfl rfl Rs.o (OneL.c (fun _ => rfl)) rfl (by first | omega | (simp <;> omega)) fun v79 => ⟨Gh.le_refl _, PickC.pick, ?_⟩)
           refine RH.up1 ?_
           refine RH.pv rfl (fun _ _ _ _ h => h) (Gh.le_refl _) PickC.pick rfl (PV.build (vs := [(0, [vi _]), (1, [vi _, vi _, vi _]), (2, [v79])]) (out := [_, _, _, _, _]) rfl Zr97 Pl97 ⟨rfl, (Cl.c rfl), ⟨rfl, (Cl.c rfl), ⟨rfl, (Cl.s (v := v79) SlF.o), trivial⟩⟩⟩ rfl) ?_
           refine RH.ot rfl rfl (OT.storeW (vs := [vi _, vi _, vi _, vi _, _]) rfl Sz97 rfl rfl (Cl.c rfl) rfl rfl (OneC.val rfl (OneC.val rfl (OneC.val rfl (OneC.val rfl (OneC.sl (SlF.o (v := v79)) OneC.nil))))) ⟨Gh.le_refl _, PickC.pick, ?_⟩)
           refine RH.pv rfl (fun _ _ _ _ h => h) (Gh.le_refl _) PickC.pick rfl (PV.mvB (.inr rfl) rfl) ?_
           refine RH.nil ?_
           exact ⟨rfl, v79, trivial, ⟨rfl, trivial⟩, ⟨rfl, trivial⟩, Cv.p⟩
         · refine RH.ot rfl rfl (OT.callF (vs := [_, _]) rfl En198 rfl (l10After_r hb1 hb2 hbig ⟨Gh.le_refl _, PickC.pick, ?_⟩))
           refine RH.ot rfl rfl (OT.append (v := v73) (F := intT) rfl El30 rfl (by decide) rfl rfl (Rs.up hp) (OneL.c (fun _ => rfl)) rfl (by first | omega | (simp <;> omega)) fun v76 => ⟨Gh.le_refl _, PickC.pick, ?_⟩)
           refine RH.ot rfl rfl (OT.append (v := v76) (u := v78) (F := intT) rfl El30 rfl (by decide) rfl rfl Rs.o (OneL.c (fun _ => rfl)) rfl (by first | omega | (simp <;> omega)) fun v79 => ⟨Gh.le_refl _, PickC.pick, ?_⟩)
           refine RH.up1 ?_
           refine RH.pv rfl (fun _ _ _ _ h => h) (Gh.le_refl _) PickC.pick rfl (PV.build (vs := [(0, [vi _]), (1, [vi _, vi _, vi _]), (2, [v79])]) (out := [_, _, _, _, _]) rfl Zr97 Pl97 ⟨rfl, (Cl.c rfl), ⟨rfl, (Cl.c rfl), ⟨rfl, (Cl.s (v := v79) SlF.o), trivial⟩⟩⟩ rfl) ?_
           refine RH.ot rfl rfl (OT.storeW (vs := [vi _, vi _, vi _, vi _, _]) rfl Sz97 rfl rfl (Cl.c rfl) rfl rfl (OneC.val rfl (OneC.val rfl (OneC.val rfl (OneC.val rfl (OneC.sl (SlF.o (v := v79)) OneC.nil))))) ⟨Gh.le_refl _, PickC.pick, ?_⟩)
           refine RH.pv rfl (fun _ _ _ _ h => h) (Gh.le_refl _) PickC.pick rfl (PV.mvB (.inr rfl) rfl) ?_
           refine RH.nil ?_
           exact ⟨rfl, v79, trivial, ⟨rfl, trivial⟩, ⟨rfl, trivial⟩, Cv.p⟩
     · rintro v79 τ2 -
       refine WP.ret ?_
       exact ⟨_, _, ResV.two rfl (RV1.cell rfl Ag97 rfl) rfl, Cv.p, k v79⟩
   · have h4 := of_decide_eq_false h4
     refine WP.skip (WP.region (RG.ml rfl rfl rfl (RG.ml rfl rfl rfl (RG.pv rfl (PV.sub rfl rfl rfl (by omega)) (RG.mr rfl rfl rfl (RG.nil (WP.region ?_)))))))
     refine RG.ml rfl rfl rfl (RG.pv rfl (PV.add rfl rfl rfl (by omega)) (RG.mr rfl rfl rfl (RG.nil ?_)))
     exact ⟨rfl, i + 1, _, ⟨by omega, by omega, by rw [z1]; omega⟩, ⟨rfl, rfl, trivial⟩, ⟨rfl, rfl, rfl, rfl, trivial⟩, Cv.p, by omega⟩
 · exfalso
   have hle : i = (gd l.cells.xs o.cell.toNat).insts.xs.length := by
     simp only [Bool.and_eq_false_iff, decide_eq_false_iff_not] at h3; omega
   rw [List.take_of_length_le (by omega)] at hre
   omega
end Go.Proofs.YtgphjofccckloaaGreat
namespace Go.Proofs.YtgphjofccckloaaGreat
set_option linter.unusedVariables false
set_option linter.unusedSimpArgs false
open Go
set_option maxRecDepth 20000
set_option maxHeartbeats 1000000
set_option linter.unusedSimpArgs false
variable {G : Gh} {L : List Ch} {R : Value → Gh → List Ch → Prop}
theorem step0_s {l : Lib} {cell n : Int} (hL : RLib G L l.cells.v l.cells.xs) (hok : okLib (erCls l.cells.xs) = true) (hcl : 0 ≤ cell ∧ cell.toNat < l.cells.xs.length) (hn : 0 ≤ n ∧ n.toNat < (elems (gd l.cells.xs cell.toNat).insts.xs).length)
   (k : ∀ v', R (.tuple #[vT occT ⟨(gd (elems (gd l.cells.xs cell.toNat).insts.xs) n.toNat).cell, cmpT (gd (elems (gd l.cells.xs cell.toNat).insts.xs) n.toNat).place ⟨0, 0, 0⟩, ⟨v', [n]⟩⟩, .bool true]) G (osl 2 intT v' [n] :: L)) : CallT Tryz.prog 117 #[vT libT l, vT occT ⟨cell, ⟨0, 0, 0⟩, ⟨.slice none 0 0, []⟩⟩, vi n] G L R :=
 step_s (o := ⟨cell, ⟨0, 0, 0⟩, ⟨.slice none 0 0, []⟩⟩) hL hok hcl ⟨by simp, by simp⟩ RsN (by simp) hn k
theorem path_s {l : Lib} {cell n : Int} {v : Value} (hL : RLib G L l.cells.v l.cells.xs) (hlen : lenC (erCls l.cells.xs)) (ha : AtEl l.cells.xs cell n) (h5 : Rs G L intT v [n])
   (k : ∀ w : Value, w.oneCell' = true → R (.tuple #[vT occT ⟨(gd (elems (gd l.cells.xs cell.toNat).insts.xs) n.toNat).cell, (gd (elems (gd l.cells.xs cell.toNat).insts.xs) n.toNat).place, ⟨w, [n]⟩⟩, vi 0]) G L) : CallT Tryz.prog 60 #[vT libT l, vi cell, v] G L R := by
 have hE := erCls_len l.cells.xs
 obtain ⟨hok, hc0, hc1⟩ := ha.lib
 have hnl := ha.lt
 have hn0 := ha.hn.1
 obtain ⟨he1, he2⟩ := ha.el
 have hh : hasCl (erCls l.cells.xs) cell = true := by simp [hasCl, hok, within]; omega
 have hvt : validT (gd (elems (gd l.cells.xs cell.toNat).insts.xs) n.toNat).place = true := validT_iff.2 ⟨he1, he2.1, he2.2⟩
 refine CallT.enter (args := _) Tryz.func60 rfl rfl (by kernel_rfl) rfl ?_
 refine WP.seq (WP.region ?_)
 refine RG.ot rfl (OT.box (cs := libT.enc l) rfl rfl rfl fun b3 => ?_)
 refine RG.ot rfl (OT.alloc rfl Zr97 fun b6 => ?_)
 refine RG.mr rfl rfl rfl (RG.nil (WP.seq (WP.seq (WP.region (RG.pv rfl (PV.loadW rfl Ag35 rfl rfl) ?_)))))
 refine RG.callF (vs := [_]) rfl rfl En35 rfl (okLib_r hL.up hlen ?_)
 refine RG.pv rfl (PV.not rfl rfl) (RG.nil ?_)
 refine WP.cond rfl (fun h1 => ?_) (fun h1 => ?_)
 · exfalso; simp [hok] at h1
 refine WP.skip (WP.seq (WP.seq (WP.region (RG.pv rfl (PV.loadW rfl Ag35 rfl rfl) (RG.ml rfl rfl rfl ?_)))))
 refine RG.callF (vs := [_, _]) rfl rfl En116 rfl (hasCl_r hL.up hlen ?_)
 refine RG.pv rfl (PV.not rfl rfl) (RG.nil ?_)
 refine WP.cond rfl (fun h2 => ?_) (fun h2 => ?_)
 · exfalso; simp [hh] at h2
 refine WP.skip (WP.seq (WP.region (RG.ml rfl rfl rfl (RG.pv rfl (PV.build (vs := [(0, [vi _])]) (out := [_, _, _, _, _]) rfl Zr97 Pl97 ⟨rfl, (Cl.c rfl), trivial⟩ rfl) ?_))))
 refine RG.ot rfl (OT.alloc rfl Zr97 fun b8 => ?_)
 refine RG.ot rfl (OT.storeW (vs := [vi _, vi _, vi _, vi _, _]) rfl Sz97 rfl rfl (Cl.c rfl) rfl rfl (OneC.c rfl) ?_)
 refine RG.nil (WP.seq (WP.seq (WP.region (RG.mr rfl rfl rfl (RG.nil (WP.block ?_))))))
 refine WP.loop2 [2, 3, 6, 8] (fun (i : Nat) (o : Occ) => (i = 0 ∧ o = ⟨cell, ⟨0, 0, 0⟩, ⟨.slice none 0 0, []⟩⟩) ∨ (i = 1 ∧ o = ⟨(gd (elems (gd l.cells.xs cell.toNat).insts.xs) n.toNat).cell, (gd (elems (gd l.cells.xs cell.toNat).insts.xs) n.toNat).place, ⟨o.path.v, [n]⟩⟩ ∧ o.path.v.oneCell' = true)) (fun (i : Nat) (o : Occ) => [(9, vi i)]) (fun (i : Nat) (o : Occ) => blk b8 97 (occT.enc o) :: blk b3 35 (libT.enc l) :: blk b6 97 [vi 0, vi 0, vi 0, vi 0, .slice none 0 0] :: L) (fun (i : Nat) (o : Occ) => 1 - i) 0 ⟨cell, ⟨0, 0, 0⟩, ⟨.slice none 0 0, []⟩⟩ (.inl ⟨rfl, rfl⟩) ⟨rfl, trivial⟩ Cv.p ?_
 rintro i o τ hJ
 refine WP.seq (WP.seq (WP.region (RG.ml rfl rfl rfl (RG.pv rfl (PV.move (v := v) rfl rfl) (RG.pv rfl (PV.len (v := v) rfl Tryz.underlying30 rfl (SlF.r h5)) (RG.pv rfl (PV.lss rfl rfl rfl) (RG.nil ?_)))))))
 refine WP.cond rfl (fun h3 => ?_) (fun h3 => ?_)
 · have h3 : i < 1 := by have := of_decide_eq_true h3; simp only [List.length_cons, List.length_nil] at this; omega
   obtain ⟨rfl, rfl⟩ : i = 0 ∧ o = ⟨cell, ⟨0, 0, 0⟩, ⟨.slice none 0 0, []⟩⟩ := by
     rcases hJ with h | h
     · exact h
     · omega
   refine WP.skip (WP.seq (WP.block ?_))
   refine WP.cut2 [2, 3, 6, 8, 9] (fun (b10 : Nat) (w36 : Value) => True) (fun (b10 : Nat) (w36 : Value) => [(10, .pointer (some ⟨b10, 0, none⟩)), (11, .bool true)]) (fun (b10 : Nat) (w36 : Value) => blk b10 97 (occT.enc ⟨(gd (elems (gd l.cells.xs cell.toNat).insts.xs) n.toNat).cell, cmpT (gd (elems (gd l.cells.xs cell.toNat).insts.xs) n.toNat).place ⟨0, 0, 0⟩, ⟨w36, [n]⟩⟩) :: osl 2 intT w36 ([n]) :: blk b8 97 (occT.enc ⟨cell, ⟨0, 0, 0⟩, ⟨.slice none 0 0, []⟩⟩) :: blk b3 35 (libT.enc l) :: blk b6 97 [vi 0, vi 0, vi 0, vi 0, .slice none 0 0] :: L) ?_ ?_
   refine WP.regionH0 (.q 0 (.q 1 (.q 2 (.q 3 (.q 4 (.q 5 (.b 6 (.q 7 (.q 8 (.q 9 (.l 10 (.l 11 (.q 12 Sch.nil)))))) 10 (.l 6 (.q 7 (.q 8 (.q 9 (.l 11 (.q 12 Sch.nil))))))))))))) (by kernel_rfl) (by kernel_rfl) (by kernel_rfl) rfl ?_
   refine RH.pv rfl (fun _ _ _ _ h => h) (Gh.le_refl _) PickC.pick rfl (PV.loadW rfl Ag35 rfl rfl) ?_
   refine RH.pv rfl (fun _ _ _ _ h => h) (Gh.le_refl _) PickC.pick rfl (PV.loadW rfl Ag97 rfl rfl) ?_
   refine RH.pv rfl (fun _ _ _ _ h => h) (Gh.le_refl _) PickC.pick rfl (PV.move (v := v) rfl rfl) ?_
   refine RH.pv rfl (fun _ _ _ _ h => h) (Gh.le_refl _) PickC.pick rfl (PV.mvI (.inl rfl) rfl) ?_
   refine RH.pv rfl (fun _ _ _ _ h => h) (Gh.le_refl _) PickC.pick rfl (PV.idxS (j := 0) (v := v) rfl Is30 rfl (SlF.r h5) rfl (by first | omega | (simp only [List.length_cons, List.length_nil]; omega)) (by first | omega | (simp only [List.length_cons, List.length_nil]; omega))) ?_
   refine RH.pv rfl (fun _ _ _ _ h => h) (Gh.le_refl _) PickC.pick rfl (PV.loadE1 rfl Sc2 rfl rfl (El.r h5 rfl) rfl) ?_
   · refine RH.ot2 rfl rfl rfl rfl  (OT.callF (vs := [_, _, _]) rfl En117 rfl (step0_s hL.up hok ⟨hc0, hc1⟩ ⟨hn0, hnl⟩ (fun w36 => ⟨Gh.le_refl _, PickC.pick, ?_⟩))) (OT.alloc rfl Zr97 fun b10 => ⟨Gh.le_refl _, PickC.pick, ?_⟩)
     · refine RH.pv rfl (fun _ _ _ _ h => h) (Gh.le_refl _) PickC.pick rfl (PV.move rfl rfl) ?_
       refine RH.pv rfl (fun _ _ _ _ h => h) (Gh.le_refl _) PickC.pick rfl (PV.ext rfl rfl rfl) ?_
       refine RH.pv rfl (fun _ _ _ _ h => h) (Gh.le_refl _) PickC.pick rfl (PV.ext rfl rfl rfl) ?_
       refine RH.ot rfl rfl (OT.alloc rfl Zr97 fun b10 => ⟨Gh.le_refl _, PickC.pick, ?_⟩)
       refine RH.ot rfl rfl (OT.storeW (vs := [vi _, vi _, vi _, vi _, _]) rfl Sz97 rfl rfl (Cl.c rfl) rfl rfl (OneC.val rfl (OneC.val rfl (OneC.val rfl (OneC.val rfl (OneC.sl (SlF.o (v := w36)) OneC.nil))))) ⟨Gh.le_refl _, PickC.pick, ?_⟩)
       refine RH.pv rfl (fun _ _ _ _ h => h) (Gh.le_refl _) PickC.pick rfl (PV.mvB (.inr rfl) rfl) ?_
       refine RH.nil ?_
       exact ⟨rfl, b10, w36, trivial, ⟨rfl, rfl, trivial⟩, ⟨rfl, rfl, rfl, rfl, rfl, trivial⟩, Cv.p⟩
     · refine RH.ot rfl rfl (OT.callF (vs := [_, _, _]) rfl En117 rfl (step0_s hL.up hok ⟨hc0, hc1⟩ ⟨hn0, hnl⟩ (fun w36 => ⟨Gh.le_refl _, PickC.pick, ?_⟩)))
       refine RH.pv rfl (fun _ _ _ _ h => h) (Gh.le_refl _) PickC.pick rfl (PV.move rfl rfl) ?_
       refine RH.pv rfl (fun _ _ _ _ h => h) (Gh.le_refl _) PickC.pick rfl (PV.ext rfl rfl rfl) ?_
       refine RH.pv rfl (fun _ _ _ _ h => h) (Gh.le_refl _) PickC.pick rfl (PV.ext rfl rfl rfl) ?_
       refine RH.ot rfl rfl (OT.storeW (vs := [vi _, vi _, vi _, vi _, _]) rfl Sz97 rfl rfl (Cl.c rfl) rfl rfl (OneC.val rfl (OneC.val rfl (OneC.val rfl (OneC.val rfl (OneC.sl (SlF.o (v := w36)) OneC.nil))))) ⟨Gh.le_refl _, PickC.pick, ?_⟩)
       refine RH.pv rfl (fun _ _ _ _ h => h) (Gh.le_refl _) PickC.pick rfl (PV.mvB (.inr rfl) rfl) ?_
       refine RH.nil ?_
       exact ⟨rfl, b10, w36, trivial, ⟨rfl, rfl, trivial⟩, ⟨rfl, rfl, rfl, rfl, rfl, trivial⟩, Cv.p⟩
   rintro b10 w36 τ1 -
   refine WP.st (fun w' hs => (SlF.o (v := w36) w' hs).one) fun hw1 => ?_
   refine WP.seq (WP.seq (WP.region (RG.bl rfl rfl rfl (RG.pv rfl (PV.not rfl rfl) (RG.nil ?_)))))
   refine WP.cond rfl (fun h4 => ?_) (fun h4 => ?_)
   · exfalso; simp at h4
   refine WP.skip (WP.region (RG.pv rfl (PV.loadW rfl Ag97 rfl rfl) ?_))
   refine RG.ot rfl (OT.storeW (vs := [vi _, vi _, vi _, vi _, _]) rfl Sz97 rfl rfl (Cl.c rfl) rfl rfl (OneC.val rfl (OneC.val rfl (OneC.val rfl (OneC.val rfl (OneC.sl (SlF.o (v := w36)) OneC.nil))))) ?_)
   refine RG.nil (WP.region (RG.ml rfl rfl rfl (RG.pv rfl (PV.add rfl rfl rfl (by first | omega | (simp only [List.length_cons, List.length_nil]; omega))) (RG.mr rfl rfl rfl (RG.nil ?_)))))
   exact ⟨rfl, 1, ⟨(gd (elems (gd l.cells.xs cell.toNat).insts.xs) n.toNat).cell, cmpT (gd (elems (gd l.cells.xs cell.toNat).insts.xs) n.toNat).place ⟨0, 0, 0⟩, ⟨w36, [n]⟩⟩, (.inr ⟨rfl, by rw [cmpT_top he1], hw1⟩), ⟨rfl, trivial⟩, ⟨rfl, rfl, rfl, rfl, trivial⟩, Cv.p, by omega⟩
 · have h3 : ¬ i < 1 := by have := of_decide_eq_false h3; simp only [List.length_cons, List.length_nil] at this; omega
   obtain ⟨hi, ho, hw1⟩ : i = 1 ∧ o = ⟨(gd (elems (gd l.cells.xs cell.toNat).insts.xs) n.toNat).cell, (gd (elems (gd l.cells.xs cell.toNat).insts.xs) n.toNat).place, ⟨o.path.v, [n]⟩⟩ ∧ o.path.v.oneCell' = true := by
     rcases hJ with h | h
     · omega
     · exact h
   generalize o.path.v = w0 at ho hw1
   subst ho
   refine WP.exit ?_
   refine WP.seq (WP.seq (WP.region (RG.pv rfl (PV.field rfl Fo97_1 rfl) (RG.pv rfl (PV.loadB (vs := [_, _, _]) rfl Ag95 rfl rfl rfl) ?_))))
   refine RG.callF (vs := [_]) rfl rfl En118 rfl (l09Trans_r ?_)
   refine RG.pv rfl (PV.not rfl rfl) (RG.nil ?_)
   refine WP.cond rfl (fun h6 => ?_) (fun h6 => ?_)
   · exfalso; simp [hvt] at h6
   refine WP.skip (WP.seq (WP.region (RG.pv rfl (PV.loadW rfl Ag97 rfl rfl) ?_)))
   refine RG.ot rfl (OT.storeW (vs := [vi _, vi _, vi _, vi _, _]) rfl Sz97 rfl rfl (Cl.c rfl) rfl rfl (OneC.val rfl (OneC.val rfl (OneC.val rfl (OneC.val rfl (OneC.val hw1 OneC.nil))))) ?_)
   refine RG.mr rfl rfl rfl (RG.nil ?_)
   refine WP.ret ?_
   exact ⟨_, _, ResV.two rfl (RV1.cell rfl Ag97 rfl) rfl, Cv.p, k w0 hw1⟩
theorem any_pick {rs : List RShape} {f : Int → Bool} {g : Shape → Bool} : (rs.any fun x => f x.root && g x.shape) = (pickR rs f).any g := by
 induction rs with
 | nil => rfl
 | cons x rs ih =>
   rw [List.any_cons, ih, pickR, pickR, List.filter_cons]
   cases hf : f x.root <;> simp
theorem pick_sel {cs : List ECell} {ls : List Int} {b : Bool} {f : Int → Bool} : ∀ {os : List EOcc}, (∀ o ∈ os, f (rootOf o) = (selS ls o == b)) → pickR (rootL cs os) f = selL cs os ls b
 | [], _ => rfl
 | o :: os, h => by
   have ih := pick_sel (cs := cs) (os := os) (ls := ls) (b := b) (f := f) (fun q hq => h q (.tail _ hq))
   have h0 := h o (.head _)
   have e1 : rootL cs (o :: os) = rootAt cs o ++ rootL cs os := rfl
   have e2 : selL cs (o :: os) ls b = (if (selS ls o == b) = true then flatOf cs o else []) ++ selL cs os ls b := rfl
   rw [e1, e2, ← ih, pickR, pickR, List.filter_append, List.map_append, ← h0]
   congr 1
   rw [rootAt]
   cases hf : f (rootOf o)
   · rw [List.filter_eq_nil_iff.2 (fun x hx => by obtain ⟨s, _, rfl⟩ := List.mem_map.1 hx; simp [hf])]; simp
   · rw [List.filter_eq_self.2 (fun x hx => by obtain ⟨s, _, rfl⟩ := List.mem_map.1 hx; simp [hf])]; simp [Function.comp_def]
theorem root_one {o : EOcc} {n : Int} (hn : 0 ≤ n) : decide (rootOf o = n) = selS [n] o := by
 by_cases h : 0 < o.path.length
 · rw [rootOf_pos h, selS]
   have : (0 : Int) < o.path.length := by omega
   simp only [this, decide_true, Bool.true_and, List.any_cons, List.any_nil, Bool.or_false]
   rw [decide_eq_decide]; exact eq_comm
 · rw [rootOf_neg h, selS]
   have h1 : ¬ (0 : Int) < o.path.length := by omega
   have h2 : ¬ (-1 : Int) = n := by omega
   simp [h1, h2]
   intro hh; exact absurd hh h
theorem free_sel {xs : List Cell} {cell n reach : Int} {p : Rect} (ha : AtEl xs cell n) : (rootR (erCls xs) cell).any (nearS n reach p) = (selL (erCls xs) (occR (erCls xs) cell) [n] false).any fun s => decide (distR s.box p ≤ 2 * reach) := by
 have e2 : rootR (erCls xs) cell = rootL (erCls xs) (occR (erCls xs) cell) := by rw [rootR, decide_eq_true ha.hz]; rfl
 have e := any_pick (rs := rootL (erCls xs) (occR (erCls xs) cell)) (f := fun r => !decide (r = n)) (g := fun s => decide (distR s.box p ≤ 2 * reach))
 rw [e2, ← pick_sel (f := fun r => !decide (r = n)) (fun o _ => by rw [root_one ha.hn.1]; cases selS [n] o <;> rfl), ← e]
 rfl
theorem selL_in {xs : List Cell} {cell : Int} (hz : shE (erCls xs) cell = 0) {ls : List Int} {b : Bool} {i : Nat} (hi : i < (selL (erCls xs) (occR (erCls xs) cell) ls b).length) : validRect (gd (selL (erCls xs) (occR (erCls xs) cell) ls b) i).box = true :=
 (shE_zero hz).2 _ (selL_mem (gd_mem hi))
theorem free_r {l : Lib} {cell n reach : Int} (hL : RLib G L l.cells.v l.cells.xs) (hlen : lenC (erCls l.cells.xs)) (ha : AtEl l.cells.xs cell n) (hr : 0 ≤ reach ∧ reach ≤ 8) (k : R (.bool (freeB (erCls l.cells.xs) cell n reach)) G L) :
   CallT Tryz.prog 59 #[vT libT l, vi cell, vi n, vi reach] G L R := by
 have hE := erCls_len l.cells.xs
 obtain ⟨hok, hc0, hc1⟩ := ha.lib
 have hce := erCl_insts (xs := l.cells.xs) (i := cell.toNat) hc1
 have hnl := ha.lt
 have hn0 := ha.hn.1
 obtain ⟨he1, he2'⟩ := ha.el
 have he2 : -1000 ≤ (gd (elems (gd l.cells.xs cell.toNat).insts.xs) n.toNat).place.x ∧ (gd (elems (gd l.cells.xs cell.toNat).insts.xs) n.toNat).place.x ≤ 1000 ∧ -1000 ≤ (gd (elems (gd l.cells.xs cell.toNat).insts.xs) n.toNat).place.y ∧ (gd (elems (gd l.cells.xs cell.toNat).insts.xs) n.toNat).place.y ≤ 1000 := by omega
 refine CallT.enter (args := _) Tryz.func59 rfl rfl (by kernel_rfl) rfl ?_
 refine WP.seq (WP.region ?_)
 refine RG.ot rfl (OT.box (cs := libT.enc l) rfl rfl rfl fun b4 => ?_)
 refine RG.br rfl rfl rfl (RG.nil (WP.seq (WP.region (RG.pv rfl (PV.loadW rfl Ag35 rfl rfl) (RG.ml rfl rfl rfl (RG.ml rfl rfl rfl ?_))))))
 refine RG.ot rfl (OT.bslice (F := intT) (els := [_]) rfl El30 rfl (by decide) rfl (by decide) ⟨rfl, (Cl.c rfl), trivial⟩ fun v22 => ?_)
 refine RG.callF (vs := [_, _, v22]) rfl rfl En60 rfl (path_s hL.up hlen ha Rs.o (fun w1 hw1 => ?_))
 refine RG.pv rfl (PV.move rfl rfl) (RG.pv rfl (PV.ext rfl rfl rfl) (RG.pv rfl (PV.ext rfl rfl rfl) ?_))
 refine RG.ot rfl (OT.alloc rfl Zr97 fun b9 => ?_)
 refine RG.ot rfl (OT.storeW (vs := [vi _, vi _, vi _, vi _, _]) rfl Sz97 rfl rfl (Cl.c rfl) rfl rfl (OneC.val rfl (OneC.val rfl (OneC.val rfl (OneC.val rfl (OneC.val hw1 OneC.nil))))) ?_)
 refine RG.mr rfl rfl rfl (RG.nil (WP.seq (WP.region (RG.pv rfl (PV.loadW rfl Ag35 rfl rfl) (RG.pv rfl (PV.field rfl Fo97_0 rfl) (RG.pv rfl (PV.load1 rfl Sc2 rfl (Rd.blk rfl)) ?_))))))
 refine RG.callF (vs := [_, _]) rfl rfl En110 rfl (bnd_r hL.up hlen ?_)
 refine RG.pv rfl (PV.move rfl rfl) (RG.pv rfl (PV.ext rfl rfl rfl) (RG.pv rfl (PV.ext rfl rfl rfl) ?_))
 refine RG.ot rfl (OT.alloc rfl Zr91 fun b11 => ?_)
 refine RG.ot rfl (OT.storeW (vs := [vi _, vi _, vi _, vi _]) rfl Sz91 rfl rfl (Cl.c rfl) rfl rfl (OneC.c rfl) ?_)
 refine RG.mr rfl rfl rfl (RG.nil (WP.seq (WP.seq (WP.region (RG.ml rfl rfl rfl (RG.pv rfl (PV.neq rfl rfl rfl) (RG.nil ?_)))))))
 refine WP.cond rfl (fun h6 => ?_) (fun h6 => ?_)
 · have h6 : bndE (erCls l.cells.xs) (gd (elems (gd l.cells.xs cell.toNat).insts.xs) n.toNat).cell ≠ 0 := by simpa using h6
   have e : freeB (erCls l.cells.xs) cell n reach = false := free_no (by rw [hce]; exact h6)
   rw [e] at k
   refine WP.seq (WP.region (RG.br rfl rfl rfl (RG.nil ?_)))
   refine WP.ret ?_
   exact ⟨_, _, ResV.one rfl rfl, Cv.p, k⟩
 · have h6 : bndE (erCls l.cells.xs) (gd (elems (gd l.cells.xs cell.toNat).insts.xs) n.toNat).cell = 0 := by simpa using h6
   have hob := bndR_in h6
   have hob2 := RIn_big hob
   have hpb := moveR_big hob he1 (show (-1000 ≤ (gd (elems (gd l.cells.xs cell.toNat).insts.xs) n.toNat).place.x ∧ (gd (elems (gd l.cells.xs cell.toNat).insts.xs) n.toNat).place.x ≤ 1000) ∧ -1000 ≤ (gd (elems (gd l.cells.xs cell.toNat).insts.xs) n.toNat).place.y ∧ (gd (elems (gd l.cells.xs cell.toNat).insts.xs) n.toNat).place.y ≤ 1000 by omega)
   have hfe : freeB (erCls l.cells.xs) cell n reach = ((validRect (wideR (bndR (erCls l.cells.xs) (gd (elems (gd l.cells.xs cell.toNat).insts.xs) n.toNat).cell) reach) && validRect (wideR (moveR (gd (elems (gd l.cells.xs cell.toNat).insts.xs) n.toNat).place (bndR (erCls l.cells.xs) (gd (elems (gd l.cells.xs cell.toNat).insts.xs) n.toNat).cell)) reach)) && !((selL (erCls l.cells.xs) (occR (erCls l.cells.xs) cell) [n] false).any fun s => decide (distR s.box (moveR (gd (elems (gd l.cells.xs cell.toNat).insts.xs) n.toNat).place (bndR (erCls l.cells.xs) (gd (elems (gd l.cells.xs cell.toNat).insts.xs) n.toNat).cell)) ≤ 2 * reach))) := by
     rw [← free_sel ha]
     have e2 : rootR (erCls l.cells.xs) cell = rootL (erCls l.cells.xs) (occR (erCls l.cells.xs) cell) := by rw [rootR, decide_eq_true ha.hz]; rfl
     simp only [freeB, hce, decide_eq_true h6, Bool.true_and, e2]
   refine WP.skip (WP.seq (WP.region (RG.pv rfl (PV.field rfl Fo97_1 rfl) (RG.pv rfl (PV.loadB (vs := [_, _, _]) rfl Ag95 rfl rfl rfl) (RG.pv rfl (PV.loadW rfl Ag91 rfl rfl) ?_)))))
   refine RG.callF (vs := [_, _]) rfl rfl En111 rfl (moveRect_r he1 he2 hob ?_)
   refine RG.ot rfl (OT.alloc rfl Zr91 fun b13 => ?_)
   refine RG.ot rfl (OT.storeW (vs := [vi _, vi _, vi _, vi _]) rfl Sz91 rfl rfl (Cl.c rfl) rfl rfl (OneC.c rfl) ?_)
   refine RG.nil (WP.seq (WP.seq (WP.region (RG.pv rfl (PV.loadW rfl Ag91 rfl rfl) (RG.ml rfl rfl rfl ?_)))))
   refine RG.callF (vs := [_, _]) rfl rfl En113 rfl (wide_s hob2 (by omega) ?_)
   refine RG.callF (vs := [_]) rfl rfl En112 rfl (validRect_s' ?_)
   refine RG.pv rfl (PV.not rfl rfl) (RG.bl rfl rfl rfl ?_)
   refine RG.gs rfl rfl rfl (fun hp => (PV.loadW rfl Ag91 rfl rfl)) ?_
   refine RG.gs rfl rfl rfl (fun hp => (PV.mvI (.inl rfl) rfl)) ?_
   refine RG.gsC rfl rfl rfl rfl En113 (fun hp => ⟨_, (acons (gs_t hp) (acons (gs_t hp) anil)), wide_s hpb (by omega) ⟨rfl, rfl, rfl⟩⟩) ?_
   refine RG.gsC rfl rfl rfl rfl En112 (fun hp => ⟨_, (acons (gs_t hp) anil), validRect_s' ⟨rfl, rfl, rfl⟩⟩) ?_
   refine RG.gs rfl rfl rfl (fun hp => (PV.not rfl (gs_t hp))) ?_
   refine RG.pv rfl (PV.pickO rfl rfl rfl (fun hq => gs_t (geqF hq))) (RG.nil ?_)
   refine WP.cond rfl (fun h7 => ?_) (fun h7 => ?_)
   · have e : freeB (erCls l.cells.xs) cell n reach = false := by
       rw [hfe]
       simp only [Bool.or_eq_true, Bool.not_eq_true'] at h7
       rcases h7 with h | h
       · rw [show validRect (wideR (bndR (erCls l.cells.xs) (gd (elems (gd l.cells.xs cell.toNat).insts.xs) n.toNat).cell) reach) = false from h]; rfl
       · rw [show validRect (wideR (moveR (gd (elems (gd l.cells.xs cell.toNat).insts.xs) n.toNat).place (bndR (erCls l.cells.xs) (gd (elems (gd l.cells.xs cell.toNat).insts.xs) n.toNat).cell)) reach) = false from h, Bool.and_false]; rfl
     rw [e] at k
     refine WP.seq (WP.region (RG.br rfl rfl rfl (RG.nil ?_)))
     refine WP.ret ?_
     exact ⟨_, _, ResV.one rfl rfl, Cv.p, k⟩
   · simp only [Bool.or_eq_false_iff, Bool.not_eq_false'] at h7
     rw [show validRect (wideR (bndR (erCls l.cells.xs) (gd (elems (gd l.cells.xs cell.toNat).insts.xs) n.toNat).cell) reach) = true from h7.1, show validRect (wideR (moveR (gd (elems (gd l.cells.xs cell.toNat).insts.xs) n.toNat).place (bndR (erCls l.cells.xs) (gd (elems (gd l.cells.xs cell.toNat).insts.xs) n.toNat).cell)) reach) = true from h7.2, Bool.true_and, Bool.true_and] at hfe
     obtain ⟨⟨z1, z2, z3⟩, z4, z5, z6⟩ := id hpb
     refine WP.skip (WP.seq (WP.region (RG.pv rfl (PV.loadW rfl Ag91 rfl rfl) (RG.ml rfl rfl rfl (RG.pv rfl (PV.mul rfl rfl rfl (by omega)) ?_)))))
     refine RG.callF (vs := [_, _]) rfl rfl En113 rfl (wide_s hpb (by omega) ?_)
     refine RG.ot rfl (OT.alloc rfl Zr91 fun b14 => ?_)
     refine RG.ot rfl (OT.storeW (vs := [vi _, vi _, vi _, vi _]) rfl Sz91 rfl rfl (Cl.c rfl) rfl rfl (OneC.c rfl) ?_)
     refine RG.nil (WP.seq (WP.region (RG.pv rfl (PV.loadW rfl Ag35 rfl rfl) (RG.ml rfl rfl rfl (RG.ml rfl rfl rfl ?_)))))
     refine RG.ot rfl (OT.bslice (F := intT) (els := [_]) rfl El30 rfl (by decide) rfl (by decide) ⟨rfl, (Cl.c rfl), trivial⟩ fun v58 => ?_)
     refine RG.callF (vs := [_, _, v58, _]) rfl rfl En114 rfl (l21Shapes_s hL.up hlen Rs.o (fun v59 => ?_))
     refine RG.pv rfl (PV.asg (v := v59) rfl rfl) (RG.nil (WP.seq (WP.seq (WP.region (RG.mr rfl rfl rfl (RG.nil (WP.block ?_)))))))
     refine WP.bdo v59 fun hbz => ?_
     refine WP.loop1 [14, 15] (fun i => i ≤ (selL (erCls l.cells.xs) (occR (erCls l.cells.xs) cell) [n] false).length ∧ ∀ j, j < i → decide (distR (gd (selL (erCls l.cells.xs) (occR (erCls l.cells.xs) cell) [n] false) j).box (moveR (gd (elems (gd l.cells.xs cell.toNat).insts.xs) n.toNat).place (bndR (erCls l.cells.xs) (gd (elems (gd l.cells.xs cell.toNat).insts.xs) n.toNat).cell)) ≤ 2 * reach) = false) (fun i => [(16, vi i)]) (fun i => osl 155 shapeT v59 (selL (erCls l.cells.xs) (occR (erCls l.cells.xs) cell) [n] false) :: blk b14 91 (rectT.enc (wideR (moveR (gd (elems (gd l.cells.xs cell.toNat).insts.xs) n.toNat).place (bndR (erCls l.cells.xs) (gd (elems (gd l.cells.xs cell.toNat).insts.xs) n.toNat).cell)) (2 * reach))) :: L) (fun i => (selL (erCls l.cells.xs) (occR (erCls l.cells.xs) cell) [n] false).length - i) 0 ⟨by omega, fun j h => by omega⟩ ⟨rfl, trivial⟩ Cv.p ?_
     rintro i τ ⟨hi, hj⟩
     refine WP.seq (WP.seq (WP.region (RG.ml rfl rfl rfl (RG.pv rfl (PV.move (v := v59) rfl rfl) (RG.pv rfl (PV.len (v := v59) rfl Tryz.underlying111 rfl SlF.o) (RG.pv rfl (PV.lss rfl rfl rfl) (RG.nil ?_)))))))
     refine WP.cond rfl (fun h8 => ?_) (fun h8 => ?_)
     · have h8 := of_decide_eq_true h8
       have hin := validR_in (selL_in ha.hz (ls := [n]) (b := false) (i := i) (by omega))
       have hsb := RIn_big hin
       obtain ⟨y1, y2, y3, y4, y5, y6⟩ := id hin
       have hns := near_span (q := reach) hsb hpb hr.1
       refine WP.skip (WP.seq (WP.block (WP.seq (WP.region (RG.pv rfl (PV.move (v := v59) rfl rfl) (RG.ml rfl rfl rfl (RG.pv rfl (PV.idxS (v := v59) rfl Is111 rfl SlF.o rfl rfl (by omega)) ?_)))))))
       refine RG.pv rfl (PV.field rfl Fo155_1 rfl) (RG.pv rfl (PV.loadEP rfl Ag91 rfl rfl (El.o (getG (by omega))) rfl) ?_)
       refine RG.ot rfl (OT.alloc rfl Zr91 fun b17 => ?_)
       refine RG.ot rfl (OT.storeW (vs := [vi _, vi _, vi _, vi _]) rfl Sz91 rfl rfl (Cl.c rfl) rfl rfl (OneC.c rfl) ?_)
       refine RG.nil (WP.seq (WP.region (RG.pv rfl (PV.field rfl Fo91_0 rfl) (RG.pv rfl (PV.load1 rfl Sc2 rfl (Rd.blk rfl)) (RG.pv rfl (PV.field rfl Fo91_2 rfl) (RG.pv rfl (PV.load1 rfl Sc2 rfl (Rd.blk rfl)) (RG.pv rfl (PV.field rfl Fo91_0 rfl) ?_)))))))
       refine RG.pv rfl (PV.load1 rfl Sc2 rfl (Rd.blk rfl)) (RG.pv rfl (PV.field rfl Fo91_2 rfl) (RG.pv rfl (PV.load1 rfl Sc2 rfl (Rd.blk rfl)) ?_))
       refine RG.callF (vs := [_, _, _, _]) rfl rfl En115 rfl (span_s (by first | omega | (simp only [wideR]; omega)) (by first | omega | (simp only [wideR]; omega)) (by first | omega | (simp only [wideR]; omega)) (by first | omega | (simp only [wideR]; omega)) ?_)
       refine RG.pv rfl (PV.gtr rfl rfl rfl) (RG.bl rfl rfl rfl ?_)
       refine RG.gs rfl rfl rfl (fun hp => (PV.field rfl Fo91_1 rfl)) ?_
       refine RG.gs rfl rfl rfl (fun hp => (PV.load1 rfl Sc2 (gs_t hp) (Rd.blk rfl))) ?_
       refine RG.gs rfl rfl rfl (fun hp => (PV.field rfl Fo91_3 rfl)) ?_
       refine RG.gs rfl rfl rfl (fun hp => (PV.load1 rfl Sc2 (gs_t hp) (Rd.blk rfl))) ?_
       refine RG.gs rfl rfl rfl (fun hp => (PV.field rfl Fo91_1 rfl)) ?_
       refine RG.gs rfl rfl rfl (fun hp => (PV.load1 rfl Sc2 (gs_t hp) (Rd.blk rfl))) ?_
       refine RG.gs rfl rfl rfl (fun hp => (PV.field rfl Fo91_3 rfl)) ?_
       refine RG.gs rfl rfl rfl (fun hp => (PV.load1 rfl Sc2 (gs_t hp) (Rd.blk rfl))) ?_
       refine RG.gsC rfl rfl rfl rfl En115 (fun hp => ⟨_, (acons (gs_t hp) (acons (gs_t hp) (acons (gs_t hp) (acons (gs_t hp) anil)))), span_s (by first | omega | (simp only [wideR]; omega)) (by first | omega | (simp only [wideR]; omega)) (by first | omega | (simp only [wideR]; omega)) (by first | omega | (simp only [wideR]; omega)) ⟨rfl, rfl, rfl⟩⟩) ?_
       refine RG.gs rfl rfl rfl (fun hp => (PV.gtr rfl (gs_t hp) rfl)) ?_
       refine RG.pv rfl (PV.pickA rfl rfl (fun hq => gs_t (geqT hq)) rfl) (RG.nil ?_)
       refine WP.cond rfl (fun h9 => ?_) (fun h9 => ?_)
       · have e : freeB (erCls l.cells.xs) cell n reach = false := by
           rw [hfe, List.any_eq_true.2 ⟨gd (selL (erCls l.cells.xs) (occR (erCls l.cells.xs) cell) [n] false) i, gd_mem (by omega), by rw [hns]; exact h9⟩]; rfl
         rw [e] at k
         refine WP.seq (WP.region (RG.br rfl rfl rfl (RG.nil ?_)))
         refine WP.ret ?_
         exact ⟨_, _, ResV.one rfl rfl, Cv.p, k⟩
       · have hj' : ∀ j, j < i + 1 → decide (distR (gd (selL (erCls l.cells.xs) (occR (erCls l.cells.xs) cell) [n] false) j).box (moveR (gd (elems (gd l.cells.xs cell.toNat).insts.xs) n.toNat).place (bndR (erCls l.cells.xs) (gd (elems (gd l.cells.xs cell.toNat).insts.xs) n.toNat).cell)) ≤ 2 * reach) = false := fun j h => by
           by_cases c : j = i
           · rw [c, hns]; exact h9
           · exact hj j (by omega)
         refine WP.skip (WP.region (RG.ml rfl rfl rfl (RG.pv rfl (PV.add rfl rfl rfl (by omega)) (RG.mr rfl rfl rfl (RG.nil ?_)))))
         exact ⟨rfl, i + 1, ⟨by omega, hj'⟩, ⟨rfl, trivial⟩, ⟨rfl, rfl, trivial⟩, Cv.p, by omega⟩
     · have h8 := of_decide_eq_false h8
       have e : freeB (erCls l.cells.xs) cell n reach = true := by
         have : ((selL (erCls l.cells.xs) (occR (erCls l.cells.xs) cell) [n] false).any fun s => decide (distR s.box (moveR (gd (elems (gd l.cells.xs cell.toNat).insts.xs) n.toNat).place (bndR (erCls l.cells.xs) (gd (elems (gd l.cells.xs cell.toNat).insts.xs) n.toNat).cell)) ≤ 2 * reach)) = false := by
           rw [List.any_eq_false]
           intro s hs
           obtain ⟨j, hj2, rfl⟩ := List.getElem_of_mem hs
           have := hj j (by omega)
           rw [gd_eq hj2] at this
           simpa using this
         rw [hfe, this]; rfl
       rw [e] at k
       refine WP.exit ?_
       refine WP.seq (WP.region (RG.br rfl rfl rfl (RG.nil ?_)))
       refine WP.ret ?_
       exact ⟨_, _, ResV.one rfl rfl, Cv.p, k⟩
end Go.Proofs.YtgphjofccckloaaGreat
namespace Go.Proofs.YtgphjofccckloaaGreat
set_option linter.unusedVariables false
set_option linter.unusedSimpArgs false
open Go
set_option maxRecDepth 20000
set_option maxHeartbeats 1000000
set_option linter.unusedSimpArgs false
variable {G : Gh} {L : List Ch} {R : Value → Gh → List Ch → Prop}
theorem AtEl.of {xs : List Cell} {cell n : Int} (hz : shE (erCls xs) cell = 0) (h : within n 0 ((elN (erCls xs) cell : Int) - 1) = true) : AtEl xs cell n := by
 simp only [within, Bool.and_eq_true, decide_eq_true_eq] at h
 exact ⟨hz, by omega, by omega⟩
theorem reach_in {n : Int} (h : within n 0 8 = true) : 0 ≤ n ∧ n ≤ 8 := by simpa [within] using h
theorem elE_at {xs : List Cell} {cell n : Int} (h : elE (erCls xs) cell n = 0) : AtEl xs cell n := by
 obtain ⟨h1, h2, h3⟩ := elE_zero h
 exact ⟨h1, h2, h3⟩
end Go.Proofs.YtgphjofccckloaaGreat
namespace Go.Proofs.YtgphjofccckloaaGreat
set_option linter.unusedVariables false
set_option linter.unusedSimpArgs false
open Go
set_option maxRecDepth 20000
set_option linter.unusedSimpArgs false
variable {G : Gh} {L : List Ch} {R : Value → Gh → List Ch → Prop}
/-- only what lies in memory matters -/
theorem Cv.flat {α : Type} {e : TypeId} {F : FT α} {v : Value} {xs ys : List α} {L : List Ch} (h : F.flat xs = F.flat ys) (hl : xs.length = ys.length) : Cv (osl e F v xs :: L) (osl e F v ys :: L) :=
 Cv.imp fun hp hc => by
   rcases hc with ⟨rfl, rfl⟩ | ⟨b, cap, c, h1, h2, h3, h4, h5, h6⟩
   · exact .inl ⟨rfl, List.eq_nil_of_length_eq_zero (by simpa using hl.symm)⟩
   · exact .inr ⟨b, cap, c, by rw [← hl]; exact h1, h2, by rw [← hl]; exact h3, h4, h5, by rw [← hl, ← h]; exact h6⟩
end Go.Proofs.YtgphjofccckloaaGreat
namespace Go.Proofs.YtgphjofccckloaaGreat
set_option linter.unusedVariables false
set_option linter.unusedSimpArgs false
open Go
set_option maxRecDepth 20000
set_option maxHeartbeats 1000000
set_option linter.unusedSimpArgs false
variable {G : Gh} {L : List Ch} {R : Value → Gh → List Ch → Prop}
def mvI (t : Trans) (xs : List Rect) : List Rect := bif mvOk t xs then canon (bits (xs.map (moveR t))) else []
theorem mvI_no {t : Trans} {xs : List Rect} (h : mvOk t xs = false) : mvI t xs = [] := by rw [mvI, h]; rfl
theorem mvI_ok {t : Trans} {xs : List Rect} (h : mvOk t xs = true) : mvI t xs = canon (bits (xs.map (moveR t))) := by rw [mvI, h]; rfl
theorem mvTo_any {t : Trans} {xs : List Rect} {i y x : Nat} (h : i < xs.length) : (((xs.map (moveR t)).take (i + 1)).any fun r => inR r y x) = ((((xs.map (moveR t)).take i).any fun r => inR r y x) || inR (moveR t (gd xs i)) y x) := by
 rw [List.take_add_one, getG (by simpa using h), gd_map _ h, List.any_append]
 simp
theorem movedOk_no {t : Trans} {xs : List Rect} {i : Nat} (h : i < xs.length) (e : validRect (moveR t (gd xs i)) = false) : movedOk t xs = false := by
 rw [movedOk, List.all_eq_false]
 exact ⟨gd xs i, gd_mem h, by simpa using e⟩
theorem movedOk_yes {t : Trans} {xs : List Rect} (h : ∀ j, j < xs.length → validRect (moveR t (gd xs j)) = true) : movedOk t xs = true := by
 rw [movedOk, List.all_eq_true]
 intro r hr
 obtain ⟨j, hj, rfl⟩ := List.getElem_of_mem hr
 have := h j hj
 rwa [gd_eq hj] at this
theorem mvReg_i {t : Trans} {v : Value} {xs : List Rect} (h1 : Rs G L rectT v xs) (k : ∀ v', R (.tuple #[v', .bool (mvOk t xs)]) G (osl 91 rectT v' (mvI t xs) :: L)) : CallT Tryz.prog 66 #[vtrans t, v] G L R := by
 refine CallT.bd h1 fun hbd => ?_
 refine CallT.enter (args := _) Tryz.func66 rfl rfl (by kernel_rfl) rfl ?_
 refine WP.seq (WP.region ?_)
 refine RG.ot rfl (OT.box (cs := transT.enc t) rfl rfl rfl fun b2 => ?_)
 refine RG.pv rfl (PV.asg rfl rfl) (RG.br rfl rfl rfl (RG.nil (WP.seq (WP.seq (WP.region (RG.pv rfl (PV.loadW rfl Ag95 rfl rfl) ?_))))))
 refine RG.callF (vs := [_]) rfl rfl En129 rfl (validT_i ?_)
 refine RG.pv rfl (PV.not rfl rfl) (RG.bl rfl rfl rfl ?_)
 refine RG.gs rfl rfl rfl (fun hp => (PV.move (v := v) rfl rfl)) ?_
 refine RG.gsC rfl rfl rfl rfl En130 (fun hp => ⟨_, (acons (gs_t hp) anil), isRegion_s (Rs.up h1) ⟨rfl, rfl, rfl⟩⟩) ?_
 refine RG.gs rfl rfl rfl (fun hp => (PV.not rfl (gs_t hp))) ?_
 refine RG.pv rfl (PV.pickO rfl rfl rfl (fun hq => gs_t (geqF hq))) (RG.nil ?_)
 refine WP.cond rfl (fun h2 => ?_) (fun h2 => ?_)
 · have h3 : (validT t && isReg xs) = false := by
     cases h4 : validT t <;> cases h5 : isReg xs <;> simp_all
   have e1 : mvOk t xs = false := by rw [mvOk, h3]; rfl
   have e2 := mvI_no e1
   rw [e1, e2] at k
   refine WP.seq (WP.region (RG.pv rfl (PV.asg rfl rfl) (RG.br rfl rfl rfl (RG.nil ?_))))
   refine WP.ret ?_
   exact ⟨_, _, ResV.two rfl rfl rfl, (Cv.p (C := L)).trans Cv.nilS, k (.slice none 0 0)⟩
 · have h3 : validT t = true ∧ isReg xs = true := by
     cases h4 : validT t <;> cases h5 : isReg xs <;> simp_all
   have e0 : mvOk t xs = movedOk t xs := by rw [mvOk, h3.1, h3.2]; rfl
   obtain ⟨hto, hx, hy⟩ := validT_iff.1 h3.1
   have hri := RIn_all h3.2
   refine WP.skip (WP.seq (WP.region (RG.pv rfl (PV.build0 rfl Tryz.underlying179 ⟨80, by kernel_rfl⟩ (zeroB_spec (n := 6400) (by kernel_rfl))) ?_)))
   refine RG.ot rfl (OT.boxG rfl rfl fun b19 => ?_)
   refine RG.pv rfl (PV.mvP (.inr rfl) rfl) (RG.nil (WP.seq (WP.seq (WP.region (RG.pv rfl (PV.move (v := v) rfl rfl) (RG.pv rfl (PV.len (v := v) rfl Tryz.underlying50 rfl (SlF.r h1)) (RG.ml rfl rfl rfl ?_)))))))
   refine RG.nil (WP.block ?_)
   refine WP.loop2 [2, 6, 20, 21] (fun (i : Nat) (cs : List Bool) => i ≤ xs.length ∧ cs.length = 6400 ∧ (∀ j, j < i → validRect (moveR t (gd xs j)) = true) ∧ ∀ y x, y < 80 → x < 80 → gb cs y x = ((xs.map (moveR t)).take i).any fun r => inR r y x) (fun (i : Nat) (cs : List Bool) => [(22, vi i)]) (fun (i : Nat) (cs : List Bool) => grd b19 cs :: blk b2 95 (transT.enc t) :: L) (fun (i : Nat) (cs : List Bool) => xs.length - i) 0 (List.replicate 6400 false) ⟨by omega, by simp, fun j h => by omega, fun y x _ _ => by rw [gb_rep]; simp⟩ ⟨rfl, trivial⟩ Cv.p ?_
   rintro i cs τ ⟨hi, hl, hj, hc⟩
   refine WP.seq (WP.region (RG.pv rfl (PV.lss rfl rfl rfl) (RG.nil (WP.seq ?_))))
   refine WP.cond rfl (fun h4 => ?_) (fun h4 => ?_)
   · have h4 := of_decide_eq_true h4
     have h5 : i < xs.length := by omega
     refine WP.skip (WP.seq (WP.block (WP.seq (WP.region (RG.pv rfl (PV.idxS (v := v) rfl Is50 rfl (SlF.r h1) rfl rfl (by omega)) (RG.pv rfl (PV.loadE rfl Ag91 rfl rfl (El.r h1 (getG (by omega)))) ?_))))))
     refine RG.ot rfl (OT.alloc rfl Zr91 fun b8 => ?_)
     refine RG.ot rfl (OT.storeW (vs := [vi _, vi _, vi _, vi _]) rfl Sz91 rfl rfl (Cl.c rfl) rfl rfl (OneC.c rfl) ?_)
     refine RG.nil (WP.seq (WP.region (RG.pv rfl (PV.loadW rfl Ag95 rfl rfl) (RG.pv rfl (PV.loadW rfl Ag91 rfl rfl) ?_))))
     refine RG.callF (vs := [_, _]) rfl rfl En123 rfl (moveRect_s hto (by omega) (RIn_gd hri (by omega)) ?_)
     refine RG.ot rfl (OT.alloc rfl Zr91 fun b9 => ?_)
     refine RG.ot rfl (OT.storeW (vs := [vi _, vi _, vi _, vi _]) rfl Sz91 rfl rfl (Cl.c rfl) rfl rfl (OneC.c rfl) ?_)
     refine RG.nil (WP.seq (WP.seq (WP.region (RG.pv rfl (PV.loadW rfl Ag91 rfl rfl) ?_))))
     refine RG.callF (vs := [_]) rfl rfl En124 rfl (validRect_s ?_)
     refine RG.pv rfl (PV.not rfl rfl) (RG.nil ?_)
     refine WP.cond rfl (fun h6 => ?_) (fun h6 => ?_)
     · have h6 : validRect (moveR t (gd xs i)) = false := by simpa using h6
       have e1 : mvOk t xs = false := by rw [e0, movedOk_no h5 h6]
       have e2 := mvI_no e1
       rw [e1, e2] at k
       refine WP.seq (WP.region (RG.pv rfl (PV.asg rfl rfl) (RG.br rfl rfl rfl (RG.nil ?_))))
       refine WP.ret ?_
       exact ⟨_, _, ResV.two rfl rfl rfl, (Cv.p (C := L)).trans Cv.nilS, k (.slice none 0 0)⟩
     · have h6 : validRect (moveR t (gd xs i)) = true := by simpa using h6
       have hj' : ∀ j, j < i + 1 → validRect (moveR t (gd xs j)) = true := fun j h => by
         by_cases c : j = i
         · rw [c]; exact h6
         · exact hj j (by omega)
       refine WP.skip (WP.region (RG.pv rfl (PV.mvP (.inl rfl) rfl) (RG.pv rfl (PV.loadW rfl Ag91 rfl rfl) ?_)))
       refine RG.callF (vs := [(.pointer (some ⟨b19, 0, none⟩)), _]) rfl rfl En131 rfl (CallT.exB (put_s (by assumption) (fun bs' hb' hg' => ?_)))
       refine RG.nil (WP.region (RG.pv rfl (PV.add rfl rfl rfl (by omega)) (RG.ml rfl rfl rfl (RG.nil ?_))))
       exact ⟨rfl, i + 1, bs', ⟨by omega, hb', hj', fun y x h7 h8 => by rw [hg' y x h7 h8, hc y x h7 h8, mvTo_any h5]⟩, ⟨rfl, trivial⟩, ⟨rfl, rfl, rfl, rfl, trivial⟩, Cv.p, by omega⟩
   · have h4 := of_decide_eq_false h4
     have e1 : mvOk t xs = true := by rw [e0, movedOk_yes (fun j h => hj j (by omega))]
     have e : cs = bits (xs.map (moveR t)) := bits_eq hl fun y x h6 h7 => by rw [hc y x h6 h7, List.take_of_length_le (by simp; omega)]
     subst e
     rw [e1, mvI_ok e1] at k
     refine WP.exit ?_
     refine WP.seq (WP.region (RG.pv rfl (PV.mvP (.inl rfl) rfl) ?_))
     refine RG.callF (vs := [(.pointer (some ⟨b19, 0, none⟩))]) rfl rfl En132 rfl (CallT.exB (region_s (bits_length _) (fun v37 => ?_)))
     refine RG.pv rfl (PV.asg (v := v37) rfl rfl) (RG.br rfl rfl rfl (RG.nil ?_))
     refine WP.ret ?_
     exact ⟨_, _, ResV.two rfl rfl rfl, Cv.p, k v37⟩
end Go.Proofs.YtgphjofccckloaaGreat
namespace Go.Proofs.YtgphjofccckloaaGreat
set_option linter.unusedVariables false
set_option linter.unusedSimpArgs false
open Go
set_option maxRecDepth 20000
set_option linter.unusedSimpArgs false
theorem layL_gd {ss : List Shape} {l : Nat} (h : l < 8) : gd (layL ss) l = canon (bits (boxesOf ss l)) := by
 rw [layL, gd_map _ (by simpa using h), range_gd h]
/-- moved pieces -/
def mvP (t : Trans) (p : Int × List Rect) : Int × List Rect := (p.1, canon (bits (p.2.map (moveR t))))
end Go.Proofs.YtgphjofccckloaaGreat
namespace Go.Proofs.YtgphjofccckloaaGreat
set_option linter.unusedVariables false
set_option linter.unusedSimpArgs false
open Go
set_option maxRecDepth 20000
set_option maxHeartbeats 1000000
set_option linter.unusedSimpArgs false
variable {G : Gh} {L : List Ch} {R : Value → Gh → List Ch → Prop}
theorem lay_isLay (ss : List Shape) : isLay (layL ss) = true := by
 have h1 : (layL ss).length = 8 := by simp [layL]
 rw [isLay, h1, Bool.and_eq_true, List.all_eq_true]
 refine ⟨by decide, fun r hr => ?_⟩
 obtain ⟨i, hi, rfl⟩ := List.getElem_of_mem hr
 rw [← gd_eq hi, layL_gd (by omega)]
 exact isReg_canon (bits_length _)
theorem fly_isLay {cs : List ECell} {cell : Int} (h : shE cs cell = 0) : isLay (flyL cs cell) = true := by
 rw [flyL, decide_eq_true h, cond_true]; exact lay_isLay _
theorem reach_le (q : Rule) (h : 0 ≤ reach q) : within (reach q) 0 8 = true := by have := reach_bd h; simp [within, h, this]
def elA (cs : List ECell) (cell n : Int) : HElem := gd (elems (gd cs cell.toNat).insts) n.toNat
def rvE (cs : List ECell) (cell n : Int) (q : Rule) : Int := if elE cs cell n = 0 then (if reach q < 0 then 1 else if freeB cs cell n (reach q) = true then 0 else 6) else elE cs cell n
noncomputable def rvR (cs : List ECell) (cell n : Int) (q : Rule) : List Rect := if rvE cs cell n q = 0 then movedR (elA cs cell n).place (rmL (flyL cs (elA cs cell n).cell) q) else []
theorem rvR_no {cs : List ECell} {cell n : Int} {q : Rule} (h : rvE cs cell n q ≠ 0) : rvR cs cell n q = [] := by rw [rvR, if_neg h]
theorem rvR_len (cs : List ECell) (cell n : Int) (q : Rule) : (rvR cs cell n q).length ≤ 3200 := by
 unfold rvR movedR; split
 · cases movedOk (elA cs cell n).place (rmL (flyL cs (elA cs cell n).cell) q)
   · exact Nat.zero_le _
   · exact canon_len _
 · exact Nat.zero_le _
theorem free_sh {cs : List ECell} {cell n reach : Int} (h : freeB cs cell n reach = true) : shE cs (elA cs cell n).cell = 0 := by
 by_cases c : bndE cs (gd (elems (gd cs cell.toNat).insts) n.toNat).cell = 0
 · exact (bndE_zero c).1
 · rw [free_no c] at h; cases h
theorem reach_valid {q : Rule} (h : 0 ≤ reach q) : validRule q = true := by
 cases hv : validRule q with
 | true => rfl
 | false => rw [reach, hv] at h; simp at h
theorem mvI_moved {t : Trans} {xs : List Rect} (ht : validT t = true) (hx : isReg xs = true) : mvI t xs = movedR t xs := by
 rw [mvI, mvOk, ht, hx, movedR]; simp only [Bool.true_and]
theorem rv_i {l : Lib} {cell n : Int} {q : Rule} (hL : RLib G L l.cells.v l.cells.xs) (hlen : lenC (erCls l.cells.xs)) (k : ∀ v', R (.tuple #[v', vi (rvE (erCls l.cells.xs) cell n q)]) G (osl 91 rectT v' (rvR (erCls l.cells.xs) cell n q) :: L)) : CallT Tryz.prog 27 #[vT libT l, vi cell, vi n, vT ruleT q] G L R := by
 have hE := erCls_len l.cells.xs
 refine CallT.enter (args := _) Tryz.func27 rfl rfl (by kernel_rfl) rfl ?_
 refine WP.seq (WP.region ?_)
 refine RG.ot rfl (OT.box (cs := libT.enc l) rfl rfl rfl fun b4 => ?_)
 refine RG.ot rfl (OT.box (cs := ruleT.enc q) rfl rfl rfl fun b7 => ?_)
 refine RG.pv rfl (PV.asg rfl rfl) (RG.mr rfl rfl rfl (RG.nil (WP.seq (WP.region (RG.pv rfl (PV.loadW rfl Ag35 rfl rfl) (RG.ml rfl rfl rfl ?_))))))
 refine RG.callF (vs := [_, _]) rfl rfl En62 rfl (rooted_i hL.up hlen (fun w21 => ?_))
 refine RG.pv rfl (PV.move (v := .tuple _) rfl rfl) (RG.pv rfl (PV.ext (v := w21) rfl rfl rfl) (RG.pv rfl (PV.ext rfl rfl rfl) (RG.pv rfl (PV.asg (v := w21) rfl rfl) (RG.mr rfl rfl rfl (RG.nil (WP.seq (WP.region ?_)))))))
 refine RG.pv rfl (PV.loadW rfl Ag53 rfl rfl) ?_
 refine RG.callF (vs := [_]) rfl rfl En53 rfl (reach_i ?_)
 refine RG.mr rfl rfl rfl (RG.nil (WP.seq (WP.block (WP.seq (WP.region (RG.ml rfl rfl rfl (RG.pv rfl (PV.neq rfl rfl rfl) ?_)))))))
 refine RG.br rfl rfl rfl (RG.nil ?_)
 refine WP.cond rfl (fun h1 => ?_) (fun h1 => ?_)
 · have h1 : shE (erCls l.cells.xs) cell ≠ 0 := by simpa using h1
   have e1 : elE (erCls l.cells.xs) cell n = shE (erCls l.cells.xs) cell := by rw [elE, decide_eq_false h1]; rfl
   have e2 : rvE (erCls l.cells.xs) cell n q = shE (erCls l.cells.xs) cell := by rw [rvE, e1, if_neg h1]
   rw [rvR_no (by rw [e2]; exact h1), e2] at k
   refine WP.seq (WP.region (RG.ml rfl rfl rfl (RG.pv rfl (PV.asg rfl rfl) (RG.mr rfl rfl rfl (RG.nil ?_)))))
   refine WP.ret ?_
   exact ⟨_, _, ResV.two rfl rfl rfl, (Cv.p (C := L)).trans Cv.nilS, k (.slice none 0 0)⟩
 · have h1 : shE (erCls l.cells.xs) cell = 0 := by simpa using h1
   refine WP.seq (WP.region (RG.pv rfl (PV.loadW rfl Ag35 rfl rfl) (RG.ml rfl rfl rfl (RG.ml rfl rfl rfl ?_))))
   refine RG.callF (vs := [_, _, _]) rfl rfl En63 rfl (hasEl_i hL.up (shE_lib h1) ?_)
   refine RG.pv rfl (PV.not rfl rfl) (RG.br rfl rfl rfl (RG.nil ?_))
   refine WP.cond rfl (fun h2 => ?_) (fun h2 => ?_)
   · have h2 : within n 0 ((elN (erCls l.cells.xs) cell : Int) - 1) = false := by simpa using h2
     have e1 : elE (erCls l.cells.xs) cell n = 5 := by rw [elE, decide_eq_true h1, h2]; rfl
     have e2 : rvE (erCls l.cells.xs) cell n q = 5 := by rw [rvE, e1, if_neg (by decide)]
     rw [rvR_no (by rw [e2]; decide), e2] at k
     refine WP.seq (WP.region (RG.pv rfl (PV.asg rfl rfl) (RG.mr rfl rfl rfl (RG.nil ?_))))
     refine WP.ret ?_
     exact ⟨_, _, ResV.two rfl rfl rfl, (Cv.p (C := L)).trans Cv.nilS, k (.slice none 0 0)⟩
   · have h2 : within n 0 ((elN (erCls l.cells.xs) cell : Int) - 1) = true := by simpa using h2
     have e1 : elE (erCls l.cells.xs) cell n = 0 := by rw [elE, decide_eq_true h1, h2]; rfl
     refine WP.seq (WP.region (RG.ml rfl rfl rfl (RG.pv rfl (PV.lss rfl rfl rfl) (RG.br rfl rfl rfl (RG.nil ?_)))))
     refine WP.cond rfl (fun h3 => ?_) (fun h3 => ?_)
     · have h3 := of_decide_eq_true h3
       have e2 : rvE (erCls l.cells.xs) cell n q = 1 := by rw [rvE, if_pos e1, if_pos h3]
       rw [rvR_no (by rw [e2]; decide), e2] at k
       refine WP.seq (WP.region (RG.pv rfl (PV.asg rfl rfl) (RG.mr rfl rfl rfl (RG.nil ?_))))
       refine WP.ret ?_
       exact ⟨_, _, ResV.two rfl rfl rfl, (Cv.p (C := L)).trans Cv.nilS, k (.slice none 0 0)⟩
     · have h3 : 0 ≤ reach q := by have := of_decide_eq_false h3; omega
       have hva := reach_valid h3
       refine WP.seq (WP.region (RG.pv rfl (PV.loadW rfl Ag35 rfl rfl) (RG.ml rfl rfl rfl (RG.ml rfl rfl rfl (RG.ml rfl rfl rfl (RG.pv rfl (PV.move (v := w21) rfl rfl) ?_))))))
       refine RG.callF (vs := [_, _, _, _, w21]) rfl rfl En64 rfl (free_i hL.up hlen (AtEl.of h1 h2) (reach_in (reach_le q h3)) Rs.o ?_)
       refine RG.pv rfl (PV.not rfl rfl) (RG.br rfl rfl rfl (RG.nil ?_))
       refine WP.cond rfl (fun h4 => ?_) (fun h4 => ?_)
       · have h4 : ¬ freeB (erCls l.cells.xs) cell n (reach q) = true := by simpa using h4
         have e2 : rvE (erCls l.cells.xs) cell n q = 6 := by rw [rvE, if_pos e1, if_neg (by omega), if_neg h4]
         rw [rvR_no (by rw [e2]; decide), e2] at k
         refine WP.seq (WP.region (RG.pv rfl (PV.asg rfl rfl) (RG.mr rfl rfl rfl (RG.nil ?_))))
         refine WP.ret ?_
         exact ⟨_, _, ResV.two rfl rfl rfl, (Cv.p (C := L)).trans Cv.nilS, k (.slice none 0 0)⟩
       · have h4 : freeB (erCls l.cells.xs) cell n (reach q) = true := by simpa using h4
         have e2 : rvE (erCls l.cells.xs) cell n q = 0 := by rw [rvE, if_pos e1, if_neg (by omega), if_pos h4]
         have ha : AtEl l.cells.xs cell n := AtEl.of h1 h2
         obtain ⟨hok, hc0, hc1⟩ := ha.lib
         have hce := erCl_insts (xs := l.cells.xs) (i := cell.toNat) hc1
         have hns : okNs (gd l.cells.xs cell.toNat).insts.xs := by rw [← hce]; exact okLib_ns hok (by omega)
         have hnl := ha.lt
         have hn0 := ha.hn.1
         have hel : elA (erCls l.cells.xs) cell n = gd (elems (gd l.cells.xs cell.toNat).insts.xs) n.toNat := by rw [elA, hce]
         have hsh := free_sh h4
         have hly := fly_isLay hsh
         rw [hel] at hly
         have hvt : validT (gd (elems (gd l.cells.xs cell.toNat).insts.xs) n.toNat).place = true := validT_iff.2 ⟨ha.el.1, ha.el.2.1, ha.el.2.2⟩
         have hmv := mvI_moved hvt (rmL_reg (flyL (erCls l.cells.xs) (gd (elems (gd l.cells.xs cell.toNat).insts.xs) n.toNat).cell) q)
         rw [rvR, if_pos e2, e2, hel, ← hmv] at k
         refine WP.skip (WP.seq (WP.region (RG.pv rfl (PV.field rfl Fo35_0 rfl) (RG.pv rfl (PV.load1 rfl Sc33 rfl (Rd.blk rfl)) (RG.ml rfl rfl rfl (RG.pv rfl (PV.idxS (j := cell.toNat) rfl Is33 rfl (SlF.r hL.c) rfl (by first | omega | (simp only [List.length_cons, List.length_nil]; omega)) (by first | omega | (simp only [List.length_cons, List.length_nil]; omega))) (RG.pv rfl (PV.loadE rfl Ag115 rfl rfl (El.r hL.c (getG (by first | omega | (simp only [List.length_cons, List.length_nil]; omega))))) ?_)))))))
         refine RG.callF (vs := [_]) rfl rfl En65 rfl (elems_i (hL.na (by omega)).up hns (fun v52 => ?_))
         refine RG.ml rfl rfl rfl (RG.pv rfl (PV.idxS (j := n.toNat) (v := v52) rfl Is109 rfl SlF.o rfl (by first | omega | (simp only [List.length_cons, List.length_nil]; omega)) (by first | omega | (simp only [List.length_cons, List.length_nil]; omega))) (RG.pv rfl (PV.loadE rfl Ag108 rfl rfl (El.o (getG (by first | omega | (simp only [List.length_cons, List.length_nil]; omega))))) ?_))
         refine RG.ot rfl (OT.alloc rfl Zr108 fun b13 => ?_)
         refine RG.ot rfl (OT.storeW (vs := [vi _, vi _, vi _, vi _]) rfl Sz108 rfl rfl (Cl.c rfl) rfl rfl (OneC.c rfl) ?_)
         refine RG.nil (WP.seq (WP.region (RG.pv rfl (PV.loadW rfl Ag35 rfl rfl) (RG.pv rfl (PV.field rfl Fo108_0 rfl) (RG.pv rfl (PV.load1 rfl Sc2 rfl (Rd.blk rfl)) ?_)))))
         refine RG.callF (vs := [_, _]) rfl rfl En43 rfl (fly_i hL.up hlen (fun w60 zs hzz => have hlz : isLay (er zs) = true := (by rw [hzz]; exact hly); ?_))
         refine RG.pv rfl (PV.move (v := .tuple _) rfl rfl) (RG.pv rfl (PV.ext (v := w60) rfl rfl rfl) (RG.pv rfl (PV.ext rfl rfl rfl) (RG.pv rfl (PV.asg (v := w60) rfl rfl) (RG.mr rfl rfl rfl (RG.nil (WP.seq ?_))))))
         refine WP.regionH0 (.q 0 (.q 1 (.q 2 (.q 3 (.l 4 (.l 5 (.q 6 (.q 7 (.q 8 (.q 9 (.q 10 Sch.nil))))))))))) (by kernel_rfl) (by kernel_rfl) (by kernel_rfl) rfl ?_
         refine RH.pv rfl (fun _ _ _ _ h => h) (Gh.le_refl _) PickC.pick rfl (PV.field rfl Fo108_1 rfl) ?_
         refine RH.pv rfl (fun _ _ _ _ h => h) (Gh.le_refl _) PickC.pick rfl (PV.loadB (vs := [_, _, _]) rfl Ag95 rfl rfl rfl) ?_
         refine RH.pv rfl (fun _ _ _ _ h => h) (Gh.le_refl _) PickC.pick rfl (PV.move (v := w60) rfl rfl) ?_
         refine RH.pv rfl (fun _ _ _ _ h => h) (Gh.le_refl _) PickC.pick rfl (PV.loadW rfl Ag53 rfl rfl) ?_
         refine RH.ot rfl rfl (OT.callF (vs := [w60, _]) rfl En55 rfl (rule_i (q := q) Rs.o RsE.o hlz hva (fun v68 => ⟨Gh.le_refl _, PickC.pick, ?_⟩)))
         refine RH.ot rfl rfl (OT.callF (vs := [_, v68]) rfl En66 rfl (mvReg_i Rs.o (fun w69 => ⟨Gh.le_refl _, PickC.pick, ?_⟩)))
         refine RH.pv rfl (fun _ _ _ _ h => h) (Gh.le_refl _) PickC.pick rfl (PV.move (v := .tuple _) rfl rfl) ?_
         refine RH.pv rfl (fun _ _ _ _ h => h) (Gh.le_refl _) PickC.pick rfl (PV.ext (v := w69) rfl rfl rfl) ?_
         refine RH.pv rfl (fun _ _ _ _ h => h) (Gh.le_refl _) PickC.pick rfl (PV.ext rfl rfl rfl) ?_
         refine RH.pv rfl (fun _ _ _ _ h => h) (Gh.le_refl _) PickC.pick rfl (PV.asg (v := w69) rfl rfl) ?_
         refine RH.pv rfl (fun _ _ _ _ h => h) (Gh.le_refl _) PickC.pick rfl (PV.mvB (.inr rfl) rfl) ?_
         refine RH.nil ?_
         refine WP.seq (WP.region (RG.pv rfl (PV.move (v := w69) rfl rfl) (RG.pv rfl (PV.asg (v := w69) rfl rfl) (RG.mr rfl rfl rfl (RG.nil ?_)))))
         refine WP.ret ?_
         rw [← hzz] at k
         exact ⟨_, _, ResV.two rfl rfl rfl, Cv.p, k w69⟩
theorem rv_r {l : Lib} {cell n : Int} {q : Rule} (hL : RLib G L l.cells.v l.cells.xs) (hlen : lenC (erCls l.cells.xs)) (k : ∀ v', R (.tuple #[v', vi (rvE (erCls l.cells.xs) cell n q)]) G (osl 91 rectT v' (rvR (erCls l.cells.xs) cell n q) :: L)) : CallT Tryz.prog 26 #[vT libT l, vi cell, vi n, vT ruleT q] G L R := by
 have hE := erCls_len l.cells.xs
 refine CallT.enter (args := _) Tryz.func26 rfl rfl (by kernel_rfl) rfl ?_
 refine WP.seq (WP.region ?_)
 refine RG.ot rfl (OT.box (cs := libT.enc l) rfl rfl rfl fun b4 => ?_)
 refine RG.ot rfl (OT.box (cs := ruleT.enc q) rfl rfl rfl fun b7 => ?_)
 refine RG.pv rfl (PV.asg rfl rfl) (RG.mr rfl rfl rfl (RG.nil (WP.seq (WP.region (RG.pv rfl (PV.loadW rfl Ag35 rfl rfl) (RG.ml rfl rfl rfl (RG.ml rfl rfl rfl ?_)))))))
 refine RG.callF (vs := [_, _, _]) rfl rfl En57 rfl (l21Code_s hL.up hlen ?_)
 refine RG.mr rfl rfl rfl (RG.nil (WP.seq (WP.seq (WP.region (RG.ml rfl rfl rfl (RG.pv rfl (PV.neq rfl rfl rfl) (RG.nil ?_)))))))
 refine WP.cond rfl (fun h1 => ?_) (fun h1 => ?_)
 · have h1 : elE (erCls l.cells.xs) cell n ≠ 0 := by simpa using h1
   have e2 : rvE (erCls l.cells.xs) cell n q = elE (erCls l.cells.xs) cell n := by rw [rvE, if_neg h1]
   rw [rvR_no (by rw [e2]; exact h1), e2] at k
   refine WP.seq (WP.region (RG.ml rfl rfl rfl (RG.pv rfl (PV.asg rfl rfl) (RG.mr rfl rfl rfl (RG.nil ?_)))))
   refine WP.ret ?_
   exact ⟨_, _, ResV.two rfl rfl rfl, (Cv.p (C := L)).trans Cv.nilS, k (.slice none 0 0)⟩
 · have h1 : elE (erCls l.cells.xs) cell n = 0 := by simpa using h1
   refine WP.skip (WP.seq (WP.seq (WP.region (RG.pv rfl (PV.loadW rfl Ag53 rfl rfl) ?_))))
   refine RG.callF (vs := [_]) rfl rfl En58 rfl (reach_s ?_)
   refine RG.pv rfl (PV.lss rfl rfl rfl) (RG.nil ?_)
   refine WP.cond rfl (fun h3 => ?_) (fun h3 => ?_)
   · have h3 := of_decide_eq_true h3
     have e2 : rvE (erCls l.cells.xs) cell n q = 1 := by rw [rvE, if_pos h1, if_pos h3]
     rw [rvR_no (by rw [e2]; decide), e2] at k
     refine WP.seq (WP.region (RG.pv rfl (PV.asg rfl rfl) (RG.mr rfl rfl rfl (RG.nil ?_))))
     refine WP.ret ?_
     exact ⟨_, _, ResV.two rfl rfl rfl, (Cv.p (C := L)).trans Cv.nilS, k (.slice none 0 0)⟩
   · have h3 : 0 ≤ reach q := by have := of_decide_eq_false h3; omega
     have hva := reach_valid h3
     refine WP.skip (WP.seq (WP.seq ?_))
     refine WP.regionQ (by kernel_rfl) (by kernel_rfl) ?_
     refine RQ.pv rfl (PV.loadW rfl Ag35 rfl rfl) ?_
     refine RQ.pv rfl (PV.mvI (.inl rfl) rfl) ?_
     refine RQ.pv rfl (PV.mvI (.inl rfl) rfl) ?_
     refine RQ.pv rfl (PV.loadW rfl Ag53 rfl rfl) ?_
     refine RQ.callF (vs := [_]) rfl rfl En58 rfl (reach_s ⟨rfl, rfl, rfl⟩) ?_
     refine RQ.callF (vs := [_, _, _, _]) rfl rfl En59 rfl (free_r hL.up hlen (elE_at h1) (reach_in (reach_le q h3)) ⟨rfl, rfl, rfl⟩) ?_
     refine RQ.pv rfl (PV.not rfl rfl) ?_
     refine RQ.nil ?_
     refine WP.cond rfl (fun h4 => ?_) (fun h4 => ?_)
     · have h4 : ¬ freeB (erCls l.cells.xs) cell n (reach q) = true := by simpa using h4
       have e2 : rvE (erCls l.cells.xs) cell n q = 6 := by rw [rvE, if_pos h1, if_neg (by omega), if_neg h4]
       rw [rvR_no (by rw [e2]; decide), e2] at k
       refine WP.seq (WP.region (RG.pv rfl (PV.asg rfl rfl) (RG.mr rfl rfl rfl (RG.nil ?_))))
       refine WP.ret ?_
       exact ⟨_, _, ResV.two rfl rfl rfl, (Cv.p (C := L)).trans Cv.nilS, k (.slice none 0 0)⟩
     · have h4 : freeB (erCls l.cells.xs) cell n (reach q) = true := by simpa using h4
       have e2 : rvE (erCls l.cells.xs) cell n q = 0 := by rw [rvE, if_pos h1, if_neg (by omega), if_pos h4]
       have ha : AtEl l.cells.xs cell n := elE_at h1
       obtain ⟨hok, hc0, hc1⟩ := ha.lib
       have hce := erCl_insts (xs := l.cells.xs) (i := cell.toNat) hc1
       have hel : elA (erCls l.cells.xs) cell n = gd (elems (gd l.cells.xs cell.toNat).insts.xs) n.toNat := by rw [elA, hce]
       have hsh := free_sh h4
       have hly := fly_isLay hsh
       rw [hel] at hly
       obtain ⟨he1, he2⟩ := ha.el
       have hri := RIn_all (rmL_reg (flyL (erCls l.cells.xs) (gd (elems (gd l.cells.xs cell.toNat).insts.xs) n.toNat).cell) q)
       have hrl := rmL_len (flyL (erCls l.cells.xs) (gd (elems (gd l.cells.xs cell.toNat).insts.xs) n.toNat).cell) q
       rw [rvR, if_pos e2, e2, hel] at k
       refine WP.skip (WP.seq (WP.region (RG.pv rfl (PV.loadW rfl Ag35 rfl rfl) (RG.ml rfl rfl rfl (RG.ml rfl rfl rfl ?_)))))
       refine RG.ot rfl (OT.bslice (F := intT) (els := [_]) rfl El30 rfl (by decide) rfl (by decide) ⟨rfl, (Cl.c rfl), trivial⟩ fun v38 => ?_)
       refine RG.callF (vs := [_, _, v38]) rfl rfl En60 rfl (path_s hL.up hlen (elE_at h1) Rs.o (fun w39 hw39 => ?_))
       refine RG.pv rfl (PV.move (v := .tuple _) rfl rfl) (RG.pv rfl (PV.ext rfl rfl rfl) (RG.pv rfl (PV.ext rfl rfl rfl) ?_))
       refine RG.ot rfl (OT.alloc rfl Zr97 fun b11 => ?_)
       refine RG.ot rfl (OT.storeW (vs := [vi _, vi _, vi _, vi _, _]) rfl Sz97 rfl rfl (Cl.c rfl) rfl rfl (OneC.val rfl (OneC.val rfl (OneC.val rfl (OneC.val rfl (OneC.val hw39 OneC.nil))))) ?_)
       refine RG.mr rfl rfl rfl (RG.nil (WP.seq (WP.region (RG.pv rfl (PV.loadW rfl Ag35 rfl rfl) (RG.pv rfl (PV.field rfl Fo97_0 rfl) (RG.pv rfl (PV.load1 rfl Sc2 rfl (Rd.blk rfl)) ?_))))))
       refine RG.callF (vs := [_, _]) rfl rfl En37 rfl (fly_r hL.up hlen (fun w46 zs hzz => have hlz : isLay (er zs) = true := (by rw [hzz]; exact hly); have hri2 := (by rw [← hzz] at hri; exact hri); ?_))
       refine RG.pv rfl (PV.move (v := .tuple _) rfl rfl) (RG.pv rfl (PV.ext (v := w46) rfl rfl rfl) (RG.pv rfl (PV.ext rfl rfl rfl) (RG.pv rfl (PV.asg (v := w46) rfl rfl) (RG.mr rfl rfl rfl (RG.nil (WP.seq ?_))))))
       refine WP.regionH0 (.q 0 (.q 1 (.q 2 (.q 3 (.l 4 (.l 5 (.q 6 (.q 7 (.q 8 (.q 9 (.q 10 Sch.nil))))))))))) (by kernel_rfl) (by kernel_rfl) (by kernel_rfl) rfl ?_
       refine RH.pv rfl (fun _ _ _ _ h => h) (Gh.le_refl _) PickC.pick rfl (PV.field rfl Fo97_1 rfl) ?_
       refine RH.pv rfl (fun _ _ _ _ h => h) (Gh.le_refl _) PickC.pick rfl (PV.loadB (vs := [_, _, _]) rfl Ag95 rfl rfl rfl) ?_
       refine RH.pv rfl (fun _ _ _ _ h => h) (Gh.le_refl _) PickC.pick rfl (PV.move (v := w46) rfl rfl) ?_
       refine RH.pv rfl (fun _ _ _ _ h => h) (Gh.le_refl _) PickC.pick rfl (PV.loadW rfl Ag53 rfl rfl) ?_
       refine RH.ot rfl rfl (OT.callF (vs := [w46, _]) rfl En50 rfl (ruleM_s (q := q) Rs.o RsE.o hlz hva (fun v54 => ⟨Gh.le_refl _, PickC.pick, ?_⟩)))
       refine RH.ot rfl rfl (OT.callF (vs := [_, v54]) rfl En61 rfl (l03Moved_s (t := (gd (elems (gd l.cells.xs cell.toNat).insts.xs) n.toNat).place) (xs := rmL (er zs) q) Rs.o (by rw [hzz]; exact Nat.le_trans hrl (by decide)) he1 (by omega) (fun i hi => RIn_gd hri2 hi) (fun w55 => ⟨Gh.le_refl _, PickC.pick, ?_⟩)))
       refine RH.pv rfl (fun _ _ _ _ h => h) (Gh.le_refl _) PickC.pick rfl (PV.move (v := .tuple _) rfl rfl) ?_
       refine RH.pv rfl (fun _ _ _ _ h => h) (Gh.le_refl _) PickC.pick rfl (PV.ext (v := w55) rfl rfl rfl) ?_
       refine RH.pv rfl (fun _ _ _ _ h => h) (Gh.le_refl _) PickC.pick rfl (PV.ext rfl rfl rfl) ?_
       refine RH.pv rfl (fun _ _ _ _ h => h) (Gh.le_refl _) PickC.pick rfl (PV.asg (v := w55) rfl rfl) ?_
       refine RH.pv rfl (fun _ _ _ _ h => h) (Gh.le_refl _) PickC.pick rfl (PV.mvB (.inr rfl) rfl) ?_
       refine RH.nil ?_
       refine WP.seq (WP.region (RG.pv rfl (PV.move (v := w55) rfl rfl) (RG.pv rfl (PV.asg (v := w55) rfl rfl) (RG.mr rfl rfl rfl (RG.nil ?_)))))
       refine WP.ret ?_
       rw [← hzz] at k
       exact ⟨_, _, ResV.two rfl rfl rfl, Cv.p, k w55⟩
end Go.Proofs.YtgphjofccckloaaGreat
namespace Go.Proofs.YtgphjofccckloaaGreat
set_option linter.unusedVariables false
set_option linter.unusedSimpArgs false
open Go
set_option maxRecDepth 20000
set_option maxHeartbeats 2000000
set_option linter.unusedSimpArgs false
variable {G : Gh} {L : List Ch} {R : Value → Gh → List Ch → Prop}
theorem law_ReusedMarkers {l : Lib} {cell n : Int} {q : Rule} (hA : RLib G L l.cells.v l.cells.xs) (hlen : lenC (erCls l.cells.xs)) (k : R (.bool true) G L) : CallT Tryz.prog 5 #[vT libT l, vi cell, vi n, vrule q] G L R := by
 refine CallT.enter (args := _) Tryz.func5 rfl rfl (by kernel_rfl) rfl ?_
 refine WP.seq (WP.region ?_)
 refine RG.ot rfl (OT.box (cs := libT.enc l) rfl rfl rfl fun b4 => ?_)
 refine RG.ot rfl (OT.box (cs := ruleT.enc q) rfl rfl rfl fun b7 => ?_)
 refine RG.br rfl rfl rfl (RG.nil (WP.seq (WP.region (RG.mr rfl rfl rfl (RG.nil (WP.seq (WP.region ?_)))))))
 refine RG.pv rfl (PV.loadW rfl Ag24 rfl rfl) (RG.ml rfl rfl rfl ?_)
 refine RG.callF (vs := [_, _]) rfl rfl En7 rfl (szLib_s hA.up hlen (by omega) (by omega) (fun r hr => ?_))
 refine RG.mr rfl rfl rfl (RG.nil (WP.seq (WP.seq (WP.region (RG.ml rfl rfl rfl (RG.pv rfl (PV.lss rfl rfl rfl) (RG.nil ?_)))))))
 refine WP.cond rfl (fun h2 => ?_) (fun h2 => ?_)
 · refine WP.seq ?_
   refine WP.region (RG.br rfl rfl rfl (RG.nil ?_))
   refine WP.ret ?_
   exact ⟨_, _, ResV.one rfl rfl, Cv.p, k⟩
 · have h2 := of_decide_eq_false h2
   have hf := hr (by omega)
   have hcr := rvR_len (erCls l.cells.xs) cell n q
   have hcc : costL nRect (rvR (erCls l.cells.xs) cell n q) ≤ 12800 := by rw [nRect_cost]; omega
   have hcd : 0 ≤ costL nRect (rvR (erCls l.cells.xs) cell n q) := costL_nonneg nRect_nn _
   refine WP.skip (WP.seq ?_)
   refine WP.regionH0 (.q 0 (.q 2 (.q 3 (.q 4 (.l 1 (.l 5 (.l 6 (.q 7 (.q 8 (.q 9 (.q 10 (.q 11 Sch.nil)))))))))))) (by kernel_rfl) (by kernel_rfl) (by kernel_rfl) rfl ?_
   refine RH.pv rfl (fun _ _ _ _ h => h) (Gh.le_refl _) PickC.pick rfl (PV.loadW rfl Ag24 rfl rfl) ?_
   refine RH.pv rfl (fun _ _ _ _ h => h) (Gh.le_refl _) PickC.pick rfl (PV.mvI (.inl rfl) rfl) ?_
   refine RH.pv rfl (fun _ _ _ _ h => h) (Gh.le_refl _) PickC.pick rfl (PV.mvI (.inl rfl) rfl) ?_
   refine RH.pv rfl (fun _ _ _ _ h => h) (Gh.le_refl _) PickC.pick rfl (PV.loadW rfl Ag49 rfl rfl) ?_
   refine RH.ot rfl rfl (OT.callF (vs := [_]) rfl En10 rfl (toLib_s hA.up hf (fun w27 ysw27 hew27 => ⟨Gh.le_refl _, PickC.pick, ?_⟩)))
   refine RH.ot rfl rfl (OT.callF (vs := [_]) rfl En21 rfl (toRule_s ⟨Gh.le_refl _, PickC.pick, ?_⟩))
   refine RH.ot rfl rfl (OT.callF (vs := [_, _, _, _]) rfl En26 rfl (rv_r (l := ⟨⟨w27, ysw27⟩⟩) (q := q) ⟨Rs.o, RsE.o, RsE.o, RsE.o⟩ (by rw [hew27]; exact hlen) (fun w32 => ⟨Gh.le_refl _, PickC.pick, ?_⟩)))
   refine RH.pv rfl (fun _ _ _ _ h => h) (Gh.le_refl _) PickC.pick rfl (PV.move (v := .tuple _) rfl rfl) ?_
   refine RH.pv rfl (fun _ _ _ _ h => h) (Gh.le_refl _) PickC.pick rfl (PV.ext (v := w32) rfl rfl rfl) ?_
   refine RH.pv rfl (fun _ _ _ _ h => h) (Gh.le_refl _) PickC.pick rfl (PV.ext rfl rfl rfl) ?_
   refine RH.pv rfl (fun _ _ _ _ h => h) (Gh.le_refl _) PickC.pick rfl (PV.asg (v := w32) rfl rfl) ?_
   refine RH.pv rfl (fun _ _ _ _ h => h) (Gh.le_refl _) PickC.pick rfl (PV.mvI (.inr rfl) rfl) ?_
   refine RH.nil ?_
   refine WP.seq (WP.region (RG.pv rfl (PV.loadW rfl Ag24 rfl rfl) ?_))
   refine RG.callF (vs := [_]) rfl rfl En10 rfl (toLib_s hA.up hf (fun w36 ysw36 hew36 => ?_))
   refine RG.ot rfl (OT.alloc rfl Zr35 fun b12 => ?_)
   refine RG.ot rfl (OT.storeW (vs := [_]) rfl Sz35 rfl rfl (Cl.c rfl) rfl rfl (OneC.sl (SlF.o (v := w36)) OneC.nil) ?_)
   refine RG.nil (WP.seq ?_)
   refine WP.regionH0 (.q 0 (.q 1 (.q 2 (.q 3 (.l 4 (.l 5 (.q 6 (.q 7 (.q 8 (.q 9 (.q 10 Sch.nil))))))))))) (by kernel_rfl) (by kernel_rfl) (by kernel_rfl) rfl ?_
   refine RH.pv rfl (fun _ _ _ _ h => h) (Gh.le_refl _) PickC.pick rfl (PV.loadW rfl Ag35 rfl rfl) ?_
   refine RH.pv rfl (fun _ _ _ _ h => h) (Gh.le_refl _) PickC.pick rfl (PV.mvI (.inl rfl) rfl) ?_
   refine RH.pv rfl (fun _ _ _ _ h => h) (Gh.le_refl _) PickC.pick rfl (PV.mvI (.inl rfl) rfl) ?_
   refine RH.pv rfl (fun _ _ _ _ h => h) (Gh.le_refl _) PickC.pick rfl (PV.loadW rfl Ag49 rfl rfl) ?_
   refine RH.ot rfl rfl (OT.callF (vs := [_]) rfl En21 rfl (toRule_s ⟨Gh.le_refl _, PickC.pick, ?_⟩))
   refine RH.ot rfl rfl (OT.callF (vs := [_, _, _, _]) rfl En27 rfl (rv_i (l := ⟨⟨w36, ysw36⟩⟩) (q := q) ⟨Rs.o, RsE.o, RsE.o, RsE.o⟩ (by rw [hew36]; exact hlen) (fun w43 => ⟨Gh.le_refl _, PickC.pick, ?_⟩)))
   refine RH.pv rfl (fun _ _ _ _ h => h) (Gh.le_refl _) PickC.pick rfl (PV.move (v := .tuple _) rfl rfl) ?_
   refine RH.pv rfl (fun _ _ _ _ h => h) (Gh.le_refl _) PickC.pick rfl (PV.ext (v := w43) rfl rfl rfl) ?_
   refine RH.pv rfl (fun _ _ _ _ h => h) (Gh.le_refl _) PickC.pick rfl (PV.ext rfl rfl rfl) ?_
   refine RH.pv rfl (fun _ _ _ _ h => h) (Gh.le_refl _) PickC.pick rfl (PV.asg (v := w43) rfl rfl) ?_
   refine RH.pv rfl (fun _ _ _ _ h => h) (Gh.le_refl _) PickC.pick rfl (PV.mvI (.inr rfl) rfl) ?_
   refine RH.nil ?_
   refine WP.seq (WP.seq (WP.region (RG.pv rfl (PV.move (v := w43) rfl rfl) (RG.pv rfl (PV.move (v := w32) rfl rfl) ?_))))
   refine RG.callF (vs := [w43, w32]) rfl rfl En23 rfl (eqRectS_s Rs.o Rs.o ?_)
   refine RG.pv rfl (PV.not rfl rfl) (RG.bl rfl rfl rfl ?_)
   refine RG.gs rfl rfl rfl (fun hp => (PV.mvI (.inl rfl) rfl)) ?_
   refine RG.gs rfl rfl rfl (fun hp => (PV.mvI (.inl rfl) rfl)) ?_
   refine RG.gs rfl rfl rfl (fun hp => (PV.neq rfl (gs_t hp) (gs_t hp))) ?_
   refine RG.pv rfl (PV.pickO rfl rfl rfl (fun hq => gs_t (geqF hq))) (RG.nil ?_)
   rw [hew27, hew36]
   refine WP.cond rfl (fun h3 => ?_) (fun h3 => ?_)
   · simp at h3
   · refine WP.skip ?_
     refine WP.seq (WP.seq ?_)
     refine WP.regionH0 (.q 0 (.q 1 (.l 2 (.l 3 (.q 4 Sch.nil))))) (by kernel_rfl) (by kernel_rfl) (by kernel_rfl) rfl ?_
     refine RH.pv rfl (fun _ _ _ _ h => h) (Gh.le_refl _) PickC.pick rfl (PV.loadW rfl Ag35 rfl rfl) ?_
     refine RH.pv rfl (fun _ _ _ _ h => h) (Gh.le_refl _) PickC.pick rfl (PV.loadW rfl Ag24 rfl rfl) ?_
     refine RH.ot rfl rfl (OT.callF (vs := [_]) rfl En10 rfl (toLib_s hA.up hf (fun w57 ysw57 hew57 => ⟨Gh.le_refl _, PickC.pick, ?_⟩)))
     refine RH.ot rfl rfl (OT.callF (vs := [_, _]) rfl En14 rfl (eqLib_s (l := ⟨⟨w36, ysw36⟩⟩) (m := ⟨⟨w57, ysw57⟩⟩) ⟨Rs.o, RsE.o, RsE.o, RsE.o⟩ ⟨Rs.o, RsE.o, RsE.o, RsE.o⟩ (by rw [hew36, hew57]) ⟨Gh.le_refl _, PickC.pick, ?_⟩))
     refine RH.pv rfl (fun _ _ _ _ h => h) (Gh.le_refl _) PickC.pick rfl (PV.not rfl rfl) ?_
     refine RH.nil ?_
     refine WP.cond rfl (fun h4 => ?_) (fun h4 => ?_)
     · simp at h4
     · refine WP.skip ?_
       refine WP.seq (WP.region (RG.mr rfl rfl rfl (RG.nil (WP.seq (WP.region (RG.pv rfl (PV.loadW rfl Ag35 rfl rfl) (RG.ml rfl rfl rfl ?_)))))))
       refine RG.callF (vs := [_, _]) rfl rfl En16 rfl (CallT.exBg (ins ysw36) (CallT.exBg (lbs ysw36) (CallT.exBg (shs ysw36) (CallT.exS w36 (markLib_s (l := ⟨⟨w36, ysw36⟩⟩) (by rw [hew36]; exact hf) (by omega) (fun km hkm => ?_))))))
       refine RG.mr rfl rfl rfl (RG.nil (WP.seq (WP.seq (WP.region (RG.ml rfl rfl rfl (RG.pv rfl (PV.lss rfl rfl rfl) (RG.bl rfl rfl rfl ?_)))))))
       refine RG.gs rfl rfl rfl (fun hp => (PV.move (v := w43) rfl rfl)) ?_
       refine RG.gs rfl rfl rfl (fun hp => (PV.move (v := w32) rfl rfl)) ?_
       refine RG.gsC rfl rfl rfl rfl En23 (fun hp => ⟨_, (acons (gs_t hp) (acons (gs_t hp) anil)), eqRectS_s Rs.o Rs.o ⟨rfl, rfl, rfl⟩⟩) ?_
       refine RG.gs rfl rfl rfl (fun hp => (PV.not rfl (gs_t hp))) ?_
       refine RG.pv rfl (PV.pickO rfl rfl rfl (fun hq => gs_t (geqF hq))) (RG.bl rfl rfl rfl ?_)
       refine RG.gs rfl rfl rfl (fun hp => (PV.mvI (.inl rfl) rfl)) ?_
       refine RG.gs rfl rfl rfl (fun hp => (PV.mvI (.inl rfl) rfl)) ?_
       refine RG.gs rfl rfl rfl (fun hp => (PV.neq rfl (gs_t hp) (gs_t hp))) ?_
       refine RG.pv rfl (PV.pickO rfl rfl rfl (fun hq => gs_t (geqF hq))) (RG.nil ?_)
       refine WP.cond rfl (fun h5 => ?_) (fun h5 => ?_)
       · exfalso
         have : ¬ km < 0 := by omega
         simp [this] at h5
       · skip
         refine WP.skip (WP.seq (WP.region (RG.mr rfl rfl rfl (RG.nil (WP.seq (WP.region (RG.pv rfl (PV.move (v := w43) rfl rfl) ?_)))))))
         refine RG.ml rfl rfl rfl ?_
         refine RG.callF (vs := [w43, _]) rfl rfl En24 rfl (CallT.exS w43 (markRectS_s (by omega) (by omega) ?_))
         refine RG.mr rfl rfl rfl (RG.nil (WP.seq (WP.region (RG.mr rfl rfl rfl (RG.nil (WP.seq (WP.region ?_)))))))
         refine RG.pv rfl (PV.move (v := w43) rfl rfl) (RG.ml rfl rfl rfl ?_)
         refine RG.callF (vs := [w43, _]) rfl rfl En25 rfl (heldRectS_s Rs.o (by omega) (by omega) ?_)
         refine RG.mr rfl rfl rfl (RG.nil (WP.seq (WP.seq (WP.region (RG.ml rfl rfl rfl (RG.pv rfl (PV.lss rfl rfl rfl) (RG.nil ?_)))))))
         refine WP.cond rfl (fun h6 => ?_) (fun h6 => ?_)
         · simp at h6; omega
         · refine WP.skip ?_
           refine WP.seq (WP.seq (WP.region (RG.ml rfl rfl rfl (RG.ml rfl rfl rfl (RG.pv rfl (PV.neq rfl rfl rfl) (RG.nil ?_))))))
           refine WP.cond rfl (fun h7 => ?_) (fun h7 => ?_)
           · simp at h7
           · skip
             refine WP.skip (WP.seq ?_)
             refine WP.regionH0 (.q 0 (.q 2 (.q 3 (.q 4 (.l 1 (.l 5 (.l 6 (.q 7 (.q 8 (.q 9 (.q 10 (.q 11 Sch.nil)))))))))))) (by kernel_rfl) (by kernel_rfl) (by kernel_rfl) rfl ?_
             refine RH.pv rfl (fun _ _ _ _ h => h) (Gh.le_refl _) PickC.pick rfl (PV.loadW rfl Ag24 rfl rfl) ?_
             refine RH.pv rfl (fun _ _ _ _ h => h) (Gh.le_refl _) PickC.pick rfl (PV.mvI (.inl rfl) rfl) ?_
             refine RH.pv rfl (fun _ _ _ _ h => h) (Gh.le_refl _) PickC.pick rfl (PV.mvI (.inl rfl) rfl) ?_
             refine RH.pv rfl (fun _ _ _ _ h => h) (Gh.le_refl _) PickC.pick rfl (PV.loadW rfl Ag49 rfl rfl) ?_
             refine RH.ot rfl rfl (OT.callF (vs := [_]) rfl En10 rfl (toLib_s hA.up hf (fun w89 ysw89 hew89 => ⟨Gh.le_refl _, PickC.pick, ?_⟩)))
             refine RH.ot rfl rfl (OT.callF (vs := [_]) rfl En21 rfl (toRule_s ⟨Gh.le_refl _, PickC.pick, ?_⟩))
             refine RH.ot rfl rfl (OT.callF (vs := [_, _, _, _]) rfl En27 rfl (rv_i (l := ⟨⟨w89, ysw89⟩⟩) (q := q) ⟨Rs.o, RsE.o, RsE.o, RsE.o⟩ (by rw [hew89]; exact hlen) (fun w94 => ⟨Gh.le_refl _, PickC.pick, ?_⟩)))
             refine RH.pv rfl (fun _ _ _ _ h => h) (Gh.le_refl _) PickC.pick rfl (PV.move (v := .tuple _) rfl rfl) ?_
             refine RH.pv rfl (fun _ _ _ _ h => h) (Gh.le_refl _) PickC.pick rfl (PV.ext (v := w94) rfl rfl rfl) ?_
             refine RH.pv rfl (fun _ _ _ _ h => h) (Gh.le_refl _) PickC.pick rfl (PV.ext rfl rfl rfl) ?_
             refine RH.pv rfl (fun _ _ _ _ h => h) (Gh.le_refl _) PickC.pick rfl (PV.asg (v := w94) rfl rfl) ?_
             refine RH.pv rfl (fun _ _ _ _ h => h) (Gh.le_refl _) PickC.pick rfl (PV.mvI (.inr rfl) rfl) ?_
             refine RH.nil ?_
             refine WP.seq (WP.seq (WP.region (RG.pv rfl (PV.move (v := w94) rfl rfl) (RG.pv rfl (PV.move (v := w32) rfl rfl) ?_))))
             refine RG.callF (vs := [w94, w32]) rfl rfl En23 rfl (eqRectS_s Rs.o Rs.o ?_)
             refine RG.pv rfl (PV.not rfl rfl) (RG.bl rfl rfl rfl ?_)
             refine RG.gs rfl rfl rfl (fun hp => (PV.mvI (.inl rfl) rfl)) ?_
             refine RG.gs rfl rfl rfl (fun hp => (PV.mvI (.inl rfl) rfl)) ?_
             refine RG.gs rfl rfl rfl (fun hp => (PV.neq rfl (gs_t hp) (gs_t hp))) ?_
             refine RG.pv rfl (PV.pickO rfl rfl rfl (fun hq => gs_t (geqF hq))) (RG.nil ?_)
             refine WP.cond rfl (fun h8 => ?_) (fun h8 => ?_)
             · simp [hew89] at h8
             · skip
               refine WP.skip (WP.seq (WP.region (RG.mr rfl rfl rfl (RG.nil (WP.seq (WP.region (RG.pv rfl (PV.move (v := w43) rfl rfl) ?_)))))))
               refine RG.ml rfl rfl rfl ?_
               refine RG.callF (vs := [w43, _]) rfl rfl En25 rfl (heldRectS_s Rs.o (by omega) (by omega) ?_)
               refine RG.mr rfl rfl rfl (RG.nil (WP.seq (WP.seq (WP.region (RG.ml rfl rfl rfl (RG.pv rfl (PV.lss rfl rfl rfl) (RG.nil ?_)))))))
               refine WP.cond rfl (fun h9 => ?_) (fun h9 => ?_)
               · simp at h9; omega
               · refine WP.skip ?_
                 refine WP.seq (WP.seq (WP.region (RG.ml rfl rfl rfl (RG.ml rfl rfl rfl (RG.pv rfl (PV.neq rfl rfl rfl) (RG.nil ?_))))))
                 refine WP.cond rfl (fun h10 => ?_) (fun h10 => ?_)
                 · simp at h10
                 · refine WP.skip ?_
                   refine WP.seq (WP.region (RG.br rfl rfl rfl (RG.nil ?_)))
                   refine WP.ret ?_
                   exact ⟨_, _, ResV.one rfl rfl, Cv.p, k⟩
end Go.Proofs.YtgphjofccckloaaGreat
namespace Go.Proofs.YtgphjofccckloaaGreat
set_option linter.unusedVariables false
set_option linter.unusedSimpArgs false
open Go Go.ChangeShapes Go.WideShapes Go.ChangeAt Go.RowKit Go.Deep
set_option linter.unusedVariables false
def Gw (w : World) : Gh := ⟨wh w, w.os, w.tape, w.output, w.drawn⟩
theorem St.start (w : World) : St (Gw w) [] w := ⟨fun _ => none, trivial, Hp.le_refl _, (fun _ _ h => by cases h), fun _ => .inl rfl, rfl, rfl, rfl, Nat.le_refl _⟩
/-- behind a call that began in W, all of W's blocks are as they were -/
theorem St.below {W w' : World} {G : Gh} {L : List Ch} (l : Gh.le (Gw W) G) (h : St G L w') : Below W.heap.size W w' := by
 obtain ⟨hp, s, l1, l2, d, ok⟩ := h
 have ok' := Gh.le_ok l ok
 have up := Hp.le_trans l.1 l1
 have key : ∀ k, k < W.heap.size → w'.heap[k]? = W.heap[k]? := fun k hk => by
   have : (Gw W).f k = some W.heap[k] := by simp [Gw, wh, hk]
   have h2 := up k _ this
   simp only [wh] at h2
   rw [h2]; simp [hk]
 refine ⟨ok'.1, ok'.2.1, ok'.2.2.1, ?_, key⟩
 by_cases h0 : W.heap.size = 0
 · omega
 · have := key (W.heap.size - 1) (by omega)
   rw [Array.getElem?_eq_getElem (by omega : W.heap.size - 1 < W.heap.size)] at this
   have := (Array.getElem?_eq_some_iff.1 this).1
   omega
def Opn {ρ : Type} (P : Program) (t : TypeId) (F : FT ρ) (ok : Gh → ρ → Prop) : Prop :=
  ∀ {H : Type} {enc : TypeId × Value → H} {w : World} {fuel : Nat} {cs : List Value} {x : DataW H × List MemPlace}, DataW.trod enc P w 0 (fun _ => true) true fuel t cs = some x → ∃ a : ρ, cs = F.enc a ∧ ok (Gw w) a
def okI (_ : Gh) (n : Int) : Prop := -9223372036854775808 ≤ n ∧ n ≤ 9223372036854775807
def okS (_ : Gh) (s : ByteArray) : Prop := s.size ≤ 9223372036854775807
def okL {ρ : Type} [Inhabited ρ] (F : FT ρ) (ok : Gh → ρ → Prop) (G : Gh) (v : Value) : Prop := ∃ xs : List ρ, SL G F v xs ∧ ∀ i, i < xs.length → ok G (gd xs i)
section
variable {P : Program} {t e : TypeId}
theorem opnI (ht : P.underlying t = some (.int .i64)) : Opn P t intT okI := fun h => by
 obtain ⟨n, rfl, _, hw⟩ := DataW.trod_int ht h
 refine ⟨n, rfl, ?_⟩
 have : IntKind.i64.min ≤ n ∧ n ≤ IntKind.i64.max := by simpa [Lit.wf] using hw
 simp only [show IntKind.i64.min = -9223372036854775808 from rfl, show IntKind.i64.max = 9223372036854775807 from rfl] at this
 exact this
theorem opnS (ht : P.underlying t = some .string) : Opn P t strT okS := fun h => by
 obtain ⟨s, rfl, _, hs⟩ := DataW.trod_string ht h
 refine ⟨s, rfl, ?_⟩
 simp only [maxLen] at hs
 exact (by omega : s.size ≤ 9223372036854775807)
theorem cells_get {w : World} {a : Addr} {n : Nat} {cs : List Value} (h : w.cells? 0 a n = some cs) : cs.length = n ∧ ∀ j c, cs[j]? = some c → w.cell? (a.add j) = some c := by
 obtain ⟨_, h1, h2⟩ := World.cells?_some h
 refine ⟨h1, fun j c hc => ?_⟩
 have hj := (List.getElem?_eq_some_iff.1 hc).1
 rw [h2 j (by omega), hc]
theorem opnL {ρ : Type} [Inhabited ρ] {F : FT ρ} {ok : Gh → ρ → Prop} (ht : P.underlying t = some (.slice e)) (hE : Opn P e F ok) (hc : P.cellsOf e = F.sz) (h0 : 0 < F.sz) : Opn P t rawT (okL F ok) := fun {H enc w fuel cs x} h => by
 rcases open_slice ht h with ⟨rfl, _⟩ | ⟨a, len, cap, m, n, D, Pl, rfl, _, hl, hm, hmm, _, hel⟩
 · exact ⟨_, rfl, [], ⟨⟨0, Nat.le_refl _, Nat.zero_le _, .inr ⟨⟨_, rfl⟩, rfl⟩⟩, fun j c hj => by simp [FT.flat] at hj⟩, fun i hi => by simp at hi⟩
 have hmcap : m = cap := by simpa using hmm
 refine ⟨.slice (some a) len cap, rfl, ?_⟩
 have hall : ∀ i, i < len → ∃ r : ρ, w.cells? 0 (a.add (i * F.sz)) F.sz = some (F.enc r) ∧ ok (Gw w) r := fun i hi => by
   obtain ⟨cs', h1, h2⟩ := hel i (by omega)
   obtain ⟨r, rfl, hr⟩ := hE h2
   rw [hc] at h1
   exact ⟨r, h1, hr⟩
 have : ∃ f : Nat → ρ, ∀ i, i < len → w.cells? 0 (a.add (i * F.sz)) F.sz = some (F.enc (f i)) ∧ ok (Gw w) (f i) := choose_lt hall
 obtain ⟨f, hf⟩ := this
 have hlen : ((List.range len).map f).length = len := by simp
 have hget : ∀ i, i < len → ((List.range len).map f)[i]? = some (f i) := fun i hi => by simp [hi]
 have hsp : len ≠ 0 → a.spot = none := fun hz => by
   obtain ⟨h1, _⟩ := hf 0 (by omega)
   obtain ⟨hl1, hg⟩ := cells_get h1
   cases hq : (F.enc (f 0))[0]? with
   | none => rw [List.getElem?_eq_none_iff] at hq; omega
   | some c =>
     have hcell := hg 0 c hq
     cases hs : a.spot with
     | none => rfl
     | some s =>
       exfalso
       have h3 : ((a.add (0 * F.sz)).add 0).spot.isSome = true := by simp [Addr.add, hs]
       unfold World.cell? at hcell
       split at hcell
       · rw [if_pos h3] at hcell; cases hcell
       · cases hcell
 refine ⟨(List.range len).map f, ⟨⟨cap, by simpa using hl, hm, ?_⟩, ?_⟩, fun i hi => ?_⟩
 · by_cases hz : len = 0
   · exact .inr ⟨⟨some a, by simp⟩, by simpa using hz⟩
   · refine .inl ⟨a.block, a.off, ?_⟩
     have hsp := hsp hz
     simp only [hlen]
     obtain ⟨ab, ao, az⟩ := a
     simp only at hsp
     subst hsp; rfl
 · intro j c hj
   by_cases hz : len = 0
   · subst hz; simp [FT.flat] at hj
   have hsp := hsp hz
   have hjl : j < len * F.sz := by
     have := (List.getElem?_eq_some_iff.1 hj).1
     rwa [FT.flat_len, hlen] at this
   have hq : j / F.sz < len := (Nat.div_lt_iff_lt_mul h0).2 hjl
   have hr : j % F.sz < F.sz := Nat.mod_lt _ h0
   have hjd : j / F.sz * F.sz + j % F.sz = j := by rw [Nat.mul_comm]; exact Nat.div_add_mod j F.sz
   obtain ⟨h1, _⟩ := hf (j / F.sz) hq
   obtain ⟨_, hg⟩ := cells_get h1
   have hc' : (F.enc (f (j / F.sz)))[j % F.sz]? = some ((F.enc (f (j / F.sz)))[j % F.sz]'(by rw [F.len]; exact hr)) := List.getElem?_eq_getElem _
   have hfl := F.flat_get (hget _ hq) hc'
   rw [hjd, hj] at hfl
   have hcell := hg _ _ hc'
   obtain ⟨ab, ao, az⟩ := a
   simp only at hsp
   subst hsp
   rw [add_none, add_none, cell_hc, Nat.add_assoc, hjd] at hcell
   simp only [sb, so, Gw]
   rw [hcell]; exact hfl.symm
 · have hi' : i < len := by simpa using hi
   have : gd ((List.range len).map f) i = f i := by simp [gd, hi']
   rw [this]; exact (hf i hi').2
end
def okSl {ρ : Type} [Inhabited ρ] (F : FT ρ) (ok : Gh → ρ → Prop) (G : Gh) (s : Sl ρ) : Prop := SL G F s.v s.xs ∧ ∀ i, i < s.xs.length → ok G (gd s.xs i)
theorem opnSl {P : Program} {t e : TypeId} {ρ : Type} [Inhabited ρ] {F : FT ρ} {ok : Gh → ρ → Prop} (ht : P.underlying t = some (.slice e)) (hE : Opn P e F ok) (hc : P.cellsOf e = F.sz) (h0 : 0 < F.sz) : Opn P t slT (okSl F ok) := fun h => by
 obtain ⟨v, rfl, xs, h1, h2⟩ := opnL ht hE hc h0 h
 exact ⟨⟨v, xs⟩, rfl, h1, h2⟩
section
variable {P : Program} {t e : TypeId} {H : Type} {enc : TypeId × Value → H} {W : World} {r : Reach} {base : Nat} {v : Value} {d : DataW H} {ps : List MemPlace}
theorem argI (ht : P.underlying t = some (.int .i64)) (hv : Value.okWide P W r base t v) (h : DataW.Trod enc P W 0 (fun _ => true) true t v d ps) : ∃ n, v = vi n ∧ okI (Gw W) n := by
 obtain ⟨n, rfl⟩ := okWide_int ht hv
 obtain ⟨fuel, hf⟩ := h
 obtain ⟨m, e1, hm⟩ := opnI ht hf
 simp [Value.cells, intT] at e1
 exact ⟨n, rfl, e1 ▸ hm⟩
theorem argT {ρ : Type} {F : FT ρ} {ok : Gh → ρ → Prop} {fs : Array Field} (ht : P.underlying t = some (.struct fs)) (hO : Opn P t F ok) (hv : Value.okWide P W r base t v) (h : DataW.Trod enc P W 0 (fun _ => true) true t v d ps) : ∃ a, v = vT F a ∧ ok (Gw W) a := by
 obtain ⟨cs, rfl, _⟩ := okWide_struct ht hv
 obtain ⟨fuel, hf⟩ := h
 obtain ⟨m, e1, hm⟩ := hO hf
 simp only [Value.cells] at e1
 exact ⟨m, by simp only [vT]; rw [← e1], hm⟩
theorem trodAll_stays (hl : laidOutB P = true) {W' : World} (hb : Below W.heap.size W W') : ∀ {ts : List TypeId} {vs : List Value} {ds : List (DataW H)} {ps : List MemPlace}, (∀ t ∈ ts, P.readableRec t = true ∧ t < P.types.size) → (∀ x ∈ ps, x.block < W.heap.size) →
   DataW.TrodAll enc P W 0 (fun _ => true) true ts vs ds ps → DataW.TrodAll enc P W' 0 (fun b => decide (b < W.heap.size)) true ts vs ds ps
 | [], [], [], _, _, _, h => h
 | t :: ts, v :: vs, d :: ds, ps, hr, hlt, h => by
   obtain ⟨p, q, h1, h2, rfl⟩ := h
   have := hr t (.head _)
   exact ⟨p, q, Below.trod hl this.1 this.2 h1 hb (fun x hx => hlt x (List.mem_append_left _ hx)), trodAll_stays hl hb (fun t ht => hr t (.tail _ ht)) (fun x hx => hlt x (List.mem_append_right _ hx)) h2, rfl⟩
end
def recsB (P : Program) (ts : List TypeId) : Bool := ts.all fun t => P.readableRec t && Nat.blt t P.types.size
theorem recs_of {P : Program} {ts : List TypeId} (h : recsB P ts = true) : ∀ t ∈ ts, P.readableRec t = true ∧ t < P.types.size := by
 intro t ht
 have := List.all_eq_true.1 h t ht
 simp only [Bool.and_eq_true] at this
 exact ⟨this.1, Nat.le_of_ble_eq_true this.2⟩
/-- A LAW, LIFTED: the call returns true, the arguments read as they did. -/
theorem law_lifted {H : Type} {enc : TypeId × Value → H} {C : Checked} {os : Os} {f : FuncId} {fn : Func} {s : ChangeSpec} {tb : TypeId} (own : ownKnob C.prog.godebug = none) (started : os.Started) (noInit : C.prog.inits.idxOf? f = none) (hfn : C.prog.funcs[f]? = some fn) (hl : laidOutB C.prog = true)
   (hvars : s.vars = []) (hr : recsB C.prog fn.params.toList = true) (hres : fn.resultTypes = #[tb]) (htb : C.prog.underlying tb = some .bool)
   (hsp : ∀ ds : List (DataW H), ds.length = fn.params.toList.length → s.fn H ds = { results := [.lit (.bool true)], args := ds })
   (witness : ∃ (w : World) (tape : Tape) (i : Input), w.os = os ∧ (w.forCall tape i).Shaped C.prog ∧ i.vars = [] ∧ Input.okWide C.prog (w.forCall tape i) .any w.heap.size f i ∧
     s.pre6 enc C.prog fn [] false (w.forCall tape i).memory i.args ∧ ({} : Assume).holds C.prog (lone (Frame.enter C.prog f i.args .normal) [] (w.forCall tape i)))
   (walk : ∀ (W : World) (base : Nat) (args : Array Value) (ds : List (DataW H)) (ps : List MemPlace), (∀ (j : Nat) t v, fn.params[j]? = some t → args[j]? = some v → Value.okWide C.prog W .any base t v) →
     DataW.TrodAll enc C.prog W 0 (fun _ => true) true fn.params.toList args.toList ds ps → CallT C.prog f args (Gw W) [] fun v G _ => v = .bool true ∧ Gh.le (Gw W) G) :
   ReturnsInHanded {} C os f .any (s.pre6 enc C.prog fn [] false) (s.post enc C.prog fn false true false false) := by
 refine returnsInHanded_of_change own started noInit hfn witness ?_
 intro W base args ds gs before hval hW _ _
 have hW' := hW
 obtain ⟨p, q, hA, hV, rfl, hfz, hnd⟩ := hW
 rw [hvars] at hV
 obtain ⟨rfl, rfl⟩ := trodVars_none hV
 refine ((walk W base args ds p hval hA).run (St.start W)).mono ?_
 rintro e W' ⟨v, G, L, rfl, hs, rfl, hG⟩
 have hb := hs.below hG
 have hlt : ∀ x ∈ p, x.block < W.heap.size := fun x hx => hW'.lt x (List.mem_append_left _ hx)
 have hlen : ds.length = fn.params.toList.length := by
   have : ∀ (ts : List TypeId) (vs : List Value) (ds : List (DataW H)) (ps : List MemPlace), DataW.TrodAll enc C.prog W 0 (fun _ => true) true ts vs ds ps → ds.length = ts.length := by
     intro ts
     induction ts with
     | nil => intro vs ds ps h; cases vs <;> cases ds <;> simp_all [DataW.TrodAll]
     | cons t ts ih =>
       intro vs ds ps h
       cases vs <;> cases ds <;> simp only [DataW.TrodAll] at h
       obtain ⟨_, _, _, h2, _⟩ := h
       simp [ih _ _ _ h2]
   exact this _ _ _ _ hA
 refine ⟨_, rfl, ds, [], _, [], p, [], hW', ?_, ?_, ?_, hb.frame _, fun h => by cases h⟩
 · rw [List.append_nil, hsp ds hlen, hres]
   exact trodAll_mk1 (shut_bool htb true)
 · rw [List.append_nil, hsp ds hlen]
   exact trodAll_stays hl hb (recs_of hr) hlt hA
 · rw [List.append_nil, hsp ds hlen, hvars]
   exact rfl
end Go.Proofs.YtgphjofccckloaaGreat
namespace Go.Proofs.YtgphjofccckloaaGreat
set_option linter.unusedVariables false
set_option linter.unusedSimpArgs false
open Go Go.ChangeShapes Go.WideShapes Go.ChangeAt Go.RowKit
set_option linter.unusedSimpArgs false
set_option maxRecDepth 100000
theorem Tryz.own : ownKnob Tryz.prog.godebug = none := by kernel_rfl
theorem Tryz.laidOut : laidOutB Tryz.prog = true := by kernel_rfl
def okrectT (G : Gh) (a : Rect) : Prop := okI G a.x0 ∧ okI G a.y0 ∧ okI G a.x1 ∧ okI G a.y1
theorem opn243 : Opn Tryz.prog 243 rectT okrectT := fun {H enc w fuel cs x} h => by
 obtain ⟨xs, n, _, _, hl, hx, hf⟩ := DataW.trod_struct Tryz.underlying243 h
 rw [show Tryz.prog.cellsOf 243 = 4 by kernel_rfl] at hl
 obtain ⟨c0, c1, c2, c3, rfl⟩ : ∃ c0 c1 c2 c3, cs = [c0, c1, c2, c3] := by
   match cs, hl with
   | [c0, c1, c2, c3], _ => exact ⟨c0, c1, c2, c3, rfl⟩
 have g0 := hf 0 _ rfl
 simp only [List.getElem_toArray, List.getElem_cons_zero, List.getElem_cons_succ] at g0
 rw [show Tryz.prog.cellsOf 2 = 1 by kernel_rfl] at g0
 obtain ⟨x0, y0⟩ : ∃ x, xs[0]? = some x := ⟨_, List.getElem?_eq_getElem (by rw [hx]; decide)⟩
 rw [y0] at g0
 obtain ⟨a0, e0, o0⟩ := (opnI Tryz.underlying2) g0
 have g1 := hf 1 _ rfl
 simp only [List.getElem_toArray, List.getElem_cons_zero, List.getElem_cons_succ] at g1
 rw [show Tryz.prog.cellsOf 2 = 1 by kernel_rfl] at g1
 obtain ⟨x1, y1⟩ : ∃ x, xs[1]? = some x := ⟨_, List.getElem?_eq_getElem (by rw [hx]; decide)⟩
 rw [y1] at g1
 obtain ⟨a1, e1, o1⟩ := (opnI Tryz.underlying2) g1
 have g2 := hf 2 _ rfl
 simp only [List.getElem_toArray, List.getElem_cons_zero, List.getElem_cons_succ] at g2
 rw [show Tryz.prog.cellsOf 2 = 1 by kernel_rfl] at g2
 obtain ⟨x2, y2⟩ : ∃ x, xs[2]? = some x := ⟨_, List.getElem?_eq_getElem (by rw [hx]; decide)⟩
 rw [y2] at g2
 obtain ⟨a2, e2, o2⟩ := (opnI Tryz.underlying2) g2
 have g3 := hf 3 _ rfl
 simp only [List.getElem_toArray, List.getElem_cons_zero, List.getElem_cons_succ] at g3
 rw [show Tryz.prog.cellsOf 2 = 1 by kernel_rfl] at g3
 obtain ⟨x3, y3⟩ : ∃ x, xs[3]? = some x := ⟨_, List.getElem?_eq_getElem (by rw [hx]; decide)⟩
 rw [y3] at g3
 obtain ⟨a3, e3, o3⟩ := (opnI Tryz.underlying2) g3
 clear hf hx hl
 refine ⟨⟨a0, a1, a2, a3⟩, ?_, o0, o1, o2, o3⟩
 simp [intT] at e0 e1 e2 e3
 simp [intT, rectT, e0, e1, e2, e3]
def okshapeT (G : Gh) (a : Shape) : Prop := okI G a.layer ∧ okrectT G a.box
theorem opn245 : Opn Tryz.prog 245 shapeT okshapeT := fun {H enc w fuel cs x} h => by
 obtain ⟨xs, n, _, _, hl, hx, hf⟩ := DataW.trod_struct Tryz.underlying245 h
 rw [show Tryz.prog.cellsOf 245 = 5 by kernel_rfl] at hl
 obtain ⟨c0, c1, c2, c3, c4, rfl⟩ : ∃ c0 c1 c2 c3 c4, cs = [c0, c1, c2, c3, c4] := by
   match cs, hl with
   | [c0, c1, c2, c3, c4], _ => exact ⟨c0, c1, c2, c3, c4, rfl⟩
 have g0 := hf 0 _ rfl
 simp only [List.getElem_toArray, List.getElem_cons_zero, List.getElem_cons_succ] at g0
 rw [show Tryz.prog.cellsOf 2 = 1 by kernel_rfl] at g0
 obtain ⟨x0, y0⟩ : ∃ x, xs[0]? = some x := ⟨_, List.getElem?_eq_getElem (by rw [hx]; decide)⟩
 rw [y0] at g0
 obtain ⟨a0, e0, o0⟩ := (opnI Tryz.underlying2) g0
 have g1 := hf 1 _ rfl
 simp only [List.getElem_toArray, List.getElem_cons_zero, List.getElem_cons_succ] at g1
 rw [show Tryz.prog.cellsOf 243 = 4 by kernel_rfl] at g1
 obtain ⟨x1, y1⟩ : ∃ x, xs[1]? = some x := ⟨_, List.getElem?_eq_getElem (by rw [hx]; decide)⟩
 rw [y1] at g1
 obtain ⟨a1, e1, o1⟩ := opn243 g1
 clear hf hx hl
 refine ⟨⟨a0, a1⟩, ?_, o0, o1⟩
 simp [intT, rectT] at e0 e1
 simp [intT, rectT, shapeT, e0, e1]
def okptT (G : Gh) (a : Pt) : Prop := okI G a.x ∧ okI G a.y
theorem opn236 : Opn Tryz.prog 236 ptT okptT := fun {H enc w fuel cs x} h => by
 obtain ⟨xs, n, _, _, hl, hx, hf⟩ := DataW.trod_struct Tryz.underlying236 h
 rw [show Tryz.prog.cellsOf 236 = 2 by kernel_rfl] at hl
 obtain ⟨c0, c1, rfl⟩ : ∃ c0 c1, cs = [c0, c1] := by
   match cs, hl with
   | [c0, c1], _ => exact ⟨c0, c1, rfl⟩
 have g0 := hf 0 _ rfl
 simp only [List.getElem_toArray, List.getElem_cons_zero, List.getElem_cons_succ] at g0
 rw [show Tryz.prog.cellsOf 2 = 1 by kernel_rfl] at g0
 obtain ⟨x0, y0⟩ : ∃ x, xs[0]? = some x := ⟨_, List.getElem?_eq_getElem (by rw [hx]; decide)⟩
 rw [y0] at g0
 obtain ⟨a0, e0, o0⟩ := (opnI Tryz.underlying2) g0
 have g1 := hf 1 _ rfl
 simp only [List.getElem_toArray, List.getElem_cons_zero, List.getElem_cons_succ] at g1
 rw [show Tryz.prog.cellsOf 2 = 1 by kernel_rfl] at g1
 obtain ⟨x1, y1⟩ : ∃ x, xs[1]? = some x := ⟨_, List.getElem?_eq_getElem (by rw [hx]; decide)⟩
 rw [y1] at g1
 obtain ⟨a1, e1, o1⟩ := (opnI Tryz.underlying2) g1
 clear hf hx hl
 refine ⟨⟨a0, a1⟩, ?_, o0, o1⟩
 simp [intT] at e0 e1
 simp [intT, ptT, e0, e1]
def oklabelT (G : Gh) (a : Label) : Prop := okI G a.layer ∧ okptT G a.at_ ∧ okS G a.name
theorem opn238 : Opn Tryz.prog 238 labelT oklabelT := fun {H enc w fuel cs x} h => by
 obtain ⟨xs, n, _, _, hl, hx, hf⟩ := DataW.trod_struct Tryz.underlying238 h
 rw [show Tryz.prog.cellsOf 238 = 4 by kernel_rfl] at hl
 obtain ⟨c0, c1, c2, c3, rfl⟩ : ∃ c0 c1 c2 c3, cs = [c0, c1, c2, c3] := by
   match cs, hl with
   | [c0, c1, c2, c3], _ => exact ⟨c0, c1, c2, c3, rfl⟩
 have g0 := hf 0 _ rfl
 simp only [List.getElem_toArray, List.getElem_cons_zero, List.getElem_cons_succ] at g0
 rw [show Tryz.prog.cellsOf 2 = 1 by kernel_rfl] at g0
 obtain ⟨x0, y0⟩ : ∃ x, xs[0]? = some x := ⟨_, List.getElem?_eq_getElem (by rw [hx]; decide)⟩
 rw [y0] at g0
 obtain ⟨a0, e0, o0⟩ := (opnI Tryz.underlying2) g0
 have g1 := hf 1 _ rfl
 simp only [List.getElem_toArray, List.getElem_cons_zero, List.getElem_cons_succ] at g1
 rw [show Tryz.prog.cellsOf 236 = 2 by kernel_rfl] at g1
 obtain ⟨x1, y1⟩ : ∃ x, xs[1]? = some x := ⟨_, List.getElem?_eq_getElem (by rw [hx]; decide)⟩
 rw [y1] at g1
 obtain ⟨a1, e1, o1⟩ := opn236 g1
 have g2 := hf 2 _ rfl
 simp only [List.getElem_toArray, List.getElem_cons_zero, List.getElem_cons_succ] at g2
 rw [show Tryz.prog.cellsOf 9 = 1 by kernel_rfl] at g2
 obtain ⟨x2, y2⟩ : ∃ x, xs[2]? = some x := ⟨_, List.getElem?_eq_getElem (by rw [hx]; decide)⟩
 rw [y2] at g2
 obtain ⟨a2, e2, o2⟩ := (opnS Tryz.underlying9) g2
 clear hf hx hl
 refine ⟨⟨a0, a1, a2⟩, ?_, o0, o1, o2⟩
 simp [intT, ptT, strT] at e0 e1 e2
 simp [intT, labelT, ptT, strT, e0, e1, e2]
def oktransT (G : Gh) (a : Trans) : Prop := okI G a.o ∧ okI G a.x ∧ okI G a.y
theorem opn248 : Opn Tryz.prog 248 transT oktransT := fun {H enc w fuel cs x} h => by
 obtain ⟨xs, n, _, _, hl, hx, hf⟩ := DataW.trod_struct Tryz.underlying248 h
 rw [show Tryz.prog.cellsOf 248 = 3 by kernel_rfl] at hl
 obtain ⟨c0, c1, c2, rfl⟩ : ∃ c0 c1 c2, cs = [c0, c1, c2] := by
   match cs, hl with
   | [c0, c1, c2], _ => exact ⟨c0, c1, c2, rfl⟩
 have g0 := hf 0 _ rfl
 simp only [List.getElem_toArray, List.getElem_cons_zero, List.getElem_cons_succ] at g0
 rw [show Tryz.prog.cellsOf 2 = 1 by kernel_rfl] at g0
 obtain ⟨x0, y0⟩ : ∃ x, xs[0]? = some x := ⟨_, List.getElem?_eq_getElem (by rw [hx]; decide)⟩
 rw [y0] at g0
 obtain ⟨a0, e0, o0⟩ := (opnI Tryz.underlying2) g0
 have g1 := hf 1 _ rfl
 simp only [List.getElem_toArray, List.getElem_cons_zero, List.getElem_cons_succ] at g1
 rw [show Tryz.prog.cellsOf 2 = 1 by kernel_rfl] at g1
 obtain ⟨x1, y1⟩ : ∃ x, xs[1]? = some x := ⟨_, List.getElem?_eq_getElem (by rw [hx]; decide)⟩
 rw [y1] at g1
 obtain ⟨a1, e1, o1⟩ := (opnI Tryz.underlying2) g1
 have g2 := hf 2 _ rfl
 simp only [List.getElem_toArray, List.getElem_cons_zero, List.getElem_cons_succ] at g2
 rw [show Tryz.prog.cellsOf 2 = 1 by kernel_rfl] at g2
 obtain ⟨x2, y2⟩ : ∃ x, xs[2]? = some x := ⟨_, List.getElem?_eq_getElem (by rw [hx]; decide)⟩
 rw [y2] at g2
 obtain ⟨a2, e2, o2⟩ := (opnI Tryz.underlying2) g2
 clear hf hx hl
 refine ⟨⟨a0, a1, a2⟩, ?_, o0, o1, o2⟩
 simp [intT] at e0 e1 e2
 simp [intT, transT, e0, e1, e2]
def okinstT (G : Gh) (a : Inst) : Prop := okI G a.cell ∧ oktransT G a.place ∧ okI G a.cols ∧ okI G a.rows ∧ okI G a.sx ∧ okI G a.sy
theorem opn250 : Opn Tryz.prog 250 instT okinstT := fun {H enc w fuel cs x} h => by
 obtain ⟨xs, n, _, _, hl, hx, hf⟩ := DataW.trod_struct Tryz.underlying250 h
 rw [show Tryz.prog.cellsOf 250 = 8 by kernel_rfl] at hl
 obtain ⟨c0, c1, c2, c3, c4, c5, c6, c7, rfl⟩ : ∃ c0 c1 c2 c3 c4 c5 c6 c7, cs = [c0, c1, c2, c3, c4, c5, c6, c7] := by
   match cs, hl with
   | [c0, c1, c2, c3, c4, c5, c6, c7], _ => exact ⟨c0, c1, c2, c3, c4, c5, c6, c7, rfl⟩
 have g0 := hf 0 _ rfl
 simp only [List.getElem_toArray, List.getElem_cons_zero, List.getElem_cons_succ] at g0
 rw [show Tryz.prog.cellsOf 2 = 1 by kernel_rfl] at g0
 obtain ⟨x0, y0⟩ : ∃ x, xs[0]? = some x := ⟨_, List.getElem?_eq_getElem (by rw [hx]; decide)⟩
 rw [y0] at g0
 obtain ⟨a0, e0, o0⟩ := (opnI Tryz.underlying2) g0
 have g1 := hf 1 _ rfl
 simp only [List.getElem_toArray, List.getElem_cons_zero, List.getElem_cons_succ] at g1
 rw [show Tryz.prog.cellsOf 248 = 3 by kernel_rfl] at g1
 obtain ⟨x1, y1⟩ : ∃ x, xs[1]? = some x := ⟨_, List.getElem?_eq_getElem (by rw [hx]; decide)⟩
 rw [y1] at g1
 obtain ⟨a1, e1, o1⟩ := opn248 g1
 have g2 := hf 2 _ rfl
 simp only [List.getElem_toArray, List.getElem_cons_zero, List.getElem_cons_succ] at g2
 rw [show Tryz.prog.cellsOf 2 = 1 by kernel_rfl] at g2
 obtain ⟨x2, y2⟩ : ∃ x, xs[2]? = some x := ⟨_, List.getElem?_eq_getElem (by rw [hx]; decide)⟩
 rw [y2] at g2
 obtain ⟨a2, e2, o2⟩ := (opnI Tryz.underlying2) g2
 have g3 := hf 3 _ rfl
 simp only [List.getElem_toArray, List.getElem_cons_zero, List.getElem_cons_succ] at g3
 rw [show Tryz.prog.cellsOf 2 = 1 by kernel_rfl] at g3
 obtain ⟨x3, y3⟩ : ∃ x, xs[3]? = some x := ⟨_, List.getElem?_eq_getElem (by rw [hx]; decide)⟩
 rw [y3] at g3
 obtain ⟨a3, e3, o3⟩ := (opnI Tryz.underlying2) g3
 have g4 := hf 4 _ rfl
 simp only [List.getElem_toArray, List.getElem_cons_zero, List.getElem_cons_succ] at g4
 rw [show Tryz.prog.cellsOf 2 = 1 by kernel_rfl] at g4
 obtain ⟨x4, y4⟩ : ∃ x, xs[4]? = some x := ⟨_, List.getElem?_eq_getElem (by rw [hx]; decide)⟩
 rw [y4] at g4
 obtain ⟨a4, e4, o4⟩ := (opnI Tryz.underlying2) g4
 have g5 := hf 5 _ rfl
 simp only [List.getElem_toArray, List.getElem_cons_zero, List.getElem_cons_succ] at g5
 rw [show Tryz.prog.cellsOf 2 = 1 by kernel_rfl] at g5
 obtain ⟨x5, y5⟩ : ∃ x, xs[5]? = some x := ⟨_, List.getElem?_eq_getElem (by rw [hx]; decide)⟩
 rw [y5] at g5
 obtain ⟨a5, e5, o5⟩ := (opnI Tryz.underlying2) g5
 clear hf hx hl
 refine ⟨⟨a0, a1, a2, a3, a4, a5⟩, ?_, o0, o1, o2, o3, o4, o5⟩
 simp [intT, transT] at e0 e1 e2 e3 e4 e5
 simp [instT, intT, transT, e0, e1, e2, e3, e4, e5]
def okcellT (G : Gh) (a : Cell) : Prop := okS G a.name ∧ (okSl shapeT okshapeT) G a.shapes ∧ (okSl labelT oklabelT) G a.labels ∧ (okSl instT okinstT) G a.insts
theorem opn124 : Opn Tryz.prog 124 cellT okcellT := fun {H enc w fuel cs x} h => by
 obtain ⟨xs, n, _, _, hl, hx, hf⟩ := DataW.trod_struct Tryz.underlying124 h
 rw [show Tryz.prog.cellsOf 124 = 4 by kernel_rfl] at hl
 obtain ⟨c0, c1, c2, c3, rfl⟩ : ∃ c0 c1 c2 c3, cs = [c0, c1, c2, c3] := by
   match cs, hl with
   | [c0, c1, c2, c3], _ => exact ⟨c0, c1, c2, c3, rfl⟩
 have g0 := hf 0 _ rfl
 simp only [List.getElem_toArray, List.getElem_cons_zero, List.getElem_cons_succ] at g0
 rw [show Tryz.prog.cellsOf 9 = 1 by kernel_rfl] at g0
 obtain ⟨x0, y0⟩ : ∃ x, xs[0]? = some x := ⟨_, List.getElem?_eq_getElem (by rw [hx]; decide)⟩
 rw [y0] at g0
 obtain ⟨a0, e0, o0⟩ := (opnS Tryz.underlying9) g0
 have g1 := hf 1 _ rfl
 simp only [List.getElem_toArray, List.getElem_cons_zero, List.getElem_cons_succ] at g1
 rw [show Tryz.prog.cellsOf 120 = 1 by kernel_rfl] at g1
 obtain ⟨x1, y1⟩ : ∃ x, xs[1]? = some x := ⟨_, List.getElem?_eq_getElem (by rw [hx]; decide)⟩
 rw [y1] at g1
 obtain ⟨a1, e1, o1⟩ := (opnSl Tryz.underlying120 opn245 (by kernel_rfl) (by decide)) g1
 have g2 := hf 2 _ rfl
 simp only [List.getElem_toArray, List.getElem_cons_zero, List.getElem_cons_succ] at g2
 rw [show Tryz.prog.cellsOf 121 = 1 by kernel_rfl] at g2
 obtain ⟨x2, y2⟩ : ∃ x, xs[2]? = some x := ⟨_, List.getElem?_eq_getElem (by rw [hx]; decide)⟩
 rw [y2] at g2
 obtain ⟨a2, e2, o2⟩ := (opnSl Tryz.underlying121 opn238 (by kernel_rfl) (by decide)) g2
 have g3 := hf 3 _ rfl
 simp only [List.getElem_toArray, List.getElem_cons_zero, List.getElem_cons_succ] at g3
 rw [show Tryz.prog.cellsOf 122 = 1 by kernel_rfl] at g3
 obtain ⟨x3, y3⟩ : ∃ x, xs[3]? = some x := ⟨_, List.getElem?_eq_getElem (by rw [hx]; decide)⟩
 rw [y3] at g3
 obtain ⟨a3, e3, o3⟩ := (opnSl Tryz.underlying122 opn250 (by kernel_rfl) (by decide)) g3
 clear hf hx hl
 refine ⟨⟨a0, a1, a2, a3⟩, ?_, o0, o1, o2, o3⟩
 simp [slT, strT] at e0 e1 e2 e3
 simp [cellT, slT, strT, e0, e1, e2, e3]
def oklibT (G : Gh) (a : Lib) : Prop := (okSl cellT okcellT) G a.cells
theorem opn24 : Opn Tryz.prog 24 libT oklibT := fun {H enc w fuel cs x} h => by
 obtain ⟨xs, n, _, _, hl, hx, hf⟩ := DataW.trod_struct Tryz.underlying24 h
 rw [show Tryz.prog.cellsOf 24 = 1 by kernel_rfl] at hl
 obtain ⟨c0, rfl⟩ : ∃ c0, cs = [c0] := by
   match cs, hl with
   | [c0], _ => exact ⟨c0, rfl⟩
 have g0 := hf 0 _ rfl
 simp only [List.getElem_toArray, List.getElem_cons_zero, List.getElem_cons_succ] at g0
 rw [show Tryz.prog.cellsOf 22 = 1 by kernel_rfl] at g0
 obtain ⟨x0, y0⟩ : ∃ x, xs[0]? = some x := ⟨_, List.getElem?_eq_getElem (by rw [hx]; decide)⟩
 rw [y0] at g0
 obtain ⟨a0, e0, o0⟩ := (opnSl Tryz.underlying22 opn124 (by kernel_rfl) (by decide)) g0
 clear hf hx hl
 refine ⟨⟨a0⟩, ?_, o0⟩
 simp [slT] at e0
 simp [libT, slT, e0]
theorem okLib_rl {G : Gh} {L : List Ch} {l : Lib} (h : oklibT G l) : RLib G L l.cells.v l.cells.xs :=
 ⟨Rs.g h.1, fun i hi => by
   have hi' : i < l.cells.xs.length := by simpa [shs] using hi
   rw [shs, gd_map _ hi']; exact Rs.g (h.2 i hi').2.1.1, fun i hi => by
   have hi' : i < l.cells.xs.length := by simpa [lbs] using hi
   rw [lbs, gd_map _ hi']; exact Rs.g (h.2 i hi').2.2.1.1, fun i hi => by
   have hi' : i < l.cells.xs.length := by simpa [ins] using hi
   rw [ins, gd_map _ hi']; exact Rs.g (h.2 i hi').2.2.2.1⟩
theorem okLib_len2 {G : Gh} {l : Lib} (h : oklibT G l) : lenC (erCls l.cells.xs) := fun i hi => by
 rw [erCls_len] at hi
 rw [erCls_gd hi]
 exact ⟨(h.2 i hi).1, fun j hj => ((h.2 i hi).2.2.1.2 j hj).2.2⟩
def okruleT (G : Gh) (a : Rule) : Prop := okI G a.kind ∧ okI G a.layer ∧ okI G a.other ∧ okI G a.value ∧ okI G a.percent
theorem opn49 : Opn Tryz.prog 49 ruleT okruleT := fun {H enc w fuel cs x} h => by
 obtain ⟨xs, n, _, _, hl, hx, hf⟩ := DataW.trod_struct Tryz.underlying49 h
 rw [show Tryz.prog.cellsOf 49 = 5 by kernel_rfl] at hl
 obtain ⟨c0, c1, c2, c3, c4, rfl⟩ : ∃ c0 c1 c2 c3 c4, cs = [c0, c1, c2, c3, c4] := by
   match cs, hl with
   | [c0, c1, c2, c3, c4], _ => exact ⟨c0, c1, c2, c3, c4, rfl⟩
 have g0 := hf 0 _ rfl
 simp only [List.getElem_toArray, List.getElem_cons_zero, List.getElem_cons_succ] at g0
 rw [show Tryz.prog.cellsOf 2 = 1 by kernel_rfl] at g0
 obtain ⟨x0, y0⟩ : ∃ x, xs[0]? = some x := ⟨_, List.getElem?_eq_getElem (by rw [hx]; decide)⟩
 rw [y0] at g0
 obtain ⟨a0, e0, o0⟩ := (opnI Tryz.underlying2) g0
 have g1 := hf 1 _ rfl
 simp only [List.getElem_toArray, List.getElem_cons_zero, List.getElem_cons_succ] at g1
 rw [show Tryz.prog.cellsOf 2 = 1 by kernel_rfl] at g1
 obtain ⟨x1, y1⟩ : ∃ x, xs[1]? = some x := ⟨_, List.getElem?_eq_getElem (by rw [hx]; decide)⟩
 rw [y1] at g1
 obtain ⟨a1, e1, o1⟩ := (opnI Tryz.underlying2) g1
 have g2 := hf 2 _ rfl
 simp only [List.getElem_toArray, List.getElem_cons_zero, List.getElem_cons_succ] at g2
 rw [show Tryz.prog.cellsOf 2 = 1 by kernel_rfl] at g2
 obtain ⟨x2, y2⟩ : ∃ x, xs[2]? = some x := ⟨_, List.getElem?_eq_getElem (by rw [hx]; decide)⟩
 rw [y2] at g2
 obtain ⟨a2, e2, o2⟩ := (opnI Tryz.underlying2) g2
 have g3 := hf 3 _ rfl
 simp only [List.getElem_toArray, List.getElem_cons_zero, List.getElem_cons_succ] at g3
 rw [show Tryz.prog.cellsOf 2 = 1 by kernel_rfl] at g3
 obtain ⟨x3, y3⟩ : ∃ x, xs[3]? = some x := ⟨_, List.getElem?_eq_getElem (by rw [hx]; decide)⟩
 rw [y3] at g3
 obtain ⟨a3, e3, o3⟩ := (opnI Tryz.underlying2) g3
 have g4 := hf 4 _ rfl
 simp only [List.getElem_toArray, List.getElem_cons_zero, List.getElem_cons_succ] at g4
 rw [show Tryz.prog.cellsOf 2 = 1 by kernel_rfl] at g4
 obtain ⟨x4, y4⟩ : ∃ x, xs[4]? = some x := ⟨_, List.getElem?_eq_getElem (by rw [hx]; decide)⟩
 rw [y4] at g4
 obtain ⟨a4, e4, o4⟩ := (opnI Tryz.underlying2) g4
 clear hf hx hl
 refine ⟨⟨a0, a1, a2, a3, a4⟩, ?_, o0, o1, o2, o3, o4⟩
 simp [intT] at e0 e1 e2 e3 e4
 simp [intT, ruleT, e0, e1, e2, e3, e4]
theorem reusedMarkers_lifted (os : Os) (started : os.Started) (H : Type) (enc : TypeId × Value → H) :
   ReturnsInHanded {} Tryz.checked os 5 .any (Rows.fnExactReusedMarkersSpec.pre6 enc Tryz.prog Tryz.f5 [] false) (Rows.fnExactReusedMarkersSpec.post enc Tryz.prog Tryz.f5 false true false false) := by
 refine law_lifted (C := Tryz.checked) Tryz.own started (by kernel_rfl) Tryz.func5 Tryz.laidOut rfl (by kernel_rfl) rfl Tryz.underlying4 (fun ds h => ?_)
   (ChangeSpec.witness6 (enc := enc) (C := Tryz.checked) false ⟨#[], #[.agg #[.slice none 0 0], .int .i64 0, .int .i64 0, .agg #[vi 0, vi 0, vi 0, vi 0, vi 0]], []⟩ 8 (by kernel_rfl) (by kernel_rfl) (by kernel_rfl) (by kernel_rfl)) ?_
 · match ds, h with
   | [d, e, f, g], _ => rfl
 · intro W base args ds ps hval hA
   have hA : DataW.TrodAll enc Tryz.prog W 0 (fun _ => true) true Tryz.f5.params.toList args.toList ds ps := hA
   have hval : ∀ (j : Nat) t v, Tryz.f5.params[j]? = some t → args[j]? = some v → Value.okWide Tryz.prog W .any base t v := hval
   rw [Tryz.params5] at hA hval
   obtain ⟨v0, v1, v2, v3, d0, d1, d2, d3, p0, p1, p2, p3, rfl, rfl, rfl, h0, h1, h2, h3⟩ := trodAll_four hA
   obtain ⟨l, rfl, q1⟩ := argT Tryz.underlying24 opn24 (hval 0 _ v0 rfl rfl) h0
   obtain ⟨n1, rfl, _⟩ := argI Tryz.underlying2 (hval 1 _ v1 rfl rfl) h1
   obtain ⟨n2, rfl, _⟩ := argI Tryz.underlying2 (hval 2 _ v2 rfl rfl) h2
   obtain ⟨rl, rfl, _⟩ := argT Tryz.underlying49 opn49 (hval 3 _ v3 rfl rfl) h3
   exact law_ReusedMarkers (okLib_rl q1) (okLib_len2 q1) ⟨rfl, Gh.le_refl _⟩
theorem reusedMarkers_joined : joinedFacts Tryz.pinned.checked.prog 5 Tryz.f5 Rows.fnExactReusedMarkersSpec Rows.fnExactReusedMarkersRow = true := by kernel_rfl
theorem reusedMarkers_holds : Rows.FnExactReusedMarkersSaid :=
 OpenClaim.holds_of_wide 5 Tryz.f5 rfl rfl rfl rfl rfl rfl rfl ⟨rfl, rfl, rfl, rfl, rfl⟩ rfl rfl rfl rfl rfl (by kernel_rfl) Tryz.func5 reusedMarkers_joined
   (of_decide_eq_true (by kernel_rfl)) (by unfold Func.isWrapper; first | (rw [if_pos (by decide +kernel)]; kernel_rfl) | (rw [if_neg (by decide +kernel)]; exact ⟨rfl, rfl⟩))
   (fun os started H enc _ => reusedMarkers_lifted os started H enc)
end Go.Proofs.YtgphjofccckloaaGreat
