/-
  Contracts of functions and plain facts that the last text of this folder uses, part 4.
-/
import Derived.Test.YtbkaincaahcnfaaGreatCB3
import Derived.ProofKit
import Derived.Deep.Slices
import Derived.Carry
namespace Go.Proofs.YtbkaincaahcnfaaGreat
set_option linter.unusedVariables false
set_option linter.unusedSimpArgs false
open Go
set_option maxRecDepth 20000
set_option linter.unusedSimpArgs false
variable {G : Gh} {L : List Ch} {R : Value → Gh → List Ch → Prop}
theorem rootOf_pos {o : EOcc} (h : 0 < o.path.length) : rootOf o = gd o.path 0 := by
  obtain ⟨c, p, q⟩ := o
  cases q with
  | nil => simp at h
  | cons a q => simp [rootOf, gd]
theorem rootOf_neg {o : EOcc} (h : ¬ 0 < o.path.length) : rootOf o = -1 := by
  obtain ⟨c, p, q⟩ := o
  cases q with
  | nil => rfl
  | cons a q => simp at h
theorem OccAt.root {xs : List Cell} {cell : Int} {zs : List Occ} {i m : Nat} (h : OccAt xs cell zs i) (hm : m < (gd xs (gd zs i).cell.toNat).shapes.xs.length) :
    (rootL (erCls xs) ((occR (erCls xs) cell).take i) ++ (rootAt (erCls xs) (gd (occR (erCls xs) cell) i)).take m).length < (flatL (erCls xs) (occR (erCls xs) cell)).length ∧ (rootAt (erCls xs) (gd (occR (erCls xs) cell) i)).take (m + 1) = (rootAt (erCls xs) (gd (occR (erCls xs) cell) i)).take m ++ [⟨rootOf (erO (gd zs i)), gd (flatL (erCls xs) (occR (erCls xs) cell)) (rootL (erCls xs) ((occR (erCls xs) cell).take i) ++ (rootAt (erCls xs) (gd (occR (erCls xs) cell) i)).take m).length⟩] := by
  have := rootAt_step (cs := erCls xs) (os := occR (erCls xs) cell) (i := i) (k := m) h.hi (by rw [h.ho]; simp only [erO, h.hs]; exact hm)
  refine ⟨this.1, ?_⟩
  rw [this.2, ← h.ho]
theorem OccAt.rlen {xs : List Cell} {cell : Int} {zs : List Occ} {i : Nat} (h : OccAt xs cell zs i) : (rootAt (erCls xs) (gd (occR (erCls xs) cell) i)).length = (gd xs (gd zs i).cell.toNat).shapes.xs.length := by
  rw [rootAt_len, h.ho]; simp only [erO, h.hs]
theorem rooted_i {l : Lib} {cell : Int} (hL : RLib G L l.cells.v l.cells.xs) (hlen : lenC (erCls l.cells.xs)) (k : ∀ v', R (.tuple #[v', vi (shE (erCls l.cells.xs) cell)]) G (osl 139 rshapeT v' (rootR (erCls l.cells.xs) cell) :: L)) : CallT Tryz.prog 49 #[vT libT l, vi cell] G L R := by
  have hE := erCls_len l.cells.xs
  refine CallT.enter (args := _) Tryz.func49 rfl rfl (by kernel_rfl) rfl ?_
  refine WP.seq ?_
  refine WP.region ?_
  refine RG.ot rfl (OT.box (cs := libT.enc l) rfl rfl rfl fun b2 => ?_)
  refine RG.pv rfl (PV.asg rfl rfl) ?_
  refine RG.pv rfl (PV.mvI (.inr rfl) rfl) ?_
  refine RG.nil ?_
  refine WP.seq ?_
  refine WP.region ?_
  refine RG.pv rfl (PV.loadW rfl Ag30 rfl rfl) ?_
  refine RG.pv rfl (PV.mvI (.inl rfl) rfl) ?_
  refine RG.callF (vs := [_, _]) rfl rfl En91 rfl (flat_i hL.up hlen (fun w17 => ?_))
  refine RG.pv rfl (PV.move (v := .tuple _) rfl rfl) ?_
  refine RG.pv rfl (PV.ext (v := w17) rfl rfl rfl) ?_
  refine RG.pv rfl (PV.ext rfl rfl rfl) ?_
  refine RG.pv rfl (PV.asg (v := w17) rfl rfl) ?_
  refine RG.pv rfl (PV.mvI (.inr rfl) rfl) ?_
  refine RG.nil ?_
  refine WP.seq ?_
  refine WP.seq ?_
  refine WP.region ?_
  refine RG.pv rfl (PV.mvI (.inl rfl) rfl) ?_
  refine RG.pv rfl (PV.neq rfl rfl rfl) ?_
  refine RG.nil ?_
  refine WP.cond rfl (fun h1 => ?_) (fun h1 => ?_)
  · have h1 : shE (erCls l.cells.xs) cell ≠ 0 := by simpa using h1
    have e2 : rootR (erCls l.cells.xs) cell = [] := by rw [rootR, decide_eq_false h1]; rfl
    rw [e2] at k
    refine WP.seq ?_
    refine WP.region ?_
    refine RG.pv rfl (PV.mvI (.inl rfl) rfl) ?_
    refine RG.pv rfl (PV.asg rfl rfl) ?_
    refine RG.pv rfl (PV.mvI (.inr rfl) rfl) ?_
    refine RG.nil ?_
    refine WP.ret ?_
    exact ⟨_, _, ResV.two rfl rfl rfl, Cv.p.trans Cv.nilS, k (.slice none 0 0)⟩
  · have h1 : shE (erCls l.cells.xs) cell = 0 := by simpa using h1
    have e2 : rootR (erCls l.cells.xs) cell = rootL (erCls l.cells.xs) (occR (erCls l.cells.xs) cell) := by rw [rootR, decide_eq_true h1]; rfl
    have hsr := shR_ok h1
    have hfl := flatL_len (cs := (erCls l.cells.xs)) (cell := cell)
    rw [e2, h1] at k
    refine WP.skip ?_
    refine WP.seq ?_
    refine WP.region ?_
    refine RG.pv rfl (PV.loadW rfl Ag30 rfl rfl) ?_
    refine RG.pv rfl (PV.mvI (.inl rfl) rfl) ?_
    refine RG.callF (vs := [_, _]) rfl rfl En92 rfl (occ_i hL.up hlen (fun w26 zs he => ?_))
    refine RG.pv rfl (PV.move (v := .tuple _) rfl rfl) ?_
    refine RG.pv rfl (PV.ext (v := w26) rfl rfl rfl) ?_
    refine RG.pv rfl (PV.ext rfl rfl rfl) ?_
    refine RG.pv rfl (PV.asg (v := w26) rfl rfl) ?_
    refine RG.pv rfl (PV.mvI (.inr rfl) rfl) ?_
    refine RG.nil ?_
    refine WP.seq ?_
    refine WP.region ?_
    refine RG.ot rfl (OT.bslice (F := rshapeT) (els := []) rfl El69 rfl (by decide) rfl (by decide) trivial fun v29 => ?_)
    refine RG.pv rfl (PV.asg (v := v29) rfl rfl) ?_
    refine RG.nil ?_
    refine WP.seq ?_
    refine WP.seq ?_
    refine WP.region ?_
    refine RG.pv rfl (PV.move (v := w26) rfl rfl) ?_
    refine RG.pv rfl (PV.len (v := w26) rfl Tryz.underlying98 rfl SlF.o) ?_
    refine RG.pv rfl (PV.mvI (.inl rfl) rfl) ?_
    refine RG.nil ?_
    refine WP.block ?_
    have hzl : zs.length = (occR (erCls l.cells.xs) cell).length := by rw [← he, erOs_len]
    refine WP.bdo w26 fun hbz => ?_
    refine WP.cv (Cv.eqS (ys := rootL (erCls l.cells.xs) ((occR (erCls l.cells.xs) cell).take 0)) rfl) ?_
    refine WP.loop2 [2, 6, 30, 31] (fun (i : Nat) (v : Value) => i ≤ zs.length) (fun (i : Nat) (v : Value) => [(32, vi i), (10, v)]) (fun (i : Nat) (v : Value) => osl 139 rshapeT v (rootL (erCls l.cells.xs) ((occR (erCls l.cells.xs) cell).take i)) :: osl 126 occT w26 zs :: bagS 2 intT (pths zs) :: osl 135 shapeT w17 (shR (erCls l.cells.xs) cell) :: blk b2 30 (libT.enc l) :: L) (fun (i : Nat) (v : Value) => zs.length - i) 0 v29 (by omega) ⟨rfl, rfl, trivial⟩ Cv.p ?_
    rintro i v τ hi
    refine WP.seq ?_
    refine WP.region ?_
    refine RG.pv rfl (PV.lss rfl rfl rfl) ?_
    refine RG.nil ?_
    refine WP.seq ?_
    refine WP.cond rfl (fun h2 => ?_) (fun h2 => ?_)
    · have h2 := of_decide_eq_true h2
      have h3 : i < zs.length := by omega
      have ha := OccAt.of (cell := cell) he h3
      have hrd : Rs G (bagS 2 intT (pths zs) :: []) intT (gd zs i).path.v (gd zs i).path.xs := RsE.path RsE.o h3
      have hac := ha.hc
      have hal := ha.hl
      have hsl := hL.sa ha.hc.2
      refine WP.skip ?_
      refine WP.seq ?_
      refine WP.block ?_
      refine WP.seq ?_
      refine WP.region ?_
      refine RG.pv rfl (PV.idxS (v := w26) rfl Is98 rfl SlF.o rfl rfl (by omega)) ?_
      refine RG.pv rfl (PV.loadE rfl Ag126 rfl rfl (El.o (getG (by omega)))) ?_
      refine RG.ot rfl (OT.alloc rfl Zr126 fun b12 => ?_)
      refine RG.ot rfl (OT.storeW (vs := [vi _, vi _, vi _, vi _, _]) rfl Sz126 rfl rfl (Cl.c rfl) rfl rfl (OneC.val rfl (OneC.val rfl (OneC.val rfl (OneC.val rfl (OneC.sl (SlF.r hrd) OneC.nil))))) ?_)
      refine RG.nil ?_
      refine WP.seq ?_
      refine WP.region ?_
      refine RG.pv rfl (PV.mvI (.inr rfl) rfl) ?_
      refine RG.nil ?_
      refine WP.cut1 [2, 6, 10, 12, 30, 31, 32] (fun (rt : Int) => rt = rootOf (erO (gd zs i))) (fun (rt : Int) => [(13, vi rt)]) (fun (rt : Int) => osl 139 rshapeT v (rootL (erCls l.cells.xs) ((occR (erCls l.cells.xs) cell).take i)) :: osl 126 occT w26 zs :: bagS 2 intT (pths zs) :: osl 135 shapeT w17 (shR (erCls l.cells.xs) cell) :: blk b2 30 (libT.enc l) :: blk b12 126 (occT.enc (gd zs i)) :: L) ?_ ?_
      refine WP.seq ?_
      refine WP.region ?_
      refine RG.pv rfl (PV.field rfl Fo126_2 rfl) ?_
      refine RG.pv rfl (PV.load1 rfl Sc34 rfl (Rd.blk rfl)) ?_
      refine RG.pv rfl (PV.len rfl Tryz.underlying34 rfl (SlF.r hrd)) ?_
      refine RG.pv rfl (PV.gtr rfl rfl rfl) ?_
      refine RG.nil ?_
      refine WP.cond rfl (fun h4 => ?_) (fun h4 => ?_)
      · have h4 := of_decide_eq_true h4
        refine WP.region ?_
        refine RG.pv rfl (PV.field rfl Fo126_2 rfl) ?_
        refine RG.pv rfl (PV.load1 rfl Sc34 rfl (Rd.blk rfl)) ?_
        refine RG.pv rfl (PV.idxS (j := 0) rfl Is34 rfl (SlF.r hrd) rfl (by omega) (by omega)) ?_
        refine RG.pv rfl (PV.loadE1 rfl Sc2 rfl rfl (El.r hrd (getG (by omega))) rfl) ?_
        refine RG.pv rfl (PV.mvI (.inr rfl) rfl) ?_
        refine RG.nil ?_
        exact ⟨rfl, (gd (gd zs i).path.xs 0), (rootOf_pos (o := erO (gd zs i)) (by simp only [erO]; omega)).symm, ⟨rfl, trivial⟩, ⟨rfl, rfl, rfl, rfl, rfl, rfl, rfl, trivial⟩, Cv.p⟩
      · have h4 := of_decide_eq_false h4
        refine WP.skip ?_
        exact ⟨rfl, (-1), (rootOf_neg (o := erO (gd zs i)) (by simp only [erO]; omega)).symm, ⟨rfl, trivial⟩, ⟨rfl, rfl, rfl, rfl, rfl, rfl, rfl, trivial⟩, Cv.p⟩
      rintro rt τ2 hrt
      refine WP.seq ?_
      refine WP.region ?_
      refine RG.pv rfl (PV.field rfl Fo30_0 rfl) ?_
      refine RG.pv rfl (PV.load1 rfl Sc28 rfl (Rd.blk rfl)) ?_
      refine RG.pv rfl (PV.field rfl Fo126_0 rfl) ?_
      refine RG.pv rfl (PV.load1 rfl Sc2 rfl (Rd.blk rfl)) ?_
      refine RG.pv rfl (PV.idxS (j := (gd zs i).cell.toNat) rfl Is28 rfl (SlF.r hL.c) rfl (by omega) (by omega)) ?_
      refine RG.pv rfl (PV.field rfl Fo85_1 rfl) ?_
      refine RG.pv rfl (PV.loadF rfl Sc76 rfl rfl (El.r hL.c (getG (by omega))) rfl) ?_
      refine RG.pv rfl (PV.len rfl Tryz.underlying76 rfl (SlF.r hsl)) ?_
      refine RG.pv rfl (PV.mvI (.inl rfl) rfl) ?_
      refine RG.nil ?_
      refine WP.block ?_
      subst hrt
      refine WP.cv (Cv.eqS (ys := rootL (erCls l.cells.xs) ((occR (erCls l.cells.xs) cell).take i) ++ (rootAt (erCls l.cells.xs) (gd (occR (erCls l.cells.xs) cell) i)).take 0) (by simp)) ?_
      refine WP.loop2 [2, 6, 13, 30, 31, 32, 51] (fun (m : Nat) (v : Value) => m ≤ (gd l.cells.xs (gd zs i).cell.toNat).shapes.xs.length) (fun (m : Nat) (v : Value) => [(52, vi m), (10, v)]) (fun (m : Nat) (v : Value) => osl 139 rshapeT v (rootL (erCls l.cells.xs) ((occR (erCls l.cells.xs) cell).take i) ++ (rootAt (erCls l.cells.xs) (gd (occR (erCls l.cells.xs) cell) i)).take m) :: osl 126 occT w26 zs :: bagS 2 intT (pths zs) :: osl 135 shapeT w17 (shR (erCls l.cells.xs) cell) :: blk b2 30 (libT.enc l) :: blk b12 126 (occT.enc (gd zs i)) :: L) (fun (m : Nat) (v : Value) => (gd l.cells.xs (gd zs i).cell.toNat).shapes.xs.length - m) 0 v (by omega) ⟨rfl, rfl, trivial⟩ Cv.p ?_
      rintro m v τ hm
      refine WP.seq ?_
      refine WP.region ?_
      refine RG.pv rfl (PV.lss rfl rfl rfl) ?_
      refine RG.nil ?_
      refine WP.seq ?_
      refine WP.cond rfl (fun h5 => ?_) (fun h5 => ?_)
      · have h5 := of_decide_eq_true h5
        obtain ⟨q1, q2⟩ := ha.root (m := m) (by omega)
        rw [← hsr] at q1 q2
        have hx := q1
        have hs2 := shR_len (erCls l.cells.xs) cell
        rw [List.length_append, List.length_take] at hx
        refine WP.skip ?_
        refine WP.seq ?_
        refine WP.block ?_
        refine WP.region ?_
        refine RG.pv rfl (PV.move (v := v) rfl rfl) ?_
        refine RG.pv rfl (PV.mvI (.inl rfl) rfl) ?_
        refine RG.pv rfl (PV.move (v := w17) rfl rfl) ?_
        refine RG.pv rfl (PV.move (v := v) rfl rfl) ?_
        refine RG.pv rfl (PV.len (v := v) rfl Tryz.underlying69 rfl SlF.o) ?_
        refine RG.pv rfl (PV.idxS (v := w17) rfl Is76 rfl SlF.o rfl rfl (by omega)) ?_
        refine RG.pv rfl (PV.loadE rfl Ag135 rfl rfl (El.o (getG (by omega)))) ?_
        refine RG.pv rfl (PV.build (vs := [(0, [vi _]), (1, [vi _, vi _, vi _, vi _, vi _])]) (out := [_, _, _, _, _, _]) rfl Zr139 Pl139 ⟨rfl, (Cl.c rfl), ⟨rfl, (Cl.c rfl), trivial⟩⟩ rfl) ?_
        refine RG.ot rfl (OT.bslice (F := rshapeT) (els := [⟨rootOf (erO (gd zs i)), gd (shR (erCls l.cells.xs) cell) (rootL (erCls l.cells.xs) ((occR (erCls l.cells.xs) cell).take i) ++ (rootAt (erCls l.cells.xs) (gd (occR (erCls l.cells.xs) cell) i)).take m).length⟩]) rfl El69 rfl (by decide) rfl (by decide) ⟨rfl, (Cl.c rfl), trivial⟩ fun v62 => ?_)
        refine RG.ot rfl (OT.append (v := v) (u := v62) (F := rshapeT) rfl El69 rfl (by decide) rfl rfl Rs.o (OneL.c (fun _ => rfl)) rfl (by first | omega | (simp <;> omega)) fun v63 => ?_)
        refine RG.pv rfl (PV.asg (v := v63) rfl rfl) ?_
        refine RG.nil ?_
        refine WP.region ?_
        refine RG.pv rfl (PV.add rfl rfl rfl (by omega)) ?_
        refine RG.pv rfl (PV.mvI (.inl rfl) rfl) ?_
        refine RG.nil ?_
        exact ⟨rfl, m + 1, v63, (by omega), ⟨rfl, rfl, trivial⟩, ⟨rfl, rfl, rfl, rfl, rfl, rfl, rfl, trivial⟩, ((Cv.p (C := osl 139 rshapeT v63 (rootL (erCls l.cells.xs) ((occR (erCls l.cells.xs) cell).take i) ++ (rootAt (erCls l.cells.xs) (gd (occR (erCls l.cells.xs) cell) i)).take m ++ [⟨rootOf (erO (gd zs i)), gd (shR (erCls l.cells.xs) cell) (rootL (erCls l.cells.xs) ((occR (erCls l.cells.xs) cell).take i) ++ (rootAt (erCls l.cells.xs) (gd (occR (erCls l.cells.xs) cell) i)).take m).length⟩]) :: osl 126 occT w26 zs :: bagS 2 intT (pths zs) :: osl 135 shapeT w17 (shR (erCls l.cells.xs) cell) :: blk b2 30 (libT.enc l) :: blk b12 126 (occT.enc (gd zs i)) :: L)).trans (Cv.eqS (by rw [List.append_assoc, ← q2]))), by omega⟩
      · have h5 := of_decide_eq_false h5
        have e : rootL (erCls l.cells.xs) ((occR (erCls l.cells.xs) cell).take i) ++ (rootAt (erCls l.cells.xs) (gd (occR (erCls l.cells.xs) cell) i)).take m = rootL (erCls l.cells.xs) ((occR (erCls l.cells.xs) cell).take (i + 1)) := by rw [List.take_of_length_le (i := m) (l := rootAt (erCls l.cells.xs) (gd (occR (erCls l.cells.xs) cell) i)) (by rw [ha.rlen]; omega), rootL_take ha.hi]
        refine WP.exit ?_
        refine WP.region ?_
        refine RG.pv rfl (PV.add rfl rfl rfl (by omega)) ?_
        refine RG.pv rfl (PV.mvI (.inl rfl) rfl) ?_
        refine RG.nil ?_
        exact ⟨rfl, i + 1, v, (by omega), ⟨rfl, rfl, trivial⟩, ⟨rfl, rfl, rfl, rfl, trivial⟩, ((Cv.eqS e).trans Cv.p), by omega⟩
    · have h2 := of_decide_eq_false h2
      have e : rootL (erCls l.cells.xs) ((occR (erCls l.cells.xs) cell).take i) = rootL (erCls l.cells.xs) (occR (erCls l.cells.xs) cell) := by rw [List.take_of_length_le (by omega)]
      rw [e]
      refine WP.exit ?_
      refine WP.seq ?_
      refine WP.region ?_
      refine RG.pv rfl (PV.move (v := v) rfl rfl) ?_
      refine RG.pv rfl (PV.asg (v := v) rfl rfl) ?_
      refine RG.pv rfl (PV.mvI (.inr rfl) rfl) ?_
      refine RG.nil ?_
      refine WP.ret ?_
      exact ⟨_, _, ResV.two rfl rfl rfl, Cv.p, k v⟩
theorem elN_ns {xs : List Cell} {cell : Int} (hc : cell.toNat < xs.length) : elN (erCls xs) cell = (elems (gd xs cell.toNat).insts.xs).length := by rw [elN, erCl_insts hc]
theorem hasEl_i {l : Lib} {cell n : Int} (hL : RLib G L l.cells.v l.cells.xs) (hok : okLib (erCls l.cells.xs) = true ∧ 0 ≤ cell ∧ cell < (erCls l.cells.xs).length) (k : R (.bool (within n 0 ((elN (erCls l.cells.xs) cell : Int) - 1))) G L) : CallT Tryz.prog 50 #[vT libT l, vi cell, vi n] G L R := by
  have hE := erCls_len l.cells.xs
  have hce := erCl_insts (xs := l.cells.xs) (i := cell.toNat) (by omega)
  have hns : okNs (gd l.cells.xs cell.toNat).insts.xs := by rw [← hce]; exact okLib_ns hok.1 (by omega)
  have hb : (elems (gd l.cells.xs cell.toNat).insts.xs).length ≤ 128 := by rw [← hce]; exact elems_len_bd hok.1 (by omega)
  rw [elN_ns (by omega)] at k
  refine CallT.enter (args := _) Tryz.func50 rfl rfl (by kernel_rfl) rfl ?_
  refine WP.seq ?_
  refine WP.region ?_
  refine RG.ot rfl (OT.box (cs := libT.enc l) rfl rfl rfl fun b3 => ?_)
  refine RG.pv rfl (PV.mvB (.inr rfl) rfl) ?_
  refine RG.nil ?_
  refine WP.seq ?_
  refine WP.region ?_
  refine RG.pv rfl (PV.mvI (.inl rfl) rfl) ?_
  refine RG.pv rfl (PV.field rfl Fo30_0 rfl) ?_
  refine RG.pv rfl (PV.load1 rfl Sc28 rfl (Rd.blk rfl)) ?_
  refine RG.pv rfl (PV.mvI (.inl rfl) rfl) ?_
  refine RG.pv rfl (PV.idxS (j := cell.toNat) rfl Is28 rfl (SlF.r hL.c) rfl (by omega) (by omega)) ?_
  refine RG.pv rfl (PV.loadE rfl Ag85 rfl rfl (El.r hL.c (getG (by omega)))) ?_
  refine RG.callF (vs := [_]) rfl rfl En56 rfl (elems_i (hL.na (by omega)).up hns (fun v13 => ?_))
  refine RG.pv rfl (PV.len (v := v13) rfl Tryz.underlying80 rfl SlF.o) ?_
  refine RG.pv rfl (PV.sub rfl rfl rfl (by omega)) ?_
  refine RG.callF (vs := [_, _, _]) rfl rfl En51 rfl (within_s ?_)
  refine RG.pv rfl (PV.mvB (.inr rfl) rfl) ?_
  refine RG.nil ?_
  refine WP.ret ?_
  exact ⟨_, _, ResV.one rfl rfl, Cv.p, k⟩
def pickR (rs : List RShape) (f : Int → Bool) : List Shape := (rs.filter fun x => f x.root).map RShape.shape
end Go.Proofs.YtbkaincaahcnfaaGreat
namespace Go.Proofs.YtbkaincaahcnfaaGreat
set_option linter.unusedVariables false
set_option linter.unusedSimpArgs false
open Go
set_option maxRecDepth 20000
set_option maxHeartbeats 2000000
set_option linter.unusedSimpArgs false
variable {G : Gh} {L : List Ch} {R : Value → Gh → List Ch → Prop}
theorem l21Has_s {v : Value} {ls : List Int} {n : Int} (h1 : Rs G L intT v ls) (k : R (.bool (ls.any fun a => decide (a = n))) G L) : CallT Tryz.prog 107 #[v, vi n] G L R := by
  refine CallT.bd h1 fun hb => ?_
  refine CallT.enter (args := _) Tryz.func107 rfl rfl (by kernel_rfl) rfl ?_
  refine WP.seq ?_
  refine WP.region ?_
  refine RG.pv rfl (PV.mvB (.inr rfl) rfl) ?_
  refine RG.nil ?_
  refine WP.seq ?_
  refine WP.seq ?_
  refine WP.region ?_
  refine RG.pv rfl (PV.mvI (.inr rfl) rfl) ?_
  refine RG.nil ?_
  refine WP.block ?_
  refine WP.loop1 [0, 1] (fun i => i ≤ ls.length ∧ ∀ j, j < i → decide (gd ls j = n) = false) (fun i => [(5, vi i)]) (fun i => L) (fun i => ls.length - i) 0 ⟨by omega, fun j h => by omega⟩ ⟨rfl, trivial⟩ Cv.p ?_
  rintro i τ ⟨hi, hj⟩
  refine WP.seq ?_
  refine WP.seq ?_
  refine WP.region ?_
  refine RG.pv rfl (PV.mvI (.inl rfl) rfl) ?_
  refine RG.pv rfl (PV.move (v := v) rfl rfl) ?_
  refine RG.pv rfl (PV.len (v := v) rfl Tryz.underlying34 rfl (SlF.r h1)) ?_
  refine RG.pv rfl (PV.lss rfl rfl rfl) ?_
  refine RG.nil ?_
  refine WP.cond rfl (fun h2 => ?_) (fun h2 => ?_)
  · have h2 := of_decide_eq_true h2
    refine WP.skip ?_
    refine WP.seq ?_
    refine WP.block ?_
    refine WP.seq ?_
    refine WP.region ?_
    refine RG.pv rfl (PV.move (v := v) rfl rfl) ?_
    refine RG.pv rfl (PV.mvI (.inl rfl) rfl) ?_
    refine RG.pv rfl (PV.idxS (v := v) rfl Is34 rfl (SlF.r h1) rfl rfl (by omega)) ?_
    refine RG.pv rfl (PV.loadE1 rfl Sc2 rfl rfl (El.r h1 (getG (by omega))) rfl) ?_
    refine RG.pv rfl (PV.mvI (.inl rfl) rfl) ?_
    refine RG.pv rfl (PV.eql rfl rfl rfl) ?_
    refine RG.nil ?_
    refine WP.cond rfl (fun h3 => ?_) (fun h3 => ?_)
    · have e : (ls.any fun a => decide (a = n)) = true := List.any_eq_true.2 ⟨gd ls i, gd_mem (by omega), h3⟩
      rw [e] at k
      refine WP.seq ?_
      refine WP.region ?_
      refine RG.pv rfl (PV.mvB (.inr rfl) rfl) ?_
      refine RG.nil ?_
      refine WP.ret ?_
      exact ⟨_, _, ResV.one rfl rfl, Cv.p, k⟩
    · have hj' : ∀ j, j < i + 1 → decide (gd ls j = n) = false := fun j h => by
        by_cases c : j = i
        · rw [c]; exact h3
        · exact hj j (by omega)
      refine WP.skip ?_
      refine WP.region ?_
      refine RG.pv rfl (PV.mvI (.inl rfl) rfl) ?_
      refine RG.pv rfl (PV.add rfl rfl rfl (by omega)) ?_
      refine RG.pv rfl (PV.mvI (.inr rfl) rfl) ?_
      refine RG.nil ?_
      exact ⟨rfl, i + 1, ⟨by omega, hj'⟩, ⟨rfl, trivial⟩, ⟨rfl, rfl, trivial⟩, Cv.p, by omega⟩
  · have h2 := of_decide_eq_false h2
    have e : (ls.any fun a => decide (a = n)) = false := by
      rw [List.any_eq_false]
      intro a ha
      obtain ⟨j, hj2, rfl⟩ := List.getElem_of_mem ha
      have := hj j (by omega)
      rw [gd_eq hj2] at this
      simpa using this
    rw [e] at k
    refine WP.exit ?_
    refine WP.seq ?_
    refine WP.region ?_
    refine RG.pv rfl (PV.mvB (.inr rfl) rfl) ?_
    refine RG.nil ?_
    refine WP.ret ?_
    exact ⟨_, _, ResV.one rfl rfl, Cv.p, k⟩
/-- an occurrence whose path begins with a number of the list -/
def selS (ls : List Int) (o : EOcc) : Bool := decide (0 < (o.path.length : Int)) && ls.any fun a => decide (a = gd o.path 0)
def selL (cs : List ECell) (os : List EOcc) (ls : List Int) (b : Bool) : List Shape := os.flatMap fun o => if (selS ls o == b) = true then flatOf cs o else []
theorem selL_take {cs : List ECell} {os : List EOcc} {ls : List Int} {b : Bool} {i : Nat} (h : i < os.length) : selL cs (os.take (i + 1)) ls b = selL cs (os.take i) ls b ++ (if (selS ls (gd os i) == b) = true then flatOf cs (gd os i) else []) := by
  rw [selL, selL, List.take_add_one, getG h, List.flatMap_append]; simp
theorem selL_len (cs : List ECell) (ls : List Int) (b : Bool) (os : List EOcc) : (selL cs os ls b).length ≤ (flatL cs os).length := by
  induction os with
  | nil => simp [selL, flatL]
  | cons o os ih =>
    have e1 : selL cs (o :: os) ls b = (if (selS ls o == b) = true then flatOf cs o else []) ++ selL cs os ls b := rfl
    have e2 : flatL cs (o :: os) = flatOf cs o ++ flatL cs os := rfl
    rw [e1, e2, List.length_append, List.length_append]
    split
    · omega
    · simp only [List.length_nil]; omega
theorem selL_mem {cs : List ECell} {os : List EOcc} {ls : List Int} {b : Bool} {s : Shape} (h : s ∈ selL cs os ls b) : s ∈ flatL cs os := by
  obtain ⟨o, ho, hs⟩ := List.mem_flatMap.1 h
  split at hs
  · exact List.mem_flatMap.2 ⟨o, ho, hs⟩
  · cases hs
theorem l21Shapes_s {l : Lib} {cell : Int} {v : Value} {ls : List Int} {b : Bool} (hL : RLib G L l.cells.v l.cells.xs) (hlen : lenC (erCls l.cells.xs)) (h2 : Rs G L intT v ls) (k : ∀ v', R v' G (osl 135 shapeT v' (selL (erCls l.cells.xs) (occR (erCls l.cells.xs) cell) ls b) :: L)) : CallT Tryz.prog 59 #[vT libT l, vi cell, v, .bool b] G L R := by
  have hE := erCls_len l.cells.xs
  have hfl := flatL_len (cs := (erCls l.cells.xs)) (cell := cell)
  refine CallT.enter (args := _) Tryz.func59 rfl rfl (by kernel_rfl) rfl ?_
  refine WP.seq ?_
  refine WP.region ?_
  refine RG.ot rfl (OT.box (cs := libT.enc l) rfl rfl rfl fun b4 => ?_)
  refine RG.pv rfl (PV.asg rfl rfl) ?_
  refine RG.nil ?_
  refine WP.seq ?_
  refine WP.region ?_
  refine RG.ot rfl (OT.bslice (F := shapeT) (els := []) rfl El76 rfl (by decide) rfl (by decide) trivial fun v16 => ?_)
  refine RG.pv rfl (PV.asg (v := v16) rfl rfl) ?_
  refine RG.nil ?_
  refine WP.seq ?_
  refine WP.region ?_
  refine RG.pv rfl (PV.loadW rfl Ag30 rfl rfl) ?_
  refine RG.pv rfl (PV.mvI (.inl rfl) rfl) ?_
  refine RG.callF (vs := [_, _]) rfl rfl En73 rfl (occ_r hL.up hlen (fun w20 zs he => ?_))
  refine RG.pv rfl (PV.move (v := .tuple _) rfl rfl) ?_
  refine RG.pv rfl (PV.ext (v := w20) rfl rfl rfl) ?_
  refine RG.pv rfl (PV.ext rfl rfl rfl) ?_
  refine RG.pv rfl (PV.asg (v := w20) rfl rfl) ?_
  refine RG.pv rfl (PV.mvI (.inr rfl) rfl) ?_
  refine RG.nil ?_
  refine WP.seq ?_
  refine WP.seq ?_
  refine WP.region ?_
  refine RG.pv rfl (PV.mvI (.inr rfl) rfl) ?_
  refine RG.nil ?_
  refine WP.block ?_
  have hzl : zs.length = (occR (erCls l.cells.xs) cell).length := by rw [← he, erOs_len]
  refine WP.bdo w20 fun hbz => ?_
  refine WP.cv ((Cv.p (C := osl 135 shapeT v16 [] :: osl 126 occT w20 zs :: bagS 2 intT (pths zs) :: blk b4 30 (libT.enc l) :: L)).trans (Cv.eqS (ys := selL (erCls l.cells.xs) ((occR (erCls l.cells.xs) cell).take 0) ls b) rfl)) ?_
  refine WP.loop2 [2, 3, 4, 10] (fun (i : Nat) (v2 : Value) => i ≤ zs.length) (fun (i : Nat) (v2 : Value) => [(12, vi i), (9, v2)]) (fun (i : Nat) (v2 : Value) => osl 135 shapeT v2 (selL (erCls l.cells.xs) ((occR (erCls l.cells.xs) cell).take i) ls b) :: osl 126 occT w20 zs :: bagS 2 intT (pths zs) :: blk b4 30 (libT.enc l) :: L) (fun (i : Nat) (v2 : Value) => zs.length - i) 0 v16 (by omega) ⟨rfl, rfl, trivial⟩ Cv.p ?_
  rintro i v2 τ hi
  refine WP.seq ?_
  refine WP.seq ?_
  refine WP.region ?_
  refine RG.pv rfl (PV.mvI (.inl rfl) rfl) ?_
  refine RG.pv rfl (PV.move (v := w20) rfl rfl) ?_
  refine RG.pv rfl (PV.len (v := w20) rfl Tryz.underlying98 rfl SlF.o) ?_
  refine RG.pv rfl (PV.lss rfl rfl rfl) ?_
  refine RG.nil ?_
  have hsl2 := selL_len (erCls l.cells.xs) ls b ((occR (erCls l.cells.xs) cell).take i)
  have hfb := flatL_bd (cs := (erCls l.cells.xs)) (cell := cell) i (by omega)
  refine WP.cond rfl (fun h3 => ?_) (fun h3 => ?_)
  · have h3 := of_decide_eq_true h3
    have h4 : i < zs.length := by omega
    have ha := OccAt.of (cell := cell) he h4
    have hrd : Rs G (bagS 2 intT (pths zs) :: []) intT (gd zs i).path.v (gd zs i).path.xs := RsE.path RsE.o h4
    have hac := ha.hc
    have hal := ha.hl
    have hsl := hL.sa ha.hc.2
    have hselE : selS ls (gd (occR (erCls l.cells.xs) cell) i) = (decide (0 < ((gd zs i).path.xs.length : Int)) && ls.any fun a => decide (a = gd (gd zs i).path.xs 0)) := by rw [ha.ho]; rfl
    refine WP.skip ?_
    refine WP.seq ?_
    refine WP.block ?_
    refine WP.seq ?_
    refine WP.region ?_
    refine RG.pv rfl (PV.move (v := w20) rfl rfl) ?_
    refine RG.pv rfl (PV.mvI (.inl rfl) rfl) ?_
    refine RG.pv rfl (PV.idxS (v := w20) rfl Is98 rfl SlF.o rfl rfl (by omega)) ?_
    refine RG.pv rfl (PV.field rfl Fo126_2 rfl) ?_
    refine RG.pv rfl (PV.loadF rfl Sc34 rfl rfl (El.o (getG (by omega))) rfl) ?_
    refine RG.pv rfl (PV.len rfl Tryz.underlying34 rfl (SlF.r hrd)) ?_
    refine RG.pv rfl (PV.gtr rfl rfl rfl) ?_
    refine RG.pv rfl (PV.mvB (.inl rfl) rfl) ?_
    refine RG.gs rfl rfl rfl (fun hp => (PV.move (v := v) rfl rfl)) ?_
    refine RG.gs rfl rfl rfl (fun hp => (PV.move (v := w20) rfl rfl)) ?_
    refine RG.gs rfl rfl rfl (fun hp => (PV.mvI (.inl rfl) rfl)) ?_
    refine RG.gs rfl rfl rfl (fun hp => (PV.idxS (v := w20) rfl Is98 (gs_t hp) SlF.o (gs_t hp) rfl (by first | omega | (simp at hp; omega)))) ?_
    refine RG.gs rfl rfl rfl (fun hp => (PV.field rfl Fo126_2 (gs_t hp))) ?_
    refine RG.gs rfl rfl rfl (fun hp => (PV.loadF rfl Sc34 (gs_t hp) rfl (El.o (getG (by first | omega | (simp at hp; omega)))) rfl)) ?_
    refine RG.gs rfl rfl rfl (fun hp => (PV.idxS (j := 0) rfl Is34 (gs_t hp) (SlF.r hrd) rfl (by first | omega | (simp at hp; omega)) (by first | omega | (simp at hp; omega)))) ?_
    refine RG.gs rfl rfl rfl (fun hp => (PV.loadE1 rfl Sc2 (gs_t hp) rfl (El.r hrd (getG (by first | omega | (simp at hp; omega)))) rfl)) ?_
    refine RG.gsC rfl rfl rfl rfl En107 (fun hp => ⟨_, (acons (gs_t hp) (acons (gs_t hp) anil)), l21Has_s (Rs.up h2) ⟨rfl, rfl, rfl⟩⟩) ?_
    refine RG.pv rfl (PV.pickA rfl rfl (fun hq => gs_t (geqT hq)) rfl) ?_
    refine RG.pv rfl (PV.mvB (.inr rfl) rfl) ?_
    refine RG.nil ?_
    refine WP.seq ?_
    refine WP.regionH0 (.q 0 (.q 1 (.q 2 (.q 3 (.q 4 (.q 5 (.q 6 (.q 7 (.q 8 (.l 9 (.l 10 Sch.nil))))))))))) (by kernel_rfl) (by kernel_rfl) (by kernel_rfl) rfl ?_
    refine RH.pv rfl (fun _ _ _ _ h => h) (Gh.le_refl _) PickC.pick rfl (PV.field rfl Fo30_0 rfl) ?_
    refine RH.pv rfl (fun _ _ _ _ h => h) (Gh.le_refl _) PickC.pick rfl (PV.load1 rfl Sc28 rfl (Rd.blk rfl)) ?_
    refine RH.pv rfl (fun _ _ _ _ h => h) (Gh.le_refl _) PickC.pick rfl (PV.move (v := w20) rfl rfl) ?_
    refine RH.pv rfl (fun _ _ _ _ h => h) (Gh.le_refl _) PickC.pick rfl (PV.mvI (.inl rfl) rfl) ?_
    refine RH.pv rfl (fun _ _ _ _ h => h) (Gh.le_refl _) PickC.pick rfl (PV.idxS (v := w20) rfl Is98 rfl SlF.o rfl rfl (by omega)) ?_
    refine RH.pv rfl (fun _ _ _ _ h => h) (Gh.le_refl _) PickC.pick rfl (PV.field rfl Fo126_0 rfl) ?_
    refine RH.pv rfl (fun _ _ _ _ h => h) (Gh.le_refl _) PickC.pick rfl (PV.loadF rfl Sc2 rfl rfl (El.o (getG (by omega))) rfl) ?_
    refine RH.pv rfl (fun _ _ _ _ h => h) (Gh.le_refl _) PickC.pick rfl (PV.idxS (j := (gd zs i).cell.toNat) rfl Is28 rfl (SlF.r hL.c) rfl (by omega) (by omega)) ?_
    refine RH.pv rfl (fun _ _ _ _ h => h) (Gh.le_refl _) PickC.pick rfl (PV.loadE rfl Ag85 rfl rfl (El.r hL.c (getG (by omega)))) ?_
    refine RH.ot rfl rfl (OT.alloc rfl Zr85 fun b14 => ⟨Gh.le_refl _, PickC.pick, ?_⟩)
    refine RH.ot rfl rfl (OT.storeW (vs := [.string _, _, _, _]) rfl Sz85 rfl rfl (Cl.c rfl) rfl rfl (hL.one ha.hc.2) ⟨Gh.le_refl _, PickC.pick, ?_⟩)
    refine RH.nil ?_
    refine WP.seq ?_
    refine WP.region ?_
    refine RG.pv rfl (PV.mvI (.inr rfl) rfl) ?_
    refine RG.nil ?_
    refine WP.block ?_
    rw [← hselE]
    refine WP.cv ((Cv.p (C := osl 135 shapeT v2 (selL (erCls l.cells.xs) ((occR (erCls l.cells.xs) cell).take i) ls b) :: osl 126 occT w20 zs :: bagS 2 intT (pths zs) :: blk b4 30 (libT.enc l) :: blk b14 85 (cellT.enc (gd l.cells.xs (gd zs i).cell.toNat)) :: L)).trans (Cv.eqS (ys := selL (erCls l.cells.xs) ((occR (erCls l.cells.xs) cell).take i) ls b ++ (flatOf (erCls l.cells.xs) (gd (occR (erCls l.cells.xs) cell) i)).take 0) (by simp))) ?_
    refine WP.loop2 [2, 3, 4, 10, 12, 13, 14] (fun (m : Nat) (v3 : Value) => m ≤ (gd l.cells.xs (gd zs i).cell.toNat).shapes.xs.length ∧ ((selS ls (gd (occR (erCls l.cells.xs) cell) i) == b) = false → m = 0)) (fun (m : Nat) (v3 : Value) => [(15, vi m), (9, v3)]) (fun (m : Nat) (v3 : Value) => osl 135 shapeT v3 (selL (erCls l.cells.xs) ((occR (erCls l.cells.xs) cell).take i) ls b ++ (flatOf (erCls l.cells.xs) (gd (occR (erCls l.cells.xs) cell) i)).take m) :: osl 126 occT w20 zs :: bagS 2 intT (pths zs) :: blk b4 30 (libT.enc l) :: blk b14 85 (cellT.enc (gd l.cells.xs (gd zs i).cell.toNat)) :: L) (fun (m : Nat) (v3 : Value) => (gd l.cells.xs (gd zs i).cell.toNat).shapes.xs.length - m) 0 v2 ⟨by omega, fun _ => rfl⟩ ⟨rfl, rfl, trivial⟩ Cv.p ?_
    rintro m v3 τ ⟨hm, hq⟩
    refine WP.seq ?_
    refine WP.seq ?_
    refine WP.region ?_
    refine RG.pv rfl (PV.mvI (.inl rfl) rfl) ?_
    refine RG.pv rfl (PV.field rfl Fo85_1 rfl) ?_
    refine RG.pv rfl (PV.load1 rfl Sc76 rfl (Rd.blk rfl)) ?_
    refine RG.pv rfl (PV.len rfl Tryz.underlying76 rfl (SlF.r hsl)) ?_
    refine RG.pv rfl (PV.lss rfl rfl rfl) ?_
    refine RG.pv rfl (PV.mvB (.inl rfl) rfl) ?_
    refine RG.gs rfl rfl rfl (fun hp => (PV.mvB (.inl rfl) rfl)) ?_
    refine RG.gs rfl rfl rfl (fun hp => (PV.mvB (.inl rfl) rfl)) ?_
    refine RG.gs rfl rfl rfl (fun hp => (PV.eqlB rfl Tryz.underlying4 (gs_t hp) (gs_t hp))) ?_
    refine RG.pv rfl (PV.pickA rfl rfl (fun hq => gs_t (geqT hq)) rfl) ?_
    refine RG.nil ?_
    refine WP.cond rfl (fun h5 => ?_) (fun h5 => ?_)
    · have h5' : m < (gd l.cells.xs (gd zs i).cell.toNat).shapes.xs.length ∧ (selS ls (gd (occR (erCls l.cells.xs) cell) i) == b) = true := by
        have := h5; simp only [Bool.and_eq_true, decide_eq_true_eq] at this; exact ⟨by omega, by simpa using this.2⟩
      have hst := ha.step (m := m) h5'.1
      have hll : (selL (erCls l.cells.xs) ((occR (erCls l.cells.xs) cell).take i) ls b ++ (flatOf (erCls l.cells.xs) (gd (occR (erCls l.cells.xs) cell) i)).take m).length ≤ 6000 := by rw [List.length_append, List.length_take]; omega
      refine WP.skip ?_
      refine WP.seq ?_
      refine WP.block ?_
      refine WP.regionHD [.s v3] (.q 0 (.q 1 (.q 2 (.q 3 (.q 4 (.q 5 (.q 6 (.q 7 (.q 8 (.q 9 (.q 10 (.q 11 (.q 12 (.q 13 (.q 14 (.q 15 (.q 16 (.q 17 (.l 18 (.q 19 (.l 20 (.l 21 (.q 22 Sch.nil))))))))))))))))))))))) (by kernel_rfl) (by kernel_rfl) (by kernel_rfl) rfl ?_
      refine RH.pv rfl (fun _ _ _ _ h => h) (Gh.le_refl _) PickC.pick rfl (PV.move (v := v3) rfl rfl) ?_
      refine RH.pv rfl (fun _ _ _ _ h => h) (Gh.le_refl _) PickC.pick rfl (PV.field rfl Fo85_1 rfl) ?_
      refine RH.pv rfl (fun _ _ _ _ h => h) (Gh.le_refl _) PickC.pick rfl (PV.load1 rfl Sc76 rfl (Rd.blk rfl)) ?_
      refine RH.pv rfl (fun _ _ _ _ h => h) (Gh.le_refl _) PickC.pick rfl (PV.mvI (.inl rfl) rfl) ?_
      refine RH.pv rfl (fun _ _ _ _ h => h) (Gh.le_refl _) PickC.pick rfl (PV.idxS rfl Is76 rfl (SlF.r hsl) rfl rfl (by omega)) ?_
      refine RH.pv rfl (fun _ _ _ _ h => h) (Gh.le_refl _) PickC.pick rfl (PV.field rfl Fo135_0 rfl) ?_
      refine RH.pv rfl (fun _ _ _ _ h => h) (Gh.le_refl _) PickC.pick rfl (PV.loadF rfl Sc2 rfl rfl (El.r hsl (getG (by omega))) rfl) ?_
      refine RH.pv rfl (fun _ _ _ _ h => h) (Gh.le_refl _) PickC.pick rfl (PV.move (v := w20) rfl rfl) ?_
      refine RH.pv rfl (fun _ _ _ _ h => h) (Gh.le_refl _) PickC.pick rfl (PV.mvI (.inl rfl) rfl) ?_
      refine RH.pv rfl (fun _ _ _ _ h => h) (Gh.le_refl _) PickC.pick rfl (PV.idxS (v := w20) rfl Is98 rfl SlF.o rfl rfl (by omega)) ?_
      refine RH.pv rfl (fun _ _ _ _ h => h) (Gh.le_refl _) PickC.pick rfl (PV.field rfl Fo126_1 rfl) ?_
      refine RH.pv rfl (fun _ _ _ _ h => h) (Gh.le_refl _) PickC.pick rfl (PV.loadEP rfl Ag124 rfl rfl (El.o (getG (by omega))) rfl) ?_
      refine RH.pv rfl (fun _ _ _ _ h => h) (Gh.le_refl _) PickC.pick rfl (PV.field rfl Fo85_1 rfl) ?_
      refine RH.pv rfl (fun _ _ _ _ h => h) (Gh.le_refl _) PickC.pick rfl (PV.load1 rfl Sc76 rfl (Rd.blk rfl)) ?_
      refine RH.pv rfl (fun _ _ _ _ h => h) (Gh.le_refl _) PickC.pick rfl (PV.mvI (.inl rfl) rfl) ?_
      refine RH.pv rfl (fun _ _ _ _ h => h) (Gh.le_refl _) PickC.pick rfl (PV.idxS rfl Is76 rfl (SlF.r hsl) rfl rfl (by omega)) ?_
      refine RH.pv rfl (fun _ _ _ _ h => h) (Gh.le_refl _) PickC.pick rfl (PV.field rfl Fo135_1 rfl) ?_
      refine RH.pv rfl (fun _ _ _ _ h => h) (Gh.le_refl _) PickC.pick rfl (PV.loadEP rfl Ag116 rfl rfl (El.r hsl (getG (by omega))) rfl) ?_
      refine RH.ot rfl rfl (OT.callF (vs := [_, _]) rfl En86 rfl (moveRect_r ha.hp.1 ha.hp.2 (ha.hb m (by omega)) ⟨Gh.le_refl _, PickC.pick, ?_⟩))
      refine RH.pv rfl (fun _ _ _ _ h => h) (Gh.le_refl _) PickC.pick rfl (PV.build (vs := [(0, [vi _]), (1, [vi _, vi _, vi _, vi _])]) (out := [_, _, _, _, _]) rfl Zr135 Pl135 ⟨rfl, (Cl.c rfl), ⟨rfl, (Cl.c rfl), trivial⟩⟩ rfl) ?_
      refine RH.ot rfl rfl (OT.bslice (F := shapeT) (els := [⟨(gd (gd l.cells.xs (gd zs i).cell.toNat).shapes.xs m).layer, moveR (gd zs i).place (gd (gd l.cells.xs (gd zs i).cell.toNat).shapes.xs m).box⟩]) rfl El76 rfl (by decide) rfl (by decide) ⟨rfl, (Cl.c rfl), trivial⟩ fun v88 => ⟨Gh.le_refl _, PickC.pick, ?_⟩)
      refine RH.ot rfl rfl (OT.append (v := v3) (u := v88) (F := shapeT) rfl El76 rfl (by decide) rfl rfl Rs.o (OneL.c (fun _ => rfl)) rfl (by first | omega | (simp <;> omega)) fun v89 => ⟨Gh.le_refl _, PickC.pick, ?_⟩)
      refine RH.pv rfl (fun _ _ _ _ h => h) (Gh.le_refl _) PickC.pick rfl (PV.asg (v := v89) rfl rfl) ?_
      refine RH.nil ?_
      refine WP.region ?_
      refine RG.pv rfl (PV.mvI (.inl rfl) rfl) ?_
      refine RG.pv rfl (PV.add rfl rfl rfl (by omega)) ?_
      refine RG.pv rfl (PV.mvI (.inr rfl) rfl) ?_
      refine RG.nil ?_
      exact ⟨rfl, m + 1, v89, ⟨by omega, fun h => by rw [h5'.2] at h; cases h⟩, ⟨rfl, rfl, trivial⟩, ⟨rfl, rfl, rfl, rfl, rfl, rfl, rfl, trivial⟩, ((Cv.p (C := osl 135 shapeT v89 (selL (erCls l.cells.xs) ((occR (erCls l.cells.xs) cell).take i) ls b ++ (flatOf (erCls l.cells.xs) (gd (occR (erCls l.cells.xs) cell) i)).take m ++ [⟨(gd (gd l.cells.xs (gd zs i).cell.toNat).shapes.xs m).layer, moveR (gd zs i).place (gd (gd l.cells.xs (gd zs i).cell.toNat).shapes.xs m).box⟩]) :: osl 126 occT w20 zs :: bagS 2 intT (pths zs) :: blk b4 30 (libT.enc l) :: blk b14 85 (cellT.enc (gd l.cells.xs (gd zs i).cell.toNat)) :: L)).trans (Cv.eqS (by rw [List.append_assoc, ← hst]))), by omega⟩
    · have e : selL (erCls l.cells.xs) ((occR (erCls l.cells.xs) cell).take i) ls b ++ (flatOf (erCls l.cells.xs) (gd (occR (erCls l.cells.xs) cell) i)).take m = selL (erCls l.cells.xs) ((occR (erCls l.cells.xs) cell).take (i + 1)) ls b := by
        rw [selL_take ha.hi]
        congr 1
        by_cases c : (selS ls (gd (occR (erCls l.cells.xs) cell) i) == b) = true
        · have hm2 : ¬ m < (gd l.cells.xs (gd zs i).cell.toNat).shapes.xs.length := fun hlt => by
            rw [c, Bool.and_true] at h5
            have := of_decide_eq_false h5
            omega
          rw [if_pos c, List.take_of_length_le (by rw [ha.len]; omega)]
        · rw [if_neg c, hq (by simpa using c)]; rfl
      refine WP.exit ?_
      refine WP.region ?_
      refine RG.pv rfl (PV.mvI (.inl rfl) rfl) ?_
      refine RG.pv rfl (PV.add rfl rfl rfl (by omega)) ?_
      refine RG.pv rfl (PV.mvI (.inr rfl) rfl) ?_
      refine RG.nil ?_
      exact ⟨rfl, i + 1, v3, (by omega), ⟨rfl, rfl, trivial⟩, ⟨rfl, rfl, rfl, rfl, trivial⟩, ((Cv.eqS e).trans Cv.p), by omega⟩
  · have h3 := of_decide_eq_false h3
    have e : selL (erCls l.cells.xs) ((occR (erCls l.cells.xs) cell).take i) ls b = selL (erCls l.cells.xs) (occR (erCls l.cells.xs) cell) ls b := by rw [List.take_of_length_le (by omega)]
    rw [e]
    refine WP.exit ?_
    refine WP.seq ?_
    refine WP.region ?_
    refine RG.pv rfl (PV.move (v := v2) rfl rfl) ?_
    refine RG.pv rfl (PV.asg (v := v2) rfl rfl) ?_
    refine RG.nil ?_
    refine WP.ret ?_
    exact ⟨_, _, ResV.one rfl rfl, Cv.p, k v2⟩
end Go.Proofs.YtbkaincaahcnfaaGreat
namespace Go.Proofs.YtbkaincaahcnfaaGreat
set_option linter.unusedVariables false
set_option linter.unusedSimpArgs false
open Go
set_option maxRecDepth 20000
set_option maxHeartbeats 1000000
set_option linter.unusedSimpArgs false
variable {G : Gh} {L : List Ch} {R : Value → Gh → List Ch → Prop}
theorem PV.max5 {P : Program} {σ : Nat → Value} {o : Oper} {k : IntKind} {x1 x2 x3 x4 x5 : Operand} {T1 T2 T3 T4 T5 : TypeId} {a1 a2 a3 a4 a5 : Int} (ho : o.op = .call { callee := .builtin .max, args := #[x1, x2, x3, x4, x5], argTypes := #[T1, T2, T3, T4, T5] }) (h1 : ev σ x1 = .int k a1) (h2 : ev σ x2 = .int k a2) (h3 : ev σ x3 = .int k a3) (h4 : ev σ x4 = .int k a4) (h5 : ev σ x5 = .int k a5) : PV P o σ G L (.int k (max (max (max (max a1 a2) a3) a4) a5)) := by
  intro w _
  have e : ∀ a b : Int, (if a < b then b else a) = max a b := fun a b => by simp only [Int.max_def]; split <;> split <;> omega
  simp [execOp, ho, h1, h2, h3, h4, h5, resolve, invoke, builtin, Builtin.max_, Builtin.max2, e]
theorem elems_cnt {ns : List Inst} (h : okNs ns) {i : Nat} (hi : i < ns.length) : ((elems (ns.take (i + 1))).length : Int) = (elems (ns.take i)).length + (gd ns i).cols * (gd ns i).rows ∧ 0 ≤ (gd ns i).cols * (gd ns i).rows ∧ (gd ns i).cols * (gd ns i).rows ≤ 16 := by
  obtain ⟨_, kk, h2⟩ := h
  obtain ⟨_, _, h3, h4, _, _⟩ := okIn_bd (h2 i hi)
  have e1 := mul_bd (a := (gd ns i).cols) (b := (gd ns i).rows) (A := 4) (B := 4) (by omega) (by omega) (by omega)
  have e0 : 0 ≤ (gd ns i).cols * (gd ns i).rows := Int.mul_nonneg (by omega) (by omega)
  have e2 : (((gd ns i).rows.toNat * (gd ns i).cols.toNat : Nat) : Int) = (gd ns i).cols * (gd ns i).rows := by
    rw [Int.natCast_mul, Int.toNat_of_nonneg (by omega), Int.toNat_of_nonneg (by omega), Int.mul_comm]
  refine ⟨?_, e0, by omega⟩
  rw [elems_take hi, List.length_append, elsOf_len, Int.natCast_add, e2]
theorem l21Elements_s {l : Lib} {cell : Int} (hL : RLib G L l.cells.v l.cells.xs) (hok : okLib (erCls l.cells.xs) = true ∧ 0 ≤ cell ∧ cell < (erCls l.cells.xs).length) (k : R (vi (elN (erCls l.cells.xs) cell)) G L) : CallT Tryz.prog 63 #[vT libT l, vi cell] G L R := by
  have hE := erCls_len l.cells.xs
  have hce := erCl_insts (xs := l.cells.xs) (i := cell.toNat) (by omega)
  have hns : okNs (gd l.cells.xs cell.toNat).insts.xs := by rw [← hce]; exact okLib_ns hok.1 (by omega)
  have hn8 := hns.1
  rw [elN_ns (by omega)] at k
  refine CallT.enter (args := _) Tryz.func63 rfl rfl (by kernel_rfl) rfl ?_
  refine WP.seq ?_
  refine WP.region ?_
  refine RG.ot rfl (OT.box (cs := libT.enc l) rfl rfl rfl fun b2 => ?_)
  refine RG.pv rfl (PV.mvI (.inr rfl) rfl) ?_
  refine RG.nil ?_
  refine WP.seq ?_
  refine WP.region ?_
  refine RG.pv rfl (PV.mvI (.inr rfl) rfl) ?_
  refine RG.nil ?_
  refine WP.seq ?_
  refine WP.region ?_
  refine RG.pv rfl (PV.field rfl Fo30_0 rfl) ?_
  refine RG.pv rfl (PV.load1 rfl Sc28 rfl (Rd.blk rfl)) ?_
  refine RG.pv rfl (PV.mvI (.inl rfl) rfl) ?_
  refine RG.pv rfl (PV.idxS (j := cell.toNat) rfl Is28 rfl (SlF.r hL.c) rfl (by omega) (by omega)) ?_
  refine RG.pv rfl (PV.field rfl Fo85_3 rfl) ?_
  refine RG.pv rfl (PV.loadF rfl Sc83 rfl rfl (El.r hL.c (getG (by omega))) rfl) ?_
  refine RG.pv rfl (PV.asg rfl rfl) ?_
  refine RG.nil ?_
  refine WP.seq ?_
  refine WP.seq ?_
  refine WP.region ?_
  refine RG.pv rfl (PV.mvI (.inr rfl) rfl) ?_
  refine RG.nil ?_
  refine WP.block ?_
  refine WP.loop2 [6] (fun (i : Nat) (n : Int) => i ≤ (gd l.cells.xs cell.toNat).insts.xs.length ∧ n = ((elems ((gd l.cells.xs cell.toNat).insts.xs.take i)).length : Int)) (fun (i : Nat) (n : Int) => [(7, vi i), (5, vi n)]) (fun (i : Nat) (n : Int) => L) (fun (i : Nat) (n : Int) => (gd l.cells.xs cell.toNat).insts.xs.length - i) 0 0 ⟨by omega, by simp [elems]⟩ ⟨rfl, rfl, trivial⟩ Cv.p ?_
  rintro i n τ ⟨hi, hn⟩
  refine WP.seq ?_
  refine WP.seq ?_
  refine WP.region ?_
  refine RG.pv rfl (PV.mvI (.inl rfl) rfl) ?_
  refine RG.pv rfl (PV.move rfl rfl) ?_
  refine RG.pv rfl (PV.len rfl Tryz.underlying83 rfl (SlF.r (hL.na (i := cell.toNat) (by omega)))) ?_
  refine RG.pv rfl (PV.lss rfl rfl rfl) ?_
  refine RG.nil ?_
  have hb := elems_bd2 hns i hi
  refine WP.cond rfl (fun h2 => ?_) (fun h2 => ?_)
  · have h2 := of_decide_eq_true h2
    obtain ⟨q1, q2, q3⟩ := elems_cnt hns (i := i) (by omega)
    refine WP.skip ?_
    refine WP.seq ?_
    refine WP.block ?_
    refine WP.regionQ (by kernel_rfl) (by kernel_rfl) ?_
    refine RQ.pv rfl (PV.mvI (.inl rfl) rfl) ?_
    refine RQ.pv rfl (PV.move rfl rfl) ?_
    refine RQ.pv rfl (PV.mvI (.inl rfl) rfl) ?_
    refine RQ.pv rfl (PV.idxS rfl Is83 rfl (SlF.r (hL.na (i := cell.toNat) (by omega))) rfl rfl (by omega)) ?_
    refine RQ.pv rfl (PV.field rfl Fo147_2 rfl) ?_
    refine RQ.pv rfl (PV.loadF rfl Sc2 rfl rfl (El.r (hL.na (i := cell.toNat) (by omega)) (getG (by omega))) rfl) ?_
    refine RQ.pv rfl (PV.move rfl rfl) ?_
    refine RQ.pv rfl (PV.mvI (.inl rfl) rfl) ?_
    refine RQ.pv rfl (PV.idxS rfl Is83 rfl (SlF.r (hL.na (i := cell.toNat) (by omega))) rfl rfl (by omega)) ?_
    refine RQ.pv rfl (PV.field rfl Fo147_3 rfl) ?_
    refine RQ.pv rfl (PV.loadF rfl Sc2 rfl rfl (El.r (hL.na (i := cell.toNat) (by omega)) (getG (by omega))) rfl) ?_
    refine RQ.pv rfl (PV.mul rfl rfl rfl (by omega)) ?_
    refine RQ.pv rfl (PV.add rfl rfl rfl (by omega)) ?_
    refine RQ.pv rfl (PV.mvI (.inr rfl) rfl) ?_
    refine RQ.nil ?_
    refine WP.region ?_
    refine RG.pv rfl (PV.mvI (.inl rfl) rfl) ?_
    refine RG.pv rfl (PV.add rfl rfl rfl (by omega)) ?_
    refine RG.pv rfl (PV.mvI (.inr rfl) rfl) ?_
    refine RG.nil ?_
    exact ⟨rfl, i + 1, _, ⟨by omega, by rw [q1, hn]⟩, ⟨rfl, rfl, trivial⟩, ⟨rfl, trivial⟩, Cv.p, by omega⟩
  · have h2 := of_decide_eq_false h2
    have e : n = ((elems (gd l.cells.xs cell.toNat).insts.xs).length : Int) := by rw [hn, List.take_of_length_le (by omega)]
    rw [← e] at k
    refine WP.exit ?_
    refine WP.seq ?_
    refine WP.region ?_
    refine RG.pv rfl (PV.mvI (.inl rfl) rfl) ?_
    refine RG.pv rfl (PV.mvI (.inr rfl) rfl) ?_
    refine RG.nil ?_
    refine WP.ret ?_
    exact ⟨_, _, ResV.one rfl rfl, Cv.p, k⟩
theorem l21Code_s {l : Lib} {cell n : Int} (hL : RLib G L l.cells.v l.cells.xs) (hlen : lenC (erCls l.cells.xs)) (k : R (vi (elE (erCls l.cells.xs) cell n)) G L) : CallT Tryz.prog 45 #[vT libT l, vi cell, vi n] G L R := by
  refine CallT.enter (args := _) Tryz.func45 rfl rfl (by kernel_rfl) rfl ?_
  refine WP.seq ?_
  refine WP.region ?_
  refine RG.ot rfl (OT.box (cs := libT.enc l) rfl rfl rfl fun b3 => ?_)
  refine RG.pv rfl (PV.mvI (.inr rfl) rfl) ?_
  refine RG.nil ?_
  refine WP.seq ?_
  refine WP.region ?_
  refine RG.pv rfl (PV.loadW rfl Ag30 rfl rfl) ?_
  refine RG.pv rfl (PV.mvI (.inl rfl) rfl) ?_
  refine RG.callF (vs := [_, _]) rfl rfl En54 rfl (flat_r hL.up hlen (fun w12 => ?_))
  refine RG.pv rfl (PV.move (v := .tuple _) rfl rfl) ?_
  refine RG.pv rfl (PV.ext (v := w12) rfl rfl rfl) ?_
  refine RG.pv rfl (PV.ext rfl rfl rfl) ?_
  refine RG.pv rfl (PV.asg (v := w12) rfl rfl) ?_
  refine RG.pv rfl (PV.mvI (.inr rfl) rfl) ?_
  refine RG.nil ?_
  refine WP.seq ?_
  refine WP.seq ?_
  refine WP.region ?_
  refine RG.pv rfl (PV.mvI (.inl rfl) rfl) ?_
  refine RG.pv rfl (PV.neq rfl rfl rfl) ?_
  refine RG.nil ?_
  refine WP.cond rfl (fun h1 => ?_) (fun h1 => ?_)
  · have h1 : shE (erCls l.cells.xs) cell ≠ 0 := by simpa using h1
    have e : elE (erCls l.cells.xs) cell n = shE (erCls l.cells.xs) cell := by rw [elE, decide_eq_false h1]; rfl
    rw [e] at k
    refine WP.seq ?_
    refine WP.region ?_
    refine RG.pv rfl (PV.mvI (.inl rfl) rfl) ?_
    refine RG.pv rfl (PV.mvI (.inr rfl) rfl) ?_
    refine RG.nil ?_
    refine WP.ret ?_
    exact ⟨_, _, ResV.one rfl rfl, Cv.p, k⟩
  · have h1 : shE (erCls l.cells.xs) cell = 0 := by simpa using h1
    have hb : elN (erCls l.cells.xs) cell ≤ 128 := by have := shE_lib h1; exact elems_len_bd this.1 (by omega)
    refine WP.skip ?_
    refine WP.seq ?_
    refine WP.seq ?_
    refine WP.region ?_
    refine RG.pv rfl (PV.mvI (.inl rfl) rfl) ?_
    refine RG.pv rfl (PV.loadW rfl Ag30 rfl rfl) ?_
    refine RG.pv rfl (PV.mvI (.inl rfl) rfl) ?_
    refine RG.callF (vs := [_, _]) rfl rfl En63 rfl (l21Elements_s hL.up (shE_lib h1) ?_)
    refine RG.pv rfl (PV.sub rfl rfl rfl (by omega)) ?_
    refine RG.callF (vs := [_, _, _]) rfl rfl En62 rfl (l01In_s ?_)
    refine RG.pv rfl (PV.not rfl rfl) ?_
    refine RG.nil ?_
    refine WP.cond rfl (fun h2 => ?_) (fun h2 => ?_)
    · have e : elE (erCls l.cells.xs) cell n = 5 := by rw [elE, decide_eq_true h1, cond_true, show within n 0 ((elN (erCls l.cells.xs) cell : Int) - 1) = false by simpa using h2]; rfl
      rw [e] at k
      refine WP.seq ?_
      refine WP.region ?_
      refine RG.pv rfl (PV.mvI (.inr rfl) rfl) ?_
      refine RG.nil ?_
      refine WP.ret ?_
      exact ⟨_, _, ResV.one rfl rfl, Cv.p, k⟩
    · have e : elE (erCls l.cells.xs) cell n = 0 := by rw [elE, decide_eq_true h1, cond_true, show within n 0 ((elN (erCls l.cells.xs) cell : Int) - 1) = true by simpa using h2]; rfl
      rw [e] at k
      refine WP.skip ?_
      refine WP.seq ?_
      refine WP.region ?_
      refine RG.pv rfl (PV.mvI (.inr rfl) rfl) ?_
      refine RG.nil ?_
      refine WP.ret ?_
      exact ⟨_, _, ResV.one rfl rfl, Cv.p, k⟩
/-- rectangles that may have left the chip -/
def RBig (r : Rect) : Prop := (-2000 ≤ r.x0 ∧ r.x0 < r.x1 ∧ r.x1 ≤ 2000) ∧ -2000 ≤ r.y0 ∧ r.y0 < r.y1 ∧ r.y1 ≤ 2000
theorem RIn_big {r : Rect} (h : RIn 40 r) : RBig r := by obtain ⟨h1, h2, h3, h4, h5, h6⟩ := h; exact ⟨by omega, by omega⟩
theorem moveR_big {t : Trans} {r : Rect} (h : RIn 40 r) (ho : 0 ≤ t.o ∧ t.o ≤ 7) (ht : (-1000 ≤ t.x ∧ t.x ≤ 1000) ∧ -1000 ≤ t.y ∧ t.y ≤ 1000) : RBig (moveR t r) := by
  have h1 := moveR_turn ho h
  obtain ⟨q1, q2, q3, q4, q5, q6⟩ := h1
  simp only [moveR, moveP] at q1 q2 q3 q4 q5 q6
  refine ⟨?_, ?_⟩ <;> simp only [moveR, moveP] <;> omega
theorem dist_s {a b : Rect} (ha : RBig a) (hb : RBig b) (k : R (vi (distR a b)) G L) : CallT Tryz.prog 98 #[vrect a, vrect b] G L R := by
  obtain ⟨⟨a1, a2, a3⟩, a4, a5, a6⟩ := ha
  obtain ⟨⟨b1, b2, b3⟩, b4, b5, b6⟩ := hb
  refine CallT.enter (args := _) Tryz.func98 rfl rfl (by kernel_rfl) rfl ?_
  refine WP.seq ?_
  refine WP.region ?_
  refine RG.ot rfl (OT.box (cs := rectT.enc a) rfl rfl rfl fun b2 => ?_)
  refine RG.ot rfl (OT.box (cs := rectT.enc b) rfl rfl rfl fun b3 => ?_)
  refine RG.pv rfl (PV.mvI (.inr rfl) rfl) ?_
  refine RG.nil ?_
  refine WP.seq ?_
  refine WP.region ?_
  refine RG.pv rfl (PV.field rfl Fo116_0 rfl) ?_
  refine RG.pv rfl (PV.load1 rfl Sc2 rfl (Rd.blk rfl)) ?_
  refine RG.pv rfl (PV.field rfl Fo116_2 rfl) ?_
  refine RG.pv rfl (PV.load1 rfl Sc2 rfl (Rd.blk rfl)) ?_
  refine RG.pv rfl (PV.sub rfl rfl rfl (by omega)) ?_
  refine RG.pv rfl (PV.add rfl rfl rfl (by omega)) ?_
  refine RG.pv rfl (PV.field rfl Fo116_0 rfl) ?_
  refine RG.pv rfl (PV.load1 rfl Sc2 rfl (Rd.blk rfl)) ?_
  refine RG.pv rfl (PV.field rfl Fo116_2 rfl) ?_
  refine RG.pv rfl (PV.load1 rfl Sc2 rfl (Rd.blk rfl)) ?_
  refine RG.pv rfl (PV.sub rfl rfl rfl (by omega)) ?_
  refine RG.pv rfl (PV.add rfl rfl rfl (by omega)) ?_
  refine RG.pv rfl (PV.field rfl Fo116_1 rfl) ?_
  refine RG.pv rfl (PV.load1 rfl Sc2 rfl (Rd.blk rfl)) ?_
  refine RG.pv rfl (PV.field rfl Fo116_3 rfl) ?_
  refine RG.pv rfl (PV.load1 rfl Sc2 rfl (Rd.blk rfl)) ?_
  refine RG.pv rfl (PV.sub rfl rfl rfl (by omega)) ?_
  refine RG.pv rfl (PV.add rfl rfl rfl (by omega)) ?_
  refine RG.pv rfl (PV.field rfl Fo116_1 rfl) ?_
  refine RG.pv rfl (PV.load1 rfl Sc2 rfl (Rd.blk rfl)) ?_
  refine RG.pv rfl (PV.field rfl Fo116_3 rfl) ?_
  refine RG.pv rfl (PV.load1 rfl Sc2 rfl (Rd.blk rfl)) ?_
  refine RG.pv rfl (PV.sub rfl rfl rfl (by omega)) ?_
  refine RG.pv rfl (PV.add rfl rfl rfl (by omega)) ?_
  refine RG.pv rfl (PV.max5 rfl rfl rfl rfl rfl rfl) ?_
  refine RG.pv rfl (PV.mvI (.inr rfl) rfl) ?_
  refine RG.nil ?_
  refine WP.ret ?_
  exact ⟨_, _, ResV.one rfl rfl, Cv.p, k⟩
theorem span_s {a b c d : Int} (ha : -10000 ≤ a ∧ a ≤ 10000) (hb : -10000 ≤ b ∧ b ≤ 10000) (hc : -10000 ≤ c ∧ c ≤ 10000) (hd : -10000 ≤ d ∧ d ≤ 10000) (k : R (vi (min b d - max a c)) G L) : CallT Tryz.prog 89 #[vi a, vi b, vi c, vi d] G L R := by
  refine CallT.enter (args := _) Tryz.func89 rfl rfl (by kernel_rfl) rfl ?_
  refine WP.seq ?_
  refine WP.region ?_
  refine RG.pv rfl (PV.mvI (.inr rfl) rfl) ?_
  refine RG.nil ?_
  refine WP.seq ?_
  refine WP.region ?_
  refine RG.pv rfl (PV.mvI (.inl rfl) rfl) ?_
  refine RG.pv rfl (PV.mvI (.inl rfl) rfl) ?_
  refine RG.pv rfl (PV.min2 rfl rfl rfl) ?_
  refine RG.pv rfl (PV.mvI (.inl rfl) rfl) ?_
  refine RG.pv rfl (PV.mvI (.inl rfl) rfl) ?_
  refine RG.pv rfl (PV.max2 rfl rfl rfl) ?_
  refine RG.pv rfl (PV.sub rfl rfl rfl (by omega)) ?_
  refine RG.pv rfl (PV.mvI (.inr rfl) rfl) ?_
  refine RG.nil ?_
  refine WP.ret ?_
  exact ⟨_, _, ResV.one rfl rfl, Cv.p, k⟩
theorem wide_s {r : Rect} {q : Int} (hr : RBig r) (hq : 0 ≤ q ∧ q ≤ 100) (k : R (vrect (wideR r q)) G L) : CallT Tryz.prog 88 #[vrect r, vi q] G L R := by
  obtain ⟨⟨a1, a2, a3⟩, a4, a5, a6⟩ := hr
  refine CallT.enter (args := _) Tryz.func88 rfl rfl (by kernel_rfl) rfl ?_
  refine WP.seq ?_
  refine WP.region ?_
  refine RG.ot rfl (OT.box (cs := rectT.enc r) rfl rfl rfl fun b2 => ?_)
  refine RG.ot rfl (OT.alloc rfl Zr116 fun b4 => ?_)
  refine RG.nil ?_
  refine WP.seq ?_
  refine WP.region ?_
  refine RG.pv rfl (PV.field rfl Fo116_0 rfl) ?_
  refine RG.pv rfl (PV.load1 rfl Sc2 rfl (Rd.blk rfl)) ?_
  refine RG.pv rfl (PV.mvI (.inl rfl) rfl) ?_
  refine RG.pv rfl (PV.sub rfl rfl rfl (by omega)) ?_
  refine RG.pv rfl (PV.field rfl Fo116_1 rfl) ?_
  refine RG.pv rfl (PV.load1 rfl Sc2 rfl (Rd.blk rfl)) ?_
  refine RG.pv rfl (PV.mvI (.inl rfl) rfl) ?_
  refine RG.pv rfl (PV.sub rfl rfl rfl (by omega)) ?_
  refine RG.pv rfl (PV.field rfl Fo116_2 rfl) ?_
  refine RG.pv rfl (PV.load1 rfl Sc2 rfl (Rd.blk rfl)) ?_
  refine RG.pv rfl (PV.mvI (.inl rfl) rfl) ?_
  refine RG.pv rfl (PV.add rfl rfl rfl (by omega)) ?_
  refine RG.pv rfl (PV.field rfl Fo116_3 rfl) ?_
  refine RG.pv rfl (PV.load1 rfl Sc2 rfl (Rd.blk rfl)) ?_
  refine RG.pv rfl (PV.mvI (.inl rfl) rfl) ?_
  refine RG.pv rfl (PV.add rfl rfl rfl (by omega)) ?_
  refine RG.pv rfl (PV.build (vs := [(0, [vi _]), (1, [vi _]), (2, [vi _]), (3, [vi _])]) (out := [_, _, _, _]) rfl Zr116 Pl116 ⟨rfl, (Cl.c rfl), ⟨rfl, (Cl.c rfl), ⟨rfl, (Cl.c rfl), ⟨rfl, (Cl.c rfl), trivial⟩⟩⟩⟩ rfl) ?_
  refine RG.ot rfl (OT.storeW (vs := [vi _, vi _, vi _, vi _]) rfl Sz116 rfl rfl (Cl.c rfl) rfl rfl (OneC.c rfl) ?_)
  refine RG.nil ?_
  refine WP.ret ?_
  exact ⟨_, _, ResV.one rfl (RV1.cell rfl Ag116 rfl), Cv.p, k⟩
theorem reach21_s {n : Int} (k : R (.bool (within n 0 8)) G L) : CallT Tryz.prog 46 #[vi n] G L R := by
  refine CallT.enter (args := _) Tryz.func46 rfl rfl (by kernel_rfl) rfl ?_
  refine WP.seq ?_
  refine WP.region ?_
  refine RG.pv rfl (PV.mvB (.inr rfl) rfl) ?_
  refine RG.nil ?_
  refine WP.seq ?_
  refine WP.region ?_
  refine RG.pv rfl (PV.mvI (.inl rfl) rfl) ?_
  refine RG.callF (vs := [_, _, _]) rfl rfl En62 rfl (l01In_s ?_)
  refine RG.pv rfl (PV.mvB (.inr rfl) rfl) ?_
  refine RG.nil ?_
  refine WP.ret ?_
  exact ⟨_, _, ResV.one rfl rfl, Cv.p, k⟩
/-- near, as the reference says it -/
theorem near_span {a p : Rect} {q : Int} (ha : RBig a) (hp : RBig p) (hq : 0 ≤ q) : decide (distR a p ≤ 2 * q) = (decide (0 < min a.x1 (wideR p (2 * q)).x1 - max a.x0 (wideR p (2 * q)).x0) && decide (0 < min a.y1 (wideR p (2 * q)).y1 - max a.y0 (wideR p (2 * q)).y0)) := by
  obtain ⟨⟨a1, a2, a3⟩, a4, a5, a6⟩ := ha
  obtain ⟨⟨b1, b2, b3⟩, b4, b5, b6⟩ := hp
  rw [Bool.eq_iff_iff]
  have e1 : 0 < min a.x1 (p.x1 + 2 * q) - max a.x0 (p.x0 - 2 * q) ↔ (a.x0 < a.x1 ∧ p.x0 - 2 * q < a.x1) ∧ a.x0 < p.x1 + 2 * q ∧ p.x0 - 2 * q < p.x1 + 2 * q := by simp only [Int.min_def, Int.max_def]; split <;> split <;> omega
  have e2 : 0 < min a.y1 (p.y1 + 2 * q) - max a.y0 (p.y0 - 2 * q) ↔ (a.y0 < a.y1 ∧ p.y0 - 2 * q < a.y1) ∧ a.y0 < p.y1 + 2 * q ∧ p.y0 - 2 * q < p.y1 + 2 * q := by simp only [Int.min_def, Int.max_def]; split <;> split <;> omega
  simp only [distR, wideR, Bool.and_eq_true, decide_eq_true_eq, e1, e2, Int.max_le]
  omega
end Go.Proofs.YtbkaincaahcnfaaGreat
namespace Go.Proofs.YtbkaincaahcnfaaGreat
set_option linter.unusedVariables false
set_option linter.unusedSimpArgs false
open Go
set_option maxRecDepth 20000
set_option maxHeartbeats 1000000
set_option linter.unusedSimpArgs false
variable {G : Gh} {L : List Ch} {R : Value → Gh → List Ch → Prop}
theorem gd_p0 {α : Type} [Inhabited α] (a b : α) : gd [a, b] 0 = a := by simp [gd]
theorem gd_p1 {α : Type} [Inhabited α] (a b : α) : gd [a, b] 1 = b := by simp [gd]
/-- what is known where an element is asked for -/
structure AtEl (xs : List Cell) (cell n : Int) : Prop where
  hz : shE (erCls xs) cell = 0
  hn : 0 ≤ n ∧ n < elN (erCls xs) cell
theorem AtEl.lib {xs : List Cell} {cell n : Int} (h : AtEl xs cell n) : okLib (erCls xs) = true ∧ 0 ≤ cell ∧ cell.toNat < xs.length := by
  have := shE_lib h.hz
  rw [erCls_len] at this
  exact ⟨this.1, by omega, by omega⟩
theorem AtEl.lt {xs : List Cell} {cell n : Int} (h : AtEl xs cell n) : n.toNat < (elems (gd xs cell.toNat).insts.xs).length := by
  have := h.hn
  rw [elN_ns h.lib.2.2] at this
  omega
theorem AtEl.el {xs : List Cell} {cell n : Int} (h : AtEl xs cell n) : (0 ≤ (gd (elems (gd xs cell.toNat).insts.xs) n.toNat).place.o ∧ (gd (elems (gd xs cell.toNat).insts.xs) n.toNat).place.o ≤ 7) ∧ ((-80 ≤ (gd (elems (gd xs cell.toNat).insts.xs) n.toNat).place.x ∧ (gd (elems (gd xs cell.toNat).insts.xs) n.toNat).place.x ≤ 80) ∧ -80 ≤ (gd (elems (gd xs cell.toNat).insts.xs) n.toNat).place.y ∧ (gd (elems (gd xs cell.toNat).insts.xs) n.toNat).place.y ≤ 80) := by
  have := elems_valid (shE_zero h.hz).1 (i := n.toNat) (by have := h.hn; omega)
  rw [erCl_insts h.lib.2.2] at this
  exact validT_iff.1 this
theorem free_no {cs : List ECell} {cell n reach : Int} (h : bndE cs (gd (elems (gd cs cell.toNat).insts) n.toNat).cell ≠ 0) : freeB cs cell n reach = false := by
  simp only [freeB, decide_eq_false h, Bool.false_and]
theorem rootR_in {xs : List Cell} {cell : Int} (hz : shE (erCls xs) cell = 0) {i : Nat} (hi : i < (rootR (erCls xs) cell).length) : RIn 40 (gd (rootR (erCls xs) cell) i).shape.box := by
  have e : rootR (erCls xs) cell = rootL (erCls xs) (occR (erCls xs) cell) := by rw [rootR, decide_eq_true hz]; rfl
  rw [e] at hi ⊢
  have hm : (gd (rootL (erCls xs) (occR (erCls xs) cell)) i).shape ∈ (rootL (erCls xs) (occR (erCls xs) cell)).map RShape.shape := List.mem_map.2 ⟨_, gd_mem hi, rfl⟩
  rw [rootL_flat] at hm
  exact validR_in ((shE_zero hz).2 _ hm)
theorem free1_s {x : RShape} {n reach : Int} {p : Rect} {b1 b2 b3 : Nat} (h1 : Rd G L b1 0 (vi n)) (h2 : RdN G L b2 (rectT.enc p)) (h3 : Rd G L b3 0 (vi reach)) (hx : RBig x.shape.box) (hp2 : RBig p) (hr : 0 ≤ reach ∧ reach ≤ 8) (k : R (.bool (nearS n reach p x)) G L) :
    CallT Tryz.prog 97 #[vT rshapeT x, .pointer (some ⟨b1, 0, none⟩), .pointer (some ⟨b2, 0, none⟩), .pointer (some ⟨b3, 0, none⟩)] G L R := by
  refine CallT.enter (args := _) Tryz.func97 rfl rfl (by kernel_rfl) rfl ?_
  refine WP.seq ?_
  refine WP.region ?_
  refine RG.ot rfl (OT.box (cs := rshapeT.enc x) rfl rfl rfl fun b4 => ?_)
  refine RG.pv rfl (PV.mvB (.inr rfl) rfl) ?_
  refine RG.nil ?_
  refine WP.seq ?_
  refine WP.regionQ (by kernel_rfl) (by kernel_rfl) ?_
  refine RQ.pv rfl (PV.field rfl Fo139_0 rfl) ?_
  refine RQ.pv rfl (PV.load1 rfl Sc2 rfl (Rd.blk rfl)) ?_
  refine RQ.pv rfl (PV.load1 rfl Sc2 rfl (Rd.up h1)) ?_
  refine RQ.pv rfl (PV.neq rfl rfl rfl) ?_
  refine RQ.pv rfl (PV.mvB (.inl rfl) rfl) ?_
  refine RQ.gs rfl rfl rfl (fun hp => (PV.field rfl Fo139_1 rfl)) ?_
  refine RQ.gs rfl rfl rfl (fun hp => (PV.field rfl Fo135_1 (gs_t hp))) ?_
  refine RQ.gs rfl rfl rfl (fun hp => (PV.loadB (vs := [_, _, _, _]) rfl Ag116 (gs_t hp) rfl rfl)) ?_
  refine RQ.gs rfl rfl rfl (fun hp => (PV.loadA rfl Ag116 rfl rfl (RdN.up h2))) ?_
  refine RQ.gsC rfl rfl rfl rfl En98 (fun hp => ⟨_, (acons (gs_t hp) (acons (gs_t hp) anil)), dist_s hx hp2 ⟨rfl, rfl, rfl⟩⟩) ?_
  refine RQ.gs rfl rfl rfl (fun hp => (PV.load1 rfl Sc2 rfl (Rd.up h3))) ?_
  refine RQ.gs rfl rfl rfl (fun hp => (PV.mul rfl rfl (gs_t hp) (by first | omega | (simp at hp; omega)))) ?_
  refine RQ.gs rfl rfl rfl (fun hp => (PV.leq rfl (gs_t hp) (gs_t hp))) ?_
  refine RQ.pv rfl (PV.pickA rfl rfl (fun hq => gs_t (geqT hq)) rfl) ?_
  refine RQ.pv rfl (PV.mvB (.inr rfl) rfl) ?_
  refine RQ.nil ?_
  refine WP.ret ?_
  exact ⟨_, _, ResV.one rfl rfl, Cv.p, k⟩
theorem indexF_rshape {v fv : Value} {xs : List (RShape)} {p : (RShape) → Bool} (h1 : Rs G L rshapeT v xs) (hf : ∀ i, i < xs.length → CB Tryz.prog G L fv [vT rshapeT (gd xs i)] (.bool (p (gd xs i)))) (k : R (vi (idxI p xs)) G L) : CallT Tryz.prog 146 #[v, fv] G L R := by
  refine CallT.bd h1 fun hb => ?_
  refine CallT.enter (args := _) Tryz.func146 rfl rfl (by kernel_rfl) rfl ?_
  refine WP.seq ?_
  refine WP.region ?_
  refine RG.pv rfl (PV.mvI (.inr rfl) rfl) ?_
  refine RG.nil ?_
  refine WP.seq ?_
  refine WP.seq ?_
  refine WP.region ?_
  refine RG.pv rfl (PV.move (v := v) rfl rfl) ?_
  refine RG.pv rfl (PV.len (v := v) rfl Tryz.underlying69 rfl (SlF.r h1)) ?_
  refine RG.pv rfl (PV.mvI (.inl rfl) rfl) ?_
  refine RG.nil ?_
  refine WP.block ?_
  refine WP.loop1 [0, 1, 7] (fun i => i ≤ xs.length ∧ ∀ j, j < i → p (gd xs j) = false) (fun i => [(8, vi i)]) (fun i => L) (fun i => xs.length - i) 0 ⟨by omega, fun j h => by omega⟩ ⟨rfl, trivial⟩ Cv.p ?_
  rintro i τ ⟨hi, hj⟩
  refine WP.seq ?_
  refine WP.region ?_
  refine RG.pv rfl (PV.lss rfl rfl rfl) ?_
  refine RG.nil ?_
  refine WP.seq ?_
  refine WP.cond rfl (fun h2 => ?_) (fun h2 => ?_)
  · have h2 := of_decide_eq_true h2
    refine WP.skip ?_
    refine WP.seq ?_
    refine WP.block ?_
    refine WP.seq ?_
    refine WP.region ?_
    refine RG.pv rfl (PV.mvI (.inl rfl) rfl) ?_
    refine RG.pv rfl (PV.mvI (.inr rfl) rfl) ?_
    refine RG.nil ?_
    refine WP.seq ?_
    refine WP.region ?_
    refine RG.pv rfl (PV.move (v := fv) rfl rfl) ?_
    refine RG.pv rfl (PV.move (v := v) rfl rfl) ?_
    refine RG.pv rfl (PV.mvI (.inl rfl) rfl) ?_
    refine RG.pv rfl (PV.idxS (v := v) rfl Is69 rfl (SlF.r h1) rfl rfl (by omega)) ?_
    refine RG.pv rfl (PV.loadE rfl Ag139 rfl rfl (El.r h1 (getG (by omega)))) ?_
    refine RG.callB (vs := [_]) rfl rfl rfl rfl (CB.up (hf i (by omega))) ?_
    refine RG.nil ?_
    refine WP.cond rfl (fun h3 => ?_) (fun h3 => ?_)
    · rw [idxI_at (by omega) h3 hj] at k
      refine WP.seq ?_
      refine WP.region ?_
      refine RG.pv rfl (PV.mvI (.inl rfl) rfl) ?_
      refine RG.pv rfl (PV.mvI (.inr rfl) rfl) ?_
      refine RG.nil ?_
      refine WP.ret ?_
      exact ⟨_, _, ResV.one rfl rfl, Cv.p, k⟩
    · have hj' : ∀ j, j < i + 1 → p (gd xs j) = false := fun j h => by
        by_cases c : j = i
        · rw [c]; exact h3
        · exact hj j (by omega)
      refine WP.skip ?_
      refine WP.region ?_
      refine RG.pv rfl (PV.add rfl rfl rfl (by omega)) ?_
      refine RG.pv rfl (PV.mvI (.inl rfl) rfl) ?_
      refine RG.nil ?_
      exact ⟨rfl, i + 1, ⟨by omega, hj'⟩, ⟨rfl, trivial⟩, ⟨rfl, rfl, rfl, trivial⟩, Cv.p, by omega⟩
  · have h2 := of_decide_eq_false h2
    rw [idxI_none (fun j h => hj j (by omega))] at k
    refine WP.exit ?_
    refine WP.seq ?_
    refine WP.region ?_
    refine RG.pv rfl (PV.mvI (.inr rfl) rfl) ?_
    refine RG.nil ?_
    refine WP.ret ?_
    exact ⟨_, _, ResV.one rfl rfl, Cv.p, k⟩
theorem containsF_rshape {v fv : Value} {xs : List (RShape)} {p : (RShape) → Bool} (h1 : Rs G L rshapeT v xs) (hf : ∀ i, i < xs.length → CB Tryz.prog G L fv [vT rshapeT (gd xs i)] (.bool (p (gd xs i)))) (k : R (.bool (xs.any p)) G L) : CallT Tryz.prog 96 #[v, fv] G L R := by
  rw [← idxI_any] at k
  refine CallT.enter (args := _) Tryz.func96 rfl rfl (by kernel_rfl) rfl ?_
  refine WP.seq ?_
  refine WP.region ?_
  refine RG.pv rfl (PV.mvB (.inr rfl) rfl) ?_
  refine RG.nil ?_
  refine WP.seq ?_
  refine WP.region ?_
  refine RG.pv rfl (PV.move (v := v) rfl rfl) ?_
  refine RG.pv rfl (PV.move (v := fv) rfl rfl) ?_
  refine RG.callF (vs := [v, fv]) rfl rfl En146 rfl (indexF_rshape (Rs.up h1) (fun i hi => (hf i hi).up) ?_)
  refine RG.pv rfl (PV.geq rfl rfl rfl) ?_
  refine RG.pv rfl (PV.mvB (.inr rfl) rfl) ?_
  refine RG.nil ?_
  refine WP.ret ?_
  exact ⟨_, _, ResV.one rfl rfl, Cv.p, k⟩
theorem free_i {l : Lib} {cell n reach : Int} {v : Value} (hL : RLib G L l.cells.v l.cells.xs) (hlen : lenC (erCls l.cells.xs)) (ha : AtEl l.cells.xs cell n) (hr : 0 ≤ reach ∧ reach ≤ 8) (h5 : Rs G L rshapeT v (rootR (erCls l.cells.xs) cell)) (k : R (.bool (freeB (erCls l.cells.xs) cell n reach)) G L) :
    CallT Tryz.prog 52 #[vT libT l, vi cell, vi n, vi reach, v] G L R := by
  have hE := erCls_len l.cells.xs
  obtain ⟨hok, hc0, hc1⟩ := ha.lib
  have hce := erCl_insts (xs := l.cells.xs) (i := cell.toNat) hc1
  have hns : okNs (gd l.cells.xs cell.toNat).insts.xs := by rw [← hce]; exact okLib_ns hok (by omega)
  have hnl := ha.lt
  have hn0 := ha.hn.1
  obtain ⟨he1, he2'⟩ := ha.el
  have he2 : -1000 ≤ (gd (elems (gd l.cells.xs cell.toNat).insts.xs) n.toNat).place.x ∧ (gd (elems (gd l.cells.xs cell.toNat).insts.xs) n.toNat).place.x ≤ 1000 ∧ -1000 ≤ (gd (elems (gd l.cells.xs cell.toNat).insts.xs) n.toNat).place.y ∧ (gd (elems (gd l.cells.xs cell.toNat).insts.xs) n.toNat).place.y ≤ 1000 := by omega
  have e2 : rootR (erCls l.cells.xs) cell = rootL (erCls l.cells.xs) (occR (erCls l.cells.xs) cell) := by rw [rootR, decide_eq_true ha.hz]; rfl
  refine CallT.enter (args := _) Tryz.func52 rfl rfl (by kernel_rfl) rfl ?_
  refine WP.seq ?_
  refine WP.region ?_
  refine RG.ot rfl (OT.box (cs := libT.enc l) rfl rfl rfl fun b5 => ?_)
  refine RG.ot rfl (OT.box (cs := [vi n]) rfl rfl rfl fun b7 => ?_)
  refine RG.ot rfl (OT.box (cs := [vi reach]) rfl rfl rfl fun b8 => ?_)
  refine RG.pv rfl (PV.mvB (.inr rfl) rfl) ?_
  refine RG.nil ?_
  refine WP.cut1 [4, 5, 7, 8] (fun (b11 : Nat) => True) (fun (b11 : Nat) => [(11, .pointer (some ⟨b11, 0, none⟩))]) (fun (b11 : Nat) => blk b11 141 (helemT.enc (gd (elems (gd l.cells.xs cell.toNat).insts.xs) n.toNat)) :: blk b5 30 (libT.enc l) :: blk b7 2 [vi n] :: blk b8 2 [vi reach] :: L) ?_ ?_
  refine WP.regionH0 (.q 0 (.q 1 (.q 2 (.q 3 (.q 4 (.q 6 (.b 5 (.q 7 (.q 8 (.l 9 (.l 10 Sch.nil)))) 9 (.l 5 (.q 7 (.q 8 (.l 10 Sch.nil))))))))))) (by kernel_rfl) (by kernel_rfl) (by kernel_rfl) rfl ?_
  refine RH.pv rfl (fun _ _ _ _ h => h) (Gh.le_refl _) PickC.pick rfl (PV.field rfl Fo30_0 rfl) ?_
  refine RH.pv rfl (fun _ _ _ _ h => h) (Gh.le_refl _) PickC.pick rfl (PV.load1 rfl Sc28 rfl (Rd.blk rfl)) ?_
  refine RH.pv rfl (fun _ _ _ _ h => h) (Gh.le_refl _) PickC.pick rfl (PV.mvI (.inl rfl) rfl) ?_
  refine RH.pv rfl (fun _ _ _ _ h => h) (Gh.le_refl _) PickC.pick rfl (PV.idxS (j := cell.toNat) rfl Is28 rfl (SlF.r hL.c) rfl (by first | omega | (simp only [List.length_cons, List.length_nil]; omega)) (by first | omega | (simp only [List.length_cons, List.length_nil]; omega))) ?_
  refine RH.pv rfl (fun _ _ _ _ h => h) (Gh.le_refl _) PickC.pick rfl (PV.loadE rfl Ag85 rfl rfl (El.r hL.c (getG (by first | omega | (simp only [List.length_cons, List.length_nil]; omega))))) ?_
  refine RH.pv rfl (fun _ _ _ _ h => h) (Gh.le_refl _) PickC.pick rfl (PV.load1 rfl Sc2 rfl (Rd.blk rfl)) ?_
  · refine RH.ot2 rfl rfl rfl rfl  (OT.callF (vs := [_]) rfl En56 rfl (elems_i (hL.na (by omega)).up hns (fun v22 => ⟨Gh.le_refl _, PickC.pick, ?_⟩))) (OT.alloc rfl Zr141 fun b11 => ⟨Gh.le_refl _, PickC.pick, ?_⟩)
    · refine RH.up1 ?_
      refine RH.pv rfl (fun _ _ _ _ h => h) (Gh.le_refl _) PickC.pick rfl (PV.idxS (j := n.toNat) (v := v22) rfl Is80 rfl SlF.o rfl (by first | omega | (simp only [List.length_cons, List.length_nil]; omega)) (by first | omega | (simp only [List.length_cons, List.length_nil]; omega))) ?_
      refine RH.pv rfl (fun _ _ _ _ h => h) (Gh.le_refl _) PickC.pick rfl (PV.loadE rfl Ag141 rfl rfl (El.o (getG (by first | omega | (simp only [List.length_cons, List.length_nil]; omega))))) ?_
      refine RH.ot rfl rfl (OT.alloc rfl Zr141 fun b11 => ⟨Gh.le_refl _, PickC.pick, ?_⟩)
      refine RH.ot rfl rfl (OT.storeW (vs := [vi _, vi _, vi _, vi _]) rfl Sz141 rfl rfl (Cl.c rfl) rfl rfl (OneC.c rfl) ⟨Gh.le_refl _, PickC.pick, ?_⟩)
      refine RH.nil ?_
      exact ⟨rfl, b11, trivial, ⟨rfl, trivial⟩, ⟨rfl, rfl, rfl, rfl, trivial⟩, Cv.p⟩
    · refine RH.ot rfl rfl (OT.callF (vs := [_]) rfl En56 rfl (elems_i (hL.na (by omega)).up hns (fun v22 => ⟨Gh.le_refl _, PickC.pick, ?_⟩)))
      refine RH.up1 ?_
      refine RH.pv rfl (fun _ _ _ _ h => h) (Gh.le_refl _) PickC.pick rfl (PV.idxS (j := n.toNat) (v := v22) rfl Is80 rfl SlF.o rfl (by first | omega | (simp only [List.length_cons, List.length_nil]; omega)) (by first | omega | (simp only [List.length_cons, List.length_nil]; omega))) ?_
      refine RH.pv rfl (fun _ _ _ _ h => h) (Gh.le_refl _) PickC.pick rfl (PV.loadE rfl Ag141 rfl rfl (El.o (getG (by first | omega | (simp only [List.length_cons, List.length_nil]; omega))))) ?_
      refine RH.ot rfl rfl (OT.storeW (vs := [vi _, vi _, vi _, vi _]) rfl Sz141 rfl rfl (Cl.c rfl) rfl rfl (OneC.c rfl) ⟨Gh.le_refl _, PickC.pick, ?_⟩)
      refine RH.nil ?_
      exact ⟨rfl, b11, trivial, ⟨rfl, trivial⟩, ⟨rfl, rfl, rfl, rfl, trivial⟩, Cv.p⟩
  rintro b11 τ -
  refine WP.seq ?_
  refine WP.region ?_
  refine RG.pv rfl (PV.loadW rfl Ag30 rfl rfl) ?_
  refine RG.pv rfl (PV.field rfl Fo141_0 rfl) ?_
  refine RG.pv rfl (PV.load1 rfl Sc2 rfl (Rd.blk rfl)) ?_
  refine RG.callF (vs := [_, _]) rfl rfl En93 rfl (bnd_i hL.up hlen ?_)
  refine RG.pv rfl (PV.move rfl rfl) ?_
  refine RG.pv rfl (PV.ext rfl rfl rfl) ?_
  refine RG.pv rfl (PV.ext rfl rfl rfl) ?_
  refine RG.ot rfl (OT.alloc rfl Zr116 fun b12 => ?_)
  refine RG.ot rfl (OT.storeW (vs := [vi _, vi _, vi _, vi _]) rfl Sz116 rfl rfl (Cl.c rfl) rfl rfl (OneC.c rfl) ?_)
  refine RG.pv rfl (PV.mvI (.inr rfl) rfl) ?_
  refine RG.nil ?_
  refine WP.seq ?_
  refine WP.seq ?_
  refine WP.region ?_
  refine RG.pv rfl (PV.mvI (.inl rfl) rfl) ?_
  refine RG.pv rfl (PV.neq rfl rfl rfl) ?_
  refine RG.nil ?_
  refine WP.cond rfl (fun h6 => ?_) (fun h6 => ?_)
  · have h6 : bndE (erCls l.cells.xs) (gd (elems (gd l.cells.xs cell.toNat).insts.xs) n.toNat).cell ≠ 0 := by simpa using h6
    have e : freeB (erCls l.cells.xs) cell n reach = false := free_no (by rw [hce]; exact h6)
    rw [e] at k
    refine WP.seq ?_
    refine WP.region ?_
    refine RG.pv rfl (PV.mvB (.inr rfl) rfl) ?_
    refine RG.nil ?_
    refine WP.ret ?_
    exact ⟨_, _, ResV.one rfl rfl, Cv.p, k⟩
  · have h6 : bndE (erCls l.cells.xs) (gd (elems (gd l.cells.xs cell.toNat).insts.xs) n.toNat).cell = 0 := by simpa using h6
    have hob := bndR_in h6
    have hpb := moveR_big hob he1 (show (-1000 ≤ (gd (elems (gd l.cells.xs cell.toNat).insts.xs) n.toNat).place.x ∧ (gd (elems (gd l.cells.xs cell.toNat).insts.xs) n.toNat).place.x ≤ 1000) ∧ -1000 ≤ (gd (elems (gd l.cells.xs cell.toNat).insts.xs) n.toNat).place.y ∧ (gd (elems (gd l.cells.xs cell.toNat).insts.xs) n.toNat).place.y ≤ 1000 by omega)
    have hfe : freeB (erCls l.cells.xs) cell n reach = ((validRect (wideR (bndR (erCls l.cells.xs) (gd (elems (gd l.cells.xs cell.toNat).insts.xs) n.toNat).cell) reach) && validRect (wideR (moveR (gd (elems (gd l.cells.xs cell.toNat).insts.xs) n.toNat).place (bndR (erCls l.cells.xs) (gd (elems (gd l.cells.xs cell.toNat).insts.xs) n.toNat).cell)) reach)) && !((rootR (erCls l.cells.xs) cell).any (nearS n reach (moveR (gd (elems (gd l.cells.xs cell.toNat).insts.xs) n.toNat).place (bndR (erCls l.cells.xs) (gd (elems (gd l.cells.xs cell.toNat).insts.xs) n.toNat).cell))))) := by
      simp only [freeB, hce, decide_eq_true h6, Bool.true_and, e2]
    have hbd : ∀ j, j < 2 → RBig (gd [bndR (erCls l.cells.xs) (gd (elems (gd l.cells.xs cell.toNat).insts.xs) n.toNat).cell, moveR (gd (elems (gd l.cells.xs cell.toNat).insts.xs) n.toNat).place (bndR (erCls l.cells.xs) (gd (elems (gd l.cells.xs cell.toNat).insts.xs) n.toNat).cell)] j) := fun j hj => by
      match j, hj with
      | 0, _ => simpa [gd] using RIn_big hob
      | 1, _ => simpa [gd] using hpb
    refine WP.skip ?_
    refine WP.seq ?_
    refine WP.region ?_
    refine RG.pv rfl (PV.field rfl Fo141_1 rfl) ?_
    refine RG.pv rfl (PV.loadB (vs := [_, _, _]) rfl Ag124 rfl rfl rfl) ?_
    refine RG.pv rfl (PV.loadW rfl Ag116 rfl rfl) ?_
    refine RG.callF (vs := [_, _]) rfl rfl En94 rfl (moveRect_s he1 he2 hob ?_)
    refine RG.ot rfl (OT.alloc rfl Zr116 fun b14 => ?_)
    refine RG.ot rfl (OT.storeW (vs := [vi _, vi _, vi _, vi _]) rfl Sz116 rfl rfl (Cl.c rfl) rfl rfl (OneC.c rfl) ?_)
    refine RG.nil ?_
    refine WP.seq ?_
    refine WP.seq ?_
    refine WP.region ?_
    refine RG.pv rfl (PV.loadW rfl Ag116 rfl rfl) ?_
    refine RG.pv rfl (PV.loadW rfl Ag116 rfl rfl) ?_
    refine RG.ot rfl (OT.bslice (F := rectT) (els := [_, _]) rfl El59 rfl (by decide) rfl (by decide) ⟨rfl, (Cl.c rfl), ⟨rfl, (Cl.c rfl), trivial⟩⟩ fun v41 => ?_)
    refine RG.pv rfl (PV.len (v := v41) rfl Tryz.underlying59 rfl SlF.o) ?_
    refine RG.pv rfl (PV.mvI (.inl rfl) rfl) ?_
    refine RG.nil ?_
    refine WP.block ?_
    refine WP.loop1 [4, 7, 8, 14, 41, 42] (fun i => i ≤ 2 ∧ ∀ j, j < i → validRect (wideR (gd [bndR (erCls l.cells.xs) (gd (elems (gd l.cells.xs cell.toNat).insts.xs) n.toNat).cell, moveR (gd (elems (gd l.cells.xs cell.toNat).insts.xs) n.toNat).place (bndR (erCls l.cells.xs) (gd (elems (gd l.cells.xs cell.toNat).insts.xs) n.toNat).cell)] j) reach) = true) (fun i => [(43, vi i)]) (fun i => osl 116 rectT v41 [bndR (erCls l.cells.xs) (gd (elems (gd l.cells.xs cell.toNat).insts.xs) n.toNat).cell, moveR (gd (elems (gd l.cells.xs cell.toNat).insts.xs) n.toNat).place (bndR (erCls l.cells.xs) (gd (elems (gd l.cells.xs cell.toNat).insts.xs) n.toNat).cell)] :: blk b14 116 (rectT.enc (moveR (gd (elems (gd l.cells.xs cell.toNat).insts.xs) n.toNat).place (bndR (erCls l.cells.xs) (gd (elems (gd l.cells.xs cell.toNat).insts.xs) n.toNat).cell))) :: blk b7 2 [vi n] :: blk b8 2 [vi reach] :: L) (fun i => 2 - i) 0 ⟨by omega, fun j h => by omega⟩ ⟨rfl, trivial⟩ Cv.p ?_
    rintro i τ ⟨hi, hj⟩
    refine WP.seq ?_
    refine WP.region ?_
    refine RG.pv rfl (PV.lss rfl rfl rfl) ?_
    refine RG.nil ?_
    refine WP.seq ?_
    refine WP.cond rfl (fun h7 => ?_) (fun h7 => ?_)
    · have h7 : i < 2 := by have := of_decide_eq_true h7; simp only [List.length_cons, List.length_nil] at this; omega
      obtain ⟨⟨z1, z2, z3⟩, z4, z5, z6⟩ := hbd i h7
      refine WP.skip ?_
      refine WP.seq ?_
      refine WP.block ?_
      refine WP.seq ?_
      refine WP.region ?_
      refine RG.pv rfl (PV.idxS (v := v41) rfl Is59 rfl SlF.o rfl rfl (by first | omega | (simp only [List.length_cons, List.length_nil]; omega))) ?_
      refine RG.pv rfl (PV.loadE rfl Ag116 rfl rfl (El.o (getG (by first | omega | (simp only [List.length_cons, List.length_nil]; omega))))) ?_
      refine RG.ot rfl (OT.alloc rfl Zr116 fun b16 => ?_)
      refine RG.ot rfl (OT.storeW (vs := [vi _, vi _, vi _, vi _]) rfl Sz116 rfl rfl (Cl.c rfl) rfl rfl (OneC.c rfl) ?_)
      refine RG.nil ?_
      refine WP.seq ?_
      refine WP.region ?_
      refine RG.pv rfl (PV.field rfl Fo116_0 rfl) ?_
      refine RG.pv rfl (PV.load1 rfl Sc2 rfl (Rd.blk rfl)) ?_
      refine RG.pv rfl (PV.load1 rfl Sc2 rfl (Rd.blk rfl)) ?_
      refine RG.pv rfl (PV.sub rfl rfl rfl (by first | omega | (simp only [List.length_cons, List.length_nil]; omega))) ?_
      refine RG.pv rfl (PV.field rfl Fo116_1 rfl) ?_
      refine RG.pv rfl (PV.load1 rfl Sc2 rfl (Rd.blk rfl)) ?_
      refine RG.pv rfl (PV.load1 rfl Sc2 rfl (Rd.blk rfl)) ?_
      refine RG.pv rfl (PV.sub rfl rfl rfl (by first | omega | (simp only [List.length_cons, List.length_nil]; omega))) ?_
      refine RG.pv rfl (PV.field rfl Fo116_2 rfl) ?_
      refine RG.pv rfl (PV.load1 rfl Sc2 rfl (Rd.blk rfl)) ?_
      refine RG.pv rfl (PV.load1 rfl Sc2 rfl (Rd.blk rfl)) ?_
      refine RG.pv rfl (PV.add rfl rfl rfl (by first | omega | (simp only [List.length_cons, List.length_nil]; omega))) ?_
      refine RG.pv rfl (PV.field rfl Fo116_3 rfl) ?_
      refine RG.pv rfl (PV.load1 rfl Sc2 rfl (Rd.blk rfl)) ?_
      refine RG.pv rfl (PV.load1 rfl Sc2 rfl (Rd.blk rfl)) ?_
      refine RG.pv rfl (PV.add rfl rfl rfl (by first | omega | (simp only [List.length_cons, List.length_nil]; omega))) ?_
      refine RG.pv rfl (PV.build (vs := [(0, [vi _]), (1, [vi _]), (2, [vi _]), (3, [vi _])]) (out := [_, _, _, _]) rfl Zr116 Pl116 ⟨rfl, (Cl.c rfl), ⟨rfl, (Cl.c rfl), ⟨rfl, (Cl.c rfl), ⟨rfl, (Cl.c rfl), trivial⟩⟩⟩⟩ rfl) ?_
      refine RG.callF (vs := [_]) rfl rfl En95 rfl (validRect_s (r := ⟨_, _, _, _⟩) ?_)
      refine RG.pv rfl (PV.not rfl rfl) ?_
      refine RG.nil ?_
      refine WP.cond rfl (fun h8 => ?_) (fun h8 => ?_)
      · have h8 : validRect (wideR (gd [bndR (erCls l.cells.xs) (gd (elems (gd l.cells.xs cell.toNat).insts.xs) n.toNat).cell, moveR (gd (elems (gd l.cells.xs cell.toNat).insts.xs) n.toNat).place (bndR (erCls l.cells.xs) (gd (elems (gd l.cells.xs cell.toNat).insts.xs) n.toNat).cell)] i) reach) = false := by simpa using h8
        have e : freeB (erCls l.cells.xs) cell n reach = false := by
          rw [hfe]
          match i, h7 with
          | 0, _ => rw [gd_p0] at h8; rw [h8]; rfl
          | 1, _ => rw [gd_p1] at h8; rw [h8, Bool.and_false]; rfl
        rw [e] at k
        refine WP.seq ?_
        refine WP.region ?_
        refine RG.pv rfl (PV.mvB (.inr rfl) rfl) ?_
        refine RG.nil ?_
        refine WP.ret ?_
        exact ⟨_, _, ResV.one rfl rfl, Cv.p, k⟩
      · have hj' : ∀ j, j < i + 1 → validRect (wideR (gd [bndR (erCls l.cells.xs) (gd (elems (gd l.cells.xs cell.toNat).insts.xs) n.toNat).cell, moveR (gd (elems (gd l.cells.xs cell.toNat).insts.xs) n.toNat).place (bndR (erCls l.cells.xs) (gd (elems (gd l.cells.xs cell.toNat).insts.xs) n.toNat).cell)] j) reach) = true := fun j h => by
          by_cases c : j = i
          · rw [c]; simpa using h8
          · exact hj j (by omega)
        refine WP.skip ?_
        refine WP.region ?_
        refine RG.pv rfl (PV.add rfl rfl rfl (by first | omega | (simp only [List.length_cons, List.length_nil]; omega))) ?_
        refine RG.pv rfl (PV.mvI (.inl rfl) rfl) ?_
        refine RG.nil ?_
        exact ⟨rfl, i + 1, ⟨by omega, hj'⟩, ⟨rfl, trivial⟩, ⟨rfl, rfl, rfl, rfl, rfl, rfl, trivial⟩, Cv.p, by omega⟩
    · have h7 : i = 2 := by have := of_decide_eq_false h7; simp only [List.length_cons, List.length_nil] at this; omega
      have v0 := hj 0 (by omega)
      have v1 := hj 1 (by omega)
      rw [gd_p0] at v0
      rw [gd_p1] at v1
      rw [hfe, v0, v1] at k
      refine WP.exit ?_
      refine WP.seq ?_
      refine WP.region ?_
      refine RG.pv rfl (PV.move (v := v) rfl rfl) ?_
      refine RG.pv rfl (PV.mkf3 rfl rfl rfl rfl) ?_
      refine RG.callF (vs := [v, _]) rfl rfl En96 rfl (containsF_rshape (Rs.up h5) (p := nearS n reach (moveR (gd (elems (gd l.cells.xs cell.toNat).insts.xs) n.toNat).place (bndR (erCls l.cells.xs) (gd (elems (gd l.cells.xs cell.toNat).insts.xs) n.toNat).cell))) (fun i hi => CB.mk3 En97 fun L' R c k => free1_s (Rd.cv (Rd.blk rfl) c) (RdN.cv RdN.blk c) (Rd.cv (Rd.blk rfl) c) (RIn_big (rootR_in ha.hz hi)) hpb hr k) ?_)
      refine RG.pv rfl (PV.not rfl rfl) ?_
      refine RG.pv rfl (PV.mvB (.inr rfl) rfl) ?_
      refine RG.nil ?_
      refine WP.ret ?_
      exact ⟨_, _, ResV.one rfl rfl, Cv.p, k⟩
end Go.Proofs.YtbkaincaahcnfaaGreat
namespace Go.Proofs.YtbkaincaahcnfaaGreat
set_option linter.unusedVariables false
set_option linter.unusedSimpArgs false
open Go
set_option maxRecDepth 20000
set_option maxHeartbeats 1000000
set_option linter.unusedSimpArgs false
variable {G : Gh} {L : List Ch} {R : Value → Gh → List Ch → Prop}
theorem elPlaceI_r {n : Inst} {kk c r : Int} (hk : okIn kk n = true) (hc : 0 ≤ c ∧ c < n.cols) (hr : 0 ≤ r ∧ r < n.rows) (k : R (vtrans (elPlace n c r)) G L) : CallT Tryz.prog 163 #[vT instT n, vi c, vi r] G L R := by
  obtain ⟨c', rfl⟩ := Int.eq_ofNat_of_zero_le hc.1
  obtain ⟨r', rfl⟩ := Int.eq_ofNat_of_zero_le hr.1
  exact elPlace_r hk (by omega) (by omega) k
/-- the element that a number stands for -/
theorem step_found {ns : List Inst} (h : okNs ns) {i : Nat} {rest : Int} (hi : i < ns.length) (h0 : 0 ≤ rest) (hr : rest < (gd ns i).cols * (gd ns i).rows) {n : Int} (hn : n = ((elems (ns.take i)).length : Int) + rest) :
    (0 ≤ rest % (gd ns i).cols ∧ rest % (gd ns i).cols < (gd ns i).cols) ∧ (0 ≤ rest / (gd ns i).cols ∧ rest / (gd ns i).cols < (gd ns i).rows) ∧ gd (elems ns) n.toNat = ⟨(gd ns i).cell, elPlace (gd ns i) (rest % (gd ns i).cols) (rest / (gd ns i).cols)⟩ := by
  obtain ⟨q, rfl⟩ := Int.eq_ofNat_of_zero_le h0
  obtain ⟨_, kk, h2⟩ := h
  obtain ⟨_, _, h3, h4, _, _⟩ := okIn_bd (h2 i hi)
  obtain ⟨c, hc⟩ := Int.eq_ofNat_of_zero_le (show 0 ≤ (gd ns i).cols by omega)
  obtain ⟨r, hr'⟩ := Int.eq_ofNat_of_zero_le (show 0 ≤ (gd ns i).rows by omega)
  have hq : q < r * c := by rw [hc, hr', ← Int.natCast_mul] at hr; rw [Nat.mul_comm]; omega
  have hel := elems_found (ns := ns) (i := i) (q := q) hi (by rw [elsOf_len, hr', hc]; exact hq)
  have e1 : n.toNat = (elems (ns.take i)).length + q := by omega
  have e2 : (gd ns i).cols.toNat = c := by omega
  rw [e1, hel, e2, hc, ← Int.natCast_emod, ← Int.natCast_ediv, hr']
  have hc0 : 0 < c := by omega
  have m1 := Nat.mod_lt q hc0
  have m2 : q / c < r := (Nat.div_lt_iff_lt_mul hc0).2 hq
  have m3 : ((q / c : Nat) : Int) < (r : Int) := by exact_mod_cast m2
  have m4 : ((q % c : Nat) : Int) < (c : Int) := by exact_mod_cast m1
  exact ⟨⟨Int.natCast_nonneg _, m4⟩, ⟨Int.natCast_nonneg _, m3⟩, rfl⟩
theorem step_s {l : Lib} {o : Occ} {n : Int} (hL : RLib G L l.cells.v l.cells.xs) (hok : okLib (erCls l.cells.xs) = true) (hcl : 0 ≤ o.cell ∧ o.cell.toNat < l.cells.xs.length) (hbig : TBig o.place) (hp : Rs G L intT o.path.v o.path.xs) (hpl : o.path.xs.length ≤ 100) (hn : 0 ≤ n ∧ n.toNat < (elems (gd l.cells.xs o.cell.toNat).insts.xs).length)
    (k : ∀ v', R (.tuple #[vT occT ⟨(gd (elems (gd l.cells.xs o.cell.toNat).insts.xs) n.toNat).cell, cmpT (gd (elems (gd l.cells.xs o.cell.toNat).insts.xs) n.toNat).place o.place, ⟨v', [] ++ o.path.xs ++ [n]⟩⟩, .bool true]) G (osl 2 intT v' ([] ++ o.path.xs ++ [n]) :: L)) : CallT Tryz.prog 134 #[vT libT l, vT occT o, vi n] G L R := by
  have hE := erCls_len l.cells.xs
  have hce := erCl_insts (xs := l.cells.xs) (i := o.cell.toNat) hcl.2
  have hns : okNs (gd l.cells.xs o.cell.toNat).insts.xs := by rw [← hce]; exact okLib_ns hok (by omega)
  obtain ⟨hn8, kk, h2⟩ := id hns
  have hbe := elem_bd hok (k := o.cell.toNat) (by omega) (i := n.toNat) (by rw [hce]; exact hn.2)
  rw [hce] at hbe
  have hEl : (elems (gd l.cells.xs o.cell.toNat).insts.xs).length ≤ 128 := by rw [← hce]; exact elems_len_bd hok (by omega)
  have hb1 := hbe.2.1
  have hb2 : (-1000 ≤ (gd (elems (gd l.cells.xs o.cell.toNat).insts.xs) n.toNat).place.x ∧ (gd (elems (gd l.cells.xs o.cell.toNat).insts.xs) n.toNat).place.x ≤ 1000) ∧ -1000 ≤ (gd (elems (gd l.cells.xs o.cell.toNat).insts.xs) n.toNat).place.y ∧ (gd (elems (gd l.cells.xs o.cell.toNat).insts.xs) n.toNat).place.y ≤ 1000 := by omega
  refine CallT.enter (args := _) Tryz.func134 rfl rfl (by kernel_rfl) rfl ?_
  refine WP.seq ?_
  refine WP.region ?_
  refine RG.ot rfl (OT.box (cs := libT.enc l) rfl rfl rfl fun b3 => ?_)
  refine RG.ot rfl (OT.box (cs := occT.enc o) rfl rfl rfl fun b4 => ?_)
  refine RG.ot rfl (OT.alloc rfl Zr126 fun b6 => ?_)
  refine RG.pv rfl (PV.mvB (.inr rfl) rfl) ?_
  refine RG.nil ?_
  refine WP.seq ?_
  refine WP.region ?_
  refine RG.pv rfl (PV.field rfl Fo30_0 rfl) ?_
  refine RG.pv rfl (PV.load1 rfl Sc28 rfl (Rd.blk rfl)) ?_
  refine RG.pv rfl (PV.field rfl Fo126_0 rfl) ?_
  refine RG.pv rfl (PV.load1 rfl Sc2 rfl (Rd.blk rfl)) ?_
  refine RG.pv rfl (PV.idxS (j := o.cell.toNat) rfl Is28 rfl (SlF.r hL.c) rfl (by omega) (by omega)) ?_
  refine RG.pv rfl (PV.field rfl Fo85_3 rfl) ?_
  refine RG.pv rfl (PV.loadF rfl Sc83 rfl rfl (El.r hL.c (getG (by omega))) rfl) ?_
  refine RG.pv rfl (PV.asg rfl rfl) ?_
  refine RG.nil ?_
  refine WP.seq ?_
  refine WP.region ?_
  refine RG.pv rfl (PV.mvI (.inl rfl) rfl) ?_
  refine RG.pv rfl (PV.mvI (.inr rfl) rfl) ?_
  refine RG.nil ?_
  refine WP.seq ?_
  refine WP.seq ?_
  refine WP.region ?_
  refine RG.pv rfl (PV.mvI (.inr rfl) rfl) ?_
  refine RG.nil ?_
  refine WP.block ?_
  refine WP.loop2 [2, 4, 6, 8] (fun (i : Nat) (rest : Int) => i ≤ (gd l.cells.xs o.cell.toNat).insts.xs.length ∧ 0 ≤ rest ∧ n = ((elems ((gd l.cells.xs o.cell.toNat).insts.xs.take i)).length : Int) + rest) (fun (i : Nat) (rest : Int) => [(10, vi i), (9, vi rest)]) (fun (i : Nat) (rest : Int) => blk b3 30 (libT.enc l) :: blk b4 126 (occT.enc o) :: blk b6 126 [vi 0, vi 0, vi 0, vi 0, .slice none 0 0] :: L) (fun (i : Nat) (rest : Int) => (gd l.cells.xs o.cell.toNat).insts.xs.length - i) 0 n ⟨by omega, by omega, by simp [elems]⟩ ⟨rfl, rfl, trivial⟩ Cv.p ?_
  rintro i rest τ ⟨hi, h0, hre⟩
  refine WP.seq ?_
  refine WP.seq ?_
  refine WP.region ?_
  refine RG.pv rfl (PV.mvI (.inl rfl) rfl) ?_
  refine RG.pv rfl (PV.move rfl rfl) ?_
  refine RG.pv rfl (PV.len rfl Tryz.underlying83 rfl (SlF.r (hL.na hcl.2))) ?_
  refine RG.pv rfl (PV.lss rfl rfl rfl) ?_
  refine RG.pv rfl (PV.mvB (.inl rfl) rfl) ?_
  refine RG.gs rfl rfl rfl (fun hp => (PV.mvI (.inl rfl) rfl)) ?_
  refine RG.gs rfl rfl rfl (fun hp => (PV.geq rfl (gs_t hp) rfl)) ?_
  refine RG.pv rfl (PV.pickA rfl rfl (fun hq => gs_t (geqT hq)) rfl) ?_
  refine RG.nil ?_
  refine WP.cond rfl (fun h3 => ?_) (fun h3 => ?_)
  · have h3 : i < (gd l.cells.xs o.cell.toNat).insts.xs.length := by simp only [Bool.and_eq_true, decide_eq_true_eq] at h3; omega
    obtain ⟨z1, z2, z3⟩ := elems_cnt hns h3
    refine WP.skip ?_
    refine WP.seq ?_
    refine WP.block ?_
    refine WP.seq ?_
    refine WP.regionQ (by kernel_rfl) (by kernel_rfl) ?_
    refine RQ.pv rfl (PV.move rfl rfl) ?_
    refine RQ.pv rfl (PV.mvI (.inl rfl) rfl) ?_
    refine RQ.pv rfl (PV.idxS rfl Is83 rfl (SlF.r (hL.na hcl.2)) rfl rfl (by omega)) ?_
    refine RQ.pv rfl (PV.field rfl Fo147_2 rfl) ?_
    refine RQ.pv rfl (PV.loadF rfl Sc2 rfl rfl (El.r (hL.na hcl.2) (getG (by omega))) rfl) ?_
    refine RQ.pv rfl (PV.move rfl rfl) ?_
    refine RQ.pv rfl (PV.mvI (.inl rfl) rfl) ?_
    refine RQ.pv rfl (PV.idxS rfl Is83 rfl (SlF.r (hL.na hcl.2)) rfl rfl (by omega)) ?_
    refine RQ.pv rfl (PV.field rfl Fo147_3 rfl) ?_
    refine RQ.pv rfl (PV.loadF rfl Sc2 rfl rfl (El.r (hL.na hcl.2) (getG (by omega))) rfl) ?_
    refine RQ.pv rfl (PV.mul rfl rfl rfl (by omega)) ?_
    refine RQ.pv rfl (PV.mvI (.inr rfl) rfl) ?_
    refine RQ.nil ?_
    refine WP.seq ?_
    refine WP.seq ?_
    refine WP.region ?_
    refine RG.pv rfl (PV.mvI (.inl rfl) rfl) ?_
    refine RG.pv rfl (PV.mvI (.inl rfl) rfl) ?_
    refine RG.pv rfl (PV.lss rfl rfl rfl) ?_
    refine RG.nil ?_
    refine WP.cond rfl (fun h4 => ?_) (fun h4 => ?_)
    · have h4 := of_decide_eq_true h4
      obtain ⟨q1, q2, q3⟩ := step_found hns h3 h0 h4 hre
      obtain ⟨_, _, q4, q5, _, _⟩ := okIn_bd (h2 i h3)
      rw [q3] at hb1 hb2 k
      simp only at hb1 hb2 k
      refine WP.cut1 [2, 4, 6, 8, 10] (fun (b12 : Nat) => True) (fun (b12 : Nat) => [(12, .pointer (some ⟨b12, 0, none⟩))]) (fun (b12 : Nat) => blk b12 124 (transT.enc (elPlace (gd (gd l.cells.xs o.cell.toNat).insts.xs i) (rest % (gd (gd l.cells.xs o.cell.toNat).insts.xs i).cols) (rest / (gd (gd l.cells.xs o.cell.toNat).insts.xs i).cols))) :: blk b3 30 (libT.enc l) :: blk b4 126 (occT.enc o) :: blk b6 126 [vi 0, vi 0, vi 0, vi 0, .slice none 0 0] :: L) ?_ ?_
      refine WP.regionH0 (.q 0 (.q 1 (.q 2 (.q 3 (.q 4 (.q 5 (.q 6 (.q 7 (.q 8 (.q 9 (.q 10 (.q 11 (.q 12 (.q 13 (.q 14 (.q 15 (.q 16 (.q 17 (.b 18 (.l 19 (.l 20 Sch.nil)) 19 (.l 18 (.l 20 Sch.nil))))))))))))))))))))) (by kernel_rfl) (by kernel_rfl) (by kernel_rfl) rfl ?_
      refine RH.pv rfl (fun _ _ _ _ h => h) (Gh.le_refl _) PickC.pick rfl (PV.move rfl rfl) ?_
      refine RH.pv rfl (fun _ _ _ _ h => h) (Gh.le_refl _) PickC.pick rfl (PV.mvI (.inl rfl) rfl) ?_
      refine RH.pv rfl (fun _ _ _ _ h => h) (Gh.le_refl _) PickC.pick rfl (PV.idxS rfl Is83 rfl (SlF.r (hL.na hcl.2)) rfl rfl (by omega)) ?_
      refine RH.pv rfl (fun _ _ _ _ h => h) (Gh.le_refl _) PickC.pick rfl (PV.loadE rfl Ag147 rfl rfl (El.r (hL.na hcl.2) (getG (by omega)))) ?_
      refine RH.pv rfl (fun _ _ _ _ h => h) (Gh.le_refl _) PickC.pick rfl (PV.mvI (.inl rfl) rfl) ?_
      refine RH.pv rfl (fun _ _ _ _ h => h) (Gh.le_refl _) PickC.pick rfl (PV.move rfl rfl) ?_
      refine RH.pv rfl (fun _ _ _ _ h => h) (Gh.le_refl _) PickC.pick rfl (PV.mvI (.inl rfl) rfl) ?_
      refine RH.pv rfl (fun _ _ _ _ h => h) (Gh.le_refl _) PickC.pick rfl (PV.idxS rfl Is83 rfl (SlF.r (hL.na hcl.2)) rfl rfl (by omega)) ?_
      refine RH.pv rfl (fun _ _ _ _ h => h) (Gh.le_refl _) PickC.pick rfl (PV.field rfl Fo147_2 rfl) ?_
      refine RH.pv rfl (fun _ _ _ _ h => h) (Gh.le_refl _) PickC.pick rfl (PV.loadF rfl Sc2 rfl rfl (El.r (hL.na hcl.2) (getG (by omega))) rfl) ?_
      refine RH.pv rfl (fun _ _ _ _ h => h) (Gh.le_refl _) PickC.pick rfl (PV.rem rfl rfl rfl (by omega) (by omega) (by omega)) ?_
      refine RH.pv rfl (fun _ _ _ _ h => h) (Gh.le_refl _) PickC.pick rfl (PV.mvI (.inl rfl) rfl) ?_
      refine RH.pv rfl (fun _ _ _ _ h => h) (Gh.le_refl _) PickC.pick rfl (PV.move rfl rfl) ?_
      refine RH.pv rfl (fun _ _ _ _ h => h) (Gh.le_refl _) PickC.pick rfl (PV.mvI (.inl rfl) rfl) ?_
      refine RH.pv rfl (fun _ _ _ _ h => h) (Gh.le_refl _) PickC.pick rfl (PV.idxS rfl Is83 rfl (SlF.r (hL.na hcl.2)) rfl rfl (by omega)) ?_
      refine RH.pv rfl (fun _ _ _ _ h => h) (Gh.le_refl _) PickC.pick rfl (PV.field rfl Fo147_2 rfl) ?_
      refine RH.pv rfl (fun _ _ _ _ h => h) (Gh.le_refl _) PickC.pick rfl (PV.loadF rfl Sc2 rfl rfl (El.r (hL.na hcl.2) (getG (by omega))) rfl) ?_
      refine RH.pv rfl (fun _ _ _ _ h => h) (Gh.le_refl _) PickC.pick rfl (PV.quo rfl rfl rfl (by omega) (by omega) (by omega)) ?_
      · refine RH.ot2 rfl rfl rfl rfl  (OT.callF (vs := [_, _, _]) rfl En163 rfl (elPlaceI_r (h2 i (by omega)) q1 q2 ⟨Gh.le_refl _, PickC.pick, ?_⟩)) (OT.alloc rfl Zr124 fun b12 => ⟨Gh.le_refl _, PickC.pick, ?_⟩)
        · refine RH.ot rfl rfl (OT.alloc rfl Zr124 fun b12 => ⟨Gh.le_refl _, PickC.pick, ?_⟩)
          refine RH.ot rfl rfl (OT.storeW (vs := [vi _, vi _, vi _]) rfl Sz124 rfl rfl (Cl.c rfl) rfl rfl (OneC.c rfl) ⟨Gh.le_refl _, PickC.pick, ?_⟩)
          refine RH.nil ?_
          exact ⟨rfl, b12, trivial, ⟨rfl, trivial⟩, ⟨rfl, rfl, rfl, rfl, rfl, trivial⟩, Cv.p⟩
        · refine RH.ot rfl rfl (OT.callF (vs := [_, _, _]) rfl En163 rfl (elPlaceI_r (h2 i (by omega)) q1 q2 ⟨Gh.le_refl _, PickC.pick, ?_⟩))
          refine RH.ot rfl rfl (OT.storeW (vs := [vi _, vi _, vi _]) rfl Sz124 rfl rfl (Cl.c rfl) rfl rfl (OneC.c rfl) ⟨Gh.le_refl _, PickC.pick, ?_⟩)
          refine RH.nil ?_
          exact ⟨rfl, b12, trivial, ⟨rfl, trivial⟩, ⟨rfl, rfl, rfl, rfl, rfl, trivial⟩, Cv.p⟩
      rintro b12 τ1 -
      refine WP.cut1 [6] (fun (v79 : Value) => True) (fun (v79 : Value) => [(7, .bool true)]) (fun (v79 : Value) => blk b6 126 (occT.enc ⟨(gd (gd l.cells.xs o.cell.toNat).insts.xs i).cell, cmpT (elPlace (gd (gd l.cells.xs o.cell.toNat).insts.xs i) (rest % (gd (gd l.cells.xs o.cell.toNat).insts.xs i).cols) (rest / (gd (gd l.cells.xs o.cell.toNat).insts.xs i).cols)) o.place, ⟨v79, [] ++ o.path.xs ++ [n]⟩⟩) :: osl 2 intT v79 ([] ++ o.path.xs ++ [n]) :: L) ?_ ?_
      refine WP.regionHD [.b b6] (.q 0 (.q 1 (.q 2 (.q 3 (.q 4 (.q 5 (.q 6 (.q 7 (.q 10 (.q 11 (.q 13 (.c 8 (.b 9 (.b 12 (.l 14 (.l 15 (.q 16 (.l 17 (.q 18 Sch.nil))))) 14 (.l 12 (.l 15 (.q 16 (.l 17 (.q 18 Sch.nil)))))) 14 (.l 9 (.l 12 (.l 15 (.q 16 (.l 17 (.q 18 Sch.nil))))))) 9 (.b 8 (.b 12 (.l 14 (.l 15 (.q 16 (.l 17 (.q 18 Sch.nil))))) 14 (.l 12 (.l 15 (.q 16 (.l 17 (.q 18 Sch.nil)))))) 14 (.l 8 (.l 12 (.l 15 (.q 16 (.l 17 (.q 18 Sch.nil))))))) 14 (.b 8 (.l 9 (.l 12 (.l 15 (.q 16 (.l 17 (.q 18 Sch.nil)))))) 9 (.l 8 (.l 12 (.l 15 (.q 16 (.l 17 (.q 18 Sch.nil))))))))))))))))))) (by kernel_rfl) (by kernel_rfl) (by kernel_rfl) rfl ?_
      refine RH.pv rfl (fun _ _ _ _ h => h) (Gh.le_refl _) PickC.pick rfl (PV.move rfl rfl) ?_
      refine RH.pv rfl (fun _ _ _ _ h => h) (Gh.le_refl _) PickC.pick rfl (PV.mvI (.inl rfl) rfl) ?_
      refine RH.pv rfl (fun _ _ _ _ h => h) (Gh.le_refl _) PickC.pick rfl (PV.idxS rfl Is83 rfl (SlF.r (hL.na hcl.2)) rfl rfl (by omega)) ?_
      refine RH.pv rfl (fun _ _ _ _ h => h) (Gh.le_refl _) PickC.pick rfl (PV.field rfl Fo147_0 rfl) ?_
      refine RH.pv rfl (fun _ _ _ _ h => h) (Gh.le_refl _) PickC.pick rfl (PV.loadF rfl Sc2 rfl rfl (El.r (hL.na hcl.2) (getG (by omega))) rfl) ?_
      refine RH.pv rfl (fun _ _ _ _ h => h) (Gh.le_refl _) PickC.pick rfl (PV.field rfl Fo126_1 rfl) ?_
      refine RH.pv rfl (fun _ _ _ _ h => h) (Gh.le_refl _) PickC.pick rfl (PV.loadB (vs := [_, _, _]) rfl Ag124 rfl rfl rfl) ?_
      refine RH.pv rfl (fun _ _ _ _ h => h) (Gh.le_refl _) PickC.pick rfl (PV.loadW rfl Ag124 rfl rfl) ?_
      refine RH.pv rfl (fun _ _ _ _ h => h) (Gh.le_refl _) PickC.pick rfl (PV.field rfl Fo126_2 rfl) ?_
      refine RH.pv rfl (fun _ _ _ _ h => h) (Gh.le_refl _) PickC.pick rfl (PV.load1 rfl Sc34 rfl (Rd.blk rfl)) ?_
      refine RH.pv rfl (fun _ _ _ _ h => h) (Gh.le_refl _) PickC.pick rfl (PV.mvI (.inl rfl) rfl) ?_
      · refine RH.ot3 rfl rfl rfl rfl rfl rfl  (OT.callF (vs := [_, _]) rfl En162 rfl (l10After_r hb1 hb2 hbig ⟨Gh.le_refl _, PickC.pick, ?_⟩)) (OT.bslice (F := intT) (els := []) rfl El34 rfl (by decide) rfl (by decide) trivial fun v73 => ⟨Gh.le_refl _, PickC.pick, ?_⟩) (OT.bslice (F := intT) (els := [_]) rfl El34 rfl (by decide) rfl (by decide) ⟨rfl, (Cl.c rfl), trivial⟩ fun v78 => ⟨Gh.le_refl _, PickC.pick, ?_⟩)
        · refine RH.ot2 rfl rfl rfl rfl  (OT.bslice (F := intT) (els := []) rfl El34 rfl (by decide) rfl (by decide) trivial fun v73 => ⟨Gh.le_refl _, PickC.pick, ?_⟩) (OT.bslice (F := intT) (els := [_]) rfl El34 rfl (by decide) rfl (by decide) ⟨rfl, (Cl.c rfl), trivial⟩ fun v78 => ⟨Gh.le_refl _, PickC.pick, ?_⟩)
          · refine RH.ot2 rfl rfl rfl rfl  (OT.append (v := v73) (F := intT) rfl El34 rfl (by decide) rfl rfl (Rs.up hp) (OneL.c (fun _ => rfl)) rfl (by first | omega | (simp <;> omega)) fun v76 => ⟨Gh.le_refl _, PickC.pick, ?_⟩) (OT.bslice (F := intT) (els := [_]) rfl El34 rfl (by decide) rfl (by decide) ⟨rfl, (Cl.c rfl), trivial⟩ fun v78 => ⟨Gh.le_refl _, PickC.pick, ?_⟩)
            · refine RH.ot rfl rfl (OT.bslice (F := intT) (els := [_]) rfl El34 rfl (by decide) rfl (by decide) ⟨rfl, (Cl.c rfl), trivial⟩ fun v78 => ⟨Gh.le_refl _, PickC.pick, ?_⟩)
              refine RH.ot rfl rfl (OT.append (v := v76) (u := v78) (F := intT) rfl El34 rfl (by decide) rfl rfl Rs.o (OneL.c (fun _ => rfl)) rfl (by first | omega | (simp <;> omega)) fun v79 => ⟨Gh.le_refl _, PickC.pick, ?_⟩)
              refine RH.up1 ?_
              refine RH.pv rfl (fun _ _ _ _ h => h) (Gh.le_refl _) PickC.pick rfl (PV.build (vs := [(0, [vi _]), (1, [vi _, vi _, vi _]), (2, [v79])]) (out := [_, _, _, _, _]) rfl Zr126 Pl126 ⟨rfl, (Cl.c rfl), ⟨rfl, (Cl.c rfl), ⟨rfl, (Cl.s (v := v79) SlF.o), trivial⟩⟩⟩ rfl) ?_
              refine RH.ot rfl rfl (OT.storeW (vs := [vi _, vi _, vi _, vi _, _]) rfl Sz126 rfl rfl (Cl.c rfl) rfl rfl (OneC.val rfl (OneC.val rfl (OneC.val rfl (OneC.val rfl (OneC.sl (SlF.o (v := v79)) OneC.nil))))) ⟨Gh.le_refl _, PickC.pick, ?_⟩)
              refine RH.pv rfl (fun _ _ _ _ h => h) (Gh.le_refl _) PickC.pick rfl (PV.mvB (.inr rfl) rfl) ?_
              refine RH.nil ?_
              exact ⟨rfl, v79, trivial, ⟨rfl, trivial⟩, ⟨rfl, trivial⟩, Cv.p⟩
            · refine RH.ot rfl rfl (OT.append (v := v73) (F := intT) rfl El34 rfl (by decide) rfl rfl (Rs.up hp) (OneL.c (fun _ => rfl)) rfl (by first | omega | (simp <;> omega)) fun v76 => ⟨Gh.le_refl _, PickC.pick, ?_⟩)
              refine RH.ot rfl rfl (OT.append (v := v76) (u := v78) (F := intT) rfl El34 rfl (by decide) rfl rfl Rs.o (OneL.c (fun _ => rfl)) rfl (by first | omega | (simp <;> omega)) fun v79 => ⟨Gh.le_refl _, PickC.pick, ?_⟩)
              refine RH.up1 ?_
              refine RH.pv rfl (fun _ _ _ _ h => h) (Gh.le_refl _) PickC.pick rfl (PV.build (vs := [(0, [vi _]), (1, [vi _, vi _, vi _]), (2, [v79])]) (out := [_, _, _, _, _]) rfl Zr126 Pl126 ⟨rfl, (Cl.c rfl), ⟨rfl, (Cl.c rfl), ⟨rfl, (Cl.s (v := v79) SlF.o), trivial⟩⟩⟩ rfl) ?_
              refine RH.ot rfl rfl (OT.storeW (vs := [vi _, vi _, vi _, vi _, _]) rfl Sz126 rfl rfl (Cl.c rfl) rfl rfl (OneC.val rfl (OneC.val rfl (OneC.val rfl (OneC.val rfl (OneC.sl (SlF.o (v := v79)) OneC.nil))))) ⟨Gh.le_refl _, PickC.pick, ?_⟩)
              refine RH.pv rfl (fun _ _ _ _ h => h) (Gh.le_refl _) PickC.pick rfl (PV.mvB (.inr rfl) rfl) ?_
              refine RH.nil ?_
              exact ⟨rfl, v79, trivial, ⟨rfl, trivial⟩, ⟨rfl, trivial⟩, Cv.p⟩
          · refine RH.ot rfl rfl (OT.bslice (F := intT) (els := []) rfl El34 rfl (by decide) rfl (by decide) trivial fun v73 => ⟨Gh.le_refl _, PickC.pick, ?_⟩)
            refine RH.ot rfl rfl (OT.append (v := v73) (F := intT) rfl El34 rfl (by decide) rfl rfl (Rs.up hp) (OneL.c (fun _ => rfl)) rfl (by first | omega | (simp <;> omega)) fun v76 => ⟨Gh.le_refl _, PickC.pick, ?_⟩)
            refine RH.ot rfl rfl (OT.append (v := v76) (u := v78) (F := intT) rfl El34 rfl (by decide) rfl rfl Rs.o (OneL.c (fun _ => rfl)) rfl (by first | omega | (simp <;> omega)) fun v79 => ⟨Gh.le_refl _, PickC.pick, ?_⟩)
            refine RH.up1 ?_
            refine RH.pv rfl (fun _ _ _ _ h => h) (Gh.le_refl _) PickC.pick rfl (PV.build (vs := [(0, [vi _]), (1, [vi _, vi _, vi _]), (2, [v79])]) (out := [_, _, _, _, _]) rfl Zr126 Pl126 ⟨rfl, (Cl.c rfl), ⟨rfl, (Cl.c rfl), ⟨rfl, (Cl.s (v := v79) SlF.o), trivial⟩⟩⟩ rfl) ?_
            refine RH.ot rfl rfl (OT.storeW (vs := [vi _, vi _, vi _, vi _, _]) rfl Sz126 rfl rfl (Cl.c rfl) rfl rfl (OneC.val rfl (OneC.val rfl (OneC.val rfl (OneC.val rfl (OneC.sl (SlF.o (v := v79)) OneC.nil))))) ⟨Gh.le_refl _, PickC.pick, ?_⟩)
            refine RH.pv rfl (fun _ _ _ _ h => h) (Gh.le_refl _) PickC.pick rfl (PV.mvB (.inr rfl) rfl) ?_
            refine RH.nil ?_
            exact ⟨rfl, v79, trivial, ⟨rfl, trivial⟩, ⟨rfl, trivial⟩, Cv.p⟩
        · refine RH.ot2 rfl rfl rfl rfl  (OT.callF (vs := [_, _]) rfl En162 rfl (l10After_r hb1 hb2 hbig ⟨Gh.le_refl _, PickC.pick, ?_⟩)) (OT.bslice (F := intT) (els := [_]) rfl El34 rfl (by decide) rfl (by decide) ⟨rfl, (Cl.c rfl), trivial⟩ fun v78 => ⟨Gh.le_refl _, PickC.pick, ?_⟩)
          · refine RH.ot2 rfl rfl rfl rfl  (OT.append (v := v73) (F := intT) rfl El34 rfl (by decide) rfl rfl (Rs.up hp) (OneL.c (fun _ => rfl)) rfl (by first | omega | (simp <;> omega)) fun v76 => ⟨Gh.le_refl _, PickC.pick, ?_⟩) (OT.bslice (F := intT) (els := [_]) rfl El34 rfl (by decide) rfl (by decide) ⟨rfl, (Cl.c rfl), trivial⟩ fun v78 => ⟨Gh.le_refl _, PickC.pick, ?_⟩)
            · refine RH.ot rfl rfl (OT.bslice (F := intT) (els := [_]) rfl El34 rfl (by decide) rfl (by decide) ⟨rfl, (Cl.c rfl), trivial⟩ fun v78 => ⟨Gh.le_refl _, PickC.pick, ?_⟩)
              refine RH.ot rfl rfl (OT.append (v := v76) (u := v78) (F := intT) rfl El34 rfl (by decide) rfl rfl Rs.o (OneL.c (fun _ => rfl)) rfl (by first | omega | (simp <;> omega)) fun v79 => ⟨Gh.le_refl _, PickC.pick, ?_⟩)
              refine RH.up1 ?_
              refine RH.pv rfl (fun _ _ _ _ h => h) (Gh.le_refl _) PickC.pick rfl (PV.build (vs := [(0, [vi _]), (1, [vi _, vi _, vi _]), (2, [v79])]) (out := [_, _, _, _, _]) rfl Zr126 Pl126 ⟨rfl, (Cl.c rfl), ⟨rfl, (Cl.c rfl), ⟨rfl, (Cl.s (v := v79) SlF.o), trivial⟩⟩⟩ rfl) ?_
              refine RH.ot rfl rfl (OT.storeW (vs := [vi _, vi _, vi _, vi _, _]) rfl Sz126 rfl rfl (Cl.c rfl) rfl rfl (OneC.val rfl (OneC.val rfl (OneC.val rfl (OneC.val rfl (OneC.sl (SlF.o (v := v79)) OneC.nil))))) ⟨Gh.le_refl _, PickC.pick, ?_⟩)
              refine RH.pv rfl (fun _ _ _ _ h => h) (Gh.le_refl _) PickC.pick rfl (PV.mvB (.inr rfl) rfl) ?_
              refine RH.nil ?_
              exact ⟨rfl, v79, trivial, ⟨rfl, trivial⟩, ⟨rfl, trivial⟩, Cv.p⟩
            · refine RH.ot rfl rfl (OT.append (v := v73) (F := intT) rfl El34 rfl (by decide) rfl rfl (Rs.up hp) (OneL.c (fun _ => rfl)) rfl (by first | omega | (simp <;> omega)) fun v76 => ⟨Gh.le_refl _, PickC.pick, ?_⟩)
              refine RH.ot rfl rfl (OT.append (v := v76) (u := v78) (F := intT) rfl El34 rfl (by decide) rfl rfl Rs.o (OneL.c (fun _ => rfl)) rfl (by first | omega | (simp <;> omega)) fun v79 => ⟨Gh.le_refl _, PickC.pick, ?_⟩)
              refine RH.up1 ?_
              refine RH.pv rfl (fun _ _ _ _ h => h) (Gh.le_refl _) PickC.pick rfl (PV.build (vs := [(0, [vi _]), (1, [vi _, vi _, vi _]), (2, [v79])]) (out := [_, _, _, _, _]) rfl Zr126 Pl126 ⟨rfl, (Cl.c rfl), ⟨rfl, (Cl.c rfl), ⟨rfl, (Cl.s (v := v79) SlF.o), trivial⟩⟩⟩ rfl) ?_
              refine RH.ot rfl rfl (OT.storeW (vs := [vi _, vi _, vi _, vi _, _]) rfl Sz126 rfl rfl (Cl.c rfl) rfl rfl (OneC.val rfl (OneC.val rfl (OneC.val rfl (OneC.val rfl (OneC.sl (SlF.o (v := v79)) OneC.nil))))) ⟨Gh.le_refl _, PickC.pick, ?_⟩)
              refine RH.pv rfl (fun _ _ _ _ h => h) (Gh.le_refl _) PickC.pick rfl (PV.mvB (.inr rfl) rfl) ?_
              refine RH.nil ?_
              exact ⟨rfl, v79, trivial, ⟨rfl, trivial⟩, ⟨rfl, trivial⟩, Cv.p⟩
          · refine RH.ot rfl rfl (OT.callF (vs := [_, _]) rfl En162 rfl (l10After_r hb1 hb2 hbig ⟨Gh.le_refl _, PickC.pick, ?_⟩))
            refine RH.ot rfl rfl (OT.append (v := v73) (F := intT) rfl El34 rfl (by decide) rfl rfl (Rs.up hp) (OneL.c (fun _ => rfl)) rfl (by first | omega | (simp <;> omega)) fun v76 => ⟨Gh.le_refl _, PickC.pick, ?_⟩)
            refine RH.ot rfl rfl (OT.append (v := v76) (u := v78) (F := intT) rfl El34 rfl (by decide) rfl rfl Rs.o (OneL.c (fun _ => rfl)) rfl (by first | omega | (simp <;> omega)) fun v79 => ⟨Gh.le_refl _, PickC.pick, ?_⟩)
            refine RH.up1 ?_
            refine RH.pv rfl (fun _ _ _ _ h => h) (Gh.le_refl _) PickC.pick rfl (PV.build (vs := [(0, [vi _]), (1, [vi _, vi _, vi _]), (2, [v79])]) (out := [_, _, _, _, _]) rfl Zr126 Pl126 ⟨rfl, (Cl.c rfl), ⟨rfl, (Cl.c rfl), ⟨rfl, (Cl.s (v := v79) SlF.o), trivial⟩⟩⟩ rfl) ?_
            refine RH.ot rfl rfl (OT.storeW (vs := [vi _, vi _, vi _, vi _, _]) rfl Sz126 rfl rfl (Cl.c rfl) rfl rfl (OneC.val rfl (OneC.val rfl (OneC.val rfl (OneC.val rfl (OneC.sl (SlF.o (v := v79)) OneC.nil))))) ⟨Gh.le_refl _, PickC.pick, ?_⟩)
            refine RH.pv rfl (fun _ _ _ _ h => h) (Gh.le_refl _) PickC.pick rfl (PV.mvB (.inr rfl) rfl) ?_
            refine RH.nil ?_
            exact ⟨rfl, v79, trivial, ⟨rfl, trivial⟩, ⟨rfl, trivial⟩, Cv.p⟩
        · refine RH.ot2 rfl rfl rfl rfl  (OT.callF (vs := [_, _]) rfl En162 rfl (l10After_r hb1 hb2 hbig ⟨Gh.le_refl _, PickC.pick, ?_⟩)) (OT.bslice (F := intT) (els := []) rfl El34 rfl (by decide) rfl (by decide) trivial fun v73 => ⟨Gh.le_refl _, PickC.pick, ?_⟩)
          · refine RH.ot rfl rfl (OT.bslice (F := intT) (els := []) rfl El34 rfl (by decide) rfl (by decide) trivial fun v73 => ⟨Gh.le_refl _, PickC.pick, ?_⟩)
            refine RH.ot rfl rfl (OT.append (v := v73) (F := intT) rfl El34 rfl (by decide) rfl rfl (Rs.up hp) (OneL.c (fun _ => rfl)) rfl (by first | omega | (simp <;> omega)) fun v76 => ⟨Gh.le_refl _, PickC.pick, ?_⟩)
            refine RH.ot rfl rfl (OT.append (v := v76) (u := v78) (F := intT) rfl El34 rfl (by decide) rfl rfl Rs.o (OneL.c (fun _ => rfl)) rfl (by first | omega | (simp <;> omega)) fun v79 => ⟨Gh.le_refl _, PickC.pick, ?_⟩)
            refine RH.up1 ?_
            refine RH.pv rfl (fun _ _ _ _ h => h) (Gh.le_refl _) PickC.pick rfl (PV.build (vs := [(0, [vi _]), (1, [vi _, vi _, vi _]), (2, [v79])]) (out := [_, _, _, _, _]) rfl Zr126 Pl126 ⟨rfl, (Cl.c rfl), ⟨rfl, (Cl.c rfl), ⟨rfl, (Cl.s (v := v79) SlF.o), trivial⟩⟩⟩ rfl) ?_
            refine RH.ot rfl rfl (OT.storeW (vs := [vi _, vi _, vi _, vi _, _]) rfl Sz126 rfl rfl (Cl.c rfl) rfl rfl (OneC.val rfl (OneC.val rfl (OneC.val rfl (OneC.val rfl (OneC.sl (SlF.o (v := v79)) OneC.nil))))) ⟨Gh.le_refl _, PickC.pick, ?_⟩)
            refine RH.pv rfl (fun _ _ _ _ h => h) (Gh.le_refl _) PickC.pick rfl (PV.mvB (.inr rfl) rfl) ?_
            refine RH.nil ?_
            exact ⟨rfl, v79, trivial, ⟨rfl, trivial⟩, ⟨rfl, trivial⟩, Cv.p⟩
          · refine RH.ot rfl rfl (OT.callF (vs := [_, _]) rfl En162 rfl (l10After_r hb1 hb2 hbig ⟨Gh.le_refl _, PickC.pick, ?_⟩))
            refine RH.ot rfl rfl (OT.append (v := v73) (F := intT) rfl El34 rfl (by decide) rfl rfl (Rs.up hp) (OneL.c (fun _ => rfl)) rfl (by first | omega | (simp <;> omega)) fun v76 => ⟨Gh.le_refl _, PickC.pick, ?_⟩)
            refine RH.ot rfl rfl (OT.append (v := v76) (u := v78) (F := intT) rfl El34 rfl (by decide) rfl rfl Rs.o (OneL.c (fun _ => rfl)) rfl (by first | omega | (simp <;> omega)) fun v79 => ⟨Gh.le_refl _, PickC.pick, ?_⟩)
            refine RH.up1 ?_
            refine RH.pv rfl (fun _ _ _ _ h => h) (Gh.le_refl _) PickC.pick rfl (PV.build (vs := [(0, [vi _]), (1, [vi _, vi _, vi _]), (2, [v79])]) (out := [_, _, _, _, _]) rfl Zr126 Pl126 ⟨rfl, (Cl.c rfl), ⟨rfl, (Cl.c rfl), ⟨rfl, (Cl.s (v := v79) SlF.o), trivial⟩⟩⟩ rfl) ?_
            refine RH.ot rfl rfl (OT.storeW (vs := [vi _, vi _, vi _, vi _, _]) rfl Sz126 rfl rfl (Cl.c rfl) rfl rfl (OneC.val rfl (OneC.val rfl (OneC.val rfl (OneC.val rfl (OneC.sl (SlF.o (v := v79)) OneC.nil))))) ⟨Gh.le_refl _, PickC.pick, ?_⟩)
            refine RH.pv rfl (fun _ _ _ _ h => h) (Gh.le_refl _) PickC.pick rfl (PV.mvB (.inr rfl) rfl) ?_
            refine RH.nil ?_
            exact ⟨rfl, v79, trivial, ⟨rfl, trivial⟩, ⟨rfl, trivial⟩, Cv.p⟩
      · rintro v79 τ2 -
        refine WP.ret ?_
        exact ⟨_, _, ResV.two rfl (RV1.cell rfl Ag126 rfl) rfl, Cv.p, k v79⟩
    · have h4 := of_decide_eq_false h4
      refine WP.skip ?_
      refine WP.region ?_
      refine RG.pv rfl (PV.mvI (.inl rfl) rfl) ?_
      refine RG.pv rfl (PV.mvI (.inl rfl) rfl) ?_
      refine RG.pv rfl (PV.sub rfl rfl rfl (by omega)) ?_
      refine RG.pv rfl (PV.mvI (.inr rfl) rfl) ?_
      refine RG.nil ?_
      refine WP.region ?_
      refine RG.pv rfl (PV.mvI (.inl rfl) rfl) ?_
      refine RG.pv rfl (PV.add rfl rfl rfl (by omega)) ?_
      refine RG.pv rfl (PV.mvI (.inr rfl) rfl) ?_
      refine RG.nil ?_
      exact ⟨rfl, i + 1, _, ⟨by omega, by omega, by rw [z1]; omega⟩, ⟨rfl, rfl, trivial⟩, ⟨rfl, rfl, rfl, rfl, trivial⟩, Cv.p, by omega⟩
  · exfalso
    have hle : i = (gd l.cells.xs o.cell.toNat).insts.xs.length := by
      simp only [Bool.and_eq_false_iff, decide_eq_false_iff_not] at h3; omega
    rw [List.take_of_length_le (by omega)] at hre
    omega
end Go.Proofs.YtbkaincaahcnfaaGreat
namespace Go.Proofs.YtbkaincaahcnfaaGreat
set_option linter.unusedVariables false
set_option linter.unusedSimpArgs false
open Go
set_option maxRecDepth 20000
set_option maxHeartbeats 1000000
set_option linter.unusedSimpArgs false
variable {G : Gh} {L : List Ch} {R : Value → Gh → List Ch → Prop}
theorem step0_s {l : Lib} {cell n : Int} (hL : RLib G L l.cells.v l.cells.xs) (hok : okLib (erCls l.cells.xs) = true) (hcl : 0 ≤ cell ∧ cell.toNat < l.cells.xs.length) (hn : 0 ≤ n ∧ n.toNat < (elems (gd l.cells.xs cell.toNat).insts.xs).length)
    (k : ∀ v', R (.tuple #[vT occT ⟨(gd (elems (gd l.cells.xs cell.toNat).insts.xs) n.toNat).cell, cmpT (gd (elems (gd l.cells.xs cell.toNat).insts.xs) n.toNat).place ⟨0, 0, 0⟩, ⟨v', [n]⟩⟩, .bool true]) G (osl 2 intT v' [n] :: L)) : CallT Tryz.prog 134 #[vT libT l, vT occT ⟨cell, ⟨0, 0, 0⟩, ⟨.slice none 0 0, []⟩⟩, vi n] G L R :=
  step_s (o := ⟨cell, ⟨0, 0, 0⟩, ⟨.slice none 0 0, []⟩⟩) hL hok hcl ⟨by simp, by simp⟩ RsN (by simp) hn k
theorem path_s {l : Lib} {cell n : Int} {v : Value} (hL : RLib G L l.cells.v l.cells.xs) (hlen : lenC (erCls l.cells.xs)) (ha : AtEl l.cells.xs cell n) (h5 : Rs G L intT v [n])
    (k : ∀ w : Value, w.oneCell' = true → R (.tuple #[vT occT ⟨(gd (elems (gd l.cells.xs cell.toNat).insts.xs) n.toNat).cell, (gd (elems (gd l.cells.xs cell.toNat).insts.xs) n.toNat).place, ⟨w, [n]⟩⟩, vi 0]) G L) : CallT Tryz.prog 84 #[vT libT l, vi cell, v] G L R := by
  have hE := erCls_len l.cells.xs
  obtain ⟨hok, hc0, hc1⟩ := ha.lib
  have hnl := ha.lt
  have hn0 := ha.hn.1
  obtain ⟨he1, he2⟩ := ha.el
  have hh : hasCl (erCls l.cells.xs) cell = true := by simp [hasCl, hok, within]; omega
  have hvt : validT (gd (elems (gd l.cells.xs cell.toNat).insts.xs) n.toNat).place = true := validT_iff.2 ⟨he1, he2.1, he2.2⟩
  refine CallT.enter (args := _) Tryz.func84 rfl rfl (by kernel_rfl) rfl ?_
  refine WP.seq ?_
  refine WP.region ?_
  refine RG.ot rfl (OT.box (cs := libT.enc l) rfl rfl rfl fun b3 => ?_)
  refine RG.ot rfl (OT.alloc rfl Zr126 fun b6 => ?_)
  refine RG.pv rfl (PV.mvI (.inr rfl) rfl) ?_
  refine RG.nil ?_
  refine WP.seq ?_
  refine WP.seq ?_
  refine WP.region ?_
  refine RG.pv rfl (PV.loadW rfl Ag30 rfl rfl) ?_
  refine RG.callF (vs := [_]) rfl rfl En109 rfl (okLib_r hL.up hlen ?_)
  refine RG.pv rfl (PV.not rfl rfl) ?_
  refine RG.nil ?_
  refine WP.cond rfl (fun h1 => ?_) (fun h1 => ?_)
  · exfalso; simp [hok] at h1
  refine WP.skip ?_
  refine WP.seq ?_
  refine WP.seq ?_
  refine WP.region ?_
  refine RG.pv rfl (PV.loadW rfl Ag30 rfl rfl) ?_
  refine RG.pv rfl (PV.mvI (.inl rfl) rfl) ?_
  refine RG.callF (vs := [_, _]) rfl rfl En66 rfl (hasCl_r hL.up hlen ?_)
  refine RG.pv rfl (PV.not rfl rfl) ?_
  refine RG.nil ?_
  refine WP.cond rfl (fun h2 => ?_) (fun h2 => ?_)
  · exfalso; simp [hh] at h2
  refine WP.skip ?_
  refine WP.seq ?_
  refine WP.region ?_
  refine RG.pv rfl (PV.mvI (.inl rfl) rfl) ?_
  refine RG.pv rfl (PV.build (vs := [(0, [vi _])]) (out := [_, _, _, _, _]) rfl Zr126 Pl126 ⟨rfl, (Cl.c rfl), trivial⟩ rfl) ?_
  refine RG.ot rfl (OT.alloc rfl Zr126 fun b8 => ?_)
  refine RG.ot rfl (OT.storeW (vs := [vi _, vi _, vi _, vi _, _]) rfl Sz126 rfl rfl (Cl.c rfl) rfl rfl (OneC.c rfl) ?_)
  refine RG.nil ?_
  refine WP.seq ?_
  refine WP.seq ?_
  refine WP.region ?_
  refine RG.pv rfl (PV.mvI (.inr rfl) rfl) ?_
  refine RG.nil ?_
  refine WP.block ?_
  refine WP.loop2 [2, 3, 6, 8] (fun (i : Nat) (o : Occ) => (i = 0 ∧ o = ⟨cell, ⟨0, 0, 0⟩, ⟨.slice none 0 0, []⟩⟩) ∨ (i = 1 ∧ o = ⟨(gd (elems (gd l.cells.xs cell.toNat).insts.xs) n.toNat).cell, (gd (elems (gd l.cells.xs cell.toNat).insts.xs) n.toNat).place, ⟨o.path.v, [n]⟩⟩ ∧ o.path.v.oneCell' = true)) (fun (i : Nat) (o : Occ) => [(9, vi i)]) (fun (i : Nat) (o : Occ) => blk b8 126 (occT.enc o) :: blk b3 30 (libT.enc l) :: blk b6 126 [vi 0, vi 0, vi 0, vi 0, .slice none 0 0] :: L) (fun (i : Nat) (o : Occ) => 1 - i) 0 ⟨cell, ⟨0, 0, 0⟩, ⟨.slice none 0 0, []⟩⟩ (.inl ⟨rfl, rfl⟩) ⟨rfl, trivial⟩ Cv.p ?_
  rintro i o τ hJ
  refine WP.seq ?_
  refine WP.seq ?_
  refine WP.region ?_
  refine RG.pv rfl (PV.mvI (.inl rfl) rfl) ?_
  refine RG.pv rfl (PV.move (v := v) rfl rfl) ?_
  refine RG.pv rfl (PV.len (v := v) rfl Tryz.underlying34 rfl (SlF.r h5)) ?_
  refine RG.pv rfl (PV.lss rfl rfl rfl) ?_
  refine RG.nil ?_
  refine WP.cond rfl (fun h3 => ?_) (fun h3 => ?_)
  · have h3 : i < 1 := by have := of_decide_eq_true h3; simp only [List.length_cons, List.length_nil] at this; omega
    obtain ⟨rfl, rfl⟩ : i = 0 ∧ o = ⟨cell, ⟨0, 0, 0⟩, ⟨.slice none 0 0, []⟩⟩ := by
      rcases hJ with h | h
      · exact h
      · omega
    refine WP.skip ?_
    refine WP.seq ?_
    refine WP.block ?_
    refine WP.cut2 [2, 3, 6, 8, 9] (fun (b10 : Nat) (w36 : Value) => True) (fun (b10 : Nat) (w36 : Value) => [(10, .pointer (some ⟨b10, 0, none⟩)), (11, .bool true)]) (fun (b10 : Nat) (w36 : Value) => blk b10 126 (occT.enc ⟨(gd (elems (gd l.cells.xs cell.toNat).insts.xs) n.toNat).cell, cmpT (gd (elems (gd l.cells.xs cell.toNat).insts.xs) n.toNat).place ⟨0, 0, 0⟩, ⟨w36, [n]⟩⟩) :: osl 2 intT w36 ([n]) :: blk b8 126 (occT.enc ⟨cell, ⟨0, 0, 0⟩, ⟨.slice none 0 0, []⟩⟩) :: blk b3 30 (libT.enc l) :: blk b6 126 [vi 0, vi 0, vi 0, vi 0, .slice none 0 0] :: L) ?_ ?_
    refine WP.regionH0 (.q 0 (.q 1 (.q 2 (.q 3 (.q 4 (.q 5 (.b 6 (.q 7 (.q 8 (.q 9 (.l 10 (.l 11 (.q 12 Sch.nil)))))) 10 (.l 6 (.q 7 (.q 8 (.q 9 (.l 11 (.q 12 Sch.nil))))))))))))) (by kernel_rfl) (by kernel_rfl) (by kernel_rfl) rfl ?_
    refine RH.pv rfl (fun _ _ _ _ h => h) (Gh.le_refl _) PickC.pick rfl (PV.loadW rfl Ag30 rfl rfl) ?_
    refine RH.pv rfl (fun _ _ _ _ h => h) (Gh.le_refl _) PickC.pick rfl (PV.loadW rfl Ag126 rfl rfl) ?_
    refine RH.pv rfl (fun _ _ _ _ h => h) (Gh.le_refl _) PickC.pick rfl (PV.move (v := v) rfl rfl) ?_
    refine RH.pv rfl (fun _ _ _ _ h => h) (Gh.le_refl _) PickC.pick rfl (PV.mvI (.inl rfl) rfl) ?_
    refine RH.pv rfl (fun _ _ _ _ h => h) (Gh.le_refl _) PickC.pick rfl (PV.idxS (j := 0) (v := v) rfl Is34 rfl (SlF.r h5) rfl (by first | omega | (simp only [List.length_cons, List.length_nil]; omega)) (by first | omega | (simp only [List.length_cons, List.length_nil]; omega))) ?_
    refine RH.pv rfl (fun _ _ _ _ h => h) (Gh.le_refl _) PickC.pick rfl (PV.loadE1 rfl Sc2 rfl rfl (El.r h5 rfl) rfl) ?_
    · refine RH.ot2 rfl rfl rfl rfl  (OT.callF (vs := [_, _, _]) rfl En134 rfl (step0_s hL.up hok ⟨hc0, hc1⟩ ⟨hn0, hnl⟩ (fun w36 => ⟨Gh.le_refl _, PickC.pick, ?_⟩))) (OT.alloc rfl Zr126 fun b10 => ⟨Gh.le_refl _, PickC.pick, ?_⟩)
      · refine RH.pv rfl (fun _ _ _ _ h => h) (Gh.le_refl _) PickC.pick rfl (PV.move rfl rfl) ?_
        refine RH.pv rfl (fun _ _ _ _ h => h) (Gh.le_refl _) PickC.pick rfl (PV.ext rfl rfl rfl) ?_
        refine RH.pv rfl (fun _ _ _ _ h => h) (Gh.le_refl _) PickC.pick rfl (PV.ext rfl rfl rfl) ?_
        refine RH.ot rfl rfl (OT.alloc rfl Zr126 fun b10 => ⟨Gh.le_refl _, PickC.pick, ?_⟩)
        refine RH.ot rfl rfl (OT.storeW (vs := [vi _, vi _, vi _, vi _, _]) rfl Sz126 rfl rfl (Cl.c rfl) rfl rfl (OneC.val rfl (OneC.val rfl (OneC.val rfl (OneC.val rfl (OneC.sl (SlF.o (v := w36)) OneC.nil))))) ⟨Gh.le_refl _, PickC.pick, ?_⟩)
        refine RH.pv rfl (fun _ _ _ _ h => h) (Gh.le_refl _) PickC.pick rfl (PV.mvB (.inr rfl) rfl) ?_
        refine RH.nil ?_
        exact ⟨rfl, b10, w36, trivial, ⟨rfl, rfl, trivial⟩, ⟨rfl, rfl, rfl, rfl, rfl, trivial⟩, Cv.p⟩
      · refine RH.ot rfl rfl (OT.callF (vs := [_, _, _]) rfl En134 rfl (step0_s hL.up hok ⟨hc0, hc1⟩ ⟨hn0, hnl⟩ (fun w36 => ⟨Gh.le_refl _, PickC.pick, ?_⟩)))
        refine RH.pv rfl (fun _ _ _ _ h => h) (Gh.le_refl _) PickC.pick rfl (PV.move rfl rfl) ?_
        refine RH.pv rfl (fun _ _ _ _ h => h) (Gh.le_refl _) PickC.pick rfl (PV.ext rfl rfl rfl) ?_
        refine RH.pv rfl (fun _ _ _ _ h => h) (Gh.le_refl _) PickC.pick rfl (PV.ext rfl rfl rfl) ?_
        refine RH.ot rfl rfl (OT.storeW (vs := [vi _, vi _, vi _, vi _, _]) rfl Sz126 rfl rfl (Cl.c rfl) rfl rfl (OneC.val rfl (OneC.val rfl (OneC.val rfl (OneC.val rfl (OneC.sl (SlF.o (v := w36)) OneC.nil))))) ⟨Gh.le_refl _, PickC.pick, ?_⟩)
        refine RH.pv rfl (fun _ _ _ _ h => h) (Gh.le_refl _) PickC.pick rfl (PV.mvB (.inr rfl) rfl) ?_
        refine RH.nil ?_
        exact ⟨rfl, b10, w36, trivial, ⟨rfl, rfl, trivial⟩, ⟨rfl, rfl, rfl, rfl, rfl, trivial⟩, Cv.p⟩
    rintro b10 w36 τ1 -
    refine WP.st (fun w' hs => (SlF.o (v := w36) w' hs).one) fun hw1 => ?_
    refine WP.seq ?_
    refine WP.seq ?_
    refine WP.region ?_
    refine RG.pv rfl (PV.mvB (.inl rfl) rfl) ?_
    refine RG.pv rfl (PV.not rfl rfl) ?_
    refine RG.nil ?_
    refine WP.cond rfl (fun h4 => ?_) (fun h4 => ?_)
    · exfalso; simp at h4
    refine WP.skip ?_
    refine WP.region ?_
    refine RG.pv rfl (PV.loadW rfl Ag126 rfl rfl) ?_
    refine RG.ot rfl (OT.storeW (vs := [vi _, vi _, vi _, vi _, _]) rfl Sz126 rfl rfl (Cl.c rfl) rfl rfl (OneC.val rfl (OneC.val rfl (OneC.val rfl (OneC.val rfl (OneC.sl (SlF.o (v := w36)) OneC.nil))))) ?_)
    refine RG.nil ?_
    refine WP.region ?_
    refine RG.pv rfl (PV.mvI (.inl rfl) rfl) ?_
    refine RG.pv rfl (PV.add rfl rfl rfl (by first | omega | (simp only [List.length_cons, List.length_nil]; omega))) ?_
    refine RG.pv rfl (PV.mvI (.inr rfl) rfl) ?_
    refine RG.nil ?_
    exact ⟨rfl, 1, ⟨(gd (elems (gd l.cells.xs cell.toNat).insts.xs) n.toNat).cell, cmpT (gd (elems (gd l.cells.xs cell.toNat).insts.xs) n.toNat).place ⟨0, 0, 0⟩, ⟨w36, [n]⟩⟩, (.inr ⟨rfl, by rw [cmpT_top he1], hw1⟩), ⟨rfl, trivial⟩, ⟨rfl, rfl, rfl, rfl, trivial⟩, Cv.p, by omega⟩
  · have h3 : ¬ i < 1 := by have := of_decide_eq_false h3; simp only [List.length_cons, List.length_nil] at this; omega
    obtain ⟨hi, ho, hw1⟩ : i = 1 ∧ o = ⟨(gd (elems (gd l.cells.xs cell.toNat).insts.xs) n.toNat).cell, (gd (elems (gd l.cells.xs cell.toNat).insts.xs) n.toNat).place, ⟨o.path.v, [n]⟩⟩ ∧ o.path.v.oneCell' = true := by
      rcases hJ with h | h
      · omega
      · exact h
    generalize o.path.v = w0 at ho hw1
    subst ho
    refine WP.exit ?_
    refine WP.seq ?_
    refine WP.seq ?_
    refine WP.region ?_
    refine RG.pv rfl (PV.field rfl Fo126_1 rfl) ?_
    refine RG.pv rfl (PV.loadB (vs := [_, _, _]) rfl Ag124 rfl rfl rfl) ?_
    refine RG.callF (vs := [_]) rfl rfl En120 rfl (l09Trans_r ?_)
    refine RG.pv rfl (PV.not rfl rfl) ?_
    refine RG.nil ?_
    refine WP.cond rfl (fun h6 => ?_) (fun h6 => ?_)
    · exfalso; simp [hvt] at h6
    refine WP.skip ?_
    refine WP.seq ?_
    refine WP.region ?_
    refine RG.pv rfl (PV.loadW rfl Ag126 rfl rfl) ?_
    refine RG.ot rfl (OT.storeW (vs := [vi _, vi _, vi _, vi _, _]) rfl Sz126 rfl rfl (Cl.c rfl) rfl rfl (OneC.val rfl (OneC.val rfl (OneC.val rfl (OneC.val rfl (OneC.val hw1 OneC.nil))))) ?_)
    refine RG.pv rfl (PV.mvI (.inr rfl) rfl) ?_
    refine RG.nil ?_
    refine WP.ret ?_
    exact ⟨_, _, ResV.two rfl (RV1.cell rfl Ag126 rfl) rfl, Cv.p, k w0 hw1⟩
theorem any_pick {rs : List RShape} {f : Int → Bool} {g : Shape → Bool} : (rs.any fun x => f x.root && g x.shape) = (pickR rs f).any g := by
  induction rs with
  | nil => rfl
  | cons x rs ih =>
    rw [List.any_cons, ih, pickR, pickR, List.filter_cons]
    cases hf : f x.root <;> simp
theorem pick_sel {cs : List ECell} {ls : List Int} {b : Bool} {f : Int → Bool} : ∀ {os : List EOcc}, (∀ o ∈ os, f (rootOf o) = (selS ls o == b)) → pickR (rootL cs os) f = selL cs os ls b
  | [], _ => rfl
  | o :: os, h => by
    have ih := pick_sel (cs := cs) (os := os) (ls := ls) (b := b) (f := f) (fun q hq => h q (.tail _ hq))
    have h0 := h o (.head _)
    have e1 : rootL cs (o :: os) = rootAt cs o ++ rootL cs os := rfl
    have e2 : selL cs (o :: os) ls b = (if (selS ls o == b) = true then flatOf cs o else []) ++ selL cs os ls b := rfl
    rw [e1, e2, ← ih, pickR, pickR, List.filter_append, List.map_append, ← h0]
    congr 1
    rw [rootAt]
    cases hf : f (rootOf o)
    · rw [List.filter_eq_nil_iff.2 (fun x hx => by obtain ⟨s, _, rfl⟩ := List.mem_map.1 hx; simp [hf])]; simp
    · rw [List.filter_eq_self.2 (fun x hx => by obtain ⟨s, _, rfl⟩ := List.mem_map.1 hx; simp [hf])]; simp [Function.comp_def]
theorem root_one {o : EOcc} {n : Int} (hn : 0 ≤ n) : decide (rootOf o = n) = selS [n] o := by
  by_cases h : 0 < o.path.length
  · rw [rootOf_pos h, selS]
    have : (0 : Int) < o.path.length := by omega
    simp only [this, decide_true, Bool.true_and, List.any_cons, List.any_nil, Bool.or_false]
    rw [decide_eq_decide]; exact eq_comm
  · rw [rootOf_neg h, selS]
    have h1 : ¬ (0 : Int) < o.path.length := by omega
    have h2 : ¬ (-1 : Int) = n := by omega
    simp [h1, h2]
    intro hh; exact absurd hh h
theorem free_sel {xs : List Cell} {cell n reach : Int} {p : Rect} (ha : AtEl xs cell n) : (rootR (erCls xs) cell).any (nearS n reach p) = (selL (erCls xs) (occR (erCls xs) cell) [n] false).any fun s => decide (distR s.box p ≤ 2 * reach) := by
  have e2 : rootR (erCls xs) cell = rootL (erCls xs) (occR (erCls xs) cell) := by rw [rootR, decide_eq_true ha.hz]; rfl
  have e := any_pick (rs := rootL (erCls xs) (occR (erCls xs) cell)) (f := fun r => !decide (r = n)) (g := fun s => decide (distR s.box p ≤ 2 * reach))
  rw [e2, ← pick_sel (f := fun r => !decide (r = n)) (fun o _ => by rw [root_one ha.hn.1]; cases selS [n] o <;> rfl), ← e]
  rfl
theorem selL_in {xs : List Cell} {cell : Int} (hz : shE (erCls xs) cell = 0) {ls : List Int} {b : Bool} {i : Nat} (hi : i < (selL (erCls xs) (occR (erCls xs) cell) ls b).length) : validRect (gd (selL (erCls xs) (occR (erCls xs) cell) ls b) i).box = true :=
  (shE_zero hz).2 _ (selL_mem (gd_mem hi))
theorem free_r {l : Lib} {cell n reach : Int} (hL : RLib G L l.cells.v l.cells.xs) (hlen : lenC (erCls l.cells.xs)) (ha : AtEl l.cells.xs cell n) (hr : 0 ≤ reach ∧ reach ≤ 8) (k : R (.bool (freeB (erCls l.cells.xs) cell n reach)) G L) :
    CallT Tryz.prog 47 #[vT libT l, vi cell, vi n, vi reach] G L R := by
  have hE := erCls_len l.cells.xs
  obtain ⟨hok, hc0, hc1⟩ := ha.lib
  have hce := erCl_insts (xs := l.cells.xs) (i := cell.toNat) hc1
  have hnl := ha.lt
  have hn0 := ha.hn.1
  obtain ⟨he1, he2'⟩ := ha.el
  have he2 : -1000 ≤ (gd (elems (gd l.cells.xs cell.toNat).insts.xs) n.toNat).place.x ∧ (gd (elems (gd l.cells.xs cell.toNat).insts.xs) n.toNat).place.x ≤ 1000 ∧ -1000 ≤ (gd (elems (gd l.cells.xs cell.toNat).insts.xs) n.toNat).place.y ∧ (gd (elems (gd l.cells.xs cell.toNat).insts.xs) n.toNat).place.y ≤ 1000 := by omega
  refine CallT.enter (args := _) Tryz.func47 rfl rfl (by kernel_rfl) rfl ?_
  refine WP.seq ?_
  refine WP.region ?_
  refine RG.ot rfl (OT.box (cs := libT.enc l) rfl rfl rfl fun b4 => ?_)
  refine RG.pv rfl (PV.mvB (.inr rfl) rfl) ?_
  refine RG.nil ?_
  refine WP.seq ?_
  refine WP.region ?_
  refine RG.pv rfl (PV.loadW rfl Ag30 rfl rfl) ?_
  refine RG.pv rfl (PV.mvI (.inl rfl) rfl) ?_
  refine RG.pv rfl (PV.mvI (.inl rfl) rfl) ?_
  refine RG.ot rfl (OT.bslice (F := intT) (els := [_]) rfl El34 rfl (by decide) rfl (by decide) ⟨rfl, (Cl.c rfl), trivial⟩ fun v22 => ?_)
  refine RG.callF (vs := [_, _, v22]) rfl rfl En84 rfl (path_s hL.up hlen ha Rs.o (fun w1 hw1 => ?_))
  refine RG.pv rfl (PV.move rfl rfl) ?_
  refine RG.pv rfl (PV.ext rfl rfl rfl) ?_
  refine RG.pv rfl (PV.ext rfl rfl rfl) ?_
  refine RG.ot rfl (OT.alloc rfl Zr126 fun b9 => ?_)
  refine RG.ot rfl (OT.storeW (vs := [vi _, vi _, vi _, vi _, _]) rfl Sz126 rfl rfl (Cl.c rfl) rfl rfl (OneC.val rfl (OneC.val rfl (OneC.val rfl (OneC.val rfl (OneC.val hw1 OneC.nil))))) ?_)
  refine RG.pv rfl (PV.mvI (.inr rfl) rfl) ?_
  refine RG.nil ?_
  refine WP.seq ?_
  refine WP.region ?_
  refine RG.pv rfl (PV.loadW rfl Ag30 rfl rfl) ?_
  refine RG.pv rfl (PV.field rfl Fo126_0 rfl) ?_
  refine RG.pv rfl (PV.load1 rfl Sc2 rfl (Rd.blk rfl)) ?_
  refine RG.callF (vs := [_, _]) rfl rfl En85 rfl (bnd_r hL.up hlen ?_)
  refine RG.pv rfl (PV.move rfl rfl) ?_
  refine RG.pv rfl (PV.ext rfl rfl rfl) ?_
  refine RG.pv rfl (PV.ext rfl rfl rfl) ?_
  refine RG.ot rfl (OT.alloc rfl Zr116 fun b11 => ?_)
  refine RG.ot rfl (OT.storeW (vs := [vi _, vi _, vi _, vi _]) rfl Sz116 rfl rfl (Cl.c rfl) rfl rfl (OneC.c rfl) ?_)
  refine RG.pv rfl (PV.mvI (.inr rfl) rfl) ?_
  refine RG.nil ?_
  refine WP.seq ?_
  refine WP.seq ?_
  refine WP.region ?_
  refine RG.pv rfl (PV.mvI (.inl rfl) rfl) ?_
  refine RG.pv rfl (PV.neq rfl rfl rfl) ?_
  refine RG.nil ?_
  refine WP.cond rfl (fun h6 => ?_) (fun h6 => ?_)
  · have h6 : bndE (erCls l.cells.xs) (gd (elems (gd l.cells.xs cell.toNat).insts.xs) n.toNat).cell ≠ 0 := by simpa using h6
    have e : freeB (erCls l.cells.xs) cell n reach = false := free_no (by rw [hce]; exact h6)
    rw [e] at k
    refine WP.seq ?_
    refine WP.region ?_
    refine RG.pv rfl (PV.mvB (.inr rfl) rfl) ?_
    refine RG.nil ?_
    refine WP.ret ?_
    exact ⟨_, _, ResV.one rfl rfl, Cv.p, k⟩
  · have h6 : bndE (erCls l.cells.xs) (gd (elems (gd l.cells.xs cell.toNat).insts.xs) n.toNat).cell = 0 := by simpa using h6
    have hob := bndR_in h6
    have hob2 := RIn_big hob
    have hpb := moveR_big hob he1 (show (-1000 ≤ (gd (elems (gd l.cells.xs cell.toNat).insts.xs) n.toNat).place.x ∧ (gd (elems (gd l.cells.xs cell.toNat).insts.xs) n.toNat).place.x ≤ 1000) ∧ -1000 ≤ (gd (elems (gd l.cells.xs cell.toNat).insts.xs) n.toNat).place.y ∧ (gd (elems (gd l.cells.xs cell.toNat).insts.xs) n.toNat).place.y ≤ 1000 by omega)
    have hfe : freeB (erCls l.cells.xs) cell n reach = ((validRect (wideR (bndR (erCls l.cells.xs) (gd (elems (gd l.cells.xs cell.toNat).insts.xs) n.toNat).cell) reach) && validRect (wideR (moveR (gd (elems (gd l.cells.xs cell.toNat).insts.xs) n.toNat).place (bndR (erCls l.cells.xs) (gd (elems (gd l.cells.xs cell.toNat).insts.xs) n.toNat).cell)) reach)) && !((selL (erCls l.cells.xs) (occR (erCls l.cells.xs) cell) [n] false).any fun s => decide (distR s.box (moveR (gd (elems (gd l.cells.xs cell.toNat).insts.xs) n.toNat).place (bndR (erCls l.cells.xs) (gd (elems (gd l.cells.xs cell.toNat).insts.xs) n.toNat).cell)) ≤ 2 * reach))) := by
      rw [← free_sel ha]
      have e2 : rootR (erCls l.cells.xs) cell = rootL (erCls l.cells.xs) (occR (erCls l.cells.xs) cell) := by rw [rootR, decide_eq_true ha.hz]; rfl
      simp only [freeB, hce, decide_eq_true h6, Bool.true_and, e2]
    refine WP.skip ?_
    refine WP.seq ?_
    refine WP.region ?_
    refine RG.pv rfl (PV.field rfl Fo126_1 rfl) ?_
    refine RG.pv rfl (PV.loadB (vs := [_, _, _]) rfl Ag124 rfl rfl rfl) ?_
    refine RG.pv rfl (PV.loadW rfl Ag116 rfl rfl) ?_
    refine RG.callF (vs := [_, _]) rfl rfl En86 rfl (moveRect_r he1 he2 hob ?_)
    refine RG.ot rfl (OT.alloc rfl Zr116 fun b13 => ?_)
    refine RG.ot rfl (OT.storeW (vs := [vi _, vi _, vi _, vi _]) rfl Sz116 rfl rfl (Cl.c rfl) rfl rfl (OneC.c rfl) ?_)
    refine RG.nil ?_
    refine WP.seq ?_
    refine WP.seq ?_
    refine WP.region ?_
    refine RG.pv rfl (PV.loadW rfl Ag116 rfl rfl) ?_
    refine RG.pv rfl (PV.mvI (.inl rfl) rfl) ?_
    refine RG.callF (vs := [_, _]) rfl rfl En88 rfl (wide_s hob2 (by omega) ?_)
    refine RG.callF (vs := [_]) rfl rfl En87 rfl (validRect_s' ?_)
    refine RG.pv rfl (PV.not rfl rfl) ?_
    refine RG.pv rfl (PV.mvB (.inl rfl) rfl) ?_
    refine RG.gs rfl rfl rfl (fun hp => (PV.loadW rfl Ag116 rfl rfl)) ?_
    refine RG.gs rfl rfl rfl (fun hp => (PV.mvI (.inl rfl) rfl)) ?_
    refine RG.gsC rfl rfl rfl rfl En88 (fun hp => ⟨_, (acons (gs_t hp) (acons (gs_t hp) anil)), wide_s hpb (by omega) ⟨rfl, rfl, rfl⟩⟩) ?_
    refine RG.gsC rfl rfl rfl rfl En87 (fun hp => ⟨_, (acons (gs_t hp) anil), validRect_s' ⟨rfl, rfl, rfl⟩⟩) ?_
    refine RG.gs rfl rfl rfl (fun hp => (PV.not rfl (gs_t hp))) ?_
    refine RG.pv rfl (PV.pickO rfl rfl rfl (fun hq => gs_t (geqF hq))) ?_
    refine RG.nil ?_
    refine WP.cond rfl (fun h7 => ?_) (fun h7 => ?_)
    · have e : freeB (erCls l.cells.xs) cell n reach = false := by
        rw [hfe]
        simp only [Bool.or_eq_true, Bool.not_eq_true'] at h7
        rcases h7 with h | h
        · rw [show validRect (wideR (bndR (erCls l.cells.xs) (gd (elems (gd l.cells.xs cell.toNat).insts.xs) n.toNat).cell) reach) = false from h]; rfl
        · rw [show validRect (wideR (moveR (gd (elems (gd l.cells.xs cell.toNat).insts.xs) n.toNat).place (bndR (erCls l.cells.xs) (gd (elems (gd l.cells.xs cell.toNat).insts.xs) n.toNat).cell)) reach) = false from h, Bool.and_false]; rfl
      rw [e] at k
      refine WP.seq ?_
      refine WP.region ?_
      refine RG.pv rfl (PV.mvB (.inr rfl) rfl) ?_
      refine RG.nil ?_
      refine WP.ret ?_
      exact ⟨_, _, ResV.one rfl rfl, Cv.p, k⟩
    · simp only [Bool.or_eq_false_iff, Bool.not_eq_false'] at h7
      rw [show validRect (wideR (bndR (erCls l.cells.xs) (gd (elems (gd l.cells.xs cell.toNat).insts.xs) n.toNat).cell) reach) = true from h7.1, show validRect (wideR (moveR (gd (elems (gd l.cells.xs cell.toNat).insts.xs) n.toNat).place (bndR (erCls l.cells.xs) (gd (elems (gd l.cells.xs cell.toNat).insts.xs) n.toNat).cell)) reach) = true from h7.2, Bool.true_and, Bool.true_and] at hfe
      obtain ⟨⟨z1, z2, z3⟩, z4, z5, z6⟩ := id hpb
      refine WP.skip ?_
      refine WP.seq ?_
      refine WP.region ?_
      refine RG.pv rfl (PV.loadW rfl Ag116 rfl rfl) ?_
      refine RG.pv rfl (PV.mvI (.inl rfl) rfl) ?_
      refine RG.pv rfl (PV.mul rfl rfl rfl (by omega)) ?_
      refine RG.callF (vs := [_, _]) rfl rfl En88 rfl (wide_s hpb (by omega) ?_)
      refine RG.ot rfl (OT.alloc rfl Zr116 fun b14 => ?_)
      refine RG.ot rfl (OT.storeW (vs := [vi _, vi _, vi _, vi _]) rfl Sz116 rfl rfl (Cl.c rfl) rfl rfl (OneC.c rfl) ?_)
      refine RG.nil ?_
      refine WP.seq ?_
      refine WP.region ?_
      refine RG.pv rfl (PV.loadW rfl Ag30 rfl rfl) ?_
      refine RG.pv rfl (PV.mvI (.inl rfl) rfl) ?_
      refine RG.pv rfl (PV.mvI (.inl rfl) rfl) ?_
      refine RG.ot rfl (OT.bslice (F := intT) (els := [_]) rfl El34 rfl (by decide) rfl (by decide) ⟨rfl, (Cl.c rfl), trivial⟩ fun v58 => ?_)
      refine RG.callF (vs := [_, _, v58, _]) rfl rfl En59 rfl (l21Shapes_s hL.up hlen Rs.o (fun v59 => ?_))
      refine RG.pv rfl (PV.asg (v := v59) rfl rfl) ?_
      refine RG.nil ?_
      refine WP.seq ?_
      refine WP.seq ?_
      refine WP.region ?_
      refine RG.pv rfl (PV.mvI (.inr rfl) rfl) ?_
      refine RG.nil ?_
      refine WP.block ?_
      refine WP.bdo v59 fun hbz => ?_
      refine WP.loop1 [14, 15] (fun i => i ≤ (selL (erCls l.cells.xs) (occR (erCls l.cells.xs) cell) [n] false).length ∧ ∀ j, j < i → decide (distR (gd (selL (erCls l.cells.xs) (occR (erCls l.cells.xs) cell) [n] false) j).box (moveR (gd (elems (gd l.cells.xs cell.toNat).insts.xs) n.toNat).place (bndR (erCls l.cells.xs) (gd (elems (gd l.cells.xs cell.toNat).insts.xs) n.toNat).cell)) ≤ 2 * reach) = false) (fun i => [(16, vi i)]) (fun i => osl 135 shapeT v59 (selL (erCls l.cells.xs) (occR (erCls l.cells.xs) cell) [n] false) :: blk b14 116 (rectT.enc (wideR (moveR (gd (elems (gd l.cells.xs cell.toNat).insts.xs) n.toNat).place (bndR (erCls l.cells.xs) (gd (elems (gd l.cells.xs cell.toNat).insts.xs) n.toNat).cell)) (2 * reach))) :: L) (fun i => (selL (erCls l.cells.xs) (occR (erCls l.cells.xs) cell) [n] false).length - i) 0 ⟨by omega, fun j h => by omega⟩ ⟨rfl, trivial⟩ Cv.p ?_
      rintro i τ ⟨hi, hj⟩
      refine WP.seq ?_
      refine WP.seq ?_
      refine WP.region ?_
      refine RG.pv rfl (PV.mvI (.inl rfl) rfl) ?_
      refine RG.pv rfl (PV.move (v := v59) rfl rfl) ?_
      refine RG.pv rfl (PV.len (v := v59) rfl Tryz.underlying76 rfl SlF.o) ?_
      refine RG.pv rfl (PV.lss rfl rfl rfl) ?_
      refine RG.nil ?_
      refine WP.cond rfl (fun h8 => ?_) (fun h8 => ?_)
      · have h8 := of_decide_eq_true h8
        have hin := validR_in (selL_in ha.hz (ls := [n]) (b := false) (i := i) (by omega))
        have hsb := RIn_big hin
        obtain ⟨y1, y2, y3, y4, y5, y6⟩ := id hin
        have hns := near_span (q := reach) hsb hpb hr.1
        refine WP.skip ?_
        refine WP.seq ?_
        refine WP.block ?_
        refine WP.seq ?_
        refine WP.region ?_
        refine RG.pv rfl (PV.move (v := v59) rfl rfl) ?_
        refine RG.pv rfl (PV.mvI (.inl rfl) rfl) ?_
        refine RG.pv rfl (PV.idxS (v := v59) rfl Is76 rfl SlF.o rfl rfl (by omega)) ?_
        refine RG.pv rfl (PV.field rfl Fo135_1 rfl) ?_
        refine RG.pv rfl (PV.loadEP rfl Ag116 rfl rfl (El.o (getG (by omega))) rfl) ?_
        refine RG.ot rfl (OT.alloc rfl Zr116 fun b17 => ?_)
        refine RG.ot rfl (OT.storeW (vs := [vi _, vi _, vi _, vi _]) rfl Sz116 rfl rfl (Cl.c rfl) rfl rfl (OneC.c rfl) ?_)
        refine RG.nil ?_
        refine WP.seq ?_
        refine WP.region ?_
        refine RG.pv rfl (PV.field rfl Fo116_0 rfl) ?_
        refine RG.pv rfl (PV.load1 rfl Sc2 rfl (Rd.blk rfl)) ?_
        refine RG.pv rfl (PV.field rfl Fo116_2 rfl) ?_
        refine RG.pv rfl (PV.load1 rfl Sc2 rfl (Rd.blk rfl)) ?_
        refine RG.pv rfl (PV.field rfl Fo116_0 rfl) ?_
        refine RG.pv rfl (PV.load1 rfl Sc2 rfl (Rd.blk rfl)) ?_
        refine RG.pv rfl (PV.field rfl Fo116_2 rfl) ?_
        refine RG.pv rfl (PV.load1 rfl Sc2 rfl (Rd.blk rfl)) ?_
        refine RG.callF (vs := [_, _, _, _]) rfl rfl En89 rfl (span_s (by first | omega | (simp only [wideR]; omega)) (by first | omega | (simp only [wideR]; omega)) (by first | omega | (simp only [wideR]; omega)) (by first | omega | (simp only [wideR]; omega)) ?_)
        refine RG.pv rfl (PV.gtr rfl rfl rfl) ?_
        refine RG.pv rfl (PV.mvB (.inl rfl) rfl) ?_
        refine RG.gs rfl rfl rfl (fun hp => (PV.field rfl Fo116_1 rfl)) ?_
        refine RG.gs rfl rfl rfl (fun hp => (PV.load1 rfl Sc2 (gs_t hp) (Rd.blk rfl))) ?_
        refine RG.gs rfl rfl rfl (fun hp => (PV.field rfl Fo116_3 rfl)) ?_
        refine RG.gs rfl rfl rfl (fun hp => (PV.load1 rfl Sc2 (gs_t hp) (Rd.blk rfl))) ?_
        refine RG.gs rfl rfl rfl (fun hp => (PV.field rfl Fo116_1 rfl)) ?_
        refine RG.gs rfl rfl rfl (fun hp => (PV.load1 rfl Sc2 (gs_t hp) (Rd.blk rfl))) ?_
        refine RG.gs rfl rfl rfl (fun hp => (PV.field rfl Fo116_3 rfl)) ?_
        refine RG.gs rfl rfl rfl (fun hp => (PV.load1 rfl Sc2 (gs_t hp) (Rd.blk rfl))) ?_
        refine RG.gsC rfl rfl rfl rfl En89 (fun hp => ⟨_, (acons (gs_t hp) (acons (gs_t hp) (acons (gs_t hp) (acons (gs_t hp) anil)))), span_s (by first | omega | (simp only [wideR]; omega)) (by first | omega | (simp only [wideR]; omega)) (by first | omega | (simp only [wideR]; omega)) (by first | omega | (simp only [wideR]; omega)) ⟨rfl, rfl, rfl⟩⟩) ?_
        refine RG.gs rfl rfl rfl (fun hp => (PV.gtr rfl (gs_t hp) rfl)) ?_
        refine RG.pv rfl (PV.pickA rfl rfl (fun hq => gs_t (geqT hq)) rfl) ?_
        refine RG.nil ?_
        refine WP.cond rfl (fun h9 => ?_) (fun h9 => ?_)
        · have e : freeB (erCls l.cells.xs) cell n reach = false := by
            rw [hfe, List.any_eq_true.2 ⟨gd (selL (erCls l.cells.xs) (occR (erCls l.cells.xs) cell) [n] false) i, gd_mem (by omega), by rw [hns]; exact h9⟩]; rfl
          rw [e] at k
          refine WP.seq ?_
          refine WP.region ?_
          refine RG.pv rfl (PV.mvB (.inr rfl) rfl) ?_
          refine RG.nil ?_
          refine WP.ret ?_
          exact ⟨_, _, ResV.one rfl rfl, Cv.p, k⟩
        · have hj' : ∀ j, j < i + 1 → decide (distR (gd (selL (erCls l.cells.xs) (occR (erCls l.cells.xs) cell) [n] false) j).box (moveR (gd (elems (gd l.cells.xs cell.toNat).insts.xs) n.toNat).place (bndR (erCls l.cells.xs) (gd (elems (gd l.cells.xs cell.toNat).insts.xs) n.toNat).cell)) ≤ 2 * reach) = false := fun j h => by
            by_cases c : j = i
            · rw [c, hns]; exact h9
            · exact hj j (by omega)
          refine WP.skip ?_
          refine WP.region ?_
          refine RG.pv rfl (PV.mvI (.inl rfl) rfl) ?_
          refine RG.pv rfl (PV.add rfl rfl rfl (by omega)) ?_
          refine RG.pv rfl (PV.mvI (.inr rfl) rfl) ?_
          refine RG.nil ?_
          exact ⟨rfl, i + 1, ⟨by omega, hj'⟩, ⟨rfl, trivial⟩, ⟨rfl, rfl, trivial⟩, Cv.p, by omega⟩
      · have h8 := of_decide_eq_false h8
        have e : freeB (erCls l.cells.xs) cell n reach = true := by
          have : ((selL (erCls l.cells.xs) (occR (erCls l.cells.xs) cell) [n] false).any fun s => decide (distR s.box (moveR (gd (elems (gd l.cells.xs cell.toNat).insts.xs) n.toNat).place (bndR (erCls l.cells.xs) (gd (elems (gd l.cells.xs cell.toNat).insts.xs) n.toNat).cell)) ≤ 2 * reach)) = false := by
            rw [List.any_eq_false]
            intro s hs
            obtain ⟨j, hj2, rfl⟩ := List.getElem_of_mem hs
            have := hj j (by omega)
            rw [gd_eq hj2] at this
            simpa using this
          rw [hfe, this]; rfl
        rw [e] at k
        refine WP.exit ?_
        refine WP.seq ?_
        refine WP.region ?_
        refine RG.pv rfl (PV.mvB (.inr rfl) rfl) ?_
        refine RG.nil ?_
        refine WP.ret ?_
        exact ⟨_, _, ResV.one rfl rfl, Cv.p, k⟩
end Go.Proofs.YtbkaincaahcnfaaGreat
namespace Go.Proofs.YtbkaincaahcnfaaGreat
set_option linter.unusedVariables false
set_option linter.unusedSimpArgs false
open Go
set_option maxRecDepth 20000
set_option maxHeartbeats 1000000
set_option linter.unusedSimpArgs false
variable {G : Gh} {L : List Ch} {R : Value → Gh → List Ch → Prop}
def icE (cs : List ECell) (cell n reach : Int) : Int := bif decide (elE cs cell n = 0) then (bif within reach 0 8 then 0 else 2) else elE cs cell n
def icB (cs : List ECell) (cell n reach : Int) : Bool := decide (icE cs cell n reach = 0) && freeB cs cell n reach
theorem AtEl.of {xs : List Cell} {cell n : Int} (hz : shE (erCls xs) cell = 0) (h : within n 0 ((elN (erCls xs) cell : Int) - 1) = true) : AtEl xs cell n := by
  simp only [within, Bool.and_eq_true, decide_eq_true_eq] at h
  exact ⟨hz, by omega, by omega⟩
theorem reach_in {n : Int} (h : within n 0 8 = true) : 0 ≤ n ∧ n ≤ 8 := by simpa [within] using h
theorem isFree_i {l : Lib} {cell n reach : Int} (hL : RLib G L l.cells.v l.cells.xs) (hlen : lenC (erCls l.cells.xs)) (k : R (.tuple #[.bool (icB (erCls l.cells.xs) cell n reach), vi (icE (erCls l.cells.xs) cell n reach)]) G L) : CallT Tryz.prog 13 #[vT libT l, vi cell, vi n, vi reach] G L R := by
  refine CallT.enter (args := _) Tryz.func13 rfl rfl (by kernel_rfl) rfl ?_
  refine WP.seq ?_
  refine WP.region ?_
  refine RG.ot rfl (OT.box (cs := libT.enc l) rfl rfl rfl fun b4 => ?_)
  refine RG.pv rfl (PV.mvB (.inr rfl) rfl) ?_
  refine RG.pv rfl (PV.mvI (.inr rfl) rfl) ?_
  refine RG.nil ?_
  refine WP.seq ?_
  refine WP.region ?_
  refine RG.pv rfl (PV.loadW rfl Ag30 rfl rfl) ?_
  refine RG.pv rfl (PV.mvI (.inl rfl) rfl) ?_
  refine RG.callF (vs := [_, _]) rfl rfl En49 rfl (rooted_i hL.up hlen (fun w15 => ?_))
  refine RG.pv rfl (PV.move (v := .tuple _) rfl rfl) ?_
  refine RG.pv rfl (PV.ext (v := w15) rfl rfl rfl) ?_
  refine RG.pv rfl (PV.ext rfl rfl rfl) ?_
  refine RG.pv rfl (PV.asg (v := w15) rfl rfl) ?_
  refine RG.pv rfl (PV.mvI (.inr rfl) rfl) ?_
  refine RG.nil ?_
  refine WP.seq ?_
  refine WP.block ?_
  refine WP.seq ?_
  refine WP.region ?_
  refine RG.pv rfl (PV.mvI (.inl rfl) rfl) ?_
  refine RG.pv rfl (PV.neq rfl rfl rfl) ?_
  refine RG.pv rfl (PV.mvB (.inr rfl) rfl) ?_
  refine RG.nil ?_
  refine WP.cond rfl (fun h1 => ?_) (fun h1 => ?_)
  · have h1 : shE (erCls l.cells.xs) cell ≠ 0 := by simpa using h1
    have e1 : elE (erCls l.cells.xs) cell n = shE (erCls l.cells.xs) cell := by rw [elE, decide_eq_false h1]; rfl
    have e2 : icE (erCls l.cells.xs) cell n reach = shE (erCls l.cells.xs) cell := by rw [icE, e1, decide_eq_false h1]; rfl
    have e3 : icB (erCls l.cells.xs) cell n reach = false := by rw [icB, e2, decide_eq_false h1]; rfl
    rw [e2, e3] at k
    refine WP.seq ?_
    refine WP.region ?_
    refine RG.pv rfl (PV.mvI (.inl rfl) rfl) ?_
    refine RG.pv rfl (PV.mvB (.inr rfl) rfl) ?_
    refine RG.pv rfl (PV.mvI (.inr rfl) rfl) ?_
    refine RG.nil ?_
    refine WP.ret ?_
    exact ⟨_, _, ResV.two rfl rfl rfl, Cv.p, k⟩
  · have h1 : shE (erCls l.cells.xs) cell = 0 := by simpa using h1
    refine WP.seq ?_
    refine WP.region ?_
    refine RG.pv rfl (PV.loadW rfl Ag30 rfl rfl) ?_
    refine RG.pv rfl (PV.mvI (.inl rfl) rfl) ?_
    refine RG.pv rfl (PV.mvI (.inl rfl) rfl) ?_
    refine RG.callF (vs := [_, _, _]) rfl rfl En50 rfl (hasEl_i hL.up (shE_lib h1) ?_)
    refine RG.pv rfl (PV.not rfl rfl) ?_
    refine RG.pv rfl (PV.mvB (.inr rfl) rfl) ?_
    refine RG.nil ?_
    refine WP.cond rfl (fun h2 => ?_) (fun h2 => ?_)
    · have h2 : within n 0 ((elN (erCls l.cells.xs) cell : Int) - 1) = false := by simpa using h2
      have e1 : elE (erCls l.cells.xs) cell n = 5 := by rw [elE, decide_eq_true h1, h2]; rfl
      have e2 : icE (erCls l.cells.xs) cell n reach = 5 := by rw [icE, e1]; rfl
      have e3 : icB (erCls l.cells.xs) cell n reach = false := by rw [icB, e2]; rfl
      rw [e2, e3] at k
      refine WP.seq ?_
      refine WP.region ?_
      refine RG.pv rfl (PV.mvB (.inr rfl) rfl) ?_
      refine RG.pv rfl (PV.mvI (.inr rfl) rfl) ?_
      refine RG.nil ?_
      refine WP.ret ?_
      exact ⟨_, _, ResV.two rfl rfl rfl, Cv.p, k⟩
    · have h2 : within n 0 ((elN (erCls l.cells.xs) cell : Int) - 1) = true := by simpa using h2
      have e1 : elE (erCls l.cells.xs) cell n = 0 := by rw [elE, decide_eq_true h1, h2]; rfl
      refine WP.seq ?_
      refine WP.region ?_
      refine RG.pv rfl (PV.mvI (.inl rfl) rfl) ?_
      refine RG.callF (vs := [_, _, _]) rfl rfl En51 rfl (within_s ?_)
      refine RG.pv rfl (PV.not rfl rfl) ?_
      refine RG.pv rfl (PV.mvB (.inr rfl) rfl) ?_
      refine RG.nil ?_
      refine WP.cond rfl (fun h3 => ?_) (fun h3 => ?_)
      · have h3 : within reach 0 8 = false := by simpa using h3
        have e2 : icE (erCls l.cells.xs) cell n reach = 2 := by rw [icE, e1, h3]; rfl
        have e3 : icB (erCls l.cells.xs) cell n reach = false := by rw [icB, e2]; rfl
        rw [e2, e3] at k
        refine WP.seq ?_
        refine WP.region ?_
        refine RG.pv rfl (PV.mvB (.inr rfl) rfl) ?_
        refine RG.pv rfl (PV.mvI (.inr rfl) rfl) ?_
        refine RG.nil ?_
        refine WP.ret ?_
        exact ⟨_, _, ResV.two rfl rfl rfl, Cv.p, k⟩
      · have h3 : within reach 0 8 = true := by simpa using h3
        have e2 : icE (erCls l.cells.xs) cell n reach = 0 := by rw [icE, e1, h3]; rfl
        have e3 : icB (erCls l.cells.xs) cell n reach = freeB (erCls l.cells.xs) cell n reach := by rw [icB, e2]; rfl
        rw [e2, e3] at k
        refine WP.skip ?_
        refine WP.seq ?_
        refine WP.region ?_
        refine RG.pv rfl (PV.loadW rfl Ag30 rfl rfl) ?_
        refine RG.pv rfl (PV.mvI (.inl rfl) rfl) ?_
        refine RG.pv rfl (PV.mvI (.inl rfl) rfl) ?_
        refine RG.pv rfl (PV.mvI (.inl rfl) rfl) ?_
        refine RG.pv rfl (PV.move (v := w15) rfl rfl) ?_
        refine RG.callF (vs := [_, _, _, _, w15]) rfl rfl En52 rfl (free_i hL.up hlen (AtEl.of h1 h2) (reach_in h3) Rs.o ?_)
        refine RG.pv rfl (PV.mvB (.inr rfl) rfl) ?_
        refine RG.pv rfl (PV.mvI (.inr rfl) rfl) ?_
        refine RG.nil ?_
        refine WP.ret ?_
        exact ⟨_, _, ResV.two rfl rfl rfl, Cv.p, k⟩
theorem elE_at {xs : List Cell} {cell n : Int} (h : elE (erCls xs) cell n = 0) : AtEl xs cell n := by
  obtain ⟨h1, h2, h3⟩ := elE_zero h
  exact ⟨h1, h2, h3⟩
theorem isFree_r {l : Lib} {cell n reach : Int} (hL : RLib G L l.cells.v l.cells.xs) (hlen : lenC (erCls l.cells.xs)) (k : R (.tuple #[.bool (icB (erCls l.cells.xs) cell n reach), vi (icE (erCls l.cells.xs) cell n reach)]) G L) : CallT Tryz.prog 11 #[vT libT l, vi cell, vi n, vi reach] G L R := by
  refine CallT.enter (args := _) Tryz.func11 rfl rfl (by kernel_rfl) rfl ?_
  refine WP.seq ?_
  refine WP.region ?_
  refine RG.ot rfl (OT.box (cs := libT.enc l) rfl rfl rfl fun b4 => ?_)
  refine RG.pv rfl (PV.mvB (.inr rfl) rfl) ?_
  refine RG.pv rfl (PV.mvI (.inr rfl) rfl) ?_
  refine RG.nil ?_
  refine WP.seq ?_
  refine WP.region ?_
  refine RG.pv rfl (PV.loadW rfl Ag30 rfl rfl) ?_
  refine RG.pv rfl (PV.mvI (.inl rfl) rfl) ?_
  refine RG.pv rfl (PV.mvI (.inl rfl) rfl) ?_
  refine RG.callF (vs := [_, _, _]) rfl rfl En45 rfl (l21Code_s hL.up hlen ?_)
  refine RG.pv rfl (PV.mvI (.inr rfl) rfl) ?_
  refine RG.nil ?_
  refine WP.seq ?_
  refine WP.seq ?_
  refine WP.region ?_
  refine RG.pv rfl (PV.mvI (.inl rfl) rfl) ?_
  refine RG.pv rfl (PV.neq rfl rfl rfl) ?_
  refine RG.nil ?_
  refine WP.cond rfl (fun h1 => ?_) (fun h1 => ?_)
  · have h1 : elE (erCls l.cells.xs) cell n ≠ 0 := by simpa using h1
    have e2 : icE (erCls l.cells.xs) cell n reach = elE (erCls l.cells.xs) cell n := by rw [icE, decide_eq_false h1]; rfl
    have e3 : icB (erCls l.cells.xs) cell n reach = false := by rw [icB, e2, decide_eq_false h1]; rfl
    rw [e2, e3] at k
    refine WP.seq ?_
    refine WP.region ?_
    refine RG.pv rfl (PV.mvI (.inl rfl) rfl) ?_
    refine RG.pv rfl (PV.mvB (.inr rfl) rfl) ?_
    refine RG.pv rfl (PV.mvI (.inr rfl) rfl) ?_
    refine RG.nil ?_
    refine WP.ret ?_
    exact ⟨_, _, ResV.two rfl rfl rfl, Cv.p, k⟩
  · have h1 : elE (erCls l.cells.xs) cell n = 0 := by simpa using h1
    refine WP.skip ?_
    refine WP.seq ?_
    refine WP.seq ?_
    refine WP.region ?_
    refine RG.pv rfl (PV.mvI (.inl rfl) rfl) ?_
    refine RG.callF (vs := [_]) rfl rfl En46 rfl (reach21_s ?_)
    refine RG.pv rfl (PV.not rfl rfl) ?_
    refine RG.nil ?_
    refine WP.cond rfl (fun h3 => ?_) (fun h3 => ?_)
    · have h3 : within reach 0 8 = false := by simpa using h3
      have e2 : icE (erCls l.cells.xs) cell n reach = 2 := by rw [icE, h1, h3]; rfl
      have e3 : icB (erCls l.cells.xs) cell n reach = false := by rw [icB, e2]; rfl
      rw [e2, e3] at k
      refine WP.seq ?_
      refine WP.region ?_
      refine RG.pv rfl (PV.mvB (.inr rfl) rfl) ?_
      refine RG.pv rfl (PV.mvI (.inr rfl) rfl) ?_
      refine RG.nil ?_
      refine WP.ret ?_
      exact ⟨_, _, ResV.two rfl rfl rfl, Cv.p, k⟩
    · have h3 : within reach 0 8 = true := by simpa using h3
      have e2 : icE (erCls l.cells.xs) cell n reach = 0 := by rw [icE, h1, h3]; rfl
      have e3 : icB (erCls l.cells.xs) cell n reach = freeB (erCls l.cells.xs) cell n reach := by rw [icB, e2]; rfl
      rw [e2, e3] at k
      refine WP.skip ?_
      refine WP.seq ?_
      refine WP.region ?_
      refine RG.pv rfl (PV.loadW rfl Ag30 rfl rfl) ?_
      refine RG.pv rfl (PV.mvI (.inl rfl) rfl) ?_
      refine RG.pv rfl (PV.mvI (.inl rfl) rfl) ?_
      refine RG.pv rfl (PV.mvI (.inl rfl) rfl) ?_
      refine RG.callF (vs := [_, _, _, _]) rfl rfl En47 rfl (free_r hL.up hlen (elE_at h1) (reach_in h3) ?_)
      refine RG.pv rfl (PV.mvB (.inr rfl) rfl) ?_
      refine RG.pv rfl (PV.mvI (.inr rfl) rfl) ?_
      refine RG.nil ?_
      refine WP.ret ?_
      exact ⟨_, _, ResV.two rfl rfl rfl, Cv.p, k⟩
def cfE (cs : List ECell) (cell reach : Int) : Int := bif decide (shE cs cell = 0) then (bif within reach 0 8 then 0 else 2) else shE cs cell
def cfTo (cs : List ECell) (cell reach : Int) (i : Nat) : List Int := ((List.range i).filter fun n : Nat => freeB cs cell (n : Int) reach).map fun n : Nat => (n : Int)
def cfR (cs : List ECell) (cell reach : Int) : List Int := bif decide (cfE cs cell reach = 0) then cfTo cs cell reach (elN cs cell) else []
theorem cfE_else {cs : List ECell} {cell reach : Int} (h1 : (decide (shE cs cell = 0) && !within reach 0 8) = false) : shE cs cell = cfE cs cell reach := by
  rw [cfE]
  by_cases c : shE cs cell = 0
  · rw [decide_eq_true c, cond_true, c]
    rw [decide_eq_true c, Bool.true_and, Bool.not_eq_false'] at h1
    rw [h1]; rfl
  · rw [decide_eq_false c]; rfl
theorem cfTo_step (cs : List ECell) (cell reach : Int) (i : Nat) : cfTo cs cell reach (i + 1) = cfTo cs cell reach i ++ (if freeB cs cell (i : Int) reach = true then [(i : Int)] else []) := by
  rw [cfTo, cfTo, List.range_succ, List.filter_append, List.map_append]
  by_cases h : freeB cs cell (i : Int) reach = true <;> simp [h]
theorem cfTo_len (cs : List ECell) (cell reach : Int) (i : Nat) : (cfTo cs cell reach i).length ≤ i := by
  rw [cfTo, List.length_map]
  exact Nat.le_trans (List.length_filter_le _ _) (by simp)
theorem allFree_i {l : Lib} {cell reach : Int} (hL : RLib G L l.cells.v l.cells.xs) (hlen : lenC (erCls l.cells.xs)) (k : ∀ v', R (.tuple #[v', vi (cfE (erCls l.cells.xs) cell reach)]) G (osl 2 intT v' (cfR (erCls l.cells.xs) cell reach) :: L)) : CallT Tryz.prog 16 #[vT libT l, vi cell, vi reach] G L R := by
  have hE := erCls_len l.cells.xs
  refine CallT.enter (args := _) Tryz.func16 rfl rfl (by kernel_rfl) rfl ?_
  refine WP.seq ?_
  refine WP.region ?_
  refine RG.ot rfl (OT.box (cs := libT.enc l) rfl rfl rfl fun b3 => ?_)
  refine RG.pv rfl (PV.asg rfl rfl) ?_
  refine RG.pv rfl (PV.mvI (.inr rfl) rfl) ?_
  refine RG.nil ?_
  refine WP.seq ?_
  refine WP.region ?_
  refine RG.pv rfl (PV.loadW rfl Ag30 rfl rfl) ?_
  refine RG.pv rfl (PV.mvI (.inl rfl) rfl) ?_
  refine RG.callF (vs := [_, _]) rfl rfl En49 rfl (rooted_i hL.up hlen (fun w15 => ?_))
  refine RG.pv rfl (PV.move (v := .tuple _) rfl rfl) ?_
  refine RG.pv rfl (PV.ext (v := w15) rfl rfl rfl) ?_
  refine RG.pv rfl (PV.ext rfl rfl rfl) ?_
  refine RG.pv rfl (PV.asg (v := w15) rfl rfl) ?_
  refine RG.pv rfl (PV.mvI (.inr rfl) rfl) ?_
  refine RG.nil ?_
  refine WP.cut1 [1, 2, 3, 8] (fun (q : Int) => q = cfE (erCls l.cells.xs) cell reach) (fun (q : Int) => [(9, vi q)]) (fun (q : Int) => blk b3 30 (libT.enc l) :: osl 139 rshapeT w15 (rootR (erCls l.cells.xs) cell) :: L) ?_ ?_
  refine WP.seq ?_
  refine WP.region ?_
  refine RG.pv rfl (PV.mvI (.inl rfl) rfl) ?_
  refine RG.pv rfl (PV.eql rfl rfl rfl) ?_
  refine RG.pv rfl (PV.mvB (.inl rfl) rfl) ?_
  refine RG.gs rfl rfl rfl (fun hp => (PV.mvI (.inl rfl) rfl)) ?_
  refine RG.gsC rfl rfl rfl rfl En51 (fun hp => ⟨_, (acons (gs_t hp) (acons rfl (acons rfl anil))), within_s ⟨rfl, rfl, rfl⟩⟩) ?_
  refine RG.gs rfl rfl rfl (fun hp => (PV.not rfl (gs_t hp))) ?_
  refine RG.pv rfl (PV.pickA rfl rfl (fun hq => gs_t (geqT hq)) rfl) ?_
  refine RG.nil ?_
  refine WP.cond rfl (fun h1 => ?_) (fun h1 => ?_)
  · have h1 : shE (erCls l.cells.xs) cell = 0 ∧ within reach 0 8 = false := by simpa using h1
    refine WP.region ?_
    refine RG.pv rfl (PV.mvI (.inr rfl) rfl) ?_
    refine RG.nil ?_
    exact ⟨rfl, 2, (by rw [cfE, decide_eq_true h1.1, h1.2]; rfl), ⟨rfl, trivial⟩, ⟨rfl, rfl, rfl, rfl, trivial⟩, Cv.p⟩
  · refine WP.skip ?_
    exact ⟨rfl, (shE (erCls l.cells.xs) cell), (cfE_else h1), ⟨rfl, trivial⟩, ⟨rfl, rfl, rfl, rfl, trivial⟩, Cv.p⟩
  rintro q τ0 hq
  subst hq
  refine WP.seq ?_
  refine WP.seq ?_
  refine WP.region ?_
  refine RG.pv rfl (PV.mvI (.inl rfl) rfl) ?_
  refine RG.pv rfl (PV.neq rfl rfl rfl) ?_
  refine RG.nil ?_
  refine WP.cond rfl (fun h2 => ?_) (fun h2 => ?_)
  · have h2 : cfE (erCls l.cells.xs) cell reach ≠ 0 := by simpa using h2
    have e : cfR (erCls l.cells.xs) cell reach = [] := by rw [cfR, decide_eq_false h2]; rfl
    rw [e] at k
    refine WP.seq ?_
    refine WP.region ?_
    refine RG.pv rfl (PV.mvI (.inl rfl) rfl) ?_
    refine RG.pv rfl (PV.asg rfl rfl) ?_
    refine RG.pv rfl (PV.mvI (.inr rfl) rfl) ?_
    refine RG.nil ?_
    refine WP.ret ?_
    exact ⟨_, _, ResV.two rfl rfl rfl, Cv.p.trans Cv.nilS, k (.slice none 0 0)⟩
  · have h2 : cfE (erCls l.cells.xs) cell reach = 0 := by simpa using h2
    have e : cfR (erCls l.cells.xs) cell reach = cfTo (erCls l.cells.xs) cell reach (elN (erCls l.cells.xs) cell) := by rw [cfR, decide_eq_true h2]; rfl
    obtain ⟨h1, h3⟩ : shE (erCls l.cells.xs) cell = 0 ∧ within reach 0 8 = true := by
      unfold cfE at h2
      by_cases c : shE (erCls l.cells.xs) cell = 0
      · rw [decide_eq_true c, cond_true] at h2
        cases hw : within reach 0 8 with
        | true => exact ⟨c, rfl⟩
        | false => rw [hw] at h2; cases h2
      · rw [decide_eq_false c] at h2; exact absurd h2 c
    rw [e, h2] at k
    have hok := shE_lib h1
    have hce := erCl_insts (xs := l.cells.xs) (i := cell.toNat) (by omega)
    have hns : okNs (gd l.cells.xs cell.toNat).insts.xs := by rw [← hce]; exact okLib_ns hok.1 (by omega)
    have hnn := elN_ns (xs := l.cells.xs) (cell := cell) (by omega)
    have hnb : elN (erCls l.cells.xs) cell ≤ 128 := elems_len_bd hok.1 (by omega)
    refine WP.skip ?_
    refine WP.seq ?_
    refine WP.region ?_
    refine RG.ot rfl (OT.bslice (F := intT) (els := []) rfl El34 rfl (by decide) rfl (by decide) trivial fun v28 => ?_)
    refine RG.pv rfl (PV.asg (v := v28) rfl rfl) ?_
    refine RG.nil ?_
    refine WP.seq ?_
    refine WP.seq ?_
    refine WP.region ?_
    refine RG.pv rfl (PV.field rfl Fo30_0 rfl) ?_
    refine RG.pv rfl (PV.load1 rfl Sc28 rfl (Rd.blk rfl)) ?_
    refine RG.pv rfl (PV.mvI (.inl rfl) rfl) ?_
    refine RG.pv rfl (PV.idxS (j := cell.toNat) rfl Is28 rfl (SlF.r hL.c) rfl (by omega) (by omega)) ?_
    refine RG.pv rfl (PV.loadE rfl Ag85 rfl rfl (El.r hL.c (getG (by omega)))) ?_
    refine RG.callF (vs := [_]) rfl rfl En56 rfl (elems_i (hL.na (by omega)).up hns (fun v34 => ?_))
    refine RG.pv rfl (PV.len (v := v34) rfl Tryz.underlying80 rfl SlF.o) ?_
    refine RG.pv rfl (PV.mvI (.inl rfl) rfl) ?_
    refine RG.nil ?_
    refine WP.block ?_
    refine WP.cv ((Cv.p (C := osl 2 intT v28 [] :: blk b3 30 (libT.enc l) :: osl 139 rshapeT w15 (rootR (erCls l.cells.xs) cell) :: L)).trans (Cv.eqS (ys := cfTo (erCls l.cells.xs) cell reach 0) rfl)) ?_
    refine WP.loop2 [1, 2, 3, 8, 35] (fun (i : Nat) (v : Value) => i ≤ (elems (gd l.cells.xs cell.toNat).insts.xs).length) (fun (i : Nat) (v : Value) => [(36, vi i), (10, v)]) (fun (i : Nat) (v : Value) => osl 2 intT v (cfTo (erCls l.cells.xs) cell reach i) :: blk b3 30 (libT.enc l) :: osl 139 rshapeT w15 (rootR (erCls l.cells.xs) cell) :: L) (fun (i : Nat) (v : Value) => (elems (gd l.cells.xs cell.toNat).insts.xs).length - i) 0 v28 (by omega) ⟨rfl, rfl, trivial⟩ Cv.p ?_
    rintro i v τ hi
    refine WP.seq ?_
    refine WP.region ?_
    refine RG.pv rfl (PV.lss rfl rfl rfl) ?_
    refine RG.nil ?_
    refine WP.seq ?_
    have hcl := cfTo_len (erCls l.cells.xs) cell reach i
    refine WP.cond rfl (fun h4 => ?_) (fun h4 => ?_)
    · have h4 := of_decide_eq_true h4
      have hst := cfTo_step (erCls l.cells.xs) cell reach i
      refine WP.skip ?_
      refine WP.seq ?_
      refine WP.block ?_
      refine WP.seq ?_
      refine WP.region ?_
      refine RG.pv rfl (PV.mvI (.inl rfl) rfl) ?_
      refine RG.pv rfl (PV.mvI (.inr rfl) rfl) ?_
      refine RG.nil ?_
      refine WP.seq ?_
      refine WP.region ?_
      refine RG.pv rfl (PV.loadW rfl Ag30 rfl rfl) ?_
      refine RG.pv rfl (PV.mvI (.inl rfl) rfl) ?_
      refine RG.pv rfl (PV.mvI (.inl rfl) rfl) ?_
      refine RG.pv rfl (PV.mvI (.inl rfl) rfl) ?_
      refine RG.pv rfl (PV.move (v := w15) rfl rfl) ?_
      refine RG.callF (vs := [_, _, _, _, w15]) rfl rfl En52 rfl (free_i hL.up hlen ⟨h1, by omega, by omega⟩ (reach_in h3) Rs.o ?_)
      refine RG.nil ?_
      refine WP.cond rfl (fun h5 => ?_) (fun h5 => ?_)
      · rw [if_pos h5] at hst
        refine WP.region ?_
        refine RG.pv rfl (PV.move (v := v) rfl rfl) ?_
        refine RG.pv rfl (PV.mvI (.inl rfl) rfl) ?_
        refine RG.ot rfl (OT.bslice (F := intT) (els := [_]) rfl El34 rfl (by decide) rfl (by decide) ⟨rfl, (Cl.c rfl), trivial⟩ fun v47 => ?_)
        refine RG.ot rfl (OT.append (v := v) (u := v47) (F := intT) rfl El34 rfl (by decide) rfl rfl Rs.o (OneL.c (fun _ => rfl)) rfl (by first | omega | (simp <;> omega)) fun v48 => ?_)
        refine RG.pv rfl (PV.asg (v := v48) rfl rfl) ?_
        refine RG.nil ?_
        refine WP.region ?_
        refine RG.pv rfl (PV.add rfl rfl rfl (by omega)) ?_
        refine RG.pv rfl (PV.mvI (.inl rfl) rfl) ?_
        refine RG.nil ?_
        exact ⟨rfl, i + 1, v48, (by omega), ⟨rfl, rfl, trivial⟩, ⟨rfl, rfl, rfl, rfl, rfl, trivial⟩, ((Cv.p (C := osl 2 intT v48 (cfTo (erCls l.cells.xs) cell reach i ++ [(i : Int)]) :: blk b3 30 (libT.enc l) :: osl 139 rshapeT w15 (rootR (erCls l.cells.xs) cell) :: L)).trans (Cv.eqS hst.symm)), by omega⟩
      · rw [if_neg (by rw [h5]; decide), List.append_nil] at hst
        refine WP.skip ?_
        refine WP.region ?_
        refine RG.pv rfl (PV.add rfl rfl rfl (by omega)) ?_
        refine RG.pv rfl (PV.mvI (.inl rfl) rfl) ?_
        refine RG.nil ?_
        exact ⟨rfl, i + 1, v, (by omega), ⟨rfl, rfl, trivial⟩, ⟨rfl, rfl, rfl, rfl, rfl, trivial⟩, ((Cv.p (C := osl 2 intT v (cfTo (erCls l.cells.xs) cell reach i) :: blk b3 30 (libT.enc l) :: osl 139 rshapeT w15 (rootR (erCls l.cells.xs) cell) :: L)).trans (Cv.eqS hst.symm)), by omega⟩
    · have h4 := of_decide_eq_false h4
      obtain rfl : i = elN (erCls l.cells.xs) cell := by omega
      refine WP.exit ?_
      refine WP.seq ?_
      refine WP.region ?_
      refine RG.pv rfl (PV.move (v := v) rfl rfl) ?_
      refine RG.pv rfl (PV.asg (v := v) rfl rfl) ?_
      refine RG.pv rfl (PV.mvI (.inr rfl) rfl) ?_
      refine RG.nil ?_
      refine WP.ret ?_
      exact ⟨_, _, ResV.two rfl rfl rfl, Cv.p, k v⟩
theorem allFree_s {l : Lib} {cell reach : Int} (hL : RLib G L l.cells.v l.cells.xs) (hlen : lenC (erCls l.cells.xs)) (h1 : shE (erCls l.cells.xs) cell = 0) (hr : 0 ≤ reach ∧ reach ≤ 8) (k : ∀ v', R v' G (osl 2 intT v' (cfTo (erCls l.cells.xs) cell reach (elN (erCls l.cells.xs) cell)) :: L)) : CallT Tryz.prog 55 #[vT libT l, vi cell, vi reach] G L R := by
  have hE := erCls_len l.cells.xs
  have hok := shE_lib h1
  have hnb : elN (erCls l.cells.xs) cell ≤ 128 := elems_len_bd hok.1 (by omega)
  refine CallT.enter (args := _) Tryz.func55 rfl rfl (by kernel_rfl) rfl ?_
  refine WP.seq ?_
  refine WP.region ?_
  refine RG.ot rfl (OT.box (cs := libT.enc l) rfl rfl rfl fun b3 => ?_)
  refine RG.pv rfl (PV.asg rfl rfl) ?_
  refine RG.nil ?_
  refine WP.seq ?_
  refine WP.region ?_
  refine RG.ot rfl (OT.bslice (F := intT) (els := []) rfl El34 rfl (by decide) rfl (by decide) trivial fun v9 => ?_)
  refine RG.pv rfl (PV.asg (v := v9) rfl rfl) ?_
  refine RG.nil ?_
  refine WP.seq ?_
  refine WP.seq ?_
  refine WP.region ?_
  refine RG.pv rfl (PV.mvI (.inr rfl) rfl) ?_
  refine RG.nil ?_
  refine WP.block ?_
  refine WP.cv (Cv.eqS (ys := cfTo (erCls l.cells.xs) cell reach 0) rfl) ?_
  refine WP.loop2 [1, 2, 3] (fun (i : Nat) (v : Value) => i ≤ elN (erCls l.cells.xs) cell) (fun (i : Nat) (v : Value) => [(8, vi i), (7, v)]) (fun (i : Nat) (v : Value) => osl 2 intT v (cfTo (erCls l.cells.xs) cell reach i) :: blk b3 30 (libT.enc l) :: L) (fun (i : Nat) (v : Value) => elN (erCls l.cells.xs) cell - i) 0 v9 (by omega) ⟨rfl, rfl, trivial⟩ Cv.p ?_
  rintro i v τ hi
  refine WP.seq ?_
  refine WP.seq ?_
  refine WP.region ?_
  refine RG.pv rfl (PV.mvI (.inl rfl) rfl) ?_
  refine RG.pv rfl (PV.loadW rfl Ag30 rfl rfl) ?_
  refine RG.pv rfl (PV.mvI (.inl rfl) rfl) ?_
  refine RG.callF (vs := [_, _]) rfl rfl En63 rfl (l21Elements_s hL.up (shE_lib h1) ?_)
  refine RG.pv rfl (PV.lss rfl rfl rfl) ?_
  refine RG.nil ?_
  have hcl := cfTo_len (erCls l.cells.xs) cell reach i
  refine WP.cond rfl (fun h4 => ?_) (fun h4 => ?_)
  · have h4 := of_decide_eq_true h4
    have hst := cfTo_step (erCls l.cells.xs) cell reach i
    refine WP.skip ?_
    refine WP.seq ?_
    refine WP.block ?_
    refine WP.seq ?_
    refine WP.region ?_
    refine RG.pv rfl (PV.loadW rfl Ag30 rfl rfl) ?_
    refine RG.pv rfl (PV.mvI (.inl rfl) rfl) ?_
    refine RG.pv rfl (PV.mvI (.inl rfl) rfl) ?_
    refine RG.pv rfl (PV.mvI (.inl rfl) rfl) ?_
    refine RG.callF (vs := [_, _, _, _]) rfl rfl En47 rfl (free_r hL.up hlen ⟨h1, by omega, by omega⟩ hr ?_)
    refine RG.nil ?_
    refine WP.cond rfl (fun h5 => ?_) (fun h5 => ?_)
    · rw [if_pos h5] at hst
      refine WP.region ?_
      refine RG.pv rfl (PV.move (v := v) rfl rfl) ?_
      refine RG.pv rfl (PV.mvI (.inl rfl) rfl) ?_
      refine RG.ot rfl (OT.bslice (F := intT) (els := [_]) rfl El34 rfl (by decide) rfl (by decide) ⟨rfl, (Cl.c rfl), trivial⟩ fun v24 => ?_)
      refine RG.ot rfl (OT.append (v := v) (u := v24) (F := intT) rfl El34 rfl (by decide) rfl rfl Rs.o (OneL.c (fun _ => rfl)) rfl (by first | omega | (simp <;> omega)) fun v25 => ?_)
      refine RG.pv rfl (PV.asg (v := v25) rfl rfl) ?_
      refine RG.nil ?_
      refine WP.region ?_
      refine RG.pv rfl (PV.mvI (.inl rfl) rfl) ?_
      refine RG.pv rfl (PV.add rfl rfl rfl (by omega)) ?_
      refine RG.pv rfl (PV.mvI (.inr rfl) rfl) ?_
      refine RG.nil ?_
      exact ⟨rfl, i + 1, v25, (by omega), ⟨rfl, rfl, trivial⟩, ⟨rfl, rfl, rfl, trivial⟩, ((Cv.p (C := osl 2 intT v25 (cfTo (erCls l.cells.xs) cell reach i ++ [(i : Int)]) :: blk b3 30 (libT.enc l) :: L)).trans (Cv.eqS hst.symm)), by omega⟩
    · rw [if_neg (by rw [h5]; decide), List.append_nil] at hst
      refine WP.skip ?_
      refine WP.region ?_
      refine RG.pv rfl (PV.mvI (.inl rfl) rfl) ?_
      refine RG.pv rfl (PV.add rfl rfl rfl (by omega)) ?_
      refine RG.pv rfl (PV.mvI (.inr rfl) rfl) ?_
      refine RG.nil ?_
      exact ⟨rfl, i + 1, v, (by omega), ⟨rfl, rfl, trivial⟩, ⟨rfl, rfl, rfl, trivial⟩, ((Cv.p (C := osl 2 intT v (cfTo (erCls l.cells.xs) cell reach i) :: blk b3 30 (libT.enc l) :: L)).trans (Cv.eqS hst.symm)), by omega⟩
  · have h4 := of_decide_eq_false h4
    obtain rfl : i = elN (erCls l.cells.xs) cell := by omega
    refine WP.exit ?_
    refine WP.seq ?_
    refine WP.region ?_
    refine RG.pv rfl (PV.move (v := v) rfl rfl) ?_
    refine RG.pv rfl (PV.asg (v := v) rfl rfl) ?_
    refine RG.nil ?_
    refine WP.ret ?_
    exact ⟨_, _, ResV.one rfl rfl, Cv.p, k v⟩
theorem allFree_r {l : Lib} {cell reach : Int} (hL : RLib G L l.cells.v l.cells.xs) (hlen : lenC (erCls l.cells.xs)) (k : ∀ v', R (.tuple #[v', vi (cfE (erCls l.cells.xs) cell reach)]) G (osl 2 intT v' (cfR (erCls l.cells.xs) cell reach) :: L)) : CallT Tryz.prog 15 #[vT libT l, vi cell, vi reach] G L R := by
  refine CallT.enter (args := _) Tryz.func15 rfl rfl (by kernel_rfl) rfl ?_
  refine WP.seq ?_
  refine WP.region ?_
  refine RG.ot rfl (OT.box (cs := libT.enc l) rfl rfl rfl fun b3 => ?_)
  refine RG.pv rfl (PV.asg rfl rfl) ?_
  refine RG.pv rfl (PV.mvI (.inr rfl) rfl) ?_
  refine RG.nil ?_
  refine WP.seq ?_
  refine WP.region ?_
  refine RG.pv rfl (PV.loadW rfl Ag30 rfl rfl) ?_
  refine RG.pv rfl (PV.mvI (.inl rfl) rfl) ?_
  refine RG.callF (vs := [_, _]) rfl rfl En54 rfl (flat_r hL.up hlen (fun w13 => ?_))
  refine RG.pv rfl (PV.move (v := .tuple _) rfl rfl) ?_
  refine RG.pv rfl (PV.ext (v := w13) rfl rfl rfl) ?_
  refine RG.pv rfl (PV.ext rfl rfl rfl) ?_
  refine RG.pv rfl (PV.asg (v := w13) rfl rfl) ?_
  refine RG.pv rfl (PV.mvI (.inr rfl) rfl) ?_
  refine RG.nil ?_
  refine WP.seq ?_
  refine WP.seq ?_
  refine WP.region ?_
  refine RG.pv rfl (PV.mvI (.inl rfl) rfl) ?_
  refine RG.pv rfl (PV.neq rfl rfl rfl) ?_
  refine RG.nil ?_
  refine WP.cond rfl (fun h1 => ?_) (fun h1 => ?_)
  · have h1 : shE (erCls l.cells.xs) cell ≠ 0 := by simpa using h1
    have e1 : cfE (erCls l.cells.xs) cell reach = shE (erCls l.cells.xs) cell := by rw [cfE, decide_eq_false h1]; rfl
    have e : cfR (erCls l.cells.xs) cell reach = [] := by rw [cfR, e1, decide_eq_false h1]; rfl
    rw [e, e1] at k
    refine WP.seq ?_
    refine WP.region ?_
    refine RG.pv rfl (PV.mvI (.inl rfl) rfl) ?_
    refine RG.pv rfl (PV.asg rfl rfl) ?_
    refine RG.pv rfl (PV.mvI (.inr rfl) rfl) ?_
    refine RG.nil ?_
    refine WP.ret ?_
    exact ⟨_, _, ResV.two rfl rfl rfl, Cv.p.trans Cv.nilS, k (.slice none 0 0)⟩
  · have h1 : shE (erCls l.cells.xs) cell = 0 := by simpa using h1
    refine WP.skip ?_
    refine WP.seq ?_
    refine WP.seq ?_
    refine WP.region ?_
    refine RG.pv rfl (PV.mvI (.inl rfl) rfl) ?_
    refine RG.callF (vs := [_]) rfl rfl En46 rfl (reach21_s ?_)
    refine RG.pv rfl (PV.not rfl rfl) ?_
    refine RG.nil ?_
    refine WP.cond rfl (fun h3 => ?_) (fun h3 => ?_)
    · have h3 : within reach 0 8 = false := by simpa using h3
      have e1 : cfE (erCls l.cells.xs) cell reach = 2 := by rw [cfE, decide_eq_true h1, h3]; rfl
      have e : cfR (erCls l.cells.xs) cell reach = [] := by rw [cfR, e1]; rfl
      rw [e, e1] at k
      refine WP.seq ?_
      refine WP.region ?_
      refine RG.pv rfl (PV.asg rfl rfl) ?_
      refine RG.pv rfl (PV.mvI (.inr rfl) rfl) ?_
      refine RG.nil ?_
      refine WP.ret ?_
      exact ⟨_, _, ResV.two rfl rfl rfl, Cv.p.trans Cv.nilS, k (.slice none 0 0)⟩
    · have h3 : within reach 0 8 = true := by simpa using h3
      have e1 : cfE (erCls l.cells.xs) cell reach = 0 := by rw [cfE, decide_eq_true h1, h3]; rfl
      have e : cfR (erCls l.cells.xs) cell reach = cfTo (erCls l.cells.xs) cell reach (elN (erCls l.cells.xs) cell) := by rw [cfR, e1]; rfl
      rw [e, e1] at k
      refine WP.skip ?_
      refine WP.seq ?_
      refine WP.region ?_
      refine RG.pv rfl (PV.loadW rfl Ag30 rfl rfl) ?_
      refine RG.pv rfl (PV.mvI (.inl rfl) rfl) ?_
      refine RG.pv rfl (PV.mvI (.inl rfl) rfl) ?_
      refine RG.callF (vs := [_, _, _]) rfl rfl En55 rfl (allFree_s hL.up hlen h1 (reach_in h3) (fun v25 => ?_))
      refine RG.pv rfl (PV.asg (v := v25) rfl rfl) ?_
      refine RG.pv rfl (PV.mvI (.inr rfl) rfl) ?_
      refine RG.nil ?_
      refine WP.ret ?_
      exact ⟨_, _, ResV.two rfl rfl rfl, Cv.p, k v25⟩
end Go.Proofs.YtbkaincaahcnfaaGreat
namespace Go.Proofs.YtbkaincaahcnfaaGreat
set_option linter.unusedVariables false
set_option linter.unusedSimpArgs false
open Go
set_option maxRecDepth 20000
set_option linter.unusedSimpArgs false
variable {G : Gh} {L : List Ch} {R : Value → Gh → List Ch → Prop}
theorem eqInt_s {v u : Value} {xs ys : List Int} (h1 : Rs G L intT v xs) (h2 : Rs G L intT u ys) (k : R (.bool (decide (xs = ys))) G L) : CallT Tryz.prog 17 #[v, u] G L R := by
  refine CallT.bd h1 fun hb => ?_
  refine CallT.bd h2 fun hb' => ?_
  refine CallT.enter (args := _) Tryz.func17 rfl rfl (by kernel_rfl) rfl ?_
  refine WP.seq ?_
  refine WP.region ?_
  refine RG.pv rfl (PV.mvB (.inr rfl) rfl) ?_
  refine RG.nil ?_
  refine WP.seq ?_
  refine WP.seq ?_
  refine WP.region ?_
  refine RG.pv rfl (PV.move (v := v) rfl rfl) ?_
  refine RG.pv rfl (PV.len (v := v) rfl Tryz.underlying34 rfl (SlF.r h1)) ?_
  refine RG.pv rfl (PV.move (v := u) rfl rfl) ?_
  refine RG.pv rfl (PV.len (v := u) rfl Tryz.underlying34 rfl (SlF.r h2)) ?_
  refine RG.pv rfl (PV.neq rfl rfl rfl) ?_
  refine RG.nil ?_
  refine WP.cond rfl (fun h3 => ?_) (fun h3 => ?_)
  · have e : decide (xs = ys) = false := by
      rw [decide_eq_false_iff_not]; rintro rfl; simp at h3
    rw [e] at k
    refine WP.seq ?_
    refine WP.region ?_
    refine RG.pv rfl (PV.mvB (.inr rfl) rfl) ?_
    refine RG.nil ?_
    refine WP.ret ?_
    exact ⟨_, _, ResV.one rfl rfl, Cv.p, k⟩
  · have hl : xs.length = ys.length := by simp at h3; omega
    refine WP.skip ?_
    refine WP.seq ?_
    refine WP.seq ?_
    refine WP.region ?_
    refine RG.pv rfl (PV.mvI (.inr rfl) rfl) ?_
    refine RG.nil ?_
    refine WP.block ?_
    refine WP.loop1 [0, 1] (fun i => i ≤ xs.length ∧ ∀ j, j < i → xs[j]? = ys[j]?) (fun i => [(5, vi i)]) (fun i => L) (fun i => xs.length - i) 0 ⟨by omega, fun j h => by omega⟩ ⟨rfl, trivial⟩ Cv.p ?_
    rintro i τ ⟨hi, he⟩
    refine WP.seq ?_
    refine WP.seq ?_
    refine WP.region ?_
    refine RG.pv rfl (PV.mvI (.inl rfl) rfl) ?_
    refine RG.pv rfl (PV.move (v := v) rfl rfl) ?_
    refine RG.pv rfl (PV.len (v := v) rfl Tryz.underlying34 rfl (SlF.r h1)) ?_
    refine RG.pv rfl (PV.lss rfl rfl rfl) ?_
    refine RG.nil ?_
    refine WP.cond rfl (fun h4 => ?_) (fun h4 => ?_)
    · have h4 := of_decide_eq_true h4
      have h5 : i < xs.length := by omega
      refine WP.skip ?_
      refine WP.seq ?_
      refine WP.block ?_
      refine WP.seq ?_
      refine WP.regionQ (by kernel_rfl) (by kernel_rfl) ?_
      refine RQ.pv rfl (PV.move (v := v) rfl rfl) ?_
      refine RQ.pv rfl (PV.mvI (.inl rfl) rfl) ?_
      refine RQ.pv rfl (PV.idxS (v := v) rfl Is34 rfl (SlF.r h1) rfl rfl (by omega)) ?_
      refine RQ.pv rfl (PV.loadE1 rfl Sc2 rfl rfl (El.r h1 (getG (by omega))) rfl) ?_
      refine RQ.pv rfl (PV.move (v := u) rfl rfl) ?_
      refine RQ.pv rfl (PV.mvI (.inl rfl) rfl) ?_
      refine RQ.pv rfl (PV.idxS (v := u) rfl Is34 rfl (SlF.r h2) rfl rfl (by omega)) ?_
      refine RQ.pv rfl (PV.loadE1 rfl Sc2 rfl rfl (El.r h2 (getG (by omega))) rfl) ?_
      refine RQ.pv rfl (PV.neq rfl rfl rfl) ?_
      refine RQ.nil ?_
      refine WP.cond rfl (fun h6 => ?_) (fun h6 => ?_)
      · have e : decide (xs = ys) = false := by
          rw [decide_eq_false_iff_not]; rintro rfl; simp at h6
        rw [e] at k
        refine WP.seq ?_
        refine WP.region ?_
        refine RG.pv rfl (PV.mvB (.inr rfl) rfl) ?_
        refine RG.nil ?_
        refine WP.ret ?_
        exact ⟨_, _, ResV.one rfl rfl, Cv.p, k⟩
      · have e : gd xs i = gd ys i := by simpa using h6
        have he' : ∀ j, j < i + 1 → xs[j]? = ys[j]? := fun j h => by
          by_cases c : j = i
          · rw [c, getG h5, getG (show i < ys.length by omega), e]
          · exact he j (by omega)
        refine WP.skip ?_
        refine WP.region ?_
        refine RG.pv rfl (PV.mvI (.inl rfl) rfl) ?_
        refine RG.pv rfl (PV.add rfl rfl rfl (by omega)) ?_
        refine RG.pv rfl (PV.mvI (.inr rfl) rfl) ?_
        refine RG.nil ?_
        exact ⟨rfl, i + 1, ⟨by omega, he'⟩, ⟨rfl, trivial⟩, ⟨rfl, rfl, trivial⟩, Cv.p, by omega⟩
    · have h4 := of_decide_eq_false h4
      have e : decide (xs = ys) = true := by
        rw [decide_eq_true_iff]; exact pre_eq he hl (by omega)
      rw [e] at k
      refine WP.exit ?_
      refine WP.seq ?_
      refine WP.region ?_
      refine RG.pv rfl (PV.mvB (.inr rfl) rfl) ?_
      refine RG.nil ?_
      refine WP.ret ?_
      exact ⟨_, _, ResV.one rfl rfl, Cv.p, k⟩
def mkI (_ k : Int) : Int := k
def nI (_ : Int) : Int := 1
theorem nI_cost (xs : List Int) : costL nI xs = 1 * xs.length := costL_const 1 xs
theorem mkI_at {xs : List Int} {i : Nat} {k0 kk : Int} (h : i < xs.length) (e : kk = k0 + i) : mkI (gd xs i) (k0 + costL nI (xs.take i)) = kk := by
  rw [mkI, nI_cost, List.length_take, Nat.min_eq_left (by omega), e]; omega
theorem markInt_s {v : Value} {xs : List Int} {k0 : Int} (hk : 0 ≤ k0) (hb : k0 + costL nI xs ≤ 4611686018427387904) (k : R (vi (k0 + costL nI xs)) G (osl 2 intT v (markL mkI nI xs k0) :: L)) : CallT Tryz.prog 19 #[v, vi k0] G (osl 2 intT v xs :: L) R := by
  have hc := nI_cost xs
  refine CallT.cv (Cv.eqS (markTo_zero (mk := mkI) (n := nI) (k := k0)).symm) ?_
  refine CallT.enter (args := _) Tryz.func19 rfl rfl (by kernel_rfl) rfl ?_
  refine WP.seq ?_
  refine WP.region ?_
  refine RG.pv rfl (PV.mvI (.inr rfl) rfl) ?_
  refine RG.nil ?_
  refine WP.seq ?_
  refine WP.seq ?_
  refine WP.region ?_
  refine RG.pv rfl (PV.mvI (.inr rfl) rfl) ?_
  refine RG.nil ?_
  refine WP.block ?_
  refine WP.loop2 [0] (fun (i : Nat) (kk : Int) => i ≤ xs.length ∧ kk = k0 + i) (fun (i : Nat) (kk : Int) => [(5, vi i), (1, vi kk)]) (fun (i : Nat) (kk : Int) => osl 2 intT v (markTo mkI nI xs k0 i) :: L) (fun (i : Nat) (kk : Int) => xs.length - i) 0 k0 ⟨by omega, by omega⟩ ⟨rfl, rfl, trivial⟩ Cv.p ?_
  rintro i kk τ ⟨hi, hkk⟩
  refine WP.seq ?_
  refine WP.seq ?_
  refine WP.region ?_
  refine RG.pv rfl (PV.mvI (.inl rfl) rfl) ?_
  refine RG.pv rfl (PV.move (v := v) rfl rfl) ?_
  refine RG.pv rfl (PV.len (v := v) rfl Tryz.underlying34 rfl SlF.o) ?_
  refine RG.pv rfl (PV.lss rfl rfl rfl) ?_
  refine RG.nil ?_
  have hml := markTo_len (mk := mkI) (n := nI) (k := k0) hi
  refine WP.cond rfl (fun h1 => ?_) (fun h1 => ?_)
  · have h1 := of_decide_eq_true h1
    have h2 : i < xs.length := by omega
    refine WP.skip ?_
    refine WP.seq ?_
    refine WP.block ?_
    refine WP.seq ?_
    refine WP.region ?_
    refine RG.pv rfl (PV.move (v := v) rfl rfl) ?_
    refine RG.pv rfl (PV.mvI (.inl rfl) rfl) ?_
    refine RG.pv rfl (PV.mvI (.inl rfl) rfl) ?_
    refine RG.pv rfl (PV.idxS (v := v) rfl Is34 rfl SlF.o rfl rfl (by omega)) ?_
    refine RG.ot rfl (OT.storeE (F := intT) rfl Sz2 rfl rfl rfl (Cl.c rfl) (OneC.c rfl) (by omega) ?_)
    refine RG.nil ?_
    refine WP.region ?_
    refine RG.pv rfl (PV.mvI (.inl rfl) rfl) ?_
    refine RG.pv rfl (PV.add rfl rfl rfl (by omega)) ?_
    refine RG.pv rfl (PV.mvI (.inr rfl) rfl) ?_
    refine RG.nil ?_
    refine WP.region ?_
    refine RG.pv rfl (PV.mvI (.inl rfl) rfl) ?_
    refine RG.pv rfl (PV.add rfl rfl rfl (by omega)) ?_
    refine RG.pv rfl (PV.mvI (.inr rfl) rfl) ?_
    refine RG.nil ?_
    exact ⟨rfl, i + 1, _, ⟨by omega, by omega⟩, ⟨rfl, rfl, trivial⟩, ⟨rfl, trivial⟩, (Cv.eqS (by rw [← markTo_set h2, mkI_at h2 hkk])), by omega⟩
  · have h1 := of_decide_eq_false h1
    have e : kk = k0 + costL nI xs := by omega
    rw [← e] at k
    refine WP.exit ?_
    refine WP.seq ?_
    refine WP.region ?_
    refine RG.pv rfl (PV.mvI (.inl rfl) rfl) ?_
    refine RG.pv rfl (PV.mvI (.inr rfl) rfl) ?_
    refine RG.nil ?_
    refine WP.ret ?_
    exact ⟨_, _, ResV.one rfl rfl, (Cv.eqS (markTo_all (by omega))), k⟩
theorem heldInt_s {v : Value} {xs : List Int} {k0 : Int} (h0 : Rs G L intT v (markL mkI nI xs k0)) (hk : 0 ≤ k0) (hb : k0 + costL nI xs ≤ 4611686018427387904) (k : R (vi (k0 + costL nI xs)) G L) : CallT Tryz.prog 20 #[v, vi k0] G L R := by
  have hc := nI_cost xs
  have hml := markL_len mkI nI xs k0
  refine CallT.enter (args := _) Tryz.func20 rfl rfl (by kernel_rfl) rfl ?_
  refine WP.seq ?_
  refine WP.region ?_
  refine RG.pv rfl (PV.mvI (.inr rfl) rfl) ?_
  refine RG.nil ?_
  refine WP.seq ?_
  refine WP.seq ?_
  refine WP.region ?_
  refine RG.pv rfl (PV.mvI (.inr rfl) rfl) ?_
  refine RG.nil ?_
  refine WP.block ?_
  refine WP.loop2 [0] (fun (i : Nat) (kk : Int) => i ≤ xs.length ∧ kk = k0 + i) (fun (i : Nat) (kk : Int) => [(5, vi i), (1, vi kk)]) (fun (i : Nat) (kk : Int) => L) (fun (i : Nat) (kk : Int) => xs.length - i) 0 k0 ⟨by omega, by omega⟩ ⟨rfl, rfl, trivial⟩ Cv.p ?_
  rintro i kk τ ⟨hi, hkk⟩
  refine WP.seq ?_
  refine WP.seq ?_
  refine WP.region ?_
  refine RG.pv rfl (PV.mvI (.inl rfl) rfl) ?_
  refine RG.pv rfl (PV.move (v := v) rfl rfl) ?_
  refine RG.pv rfl (PV.len (v := v) rfl Tryz.underlying34 rfl (SlF.r h0)) ?_
  refine RG.pv rfl (PV.lss rfl rfl rfl) ?_
  refine RG.nil ?_
  refine WP.cond rfl (fun h1 => ?_) (fun h1 => ?_)
  · have h1 := of_decide_eq_true h1
    have h2 : i < xs.length := by omega
    have hg : gd (markL mkI nI xs k0) i = kk := by rw [gd_mark h2, mkI_at h2 hkk]
    refine WP.skip ?_
    refine WP.seq ?_
    refine WP.block ?_
    refine WP.seq ?_
    refine WP.seq ?_
    refine WP.region ?_
    refine RG.pv rfl (PV.move (v := v) rfl rfl) ?_
    refine RG.pv rfl (PV.mvI (.inl rfl) rfl) ?_
    refine RG.pv rfl (PV.idxS (v := v) rfl Is34 rfl (SlF.r h0) rfl rfl (by omega)) ?_
    refine RG.pv rfl (PV.loadE1 rfl Sc2 rfl rfl (El.r h0 (getG (by omega))) rfl) ?_
    refine RG.pv rfl (PV.mvI (.inl rfl) rfl) ?_
    refine RG.pv rfl (PV.neq rfl rfl rfl) ?_
    refine RG.nil ?_
    refine WP.cond rfl (fun h3 => ?_) (fun h3 => ?_)
    · simp [hg] at h3
    · refine WP.skip ?_
      refine WP.region ?_
      refine RG.pv rfl (PV.mvI (.inl rfl) rfl) ?_
      refine RG.pv rfl (PV.add rfl rfl rfl (by omega)) ?_
      refine RG.pv rfl (PV.mvI (.inr rfl) rfl) ?_
      refine RG.nil ?_
      refine WP.region ?_
      refine RG.pv rfl (PV.mvI (.inl rfl) rfl) ?_
      refine RG.pv rfl (PV.add rfl rfl rfl (by omega)) ?_
      refine RG.pv rfl (PV.mvI (.inr rfl) rfl) ?_
      refine RG.nil ?_
      exact ⟨rfl, i + 1, _, ⟨by omega, by omega⟩, ⟨rfl, rfl, trivial⟩, ⟨rfl, trivial⟩, Cv.p, by omega⟩
  · have h1 := of_decide_eq_false h1
    have e : kk = k0 + costL nI xs := by omega
    rw [← e] at k
    refine WP.exit ?_
    refine WP.seq ?_
    refine WP.region ?_
    refine RG.pv rfl (PV.mvI (.inl rfl) rfl) ?_
    refine RG.pv rfl (PV.mvI (.inr rfl) rfl) ?_
    refine RG.nil ?_
    refine WP.ret ?_
    exact ⟨_, _, ResV.one rfl rfl, Cv.p, k⟩
end Go.Proofs.YtbkaincaahcnfaaGreat
namespace Go.Proofs.YtbkaincaahcnfaaGreat
set_option linter.unusedVariables false
set_option linter.unusedSimpArgs false
open Go
set_option maxRecDepth 20000
set_option maxHeartbeats 1000000
set_option linter.unusedSimpArgs false
variable {G : Gh} {L : List Ch} {R : Value → Gh → List Ch → Prop}
theorem law_IsContextFree {l : Lib} {cell n reach : Int} (hA : RLib G L l.cells.v l.cells.xs) (hlen : lenC (erCls l.cells.xs)) (k : R (.bool true) G L) : CallT Tryz.prog 3 #[vT libT l, vi cell, vi n, vi reach] G L R := by
  refine CallT.enter (args := _) Tryz.func3 rfl rfl (by kernel_rfl) rfl ?_
  refine WP.seq ?_
  refine WP.region ?_
  refine RG.ot rfl (OT.box (cs := libT.enc l) rfl rfl rfl fun b4 => ?_)
  refine RG.pv rfl (PV.mvB (.inr rfl) rfl) ?_
  refine RG.nil ?_
  refine WP.seq ?_
  refine WP.region ?_
  refine RG.pv rfl (PV.mvI (.inr rfl) rfl) ?_
  refine RG.nil ?_
  refine WP.seq ?_
  refine WP.region ?_
  refine RG.pv rfl (PV.loadW rfl Ag24 rfl rfl) ?_
  refine RG.pv rfl (PV.mvI (.inl rfl) rfl) ?_
  refine RG.callF (vs := [_, _]) rfl rfl En10 rfl (szLib_s hA.up hlen (by omega) (by omega) (fun r hr => ?_))
  refine RG.pv rfl (PV.mvI (.inr rfl) rfl) ?_
  refine RG.nil ?_
  refine WP.seq ?_
  refine WP.seq ?_
  refine WP.region ?_
  refine RG.pv rfl (PV.mvI (.inl rfl) rfl) ?_
  refine RG.pv rfl (PV.lss rfl rfl rfl) ?_
  refine RG.nil ?_
  refine WP.cond rfl (fun h2 => ?_) (fun h2 => ?_)
  · refine WP.seq ?_
    refine WP.region ?_
    refine RG.pv rfl (PV.mvB (.inr rfl) rfl) ?_
    refine RG.nil ?_
    refine WP.ret ?_
    exact ⟨_, _, ResV.one rfl rfl, Cv.p, k⟩
  · have h2 := of_decide_eq_false h2
    have hf := hr (by omega)
    refine WP.skip ?_
    refine WP.seq ?_
    refine WP.region ?_
    refine RG.pv rfl (PV.loadW rfl Ag24 rfl rfl) ?_
    refine RG.callF (vs := [_]) rfl rfl En12 rfl (toLib_s hA.up hf (fun w22 ysw22 hew22 => ?_))
    refine RG.pv rfl (PV.mvI (.inl rfl) rfl) ?_
    refine RG.pv rfl (PV.mvI (.inl rfl) rfl) ?_
    refine RG.pv rfl (PV.mvI (.inl rfl) rfl) ?_
    refine RG.callF (vs := [_, _, _, _]) rfl rfl En11 rfl (isFree_r (l := ⟨⟨w22, ysw22⟩⟩) ⟨Rs.o, RsE.o, RsE.o, RsE.o⟩ (by rw [hew22]; exact hlen) ?_)
    refine RG.pv rfl (PV.move rfl rfl) ?_
    refine RG.pv rfl (PV.ext rfl rfl rfl) ?_
    refine RG.pv rfl (PV.ext rfl rfl rfl) ?_
    refine RG.pv rfl (PV.mvB (.inr rfl) rfl) ?_
    refine RG.pv rfl (PV.mvI (.inr rfl) rfl) ?_
    refine RG.nil ?_
    refine WP.seq ?_
    refine WP.region ?_
    refine RG.pv rfl (PV.loadW rfl Ag24 rfl rfl) ?_
    refine RG.callF (vs := [_]) rfl rfl En12 rfl (toLib_s hA.up hf (fun w30 ysw30 hew30 => ?_))
    refine RG.ot rfl (OT.alloc rfl Zr30 fun b12 => ?_)
    refine RG.ot rfl (OT.storeW (vs := [_]) rfl Sz30 rfl rfl (Cl.c rfl) rfl rfl (OneC.sl (SlF.o (v := w30)) OneC.nil) ?_)
    refine RG.nil ?_
    refine WP.seq ?_
    refine WP.region ?_
    refine RG.pv rfl (PV.loadW rfl Ag30 rfl rfl) ?_
    refine RG.pv rfl (PV.mvI (.inl rfl) rfl) ?_
    refine RG.pv rfl (PV.mvI (.inl rfl) rfl) ?_
    refine RG.pv rfl (PV.mvI (.inl rfl) rfl) ?_
    refine RG.callF (vs := [_, _, _, _]) rfl rfl En13 rfl (isFree_i (l := ⟨⟨w30, ysw30⟩⟩) ⟨Rs.o, RsE.o, RsE.o, RsE.o⟩ (by rw [hew30]; exact hlen) ?_)
    refine RG.pv rfl (PV.move rfl rfl) ?_
    refine RG.pv rfl (PV.ext rfl rfl rfl) ?_
    refine RG.pv rfl (PV.ext rfl rfl rfl) ?_
    refine RG.pv rfl (PV.mvB (.inr rfl) rfl) ?_
    refine RG.pv rfl (PV.mvI (.inr rfl) rfl) ?_
    refine RG.nil ?_
    refine WP.seq ?_
    refine WP.seq ?_
    refine WP.region ?_
    refine RG.pv rfl (PV.mvB (.inl rfl) rfl) ?_
    refine RG.pv rfl (PV.mvB (.inl rfl) rfl) ?_
    refine RG.pv rfl (PV.neqB rfl Tryz.underlying4 rfl rfl) ?_
    refine RG.pv rfl (PV.mvB (.inl rfl) rfl) ?_
    refine RG.gs rfl rfl rfl (fun hp => (PV.mvI (.inl rfl) rfl)) ?_
    refine RG.gs rfl rfl rfl (fun hp => (PV.mvI (.inl rfl) rfl)) ?_
    refine RG.gs rfl rfl rfl (fun hp => (PV.neq rfl (gs_t hp) (gs_t hp))) ?_
    refine RG.pv rfl (PV.pickO rfl rfl rfl (fun hq => gs_t (geqF hq))) ?_
    refine RG.nil ?_
    refine WP.cond rfl (fun h3 => ?_) (fun h3 => ?_)
    · simp [hew22, hew30] at h3
    · refine WP.skip ?_
      refine WP.seq ?_
      refine WP.seq ?_
      refine WP.regionH0 (.q 0 (.q 1 (.l 2 (.l 3 (.q 4 Sch.nil))))) (by kernel_rfl) (by kernel_rfl) (by kernel_rfl) rfl ?_
      refine RH.pv rfl (fun _ _ _ _ h => h) (Gh.le_refl _) PickC.pick rfl (PV.loadW rfl Ag30 rfl rfl) ?_
      refine RH.pv rfl (fun _ _ _ _ h => h) (Gh.le_refl _) PickC.pick rfl (PV.loadW rfl Ag24 rfl rfl) ?_
      refine RH.ot rfl rfl (OT.callF (vs := [_]) rfl En12 rfl (toLib_s hA.up hf (fun w49 ysw49 hew49 => ⟨Gh.le_refl _, PickC.pick, ?_⟩)))
      refine RH.ot rfl rfl (OT.callF (vs := [_, _]) rfl En14 rfl (eqLib_s (l := ⟨⟨w30, ysw30⟩⟩) (m := ⟨⟨w49, ysw49⟩⟩) ⟨Rs.o, RsE.o, RsE.o, RsE.o⟩ ⟨Rs.o, RsE.o, RsE.o, RsE.o⟩ (by rw [hew30, hew49]) ⟨Gh.le_refl _, PickC.pick, ?_⟩))
      refine RH.pv rfl (fun _ _ _ _ h => h) (Gh.le_refl _) PickC.pick rfl (PV.not rfl rfl) ?_
      refine RH.nil ?_
      refine WP.cond rfl (fun h4 => ?_) (fun h4 => ?_)
      · simp at h4
      · refine WP.skip ?_
        refine WP.seq ?_
        refine WP.region ?_
        refine RG.pv rfl (PV.mvB (.inr rfl) rfl) ?_
        refine RG.nil ?_
        refine WP.ret ?_
        exact ⟨_, _, ResV.one rfl rfl, Cv.p, k⟩
theorem cfR_len (cs : List ECell) (cell reach : Int) : (cfR cs cell reach).length ≤ 128 := by
  rw [cfR]
  by_cases h : cfE cs cell reach = 0
  · rw [decide_eq_true h, cond_true]
    have h1 : shE cs cell = 0 := by
      unfold cfE at h
      by_cases c : shE cs cell = 0
      · exact c
      · rw [decide_eq_false c] at h; exact absurd h c
    have := shE_lib h1
    exact Nat.le_trans (cfTo_len _ _ _ _) (elems_len_bd this.1 (by omega))
  · rw [decide_eq_false h]; simp
theorem law_ContextFreeElements {l : Lib} {cell reach : Int} (hA : RLib G L l.cells.v l.cells.xs) (hlen : lenC (erCls l.cells.xs)) (k : R (.bool true) G L) : CallT Tryz.prog 4 #[vT libT l, vi cell, vi reach] G L R := by
  refine CallT.enter (args := _) Tryz.func4 rfl rfl (by kernel_rfl) rfl ?_
  refine WP.seq ?_
  refine WP.region ?_
  refine RG.ot rfl (OT.box (cs := libT.enc l) rfl rfl rfl fun b3 => ?_)
  refine RG.pv rfl (PV.mvB (.inr rfl) rfl) ?_
  refine RG.nil ?_
  refine WP.seq ?_
  refine WP.region ?_
  refine RG.pv rfl (PV.mvI (.inr rfl) rfl) ?_
  refine RG.nil ?_
  refine WP.seq ?_
  refine WP.region ?_
  refine RG.pv rfl (PV.loadW rfl Ag24 rfl rfl) ?_
  refine RG.pv rfl (PV.mvI (.inl rfl) rfl) ?_
  refine RG.callF (vs := [_, _]) rfl rfl En10 rfl (szLib_s hA.up hlen (by omega) (by omega) (fun r hr => ?_))
  refine RG.pv rfl (PV.mvI (.inr rfl) rfl) ?_
  refine RG.nil ?_
  refine WP.seq ?_
  refine WP.seq ?_
  refine WP.region ?_
  refine RG.pv rfl (PV.mvI (.inl rfl) rfl) ?_
  refine RG.pv rfl (PV.lss rfl rfl rfl) ?_
  refine RG.nil ?_
  refine WP.cond rfl (fun h2 => ?_) (fun h2 => ?_)
  · refine WP.seq ?_
    refine WP.region ?_
    refine RG.pv rfl (PV.mvB (.inr rfl) rfl) ?_
    refine RG.nil ?_
    refine WP.ret ?_
    exact ⟨_, _, ResV.one rfl rfl, Cv.p, k⟩
  · have h2 := of_decide_eq_false h2
    have hf := hr (by omega)
    have hcr := cfR_len (erCls l.cells.xs) cell reach
    have hcc : costL nI (cfR (erCls l.cells.xs) cell reach) = (cfR (erCls l.cells.xs) cell reach).length := by rw [nI_cost]; omega
    refine WP.skip ?_
    refine WP.seq ?_
    refine WP.region ?_
    refine RG.pv rfl (PV.loadW rfl Ag24 rfl rfl) ?_
    refine RG.callF (vs := [_]) rfl rfl En12 rfl (toLib_s hA.up hf (fun w25 ysw25 hew25 => ?_))
    refine RG.pv rfl (PV.mvI (.inl rfl) rfl) ?_
    refine RG.pv rfl (PV.mvI (.inl rfl) rfl) ?_
    refine RG.callF (vs := [_, _, _]) rfl rfl En15 rfl (allFree_r (l := ⟨⟨w25, ysw25⟩⟩) ⟨Rs.o, RsE.o, RsE.o, RsE.o⟩ (by rw [hew25]; exact hlen) (fun w28 => ?_))
    refine RG.pv rfl (PV.move (v := .tuple _) rfl rfl) ?_
    refine RG.pv rfl (PV.ext (v := w28) rfl rfl rfl) ?_
    refine RG.pv rfl (PV.ext rfl rfl rfl) ?_
    refine RG.pv rfl (PV.asg (v := w28) rfl rfl) ?_
    refine RG.pv rfl (PV.mvI (.inr rfl) rfl) ?_
    refine RG.nil ?_
    refine WP.seq ?_
    refine WP.region ?_
    refine RG.pv rfl (PV.loadW rfl Ag24 rfl rfl) ?_
    refine RG.callF (vs := [_]) rfl rfl En12 rfl (toLib_s hA.up hf (fun w32 ysw32 hew32 => ?_))
    refine RG.ot rfl (OT.alloc rfl Zr30 fun b10 => ?_)
    refine RG.ot rfl (OT.storeW (vs := [_]) rfl Sz30 rfl rfl (Cl.c rfl) rfl rfl (OneC.sl (SlF.o (v := w32)) OneC.nil) ?_)
    refine RG.nil ?_
    refine WP.seq ?_
    refine WP.region ?_
    refine RG.pv rfl (PV.loadW rfl Ag30 rfl rfl) ?_
    refine RG.pv rfl (PV.mvI (.inl rfl) rfl) ?_
    refine RG.pv rfl (PV.mvI (.inl rfl) rfl) ?_
    refine RG.callF (vs := [_, _, _]) rfl rfl En16 rfl (allFree_i (l := ⟨⟨w32, ysw32⟩⟩) ⟨Rs.o, RsE.o, RsE.o, RsE.o⟩ (by rw [hew32]; exact hlen) (fun w37 => ?_))
    refine RG.pv rfl (PV.move (v := .tuple _) rfl rfl) ?_
    refine RG.pv rfl (PV.ext (v := w37) rfl rfl rfl) ?_
    refine RG.pv rfl (PV.ext rfl rfl rfl) ?_
    refine RG.pv rfl (PV.asg (v := w37) rfl rfl) ?_
    refine RG.pv rfl (PV.mvI (.inr rfl) rfl) ?_
    refine RG.nil ?_
    refine WP.seq ?_
    refine WP.seq ?_
    refine WP.region ?_
    refine RG.pv rfl (PV.move (v := w37) rfl rfl) ?_
    refine RG.pv rfl (PV.move (v := w28) rfl rfl) ?_
    refine RG.callF (vs := [w37, w28]) rfl rfl En17 rfl (eqInt_s Rs.o Rs.o ?_)
    refine RG.pv rfl (PV.not rfl rfl) ?_
    refine RG.pv rfl (PV.mvB (.inl rfl) rfl) ?_
    refine RG.gs rfl rfl rfl (fun hp => (PV.mvI (.inl rfl) rfl)) ?_
    refine RG.gs rfl rfl rfl (fun hp => (PV.mvI (.inl rfl) rfl)) ?_
    refine RG.gs rfl rfl rfl (fun hp => (PV.neq rfl (gs_t hp) (gs_t hp))) ?_
    refine RG.pv rfl (PV.pickO rfl rfl rfl (fun hq => gs_t (geqF hq))) ?_
    refine RG.nil ?_
    rw [hew25, hew32]
    refine WP.cond rfl (fun h3 => ?_) (fun h3 => ?_)
    · simp at h3
    · refine WP.skip ?_
      refine WP.seq ?_
      refine WP.seq ?_
      refine WP.regionH0 (.q 0 (.q 1 (.l 2 (.l 3 (.q 4 Sch.nil))))) (by kernel_rfl) (by kernel_rfl) (by kernel_rfl) rfl ?_
      refine RH.pv rfl (fun _ _ _ _ h => h) (Gh.le_refl _) PickC.pick rfl (PV.loadW rfl Ag30 rfl rfl) ?_
      refine RH.pv rfl (fun _ _ _ _ h => h) (Gh.le_refl _) PickC.pick rfl (PV.loadW rfl Ag24 rfl rfl) ?_
      refine RH.ot rfl rfl (OT.callF (vs := [_]) rfl En12 rfl (toLib_s hA.up hf (fun w51 ysw51 hew51 => ⟨Gh.le_refl _, PickC.pick, ?_⟩)))
      refine RH.ot rfl rfl (OT.callF (vs := [_, _]) rfl En14 rfl (eqLib_s (l := ⟨⟨w32, ysw32⟩⟩) (m := ⟨⟨w51, ysw51⟩⟩) ⟨Rs.o, RsE.o, RsE.o, RsE.o⟩ ⟨Rs.o, RsE.o, RsE.o, RsE.o⟩ (by rw [hew32, hew51]) ⟨Gh.le_refl _, PickC.pick, ?_⟩))
      refine RH.pv rfl (fun _ _ _ _ h => h) (Gh.le_refl _) PickC.pick rfl (PV.not rfl rfl) ?_
      refine RH.nil ?_
      refine WP.cond rfl (fun h4 => ?_) (fun h4 => ?_)
      · simp at h4
      · refine WP.skip ?_
        refine WP.seq ?_
        refine WP.region ?_
        refine RG.pv rfl (PV.mvI (.inr rfl) rfl) ?_
        refine RG.nil ?_
        refine WP.seq ?_
        refine WP.region ?_
        refine RG.pv rfl (PV.loadW rfl Ag30 rfl rfl) ?_
        refine RG.pv rfl (PV.mvI (.inl rfl) rfl) ?_
        refine RG.callF (vs := [_, _]) rfl rfl En18 rfl (CallT.exBg (ins ysw32) (CallT.exBg (lbs ysw32) (CallT.exBg (shs ysw32) (CallT.exS w32 (markLib_s (l := ⟨⟨w32, ysw32⟩⟩) (by rw [hew32]; exact hf) (by omega) (fun km hkm => ?_))))))
        refine RG.pv rfl (PV.mvI (.inr rfl) rfl) ?_
        refine RG.nil ?_
        refine WP.seq ?_
        refine WP.seq ?_
        refine WP.region ?_
        refine RG.pv rfl (PV.mvI (.inl rfl) rfl) ?_
        refine RG.pv rfl (PV.lss rfl rfl rfl) ?_
        refine RG.pv rfl (PV.mvB (.inl rfl) rfl) ?_
        refine RG.gs rfl rfl rfl (fun hp => (PV.move (v := w37) rfl rfl)) ?_
        refine RG.gs rfl rfl rfl (fun hp => (PV.move (v := w28) rfl rfl)) ?_
        refine RG.gsC rfl rfl rfl rfl En17 (fun hp => ⟨_, (acons (gs_t hp) (acons (gs_t hp) anil)), eqInt_s Rs.o Rs.o ⟨rfl, rfl, rfl⟩⟩) ?_
        refine RG.gs rfl rfl rfl (fun hp => (PV.not rfl (gs_t hp))) ?_
        refine RG.pv rfl (PV.pickO rfl rfl rfl (fun hq => gs_t (geqF hq))) ?_
        refine RG.pv rfl (PV.mvB (.inl rfl) rfl) ?_
        refine RG.gs rfl rfl rfl (fun hp => (PV.mvI (.inl rfl) rfl)) ?_
        refine RG.gs rfl rfl rfl (fun hp => (PV.mvI (.inl rfl) rfl)) ?_
        refine RG.gs rfl rfl rfl (fun hp => (PV.neq rfl (gs_t hp) (gs_t hp))) ?_
        refine RG.pv rfl (PV.pickO rfl rfl rfl (fun hq => gs_t (geqF hq))) ?_
        refine RG.nil ?_
        refine WP.cond rfl (fun h5 => ?_) (fun h5 => ?_)
        · exfalso
          have : ¬ km < 0 := by omega
          simp [this] at h5
        · skip
          refine WP.skip ?_
          refine WP.seq ?_
          refine WP.region ?_
          refine RG.pv rfl (PV.mvI (.inr rfl) rfl) ?_
          refine RG.nil ?_
          refine WP.seq ?_
          refine WP.region ?_
          refine RG.pv rfl (PV.move (v := w37) rfl rfl) ?_
          refine RG.pv rfl (PV.mvI (.inl rfl) rfl) ?_
          refine RG.callF (vs := [w37, _]) rfl rfl En19 rfl (CallT.exS w37 (markInt_s (by omega) (by omega) ?_))
          refine RG.pv rfl (PV.mvI (.inr rfl) rfl) ?_
          refine RG.nil ?_
          refine WP.seq ?_
          refine WP.region ?_
          refine RG.pv rfl (PV.mvI (.inr rfl) rfl) ?_
          refine RG.nil ?_
          refine WP.seq ?_
          refine WP.region ?_
          refine RG.pv rfl (PV.move (v := w37) rfl rfl) ?_
          refine RG.pv rfl (PV.mvI (.inl rfl) rfl) ?_
          refine RG.callF (vs := [w37, _]) rfl rfl En20 rfl (heldInt_s Rs.o (by omega) (by omega) ?_)
          refine RG.pv rfl (PV.mvI (.inr rfl) rfl) ?_
          refine RG.nil ?_
          refine WP.seq ?_
          refine WP.seq ?_
          refine WP.region ?_
          refine RG.pv rfl (PV.mvI (.inl rfl) rfl) ?_
          refine RG.pv rfl (PV.lss rfl rfl rfl) ?_
          refine RG.nil ?_
          refine WP.cond rfl (fun h6 => ?_) (fun h6 => ?_)
          · simp at h6; omega
          · refine WP.skip ?_
            refine WP.seq ?_
            refine WP.seq ?_
            refine WP.region ?_
            refine RG.pv rfl (PV.mvI (.inl rfl) rfl) ?_
            refine RG.pv rfl (PV.mvI (.inl rfl) rfl) ?_
            refine RG.pv rfl (PV.neq rfl rfl rfl) ?_
            refine RG.nil ?_
            refine WP.cond rfl (fun h7 => ?_) (fun h7 => ?_)
            · simp at h7
            · skip
              refine WP.skip ?_
              refine WP.seq ?_
              refine WP.region ?_
              refine RG.pv rfl (PV.loadW rfl Ag24 rfl rfl) ?_
              refine RG.callF (vs := [_]) rfl rfl En12 rfl (toLib_s hA.up hf (fun w83 ysw83 hew83 => ?_))
              refine RG.pv rfl (PV.mvI (.inl rfl) rfl) ?_
              refine RG.pv rfl (PV.mvI (.inl rfl) rfl) ?_
              refine RG.callF (vs := [_, _, _]) rfl rfl En16 rfl (allFree_i (l := ⟨⟨w83, ysw83⟩⟩) ⟨Rs.o, RsE.o, RsE.o, RsE.o⟩ (by rw [hew83]; exact hlen) (fun w86 => ?_))
              refine RG.pv rfl (PV.move (v := .tuple _) rfl rfl) ?_
              refine RG.pv rfl (PV.ext (v := w86) rfl rfl rfl) ?_
              refine RG.pv rfl (PV.ext rfl rfl rfl) ?_
              refine RG.pv rfl (PV.asg (v := w86) rfl rfl) ?_
              refine RG.pv rfl (PV.mvI (.inr rfl) rfl) ?_
              refine RG.nil ?_
              refine WP.seq ?_
              refine WP.seq ?_
              refine WP.region ?_
              refine RG.pv rfl (PV.move (v := w86) rfl rfl) ?_
              refine RG.pv rfl (PV.move (v := w28) rfl rfl) ?_
              refine RG.callF (vs := [w86, w28]) rfl rfl En17 rfl (eqInt_s Rs.o Rs.o ?_)
              refine RG.pv rfl (PV.not rfl rfl) ?_
              refine RG.pv rfl (PV.mvB (.inl rfl) rfl) ?_
              refine RG.gs rfl rfl rfl (fun hp => (PV.mvI (.inl rfl) rfl)) ?_
              refine RG.gs rfl rfl rfl (fun hp => (PV.mvI (.inl rfl) rfl)) ?_
              refine RG.gs rfl rfl rfl (fun hp => (PV.neq rfl (gs_t hp) (gs_t hp))) ?_
              refine RG.pv rfl (PV.pickO rfl rfl rfl (fun hq => gs_t (geqF hq))) ?_
              refine RG.nil ?_
              refine WP.cond rfl (fun h8 => ?_) (fun h8 => ?_)
              · simp [hew83] at h8
              · skip
                refine WP.skip ?_
                refine WP.seq ?_
                refine WP.region ?_
                refine RG.pv rfl (PV.mvI (.inr rfl) rfl) ?_
                refine RG.nil ?_
                refine WP.seq ?_
                refine WP.region ?_
                refine RG.pv rfl (PV.move (v := w37) rfl rfl) ?_
                refine RG.pv rfl (PV.mvI (.inl rfl) rfl) ?_
                refine RG.callF (vs := [w37, _]) rfl rfl En20 rfl (heldInt_s Rs.o (by omega) (by omega) ?_)
                refine RG.pv rfl (PV.mvI (.inr rfl) rfl) ?_
                refine RG.nil ?_
                refine WP.seq ?_
                refine WP.seq ?_
                refine WP.region ?_
                refine RG.pv rfl (PV.mvI (.inl rfl) rfl) ?_
                refine RG.pv rfl (PV.lss rfl rfl rfl) ?_
                refine RG.nil ?_
                refine WP.cond rfl (fun h9 => ?_) (fun h9 => ?_)
                · simp at h9; omega
                · refine WP.skip ?_
                  refine WP.seq ?_
                  refine WP.seq ?_
                  refine WP.region ?_
                  refine RG.pv rfl (PV.mvI (.inl rfl) rfl) ?_
                  refine RG.pv rfl (PV.mvI (.inl rfl) rfl) ?_
                  refine RG.pv rfl (PV.neq rfl rfl rfl) ?_
                  refine RG.nil ?_
                  refine WP.cond rfl (fun h10 => ?_) (fun h10 => ?_)
                  · simp at h10
                  · refine WP.skip ?_
                    refine WP.seq ?_
                    refine WP.region ?_
                    refine RG.pv rfl (PV.mvB (.inr rfl) rfl) ?_
                    refine RG.nil ?_
                    refine WP.ret ?_
                    exact ⟨_, _, ResV.one rfl rfl, Cv.p, k⟩
end Go.Proofs.YtbkaincaahcnfaaGreat
namespace Go.Proofs.YtbkaincaahcnfaaGreat
set_option linter.unusedVariables false
set_option linter.unusedSimpArgs false
open Go Go.ChangeShapes Go.WideShapes Go.ChangeAt Go.RowKit Go.Deep
set_option linter.unusedVariables false
def Gw (w : World) : Gh := ⟨wh w, w.os, w.tape, w.output⟩
theorem St.start (w : World) : St (Gw w) [] w := ⟨fun _ => none, trivial, Hp.le_refl _, (fun _ _ h => by cases h), fun _ => .inl rfl, rfl, rfl, rfl⟩
/-- behind a call that began in W, all of W's blocks are as they were -/
theorem St.below {W w' : World} {G : Gh} {L : List Ch} (l : Gh.le (Gw W) G) (h : St G L w') : Below W.heap.size W w' := by
  obtain ⟨hp, s, l1, l2, d, ok⟩ := h
  have ok' := Gh.le_ok l ok
  have up := Hp.le_trans l.1 l1
  have key : ∀ k, k < W.heap.size → w'.heap[k]? = W.heap[k]? := fun k hk => by
    have : (Gw W).f k = some W.heap[k] := by simp [Gw, wh, hk]
    have h2 := up k _ this
    simp only [wh] at h2
    rw [h2]; simp [hk]
  refine ⟨ok'.1, ok'.2.1, ok'.2.2, ?_, key⟩
  by_cases h0 : W.heap.size = 0
  · omega
  · have := key (W.heap.size - 1) (by omega)
    rw [Array.getElem?_eq_getElem (by omega : W.heap.size - 1 < W.heap.size)] at this
    have := (Array.getElem?_eq_some_iff.1 this).1
    omega
def Opn {ρ : Type} (P : Program) (t : TypeId) (F : FT ρ) (ok : Gh → ρ → Prop) : Prop :=
  ∀ {H : Type} {enc : TypeId × Value → H} {w : World} {fuel : Nat} {cs : List Value} {x : DataW H × List MemPlace}, DataW.trod enc P w 0 (fun _ => true) true fuel t cs = some x → ∃ a : ρ, cs = F.enc a ∧ ok (Gw w) a
def okI (_ : Gh) (n : Int) : Prop := -9223372036854775808 ≤ n ∧ n ≤ 9223372036854775807
def okS (_ : Gh) (s : ByteArray) : Prop := s.size ≤ 9223372036854775807
def okL {ρ : Type} [Inhabited ρ] (F : FT ρ) (ok : Gh → ρ → Prop) (G : Gh) (v : Value) : Prop := ∃ xs : List ρ, SL G F v xs ∧ ∀ i, i < xs.length → ok G (gd xs i)
section
variable {P : Program} {t e : TypeId}
theorem opnI (ht : P.underlying t = some (.int .i64)) : Opn P t intT okI := fun h => by
  obtain ⟨n, rfl, _, hw⟩ := DataW.trod_int ht h
  refine ⟨n, rfl, ?_⟩
  have : IntKind.i64.min ≤ n ∧ n ≤ IntKind.i64.max := by simpa [Lit.wf] using hw
  simp only [show IntKind.i64.min = -9223372036854775808 from rfl, show IntKind.i64.max = 9223372036854775807 from rfl] at this
  exact this
theorem opnS (ht : P.underlying t = some .string) : Opn P t strT okS := fun h => by
  obtain ⟨s, rfl, _, hs⟩ := DataW.trod_string ht h
  refine ⟨s, rfl, ?_⟩
  simp only [maxLen] at hs
  exact (by omega : s.size ≤ 9223372036854775807)
theorem cells_get {w : World} {a : Addr} {n : Nat} {cs : List Value} (h : w.cells? 0 a n = some cs) : cs.length = n ∧ ∀ j c, cs[j]? = some c → w.cell? (a.add j) = some c := by
  obtain ⟨_, h1, h2⟩ := World.cells?_some h
  refine ⟨h1, fun j c hc => ?_⟩
  have hj := (List.getElem?_eq_some_iff.1 hc).1
  rw [h2 j (by omega), hc]
theorem opnL {ρ : Type} [Inhabited ρ] {F : FT ρ} {ok : Gh → ρ → Prop} (ht : P.underlying t = some (.slice e)) (hE : Opn P e F ok) (hc : P.cellsOf e = F.sz) (h0 : 0 < F.sz) : Opn P t rawT (okL F ok) := fun {H enc w fuel cs x} h => by
  rcases open_slice ht h with ⟨rfl, _⟩ | ⟨a, len, cap, m, n, D, Pl, rfl, _, hl, hm, hmm, _, hel⟩
  · exact ⟨_, rfl, [], ⟨⟨0, Nat.le_refl _, Nat.zero_le _, .inr ⟨⟨_, rfl⟩, rfl⟩⟩, fun j c hj => by simp [FT.flat] at hj⟩, fun i hi => by simp at hi⟩
  have hmcap : m = cap := by simpa using hmm
  refine ⟨.slice (some a) len cap, rfl, ?_⟩
  have hall : ∀ i, i < len → ∃ r : ρ, w.cells? 0 (a.add (i * F.sz)) F.sz = some (F.enc r) ∧ ok (Gw w) r := fun i hi => by
    obtain ⟨cs', h1, h2⟩ := hel i (by omega)
    obtain ⟨r, rfl, hr⟩ := hE h2
    rw [hc] at h1
    exact ⟨r, h1, hr⟩
  have : ∃ f : Nat → ρ, ∀ i, i < len → w.cells? 0 (a.add (i * F.sz)) F.sz = some (F.enc (f i)) ∧ ok (Gw w) (f i) := choose_lt hall
  obtain ⟨f, hf⟩ := this
  have hlen : ((List.range len).map f).length = len := by simp
  have hget : ∀ i, i < len → ((List.range len).map f)[i]? = some (f i) := fun i hi => by simp [hi]
  have hsp : len ≠ 0 → a.spot = none := fun hz => by
    obtain ⟨h1, _⟩ := hf 0 (by omega)
    obtain ⟨hl1, hg⟩ := cells_get h1
    cases hq : (F.enc (f 0))[0]? with
    | none => rw [List.getElem?_eq_none_iff] at hq; omega
    | some c =>
      have hcell := hg 0 c hq
      cases hs : a.spot with
      | none => rfl
      | some s =>
        exfalso
        have h3 : ((a.add (0 * F.sz)).add 0).spot.isSome = true := by simp [Addr.add, hs]
        unfold World.cell? at hcell
        split at hcell
        · rw [if_pos h3] at hcell; cases hcell
        · cases hcell
  refine ⟨(List.range len).map f, ⟨⟨cap, by simpa using hl, hm, ?_⟩, ?_⟩, fun i hi => ?_⟩
  · by_cases hz : len = 0
    · exact .inr ⟨⟨some a, by simp⟩, by simpa using hz⟩
    · refine .inl ⟨a.block, a.off, ?_⟩
      have hsp := hsp hz
      simp only [hlen]
      obtain ⟨ab, ao, az⟩ := a
      simp only at hsp
      subst hsp; rfl
  · intro j c hj
    by_cases hz : len = 0
    · subst hz; simp [FT.flat] at hj
    have hsp := hsp hz
    have hjl : j < len * F.sz := by
      have := (List.getElem?_eq_some_iff.1 hj).1
      rwa [FT.flat_len, hlen] at this
    have hq : j / F.sz < len := (Nat.div_lt_iff_lt_mul h0).2 hjl
    have hr : j % F.sz < F.sz := Nat.mod_lt _ h0
    have hjd : j / F.sz * F.sz + j % F.sz = j := by rw [Nat.mul_comm]; exact Nat.div_add_mod j F.sz
    obtain ⟨h1, _⟩ := hf (j / F.sz) hq
    obtain ⟨_, hg⟩ := cells_get h1
    have hc' : (F.enc (f (j / F.sz)))[j % F.sz]? = some ((F.enc (f (j / F.sz)))[j % F.sz]'(by rw [F.len]; exact hr)) := List.getElem?_eq_getElem _
    have hfl := F.flat_get (hget _ hq) hc'
    rw [hjd, hj] at hfl
    have hcell := hg _ _ hc'
    obtain ⟨ab, ao, az⟩ := a
    simp only at hsp
    subst hsp
    rw [add_none, add_none, cell_hc, Nat.add_assoc, hjd] at hcell
    simp only [sb, so, Gw]
    rw [hcell]; exact hfl.symm
  · have hi' : i < len := by simpa using hi
    have : gd ((List.range len).map f) i = f i := by simp [gd, hi']
    rw [this]; exact (hf i hi').2
end
def okSl {ρ : Type} [Inhabited ρ] (F : FT ρ) (ok : Gh → ρ → Prop) (G : Gh) (s : Sl ρ) : Prop := SL G F s.v s.xs ∧ ∀ i, i < s.xs.length → ok G (gd s.xs i)
theorem opnSl {P : Program} {t e : TypeId} {ρ : Type} [Inhabited ρ] {F : FT ρ} {ok : Gh → ρ → Prop} (ht : P.underlying t = some (.slice e)) (hE : Opn P e F ok) (hc : P.cellsOf e = F.sz) (h0 : 0 < F.sz) : Opn P t slT (okSl F ok) := fun h => by
  obtain ⟨v, rfl, xs, h1, h2⟩ := opnL ht hE hc h0 h
  exact ⟨⟨v, xs⟩, rfl, h1, h2⟩
section
variable {P : Program} {t e : TypeId} {H : Type} {enc : TypeId × Value → H} {W : World} {r : Reach} {base : Nat} {v : Value} {d : DataW H} {ps : List MemPlace}
theorem argI (ht : P.underlying t = some (.int .i64)) (hv : Value.okWide P W r base t v) (h : DataW.Trod enc P W 0 (fun _ => true) true t v d ps) : ∃ n, v = vi n ∧ okI (Gw W) n := by
  obtain ⟨n, rfl⟩ := okWide_int ht hv
  obtain ⟨fuel, hf⟩ := h
  obtain ⟨m, e1, hm⟩ := opnI ht hf
  simp [Value.cells, intT] at e1
  exact ⟨n, rfl, e1 ▸ hm⟩
theorem argT {ρ : Type} {F : FT ρ} {ok : Gh → ρ → Prop} {fs : Array Field} (ht : P.underlying t = some (.struct fs)) (hO : Opn P t F ok) (hv : Value.okWide P W r base t v) (h : DataW.Trod enc P W 0 (fun _ => true) true t v d ps) : ∃ a, v = vT F a ∧ ok (Gw W) a := by
  obtain ⟨cs, rfl, _⟩ := okWide_struct ht hv
  obtain ⟨fuel, hf⟩ := h
  obtain ⟨m, e1, hm⟩ := hO hf
  simp only [Value.cells] at e1
  exact ⟨m, by simp only [vT]; rw [← e1], hm⟩
theorem trodAll_stays (hl : laidOutB P = true) {W' : World} (hb : Below W.heap.size W W') : ∀ {ts : List TypeId} {vs : List Value} {ds : List (DataW H)} {ps : List MemPlace}, (∀ t ∈ ts, P.readableRec t = true ∧ t < P.types.size) → (∀ x ∈ ps, x.block < W.heap.size) →
    DataW.TrodAll enc P W 0 (fun _ => true) true ts vs ds ps → DataW.TrodAll enc P W' 0 (fun b => decide (b < W.heap.size)) true ts vs ds ps
  | [], [], [], _, _, _, h => h
  | t :: ts, v :: vs, d :: ds, ps, hr, hlt, h => by
    obtain ⟨p, q, h1, h2, rfl⟩ := h
    have := hr t (.head _)
    exact ⟨p, q, Below.trod hl this.1 this.2 h1 hb (fun x hx => hlt x (List.mem_append_left _ hx)), trodAll_stays hl hb (fun t ht => hr t (.tail _ ht)) (fun x hx => hlt x (List.mem_append_right _ hx)) h2, rfl⟩
end
def recsB (P : Program) (ts : List TypeId) : Bool := ts.all fun t => P.readableRec t && Nat.blt t P.types.size
theorem recs_of {P : Program} {ts : List TypeId} (h : recsB P ts = true) : ∀ t ∈ ts, P.readableRec t = true ∧ t < P.types.size := by
  intro t ht
  have := List.all_eq_true.1 h t ht
  simp only [Bool.and_eq_true] at this
  exact ⟨this.1, Nat.le_of_ble_eq_true this.2⟩
/-- A LAW, LIFTED: the call returns true, the arguments read as they did. -/
theorem law_lifted {H : Type} {enc : TypeId × Value → H} {C : Checked} {os : Os} {f : FuncId} {fn : Func} {s : ChangeSpec} {tb : TypeId} (own : ownKnob C.prog.godebug = none) (started : os.Started) (noInit : C.prog.inits.idxOf? f = none) (hfn : C.prog.funcs[f]? = some fn) (hl : laidOutB C.prog = true)
    (hvars : s.vars = []) (hr : recsB C.prog fn.params.toList = true) (hres : fn.resultTypes = #[tb]) (htb : C.prog.underlying tb = some .bool)
    (hsp : ∀ ds : List (DataW H), ds.length = fn.params.toList.length → s.fn H ds = { results := [.lit (.bool true)], args := ds })
    (witness : ∃ (w : World) (tape : Tape) (i : Input), w.os = os ∧ (w.forCall tape i).Shaped C.prog ∧ i.vars = [] ∧ Input.okWide C.prog (w.forCall tape i) .any w.heap.size f i ∧
      s.pre6 enc C.prog fn [] false (w.forCall tape i).memory i.args ∧ ({} : Assume).holds C.prog (lone (Frame.enter C.prog f i.args .normal) [] (w.forCall tape i)))
    (walk : ∀ (W : World) (base : Nat) (args : Array Value) (ds : List (DataW H)) (ps : List MemPlace), (∀ (j : Nat) t v, fn.params[j]? = some t → args[j]? = some v → Value.okWide C.prog W .any base t v) →
      DataW.TrodAll enc C.prog W 0 (fun _ => true) true fn.params.toList args.toList ds ps → CallT C.prog f args (Gw W) [] fun v G _ => v = .bool true ∧ Gh.le (Gw W) G) :
    ReturnsInHanded {} C os f .any (s.pre6 enc C.prog fn [] false) (s.post enc C.prog fn false true false false) := by
  refine returnsInHanded_of_change own started noInit hfn witness ?_
  intro W base args ds gs before hval hW _ _
  have hW' := hW
  obtain ⟨p, q, hA, hV, rfl, hfz, hnd⟩ := hW
  rw [hvars] at hV
  obtain ⟨rfl, rfl⟩ := trodVars_none hV
  refine ((walk W base args ds p hval hA).run (St.start W)).mono ?_
  rintro e W' ⟨v, G, L, rfl, hs, rfl, hG⟩
  have hb := hs.below hG
  have hlt : ∀ x ∈ p, x.block < W.heap.size := fun x hx => hW'.lt x (List.mem_append_left _ hx)
  have hlen : ds.length = fn.params.toList.length := by
    have : ∀ (ts : List TypeId) (vs : List Value) (ds : List (DataW H)) (ps : List MemPlace), DataW.TrodAll enc C.prog W 0 (fun _ => true) true ts vs ds ps → ds.length = ts.length := by
      intro ts
      induction ts with
      | nil => intro vs ds ps h; cases vs <;> cases ds <;> simp_all [DataW.TrodAll]
      | cons t ts ih =>
        intro vs ds ps h
        cases vs <;> cases ds <;> simp only [DataW.TrodAll] at h
        obtain ⟨_, _, _, h2, _⟩ := h
        simp [ih _ _ _ h2]
    exact this _ _ _ _ hA
  refine ⟨_, rfl, ds, [], _, [], p, [], hW', ?_, ?_, ?_, hb.frame _, fun h => by cases h⟩
  · rw [List.append_nil, hsp ds hlen, hres]
    exact trodAll_mk1 (shut_bool htb true)
  · rw [List.append_nil, hsp ds hlen]
    exact trodAll_stays hl hb (recs_of hr) hlt hA
  · rw [List.append_nil, hsp ds hlen, hvars]
    exact rfl
end Go.Proofs.YtbkaincaahcnfaaGreat
