/-
  Contracts of functions and plain facts that the last text of this folder uses, part 6.
-/
import Derived.Test.YtgphjofccckloaaGreatHC5
set_option linter.unusedVariables false
set_option linter.unusedSimpArgs false
namespace Go.Proofs.YtgphjofccckloaaGreat
open Go
set_option maxRecDepth 20000
variable {G : Gh} {L : List Ch} {R : Value → Gh → List Ch → Prop}
theorem flat_mem {cs : List ECell} {os : List EOcc} {i m : Nat} (hi : i < os.length) (hm : m < (gd cs (gd os i).cell.toNat).shapes.length) : (⟨(gd (gd cs (gd os i).cell.toNat).shapes m).layer, moveR (gd os i).place (gd (gd cs (gd os i).cell.toNat).shapes m).box⟩ : Shape) ∈ flatL cs os :=
 List.mem_flatMap.2 ⟨gd os i, gd_mem hi, List.mem_map.2 ⟨_, gd_mem hm, rfl⟩⟩
theorem flat_bad {cs : List ECell} {os : List EOcc} {i m : Nat} (hi : i < os.length) (hm : m < (gd cs (gd os i).cell.toNat).shapes.length) (h : validRect (moveR (gd os i).place (gd (gd cs (gd os i).cell.toNat).shapes m).box) = false) : ((flatL cs os).any fun s => !validRect s.box) = true :=
 List.any_eq_true.2 ⟨_, flat_mem hi hm, by simp [h]⟩
theorem flat_good {cs : List ECell} {os : List EOcc} (h : ∀ i, i < os.length → ∀ m, m < (gd cs (gd os i).cell.toNat).shapes.length → validRect (moveR (gd os i).place (gd (gd cs (gd os i).cell.toNat).shapes m).box) = true) : ((flatL cs os).any fun s => !validRect s.box) = false := by
 rw [List.any_eq_false]
 intro s hs
 obtain ⟨o, ho, hs⟩ := List.mem_flatMap.1 hs
 obtain ⟨i, hi, rfl⟩ := List.getElem_of_mem ho
 obtain ⟨q, hq, rfl⟩ := List.mem_map.1 hs
 obtain ⟨m, hm, rfl⟩ := List.getElem_of_mem hq
 have := h i hi m (by rw [gd_eq hi]; exact hm)
 rw [gd_eq hi, gd_eq hm] at this
 simp [this]
theorem shE_occ {cs : List ECell} {cell : Int} (h : occE cs cell ≠ 0) : shE cs cell = occE cs cell := by rw [shE, decide_eq_false h]; rfl
theorem shE_flat {cs : List ECell} {cell : Int} (h : occE cs cell = 0) : shE cs cell = bif (flatL cs (occR cs cell)).any fun s => !validRect s.box then 2 else 0 := by rw [shE, decide_eq_true h]; rfl
structure OccAt (xs : List Cell) (cell : Int) (zs : List Occ) (i : Nat) : Prop where
  hc : 0 ≤ (gd zs i).cell ∧ (gd zs i).cell.toNat < xs.length
  ho : gd (occR (erCls xs) cell) i = erO (gd zs i)
  hi : i < (occR (erCls xs) cell).length
  hp : (0 ≤ (gd zs i).place.o ∧ (gd zs i).place.o ≤ 7) ∧ -1000 ≤ (gd zs i).place.x ∧ (gd zs i).place.x ≤ 1000 ∧ -1000 ≤ (gd zs i).place.y ∧ (gd zs i).place.y ≤ 1000
  hs : (gd (erCls xs) (gd zs i).cell.toNat).shapes = (gd xs (gd zs i).cell.toNat).shapes.xs
  hb : ∀ m, m < (gd xs (gd zs i).cell.toNat).shapes.xs.length → RIn 40 (gd (gd xs (gd zs i).cell.toNat).shapes.xs m).box
  hl : (gd xs (gd zs i).cell.toNat).shapes.xs.length ≤ 24 ∧ (occR (erCls xs) cell).length ≤ 200
theorem OccAt.of {xs : List Cell} {cell : Int} {zs : List Occ} (he : erOs zs = occR (erCls xs) cell) {i : Nat} (hi : i < zs.length) : OccAt xs cell zs i := by
 have hl : zs.length = (occR (erCls xs) cell).length := by rw [← he, erOs_len]
 have ho : gd (occR (erCls xs) cell) i = erO (gd zs i) := by rw [← he, erOs_gd hi]
 obtain ⟨h1, h2, h3, h4⟩ := occR_cell (cs := erCls xs) (cell := cell) (i := i) (by omega)
 rw [ho] at h2 h3
 simp only [erO] at h2 h3
 have hE := erCls_len xs
 obtain ⟨q1, q2, q3⟩ := validT_iff.1 h3
 have hs : (gd (erCls xs) (gd zs i).cell.toNat).shapes = (gd xs (gd zs i).cell.toNat).shapes.xs := by rw [erCls_gd (by omega)]; rfl
 refine ⟨by omega, ho, by omega, by omega, hs, fun m hm => ?_, ?_⟩
 ·have := okLib_shape h1 (i := (gd zs i).cell.toNat) (j := m) (by omega) (by rw [hs]; exact hm)
  rw [hs] at this
  simp only [okSh, Bool.and_eq_true] at this
  exact validR_in this.2
 ·have := (okLib_cnt h1 (i := (gd zs i).cell.toNat) (by omega)).2
  rw [hs] at this
  exact ⟨this, h4⟩
theorem OccAt.step {xs : List Cell} {cell : Int} {zs : List Occ} {i m : Nat} (h : OccAt xs cell zs i) (hm : m < (gd xs (gd zs i).cell.toNat).shapes.xs.length) :
  (flatOf (erCls xs) (gd (occR (erCls xs) cell) i)).take (m + 1) = (flatOf (erCls xs) (gd (occR (erCls xs) cell) i)).take m ++ [⟨(gd (gd xs (gd zs i).cell.toNat).shapes.xs m).layer, moveR (gd zs i).place (gd (gd xs (gd zs i).cell.toNat).shapes.xs m).box⟩] := by
 have := flatOf_step (cs := erCls xs) (o := gd (occR (erCls xs) cell) i) (k := m) (by rw [h.ho]; simp only [erO]; rw [h.hs]; exact hm)
 rw [this, h.ho]
 simp only [erO, h.hs]
theorem OccAt.len {xs : List Cell} {cell : Int} {zs : List Occ} {i : Nat} (h : OccAt xs cell zs i) : (flatOf (erCls xs) (gd (occR (erCls xs) cell) i)).length = (gd xs (gd zs i).cell.toNat).shapes.xs.length := by
 rw [flatOf_len, h.ho]; simp only [erO, h.hs]
def goodTo (cs : List ECell) (os : List EOcc) (i : Nat) : Prop := ∀ j, j < i → ∀ m, m < (gd cs (gd os j).cell.toNat).shapes.length → validRect (moveR (gd os j).place (gd (gd cs (gd os j).cell.toNat).shapes m).box) = true
theorem goodTo.next {xs : List Cell} {cell : Int} {zs : List Occ} {i : Nat} (h : goodTo (erCls xs) (occR (erCls xs) cell) i) (ha : OccAt xs cell zs i) (hm : ∀ m, m < (gd xs (gd zs i).cell.toNat).shapes.xs.length → validRect (moveR (gd zs i).place (gd (gd xs (gd zs i).cell.toNat).shapes.xs m).box) = true) : goodTo (erCls xs) (occR (erCls xs) cell) (i + 1) := by
 intro j hj m hm2
 by_cases c : j = i
 ·subst c
  rw [ha.ho] at hm2 ⊢
  simp only [erO, ha.hs] at hm2 ⊢
  exact hm m hm2
 ·exact h j (by omega) m hm2
theorem OccAt.bad {xs : List Cell} {cell : Int} {zs : List Occ} {i m : Nat} (ha : OccAt xs cell zs i) (hm : m < (gd xs (gd zs i).cell.toNat).shapes.xs.length) (h : validRect (moveR (gd zs i).place (gd (gd xs (gd zs i).cell.toNat).shapes.xs m).box) = false) : ((flatL (erCls xs) (occR (erCls xs) cell)).any fun s => !validRect s.box) = true := by
 refine flat_bad (i := i) (m := m) ha.hi ?_ ?_
 ·rw [ha.ho]; simp only [erO, ha.hs]; exact hm
 ·rw [ha.ho]; simp only [erO, ha.hs]; exact h
theorem flat_i {l : Lib} {cell : Int} (hL : RLib G L l.cells.v l.cells.xs) (hlen : lenC (erCls l.cells.xs)) (k : ∀ v', R (.tuple #[v', vi (shE (erCls l.cells.xs) cell)]) G (osl 155 shapeT v' (shR (erCls l.cells.xs) cell) :: L)) : CallT Tryz.prog 79 #[vT libT l, vi cell] G L R := by
 have hE := erCls_len l.cells.xs
 refine CallT.enter (args := _) Tryz.func79 rfl rfl (by kernel_rfl) rfl ?_
 refine WP.sr ?_
 refine RG.ot rfl (OT.box (cs := libT.enc l) rfl rfl rfl fun b2 => ?_)
 refine RG.p (PV.asg rfl rfl) (RG.mr rfl (RG.nil (WP.sr (RG.p (PV.loadW rfl Ag35 rfl rfl) (RG.ml rfl ?_)))))
 refine RG.callF (vs := [_, _]) rfl rfl En121 rfl (occ_i hL.up hlen (fun w17 zs he => ?_))
 refine RG.p (PV.move (v := .tuple _) rfl rfl) (RG.p (PV.ext (v := w17) rfl rfl rfl) (RG.p (PV.ext rfl rfl rfl) (RG.p (PV.asg (v := w17) rfl rfl) (RG.mr rfl (RG.nil (WP.seq (WP.sr (RG.ml rfl (RG.p (PV.neq rfl rfl rfl) (RG.nil ?_))))))))))
 refine WP.cond rfl (fun h1 => ?_) (fun h1 => ?_)
 ·have h1 : occE (erCls l.cells.xs) cell ≠ 0 := by simpa using h1
  have e := shE_occ h1
  have e2 : shR (erCls l.cells.xs) cell = [] := shR_no (by rw [e]; exact h1)
  rw [e, e2] at k
  refine WP.sr (RG.ml rfl (RG.p (PV.asg rfl rfl) (RG.mr rfl (RG.nil ?_))))
  exact WP.ret ⟨_, _, ResV.two rfl rfl rfl, Cv.p.trans Cv.nilS, k (.slice none 0 0)⟩
 ·have h1 : occE (erCls l.cells.xs) cell = 0 := by simpa using h1
  have hse := shE_flat h1
  have hzl : zs.length = (occR (erCls l.cells.xs) cell).length := by rw [← he, erOs_len]
  refine WP.skip (WP.sr ?_)
  refine RG.ot rfl (OT.bslice (F := shapeT) (els := []) rfl El111 rfl (by decide) rfl (by decide) trivial fun v23 => ?_)
  refine RG.p (PV.asg (v := v23) rfl rfl) (RG.nil (WP.seq (WP.sr (RG.p (PV.move (v := w17) rfl rfl) (RG.p (PV.len (v := w17) rfl Tryz.underlying164 rfl SlF.o) (RG.ml rfl (RG.nil (WP.block ?_))))))))
  refine WP.bdo w17 fun hbz => ?_
  refine WP.cv (Cv.eqS (ys := flatL (erCls l.cells.xs) ((occR (erCls l.cells.xs) cell).take 0)) rfl) ?_
  refine WP.loop2 [2, 24, 25] (fun (i : Nat) (v : Value) => i ≤ zs.length ∧ goodTo (erCls l.cells.xs) (occR (erCls l.cells.xs) cell) i) (fun (i : Nat) (v : Value) => [(26, vi i), (8, v)]) (fun (i : Nat) (v : Value) => osl 155 shapeT v (flatL (erCls l.cells.xs) ((occR (erCls l.cells.xs) cell).take i)) :: osl 97 occT w17 zs :: bagS 2 intT (pths zs) :: blk b2 35 (libT.enc l) :: L) (fun (i : Nat) (v : Value) => zs.length - i) 0 v23 ⟨by omega, fun j h => by omega⟩ ⟨rfl, rfl, trivial⟩ Cv.p ?_
  rintro i v τ ⟨hi, hg⟩
  refine WP.sr (RG.p (PV.lss rfl rfl rfl) (RG.nil (WP.seq ?_)))
  have hfb := flatL_bd (cs := (erCls l.cells.xs)) (cell := cell) i (by omega)
  refine WP.cond rfl (fun h2 => ?_) (fun h2 => ?_)
  ·have h2 := of_decide_eq_true h2
   have h3 : i < zs.length := by omega
   have ha := OccAt.of (cell := cell) he h3
   have hrd : Rs G (bagS 2 intT (pths zs) :: []) intT (gd zs i).path.v (gd zs i).path.xs := RsE.path RsE.o h3
   have hac := ha.hc
   have hal := ha.hl
   have hsl := hL.sa ha.hc.2
   refine WP.skip (WP.seq (WP.block (WP.sr (RG.p (PV.idxS (v := w17) rfl Is164 rfl SlF.o rfl rfl (by omega)) (RG.p (PV.loadE rfl Ag97 rfl rfl (El.o (getG (by omega)))) ?_)))))
   refine RG.ot rfl (OT.alloc rfl Zr97 fun b10 => ?_)
   refine RG.ot rfl (OT.storeW (vs := [vi _, vi _, vi _, vi _, _]) rfl Sz97 rfl rfl (Cl.c rfl) rfl rfl (OneC.val rfl (OneC.val rfl (OneC.val rfl (OneC.val rfl (OneC.sl (SlF.r hrd) OneC.nil))))) ?_)
   refine RG.nil (WP.sr (RG.p (PV.field rfl Fo35_0 rfl) (RG.p (PV.load1 rfl Sc33 rfl (Rd.blk rfl)) (RG.p (PV.field rfl Fo97_0 rfl) (RG.p (PV.load1 rfl Sc2 rfl (Rd.blk rfl)) (RG.p (PV.idxS (j := (gd zs i).cell.toNat) rfl Is33 rfl (SlF.r hL.c) rfl (by omega) (by omega)) (RG.p (PV.field rfl Fo115_1 rfl) (RG.p (PV.loadF rfl Sc111 rfl rfl (El.r hL.c (getG (by omega))) rfl) (RG.p (PV.len rfl Tryz.underlying111 rfl (SlF.r hsl)) (RG.ml rfl (RG.nil (WP.block ?_))))))))))))
   refine WP.cv ((Cv.p (C := osl 155 shapeT v (flatL (erCls l.cells.xs) ((occR (erCls l.cells.xs) cell).take i)) :: osl 97 occT w17 zs :: bagS 2 intT (pths zs) :: blk b2 35 (libT.enc l) :: blk b10 97 (occT.enc (gd zs i)) :: L)).trans (Cv.eqS (ys := flatL (erCls l.cells.xs) ((occR (erCls l.cells.xs) cell).take i) ++ (flatOf (erCls l.cells.xs) (gd (occR (erCls l.cells.xs) cell) i)).take 0) (by simp))) ?_
   refine WP.loop2 [2, 10, 24, 25, 26, 36, 37] (fun (m : Nat) (v : Value) => m ≤ (gd l.cells.xs (gd zs i).cell.toNat).shapes.xs.length ∧ ∀ j, j < m → validRect (moveR (gd zs i).place (gd (gd l.cells.xs (gd zs i).cell.toNat).shapes.xs j).box) = true) (fun (m : Nat) (v : Value) => [(38, vi m), (8, v)]) (fun (m : Nat) (v : Value) => osl 155 shapeT v (flatL (erCls l.cells.xs) ((occR (erCls l.cells.xs) cell).take i) ++ (flatOf (erCls l.cells.xs) (gd (occR (erCls l.cells.xs) cell) i)).take m) :: osl 97 occT w17 zs :: bagS 2 intT (pths zs) :: blk b2 35 (libT.enc l) :: blk b10 97 (occT.enc (gd zs i)) :: L) (fun (m : Nat) (v : Value) => (gd l.cells.xs (gd zs i).cell.toNat).shapes.xs.length - m) 0 v ⟨by omega, fun j h => by omega⟩ ⟨rfl, rfl, trivial⟩ Cv.p ?_
   rintro m v τ ⟨hm, hq⟩
   refine WP.sr (RG.p (PV.lss rfl rfl rfl) (RG.nil (WP.seq ?_)))
   refine WP.cond rfl (fun h4 => ?_) (fun h4 => ?_)
   ·have h4 := of_decide_eq_true h4
    have hst := ha.step (m := m) (by omega)
    have hll : (flatL (erCls l.cells.xs) ((occR (erCls l.cells.xs) cell).take i) ++ (flatOf (erCls l.cells.xs) (gd (occR (erCls l.cells.xs) cell) i)).take m).length ≤ 6000 := by rw [List.length_append, List.length_take]; omega
    refine WP.skip (WP.seq (WP.block (WP.sr (RG.p (PV.idxS rfl Is111 rfl (SlF.r hsl) rfl rfl (by omega)) (RG.p (PV.loadE rfl Ag155 rfl rfl (El.r hsl (getG (by omega)))) ?_)))))
    refine RG.ot rfl (OT.alloc rfl Zr155 fun b12 => ?_)
    refine RG.ot rfl (OT.storeW (vs := [vi _, vi _, vi _, vi _, vi _]) rfl Sz155 rfl rfl (Cl.c rfl) rfl rfl (OneC.c rfl) ?_)
    refine RG.nil (WP.sr (RG.p (PV.field rfl Fo97_1 rfl) (RG.p (PV.loadB (vs := [_, _, _]) rfl Ag95 rfl rfl rfl) (RG.p (PV.field rfl Fo155_1 rfl) (RG.p (PV.loadB (vs := [_, _, _, _]) rfl Ag91 rfl rfl rfl) ?_)))))
    refine RG.callF (vs := [_, _]) rfl rfl En123 rfl (moveRect_s ha.hp.1 ha.hp.2 (ha.hb m (by omega)) ?_)
    refine RG.ot rfl (OT.alloc rfl Zr91 fun b13 => ?_)
    refine RG.ot rfl (OT.storeW (vs := [vi _, vi _, vi _, vi _]) rfl Sz91 rfl rfl (Cl.c rfl) rfl rfl (OneC.c rfl) ?_)
    refine RG.nil (WP.seq (WP.sr (RG.p (PV.loadW rfl Ag91 rfl rfl) ?_)))
    refine RG.callF (vs := [_]) rfl rfl En124 rfl (validRect_s ?_)
    refine RG.p (PV.not rfl rfl) (RG.nil ?_)
    refine WP.cond rfl (fun h5 => ?_) (fun h5 => ?_)
    ·have e : shE (erCls l.cells.xs) cell = 2 := by rw [hse, ha.bad (m := m) (by omega) (by simpa using h5)]; rfl
     have e2 : shR (erCls l.cells.xs) cell = [] := shR_no (by rw [e]; decide)
     rw [e, e2] at k
     refine WP.sr (RG.p (PV.asg rfl rfl) (RG.mr rfl (RG.nil ?_)))
     exact WP.ret ⟨_, _, ResV.two rfl rfl rfl, Cv.p.trans Cv.nilS, k (.slice none 0 0)⟩
    ·have hq' : ∀ j, j < m + 1 → validRect (moveR (gd zs i).place (gd (gd l.cells.xs (gd zs i).cell.toNat).shapes.xs j).box) = true := fun j h => by
      by_cases c : j = m
      ·rw [c]; simpa using h5
      ·exact hq j (by omega)
     refine WP.skip (WP.region (RG.p (PV.move (v := v) rfl rfl) (RG.p (PV.field rfl Fo155_0 rfl) (RG.p (PV.load1 rfl Sc2 rfl (Rd.blk rfl)) (RG.p (PV.loadW rfl Ag91 rfl rfl) (RG.p (PV.build (vs := [(0, [vi _]), (1, [vi _, vi _, vi _, vi _])]) (out := [_, _, _, _, _]) rfl Zr155 Pl155 ⟨rfl, (Cl.c rfl), ⟨rfl, (Cl.c rfl), trivial⟩⟩ rfl) ?_))))))
     refine RG.ot rfl (OT.bslice (F := shapeT) (els := [⟨(gd (gd l.cells.xs (gd zs i).cell.toNat).shapes.xs m).layer, moveR (gd zs i).place (gd (gd l.cells.xs (gd zs i).cell.toNat).shapes.xs m).box⟩]) rfl El111 rfl (by decide) rfl (by decide) ⟨rfl, (Cl.c rfl), trivial⟩ fun v55 => ?_)
     refine RG.ot rfl (OT.append (v := v) (u := v55) (F := shapeT) rfl El111 rfl (by decide) rfl rfl Rs.o (OneL.c (fun _ => rfl)) rfl (by first | omega | (simp <;> omega)) fun v56 => ?_)
     refine RG.p (PV.asg (v := v56) rfl rfl) (RG.nil (WP.region (RG.p (PV.add rfl rfl rfl (by omega)) (RG.ml rfl (RG.nil ?_)))))
     exact ⟨rfl, m + 1, v56, ⟨by omega, hq'⟩, ⟨rfl, rfl, trivial⟩, ⟨rfl, rfl, rfl, rfl, rfl, rfl, rfl, trivial⟩, ((Cv.p (C := osl 155 shapeT v56 (flatL (erCls l.cells.xs) ((occR (erCls l.cells.xs) cell).take i) ++ (flatOf (erCls l.cells.xs) (gd (occR (erCls l.cells.xs) cell) i)).take m ++ [⟨(gd (gd l.cells.xs (gd zs i).cell.toNat).shapes.xs m).layer, moveR (gd zs i).place (gd (gd l.cells.xs (gd zs i).cell.toNat).shapes.xs m).box⟩]) :: osl 97 occT w17 zs :: bagS 2 intT (pths zs) :: blk b2 35 (libT.enc l) :: blk b10 97 (occT.enc (gd zs i)) :: L)).trans (Cv.eqS (by rw [List.append_assoc, ← hst]))), by omega⟩
   ·have h4 := of_decide_eq_false h4
    have e : flatL (erCls l.cells.xs) ((occR (erCls l.cells.xs) cell).take i) ++ (flatOf (erCls l.cells.xs) (gd (occR (erCls l.cells.xs) cell) i)).take m = flatL (erCls l.cells.xs) ((occR (erCls l.cells.xs) cell).take (i + 1)) := by rw [List.take_of_length_le (i := m) (l := flatOf (erCls l.cells.xs) (gd (occR (erCls l.cells.xs) cell) i)) (by rw [ha.len]; omega), flatL_take ha.hi]
    refine WP.exit ?_
    refine WP.region (RG.p (PV.add rfl rfl rfl (by omega)) (RG.ml rfl (RG.nil ?_)))
    exact ⟨rfl, i + 1, v, ⟨by omega, hg.next ha (fun j h => hq j (by omega))⟩, ⟨rfl, rfl, trivial⟩, ⟨rfl, rfl, rfl, trivial⟩, ((Cv.eqS e).trans Cv.p), by omega⟩
  ·have h2 := of_decide_eq_false h2
   have e : shE (erCls l.cells.xs) cell = 0 := by rw [hse, flat_good (fun j h => hg j (by omega))]; rfl
   have e2 : shR (erCls l.cells.xs) cell = flatL (erCls l.cells.xs) ((occR (erCls l.cells.xs) cell).take i) := by rw [shR_ok e, List.take_of_length_le (by omega)]
   rw [e, e2] at k
   refine WP.exit ?_
   refine WP.sr (RG.p (PV.move (v := v) rfl rfl) (RG.p (PV.asg (v := v) rfl rfl) (RG.mr rfl (RG.nil ?_))))
   exact WP.ret ⟨_, _, ResV.two rfl rfl rfl, Cv.p, k v⟩
theorem OccAt.big {xs : List Cell} {cell : Int} {zs : List Occ} {i : Nat} (h : OccAt xs cell zs i) : TBig (gd zs i).place := by
 obtain ⟨q1, q2⟩ := h.hp
 exact ⟨q1, by omega⟩
theorem flat_r {l : Lib} {cell : Int} (hL : RLib G L l.cells.v l.cells.xs) (hlen : lenC (erCls l.cells.xs)) (k : ∀ v', R (.tuple #[v', vi (shE (erCls l.cells.xs) cell)]) G (osl 155 shapeT v' (shR (erCls l.cells.xs) cell) :: L)) : CallT Tryz.prog 72 #[vT libT l, vi cell] G L R := by
 have hE := erCls_len l.cells.xs
 refine CallT.enter (args := _) Tryz.func72 rfl rfl (by kernel_rfl) rfl ?_
 refine WP.sr ?_
 refine RG.ot rfl (OT.box (cs := libT.enc l) rfl rfl rfl fun b2 => ?_)
 refine RG.p (PV.asg rfl rfl) (RG.mr rfl (RG.nil (WP.sr (RG.p (PV.loadW rfl Ag35 rfl rfl) (RG.ml rfl ?_)))))
 refine RG.callF (vs := [_, _]) rfl rfl En141 rfl (occ_r hL.up hlen (fun w16 zs he => ?_))
 refine RG.p (PV.move (v := .tuple _) rfl rfl) (RG.p (PV.ext (v := w16) rfl rfl rfl) (RG.p (PV.ext rfl rfl rfl) (RG.p (PV.asg (v := w16) rfl rfl) (RG.mr rfl (RG.nil (WP.seq (WP.sr (RG.ml rfl (RG.p (PV.neq rfl rfl rfl) (RG.nil ?_))))))))))
 refine WP.cond rfl (fun h1 => ?_) (fun h1 => ?_)
 ·have h1 : occE (erCls l.cells.xs) cell ≠ 0 := by simpa using h1
  have e := shE_occ h1
  have e2 : shR (erCls l.cells.xs) cell = [] := shR_no (by rw [e]; exact h1)
  rw [e, e2] at k
  refine WP.sr (RG.ml rfl (RG.p (PV.asg rfl rfl) (RG.mr rfl (RG.nil ?_))))
  exact WP.ret ⟨_, _, ResV.two rfl rfl rfl, Cv.p.trans Cv.nilS, k (.slice none 0 0)⟩
 ·have h1 : occE (erCls l.cells.xs) cell = 0 := by simpa using h1
  have hse := shE_flat h1
  have hzl : zs.length = (occR (erCls l.cells.xs) cell).length := by rw [← he, erOs_len]
  refine WP.skip (WP.sr ?_)
  refine RG.ot rfl (OT.bslice (F := shapeT) (els := []) rfl El111 rfl (by decide) rfl (by decide) trivial fun v22 => ?_)
  refine RG.p (PV.asg (v := v22) rfl rfl) (RG.nil (WP.seq (WP.sr (RG.mr rfl (RG.nil (WP.block ?_))))))
  refine WP.bdo w16 fun hbz => ?_
  refine WP.cv (Cv.eqS (ys := flatL (erCls l.cells.xs) ((occR (erCls l.cells.xs) cell).take 0)) rfl) ?_
  refine WP.loop2 [2, 6] (fun (i : Nat) (v : Value) => i ≤ zs.length ∧ goodTo (erCls l.cells.xs) (occR (erCls l.cells.xs) cell) i) (fun (i : Nat) (v : Value) => [(9, vi i), (8, v)]) (fun (i : Nat) (v : Value) => osl 155 shapeT v (flatL (erCls l.cells.xs) ((occR (erCls l.cells.xs) cell).take i)) :: osl 97 occT w16 zs :: bagS 2 intT (pths zs) :: blk b2 35 (libT.enc l) :: L) (fun (i : Nat) (v : Value) => zs.length - i) 0 v22 ⟨by omega, fun j h => by omega⟩ ⟨rfl, rfl, trivial⟩ Cv.p ?_
  rintro i v τ ⟨hi, hg⟩
  refine WP.seq (WP.sr (RG.ml rfl (RG.p (PV.move (v := w16) rfl rfl) (RG.p (PV.len (v := w16) rfl Tryz.underlying164 rfl SlF.o) (RG.p (PV.lss rfl rfl rfl) (RG.nil ?_))))))
  have hfb := flatL_bd (cs := (erCls l.cells.xs)) (cell := cell) i (by omega)
  refine WP.cond rfl (fun h2 => ?_) (fun h2 => ?_)
  ·have h2 := of_decide_eq_true h2
   have h3 : i < zs.length := by omega
   have ha := OccAt.of (cell := cell) he h3
   have hac := ha.hc
   have hal := ha.hl
   have hsl := hL.sa ha.hc.2
   refine WP.skip (WP.seq (WP.block (WP.seq ?_)))
   refine WP.regionH0 (.q 0 (.q 1 (.q 2 (.q 3 (.q 4 (.q 5 (.q 6 (.q 7 (.q 8 (.l 9 (.l 10 Sch.nil))))))))))) (by kernel_rfl) (by kernel_rfl) (by kernel_rfl) rfl ?_
   refine RH.w rfl rfl (PV.field rfl Fo35_0 rfl) (RH.w rfl rfl (PV.load1 rfl Sc33 rfl (Rd.blk rfl)) (RH.w rfl rfl (PV.move (v := w16) rfl rfl) (RH.w rfl rfl (PV.mvI (.inl rfl) rfl) (RH.w rfl rfl (PV.idxS (v := w16) rfl Is164 rfl SlF.o rfl rfl (by omega)) (RH.w rfl rfl (PV.field rfl Fo97_0 rfl) (RH.w rfl rfl (PV.loadF rfl Sc2 rfl rfl (El.o (getG (by omega))) rfl) (RH.w rfl rfl (PV.idxS (j := (gd zs i).cell.toNat) rfl Is33 rfl (SlF.r hL.c) rfl (by omega) (by omega)) (RH.w rfl rfl (PV.loadE rfl Ag115 rfl rfl (El.r hL.c (getG (by omega)))) ?_))))))))
   refine RH.ot rfl rfl (OT.alloc rfl Zr115 fun b10 => ⟨Gh.le_refl _, PickC.pick, ?_⟩)
   refine RH.ot rfl rfl (OT.storeW (vs := [.string _, _, _, _]) rfl Sz115 rfl rfl (Cl.c rfl) rfl rfl (hL.one ha.hc.2) ⟨Gh.le_refl _, PickC.pick, ?_⟩)
   refine RH.nil ?_
   refine WP.sr (RG.mr rfl (RG.nil (WP.block ?_)))
   refine WP.cv ((Cv.p (C := osl 155 shapeT v (flatL (erCls l.cells.xs) ((occR (erCls l.cells.xs) cell).take i)) :: osl 97 occT w16 zs :: bagS 2 intT (pths zs) :: blk b2 35 (libT.enc l) :: blk b10 115 (cellT.enc (gd l.cells.xs (gd zs i).cell.toNat)) :: L)).trans (Cv.eqS (ys := flatL (erCls l.cells.xs) ((occR (erCls l.cells.xs) cell).take i) ++ (flatOf (erCls l.cells.xs) (gd (occR (erCls l.cells.xs) cell) i)).take 0) (by simp))) ?_
   refine WP.loop2 [2, 6, 9, 10] (fun (m : Nat) (v : Value) => m ≤ (gd l.cells.xs (gd zs i).cell.toNat).shapes.xs.length ∧ ∀ j, j < m → validRect (moveR (gd zs i).place (gd (gd l.cells.xs (gd zs i).cell.toNat).shapes.xs j).box) = true) (fun (m : Nat) (v : Value) => [(11, vi m), (8, v)]) (fun (m : Nat) (v : Value) => osl 155 shapeT v (flatL (erCls l.cells.xs) ((occR (erCls l.cells.xs) cell).take i) ++ (flatOf (erCls l.cells.xs) (gd (occR (erCls l.cells.xs) cell) i)).take m) :: osl 97 occT w16 zs :: bagS 2 intT (pths zs) :: blk b2 35 (libT.enc l) :: blk b10 115 (cellT.enc (gd l.cells.xs (gd zs i).cell.toNat)) :: L) (fun (m : Nat) (v : Value) => (gd l.cells.xs (gd zs i).cell.toNat).shapes.xs.length - m) 0 v ⟨by omega, fun j h => by omega⟩ ⟨rfl, rfl, trivial⟩ Cv.p ?_
   rintro m v τ ⟨hm, hq⟩
   refine WP.seq (WP.sr (RG.ml rfl (RG.p (PV.field rfl Fo115_1 rfl) (RG.p (PV.load1 rfl Sc111 rfl (Rd.blk rfl)) (RG.p (PV.len rfl Tryz.underlying111 rfl (SlF.r hsl)) (RG.p (PV.lss rfl rfl rfl) (RG.nil ?_)))))))
   refine WP.cond rfl (fun h4 => ?_) (fun h4 => ?_)
   ·have h4 := of_decide_eq_true h4
    have hst := ha.step (m := m) (by omega)
    have hll : (flatL (erCls l.cells.xs) ((occR (erCls l.cells.xs) cell).take i) ++ (flatOf (erCls l.cells.xs) (gd (occR (erCls l.cells.xs) cell) i)).take m).length ≤ 6000 := by rw [List.length_append, List.length_take]; omega
    refine WP.skip (WP.seq (WP.block ?_))
    refine WP.cut1 [2, 6, 8, 9, 10, 11] (fun (b12 : Nat) => True) (fun (b12 : Nat) => [(12, .pointer (some ⟨b12, 0, none⟩))]) (fun (b12 : Nat) => blk b12 91 (rectT.enc (moveR (gd zs i).place (gd (gd l.cells.xs (gd zs i).cell.toNat).shapes.xs m).box)) :: osl 155 shapeT v (flatL (erCls l.cells.xs) ((occR (erCls l.cells.xs) cell).take i) ++ (flatOf (erCls l.cells.xs) (gd (occR (erCls l.cells.xs) cell) i)).take m) :: osl 97 occT w16 zs :: bagS 2 intT (pths zs) :: blk b2 35 (libT.enc l) :: blk b10 115 (cellT.enc (gd l.cells.xs (gd zs i).cell.toNat)) :: L) ?_ ?_
    refine WP.regionH0 (.q 0 (.q 1 (.q 2 (.q 3 (.q 4 (.q 5 (.q 6 (.q 7 (.q 8 (.q 9 (.q 10 (.b 11 (.l 12 (.l 13 Sch.nil)) 12 (.l 11 (.l 13 Sch.nil)))))))))))))) (by kernel_rfl) (by kernel_rfl) (by kernel_rfl) rfl ?_
    refine RH.w rfl rfl (PV.move (v := w16) rfl rfl) (RH.w rfl rfl (PV.mvI (.inl rfl) rfl) (RH.w rfl rfl (PV.idxS (v := w16) rfl Is164 rfl SlF.o rfl rfl (by omega)) (RH.w rfl rfl (PV.field rfl Fo97_1 rfl) (RH.w rfl rfl (PV.loadEP rfl Ag95 rfl rfl (El.o (getG (by omega))) rfl) (RH.w rfl rfl (PV.field rfl Fo115_1 rfl) (RH.w rfl rfl (PV.load1 rfl Sc111 rfl (Rd.blk rfl)) (RH.w rfl rfl (PV.mvI (.inl rfl) rfl) (RH.w rfl rfl (PV.idxS rfl Is111 rfl (SlF.r hsl) rfl rfl (by omega)) (RH.w rfl rfl (PV.field rfl Fo155_1 rfl) (RH.w rfl rfl (PV.loadEP rfl Ag91 rfl rfl (El.r hsl (getG (by omega))) rfl) ?_))))))))))
    ·refine RH.ot2 rfl rfl rfl rfl  (OT.callF (vs := [_, _]) rfl En142 rfl (l10Rect_r ha.big (ha.hb m (by omega)) ⟨Gh.le_refl _, PickC.pick, ?_⟩)) (OT.alloc rfl Zr91 fun b12 => ⟨Gh.le_refl _, PickC.pick, ?_⟩)
     ·refine RH.ot rfl rfl (OT.alloc rfl Zr91 fun b12 => ⟨Gh.le_refl _, PickC.pick, ?_⟩)
      refine RH.ot rfl rfl (OT.storeW (vs := [vi _, vi _, vi _, vi _]) rfl Sz91 rfl rfl (Cl.c rfl) rfl rfl (OneC.c rfl) ⟨Gh.le_refl _, PickC.pick, ?_⟩)
      refine RH.nil ?_
      exact ⟨rfl, b12, trivial, ⟨rfl, trivial⟩, ⟨rfl, rfl, rfl, rfl, rfl, rfl, trivial⟩, Cv.p⟩
     ·refine RH.ot rfl rfl (OT.callF (vs := [_, _]) rfl En142 rfl (l10Rect_r ha.big (ha.hb m (by omega)) ⟨Gh.le_refl _, PickC.pick, ?_⟩))
      refine RH.ot rfl rfl (OT.storeW (vs := [vi _, vi _, vi _, vi _]) rfl Sz91 rfl rfl (Cl.c rfl) rfl rfl (OneC.c rfl) ⟨Gh.le_refl _, PickC.pick, ?_⟩)
      refine RH.nil ?_
      exact ⟨rfl, b12, trivial, ⟨rfl, trivial⟩, ⟨rfl, rfl, rfl, rfl, rfl, rfl, trivial⟩, Cv.p⟩
    rintro b12 τ5 -
    refine WP.seq (WP.sr (RG.p (PV.loadW rfl Ag91 rfl rfl) ?_))
    refine RG.callF (vs := [_]) rfl rfl En143 rfl (l09Rect_r ?_)
    refine RG.p (PV.not rfl rfl) (RG.nil ?_)
    refine WP.cond rfl (fun h5 => ?_) (fun h5 => ?_)
    ·have e : shE (erCls l.cells.xs) cell = 2 := by rw [hse, ha.bad (m := m) (by omega) (by simpa using h5)]; rfl
     have e2 : shR (erCls l.cells.xs) cell = [] := shR_no (by rw [e]; decide)
     rw [e, e2] at k
     refine WP.sr (RG.p (PV.asg rfl rfl) (RG.mr rfl (RG.nil ?_)))
     exact WP.ret ⟨_, _, ResV.two rfl rfl rfl, Cv.p.trans Cv.nilS, k (.slice none 0 0)⟩
    ·have hq' : ∀ j, j < m + 1 → validRect (moveR (gd zs i).place (gd (gd l.cells.xs (gd zs i).cell.toNat).shapes.xs j).box) = true := fun j h => by
      by_cases c : j = m
      ·rw [c]; simpa using h5
      ·exact hq j (by omega)
     refine WP.skip ?_
     refine WP.regionHD [.s v] (.q 0 (.q 1 (.q 2 (.q 3 (.q 4 (.q 5 (.q 6 (.q 7 (.q 8 (.l 9 (.l 10 (.q 11 Sch.nil)))))))))))) (by kernel_rfl) (by kernel_rfl) (by kernel_rfl) rfl ?_
     refine RH.w rfl rfl (PV.move (v := v) rfl rfl) (RH.w rfl rfl (PV.field rfl Fo115_1 rfl) (RH.w rfl rfl (PV.load1 rfl Sc111 rfl (Rd.blk rfl)) (RH.w rfl rfl (PV.mvI (.inl rfl) rfl) (RH.w rfl rfl (PV.idxS rfl Is111 rfl (SlF.r hsl) rfl rfl (by omega)) (RH.w rfl rfl (PV.field rfl Fo155_0 rfl) (RH.w rfl rfl (PV.loadF rfl Sc2 rfl rfl (El.r hsl (getG (by omega))) rfl) (RH.w rfl rfl (PV.loadW rfl Ag91 rfl rfl) (RH.w rfl rfl (PV.build (vs := [(0, [vi _]), (1, [vi _, vi _, vi _, vi _])]) (out := [_, _, _, _, _]) rfl Zr155 Pl155 ⟨rfl, (Cl.c rfl), ⟨rfl, (Cl.c rfl), trivial⟩⟩ rfl) ?_))))))))
     refine RH.ot rfl rfl (OT.bslice (F := shapeT) (els := [⟨(gd (gd l.cells.xs (gd zs i).cell.toNat).shapes.xs m).layer, moveR (gd zs i).place (gd (gd l.cells.xs (gd zs i).cell.toNat).shapes.xs m).box⟩]) rfl El111 rfl (by decide) rfl (by decide) ⟨rfl, (Cl.c rfl), trivial⟩ fun v69 => ⟨Gh.le_refl _, PickC.pick, ?_⟩)
     refine RH.ot rfl rfl (OT.append (v := v) (u := v69) (F := shapeT) rfl El111 rfl (by decide) rfl rfl Rs.o (OneL.c (fun _ => rfl)) rfl (by first | omega | (simp <;> omega)) fun v70 => ⟨Gh.le_refl _, PickC.pick, ?_⟩)
     refine RH.w rfl rfl (PV.asg (v := v70) rfl rfl) ?_
     refine RH.nil ?_
     refine WP.region (RG.ml rfl (RG.p (PV.add rfl rfl rfl (by omega)) (RG.mr rfl (RG.nil ?_))))
     exact ⟨rfl, m + 1, v70, ⟨by omega, hq'⟩, ⟨rfl, rfl, trivial⟩, ⟨rfl, rfl, rfl, rfl, trivial⟩, ((Cv.p (C := osl 155 shapeT v70 (flatL (erCls l.cells.xs) ((occR (erCls l.cells.xs) cell).take i) ++ (flatOf (erCls l.cells.xs) (gd (occR (erCls l.cells.xs) cell) i)).take m ++ [⟨(gd (gd l.cells.xs (gd zs i).cell.toNat).shapes.xs m).layer, moveR (gd zs i).place (gd (gd l.cells.xs (gd zs i).cell.toNat).shapes.xs m).box⟩]) :: osl 97 occT w16 zs :: bagS 2 intT (pths zs) :: blk b2 35 (libT.enc l) :: blk b10 115 (cellT.enc (gd l.cells.xs (gd zs i).cell.toNat)) :: L)).trans (Cv.eqS (by rw [List.append_assoc, ← hst]))), by omega⟩
   ·have h4 := of_decide_eq_false h4
    have e : flatL (erCls l.cells.xs) ((occR (erCls l.cells.xs) cell).take i) ++ (flatOf (erCls l.cells.xs) (gd (occR (erCls l.cells.xs) cell) i)).take m = flatL (erCls l.cells.xs) ((occR (erCls l.cells.xs) cell).take (i + 1)) := by rw [List.take_of_length_le (i := m) (l := flatOf (erCls l.cells.xs) (gd (occR (erCls l.cells.xs) cell) i)) (by rw [ha.len]; omega), flatL_take ha.hi]
    refine WP.exit ?_
    refine WP.region (RG.ml rfl (RG.p (PV.add rfl rfl rfl (by omega)) (RG.mr rfl (RG.nil ?_))))
    exact ⟨rfl, i + 1, v, ⟨by omega, hg.next ha (fun j h => hq j (by omega))⟩, ⟨rfl, rfl, trivial⟩, ⟨rfl, rfl, trivial⟩, ((Cv.eqS e).trans Cv.p), by omega⟩
  ·have h2 := of_decide_eq_false h2
   have e : shE (erCls l.cells.xs) cell = 0 := by rw [hse, flat_good (fun j h => hg j (by omega))]; rfl
   have e2 : shR (erCls l.cells.xs) cell = flatL (erCls l.cells.xs) ((occR (erCls l.cells.xs) cell).take i) := by rw [shR_ok e, List.take_of_length_le (by omega)]
   rw [e, e2] at k
   refine WP.exit ?_
   refine WP.sr (RG.p (PV.move (v := v) rfl rfl) (RG.p (PV.asg (v := v) rfl rfl) (RG.mr rfl (RG.nil ?_))))
   exact WP.ret ⟨_, _, ResV.two rfl rfl rfl, Cv.p, k v⟩
def layTo (ss : List Shape) (n : Nat) : List (List Rect) := (List.range n).map fun l => canon (bits (boxesOf ss l))
theorem layTo_next {ss : List Shape} {n : Nat} {zs : List (Sl Rect)} {u : Value} (h : er zs = layTo ss n) : er (zs ++ [⟨u, canon (bits (boxesOf ss n))⟩]) = layTo ss (n + 1) := by
 have e : er (zs ++ [(⟨u, canon (bits (boxesOf ss n))⟩ : Sl Rect)]) = er zs ++ [canon (bits (boxesOf ss n))] := by simp [er]
 rw [e, h, layTo, layTo, List.range_succ, List.map_append]; rfl
theorem layTo_len {ss : List Shape} {n : Nat} {zs : List (Sl Rect)} (h : er zs = layTo ss n) : zs.length = n := by
 have := congrArg List.length h; simpa [er, layTo] using this
theorem any_boxes {ss : List Shape} {i n y x : Nat} (h : i < ss.length) : ((boxesOf (ss.take (i + 1)) n).any fun r => inR r y x) = (((boxesOf (ss.take i) n).any fun r => inR r y x) || (decide ((gd ss i).layer = (n : Int)) && inR (gd ss i).box y x)) := by
 rw [boxesOf_step h, List.any_append]
 by_cases e : (gd ss i).layer = (n : Int) <;> simp [e]
theorem layers_i {v : Value} {ss : List Shape} (h1 : Rs G L shapeT v ss) (k : ∀ v' ys, er ys = layL ss → R v' G (osl 50 slT v' ys :: bagS 91 rectT ys :: L)) : CallT Tryz.prog 80 #[v] G L R := by
 refine CallT.bd h1 fun hb => ?_
 refine CallT.enter (args := _) Tryz.func80 rfl rfl (by kernel_rfl) rfl ?_
 refine WP.sr (RG.p (PV.asg rfl rfl) (RG.nil (WP.sr ?_)))
 refine RG.ot rfl (OT.bslice (F := (slT (α := Rect))) (els := []) rfl El71 rfl (by decide) rfl (by decide) trivial fun v8 => ?_)
 refine RG.p (PV.asg (v := v8) rfl rfl) (RG.nil (WP.seq (WP.sr (RG.ml rfl (RG.nil (WP.block ?_))))))
 refine WP.cv (Cv.cons (Cv.bag0 (e := 91) (F := rectT) (xs := []) rfl)) ?_
 refine WP.loop3 [0] (fun (n : Nat) (vo : Value) (zs : List (Sl Rect)) => n ≤ 8 ∧ er zs = layTo ss n) (fun (n : Nat) (vo : Value) (zs : List (Sl Rect)) => [(9, vi n), (3, vo)]) (fun (n : Nat) (vo : Value) (zs : List (Sl Rect)) => osl 50 slT vo zs :: bagS 91 rectT zs :: L) (fun (n : Nat) (vo : Value) (zs : List (Sl Rect)) => 8 - n) 0 v8 [] ⟨by omega, rfl⟩ ⟨rfl, rfl, trivial⟩ Cv.p ?_
 rintro n vo zs τ ⟨hn, hz⟩
 refine WP.sr (RG.p (PV.lss rfl rfl rfl) (RG.nil (WP.seq ?_)))
 have hzl := layTo_len hz
 refine WP.cond rfl (fun h2 => ?_) (fun h2 => ?_)
 ·have h2 := of_decide_eq_true h2
  refine WP.skip (WP.seq (WP.block (WP.sr (RG.ml rfl (RG.mr rfl (RG.nil (WP.sr (RG.p (PV.build0 rfl Tryz.underlying179 ⟨80, by kernel_rfl⟩ (zeroB_spec (n := 6400) (by kernel_rfl))) ?_))))))))
  refine RG.ot rfl (OT.boxG rfl rfl fun b13 => ?_)
  refine RG.p (PV.mvP (.inr rfl) rfl) (RG.nil (WP.seq (WP.sr (RG.p (PV.move (v := v) rfl rfl) (RG.p (PV.len (v := v) rfl Tryz.underlying111 rfl (SlF.r h1)) (RG.ml rfl (RG.nil (WP.block ?_))))))))
  refine WP.loop2 [0, 3, 4, 5, 9, 14, 15] (fun (i : Nat) (cs : List Bool) => i ≤ ss.length ∧ cs.length = 6400 ∧ ∀ y x, y < 80 → x < 80 → gb cs y x = (boxesOf (ss.take i) n).any fun r => inR r y x) (fun (i : Nat) (cs : List Bool) => [(16, vi i)]) (fun (i : Nat) (cs : List Bool) => grd b13 cs :: osl 50 slT vo zs :: bagS 91 rectT zs :: L) (fun (i : Nat) (cs : List Bool) => ss.length - i) 0 (List.replicate 6400 false) ⟨by omega, by simp, fun y x _ _ => by rw [gb_rep]; simp [boxesOf]⟩ ⟨rfl, trivial⟩ Cv.p ?_
  rintro i cs τ1 ⟨hi, hl, hc⟩
  refine WP.sr (RG.p (PV.lss rfl rfl rfl) (RG.nil (WP.seq ?_)))
  refine WP.cond rfl (fun h3 => ?_) (fun h3 => ?_)
  ·have h3 := of_decide_eq_true h3
   have h4 : i < ss.length := by omega
   refine WP.skip (WP.seq (WP.block (WP.sr (RG.p (PV.idxS (v := v) rfl Is111 rfl (SlF.r h1) rfl rfl (by omega)) (RG.p (PV.loadE rfl Ag155 rfl rfl (El.r h1 (getG (by omega)))) ?_)))))
   refine RG.ot rfl (OT.alloc rfl Zr155 fun b7 => ?_)
   refine RG.ot rfl (OT.storeW (vs := [vi _, vi _, vi _, vi _, vi _]) rfl Sz155 rfl rfl (Cl.c rfl) rfl rfl (OneC.c rfl) ?_)
   refine RG.nil (WP.sr (RG.p (PV.field rfl Fo155_0 rfl) (RG.p (PV.load1 rfl Sc2 rfl (Rd.blk rfl)) (RG.ml rfl (RG.p (PV.eql rfl rfl rfl) (RG.nil ?_))))))
   refine WP.cond rfl (fun h5 => ?_) (fun h5 => ?_)
   ·have h5 := of_decide_eq_true h5
    refine WP.region (RG.p (PV.mvP (.inl rfl) rfl) (RG.p (PV.field rfl Fo155_1 rfl) (RG.p (PV.loadB (vs := [_, _, _, _]) rfl Ag91 rfl rfl rfl) ?_)))
    refine RG.callF (vs := [(.pointer (some ⟨b13, 0, none⟩)), _]) rfl rfl En131 rfl (CallT.exB (put_s (by assumption) (fun bs' hb' hg' => ?_)))
    refine RG.nil (WP.region (RG.p (PV.add rfl rfl rfl (by omega)) (RG.ml rfl (RG.nil ?_))))
    refine ⟨rfl, i + 1, bs', ⟨by omega, hb', fun y x h6 h7 => ?_⟩, ⟨rfl, trivial⟩, ⟨rfl, rfl, rfl, rfl, rfl, rfl, rfl, trivial⟩, Cv.p, by omega⟩
    rw [hg' y x h6 h7, hc y x h6 h7, any_boxes h4, decide_eq_true h5, Bool.true_and]
   ·have h5 := of_decide_eq_false h5
    refine WP.skip (WP.region (RG.p (PV.add rfl rfl rfl (by omega)) (RG.ml rfl (RG.nil ?_))))
    refine ⟨rfl, i + 1, cs, ⟨by omega, hl, fun y x h6 h7 => ?_⟩, ⟨rfl, trivial⟩, ⟨rfl, rfl, rfl, rfl, rfl, rfl, rfl, trivial⟩, Cv.p, by omega⟩
    rw [hc y x h6 h7, any_boxes h4, decide_eq_false h5, Bool.false_and, Bool.or_false]
  ·have h3 := of_decide_eq_false h3
   have e : cs = bits (boxesOf ss n) := bits_eq hl fun y x h6 h7 => by rw [hc y x h6 h7, List.take_of_length_le (by omega)]
   subst e
   refine WP.exit ?_
   refine WP.region (RG.p (PV.move (v := vo) rfl rfl) (RG.p (PV.mvP (.inl rfl) rfl) ?_))
   refine RG.callF (vs := [(.pointer (some ⟨b13, 0, none⟩))]) rfl rfl En132 rfl (CallT.exB (region_s (bits_length _) (fun v31 => ?_)))
   refine RG.ot rfl (OT.bslice (F := (slT (α := Rect))) (els := [⟨v31, canon (bits (boxesOf ss n))⟩]) rfl El71 rfl (by decide) rfl (by decide) ⟨rfl, (Cl.s (v := v31) SlF.o), trivial⟩ fun v32 => ?_)
   refine RG.ot rfl (OT.append (v := vo) (u := v32) (F := (slT (α := Rect))) rfl El71 rfl (by decide) rfl rfl Rs.o (OneL.one (a := (⟨v31, canon (bits (boxesOf ss n))⟩ : Sl Rect)) (OneC.sl SlF.o OneC.nil)) rfl (by first | omega | (simp <;> omega)) fun v33 => ?_)
   refine RG.p (PV.asg (v := v33) rfl rfl) (RG.nil (WP.region (RG.p (PV.add rfl rfl rfl (by omega)) (RG.ml rfl (RG.nil ?_)))))
   exact ⟨rfl, n + 1, v33, (zs ++ [⟨v31, canon (bits (boxesOf ss n))⟩]), ⟨by omega, layTo_next hz⟩, ⟨rfl, rfl, trivial⟩, ⟨rfl, trivial⟩, ((Cv.p (C := osl 91 rectT v31 (canon (bits (boxesOf ss n))) :: osl 50 slT v33 (zs ++ [⟨v31, canon (bits (boxesOf ss n))⟩]) :: bagS 91 rectT zs :: L)).trans Cv.slotNew), by omega⟩
 ·have h2 := of_decide_eq_false h2
  obtain rfl : n = 8 := by omega
  refine WP.exit ?_
  refine WP.sr (RG.p (PV.move (v := vo) rfl rfl) (RG.p (PV.asg (v := vo) rfl rfl) (RG.nil ?_)))
  exact WP.ret ⟨_, _, ResV.one rfl rfl, Cv.p, k vo zs hz⟩
theorem layers_r {v : Value} {ss : List Shape} (h1 : Rs G L shapeT v ss) (hv : ∀ i, i < ss.length → validRect (gd ss i).box = true) (k : ∀ v' ys, er ys = layL ss → R v' G (osl 50 slT v' ys :: bagS 91 rectT ys :: L)) : CallT Tryz.prog 73 #[v] G L R := by
 refine CallT.bd h1 fun hb => ?_
 refine CallT.enter (args := _) Tryz.func73 rfl rfl (by kernel_rfl) rfl ?_
 refine WP.sr (RG.p (PV.asg rfl rfl) (RG.nil (WP.sr ?_)))
 refine RG.ot rfl (OT.bslice (F := (slT (α := Rect))) (els := []) rfl El71 rfl (by decide) rfl (by decide) trivial fun v10 => ?_)
 refine RG.p (PV.asg (v := v10) rfl rfl) (RG.nil (WP.seq (WP.sr (RG.mr rfl (RG.nil (WP.block ?_))))))
 refine WP.cv (Cv.cons (Cv.bag0 (e := 91) (F := rectT) (xs := []) rfl)) ?_
 refine WP.loop3 [0] (fun (n : Nat) (vo : Value) (zs : List (Sl Rect)) => n ≤ 8 ∧ er zs = layTo ss n) (fun (n : Nat) (vo : Value) (zs : List (Sl Rect)) => [(4, vi n), (3, vo)]) (fun (n : Nat) (vo : Value) (zs : List (Sl Rect)) => osl 50 slT vo zs :: bagS 91 rectT zs :: L) (fun (n : Nat) (vo : Value) (zs : List (Sl Rect)) => 8 - n) 0 v10 [] ⟨by omega, rfl⟩ ⟨rfl, rfl, trivial⟩ Cv.p ?_
 rintro n vo zs τ ⟨hn, hz⟩
 refine WP.seq (WP.sr (RG.ml rfl (RG.p (PV.lss rfl rfl rfl) (RG.nil ?_))))
 have hzl := layTo_len hz
 refine WP.cond rfl (fun h2 => ?_) (fun h2 => ?_)
 ·have h2 := of_decide_eq_true h2
  refine WP.skip (WP.seq (WP.block (WP.sr ?_)))
  refine RG.callF (vs := [_]) rfl rfl En120 rfl (l03Bits_s (xs := []) (RsN) (fun i hi => by simp at hi) (fun v15 => ?_))
  refine RG.p (PV.asg (v := v15) rfl rfl) (RG.nil (WP.seq (WP.sr (RG.mr rfl (RG.nil (WP.block ?_))))))
  refine WP.loop2 [0, 3, 4, 5] (fun (i : Nat) (cs : List Bool) => i ≤ ss.length ∧ cs.length = 6400 ∧ ∀ y x, y < 80 → x < 80 → gb cs y x = (boxesOf (ss.take i) n).any fun r => inR r y x) (fun (i : Nat) (cs : List Bool) => [(6, vi i)]) (fun (i : Nat) (cs : List Bool) => osl 4 boolT v15 cs :: osl 50 slT vo zs :: bagS 91 rectT zs :: L) (fun (i : Nat) (cs : List Bool) => ss.length - i) 0 (bits []) ⟨by omega, bits_length _, fun y x h1 h2 => by rw [gb_bits [] h1 h2]; simp [boxesOf]⟩ ⟨rfl, trivial⟩ Cv.p ?_
  rintro i cs τ1 ⟨hi, hl, hc⟩
  refine WP.seq (WP.sr (RG.ml rfl (RG.p (PV.move (v := v) rfl rfl) (RG.p (PV.len (v := v) rfl Tryz.underlying111 rfl (SlF.r h1)) (RG.p (PV.lss rfl rfl rfl) (RG.nil ?_))))))
  refine WP.cond rfl (fun h3 => ?_) (fun h3 => ?_)
  ·have h3 := of_decide_eq_true h3
   have h4 : i < ss.length := by omega
   have hr := valid_bd (hv i h4)
   refine WP.skip (WP.seq (WP.block (WP.sr (RG.p (PV.move (v := v) rfl rfl) (RG.ml rfl (RG.p (PV.idxS (v := v) rfl Is111 rfl (SlF.r h1) rfl rfl (by omega)) (RG.p (PV.field rfl Fo155_1 rfl) (RG.p (PV.loadEP rfl Ag91 rfl rfl (El.r h1 (getG (by omega))) rfl) ?_))))))))
   refine RG.ot rfl (OT.alloc rfl Zr91 fun b7 => ?_)
   refine RG.ot rfl (OT.storeW (vs := [vi _, vi _, vi _, vi _]) rfl Sz91 rfl rfl (Cl.c rfl) rfl rfl (OneC.c rfl) ?_)
   refine RG.nil (WP.sr (RG.p (PV.field rfl Fo91_1 rfl) (RG.p (PV.load1 rfl Sc2 rfl (Rd.blk rfl)) (RG.mr rfl (RG.nil (WP.block ?_))))))
   refine WP.loop2 [0, 3, 4, 5, 6, 7] (fun (y : Int) (ds : List Bool) => (gd ss i).box.y0 ≤ y ∧ y ≤ (gd ss i).box.y1 ∧ (¬ (gd ss i).layer = (n : Int) → y = (gd ss i).box.y0) ∧ ds.length = 6400 ∧ ∀ y' x', y' < 80 → x' < 80 → gb ds y' x' = (gb cs y' x' || (inR (gd ss i).box y' x' && decide ((y' : Int) - 40 < y)))) (fun (y : Int) (ds : List Bool) => [(8, vi y)]) (fun (y : Int) (ds : List Bool) => osl 4 boolT v15 ds :: blk b7 91 (rectT.enc (gd ss i).box) :: osl 50 slT vo zs :: bagS 91 rectT zs :: L) (fun (y : Int) (ds : List Bool) => (40 - y).toNat) (gd ss i).box.y0 cs ⟨by omega, by omega, fun _ => rfl, hl, fun y' x' h1 h2 => by rw [Bool.eq_iff_iff]; simp [inR]; omega⟩ ⟨rfl, trivial⟩ Cv.p ?_
   rintro y ds τ2 ⟨hy0, hy1, hly, hld, hd⟩
   refine WP.seq (WP.sr (RG.p (PV.move (v := v) rfl rfl) (RG.ml rfl (RG.p (PV.idxS (v := v) rfl Is111 rfl (SlF.r h1) rfl rfl (by omega)) (RG.p (PV.field rfl Fo155_0 rfl) (RG.p (PV.loadF rfl Sc2 rfl rfl (El.r h1 (getG (by omega))) rfl) (RG.ml rfl (RG.p (PV.eql rfl rfl rfl) (RG.bl rfl ?_)))))))))
   refine RG.g rfl (fun hp => (PV.mvI (.inl rfl) rfl)) ?_
   refine RG.g rfl (fun hp => (PV.field rfl Fo91_3 rfl)) ?_
   refine RG.g rfl (fun hp => (PV.load1 rfl Sc2 (gs_t hp) (Rd.blk rfl))) ?_
   refine RG.g rfl (fun hp => (PV.lss rfl (gs_t hp) (gs_t hp))) ?_
   refine RG.p (PV.pickA rfl rfl (fun hq => gs_t (geqT hq)) rfl) (RG.nil ?_)
   refine WP.cond rfl (fun h5 => ?_) (fun h5 => ?_)
   ·have h5' : (gd ss i).layer = (n : Int) ∧ y < (gd ss i).box.y1 := by simpa using h5
    refine WP.skip (WP.seq (WP.block (WP.sr (RG.p (PV.field rfl Fo91_0 rfl) (RG.p (PV.load1 rfl Sc2 rfl (Rd.blk rfl)) (RG.mr rfl (RG.nil (WP.block ?_))))))))
    refine WP.loop2 [0, 3, 4, 5, 6, 7, 8] (fun (x : Int) (es : List Bool) => (gd ss i).box.x0 ≤ x ∧ x ≤ (gd ss i).box.x1 ∧ es.length = 6400 ∧ ∀ y' x', y' < 80 → x' < 80 → gb es y' x' = (gb ds y' x' || (decide ((y' : Int) - 40 = y) && decide ((gd ss i).box.x0 ≤ (x' : Int) - 40) && decide ((x' : Int) - 40 < x)))) (fun (x : Int) (es : List Bool) => [(9, vi x)]) (fun (x : Int) (es : List Bool) => osl 4 boolT v15 es :: blk b7 91 (rectT.enc (gd ss i).box) :: osl 50 slT vo zs :: bagS 91 rectT zs :: L) (fun (x : Int) (es : List Bool) => (40 - x).toNat) (gd ss i).box.x0 ds ⟨by omega, by omega, hld, fun y' x' h1 h2 => by rw [Bool.eq_iff_iff]; simp; omega⟩ ⟨rfl, trivial⟩ Cv.p ?_
    rintro x es τ3 ⟨hx0, hx1, hle, hee⟩
    refine WP.seq (WP.sr (RG.ml rfl (RG.p (PV.field rfl Fo91_2 rfl) (RG.p (PV.load1 rfl Sc2 rfl (Rd.blk rfl)) (RG.p (PV.lss rfl rfl rfl) (RG.nil ?_))))))
    refine WP.cond rfl (fun h6 => ?_) (fun h6 => ?_)
    ·have h6 := of_decide_eq_true h6
     refine WP.skip (WP.seq (WP.block (WP.region (RG.p (PV.move (v := v15) rfl rfl) (RG.ml rfl (RG.p (PV.add rfl rfl rfl (by omega)) (RG.p (PV.mul rfl rfl rfl (by omega)) (RG.ml rfl (RG.p (PV.add rfl rfl rfl (by omega)) (RG.p (PV.add rfl rfl rfl (by omega)) (RG.p (PV.idxS (j := ((y + 40) * 80 + x + 40).toNat) (v := v15) rfl Is162 rfl SlF.o rfl (by omega) (by omega)) ?_)))))))))))
     refine RG.ot rfl (OT.storeE (F := boolT) rfl Sz4 rfl rfl rfl (Cl.c rfl) (OneC.c rfl) (by omega) ?_)
     refine RG.nil (WP.region (RG.ml rfl (RG.p (PV.add rfl rfl rfl (by omega)) (RG.mr rfl (RG.nil ?_)))))
     refine ⟨rfl, x + 1, (es.set ((y + 40) * 80 + x + 40).toNat true), ⟨by omega, by omega, by simpa using hle, fun y' x' h7 h8 => ?_⟩, ⟨rfl, trivial⟩, ⟨rfl, rfl, rfl, rfl, rfl, rfl, rfl, trivial⟩, Cv.p, by omega⟩
     rw [show ((y + 40) * 80 + x + 40).toNat = (y + 40).toNat * 80 + (x + 40).toNat by omega, gb_set hle (by omega) (by omega) h8, hee y' x' h7 h8]
     cases gb ds y' x' <;> (rw [Bool.eq_iff_iff]; split <;> simp <;> omega)
    ·have h6 := of_decide_eq_false h6
     refine WP.exit ?_
     refine WP.region (RG.ml rfl (RG.p (PV.add rfl rfl rfl (by omega)) (RG.mr rfl (RG.nil ?_))))
     refine ⟨rfl, y + 1, es, ⟨by omega, by omega, fun h => absurd h5'.1 h, hle, fun y' x' h7 h8 => ?_⟩, ⟨rfl, trivial⟩, ⟨rfl, rfl, rfl, rfl, rfl, rfl, trivial⟩, Cv.p, by omega⟩
     rw [hee y' x' h7 h8, hd y' x' h7 h8]
     cases gb cs y' x' <;> (rw [Bool.eq_iff_iff]; simp [inR]; try omega)
   ·have h5' : (gd ss i).layer = (n : Int) → (gd ss i).box.y1 ≤ y := by simpa using h5
    refine WP.exit ?_
    refine WP.region (RG.ml rfl (RG.p (PV.add rfl rfl rfl (by omega)) (RG.mr rfl (RG.nil ?_))))
    refine ⟨rfl, i + 1, ds, ⟨by omega, hld, fun y' x' h7 h8 => ?_⟩, ⟨rfl, trivial⟩, ⟨rfl, rfl, rfl, rfl, trivial⟩, Cv.p, by omega⟩
    rw [hd y' x' h7 h8, hc y' x' h7 h8, any_boxes h4]
    congr 1
    by_cases e : (gd ss i).layer = (n : Int)
    ·have := h5' e
     rw [Bool.eq_iff_iff]; simp [inR, e]; omega
    ·have := hly e
     rw [Bool.eq_iff_iff]; simp [inR, e]; omega
  ·have h3 := of_decide_eq_false h3
   have e : cs = bits (boxesOf ss n) := bits_eq hl fun y x h6 h7 => by rw [hc y x h6 h7, List.take_of_length_le (by omega)]
   subst e
   refine WP.exit ?_
   refine WP.region (RG.p (PV.move (v := vo) rfl rfl) (RG.p (PV.move (v := v15) rfl rfl) ?_))
   refine RG.callF (vs := [v15]) rfl rfl En119 rfl (l03Canon_s Rs.o (bits_length _) (fun v62 => ?_))
   refine RG.ot rfl (OT.bslice (F := (slT (α := Rect))) (els := [⟨v62, canon (bits (boxesOf ss n))⟩]) rfl El71 rfl (by decide) rfl (by decide) ⟨rfl, (Cl.s (v := v62) SlF.o), trivial⟩ fun v63 => ?_)
   refine RG.ot rfl (OT.append (v := vo) (u := v63) (F := (slT (α := Rect))) rfl El71 rfl (by decide) rfl rfl Rs.o (OneL.one (a := (⟨v62, canon (bits (boxesOf ss n))⟩ : Sl Rect)) (OneC.sl SlF.o OneC.nil)) rfl (by first | omega | (simp <;> omega)) fun v64 => ?_)
   refine RG.p (PV.asg (v := v64) rfl rfl) (RG.nil (WP.region (RG.ml rfl (RG.p (PV.add rfl rfl rfl (by omega)) (RG.mr rfl (RG.nil ?_))))))
   exact ⟨rfl, n + 1, v64, (zs ++ [⟨v62, canon (bits (boxesOf ss n))⟩]), ⟨by omega, layTo_next hz⟩, ⟨rfl, rfl, trivial⟩, ⟨rfl, trivial⟩, ((Cv.p (C := osl 91 rectT v62 (canon (bits (boxesOf ss n))) :: osl 50 slT v64 (zs ++ [⟨v62, canon (bits (boxesOf ss n))⟩]) :: bagS 91 rectT zs :: L)).trans Cv.slotNew), by omega⟩
 ·have h2 := of_decide_eq_false h2
  obtain rfl : n = 8 := by omega
  refine WP.exit ?_
  refine WP.sr (RG.p (PV.move (v := vo) rfl rfl) (RG.p (PV.asg (v := vo) rfl rfl) (RG.nil ?_)))
  exact WP.ret ⟨_, _, ResV.one rfl rfl, Cv.p, k vo zs hz⟩
def flyL (cs : List ECell) (cell : Int) : List (List Rect) := bif decide (shE cs cell = 0) then layL (shR cs cell) else []
theorem Cv.nilSS {M : List Ch} {e e' : TypeId} [p : PickC L M] : Cv M (osl e slT (.slice none 0 0) ([] : List (Sl Rect)) :: bagS e' rectT [] :: L) := (Cv.pick p.pick).trans ((Cv.bag0 (xs := []) rfl).trans Cv.nilS)
theorem fly_i {l : Lib} {cell : Int} (hL : RLib G L l.cells.v l.cells.xs) (hlen : lenC (erCls l.cells.xs)) (k : ∀ v' ys, er ys = flyL (erCls l.cells.xs) cell → R (.tuple #[v', vi (shE (erCls l.cells.xs) cell)]) G (osl 50 slT v' ys :: bagS 91 rectT ys :: L)) : CallT Tryz.prog 43 #[vT libT l, vi cell] G L R := by
 refine CallT.enter (args := _) Tryz.func43 rfl rfl (by kernel_rfl) rfl ?_
 refine WP.sr ?_
 refine RG.ot rfl (OT.box (cs := libT.enc l) rfl rfl rfl fun b2 => ?_)
 refine RG.p (PV.asg rfl rfl) (RG.mr rfl (RG.nil (WP.sr (RG.p (PV.loadW rfl Ag35 rfl rfl) (RG.ml rfl ?_)))))
 refine RG.callF (vs := [_, _]) rfl rfl En79 rfl (flat_i hL.up hlen (fun w11 => ?_))
 refine RG.p (PV.move (v := .tuple _) rfl rfl) (RG.p (PV.ext (v := w11) rfl rfl rfl) (RG.p (PV.ext rfl rfl rfl) (RG.p (PV.asg (v := w11) rfl rfl) (RG.mr rfl (RG.nil (WP.seq (WP.sr (RG.ml rfl (RG.p (PV.neq rfl rfl rfl) (RG.nil ?_))))))))))
 refine WP.cond rfl (fun h1 => ?_) (fun h1 => ?_)
 ·have h1 : shE (erCls l.cells.xs) cell ≠ 0 := by simpa using h1
  refine WP.sr (RG.ml rfl (RG.p (PV.asg rfl rfl) (RG.mr rfl (RG.nil ?_))))
  exact WP.ret ⟨_, _, ResV.two rfl rfl rfl, Cv.nilSS, k _ [] (by rw [flyL, decide_eq_false h1]; rfl)⟩
 ·have h1 : shE (erCls l.cells.xs) cell = 0 := by simpa using h1
  have ef : flyL (erCls l.cells.xs) cell = layL (shR (erCls l.cells.xs) cell) := by rw [flyL, decide_eq_true h1]; rfl
  rw [h1] at k
  refine WP.skip (WP.sr (RG.p (PV.move (v := w11) rfl rfl) ?_))
  refine RG.callF (vs := [w11]) rfl rfl En80 rfl (layers_i Rs.o (fun w8 ys he => ?_))
  refine RG.p (PV.asg rfl rfl) (RG.mr rfl (RG.nil ?_))
  exact WP.ret ⟨_, _, ResV.two rfl rfl rfl, Cv.p, k w8 ys (by rw [he, ef])⟩
theorem fly_r {l : Lib} {cell : Int} (hL : RLib G L l.cells.v l.cells.xs) (hlen : lenC (erCls l.cells.xs)) (k : ∀ v' ys, er ys = flyL (erCls l.cells.xs) cell → R (.tuple #[v', vi (shE (erCls l.cells.xs) cell)]) G (osl 50 slT v' ys :: bagS 91 rectT ys :: L)) : CallT Tryz.prog 37 #[vT libT l, vi cell] G L R := by
 refine CallT.enter (args := _) Tryz.func37 rfl rfl (by kernel_rfl) rfl ?_
 refine WP.sr ?_
 refine RG.ot rfl (OT.box (cs := libT.enc l) rfl rfl rfl fun b2 => ?_)
 refine RG.p (PV.asg rfl rfl) (RG.mr rfl (RG.nil (WP.sr (RG.p (PV.loadW rfl Ag35 rfl rfl) (RG.ml rfl ?_)))))
 refine RG.callF (vs := [_, _]) rfl rfl En72 rfl (flat_r hL.up hlen (fun w11 => ?_))
 refine RG.p (PV.move (v := .tuple _) rfl rfl) (RG.p (PV.ext (v := w11) rfl rfl rfl) (RG.p (PV.ext rfl rfl rfl) (RG.p (PV.asg (v := w11) rfl rfl) (RG.mr rfl (RG.nil (WP.seq (WP.sr (RG.ml rfl (RG.p (PV.neq rfl rfl rfl) (RG.nil ?_))))))))))
 refine WP.cond rfl (fun h1 => ?_) (fun h1 => ?_)
 ·have h1 : shE (erCls l.cells.xs) cell ≠ 0 := by simpa using h1
  refine WP.sr (RG.ml rfl (RG.p (PV.asg rfl rfl) (RG.mr rfl (RG.nil ?_))))
  exact WP.ret ⟨_, _, ResV.two rfl rfl rfl, Cv.nilSS, k _ [] (by rw [flyL, decide_eq_false h1]; rfl)⟩
 ·have h1 : shE (erCls l.cells.xs) cell = 0 := by simpa using h1
  have ef : flyL (erCls l.cells.xs) cell = layL (shR (erCls l.cells.xs) cell) := by rw [flyL, decide_eq_true h1]; rfl
  rw [h1] at k
  refine WP.skip (WP.sr (RG.p (PV.move (v := w11) rfl rfl) ?_))
  refine RG.callF (vs := [w11]) rfl rfl En73 rfl (layers_r Rs.o (fun i hi => shR_valid hi) (fun w8 ys he => ?_))
  refine RG.p (PV.asg rfl rfl) (RG.mr rfl (RG.nil ?_))
  exact WP.ret ⟨_, _, ResV.two rfl rfl rfl, Cv.p, k w8 ys (by rw [he, ef])⟩
theorem bndR_no {cs : List ECell} {cell : Int} (h : bndE cs cell ≠ 0) : bndR cs cell = ⟨0, 0, 0, 0⟩ := by rw [bndR, decide_eq_false h]; rfl
theorem bndR_ok {cs : List ECell} {cell : Int} (h : bndE cs cell = 0) : bndR cs cell = boxL ((shR cs cell).map Shape.box) := by rw [bndR, decide_eq_true h]; rfl
theorem bnd_i {l : Lib} {cell : Int} (hL : RLib G L l.cells.v l.cells.xs) (hlen : lenC (erCls l.cells.xs)) (k : R (.tuple #[vrect (bndR (erCls l.cells.xs) cell), vi (bndE (erCls l.cells.xs) cell)]) G L) : CallT Tryz.prog 122 #[vT libT l, vi cell] G L R := by
 have hsl := shR_len (erCls l.cells.xs) cell
 refine CallT.enter (args := _) Tryz.func122 rfl rfl (by kernel_rfl) rfl ?_
 refine WP.sr ?_
 refine RG.ot rfl (OT.box (cs := libT.enc l) rfl rfl rfl fun b2 => ?_)
 refine RG.ot rfl (OT.alloc rfl Zr91 fun b4 => ?_)
 refine RG.mr rfl (RG.nil (WP.sr (RG.p (PV.loadW rfl Ag35 rfl rfl) (RG.ml rfl ?_))))
 refine RG.callF (vs := [_, _]) rfl rfl En79 rfl (flat_i hL.up hlen (fun w14 => ?_))
 refine RG.p (PV.move (v := .tuple _) rfl rfl) (RG.p (PV.ext (v := w14) rfl rfl rfl) (RG.p (PV.ext rfl rfl rfl) (RG.p (PV.asg (v := w14) rfl rfl) (RG.mr rfl (RG.nil ?_)))))
 refine WP.cut1 [4, 6] (fun (q : Int) => q = bndE (erCls l.cells.xs) cell) (fun (q : Int) => [(7, vi q)]) (fun (q : Int) => blk b4 91 [vi 0, vi 0, vi 0, vi 0] :: osl 155 shapeT w14 (shR (erCls l.cells.xs) cell) :: L) ?_ ?_
 refine WP.sr (RG.ml rfl (RG.p (PV.eql rfl rfl rfl) (RG.bl rfl ?_)))
 refine RG.g rfl (fun hp => (PV.move (v := w14) rfl rfl)) ?_
 refine RG.g rfl (fun hp => (PV.len (v := w14) rfl Tryz.underlying111 (gs_t hp) SlF.o)) ?_
 refine RG.g rfl (fun hp => (PV.eql rfl (gs_t hp) rfl)) ?_
 refine RG.p (PV.pickA rfl rfl (fun hq => gs_t (geqT hq)) rfl) (RG.nil ?_)
 refine WP.cond rfl (fun h1 => ?_) (fun h1 => ?_)
 ·have h1 : shE (erCls l.cells.xs) cell = 0 ∧ (shR (erCls l.cells.xs) cell).length = 0 := by simpa using h1
  refine WP.region (RG.mr rfl (RG.nil ?_))
  exact ⟨rfl, 5, (by rw [bndE, decide_eq_true h1.1, decide_eq_true h1.2]; rfl), ⟨rfl, trivial⟩, ⟨rfl, rfl, trivial⟩, Cv.p⟩
 ·have h1 : (decide (shE (erCls l.cells.xs) cell = 0) && decide ((shR (erCls l.cells.xs) cell).length = 0)) = false := by
   rw [← h1]; congr 1; rw [decide_eq_decide]; omega
  refine WP.skip ?_
  exact ⟨rfl, (shE (erCls l.cells.xs) cell), (by rw [bndE, h1]; rfl), ⟨rfl, trivial⟩, ⟨rfl, rfl, trivial⟩, Cv.p⟩
 rintro q τ0 hq
 subst hq
 refine WP.seq (WP.sr (RG.ml rfl (RG.p (PV.neq rfl rfl rfl) (RG.nil ?_))))
 refine WP.cond rfl (fun h2 => ?_) (fun h2 => ?_)
 ·have h2 : bndE (erCls l.cells.xs) cell ≠ 0 := by simpa using h2
  rw [bndR_no h2] at k
  refine WP.sr (RG.p (PV.build (vs := []) (out := [_, _, _, _]) rfl Zr91 Pl91 trivial rfl) (RG.ml rfl ?_))
  refine RG.ot rfl (OT.storeW (vs := [vi _, vi _, vi _, vi _]) rfl Sz91 rfl rfl (Cl.c rfl) rfl rfl (OneC.c rfl) ?_)
  refine RG.mr rfl (RG.nil ?_)
  exact WP.ret ⟨_, _, ResV.two rfl (RV1.cell rfl Ag91 rfl) rfl, Cv.p, k⟩
 ·have h2 : bndE (erCls l.cells.xs) cell = 0 := by simpa using h2
  have hpos := (bndE_zero h2).2
  rw [bndR_ok h2, h2] at k
  refine WP.skip (WP.sr ?_)
  refine RG.ot rfl (OT.bslice (F := rectT) (els := []) rfl El50 rfl (by decide) rfl (by decide) trivial fun v28 => ?_)
  refine RG.p (PV.asg (v := v28) rfl rfl) (RG.nil (WP.seq (WP.sr (RG.p (PV.move (v := w14) rfl rfl) (RG.p (PV.len (v := w14) rfl Tryz.underlying111 rfl SlF.o) (RG.ml rfl (RG.nil (WP.block ?_))))))))
  refine WP.cv (Cv.eqS (ys := ((shR (erCls l.cells.xs) cell).take 0).map Shape.box) rfl) ?_
  refine WP.loop2 [4, 29, 30] (fun (i : Nat) (v : Value) => i ≤ (shR (erCls l.cells.xs) cell).length) (fun (i : Nat) (v : Value) => [(31, vi i), (8, v)]) (fun (i : Nat) (v : Value) => osl 91 rectT v (((shR (erCls l.cells.xs) cell).take i).map Shape.box) :: osl 155 shapeT w14 (shR (erCls l.cells.xs) cell) :: blk b4 91 [vi 0, vi 0, vi 0, vi 0] :: L) (fun (i : Nat) (v : Value) => (shR (erCls l.cells.xs) cell).length - i) 0 v28 (by omega) ⟨rfl, rfl, trivial⟩ Cv.p ?_
  rintro i v τ hi
  refine WP.sr (RG.p (PV.lss rfl rfl rfl) (RG.nil (WP.seq ?_)))
  refine WP.cond rfl (fun h3 => ?_) (fun h3 => ?_)
  ·have h3 := of_decide_eq_true h3
   have hll : (((shR (erCls l.cells.xs) cell).take i).map Shape.box).length ≤ 4800 := by rw [List.length_map, List.length_take]; omega
   refine WP.skip (WP.seq (WP.block (WP.sr (RG.p (PV.idxS (v := w14) rfl Is111 rfl SlF.o rfl rfl (by omega)) (RG.p (PV.loadE rfl Ag155 rfl rfl (El.o (getG (by omega)))) ?_)))))
   refine RG.ot rfl (OT.alloc rfl Zr155 fun b10 => ?_)
   refine RG.ot rfl (OT.storeW (vs := [vi _, vi _, vi _, vi _, vi _]) rfl Sz155 rfl rfl (Cl.c rfl) rfl rfl (OneC.c rfl) ?_)
   refine RG.nil (WP.region (RG.p (PV.move (v := v) rfl rfl) (RG.p (PV.field rfl Fo155_1 rfl) (RG.p (PV.loadB (vs := [_, _, _, _]) rfl Ag91 rfl rfl rfl) ?_))))
   refine RG.ot rfl (OT.bslice (F := rectT) (els := [_]) rfl El50 rfl (by decide) rfl (by decide) ⟨rfl, (Cl.c rfl), trivial⟩ fun v38 => ?_)
   refine RG.ot rfl (OT.append (v := v) (u := v38) (F := rectT) rfl El50 rfl (by decide) rfl rfl Rs.o (OneL.c (fun _ => rfl)) rfl (by first | omega | (simp <;> omega)) fun v39 => ?_)
   refine RG.p (PV.asg (v := v39) rfl rfl) (RG.nil (WP.region (RG.p (PV.add rfl rfl rfl (by omega)) (RG.ml rfl (RG.nil ?_)))))
   exact ⟨rfl, i + 1, v39, (by omega), ⟨rfl, rfl, trivial⟩, ⟨rfl, rfl, rfl, trivial⟩, ((Cv.p (C := osl 91 rectT v39 (((shR (erCls l.cells.xs) cell).take i).map Shape.box ++ [(gd (shR (erCls l.cells.xs) cell) i).box]) :: osl 155 shapeT w14 (shR (erCls l.cells.xs) cell) :: blk b4 91 [vi 0, vi 0, vi 0, vi 0] :: L)).trans (Cv.eqS (by rw [List.take_add_one, getG (show i < (shR (erCls l.cells.xs) cell).length by omega), List.map_append]; rfl))), by omega⟩
  ·have h3 := of_decide_eq_false h3
   have e : (shR (erCls l.cells.xs) cell).take i = shR (erCls l.cells.xs) cell := List.take_of_length_le (by omega)
   rw [e]
   refine WP.exit ?_
   refine WP.sr (RG.p (PV.move (v := v) rfl rfl) ?_)
   refine RG.callF (vs := [v]) rfl rfl En205 rfl (boxOf_s Rs.o (by rw [List.length_map]; exact hpos) ?_)
   refine RG.ot rfl (OT.storeW (vs := [vi _, vi _, vi _, vi _]) rfl Sz91 rfl rfl (Cl.c rfl) rfl rfl (OneC.c rfl) ?_)
   refine RG.mr rfl (RG.nil ?_)
   exact WP.ret ⟨_, _, ResV.two rfl (RV1.cell rfl Ag91 rfl) rfl, Cv.p, k⟩
theorem l10Hull_r {p q : Rect} (k : R (vrect (joinR p q)) G L) : CallT Tryz.prog 193 #[vrect p, vrect q] G L R := by
 refine CallT.enter (args := _) Tryz.func193 rfl rfl (by kernel_rfl) rfl ?_
 refine WP.sr ?_
 refine RG.ot rfl (OT.box (cs := rectT.enc p) rfl rfl rfl fun b2 => ?_)
 refine RG.ot rfl (OT.box (cs := rectT.enc q) rfl rfl rfl fun b3 => ?_)
 refine RG.ot rfl (OT.alloc rfl Zr91 fun b4 => ?_)
 refine RG.nil (WP.sr (RG.p (PV.field rfl Fo91_0 rfl) (RG.p (PV.load1 rfl Sc2 rfl (Rd.blk rfl)) (RG.p (PV.field rfl Fo91_0 rfl) (RG.p (PV.load1 rfl Sc2 rfl (Rd.blk rfl)) (RG.p (PV.min2 rfl rfl rfl) (RG.p (PV.field rfl Fo91_1 rfl) (RG.p (PV.load1 rfl Sc2 rfl (Rd.blk rfl)) (RG.p (PV.field rfl Fo91_1 rfl) (RG.p (PV.load1 rfl Sc2 rfl (Rd.blk rfl)) (RG.p (PV.min2 rfl rfl rfl) (RG.p (PV.field rfl Fo91_2 rfl) ?_))))))))))))
 refine RG.p (PV.load1 rfl Sc2 rfl (Rd.blk rfl)) (RG.p (PV.field rfl Fo91_2 rfl) (RG.p (PV.load1 rfl Sc2 rfl (Rd.blk rfl)) (RG.p (PV.max2 rfl rfl rfl) (RG.p (PV.field rfl Fo91_3 rfl) (RG.p (PV.load1 rfl Sc2 rfl (Rd.blk rfl)) (RG.p (PV.field rfl Fo91_3 rfl) (RG.p (PV.load1 rfl Sc2 rfl (Rd.blk rfl)) (RG.p (PV.max2 rfl rfl rfl) (RG.p (PV.build (vs := [(0, [vi _]), (1, [vi _]), (2, [vi _]), (3, [vi _])]) (out := [_, _, _, _]) rfl Zr91 Pl91 ⟨rfl, (Cl.c rfl), ⟨rfl, (Cl.c rfl), ⟨rfl, (Cl.c rfl), ⟨rfl, (Cl.c rfl), trivial⟩⟩⟩⟩ rfl) ?_)))))))))
 refine RG.ot rfl (OT.storeW (vs := [vi _, vi _, vi _, vi _]) rfl Sz91 rfl rfl (Cl.c rfl) rfl rfl (OneC.c rfl) ?_)
 refine RG.nil ?_
 exact WP.ret ⟨_, _, ResV.one rfl (RV1.cell rfl Ag91 rfl), Cv.p, k⟩
theorem bnd_r {l : Lib} {cell : Int} (hL : RLib G L l.cells.v l.cells.xs) (hlen : lenC (erCls l.cells.xs)) (k : R (.tuple #[vrect (bndR (erCls l.cells.xs) cell), vi (bndE (erCls l.cells.xs) cell)]) G L) : CallT Tryz.prog 110 #[vT libT l, vi cell] G L R := by
 have hsl := shR_len (erCls l.cells.xs) cell
 refine CallT.enter (args := _) Tryz.func110 rfl rfl (by kernel_rfl) rfl ?_
 refine WP.sr ?_
 refine RG.ot rfl (OT.box (cs := libT.enc l) rfl rfl rfl fun b2 => ?_)
 refine RG.ot rfl (OT.alloc rfl Zr91 fun b4 => ?_)
 refine RG.mr rfl (RG.nil (WP.sr (RG.p (PV.loadW rfl Ag35 rfl rfl) (RG.ml rfl ?_))))
 refine RG.callF (vs := [_, _]) rfl rfl En72 rfl (flat_r hL.up hlen (fun w13 => ?_))
 refine RG.p (PV.move (v := .tuple _) rfl rfl) (RG.p (PV.ext (v := w13) rfl rfl rfl) (RG.p (PV.ext rfl rfl rfl) (RG.p (PV.asg (v := w13) rfl rfl) (RG.mr rfl (RG.nil (WP.seq (WP.sr (RG.ml rfl (RG.p (PV.neq rfl rfl rfl) (RG.nil ?_))))))))))
 refine WP.cond rfl (fun h1 => ?_) (fun h1 => ?_)
 ·have h1 : shE (erCls l.cells.xs) cell ≠ 0 := by simpa using h1
  have e : bndE (erCls l.cells.xs) cell = shE (erCls l.cells.xs) cell := by rw [bndE, decide_eq_false h1]; rfl
  rw [bndR_no (by rw [e]; exact h1), e] at k
  refine WP.sr (RG.p (PV.build (vs := []) (out := [_, _, _, _]) rfl Zr91 Pl91 trivial rfl) (RG.ml rfl ?_))
  refine RG.ot rfl (OT.storeW (vs := [vi _, vi _, vi _, vi _]) rfl Sz91 rfl rfl (Cl.c rfl) rfl rfl (OneC.c rfl) ?_)
  refine RG.mr rfl (RG.nil ?_)
  exact WP.ret ⟨_, _, ResV.two rfl (RV1.cell rfl Ag91 rfl) rfl, Cv.p, k⟩
 ·have h1 : shE (erCls l.cells.xs) cell = 0 := by simpa using h1
  refine WP.skip (WP.seq (WP.sr (RG.p (PV.move (v := w13) rfl rfl) (RG.p (PV.len (v := w13) rfl Tryz.underlying111 rfl SlF.o) (RG.p (PV.eql rfl rfl rfl) (RG.nil ?_))))))
  refine WP.cond rfl (fun h2 => ?_) (fun h2 => ?_)
  ·have h2 : (shR (erCls l.cells.xs) cell).length = 0 := by simpa using h2
   have e : bndE (erCls l.cells.xs) cell = 5 := by rw [bndE, decide_eq_true h1, decide_eq_true h2]; rfl
   rw [bndR_no (by rw [e]; decide), e] at k
   refine WP.sr (RG.p (PV.build (vs := []) (out := [_, _, _, _]) rfl Zr91 Pl91 trivial rfl) ?_)
   refine RG.ot rfl (OT.storeW (vs := [vi _, vi _, vi _, vi _]) rfl Sz91 rfl rfl (Cl.c rfl) rfl rfl (OneC.c rfl) ?_)
   refine RG.mr rfl (RG.nil ?_)
   exact WP.ret ⟨_, _, ResV.two rfl (RV1.cell rfl Ag91 rfl) rfl, Cv.p, k⟩
  ·have h2 : ¬ (shR (erCls l.cells.xs) cell).length = 0 := by simpa using h2
   have e : bndE (erCls l.cells.xs) cell = 0 := by rw [bndE, decide_eq_false h2, Bool.and_false, cond_false, h1]
   have hpos : 0 < (shR (erCls l.cells.xs) cell).length := by omega
   have hml : ((shR (erCls l.cells.xs) cell).map Shape.box).length = (shR (erCls l.cells.xs) cell).length := by simp
   have hmg : ∀ j, j < (shR (erCls l.cells.xs) cell).length → gd ((shR (erCls l.cells.xs) cell).map Shape.box) j = (gd (shR (erCls l.cells.xs) cell) j).box := fun j hj => gd_map _ hj
   rw [bndR_ok e, e] at k
   refine WP.skip (WP.sr (RG.p (PV.move (v := w13) rfl rfl) (RG.p (PV.idxS (j := 0) (v := w13) rfl Is111 rfl SlF.o rfl (by omega) (by omega)) (RG.p (PV.field rfl Fo155_1 rfl) (RG.p (PV.loadEP rfl Ag91 rfl rfl (El.o (getG (by omega))) rfl) ?_)))))
   refine RG.ot rfl (OT.alloc rfl Zr91 fun b8 => ?_)
   refine RG.ot rfl (OT.storeW (vs := [vi _, vi _, vi _, vi _]) rfl Sz91 rfl rfl (Cl.c rfl) rfl rfl (OneC.c rfl) ?_)
   refine RG.nil (WP.seq (WP.sr (RG.mr rfl (RG.nil (WP.block ?_)))))
   refine WP.cv (Cv.p (C := blk b8 91 (rectT.enc (gd (shR (erCls l.cells.xs) cell) 0).box) :: osl 155 shapeT w13 (shR (erCls l.cells.xs) cell) :: blk b4 91 [vi 0, vi 0, vi 0, vi 0] :: L)) ?_
   refine WP.loop2 [4, 6, 8] (fun (i : Nat) (q : Rect) => (1 ≤ i ∧ i ≤ (shR (erCls l.cells.xs) cell).length) ∧ q = boxFrom (gd ((shR (erCls l.cells.xs) cell).map Shape.box) 0) (((shR (erCls l.cells.xs) cell).map Shape.box).take i)) (fun (i : Nat) (q : Rect) => [(9, vi i)]) (fun (i : Nat) (q : Rect) => blk b8 91 (rectT.enc q) :: osl 155 shapeT w13 (shR (erCls l.cells.xs) cell) :: blk b4 91 [vi 0, vi 0, vi 0, vi 0] :: L) (fun (i : Nat) (q : Rect) => (shR (erCls l.cells.xs) cell).length - i) 1 (gd (shR (erCls l.cells.xs) cell) 0).box ⟨by omega, by rw [boxFrom_one (by omega), hmg 0 hpos]⟩ ⟨rfl, trivial⟩ Cv.p ?_
   rintro i q τ ⟨hi, hq⟩
   refine WP.seq (WP.sr (RG.ml rfl (RG.p (PV.move (v := w13) rfl rfl) (RG.p (PV.len (v := w13) rfl Tryz.underlying111 rfl SlF.o) (RG.p (PV.lss rfl rfl rfl) (RG.nil ?_))))))
   refine WP.cond rfl (fun h3 => ?_) (fun h3 => ?_)
   ·have h3 := of_decide_eq_true h3
    refine WP.skip (WP.seq (WP.block ?_))
    refine WP.regionHD [.b b8] (.q 1 (.q 2 (.q 3 (.q 4 (.q 5 (.l 0 (.l 6 (.l 7 Sch.nil)))))))) (by kernel_rfl) (by kernel_rfl) (by kernel_rfl) rfl ?_
    refine RH.w rfl rfl (PV.move (v := w13) rfl rfl) (RH.w rfl rfl (PV.mvI (.inl rfl) rfl) (RH.w rfl rfl (PV.idxS (v := w13) rfl Is111 rfl SlF.o rfl rfl (by omega)) (RH.w rfl rfl (PV.field rfl Fo155_1 rfl) (RH.w rfl rfl (PV.loadEP rfl Ag91 rfl rfl (El.o (getG (by omega))) rfl) ?_))))
    refine RH.ot rfl rfl (OT.pv (PV.loadW rfl Ag91 rfl rfl) ⟨Gh.le_refl _, PickC.pick, ?_⟩)
    refine RH.ot rfl rfl (OT.callF (vs := [_, _]) rfl En193 rfl (l10Hull_r ⟨Gh.le_refl _, PickC.pick, ?_⟩))
    refine RH.ot rfl rfl (OT.storeW (vs := [vi _, vi _, vi _, vi _]) rfl Sz91 rfl rfl (Cl.c rfl) rfl rfl (OneC.c rfl) ⟨Gh.le_refl _, PickC.pick, ?_⟩)
    refine RH.nil ?_
    refine WP.region (RG.ml rfl (RG.p (PV.add rfl rfl rfl (by omega)) (RG.mr rfl (RG.nil ?_))))
    exact ⟨rfl, i + 1, _, ⟨by omega, by rw [boxFrom_take (by omega), ← hq, hmg i (by omega)]⟩, ⟨rfl, trivial⟩, ⟨rfl, rfl, rfl, trivial⟩, Cv.p, by omega⟩
   ·have h3 := of_decide_eq_false h3
    have e2 : boxL ((shR (erCls l.cells.xs) cell).map Shape.box) = q := by rw [hq, List.take_of_length_le (by omega)]; rfl
    rw [e2] at k
    refine WP.exit ?_
    refine WP.sr (RG.p (PV.loadW rfl Ag91 rfl rfl) ?_)
    refine RG.ot rfl (OT.storeW (vs := [vi _, vi _, vi _, vi _]) rfl Sz91 rfl rfl (Cl.c rfl) rfl rfl (OneC.c rfl) ?_)
    refine RG.mr rfl (RG.nil ?_)
    exact WP.ret ⟨_, _, ResV.two rfl (RV1.cell rfl Ag91 rfl) rfl, Cv.p, k⟩
end Go.Proofs.YtgphjofccckloaaGreat
namespace Go.Proofs.YtgphjofccckloaaGreat
open Go
set_option maxRecDepth 20000
variable {G : Gh} {L : List Ch} {R : Value → Gh → List Ch → Prop}
theorem rootOf_pos {o : EOcc} (h : 0 < o.path.length) : rootOf o = gd o.path 0 := by
 obtain ⟨c, p, q⟩ := o
 cases q with
 | nil => simp at h
 | cons a q => simp [rootOf, gd]
theorem rootOf_neg {o : EOcc} (h : ¬ 0 < o.path.length) : rootOf o = -1 := by
 obtain ⟨c, p, q⟩ := o
 cases q with
 | nil => rfl
 | cons a q => simp at h
theorem OccAt.root {xs : List Cell} {cell : Int} {zs : List Occ} {i m : Nat} (h : OccAt xs cell zs i) (hm : m < (gd xs (gd zs i).cell.toNat).shapes.xs.length) :
  (rootL (erCls xs) ((occR (erCls xs) cell).take i) ++ (rootAt (erCls xs) (gd (occR (erCls xs) cell) i)).take m).length < (flatL (erCls xs) (occR (erCls xs) cell)).length ∧ (rootAt (erCls xs) (gd (occR (erCls xs) cell) i)).take (m + 1) = (rootAt (erCls xs) (gd (occR (erCls xs) cell) i)).take m ++ [⟨rootOf (erO (gd zs i)), gd (flatL (erCls xs) (occR (erCls xs) cell)) (rootL (erCls xs) ((occR (erCls xs) cell).take i) ++ (rootAt (erCls xs) (gd (occR (erCls xs) cell) i)).take m).length⟩] := by
 have := rootAt_step (cs := erCls xs) (os := occR (erCls xs) cell) (i := i) (k := m) h.hi (by rw [h.ho]; simp only [erO, h.hs]; exact hm)
 refine ⟨this.1, ?_⟩
 rw [this.2, ← h.ho]
theorem OccAt.rlen {xs : List Cell} {cell : Int} {zs : List Occ} {i : Nat} (h : OccAt xs cell zs i) : (rootAt (erCls xs) (gd (occR (erCls xs) cell) i)).length = (gd xs (gd zs i).cell.toNat).shapes.xs.length := by
 rw [rootAt_len, h.ho]; simp only [erO, h.hs]
theorem rooted_i {l : Lib} {cell : Int} (hL : RLib G L l.cells.v l.cells.xs) (hlen : lenC (erCls l.cells.xs)) (k : ∀ v', R (.tuple #[v', vi (shE (erCls l.cells.xs) cell)]) G (osl 168 rshapeT v' (rootR (erCls l.cells.xs) cell) :: L)) : CallT Tryz.prog 62 #[vT libT l, vi cell] G L R := by
 have hE := erCls_len l.cells.xs
 refine CallT.enter (args := _) Tryz.func62 rfl rfl (by kernel_rfl) rfl ?_
 refine WP.sr ?_
 refine RG.ot rfl (OT.box (cs := libT.enc l) rfl rfl rfl fun b2 => ?_)
 refine RG.p (PV.asg rfl rfl) (RG.mr rfl (RG.nil (WP.sr (RG.p (PV.loadW rfl Ag35 rfl rfl) (RG.ml rfl ?_)))))
 refine RG.callF (vs := [_, _]) rfl rfl En79 rfl (flat_i hL.up hlen (fun w17 => ?_))
 refine RG.p (PV.move (v := .tuple _) rfl rfl) (RG.p (PV.ext (v := w17) rfl rfl rfl) (RG.p (PV.ext rfl rfl rfl) (RG.p (PV.asg (v := w17) rfl rfl) (RG.mr rfl (RG.nil (WP.seq (WP.sr (RG.ml rfl (RG.p (PV.neq rfl rfl rfl) (RG.nil ?_))))))))))
 refine WP.cond rfl (fun h1 => ?_) (fun h1 => ?_)
 ·have h1 : shE (erCls l.cells.xs) cell ≠ 0 := by simpa using h1
  have e2 : rootR (erCls l.cells.xs) cell = [] := by rw [rootR, decide_eq_false h1]; rfl
  rw [e2] at k
  refine WP.sr (RG.ml rfl (RG.p (PV.asg rfl rfl) (RG.mr rfl (RG.nil ?_))))
  exact WP.ret ⟨_, _, ResV.two rfl rfl rfl, Cv.p.trans Cv.nilS, k (.slice none 0 0)⟩
 ·have h1 : shE (erCls l.cells.xs) cell = 0 := by simpa using h1
  have e2 : rootR (erCls l.cells.xs) cell = rootL (erCls l.cells.xs) (occR (erCls l.cells.xs) cell) := by rw [rootR, decide_eq_true h1]; rfl
  have hsr := shR_ok h1
  have hfl := flatL_len (cs := (erCls l.cells.xs)) (cell := cell)
  rw [e2, h1] at k
  refine WP.skip (WP.sr (RG.p (PV.loadW rfl Ag35 rfl rfl) (RG.ml rfl ?_)))
  refine RG.callF (vs := [_, _]) rfl rfl En121 rfl (occ_i hL.up hlen (fun w26 zs he => ?_))
  refine RG.p (PV.move (v := .tuple _) rfl rfl) (RG.p (PV.ext (v := w26) rfl rfl rfl) (RG.p (PV.ext rfl rfl rfl) (RG.p (PV.asg (v := w26) rfl rfl) (RG.mr rfl (RG.nil (WP.sr ?_))))))
  refine RG.ot rfl (OT.bslice (F := rshapeT) (els := []) rfl El102 rfl (by decide) rfl (by decide) trivial fun v29 => ?_)
  refine RG.p (PV.asg (v := v29) rfl rfl) (RG.nil (WP.seq (WP.sr (RG.p (PV.move (v := w26) rfl rfl) (RG.p (PV.len (v := w26) rfl Tryz.underlying164 rfl SlF.o) (RG.ml rfl (RG.nil (WP.block ?_))))))))
  have hzl : zs.length = (occR (erCls l.cells.xs) cell).length := by rw [← he, erOs_len]
  refine WP.bdo w26 fun hbz => ?_
  refine WP.cv (Cv.eqS (ys := rootL (erCls l.cells.xs) ((occR (erCls l.cells.xs) cell).take 0)) rfl) ?_
  refine WP.loop2 [2, 6, 30, 31] (fun (i : Nat) (v : Value) => i ≤ zs.length) (fun (i : Nat) (v : Value) => [(32, vi i), (10, v)]) (fun (i : Nat) (v : Value) => osl 168 rshapeT v (rootL (erCls l.cells.xs) ((occR (erCls l.cells.xs) cell).take i)) :: osl 97 occT w26 zs :: bagS 2 intT (pths zs) :: osl 155 shapeT w17 (shR (erCls l.cells.xs) cell) :: blk b2 35 (libT.enc l) :: L) (fun (i : Nat) (v : Value) => zs.length - i) 0 v29 (by omega) ⟨rfl, rfl, trivial⟩ Cv.p ?_
  rintro i v τ hi
  refine WP.sr (RG.p (PV.lss rfl rfl rfl) (RG.nil (WP.seq ?_)))
  refine WP.cond rfl (fun h2 => ?_) (fun h2 => ?_)
  ·have h2 := of_decide_eq_true h2
   have h3 : i < zs.length := by omega
   have ha := OccAt.of (cell := cell) he h3
   have hrd : Rs G (bagS 2 intT (pths zs) :: []) intT (gd zs i).path.v (gd zs i).path.xs := RsE.path RsE.o h3
   have hac := ha.hc
   have hal := ha.hl
   have hsl := hL.sa ha.hc.2
   refine WP.skip (WP.seq (WP.block (WP.sr (RG.p (PV.idxS (v := w26) rfl Is164 rfl SlF.o rfl rfl (by omega)) (RG.p (PV.loadE rfl Ag97 rfl rfl (El.o (getG (by omega)))) ?_)))))
   refine RG.ot rfl (OT.alloc rfl Zr97 fun b12 => ?_)
   refine RG.ot rfl (OT.storeW (vs := [vi _, vi _, vi _, vi _, _]) rfl Sz97 rfl rfl (Cl.c rfl) rfl rfl (OneC.val rfl (OneC.val rfl (OneC.val rfl (OneC.val rfl (OneC.sl (SlF.r hrd) OneC.nil))))) ?_)
   refine RG.nil (WP.sr (RG.mr rfl (RG.nil ?_)))
   refine WP.cut1 [2, 6, 10, 12, 30, 31, 32] (fun (rt : Int) => rt = rootOf (erO (gd zs i))) (fun (rt : Int) => [(13, vi rt)]) (fun (rt : Int) => osl 168 rshapeT v (rootL (erCls l.cells.xs) ((occR (erCls l.cells.xs) cell).take i)) :: osl 97 occT w26 zs :: bagS 2 intT (pths zs) :: osl 155 shapeT w17 (shR (erCls l.cells.xs) cell) :: blk b2 35 (libT.enc l) :: blk b12 97 (occT.enc (gd zs i)) :: L) ?_ ?_
   refine WP.sr (RG.p (PV.field rfl Fo97_2 rfl) (RG.p (PV.load1 rfl Sc30 rfl (Rd.blk rfl)) (RG.p (PV.len rfl Tryz.underlying30 rfl (SlF.r hrd)) (RG.p (PV.gtr rfl rfl rfl) (RG.nil ?_)))))
   refine WP.cond rfl (fun h4 => ?_) (fun h4 => ?_)
   ·have h4 := of_decide_eq_true h4
    refine WP.region (RG.p (PV.field rfl Fo97_2 rfl) (RG.p (PV.load1 rfl Sc30 rfl (Rd.blk rfl)) (RG.p (PV.idxS (j := 0) rfl Is30 rfl (SlF.r hrd) rfl (by omega) (by omega)) (RG.p (PV.loadE1 rfl Sc2 rfl rfl (El.r hrd (getG (by omega))) rfl) (RG.mr rfl (RG.nil ?_))))))
    exact ⟨rfl, (gd (gd zs i).path.xs 0), (rootOf_pos (o := erO (gd zs i)) (by simp only [erO]; omega)).symm, ⟨rfl, trivial⟩, ⟨rfl, rfl, rfl, rfl, rfl, rfl, rfl, trivial⟩, Cv.p⟩
   ·have h4 := of_decide_eq_false h4
    refine WP.skip ?_
    exact ⟨rfl, (-1), (rootOf_neg (o := erO (gd zs i)) (by simp only [erO]; omega)).symm, ⟨rfl, trivial⟩, ⟨rfl, rfl, rfl, rfl, rfl, rfl, rfl, trivial⟩, Cv.p⟩
   rintro rt τ2 hrt
   refine WP.sr (RG.p (PV.field rfl Fo35_0 rfl) (RG.p (PV.load1 rfl Sc33 rfl (Rd.blk rfl)) (RG.p (PV.field rfl Fo97_0 rfl) (RG.p (PV.load1 rfl Sc2 rfl (Rd.blk rfl)) (RG.p (PV.idxS (j := (gd zs i).cell.toNat) rfl Is33 rfl (SlF.r hL.c) rfl (by omega) (by omega)) (RG.p (PV.field rfl Fo115_1 rfl) (RG.p (PV.loadF rfl Sc111 rfl rfl (El.r hL.c (getG (by omega))) rfl) (RG.p (PV.len rfl Tryz.underlying111 rfl (SlF.r hsl)) (RG.ml rfl (RG.nil (WP.block ?_)))))))))))
   subst hrt
   refine WP.cv (Cv.eqS (ys := rootL (erCls l.cells.xs) ((occR (erCls l.cells.xs) cell).take i) ++ (rootAt (erCls l.cells.xs) (gd (occR (erCls l.cells.xs) cell) i)).take 0) (by simp)) ?_
   refine WP.loop2 [2, 6, 13, 30, 31, 32, 51] (fun (m : Nat) (v : Value) => m ≤ (gd l.cells.xs (gd zs i).cell.toNat).shapes.xs.length) (fun (m : Nat) (v : Value) => [(52, vi m), (10, v)]) (fun (m : Nat) (v : Value) => osl 168 rshapeT v (rootL (erCls l.cells.xs) ((occR (erCls l.cells.xs) cell).take i) ++ (rootAt (erCls l.cells.xs) (gd (occR (erCls l.cells.xs) cell) i)).take m) :: osl 97 occT w26 zs :: bagS 2 intT (pths zs) :: osl 155 shapeT w17 (shR (erCls l.cells.xs) cell) :: blk b2 35 (libT.enc l) :: blk b12 97 (occT.enc (gd zs i)) :: L) (fun (m : Nat) (v : Value) => (gd l.cells.xs (gd zs i).cell.toNat).shapes.xs.length - m) 0 v (by omega) ⟨rfl, rfl, trivial⟩ Cv.p ?_
   rintro m v τ hm
   refine WP.sr (RG.p (PV.lss rfl rfl rfl) (RG.nil (WP.seq ?_)))
   refine WP.cond rfl (fun h5 => ?_) (fun h5 => ?_)
   ·have h5 := of_decide_eq_true h5
    obtain ⟨q1, q2⟩ := ha.root (m := m) (by omega)
    rw [← hsr] at q1 q2
    have hx := q1
    have hs2 := shR_len (erCls l.cells.xs) cell
    rw [List.length_append, List.length_take] at hx
    refine WP.skip (WP.seq (WP.block (WP.region (RG.p (PV.move (v := v) rfl rfl) (RG.ml rfl (RG.p (PV.move (v := w17) rfl rfl) (RG.p (PV.move (v := v) rfl rfl) (RG.p (PV.len (v := v) rfl Tryz.underlying102 rfl SlF.o) (RG.p (PV.idxS (v := w17) rfl Is111 rfl SlF.o rfl rfl (by omega)) (RG.p (PV.loadE rfl Ag155 rfl rfl (El.o (getG (by omega)))) (RG.p (PV.build (vs := [(0, [vi _]), (1, [vi _, vi _, vi _, vi _, vi _])]) (out := [_, _, _, _, _, _]) rfl Zr168 Pl168 ⟨rfl, (Cl.c rfl), ⟨rfl, (Cl.c rfl), trivial⟩⟩ rfl) ?_)))))))))))
    refine RG.ot rfl (OT.bslice (F := rshapeT) (els := [⟨rootOf (erO (gd zs i)), gd (shR (erCls l.cells.xs) cell) (rootL (erCls l.cells.xs) ((occR (erCls l.cells.xs) cell).take i) ++ (rootAt (erCls l.cells.xs) (gd (occR (erCls l.cells.xs) cell) i)).take m).length⟩]) rfl El102 rfl (by decide) rfl (by decide) ⟨rfl, (Cl.c rfl), trivial⟩ fun v62 => ?_)
    refine RG.ot rfl (OT.append (v := v) (u := v62) (F := rshapeT) rfl El102 rfl (by decide) rfl rfl Rs.o (OneL.c (fun _ => rfl)) rfl (by first | omega | (simp <;> omega)) fun v63 => ?_)
    refine RG.p (PV.asg (v := v63) rfl rfl) (RG.nil (WP.region (RG.p (PV.add rfl rfl rfl (by omega)) (RG.ml rfl (RG.nil ?_)))))
    exact ⟨rfl, m + 1, v63, (by omega), ⟨rfl, rfl, trivial⟩, ⟨rfl, rfl, rfl, rfl, rfl, rfl, rfl, trivial⟩, ((Cv.p (C := osl 168 rshapeT v63 (rootL (erCls l.cells.xs) ((occR (erCls l.cells.xs) cell).take i) ++ (rootAt (erCls l.cells.xs) (gd (occR (erCls l.cells.xs) cell) i)).take m ++ [⟨rootOf (erO (gd zs i)), gd (shR (erCls l.cells.xs) cell) (rootL (erCls l.cells.xs) ((occR (erCls l.cells.xs) cell).take i) ++ (rootAt (erCls l.cells.xs) (gd (occR (erCls l.cells.xs) cell) i)).take m).length⟩]) :: osl 97 occT w26 zs :: bagS 2 intT (pths zs) :: osl 155 shapeT w17 (shR (erCls l.cells.xs) cell) :: blk b2 35 (libT.enc l) :: blk b12 97 (occT.enc (gd zs i)) :: L)).trans (Cv.eqS (by rw [List.append_assoc, ← q2]))), by omega⟩
   ·have h5 := of_decide_eq_false h5
    have e : rootL (erCls l.cells.xs) ((occR (erCls l.cells.xs) cell).take i) ++ (rootAt (erCls l.cells.xs) (gd (occR (erCls l.cells.xs) cell) i)).take m = rootL (erCls l.cells.xs) ((occR (erCls l.cells.xs) cell).take (i + 1)) := by rw [List.take_of_length_le (i := m) (l := rootAt (erCls l.cells.xs) (gd (occR (erCls l.cells.xs) cell) i)) (by rw [ha.rlen]; omega), rootL_take ha.hi]
    refine WP.exit ?_
    refine WP.region (RG.p (PV.add rfl rfl rfl (by omega)) (RG.ml rfl (RG.nil ?_)))
    exact ⟨rfl, i + 1, v, (by omega), ⟨rfl, rfl, trivial⟩, ⟨rfl, rfl, rfl, rfl, trivial⟩, ((Cv.eqS e).trans Cv.p), by omega⟩
  ·have h2 := of_decide_eq_false h2
   have e : rootL (erCls l.cells.xs) ((occR (erCls l.cells.xs) cell).take i) = rootL (erCls l.cells.xs) (occR (erCls l.cells.xs) cell) := by rw [List.take_of_length_le (by omega)]
   rw [e]
   refine WP.exit ?_
   refine WP.sr (RG.p (PV.move (v := v) rfl rfl) (RG.p (PV.asg (v := v) rfl rfl) (RG.mr rfl (RG.nil ?_))))
   exact WP.ret ⟨_, _, ResV.two rfl rfl rfl, Cv.p, k v⟩
theorem elN_ns {xs : List Cell} {cell : Int} (hc : cell.toNat < xs.length) : elN (erCls xs) cell = (elems (gd xs cell.toNat).insts.xs).length := by rw [elN, erCl_insts hc]
def pickR (rs : List RShape) (f : Int → Bool) : List Shape := (rs.filter fun x => f x.root).map RShape.shape
end Go.Proofs.YtgphjofccckloaaGreat
namespace Go.Proofs.YtgphjofccckloaaGreat
open Go
set_option maxRecDepth 20000
set_option maxHeartbeats 2000000
variable {G : Gh} {L : List Ch} {R : Value → Gh → List Ch → Prop}
theorem l21Has_s {v : Value} {ls : List Int} {n : Int} (h1 : Rs G L intT v ls) (k : R (.bool (ls.any fun a => decide (a = n))) G L) : CallT Tryz.prog 195 #[v, vi n] G L R := by
 refine CallT.bd h1 fun hb => ?_
 refine CallT.enter (args := _) Tryz.func195 rfl rfl (by kernel_rfl) rfl ?_
 refine WP.sr (RG.br rfl (RG.nil (WP.seq (WP.sr (RG.mr rfl (RG.nil (WP.block ?_)))))))
 refine WP.loop1 [0, 1] (fun i => i ≤ ls.length ∧ ∀ j, j < i → decide (gd ls j = n) = false) (fun i => [(5, vi i)]) (fun i => L) (fun i => ls.length - i) 0 ⟨by omega, fun j h => by omega⟩ ⟨rfl, trivial⟩ Cv.p ?_
 rintro i τ ⟨hi, hj⟩
 refine WP.seq (WP.sr (RG.ml rfl (RG.p (PV.move (v := v) rfl rfl) (RG.p (PV.len (v := v) rfl Tryz.underlying30 rfl (SlF.r h1)) (RG.p (PV.lss rfl rfl rfl) (RG.nil ?_))))))
 refine WP.cond rfl (fun h2 => ?_) (fun h2 => ?_)
 ·have h2 := of_decide_eq_true h2
  refine WP.skip (WP.seq (WP.block (WP.sr (RG.p (PV.move (v := v) rfl rfl) (RG.ml rfl (RG.p (PV.idxS (v := v) rfl Is30 rfl (SlF.r h1) rfl rfl (by omega)) (RG.p (PV.loadE1 rfl Sc2 rfl rfl (El.r h1 (getG (by omega))) rfl) (RG.ml rfl (RG.p (PV.eql rfl rfl rfl) (RG.nil ?_))))))))))
  refine WP.cond rfl (fun h3 => ?_) (fun h3 => ?_)
  ·have e : (ls.any fun a => decide (a = n)) = true := List.any_eq_true.2 ⟨gd ls i, gd_mem (by omega), h3⟩
   rw [e] at k
   refine WP.sr (RG.br rfl (RG.nil ?_))
   exact WP.ret ⟨_, _, ResV.one rfl rfl, Cv.p, k⟩
  ·have hj' : ∀ j, j < i + 1 → decide (gd ls j = n) = false := fun j h => by
    by_cases c : j = i
    ·rw [c]; exact h3
    ·exact hj j (by omega)
   refine WP.skip (WP.region (RG.ml rfl (RG.p (PV.add rfl rfl rfl (by omega)) (RG.mr rfl (RG.nil ?_)))))
   exact ⟨rfl, i + 1, ⟨by omega, hj'⟩, ⟨rfl, trivial⟩, ⟨rfl, rfl, trivial⟩, Cv.p, by omega⟩
 ·have h2 := of_decide_eq_false h2
  have e : (ls.any fun a => decide (a = n)) = false := by
   rw [List.any_eq_false]
   intro a ha
   obtain ⟨j, hj2, rfl⟩ := List.getElem_of_mem ha
   have := hj j (by omega)
   rw [gd_eq hj2] at this
   simpa using this
  rw [e] at k
  refine WP.exit ?_
  refine WP.sr (RG.br rfl (RG.nil ?_))
  exact WP.ret ⟨_, _, ResV.one rfl rfl, Cv.p, k⟩
def selS (ls : List Int) (o : EOcc) : Bool := decide (0 < (o.path.length : Int)) && ls.any fun a => decide (a = gd o.path 0)
def selL (cs : List ECell) (os : List EOcc) (ls : List Int) (b : Bool) : List Shape := os.flatMap fun o => if (selS ls o == b) = true then flatOf cs o else []
theorem selL_take {cs : List ECell} {os : List EOcc} {ls : List Int} {b : Bool} {i : Nat} (h : i < os.length) : selL cs (os.take (i + 1)) ls b = selL cs (os.take i) ls b ++ (if (selS ls (gd os i) == b) = true then flatOf cs (gd os i) else []) := by
 rw [selL, selL, List.take_add_one, getG h, List.flatMap_append]; simp
theorem selL_len (cs : List ECell) (ls : List Int) (b : Bool) (os : List EOcc) : (selL cs os ls b).length ≤ (flatL cs os).length := by
 induction os with
 | nil => simp [selL, flatL]
 | cons o os ih =>
  have e1 : selL cs (o :: os) ls b = (if (selS ls o == b) = true then flatOf cs o else []) ++ selL cs os ls b := rfl
  have e2 : flatL cs (o :: os) = flatOf cs o ++ flatL cs os := rfl
  rw [e1, e2, List.length_append, List.length_append]
  split
  ·omega
  ·simp only [List.length_nil]; omega
theorem selL_mem {cs : List ECell} {os : List EOcc} {ls : List Int} {b : Bool} {s : Shape} (h : s ∈ selL cs os ls b) : s ∈ flatL cs os := by
 obtain ⟨o, ho, hs⟩ := List.mem_flatMap.1 h
 split at hs
 ·exact List.mem_flatMap.2 ⟨o, ho, hs⟩
 ·cases hs
theorem l21Shapes_s {l : Lib} {cell : Int} {v : Value} {ls : List Int} {b : Bool} (hL : RLib G L l.cells.v l.cells.xs) (hlen : lenC (erCls l.cells.xs)) (h2 : Rs G L intT v ls) (k : ∀ v', R v' G (osl 155 shapeT v' (selL (erCls l.cells.xs) (occR (erCls l.cells.xs) cell) ls b) :: L)) : CallT Tryz.prog 114 #[vT libT l, vi cell, v, .bool b] G L R := by
 have hE := erCls_len l.cells.xs
 have hfl := flatL_len (cs := (erCls l.cells.xs)) (cell := cell)
 refine CallT.enter (args := _) Tryz.func114 rfl rfl (by kernel_rfl) rfl ?_
 refine WP.sr ?_
 refine RG.ot rfl (OT.box (cs := libT.enc l) rfl rfl rfl fun b4 => ?_)
 refine RG.p (PV.asg rfl rfl) (RG.nil (WP.sr ?_))
 refine RG.ot rfl (OT.bslice (F := shapeT) (els := []) rfl El111 rfl (by decide) rfl (by decide) trivial fun v16 => ?_)
 refine RG.p (PV.asg (v := v16) rfl rfl) (RG.nil (WP.sr (RG.p (PV.loadW rfl Ag35 rfl rfl) (RG.ml rfl ?_))))
 refine RG.callF (vs := [_, _]) rfl rfl En141 rfl (occ_r hL.up hlen (fun w20 zs he => ?_))
 refine RG.p (PV.move (v := .tuple _) rfl rfl) (RG.p (PV.ext (v := w20) rfl rfl rfl) (RG.p (PV.ext rfl rfl rfl) (RG.p (PV.asg (v := w20) rfl rfl) (RG.mr rfl (RG.nil (WP.seq (WP.sr (RG.mr rfl (RG.nil (WP.block ?_))))))))))
 have hzl : zs.length = (occR (erCls l.cells.xs) cell).length := by rw [← he, erOs_len]
 refine WP.bdo w20 fun hbz => ?_
 refine WP.cv ((Cv.p (C := osl 155 shapeT v16 [] :: osl 97 occT w20 zs :: bagS 2 intT (pths zs) :: blk b4 35 (libT.enc l) :: L)).trans (Cv.eqS (ys := selL (erCls l.cells.xs) ((occR (erCls l.cells.xs) cell).take 0) ls b) rfl)) ?_
 refine WP.loop2 [2, 3, 4, 10] (fun (i : Nat) (v2 : Value) => i ≤ zs.length) (fun (i : Nat) (v2 : Value) => [(12, vi i), (9, v2)]) (fun (i : Nat) (v2 : Value) => osl 155 shapeT v2 (selL (erCls l.cells.xs) ((occR (erCls l.cells.xs) cell).take i) ls b) :: osl 97 occT w20 zs :: bagS 2 intT (pths zs) :: blk b4 35 (libT.enc l) :: L) (fun (i : Nat) (v2 : Value) => zs.length - i) 0 v16 (by omega) ⟨rfl, rfl, trivial⟩ Cv.p ?_
 rintro i v2 τ hi
 refine WP.seq (WP.sr (RG.ml rfl (RG.p (PV.move (v := w20) rfl rfl) (RG.p (PV.len (v := w20) rfl Tryz.underlying164 rfl SlF.o) (RG.p (PV.lss rfl rfl rfl) (RG.nil ?_))))))
 have hsl2 := selL_len (erCls l.cells.xs) ls b ((occR (erCls l.cells.xs) cell).take i)
 have hfb := flatL_bd (cs := (erCls l.cells.xs)) (cell := cell) i (by omega)
 refine WP.cond rfl (fun h3 => ?_) (fun h3 => ?_)
 ·have h3 := of_decide_eq_true h3
  have h4 : i < zs.length := by omega
  have ha := OccAt.of (cell := cell) he h4
  have hrd : Rs G (bagS 2 intT (pths zs) :: []) intT (gd zs i).path.v (gd zs i).path.xs := RsE.path RsE.o h4
  have hac := ha.hc
  have hal := ha.hl
  have hsl := hL.sa ha.hc.2
  have hselE : selS ls (gd (occR (erCls l.cells.xs) cell) i) = (decide (0 < ((gd zs i).path.xs.length : Int)) && ls.any fun a => decide (a = gd (gd zs i).path.xs 0)) := by rw [ha.ho]; rfl
  refine WP.skip (WP.seq (WP.block (WP.sr (RG.p (PV.move (v := w20) rfl rfl) (RG.ml rfl (RG.p (PV.idxS (v := w20) rfl Is164 rfl SlF.o rfl rfl (by omega)) (RG.p (PV.field rfl Fo97_2 rfl) (RG.p (PV.loadF rfl Sc30 rfl rfl (El.o (getG (by omega))) rfl) (RG.p (PV.len rfl Tryz.underlying30 rfl (SlF.r hrd)) (RG.p (PV.gtr rfl rfl rfl) (RG.bl rfl ?_)))))))))))
  refine RG.g rfl (fun hp => (PV.move (v := v) rfl rfl)) ?_
  refine RG.g rfl (fun hp => (PV.move (v := w20) rfl rfl)) ?_
  refine RG.g rfl (fun hp => (PV.mvI (.inl rfl) rfl)) ?_
  refine RG.g rfl (fun hp => (PV.idxS (v := w20) rfl Is164 (gs_t hp) SlF.o (gs_t hp) rfl (by first | omega | (simp at hp; omega)))) ?_
  refine RG.g rfl (fun hp => (PV.field rfl Fo97_2 (gs_t hp))) ?_
  refine RG.g rfl (fun hp => (PV.loadF rfl Sc30 (gs_t hp) rfl (El.o (getG (by first | omega | (simp at hp; omega)))) rfl)) ?_
  refine RG.g rfl (fun hp => (PV.idxS (j := 0) rfl Is30 (gs_t hp) (SlF.r hrd) rfl (by first | omega | (simp at hp; omega)) (by first | omega | (simp at hp; omega)))) ?_
  refine RG.g rfl (fun hp => (PV.loadE1 rfl Sc2 (gs_t hp) rfl (El.r hrd (getG (by first | omega | (simp at hp; omega)))) rfl)) ?_
  refine RG.gsC rfl rfl rfl rfl En195 (fun hp => ⟨_, (acons (gs_t hp) (acons (gs_t hp) anil)), l21Has_s (Rs.up h2) ⟨rfl, rfl, rfl⟩⟩) ?_
  refine RG.p (PV.pickA rfl rfl (fun hq => gs_t (geqT hq)) rfl) (RG.br rfl (RG.nil (WP.seq ?_)))
  refine WP.regionH0 (.q 0 (.q 1 (.q 2 (.q 3 (.q 4 (.q 5 (.q 6 (.q 7 (.q 8 (.l 9 (.l 10 Sch.nil))))))))))) (by kernel_rfl) (by kernel_rfl) (by kernel_rfl) rfl ?_
  refine RH.w rfl rfl (PV.field rfl Fo35_0 rfl) (RH.w rfl rfl (PV.load1 rfl Sc33 rfl (Rd.blk rfl)) (RH.w rfl rfl (PV.move (v := w20) rfl rfl) (RH.w rfl rfl (PV.mvI (.inl rfl) rfl) (RH.w rfl rfl (PV.idxS (v := w20) rfl Is164 rfl SlF.o rfl rfl (by omega)) (RH.w rfl rfl (PV.field rfl Fo97_0 rfl) (RH.w rfl rfl (PV.loadF rfl Sc2 rfl rfl (El.o (getG (by omega))) rfl) (RH.w rfl rfl (PV.idxS (j := (gd zs i).cell.toNat) rfl Is33 rfl (SlF.r hL.c) rfl (by omega) (by omega)) (RH.w rfl rfl (PV.loadE rfl Ag115 rfl rfl (El.r hL.c (getG (by omega)))) ?_))))))))
  refine RH.ot rfl rfl (OT.alloc rfl Zr115 fun b14 => ⟨Gh.le_refl _, PickC.pick, ?_⟩)
  refine RH.ot rfl rfl (OT.storeW (vs := [.string _, _, _, _]) rfl Sz115 rfl rfl (Cl.c rfl) rfl rfl (hL.one ha.hc.2) ⟨Gh.le_refl _, PickC.pick, ?_⟩)
  refine RH.nil ?_
  refine WP.sr (RG.mr rfl (RG.nil (WP.block ?_)))
  rw [← hselE]
  refine WP.cv ((Cv.p (C := osl 155 shapeT v2 (selL (erCls l.cells.xs) ((occR (erCls l.cells.xs) cell).take i) ls b) :: osl 97 occT w20 zs :: bagS 2 intT (pths zs) :: blk b4 35 (libT.enc l) :: blk b14 115 (cellT.enc (gd l.cells.xs (gd zs i).cell.toNat)) :: L)).trans (Cv.eqS (ys := selL (erCls l.cells.xs) ((occR (erCls l.cells.xs) cell).take i) ls b ++ (flatOf (erCls l.cells.xs) (gd (occR (erCls l.cells.xs) cell) i)).take 0) (by simp))) ?_
  refine WP.loop2 [2, 3, 4, 10, 12, 13, 14] (fun (m : Nat) (v3 : Value) => m ≤ (gd l.cells.xs (gd zs i).cell.toNat).shapes.xs.length ∧ ((selS ls (gd (occR (erCls l.cells.xs) cell) i) == b) = false → m = 0)) (fun (m : Nat) (v3 : Value) => [(15, vi m), (9, v3)]) (fun (m : Nat) (v3 : Value) => osl 155 shapeT v3 (selL (erCls l.cells.xs) ((occR (erCls l.cells.xs) cell).take i) ls b ++ (flatOf (erCls l.cells.xs) (gd (occR (erCls l.cells.xs) cell) i)).take m) :: osl 97 occT w20 zs :: bagS 2 intT (pths zs) :: blk b4 35 (libT.enc l) :: blk b14 115 (cellT.enc (gd l.cells.xs (gd zs i).cell.toNat)) :: L) (fun (m : Nat) (v3 : Value) => (gd l.cells.xs (gd zs i).cell.toNat).shapes.xs.length - m) 0 v2 ⟨by omega, fun _ => rfl⟩ ⟨rfl, rfl, trivial⟩ Cv.p ?_
  rintro m v3 τ ⟨hm, hq⟩
  refine WP.seq (WP.sr (RG.ml rfl (RG.p (PV.field rfl Fo115_1 rfl) (RG.p (PV.load1 rfl Sc111 rfl (Rd.blk rfl)) (RG.p (PV.len rfl Tryz.underlying111 rfl (SlF.r hsl)) (RG.p (PV.lss rfl rfl rfl) (RG.bl rfl ?_)))))))
  refine RG.g rfl (fun hp => (PV.mvB (.inl rfl) rfl)) ?_
  refine RG.g rfl (fun hp => (PV.mvB (.inl rfl) rfl)) ?_
  refine RG.g rfl (fun hp => (PV.eqlB rfl Tryz.underlying4 (gs_t hp) (gs_t hp))) ?_
  refine RG.p (PV.pickA rfl rfl (fun hq => gs_t (geqT hq)) rfl) (RG.nil ?_)
  refine WP.cond rfl (fun h5 => ?_) (fun h5 => ?_)
  ·have h5' : m < (gd l.cells.xs (gd zs i).cell.toNat).shapes.xs.length ∧ (selS ls (gd (occR (erCls l.cells.xs) cell) i) == b) = true := by
    have := h5; simp only [Bool.and_eq_true, decide_eq_true_eq] at this; exact ⟨by omega, by simpa using this.2⟩
   have hst := ha.step (m := m) h5'.1
   have hll : (selL (erCls l.cells.xs) ((occR (erCls l.cells.xs) cell).take i) ls b ++ (flatOf (erCls l.cells.xs) (gd (occR (erCls l.cells.xs) cell) i)).take m).length ≤ 6000 := by rw [List.length_append, List.length_take]; omega
   refine WP.skip (WP.seq (WP.block ?_))
   refine WP.regionHD [.s v3] (.q 0 (.q 1 (.q 2 (.q 3 (.q 4 (.q 5 (.q 6 (.q 7 (.q 8 (.q 9 (.q 10 (.q 11 (.q 12 (.q 13 (.q 14 (.q 15 (.q 16 (.q 17 (.l 18 (.q 19 (.l 20 (.l 21 (.q 22 Sch.nil))))))))))))))))))))))) (by kernel_rfl) (by kernel_rfl) (by kernel_rfl) rfl ?_
   refine RH.w rfl rfl (PV.move (v := v3) rfl rfl) (RH.w rfl rfl (PV.field rfl Fo115_1 rfl) (RH.w rfl rfl (PV.load1 rfl Sc111 rfl (Rd.blk rfl)) (RH.w rfl rfl (PV.mvI (.inl rfl) rfl) (RH.w rfl rfl (PV.idxS rfl Is111 rfl (SlF.r hsl) rfl rfl (by omega)) (RH.w rfl rfl (PV.field rfl Fo155_0 rfl) (RH.w rfl rfl (PV.loadF rfl Sc2 rfl rfl (El.r hsl (getG (by omega))) rfl) (RH.w rfl rfl (PV.move (v := w20) rfl rfl) (RH.w rfl rfl (PV.mvI (.inl rfl) rfl) (RH.w rfl rfl (PV.idxS (v := w20) rfl Is164 rfl SlF.o rfl rfl (by omega)) (RH.w rfl rfl (PV.field rfl Fo97_1 rfl) (RH.w rfl rfl (PV.loadEP rfl Ag95 rfl rfl (El.o (getG (by omega))) rfl) (RH.w rfl rfl (PV.field rfl Fo115_1 rfl) (RH.w rfl rfl (PV.load1 rfl Sc111 rfl (Rd.blk rfl)) ?_)))))))))))))
   refine RH.w rfl rfl (PV.mvI (.inl rfl) rfl) (RH.w rfl rfl (PV.idxS rfl Is111 rfl (SlF.r hsl) rfl rfl (by omega)) (RH.w rfl rfl (PV.field rfl Fo155_1 rfl) (RH.w rfl rfl (PV.loadEP rfl Ag91 rfl rfl (El.r hsl (getG (by omega))) rfl) ?_)))
   refine RH.ot rfl rfl (OT.callF (vs := [_, _]) rfl En111 rfl (moveRect_r ha.hp.1 ha.hp.2 (ha.hb m (by omega)) ⟨Gh.le_refl _, PickC.pick, ?_⟩))
   refine RH.w rfl rfl (PV.build (vs := [(0, [vi _]), (1, [vi _, vi _, vi _, vi _])]) (out := [_, _, _, _, _]) rfl Zr155 Pl155 ⟨rfl, (Cl.c rfl), ⟨rfl, (Cl.c rfl), trivial⟩⟩ rfl) ?_
   refine RH.ot rfl rfl (OT.bslice (F := shapeT) (els := [⟨(gd (gd l.cells.xs (gd zs i).cell.toNat).shapes.xs m).layer, moveR (gd zs i).place (gd (gd l.cells.xs (gd zs i).cell.toNat).shapes.xs m).box⟩]) rfl El111 rfl (by decide) rfl (by decide) ⟨rfl, (Cl.c rfl), trivial⟩ fun v88 => ⟨Gh.le_refl _, PickC.pick, ?_⟩)
   refine RH.ot rfl rfl (OT.append (v := v3) (u := v88) (F := shapeT) rfl El111 rfl (by decide) rfl rfl Rs.o (OneL.c (fun _ => rfl)) rfl (by first | omega | (simp <;> omega)) fun v89 => ⟨Gh.le_refl _, PickC.pick, ?_⟩)
   refine RH.w rfl rfl (PV.asg (v := v89) rfl rfl) ?_
   refine RH.nil ?_
   refine WP.region (RG.ml rfl (RG.p (PV.add rfl rfl rfl (by omega)) (RG.mr rfl (RG.nil ?_))))
   exact ⟨rfl, m + 1, v89, ⟨by omega, fun h => by rw [h5'.2] at h; cases h⟩, ⟨rfl, rfl, trivial⟩, ⟨rfl, rfl, rfl, rfl, rfl, rfl, rfl, trivial⟩, ((Cv.p (C := osl 155 shapeT v89 (selL (erCls l.cells.xs) ((occR (erCls l.cells.xs) cell).take i) ls b ++ (flatOf (erCls l.cells.xs) (gd (occR (erCls l.cells.xs) cell) i)).take m ++ [⟨(gd (gd l.cells.xs (gd zs i).cell.toNat).shapes.xs m).layer, moveR (gd zs i).place (gd (gd l.cells.xs (gd zs i).cell.toNat).shapes.xs m).box⟩]) :: osl 97 occT w20 zs :: bagS 2 intT (pths zs) :: blk b4 35 (libT.enc l) :: blk b14 115 (cellT.enc (gd l.cells.xs (gd zs i).cell.toNat)) :: L)).trans (Cv.eqS (by rw [List.append_assoc, ← hst]))), by omega⟩
  ·have e : selL (erCls l.cells.xs) ((occR (erCls l.cells.xs) cell).take i) ls b ++ (flatOf (erCls l.cells.xs) (gd (occR (erCls l.cells.xs) cell) i)).take m = selL (erCls l.cells.xs) ((occR (erCls l.cells.xs) cell).take (i + 1)) ls b := by
    rw [selL_take ha.hi]
    congr 1
    by_cases c : (selS ls (gd (occR (erCls l.cells.xs) cell) i) == b) = true
    ·have hm2 : ¬ m < (gd l.cells.xs (gd zs i).cell.toNat).shapes.xs.length := fun hlt => by
      rw [c, Bool.and_true] at h5
      have := of_decide_eq_false h5
      omega
     rw [if_pos c, List.take_of_length_le (by rw [ha.len]; omega)]
    ·rw [if_neg c, hq (by simpa using c)]; rfl
   refine WP.exit ?_
   refine WP.region (RG.ml rfl (RG.p (PV.add rfl rfl rfl (by omega)) (RG.mr rfl (RG.nil ?_))))
   exact ⟨rfl, i + 1, v3, (by omega), ⟨rfl, rfl, trivial⟩, ⟨rfl, rfl, rfl, rfl, trivial⟩, ((Cv.eqS e).trans Cv.p), by omega⟩
 ·have h3 := of_decide_eq_false h3
  have e : selL (erCls l.cells.xs) ((occR (erCls l.cells.xs) cell).take i) ls b = selL (erCls l.cells.xs) (occR (erCls l.cells.xs) cell) ls b := by rw [List.take_of_length_le (by omega)]
  rw [e]
  refine WP.exit ?_
  refine WP.sr (RG.p (PV.move (v := v2) rfl rfl) (RG.p (PV.asg (v := v2) rfl rfl) (RG.nil ?_)))
  exact WP.ret ⟨_, _, ResV.one rfl rfl, Cv.p, k v2⟩
end Go.Proofs.YtgphjofccckloaaGreat
namespace Go.Proofs.YtgphjofccckloaaGreat
open Go
set_option maxRecDepth 20000
set_option maxHeartbeats 1000000
variable {G : Gh} {L : List Ch} {R : Value → Gh → List Ch → Prop}
theorem PV.max5 {P : Program} {σ : Nat → Value} {o : Oper} {k : IntKind} {x1 x2 x3 x4 x5 : Operand} {T1 T2 T3 T4 T5 : TypeId} {a1 a2 a3 a4 a5 : Int} (ho : o.op = .call { callee := .builtin .max, args := #[x1, x2, x3, x4, x5], argTypes := #[T1, T2, T3, T4, T5] }) (h1 : ev σ x1 = .int k a1) (h2 : ev σ x2 = .int k a2) (h3 : ev σ x3 = .int k a3) (h4 : ev σ x4 = .int k a4) (h5 : ev σ x5 = .int k a5) : PV P o σ G L (.int k (max (max (max (max a1 a2) a3) a4) a5)) := by
 intro w _
 have e : ∀ a b : Int, (if a < b then b else a) = max a b := fun a b => by simp only [Int.max_def]; split <;> split <;> omega
 simp [execOp, ho, h1, h2, h3, h4, h5, resolve, invoke, builtin, Builtin.max_, Builtin.max2, e]
theorem elems_cnt {ns : List Inst} (h : okNs ns) {i : Nat} (hi : i < ns.length) : ((elems (ns.take (i + 1))).length : Int) = (elems (ns.take i)).length + (gd ns i).cols * (gd ns i).rows ∧ 0 ≤ (gd ns i).cols * (gd ns i).rows ∧ (gd ns i).cols * (gd ns i).rows ≤ 16 := by
 obtain ⟨_, kk, h2⟩ := h
 obtain ⟨_, _, h3, h4, _, _⟩ := okIn_bd (h2 i hi)
 have e1 := mul_bd (a := (gd ns i).cols) (b := (gd ns i).rows) (A := 4) (B := 4) (by omega) (by omega) (by omega)
 have e0 : 0 ≤ (gd ns i).cols * (gd ns i).rows := Int.mul_nonneg (by omega) (by omega)
 have e2 : (((gd ns i).rows.toNat * (gd ns i).cols.toNat : Nat) : Int) = (gd ns i).cols * (gd ns i).rows := by
  rw [Int.natCast_mul, Int.toNat_of_nonneg (by omega), Int.toNat_of_nonneg (by omega), Int.mul_comm]
 refine ⟨?_, e0, by omega⟩
 rw [elems_take hi, List.length_append, elsOf_len, Int.natCast_add, e2]
theorem l21Elements_s {l : Lib} {cell : Int} (hL : RLib G L l.cells.v l.cells.xs) (hok : okLib (erCls l.cells.xs) = true ∧ 0 ≤ cell ∧ cell < (erCls l.cells.xs).length) (k : R (vi (elN (erCls l.cells.xs) cell)) G L) : CallT Tryz.prog 109 #[vT libT l, vi cell] G L R := by
 have hE := erCls_len l.cells.xs
 have hce := erCl_insts (xs := l.cells.xs) (i := cell.toNat) (by omega)
 have hns : okNs (gd l.cells.xs cell.toNat).insts.xs := by rw [← hce]; exact okLib_ns hok.1 (by omega)
 have hn8 := hns.1
 rw [elN_ns (by omega)] at k
 refine CallT.enter (args := _) Tryz.func109 rfl rfl (by kernel_rfl) rfl ?_
 refine WP.sr ?_
 refine RG.ot rfl (OT.box (cs := libT.enc l) rfl rfl rfl fun b2 => ?_)
 refine RG.mr rfl (RG.nil (WP.sr (RG.mr rfl (RG.nil (WP.sr (RG.p (PV.field rfl Fo35_0 rfl) (RG.p (PV.load1 rfl Sc33 rfl (Rd.blk rfl)) (RG.ml rfl (RG.p (PV.idxS (j := cell.toNat) rfl Is33 rfl (SlF.r hL.c) rfl (by omega) (by omega)) (RG.p (PV.field rfl Fo115_3 rfl) (RG.p (PV.loadF rfl Sc113 rfl rfl (El.r hL.c (getG (by omega))) rfl) ?_)))))))))))
 refine RG.p (PV.asg rfl rfl) (RG.nil (WP.seq (WP.sr (RG.mr rfl (RG.nil (WP.block ?_))))))
 refine WP.loop2 [6] (fun (i : Nat) (n : Int) => i ≤ (gd l.cells.xs cell.toNat).insts.xs.length ∧ n = ((elems ((gd l.cells.xs cell.toNat).insts.xs.take i)).length : Int)) (fun (i : Nat) (n : Int) => [(7, vi i), (5, vi n)]) (fun (i : Nat) (n : Int) => L) (fun (i : Nat) (n : Int) => (gd l.cells.xs cell.toNat).insts.xs.length - i) 0 0 ⟨by omega, by simp [elems]⟩ ⟨rfl, rfl, trivial⟩ Cv.p ?_
 rintro i n τ ⟨hi, hn⟩
 refine WP.seq (WP.sr (RG.ml rfl (RG.p (PV.move rfl rfl) (RG.p (PV.len rfl Tryz.underlying113 rfl (SlF.r (hL.na (i := cell.toNat) (by omega)))) (RG.p (PV.lss rfl rfl rfl) (RG.nil ?_))))))
 have hb := elems_bd2 hns i hi
 refine WP.cond rfl (fun h2 => ?_) (fun h2 => ?_)
 ·have h2 := of_decide_eq_true h2
  obtain ⟨q1, q2, q3⟩ := elems_cnt hns (i := i) (by omega)
  refine WP.skip (WP.seq (WP.block ?_))
  refine WP.regionQ (by kernel_rfl) (by kernel_rfl) ?_
  refine RQ.pv rfl (PV.mvI (.inl rfl) rfl) (RQ.pv rfl (PV.move rfl rfl) (RQ.pv rfl (PV.mvI (.inl rfl) rfl) (RQ.pv rfl (PV.idxS rfl Is113 rfl (SlF.r (hL.na (i := cell.toNat) (by omega))) rfl rfl (by omega)) (RQ.pv rfl (PV.field rfl Fo173_2 rfl) (RQ.pv rfl (PV.loadF rfl Sc2 rfl rfl (El.r (hL.na (i := cell.toNat) (by omega)) (getG (by omega))) rfl) (RQ.pv rfl (PV.move rfl rfl) (RQ.pv rfl (PV.mvI (.inl rfl) rfl) (RQ.pv rfl (PV.idxS rfl Is113 rfl (SlF.r (hL.na (i := cell.toNat) (by omega))) rfl rfl (by omega)) (RQ.pv rfl (PV.field rfl Fo173_3 rfl) (RQ.pv rfl (PV.loadF rfl Sc2 rfl rfl (El.r (hL.na (i := cell.toNat) (by omega)) (getG (by omega))) rfl) (RQ.pv rfl (PV.mul rfl rfl rfl (by omega)) (RQ.pv rfl (PV.add rfl rfl rfl (by omega)) (RQ.pv rfl (PV.mvI (.inr rfl) rfl) ?_)))))))))))))
  refine RQ.nil ?_
  refine WP.region (RG.ml rfl (RG.p (PV.add rfl rfl rfl (by omega)) (RG.mr rfl (RG.nil ?_))))
  exact ⟨rfl, i + 1, _, ⟨by omega, by rw [q1, hn]⟩, ⟨rfl, rfl, trivial⟩, ⟨rfl, trivial⟩, Cv.p, by omega⟩
 ·have h2 := of_decide_eq_false h2
  have e : n = ((elems (gd l.cells.xs cell.toNat).insts.xs).length : Int) := by rw [hn, List.take_of_length_le (by omega)]
  rw [← e] at k
  refine WP.exit ?_
  refine WP.sr (RG.ml rfl (RG.mr rfl (RG.nil ?_)))
  exact WP.ret ⟨_, _, ResV.one rfl rfl, Cv.p, k⟩
def RBig (r : Rect) : Prop := (-2000 ≤ r.x0 ∧ r.x0 < r.x1 ∧ r.x1 ≤ 2000) ∧ -2000 ≤ r.y0 ∧ r.y0 < r.y1 ∧ r.y1 ≤ 2000
theorem RIn_big {r : Rect} (h : RIn 40 r) : RBig r := by obtain ⟨h1, h2, h3, h4, h5, h6⟩ := h; exact ⟨by omega, by omega⟩
theorem moveR_big {t : Trans} {r : Rect} (h : RIn 40 r) (ho : 0 ≤ t.o ∧ t.o ≤ 7) (ht : (-1000 ≤ t.x ∧ t.x ≤ 1000) ∧ -1000 ≤ t.y ∧ t.y ≤ 1000) : RBig (moveR t r) := by
 have h1 := moveR_turn ho h
 obtain ⟨q1, q2, q3, q4, q5, q6⟩ := h1
 simp only [moveR, moveP] at q1 q2 q3 q4 q5 q6
 refine ⟨?_, ?_⟩ <;> simp only [moveR, moveP] <;> omega
theorem dist_s {a b : Rect} (ha : RBig a) (hb : RBig b) (k : R (vi (distR a b)) G L) : CallT Tryz.prog 127 #[vrect a, vrect b] G L R := by
 obtain ⟨⟨a1, a2, a3⟩, a4, a5, a6⟩ := ha
 obtain ⟨⟨b1, b2, b3⟩, b4, b5, b6⟩ := hb
 refine CallT.enter (args := _) Tryz.func127 rfl rfl (by kernel_rfl) rfl ?_
 refine WP.sr ?_
 refine RG.ot rfl (OT.box (cs := rectT.enc a) rfl rfl rfl fun b2 => ?_)
 refine RG.ot rfl (OT.box (cs := rectT.enc b) rfl rfl rfl fun b3 => ?_)
 refine RG.mr rfl (RG.nil (WP.sr (RG.p (PV.field rfl Fo91_0 rfl) (RG.p (PV.load1 rfl Sc2 rfl (Rd.blk rfl)) (RG.p (PV.field rfl Fo91_2 rfl) (RG.p (PV.load1 rfl Sc2 rfl (Rd.blk rfl)) (RG.p (PV.sub rfl rfl rfl (by omega)) (RG.p (PV.add rfl rfl rfl (by omega)) (RG.p (PV.field rfl Fo91_0 rfl) (RG.p (PV.load1 rfl Sc2 rfl (Rd.blk rfl)) (RG.p (PV.field rfl Fo91_2 rfl) (RG.p (PV.load1 rfl Sc2 rfl (Rd.blk rfl)) ?_))))))))))))
 refine RG.p (PV.sub rfl rfl rfl (by omega)) (RG.p (PV.add rfl rfl rfl (by omega)) (RG.p (PV.field rfl Fo91_1 rfl) (RG.p (PV.load1 rfl Sc2 rfl (Rd.blk rfl)) (RG.p (PV.field rfl Fo91_3 rfl) (RG.p (PV.load1 rfl Sc2 rfl (Rd.blk rfl)) (RG.p (PV.sub rfl rfl rfl (by omega)) (RG.p (PV.add rfl rfl rfl (by omega)) (RG.p (PV.field rfl Fo91_1 rfl) (RG.p (PV.load1 rfl Sc2 rfl (Rd.blk rfl)) (RG.p (PV.field rfl Fo91_3 rfl) (RG.p (PV.load1 rfl Sc2 rfl (Rd.blk rfl)) (RG.p (PV.sub rfl rfl rfl (by omega)) (RG.p (PV.add rfl rfl rfl (by omega)) ?_)))))))))))))
 refine RG.p (PV.max5 rfl rfl rfl rfl rfl rfl) (RG.mr rfl (RG.nil ?_))
 exact WP.ret ⟨_, _, ResV.one rfl rfl, Cv.p, k⟩
theorem span_s {a b c d : Int} (ha : -10000 ≤ a ∧ a ≤ 10000) (hb : -10000 ≤ b ∧ b ≤ 10000) (hc : -10000 ≤ c ∧ c ≤ 10000) (hd : -10000 ≤ d ∧ d ≤ 10000) (k : R (vi (min b d - max a c)) G L) : CallT Tryz.prog 115 #[vi a, vi b, vi c, vi d] G L R := by
 refine CallT.enter (args := _) Tryz.func115 rfl rfl (by kernel_rfl) rfl ?_
 refine WP.sr (RG.mr rfl (RG.nil (WP.sr (RG.ml rfl (RG.ml rfl (RG.p (PV.min2 rfl rfl rfl) (RG.ml rfl (RG.ml rfl (RG.p (PV.max2 rfl rfl rfl) (RG.p (PV.sub rfl rfl rfl (by omega)) (RG.mr rfl ?_)))))))))))
 refine RG.nil ?_
 exact WP.ret ⟨_, _, ResV.one rfl rfl, Cv.p, k⟩
theorem wide_s {r : Rect} {q : Int} (hr : RBig r) (hq : 0 ≤ q ∧ q ≤ 100) (k : R (vrect (wideR r q)) G L) : CallT Tryz.prog 113 #[vrect r, vi q] G L R := by
 obtain ⟨⟨a1, a2, a3⟩, a4, a5, a6⟩ := hr
 refine CallT.enter (args := _) Tryz.func113 rfl rfl (by kernel_rfl) rfl ?_
 refine WP.sr ?_
 refine RG.ot rfl (OT.box (cs := rectT.enc r) rfl rfl rfl fun b2 => ?_)
 refine RG.ot rfl (OT.alloc rfl Zr91 fun b4 => ?_)
 refine RG.nil (WP.sr (RG.p (PV.field rfl Fo91_0 rfl) (RG.p (PV.load1 rfl Sc2 rfl (Rd.blk rfl)) (RG.ml rfl (RG.p (PV.sub rfl rfl rfl (by omega)) (RG.p (PV.field rfl Fo91_1 rfl) (RG.p (PV.load1 rfl Sc2 rfl (Rd.blk rfl)) (RG.ml rfl (RG.p (PV.sub rfl rfl rfl (by omega)) (RG.p (PV.field rfl Fo91_2 rfl) (RG.p (PV.load1 rfl Sc2 rfl (Rd.blk rfl)) (RG.ml rfl ?_))))))))))))
 refine RG.p (PV.add rfl rfl rfl (by omega)) (RG.p (PV.field rfl Fo91_3 rfl) (RG.p (PV.load1 rfl Sc2 rfl (Rd.blk rfl)) (RG.ml rfl (RG.p (PV.add rfl rfl rfl (by omega)) (RG.p (PV.build (vs := [(0, [vi _]), (1, [vi _]), (2, [vi _]), (3, [vi _])]) (out := [_, _, _, _]) rfl Zr91 Pl91 ⟨rfl, (Cl.c rfl), ⟨rfl, (Cl.c rfl), ⟨rfl, (Cl.c rfl), ⟨rfl, (Cl.c rfl), trivial⟩⟩⟩⟩ rfl) ?_)))))
 refine RG.ot rfl (OT.storeW (vs := [vi _, vi _, vi _, vi _]) rfl Sz91 rfl rfl (Cl.c rfl) rfl rfl (OneC.c rfl) ?_)
 refine RG.nil ?_
 exact WP.ret ⟨_, _, ResV.one rfl (RV1.cell rfl Ag91 rfl), Cv.p, k⟩
theorem near_span {a p : Rect} {q : Int} (ha : RBig a) (hp : RBig p) (hq : 0 ≤ q) : decide (distR a p ≤ 2 * q) = (decide (0 < min a.x1 (wideR p (2 * q)).x1 - max a.x0 (wideR p (2 * q)).x0) && decide (0 < min a.y1 (wideR p (2 * q)).y1 - max a.y0 (wideR p (2 * q)).y0)) := by
 obtain ⟨⟨a1, a2, a3⟩, a4, a5, a6⟩ := ha
 obtain ⟨⟨b1, b2, b3⟩, b4, b5, b6⟩ := hp
 rw [Bool.eq_iff_iff]
 have e1 : 0 < min a.x1 (p.x1 + 2 * q) - max a.x0 (p.x0 - 2 * q) ↔ (a.x0 < a.x1 ∧ p.x0 - 2 * q < a.x1) ∧ a.x0 < p.x1 + 2 * q ∧ p.x0 - 2 * q < p.x1 + 2 * q := by simp only [Int.min_def, Int.max_def]; split <;> split <;> omega
 have e2 : 0 < min a.y1 (p.y1 + 2 * q) - max a.y0 (p.y0 - 2 * q) ↔ (a.y0 < a.y1 ∧ p.y0 - 2 * q < a.y1) ∧ a.y0 < p.y1 + 2 * q ∧ p.y0 - 2 * q < p.y1 + 2 * q := by simp only [Int.min_def, Int.max_def]; split <;> split <;> omega
 simp only [distR, wideR, Bool.and_eq_true, decide_eq_true_eq, e1, e2, Int.max_le]
 omega
end Go.Proofs.YtgphjofccckloaaGreat
namespace Go.Proofs.YtgphjofccckloaaGreat
open Go
set_option maxRecDepth 20000
set_option maxHeartbeats 1000000
variable {G : Gh} {L : List Ch} {R : Value → Gh → List Ch → Prop}
theorem gd_p0 {α : Type} [Inhabited α] (a b : α) : gd [a, b] 0 = a := by simp [gd]
theorem gd_p1 {α : Type} [Inhabited α] (a b : α) : gd [a, b] 1 = b := by simp [gd]
structure AtEl (xs : List Cell) (cell n : Int) : Prop where
  hz : shE (erCls xs) cell = 0
  hn : 0 ≤ n ∧ n < elN (erCls xs) cell
theorem AtEl.lib {xs : List Cell} {cell n : Int} (h : AtEl xs cell n) : okLib (erCls xs) = true ∧ 0 ≤ cell ∧ cell.toNat < xs.length := by
 have := shE_lib h.hz
 rw [erCls_len] at this
 exact ⟨this.1, by omega, by omega⟩
theorem AtEl.lt {xs : List Cell} {cell n : Int} (h : AtEl xs cell n) : n.toNat < (elems (gd xs cell.toNat).insts.xs).length := by
 have := h.hn
 rw [elN_ns h.lib.2.2] at this
 omega
theorem AtEl.el {xs : List Cell} {cell n : Int} (h : AtEl xs cell n) : (0 ≤ (gd (elems (gd xs cell.toNat).insts.xs) n.toNat).place.o ∧ (gd (elems (gd xs cell.toNat).insts.xs) n.toNat).place.o ≤ 7) ∧ ((-80 ≤ (gd (elems (gd xs cell.toNat).insts.xs) n.toNat).place.x ∧ (gd (elems (gd xs cell.toNat).insts.xs) n.toNat).place.x ≤ 80) ∧ -80 ≤ (gd (elems (gd xs cell.toNat).insts.xs) n.toNat).place.y ∧ (gd (elems (gd xs cell.toNat).insts.xs) n.toNat).place.y ≤ 80) := by
 have := elems_valid (shE_zero h.hz).1 (i := n.toNat) (by have := h.hn; omega)
 rw [erCl_insts h.lib.2.2] at this
 exact validT_iff.1 this
theorem free_no {cs : List ECell} {cell n reach : Int} (h : bndE cs (gd (elems (gd cs cell.toNat).insts) n.toNat).cell ≠ 0) : freeB cs cell n reach = false := by
 simp only [freeB, decide_eq_false h, Bool.false_and]
theorem rootR_in {xs : List Cell} {cell : Int} (hz : shE (erCls xs) cell = 0) {i : Nat} (hi : i < (rootR (erCls xs) cell).length) : RIn 40 (gd (rootR (erCls xs) cell) i).shape.box := by
 have e : rootR (erCls xs) cell = rootL (erCls xs) (occR (erCls xs) cell) := by rw [rootR, decide_eq_true hz]; rfl
 rw [e] at hi ⊢
 have hm : (gd (rootL (erCls xs) (occR (erCls xs) cell)) i).shape ∈ (rootL (erCls xs) (occR (erCls xs) cell)).map RShape.shape := List.mem_map.2 ⟨_, gd_mem hi, rfl⟩
 rw [rootL_flat] at hm
 exact validR_in ((shE_zero hz).2 _ hm)
theorem free1_s {x : RShape} {n reach : Int} {p : Rect} {b1 b2 b3 : Nat} (h1 : Rd G L b1 0 (vi n)) (h2 : RdN G L b2 (rectT.enc p)) (h3 : Rd G L b3 0 (vi reach)) (hx : RBig x.shape.box) (hp2 : RBig p) (hr : 0 ≤ reach ∧ reach ≤ 8) (k : R (.bool (nearS n reach p x)) G L) :
  CallT Tryz.prog 126 #[vT rshapeT x, .pointer (some ⟨b1, 0, none⟩), .pointer (some ⟨b2, 0, none⟩), .pointer (some ⟨b3, 0, none⟩)] G L R := by
 refine CallT.enter (args := _) Tryz.func126 rfl rfl (by kernel_rfl) rfl ?_
 refine WP.sr ?_
 refine RG.ot rfl (OT.box (cs := rshapeT.enc x) rfl rfl rfl fun b4 => ?_)
 refine RG.br rfl (RG.nil (WP.seq ?_))
 refine WP.regionQ (by kernel_rfl) (by kernel_rfl) ?_
 refine RQ.pv rfl (PV.field rfl Fo168_0 rfl) (RQ.pv rfl (PV.load1 rfl Sc2 rfl (Rd.blk rfl)) (RQ.pv rfl (PV.load1 rfl Sc2 rfl (Rd.up h1)) (RQ.pv rfl (PV.neq rfl rfl rfl) (RQ.pv rfl (PV.mvB (.inl rfl) rfl) (RQ.gs rfl rfl rfl (fun hp => (PV.field rfl Fo168_1 rfl)) (RQ.gs rfl rfl rfl (fun hp => (PV.field rfl Fo155_1 (gs_t hp))) (RQ.gs rfl rfl rfl (fun hp => (PV.loadB (vs := [_, _, _, _]) rfl Ag91 (gs_t hp) rfl rfl)) (RQ.gs rfl rfl rfl (fun hp => (PV.loadA rfl Ag91 rfl rfl (RdN.up h2))) ?_))))))))
 refine RQ.gsC rfl rfl rfl rfl En127 (fun hp => ⟨_, (acons (gs_t hp) (acons (gs_t hp) anil)), dist_s hx hp2 ⟨rfl, rfl, rfl⟩⟩) ?_
 refine RQ.gs rfl rfl rfl (fun hp => (PV.load1 rfl Sc2 rfl (Rd.up h3))) (RQ.gs rfl rfl rfl (fun hp => (PV.mul rfl rfl (gs_t hp) (by first | omega | (simp at hp; omega)))) (RQ.gs rfl rfl rfl (fun hp => (PV.leq rfl (gs_t hp) (gs_t hp))) (RQ.pv rfl (PV.pickA rfl rfl (fun hq => gs_t (geqT hq)) rfl) (RQ.pv rfl (PV.mvB (.inr rfl) rfl) ?_))))
 refine RQ.nil ?_
 exact WP.ret ⟨_, _, ResV.one rfl rfl, Cv.p, k⟩
theorem indexF_rshape {v fv : Value} {xs : List (RShape)} {p : (RShape) → Bool} (h1 : Rs G L rshapeT v xs) (hf : ∀ i, i < xs.length → CB Tryz.prog G L fv [vT rshapeT (gd xs i)] (.bool (p (gd xs i)))) (k : R (vi (idxI p xs)) G L) : CallT Tryz.prog 207 #[v, fv] G L R := by
 refine CallT.bd h1 fun hb => ?_
 refine CallT.enter (args := _) Tryz.func207 rfl rfl (by kernel_rfl) rfl ?_
 refine WP.sr (RG.mr rfl (RG.nil (WP.seq (WP.sr (RG.p (PV.move (v := v) rfl rfl) (RG.p (PV.len (v := v) rfl Tryz.underlying102 rfl (SlF.r h1)) (RG.ml rfl (RG.nil (WP.block ?_)))))))))
 refine WP.loop1 [0, 1, 7] (fun i => i ≤ xs.length ∧ ∀ j, j < i → p (gd xs j) = false) (fun i => [(8, vi i)]) (fun i => L) (fun i => xs.length - i) 0 ⟨by omega, fun j h => by omega⟩ ⟨rfl, trivial⟩ Cv.p ?_
 rintro i τ ⟨hi, hj⟩
 refine WP.sr (RG.p (PV.lss rfl rfl rfl) (RG.nil (WP.seq ?_)))
 refine WP.cond rfl (fun h2 => ?_) (fun h2 => ?_)
 ·have h2 := of_decide_eq_true h2
  refine WP.skip (WP.seq (WP.block (WP.sr (RG.ml rfl (RG.mr rfl (RG.nil (WP.sr (RG.p (PV.move (v := fv) rfl rfl) (RG.p (PV.move (v := v) rfl rfl) (RG.ml rfl (RG.p (PV.idxS (v := v) rfl Is102 rfl (SlF.r h1) rfl rfl (by omega)) ?_)))))))))))
  refine RG.p (PV.loadE rfl Ag168 rfl rfl (El.r h1 (getG (by omega)))) ?_
  refine RG.callB (vs := [_]) rfl rfl rfl rfl (CB.up (hf i (by omega))) ?_
  refine RG.nil ?_
  refine WP.cond rfl (fun h3 => ?_) (fun h3 => ?_)
  ·rw [idxI_at (by omega) h3 hj] at k
   refine WP.sr (RG.ml rfl (RG.mr rfl (RG.nil ?_)))
   exact WP.ret ⟨_, _, ResV.one rfl rfl, Cv.p, k⟩
  ·have hj' : ∀ j, j < i + 1 → p (gd xs j) = false := fun j h => by
    by_cases c : j = i
    ·rw [c]; exact h3
    ·exact hj j (by omega)
   refine WP.skip (WP.region (RG.p (PV.add rfl rfl rfl (by omega)) (RG.ml rfl (RG.nil ?_))))
   exact ⟨rfl, i + 1, ⟨by omega, hj'⟩, ⟨rfl, trivial⟩, ⟨rfl, rfl, rfl, trivial⟩, Cv.p, by omega⟩
 ·have h2 := of_decide_eq_false h2
  rw [idxI_none (fun j h => hj j (by omega))] at k
  refine WP.exit ?_
  refine WP.sr (RG.mr rfl (RG.nil ?_))
  exact WP.ret ⟨_, _, ResV.one rfl rfl, Cv.p, k⟩
theorem containsF_rshape {v fv : Value} {xs : List (RShape)} {p : (RShape) → Bool} (h1 : Rs G L rshapeT v xs) (hf : ∀ i, i < xs.length → CB Tryz.prog G L fv [vT rshapeT (gd xs i)] (.bool (p (gd xs i)))) (k : R (.bool (xs.any p)) G L) : CallT Tryz.prog 125 #[v, fv] G L R := by
 rw [← idxI_any] at k
 refine CallT.enter (args := _) Tryz.func125 rfl rfl (by kernel_rfl) rfl ?_
 refine WP.sr (RG.br rfl (RG.nil (WP.sr (RG.p (PV.move (v := v) rfl rfl) (RG.p (PV.move (v := fv) rfl rfl) ?_)))))
 refine RG.callF (vs := [v, fv]) rfl rfl En207 rfl (indexF_rshape (Rs.up h1) (fun i hi => (hf i hi).up) ?_)
 refine RG.p (PV.geq rfl rfl rfl) (RG.br rfl (RG.nil ?_))
 exact WP.ret ⟨_, _, ResV.one rfl rfl, Cv.p, k⟩
theorem free_i {l : Lib} {cell n reach : Int} {v : Value} (hL : RLib G L l.cells.v l.cells.xs) (hlen : lenC (erCls l.cells.xs)) (ha : AtEl l.cells.xs cell n) (hr : 0 ≤ reach ∧ reach ≤ 8) (h5 : Rs G L rshapeT v (rootR (erCls l.cells.xs) cell)) (k : R (.bool (freeB (erCls l.cells.xs) cell n reach)) G L) :
  CallT Tryz.prog 64 #[vT libT l, vi cell, vi n, vi reach, v] G L R := by
 have hE := erCls_len l.cells.xs
 obtain ⟨hok, hc0, hc1⟩ := ha.lib
 have hce := erCl_insts (xs := l.cells.xs) (i := cell.toNat) hc1
 have hns : okNs (gd l.cells.xs cell.toNat).insts.xs := by rw [← hce]; exact okLib_ns hok (by omega)
 have hnl := ha.lt
 have hn0 := ha.hn.1
 obtain ⟨he1, he2'⟩ := ha.el
 have he2 : -1000 ≤ (gd (elems (gd l.cells.xs cell.toNat).insts.xs) n.toNat).place.x ∧ (gd (elems (gd l.cells.xs cell.toNat).insts.xs) n.toNat).place.x ≤ 1000 ∧ -1000 ≤ (gd (elems (gd l.cells.xs cell.toNat).insts.xs) n.toNat).place.y ∧ (gd (elems (gd l.cells.xs cell.toNat).insts.xs) n.toNat).place.y ≤ 1000 := by omega
 have e2 : rootR (erCls l.cells.xs) cell = rootL (erCls l.cells.xs) (occR (erCls l.cells.xs) cell) := by rw [rootR, decide_eq_true ha.hz]; rfl
 refine CallT.enter (args := _) Tryz.func64 rfl rfl (by kernel_rfl) rfl ?_
 refine WP.sr ?_
 refine RG.ot rfl (OT.box (cs := libT.enc l) rfl rfl rfl fun b5 => ?_)
 refine RG.ot rfl (OT.box (cs := [vi n]) rfl rfl rfl fun b7 => ?_)
 refine RG.ot rfl (OT.box (cs := [vi reach]) rfl rfl rfl fun b8 => ?_)
 refine RG.br rfl (RG.nil ?_)
 refine WP.cut1 [4, 5, 7, 8] (fun (b11 : Nat) => True) (fun (b11 : Nat) => [(11, .pointer (some ⟨b11, 0, none⟩))]) (fun (b11 : Nat) => blk b11 108 (helemT.enc (gd (elems (gd l.cells.xs cell.toNat).insts.xs) n.toNat)) :: blk b5 35 (libT.enc l) :: blk b7 2 [vi n] :: blk b8 2 [vi reach] :: L) ?_ ?_
 refine WP.regionH0 (.q 0 (.q 1 (.q 2 (.q 3 (.q 4 (.q 6 (.b 5 (.q 7 (.q 8 (.l 9 (.l 10 Sch.nil)))) 9 (.l 5 (.q 7 (.q 8 (.l 10 Sch.nil))))))))))) (by kernel_rfl) (by kernel_rfl) (by kernel_rfl) rfl ?_
 refine RH.w rfl rfl (PV.field rfl Fo35_0 rfl) (RH.w rfl rfl (PV.load1 rfl Sc33 rfl (Rd.blk rfl)) (RH.w rfl rfl (PV.mvI (.inl rfl) rfl) (RH.w rfl rfl (PV.idxS (j := cell.toNat) rfl Is33 rfl (SlF.r hL.c) rfl (by first | omega | (simp only [List.length_cons, List.length_nil]; omega)) (by first | omega | (simp only [List.length_cons, List.length_nil]; omega))) (RH.w rfl rfl (PV.loadE rfl Ag115 rfl rfl (El.r hL.c (getG (by first | omega | (simp only [List.length_cons, List.length_nil]; omega))))) (RH.w rfl rfl (PV.load1 rfl Sc2 rfl (Rd.blk rfl)) ?_)))))
 ·refine RH.ot2 rfl rfl rfl rfl  (OT.callF (vs := [_]) rfl En65 rfl (elems_i (hL.na (by omega)).up hns (fun v22 => ⟨Gh.le_refl _, PickC.pick, ?_⟩))) (OT.alloc rfl Zr108 fun b11 => ⟨Gh.le_refl _, PickC.pick, ?_⟩)
  ·refine RH.up1 ?_
   refine RH.w rfl rfl (PV.idxS (j := n.toNat) (v := v22) rfl Is109 rfl SlF.o rfl (by first | omega | (simp only [List.length_cons, List.length_nil]; omega)) (by first | omega | (simp only [List.length_cons, List.length_nil]; omega))) (RH.w rfl rfl (PV.loadE rfl Ag108 rfl rfl (El.o (getG (by first | omega | (simp only [List.length_cons, List.length_nil]; omega))))) ?_)
   refine RH.ot rfl rfl (OT.alloc rfl Zr108 fun b11 => ⟨Gh.le_refl _, PickC.pick, ?_⟩)
   refine RH.ot rfl rfl (OT.storeW (vs := [vi _, vi _, vi _, vi _]) rfl Sz108 rfl rfl (Cl.c rfl) rfl rfl (OneC.c rfl) ⟨Gh.le_refl _, PickC.pick, ?_⟩)
   refine RH.nil ?_
   exact ⟨rfl, b11, trivial, ⟨rfl, trivial⟩, ⟨rfl, rfl, rfl, rfl, trivial⟩, Cv.p⟩
  ·refine RH.ot rfl rfl (OT.callF (vs := [_]) rfl En65 rfl (elems_i (hL.na (by omega)).up hns (fun v22 => ⟨Gh.le_refl _, PickC.pick, ?_⟩)))
   refine RH.up1 ?_
   refine RH.w rfl rfl (PV.idxS (j := n.toNat) (v := v22) rfl Is109 rfl SlF.o rfl (by first | omega | (simp only [List.length_cons, List.length_nil]; omega)) (by first | omega | (simp only [List.length_cons, List.length_nil]; omega))) (RH.w rfl rfl (PV.loadE rfl Ag108 rfl rfl (El.o (getG (by first | omega | (simp only [List.length_cons, List.length_nil]; omega))))) ?_)
   refine RH.ot rfl rfl (OT.storeW (vs := [vi _, vi _, vi _, vi _]) rfl Sz108 rfl rfl (Cl.c rfl) rfl rfl (OneC.c rfl) ⟨Gh.le_refl _, PickC.pick, ?_⟩)
   refine RH.nil ?_
   exact ⟨rfl, b11, trivial, ⟨rfl, trivial⟩, ⟨rfl, rfl, rfl, rfl, trivial⟩, Cv.p⟩
 rintro b11 τ -
 refine WP.sr (RG.p (PV.loadW rfl Ag35 rfl rfl) (RG.p (PV.field rfl Fo108_0 rfl) (RG.p (PV.load1 rfl Sc2 rfl (Rd.blk rfl)) ?_)))
 refine RG.callF (vs := [_, _]) rfl rfl En122 rfl (bnd_i hL.up hlen ?_)
 refine RG.p (PV.move rfl rfl) (RG.p (PV.ext rfl rfl rfl) (RG.p (PV.ext rfl rfl rfl) ?_))
 refine RG.ot rfl (OT.alloc rfl Zr91 fun b12 => ?_)
 refine RG.ot rfl (OT.storeW (vs := [vi _, vi _, vi _, vi _]) rfl Sz91 rfl rfl (Cl.c rfl) rfl rfl (OneC.c rfl) ?_)
 refine RG.mr rfl (RG.nil (WP.seq (WP.sr (RG.ml rfl (RG.p (PV.neq rfl rfl rfl) (RG.nil ?_))))))
 refine WP.cond rfl (fun h6 => ?_) (fun h6 => ?_)
 ·have h6 : bndE (erCls l.cells.xs) (gd (elems (gd l.cells.xs cell.toNat).insts.xs) n.toNat).cell ≠ 0 := by simpa using h6
  have e : freeB (erCls l.cells.xs) cell n reach = false := free_no (by rw [hce]; exact h6)
  rw [e] at k
  refine WP.sr (RG.br rfl (RG.nil ?_))
  exact WP.ret ⟨_, _, ResV.one rfl rfl, Cv.p, k⟩
 ·have h6 : bndE (erCls l.cells.xs) (gd (elems (gd l.cells.xs cell.toNat).insts.xs) n.toNat).cell = 0 := by simpa using h6
  have hob := bndR_in h6
  have hpb := moveR_big hob he1 (show (-1000 ≤ (gd (elems (gd l.cells.xs cell.toNat).insts.xs) n.toNat).place.x ∧ (gd (elems (gd l.cells.xs cell.toNat).insts.xs) n.toNat).place.x ≤ 1000) ∧ -1000 ≤ (gd (elems (gd l.cells.xs cell.toNat).insts.xs) n.toNat).place.y ∧ (gd (elems (gd l.cells.xs cell.toNat).insts.xs) n.toNat).place.y ≤ 1000 by omega)
  have hfe : freeB (erCls l.cells.xs) cell n reach = ((validRect (wideR (bndR (erCls l.cells.xs) (gd (elems (gd l.cells.xs cell.toNat).insts.xs) n.toNat).cell) reach) && validRect (wideR (moveR (gd (elems (gd l.cells.xs cell.toNat).insts.xs) n.toNat).place (bndR (erCls l.cells.xs) (gd (elems (gd l.cells.xs cell.toNat).insts.xs) n.toNat).cell)) reach)) && !((rootR (erCls l.cells.xs) cell).any (nearS n reach (moveR (gd (elems (gd l.cells.xs cell.toNat).insts.xs) n.toNat).place (bndR (erCls l.cells.xs) (gd (elems (gd l.cells.xs cell.toNat).insts.xs) n.toNat).cell))))) := by
   simp only [freeB, hce, decide_eq_true h6, Bool.true_and, e2]
  have hbd : ∀ j, j < 2 → RBig (gd [bndR (erCls l.cells.xs) (gd (elems (gd l.cells.xs cell.toNat).insts.xs) n.toNat).cell, moveR (gd (elems (gd l.cells.xs cell.toNat).insts.xs) n.toNat).place (bndR (erCls l.cells.xs) (gd (elems (gd l.cells.xs cell.toNat).insts.xs) n.toNat).cell)] j) := fun j hj => by
   match j, hj with
   | 0, _ => simpa [gd] using RIn_big hob
   | 1, _ => simpa [gd] using hpb
  refine WP.skip (WP.sr (RG.p (PV.field rfl Fo108_1 rfl) (RG.p (PV.loadB (vs := [_, _, _]) rfl Ag95 rfl rfl rfl) (RG.p (PV.loadW rfl Ag91 rfl rfl) ?_))))
  refine RG.callF (vs := [_, _]) rfl rfl En123 rfl (moveRect_s he1 he2 hob ?_)
  refine RG.ot rfl (OT.alloc rfl Zr91 fun b14 => ?_)
  refine RG.ot rfl (OT.storeW (vs := [vi _, vi _, vi _, vi _]) rfl Sz91 rfl rfl (Cl.c rfl) rfl rfl (OneC.c rfl) ?_)
  refine RG.nil (WP.seq (WP.sr (RG.p (PV.loadW rfl Ag91 rfl rfl) (RG.p (PV.loadW rfl Ag91 rfl rfl) ?_))))
  refine RG.ot rfl (OT.bslice (F := rectT) (els := [_, _]) rfl El50 rfl (by decide) rfl (by decide) ⟨rfl, (Cl.c rfl), ⟨rfl, (Cl.c rfl), trivial⟩⟩ fun v41 => ?_)
  refine RG.p (PV.len (v := v41) rfl Tryz.underlying50 rfl SlF.o) (RG.ml rfl (RG.nil (WP.block ?_)))
  refine WP.loop1 [4, 7, 8, 14, 41, 42] (fun i => i ≤ 2 ∧ ∀ j, j < i → validRect (wideR (gd [bndR (erCls l.cells.xs) (gd (elems (gd l.cells.xs cell.toNat).insts.xs) n.toNat).cell, moveR (gd (elems (gd l.cells.xs cell.toNat).insts.xs) n.toNat).place (bndR (erCls l.cells.xs) (gd (elems (gd l.cells.xs cell.toNat).insts.xs) n.toNat).cell)] j) reach) = true) (fun i => [(43, vi i)]) (fun i => osl 91 rectT v41 [bndR (erCls l.cells.xs) (gd (elems (gd l.cells.xs cell.toNat).insts.xs) n.toNat).cell, moveR (gd (elems (gd l.cells.xs cell.toNat).insts.xs) n.toNat).place (bndR (erCls l.cells.xs) (gd (elems (gd l.cells.xs cell.toNat).insts.xs) n.toNat).cell)] :: blk b14 91 (rectT.enc (moveR (gd (elems (gd l.cells.xs cell.toNat).insts.xs) n.toNat).place (bndR (erCls l.cells.xs) (gd (elems (gd l.cells.xs cell.toNat).insts.xs) n.toNat).cell))) :: blk b7 2 [vi n] :: blk b8 2 [vi reach] :: L) (fun i => 2 - i) 0 ⟨by omega, fun j h => by omega⟩ ⟨rfl, trivial⟩ Cv.p ?_
  rintro i τ ⟨hi, hj⟩
  refine WP.sr (RG.p (PV.lss rfl rfl rfl) (RG.nil (WP.seq ?_)))
  refine WP.cond rfl (fun h7 => ?_) (fun h7 => ?_)
  ·have h7 : i < 2 := by have := of_decide_eq_true h7; simp only [List.length_cons, List.length_nil] at this; omega
   obtain ⟨⟨z1, z2, z3⟩, z4, z5, z6⟩ := hbd i h7
   refine WP.skip (WP.seq (WP.block (WP.sr (RG.p (PV.idxS (v := v41) rfl Is50 rfl SlF.o rfl rfl (by first | omega | (simp only [List.length_cons, List.length_nil]; omega))) (RG.p (PV.loadE rfl Ag91 rfl rfl (El.o (getG (by first | omega | (simp only [List.length_cons, List.length_nil]; omega))))) ?_)))))
   refine RG.ot rfl (OT.alloc rfl Zr91 fun b16 => ?_)
   refine RG.ot rfl (OT.storeW (vs := [vi _, vi _, vi _, vi _]) rfl Sz91 rfl rfl (Cl.c rfl) rfl rfl (OneC.c rfl) ?_)
   refine RG.nil (WP.sr (RG.p (PV.field rfl Fo91_0 rfl) (RG.p (PV.load1 rfl Sc2 rfl (Rd.blk rfl)) (RG.p (PV.load1 rfl Sc2 rfl (Rd.blk rfl)) (RG.p (PV.sub rfl rfl rfl (by first | omega | (simp only [List.length_cons, List.length_nil]; omega))) (RG.p (PV.field rfl Fo91_1 rfl) (RG.p (PV.load1 rfl Sc2 rfl (Rd.blk rfl)) (RG.p (PV.load1 rfl Sc2 rfl (Rd.blk rfl)) (RG.p (PV.sub rfl rfl rfl (by first | omega | (simp only [List.length_cons, List.length_nil]; omega))) (RG.p (PV.field rfl Fo91_2 rfl) (RG.p (PV.load1 rfl Sc2 rfl (Rd.blk rfl)) (RG.p (PV.load1 rfl Sc2 rfl (Rd.blk rfl)) ?_))))))))))))
   refine RG.p (PV.add rfl rfl rfl (by first | omega | (simp only [List.length_cons, List.length_nil]; omega))) (RG.p (PV.field rfl Fo91_3 rfl) (RG.p (PV.load1 rfl Sc2 rfl (Rd.blk rfl)) (RG.p (PV.load1 rfl Sc2 rfl (Rd.blk rfl)) (RG.p (PV.add rfl rfl rfl (by first | omega | (simp only [List.length_cons, List.length_nil]; omega))) (RG.p (PV.build (vs := [(0, [vi _]), (1, [vi _]), (2, [vi _]), (3, [vi _])]) (out := [_, _, _, _]) rfl Zr91 Pl91 ⟨rfl, (Cl.c rfl), ⟨rfl, (Cl.c rfl), ⟨rfl, (Cl.c rfl), ⟨rfl, (Cl.c rfl), trivial⟩⟩⟩⟩ rfl) ?_)))))
   refine RG.callF (vs := [_]) rfl rfl En124 rfl (validRect_s (r := ⟨_, _, _, _⟩) ?_)
   refine RG.p (PV.not rfl rfl) (RG.nil ?_)
   refine WP.cond rfl (fun h8 => ?_) (fun h8 => ?_)
   ·have h8 : validRect (wideR (gd [bndR (erCls l.cells.xs) (gd (elems (gd l.cells.xs cell.toNat).insts.xs) n.toNat).cell, moveR (gd (elems (gd l.cells.xs cell.toNat).insts.xs) n.toNat).place (bndR (erCls l.cells.xs) (gd (elems (gd l.cells.xs cell.toNat).insts.xs) n.toNat).cell)] i) reach) = false := by simpa using h8
    have e : freeB (erCls l.cells.xs) cell n reach = false := by
     rw [hfe]
     match i, h7 with
     | 0, _ => rw [gd_p0] at h8; rw [h8]; rfl
     | 1, _ => rw [gd_p1] at h8; rw [h8, Bool.and_false]; rfl
    rw [e] at k
    refine WP.sr (RG.br rfl (RG.nil ?_))
    exact WP.ret ⟨_, _, ResV.one rfl rfl, Cv.p, k⟩
   ·have hj' : ∀ j, j < i + 1 → validRect (wideR (gd [bndR (erCls l.cells.xs) (gd (elems (gd l.cells.xs cell.toNat).insts.xs) n.toNat).cell, moveR (gd (elems (gd l.cells.xs cell.toNat).insts.xs) n.toNat).place (bndR (erCls l.cells.xs) (gd (elems (gd l.cells.xs cell.toNat).insts.xs) n.toNat).cell)] j) reach) = true := fun j h => by
     by_cases c : j = i
     ·rw [c]; simpa using h8
     ·exact hj j (by omega)
    refine WP.skip (WP.region (RG.p (PV.add rfl rfl rfl (by first | omega | (simp only [List.length_cons, List.length_nil]; omega))) (RG.ml rfl (RG.nil ?_))))
    exact ⟨rfl, i + 1, ⟨by omega, hj'⟩, ⟨rfl, trivial⟩, ⟨rfl, rfl, rfl, rfl, rfl, rfl, trivial⟩, Cv.p, by omega⟩
  ·have h7 : i = 2 := by have := of_decide_eq_false h7; simp only [List.length_cons, List.length_nil] at this; omega
   have v0 := hj 0 (by omega)
   have v1 := hj 1 (by omega)
   rw [gd_p0] at v0
   rw [gd_p1] at v1
   rw [hfe, v0, v1] at k
   refine WP.exit ?_
   refine WP.sr (RG.p (PV.move (v := v) rfl rfl) (RG.p (PV.mkf3 rfl rfl rfl rfl) ?_))
   refine RG.callF (vs := [v, _]) rfl rfl En125 rfl (containsF_rshape (Rs.up h5) (p := nearS n reach (moveR (gd (elems (gd l.cells.xs cell.toNat).insts.xs) n.toNat).place (bndR (erCls l.cells.xs) (gd (elems (gd l.cells.xs cell.toNat).insts.xs) n.toNat).cell))) (fun i hi => CB.mk3 En126 fun L' R c k => free1_s (Rd.cv (Rd.blk rfl) c) (RdN.cv RdN.blk c) (Rd.cv (Rd.blk rfl) c) (RIn_big (rootR_in ha.hz hi)) hpb hr k) ?_)
   refine RG.p (PV.not rfl rfl) (RG.br rfl (RG.nil ?_))
   exact WP.ret ⟨_, _, ResV.one rfl rfl, Cv.p, k⟩
end Go.Proofs.YtgphjofccckloaaGreat
namespace Go.Proofs.YtgphjofccckloaaGreat
open Go
set_option maxRecDepth 20000
set_option maxHeartbeats 1000000
variable {G : Gh} {L : List Ch} {R : Value → Gh → List Ch → Prop}
theorem elPlaceI_r {n : Inst} {kk c r : Int} (hk : okIn kk n = true) (hc : 0 ≤ c ∧ c < n.cols) (hr : 0 ≤ r ∧ r < n.rows) (k : R (vtrans (elPlace n c r)) G L) : CallT Tryz.prog 197 #[vT instT n, vi c, vi r] G L R := by
 obtain ⟨c', rfl⟩ := Int.eq_ofNat_of_zero_le hc.1
 obtain ⟨r', rfl⟩ := Int.eq_ofNat_of_zero_le hr.1
 exact elPlace_r hk (by omega) (by omega) k
theorem step_found {ns : List Inst} (h : okNs ns) {i : Nat} {rest : Int} (hi : i < ns.length) (h0 : 0 ≤ rest) (hr : rest < (gd ns i).cols * (gd ns i).rows) {n : Int} (hn : n = ((elems (ns.take i)).length : Int) + rest) :
  (0 ≤ rest % (gd ns i).cols ∧ rest % (gd ns i).cols < (gd ns i).cols) ∧ (0 ≤ rest / (gd ns i).cols ∧ rest / (gd ns i).cols < (gd ns i).rows) ∧ gd (elems ns) n.toNat = ⟨(gd ns i).cell, elPlace (gd ns i) (rest % (gd ns i).cols) (rest / (gd ns i).cols)⟩ := by
 obtain ⟨q, rfl⟩ := Int.eq_ofNat_of_zero_le h0
 obtain ⟨_, kk, h2⟩ := h
 obtain ⟨_, _, h3, h4, _, _⟩ := okIn_bd (h2 i hi)
 obtain ⟨c, hc⟩ := Int.eq_ofNat_of_zero_le (show 0 ≤ (gd ns i).cols by omega)
 obtain ⟨r, hr'⟩ := Int.eq_ofNat_of_zero_le (show 0 ≤ (gd ns i).rows by omega)
 have hq : q < r * c := by rw [hc, hr', ← Int.natCast_mul] at hr; rw [Nat.mul_comm]; omega
 have hel := elems_found (ns := ns) (i := i) (q := q) hi (by rw [elsOf_len, hr', hc]; exact hq)
 have e1 : n.toNat = (elems (ns.take i)).length + q := by omega
 have e2 : (gd ns i).cols.toNat = c := by omega
 rw [e1, hel, e2, hc, ← Int.natCast_emod, ← Int.natCast_ediv, hr']
 have hc0 : 0 < c := by omega
 have m1 := Nat.mod_lt q hc0
 have m2 : q / c < r := (Nat.div_lt_iff_lt_mul hc0).2 hq
 have m3 : ((q / c : Nat) : Int) < (r : Int) := by exact_mod_cast m2
 have m4 : ((q % c : Nat) : Int) < (c : Int) := by exact_mod_cast m1
 exact ⟨⟨Int.natCast_nonneg _, m4⟩, ⟨Int.natCast_nonneg _, m3⟩, rfl⟩
theorem step_s {l : Lib} {o : Occ} {n : Int} (hL : RLib G L l.cells.v l.cells.xs) (hok : okLib (erCls l.cells.xs) = true) (hcl : 0 ≤ o.cell ∧ o.cell.toNat < l.cells.xs.length) (hbig : TBig o.place) (hp : Rs G L intT o.path.v o.path.xs) (hpl : o.path.xs.length ≤ 100) (hn : 0 ≤ n ∧ n.toNat < (elems (gd l.cells.xs o.cell.toNat).insts.xs).length)
  (k : ∀ v', R (.tuple #[vT occT ⟨(gd (elems (gd l.cells.xs o.cell.toNat).insts.xs) n.toNat).cell, cmpT (gd (elems (gd l.cells.xs o.cell.toNat).insts.xs) n.toNat).place o.place, ⟨v', [] ++ o.path.xs ++ [n]⟩⟩, .bool true]) G (osl 2 intT v' ([] ++ o.path.xs ++ [n]) :: L)) : CallT Tryz.prog 117 #[vT libT l, vT occT o, vi n] G L R := by
 have hE := erCls_len l.cells.xs
 have hce := erCl_insts (xs := l.cells.xs) (i := o.cell.toNat) hcl.2
 have hns : okNs (gd l.cells.xs o.cell.toNat).insts.xs := by rw [← hce]; exact okLib_ns hok (by omega)
 obtain ⟨hn8, kk, h2⟩ := id hns
 have hbe := elem_bd hok (k := o.cell.toNat) (by omega) (i := n.toNat) (by rw [hce]; exact hn.2)
 rw [hce] at hbe
 have hEl : (elems (gd l.cells.xs o.cell.toNat).insts.xs).length ≤ 128 := by rw [← hce]; exact elems_len_bd hok (by omega)
 have hb1 := hbe.2.1
 have hb2 : (-1000 ≤ (gd (elems (gd l.cells.xs o.cell.toNat).insts.xs) n.toNat).place.x ∧ (gd (elems (gd l.cells.xs o.cell.toNat).insts.xs) n.toNat).place.x ≤ 1000) ∧ -1000 ≤ (gd (elems (gd l.cells.xs o.cell.toNat).insts.xs) n.toNat).place.y ∧ (gd (elems (gd l.cells.xs o.cell.toNat).insts.xs) n.toNat).place.y ≤ 1000 := by omega
 refine CallT.enter (args := _) Tryz.func117 rfl rfl (by kernel_rfl) rfl ?_
 refine WP.sr ?_
 refine RG.ot rfl (OT.box (cs := libT.enc l) rfl rfl rfl fun b3 => ?_)
 refine RG.ot rfl (OT.box (cs := occT.enc o) rfl rfl rfl fun b4 => ?_)
 refine RG.ot rfl (OT.alloc rfl Zr97 fun b6 => ?_)
 refine RG.br rfl (RG.nil (WP.sr (RG.p (PV.field rfl Fo35_0 rfl) (RG.p (PV.load1 rfl Sc33 rfl (Rd.blk rfl)) (RG.p (PV.field rfl Fo97_0 rfl) (RG.p (PV.load1 rfl Sc2 rfl (Rd.blk rfl)) (RG.p (PV.idxS (j := o.cell.toNat) rfl Is33 rfl (SlF.r hL.c) rfl (by omega) (by omega)) (RG.p (PV.field rfl Fo115_3 rfl) (RG.p (PV.loadF rfl Sc113 rfl rfl (El.r hL.c (getG (by omega))) rfl) (RG.p (PV.asg rfl rfl) (RG.nil (WP.seq ?_))))))))))))
 refine WP.region (RG.ml rfl (RG.mr rfl (RG.nil (WP.seq (WP.sr (RG.mr rfl (RG.nil (WP.block ?_))))))))
 refine WP.loop2 [2, 4, 6, 8] (fun (i : Nat) (rest : Int) => i ≤ (gd l.cells.xs o.cell.toNat).insts.xs.length ∧ 0 ≤ rest ∧ n = ((elems ((gd l.cells.xs o.cell.toNat).insts.xs.take i)).length : Int) + rest) (fun (i : Nat) (rest : Int) => [(10, vi i), (9, vi rest)]) (fun (i : Nat) (rest : Int) => blk b3 35 (libT.enc l) :: blk b4 97 (occT.enc o) :: blk b6 97 [vi 0, vi 0, vi 0, vi 0, .slice none 0 0] :: L) (fun (i : Nat) (rest : Int) => (gd l.cells.xs o.cell.toNat).insts.xs.length - i) 0 n ⟨by omega, by omega, by simp [elems]⟩ ⟨rfl, rfl, trivial⟩ Cv.p ?_
 rintro i rest τ ⟨hi, h0, hre⟩
 refine WP.seq (WP.sr (RG.ml rfl (RG.p (PV.move rfl rfl) (RG.p (PV.len rfl Tryz.underlying113 rfl (SlF.r (hL.na hcl.2))) (RG.p (PV.lss rfl rfl rfl) (RG.bl rfl ?_))))))
 refine RG.g rfl (fun hp => (PV.mvI (.inl rfl) rfl)) ?_
 refine RG.g rfl (fun hp => (PV.geq rfl (gs_t hp) rfl)) ?_
 refine RG.p (PV.pickA rfl rfl (fun hq => gs_t (geqT hq)) rfl) (RG.nil ?_)
 refine WP.cond rfl (fun h3 => ?_) (fun h3 => ?_)
 ·have h3 : i < (gd l.cells.xs o.cell.toNat).insts.xs.length := by simp only [Bool.and_eq_true, decide_eq_true_eq] at h3; omega
  obtain ⟨z1, z2, z3⟩ := elems_cnt hns h3
  refine WP.skip (WP.seq (WP.block (WP.seq ?_)))
  refine WP.regionQ (by kernel_rfl) (by kernel_rfl) ?_
  refine RQ.pv rfl (PV.move rfl rfl) (RQ.pv rfl (PV.mvI (.inl rfl) rfl) (RQ.pv rfl (PV.idxS rfl Is113 rfl (SlF.r (hL.na hcl.2)) rfl rfl (by omega)) (RQ.pv rfl (PV.field rfl Fo173_2 rfl) (RQ.pv rfl (PV.loadF rfl Sc2 rfl rfl (El.r (hL.na hcl.2) (getG (by omega))) rfl) (RQ.pv rfl (PV.move rfl rfl) (RQ.pv rfl (PV.mvI (.inl rfl) rfl) (RQ.pv rfl (PV.idxS rfl Is113 rfl (SlF.r (hL.na hcl.2)) rfl rfl (by omega)) (RQ.pv rfl (PV.field rfl Fo173_3 rfl) (RQ.pv rfl (PV.loadF rfl Sc2 rfl rfl (El.r (hL.na hcl.2) (getG (by omega))) rfl) (RQ.pv rfl (PV.mul rfl rfl rfl (by omega)) (RQ.pv rfl (PV.mvI (.inr rfl) rfl) ?_)))))))))))
  refine RQ.nil ?_
  refine WP.seq (WP.sr (RG.ml rfl (RG.ml rfl (RG.p (PV.lss rfl rfl rfl) (RG.nil ?_)))))
  refine WP.cond rfl (fun h4 => ?_) (fun h4 => ?_)
  ·have h4 := of_decide_eq_true h4
   obtain ⟨q1, q2, q3⟩ := step_found hns h3 h0 h4 hre
   obtain ⟨_, _, q4, q5, _, _⟩ := okIn_bd (h2 i h3)
   rw [q3] at hb1 hb2 k
   simp only at hb1 hb2 k
   refine WP.cut1 [2, 4, 6, 8, 10] (fun (b12 : Nat) => True) (fun (b12 : Nat) => [(12, .pointer (some ⟨b12, 0, none⟩))]) (fun (b12 : Nat) => blk b12 95 (transT.enc (elPlace (gd (gd l.cells.xs o.cell.toNat).insts.xs i) (rest % (gd (gd l.cells.xs o.cell.toNat).insts.xs i).cols) (rest / (gd (gd l.cells.xs o.cell.toNat).insts.xs i).cols))) :: blk b3 35 (libT.enc l) :: blk b4 97 (occT.enc o) :: blk b6 97 [vi 0, vi 0, vi 0, vi 0, .slice none 0 0] :: L) ?_ ?_
   refine WP.regionH0 (.q 0 (.q 1 (.q 2 (.q 3 (.q 4 (.q 5 (.q 6 (.q 7 (.q 8 (.q 9 (.q 10 (.q 11 (.q 12 (.q 13 (.q 14 (.q 15 (.q 16 (.q 17 (.b 18 (.l 19 (.l 20 Sch.nil)) 19 (.l 18 (.l 20 Sch.nil))))))))))))))))))))) (by kernel_rfl) (by kernel_rfl) (by kernel_rfl) rfl ?_
   refine RH.w rfl rfl (PV.move rfl rfl) (RH.w rfl rfl (PV.mvI (.inl rfl) rfl) (RH.w rfl rfl (PV.idxS rfl Is113 rfl (SlF.r (hL.na hcl.2)) rfl rfl (by omega)) (RH.w rfl rfl (PV.loadE rfl Ag173 rfl rfl (El.r (hL.na hcl.2) (getG (by omega)))) (RH.w rfl rfl (PV.mvI (.inl rfl) rfl) (RH.w rfl rfl (PV.move rfl rfl) (RH.w rfl rfl (PV.mvI (.inl rfl) rfl) (RH.w rfl rfl (PV.idxS rfl Is113 rfl (SlF.r (hL.na hcl.2)) rfl rfl (by omega)) (RH.w rfl rfl (PV.field rfl Fo173_2 rfl) (RH.w rfl rfl (PV.loadF rfl Sc2 rfl rfl (El.r (hL.na hcl.2) (getG (by omega))) rfl) (RH.w rfl rfl (PV.rem rfl rfl rfl (by omega) (by omega) (by omega)) (RH.w rfl rfl (PV.mvI (.inl rfl) rfl) (RH.w rfl rfl (PV.move rfl rfl) (RH.w rfl rfl (PV.mvI (.inl rfl) rfl) ?_)))))))))))))
   refine RH.w rfl rfl (PV.idxS rfl Is113 rfl (SlF.r (hL.na hcl.2)) rfl rfl (by omega)) (RH.w rfl rfl (PV.field rfl Fo173_2 rfl) (RH.w rfl rfl (PV.loadF rfl Sc2 rfl rfl (El.r (hL.na hcl.2) (getG (by omega))) rfl) (RH.w rfl rfl (PV.quo rfl rfl rfl (by omega) (by omega) (by omega)) ?_)))
   ·refine RH.ot2 rfl rfl rfl rfl  (OT.callF (vs := [_, _, _]) rfl En197 rfl (elPlaceI_r (h2 i (by omega)) q1 q2 ⟨Gh.le_refl _, PickC.pick, ?_⟩)) (OT.alloc rfl Zr95 fun b12 => ⟨Gh.le_refl _, PickC.pick, ?_⟩)
    ·refine RH.ot rfl rfl (OT.alloc rfl Zr95 fun b12 => ⟨Gh.le_refl _, PickC.pick, ?_⟩)
     refine RH.ot rfl rfl (OT.storeW (vs := [vi _, vi _, vi _]) rfl Sz95 rfl rfl (Cl.c rfl) rfl rfl (OneC.c rfl) ⟨Gh.le_refl _, PickC.pick, ?_⟩)
     refine RH.nil ?_
     exact ⟨rfl, b12, trivial, ⟨rfl, trivial⟩, ⟨rfl, rfl, rfl, rfl, rfl, trivial⟩, Cv.p⟩
    ·refine RH.ot rfl rfl (OT.callF (vs := [_, _, _]) rfl En197 rfl (elPlaceI_r (h2 i (by omega)) q1 q2 ⟨Gh.le_refl _, PickC.pick, ?_⟩))
     refine RH.ot rfl rfl (OT.storeW (vs := [vi _, vi _, vi _]) rfl Sz95 rfl rfl (Cl.c rfl) rfl rfl (OneC.c rfl) ⟨Gh.le_refl _, PickC.pick, ?_⟩)
     refine RH.nil ?_
     exact ⟨rfl, b12, trivial, ⟨rfl, trivial⟩, ⟨rfl, rfl, rfl, rfl, rfl, trivial⟩, Cv.p⟩
   rintro b12 τ1 -
   refine WP.cut1 [6] (fun (v79 : Value) => True) (fun (v79 : Value) => [(7, .bool true)]) (fun (v79 : Value) => blk b6 97 (occT.enc ⟨(gd (gd l.cells.xs o.cell.toNat).insts.xs i).cell, cmpT (elPlace (gd (gd l.cells.xs o.cell.toNat).insts.xs i) (rest % (gd (gd l.cells.xs o.cell.toNat).insts.xs i).cols) (rest / (gd (gd l.cells.xs o.cell.toNat).insts.xs i).cols)) o.place, ⟨v79, [] ++ o.path.xs ++ [n]⟩⟩) :: osl 2 intT v79 ([] ++ o.path.xs ++ [n]) :: L) ?_ ?_
   refine WP.regionHD [.b b6] (.q 0 (.q 1 (.q 2 (.q 3 (.q 4 (.q 5 (.q 6 (.q 7 (.q 10 (.q 11 (.q 13 (.c 8 (.b 9 (.b 12 (.l 14 (.l 15 (.q 16 (.l 17 (.q 18 Sch.nil))))) 14 (.l 12 (.l 15 (.q 16 (.l 17 (.q 18 Sch.nil)))))) 14 (.l 9 (.l 12 (.l 15 (.q 16 (.l 17 (.q 18 Sch.nil))))))) 9 (.b 8 (.b 12 (.l 14 (.l 15 (.q 16 (.l 17 (.q 18 Sch.nil))))) 14 (.l 12 (.l 15 (.q 16 (.l 17 (.q 18 Sch.nil)))))) 14 (.l 8 (.l 12 (.l 15 (.q 16 (.l 17 (.q 18 Sch.nil))))))) 14 (.b 8 (.l 9 (.l 12 (.l 15 (.q 16 (.l 17 (.q 18 Sch.nil)))))) 9 (.l 8 (.l 12 (.l 15 (.q 16 (.l 17 (.q 18 Sch.nil))))))))))))))))))) (by kernel_rfl) (by kernel_rfl) (by kernel_rfl) rfl ?_
   refine RH.w rfl rfl (PV.move rfl rfl) (RH.w rfl rfl (PV.mvI (.inl rfl) rfl) (RH.w rfl rfl (PV.idxS rfl Is113 rfl (SlF.r (hL.na hcl.2)) rfl rfl (by omega)) (RH.w rfl rfl (PV.field rfl Fo173_0 rfl) (RH.w rfl rfl (PV.loadF rfl Sc2 rfl rfl (El.r (hL.na hcl.2) (getG (by omega))) rfl) (RH.w rfl rfl (PV.field rfl Fo97_1 rfl) (RH.w rfl rfl (PV.loadB (vs := [_, _, _]) rfl Ag95 rfl rfl rfl) (RH.w rfl rfl (PV.loadW rfl Ag95 rfl rfl) (RH.w rfl rfl (PV.field rfl Fo97_2 rfl) (RH.w rfl rfl (PV.load1 rfl Sc30 rfl (Rd.blk rfl)) (RH.w rfl rfl (PV.mvI (.inl rfl) rfl) ?_))))))))))
   ·refine RH.ot3 rfl rfl rfl rfl rfl rfl  (OT.callF (vs := [_, _]) rfl En198 rfl (l10After_r hb1 hb2 hbig ⟨Gh.le_refl _, PickC.pick, ?_⟩)) (OT.bslice (F := intT) (els := []) rfl El30 rfl (by decide) rfl (by decide) trivial fun v73 => ⟨Gh.le_refl _, PickC.pick, ?_⟩) (OT.bslice (F := intT) (els := [_]) rfl El30 rfl (by decide) rfl (by decide) ⟨rfl, (Cl.c rfl), trivial⟩ fun v78 => ⟨Gh.le_refl _, PickC.pick, ?_⟩)
    ·refine RH.ot2 rfl rfl rfl rfl  (OT.bslice (F := intT) (els := []) rfl El30 rfl (by decide) rfl (by decide) trivial fun v73 => ⟨Gh.le_refl _, PickC.pick, ?_⟩) (OT.bslice (F := intT) (els := [_]) rfl El30 rfl (by decide) rfl (by decide) ⟨rfl, (Cl.c rfl), trivial⟩ fun v78 => ⟨Gh.le_refl _, PickC.pick, ?_⟩)
     ·refine RH.ot2 rfl rfl rfl rfl  (OT.append (v := v73) (F := intT) rfl El30 rfl (by decide) rfl rfl (Rs.up hp) (OneL.c (fun _ => rfl)) rfl (by first | omega | (simp <;> omega)) fun v76 => ⟨Gh.le_refl _, PickC.pick, ?_⟩) (OT.bslice (F := intT) (els := [_]) rfl El30 rfl (by decide) rfl (by decide) ⟨rfl, (Cl.c rfl), trivial⟩ fun v78 => ⟨Gh.le_refl _, PickC.pick, ?_⟩)
      ·refine RH.ot rfl rfl (OT.bslice (F := intT) (els := [_]) rfl El30 rfl (by decide) rfl (by decide) ⟨rfl, (Cl.c rfl), trivial⟩ fun v78 => ⟨Gh.le_refl _, PickC.pick, ?_⟩)
       refine RH.ot rfl rfl (OT.append (v := v76) (u := v78) (F := intT) rfl El30 rfl (by decide) rfl rfl Rs.o (OneL.c (fun _ => rfl)) rfl (by first | omega | (simp <;> omega)) fun v79 => ⟨Gh.le_refl _, PickC.pick, ?_⟩)
       refine RH.up1 ?_
       refine RH.w rfl rfl (PV.build (vs := [(0, [vi _]), (1, [vi _, vi _, vi _]), (2, [v79])]) (out := [_, _, _, _, _]) rfl Zr97 Pl97 ⟨rfl, (Cl.c rfl), ⟨rfl, (Cl.c rfl), ⟨rfl, (Cl.s (v := v79) SlF.o), trivial⟩⟩⟩ rfl) ?_
       refine RH.ot rfl rfl (OT.storeW (vs := [vi _, vi _, vi _, vi _, _]) rfl Sz97 rfl rfl (Cl.c rfl) rfl rfl (OneC.val rfl (OneC.val rfl (OneC.val rfl (OneC.val rfl (OneC.sl (SlF.o (v := v79)) OneC.nil))))) ⟨Gh.le_refl _, PickC.pick, ?_⟩)
       refine RH.w rfl rfl (PV.mvB (.inr rfl) rfl) ?_
       refine RH.nil ?_
       exact ⟨rfl, v79, trivial, ⟨rfl, trivial⟩, ⟨rfl, trivial⟩, Cv.p⟩
      ·refine RH.ot rfl rfl (OT.append (v := v73) (F := intT) rfl El30 rfl (by decide) rfl rfl (Rs.up hp) (OneL.c (fun _ => rfl)) rfl (by first | omega | (simp <;> omega)) fun v76 => ⟨Gh.le_refl _, PickC.pick, ?_⟩)
       refine RH.ot rfl rfl (OT.append (v := v76) (u := v78) (F := intT) rfl El30 rfl (by decide) rfl rfl Rs.o (OneL.c (fun _ => rfl)) rfl (by first | omega | (simp <;> omega)) fun v79 => ⟨Gh.le_refl _, PickC.pick, ?_⟩)
       refine RH.up1 ?_
       refine RH.w rfl rfl (PV.build (vs := [(0, [vi _]), (1, [vi _, vi _, vi _]), (2, [v79])]) (out := [_, _, _, _, _]) rfl Zr97 Pl97 ⟨rfl, (Cl.c rfl), ⟨rfl, (Cl.c rfl), ⟨rfl, (Cl.s (v := v79) SlF.o), trivial⟩⟩⟩ rfl) ?_
       refine RH.ot rfl rfl (OT.storeW (vs := [vi _, vi _, vi _, vi _, _]) rfl Sz97 rfl rfl (Cl.c rfl) rfl rfl (OneC.val rfl (OneC.val rfl (OneC.val rfl (OneC.val rfl (OneC.sl (SlF.o (v := v79)) OneC.nil))))) ⟨Gh.le_refl _, PickC.pick, ?_⟩)
       refine RH.w rfl rfl (PV.mvB (.inr rfl) rfl) ?_
       refine RH.nil ?_
       exact ⟨rfl, v79, trivial, ⟨rfl, trivial⟩, ⟨rfl, trivial⟩, Cv.p⟩
     ·refine RH.ot rfl rfl (OT.bslice (F := intT) (els := []) rfl El30 rfl (by decide) rfl (by decide) trivial fun v73 => ⟨Gh.le_refl _, PickC.pick, ?_⟩)
      refine RH.ot rfl rfl (OT.append (v := v73) (F := intT) rfl El30 rfl (by decide) rfl rfl (Rs.up hp) (OneL.c (fun _ => rfl)) rfl (by first | omega | (simp <;> omega)) fun v76 => ⟨Gh.le_refl _, PickC.pick, ?_⟩)
      refine RH.ot rfl rfl (OT.append (v := v76) (u := v78) (F := intT) rfl El30 rfl (by decide) rfl rfl Rs.o (OneL.c (fun _ => rfl)) rfl (by first | omega | (simp <;> omega)) fun v79 => ⟨Gh.le_refl _, PickC.pick, ?_⟩)
      refine RH.up1 ?_
      refine RH.w rfl rfl (PV.build (vs := [(0, [vi _]), (1, [vi _, vi _, vi _]), (2, [v79])]) (out := [_, _, _, _, _]) rfl Zr97 Pl97 ⟨rfl, (Cl.c rfl), ⟨rfl, (Cl.c rfl), ⟨rfl, (Cl.s (v := v79) SlF.o), trivial⟩⟩⟩ rfl) ?_
      refine RH.ot rfl rfl (OT.storeW (vs := [vi _, vi _, vi _, vi _, _]) rfl Sz97 rfl rfl (Cl.c rfl) rfl rfl (OneC.val rfl (OneC.val rfl (OneC.val rfl (OneC.val rfl (OneC.sl (SlF.o (v := v79)) OneC.nil))))) ⟨Gh.le_refl _, PickC.pick, ?_⟩)
      refine RH.w rfl rfl (PV.mvB (.inr rfl) rfl) ?_
      refine RH.nil ?_
      exact ⟨rfl, v79, trivial, ⟨rfl, trivial⟩, ⟨rfl, trivial⟩, Cv.p⟩
    ·refine RH.ot2 rfl rfl rfl rfl  (OT.callF (vs := [_, _]) rfl En198 rfl (l10After_r hb1 hb2 hbig ⟨Gh.le_refl _, PickC.pick, ?_⟩)) (OT.bslice (F := intT) (els := [_]) rfl El30 rfl (by decide) rfl (by decide) ⟨rfl, (Cl.c rfl), trivial⟩ fun v78 => ⟨Gh.le_refl _, PickC.pick, ?_⟩)
     ·refine RH.ot2 rfl rfl rfl rfl  (OT.append (v := v73) (F := intT) rfl El30 rfl (by decide) rfl rfl (Rs.up hp) (OneL.c (fun _ => rfl)) rfl (by first | omega | (simp <;> omega)) fun v76 => ⟨Gh.le_refl _, PickC.pick, ?_⟩) (OT.bslice (F := intT) (els := [_]) rfl El30 rfl (by decide) rfl (by decide) ⟨rfl, (Cl.c rfl), trivial⟩ fun v78 => ⟨Gh.le_refl _, PickC.pick, ?_⟩)
      ·refine RH.ot rfl rfl (OT.bslice (F := intT) (els := [_]) rfl El30 rfl (by decide) rfl (by decide) ⟨rfl, (Cl.c rfl), trivial⟩ fun v78 => ⟨Gh.le_refl _, PickC.pick, ?_⟩)
       refine RH.ot rfl rfl (OT.append (v := v76) (u := v78) (F := intT) rfl El30 rfl (by decide) rfl rfl Rs.o (OneL.c (fun _ => rfl)) rfl (by first | omega | (simp <;> omega)) fun v79 => ⟨Gh.le_refl _, PickC.pick, ?_⟩)
       refine RH.up1 ?_
       refine RH.w rfl rfl (PV.build (vs := [(0, [vi _]), (1, [vi _, vi _, vi _]), (2, [v79])]) (out := [_, _, _, _, _]) rfl Zr97 Pl97 ⟨rfl, (Cl.c rfl), ⟨rfl, (Cl.c rfl), ⟨rfl, (Cl.s (v := v79) SlF.o), trivial⟩⟩⟩ rfl) ?_
       refine RH.ot rfl rfl (OT.storeW (vs := [vi _, vi _, vi _, vi _, _]) rfl Sz97 rfl rfl (Cl.c rfl) rfl rfl (OneC.val rfl (OneC.val rfl (OneC.val rfl (OneC.val rfl (OneC.sl (SlF.o (v := v79)) OneC.nil))))) ⟨Gh.le_refl _, PickC.pick, ?_⟩)
       refine RH.w rfl rfl (PV.mvB (.inr rfl) rfl) ?_
       refine RH.nil ?_
       exact ⟨rfl, v79, trivial, ⟨rfl, trivial⟩, ⟨rfl, trivial⟩, Cv.p⟩
      ·refine RH.ot rfl rfl (OT.append (v := v73) (F := intT) rfl El30 rfl (by decide) rfl rfl (Rs.up hp) (OneL.c (fun _ => rfl)) rfl (by first | omega | (simp <;> omega)) fun v76 => ⟨Gh.le_refl _, PickC.pick, ?_⟩)
       refine RH.ot rfl rfl (OT.append (v := v76) (u := v78) (F := intT) rfl El30 rfl (by decide) rfl rfl Rs.o (OneL.c (fun _ => rfl)) rfl (by first | omega | (simp <;> omega)) fun v79 => ⟨Gh.le_refl _, PickC.pick, ?_⟩)
       refine RH.up1 ?_
       refine RH.w rfl rfl (PV.build (vs := [(0, [vi _]), (1, [vi _, vi _, vi _]), (2, [v79])]) (out := [_, _, _, _, _]) rfl Zr97 Pl97 ⟨rfl, (Cl.c rfl), ⟨rfl, (Cl.c rfl), ⟨rfl, (Cl.s (v := v79) SlF.o), trivial⟩⟩⟩ rfl) ?_
       refine RH.ot rfl rfl (OT.storeW (vs := [vi _, vi _, vi _, vi _, _]) rfl Sz97 rfl rfl (Cl.c rfl) rfl rfl (OneC.val rfl (OneC.val rfl (OneC.val rfl (OneC.val rfl (OneC.sl (SlF.o (v := v79)) OneC.nil))))) ⟨Gh.le_refl _, PickC.pick, ?_⟩)
       refine RH.w rfl rfl (PV.mvB (.inr rfl) rfl) ?_
       refine RH.nil ?_
       exact ⟨rfl, v79, trivial, ⟨rfl, trivial⟩, ⟨rfl, trivial⟩, Cv.p⟩
     ·refine RH.ot rfl rfl (OT.callF (vs := [_, _]) rfl En198 rfl (l10After_r hb1 hb2 hbig ⟨Gh.le_refl _, PickC.pick, ?_⟩))
      refine RH.ot rfl rfl (OT.append (v := v73) (F := intT) rfl El30 rfl (by decide) rfl rfl (Rs.up hp) (OneL.c (fun _ => rfl)) rfl (by first | omega | (simp <;> omega)) fun v76 => ⟨Gh.le_refl _, PickC.pick, ?_⟩)
      refine RH.ot rfl rfl (OT.append (v := v76) (u := v78) (F := intT) rfl El30 rfl (by decide) rfl rfl Rs.o (OneL.c (fun _ => rfl)) rfl (by first | omega | (simp <;> omega)) fun v79 => ⟨Gh.le_refl _, PickC.pick, ?_⟩)
      refine RH.up1 ?_
      refine RH.w rfl rfl (PV.build (vs := [(0, [vi _]), (1, [vi _, vi _, vi _]), (2, [v79])]) (out := [_, _, _, _, _]) rfl Zr97 Pl97 ⟨rfl, (Cl.c rfl), ⟨rfl, (Cl.c rfl), ⟨rfl, (Cl.s (v := v79) SlF.o), trivial⟩⟩⟩ rfl) ?_
      refine RH.ot rfl rfl (OT.storeW (vs := [vi _, vi _, vi _, vi _, _]) rfl Sz97 rfl rfl (Cl.c rfl) rfl rfl (OneC.val rfl (OneC.val rfl (OneC.val rfl (OneC.val rfl (OneC.sl (SlF.o (v := v79)) OneC.nil))))) ⟨Gh.le_refl _, PickC.pick, ?_⟩)
      refine RH.w rfl rfl (PV.mvB (.inr rfl) rfl) ?_
      refine RH.nil ?_
      exact ⟨rfl, v79, trivial, ⟨rfl, trivial⟩, ⟨rfl, trivial⟩, Cv.p⟩
    ·refine RH.ot2 rfl rfl rfl rfl  (OT.callF (vs := [_, _]) rfl En198 rfl (l10After_r hb1 hb2 hbig ⟨Gh.le_refl _, PickC.pick, ?_⟩)) (OT.bslice (F := intT) (els := []) rfl El30 rfl (by decide) rfl (by decide) trivial fun v73 => ⟨Gh.le_refl _, PickC.pick, ?_⟩)
     ·refine RH.ot rfl rfl (OT.bslice (F := intT) (els := []) rfl El30 rfl (by decide) rfl (by decide) trivial fun v73 => ⟨Gh.le_refl _, PickC.pick, ?_⟩)
      refine RH.ot rfl rfl (OT.append (v := v73) (F := intT) rfl El30 rfl (by decide) rfl rfl (Rs.up hp) (OneL.c (fun _ => rfl)) rfl (by first | omega | (simp <;> omega)) fun v76 => ⟨Gh.le_refl _, PickC.pick, ?_⟩)
      refine RH.ot rfl rfl (OT.append (v := v76) (u := v78) (F := intT) rfl El30 rfl (by decide) rfl rfl Rs.o (OneL.c (fun _ => rfl)) rfl (by first | omega | (simp <;> omega)) fun v79 => ⟨Gh.le_refl _, PickC.pick, ?_⟩)
      refine RH.up1 ?_
      refine RH.w rfl rfl (PV.build (vs := [(0, [vi _]), (1, [vi _, vi _, vi _]), (2, [v79])]) (out := [_, _, _, _, _]) rfl Zr97 Pl97 ⟨rfl, (Cl.c rfl), ⟨rfl, (Cl.c rfl), ⟨rfl, (Cl.s (v := v79) SlF.o), trivial⟩⟩⟩ rfl) ?_
      refine RH.ot rfl rfl (OT.storeW (vs := [vi _, vi _, vi _, vi _, _]) rfl Sz97 rfl rfl (Cl.c rfl) rfl rfl (OneC.val rfl (OneC.val rfl (OneC.val rfl (OneC.val rfl (OneC.sl (SlF.o (v := v79)) OneC.nil))))) ⟨Gh.le_refl _, PickC.pick, ?_⟩)
      refine RH.w rfl rfl (PV.mvB (.inr rfl) rfl) ?_
      refine RH.nil ?_
      exact ⟨rfl, v79, trivial, ⟨rfl, trivial⟩, ⟨rfl, trivial⟩, Cv.p⟩
     ·refine RH.ot rfl rfl (OT.callF (vs := [_, _]) rfl En198 rfl (l10After_r hb1 hb2 hbig ⟨Gh.le_refl _, PickC.pick, ?_⟩))
      refine RH.ot rfl rfl (OT.append (v := v73) (F := intT) rfl El30 rfl (by decide) rfl rfl (Rs.up hp) (OneL.c (fun _ => rfl)) rfl (by first | omega | (simp <;> omega)) fun v76 => ⟨Gh.le_refl _, PickC.pick, ?_⟩)
      refine RH.ot rfl rfl (OT.append (v := v76) (u := v78) (F := intT) rfl El30 rfl (by decide) rfl rfl Rs.o (OneL.c (fun _ => rfl)) rfl (by first | omega | (simp <;> omega)) fun v79 => ⟨Gh.le_refl _, PickC.pick, ?_⟩)
      refine RH.up1 ?_
      refine RH.w rfl rfl (PV.build (vs := [(0, [vi _]), (1, [vi _, vi _, vi _]), (2, [v79])]) (out := [_, _, _, _, _]) rfl Zr97 Pl97 ⟨rfl, (Cl.c rfl), ⟨rfl, (Cl.c rfl), ⟨rfl, (Cl.s (v := v79) SlF.o), trivial⟩⟩⟩ rfl) ?_
      refine RH.ot rfl rfl (OT.storeW (vs := [vi _, vi _, vi _, vi _, _]) rfl Sz97 rfl rfl (Cl.c rfl) rfl rfl (OneC.val rfl (OneC.val rfl (OneC.val rfl (OneC.val rfl (OneC.sl (SlF.o (v := v79)) OneC.nil))))) ⟨Gh.le_refl _, PickC.pick, ?_⟩)
      refine RH.w rfl rfl (PV.mvB (.inr rfl) rfl) ?_
      refine RH.nil ?_
      exact ⟨rfl, v79, trivial, ⟨rfl, trivial⟩, ⟨rfl, trivial⟩, Cv.p⟩
   ·rintro v79 τ2 -
    exact WP.ret ⟨_, _, ResV.two rfl (RV1.cell rfl Ag97 rfl) rfl, Cv.p, k v79⟩
  ·have h4 := of_decide_eq_false h4
   refine WP.skip (WP.region (RG.ml rfl (RG.ml rfl (RG.p (PV.sub rfl rfl rfl (by omega)) (RG.mr rfl (RG.nil (WP.region (RG.ml rfl (RG.p (PV.add rfl rfl rfl (by omega)) (RG.mr rfl (RG.nil ?_)))))))))))
   exact ⟨rfl, i + 1, _, ⟨by omega, by omega, by rw [z1]; omega⟩, ⟨rfl, rfl, trivial⟩, ⟨rfl, rfl, rfl, rfl, trivial⟩, Cv.p, by omega⟩
 ·exfalso
  have hle : i = (gd l.cells.xs o.cell.toNat).insts.xs.length := by
   simp only [Bool.and_eq_false_iff, decide_eq_false_iff_not] at h3; omega
  rw [List.take_of_length_le (by omega)] at hre
  omega
end Go.Proofs.YtgphjofccckloaaGreat
namespace Go.Proofs.YtgphjofccckloaaGreat
open Go
set_option maxRecDepth 20000
set_option maxHeartbeats 1000000
variable {G : Gh} {L : List Ch} {R : Value → Gh → List Ch → Prop}
theorem step0_s {l : Lib} {cell n : Int} (hL : RLib G L l.cells.v l.cells.xs) (hok : okLib (erCls l.cells.xs) = true) (hcl : 0 ≤ cell ∧ cell.toNat < l.cells.xs.length) (hn : 0 ≤ n ∧ n.toNat < (elems (gd l.cells.xs cell.toNat).insts.xs).length)
  (k : ∀ v', R (.tuple #[vT occT ⟨(gd (elems (gd l.cells.xs cell.toNat).insts.xs) n.toNat).cell, cmpT (gd (elems (gd l.cells.xs cell.toNat).insts.xs) n.toNat).place ⟨0, 0, 0⟩, ⟨v', [n]⟩⟩, .bool true]) G (osl 2 intT v' [n] :: L)) : CallT Tryz.prog 117 #[vT libT l, vT occT ⟨cell, ⟨0, 0, 0⟩, ⟨.slice none 0 0, []⟩⟩, vi n] G L R :=
 step_s (o := ⟨cell, ⟨0, 0, 0⟩, ⟨.slice none 0 0, []⟩⟩) hL hok hcl ⟨by simp, by simp⟩ RsN (by simp) hn k
theorem path_s {l : Lib} {cell n : Int} {v : Value} (hL : RLib G L l.cells.v l.cells.xs) (hlen : lenC (erCls l.cells.xs)) (ha : AtEl l.cells.xs cell n) (h5 : Rs G L intT v [n])
  (k : ∀ w : Value, w.oneCell' = true → R (.tuple #[vT occT ⟨(gd (elems (gd l.cells.xs cell.toNat).insts.xs) n.toNat).cell, (gd (elems (gd l.cells.xs cell.toNat).insts.xs) n.toNat).place, ⟨w, [n]⟩⟩, vi 0]) G L) : CallT Tryz.prog 60 #[vT libT l, vi cell, v] G L R := by
 have hE := erCls_len l.cells.xs
 obtain ⟨hok, hc0, hc1⟩ := ha.lib
 have hnl := ha.lt
 have hn0 := ha.hn.1
 obtain ⟨he1, he2⟩ := ha.el
 have hh : hasCl (erCls l.cells.xs) cell = true := by simp [hasCl, hok, within]; omega
 have hvt : validT (gd (elems (gd l.cells.xs cell.toNat).insts.xs) n.toNat).place = true := validT_iff.2 ⟨he1, he2.1, he2.2⟩
 refine CallT.enter (args := _) Tryz.func60 rfl rfl (by kernel_rfl) rfl ?_
 refine WP.sr ?_
 refine RG.ot rfl (OT.box (cs := libT.enc l) rfl rfl rfl fun b3 => ?_)
 refine RG.ot rfl (OT.alloc rfl Zr97 fun b6 => ?_)
 refine RG.mr rfl (RG.nil (WP.seq (WP.sr (RG.p (PV.loadW rfl Ag35 rfl rfl) ?_))))
 refine RG.callF (vs := [_]) rfl rfl En35 rfl (okLib_r hL.up hlen ?_)
 refine RG.p (PV.not rfl rfl) (RG.nil ?_)
 refine WP.cond rfl (fun h1 => ?_) (fun h1 => ?_)
 ·exfalso; simp [hok] at h1
 refine WP.skip (WP.seq (WP.sr (RG.p (PV.loadW rfl Ag35 rfl rfl) (RG.ml rfl ?_))))
 refine RG.callF (vs := [_, _]) rfl rfl En116 rfl (hasCl_r hL.up hlen ?_)
 refine RG.p (PV.not rfl rfl) (RG.nil ?_)
 refine WP.cond rfl (fun h2 => ?_) (fun h2 => ?_)
 ·exfalso; simp [hh] at h2
 refine WP.skip (WP.sr (RG.ml rfl (RG.p (PV.build (vs := [(0, [vi _])]) (out := [_, _, _, _, _]) rfl Zr97 Pl97 ⟨rfl, (Cl.c rfl), trivial⟩ rfl) ?_)))
 refine RG.ot rfl (OT.alloc rfl Zr97 fun b8 => ?_)
 refine RG.ot rfl (OT.storeW (vs := [vi _, vi _, vi _, vi _, _]) rfl Sz97 rfl rfl (Cl.c rfl) rfl rfl (OneC.c rfl) ?_)
 refine RG.nil (WP.seq (WP.sr (RG.mr rfl (RG.nil (WP.block ?_)))))
 refine WP.loop2 [2, 3, 6, 8] (fun (i : Nat) (o : Occ) => (i = 0 ∧ o = ⟨cell, ⟨0, 0, 0⟩, ⟨.slice none 0 0, []⟩⟩) ∨ (i = 1 ∧ o = ⟨(gd (elems (gd l.cells.xs cell.toNat).insts.xs) n.toNat).cell, (gd (elems (gd l.cells.xs cell.toNat).insts.xs) n.toNat).place, ⟨o.path.v, [n]⟩⟩ ∧ o.path.v.oneCell' = true)) (fun (i : Nat) (o : Occ) => [(9, vi i)]) (fun (i : Nat) (o : Occ) => blk b8 97 (occT.enc o) :: blk b3 35 (libT.enc l) :: blk b6 97 [vi 0, vi 0, vi 0, vi 0, .slice none 0 0] :: L) (fun (i : Nat) (o : Occ) => 1 - i) 0 ⟨cell, ⟨0, 0, 0⟩, ⟨.slice none 0 0, []⟩⟩ (.inl ⟨rfl, rfl⟩) ⟨rfl, trivial⟩ Cv.p ?_
 rintro i o τ hJ
 refine WP.seq (WP.sr (RG.ml rfl (RG.p (PV.move (v := v) rfl rfl) (RG.p (PV.len (v := v) rfl Tryz.underlying30 rfl (SlF.r h5)) (RG.p (PV.lss rfl rfl rfl) (RG.nil ?_))))))
 refine WP.cond rfl (fun h3 => ?_) (fun h3 => ?_)
 ·have h3 : i < 1 := by have := of_decide_eq_true h3; simp only [List.length_cons, List.length_nil] at this; omega
  obtain ⟨rfl, rfl⟩ : i = 0 ∧ o = ⟨cell, ⟨0, 0, 0⟩, ⟨.slice none 0 0, []⟩⟩ := by
   rcases hJ with h | h
   ·exact h
   ·omega
  refine WP.skip (WP.seq (WP.block ?_))
  refine WP.cut2 [2, 3, 6, 8, 9] (fun (b10 : Nat) (w36 : Value) => True) (fun (b10 : Nat) (w36 : Value) => [(10, .pointer (some ⟨b10, 0, none⟩)), (11, .bool true)]) (fun (b10 : Nat) (w36 : Value) => blk b10 97 (occT.enc ⟨(gd (elems (gd l.cells.xs cell.toNat).insts.xs) n.toNat).cell, cmpT (gd (elems (gd l.cells.xs cell.toNat).insts.xs) n.toNat).place ⟨0, 0, 0⟩, ⟨w36, [n]⟩⟩) :: osl 2 intT w36 ([n]) :: blk b8 97 (occT.enc ⟨cell, ⟨0, 0, 0⟩, ⟨.slice none 0 0, []⟩⟩) :: blk b3 35 (libT.enc l) :: blk b6 97 [vi 0, vi 0, vi 0, vi 0, .slice none 0 0] :: L) ?_ ?_
  refine WP.regionH0 (.q 0 (.q 1 (.q 2 (.q 3 (.q 4 (.q 5 (.b 6 (.q 7 (.q 8 (.q 9 (.l 10 (.l 11 (.q 12 Sch.nil)))))) 10 (.l 6 (.q 7 (.q 8 (.q 9 (.l 11 (.q 12 Sch.nil))))))))))))) (by kernel_rfl) (by kernel_rfl) (by kernel_rfl) rfl ?_
  refine RH.w rfl rfl (PV.loadW rfl Ag35 rfl rfl) (RH.w rfl rfl (PV.loadW rfl Ag97 rfl rfl) (RH.w rfl rfl (PV.move (v := v) rfl rfl) (RH.w rfl rfl (PV.mvI (.inl rfl) rfl) (RH.w rfl rfl (PV.idxS (j := 0) (v := v) rfl Is30 rfl (SlF.r h5) rfl (by first | omega | (simp only [List.length_cons, List.length_nil]; omega)) (by first | omega | (simp only [List.length_cons, List.length_nil]; omega))) (RH.w rfl rfl (PV.loadE1 rfl Sc2 rfl rfl (El.r h5 rfl) rfl) ?_)))))
  ·refine RH.ot2 rfl rfl rfl rfl  (OT.callF (vs := [_, _, _]) rfl En117 rfl (step0_s hL.up hok ⟨hc0, hc1⟩ ⟨hn0, hnl⟩ (fun w36 => ⟨Gh.le_refl _, PickC.pick, ?_⟩))) (OT.alloc rfl Zr97 fun b10 => ⟨Gh.le_refl _, PickC.pick, ?_⟩)
   ·refine RH.w rfl rfl (PV.move rfl rfl) ?_
    refine RH.w rfl rfl (PV.ext rfl rfl rfl) (RH.w rfl rfl (PV.ext rfl rfl rfl) ?_)
    refine RH.ot rfl rfl (OT.alloc rfl Zr97 fun b10 => ⟨Gh.le_refl _, PickC.pick, ?_⟩)
    refine RH.ot rfl rfl (OT.storeW (vs := [vi _, vi _, vi _, vi _, _]) rfl Sz97 rfl rfl (Cl.c rfl) rfl rfl (OneC.val rfl (OneC.val rfl (OneC.val rfl (OneC.val rfl (OneC.sl (SlF.o (v := w36)) OneC.nil))))) ⟨Gh.le_refl _, PickC.pick, ?_⟩)
    refine RH.w rfl rfl (PV.mvB (.inr rfl) rfl) ?_
    refine RH.nil ?_
    exact ⟨rfl, b10, w36, trivial, ⟨rfl, rfl, trivial⟩, ⟨rfl, rfl, rfl, rfl, rfl, trivial⟩, Cv.p⟩
   ·refine RH.ot rfl rfl (OT.callF (vs := [_, _, _]) rfl En117 rfl (step0_s hL.up hok ⟨hc0, hc1⟩ ⟨hn0, hnl⟩ (fun w36 => ⟨Gh.le_refl _, PickC.pick, ?_⟩)))
    refine RH.w rfl rfl (PV.move rfl rfl) (RH.w rfl rfl (PV.ext rfl rfl rfl) (RH.w rfl rfl (PV.ext rfl rfl rfl) ?_))
    refine RH.ot rfl rfl (OT.storeW (vs := [vi _, vi _, vi _, vi _, _]) rfl Sz97 rfl rfl (Cl.c rfl) rfl rfl (OneC.val rfl (OneC.val rfl (OneC.val rfl (OneC.val rfl (OneC.sl (SlF.o (v := w36)) OneC.nil))))) ⟨Gh.le_refl _, PickC.pick, ?_⟩)
    refine RH.w rfl rfl (PV.mvB (.inr rfl) rfl) ?_
    refine RH.nil ?_
    exact ⟨rfl, b10, w36, trivial, ⟨rfl, rfl, trivial⟩, ⟨rfl, rfl, rfl, rfl, rfl, trivial⟩, Cv.p⟩
  rintro b10 w36 τ1 -
  refine WP.st (fun w' hs => (SlF.o (v := w36) w' hs).one) fun hw1 => ?_
  refine WP.seq (WP.sr (RG.bl rfl (RG.p (PV.not rfl rfl) (RG.nil ?_))))
  refine WP.cond rfl (fun h4 => ?_) (fun h4 => ?_)
  ·exfalso; simp at h4
  refine WP.skip (WP.region (RG.p (PV.loadW rfl Ag97 rfl rfl) ?_))
  refine RG.ot rfl (OT.storeW (vs := [vi _, vi _, vi _, vi _, _]) rfl Sz97 rfl rfl (Cl.c rfl) rfl rfl (OneC.val rfl (OneC.val rfl (OneC.val rfl (OneC.val rfl (OneC.sl (SlF.o (v := w36)) OneC.nil))))) ?_)
  refine RG.nil (WP.region (RG.ml rfl (RG.p (PV.add rfl rfl rfl (by first | omega | (simp only [List.length_cons, List.length_nil]; omega))) (RG.mr rfl (RG.nil ?_)))))
  exact ⟨rfl, 1, ⟨(gd (elems (gd l.cells.xs cell.toNat).insts.xs) n.toNat).cell, cmpT (gd (elems (gd l.cells.xs cell.toNat).insts.xs) n.toNat).place ⟨0, 0, 0⟩, ⟨w36, [n]⟩⟩, (.inr ⟨rfl, by rw [cmpT_top he1], hw1⟩), ⟨rfl, trivial⟩, ⟨rfl, rfl, rfl, rfl, trivial⟩, Cv.p, by omega⟩
 ·have h3 : ¬ i < 1 := by have := of_decide_eq_false h3; simp only [List.length_cons, List.length_nil] at this; omega
  obtain ⟨hi, ho, hw1⟩ : i = 1 ∧ o = ⟨(gd (elems (gd l.cells.xs cell.toNat).insts.xs) n.toNat).cell, (gd (elems (gd l.cells.xs cell.toNat).insts.xs) n.toNat).place, ⟨o.path.v, [n]⟩⟩ ∧ o.path.v.oneCell' = true := by
   rcases hJ with h | h
   ·omega
   ·exact h
  generalize o.path.v = w0 at ho hw1
  subst ho
  refine WP.exit ?_
  refine WP.seq (WP.sr (RG.p (PV.field rfl Fo97_1 rfl) (RG.p (PV.loadB (vs := [_, _, _]) rfl Ag95 rfl rfl rfl) ?_)))
  refine RG.callF (vs := [_]) rfl rfl En118 rfl (l09Trans_r ?_)
  refine RG.p (PV.not rfl rfl) (RG.nil ?_)
  refine WP.cond rfl (fun h6 => ?_) (fun h6 => ?_)
  ·exfalso; simp [hvt] at h6
  refine WP.skip (WP.sr (RG.p (PV.loadW rfl Ag97 rfl rfl) ?_))
  refine RG.ot rfl (OT.storeW (vs := [vi _, vi _, vi _, vi _, _]) rfl Sz97 rfl rfl (Cl.c rfl) rfl rfl (OneC.val rfl (OneC.val rfl (OneC.val rfl (OneC.val rfl (OneC.val hw1 OneC.nil))))) ?_)
  refine RG.mr rfl (RG.nil ?_)
  exact WP.ret ⟨_, _, ResV.two rfl (RV1.cell rfl Ag97 rfl) rfl, Cv.p, k w0 hw1⟩
theorem any_pick {rs : List RShape} {f : Int → Bool} {g : Shape → Bool} : (rs.any fun x => f x.root && g x.shape) = (pickR rs f).any g := by
 induction rs with
 | nil => rfl
 | cons x rs ih =>
  rw [List.any_cons, ih, pickR, pickR, List.filter_cons]
  cases hf : f x.root <;> simp
theorem pick_sel {cs : List ECell} {ls : List Int} {b : Bool} {f : Int → Bool} : ∀ {os : List EOcc}, (∀ o ∈ os, f (rootOf o) = (selS ls o == b)) → pickR (rootL cs os) f = selL cs os ls b
 | [], _ => rfl
 | o :: os, h => by
  have ih := pick_sel (cs := cs) (os := os) (ls := ls) (b := b) (f := f) (fun q hq => h q (.tail _ hq))
  have h0 := h o (.head _)
  have e1 : rootL cs (o :: os) = rootAt cs o ++ rootL cs os := rfl
  have e2 : selL cs (o :: os) ls b = (if (selS ls o == b) = true then flatOf cs o else []) ++ selL cs os ls b := rfl
  rw [e1, e2, ← ih, pickR, pickR, List.filter_append, List.map_append, ← h0]
  congr 1
  rw [rootAt]
  cases hf : f (rootOf o)
  ·rw [List.filter_eq_nil_iff.2 (fun x hx => by obtain ⟨s, _, rfl⟩ := List.mem_map.1 hx; simp [hf])]; simp
  ·rw [List.filter_eq_self.2 (fun x hx => by obtain ⟨s, _, rfl⟩ := List.mem_map.1 hx; simp [hf])]; simp [Function.comp_def]
theorem root_one {o : EOcc} {n : Int} (hn : 0 ≤ n) : decide (rootOf o = n) = selS [n] o := by
 by_cases h : 0 < o.path.length
 ·rw [rootOf_pos h, selS]
  have : (0 : Int) < o.path.length := by omega
  simp only [this, decide_true, Bool.true_and, List.any_cons, List.any_nil, Bool.or_false]
  rw [decide_eq_decide]; exact eq_comm
 ·rw [rootOf_neg h, selS]
  have h1 : ¬ (0 : Int) < o.path.length := by omega
  have h2 : ¬ (-1 : Int) = n := by omega
  simp [h1, h2]
  intro hh; exact absurd hh h
theorem free_sel {xs : List Cell} {cell n reach : Int} {p : Rect} (ha : AtEl xs cell n) : (rootR (erCls xs) cell).any (nearS n reach p) = (selL (erCls xs) (occR (erCls xs) cell) [n] false).any fun s => decide (distR s.box p ≤ 2 * reach) := by
 have e2 : rootR (erCls xs) cell = rootL (erCls xs) (occR (erCls xs) cell) := by rw [rootR, decide_eq_true ha.hz]; rfl
 have e := any_pick (rs := rootL (erCls xs) (occR (erCls xs) cell)) (f := fun r => !decide (r = n)) (g := fun s => decide (distR s.box p ≤ 2 * reach))
 rw [e2, ← pick_sel (f := fun r => !decide (r = n)) (fun o _ => by rw [root_one ha.hn.1]; cases selS [n] o <;> rfl), ← e]
 rfl
theorem selL_in {xs : List Cell} {cell : Int} (hz : shE (erCls xs) cell = 0) {ls : List Int} {b : Bool} {i : Nat} (hi : i < (selL (erCls xs) (occR (erCls xs) cell) ls b).length) : validRect (gd (selL (erCls xs) (occR (erCls xs) cell) ls b) i).box = true :=
 (shE_zero hz).2 _ (selL_mem (gd_mem hi))
theorem free_r {l : Lib} {cell n reach : Int} (hL : RLib G L l.cells.v l.cells.xs) (hlen : lenC (erCls l.cells.xs)) (ha : AtEl l.cells.xs cell n) (hr : 0 ≤ reach ∧ reach ≤ 8) (k : R (.bool (freeB (erCls l.cells.xs) cell n reach)) G L) :
  CallT Tryz.prog 59 #[vT libT l, vi cell, vi n, vi reach] G L R := by
 have hE := erCls_len l.cells.xs
 obtain ⟨hok, hc0, hc1⟩ := ha.lib
 have hce := erCl_insts (xs := l.cells.xs) (i := cell.toNat) hc1
 have hnl := ha.lt
 have hn0 := ha.hn.1
 obtain ⟨he1, he2'⟩ := ha.el
 have he2 : -1000 ≤ (gd (elems (gd l.cells.xs cell.toNat).insts.xs) n.toNat).place.x ∧ (gd (elems (gd l.cells.xs cell.toNat).insts.xs) n.toNat).place.x ≤ 1000 ∧ -1000 ≤ (gd (elems (gd l.cells.xs cell.toNat).insts.xs) n.toNat).place.y ∧ (gd (elems (gd l.cells.xs cell.toNat).insts.xs) n.toNat).place.y ≤ 1000 := by omega
 refine CallT.enter (args := _) Tryz.func59 rfl rfl (by kernel_rfl) rfl ?_
 refine WP.sr ?_
 refine RG.ot rfl (OT.box (cs := libT.enc l) rfl rfl rfl fun b4 => ?_)
 refine RG.br rfl (RG.nil (WP.sr (RG.p (PV.loadW rfl Ag35 rfl rfl) (RG.ml rfl (RG.ml rfl ?_)))))
 refine RG.ot rfl (OT.bslice (F := intT) (els := [_]) rfl El30 rfl (by decide) rfl (by decide) ⟨rfl, (Cl.c rfl), trivial⟩ fun v22 => ?_)
 refine RG.callF (vs := [_, _, v22]) rfl rfl En60 rfl (path_s hL.up hlen ha Rs.o (fun w1 hw1 => ?_))
 refine RG.p (PV.move rfl rfl) (RG.p (PV.ext rfl rfl rfl) (RG.p (PV.ext rfl rfl rfl) ?_))
 refine RG.ot rfl (OT.alloc rfl Zr97 fun b9 => ?_)
 refine RG.ot rfl (OT.storeW (vs := [vi _, vi _, vi _, vi _, _]) rfl Sz97 rfl rfl (Cl.c rfl) rfl rfl (OneC.val rfl (OneC.val rfl (OneC.val rfl (OneC.val rfl (OneC.val hw1 OneC.nil))))) ?_)
 refine RG.mr rfl (RG.nil (WP.sr (RG.p (PV.loadW rfl Ag35 rfl rfl) (RG.p (PV.field rfl Fo97_0 rfl) (RG.p (PV.load1 rfl Sc2 rfl (Rd.blk rfl)) ?_)))))
 refine RG.callF (vs := [_, _]) rfl rfl En110 rfl (bnd_r hL.up hlen ?_)
 refine RG.p (PV.move rfl rfl) (RG.p (PV.ext rfl rfl rfl) (RG.p (PV.ext rfl rfl rfl) ?_))
 refine RG.ot rfl (OT.alloc rfl Zr91 fun b11 => ?_)
 refine RG.ot rfl (OT.storeW (vs := [vi _, vi _, vi _, vi _]) rfl Sz91 rfl rfl (Cl.c rfl) rfl rfl (OneC.c rfl) ?_)
 refine RG.mr rfl (RG.nil (WP.seq (WP.sr (RG.ml rfl (RG.p (PV.neq rfl rfl rfl) (RG.nil ?_))))))
 refine WP.cond rfl (fun h6 => ?_) (fun h6 => ?_)
 ·have h6 : bndE (erCls l.cells.xs) (gd (elems (gd l.cells.xs cell.toNat).insts.xs) n.toNat).cell ≠ 0 := by simpa using h6
  have e : freeB (erCls l.cells.xs) cell n reach = false := free_no (by rw [hce]; exact h6)
  rw [e] at k
  refine WP.sr (RG.br rfl (RG.nil ?_))
  exact WP.ret ⟨_, _, ResV.one rfl rfl, Cv.p, k⟩
 ·have h6 : bndE (erCls l.cells.xs) (gd (elems (gd l.cells.xs cell.toNat).insts.xs) n.toNat).cell = 0 := by simpa using h6
  have hob := bndR_in h6
  have hob2 := RIn_big hob
  have hpb := moveR_big hob he1 (show (-1000 ≤ (gd (elems (gd l.cells.xs cell.toNat).insts.xs) n.toNat).place.x ∧ (gd (elems (gd l.cells.xs cell.toNat).insts.xs) n.toNat).place.x ≤ 1000) ∧ -1000 ≤ (gd (elems (gd l.cells.xs cell.toNat).insts.xs) n.toNat).place.y ∧ (gd (elems (gd l.cells.xs cell.toNat).insts.xs) n.toNat).place.y ≤ 1000 by omega)
  have hfe : freeB (erCls l.cells.xs) cell n reach = ((validRect (wideR (bndR (erCls l.cells.xs) (gd (elems (gd l.cells.xs cell.toNat).insts.xs) n.toNat).cell) reach) && validRect (wideR (moveR (gd (elems (gd l.cells.xs cell.toNat).insts.xs) n.toNat).place (bndR (erCls l.cells.xs) (gd (elems (gd l.cells.xs cell.toNat).insts.xs) n.toNat).cell)) reach)) && !((selL (erCls l.cells.xs) (occR (erCls l.cells.xs) cell) [n] false).any fun s => decide (distR s.box (moveR (gd (elems (gd l.cells.xs cell.toNat).insts.xs) n.toNat).place (bndR (erCls l.cells.xs) (gd (elems (gd l.cells.xs cell.toNat).insts.xs) n.toNat).cell)) ≤ 2 * reach))) := by
   rw [← free_sel ha]
   have e2 : rootR (erCls l.cells.xs) cell = rootL (erCls l.cells.xs) (occR (erCls l.cells.xs) cell) := by rw [rootR, decide_eq_true ha.hz]; rfl
   simp only [freeB, hce, decide_eq_true h6, Bool.true_and, e2]
  refine WP.skip (WP.sr (RG.p (PV.field rfl Fo97_1 rfl) (RG.p (PV.loadB (vs := [_, _, _]) rfl Ag95 rfl rfl rfl) (RG.p (PV.loadW rfl Ag91 rfl rfl) ?_))))
  refine RG.callF (vs := [_, _]) rfl rfl En111 rfl (moveRect_r he1 he2 hob ?_)
  refine RG.ot rfl (OT.alloc rfl Zr91 fun b13 => ?_)
  refine RG.ot rfl (OT.storeW (vs := [vi _, vi _, vi _, vi _]) rfl Sz91 rfl rfl (Cl.c rfl) rfl rfl (OneC.c rfl) ?_)
  refine RG.nil (WP.seq (WP.sr (RG.p (PV.loadW rfl Ag91 rfl rfl) (RG.ml rfl ?_))))
  refine RG.callF (vs := [_, _]) rfl rfl En113 rfl (wide_s hob2 (by omega) ?_)
  refine RG.callF (vs := [_]) rfl rfl En112 rfl (validRect_s' ?_)
  refine RG.p (PV.not rfl rfl) (RG.bl rfl ?_)
  refine RG.g rfl (fun hp => (PV.loadW rfl Ag91 rfl rfl)) ?_
  refine RG.g rfl (fun hp => (PV.mvI (.inl rfl) rfl)) ?_
  refine RG.gsC rfl rfl rfl rfl En113 (fun hp => ⟨_, (acons (gs_t hp) (acons (gs_t hp) anil)), wide_s hpb (by omega) ⟨rfl, rfl, rfl⟩⟩) ?_
  refine RG.gsC rfl rfl rfl rfl En112 (fun hp => ⟨_, (acons (gs_t hp) anil), validRect_s' ⟨rfl, rfl, rfl⟩⟩) ?_
  refine RG.g rfl (fun hp => (PV.not rfl (gs_t hp))) ?_
  refine RG.p (PV.pickO rfl rfl rfl (fun hq => gs_t (geqF hq))) (RG.nil ?_)
  refine WP.cond rfl (fun h7 => ?_) (fun h7 => ?_)
  ·have e : freeB (erCls l.cells.xs) cell n reach = false := by
    rw [hfe]
    simp only [Bool.or_eq_true, Bool.not_eq_true'] at h7
    rcases h7 with h | h
    ·rw [show validRect (wideR (bndR (erCls l.cells.xs) (gd (elems (gd l.cells.xs cell.toNat).insts.xs) n.toNat).cell) reach) = false from h]; rfl
    ·rw [show validRect (wideR (moveR (gd (elems (gd l.cells.xs cell.toNat).insts.xs) n.toNat).place (bndR (erCls l.cells.xs) (gd (elems (gd l.cells.xs cell.toNat).insts.xs) n.toNat).cell)) reach) = false from h, Bool.and_false]; rfl
   rw [e] at k
   refine WP.sr (RG.br rfl (RG.nil ?_))
   exact WP.ret ⟨_, _, ResV.one rfl rfl, Cv.p, k⟩
  ·simp only [Bool.or_eq_false_iff, Bool.not_eq_false'] at h7
   rw [show validRect (wideR (bndR (erCls l.cells.xs) (gd (elems (gd l.cells.xs cell.toNat).insts.xs) n.toNat).cell) reach) = true from h7.1, show validRect (wideR (moveR (gd (elems (gd l.cells.xs cell.toNat).insts.xs) n.toNat).place (bndR (erCls l.cells.xs) (gd (elems (gd l.cells.xs cell.toNat).insts.xs) n.toNat).cell)) reach) = true from h7.2, Bool.true_and, Bool.true_and] at hfe
   obtain ⟨⟨z1, z2, z3⟩, z4, z5, z6⟩ := id hpb
   refine WP.skip (WP.sr (RG.p (PV.loadW rfl Ag91 rfl rfl) (RG.ml rfl (RG.p (PV.mul rfl rfl rfl (by omega)) ?_))))
   refine RG.callF (vs := [_, _]) rfl rfl En113 rfl (wide_s hpb (by omega) ?_)
   refine RG.ot rfl (OT.alloc rfl Zr91 fun b14 => ?_)
   refine RG.ot rfl (OT.storeW (vs := [vi _, vi _, vi _, vi _]) rfl Sz91 rfl rfl (Cl.c rfl) rfl rfl (OneC.c rfl) ?_)
   refine RG.nil (WP.sr (RG.p (PV.loadW rfl Ag35 rfl rfl) (RG.ml rfl (RG.ml rfl ?_))))
   refine RG.ot rfl (OT.bslice (F := intT) (els := [_]) rfl El30 rfl (by decide) rfl (by decide) ⟨rfl, (Cl.c rfl), trivial⟩ fun v58 => ?_)
   refine RG.callF (vs := [_, _, v58, _]) rfl rfl En114 rfl (l21Shapes_s hL.up hlen Rs.o (fun v59 => ?_))
   refine RG.p (PV.asg (v := v59) rfl rfl) (RG.nil (WP.seq (WP.sr (RG.mr rfl (RG.nil (WP.block ?_))))))
   refine WP.bdo v59 fun hbz => ?_
   refine WP.loop1 [14, 15] (fun i => i ≤ (selL (erCls l.cells.xs) (occR (erCls l.cells.xs) cell) [n] false).length ∧ ∀ j, j < i → decide (distR (gd (selL (erCls l.cells.xs) (occR (erCls l.cells.xs) cell) [n] false) j).box (moveR (gd (elems (gd l.cells.xs cell.toNat).insts.xs) n.toNat).place (bndR (erCls l.cells.xs) (gd (elems (gd l.cells.xs cell.toNat).insts.xs) n.toNat).cell)) ≤ 2 * reach) = false) (fun i => [(16, vi i)]) (fun i => osl 155 shapeT v59 (selL (erCls l.cells.xs) (occR (erCls l.cells.xs) cell) [n] false) :: blk b14 91 (rectT.enc (wideR (moveR (gd (elems (gd l.cells.xs cell.toNat).insts.xs) n.toNat).place (bndR (erCls l.cells.xs) (gd (elems (gd l.cells.xs cell.toNat).insts.xs) n.toNat).cell)) (2 * reach))) :: L) (fun i => (selL (erCls l.cells.xs) (occR (erCls l.cells.xs) cell) [n] false).length - i) 0 ⟨by omega, fun j h => by omega⟩ ⟨rfl, trivial⟩ Cv.p ?_
   rintro i τ ⟨hi, hj⟩
   refine WP.seq (WP.sr (RG.ml rfl (RG.p (PV.move (v := v59) rfl rfl) (RG.p (PV.len (v := v59) rfl Tryz.underlying111 rfl SlF.o) (RG.p (PV.lss rfl rfl rfl) (RG.nil ?_))))))
   refine WP.cond rfl (fun h8 => ?_) (fun h8 => ?_)
   ·have h8 := of_decide_eq_true h8
    have hin := validR_in (selL_in ha.hz (ls := [n]) (b := false) (i := i) (by omega))
    have hsb := RIn_big hin
    obtain ⟨y1, y2, y3, y4, y5, y6⟩ := id hin
    have hns := near_span (q := reach) hsb hpb hr.1
    refine WP.skip (WP.seq (WP.block (WP.sr (RG.p (PV.move (v := v59) rfl rfl) (RG.ml rfl (RG.p (PV.idxS (v := v59) rfl Is111 rfl SlF.o rfl rfl (by omega)) (RG.p (PV.field rfl Fo155_1 rfl) (RG.p (PV.loadEP rfl Ag91 rfl rfl (El.o (getG (by omega))) rfl) ?_))))))))
    refine RG.ot rfl (OT.alloc rfl Zr91 fun b17 => ?_)
    refine RG.ot rfl (OT.storeW (vs := [vi _, vi _, vi _, vi _]) rfl Sz91 rfl rfl (Cl.c rfl) rfl rfl (OneC.c rfl) ?_)
    refine RG.nil (WP.sr (RG.p (PV.field rfl Fo91_0 rfl) (RG.p (PV.load1 rfl Sc2 rfl (Rd.blk rfl)) (RG.p (PV.field rfl Fo91_2 rfl) (RG.p (PV.load1 rfl Sc2 rfl (Rd.blk rfl)) (RG.p (PV.field rfl Fo91_0 rfl) (RG.p (PV.load1 rfl Sc2 rfl (Rd.blk rfl)) (RG.p (PV.field rfl Fo91_2 rfl) (RG.p (PV.load1 rfl Sc2 rfl (Rd.blk rfl)) ?_)))))))))
    refine RG.callF (vs := [_, _, _, _]) rfl rfl En115 rfl (span_s (by first | omega | (simp only [wideR]; omega)) (by first | omega | (simp only [wideR]; omega)) (by first | omega | (simp only [wideR]; omega)) (by first | omega | (simp only [wideR]; omega)) ?_)
    refine RG.p (PV.gtr rfl rfl rfl) (RG.bl rfl ?_)
    refine RG.g rfl (fun hp => (PV.field rfl Fo91_1 rfl)) ?_
    refine RG.g rfl (fun hp => (PV.load1 rfl Sc2 (gs_t hp) (Rd.blk rfl))) ?_
    refine RG.g rfl (fun hp => (PV.field rfl Fo91_3 rfl)) ?_
    refine RG.g rfl (fun hp => (PV.load1 rfl Sc2 (gs_t hp) (Rd.blk rfl))) ?_
    refine RG.g rfl (fun hp => (PV.field rfl Fo91_1 rfl)) ?_
    refine RG.g rfl (fun hp => (PV.load1 rfl Sc2 (gs_t hp) (Rd.blk rfl))) ?_
    refine RG.g rfl (fun hp => (PV.field rfl Fo91_3 rfl)) ?_
    refine RG.g rfl (fun hp => (PV.load1 rfl Sc2 (gs_t hp) (Rd.blk rfl))) ?_
    refine RG.gsC rfl rfl rfl rfl En115 (fun hp => ⟨_, (acons (gs_t hp) (acons (gs_t hp) (acons (gs_t hp) (acons (gs_t hp) anil)))), span_s (by first | omega | (simp only [wideR]; omega)) (by first | omega | (simp only [wideR]; omega)) (by first | omega | (simp only [wideR]; omega)) (by first | omega | (simp only [wideR]; omega)) ⟨rfl, rfl, rfl⟩⟩) ?_
    refine RG.g rfl (fun hp => (PV.gtr rfl (gs_t hp) rfl)) ?_
    refine RG.p (PV.pickA rfl rfl (fun hq => gs_t (geqT hq)) rfl) (RG.nil ?_)
    refine WP.cond rfl (fun h9 => ?_) (fun h9 => ?_)
    ·have e : freeB (erCls l.cells.xs) cell n reach = false := by
      rw [hfe, List.any_eq_true.2 ⟨gd (selL (erCls l.cells.xs) (occR (erCls l.cells.xs) cell) [n] false) i, gd_mem (by omega), by rw [hns]; exact h9⟩]; rfl
     rw [e] at k
     refine WP.sr (RG.br rfl (RG.nil ?_))
     exact WP.ret ⟨_, _, ResV.one rfl rfl, Cv.p, k⟩
    ·have hj' : ∀ j, j < i + 1 → decide (distR (gd (selL (erCls l.cells.xs) (occR (erCls l.cells.xs) cell) [n] false) j).box (moveR (gd (elems (gd l.cells.xs cell.toNat).insts.xs) n.toNat).place (bndR (erCls l.cells.xs) (gd (elems (gd l.cells.xs cell.toNat).insts.xs) n.toNat).cell)) ≤ 2 * reach) = false := fun j h => by
      by_cases c : j = i
      ·rw [c, hns]; exact h9
      ·exact hj j (by omega)
     refine WP.skip (WP.region (RG.ml rfl (RG.p (PV.add rfl rfl rfl (by omega)) (RG.mr rfl (RG.nil ?_)))))
     exact ⟨rfl, i + 1, ⟨by omega, hj'⟩, ⟨rfl, trivial⟩, ⟨rfl, rfl, trivial⟩, Cv.p, by omega⟩
   ·have h8 := of_decide_eq_false h8
    have e : freeB (erCls l.cells.xs) cell n reach = true := by
     have : ((selL (erCls l.cells.xs) (occR (erCls l.cells.xs) cell) [n] false).any fun s => decide (distR s.box (moveR (gd (elems (gd l.cells.xs cell.toNat).insts.xs) n.toNat).place (bndR (erCls l.cells.xs) (gd (elems (gd l.cells.xs cell.toNat).insts.xs) n.toNat).cell)) ≤ 2 * reach)) = false := by
      rw [List.any_eq_false]
      intro s hs
      obtain ⟨j, hj2, rfl⟩ := List.getElem_of_mem hs
      have := hj j (by omega)
      rw [gd_eq hj2] at this
      simpa using this
     rw [hfe, this]; rfl
    rw [e] at k
    refine WP.exit ?_
    refine WP.sr (RG.br rfl (RG.nil ?_))
    exact WP.ret ⟨_, _, ResV.one rfl rfl, Cv.p, k⟩
end Go.Proofs.YtgphjofccckloaaGreat
namespace Go.Proofs.YtgphjofccckloaaGreat
open Go
set_option maxRecDepth 20000
set_option maxHeartbeats 1000000
variable {G : Gh} {L : List Ch} {R : Value → Gh → List Ch → Prop}
theorem AtEl.of {xs : List Cell} {cell n : Int} (hz : shE (erCls xs) cell = 0) (h : within n 0 ((elN (erCls xs) cell : Int) - 1) = true) : AtEl xs cell n := by
 simp only [within, Bool.and_eq_true, decide_eq_true_eq] at h
 exact ⟨hz, by omega, by omega⟩
theorem reach_in {n : Int} (h : within n 0 8 = true) : 0 ≤ n ∧ n ≤ 8 := by simpa [within] using h
def cfE (cs : List ECell) (cell reach : Int) : Int := bif decide (shE cs cell = 0) then (bif within reach 0 8 then 0 else 2) else shE cs cell
def cfTo (cs : List ECell) (cell reach : Int) (i : Nat) : List Int := ((List.range i).filter fun n : Nat => freeB cs cell (n : Int) reach).map fun n : Nat => (n : Int)
def cfR (cs : List ECell) (cell reach : Int) : List Int := bif decide (cfE cs cell reach = 0) then cfTo cs cell reach (elN cs cell) else []
theorem cfE_else {cs : List ECell} {cell reach : Int} (h1 : (decide (shE cs cell = 0) && !within reach 0 8) = false) : shE cs cell = cfE cs cell reach := by
 rw [cfE]
 by_cases c : shE cs cell = 0
 ·rw [decide_eq_true c, cond_true, c]
  rw [decide_eq_true c, Bool.true_and, Bool.not_eq_false'] at h1
  rw [h1]; rfl
 ·rw [decide_eq_false c]; rfl
theorem cfTo_step (cs : List ECell) (cell reach : Int) (i : Nat) : cfTo cs cell reach (i + 1) = cfTo cs cell reach i ++ (if freeB cs cell (i : Int) reach = true then [(i : Int)] else []) := by
 rw [cfTo, cfTo, List.range_succ, List.filter_append, List.map_append]
 by_cases h : freeB cs cell (i : Int) reach = true <;> simp [h]
theorem cfTo_len (cs : List ECell) (cell reach : Int) (i : Nat) : (cfTo cs cell reach i).length ≤ i := by
 rw [cfTo, List.length_map]
 exact Nat.le_trans (List.length_filter_le _ _) (by simp)
theorem allFree_i {l : Lib} {cell reach : Int} (hL : RLib G L l.cells.v l.cells.xs) (hlen : lenC (erCls l.cells.xs)) (k : ∀ v', R (.tuple #[v', vi (cfE (erCls l.cells.xs) cell reach)]) G (osl 2 intT v' (cfR (erCls l.cells.xs) cell reach) :: L)) : CallT Tryz.prog 54 #[vT libT l, vi cell, vi reach] G L R := by
 have hE := erCls_len l.cells.xs
 refine CallT.enter (args := _) Tryz.func54 rfl rfl (by kernel_rfl) rfl ?_
 refine WP.sr ?_
 refine RG.ot rfl (OT.box (cs := libT.enc l) rfl rfl rfl fun b3 => ?_)
 refine RG.p (PV.asg rfl rfl) (RG.mr rfl (RG.nil (WP.sr (RG.p (PV.loadW rfl Ag35 rfl rfl) (RG.ml rfl ?_)))))
 refine RG.callF (vs := [_, _]) rfl rfl En62 rfl (rooted_i hL.up hlen (fun w15 => ?_))
 refine RG.p (PV.move (v := .tuple _) rfl rfl) (RG.p (PV.ext (v := w15) rfl rfl rfl) (RG.p (PV.ext rfl rfl rfl) (RG.p (PV.asg (v := w15) rfl rfl) (RG.mr rfl (RG.nil ?_)))))
 refine WP.cut1 [1, 2, 3, 8] (fun (q : Int) => q = cfE (erCls l.cells.xs) cell reach) (fun (q : Int) => [(9, vi q)]) (fun (q : Int) => blk b3 35 (libT.enc l) :: osl 168 rshapeT w15 (rootR (erCls l.cells.xs) cell) :: L) ?_ ?_
 refine WP.sr (RG.ml rfl (RG.p (PV.eql rfl rfl rfl) (RG.bl rfl ?_)))
 refine RG.g rfl (fun hp => (PV.mvI (.inl rfl) rfl)) ?_
 refine RG.gsC rfl rfl rfl rfl En100 (fun hp => ⟨_, (acons (gs_t hp) (acons rfl (acons rfl anil))), within_s ⟨rfl, rfl, rfl⟩⟩) ?_
 refine RG.g rfl (fun hp => (PV.not rfl (gs_t hp))) ?_
 refine RG.p (PV.pickA rfl rfl (fun hq => gs_t (geqT hq)) rfl) (RG.nil ?_)
 refine WP.cond rfl (fun h1 => ?_) (fun h1 => ?_)
 ·have h1 : shE (erCls l.cells.xs) cell = 0 ∧ within reach 0 8 = false := by simpa using h1
  refine WP.region (RG.mr rfl (RG.nil ?_))
  exact ⟨rfl, 2, (by rw [cfE, decide_eq_true h1.1, h1.2]; rfl), ⟨rfl, trivial⟩, ⟨rfl, rfl, rfl, rfl, trivial⟩, Cv.p⟩
 ·refine WP.skip ?_
  exact ⟨rfl, (shE (erCls l.cells.xs) cell), (cfE_else h1), ⟨rfl, trivial⟩, ⟨rfl, rfl, rfl, rfl, trivial⟩, Cv.p⟩
 rintro q τ0 hq
 subst hq
 refine WP.seq (WP.sr (RG.ml rfl (RG.p (PV.neq rfl rfl rfl) (RG.nil ?_))))
 refine WP.cond rfl (fun h2 => ?_) (fun h2 => ?_)
 ·have h2 : cfE (erCls l.cells.xs) cell reach ≠ 0 := by simpa using h2
  have e : cfR (erCls l.cells.xs) cell reach = [] := by rw [cfR, decide_eq_false h2]; rfl
  rw [e] at k
  refine WP.sr (RG.ml rfl (RG.p (PV.asg rfl rfl) (RG.mr rfl (RG.nil ?_))))
  exact WP.ret ⟨_, _, ResV.two rfl rfl rfl, Cv.p.trans Cv.nilS, k (.slice none 0 0)⟩
 ·have h2 : cfE (erCls l.cells.xs) cell reach = 0 := by simpa using h2
  have e : cfR (erCls l.cells.xs) cell reach = cfTo (erCls l.cells.xs) cell reach (elN (erCls l.cells.xs) cell) := by rw [cfR, decide_eq_true h2]; rfl
  obtain ⟨h1, h3⟩ : shE (erCls l.cells.xs) cell = 0 ∧ within reach 0 8 = true := by
   unfold cfE at h2
   by_cases c : shE (erCls l.cells.xs) cell = 0
   ·rw [decide_eq_true c, cond_true] at h2
    cases hw : within reach 0 8 with
    | true => exact ⟨c, rfl⟩
    | false => rw [hw] at h2; cases h2
   ·rw [decide_eq_false c] at h2; exact absurd h2 c
  rw [e, h2] at k
  have hok := shE_lib h1
  have hce := erCl_insts (xs := l.cells.xs) (i := cell.toNat) (by omega)
  have hns : okNs (gd l.cells.xs cell.toNat).insts.xs := by rw [← hce]; exact okLib_ns hok.1 (by omega)
  have hnn := elN_ns (xs := l.cells.xs) (cell := cell) (by omega)
  have hnb : elN (erCls l.cells.xs) cell ≤ 128 := elems_len_bd hok.1 (by omega)
  refine WP.skip (WP.sr ?_)
  refine RG.ot rfl (OT.bslice (F := intT) (els := []) rfl El30 rfl (by decide) rfl (by decide) trivial fun v28 => ?_)
  refine RG.p (PV.asg (v := v28) rfl rfl) (RG.nil (WP.seq (WP.sr (RG.p (PV.field rfl Fo35_0 rfl) (RG.p (PV.load1 rfl Sc33 rfl (Rd.blk rfl)) (RG.ml rfl (RG.p (PV.idxS (j := cell.toNat) rfl Is33 rfl (SlF.r hL.c) rfl (by omega) (by omega)) (RG.p (PV.loadE rfl Ag115 rfl rfl (El.r hL.c (getG (by omega)))) ?_))))))))
  refine RG.callF (vs := [_]) rfl rfl En65 rfl (elems_i (hL.na (by omega)).up hns (fun v34 => ?_))
  refine RG.p (PV.len (v := v34) rfl Tryz.underlying109 rfl SlF.o) (RG.ml rfl (RG.nil (WP.block ?_)))
  refine WP.cv ((Cv.p (C := osl 2 intT v28 [] :: blk b3 35 (libT.enc l) :: osl 168 rshapeT w15 (rootR (erCls l.cells.xs) cell) :: L)).trans (Cv.eqS (ys := cfTo (erCls l.cells.xs) cell reach 0) rfl)) ?_
  refine WP.loop2 [1, 2, 3, 8, 35] (fun (i : Nat) (v : Value) => i ≤ (elems (gd l.cells.xs cell.toNat).insts.xs).length) (fun (i : Nat) (v : Value) => [(36, vi i), (10, v)]) (fun (i : Nat) (v : Value) => osl 2 intT v (cfTo (erCls l.cells.xs) cell reach i) :: blk b3 35 (libT.enc l) :: osl 168 rshapeT w15 (rootR (erCls l.cells.xs) cell) :: L) (fun (i : Nat) (v : Value) => (elems (gd l.cells.xs cell.toNat).insts.xs).length - i) 0 v28 (by omega) ⟨rfl, rfl, trivial⟩ Cv.p ?_
  rintro i v τ hi
  refine WP.sr (RG.p (PV.lss rfl rfl rfl) (RG.nil (WP.seq ?_)))
  have hcl := cfTo_len (erCls l.cells.xs) cell reach i
  refine WP.cond rfl (fun h4 => ?_) (fun h4 => ?_)
  ·have h4 := of_decide_eq_true h4
   have hst := cfTo_step (erCls l.cells.xs) cell reach i
   refine WP.skip (WP.seq (WP.block (WP.sr (RG.ml rfl (RG.mr rfl (RG.nil (WP.sr (RG.p (PV.loadW rfl Ag35 rfl rfl) (RG.ml rfl (RG.ml rfl (RG.ml rfl ?_)))))))))))
   refine RG.p (PV.move (v := w15) rfl rfl) ?_
   refine RG.callF (vs := [_, _, _, _, w15]) rfl rfl En64 rfl (free_i hL.up hlen ⟨h1, by omega, by omega⟩ (reach_in h3) Rs.o ?_)
   refine RG.nil ?_
   refine WP.cond rfl (fun h5 => ?_) (fun h5 => ?_)
   ·rw [if_pos h5] at hst
    refine WP.region (RG.p (PV.move (v := v) rfl rfl) (RG.ml rfl ?_))
    refine RG.ot rfl (OT.bslice (F := intT) (els := [_]) rfl El30 rfl (by decide) rfl (by decide) ⟨rfl, (Cl.c rfl), trivial⟩ fun v47 => ?_)
    refine RG.ot rfl (OT.append (v := v) (u := v47) (F := intT) rfl El30 rfl (by decide) rfl rfl Rs.o (OneL.c (fun _ => rfl)) rfl (by first | omega | (simp <;> omega)) fun v48 => ?_)
    refine RG.p (PV.asg (v := v48) rfl rfl) (RG.nil (WP.region (RG.p (PV.add rfl rfl rfl (by omega)) (RG.ml rfl (RG.nil ?_)))))
    exact ⟨rfl, i + 1, v48, (by omega), ⟨rfl, rfl, trivial⟩, ⟨rfl, rfl, rfl, rfl, rfl, trivial⟩, ((Cv.p (C := osl 2 intT v48 (cfTo (erCls l.cells.xs) cell reach i ++ [(i : Int)]) :: blk b3 35 (libT.enc l) :: osl 168 rshapeT w15 (rootR (erCls l.cells.xs) cell) :: L)).trans (Cv.eqS hst.symm)), by omega⟩
   ·rw [if_neg (by rw [h5]; decide), List.append_nil] at hst
    refine WP.skip (WP.region (RG.p (PV.add rfl rfl rfl (by omega)) (RG.ml rfl (RG.nil ?_))))
    exact ⟨rfl, i + 1, v, (by omega), ⟨rfl, rfl, trivial⟩, ⟨rfl, rfl, rfl, rfl, rfl, trivial⟩, ((Cv.p (C := osl 2 intT v (cfTo (erCls l.cells.xs) cell reach i) :: blk b3 35 (libT.enc l) :: osl 168 rshapeT w15 (rootR (erCls l.cells.xs) cell) :: L)).trans (Cv.eqS hst.symm)), by omega⟩
  ·have h4 := of_decide_eq_false h4
   obtain rfl : i = elN (erCls l.cells.xs) cell := by omega
   refine WP.exit ?_
   refine WP.sr (RG.p (PV.move (v := v) rfl rfl) (RG.p (PV.asg (v := v) rfl rfl) (RG.mr rfl (RG.nil ?_))))
   exact WP.ret ⟨_, _, ResV.two rfl rfl rfl, Cv.p, k v⟩
theorem allFree_s {l : Lib} {cell reach : Int} (hL : RLib G L l.cells.v l.cells.xs) (hlen : lenC (erCls l.cells.xs)) (h1 : shE (erCls l.cells.xs) cell = 0) (hr : 0 ≤ reach ∧ reach ≤ 8) (k : ∀ v', R v' G (osl 2 intT v' (cfTo (erCls l.cells.xs) cell reach (elN (erCls l.cells.xs) cell)) :: L)) : CallT Tryz.prog 99 #[vT libT l, vi cell, vi reach] G L R := by
 have hE := erCls_len l.cells.xs
 have hok := shE_lib h1
 have hnb : elN (erCls l.cells.xs) cell ≤ 128 := elems_len_bd hok.1 (by omega)
 refine CallT.enter (args := _) Tryz.func99 rfl rfl (by kernel_rfl) rfl ?_
 refine WP.sr ?_
 refine RG.ot rfl (OT.box (cs := libT.enc l) rfl rfl rfl fun b3 => ?_)
 refine RG.p (PV.asg rfl rfl) (RG.nil (WP.sr ?_))
 refine RG.ot rfl (OT.bslice (F := intT) (els := []) rfl El30 rfl (by decide) rfl (by decide) trivial fun v9 => ?_)
 refine RG.p (PV.asg (v := v9) rfl rfl) (RG.nil (WP.seq (WP.sr (RG.mr rfl (RG.nil (WP.block ?_))))))
 refine WP.cv (Cv.eqS (ys := cfTo (erCls l.cells.xs) cell reach 0) rfl) ?_
 refine WP.loop2 [1, 2, 3] (fun (i : Nat) (v : Value) => i ≤ elN (erCls l.cells.xs) cell) (fun (i : Nat) (v : Value) => [(8, vi i), (7, v)]) (fun (i : Nat) (v : Value) => osl 2 intT v (cfTo (erCls l.cells.xs) cell reach i) :: blk b3 35 (libT.enc l) :: L) (fun (i : Nat) (v : Value) => elN (erCls l.cells.xs) cell - i) 0 v9 (by omega) ⟨rfl, rfl, trivial⟩ Cv.p ?_
 rintro i v τ hi
 refine WP.seq (WP.sr (RG.ml rfl (RG.p (PV.loadW rfl Ag35 rfl rfl) (RG.ml rfl ?_))))
 refine RG.callF (vs := [_, _]) rfl rfl En109 rfl (l21Elements_s hL.up (shE_lib h1) ?_)
 refine RG.p (PV.lss rfl rfl rfl) (RG.nil ?_)
 have hcl := cfTo_len (erCls l.cells.xs) cell reach i
 refine WP.cond rfl (fun h4 => ?_) (fun h4 => ?_)
 ·have h4 := of_decide_eq_true h4
  have hst := cfTo_step (erCls l.cells.xs) cell reach i
  refine WP.skip (WP.seq (WP.block (WP.sr (RG.p (PV.loadW rfl Ag35 rfl rfl) (RG.ml rfl (RG.ml rfl (RG.ml rfl ?_)))))))
  refine RG.callF (vs := [_, _, _, _]) rfl rfl En59 rfl (free_r hL.up hlen ⟨h1, by omega, by omega⟩ hr ?_)
  refine RG.nil ?_
  refine WP.cond rfl (fun h5 => ?_) (fun h5 => ?_)
  ·rw [if_pos h5] at hst
   refine WP.region (RG.p (PV.move (v := v) rfl rfl) (RG.ml rfl ?_))
   refine RG.ot rfl (OT.bslice (F := intT) (els := [_]) rfl El30 rfl (by decide) rfl (by decide) ⟨rfl, (Cl.c rfl), trivial⟩ fun v24 => ?_)
   refine RG.ot rfl (OT.append (v := v) (u := v24) (F := intT) rfl El30 rfl (by decide) rfl rfl Rs.o (OneL.c (fun _ => rfl)) rfl (by first | omega | (simp <;> omega)) fun v25 => ?_)
   refine RG.p (PV.asg (v := v25) rfl rfl) (RG.nil (WP.region (RG.ml rfl (RG.p (PV.add rfl rfl rfl (by omega)) (RG.mr rfl (RG.nil ?_))))))
   exact ⟨rfl, i + 1, v25, (by omega), ⟨rfl, rfl, trivial⟩, ⟨rfl, rfl, rfl, trivial⟩, ((Cv.p (C := osl 2 intT v25 (cfTo (erCls l.cells.xs) cell reach i ++ [(i : Int)]) :: blk b3 35 (libT.enc l) :: L)).trans (Cv.eqS hst.symm)), by omega⟩
  ·rw [if_neg (by rw [h5]; decide), List.append_nil] at hst
   refine WP.skip (WP.region (RG.ml rfl (RG.p (PV.add rfl rfl rfl (by omega)) (RG.mr rfl (RG.nil ?_)))))
   exact ⟨rfl, i + 1, v, (by omega), ⟨rfl, rfl, trivial⟩, ⟨rfl, rfl, rfl, trivial⟩, ((Cv.p (C := osl 2 intT v (cfTo (erCls l.cells.xs) cell reach i) :: blk b3 35 (libT.enc l) :: L)).trans (Cv.eqS hst.symm)), by omega⟩
 ·have h4 := of_decide_eq_false h4
  obtain rfl : i = elN (erCls l.cells.xs) cell := by omega
  refine WP.exit ?_
  refine WP.sr (RG.p (PV.move (v := v) rfl rfl) (RG.p (PV.asg (v := v) rfl rfl) (RG.nil ?_)))
  exact WP.ret ⟨_, _, ResV.one rfl rfl, Cv.p, k v⟩
end Go.Proofs.YtgphjofccckloaaGreat
namespace Go.Proofs.YtgphjofccckloaaGreat
open Go
set_option maxRecDepth 20000
set_option maxHeartbeats 1000000
variable {G : Gh} {L : List Ch} {R : Value → Gh → List Ch → Prop}
theorem cfR_len (cs : List ECell) (cell reach : Int) : (cfR cs cell reach).length ≤ 128 := by
 rw [cfR]
 by_cases h : cfE cs cell reach = 0
 ·rw [decide_eq_true h, cond_true]
  have h1 : shE cs cell = 0 := by
   unfold cfE at h
   by_cases c : shE cs cell = 0
   ·exact c
   ·rw [decide_eq_false c] at h; exact absurd h c
  have := shE_lib h1
  exact Nat.le_trans (cfTo_len _ _ _ _) (elems_len_bd this.1 (by omega))
 ·rw [decide_eq_false h]; simp
end Go.Proofs.YtgphjofccckloaaGreat
namespace Go.Proofs.YtgphjofccckloaaGreat
open Go
set_option maxRecDepth 20000
set_option maxHeartbeats 1000000
variable {G : Gh} {L : List Ch} {R : Value → Gh → List Ch → Prop}
theorem markCellB_s {v : Value} {xs : List Cell} {k0 : Int} (hf : few (erCls xs)) (hk : 0 ≤ k0 ∧ k0 ≤ 1000) (k : ∀ r : Int, 0 ≤ r ∧ r ≤ 40000000000000 → R (vi r) G L) : CallT Tryz.prog 47 #[v, vi k0] G (osl 115 cellT v (xs) :: bagS 155 shapeT (shs (xs)) :: bagS 191 labelT (lbs (xs)) :: bagS 173 instT (ins (xs)) :: L) R := by
 refine CallT.bd (T := cellT) (v := v) (xs := xs) Rs.o fun hb2 => ?_
 have hb : xs.length ≤ 1048576 := by have := hf.1; rwa [erCls_len] at this
 refine CallT.cv (L' := osl 115 cellT v xs :: bagS 155 shapeT (shs (xs.drop 0)) :: bagS 191 labelT (lbs (xs.drop 0)) :: bagS 173 instT (ins (xs.drop 0)) :: L) (by rw [List.drop_zero]; exact Cv.refl _) ?_
 refine CallT.enter (args := _) Tryz.func47 rfl rfl (by kernel_rfl) rfl ?_
 refine WP.sr (RG.mr rfl (RG.nil (WP.seq (WP.sr (RG.mr rfl (RG.nil (WP.block ?_)))))))
 refine WP.loop3 [0] (fun (i : Nat) (kk : Int) (ys : List Cell) => i ≤ xs.length ∧ (0 ≤ kk ∧ kk ≤ 1000 + 20000000 * i) ∧ ys.length = xs.length ∧ ∀ j, i ≤ j → j < xs.length → gd ys j = gd xs j) (fun (i : Nat) (kk : Int) (ys : List Cell) => [(5, vi i), (1, vi kk)]) (fun (i : Nat) (kk : Int) (ys : List Cell) => osl 115 cellT v ys :: bagS 155 shapeT (shs (xs.drop i)) :: bagS 191 labelT (lbs (xs.drop i)) :: bagS 173 instT (ins (xs.drop i)) :: L) (fun (i : Nat) (kk : Int) (ys : List Cell) => xs.length - i) 0 k0 xs ⟨by omega, by omega, rfl, fun j _ _ => rfl⟩ ⟨rfl, rfl, trivial⟩ Cv.p ?_
 rintro i kk ys τ ⟨hi, hkk, hl, he⟩
 refine WP.seq (WP.sr (RG.ml rfl (RG.p (PV.move (v := v) rfl rfl) (RG.p (PV.len (v := v) rfl Tryz.underlying33 rfl SlF.o) (RG.p (PV.lss rfl rfl rfl) (RG.nil ?_))))))
 refine WP.cond rfl (fun h1 => ?_) (fun h1 => ?_)
 ·have h1 := of_decide_eq_true h1
  have h2 : i < xs.length := by omega
  have h3 : i < ys.length := by omega
  have hg := he i (by omega) h2
  obtain ⟨f1, f2, f3⟩ := few.one hf h2
  have hq := nLb_cost (gd xs i).labels.xs
  have hq1 := nSh_cost (gd xs i).shapes.xs
  have hq3 := nIn_cost (gd xs i).insts.xs
  have hs1 : (gd (ys.set i (Cell.s0 (mText kk) (gd ys i))) i).shapes.v = (gd xs i).shapes.v := by rw [gd_setE' h3]; simp [hg]
  have hs2 : (gd (ys.set i (Cell.s0 (mText kk) (gd ys i))) i).labels.v = (gd xs i).labels.v := by rw [gd_setE' h3]; simp [hg]
  have hs3 : (gd (ys.set i (Cell.s0 (mText kk) (gd ys i))) i).insts.v = (gd xs i).insts.v := by rw [gd_setE' h3]; simp [hg]
  refine WP.cv (Cv.cons (Cv.uncons3 (s1 := (gd xs i).shapes) (y1' := shs (xs.drop (i + 1))) (s2 := (gd xs i).labels) (y2' := lbs (xs.drop (i + 1))) (s3 := (gd xs i).insts) (y3' := ins (xs.drop (i + 1))) (by rw [drop_gd h2]; rfl) (by rw [drop_gd h2]; rfl) (by rw [drop_gd h2]; rfl))) ?_
  refine WP.skip (WP.seq (WP.block (WP.sr (RG.p (PV.move (v := v) rfl rfl) (RG.ml rfl (RG.ml rfl ?_))))))
  refine RG.callF (vs := [_]) rfl rfl En85 rfl (markText_s (by omega) ?_)
  refine RG.p (PV.idxS (v := v) rfl Is33 rfl SlF.o rfl rfl (by omega)) (RG.p (PV.field rfl Fo115_0 rfl) ?_)
  refine RG.ot rfl (OT.storeF (F := cellT) (val := Value.string) (cv := fun u => [.string u]) (st := Cell.s0) rfl Sz9 rfl rfl rfl (Cl.c rfl) rfl (OneC.c rfl) (by exact set_self (by omega)) (by first | omega | (simp; omega)) rfl (fun _ _ => rfl) ?_)
  refine RG.nil (WP.sr (RG.ml rfl (RG.p (PV.add rfl rfl rfl (by first | omega | (simp only [List.length_set]; omega))) (RG.mr rfl (RG.nil (WP.sr (RG.p (PV.move (v := v) rfl rfl) (RG.ml rfl (RG.p (PV.idxS (v := v) rfl Is33 rfl SlF.o rfl rfl (by first | omega | (simp only [List.length_set]; omega))) (RG.p (PV.field rfl Fo115_1 rfl) (RG.p (PV.loadF rfl Sc111 rfl rfl (El.o (getG (by first | omega | (simp only [List.length_set]; omega)))) rfl) ?_)))))))))))
  refine RG.ml rfl ?_
  refine RG.callF (vs := [_, _]) rfl rfl En86 rfl (CallT.eqv hs1 (CallT.exS (gd xs i).shapes.v (markShapeS_s (by omega) (by omega) ?_)))
  refine RG.mr rfl (RG.nil (WP.sr (RG.p (PV.move (v := v) rfl rfl) (RG.ml rfl (RG.p (PV.idxS (v := v) rfl Is33 rfl SlF.o rfl rfl (by first | omega | (simp only [List.length_set]; omega))) (RG.p (PV.field rfl Fo115_2 rfl) (RG.p (PV.loadF rfl Sc112 rfl rfl (El.o (getG (by first | omega | (simp only [List.length_set]; omega)))) rfl) (RG.ml rfl ?_))))))))
  refine RG.callF (vs := [_, _]) rfl rfl En87 rfl (CallT.eqv hs2 (CallT.exS (gd xs i).labels.v (markLabelS_s (by omega) (by omega) ?_)))
  refine RG.mr rfl (RG.nil (WP.region (RG.p (PV.move (v := v) rfl rfl) (RG.ml rfl (RG.p (PV.idxS (v := v) rfl Is33 rfl SlF.o rfl rfl (by first | omega | (simp only [List.length_set]; omega))) (RG.p (PV.field rfl Fo115_3 rfl) (RG.p (PV.loadF rfl Sc113 rfl rfl (El.o (getG (by first | omega | (simp only [List.length_set]; omega)))) rfl) (RG.ml rfl ?_))))))))
  refine RG.callF (vs := [_, _]) rfl rfl En88 rfl (CallT.eqv hs3 (CallT.exS (gd xs i).insts.v (markInstS_s (by omega) (by omega) ?_)))
  refine RG.mr rfl (RG.nil (WP.region (RG.ml rfl (RG.p (PV.add rfl rfl rfl (by first | omega | (simp only [List.length_set]; omega))) (RG.mr rfl (RG.nil ?_))))))
  refine ⟨rfl, i + 1, _, (ys.set i (Cell.s0 (mText kk) (gd ys i))), ⟨by omega, by omega, by simpa using hl, fun j hj hj' => ?_⟩, ⟨rfl, rfl, trivial⟩, ⟨rfl, trivial⟩, Cv.p, by omega⟩
  rw [gd_setN (by omega)]; exact he j (by omega) hj'
 ·have h1 := of_decide_eq_false h1
  refine WP.exit ?_
  refine WP.sr (RG.ml rfl (RG.mr rfl (RG.nil ?_)))
  exact WP.ret ⟨_, _, ResV.one rfl rfl, Cv.p, k _ (by omega)⟩
theorem markLibB_s {l : Lib} {k0 : Int} (hf : few (erCls l.cells.xs)) (hk : 0 ≤ k0 ∧ k0 ≤ 1000) (k : ∀ r : Int, 0 ≤ r ∧ r ≤ 40000000000000 → R (vi r) G L) : CallT Tryz.prog 16 #[vT libT l, vi k0] G (osl 115 cellT l.cells.v (l.cells.xs) :: bagS 155 shapeT (shs (l.cells.xs)) :: bagS 191 labelT (lbs (l.cells.xs)) :: bagS 173 instT (ins (l.cells.xs)) :: L) R := by
 refine CallT.enter (args := _) Tryz.func16 rfl rfl (by kernel_rfl) rfl ?_
 refine WP.sr ?_
 refine RG.ot rfl (OT.box (cs := libT.enc l) rfl rfl rfl fun b2 => ?_)
 refine RG.mr rfl (RG.nil (WP.sr (RG.p (PV.field rfl Fo35_0 rfl) (RG.p (PV.load1 rfl Sc33 rfl (Rd.blk rfl)) (RG.ml rfl ?_)))))
 refine RG.callF (vs := [_, _]) rfl rfl En47 rfl (CallT.cv (Cv.p (C := osl 115 cellT l.cells.v (l.cells.xs) :: bagS 155 shapeT (shs (l.cells.xs)) :: bagS 191 labelT (lbs (l.cells.xs)) :: bagS 173 instT (ins (l.cells.xs)) :: L)) (markCellB_s hf hk (fun r hr => ?_)))
 refine RG.mr rfl (RG.nil (WP.sr (RG.ml rfl (RG.mr rfl (RG.nil ?_)))))
 exact WP.ret ⟨_, _, ResV.one rfl rfl, Cv.p, k _ hr⟩
end Go.Proofs.YtgphjofccckloaaGreat
namespace Go.Proofs.YtgphjofccckloaaGreat
open Go
set_option maxRecDepth 20000
variable {G : Gh} {L : List Ch} {R : Value → Gh → List Ch → Prop}
theorem flat_setEq {α : Type} {F : FT α} {zs : List α} {i : Nat} {p q : α} (h : F.enc p = F.enc q) : F.flat (zs.set i p) = F.flat (zs.set i q) := by
 simp only [FT.flat, List.flatMap_def, List.map_set, h]
theorem Cv.flat {α : Type} {e : TypeId} {F : FT α} {v : Value} {xs ys : List α} {L : List Ch} (h : F.flat xs = F.flat ys) (hl : xs.length = ys.length) : Cv (osl e F v xs :: L) (osl e F v ys :: L) :=
 Cv.imp fun hp hc => by
  rcases hc with ⟨rfl, rfl⟩ | ⟨b, cap, c, h1, h2, h3, h4, h5, h6⟩
  ·exact .inl ⟨rfl, List.eq_nil_of_length_eq_zero (by simpa using hl.symm)⟩
  ·exact .inr ⟨b, cap, c, by rw [← hl]; exact h1, h2, by rw [← hl]; exact h3, h4, h5, by rw [← hl, ← h]; exact h6⟩
theorem CallT.eq2 {P : Program} {f : FuncId} {v v' x : Value} (h : v = v') (k : CallT P f #[v', x] G L R) : CallT P f #[v, x] G L R := by subst h; exact k
end Go.Proofs.YtgphjofccckloaaGreat
namespace Go.Proofs.YtgphjofccckloaaGreat
open Go
set_option maxRecDepth 20000
set_option maxHeartbeats 1000000
variable {G : Gh} {L : List Ch} {R : Value → Gh → List Ch → Prop}
def mvI (t : Trans) (xs : List Rect) : List Rect := bif mvOk t xs then canon (bits (xs.map (moveR t))) else []
end Go.Proofs.YtgphjofccckloaaGreat
namespace Go.Proofs.YtgphjofccckloaaGreat
open Go
set_option maxRecDepth 20000
def mvP (t : Trans) (p : Int × List Rect) : Int × List Rect := (p.1, canon (bits (p.2.map (moveR t))))
end Go.Proofs.YtgphjofccckloaaGreat
namespace Go.Proofs.YtgphjofccckloaaGreat
open Go
set_option maxRecDepth 20000
set_option maxHeartbeats 1000000
variable {G : Gh} {L : List Ch} {R : Value → Gh → List Ch → Prop}
def cntF2 (cs : List ECell) (cell : Int) (q : Rule) : Nat := if 0 ≤ reach q then (cfR cs cell (reach q)).length else 0
theorem reach_le (q : Rule) (h : 0 ≤ reach q) : within (reach q) 0 8 = true := by have := reach_bd h; simp [within, h, this]
theorem l21Count_s {l : Lib} {cell : Int} {q : Rule} (hL : RLib G L l.cells.v l.cells.xs) (hlen : lenC (erCls l.cells.xs)) (h1 : shE (erCls l.cells.xs) cell = 0) (k : R (vi (cntF2 (erCls l.cells.xs) cell q : Int)) G L) : CallT Tryz.prog 51 #[vT libT l, vi cell, vT ruleT q] G L R := by
 refine CallT.enter (args := _) Tryz.func51 rfl rfl (by kernel_rfl) rfl ?_
 refine WP.sr ?_
 refine RG.ot rfl (OT.box (cs := libT.enc l) rfl rfl rfl fun b3 => ?_)
 refine RG.ot rfl (OT.box (cs := ruleT.enc q) rfl rfl rfl fun b5 => ?_)
 refine RG.mr rfl (RG.nil (WP.seq (WP.sr (RG.p (PV.loadW rfl Ag53 rfl rfl) ?_))))
 refine RG.callF (vs := [_]) rfl rfl En58 rfl (reach_s ?_)
 refine RG.p (PV.lss rfl rfl rfl) (RG.nil ?_)
 refine WP.cond rfl (fun h2 => ?_) (fun h2 => ?_)
 ·have h2 := of_decide_eq_true h2
  have e : cntF2 (erCls l.cells.xs) cell q = 0 := by rw [cntF2, if_neg (by omega)]
  rw [e] at k
  refine WP.sr (RG.mr rfl (RG.nil ?_))
  exact WP.ret ⟨_, _, ResV.one rfl rfl, Cv.p, k⟩
 ·have h2 : 0 ≤ reach q := by have := of_decide_eq_false h2; omega
  have hr := reach_bd h2
  have e : cntF2 (erCls l.cells.xs) cell q = (cfTo (erCls l.cells.xs) cell (reach q) (elN (erCls l.cells.xs) cell)).length := by
   rw [cntF2, if_pos h2, cfR, cfE, decide_eq_true h1, reach_le q h2]; rfl
  rw [e] at k
  refine WP.skip (WP.seq ?_)
  refine WP.regionH0 (.q 0 (.q 1 (.q 2 (.l 3 (.l 4 (.l 5 (.q 6 Sch.nil))))))) (by kernel_rfl) (by kernel_rfl) (by kernel_rfl) rfl ?_
  refine RH.w rfl rfl (PV.loadW rfl Ag35 rfl rfl) (RH.w rfl rfl (PV.mvI (.inl rfl) rfl) (RH.w rfl rfl (PV.loadW rfl Ag53 rfl rfl) ?_))
  refine RH.ot rfl rfl (OT.callF (vs := [_]) rfl En58 rfl (reach_s ⟨Gh.le_refl _, PickC.pick, ?_⟩))
  refine RH.ot rfl rfl (OT.callF (vs := [_, _, _]) rfl En99 rfl (allFree_s hL.up hlen h1 ⟨h2, hr⟩ (fun v14 => ⟨Gh.le_refl _, PickC.pick, ?_⟩)))
  refine RH.ot rfl rfl (OT.pv (PV.len (v := v14) rfl Tryz.underlying30 rfl SlF.o) ⟨Gh.le_refl _, PickC.pick, ?_⟩)
  refine RH.w rfl rfl (PV.mvI (.inr rfl) rfl) ?_
  refine RH.nil ?_
  exact WP.ret ⟨_, _, ResV.one rfl rfl, Cv.p, k⟩
end Go.Proofs.YtgphjofccckloaaGreat
namespace Go.Proofs.YtgphjofccckloaaGreat
open Go
theorem WP.loop5 {P : Program} {n : Nat} {Q : Post} {σ : Nat → Value} {G : Gh} {L : List Ch} {c : Code} (keep : List Nat) {A B D E F : Type} (J : A → B → D → E → F → Prop) (S : A → B → D → E → F → List (Nat × Value)) (C : A → B → D → E → F → List Ch) (μ : A → B → D → E → F → Nat) (a0 : A) (b0 : B) (d0 : D) (e0 : E) (f0 : F) (j0 : J a0 b0 d0 e0 f0) (h0 : HasV σ (S a0 b0 d0 e0 f0)) (p0 : Cv L (C a0 b0 d0 e0 f0))
  (round : ∀ a b d e f τ, J a b d e f → WP P n c (thenP (fun σ' G' L' => G' = G ∧ ∃ a' b' d' e' f', J a' b' d' e' f' ∧ HasV σ' (S a' b' d' e' f') ∧ Keeps σ' σ keep ∧ Cv L' (C a' b' d' e' f') ∧ μ a' b' d' e' f' < μ a b d e f) Q) (upds (updk τ σ keep) (S a b d e f)) G (C a b d e f)) : WP P n (.loop c) Q σ G L :=
 WP.loop0 keep (A := A × B × D × E × F) (fun x => J x.1 x.2.1 x.2.2.1 x.2.2.2.1 x.2.2.2.2) (fun x => S x.1 x.2.1 x.2.2.1 x.2.2.2.1 x.2.2.2.2) (fun x => C x.1 x.2.1 x.2.2.1 x.2.2.2.1 x.2.2.2.2) (fun x => μ x.1 x.2.1 x.2.2.1 x.2.2.2.1 x.2.2.2.2) (a0, b0, d0, e0, f0) j0 h0 p0 fun x τ j =>
  WP.mono (round x.1 x.2.1 x.2.2.1 x.2.2.2.1 x.2.2.2.2 τ j) fun e σ G L hq => by
   cases e with
   | normal => obtain ⟨e, a', b', d', e', f', h⟩ := hq; exact ⟨e, (a', b', d', e', f'), h⟩
   | _ => exact hq
end Go.Proofs.YtgphjofccckloaaGreat
namespace Go.Proofs.YtgphjofccckloaaGreat
open Go
set_option maxRecDepth 20000
set_option maxHeartbeats 2000000
variable {G : Gh} {L : List Ch} {R : Value → Gh → List Ch → Prop}
theorem hasI_at {S : List Bool} {q : Int × Int} {dx dy : Int} : hasI S (q.1 - 40 + dx) (q.2 - 40 + dy) = (decide (0 ≤ q.1 + dx) && decide (q.1 + dx < 80) && (decide (0 ≤ q.2 + dy) && decide (q.2 + dy < 80)) && gd S ((q.2 + dy) * 80 + (q.1 + dx)).toNat) := by
 rw [hasI, within, within, show (q.2 - 40 + dy + 40) * 80 + (q.1 - 40 + dx) + 40 = (q.2 + dy) * 80 + (q.1 + dx) by omega]
 congr 1
 rw [Bool.eq_iff_iff]; simp; omega
theorem flood7_s {v : Value} {S : List Bool} {x y : Int} (h1 : Rs G L boolT v S) (hS : S.length = 6400) (hx : 0 ≤ x ∧ x < 80) (hy : 0 ≤ y ∧ y < 80) (hon : gb S y.toNat x.toNat = true)
  (k : ∀ v', R v' G (osl 4 boolT v' (compB S (y.toNat, x.toNat)) :: L)) : CallT Tryz.prog 217 #[v, vi (x - 40), vi (y - 40), .bool false] G L R := by
 have hst := FI.start (S := S) hx hy
 have hseed : On S (y.toNat, x.toNat) := ⟨by simp only; omega, by simp only; omega, hon⟩
 have hrl : (List.replicate S.length false).length = 6400 := by simp [hS]
 refine CallT.enter (args := _) Tryz.func217 rfl rfl (by kernel_rfl) rfl ?_
 refine WP.sr (RG.p (PV.asg rfl rfl) (RG.nil (WP.sr (RG.p (PV.move (v := v) rfl rfl) (RG.p (PV.len (v := v) rfl Tryz.underlying162 rfl (SlF.r h1)) ?_)))))
 refine RG.ot rfl (OT.make (F := boolT) (a0 := false) rfl El162 rfl (by decide) rfl rfl (by omega) (by omega) fun v17 => ?_)
 refine RG.p (PV.asg (v := v17) rfl rfl) (RG.nil (WP.sr (RG.ml rfl (RG.ml rfl (RG.p (PV.build (vs := [(0, [vi _]), (1, [vi _])]) (out := [_, _]) rfl Zr189 Pl189 ⟨rfl, (Cl.c rfl), ⟨rfl, (Cl.c rfl), trivial⟩⟩ rfl) ?_)))))
 refine RG.ot rfl (OT.bslice (F := ptT) (els := [⟨_, _⟩]) rfl El262 rfl (by decide) rfl (by decide) ⟨rfl, (Cl.c rfl), trivial⟩ fun v21 => ?_)
 refine RG.p (PV.asg (v := v21) rfl rfl) (RG.nil (WP.sr (RG.p (PV.move (v := v17) rfl rfl) (RG.ml rfl (RG.ml rfl ?_)))))
 refine RG.callF (vs := [_, _]) rfl rfl En201 rfl (l03At_s (by first | omega | (simp [within, hasI] at hp; omega)) ?_)
 refine RG.p (PV.idxS (j := y.toNat * 80 + x.toNat) (v := v17) rfl Is162 rfl SlF.o rfl (by omega) (by omega)) ?_
 refine RG.ot rfl (OT.storeE (F := boolT) rfl Sz4 rfl rfl rfl (Cl.c rfl) (OneC.c rfl) (by omega) ?_)
 refine RG.nil (WP.seq (WP.sr (RG.mr rfl (RG.nil (WP.block ?_)))))
 refine WP.cv ((Cv.p (C := osl 4 boolT v17 ((List.replicate S.length false).set (y.toNat * 80 + x.toNat) true) :: osl 189 ptT v21 [⟨x - 40, y - 40⟩] :: L)).trans (Cv.cast (L' := osl 4 boolT v17 ((List.replicate 6400 false).set (y.toNat * 80 + x.toNat) true) :: osl 189 ptT v21 ([(x, y)].map ptOf) :: L) (by rw [hS]; rfl))) ?_
 refine WP.loop4 [0, 3, 9] (fun (i : Nat) (Q : List (Int × Int)) (O : List Bool) (qv : Value) => i ≤ Q.length ∧ FI S (y.toNat, x.toNat) O Q ∧ Done S O Q i ∧ On O (y.toNat, x.toNat)) (fun (i : Nat) (Q : List (Int × Int)) (O : List Bool) (qv : Value) => [(11, vi i), (10, qv)]) (fun (i : Nat) (Q : List (Int × Int)) (O : List Bool) (qv : Value) => osl 4 boolT v17 O :: osl 189 ptT qv (Q.map ptOf) :: L) (fun (i : Nat) (Q : List (Int × Int)) (O : List Bool) (qv : Value) => 6401 - i) 0 [(x, y)] ((List.replicate 6400 false).set (y.toNat * 80 + x.toNat) true) v21 ⟨by simp, hst, fun m hm => by omega, by have := hst.on 0 (by simp); simpa [gd, qc] using this⟩ ⟨rfl, rfl, trivial⟩ Cv.p ?_
 rintro i Q O qv τ ⟨hi, hF, hD, h0⟩
 refine WP.seq (WP.sr (RG.ml rfl (RG.p (PV.move (v := qv) rfl rfl) (RG.p (PV.len (v := qv) rfl Tryz.underlying262 rfl SlF.o) (RG.p (PV.lss rfl rfl rfl) (RG.nil ?_))))))
 have hml : (Q.map ptOf).length = Q.length := by simp
 refine WP.cond rfl (fun h2 => ?_) (fun h2 => ?_)
 ·have h2 := of_decide_eq_true h2
  have hQ := hF.len_le
  have hb := hF.bd i (by omega)
  refine WP.skip (WP.seq (WP.block (WP.sr (RG.mr rfl (RG.nil (WP.block ?_))))))
  refine WP.loop4 [0, 3, 9, 11] (fun (dy : Int) (Q1 : List (Int × Int)) (O1 : List Bool) (qv1 : Value) => (-1 ≤ dy ∧ dy ≤ 2) ∧ FI S (y.toNat, x.toNat) O1 Q1 ∧ Done S O1 Q1 i ∧ On O1 (y.toNat, x.toNat) ∧ i < Q1.length ∧ gd Q1 i = gd Q i ∧ Near S O1 (qc (gd Q i)) dy (-1)) (fun (dy : Int) (Q1 : List (Int × Int)) (O1 : List Bool) (qv1 : Value) => [(12, vi dy), (10, qv1)]) (fun (dy : Int) (Q1 : List (Int × Int)) (O1 : List Bool) (qv1 : Value) => osl 4 boolT v17 O1 :: osl 189 ptT qv1 (Q1.map ptOf) :: L) (fun (dy : Int) (Q1 : List (Int × Int)) (O1 : List Bool) (qv1 : Value) => (2 - dy).toNat) (-1) Q O qv ⟨by omega, hF, hD, h0, by omega, rfl, Near.zero _ _ _⟩ ⟨rfl, rfl, trivial⟩ Cv.p ?_
  rintro dy Q1 O1 qv1 τ1 ⟨⟨hy1, hy2⟩, hF1, hD1, h01, hi1, hq1, hN1⟩
  refine WP.seq (WP.sr (RG.ml rfl (RG.p (PV.leq rfl rfl rfl) (RG.nil ?_))))
  refine WP.cond rfl (fun h3 => ?_) (fun h3 => ?_)
  ·have h3 := of_decide_eq_true h3
   refine WP.skip (WP.seq (WP.block (WP.sr (RG.mr rfl (RG.nil (WP.block ?_))))))
   refine WP.loop4 [0, 3, 9, 11, 12] (fun (dx : Int) (Q2 : List (Int × Int)) (O2 : List Bool) (qv2 : Value) => (-1 ≤ dx ∧ dx ≤ 2) ∧ FI S (y.toNat, x.toNat) O2 Q2 ∧ Done S O2 Q2 i ∧ On O2 (y.toNat, x.toNat) ∧ i < Q2.length ∧ gd Q2 i = gd Q i ∧ Near S O2 (qc (gd Q i)) dy dx) (fun (dx : Int) (Q2 : List (Int × Int)) (O2 : List Bool) (qv2 : Value) => [(13, vi dx), (10, qv2)]) (fun (dx : Int) (Q2 : List (Int × Int)) (O2 : List Bool) (qv2 : Value) => osl 4 boolT v17 O2 :: osl 189 ptT qv2 (Q2.map ptOf) :: L) (fun (dx : Int) (Q2 : List (Int × Int)) (O2 : List Bool) (qv2 : Value) => (2 - dx).toNat) (-1) Q1 O1 qv1 ⟨by omega, hF1, hD1, h01, hi1, hq1, hN1⟩ ⟨rfl, rfl, trivial⟩ Cv.p ?_
   rintro dx Q2 O2 qv2 τ2 ⟨⟨hx1, hx2⟩, hF2, hD2, h02, hi2, hq2, hN2⟩
   refine WP.seq (WP.sr (RG.ml rfl (RG.p (PV.leq rfl rfl rfl) (RG.nil ?_))))
   have hml2 : (Q2.map ptOf).length = Q2.length := by simp
   refine WP.cond rfl (fun h4 => ?_) (fun h4 => ?_)
   ·have h4 := of_decide_eq_true h4
    have hl2 := hF2.len
    have hQ2 := hF2.len_le
    have hb2 : 0 ≤ (gd Q2 i).1 ∧ (gd Q2 i).1 < 80 ∧ 0 ≤ (gd Q2 i).2 ∧ (gd Q2 i).2 < 80 := by rw [hq2]; exact hb
    have e1 : gd (Q2.map ptOf) i = ⟨(gd Q2 i).1 - 40, (gd Q2 i).2 - 40⟩ := gd_pt hi2
    have ex : (gd (Q2.map ptOf) i).x = (gd Q2 i).1 - 40 := by rw [e1]
    have ey : (gd (Q2.map ptOf) i).y = (gd Q2 i).2 - 40 := by rw [e1]
    refine WP.skip (WP.seq (WP.block ?_))
    refine WP.cut1 [0, 3, 9, 10, 11, 12, 13] (fun (b14 : Nat) => True) (fun (b14 : Nat) => [(14, .pointer (some ⟨b14, 0, none⟩))]) (fun (b14 : Nat) => blk b14 189 [vi ((gd Q2 i).1 - 40 + dx), vi ((gd Q2 i).2 - 40 + dy)] :: osl 4 boolT v17 O2 :: osl 189 ptT qv2 (Q2.map ptOf) :: L) ?_ ?_
    refine WP.regionH0 (.q 0 (.q 1 (.q 2 (.q 3 (.q 4 (.q 5 (.q 6 (.q 7 (.q 8 (.q 9 (.q 10 (.q 11 (.q 12 (.q 13 (.q 14 (.l 15 (.l 16 Sch.nil))))))))))))))))) (by kernel_rfl) (by kernel_rfl) (by kernel_rfl) rfl ?_
    refine RH.w rfl rfl (PV.move (v := qv2) rfl rfl) (RH.w rfl rfl (PV.mvI (.inl rfl) rfl) (RH.w rfl rfl (PV.idxS (v := qv2) rfl Is262 rfl SlF.o rfl rfl (by omega)) (RH.w rfl rfl (PV.field rfl Fo189_0 rfl) (RH.w rfl rfl (PV.loadF (v := qv2) (j := 0) rfl Sc2 rfl rfl (El.o (getG (by omega))) rfl) (RH.w rfl rfl (PV.mvI (.inl rfl) rfl) (RH.w rfl rfl (PV.add rfl rfl rfl (by omega)) (RH.w rfl rfl (PV.move (v := qv2) rfl rfl) (RH.w rfl rfl (PV.mvI (.inl rfl) rfl) (RH.w rfl rfl (PV.idxS (v := qv2) rfl Is262 rfl SlF.o rfl rfl (by omega)) (RH.w rfl rfl (PV.field rfl Fo189_1 rfl) (RH.w rfl rfl (PV.loadF rfl Sc2 rfl rfl (El.o (getG (by omega))) rfl) (RH.w rfl rfl (PV.mvI (.inl rfl) rfl) (RH.w rfl rfl (PV.add rfl rfl rfl (by omega)) ?_)))))))))))))
    refine RH.w rfl rfl (PV.build (vs := [(0, [vi _]), (1, [vi _])]) (out := [_, _]) rfl Zr189 Pl189 ⟨rfl, (Cl.c rfl), ⟨rfl, (Cl.c rfl), trivial⟩⟩ rfl) ?_
    refine RH.ot rfl rfl (OT.alloc rfl Zr189 fun b14 => ⟨Gh.le_refl _, PickC.pick, ?_⟩)
    refine RH.ot rfl rfl (OT.storeW (vs := [vi _, vi _]) rfl Sz189 rfl rfl (Cl.c rfl) rfl rfl (OneC.c rfl) ⟨Gh.le_refl _, PickC.pick, ?_⟩)
    refine RH.nil ?_
    ·exact ⟨rfl, b14, trivial, ⟨rfl, trivial⟩, ⟨rfl, rfl, rfl, rfl, rfl, rfl, rfl, trivial⟩, (Cv.p (C := blk b14 189 [vi ((gd (Q2.map ptOf) i).x + dx), vi ((gd (Q2.map ptOf) i).y + dy)] :: osl 4 boolT v17 O2 :: osl 189 ptT qv2 (Q2.map ptOf) :: L)).trans (Cv.cast (by rw [ex, ey]))⟩
    ·have ej : ((gd Q2 i).2 - 40 + dy + 40) * 80 + ((gd Q2 i).1 - 40 + dx) + 40 = ((gd Q2 i).2 + dy) * 80 + ((gd Q2 i).1 + dx) := by omega
     rintro b14 τ3 _
     refine WP.sr (RG.bl rfl (RG.bl rfl ?_))
     refine RG.g rfl (fun hp => (PV.mvI (.inl rfl) rfl)) ?_
     refine RG.g rfl (fun hp => (PV.eql rfl (gs_t hp) rfl)) ?_
     refine RG.p (PV.pickO rfl rfl rfl (fun hq => gs_t (geqF hq))) (RG.bl rfl ?_)
     refine RG.g rfl (fun hp => (PV.mvI (.inl rfl) rfl)) ?_
     refine RG.g rfl (fun hp => (PV.eql rfl (gs_t hp) rfl)) ?_
     refine RG.p (PV.pickO rfl rfl rfl (fun hq => gs_t (geqF hq))) (RG.bl rfl ?_)
     refine RG.g rfl (fun hp => (PV.move (v := v) rfl rfl)) ?_
     refine RG.g rfl (fun hp => (PV.field rfl Fo189_0 rfl)) ?_
     refine RG.g rfl (fun hp => (PV.load1 rfl Sc2 (gs_t hp) (Rd.blk rfl))) ?_
     refine RG.g rfl (fun hp => (PV.field rfl Fo189_1 rfl)) ?_
     refine RG.g rfl (fun hp => (PV.load1 rfl Sc2 (gs_t hp) (Rd.blk rfl))) ?_
     refine RG.gsC rfl rfl rfl rfl En252 (fun hp => ⟨_, (acons (gs_t hp) (acons (gs_t hp) (acons (gs_t hp) anil))), l03Has_s (Rs.up h1) hS ⟨rfl, rfl, rfl⟩⟩) ?_
     refine RG.p (PV.pickA rfl rfl (fun hq => gs_t (geqT hq)) rfl) (RG.bl rfl ?_)
     refine RG.g rfl (fun hp => (PV.move (v := v17) rfl rfl)) ?_
     refine RG.g rfl (fun hp => (PV.field rfl Fo189_0 rfl)) ?_
     refine RG.g rfl (fun hp => (PV.load1 rfl Sc2 (gs_t hp) (Rd.blk rfl))) ?_
     refine RG.g rfl (fun hp => (PV.field rfl Fo189_1 rfl)) ?_
     refine RG.g rfl (fun hp => (PV.load1 rfl Sc2 (gs_t hp) (Rd.blk rfl))) ?_
     refine RG.gsC rfl rfl rfl rfl En201 (fun hp => ⟨_, (acons (gs_t hp) (acons (gs_t hp) anil)), l03At_s (by first | omega | (simp [within, hasI] at hp; omega)) ⟨rfl, rfl, rfl⟩⟩) ?_
     refine RG.g rfl (fun hp => (PV.idxS (j := ((gd Q2 i).2 + dy).toNat * 80 + ((gd Q2 i).1 + dx).toNat) (v := v17) rfl Is162 (gs_t hp) SlF.o (gs_t hp) (by first | omega | (simp [within, hasI] at hp; omega)) (by first | omega | (simp [within, hasI] at hp; omega)))) ?_
     refine RG.g rfl (fun hp => (PV.loadE1 rfl Sc4 (gs_t hp) rfl (El.o (getG (by first | omega | (simp [within, hasI] at hp; omega)))) rfl)) ?_
     refine RG.g rfl (fun hp => (PV.not rfl (gs_t hp))) ?_
     refine RG.p (PV.pickA rfl rfl (fun hq => gs_t (geqT hq)) rfl) (RG.nil ?_)
     have hcon : ((((false || decide (dx = 0)) || decide (dy = 0)) && hasI S ((gd Q2 i).1 - 40 + dx) ((gd Q2 i).2 - 40 + dy)) && !gd O2 (((gd Q2 i).2 + dy).toNat * 80 + ((gd Q2 i).1 + dx).toNat)) = true ↔ (dx = 0 ∨ dy = 0) ∧ (0 ≤ (gd Q2 i).1 + dx ∧ 0 ≤ (gd Q2 i).2 + dy ∧ (gd Q2 i).1 + dx < 80 ∧ (gd Q2 i).2 + dy < 80) ∧ gb S ((gd Q2 i).2 + dy).toNat ((gd Q2 i).1 + dx).toNat = true ∧ gb O2 ((gd Q2 i).2 + dy).toNat ((gd Q2 i).1 + dx).toNat = false := by
      rw [hasI_at]
      simp only [Bool.and_eq_true, Bool.or_eq_true, decide_eq_true_eq, Bool.not_eq_true', Bool.false_or, gb]
      constructor
      ·rintro ⟨⟨a1, ⟨⟨a2, a3⟩, a4, a5⟩, a6⟩, a7⟩
       rw [show (((gd Q2 i).2 + dy) * 80 + ((gd Q2 i).1 + dx)).toNat = ((gd Q2 i).2 + dy).toNat * 80 + ((gd Q2 i).1 + dx).toNat by omega] at a6
       exact ⟨a1, ⟨a2, a4, a3, a5⟩, a6, a7⟩
      ·rintro ⟨a1, ⟨a2, a4, a3, a5⟩, a6, a7⟩
       rw [show (((gd Q2 i).2 + dy) * 80 + ((gd Q2 i).1 + dx)).toNat = ((gd Q2 i).2 + dy).toNat * 80 + ((gd Q2 i).1 + dx).toNat by omega]
       exact ⟨⟨a1, ⟨⟨a2, a3⟩, a4, a5⟩, a6⟩, a7⟩
     refine WP.cond rfl (fun h5 => ?_) (fun h5 => ?_)
     ·obtain ⟨a1, ⟨a2, a3, a4, a5⟩, a6, a7⟩ := hcon.1 h5
      refine WP.sr (RG.p (PV.move (v := v17) rfl rfl) (RG.p (PV.field rfl Fo189_0 rfl) (RG.p (PV.load1 rfl Sc2 rfl (Rd.blk rfl)) (RG.p (PV.field rfl Fo189_1 rfl) (RG.p (PV.load1 rfl Sc2 rfl (Rd.blk rfl)) ?_)))))
      refine RG.callF (vs := [_, _]) rfl rfl En201 rfl (l03At_s (by first | omega | (simp [within, hasI] at hp; omega)) ?_)
      refine RG.p (PV.idxS (j := ((gd Q2 i).2 + dy).toNat * 80 + ((gd Q2 i).1 + dx).toNat) (v := v17) rfl Is162 rfl SlF.o rfl (by omega) (by omega)) ?_
      refine RG.ot rfl (OT.storeE (F := boolT) rfl Sz4 rfl rfl rfl (Cl.c rfl) (OneC.c rfl) (by omega) ?_)
      refine RG.nil (WP.region (RG.p (PV.move (v := qv2) rfl rfl) (RG.p (PV.loadW rfl Ag189 rfl rfl) ?_)))
      refine RG.ot rfl (OT.bslice (F := ptT) (els := [⟨_, _⟩]) rfl El262 rfl (by decide) rfl (by decide) ⟨rfl, (Cl.c rfl), trivial⟩ fun v93 => ?_)
      refine RG.ot rfl (OT.append (v := qv2) (u := v93) (F := ptT) rfl El262 rfl (by decide) rfl rfl Rs.o (OneL.c (fun _ => rfl)) rfl (by first | omega | (simp <;> omega)) fun v94 => ?_)
      refine RG.p (PV.asg (v := v94) rfl rfl) (RG.nil (WP.region (RG.ml rfl (RG.p (PV.add rfl rfl rfl (by omega)) (RG.mr rfl (RG.nil ?_))))))
      have ep : ptOf ((gd Q2 i).1 + dx, (gd Q2 i).2 + dy) = ⟨(gd Q2 i).1 - 40 + dx, (gd Q2 i).2 - 40 + dy⟩ := by simp only [ptOf, Pt.mk.injEq]; omega
      exact ⟨rfl, dx + 1, (Q2 ++ [((gd Q2 i).1 + dx, (gd Q2 i).2 + dy)]), (O2.set (((gd Q2 i).2 + dy).toNat * 80 + ((gd Q2 i).1 + dx).toNat) true), v94, ⟨by omega, hF2.add ⟨by omega, by omega⟩ ⟨by omega, by omega⟩ a7 a6 hi2 (adj_near hb2 (by omega) a1 (fun e => by have := (hF2.on i hi2).2.2; simp only [qc] at this; rw [e.1, e.2, Int.add_zero, Int.add_zero, this] at a7; cases a7) a2 a3), hD2.add hi2 (fun c hc => on_set hl2 ⟨by omega, by omega⟩ ⟨by omega, by omega⟩ hc), on_set hl2 ⟨by omega, by omega⟩ ⟨by omega, by omega⟩ h02, by simp; omega, by rw [gd_app_l hi2]; exact hq2, by rw [← hq2] at hN2 ⊢; exact hN2.take hl2 hb2 (by omega) (by omega)⟩, ⟨rfl, rfl, trivial⟩, ⟨rfl, rfl, rfl, rfl, rfl, trivial⟩, (Cv.p (C := osl 4 boolT v17 (O2.set (((gd Q2 i).2 + dy).toNat * 80 + ((gd Q2 i).1 + dx).toNat) true) :: osl 189 ptT v94 (Q2.map ptOf ++ [⟨(gd Q2 i).1 - 40 + dx, (gd Q2 i).2 - 40 + dy⟩]) :: L)).trans (Cv.cast (by rw [List.map_append, ← ep]; rfl)), by omega⟩
     ·have h6 : (dx ≠ 0 ∧ dy ≠ 0) ∨ (gd Q2 i).1 + dx < 0 ∨ (gd Q2 i).2 + dy < 0 ∨ (gd Q2 i).1 + dx ≥ 80 ∨ (gd Q2 i).2 + dy ≥ 80 ∨ gb S ((gd Q2 i).2 + dy).toNat ((gd Q2 i).1 + dx).toNat = false ∨ gb O2 ((gd Q2 i).2 + dy).toNat ((gd Q2 i).1 + dx).toNat = true := by
       have hn : ¬ _ := fun hh => by rw [hcon.2 hh] at h5; cases h5
       by_cases c1 : dx = 0 ∨ dy = 0
       ·by_cases c2 : 0 ≤ (gd Q2 i).1 + dx ∧ 0 ≤ (gd Q2 i).2 + dy ∧ (gd Q2 i).1 + dx < 80 ∧ (gd Q2 i).2 + dy < 80
        ·cases c3 : gb S ((gd Q2 i).2 + dy).toNat ((gd Q2 i).1 + dx).toNat
         ·simp
         ·cases c4 : gb O2 ((gd Q2 i).2 + dy).toNat ((gd Q2 i).1 + dx).toNat
          ·exact absurd ⟨c1, c2, c3, c4⟩ hn
          ·simp
        ·omega
       ·omega
      refine WP.skip (WP.region (RG.ml rfl (RG.p (PV.add rfl rfl rfl (by omega)) (RG.mr rfl (RG.nil ?_)))))
      exact ⟨rfl, dx + 1, Q2, O2, qv2, ⟨by omega, hF2, hD2, h02, hi2, hq2, by rw [← hq2] at hN2 ⊢; exact hN2.skip hb2 h6⟩, ⟨rfl, rfl, trivial⟩, ⟨rfl, rfl, rfl, rfl, rfl, trivial⟩, Cv.p, by omega⟩
   ·have h4 := of_decide_eq_false h4
    refine WP.exit ?_
    refine WP.region (RG.ml rfl (RG.p (PV.add rfl rfl rfl (by omega)) (RG.mr rfl (RG.nil ?_))))
    exact ⟨rfl, dy + 1, Q2, O2, qv2, ⟨by omega, hF2, hD2, h02, hi2, hq2, by obtain rfl : dx = 2 := (by omega); exact hN2.next⟩, ⟨rfl, rfl, trivial⟩, ⟨rfl, rfl, rfl, rfl, trivial⟩, Cv.p, by omega⟩
  ·have h3 := of_decide_eq_false h3
   refine WP.exit ?_
   refine WP.region (RG.ml rfl (RG.p (PV.add rfl rfl rfl (by omega)) (RG.mr rfl (RG.nil ?_))))
   exact ⟨rfl, i + 1, Q1, O1, qv1, ⟨by omega, hF1, hD1.next (by rw [hq1]) (by obtain rfl : dy = 2 := (by omega); exact hN1), h01⟩, ⟨rfl, rfl, trivial⟩, ⟨rfl, rfl, rfl, trivial⟩, Cv.p, by omega⟩
 ·have h2 := of_decide_eq_false h2
  obtain rfl : i = Q.length := by omega
  rw [← hF.final hseed h0 hD] at k
  refine WP.exit ?_
  refine WP.sr (RG.p (PV.move (v := v17) rfl rfl) (RG.p (PV.asg (v := v17) rfl rfl) (RG.nil ?_)))
  exact WP.ret ⟨_, _, ResV.one rfl rfl, Cv.p, k v17⟩
def leftB (S D : List Bool) : List Bool := zipB (fun p q => p && !q) S D
theorem gb_left {S D : List Bool} (hS : S.length = 6400) (hD : D.length = 6400) {y x : Nat} (hy : y < 80) (hx : x < 80) : gb (leftB S D) y x = (gb S y x && !gb D y x) := gb_zip hS hD hy hx
theorem leftB_len {S D : List Bool} (hS : S.length = 6400) (hD : D.length = 6400) : (leftB S D).length = 6400 := zipB_len hS hD
theorem flood7n_s {v : Value} {S : List Bool} {x y : Nat} (h1 : Rs G L boolT v S) (hS : S.length = 6400) (hx : x < 80) (hy : y < 80) (hon : gb S y x = true)
  (k : ∀ v', R v' G (osl 4 boolT v' (compB S (y, x)) :: L)) : CallT Tryz.prog 217 #[v, vi ((x : Int) - 40), vi ((y : Int) - 40), .bool false] G L R :=
 flood7_s (x := (x : Int)) (y := (y : Int)) h1 hS (by omega) (by omega) (by rw [Int.toNat_natCast, Int.toNat_natCast]; exact hon) (by rw [Int.toNat_natCast, Int.toNat_natCast]; exact k)
theorem parts7_s {v : Value} {S : List Bool} (h1 : Rs G L boolT v S) (hS : S.length = 6400) (k : ∀ v' zs, er zs = comps S → R v' G (osl 162 slT v' zs :: bagS 4 boolT zs :: L)) : CallT Tryz.prog 144 #[v, .bool false] G L R := by
 have hrl : (List.replicate S.length false).length = 6400 := by simp [hS]
 have hl0 : leftB S (List.replicate 6400 false) = S := gb_ext (leftB_len hS List.length_replicate) hS fun y x hy hx => by
  rw [gb_left hS List.length_replicate hy hx, gb_rep']; simp
 refine CallT.enter (args := _) Tryz.func144 rfl rfl (by kernel_rfl) rfl ?_
 refine WP.sr (RG.p (PV.asg rfl rfl) (RG.nil (WP.sr ?_)))
 refine RG.ot rfl (OT.bslice (F := (slT (α := Bool))) (els := []) rfl El193 rfl (by decide) rfl (by decide) trivial fun v10 => ?_)
 refine RG.p (PV.asg (v := v10) rfl rfl) (RG.nil (WP.sr (RG.p (PV.move (v := v) rfl rfl) (RG.p (PV.len (v := v) rfl Tryz.underlying162 rfl (SlF.r h1)) ?_))))
 refine RG.ot rfl (OT.make (F := boolT) (a0 := false) rfl El162 rfl (by decide) rfl rfl (by omega) (by omega) fun v13 => ?_)
 refine RG.p (PV.asg (v := v13) rfl rfl) (RG.nil (WP.seq (WP.sr (RG.mr rfl (RG.nil (WP.block ?_))))))
 refine WP.cv (((Cv.p (C := osl 162 slT v10 ([] : List (Sl Bool)) :: osl 4 boolT v13 (List.replicate S.length false) :: L)).trans (Cv.cons (Cv.bag0 (e := 4) (F := boolT) (xs := []) rfl)))) ?_
 refine WP.loop5 [0, 1] (fun (yy : Int) (D : List Bool) (zs : List (Sl Bool)) (q : Value) (dv : Value) => (-40 ≤ yy ∧ yy ≤ 40) ∧ D.length = 6400 ∧ PI id S ((yy + 40).toNat * 80) (leftB S D) (er zs)) (fun (yy : Int) (D : List Bool) (zs : List (Sl Bool)) (q : Value) (dv : Value) => [(7, vi yy), (5, q), (6, dv)]) (fun (yy : Int) (D : List Bool) (zs : List (Sl Bool)) (q : Value) (dv : Value) => osl 162 slT q zs :: bagS 4 boolT zs :: osl 4 boolT dv D :: L) (fun (yy : Int) (D : List Bool) (zs : List (Sl Bool)) (q : Value) (dv : Value) => (40 - yy).toNat) (-40) (List.replicate S.length false) [] v10 v13 ⟨by omega, hrl, by rw [hS, hl0]; exact PI.start hS⟩ ⟨rfl, rfl, rfl, trivial⟩ Cv.p ?_
 rintro yy D zs q dv τ ⟨hy, hDl, hP⟩
 refine WP.seq (WP.sr (RG.ml rfl (RG.p (PV.lss rfl rfl rfl) (RG.nil ?_))))
 obtain ⟨y, rfl⟩ : ∃ n : Nat, yy = (n : Int) - 40 := ⟨(yy + 40).toNat, by omega⟩
 rw [show ((y : Int) - 40 + 40).toNat = y by omega] at hP
 refine WP.cond rfl (fun h2 => ?_) (fun h2 => ?_)
 ·have h2 := of_decide_eq_true h2
  refine WP.skip (WP.seq (WP.block (WP.sr (RG.mr rfl (RG.nil (WP.block ?_))))))
  refine WP.loop5 [0, 1, 7] (fun (xx : Int) (D1 : List Bool) (zs1 : List (Sl Bool)) (q1 : Value) (dv1 : Value) => (-40 ≤ xx ∧ xx ≤ 40) ∧ D1.length = 6400 ∧ PI id S (y * 80 + (xx + 40).toNat) (leftB S D1) (er zs1)) (fun (xx : Int) (D1 : List Bool) (zs1 : List (Sl Bool)) (q1 : Value) (dv1 : Value) => [(8, vi xx), (5, q1), (6, dv1)]) (fun (xx : Int) (D1 : List Bool) (zs1 : List (Sl Bool)) (q1 : Value) (dv1 : Value) => osl 162 slT q1 zs1 :: bagS 4 boolT zs1 :: osl 4 boolT dv1 D1 :: L) (fun (xx : Int) (D1 : List Bool) (zs1 : List (Sl Bool)) (q1 : Value) (dv1 : Value) => (40 - xx).toNat) (-40) D zs q dv ⟨by omega, hDl, by rw [show ((-40 : Int) + 40).toNat = 0 from rfl]; exact hP⟩ ⟨rfl, rfl, rfl, trivial⟩ Cv.p ?_
  rintro xx D1 zs1 q1 dv1 τ1 ⟨hx, hDl, hP1⟩
  refine WP.seq (WP.sr (RG.ml rfl (RG.p (PV.lss rfl rfl rfl) (RG.nil ?_))))
  obtain ⟨x, rfl⟩ : ∃ n : Nat, xx = (n : Int) - 40 := ⟨(xx + 40).toNat, by omega⟩
  rw [show ((x : Int) - 40 + 40).toNat = x by omega] at hP1
  refine WP.cond rfl (fun h3 => ?_) (fun h3 => ?_)
  ·have h3 := of_decide_eq_true h3
   have hzl : zs1.length ≤ y * 80 + x := by
    have := congrArg List.length hP1.er
    have h1 := firsts_len S (y * 80 + x)
    rw [er_len, List.length_map] at this; omega
   have e1 : (y * 80 + x) / 80 = y := by omega
   have e2 : (y * 80 + x) % 80 = x := by omega
   have e3 : cel (y * 80 + x) = (y, x) := by rw [cel, e1, e2]
   have e4 : ((x : Int) - 40 + 1 + 40).toNat = x + 1 := by omega
   have hg := gb_left hS hDl (y := y) (x := x) (by omega) (by omega)
   refine WP.skip (WP.seq (WP.block (WP.sr (RG.p (PV.move (v := v) rfl rfl) (RG.ml rfl (RG.ml rfl ?_))))))
   refine RG.callF (vs := [_, _]) rfl rfl En201 rfl (l03At_s (by first | omega | (simp at hp; omega)) ?_)
   refine RG.p (PV.idxS (j := y * 80 + x) (v := v) rfl Is162 rfl (SlF.r h1) rfl (by omega) (by omega)) (RG.p (PV.loadE1 rfl Sc4 rfl rfl (El.r h1 (getG (by omega))) rfl) (RG.bl rfl ?_))
   refine RG.g rfl (fun hp => (PV.move (v := dv1) rfl rfl)) ?_
   refine RG.g rfl (fun hp => (PV.mvI (.inl rfl) rfl)) ?_
   refine RG.g rfl (fun hp => (PV.mvI (.inl rfl) rfl)) ?_
   refine RG.gsC rfl rfl rfl rfl En201 (fun hp => ⟨_, (acons (gs_t hp) (acons (gs_t hp) anil)), l03At_s (by first | omega | (simp at hp; omega)) ⟨rfl, rfl, rfl⟩⟩) ?_
   refine RG.g rfl (fun hp => (PV.idxS (j := y * 80 + x) (v := dv1) rfl Is162 (gs_t hp) SlF.o (gs_t hp) (by first | omega | (simp [within, hasI] at hp; omega)) (by first | omega | (simp [within, hasI] at hp; omega)))) ?_
   refine RG.g rfl (fun hp => (PV.loadE1 rfl Sc4 (gs_t hp) rfl (El.o (getG (by first | omega | (simp [within, hasI] at hp; omega)))) rfl)) ?_
   refine RG.g rfl (fun hp => (PV.not rfl (gs_t hp))) ?_
   refine RG.p (PV.pickA rfl rfl (fun hq => gs_t (geqT hq)) rfl) (RG.nil ?_)
   refine WP.cond rfl (fun h4 => ?_) (fun h4 => ?_)
   ·have h6 : gb (leftB S D1) y x = true := by rw [hg]; exact h4
    have h5 : gb S y x = true := by rw [hg, Bool.and_eq_true] at h6; exact h6.1
    refine WP.sr (RG.p (PV.move (v := v) rfl rfl) (RG.ml rfl (RG.ml rfl (RG.bl rfl ?_))))
    refine RG.callF (vs := [v, _, _, _]) rfl rfl En217 rfl (flood7n_s (Rs.up h1) hS (by omega) (by omega) h5 (fun v41 => ?_))
    refine RG.p (PV.asg (v := v41) rfl rfl) (RG.nil (WP.sr (RG.p (PV.move (v := dv1) rfl rfl) (RG.p (PV.move (v := v41) rfl rfl) ?_))))
    refine RG.callF (vs := [dv1, v41, _]) rfl rfl En218 rfl (l04Combine_s Rs.o Rs.o hDl (compB_len _ _) (by omega) (fun v44 => ?_))
    refine RG.p (PV.asg (v := v44) rfl rfl) (RG.nil (WP.region (RG.p (PV.move (v := q1) rfl rfl) (RG.p (PV.move (v := v41) rfl rfl) ?_))))
    refine RG.ot rfl (OT.bslice (F := (slT (α := Bool))) (els := [⟨v41, compB S (y, x)⟩]) rfl El193 rfl (by decide) rfl (by decide) ⟨rfl, (Cl.s (v := v41) SlF.o), trivial⟩ fun v47 => ?_)
    refine RG.ot rfl (OT.append (v := q1) (u := v47) (F := (slT (α := Bool))) rfl El193 rfl (by decide) rfl rfl Rs.o (OneL.one (OneC.sl SlF.o OneC.nil)) rfl (by first | omega | (simp <;> omega)) fun v48 => ?_)
    refine RG.p (PV.asg (v := v48) rfl rfl) (RG.nil (WP.region (RG.ml rfl (RG.p (PV.add rfl rfl rfl (by omega)) (RG.mr rfl (RG.nil ?_))))))
    have hcm := hP1.comp (n := y * 80 + x) (by omega) (by rw [e1, e2]; exact h6)
    rw [e3] at hcm
    refine ⟨rfl, (x : Int) - 40 + 1, (zipB (opF 14) D1 (compB S (y, x))), (zs1 ++ [⟨v41, compB S (y, x)⟩]), v48, v44, ⟨by omega, zipB_len hDl (compB_len _ _), ?_⟩, ⟨rfl, rfl, rfl, trivial⟩, ⟨rfl, rfl, rfl, trivial⟩, ((Cv.p (C := osl 4 boolT v41 (compB S (y, x)) :: bagS 4 boolT zs1 :: osl 162 slT v48 (zs1 ++ [⟨v41, compB S (y, x)⟩]) :: osl 4 boolT v44 (zipB (opF 14) D1 (compB S (y, x))) :: L)).trans (Cv.bagS_add.trans Cv.p)), by omega⟩
    rw [e4, er, List.map_append]
    have hk := hP1.take (T' := leftB S (zipB (opF 14) D1 (compB S (y, x)))) (n := y * 80 + x) (by omega) (by rw [e1, e2]; exact h6) (leftB_len hS (zipB_len hDl (compB_len _ _))) (fun y' x' hy' hx' => by
     rw [gb_left hS (zipB_len hDl (compB_len _ _)) hy' hx', gb_left hS hDl hy' hx', gb_zip hDl (compB_len _ _) hy' hx', e3, hcm, show ∀ a b : Bool, opF 14 a b = (a || b) by decide]
     cases gb S y' x' <;> cases gb D1 y' x' <;> simp)
    rw [e3, hcm] at hk
    exact hk
   ·have h6 : gb (leftB S D1) y x = false := by rw [hg]; exact h4
    refine WP.skip (WP.region (RG.ml rfl (RG.p (PV.add rfl rfl rfl (by omega)) (RG.mr rfl (RG.nil ?_)))))
    exact ⟨rfl, (x : Int) - 40 + 1, D1, zs1, q1, dv1, ⟨by omega, hDl, by rw [e4]; exact hP1.skip (by omega) (by rw [e1, e2]; exact h6)⟩, ⟨rfl, rfl, rfl, trivial⟩, ⟨rfl, rfl, rfl, trivial⟩, Cv.p, by omega⟩
  ·have h3 := of_decide_eq_false h3
   obtain rfl : x = 80 := by omega
   refine WP.exit ?_
   refine WP.region (RG.ml rfl (RG.p (PV.add rfl rfl rfl (by omega)) (RG.mr rfl (RG.nil ?_))))
   exact ⟨rfl, (y : Int) - 40 + 1, D1, zs1, q1, dv1, ⟨by omega, hDl, by rw [show ((y : Int) - 40 + 1 + 40).toNat = y + 1 by omega, Nat.add_mul]; exact hP1⟩, ⟨rfl, rfl, rfl, trivial⟩, ⟨rfl, rfl, trivial⟩, Cv.p, by omega⟩
 ·have h2 := of_decide_eq_false h2
  obtain rfl : y = 80 := by omega
  have hz := hP.all
  refine WP.exit ?_
  refine WP.sr (RG.p (PV.move (v := q) rfl rfl) (RG.p (PV.asg (v := q) rfl rfl) (RG.nil ?_)))
  exact WP.ret ⟨_, _, ResV.one rfl rfl, Cv.p, k q zs hz⟩
theorem comps7_s {v : Value} {xs : List Rect} (h1 : Rs G L rectT v xs) (hv : validRs xs = true) (k : ∀ v' zs, er zs = partsL (bits xs) → R v' G (osl 50 slT v' zs :: bagS 91 rectT zs :: L)) : CallT Tryz.prog 74 #[v] G L R := by
 refine CallT.enter (args := _) Tryz.func74 rfl rfl (by kernel_rfl) rfl ?_
 refine WP.sr (RG.p (PV.asg rfl rfl) (RG.nil (WP.sr ?_)))
 refine RG.ot rfl (OT.bslice (F := (slT (α := Rect))) (els := []) rfl El71 rfl (by decide) rfl (by decide) trivial fun v6 => ?_)
 refine RG.p (PV.asg (v := v6) rfl rfl) (RG.nil (WP.sr (RG.p (PV.move (v := v) rfl rfl) ?_)))
 refine RG.callF (vs := [v]) rfl rfl En120 rfl (l03Bits_s (Rs.up h1) (fun j hj => valid_get hv hj) (fun v8 => ?_))
 refine RG.callF (vs := [v8, _]) rfl rfl En144 rfl (parts7_s Rs.o (bits_length _) (fun v9 zsv9 hev9 => ?_))
 refine RG.p (PV.asg (v := v9) rfl rfl) (RG.nil (WP.seq (WP.sr (RG.mr rfl (RG.nil (WP.block ?_))))))
 have hzl : zsv9.length ≤ 6400 := by
  have := congrArg List.length hev9
  have h2 := comps_len (bits xs)
  rw [er_len] at this; omega
 refine WP.cv (((Cv.p (C := osl 50 slT v6 ([] : List (Sl Rect)) :: osl 162 slT v9 zsv9 :: bagS 4 boolT zsv9 :: L)).trans (Cv.cons (Cv.bag0 (e := 91) (F := rectT) (xs := []) rfl)))) ?_
 refine WP.loop3 [4] (fun (i : Nat) (ys : List (Sl Rect)) (q : Value) => i ≤ zsv9.length ∧ er ys = ((er zsv9).take i).map canon) (fun (i : Nat) (ys : List (Sl Rect)) (q : Value) => [(5, vi i), (3, q)]) (fun (i : Nat) (ys : List (Sl Rect)) (q : Value) => osl 50 slT q ys :: bagS 91 rectT ys :: osl 162 slT v9 zsv9 :: bagS 4 boolT zsv9 :: L) (fun (i : Nat) (ys : List (Sl Rect)) (q : Value) => zsv9.length - i) 0 [] v6 ⟨by omega, rfl⟩ ⟨rfl, rfl, trivial⟩ Cv.p ?_
 rintro i ys q τ ⟨hi, hys⟩
 refine WP.seq (WP.sr (RG.ml rfl (RG.p (PV.move (v := v9) rfl rfl) (RG.p (PV.len (v := v9) rfl Tryz.underlying193 rfl SlF.o) (RG.p (PV.lss rfl rfl rfl) (RG.nil ?_))))))
 have hyl : ys.length = i := by
  have := congrArg List.length hys
  rw [er_len, List.length_map, List.length_take, er_len] at this; omega
 refine WP.cond rfl (fun h3 => ?_) (fun h3 => ?_)
 ·have h3 := of_decide_eq_true h3
  have hci : (gd zsv9 i).xs.length = 6400 := by
   have e : (gd zsv9 i).xs ∈ comps (bits xs) := by rw [← hev9, ← er_gd]; rw [gd_eq (by rw [er_len]; omega)]; exact List.getElem_mem _
   obtain ⟨j0, _, e2⟩ := List.mem_map.1 e
   rw [← e2]; exact compB_len _ _
  refine WP.skip (WP.seq (WP.block (WP.region (RG.p (PV.move (v := q) rfl rfl) (RG.p (PV.move (v := v9) rfl rfl) (RG.ml rfl (RG.p (PV.idxS (v := v9) rfl Is193 rfl SlF.o rfl rfl (by omega)) (RG.p (PV.loadE1 rfl Sc162 rfl rfl (El.o (getG (by omega))) rfl) ?_))))))))
  refine RG.callF (vs := [_]) rfl rfl En119 rfl (l03Canon_s (Rs.inBag (xs := zsv9) i (by omega)) hci (fun v21 => ?_))
  refine RG.ot rfl (OT.bslice (F := (slT (α := Rect))) (els := [⟨v21, canon (gd zsv9 i).xs⟩]) rfl El71 rfl (by decide) rfl (by decide) ⟨rfl, (Cl.s (v := v21) SlF.o), trivial⟩ fun v22 => ?_)
  refine RG.ot rfl (OT.append (v := q) (u := v22) (F := (slT (α := Rect))) rfl El71 rfl (by decide) rfl rfl Rs.o (OneL.one (OneC.sl SlF.o OneC.nil)) rfl (by first | omega | (simp <;> omega)) fun v23 => ?_)
  refine RG.p (PV.asg (v := v23) rfl rfl) (RG.nil (WP.region (RG.ml rfl (RG.p (PV.add rfl rfl rfl (by omega)) (RG.mr rfl (RG.nil ?_))))))
  refine ⟨rfl, i + 1, (ys ++ [⟨v21, canon (gd zsv9 i).xs⟩]), v23, ⟨by omega, ?_⟩, ⟨rfl, rfl, trivial⟩, ⟨rfl, trivial⟩, ((Cv.p (C := osl 91 rectT v21 (canon (gd zsv9 i).xs) :: bagS 91 rectT ys :: osl 50 slT v23 (ys ++ [⟨v21, canon (gd zsv9 i).xs⟩]) :: osl 162 slT v9 zsv9 :: bagS 4 boolT zsv9 :: L)).trans (Cv.bagS_add.trans Cv.p)), by omega⟩
  rw [List.take_add_one, getG (by rw [er_len]; omega), List.map_append, ← hys, er_gd, er, List.map_append]; rfl
 ·have h3 := of_decide_eq_false h3
  rw [List.take_of_length_le (by rw [er_len]; omega), hev9] at hys
  refine WP.exit ?_
  refine WP.sr (RG.p (PV.move (v := q) rfl rfl) (RG.p (PV.asg (v := q) rfl rfl) (RG.nil ?_)))
  exact WP.ret ⟨_, _, ResV.one rfl rfl, Cv.p, k q ys hys⟩
end Go.Proofs.YtgphjofccckloaaGreat
namespace Go.Proofs.YtgphjofccckloaaGreat
open Go
set_option maxRecDepth 20000
variable {G : Gh} {L : List Ch} {R : Value → Gh → List Ch → Prop}
def mks (xs : List Viol) : List (Sl Rect) := xs.map Viol.marker
theorem mks_len (xs : List Viol) : (mks xs).length = xs.length := by simp [mks]
theorem mks_gd {xs : List Viol} {i : Nat} (h : i < xs.length) : gd (mks xs) i = (gd xs i).marker := gd_map _ h
theorem RsE.marker {xs : List Viol} (h : RsE G L rectT (mks xs)) {i : Nat} (hi : i < xs.length) : Rs G L rectT (gd xs i).marker.v (gd xs i).marker.xs := by
 have := h i (by rw [mks_len]; exact hi); rwa [mks_gd hi] at this
def erV (p : Viol) : Int × List Rect := (p.rule, p.marker.xs)
def erVs (xs : List Viol) : List (Int × List Rect) := xs.map erV
theorem erVs_len (xs : List Viol) : (erVs xs).length = xs.length := by simp [erVs]
theorem erVs_gd {xs : List Viol} {i : Nat} (h : i < xs.length) : gd (erVs xs) i = erV (gd xs i) := gd_map _ h
theorem erVs_get {xs ys : List Viol} (h : erVs xs = erVs ys) {i : Nat} (hi : i < ys.length) : erV (gd xs i) = erV (gd ys i) := by
 have hl : xs.length = ys.length := by rw [← erVs_len, ← erVs_len, h]
 rw [← erVs_gd (by omega), ← erVs_gd hi, h]
theorem erVs_of {xs ys : List Viol} (hl : xs.length = ys.length) (h : ∀ i, i < ys.length → erV (gd xs i) = erV (gd ys i)) : erVs xs = erVs ys := by
 apply List.ext_getElem?
 intro i
 by_cases hi : i < ys.length
 ·rw [getG (by rw [erVs_len]; omega), getG (by rw [erVs_len]; omega), erVs_gd (by omega), erVs_gd hi, h i hi]
 ·rw [List.getElem?_eq_none (by rw [erVs_len]; omega), List.getElem?_eq_none (by rw [erVs_len]; omega)]
theorem eqViol_s {p q : Viol} (h1 : Rs G L rectT p.marker.v p.marker.xs) (h2 : Rs G L rectT q.marker.v q.marker.xs) (k : R (.bool (decide (erV p = erV q))) G L) : CallT Tryz.prog 68 #[vT violT p, vT violT q] G L R := by
 refine CallT.enter (args := _) Tryz.func68 rfl rfl (by kernel_rfl) rfl ?_
 refine WP.sr ?_
 refine RG.ot rfl (OT.box (cs := violT.enc p) rfl rfl rfl fun b2 => ?_)
 refine RG.ot rfl (OT.box (cs := violT.enc q) rfl rfl rfl fun b3 => ?_)
 refine RG.br rfl (RG.nil (WP.seq (WP.sr (RG.p (PV.field rfl Fo118_0 rfl) (RG.p (PV.load1 rfl Sc2 rfl (Rd.blk rfl)) (RG.p (PV.field rfl Fo118_0 rfl) (RG.p (PV.load1 rfl Sc2 rfl (Rd.blk rfl)) (RG.p (PV.neq rfl rfl rfl) (RG.nil ?_)))))))))
 refine WP.cond rfl (fun h3 => ?_) (fun h3 => ?_)
 ·have e : decide (erV p = erV q) = false := by
   rw [decide_eq_false_iff_not]; intro h; simp [erV] at h h3; exact h3 h.1
  rw [e] at k
  refine WP.sr (RG.br rfl (RG.nil ?_))
  exact WP.ret ⟨_, _, ResV.one rfl rfl, Cv.p, k⟩
 ·refine WP.skip ?_
  refine WP.seq (WP.sr (RG.p (PV.field rfl Fo118_1 rfl) (RG.p (PV.load1 rfl Sc50 rfl (Rd.blk rfl)) (RG.p (PV.field rfl Fo118_1 rfl) (RG.p (PV.load1 rfl Sc50 rfl (Rd.blk rfl)) ?_)))))
  refine RG.callF (vs := [_, _]) rfl rfl En23 rfl (eqRectS_s (Rs.up h1) (Rs.up h2) ?_)
  refine RG.p (PV.not rfl rfl) (RG.nil ?_)
  refine WP.cond rfl (fun h4 => ?_) (fun h4 => ?_)
  ·have e : decide (erV p = erV q) = false := by
    rw [decide_eq_false_iff_not]; intro h; simp [erV] at h h4; exact h4 h.2
   rw [e] at k
   refine WP.sr (RG.br rfl (RG.nil ?_))
   exact WP.ret ⟨_, _, ResV.one rfl rfl, Cv.p, k⟩
  ·have e : decide (erV p = erV q) = true := by
    simp at h3 h4; simp [erV, h3, h4]
   rw [e] at k
   refine WP.skip (WP.sr (RG.br rfl (RG.nil ?_)))
   exact WP.ret ⟨_, _, ResV.one rfl rfl, Cv.p, k⟩
theorem eqViolS_s {v u : Value} {xs ys : List Viol} (h1 : Rs G L violT v xs) (hd : RsE G L rectT (mks xs)) (h2 : Rs G L violT u ys) (hd' : RsE G L rectT (mks ys)) (k : R (.bool (decide (erVs xs = erVs ys))) G L) : CallT Tryz.prog 30 #[v, u] G L R := by
 refine CallT.bd h1 fun hb => ?_
 refine CallT.bd h2 fun hb' => ?_
 refine CallT.enter (args := _) Tryz.func30 rfl rfl (by kernel_rfl) rfl ?_
 refine WP.sr (RG.br rfl (RG.nil (WP.seq (WP.sr (RG.p (PV.move (v := v) rfl rfl) (RG.p (PV.len (v := v) rfl Tryz.underlying61 rfl (SlF.r h1)) (RG.p (PV.move (v := u) rfl rfl) (RG.p (PV.len (v := u) rfl Tryz.underlying61 rfl (SlF.r h2)) (RG.p (PV.neq rfl rfl rfl) (RG.nil ?_))))))))))
 refine WP.cond rfl (fun h3 => ?_) (fun h3 => ?_)
 ·have e : decide (erVs xs = erVs ys) = false := by
   rw [decide_eq_false_iff_not]; intro h; have := congrArg List.length h; rw [erVs_len, erVs_len] at this; simp at h3; omega
  rw [e] at k
  refine WP.sr (RG.br rfl (RG.nil ?_))
  exact WP.ret ⟨_, _, ResV.one rfl rfl, Cv.p, k⟩
 ·have hl : xs.length = ys.length := by simp at h3; omega
  refine WP.skip (WP.seq (WP.sr (RG.mr rfl (RG.nil (WP.block ?_)))))
  refine WP.loop1 [0, 1] (fun i => i ≤ xs.length ∧ ∀ j, j < i → erV (gd xs j) = erV (gd ys j)) (fun i => [(5, vi i)]) (fun i => L) (fun i => xs.length - i) 0 ⟨by omega, fun j h => by omega⟩ ⟨rfl, trivial⟩ Cv.p ?_
  rintro i τ ⟨hi, he⟩
  refine WP.seq (WP.sr (RG.ml rfl (RG.p (PV.move (v := v) rfl rfl) (RG.p (PV.len (v := v) rfl Tryz.underlying61 rfl (SlF.r h1)) (RG.p (PV.lss rfl rfl rfl) (RG.nil ?_))))))
  refine WP.cond rfl (fun h4 => ?_) (fun h4 => ?_)
  ·have h4 := of_decide_eq_true h4
   have h5 : i < xs.length := by omega
   refine WP.skip (WP.seq (WP.block (WP.seq ?_)))
   refine WP.regionQ (by kernel_rfl) (by kernel_rfl) ?_
   refine RQ.pv rfl (PV.move (v := v) rfl rfl) (RQ.pv rfl (PV.mvI (.inl rfl) rfl) (RQ.pv rfl (PV.idxS (v := v) rfl Is61 rfl (SlF.r h1) rfl rfl (by omega)) (RQ.pv rfl (PV.loadE rfl Ag118 rfl rfl (El.r h1 (getG (by omega)))) (RQ.pv rfl (PV.move (v := u) rfl rfl) (RQ.pv rfl (PV.mvI (.inl rfl) rfl) (RQ.pv rfl (PV.idxS (v := u) rfl Is61 rfl (SlF.r h2) rfl rfl (by omega)) (RQ.pv rfl (PV.loadE rfl Ag118 rfl rfl (El.r h2 (getG (by omega)))) ?_)))))))
   refine RQ.callF (vs := [_, _]) rfl rfl En68 rfl (eqViol_s (hd.marker (by omega)).up (hd'.marker (by omega)).up ⟨rfl, rfl, rfl⟩) ?_
   refine RQ.pv rfl (PV.not rfl rfl) ?_
   refine RQ.nil ?_
   refine WP.cond rfl (fun h6 => ?_) (fun h6 => ?_)
   ·have e : decide (erVs xs = erVs ys) = false := by
     rw [decide_eq_false_iff_not]; intro h; simp [erVs_get h (i := i) (by omega)] at h6
    rw [e] at k
    refine WP.sr (RG.br rfl (RG.nil ?_))
    exact WP.ret ⟨_, _, ResV.one rfl rfl, Cv.p, k⟩
   ·have e : erV (gd xs i) = erV (gd ys i) := by simpa using h6
    have he' : ∀ j, j < i + 1 → erV (gd xs j) = erV (gd ys j) := fun j h => by
     by_cases c : j = i
     ·rw [c, e]
     ·exact he j (by omega)
    refine WP.skip (WP.region (RG.ml rfl (RG.p (PV.add rfl rfl rfl (by omega)) (RG.mr rfl (RG.nil ?_)))))
    exact ⟨rfl, i + 1, ⟨by omega, he'⟩, ⟨rfl, trivial⟩, ⟨rfl, rfl, trivial⟩, Cv.p, by omega⟩
  ·have h4 := of_decide_eq_false h4
   have e : decide (erVs xs = erVs ys) = true := by
    rw [decide_eq_true_iff]; exact erVs_of hl (fun j hj => he j (by omega))
   rw [e] at k
   refine WP.exit ?_
   refine WP.sr (RG.br rfl (RG.nil ?_))
   exact WP.ret ⟨_, _, ResV.one rfl rfl, Cv.p, k⟩
def mkVi (p : Viol) (k : Int) : Viol := ⟨k, mkRS p.marker (k + 1)⟩
def nVi (p : Viol) : Int := 1 + nRS p.marker
theorem nVi_nn (p : Viol) : 0 ≤ nVi p := by have : 0 ≤ nRS p.marker := nSl_nn p.marker; simp only [nVi]; omega
theorem mks_set (zs : List Viol) (i : Nat) (p : Viol) : mks (zs.set i p) = (mks zs).set i p.marker := by simp [mks, List.map_set]
theorem Cv.slotV {e e' : TypeId} {v : Value} {zs : List Viol} {p q : Viol} {ys : List Rect} {L : List Ch} (i : Nat) (hi : i < zs.length) (hq : q = ⟨p.rule, ⟨(gd zs i).marker.v, ys⟩⟩) (hp : p.marker.v = (gd zs i).marker.v) :
  Cv (osl e rectT (gd (mks zs) i).v ys :: osl e' violT v (zs.set i p) :: bag (((mks zs).map (ownS e rectT)).set i emp) :: L) (osl e' violT v (zs.set i q) :: bagS e rectT (mks (zs.set i q)) :: L) := by
 subst hq
 have h1 : Cv (osl e rectT (gd (mks zs) i).v ys :: osl e' violT v (zs.set i p) :: bag (((mks zs).map (ownS e rectT)).set i emp) :: L) (osl e' violT v (zs.set i p) :: osl e rectT (gd (mks zs) i).v ys :: bag (((mks zs).map (ownS e rectT)).set i emp) :: L) := Cv.swap (A := [osl e rectT (gd (mks zs) i).v ys]) (B := [osl e' violT v (zs.set i p)])
 refine h1.trans ((Cv.cons (Cv.bagS_put i (by rw [mks_len]; exact hi))).trans ?_)
 rw [mks_set, mks_gd hi]
 exact Cv.flat (flat_setEq (by simp [violT, hp])) (by simp)
theorem markViolS_s {v : Value} {xs : List Viol} {k0 : Int} (hk : 0 ≤ k0) (hb : k0 + costL nVi xs ≤ 4611686018427387904) (k : R (vi (k0 + costL nVi xs)) G (osl 118 violT v (markL mkVi nVi xs k0) :: bagS 91 rectT (mks (markL mkVi nVi xs k0)) :: L)) :
  CallT Tryz.prog 31 #[v, vi k0] G (osl 118 violT v xs :: bagS 91 rectT (mks xs) :: L) R := by
 refine CallT.bd (T := violT) (v := v) (xs := xs) Rs.o fun hb2 => ?_
 refine CallT.cv (L' := osl 118 violT v (markTo mkVi nVi xs k0 0) :: bagS 91 rectT (mks (markTo mkVi nVi xs k0 0)) :: L) (Cv.cast (by rw [markTo_zero])) ?_
 refine CallT.enter (args := _) Tryz.func31 rfl rfl (by kernel_rfl) rfl ?_
 refine WP.sr (RG.mr rfl (RG.nil (WP.seq (WP.sr (RG.mr rfl (RG.nil (WP.block ?_)))))))
 refine WP.loop2 [0] (fun (i : Nat) (kk : Int) => i ≤ xs.length ∧ kk = k0 + costL nVi (xs.take i)) (fun (i : Nat) (kk : Int) => [(5, vi i), (1, vi kk)]) (fun (i : Nat) (kk : Int) => osl 118 violT v (markTo mkVi nVi xs k0 i) :: bagS 91 rectT (mks (markTo mkVi nVi xs k0 i)) :: L) (fun (i : Nat) (kk : Int) => xs.length - i) 0 k0 ⟨by omega, by simp [costL]⟩ ⟨rfl, rfl, trivial⟩ Cv.p ?_
 rintro i kk τ ⟨hi, hkk⟩
 refine WP.seq (WP.sr (RG.ml rfl (RG.p (PV.move (v := v) rfl rfl) (RG.p (PV.len (v := v) rfl Tryz.underlying61 rfl SlF.o) (RG.p (PV.lss rfl rfl rfl) (RG.nil ?_))))))
 have hml := markTo_len (mk := mkVi) (n := nVi) (k := k0) hi
 refine WP.cond rfl (fun h1 => ?_) (fun h1 => ?_)
 ·have h1 := of_decide_eq_true h1
  have h2 : i < xs.length := by omega
  have hmg := markTo_gd (mk := mkVi) (n := nVi) (k := k0) h2
  have hc := costL_take nVi h2
  have hc1 : costL nVi (xs.take (i + 1)) ≤ costL nVi xs := costL_le nVi_nn xs (i + 1)
  have hc2 : 0 ≤ costL nVi (xs.take i) := costL_nonneg nVi_nn (xs.take i)
  have hc3 : 0 ≤ nRS (gd xs i).marker := nSl_nn (gd xs i).marker
  have hc5 : nVi (gd xs i) = 1 + nRS (gd xs i).marker := rfl
  have hgi : gd (mks (markTo mkVi nVi xs k0 i)) i = (gd xs i).marker := by rw [mks_gd (by omega), hmg]
  have hc4 : costL nRect (gd (mks (markTo mkVi nVi xs k0 i)) i).xs = nRS (gd xs i).marker := by rw [hgi]; rfl
  have hgs : (gd ((markTo mkVi nVi xs k0 i).set i (Viol.s0 kk (gd (markTo mkVi nVi xs k0 i) i))) i).marker.v = (gd (mks (markTo mkVi nVi xs k0 i)) i).v := by
   rw [hgi]; simp [gd, hml, h2, ← hmg]
  refine WP.cv (Cv.cons (Cv.bagS_take i (by rw [mks_len]; omega))) ?_
  refine WP.skip (WP.seq (WP.block (WP.sr (RG.p (PV.move (v := v) rfl rfl) (RG.ml rfl (RG.ml rfl (RG.p (PV.idxS (v := v) rfl Is61 rfl SlF.o rfl rfl (by omega)) (RG.p (PV.field rfl Fo118_0 rfl) ?_))))))))
  refine RG.ot rfl (OT.storeF (F := violT) (val := vi) (cv := fun u => [vi u]) (st := Viol.s0) rfl Sz2 rfl rfl rfl (Cl.c rfl) rfl (OneC.c rfl) (by exact set_self (by omega)) (by first | omega | (simp; omega)) rfl (fun _ _ => rfl) ?_)
  refine RG.nil (WP.sr (RG.ml rfl (RG.p (PV.add rfl rfl rfl (by first | omega | (simp only [List.length_set]; omega))) (RG.mr rfl (RG.nil (WP.region (RG.p (PV.move (v := v) rfl rfl) (RG.ml rfl (RG.p (PV.idxS (v := v) rfl Is61 rfl SlF.o rfl rfl (by first | omega | (simp only [List.length_set]; omega))) (RG.p (PV.field rfl Fo118_1 rfl) (RG.p (PV.loadF rfl Sc50 rfl rfl (El.o (getG (by first | omega | (simp only [List.length_set]; omega)))) rfl) (RG.ml rfl ?_))))))))))))
  refine RG.callF (vs := [_, _]) rfl rfl En24 rfl (CallT.eq2 hgs (CallT.exS (gd (mks (markTo mkVi nVi xs k0 i)) i).v (markRectS_s (by omega) (by omega) ?_)))
  refine RG.mr rfl (RG.nil (WP.region (RG.ml rfl (RG.p (PV.add rfl rfl rfl (by first | omega | (simp only [List.length_set]; omega))) (RG.mr rfl (RG.nil ?_))))))
  exact ⟨rfl, i + 1, _, ⟨by omega, by rw [hc]; omega⟩, ⟨rfl, rfl, trivial⟩, ⟨rfl, trivial⟩, ((Cv.slotV (zs := markTo mkVi nVi xs k0 i) (p := Viol.s0 kk (gd (markTo mkVi nVi xs k0 i) i)) (q := mkVi (gd xs i) (k0 + costL nVi (xs.take i))) (ys := markL mkRect nRect (gd (mks (markTo mkVi nVi xs k0 i)) i).xs (kk + 1)) i (by omega) (by rw [hgi, hmg, mkVi, ← hkk]; rfl) rfl).trans (Cv.cast (by rw [← markTo_set h2]))), by omega⟩
 ·have h1 := of_decide_eq_false h1
  have e : kk = k0 + costL nVi xs := by rw [hkk, List.take_of_length_le (by omega)]
  rw [← e] at k
  refine WP.exit ?_
  refine WP.sr (RG.ml rfl (RG.mr rfl (RG.nil ?_)))
  exact WP.ret ⟨_, _, ResV.one rfl rfl, (Cv.cast (by rw [markTo_all (by omega)])), k⟩
theorem heldViolS_s {v : Value} {xs : List Viol} {k0 : Int} (h0 : Rs G L violT v (markL mkVi nVi xs k0)) (hd : RsE G L rectT (mks (markL mkVi nVi xs k0))) (hk : 0 ≤ k0) (hb : k0 + costL nVi xs ≤ 4611686018427387904) (k : R (vi (k0 + costL nVi xs)) G L) : CallT Tryz.prog 32 #[v, vi k0] G L R := by
 have hml := markL_len mkVi nVi xs k0
 refine CallT.bd h0 fun hb2 => ?_
 refine CallT.enter (args := _) Tryz.func32 rfl rfl (by kernel_rfl) rfl ?_
 refine WP.sr (RG.mr rfl (RG.nil (WP.seq (WP.sr (RG.mr rfl (RG.nil (WP.block ?_)))))))
 refine WP.loop2 [0] (fun (i : Nat) (kk : Int) => i ≤ xs.length ∧ kk = k0 + costL nVi (xs.take i)) (fun (i : Nat) (kk : Int) => [(5, vi i), (1, vi kk)]) (fun (i : Nat) (kk : Int) => L) (fun (i : Nat) (kk : Int) => xs.length - i) 0 k0 ⟨by omega, by simp [costL]⟩ ⟨rfl, rfl, trivial⟩ Cv.p ?_
 rintro i kk τ ⟨hi, hkk⟩
 refine WP.seq (WP.sr (RG.ml rfl (RG.p (PV.move (v := v) rfl rfl) (RG.p (PV.len (v := v) rfl Tryz.underlying61 rfl (SlF.r h0)) (RG.p (PV.lss rfl rfl rfl) (RG.nil ?_))))))
 refine WP.cond rfl (fun h1 => ?_) (fun h1 => ?_)
 ·have h1 := of_decide_eq_true h1
  have h2 : i < xs.length := by omega
  have hc := costL_take nVi h2
  have hc1 : costL nVi (xs.take (i + 1)) ≤ costL nVi xs := costL_le nVi_nn xs (i + 1)
  have hc2 : 0 ≤ costL nVi (xs.take i) := costL_nonneg nVi_nn (xs.take i)
  have hc5 : nVi (gd xs i) = 1 + nRS (gd xs i).marker := rfl
  have hc3 : costL nRect (gd xs i).marker.xs = nRS (gd xs i).marker := rfl
  have hc4 : 0 ≤ nRS (gd xs i).marker := nSl_nn (gd xs i).marker
  refine WP.skip (WP.seq (WP.block (WP.seq (WP.sr (RG.p (PV.move (v := v) rfl rfl) (RG.ml rfl (RG.p (PV.idxS (v := v) rfl Is61 rfl (SlF.r h0) rfl rfl (by omega)) (RG.p (PV.field rfl Fo118_0 rfl) (RG.p (PV.loadF rfl Sc2 rfl rfl (El.r h0 (getG (by omega))) rfl) (RG.ml rfl (RG.p (PV.neq rfl rfl rfl) (RG.nil ?_))))))))))))
  refine WP.cond rfl (fun h3 => ?_) (fun h3 => ?_)
  ·simp [gd_mark h2, mkVi, hkk] at h3
  ·refine WP.skip ?_
   refine WP.sr (RG.ml rfl (RG.p (PV.add rfl rfl rfl (by omega)) (RG.mr rfl (RG.nil (WP.sr (RG.p (PV.move (v := v) rfl rfl) (RG.ml rfl (RG.p (PV.idxS (v := v) rfl Is61 rfl (SlF.r h0) rfl rfl (by omega)) (RG.p (PV.field rfl Fo118_1 rfl) (RG.p (PV.loadF rfl Sc50 rfl rfl (El.r h0 (getG (by omega))) rfl) (RG.ml rfl ?_)))))))))))
   refine RG.callF (vs := [_, _]) rfl rfl En25 rfl (heldRectS_s (xs := (gd xs i).marker.xs) (by have := hd i (by rw [mks_len]; omega); rw [mks_gd (by omega), gd_mark h2] at this; rw [gd_mark h2, hkk]; exact this.up) (by omega) (by omega) ?_)
   refine RG.mr rfl (RG.nil (WP.sr (RG.ml rfl (RG.p (PV.lss rfl rfl rfl) (RG.nil ?_)))))
   refine WP.cond rfl (fun h4 => ?_) (fun h4 => ?_)
   ·simp at h4; omega
   ·refine WP.skip ?_
    refine WP.region (RG.ml rfl (RG.p (PV.add rfl rfl rfl (by omega)) (RG.mr rfl (RG.nil ?_))))
    exact ⟨rfl, i + 1, _, ⟨by omega, by rw [hc]; omega⟩, ⟨rfl, rfl, trivial⟩, ⟨rfl, trivial⟩, Cv.p, by omega⟩
 ·have h1 := of_decide_eq_false h1
  have e : kk = k0 + costL nVi xs := by rw [hkk, List.take_of_length_le (by omega)]
  rw [← e] at k
  refine WP.exit ?_
  refine WP.sr (RG.ml rfl (RG.mr rfl (RG.nil ?_)))
  exact WP.ret ⟨_, _, ResV.one rfl rfl, Cv.p, k⟩
def nVe (p : Int × List Rect) : Int := 1 + 4 * (p.2.length : Int)
theorem nVi_er (xs : List Viol) : costL nVi xs = costL nVe (erVs xs) := by
 induction xs with
 | nil => rfl
 | cons z zs ih => simp only [erVs, List.map_cons, costL] at ih ⊢; rw [ih]; simp only [nVi, nVe, nRS, nSl, nRect_cost, erV]
end Go.Proofs.YtgphjofccckloaaGreat
