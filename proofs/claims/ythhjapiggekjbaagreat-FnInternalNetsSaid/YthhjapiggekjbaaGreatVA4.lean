/-
  Contracts of functions and plain facts that the last text of this folder uses, part 4.
-/
import Derived.Test.YthhjapiggekjbaaGreatVA3
import Derived.ProofKit
import Derived.Deep.Slices
import Derived.Carry
import Derived.Shelf.SlSortCmp.NoneTotal
import Derived.Shelf.SlSortCmp.WholeK
import Derived.Test.YthhjapiggekjbaaGreatProg
namespace Go.Proofs.YthhjapiggekjbaaGreat
set_option linter.unusedVariables false
set_option linter.unusedSimpArgs false
open Go
set_option maxRecDepth 20000
set_option linter.unusedSimpArgs false
variable {G : Gh} {L : List Ch} {R : Value → Gh → List Ch → Prop}
theorem flat_mem {cs : List ECell} {os : List EOcc} {i m : Nat} (hi : i < os.length) (hm : m < (gd cs (gd os i).cell.toNat).shapes.length) : (⟨(gd (gd cs (gd os i).cell.toNat).shapes m).layer, moveR (gd os i).place (gd (gd cs (gd os i).cell.toNat).shapes m).box⟩ : Shape) ∈ flatL cs os :=
 List.mem_flatMap.2 ⟨gd os i, gd_mem hi, List.mem_map.2 ⟨_, gd_mem hm, rfl⟩⟩
theorem flat_bad {cs : List ECell} {os : List EOcc} {i m : Nat} (hi : i < os.length) (hm : m < (gd cs (gd os i).cell.toNat).shapes.length) (h : validRect (moveR (gd os i).place (gd (gd cs (gd os i).cell.toNat).shapes m).box) = false) : ((flatL cs os).any fun s => !validRect s.box) = true :=
 List.any_eq_true.2 ⟨_, flat_mem hi hm, by simp [h]⟩
theorem flat_good {cs : List ECell} {os : List EOcc} (h : ∀ i, i < os.length → ∀ m, m < (gd cs (gd os i).cell.toNat).shapes.length → validRect (moveR (gd os i).place (gd (gd cs (gd os i).cell.toNat).shapes m).box) = true) : ((flatL cs os).any fun s => !validRect s.box) = false := by
 rw [List.any_eq_false]
 intro s hs
 obtain ⟨o, ho, hs⟩ := List.mem_flatMap.1 hs
 obtain ⟨i, hi, rfl⟩ := List.getElem_of_mem ho
 obtain ⟨q, hq, rfl⟩ := List.mem_map.1 hs
 obtain ⟨m, hm, rfl⟩ := List.getElem_of_mem hq
 have := h i hi m (by rw [gd_eq hi]; exact hm)
 rw [gd_eq hi, gd_eq hm] at this
 simp [this]
theorem shE_occ {cs : List ECell} {cell : Int} (h : occE cs cell ≠ 0) : shE cs cell = occE cs cell := by rw [shE, decide_eq_false h]; rfl
theorem shE_flat {cs : List ECell} {cell : Int} (h : occE cs cell = 0) : shE cs cell = bif (flatL cs (occR cs cell)).any fun s => !validRect s.box then 2 else 0 := by rw [shE, decide_eq_true h]; rfl
/-- what an occurrence gives -/
structure OccAt (xs : List Cell) (cell : Int) (zs : List Occ) (i : Nat) : Prop where
  hc : 0 ≤ (gd zs i).cell ∧ (gd zs i).cell.toNat < xs.length
  ho : gd (occR (erCls xs) cell) i = erO (gd zs i)
  hi : i < (occR (erCls xs) cell).length
  hp : (0 ≤ (gd zs i).place.o ∧ (gd zs i).place.o ≤ 7) ∧ -1000 ≤ (gd zs i).place.x ∧ (gd zs i).place.x ≤ 1000 ∧ -1000 ≤ (gd zs i).place.y ∧ (gd zs i).place.y ≤ 1000
  hs : (gd (erCls xs) (gd zs i).cell.toNat).shapes = (gd xs (gd zs i).cell.toNat).shapes.xs
  hb : ∀ m, m < (gd xs (gd zs i).cell.toNat).shapes.xs.length → RIn 40 (gd (gd xs (gd zs i).cell.toNat).shapes.xs m).box
  hl : (gd xs (gd zs i).cell.toNat).shapes.xs.length ≤ 24 ∧ (occR (erCls xs) cell).length ≤ 200
theorem OccAt.of {xs : List Cell} {cell : Int} {zs : List Occ} (he : erOs zs = occR (erCls xs) cell) {i : Nat} (hi : i < zs.length) : OccAt xs cell zs i := by
 have hl : zs.length = (occR (erCls xs) cell).length := by rw [← he, erOs_len]
 have ho : gd (occR (erCls xs) cell) i = erO (gd zs i) := by rw [← he, erOs_gd hi]
 obtain ⟨h1, h2, h3, h4⟩ := occR_cell (cs := erCls xs) (cell := cell) (i := i) (by omega)
 rw [ho] at h2 h3
 simp only [erO] at h2 h3
 have hE := erCls_len xs
 obtain ⟨q1, q2, q3⟩ := validT_iff.1 h3
 have hs : (gd (erCls xs) (gd zs i).cell.toNat).shapes = (gd xs (gd zs i).cell.toNat).shapes.xs := by rw [erCls_gd (by omega)]; rfl
 refine ⟨by omega, ho, by omega, by omega, hs, fun m hm => ?_, ?_⟩
 · have := okLib_shape h1 (i := (gd zs i).cell.toNat) (j := m) (by omega) (by rw [hs]; exact hm)
   rw [hs] at this
   simp only [okSh, Bool.and_eq_true] at this
   exact validR_in this.2
 · have := (okLib_cnt h1 (i := (gd zs i).cell.toNat) (by omega)).2
   rw [hs] at this
   exact ⟨this, h4⟩
theorem OccAt.step {xs : List Cell} {cell : Int} {zs : List Occ} {i m : Nat} (h : OccAt xs cell zs i) (hm : m < (gd xs (gd zs i).cell.toNat).shapes.xs.length) :
   (flatOf (erCls xs) (gd (occR (erCls xs) cell) i)).take (m + 1) = (flatOf (erCls xs) (gd (occR (erCls xs) cell) i)).take m ++ [⟨(gd (gd xs (gd zs i).cell.toNat).shapes.xs m).layer, moveR (gd zs i).place (gd (gd xs (gd zs i).cell.toNat).shapes.xs m).box⟩] := by
 have := flatOf_step (cs := erCls xs) (o := gd (occR (erCls xs) cell) i) (k := m) (by rw [h.ho]; simp only [erO]; rw [h.hs]; exact hm)
 rw [this, h.ho]
 simp only [erO, h.hs]
theorem OccAt.len {xs : List Cell} {cell : Int} {zs : List Occ} {i : Nat} (h : OccAt xs cell zs i) : (flatOf (erCls xs) (gd (occR (erCls xs) cell) i)).length = (gd xs (gd zs i).cell.toNat).shapes.xs.length := by
 rw [flatOf_len, h.ho]; simp only [erO, h.hs]
/-- shapes of the occurrences before the i-th are valid -/
def goodTo (cs : List ECell) (os : List EOcc) (i : Nat) : Prop := ∀ j, j < i → ∀ m, m < (gd cs (gd os j).cell.toNat).shapes.length → validRect (moveR (gd os j).place (gd (gd cs (gd os j).cell.toNat).shapes m).box) = true
theorem goodTo.next {xs : List Cell} {cell : Int} {zs : List Occ} {i : Nat} (h : goodTo (erCls xs) (occR (erCls xs) cell) i) (ha : OccAt xs cell zs i) (hm : ∀ m, m < (gd xs (gd zs i).cell.toNat).shapes.xs.length → validRect (moveR (gd zs i).place (gd (gd xs (gd zs i).cell.toNat).shapes.xs m).box) = true) : goodTo (erCls xs) (occR (erCls xs) cell) (i + 1) := by
 intro j hj m hm2
 by_cases c : j = i
 · subst c
   rw [ha.ho] at hm2 ⊢
   simp only [erO, ha.hs] at hm2 ⊢
   exact hm m hm2
 · exact h j (by omega) m hm2
theorem OccAt.bad {xs : List Cell} {cell : Int} {zs : List Occ} {i m : Nat} (ha : OccAt xs cell zs i) (hm : m < (gd xs (gd zs i).cell.toNat).shapes.xs.length) (h : validRect (moveR (gd zs i).place (gd (gd xs (gd zs i).cell.toNat).shapes.xs m).box) = false) : ((flatL (erCls xs) (occR (erCls xs) cell)).any fun s => !validRect s.box) = true := by
 refine flat_bad (i := i) (m := m) ha.hi ?_ ?_
 · rw [ha.ho]; simp only [erO, ha.hs]; exact hm
 · rw [ha.ho]; simp only [erO, ha.hs]; exact h
theorem flat_i {l : Lib} {cell : Int} (hL : RLib G L l.cells.v l.cells.xs) (hlen : lenC (erCls l.cells.xs)) (k : ∀ v', R (.tuple #[v', vi (shE (erCls l.cells.xs) cell)]) G (osl 142 shapeT v' (shR (erCls l.cells.xs) cell) :: L)) : CallT Tryz.prog 45 #[vT libT l, vi cell] G L R := by
 have hE := erCls_len l.cells.xs
 refine CallT.enter (args := _) Tryz.func45 rfl rfl (by kernel_rfl) rfl ?_
 refine WP.seq (WP.region ?_)
 refine RG.ot rfl (OT.box (cs := libT.enc l) rfl rfl rfl fun b2 => ?_)
 refine RG.pv rfl (PV.asg rfl rfl) (RG.mr rfl rfl rfl (RG.nil (WP.seq (WP.region (RG.pv rfl (PV.loadW rfl Ag31 rfl rfl) (RG.ml rfl rfl rfl ?_))))))
 refine RG.callF (vs := [_, _]) rfl rfl En81 rfl (occ_i hL.up hlen (fun w17 zs he => ?_))
 refine RG.pv rfl (PV.move (v := .tuple _) rfl rfl) (RG.pv rfl (PV.ext (v := w17) rfl rfl rfl) (RG.pv rfl (PV.ext rfl rfl rfl) (RG.pv rfl (PV.asg (v := w17) rfl rfl) (RG.mr rfl rfl rfl (RG.nil (WP.seq (WP.seq ?_)))))))
 refine WP.region (RG.ml rfl rfl rfl (RG.pv rfl (PV.neq rfl rfl rfl) (RG.nil ?_)))
 refine WP.cond rfl (fun h1 => ?_) (fun h1 => ?_)
 · have h1 : occE (erCls l.cells.xs) cell ≠ 0 := by simpa using h1
   have e := shE_occ h1
   have e2 : shR (erCls l.cells.xs) cell = [] := shR_no (by rw [e]; exact h1)
   rw [e, e2] at k
   refine WP.seq (WP.region (RG.ml rfl rfl rfl (RG.pv rfl (PV.asg rfl rfl) (RG.mr rfl rfl rfl (RG.nil ?_)))))
   refine WP.ret ?_
   exact ⟨_, _, ResV.two rfl rfl rfl, Cv.p.trans Cv.nilS, k (.slice none 0 0)⟩
 · have h1 : occE (erCls l.cells.xs) cell = 0 := by simpa using h1
   have hse := shE_flat h1
   have hzl : zs.length = (occR (erCls l.cells.xs) cell).length := by rw [← he, erOs_len]
   refine WP.skip (WP.seq (WP.region ?_))
   refine RG.ot rfl (OT.bslice (F := shapeT) (els := []) rfl El83 rfl (by decide) rfl (by decide) trivial fun v23 => ?_)
   refine RG.pv rfl (PV.asg (v := v23) rfl rfl) (RG.nil (WP.seq (WP.seq (WP.region (RG.pv rfl (PV.move (v := w17) rfl rfl) (RG.pv rfl (PV.len (v := w17) rfl Tryz.underlying94 rfl SlF.o) (RG.ml rfl rfl rfl ?_)))))))
   refine RG.nil (WP.block ?_)
   refine WP.bdo w17 fun hbz => ?_
   refine WP.cv (Cv.eqS (ys := flatL (erCls l.cells.xs) ((occR (erCls l.cells.xs) cell).take 0)) rfl) ?_
   refine WP.loop2 [2, 24, 25] (fun (i : Nat) (v : Value) => i ≤ zs.length ∧ goodTo (erCls l.cells.xs) (occR (erCls l.cells.xs) cell) i) (fun (i : Nat) (v : Value) => [(26, vi i), (8, v)]) (fun (i : Nat) (v : Value) => osl 142 shapeT v (flatL (erCls l.cells.xs) ((occR (erCls l.cells.xs) cell).take i)) :: osl 138 occT w17 zs :: bagS 2 intT (pths zs) :: blk b2 31 (libT.enc l) :: L) (fun (i : Nat) (v : Value) => zs.length - i) 0 v23 ⟨by omega, fun j h => by omega⟩ ⟨rfl, rfl, trivial⟩ Cv.p ?_
   rintro i v τ ⟨hi, hg⟩
   refine WP.seq (WP.region (RG.pv rfl (PV.lss rfl rfl rfl) (RG.nil (WP.seq ?_))))
   have hfb := flatL_bd (cs := (erCls l.cells.xs)) (cell := cell) i (by omega)
   refine WP.cond rfl (fun h2 => ?_) (fun h2 => ?_)
   · have h2 := of_decide_eq_true h2
     have h3 : i < zs.length := by omega
     have ha := OccAt.of (cell := cell) he h3
     have hrd : Rs G (bagS 2 intT (pths zs) :: []) intT (gd zs i).path.v (gd zs i).path.xs := RsE.path RsE.o h3
     have hac := ha.hc
     have hal := ha.hl
     have hsl := hL.sa ha.hc.2
     refine WP.skip (WP.seq (WP.block (WP.seq (WP.region (RG.pv rfl (PV.idxS (v := w17) rfl Is94 rfl SlF.o rfl rfl (by omega)) (RG.pv rfl (PV.loadE rfl Ag138 rfl rfl (El.o (getG (by omega)))) ?_))))))
     refine RG.ot rfl (OT.alloc rfl Zr138 fun b10 => ?_)
     refine RG.ot rfl (OT.storeW (vs := [vi _, vi _, vi _, vi _, _]) rfl Sz138 rfl rfl (Cl.c rfl) rfl rfl (OneC.val rfl (OneC.val rfl (OneC.val rfl (OneC.val rfl (OneC.sl (SlF.r hrd) OneC.nil))))) ?_)
     refine RG.nil (WP.seq (WP.region (RG.pv rfl (PV.field rfl Fo31_0 rfl) (RG.pv rfl (PV.load1 rfl Sc29 rfl (Rd.blk rfl)) (RG.pv rfl (PV.field rfl Fo138_0 rfl) (RG.pv rfl (PV.load1 rfl Sc2 rfl (Rd.blk rfl)) (RG.pv rfl (PV.idxS (j := (gd zs i).cell.toNat) rfl Is29 rfl (SlF.r hL.c) rfl (by omega) (by omega)) ?_)))))))
     refine RG.pv rfl (PV.field rfl Fo116_1 rfl) (RG.pv rfl (PV.loadF rfl Sc83 rfl rfl (El.r hL.c (getG (by omega))) rfl) (RG.pv rfl (PV.len rfl Tryz.underlying83 rfl (SlF.r hsl)) (RG.ml rfl rfl rfl (RG.nil (WP.block ?_)))))
     refine WP.cv ((Cv.p (C := osl 142 shapeT v (flatL (erCls l.cells.xs) ((occR (erCls l.cells.xs) cell).take i)) :: osl 138 occT w17 zs :: bagS 2 intT (pths zs) :: blk b2 31 (libT.enc l) :: blk b10 138 (occT.enc (gd zs i)) :: L)).trans (Cv.eqS (ys := flatL (erCls l.cells.xs) ((occR (erCls l.cells.xs) cell).take i) ++ (flatOf (erCls l.cells.xs) (gd (occR (erCls l.cells.xs) cell) i)).take 0) (by simp))) ?_
     refine WP.loop2 [2, 10, 24, 25, 26, 36, 37] (fun (m : Nat) (v : Value) => m ≤ (gd l.cells.xs (gd zs i).cell.toNat).shapes.xs.length ∧ ∀ j, j < m → validRect (moveR (gd zs i).place (gd (gd l.cells.xs (gd zs i).cell.toNat).shapes.xs j).box) = true) (fun (m : Nat) (v : Value) => [(38, vi m), (8, v)]) (fun (m : Nat) (v : Value) => osl 142 shapeT v (flatL (erCls l.cells.xs) ((occR (erCls l.cells.xs) cell).take i) ++ (flatOf (erCls l.cells.xs) (gd (occR (erCls l.cells.xs) cell) i)).take m) :: osl 138 occT w17 zs :: bagS 2 intT (pths zs) :: blk b2 31 (libT.enc l) :: blk b10 138 (occT.enc (gd zs i)) :: L) (fun (m : Nat) (v : Value) => (gd l.cells.xs (gd zs i).cell.toNat).shapes.xs.length - m) 0 v ⟨by omega, fun j h => by omega⟩ ⟨rfl, rfl, trivial⟩ Cv.p ?_
     rintro m v τ ⟨hm, hq⟩
     refine WP.seq (WP.region (RG.pv rfl (PV.lss rfl rfl rfl) (RG.nil (WP.seq ?_))))
     refine WP.cond rfl (fun h4 => ?_) (fun h4 => ?_)
     · have h4 := of_decide_eq_true h4
       have hst := ha.step (m := m) (by omega)
       have hll : (flatL (erCls l.cells.xs) ((occR (erCls l.cells.xs) cell).take i) ++ (flatOf (erCls l.cells.xs) (gd (occR (erCls l.cells.xs) cell) i)).take m).length ≤ 6000 := by rw [List.length_append, List.length_take]; omega
       refine WP.skip (WP.seq (WP.block (WP.seq (WP.region (RG.pv rfl (PV.idxS rfl Is83 rfl (SlF.r hsl) rfl rfl (by omega)) (RG.pv rfl (PV.loadE rfl Ag142 rfl rfl (El.r hsl (getG (by omega)))) ?_))))))
       refine RG.ot rfl (OT.alloc rfl Zr142 fun b12 => ?_)
       refine RG.ot rfl (OT.storeW (vs := [vi _, vi _, vi _, vi _, vi _]) rfl Sz142 rfl rfl (Cl.c rfl) rfl rfl (OneC.c rfl) ?_)
       refine RG.nil (WP.seq (WP.region (RG.pv rfl (PV.field rfl Fo138_1 rfl) (RG.pv rfl (PV.loadB (vs := [_, _, _]) rfl Ag136 rfl rfl rfl) (RG.pv rfl (PV.field rfl Fo142_1 rfl) (RG.pv rfl (PV.loadB (vs := [_, _, _, _]) rfl Ag140 rfl rfl rfl) ?_))))))
       refine RG.callF (vs := [_, _]) rfl rfl En82 rfl (moveRect_s ha.hp.1 ha.hp.2 (ha.hb m (by omega)) ?_)
       refine RG.ot rfl (OT.alloc rfl Zr140 fun b13 => ?_)
       refine RG.ot rfl (OT.storeW (vs := [vi _, vi _, vi _, vi _]) rfl Sz140 rfl rfl (Cl.c rfl) rfl rfl (OneC.c rfl) ?_)
       refine RG.nil (WP.seq (WP.seq (WP.region (RG.pv rfl (PV.loadW rfl Ag140 rfl rfl) ?_))))
       refine RG.callF (vs := [_]) rfl rfl En83 rfl (validRect_s ?_)
       refine RG.pv rfl (PV.not rfl rfl) (RG.nil ?_)
       refine WP.cond rfl (fun h5 => ?_) (fun h5 => ?_)
       · have e : shE (erCls l.cells.xs) cell = 2 := by rw [hse, ha.bad (m := m) (by omega) (by simpa using h5)]; rfl
         have e2 : shR (erCls l.cells.xs) cell = [] := shR_no (by rw [e]; decide)
         rw [e, e2] at k
         refine WP.seq (WP.region (RG.pv rfl (PV.asg rfl rfl) (RG.mr rfl rfl rfl (RG.nil ?_))))
         refine WP.ret ?_
         exact ⟨_, _, ResV.two rfl rfl rfl, Cv.p.trans Cv.nilS, k (.slice none 0 0)⟩
       · have hq' : ∀ j, j < m + 1 → validRect (moveR (gd zs i).place (gd (gd l.cells.xs (gd zs i).cell.toNat).shapes.xs j).box) = true := fun j h => by
           by_cases c : j = m
           · rw [c]; simpa using h5
           · exact hq j (by omega)
         refine WP.skip (WP.region (RG.pv rfl (PV.move (v := v) rfl rfl) (RG.pv rfl (PV.field rfl Fo142_0 rfl) (RG.pv rfl (PV.load1 rfl Sc2 rfl (Rd.blk rfl)) (RG.pv rfl (PV.loadW rfl Ag140 rfl rfl) (RG.pv rfl (PV.build (vs := [(0, [vi _]), (1, [vi _, vi _, vi _, vi _])]) (out := [_, _, _, _, _]) rfl Zr142 Pl142 ⟨rfl, (Cl.c rfl), ⟨rfl, (Cl.c rfl), trivial⟩⟩ rfl) ?_))))))
         refine RG.ot rfl (OT.bslice (F := shapeT) (els := [⟨(gd (gd l.cells.xs (gd zs i).cell.toNat).shapes.xs m).layer, moveR (gd zs i).place (gd (gd l.cells.xs (gd zs i).cell.toNat).shapes.xs m).box⟩]) rfl El83 rfl (by decide) rfl (by decide) ⟨rfl, (Cl.c rfl), trivial⟩ fun v55 => ?_)
         refine RG.ot rfl (OT.append (v := v) (u := v55) (F := shapeT) rfl El83 rfl (by decide) rfl rfl Rs.o (OneL.c (fun _ => rfl)) rfl (by first | omega | (simp <;> omega)) fun v56 => ?_)
         refine RG.pv rfl (PV.asg (v := v56) rfl rfl) (RG.nil (WP.region (RG.pv rfl (PV.add rfl rfl rfl (by omega)) (RG.ml rfl rfl rfl (RG.nil ?_)))))
         exact ⟨rfl, m + 1, v56, ⟨by omega, hq'⟩, ⟨rfl, rfl, trivial⟩, ⟨rfl, rfl, rfl, rfl, rfl, rfl, rfl, trivial⟩, ((Cv.p (C := osl 142 shapeT v56 (flatL (erCls l.cells.xs) ((occR (erCls l.cells.xs) cell).take i) ++ (flatOf (erCls l.cells.xs) (gd (occR (erCls l.cells.xs) cell) i)).take m ++ [⟨(gd (gd l.cells.xs (gd zs i).cell.toNat).shapes.xs m).layer, moveR (gd zs i).place (gd (gd l.cells.xs (gd zs i).cell.toNat).shapes.xs m).box⟩]) :: osl 138 occT w17 zs :: bagS 2 intT (pths zs) :: blk b2 31 (libT.enc l) :: blk b10 138 (occT.enc (gd zs i)) :: L)).trans (Cv.eqS (by rw [List.append_assoc, ← hst]))), by omega⟩
     · have h4 := of_decide_eq_false h4
       have e : flatL (erCls l.cells.xs) ((occR (erCls l.cells.xs) cell).take i) ++ (flatOf (erCls l.cells.xs) (gd (occR (erCls l.cells.xs) cell) i)).take m = flatL (erCls l.cells.xs) ((occR (erCls l.cells.xs) cell).take (i + 1)) := by rw [List.take_of_length_le (i := m) (l := flatOf (erCls l.cells.xs) (gd (occR (erCls l.cells.xs) cell) i)) (by rw [ha.len]; omega), flatL_take ha.hi]
       refine WP.exit ?_
       refine WP.region (RG.pv rfl (PV.add rfl rfl rfl (by omega)) (RG.ml rfl rfl rfl (RG.nil ?_)))
       exact ⟨rfl, i + 1, v, ⟨by omega, hg.next ha (fun j h => hq j (by omega))⟩, ⟨rfl, rfl, trivial⟩, ⟨rfl, rfl, rfl, trivial⟩, ((Cv.eqS e).trans Cv.p), by omega⟩
   · have h2 := of_decide_eq_false h2
     have e : shE (erCls l.cells.xs) cell = 0 := by rw [hse, flat_good (fun j h => hg j (by omega))]; rfl
     have e2 : shR (erCls l.cells.xs) cell = flatL (erCls l.cells.xs) ((occR (erCls l.cells.xs) cell).take i) := by rw [shR_ok e, List.take_of_length_le (by omega)]
     rw [e, e2] at k
     refine WP.exit ?_
     refine WP.seq (WP.region (RG.pv rfl (PV.move (v := v) rfl rfl) (RG.pv rfl (PV.asg (v := v) rfl rfl) (RG.mr rfl rfl rfl (RG.nil ?_)))))
     refine WP.ret ?_
     exact ⟨_, _, ResV.two rfl rfl rfl, Cv.p, k v⟩
def layTo (ss : List Shape) (n : Nat) : List (List Rect) := (List.range n).map fun l => canon (bits (boxesOf ss l))
theorem layTo_next {ss : List Shape} {n : Nat} {zs : List (Sl Rect)} {u : Value} (h : er zs = layTo ss n) : er (zs ++ [⟨u, canon (bits (boxesOf ss n))⟩]) = layTo ss (n + 1) := by
 have e : er (zs ++ [(⟨u, canon (bits (boxesOf ss n))⟩ : Sl Rect)]) = er zs ++ [canon (bits (boxesOf ss n))] := by simp [er]
 rw [e, h, layTo, layTo, List.range_succ, List.map_append]; rfl
theorem layTo_len {ss : List Shape} {n : Nat} {zs : List (Sl Rect)} (h : er zs = layTo ss n) : zs.length = n := by
 have := congrArg List.length h; simpa [er, layTo] using this
theorem any_boxes {ss : List Shape} {i n y x : Nat} (h : i < ss.length) : ((boxesOf (ss.take (i + 1)) n).any fun r => inR r y x) = (((boxesOf (ss.take i) n).any fun r => inR r y x) || (decide ((gd ss i).layer = (n : Int)) && inR (gd ss i).box y x)) := by
 rw [boxesOf_step h, List.any_append]
 by_cases e : (gd ss i).layer = (n : Int) <;> simp [e]
theorem layers_i {v : Value} {ss : List Shape} (h1 : Rs G L shapeT v ss) (k : ∀ v' ys, er ys = layL ss → R v' G (osl 50 slT v' ys :: bagS 140 rectT ys :: L)) : CallT Tryz.prog 46 #[v] G L R := by
 refine CallT.bd h1 fun hb => ?_
 refine CallT.enter (args := _) Tryz.func46 rfl rfl (by kernel_rfl) rfl ?_
 refine WP.seq (WP.region (RG.pv rfl (PV.asg rfl rfl) (RG.nil (WP.seq (WP.region ?_)))))
 refine RG.ot rfl (OT.bslice (F := (slT (α := Rect))) (els := []) rfl El47 rfl (by decide) rfl (by decide) trivial fun v8 => ?_)
 refine RG.pv rfl (PV.asg (v := v8) rfl rfl) (RG.nil (WP.seq (WP.seq (WP.region (RG.ml rfl rfl rfl (RG.nil (WP.block ?_)))))))
 refine WP.cv (Cv.cons (Cv.bag0 (e := 140) (F := rectT) (xs := []) rfl)) ?_
 refine WP.loop3 [0] (fun (n : Nat) (vo : Value) (zs : List (Sl Rect)) => n ≤ 8 ∧ er zs = layTo ss n) (fun (n : Nat) (vo : Value) (zs : List (Sl Rect)) => [(9, vi n), (3, vo)]) (fun (n : Nat) (vo : Value) (zs : List (Sl Rect)) => osl 50 slT vo zs :: bagS 140 rectT zs :: L) (fun (n : Nat) (vo : Value) (zs : List (Sl Rect)) => 8 - n) 0 v8 [] ⟨by omega, rfl⟩ ⟨rfl, rfl, trivial⟩ Cv.p ?_
 rintro n vo zs τ ⟨hn, hz⟩
 refine WP.seq (WP.region (RG.pv rfl (PV.lss rfl rfl rfl) (RG.nil (WP.seq ?_))))
 have hzl := layTo_len hz
 refine WP.cond rfl (fun h2 => ?_) (fun h2 => ?_)
 · have h2 := of_decide_eq_true h2
   refine WP.skip (WP.seq (WP.block (WP.seq (WP.region (RG.ml rfl rfl rfl (RG.mr rfl rfl rfl (RG.nil ?_)))))))
   refine WP.seq (WP.region (RG.pv rfl (PV.build0 rfl Tryz.underlying148 ⟨80, by kernel_rfl⟩ (zeroB_spec (n := 6400) (by kernel_rfl))) ?_))
   refine RG.ot rfl (OT.boxG rfl rfl fun b13 => ?_)
   refine RG.pv rfl (PV.mvP (.inr rfl) rfl) (RG.nil (WP.seq (WP.seq (WP.region (RG.pv rfl (PV.move (v := v) rfl rfl) (RG.pv rfl (PV.len (v := v) rfl Tryz.underlying83 rfl (SlF.r h1)) (RG.ml rfl rfl rfl ?_)))))))
   refine RG.nil (WP.block ?_)
   refine WP.loop2 [0, 3, 4, 5, 9, 14, 15] (fun (i : Nat) (cs : List Bool) => i ≤ ss.length ∧ cs.length = 6400 ∧ ∀ y x, y < 80 → x < 80 → gb cs y x = (boxesOf (ss.take i) n).any fun r => inR r y x) (fun (i : Nat) (cs : List Bool) => [(16, vi i)]) (fun (i : Nat) (cs : List Bool) => grd b13 cs :: osl 50 slT vo zs :: bagS 140 rectT zs :: L) (fun (i : Nat) (cs : List Bool) => ss.length - i) 0 (List.replicate 6400 false) ⟨by omega, by simp, fun y x _ _ => by rw [gb_rep]; simp [boxesOf]⟩ ⟨rfl, trivial⟩ Cv.p ?_
   rintro i cs τ1 ⟨hi, hl, hc⟩
   refine WP.seq (WP.region (RG.pv rfl (PV.lss rfl rfl rfl) (RG.nil (WP.seq ?_))))
   refine WP.cond rfl (fun h3 => ?_) (fun h3 => ?_)
   · have h3 := of_decide_eq_true h3
     have h4 : i < ss.length := by omega
     refine WP.skip (WP.seq (WP.block (WP.seq (WP.region (RG.pv rfl (PV.idxS (v := v) rfl Is83 rfl (SlF.r h1) rfl rfl (by omega)) (RG.pv rfl (PV.loadE rfl Ag142 rfl rfl (El.r h1 (getG (by omega)))) ?_))))))
     refine RG.ot rfl (OT.alloc rfl Zr142 fun b7 => ?_)
     refine RG.ot rfl (OT.storeW (vs := [vi _, vi _, vi _, vi _, vi _]) rfl Sz142 rfl rfl (Cl.c rfl) rfl rfl (OneC.c rfl) ?_)
     refine RG.nil (WP.seq (WP.region (RG.pv rfl (PV.field rfl Fo142_0 rfl) (RG.pv rfl (PV.load1 rfl Sc2 rfl (Rd.blk rfl)) (RG.ml rfl rfl rfl (RG.pv rfl (PV.eql rfl rfl rfl) (RG.nil ?_)))))))
     refine WP.cond rfl (fun h5 => ?_) (fun h5 => ?_)
     · have h5 := of_decide_eq_true h5
       refine WP.region (RG.pv rfl (PV.mvP (.inl rfl) rfl) (RG.pv rfl (PV.field rfl Fo142_1 rfl) (RG.pv rfl (PV.loadB (vs := [_, _, _, _]) rfl Ag140 rfl rfl rfl) ?_)))
       refine RG.callF (vs := [(.pointer (some ⟨b13, 0, none⟩)), _]) rfl rfl En84 rfl (CallT.exB (put_s (by assumption) (fun bs' hb' hg' => ?_)))
       refine RG.nil (WP.region (RG.pv rfl (PV.add rfl rfl rfl (by omega)) (RG.ml rfl rfl rfl (RG.nil ?_))))
       refine ⟨rfl, i + 1, bs', ⟨by omega, hb', fun y x h6 h7 => ?_⟩, ⟨rfl, trivial⟩, ⟨rfl, rfl, rfl, rfl, rfl, rfl, rfl, trivial⟩, Cv.p, by omega⟩
       rw [hg' y x h6 h7, hc y x h6 h7, any_boxes h4, decide_eq_true h5, Bool.true_and]
     · have h5 := of_decide_eq_false h5
       refine WP.skip (WP.region (RG.pv rfl (PV.add rfl rfl rfl (by omega)) (RG.ml rfl rfl rfl (RG.nil ?_))))
       refine ⟨rfl, i + 1, cs, ⟨by omega, hl, fun y x h6 h7 => ?_⟩, ⟨rfl, trivial⟩, ⟨rfl, rfl, rfl, rfl, rfl, rfl, rfl, trivial⟩, Cv.p, by omega⟩
       rw [hc y x h6 h7, any_boxes h4, decide_eq_false h5, Bool.false_and, Bool.or_false]
   · have h3 := of_decide_eq_false h3
     have e : cs = bits (boxesOf ss n) := bits_eq hl fun y x h6 h7 => by rw [hc y x h6 h7, List.take_of_length_le (by omega)]
     subst e
     refine WP.exit ?_
     refine WP.region (RG.pv rfl (PV.move (v := vo) rfl rfl) (RG.pv rfl (PV.mvP (.inl rfl) rfl) ?_))
     refine RG.callF (vs := [(.pointer (some ⟨b13, 0, none⟩))]) rfl rfl En85 rfl (CallT.exB (region_s (bits_length _) (fun v31 => ?_)))
     refine RG.ot rfl (OT.bslice (F := (slT (α := Rect))) (els := [⟨v31, canon (bits (boxesOf ss n))⟩]) rfl El47 rfl (by decide) rfl (by decide) ⟨rfl, (Cl.s (v := v31) SlF.o), trivial⟩ fun v32 => ?_)
     refine RG.ot rfl (OT.append (v := vo) (u := v32) (F := (slT (α := Rect))) rfl El47 rfl (by decide) rfl rfl Rs.o (OneL.one (a := (⟨v31, canon (bits (boxesOf ss n))⟩ : Sl Rect)) (OneC.sl SlF.o OneC.nil)) rfl (by first | omega | (simp <;> omega)) fun v33 => ?_)
     refine RG.pv rfl (PV.asg (v := v33) rfl rfl) (RG.nil (WP.region (RG.pv rfl (PV.add rfl rfl rfl (by omega)) (RG.ml rfl rfl rfl (RG.nil ?_)))))
     exact ⟨rfl, n + 1, v33, (zs ++ [⟨v31, canon (bits (boxesOf ss n))⟩]), ⟨by omega, layTo_next hz⟩, ⟨rfl, rfl, trivial⟩, ⟨rfl, trivial⟩, ((Cv.p (C := osl 140 rectT v31 (canon (bits (boxesOf ss n))) :: osl 50 slT v33 (zs ++ [⟨v31, canon (bits (boxesOf ss n))⟩]) :: bagS 140 rectT zs :: L)).trans Cv.slotNew), by omega⟩
 · have h2 := of_decide_eq_false h2
   obtain rfl : n = 8 := by omega
   refine WP.exit ?_
   refine WP.seq (WP.region (RG.pv rfl (PV.move (v := vo) rfl rfl) (RG.pv rfl (PV.asg (v := vo) rfl rfl) (RG.nil ?_))))
   refine WP.ret ?_
   exact ⟨_, _, ResV.one rfl rfl, Cv.p, k vo zs hz⟩
def flyL (cs : List ECell) (cell : Int) : List (List Rect) := bif decide (shE cs cell = 0) then layL (shR cs cell) else []
theorem Cv.nilSS {M : List Ch} {e e' : TypeId} [p : PickC L M] : Cv M (osl e slT (.slice none 0 0) ([] : List (Sl Rect)) :: bagS e' rectT [] :: L) := (Cv.pick p.pick).trans ((Cv.bag0 (xs := []) rfl).trans Cv.nilS)
theorem fly_i {l : Lib} {cell : Int} (hL : RLib G L l.cells.v l.cells.xs) (hlen : lenC (erCls l.cells.xs)) (k : ∀ v' ys, er ys = flyL (erCls l.cells.xs) cell → R (.tuple #[v', vi (shE (erCls l.cells.xs) cell)]) G (osl 50 slT v' ys :: bagS 140 rectT ys :: L)) : CallT Tryz.prog 22 #[vT libT l, vi cell] G L R := by
 refine CallT.enter (args := _) Tryz.func22 rfl rfl (by kernel_rfl) rfl ?_
 refine WP.seq (WP.region ?_)
 refine RG.ot rfl (OT.box (cs := libT.enc l) rfl rfl rfl fun b2 => ?_)
 refine RG.pv rfl (PV.asg rfl rfl) (RG.mr rfl rfl rfl (RG.nil (WP.seq (WP.region (RG.pv rfl (PV.loadW rfl Ag31 rfl rfl) (RG.ml rfl rfl rfl ?_))))))
 refine RG.callF (vs := [_, _]) rfl rfl En45 rfl (flat_i hL.up hlen (fun w11 => ?_))
 refine RG.pv rfl (PV.move (v := .tuple _) rfl rfl) (RG.pv rfl (PV.ext (v := w11) rfl rfl rfl) (RG.pv rfl (PV.ext rfl rfl rfl) (RG.pv rfl (PV.asg (v := w11) rfl rfl) (RG.mr rfl rfl rfl (RG.nil (WP.seq (WP.seq ?_)))))))
 refine WP.region (RG.ml rfl rfl rfl (RG.pv rfl (PV.neq rfl rfl rfl) (RG.nil ?_)))
 refine WP.cond rfl (fun h1 => ?_) (fun h1 => ?_)
 · have h1 : shE (erCls l.cells.xs) cell ≠ 0 := by simpa using h1
   refine WP.seq (WP.region (RG.ml rfl rfl rfl (RG.pv rfl (PV.asg rfl rfl) (RG.mr rfl rfl rfl (RG.nil ?_)))))
   refine WP.ret ?_
   exact ⟨_, _, ResV.two rfl rfl rfl, Cv.nilSS, k _ [] (by rw [flyL, decide_eq_false h1]; rfl)⟩
 · have h1 : shE (erCls l.cells.xs) cell = 0 := by simpa using h1
   have ef : flyL (erCls l.cells.xs) cell = layL (shR (erCls l.cells.xs) cell) := by rw [flyL, decide_eq_true h1]; rfl
   rw [h1] at k
   refine WP.skip (WP.seq (WP.region (RG.pv rfl (PV.move (v := w11) rfl rfl) ?_)))
   refine RG.callF (vs := [w11]) rfl rfl En46 rfl (layers_i Rs.o (fun w8 ys he => ?_))
   refine RG.pv rfl (PV.asg rfl rfl) (RG.mr rfl rfl rfl (RG.nil ?_))
   refine WP.ret ?_
   exact ⟨_, _, ResV.two rfl rfl rfl, Cv.p, k w8 ys (by rw [he, ef])⟩
end Go.Proofs.YthhjapiggekjbaaGreat
namespace Go.Proofs.YthhjapiggekjbaaGreat
set_option linter.unusedVariables false
set_option linter.unusedSimpArgs false
open Go
set_option maxRecDepth 20000
set_option linter.unusedSimpArgs false
variable {G : Gh} {L : List Ch} {R : Value → Gh → List Ch → Prop}
theorem OccAt.root {xs : List Cell} {cell : Int} {zs : List Occ} {i m : Nat} (h : OccAt xs cell zs i) (hm : m < (gd xs (gd zs i).cell.toNat).shapes.xs.length) :
   (rootL (erCls xs) ((occR (erCls xs) cell).take i) ++ (rootAt (erCls xs) (gd (occR (erCls xs) cell) i)).take m).length < (flatL (erCls xs) (occR (erCls xs) cell)).length ∧ (rootAt (erCls xs) (gd (occR (erCls xs) cell) i)).take (m + 1) = (rootAt (erCls xs) (gd (occR (erCls xs) cell) i)).take m ++ [⟨rootOf (erO (gd zs i)), gd (flatL (erCls xs) (occR (erCls xs) cell)) (rootL (erCls xs) ((occR (erCls xs) cell).take i) ++ (rootAt (erCls xs) (gd (occR (erCls xs) cell) i)).take m).length⟩] := by
 have := rootAt_step (cs := erCls xs) (os := occR (erCls xs) cell) (i := i) (k := m) h.hi (by rw [h.ho]; simp only [erO, h.hs]; exact hm)
 refine ⟨this.1, ?_⟩
 rw [this.2, ← h.ho]
theorem elN_ns {xs : List Cell} {cell : Int} (hc : cell.toNat < xs.length) : elN (erCls xs) cell = (elems (gd xs cell.toNat).insts.xs).length := by rw [elN, erCl_insts hc]
end Go.Proofs.YthhjapiggekjbaaGreat
namespace Go.Proofs.YthhjapiggekjbaaGreat
set_option linter.unusedVariables false
set_option linter.unusedSimpArgs false
open Go
set_option maxRecDepth 20000
set_option maxHeartbeats 1000000
set_option linter.unusedSimpArgs false
variable {G : Gh} {L : List Ch} {R : Value → Gh → List Ch → Prop}
/-- what is known where an element is asked for -/
structure AtEl (xs : List Cell) (cell n : Int) : Prop where
  hz : shE (erCls xs) cell = 0
  hn : 0 ≤ n ∧ n < elN (erCls xs) cell
theorem AtEl.lib {xs : List Cell} {cell n : Int} (h : AtEl xs cell n) : okLib (erCls xs) = true ∧ 0 ≤ cell ∧ cell.toNat < xs.length := by
 have := shE_lib h.hz
 rw [erCls_len] at this
 exact ⟨this.1, by omega, by omega⟩
theorem AtEl.lt {xs : List Cell} {cell n : Int} (h : AtEl xs cell n) : n.toNat < (elems (gd xs cell.toNat).insts.xs).length := by
 have := h.hn
 rw [elN_ns h.lib.2.2] at this
 omega
end Go.Proofs.YthhjapiggekjbaaGreat
namespace Go.Proofs.YthhjapiggekjbaaGreat
set_option linter.unusedVariables false
set_option linter.unusedSimpArgs false
open Go
set_option maxRecDepth 20000
set_option maxHeartbeats 1000000
set_option linter.unusedSimpArgs false
variable {G : Gh} {L : List Ch} {R : Value → Gh → List Ch → Prop}
theorem AtEl.of {xs : List Cell} {cell n : Int} (hz : shE (erCls xs) cell = 0) (h : within n 0 ((elN (erCls xs) cell : Int) - 1) = true) : AtEl xs cell n := by
 simp only [within, Bool.and_eq_true, decide_eq_true_eq] at h
 exact ⟨hz, by omega, by omega⟩
end Go.Proofs.YthhjapiggekjbaaGreat
namespace Go.Proofs.YthhjapiggekjbaaGreat
set_option linter.unusedVariables false
set_option linter.unusedSimpArgs false
open Go
set_option maxRecDepth 20000
set_option maxHeartbeats 1000000
set_option linter.unusedSimpArgs false
variable {G : Gh} {L : List Ch} {R : Value → Gh → List Ch → Prop}
theorem layL_len (ss : List Shape) : (layL ss).length = 8 := by simp [layL]
end Go.Proofs.YthhjapiggekjbaaGreat
namespace Go.Proofs.YthhjapiggekjbaaGreat
set_option linter.unusedVariables false
set_option linter.unusedSimpArgs false
open Go
set_option maxRecDepth 20000
set_option linter.unusedSimpArgs false
variable {G : Gh} {L : List Ch} {R : Value → Gh → List Ch → Prop}
/-- only what lies in memory matters -/
theorem Cv.flat {α : Type} {e : TypeId} {F : FT α} {v : Value} {xs ys : List α} {L : List Ch} (h : F.flat xs = F.flat ys) (hl : xs.length = ys.length) : Cv (osl e F v xs :: L) (osl e F v ys :: L) :=
 Cv.imp fun hp hc => by
   rcases hc with ⟨rfl, rfl⟩ | ⟨b, cap, c, h1, h2, h3, h4, h5, h6⟩
   · exact .inl ⟨rfl, List.eq_nil_of_length_eq_zero (by simpa using hl.symm)⟩
   · exact .inr ⟨b, cap, c, by rw [← hl]; exact h1, h2, by rw [← hl]; exact h3, h4, h5, by rw [← hl, ← h]; exact h6⟩
theorem pcE_len (l : List (List Rect)) : (pcE l).length ≤ 25600 := by
 unfold pcE
 cases isLay l
 · simp
 · have := pcL_len l 4
   simp only [cond_true, List.length_map]; omega
end Go.Proofs.YthhjapiggekjbaaGreat
namespace Go.Proofs.YthhjapiggekjbaaGreat
set_option linter.unusedVariables false
set_option linter.unusedSimpArgs false
open Go
set_option maxRecDepth 20000
set_option maxHeartbeats 1000000
set_option linter.unusedSimpArgs false
variable {G : Gh} {L : List Ch} {R : Value → Gh → List Ch → Prop}
theorem isLay_layL (ss : List Shape) : isLay (layL ss) = true := by
 have h : ∀ i, i < (layL ss).length → isReg (gd (layL ss) i) = true := fun i hi => by
   rw [layL_len] at hi
   rw [layL, gd_map _ (by simpa using hi), range_gd hi]
   exact isReg_canon (bits_length _)
 rw [isLay_all h, layL_len]; rfl
/-- the pieces of a cell without its instances -/
noncomputable def ownP (cs : List ECell) (cell : Int) : List (Int × List Rect) := bif hasCl cs cell then pcE (layL (gd cs cell.toNat).shapes) else []
end Go.Proofs.YthhjapiggekjbaaGreat
namespace Go.Proofs.YthhjapiggekjbaaGreat
set_option linter.unusedVariables false
set_option linter.unusedSimpArgs false
open Go
set_option maxRecDepth 20000
set_option maxHeartbeats 1000000
set_option linter.unusedSimpArgs false
variable {G : Gh} {L : List Ch} {R : Value → Gh → List Ch → Prop}
def mvI (t : Trans) (xs : List Rect) : List Rect := bif mvOk t xs then canon (bits (xs.map (moveR t))) else []
theorem mvI_no {t : Trans} {xs : List Rect} (h : mvOk t xs = false) : mvI t xs = [] := by rw [mvI, h]; rfl
theorem mvI_ok {t : Trans} {xs : List Rect} (h : mvOk t xs = true) : mvI t xs = canon (bits (xs.map (moveR t))) := by rw [mvI, h]; rfl
theorem mvTo_any {t : Trans} {xs : List Rect} {i y x : Nat} (h : i < xs.length) : (((xs.map (moveR t)).take (i + 1)).any fun r => inR r y x) = ((((xs.map (moveR t)).take i).any fun r => inR r y x) || inR (moveR t (gd xs i)) y x) := by
 rw [List.take_add_one, getG (by simpa using h), gd_map _ h, List.any_append]
 simp
theorem movedOk_no {t : Trans} {xs : List Rect} {i : Nat} (h : i < xs.length) (e : validRect (moveR t (gd xs i)) = false) : movedOk t xs = false := by
 rw [movedOk, List.all_eq_false]
 exact ⟨gd xs i, gd_mem h, by simpa using e⟩
theorem movedOk_yes {t : Trans} {xs : List Rect} (h : ∀ j, j < xs.length → validRect (moveR t (gd xs j)) = true) : movedOk t xs = true := by
 rw [movedOk, List.all_eq_true]
 intro r hr
 obtain ⟨j, hj, rfl⟩ := List.getElem_of_mem hr
 have := h j hj
 rwa [gd_eq hj] at this
theorem mvReg_i {t : Trans} {v : Value} {xs : List Rect} (h1 : Rs G L rectT v xs) (k : ∀ v', R (.tuple #[v', .bool (mvOk t xs)]) G (osl 140 rectT v' (mvI t xs) :: L)) : CallT Tryz.prog 86 #[vtrans t, v] G L R := by
 refine CallT.bd h1 fun hbd => ?_
 refine CallT.enter (args := _) Tryz.func86 rfl rfl (by kernel_rfl) rfl ?_
 refine WP.seq (WP.region ?_)
 refine RG.ot rfl (OT.box (cs := transT.enc t) rfl rfl rfl fun b2 => ?_)
 refine RG.pv rfl (PV.asg rfl rfl) (RG.br rfl rfl rfl (RG.nil (WP.seq (WP.seq (WP.region (RG.pv rfl (PV.loadW rfl Ag136 rfl rfl) ?_))))))
 refine RG.callF (vs := [_]) rfl rfl En134 rfl (validT_i ?_)
 refine RG.pv rfl (PV.not rfl rfl) (RG.bl rfl rfl rfl ?_)
 refine RG.gs rfl rfl rfl (fun hp => (PV.move (v := v) rfl rfl)) ?_
 refine RG.gsC rfl rfl rfl rfl En91 (fun hp => ⟨_, (acons (gs_t hp) anil), isRegion_s (Rs.up h1) ⟨rfl, rfl, rfl⟩⟩) ?_
 refine RG.gs rfl rfl rfl (fun hp => (PV.not rfl (gs_t hp))) ?_
 refine RG.pv rfl (PV.pickO rfl rfl rfl (fun hq => gs_t (geqF hq))) (RG.nil ?_)
 refine WP.cond rfl (fun h2 => ?_) (fun h2 => ?_)
 · have h3 : (validT t && isReg xs) = false := by
     cases h4 : validT t <;> cases h5 : isReg xs <;> simp_all
   have e1 : mvOk t xs = false := by rw [mvOk, h3]; rfl
   have e2 := mvI_no e1
   rw [e1, e2] at k
   refine WP.seq (WP.region (RG.pv rfl (PV.asg rfl rfl) (RG.br rfl rfl rfl (RG.nil ?_))))
   refine WP.ret ?_
   exact ⟨_, _, ResV.two rfl rfl rfl, (Cv.p (C := L)).trans Cv.nilS, k (.slice none 0 0)⟩
 · have h3 : validT t = true ∧ isReg xs = true := by
     cases h4 : validT t <;> cases h5 : isReg xs <;> simp_all
   have e0 : mvOk t xs = movedOk t xs := by rw [mvOk, h3.1, h3.2]; rfl
   obtain ⟨hto, hx, hy⟩ := validT_iff.1 h3.1
   have hri := RIn_all h3.2
   refine WP.skip (WP.seq (WP.region (RG.pv rfl (PV.build0 rfl Tryz.underlying148 ⟨80, by kernel_rfl⟩ (zeroB_spec (n := 6400) (by kernel_rfl))) ?_)))
   refine RG.ot rfl (OT.boxG rfl rfl fun b19 => ?_)
   refine RG.pv rfl (PV.mvP (.inr rfl) rfl) (RG.nil (WP.seq (WP.seq (WP.region (RG.pv rfl (PV.move (v := v) rfl rfl) (RG.pv rfl (PV.len (v := v) rfl Tryz.underlying50 rfl (SlF.r h1)) (RG.ml rfl rfl rfl ?_)))))))
   refine RG.nil (WP.block ?_)
   refine WP.loop2 [2, 6, 20, 21] (fun (i : Nat) (cs : List Bool) => i ≤ xs.length ∧ cs.length = 6400 ∧ (∀ j, j < i → validRect (moveR t (gd xs j)) = true) ∧ ∀ y x, y < 80 → x < 80 → gb cs y x = ((xs.map (moveR t)).take i).any fun r => inR r y x) (fun (i : Nat) (cs : List Bool) => [(22, vi i)]) (fun (i : Nat) (cs : List Bool) => grd b19 cs :: blk b2 136 (transT.enc t) :: L) (fun (i : Nat) (cs : List Bool) => xs.length - i) 0 (List.replicate 6400 false) ⟨by omega, by simp, fun j h => by omega, fun y x _ _ => by rw [gb_rep]; simp⟩ ⟨rfl, trivial⟩ Cv.p ?_
   rintro i cs τ ⟨hi, hl, hj, hc⟩
   refine WP.seq (WP.region (RG.pv rfl (PV.lss rfl rfl rfl) (RG.nil (WP.seq ?_))))
   refine WP.cond rfl (fun h4 => ?_) (fun h4 => ?_)
   · have h4 := of_decide_eq_true h4
     have h5 : i < xs.length := by omega
     refine WP.skip (WP.seq (WP.block (WP.seq (WP.region (RG.pv rfl (PV.idxS (v := v) rfl Is50 rfl (SlF.r h1) rfl rfl (by omega)) (RG.pv rfl (PV.loadE rfl Ag140 rfl rfl (El.r h1 (getG (by omega)))) ?_))))))
     refine RG.ot rfl (OT.alloc rfl Zr140 fun b8 => ?_)
     refine RG.ot rfl (OT.storeW (vs := [vi _, vi _, vi _, vi _]) rfl Sz140 rfl rfl (Cl.c rfl) rfl rfl (OneC.c rfl) ?_)
     refine RG.nil (WP.seq (WP.region (RG.pv rfl (PV.loadW rfl Ag136 rfl rfl) (RG.pv rfl (PV.loadW rfl Ag140 rfl rfl) ?_))))
     refine RG.callF (vs := [_, _]) rfl rfl En82 rfl (moveRect_s hto (by omega) (RIn_gd hri (by omega)) ?_)
     refine RG.ot rfl (OT.alloc rfl Zr140 fun b9 => ?_)
     refine RG.ot rfl (OT.storeW (vs := [vi _, vi _, vi _, vi _]) rfl Sz140 rfl rfl (Cl.c rfl) rfl rfl (OneC.c rfl) ?_)
     refine RG.nil (WP.seq (WP.seq (WP.region (RG.pv rfl (PV.loadW rfl Ag140 rfl rfl) ?_))))
     refine RG.callF (vs := [_]) rfl rfl En83 rfl (validRect_s ?_)
     refine RG.pv rfl (PV.not rfl rfl) (RG.nil ?_)
     refine WP.cond rfl (fun h6 => ?_) (fun h6 => ?_)
     · have h6 : validRect (moveR t (gd xs i)) = false := by simpa using h6
       have e1 : mvOk t xs = false := by rw [e0, movedOk_no h5 h6]
       have e2 := mvI_no e1
       rw [e1, e2] at k
       refine WP.seq (WP.region (RG.pv rfl (PV.asg rfl rfl) (RG.br rfl rfl rfl (RG.nil ?_))))
       refine WP.ret ?_
       exact ⟨_, _, ResV.two rfl rfl rfl, (Cv.p (C := L)).trans Cv.nilS, k (.slice none 0 0)⟩
     · have h6 : validRect (moveR t (gd xs i)) = true := by simpa using h6
       have hj' : ∀ j, j < i + 1 → validRect (moveR t (gd xs j)) = true := fun j h => by
         by_cases c : j = i
         · rw [c]; exact h6
         · exact hj j (by omega)
       refine WP.skip (WP.region (RG.pv rfl (PV.mvP (.inl rfl) rfl) (RG.pv rfl (PV.loadW rfl Ag140 rfl rfl) ?_)))
       refine RG.callF (vs := [(.pointer (some ⟨b19, 0, none⟩)), _]) rfl rfl En84 rfl (CallT.exB (put_s (by assumption) (fun bs' hb' hg' => ?_)))
       refine RG.nil (WP.region (RG.pv rfl (PV.add rfl rfl rfl (by omega)) (RG.ml rfl rfl rfl (RG.nil ?_))))
       exact ⟨rfl, i + 1, bs', ⟨by omega, hb', hj', fun y x h7 h8 => by rw [hg' y x h7 h8, hc y x h7 h8, mvTo_any h5]⟩, ⟨rfl, trivial⟩, ⟨rfl, rfl, rfl, rfl, trivial⟩, Cv.p, by omega⟩
   · have h4 := of_decide_eq_false h4
     have e1 : mvOk t xs = true := by rw [e0, movedOk_yes (fun j h => hj j (by omega))]
     have e : cs = bits (xs.map (moveR t)) := bits_eq hl fun y x h6 h7 => by rw [hc y x h6 h7, List.take_of_length_le (by simp; omega)]
     subst e
     rw [e1, mvI_ok e1] at k
     refine WP.exit ?_
     refine WP.seq (WP.region (RG.pv rfl (PV.mvP (.inl rfl) rfl) ?_))
     refine RG.callF (vs := [(.pointer (some ⟨b19, 0, none⟩))]) rfl rfl En85 rfl (CallT.exB (region_s (bits_length _) (fun v37 => ?_)))
     refine RG.pv rfl (PV.asg (v := v37) rfl rfl) (RG.br rfl rfl rfl (RG.nil ?_))
     refine WP.ret ?_
     exact ⟨_, _, ResV.two rfl rfl rfl, Cv.p, k v37⟩
end Go.Proofs.YthhjapiggekjbaaGreat
namespace Go.Proofs.YthhjapiggekjbaaGreat
set_option linter.unusedVariables false
set_option linter.unusedSimpArgs false
open Go
set_option maxRecDepth 20000
set_option linter.unusedSimpArgs false
theorem mv_valid {t : Trans} {r b c : Rect} (ho : 0 ≤ t.o ∧ t.o ≤ 7) (hr : r.x0 < r.x1 ∧ r.y0 < r.y1) (hb : b.x0 ≤ r.x0 ∧ r.x0 < b.x1 ∧ b.y0 ≤ r.y0 ∧ r.y0 < b.y1) (hc : c.x0 ≤ r.x1 - 1 ∧ r.x1 ≤ c.x1 ∧ c.y0 ≤ r.y1 - 1 ∧ r.y1 ≤ c.y1)
   (h1 : validRect (moveR t b) = true) (h2 : validRect (moveR t c) = true) : validRect (moveR t r) = true := by
 obtain ⟨o, tx, ty⟩ := t
 rw [validR_iff] at *
 have ho : o = 0 ∨ o = 1 ∨ o = 2 ∨ o = 3 ∨ o = 4 ∨ o = 5 ∨ o = 6 ∨ o = 7 := by simp only at ho; omega
 rcases ho with rfl | rfl | rfl | rfl | rfl | rfl | rfl | rfl <;> (simp [moveR, moveP, turnP, flip, rot] at h1 h2 ⊢; omega)
theorem canon_mv {t : Trans} {S : List Bool} {bs : List Rect} (ho : 0 ≤ t.o ∧ t.o ≤ 7) (hS : S.length = 6400) (hsub : ∀ y x, y < 80 → x < 80 → gb S y x = true → ∃ b ∈ bs, inR b y x = true) (hv : ∀ b ∈ bs, validRect (moveR t b) = true) : ∀ r ∈ canon S, validRect (moveR t r) = true := by
 intro r hr
 have hva : validRect r = true := by
   have := isReg_valid (isReg_canon hS)
   simp only [validRs, Bool.and_eq_true, List.all_eq_true] at this
   exact this.2 r hr
 have hv1 := validR_iff.1 hva
 have key : ∀ y x : Nat, y < 80 → x < 80 → inR r y x = true → ∃ b ∈ bs, inR b y x = true := fun y x hy hx h => by
   refine hsub y x hy hx ?_
   rw [← canon_any hy hx, List.any_eq_true]
   exact ⟨r, hr, h⟩
 obtain ⟨b, hb, hb2⟩ := key (r.y0 + 40).toNat (r.x0 + 40).toNat (by omega) (by omega) (by rw [inR_iff]; omega)
 obtain ⟨c, hc, hc2⟩ := key (r.y1 + 39).toNat (r.x1 + 39).toNat (by omega) (by omega) (by rw [inR_iff]; omega)
 rw [inR_iff] at hb2 hc2
 exact mv_valid ho (by omega) (by omega) (by omega) (hv b hb) (hv c hc)
theorem boxesOf_sub {ss : List Shape} {l : Nat} {b : Rect} (h : b ∈ boxesOf ss l) : ∃ m, m < ss.length ∧ (gd ss m).box = b := by
 rw [boxesOf] at h
 obtain ⟨s, hs, rfl⟩ := List.mem_map.1 h
 obtain ⟨m, hm, rfl⟩ := List.getElem_of_mem (List.mem_filter.1 hs).1
 exact ⟨m, hm, by rw [gd_eq hm]⟩
theorem layL_gd {ss : List Shape} {l : Nat} (h : l < 8) : gd (layL ss) l = canon (bits (boxesOf ss l)) := by
 rw [layL, gd_map _ (by simpa using h), range_gd h]
theorem lay_bits {ss : List Shape} {l : Nat} (h : l < 8) : bits (gd (layL ss) l) = bits (boxesOf ss l) := by
 rw [layL_gd h, bits_canon (bits_length _)]
theorem lay_box {ss : List Shape} {l y x : Nat} (h : l < 8) (hy : y < 80) (hx : x < 80) (hg : gb (bits (gd (layL ss) l)) y x = true) : ∃ b ∈ ss.map Shape.box, inR b y x = true := by
 rw [lay_bits h, gb_bits_iff hy hx] at hg
 obtain ⟨b, hb, hi⟩ := hg
 obtain ⟨m, hm, rfl⟩ := boxesOf_sub hb
 exact ⟨_, List.mem_map.2 ⟨gd ss m, gd_mem hm, rfl⟩, hi⟩
theorem gd4 {α : Type} [Inhabited α] (a b c d : α) : gd [a, b, c, d] 0 = a ∧ gd [a, b, c, d] 1 = b ∧ gd [a, b, c, d] 2 = c ∧ gd [a, b, c, d] 3 = d := by
 unfold gd; exact ⟨rfl, rfl, rfl, rfl⟩
theorem cond_box {ss : List Shape} {i y x : Nat} (h : i < 4) (hy : y < 80) (hx : x < 80) (hg : gb (gd (condB (layL ss)) i) y x = true) : ∃ b ∈ ss.map Shape.box, inR b y x = true := by
 have hk : y * 80 + x < 6400 := by omega
 obtain ⟨e0, e1, e2, e3⟩ := gd4 (zipB (fun p q => p && !q) (bits (gd (layL ss) 0)) (bits (gd (layL ss) 1))) (bits (gd (layL ss) 1)) (bits (gd (layL ss) 3)) (bits (gd (layL ss) 5))
 have hi : i = 0 ∨ i = 1 ∨ i = 2 ∨ i = 3 := by omega
 rw [condB] at hg
 rcases hi with rfl | rfl | rfl | rfl
 · rw [e0] at hg
   unfold gb at hg
   rw [zipB_gd (by rw [bits_length]; exact hk) (by rw [bits_length]; exact hk)] at hg
   simp only [Bool.and_eq_true] at hg
   exact lay_box (l := 0) (by omega) hy hx hg.1
 · rw [e1] at hg; exact lay_box (l := 1) (by omega) hy hx hg
 · rw [e2] at hg; exact lay_box (l := 3) (by omega) hy hx hg
 · rw [e3] at hg; exact lay_box (l := 5) (by omega) hy hx hg
theorem pc_mem {l : List (List Rect)} {p : Int × List Rect} (h : p ∈ pcE l) : ∃ i c, i < 4 ∧ c ∈ comps (gd (condB l) i) ∧ p.2 = canon c := by
 rw [pcE] at h
 cases hl : isLay l with
 | false => rw [hl] at h; simp at h
 | true =>
   rw [hl, cond_true] at h
   obtain ⟨q, hq, rfl⟩ := List.mem_map.1 h
   rw [pcL] at hq
   obtain ⟨z, hz, hq⟩ := List.mem_flatten.1 hq
   obtain ⟨i, hi, rfl⟩ := List.mem_map.1 hz
   obtain ⟨c, hc, rfl⟩ := List.mem_map.1 hq
   exact ⟨i, c, by simpa using hi, hc, rfl⟩
theorem pc_reg {l : List (List Rect)} {p : Int × List Rect} (h : p ∈ pcE l) : isReg p.2 = true := by
 obtain ⟨i, c, hi, hc, e⟩ := pc_mem h
 rw [e]; exact isReg_canon (comps_mem hc)
/-- what a piece of a cell's own shapes covers stays on the chip where the shapes stay on it -/
theorem pc_mv {ss : List Shape} {t : Trans} (ho : 0 ≤ t.o ∧ t.o ≤ 7) (hv : ∀ m, m < ss.length → validRect (moveR t (gd ss m).box) = true) {p : Int × List Rect} (h : p ∈ pcE (layL ss)) : ∀ r ∈ p.2, validRect (moveR t r) = true := by
 obtain ⟨i, c, hi, hc, e⟩ := pc_mem h
 rw [e]
 refine canon_mv (bs := ss.map Shape.box) ho (comps_mem hc) (fun y x hy hx hg => cond_box hi hy hx (comp_sub hc hy hx hg)) fun b hb => ?_
 obtain ⟨s, hs, rfl⟩ := List.mem_map.1 hb
 obtain ⟨m, hm, rfl⟩ := List.getElem_of_mem hs
 have := hv m hm
 rwa [gd_eq hm] at this
theorem lay_mv {ss : List Shape} {t : Trans} {l : Nat} (hl : l < 8) (ho : 0 ≤ t.o ∧ t.o ≤ 7) (hv : ∀ m, m < ss.length → validRect (moveR t (gd ss m).box) = true) : ∀ r ∈ gd (layL ss) l, validRect (moveR t r) = true := by
 rw [layL_gd hl]
 refine canon_mv (bs := ss.map Shape.box) ho (bits_length _) (fun y x hy hx hg => lay_box hl hy hx (by rw [lay_bits hl]; exact hg)) fun b hb => ?_
 obtain ⟨s, hs, rfl⟩ := List.mem_map.1 hb
 obtain ⟨m, hm, rfl⟩ := List.getElem_of_mem hs
 have := hv m hm
 rwa [gd_eq hm] at this
/-- moved pieces -/
def mvP (t : Trans) (p : Int × List Rect) : Int × List Rect := (p.1, canon (bits (p.2.map (moveR t))))
theorem mvI_eq {t : Trans} {xs : List Rect} (ht : validT t = true) (hx : isReg xs = true) (hv : ∀ r ∈ xs, validRect (moveR t r) = true) : mvI t xs = canon (bits (xs.map (moveR t))) := by
 refine mvI_ok ?_
 rw [mvOk, ht, hx, Bool.true_and, Bool.true_and, movedOk, List.all_eq_true]
 exact hv
end Go.Proofs.YthhjapiggekjbaaGreat
namespace Go.Proofs.YthhjapiggekjbaaGreat
set_option linter.unusedVariables false
set_option linter.unusedSimpArgs false
open Go
set_option maxRecDepth 20000
set_option maxHeartbeats 1000000
set_option linter.unusedSimpArgs false
variable {G : Gh} {L : List Ch} {R : Value → Gh → List Ch → Prop}
def regsQ (xs : List PPiece) : List (Sl Rect) := xs.map fun q => q.piece.reg
theorem regsQ_len (xs : List PPiece) : (regsQ xs).length = xs.length := by simp [regsQ]
theorem regsQ_gd {xs : List PPiece} {i : Nat} (h : i < xs.length) : gd (regsQ xs) i = (gd xs i).piece.reg := gd_map _ h
theorem regsQ_append (xs ys : List PPiece) : regsQ (xs ++ ys) = regsQ xs ++ regsQ ys := by simp [regsQ]
def erQ (q : PPiece) : Int × (Int × List Rect) := (q.occ, erP q.piece)
def erQs (xs : List PPiece) : List (Int × (Int × List Rect)) := xs.map erQ
theorem erQs_len (xs : List PPiece) : (erQs xs).length = xs.length := by simp [erQs]
/-- the placed pieces of the i-th occurrence; of those before it -/
noncomputable def plAt (cs : List ECell) (os : List EOcc) (i : Nat) : List (Int × (Int × List Rect)) := (ownP cs (gd os i).cell).map fun p => ((i : Int), mvP (gd os i).place p)
noncomputable def plTo (cs : List ECell) (os : List EOcc) (i : Nat) : List (Int × (Int × List Rect)) := (List.range i).flatMap (plAt cs os)
theorem plTo_succ (cs : List ECell) (os : List EOcc) (i : Nat) : plTo cs os (i + 1) = plTo cs os i ++ plAt cs os i := by simp [plTo, List.range_succ, List.flatMap_append]
theorem ownP_len (cs : List ECell) (cell : Int) : (ownP cs cell).length ≤ 25600 := by
 rw [ownP]; cases hasCl cs cell
 · simp
 · exact pcE_len _
theorem plAt_len (cs : List ECell) (os : List EOcc) (i : Nat) : (plAt cs os i).length = (ownP cs (gd os i).cell).length := by simp [plAt]
theorem plTo_len (cs : List ECell) (os : List EOcc) : ∀ i, (plTo cs os i).length ≤ 25600 * i
 | 0 => by simp [plTo]
 | i + 1 => by
   have h1 := plTo_len cs os i
   have h2 := ownP_len cs (gd os i).cell
   rw [plTo_succ, List.length_append, plAt_len]; omega
theorem OccAt.own {xs : List Cell} {cell : Int} {zs : List Occ} {i : Nat} (ha : OccAt xs cell zs i) : ownP (erCls xs) (gd zs i).cell = pcE (layL (gd xs (gd zs i).cell.toNat).shapes.xs) := by
 obtain ⟨h1, h2, -, -⟩ := occR_cell ha.hi
 rw [ha.ho] at h2
 simp only [erO] at h2
 have hh : hasCl (erCls xs) (gd zs i).cell = true := by
   simp only [hasCl, within, Bool.and_eq_true, decide_eq_true_eq]
   exact ⟨h1, by omega, by omega⟩
 rw [ownP, hh, cond_true, ha.hs]
theorem OccAt.ok {xs : List Cell} {cell : Int} {zs : List Occ} {i : Nat} (ha : OccAt xs cell zs i) (h0 : shE (erCls xs) cell = 0) : ∀ m, m < (gd xs (gd zs i).cell.toNat).shapes.xs.length → validRect (moveR (gd zs i).place (gd (gd xs (gd zs i).cell.toNat).shapes.xs m).box) = true := fun m hm => by
 cases hv : validRect (moveR (gd zs i).place (gd (gd xs (gd zs i).cell.toNat).shapes.xs m).box) with
 | true => rfl
 | false =>
   have hb := ha.bad hm hv
   by_cases ho : occE (erCls xs) cell = 0
   · rw [shE_flat ho, hb] at h0; simp at h0
   · rw [shE_occ ho] at h0; exact absurd h0 ho
theorem gd_memP {l : List (List Rect)} {ps : List Piece} (h : erPs ps = pcE l) {k : Nat} (hk : k < ps.length) : erP (gd ps k) ∈ pcE l := by
 rw [← h, erPs]; exact List.mem_map.2 ⟨gd ps k, gd_mem hk, rfl⟩
end Go.Proofs.YthhjapiggekjbaaGreat
namespace Go.Proofs.YthhjapiggekjbaaGreat
set_option linter.unusedVariables false
set_option linter.unusedSimpArgs false
open Go
set_option maxRecDepth 20000
set_option linter.unusedSimpArgs false
def ofC (C : List Int) (f i : Nat) : Bool := decide (gd C i = (f : Int))
def ocTo (C O : List Int) (f m : Nat) : List Int := ((List.range m).filter (ofC C f)).map (gd O)
def ofN (qs : List PPiece) (C : List Int) (f n i : Nat) : Bool := ofC C f i && decide ((gd qs i).piece.layer = (n : Int))
def rgTo (qs : List PPiece) (C : List Int) (f n m : Nat) : List (Sl Rect) := ((List.range m).filter (ofN qs C f n)).map fun i => (gd qs i).piece.reg
theorem ocTo_yes {C O : List Int} {f m : Nat} (h : gd C m = (f : Int)) : ocTo C O f (m + 1) = ocTo C O f m ++ [gd O m] := by
 rw [ocTo, List.range_succ, List.filter_append, List.map_append]; simp [ofC, h, ocTo]
theorem ocTo_no {C O : List Int} {f m : Nat} (h : gd C m ≠ (f : Int)) : ocTo C O f (m + 1) = ocTo C O f m := by
 rw [ocTo, List.range_succ, List.filter_append, List.map_append]; simp [ofC, h, ocTo]
theorem rgTo_yes {qs : List PPiece} {C : List Int} {f n m : Nat} (h : gd C m = (f : Int)) (h2 : (gd qs m).piece.layer = (n : Int)) : rgTo qs C f n (m + 1) = rgTo qs C f n m ++ [(gd qs m).piece.reg] := by
 rw [rgTo, List.range_succ, List.filter_append, List.map_append]; simp [ofN, ofC, h, h2, rgTo]
theorem rgTo_no {qs : List PPiece} {C : List Int} {f n m : Nat} (h : gd C m ≠ (f : Int) ∨ (gd qs m).piece.layer ≠ (n : Int)) : rgTo qs C f n (m + 1) = rgTo qs C f n m := by
 rw [rgTo, List.range_succ, List.filter_append, List.map_append]
 have e : ofN qs C f n m = false := by
   rw [ofN, ofC, Bool.and_eq_false_iff, decide_eq_false_iff_not, decide_eq_false_iff_not]; exact h
 simp [e, rgTo]
theorem ocTo_len (C O : List Int) (f m : Nat) : (ocTo C O f m).length ≤ m := by
 rw [ocTo, List.length_map]; have := List.length_filter_le (ofC C f) (List.range m); rwa [List.length_range] at this
theorem rgTo_len (qs : List PPiece) (C : List Int) (f n m : Nat) : (rgTo qs C f n m).length ≤ m := by
 rw [rgTo, List.length_map]; have := List.length_filter_le (ofN qs C f n) (List.range m); rwa [List.length_range] at this
theorem rgTo_mem {qs : List PPiece} {C : List Int} {f n m : Nat} {s : Sl Rect} (h : s ∈ rgTo qs C f n m) : ∃ i, i < m ∧ (gd qs i).piece.reg = s := by
 rw [rgTo] at h
 obtain ⟨i, hi, e⟩ := List.mem_map.1 h
 exact ⟨i, List.mem_range.1 (List.mem_filter.1 hi).1, e⟩
theorem rgTo_uni {qs : List PPiece} {C : List Int} {f n : Nat} : (er (rgTo qs C f n qs.length)).flatten = uniR ((erQs qs).map Prod.snd) C f n := by
 have e0 : ((erQs qs).map Prod.snd).length = qs.length := by simp [erQs]
 have e1 : ∀ i, i < qs.length → gd ((erQs qs).map Prod.snd) i = erP (gd qs i).piece := fun i hi => by
   rw [gd_map _ (by simpa [erQs] using hi), erQs, gd_map _ hi]; rfl
 rw [uniR, e0, rgTo, er, List.map_map, List.flatMap]
 have e2 : (List.range qs.length).filter (ofN qs C f n) = (List.range qs.length).filter fun i => decide (gd C i = (f : Int)) && decide ((gd ((erQs qs).map Prod.snd) i).1 = (n : Int)) := by
   refine List.filter_congr fun i hi => ?_
   rw [e1 i (List.mem_range.1 hi)]; rfl
 rw [e2]
 congr 1
 refine List.map_congr_left fun i hi => ?_
 rw [e1 i (List.mem_range.1 (List.mem_filter.1 hi).1)]; rfl
/-- one net after the other -/
noncomputable def hTo (E : List (Int × List Rect)) (O C : List Int) (m : Nat) : List (List (Int × List Rect) × List Int) := ((List.range m).filter fun f => ofC C f f).map fun f => (hPcs E C f, compactL (ocTo C O f E.length))
theorem hTo_yes {E : List (Int × List Rect)} {O C : List Int} {m : Nat} (h : gd C m = (m : Int)) : hTo E O C (m + 1) = hTo E O C m ++ [(hPcs E C m, compactL (ocTo C O m E.length))] := by
 rw [hTo, List.range_succ, List.filter_append, List.map_append]; simp [ofC, h, hTo]
theorem hTo_no {E : List (Int × List Rect)} {O C : List Int} {m : Nat} (h : gd C m ≠ (m : Int)) : hTo E O C (m + 1) = hTo E O C m := by
 rw [hTo, List.range_succ, List.filter_append, List.map_append]; simp [ofC, h, hTo]
theorem hTo_len (E : List (Int × List Rect)) (O C : List Int) (m : Nat) : (hTo E O C m).length ≤ m := by
 rw [hTo, List.length_map]; have := List.length_filter_le (fun f => ofC C f f) (List.range m); rwa [List.length_range] at this
noncomputable def ocN (l : List (List Rect)) (E : List (Int × List Rect)) (O : List Int) (m : Nat) : List Int := compactL (((List.range E.length).filter fun i => decide (numH l (gd E i) = (m : Int))).map (gd O))
noncomputable def netH (l : List (List Rect)) (E : List (Int × List Rect)) (O : List Int) : List (List (Int × List Rect) × List Int) := (List.range (netN l)).map fun m => (gd (netL l) m, ocN l E O m)
def cmpH (a b : List (Int × List Rect) × List Int) : Int := cmpP (gd a.1 0) (gd b.1 0)
section
variable {l : List (List Rect)} {E : List (Int × List Rect)} {O : List Int}
theorem PAll.member (h : PAll l E) (hl : isLay l = true) {m : Nat} (hm : m < netN l) : ∃ f, f < E.length ∧ gd (clsH l E) f = (f : Int) ∧ numH l (gd E f) = (m : Int) := by
 obtain ⟨j, hj, h1, h2, -, -⟩ := net_head hm
 obtain ⟨i, hi, e, hc⟩ := piece_in hj
 obtain ⟨a, ha⟩ := comps_ne hc
 have hsub : On (gd (condB l) i) a := ⟨ha.1, ha.2.1, comp_sub hc ha.1 ha.2.1 ha.2.2⟩
 obtain ⟨q, hq, q1, q2⟩ := h.cov i a hi hsub
 obtain ⟨k, hk, rfl⟩ := List.getElem_of_mem hq
 rw [← gd_eq hk] at q1 q2
 obtain ⟨i2, hp⟩ := h.mem _ (gd_mem hk)
 obtain ⟨j2, g1, g2, g3, g4⟩ := hp.flat
 have ei : i2 = i := lay_inj hp.hi hi (by rw [← hp.lay, q1])
 have ej : j2 = j := piece_uniq g1 hj (by rw [g2, e, ei]) (g3 _ q2) ha
 have hk2 : numH l (gd E k) = (m : Int) := by rw [g4, ej, numR_root h1, h2]
 obtain ⟨r1, r2, r3⟩ := clsH_rt l E k (by rw [clsH_len]; exact hk)
 have hr : gd (clsH l E) (gd (clsH l E) k).toNat = ((gd (clsH l E) k).toNat : Int) := by rw [r3]; omega
 refine ⟨(gd (clsH l E) k).toNat, by omega, hr, ?_⟩
 rw [← hk2]
 exact (h.cls hl (by omega) hk).1 r3
theorem PAll.hTo (h : PAll l E) (hl : isLay l = true) : (hTo E O (clsH l E) E.length).Perm (netH l E O) := by
 have e1 : Go.Proofs.YthhjapiggekjbaaGreat.hTo E O (clsH l E) E.length = (((List.range E.length).filter fun f => ofC (clsH l E) f f).map fun f => (numH l (gd E f)).toNat).map fun m => (gd (netL l) m, ocN l E O m) := by
   rw [Go.Proofs.YthhjapiggekjbaaGreat.hTo, List.map_map]
   refine List.map_congr_left fun f hf => ?_
   have hf2 := List.mem_filter.1 hf
   have hf1 : f < E.length := List.mem_range.1 hf2.1
   have hr : gd (clsH l E) f = (f : Int) := of_decide_eq_true hf2.2
   obtain ⟨m, hm, e, e2⟩ := h.net hl hf1 hr
   simp only [Function.comp_apply, e, Int.toNat_natCast, e2]
   congr 2
   rw [ocTo]
   congr 1
   refine List.filter_congr fun i hi => ?_
   have hi := List.mem_range.1 hi
   rw [ofC, decide_eq_decide, ← hr, h.cls hl hi hf1, e]
 rw [e1, netH]
 refine List.Perm.map _ ((List.perm_ext_iff_of_nodup ?_ List.nodup_range).2 fun m => ?_)
 · rw [List.nodup_iff_pairwise_ne, List.pairwise_map]
   refine ((List.nodup_iff_pairwise_ne.1 (List.nodup_range (n := E.length))).sublist List.filter_sublist).imp_of_mem fun {a b} ha hb hab e => hab ?_
   have ha := List.mem_filter.1 ha
   have hb := List.mem_filter.1 hb
   have ha1 : a < E.length := List.mem_range.1 ha.1
   have hb1 : b < E.length := List.mem_range.1 hb.1
   have ra : gd (clsH l E) a = (a : Int) := of_decide_eq_true ha.2
   have rb : gd (clsH l E) b = (b : Int) := of_decide_eq_true hb.2
   obtain ⟨m1, -, e1, -⟩ := h.net hl ha1 ra
   obtain ⟨m2, -, e2, -⟩ := h.net hl hb1 rb
   have e3 : numH l (gd E a) = numH l (gd E b) := by rw [e1, e2] at e; simp only [Int.toNat_natCast] at e; rw [e1, e2, e]
   have := (h.cls hl ha1 hb1).2 e3
   omega
 · rw [List.mem_map, List.mem_range]
   constructor
   · rintro ⟨f, hf, e⟩
     have hf := List.mem_filter.1 hf
     obtain ⟨m1, h1, e1, -⟩ := h.net hl (List.mem_range.1 hf.1) (of_decide_eq_true hf.2)
     rw [e1] at e; simp only [Int.toNat_natCast] at e
     omega
   · intro hm
     obtain ⟨f, h1, h2, h3⟩ := h.member hl hm
     exact ⟨f, List.mem_filter.2 ⟨List.mem_range.2 h1, decide_eq_true h2⟩, by rw [h3]; rfl⟩
theorem PAll.hsort (h : PAll l E) (hl : isLay l = true) {zs : List (List (Int × List Rect) × List Int)} (hp : zs.Perm (Go.Proofs.YthhjapiggekjbaaGreat.hTo E O (clsH l E) E.length)) (hs : zs.Pairwise fun a b => ¬ cmpH b a < 0) : zs = netH l E O := by
 have hp2 := hp.trans (h.hTo (O := O) hl)
 refine List.Perm.eq_of_pairwise (le := fun a b => ¬ cmpH b a < 0) (fun a b ha hb h1 h2 => ?_) hs ?_ hp2
 · have ha := hp2.mem_iff.1 ha
   obtain ⟨m, hm, rfl⟩ := List.mem_map.1 ha
   obtain ⟨n, hn, rfl⟩ := List.mem_map.1 hb
   have hm := List.mem_range.1 hm
   have hn := List.mem_range.1 hn
   rw [cmpH, net_lt hn hm] at h1
   rw [cmpH, net_lt hm hn] at h2
   rw [show m = n by omega]
 · rw [netH, List.pairwise_map]
   refine List.pairwise_lt_range.imp_of_mem fun {a b} ha hb hab => ?_
   rw [cmpH, net_lt (List.mem_range.1 hb) (List.mem_range.1 ha)]
   omega
end
theorem gd_rep8 {α : Type} [Inhabited α] (a : α) {n : Nat} (h : n < 8) : gd (List.replicate 8 a) n = a := by rw [gd_eq (by simp; omega), List.getElem_replicate]
/-- the first piece of each net -/
theorem PAll.hgood {l : List (List Rect)} {E : List (Int × List Rect)} {O : List Int} (h : PAll l E) (hl : isLay l = true) {x : List (Int × List Rect) × List Int} (hx : x ∈ Go.Proofs.YthhjapiggekjbaaGreat.hTo E O (clsH l E) E.length) : 0 < x.1.length ∧ 0 < (gd x.1 0).2.length ∧ 0 ≤ (gd x.1 0).1 ∧ (gd x.1 0).1 ≤ 7 := by
 have hx := (h.hTo (O := O) hl).mem_iff.1 hx
 obtain ⟨m, hm, rfl⟩ := List.mem_map.1 hx
 obtain ⟨j, hj, -, -, h3, h4⟩ := net_head (List.mem_range.1 hm)
 obtain ⟨i, hi, e, hc⟩ := piece_in hj
 have h6 := comps_mem hc
 have hb : bits (canon (gd (pcL l 4) j).2) = (gd (pcL l 4) j).2 := bits_canon h6
 obtain ⟨h0, -, -⟩ := region_first (isReg_canon h6) (by rw [hb]; exact comps_ne hc)
 refine ⟨h3, by rw [h4]; exact h0, ?_⟩
 rw [h4]
 simp only [pcR, e]
 rcases (by omega : i = 0 ∨ i = 1 ∨ i = 2 ∨ i = 3) with rfl | rfl | rfl | rfl <;> simp [gd]
noncomputable def hpTo (E : List (Int × List Rect)) (C : List Int) (f n : Nat) : List (Int × List Rect) := (List.range n).flatMap fun n => (partsL (bits (uniR E C f n))).map fun r => ((n : Int), r)
theorem hpTo_succ (E : List (Int × List Rect)) (C : List Int) (f n : Nat) : hpTo E C f (n + 1) = hpTo E C f n ++ (partsL (bits (uniR E C f n))).map fun r => ((n : Int), r) := by
 rw [hpTo, List.range_succ, List.flatMap_append]; simp [hpTo]
theorem hpTo_len (E : List (Int × List Rect)) (C : List Int) (f n : Nat) : (hpTo E C f n).length ≤ 6400 * n := by
 induction n with
 | zero => simp [hpTo]
 | succ n ih =>
   have h1 := firsts_len (bits (uniR E C f n)) 6400
   rw [hpTo_succ, List.length_append, List.length_map, partsL_len]; omega
def hps (hs : List HNet) : List (Sl Piece) := hs.map fun h => h.net.pieces
def hos (hs : List HNet) : List (Sl Int) := hs.map HNet.occs
def hrg (hs : List HNet) : List (Sl Rect) := hs.flatMap fun h => regs h.net.pieces.xs
def erH (h : HNet) : List (Int × List Rect) × List Int := (erPs h.net.pieces.xs, h.occs.xs)
theorem hps_len (hs : List HNet) : (hps hs).length = hs.length := by simp [hps]
theorem hos_len (hs : List HNet) : (hos hs).length = hs.length := by simp [hos]
theorem hps_gd {hs : List HNet} {i : Nat} (h : i < hs.length) : gd (hps hs) i = (gd hs i).net.pieces := gd_map _ h
theorem hos_gd {hs : List HNet} {i : Nat} (h : i < hs.length) : gd (hos hs) i = (gd hs i).occs := gd_map _ h
theorem hps_app (xs ys : List HNet) : hps (xs ++ ys) = hps xs ++ hps ys := by simp [hps]
theorem hos_app (xs ys : List HNet) : hos (xs ++ ys) = hos xs ++ hos ys := by simp [hos]
theorem hrg_app (xs ys : List HNet) : hrg (xs ++ ys) = hrg xs ++ hrg ys := by simp [hrg]
theorem hrg_perm {xs ys : List HNet} (h : xs.Perm ys) : (hrg xs).Perm (hrg ys) := h.flatMap_right _
theorem RsE.hReg {G : Gh} {L : List Ch} {hs : List HNet} (h : RsE G L rectT (hrg hs)) {x : HNet} (hx : x ∈ hs) {j : Nat} (hj : j < x.net.pieces.xs.length) : Rs G L rectT (gd x.net.pieces.xs j).reg.v (gd x.net.pieces.xs j).reg.xs := by
 have hm : (gd x.net.pieces.xs j).reg ∈ hrg hs := List.mem_flatMap.2 ⟨x, hx, List.mem_map.2 ⟨_, gd_mem hj, rfl⟩⟩
 obtain ⟨i, hi, e⟩ := List.getElem_of_mem hm
 have := h i hi
 rw [gd_eq hi, e] at this
 exact this
theorem RsE.rgs {G : Gh} {L : List Ch} {qs : List PPiece} {C : List Int} {f n m : Nat} (h : RsE G L rectT (regsQ qs)) (hm : m ≤ qs.length) {xs : List (Sl Rect)} (e : xs = rgTo qs C f n m) : RsE G L rectT xs := fun i hi => by
 subst e
 obtain ⟨j, hj, e⟩ := rgTo_mem (gd_mem hi)
 have := h j (by simp [regsQ]; omega)
 rw [show gd (regsQ qs) j = (gd qs j).piece.reg from gd_map _ (by omega), e] at this
 exact this
theorem Cv.bagRep {α : Type} {e : TypeId} {F : FT α} {L : List Ch} : ∀ n : Nat, Cv L (bagS e F (List.replicate n ⟨.slice none 0 0, []⟩) :: L)
 | 0 => Cv.bag0 rfl
 | n + 1 => (Cv.bagRep n).trans (Cv.nilS.trans (Cv.grow List.replicate_succ'))
/-- an element of an owned slice of slices, set to a slice out of the bag, goes back -/
theorem Cv.slotU {α : Type} {e e' : TypeId} {F : FT α} {v u : Value} {zs : List (Sl α)} {ys : List α} {L : List Ch} (i : Nat) (hi : i < zs.length) :
   Cv (osl e F u ys :: osl e' slT v (zs.set i ⟨u, ys⟩) :: bag ((zs.map (ownS e F)).set i emp) :: L) (osl e' slT v (zs.set i ⟨u, ys⟩) :: bagS e F (zs.set i ⟨u, ys⟩) :: L) :=
 (Cv.swap (A := [osl e F u ys]) (B := [osl e' slT v (zs.set i ⟨u, ys⟩)])).trans (Cv.cons (Cv.bagS_put i hi))
theorem gd_set_self {α : Type} [Inhabited α] {xs : List α} {i : Nat} {a : α} (h : i < xs.length) : gd (xs.set i a) i = a := by rw [gd_eq (by simpa using h)]; simp
theorem gd_set_ne {α : Type} [Inhabited α] {xs : List α} {i j : Nat} {a : α} (h : i ≠ j) : gd (xs.set i a) j = gd xs j := by simp [gd, List.getElem?_set, h]
theorem rgTo_set {qs : List PPiece} {C : List Int} {f n m : Nat} {zs : List (Sl (Sl Rect))} (hl : zs.length = 8) (hz : ∀ k, k < 8 → (gd zs k).xs = rgTo qs C f k m) (hn : n < 8) (h : gd C m = (f : Int)) (en : (gd qs m).piece.layer = (n : Int)) (w : Value) : ∀ k, k < 8 → (gd (zs.set n (⟨w, (gd zs n).xs ++ [(gd qs m).piece.reg]⟩ : Sl (Sl Rect))) k).xs = rgTo qs C f k (m + 1) := fun k hk => by
 by_cases e : n = k
 · subst e; rw [gd_set_self (by omega), rgTo_yes h en, ← hz n hn]
 · rw [gd_set_ne e, rgTo_no (.inr (by rw [en]; omega)), hz k hk]
theorem hnet_len {E : List (Int × List Rect)} {C : List Int} {f n : Nat} {ps : List Piece} (h : erPs ps = hpTo E C f n) (hn : n ≤ 8) : ps.length ≤ 51200 := by
 have h1 := congrArg List.length h
 have h2 := hpTo_len E C f n
 rw [erPs_len] at h1; omega
theorem erPs_mkP (n : Int) (zs : List (Sl Rect)) : erPs (zs.map (mkP n)) = (er zs).map fun r => (n, r) := by simp [erPs, er, erP, mkP, Function.comp_def]
theorem erPs_app (xs ys : List Piece) : erPs (xs ++ ys) = erPs xs ++ erPs ys := by simp [erPs]
theorem hrg_one (x : HNet) : hrg [x] = regs x.net.pieces.xs := by simp [hrg]
theorem erH_good {x : HNet} (h : 0 < (erH x).1.length ∧ 0 < (gd (erH x).1 0).2.length ∧ 0 ≤ (gd (erH x).1 0).1 ∧ (gd (erH x).1 0).1 ≤ 7) : 0 < x.net.pieces.xs.length ∧ 0 < (gd x.net.pieces.xs 0).reg.xs.length ∧ 0 ≤ (gd x.net.pieces.xs 0).layer ∧ (gd x.net.pieces.xs 0).layer ≤ 7 := by
 obtain ⟨h1, h2⟩ := h
 have h3 : 0 < x.net.pieces.xs.length := by simpa [erH, erPs] using h1
 rw [erH, erPs_gd h3] at h2
 exact ⟨h3, h2⟩
theorem netH_len (l : List (List Rect)) (E : List (Int × List Rect)) (O : List Int) : (netH l E O).length = netN l := by simp [netH]
end Go.Proofs.YthhjapiggekjbaaGreat
namespace Go.Proofs.YthhjapiggekjbaaGreat
set_option linter.unusedVariables false
set_option linter.unusedSimpArgs false
open Go
set_option maxRecDepth 20000
set_option linter.unusedSimpArgs false
variable {G : Gh} {L : List Ch} {R : Value → Gh → List Ch → Prop}
theorem Cv.bagJn {α : Type} {e : TypeId} {F : FT α} {X Y : List (Sl α)} {L : List Ch} : Cv (bagS e F X :: bagS e F Y :: L) (bagS e F (X ++ Y) :: L) := by
 have h1 : Cv (bagS e F X :: bagS e F Y :: L) (X.map (ownS e F) ++ (Y.map (ownS e F) ++ L)) := (Cv.cons Cv.ofBag).trans Cv.ofBag
 rw [← List.append_assoc, ← List.map_append] at h1
 exact h1.trans (Cv.toBag (B := (X ++ Y).map (ownS e F)))
end Go.Proofs.YthhjapiggekjbaaGreat
namespace Go.Proofs.YthhjapiggekjbaaGreat
set_option linter.unusedVariables false
set_option linter.unusedSimpArgs false
open Go
set_option maxRecDepth 20000
set_option linter.unusedSimpArgs false
variable {G : Gh} {L : List Ch} {R : Value → Gh → List Ch → Prop}
theorem cmpPts_s {p q : Pt} (k : R (vi (orI [cmpI p.y q.y, cmpI p.x q.x])) G L) : CallT Tryz.prog 128 #[vpt p, vpt q] G L R := by
 refine CallT.enter (args := _) Tryz.func128 rfl rfl (by kernel_rfl) rfl ?_
 refine WP.seq (WP.region ?_)
 refine RG.ot rfl (OT.box (cs := ptT.enc p) rfl rfl rfl fun b2 => ?_)
 refine RG.ot rfl (OT.box (cs := ptT.enc q) rfl rfl rfl fun b3 => ?_)
 refine RG.mr rfl rfl rfl (RG.nil (WP.seq ?_))
 refine WP.regionH0 (.q 0 (.q 1 (.q 2 (.q 3 (.q 5 (.q 6 (.q 7 (.q 8 (.l 4 (.l 9 (.l 10 (.l 11 (.q 12 Sch.nil))))))))))))) (by kernel_rfl) (by kernel_rfl) (by kernel_rfl) rfl ?_
 refine RH.pv rfl (fun _ _ _ _ h => h) (Gh.le_refl _) PickC.pick rfl (PV.field rfl Fo183_1 rfl) ?_
 refine RH.pv rfl (fun _ _ _ _ h => h) (Gh.le_refl _) PickC.pick rfl (PV.load1 rfl Sc2 rfl (Rd.blk rfl)) ?_
 refine RH.pv rfl (fun _ _ _ _ h => h) (Gh.le_refl _) PickC.pick rfl (PV.field rfl Fo183_1 rfl) ?_
 refine RH.pv rfl (fun _ _ _ _ h => h) (Gh.le_refl _) PickC.pick rfl (PV.load1 rfl Sc2 rfl (Rd.blk rfl)) ?_
 refine RH.pv rfl (fun _ _ _ _ h => h) (Gh.le_refl _) PickC.pick rfl (PV.field rfl Fo183_0 rfl) ?_
 refine RH.pv rfl (fun _ _ _ _ h => h) (Gh.le_refl _) PickC.pick rfl (PV.load1 rfl Sc2 rfl (Rd.blk rfl)) ?_
 refine RH.pv rfl (fun _ _ _ _ h => h) (Gh.le_refl _) PickC.pick rfl (PV.field rfl Fo183_0 rfl) ?_
 refine RH.pv rfl (fun _ _ _ _ h => h) (Gh.le_refl _) PickC.pick rfl (PV.load1 rfl Sc2 rfl (Rd.blk rfl)) ?_
 refine RH.ot rfl rfl (OT.callF (vs := [_, _]) rfl En184 rfl (cmp_s ⟨Gh.le_refl _, PickC.pick, ?_⟩))
 refine RH.ot rfl rfl (OT.callF (vs := [_, _]) rfl En184 rfl (cmp_s ⟨Gh.le_refl _, PickC.pick, ?_⟩))
 refine RH.ot rfl rfl (OT.bslice (F := intT) (els := [_, _]) rfl El159 rfl (by decide) rfl (by decide) ⟨rfl, (Cl.c rfl), ⟨rfl, (Cl.c rfl), trivial⟩⟩ fun v15 => ⟨Gh.le_refl _, PickC.pick, ?_⟩)
 refine RH.ot rfl rfl (OT.callF (vs := [v15]) rfl En183 rfl (cmpOr_s Rs.o ⟨Gh.le_refl _, PickC.pick, ?_⟩))
 refine RH.pv rfl (fun _ _ _ _ h => h) (Gh.le_refl _) PickC.pick rfl (PV.mvI (.inr rfl) rfl) ?_
 refine RH.nil ?_
 refine WP.ret ?_
 exact ⟨_, _, ResV.one rfl rfl, Cv.p, k⟩
theorem cmpPcs_s {p q : Piece} (h1 : Rs G L rectT p.reg.v p.reg.xs) (h2 : Rs G L rectT q.reg.v q.reg.xs) (n1 : 0 < p.reg.xs.length) (n2 : 0 < q.reg.xs.length) (b1 : 0 ≤ p.layer ∧ p.layer ≤ 7) (b2 : 0 ≤ q.layer ∧ q.layer ≤ 7) (k : R (vi (cmpP (erP p) (erP q))) G L) : CallT Tryz.prog 77 #[vT pieceT p, vT pieceT q] G L R := by
 refine CallT.enter (args := _) Tryz.func77 rfl rfl (by kernel_rfl) rfl ?_
 refine WP.seq (WP.region ?_)
 refine RG.ot rfl (OT.box (cs := pieceT.enc p) rfl rfl rfl fun b2 => ?_)
 refine RG.ot rfl (OT.box (cs := pieceT.enc q) rfl rfl rfl fun b3 => ?_)
 refine RG.mr rfl rfl rfl (RG.nil (WP.seq (WP.seq (WP.region (RG.pv rfl (PV.field rfl Fo63_0 rfl) (RG.pv rfl (PV.load1 rfl Sc2 rfl (Rd.blk rfl)) (RG.pv rfl (PV.field rfl Fo63_0 rfl) ?_)))))))
 refine RG.pv rfl (PV.load1 rfl Sc2 rfl (Rd.blk rfl)) (RG.pv rfl (PV.neq rfl rfl rfl) (RG.nil ?_))
 refine WP.cond rfl (fun h3 => ?_) (fun h3 => ?_)
 · have h3 : ¬ p.layer = q.layer := by simpa using h3
   have e : cmpP (erP p) (erP q) = p.layer - q.layer := by rw [cmpP, erP, erP, if_neg h3]
   rw [e] at k
   refine WP.seq (WP.region (RG.pv rfl (PV.field rfl Fo63_0 rfl) (RG.pv rfl (PV.load1 rfl Sc2 rfl (Rd.blk rfl)) (RG.pv rfl (PV.field rfl Fo63_0 rfl) (RG.pv rfl (PV.load1 rfl Sc2 rfl (Rd.blk rfl)) (RG.pv rfl (PV.sub rfl rfl rfl (by omega)) (RG.mr rfl rfl rfl ?_)))))))
   refine RG.nil ?_
   refine WP.ret ?_
   exact ⟨_, _, ResV.one rfl rfl, Cv.p, k⟩
 · have h3 : p.layer = q.layer := by simpa using h3
   have e : cmpP (erP p) (erP q) = orI [cmpI (gd p.reg.xs 0).y0 (gd q.reg.xs 0).y0, cmpI (gd p.reg.xs 0).x0 (gd q.reg.xs 0).x0] := by rw [cmpP, erP, erP, if_pos h3]
   rw [e] at k
   refine WP.skip (WP.seq ?_)
   refine WP.regionQ (by kernel_rfl) (by kernel_rfl) ?_
   refine RQ.pv rfl (PV.field rfl Fo63_1 rfl) ?_
   refine RQ.pv rfl (PV.load1 rfl Sc50 rfl (Rd.blk rfl)) ?_
   refine RQ.pv rfl (PV.idxS (j := 0) rfl Is50 rfl (SlF.r h1) rfl (by omega) (by omega)) ?_
   refine RQ.pv rfl (PV.field rfl Fo140_0 rfl) ?_
   refine RQ.pv rfl (PV.loadF rfl Sc2 rfl rfl (El.r h1 (getG (by omega))) rfl) ?_
   refine RQ.pv rfl (PV.field rfl Fo63_1 rfl) ?_
   refine RQ.pv rfl (PV.load1 rfl Sc50 rfl (Rd.blk rfl)) ?_
   refine RQ.pv rfl (PV.idxS (j := 0) rfl Is50 rfl (SlF.r h1) rfl (by omega) (by omega)) ?_
   refine RQ.pv rfl (PV.field rfl Fo140_1 rfl) ?_
   refine RQ.pv rfl (PV.loadF rfl Sc2 rfl rfl (El.r h1 (getG (by omega))) rfl) ?_
   refine RQ.pv rfl (PV.build (vs := [(0, [vi _]), (1, [vi _])]) (out := [_, _]) rfl Zr183 Pl183 ⟨rfl, (Cl.c rfl), ⟨rfl, (Cl.c rfl), trivial⟩⟩ rfl) ?_
   refine RQ.pv rfl (PV.field rfl Fo63_1 rfl) ?_
   refine RQ.pv rfl (PV.load1 rfl Sc50 rfl (Rd.blk rfl)) ?_
   refine RQ.pv rfl (PV.idxS (j := 0) rfl Is50 rfl (SlF.r h2) rfl (by omega) (by omega)) ?_
   refine RQ.pv rfl (PV.field rfl Fo140_0 rfl) ?_
   refine RQ.pv rfl (PV.loadF rfl Sc2 rfl rfl (El.r h2 (getG (by omega))) rfl) ?_
   refine RQ.pv rfl (PV.field rfl Fo63_1 rfl) ?_
   refine RQ.pv rfl (PV.load1 rfl Sc50 rfl (Rd.blk rfl)) ?_
   refine RQ.pv rfl (PV.idxS (j := 0) rfl Is50 rfl (SlF.r h2) rfl (by omega) (by omega)) ?_
   refine RQ.pv rfl (PV.field rfl Fo140_1 rfl) ?_
   refine RQ.pv rfl (PV.loadF rfl Sc2 rfl rfl (El.r h2 (getG (by omega))) rfl) ?_
   refine RQ.pv rfl (PV.build (vs := [(0, [vi _]), (1, [vi _])]) (out := [_, _]) rfl Zr183 Pl183 ⟨rfl, (Cl.c rfl), ⟨rfl, (Cl.c rfl), trivial⟩⟩ rfl) ?_
   refine RQ.callF (vs := [_, _]) rfl rfl En128 rfl (cmpPts_s (p := ⟨(gd p.reg.xs 0).x0, (gd p.reg.xs 0).y0⟩) (q := ⟨(gd q.reg.xs 0).x0, (gd q.reg.xs 0).y0⟩) ⟨rfl, rfl, rfl⟩) ?_
   refine RQ.pv rfl (PV.mvI (.inr rfl) rfl) ?_
   refine RQ.nil ?_
   refine WP.ret ?_
   exact ⟨_, _, ResV.one rfl rfl, Cv.p, k⟩
theorem cmpH_s {a b : HNet} (h1 : Rs G L pieceT a.net.pieces.v a.net.pieces.xs) (h2 : Rs G L pieceT b.net.pieces.v b.net.pieces.xs) (l1 : 0 < a.net.pieces.xs.length) (l2 : 0 < b.net.pieces.xs.length) (hr1 : Rs G L rectT (gd a.net.pieces.xs 0).reg.v (gd a.net.pieces.xs 0).reg.xs) (hr2 : Rs G L rectT (gd b.net.pieces.xs 0).reg.v (gd b.net.pieces.xs 0).reg.xs) (n1 : 0 < (gd a.net.pieces.xs 0).reg.xs.length) (n2 : 0 < (gd b.net.pieces.xs 0).reg.xs.length) (y1 : 0 ≤ (gd a.net.pieces.xs 0).layer ∧ (gd a.net.pieces.xs 0).layer ≤ 7) (y2 : 0 ≤ (gd b.net.pieces.xs 0).layer ∧ (gd b.net.pieces.xs 0).layer ≤ 7) (k : R (vi (cmpP (erP (gd a.net.pieces.xs 0)) (erP (gd b.net.pieces.xs 0)))) G L) : CallT Tryz.prog 76 #[vT hnetT a, vT hnetT b] G L R := by
 refine CallT.enter (args := _) Tryz.func76 rfl rfl (by kernel_rfl) rfl ?_
 refine WP.seq (WP.region ?_)
 refine RG.ot rfl (OT.box (cs := hnetT.enc a) rfl rfl rfl fun b2 => ?_)
 refine RG.ot rfl (OT.box (cs := hnetT.enc b) rfl rfl rfl fun b3 => ?_)
 refine RG.mr rfl rfl rfl (RG.nil (WP.seq ?_))
 refine WP.regionQ (by kernel_rfl) (by kernel_rfl) ?_
 refine RQ.pv rfl (PV.field rfl Fo82_0 rfl) ?_
 refine RQ.pv rfl (PV.field rfl Fo80_0 rfl) ?_
 refine RQ.pv rfl (PV.load1 rfl Sc78 rfl (Rd.blk rfl)) ?_
 refine RQ.pv rfl (PV.idxS (j := 0) rfl Is78 rfl (SlF.r h1) rfl (by omega) (by omega)) ?_
 refine RQ.pv rfl (PV.loadE rfl Ag63 rfl rfl (El.r h1 (getG (by omega)))) ?_
 refine RQ.pv rfl (PV.field rfl Fo82_0 rfl) ?_
 refine RQ.pv rfl (PV.field rfl Fo80_0 rfl) ?_
 refine RQ.pv rfl (PV.load1 rfl Sc78 rfl (Rd.blk rfl)) ?_
 refine RQ.pv rfl (PV.idxS (j := 0) rfl Is78 rfl (SlF.r h2) rfl (by omega) (by omega)) ?_
 refine RQ.pv rfl (PV.loadE rfl Ag63 rfl rfl (El.r h2 (getG (by omega)))) ?_
 refine RQ.callF (vs := [_, _]) rfl rfl En77 rfl (cmpPcs_s (p := gd a.net.pieces.xs 0) (q := gd b.net.pieces.xs 0) (Rs.up hr1) (Rs.up hr2) n1 n2 y1 y2 ⟨rfl, rfl, rfl⟩) ?_
 refine RQ.pv rfl (PV.mvI (.inr rfl) rfl) ?_
 refine RQ.nil ?_
 refine WP.ret ?_
 exact ⟨_, _, ResV.one rfl rfl, Cv.p, k⟩
end Go.Proofs.YthhjapiggekjbaaGreat
namespace Go.Proofs.YthhjapiggekjbaaGreat
set_option linter.unusedVariables false
set_option linter.unusedSimpArgs false
open Go
set_option maxRecDepth 20000
set_option maxHeartbeats 1000000
set_option linter.unusedSimpArgs false
variable {G : Gh} {L : List Ch} {R : Value → Gh → List Ch → Prop}
def pcsL (ps : List Plc) : List (Sl Piece) := ps.map Plc.pieces
def plsL (ps : List Plc) : List (Sl Rect) := ps.map Plc.poly
def rgsL (ps : List Plc) : List (Sl Rect) := ps.flatMap fun p => regs p.pieces.xs
theorem pcsL_app (ps : List Plc) (p : Plc) : pcsL (ps ++ [p]) = pcsL ps ++ [p.pieces] := by simp [pcsL]
theorem plsL_app (ps : List Plc) (p : Plc) : plsL (ps ++ [p]) = plsL ps ++ [p.poly] := by simp [plsL]
theorem rgsL_app (ps : List Plc) (p : Plc) : rgsL (ps ++ [p]) = rgsL ps ++ regs p.pieces.xs := by simp [rgsL]
theorem Cv.plcNew {e1 e2 e3 : TypeId} {ps : List Plc} {pv u q : Value} {qs : List Piece} {us : List Rect} : Cv (osl e1 pieceT pv qs :: bagS e1 pieceT (pcsL ps) :: osl e2 rectT u us :: bagS e2 rectT (plsL ps) :: bagS e2 rectT (rgsL ps) :: bagS e2 rectT (regs qs) :: osl e3 plcT q (ps ++ [⟨⟨pv, qs⟩, ⟨u, us⟩⟩]) :: L)
   (osl e3 plcT q (ps ++ [⟨⟨pv, qs⟩, ⟨u, us⟩⟩]) :: bagS e1 pieceT (pcsL (ps ++ [⟨⟨pv, qs⟩, ⟨u, us⟩⟩])) :: bagS e2 rectT (plsL (ps ++ [⟨⟨pv, qs⟩, ⟨u, us⟩⟩])) :: bagS e2 rectT (rgsL (ps ++ [⟨⟨pv, qs⟩, ⟨u, us⟩⟩])) :: L) := by
 rw [pcsL_app, plsL_app, rgsL_app]
 exact Cv.bagS_add.trans ((Cv.cons Cv.bagS_add).trans ((Cv.cons (Cv.cons Cv.bagJn)).trans Cv.p))
def erL (ps : List Plc) : List (List (Int × List Rect) × List Rect) := ps.map fun p => (erPs p.pieces.xs, p.poly.xs)
noncomputable def plPc (cs : List ECell) (os : List EOcc) (i : Nat) : List (Int × List Rect) := (ownP cs (gd os i).cell).map (mvP (gd os i).place)
def plPoly (cs : List ECell) (os : List EOcc) (i : Nat) : List Rect := canon (bits ((gd (layL (gd cs (gd os i).cell.toNat).shapes) 1).map (moveR (gd os i).place)))
noncomputable def plcTo (cs : List ECell) (os : List EOcc) (i : Nat) : List (List (Int × List Rect) × List Rect) := (List.range i).map fun j => (plPc cs os j, plPoly cs os j)
theorem plcTo_succ (cs : List ECell) (os : List EOcc) (i : Nat) : plcTo cs os (i + 1) = plcTo cs os i ++ [(plPc cs os i, plPoly cs os i)] := by simp [plcTo, List.range_succ]
theorem OccAt.vt {xs : List Cell} {cell : Int} {zs : List Occ} {i : Nat} (ha : OccAt xs cell zs i) : validT (gd zs i).place = true := by
 obtain ⟨-, -, h3, -⟩ := occR_cell ha.hi
 rw [ha.ho] at h3; exact h3
theorem OccAt.poly {xs : List Cell} {cell : Int} {zs : List Occ} {i : Nat} (ha : OccAt xs cell zs i) (h0 : shE (erCls xs) cell = 0) : mvI (gd zs i).place (gd (layL (gd xs (gd zs i).cell.toNat).shapes.xs) 1) = plPoly (erCls xs) (occR (erCls xs) cell) i := by
 rw [mvI_eq ha.vt (by rw [layL_gd (by omega)]; exact isReg_canon (bits_length _)) (lay_mv (by omega) ha.hp.1 (ha.ok h0)), plPoly, ha.ho]
 simp only [erO, ha.hs]
theorem OccAt.pc {xs : List Cell} {cell : Int} {zs : List Occ} {i : Nat} (ha : OccAt xs cell zs i) (h0 : shE (erCls xs) cell = 0) {p : Int × List Rect} (hp : p ∈ pcE (layL (gd xs (gd zs i).cell.toNat).shapes.xs)) : (p.1, mvI (gd zs i).place p.2) = mvP (gd zs i).place p := by
 rw [mvP, mvI_eq ha.vt (pc_reg hp) (pc_mv ha.hp.1 (ha.ok h0) hp)]
theorem layers_i8 {v : Value} {ss : List Shape} (h1 : Rs G L shapeT v ss) (k : ∀ v' ys, er ys = layL ss → ys.length = 8 → R v' G (osl 50 slT v' ys :: bagS 140 rectT ys :: L)) : CallT Tryz.prog 46 #[v] G L R :=
 layers_i h1 fun v' ys he => k v' ys he (by rw [← er_len, he, layL_len])
theorem plac_i {l : Lib} {cell : Int} (hL : RLib G L l.cells.v l.cells.xs) (hlen : lenC (erCls l.cells.xs)) (k0 : shE (erCls l.cells.xs) cell ≠ 0 → R (.tuple #[.slice none 0 0, .slice none 0 0, vi (shE (erCls l.cells.xs) cell)]) G L)
   (k : shE (erCls l.cells.xs) cell = 0 → ∀ v ps u ys, erL ps = plcTo (erCls l.cells.xs) (occR (erCls l.cells.xs) cell) (occR (erCls l.cells.xs) cell).length → er ys = flyL (erCls l.cells.xs) cell → R (.tuple #[v, u, vi 0]) G (osl 152 plcT v ps :: bagS 63 pieceT (pcsL ps) :: bagS 140 rectT (plsL ps) :: bagS 140 rectT (rgsL ps) :: osl 50 slT u ys :: bagS 140 rectT ys :: L)) : CallT Tryz.prog 47 #[vT libT l, vi cell] G L R := by
 have hE := erCls_len l.cells.xs
 refine CallT.enter (args := _) Tryz.func47 rfl rfl (by kernel_rfl) rfl ?_
 refine WP.seq (WP.region ?_)
 refine RG.ot rfl (OT.box (cs := libT.enc l) rfl rfl rfl fun b2 => ?_)
 refine RG.pv rfl (PV.asg rfl rfl) (RG.pv rfl (PV.asg rfl rfl) (RG.mr rfl rfl rfl (RG.nil (WP.seq (WP.region (RG.pv rfl (PV.loadW rfl Ag31 rfl rfl) (RG.ml rfl rfl rfl ?_)))))))
 refine RG.callF (vs := [_, _]) rfl rfl En22 rfl (fly_i hL.up hlen (fun w23 ys0 hy0 => ?_))
 refine RG.pv rfl (PV.move (v := .tuple _) rfl rfl) (RG.pv rfl (PV.ext (v := w23) rfl rfl rfl) (RG.pv rfl (PV.ext rfl rfl rfl) (RG.pv rfl (PV.asg (v := w23) rfl rfl) (RG.mr rfl rfl rfl (RG.nil (WP.seq (WP.seq ?_)))))))
 refine WP.region (RG.ml rfl rfl rfl (RG.pv rfl (PV.neq rfl rfl rfl) (RG.nil ?_)))
 refine WP.cond rfl (fun h1 => ?_) (fun h1 => ?_)
 · have h1 : shE (erCls l.cells.xs) cell ≠ 0 := by simpa using h1
   refine WP.seq (WP.region (RG.ml rfl rfl rfl (RG.pv rfl (PV.asg rfl rfl) (RG.pv rfl (PV.asg rfl rfl) (RG.mr rfl rfl rfl (RG.nil ?_))))))
   refine WP.ret ?_
   exact ⟨_, _, ResV.three rfl rfl rfl rfl, Cv.p, k0 h1⟩
 · have h1 : shE (erCls l.cells.xs) cell = 0 := by simpa using h1
   refine WP.skip (WP.seq (WP.region (RG.pv rfl (PV.loadW rfl Ag31 rfl rfl) (RG.ml rfl rfl rfl ?_))))
   refine RG.callF (vs := [_, _]) rfl rfl En81 rfl (occ_i hL.up hlen (fun w32 zs he => ?_))
   refine RG.pv rfl (PV.move (v := .tuple _) rfl rfl) (RG.pv rfl (PV.ext (v := w32) rfl rfl rfl) (RG.pv rfl (PV.ext rfl rfl rfl) (RG.pv rfl (PV.asg (v := w32) rfl rfl) (RG.mr rfl rfl rfl (RG.nil (WP.seq (WP.region ?_)))))))
   refine RG.ot rfl (OT.bslice (F := plcT) (els := []) rfl El87 rfl (by decide) rfl (by decide) trivial fun v35 => ?_)
   refine RG.pv rfl (PV.asg (v := v35) rfl rfl) (RG.nil (WP.seq (WP.seq (WP.region (RG.pv rfl (PV.move (v := w32) rfl rfl) (RG.pv rfl (PV.len (v := w32) rfl Tryz.underlying94 rfl SlF.o) (RG.ml rfl rfl rfl ?_)))))))
   refine RG.nil (WP.block ?_)
   have hzl : zs.length = (occR (erCls l.cells.xs) cell).length := by rw [← he, erOs_len]
   refine WP.bdo w32 fun hbz => ?_
   refine WP.cv ((Cv.p (C := osl 152 plcT v35 ([] : List Plc) :: osl 50 slT w23 ys0 :: bagS 140 rectT ys0 :: osl 138 occT w32 zs :: bagS 2 intT (pths zs) :: blk b2 31 (libT.enc l) :: L)).trans (Cv.cons ((Cv.bag0 (e := 140) (F := rectT) (xs := rgsL []) rfl).trans ((Cv.bag0 (e := 140) (F := rectT) (xs := plsL []) rfl).trans (Cv.bag0 (e := 63) (F := pieceT) (xs := pcsL []) rfl))))) ?_
   refine WP.loop3 [2, 7, 36, 37] (fun (i : Nat) (ps : List Plc) (q : Value) => i ≤ zs.length ∧ erL ps = plcTo (erCls l.cells.xs) (occR (erCls l.cells.xs) cell) i) (fun (i : Nat) (ps : List Plc) (q : Value) => [(38, vi i), (11, q)]) (fun (i : Nat) (ps : List Plc) (q : Value) => osl 152 plcT q ps :: bagS 63 pieceT (pcsL ps) :: bagS 140 rectT (plsL ps) :: bagS 140 rectT (rgsL ps) :: osl 50 slT w23 ys0 :: bagS 140 rectT ys0 :: osl 138 occT w32 zs :: bagS 2 intT (pths zs) :: blk b2 31 (libT.enc l) :: L) (fun (i : Nat) (ps : List Plc) (q : Value) => zs.length - i) 0 [] v35 ⟨by omega, rfl⟩ ⟨rfl, rfl, trivial⟩ Cv.p ?_
   rintro i ps q τ ⟨hi, hq⟩
   refine WP.seq (WP.region (RG.pv rfl (PV.lss rfl rfl rfl) (RG.nil (WP.seq ?_))))
   have hpsl : ps.length = i := by have := congrArg List.length hq; simpa [erL, plcTo] using this
   refine WP.cond rfl (fun h2 => ?_) (fun h2 => ?_)
   · have h2 := of_decide_eq_true h2
     have h3 : i < zs.length := by omega
     have ha := OccAt.of (cell := cell) he h3
     have hrd : Rs G (bagS 2 intT (pths zs) :: []) intT (gd zs i).path.v (gd zs i).path.xs := RsE.path RsE.o h3
     have hac := ha.hc
     have hal := ha.hl
     have hsl := hL.sa ha.hc.2
     refine WP.skip (WP.seq (WP.block (WP.seq (WP.region (RG.pv rfl (PV.idxS (v := w32) rfl Is94 rfl SlF.o rfl rfl (by omega)) (RG.pv rfl (PV.loadE rfl Ag138 rfl rfl (El.o (getG (by omega)))) ?_))))))
     refine RG.ot rfl (OT.alloc rfl Zr138 fun b13 => ?_)
     refine RG.ot rfl (OT.storeW (vs := [vi _, vi _, vi _, vi _, _]) rfl Sz138 rfl rfl (Cl.c rfl) rfl rfl (OneC.val rfl (OneC.val rfl (OneC.val rfl (OneC.val rfl (OneC.sl (SlF.r hrd) OneC.nil))))) ?_)
     refine RG.nil (WP.seq (WP.region (RG.pv rfl (PV.field rfl Fo31_0 rfl) (RG.pv rfl (PV.load1 rfl Sc29 rfl (Rd.blk rfl)) (RG.pv rfl (PV.field rfl Fo138_0 rfl) (RG.pv rfl (PV.load1 rfl Sc2 rfl (Rd.blk rfl)) (RG.pv rfl (PV.idxS (j := (gd zs i).cell.toNat) rfl Is29 rfl (SlF.r hL.c) rfl (by omega) (by omega)) ?_)))))))
     refine RG.pv rfl (PV.field rfl Fo116_1 rfl) (RG.pv rfl (PV.loadF rfl Sc83 rfl rfl (El.r hL.c (getG (by omega))) rfl) ?_)
     refine RG.callF (vs := [_]) rfl rfl En46 rfl (layers_i8 (v := (gd l.cells.xs (gd zs i).cell.toNat).shapes.v) (Rs.up hsl) (fun v49 ysv49 hev49 hlv49 => ?_))
     refine RG.pv rfl (PV.asg (v := v49) rfl rfl) (RG.nil (WP.seq (WP.region (RG.pv rfl (PV.build (vs := []) (out := [_, _]) rfl Zr152 Pl152 trivial rfl) ?_))))
     refine RG.ot rfl (OT.alloc rfl Zr152 fun b15 => ?_)
     refine RG.ot rfl (OT.storeW (vs := [_, _]) rfl Sz152 rfl rfl (Cl.c rfl) rfl rfl (OneC.val rfl (OneC.val rfl OneC.nil)) ?_)
     refine RG.nil (WP.seq ?_)
     refine WP.regionHD [.b b15] (.q 0 (.q 1 (.q 2 (.q 3 (.q 4 (.l 5 (.q 6 (.q 7 (.q 8 (.q 9 (.l 10 Sch.nil))))))))))) (by kernel_rfl) (by kernel_rfl) (by kernel_rfl) rfl ?_
     refine RH.pv rfl (fun _ _ _ _ h => h) (Gh.le_refl _) PickC.pick rfl (PV.field rfl Fo138_1 rfl) ?_
     refine RH.pv rfl (fun _ _ _ _ h => h) (Gh.le_refl _) PickC.pick rfl (PV.loadB (vs := [_, _, _]) rfl Ag136 rfl rfl rfl) ?_
     refine RH.pv rfl (fun _ _ _ _ h => h) (Gh.le_refl _) PickC.pick rfl (PV.move (v := v49) rfl rfl) ?_
     refine RH.pv rfl (fun _ _ _ _ h => h) (Gh.le_refl _) PickC.pick rfl (PV.idxS (j := 1) (v := v49) rfl Is47 rfl SlF.o rfl (by omega) (by omega)) ?_
     refine RH.pv rfl (fun _ _ _ _ h => h) (Gh.le_refl _) PickC.pick rfl (PV.loadE1 rfl Sc50 rfl rfl (El.o (getG (by omega))) rfl) ?_
     refine RH.ot rfl rfl (OT.callF (vs := [_, _]) rfl En86 rfl (mvReg_i (Rs.inBag (xs := ysv49) 1 (by omega)) (fun w57 => ⟨Gh.le_refl _, PickC.pick, ?_⟩)))
     refine RH.pv rfl (fun _ _ _ _ h => h) (Gh.le_refl _) PickC.pick rfl (PV.move (v := .tuple _) rfl rfl) ?_
     refine RH.pv rfl (fun _ _ _ _ h => h) (Gh.le_refl _) PickC.pick rfl (PV.ext (v := w57) rfl rfl rfl) ?_
     refine RH.pv rfl (fun _ _ _ _ h => h) (Gh.le_refl _) PickC.pick rfl (PV.ext rfl rfl rfl) ?_
     refine RH.pv rfl (fun _ _ _ _ h => h) (Gh.le_refl _) PickC.pick rfl (PV.field rfl Fo152_1 rfl) ?_
     refine RH.ot rfl rfl (OT.storeB (v := w57) (vs := [_]) (cs' := [_, _]) rfl Sz50 rfl rfl (Cl.s (v := w57) SlF.o) rfl (OneC.sl SlF.o OneC.nil) rfl rfl ⟨Gh.le_refl _, PickC.pick, ?_⟩)
     refine RH.nil ?_
     refine WP.seq (WP.seq (WP.region (RG.pv rfl (PV.move (v := v49) rfl rfl) ?_)))
     refine RG.callF (vs := [v49]) rfl rfl En87 rfl (pieces_s (v := v49) (xs := ysv49) Rs.o RsE.o (by rw [hev49]; exact isLay_layL _) (fun v62 psv62 hpv62 => ?_))
     refine RG.pv rfl (PV.len (v := v62) rfl Tryz.underlying78 rfl SlF.o) (RG.ml rfl rfl rfl (RG.nil (WP.block ?_)))
     have hpe : erPs psv62 = pcE (layL (gd l.cells.xs (gd zs i).cell.toNat).shapes.xs) := by rw [hpv62, hev49, pcE, isLay_layL]; rfl
     have hpb : psv62.length ≤ 25600 := by rw [← erPs_len, hpe]; exact pcE_len _
     have hpo : ownP (erCls l.cells.xs) (gd (occR (erCls l.cells.xs) cell) i).cell = erPs psv62 := by rw [hpe, ha.ho]; exact ha.own
     refine WP.cv ((Cv.p (C := osl 140 rectT w57 (mvI (gd zs i).place (gd ysv49 1).xs) :: osl 63 pieceT v62 psv62 :: bagS 140 rectT (regs psv62) :: blk b15 152 [.slice none 0 0, w57] :: blk b13 138 (occT.enc (gd zs i)) :: osl 152 plcT q ps :: bagS 63 pieceT (pcsL ps) :: bagS 140 rectT (plsL ps) :: bagS 140 rectT (rgsL ps) :: osl 50 slT w23 ys0 :: bagS 140 rectT ys0 :: osl 138 occT w32 zs :: bagS 2 intT (pths zs) :: blk b2 31 (libT.enc l) :: L)).trans ((Cv.bag0 (e := 140) (F := rectT) (xs := regs []) rfl).trans (Cv.nilS (e := 63) (F := pieceT)))) ?_
     refine WP.loop3 [2, 7, 11, 13, 15, 36, 37, 38, 62, 63] (fun (m : Nat) (qs : List Piece) (pv : Value) => m ≤ psv62.length ∧ erPs qs = ((erPs psv62).map (mvP (gd zs i).place)).take m) (fun (m : Nat) (qs : List Piece) (pv : Value) => [(64, vi m)]) (fun (m : Nat) (qs : List Piece) (pv : Value) => osl 63 pieceT pv qs :: bagS 140 rectT (regs qs) :: osl 140 rectT w57 (mvI (gd zs i).place (gd ysv49 1).xs) :: osl 63 pieceT v62 psv62 :: bagS 140 rectT (regs psv62) :: blk b15 152 [pv, w57] :: blk b13 138 (occT.enc (gd zs i)) :: osl 152 plcT q ps :: bagS 63 pieceT (pcsL ps) :: bagS 140 rectT (plsL ps) :: bagS 140 rectT (rgsL ps) :: osl 50 slT w23 ys0 :: bagS 140 rectT ys0 :: osl 138 occT w32 zs :: bagS 2 intT (pths zs) :: blk b2 31 (libT.enc l) :: L) (fun (m : Nat) (qs : List Piece) (pv : Value) => psv62.length - m) 0 [] (.slice none 0 0) ⟨by omega, rfl⟩ ⟨rfl, trivial⟩ Cv.p ?_
     rintro m qs pv τ1 ⟨hm, hr⟩
     refine WP.seq (WP.region (RG.pv rfl (PV.lss rfl rfl rfl) (RG.nil (WP.seq ?_))))
     have hql : qs.length ≤ 25600 := by rw [← erPs_len, hr, List.length_take]; omega
     refine WP.cond rfl (fun h4 => ?_) (fun h4 => ?_)
     · have h4 := of_decide_eq_true h4
       have h5 : m < psv62.length := by omega
       have hpm := gd_memP hpe h5
       have hrp : Rs G (bagS 140 rectT (regs psv62) :: []) rectT (gd psv62 m).reg.v (gd psv62 m).reg.xs := RsE.reg RsE.o h5
       have hnx : ∀ w, erPs (qs ++ [⟨(gd psv62 m).layer, ⟨w, mvI (gd zs i).place (gd psv62 m).reg.xs⟩⟩]) = ((erPs psv62).map (mvP (gd zs i).place)).take (m + 1) := fun w => by
         rw [List.take_add_one, getG (by rw [List.length_map, erPs_len]; exact h5), ← hr, gd_map _ (by rw [erPs_len]; exact h5), erPs_gd h5, ← ha.pc h1 hpm, erPs, List.map_append]
         rfl
       refine WP.skip (WP.seq (WP.block (WP.seq (WP.region (RG.pv rfl (PV.idxS (v := v62) rfl Is78 rfl SlF.o rfl rfl (by omega)) (RG.pv rfl (PV.loadE rfl Ag63 rfl rfl (El.o (getG (by omega)))) ?_))))))
       refine RG.ot rfl (OT.alloc rfl Zr63 fun b17 => ?_)
       refine RG.ot rfl (OT.storeW (vs := [vi _, _]) rfl Sz63 rfl rfl (Cl.c rfl) rfl rfl (OneC.val rfl (OneC.sl (SlF.r hrp) OneC.nil)) ?_)
       refine RG.nil (WP.seq (WP.region (RG.pv rfl (PV.field rfl Fo138_1 rfl) (RG.pv rfl (PV.loadB (vs := [_, _, _]) rfl Ag136 rfl rfl rfl) (RG.pv rfl (PV.field rfl Fo63_1 rfl) (RG.pv rfl (PV.load1 rfl Sc50 rfl (Rd.blk rfl)) ?_))))))
       refine RG.callF (vs := [_, _]) rfl rfl En86 rfl (mvReg_i (RsE.reg (RsE.o (xs := regs psv62)) h5) (fun w73 => ?_))
       refine RG.pv rfl (PV.move (v := .tuple _) rfl rfl) (RG.pv rfl (PV.ext (v := w73) rfl rfl rfl) (RG.pv rfl (PV.ext rfl rfl rfl) (RG.pv rfl (PV.asg (v := w73) rfl rfl) (RG.br rfl rfl rfl (RG.nil (WP.region (RG.pv rfl (PV.field rfl Fo152_0 rfl) ?_)))))))
       refine RG.pv rfl (PV.load1 rfl Sc78 rfl (Rd.blk rfl)) (RG.pv rfl (PV.field rfl Fo63_0 rfl) (RG.pv rfl (PV.load1 rfl Sc2 rfl (Rd.blk rfl)) (RG.pv rfl (PV.move (v := w73) rfl rfl) (RG.pv rfl (PV.build (vs := [(0, [vi _]), (1, [w73])]) (out := [_, _]) rfl Zr63 Pl63 ⟨rfl, (Cl.c rfl), ⟨rfl, (Cl.s (v := w73) SlF.o), trivial⟩⟩ rfl) ?_))))
       refine RG.ot rfl (OT.bslice (F := pieceT) (els := [⟨(gd psv62 m).layer, ⟨w73, mvI (gd zs i).place (gd psv62 m).reg.xs⟩⟩]) rfl El78 rfl (by decide) rfl (by decide) ⟨rfl, (Cl.c rfl), trivial⟩ fun v82 => ?_)
       refine RG.ot rfl (OT.append (v := pv) (u := v82) (F := pieceT) rfl El78 rfl (by decide) rfl rfl Rs.o (OneL.one (OneC.val rfl (OneC.sl (SlF.o (v := w73)) OneC.nil))) rfl (by first | omega | (simp <;> omega)) fun v83 => ?_)
       refine RG.pv rfl (PV.field rfl Fo152_0 rfl) ?_
       refine RG.ot rfl (OT.storeB (v := v83) (vs := [_]) (cs' := [_, _]) rfl Sz78 rfl rfl (Cl.s (v := v83) SlF.o) rfl (OneC.sl SlF.o OneC.nil) rfl rfl ?_)
       refine RG.nil (WP.region (RG.pv rfl (PV.add rfl rfl rfl (by omega)) (RG.ml rfl rfl rfl (RG.nil ?_))))
       exact ⟨rfl, m + 1, (qs ++ [⟨(gd psv62 m).layer, ⟨w73, mvI (gd zs i).place (gd psv62 m).reg.xs⟩⟩]), v83, ⟨by omega, hnx _⟩, ⟨rfl, trivial⟩, ⟨rfl, rfl, rfl, rfl, rfl, rfl, rfl, rfl, rfl, rfl, trivial⟩, ((Cv.p (C := osl 140 rectT w73 (mvI (gd zs i).place (gd psv62 m).reg.xs) :: bagS 140 rectT (regs qs) :: osl 63 pieceT v83 (qs ++ [⟨(gd psv62 m).layer, ⟨w73, mvI (gd zs i).place (gd psv62 m).reg.xs⟩⟩]) :: osl 140 rectT w57 (mvI (gd zs i).place (gd ysv49 1).xs) :: osl 63 pieceT v62 psv62 :: bagS 140 rectT (regs psv62) :: blk b15 152 [v83, w57] :: blk b13 138 (occT.enc (gd zs i)) :: osl 152 plcT q ps :: bagS 63 pieceT (pcsL ps) :: bagS 140 rectT (plsL ps) :: bagS 140 rectT (rgsL ps) :: osl 50 slT w23 ys0 :: bagS 140 rectT ys0 :: osl 138 occT w32 zs :: bagS 2 intT (pths zs) :: blk b2 31 (libT.enc l) :: L)).trans ((Cv.grow (ys' := regs (qs ++ [⟨(gd psv62 m).layer, ⟨w73, mvI (gd zs i).place (gd psv62 m).reg.xs⟩⟩])) (regs_append _ _)).trans Cv.p)), by omega⟩
     · have h4 := of_decide_eq_false h4
       obtain rfl : m = psv62.length := by omega
       have hy1 : (gd ysv49 1).xs = gd (layL (gd l.cells.xs (gd zs i).cell.toNat).shapes.xs) 1 := by rw [← er_gd, hev49]
       have hnp : ∀ w u, erL (ps ++ [⟨⟨w, qs⟩, ⟨u, mvI (gd zs i).place (gd ysv49 1).xs⟩⟩]) = plcTo (erCls l.cells.xs) (occR (erCls l.cells.xs) cell) (i + 1) := fun w u => by
         rw [plcTo_succ, ← hq, ← ha.poly h1, hy1, plPc, hpo, ha.ho, erL, List.map_append]
         simp only [List.map_cons, List.map_nil, erO]
         rw [hr, List.take_of_length_le (by rw [List.length_map, erPs_len]; omega)]
         rfl
       refine WP.exit ?_
       refine WP.region (RG.pv rfl (PV.move (v := q) rfl rfl) (RG.pv rfl (PV.loadW rfl Ag152 rfl rfl) ?_))
       refine RG.ot rfl (OT.bslice (F := plcT) (els := [⟨⟨pv, qs⟩, ⟨w57, mvI (gd zs i).place (gd ysv49 1).xs⟩⟩]) rfl El87 rfl (by decide) rfl (by decide) ⟨rfl, (Cl.c rfl), trivial⟩ fun v88 => ?_)
       refine RG.ot rfl (OT.append (v := q) (u := v88) (F := plcT) rfl El87 rfl (by decide) rfl rfl Rs.o (OneL.one (OneC.sl (SlF.o (v := pv)) (OneC.sl (SlF.o (v := w57)) OneC.nil))) rfl (by first | omega | (simp <;> omega)) fun v89 => ?_)
       refine RG.pv rfl (PV.asg (v := v89) rfl rfl) (RG.nil (WP.region (RG.pv rfl (PV.add rfl rfl rfl (by omega)) (RG.ml rfl rfl rfl (RG.nil ?_)))))
       exact ⟨rfl, i + 1, (ps ++ [⟨⟨pv, qs⟩, ⟨w57, mvI (gd zs i).place (gd ysv49 1).xs⟩⟩]), v89, ⟨by omega, hnp _ _⟩, ⟨rfl, rfl, trivial⟩, ⟨rfl, rfl, rfl, rfl, trivial⟩, ((Cv.p (C := osl 63 pieceT pv qs :: bagS 63 pieceT (pcsL ps) :: osl 140 rectT w57 (mvI (gd zs i).place (gd ysv49 1).xs) :: bagS 140 rectT (plsL ps) :: bagS 140 rectT (rgsL ps) :: bagS 140 rectT (regs qs) :: osl 152 plcT v89 (ps ++ [⟨⟨pv, qs⟩, ⟨w57, mvI (gd zs i).place (gd ysv49 1).xs⟩⟩]) :: osl 50 slT w23 ys0 :: bagS 140 rectT ys0 :: osl 138 occT w32 zs :: bagS 2 intT (pths zs) :: blk b2 31 (libT.enc l) :: L)).trans Cv.plcNew), by omega⟩
   · have h2 := of_decide_eq_false h2
     obtain rfl : i = zs.length := by omega
     rw [hzl] at hq
     refine WP.exit ?_
     refine WP.seq (WP.region (RG.pv rfl (PV.move (v := q) rfl rfl) (RG.pv rfl (PV.move (v := w23) rfl rfl) (RG.pv rfl (PV.asg (v := q) rfl rfl) (RG.pv rfl (PV.asg (v := w23) rfl rfl) (RG.mr rfl rfl rfl (RG.nil ?_)))))))
     refine WP.ret ?_
     exact ⟨_, _, ResV.three rfl rfl rfl rfl, Cv.p, k h1 q ps w23 ys0 hq hy0⟩
end Go.Proofs.YthhjapiggekjbaaGreat
namespace Go.Proofs.YthhjapiggekjbaaGreat
set_option linter.unusedVariables false
set_option linter.unusedSimpArgs false
open Go
set_option maxRecDepth 20000
set_option maxHeartbeats 1000000
set_option linter.unusedSimpArgs false
variable {G : Gh} {L : List Ch} {R : Value → Gh → List Ch → Prop}
theorem RsE.mem {α : Type} [Inhabited α] {F : FT α} {xs : List (Sl α)} (h : RsE G L F xs) {s : Sl α} (hs : s ∈ xs) : Rs G L F s.v s.xs := by
 obtain ⟨i, hi, rfl⟩ := List.getElem_of_mem hs
 have := h i hi
 rwa [gd_eq hi] at this
def mkQ (i : Nat) (p : Piece) : PPiece := ⟨(i : Int), p⟩
def numTo (ps : List Plc) (i : Nat) : List PPiece := (List.range i).flatMap fun j => (gd ps j).pieces.xs.map (mkQ j)
theorem numTo_succ (ps : List Plc) (i : Nat) : numTo ps (i + 1) = numTo ps i ++ (gd ps i).pieces.xs.map (mkQ i) := by simp [numTo, List.range_succ]
theorem numTo_mono (ps : List Plc) {i j : Nat} (h : i ≤ j) : (numTo ps i).length ≤ (numTo ps j).length := by
 induction j with
 | zero => have : i = 0 := by omega
           rw [this]; exact Nat.le_refl _
 | succ j ih =>
   by_cases c : i = j + 1
   · rw [c]; exact Nat.le_refl _
   · have := ih (by omega)
     rw [numTo_succ, List.length_append]; omega
theorem numTo_regs {ps : List Plc} : ∀ i, i ≤ ps.length → regsQ (numTo ps i) = rgsL (ps.take i)
 | 0, _ => rfl
 | i + 1, h => by
   have ih := numTo_regs (ps := ps) i (by omega)
   rw [numTo_succ, regsQ_append, ih, List.take_add_one, getG (by omega)]
   simp [rgsL, regsQ, regs, mkQ, Function.comp_def]
theorem numTo_er {ps : List Plc} {cs : List ECell} {os : List EOcc} {n : Nat} (h : erL ps = plcTo cs os n) : ∀ i, i ≤ n → erQs (numTo ps i) = plTo cs os i
 | 0, _ => rfl
 | i + 1, hi => by
   have ih := numTo_er h i (by omega)
   have hl : ps.length = n := by have := congrArg List.length h; simpa [erL, plcTo] using this
   have e : erPs (gd ps i).pieces.xs = plPc cs os i := by
     have h1 : gd (erL ps) i = (plPc cs os i, plPoly cs os i) := by rw [h, plcTo, gd_map _ (by rw [List.length_range]; omega), range_gd (by omega)]
     rw [erL, gd_map _ (by omega)] at h1
     exact congrArg Prod.fst h1
   rw [numTo_succ, plTo_succ, ← ih, erQs, List.map_append]
   congr 1
   have e2 : plAt cs os i = (plPc cs os i).map fun p => ((i : Int), p) := by simp [plAt, plPc, Function.comp_def]
   rw [e2, ← e]
   simp [erPs, erQ, mkQ, Function.comp_def]
theorem placedP_i {v : Value} {ps : List Plc} (h1 : Rs G L plcT v ps) (hp : RsE G L pieceT (pcsL ps)) (hq : RsE G L rectT (plsL ps)) (hr : RsE G L rectT (rgsL ps)) (hl : (numTo ps ps.length).length ≤ 6000000) (k : ∀ v', R v' G (osl 65 ppieceT v' (numTo ps ps.length) :: L)) : CallT Tryz.prog 49 #[v] G L R := by
 refine CallT.bd h1 fun hbz => ?_
 refine CallT.enter (args := _) Tryz.func49 rfl rfl (by kernel_rfl) rfl ?_
 refine WP.seq (WP.region (RG.pv rfl (PV.asg rfl rfl) (RG.nil (WP.seq (WP.region ?_)))))
 refine RG.ot rfl (OT.bslice (F := ppieceT) (els := []) rfl El53 rfl (by decide) rfl (by decide) trivial fun v8 => ?_)
 refine RG.pv rfl (PV.asg (v := v8) rfl rfl) (RG.nil (WP.seq (WP.seq (WP.region (RG.pv rfl (PV.move (v := v) rfl rfl) (RG.pv rfl (PV.len (v := v) rfl Tryz.underlying87 rfl (SlF.r h1)) (RG.ml rfl rfl rfl ?_)))))))
 refine RG.nil (WP.block ?_)
 refine WP.cv (Cv.eqS (show [] = numTo ps 0 from rfl)) ?_
 refine WP.loop2 [9, 10] (fun (i : Nat) (q : Value) => i ≤ ps.length) (fun (i : Nat) (q : Value) => [(11, vi i), (3, q)]) (fun (i : Nat) (q : Value) => osl 65 ppieceT q (numTo ps i) :: L) (fun (i : Nat) (q : Value) => ps.length - i) 0 v8 (by omega) ⟨rfl, rfl, trivial⟩ Cv.p ?_
 rintro i q τ hi
 refine WP.seq (WP.region (RG.pv rfl (PV.lss rfl rfl rfl) (RG.nil (WP.seq ?_))))
 refine WP.cond rfl (fun h2 => ?_) (fun h2 => ?_)
 · have h2 := of_decide_eq_true h2
   have h3 : i < ps.length := by omega
   have hpp : Rs G L pieceT (gd ps i).pieces.v (gd ps i).pieces.xs := hp.mem (List.mem_map.2 ⟨gd ps i, gd_mem h3, rfl⟩)
   have hqq : Rs G L rectT (gd ps i).poly.v (gd ps i).poly.xs := hq.mem (List.mem_map.2 ⟨gd ps i, gd_mem h3, rfl⟩)
   have hm1 := numTo_mono ps (i := i + 1) (j := ps.length) (by omega)
   have hm2 : (numTo ps (i + 1)).length = (numTo ps i).length + (gd ps i).pieces.xs.length := by rw [numTo_succ, List.length_append, List.length_map]
   refine WP.skip (WP.seq (WP.block (WP.seq (WP.region (RG.ml rfl rfl rfl (RG.pv rfl (PV.idxS (v := v) rfl Is87 rfl (SlF.r h1) rfl rfl (by omega)) (RG.pv rfl (PV.loadE rfl Ag152 rfl rfl (El.r h1 (getG (by omega)))) ?_)))))))
   refine RG.ot rfl (OT.alloc rfl Zr152 fun b5 => ?_)
   refine RG.mr rfl rfl rfl ?_
   refine RG.ot rfl (OT.storeW (vs := [_, _]) rfl Sz152 rfl rfl (Cl.c rfl) rfl rfl (OneC.sl (SlF.r hpp) (OneC.sl (SlF.r hqq) OneC.nil)) ?_)
   refine RG.nil (WP.seq (WP.region (RG.pv rfl (PV.field rfl Fo152_0 rfl) (RG.pv rfl (PV.load1 rfl Sc78 rfl (Rd.blk rfl)) (RG.pv rfl (PV.len rfl Tryz.underlying78 rfl (SlF.r hpp)) (RG.ml rfl rfl rfl (RG.nil ?_)))))))
   refine WP.block ?_
   refine WP.cv ((Cv.p (C := osl 65 ppieceT q (numTo ps i) :: blk b5 152 (plcT.enc (gd ps i)) :: L)).trans (Cv.eqS (ys := numTo ps i ++ ((gd ps i).pieces.xs.take 0).map (mkQ i)) (by simp))) ?_
   refine WP.loop2 [4, 9, 10, 11, 17, 18] (fun (m : Nat) (w : Value) => m ≤ (gd ps i).pieces.xs.length) (fun (m : Nat) (w : Value) => [(19, vi m), (3, w)]) (fun (m : Nat) (w : Value) => osl 65 ppieceT w (numTo ps i ++ ((gd ps i).pieces.xs.take m).map (mkQ i)) :: blk b5 152 (plcT.enc (gd ps i)) :: L) (fun (m : Nat) (w : Value) => (gd ps i).pieces.xs.length - m) 0 q (by omega) ⟨rfl, rfl, trivial⟩ Cv.p ?_
   rintro m w τ1 hm
   refine WP.seq (WP.region (RG.pv rfl (PV.lss rfl rfl rfl) (RG.nil (WP.seq ?_))))
   have hlw : (numTo ps i ++ ((gd ps i).pieces.xs.take m).map (mkQ i)).length ≤ 6000000 := by rw [List.length_append, List.length_map, List.length_take]; omega
   refine WP.cond rfl (fun h4 => ?_) (fun h4 => ?_)
   · have h4 := of_decide_eq_true h4
     have h5 : m < (gd ps i).pieces.xs.length := by omega
     have hrr : Rs G L rectT (gd (gd ps i).pieces.xs m).reg.v (gd (gd ps i).pieces.xs m).reg.xs := hr.mem (List.mem_flatMap.2 ⟨gd ps i, gd_mem h3, List.mem_map.2 ⟨_, gd_mem h5, rfl⟩⟩)
     refine WP.skip (WP.seq (WP.block (WP.seq (WP.region (RG.pv rfl (PV.idxS rfl Is78 rfl (SlF.r hpp) rfl rfl (by omega)) (RG.pv rfl (PV.loadE rfl Ag63 rfl rfl (El.r hpp (getG (by omega)))) ?_))))))
     refine RG.ot rfl (OT.alloc rfl Zr63 fun b7 => ?_)
     refine RG.ot rfl (OT.storeW (vs := [vi _, _]) rfl Sz63 rfl rfl (Cl.c rfl) rfl rfl (OneC.val rfl (OneC.sl (SlF.r hrr) OneC.nil)) ?_)
     refine RG.nil (WP.region (RG.pv rfl (PV.move (v := w) rfl rfl) (RG.ml rfl rfl rfl (RG.pv rfl (PV.loadW rfl Ag63 rfl rfl) (RG.pv rfl (PV.build (vs := [(0, [vi _]), (1, [vi _, _])]) (out := [_, _, _]) rfl Zr65 Pl65 ⟨rfl, (Cl.c rfl), ⟨rfl, (Cl.c rfl), trivial⟩⟩ rfl) ?_)))))
     refine RG.ot rfl (OT.bslice (F := ppieceT) (els := [⟨(i : Int), gd (gd ps i).pieces.xs m⟩]) rfl El53 rfl (by decide) rfl (by decide) ⟨rfl, (Cl.c rfl), trivial⟩ fun v27 => ?_)
     refine RG.ot rfl (OT.append (v := w) (u := v27) (F := ppieceT) rfl El53 rfl (by decide) rfl rfl Rs.o (OneL.one (OneC.val rfl (OneC.val rfl (OneC.sl (SlF.r hrr) OneC.nil)))) rfl (by first | omega | (simp <;> omega)) fun v28 => ?_)
     refine RG.pv rfl (PV.asg (v := v28) rfl rfl) (RG.nil (WP.region (RG.pv rfl (PV.add rfl rfl rfl (by omega)) (RG.ml rfl rfl rfl (RG.nil ?_)))))
     exact ⟨rfl, m + 1, v28, (by omega), ⟨rfl, rfl, trivial⟩, ⟨rfl, rfl, rfl, rfl, rfl, rfl, trivial⟩, ((Cv.p (C := osl 65 ppieceT v28 (numTo ps i ++ ((gd ps i).pieces.xs.take m).map (mkQ i) ++ [⟨(i : Int), gd (gd ps i).pieces.xs m⟩]) :: blk b5 152 (plcT.enc (gd ps i)) :: L)).trans (Cv.eqS (by rw [List.take_add_one, getG (by omega), List.map_append, List.append_assoc]; rfl))), by omega⟩
   · have h4 := of_decide_eq_false h4
     obtain rfl : m = (gd ps i).pieces.xs.length := by omega
     refine WP.exit ?_
     refine WP.region (RG.pv rfl (PV.add rfl rfl rfl (by omega)) (RG.ml rfl rfl rfl (RG.nil ?_)))
     exact ⟨rfl, i + 1, w, (by omega), ⟨rfl, rfl, trivial⟩, ⟨rfl, rfl, trivial⟩, ((Cv.p (C := osl 65 ppieceT w (numTo ps i ++ ((gd ps i).pieces.xs.take (gd ps i).pieces.xs.length).map (mkQ i)) :: L)).trans (Cv.eqS (by rw [List.take_length, numTo_succ]))), by omega⟩
 · have h2 := of_decide_eq_false h2
   obtain rfl : i = ps.length := by omega
   refine WP.exit ?_
   refine WP.seq (WP.region (RG.pv rfl (PV.move (v := q) rfl rfl) (RG.pv rfl (PV.asg (v := q) rfl rfl) (RG.nil ?_))))
   refine WP.ret ?_
   exact ⟨_, _, ResV.one rfl rfl, Cv.p, k q⟩
noncomputable def ppAll (cs : List ECell) (cell : Int) : List (Int × (Int × List Rect)) := plTo cs (occR cs cell) (occR cs cell).length
noncomputable def ppC (cs : List ECell) (cell : Int) : Int := bif decide (shE cs cell = 0) then (bif decide (400 < (ppAll cs cell).length) then 3 else 0) else shE cs cell
theorem ppC_no {cs : List ECell} {cell : Int} (h : shE cs cell ≠ 0) : ppC cs cell = shE cs cell := by rw [ppC, decide_eq_false h]; rfl
theorem ppC_yes {cs : List ECell} {cell : Int} (h : shE cs cell = 0) : ppC cs cell = bif decide (400 < (ppAll cs cell).length) then 3 else 0 := by rw [ppC, decide_eq_true h]; rfl
theorem ppAll_len (cs : List ECell) (cell : Int) : (ppAll cs cell).length ≤ 25600 * (occR cs cell).length := plTo_len _ _ _
theorem occR_200 (cs : List ECell) (cell : Int) : (occR cs cell).length ≤ 200 := by
 by_cases h : 0 < (occR cs cell).length
 · exact (occR_cell (i := 0) h).2.2.2
 · omega
end Go.Proofs.YthhjapiggekjbaaGreat
namespace Go.Proofs.YthhjapiggekjbaaGreat
set_option linter.unusedVariables false
set_option linter.unusedSimpArgs false
open Go
set_option maxRecDepth 20000
set_option maxHeartbeats 1000000
set_option linter.unusedSimpArgs false
variable {G : Gh} {L : List Ch} {R : Value → Gh → List Ch → Prop}
theorem RsE.regQ {xs : List PPiece} (h : RsE G L rectT (regsQ xs)) {i : Nat} (hi : i < xs.length) : Rs G L rectT (gd xs i).piece.reg.v (gd xs i).piece.reg.xs := by
 have := h i (by rw [regsQ_len]; exact hi); rwa [regsQ_gd hi] at this
theorem erQs_gd {xs : List PPiece} {i : Nat} (h : i < xs.length) : gd (erQs xs) i = erQ (gd xs i) := gd_map _ h
end Go.Proofs.YthhjapiggekjbaaGreat
namespace Go.Proofs.YthhjapiggekjbaaGreat
set_option linter.unusedVariables false
set_option linter.unusedSimpArgs false
open Go
set_option maxRecDepth 20000
set_option maxHeartbeats 1000000
set_option linter.unusedSimpArgs false
variable {G : Gh} {L : List Ch} {R : Value → Gh → List Ch → Prop}
theorem gb_zip2 {f : Bool → Bool → Bool} {a b : List Bool} (ha : a.length = 6400) (hb : b.length = 6400) {y x : Nat} (hy : y < 80) (hx : x < 80) : gb (zipB f a b) y x = f (gb a y x) (gb b y x) := by
 unfold gb; rw [zipB_gd (by omega) (by omega)]
def diffAny (E : List (Int × (Int × List Rect))) (y x : Nat) : Bool := E.any fun q => decide (q.2.1 = 0) && gb (bits q.2.2) y x
def crB (E : List (Int × (Int × List Rect))) (P : List Bool) : List Bool := (List.range 6400).map fun j => diffAny E (j / 80) (j % 80) && gb P (j / 80) (j % 80)
theorem crB_len (E : List (Int × (Int × List Rect))) (P : List Bool) : (crB E P).length = 6400 := by simp [crB]
noncomputable def crL (cs : List ECell) (cell : Int) : List Rect := bif decide (shE cs cell = 0) then canon (crB (ppAll cs cell) (bits (gd (flyL cs cell) 1))) else []
theorem fly_reg {cs : List ECell} {cell : Int} (h : shE cs cell = 0) : (flyL cs cell).length = 8 ∧ isReg (gd (flyL cs cell) 1) = true := by
 have e : flyL cs cell = layL (shR cs cell) := by rw [flyL, decide_eq_true h]; rfl
 rw [e, layL_len, layL_gd (by omega)]
 exact ⟨rfl, isReg_canon (bits_length _)⟩
end Go.Proofs.YthhjapiggekjbaaGreat
namespace Go.Proofs.YthhjapiggekjbaaGreat
set_option linter.unusedVariables false
set_option linter.unusedSimpArgs false
open Go
set_option maxRecDepth 20000
set_option maxHeartbeats 1000000
set_option linter.unusedSimpArgs false
variable {G : Gh} {L : List Ch} {R : Value → Gh → List Ch → Prop}
def othTo (ps : List Plc) (i k : Nat) (y x : Nat) : Bool := (List.range k).any fun j => decide (j ≠ i) && gb (bits (gd ps j).poly.xs) y x
def pcCr (ps : List Plc) (i : Nat) (p : Piece) (k : Nat) (y x : Nat) : Bool := decide (p.layer = 0) && (gb (bits p.reg.xs) y x && othTo ps i k y x)
def atTo (ps : List Plc) (i m : Nat) (y x : Nat) : Bool := ((gd ps i).pieces.xs.take m).any fun p => pcCr ps i p ps.length y x
def crTo (ps : List Plc) (i : Nat) (y x : Nat) : Bool := (List.range i).any fun j => atTo ps j (gd ps j).pieces.xs.length y x
theorem crTo_succ (ps : List Plc) (i y x : Nat) : crTo ps (i + 1) y x = (crTo ps i y x || atTo ps i (gd ps i).pieces.xs.length y x) := by simp [crTo, List.range_succ]
theorem othTo_succ (ps : List Plc) (i k y x : Nat) : othTo ps i (k + 1) y x = (othTo ps i k y x || (decide (k ≠ i) && gb (bits (gd ps k).poly.xs) y x)) := by simp [othTo, List.range_succ]
theorem atTo_succ {ps : List Plc} {i m : Nat} (h : m < (gd ps i).pieces.xs.length) (y x : Nat) : atTo ps i (m + 1) y x = (atTo ps i m y x || pcCr ps i (gd (gd ps i).pieces.xs m) ps.length y x) := by
 simp only [atTo, List.take_add_one, getG h, List.any_append]; simp
def anyF (zs : List (Sl Rect)) (y x : Nat) : Bool := (er zs).flatten.any fun r => inR r y x
theorem anyF_new {zs : List (Sl Rect)} {u : Value} {az bs : List Rect} (ha : isReg az = true) (hb : isReg bs = true) {y x : Nat} (hy : y < 80) (hx : x < 80) : anyF (zs ++ [⟨u, opR (fun p q => p && q) az bs⟩]) y x = (anyF zs y x || (gb (bits az) y x && gb (bits bs) y x)) := by
 have e : opR (fun p q => p && q) az bs = canon (zipB (fun p q => p && q) (bits az) (bits bs)) := by rw [opR, ha, hb]; rfl
 have e2 : (er (zs ++ [(⟨u, opR (fun p q => p && q) az bs⟩ : Sl Rect)])).flatten = (er zs).flatten ++ opR (fun p q => p && q) az bs := by simp [er]
 rw [anyF, e2, List.any_append, e, canon_any hy hx, gb_zip2 (bits_length _) (bits_length _) hy hx]; rfl
theorem cross_i {v : Value} {ps : List Plc} (h1 : Rs G L plcT v ps) (hp : RsE G L pieceT (pcsL ps)) (hq : RsE G L rectT (plsL ps)) (hr : RsE G L rectT (rgsL ps)) (hl : ps.length ≤ 200) (hl2 : ∀ i, i < ps.length → (gd ps i).pieces.xs.length ≤ 25600) (hg1 : ∀ i, i < ps.length → isReg (gd ps i).poly.xs = true) (hg2 : ∀ i, i < ps.length → ∀ m, m < (gd ps i).pieces.xs.length → isReg (gd (gd ps i).pieces.xs m).reg.xs = true)
   (k : ∀ v' zs, (∀ y x, y < 80 → x < 80 → anyF zs y x = crTo ps ps.length y x) → R v' G (osl 140 rectT v' (canon (bits (er zs).flatten)) :: L)) : CallT Tryz.prog 48 #[v] G L R := by
 refine CallT.bd h1 fun hbz => ?_
 refine CallT.enter (args := _) Tryz.func48 rfl rfl (by kernel_rfl) rfl ?_
 refine WP.seq (WP.region (RG.pv rfl (PV.asg rfl rfl) (RG.nil (WP.seq (WP.region ?_)))))
 refine RG.ot rfl (OT.bslice (F := (slT (α := Rect))) (els := []) rfl El47 rfl (by decide) rfl (by decide) trivial fun v10 => ?_)
 refine RG.pv rfl (PV.asg (v := v10) rfl rfl) (RG.nil (WP.seq (WP.seq (WP.region (RG.pv rfl (PV.move (v := v) rfl rfl) (RG.pv rfl (PV.len (v := v) rfl Tryz.underlying87 rfl (SlF.r h1)) (RG.ml rfl rfl rfl ?_)))))))
 refine RG.nil (WP.block ?_)
 refine WP.cv (Cv.cons (Cv.bag0 (e := 140) (F := rectT) (xs := []) rfl)) ?_
 refine WP.loop3 [0, 11, 12] (fun (i : Nat) (zs : List (Sl Rect)) (q : Value) => i ≤ ps.length ∧ (∀ y x, y < 80 → x < 80 → anyF zs y x = crTo ps i y x) ∧ (zs.length : Int) ≤ 5120000 * (i : Int)) (fun (i : Nat) (zs : List (Sl Rect)) (q : Value) => [(13, vi i), (3, q)]) (fun (i : Nat) (zs : List (Sl Rect)) (q : Value) => osl 50 slT q zs :: bagS 140 rectT zs :: L) (fun (i : Nat) (zs : List (Sl Rect)) (q : Value) => ps.length - i) 0 [] v10 ⟨by omega, fun y x _ _ => by simp [anyF, er, crTo], by simp⟩ ⟨rfl, rfl, trivial⟩ Cv.p ?_
 rintro i zs q τ ⟨hi, hz, hzl⟩
 refine WP.seq (WP.region (RG.pv rfl (PV.lss rfl rfl rfl) (RG.nil (WP.seq ?_))))
 refine WP.cond rfl (fun h2 => ?_) (fun h2 => ?_)
 · have h2 := of_decide_eq_true h2
   have h3 : i < ps.length := by omega
   have hpp : Rs G L pieceT (gd ps i).pieces.v (gd ps i).pieces.xs := hp.mem (List.mem_map.2 ⟨gd ps i, gd_mem h3, rfl⟩)
   have hqq : Rs G L rectT (gd ps i).poly.v (gd ps i).poly.xs := hq.mem (List.mem_map.2 ⟨gd ps i, gd_mem h3, rfl⟩)
   have hpl := hl2 i h3
   refine WP.skip (WP.seq (WP.block (WP.seq (WP.region (RG.ml rfl rfl rfl (RG.pv rfl (PV.idxS (v := v) rfl Is87 rfl (SlF.r h1) rfl rfl (by omega)) (RG.pv rfl (PV.loadE rfl Ag152 rfl rfl (El.r h1 (getG (by omega)))) ?_)))))))
   refine RG.ot rfl (OT.alloc rfl Zr152 fun b5 => ?_)
   refine RG.mr rfl rfl rfl ?_
   refine RG.ot rfl (OT.storeW (vs := [_, _]) rfl Sz152 rfl rfl (Cl.c rfl) rfl rfl (OneC.sl (SlF.r hpp) (OneC.sl (SlF.r hqq) OneC.nil)) ?_)
   refine RG.nil (WP.seq (WP.region (RG.pv rfl (PV.field rfl Fo152_0 rfl) (RG.pv rfl (PV.load1 rfl Sc78 rfl (Rd.blk rfl)) (RG.pv rfl (PV.len rfl Tryz.underlying78 rfl (SlF.r hpp)) (RG.ml rfl rfl rfl (RG.nil ?_)))))))
   refine WP.block ?_
   refine WP.loop3 [0, 4, 11, 12, 13, 19, 20] (fun (m : Nat) (zs : List (Sl Rect)) (w : Value) => m ≤ (gd ps i).pieces.xs.length ∧ (∀ y x, y < 80 → x < 80 → anyF zs y x = (crTo ps i y x || atTo ps i m y x)) ∧ (zs.length : Int) ≤ 5120000 * (i : Int) + 200 * (m : Int)) (fun (m : Nat) (zs : List (Sl Rect)) (w : Value) => [(21, vi m), (3, w)]) (fun (m : Nat) (zs : List (Sl Rect)) (w : Value) => osl 50 slT w zs :: bagS 140 rectT zs :: blk b5 152 (plcT.enc (gd ps i)) :: L) (fun (m : Nat) (zs : List (Sl Rect)) (w : Value) => (gd ps i).pieces.xs.length - m) 0 zs q ⟨by omega, fun y x a b => by rw [hz y x a b]; simp [atTo], by omega⟩ ⟨rfl, rfl, trivial⟩ Cv.p ?_
   rintro m zs w τ1 ⟨hm, hz, hzm⟩
   refine WP.seq (WP.region (RG.pv rfl (PV.lss rfl rfl rfl) (RG.nil (WP.seq ?_))))
   refine WP.cond rfl (fun h4 => ?_) (fun h4 => ?_)
   · have h4 := of_decide_eq_true h4
     have h5 : m < (gd ps i).pieces.xs.length := by omega
     have hrr : Rs G L rectT (gd (gd ps i).pieces.xs m).reg.v (gd (gd ps i).pieces.xs m).reg.xs := hr.mem (List.mem_flatMap.2 ⟨gd ps i, gd_mem h3, List.mem_map.2 ⟨_, gd_mem h5, rfl⟩⟩)
     have hat := fun y x => atTo_succ h5 y x
     refine WP.skip (WP.seq (WP.block (WP.seq (WP.region (RG.pv rfl (PV.idxS rfl Is78 rfl (SlF.r hpp) rfl rfl (by omega)) (RG.pv rfl (PV.loadE rfl Ag63 rfl rfl (El.r hpp (getG (by omega)))) ?_))))))
     refine RG.ot rfl (OT.alloc rfl Zr63 fun b7 => ?_)
     refine RG.ot rfl (OT.storeW (vs := [vi _, _]) rfl Sz63 rfl rfl (Cl.c rfl) rfl rfl (OneC.val rfl (OneC.sl (SlF.r hrr) OneC.nil)) ?_)
     refine RG.nil (WP.seq (WP.seq (WP.region (RG.pv rfl (PV.field rfl Fo63_0 rfl) (RG.pv rfl (PV.load1 rfl Sc2 rfl (Rd.blk rfl)) (RG.pv rfl (PV.neq rfl rfl rfl) (RG.nil ?_)))))))
     refine WP.cond rfl (fun h6 => ?_) (fun h6 => ?_)
     · have h6 : (gd (gd ps i).pieces.xs m).layer ≠ 0 := by simpa using h6
       refine WP.exit ?_
       refine WP.region (RG.pv rfl (PV.add rfl rfl rfl (by omega)) (RG.ml rfl rfl rfl (RG.nil ?_)))
       exact ⟨rfl, m + 1, zs, w, ⟨by omega, fun y x a b => by rw [hz y x a b, hat, pcCr, decide_eq_false h6]; simp, by omega⟩, ⟨rfl, rfl, trivial⟩, ⟨rfl, rfl, rfl, rfl, rfl, rfl, rfl, trivial⟩, Cv.p, by omega⟩
     · have h6 : (gd (gd ps i).pieces.xs m).layer = 0 := by simpa using h6
       refine WP.skip (WP.seq (WP.region (RG.pv rfl (PV.move (v := v) rfl rfl) (RG.pv rfl (PV.len (v := v) rfl Tryz.underlying87 rfl (SlF.r h1)) (RG.ml rfl rfl rfl (RG.nil (WP.block ?_)))))))
       refine WP.loop3 [0, 4, 7, 11, 12, 13, 19, 20, 21, 28, 29] (fun (c : Nat) (zs : List (Sl Rect)) (u : Value) => c ≤ ps.length ∧ (∀ y x, y < 80 → x < 80 → anyF zs y x = (crTo ps i y x || atTo ps i m y x || pcCr ps i (gd (gd ps i).pieces.xs m) c y x)) ∧ (zs.length : Int) ≤ 5120000 * (i : Int) + 200 * (m : Int) + c) (fun (c : Nat) (zs : List (Sl Rect)) (u : Value) => [(30, vi c), (3, u)]) (fun (c : Nat) (zs : List (Sl Rect)) (u : Value) => osl 50 slT u zs :: bagS 140 rectT zs :: blk b7 63 (pieceT.enc (gd (gd ps i).pieces.xs m)) :: blk b5 152 (plcT.enc (gd ps i)) :: L) (fun (c : Nat) (zs : List (Sl Rect)) (u : Value) => ps.length - c) 0 zs w ⟨by omega, fun y x a b => by rw [hz y x a b]; simp [pcCr, othTo], by omega⟩ ⟨rfl, rfl, trivial⟩ Cv.p ?_
       rintro c zs u τ2 ⟨hc, hz, hzc⟩
       refine WP.seq (WP.region (RG.pv rfl (PV.lss rfl rfl rfl) (RG.nil (WP.seq ?_))))
       refine WP.cond rfl (fun h7 => ?_) (fun h7 => ?_)
       · have h7 := of_decide_eq_true h7
         have h8 : c < ps.length := by omega
         have hpk : Rs G L pieceT (gd ps c).pieces.v (gd ps c).pieces.xs := hp.mem (List.mem_map.2 ⟨gd ps c, gd_mem h8, rfl⟩)
         have hqk : Rs G L rectT (gd ps c).poly.v (gd ps c).poly.xs := hq.mem (List.mem_map.2 ⟨gd ps c, gd_mem h8, rfl⟩)
         refine WP.skip (WP.seq (WP.block (WP.seq (WP.region (RG.ml rfl rfl rfl (RG.pv rfl (PV.idxS (v := v) rfl Is87 rfl (SlF.r h1) rfl rfl (by omega)) (RG.pv rfl (PV.loadE rfl Ag152 rfl rfl (El.r h1 (getG (by omega)))) ?_)))))))
         refine RG.ot rfl (OT.alloc rfl Zr152 fun b9 => ?_)
         refine RG.mr rfl rfl rfl ?_
         refine RG.ot rfl (OT.storeW (vs := [_, _]) rfl Sz152 rfl rfl (Cl.c rfl) rfl rfl (OneC.sl (SlF.r hpk) (OneC.sl (SlF.r hqk) OneC.nil)) ?_)
         refine RG.nil (WP.seq (WP.region (RG.ml rfl rfl rfl (RG.ml rfl rfl rfl (RG.pv rfl (PV.neq rfl rfl rfl) (RG.nil ?_))))))
         refine WP.cond rfl (fun h9 => ?_) (fun h9 => ?_)
         · have h9 : c ≠ i := by simp at h9; omega
           refine WP.region (RG.pv rfl (PV.move (v := u) rfl rfl) (RG.pv rfl (PV.field rfl Fo63_1 rfl) (RG.pv rfl (PV.load1 rfl Sc50 rfl (Rd.blk rfl)) (RG.pv rfl (PV.field rfl Fo152_1 rfl) (RG.pv rfl (PV.load1 rfl Sc50 rfl (Rd.blk rfl)) ?_)))))
           refine RG.callF (vs := [_, _]) rfl rfl En88 rfl (inter_s hrr.up hqk.up (fun v43 => ?_))
           refine RG.ot rfl (OT.bslice (F := (slT (α := Rect))) (els := [⟨v43, opR (fun p q => p && q) (gd (gd ps i).pieces.xs m).reg.xs (gd ps c).poly.xs⟩]) rfl El47 rfl (by decide) rfl (by decide) ⟨rfl, (Cl.s (v := v43) SlF.o), trivial⟩ fun v44 => ?_)
           refine RG.ot rfl (OT.append (v := u) (u := v44) (F := (slT (α := Rect))) rfl El47 rfl (by decide) rfl rfl Rs.o (OneL.one (OneC.sl (SlF.o (v := v43)) OneC.nil)) rfl (by first | omega | (simp <;> omega)) fun v45 => ?_)
           refine RG.pv rfl (PV.asg (v := v45) rfl rfl) (RG.nil (WP.region (RG.pv rfl (PV.add rfl rfl rfl (by omega)) (RG.ml rfl rfl rfl (RG.nil ?_)))))
           refine ⟨rfl, c + 1, (zs ++ [⟨v43, opR (fun p q => p && q) (gd (gd ps i).pieces.xs m).reg.xs (gd ps c).poly.xs⟩]), v45, ⟨by omega, fun y x a b => ?_, by rw [List.length_append]; simp; omega⟩, ⟨rfl, rfl, trivial⟩, ⟨rfl, rfl, rfl, rfl, rfl, rfl, rfl, rfl, rfl, rfl, rfl, trivial⟩, ((Cv.p (C := osl 140 rectT v43 (opR (fun p q => p && q) (gd (gd ps i).pieces.xs m).reg.xs (gd ps c).poly.xs) :: osl 50 slT v45 (zs ++ [⟨v43, opR (fun p q => p && q) (gd (gd ps i).pieces.xs m).reg.xs (gd ps c).poly.xs⟩]) :: bagS 140 rectT zs :: blk b7 63 (pieceT.enc (gd (gd ps i).pieces.xs m)) :: blk b5 152 (plcT.enc (gd ps i)) :: L)).trans Cv.slotNew), by omega⟩
           rw [anyF_new (hg2 i h3 m h5) (hg1 c h8) a b, hz y x a b, pcCr, pcCr, othTo_succ, decide_eq_true h9, decide_eq_true h6]
           cases gb (bits (gd (gd ps i).pieces.xs m).reg.xs) y x <;> cases gb (bits (gd ps c).poly.xs) y x <;> simp
         · have h9 : c = i := by simp at h9; omega
           refine WP.skip (WP.region (RG.pv rfl (PV.add rfl rfl rfl (by omega)) (RG.ml rfl rfl rfl (RG.nil ?_))))
           refine ⟨rfl, c + 1, zs, u, ⟨by omega, fun y x a b => ?_, by omega⟩, ⟨rfl, rfl, trivial⟩, ⟨rfl, rfl, rfl, rfl, rfl, rfl, rfl, rfl, rfl, rfl, rfl, trivial⟩, Cv.p, by omega⟩
           rw [hz y x a b, pcCr, pcCr, othTo_succ, h9]
           simp
       · have h7 := of_decide_eq_false h7
         obtain rfl : c = ps.length := by omega
         refine WP.exit ?_
         refine WP.region (RG.pv rfl (PV.add rfl rfl rfl (by omega)) (RG.ml rfl rfl rfl (RG.nil ?_)))
         exact ⟨rfl, m + 1, zs, u, ⟨by omega, fun y x a b => by rw [hz y x a b, hat, Bool.or_assoc], by omega⟩, ⟨rfl, rfl, trivial⟩, ⟨rfl, rfl, rfl, rfl, rfl, rfl, rfl, trivial⟩, Cv.p, by omega⟩
   · have h4 := of_decide_eq_false h4
     obtain rfl : m = (gd ps i).pieces.xs.length := by omega
     refine WP.exit ?_
     refine WP.region (RG.pv rfl (PV.add rfl rfl rfl (by omega)) (RG.ml rfl rfl rfl (RG.nil ?_)))
     exact ⟨rfl, i + 1, zs, w, ⟨by omega, fun y x a b => by rw [hz y x a b, crTo_succ], by omega⟩, ⟨rfl, rfl, trivial⟩, ⟨rfl, rfl, rfl, trivial⟩, Cv.p, by omega⟩
 · have h2 := of_decide_eq_false h2
   obtain rfl : i = ps.length := by omega
   refine WP.exit ?_
   refine WP.seq (WP.region (RG.pv rfl (PV.move (v := q) rfl rfl) ?_))
   refine RG.callF (vs := [q]) rfl rfl En74 rfl (unionAll_s Rs.o RsE.o (fun v50 => ?_))
   refine RG.pv rfl (PV.asg (v := v50) rfl rfl) (RG.nil ?_)
   refine WP.ret ?_
   exact ⟨_, _, ResV.one rfl rfl, Cv.p, k v50 zs hz⟩
end Go.Proofs.YthhjapiggekjbaaGreat
namespace Go.Proofs.YthhjapiggekjbaaGreat
set_option linter.unusedVariables false
set_option linter.unusedSimpArgs false
open Go
set_option maxRecDepth 20000
set_option maxHeartbeats 1000000
set_option linter.unusedSimpArgs false
variable {G : Gh} {L : List Ch} {R : Value → Gh → List Ch → Prop}
theorem gb_crB {E : List (Int × (Int × List Rect))} {P : List Bool} {y x : Nat} (hy : y < 80) (hx : x < 80) : gb (crB E P) y x = (diffAny E y x && gb P y x) := by
 have hj : y * 80 + x < 6400 := by omega
 unfold crB gb
 rw [gd_map _ (by simpa using hj), range_gd hj, show (y * 80 + x) / 80 = y by omega, show (y * 80 + x) % 80 = x by omega]
theorem pc_mem2 {l : List (List Rect)} {p : Int × List Rect} (h : p ∈ pcE l) : ∃ i c, i < 4 ∧ c ∈ comps (gd (condB l) i) ∧ p.2 = canon c ∧ p.1 = gd [0, 1, 3, 5] i := by
 rw [pcE] at h
 cases hl : isLay l with
 | false => rw [hl] at h; simp at h
 | true =>
   rw [hl, cond_true] at h
   obtain ⟨q, hq, rfl⟩ := List.mem_map.1 h
   rw [pcL] at hq
   obtain ⟨z, hz, hq⟩ := List.mem_flatten.1 hq
   obtain ⟨i, hi, rfl⟩ := List.mem_map.1 hz
   obtain ⟨c, hc, rfl⟩ := List.mem_map.1 hq
   exact ⟨i, c, by simpa using hi, hc, rfl, rfl⟩
/-- a piece of diffusion has no cell of the poly -/
theorem pc_apart {ss : List Shape} {p : Int × List Rect} (h : p ∈ pcE (layL ss)) (h0 : p.1 = 0) {y x : Nat} (hy : y < 80) (hx : x < 80) (hg : gb (bits p.2) y x = true) : gb (bits (gd (layL ss) 1)) y x = false := by
 obtain ⟨i, c, hi, hc, e, e1⟩ := pc_mem2 h
 obtain ⟨g0, g1, g2, g3⟩ := gd4 (0 : Int) 1 3 5
 have hi0 : i = 0 := by
   have hh : i = 0 ∨ i = 1 ∨ i = 2 ∨ i = 3 := by omega
   rcases hh with rfl | rfl | rfl | rfl
   · rfl
   · rw [h0, g1] at e1; cases e1
   · rw [h0, g2] at e1; cases e1
   · rw [h0, g3] at e1; cases e1
 subst hi0
 rw [e, bits_canon (comps_mem hc)] at hg
 have hs := comp_sub hc hy hx hg
 obtain ⟨e0, -, -, -⟩ := gd4 (zipB (fun p q => p && !q) (bits (gd (layL ss) 0)) (bits (gd (layL ss) 1))) (bits (gd (layL ss) 1)) (bits (gd (layL ss) 3)) (bits (gd (layL ss) 5))
 rw [condB, e0, gb_zip2 (bits_length _) (bits_length _) hy hx] at hs
 simp only [Bool.and_eq_true, Bool.not_eq_true'] at hs
 exact hs.2
theorem lay_reg {ss : List Shape} {l : Nat} (h : l < 8) : isReg (gd (layL ss) l) = true := by rw [layL_gd h]; exact isReg_canon (bits_length _)
/-- .. nor has it, moved, a cell of the moved poly -/
theorem pc_apart_mv {ss : List Shape} {t : Trans} (ho : 0 ≤ t.o ∧ t.o ≤ 7) {p : Int × List Rect} (h : p ∈ pcE (layL ss)) (h0 : p.1 = 0) {y x : Nat} (hy : y < 80) (hx : x < 80) (hg : gb (bits (mvP t p).2) y x = true) : gb (bits (canon (bits ((gd (layL ss) 1).map (moveR t))))) y x = false := by
 rw [bits_canon (bits_length _)]
 rw [mvP, bits_canon (bits_length _)] at hg
 exact mv_disj ho (reg_valid (pc_reg h)) (reg_valid (lay_reg (by omega))) (fun y x hy hx hg => pc_apart h h0 hy hx hg) hy hx hg
theorem occ_facts {cs : List ECell} {cell : Int} {j : Nat} (hj : j < (occR cs cell).length) : (0 ≤ (gd (occR cs cell) j).place.o ∧ (gd (occR cs cell) j).place.o ≤ 7) ∧ ∀ b ∈ boxesOf (gd cs (gd (occR cs cell) j).cell.toNat).shapes 1, validRect b = true := by
 obtain ⟨h1, h2, h3, -⟩ := occR_cell hj
 refine ⟨(validT_iff.1 h3).1, fun b hb => ?_⟩
 obtain ⟨m, hm, rfl⟩ := boxesOf_sub hb
 have := okLib_shape h1 (i := (gd (occR cs cell) j).cell.toNat) (j := m) (by omega) hm
 simp only [okSh, Bool.and_eq_true] at this
 exact this.2
theorem poly_gb {cs : List ECell} {cell : Int} {j : Nat} (hj : j < (occR cs cell).length) : bits (plPoly cs (occR cs cell) j) = bits ((boxesOf (gd cs (gd (occR cs cell) j).cell.toNat).shapes 1).map (moveR (gd (occR cs cell) j).place)) := by
 obtain ⟨ho, hb⟩ := occ_facts hj
 rw [plPoly, bits_canon (bits_length _)]
 exact mv_congr ho (reg_valid (lay_reg (by omega))) hb (lay_bits (by omega))
theorem flat_poly {cs : List ECell} {cell : Int} (h0 : shE cs cell = 0) {y x : Nat} (hy : y < 80) (hx : x < 80) : gb (bits (gd (flyL cs cell) 1)) y x = (List.range (occR cs cell).length).any fun j => gb (bits (plPoly cs (occR cs cell) j)) y x := by
 have e : flyL cs cell = layL (flatL cs (occR cs cell)) := by rw [flyL, decide_eq_true h0, shR_ok h0]; rfl
 rw [e, lay_bits (by omega), Bool.eq_iff_iff, gb_bits_iff hy hx, List.any_eq_true]
 constructor
 · rintro ⟨r, hr, hi⟩
   rw [boxesOf] at hr
   obtain ⟨s, hs, rfl⟩ := List.mem_map.1 hr
   obtain ⟨hs1, hs2⟩ := List.mem_filter.1 hs
   obtain ⟨o, ho, hs1⟩ := List.mem_flatMap.1 hs1
   obtain ⟨j, hj, rfl⟩ := List.getElem_of_mem ho
   obtain ⟨q, hq, rfl⟩ := List.mem_map.1 hs1
   refine ⟨j, List.mem_range.2 hj, ?_⟩
   rw [poly_gb hj, gb_bits_iff hy hx]
   refine ⟨moveR (gd (occR cs cell) j).place q.box, List.mem_map.2 ⟨q.box, ?_, rfl⟩, ?_⟩
   · rw [boxesOf]
     exact List.mem_map.2 ⟨q, List.mem_filter.2 ⟨by rw [gd_eq hj]; exact hq, hs2⟩, rfl⟩
   · rw [gd_eq hj]; exact hi
 · rintro ⟨j, hj, hg⟩
   have hj := List.mem_range.1 hj
   rw [poly_gb hj, gb_bits_iff hy hx] at hg
   obtain ⟨r, hr, hi⟩ := hg
   obtain ⟨b, hb, rfl⟩ := List.mem_map.1 hr
   rw [boxesOf] at hb
   obtain ⟨q, hq, rfl⟩ := List.mem_map.1 hb
   obtain ⟨hq1, hq2⟩ := List.mem_filter.1 hq
   refine ⟨_, ?_, hi⟩
   rw [boxesOf]
   refine List.mem_map.2 ⟨⟨q.layer, moveR (gd (occR cs cell) j).place q.box⟩, List.mem_filter.2 ⟨List.mem_flatMap.2 ⟨gd (occR cs cell) j, gd_mem hj, List.mem_map.2 ⟨q, hq1, rfl⟩⟩, hq2⟩, rfl⟩
theorem ownP_mem {cs : List ECell} {c : Int} {q : Int × List Rect} (h : q ∈ ownP cs c) : q ∈ pcE (layL (gd cs c.toNat).shapes) := by
 rw [ownP] at h
 cases hh : hasCl cs c with
 | false => rw [hh] at h; cases h
 | true => rw [hh] at h; exact h
theorem erL_at {cs : List ECell} {os : List EOcc} {n : Nat} {ps : List Plc} (h : erL ps = plcTo cs os n) : ps.length = n ∧ ∀ i, i < n → erPs (gd ps i).pieces.xs = plPc cs os i ∧ (gd ps i).poly.xs = plPoly cs os i := by
 have hl : ps.length = n := by have := congrArg List.length h; simpa [erL, plcTo] using this
 refine ⟨hl, fun i hi => ?_⟩
 have h1 : gd (erL ps) i = (plPc cs os i, plPoly cs os i) := by rw [h, plcTo, gd_map _ (by rw [List.length_range]; omega), range_gd (by omega)]
 rw [erL, gd_map _ (by omega)] at h1
 exact ⟨congrArg Prod.fst h1, congrArg Prod.snd h1⟩
theorem cross_eq {cs : List ECell} {cell : Int} {ps : List Plc} (h0 : shE cs cell = 0) (he : erL ps = plcTo cs (occR cs cell) (occR cs cell).length) {y x : Nat} (hy : y < 80) (hx : x < 80) : crTo ps ps.length y x = (diffAny (ppAll cs cell) y x && gb (bits (gd (flyL cs cell) 1)) y x) := by
 obtain ⟨hl, hat⟩ := erL_at he
 rw [flat_poly h0 hy hx, Bool.eq_iff_iff, Bool.and_eq_true, crTo, diffAny, List.any_eq_true, List.any_eq_true, List.any_eq_true]
 constructor
 · rintro ⟨i, hi, h⟩
   have hi := List.mem_range.1 hi
   obtain ⟨e1, -⟩ := hat i (by omega)
   rw [atTo, List.take_length, List.any_eq_true] at h
   obtain ⟨p, hp, h⟩ := h
   simp only [pcCr, Bool.and_eq_true, othTo, List.any_eq_true] at h
   obtain ⟨ha, hb, j, hj, hc, hd⟩ := h
   have hj := List.mem_range.1 hj
   obtain ⟨-, e2⟩ := hat j (by omega)
   have hm : erP p ∈ plPc cs (occR cs cell) i := by rw [← e1, erPs]; exact List.mem_map.2 ⟨p, hp, rfl⟩
   rw [plPc] at hm
   obtain ⟨q, hq, hqe⟩ := List.mem_map.1 hm
   refine ⟨⟨((i : Int), erP p), ?_, ?_⟩, j, List.mem_range.2 (by omega), by rw [← e2]; exact hd⟩
   · rw [ppAll, plTo]
     exact List.mem_flatMap.2 ⟨i, List.mem_range.2 (by omega), List.mem_map.2 ⟨q, hq, by rw [hqe]⟩⟩
   · simp only [erP, Bool.and_eq_true]; exact ⟨ha, hb⟩
 · rintro ⟨⟨e, hm, h⟩, j, hj, hd⟩
   have hj := List.mem_range.1 hj
   rw [ppAll, plTo] at hm
   obtain ⟨i, hi, hm⟩ := List.mem_flatMap.1 hm
   have hi := List.mem_range.1 hi
   obtain ⟨q, hq, rfl⟩ := List.mem_map.1 hm
   simp only [Bool.and_eq_true, decide_eq_true_eq] at h
   obtain ⟨e1, -⟩ := hat i hi
   obtain ⟨-, e2⟩ := hat j hj
   have hpe : mvP (gd (occR cs cell) i).place q ∈ erPs (gd ps i).pieces.xs := by rw [e1, plPc]; exact List.mem_map.2 ⟨q, hq, rfl⟩
   rw [erPs] at hpe
   obtain ⟨p, hp, hpq⟩ := List.mem_map.1 hpe
   have hne : j ≠ i := fun hji => by
     subst hji
     obtain ⟨ho, -⟩ := occ_facts hj
     have := pc_apart_mv ho (ownP_mem hq) h.1 hy hx h.2
     rw [plPoly] at hd
     rw [this] at hd; cases hd
   refine ⟨i, List.mem_range.2 (by omega), ?_⟩
   rw [atTo, List.take_length, List.any_eq_true]
   refine ⟨p, hp, ?_⟩
   have hp1 : p.layer = (mvP (gd (occR cs cell) i).place q).1 := congrArg Prod.fst hpq
   have hp2 : p.reg.xs = (mvP (gd (occR cs cell) i).place q).2 := congrArg Prod.snd hpq
   simp only [pcCr, Bool.and_eq_true, othTo, List.any_eq_true, decide_eq_true_eq]
   exact ⟨by rw [hp1]; exact h.1, by rw [hp2]; exact h.2, j, List.mem_range.2 (by omega), hne, by rw [e2]; exact hd⟩
theorem cross_fin {cs : List ECell} {cell : Int} {ps : List Plc} {zs : List (Sl Rect)} (h0 : shE cs cell = 0) (he : erL ps = plcTo cs (occR cs cell) (occR cs cell).length) (hz : ∀ y x, y < 80 → x < 80 → anyF zs y x = crTo ps ps.length y x) : canon (bits (er zs).flatten) = crL cs cell := by
 rw [crL, decide_eq_true h0, cond_true]
 congr 1
 refine gb_ext (bits_length _) (crB_len _ _) fun y x hy hx => ?_
 rw [gb_bits' _ hy hx, gb_crB hy hx, ← cross_eq h0 he hy hx, ← hz y x hy hx]; rfl
theorem plPc_facts {cs : List ECell} {os : List EOcc} {i : Nat} {ps : List Piece} (h : erPs ps = plPc cs os i) : ps.length ≤ 25600 ∧ ∀ m, m < ps.length → isReg (gd ps m).reg.xs = true := by
 refine ⟨by rw [← erPs_len, h, plPc, List.length_map]; exact ownP_len _ _, fun m hm => ?_⟩
 have hh : erP (gd ps m) ∈ plPc cs os i := by rw [← h, erPs]; exact List.mem_map.2 ⟨_, gd_mem hm, rfl⟩
 rw [plPc] at hh
 obtain ⟨q, -, hq⟩ := List.mem_map.1 hh
 have e : (gd ps m).reg.xs = (mvP (gd os i).place q).2 := (congrArg Prod.snd hq).symm
 rw [e, mvP]; exact isReg_canon (bits_length _)
end Go.Proofs.YthhjapiggekjbaaGreat
namespace Go.Proofs.YthhjapiggekjbaaGreat
set_option linter.unusedVariables false
set_option linter.unusedSimpArgs false
open Go
set_option maxRecDepth 20000
set_option linter.unusedSimpArgs false
theorem occ_box {cs : List ECell} {cell : Int} {j : Nat} (hj : j < (occR cs cell).length) (n : Nat) : (0 ≤ (gd (occR cs cell) j).place.o ∧ (gd (occR cs cell) j).place.o ≤ 7) ∧ ∀ b ∈ boxesOf (gd cs (gd (occR cs cell) j).cell.toNat).shapes n, validRect b = true := by
 obtain ⟨h1, h2, h3, -⟩ := occR_cell hj
 refine ⟨(validT_iff.1 h3).1, fun b hb => ?_⟩
 obtain ⟨m, hm, rfl⟩ := boxesOf_sub hb
 have := okLib_shape h1 (i := (gd (occR cs cell) j).cell.toNat) (j := m) (by omega) hm
 simp only [okSh, Bool.and_eq_true] at this
 exact this.2
/-- the cells of a flattened layer are those of the moved boxes -/
theorem flat_lay {cs : List ECell} {cell : Int} (h0 : shE cs cell = 0) {n : Nat} (hn : n < 8) {y x : Nat} (hy : y < 80) (hx : x < 80) : gb (bits (gd (flyL cs cell) n)) y x = true ↔ ∃ j, j < (occR cs cell).length ∧ gb (bits ((boxesOf (gd cs (gd (occR cs cell) j).cell.toNat).shapes n).map (moveR (gd (occR cs cell) j).place))) y x = true := by
 have e : flyL cs cell = layL (flatL cs (occR cs cell)) := by rw [flyL, decide_eq_true h0, shR_ok h0]; rfl
 rw [e, lay_bits hn, gb_bits_iff hy hx]
 constructor
 · rintro ⟨r, hr, hi⟩
   rw [boxesOf] at hr
   obtain ⟨s, hs, rfl⟩ := List.mem_map.1 hr
   obtain ⟨hs1, hs2⟩ := List.mem_filter.1 hs
   obtain ⟨o, ho, hs1⟩ := List.mem_flatMap.1 hs1
   obtain ⟨j, hj, rfl⟩ := List.getElem_of_mem ho
   obtain ⟨q, hq, rfl⟩ := List.mem_map.1 hs1
   refine ⟨j, hj, ?_⟩
   rw [gb_bits_iff hy hx]
   refine ⟨moveR (gd (occR cs cell) j).place q.box, List.mem_map.2 ⟨q.box, ?_, rfl⟩, ?_⟩
   · rw [boxesOf]
     exact List.mem_map.2 ⟨q, List.mem_filter.2 ⟨by rw [gd_eq hj]; exact hq, hs2⟩, rfl⟩
   · rw [gd_eq hj]; exact hi
 · rintro ⟨j, hj, hg⟩
   rw [gb_bits_iff hy hx] at hg
   obtain ⟨r, hr, hi⟩ := hg
   obtain ⟨b, hb, rfl⟩ := List.mem_map.1 hr
   rw [boxesOf] at hb
   obtain ⟨q, hq, rfl⟩ := List.mem_map.1 hb
   obtain ⟨hq1, hq2⟩ := List.mem_filter.1 hq
   refine ⟨_, ?_, hi⟩
   rw [boxesOf]
   refine List.mem_map.2 ⟨⟨q.layer, moveR (gd (occR cs cell) j).place q.box⟩, List.mem_filter.2 ⟨List.mem_flatMap.2 ⟨gd (occR cs cell) j, gd_mem hj, List.mem_map.2 ⟨q, hq1, rfl⟩⟩, hq2⟩, rfl⟩
/-- a conductor's cells -/
def lyN (i : Nat) : Nat := (gd [0, 1, 3, 5] i : Int).toNat
theorem lyN_lt {i : Nat} (h : i < 4) : lyN i < 8 := by
 rcases (by omega : i = 0 ∨ i = 1 ∨ i = 2 ∨ i = 3) with rfl | rfl | rfl | rfl <;> simp [lyN, gd]
theorem cond_gb {l : List (List Rect)} {i : Nat} (hi : i < 4) {y x : Nat} (hy : y < 80) (hx : x < 80) : gb (gd (condB l) i) y x = true ↔ gb (bits (gd l (lyN i))) y x = true ∧ (i = 0 → gb (bits (gd l 1)) y x = false) := by
 obtain ⟨e0, e1, e2, e3⟩ := gd4 (zipB (fun p q => p && !q) (bits (gd l 0)) (bits (gd l 1))) (bits (gd l 1)) (bits (gd l 3)) (bits (gd l 5))
 rcases (by omega : i = 0 ∨ i = 1 ∨ i = 2 ∨ i = 3) with rfl | rfl | rfl | rfl
 · rw [condB, e0, gb_zip2 (bits_length _) (bits_length _) hy hx]
   simp [lyN, gd]
 · rw [condB, e1]; simp [lyN, gd]
 · rw [condB, e2]; simp [lyN, gd]
 · rw [condB, e3]; simp [lyN, gd]
noncomputable def plE (cs : List ECell) (cell : Int) : List (Int × List Rect) := (ppAll cs cell).map Prod.snd
theorem plE_len (cs : List ECell) (cell : Int) : (plE cs cell).length = (ppAll cs cell).length := by simp [plE]
theorem plE_mem {cs : List ECell} {cell : Int} {q : Int × List Rect} : q ∈ plE cs cell ↔ ∃ j, j < (occR cs cell).length ∧ ∃ p ∈ ownP cs (gd (occR cs cell) j).cell, q = mvP (gd (occR cs cell) j).place p := by
 rw [plE, ppAll, plTo]
 constructor
 · intro h
   obtain ⟨e, he, rfl⟩ := List.mem_map.1 h
   obtain ⟨j, hj, he⟩ := List.mem_flatMap.1 he
   obtain ⟨p, hp, rfl⟩ := List.mem_map.1 he
   exact ⟨j, List.mem_range.1 hj, p, hp, rfl⟩
 · rintro ⟨j, hj, p, hp, rfl⟩
   exact List.mem_map.2 ⟨((j : Int), mvP (gd (occR cs cell) j).place p), List.mem_flatMap.2 ⟨j, List.mem_range.2 hj, List.mem_map.2 ⟨p, hp, rfl⟩⟩, rfl⟩
def noCr (cs : List ECell) (cell : Int) : Prop := ∀ y x, y < 80 → x < 80 → diffAny (ppAll cs cell) y x = true → gb (bits (gd (flyL cs cell) 1)) y x = false
theorem ownP_iff {cs : List ECell} {cell : Int} {j : Nat} (hj : j < (occR cs cell).length) : ownP cs (gd (occR cs cell) j).cell = pcE (layL (gd cs (gd (occR cs cell) j).cell.toNat).shapes) := by
 obtain ⟨h1, h2, -, -⟩ := occR_cell hj
 have hh : hasCl cs (gd (occR cs cell) j).cell = true := by
   simp only [hasCl, within, Bool.and_eq_true, decide_eq_true_eq]
   exact ⟨h1, by omega, by omega⟩
 rw [ownP, hh, cond_true]
/-- the boxes of an occurrence stay on the chip -/
theorem occ_mv {cs : List ECell} {cell : Int} (h0 : shE cs cell = 0) {j : Nat} (hj : j < (occR cs cell).length) {m : Nat} (hm : m < (gd cs (gd (occR cs cell) j).cell.toNat).shapes.length) : validRect (moveR (gd (occR cs cell) j).place (gd (gd cs (gd (occR cs cell) j).cell.toNat).shapes m).box) = true := by
 have hoc : occE cs cell = 0 := by
   by_cases ho : occE cs cell = 0
   · exact ho
   · rw [shE_occ ho] at h0; exact absurd h0 ho
 cases hv : validRect (moveR (gd (occR cs cell) j).place (gd (gd cs (gd (occR cs cell) j).cell.toNat).shapes m).box) with
 | true => rfl
 | false =>
   exfalso
   have hb := flat_bad hj hm hv
   rw [shE_flat hoc, hb] at h0; simp at h0
theorem plE_all {cs : List ECell} {cell : Int} (h0 : shE cs cell = 0) (hn : noCr cs cell) : PAll (flyL cs cell) (plE cs cell) := by
 refine ⟨fun q hq => ?_, fun i a hi ha => ?_⟩
 · have hq0 := hq
   obtain ⟨j, hj, p, hp, rfl⟩ := plE_mem.1 hq
   have hp2 := ownP_mem hp
   obtain ⟨i, c, hi, hc, e, e1⟩ := pc_mem2 hp2
   have ho := (occ_box hj 0).1
   have hcv : ∀ r ∈ p.2, validRect r = true := reg_valid (pc_reg hp2)
   have hmv : ∀ r ∈ p.2, validRect (moveR (gd (occR cs cell) j).place r) = true := pc_mv ho (fun m hm => occ_mv h0 hj hm) hp2
   have hbc : bits p.2 = c := by rw [e, bits_canon (comps_mem hc)]
   have hbm : bits (mvP (gd (occR cs cell) j).place p).2 = bits (p.2.map (moveR (gd (occR cs cell) j).place)) := by rw [mvP]; exact bits_canon (bits_length _)
   refine ⟨i, hi, e1, by rw [mvP]; exact isReg_canon (bits_length _), ?_, ?_, fun a ha => ?_⟩
   · rw [hbm]; exact cnd_mv ho hcv hmv (by rw [hbc]; exact comps_cnd hc)
   · obtain ⟨a, ha⟩ := comps_ne hc
     rw [← hbc] at ha
     rw [hbm]; exact ⟨_, (im_on ho hcv hmv ha).2⟩
   · obtain ⟨h1, h2, h3⟩ := ha
     have h3' := h3
     rw [hbm] at h3
     refine ⟨h1, h2, (cond_gb hi h1 h2).2 ⟨?_, fun hi0 => ?_⟩⟩
     · rw [flat_lay h0 (lyN_lt hi) h1 h2]
       refine ⟨j, hj, ?_⟩
       rcases mv_gb ho h1 h2 with ⟨y', x', hy', hx', em⟩ | em
       · rw [em _ hcv, hbc] at h3
         have h4 := comp_sub hc hy' hx' h3
         have h5 := ((cond_gb hi hy' hx').1 h4).1
         rw [em _ (occ_box hj _).2, ← lay_bits (lyN_lt hi)]
         exact h5
       · rw [em _ hcv] at h3; cases h3
     · refine hn _ _ h1 h2 ?_
       rw [diffAny, List.any_eq_true]
       obtain ⟨e', he', hq'⟩ := List.mem_map.1 hq0
       refine ⟨e', he', ?_⟩
       rw [hq']
       rw [Bool.and_eq_true]
       refine ⟨?_, h3'⟩
       rw [decide_eq_true_eq]
       exact e1.trans (by rw [hi0]; simp [gd])
 · obtain ⟨h1, h2, h3⟩ := ha
   obtain ⟨h4, h5⟩ := (cond_gb hi h1 h2).1 h3
   rw [flat_lay h0 (lyN_lt hi) h1 h2] at h4
   obtain ⟨j, hj, h4⟩ := h4
   have ho := (occ_box hj 0).1
   rcases mv_gb ho h1 h2 with ⟨y', x', hy', hx', em⟩ | em
   · rw [em _ (occ_box hj _).2, ← lay_bits (lyN_lt hi)] at h4
     have h6 : gb (gd (condB (layL (gd cs (gd (occR cs cell) j).cell.toNat).shapes)) i) y' x' = true := by
       refine (cond_gb hi hy' hx').2 ⟨h4, fun hi0 => ?_⟩
       have h7 := h5 hi0
       cases hg : gb (bits (gd (layL (gd cs (gd (occR cs cell) j).cell.toNat).shapes) 1)) y' x' with
       | false => rfl
       | true =>
         exfalso
         have h8 : gb (bits (gd (flyL cs cell) 1)) a.1 a.2 = true := by
           rw [flat_lay h0 (by omega) h1 h2]
           refine ⟨j, hj, ?_⟩
           rw [em _ (occ_box hj _).2, ← lay_bits (by omega)]
           exact hg
         rw [h7] at h8; cases h8
     have hcv := comps_cover (S := gd (condB (layL (gd cs (gd (occR cs cell) j).cell.toNat).shapes)) i) hy' hx'
     rw [h6, List.any_eq_true] at hcv
     obtain ⟨c, hc, hgc⟩ := hcv
     have hm : ((gd [0, 1, 3, 5] i, canon c) : Int × List Rect) ∈ ownP cs (gd (occR cs cell) j).cell := by
       rw [ownP_iff hj, pcE, isLay_layL, cond_true, List.mem_map]
       refine ⟨(gd [0, 1, 3, 5] i, c), ?_, rfl⟩
       rw [pcL, List.mem_flatten]
       exact ⟨_, List.mem_map.2 ⟨i, List.mem_range.2 hi, rfl⟩, List.mem_map.2 ⟨c, hc, rfl⟩⟩
     refine ⟨mvP (gd (occR cs cell) j).place (gd [0, 1, 3, 5] i, canon c), plE_mem.2 ⟨j, hj, _, hm, rfl⟩, rfl, h1, h2, ?_⟩
     rw [mvP, bits_canon (bits_length _), em _ (reg_valid (isReg_canon (comps_mem hc))), bits_canon (comps_mem hc)]
     exact hgc
   · rw [em _ (occ_box hj _).2] at h4; cases h4
end Go.Proofs.YthhjapiggekjbaaGreat
namespace Go.Proofs.YthhjapiggekjbaaGreat
set_option linter.unusedVariables false
set_option linter.unusedSimpArgs false
open Go
set_option maxRecDepth 20000
set_option maxHeartbeats 1000000
set_option linter.unusedSimpArgs false
variable {G : Gh} {L : List Ch} {R : Value → Gh → List Ch → Prop}
theorem abut_s {a b : Rect} (k : R (.bool (abutR a b)) G L) : CallT Tryz.prog 119 #[vrect a, vrect b] G L R := by
 refine CallT.enter (args := _) Tryz.func119 rfl rfl (by kernel_rfl) rfl ?_
 refine WP.seq (WP.region ?_)
 refine RG.ot rfl (OT.box (cs := rectT.enc a) rfl rfl rfl fun b2 => ?_)
 refine RG.ot rfl (OT.box (cs := rectT.enc b) rfl rfl rfl fun b3 => ?_)
 refine RG.br rfl rfl rfl (RG.nil (WP.seq (WP.seq (WP.region (RG.pv rfl (PV.loadW rfl Ag140 rfl rfl) ?_)))))
 refine RG.callF (vs := [_]) rfl rfl En83 rfl (validRect_s ?_)
 refine RG.pv rfl (PV.not rfl rfl) (RG.bl rfl rfl rfl ?_)
 refine RG.gs rfl rfl rfl (fun hp => (PV.loadW rfl Ag140 rfl rfl)) ?_
 refine RG.gsC rfl rfl rfl rfl En83 (fun hp => ⟨_, (acons (gs_t hp) anil), validRect_s ⟨rfl, rfl, rfl⟩⟩) ?_
 refine RG.gs rfl rfl rfl (fun hp => (PV.not rfl (gs_t hp))) ?_
 refine RG.pv rfl (PV.pickO rfl rfl rfl (fun hq => gs_t (geqF hq))) (RG.nil ?_)
 refine WP.cond rfl (fun h => ?_) (fun h => ?_)
 · have e : abutR a b = false := by
     rw [abutR]; revert h
     cases validRect a <;> cases validRect b <;> simp
   rw [e] at k
   refine WP.seq (WP.region (RG.br rfl rfl rfl (RG.nil ?_)))
   refine WP.ret ?_
   exact ⟨_, _, ResV.one rfl rfl, Cv.p, k⟩
 · have e : abutR a b = (decide ((cmn a b).x0 = (cmn a b).x1) && decide ((cmn a b).y0 < (cmn a b).y1) || decide ((cmn a b).y0 = (cmn a b).y1) && decide ((cmn a b).x0 < (cmn a b).x1)) := by
     rw [abutR]; revert h
     cases validRect a <;> cases validRect b <;> simp
   rw [e] at k
   refine WP.skip (WP.seq (WP.region (RG.pv rfl (PV.loadW rfl Ag140 rfl rfl) (RG.pv rfl (PV.loadW rfl Ag140 rfl rfl) ?_))))
   refine RG.callF (vs := [_, _]) rfl rfl En164 rfl (common_s ?_)
   refine RG.ot rfl (OT.alloc rfl Zr140 fun b5 => ?_)
   refine RG.ot rfl (OT.storeW (vs := [vi _, vi _, vi _, vi _]) rfl Sz140 rfl rfl (Cl.c rfl) rfl rfl (OneC.c rfl) ?_)
   refine RG.nil (WP.seq (WP.region (RG.pv rfl (PV.field rfl Fo140_0 rfl) (RG.pv rfl (PV.load1 rfl Sc2 rfl (Rd.blk rfl)) (RG.pv rfl (PV.field rfl Fo140_2 rfl) (RG.pv rfl (PV.load1 rfl Sc2 rfl (Rd.blk rfl)) (RG.pv rfl (PV.eql rfl rfl rfl) ?_)))))))
   refine RG.bl rfl rfl rfl ?_
   refine RG.gs rfl rfl rfl (fun hp => (PV.field rfl Fo140_1 rfl)) ?_
   refine RG.gs rfl rfl rfl (fun hp => (PV.load1 rfl Sc2 (gs_t hp) (Rd.blk rfl))) ?_
   refine RG.gs rfl rfl rfl (fun hp => (PV.field rfl Fo140_3 rfl)) ?_
   refine RG.gs rfl rfl rfl (fun hp => (PV.load1 rfl Sc2 (gs_t hp) (Rd.blk rfl))) ?_
   refine RG.gs rfl rfl rfl (fun hp => (PV.lss rfl (gs_t hp) (gs_t hp))) ?_
   refine RG.pv rfl (PV.pickA rfl rfl (fun hq => gs_t (geqT hq)) rfl) (RG.bl rfl rfl rfl ?_)
   refine RG.gs rfl rfl rfl (fun hp => (PV.field rfl Fo140_1 rfl)) ?_
   refine RG.gs rfl rfl rfl (fun hp => (PV.load1 rfl Sc2 (gs_t hp) (Rd.blk rfl))) ?_
   refine RG.gs rfl rfl rfl (fun hp => (PV.field rfl Fo140_3 rfl)) ?_
   refine RG.gs rfl rfl rfl (fun hp => (PV.load1 rfl Sc2 (gs_t hp) (Rd.blk rfl))) ?_
   refine RG.gs rfl rfl rfl (fun hp => (PV.eql rfl (gs_t hp) (gs_t hp))) ?_
   refine RG.gs rfl rfl rfl (fun hp => (PV.mvB (.inl rfl) (gs_t hp))) ?_
   refine RG.gs2 rfl rfl rfl (fun hp => (PV.field rfl Fo140_0 rfl)) ?_
   refine RG.gs2 rfl rfl rfl (fun hp => (PV.load1 rfl Sc2 (gs_t hp) (Rd.blk rfl))) ?_
   refine RG.gs2 rfl rfl rfl (fun hp => (PV.field rfl Fo140_2 rfl)) ?_
   refine RG.gs2 rfl rfl rfl (fun hp => (PV.load1 rfl Sc2 (gs_t hp) (Rd.blk rfl))) ?_
   refine RG.gs2 rfl rfl rfl (fun hp => (PV.lss rfl (gs_t hp) (gs_t hp))) ?_
   refine RG.gs rfl rfl rfl (fun hp => (PV.pickA rfl (gs_t hp) (fun hq => gs_t (gandT hp hq)) rfl)) ?_
   refine RG.pv rfl (PV.pickO rfl rfl rfl (fun hq => gs_t (geqF hq))) (RG.br rfl rfl rfl (RG.nil ?_))
   refine WP.ret ?_
   exact ⟨_, _, ResV.one rfl rfl, Cv.p, k⟩
theorem tch_s {v u : Value} {xs ys : List Rect} (h1 : Rs G L rectT v xs) (h2 : Rs G L rectT u ys) (k : R (.bool (tchR xs ys)) G L) : CallT Tryz.prog 65 #[v, u] G L R := by
 refine CallT.bd h1 fun hb => ?_
 refine CallT.bd h2 fun hb' => ?_
 refine CallT.enter (args := _) Tryz.func65 rfl rfl (by kernel_rfl) rfl ?_
 refine WP.seq (WP.region (RG.br rfl rfl rfl (RG.nil (WP.seq (WP.seq (WP.region (RG.pv rfl (PV.move (v := v) rfl rfl) ?_)))))))
 refine RG.pv rfl (PV.len (v := v) rfl Tryz.underlying50 rfl (SlF.r h1)) (RG.ml rfl rfl rfl (RG.nil (WP.block ?_)))
 refine WP.loop1 [1, 9, 10] (fun i => i ≤ xs.length ∧ ∀ p, p < i → ∀ q, q < ys.length → (ovl (gd xs p) (gd ys q) || abutR (gd xs p) (gd ys q)) = false) (fun i => [(11, vi i)]) (fun i => L) (fun i => xs.length - i) 0 ⟨by omega, fun p h => by omega⟩ ⟨rfl, trivial⟩ Cv.p ?_
 rintro i τ ⟨hi, hn⟩
 refine WP.seq (WP.region (RG.pv rfl (PV.lss rfl rfl rfl) (RG.nil (WP.seq ?_))))
 refine WP.cond rfl (fun h3 => ?_) (fun h3 => ?_)
 · have h3 := of_decide_eq_true h3
   refine WP.skip (WP.seq (WP.block (WP.seq (WP.region (RG.pv rfl (PV.idxS (v := v) rfl Is50 rfl (SlF.r h1) rfl rfl (by omega)) (RG.pv rfl (PV.loadE rfl Ag140 rfl rfl (El.r h1 (getG (by omega)))) ?_))))))
   refine RG.ot rfl (OT.alloc rfl Zr140 fun b6 => ?_)
   refine RG.ot rfl (OT.storeW (vs := [vi _, vi _, vi _, vi _]) rfl Sz140 rfl rfl (Cl.c rfl) rfl rfl (OneC.c rfl) ?_)
   refine RG.nil (WP.seq (WP.region (RG.pv rfl (PV.move (v := u) rfl rfl) (RG.pv rfl (PV.len (v := u) rfl Tryz.underlying50 rfl (SlF.r h2)) (RG.ml rfl rfl rfl (RG.nil (WP.block ?_)))))))
   refine WP.loop1 [1, 6, 9, 10, 11, 15, 16] (fun j => j ≤ ys.length ∧ ∀ q, q < j → (ovl (gd xs i) (gd ys q) || abutR (gd xs i) (gd ys q)) = false) (fun j => [(17, vi j)]) (fun j => blk b6 140 (rectT.enc (gd xs i)) :: L) (fun j => ys.length - j) 0 ⟨by omega, fun q h => by omega⟩ ⟨rfl, trivial⟩ Cv.p ?_
   rintro j τ1 ⟨hj, hm⟩
   refine WP.seq (WP.region (RG.pv rfl (PV.lss rfl rfl rfl) (RG.nil (WP.seq ?_))))
   refine WP.cond rfl (fun h4 => ?_) (fun h4 => ?_)
   · have h4 := of_decide_eq_true h4
     refine WP.skip (WP.seq (WP.block (WP.seq (WP.region (RG.pv rfl (PV.idxS (v := u) rfl Is50 rfl (SlF.r h2) rfl rfl (by omega)) (RG.pv rfl (PV.loadE rfl Ag140 rfl rfl (El.r h2 (getG (by omega)))) ?_))))))
     refine RG.ot rfl (OT.alloc rfl Zr140 fun b8 => ?_)
     refine RG.ot rfl (OT.storeW (vs := [vi _, vi _, vi _, vi _]) rfl Sz140 rfl rfl (Cl.c rfl) rfl rfl (OneC.c rfl) ?_)
     refine RG.nil (WP.seq (WP.region (RG.pv rfl (PV.loadW rfl Ag140 rfl rfl) (RG.pv rfl (PV.loadW rfl Ag140 rfl rfl) ?_))))
     refine RG.callF (vs := [_, _]) rfl rfl En118 rfl (ovl_s ?_)
     refine RG.bl rfl rfl rfl ?_
     refine RG.gs rfl rfl rfl (fun hp => (PV.loadW rfl Ag140 rfl rfl)) ?_
     refine RG.gs rfl rfl rfl (fun hp => (PV.loadW rfl Ag140 rfl rfl)) ?_
     refine RG.gsC rfl rfl rfl rfl En119 (fun hp => ⟨_, (acons (gs_t hp) (acons (gs_t hp) anil)), abut_s ⟨rfl, rfl, rfl⟩⟩) ?_
     refine RG.pv rfl (PV.pickO rfl rfl rfl (fun hq => gs_t (geqF hq))) (RG.nil ?_)
     refine WP.cond rfl (fun h5 => ?_) (fun h5 => ?_)
     · have e : tchR xs ys = true := any2_true (p := fun x y => ovl x y || abutR x y) (i := i) (j := j) (by omega) (by omega) h5
       rw [e] at k
       refine WP.seq (WP.region (RG.br rfl rfl rfl (RG.nil ?_)))
       refine WP.ret ?_
       exact ⟨_, _, ResV.one rfl rfl, Cv.p, k⟩
     · refine WP.skip ?_
       refine WP.region (RG.pv rfl (PV.add rfl rfl rfl (by omega)) (RG.ml rfl rfl rfl (RG.nil ?_)))
       exact ⟨rfl, j + 1, ⟨by omega, col_next hm h5⟩, ⟨rfl, trivial⟩, ⟨rfl, rfl, rfl, rfl, rfl, rfl, rfl, trivial⟩, Cv.p, by omega⟩
   · have h4 := of_decide_eq_false h4
     obtain rfl : j = ys.length := by omega
     refine WP.exit ?_
     refine WP.region (RG.pv rfl (PV.add rfl rfl rfl (by omega)) (RG.ml rfl rfl rfl (RG.nil ?_)))
     exact ⟨rfl, i + 1, ⟨by omega, row_next (p := fun a b => ovl (gd xs a) (gd ys b) || abutR (gd xs a) (gd ys b)) hn hm⟩, ⟨rfl, trivial⟩, ⟨rfl, rfl, rfl, trivial⟩, Cv.p, by omega⟩
 · have h3 := of_decide_eq_false h3
   obtain rfl : i = xs.length := by omega
   have e : tchR xs ys = false := any2_false (p := fun x y => ovl x y || abutR x y) hn
   rw [e] at k
   refine WP.exit ?_
   refine WP.seq (WP.region (RG.br rfl rfl rfl (RG.nil ?_)))
   refine WP.ret ?_
   exact ⟨_, _, ResV.one rfl rfl, Cv.p, k⟩
noncomputable def hcC (cs : List ECell) (cell : Int) : Int := if ppC cs cell = 0 then (if 0 < (crL cs cell).length then 6 else 0) else ppC cs cell
theorem hcC_pp {cs : List ECell} {cell : Int} (h : ppC cs cell ≠ 0) : hcC cs cell = ppC cs cell := by rw [hcC, if_neg h]
theorem hcC_cr {cs : List ECell} {cell : Int} (h : ppC cs cell = 0) (h2 : 0 < (crL cs cell).length) : hcC cs cell = 6 := by rw [hcC, if_pos h, if_pos h2]
theorem hcC_ok {cs : List ECell} {cell : Int} (h : ppC cs cell = 0) (h2 : ¬ 0 < (crL cs cell).length) : hcC cs cell = 0 := by rw [hcC, if_pos h, if_neg h2]
theorem hcC_0 {cs : List ECell} {cell : Int} (h : hcC cs cell = 0) : ppC cs cell = 0 ∧ ¬ 0 < (crL cs cell).length := by
 by_cases h1 : ppC cs cell = 0
 · refine ⟨h1, fun h2 => ?_⟩
   rw [hcC_cr h1 h2] at h; cases h
 · rw [hcC_pp h1] at h; exact absurd h h1
theorem ppC_0 {cs : List ECell} {cell : Int} (h : ppC cs cell = 0) : shE cs cell = 0 ∧ (ppAll cs cell).length ≤ 400 := by
 by_cases h1 : shE cs cell = 0
 · refine ⟨h1, ?_⟩
   rw [ppC_yes h1] at h
   by_cases h2 : 400 < (ppAll cs cell).length
   · rw [decide_eq_true h2] at h; cases h
   · omega
 · rw [ppC_no h1] at h; exact absurd h h1
theorem canon_pos {S : List Bool} (hS : S.length = 6400) (h : ¬ 0 < (canon S).length) {y x : Nat} (hy : y < 80) (hx : x < 80) : gb S y x = false := by
 cases hg : gb S y x with
 | false => rfl
 | true =>
   exfalso
   rw [← bits_canon hS, gb_bits_iff hy hx] at hg
   obtain ⟨r, hr, -⟩ := hg
   exact h (List.length_pos_of_mem hr)
theorem crL_no {cs : List ECell} {cell : Int} (h0 : shE cs cell = 0) (h : ¬ 0 < (crL cs cell).length) : noCr cs cell := fun y x hy hx hd => by
 rw [crL, decide_eq_true h0, cond_true] at h
 have := canon_pos (crB_len _ _) h hy hx
 rw [gb_crB hy hx, hd, Bool.true_and] at this
 exact this
theorem erQs_snd {qs : List PPiece} {i : Nat} (h : i < qs.length) : gd ((erQs qs).map Prod.snd) i = erP (gd qs i).piece := by
 rw [gd_map _ (by rw [erQs_len]; exact h), erQs_gd h]; rfl
theorem pcls_i {l : Lib} {cell : Int} (hL : RLib G L l.cells.v l.cells.xs) (hlen : lenC (erCls l.cells.xs)) (k0 : hcC (erCls l.cells.xs) cell ≠ 0 → R (.tuple #[.slice none 0 0, .slice none 0 0, vi (hcC (erCls l.cells.xs) cell)]) G L)
   (k : hcC (erCls l.cells.xs) cell = 0 → ∀ v qs u, erQs qs = ppAll (erCls l.cells.xs) cell → R (.tuple #[v, u, vi 0]) G (osl 65 ppieceT v qs :: bagS 140 rectT (regsQ qs) :: osl 2 intT u (clsH (flyL (erCls l.cells.xs) cell) (plE (erCls l.cells.xs) cell)) :: L)) : CallT Tryz.prog 38 #[vT libT l, vi cell] G L R := by
 by_cases h1 : shE (erCls l.cells.xs) cell = 0
 · have ec := ppC_yes h1
   refine CallT.enter (args := _) Tryz.func38 rfl rfl (by kernel_rfl) rfl ?_
   refine WP.seq (WP.region ?_)
   refine RG.ot rfl (OT.box (cs := libT.enc l) rfl rfl rfl fun b2 => ?_)
   refine RG.pv rfl (PV.asg rfl rfl) (RG.pv rfl (PV.asg rfl rfl) (RG.mr rfl rfl rfl (RG.nil (WP.seq (WP.region (RG.pv rfl (PV.loadW rfl Ag31 rfl rfl) (RG.ml rfl rfl rfl ?_)))))))
   refine RG.callF (vs := [_, _]) rfl rfl En47 rfl (plac_i hL.up hlen (fun hne => absurd h1 hne) (fun _ w13 ps u13 ys13 hps hys => ?_))
   refine RG.pv rfl (PV.move (v := .tuple _) rfl rfl) (RG.pv rfl (PV.ext (v := w13) rfl rfl rfl) (RG.pv rfl (PV.ext (v := u13) rfl rfl rfl) (RG.pv rfl (PV.ext rfl rfl rfl) (RG.pv rfl (PV.asg (v := w13) rfl rfl) (RG.pv rfl (PV.asg (v := u13) rfl rfl) (RG.mr rfl rfl rfl (RG.nil ?_)))))))
   refine WP.seq (WP.seq (WP.region (RG.ml rfl rfl rfl (RG.pv rfl (PV.neq rfl rfl rfl) (RG.nil ?_)))))
   refine WP.cond rfl (fun h2 => ?_) (fun h2 => ?_)
   · simp at h2
   · obtain ⟨hpl, hat⟩ := erL_at hps
     have her := numTo_er hps ps.length (by omega)
     rw [hpl] at her
     have hal := ppAll_len (erCls l.cells.xs) cell
     have ho2 := occR_200 (erCls l.cells.xs) cell
     have hql : (numTo ps ps.length).length = (ppAll (erCls l.cells.xs) cell).length := by rw [← erQs_len, hpl, her]; rfl
     have hnl : (numTo ps ps.length).length ≤ 6000000 := by omega
     have hf1 : ∀ i, i < ps.length → (gd ps i).pieces.xs.length ≤ 25600 := fun i hi => (plPc_facts (hat i (by omega)).1).1
     have hf2 : ∀ i, i < ps.length → isReg (gd ps i).poly.xs = true := fun i hi => by rw [(hat i (by omega)).2, plPoly]; exact isReg_canon (bits_length _)
     have hf3 : ∀ i, i < ps.length → ∀ m, m < (gd ps i).pieces.xs.length → isReg (gd (gd ps i).pieces.xs m).reg.xs = true := fun i hi m hm => (plPc_facts (hat i (by omega)).1).2 m hm
     refine WP.skip (WP.seq (WP.region (RG.pv rfl (PV.move (v := w13) rfl rfl) ?_)))
     refine RG.callF (vs := [w13]) rfl rfl En49 rfl (placedP_i Rs.o RsE.o RsE.o RsE.o hnl (fun v30 => ?_))
     refine RG.pv rfl (PV.asg (v := v30) rfl rfl) (RG.nil (WP.seq (WP.block (WP.seq (WP.region (RG.pv rfl (PV.move (v := v30) rfl rfl) (RG.pv rfl (PV.len (v := v30) rfl Tryz.underlying53 rfl SlF.o) ?_)))))))
     refine RG.pv rfl (PV.gtr rfl rfl rfl) (RG.br rfl rfl rfl (RG.nil ?_))
     refine WP.cond rfl (fun h3 => ?_) (fun h3 => ?_)
     · have h3 : 400 < (ppAll (erCls l.cells.xs) cell).length := by simp at h3; omega
       rw [decide_eq_true h3] at ec
       have e2 := hcC_pp (cs := erCls l.cells.xs) (cell := cell) (by rw [ec]; decide)
       rw [e2, ec] at k0
       refine WP.seq (WP.region (RG.pv rfl (PV.asg rfl rfl) (RG.pv rfl (PV.asg rfl rfl) (RG.mr rfl rfl rfl (RG.nil ?_)))))
       refine WP.ret ?_
       exact ⟨_, _, ResV.three rfl rfl rfl rfl, Cv.p, k0 (by decide)⟩
     · have h3 : ¬ 400 < (ppAll (erCls l.cells.xs) cell).length := by simp at h3; omega
       rw [decide_eq_false h3] at ec
       refine WP.seq (WP.region (RG.pv rfl (PV.move (v := w13) rfl rfl) ?_))
       refine RG.callF (vs := [w13]) rfl rfl En48 rfl (cross_i Rs.o RsE.o RsE.o RsE.o (by omega) hf1 hf2 hf3 (fun v37 zs hz => ?_))
       refine RG.pv rfl (PV.len (v := v37) rfl Tryz.underlying50 rfl SlF.o) (RG.pv rfl (PV.gtr rfl rfl rfl) (RG.br rfl rfl rfl (RG.nil ?_)))
       have hcr0 := cross_fin h1 hps hz
       rw [hcr0] at *
       refine WP.cond rfl (fun h4 => ?_) (fun h4 => ?_)
       · have h4 : 0 < (crL (erCls l.cells.xs) cell).length := by simpa using h4
         have e2 := hcC_cr ec h4
         rw [e2] at k0
         refine WP.seq (WP.region (RG.pv rfl (PV.asg rfl rfl) (RG.pv rfl (PV.asg rfl rfl) (RG.mr rfl rfl rfl (RG.nil ?_)))))
         refine WP.ret ?_
         exact ⟨_, _, ResV.three rfl rfl rfl rfl, Cv.p, k0 (by decide)⟩
       · have h4 : ¬ 0 < (crL (erCls l.cells.xs) cell).length := by simpa using h4
         have k := k (hcC_ok ec h4)
         have hregs : rgsL ps = regsQ (numTo ps ps.length) := by rw [numTo_regs _ (Nat.le_refl _), List.take_length]
         rw [hregs]
         rw [← hpl] at her
         generalize hqs : numTo ps ps.length = qs at *
         refine WP.skip (WP.seq (WP.region (RG.pv rfl (PV.move (v := v30) rfl rfl) (RG.pv rfl (PV.len (v := v30) rfl Tryz.underlying53 rfl SlF.o) ?_))))
         refine RG.ot rfl (OT.make (F := intT) (a0 := 0) rfl El26 rfl (by decide) rfl rfl (by omega) (by omega) fun v42 => ?_)
         refine RG.pv rfl (PV.asg (v := v42) rfl rfl) (RG.nil (WP.seq (WP.seq (WP.region (RG.pv rfl (PV.move (v := v30) rfl rfl) (RG.pv rfl (PV.len (v := v30) rfl Tryz.underlying53 rfl SlF.o) (RG.ml rfl rfl rfl ?_)))))))
         refine RG.nil (WP.block ?_)
         have her : erQs qs = ppAll (erCls l.cells.xs) cell := her.trans (by rw [hpl]; rfl)
         have h8 : ys13.length = 8 := by rw [← er_len, hys, (fly_reg h1).1]
         have hE : plE (erCls l.cells.xs) cell = (erQs qs).map Prod.snd := by rw [her]; rfl
         have hEl : (plE (erCls l.cells.xs) cell).length = qs.length := by rw [plE_len, hql]
         have hJe : ∀ n i, n < qs.length → i < qs.length → JH (flyL (erCls l.cells.xs) cell) (plE (erCls l.cells.xs) cell) n i = ((decide ((gd qs n).piece.layer = (gd qs i).piece.layer) && tchR (gd qs n).piece.reg.xs (gd qs i).piece.reg.xs) || jnI (er ys13) (erP (gd qs n).piece) (erP (gd qs i).piece)) := fun n i hn hi => by
           rw [JH, hE, erQs_snd hn, erQs_snd hi, hys]; rfl
         generalize hJ : JH (flyL (erCls l.cells.xs) cell) (plE (erCls l.cells.xs) cell) = J at *
         have hlr : (List.replicate qs.length (0 : Int)).length = qs.length := List.length_replicate
         have hcr : ∀ i, i < qs.length → Rs G (bagS 140 rectT (regsQ qs) :: []) rectT (gd qs i).piece.reg.v (gd qs i).piece.reg.xs := fun i hi => RsE.regQ RsE.o hi
         refine WP.cv (Cv.eqS (show List.replicate qs.length 0 = rootsJ J 0 ++ List.replicate (qs.length - 0) 0 from rfl)) ?_
         refine WP.loop1 [8, 10, 11, 44] (fun i => i ≤ qs.length) (fun i => [(45, vi i)]) (fun i => osl 2 intT v42 (rootsJ J i ++ List.replicate (qs.length - i) 0) :: osl 65 ppieceT v30 qs :: bagS 140 rectT (regsQ qs) :: osl 50 slT u13 ys13 :: bagS 140 rectT ys13 :: L) (fun i => qs.length - i) 0 (by omega) ⟨rfl, trivial⟩ Cv.p ?_
         rintro i τ hi
         refine WP.seq (WP.region (RG.pv rfl (PV.lss rfl rfl rfl) (RG.nil (WP.seq ?_))))
         have hrl := rootsJ_len J i
         have hal : (rootsJ J i ++ List.replicate (qs.length - i) (0 : Int)).length = qs.length := by simp [hrl]; omega
         refine WP.cond rfl (fun h3 => ?_) (fun h3 => ?_)
         · have h3 := of_decide_eq_true h3
           have h4 : i < qs.length := by omega
           have hsm := set_mid (c := rootsJ J i) (n := qs.length) (x := (i : Int)) (by omega)
           rw [hrl] at hsm
           refine WP.skip (WP.seq (WP.block (WP.seq (WP.region (RG.ml rfl rfl rfl (RG.mr rfl rfl rfl (RG.nil ?_)))))))
           refine WP.seq (WP.region (RG.pv rfl (PV.move (v := v42) rfl rfl) (RG.ml rfl rfl rfl (RG.ml rfl rfl rfl (RG.pv rfl (PV.idxS (v := v42) rfl Is26 rfl SlF.o rfl rfl (by omega)) ?_)))))
           refine RG.ot rfl (OT.storeE (F := intT) rfl Sz2 rfl rfl rfl (Cl.c rfl) (OneC.c rfl) (by omega) ?_)
           refine RG.nil (WP.seq (WP.region (RG.ml rfl rfl rfl (RG.ml rfl rfl rfl (RG.nil (WP.block ?_))))))
           refine WP.cv (Cv.eqS (hsm.trans (by rw [← inJ_zero J]))) ?_
           refine WP.loop1 [8, 10, 11, 12, 44, 45, 52] (fun n => n ≤ i) (fun n => [(53, vi n)]) (fun n => osl 2 intT v42 (inJ J i (rootsJ J i) n ++ List.replicate (qs.length - (i + 1)) 0) :: osl 65 ppieceT v30 qs :: bagS 140 rectT (regsQ qs) :: osl 50 slT u13 ys13 :: bagS 140 rectT ys13 :: L) (fun n => i - n) 0 (by omega) ⟨rfl, trivial⟩ Cv.p ?_
           rintro n τ1 hn
           refine WP.seq (WP.region (RG.pv rfl (PV.lss rfl rfl rfl) (RG.nil (WP.seq ?_))))
           have hil := inJ_len J i (rootsJ J i) n
           have hil2 : (inJ J i (rootsJ J i) n).length = i + 1 := by omega
           have hin := fun j hj => inJ_le (J := J) (i := i) (k := n) (j := j) hn hj
           have hsc := inJ_succ J i (rootsJ J i) n
           generalize hceq : inJ J i (rootsJ J i) n = c at *
           have hal2 : (c ++ List.replicate (qs.length - (i + 1)) (0 : Int)).length = qs.length := by simp [hil2]; omega
           refine WP.cond rfl (fun h5 => ?_) (fun h5 => ?_)
           · have h5 := of_decide_eq_true h5
             have h6 : n < i := by omega
             have hgn : gd (c ++ List.replicate (qs.length - (i + 1)) (0 : Int)) n = gd c n := gd_app_l (by omega)
             have hgi : gd (c ++ List.replicate (qs.length - (i + 1)) (0 : Int)) i = gd c i := gd_app_l (by omega)
             have hin1 := hin n (by omega)
             have hin2 := hin i (by omega)
             have hJn := hJe n i (by omega) h4
             refine WP.skip (WP.seq (WP.block (WP.seq (WP.region (RG.ml rfl rfl rfl (RG.mr rfl rfl rfl (RG.nil ?_)))))))
             refine WP.cut2 [8, 10, 11, 12, 13, 44, 45, 52, 53] (fun (b14 b15 : Nat) => True) (fun (b14 b15 : Nat) => [(14, .pointer (some ⟨b14, 0, none⟩)), (15, .pointer (some ⟨b15, 0, none⟩))]) (fun (b14 b15 : Nat) => blk b14 63 (pieceT.enc (gd qs n).piece) :: blk b15 63 (pieceT.enc (gd qs i).piece) :: osl 2 intT v42 (c ++ List.replicate (qs.length - (i + 1)) 0) :: osl 65 ppieceT v30 qs :: bagS 140 rectT (regsQ qs) :: osl 50 slT u13 ys13 :: bagS 140 rectT ys13 :: L) ?_ ?_
             refine WP.regionH0 (.q 0 (.q 1 (.q 2 (.q 3 (.q 4 (.q 5 (.q 6 (.q 7 (.q 8 (.q 9 (.b 10 (.l 11 (.l 12 (.l 13 Sch.nil))) 11 (.l 10 (.l 12 (.l 13 Sch.nil)))))))))))))) (by kernel_rfl) (by kernel_rfl) (by kernel_rfl) rfl ?_
             refine RH.pv rfl (fun _ _ _ _ h => h) (Gh.le_refl _) PickC.pick rfl (PV.move (v := v30) rfl rfl) ?_
             refine RH.pv rfl (fun _ _ _ _ h => h) (Gh.le_refl _) PickC.pick rfl (PV.mvI (.inl rfl) rfl) ?_
             refine RH.pv rfl (fun _ _ _ _ h => h) (Gh.le_refl _) PickC.pick rfl (PV.idxS (v := v30) rfl Is53 rfl SlF.o rfl rfl (by omega)) ?_
             refine RH.pv rfl (fun _ _ _ _ h => h) (Gh.le_refl _) PickC.pick rfl (PV.field rfl Fo65_1 rfl) ?_
             refine RH.pv rfl (fun _ _ _ _ h => h) (Gh.le_refl _) PickC.pick rfl (PV.loadEP rfl Ag63 rfl rfl (El.o (getG (by omega))) rfl) ?_
             refine RH.pv rfl (fun _ _ _ _ h => h) (Gh.le_refl _) PickC.pick rfl (PV.move (v := v30) rfl rfl) ?_
             refine RH.pv rfl (fun _ _ _ _ h => h) (Gh.le_refl _) PickC.pick rfl (PV.mvI (.inl rfl) rfl) ?_
             refine RH.pv rfl (fun _ _ _ _ h => h) (Gh.le_refl _) PickC.pick rfl (PV.idxS (v := v30) rfl Is53 rfl SlF.o rfl rfl (by omega)) ?_
             refine RH.pv rfl (fun _ _ _ _ h => h) (Gh.le_refl _) PickC.pick rfl (PV.field rfl Fo65_1 rfl) ?_
             refine RH.pv rfl (fun _ _ _ _ h => h) (Gh.le_refl _) PickC.pick rfl (PV.loadEP rfl Ag63 rfl rfl (El.o (getG (by omega))) rfl) ?_
             · refine RH.ot2 rfl rfl rfl rfl  (OT.alloc rfl Zr63 fun b14 => ⟨Gh.le_refl _, PickC.pick, ?_⟩) (OT.alloc rfl Zr63 fun b15 => ⟨Gh.le_refl _, PickC.pick, ?_⟩)
               · refine RH.ot rfl rfl (OT.alloc rfl Zr63 fun b15 => ⟨Gh.le_refl _, PickC.pick, ?_⟩)
                 refine RH.ot rfl rfl (OT.storeW (vs := [vi _, _]) rfl Sz63 rfl rfl (Cl.c rfl) rfl rfl (OneC.val rfl (OneC.sl (SlF.r (hcr n (by omega))) OneC.nil)) ⟨Gh.le_refl _, PickC.pick, ?_⟩)
                 refine RH.ot rfl rfl (OT.storeW (vs := [vi _, _]) rfl Sz63 rfl rfl (Cl.c rfl) rfl rfl (OneC.val rfl (OneC.sl (SlF.r (hcr i (by omega))) OneC.nil)) ⟨Gh.le_refl _, PickC.pick, ?_⟩)
                 refine RH.nil ?_
                 exact ⟨rfl, b14, b15, trivial, ⟨rfl, rfl, trivial⟩, ⟨rfl, rfl, rfl, rfl, rfl, rfl, rfl, rfl, rfl, trivial⟩, Cv.p⟩
               · refine RH.ot rfl rfl (OT.alloc rfl Zr63 fun b14 => ⟨Gh.le_refl _, PickC.pick, ?_⟩)
                 refine RH.ot rfl rfl (OT.storeW (vs := [vi _, _]) rfl Sz63 rfl rfl (Cl.c rfl) rfl rfl (OneC.val rfl (OneC.sl (SlF.r (hcr n (by omega))) OneC.nil)) ⟨Gh.le_refl _, PickC.pick, ?_⟩)
                 refine RH.ot rfl rfl (OT.storeW (vs := [vi _, _]) rfl Sz63 rfl rfl (Cl.c rfl) rfl rfl (OneC.val rfl (OneC.sl (SlF.r (hcr i (by omega))) OneC.nil)) ⟨Gh.le_refl _, PickC.pick, ?_⟩)
                 refine RH.nil ?_
                 exact ⟨rfl, b14, b15, trivial, ⟨rfl, rfl, trivial⟩, ⟨rfl, rfl, rfl, rfl, rfl, rfl, rfl, rfl, rfl, trivial⟩, Cv.p⟩
             rintro b14 b15 τ5 _
             refine WP.seq (WP.seq ?_)
             refine WP.regionQ (by kernel_rfl) (by kernel_rfl) ?_
             refine RQ.pv rfl (PV.move (v := v42) rfl rfl) ?_
             refine RQ.pv rfl (PV.mvI (.inl rfl) rfl) ?_
             refine RQ.pv rfl (PV.idxS (v := v42) rfl Is26 rfl SlF.o rfl rfl (by omega)) ?_
             refine RQ.pv rfl (PV.loadE1 rfl Sc2 rfl rfl (El.o (getG (by omega))) rfl) ?_
             refine RQ.pv rfl (PV.move (v := v42) rfl rfl) ?_
             refine RQ.pv rfl (PV.mvI (.inl rfl) rfl) ?_
             refine RQ.pv rfl (PV.idxS (v := v42) rfl Is26 rfl SlF.o rfl rfl (by omega)) ?_
             refine RQ.pv rfl (PV.loadE1 rfl Sc2 rfl rfl (El.o (getG (by omega))) rfl) ?_
             refine RQ.pv rfl (PV.eql rfl rfl rfl) ?_
             refine RQ.pv rfl (PV.mvB (.inl rfl) rfl) ?_
             refine RQ.gs rfl rfl rfl (fun hp => (PV.field rfl Fo63_0 rfl)) ?_
             refine RQ.gs rfl rfl rfl (fun hp => (PV.load1 rfl Sc2 (gs_t hp) (Rd.blk rfl))) ?_
             refine RQ.gs rfl rfl rfl (fun hp => (PV.field rfl Fo63_0 rfl)) ?_
             refine RQ.gs rfl rfl rfl (fun hp => (PV.load1 rfl Sc2 (gs_t hp) (Rd.blk rfl))) ?_
             refine RQ.gs rfl rfl rfl (fun hp => (PV.eql rfl (gs_t hp) (gs_t hp))) ?_
             refine RQ.gs rfl rfl rfl (fun hp => (PV.mvB (.inl rfl) (gs_t hp))) ?_
             refine RQ.gs2 rfl rfl rfl (fun hp => (PV.field rfl Fo63_1 rfl)) ?_
             refine RQ.gs2 rfl rfl rfl (fun hp => (PV.load1 rfl Sc50 (gs_t hp) (Rd.blk rfl))) ?_
             refine RQ.gs2 rfl rfl rfl (fun hp => (PV.field rfl Fo63_1 rfl)) ?_
             refine RQ.gs2 rfl rfl rfl (fun hp => (PV.load1 rfl Sc50 (gs_t hp) (Rd.blk rfl))) ?_
             refine RQ.gsC2 rfl rfl rfl rfl En65 (fun hp => ⟨_, (acons (gs_t hp) (acons (gs_t hp) anil)), tch_s (hcr n (by omega)).up (hcr i (by omega)).up ⟨rfl, rfl, rfl⟩⟩) ?_
             refine RQ.gs rfl rfl rfl (fun hp => (PV.pickA rfl (gs_t hp) (fun hq => gs_t (gandT hp hq)) rfl)) ?_
             refine RQ.gs rfl rfl rfl (fun hp => (PV.mvB (.inl rfl) (gs_t hp))) ?_
             refine RQ.gs2 rfl rfl rfl (fun hp => (PV.move (v := u13) rfl rfl)) ?_
             refine RQ.gs2 rfl rfl rfl (fun hp => (PV.loadW rfl Ag63 rfl rfl)) ?_
             refine RQ.gs2 rfl rfl rfl (fun hp => (PV.loadW rfl Ag63 rfl rfl)) ?_
             refine RQ.gsC2 rfl rfl rfl rfl En66 (fun hp => ⟨_, (acons (gs_t hp) (acons (gs_t hp) (acons (gs_t hp) anil))), joined_s (p := (gd qs n).piece) (q := (gd qs i).piece) (Rs.o (v := u13)) RsE.o h8 (hcr n (by omega)).up (hcr i (by omega)).up ⟨rfl, rfl, rfl⟩⟩) ?_
             refine RQ.gs rfl rfl rfl (fun hp => (PV.pickO rfl (gs_t hp) rfl (fun hq => gs_t (gandF hp hq)))) ?_
             refine RQ.gs rfl rfl rfl (fun hp => (PV.not rfl (gs_t hp))) ?_
             refine RQ.pv rfl (PV.pickO rfl rfl rfl (fun hq => gs_t (geqF hq))) ?_
             refine RQ.nil ?_
             refine WP.cond rfl (fun h7 => ?_) (fun h7 => ?_)
             · have hs : gd c n = gd c i ∨ J n i = false := by
                 rw [hgn, hgi] at h7; rw [hJn]; revert h7
                 cases decide ((gd qs n).piece.layer = (gd qs i).piece.layer) <;> cases tchR (gd qs n).piece.reg.xs (gd qs i).piece.reg.xs <;> cases jnI (er ys13) (erP (gd qs n).piece) (erP (gd qs i).piece) <;> simp
               refine WP.exit ?_
               refine WP.region (RG.pv rfl (PV.add rfl rfl rfl (by omega)) (RG.ml rfl rfl rfl (RG.nil ?_)))
               exact ⟨rfl, n + 1, (by omega), ⟨rfl, trivial⟩, ⟨rfl, rfl, rfl, rfl, rfl, rfl, rfl, trivial⟩, ((Cv.p (C := osl 2 intT v42 (c ++ List.replicate (qs.length - (i + 1)) 0) :: osl 65 ppieceT v30 qs :: bagS 140 rectT (regsQ qs) :: osl 50 slT u13 ys13 :: bagS 140 rectT ys13 :: L)).trans (Cv.eqS (by rw [hsc, stepJ_same hs]))), by omega⟩
             · have hs : ¬ (gd c n = gd c i ∨ J n i = false) := by
                 rw [hgn, hgi] at h7; rw [hJn]; revert h7
                 cases decide ((gd qs n).piece.layer = (gd qs i).piece.layer) <;> cases tchR (gd qs n).piece.reg.xs (gd qs i).piece.reg.xs <;> cases jnI (er ys13) (erP (gd qs n).piece) (erP (gd qs i).piece) <;> simp
               have hhi0 : max (gd c n) (gd c i) ≠ 0 := by rw [not_or] at hs; omega
               refine WP.skip (WP.seq ?_)
               refine WP.regionQ (by kernel_rfl) (by kernel_rfl) ?_
               refine RQ.pv rfl (PV.move (v := v42) rfl rfl) ?_
               refine RQ.pv rfl (PV.mvI (.inl rfl) rfl) ?_
               refine RQ.pv rfl (PV.idxS (v := v42) rfl Is26 rfl SlF.o rfl rfl (by omega)) ?_
               refine RQ.pv rfl (PV.loadE1 rfl Sc2 rfl rfl (El.o (getG (by omega))) rfl) ?_
               refine RQ.pv rfl (PV.move (v := v42) rfl rfl) ?_
               refine RQ.pv rfl (PV.mvI (.inl rfl) rfl) ?_
               refine RQ.pv rfl (PV.idxS (v := v42) rfl Is26 rfl SlF.o rfl rfl (by omega)) ?_
               refine RQ.pv rfl (PV.loadE1 rfl Sc2 rfl rfl (El.o (getG (by omega))) rfl) ?_
               refine RQ.pv rfl (PV.min2 rfl rfl rfl) ?_
               refine RQ.pv rfl (PV.move (v := v42) rfl rfl) ?_
               refine RQ.pv rfl (PV.mvI (.inl rfl) rfl) ?_
               refine RQ.pv rfl (PV.idxS (v := v42) rfl Is26 rfl SlF.o rfl rfl (by omega)) ?_
               refine RQ.pv rfl (PV.loadE1 rfl Sc2 rfl rfl (El.o (getG (by omega))) rfl) ?_
               refine RQ.pv rfl (PV.move (v := v42) rfl rfl) ?_
               refine RQ.pv rfl (PV.mvI (.inl rfl) rfl) ?_
               refine RQ.pv rfl (PV.idxS (v := v42) rfl Is26 rfl SlF.o rfl rfl (by omega)) ?_
               refine RQ.pv rfl (PV.loadE1 rfl Sc2 rfl rfl (El.o (getG (by omega))) rfl) ?_
               refine RQ.pv rfl (PV.max2 rfl rfl rfl) ?_
               refine RQ.pv rfl (PV.mvI (.inr rfl) rfl) ?_
               refine RQ.pv rfl (PV.mvI (.inr rfl) rfl) ?_
               refine RQ.nil ?_
               refine WP.seq (WP.region (RG.ml rfl rfl rfl (RG.pv rfl (PV.add rfl rfl rfl (by omega)) (RG.ml rfl rfl rfl (RG.nil (WP.block ?_))))))
               rw [hgn, hgi]
               refine WP.cv ((Cv.p (C := osl 2 intT v42 (c ++ List.replicate (qs.length - (i + 1)) 0) :: osl 65 ppieceT v30 qs :: bagS 140 rectT (regsQ qs) :: osl 50 slT u13 ys13 :: bagS 140 rectT ys13 :: L)).trans (Cv.eqS (mapTo_zero (rl (min (gd c n) (gd c i)) (max (gd c n) (gd c i))) (c ++ List.replicate (qs.length - (i + 1)) 0)).symm)) ?_
               generalize hlo : min (gd c n) (gd c i) = lo at *
               generalize hhi : max (gd c n) (gd c i) = hi2 at *
               refine WP.loop1 [8, 10, 11, 12, 16, 17, 44, 45, 52, 53, 115] (fun m => m ≤ i + 1) (fun m => [(116, vi m)]) (fun m => osl 2 intT v42 (mapTo (rl lo hi2) (c ++ List.replicate (qs.length - (i + 1)) 0) m) :: osl 65 ppieceT v30 qs :: bagS 140 rectT (regsQ qs) :: osl 50 slT u13 ys13 :: bagS 140 rectT ys13 :: L) (fun m => i + 1 - m) 0 (by omega) ⟨rfl, trivial⟩ Cv.p ?_
               rintro m τ2 hm
               refine WP.seq (WP.region (RG.pv rfl (PV.lss rfl rfl rfl) (RG.nil (WP.seq ?_))))
               have hml := mapTo_len (rl lo hi2) (c ++ List.replicate (qs.length - (i + 1)) 0) (m := m) (by omega)
               refine WP.cond rfl (fun h8 => ?_) (fun h8 => ?_)
               · have h8 := of_decide_eq_true h8
                 have hmg := mapTo_gd (f := rl lo hi2) (d := c ++ List.replicate (qs.length - (i + 1)) 0) (m := m) (by omega)
                 refine WP.skip (WP.seq (WP.block (WP.seq (WP.region (RG.ml rfl rfl rfl (RG.mr rfl rfl rfl (RG.nil ?_)))))))
                 refine WP.seq (WP.region (RG.pv rfl (PV.move (v := v42) rfl rfl) (RG.ml rfl rfl rfl (RG.pv rfl (PV.idxS (v := v42) rfl Is26 rfl SlF.o rfl rfl (by omega)) (RG.pv rfl (PV.loadE1 rfl Sc2 rfl rfl (El.o (getG (by omega))) rfl) (RG.ml rfl rfl rfl (RG.pv rfl (PV.eql rfl rfl rfl) ?_)))))))
                 refine RG.nil ?_
                 refine WP.cond rfl (fun h9 => ?_) (fun h9 => ?_)
                 · refine WP.region ?_
                   refine RG.pv rfl (PV.move (v := v42) rfl rfl) (RG.ml rfl rfl rfl (RG.ml rfl rfl rfl (RG.pv rfl (PV.idxS (v := v42) rfl Is26 rfl SlF.o rfl rfl (by omega)) ?_)))
                   refine RG.ot rfl (OT.storeE (F := intT) rfl Sz2 rfl rfl rfl (Cl.c rfl) (OneC.c rfl) (by omega) ?_)
                   refine RG.nil (WP.region (RG.pv rfl (PV.add rfl rfl rfl (by omega)) (RG.ml rfl rfl rfl (RG.nil ?_))))
                   exact ⟨rfl, m + 1, (by omega), ⟨rfl, trivial⟩, ⟨rfl, rfl, rfl, rfl, rfl, rfl, rfl, rfl, rfl, rfl, rfl, trivial⟩, (Cv.eqS (by rw [← mapTo_set (by omega), rl, if_pos (by rw [hmg] at h9; simpa using h9)])), by omega⟩
                 · refine WP.skip ?_
                   refine WP.region (RG.pv rfl (PV.add rfl rfl rfl (by omega)) (RG.ml rfl rfl rfl (RG.nil ?_)))
                   exact ⟨rfl, m + 1, (by omega), ⟨rfl, trivial⟩, ⟨rfl, rfl, rfl, rfl, rfl, rfl, rfl, rfl, rfl, rfl, rfl, trivial⟩, (Cv.eqS (by rw [mapTo_skip (by omega)]; rw [rl, if_neg (by rw [hmg] at h9; simpa using h9)])), by omega⟩
               · have h8 := of_decide_eq_false h8
                 obtain rfl : m = i + 1 := by omega
                 have hma := mapTo_all (f := rl lo hi2) (c := c) (z := List.replicate (qs.length - (i + 1)) 0)
                 rw [hil2] at hma
                 refine WP.exit ?_
                 refine WP.region (RG.pv rfl (PV.add rfl rfl rfl (by omega)) (RG.ml rfl rfl rfl (RG.nil ?_)))
                 exact ⟨rfl, n + 1, (by omega), ⟨rfl, trivial⟩, ⟨rfl, rfl, rfl, rfl, rfl, rfl, rfl, trivial⟩, (Cv.eqS (by rw [hma, hsc, stepJ_map hs, hlo, hhi])), by omega⟩
           · have h5 := of_decide_eq_false h5
             obtain rfl : n = i := by omega
             refine WP.exit ?_
             refine WP.region (RG.pv rfl (PV.add rfl rfl rfl (by omega)) (RG.ml rfl rfl rfl (RG.nil ?_)))
             exact ⟨rfl, n + 1, (by omega), ⟨rfl, trivial⟩, ⟨rfl, rfl, rfl, rfl, trivial⟩, (Cv.eqS (by rw [rootsJ, hceq])), by omega⟩
         · have h3 := of_decide_eq_false h3
           obtain rfl : i = qs.length := by omega
           have hcl : rootsJ J qs.length ++ List.replicate (qs.length - qs.length) 0 = clsH (flyL (erCls l.cells.xs) cell) (plE (erCls l.cells.xs) cell) := by rw [Nat.sub_self, List.replicate_zero, List.append_nil, clsH, hJ, hEl]
           refine WP.cv (Cv.eqS hcl) ?_
           refine WP.exit ?_
           refine WP.seq (WP.region (RG.pv rfl (PV.move (v := v30) rfl rfl) (RG.pv rfl (PV.move (v := v42) rfl rfl) (RG.pv rfl (PV.asg (v := v30) rfl rfl) (RG.pv rfl (PV.asg (v := v42) rfl rfl) (RG.mr rfl rfl rfl (RG.nil ?_)))))))
           refine WP.ret ?_
           exact ⟨_, _, ResV.three rfl rfl rfl rfl, Cv.p, k v30 qs v42 her⟩
 · have e := ppC_no h1
   have e2 := hcC_pp (cs := erCls l.cells.xs) (cell := cell) (by rw [e]; exact h1)
   rw [e2, e] at k0
   refine CallT.enter (args := _) Tryz.func38 rfl rfl (by kernel_rfl) rfl ?_
   refine WP.seq (WP.region ?_)
   refine RG.ot rfl (OT.box (cs := libT.enc l) rfl rfl rfl fun b2 => ?_)
   refine RG.pv rfl (PV.asg rfl rfl) (RG.pv rfl (PV.asg rfl rfl) (RG.mr rfl rfl rfl (RG.nil (WP.seq (WP.region (RG.pv rfl (PV.loadW rfl Ag31 rfl rfl) (RG.ml rfl rfl rfl ?_)))))))
   refine RG.callF (vs := [_, _]) rfl rfl En47 rfl (plac_i hL.up hlen (fun _ => ?_) (fun h => absurd h h1))
   refine RG.pv rfl (PV.move (v := .tuple _) rfl rfl) (RG.pv rfl (PV.ext rfl rfl rfl) (RG.pv rfl (PV.ext rfl rfl rfl) (RG.pv rfl (PV.ext rfl rfl rfl) (RG.pv rfl (PV.asg rfl rfl) (RG.pv rfl (PV.asg rfl rfl) (RG.mr rfl rfl rfl (RG.nil ?_)))))))
   refine WP.seq (WP.seq (WP.region (RG.ml rfl rfl rfl (RG.pv rfl (PV.neq rfl rfl rfl) (RG.nil ?_)))))
   refine WP.cond rfl (fun h2 => ?_) (fun h2 => ?_)
   · refine WP.seq ?_
     refine WP.region (RG.ml rfl rfl rfl (RG.pv rfl (PV.asg rfl rfl) (RG.pv rfl (PV.asg rfl rfl) (RG.mr rfl rfl rfl (RG.nil ?_)))))
     refine WP.ret ?_
     exact ⟨_, _, ResV.three rfl rfl rfl rfl, Cv.p, k0 h1⟩
   · exfalso; simp at h2; exact h1 h2
end Go.Proofs.YthhjapiggekjbaaGreat
namespace Go.Proofs.YthhjapiggekjbaaGreat
set_option linter.unusedVariables false
set_option linter.unusedSimpArgs false
open Go
set_option maxRecDepth 20000
set_option maxHeartbeats 1000000
set_option linter.unusedSimpArgs false
variable {G : Gh} {L : List Ch} {R : Value → Gh → List Ch → Prop}
theorem isLay_fly {cs : List ECell} {cell : Int} (h : shE cs cell = 0) : isLay (flyL cs cell) = true := by
 rw [flyL, decide_eq_true h]; exact isLay_layL _
theorem hc_all {cs : List ECell} {cell : Int} (h : hcC cs cell = 0) : shE cs cell = 0 ∧ PAll (flyL cs cell) (plE cs cell) := by
 obtain ⟨h1, h2⟩ := hcC_0 h
 have h0 := (ppC_0 h1).1
 exact ⟨h0, plE_all h0 (crL_no h0 h2)⟩
end Go.Proofs.YthhjapiggekjbaaGreat
namespace Go.Proofs.YthhjapiggekjbaaGreat
set_option linter.unusedVariables false
set_option linter.unusedSimpArgs false
open Go Go.ChangeShapes Go.WideShapes Go.ChangeAt Go.RowKit Go.Deep
set_option linter.unusedVariables false
def Gw (w : World) : Gh := ⟨wh w, w.os, w.tape, w.output, w.drawn⟩
theorem St.start (w : World) : St (Gw w) [] w := ⟨fun _ => none, trivial, Hp.le_refl _, (fun _ _ h => by cases h), fun _ => .inl rfl, rfl, rfl, rfl, Nat.le_refl _⟩
/-- behind a call that began in W, all of W's blocks are as they were -/
theorem St.below {W w' : World} {G : Gh} {L : List Ch} (l : Gh.le (Gw W) G) (h : St G L w') : Below W.heap.size W w' := by
 obtain ⟨hp, s, l1, l2, d, ok⟩ := h
 have ok' := Gh.le_ok l ok
 have up := Hp.le_trans l.1 l1
 have key : ∀ k, k < W.heap.size → w'.heap[k]? = W.heap[k]? := fun k hk => by
   have : (Gw W).f k = some W.heap[k] := by simp [Gw, wh, hk]
   have h2 := up k _ this
   simp only [wh] at h2
   rw [h2]; simp [hk]
 refine ⟨ok'.1, ok'.2.1, ok'.2.2.1, ?_, key⟩
 by_cases h0 : W.heap.size = 0
 · omega
 · have := key (W.heap.size - 1) (by omega)
   rw [Array.getElem?_eq_getElem (by omega : W.heap.size - 1 < W.heap.size)] at this
   have := (Array.getElem?_eq_some_iff.1 this).1
   omega
def Opn {ρ : Type} (P : Program) (t : TypeId) (F : FT ρ) (ok : Gh → ρ → Prop) : Prop :=
  ∀ {H : Type} {enc : TypeId × Value → H} {w : World} {fuel : Nat} {cs : List Value} {x : DataW H × List MemPlace}, DataW.trod enc P w 0 (fun _ => true) true fuel t cs = some x → ∃ a : ρ, cs = F.enc a ∧ ok (Gw w) a
def okL {ρ : Type} [Inhabited ρ] (F : FT ρ) (ok : Gh → ρ → Prop) (G : Gh) (v : Value) : Prop := ∃ xs : List ρ, SL G F v xs ∧ ∀ i, i < xs.length → ok G (gd xs i)
section
variable {P : Program} {t e : TypeId}
theorem cells_get {w : World} {a : Addr} {n : Nat} {cs : List Value} (h : w.cells? 0 a n = some cs) : cs.length = n ∧ ∀ j c, cs[j]? = some c → w.cell? (a.add j) = some c := by
 obtain ⟨_, h1, h2⟩ := World.cells?_some h
 refine ⟨h1, fun j c hc => ?_⟩
 have hj := (List.getElem?_eq_some_iff.1 hc).1
 rw [h2 j (by omega), hc]
theorem opnL {ρ : Type} [Inhabited ρ] {F : FT ρ} {ok : Gh → ρ → Prop} (ht : P.underlying t = some (.slice e)) (hE : Opn P e F ok) (hc : P.cellsOf e = F.sz) (h0 : 0 < F.sz) : Opn P t rawT (okL F ok) := fun {H enc w fuel cs x} h => by
 rcases open_slice ht h with ⟨rfl, _⟩ | ⟨a, len, cap, m, n, D, Pl, rfl, _, hl, hm, hmm, _, hel⟩
 · exact ⟨_, rfl, [], ⟨⟨0, Nat.le_refl _, Nat.zero_le _, .inr ⟨⟨_, rfl⟩, rfl⟩⟩, fun j c hj => by simp [FT.flat] at hj⟩, fun i hi => by simp at hi⟩
 have hmcap : m = cap := by simpa using hmm
 refine ⟨.slice (some a) len cap, rfl, ?_⟩
 have hall : ∀ i, i < len → ∃ r : ρ, w.cells? 0 (a.add (i * F.sz)) F.sz = some (F.enc r) ∧ ok (Gw w) r := fun i hi => by
   obtain ⟨cs', h1, h2⟩ := hel i (by omega)
   obtain ⟨r, rfl, hr⟩ := hE h2
   rw [hc] at h1
   exact ⟨r, h1, hr⟩
 have : ∃ f : Nat → ρ, ∀ i, i < len → w.cells? 0 (a.add (i * F.sz)) F.sz = some (F.enc (f i)) ∧ ok (Gw w) (f i) := choose_lt hall
 obtain ⟨f, hf⟩ := this
 have hlen : ((List.range len).map f).length = len := by simp
 have hget : ∀ i, i < len → ((List.range len).map f)[i]? = some (f i) := fun i hi => by simp [hi]
 have hsp : len ≠ 0 → a.spot = none := fun hz => by
   obtain ⟨h1, _⟩ := hf 0 (by omega)
   obtain ⟨hl1, hg⟩ := cells_get h1
   cases hq : (F.enc (f 0))[0]? with
   | none => rw [List.getElem?_eq_none_iff] at hq; omega
   | some c =>
     have hcell := hg 0 c hq
     cases hs : a.spot with
     | none => rfl
     | some s =>
       exfalso
       have h3 : ((a.add (0 * F.sz)).add 0).spot.isSome = true := by simp [Addr.add, hs]
       unfold World.cell? at hcell
       split at hcell
       · rw [if_pos h3] at hcell; cases hcell
       · cases hcell
 refine ⟨(List.range len).map f, ⟨⟨cap, by simpa using hl, hm, ?_⟩, ?_⟩, fun i hi => ?_⟩
 · by_cases hz : len = 0
   · exact .inr ⟨⟨some a, by simp⟩, by simpa using hz⟩
   · refine .inl ⟨a.block, a.off, ?_⟩
     have hsp := hsp hz
     simp only [hlen]
     obtain ⟨ab, ao, az⟩ := a
     simp only at hsp
     subst hsp; rfl
 · intro j c hj
   by_cases hz : len = 0
   · subst hz; simp [FT.flat] at hj
   have hsp := hsp hz
   have hjl : j < len * F.sz := by
     have := (List.getElem?_eq_some_iff.1 hj).1
     rwa [FT.flat_len, hlen] at this
   have hq : j / F.sz < len := (Nat.div_lt_iff_lt_mul h0).2 hjl
   have hr : j % F.sz < F.sz := Nat.mod_lt _ h0
   have hjd : j / F.sz * F.sz + j % F.sz = j := by rw [Nat.mul_comm]; exact Nat.div_add_mod j F.sz
   obtain ⟨h1, _⟩ := hf (j / F.sz) hq
   obtain ⟨_, hg⟩ := cells_get h1
   have hc' : (F.enc (f (j / F.sz)))[j % F.sz]? = some ((F.enc (f (j / F.sz)))[j % F.sz]'(by rw [F.len]; exact hr)) := List.getElem?_eq_getElem _
   have hfl := F.flat_get (hget _ hq) hc'
   rw [hjd, hj] at hfl
   have hcell := hg _ _ hc'
   obtain ⟨ab, ao, az⟩ := a
   simp only at hsp
   subst hsp
   rw [add_none, add_none, cell_hc, Nat.add_assoc, hjd] at hcell
   simp only [sb, so, Gw]
   rw [hcell]; exact hfl.symm
 · have hi' : i < len := by simpa using hi
   have : gd ((List.range len).map f) i = f i := by simp [gd, hi']
   rw [this]; exact (hf i hi').2
end
def okSl {ρ : Type} [Inhabited ρ] (F : FT ρ) (ok : Gh → ρ → Prop) (G : Gh) (s : Sl ρ) : Prop := SL G F s.v s.xs ∧ ∀ i, i < s.xs.length → ok G (gd s.xs i)
theorem opnSl {P : Program} {t e : TypeId} {ρ : Type} [Inhabited ρ] {F : FT ρ} {ok : Gh → ρ → Prop} (ht : P.underlying t = some (.slice e)) (hE : Opn P e F ok) (hc : P.cellsOf e = F.sz) (h0 : 0 < F.sz) : Opn P t slT (okSl F ok) := fun h => by
 obtain ⟨v, rfl, xs, h1, h2⟩ := opnL ht hE hc h0 h
 exact ⟨⟨v, xs⟩, rfl, h1, h2⟩
section
variable {P : Program} {t e : TypeId} {H : Type} {enc : TypeId × Value → H} {W : World} {r : Reach} {base : Nat} {v : Value} {d : DataW H} {ps : List MemPlace}
theorem argSl {ρ : Type} {ok : Gh → Sl ρ → Prop} (ht : P.underlying t = some (.slice e)) (hO : Opn P t slT ok) (hv : Value.okWide P W r base t v) (h : DataW.Trod enc P W 0 (fun _ => true) true t v d ps) : ∃ s : Sl ρ, v = s.v ∧ ok (Gw W) s := by
 obtain ⟨a, n, c, rfl⟩ := okWide_slice ht hv
 obtain ⟨fuel, hf⟩ := h
 obtain ⟨m, e1, hm⟩ := hO hf
 simp [Value.cells, slT] at e1
 exact ⟨m, e1, hm⟩
theorem trodAll_stays (hl : laidOutB P = true) {W' : World} (hb : Below W.heap.size W W') : ∀ {ts : List TypeId} {vs : List Value} {ds : List (DataW H)} {ps : List MemPlace}, (∀ t ∈ ts, P.readableRec t = true ∧ t < P.types.size) → (∀ x ∈ ps, x.block < W.heap.size) →
   DataW.TrodAll enc P W 0 (fun _ => true) true ts vs ds ps → DataW.TrodAll enc P W' 0 (fun b => decide (b < W.heap.size)) true ts vs ds ps
 | [], [], [], _, _, _, h => h
 | t :: ts, v :: vs, d :: ds, ps, hr, hlt, h => by
   obtain ⟨p, q, h1, h2, rfl⟩ := h
   have := hr t (.head _)
   exact ⟨p, q, Below.trod hl this.1 this.2 h1 hb (fun x hx => hlt x (List.mem_append_left _ hx)), trodAll_stays hl hb (fun t ht => hr t (.tail _ ht)) (fun x hx => hlt x (List.mem_append_right _ hx)) h2, rfl⟩
end
def recsB (P : Program) (ts : List TypeId) : Bool := ts.all fun t => P.readableRec t && Nat.blt t P.types.size
theorem recs_of {P : Program} {ts : List TypeId} (h : recsB P ts = true) : ∀ t ∈ ts, P.readableRec t = true ∧ t < P.types.size := by
 intro t ht
 have := List.all_eq_true.1 h t ht
 simp only [Bool.and_eq_true] at this
 exact ⟨this.1, Nat.le_of_ble_eq_true this.2⟩
/-- A LAW, LIFTED: the call returns true, the arguments read as they did. -/
theorem law_lifted {H : Type} {enc : TypeId × Value → H} {C : Checked} {os : Os} {f : FuncId} {fn : Func} {s : ChangeSpec} {tb : TypeId} (own : ownKnob C.prog.godebug = none) (started : os.Started) (noInit : C.prog.inits.idxOf? f = none) (hfn : C.prog.funcs[f]? = some fn) (hl : laidOutB C.prog = true)
   (hvars : s.vars = []) (hr : recsB C.prog fn.params.toList = true) (hres : fn.resultTypes = #[tb]) (htb : C.prog.underlying tb = some .bool)
   (hsp : ∀ ds : List (DataW H), ds.length = fn.params.toList.length → s.fn H ds = { results := [.lit (.bool true)], args := ds })
   (witness : ∃ (w : World) (tape : Tape) (i : Input), w.os = os ∧ (w.forCall tape i).Shaped C.prog ∧ i.vars = [] ∧ Input.okWide C.prog (w.forCall tape i) .any w.heap.size f i ∧
     s.pre6 enc C.prog fn [] false (w.forCall tape i).memory i.args ∧ ({} : Assume).holds C.prog (lone (Frame.enter C.prog f i.args .normal) [] (w.forCall tape i)))
   (walk : ∀ (W : World) (base : Nat) (args : Array Value) (ds : List (DataW H)) (ps : List MemPlace), (∀ (j : Nat) t v, fn.params[j]? = some t → args[j]? = some v → Value.okWide C.prog W .any base t v) →
     DataW.TrodAll enc C.prog W 0 (fun _ => true) true fn.params.toList args.toList ds ps → CallT C.prog f args (Gw W) [] fun v G _ => v = .bool true ∧ Gh.le (Gw W) G) :
   ReturnsInHanded {} C os f .any (s.pre6 enc C.prog fn [] false) (s.post enc C.prog fn false true false false) := by
 refine returnsInHanded_of_change own started noInit hfn witness ?_
 intro W base args ds gs before hval hW _ _
 have hW' := hW
 obtain ⟨p, q, hA, hV, rfl, hfz, hnd⟩ := hW
 rw [hvars] at hV
 obtain ⟨rfl, rfl⟩ := trodVars_none hV
 refine ((walk W base args ds p hval hA).run (St.start W)).mono ?_
 rintro e W' ⟨v, G, L, rfl, hs, rfl, hG⟩
 have hb := hs.below hG
 have hlt : ∀ x ∈ p, x.block < W.heap.size := fun x hx => hW'.lt x (List.mem_append_left _ hx)
 have hlen : ds.length = fn.params.toList.length := by
   have : ∀ (ts : List TypeId) (vs : List Value) (ds : List (DataW H)) (ps : List MemPlace), DataW.TrodAll enc C.prog W 0 (fun _ => true) true ts vs ds ps → ds.length = ts.length := by
     intro ts
     induction ts with
     | nil => intro vs ds ps h; cases vs <;> cases ds <;> simp_all [DataW.TrodAll]
     | cons t ts ih =>
       intro vs ds ps h
       cases vs <;> cases ds <;> simp only [DataW.TrodAll] at h
       obtain ⟨_, _, _, h2, _⟩ := h
       simp [ih _ _ _ h2]
   exact this _ _ _ _ hA
 refine ⟨_, rfl, ds, [], _, [], p, [], hW', ?_, ?_, ?_, hb.frame _, fun h => by cases h⟩
 · rw [List.append_nil, hsp ds hlen, hres]
   exact trodAll_mk1 (shut_bool htb true)
 · rw [List.append_nil, hsp ds hlen]
   exact trodAll_stays hl hb (recs_of hr) hlt hA
 · rw [List.append_nil, hsp ds hlen, hvars]
   exact rfl
end Go.Proofs.YthhjapiggekjbaaGreat
namespace Go.Proofs.YthhjapiggekjbaaGreat
set_option linter.unusedVariables false
set_option linter.unusedSimpArgs false
open Go
set_option linter.unusedSimpArgs false
theorem St.more {G : Gh} {L : List Ch} {w w' : World} (h : St G L w) (le : Hp.le (wh w) (wh w')) (q : Quiet w w') : St G L w' := by
 obtain ⟨hp, s, l1, l2, d, ok⟩ := h
 exact ⟨hp, s, Hp.le_trans l1 le, Hp.le_trans l2 le, d, Gh.ok_of ok q⟩
/-- a world that keeps all blocks of another -/
theorem world_ext {W w' : World} {L : List Ch} (h : St (Gw W) L w') : ∃ q os, w' = Go.Sort.grow (W.drewN q) os := by
 obtain ⟨hp, s, l1, l2, d, o1, o2, o3, o4⟩ := h
 have key : ∀ k, k < W.heap.size → w'.heap[k]? = W.heap[k]? := fun k hk => by
   have h1 : (Gw W).f k = some W.heap[k] := by simp [Gw, wh, hk]
   have h2 := l1 k _ h1
   simp only [wh] at h2
   rw [h2]; simp [hk]
 have hs : W.heap.size ≤ w'.heap.size := by
   by_cases h0 : W.heap.size = 0
   · omega
   · have := key (W.heap.size - 1) (by omega)
     rw [Array.getElem?_eq_getElem (by omega : W.heap.size - 1 < W.heap.size)] at this
     have := (Array.getElem?_eq_some_iff.1 this).1
     omega
 have hh : w'.heap = W.heap ++ w'.heap.extract W.heap.size w'.heap.size := by
   apply Array.ext_getElem?
   intro i
   rw [Array.getElem?_append]
   split
   · exact key i ‹_›
   · rw [Array.getElem?_extract]
     by_cases c : i < w'.heap.size
     · rw [if_pos (by omega)]; congr 1; omega
     · rw [if_neg (by omega), Array.getElem?_eq_none (by omega)]
 refine ⟨w'.drawn - W.drawn, w'.heap.extract W.heap.size w'.heap.size, ?_⟩
 have e1 : w'.os = W.os := o1
 have e2 : w'.tape = W.tape := o2
 have e3 : w'.output = W.output := o3
 have e4 : w'.drawn = W.drawn + (w'.drawn - W.drawn) := by have : W.drawn ≤ w'.drawn := o4; omega
 generalize w'.heap.extract W.heap.size w'.heap.size = os at hh
 generalize w'.drawn - W.drawn = q at e4
 cases w'
 simp only at hh e1 e2 e3 e4
 subst hh e1 e2 e3 e4
 rfl
/-- a slice that is read in a world is read in whatever comes after it -/
theorem Rs.at {α : Type} {G : Gh} {L : List Ch} {F : FT α} {v : Value} {xs : List α} (h : Rs G L F v xs) {W : World} (hs : St G L W) : Rs (Gw W) [] F v xs := fun w2 h2 => by
 obtain ⟨i, c⟩ := h W hs
 refine ⟨i, fun j x hj => ?_⟩
 have h3 := c j x hj
 obtain ⟨hp, s, l1, _⟩ := h2
 rw [cell_hc] at *
 exact Hc.le l1 h3
theorem gd_arr {α : Type} [Inhabited α] (d : Array α) (i : Nat) (h : i < d.size) : gd d.toList i = d[i]! := by
 rw [gd_eq (by simpa using h), getElem!_pos d i h]; simp
/-- the cells of a row of members of a list -/
theorem flatK_at {α : Type} [Inhabited α] {xs : List α} [Inhabited {x : α // x ∈ xs}] {F : FT α} (d : Array {x : α // x ∈ xs}) {j : Nat} (hj : j < d.size * F.sz) : (F.flat (d.toList.map Subtype.val))[j]? = some ((Go.Sort.flatK (fun x : {x : α // x ∈ xs} => F.enc x.1) F.sz d)[j]!) := by
 have hs : 0 < F.sz := by rcases Nat.eq_zero_or_pos F.sz with h | h
                          · rw [h] at hj; omega
                          · exact h
 have hi : j / F.sz < d.size := (Nat.div_lt_iff_lt_mul hs).2 hj
 have hm : j % F.sz < F.sz := Nat.mod_lt _ hs
 have hl : j / F.sz < (d.toList.map Subtype.val).length := by simpa using hi
 have e : gd (d.toList.map Subtype.val) (j / F.sz) = (d[j / F.sz]!).1 := by
   rw [gd_map _ (by simpa using hi), gd_arr d _ hi]
 have h1 := flat_at F hl (j % F.sz) (by rw [F.len]; exact hm)
 have e2 : j / F.sz * F.sz + j % F.sz = j := by rw [Nat.mul_comm]; exact Nat.div_add_mod j F.sz
 rw [e2, e] at h1
 have hl2 : j % F.sz < (F.enc (d[j / F.sz]!).1).length := by rw [F.len]; exact hm
 rw [h1, Go.Sort.get_flatK _ _ _ _ hj, List.getElem?_eq_getElem hl2]
 exact congrArg some (getElem!_pos (F.enc (d[j / F.sz]!).1) _ hl2).symm
theorem sortF {α : Type} [Inhabited α] {P : Program} {ρ : Go.Shelf.Ren} (Ly : Go.Proofs.SlLaysF0.n6 P ρ) {F : FT α} {e : TypeId} {v : Value} {xs : List α} {G : Gh} {L : List Ch} {g : Nat} {cf : α → α → Int} {R : Value → Gh → List Ch → Prop}
   (aE : ∀ w, (isAgg (ρ.t 24)).run P w = .ok true w) (zE : ∀ w, (Go.sizeOf (ρ.t 24)).run P w = .ok F.sz w) (eg : ∀ args w, (callFunc g args).run P w = .ok (.enter g args) w)
   (hn : xs.length < 4611686018427387904) (h1 : ∀ x ∈ xs, ∀ u ∈ F.enc x, u.oneCell' = true) (hir : ∀ x ∈ xs, ¬ cf x x < 0) (htr : ∀ x ∈ xs, ∀ y ∈ xs, ∀ z ∈ xs, cf x y < 0 → cf y z < 0 → cf x z < 0) (hnt : ∀ x ∈ xs, ∀ y ∈ xs, ∀ z ∈ xs, ¬ cf x y < 0 → ¬ cf y z < 0 → ¬ cf x z < 0)
   (hc : ∀ W, St G L W → ∀ x ∈ xs, ∀ y ∈ xs, CallT P g #[.agg (F.enc x).toArray, .agg (F.enc y).toArray] (Gw W) [] fun v' G' _ => v' = vi (cf x y) ∧ G' = Gw W)
   (k : ∀ zs : List α, zs.Perm xs → zs.Pairwise (fun a b => ¬ cf b a < 0) → R (.tuple #[]) G (osl e F v zs :: L)) : CallT P (ρ.f 6) #[v, .func (.func g) #[] #[]] G (osl e F v xs :: L) R := by
 refine CallT.of fun w hs => ?_
 obtain ⟨hp, s, l1, l2, d, ok⟩ := id hs
 obtain ⟨p1, p2, d12, m1, m2, hc1, s2⟩ := s
 rcases hc1 with ⟨rfl, rfl⟩ | ⟨b, cap, c, rfl, hb, hle, hcap, hsz, htk⟩
 · refine (Go.Proofs.AnyF.slices_SortFunc_none Ly none 0 _ w).mono ?_
   rintro e' w' ⟨rfl, rfl⟩
   exact ⟨_, G, _, rfl, hs, k [] (List.Perm.refl _) List.Pairwise.nil⟩
 · by_cases h0 : xs = []
   · subst h0
     refine (Go.Proofs.AnyF.slices_SortFunc_none Ly (some ⟨b, 0, none⟩) cap _ w).mono ?_
     rintro e' w' ⟨rfl, rfl⟩
     exact ⟨_, G, _, rfl, hs, k [] (List.Perm.refl _) List.Pairwise.nil⟩
   · haveI : Inhabited {x : α // x ∈ xs} := ⟨⟨xs.head h0, List.head_mem h0⟩⟩
     have hb' : w.heap[b]? = some (.cells c e (0, 0)) := l2 _ _ (m1 _ _ hb)
     have hbw : b < w.heap.size := (Array.getElem?_eq_some_iff.1 hb').1
     have gb0 : G.f b = none := by
       rcases d b with h | h
       · rw [m1 _ _ hb] at h; cases h
       · exact h
     have pb0 : p2 b = none := by
       rcases d12 b with h | h
       · rw [hb] at h; cases h
       · exact h
     have hds : (xs.attach.toArray).size = xs.length := by simp
     have hct : ∀ j, j < xs.length * F.sz → c[j]? = (F.flat xs)[j]? := fun j hj => by
       rw [← htk, List.getElem?_take, if_pos hj]; simp
     have hH : Go.Sort.HoldsK (fun x : {x : α // x ∈ xs} => F.enc x.1) F.sz w b 0 xs.attach.toArray := by
       intro j hj
       rw [Go.Sort.size_flatK, hds] at hj
       have h2 := flatK_at (F := F) xs.attach.toArray (j := j) (by rw [hds]; exact hj)
       rw [List.toList_toArray, List.attach_map_subtype_val] at h2
       refine ⟨?_, ?_⟩
       · rw [Nat.zero_add, cell_hc]
         simp only [Hc, wh, hb']
         rw [hct j hj, h2]; rfl
       · simp [World.frozen?, hb']
     have hW : ∀ (m : Nat) (os : Array Obj) (dk : Array {x : α // x ∈ xs}), St G L (Go.Proofs.sortWorldK (fun x : {x : α // x ∈ xs} => F.enc x.1) F.sz w b 0 m dk os) := fun m os dk => by
       have hwb : ∀ q o, q ≠ b → wh w q = some o → wh (Go.Proofs.sortWorldK (fun x : {x : α // x ∈ xs} => F.enc x.1) F.sz w b 0 m dk os) q = some o := fun q o hq h => by
         have hq2 : q < w.heap.size := (Array.getElem?_eq_some_iff.1 h).1
         simp only [wh, Go.Proofs.sortWorldK, Go.Sort.grow, Go.Sort.putRowK, Go.Sort.putRow, Go.Sort.mapBlock, Go.Sort.ahead] at h ⊢
         rw [Array.getElem?_append, if_pos (by simpa using hq2), Array.getElem?_modify, if_neg (Ne.symm hq)]
         exact h
       refine ⟨p2, s2, fun q o h => hwb q o ?_ (l1 q o h), fun q o h => hwb q o ?_ (l2 q o (m2 q o h)), fun q => ?_, ok.1, ok.2.1, ok.2.2.1, Nat.le_trans ok.2.2.2 ?_⟩
       · rintro rfl; rw [gb0] at h; cases h
       · rintro rfl; rw [pb0] at h; cases h
       · rcases d q with h | h
         · left
           cases hh : p2 q with
           | none => rfl
           | some o => rw [m2 q o hh] at h; cases h
         · exact .inr h
       · simp only [Go.Proofs.sortWorldK, Go.Sort.grow, Go.Sort.putRowK, Go.Sort.putRow, Go.Sort.mapBlock, Go.Sort.ahead]; omega
     have hcmp : Go.Proofs.CmpLays P g #[] (fun x : {x : α // x ∈ xs} => F.enc x.1) F.sz (fun x y => cf x.1 y.1) b 0 xs.attach.toArray.size w := fun m os dk hdk x y => by
       have h2 := (hc _ (hW m os dk) x.1 x.2 y.1 y.2).run (St.start _)
       rw [Array.append_empty]
       refine h2.mono ?_
       rintro e' w' ⟨v', G', L', rfl, hst, rfl, rfl⟩
       exact ⟨rfl, world_ext hst⟩
     have hO : Go.Sort.SWO (Go.Proofs.ltOf fun x y : {x : α // x ∈ xs} => cf x.1 y.1) := by
       refine ⟨fun x => ?_, fun x y z q1 q2 => ?_, fun x y z q1 q2 => ?_⟩ <;> simp only [Go.Proofs.ltOf, decide_eq_true_eq, decide_eq_false_iff_not] at *
       · exact hir x.1 x.2
       · exact htr x.1 x.2 y.1 y.2 z.1 z.2 q1 q2
       · exact hnt x.1 x.2 y.1 y.2 z.1 z.2 q1 q2
     have hcon := Go.Proofs.AnyQ.slices_SortFunc Ly F.sz aE zE (fun x : {x : α // x ∈ xs} => F.enc x.1) (fun x => F.len x.1) (fun x => h1 x.1 x.2) (fun x y => cf x.1 y.1) hO g #[] b 0 cap xs.attach.toArray w eg hcmp hH hbw (by rw [hds]; exact hn)
     rw [hds] at hcon
     refine hcon.mono ?_
     rintro e' w' ⟨rfl, d', n, os, hpm, hso, rfl⟩
     obtain ⟨z1, -, z2⟩ := hpm
     have hd' : d'.size = xs.length := z1.trans hds
     have hpz : (d'.toList.map Subtype.val).Perm xs := by
       have e1 : d'.extract 0 xs.length = d' := by rw [← hd']; simp
       have e0 : ∀ a : Array {x : α // x ∈ xs}, a.extract 0 a.size = a := fun a => by simp
       have e2 := e0 xs.attach.toArray
       rw [hds] at e2
       rw [e1, e2] at z2
       have := z2.map Subtype.val
       rwa [List.toList_toArray, List.attach_map_subtype_val] at this
     have hlz : (d'.toList.map Subtype.val).length = xs.length := hpz.length_eq
     have hsz' : (d'.toList.map Subtype.val).Pairwise (fun a b => ¬ cf b a < 0) := by
       rw [List.pairwise_map, List.pairwise_iff_getElem]
       intro i j hi hj hij
       have hi2 : i < d'.size := by simpa using hi
       have hj2 : j < d'.size := by simpa using hj
       have := hso i j (Nat.zero_le _) hij (by omega)
       simp only [Go.Proofs.ltOf, decide_eq_false_iff_not] at this
       rw [getElem!_pos d' i hi2, getElem!_pos d' j hj2] at this
       simpa using this
     refine ⟨_, G, osl e F (.slice (some ⟨b, 0, none⟩) xs.length cap) (d'.toList.map Subtype.val) :: L, rfl, ?_, k _ hpz hsz'⟩
     have hst1 : St G (osl e F (.slice (some ⟨b, 0, none⟩) xs.length cap) (d'.toList.map Subtype.val) :: L) (Go.Sort.putRowK (fun x : {x : α // x ∈ xs} => F.enc x.1) F.sz (Go.Sort.ahead w n) b 0 d') := by
       refine St.set (o := .cells (Go.Sort.putCells id 0 (Go.Sort.flatK (fun x : {x : α // x ∈ xs} => F.enc x.1) F.sz d') c) e (0, 0)) (b := b) hs ⟨rfl, rfl, rfl, Nat.le_add_right _ _⟩ (.head _ _) (fun h hc => ?_) (fun x => ?_) (fun h hc hle2 => ?_)
       · rcases hc with ⟨h2, -⟩ | ⟨b2, cap2, c2, h2, h3, -⟩
         · cases h2
         · injection h2 with h4; injection h4 with h5; injection h5 with h6
           subst h6; rw [h3]; rfl
       · simp only [wh, Go.Sort.putRowK, Go.Sort.putRow, Go.Sort.mapBlock, Go.Sort.ahead, Array.getElem?_modify]
         by_cases hx : x = b
         · subst hx; rw [if_pos rfl, if_pos rfl, hb']; rfl
         · rw [if_neg (Ne.symm hx), if_neg hx]
       · refine .inr ⟨b, cap, Go.Sort.putCells id 0 (Go.Sort.flatK (fun x : {x : α // x ∈ xs} => F.enc x.1) F.sz d') c, by rw [hlz], by simp, by omega, hcap, by simpa [Go.Sort.putCells] using hsz, ?_⟩
         apply List.ext_getElem?
         intro j
         rw [List.getElem?_take, hlz]
         by_cases hj : j < xs.length * F.sz
         · rw [if_pos hj, flatK_at d' (by rw [hd']; exact hj)]
           have hjc : j < c.size := by rw [hsz]; exact Nat.lt_of_lt_of_le hj (Nat.mul_le_mul_right _ hle)
           simp [Go.Sort.putCells, hjc, hd', hj]
         · rw [if_neg hj, List.getElem?_eq_none (by rw [F.flat_len, hlz]; omega)]
     refine hst1.more (fun q o h => ?_) ⟨rfl, rfl, rfl, Nat.le_refl _⟩
     have hq : q < (Go.Sort.putRowK (fun x : {x : α // x ∈ xs} => F.enc x.1) F.sz (Go.Sort.ahead w n) b 0 d').heap.size := (Array.getElem?_eq_some_iff.1 h).1
     simp only [wh, Go.Proofs.sortWorldK, Go.Sort.grow] at h ⊢
     rw [Array.getElem?_append, if_pos hq]; exact h
end Go.Proofs.YthhjapiggekjbaaGreat
namespace Go.Proofs.YthhjapiggekjbaaGreat
set_option linter.unusedVariables false
set_option linter.unusedSimpArgs false
open Go Go.Shelf
def sortN_ren : Go.Shelf.Ren := ⟨fun | 6 => 75 | 15 => 127 | 14 => 126 | 28 => 181 | 29 => 182 | 20 => 173 | 21 => 174 | 22 => 175 | 23 => 176 | 24 => 177 | 25 => 178 | 26 => 179 | 27 => 180 | 46 => 210 | 47 => 211 | 48 => 212 | 49 => 213 | 50 => 214 | 57 => 232 | n => n, fun | 22 => 74 | 24 => 82 | 25 => 130 | 3 => 3 | 39 => 100 | 0 => 0 | 53 => 253 | 55 => 60 | 4 => 4 | 46 => 246 | 45 => 245 | 50 => 250 | 5 => 5 | 9 => 9 | 66 => 278 | 70 => 282 | 76 => 292 | 77 => 293 | n => n, fun | n => n⟩
theorem sortN : Go.Proofs.SlLaysF0.n6 Tryz.prog sortN_ren := {
 mixed := by kernel_rfl
 f6 := ⟨Tryz.f75.name, by decide, Tryz.func75.trans (congrArg some (by kernel_rfl))⟩
 f14 := ⟨Tryz.f126.name, by decide, Tryz.func126.trans (congrArg some (by kernel_rfl))⟩
 f15 := Tryz.func127.trans (congrArg some (by kernel_rfl))
 f20 := ⟨Tryz.f173.name, by decide, Tryz.func173.trans (congrArg some (by kernel_rfl))⟩
 f21 := ⟨Tryz.f174.name, by decide, Tryz.func174.trans (congrArg some (by kernel_rfl))⟩
 f22 := ⟨Tryz.f175.name, by decide, Tryz.func175.trans (congrArg some (by kernel_rfl))⟩
 f23 := ⟨Tryz.f176.name, by decide, Tryz.func176.trans (congrArg some (by kernel_rfl))⟩
 f24 := ⟨Tryz.f177.name, by decide, Tryz.func177.trans (congrArg some (by kernel_rfl))⟩
 f25 := ⟨Tryz.f178.name, by decide, Tryz.func178.trans (congrArg some (by kernel_rfl))⟩
 f26 := ⟨Tryz.f179.name, by decide, Tryz.func179.trans (congrArg some (by kernel_rfl))⟩
 f27 := ⟨Tryz.f180.name, by decide, Tryz.func180.trans (congrArg some (by kernel_rfl))⟩
 f28 := Tryz.func181.trans (congrArg some (by kernel_rfl))
 f29 := Tryz.func182.trans (congrArg some (by kernel_rfl))
 f46 := ⟨Tryz.f210.name, by decide, Tryz.func210.trans (congrArg some (by kernel_rfl))⟩
 f47 := Tryz.func211.trans (congrArg some (by kernel_rfl))
 f48 := Tryz.func212.trans (congrArg some (by kernel_rfl))
 f49 := ⟨Tryz.f213.name, by decide, Tryz.func213.trans (congrArg some (by kernel_rfl))⟩
 f50 := ⟨Tryz.f214.name, by decide, Tryz.func214.trans (congrArg some (by kernel_rfl))⟩
 f57 := ⟨Tryz.f232.name, by decide, Tryz.func232.trans (congrArg some (by kernel_rfl))⟩
 t0 := Tryz.underlying0
 a0 := Tryz.isAgg0
 z0 := Tryz.sizeOf0
 v0 := Tryz.zeroValue0
 t3 := Tryz.underlying3
 a3 := Tryz.isAgg3
 z3 := Tryz.sizeOf3
 v3 := Tryz.zeroValue3
 t4 := Tryz.underlying4
 a4 := Tryz.isAgg4
 z4 := Tryz.sizeOf4
 v4 := Tryz.zeroValue4
 t5 := Tryz.underlying5
 a5 := Tryz.isAgg5
 z5 := Tryz.sizeOf5
 v5 := Tryz.zeroValue5
 t9 := Tryz.underlying9
 a9 := Tryz.isAgg9
 z9 := Tryz.sizeOf9
 v9 := Tryz.zeroValue9
 t22 := Tryz.underlying74
 a22 := Tryz.isAgg74
 z22 := Tryz.sizeOf74
 v22 := Tryz.zeroValue74
 t25 := Tryz.underlying130
 a25 := Tryz.isAgg130
 z25 := Tryz.sizeOf130
 v25 := Tryz.zeroValue130
 t39 := Tryz.underlying100
 a39 := Tryz.isAgg100
 z39 := Tryz.sizeOf100
 v39 := Tryz.zeroValue100
 t45 := Tryz.underlying245
 a45 := Tryz.isAgg245
 z45 := Tryz.sizeOf245
 v45 := Tryz.zeroValue245
 t46 := Tryz.underlying246
 a46 := Tryz.isAgg246
 z46 := Tryz.sizeOf246
 v46 := Tryz.zeroValue246
 t50 := Tryz.underlying250
 a50 := Tryz.isAgg250
 z50 := Tryz.sizeOf250
 v50 := Tryz.zeroValue250
 t53 := Tryz.underlying253
 a53 := Tryz.isAgg253
 z53 := Tryz.sizeOf253
 v53 := Tryz.zeroValue253
 t55 := Tryz.underlying60
 a55 := Tryz.isAgg60
 z55 := Tryz.sizeOf60
 v55 := Tryz.zeroValue60
 t66 := Tryz.underlying278
 a66 := Tryz.isAgg278
 z66 := Tryz.sizeOf278
 v66 := Tryz.zeroValue278
 t70 := Tryz.underlying282
 a70 := Tryz.isAgg282
 z70 := Tryz.sizeOf282
 v70 := Tryz.zeroValue282
 t76 := Tryz.underlying292
 a76 := Tryz.isAgg292
 z76 := Tryz.sizeOf292
 v76 := Tryz.zeroValue292
 t77 := Tryz.underlying293
 a77 := Tryz.isAgg293
 z77 := Tryz.sizeOf293
 v77 := Tryz.zeroValue293 }
end Go.Proofs.YthhjapiggekjbaaGreat
