/-
  Contracts of functions and plain facts that the last text of this folder uses, part 5.
-/
import Derived.Test.YthhjapiggekjbaaGreatSA4
namespace Go.Proofs.YthhjapiggekjbaaGreat
set_option linter.unusedVariables false
set_option linter.unusedSimpArgs false
open Go
set_option maxRecDepth 20000
set_option linter.unusedSimpArgs false
variable {G : Gh} {L : List Ch} {R : Value → Gh → List Ch → Prop}
theorem flat_mem {cs : List ECell} {os : List EOcc} {i m : Nat} (hi : i < os.length) (hm : m < (gd cs (gd os i).cell.toNat).shapes.length) : (⟨(gd (gd cs (gd os i).cell.toNat).shapes m).layer, moveR (gd os i).place (gd (gd cs (gd os i).cell.toNat).shapes m).box⟩ : Shape) ∈ flatL cs os :=
  List.mem_flatMap.2 ⟨gd os i, gd_mem hi, List.mem_map.2 ⟨_, gd_mem hm, rfl⟩⟩
theorem flat_bad {cs : List ECell} {os : List EOcc} {i m : Nat} (hi : i < os.length) (hm : m < (gd cs (gd os i).cell.toNat).shapes.length) (h : validRect (moveR (gd os i).place (gd (gd cs (gd os i).cell.toNat).shapes m).box) = false) : ((flatL cs os).any fun s => !validRect s.box) = true :=
  List.any_eq_true.2 ⟨_, flat_mem hi hm, by simp [h]⟩
theorem flat_good {cs : List ECell} {os : List EOcc} (h : ∀ i, i < os.length → ∀ m, m < (gd cs (gd os i).cell.toNat).shapes.length → validRect (moveR (gd os i).place (gd (gd cs (gd os i).cell.toNat).shapes m).box) = true) : ((flatL cs os).any fun s => !validRect s.box) = false := by
  rw [List.any_eq_false]
  intro s hs
  obtain ⟨o, ho, hs⟩ := List.mem_flatMap.1 hs
  obtain ⟨i, hi, rfl⟩ := List.getElem_of_mem ho
  obtain ⟨q, hq, rfl⟩ := List.mem_map.1 hs
  obtain ⟨m, hm, rfl⟩ := List.getElem_of_mem hq
  have := h i hi m (by rw [gd_eq hi]; exact hm)
  rw [gd_eq hi, gd_eq hm] at this
  simp [this]
theorem shE_occ {cs : List ECell} {cell : Int} (h : occE cs cell ≠ 0) : shE cs cell = occE cs cell := by rw [shE, decide_eq_false h]; rfl
theorem shE_flat {cs : List ECell} {cell : Int} (h : occE cs cell = 0) : shE cs cell = bif (flatL cs (occR cs cell)).any fun s => !validRect s.box then 2 else 0 := by rw [shE, decide_eq_true h]; rfl
/-- what an occurrence gives -/
structure OccAt (xs : List Cell) (cell : Int) (zs : List Occ) (i : Nat) : Prop where
  hc : 0 ≤ (gd zs i).cell ∧ (gd zs i).cell.toNat < xs.length
  ho : gd (occR (erCls xs) cell) i = erO (gd zs i)
  hi : i < (occR (erCls xs) cell).length
  hp : (0 ≤ (gd zs i).place.o ∧ (gd zs i).place.o ≤ 7) ∧ -1000 ≤ (gd zs i).place.x ∧ (gd zs i).place.x ≤ 1000 ∧ -1000 ≤ (gd zs i).place.y ∧ (gd zs i).place.y ≤ 1000
  hs : (gd (erCls xs) (gd zs i).cell.toNat).shapes = (gd xs (gd zs i).cell.toNat).shapes.xs
  hb : ∀ m, m < (gd xs (gd zs i).cell.toNat).shapes.xs.length → RIn 40 (gd (gd xs (gd zs i).cell.toNat).shapes.xs m).box
  hl : (gd xs (gd zs i).cell.toNat).shapes.xs.length ≤ 24 ∧ (occR (erCls xs) cell).length ≤ 200
theorem OccAt.of {xs : List Cell} {cell : Int} {zs : List Occ} (he : erOs zs = occR (erCls xs) cell) {i : Nat} (hi : i < zs.length) : OccAt xs cell zs i := by
  have hl : zs.length = (occR (erCls xs) cell).length := by rw [← he, erOs_len]
  have ho : gd (occR (erCls xs) cell) i = erO (gd zs i) := by rw [← he, erOs_gd hi]
  obtain ⟨h1, h2, h3, h4⟩ := occR_cell (cs := erCls xs) (cell := cell) (i := i) (by omega)
  rw [ho] at h2 h3
  simp only [erO] at h2 h3
  have hE := erCls_len xs
  obtain ⟨q1, q2, q3⟩ := validT_iff.1 h3
  have hs : (gd (erCls xs) (gd zs i).cell.toNat).shapes = (gd xs (gd zs i).cell.toNat).shapes.xs := by rw [erCls_gd (by omega)]; rfl
  refine ⟨by omega, ho, by omega, by omega, hs, fun m hm => ?_, ?_⟩
  · have := okLib_shape h1 (i := (gd zs i).cell.toNat) (j := m) (by omega) (by rw [hs]; exact hm)
    rw [hs] at this
    simp only [okSh, Bool.and_eq_true] at this
    exact validR_in this.2
  · have := (okLib_cnt h1 (i := (gd zs i).cell.toNat) (by omega)).2
    rw [hs] at this
    exact ⟨this, h4⟩
theorem OccAt.step {xs : List Cell} {cell : Int} {zs : List Occ} {i m : Nat} (h : OccAt xs cell zs i) (hm : m < (gd xs (gd zs i).cell.toNat).shapes.xs.length) :
    (flatOf (erCls xs) (gd (occR (erCls xs) cell) i)).take (m + 1) = (flatOf (erCls xs) (gd (occR (erCls xs) cell) i)).take m ++ [⟨(gd (gd xs (gd zs i).cell.toNat).shapes.xs m).layer, moveR (gd zs i).place (gd (gd xs (gd zs i).cell.toNat).shapes.xs m).box⟩] := by
  have := flatOf_step (cs := erCls xs) (o := gd (occR (erCls xs) cell) i) (k := m) (by rw [h.ho]; simp only [erO]; rw [h.hs]; exact hm)
  rw [this, h.ho]
  simp only [erO, h.hs]
theorem OccAt.len {xs : List Cell} {cell : Int} {zs : List Occ} {i : Nat} (h : OccAt xs cell zs i) : (flatOf (erCls xs) (gd (occR (erCls xs) cell) i)).length = (gd xs (gd zs i).cell.toNat).shapes.xs.length := by
  rw [flatOf_len, h.ho]; simp only [erO, h.hs]
/-- shapes of the occurrences before the i-th are valid -/
def goodTo (cs : List ECell) (os : List EOcc) (i : Nat) : Prop := ∀ j, j < i → ∀ m, m < (gd cs (gd os j).cell.toNat).shapes.length → validRect (moveR (gd os j).place (gd (gd cs (gd os j).cell.toNat).shapes m).box) = true
theorem goodTo.next {xs : List Cell} {cell : Int} {zs : List Occ} {i : Nat} (h : goodTo (erCls xs) (occR (erCls xs) cell) i) (ha : OccAt xs cell zs i) (hm : ∀ m, m < (gd xs (gd zs i).cell.toNat).shapes.xs.length → validRect (moveR (gd zs i).place (gd (gd xs (gd zs i).cell.toNat).shapes.xs m).box) = true) : goodTo (erCls xs) (occR (erCls xs) cell) (i + 1) := by
  intro j hj m hm2
  by_cases c : j = i
  · subst c
    rw [ha.ho] at hm2 ⊢
    simp only [erO, ha.hs] at hm2 ⊢
    exact hm m hm2
  · exact h j (by omega) m hm2
theorem OccAt.bad {xs : List Cell} {cell : Int} {zs : List Occ} {i m : Nat} (ha : OccAt xs cell zs i) (hm : m < (gd xs (gd zs i).cell.toNat).shapes.xs.length) (h : validRect (moveR (gd zs i).place (gd (gd xs (gd zs i).cell.toNat).shapes.xs m).box) = false) : ((flatL (erCls xs) (occR (erCls xs) cell)).any fun s => !validRect s.box) = true := by
  refine flat_bad (i := i) (m := m) ha.hi ?_ ?_
  · rw [ha.ho]; simp only [erO, ha.hs]; exact hm
  · rw [ha.ho]; simp only [erO, ha.hs]; exact h
theorem flat_i {l : Lib} {cell : Int} (hL : RLib G L l.cells.v l.cells.xs) (hlen : lenC (erCls l.cells.xs)) (k : ∀ v', R (.tuple #[v', vi (shE (erCls l.cells.xs) cell)]) G (osl 142 shapeT v' (shR (erCls l.cells.xs) cell) :: L)) : CallT Tryz.prog 45 #[vT libT l, vi cell] G L R := by
  have hE := erCls_len l.cells.xs
  refine CallT.enter (args := _) Tryz.func45 rfl rfl (by kernel_rfl) rfl ?_
  refine WP.seq ?_
  refine WP.region ?_
  refine RG.ot rfl (OT.box (cs := libT.enc l) rfl rfl rfl fun b2 => ?_)
  refine RG.pv rfl (PV.asg rfl rfl) ?_
  refine RG.pv rfl (PV.mvI (.inr rfl) rfl) ?_
  refine RG.nil ?_
  refine WP.seq ?_
  refine WP.region ?_
  refine RG.pv rfl (PV.loadW rfl Ag31 rfl rfl) ?_
  refine RG.pv rfl (PV.mvI (.inl rfl) rfl) ?_
  refine RG.callF (vs := [_, _]) rfl rfl En81 rfl (occ_i hL.up hlen (fun w17 zs he => ?_))
  refine RG.pv rfl (PV.move (v := .tuple _) rfl rfl) ?_
  refine RG.pv rfl (PV.ext (v := w17) rfl rfl rfl) ?_
  refine RG.pv rfl (PV.ext rfl rfl rfl) ?_
  refine RG.pv rfl (PV.asg (v := w17) rfl rfl) ?_
  refine RG.pv rfl (PV.mvI (.inr rfl) rfl) ?_
  refine RG.nil ?_
  refine WP.seq ?_
  refine WP.seq ?_
  refine WP.region ?_
  refine RG.pv rfl (PV.mvI (.inl rfl) rfl) ?_
  refine RG.pv rfl (PV.neq rfl rfl rfl) ?_
  refine RG.nil ?_
  refine WP.cond rfl (fun h1 => ?_) (fun h1 => ?_)
  · have h1 : occE (erCls l.cells.xs) cell ≠ 0 := by simpa using h1
    have e := shE_occ h1
    have e2 : shR (erCls l.cells.xs) cell = [] := shR_no (by rw [e]; exact h1)
    rw [e, e2] at k
    refine WP.seq ?_
    refine WP.region ?_
    refine RG.pv rfl (PV.mvI (.inl rfl) rfl) ?_
    refine RG.pv rfl (PV.asg rfl rfl) ?_
    refine RG.pv rfl (PV.mvI (.inr rfl) rfl) ?_
    refine RG.nil ?_
    refine WP.ret ?_
    exact ⟨_, _, ResV.two rfl rfl rfl, Cv.p.trans Cv.nilS, k (.slice none 0 0)⟩
  · have h1 : occE (erCls l.cells.xs) cell = 0 := by simpa using h1
    have hse := shE_flat h1
    have hzl : zs.length = (occR (erCls l.cells.xs) cell).length := by rw [← he, erOs_len]
    refine WP.skip ?_
    refine WP.seq ?_
    refine WP.region ?_
    refine RG.ot rfl (OT.bslice (F := shapeT) (els := []) rfl El83 rfl (by decide) rfl (by decide) trivial fun v23 => ?_)
    refine RG.pv rfl (PV.asg (v := v23) rfl rfl) ?_
    refine RG.nil ?_
    refine WP.seq ?_
    refine WP.seq ?_
    refine WP.region ?_
    refine RG.pv rfl (PV.move (v := w17) rfl rfl) ?_
    refine RG.pv rfl (PV.len (v := w17) rfl Tryz.underlying94 rfl SlF.o) ?_
    refine RG.pv rfl (PV.mvI (.inl rfl) rfl) ?_
    refine RG.nil ?_
    refine WP.block ?_
    refine WP.bdo w17 fun hbz => ?_
    refine WP.cv (Cv.eqS (ys := flatL (erCls l.cells.xs) ((occR (erCls l.cells.xs) cell).take 0)) rfl) ?_
    refine WP.loop2 [2, 24, 25] (fun (i : Nat) (v : Value) => i ≤ zs.length ∧ goodTo (erCls l.cells.xs) (occR (erCls l.cells.xs) cell) i) (fun (i : Nat) (v : Value) => [(26, vi i), (8, v)]) (fun (i : Nat) (v : Value) => osl 142 shapeT v (flatL (erCls l.cells.xs) ((occR (erCls l.cells.xs) cell).take i)) :: osl 138 occT w17 zs :: bagS 2 intT (pths zs) :: blk b2 31 (libT.enc l) :: L) (fun (i : Nat) (v : Value) => zs.length - i) 0 v23 ⟨by omega, fun j h => by omega⟩ ⟨rfl, rfl, trivial⟩ Cv.p ?_
    rintro i v τ ⟨hi, hg⟩
    refine WP.seq ?_
    refine WP.region ?_
    refine RG.pv rfl (PV.lss rfl rfl rfl) ?_
    refine RG.nil ?_
    refine WP.seq ?_
    have hfb := flatL_bd (cs := (erCls l.cells.xs)) (cell := cell) i (by omega)
    refine WP.cond rfl (fun h2 => ?_) (fun h2 => ?_)
    · have h2 := of_decide_eq_true h2
      have h3 : i < zs.length := by omega
      have ha := OccAt.of (cell := cell) he h3
      have hrd : Rs G (bagS 2 intT (pths zs) :: []) intT (gd zs i).path.v (gd zs i).path.xs := RsE.path RsE.o h3
      have hac := ha.hc
      have hal := ha.hl
      have hsl := hL.sa ha.hc.2
      refine WP.skip ?_
      refine WP.seq ?_
      refine WP.block ?_
      refine WP.seq ?_
      refine WP.region ?_
      refine RG.pv rfl (PV.idxS (v := w17) rfl Is94 rfl SlF.o rfl rfl (by omega)) ?_
      refine RG.pv rfl (PV.loadE rfl Ag138 rfl rfl (El.o (getG (by omega)))) ?_
      refine RG.ot rfl (OT.alloc rfl Zr138 fun b10 => ?_)
      refine RG.ot rfl (OT.storeW (vs := [vi _, vi _, vi _, vi _, _]) rfl Sz138 rfl rfl (Cl.c rfl) rfl rfl (OneC.val rfl (OneC.val rfl (OneC.val rfl (OneC.val rfl (OneC.sl (SlF.r hrd) OneC.nil))))) ?_)
      refine RG.nil ?_
      refine WP.seq ?_
      refine WP.region ?_
      refine RG.pv rfl (PV.field rfl Fo31_0 rfl) ?_
      refine RG.pv rfl (PV.load1 rfl Sc29 rfl (Rd.blk rfl)) ?_
      refine RG.pv rfl (PV.field rfl Fo138_0 rfl) ?_
      refine RG.pv rfl (PV.load1 rfl Sc2 rfl (Rd.blk rfl)) ?_
      refine RG.pv rfl (PV.idxS (j := (gd zs i).cell.toNat) rfl Is29 rfl (SlF.r hL.c) rfl (by omega) (by omega)) ?_
      refine RG.pv rfl (PV.field rfl Fo116_1 rfl) ?_
      refine RG.pv rfl (PV.loadF rfl Sc83 rfl rfl (El.r hL.c (getG (by omega))) rfl) ?_
      refine RG.pv rfl (PV.len rfl Tryz.underlying83 rfl (SlF.r hsl)) ?_
      refine RG.pv rfl (PV.mvI (.inl rfl) rfl) ?_
      refine RG.nil ?_
      refine WP.block ?_
      refine WP.cv ((Cv.p (C := osl 142 shapeT v (flatL (erCls l.cells.xs) ((occR (erCls l.cells.xs) cell).take i)) :: osl 138 occT w17 zs :: bagS 2 intT (pths zs) :: blk b2 31 (libT.enc l) :: blk b10 138 (occT.enc (gd zs i)) :: L)).trans (Cv.eqS (ys := flatL (erCls l.cells.xs) ((occR (erCls l.cells.xs) cell).take i) ++ (flatOf (erCls l.cells.xs) (gd (occR (erCls l.cells.xs) cell) i)).take 0) (by simp))) ?_
      refine WP.loop2 [2, 10, 24, 25, 26, 36, 37] (fun (m : Nat) (v : Value) => m ≤ (gd l.cells.xs (gd zs i).cell.toNat).shapes.xs.length ∧ ∀ j, j < m → validRect (moveR (gd zs i).place (gd (gd l.cells.xs (gd zs i).cell.toNat).shapes.xs j).box) = true) (fun (m : Nat) (v : Value) => [(38, vi m), (8, v)]) (fun (m : Nat) (v : Value) => osl 142 shapeT v (flatL (erCls l.cells.xs) ((occR (erCls l.cells.xs) cell).take i) ++ (flatOf (erCls l.cells.xs) (gd (occR (erCls l.cells.xs) cell) i)).take m) :: osl 138 occT w17 zs :: bagS 2 intT (pths zs) :: blk b2 31 (libT.enc l) :: blk b10 138 (occT.enc (gd zs i)) :: L) (fun (m : Nat) (v : Value) => (gd l.cells.xs (gd zs i).cell.toNat).shapes.xs.length - m) 0 v ⟨by omega, fun j h => by omega⟩ ⟨rfl, rfl, trivial⟩ Cv.p ?_
      rintro m v τ ⟨hm, hq⟩
      refine WP.seq ?_
      refine WP.region ?_
      refine RG.pv rfl (PV.lss rfl rfl rfl) ?_
      refine RG.nil ?_
      refine WP.seq ?_
      refine WP.cond rfl (fun h4 => ?_) (fun h4 => ?_)
      · have h4 := of_decide_eq_true h4
        have hst := ha.step (m := m) (by omega)
        have hll : (flatL (erCls l.cells.xs) ((occR (erCls l.cells.xs) cell).take i) ++ (flatOf (erCls l.cells.xs) (gd (occR (erCls l.cells.xs) cell) i)).take m).length ≤ 6000 := by rw [List.length_append, List.length_take]; omega
        refine WP.skip ?_
        refine WP.seq ?_
        refine WP.block ?_
        refine WP.seq ?_
        refine WP.region ?_
        refine RG.pv rfl (PV.idxS rfl Is83 rfl (SlF.r hsl) rfl rfl (by omega)) ?_
        refine RG.pv rfl (PV.loadE rfl Ag142 rfl rfl (El.r hsl (getG (by omega)))) ?_
        refine RG.ot rfl (OT.alloc rfl Zr142 fun b12 => ?_)
        refine RG.ot rfl (OT.storeW (vs := [vi _, vi _, vi _, vi _, vi _]) rfl Sz142 rfl rfl (Cl.c rfl) rfl rfl (OneC.c rfl) ?_)
        refine RG.nil ?_
        refine WP.seq ?_
        refine WP.region ?_
        refine RG.pv rfl (PV.field rfl Fo138_1 rfl) ?_
        refine RG.pv rfl (PV.loadB (vs := [_, _, _]) rfl Ag136 rfl rfl rfl) ?_
        refine RG.pv rfl (PV.field rfl Fo142_1 rfl) ?_
        refine RG.pv rfl (PV.loadB (vs := [_, _, _, _]) rfl Ag140 rfl rfl rfl) ?_
        refine RG.callF (vs := [_, _]) rfl rfl En82 rfl (moveRect_s ha.hp.1 ha.hp.2 (ha.hb m (by omega)) ?_)
        refine RG.ot rfl (OT.alloc rfl Zr140 fun b13 => ?_)
        refine RG.ot rfl (OT.storeW (vs := [vi _, vi _, vi _, vi _]) rfl Sz140 rfl rfl (Cl.c rfl) rfl rfl (OneC.c rfl) ?_)
        refine RG.nil ?_
        refine WP.seq ?_
        refine WP.seq ?_
        refine WP.region ?_
        refine RG.pv rfl (PV.loadW rfl Ag140 rfl rfl) ?_
        refine RG.callF (vs := [_]) rfl rfl En83 rfl (validRect_s ?_)
        refine RG.pv rfl (PV.not rfl rfl) ?_
        refine RG.nil ?_
        refine WP.cond rfl (fun h5 => ?_) (fun h5 => ?_)
        · have e : shE (erCls l.cells.xs) cell = 2 := by rw [hse, ha.bad (m := m) (by omega) (by simpa using h5)]; rfl
          have e2 : shR (erCls l.cells.xs) cell = [] := shR_no (by rw [e]; decide)
          rw [e, e2] at k
          refine WP.seq ?_
          refine WP.region ?_
          refine RG.pv rfl (PV.asg rfl rfl) ?_
          refine RG.pv rfl (PV.mvI (.inr rfl) rfl) ?_
          refine RG.nil ?_
          refine WP.ret ?_
          exact ⟨_, _, ResV.two rfl rfl rfl, Cv.p.trans Cv.nilS, k (.slice none 0 0)⟩
        · have hq' : ∀ j, j < m + 1 → validRect (moveR (gd zs i).place (gd (gd l.cells.xs (gd zs i).cell.toNat).shapes.xs j).box) = true := fun j h => by
            by_cases c : j = m
            · rw [c]; simpa using h5
            · exact hq j (by omega)
          refine WP.skip ?_
          refine WP.region ?_
          refine RG.pv rfl (PV.move (v := v) rfl rfl) ?_
          refine RG.pv rfl (PV.field rfl Fo142_0 rfl) ?_
          refine RG.pv rfl (PV.load1 rfl Sc2 rfl (Rd.blk rfl)) ?_
          refine RG.pv rfl (PV.loadW rfl Ag140 rfl rfl) ?_
          refine RG.pv rfl (PV.build (vs := [(0, [vi _]), (1, [vi _, vi _, vi _, vi _])]) (out := [_, _, _, _, _]) rfl Zr142 Pl142 ⟨rfl, (Cl.c rfl), ⟨rfl, (Cl.c rfl), trivial⟩⟩ rfl) ?_
          refine RG.ot rfl (OT.bslice (F := shapeT) (els := [⟨(gd (gd l.cells.xs (gd zs i).cell.toNat).shapes.xs m).layer, moveR (gd zs i).place (gd (gd l.cells.xs (gd zs i).cell.toNat).shapes.xs m).box⟩]) rfl El83 rfl (by decide) rfl (by decide) ⟨rfl, (Cl.c rfl), trivial⟩ fun v55 => ?_)
          refine RG.ot rfl (OT.append (v := v) (u := v55) (F := shapeT) rfl El83 rfl (by decide) rfl rfl Rs.o (OneL.c (fun _ => rfl)) rfl (by first | omega | (simp <;> omega)) fun v56 => ?_)
          refine RG.pv rfl (PV.asg (v := v56) rfl rfl) ?_
          refine RG.nil ?_
          refine WP.region ?_
          refine RG.pv rfl (PV.add rfl rfl rfl (by omega)) ?_
          refine RG.pv rfl (PV.mvI (.inl rfl) rfl) ?_
          refine RG.nil ?_
          exact ⟨rfl, m + 1, v56, ⟨by omega, hq'⟩, ⟨rfl, rfl, trivial⟩, ⟨rfl, rfl, rfl, rfl, rfl, rfl, rfl, trivial⟩, ((Cv.p (C := osl 142 shapeT v56 (flatL (erCls l.cells.xs) ((occR (erCls l.cells.xs) cell).take i) ++ (flatOf (erCls l.cells.xs) (gd (occR (erCls l.cells.xs) cell) i)).take m ++ [⟨(gd (gd l.cells.xs (gd zs i).cell.toNat).shapes.xs m).layer, moveR (gd zs i).place (gd (gd l.cells.xs (gd zs i).cell.toNat).shapes.xs m).box⟩]) :: osl 138 occT w17 zs :: bagS 2 intT (pths zs) :: blk b2 31 (libT.enc l) :: blk b10 138 (occT.enc (gd zs i)) :: L)).trans (Cv.eqS (by rw [List.append_assoc, ← hst]))), by omega⟩
      · have h4 := of_decide_eq_false h4
        have e : flatL (erCls l.cells.xs) ((occR (erCls l.cells.xs) cell).take i) ++ (flatOf (erCls l.cells.xs) (gd (occR (erCls l.cells.xs) cell) i)).take m = flatL (erCls l.cells.xs) ((occR (erCls l.cells.xs) cell).take (i + 1)) := by rw [List.take_of_length_le (i := m) (l := flatOf (erCls l.cells.xs) (gd (occR (erCls l.cells.xs) cell) i)) (by rw [ha.len]; omega), flatL_take ha.hi]
        refine WP.exit ?_
        refine WP.region ?_
        refine RG.pv rfl (PV.add rfl rfl rfl (by omega)) ?_
        refine RG.pv rfl (PV.mvI (.inl rfl) rfl) ?_
        refine RG.nil ?_
        exact ⟨rfl, i + 1, v, ⟨by omega, hg.next ha (fun j h => hq j (by omega))⟩, ⟨rfl, rfl, trivial⟩, ⟨rfl, rfl, rfl, trivial⟩, ((Cv.eqS e).trans Cv.p), by omega⟩
    · have h2 := of_decide_eq_false h2
      have e : shE (erCls l.cells.xs) cell = 0 := by rw [hse, flat_good (fun j h => hg j (by omega))]; rfl
      have e2 : shR (erCls l.cells.xs) cell = flatL (erCls l.cells.xs) ((occR (erCls l.cells.xs) cell).take i) := by rw [shR_ok e, List.take_of_length_le (by omega)]
      rw [e, e2] at k
      refine WP.exit ?_
      refine WP.seq ?_
      refine WP.region ?_
      refine RG.pv rfl (PV.move (v := v) rfl rfl) ?_
      refine RG.pv rfl (PV.asg (v := v) rfl rfl) ?_
      refine RG.pv rfl (PV.mvI (.inr rfl) rfl) ?_
      refine RG.nil ?_
      refine WP.ret ?_
      exact ⟨_, _, ResV.two rfl rfl rfl, Cv.p, k v⟩
theorem OccAt.big {xs : List Cell} {cell : Int} {zs : List Occ} {i : Nat} (h : OccAt xs cell zs i) : TBig (gd zs i).place := by
  obtain ⟨q1, q2⟩ := h.hp
  exact ⟨q1, by omega⟩
theorem flat_r {l : Lib} {cell : Int} (hL : RLib G L l.cells.v l.cells.xs) (hlen : lenC (erCls l.cells.xs)) (k : ∀ v', R (.tuple #[v', vi (shE (erCls l.cells.xs) cell)]) G (osl 142 shapeT v' (shR (erCls l.cells.xs) cell) :: L)) : CallT Tryz.prog 92 #[vT libT l, vi cell] G L R := by
  have hE := erCls_len l.cells.xs
  refine CallT.enter (args := _) Tryz.func92 rfl rfl (by kernel_rfl) rfl ?_
  refine WP.seq ?_
  refine WP.region ?_
  refine RG.ot rfl (OT.box (cs := libT.enc l) rfl rfl rfl fun b2 => ?_)
  refine RG.pv rfl (PV.asg rfl rfl) ?_
  refine RG.pv rfl (PV.mvI (.inr rfl) rfl) ?_
  refine RG.nil ?_
  refine WP.seq ?_
  refine WP.region ?_
  refine RG.pv rfl (PV.loadW rfl Ag31 rfl rfl) ?_
  refine RG.pv rfl (PV.mvI (.inl rfl) rfl) ?_
  refine RG.callF (vs := [_, _]) rfl rfl En55 rfl (occ_r hL.up hlen (fun w16 zs he => ?_))
  refine RG.pv rfl (PV.move (v := .tuple _) rfl rfl) ?_
  refine RG.pv rfl (PV.ext (v := w16) rfl rfl rfl) ?_
  refine RG.pv rfl (PV.ext rfl rfl rfl) ?_
  refine RG.pv rfl (PV.asg (v := w16) rfl rfl) ?_
  refine RG.pv rfl (PV.mvI (.inr rfl) rfl) ?_
  refine RG.nil ?_
  refine WP.seq ?_
  refine WP.seq ?_
  refine WP.region ?_
  refine RG.pv rfl (PV.mvI (.inl rfl) rfl) ?_
  refine RG.pv rfl (PV.neq rfl rfl rfl) ?_
  refine RG.nil ?_
  refine WP.cond rfl (fun h1 => ?_) (fun h1 => ?_)
  · have h1 : occE (erCls l.cells.xs) cell ≠ 0 := by simpa using h1
    have e := shE_occ h1
    have e2 : shR (erCls l.cells.xs) cell = [] := shR_no (by rw [e]; exact h1)
    rw [e, e2] at k
    refine WP.seq ?_
    refine WP.region ?_
    refine RG.pv rfl (PV.mvI (.inl rfl) rfl) ?_
    refine RG.pv rfl (PV.asg rfl rfl) ?_
    refine RG.pv rfl (PV.mvI (.inr rfl) rfl) ?_
    refine RG.nil ?_
    refine WP.ret ?_
    exact ⟨_, _, ResV.two rfl rfl rfl, Cv.p.trans Cv.nilS, k (.slice none 0 0)⟩
  · have h1 : occE (erCls l.cells.xs) cell = 0 := by simpa using h1
    have hse := shE_flat h1
    have hzl : zs.length = (occR (erCls l.cells.xs) cell).length := by rw [← he, erOs_len]
    refine WP.skip ?_
    refine WP.seq ?_
    refine WP.region ?_
    refine RG.ot rfl (OT.bslice (F := shapeT) (els := []) rfl El83 rfl (by decide) rfl (by decide) trivial fun v22 => ?_)
    refine RG.pv rfl (PV.asg (v := v22) rfl rfl) ?_
    refine RG.nil ?_
    refine WP.seq ?_
    refine WP.seq ?_
    refine WP.region ?_
    refine RG.pv rfl (PV.mvI (.inr rfl) rfl) ?_
    refine RG.nil ?_
    refine WP.block ?_
    refine WP.bdo w16 fun hbz => ?_
    refine WP.cv (Cv.eqS (ys := flatL (erCls l.cells.xs) ((occR (erCls l.cells.xs) cell).take 0)) rfl) ?_
    refine WP.loop2 [2, 6] (fun (i : Nat) (v : Value) => i ≤ zs.length ∧ goodTo (erCls l.cells.xs) (occR (erCls l.cells.xs) cell) i) (fun (i : Nat) (v : Value) => [(9, vi i), (8, v)]) (fun (i : Nat) (v : Value) => osl 142 shapeT v (flatL (erCls l.cells.xs) ((occR (erCls l.cells.xs) cell).take i)) :: osl 138 occT w16 zs :: bagS 2 intT (pths zs) :: blk b2 31 (libT.enc l) :: L) (fun (i : Nat) (v : Value) => zs.length - i) 0 v22 ⟨by omega, fun j h => by omega⟩ ⟨rfl, rfl, trivial⟩ Cv.p ?_
    rintro i v τ ⟨hi, hg⟩
    refine WP.seq ?_
    refine WP.seq ?_
    refine WP.region ?_
    refine RG.pv rfl (PV.mvI (.inl rfl) rfl) ?_
    refine RG.pv rfl (PV.move (v := w16) rfl rfl) ?_
    refine RG.pv rfl (PV.len (v := w16) rfl Tryz.underlying94 rfl SlF.o) ?_
    refine RG.pv rfl (PV.lss rfl rfl rfl) ?_
    refine RG.nil ?_
    have hfb := flatL_bd (cs := (erCls l.cells.xs)) (cell := cell) i (by omega)
    refine WP.cond rfl (fun h2 => ?_) (fun h2 => ?_)
    · have h2 := of_decide_eq_true h2
      have h3 : i < zs.length := by omega
      have ha := OccAt.of (cell := cell) he h3
      have hac := ha.hc
      have hal := ha.hl
      have hsl := hL.sa ha.hc.2
      refine WP.skip ?_
      refine WP.seq ?_
      refine WP.block ?_
      refine WP.seq ?_
      refine WP.regionH0 (.q 0 (.q 1 (.q 2 (.q 3 (.q 4 (.q 5 (.q 6 (.q 7 (.q 8 (.l 9 (.l 10 Sch.nil))))))))))) (by kernel_rfl) (by kernel_rfl) (by kernel_rfl) rfl ?_
      refine RH.pv rfl (fun _ _ _ _ h => h) (Gh.le_refl _) PickC.pick rfl (PV.field rfl Fo31_0 rfl) ?_
      refine RH.pv rfl (fun _ _ _ _ h => h) (Gh.le_refl _) PickC.pick rfl (PV.load1 rfl Sc29 rfl (Rd.blk rfl)) ?_
      refine RH.pv rfl (fun _ _ _ _ h => h) (Gh.le_refl _) PickC.pick rfl (PV.move (v := w16) rfl rfl) ?_
      refine RH.pv rfl (fun _ _ _ _ h => h) (Gh.le_refl _) PickC.pick rfl (PV.mvI (.inl rfl) rfl) ?_
      refine RH.pv rfl (fun _ _ _ _ h => h) (Gh.le_refl _) PickC.pick rfl (PV.idxS (v := w16) rfl Is94 rfl SlF.o rfl rfl (by omega)) ?_
      refine RH.pv rfl (fun _ _ _ _ h => h) (Gh.le_refl _) PickC.pick rfl (PV.field rfl Fo138_0 rfl) ?_
      refine RH.pv rfl (fun _ _ _ _ h => h) (Gh.le_refl _) PickC.pick rfl (PV.loadF rfl Sc2 rfl rfl (El.o (getG (by omega))) rfl) ?_
      refine RH.pv rfl (fun _ _ _ _ h => h) (Gh.le_refl _) PickC.pick rfl (PV.idxS (j := (gd zs i).cell.toNat) rfl Is29 rfl (SlF.r hL.c) rfl (by omega) (by omega)) ?_
      refine RH.pv rfl (fun _ _ _ _ h => h) (Gh.le_refl _) PickC.pick rfl (PV.loadE rfl Ag116 rfl rfl (El.r hL.c (getG (by omega)))) ?_
      refine RH.ot rfl rfl (OT.alloc rfl Zr116 fun b10 => ⟨Gh.le_refl _, PickC.pick, ?_⟩)
      refine RH.ot rfl rfl (OT.storeW (vs := [.string _, _, _, _]) rfl Sz116 rfl rfl (Cl.c rfl) rfl rfl (hL.one ha.hc.2) ⟨Gh.le_refl _, PickC.pick, ?_⟩)
      refine RH.nil ?_
      refine WP.seq ?_
      refine WP.region ?_
      refine RG.pv rfl (PV.mvI (.inr rfl) rfl) ?_
      refine RG.nil ?_
      refine WP.block ?_
      refine WP.cv ((Cv.p (C := osl 142 shapeT v (flatL (erCls l.cells.xs) ((occR (erCls l.cells.xs) cell).take i)) :: osl 138 occT w16 zs :: bagS 2 intT (pths zs) :: blk b2 31 (libT.enc l) :: blk b10 116 (cellT.enc (gd l.cells.xs (gd zs i).cell.toNat)) :: L)).trans (Cv.eqS (ys := flatL (erCls l.cells.xs) ((occR (erCls l.cells.xs) cell).take i) ++ (flatOf (erCls l.cells.xs) (gd (occR (erCls l.cells.xs) cell) i)).take 0) (by simp))) ?_
      refine WP.loop2 [2, 6, 9, 10] (fun (m : Nat) (v : Value) => m ≤ (gd l.cells.xs (gd zs i).cell.toNat).shapes.xs.length ∧ ∀ j, j < m → validRect (moveR (gd zs i).place (gd (gd l.cells.xs (gd zs i).cell.toNat).shapes.xs j).box) = true) (fun (m : Nat) (v : Value) => [(11, vi m), (8, v)]) (fun (m : Nat) (v : Value) => osl 142 shapeT v (flatL (erCls l.cells.xs) ((occR (erCls l.cells.xs) cell).take i) ++ (flatOf (erCls l.cells.xs) (gd (occR (erCls l.cells.xs) cell) i)).take m) :: osl 138 occT w16 zs :: bagS 2 intT (pths zs) :: blk b2 31 (libT.enc l) :: blk b10 116 (cellT.enc (gd l.cells.xs (gd zs i).cell.toNat)) :: L) (fun (m : Nat) (v : Value) => (gd l.cells.xs (gd zs i).cell.toNat).shapes.xs.length - m) 0 v ⟨by omega, fun j h => by omega⟩ ⟨rfl, rfl, trivial⟩ Cv.p ?_
      rintro m v τ ⟨hm, hq⟩
      refine WP.seq ?_
      refine WP.seq ?_
      refine WP.region ?_
      refine RG.pv rfl (PV.mvI (.inl rfl) rfl) ?_
      refine RG.pv rfl (PV.field rfl Fo116_1 rfl) ?_
      refine RG.pv rfl (PV.load1 rfl Sc83 rfl (Rd.blk rfl)) ?_
      refine RG.pv rfl (PV.len rfl Tryz.underlying83 rfl (SlF.r hsl)) ?_
      refine RG.pv rfl (PV.lss rfl rfl rfl) ?_
      refine RG.nil ?_
      refine WP.cond rfl (fun h4 => ?_) (fun h4 => ?_)
      · have h4 := of_decide_eq_true h4
        have hst := ha.step (m := m) (by omega)
        have hll : (flatL (erCls l.cells.xs) ((occR (erCls l.cells.xs) cell).take i) ++ (flatOf (erCls l.cells.xs) (gd (occR (erCls l.cells.xs) cell) i)).take m).length ≤ 6000 := by rw [List.length_append, List.length_take]; omega
        refine WP.skip ?_
        refine WP.seq ?_
        refine WP.block ?_
        refine WP.cut1 [2, 6, 8, 9, 10, 11] (fun (b12 : Nat) => True) (fun (b12 : Nat) => [(12, .pointer (some ⟨b12, 0, none⟩))]) (fun (b12 : Nat) => blk b12 140 (rectT.enc (moveR (gd zs i).place (gd (gd l.cells.xs (gd zs i).cell.toNat).shapes.xs m).box)) :: osl 142 shapeT v (flatL (erCls l.cells.xs) ((occR (erCls l.cells.xs) cell).take i) ++ (flatOf (erCls l.cells.xs) (gd (occR (erCls l.cells.xs) cell) i)).take m) :: osl 138 occT w16 zs :: bagS 2 intT (pths zs) :: blk b2 31 (libT.enc l) :: blk b10 116 (cellT.enc (gd l.cells.xs (gd zs i).cell.toNat)) :: L) ?_ ?_
        refine WP.regionH0 (.q 0 (.q 1 (.q 2 (.q 3 (.q 4 (.q 5 (.q 6 (.q 7 (.q 8 (.q 9 (.q 10 (.b 11 (.l 12 (.l 13 Sch.nil)) 12 (.l 11 (.l 13 Sch.nil)))))))))))))) (by kernel_rfl) (by kernel_rfl) (by kernel_rfl) rfl ?_
        refine RH.pv rfl (fun _ _ _ _ h => h) (Gh.le_refl _) PickC.pick rfl (PV.move (v := w16) rfl rfl) ?_
        refine RH.pv rfl (fun _ _ _ _ h => h) (Gh.le_refl _) PickC.pick rfl (PV.mvI (.inl rfl) rfl) ?_
        refine RH.pv rfl (fun _ _ _ _ h => h) (Gh.le_refl _) PickC.pick rfl (PV.idxS (v := w16) rfl Is94 rfl SlF.o rfl rfl (by omega)) ?_
        refine RH.pv rfl (fun _ _ _ _ h => h) (Gh.le_refl _) PickC.pick rfl (PV.field rfl Fo138_1 rfl) ?_
        refine RH.pv rfl (fun _ _ _ _ h => h) (Gh.le_refl _) PickC.pick rfl (PV.loadEP rfl Ag136 rfl rfl (El.o (getG (by omega))) rfl) ?_
        refine RH.pv rfl (fun _ _ _ _ h => h) (Gh.le_refl _) PickC.pick rfl (PV.field rfl Fo116_1 rfl) ?_
        refine RH.pv rfl (fun _ _ _ _ h => h) (Gh.le_refl _) PickC.pick rfl (PV.load1 rfl Sc83 rfl (Rd.blk rfl)) ?_
        refine RH.pv rfl (fun _ _ _ _ h => h) (Gh.le_refl _) PickC.pick rfl (PV.mvI (.inl rfl) rfl) ?_
        refine RH.pv rfl (fun _ _ _ _ h => h) (Gh.le_refl _) PickC.pick rfl (PV.idxS rfl Is83 rfl (SlF.r hsl) rfl rfl (by omega)) ?_
        refine RH.pv rfl (fun _ _ _ _ h => h) (Gh.le_refl _) PickC.pick rfl (PV.field rfl Fo142_1 rfl) ?_
        refine RH.pv rfl (fun _ _ _ _ h => h) (Gh.le_refl _) PickC.pick rfl (PV.loadEP rfl Ag140 rfl rfl (El.r hsl (getG (by omega))) rfl) ?_
        · refine RH.ot2 rfl rfl rfl rfl  (OT.callF (vs := [_, _]) rfl En142 rfl (l10Rect_r ha.big (ha.hb m (by omega)) ⟨Gh.le_refl _, PickC.pick, ?_⟩)) (OT.alloc rfl Zr140 fun b12 => ⟨Gh.le_refl _, PickC.pick, ?_⟩)
          · refine RH.ot rfl rfl (OT.alloc rfl Zr140 fun b12 => ⟨Gh.le_refl _, PickC.pick, ?_⟩)
            refine RH.ot rfl rfl (OT.storeW (vs := [vi _, vi _, vi _, vi _]) rfl Sz140 rfl rfl (Cl.c rfl) rfl rfl (OneC.c rfl) ⟨Gh.le_refl _, PickC.pick, ?_⟩)
            refine RH.nil ?_
            exact ⟨rfl, b12, trivial, ⟨rfl, trivial⟩, ⟨rfl, rfl, rfl, rfl, rfl, rfl, trivial⟩, Cv.p⟩
          · refine RH.ot rfl rfl (OT.callF (vs := [_, _]) rfl En142 rfl (l10Rect_r ha.big (ha.hb m (by omega)) ⟨Gh.le_refl _, PickC.pick, ?_⟩))
            refine RH.ot rfl rfl (OT.storeW (vs := [vi _, vi _, vi _, vi _]) rfl Sz140 rfl rfl (Cl.c rfl) rfl rfl (OneC.c rfl) ⟨Gh.le_refl _, PickC.pick, ?_⟩)
            refine RH.nil ?_
            exact ⟨rfl, b12, trivial, ⟨rfl, trivial⟩, ⟨rfl, rfl, rfl, rfl, rfl, rfl, trivial⟩, Cv.p⟩
        rintro b12 τ5 -
        refine WP.seq ?_
        refine WP.seq ?_
        refine WP.region ?_
        refine RG.pv rfl (PV.loadW rfl Ag140 rfl rfl) ?_
        refine RG.callF (vs := [_]) rfl rfl En143 rfl (l09Rect_r ?_)
        refine RG.pv rfl (PV.not rfl rfl) ?_
        refine RG.nil ?_
        refine WP.cond rfl (fun h5 => ?_) (fun h5 => ?_)
        · have e : shE (erCls l.cells.xs) cell = 2 := by rw [hse, ha.bad (m := m) (by omega) (by simpa using h5)]; rfl
          have e2 : shR (erCls l.cells.xs) cell = [] := shR_no (by rw [e]; decide)
          rw [e, e2] at k
          refine WP.seq ?_
          refine WP.region ?_
          refine RG.pv rfl (PV.asg rfl rfl) ?_
          refine RG.pv rfl (PV.mvI (.inr rfl) rfl) ?_
          refine RG.nil ?_
          refine WP.ret ?_
          exact ⟨_, _, ResV.two rfl rfl rfl, Cv.p.trans Cv.nilS, k (.slice none 0 0)⟩
        · have hq' : ∀ j, j < m + 1 → validRect (moveR (gd zs i).place (gd (gd l.cells.xs (gd zs i).cell.toNat).shapes.xs j).box) = true := fun j h => by
            by_cases c : j = m
            · rw [c]; simpa using h5
            · exact hq j (by omega)
          refine WP.skip ?_
          refine WP.regionHD [.s v] (.q 0 (.q 1 (.q 2 (.q 3 (.q 4 (.q 5 (.q 6 (.q 7 (.q 8 (.l 9 (.l 10 (.q 11 Sch.nil)))))))))))) (by kernel_rfl) (by kernel_rfl) (by kernel_rfl) rfl ?_
          refine RH.pv rfl (fun _ _ _ _ h => h) (Gh.le_refl _) PickC.pick rfl (PV.move (v := v) rfl rfl) ?_
          refine RH.pv rfl (fun _ _ _ _ h => h) (Gh.le_refl _) PickC.pick rfl (PV.field rfl Fo116_1 rfl) ?_
          refine RH.pv rfl (fun _ _ _ _ h => h) (Gh.le_refl _) PickC.pick rfl (PV.load1 rfl Sc83 rfl (Rd.blk rfl)) ?_
          refine RH.pv rfl (fun _ _ _ _ h => h) (Gh.le_refl _) PickC.pick rfl (PV.mvI (.inl rfl) rfl) ?_
          refine RH.pv rfl (fun _ _ _ _ h => h) (Gh.le_refl _) PickC.pick rfl (PV.idxS rfl Is83 rfl (SlF.r hsl) rfl rfl (by omega)) ?_
          refine RH.pv rfl (fun _ _ _ _ h => h) (Gh.le_refl _) PickC.pick rfl (PV.field rfl Fo142_0 rfl) ?_
          refine RH.pv rfl (fun _ _ _ _ h => h) (Gh.le_refl _) PickC.pick rfl (PV.loadF rfl Sc2 rfl rfl (El.r hsl (getG (by omega))) rfl) ?_
          refine RH.pv rfl (fun _ _ _ _ h => h) (Gh.le_refl _) PickC.pick rfl (PV.loadW rfl Ag140 rfl rfl) ?_
          refine RH.pv rfl (fun _ _ _ _ h => h) (Gh.le_refl _) PickC.pick rfl (PV.build (vs := [(0, [vi _]), (1, [vi _, vi _, vi _, vi _])]) (out := [_, _, _, _, _]) rfl Zr142 Pl142 ⟨rfl, (Cl.c rfl), ⟨rfl, (Cl.c rfl), trivial⟩⟩ rfl) ?_
          refine RH.ot rfl rfl (OT.bslice (F := shapeT) (els := [⟨(gd (gd l.cells.xs (gd zs i).cell.toNat).shapes.xs m).layer, moveR (gd zs i).place (gd (gd l.cells.xs (gd zs i).cell.toNat).shapes.xs m).box⟩]) rfl El83 rfl (by decide) rfl (by decide) ⟨rfl, (Cl.c rfl), trivial⟩ fun v69 => ⟨Gh.le_refl _, PickC.pick, ?_⟩)
          refine RH.ot rfl rfl (OT.append (v := v) (u := v69) (F := shapeT) rfl El83 rfl (by decide) rfl rfl Rs.o (OneL.c (fun _ => rfl)) rfl (by first | omega | (simp <;> omega)) fun v70 => ⟨Gh.le_refl _, PickC.pick, ?_⟩)
          refine RH.pv rfl (fun _ _ _ _ h => h) (Gh.le_refl _) PickC.pick rfl (PV.asg (v := v70) rfl rfl) ?_
          refine RH.nil ?_
          refine WP.region ?_
          refine RG.pv rfl (PV.mvI (.inl rfl) rfl) ?_
          refine RG.pv rfl (PV.add rfl rfl rfl (by omega)) ?_
          refine RG.pv rfl (PV.mvI (.inr rfl) rfl) ?_
          refine RG.nil ?_
          exact ⟨rfl, m + 1, v70, ⟨by omega, hq'⟩, ⟨rfl, rfl, trivial⟩, ⟨rfl, rfl, rfl, rfl, trivial⟩, ((Cv.p (C := osl 142 shapeT v70 (flatL (erCls l.cells.xs) ((occR (erCls l.cells.xs) cell).take i) ++ (flatOf (erCls l.cells.xs) (gd (occR (erCls l.cells.xs) cell) i)).take m ++ [⟨(gd (gd l.cells.xs (gd zs i).cell.toNat).shapes.xs m).layer, moveR (gd zs i).place (gd (gd l.cells.xs (gd zs i).cell.toNat).shapes.xs m).box⟩]) :: osl 138 occT w16 zs :: bagS 2 intT (pths zs) :: blk b2 31 (libT.enc l) :: blk b10 116 (cellT.enc (gd l.cells.xs (gd zs i).cell.toNat)) :: L)).trans (Cv.eqS (by rw [List.append_assoc, ← hst]))), by omega⟩
      · have h4 := of_decide_eq_false h4
        have e : flatL (erCls l.cells.xs) ((occR (erCls l.cells.xs) cell).take i) ++ (flatOf (erCls l.cells.xs) (gd (occR (erCls l.cells.xs) cell) i)).take m = flatL (erCls l.cells.xs) ((occR (erCls l.cells.xs) cell).take (i + 1)) := by rw [List.take_of_length_le (i := m) (l := flatOf (erCls l.cells.xs) (gd (occR (erCls l.cells.xs) cell) i)) (by rw [ha.len]; omega), flatL_take ha.hi]
        refine WP.exit ?_
        refine WP.region ?_
        refine RG.pv rfl (PV.mvI (.inl rfl) rfl) ?_
        refine RG.pv rfl (PV.add rfl rfl rfl (by omega)) ?_
        refine RG.pv rfl (PV.mvI (.inr rfl) rfl) ?_
        refine RG.nil ?_
        exact ⟨rfl, i + 1, v, ⟨by omega, hg.next ha (fun j h => hq j (by omega))⟩, ⟨rfl, rfl, trivial⟩, ⟨rfl, rfl, trivial⟩, ((Cv.eqS e).trans Cv.p), by omega⟩
    · have h2 := of_decide_eq_false h2
      have e : shE (erCls l.cells.xs) cell = 0 := by rw [hse, flat_good (fun j h => hg j (by omega))]; rfl
      have e2 : shR (erCls l.cells.xs) cell = flatL (erCls l.cells.xs) ((occR (erCls l.cells.xs) cell).take i) := by rw [shR_ok e, List.take_of_length_le (by omega)]
      rw [e, e2] at k
      refine WP.exit ?_
      refine WP.seq ?_
      refine WP.region ?_
      refine RG.pv rfl (PV.move (v := v) rfl rfl) ?_
      refine RG.pv rfl (PV.asg (v := v) rfl rfl) ?_
      refine RG.pv rfl (PV.mvI (.inr rfl) rfl) ?_
      refine RG.nil ?_
      refine WP.ret ?_
      exact ⟨_, _, ResV.two rfl rfl rfl, Cv.p, k v⟩
def layTo (ss : List Shape) (n : Nat) : List (List Rect) := (List.range n).map fun l => canon (bits (boxesOf ss l))
theorem layTo_next {ss : List Shape} {n : Nat} {zs : List (Sl Rect)} {u : Value} (h : er zs = layTo ss n) : er (zs ++ [⟨u, canon (bits (boxesOf ss n))⟩]) = layTo ss (n + 1) := by
  have e : er (zs ++ [(⟨u, canon (bits (boxesOf ss n))⟩ : Sl Rect)]) = er zs ++ [canon (bits (boxesOf ss n))] := by simp [er]
  rw [e, h, layTo, layTo, List.range_succ, List.map_append]; rfl
theorem layTo_len {ss : List Shape} {n : Nat} {zs : List (Sl Rect)} (h : er zs = layTo ss n) : zs.length = n := by
  have := congrArg List.length h; simpa [er, layTo] using this
theorem any_boxes {ss : List Shape} {i n y x : Nat} (h : i < ss.length) : ((boxesOf (ss.take (i + 1)) n).any fun r => inR r y x) = (((boxesOf (ss.take i) n).any fun r => inR r y x) || (decide ((gd ss i).layer = (n : Int)) && inR (gd ss i).box y x)) := by
  rw [boxesOf_step h, List.any_append]
  by_cases e : (gd ss i).layer = (n : Int) <;> simp [e]
theorem layers_i {v : Value} {ss : List Shape} (h1 : Rs G L shapeT v ss) (k : ∀ v' ys, er ys = layL ss → R v' G (osl 50 slT v' ys :: bagS 140 rectT ys :: L)) : CallT Tryz.prog 46 #[v] G L R := by
  refine CallT.bd h1 fun hb => ?_
  refine CallT.enter (args := _) Tryz.func46 rfl rfl (by kernel_rfl) rfl ?_
  refine WP.seq ?_
  refine WP.region ?_
  refine RG.pv rfl (PV.asg rfl rfl) ?_
  refine RG.nil ?_
  refine WP.seq ?_
  refine WP.region ?_
  refine RG.ot rfl (OT.bslice (F := (slT (α := Rect))) (els := []) rfl El47 rfl (by decide) rfl (by decide) trivial fun v8 => ?_)
  refine RG.pv rfl (PV.asg (v := v8) rfl rfl) ?_
  refine RG.nil ?_
  refine WP.seq ?_
  refine WP.seq ?_
  refine WP.region ?_
  refine RG.pv rfl (PV.mvI (.inl rfl) rfl) ?_
  refine RG.nil ?_
  refine WP.block ?_
  refine WP.cv (Cv.cons (Cv.bag0 (e := 140) (F := rectT) (xs := []) rfl)) ?_
  refine WP.loop3 [0] (fun (n : Nat) (vo : Value) (zs : List (Sl Rect)) => n ≤ 8 ∧ er zs = layTo ss n) (fun (n : Nat) (vo : Value) (zs : List (Sl Rect)) => [(9, vi n), (3, vo)]) (fun (n : Nat) (vo : Value) (zs : List (Sl Rect)) => osl 50 slT vo zs :: bagS 140 rectT zs :: L) (fun (n : Nat) (vo : Value) (zs : List (Sl Rect)) => 8 - n) 0 v8 [] ⟨by omega, rfl⟩ ⟨rfl, rfl, trivial⟩ Cv.p ?_
  rintro n vo zs τ ⟨hn, hz⟩
  refine WP.seq ?_
  refine WP.region ?_
  refine RG.pv rfl (PV.lss rfl rfl rfl) ?_
  refine RG.nil ?_
  refine WP.seq ?_
  have hzl := layTo_len hz
  refine WP.cond rfl (fun h2 => ?_) (fun h2 => ?_)
  · have h2 := of_decide_eq_true h2
    refine WP.skip ?_
    refine WP.seq ?_
    refine WP.block ?_
    refine WP.seq ?_
    refine WP.region ?_
    refine RG.pv rfl (PV.mvI (.inl rfl) rfl) ?_
    refine RG.pv rfl (PV.mvI (.inr rfl) rfl) ?_
    refine RG.nil ?_
    refine WP.seq ?_
    refine WP.region ?_
    refine RG.pv rfl (PV.build0 rfl Tryz.underlying148 ⟨80, by kernel_rfl⟩ (zeroB_spec (n := 6400) (by kernel_rfl))) ?_
    refine RG.ot rfl (OT.boxG rfl rfl fun b13 => ?_)
    refine RG.pv rfl (PV.mvP (.inr rfl) rfl) ?_
    refine RG.nil ?_
    refine WP.seq ?_
    refine WP.seq ?_
    refine WP.region ?_
    refine RG.pv rfl (PV.move (v := v) rfl rfl) ?_
    refine RG.pv rfl (PV.len (v := v) rfl Tryz.underlying83 rfl (SlF.r h1)) ?_
    refine RG.pv rfl (PV.mvI (.inl rfl) rfl) ?_
    refine RG.nil ?_
    refine WP.block ?_
    refine WP.loop2 [0, 3, 4, 5, 9, 14, 15] (fun (i : Nat) (cs : List Bool) => i ≤ ss.length ∧ cs.length = 6400 ∧ ∀ y x, y < 80 → x < 80 → gb cs y x = (boxesOf (ss.take i) n).any fun r => inR r y x) (fun (i : Nat) (cs : List Bool) => [(16, vi i)]) (fun (i : Nat) (cs : List Bool) => grd b13 cs :: osl 50 slT vo zs :: bagS 140 rectT zs :: L) (fun (i : Nat) (cs : List Bool) => ss.length - i) 0 (List.replicate 6400 false) ⟨by omega, by simp, fun y x _ _ => by rw [gb_rep]; simp [boxesOf]⟩ ⟨rfl, trivial⟩ Cv.p ?_
    rintro i cs τ1 ⟨hi, hl, hc⟩
    refine WP.seq ?_
    refine WP.region ?_
    refine RG.pv rfl (PV.lss rfl rfl rfl) ?_
    refine RG.nil ?_
    refine WP.seq ?_
    refine WP.cond rfl (fun h3 => ?_) (fun h3 => ?_)
    · have h3 := of_decide_eq_true h3
      have h4 : i < ss.length := by omega
      refine WP.skip ?_
      refine WP.seq ?_
      refine WP.block ?_
      refine WP.seq ?_
      refine WP.region ?_
      refine RG.pv rfl (PV.idxS (v := v) rfl Is83 rfl (SlF.r h1) rfl rfl (by omega)) ?_
      refine RG.pv rfl (PV.loadE rfl Ag142 rfl rfl (El.r h1 (getG (by omega)))) ?_
      refine RG.ot rfl (OT.alloc rfl Zr142 fun b7 => ?_)
      refine RG.ot rfl (OT.storeW (vs := [vi _, vi _, vi _, vi _, vi _]) rfl Sz142 rfl rfl (Cl.c rfl) rfl rfl (OneC.c rfl) ?_)
      refine RG.nil ?_
      refine WP.seq ?_
      refine WP.region ?_
      refine RG.pv rfl (PV.field rfl Fo142_0 rfl) ?_
      refine RG.pv rfl (PV.load1 rfl Sc2 rfl (Rd.blk rfl)) ?_
      refine RG.pv rfl (PV.mvI (.inl rfl) rfl) ?_
      refine RG.pv rfl (PV.eql rfl rfl rfl) ?_
      refine RG.nil ?_
      refine WP.cond rfl (fun h5 => ?_) (fun h5 => ?_)
      · have h5 := of_decide_eq_true h5
        refine WP.region ?_
        refine RG.pv rfl (PV.mvP (.inl rfl) rfl) ?_
        refine RG.pv rfl (PV.field rfl Fo142_1 rfl) ?_
        refine RG.pv rfl (PV.loadB (vs := [_, _, _, _]) rfl Ag140 rfl rfl rfl) ?_
        refine RG.callF (vs := [(.pointer (some ⟨b13, 0, none⟩)), _]) rfl rfl En84 rfl (CallT.exB (put_s (by assumption) (fun bs' hb' hg' => ?_)))
        refine RG.nil ?_
        refine WP.region ?_
        refine RG.pv rfl (PV.add rfl rfl rfl (by omega)) ?_
        refine RG.pv rfl (PV.mvI (.inl rfl) rfl) ?_
        refine RG.nil ?_
        refine ⟨rfl, i + 1, bs', ⟨by omega, hb', fun y x h6 h7 => ?_⟩, ⟨rfl, trivial⟩, ⟨rfl, rfl, rfl, rfl, rfl, rfl, rfl, trivial⟩, Cv.p, by omega⟩
        rw [hg' y x h6 h7, hc y x h6 h7, any_boxes h4, decide_eq_true h5, Bool.true_and]
      · have h5 := of_decide_eq_false h5
        refine WP.skip ?_
        refine WP.region ?_
        refine RG.pv rfl (PV.add rfl rfl rfl (by omega)) ?_
        refine RG.pv rfl (PV.mvI (.inl rfl) rfl) ?_
        refine RG.nil ?_
        refine ⟨rfl, i + 1, cs, ⟨by omega, hl, fun y x h6 h7 => ?_⟩, ⟨rfl, trivial⟩, ⟨rfl, rfl, rfl, rfl, rfl, rfl, rfl, trivial⟩, Cv.p, by omega⟩
        rw [hc y x h6 h7, any_boxes h4, decide_eq_false h5, Bool.false_and, Bool.or_false]
    · have h3 := of_decide_eq_false h3
      have e : cs = bits (boxesOf ss n) := bits_eq hl fun y x h6 h7 => by rw [hc y x h6 h7, List.take_of_length_le (by omega)]
      subst e
      refine WP.exit ?_
      refine WP.region ?_
      refine RG.pv rfl (PV.move (v := vo) rfl rfl) ?_
      refine RG.pv rfl (PV.mvP (.inl rfl) rfl) ?_
      refine RG.callF (vs := [(.pointer (some ⟨b13, 0, none⟩))]) rfl rfl En85 rfl (CallT.exB (region_s (bits_length _) (fun v31 => ?_)))
      refine RG.ot rfl (OT.bslice (F := (slT (α := Rect))) (els := [⟨v31, canon (bits (boxesOf ss n))⟩]) rfl El47 rfl (by decide) rfl (by decide) ⟨rfl, (Cl.s (v := v31) SlF.o), trivial⟩ fun v32 => ?_)
      refine RG.ot rfl (OT.append (v := vo) (u := v32) (F := (slT (α := Rect))) rfl El47 rfl (by decide) rfl rfl Rs.o (OneL.one (a := (⟨v31, canon (bits (boxesOf ss n))⟩ : Sl Rect)) (OneC.sl SlF.o OneC.nil)) rfl (by first | omega | (simp <;> omega)) fun v33 => ?_)
      refine RG.pv rfl (PV.asg (v := v33) rfl rfl) ?_
      refine RG.nil ?_
      refine WP.region ?_
      refine RG.pv rfl (PV.add rfl rfl rfl (by omega)) ?_
      refine RG.pv rfl (PV.mvI (.inl rfl) rfl) ?_
      refine RG.nil ?_
      exact ⟨rfl, n + 1, v33, (zs ++ [⟨v31, canon (bits (boxesOf ss n))⟩]), ⟨by omega, layTo_next hz⟩, ⟨rfl, rfl, trivial⟩, ⟨rfl, trivial⟩, ((Cv.p (C := osl 140 rectT v31 (canon (bits (boxesOf ss n))) :: osl 50 slT v33 (zs ++ [⟨v31, canon (bits (boxesOf ss n))⟩]) :: bagS 140 rectT zs :: L)).trans Cv.slotNew), by omega⟩
  · have h2 := of_decide_eq_false h2
    obtain rfl : n = 8 := by omega
    refine WP.exit ?_
    refine WP.seq ?_
    refine WP.region ?_
    refine RG.pv rfl (PV.move (v := vo) rfl rfl) ?_
    refine RG.pv rfl (PV.asg (v := vo) rfl rfl) ?_
    refine RG.nil ?_
    refine WP.ret ?_
    exact ⟨_, _, ResV.one rfl rfl, Cv.p, k vo zs hz⟩
theorem layers_r {v : Value} {ss : List Shape} (h1 : Rs G L shapeT v ss) (hv : ∀ i, i < ss.length → validRect (gd ss i).box = true) (k : ∀ v' ys, er ys = layL ss → R v' G (osl 50 slT v' ys :: bagS 140 rectT ys :: L)) : CallT Tryz.prog 93 #[v] G L R := by
  refine CallT.bd h1 fun hb => ?_
  refine CallT.enter (args := _) Tryz.func93 rfl rfl (by kernel_rfl) rfl ?_
  refine WP.seq ?_
  refine WP.region ?_
  refine RG.pv rfl (PV.asg rfl rfl) ?_
  refine RG.nil ?_
  refine WP.seq ?_
  refine WP.region ?_
  refine RG.ot rfl (OT.bslice (F := (slT (α := Rect))) (els := []) rfl El47 rfl (by decide) rfl (by decide) trivial fun v10 => ?_)
  refine RG.pv rfl (PV.asg (v := v10) rfl rfl) ?_
  refine RG.nil ?_
  refine WP.seq ?_
  refine WP.seq ?_
  refine WP.region ?_
  refine RG.pv rfl (PV.mvI (.inr rfl) rfl) ?_
  refine RG.nil ?_
  refine WP.block ?_
  refine WP.cv (Cv.cons (Cv.bag0 (e := 140) (F := rectT) (xs := []) rfl)) ?_
  refine WP.loop3 [0] (fun (n : Nat) (vo : Value) (zs : List (Sl Rect)) => n ≤ 8 ∧ er zs = layTo ss n) (fun (n : Nat) (vo : Value) (zs : List (Sl Rect)) => [(4, vi n), (3, vo)]) (fun (n : Nat) (vo : Value) (zs : List (Sl Rect)) => osl 50 slT vo zs :: bagS 140 rectT zs :: L) (fun (n : Nat) (vo : Value) (zs : List (Sl Rect)) => 8 - n) 0 v10 [] ⟨by omega, rfl⟩ ⟨rfl, rfl, trivial⟩ Cv.p ?_
  rintro n vo zs τ ⟨hn, hz⟩
  refine WP.seq ?_
  refine WP.seq ?_
  refine WP.region ?_
  refine RG.pv rfl (PV.mvI (.inl rfl) rfl) ?_
  refine RG.pv rfl (PV.lss rfl rfl rfl) ?_
  refine RG.nil ?_
  have hzl := layTo_len hz
  refine WP.cond rfl (fun h2 => ?_) (fun h2 => ?_)
  · have h2 := of_decide_eq_true h2
    refine WP.skip ?_
    refine WP.seq ?_
    refine WP.block ?_
    refine WP.seq ?_
    refine WP.region ?_
    refine RG.callF (vs := [_]) rfl rfl En62 rfl (l03Bits_s (xs := []) (RsN) (fun i hi => by simp at hi) (fun v15 => ?_))
    refine RG.pv rfl (PV.asg (v := v15) rfl rfl) ?_
    refine RG.nil ?_
    refine WP.seq ?_
    refine WP.seq ?_
    refine WP.region ?_
    refine RG.pv rfl (PV.mvI (.inr rfl) rfl) ?_
    refine RG.nil ?_
    refine WP.block ?_
    refine WP.loop2 [0, 3, 4, 5] (fun (i : Nat) (cs : List Bool) => i ≤ ss.length ∧ cs.length = 6400 ∧ ∀ y x, y < 80 → x < 80 → gb cs y x = (boxesOf (ss.take i) n).any fun r => inR r y x) (fun (i : Nat) (cs : List Bool) => [(6, vi i)]) (fun (i : Nat) (cs : List Bool) => osl 4 boolT v15 cs :: osl 50 slT vo zs :: bagS 140 rectT zs :: L) (fun (i : Nat) (cs : List Bool) => ss.length - i) 0 (bits []) ⟨by omega, bits_length _, fun y x h1 h2 => by rw [gb_bits [] h1 h2]; simp [boxesOf]⟩ ⟨rfl, trivial⟩ Cv.p ?_
    rintro i cs τ1 ⟨hi, hl, hc⟩
    refine WP.seq ?_
    refine WP.seq ?_
    refine WP.region ?_
    refine RG.pv rfl (PV.mvI (.inl rfl) rfl) ?_
    refine RG.pv rfl (PV.move (v := v) rfl rfl) ?_
    refine RG.pv rfl (PV.len (v := v) rfl Tryz.underlying83 rfl (SlF.r h1)) ?_
    refine RG.pv rfl (PV.lss rfl rfl rfl) ?_
    refine RG.nil ?_
    refine WP.cond rfl (fun h3 => ?_) (fun h3 => ?_)
    · have h3 := of_decide_eq_true h3
      have h4 : i < ss.length := by omega
      have hr := valid_bd (hv i h4)
      refine WP.skip ?_
      refine WP.seq ?_
      refine WP.block ?_
      refine WP.seq ?_
      refine WP.region ?_
      refine RG.pv rfl (PV.move (v := v) rfl rfl) ?_
      refine RG.pv rfl (PV.mvI (.inl rfl) rfl) ?_
      refine RG.pv rfl (PV.idxS (v := v) rfl Is83 rfl (SlF.r h1) rfl rfl (by omega)) ?_
      refine RG.pv rfl (PV.field rfl Fo142_1 rfl) ?_
      refine RG.pv rfl (PV.loadEP rfl Ag140 rfl rfl (El.r h1 (getG (by omega))) rfl) ?_
      refine RG.ot rfl (OT.alloc rfl Zr140 fun b7 => ?_)
      refine RG.ot rfl (OT.storeW (vs := [vi _, vi _, vi _, vi _]) rfl Sz140 rfl rfl (Cl.c rfl) rfl rfl (OneC.c rfl) ?_)
      refine RG.nil ?_
      refine WP.seq ?_
      refine WP.region ?_
      refine RG.pv rfl (PV.field rfl Fo140_1 rfl) ?_
      refine RG.pv rfl (PV.load1 rfl Sc2 rfl (Rd.blk rfl)) ?_
      refine RG.pv rfl (PV.mvI (.inr rfl) rfl) ?_
      refine RG.nil ?_
      refine WP.block ?_
      refine WP.loop2 [0, 3, 4, 5, 6, 7] (fun (y : Int) (ds : List Bool) => (gd ss i).box.y0 ≤ y ∧ y ≤ (gd ss i).box.y1 ∧ (¬ (gd ss i).layer = (n : Int) → y = (gd ss i).box.y0) ∧ ds.length = 6400 ∧ ∀ y' x', y' < 80 → x' < 80 → gb ds y' x' = (gb cs y' x' || (inR (gd ss i).box y' x' && decide ((y' : Int) - 40 < y)))) (fun (y : Int) (ds : List Bool) => [(8, vi y)]) (fun (y : Int) (ds : List Bool) => osl 4 boolT v15 ds :: blk b7 140 (rectT.enc (gd ss i).box) :: osl 50 slT vo zs :: bagS 140 rectT zs :: L) (fun (y : Int) (ds : List Bool) => (40 - y).toNat) (gd ss i).box.y0 cs ⟨by omega, by omega, fun _ => rfl, hl, fun y' x' h1 h2 => by rw [Bool.eq_iff_iff]; simp [inR]; omega⟩ ⟨rfl, trivial⟩ Cv.p ?_
      rintro y ds τ2 ⟨hy0, hy1, hly, hld, hd⟩
      refine WP.seq ?_
      refine WP.seq ?_
      refine WP.region ?_
      refine RG.pv rfl (PV.move (v := v) rfl rfl) ?_
      refine RG.pv rfl (PV.mvI (.inl rfl) rfl) ?_
      refine RG.pv rfl (PV.idxS (v := v) rfl Is83 rfl (SlF.r h1) rfl rfl (by omega)) ?_
      refine RG.pv rfl (PV.field rfl Fo142_0 rfl) ?_
      refine RG.pv rfl (PV.loadF rfl Sc2 rfl rfl (El.r h1 (getG (by omega))) rfl) ?_
      refine RG.pv rfl (PV.mvI (.inl rfl) rfl) ?_
      refine RG.pv rfl (PV.eql rfl rfl rfl) ?_
      refine RG.pv rfl (PV.mvB (.inl rfl) rfl) ?_
      refine RG.gs rfl rfl rfl (fun hp => (PV.mvI (.inl rfl) rfl)) ?_
      refine RG.gs rfl rfl rfl (fun hp => (PV.field rfl Fo140_3 rfl)) ?_
      refine RG.gs rfl rfl rfl (fun hp => (PV.load1 rfl Sc2 (gs_t hp) (Rd.blk rfl))) ?_
      refine RG.gs rfl rfl rfl (fun hp => (PV.lss rfl (gs_t hp) (gs_t hp))) ?_
      refine RG.pv rfl (PV.pickA rfl rfl (fun hq => gs_t (geqT hq)) rfl) ?_
      refine RG.nil ?_
      refine WP.cond rfl (fun h5 => ?_) (fun h5 => ?_)
      · have h5' : (gd ss i).layer = (n : Int) ∧ y < (gd ss i).box.y1 := by simpa using h5
        refine WP.skip ?_
        refine WP.seq ?_
        refine WP.block ?_
        refine WP.seq ?_
        refine WP.region ?_
        refine RG.pv rfl (PV.field rfl Fo140_0 rfl) ?_
        refine RG.pv rfl (PV.load1 rfl Sc2 rfl (Rd.blk rfl)) ?_
        refine RG.pv rfl (PV.mvI (.inr rfl) rfl) ?_
        refine RG.nil ?_
        refine WP.block ?_
        refine WP.loop2 [0, 3, 4, 5, 6, 7, 8] (fun (x : Int) (es : List Bool) => (gd ss i).box.x0 ≤ x ∧ x ≤ (gd ss i).box.x1 ∧ es.length = 6400 ∧ ∀ y' x', y' < 80 → x' < 80 → gb es y' x' = (gb ds y' x' || (decide ((y' : Int) - 40 = y) && decide ((gd ss i).box.x0 ≤ (x' : Int) - 40) && decide ((x' : Int) - 40 < x)))) (fun (x : Int) (es : List Bool) => [(9, vi x)]) (fun (x : Int) (es : List Bool) => osl 4 boolT v15 es :: blk b7 140 (rectT.enc (gd ss i).box) :: osl 50 slT vo zs :: bagS 140 rectT zs :: L) (fun (x : Int) (es : List Bool) => (40 - x).toNat) (gd ss i).box.x0 ds ⟨by omega, by omega, hld, fun y' x' h1 h2 => by rw [Bool.eq_iff_iff]; simp; omega⟩ ⟨rfl, trivial⟩ Cv.p ?_
        rintro x es τ3 ⟨hx0, hx1, hle, hee⟩
        refine WP.seq ?_
        refine WP.seq ?_
        refine WP.region ?_
        refine RG.pv rfl (PV.mvI (.inl rfl) rfl) ?_
        refine RG.pv rfl (PV.field rfl Fo140_2 rfl) ?_
        refine RG.pv rfl (PV.load1 rfl Sc2 rfl (Rd.blk rfl)) ?_
        refine RG.pv rfl (PV.lss rfl rfl rfl) ?_
        refine RG.nil ?_
        refine WP.cond rfl (fun h6 => ?_) (fun h6 => ?_)
        · have h6 := of_decide_eq_true h6
          refine WP.skip ?_
          refine WP.seq ?_
          refine WP.block ?_
          refine WP.region ?_
          refine RG.pv rfl (PV.move (v := v15) rfl rfl) ?_
          refine RG.pv rfl (PV.mvI (.inl rfl) rfl) ?_
          refine RG.pv rfl (PV.add rfl rfl rfl (by omega)) ?_
          refine RG.pv rfl (PV.mul rfl rfl rfl (by omega)) ?_
          refine RG.pv rfl (PV.mvI (.inl rfl) rfl) ?_
          refine RG.pv rfl (PV.add rfl rfl rfl (by omega)) ?_
          refine RG.pv rfl (PV.add rfl rfl rfl (by omega)) ?_
          refine RG.pv rfl (PV.idxS (j := ((y + 40) * 80 + x + 40).toNat) (v := v15) rfl Is109 rfl SlF.o rfl (by omega) (by omega)) ?_
          refine RG.ot rfl (OT.storeE (F := boolT) rfl Sz4 rfl rfl rfl (Cl.c rfl) (OneC.c rfl) (by omega) ?_)
          refine RG.nil ?_
          refine WP.region ?_
          refine RG.pv rfl (PV.mvI (.inl rfl) rfl) ?_
          refine RG.pv rfl (PV.add rfl rfl rfl (by omega)) ?_
          refine RG.pv rfl (PV.mvI (.inr rfl) rfl) ?_
          refine RG.nil ?_
          refine ⟨rfl, x + 1, (es.set ((y + 40) * 80 + x + 40).toNat true), ⟨by omega, by omega, by simpa using hle, fun y' x' h7 h8 => ?_⟩, ⟨rfl, trivial⟩, ⟨rfl, rfl, rfl, rfl, rfl, rfl, rfl, trivial⟩, Cv.p, by omega⟩
          rw [show ((y + 40) * 80 + x + 40).toNat = (y + 40).toNat * 80 + (x + 40).toNat by omega, gb_set hle (by omega) (by omega) h8, hee y' x' h7 h8]
          cases gb ds y' x' <;> (rw [Bool.eq_iff_iff]; split <;> simp <;> omega)
        · have h6 := of_decide_eq_false h6
          refine WP.exit ?_
          refine WP.region ?_
          refine RG.pv rfl (PV.mvI (.inl rfl) rfl) ?_
          refine RG.pv rfl (PV.add rfl rfl rfl (by omega)) ?_
          refine RG.pv rfl (PV.mvI (.inr rfl) rfl) ?_
          refine RG.nil ?_
          refine ⟨rfl, y + 1, es, ⟨by omega, by omega, fun h => absurd h5'.1 h, hle, fun y' x' h7 h8 => ?_⟩, ⟨rfl, trivial⟩, ⟨rfl, rfl, rfl, rfl, rfl, rfl, trivial⟩, Cv.p, by omega⟩
          rw [hee y' x' h7 h8, hd y' x' h7 h8]
          cases gb cs y' x' <;> (rw [Bool.eq_iff_iff]; simp [inR]; try omega)
      · have h5' : (gd ss i).layer = (n : Int) → (gd ss i).box.y1 ≤ y := by simpa using h5
        refine WP.exit ?_
        refine WP.region ?_
        refine RG.pv rfl (PV.mvI (.inl rfl) rfl) ?_
        refine RG.pv rfl (PV.add rfl rfl rfl (by omega)) ?_
        refine RG.pv rfl (PV.mvI (.inr rfl) rfl) ?_
        refine RG.nil ?_
        refine ⟨rfl, i + 1, ds, ⟨by omega, hld, fun y' x' h7 h8 => ?_⟩, ⟨rfl, trivial⟩, ⟨rfl, rfl, rfl, rfl, trivial⟩, Cv.p, by omega⟩
        rw [hd y' x' h7 h8, hc y' x' h7 h8, any_boxes h4]
        congr 1
        by_cases e : (gd ss i).layer = (n : Int)
        · have := h5' e
          rw [Bool.eq_iff_iff]; simp [inR, e]; omega
        · have := hly e
          rw [Bool.eq_iff_iff]; simp [inR, e]; omega
    · have h3 := of_decide_eq_false h3
      have e : cs = bits (boxesOf ss n) := bits_eq hl fun y x h6 h7 => by rw [hc y x h6 h7, List.take_of_length_le (by omega)]
      subst e
      refine WP.exit ?_
      refine WP.region ?_
      refine RG.pv rfl (PV.move (v := vo) rfl rfl) ?_
      refine RG.pv rfl (PV.move (v := v15) rfl rfl) ?_
      refine RG.callF (vs := [v15]) rfl rfl En98 rfl (l03Canon_s Rs.o (bits_length _) (fun v62 => ?_))
      refine RG.ot rfl (OT.bslice (F := (slT (α := Rect))) (els := [⟨v62, canon (bits (boxesOf ss n))⟩]) rfl El47 rfl (by decide) rfl (by decide) ⟨rfl, (Cl.s (v := v62) SlF.o), trivial⟩ fun v63 => ?_)
      refine RG.ot rfl (OT.append (v := vo) (u := v63) (F := (slT (α := Rect))) rfl El47 rfl (by decide) rfl rfl Rs.o (OneL.one (a := (⟨v62, canon (bits (boxesOf ss n))⟩ : Sl Rect)) (OneC.sl SlF.o OneC.nil)) rfl (by first | omega | (simp <;> omega)) fun v64 => ?_)
      refine RG.pv rfl (PV.asg (v := v64) rfl rfl) ?_
      refine RG.nil ?_
      refine WP.region ?_
      refine RG.pv rfl (PV.mvI (.inl rfl) rfl) ?_
      refine RG.pv rfl (PV.add rfl rfl rfl (by omega)) ?_
      refine RG.pv rfl (PV.mvI (.inr rfl) rfl) ?_
      refine RG.nil ?_
      exact ⟨rfl, n + 1, v64, (zs ++ [⟨v62, canon (bits (boxesOf ss n))⟩]), ⟨by omega, layTo_next hz⟩, ⟨rfl, rfl, trivial⟩, ⟨rfl, trivial⟩, ((Cv.p (C := osl 140 rectT v62 (canon (bits (boxesOf ss n))) :: osl 50 slT v64 (zs ++ [⟨v62, canon (bits (boxesOf ss n))⟩]) :: bagS 140 rectT zs :: L)).trans Cv.slotNew), by omega⟩
  · have h2 := of_decide_eq_false h2
    obtain rfl : n = 8 := by omega
    refine WP.exit ?_
    refine WP.seq ?_
    refine WP.region ?_
    refine RG.pv rfl (PV.move (v := vo) rfl rfl) ?_
    refine RG.pv rfl (PV.asg (v := vo) rfl rfl) ?_
    refine RG.nil ?_
    refine WP.ret ?_
    exact ⟨_, _, ResV.one rfl rfl, Cv.p, k vo zs hz⟩
def flyL (cs : List ECell) (cell : Int) : List (List Rect) := bif decide (shE cs cell = 0) then layL (shR cs cell) else []
theorem Cv.nilSS {M : List Ch} {e e' : TypeId} [p : PickC L M] : Cv M (osl e slT (.slice none 0 0) ([] : List (Sl Rect)) :: bagS e' rectT [] :: L) := (Cv.pick p.pick).trans ((Cv.bag0 (xs := []) rfl).trans Cv.nilS)
theorem fly_i {l : Lib} {cell : Int} (hL : RLib G L l.cells.v l.cells.xs) (hlen : lenC (erCls l.cells.xs)) (k : ∀ v' ys, er ys = flyL (erCls l.cells.xs) cell → R (.tuple #[v', vi (shE (erCls l.cells.xs) cell)]) G (osl 50 slT v' ys :: bagS 140 rectT ys :: L)) : CallT Tryz.prog 22 #[vT libT l, vi cell] G L R := by
  refine CallT.enter (args := _) Tryz.func22 rfl rfl (by kernel_rfl) rfl ?_
  refine WP.seq ?_
  refine WP.region ?_
  refine RG.ot rfl (OT.box (cs := libT.enc l) rfl rfl rfl fun b2 => ?_)
  refine RG.pv rfl (PV.asg rfl rfl) ?_
  refine RG.pv rfl (PV.mvI (.inr rfl) rfl) ?_
  refine RG.nil ?_
  refine WP.seq ?_
  refine WP.region ?_
  refine RG.pv rfl (PV.loadW rfl Ag31 rfl rfl) ?_
  refine RG.pv rfl (PV.mvI (.inl rfl) rfl) ?_
  refine RG.callF (vs := [_, _]) rfl rfl En45 rfl (flat_i hL.up hlen (fun w11 => ?_))
  refine RG.pv rfl (PV.move (v := .tuple _) rfl rfl) ?_
  refine RG.pv rfl (PV.ext (v := w11) rfl rfl rfl) ?_
  refine RG.pv rfl (PV.ext rfl rfl rfl) ?_
  refine RG.pv rfl (PV.asg (v := w11) rfl rfl) ?_
  refine RG.pv rfl (PV.mvI (.inr rfl) rfl) ?_
  refine RG.nil ?_
  refine WP.seq ?_
  refine WP.seq ?_
  refine WP.region ?_
  refine RG.pv rfl (PV.mvI (.inl rfl) rfl) ?_
  refine RG.pv rfl (PV.neq rfl rfl rfl) ?_
  refine RG.nil ?_
  refine WP.cond rfl (fun h1 => ?_) (fun h1 => ?_)
  · have h1 : shE (erCls l.cells.xs) cell ≠ 0 := by simpa using h1
    refine WP.seq ?_
    refine WP.region ?_
    refine RG.pv rfl (PV.mvI (.inl rfl) rfl) ?_
    refine RG.pv rfl (PV.asg rfl rfl) ?_
    refine RG.pv rfl (PV.mvI (.inr rfl) rfl) ?_
    refine RG.nil ?_
    refine WP.ret ?_
    exact ⟨_, _, ResV.two rfl rfl rfl, Cv.nilSS, k _ [] (by rw [flyL, decide_eq_false h1]; rfl)⟩
  · have h1 : shE (erCls l.cells.xs) cell = 0 := by simpa using h1
    have ef : flyL (erCls l.cells.xs) cell = layL (shR (erCls l.cells.xs) cell) := by rw [flyL, decide_eq_true h1]; rfl
    rw [h1] at k
    refine WP.skip ?_
    refine WP.seq ?_
    refine WP.region ?_
    refine RG.pv rfl (PV.move (v := w11) rfl rfl) ?_
    refine RG.callF (vs := [w11]) rfl rfl En46 rfl (layers_i Rs.o (fun w8 ys he => ?_))
    refine RG.pv rfl (PV.asg rfl rfl) ?_
    refine RG.pv rfl (PV.mvI (.inr rfl) rfl) ?_
    refine RG.nil ?_
    refine WP.ret ?_
    exact ⟨_, _, ResV.two rfl rfl rfl, Cv.p, k w8 ys (by rw [he, ef])⟩
theorem fly_r {l : Lib} {cell : Int} (hL : RLib G L l.cells.v l.cells.xs) (hlen : lenC (erCls l.cells.xs)) (k : ∀ v' ys, er ys = flyL (erCls l.cells.xs) cell → R (.tuple #[v', vi (shE (erCls l.cells.xs) cell)]) G (osl 50 slT v' ys :: bagS 140 rectT ys :: L)) : CallT Tryz.prog 52 #[vT libT l, vi cell] G L R := by
  refine CallT.enter (args := _) Tryz.func52 rfl rfl (by kernel_rfl) rfl ?_
  refine WP.seq ?_
  refine WP.region ?_
  refine RG.ot rfl (OT.box (cs := libT.enc l) rfl rfl rfl fun b2 => ?_)
  refine RG.pv rfl (PV.asg rfl rfl) ?_
  refine RG.pv rfl (PV.mvI (.inr rfl) rfl) ?_
  refine RG.nil ?_
  refine WP.seq ?_
  refine WP.region ?_
  refine RG.pv rfl (PV.loadW rfl Ag31 rfl rfl) ?_
  refine RG.pv rfl (PV.mvI (.inl rfl) rfl) ?_
  refine RG.callF (vs := [_, _]) rfl rfl En92 rfl (flat_r hL.up hlen (fun w11 => ?_))
  refine RG.pv rfl (PV.move (v := .tuple _) rfl rfl) ?_
  refine RG.pv rfl (PV.ext (v := w11) rfl rfl rfl) ?_
  refine RG.pv rfl (PV.ext rfl rfl rfl) ?_
  refine RG.pv rfl (PV.asg (v := w11) rfl rfl) ?_
  refine RG.pv rfl (PV.mvI (.inr rfl) rfl) ?_
  refine RG.nil ?_
  refine WP.seq ?_
  refine WP.seq ?_
  refine WP.region ?_
  refine RG.pv rfl (PV.mvI (.inl rfl) rfl) ?_
  refine RG.pv rfl (PV.neq rfl rfl rfl) ?_
  refine RG.nil ?_
  refine WP.cond rfl (fun h1 => ?_) (fun h1 => ?_)
  · have h1 : shE (erCls l.cells.xs) cell ≠ 0 := by simpa using h1
    refine WP.seq ?_
    refine WP.region ?_
    refine RG.pv rfl (PV.mvI (.inl rfl) rfl) ?_
    refine RG.pv rfl (PV.asg rfl rfl) ?_
    refine RG.pv rfl (PV.mvI (.inr rfl) rfl) ?_
    refine RG.nil ?_
    refine WP.ret ?_
    exact ⟨_, _, ResV.two rfl rfl rfl, Cv.nilSS, k _ [] (by rw [flyL, decide_eq_false h1]; rfl)⟩
  · have h1 : shE (erCls l.cells.xs) cell = 0 := by simpa using h1
    have ef : flyL (erCls l.cells.xs) cell = layL (shR (erCls l.cells.xs) cell) := by rw [flyL, decide_eq_true h1]; rfl
    rw [h1] at k
    refine WP.skip ?_
    refine WP.seq ?_
    refine WP.region ?_
    refine RG.pv rfl (PV.move (v := w11) rfl rfl) ?_
    refine RG.callF (vs := [w11]) rfl rfl En93 rfl (layers_r Rs.o (fun i hi => shR_valid hi) (fun w8 ys he => ?_))
    refine RG.pv rfl (PV.asg rfl rfl) ?_
    refine RG.pv rfl (PV.mvI (.inr rfl) rfl) ?_
    refine RG.nil ?_
    refine WP.ret ?_
    exact ⟨_, _, ResV.two rfl rfl rfl, Cv.p, k w8 ys (by rw [he, ef])⟩
end Go.Proofs.YthhjapiggekjbaaGreat
namespace Go.Proofs.YthhjapiggekjbaaGreat
set_option linter.unusedVariables false
set_option linter.unusedSimpArgs false
open Go
set_option maxRecDepth 20000
set_option linter.unusedSimpArgs false
variable {G : Gh} {L : List Ch} {R : Value → Gh → List Ch → Prop}
theorem OccAt.root {xs : List Cell} {cell : Int} {zs : List Occ} {i m : Nat} (h : OccAt xs cell zs i) (hm : m < (gd xs (gd zs i).cell.toNat).shapes.xs.length) :
    (rootL (erCls xs) ((occR (erCls xs) cell).take i) ++ (rootAt (erCls xs) (gd (occR (erCls xs) cell) i)).take m).length < (flatL (erCls xs) (occR (erCls xs) cell)).length ∧ (rootAt (erCls xs) (gd (occR (erCls xs) cell) i)).take (m + 1) = (rootAt (erCls xs) (gd (occR (erCls xs) cell) i)).take m ++ [⟨rootOf (erO (gd zs i)), gd (flatL (erCls xs) (occR (erCls xs) cell)) (rootL (erCls xs) ((occR (erCls xs) cell).take i) ++ (rootAt (erCls xs) (gd (occR (erCls xs) cell) i)).take m).length⟩] := by
  have := rootAt_step (cs := erCls xs) (os := occR (erCls xs) cell) (i := i) (k := m) h.hi (by rw [h.ho]; simp only [erO, h.hs]; exact hm)
  refine ⟨this.1, ?_⟩
  rw [this.2, ← h.ho]
theorem elN_ns {xs : List Cell} {cell : Int} (hc : cell.toNat < xs.length) : elN (erCls xs) cell = (elems (gd xs cell.toNat).insts.xs).length := by rw [elN, erCl_insts hc]
end Go.Proofs.YthhjapiggekjbaaGreat
namespace Go.Proofs.YthhjapiggekjbaaGreat
set_option linter.unusedVariables false
set_option linter.unusedSimpArgs false
open Go
set_option maxRecDepth 20000
set_option maxHeartbeats 1000000
set_option linter.unusedSimpArgs false
variable {G : Gh} {L : List Ch} {R : Value → Gh → List Ch → Prop}
/-- what is known where an element is asked for -/
structure AtEl (xs : List Cell) (cell n : Int) : Prop where
  hz : shE (erCls xs) cell = 0
  hn : 0 ≤ n ∧ n < elN (erCls xs) cell
theorem AtEl.lib {xs : List Cell} {cell n : Int} (h : AtEl xs cell n) : okLib (erCls xs) = true ∧ 0 ≤ cell ∧ cell.toNat < xs.length := by
  have := shE_lib h.hz
  rw [erCls_len] at this
  exact ⟨this.1, by omega, by omega⟩
theorem AtEl.lt {xs : List Cell} {cell n : Int} (h : AtEl xs cell n) : n.toNat < (elems (gd xs cell.toNat).insts.xs).length := by
  have := h.hn
  rw [elN_ns h.lib.2.2] at this
  omega
end Go.Proofs.YthhjapiggekjbaaGreat
namespace Go.Proofs.YthhjapiggekjbaaGreat
set_option linter.unusedVariables false
set_option linter.unusedSimpArgs false
open Go
set_option maxRecDepth 20000
set_option maxHeartbeats 1000000
set_option linter.unusedSimpArgs false
variable {G : Gh} {L : List Ch} {R : Value → Gh → List Ch → Prop}
theorem AtEl.of {xs : List Cell} {cell n : Int} (hz : shE (erCls xs) cell = 0) (h : within n 0 ((elN (erCls xs) cell : Int) - 1) = true) : AtEl xs cell n := by
  simp only [within, Bool.and_eq_true, decide_eq_true_eq] at h
  exact ⟨hz, by omega, by omega⟩
end Go.Proofs.YthhjapiggekjbaaGreat
namespace Go.Proofs.YthhjapiggekjbaaGreat
set_option linter.unusedVariables false
set_option linter.unusedSimpArgs false
open Go
set_option maxRecDepth 20000
set_option maxHeartbeats 1000000
set_option linter.unusedSimpArgs false
variable {G : Gh} {L : List Ch} {R : Value → Gh → List Ch → Prop}
theorem layL_len (ss : List Shape) : (layL ss).length = 8 := by simp [layL]
end Go.Proofs.YthhjapiggekjbaaGreat
namespace Go.Proofs.YthhjapiggekjbaaGreat
set_option linter.unusedVariables false
set_option linter.unusedSimpArgs false
open Go
set_option maxRecDepth 20000
set_option linter.unusedSimpArgs false
variable {G : Gh} {L : List Ch} {R : Value → Gh → List Ch → Prop}
/-- only what lies in memory matters -/
theorem Cv.flat {α : Type} {e : TypeId} {F : FT α} {v : Value} {xs ys : List α} {L : List Ch} (h : F.flat xs = F.flat ys) (hl : xs.length = ys.length) : Cv (osl e F v xs :: L) (osl e F v ys :: L) :=
  Cv.imp fun hp hc => by
    rcases hc with ⟨rfl, rfl⟩ | ⟨b, cap, c, h1, h2, h3, h4, h5, h6⟩
    · exact .inl ⟨rfl, List.eq_nil_of_length_eq_zero (by simpa using hl.symm)⟩
    · exact .inr ⟨b, cap, c, by rw [← hl]; exact h1, h2, by rw [← hl]; exact h3, h4, h5, by rw [← hl, ← h]; exact h6⟩
theorem pcE_len (l : List (List Rect)) : (pcE l).length ≤ 25600 := by
  unfold pcE
  cases isLay l
  · simp
  · have := pcL_len l 4
    simp only [cond_true, List.length_map]; omega
end Go.Proofs.YthhjapiggekjbaaGreat
namespace Go.Proofs.YthhjapiggekjbaaGreat
set_option linter.unusedVariables false
set_option linter.unusedSimpArgs false
open Go
set_option maxRecDepth 20000
set_option maxHeartbeats 1000000
set_option linter.unusedSimpArgs false
variable {G : Gh} {L : List Ch} {R : Value → Gh → List Ch → Prop}
theorem isLay_layL (ss : List Shape) : isLay (layL ss) = true := by
  have h : ∀ i, i < (layL ss).length → isReg (gd (layL ss) i) = true := fun i hi => by
    rw [layL_len] at hi
    rw [layL, gd_map _ (by simpa using hi), range_gd hi]
    exact isReg_canon (bits_length _)
  rw [isLay_all h, layL_len]; rfl
/-- the pieces of a cell without its instances -/
noncomputable def ownP (cs : List ECell) (cell : Int) : List (Int × List Rect) := bif hasCl cs cell then pcE (layL (gd cs cell.toNat).shapes) else []
theorem hasCl_in {cs : List ECell} {cell : Int} (h : hasCl cs cell = true) : okLib cs = true ∧ 0 ≤ cell ∧ cell < cs.length := by
  simp only [hasCl, within, Bool.and_eq_true, decide_eq_true_eq] at h
  exact ⟨h.1, by omega, by omega⟩
theorem erCl_shapes {xs : List Cell} {i : Nat} (h : i < xs.length) : (gd (erCls xs) i).shapes = (gd xs i).shapes.xs := by rw [erCls_gd h]; rfl
theorem ownP_r {l : Lib} {cell : Int} (hL : RLib G L l.cells.v l.cells.xs) (hlen : lenC (erCls l.cells.xs)) (k : ∀ v' ps, erPs ps = ownP (erCls l.cells.xs) cell → R v' G (osl 63 pieceT v' ps :: bagS 140 rectT (regs ps) :: L)) : CallT Tryz.prog 104 #[vT libT l, vi cell] G L R := by
  have hE := erCls_len l.cells.xs
  refine CallT.enter (args := _) Tryz.func104 rfl rfl (by kernel_rfl) rfl ?_
  refine WP.seq ?_
  refine WP.region ?_
  refine RG.ot rfl (OT.box (cs := libT.enc l) rfl rfl rfl fun b2 => ?_)
  refine RG.pv rfl (PV.asg rfl rfl) ?_
  refine RG.nil ?_
  refine WP.seq ?_
  refine WP.seq ?_
  refine WP.region ?_
  refine RG.pv rfl (PV.loadW rfl Ag31 rfl rfl) ?_
  refine RG.pv rfl (PV.mvI (.inl rfl) rfl) ?_
  refine RG.callF (vs := [_, _]) rfl rfl En100 rfl (hasCl_r hL.up hlen ?_)
  refine RG.pv rfl (PV.not rfl rfl) ?_
  refine RG.nil ?_
  refine WP.cond rfl (fun h1 => ?_) (fun h1 => ?_)
  · have h1 : hasCl (erCls l.cells.xs) cell = false := by simpa using h1
    refine WP.seq ?_
    refine WP.region ?_
    refine RG.ot rfl (OT.bslice (F := pieceT) (els := []) rfl El78 rfl (by decide) rfl (by decide) trivial fun v9 => ?_)
    refine RG.pv rfl (PV.asg (v := v9) rfl rfl) ?_
    refine RG.nil ?_
    refine WP.ret ?_
    exact ⟨_, _, ResV.one rfl rfl, (Cv.p (C := osl 63 pieceT v9 [] :: L)).trans (Cv.cons (Cv.bag0 (xs := regs []) rfl)), k _ [] (by rw [ownP, h1]; rfl)⟩
  · have h1 : hasCl (erCls l.cells.xs) cell = true := by simpa using h1
    obtain ⟨hok, hc0, hc1⟩ := hasCl_in h1
    have hsl := hL.sa (i := cell.toNat) (by omega)
    have hes := erCl_shapes (xs := l.cells.xs) (i := cell.toNat) (by omega)
    have e0 : ownP (erCls l.cells.xs) cell = pcE (layL (gd l.cells.xs cell.toNat).shapes.xs) := by rw [ownP, h1, cond_true, hes]
    have hval : ∀ i, i < (gd l.cells.xs cell.toNat).shapes.xs.length → validRect (gd (gd l.cells.xs cell.toNat).shapes.xs i).box = true := fun i hi => by
      have := okLib_shape hok (i := cell.toNat) (j := i) (by omega) (by rw [hes]; exact hi)
      rw [hes] at this
      simp only [okSh, Bool.and_eq_true] at this; exact this.2
    refine WP.skip ?_
    refine WP.seq ?_
    refine WP.region ?_
    refine RG.pv rfl (PV.field rfl Fo31_0 rfl) ?_
    refine RG.pv rfl (PV.load1 rfl Sc29 rfl (Rd.blk rfl)) ?_
    refine RG.pv rfl (PV.mvI (.inl rfl) rfl) ?_
    refine RG.pv rfl (PV.idxS (j := cell.toNat) rfl Is29 rfl (SlF.r hL.c) rfl (by omega) (by omega)) ?_
    refine RG.pv rfl (PV.field rfl Fo116_1 rfl) ?_
    refine RG.pv rfl (PV.loadF rfl Sc83 rfl rfl (El.r hL.c (getG (by omega))) rfl) ?_
    refine RG.callF (vs := [_]) rfl rfl En93 rfl (layers_r (v := (gd l.cells.xs cell.toNat).shapes.v) (Rs.up hsl) hval (fun w8 ys he => ?_))
    refine RG.callF (vs := [_]) rfl rfl En154 rfl (pieces_r (v := w8) Rs.o RsE.o (fun v17 psv17 hpv17 => ?_))
    refine RG.pv rfl (PV.asg (v := v17) rfl rfl) ?_
    refine RG.nil ?_
    refine WP.ret ?_
    exact ⟨_, _, ResV.one rfl rfl, Cv.p, k v17 psv17 (by rw [hpv17, he, e0])⟩
end Go.Proofs.YthhjapiggekjbaaGreat
namespace Go.Proofs.YthhjapiggekjbaaGreat
set_option linter.unusedVariables false
set_option linter.unusedSimpArgs false
open Go
set_option maxRecDepth 20000
set_option maxHeartbeats 1000000
set_option linter.unusedSimpArgs false
variable {G : Gh} {L : List Ch} {R : Value → Gh → List Ch → Prop}
def mvI (t : Trans) (xs : List Rect) : List Rect := bif mvOk t xs then canon (bits (xs.map (moveR t))) else []
theorem mvI_no {t : Trans} {xs : List Rect} (h : mvOk t xs = false) : mvI t xs = [] := by rw [mvI, h]; rfl
theorem mvI_ok {t : Trans} {xs : List Rect} (h : mvOk t xs = true) : mvI t xs = canon (bits (xs.map (moveR t))) := by rw [mvI, h]; rfl
theorem mvTo_any {t : Trans} {xs : List Rect} {i y x : Nat} (h : i < xs.length) : (((xs.map (moveR t)).take (i + 1)).any fun r => inR r y x) = ((((xs.map (moveR t)).take i).any fun r => inR r y x) || inR (moveR t (gd xs i)) y x) := by
  rw [List.take_add_one, getG (by simpa using h), gd_map _ h, List.any_append]
  simp
theorem movedOk_no {t : Trans} {xs : List Rect} {i : Nat} (h : i < xs.length) (e : validRect (moveR t (gd xs i)) = false) : movedOk t xs = false := by
  rw [movedOk, List.all_eq_false]
  exact ⟨gd xs i, gd_mem h, by simpa using e⟩
theorem movedOk_yes {t : Trans} {xs : List Rect} (h : ∀ j, j < xs.length → validRect (moveR t (gd xs j)) = true) : movedOk t xs = true := by
  rw [movedOk, List.all_eq_true]
  intro r hr
  obtain ⟨j, hj, rfl⟩ := List.getElem_of_mem hr
  have := h j hj
  rwa [gd_eq hj] at this
theorem mvReg_i {t : Trans} {v : Value} {xs : List Rect} (h1 : Rs G L rectT v xs) (k : ∀ v', R (.tuple #[v', .bool (mvOk t xs)]) G (osl 140 rectT v' (mvI t xs) :: L)) : CallT Tryz.prog 86 #[vtrans t, v] G L R := by
  refine CallT.bd h1 fun hbd => ?_
  refine CallT.enter (args := _) Tryz.func86 rfl rfl (by kernel_rfl) rfl ?_
  refine WP.seq ?_
  refine WP.region ?_
  refine RG.ot rfl (OT.box (cs := transT.enc t) rfl rfl rfl fun b2 => ?_)
  refine RG.pv rfl (PV.asg rfl rfl) ?_
  refine RG.pv rfl (PV.mvB (.inr rfl) rfl) ?_
  refine RG.nil ?_
  refine WP.seq ?_
  refine WP.seq ?_
  refine WP.region ?_
  refine RG.pv rfl (PV.loadW rfl Ag136 rfl rfl) ?_
  refine RG.callF (vs := [_]) rfl rfl En134 rfl (validT_i ?_)
  refine RG.pv rfl (PV.not rfl rfl) ?_
  refine RG.pv rfl (PV.mvB (.inl rfl) rfl) ?_
  refine RG.gs rfl rfl rfl (fun hp => (PV.move (v := v) rfl rfl)) ?_
  refine RG.gsC rfl rfl rfl rfl En91 (fun hp => ⟨_, (acons (gs_t hp) anil), isRegion_s (Rs.up h1) ⟨rfl, rfl, rfl⟩⟩) ?_
  refine RG.gs rfl rfl rfl (fun hp => (PV.not rfl (gs_t hp))) ?_
  refine RG.pv rfl (PV.pickO rfl rfl rfl (fun hq => gs_t (geqF hq))) ?_
  refine RG.nil ?_
  refine WP.cond rfl (fun h2 => ?_) (fun h2 => ?_)
  · have h3 : (validT t && isReg xs) = false := by
      cases h4 : validT t <;> cases h5 : isReg xs <;> simp_all
    have e1 : mvOk t xs = false := by rw [mvOk, h3]; rfl
    have e2 := mvI_no e1
    rw [e1, e2] at k
    refine WP.seq ?_
    refine WP.region ?_
    refine RG.pv rfl (PV.asg rfl rfl) ?_
    refine RG.pv rfl (PV.mvB (.inr rfl) rfl) ?_
    refine RG.nil ?_
    refine WP.ret ?_
    exact ⟨_, _, ResV.two rfl rfl rfl, (Cv.p (C := L)).trans Cv.nilS, k (.slice none 0 0)⟩
  · have h3 : validT t = true ∧ isReg xs = true := by
      cases h4 : validT t <;> cases h5 : isReg xs <;> simp_all
    have e0 : mvOk t xs = movedOk t xs := by rw [mvOk, h3.1, h3.2]; rfl
    obtain ⟨hto, hx, hy⟩ := validT_iff.1 h3.1
    have hri := RIn_all h3.2
    refine WP.skip ?_
    refine WP.seq ?_
    refine WP.region ?_
    refine RG.pv rfl (PV.build0 rfl Tryz.underlying148 ⟨80, by kernel_rfl⟩ (zeroB_spec (n := 6400) (by kernel_rfl))) ?_
    refine RG.ot rfl (OT.boxG rfl rfl fun b19 => ?_)
    refine RG.pv rfl (PV.mvP (.inr rfl) rfl) ?_
    refine RG.nil ?_
    refine WP.seq ?_
    refine WP.seq ?_
    refine WP.region ?_
    refine RG.pv rfl (PV.move (v := v) rfl rfl) ?_
    refine RG.pv rfl (PV.len (v := v) rfl Tryz.underlying50 rfl (SlF.r h1)) ?_
    refine RG.pv rfl (PV.mvI (.inl rfl) rfl) ?_
    refine RG.nil ?_
    refine WP.block ?_
    refine WP.loop2 [2, 6, 20, 21] (fun (i : Nat) (cs : List Bool) => i ≤ xs.length ∧ cs.length = 6400 ∧ (∀ j, j < i → validRect (moveR t (gd xs j)) = true) ∧ ∀ y x, y < 80 → x < 80 → gb cs y x = ((xs.map (moveR t)).take i).any fun r => inR r y x) (fun (i : Nat) (cs : List Bool) => [(22, vi i)]) (fun (i : Nat) (cs : List Bool) => grd b19 cs :: blk b2 136 (transT.enc t) :: L) (fun (i : Nat) (cs : List Bool) => xs.length - i) 0 (List.replicate 6400 false) ⟨by omega, by simp, fun j h => by omega, fun y x _ _ => by rw [gb_rep]; simp⟩ ⟨rfl, trivial⟩ Cv.p ?_
    rintro i cs τ ⟨hi, hl, hj, hc⟩
    refine WP.seq ?_
    refine WP.region ?_
    refine RG.pv rfl (PV.lss rfl rfl rfl) ?_
    refine RG.nil ?_
    refine WP.seq ?_
    refine WP.cond rfl (fun h4 => ?_) (fun h4 => ?_)
    · have h4 := of_decide_eq_true h4
      have h5 : i < xs.length := by omega
      refine WP.skip ?_
      refine WP.seq ?_
      refine WP.block ?_
      refine WP.seq ?_
      refine WP.region ?_
      refine RG.pv rfl (PV.idxS (v := v) rfl Is50 rfl (SlF.r h1) rfl rfl (by omega)) ?_
      refine RG.pv rfl (PV.loadE rfl Ag140 rfl rfl (El.r h1 (getG (by omega)))) ?_
      refine RG.ot rfl (OT.alloc rfl Zr140 fun b8 => ?_)
      refine RG.ot rfl (OT.storeW (vs := [vi _, vi _, vi _, vi _]) rfl Sz140 rfl rfl (Cl.c rfl) rfl rfl (OneC.c rfl) ?_)
      refine RG.nil ?_
      refine WP.seq ?_
      refine WP.region ?_
      refine RG.pv rfl (PV.loadW rfl Ag136 rfl rfl) ?_
      refine RG.pv rfl (PV.loadW rfl Ag140 rfl rfl) ?_
      refine RG.callF (vs := [_, _]) rfl rfl En82 rfl (moveRect_s hto (by omega) (RIn_gd hri (by omega)) ?_)
      refine RG.ot rfl (OT.alloc rfl Zr140 fun b9 => ?_)
      refine RG.ot rfl (OT.storeW (vs := [vi _, vi _, vi _, vi _]) rfl Sz140 rfl rfl (Cl.c rfl) rfl rfl (OneC.c rfl) ?_)
      refine RG.nil ?_
      refine WP.seq ?_
      refine WP.seq ?_
      refine WP.region ?_
      refine RG.pv rfl (PV.loadW rfl Ag140 rfl rfl) ?_
      refine RG.callF (vs := [_]) rfl rfl En83 rfl (validRect_s ?_)
      refine RG.pv rfl (PV.not rfl rfl) ?_
      refine RG.nil ?_
      refine WP.cond rfl (fun h6 => ?_) (fun h6 => ?_)
      · have h6 : validRect (moveR t (gd xs i)) = false := by simpa using h6
        have e1 : mvOk t xs = false := by rw [e0, movedOk_no h5 h6]
        have e2 := mvI_no e1
        rw [e1, e2] at k
        refine WP.seq ?_
        refine WP.region ?_
        refine RG.pv rfl (PV.asg rfl rfl) ?_
        refine RG.pv rfl (PV.mvB (.inr rfl) rfl) ?_
        refine RG.nil ?_
        refine WP.ret ?_
        exact ⟨_, _, ResV.two rfl rfl rfl, (Cv.p (C := L)).trans Cv.nilS, k (.slice none 0 0)⟩
      · have h6 : validRect (moveR t (gd xs i)) = true := by simpa using h6
        have hj' : ∀ j, j < i + 1 → validRect (moveR t (gd xs j)) = true := fun j h => by
          by_cases c : j = i
          · rw [c]; exact h6
          · exact hj j (by omega)
        refine WP.skip ?_
        refine WP.region ?_
        refine RG.pv rfl (PV.mvP (.inl rfl) rfl) ?_
        refine RG.pv rfl (PV.loadW rfl Ag140 rfl rfl) ?_
        refine RG.callF (vs := [(.pointer (some ⟨b19, 0, none⟩)), _]) rfl rfl En84 rfl (CallT.exB (put_s (by assumption) (fun bs' hb' hg' => ?_)))
        refine RG.nil ?_
        refine WP.region ?_
        refine RG.pv rfl (PV.add rfl rfl rfl (by omega)) ?_
        refine RG.pv rfl (PV.mvI (.inl rfl) rfl) ?_
        refine RG.nil ?_
        exact ⟨rfl, i + 1, bs', ⟨by omega, hb', hj', fun y x h7 h8 => by rw [hg' y x h7 h8, hc y x h7 h8, mvTo_any h5]⟩, ⟨rfl, trivial⟩, ⟨rfl, rfl, rfl, rfl, trivial⟩, Cv.p, by omega⟩
    · have h4 := of_decide_eq_false h4
      have e1 : mvOk t xs = true := by rw [e0, movedOk_yes (fun j h => hj j (by omega))]
      have e : cs = bits (xs.map (moveR t)) := bits_eq hl fun y x h6 h7 => by rw [hc y x h6 h7, List.take_of_length_le (by simp; omega)]
      subst e
      rw [e1, mvI_ok e1] at k
      refine WP.exit ?_
      refine WP.seq ?_
      refine WP.region ?_
      refine RG.pv rfl (PV.mvP (.inl rfl) rfl) ?_
      refine RG.callF (vs := [(.pointer (some ⟨b19, 0, none⟩))]) rfl rfl En85 rfl (CallT.exB (region_s (bits_length _) (fun v37 => ?_)))
      refine RG.pv rfl (PV.asg (v := v37) rfl rfl) ?_
      refine RG.pv rfl (PV.mvB (.inr rfl) rfl) ?_
      refine RG.nil ?_
      refine WP.ret ?_
      exact ⟨_, _, ResV.two rfl rfl rfl, Cv.p, k v37⟩
theorem mvReg_r {t : Trans} {v : Value} {xs : List Rect} (h1 : Rs G L rectT v xs) (hb : TBig t) (hri : ∀ r ∈ xs, RIn 40 r) (hv : ∀ i, i < xs.length → validRect (moveR t (gd xs i)) = true) (k : ∀ v', R v' G (osl 140 rectT v' (canon (bits (xs.map (moveR t)))) :: L)) : CallT Tryz.prog 105 #[vtrans t, v] G L R := by
  refine CallT.bd h1 fun hbd => ?_
  refine CallT.enter (args := _) Tryz.func105 rfl rfl (by kernel_rfl) rfl ?_
  refine WP.seq ?_
  refine WP.region ?_
  refine RG.ot rfl (OT.box (cs := transT.enc t) rfl rfl rfl fun b2 => ?_)
  refine RG.pv rfl (PV.asg rfl rfl) ?_
  refine RG.nil ?_
  refine WP.seq ?_
  refine WP.region ?_
  refine RG.ot rfl (OT.make (m := 6400) (F := boolT) (a0 := false) rfl El109 rfl (by decide) rfl rfl (by omega) (by omega) fun v7 => ?_)
  refine RG.pv rfl (PV.asg (v := v7) rfl rfl) ?_
  refine RG.nil ?_
  refine WP.seq ?_
  refine WP.seq ?_
  refine WP.region ?_
  refine RG.pv rfl (PV.mvI (.inr rfl) rfl) ?_
  refine RG.nil ?_
  refine WP.block ?_
  refine WP.loop3 [1, 2] (fun (i : Nat) (cs : List Bool) (u : Value) => i ≤ xs.length ∧ cs.length = 6400 ∧ ∀ y x, y < 80 → x < 80 → gb cs y x = ((xs.map (moveR t)).take i).any fun r => inR r y x) (fun (i : Nat) (cs : List Bool) (u : Value) => [(6, vi i), (5, u)]) (fun (i : Nat) (cs : List Bool) (u : Value) => osl 4 boolT u cs :: blk b2 136 (transT.enc t) :: L) (fun (i : Nat) (cs : List Bool) (u : Value) => xs.length - i) 0 (List.replicate 6400 false) v7 ⟨by omega, by simp, fun y x _ _ => by rw [gb_rep]; simp⟩ ⟨rfl, rfl, trivial⟩ Cv.p ?_
  rintro i cs u τ ⟨hi, hl, hc⟩
  refine WP.seq ?_
  refine WP.seq ?_
  refine WP.region ?_
  refine RG.pv rfl (PV.mvI (.inl rfl) rfl) ?_
  refine RG.pv rfl (PV.move (v := v) rfl rfl) ?_
  refine RG.pv rfl (PV.len (v := v) rfl Tryz.underlying50 rfl (SlF.r h1)) ?_
  refine RG.pv rfl (PV.lss rfl rfl rfl) ?_
  refine RG.nil ?_
  refine WP.cond rfl (fun h4 => ?_) (fun h4 => ?_)
  · have h4 := of_decide_eq_true h4
    have h5 : i < xs.length := by omega
    refine WP.skip ?_
    refine WP.seq ?_
    refine WP.block ?_
    refine WP.regionHD [.s u] (.q 0 (.q 1 (.q 2 (.q 3 (.q 4 (.q 5 (.l 6 (.l 7 (.q 8 Sch.nil))))))))) (by kernel_rfl) (by kernel_rfl) (by kernel_rfl) rfl ?_
    refine RH.pv rfl (fun _ _ _ _ h => h) (Gh.le_refl _) PickC.pick rfl (PV.move (v := u) rfl rfl) ?_
    refine RH.pv rfl (fun _ _ _ _ h => h) (Gh.le_refl _) PickC.pick rfl (PV.loadW rfl Ag136 rfl rfl) ?_
    refine RH.pv rfl (fun _ _ _ _ h => h) (Gh.le_refl _) PickC.pick rfl (PV.move (v := v) rfl rfl) ?_
    refine RH.pv rfl (fun _ _ _ _ h => h) (Gh.le_refl _) PickC.pick rfl (PV.mvI (.inl rfl) rfl) ?_
    refine RH.pv rfl (fun _ _ _ _ h => h) (Gh.le_refl _) PickC.pick rfl (PV.idxS (v := v) rfl Is50 rfl (SlF.r h1) rfl rfl (by omega)) ?_
    refine RH.pv rfl (fun _ _ _ _ h => h) (Gh.le_refl _) PickC.pick rfl (PV.loadE rfl Ag140 rfl rfl (El.r h1 (getG (by omega)))) ?_
    refine RH.ot rfl rfl (OT.callF (vs := [_, _]) rfl En142 rfl (l10Rect_r hb (RIn_gd hri (by omega)) ⟨Gh.le_refl _, PickC.pick, ?_⟩))
    refine RH.ot rfl rfl (OT.callF (vs := [u, _]) rfl En155 rfl ( CallT.exS u (fill_s hl (hv i (by omega)) (fun D' hD' hg' => ⟨Gh.le_refl _, PickC.pick, ?_⟩))))
    refine RH.pv rfl (fun _ _ _ _ h => h) (Gh.le_refl _) PickC.pick rfl (PV.asg rfl rfl) ?_
    refine RH.nil ?_
    refine WP.region ?_
    refine RG.pv rfl (PV.mvI (.inl rfl) rfl) ?_
    refine RG.pv rfl (PV.add rfl rfl rfl (by omega)) ?_
    refine RG.pv rfl (PV.mvI (.inr rfl) rfl) ?_
    refine RG.nil ?_
    exact ⟨rfl, i + 1, D', u, ⟨by omega, hD', fun y x h7 h8 => by rw [hg' y x h7 h8, hc y x h7 h8, mvTo_any h5]⟩, ⟨rfl, rfl, trivial⟩, ⟨rfl, rfl, trivial⟩, Cv.p, by omega⟩
  · have h4 := of_decide_eq_false h4
    have e : cs = bits (xs.map (moveR t)) := bits_eq hl fun y x h6 h7 => by rw [hc y x h6 h7, List.take_of_length_le (by simp; omega)]
    subst e
    refine WP.exit ?_
    refine WP.seq ?_
    refine WP.region ?_
    refine RG.pv rfl (PV.move (v := u) rfl rfl) ?_
    refine RG.callF (vs := [u]) rfl rfl En98 rfl (l03Canon_s Rs.o (bits_length _) (fun v23 => ?_))
    refine RG.pv rfl (PV.asg (v := v23) rfl rfl) ?_
    refine RG.nil ?_
    refine WP.ret ?_
    exact ⟨_, _, ResV.one rfl rfl, Cv.p, k v23⟩
end Go.Proofs.YthhjapiggekjbaaGreat
namespace Go.Proofs.YthhjapiggekjbaaGreat
set_option linter.unusedVariables false
set_option linter.unusedSimpArgs false
open Go
set_option linter.unusedSimpArgs false
set_option maxRecDepth 20000
theorem least {P : Nat → Prop} (n : Nat) : P n → ∃ m, P m ∧ ∀ i, i < m → ¬ P i := by
  induction n using Nat.strongRecOn with
  | ind n ih =>
    intro h
    by_cases c : ∃ i, i < n ∧ P i
    · obtain ⟨i, hi, hp⟩ := c; exact ih i hi hp
    · exact ⟨n, h, fun i hi hp => c ⟨i, hi, hp⟩⟩
theorem comps_cover {S : List Bool} {y x : Nat} (hy : y < 80) (hx : x < 80) : ((comps S).any fun c => gb c y x) = gb S y x := by
  classical
  rw [Bool.eq_iff_iff, List.any_eq_true]
  constructor
  · rintro ⟨c, hc, h⟩
    obtain ⟨j, hj, rfl⟩ := List.mem_map.1 hc
    have hf : First S j := by simpa using (List.mem_filter.1 hj).2
    exact (((comp_iff hy hx).1 h).on hf.1).2.2
  · intro h
    have hon : On S (y, x) := ⟨hy, hx, h⟩
    obtain ⟨m, h1, hmin⟩ := least (P := fun i => On S (cel i) ∧ Conn S (cel i) (y, x)) (pos (y, x)) (by simp only [cel_pos (a := (y, x)) hx]; exact ⟨hon, .refl⟩)
    have hm : m < 6400 := by
      have a1 := h1.1.1; have a2 := h1.1.2.1
      simp only [cel] at a1 a2; omega
    have hf : First S m := ⟨h1.1, fun i hi ho hc => hmin i hi ⟨ho, hc.trans h1.2⟩⟩
    refine ⟨compB S (cel m), List.mem_map.2 ⟨m, List.mem_filter.2 ⟨List.mem_range.2 hm, by simpa using hf⟩, rfl⟩, (comp_iff hy hx).2 h1.2⟩
theorem stepJ_keep {J : Nat → Nat → Bool} {i k a b : Nat} {c : List Int} (ha : a < c.length) (hb : b < c.length) (h : gd c a = gd c b) : gd (stepJ J i c k) a = gd (stepJ J i c k) b := by
  unfold stepJ
  split
  · exact h
  · rw [gd_map _ ha, gd_map _ hb, h]
theorem inJ_keep {J : Nat → Nat → Bool} {i a b : Nat} {c : List Int} (ha : a < c.length) (hb : b < c.length) (h : gd c a = gd c b) : ∀ k, gd (inJ J i c k) a = gd (inJ J i c k) b
  | 0 => by rw [inJ_zero, gd_app_l ha, gd_app_l hb, h]
  | k + 1 => by
    rw [inJ_succ]
    exact stepJ_keep (by rw [inJ_len]; omega) (by rw [inJ_len]; omega) (inJ_keep ha hb h k)
theorem rootsJ_keep {J : Nat → Nat → Bool} {a b n : Nat} (ha : a < n) (hb : b < n) (h : gd (rootsJ J n) a = gd (rootsJ J n) b) : ∀ m, n ≤ m → gd (rootsJ J m) a = gd (rootsJ J m) b
  | 0, hm => by omega
  | m + 1, hm => by
    by_cases e : n = m + 1
    · rw [← e]; exact h
    · rw [rootsJ]
      exact inJ_keep (by rw [rootsJ_len]; omega) (by rw [rootsJ_len]; omega) (rootsJ_keep ha hb h m (by omega)) m
theorem inJ_join {J : Nat → Nat → Bool} {i k : Nat} {c : List Int} (hc : c.length = i) (hk : k < i) (hJ : J k i = true) : ∀ m, k < m → gd (inJ J i c m) k = gd (inJ J i c m) i
  | 0, h => by omega
  | m + 1, h => by
    rw [inJ_succ]
    have hl := inJ_len J i c m
    by_cases e : k = m
    · subst e
      unfold stepJ
      split
      · rename_i h1
        rcases h1 with h1 | h1
        · exact h1
        · rw [hJ] at h1; cases h1
      · rw [gd_map _ (by omega), gd_map _ (by omega)]
        simp only [rl]
        split <;> split <;> omega
    · exact stepJ_keep (by omega) (by omega) (inJ_join hc hk hJ m (by omega))
theorem rootsJ_join {J : Nat → Nat → Bool} {k i n : Nat} (hk : k < i) (hi : i < n) (hJ : J k i = true) : gd (rootsJ J n) k = gd (rootsJ J n) i := by
  refine rootsJ_keep (n := i + 1) (by omega) (by omega) ?_ n (by omega)
  rw [rootsJ]
  exact inJ_join (rootsJ_len J i) hk hJ i hk
theorem jnL_symm (l : List (List Rect)) (p q : Int × List Bool) : jnL l p q = jnL l q p := by
  simp only [jnL, jnR_eq, mt_comm p.2 q.2]
  rw [show decide (p.1 = q.1) = decide (q.1 = p.1) by rw [Bool.eq_iff_iff]; simp; omega, Bool.or_comm (decide (p.1 = 3)), Bool.or_comm (decide (p.1 = 5))]
/-- joined pieces are on one net -/
theorem numR_join {l : List (List Rect)} {k i : Nat} (hk : k < (pcL l 4).length) (hi : i < (pcL l 4).length) (h : jnL l (gd (pcL l 4) k) (gd (pcL l 4) i) = true) : numR (clsL l) k = numR (clsL l) i := by
  have key : gd (clsL l) k = gd (clsL l) i := by
    rcases Nat.lt_trichotomy k i with c | c | c
    · exact rootsJ_join c hi h
    · rw [c]
    · exact (rootsJ_join (J := JL l) c hk (by rw [JL, jnL_symm]; exact h)).symm
  rw [numR, numR, key]
end Go.Proofs.YthhjapiggekjbaaGreat
namespace Go.Proofs.YthhjapiggekjbaaGreat
set_option linter.unusedVariables false
set_option linter.unusedSimpArgs false
open Go
set_option maxRecDepth 20000
set_option linter.unusedSimpArgs false
theorem comp_sub {S c : List Bool} {y x : Nat} (hc : c ∈ comps S) (hy : y < 80) (hx : x < 80) (h : gb c y x = true) : gb S y x = true := by
  rw [← comps_cover hy hx, List.any_eq_true]
  exact ⟨c, hc, h⟩
theorem reg_valid {xs : List Rect} (h : isReg xs = true) : ∀ r ∈ xs, validRect r = true := by
  have := isReg_valid h
  simp only [validRs, Bool.and_eq_true, List.all_eq_true] at this
  exact this.2
def cellIn (r : Rect) (X Y : Int) : Prop := r.x0 ≤ X ∧ X < r.x1 ∧ r.y0 ≤ Y ∧ Y < r.y1
theorem inR_cell {r : Rect} {y x : Nat} : inR r y x = true ↔ cellIn r ((x : Int) - 40) ((y : Int) - 40) := by
  rw [inR_iff, cellIn]; omega
theorem mv_pre {t : Trans} (ho : 0 ≤ t.o ∧ t.o ≤ 7) (X Y : Int) : ∃ X' Y' : Int, ∀ r : Rect, r.x0 < r.x1 → r.y0 < r.y1 → (cellIn (moveR t r) X Y ↔ cellIn r X' Y') := by
  obtain ⟨o, tx, ty⟩ := t
  have ho : o = 0 ∨ o = 1 ∨ o = 2 ∨ o = 3 ∨ o = 4 ∨ o = 5 ∨ o = 6 ∨ o = 7 := by simp only at ho; omega
  rcases ho with rfl | rfl | rfl | rfl | rfl | rfl | rfl | rfl <;>
    first
    | exact ⟨X - tx, Y - ty, fun r h1 h2 => by simp [cellIn, moveR, moveP, turnP, flip, rot]; omega⟩
    | exact ⟨tx - 1 - X, Y - ty, fun r h1 h2 => by simp [cellIn, moveR, moveP, turnP, flip, rot]; omega⟩
    | exact ⟨X - tx, ty - 1 - Y, fun r h1 h2 => by simp [cellIn, moveR, moveP, turnP, flip, rot]; omega⟩
    | exact ⟨tx - 1 - X, ty - 1 - Y, fun r h1 h2 => by simp [cellIn, moveR, moveP, turnP, flip, rot]; omega⟩
    | exact ⟨Y - ty, X - tx, fun r h1 h2 => by simp [cellIn, moveR, moveP, turnP, flip, rot]; omega⟩
    | exact ⟨ty - 1 - Y, X - tx, fun r h1 h2 => by simp [cellIn, moveR, moveP, turnP, flip, rot]; omega⟩
    | exact ⟨Y - ty, tx - 1 - X, fun r h1 h2 => by simp [cellIn, moveR, moveP, turnP, flip, rot]; omega⟩
    | exact ⟨ty - 1 - Y, tx - 1 - X, fun r h1 h2 => by simp [cellIn, moveR, moveP, turnP, flip, rot]; omega⟩
/-- the cell of the chip that a moved cell comes from, if any -/
theorem mv_gb {t : Trans} (ho : 0 ≤ t.o ∧ t.o ≤ 7) {y x : Nat} (hy : y < 80) (hx : x < 80) : (∃ y' x' : Nat, y' < 80 ∧ x' < 80 ∧ ∀ xs : List Rect, (∀ r ∈ xs, validRect r = true) → gb (bits (xs.map (moveR t))) y x = gb (bits xs) y' x') ∨ ∀ xs : List Rect, (∀ r ∈ xs, validRect r = true) → gb (bits (xs.map (moveR t))) y x = false := by
  obtain ⟨X', Y', h⟩ := mv_pre ho ((x : Int) - 40) ((y : Int) - 40)
  by_cases hr : (-40 ≤ X' ∧ X' < 40) ∧ (-40 ≤ Y' ∧ Y' < 40)
  · refine .inl ⟨(Y' + 40).toNat, (X' + 40).toNat, by omega, by omega, fun xs hv => ?_⟩
    rw [Bool.eq_iff_iff, gb_bits_iff hy hx, gb_bits_iff (by omega) (by omega)]
    constructor
    · rintro ⟨r, hr1, hr2⟩
      obtain ⟨q, hq, rfl⟩ := List.mem_map.1 hr1
      have hv1 := validR_iff.1 (hv q hq)
      refine ⟨q, hq, ?_⟩
      rw [inR_cell] at hr2 ⊢
      have := (h q (by omega) (by omega)).1 hr2
      rw [show (((X' + 40).toNat : Nat) : Int) - 40 = X' by omega, show (((Y' + 40).toNat : Nat) : Int) - 40 = Y' by omega]
      exact this
    · rintro ⟨q, hq, hq2⟩
      have hv1 := validR_iff.1 (hv q hq)
      refine ⟨moveR t q, List.mem_map.2 ⟨q, hq, rfl⟩, ?_⟩
      rw [inR_cell] at hq2 ⊢
      rw [show (((X' + 40).toNat : Nat) : Int) - 40 = X' by omega, show (((Y' + 40).toNat : Nat) : Int) - 40 = Y' by omega] at hq2
      exact (h q (by omega) (by omega)).2 hq2
  · refine .inr fun xs hv => ?_
    cases hg : gb (bits (xs.map (moveR t))) y x with
    | false => rfl
    | true =>
      exfalso
      rw [gb_bits_iff hy hx] at hg
      obtain ⟨r, hr1, hr2⟩ := hg
      obtain ⟨q, hq, rfl⟩ := List.mem_map.1 hr1
      have hv1 := validR_iff.1 (hv q hq)
      rw [inR_cell] at hr2
      have := (h q (by omega) (by omega)).1 hr2
      simp only [cellIn] at this
      omega
/-- lists with the same cells have, moved, the same cells -/
theorem mv_congr {t : Trans} (ho : 0 ≤ t.o ∧ t.o ≤ 7) {xs ys : List Rect} (hx : ∀ r ∈ xs, validRect r = true) (hy : ∀ r ∈ ys, validRect r = true) (h : bits xs = bits ys) : bits (xs.map (moveR t)) = bits (ys.map (moveR t)) := by
  refine bits_eq (bits_length _) fun y x h1 h2 => ?_
  rw [← gb_bits' _ h1 h2]
  rcases mv_gb ho h1 h2 with ⟨y', x', -, -, e⟩ | e
  · rw [e xs hx, e ys hy, h]
  · rw [e xs hx, e ys hy]
/-- lists without a common cell have, moved, none -/
theorem mv_disj {t : Trans} (ho : 0 ≤ t.o ∧ t.o ≤ 7) {xs ys : List Rect} (hx : ∀ r ∈ xs, validRect r = true) (hy : ∀ r ∈ ys, validRect r = true) (h : ∀ y x, y < 80 → x < 80 → gb (bits xs) y x = true → gb (bits ys) y x = false) {y x : Nat} (h1 : y < 80) (h2 : x < 80) (hg : gb (bits (xs.map (moveR t))) y x = true) : gb (bits (ys.map (moveR t))) y x = false := by
  rcases mv_gb ho h1 h2 with ⟨y', x', hy', hx', e⟩ | e
  · rw [e xs hx] at hg
    rw [e ys hy, h y' x' hy' hx' hg]
  · exact e ys hy
end Go.Proofs.YthhjapiggekjbaaGreat
namespace Go.Proofs.YthhjapiggekjbaaGreat
set_option linter.unusedVariables false
set_option linter.unusedSimpArgs false
open Go
set_option maxRecDepth 20000
set_option linter.unusedSimpArgs false
theorem mv_valid {t : Trans} {r b c : Rect} (ho : 0 ≤ t.o ∧ t.o ≤ 7) (hr : r.x0 < r.x1 ∧ r.y0 < r.y1) (hb : b.x0 ≤ r.x0 ∧ r.x0 < b.x1 ∧ b.y0 ≤ r.y0 ∧ r.y0 < b.y1) (hc : c.x0 ≤ r.x1 - 1 ∧ r.x1 ≤ c.x1 ∧ c.y0 ≤ r.y1 - 1 ∧ r.y1 ≤ c.y1)
    (h1 : validRect (moveR t b) = true) (h2 : validRect (moveR t c) = true) : validRect (moveR t r) = true := by
  obtain ⟨o, tx, ty⟩ := t
  rw [validR_iff] at *
  have ho : o = 0 ∨ o = 1 ∨ o = 2 ∨ o = 3 ∨ o = 4 ∨ o = 5 ∨ o = 6 ∨ o = 7 := by simp only at ho; omega
  rcases ho with rfl | rfl | rfl | rfl | rfl | rfl | rfl | rfl <;> (simp [moveR, moveP, turnP, flip, rot] at h1 h2 ⊢; omega)
theorem canon_mv {t : Trans} {S : List Bool} {bs : List Rect} (ho : 0 ≤ t.o ∧ t.o ≤ 7) (hS : S.length = 6400) (hsub : ∀ y x, y < 80 → x < 80 → gb S y x = true → ∃ b ∈ bs, inR b y x = true) (hv : ∀ b ∈ bs, validRect (moveR t b) = true) : ∀ r ∈ canon S, validRect (moveR t r) = true := by
  intro r hr
  have hva : validRect r = true := by
    have := isReg_valid (isReg_canon hS)
    simp only [validRs, Bool.and_eq_true, List.all_eq_true] at this
    exact this.2 r hr
  have hv1 := validR_iff.1 hva
  have key : ∀ y x : Nat, y < 80 → x < 80 → inR r y x = true → ∃ b ∈ bs, inR b y x = true := fun y x hy hx h => by
    refine hsub y x hy hx ?_
    rw [← canon_any hy hx, List.any_eq_true]
    exact ⟨r, hr, h⟩
  obtain ⟨b, hb, hb2⟩ := key (r.y0 + 40).toNat (r.x0 + 40).toNat (by omega) (by omega) (by rw [inR_iff]; omega)
  obtain ⟨c, hc, hc2⟩ := key (r.y1 + 39).toNat (r.x1 + 39).toNat (by omega) (by omega) (by rw [inR_iff]; omega)
  rw [inR_iff] at hb2 hc2
  exact mv_valid ho (by omega) (by omega) (by omega) (hv b hb) (hv c hc)
theorem boxesOf_sub {ss : List Shape} {l : Nat} {b : Rect} (h : b ∈ boxesOf ss l) : ∃ m, m < ss.length ∧ (gd ss m).box = b := by
  rw [boxesOf] at h
  obtain ⟨s, hs, rfl⟩ := List.mem_map.1 h
  obtain ⟨m, hm, rfl⟩ := List.getElem_of_mem (List.mem_filter.1 hs).1
  exact ⟨m, hm, by rw [gd_eq hm]⟩
theorem layL_gd {ss : List Shape} {l : Nat} (h : l < 8) : gd (layL ss) l = canon (bits (boxesOf ss l)) := by
  rw [layL, gd_map _ (by simpa using h), range_gd h]
theorem lay_bits {ss : List Shape} {l : Nat} (h : l < 8) : bits (gd (layL ss) l) = bits (boxesOf ss l) := by
  rw [layL_gd h, bits_canon (bits_length _)]
theorem lay_box {ss : List Shape} {l y x : Nat} (h : l < 8) (hy : y < 80) (hx : x < 80) (hg : gb (bits (gd (layL ss) l)) y x = true) : ∃ b ∈ ss.map Shape.box, inR b y x = true := by
  rw [lay_bits h, gb_bits_iff hy hx] at hg
  obtain ⟨b, hb, hi⟩ := hg
  obtain ⟨m, hm, rfl⟩ := boxesOf_sub hb
  exact ⟨_, List.mem_map.2 ⟨gd ss m, gd_mem hm, rfl⟩, hi⟩
theorem gd4 {α : Type} [Inhabited α] (a b c d : α) : gd [a, b, c, d] 0 = a ∧ gd [a, b, c, d] 1 = b ∧ gd [a, b, c, d] 2 = c ∧ gd [a, b, c, d] 3 = d := by
  unfold gd; exact ⟨rfl, rfl, rfl, rfl⟩
theorem cond_box {ss : List Shape} {i y x : Nat} (h : i < 4) (hy : y < 80) (hx : x < 80) (hg : gb (gd (condB (layL ss)) i) y x = true) : ∃ b ∈ ss.map Shape.box, inR b y x = true := by
  have hk : y * 80 + x < 6400 := by omega
  obtain ⟨e0, e1, e2, e3⟩ := gd4 (zipB (fun p q => p && !q) (bits (gd (layL ss) 0)) (bits (gd (layL ss) 1))) (bits (gd (layL ss) 1)) (bits (gd (layL ss) 3)) (bits (gd (layL ss) 5))
  have hi : i = 0 ∨ i = 1 ∨ i = 2 ∨ i = 3 := by omega
  rw [condB] at hg
  rcases hi with rfl | rfl | rfl | rfl
  · rw [e0] at hg
    unfold gb at hg
    rw [zipB_gd (by rw [bits_length]; exact hk) (by rw [bits_length]; exact hk)] at hg
    simp only [Bool.and_eq_true] at hg
    exact lay_box (l := 0) (by omega) hy hx hg.1
  · rw [e1] at hg; exact lay_box (l := 1) (by omega) hy hx hg
  · rw [e2] at hg; exact lay_box (l := 3) (by omega) hy hx hg
  · rw [e3] at hg; exact lay_box (l := 5) (by omega) hy hx hg
theorem pc_mem {l : List (List Rect)} {p : Int × List Rect} (h : p ∈ pcE l) : ∃ i c, i < 4 ∧ c ∈ comps (gd (condB l) i) ∧ p.2 = canon c := by
  rw [pcE] at h
  cases hl : isLay l with
  | false => rw [hl] at h; simp at h
  | true =>
    rw [hl, cond_true] at h
    obtain ⟨q, hq, rfl⟩ := List.mem_map.1 h
    rw [pcL] at hq
    obtain ⟨z, hz, hq⟩ := List.mem_flatten.1 hq
    obtain ⟨i, hi, rfl⟩ := List.mem_map.1 hz
    obtain ⟨c, hc, rfl⟩ := List.mem_map.1 hq
    exact ⟨i, c, by simpa using hi, hc, rfl⟩
theorem pc_reg {l : List (List Rect)} {p : Int × List Rect} (h : p ∈ pcE l) : isReg p.2 = true := by
  obtain ⟨i, c, hi, hc, e⟩ := pc_mem h
  rw [e]; exact isReg_canon (comps_mem hc)
/-- what a piece of a cell's own shapes covers stays on the chip where the shapes stay on it -/
theorem pc_mv {ss : List Shape} {t : Trans} (ho : 0 ≤ t.o ∧ t.o ≤ 7) (hv : ∀ m, m < ss.length → validRect (moveR t (gd ss m).box) = true) {p : Int × List Rect} (h : p ∈ pcE (layL ss)) : ∀ r ∈ p.2, validRect (moveR t r) = true := by
  obtain ⟨i, c, hi, hc, e⟩ := pc_mem h
  rw [e]
  refine canon_mv (bs := ss.map Shape.box) ho (comps_mem hc) (fun y x hy hx hg => cond_box hi hy hx (comp_sub hc hy hx hg)) fun b hb => ?_
  obtain ⟨s, hs, rfl⟩ := List.mem_map.1 hb
  obtain ⟨m, hm, rfl⟩ := List.getElem_of_mem hs
  have := hv m hm
  rwa [gd_eq hm] at this
theorem lay_mv {ss : List Shape} {t : Trans} {l : Nat} (hl : l < 8) (ho : 0 ≤ t.o ∧ t.o ≤ 7) (hv : ∀ m, m < ss.length → validRect (moveR t (gd ss m).box) = true) : ∀ r ∈ gd (layL ss) l, validRect (moveR t r) = true := by
  rw [layL_gd hl]
  refine canon_mv (bs := ss.map Shape.box) ho (bits_length _) (fun y x hy hx hg => lay_box hl hy hx (by rw [lay_bits hl]; exact hg)) fun b hb => ?_
  obtain ⟨s, hs, rfl⟩ := List.mem_map.1 hb
  obtain ⟨m, hm, rfl⟩ := List.getElem_of_mem hs
  have := hv m hm
  rwa [gd_eq hm] at this
/-- moved pieces -/
def mvP (t : Trans) (p : Int × List Rect) : Int × List Rect := (p.1, canon (bits (p.2.map (moveR t))))
theorem mvI_eq {t : Trans} {xs : List Rect} (ht : validT t = true) (hx : isReg xs = true) (hv : ∀ r ∈ xs, validRect (moveR t r) = true) : mvI t xs = canon (bits (xs.map (moveR t))) := by
  refine mvI_ok ?_
  rw [mvOk, ht, hx, Bool.true_and, Bool.true_and, movedOk, List.all_eq_true]
  exact hv
end Go.Proofs.YthhjapiggekjbaaGreat
namespace Go.Proofs.YthhjapiggekjbaaGreat
set_option linter.unusedVariables false
set_option linter.unusedSimpArgs false
open Go
set_option maxRecDepth 20000
set_option maxHeartbeats 1000000
set_option linter.unusedSimpArgs false
variable {G : Gh} {L : List Ch} {R : Value → Gh → List Ch → Prop}
def regsQ (xs : List PPiece) : List (Sl Rect) := xs.map fun q => q.piece.reg
theorem regsQ_len (xs : List PPiece) : (regsQ xs).length = xs.length := by simp [regsQ]
theorem regsQ_gd {xs : List PPiece} {i : Nat} (h : i < xs.length) : gd (regsQ xs) i = (gd xs i).piece.reg := gd_map _ h
theorem regsQ_append (xs ys : List PPiece) : regsQ (xs ++ ys) = regsQ xs ++ regsQ ys := by simp [regsQ]
def erQ (q : PPiece) : Int × (Int × List Rect) := (q.occ, erP q.piece)
def erQs (xs : List PPiece) : List (Int × (Int × List Rect)) := xs.map erQ
theorem erQs_len (xs : List PPiece) : (erQs xs).length = xs.length := by simp [erQs]
/-- the placed pieces of the i-th occurrence; of those before it -/
noncomputable def plAt (cs : List ECell) (os : List EOcc) (i : Nat) : List (Int × (Int × List Rect)) := (ownP cs (gd os i).cell).map fun p => ((i : Int), mvP (gd os i).place p)
noncomputable def plTo (cs : List ECell) (os : List EOcc) (i : Nat) : List (Int × (Int × List Rect)) := (List.range i).flatMap (plAt cs os)
theorem plTo_succ (cs : List ECell) (os : List EOcc) (i : Nat) : plTo cs os (i + 1) = plTo cs os i ++ plAt cs os i := by simp [plTo, List.range_succ, List.flatMap_append]
theorem ownP_len (cs : List ECell) (cell : Int) : (ownP cs cell).length ≤ 25600 := by
  rw [ownP]; cases hasCl cs cell
  · simp
  · exact pcE_len _
theorem plAt_len (cs : List ECell) (os : List EOcc) (i : Nat) : (plAt cs os i).length = (ownP cs (gd os i).cell).length := by simp [plAt]
theorem plTo_len (cs : List ECell) (os : List EOcc) : ∀ i, (plTo cs os i).length ≤ 25600 * i
  | 0 => by simp [plTo]
  | i + 1 => by
    have h1 := plTo_len cs os i
    have h2 := ownP_len cs (gd os i).cell
    rw [plTo_succ, List.length_append, plAt_len]; omega
theorem plAt_gd {cs : List ECell} {os : List EOcc} {i k : Nat} (h : k < (ownP cs (gd os i).cell).length) : gd (plAt cs os i) k = ((i : Int), mvP (gd os i).place (gd (ownP cs (gd os i).cell) k)) := gd_map _ h
theorem OccAt.own {xs : List Cell} {cell : Int} {zs : List Occ} {i : Nat} (ha : OccAt xs cell zs i) : ownP (erCls xs) (gd zs i).cell = pcE (layL (gd xs (gd zs i).cell.toNat).shapes.xs) := by
  obtain ⟨h1, h2, -, -⟩ := occR_cell ha.hi
  rw [ha.ho] at h2
  simp only [erO] at h2
  have hh : hasCl (erCls xs) (gd zs i).cell = true := by
    simp only [hasCl, within, Bool.and_eq_true, decide_eq_true_eq]
    exact ⟨h1, by omega, by omega⟩
  rw [ownP, hh, cond_true, ha.hs]
theorem OccAt.ok {xs : List Cell} {cell : Int} {zs : List Occ} {i : Nat} (ha : OccAt xs cell zs i) (h0 : shE (erCls xs) cell = 0) : ∀ m, m < (gd xs (gd zs i).cell.toNat).shapes.xs.length → validRect (moveR (gd zs i).place (gd (gd xs (gd zs i).cell.toNat).shapes.xs m).box) = true := fun m hm => by
  cases hv : validRect (moveR (gd zs i).place (gd (gd xs (gd zs i).cell.toNat).shapes.xs m).box) with
  | true => rfl
  | false =>
    have hb := ha.bad hm hv
    by_cases ho : occE (erCls xs) cell = 0
    · rw [shE_flat ho, hb] at h0; simp at h0
    · rw [shE_occ ho] at h0; exact absurd h0 ho
theorem gd_memP {l : List (List Rect)} {ps : List Piece} (h : erPs ps = pcE l) {k : Nat} (hk : k < ps.length) : erP (gd ps k) ∈ pcE l := by
  rw [← h, erPs]; exact List.mem_map.2 ⟨gd ps k, gd_mem hk, rfl⟩
theorem placed_r {l : Lib} {cell : Int} {u : Value} {zs : List Occ} (hL : RLib G L l.cells.v l.cells.xs) (hlen : lenC (erCls l.cells.xs)) (h1 : Rs G L occT u zs) (hpth : RsE G L intT (pths zs)) (he : erOs zs = occR (erCls l.cells.xs) cell) (h0 : shE (erCls l.cells.xs) cell = 0) (k : ∀ v qs, erQs qs = plTo (erCls l.cells.xs) (occR (erCls l.cells.xs) cell) (occR (erCls l.cells.xs) cell).length → R v G (osl 65 ppieceT v qs :: bagS 140 rectT (regsQ qs) :: L)) : CallT Tryz.prog 56 #[vT libT l, u] G L R := by
  have hE := erCls_len l.cells.xs
  have hzl : zs.length = (occR (erCls l.cells.xs) cell).length := by rw [← he, erOs_len]
  refine CallT.bd h1 fun hbz => ?_
  refine CallT.enter (args := _) Tryz.func56 rfl rfl (by kernel_rfl) rfl ?_
  refine WP.seq ?_
  refine WP.region ?_
  refine RG.ot rfl (OT.box (cs := libT.enc l) rfl rfl rfl fun b2 => ?_)
  refine RG.pv rfl (PV.asg rfl rfl) ?_
  refine RG.nil ?_
  refine WP.seq ?_
  refine WP.region ?_
  refine RG.ot rfl (OT.bslice (F := ppieceT) (els := []) rfl El53 rfl (by decide) rfl (by decide) trivial fun v9 => ?_)
  refine RG.pv rfl (PV.asg (v := v9) rfl rfl) ?_
  refine RG.nil ?_
  refine WP.seq ?_
  refine WP.seq ?_
  refine WP.region ?_
  refine RG.pv rfl (PV.mvI (.inr rfl) rfl) ?_
  refine RG.nil ?_
  refine WP.block ?_
  refine WP.cv (Cv.cons (Cv.bag0 (e := 140) (F := rectT) (xs := regsQ []) rfl)) ?_
  refine WP.loop3 [1, 2] (fun (i : Nat) (qs : List PPiece) (q : Value) => i ≤ zs.length ∧ erQs qs = plTo (erCls l.cells.xs) (occR (erCls l.cells.xs) cell) i) (fun (i : Nat) (qs : List PPiece) (q : Value) => [(6, vi i), (5, q)]) (fun (i : Nat) (qs : List PPiece) (q : Value) => osl 65 ppieceT q qs :: bagS 140 rectT (regsQ qs) :: blk b2 31 (libT.enc l) :: L) (fun (i : Nat) (qs : List PPiece) (q : Value) => zs.length - i) 0 [] v9 ⟨by omega, rfl⟩ ⟨rfl, rfl, trivial⟩ Cv.p ?_
  rintro i qs q τ ⟨hi, hq⟩
  refine WP.seq ?_
  refine WP.seq ?_
  refine WP.region ?_
  refine RG.pv rfl (PV.mvI (.inl rfl) rfl) ?_
  refine RG.pv rfl (PV.move (v := u) rfl rfl) ?_
  refine RG.pv rfl (PV.len (v := u) rfl Tryz.underlying94 rfl (SlF.r h1)) ?_
  refine RG.pv rfl (PV.lss rfl rfl rfl) ?_
  refine RG.nil ?_
  refine WP.cond rfl (fun h2 => ?_) (fun h2 => ?_)
  · have h2 := of_decide_eq_true h2
    have h3 : i < zs.length := by omega
    have ha := OccAt.of (cell := cell) he h3
    have hal := ha.hl
    have hbig := ha.big
    have hto := plTo_len (erCls l.cells.xs) (occR (erCls l.cells.xs) cell) i
    refine WP.skip ?_
    refine WP.seq ?_
    refine WP.block ?_
    refine WP.seq ?_
    refine WP.regionH0 (.q 0 (.q 1 (.q 2 (.q 3 (.q 4 (.q 5 (.l 6 (.q 7 Sch.nil)))))))) (by kernel_rfl) (by kernel_rfl) (by kernel_rfl) rfl ?_
    refine RH.pv rfl (fun _ _ _ _ h => h) (Gh.le_refl _) PickC.pick rfl (PV.loadW rfl Ag31 rfl rfl) ?_
    refine RH.pv rfl (fun _ _ _ _ h => h) (Gh.le_refl _) PickC.pick rfl (PV.move (v := u) rfl rfl) ?_
    refine RH.pv rfl (fun _ _ _ _ h => h) (Gh.le_refl _) PickC.pick rfl (PV.mvI (.inl rfl) rfl) ?_
    refine RH.pv rfl (fun _ _ _ _ h => h) (Gh.le_refl _) PickC.pick rfl (PV.idxS (v := u) rfl Is94 rfl (SlF.r h1) rfl rfl (by omega)) ?_
    refine RH.pv rfl (fun _ _ _ _ h => h) (Gh.le_refl _) PickC.pick rfl (PV.field rfl Fo138_0 rfl) ?_
    refine RH.pv rfl (fun _ _ _ _ h => h) (Gh.le_refl _) PickC.pick rfl (PV.loadF rfl Sc2 rfl rfl (El.r h1 (getG (by omega))) rfl) ?_
    refine RH.ot rfl rfl (OT.callF (vs := [_, _]) rfl En104 rfl (ownP_r hL.up hlen (fun v22 psv22 hpv22 => ⟨Gh.le_refl _, PickC.pick, ?_⟩)))
    refine RH.pv rfl (fun _ _ _ _ h => h) (Gh.le_refl _) PickC.pick rfl (PV.asg (v := v22) rfl rfl) ?_
    refine RH.nil ?_
    refine WP.seq ?_
    refine WP.region ?_
    refine RG.pv rfl (PV.mvI (.inr rfl) rfl) ?_
    refine RG.nil ?_
    refine WP.block ?_
    have hpe : erPs psv22 = pcE (layL (gd l.cells.xs (gd zs i).cell.toNat).shapes.xs) := by rw [hpv22, ha.own]
    have hpl : psv22.length = (plAt (erCls l.cells.xs) (occR (erCls l.cells.xs) cell) i).length := by rw [plAt_len, ha.ho, ← erPs_len, hpv22]; rfl
    have hpb : psv22.length ≤ 25600 := by rw [← erPs_len, hpe]; exact pcE_len _
    refine WP.loop3 [1, 2, 6, 7] (fun (m : Nat) (rs : List PPiece) (w : Value) => m ≤ psv22.length ∧ erQs rs = plTo (erCls l.cells.xs) (occR (erCls l.cells.xs) cell) i ++ (plAt (erCls l.cells.xs) (occR (erCls l.cells.xs) cell) i).take m) (fun (m : Nat) (rs : List PPiece) (w : Value) => [(8, vi m), (5, w)]) (fun (m : Nat) (rs : List PPiece) (w : Value) => osl 65 ppieceT w rs :: bagS 140 rectT (regsQ rs) :: osl 63 pieceT v22 psv22 :: bagS 140 rectT (regs psv22) :: blk b2 31 (libT.enc l) :: L) (fun (m : Nat) (rs : List PPiece) (w : Value) => psv22.length - m) 0 qs q ⟨by omega, by rw [hq]; simp⟩ ⟨rfl, rfl, trivial⟩ Cv.p ?_
    rintro m rs w τ1 ⟨hm, hr⟩
    refine WP.seq ?_
    refine WP.seq ?_
    refine WP.region ?_
    refine RG.pv rfl (PV.mvI (.inl rfl) rfl) ?_
    refine RG.pv rfl (PV.move (v := v22) rfl rfl) ?_
    refine RG.pv rfl (PV.len (v := v22) rfl Tryz.underlying78 rfl SlF.o) ?_
    refine RG.pv rfl (PV.lss rfl rfl rfl) ?_
    refine RG.nil ?_
    have hrl : rs.length ≤ 6000000 := by rw [← erQs_len, hr, List.length_append, List.length_take]; omega
    refine WP.cond rfl (fun h4 => ?_) (fun h4 => ?_)
    · have h4 := of_decide_eq_true h4
      have h5 : m < psv22.length := by omega
      have hpm := gd_memP hpe h5
      refine WP.skip ?_
      refine WP.seq ?_
      refine WP.block ?_
      refine WP.regionHD [.s w] (.q 0 (.q 1 (.q 2 (.q 3 (.q 4 (.q 5 (.q 6 (.q 7 (.q 8 (.q 9 (.q 10 (.q 11 (.q 12 (.q 13 (.q 14 (.q 15 (.q 16 (.l 17 (.q 18 (.q 19 (.l 20 (.l 21 (.q 22 Sch.nil))))))))))))))))))))))) (by kernel_rfl) (by kernel_rfl) (by kernel_rfl) rfl ?_
      refine RH.pv rfl (fun _ _ _ _ h => h) (Gh.le_refl _) PickC.pick rfl (PV.move (v := w) rfl rfl) ?_
      refine RH.pv rfl (fun _ _ _ _ h => h) (Gh.le_refl _) PickC.pick rfl (PV.mvI (.inl rfl) rfl) ?_
      refine RH.pv rfl (fun _ _ _ _ h => h) (Gh.le_refl _) PickC.pick rfl (PV.move (v := v22) rfl rfl) ?_
      refine RH.pv rfl (fun _ _ _ _ h => h) (Gh.le_refl _) PickC.pick rfl (PV.mvI (.inl rfl) rfl) ?_
      refine RH.pv rfl (fun _ _ _ _ h => h) (Gh.le_refl _) PickC.pick rfl (PV.idxS (v := v22) rfl Is78 rfl SlF.o rfl rfl (by omega)) ?_
      refine RH.pv rfl (fun _ _ _ _ h => h) (Gh.le_refl _) PickC.pick rfl (PV.field rfl Fo63_0 rfl) ?_
      refine RH.pv rfl (fun _ _ _ _ h => h) (Gh.le_refl _) PickC.pick rfl (PV.loadF (v := v22) (j := 0) rfl Sc2 rfl rfl (El.o (getG (by omega))) rfl) ?_
      refine RH.pv rfl (fun _ _ _ _ h => h) (Gh.le_refl _) PickC.pick rfl (PV.move (v := u) rfl rfl) ?_
      refine RH.pv rfl (fun _ _ _ _ h => h) (Gh.le_refl _) PickC.pick rfl (PV.mvI (.inl rfl) rfl) ?_
      refine RH.pv rfl (fun _ _ _ _ h => h) (Gh.le_refl _) PickC.pick rfl (PV.idxS (v := u) rfl Is94 rfl (SlF.r h1) rfl rfl (by omega)) ?_
      refine RH.pv rfl (fun _ _ _ _ h => h) (Gh.le_refl _) PickC.pick rfl (PV.field rfl Fo138_1 rfl) ?_
      refine RH.pv rfl (fun _ _ _ _ h => h) (Gh.le_refl _) PickC.pick rfl (PV.loadEP rfl Ag136 rfl rfl (El.r h1 (getG (by omega))) rfl) ?_
      refine RH.pv rfl (fun _ _ _ _ h => h) (Gh.le_refl _) PickC.pick rfl (PV.move (v := v22) rfl rfl) ?_
      refine RH.pv rfl (fun _ _ _ _ h => h) (Gh.le_refl _) PickC.pick rfl (PV.mvI (.inl rfl) rfl) ?_
      refine RH.pv rfl (fun _ _ _ _ h => h) (Gh.le_refl _) PickC.pick rfl (PV.idxS (v := v22) rfl Is78 rfl SlF.o rfl rfl (by omega)) ?_
      refine RH.pv rfl (fun _ _ _ _ h => h) (Gh.le_refl _) PickC.pick rfl (PV.field rfl Fo63_1 rfl) ?_
      refine RH.pv rfl (fun _ _ _ _ h => h) (Gh.le_refl _) PickC.pick rfl (PV.loadF rfl Sc50 rfl rfl (El.o (getG (by omega))) rfl) ?_
      refine RH.ot rfl rfl (OT.callF (vs := [_, _]) rfl En105 rfl (mvReg_r (RsE.reg (RsE.o (xs := regs psv22)) (by omega)) hbig (RIn_all (pc_reg hpm)) (fun j hj => pc_mv ha.hp.1 (ha.ok h0) hpm _ (gd_mem hj)) (fun v46 => ⟨Gh.le_refl _, PickC.pick, ?_⟩)))
      refine RH.up1 ?_
      refine RH.pv rfl (fun _ _ _ _ h => h) (Gh.le_refl _) PickC.pick rfl (PV.build (vs := [(0, [vi _]), (1, [v46])]) (out := [_, _]) rfl Zr63 Pl63 ⟨rfl, (Cl.c rfl), ⟨rfl, (Cl.s (v := v46) SlF.o), trivial⟩⟩ rfl) ?_
      refine RH.pv rfl (fun _ _ _ _ h => h) (Gh.le_refl _) PickC.pick rfl (PV.build (vs := [(0, [vi _]), (1, [vi _, _])]) (out := [_, _, _]) rfl Zr65 Pl65 ⟨rfl, (Cl.c rfl), ⟨rfl, (Cl.c rfl), trivial⟩⟩ rfl) ?_
      refine RH.ot rfl rfl (OT.bslice (F := ppieceT) (els := [⟨(i : Int), ⟨(gd psv22 m).layer, ⟨v46, canon (bits ((gd psv22 m).reg.xs.map (moveR (gd zs i).place)))⟩⟩⟩]) rfl El53 rfl (by decide) rfl (by decide) ⟨rfl, (Cl.c rfl), trivial⟩ fun v49 => ⟨Gh.le_refl _, PickC.pick, ?_⟩)
      refine RH.ot rfl rfl (OT.append (v := w) (u := v49) (F := ppieceT) rfl El53 rfl (by decide) rfl rfl Rs.o (OneL.one (OneC.val rfl (OneC.val rfl (OneC.sl (SlF.o (v := v46)) OneC.nil)))) rfl (by first | omega | (simp <;> omega)) fun v50 => ⟨Gh.le_refl _, PickC.pick, ?_⟩)
      refine RH.pv rfl (fun _ _ _ _ h => h) (Gh.le_refl _) PickC.pick rfl (PV.asg (v := v50) rfl rfl) ?_
      refine RH.nil ?_
      refine WP.region ?_
      refine RG.pv rfl (PV.mvI (.inl rfl) rfl) ?_
      refine RG.pv rfl (PV.add rfl rfl rfl (by omega)) ?_
      refine RG.pv rfl (PV.mvI (.inr rfl) rfl) ?_
      refine RG.nil ?_
      have hnx : erQs (rs ++ [⟨(i : Int), ⟨(gd psv22 m).layer, ⟨v46, canon (bits ((gd psv22 m).reg.xs.map (moveR (gd zs i).place)))⟩⟩⟩]) = plTo (erCls l.cells.xs) (occR (erCls l.cells.xs) cell) i ++ (plAt (erCls l.cells.xs) (occR (erCls l.cells.xs) cell) i).take (m + 1) := by
        rw [List.take_add_one, getG (by omega), ← List.append_assoc, ← hr, plAt_gd (by rw [← plAt_len]; omega), ha.ho]
        simp only [erO]
        rw [← hpv22, erPs_gd h5, erQs, List.map_append]
        rfl
      exact ⟨rfl, m + 1, (rs ++ [⟨(i : Int), ⟨(gd psv22 m).layer, ⟨v46, canon (bits ((gd psv22 m).reg.xs.map (moveR (gd zs i).place)))⟩⟩⟩]), v50, ⟨by omega, hnx⟩, ⟨rfl, rfl, trivial⟩, ⟨rfl, rfl, rfl, rfl, trivial⟩, ((Cv.p (C := osl 140 rectT v46 (canon (bits ((gd psv22 m).reg.xs.map (moveR (gd zs i).place)))) :: bagS 140 rectT (regsQ rs) :: osl 65 ppieceT v50 (rs ++ [⟨(i : Int), ⟨(gd psv22 m).layer, ⟨v46, canon (bits ((gd psv22 m).reg.xs.map (moveR (gd zs i).place)))⟩⟩⟩]) :: osl 63 pieceT v22 psv22 :: bagS 140 rectT (regs psv22) :: blk b2 31 (libT.enc l) :: L)).trans ((Cv.grow (ys' := regsQ (rs ++ [⟨(i : Int), ⟨(gd psv22 m).layer, ⟨v46, canon (bits ((gd psv22 m).reg.xs.map (moveR (gd zs i).place)))⟩⟩⟩])) (regsQ_append _ _)).trans Cv.p)), by omega⟩
    · have h4 := of_decide_eq_false h4
      refine WP.exit ?_
      refine WP.region ?_
      refine RG.pv rfl (PV.mvI (.inl rfl) rfl) ?_
      refine RG.pv rfl (PV.add rfl rfl rfl (by omega)) ?_
      refine RG.pv rfl (PV.mvI (.inr rfl) rfl) ?_
      refine RG.nil ?_
      exact ⟨rfl, i + 1, rs, w, ⟨by omega, by rw [hr, plTo_succ, List.take_of_length_le (by omega)]⟩, ⟨rfl, rfl, trivial⟩, ⟨rfl, rfl, trivial⟩, Cv.p, by omega⟩
  · have h2 := of_decide_eq_false h2
    obtain rfl : i = zs.length := by omega
    rw [hzl] at hq
    refine WP.exit ?_
    refine WP.seq ?_
    refine WP.region ?_
    refine RG.pv rfl (PV.move (v := q) rfl rfl) ?_
    refine RG.pv rfl (PV.asg (v := q) rfl rfl) ?_
    refine RG.nil ?_
    refine WP.ret ?_
    exact ⟨_, _, ResV.one rfl rfl, Cv.p, k q qs hq⟩
end Go.Proofs.YthhjapiggekjbaaGreat
namespace Go.Proofs.YthhjapiggekjbaaGreat
set_option linter.unusedVariables false
set_option linter.unusedSimpArgs false
open Go
set_option maxRecDepth 20000
set_option linter.unusedSimpArgs false
variable {G : Gh} {L : List Ch} {R : Value → Gh → List Ch → Prop}
theorem Cv.bagJn {α : Type} {e : TypeId} {F : FT α} {X Y : List (Sl α)} {L : List Ch} : Cv (bagS e F X :: bagS e F Y :: L) (bagS e F (X ++ Y) :: L) := by
  have h1 : Cv (bagS e F X :: bagS e F Y :: L) (X.map (ownS e F) ++ (Y.map (ownS e F) ++ L)) := (Cv.cons Cv.ofBag).trans Cv.ofBag
  rw [← List.append_assoc, ← List.map_append] at h1
  exact h1.trans (Cv.toBag (B := (X ++ Y).map (ownS e F)))
end Go.Proofs.YthhjapiggekjbaaGreat
namespace Go.Proofs.YthhjapiggekjbaaGreat
set_option linter.unusedVariables false
set_option linter.unusedSimpArgs false
open Go
set_option maxRecDepth 20000
set_option maxHeartbeats 1000000
set_option linter.unusedSimpArgs false
variable {G : Gh} {L : List Ch} {R : Value → Gh → List Ch → Prop}
def pcsL (ps : List Plc) : List (Sl Piece) := ps.map Plc.pieces
def plsL (ps : List Plc) : List (Sl Rect) := ps.map Plc.poly
def rgsL (ps : List Plc) : List (Sl Rect) := ps.flatMap fun p => regs p.pieces.xs
theorem pcsL_app (ps : List Plc) (p : Plc) : pcsL (ps ++ [p]) = pcsL ps ++ [p.pieces] := by simp [pcsL]
theorem plsL_app (ps : List Plc) (p : Plc) : plsL (ps ++ [p]) = plsL ps ++ [p.poly] := by simp [plsL]
theorem rgsL_app (ps : List Plc) (p : Plc) : rgsL (ps ++ [p]) = rgsL ps ++ regs p.pieces.xs := by simp [rgsL]
theorem Cv.plcNew {e1 e2 e3 : TypeId} {ps : List Plc} {pv u q : Value} {qs : List Piece} {us : List Rect} : Cv (osl e1 pieceT pv qs :: bagS e1 pieceT (pcsL ps) :: osl e2 rectT u us :: bagS e2 rectT (plsL ps) :: bagS e2 rectT (rgsL ps) :: bagS e2 rectT (regs qs) :: osl e3 plcT q (ps ++ [⟨⟨pv, qs⟩, ⟨u, us⟩⟩]) :: L)
    (osl e3 plcT q (ps ++ [⟨⟨pv, qs⟩, ⟨u, us⟩⟩]) :: bagS e1 pieceT (pcsL (ps ++ [⟨⟨pv, qs⟩, ⟨u, us⟩⟩])) :: bagS e2 rectT (plsL (ps ++ [⟨⟨pv, qs⟩, ⟨u, us⟩⟩])) :: bagS e2 rectT (rgsL (ps ++ [⟨⟨pv, qs⟩, ⟨u, us⟩⟩])) :: L) := by
  rw [pcsL_app, plsL_app, rgsL_app]
  exact Cv.bagS_add.trans ((Cv.cons Cv.bagS_add).trans ((Cv.cons (Cv.cons Cv.bagJn)).trans Cv.p))
def erL (ps : List Plc) : List (List (Int × List Rect) × List Rect) := ps.map fun p => (erPs p.pieces.xs, p.poly.xs)
noncomputable def plPc (cs : List ECell) (os : List EOcc) (i : Nat) : List (Int × List Rect) := (ownP cs (gd os i).cell).map (mvP (gd os i).place)
def plPoly (cs : List ECell) (os : List EOcc) (i : Nat) : List Rect := canon (bits ((gd (layL (gd cs (gd os i).cell.toNat).shapes) 1).map (moveR (gd os i).place)))
noncomputable def plcTo (cs : List ECell) (os : List EOcc) (i : Nat) : List (List (Int × List Rect) × List Rect) := (List.range i).map fun j => (plPc cs os j, plPoly cs os j)
theorem plcTo_succ (cs : List ECell) (os : List EOcc) (i : Nat) : plcTo cs os (i + 1) = plcTo cs os i ++ [(plPc cs os i, plPoly cs os i)] := by simp [plcTo, List.range_succ]
theorem OccAt.vt {xs : List Cell} {cell : Int} {zs : List Occ} {i : Nat} (ha : OccAt xs cell zs i) : validT (gd zs i).place = true := by
  obtain ⟨-, -, h3, -⟩ := occR_cell ha.hi
  rw [ha.ho] at h3; exact h3
theorem OccAt.poly {xs : List Cell} {cell : Int} {zs : List Occ} {i : Nat} (ha : OccAt xs cell zs i) (h0 : shE (erCls xs) cell = 0) : mvI (gd zs i).place (gd (layL (gd xs (gd zs i).cell.toNat).shapes.xs) 1) = plPoly (erCls xs) (occR (erCls xs) cell) i := by
  rw [mvI_eq ha.vt (by rw [layL_gd (by omega)]; exact isReg_canon (bits_length _)) (lay_mv (by omega) ha.hp.1 (ha.ok h0)), plPoly, ha.ho]
  simp only [erO, ha.hs]
theorem OccAt.pc {xs : List Cell} {cell : Int} {zs : List Occ} {i : Nat} (ha : OccAt xs cell zs i) (h0 : shE (erCls xs) cell = 0) {p : Int × List Rect} (hp : p ∈ pcE (layL (gd xs (gd zs i).cell.toNat).shapes.xs)) : (p.1, mvI (gd zs i).place p.2) = mvP (gd zs i).place p := by
  rw [mvP, mvI_eq ha.vt (pc_reg hp) (pc_mv ha.hp.1 (ha.ok h0) hp)]
theorem layers_i8 {v : Value} {ss : List Shape} (h1 : Rs G L shapeT v ss) (k : ∀ v' ys, er ys = layL ss → ys.length = 8 → R v' G (osl 50 slT v' ys :: bagS 140 rectT ys :: L)) : CallT Tryz.prog 46 #[v] G L R :=
  layers_i h1 fun v' ys he => k v' ys he (by rw [← er_len, he, layL_len])
theorem plac_i {l : Lib} {cell : Int} (hL : RLib G L l.cells.v l.cells.xs) (hlen : lenC (erCls l.cells.xs)) (k0 : shE (erCls l.cells.xs) cell ≠ 0 → R (.tuple #[.slice none 0 0, .slice none 0 0, vi (shE (erCls l.cells.xs) cell)]) G L)
    (k : shE (erCls l.cells.xs) cell = 0 → ∀ v ps u ys, erL ps = plcTo (erCls l.cells.xs) (occR (erCls l.cells.xs) cell) (occR (erCls l.cells.xs) cell).length → er ys = flyL (erCls l.cells.xs) cell → R (.tuple #[v, u, vi 0]) G (osl 152 plcT v ps :: bagS 63 pieceT (pcsL ps) :: bagS 140 rectT (plsL ps) :: bagS 140 rectT (rgsL ps) :: osl 50 slT u ys :: bagS 140 rectT ys :: L)) : CallT Tryz.prog 47 #[vT libT l, vi cell] G L R := by
  have hE := erCls_len l.cells.xs
  refine CallT.enter (args := _) Tryz.func47 rfl rfl (by kernel_rfl) rfl ?_
  refine WP.seq ?_
  refine WP.region ?_
  refine RG.ot rfl (OT.box (cs := libT.enc l) rfl rfl rfl fun b2 => ?_)
  refine RG.pv rfl (PV.asg rfl rfl) ?_
  refine RG.pv rfl (PV.asg rfl rfl) ?_
  refine RG.pv rfl (PV.mvI (.inr rfl) rfl) ?_
  refine RG.nil ?_
  refine WP.seq ?_
  refine WP.region ?_
  refine RG.pv rfl (PV.loadW rfl Ag31 rfl rfl) ?_
  refine RG.pv rfl (PV.mvI (.inl rfl) rfl) ?_
  refine RG.callF (vs := [_, _]) rfl rfl En22 rfl (fly_i hL.up hlen (fun w23 ys0 hy0 => ?_))
  refine RG.pv rfl (PV.move (v := .tuple _) rfl rfl) ?_
  refine RG.pv rfl (PV.ext (v := w23) rfl rfl rfl) ?_
  refine RG.pv rfl (PV.ext rfl rfl rfl) ?_
  refine RG.pv rfl (PV.asg (v := w23) rfl rfl) ?_
  refine RG.pv rfl (PV.mvI (.inr rfl) rfl) ?_
  refine RG.nil ?_
  refine WP.seq ?_
  refine WP.seq ?_
  refine WP.region ?_
  refine RG.pv rfl (PV.mvI (.inl rfl) rfl) ?_
  refine RG.pv rfl (PV.neq rfl rfl rfl) ?_
  refine RG.nil ?_
  refine WP.cond rfl (fun h1 => ?_) (fun h1 => ?_)
  · have h1 : shE (erCls l.cells.xs) cell ≠ 0 := by simpa using h1
    refine WP.seq ?_
    refine WP.region ?_
    refine RG.pv rfl (PV.mvI (.inl rfl) rfl) ?_
    refine RG.pv rfl (PV.asg rfl rfl) ?_
    refine RG.pv rfl (PV.asg rfl rfl) ?_
    refine RG.pv rfl (PV.mvI (.inr rfl) rfl) ?_
    refine RG.nil ?_
    refine WP.ret ?_
    exact ⟨_, _, ResV.three rfl rfl rfl rfl, Cv.p, k0 h1⟩
  · have h1 : shE (erCls l.cells.xs) cell = 0 := by simpa using h1
    refine WP.skip ?_
    refine WP.seq ?_
    refine WP.region ?_
    refine RG.pv rfl (PV.loadW rfl Ag31 rfl rfl) ?_
    refine RG.pv rfl (PV.mvI (.inl rfl) rfl) ?_
    refine RG.callF (vs := [_, _]) rfl rfl En81 rfl (occ_i hL.up hlen (fun w32 zs he => ?_))
    refine RG.pv rfl (PV.move (v := .tuple _) rfl rfl) ?_
    refine RG.pv rfl (PV.ext (v := w32) rfl rfl rfl) ?_
    refine RG.pv rfl (PV.ext rfl rfl rfl) ?_
    refine RG.pv rfl (PV.asg (v := w32) rfl rfl) ?_
    refine RG.pv rfl (PV.mvI (.inr rfl) rfl) ?_
    refine RG.nil ?_
    refine WP.seq ?_
    refine WP.region ?_
    refine RG.ot rfl (OT.bslice (F := plcT) (els := []) rfl El87 rfl (by decide) rfl (by decide) trivial fun v35 => ?_)
    refine RG.pv rfl (PV.asg (v := v35) rfl rfl) ?_
    refine RG.nil ?_
    refine WP.seq ?_
    refine WP.seq ?_
    refine WP.region ?_
    refine RG.pv rfl (PV.move (v := w32) rfl rfl) ?_
    refine RG.pv rfl (PV.len (v := w32) rfl Tryz.underlying94 rfl SlF.o) ?_
    refine RG.pv rfl (PV.mvI (.inl rfl) rfl) ?_
    refine RG.nil ?_
    refine WP.block ?_
    have hzl : zs.length = (occR (erCls l.cells.xs) cell).length := by rw [← he, erOs_len]
    refine WP.bdo w32 fun hbz => ?_
    refine WP.cv ((Cv.p (C := osl 152 plcT v35 ([] : List Plc) :: osl 50 slT w23 ys0 :: bagS 140 rectT ys0 :: osl 138 occT w32 zs :: bagS 2 intT (pths zs) :: blk b2 31 (libT.enc l) :: L)).trans (Cv.cons ((Cv.bag0 (e := 140) (F := rectT) (xs := rgsL []) rfl).trans ((Cv.bag0 (e := 140) (F := rectT) (xs := plsL []) rfl).trans (Cv.bag0 (e := 63) (F := pieceT) (xs := pcsL []) rfl))))) ?_
    refine WP.loop3 [2, 7, 36, 37] (fun (i : Nat) (ps : List Plc) (q : Value) => i ≤ zs.length ∧ erL ps = plcTo (erCls l.cells.xs) (occR (erCls l.cells.xs) cell) i) (fun (i : Nat) (ps : List Plc) (q : Value) => [(38, vi i), (11, q)]) (fun (i : Nat) (ps : List Plc) (q : Value) => osl 152 plcT q ps :: bagS 63 pieceT (pcsL ps) :: bagS 140 rectT (plsL ps) :: bagS 140 rectT (rgsL ps) :: osl 50 slT w23 ys0 :: bagS 140 rectT ys0 :: osl 138 occT w32 zs :: bagS 2 intT (pths zs) :: blk b2 31 (libT.enc l) :: L) (fun (i : Nat) (ps : List Plc) (q : Value) => zs.length - i) 0 [] v35 ⟨by omega, rfl⟩ ⟨rfl, rfl, trivial⟩ Cv.p ?_
    rintro i ps q τ ⟨hi, hq⟩
    refine WP.seq ?_
    refine WP.region ?_
    refine RG.pv rfl (PV.lss rfl rfl rfl) ?_
    refine RG.nil ?_
    refine WP.seq ?_
    have hpsl : ps.length = i := by have := congrArg List.length hq; simpa [erL, plcTo] using this
    refine WP.cond rfl (fun h2 => ?_) (fun h2 => ?_)
    · have h2 := of_decide_eq_true h2
      have h3 : i < zs.length := by omega
      have ha := OccAt.of (cell := cell) he h3
      have hrd : Rs G (bagS 2 intT (pths zs) :: []) intT (gd zs i).path.v (gd zs i).path.xs := RsE.path RsE.o h3
      have hac := ha.hc
      have hal := ha.hl
      have hsl := hL.sa ha.hc.2
      refine WP.skip ?_
      refine WP.seq ?_
      refine WP.block ?_
      refine WP.seq ?_
      refine WP.region ?_
      refine RG.pv rfl (PV.idxS (v := w32) rfl Is94 rfl SlF.o rfl rfl (by omega)) ?_
      refine RG.pv rfl (PV.loadE rfl Ag138 rfl rfl (El.o (getG (by omega)))) ?_
      refine RG.ot rfl (OT.alloc rfl Zr138 fun b13 => ?_)
      refine RG.ot rfl (OT.storeW (vs := [vi _, vi _, vi _, vi _, _]) rfl Sz138 rfl rfl (Cl.c rfl) rfl rfl (OneC.val rfl (OneC.val rfl (OneC.val rfl (OneC.val rfl (OneC.sl (SlF.r hrd) OneC.nil))))) ?_)
      refine RG.nil ?_
      refine WP.seq ?_
      refine WP.region ?_
      refine RG.pv rfl (PV.field rfl Fo31_0 rfl) ?_
      refine RG.pv rfl (PV.load1 rfl Sc29 rfl (Rd.blk rfl)) ?_
      refine RG.pv rfl (PV.field rfl Fo138_0 rfl) ?_
      refine RG.pv rfl (PV.load1 rfl Sc2 rfl (Rd.blk rfl)) ?_
      refine RG.pv rfl (PV.idxS (j := (gd zs i).cell.toNat) rfl Is29 rfl (SlF.r hL.c) rfl (by omega) (by omega)) ?_
      refine RG.pv rfl (PV.field rfl Fo116_1 rfl) ?_
      refine RG.pv rfl (PV.loadF rfl Sc83 rfl rfl (El.r hL.c (getG (by omega))) rfl) ?_
      refine RG.callF (vs := [_]) rfl rfl En46 rfl (layers_i8 (v := (gd l.cells.xs (gd zs i).cell.toNat).shapes.v) (Rs.up hsl) (fun v49 ysv49 hev49 hlv49 => ?_))
      refine RG.pv rfl (PV.asg (v := v49) rfl rfl) ?_
      refine RG.nil ?_
      refine WP.seq ?_
      refine WP.region ?_
      refine RG.pv rfl (PV.build (vs := []) (out := [_, _]) rfl Zr152 Pl152 trivial rfl) ?_
      refine RG.ot rfl (OT.alloc rfl Zr152 fun b15 => ?_)
      refine RG.ot rfl (OT.storeW (vs := [_, _]) rfl Sz152 rfl rfl (Cl.c rfl) rfl rfl (OneC.val rfl (OneC.val rfl OneC.nil)) ?_)
      refine RG.nil ?_
      refine WP.seq ?_
      refine WP.regionHD [.b b15] (.q 0 (.q 1 (.q 2 (.q 3 (.q 4 (.l 5 (.q 6 (.q 7 (.q 8 (.q 9 (.l 10 Sch.nil))))))))))) (by kernel_rfl) (by kernel_rfl) (by kernel_rfl) rfl ?_
      refine RH.pv rfl (fun _ _ _ _ h => h) (Gh.le_refl _) PickC.pick rfl (PV.field rfl Fo138_1 rfl) ?_
      refine RH.pv rfl (fun _ _ _ _ h => h) (Gh.le_refl _) PickC.pick rfl (PV.loadB (vs := [_, _, _]) rfl Ag136 rfl rfl rfl) ?_
      refine RH.pv rfl (fun _ _ _ _ h => h) (Gh.le_refl _) PickC.pick rfl (PV.move (v := v49) rfl rfl) ?_
      refine RH.pv rfl (fun _ _ _ _ h => h) (Gh.le_refl _) PickC.pick rfl (PV.idxS (j := 1) (v := v49) rfl Is47 rfl SlF.o rfl (by omega) (by omega)) ?_
      refine RH.pv rfl (fun _ _ _ _ h => h) (Gh.le_refl _) PickC.pick rfl (PV.loadE1 rfl Sc50 rfl rfl (El.o (getG (by omega))) rfl) ?_
      refine RH.ot rfl rfl (OT.callF (vs := [_, _]) rfl En86 rfl (mvReg_i (Rs.inBag (xs := ysv49) 1 (by omega)) (fun w57 => ⟨Gh.le_refl _, PickC.pick, ?_⟩)))
      refine RH.pv rfl (fun _ _ _ _ h => h) (Gh.le_refl _) PickC.pick rfl (PV.move (v := .tuple _) rfl rfl) ?_
      refine RH.pv rfl (fun _ _ _ _ h => h) (Gh.le_refl _) PickC.pick rfl (PV.ext (v := w57) rfl rfl rfl) ?_
      refine RH.pv rfl (fun _ _ _ _ h => h) (Gh.le_refl _) PickC.pick rfl (PV.ext rfl rfl rfl) ?_
      refine RH.pv rfl (fun _ _ _ _ h => h) (Gh.le_refl _) PickC.pick rfl (PV.field rfl Fo152_1 rfl) ?_
      refine RH.ot rfl rfl (OT.storeB (v := w57) (vs := [_]) (cs' := [_, _]) rfl Sz50 rfl rfl (Cl.s (v := w57) SlF.o) rfl (OneC.sl SlF.o OneC.nil) rfl rfl ⟨Gh.le_refl _, PickC.pick, ?_⟩)
      refine RH.nil ?_
      refine WP.seq ?_
      refine WP.seq ?_
      refine WP.region ?_
      refine RG.pv rfl (PV.move (v := v49) rfl rfl) ?_
      refine RG.callF (vs := [v49]) rfl rfl En87 rfl (pieces_s (v := v49) (xs := ysv49) Rs.o RsE.o (by rw [hev49]; exact isLay_layL _) (fun v62 psv62 hpv62 => ?_))
      refine RG.pv rfl (PV.len (v := v62) rfl Tryz.underlying78 rfl SlF.o) ?_
      refine RG.pv rfl (PV.mvI (.inl rfl) rfl) ?_
      refine RG.nil ?_
      refine WP.block ?_
      have hpe : erPs psv62 = pcE (layL (gd l.cells.xs (gd zs i).cell.toNat).shapes.xs) := by rw [hpv62, hev49, pcE, isLay_layL]; rfl
      have hpb : psv62.length ≤ 25600 := by rw [← erPs_len, hpe]; exact pcE_len _
      have hpo : ownP (erCls l.cells.xs) (gd (occR (erCls l.cells.xs) cell) i).cell = erPs psv62 := by rw [hpe, ha.ho]; exact ha.own
      refine WP.cv ((Cv.p (C := osl 140 rectT w57 (mvI (gd zs i).place (gd ysv49 1).xs) :: osl 63 pieceT v62 psv62 :: bagS 140 rectT (regs psv62) :: blk b15 152 [.slice none 0 0, w57] :: blk b13 138 (occT.enc (gd zs i)) :: osl 152 plcT q ps :: bagS 63 pieceT (pcsL ps) :: bagS 140 rectT (plsL ps) :: bagS 140 rectT (rgsL ps) :: osl 50 slT w23 ys0 :: bagS 140 rectT ys0 :: osl 138 occT w32 zs :: bagS 2 intT (pths zs) :: blk b2 31 (libT.enc l) :: L)).trans ((Cv.bag0 (e := 140) (F := rectT) (xs := regs []) rfl).trans (Cv.nilS (e := 63) (F := pieceT)))) ?_
      refine WP.loop3 [2, 7, 11, 13, 15, 36, 37, 38, 62, 63] (fun (m : Nat) (qs : List Piece) (pv : Value) => m ≤ psv62.length ∧ erPs qs = ((erPs psv62).map (mvP (gd zs i).place)).take m) (fun (m : Nat) (qs : List Piece) (pv : Value) => [(64, vi m)]) (fun (m : Nat) (qs : List Piece) (pv : Value) => osl 63 pieceT pv qs :: bagS 140 rectT (regs qs) :: osl 140 rectT w57 (mvI (gd zs i).place (gd ysv49 1).xs) :: osl 63 pieceT v62 psv62 :: bagS 140 rectT (regs psv62) :: blk b15 152 [pv, w57] :: blk b13 138 (occT.enc (gd zs i)) :: osl 152 plcT q ps :: bagS 63 pieceT (pcsL ps) :: bagS 140 rectT (plsL ps) :: bagS 140 rectT (rgsL ps) :: osl 50 slT w23 ys0 :: bagS 140 rectT ys0 :: osl 138 occT w32 zs :: bagS 2 intT (pths zs) :: blk b2 31 (libT.enc l) :: L) (fun (m : Nat) (qs : List Piece) (pv : Value) => psv62.length - m) 0 [] (.slice none 0 0) ⟨by omega, rfl⟩ ⟨rfl, trivial⟩ Cv.p ?_
      rintro m qs pv τ1 ⟨hm, hr⟩
      refine WP.seq ?_
      refine WP.region ?_
      refine RG.pv rfl (PV.lss rfl rfl rfl) ?_
      refine RG.nil ?_
      refine WP.seq ?_
      have hql : qs.length ≤ 25600 := by rw [← erPs_len, hr, List.length_take]; omega
      refine WP.cond rfl (fun h4 => ?_) (fun h4 => ?_)
      · have h4 := of_decide_eq_true h4
        have h5 : m < psv62.length := by omega
        have hpm := gd_memP hpe h5
        have hrp : Rs G (bagS 140 rectT (regs psv62) :: []) rectT (gd psv62 m).reg.v (gd psv62 m).reg.xs := RsE.reg RsE.o h5
        have hnx : ∀ w, erPs (qs ++ [⟨(gd psv62 m).layer, ⟨w, mvI (gd zs i).place (gd psv62 m).reg.xs⟩⟩]) = ((erPs psv62).map (mvP (gd zs i).place)).take (m + 1) := fun w => by
          rw [List.take_add_one, getG (by rw [List.length_map, erPs_len]; exact h5), ← hr, gd_map _ (by rw [erPs_len]; exact h5), erPs_gd h5, ← ha.pc h1 hpm, erPs, List.map_append]
          rfl
        refine WP.skip ?_
        refine WP.seq ?_
        refine WP.block ?_
        refine WP.seq ?_
        refine WP.region ?_
        refine RG.pv rfl (PV.idxS (v := v62) rfl Is78 rfl SlF.o rfl rfl (by omega)) ?_
        refine RG.pv rfl (PV.loadE rfl Ag63 rfl rfl (El.o (getG (by omega)))) ?_
        refine RG.ot rfl (OT.alloc rfl Zr63 fun b17 => ?_)
        refine RG.ot rfl (OT.storeW (vs := [vi _, _]) rfl Sz63 rfl rfl (Cl.c rfl) rfl rfl (OneC.val rfl (OneC.sl (SlF.r hrp) OneC.nil)) ?_)
        refine RG.nil ?_
        refine WP.seq ?_
        refine WP.region ?_
        refine RG.pv rfl (PV.field rfl Fo138_1 rfl) ?_
        refine RG.pv rfl (PV.loadB (vs := [_, _, _]) rfl Ag136 rfl rfl rfl) ?_
        refine RG.pv rfl (PV.field rfl Fo63_1 rfl) ?_
        refine RG.pv rfl (PV.load1 rfl Sc50 rfl (Rd.blk rfl)) ?_
        refine RG.callF (vs := [_, _]) rfl rfl En86 rfl (mvReg_i (RsE.reg (RsE.o (xs := regs psv62)) h5) (fun w73 => ?_))
        refine RG.pv rfl (PV.move (v := .tuple _) rfl rfl) ?_
        refine RG.pv rfl (PV.ext (v := w73) rfl rfl rfl) ?_
        refine RG.pv rfl (PV.ext rfl rfl rfl) ?_
        refine RG.pv rfl (PV.asg (v := w73) rfl rfl) ?_
        refine RG.pv rfl (PV.mvB (.inr rfl) rfl) ?_
        refine RG.nil ?_
        refine WP.region ?_
        refine RG.pv rfl (PV.field rfl Fo152_0 rfl) ?_
        refine RG.pv rfl (PV.load1 rfl Sc78 rfl (Rd.blk rfl)) ?_
        refine RG.pv rfl (PV.field rfl Fo63_0 rfl) ?_
        refine RG.pv rfl (PV.load1 rfl Sc2 rfl (Rd.blk rfl)) ?_
        refine RG.pv rfl (PV.move (v := w73) rfl rfl) ?_
        refine RG.pv rfl (PV.build (vs := [(0, [vi _]), (1, [w73])]) (out := [_, _]) rfl Zr63 Pl63 ⟨rfl, (Cl.c rfl), ⟨rfl, (Cl.s (v := w73) SlF.o), trivial⟩⟩ rfl) ?_
        refine RG.ot rfl (OT.bslice (F := pieceT) (els := [⟨(gd psv62 m).layer, ⟨w73, mvI (gd zs i).place (gd psv62 m).reg.xs⟩⟩]) rfl El78 rfl (by decide) rfl (by decide) ⟨rfl, (Cl.c rfl), trivial⟩ fun v82 => ?_)
        refine RG.ot rfl (OT.append (v := pv) (u := v82) (F := pieceT) rfl El78 rfl (by decide) rfl rfl Rs.o (OneL.one (OneC.val rfl (OneC.sl (SlF.o (v := w73)) OneC.nil))) rfl (by first | omega | (simp <;> omega)) fun v83 => ?_)
        refine RG.pv rfl (PV.field rfl Fo152_0 rfl) ?_
        refine RG.ot rfl (OT.storeB (v := v83) (vs := [_]) (cs' := [_, _]) rfl Sz78 rfl rfl (Cl.s (v := v83) SlF.o) rfl (OneC.sl SlF.o OneC.nil) rfl rfl ?_)
        refine RG.nil ?_
        refine WP.region ?_
        refine RG.pv rfl (PV.add rfl rfl rfl (by omega)) ?_
        refine RG.pv rfl (PV.mvI (.inl rfl) rfl) ?_
        refine RG.nil ?_
        exact ⟨rfl, m + 1, (qs ++ [⟨(gd psv62 m).layer, ⟨w73, mvI (gd zs i).place (gd psv62 m).reg.xs⟩⟩]), v83, ⟨by omega, hnx _⟩, ⟨rfl, trivial⟩, ⟨rfl, rfl, rfl, rfl, rfl, rfl, rfl, rfl, rfl, rfl, trivial⟩, ((Cv.p (C := osl 140 rectT w73 (mvI (gd zs i).place (gd psv62 m).reg.xs) :: bagS 140 rectT (regs qs) :: osl 63 pieceT v83 (qs ++ [⟨(gd psv62 m).layer, ⟨w73, mvI (gd zs i).place (gd psv62 m).reg.xs⟩⟩]) :: osl 140 rectT w57 (mvI (gd zs i).place (gd ysv49 1).xs) :: osl 63 pieceT v62 psv62 :: bagS 140 rectT (regs psv62) :: blk b15 152 [v83, w57] :: blk b13 138 (occT.enc (gd zs i)) :: osl 152 plcT q ps :: bagS 63 pieceT (pcsL ps) :: bagS 140 rectT (plsL ps) :: bagS 140 rectT (rgsL ps) :: osl 50 slT w23 ys0 :: bagS 140 rectT ys0 :: osl 138 occT w32 zs :: bagS 2 intT (pths zs) :: blk b2 31 (libT.enc l) :: L)).trans ((Cv.grow (ys' := regs (qs ++ [⟨(gd psv62 m).layer, ⟨w73, mvI (gd zs i).place (gd psv62 m).reg.xs⟩⟩])) (regs_append _ _)).trans Cv.p)), by omega⟩
      · have h4 := of_decide_eq_false h4
        obtain rfl : m = psv62.length := by omega
        have hy1 : (gd ysv49 1).xs = gd (layL (gd l.cells.xs (gd zs i).cell.toNat).shapes.xs) 1 := by rw [← er_gd, hev49]
        have hnp : ∀ w u, erL (ps ++ [⟨⟨w, qs⟩, ⟨u, mvI (gd zs i).place (gd ysv49 1).xs⟩⟩]) = plcTo (erCls l.cells.xs) (occR (erCls l.cells.xs) cell) (i + 1) := fun w u => by
          rw [plcTo_succ, ← hq, ← ha.poly h1, hy1, plPc, hpo, ha.ho, erL, List.map_append]
          simp only [List.map_cons, List.map_nil, erO]
          rw [hr, List.take_of_length_le (by rw [List.length_map, erPs_len]; omega)]
          rfl
        refine WP.exit ?_
        refine WP.region ?_
        refine RG.pv rfl (PV.move (v := q) rfl rfl) ?_
        refine RG.pv rfl (PV.loadW rfl Ag152 rfl rfl) ?_
        refine RG.ot rfl (OT.bslice (F := plcT) (els := [⟨⟨pv, qs⟩, ⟨w57, mvI (gd zs i).place (gd ysv49 1).xs⟩⟩]) rfl El87 rfl (by decide) rfl (by decide) ⟨rfl, (Cl.c rfl), trivial⟩ fun v88 => ?_)
        refine RG.ot rfl (OT.append (v := q) (u := v88) (F := plcT) rfl El87 rfl (by decide) rfl rfl Rs.o (OneL.one (OneC.sl (SlF.o (v := pv)) (OneC.sl (SlF.o (v := w57)) OneC.nil))) rfl (by first | omega | (simp <;> omega)) fun v89 => ?_)
        refine RG.pv rfl (PV.asg (v := v89) rfl rfl) ?_
        refine RG.nil ?_
        refine WP.region ?_
        refine RG.pv rfl (PV.add rfl rfl rfl (by omega)) ?_
        refine RG.pv rfl (PV.mvI (.inl rfl) rfl) ?_
        refine RG.nil ?_
        exact ⟨rfl, i + 1, (ps ++ [⟨⟨pv, qs⟩, ⟨w57, mvI (gd zs i).place (gd ysv49 1).xs⟩⟩]), v89, ⟨by omega, hnp _ _⟩, ⟨rfl, rfl, trivial⟩, ⟨rfl, rfl, rfl, rfl, trivial⟩, ((Cv.p (C := osl 63 pieceT pv qs :: bagS 63 pieceT (pcsL ps) :: osl 140 rectT w57 (mvI (gd zs i).place (gd ysv49 1).xs) :: bagS 140 rectT (plsL ps) :: bagS 140 rectT (rgsL ps) :: bagS 140 rectT (regs qs) :: osl 152 plcT v89 (ps ++ [⟨⟨pv, qs⟩, ⟨w57, mvI (gd zs i).place (gd ysv49 1).xs⟩⟩]) :: osl 50 slT w23 ys0 :: bagS 140 rectT ys0 :: osl 138 occT w32 zs :: bagS 2 intT (pths zs) :: blk b2 31 (libT.enc l) :: L)).trans Cv.plcNew), by omega⟩
    · have h2 := of_decide_eq_false h2
      obtain rfl : i = zs.length := by omega
      rw [hzl] at hq
      refine WP.exit ?_
      refine WP.seq ?_
      refine WP.region ?_
      refine RG.pv rfl (PV.move (v := q) rfl rfl) ?_
      refine RG.pv rfl (PV.move (v := w23) rfl rfl) ?_
      refine RG.pv rfl (PV.asg (v := q) rfl rfl) ?_
      refine RG.pv rfl (PV.asg (v := w23) rfl rfl) ?_
      refine RG.pv rfl (PV.mvI (.inr rfl) rfl) ?_
      refine RG.nil ?_
      refine WP.ret ?_
      exact ⟨_, _, ResV.three rfl rfl rfl rfl, Cv.p, k h1 q ps w23 ys0 hq hy0⟩
end Go.Proofs.YthhjapiggekjbaaGreat
namespace Go.Proofs.YthhjapiggekjbaaGreat
set_option linter.unusedVariables false
set_option linter.unusedSimpArgs false
open Go
set_option maxRecDepth 20000
set_option maxHeartbeats 1000000
set_option linter.unusedSimpArgs false
variable {G : Gh} {L : List Ch} {R : Value → Gh → List Ch → Prop}
theorem RsE.mem {α : Type} [Inhabited α] {F : FT α} {xs : List (Sl α)} (h : RsE G L F xs) {s : Sl α} (hs : s ∈ xs) : Rs G L F s.v s.xs := by
  obtain ⟨i, hi, rfl⟩ := List.getElem_of_mem hs
  have := h i hi
  rwa [gd_eq hi] at this
def mkQ (i : Nat) (p : Piece) : PPiece := ⟨(i : Int), p⟩
def numTo (ps : List Plc) (i : Nat) : List PPiece := (List.range i).flatMap fun j => (gd ps j).pieces.xs.map (mkQ j)
theorem numTo_succ (ps : List Plc) (i : Nat) : numTo ps (i + 1) = numTo ps i ++ (gd ps i).pieces.xs.map (mkQ i) := by simp [numTo, List.range_succ]
theorem numTo_mono (ps : List Plc) {i j : Nat} (h : i ≤ j) : (numTo ps i).length ≤ (numTo ps j).length := by
  induction j with
  | zero => have : i = 0 := by omega
            rw [this]; exact Nat.le_refl _
  | succ j ih =>
    by_cases c : i = j + 1
    · rw [c]; exact Nat.le_refl _
    · have := ih (by omega)
      rw [numTo_succ, List.length_append]; omega
theorem numTo_regs {ps : List Plc} : ∀ i, i ≤ ps.length → regsQ (numTo ps i) = rgsL (ps.take i)
  | 0, _ => rfl
  | i + 1, h => by
    have ih := numTo_regs (ps := ps) i (by omega)
    rw [numTo_succ, regsQ_append, ih, List.take_add_one, getG (by omega)]
    simp [rgsL, regsQ, regs, mkQ, Function.comp_def]
theorem numTo_er {ps : List Plc} {cs : List ECell} {os : List EOcc} {n : Nat} (h : erL ps = plcTo cs os n) : ∀ i, i ≤ n → erQs (numTo ps i) = plTo cs os i
  | 0, _ => rfl
  | i + 1, hi => by
    have ih := numTo_er h i (by omega)
    have hl : ps.length = n := by have := congrArg List.length h; simpa [erL, plcTo] using this
    have e : erPs (gd ps i).pieces.xs = plPc cs os i := by
      have h1 : gd (erL ps) i = (plPc cs os i, plPoly cs os i) := by rw [h, plcTo, gd_map _ (by rw [List.length_range]; omega), range_gd (by omega)]
      rw [erL, gd_map _ (by omega)] at h1
      exact congrArg Prod.fst h1
    rw [numTo_succ, plTo_succ, ← ih, erQs, List.map_append]
    congr 1
    have e2 : plAt cs os i = (plPc cs os i).map fun p => ((i : Int), p) := by simp [plAt, plPc, Function.comp_def]
    rw [e2, ← e]
    simp [erPs, erQ, mkQ, Function.comp_def]
theorem placedP_i {v : Value} {ps : List Plc} (h1 : Rs G L plcT v ps) (hp : RsE G L pieceT (pcsL ps)) (hq : RsE G L rectT (plsL ps)) (hr : RsE G L rectT (rgsL ps)) (hl : (numTo ps ps.length).length ≤ 6000000) (k : ∀ v', R v' G (osl 65 ppieceT v' (numTo ps ps.length) :: L)) : CallT Tryz.prog 49 #[v] G L R := by
  refine CallT.bd h1 fun hbz => ?_
  refine CallT.enter (args := _) Tryz.func49 rfl rfl (by kernel_rfl) rfl ?_
  refine WP.seq ?_
  refine WP.region ?_
  refine RG.pv rfl (PV.asg rfl rfl) ?_
  refine RG.nil ?_
  refine WP.seq ?_
  refine WP.region ?_
  refine RG.ot rfl (OT.bslice (F := ppieceT) (els := []) rfl El53 rfl (by decide) rfl (by decide) trivial fun v8 => ?_)
  refine RG.pv rfl (PV.asg (v := v8) rfl rfl) ?_
  refine RG.nil ?_
  refine WP.seq ?_
  refine WP.seq ?_
  refine WP.region ?_
  refine RG.pv rfl (PV.move (v := v) rfl rfl) ?_
  refine RG.pv rfl (PV.len (v := v) rfl Tryz.underlying87 rfl (SlF.r h1)) ?_
  refine RG.pv rfl (PV.mvI (.inl rfl) rfl) ?_
  refine RG.nil ?_
  refine WP.block ?_
  refine WP.cv (Cv.eqS (show [] = numTo ps 0 from rfl)) ?_
  refine WP.loop2 [9, 10] (fun (i : Nat) (q : Value) => i ≤ ps.length) (fun (i : Nat) (q : Value) => [(11, vi i), (3, q)]) (fun (i : Nat) (q : Value) => osl 65 ppieceT q (numTo ps i) :: L) (fun (i : Nat) (q : Value) => ps.length - i) 0 v8 (by omega) ⟨rfl, rfl, trivial⟩ Cv.p ?_
  rintro i q τ hi
  refine WP.seq ?_
  refine WP.region ?_
  refine RG.pv rfl (PV.lss rfl rfl rfl) ?_
  refine RG.nil ?_
  refine WP.seq ?_
  refine WP.cond rfl (fun h2 => ?_) (fun h2 => ?_)
  · have h2 := of_decide_eq_true h2
    have h3 : i < ps.length := by omega
    have hpp : Rs G L pieceT (gd ps i).pieces.v (gd ps i).pieces.xs := hp.mem (List.mem_map.2 ⟨gd ps i, gd_mem h3, rfl⟩)
    have hqq : Rs G L rectT (gd ps i).poly.v (gd ps i).poly.xs := hq.mem (List.mem_map.2 ⟨gd ps i, gd_mem h3, rfl⟩)
    have hm1 := numTo_mono ps (i := i + 1) (j := ps.length) (by omega)
    have hm2 : (numTo ps (i + 1)).length = (numTo ps i).length + (gd ps i).pieces.xs.length := by rw [numTo_succ, List.length_append, List.length_map]
    refine WP.skip ?_
    refine WP.seq ?_
    refine WP.block ?_
    refine WP.seq ?_
    refine WP.region ?_
    refine RG.pv rfl (PV.mvI (.inl rfl) rfl) ?_
    refine RG.pv rfl (PV.idxS (v := v) rfl Is87 rfl (SlF.r h1) rfl rfl (by omega)) ?_
    refine RG.pv rfl (PV.loadE rfl Ag152 rfl rfl (El.r h1 (getG (by omega)))) ?_
    refine RG.ot rfl (OT.alloc rfl Zr152 fun b5 => ?_)
    refine RG.pv rfl (PV.mvI (.inr rfl) rfl) ?_
    refine RG.ot rfl (OT.storeW (vs := [_, _]) rfl Sz152 rfl rfl (Cl.c rfl) rfl rfl (OneC.sl (SlF.r hpp) (OneC.sl (SlF.r hqq) OneC.nil)) ?_)
    refine RG.nil ?_
    refine WP.seq ?_
    refine WP.region ?_
    refine RG.pv rfl (PV.field rfl Fo152_0 rfl) ?_
    refine RG.pv rfl (PV.load1 rfl Sc78 rfl (Rd.blk rfl)) ?_
    refine RG.pv rfl (PV.len rfl Tryz.underlying78 rfl (SlF.r hpp)) ?_
    refine RG.pv rfl (PV.mvI (.inl rfl) rfl) ?_
    refine RG.nil ?_
    refine WP.block ?_
    refine WP.cv ((Cv.p (C := osl 65 ppieceT q (numTo ps i) :: blk b5 152 (plcT.enc (gd ps i)) :: L)).trans (Cv.eqS (ys := numTo ps i ++ ((gd ps i).pieces.xs.take 0).map (mkQ i)) (by simp))) ?_
    refine WP.loop2 [4, 9, 10, 11, 17, 18] (fun (m : Nat) (w : Value) => m ≤ (gd ps i).pieces.xs.length) (fun (m : Nat) (w : Value) => [(19, vi m), (3, w)]) (fun (m : Nat) (w : Value) => osl 65 ppieceT w (numTo ps i ++ ((gd ps i).pieces.xs.take m).map (mkQ i)) :: blk b5 152 (plcT.enc (gd ps i)) :: L) (fun (m : Nat) (w : Value) => (gd ps i).pieces.xs.length - m) 0 q (by omega) ⟨rfl, rfl, trivial⟩ Cv.p ?_
    rintro m w τ1 hm
    refine WP.seq ?_
    refine WP.region ?_
    refine RG.pv rfl (PV.lss rfl rfl rfl) ?_
    refine RG.nil ?_
    refine WP.seq ?_
    have hlw : (numTo ps i ++ ((gd ps i).pieces.xs.take m).map (mkQ i)).length ≤ 6000000 := by rw [List.length_append, List.length_map, List.length_take]; omega
    refine WP.cond rfl (fun h4 => ?_) (fun h4 => ?_)
    · have h4 := of_decide_eq_true h4
      have h5 : m < (gd ps i).pieces.xs.length := by omega
      have hrr : Rs G L rectT (gd (gd ps i).pieces.xs m).reg.v (gd (gd ps i).pieces.xs m).reg.xs := hr.mem (List.mem_flatMap.2 ⟨gd ps i, gd_mem h3, List.mem_map.2 ⟨_, gd_mem h5, rfl⟩⟩)
      refine WP.skip ?_
      refine WP.seq ?_
      refine WP.block ?_
      refine WP.seq ?_
      refine WP.region ?_
      refine RG.pv rfl (PV.idxS rfl Is78 rfl (SlF.r hpp) rfl rfl (by omega)) ?_
      refine RG.pv rfl (PV.loadE rfl Ag63 rfl rfl (El.r hpp (getG (by omega)))) ?_
      refine RG.ot rfl (OT.alloc rfl Zr63 fun b7 => ?_)
      refine RG.ot rfl (OT.storeW (vs := [vi _, _]) rfl Sz63 rfl rfl (Cl.c rfl) rfl rfl (OneC.val rfl (OneC.sl (SlF.r hrr) OneC.nil)) ?_)
      refine RG.nil ?_
      refine WP.region ?_
      refine RG.pv rfl (PV.move (v := w) rfl rfl) ?_
      refine RG.pv rfl (PV.mvI (.inl rfl) rfl) ?_
      refine RG.pv rfl (PV.loadW rfl Ag63 rfl rfl) ?_
      refine RG.pv rfl (PV.build (vs := [(0, [vi _]), (1, [vi _, _])]) (out := [_, _, _]) rfl Zr65 Pl65 ⟨rfl, (Cl.c rfl), ⟨rfl, (Cl.c rfl), trivial⟩⟩ rfl) ?_
      refine RG.ot rfl (OT.bslice (F := ppieceT) (els := [⟨(i : Int), gd (gd ps i).pieces.xs m⟩]) rfl El53 rfl (by decide) rfl (by decide) ⟨rfl, (Cl.c rfl), trivial⟩ fun v27 => ?_)
      refine RG.ot rfl (OT.append (v := w) (u := v27) (F := ppieceT) rfl El53 rfl (by decide) rfl rfl Rs.o (OneL.one (OneC.val rfl (OneC.val rfl (OneC.sl (SlF.r hrr) OneC.nil)))) rfl (by first | omega | (simp <;> omega)) fun v28 => ?_)
      refine RG.pv rfl (PV.asg (v := v28) rfl rfl) ?_
      refine RG.nil ?_
      refine WP.region ?_
      refine RG.pv rfl (PV.add rfl rfl rfl (by omega)) ?_
      refine RG.pv rfl (PV.mvI (.inl rfl) rfl) ?_
      refine RG.nil ?_
      exact ⟨rfl, m + 1, v28, (by omega), ⟨rfl, rfl, trivial⟩, ⟨rfl, rfl, rfl, rfl, rfl, rfl, trivial⟩, ((Cv.p (C := osl 65 ppieceT v28 (numTo ps i ++ ((gd ps i).pieces.xs.take m).map (mkQ i) ++ [⟨(i : Int), gd (gd ps i).pieces.xs m⟩]) :: blk b5 152 (plcT.enc (gd ps i)) :: L)).trans (Cv.eqS (by rw [List.take_add_one, getG (by omega), List.map_append, List.append_assoc]; rfl))), by omega⟩
    · have h4 := of_decide_eq_false h4
      obtain rfl : m = (gd ps i).pieces.xs.length := by omega
      refine WP.exit ?_
      refine WP.region ?_
      refine RG.pv rfl (PV.add rfl rfl rfl (by omega)) ?_
      refine RG.pv rfl (PV.mvI (.inl rfl) rfl) ?_
      refine RG.nil ?_
      exact ⟨rfl, i + 1, w, (by omega), ⟨rfl, rfl, trivial⟩, ⟨rfl, rfl, trivial⟩, ((Cv.p (C := osl 65 ppieceT w (numTo ps i ++ ((gd ps i).pieces.xs.take (gd ps i).pieces.xs.length).map (mkQ i)) :: L)).trans (Cv.eqS (by rw [List.take_length, numTo_succ]))), by omega⟩
  · have h2 := of_decide_eq_false h2
    obtain rfl : i = ps.length := by omega
    refine WP.exit ?_
    refine WP.seq ?_
    refine WP.region ?_
    refine RG.pv rfl (PV.move (v := q) rfl rfl) ?_
    refine RG.pv rfl (PV.asg (v := q) rfl rfl) ?_
    refine RG.nil ?_
    refine WP.ret ?_
    exact ⟨_, _, ResV.one rfl rfl, Cv.p, k q⟩
noncomputable def ppAll (cs : List ECell) (cell : Int) : List (Int × (Int × List Rect)) := plTo cs (occR cs cell) (occR cs cell).length
noncomputable def ppC (cs : List ECell) (cell : Int) : Int := bif decide (shE cs cell = 0) then (bif decide (400 < (ppAll cs cell).length) then 3 else 0) else shE cs cell
noncomputable def ppR (cs : List ECell) (cell : Int) : List (Int × (Int × List Rect)) := bif decide (ppC cs cell = 0) then ppAll cs cell else []
theorem ppC_no {cs : List ECell} {cell : Int} (h : shE cs cell ≠ 0) : ppC cs cell = shE cs cell := by rw [ppC, decide_eq_false h]; rfl
theorem ppC_yes {cs : List ECell} {cell : Int} (h : shE cs cell = 0) : ppC cs cell = bif decide (400 < (ppAll cs cell).length) then 3 else 0 := by rw [ppC, decide_eq_true h]; rfl
theorem ppR_no {cs : List ECell} {cell : Int} (h : ppC cs cell ≠ 0) : ppR cs cell = [] := by rw [ppR, decide_eq_false h]; rfl
theorem ppR_yes {cs : List ECell} {cell : Int} (h : ppC cs cell = 0) : ppR cs cell = ppAll cs cell := by rw [ppR, decide_eq_true h]; rfl
theorem ppAll_len (cs : List ECell) (cell : Int) : (ppAll cs cell).length ≤ 25600 * (occR cs cell).length := plTo_len _ _ _
theorem Cv.nilQ {M : List Ch} {e e' : TypeId} [p : PickC L M] : Cv M (osl e ppieceT (.slice none 0 0) ([] : List PPiece) :: bagS e' rectT (regsQ []) :: L) := (Cv.pick p.pick).trans ((Cv.bag0 (xs := regsQ []) rfl).trans Cv.nilS)
theorem occR_200 (cs : List ECell) (cell : Int) : (occR cs cell).length ≤ 200 := by
  by_cases h : 0 < (occR cs cell).length
  · exact (occR_cell (i := 0) h).2.2.2
  · omega
theorem pp_r {l : Lib} {cell : Int} (hL : RLib G L l.cells.v l.cells.xs) (hlen : lenC (erCls l.cells.xs)) (k : ∀ v qs, erQs qs = ppR (erCls l.cells.xs) cell → R (.tuple #[v, vi (ppC (erCls l.cells.xs) cell)]) G (osl 65 ppieceT v qs :: bagS 140 rectT (regsQ qs) :: L)) : CallT Tryz.prog 29 #[vT libT l, vi cell] G L R := by
  refine CallT.enter (args := _) Tryz.func29 rfl rfl (by kernel_rfl) rfl ?_
  refine WP.seq ?_
  refine WP.region ?_
  refine RG.ot rfl (OT.box (cs := libT.enc l) rfl rfl rfl fun b2 => ?_)
  refine RG.pv rfl (PV.asg rfl rfl) ?_
  refine RG.pv rfl (PV.mvI (.inr rfl) rfl) ?_
  refine RG.nil ?_
  refine WP.seq ?_
  refine WP.seq ?_
  refine WP.region ?_
  refine RG.pv rfl (PV.loadW rfl Ag31 rfl rfl) ?_
  refine RG.pv rfl (PV.mvI (.inl rfl) rfl) ?_
  refine RG.callF (vs := [_, _]) rfl rfl En52 rfl (fly_r hL.up hlen (fun w14 ys0 hy0 => ?_))
  refine RG.pv rfl (PV.move (v := .tuple _) rfl rfl) ?_
  refine RG.pv rfl (PV.ext (v := w14) rfl rfl rfl) ?_
  refine RG.pv rfl (PV.ext rfl rfl rfl) ?_
  refine RG.pv rfl (PV.asg (v := w14) rfl rfl) ?_
  refine RG.pv rfl (PV.mvI (.inr rfl) rfl) ?_
  refine RG.nil ?_
  refine WP.seq ?_
  refine WP.region ?_
  refine RG.pv rfl (PV.mvI (.inl rfl) rfl) ?_
  refine RG.pv rfl (PV.neq rfl rfl rfl) ?_
  refine RG.nil ?_
  refine WP.cond rfl (fun h1 => ?_) (fun h1 => ?_)
  · have h1 : shE (erCls l.cells.xs) cell ≠ 0 := by simpa using h1
    have e := ppC_no h1
    have e2 := ppR_no (by rw [e]; exact h1)
    rw [e, e2] at k
    refine WP.seq ?_
    refine WP.region ?_
    refine RG.ot rfl (OT.bslice (F := ppieceT) (els := []) rfl El53 rfl (by decide) rfl (by decide) trivial fun v19 => ?_)
    refine RG.pv rfl (PV.mvI (.inl rfl) rfl) ?_
    refine RG.pv rfl (PV.asg (v := v19) rfl rfl) ?_
    refine RG.pv rfl (PV.mvI (.inr rfl) rfl) ?_
    refine RG.nil ?_
    refine WP.ret ?_
    exact ⟨_, _, ResV.two rfl rfl rfl, (Cv.p (C := osl 65 ppieceT v19 [] :: L)).trans (Cv.cons (Cv.bag0 (xs := regsQ []) rfl)), k v19 [] rfl⟩
  · have h1 : shE (erCls l.cells.xs) cell = 0 := by simpa using h1
    have ec := ppC_yes h1
    refine WP.skip ?_
    refine WP.seq ?_
    refine WP.region ?_
    refine RG.pv rfl (PV.loadW rfl Ag31 rfl rfl) ?_
    refine RG.pv rfl (PV.mvI (.inl rfl) rfl) ?_
    refine RG.callF (vs := [_, _]) rfl rfl En55 rfl (occ_r hL.up hlen (fun w24 zs he => ?_))
    refine RG.pv rfl (PV.move (v := .tuple _) rfl rfl) ?_
    refine RG.pv rfl (PV.ext (v := w24) rfl rfl rfl) ?_
    refine RG.pv rfl (PV.ext rfl rfl rfl) ?_
    refine RG.pv rfl (PV.asg (v := w24) rfl rfl) ?_
    refine RG.pv rfl (PV.mvI (.inr rfl) rfl) ?_
    refine RG.nil ?_
    refine WP.seq ?_
    refine WP.region ?_
    refine RG.pv rfl (PV.loadW rfl Ag31 rfl rfl) ?_
    refine RG.pv rfl (PV.move (v := w24) rfl rfl) ?_
    refine RG.callF (vs := [_, w24]) rfl rfl En56 rfl (placed_r hL.up hlen Rs.o RsE.o he h1 (fun v29 qsv29 hqv29 => ?_))
    refine RG.pv rfl (PV.asg (v := v29) rfl rfl) ?_
    refine RG.nil ?_
    refine WP.seq ?_
    refine WP.seq ?_
    refine WP.region ?_
    refine RG.pv rfl (PV.move (v := v29) rfl rfl) ?_
    refine RG.pv rfl (PV.len (v := v29) rfl Tryz.underlying53 rfl SlF.o) ?_
    refine RG.pv rfl (PV.gtr rfl rfl rfl) ?_
    refine RG.nil ?_
    have hql : qsv29.length = (ppAll (erCls l.cells.xs) cell).length := by rw [← erQs_len, hqv29]; rfl
    refine WP.cond rfl (fun h2 => ?_) (fun h2 => ?_)
    · have h2 : 400 < (ppAll (erCls l.cells.xs) cell).length := by simp at h2; omega
      rw [decide_eq_true h2] at ec
      have e2 := ppR_no (cs := erCls l.cells.xs) (cell := cell) (by rw [ec]; decide)
      rw [ec, e2] at k
      refine WP.seq ?_
      refine WP.region ?_
      refine RG.ot rfl (OT.bslice (F := ppieceT) (els := []) rfl El53 rfl (by decide) rfl (by decide) trivial fun v33 => ?_)
      refine RG.pv rfl (PV.asg (v := v33) rfl rfl) ?_
      refine RG.pv rfl (PV.mvI (.inr rfl) rfl) ?_
      refine RG.nil ?_
      refine WP.ret ?_
      exact ⟨_, _, ResV.two rfl rfl rfl, (Cv.p (C := osl 65 ppieceT v33 [] :: L)).trans (Cv.cons (Cv.bag0 (xs := regsQ []) rfl)), k v33 [] rfl⟩
    · have h2 : ¬ 400 < (ppAll (erCls l.cells.xs) cell).length := by simp at h2; omega
      rw [decide_eq_false h2] at ec
      have e2 := ppR_yes (cs := erCls l.cells.xs) (cell := cell) ec
      rw [ec, e2] at k
      refine WP.skip ?_
      refine WP.seq ?_
      refine WP.region ?_
      refine RG.pv rfl (PV.move (v := v29) rfl rfl) ?_
      refine RG.pv rfl (PV.asg (v := v29) rfl rfl) ?_
      refine RG.pv rfl (PV.mvI (.inr rfl) rfl) ?_
      refine RG.nil ?_
      refine WP.ret ?_
      exact ⟨_, _, ResV.two rfl rfl rfl, Cv.p, k v29 qsv29 hqv29⟩
theorem pp_i {l : Lib} {cell : Int} (hL : RLib G L l.cells.v l.cells.xs) (hlen : lenC (erCls l.cells.xs)) (k : ∀ v qs, erQs qs = ppR (erCls l.cells.xs) cell → R (.tuple #[v, vi (ppC (erCls l.cells.xs) cell)]) G (osl 65 ppieceT v qs :: bagS 140 rectT (regsQ qs) :: L)) : CallT Tryz.prog 24 #[vT libT l, vi cell] G L R := by
  by_cases h1 : shE (erCls l.cells.xs) cell = 0
  · have ec := ppC_yes h1
    refine CallT.enter (args := _) Tryz.func24 rfl rfl (by kernel_rfl) rfl ?_
    refine WP.seq ?_
    refine WP.region ?_
    refine RG.ot rfl (OT.box (cs := libT.enc l) rfl rfl rfl fun b2 => ?_)
    refine RG.pv rfl (PV.asg rfl rfl) ?_
    refine RG.pv rfl (PV.mvI (.inr rfl) rfl) ?_
    refine RG.nil ?_
    refine WP.seq ?_
    refine WP.region ?_
    refine RG.pv rfl (PV.loadW rfl Ag31 rfl rfl) ?_
    refine RG.pv rfl (PV.mvI (.inl rfl) rfl) ?_
    refine RG.callF (vs := [_, _]) rfl rfl En47 rfl (plac_i hL.up hlen (fun hne => absurd h1 hne) (fun _ w13 ps u13 ys13 hps hys => ?_))
    refine RG.pv rfl (PV.move (v := .tuple _) rfl rfl) ?_
    refine RG.pv rfl (PV.ext (v := w13) rfl rfl rfl) ?_
    refine RG.pv rfl (PV.ext rfl rfl rfl) ?_
    refine RG.pv rfl (PV.ext rfl rfl rfl) ?_
    refine RG.pv rfl (PV.asg (v := w13) rfl rfl) ?_
    refine RG.pv rfl (PV.asg rfl rfl) ?_
    refine RG.pv rfl (PV.mvI (.inr rfl) rfl) ?_
    refine RG.nil ?_
    refine WP.seq ?_
    refine WP.seq ?_
    refine WP.region ?_
    refine RG.pv rfl (PV.mvI (.inl rfl) rfl) ?_
    refine RG.pv rfl (PV.neq rfl rfl rfl) ?_
    refine RG.nil ?_
    refine WP.cond rfl (fun h2 => ?_) (fun h2 => ?_)
    · simp at h2
    · have hpl : ps.length = (occR (erCls l.cells.xs) cell).length := by have := congrArg List.length hps; simpa [erL, plcTo] using this
      have her := numTo_er hps ps.length (by omega)
      rw [hpl] at her
      have hal := ppAll_len (erCls l.cells.xs) cell
      have ho2 := occR_200 (erCls l.cells.xs) cell
      have hql : (numTo ps ps.length).length = (ppAll (erCls l.cells.xs) cell).length := by rw [← erQs_len, hpl, her]; rfl
      have hnl : (numTo ps ps.length).length ≤ 6000000 := by omega
      refine WP.skip ?_
      refine WP.seq ?_
      refine WP.region ?_
      refine RG.pv rfl (PV.move (v := w13) rfl rfl) ?_
      refine RG.callF (vs := [w13]) rfl rfl En49 rfl (placedP_i Rs.o RsE.o RsE.o RsE.o hnl (fun v21 => ?_))
      refine RG.pv rfl (PV.asg (v := v21) rfl rfl) ?_
      refine RG.nil ?_
      refine WP.seq ?_
      refine WP.seq ?_
      refine WP.region ?_
      refine RG.pv rfl (PV.move (v := v21) rfl rfl) ?_
      refine RG.pv rfl (PV.len (v := v21) rfl Tryz.underlying53 rfl SlF.o) ?_
      refine RG.pv rfl (PV.gtr rfl rfl rfl) ?_
      refine RG.nil ?_
      refine WP.cond rfl (fun h3 => ?_) (fun h3 => ?_)
      · have h3 : 400 < (ppAll (erCls l.cells.xs) cell).length := by simp at h3; omega
        rw [decide_eq_true h3] at ec
        have e2 := ppR_no (cs := erCls l.cells.xs) (cell := cell) (by rw [ec]; decide)
        rw [ec, e2] at k
        refine WP.seq ?_
        refine WP.region ?_
        refine RG.pv rfl (PV.asg rfl rfl) ?_
        refine RG.pv rfl (PV.mvI (.inr rfl) rfl) ?_
        refine RG.nil ?_
        refine WP.ret ?_
        exact ⟨_, _, ResV.two rfl rfl rfl, Cv.nilQ, k _ [] rfl⟩
      · have h3 : ¬ 400 < (ppAll (erCls l.cells.xs) cell).length := by simp at h3; omega
        rw [decide_eq_false h3] at ec
        have e2 := ppR_yes (cs := erCls l.cells.xs) (cell := cell) ec
        rw [ec, e2] at k
        refine WP.skip ?_
        refine WP.seq ?_
        refine WP.region ?_
        refine RG.pv rfl (PV.move (v := v21) rfl rfl) ?_
        refine RG.pv rfl (PV.asg (v := v21) rfl rfl) ?_
        refine RG.pv rfl (PV.mvI (.inr rfl) rfl) ?_
        refine RG.nil ?_
        refine WP.ret ?_
        exact ⟨_, _, ResV.two rfl rfl rfl, (Cv.p (C := osl 65 ppieceT v21 (numTo ps ps.length) :: bagS 140 rectT (rgsL ps) :: L)).trans (Cv.cast (by rw [numTo_regs _ (Nat.le_refl _), List.take_length])), k v21 (numTo ps ps.length) (by rw [hpl]; exact her)⟩
  · have e := ppC_no h1
    have e2 := ppR_no (by rw [e]; exact h1)
    rw [e, e2] at k
    refine CallT.enter (args := _) Tryz.func24 rfl rfl (by kernel_rfl) rfl ?_
    refine WP.seq ?_
    refine WP.region ?_
    refine RG.ot rfl (OT.box (cs := libT.enc l) rfl rfl rfl fun b2 => ?_)
    refine RG.pv rfl (PV.asg rfl rfl) ?_
    refine RG.pv rfl (PV.mvI (.inr rfl) rfl) ?_
    refine RG.nil ?_
    refine WP.seq ?_
    refine WP.region ?_
    refine RG.pv rfl (PV.loadW rfl Ag31 rfl rfl) ?_
    refine RG.pv rfl (PV.mvI (.inl rfl) rfl) ?_
    refine RG.callF (vs := [_, _]) rfl rfl En47 rfl (plac_i hL.up hlen (fun _ => ?_) (fun h => absurd h h1))
    refine RG.pv rfl (PV.move (v := .tuple _) rfl rfl) ?_
    refine RG.pv rfl (PV.ext rfl rfl rfl) ?_
    refine RG.pv rfl (PV.ext rfl rfl rfl) ?_
    refine RG.pv rfl (PV.ext rfl rfl rfl) ?_
    refine RG.pv rfl (PV.asg rfl rfl) ?_
    refine RG.pv rfl (PV.asg rfl rfl) ?_
    refine RG.pv rfl (PV.mvI (.inr rfl) rfl) ?_
    refine RG.nil ?_
    refine WP.seq ?_
    refine WP.seq ?_
    refine WP.region ?_
    refine RG.pv rfl (PV.mvI (.inl rfl) rfl) ?_
    refine RG.pv rfl (PV.neq rfl rfl rfl) ?_
    refine RG.nil ?_
    refine WP.cond rfl (fun h2 => ?_) (fun h2 => ?_)
    · refine WP.seq ?_
      refine WP.region ?_
      refine RG.pv rfl (PV.mvI (.inl rfl) rfl) ?_
      refine RG.pv rfl (PV.asg rfl rfl) ?_
      refine RG.pv rfl (PV.mvI (.inr rfl) rfl) ?_
      refine RG.nil ?_
      refine WP.ret ?_
      exact ⟨_, _, ResV.two rfl rfl rfl, Cv.nilQ, k _ [] rfl⟩
    · exfalso; simp at h2; exact h1 h2
end Go.Proofs.YthhjapiggekjbaaGreat
namespace Go.Proofs.YthhjapiggekjbaaGreat
set_option linter.unusedVariables false
set_option linter.unusedSimpArgs false
open Go
set_option maxRecDepth 20000
set_option maxHeartbeats 1000000
set_option linter.unusedSimpArgs false
variable {G : Gh} {L : List Ch} {R : Value → Gh → List Ch → Prop}
theorem RsE.regQ {xs : List PPiece} (h : RsE G L rectT (regsQ xs)) {i : Nat} (hi : i < xs.length) : Rs G L rectT (gd xs i).piece.reg.v (gd xs i).piece.reg.xs := by
  have := h i (by rw [regsQ_len]; exact hi); rwa [regsQ_gd hi] at this
theorem erQs_gd {xs : List PPiece} {i : Nat} (h : i < xs.length) : gd (erQs xs) i = erQ (gd xs i) := gd_map _ h
end Go.Proofs.YthhjapiggekjbaaGreat
namespace Go.Proofs.YthhjapiggekjbaaGreat
set_option linter.unusedVariables false
set_option linter.unusedSimpArgs false
open Go
set_option maxRecDepth 20000
set_option maxHeartbeats 1000000
set_option linter.unusedSimpArgs false
variable {G : Gh} {L : List Ch} {R : Value → Gh → List Ch → Prop}
theorem gb_zip2 {f : Bool → Bool → Bool} {a b : List Bool} (ha : a.length = 6400) (hb : b.length = 6400) {y x : Nat} (hy : y < 80) (hx : x < 80) : gb (zipB f a b) y x = f (gb a y x) (gb b y x) := by
  unfold gb; rw [zipB_gd (by omega) (by omega)]
def diffAny (E : List (Int × (Int × List Rect))) (y x : Nat) : Bool := E.any fun q => decide (q.2.1 = 0) && gb (bits q.2.2) y x
def crB (E : List (Int × (Int × List Rect))) (P : List Bool) : List Bool := (List.range 6400).map fun j => diffAny E (j / 80) (j % 80) && gb P (j / 80) (j % 80)
theorem crB_len (E : List (Int × (Int × List Rect))) (P : List Bool) : (crB E P).length = 6400 := by simp [crB]
noncomputable def crL (cs : List ECell) (cell : Int) : List Rect := bif decide (shE cs cell = 0) then canon (crB (ppAll cs cell) (bits (gd (flyL cs cell) 1))) else []
theorem fly_reg {cs : List ECell} {cell : Int} (h : shE cs cell = 0) : (flyL cs cell).length = 8 ∧ isReg (gd (flyL cs cell) 1) = true := by
  have e : flyL cs cell = layL (shR cs cell) := by rw [flyL, decide_eq_true h]; rfl
  rw [e, layL_len, layL_gd (by omega)]
  exact ⟨rfl, isReg_canon (bits_length _)⟩
theorem placed_reg {cs : List ECell} {os : List EOcc} {n : Nat} {qs : List PPiece} (h : erQs qs = plTo cs os n) {i : Nat} (hi : i < qs.length) : isReg (gd qs i).piece.reg.xs = true := by
  have hm : erQ (gd qs i) ∈ plTo cs os n := by rw [← h, erQs]; exact List.mem_map.2 ⟨_, gd_mem hi, rfl⟩
  rw [plTo] at hm
  obtain ⟨j, -, hm⟩ := List.mem_flatMap.1 hm
  obtain ⟨p, -, hp⟩ := List.mem_map.1 hm
  have e : (gd qs i).piece.reg.xs = canon (bits (p.2.map (moveR (gd os j).place))) := by
    have := congrArg (fun q => q.2.2) hp
    exact this.symm
  rw [e]; exact isReg_canon (bits_length _)
end Go.Proofs.YthhjapiggekjbaaGreat
namespace Go.Proofs.YthhjapiggekjbaaGreat
set_option linter.unusedVariables false
set_option linter.unusedSimpArgs false
open Go
set_option maxRecDepth 20000
set_option maxHeartbeats 1000000
set_option linter.unusedSimpArgs false
variable {G : Gh} {L : List Ch} {R : Value → Gh → List Ch → Prop}
def othTo (ps : List Plc) (i k : Nat) (y x : Nat) : Bool := (List.range k).any fun j => decide (j ≠ i) && gb (bits (gd ps j).poly.xs) y x
def pcCr (ps : List Plc) (i : Nat) (p : Piece) (k : Nat) (y x : Nat) : Bool := decide (p.layer = 0) && (gb (bits p.reg.xs) y x && othTo ps i k y x)
def atTo (ps : List Plc) (i m : Nat) (y x : Nat) : Bool := ((gd ps i).pieces.xs.take m).any fun p => pcCr ps i p ps.length y x
def crTo (ps : List Plc) (i : Nat) (y x : Nat) : Bool := (List.range i).any fun j => atTo ps j (gd ps j).pieces.xs.length y x
theorem crTo_succ (ps : List Plc) (i y x : Nat) : crTo ps (i + 1) y x = (crTo ps i y x || atTo ps i (gd ps i).pieces.xs.length y x) := by simp [crTo, List.range_succ]
theorem othTo_succ (ps : List Plc) (i k y x : Nat) : othTo ps i (k + 1) y x = (othTo ps i k y x || (decide (k ≠ i) && gb (bits (gd ps k).poly.xs) y x)) := by simp [othTo, List.range_succ]
theorem atTo_succ {ps : List Plc} {i m : Nat} (h : m < (gd ps i).pieces.xs.length) (y x : Nat) : atTo ps i (m + 1) y x = (atTo ps i m y x || pcCr ps i (gd (gd ps i).pieces.xs m) ps.length y x) := by
  simp only [atTo, List.take_add_one, getG h, List.any_append]; simp
def anyF (zs : List (Sl Rect)) (y x : Nat) : Bool := (er zs).flatten.any fun r => inR r y x
theorem anyF_new {zs : List (Sl Rect)} {u : Value} {az bs : List Rect} (ha : isReg az = true) (hb : isReg bs = true) {y x : Nat} (hy : y < 80) (hx : x < 80) : anyF (zs ++ [⟨u, opR (fun p q => p && q) az bs⟩]) y x = (anyF zs y x || (gb (bits az) y x && gb (bits bs) y x)) := by
  have e : opR (fun p q => p && q) az bs = canon (zipB (fun p q => p && q) (bits az) (bits bs)) := by rw [opR, ha, hb]; rfl
  have e2 : (er (zs ++ [(⟨u, opR (fun p q => p && q) az bs⟩ : Sl Rect)])).flatten = (er zs).flatten ++ opR (fun p q => p && q) az bs := by simp [er]
  rw [anyF, e2, List.any_append, e, canon_any hy hx, gb_zip2 (bits_length _) (bits_length _) hy hx]; rfl
theorem cross_i {v : Value} {ps : List Plc} (h1 : Rs G L plcT v ps) (hp : RsE G L pieceT (pcsL ps)) (hq : RsE G L rectT (plsL ps)) (hr : RsE G L rectT (rgsL ps)) (hl : ps.length ≤ 200) (hl2 : ∀ i, i < ps.length → (gd ps i).pieces.xs.length ≤ 25600) (hg1 : ∀ i, i < ps.length → isReg (gd ps i).poly.xs = true) (hg2 : ∀ i, i < ps.length → ∀ m, m < (gd ps i).pieces.xs.length → isReg (gd (gd ps i).pieces.xs m).reg.xs = true)
    (k : ∀ v' zs, (∀ y x, y < 80 → x < 80 → anyF zs y x = crTo ps ps.length y x) → R v' G (osl 140 rectT v' (canon (bits (er zs).flatten)) :: L)) : CallT Tryz.prog 48 #[v] G L R := by
  refine CallT.bd h1 fun hbz => ?_
  refine CallT.enter (args := _) Tryz.func48 rfl rfl (by kernel_rfl) rfl ?_
  refine WP.seq ?_
  refine WP.region ?_
  refine RG.pv rfl (PV.asg rfl rfl) ?_
  refine RG.nil ?_
  refine WP.seq ?_
  refine WP.region ?_
  refine RG.ot rfl (OT.bslice (F := (slT (α := Rect))) (els := []) rfl El47 rfl (by decide) rfl (by decide) trivial fun v10 => ?_)
  refine RG.pv rfl (PV.asg (v := v10) rfl rfl) ?_
  refine RG.nil ?_
  refine WP.seq ?_
  refine WP.seq ?_
  refine WP.region ?_
  refine RG.pv rfl (PV.move (v := v) rfl rfl) ?_
  refine RG.pv rfl (PV.len (v := v) rfl Tryz.underlying87 rfl (SlF.r h1)) ?_
  refine RG.pv rfl (PV.mvI (.inl rfl) rfl) ?_
  refine RG.nil ?_
  refine WP.block ?_
  refine WP.cv (Cv.cons (Cv.bag0 (e := 140) (F := rectT) (xs := []) rfl)) ?_
  refine WP.loop3 [0, 11, 12] (fun (i : Nat) (zs : List (Sl Rect)) (q : Value) => i ≤ ps.length ∧ (∀ y x, y < 80 → x < 80 → anyF zs y x = crTo ps i y x) ∧ (zs.length : Int) ≤ 5120000 * (i : Int)) (fun (i : Nat) (zs : List (Sl Rect)) (q : Value) => [(13, vi i), (3, q)]) (fun (i : Nat) (zs : List (Sl Rect)) (q : Value) => osl 50 slT q zs :: bagS 140 rectT zs :: L) (fun (i : Nat) (zs : List (Sl Rect)) (q : Value) => ps.length - i) 0 [] v10 ⟨by omega, fun y x _ _ => by simp [anyF, er, crTo], by simp⟩ ⟨rfl, rfl, trivial⟩ Cv.p ?_
  rintro i zs q τ ⟨hi, hz, hzl⟩
  refine WP.seq ?_
  refine WP.region ?_
  refine RG.pv rfl (PV.lss rfl rfl rfl) ?_
  refine RG.nil ?_
  refine WP.seq ?_
  refine WP.cond rfl (fun h2 => ?_) (fun h2 => ?_)
  · have h2 := of_decide_eq_true h2
    have h3 : i < ps.length := by omega
    have hpp : Rs G L pieceT (gd ps i).pieces.v (gd ps i).pieces.xs := hp.mem (List.mem_map.2 ⟨gd ps i, gd_mem h3, rfl⟩)
    have hqq : Rs G L rectT (gd ps i).poly.v (gd ps i).poly.xs := hq.mem (List.mem_map.2 ⟨gd ps i, gd_mem h3, rfl⟩)
    have hpl := hl2 i h3
    refine WP.skip ?_
    refine WP.seq ?_
    refine WP.block ?_
    refine WP.seq ?_
    refine WP.region ?_
    refine RG.pv rfl (PV.mvI (.inl rfl) rfl) ?_
    refine RG.pv rfl (PV.idxS (v := v) rfl Is87 rfl (SlF.r h1) rfl rfl (by omega)) ?_
    refine RG.pv rfl (PV.loadE rfl Ag152 rfl rfl (El.r h1 (getG (by omega)))) ?_
    refine RG.ot rfl (OT.alloc rfl Zr152 fun b5 => ?_)
    refine RG.pv rfl (PV.mvI (.inr rfl) rfl) ?_
    refine RG.ot rfl (OT.storeW (vs := [_, _]) rfl Sz152 rfl rfl (Cl.c rfl) rfl rfl (OneC.sl (SlF.r hpp) (OneC.sl (SlF.r hqq) OneC.nil)) ?_)
    refine RG.nil ?_
    refine WP.seq ?_
    refine WP.region ?_
    refine RG.pv rfl (PV.field rfl Fo152_0 rfl) ?_
    refine RG.pv rfl (PV.load1 rfl Sc78 rfl (Rd.blk rfl)) ?_
    refine RG.pv rfl (PV.len rfl Tryz.underlying78 rfl (SlF.r hpp)) ?_
    refine RG.pv rfl (PV.mvI (.inl rfl) rfl) ?_
    refine RG.nil ?_
    refine WP.block ?_
    refine WP.loop3 [0, 4, 11, 12, 13, 19, 20] (fun (m : Nat) (zs : List (Sl Rect)) (w : Value) => m ≤ (gd ps i).pieces.xs.length ∧ (∀ y x, y < 80 → x < 80 → anyF zs y x = (crTo ps i y x || atTo ps i m y x)) ∧ (zs.length : Int) ≤ 5120000 * (i : Int) + 200 * (m : Int)) (fun (m : Nat) (zs : List (Sl Rect)) (w : Value) => [(21, vi m), (3, w)]) (fun (m : Nat) (zs : List (Sl Rect)) (w : Value) => osl 50 slT w zs :: bagS 140 rectT zs :: blk b5 152 (plcT.enc (gd ps i)) :: L) (fun (m : Nat) (zs : List (Sl Rect)) (w : Value) => (gd ps i).pieces.xs.length - m) 0 zs q ⟨by omega, fun y x a b => by rw [hz y x a b]; simp [atTo], by omega⟩ ⟨rfl, rfl, trivial⟩ Cv.p ?_
    rintro m zs w τ1 ⟨hm, hz, hzm⟩
    refine WP.seq ?_
    refine WP.region ?_
    refine RG.pv rfl (PV.lss rfl rfl rfl) ?_
    refine RG.nil ?_
    refine WP.seq ?_
    refine WP.cond rfl (fun h4 => ?_) (fun h4 => ?_)
    · have h4 := of_decide_eq_true h4
      have h5 : m < (gd ps i).pieces.xs.length := by omega
      have hrr : Rs G L rectT (gd (gd ps i).pieces.xs m).reg.v (gd (gd ps i).pieces.xs m).reg.xs := hr.mem (List.mem_flatMap.2 ⟨gd ps i, gd_mem h3, List.mem_map.2 ⟨_, gd_mem h5, rfl⟩⟩)
      have hat := fun y x => atTo_succ h5 y x
      refine WP.skip ?_
      refine WP.seq ?_
      refine WP.block ?_
      refine WP.seq ?_
      refine WP.region ?_
      refine RG.pv rfl (PV.idxS rfl Is78 rfl (SlF.r hpp) rfl rfl (by omega)) ?_
      refine RG.pv rfl (PV.loadE rfl Ag63 rfl rfl (El.r hpp (getG (by omega)))) ?_
      refine RG.ot rfl (OT.alloc rfl Zr63 fun b7 => ?_)
      refine RG.ot rfl (OT.storeW (vs := [vi _, _]) rfl Sz63 rfl rfl (Cl.c rfl) rfl rfl (OneC.val rfl (OneC.sl (SlF.r hrr) OneC.nil)) ?_)
      refine RG.nil ?_
      refine WP.seq ?_
      refine WP.seq ?_
      refine WP.region ?_
      refine RG.pv rfl (PV.field rfl Fo63_0 rfl) ?_
      refine RG.pv rfl (PV.load1 rfl Sc2 rfl (Rd.blk rfl)) ?_
      refine RG.pv rfl (PV.neq rfl rfl rfl) ?_
      refine RG.nil ?_
      refine WP.cond rfl (fun h6 => ?_) (fun h6 => ?_)
      · have h6 : (gd (gd ps i).pieces.xs m).layer ≠ 0 := by simpa using h6
        refine WP.exit ?_
        refine WP.region ?_
        refine RG.pv rfl (PV.add rfl rfl rfl (by omega)) ?_
        refine RG.pv rfl (PV.mvI (.inl rfl) rfl) ?_
        refine RG.nil ?_
        exact ⟨rfl, m + 1, zs, w, ⟨by omega, fun y x a b => by rw [hz y x a b, hat, pcCr, decide_eq_false h6]; simp, by omega⟩, ⟨rfl, rfl, trivial⟩, ⟨rfl, rfl, rfl, rfl, rfl, rfl, rfl, trivial⟩, Cv.p, by omega⟩
      · have h6 : (gd (gd ps i).pieces.xs m).layer = 0 := by simpa using h6
        refine WP.skip ?_
        refine WP.seq ?_
        refine WP.region ?_
        refine RG.pv rfl (PV.move (v := v) rfl rfl) ?_
        refine RG.pv rfl (PV.len (v := v) rfl Tryz.underlying87 rfl (SlF.r h1)) ?_
        refine RG.pv rfl (PV.mvI (.inl rfl) rfl) ?_
        refine RG.nil ?_
        refine WP.block ?_
        refine WP.loop3 [0, 4, 7, 11, 12, 13, 19, 20, 21, 28, 29] (fun (c : Nat) (zs : List (Sl Rect)) (u : Value) => c ≤ ps.length ∧ (∀ y x, y < 80 → x < 80 → anyF zs y x = (crTo ps i y x || atTo ps i m y x || pcCr ps i (gd (gd ps i).pieces.xs m) c y x)) ∧ (zs.length : Int) ≤ 5120000 * (i : Int) + 200 * (m : Int) + c) (fun (c : Nat) (zs : List (Sl Rect)) (u : Value) => [(30, vi c), (3, u)]) (fun (c : Nat) (zs : List (Sl Rect)) (u : Value) => osl 50 slT u zs :: bagS 140 rectT zs :: blk b7 63 (pieceT.enc (gd (gd ps i).pieces.xs m)) :: blk b5 152 (plcT.enc (gd ps i)) :: L) (fun (c : Nat) (zs : List (Sl Rect)) (u : Value) => ps.length - c) 0 zs w ⟨by omega, fun y x a b => by rw [hz y x a b]; simp [pcCr, othTo], by omega⟩ ⟨rfl, rfl, trivial⟩ Cv.p ?_
        rintro c zs u τ2 ⟨hc, hz, hzc⟩
        refine WP.seq ?_
        refine WP.region ?_
        refine RG.pv rfl (PV.lss rfl rfl rfl) ?_
        refine RG.nil ?_
        refine WP.seq ?_
        refine WP.cond rfl (fun h7 => ?_) (fun h7 => ?_)
        · have h7 := of_decide_eq_true h7
          have h8 : c < ps.length := by omega
          have hpk : Rs G L pieceT (gd ps c).pieces.v (gd ps c).pieces.xs := hp.mem (List.mem_map.2 ⟨gd ps c, gd_mem h8, rfl⟩)
          have hqk : Rs G L rectT (gd ps c).poly.v (gd ps c).poly.xs := hq.mem (List.mem_map.2 ⟨gd ps c, gd_mem h8, rfl⟩)
          refine WP.skip ?_
          refine WP.seq ?_
          refine WP.block ?_
          refine WP.seq ?_
          refine WP.region ?_
          refine RG.pv rfl (PV.mvI (.inl rfl) rfl) ?_
          refine RG.pv rfl (PV.idxS (v := v) rfl Is87 rfl (SlF.r h1) rfl rfl (by omega)) ?_
          refine RG.pv rfl (PV.loadE rfl Ag152 rfl rfl (El.r h1 (getG (by omega)))) ?_
          refine RG.ot rfl (OT.alloc rfl Zr152 fun b9 => ?_)
          refine RG.pv rfl (PV.mvI (.inr rfl) rfl) ?_
          refine RG.ot rfl (OT.storeW (vs := [_, _]) rfl Sz152 rfl rfl (Cl.c rfl) rfl rfl (OneC.sl (SlF.r hpk) (OneC.sl (SlF.r hqk) OneC.nil)) ?_)
          refine RG.nil ?_
          refine WP.seq ?_
          refine WP.region ?_
          refine RG.pv rfl (PV.mvI (.inl rfl) rfl) ?_
          refine RG.pv rfl (PV.mvI (.inl rfl) rfl) ?_
          refine RG.pv rfl (PV.neq rfl rfl rfl) ?_
          refine RG.nil ?_
          refine WP.cond rfl (fun h9 => ?_) (fun h9 => ?_)
          · have h9 : c ≠ i := by simp at h9; omega
            refine WP.region ?_
            refine RG.pv rfl (PV.move (v := u) rfl rfl) ?_
            refine RG.pv rfl (PV.field rfl Fo63_1 rfl) ?_
            refine RG.pv rfl (PV.load1 rfl Sc50 rfl (Rd.blk rfl)) ?_
            refine RG.pv rfl (PV.field rfl Fo152_1 rfl) ?_
            refine RG.pv rfl (PV.load1 rfl Sc50 rfl (Rd.blk rfl)) ?_
            refine RG.callF (vs := [_, _]) rfl rfl En88 rfl (inter_s hrr.up hqk.up (fun v43 => ?_))
            refine RG.ot rfl (OT.bslice (F := (slT (α := Rect))) (els := [⟨v43, opR (fun p q => p && q) (gd (gd ps i).pieces.xs m).reg.xs (gd ps c).poly.xs⟩]) rfl El47 rfl (by decide) rfl (by decide) ⟨rfl, (Cl.s (v := v43) SlF.o), trivial⟩ fun v44 => ?_)
            refine RG.ot rfl (OT.append (v := u) (u := v44) (F := (slT (α := Rect))) rfl El47 rfl (by decide) rfl rfl Rs.o (OneL.one (OneC.sl (SlF.o (v := v43)) OneC.nil)) rfl (by first | omega | (simp <;> omega)) fun v45 => ?_)
            refine RG.pv rfl (PV.asg (v := v45) rfl rfl) ?_
            refine RG.nil ?_
            refine WP.region ?_
            refine RG.pv rfl (PV.add rfl rfl rfl (by omega)) ?_
            refine RG.pv rfl (PV.mvI (.inl rfl) rfl) ?_
            refine RG.nil ?_
            refine ⟨rfl, c + 1, (zs ++ [⟨v43, opR (fun p q => p && q) (gd (gd ps i).pieces.xs m).reg.xs (gd ps c).poly.xs⟩]), v45, ⟨by omega, fun y x a b => ?_, by rw [List.length_append]; simp; omega⟩, ⟨rfl, rfl, trivial⟩, ⟨rfl, rfl, rfl, rfl, rfl, rfl, rfl, rfl, rfl, rfl, rfl, trivial⟩, ((Cv.p (C := osl 140 rectT v43 (opR (fun p q => p && q) (gd (gd ps i).pieces.xs m).reg.xs (gd ps c).poly.xs) :: osl 50 slT v45 (zs ++ [⟨v43, opR (fun p q => p && q) (gd (gd ps i).pieces.xs m).reg.xs (gd ps c).poly.xs⟩]) :: bagS 140 rectT zs :: blk b7 63 (pieceT.enc (gd (gd ps i).pieces.xs m)) :: blk b5 152 (plcT.enc (gd ps i)) :: L)).trans Cv.slotNew), by omega⟩
            rw [anyF_new (hg2 i h3 m h5) (hg1 c h8) a b, hz y x a b, pcCr, pcCr, othTo_succ, decide_eq_true h9, decide_eq_true h6]
            cases gb (bits (gd (gd ps i).pieces.xs m).reg.xs) y x <;> cases gb (bits (gd ps c).poly.xs) y x <;> simp
          · have h9 : c = i := by simp at h9; omega
            refine WP.skip ?_
            refine WP.region ?_
            refine RG.pv rfl (PV.add rfl rfl rfl (by omega)) ?_
            refine RG.pv rfl (PV.mvI (.inl rfl) rfl) ?_
            refine RG.nil ?_
            refine ⟨rfl, c + 1, zs, u, ⟨by omega, fun y x a b => ?_, by omega⟩, ⟨rfl, rfl, trivial⟩, ⟨rfl, rfl, rfl, rfl, rfl, rfl, rfl, rfl, rfl, rfl, rfl, trivial⟩, Cv.p, by omega⟩
            rw [hz y x a b, pcCr, pcCr, othTo_succ, h9]
            simp
        · have h7 := of_decide_eq_false h7
          obtain rfl : c = ps.length := by omega
          refine WP.exit ?_
          refine WP.region ?_
          refine RG.pv rfl (PV.add rfl rfl rfl (by omega)) ?_
          refine RG.pv rfl (PV.mvI (.inl rfl) rfl) ?_
          refine RG.nil ?_
          exact ⟨rfl, m + 1, zs, u, ⟨by omega, fun y x a b => by rw [hz y x a b, hat, Bool.or_assoc], by omega⟩, ⟨rfl, rfl, trivial⟩, ⟨rfl, rfl, rfl, rfl, rfl, rfl, rfl, trivial⟩, Cv.p, by omega⟩
    · have h4 := of_decide_eq_false h4
      obtain rfl : m = (gd ps i).pieces.xs.length := by omega
      refine WP.exit ?_
      refine WP.region ?_
      refine RG.pv rfl (PV.add rfl rfl rfl (by omega)) ?_
      refine RG.pv rfl (PV.mvI (.inl rfl) rfl) ?_
      refine RG.nil ?_
      exact ⟨rfl, i + 1, zs, w, ⟨by omega, fun y x a b => by rw [hz y x a b, crTo_succ], by omega⟩, ⟨rfl, rfl, trivial⟩, ⟨rfl, rfl, rfl, trivial⟩, Cv.p, by omega⟩
  · have h2 := of_decide_eq_false h2
    obtain rfl : i = ps.length := by omega
    refine WP.exit ?_
    refine WP.seq ?_
    refine WP.region ?_
    refine RG.pv rfl (PV.move (v := q) rfl rfl) ?_
    refine RG.callF (vs := [q]) rfl rfl En74 rfl (unionAll_s Rs.o RsE.o (fun v50 => ?_))
    refine RG.pv rfl (PV.asg (v := v50) rfl rfl) ?_
    refine RG.nil ?_
    refine WP.ret ?_
    exact ⟨_, _, ResV.one rfl rfl, Cv.p, k v50 zs hz⟩
end Go.Proofs.YthhjapiggekjbaaGreat
namespace Go.Proofs.YthhjapiggekjbaaGreat
set_option linter.unusedVariables false
set_option linter.unusedSimpArgs false
open Go
set_option maxRecDepth 20000
set_option maxHeartbeats 1000000
set_option linter.unusedSimpArgs false
variable {G : Gh} {L : List Ch} {R : Value → Gh → List Ch → Prop}
theorem gb_crB {E : List (Int × (Int × List Rect))} {P : List Bool} {y x : Nat} (hy : y < 80) (hx : x < 80) : gb (crB E P) y x = (diffAny E y x && gb P y x) := by
  have hj : y * 80 + x < 6400 := by omega
  unfold crB gb
  rw [gd_map _ (by simpa using hj), range_gd hj, show (y * 80 + x) / 80 = y by omega, show (y * 80 + x) % 80 = x by omega]
theorem pc_mem2 {l : List (List Rect)} {p : Int × List Rect} (h : p ∈ pcE l) : ∃ i c, i < 4 ∧ c ∈ comps (gd (condB l) i) ∧ p.2 = canon c ∧ p.1 = gd [0, 1, 3, 5] i := by
  rw [pcE] at h
  cases hl : isLay l with
  | false => rw [hl] at h; simp at h
  | true =>
    rw [hl, cond_true] at h
    obtain ⟨q, hq, rfl⟩ := List.mem_map.1 h
    rw [pcL] at hq
    obtain ⟨z, hz, hq⟩ := List.mem_flatten.1 hq
    obtain ⟨i, hi, rfl⟩ := List.mem_map.1 hz
    obtain ⟨c, hc, rfl⟩ := List.mem_map.1 hq
    exact ⟨i, c, by simpa using hi, hc, rfl, rfl⟩
/-- a piece of diffusion has no cell of the poly -/
theorem pc_apart {ss : List Shape} {p : Int × List Rect} (h : p ∈ pcE (layL ss)) (h0 : p.1 = 0) {y x : Nat} (hy : y < 80) (hx : x < 80) (hg : gb (bits p.2) y x = true) : gb (bits (gd (layL ss) 1)) y x = false := by
  obtain ⟨i, c, hi, hc, e, e1⟩ := pc_mem2 h
  obtain ⟨g0, g1, g2, g3⟩ := gd4 (0 : Int) 1 3 5
  have hi0 : i = 0 := by
    have hh : i = 0 ∨ i = 1 ∨ i = 2 ∨ i = 3 := by omega
    rcases hh with rfl | rfl | rfl | rfl
    · rfl
    · rw [h0, g1] at e1; cases e1
    · rw [h0, g2] at e1; cases e1
    · rw [h0, g3] at e1; cases e1
  subst hi0
  rw [e, bits_canon (comps_mem hc)] at hg
  have hs := comp_sub hc hy hx hg
  obtain ⟨e0, -, -, -⟩ := gd4 (zipB (fun p q => p && !q) (bits (gd (layL ss) 0)) (bits (gd (layL ss) 1))) (bits (gd (layL ss) 1)) (bits (gd (layL ss) 3)) (bits (gd (layL ss) 5))
  rw [condB, e0, gb_zip2 (bits_length _) (bits_length _) hy hx] at hs
  simp only [Bool.and_eq_true, Bool.not_eq_true'] at hs
  exact hs.2
theorem lay_reg {ss : List Shape} {l : Nat} (h : l < 8) : isReg (gd (layL ss) l) = true := by rw [layL_gd h]; exact isReg_canon (bits_length _)
/-- .. nor has it, moved, a cell of the moved poly -/
theorem pc_apart_mv {ss : List Shape} {t : Trans} (ho : 0 ≤ t.o ∧ t.o ≤ 7) {p : Int × List Rect} (h : p ∈ pcE (layL ss)) (h0 : p.1 = 0) {y x : Nat} (hy : y < 80) (hx : x < 80) (hg : gb (bits (mvP t p).2) y x = true) : gb (bits (canon (bits ((gd (layL ss) 1).map (moveR t))))) y x = false := by
  rw [bits_canon (bits_length _)]
  rw [mvP, bits_canon (bits_length _)] at hg
  exact mv_disj ho (reg_valid (pc_reg h)) (reg_valid (lay_reg (by omega))) (fun y x hy hx hg => pc_apart h h0 hy hx hg) hy hx hg
theorem occ_facts {cs : List ECell} {cell : Int} {j : Nat} (hj : j < (occR cs cell).length) : (0 ≤ (gd (occR cs cell) j).place.o ∧ (gd (occR cs cell) j).place.o ≤ 7) ∧ ∀ b ∈ boxesOf (gd cs (gd (occR cs cell) j).cell.toNat).shapes 1, validRect b = true := by
  obtain ⟨h1, h2, h3, -⟩ := occR_cell hj
  refine ⟨(validT_iff.1 h3).1, fun b hb => ?_⟩
  obtain ⟨m, hm, rfl⟩ := boxesOf_sub hb
  have := okLib_shape h1 (i := (gd (occR cs cell) j).cell.toNat) (j := m) (by omega) hm
  simp only [okSh, Bool.and_eq_true] at this
  exact this.2
theorem poly_gb {cs : List ECell} {cell : Int} {j : Nat} (hj : j < (occR cs cell).length) : bits (plPoly cs (occR cs cell) j) = bits ((boxesOf (gd cs (gd (occR cs cell) j).cell.toNat).shapes 1).map (moveR (gd (occR cs cell) j).place)) := by
  obtain ⟨ho, hb⟩ := occ_facts hj
  rw [plPoly, bits_canon (bits_length _)]
  exact mv_congr ho (reg_valid (lay_reg (by omega))) hb (lay_bits (by omega))
theorem flat_poly {cs : List ECell} {cell : Int} (h0 : shE cs cell = 0) {y x : Nat} (hy : y < 80) (hx : x < 80) : gb (bits (gd (flyL cs cell) 1)) y x = (List.range (occR cs cell).length).any fun j => gb (bits (plPoly cs (occR cs cell) j)) y x := by
  have e : flyL cs cell = layL (flatL cs (occR cs cell)) := by rw [flyL, decide_eq_true h0, shR_ok h0]; rfl
  rw [e, lay_bits (by omega), Bool.eq_iff_iff, gb_bits_iff hy hx, List.any_eq_true]
  constructor
  · rintro ⟨r, hr, hi⟩
    rw [boxesOf] at hr
    obtain ⟨s, hs, rfl⟩ := List.mem_map.1 hr
    obtain ⟨hs1, hs2⟩ := List.mem_filter.1 hs
    obtain ⟨o, ho, hs1⟩ := List.mem_flatMap.1 hs1
    obtain ⟨j, hj, rfl⟩ := List.getElem_of_mem ho
    obtain ⟨q, hq, rfl⟩ := List.mem_map.1 hs1
    refine ⟨j, List.mem_range.2 hj, ?_⟩
    rw [poly_gb hj, gb_bits_iff hy hx]
    refine ⟨moveR (gd (occR cs cell) j).place q.box, List.mem_map.2 ⟨q.box, ?_, rfl⟩, ?_⟩
    · rw [boxesOf]
      exact List.mem_map.2 ⟨q, List.mem_filter.2 ⟨by rw [gd_eq hj]; exact hq, hs2⟩, rfl⟩
    · rw [gd_eq hj]; exact hi
  · rintro ⟨j, hj, hg⟩
    have hj := List.mem_range.1 hj
    rw [poly_gb hj, gb_bits_iff hy hx] at hg
    obtain ⟨r, hr, hi⟩ := hg
    obtain ⟨b, hb, rfl⟩ := List.mem_map.1 hr
    rw [boxesOf] at hb
    obtain ⟨q, hq, rfl⟩ := List.mem_map.1 hb
    obtain ⟨hq1, hq2⟩ := List.mem_filter.1 hq
    refine ⟨_, ?_, hi⟩
    rw [boxesOf]
    refine List.mem_map.2 ⟨⟨q.layer, moveR (gd (occR cs cell) j).place q.box⟩, List.mem_filter.2 ⟨List.mem_flatMap.2 ⟨gd (occR cs cell) j, gd_mem hj, List.mem_map.2 ⟨q, hq1, rfl⟩⟩, hq2⟩, rfl⟩
theorem ownP_mem {cs : List ECell} {c : Int} {q : Int × List Rect} (h : q ∈ ownP cs c) : q ∈ pcE (layL (gd cs c.toNat).shapes) := by
  rw [ownP] at h
  cases hh : hasCl cs c with
  | false => rw [hh] at h; cases h
  | true => rw [hh] at h; exact h
theorem erL_at {cs : List ECell} {os : List EOcc} {n : Nat} {ps : List Plc} (h : erL ps = plcTo cs os n) : ps.length = n ∧ ∀ i, i < n → erPs (gd ps i).pieces.xs = plPc cs os i ∧ (gd ps i).poly.xs = plPoly cs os i := by
  have hl : ps.length = n := by have := congrArg List.length h; simpa [erL, plcTo] using this
  refine ⟨hl, fun i hi => ?_⟩
  have h1 : gd (erL ps) i = (plPc cs os i, plPoly cs os i) := by rw [h, plcTo, gd_map _ (by rw [List.length_range]; omega), range_gd (by omega)]
  rw [erL, gd_map _ (by omega)] at h1
  exact ⟨congrArg Prod.fst h1, congrArg Prod.snd h1⟩
theorem cross_eq {cs : List ECell} {cell : Int} {ps : List Plc} (h0 : shE cs cell = 0) (he : erL ps = plcTo cs (occR cs cell) (occR cs cell).length) {y x : Nat} (hy : y < 80) (hx : x < 80) : crTo ps ps.length y x = (diffAny (ppAll cs cell) y x && gb (bits (gd (flyL cs cell) 1)) y x) := by
  obtain ⟨hl, hat⟩ := erL_at he
  rw [flat_poly h0 hy hx, Bool.eq_iff_iff, Bool.and_eq_true, crTo, diffAny, List.any_eq_true, List.any_eq_true, List.any_eq_true]
  constructor
  · rintro ⟨i, hi, h⟩
    have hi := List.mem_range.1 hi
    obtain ⟨e1, -⟩ := hat i (by omega)
    rw [atTo, List.take_length, List.any_eq_true] at h
    obtain ⟨p, hp, h⟩ := h
    simp only [pcCr, Bool.and_eq_true, othTo, List.any_eq_true] at h
    obtain ⟨ha, hb, j, hj, hc, hd⟩ := h
    have hj := List.mem_range.1 hj
    obtain ⟨-, e2⟩ := hat j (by omega)
    have hm : erP p ∈ plPc cs (occR cs cell) i := by rw [← e1, erPs]; exact List.mem_map.2 ⟨p, hp, rfl⟩
    rw [plPc] at hm
    obtain ⟨q, hq, hqe⟩ := List.mem_map.1 hm
    refine ⟨⟨((i : Int), erP p), ?_, ?_⟩, j, List.mem_range.2 (by omega), by rw [← e2]; exact hd⟩
    · rw [ppAll, plTo]
      exact List.mem_flatMap.2 ⟨i, List.mem_range.2 (by omega), List.mem_map.2 ⟨q, hq, by rw [hqe]⟩⟩
    · simp only [erP, Bool.and_eq_true]; exact ⟨ha, hb⟩
  · rintro ⟨⟨e, hm, h⟩, j, hj, hd⟩
    have hj := List.mem_range.1 hj
    rw [ppAll, plTo] at hm
    obtain ⟨i, hi, hm⟩ := List.mem_flatMap.1 hm
    have hi := List.mem_range.1 hi
    obtain ⟨q, hq, rfl⟩ := List.mem_map.1 hm
    simp only [Bool.and_eq_true, decide_eq_true_eq] at h
    obtain ⟨e1, -⟩ := hat i hi
    obtain ⟨-, e2⟩ := hat j hj
    have hpe : mvP (gd (occR cs cell) i).place q ∈ erPs (gd ps i).pieces.xs := by rw [e1, plPc]; exact List.mem_map.2 ⟨q, hq, rfl⟩
    rw [erPs] at hpe
    obtain ⟨p, hp, hpq⟩ := List.mem_map.1 hpe
    have hne : j ≠ i := fun hji => by
      subst hji
      obtain ⟨ho, -⟩ := occ_facts hj
      have := pc_apart_mv ho (ownP_mem hq) h.1 hy hx h.2
      rw [plPoly] at hd
      rw [this] at hd; cases hd
    refine ⟨i, List.mem_range.2 (by omega), ?_⟩
    rw [atTo, List.take_length, List.any_eq_true]
    refine ⟨p, hp, ?_⟩
    have hp1 : p.layer = (mvP (gd (occR cs cell) i).place q).1 := congrArg Prod.fst hpq
    have hp2 : p.reg.xs = (mvP (gd (occR cs cell) i).place q).2 := congrArg Prod.snd hpq
    simp only [pcCr, Bool.and_eq_true, othTo, List.any_eq_true, decide_eq_true_eq]
    exact ⟨by rw [hp1]; exact h.1, by rw [hp2]; exact h.2, j, List.mem_range.2 (by omega), hne, by rw [e2]; exact hd⟩
theorem cross_fin {cs : List ECell} {cell : Int} {ps : List Plc} {zs : List (Sl Rect)} (h0 : shE cs cell = 0) (he : erL ps = plcTo cs (occR cs cell) (occR cs cell).length) (hz : ∀ y x, y < 80 → x < 80 → anyF zs y x = crTo ps ps.length y x) : canon (bits (er zs).flatten) = crL cs cell := by
  rw [crL, decide_eq_true h0, cond_true]
  congr 1
  refine gb_ext (bits_length _) (crB_len _ _) fun y x hy hx => ?_
  rw [gb_bits' _ hy hx, gb_crB hy hx, ← cross_eq h0 he hy hx, ← hz y x hy hx]; rfl
theorem plPc_facts {cs : List ECell} {os : List EOcc} {i : Nat} {ps : List Piece} (h : erPs ps = plPc cs os i) : ps.length ≤ 25600 ∧ ∀ m, m < ps.length → isReg (gd ps m).reg.xs = true := by
  refine ⟨by rw [← erPs_len, h, plPc, List.length_map]; exact ownP_len _ _, fun m hm => ?_⟩
  have hh : erP (gd ps m) ∈ plPc cs os i := by rw [← h, erPs]; exact List.mem_map.2 ⟨_, gd_mem hm, rfl⟩
  rw [plPc] at hh
  obtain ⟨q, -, hq⟩ := List.mem_map.1 hh
  have e : (gd ps m).reg.xs = (mvP (gd os i).place q).2 := (congrArg Prod.snd hq).symm
  rw [e, mvP]; exact isReg_canon (bits_length _)
end Go.Proofs.YthhjapiggekjbaaGreat
namespace Go.Proofs.YthhjapiggekjbaaGreat
set_option linter.unusedVariables false
set_option linter.unusedSimpArgs false
open Go
set_option linter.unusedSimpArgs false
set_option maxRecDepth 20000
theorem piece_at {l : List (List Rect)} {i : Nat} (hi : i < 4) {y x : Nat} (hy : y < 80) (hx : x < 80) (h : gb (gd (condB l) i) y x = true) :
    ∃ j, j < (pcL l 4).length ∧ (gd (pcL l 4) j).1 = gd [0, 1, 3, 5] i ∧ gb (gd (pcL l 4) j).2 y x = true ∧ ∀ y' x', y' < 80 → x' < 80 → Adj (y, x) (y', x') → gb (gd (condB l) i) y' x' = true → gb (gd (pcL l 4) j).2 y' x' = true := by
  have hc := comps_cover (S := gd (condB l) i) hy hx
  rw [h, List.any_eq_true] at hc
  obtain ⟨c, hc, hg⟩ := hc
  have hm : ((gd [0, 1, 3, 5] i, c) : Int × List Bool) ∈ pcL l 4 := by
    rw [pcL, List.mem_flatten]
    exact ⟨_, List.mem_map.2 ⟨i, List.mem_range.2 hi, rfl⟩, List.mem_map.2 ⟨c, hc, rfl⟩⟩
  obtain ⟨j, hj, e⟩ := List.getElem_of_mem hm
  refine ⟨j, hj, ?_⟩
  rw [gd_eq hj, e]
  refine ⟨rfl, hg, fun y' x' hy' hx' ha hs => ?_⟩
  obtain ⟨j0, _, rfl⟩ := List.mem_map.1 hc
  exact (comp_iff hy' hx').2 (((comp_iff hy hx).1 hg).step ha ⟨hy', hx', hs⟩)
theorem atB_of {n x y : Int} {p : Int × List Bool} (hr : -40 ≤ x ∧ x < 40 ∧ -40 ≤ y ∧ y < 40) (h1 : p.1 = n) (h2 : gb p.2 (y + 40).toNat (x + 40).toNat = true) : atB n x y p = true := by
  rw [atB, cellB_in hr, h2, decide_eq_true h1]; rfl
end Go.Proofs.YthhjapiggekjbaaGreat
namespace Go.Proofs.YthhjapiggekjbaaGreat
set_option linter.unusedVariables false
set_option linter.unusedSimpArgs false
open Go
set_option maxRecDepth 20000
set_option linter.unusedSimpArgs false
/-- a function that the relation keeps is the same at a member and at its class -/
def Snd {β : Type} (f : Nat → β) (c : List Int) : Prop := ∀ j, j < c.length → f (gd c j).toNat = f j
theorem Snd.step {β : Type} {f : Nat → β} {J : Nat → Nat → Bool} {i k : Nat} {c : List Int} (h : Snd f c) (hi : i < c.length) (hk : k < c.length) (hJ : J k i = true → f k = f i) : Snd f (stepJ J i c k) := by
  unfold stepJ
  split
  · exact h
  · rename_i e
    rw [not_or, Bool.not_eq_false] at e
    have hf := hJ e.2
    have h1 := h k hk
    have h2 := h i hi
    intro j hj
    have hj : j < c.length := by simpa using hj
    have h3 := h j hj
    rw [gd_map _ hj, rl]
    by_cases c1 : gd c j = max (gd c k) (gd c i)
    · rw [if_pos c1]
      by_cases c2 : gd c k ≤ gd c i
      · rw [Int.min_eq_left c2, h1, hf]
        rw [Int.max_eq_right c2] at c1
        rw [← h3, c1, h2]
      · have c2 : gd c i ≤ gd c k := by omega
        rw [Int.min_eq_right c2, h2, ← hf]
        rw [Int.max_eq_left c2] at c1
        rw [← h3, c1, h1]
    · rw [if_neg c1]; exact h3
theorem Snd.app {β : Type} {f : Nat → β} {c : List Int} (h : Snd f c) : Snd f (c ++ [(c.length : Int)]) := fun j hj => by
  have hj : j < c.length + 1 := by simpa using hj
  by_cases e : j = c.length
  · subst e; rw [gd_app_r, Int.toNat_natCast]
  · rw [gd_app_l (by omega)]; exact h j (by omega)
theorem Snd.inJ {β : Type} {f : Nat → β} {J : Nat → Nat → Bool} {c : List Int} (h : Snd f c) (hJ : ∀ k, k < c.length → J k c.length = true → f k = f c.length) : ∀ k, k ≤ c.length → Snd f (inJ J c.length c k)
  | 0, _ => by rw [inJ_zero]; exact h.app
  | k + 1, hk => by
    rw [inJ_succ]
    exact (Snd.inJ h hJ k (by omega)).step (by rw [inJ_len]; omega) (by rw [inJ_len]; omega) (hJ k (by omega))
theorem Snd.roots {β : Type} {f : Nat → β} {J : Nat → Nat → Bool} : ∀ n, (∀ k i, k < i → i < n → J k i = true → f k = f i) → Snd f (rootsJ J n)
  | 0, _ => fun j hj => by simp [rootsJ] at hj
  | n + 1, hJ => by
    have := (Snd.roots n fun k i h1 h2 h3 => hJ k i h1 (by omega) h3).inJ (J := J) (by rw [rootsJ_len]; exact fun k hk h => hJ k n hk (by omega) h) n (by rw [rootsJ_len]; omega)
    rw [rootsJ_len] at this; exact this
theorem Snd.of_eq {β : Type} {f : Nat → β} {c : List Int} (h : Snd f c) {a b : Nat} (ha : a < c.length) (hb : b < c.length) (e : gd c a = gd c b) : f a = f b := by
  rw [← h a ha, ← h b hb, e]
theorem numR_inj {cls : List Int} (h : Rt cls) {a b : Nat} (ha : a < cls.length) (hb : b < cls.length) (e : numR cls a = numR cls b) : gd cls a = gd cls b := by
  obtain ⟨a1, a2, a3⟩ := h a ha
  obtain ⟨b1, b2, b3⟩ := h b hb
  unfold numR at e
  rcases Int.lt_trichotomy (gd cls a) (gd cls b) with c | c | c
  · have h1 := cntR_succ cls (gd cls a).toNat
    rw [if_pos (by rw [a3]; omega)] at h1
    have := cntR_mono cls (m := (gd cls a).toNat + 1) (n := (gd cls b).toNat) (by omega)
    omega
  · exact c
  · have h1 := cntR_succ cls (gd cls b).toNat
    rw [if_pos (by rw [b3]; omega)] at h1
    have := cntR_mono cls (m := (gd cls b).toNat + 1) (n := (gd cls a).toNat) (by omega)
    omega
def abutR (a b : Rect) : Bool := validRect a && validRect b && (decide ((cmn a b).x0 = (cmn a b).x1) && decide ((cmn a b).y0 < (cmn a b).y1) || decide ((cmn a b).y0 = (cmn a b).y1) && decide ((cmn a b).x0 < (cmn a b).x1))
def tchR (a b : List Rect) : Bool := a.any fun x => b.any fun y => ovl x y || abutR x y
def Tch (A B : List Bool) : Prop := ∃ a b : Cel, On A a ∧ On B b ∧ (a = b ∨ Adj a b)
theorem tch1 {a b : Rect} (ha : validRect a = true) (hb : validRect b = true) : (ovl a b || abutR a b) = true ↔ ∃ p q : Cel, inR a p.1 p.2 = true ∧ inR b q.1 q.2 = true ∧ (p = q ∨ Adj p q) := by
  simp only [ovl, abutR, ha, hb, Bool.true_and, Bool.or_eq_true, Bool.and_eq_true, decide_eq_true_eq]
  rw [validR_iff] at ha hb
  constructor
  · rintro (h | ⟨h1, h2⟩ | ⟨h1, h2⟩)
    · obtain ⟨y, x, hy, hx, h3⟩ := valid_cell h
      exact ⟨(y, x), (y, x), (inR_cmn.1 h3).1, (inR_cmn.1 h3).2, .inl rfl⟩
    · simp only [cmn] at h1 h2
      by_cases c : a.x1 ≤ b.x0
      · refine ⟨((max a.y0 b.y0 + 40).toNat, (a.x1 + 39).toNat), ((max a.y0 b.y0 + 40).toNat, (b.x0 + 40).toNat), inR_iff.2 (by simp only; omega), inR_iff.2 (by simp only; omega), .inr (.inl ⟨rfl, ?_⟩)⟩
        simp only; omega
      · refine ⟨((max a.y0 b.y0 + 40).toNat, (a.x0 + 40).toNat), ((max a.y0 b.y0 + 40).toNat, (b.x1 + 39).toNat), inR_iff.2 (by simp only; omega), inR_iff.2 (by simp only; omega), .inr (.inl ⟨rfl, ?_⟩)⟩
        simp only; omega
    · simp only [cmn] at h1 h2
      by_cases c : a.y1 ≤ b.y0
      · refine ⟨((a.y1 + 39).toNat, (max a.x0 b.x0 + 40).toNat), ((b.y0 + 40).toNat, (max a.x0 b.x0 + 40).toNat), inR_iff.2 (by simp only; omega), inR_iff.2 (by simp only; omega), .inr (.inr ⟨rfl, ?_⟩)⟩
        simp only; omega
      · refine ⟨((a.y0 + 40).toNat, (max a.x0 b.x0 + 40).toNat), ((b.y1 + 39).toNat, (max a.x0 b.x0 + 40).toNat), inR_iff.2 (by simp only; omega), inR_iff.2 (by simp only; omega), .inr (.inr ⟨rfl, ?_⟩)⟩
        simp only; omega
  · rintro ⟨⟨y, x⟩, ⟨y', x'⟩, h1, h2, h⟩
    rw [inR_iff] at h1 h2
    simp only at h1 h2
    simp only [validR_iff, cmn]
    rcases h with h | ⟨h3, h4⟩ | ⟨h3, h4⟩
    · injection h with h3 h4; subst h3 h4; left; omega
    · simp only at h3 h4; omega
    · simp only at h3 h4; omega
theorem tch_iff {a b : List Rect} (ha : validRs a = true) (hb : validRs b = true) : tchR a b = true ↔ Tch (bits a) (bits b) := by
  simp only [tchR, List.any_eq_true]
  constructor
  · rintro ⟨p, hp, q, hq, h⟩
    obtain ⟨c, d, h1, h2, h3⟩ := (tch1 (valid_mem ha hp) (valid_mem hb hq)).1 h
    obtain ⟨c1, c2⟩ := inR_lt (valid_mem ha hp) h1
    obtain ⟨d1, d2⟩ := inR_lt (valid_mem hb hq) h2
    exact ⟨c, d, ⟨c1, c2, (gb_bits_iff c1 c2).2 ⟨p, hp, h1⟩⟩, ⟨d1, d2, (gb_bits_iff d1 d2).2 ⟨q, hq, h2⟩⟩, h3⟩
  · rintro ⟨c, d, ⟨c1, c2, c3⟩, ⟨d1, d2, d3⟩, h3⟩
    obtain ⟨p, hp, h1⟩ := (gb_bits_iff c1 c2).1 c3
    obtain ⟨q, hq, h2⟩ := (gb_bits_iff d1 d2).1 d3
    exact ⟨p, hp, q, hq, (tch1 (valid_mem ha hp) (valid_mem hb hq)).2 ⟨c, d, h1, h2, h3⟩⟩
theorem Tch.symm {A B : List Bool} (h : Tch A B) : Tch B A := by
  obtain ⟨a, b, h1, h2, h3⟩ := h
  exact ⟨b, a, h2, h1, h3.elim (fun e => .inl e.symm) fun e => .inr e.symm⟩
def Cnd (S : List Bool) : Prop := ∀ a b, On S a → On S b → Conn S a b
theorem comps_cnd {S c : List Bool} (h : c ∈ comps S) : Cnd c := by
  obtain ⟨j, hj, rfl⟩ := List.mem_map.1 h
  have hf : First S j := by
    have := (List.mem_filter.1 hj).2
    simpa using this
  have hs : On S (cel j) := hf.1
  have key : ∀ a, On (compB S (cel j)) a → Conn (compB S (cel j)) (cel j) a := fun a ha => by
    have h1 := (comp_iff ha.1 ha.2.1).1 ha.2.2
    have h0 : On (compB S (cel j)) (cel j) := ⟨hs.1, hs.2.1, (comp_iff hs.1 hs.2.1).2 .refl⟩
    exact (Conn.sub h1 h0 fun p q hp ha hq => ⟨hq.1, hq.2.1, (comp_iff hq.1 hq.2.1).2 (((comp_iff hp.1 hp.2.1).1 hp.2.2).step ha hq)⟩).1
  have h0 : On (compB S (cel j)) (cel j) := ⟨hs.1, hs.2.1, (comp_iff hs.1 hs.2.1).2 .refl⟩
  exact fun a b ha hb => ((key a ha).symm h0).trans (key b hb)
theorem comps_ne {S c : List Bool} (h : c ∈ comps S) : ∃ a, On c a := by
  obtain ⟨j, hj, rfl⟩ := List.mem_map.1 h
  have hf : First S j := by
    have := (List.mem_filter.1 hj).2
    simpa using this
  have hs : On S (cel j) := hf.1
  exact ⟨cel j, hs.1, hs.2.1, (comp_iff hs.1 hs.2.1).2 .refl⟩
def fw (t : Trans) (X Y : Int) : Int × Int := ((moveR t ⟨X, Y, X + 1, Y + 1⟩).x0, (moveR t ⟨X, Y, X + 1, Y + 1⟩).y0)
theorem ori {o : Int} (ho : 0 ≤ o ∧ o ≤ 7) : o = 0 ∨ o = 1 ∨ o = 2 ∨ o = 3 ∨ o = 4 ∨ o = 5 ∨ o = 6 ∨ o = 7 := by omega
theorem fw_in {t : Trans} (ho : 0 ≤ t.o ∧ t.o ≤ 7) {X Y : Int} {r : Rect} (h1 : r.x0 < r.x1) (h2 : r.y0 < r.y1) : cellIn (moveR t r) (fw t X Y).1 (fw t X Y).2 ↔ cellIn r X Y := by
  obtain ⟨o, tx, ty⟩ := t
  rcases ori ho with rfl | rfl | rfl | rfl | rfl | rfl | rfl | rfl <;> (simp [fw, cellIn, moveR, moveP, turnP, flip, rot]; omega)
theorem fw_surj {t : Trans} (ho : 0 ≤ t.o ∧ t.o ≤ 7) (X Y : Int) : ∃ X' Y', fw t X' Y' = (X, Y) := by
  obtain ⟨o, tx, ty⟩ := t
  rcases ori ho with rfl | rfl | rfl | rfl | rfl | rfl | rfl | rfl <;>
    first
    | exact ⟨X - tx, Y - ty, by simp [fw, moveR, moveP, turnP, flip, rot]; omega⟩
    | exact ⟨tx - 1 - X, Y - ty, by simp [fw, moveR, moveP, turnP, flip, rot]; omega⟩
    | exact ⟨X - tx, ty - 1 - Y, by simp [fw, moveR, moveP, turnP, flip, rot]; omega⟩
    | exact ⟨tx - 1 - X, ty - 1 - Y, by simp [fw, moveR, moveP, turnP, flip, rot]; omega⟩
    | exact ⟨Y - ty, X - tx, by simp [fw, moveR, moveP, turnP, flip, rot]; omega⟩
    | exact ⟨ty - 1 - Y, X - tx, by simp [fw, moveR, moveP, turnP, flip, rot]; omega⟩
    | exact ⟨Y - ty, tx - 1 - X, by simp [fw, moveR, moveP, turnP, flip, rot]; omega⟩
    | exact ⟨ty - 1 - Y, tx - 1 - X, by simp [fw, moveR, moveP, turnP, flip, rot]; omega⟩
def AdjI (X Y X' Y' : Int) : Prop := (Y = Y' ∧ (X = X' + 1 ∨ X' = X + 1)) ∨ (X = X' ∧ (Y = Y' + 1 ∨ Y' = Y + 1))
theorem fw_adj {t : Trans} (ho : 0 ≤ t.o ∧ t.o ≤ 7) {X Y X' Y' : Int} : AdjI (fw t X Y).1 (fw t X Y).2 (fw t X' Y').1 (fw t X' Y').2 ↔ AdjI X Y X' Y' := by
  obtain ⟨o, tx, ty⟩ := t
  rcases ori ho with rfl | rfl | rfl | rfl | rfl | rfl | rfl | rfl <;> (simp [AdjI, fw, moveR, moveP, turnP, flip, rot]; omega)
def im (t : Trans) (a : Cel) : Cel := (((fw t ((a.2 : Int) - 40) ((a.1 : Int) - 40)).2 + 40).toNat, ((fw t ((a.2 : Int) - 40) ((a.1 : Int) - 40)).1 + 40).toNat)
theorem im_on {t : Trans} (ho : 0 ≤ t.o ∧ t.o ≤ 7) {xs : List Rect} (hx : ∀ r ∈ xs, validRect r = true) (hv : ∀ r ∈ xs, validRect (moveR t r) = true) {a : Cel} (h : On (bits xs) a) :
    (-40 ≤ (fw t ((a.2 : Int) - 40) ((a.1 : Int) - 40)).1 ∧ -40 ≤ (fw t ((a.2 : Int) - 40) ((a.1 : Int) - 40)).2) ∧ On (bits (xs.map (moveR t))) (im t a) := by
  obtain ⟨h1, h2, h3⟩ := h
  obtain ⟨r, hr, hi⟩ := (gb_bits_iff h1 h2).1 h3
  rw [inR_cell] at hi
  have hv1 := validR_iff.1 (hx r hr)
  have hv2 := validR_iff.1 (hv r hr)
  have hc := (fw_in ho (r := r) (by omega) (by omega)).2 hi
  have hc' := hc
  simp only [cellIn] at hc'
  refine ⟨by omega, ?_⟩
  have l1 : (im t a).1 < 80 := by simp only [im]; omega
  have l2 : (im t a).2 < 80 := by simp only [im]; omega
  refine ⟨l1, l2, (gb_bits_iff l1 l2).2 ⟨moveR t r, List.mem_map.2 ⟨r, hr, rfl⟩, ?_⟩⟩
  rw [inR_cell]
  simp only [im]
  rw [Int.toNat_of_nonneg (by omega), Int.toNat_of_nonneg (by omega), Int.add_sub_cancel, Int.add_sub_cancel]
  exact hc
theorem im_surj {t : Trans} (ho : 0 ≤ t.o ∧ t.o ≤ 7) {xs : List Rect} (hx : ∀ r ∈ xs, validRect r = true) {b : Cel} (h : On (bits (xs.map (moveR t))) b) : ∃ a, On (bits xs) a ∧ im t a = b := by
  obtain ⟨h1, h2, h3⟩ := h
  obtain ⟨r', hr', hi⟩ := (gb_bits_iff h1 h2).1 h3
  obtain ⟨r, hr, er⟩ := List.mem_map.1 hr'
  subst er
  rw [inR_cell] at hi
  have hv1 := validR_iff.1 (hx r hr)
  obtain ⟨X, Y, e⟩ := fw_surj ho ((b.2 : Int) - 40) ((b.1 : Int) - 40)
  have hc : cellIn r X Y := (fw_in ho (by omega) (by omega)).1 (by rw [e]; exact hi)
  have hc' := hc
  simp only [cellIn] at hc'
  have e1 : (((X + 40).toNat : Nat) : Int) - 40 = X := by omega
  have e2 : (((Y + 40).toNat : Nat) : Int) - 40 = Y := by omega
  refine ⟨((Y + 40).toNat, (X + 40).toNat), ⟨by simp only; omega, by simp only; omega, (gb_bits_iff (by simp only; omega) (by simp only; omega)).2 ⟨r, hr, ?_⟩⟩, ?_⟩
  · rw [inR_cell]; simp only [e1, e2]; exact hc
  · simp only [im, e1, e2, e]
    obtain ⟨b1, b2⟩ := b
    simp only [Prod.mk.injEq]; omega
theorem im_adj {t : Trans} (ho : 0 ≤ t.o ∧ t.o ≤ 7) {xs : List Rect} (hx : ∀ r ∈ xs, validRect r = true) (hv : ∀ r ∈ xs, validRect (moveR t r) = true) {a b : Cel} (ha : On (bits xs) a) (hb : On (bits xs) b) (h : Adj a b) : Adj (im t a) (im t b) := by
  have h1 := (im_on ho hx hv ha).1
  have h2 := (im_on ho hx hv hb).1
  have h3 : AdjI ((a.2 : Int) - 40) ((a.1 : Int) - 40) ((b.2 : Int) - 40) ((b.1 : Int) - 40) := by
    simp only [AdjI, Adj] at h ⊢; omega
  have h4 := (fw_adj ho).2 h3
  simp only [AdjI, Adj, im] at h4 ⊢
  omega
/-- a connected figure is connected when moved -/
theorem cnd_mv {t : Trans} (ho : 0 ≤ t.o ∧ t.o ≤ 7) {xs : List Rect} (hx : ∀ r ∈ xs, validRect r = true) (hv : ∀ r ∈ xs, validRect (moveR t r) = true) (h : Cnd (bits xs)) : Cnd (bits (xs.map (moveR t))) := fun a' b' ha' hb' => by
  obtain ⟨a, ha, ea⟩ := im_surj ho hx ha'
  obtain ⟨b, hb, eb⟩ := im_surj ho hx hb'
  subst ea eb
  have hc := h a b ha hb
  have key : ∀ c, Conn (bits xs) a c → Conn (bits (xs.map (moveR t))) (im t a) (im t c) := fun c hc => by
    induction hc with
    | refl => exact .refl
    | step h1 h2 h3 ih => exact ih.step (im_adj ho hx hv (h1.on ha) h3 h2) (im_on ho hx hv h3).2
  exact key b hc
end Go.Proofs.YthhjapiggekjbaaGreat
namespace Go.Proofs.YthhjapiggekjbaaGreat
set_option linter.unusedVariables false
set_option linter.unusedSimpArgs false
open Go
set_option maxRecDepth 20000
set_option linter.unusedSimpArgs false
def pb (q : Int × List Rect) : Int × List Bool := (q.1, bits q.2)
theorem pb_pcR {q : Int × List Rect} (h : isReg q.2 = true) : pcR (pb q) = q := by rw [pcR, pb]; simp only [isReg_eq h]
structure PF (l : List (List Rect)) (q : Int × List Rect) (i : Nat) : Prop where
  hi : i < 4
  lay : q.1 = gd [0, 1, 3, 5] i
  reg : isReg q.2 = true
  cnd : Cnd (bits q.2)
  ne : ∃ a, On (bits q.2) a
  sub : ∀ a, On (bits q.2) a → On (gd (condB l) i) a
structure PAll (l : List (List Rect)) (E : List (Int × List Rect)) : Prop where
  mem : ∀ q ∈ E, ∃ i, PF l q i
  cov : ∀ i a, i < 4 → On (gd (condB l) i) a → ∃ q ∈ E, q.1 = gd [0, 1, 3, 5] i ∧ On (bits q.2) a
def JH (l : List (List Rect)) (E : List (Int × List Rect)) (k i : Nat) : Bool := (decide ((gd E k).1 = (gd E i).1) && tchR (gd E k).2 (gd E i).2) || jnI l (gd E k) (gd E i)
def clsH (l : List (List Rect)) (E : List (Int × List Rect)) : List Int := rootsJ (JH l E) E.length
theorem clsH_len (l : List (List Rect)) (E : List (Int × List Rect)) : (clsH l E).length = E.length := rootsJ_len _ _
theorem clsH_rt (l : List (List Rect)) (E : List (Int × List Rect)) : Rt (clsH l E) := rt_roots _ _
noncomputable def numH (l : List (List Rect)) (q : Int × List Rect) : Int := findL l q.1 (gd q.2 0).x0 (gd q.2 0).y0
def jnC (l : List (List Rect)) (m n : Int) (y x : Nat) : Bool := !decide (m = n) && (gb (bits (gd l 2)) y x && (decide (m = 3) || decide (n = 3)) && !(decide (m = 5) || decide (n = 5)) || gb (bits (gd l 4)) y x && (decide (m = 3) || decide (n = 3)) && (decide (m = 5) || decide (n = 5)))
theorem jnL_iff {l : List (List Rect)} {p q : Int × List Bool} : jnL l p q = true ↔ ∃ a : Cel, On p.2 a ∧ On q.2 a ∧ jnC l p.1 q.1 a.1 a.2 = true := by
  simp only [jnL, jnR, Bool.and_eq_true, List.any_eq_true, List.mem_range, jnC, On, gb]
  constructor
  · rintro ⟨h0, n, hn, ⟨h1, h2⟩, h3⟩
    have e : n / 80 * 80 + n % 80 = n := by omega
    exact ⟨(n / 80, n % 80), ⟨by simp only; omega, by simp only; omega, by simp only [e]; exact h1⟩, ⟨by simp only; omega, by simp only; omega, by simp only [e]; exact h2⟩, h0, by simp only [e]; exact h3⟩
  · rintro ⟨⟨y, x⟩, ⟨hy, hx, h1⟩, ⟨-, -, h2⟩, h0, h3⟩
    simp only at hy hx h1 h2 h3
    exact ⟨h0, y * 80 + x, by omega, ⟨h1, h2⟩, h3⟩
theorem PF.isL {l : List (List Rect)} {q : Int × List Rect} {i : Nat} (h : PF l q i) : Go.Proofs.YthhjapiggekjbaaGreat.isL q.1 := by rw [h.lay]; exact isL_lay h.hi
theorem lay_inj {i k : Nat} (hi : i < 4) (hk : k < 4) (h : (gd [0, 1, 3, 5] i : Int) = gd [0, 1, 3, 5] k) : i = k := by
  rcases Nat.lt_trichotomy i k with c | c | c
  · exact absurd h (lay_ne c hk)
  · exact c
  · exact absurd h.symm (lay_ne c hi)
theorem PAll.iff {l : List (List Rect)} {E : List (Int × List Rect)} (h : PAll l E) (hl : isLay l = true) {k i : Nat} (hk : k < E.length) (hi : i < E.length) : JH l E k i = true ↔ ((gd E k).1 = (gd E i).1 ∧ Tch (bits (gd E k).2) (bits (gd E i).2)) ∨ jnL l (pb (gd E k)) (pb (gd E i)) = true := by
  obtain ⟨m, hm⟩ := h.mem _ (gd_mem hk)
  obtain ⟨n, hn⟩ := h.mem _ (gd_mem hi)
  have e := jn_eq hl (p := pb (gd E k)) (q := pb (gd E i)) hm.isL hn.isL (bits_length _) (bits_length _)
  rw [pb_pcR hm.reg, pb_pcR hn.reg] at e
  rw [JH, e, Bool.or_eq_true, Bool.and_eq_true, decide_eq_true_eq, tch_iff (isReg_valid hm.reg) (isReg_valid hn.reg)]
theorem PAll.symm {l : List (List Rect)} {E : List (Int × List Rect)} (h : PAll l E) (hl : isLay l = true) {k i : Nat} (hk : k < E.length) (hi : i < E.length) (hJ : JH l E k i = true) : JH l E i k = true := by
  rw [h.iff hl hi hk]
  rcases (h.iff hl hk hi).1 hJ with ⟨e, t⟩ | t
  · exact .inl ⟨e.symm, t.symm⟩
  · rw [jnL_symm]; exact .inr t
theorem PAll.join {l : List (List Rect)} {E : List (Int × List Rect)} (h : PAll l E) (hl : isLay l = true) {k i : Nat} (hk : k < E.length) (hi : i < E.length) (hJ : JH l E k i = true) : gd (clsH l E) k = gd (clsH l E) i := by
  rcases Nat.lt_trichotomy k i with c | c | c
  · exact rootsJ_join c hi hJ
  · rw [c]
  · exact (rootsJ_join c hk (h.symm hl hk hi hJ)).symm
theorem piece_in {l : List (List Rect)} {j : Nat} (hj : j < (pcL l 4).length) : ∃ i, i < 4 ∧ (gd (pcL l 4) j).1 = gd [0, 1, 3, 5] i ∧ (gd (pcL l 4) j).2 ∈ comps (gd (condB l) i) := by
  have hm := gd_mem hj
  rw [pcL] at hm
  obtain ⟨z, hz, hq⟩ := List.mem_flatten.1 hm
  obtain ⟨i, hi, rfl⟩ := List.mem_map.1 hz
  obtain ⟨c, hc, e⟩ := List.mem_map.1 hq
  rw [← pcL] at e
  rw [← e]
  exact ⟨i, List.mem_range.1 hi, rfl, hc⟩
theorem piece_sub {l : List (List Rect)} {i j : Nat} (hi : i < 4) (hj : j < (pcL l 4).length) (e : (gd (pcL l 4) j).1 = gd [0, 1, 3, 5] i) {a : Cel} (h : On (gd (pcL l 4) j).2 a) : On (gd (condB l) i) a := by
  obtain ⟨i', hi', e', hc⟩ := piece_in hj
  obtain rfl := lay_inj hi hi' (e.symm.trans e')
  exact ⟨h.1, h.2.1, comp_sub hc h.1 h.2.1 h.2.2⟩
theorem piece_uniq {l : List (List Rect)} {i j : Nat} (hi : i < (pcL l 4).length) (hj : j < (pcL l 4).length) (e : (gd (pcL l 4) i).1 = (gd (pcL l 4) j).1) {a : Cel} (h1 : On (gd (pcL l 4) i).2 a) (h2 : On (gd (pcL l 4) j).2 a) : i = j :=
  pcL_uniq hi hj e h1.1 h1.2.1 h1.2.2 h2.2.2
theorem piece_closed {l : List (List Rect)} {i j : Nat} (hi : i < 4) (hj : j < (pcL l 4).length) (e : (gd (pcL l 4) j).1 = gd [0, 1, 3, 5] i) {a b : Cel} (ha : On (gd (pcL l 4) j).2 a) (hab : Adj a b) (hb : On (gd (condB l) i) b) : On (gd (pcL l 4) j).2 b := by
  have hs := piece_sub hi hj e ha
  obtain ⟨j', hj', e', h1, h2⟩ := piece_at hi hs.1 hs.2.1 hs.2.2
  obtain rfl := piece_uniq hj hj' (e.trans e'.symm) ha ⟨hs.1, hs.2.1, h1⟩
  exact ⟨hb.1, hb.2.1, h2 _ _ hb.1 hb.2.1 hab hb.2.2⟩
theorem region_first {r : List Rect} (hr : isReg r = true) (h : ∃ a, On (bits r) a) : 0 < r.length ∧ validRect (gd r 0) = true ∧ On (bits r) (((gd r 0).y0 + 40).toNat, ((gd r 0).x0 + 40).toNat) := by
  obtain ⟨a, h1, h2, h3⟩ := h
  obtain ⟨q, hq, -⟩ := (gb_bits_iff h1 h2).1 h3
  have hl : 0 < r.length := List.length_pos_of_mem hq
  have hv := reg_valid hr _ (gd_mem hl)
  have hv' := validR_iff.1 hv
  refine ⟨hl, hv, by simp only; omega, by simp only; omega, (gb_bits_iff (by simp only; omega) (by simp only; omega)).2 ⟨_, gd_mem hl, inR_iff.2 (by simp only; omega)⟩⟩
/-- a placed piece lies in one piece of the flattened layout -/
theorem PF.flat {l : List (List Rect)} {q : Int × List Rect} {i : Nat} (h : PF l q i) : ∃ j, j < (pcL l 4).length ∧ (gd (pcL l 4) j).1 = gd [0, 1, 3, 5] i ∧ (∀ a, On (bits q.2) a → On (gd (pcL l 4) j).2 a) ∧ numH l q = (numR (clsL l) j : Int) := by
  obtain ⟨h0, hv, hf⟩ := region_first h.reg h.ne
  have hs := h.sub _ hf
  obtain ⟨j, hj, e, h1, -⟩ := piece_at h.hi hs.1 hs.2.1 hs.2.2
  have hp : On (gd (pcL l 4) j).2 (((gd q.2 0).y0 + 40).toNat, ((gd q.2 0).x0 + 40).toNat) := ⟨hs.1, hs.2.1, h1⟩
  refine ⟨j, hj, e, fun a ha => ?_, ?_⟩
  · have hc := h.cnd _ a hf ha
    induction hc with
    | refl => exact hp
    | step g1 g2 g3 ih => exact piece_closed h.hi hj e (ih (g1.on hf)) g2 (h.sub _ g3)
  · rw [numH]
    rw [validR_iff] at hv
    exact findL_at hj (atB_of (by omega) (e.trans h.lay.symm) h1)
theorem PAll.num {l : List (List Rect)} {E : List (Int × List Rect)} (h : PAll l E) (hl : isLay l = true) {k i : Nat} (hk : k < E.length) (hi : i < E.length) (hJ : JH l E k i = true) : numH l (gd E k) = numH l (gd E i) := by
  obtain ⟨m, hm⟩ := h.mem _ (gd_mem hk)
  obtain ⟨n, hn⟩ := h.mem _ (gd_mem hi)
  obtain ⟨j1, a1, a2, a3, a4⟩ := hm.flat
  obtain ⟨j2, b1, b2, b3, b4⟩ := hn.flat
  rw [a4, b4]
  rcases (h.iff hl hk hi).1 hJ with ⟨e, a, b, ha, hb, hab⟩ | t
  · have e' : (gd (pcL l 4) j1).1 = (gd (pcL l 4) j2).1 := by rw [a2, b2, ← hm.lay, ← hn.lay, e]
    have hb2 : On (gd (pcL l 4) j1).2 b := by
      rcases hab with rfl | hab
      · exact a3 _ ha
      · refine piece_closed hm.hi a1 a2 (a3 _ ha) hab ?_
        have e2 : n = m := lay_inj hn.hi hm.hi (by rw [← hm.lay, ← hn.lay, e])
        rw [← e2]; exact hn.sub _ hb
    rw [piece_uniq a1 b1 e' hb2 (b3 _ hb)]
  · obtain ⟨a, ha, hb, hc⟩ := jnL_iff.1 t
    rw [numR_join a1 b1 (jnL_iff.2 ⟨a, a3 _ ha, b3 _ hb, by rw [a2, b2, ← hm.lay, ← hn.lay]; exact hc⟩)]
/-- placed pieces in one flattened piece are in one class -/
theorem PAll.same {l : List (List Rect)} {E : List (Int × List Rect)} (h : PAll l E) (hl : isLay l = true) {j : Nat} (hj : j < (pcL l 4).length) {k : Nat} (hk : k < E.length) (ek : (gd E k).1 = (gd (pcL l 4) j).1) {a : Cel} (ha : On (bits (gd E k).2) a) (ha2 : On (gd (pcL l 4) j).2 a) :
    ∀ b, On (gd (pcL l 4) j).2 b → ∀ k2, k2 < E.length → (gd E k2).1 = (gd (pcL l 4) j).1 → On (bits (gd E k2).2) b → gd (clsH l E) k2 = gd (clsH l E) k := fun b hb => by
  obtain ⟨i, hi, e, hc⟩ := piece_in hj
  have hcn := comps_cnd hc a b ha2 hb
  induction hcn with
  | refl => exact fun k2 h1 h2 h3 => h.join hl h1 hk ((h.iff hl h1 hk).2 (.inl ⟨h2.trans ek.symm, a, a, h3, ha, .inl rfl⟩))
  | step g1 g2 g3 ih =>
    intro k2 h1 h2 h3
    have hb' := g1.on ha2
    obtain ⟨q, hq, q1, q2⟩ := h.cov i _ hi (piece_sub hi hj e hb')
    obtain ⟨k3, hk3, rfl⟩ := List.getElem_of_mem hq
    have e3 : gd E k3 = E[k3] := gd_eq hk3
    rw [← e3] at q1 q2
    rw [← ih hb' k3 hk3 (q1.trans e.symm) q2]
    exact h.join hl h1 hk3 ((h.iff hl h1 hk3).2 (.inl ⟨by rw [h2, q1, e], _, _, h3, q2, .inr g2.symm⟩))
open Classical in
noncomputable def gCls (l : List (List Rect)) (E : List (Int × List Rect)) (j : Nat) : Int := if h : ∃ k, k < E.length ∧ (gd E k).1 = (gd (pcL l 4) j).1 ∧ ∃ a, On (bits (gd E k).2) a ∧ On (gd (pcL l 4) j).2 a then gd (clsH l E) h.choose else 0
theorem PAll.gCls {l : List (List Rect)} {E : List (Int × List Rect)} (h : PAll l E) (hl : isLay l = true) {j : Nat} (hj : j < (pcL l 4).length) {k : Nat} (hk : k < E.length) (ek : (gd E k).1 = (gd (pcL l 4) j).1) {a : Cel} (ha : On (bits (gd E k).2) a) (ha2 : On (gd (pcL l 4) j).2 a) : gCls l E j = gd (clsH l E) k := by
  have hx : ∃ k, k < E.length ∧ (gd E k).1 = (gd (pcL l 4) j).1 ∧ ∃ a, On (bits (gd E k).2) a ∧ On (gd (pcL l 4) j).2 a := ⟨k, hk, ek, a, ha, ha2⟩
  rw [Go.Proofs.YthhjapiggekjbaaGreat.gCls, dif_pos hx]
  obtain ⟨h1, h2, b, h3, h4⟩ := hx.choose_spec
  exact h.same hl hj hk ek ha ha2 b h4 _ h1 h2 h3
theorem PAll.snd {l : List (List Rect)} {E : List (Int × List Rect)} (h : PAll l E) (hl : isLay l = true) : Snd (Go.Proofs.YthhjapiggekjbaaGreat.gCls l E) (clsL l) := by
  refine Snd.roots _ fun k i hki hi hJ => ?_
  have hk : k < (pcL l 4).length := by omega
  rw [JL] at hJ
  obtain ⟨a, ha, hb, hc⟩ := jnL_iff.1 hJ
  obtain ⟨m, hm, em, -⟩ := piece_in hk
  obtain ⟨n, hn, en, -⟩ := piece_in hi
  obtain ⟨p, hp, p1, p2⟩ := h.cov m a hm (piece_sub hm hk em ha)
  obtain ⟨q, hq, q1, q2⟩ := h.cov n a hn (piece_sub hn hi en hb)
  obtain ⟨k1, hk1, rfl⟩ := List.getElem_of_mem hp
  obtain ⟨k2, hk2, rfl⟩ := List.getElem_of_mem hq
  rw [← gd_eq hk1] at p1 p2
  rw [← gd_eq hk2] at q1 q2
  rw [h.gCls hl hk hk1 (p1.trans em.symm) p2 ha, h.gCls hl hi hk2 (q1.trans en.symm) q2 hb]
  exact h.join hl hk1 hk2 ((h.iff hl hk1 hk2).2 (.inr (jnL_iff.2 ⟨a, p2, q2, by simp only [pb]; rw [p1, q1, ← em, ← en]; exact hc⟩)))
theorem PAll.cls {l : List (List Rect)} {E : List (Int × List Rect)} (h : PAll l E) (hl : isLay l = true) {a b : Nat} (ha : a < E.length) (hb : b < E.length) : gd (clsH l E) a = gd (clsH l E) b ↔ numH l (gd E a) = numH l (gd E b) := by
  constructor
  · have hs : Snd (fun k => numH l (gd E k)) (clsH l E) := Snd.roots _ fun k i hki hi hJ => h.num hl (by omega) hi hJ
    exact fun e => hs.of_eq (by rw [clsH_len]; exact ha) (by rw [clsH_len]; exact hb) e
  · intro e
    obtain ⟨m, hm⟩ := h.mem _ (gd_mem ha)
    obtain ⟨n, hn⟩ := h.mem _ (gd_mem hb)
    obtain ⟨j1, a1, a2, a3, a4⟩ := hm.flat
    obtain ⟨j2, b1, b2, b3, b4⟩ := hn.flat
    rw [a4, b4] at e
    have e2 := numR_inj (clsL_rt l) (a := j1) (b := j2) (by rw [clsL_len]; exact a1) (by rw [clsL_len]; exact b1) (by omega)
    have e3 := (h.snd hl).of_eq (a := j1) (b := j2) (by rw [clsL_len]; exact a1) (by rw [clsL_len]; exact b1) e2
    obtain ⟨c, hc⟩ := hm.ne
    obtain ⟨d, hd⟩ := hn.ne
    rwa [h.gCls hl a1 ha (hm.lay.trans a2.symm) hc (a3 _ hc), h.gCls hl b1 hb (hn.lay.trans b2.symm) hd (b3 _ hd)] at e3
/-- the class of a placed piece is the first piece with its number -/
theorem PAll.first {l : List (List Rect)} {E : List (Int × List Rect)} (h : PAll l E) (hl : isLay l = true) {i : Nat} (hi : i < E.length) : ∃ m : Nat, gd (clsH l E) i = (m : Int) ∧ m ≤ i ∧ numH l (gd E m) = numH l (gd E i) ∧ ∀ k, k < m → numH l (gd E k) ≠ numH l (gd E i) := by
  obtain ⟨h1, h2, h3⟩ := clsH_rt l E i (by rw [clsH_len]; exact hi)
  refine ⟨(gd (clsH l E) i).toNat, by omega, by omega, (h.cls hl (by omega) hi).1 h3, fun k hk e => ?_⟩
  have e2 := (h.cls hl (by omega) hi).2 e
  obtain ⟨k1, k2, k3⟩ := clsH_rt l E k (by rw [clsH_len]; omega)
  omega
end Go.Proofs.YthhjapiggekjbaaGreat
namespace Go.Proofs.YthhjapiggekjbaaGreat
set_option linter.unusedVariables false
set_option linter.unusedSimpArgs false
open Go
set_option maxRecDepth 20000
set_option linter.unusedSimpArgs false
theorem occ_box {cs : List ECell} {cell : Int} {j : Nat} (hj : j < (occR cs cell).length) (n : Nat) : (0 ≤ (gd (occR cs cell) j).place.o ∧ (gd (occR cs cell) j).place.o ≤ 7) ∧ ∀ b ∈ boxesOf (gd cs (gd (occR cs cell) j).cell.toNat).shapes n, validRect b = true := by
  obtain ⟨h1, h2, h3, -⟩ := occR_cell hj
  refine ⟨(validT_iff.1 h3).1, fun b hb => ?_⟩
  obtain ⟨m, hm, rfl⟩ := boxesOf_sub hb
  have := okLib_shape h1 (i := (gd (occR cs cell) j).cell.toNat) (j := m) (by omega) hm
  simp only [okSh, Bool.and_eq_true] at this
  exact this.2
/-- the cells of a flattened layer are those of the moved boxes -/
theorem flat_lay {cs : List ECell} {cell : Int} (h0 : shE cs cell = 0) {n : Nat} (hn : n < 8) {y x : Nat} (hy : y < 80) (hx : x < 80) : gb (bits (gd (flyL cs cell) n)) y x = true ↔ ∃ j, j < (occR cs cell).length ∧ gb (bits ((boxesOf (gd cs (gd (occR cs cell) j).cell.toNat).shapes n).map (moveR (gd (occR cs cell) j).place))) y x = true := by
  have e : flyL cs cell = layL (flatL cs (occR cs cell)) := by rw [flyL, decide_eq_true h0, shR_ok h0]; rfl
  rw [e, lay_bits hn, gb_bits_iff hy hx]
  constructor
  · rintro ⟨r, hr, hi⟩
    rw [boxesOf] at hr
    obtain ⟨s, hs, rfl⟩ := List.mem_map.1 hr
    obtain ⟨hs1, hs2⟩ := List.mem_filter.1 hs
    obtain ⟨o, ho, hs1⟩ := List.mem_flatMap.1 hs1
    obtain ⟨j, hj, rfl⟩ := List.getElem_of_mem ho
    obtain ⟨q, hq, rfl⟩ := List.mem_map.1 hs1
    refine ⟨j, hj, ?_⟩
    rw [gb_bits_iff hy hx]
    refine ⟨moveR (gd (occR cs cell) j).place q.box, List.mem_map.2 ⟨q.box, ?_, rfl⟩, ?_⟩
    · rw [boxesOf]
      exact List.mem_map.2 ⟨q, List.mem_filter.2 ⟨by rw [gd_eq hj]; exact hq, hs2⟩, rfl⟩
    · rw [gd_eq hj]; exact hi
  · rintro ⟨j, hj, hg⟩
    rw [gb_bits_iff hy hx] at hg
    obtain ⟨r, hr, hi⟩ := hg
    obtain ⟨b, hb, rfl⟩ := List.mem_map.1 hr
    rw [boxesOf] at hb
    obtain ⟨q, hq, rfl⟩ := List.mem_map.1 hb
    obtain ⟨hq1, hq2⟩ := List.mem_filter.1 hq
    refine ⟨_, ?_, hi⟩
    rw [boxesOf]
    refine List.mem_map.2 ⟨⟨q.layer, moveR (gd (occR cs cell) j).place q.box⟩, List.mem_filter.2 ⟨List.mem_flatMap.2 ⟨gd (occR cs cell) j, gd_mem hj, List.mem_map.2 ⟨q, hq1, rfl⟩⟩, hq2⟩, rfl⟩
/-- a conductor's cells -/
def lyN (i : Nat) : Nat := (gd [0, 1, 3, 5] i : Int).toNat
theorem lyN_lt {i : Nat} (h : i < 4) : lyN i < 8 := by
  rcases (by omega : i = 0 ∨ i = 1 ∨ i = 2 ∨ i = 3) with rfl | rfl | rfl | rfl <;> simp [lyN, gd]
theorem cond_gb {l : List (List Rect)} {i : Nat} (hi : i < 4) {y x : Nat} (hy : y < 80) (hx : x < 80) : gb (gd (condB l) i) y x = true ↔ gb (bits (gd l (lyN i))) y x = true ∧ (i = 0 → gb (bits (gd l 1)) y x = false) := by
  obtain ⟨e0, e1, e2, e3⟩ := gd4 (zipB (fun p q => p && !q) (bits (gd l 0)) (bits (gd l 1))) (bits (gd l 1)) (bits (gd l 3)) (bits (gd l 5))
  rcases (by omega : i = 0 ∨ i = 1 ∨ i = 2 ∨ i = 3) with rfl | rfl | rfl | rfl
  · rw [condB, e0, gb_zip2 (bits_length _) (bits_length _) hy hx]
    simp [lyN, gd]
  · rw [condB, e1]; simp [lyN, gd]
  · rw [condB, e2]; simp [lyN, gd]
  · rw [condB, e3]; simp [lyN, gd]
noncomputable def plE (cs : List ECell) (cell : Int) : List (Int × List Rect) := (ppAll cs cell).map Prod.snd
theorem plE_len (cs : List ECell) (cell : Int) : (plE cs cell).length = (ppAll cs cell).length := by simp [plE]
theorem plE_mem {cs : List ECell} {cell : Int} {q : Int × List Rect} : q ∈ plE cs cell ↔ ∃ j, j < (occR cs cell).length ∧ ∃ p ∈ ownP cs (gd (occR cs cell) j).cell, q = mvP (gd (occR cs cell) j).place p := by
  rw [plE, ppAll, plTo]
  constructor
  · intro h
    obtain ⟨e, he, rfl⟩ := List.mem_map.1 h
    obtain ⟨j, hj, he⟩ := List.mem_flatMap.1 he
    obtain ⟨p, hp, rfl⟩ := List.mem_map.1 he
    exact ⟨j, List.mem_range.1 hj, p, hp, rfl⟩
  · rintro ⟨j, hj, p, hp, rfl⟩
    exact List.mem_map.2 ⟨((j : Int), mvP (gd (occR cs cell) j).place p), List.mem_flatMap.2 ⟨j, List.mem_range.2 hj, List.mem_map.2 ⟨p, hp, rfl⟩⟩, rfl⟩
def noCr (cs : List ECell) (cell : Int) : Prop := ∀ y x, y < 80 → x < 80 → diffAny (ppAll cs cell) y x = true → gb (bits (gd (flyL cs cell) 1)) y x = false
theorem ownP_iff {cs : List ECell} {cell : Int} {j : Nat} (hj : j < (occR cs cell).length) : ownP cs (gd (occR cs cell) j).cell = pcE (layL (gd cs (gd (occR cs cell) j).cell.toNat).shapes) := by
  obtain ⟨h1, h2, -, -⟩ := occR_cell hj
  have hh : hasCl cs (gd (occR cs cell) j).cell = true := by
    simp only [hasCl, within, Bool.and_eq_true, decide_eq_true_eq]
    exact ⟨h1, by omega, by omega⟩
  rw [ownP, hh, cond_true]
/-- the boxes of an occurrence stay on the chip -/
theorem occ_mv {cs : List ECell} {cell : Int} (h0 : shE cs cell = 0) {j : Nat} (hj : j < (occR cs cell).length) {m : Nat} (hm : m < (gd cs (gd (occR cs cell) j).cell.toNat).shapes.length) : validRect (moveR (gd (occR cs cell) j).place (gd (gd cs (gd (occR cs cell) j).cell.toNat).shapes m).box) = true := by
  have hoc : occE cs cell = 0 := by
    by_cases ho : occE cs cell = 0
    · exact ho
    · rw [shE_occ ho] at h0; exact absurd h0 ho
  cases hv : validRect (moveR (gd (occR cs cell) j).place (gd (gd cs (gd (occR cs cell) j).cell.toNat).shapes m).box) with
  | true => rfl
  | false =>
    exfalso
    have hb := flat_bad hj hm hv
    rw [shE_flat hoc, hb] at h0; simp at h0
theorem plE_all {cs : List ECell} {cell : Int} (h0 : shE cs cell = 0) (hn : noCr cs cell) : PAll (flyL cs cell) (plE cs cell) := by
  refine ⟨fun q hq => ?_, fun i a hi ha => ?_⟩
  · have hq0 := hq
    obtain ⟨j, hj, p, hp, rfl⟩ := plE_mem.1 hq
    have hp2 := ownP_mem hp
    obtain ⟨i, c, hi, hc, e, e1⟩ := pc_mem2 hp2
    have ho := (occ_box hj 0).1
    have hcv : ∀ r ∈ p.2, validRect r = true := reg_valid (pc_reg hp2)
    have hmv : ∀ r ∈ p.2, validRect (moveR (gd (occR cs cell) j).place r) = true := pc_mv ho (fun m hm => occ_mv h0 hj hm) hp2
    have hbc : bits p.2 = c := by rw [e, bits_canon (comps_mem hc)]
    have hbm : bits (mvP (gd (occR cs cell) j).place p).2 = bits (p.2.map (moveR (gd (occR cs cell) j).place)) := by rw [mvP]; exact bits_canon (bits_length _)
    refine ⟨i, hi, e1, by rw [mvP]; exact isReg_canon (bits_length _), ?_, ?_, fun a ha => ?_⟩
    · rw [hbm]; exact cnd_mv ho hcv hmv (by rw [hbc]; exact comps_cnd hc)
    · obtain ⟨a, ha⟩ := comps_ne hc
      rw [← hbc] at ha
      rw [hbm]; exact ⟨_, (im_on ho hcv hmv ha).2⟩
    · obtain ⟨h1, h2, h3⟩ := ha
      have h3' := h3
      rw [hbm] at h3
      refine ⟨h1, h2, (cond_gb hi h1 h2).2 ⟨?_, fun hi0 => ?_⟩⟩
      · rw [flat_lay h0 (lyN_lt hi) h1 h2]
        refine ⟨j, hj, ?_⟩
        rcases mv_gb ho h1 h2 with ⟨y', x', hy', hx', em⟩ | em
        · rw [em _ hcv, hbc] at h3
          have h4 := comp_sub hc hy' hx' h3
          have h5 := ((cond_gb hi hy' hx').1 h4).1
          rw [em _ (occ_box hj _).2, ← lay_bits (lyN_lt hi)]
          exact h5
        · rw [em _ hcv] at h3; cases h3
      · refine hn _ _ h1 h2 ?_
        rw [diffAny, List.any_eq_true]
        obtain ⟨e', he', hq'⟩ := List.mem_map.1 hq0
        refine ⟨e', he', ?_⟩
        rw [hq']
        rw [Bool.and_eq_true]
        refine ⟨?_, h3'⟩
        rw [decide_eq_true_eq]
        exact e1.trans (by rw [hi0]; simp [gd])
  · obtain ⟨h1, h2, h3⟩ := ha
    obtain ⟨h4, h5⟩ := (cond_gb hi h1 h2).1 h3
    rw [flat_lay h0 (lyN_lt hi) h1 h2] at h4
    obtain ⟨j, hj, h4⟩ := h4
    have ho := (occ_box hj 0).1
    rcases mv_gb ho h1 h2 with ⟨y', x', hy', hx', em⟩ | em
    · rw [em _ (occ_box hj _).2, ← lay_bits (lyN_lt hi)] at h4
      have h6 : gb (gd (condB (layL (gd cs (gd (occR cs cell) j).cell.toNat).shapes)) i) y' x' = true := by
        refine (cond_gb hi hy' hx').2 ⟨h4, fun hi0 => ?_⟩
        have h7 := h5 hi0
        cases hg : gb (bits (gd (layL (gd cs (gd (occR cs cell) j).cell.toNat).shapes) 1)) y' x' with
        | false => rfl
        | true =>
          exfalso
          have h8 : gb (bits (gd (flyL cs cell) 1)) a.1 a.2 = true := by
            rw [flat_lay h0 (by omega) h1 h2]
            refine ⟨j, hj, ?_⟩
            rw [em _ (occ_box hj _).2, ← lay_bits (by omega)]
            exact hg
          rw [h7] at h8; cases h8
      have hcv := comps_cover (S := gd (condB (layL (gd cs (gd (occR cs cell) j).cell.toNat).shapes)) i) hy' hx'
      rw [h6, List.any_eq_true] at hcv
      obtain ⟨c, hc, hgc⟩ := hcv
      have hm : ((gd [0, 1, 3, 5] i, canon c) : Int × List Rect) ∈ ownP cs (gd (occR cs cell) j).cell := by
        rw [ownP_iff hj, pcE, isLay_layL, cond_true, List.mem_map]
        refine ⟨(gd [0, 1, 3, 5] i, c), ?_, rfl⟩
        rw [pcL, List.mem_flatten]
        exact ⟨_, List.mem_map.2 ⟨i, List.mem_range.2 hi, rfl⟩, List.mem_map.2 ⟨c, hc, rfl⟩⟩
      refine ⟨mvP (gd (occR cs cell) j).place (gd [0, 1, 3, 5] i, canon c), plE_mem.2 ⟨j, hj, _, hm, rfl⟩, rfl, h1, h2, ?_⟩
      rw [mvP, bits_canon (bits_length _), em _ (reg_valid (isReg_canon (comps_mem hc))), bits_canon (comps_mem hc)]
      exact hgc
    · rw [em _ (occ_box hj _).2] at h4; cases h4
end Go.Proofs.YthhjapiggekjbaaGreat
