/-
  Contracts of functions and plain facts that the last text of this folder uses, part 6.
-/
import Derived.Test.YtbkaincaahcnfaaGreatCB5
namespace Go.Proofs.YtbkaincaahcnfaaGreat
set_option linter.unusedVariables false
set_option linter.unusedSimpArgs false
open Go
set_option maxRecDepth 20000
set_option linter.unusedSimpArgs false
variable {G : Gh} {L : List Ch} {R : Value → Gh → List Ch → Prop}
theorem flat_mem {cs : List ECell} {os : List EOcc} {i m : Nat} (hi : i < os.length) (hm : m < (gd cs (gd os i).cell.toNat).shapes.length) : (⟨(gd (gd cs (gd os i).cell.toNat).shapes m).layer, moveR (gd os i).place (gd (gd cs (gd os i).cell.toNat).shapes m).box⟩ : Shape) ∈ flatL cs os :=
  List.mem_flatMap.2 ⟨gd os i, gd_mem hi, List.mem_map.2 ⟨_, gd_mem hm, rfl⟩⟩
theorem flat_bad {cs : List ECell} {os : List EOcc} {i m : Nat} (hi : i < os.length) (hm : m < (gd cs (gd os i).cell.toNat).shapes.length) (h : validRect (moveR (gd os i).place (gd (gd cs (gd os i).cell.toNat).shapes m).box) = false) : ((flatL cs os).any fun s => !validRect s.box) = true :=
  List.any_eq_true.2 ⟨_, flat_mem hi hm, by simp [h]⟩
theorem flat_good {cs : List ECell} {os : List EOcc} (h : ∀ i, i < os.length → ∀ m, m < (gd cs (gd os i).cell.toNat).shapes.length → validRect (moveR (gd os i).place (gd (gd cs (gd os i).cell.toNat).shapes m).box) = true) : ((flatL cs os).any fun s => !validRect s.box) = false := by
  rw [List.any_eq_false]
  intro s hs
  obtain ⟨o, ho, hs⟩ := List.mem_flatMap.1 hs
  obtain ⟨i, hi, rfl⟩ := List.getElem_of_mem ho
  obtain ⟨q, hq, rfl⟩ := List.mem_map.1 hs
  obtain ⟨m, hm, rfl⟩ := List.getElem_of_mem hq
  have := h i hi m (by rw [gd_eq hi]; exact hm)
  rw [gd_eq hi, gd_eq hm] at this
  simp [this]
theorem shE_occ {cs : List ECell} {cell : Int} (h : occE cs cell ≠ 0) : shE cs cell = occE cs cell := by rw [shE, decide_eq_false h]; rfl
theorem shE_flat {cs : List ECell} {cell : Int} (h : occE cs cell = 0) : shE cs cell = bif (flatL cs (occR cs cell)).any fun s => !validRect s.box then 2 else 0 := by rw [shE, decide_eq_true h]; rfl
/-- what an occurrence gives -/
structure OccAt (xs : List Cell) (cell : Int) (zs : List Occ) (i : Nat) : Prop where
  hc : 0 ≤ (gd zs i).cell ∧ (gd zs i).cell.toNat < xs.length
  ho : gd (occR (erCls xs) cell) i = erO (gd zs i)
  hi : i < (occR (erCls xs) cell).length
  hp : (0 ≤ (gd zs i).place.o ∧ (gd zs i).place.o ≤ 7) ∧ -1000 ≤ (gd zs i).place.x ∧ (gd zs i).place.x ≤ 1000 ∧ -1000 ≤ (gd zs i).place.y ∧ (gd zs i).place.y ≤ 1000
  hs : (gd (erCls xs) (gd zs i).cell.toNat).shapes = (gd xs (gd zs i).cell.toNat).shapes.xs
  hb : ∀ m, m < (gd xs (gd zs i).cell.toNat).shapes.xs.length → RIn 40 (gd (gd xs (gd zs i).cell.toNat).shapes.xs m).box
  hl : (gd xs (gd zs i).cell.toNat).shapes.xs.length ≤ 24 ∧ (occR (erCls xs) cell).length ≤ 200
theorem OccAt.of {xs : List Cell} {cell : Int} {zs : List Occ} (he : erOs zs = occR (erCls xs) cell) {i : Nat} (hi : i < zs.length) : OccAt xs cell zs i := by
  have hl : zs.length = (occR (erCls xs) cell).length := by rw [← he, erOs_len]
  have ho : gd (occR (erCls xs) cell) i = erO (gd zs i) := by rw [← he, erOs_gd hi]
  obtain ⟨h1, h2, h3, h4⟩ := occR_cell (cs := erCls xs) (cell := cell) (i := i) (by omega)
  rw [ho] at h2 h3
  simp only [erO] at h2 h3
  have hE := erCls_len xs
  obtain ⟨q1, q2, q3⟩ := validT_iff.1 h3
  have hs : (gd (erCls xs) (gd zs i).cell.toNat).shapes = (gd xs (gd zs i).cell.toNat).shapes.xs := by rw [erCls_gd (by omega)]; rfl
  refine ⟨by omega, ho, by omega, by omega, hs, fun m hm => ?_, ?_⟩
  · have := okLib_shape h1 (i := (gd zs i).cell.toNat) (j := m) (by omega) (by rw [hs]; exact hm)
    rw [hs] at this
    simp only [okSh, Bool.and_eq_true] at this
    exact validR_in this.2
  · have := (okLib_cnt h1 (i := (gd zs i).cell.toNat) (by omega)).2
    rw [hs] at this
    exact ⟨this, h4⟩
theorem OccAt.step {xs : List Cell} {cell : Int} {zs : List Occ} {i m : Nat} (h : OccAt xs cell zs i) (hm : m < (gd xs (gd zs i).cell.toNat).shapes.xs.length) :
    (flatOf (erCls xs) (gd (occR (erCls xs) cell) i)).take (m + 1) = (flatOf (erCls xs) (gd (occR (erCls xs) cell) i)).take m ++ [⟨(gd (gd xs (gd zs i).cell.toNat).shapes.xs m).layer, moveR (gd zs i).place (gd (gd xs (gd zs i).cell.toNat).shapes.xs m).box⟩] := by
  have := flatOf_step (cs := erCls xs) (o := gd (occR (erCls xs) cell) i) (k := m) (by rw [h.ho]; simp only [erO]; rw [h.hs]; exact hm)
  rw [this, h.ho]
  simp only [erO, h.hs]
theorem OccAt.len {xs : List Cell} {cell : Int} {zs : List Occ} {i : Nat} (h : OccAt xs cell zs i) : (flatOf (erCls xs) (gd (occR (erCls xs) cell) i)).length = (gd xs (gd zs i).cell.toNat).shapes.xs.length := by
  rw [flatOf_len, h.ho]; simp only [erO, h.hs]
/-- shapes of the occurrences before the i-th are valid -/
def goodTo (cs : List ECell) (os : List EOcc) (i : Nat) : Prop := ∀ j, j < i → ∀ m, m < (gd cs (gd os j).cell.toNat).shapes.length → validRect (moveR (gd os j).place (gd (gd cs (gd os j).cell.toNat).shapes m).box) = true
theorem goodTo.next {xs : List Cell} {cell : Int} {zs : List Occ} {i : Nat} (h : goodTo (erCls xs) (occR (erCls xs) cell) i) (ha : OccAt xs cell zs i) (hm : ∀ m, m < (gd xs (gd zs i).cell.toNat).shapes.xs.length → validRect (moveR (gd zs i).place (gd (gd xs (gd zs i).cell.toNat).shapes.xs m).box) = true) : goodTo (erCls xs) (occR (erCls xs) cell) (i + 1) := by
  intro j hj m hm2
  by_cases c : j = i
  · subst c
    rw [ha.ho] at hm2 ⊢
    simp only [erO, ha.hs] at hm2 ⊢
    exact hm m hm2
  · exact h j (by omega) m hm2
theorem OccAt.bad {xs : List Cell} {cell : Int} {zs : List Occ} {i m : Nat} (ha : OccAt xs cell zs i) (hm : m < (gd xs (gd zs i).cell.toNat).shapes.xs.length) (h : validRect (moveR (gd zs i).place (gd (gd xs (gd zs i).cell.toNat).shapes.xs m).box) = false) : ((flatL (erCls xs) (occR (erCls xs) cell)).any fun s => !validRect s.box) = true := by
  refine flat_bad (i := i) (m := m) ha.hi ?_ ?_
  · rw [ha.ho]; simp only [erO, ha.hs]; exact hm
  · rw [ha.ho]; simp only [erO, ha.hs]; exact h
theorem flat_i {l : Lib} {cell : Int} (hL : RLib G L l.cells.v l.cells.xs) (hlen : lenC (erCls l.cells.xs)) (k : ∀ v', R (.tuple #[v', vi (shE (erCls l.cells.xs) cell)]) G (osl 135 shapeT v' (shR (erCls l.cells.xs) cell) :: L)) : CallT Tryz.prog 91 #[vT libT l, vi cell] G L R := by
  have hE := erCls_len l.cells.xs
  refine CallT.enter (args := _) Tryz.func91 rfl rfl (by kernel_rfl) rfl ?_
  refine WP.seq ?_
  refine WP.region ?_
  refine RG.ot rfl (OT.box (cs := libT.enc l) rfl rfl rfl fun b2 => ?_)
  refine RG.pv rfl (PV.asg rfl rfl) ?_
  refine RG.pv rfl (PV.mvI (.inr rfl) rfl) ?_
  refine RG.nil ?_
  refine WP.seq ?_
  refine WP.region ?_
  refine RG.pv rfl (PV.loadW rfl Ag30 rfl rfl) ?_
  refine RG.pv rfl (PV.mvI (.inl rfl) rfl) ?_
  refine RG.callF (vs := [_, _]) rfl rfl En92 rfl (occ_i hL.up hlen (fun w17 zs he => ?_))
  refine RG.pv rfl (PV.move (v := .tuple _) rfl rfl) ?_
  refine RG.pv rfl (PV.ext (v := w17) rfl rfl rfl) ?_
  refine RG.pv rfl (PV.ext rfl rfl rfl) ?_
  refine RG.pv rfl (PV.asg (v := w17) rfl rfl) ?_
  refine RG.pv rfl (PV.mvI (.inr rfl) rfl) ?_
  refine RG.nil ?_
  refine WP.seq ?_
  refine WP.seq ?_
  refine WP.region ?_
  refine RG.pv rfl (PV.mvI (.inl rfl) rfl) ?_
  refine RG.pv rfl (PV.neq rfl rfl rfl) ?_
  refine RG.nil ?_
  refine WP.cond rfl (fun h1 => ?_) (fun h1 => ?_)
  · have h1 : occE (erCls l.cells.xs) cell ≠ 0 := by simpa using h1
    have e := shE_occ h1
    have e2 : shR (erCls l.cells.xs) cell = [] := shR_no (by rw [e]; exact h1)
    rw [e, e2] at k
    refine WP.seq ?_
    refine WP.region ?_
    refine RG.pv rfl (PV.mvI (.inl rfl) rfl) ?_
    refine RG.pv rfl (PV.asg rfl rfl) ?_
    refine RG.pv rfl (PV.mvI (.inr rfl) rfl) ?_
    refine RG.nil ?_
    refine WP.ret ?_
    exact ⟨_, _, ResV.two rfl rfl rfl, Cv.p.trans Cv.nilS, k (.slice none 0 0)⟩
  · have h1 : occE (erCls l.cells.xs) cell = 0 := by simpa using h1
    have hse := shE_flat h1
    have hzl : zs.length = (occR (erCls l.cells.xs) cell).length := by rw [← he, erOs_len]
    refine WP.skip ?_
    refine WP.seq ?_
    refine WP.region ?_
    refine RG.ot rfl (OT.bslice (F := shapeT) (els := []) rfl El76 rfl (by decide) rfl (by decide) trivial fun v23 => ?_)
    refine RG.pv rfl (PV.asg (v := v23) rfl rfl) ?_
    refine RG.nil ?_
    refine WP.seq ?_
    refine WP.seq ?_
    refine WP.region ?_
    refine RG.pv rfl (PV.move (v := w17) rfl rfl) ?_
    refine RG.pv rfl (PV.len (v := w17) rfl Tryz.underlying98 rfl SlF.o) ?_
    refine RG.pv rfl (PV.mvI (.inl rfl) rfl) ?_
    refine RG.nil ?_
    refine WP.block ?_
    refine WP.bdo w17 fun hbz => ?_
    refine WP.cv (Cv.eqS (ys := flatL (erCls l.cells.xs) ((occR (erCls l.cells.xs) cell).take 0)) rfl) ?_
    refine WP.loop2 [2, 24, 25] (fun (i : Nat) (v : Value) => i ≤ zs.length ∧ goodTo (erCls l.cells.xs) (occR (erCls l.cells.xs) cell) i) (fun (i : Nat) (v : Value) => [(26, vi i), (8, v)]) (fun (i : Nat) (v : Value) => osl 135 shapeT v (flatL (erCls l.cells.xs) ((occR (erCls l.cells.xs) cell).take i)) :: osl 126 occT w17 zs :: bagS 2 intT (pths zs) :: blk b2 30 (libT.enc l) :: L) (fun (i : Nat) (v : Value) => zs.length - i) 0 v23 ⟨by omega, fun j h => by omega⟩ ⟨rfl, rfl, trivial⟩ Cv.p ?_
    rintro i v τ ⟨hi, hg⟩
    refine WP.seq ?_
    refine WP.region ?_
    refine RG.pv rfl (PV.lss rfl rfl rfl) ?_
    refine RG.nil ?_
    refine WP.seq ?_
    have hfb := flatL_bd (cs := (erCls l.cells.xs)) (cell := cell) i (by omega)
    refine WP.cond rfl (fun h2 => ?_) (fun h2 => ?_)
    · have h2 := of_decide_eq_true h2
      have h3 : i < zs.length := by omega
      have ha := OccAt.of (cell := cell) he h3
      have hrd : Rs G (bagS 2 intT (pths zs) :: []) intT (gd zs i).path.v (gd zs i).path.xs := RsE.path RsE.o h3
      have hac := ha.hc
      have hal := ha.hl
      have hsl := hL.sa ha.hc.2
      refine WP.skip ?_
      refine WP.seq ?_
      refine WP.block ?_
      refine WP.seq ?_
      refine WP.region ?_
      refine RG.pv rfl (PV.idxS (v := w17) rfl Is98 rfl SlF.o rfl rfl (by omega)) ?_
      refine RG.pv rfl (PV.loadE rfl Ag126 rfl rfl (El.o (getG (by omega)))) ?_
      refine RG.ot rfl (OT.alloc rfl Zr126 fun b10 => ?_)
      refine RG.ot rfl (OT.storeW (vs := [vi _, vi _, vi _, vi _, _]) rfl Sz126 rfl rfl (Cl.c rfl) rfl rfl (OneC.val rfl (OneC.val rfl (OneC.val rfl (OneC.val rfl (OneC.sl (SlF.r hrd) OneC.nil))))) ?_)
      refine RG.nil ?_
      refine WP.seq ?_
      refine WP.region ?_
      refine RG.pv rfl (PV.field rfl Fo30_0 rfl) ?_
      refine RG.pv rfl (PV.load1 rfl Sc28 rfl (Rd.blk rfl)) ?_
      refine RG.pv rfl (PV.field rfl Fo126_0 rfl) ?_
      refine RG.pv rfl (PV.load1 rfl Sc2 rfl (Rd.blk rfl)) ?_
      refine RG.pv rfl (PV.idxS (j := (gd zs i).cell.toNat) rfl Is28 rfl (SlF.r hL.c) rfl (by omega) (by omega)) ?_
      refine RG.pv rfl (PV.field rfl Fo85_1 rfl) ?_
      refine RG.pv rfl (PV.loadF rfl Sc76 rfl rfl (El.r hL.c (getG (by omega))) rfl) ?_
      refine RG.pv rfl (PV.len rfl Tryz.underlying76 rfl (SlF.r hsl)) ?_
      refine RG.pv rfl (PV.mvI (.inl rfl) rfl) ?_
      refine RG.nil ?_
      refine WP.block ?_
      refine WP.cv ((Cv.p (C := osl 135 shapeT v (flatL (erCls l.cells.xs) ((occR (erCls l.cells.xs) cell).take i)) :: osl 126 occT w17 zs :: bagS 2 intT (pths zs) :: blk b2 30 (libT.enc l) :: blk b10 126 (occT.enc (gd zs i)) :: L)).trans (Cv.eqS (ys := flatL (erCls l.cells.xs) ((occR (erCls l.cells.xs) cell).take i) ++ (flatOf (erCls l.cells.xs) (gd (occR (erCls l.cells.xs) cell) i)).take 0) (by simp))) ?_
      refine WP.loop2 [2, 10, 24, 25, 26, 36, 37] (fun (m : Nat) (v : Value) => m ≤ (gd l.cells.xs (gd zs i).cell.toNat).shapes.xs.length ∧ ∀ j, j < m → validRect (moveR (gd zs i).place (gd (gd l.cells.xs (gd zs i).cell.toNat).shapes.xs j).box) = true) (fun (m : Nat) (v : Value) => [(38, vi m), (8, v)]) (fun (m : Nat) (v : Value) => osl 135 shapeT v (flatL (erCls l.cells.xs) ((occR (erCls l.cells.xs) cell).take i) ++ (flatOf (erCls l.cells.xs) (gd (occR (erCls l.cells.xs) cell) i)).take m) :: osl 126 occT w17 zs :: bagS 2 intT (pths zs) :: blk b2 30 (libT.enc l) :: blk b10 126 (occT.enc (gd zs i)) :: L) (fun (m : Nat) (v : Value) => (gd l.cells.xs (gd zs i).cell.toNat).shapes.xs.length - m) 0 v ⟨by omega, fun j h => by omega⟩ ⟨rfl, rfl, trivial⟩ Cv.p ?_
      rintro m v τ ⟨hm, hq⟩
      refine WP.seq ?_
      refine WP.region ?_
      refine RG.pv rfl (PV.lss rfl rfl rfl) ?_
      refine RG.nil ?_
      refine WP.seq ?_
      refine WP.cond rfl (fun h4 => ?_) (fun h4 => ?_)
      · have h4 := of_decide_eq_true h4
        have hst := ha.step (m := m) (by omega)
        have hll : (flatL (erCls l.cells.xs) ((occR (erCls l.cells.xs) cell).take i) ++ (flatOf (erCls l.cells.xs) (gd (occR (erCls l.cells.xs) cell) i)).take m).length ≤ 6000 := by rw [List.length_append, List.length_take]; omega
        refine WP.skip ?_
        refine WP.seq ?_
        refine WP.block ?_
        refine WP.seq ?_
        refine WP.region ?_
        refine RG.pv rfl (PV.idxS rfl Is76 rfl (SlF.r hsl) rfl rfl (by omega)) ?_
        refine RG.pv rfl (PV.loadE rfl Ag135 rfl rfl (El.r hsl (getG (by omega)))) ?_
        refine RG.ot rfl (OT.alloc rfl Zr135 fun b12 => ?_)
        refine RG.ot rfl (OT.storeW (vs := [vi _, vi _, vi _, vi _, vi _]) rfl Sz135 rfl rfl (Cl.c rfl) rfl rfl (OneC.c rfl) ?_)
        refine RG.nil ?_
        refine WP.seq ?_
        refine WP.region ?_
        refine RG.pv rfl (PV.field rfl Fo126_1 rfl) ?_
        refine RG.pv rfl (PV.loadB (vs := [_, _, _]) rfl Ag124 rfl rfl rfl) ?_
        refine RG.pv rfl (PV.field rfl Fo135_1 rfl) ?_
        refine RG.pv rfl (PV.loadB (vs := [_, _, _, _]) rfl Ag116 rfl rfl rfl) ?_
        refine RG.callF (vs := [_, _]) rfl rfl En94 rfl (moveRect_s ha.hp.1 ha.hp.2 (ha.hb m (by omega)) ?_)
        refine RG.ot rfl (OT.alloc rfl Zr116 fun b13 => ?_)
        refine RG.ot rfl (OT.storeW (vs := [vi _, vi _, vi _, vi _]) rfl Sz116 rfl rfl (Cl.c rfl) rfl rfl (OneC.c rfl) ?_)
        refine RG.nil ?_
        refine WP.seq ?_
        refine WP.seq ?_
        refine WP.region ?_
        refine RG.pv rfl (PV.loadW rfl Ag116 rfl rfl) ?_
        refine RG.callF (vs := [_]) rfl rfl En95 rfl (validRect_s ?_)
        refine RG.pv rfl (PV.not rfl rfl) ?_
        refine RG.nil ?_
        refine WP.cond rfl (fun h5 => ?_) (fun h5 => ?_)
        · have e : shE (erCls l.cells.xs) cell = 2 := by rw [hse, ha.bad (m := m) (by omega) (by simpa using h5)]; rfl
          have e2 : shR (erCls l.cells.xs) cell = [] := shR_no (by rw [e]; decide)
          rw [e, e2] at k
          refine WP.seq ?_
          refine WP.region ?_
          refine RG.pv rfl (PV.asg rfl rfl) ?_
          refine RG.pv rfl (PV.mvI (.inr rfl) rfl) ?_
          refine RG.nil ?_
          refine WP.ret ?_
          exact ⟨_, _, ResV.two rfl rfl rfl, Cv.p.trans Cv.nilS, k (.slice none 0 0)⟩
        · have hq' : ∀ j, j < m + 1 → validRect (moveR (gd zs i).place (gd (gd l.cells.xs (gd zs i).cell.toNat).shapes.xs j).box) = true := fun j h => by
            by_cases c : j = m
            · rw [c]; simpa using h5
            · exact hq j (by omega)
          refine WP.skip ?_
          refine WP.region ?_
          refine RG.pv rfl (PV.move (v := v) rfl rfl) ?_
          refine RG.pv rfl (PV.field rfl Fo135_0 rfl) ?_
          refine RG.pv rfl (PV.load1 rfl Sc2 rfl (Rd.blk rfl)) ?_
          refine RG.pv rfl (PV.loadW rfl Ag116 rfl rfl) ?_
          refine RG.pv rfl (PV.build (vs := [(0, [vi _]), (1, [vi _, vi _, vi _, vi _])]) (out := [_, _, _, _, _]) rfl Zr135 Pl135 ⟨rfl, (Cl.c rfl), ⟨rfl, (Cl.c rfl), trivial⟩⟩ rfl) ?_
          refine RG.ot rfl (OT.bslice (F := shapeT) (els := [⟨(gd (gd l.cells.xs (gd zs i).cell.toNat).shapes.xs m).layer, moveR (gd zs i).place (gd (gd l.cells.xs (gd zs i).cell.toNat).shapes.xs m).box⟩]) rfl El76 rfl (by decide) rfl (by decide) ⟨rfl, (Cl.c rfl), trivial⟩ fun v55 => ?_)
          refine RG.ot rfl (OT.append (v := v) (u := v55) (F := shapeT) rfl El76 rfl (by decide) rfl rfl Rs.o (OneL.c (fun _ => rfl)) rfl (by first | omega | (simp <;> omega)) fun v56 => ?_)
          refine RG.pv rfl (PV.asg (v := v56) rfl rfl) ?_
          refine RG.nil ?_
          refine WP.region ?_
          refine RG.pv rfl (PV.add rfl rfl rfl (by omega)) ?_
          refine RG.pv rfl (PV.mvI (.inl rfl) rfl) ?_
          refine RG.nil ?_
          exact ⟨rfl, m + 1, v56, ⟨by omega, hq'⟩, ⟨rfl, rfl, trivial⟩, ⟨rfl, rfl, rfl, rfl, rfl, rfl, rfl, trivial⟩, ((Cv.p (C := osl 135 shapeT v56 (flatL (erCls l.cells.xs) ((occR (erCls l.cells.xs) cell).take i) ++ (flatOf (erCls l.cells.xs) (gd (occR (erCls l.cells.xs) cell) i)).take m ++ [⟨(gd (gd l.cells.xs (gd zs i).cell.toNat).shapes.xs m).layer, moveR (gd zs i).place (gd (gd l.cells.xs (gd zs i).cell.toNat).shapes.xs m).box⟩]) :: osl 126 occT w17 zs :: bagS 2 intT (pths zs) :: blk b2 30 (libT.enc l) :: blk b10 126 (occT.enc (gd zs i)) :: L)).trans (Cv.eqS (by rw [List.append_assoc, ← hst]))), by omega⟩
      · have h4 := of_decide_eq_false h4
        have e : flatL (erCls l.cells.xs) ((occR (erCls l.cells.xs) cell).take i) ++ (flatOf (erCls l.cells.xs) (gd (occR (erCls l.cells.xs) cell) i)).take m = flatL (erCls l.cells.xs) ((occR (erCls l.cells.xs) cell).take (i + 1)) := by rw [List.take_of_length_le (i := m) (l := flatOf (erCls l.cells.xs) (gd (occR (erCls l.cells.xs) cell) i)) (by rw [ha.len]; omega), flatL_take ha.hi]
        refine WP.exit ?_
        refine WP.region ?_
        refine RG.pv rfl (PV.add rfl rfl rfl (by omega)) ?_
        refine RG.pv rfl (PV.mvI (.inl rfl) rfl) ?_
        refine RG.nil ?_
        exact ⟨rfl, i + 1, v, ⟨by omega, hg.next ha (fun j h => hq j (by omega))⟩, ⟨rfl, rfl, trivial⟩, ⟨rfl, rfl, rfl, trivial⟩, ((Cv.eqS e).trans Cv.p), by omega⟩
    · have h2 := of_decide_eq_false h2
      have e : shE (erCls l.cells.xs) cell = 0 := by rw [hse, flat_good (fun j h => hg j (by omega))]; rfl
      have e2 : shR (erCls l.cells.xs) cell = flatL (erCls l.cells.xs) ((occR (erCls l.cells.xs) cell).take i) := by rw [shR_ok e, List.take_of_length_le (by omega)]
      rw [e, e2] at k
      refine WP.exit ?_
      refine WP.seq ?_
      refine WP.region ?_
      refine RG.pv rfl (PV.move (v := v) rfl rfl) ?_
      refine RG.pv rfl (PV.asg (v := v) rfl rfl) ?_
      refine RG.pv rfl (PV.mvI (.inr rfl) rfl) ?_
      refine RG.nil ?_
      refine WP.ret ?_
      exact ⟨_, _, ResV.two rfl rfl rfl, Cv.p, k v⟩
theorem OccAt.big {xs : List Cell} {cell : Int} {zs : List Occ} {i : Nat} (h : OccAt xs cell zs i) : TBig (gd zs i).place := by
  obtain ⟨q1, q2⟩ := h.hp
  exact ⟨q1, by omega⟩
theorem flat_r {l : Lib} {cell : Int} (hL : RLib G L l.cells.v l.cells.xs) (hlen : lenC (erCls l.cells.xs)) (k : ∀ v', R (.tuple #[v', vi (shE (erCls l.cells.xs) cell)]) G (osl 135 shapeT v' (shR (erCls l.cells.xs) cell) :: L)) : CallT Tryz.prog 54 #[vT libT l, vi cell] G L R := by
  have hE := erCls_len l.cells.xs
  refine CallT.enter (args := _) Tryz.func54 rfl rfl (by kernel_rfl) rfl ?_
  refine WP.seq ?_
  refine WP.region ?_
  refine RG.ot rfl (OT.box (cs := libT.enc l) rfl rfl rfl fun b2 => ?_)
  refine RG.pv rfl (PV.asg rfl rfl) ?_
  refine RG.pv rfl (PV.mvI (.inr rfl) rfl) ?_
  refine RG.nil ?_
  refine WP.seq ?_
  refine WP.region ?_
  refine RG.pv rfl (PV.loadW rfl Ag30 rfl rfl) ?_
  refine RG.pv rfl (PV.mvI (.inl rfl) rfl) ?_
  refine RG.callF (vs := [_, _]) rfl rfl En73 rfl (occ_r hL.up hlen (fun w16 zs he => ?_))
  refine RG.pv rfl (PV.move (v := .tuple _) rfl rfl) ?_
  refine RG.pv rfl (PV.ext (v := w16) rfl rfl rfl) ?_
  refine RG.pv rfl (PV.ext rfl rfl rfl) ?_
  refine RG.pv rfl (PV.asg (v := w16) rfl rfl) ?_
  refine RG.pv rfl (PV.mvI (.inr rfl) rfl) ?_
  refine RG.nil ?_
  refine WP.seq ?_
  refine WP.seq ?_
  refine WP.region ?_
  refine RG.pv rfl (PV.mvI (.inl rfl) rfl) ?_
  refine RG.pv rfl (PV.neq rfl rfl rfl) ?_
  refine RG.nil ?_
  refine WP.cond rfl (fun h1 => ?_) (fun h1 => ?_)
  · have h1 : occE (erCls l.cells.xs) cell ≠ 0 := by simpa using h1
    have e := shE_occ h1
    have e2 : shR (erCls l.cells.xs) cell = [] := shR_no (by rw [e]; exact h1)
    rw [e, e2] at k
    refine WP.seq ?_
    refine WP.region ?_
    refine RG.pv rfl (PV.mvI (.inl rfl) rfl) ?_
    refine RG.pv rfl (PV.asg rfl rfl) ?_
    refine RG.pv rfl (PV.mvI (.inr rfl) rfl) ?_
    refine RG.nil ?_
    refine WP.ret ?_
    exact ⟨_, _, ResV.two rfl rfl rfl, Cv.p.trans Cv.nilS, k (.slice none 0 0)⟩
  · have h1 : occE (erCls l.cells.xs) cell = 0 := by simpa using h1
    have hse := shE_flat h1
    have hzl : zs.length = (occR (erCls l.cells.xs) cell).length := by rw [← he, erOs_len]
    refine WP.skip ?_
    refine WP.seq ?_
    refine WP.region ?_
    refine RG.ot rfl (OT.bslice (F := shapeT) (els := []) rfl El76 rfl (by decide) rfl (by decide) trivial fun v22 => ?_)
    refine RG.pv rfl (PV.asg (v := v22) rfl rfl) ?_
    refine RG.nil ?_
    refine WP.seq ?_
    refine WP.seq ?_
    refine WP.region ?_
    refine RG.pv rfl (PV.mvI (.inr rfl) rfl) ?_
    refine RG.nil ?_
    refine WP.block ?_
    refine WP.bdo w16 fun hbz => ?_
    refine WP.cv (Cv.eqS (ys := flatL (erCls l.cells.xs) ((occR (erCls l.cells.xs) cell).take 0)) rfl) ?_
    refine WP.loop2 [2, 6] (fun (i : Nat) (v : Value) => i ≤ zs.length ∧ goodTo (erCls l.cells.xs) (occR (erCls l.cells.xs) cell) i) (fun (i : Nat) (v : Value) => [(9, vi i), (8, v)]) (fun (i : Nat) (v : Value) => osl 135 shapeT v (flatL (erCls l.cells.xs) ((occR (erCls l.cells.xs) cell).take i)) :: osl 126 occT w16 zs :: bagS 2 intT (pths zs) :: blk b2 30 (libT.enc l) :: L) (fun (i : Nat) (v : Value) => zs.length - i) 0 v22 ⟨by omega, fun j h => by omega⟩ ⟨rfl, rfl, trivial⟩ Cv.p ?_
    rintro i v τ ⟨hi, hg⟩
    refine WP.seq ?_
    refine WP.seq ?_
    refine WP.region ?_
    refine RG.pv rfl (PV.mvI (.inl rfl) rfl) ?_
    refine RG.pv rfl (PV.move (v := w16) rfl rfl) ?_
    refine RG.pv rfl (PV.len (v := w16) rfl Tryz.underlying98 rfl SlF.o) ?_
    refine RG.pv rfl (PV.lss rfl rfl rfl) ?_
    refine RG.nil ?_
    have hfb := flatL_bd (cs := (erCls l.cells.xs)) (cell := cell) i (by omega)
    refine WP.cond rfl (fun h2 => ?_) (fun h2 => ?_)
    · have h2 := of_decide_eq_true h2
      have h3 : i < zs.length := by omega
      have ha := OccAt.of (cell := cell) he h3
      have hac := ha.hc
      have hal := ha.hl
      have hsl := hL.sa ha.hc.2
      refine WP.skip ?_
      refine WP.seq ?_
      refine WP.block ?_
      refine WP.seq ?_
      refine WP.regionH0 (.q 0 (.q 1 (.q 2 (.q 3 (.q 4 (.q 5 (.q 6 (.q 7 (.q 8 (.l 9 (.l 10 Sch.nil))))))))))) (by kernel_rfl) (by kernel_rfl) (by kernel_rfl) rfl ?_
      refine RH.pv rfl (fun _ _ _ _ h => h) (Gh.le_refl _) PickC.pick rfl (PV.field rfl Fo30_0 rfl) ?_
      refine RH.pv rfl (fun _ _ _ _ h => h) (Gh.le_refl _) PickC.pick rfl (PV.load1 rfl Sc28 rfl (Rd.blk rfl)) ?_
      refine RH.pv rfl (fun _ _ _ _ h => h) (Gh.le_refl _) PickC.pick rfl (PV.move (v := w16) rfl rfl) ?_
      refine RH.pv rfl (fun _ _ _ _ h => h) (Gh.le_refl _) PickC.pick rfl (PV.mvI (.inl rfl) rfl) ?_
      refine RH.pv rfl (fun _ _ _ _ h => h) (Gh.le_refl _) PickC.pick rfl (PV.idxS (v := w16) rfl Is98 rfl SlF.o rfl rfl (by omega)) ?_
      refine RH.pv rfl (fun _ _ _ _ h => h) (Gh.le_refl _) PickC.pick rfl (PV.field rfl Fo126_0 rfl) ?_
      refine RH.pv rfl (fun _ _ _ _ h => h) (Gh.le_refl _) PickC.pick rfl (PV.loadF rfl Sc2 rfl rfl (El.o (getG (by omega))) rfl) ?_
      refine RH.pv rfl (fun _ _ _ _ h => h) (Gh.le_refl _) PickC.pick rfl (PV.idxS (j := (gd zs i).cell.toNat) rfl Is28 rfl (SlF.r hL.c) rfl (by omega) (by omega)) ?_
      refine RH.pv rfl (fun _ _ _ _ h => h) (Gh.le_refl _) PickC.pick rfl (PV.loadE rfl Ag85 rfl rfl (El.r hL.c (getG (by omega)))) ?_
      refine RH.ot rfl rfl (OT.alloc rfl Zr85 fun b10 => ⟨Gh.le_refl _, PickC.pick, ?_⟩)
      refine RH.ot rfl rfl (OT.storeW (vs := [.string _, _, _, _]) rfl Sz85 rfl rfl (Cl.c rfl) rfl rfl (hL.one ha.hc.2) ⟨Gh.le_refl _, PickC.pick, ?_⟩)
      refine RH.nil ?_
      refine WP.seq ?_
      refine WP.region ?_
      refine RG.pv rfl (PV.mvI (.inr rfl) rfl) ?_
      refine RG.nil ?_
      refine WP.block ?_
      refine WP.cv ((Cv.p (C := osl 135 shapeT v (flatL (erCls l.cells.xs) ((occR (erCls l.cells.xs) cell).take i)) :: osl 126 occT w16 zs :: bagS 2 intT (pths zs) :: blk b2 30 (libT.enc l) :: blk b10 85 (cellT.enc (gd l.cells.xs (gd zs i).cell.toNat)) :: L)).trans (Cv.eqS (ys := flatL (erCls l.cells.xs) ((occR (erCls l.cells.xs) cell).take i) ++ (flatOf (erCls l.cells.xs) (gd (occR (erCls l.cells.xs) cell) i)).take 0) (by simp))) ?_
      refine WP.loop2 [2, 6, 9, 10] (fun (m : Nat) (v : Value) => m ≤ (gd l.cells.xs (gd zs i).cell.toNat).shapes.xs.length ∧ ∀ j, j < m → validRect (moveR (gd zs i).place (gd (gd l.cells.xs (gd zs i).cell.toNat).shapes.xs j).box) = true) (fun (m : Nat) (v : Value) => [(11, vi m), (8, v)]) (fun (m : Nat) (v : Value) => osl 135 shapeT v (flatL (erCls l.cells.xs) ((occR (erCls l.cells.xs) cell).take i) ++ (flatOf (erCls l.cells.xs) (gd (occR (erCls l.cells.xs) cell) i)).take m) :: osl 126 occT w16 zs :: bagS 2 intT (pths zs) :: blk b2 30 (libT.enc l) :: blk b10 85 (cellT.enc (gd l.cells.xs (gd zs i).cell.toNat)) :: L) (fun (m : Nat) (v : Value) => (gd l.cells.xs (gd zs i).cell.toNat).shapes.xs.length - m) 0 v ⟨by omega, fun j h => by omega⟩ ⟨rfl, rfl, trivial⟩ Cv.p ?_
      rintro m v τ ⟨hm, hq⟩
      refine WP.seq ?_
      refine WP.seq ?_
      refine WP.region ?_
      refine RG.pv rfl (PV.mvI (.inl rfl) rfl) ?_
      refine RG.pv rfl (PV.field rfl Fo85_1 rfl) ?_
      refine RG.pv rfl (PV.load1 rfl Sc76 rfl (Rd.blk rfl)) ?_
      refine RG.pv rfl (PV.len rfl Tryz.underlying76 rfl (SlF.r hsl)) ?_
      refine RG.pv rfl (PV.lss rfl rfl rfl) ?_
      refine RG.nil ?_
      refine WP.cond rfl (fun h4 => ?_) (fun h4 => ?_)
      · have h4 := of_decide_eq_true h4
        have hst := ha.step (m := m) (by omega)
        have hll : (flatL (erCls l.cells.xs) ((occR (erCls l.cells.xs) cell).take i) ++ (flatOf (erCls l.cells.xs) (gd (occR (erCls l.cells.xs) cell) i)).take m).length ≤ 6000 := by rw [List.length_append, List.length_take]; omega
        refine WP.skip ?_
        refine WP.seq ?_
        refine WP.block ?_
        refine WP.cut1 [2, 6, 8, 9, 10, 11] (fun (b12 : Nat) => True) (fun (b12 : Nat) => [(12, .pointer (some ⟨b12, 0, none⟩))]) (fun (b12 : Nat) => blk b12 116 (rectT.enc (moveR (gd zs i).place (gd (gd l.cells.xs (gd zs i).cell.toNat).shapes.xs m).box)) :: osl 135 shapeT v (flatL (erCls l.cells.xs) ((occR (erCls l.cells.xs) cell).take i) ++ (flatOf (erCls l.cells.xs) (gd (occR (erCls l.cells.xs) cell) i)).take m) :: osl 126 occT w16 zs :: bagS 2 intT (pths zs) :: blk b2 30 (libT.enc l) :: blk b10 85 (cellT.enc (gd l.cells.xs (gd zs i).cell.toNat)) :: L) ?_ ?_
        refine WP.regionH0 (.q 0 (.q 1 (.q 2 (.q 3 (.q 4 (.q 5 (.q 6 (.q 7 (.q 8 (.q 9 (.q 10 (.b 11 (.l 12 (.l 13 Sch.nil)) 12 (.l 11 (.l 13 Sch.nil)))))))))))))) (by kernel_rfl) (by kernel_rfl) (by kernel_rfl) rfl ?_
        refine RH.pv rfl (fun _ _ _ _ h => h) (Gh.le_refl _) PickC.pick rfl (PV.move (v := w16) rfl rfl) ?_
        refine RH.pv rfl (fun _ _ _ _ h => h) (Gh.le_refl _) PickC.pick rfl (PV.mvI (.inl rfl) rfl) ?_
        refine RH.pv rfl (fun _ _ _ _ h => h) (Gh.le_refl _) PickC.pick rfl (PV.idxS (v := w16) rfl Is98 rfl SlF.o rfl rfl (by omega)) ?_
        refine RH.pv rfl (fun _ _ _ _ h => h) (Gh.le_refl _) PickC.pick rfl (PV.field rfl Fo126_1 rfl) ?_
        refine RH.pv rfl (fun _ _ _ _ h => h) (Gh.le_refl _) PickC.pick rfl (PV.loadEP rfl Ag124 rfl rfl (El.o (getG (by omega))) rfl) ?_
        refine RH.pv rfl (fun _ _ _ _ h => h) (Gh.le_refl _) PickC.pick rfl (PV.field rfl Fo85_1 rfl) ?_
        refine RH.pv rfl (fun _ _ _ _ h => h) (Gh.le_refl _) PickC.pick rfl (PV.load1 rfl Sc76 rfl (Rd.blk rfl)) ?_
        refine RH.pv rfl (fun _ _ _ _ h => h) (Gh.le_refl _) PickC.pick rfl (PV.mvI (.inl rfl) rfl) ?_
        refine RH.pv rfl (fun _ _ _ _ h => h) (Gh.le_refl _) PickC.pick rfl (PV.idxS rfl Is76 rfl (SlF.r hsl) rfl rfl (by omega)) ?_
        refine RH.pv rfl (fun _ _ _ _ h => h) (Gh.le_refl _) PickC.pick rfl (PV.field rfl Fo135_1 rfl) ?_
        refine RH.pv rfl (fun _ _ _ _ h => h) (Gh.le_refl _) PickC.pick rfl (PV.loadEP rfl Ag116 rfl rfl (El.r hsl (getG (by omega))) rfl) ?_
        · refine RH.ot2 rfl rfl rfl rfl  (OT.callF (vs := [_, _]) rfl En100 rfl (l10Rect_r ha.big (ha.hb m (by omega)) ⟨Gh.le_refl _, PickC.pick, ?_⟩)) (OT.alloc rfl Zr116 fun b12 => ⟨Gh.le_refl _, PickC.pick, ?_⟩)
          · refine RH.ot rfl rfl (OT.alloc rfl Zr116 fun b12 => ⟨Gh.le_refl _, PickC.pick, ?_⟩)
            refine RH.ot rfl rfl (OT.storeW (vs := [vi _, vi _, vi _, vi _]) rfl Sz116 rfl rfl (Cl.c rfl) rfl rfl (OneC.c rfl) ⟨Gh.le_refl _, PickC.pick, ?_⟩)
            refine RH.nil ?_
            exact ⟨rfl, b12, trivial, ⟨rfl, trivial⟩, ⟨rfl, rfl, rfl, rfl, rfl, rfl, trivial⟩, Cv.p⟩
          · refine RH.ot rfl rfl (OT.callF (vs := [_, _]) rfl En100 rfl (l10Rect_r ha.big (ha.hb m (by omega)) ⟨Gh.le_refl _, PickC.pick, ?_⟩))
            refine RH.ot rfl rfl (OT.storeW (vs := [vi _, vi _, vi _, vi _]) rfl Sz116 rfl rfl (Cl.c rfl) rfl rfl (OneC.c rfl) ⟨Gh.le_refl _, PickC.pick, ?_⟩)
            refine RH.nil ?_
            exact ⟨rfl, b12, trivial, ⟨rfl, trivial⟩, ⟨rfl, rfl, rfl, rfl, rfl, rfl, trivial⟩, Cv.p⟩
        rintro b12 τ5 -
        refine WP.seq ?_
        refine WP.seq ?_
        refine WP.region ?_
        refine RG.pv rfl (PV.loadW rfl Ag116 rfl rfl) ?_
        refine RG.callF (vs := [_]) rfl rfl En101 rfl (l09Rect_r ?_)
        refine RG.pv rfl (PV.not rfl rfl) ?_
        refine RG.nil ?_
        refine WP.cond rfl (fun h5 => ?_) (fun h5 => ?_)
        · have e : shE (erCls l.cells.xs) cell = 2 := by rw [hse, ha.bad (m := m) (by omega) (by simpa using h5)]; rfl
          have e2 : shR (erCls l.cells.xs) cell = [] := shR_no (by rw [e]; decide)
          rw [e, e2] at k
          refine WP.seq ?_
          refine WP.region ?_
          refine RG.pv rfl (PV.asg rfl rfl) ?_
          refine RG.pv rfl (PV.mvI (.inr rfl) rfl) ?_
          refine RG.nil ?_
          refine WP.ret ?_
          exact ⟨_, _, ResV.two rfl rfl rfl, Cv.p.trans Cv.nilS, k (.slice none 0 0)⟩
        · have hq' : ∀ j, j < m + 1 → validRect (moveR (gd zs i).place (gd (gd l.cells.xs (gd zs i).cell.toNat).shapes.xs j).box) = true := fun j h => by
            by_cases c : j = m
            · rw [c]; simpa using h5
            · exact hq j (by omega)
          refine WP.skip ?_
          refine WP.regionHD [.s v] (.q 0 (.q 1 (.q 2 (.q 3 (.q 4 (.q 5 (.q 6 (.q 7 (.q 8 (.l 9 (.l 10 (.q 11 Sch.nil)))))))))))) (by kernel_rfl) (by kernel_rfl) (by kernel_rfl) rfl ?_
          refine RH.pv rfl (fun _ _ _ _ h => h) (Gh.le_refl _) PickC.pick rfl (PV.move (v := v) rfl rfl) ?_
          refine RH.pv rfl (fun _ _ _ _ h => h) (Gh.le_refl _) PickC.pick rfl (PV.field rfl Fo85_1 rfl) ?_
          refine RH.pv rfl (fun _ _ _ _ h => h) (Gh.le_refl _) PickC.pick rfl (PV.load1 rfl Sc76 rfl (Rd.blk rfl)) ?_
          refine RH.pv rfl (fun _ _ _ _ h => h) (Gh.le_refl _) PickC.pick rfl (PV.mvI (.inl rfl) rfl) ?_
          refine RH.pv rfl (fun _ _ _ _ h => h) (Gh.le_refl _) PickC.pick rfl (PV.idxS rfl Is76 rfl (SlF.r hsl) rfl rfl (by omega)) ?_
          refine RH.pv rfl (fun _ _ _ _ h => h) (Gh.le_refl _) PickC.pick rfl (PV.field rfl Fo135_0 rfl) ?_
          refine RH.pv rfl (fun _ _ _ _ h => h) (Gh.le_refl _) PickC.pick rfl (PV.loadF rfl Sc2 rfl rfl (El.r hsl (getG (by omega))) rfl) ?_
          refine RH.pv rfl (fun _ _ _ _ h => h) (Gh.le_refl _) PickC.pick rfl (PV.loadW rfl Ag116 rfl rfl) ?_
          refine RH.pv rfl (fun _ _ _ _ h => h) (Gh.le_refl _) PickC.pick rfl (PV.build (vs := [(0, [vi _]), (1, [vi _, vi _, vi _, vi _])]) (out := [_, _, _, _, _]) rfl Zr135 Pl135 ⟨rfl, (Cl.c rfl), ⟨rfl, (Cl.c rfl), trivial⟩⟩ rfl) ?_
          refine RH.ot rfl rfl (OT.bslice (F := shapeT) (els := [⟨(gd (gd l.cells.xs (gd zs i).cell.toNat).shapes.xs m).layer, moveR (gd zs i).place (gd (gd l.cells.xs (gd zs i).cell.toNat).shapes.xs m).box⟩]) rfl El76 rfl (by decide) rfl (by decide) ⟨rfl, (Cl.c rfl), trivial⟩ fun v69 => ⟨Gh.le_refl _, PickC.pick, ?_⟩)
          refine RH.ot rfl rfl (OT.append (v := v) (u := v69) (F := shapeT) rfl El76 rfl (by decide) rfl rfl Rs.o (OneL.c (fun _ => rfl)) rfl (by first | omega | (simp <;> omega)) fun v70 => ⟨Gh.le_refl _, PickC.pick, ?_⟩)
          refine RH.pv rfl (fun _ _ _ _ h => h) (Gh.le_refl _) PickC.pick rfl (PV.asg (v := v70) rfl rfl) ?_
          refine RH.nil ?_
          refine WP.region ?_
          refine RG.pv rfl (PV.mvI (.inl rfl) rfl) ?_
          refine RG.pv rfl (PV.add rfl rfl rfl (by omega)) ?_
          refine RG.pv rfl (PV.mvI (.inr rfl) rfl) ?_
          refine RG.nil ?_
          exact ⟨rfl, m + 1, v70, ⟨by omega, hq'⟩, ⟨rfl, rfl, trivial⟩, ⟨rfl, rfl, rfl, rfl, trivial⟩, ((Cv.p (C := osl 135 shapeT v70 (flatL (erCls l.cells.xs) ((occR (erCls l.cells.xs) cell).take i) ++ (flatOf (erCls l.cells.xs) (gd (occR (erCls l.cells.xs) cell) i)).take m ++ [⟨(gd (gd l.cells.xs (gd zs i).cell.toNat).shapes.xs m).layer, moveR (gd zs i).place (gd (gd l.cells.xs (gd zs i).cell.toNat).shapes.xs m).box⟩]) :: osl 126 occT w16 zs :: bagS 2 intT (pths zs) :: blk b2 30 (libT.enc l) :: blk b10 85 (cellT.enc (gd l.cells.xs (gd zs i).cell.toNat)) :: L)).trans (Cv.eqS (by rw [List.append_assoc, ← hst]))), by omega⟩
      · have h4 := of_decide_eq_false h4
        have e : flatL (erCls l.cells.xs) ((occR (erCls l.cells.xs) cell).take i) ++ (flatOf (erCls l.cells.xs) (gd (occR (erCls l.cells.xs) cell) i)).take m = flatL (erCls l.cells.xs) ((occR (erCls l.cells.xs) cell).take (i + 1)) := by rw [List.take_of_length_le (i := m) (l := flatOf (erCls l.cells.xs) (gd (occR (erCls l.cells.xs) cell) i)) (by rw [ha.len]; omega), flatL_take ha.hi]
        refine WP.exit ?_
        refine WP.region ?_
        refine RG.pv rfl (PV.mvI (.inl rfl) rfl) ?_
        refine RG.pv rfl (PV.add rfl rfl rfl (by omega)) ?_
        refine RG.pv rfl (PV.mvI (.inr rfl) rfl) ?_
        refine RG.nil ?_
        exact ⟨rfl, i + 1, v, ⟨by omega, hg.next ha (fun j h => hq j (by omega))⟩, ⟨rfl, rfl, trivial⟩, ⟨rfl, rfl, trivial⟩, ((Cv.eqS e).trans Cv.p), by omega⟩
    · have h2 := of_decide_eq_false h2
      have e : shE (erCls l.cells.xs) cell = 0 := by rw [hse, flat_good (fun j h => hg j (by omega))]; rfl
      have e2 : shR (erCls l.cells.xs) cell = flatL (erCls l.cells.xs) ((occR (erCls l.cells.xs) cell).take i) := by rw [shR_ok e, List.take_of_length_le (by omega)]
      rw [e, e2] at k
      refine WP.exit ?_
      refine WP.seq ?_
      refine WP.region ?_
      refine RG.pv rfl (PV.move (v := v) rfl rfl) ?_
      refine RG.pv rfl (PV.asg (v := v) rfl rfl) ?_
      refine RG.pv rfl (PV.mvI (.inr rfl) rfl) ?_
      refine RG.nil ?_
      refine WP.ret ?_
      exact ⟨_, _, ResV.two rfl rfl rfl, Cv.p, k v⟩
def layTo (ss : List Shape) (n : Nat) : List (List Rect) := (List.range n).map fun l => canon (bits (boxesOf ss l))
theorem layTo_next {ss : List Shape} {n : Nat} {zs : List (Sl Rect)} {u : Value} (h : er zs = layTo ss n) : er (zs ++ [⟨u, canon (bits (boxesOf ss n))⟩]) = layTo ss (n + 1) := by
  have e : er (zs ++ [(⟨u, canon (bits (boxesOf ss n))⟩ : Sl Rect)]) = er zs ++ [canon (bits (boxesOf ss n))] := by simp [er]
  rw [e, h, layTo, layTo, List.range_succ, List.map_append]; rfl
theorem layTo_len {ss : List Shape} {n : Nat} {zs : List (Sl Rect)} (h : er zs = layTo ss n) : zs.length = n := by
  have := congrArg List.length h; simpa [er, layTo] using this
theorem any_boxes {ss : List Shape} {i n y x : Nat} (h : i < ss.length) : ((boxesOf (ss.take (i + 1)) n).any fun r => inR r y x) = (((boxesOf (ss.take i) n).any fun r => inR r y x) || (decide ((gd ss i).layer = (n : Int)) && inR (gd ss i).box y x)) := by
  rw [boxesOf_step h, List.any_append]
  by_cases e : (gd ss i).layer = (n : Int) <;> simp [e]
theorem layers_i {v : Value} {ss : List Shape} (h1 : Rs G L shapeT v ss) (k : ∀ v' ys, er ys = layL ss → R v' G (osl 59 slT v' ys :: bagS 116 rectT ys :: L)) : CallT Tryz.prog 70 #[v] G L R := by
  refine CallT.bd h1 fun hb => ?_
  refine CallT.enter (args := _) Tryz.func70 rfl rfl (by kernel_rfl) rfl ?_
  refine WP.seq ?_
  refine WP.region ?_
  refine RG.pv rfl (PV.asg rfl rfl) ?_
  refine RG.nil ?_
  refine WP.seq ?_
  refine WP.region ?_
  refine RG.ot rfl (OT.bslice (F := (slT (α := Rect))) (els := []) rfl El41 rfl (by decide) rfl (by decide) trivial fun v8 => ?_)
  refine RG.pv rfl (PV.asg (v := v8) rfl rfl) ?_
  refine RG.nil ?_
  refine WP.seq ?_
  refine WP.seq ?_
  refine WP.region ?_
  refine RG.pv rfl (PV.mvI (.inl rfl) rfl) ?_
  refine RG.nil ?_
  refine WP.block ?_
  refine WP.cv (Cv.cons (Cv.bag0 (e := 116) (F := rectT) (xs := []) rfl)) ?_
  refine WP.loop3 [0] (fun (n : Nat) (vo : Value) (zs : List (Sl Rect)) => n ≤ 8 ∧ er zs = layTo ss n) (fun (n : Nat) (vo : Value) (zs : List (Sl Rect)) => [(9, vi n), (3, vo)]) (fun (n : Nat) (vo : Value) (zs : List (Sl Rect)) => osl 59 slT vo zs :: bagS 116 rectT zs :: L) (fun (n : Nat) (vo : Value) (zs : List (Sl Rect)) => 8 - n) 0 v8 [] ⟨by omega, rfl⟩ ⟨rfl, rfl, trivial⟩ Cv.p ?_
  rintro n vo zs τ ⟨hn, hz⟩
  refine WP.seq ?_
  refine WP.region ?_
  refine RG.pv rfl (PV.lss rfl rfl rfl) ?_
  refine RG.nil ?_
  refine WP.seq ?_
  have hzl := layTo_len hz
  refine WP.cond rfl (fun h2 => ?_) (fun h2 => ?_)
  · have h2 := of_decide_eq_true h2
    refine WP.skip ?_
    refine WP.seq ?_
    refine WP.block ?_
    refine WP.seq ?_
    refine WP.region ?_
    refine RG.pv rfl (PV.mvI (.inl rfl) rfl) ?_
    refine RG.pv rfl (PV.mvI (.inr rfl) rfl) ?_
    refine RG.nil ?_
    refine WP.seq ?_
    refine WP.region ?_
    refine RG.pv rfl (PV.build0 rfl Tryz.underlying165 ⟨80, by kernel_rfl⟩ (zeroB_spec (n := 6400) (by kernel_rfl))) ?_
    refine RG.ot rfl (OT.boxG rfl rfl fun b13 => ?_)
    refine RG.pv rfl (PV.mvP (.inr rfl) rfl) ?_
    refine RG.nil ?_
    refine WP.seq ?_
    refine WP.seq ?_
    refine WP.region ?_
    refine RG.pv rfl (PV.move (v := v) rfl rfl) ?_
    refine RG.pv rfl (PV.len (v := v) rfl Tryz.underlying76 rfl (SlF.r h1)) ?_
    refine RG.pv rfl (PV.mvI (.inl rfl) rfl) ?_
    refine RG.nil ?_
    refine WP.block ?_
    refine WP.loop2 [0, 3, 4, 5, 9, 14, 15] (fun (i : Nat) (cs : List Bool) => i ≤ ss.length ∧ cs.length = 6400 ∧ ∀ y x, y < 80 → x < 80 → gb cs y x = (boxesOf (ss.take i) n).any fun r => inR r y x) (fun (i : Nat) (cs : List Bool) => [(16, vi i)]) (fun (i : Nat) (cs : List Bool) => grd b13 cs :: osl 59 slT vo zs :: bagS 116 rectT zs :: L) (fun (i : Nat) (cs : List Bool) => ss.length - i) 0 (List.replicate 6400 false) ⟨by omega, by simp, fun y x _ _ => by rw [gb_rep]; simp [boxesOf]⟩ ⟨rfl, trivial⟩ Cv.p ?_
    rintro i cs τ1 ⟨hi, hl, hc⟩
    refine WP.seq ?_
    refine WP.region ?_
    refine RG.pv rfl (PV.lss rfl rfl rfl) ?_
    refine RG.nil ?_
    refine WP.seq ?_
    refine WP.cond rfl (fun h3 => ?_) (fun h3 => ?_)
    · have h3 := of_decide_eq_true h3
      have h4 : i < ss.length := by omega
      refine WP.skip ?_
      refine WP.seq ?_
      refine WP.block ?_
      refine WP.seq ?_
      refine WP.region ?_
      refine RG.pv rfl (PV.idxS (v := v) rfl Is76 rfl (SlF.r h1) rfl rfl (by omega)) ?_
      refine RG.pv rfl (PV.loadE rfl Ag135 rfl rfl (El.r h1 (getG (by omega)))) ?_
      refine RG.ot rfl (OT.alloc rfl Zr135 fun b7 => ?_)
      refine RG.ot rfl (OT.storeW (vs := [vi _, vi _, vi _, vi _, vi _]) rfl Sz135 rfl rfl (Cl.c rfl) rfl rfl (OneC.c rfl) ?_)
      refine RG.nil ?_
      refine WP.seq ?_
      refine WP.region ?_
      refine RG.pv rfl (PV.field rfl Fo135_0 rfl) ?_
      refine RG.pv rfl (PV.load1 rfl Sc2 rfl (Rd.blk rfl)) ?_
      refine RG.pv rfl (PV.mvI (.inl rfl) rfl) ?_
      refine RG.pv rfl (PV.eql rfl rfl rfl) ?_
      refine RG.nil ?_
      refine WP.cond rfl (fun h5 => ?_) (fun h5 => ?_)
      · have h5 := of_decide_eq_true h5
        refine WP.region ?_
        refine RG.pv rfl (PV.mvP (.inl rfl) rfl) ?_
        refine RG.pv rfl (PV.field rfl Fo135_1 rfl) ?_
        refine RG.pv rfl (PV.loadB (vs := [_, _, _, _]) rfl Ag116 rfl rfl rfl) ?_
        refine RG.callF (vs := [(.pointer (some ⟨b13, 0, none⟩)), _]) rfl rfl En116 rfl (CallT.exB (put_s (by assumption) (fun bs' hb' hg' => ?_)))
        refine RG.nil ?_
        refine WP.region ?_
        refine RG.pv rfl (PV.add rfl rfl rfl (by omega)) ?_
        refine RG.pv rfl (PV.mvI (.inl rfl) rfl) ?_
        refine RG.nil ?_
        refine ⟨rfl, i + 1, bs', ⟨by omega, hb', fun y x h6 h7 => ?_⟩, ⟨rfl, trivial⟩, ⟨rfl, rfl, rfl, rfl, rfl, rfl, rfl, trivial⟩, Cv.p, by omega⟩
        rw [hg' y x h6 h7, hc y x h6 h7, any_boxes h4, decide_eq_true h5, Bool.true_and]
      · have h5 := of_decide_eq_false h5
        refine WP.skip ?_
        refine WP.region ?_
        refine RG.pv rfl (PV.add rfl rfl rfl (by omega)) ?_
        refine RG.pv rfl (PV.mvI (.inl rfl) rfl) ?_
        refine RG.nil ?_
        refine ⟨rfl, i + 1, cs, ⟨by omega, hl, fun y x h6 h7 => ?_⟩, ⟨rfl, trivial⟩, ⟨rfl, rfl, rfl, rfl, rfl, rfl, rfl, trivial⟩, Cv.p, by omega⟩
        rw [hc y x h6 h7, any_boxes h4, decide_eq_false h5, Bool.false_and, Bool.or_false]
    · have h3 := of_decide_eq_false h3
      have e : cs = bits (boxesOf ss n) := bits_eq hl fun y x h6 h7 => by rw [hc y x h6 h7, List.take_of_length_le (by omega)]
      subst e
      refine WP.exit ?_
      refine WP.region ?_
      refine RG.pv rfl (PV.move (v := vo) rfl rfl) ?_
      refine RG.pv rfl (PV.mvP (.inl rfl) rfl) ?_
      refine RG.callF (vs := [(.pointer (some ⟨b13, 0, none⟩))]) rfl rfl En117 rfl (CallT.exB (region_s (bits_length _) (fun v31 => ?_)))
      refine RG.ot rfl (OT.bslice (F := (slT (α := Rect))) (els := [⟨v31, canon (bits (boxesOf ss n))⟩]) rfl El41 rfl (by decide) rfl (by decide) ⟨rfl, (Cl.s (v := v31) SlF.o), trivial⟩ fun v32 => ?_)
      refine RG.ot rfl (OT.append (v := vo) (u := v32) (F := (slT (α := Rect))) rfl El41 rfl (by decide) rfl rfl Rs.o (OneL.one (a := (⟨v31, canon (bits (boxesOf ss n))⟩ : Sl Rect)) (OneC.sl SlF.o OneC.nil)) rfl (by first | omega | (simp <;> omega)) fun v33 => ?_)
      refine RG.pv rfl (PV.asg (v := v33) rfl rfl) ?_
      refine RG.nil ?_
      refine WP.region ?_
      refine RG.pv rfl (PV.add rfl rfl rfl (by omega)) ?_
      refine RG.pv rfl (PV.mvI (.inl rfl) rfl) ?_
      refine RG.nil ?_
      exact ⟨rfl, n + 1, v33, (zs ++ [⟨v31, canon (bits (boxesOf ss n))⟩]), ⟨by omega, layTo_next hz⟩, ⟨rfl, rfl, trivial⟩, ⟨rfl, trivial⟩, ((Cv.p (C := osl 116 rectT v31 (canon (bits (boxesOf ss n))) :: osl 59 slT v33 (zs ++ [⟨v31, canon (bits (boxesOf ss n))⟩]) :: bagS 116 rectT zs :: L)).trans Cv.slotNew), by omega⟩
  · have h2 := of_decide_eq_false h2
    obtain rfl : n = 8 := by omega
    refine WP.exit ?_
    refine WP.seq ?_
    refine WP.region ?_
    refine RG.pv rfl (PV.move (v := vo) rfl rfl) ?_
    refine RG.pv rfl (PV.asg (v := vo) rfl rfl) ?_
    refine RG.nil ?_
    refine WP.ret ?_
    exact ⟨_, _, ResV.one rfl rfl, Cv.p, k vo zs hz⟩
theorem layers_r {v : Value} {ss : List Shape} (h1 : Rs G L shapeT v ss) (hv : ∀ i, i < ss.length → validRect (gd ss i).box = true) (k : ∀ v' ys, er ys = layL ss → R v' G (osl 59 slT v' ys :: bagS 116 rectT ys :: L)) : CallT Tryz.prog 58 #[v] G L R := by
  refine CallT.bd h1 fun hb => ?_
  refine CallT.enter (args := _) Tryz.func58 rfl rfl (by kernel_rfl) rfl ?_
  refine WP.seq ?_
  refine WP.region ?_
  refine RG.pv rfl (PV.asg rfl rfl) ?_
  refine RG.nil ?_
  refine WP.seq ?_
  refine WP.region ?_
  refine RG.ot rfl (OT.bslice (F := (slT (α := Rect))) (els := []) rfl El41 rfl (by decide) rfl (by decide) trivial fun v10 => ?_)
  refine RG.pv rfl (PV.asg (v := v10) rfl rfl) ?_
  refine RG.nil ?_
  refine WP.seq ?_
  refine WP.seq ?_
  refine WP.region ?_
  refine RG.pv rfl (PV.mvI (.inr rfl) rfl) ?_
  refine RG.nil ?_
  refine WP.block ?_
  refine WP.cv (Cv.cons (Cv.bag0 (e := 116) (F := rectT) (xs := []) rfl)) ?_
  refine WP.loop3 [0] (fun (n : Nat) (vo : Value) (zs : List (Sl Rect)) => n ≤ 8 ∧ er zs = layTo ss n) (fun (n : Nat) (vo : Value) (zs : List (Sl Rect)) => [(4, vi n), (3, vo)]) (fun (n : Nat) (vo : Value) (zs : List (Sl Rect)) => osl 59 slT vo zs :: bagS 116 rectT zs :: L) (fun (n : Nat) (vo : Value) (zs : List (Sl Rect)) => 8 - n) 0 v10 [] ⟨by omega, rfl⟩ ⟨rfl, rfl, trivial⟩ Cv.p ?_
  rintro n vo zs τ ⟨hn, hz⟩
  refine WP.seq ?_
  refine WP.seq ?_
  refine WP.region ?_
  refine RG.pv rfl (PV.mvI (.inl rfl) rfl) ?_
  refine RG.pv rfl (PV.lss rfl rfl rfl) ?_
  refine RG.nil ?_
  have hzl := layTo_len hz
  refine WP.cond rfl (fun h2 => ?_) (fun h2 => ?_)
  · have h2 := of_decide_eq_true h2
    refine WP.skip ?_
    refine WP.seq ?_
    refine WP.block ?_
    refine WP.seq ?_
    refine WP.region ?_
    refine RG.callF (vs := [_]) rfl rfl En80 rfl (l03Bits_s (xs := []) (RsN) (fun i hi => by simp at hi) (fun v15 => ?_))
    refine RG.pv rfl (PV.asg (v := v15) rfl rfl) ?_
    refine RG.nil ?_
    refine WP.seq ?_
    refine WP.seq ?_
    refine WP.region ?_
    refine RG.pv rfl (PV.mvI (.inr rfl) rfl) ?_
    refine RG.nil ?_
    refine WP.block ?_
    refine WP.loop2 [0, 3, 4, 5] (fun (i : Nat) (cs : List Bool) => i ≤ ss.length ∧ cs.length = 6400 ∧ ∀ y x, y < 80 → x < 80 → gb cs y x = (boxesOf (ss.take i) n).any fun r => inR r y x) (fun (i : Nat) (cs : List Bool) => [(6, vi i)]) (fun (i : Nat) (cs : List Bool) => osl 4 boolT v15 cs :: osl 59 slT vo zs :: bagS 116 rectT zs :: L) (fun (i : Nat) (cs : List Bool) => ss.length - i) 0 (bits []) ⟨by omega, bits_length _, fun y x h1 h2 => by rw [gb_bits [] h1 h2]; simp [boxesOf]⟩ ⟨rfl, trivial⟩ Cv.p ?_
    rintro i cs τ1 ⟨hi, hl, hc⟩
    refine WP.seq ?_
    refine WP.seq ?_
    refine WP.region ?_
    refine RG.pv rfl (PV.mvI (.inl rfl) rfl) ?_
    refine RG.pv rfl (PV.move (v := v) rfl rfl) ?_
    refine RG.pv rfl (PV.len (v := v) rfl Tryz.underlying76 rfl (SlF.r h1)) ?_
    refine RG.pv rfl (PV.lss rfl rfl rfl) ?_
    refine RG.nil ?_
    refine WP.cond rfl (fun h3 => ?_) (fun h3 => ?_)
    · have h3 := of_decide_eq_true h3
      have h4 : i < ss.length := by omega
      have hr := valid_bd (hv i h4)
      refine WP.skip ?_
      refine WP.seq ?_
      refine WP.block ?_
      refine WP.seq ?_
      refine WP.region ?_
      refine RG.pv rfl (PV.move (v := v) rfl rfl) ?_
      refine RG.pv rfl (PV.mvI (.inl rfl) rfl) ?_
      refine RG.pv rfl (PV.idxS (v := v) rfl Is76 rfl (SlF.r h1) rfl rfl (by omega)) ?_
      refine RG.pv rfl (PV.field rfl Fo135_1 rfl) ?_
      refine RG.pv rfl (PV.loadEP rfl Ag116 rfl rfl (El.r h1 (getG (by omega))) rfl) ?_
      refine RG.ot rfl (OT.alloc rfl Zr116 fun b7 => ?_)
      refine RG.ot rfl (OT.storeW (vs := [vi _, vi _, vi _, vi _]) rfl Sz116 rfl rfl (Cl.c rfl) rfl rfl (OneC.c rfl) ?_)
      refine RG.nil ?_
      refine WP.seq ?_
      refine WP.region ?_
      refine RG.pv rfl (PV.field rfl Fo116_1 rfl) ?_
      refine RG.pv rfl (PV.load1 rfl Sc2 rfl (Rd.blk rfl)) ?_
      refine RG.pv rfl (PV.mvI (.inr rfl) rfl) ?_
      refine RG.nil ?_
      refine WP.block ?_
      refine WP.loop2 [0, 3, 4, 5, 6, 7] (fun (y : Int) (ds : List Bool) => (gd ss i).box.y0 ≤ y ∧ y ≤ (gd ss i).box.y1 ∧ (¬ (gd ss i).layer = (n : Int) → y = (gd ss i).box.y0) ∧ ds.length = 6400 ∧ ∀ y' x', y' < 80 → x' < 80 → gb ds y' x' = (gb cs y' x' || (inR (gd ss i).box y' x' && decide ((y' : Int) - 40 < y)))) (fun (y : Int) (ds : List Bool) => [(8, vi y)]) (fun (y : Int) (ds : List Bool) => osl 4 boolT v15 ds :: blk b7 116 (rectT.enc (gd ss i).box) :: osl 59 slT vo zs :: bagS 116 rectT zs :: L) (fun (y : Int) (ds : List Bool) => (40 - y).toNat) (gd ss i).box.y0 cs ⟨by omega, by omega, fun _ => rfl, hl, fun y' x' h1 h2 => by rw [Bool.eq_iff_iff]; simp [inR]; omega⟩ ⟨rfl, trivial⟩ Cv.p ?_
      rintro y ds τ2 ⟨hy0, hy1, hly, hld, hd⟩
      refine WP.seq ?_
      refine WP.seq ?_
      refine WP.region ?_
      refine RG.pv rfl (PV.move (v := v) rfl rfl) ?_
      refine RG.pv rfl (PV.mvI (.inl rfl) rfl) ?_
      refine RG.pv rfl (PV.idxS (v := v) rfl Is76 rfl (SlF.r h1) rfl rfl (by omega)) ?_
      refine RG.pv rfl (PV.field rfl Fo135_0 rfl) ?_
      refine RG.pv rfl (PV.loadF rfl Sc2 rfl rfl (El.r h1 (getG (by omega))) rfl) ?_
      refine RG.pv rfl (PV.mvI (.inl rfl) rfl) ?_
      refine RG.pv rfl (PV.eql rfl rfl rfl) ?_
      refine RG.pv rfl (PV.mvB (.inl rfl) rfl) ?_
      refine RG.gs rfl rfl rfl (fun hp => (PV.mvI (.inl rfl) rfl)) ?_
      refine RG.gs rfl rfl rfl (fun hp => (PV.field rfl Fo116_3 rfl)) ?_
      refine RG.gs rfl rfl rfl (fun hp => (PV.load1 rfl Sc2 (gs_t hp) (Rd.blk rfl))) ?_
      refine RG.gs rfl rfl rfl (fun hp => (PV.lss rfl (gs_t hp) (gs_t hp))) ?_
      refine RG.pv rfl (PV.pickA rfl rfl (fun hq => gs_t (geqT hq)) rfl) ?_
      refine RG.nil ?_
      refine WP.cond rfl (fun h5 => ?_) (fun h5 => ?_)
      · have h5' : (gd ss i).layer = (n : Int) ∧ y < (gd ss i).box.y1 := by simpa using h5
        refine WP.skip ?_
        refine WP.seq ?_
        refine WP.block ?_
        refine WP.seq ?_
        refine WP.region ?_
        refine RG.pv rfl (PV.field rfl Fo116_0 rfl) ?_
        refine RG.pv rfl (PV.load1 rfl Sc2 rfl (Rd.blk rfl)) ?_
        refine RG.pv rfl (PV.mvI (.inr rfl) rfl) ?_
        refine RG.nil ?_
        refine WP.block ?_
        refine WP.loop2 [0, 3, 4, 5, 6, 7, 8] (fun (x : Int) (es : List Bool) => (gd ss i).box.x0 ≤ x ∧ x ≤ (gd ss i).box.x1 ∧ es.length = 6400 ∧ ∀ y' x', y' < 80 → x' < 80 → gb es y' x' = (gb ds y' x' || (decide ((y' : Int) - 40 = y) && decide ((gd ss i).box.x0 ≤ (x' : Int) - 40) && decide ((x' : Int) - 40 < x)))) (fun (x : Int) (es : List Bool) => [(9, vi x)]) (fun (x : Int) (es : List Bool) => osl 4 boolT v15 es :: blk b7 116 (rectT.enc (gd ss i).box) :: osl 59 slT vo zs :: bagS 116 rectT zs :: L) (fun (x : Int) (es : List Bool) => (40 - x).toNat) (gd ss i).box.x0 ds ⟨by omega, by omega, hld, fun y' x' h1 h2 => by rw [Bool.eq_iff_iff]; simp; omega⟩ ⟨rfl, trivial⟩ Cv.p ?_
        rintro x es τ3 ⟨hx0, hx1, hle, hee⟩
        refine WP.seq ?_
        refine WP.seq ?_
        refine WP.region ?_
        refine RG.pv rfl (PV.mvI (.inl rfl) rfl) ?_
        refine RG.pv rfl (PV.field rfl Fo116_2 rfl) ?_
        refine RG.pv rfl (PV.load1 rfl Sc2 rfl (Rd.blk rfl)) ?_
        refine RG.pv rfl (PV.lss rfl rfl rfl) ?_
        refine RG.nil ?_
        refine WP.cond rfl (fun h6 => ?_) (fun h6 => ?_)
        · have h6 := of_decide_eq_true h6
          refine WP.skip ?_
          refine WP.seq ?_
          refine WP.block ?_
          refine WP.region ?_
          refine RG.pv rfl (PV.move (v := v15) rfl rfl) ?_
          refine RG.pv rfl (PV.mvI (.inl rfl) rfl) ?_
          refine RG.pv rfl (PV.add rfl rfl rfl (by omega)) ?_
          refine RG.pv rfl (PV.mul rfl rfl rfl (by omega)) ?_
          refine RG.pv rfl (PV.mvI (.inl rfl) rfl) ?_
          refine RG.pv rfl (PV.add rfl rfl rfl (by omega)) ?_
          refine RG.pv rfl (PV.add rfl rfl rfl (by omega)) ?_
          refine RG.pv rfl (PV.idxS (j := ((y + 40) * 80 + x + 40).toNat) (v := v15) rfl Is110 rfl SlF.o rfl (by omega) (by omega)) ?_
          refine RG.ot rfl (OT.storeE (F := boolT) rfl Sz4 rfl rfl rfl (Cl.c rfl) (OneC.c rfl) (by omega) ?_)
          refine RG.nil ?_
          refine WP.region ?_
          refine RG.pv rfl (PV.mvI (.inl rfl) rfl) ?_
          refine RG.pv rfl (PV.add rfl rfl rfl (by omega)) ?_
          refine RG.pv rfl (PV.mvI (.inr rfl) rfl) ?_
          refine RG.nil ?_
          refine ⟨rfl, x + 1, (es.set ((y + 40) * 80 + x + 40).toNat true), ⟨by omega, by omega, by simpa using hle, fun y' x' h7 h8 => ?_⟩, ⟨rfl, trivial⟩, ⟨rfl, rfl, rfl, rfl, rfl, rfl, rfl, trivial⟩, Cv.p, by omega⟩
          rw [show ((y + 40) * 80 + x + 40).toNat = (y + 40).toNat * 80 + (x + 40).toNat by omega, gb_set hle (by omega) (by omega) h8, hee y' x' h7 h8]
          cases gb ds y' x' <;> (rw [Bool.eq_iff_iff]; split <;> simp <;> omega)
        · have h6 := of_decide_eq_false h6
          refine WP.exit ?_
          refine WP.region ?_
          refine RG.pv rfl (PV.mvI (.inl rfl) rfl) ?_
          refine RG.pv rfl (PV.add rfl rfl rfl (by omega)) ?_
          refine RG.pv rfl (PV.mvI (.inr rfl) rfl) ?_
          refine RG.nil ?_
          refine ⟨rfl, y + 1, es, ⟨by omega, by omega, fun h => absurd h5'.1 h, hle, fun y' x' h7 h8 => ?_⟩, ⟨rfl, trivial⟩, ⟨rfl, rfl, rfl, rfl, rfl, rfl, trivial⟩, Cv.p, by omega⟩
          rw [hee y' x' h7 h8, hd y' x' h7 h8]
          cases gb cs y' x' <;> (rw [Bool.eq_iff_iff]; simp [inR]; try omega)
      · have h5' : (gd ss i).layer = (n : Int) → (gd ss i).box.y1 ≤ y := by simpa using h5
        refine WP.exit ?_
        refine WP.region ?_
        refine RG.pv rfl (PV.mvI (.inl rfl) rfl) ?_
        refine RG.pv rfl (PV.add rfl rfl rfl (by omega)) ?_
        refine RG.pv rfl (PV.mvI (.inr rfl) rfl) ?_
        refine RG.nil ?_
        refine ⟨rfl, i + 1, ds, ⟨by omega, hld, fun y' x' h7 h8 => ?_⟩, ⟨rfl, trivial⟩, ⟨rfl, rfl, rfl, rfl, trivial⟩, Cv.p, by omega⟩
        rw [hd y' x' h7 h8, hc y' x' h7 h8, any_boxes h4]
        congr 1
        by_cases e : (gd ss i).layer = (n : Int)
        · have := h5' e
          rw [Bool.eq_iff_iff]; simp [inR, e]; omega
        · have := hly e
          rw [Bool.eq_iff_iff]; simp [inR, e]; omega
    · have h3 := of_decide_eq_false h3
      have e : cs = bits (boxesOf ss n) := bits_eq hl fun y x h6 h7 => by rw [hc y x h6 h7, List.take_of_length_le (by omega)]
      subst e
      refine WP.exit ?_
      refine WP.region ?_
      refine RG.pv rfl (PV.move (v := vo) rfl rfl) ?_
      refine RG.pv rfl (PV.move (v := v15) rfl rfl) ?_
      refine RG.callF (vs := [v15]) rfl rfl En78 rfl (l03Canon_s Rs.o (bits_length _) (fun v62 => ?_))
      refine RG.ot rfl (OT.bslice (F := (slT (α := Rect))) (els := [⟨v62, canon (bits (boxesOf ss n))⟩]) rfl El41 rfl (by decide) rfl (by decide) ⟨rfl, (Cl.s (v := v62) SlF.o), trivial⟩ fun v63 => ?_)
      refine RG.ot rfl (OT.append (v := vo) (u := v63) (F := (slT (α := Rect))) rfl El41 rfl (by decide) rfl rfl Rs.o (OneL.one (a := (⟨v62, canon (bits (boxesOf ss n))⟩ : Sl Rect)) (OneC.sl SlF.o OneC.nil)) rfl (by first | omega | (simp <;> omega)) fun v64 => ?_)
      refine RG.pv rfl (PV.asg (v := v64) rfl rfl) ?_
      refine RG.nil ?_
      refine WP.region ?_
      refine RG.pv rfl (PV.mvI (.inl rfl) rfl) ?_
      refine RG.pv rfl (PV.add rfl rfl rfl (by omega)) ?_
      refine RG.pv rfl (PV.mvI (.inr rfl) rfl) ?_
      refine RG.nil ?_
      exact ⟨rfl, n + 1, v64, (zs ++ [⟨v62, canon (bits (boxesOf ss n))⟩]), ⟨by omega, layTo_next hz⟩, ⟨rfl, rfl, trivial⟩, ⟨rfl, trivial⟩, ((Cv.p (C := osl 116 rectT v62 (canon (bits (boxesOf ss n))) :: osl 59 slT v64 (zs ++ [⟨v62, canon (bits (boxesOf ss n))⟩]) :: bagS 116 rectT zs :: L)).trans Cv.slotNew), by omega⟩
  · have h2 := of_decide_eq_false h2
    obtain rfl : n = 8 := by omega
    refine WP.exit ?_
    refine WP.seq ?_
    refine WP.region ?_
    refine RG.pv rfl (PV.move (v := vo) rfl rfl) ?_
    refine RG.pv rfl (PV.asg (v := vo) rfl rfl) ?_
    refine RG.nil ?_
    refine WP.ret ?_
    exact ⟨_, _, ResV.one rfl rfl, Cv.p, k vo zs hz⟩
theorem Cv.nilSS {M : List Ch} {e e' : TypeId} [p : PickC L M] : Cv M (osl e slT (.slice none 0 0) ([] : List (Sl Rect)) :: bagS e' rectT [] :: L) := (Cv.pick p.pick).trans ((Cv.bag0 (xs := []) rfl).trans Cv.nilS)
theorem bndR_no {cs : List ECell} {cell : Int} (h : bndE cs cell ≠ 0) : bndR cs cell = ⟨0, 0, 0, 0⟩ := by rw [bndR, decide_eq_false h]; rfl
theorem bndR_ok {cs : List ECell} {cell : Int} (h : bndE cs cell = 0) : bndR cs cell = boxL ((shR cs cell).map Shape.box) := by rw [bndR, decide_eq_true h]; rfl
theorem bnd_i {l : Lib} {cell : Int} (hL : RLib G L l.cells.v l.cells.xs) (hlen : lenC (erCls l.cells.xs)) (k : R (.tuple #[vrect (bndR (erCls l.cells.xs) cell), vi (bndE (erCls l.cells.xs) cell)]) G L) : CallT Tryz.prog 93 #[vT libT l, vi cell] G L R := by
  have hsl := shR_len (erCls l.cells.xs) cell
  refine CallT.enter (args := _) Tryz.func93 rfl rfl (by kernel_rfl) rfl ?_
  refine WP.seq ?_
  refine WP.region ?_
  refine RG.ot rfl (OT.box (cs := libT.enc l) rfl rfl rfl fun b2 => ?_)
  refine RG.ot rfl (OT.alloc rfl Zr116 fun b4 => ?_)
  refine RG.pv rfl (PV.mvI (.inr rfl) rfl) ?_
  refine RG.nil ?_
  refine WP.seq ?_
  refine WP.region ?_
  refine RG.pv rfl (PV.loadW rfl Ag30 rfl rfl) ?_
  refine RG.pv rfl (PV.mvI (.inl rfl) rfl) ?_
  refine RG.callF (vs := [_, _]) rfl rfl En91 rfl (flat_i hL.up hlen (fun w14 => ?_))
  refine RG.pv rfl (PV.move (v := .tuple _) rfl rfl) ?_
  refine RG.pv rfl (PV.ext (v := w14) rfl rfl rfl) ?_
  refine RG.pv rfl (PV.ext rfl rfl rfl) ?_
  refine RG.pv rfl (PV.asg (v := w14) rfl rfl) ?_
  refine RG.pv rfl (PV.mvI (.inr rfl) rfl) ?_
  refine RG.nil ?_
  refine WP.cut1 [4, 6] (fun (q : Int) => q = bndE (erCls l.cells.xs) cell) (fun (q : Int) => [(7, vi q)]) (fun (q : Int) => blk b4 116 [vi 0, vi 0, vi 0, vi 0] :: osl 135 shapeT w14 (shR (erCls l.cells.xs) cell) :: L) ?_ ?_
  refine WP.seq ?_
  refine WP.region ?_
  refine RG.pv rfl (PV.mvI (.inl rfl) rfl) ?_
  refine RG.pv rfl (PV.eql rfl rfl rfl) ?_
  refine RG.pv rfl (PV.mvB (.inl rfl) rfl) ?_
  refine RG.gs rfl rfl rfl (fun hp => (PV.move (v := w14) rfl rfl)) ?_
  refine RG.gs rfl rfl rfl (fun hp => (PV.len (v := w14) rfl Tryz.underlying76 (gs_t hp) SlF.o)) ?_
  refine RG.gs rfl rfl rfl (fun hp => (PV.eql rfl (gs_t hp) rfl)) ?_
  refine RG.pv rfl (PV.pickA rfl rfl (fun hq => gs_t (geqT hq)) rfl) ?_
  refine RG.nil ?_
  refine WP.cond rfl (fun h1 => ?_) (fun h1 => ?_)
  · have h1 : shE (erCls l.cells.xs) cell = 0 ∧ (shR (erCls l.cells.xs) cell).length = 0 := by simpa using h1
    refine WP.region ?_
    refine RG.pv rfl (PV.mvI (.inr rfl) rfl) ?_
    refine RG.nil ?_
    exact ⟨rfl, 5, (by rw [bndE, decide_eq_true h1.1, decide_eq_true h1.2]; rfl), ⟨rfl, trivial⟩, ⟨rfl, rfl, trivial⟩, Cv.p⟩
  · have h1 : (decide (shE (erCls l.cells.xs) cell = 0) && decide ((shR (erCls l.cells.xs) cell).length = 0)) = false := by
      rw [← h1]; congr 1; rw [decide_eq_decide]; omega
    refine WP.skip ?_
    exact ⟨rfl, (shE (erCls l.cells.xs) cell), (by rw [bndE, h1]; rfl), ⟨rfl, trivial⟩, ⟨rfl, rfl, trivial⟩, Cv.p⟩
  rintro q τ0 hq
  subst hq
  refine WP.seq ?_
  refine WP.seq ?_
  refine WP.region ?_
  refine RG.pv rfl (PV.mvI (.inl rfl) rfl) ?_
  refine RG.pv rfl (PV.neq rfl rfl rfl) ?_
  refine RG.nil ?_
  refine WP.cond rfl (fun h2 => ?_) (fun h2 => ?_)
  · have h2 : bndE (erCls l.cells.xs) cell ≠ 0 := by simpa using h2
    rw [bndR_no h2] at k
    refine WP.seq ?_
    refine WP.region ?_
    refine RG.pv rfl (PV.build (vs := []) (out := [_, _, _, _]) rfl Zr116 Pl116 trivial rfl) ?_
    refine RG.pv rfl (PV.mvI (.inl rfl) rfl) ?_
    refine RG.ot rfl (OT.storeW (vs := [vi _, vi _, vi _, vi _]) rfl Sz116 rfl rfl (Cl.c rfl) rfl rfl (OneC.c rfl) ?_)
    refine RG.pv rfl (PV.mvI (.inr rfl) rfl) ?_
    refine RG.nil ?_
    refine WP.ret ?_
    exact ⟨_, _, ResV.two rfl (RV1.cell rfl Ag116 rfl) rfl, Cv.p, k⟩
  · have h2 : bndE (erCls l.cells.xs) cell = 0 := by simpa using h2
    have hpos := (bndE_zero h2).2
    rw [bndR_ok h2, h2] at k
    refine WP.skip ?_
    refine WP.seq ?_
    refine WP.region ?_
    refine RG.ot rfl (OT.bslice (F := rectT) (els := []) rfl El59 rfl (by decide) rfl (by decide) trivial fun v28 => ?_)
    refine RG.pv rfl (PV.asg (v := v28) rfl rfl) ?_
    refine RG.nil ?_
    refine WP.seq ?_
    refine WP.seq ?_
    refine WP.region ?_
    refine RG.pv rfl (PV.move (v := w14) rfl rfl) ?_
    refine RG.pv rfl (PV.len (v := w14) rfl Tryz.underlying76 rfl SlF.o) ?_
    refine RG.pv rfl (PV.mvI (.inl rfl) rfl) ?_
    refine RG.nil ?_
    refine WP.block ?_
    refine WP.cv (Cv.eqS (ys := ((shR (erCls l.cells.xs) cell).take 0).map Shape.box) rfl) ?_
    refine WP.loop2 [4, 29, 30] (fun (i : Nat) (v : Value) => i ≤ (shR (erCls l.cells.xs) cell).length) (fun (i : Nat) (v : Value) => [(31, vi i), (8, v)]) (fun (i : Nat) (v : Value) => osl 116 rectT v (((shR (erCls l.cells.xs) cell).take i).map Shape.box) :: osl 135 shapeT w14 (shR (erCls l.cells.xs) cell) :: blk b4 116 [vi 0, vi 0, vi 0, vi 0] :: L) (fun (i : Nat) (v : Value) => (shR (erCls l.cells.xs) cell).length - i) 0 v28 (by omega) ⟨rfl, rfl, trivial⟩ Cv.p ?_
    rintro i v τ hi
    refine WP.seq ?_
    refine WP.region ?_
    refine RG.pv rfl (PV.lss rfl rfl rfl) ?_
    refine RG.nil ?_
    refine WP.seq ?_
    refine WP.cond rfl (fun h3 => ?_) (fun h3 => ?_)
    · have h3 := of_decide_eq_true h3
      have hll : (((shR (erCls l.cells.xs) cell).take i).map Shape.box).length ≤ 4800 := by rw [List.length_map, List.length_take]; omega
      refine WP.skip ?_
      refine WP.seq ?_
      refine WP.block ?_
      refine WP.seq ?_
      refine WP.region ?_
      refine RG.pv rfl (PV.idxS (v := w14) rfl Is76 rfl SlF.o rfl rfl (by omega)) ?_
      refine RG.pv rfl (PV.loadE rfl Ag135 rfl rfl (El.o (getG (by omega)))) ?_
      refine RG.ot rfl (OT.alloc rfl Zr135 fun b10 => ?_)
      refine RG.ot rfl (OT.storeW (vs := [vi _, vi _, vi _, vi _, vi _]) rfl Sz135 rfl rfl (Cl.c rfl) rfl rfl (OneC.c rfl) ?_)
      refine RG.nil ?_
      refine WP.region ?_
      refine RG.pv rfl (PV.move (v := v) rfl rfl) ?_
      refine RG.pv rfl (PV.field rfl Fo135_1 rfl) ?_
      refine RG.pv rfl (PV.loadB (vs := [_, _, _, _]) rfl Ag116 rfl rfl rfl) ?_
      refine RG.ot rfl (OT.bslice (F := rectT) (els := [_]) rfl El59 rfl (by decide) rfl (by decide) ⟨rfl, (Cl.c rfl), trivial⟩ fun v38 => ?_)
      refine RG.ot rfl (OT.append (v := v) (u := v38) (F := rectT) rfl El59 rfl (by decide) rfl rfl Rs.o (OneL.c (fun _ => rfl)) rfl (by first | omega | (simp <;> omega)) fun v39 => ?_)
      refine RG.pv rfl (PV.asg (v := v39) rfl rfl) ?_
      refine RG.nil ?_
      refine WP.region ?_
      refine RG.pv rfl (PV.add rfl rfl rfl (by omega)) ?_
      refine RG.pv rfl (PV.mvI (.inl rfl) rfl) ?_
      refine RG.nil ?_
      exact ⟨rfl, i + 1, v39, (by omega), ⟨rfl, rfl, trivial⟩, ⟨rfl, rfl, rfl, trivial⟩, ((Cv.p (C := osl 116 rectT v39 (((shR (erCls l.cells.xs) cell).take i).map Shape.box ++ [(gd (shR (erCls l.cells.xs) cell) i).box]) :: osl 135 shapeT w14 (shR (erCls l.cells.xs) cell) :: blk b4 116 [vi 0, vi 0, vi 0, vi 0] :: L)).trans (Cv.eqS (by rw [List.take_add_one, getG (show i < (shR (erCls l.cells.xs) cell).length by omega), List.map_append]; rfl))), by omega⟩
    · have h3 := of_decide_eq_false h3
      have e : (shR (erCls l.cells.xs) cell).take i = shR (erCls l.cells.xs) cell := List.take_of_length_le (by omega)
      rw [e]
      refine WP.exit ?_
      refine WP.seq ?_
      refine WP.region ?_
      refine RG.pv rfl (PV.move (v := v) rfl rfl) ?_
      refine RG.callF (vs := [v]) rfl rfl En144 rfl (boxOf_s Rs.o (by rw [List.length_map]; exact hpos) ?_)
      refine RG.ot rfl (OT.storeW (vs := [vi _, vi _, vi _, vi _]) rfl Sz116 rfl rfl (Cl.c rfl) rfl rfl (OneC.c rfl) ?_)
      refine RG.pv rfl (PV.mvI (.inr rfl) rfl) ?_
      refine RG.nil ?_
      refine WP.ret ?_
      exact ⟨_, _, ResV.two rfl (RV1.cell rfl Ag116 rfl) rfl, Cv.p, k⟩
theorem l10Hull_r {p q : Rect} (k : R (vrect (joinR p q)) G L) : CallT Tryz.prog 135 #[vrect p, vrect q] G L R := by
  refine CallT.enter (args := _) Tryz.func135 rfl rfl (by kernel_rfl) rfl ?_
  refine WP.seq ?_
  refine WP.region ?_
  refine RG.ot rfl (OT.box (cs := rectT.enc p) rfl rfl rfl fun b2 => ?_)
  refine RG.ot rfl (OT.box (cs := rectT.enc q) rfl rfl rfl fun b3 => ?_)
  refine RG.ot rfl (OT.alloc rfl Zr116 fun b4 => ?_)
  refine RG.nil ?_
  refine WP.seq ?_
  refine WP.region ?_
  refine RG.pv rfl (PV.field rfl Fo116_0 rfl) ?_
  refine RG.pv rfl (PV.load1 rfl Sc2 rfl (Rd.blk rfl)) ?_
  refine RG.pv rfl (PV.field rfl Fo116_0 rfl) ?_
  refine RG.pv rfl (PV.load1 rfl Sc2 rfl (Rd.blk rfl)) ?_
  refine RG.pv rfl (PV.min2 rfl rfl rfl) ?_
  refine RG.pv rfl (PV.field rfl Fo116_1 rfl) ?_
  refine RG.pv rfl (PV.load1 rfl Sc2 rfl (Rd.blk rfl)) ?_
  refine RG.pv rfl (PV.field rfl Fo116_1 rfl) ?_
  refine RG.pv rfl (PV.load1 rfl Sc2 rfl (Rd.blk rfl)) ?_
  refine RG.pv rfl (PV.min2 rfl rfl rfl) ?_
  refine RG.pv rfl (PV.field rfl Fo116_2 rfl) ?_
  refine RG.pv rfl (PV.load1 rfl Sc2 rfl (Rd.blk rfl)) ?_
  refine RG.pv rfl (PV.field rfl Fo116_2 rfl) ?_
  refine RG.pv rfl (PV.load1 rfl Sc2 rfl (Rd.blk rfl)) ?_
  refine RG.pv rfl (PV.max2 rfl rfl rfl) ?_
  refine RG.pv rfl (PV.field rfl Fo116_3 rfl) ?_
  refine RG.pv rfl (PV.load1 rfl Sc2 rfl (Rd.blk rfl)) ?_
  refine RG.pv rfl (PV.field rfl Fo116_3 rfl) ?_
  refine RG.pv rfl (PV.load1 rfl Sc2 rfl (Rd.blk rfl)) ?_
  refine RG.pv rfl (PV.max2 rfl rfl rfl) ?_
  refine RG.pv rfl (PV.build (vs := [(0, [vi _]), (1, [vi _]), (2, [vi _]), (3, [vi _])]) (out := [_, _, _, _]) rfl Zr116 Pl116 ⟨rfl, (Cl.c rfl), ⟨rfl, (Cl.c rfl), ⟨rfl, (Cl.c rfl), ⟨rfl, (Cl.c rfl), trivial⟩⟩⟩⟩ rfl) ?_
  refine RG.ot rfl (OT.storeW (vs := [vi _, vi _, vi _, vi _]) rfl Sz116 rfl rfl (Cl.c rfl) rfl rfl (OneC.c rfl) ?_)
  refine RG.nil ?_
  refine WP.ret ?_
  exact ⟨_, _, ResV.one rfl (RV1.cell rfl Ag116 rfl), Cv.p, k⟩
theorem bnd_r {l : Lib} {cell : Int} (hL : RLib G L l.cells.v l.cells.xs) (hlen : lenC (erCls l.cells.xs)) (k : R (.tuple #[vrect (bndR (erCls l.cells.xs) cell), vi (bndE (erCls l.cells.xs) cell)]) G L) : CallT Tryz.prog 85 #[vT libT l, vi cell] G L R := by
  have hsl := shR_len (erCls l.cells.xs) cell
  refine CallT.enter (args := _) Tryz.func85 rfl rfl (by kernel_rfl) rfl ?_
  refine WP.seq ?_
  refine WP.region ?_
  refine RG.ot rfl (OT.box (cs := libT.enc l) rfl rfl rfl fun b2 => ?_)
  refine RG.ot rfl (OT.alloc rfl Zr116 fun b4 => ?_)
  refine RG.pv rfl (PV.mvI (.inr rfl) rfl) ?_
  refine RG.nil ?_
  refine WP.seq ?_
  refine WP.region ?_
  refine RG.pv rfl (PV.loadW rfl Ag30 rfl rfl) ?_
  refine RG.pv rfl (PV.mvI (.inl rfl) rfl) ?_
  refine RG.callF (vs := [_, _]) rfl rfl En54 rfl (flat_r hL.up hlen (fun w13 => ?_))
  refine RG.pv rfl (PV.move (v := .tuple _) rfl rfl) ?_
  refine RG.pv rfl (PV.ext (v := w13) rfl rfl rfl) ?_
  refine RG.pv rfl (PV.ext rfl rfl rfl) ?_
  refine RG.pv rfl (PV.asg (v := w13) rfl rfl) ?_
  refine RG.pv rfl (PV.mvI (.inr rfl) rfl) ?_
  refine RG.nil ?_
  refine WP.seq ?_
  refine WP.seq ?_
  refine WP.region ?_
  refine RG.pv rfl (PV.mvI (.inl rfl) rfl) ?_
  refine RG.pv rfl (PV.neq rfl rfl rfl) ?_
  refine RG.nil ?_
  refine WP.cond rfl (fun h1 => ?_) (fun h1 => ?_)
  · have h1 : shE (erCls l.cells.xs) cell ≠ 0 := by simpa using h1
    have e : bndE (erCls l.cells.xs) cell = shE (erCls l.cells.xs) cell := by rw [bndE, decide_eq_false h1]; rfl
    rw [bndR_no (by rw [e]; exact h1), e] at k
    refine WP.seq ?_
    refine WP.region ?_
    refine RG.pv rfl (PV.build (vs := []) (out := [_, _, _, _]) rfl Zr116 Pl116 trivial rfl) ?_
    refine RG.pv rfl (PV.mvI (.inl rfl) rfl) ?_
    refine RG.ot rfl (OT.storeW (vs := [vi _, vi _, vi _, vi _]) rfl Sz116 rfl rfl (Cl.c rfl) rfl rfl (OneC.c rfl) ?_)
    refine RG.pv rfl (PV.mvI (.inr rfl) rfl) ?_
    refine RG.nil ?_
    refine WP.ret ?_
    exact ⟨_, _, ResV.two rfl (RV1.cell rfl Ag116 rfl) rfl, Cv.p, k⟩
  · have h1 : shE (erCls l.cells.xs) cell = 0 := by simpa using h1
    refine WP.skip ?_
    refine WP.seq ?_
    refine WP.seq ?_
    refine WP.region ?_
    refine RG.pv rfl (PV.move (v := w13) rfl rfl) ?_
    refine RG.pv rfl (PV.len (v := w13) rfl Tryz.underlying76 rfl SlF.o) ?_
    refine RG.pv rfl (PV.eql rfl rfl rfl) ?_
    refine RG.nil ?_
    refine WP.cond rfl (fun h2 => ?_) (fun h2 => ?_)
    · have h2 : (shR (erCls l.cells.xs) cell).length = 0 := by simpa using h2
      have e : bndE (erCls l.cells.xs) cell = 5 := by rw [bndE, decide_eq_true h1, decide_eq_true h2]; rfl
      rw [bndR_no (by rw [e]; decide), e] at k
      refine WP.seq ?_
      refine WP.region ?_
      refine RG.pv rfl (PV.build (vs := []) (out := [_, _, _, _]) rfl Zr116 Pl116 trivial rfl) ?_
      refine RG.ot rfl (OT.storeW (vs := [vi _, vi _, vi _, vi _]) rfl Sz116 rfl rfl (Cl.c rfl) rfl rfl (OneC.c rfl) ?_)
      refine RG.pv rfl (PV.mvI (.inr rfl) rfl) ?_
      refine RG.nil ?_
      refine WP.ret ?_
      exact ⟨_, _, ResV.two rfl (RV1.cell rfl Ag116 rfl) rfl, Cv.p, k⟩
    · have h2 : ¬ (shR (erCls l.cells.xs) cell).length = 0 := by simpa using h2
      have e : bndE (erCls l.cells.xs) cell = 0 := by rw [bndE, decide_eq_false h2, Bool.and_false, cond_false, h1]
      have hpos : 0 < (shR (erCls l.cells.xs) cell).length := by omega
      have hml : ((shR (erCls l.cells.xs) cell).map Shape.box).length = (shR (erCls l.cells.xs) cell).length := by simp
      have hmg : ∀ j, j < (shR (erCls l.cells.xs) cell).length → gd ((shR (erCls l.cells.xs) cell).map Shape.box) j = (gd (shR (erCls l.cells.xs) cell) j).box := fun j hj => gd_map _ hj
      rw [bndR_ok e, e] at k
      refine WP.skip ?_
      refine WP.seq ?_
      refine WP.region ?_
      refine RG.pv rfl (PV.move (v := w13) rfl rfl) ?_
      refine RG.pv rfl (PV.idxS (j := 0) (v := w13) rfl Is76 rfl SlF.o rfl (by omega) (by omega)) ?_
      refine RG.pv rfl (PV.field rfl Fo135_1 rfl) ?_
      refine RG.pv rfl (PV.loadEP rfl Ag116 rfl rfl (El.o (getG (by omega))) rfl) ?_
      refine RG.ot rfl (OT.alloc rfl Zr116 fun b8 => ?_)
      refine RG.ot rfl (OT.storeW (vs := [vi _, vi _, vi _, vi _]) rfl Sz116 rfl rfl (Cl.c rfl) rfl rfl (OneC.c rfl) ?_)
      refine RG.nil ?_
      refine WP.seq ?_
      refine WP.seq ?_
      refine WP.region ?_
      refine RG.pv rfl (PV.mvI (.inr rfl) rfl) ?_
      refine RG.nil ?_
      refine WP.block ?_
      refine WP.cv (Cv.p (C := blk b8 116 (rectT.enc (gd (shR (erCls l.cells.xs) cell) 0).box) :: osl 135 shapeT w13 (shR (erCls l.cells.xs) cell) :: blk b4 116 [vi 0, vi 0, vi 0, vi 0] :: L)) ?_
      refine WP.loop2 [4, 6, 8] (fun (i : Nat) (q : Rect) => (1 ≤ i ∧ i ≤ (shR (erCls l.cells.xs) cell).length) ∧ q = boxFrom (gd ((shR (erCls l.cells.xs) cell).map Shape.box) 0) (((shR (erCls l.cells.xs) cell).map Shape.box).take i)) (fun (i : Nat) (q : Rect) => [(9, vi i)]) (fun (i : Nat) (q : Rect) => blk b8 116 (rectT.enc q) :: osl 135 shapeT w13 (shR (erCls l.cells.xs) cell) :: blk b4 116 [vi 0, vi 0, vi 0, vi 0] :: L) (fun (i : Nat) (q : Rect) => (shR (erCls l.cells.xs) cell).length - i) 1 (gd (shR (erCls l.cells.xs) cell) 0).box ⟨by omega, by rw [boxFrom_one (by omega), hmg 0 hpos]⟩ ⟨rfl, trivial⟩ Cv.p ?_
      rintro i q τ ⟨hi, hq⟩
      refine WP.seq ?_
      refine WP.seq ?_
      refine WP.region ?_
      refine RG.pv rfl (PV.mvI (.inl rfl) rfl) ?_
      refine RG.pv rfl (PV.move (v := w13) rfl rfl) ?_
      refine RG.pv rfl (PV.len (v := w13) rfl Tryz.underlying76 rfl SlF.o) ?_
      refine RG.pv rfl (PV.lss rfl rfl rfl) ?_
      refine RG.nil ?_
      refine WP.cond rfl (fun h3 => ?_) (fun h3 => ?_)
      · have h3 := of_decide_eq_true h3
        refine WP.skip ?_
        refine WP.seq ?_
        refine WP.block ?_
        refine WP.regionHD [.b b8] (.q 1 (.q 2 (.q 3 (.q 4 (.q 5 (.l 0 (.l 6 (.l 7 Sch.nil)))))))) (by kernel_rfl) (by kernel_rfl) (by kernel_rfl) rfl ?_
        refine RH.pv rfl (fun _ _ _ _ h => h) (Gh.le_refl _) PickC.pick rfl (PV.move (v := w13) rfl rfl) ?_
        refine RH.pv rfl (fun _ _ _ _ h => h) (Gh.le_refl _) PickC.pick rfl (PV.mvI (.inl rfl) rfl) ?_
        refine RH.pv rfl (fun _ _ _ _ h => h) (Gh.le_refl _) PickC.pick rfl (PV.idxS (v := w13) rfl Is76 rfl SlF.o rfl rfl (by omega)) ?_
        refine RH.pv rfl (fun _ _ _ _ h => h) (Gh.le_refl _) PickC.pick rfl (PV.field rfl Fo135_1 rfl) ?_
        refine RH.pv rfl (fun _ _ _ _ h => h) (Gh.le_refl _) PickC.pick rfl (PV.loadEP rfl Ag116 rfl rfl (El.o (getG (by omega))) rfl) ?_
        refine RH.ot rfl rfl (OT.pv (PV.loadW rfl Ag116 rfl rfl) ⟨Gh.le_refl _, PickC.pick, ?_⟩)
        refine RH.ot rfl rfl (OT.callF (vs := [_, _]) rfl En135 rfl (l10Hull_r ⟨Gh.le_refl _, PickC.pick, ?_⟩))
        refine RH.ot rfl rfl (OT.storeW (vs := [vi _, vi _, vi _, vi _]) rfl Sz116 rfl rfl (Cl.c rfl) rfl rfl (OneC.c rfl) ⟨Gh.le_refl _, PickC.pick, ?_⟩)
        refine RH.nil ?_
        refine WP.region ?_
        refine RG.pv rfl (PV.mvI (.inl rfl) rfl) ?_
        refine RG.pv rfl (PV.add rfl rfl rfl (by omega)) ?_
        refine RG.pv rfl (PV.mvI (.inr rfl) rfl) ?_
        refine RG.nil ?_
        exact ⟨rfl, i + 1, _, ⟨by omega, by rw [boxFrom_take (by omega), ← hq, hmg i (by omega)]⟩, ⟨rfl, trivial⟩, ⟨rfl, rfl, rfl, trivial⟩, Cv.p, by omega⟩
      · have h3 := of_decide_eq_false h3
        have e2 : boxL ((shR (erCls l.cells.xs) cell).map Shape.box) = q := by rw [hq, List.take_of_length_le (by omega)]; rfl
        rw [e2] at k
        refine WP.exit ?_
        refine WP.seq ?_
        refine WP.region ?_
        refine RG.pv rfl (PV.loadW rfl Ag116 rfl rfl) ?_
        refine RG.ot rfl (OT.storeW (vs := [vi _, vi _, vi _, vi _]) rfl Sz116 rfl rfl (Cl.c rfl) rfl rfl (OneC.c rfl) ?_)
        refine RG.pv rfl (PV.mvI (.inr rfl) rfl) ?_
        refine RG.nil ?_
        refine WP.ret ?_
        exact ⟨_, _, ResV.two rfl (RV1.cell rfl Ag116 rfl) rfl, Cv.p, k⟩
end Go.Proofs.YtbkaincaahcnfaaGreat
namespace Go.Proofs.YtbkaincaahcnfaaGreat
set_option linter.unusedVariables false
set_option linter.unusedSimpArgs false
open Go
set_option maxRecDepth 20000
set_option linter.unusedSimpArgs false
variable {G : Gh} {L : List Ch} {R : Value → Gh → List Ch → Prop}
theorem rootOf_pos {o : EOcc} (h : 0 < o.path.length) : rootOf o = gd o.path 0 := by
  obtain ⟨c, p, q⟩ := o
  cases q with
  | nil => simp at h
  | cons a q => simp [rootOf, gd]
theorem rootOf_neg {o : EOcc} (h : ¬ 0 < o.path.length) : rootOf o = -1 := by
  obtain ⟨c, p, q⟩ := o
  cases q with
  | nil => rfl
  | cons a q => simp at h
theorem OccAt.root {xs : List Cell} {cell : Int} {zs : List Occ} {i m : Nat} (h : OccAt xs cell zs i) (hm : m < (gd xs (gd zs i).cell.toNat).shapes.xs.length) :
    (rootL (erCls xs) ((occR (erCls xs) cell).take i) ++ (rootAt (erCls xs) (gd (occR (erCls xs) cell) i)).take m).length < (flatL (erCls xs) (occR (erCls xs) cell)).length ∧ (rootAt (erCls xs) (gd (occR (erCls xs) cell) i)).take (m + 1) = (rootAt (erCls xs) (gd (occR (erCls xs) cell) i)).take m ++ [⟨rootOf (erO (gd zs i)), gd (flatL (erCls xs) (occR (erCls xs) cell)) (rootL (erCls xs) ((occR (erCls xs) cell).take i) ++ (rootAt (erCls xs) (gd (occR (erCls xs) cell) i)).take m).length⟩] := by
  have := rootAt_step (cs := erCls xs) (os := occR (erCls xs) cell) (i := i) (k := m) h.hi (by rw [h.ho]; simp only [erO, h.hs]; exact hm)
  refine ⟨this.1, ?_⟩
  rw [this.2, ← h.ho]
theorem OccAt.rlen {xs : List Cell} {cell : Int} {zs : List Occ} {i : Nat} (h : OccAt xs cell zs i) : (rootAt (erCls xs) (gd (occR (erCls xs) cell) i)).length = (gd xs (gd zs i).cell.toNat).shapes.xs.length := by
  rw [rootAt_len, h.ho]; simp only [erO, h.hs]
theorem rooted_i {l : Lib} {cell : Int} (hL : RLib G L l.cells.v l.cells.xs) (hlen : lenC (erCls l.cells.xs)) (k : ∀ v', R (.tuple #[v', vi (shE (erCls l.cells.xs) cell)]) G (osl 139 rshapeT v' (rootR (erCls l.cells.xs) cell) :: L)) : CallT Tryz.prog 49 #[vT libT l, vi cell] G L R := by
  have hE := erCls_len l.cells.xs
  refine CallT.enter (args := _) Tryz.func49 rfl rfl (by kernel_rfl) rfl ?_
  refine WP.seq ?_
  refine WP.region ?_
  refine RG.ot rfl (OT.box (cs := libT.enc l) rfl rfl rfl fun b2 => ?_)
  refine RG.pv rfl (PV.asg rfl rfl) ?_
  refine RG.pv rfl (PV.mvI (.inr rfl) rfl) ?_
  refine RG.nil ?_
  refine WP.seq ?_
  refine WP.region ?_
  refine RG.pv rfl (PV.loadW rfl Ag30 rfl rfl) ?_
  refine RG.pv rfl (PV.mvI (.inl rfl) rfl) ?_
  refine RG.callF (vs := [_, _]) rfl rfl En91 rfl (flat_i hL.up hlen (fun w17 => ?_))
  refine RG.pv rfl (PV.move (v := .tuple _) rfl rfl) ?_
  refine RG.pv rfl (PV.ext (v := w17) rfl rfl rfl) ?_
  refine RG.pv rfl (PV.ext rfl rfl rfl) ?_
  refine RG.pv rfl (PV.asg (v := w17) rfl rfl) ?_
  refine RG.pv rfl (PV.mvI (.inr rfl) rfl) ?_
  refine RG.nil ?_
  refine WP.seq ?_
  refine WP.seq ?_
  refine WP.region ?_
  refine RG.pv rfl (PV.mvI (.inl rfl) rfl) ?_
  refine RG.pv rfl (PV.neq rfl rfl rfl) ?_
  refine RG.nil ?_
  refine WP.cond rfl (fun h1 => ?_) (fun h1 => ?_)
  · have h1 : shE (erCls l.cells.xs) cell ≠ 0 := by simpa using h1
    have e2 : rootR (erCls l.cells.xs) cell = [] := by rw [rootR, decide_eq_false h1]; rfl
    rw [e2] at k
    refine WP.seq ?_
    refine WP.region ?_
    refine RG.pv rfl (PV.mvI (.inl rfl) rfl) ?_
    refine RG.pv rfl (PV.asg rfl rfl) ?_
    refine RG.pv rfl (PV.mvI (.inr rfl) rfl) ?_
    refine RG.nil ?_
    refine WP.ret ?_
    exact ⟨_, _, ResV.two rfl rfl rfl, Cv.p.trans Cv.nilS, k (.slice none 0 0)⟩
  · have h1 : shE (erCls l.cells.xs) cell = 0 := by simpa using h1
    have e2 : rootR (erCls l.cells.xs) cell = rootL (erCls l.cells.xs) (occR (erCls l.cells.xs) cell) := by rw [rootR, decide_eq_true h1]; rfl
    have hsr := shR_ok h1
    have hfl := flatL_len (cs := (erCls l.cells.xs)) (cell := cell)
    rw [e2, h1] at k
    refine WP.skip ?_
    refine WP.seq ?_
    refine WP.region ?_
    refine RG.pv rfl (PV.loadW rfl Ag30 rfl rfl) ?_
    refine RG.pv rfl (PV.mvI (.inl rfl) rfl) ?_
    refine RG.callF (vs := [_, _]) rfl rfl En92 rfl (occ_i hL.up hlen (fun w26 zs he => ?_))
    refine RG.pv rfl (PV.move (v := .tuple _) rfl rfl) ?_
    refine RG.pv rfl (PV.ext (v := w26) rfl rfl rfl) ?_
    refine RG.pv rfl (PV.ext rfl rfl rfl) ?_
    refine RG.pv rfl (PV.asg (v := w26) rfl rfl) ?_
    refine RG.pv rfl (PV.mvI (.inr rfl) rfl) ?_
    refine RG.nil ?_
    refine WP.seq ?_
    refine WP.region ?_
    refine RG.ot rfl (OT.bslice (F := rshapeT) (els := []) rfl El69 rfl (by decide) rfl (by decide) trivial fun v29 => ?_)
    refine RG.pv rfl (PV.asg (v := v29) rfl rfl) ?_
    refine RG.nil ?_
    refine WP.seq ?_
    refine WP.seq ?_
    refine WP.region ?_
    refine RG.pv rfl (PV.move (v := w26) rfl rfl) ?_
    refine RG.pv rfl (PV.len (v := w26) rfl Tryz.underlying98 rfl SlF.o) ?_
    refine RG.pv rfl (PV.mvI (.inl rfl) rfl) ?_
    refine RG.nil ?_
    refine WP.block ?_
    have hzl : zs.length = (occR (erCls l.cells.xs) cell).length := by rw [← he, erOs_len]
    refine WP.bdo w26 fun hbz => ?_
    refine WP.cv (Cv.eqS (ys := rootL (erCls l.cells.xs) ((occR (erCls l.cells.xs) cell).take 0)) rfl) ?_
    refine WP.loop2 [2, 6, 30, 31] (fun (i : Nat) (v : Value) => i ≤ zs.length) (fun (i : Nat) (v : Value) => [(32, vi i), (10, v)]) (fun (i : Nat) (v : Value) => osl 139 rshapeT v (rootL (erCls l.cells.xs) ((occR (erCls l.cells.xs) cell).take i)) :: osl 126 occT w26 zs :: bagS 2 intT (pths zs) :: osl 135 shapeT w17 (shR (erCls l.cells.xs) cell) :: blk b2 30 (libT.enc l) :: L) (fun (i : Nat) (v : Value) => zs.length - i) 0 v29 (by omega) ⟨rfl, rfl, trivial⟩ Cv.p ?_
    rintro i v τ hi
    refine WP.seq ?_
    refine WP.region ?_
    refine RG.pv rfl (PV.lss rfl rfl rfl) ?_
    refine RG.nil ?_
    refine WP.seq ?_
    refine WP.cond rfl (fun h2 => ?_) (fun h2 => ?_)
    · have h2 := of_decide_eq_true h2
      have h3 : i < zs.length := by omega
      have ha := OccAt.of (cell := cell) he h3
      have hrd : Rs G (bagS 2 intT (pths zs) :: []) intT (gd zs i).path.v (gd zs i).path.xs := RsE.path RsE.o h3
      have hac := ha.hc
      have hal := ha.hl
      have hsl := hL.sa ha.hc.2
      refine WP.skip ?_
      refine WP.seq ?_
      refine WP.block ?_
      refine WP.seq ?_
      refine WP.region ?_
      refine RG.pv rfl (PV.idxS (v := w26) rfl Is98 rfl SlF.o rfl rfl (by omega)) ?_
      refine RG.pv rfl (PV.loadE rfl Ag126 rfl rfl (El.o (getG (by omega)))) ?_
      refine RG.ot rfl (OT.alloc rfl Zr126 fun b12 => ?_)
      refine RG.ot rfl (OT.storeW (vs := [vi _, vi _, vi _, vi _, _]) rfl Sz126 rfl rfl (Cl.c rfl) rfl rfl (OneC.val rfl (OneC.val rfl (OneC.val rfl (OneC.val rfl (OneC.sl (SlF.r hrd) OneC.nil))))) ?_)
      refine RG.nil ?_
      refine WP.seq ?_
      refine WP.region ?_
      refine RG.pv rfl (PV.mvI (.inr rfl) rfl) ?_
      refine RG.nil ?_
      refine WP.cut1 [2, 6, 10, 12, 30, 31, 32] (fun (rt : Int) => rt = rootOf (erO (gd zs i))) (fun (rt : Int) => [(13, vi rt)]) (fun (rt : Int) => osl 139 rshapeT v (rootL (erCls l.cells.xs) ((occR (erCls l.cells.xs) cell).take i)) :: osl 126 occT w26 zs :: bagS 2 intT (pths zs) :: osl 135 shapeT w17 (shR (erCls l.cells.xs) cell) :: blk b2 30 (libT.enc l) :: blk b12 126 (occT.enc (gd zs i)) :: L) ?_ ?_
      refine WP.seq ?_
      refine WP.region ?_
      refine RG.pv rfl (PV.field rfl Fo126_2 rfl) ?_
      refine RG.pv rfl (PV.load1 rfl Sc34 rfl (Rd.blk rfl)) ?_
      refine RG.pv rfl (PV.len rfl Tryz.underlying34 rfl (SlF.r hrd)) ?_
      refine RG.pv rfl (PV.gtr rfl rfl rfl) ?_
      refine RG.nil ?_
      refine WP.cond rfl (fun h4 => ?_) (fun h4 => ?_)
      · have h4 := of_decide_eq_true h4
        refine WP.region ?_
        refine RG.pv rfl (PV.field rfl Fo126_2 rfl) ?_
        refine RG.pv rfl (PV.load1 rfl Sc34 rfl (Rd.blk rfl)) ?_
        refine RG.pv rfl (PV.idxS (j := 0) rfl Is34 rfl (SlF.r hrd) rfl (by omega) (by omega)) ?_
        refine RG.pv rfl (PV.loadE1 rfl Sc2 rfl rfl (El.r hrd (getG (by omega))) rfl) ?_
        refine RG.pv rfl (PV.mvI (.inr rfl) rfl) ?_
        refine RG.nil ?_
        exact ⟨rfl, (gd (gd zs i).path.xs 0), (rootOf_pos (o := erO (gd zs i)) (by simp only [erO]; omega)).symm, ⟨rfl, trivial⟩, ⟨rfl, rfl, rfl, rfl, rfl, rfl, rfl, trivial⟩, Cv.p⟩
      · have h4 := of_decide_eq_false h4
        refine WP.skip ?_
        exact ⟨rfl, (-1), (rootOf_neg (o := erO (gd zs i)) (by simp only [erO]; omega)).symm, ⟨rfl, trivial⟩, ⟨rfl, rfl, rfl, rfl, rfl, rfl, rfl, trivial⟩, Cv.p⟩
      rintro rt τ2 hrt
      refine WP.seq ?_
      refine WP.region ?_
      refine RG.pv rfl (PV.field rfl Fo30_0 rfl) ?_
      refine RG.pv rfl (PV.load1 rfl Sc28 rfl (Rd.blk rfl)) ?_
      refine RG.pv rfl (PV.field rfl Fo126_0 rfl) ?_
      refine RG.pv rfl (PV.load1 rfl Sc2 rfl (Rd.blk rfl)) ?_
      refine RG.pv rfl (PV.idxS (j := (gd zs i).cell.toNat) rfl Is28 rfl (SlF.r hL.c) rfl (by omega) (by omega)) ?_
      refine RG.pv rfl (PV.field rfl Fo85_1 rfl) ?_
      refine RG.pv rfl (PV.loadF rfl Sc76 rfl rfl (El.r hL.c (getG (by omega))) rfl) ?_
      refine RG.pv rfl (PV.len rfl Tryz.underlying76 rfl (SlF.r hsl)) ?_
      refine RG.pv rfl (PV.mvI (.inl rfl) rfl) ?_
      refine RG.nil ?_
      refine WP.block ?_
      subst hrt
      refine WP.cv (Cv.eqS (ys := rootL (erCls l.cells.xs) ((occR (erCls l.cells.xs) cell).take i) ++ (rootAt (erCls l.cells.xs) (gd (occR (erCls l.cells.xs) cell) i)).take 0) (by simp)) ?_
      refine WP.loop2 [2, 6, 13, 30, 31, 32, 51] (fun (m : Nat) (v : Value) => m ≤ (gd l.cells.xs (gd zs i).cell.toNat).shapes.xs.length) (fun (m : Nat) (v : Value) => [(52, vi m), (10, v)]) (fun (m : Nat) (v : Value) => osl 139 rshapeT v (rootL (erCls l.cells.xs) ((occR (erCls l.cells.xs) cell).take i) ++ (rootAt (erCls l.cells.xs) (gd (occR (erCls l.cells.xs) cell) i)).take m) :: osl 126 occT w26 zs :: bagS 2 intT (pths zs) :: osl 135 shapeT w17 (shR (erCls l.cells.xs) cell) :: blk b2 30 (libT.enc l) :: blk b12 126 (occT.enc (gd zs i)) :: L) (fun (m : Nat) (v : Value) => (gd l.cells.xs (gd zs i).cell.toNat).shapes.xs.length - m) 0 v (by omega) ⟨rfl, rfl, trivial⟩ Cv.p ?_
      rintro m v τ hm
      refine WP.seq ?_
      refine WP.region ?_
      refine RG.pv rfl (PV.lss rfl rfl rfl) ?_
      refine RG.nil ?_
      refine WP.seq ?_
      refine WP.cond rfl (fun h5 => ?_) (fun h5 => ?_)
      · have h5 := of_decide_eq_true h5
        obtain ⟨q1, q2⟩ := ha.root (m := m) (by omega)
        rw [← hsr] at q1 q2
        have hx := q1
        have hs2 := shR_len (erCls l.cells.xs) cell
        rw [List.length_append, List.length_take] at hx
        refine WP.skip ?_
        refine WP.seq ?_
        refine WP.block ?_
        refine WP.region ?_
        refine RG.pv rfl (PV.move (v := v) rfl rfl) ?_
        refine RG.pv rfl (PV.mvI (.inl rfl) rfl) ?_
        refine RG.pv rfl (PV.move (v := w17) rfl rfl) ?_
        refine RG.pv rfl (PV.move (v := v) rfl rfl) ?_
        refine RG.pv rfl (PV.len (v := v) rfl Tryz.underlying69 rfl SlF.o) ?_
        refine RG.pv rfl (PV.idxS (v := w17) rfl Is76 rfl SlF.o rfl rfl (by omega)) ?_
        refine RG.pv rfl (PV.loadE rfl Ag135 rfl rfl (El.o (getG (by omega)))) ?_
        refine RG.pv rfl (PV.build (vs := [(0, [vi _]), (1, [vi _, vi _, vi _, vi _, vi _])]) (out := [_, _, _, _, _, _]) rfl Zr139 Pl139 ⟨rfl, (Cl.c rfl), ⟨rfl, (Cl.c rfl), trivial⟩⟩ rfl) ?_
        refine RG.ot rfl (OT.bslice (F := rshapeT) (els := [⟨rootOf (erO (gd zs i)), gd (shR (erCls l.cells.xs) cell) (rootL (erCls l.cells.xs) ((occR (erCls l.cells.xs) cell).take i) ++ (rootAt (erCls l.cells.xs) (gd (occR (erCls l.cells.xs) cell) i)).take m).length⟩]) rfl El69 rfl (by decide) rfl (by decide) ⟨rfl, (Cl.c rfl), trivial⟩ fun v62 => ?_)
        refine RG.ot rfl (OT.append (v := v) (u := v62) (F := rshapeT) rfl El69 rfl (by decide) rfl rfl Rs.o (OneL.c (fun _ => rfl)) rfl (by first | omega | (simp <;> omega)) fun v63 => ?_)
        refine RG.pv rfl (PV.asg (v := v63) rfl rfl) ?_
        refine RG.nil ?_
        refine WP.region ?_
        refine RG.pv rfl (PV.add rfl rfl rfl (by omega)) ?_
        refine RG.pv rfl (PV.mvI (.inl rfl) rfl) ?_
        refine RG.nil ?_
        exact ⟨rfl, m + 1, v63, (by omega), ⟨rfl, rfl, trivial⟩, ⟨rfl, rfl, rfl, rfl, rfl, rfl, rfl, trivial⟩, ((Cv.p (C := osl 139 rshapeT v63 (rootL (erCls l.cells.xs) ((occR (erCls l.cells.xs) cell).take i) ++ (rootAt (erCls l.cells.xs) (gd (occR (erCls l.cells.xs) cell) i)).take m ++ [⟨rootOf (erO (gd zs i)), gd (shR (erCls l.cells.xs) cell) (rootL (erCls l.cells.xs) ((occR (erCls l.cells.xs) cell).take i) ++ (rootAt (erCls l.cells.xs) (gd (occR (erCls l.cells.xs) cell) i)).take m).length⟩]) :: osl 126 occT w26 zs :: bagS 2 intT (pths zs) :: osl 135 shapeT w17 (shR (erCls l.cells.xs) cell) :: blk b2 30 (libT.enc l) :: blk b12 126 (occT.enc (gd zs i)) :: L)).trans (Cv.eqS (by rw [List.append_assoc, ← q2]))), by omega⟩
      · have h5 := of_decide_eq_false h5
        have e : rootL (erCls l.cells.xs) ((occR (erCls l.cells.xs) cell).take i) ++ (rootAt (erCls l.cells.xs) (gd (occR (erCls l.cells.xs) cell) i)).take m = rootL (erCls l.cells.xs) ((occR (erCls l.cells.xs) cell).take (i + 1)) := by rw [List.take_of_length_le (i := m) (l := rootAt (erCls l.cells.xs) (gd (occR (erCls l.cells.xs) cell) i)) (by rw [ha.rlen]; omega), rootL_take ha.hi]
        refine WP.exit ?_
        refine WP.region ?_
        refine RG.pv rfl (PV.add rfl rfl rfl (by omega)) ?_
        refine RG.pv rfl (PV.mvI (.inl rfl) rfl) ?_
        refine RG.nil ?_
        exact ⟨rfl, i + 1, v, (by omega), ⟨rfl, rfl, trivial⟩, ⟨rfl, rfl, rfl, rfl, trivial⟩, ((Cv.eqS e).trans Cv.p), by omega⟩
    · have h2 := of_decide_eq_false h2
      have e : rootL (erCls l.cells.xs) ((occR (erCls l.cells.xs) cell).take i) = rootL (erCls l.cells.xs) (occR (erCls l.cells.xs) cell) := by rw [List.take_of_length_le (by omega)]
      rw [e]
      refine WP.exit ?_
      refine WP.seq ?_
      refine WP.region ?_
      refine RG.pv rfl (PV.move (v := v) rfl rfl) ?_
      refine RG.pv rfl (PV.asg (v := v) rfl rfl) ?_
      refine RG.pv rfl (PV.mvI (.inr rfl) rfl) ?_
      refine RG.nil ?_
      refine WP.ret ?_
      exact ⟨_, _, ResV.two rfl rfl rfl, Cv.p, k v⟩
theorem elN_ns {xs : List Cell} {cell : Int} (hc : cell.toNat < xs.length) : elN (erCls xs) cell = (elems (gd xs cell.toNat).insts.xs).length := by rw [elN, erCl_insts hc]
theorem hasEl_i {l : Lib} {cell n : Int} (hL : RLib G L l.cells.v l.cells.xs) (hok : okLib (erCls l.cells.xs) = true ∧ 0 ≤ cell ∧ cell < (erCls l.cells.xs).length) (k : R (.bool (within n 0 ((elN (erCls l.cells.xs) cell : Int) - 1))) G L) : CallT Tryz.prog 50 #[vT libT l, vi cell, vi n] G L R := by
  have hE := erCls_len l.cells.xs
  have hce := erCl_insts (xs := l.cells.xs) (i := cell.toNat) (by omega)
  have hns : okNs (gd l.cells.xs cell.toNat).insts.xs := by rw [← hce]; exact okLib_ns hok.1 (by omega)
  have hb : (elems (gd l.cells.xs cell.toNat).insts.xs).length ≤ 128 := by rw [← hce]; exact elems_len_bd hok.1 (by omega)
  rw [elN_ns (by omega)] at k
  refine CallT.enter (args := _) Tryz.func50 rfl rfl (by kernel_rfl) rfl ?_
  refine WP.seq ?_
  refine WP.region ?_
  refine RG.ot rfl (OT.box (cs := libT.enc l) rfl rfl rfl fun b3 => ?_)
  refine RG.pv rfl (PV.mvB (.inr rfl) rfl) ?_
  refine RG.nil ?_
  refine WP.seq ?_
  refine WP.region ?_
  refine RG.pv rfl (PV.mvI (.inl rfl) rfl) ?_
  refine RG.pv rfl (PV.field rfl Fo30_0 rfl) ?_
  refine RG.pv rfl (PV.load1 rfl Sc28 rfl (Rd.blk rfl)) ?_
  refine RG.pv rfl (PV.mvI (.inl rfl) rfl) ?_
  refine RG.pv rfl (PV.idxS (j := cell.toNat) rfl Is28 rfl (SlF.r hL.c) rfl (by omega) (by omega)) ?_
  refine RG.pv rfl (PV.loadE rfl Ag85 rfl rfl (El.r hL.c (getG (by omega)))) ?_
  refine RG.callF (vs := [_]) rfl rfl En56 rfl (elems_i (hL.na (by omega)).up hns (fun v13 => ?_))
  refine RG.pv rfl (PV.len (v := v13) rfl Tryz.underlying80 rfl SlF.o) ?_
  refine RG.pv rfl (PV.sub rfl rfl rfl (by omega)) ?_
  refine RG.callF (vs := [_, _, _]) rfl rfl En51 rfl (within_s ?_)
  refine RG.pv rfl (PV.mvB (.inr rfl) rfl) ?_
  refine RG.nil ?_
  refine WP.ret ?_
  exact ⟨_, _, ResV.one rfl rfl, Cv.p, k⟩
def pickR (rs : List RShape) (f : Int → Bool) : List Shape := (rs.filter fun x => f x.root).map RShape.shape
theorem pickR_step {rs : List RShape} {f : Int → Bool} {i : Nat} (h : i < rs.length) : pickR (rs.take (i + 1)) f = pickR (rs.take i) f ++ (if f (gd rs i).root then [(gd rs i).shape] else []) := by
  rw [pickR, pickR, List.take_add_one, getG h, List.filter_append, List.map_append]
  cases hp : f (gd rs i).root <;> simp [hp]
theorem pickR_len (rs : List RShape) (f : Int → Bool) : (pickR rs f).length ≤ rs.length := by rw [pickR, List.length_map]; exact List.length_filter_le _ _
theorem chosen_i {v fv : Value} {rs : List RShape} {f : Int → Bool} (h1 : Rs G L rshapeT v rs) (hb : rs.length ≤ 4800) (hf : ∀ n, CB Tryz.prog G L fv [vi n] (.bool (f n))) (k : ∀ v' ys, er ys = layL (pickR rs f) → R v' G (osl 59 slT v' ys :: bagS 116 rectT ys :: L)) : CallT Tryz.prog 60 #[v, fv] G L R := by
  refine CallT.enter (args := _) Tryz.func60 rfl rfl (by kernel_rfl) rfl ?_
  refine WP.seq ?_
  refine WP.region ?_
  refine RG.pv rfl (PV.asg rfl rfl) ?_
  refine RG.nil ?_
  refine WP.seq ?_
  refine WP.region ?_
  refine RG.ot rfl (OT.bslice (F := shapeT) (els := []) rfl El76 rfl (by decide) rfl (by decide) trivial fun v8 => ?_)
  refine RG.pv rfl (PV.asg (v := v8) rfl rfl) ?_
  refine RG.nil ?_
  refine WP.seq ?_
  refine WP.seq ?_
  refine WP.region ?_
  refine RG.pv rfl (PV.move (v := v) rfl rfl) ?_
  refine RG.pv rfl (PV.len (v := v) rfl Tryz.underlying69 rfl (SlF.r h1)) ?_
  refine RG.pv rfl (PV.mvI (.inl rfl) rfl) ?_
  refine RG.nil ?_
  refine WP.block ?_
  refine WP.cv (Cv.eqS (ys := pickR (rs.take 0) f) rfl) ?_
  refine WP.loop2 [1, 9, 10] (fun (i : Nat) (v2 : Value) => i ≤ rs.length) (fun (i : Nat) (v2 : Value) => [(11, vi i), (5, v2)]) (fun (i : Nat) (v2 : Value) => osl 135 shapeT v2 (pickR (rs.take i) f) :: L) (fun (i : Nat) (v2 : Value) => rs.length - i) 0 v8 (by omega) ⟨rfl, rfl, trivial⟩ Cv.p ?_
  rintro i v2 τ hi
  refine WP.seq ?_
  refine WP.region ?_
  refine RG.pv rfl (PV.lss rfl rfl rfl) ?_
  refine RG.nil ?_
  refine WP.seq ?_
  refine WP.cond rfl (fun h2 => ?_) (fun h2 => ?_)
  · have h2 := of_decide_eq_true h2
    have hst := pickR_step (rs := rs) (f := f) (i := i) (by omega)
    have hll := pickR_len (rs.take i) f
    rw [List.length_take] at hll
    refine WP.skip ?_
    refine WP.seq ?_
    refine WP.block ?_
    refine WP.seq ?_
    refine WP.region ?_
    refine RG.pv rfl (PV.idxS (v := v) rfl Is69 rfl (SlF.r h1) rfl rfl (by omega)) ?_
    refine RG.pv rfl (PV.loadE rfl Ag139 rfl rfl (El.r h1 (getG (by omega)))) ?_
    refine RG.ot rfl (OT.alloc rfl Zr139 fun b7 => ?_)
    refine RG.ot rfl (OT.storeW (vs := [vi _, vi _, vi _, vi _, vi _, vi _]) rfl Sz139 rfl rfl (Cl.c rfl) rfl rfl (OneC.c rfl) ?_)
    refine RG.nil ?_
    refine WP.seq ?_
    refine WP.region ?_
    refine RG.pv rfl (PV.move (v := fv) rfl rfl) ?_
    refine RG.pv rfl (PV.field rfl Fo139_0 rfl) ?_
    refine RG.pv rfl (PV.load1 rfl Sc2 rfl (Rd.blk rfl)) ?_
    refine RG.callB (vs := [_]) rfl rfl rfl rfl (CB.up (hf _)) ?_
    refine RG.nil ?_
    refine WP.cond rfl (fun h3 => ?_) (fun h3 => ?_)
    · rw [if_pos h3] at hst
      refine WP.region ?_
      refine RG.pv rfl (PV.move (v := v2) rfl rfl) ?_
      refine RG.pv rfl (PV.field rfl Fo139_1 rfl) ?_
      refine RG.pv rfl (PV.loadB (vs := [_, _, _, _, _]) rfl Ag135 rfl rfl rfl) ?_
      refine RG.ot rfl (OT.bslice (F := shapeT) (els := [(gd rs i).shape]) rfl El76 rfl (by decide) rfl (by decide) ⟨rfl, (Cl.c rfl), trivial⟩ fun v22 => ?_)
      refine RG.ot rfl (OT.append (v := v2) (u := v22) (F := shapeT) rfl El76 rfl (by decide) rfl rfl Rs.o (OneL.c (fun _ => rfl)) rfl (by first | omega | (simp <;> omega)) fun v23 => ?_)
      refine RG.pv rfl (PV.asg (v := v23) rfl rfl) ?_
      refine RG.nil ?_
      refine WP.region ?_
      refine RG.pv rfl (PV.add rfl rfl rfl (by omega)) ?_
      refine RG.pv rfl (PV.mvI (.inl rfl) rfl) ?_
      refine RG.nil ?_
      exact ⟨rfl, i + 1, v23, (by omega), ⟨rfl, rfl, trivial⟩, ⟨rfl, rfl, rfl, trivial⟩, ((Cv.p (C := osl 135 shapeT v23 (pickR (rs.take i) f ++ [(gd rs i).shape]) :: L)).trans (Cv.eqS hst.symm)), by omega⟩
    · have h3' : ¬ f (gd rs i).root = true := by rw [h3]; decide
      rw [if_neg h3', List.append_nil] at hst
      refine WP.skip ?_
      refine WP.region ?_
      refine RG.pv rfl (PV.add rfl rfl rfl (by omega)) ?_
      refine RG.pv rfl (PV.mvI (.inl rfl) rfl) ?_
      refine RG.nil ?_
      exact ⟨rfl, i + 1, v2, (by omega), ⟨rfl, rfl, trivial⟩, ⟨rfl, rfl, rfl, trivial⟩, ((Cv.p (C := osl 135 shapeT v2 (pickR (rs.take i) f) :: L)).trans (Cv.eqS hst.symm)), by omega⟩
  · have h2 := of_decide_eq_false h2
    have e : rs.take i = rs := List.take_of_length_le (by omega)
    rw [e]
    refine WP.exit ?_
    refine WP.seq ?_
    refine WP.region ?_
    refine RG.pv rfl (PV.move (v := v2) rfl rfl) ?_
    refine RG.callF (vs := [v2]) rfl rfl En70 rfl (layers_i Rs.o (fun w8 ys he => ?_))
    refine RG.pv rfl (PV.asg rfl rfl) ?_
    refine RG.nil ?_
    refine WP.ret ?_
    exact ⟨_, _, ResV.one rfl rfl, Cv.p, k w8 ys he⟩
end Go.Proofs.YtbkaincaahcnfaaGreat
namespace Go.Proofs.YtbkaincaahcnfaaGreat
set_option linter.unusedVariables false
set_option linter.unusedSimpArgs false
open Go
set_option maxRecDepth 20000
set_option maxHeartbeats 2000000
set_option linter.unusedSimpArgs false
variable {G : Gh} {L : List Ch} {R : Value → Gh → List Ch → Prop}
theorem l21Has_s {v : Value} {ls : List Int} {n : Int} (h1 : Rs G L intT v ls) (k : R (.bool (ls.any fun a => decide (a = n))) G L) : CallT Tryz.prog 107 #[v, vi n] G L R := by
  refine CallT.bd h1 fun hb => ?_
  refine CallT.enter (args := _) Tryz.func107 rfl rfl (by kernel_rfl) rfl ?_
  refine WP.seq ?_
  refine WP.region ?_
  refine RG.pv rfl (PV.mvB (.inr rfl) rfl) ?_
  refine RG.nil ?_
  refine WP.seq ?_
  refine WP.seq ?_
  refine WP.region ?_
  refine RG.pv rfl (PV.mvI (.inr rfl) rfl) ?_
  refine RG.nil ?_
  refine WP.block ?_
  refine WP.loop1 [0, 1] (fun i => i ≤ ls.length ∧ ∀ j, j < i → decide (gd ls j = n) = false) (fun i => [(5, vi i)]) (fun i => L) (fun i => ls.length - i) 0 ⟨by omega, fun j h => by omega⟩ ⟨rfl, trivial⟩ Cv.p ?_
  rintro i τ ⟨hi, hj⟩
  refine WP.seq ?_
  refine WP.seq ?_
  refine WP.region ?_
  refine RG.pv rfl (PV.mvI (.inl rfl) rfl) ?_
  refine RG.pv rfl (PV.move (v := v) rfl rfl) ?_
  refine RG.pv rfl (PV.len (v := v) rfl Tryz.underlying34 rfl (SlF.r h1)) ?_
  refine RG.pv rfl (PV.lss rfl rfl rfl) ?_
  refine RG.nil ?_
  refine WP.cond rfl (fun h2 => ?_) (fun h2 => ?_)
  · have h2 := of_decide_eq_true h2
    refine WP.skip ?_
    refine WP.seq ?_
    refine WP.block ?_
    refine WP.seq ?_
    refine WP.region ?_
    refine RG.pv rfl (PV.move (v := v) rfl rfl) ?_
    refine RG.pv rfl (PV.mvI (.inl rfl) rfl) ?_
    refine RG.pv rfl (PV.idxS (v := v) rfl Is34 rfl (SlF.r h1) rfl rfl (by omega)) ?_
    refine RG.pv rfl (PV.loadE1 rfl Sc2 rfl rfl (El.r h1 (getG (by omega))) rfl) ?_
    refine RG.pv rfl (PV.mvI (.inl rfl) rfl) ?_
    refine RG.pv rfl (PV.eql rfl rfl rfl) ?_
    refine RG.nil ?_
    refine WP.cond rfl (fun h3 => ?_) (fun h3 => ?_)
    · have e : (ls.any fun a => decide (a = n)) = true := List.any_eq_true.2 ⟨gd ls i, gd_mem (by omega), h3⟩
      rw [e] at k
      refine WP.seq ?_
      refine WP.region ?_
      refine RG.pv rfl (PV.mvB (.inr rfl) rfl) ?_
      refine RG.nil ?_
      refine WP.ret ?_
      exact ⟨_, _, ResV.one rfl rfl, Cv.p, k⟩
    · have hj' : ∀ j, j < i + 1 → decide (gd ls j = n) = false := fun j h => by
        by_cases c : j = i
        · rw [c]; exact h3
        · exact hj j (by omega)
      refine WP.skip ?_
      refine WP.region ?_
      refine RG.pv rfl (PV.mvI (.inl rfl) rfl) ?_
      refine RG.pv rfl (PV.add rfl rfl rfl (by omega)) ?_
      refine RG.pv rfl (PV.mvI (.inr rfl) rfl) ?_
      refine RG.nil ?_
      exact ⟨rfl, i + 1, ⟨by omega, hj'⟩, ⟨rfl, trivial⟩, ⟨rfl, rfl, trivial⟩, Cv.p, by omega⟩
  · have h2 := of_decide_eq_false h2
    have e : (ls.any fun a => decide (a = n)) = false := by
      rw [List.any_eq_false]
      intro a ha
      obtain ⟨j, hj2, rfl⟩ := List.getElem_of_mem ha
      have := hj j (by omega)
      rw [gd_eq hj2] at this
      simpa using this
    rw [e] at k
    refine WP.exit ?_
    refine WP.seq ?_
    refine WP.region ?_
    refine RG.pv rfl (PV.mvB (.inr rfl) rfl) ?_
    refine RG.nil ?_
    refine WP.ret ?_
    exact ⟨_, _, ResV.one rfl rfl, Cv.p, k⟩
/-- an occurrence whose path begins with a number of the list -/
def selS (ls : List Int) (o : EOcc) : Bool := decide (0 < (o.path.length : Int)) && ls.any fun a => decide (a = gd o.path 0)
def selL (cs : List ECell) (os : List EOcc) (ls : List Int) (b : Bool) : List Shape := os.flatMap fun o => if (selS ls o == b) = true then flatOf cs o else []
theorem selL_take {cs : List ECell} {os : List EOcc} {ls : List Int} {b : Bool} {i : Nat} (h : i < os.length) : selL cs (os.take (i + 1)) ls b = selL cs (os.take i) ls b ++ (if (selS ls (gd os i) == b) = true then flatOf cs (gd os i) else []) := by
  rw [selL, selL, List.take_add_one, getG h, List.flatMap_append]; simp
theorem selL_len (cs : List ECell) (ls : List Int) (b : Bool) (os : List EOcc) : (selL cs os ls b).length ≤ (flatL cs os).length := by
  induction os with
  | nil => simp [selL, flatL]
  | cons o os ih =>
    have e1 : selL cs (o :: os) ls b = (if (selS ls o == b) = true then flatOf cs o else []) ++ selL cs os ls b := rfl
    have e2 : flatL cs (o :: os) = flatOf cs o ++ flatL cs os := rfl
    rw [e1, e2, List.length_append, List.length_append]
    split
    · omega
    · simp only [List.length_nil]; omega
theorem selL_mem {cs : List ECell} {os : List EOcc} {ls : List Int} {b : Bool} {s : Shape} (h : s ∈ selL cs os ls b) : s ∈ flatL cs os := by
  obtain ⟨o, ho, hs⟩ := List.mem_flatMap.1 h
  split at hs
  · exact List.mem_flatMap.2 ⟨o, ho, hs⟩
  · cases hs
theorem l21Shapes_s {l : Lib} {cell : Int} {v : Value} {ls : List Int} {b : Bool} (hL : RLib G L l.cells.v l.cells.xs) (hlen : lenC (erCls l.cells.xs)) (h2 : Rs G L intT v ls) (k : ∀ v', R v' G (osl 135 shapeT v' (selL (erCls l.cells.xs) (occR (erCls l.cells.xs) cell) ls b) :: L)) : CallT Tryz.prog 59 #[vT libT l, vi cell, v, .bool b] G L R := by
  have hE := erCls_len l.cells.xs
  have hfl := flatL_len (cs := (erCls l.cells.xs)) (cell := cell)
  refine CallT.enter (args := _) Tryz.func59 rfl rfl (by kernel_rfl) rfl ?_
  refine WP.seq ?_
  refine WP.region ?_
  refine RG.ot rfl (OT.box (cs := libT.enc l) rfl rfl rfl fun b4 => ?_)
  refine RG.pv rfl (PV.asg rfl rfl) ?_
  refine RG.nil ?_
  refine WP.seq ?_
  refine WP.region ?_
  refine RG.ot rfl (OT.bslice (F := shapeT) (els := []) rfl El76 rfl (by decide) rfl (by decide) trivial fun v16 => ?_)
  refine RG.pv rfl (PV.asg (v := v16) rfl rfl) ?_
  refine RG.nil ?_
  refine WP.seq ?_
  refine WP.region ?_
  refine RG.pv rfl (PV.loadW rfl Ag30 rfl rfl) ?_
  refine RG.pv rfl (PV.mvI (.inl rfl) rfl) ?_
  refine RG.callF (vs := [_, _]) rfl rfl En73 rfl (occ_r hL.up hlen (fun w20 zs he => ?_))
  refine RG.pv rfl (PV.move (v := .tuple _) rfl rfl) ?_
  refine RG.pv rfl (PV.ext (v := w20) rfl rfl rfl) ?_
  refine RG.pv rfl (PV.ext rfl rfl rfl) ?_
  refine RG.pv rfl (PV.asg (v := w20) rfl rfl) ?_
  refine RG.pv rfl (PV.mvI (.inr rfl) rfl) ?_
  refine RG.nil ?_
  refine WP.seq ?_
  refine WP.seq ?_
  refine WP.region ?_
  refine RG.pv rfl (PV.mvI (.inr rfl) rfl) ?_
  refine RG.nil ?_
  refine WP.block ?_
  have hzl : zs.length = (occR (erCls l.cells.xs) cell).length := by rw [← he, erOs_len]
  refine WP.bdo w20 fun hbz => ?_
  refine WP.cv ((Cv.p (C := osl 135 shapeT v16 [] :: osl 126 occT w20 zs :: bagS 2 intT (pths zs) :: blk b4 30 (libT.enc l) :: L)).trans (Cv.eqS (ys := selL (erCls l.cells.xs) ((occR (erCls l.cells.xs) cell).take 0) ls b) rfl)) ?_
  refine WP.loop2 [2, 3, 4, 10] (fun (i : Nat) (v2 : Value) => i ≤ zs.length) (fun (i : Nat) (v2 : Value) => [(12, vi i), (9, v2)]) (fun (i : Nat) (v2 : Value) => osl 135 shapeT v2 (selL (erCls l.cells.xs) ((occR (erCls l.cells.xs) cell).take i) ls b) :: osl 126 occT w20 zs :: bagS 2 intT (pths zs) :: blk b4 30 (libT.enc l) :: L) (fun (i : Nat) (v2 : Value) => zs.length - i) 0 v16 (by omega) ⟨rfl, rfl, trivial⟩ Cv.p ?_
  rintro i v2 τ hi
  refine WP.seq ?_
  refine WP.seq ?_
  refine WP.region ?_
  refine RG.pv rfl (PV.mvI (.inl rfl) rfl) ?_
  refine RG.pv rfl (PV.move (v := w20) rfl rfl) ?_
  refine RG.pv rfl (PV.len (v := w20) rfl Tryz.underlying98 rfl SlF.o) ?_
  refine RG.pv rfl (PV.lss rfl rfl rfl) ?_
  refine RG.nil ?_
  have hsl2 := selL_len (erCls l.cells.xs) ls b ((occR (erCls l.cells.xs) cell).take i)
  have hfb := flatL_bd (cs := (erCls l.cells.xs)) (cell := cell) i (by omega)
  refine WP.cond rfl (fun h3 => ?_) (fun h3 => ?_)
  · have h3 := of_decide_eq_true h3
    have h4 : i < zs.length := by omega
    have ha := OccAt.of (cell := cell) he h4
    have hrd : Rs G (bagS 2 intT (pths zs) :: []) intT (gd zs i).path.v (gd zs i).path.xs := RsE.path RsE.o h4
    have hac := ha.hc
    have hal := ha.hl
    have hsl := hL.sa ha.hc.2
    have hselE : selS ls (gd (occR (erCls l.cells.xs) cell) i) = (decide (0 < ((gd zs i).path.xs.length : Int)) && ls.any fun a => decide (a = gd (gd zs i).path.xs 0)) := by rw [ha.ho]; rfl
    refine WP.skip ?_
    refine WP.seq ?_
    refine WP.block ?_
    refine WP.seq ?_
    refine WP.region ?_
    refine RG.pv rfl (PV.move (v := w20) rfl rfl) ?_
    refine RG.pv rfl (PV.mvI (.inl rfl) rfl) ?_
    refine RG.pv rfl (PV.idxS (v := w20) rfl Is98 rfl SlF.o rfl rfl (by omega)) ?_
    refine RG.pv rfl (PV.field rfl Fo126_2 rfl) ?_
    refine RG.pv rfl (PV.loadF rfl Sc34 rfl rfl (El.o (getG (by omega))) rfl) ?_
    refine RG.pv rfl (PV.len rfl Tryz.underlying34 rfl (SlF.r hrd)) ?_
    refine RG.pv rfl (PV.gtr rfl rfl rfl) ?_
    refine RG.pv rfl (PV.mvB (.inl rfl) rfl) ?_
    refine RG.gs rfl rfl rfl (fun hp => (PV.move (v := v) rfl rfl)) ?_
    refine RG.gs rfl rfl rfl (fun hp => (PV.move (v := w20) rfl rfl)) ?_
    refine RG.gs rfl rfl rfl (fun hp => (PV.mvI (.inl rfl) rfl)) ?_
    refine RG.gs rfl rfl rfl (fun hp => (PV.idxS (v := w20) rfl Is98 (gs_t hp) SlF.o (gs_t hp) rfl (by first | omega | (simp at hp; omega)))) ?_
    refine RG.gs rfl rfl rfl (fun hp => (PV.field rfl Fo126_2 (gs_t hp))) ?_
    refine RG.gs rfl rfl rfl (fun hp => (PV.loadF rfl Sc34 (gs_t hp) rfl (El.o (getG (by first | omega | (simp at hp; omega)))) rfl)) ?_
    refine RG.gs rfl rfl rfl (fun hp => (PV.idxS (j := 0) rfl Is34 (gs_t hp) (SlF.r hrd) rfl (by first | omega | (simp at hp; omega)) (by first | omega | (simp at hp; omega)))) ?_
    refine RG.gs rfl rfl rfl (fun hp => (PV.loadE1 rfl Sc2 (gs_t hp) rfl (El.r hrd (getG (by first | omega | (simp at hp; omega)))) rfl)) ?_
    refine RG.gsC rfl rfl rfl rfl En107 (fun hp => ⟨_, (acons (gs_t hp) (acons (gs_t hp) anil)), l21Has_s (Rs.up h2) ⟨rfl, rfl, rfl⟩⟩) ?_
    refine RG.pv rfl (PV.pickA rfl rfl (fun hq => gs_t (geqT hq)) rfl) ?_
    refine RG.pv rfl (PV.mvB (.inr rfl) rfl) ?_
    refine RG.nil ?_
    refine WP.seq ?_
    refine WP.regionH0 (.q 0 (.q 1 (.q 2 (.q 3 (.q 4 (.q 5 (.q 6 (.q 7 (.q 8 (.l 9 (.l 10 Sch.nil))))))))))) (by kernel_rfl) (by kernel_rfl) (by kernel_rfl) rfl ?_
    refine RH.pv rfl (fun _ _ _ _ h => h) (Gh.le_refl _) PickC.pick rfl (PV.field rfl Fo30_0 rfl) ?_
    refine RH.pv rfl (fun _ _ _ _ h => h) (Gh.le_refl _) PickC.pick rfl (PV.load1 rfl Sc28 rfl (Rd.blk rfl)) ?_
    refine RH.pv rfl (fun _ _ _ _ h => h) (Gh.le_refl _) PickC.pick rfl (PV.move (v := w20) rfl rfl) ?_
    refine RH.pv rfl (fun _ _ _ _ h => h) (Gh.le_refl _) PickC.pick rfl (PV.mvI (.inl rfl) rfl) ?_
    refine RH.pv rfl (fun _ _ _ _ h => h) (Gh.le_refl _) PickC.pick rfl (PV.idxS (v := w20) rfl Is98 rfl SlF.o rfl rfl (by omega)) ?_
    refine RH.pv rfl (fun _ _ _ _ h => h) (Gh.le_refl _) PickC.pick rfl (PV.field rfl Fo126_0 rfl) ?_
    refine RH.pv rfl (fun _ _ _ _ h => h) (Gh.le_refl _) PickC.pick rfl (PV.loadF rfl Sc2 rfl rfl (El.o (getG (by omega))) rfl) ?_
    refine RH.pv rfl (fun _ _ _ _ h => h) (Gh.le_refl _) PickC.pick rfl (PV.idxS (j := (gd zs i).cell.toNat) rfl Is28 rfl (SlF.r hL.c) rfl (by omega) (by omega)) ?_
    refine RH.pv rfl (fun _ _ _ _ h => h) (Gh.le_refl _) PickC.pick rfl (PV.loadE rfl Ag85 rfl rfl (El.r hL.c (getG (by omega)))) ?_
    refine RH.ot rfl rfl (OT.alloc rfl Zr85 fun b14 => ⟨Gh.le_refl _, PickC.pick, ?_⟩)
    refine RH.ot rfl rfl (OT.storeW (vs := [.string _, _, _, _]) rfl Sz85 rfl rfl (Cl.c rfl) rfl rfl (hL.one ha.hc.2) ⟨Gh.le_refl _, PickC.pick, ?_⟩)
    refine RH.nil ?_
    refine WP.seq ?_
    refine WP.region ?_
    refine RG.pv rfl (PV.mvI (.inr rfl) rfl) ?_
    refine RG.nil ?_
    refine WP.block ?_
    rw [← hselE]
    refine WP.cv ((Cv.p (C := osl 135 shapeT v2 (selL (erCls l.cells.xs) ((occR (erCls l.cells.xs) cell).take i) ls b) :: osl 126 occT w20 zs :: bagS 2 intT (pths zs) :: blk b4 30 (libT.enc l) :: blk b14 85 (cellT.enc (gd l.cells.xs (gd zs i).cell.toNat)) :: L)).trans (Cv.eqS (ys := selL (erCls l.cells.xs) ((occR (erCls l.cells.xs) cell).take i) ls b ++ (flatOf (erCls l.cells.xs) (gd (occR (erCls l.cells.xs) cell) i)).take 0) (by simp))) ?_
    refine WP.loop2 [2, 3, 4, 10, 12, 13, 14] (fun (m : Nat) (v3 : Value) => m ≤ (gd l.cells.xs (gd zs i).cell.toNat).shapes.xs.length ∧ ((selS ls (gd (occR (erCls l.cells.xs) cell) i) == b) = false → m = 0)) (fun (m : Nat) (v3 : Value) => [(15, vi m), (9, v3)]) (fun (m : Nat) (v3 : Value) => osl 135 shapeT v3 (selL (erCls l.cells.xs) ((occR (erCls l.cells.xs) cell).take i) ls b ++ (flatOf (erCls l.cells.xs) (gd (occR (erCls l.cells.xs) cell) i)).take m) :: osl 126 occT w20 zs :: bagS 2 intT (pths zs) :: blk b4 30 (libT.enc l) :: blk b14 85 (cellT.enc (gd l.cells.xs (gd zs i).cell.toNat)) :: L) (fun (m : Nat) (v3 : Value) => (gd l.cells.xs (gd zs i).cell.toNat).shapes.xs.length - m) 0 v2 ⟨by omega, fun _ => rfl⟩ ⟨rfl, rfl, trivial⟩ Cv.p ?_
    rintro m v3 τ ⟨hm, hq⟩
    refine WP.seq ?_
    refine WP.seq ?_
    refine WP.region ?_
    refine RG.pv rfl (PV.mvI (.inl rfl) rfl) ?_
    refine RG.pv rfl (PV.field rfl Fo85_1 rfl) ?_
    refine RG.pv rfl (PV.load1 rfl Sc76 rfl (Rd.blk rfl)) ?_
    refine RG.pv rfl (PV.len rfl Tryz.underlying76 rfl (SlF.r hsl)) ?_
    refine RG.pv rfl (PV.lss rfl rfl rfl) ?_
    refine RG.pv rfl (PV.mvB (.inl rfl) rfl) ?_
    refine RG.gs rfl rfl rfl (fun hp => (PV.mvB (.inl rfl) rfl)) ?_
    refine RG.gs rfl rfl rfl (fun hp => (PV.mvB (.inl rfl) rfl)) ?_
    refine RG.gs rfl rfl rfl (fun hp => (PV.eqlB rfl Tryz.underlying4 (gs_t hp) (gs_t hp))) ?_
    refine RG.pv rfl (PV.pickA rfl rfl (fun hq => gs_t (geqT hq)) rfl) ?_
    refine RG.nil ?_
    refine WP.cond rfl (fun h5 => ?_) (fun h5 => ?_)
    · have h5' : m < (gd l.cells.xs (gd zs i).cell.toNat).shapes.xs.length ∧ (selS ls (gd (occR (erCls l.cells.xs) cell) i) == b) = true := by
        have := h5; simp only [Bool.and_eq_true, decide_eq_true_eq] at this; exact ⟨by omega, by simpa using this.2⟩
      have hst := ha.step (m := m) h5'.1
      have hll : (selL (erCls l.cells.xs) ((occR (erCls l.cells.xs) cell).take i) ls b ++ (flatOf (erCls l.cells.xs) (gd (occR (erCls l.cells.xs) cell) i)).take m).length ≤ 6000 := by rw [List.length_append, List.length_take]; omega
      refine WP.skip ?_
      refine WP.seq ?_
      refine WP.block ?_
      refine WP.regionHD [.s v3] (.q 0 (.q 1 (.q 2 (.q 3 (.q 4 (.q 5 (.q 6 (.q 7 (.q 8 (.q 9 (.q 10 (.q 11 (.q 12 (.q 13 (.q 14 (.q 15 (.q 16 (.q 17 (.l 18 (.q 19 (.l 20 (.l 21 (.q 22 Sch.nil))))))))))))))))))))))) (by kernel_rfl) (by kernel_rfl) (by kernel_rfl) rfl ?_
      refine RH.pv rfl (fun _ _ _ _ h => h) (Gh.le_refl _) PickC.pick rfl (PV.move (v := v3) rfl rfl) ?_
      refine RH.pv rfl (fun _ _ _ _ h => h) (Gh.le_refl _) PickC.pick rfl (PV.field rfl Fo85_1 rfl) ?_
      refine RH.pv rfl (fun _ _ _ _ h => h) (Gh.le_refl _) PickC.pick rfl (PV.load1 rfl Sc76 rfl (Rd.blk rfl)) ?_
      refine RH.pv rfl (fun _ _ _ _ h => h) (Gh.le_refl _) PickC.pick rfl (PV.mvI (.inl rfl) rfl) ?_
      refine RH.pv rfl (fun _ _ _ _ h => h) (Gh.le_refl _) PickC.pick rfl (PV.idxS rfl Is76 rfl (SlF.r hsl) rfl rfl (by omega)) ?_
      refine RH.pv rfl (fun _ _ _ _ h => h) (Gh.le_refl _) PickC.pick rfl (PV.field rfl Fo135_0 rfl) ?_
      refine RH.pv rfl (fun _ _ _ _ h => h) (Gh.le_refl _) PickC.pick rfl (PV.loadF rfl Sc2 rfl rfl (El.r hsl (getG (by omega))) rfl) ?_
      refine RH.pv rfl (fun _ _ _ _ h => h) (Gh.le_refl _) PickC.pick rfl (PV.move (v := w20) rfl rfl) ?_
      refine RH.pv rfl (fun _ _ _ _ h => h) (Gh.le_refl _) PickC.pick rfl (PV.mvI (.inl rfl) rfl) ?_
      refine RH.pv rfl (fun _ _ _ _ h => h) (Gh.le_refl _) PickC.pick rfl (PV.idxS (v := w20) rfl Is98 rfl SlF.o rfl rfl (by omega)) ?_
      refine RH.pv rfl (fun _ _ _ _ h => h) (Gh.le_refl _) PickC.pick rfl (PV.field rfl Fo126_1 rfl) ?_
      refine RH.pv rfl (fun _ _ _ _ h => h) (Gh.le_refl _) PickC.pick rfl (PV.loadEP rfl Ag124 rfl rfl (El.o (getG (by omega))) rfl) ?_
      refine RH.pv rfl (fun _ _ _ _ h => h) (Gh.le_refl _) PickC.pick rfl (PV.field rfl Fo85_1 rfl) ?_
      refine RH.pv rfl (fun _ _ _ _ h => h) (Gh.le_refl _) PickC.pick rfl (PV.load1 rfl Sc76 rfl (Rd.blk rfl)) ?_
      refine RH.pv rfl (fun _ _ _ _ h => h) (Gh.le_refl _) PickC.pick rfl (PV.mvI (.inl rfl) rfl) ?_
      refine RH.pv rfl (fun _ _ _ _ h => h) (Gh.le_refl _) PickC.pick rfl (PV.idxS rfl Is76 rfl (SlF.r hsl) rfl rfl (by omega)) ?_
      refine RH.pv rfl (fun _ _ _ _ h => h) (Gh.le_refl _) PickC.pick rfl (PV.field rfl Fo135_1 rfl) ?_
      refine RH.pv rfl (fun _ _ _ _ h => h) (Gh.le_refl _) PickC.pick rfl (PV.loadEP rfl Ag116 rfl rfl (El.r hsl (getG (by omega))) rfl) ?_
      refine RH.ot rfl rfl (OT.callF (vs := [_, _]) rfl En86 rfl (moveRect_r ha.hp.1 ha.hp.2 (ha.hb m (by omega)) ⟨Gh.le_refl _, PickC.pick, ?_⟩))
      refine RH.pv rfl (fun _ _ _ _ h => h) (Gh.le_refl _) PickC.pick rfl (PV.build (vs := [(0, [vi _]), (1, [vi _, vi _, vi _, vi _])]) (out := [_, _, _, _, _]) rfl Zr135 Pl135 ⟨rfl, (Cl.c rfl), ⟨rfl, (Cl.c rfl), trivial⟩⟩ rfl) ?_
      refine RH.ot rfl rfl (OT.bslice (F := shapeT) (els := [⟨(gd (gd l.cells.xs (gd zs i).cell.toNat).shapes.xs m).layer, moveR (gd zs i).place (gd (gd l.cells.xs (gd zs i).cell.toNat).shapes.xs m).box⟩]) rfl El76 rfl (by decide) rfl (by decide) ⟨rfl, (Cl.c rfl), trivial⟩ fun v88 => ⟨Gh.le_refl _, PickC.pick, ?_⟩)
      refine RH.ot rfl rfl (OT.append (v := v3) (u := v88) (F := shapeT) rfl El76 rfl (by decide) rfl rfl Rs.o (OneL.c (fun _ => rfl)) rfl (by first | omega | (simp <;> omega)) fun v89 => ⟨Gh.le_refl _, PickC.pick, ?_⟩)
      refine RH.pv rfl (fun _ _ _ _ h => h) (Gh.le_refl _) PickC.pick rfl (PV.asg (v := v89) rfl rfl) ?_
      refine RH.nil ?_
      refine WP.region ?_
      refine RG.pv rfl (PV.mvI (.inl rfl) rfl) ?_
      refine RG.pv rfl (PV.add rfl rfl rfl (by omega)) ?_
      refine RG.pv rfl (PV.mvI (.inr rfl) rfl) ?_
      refine RG.nil ?_
      exact ⟨rfl, m + 1, v89, ⟨by omega, fun h => by rw [h5'.2] at h; cases h⟩, ⟨rfl, rfl, trivial⟩, ⟨rfl, rfl, rfl, rfl, rfl, rfl, rfl, trivial⟩, ((Cv.p (C := osl 135 shapeT v89 (selL (erCls l.cells.xs) ((occR (erCls l.cells.xs) cell).take i) ls b ++ (flatOf (erCls l.cells.xs) (gd (occR (erCls l.cells.xs) cell) i)).take m ++ [⟨(gd (gd l.cells.xs (gd zs i).cell.toNat).shapes.xs m).layer, moveR (gd zs i).place (gd (gd l.cells.xs (gd zs i).cell.toNat).shapes.xs m).box⟩]) :: osl 126 occT w20 zs :: bagS 2 intT (pths zs) :: blk b4 30 (libT.enc l) :: blk b14 85 (cellT.enc (gd l.cells.xs (gd zs i).cell.toNat)) :: L)).trans (Cv.eqS (by rw [List.append_assoc, ← hst]))), by omega⟩
    · have e : selL (erCls l.cells.xs) ((occR (erCls l.cells.xs) cell).take i) ls b ++ (flatOf (erCls l.cells.xs) (gd (occR (erCls l.cells.xs) cell) i)).take m = selL (erCls l.cells.xs) ((occR (erCls l.cells.xs) cell).take (i + 1)) ls b := by
        rw [selL_take ha.hi]
        congr 1
        by_cases c : (selS ls (gd (occR (erCls l.cells.xs) cell) i) == b) = true
        · have hm2 : ¬ m < (gd l.cells.xs (gd zs i).cell.toNat).shapes.xs.length := fun hlt => by
            rw [c, Bool.and_true] at h5
            have := of_decide_eq_false h5
            omega
          rw [if_pos c, List.take_of_length_le (by rw [ha.len]; omega)]
        · rw [if_neg c, hq (by simpa using c)]; rfl
      refine WP.exit ?_
      refine WP.region ?_
      refine RG.pv rfl (PV.mvI (.inl rfl) rfl) ?_
      refine RG.pv rfl (PV.add rfl rfl rfl (by omega)) ?_
      refine RG.pv rfl (PV.mvI (.inr rfl) rfl) ?_
      refine RG.nil ?_
      exact ⟨rfl, i + 1, v3, (by omega), ⟨rfl, rfl, trivial⟩, ⟨rfl, rfl, rfl, rfl, trivial⟩, ((Cv.eqS e).trans Cv.p), by omega⟩
  · have h3 := of_decide_eq_false h3
    have e : selL (erCls l.cells.xs) ((occR (erCls l.cells.xs) cell).take i) ls b = selL (erCls l.cells.xs) (occR (erCls l.cells.xs) cell) ls b := by rw [List.take_of_length_le (by omega)]
    rw [e]
    refine WP.exit ?_
    refine WP.seq ?_
    refine WP.region ?_
    refine RG.pv rfl (PV.move (v := v2) rfl rfl) ?_
    refine RG.pv rfl (PV.asg (v := v2) rfl rfl) ?_
    refine RG.nil ?_
    refine WP.ret ?_
    exact ⟨_, _, ResV.one rfl rfl, Cv.p, k v2⟩
end Go.Proofs.YtbkaincaahcnfaaGreat
namespace Go.Proofs.YtbkaincaahcnfaaGreat
set_option linter.unusedVariables false
set_option linter.unusedSimpArgs false
open Go
set_option maxRecDepth 20000
set_option maxHeartbeats 1000000
set_option linter.unusedSimpArgs false
variable {G : Gh} {L : List Ch} {R : Value → Gh → List Ch → Prop}
theorem PV.max5 {P : Program} {σ : Nat → Value} {o : Oper} {k : IntKind} {x1 x2 x3 x4 x5 : Operand} {T1 T2 T3 T4 T5 : TypeId} {a1 a2 a3 a4 a5 : Int} (ho : o.op = .call { callee := .builtin .max, args := #[x1, x2, x3, x4, x5], argTypes := #[T1, T2, T3, T4, T5] }) (h1 : ev σ x1 = .int k a1) (h2 : ev σ x2 = .int k a2) (h3 : ev σ x3 = .int k a3) (h4 : ev σ x4 = .int k a4) (h5 : ev σ x5 = .int k a5) : PV P o σ G L (.int k (max (max (max (max a1 a2) a3) a4) a5)) := by
  intro w _
  have e : ∀ a b : Int, (if a < b then b else a) = max a b := fun a b => by simp only [Int.max_def]; split <;> split <;> omega
  simp [execOp, ho, h1, h2, h3, h4, h5, resolve, invoke, builtin, Builtin.max_, Builtin.max2, e]
theorem elems_cnt {ns : List Inst} (h : okNs ns) {i : Nat} (hi : i < ns.length) : ((elems (ns.take (i + 1))).length : Int) = (elems (ns.take i)).length + (gd ns i).cols * (gd ns i).rows ∧ 0 ≤ (gd ns i).cols * (gd ns i).rows ∧ (gd ns i).cols * (gd ns i).rows ≤ 16 := by
  obtain ⟨_, kk, h2⟩ := h
  obtain ⟨_, _, h3, h4, _, _⟩ := okIn_bd (h2 i hi)
  have e1 := mul_bd (a := (gd ns i).cols) (b := (gd ns i).rows) (A := 4) (B := 4) (by omega) (by omega) (by omega)
  have e0 : 0 ≤ (gd ns i).cols * (gd ns i).rows := Int.mul_nonneg (by omega) (by omega)
  have e2 : (((gd ns i).rows.toNat * (gd ns i).cols.toNat : Nat) : Int) = (gd ns i).cols * (gd ns i).rows := by
    rw [Int.natCast_mul, Int.toNat_of_nonneg (by omega), Int.toNat_of_nonneg (by omega), Int.mul_comm]
  refine ⟨?_, e0, by omega⟩
  rw [elems_take hi, List.length_append, elsOf_len, Int.natCast_add, e2]
theorem l21Elements_s {l : Lib} {cell : Int} (hL : RLib G L l.cells.v l.cells.xs) (hok : okLib (erCls l.cells.xs) = true ∧ 0 ≤ cell ∧ cell < (erCls l.cells.xs).length) (k : R (vi (elN (erCls l.cells.xs) cell)) G L) : CallT Tryz.prog 63 #[vT libT l, vi cell] G L R := by
  have hE := erCls_len l.cells.xs
  have hce := erCl_insts (xs := l.cells.xs) (i := cell.toNat) (by omega)
  have hns : okNs (gd l.cells.xs cell.toNat).insts.xs := by rw [← hce]; exact okLib_ns hok.1 (by omega)
  have hn8 := hns.1
  rw [elN_ns (by omega)] at k
  refine CallT.enter (args := _) Tryz.func63 rfl rfl (by kernel_rfl) rfl ?_
  refine WP.seq ?_
  refine WP.region ?_
  refine RG.ot rfl (OT.box (cs := libT.enc l) rfl rfl rfl fun b2 => ?_)
  refine RG.pv rfl (PV.mvI (.inr rfl) rfl) ?_
  refine RG.nil ?_
  refine WP.seq ?_
  refine WP.region ?_
  refine RG.pv rfl (PV.mvI (.inr rfl) rfl) ?_
  refine RG.nil ?_
  refine WP.seq ?_
  refine WP.region ?_
  refine RG.pv rfl (PV.field rfl Fo30_0 rfl) ?_
  refine RG.pv rfl (PV.load1 rfl Sc28 rfl (Rd.blk rfl)) ?_
  refine RG.pv rfl (PV.mvI (.inl rfl) rfl) ?_
  refine RG.pv rfl (PV.idxS (j := cell.toNat) rfl Is28 rfl (SlF.r hL.c) rfl (by omega) (by omega)) ?_
  refine RG.pv rfl (PV.field rfl Fo85_3 rfl) ?_
  refine RG.pv rfl (PV.loadF rfl Sc83 rfl rfl (El.r hL.c (getG (by omega))) rfl) ?_
  refine RG.pv rfl (PV.asg rfl rfl) ?_
  refine RG.nil ?_
  refine WP.seq ?_
  refine WP.seq ?_
  refine WP.region ?_
  refine RG.pv rfl (PV.mvI (.inr rfl) rfl) ?_
  refine RG.nil ?_
  refine WP.block ?_
  refine WP.loop2 [6] (fun (i : Nat) (n : Int) => i ≤ (gd l.cells.xs cell.toNat).insts.xs.length ∧ n = ((elems ((gd l.cells.xs cell.toNat).insts.xs.take i)).length : Int)) (fun (i : Nat) (n : Int) => [(7, vi i), (5, vi n)]) (fun (i : Nat) (n : Int) => L) (fun (i : Nat) (n : Int) => (gd l.cells.xs cell.toNat).insts.xs.length - i) 0 0 ⟨by omega, by simp [elems]⟩ ⟨rfl, rfl, trivial⟩ Cv.p ?_
  rintro i n τ ⟨hi, hn⟩
  refine WP.seq ?_
  refine WP.seq ?_
  refine WP.region ?_
  refine RG.pv rfl (PV.mvI (.inl rfl) rfl) ?_
  refine RG.pv rfl (PV.move rfl rfl) ?_
  refine RG.pv rfl (PV.len rfl Tryz.underlying83 rfl (SlF.r (hL.na (i := cell.toNat) (by omega)))) ?_
  refine RG.pv rfl (PV.lss rfl rfl rfl) ?_
  refine RG.nil ?_
  have hb := elems_bd2 hns i hi
  refine WP.cond rfl (fun h2 => ?_) (fun h2 => ?_)
  · have h2 := of_decide_eq_true h2
    obtain ⟨q1, q2, q3⟩ := elems_cnt hns (i := i) (by omega)
    refine WP.skip ?_
    refine WP.seq ?_
    refine WP.block ?_
    refine WP.regionQ (by kernel_rfl) (by kernel_rfl) ?_
    refine RQ.pv rfl (PV.mvI (.inl rfl) rfl) ?_
    refine RQ.pv rfl (PV.move rfl rfl) ?_
    refine RQ.pv rfl (PV.mvI (.inl rfl) rfl) ?_
    refine RQ.pv rfl (PV.idxS rfl Is83 rfl (SlF.r (hL.na (i := cell.toNat) (by omega))) rfl rfl (by omega)) ?_
    refine RQ.pv rfl (PV.field rfl Fo147_2 rfl) ?_
    refine RQ.pv rfl (PV.loadF rfl Sc2 rfl rfl (El.r (hL.na (i := cell.toNat) (by omega)) (getG (by omega))) rfl) ?_
    refine RQ.pv rfl (PV.move rfl rfl) ?_
    refine RQ.pv rfl (PV.mvI (.inl rfl) rfl) ?_
    refine RQ.pv rfl (PV.idxS rfl Is83 rfl (SlF.r (hL.na (i := cell.toNat) (by omega))) rfl rfl (by omega)) ?_
    refine RQ.pv rfl (PV.field rfl Fo147_3 rfl) ?_
    refine RQ.pv rfl (PV.loadF rfl Sc2 rfl rfl (El.r (hL.na (i := cell.toNat) (by omega)) (getG (by omega))) rfl) ?_
    refine RQ.pv rfl (PV.mul rfl rfl rfl (by omega)) ?_
    refine RQ.pv rfl (PV.add rfl rfl rfl (by omega)) ?_
    refine RQ.pv rfl (PV.mvI (.inr rfl) rfl) ?_
    refine RQ.nil ?_
    refine WP.region ?_
    refine RG.pv rfl (PV.mvI (.inl rfl) rfl) ?_
    refine RG.pv rfl (PV.add rfl rfl rfl (by omega)) ?_
    refine RG.pv rfl (PV.mvI (.inr rfl) rfl) ?_
    refine RG.nil ?_
    exact ⟨rfl, i + 1, _, ⟨by omega, by rw [q1, hn]⟩, ⟨rfl, rfl, trivial⟩, ⟨rfl, trivial⟩, Cv.p, by omega⟩
  · have h2 := of_decide_eq_false h2
    have e : n = ((elems (gd l.cells.xs cell.toNat).insts.xs).length : Int) := by rw [hn, List.take_of_length_le (by omega)]
    rw [← e] at k
    refine WP.exit ?_
    refine WP.seq ?_
    refine WP.region ?_
    refine RG.pv rfl (PV.mvI (.inl rfl) rfl) ?_
    refine RG.pv rfl (PV.mvI (.inr rfl) rfl) ?_
    refine RG.nil ?_
    refine WP.ret ?_
    exact ⟨_, _, ResV.one rfl rfl, Cv.p, k⟩
theorem l21Code_s {l : Lib} {cell n : Int} (hL : RLib G L l.cells.v l.cells.xs) (hlen : lenC (erCls l.cells.xs)) (k : R (vi (elE (erCls l.cells.xs) cell n)) G L) : CallT Tryz.prog 45 #[vT libT l, vi cell, vi n] G L R := by
  refine CallT.enter (args := _) Tryz.func45 rfl rfl (by kernel_rfl) rfl ?_
  refine WP.seq ?_
  refine WP.region ?_
  refine RG.ot rfl (OT.box (cs := libT.enc l) rfl rfl rfl fun b3 => ?_)
  refine RG.pv rfl (PV.mvI (.inr rfl) rfl) ?_
  refine RG.nil ?_
  refine WP.seq ?_
  refine WP.region ?_
  refine RG.pv rfl (PV.loadW rfl Ag30 rfl rfl) ?_
  refine RG.pv rfl (PV.mvI (.inl rfl) rfl) ?_
  refine RG.callF (vs := [_, _]) rfl rfl En54 rfl (flat_r hL.up hlen (fun w12 => ?_))
  refine RG.pv rfl (PV.move (v := .tuple _) rfl rfl) ?_
  refine RG.pv rfl (PV.ext (v := w12) rfl rfl rfl) ?_
  refine RG.pv rfl (PV.ext rfl rfl rfl) ?_
  refine RG.pv rfl (PV.asg (v := w12) rfl rfl) ?_
  refine RG.pv rfl (PV.mvI (.inr rfl) rfl) ?_
  refine RG.nil ?_
  refine WP.seq ?_
  refine WP.seq ?_
  refine WP.region ?_
  refine RG.pv rfl (PV.mvI (.inl rfl) rfl) ?_
  refine RG.pv rfl (PV.neq rfl rfl rfl) ?_
  refine RG.nil ?_
  refine WP.cond rfl (fun h1 => ?_) (fun h1 => ?_)
  · have h1 : shE (erCls l.cells.xs) cell ≠ 0 := by simpa using h1
    have e : elE (erCls l.cells.xs) cell n = shE (erCls l.cells.xs) cell := by rw [elE, decide_eq_false h1]; rfl
    rw [e] at k
    refine WP.seq ?_
    refine WP.region ?_
    refine RG.pv rfl (PV.mvI (.inl rfl) rfl) ?_
    refine RG.pv rfl (PV.mvI (.inr rfl) rfl) ?_
    refine RG.nil ?_
    refine WP.ret ?_
    exact ⟨_, _, ResV.one rfl rfl, Cv.p, k⟩
  · have h1 : shE (erCls l.cells.xs) cell = 0 := by simpa using h1
    have hb : elN (erCls l.cells.xs) cell ≤ 128 := by have := shE_lib h1; exact elems_len_bd this.1 (by omega)
    refine WP.skip ?_
    refine WP.seq ?_
    refine WP.seq ?_
    refine WP.region ?_
    refine RG.pv rfl (PV.mvI (.inl rfl) rfl) ?_
    refine RG.pv rfl (PV.loadW rfl Ag30 rfl rfl) ?_
    refine RG.pv rfl (PV.mvI (.inl rfl) rfl) ?_
    refine RG.callF (vs := [_, _]) rfl rfl En63 rfl (l21Elements_s hL.up (shE_lib h1) ?_)
    refine RG.pv rfl (PV.sub rfl rfl rfl (by omega)) ?_
    refine RG.callF (vs := [_, _, _]) rfl rfl En62 rfl (l01In_s ?_)
    refine RG.pv rfl (PV.not rfl rfl) ?_
    refine RG.nil ?_
    refine WP.cond rfl (fun h2 => ?_) (fun h2 => ?_)
    · have e : elE (erCls l.cells.xs) cell n = 5 := by rw [elE, decide_eq_true h1, cond_true, show within n 0 ((elN (erCls l.cells.xs) cell : Int) - 1) = false by simpa using h2]; rfl
      rw [e] at k
      refine WP.seq ?_
      refine WP.region ?_
      refine RG.pv rfl (PV.mvI (.inr rfl) rfl) ?_
      refine RG.nil ?_
      refine WP.ret ?_
      exact ⟨_, _, ResV.one rfl rfl, Cv.p, k⟩
    · have e : elE (erCls l.cells.xs) cell n = 0 := by rw [elE, decide_eq_true h1, cond_true, show within n 0 ((elN (erCls l.cells.xs) cell : Int) - 1) = true by simpa using h2]; rfl
      rw [e] at k
      refine WP.skip ?_
      refine WP.seq ?_
      refine WP.region ?_
      refine RG.pv rfl (PV.mvI (.inr rfl) rfl) ?_
      refine RG.nil ?_
      refine WP.ret ?_
      exact ⟨_, _, ResV.one rfl rfl, Cv.p, k⟩
/-- rectangles that may have left the chip -/
def RBig (r : Rect) : Prop := (-2000 ≤ r.x0 ∧ r.x0 < r.x1 ∧ r.x1 ≤ 2000) ∧ -2000 ≤ r.y0 ∧ r.y0 < r.y1 ∧ r.y1 ≤ 2000
theorem RIn_big {r : Rect} (h : RIn 40 r) : RBig r := by obtain ⟨h1, h2, h3, h4, h5, h6⟩ := h; exact ⟨by omega, by omega⟩
theorem moveR_big {t : Trans} {r : Rect} (h : RIn 40 r) (ho : 0 ≤ t.o ∧ t.o ≤ 7) (ht : (-1000 ≤ t.x ∧ t.x ≤ 1000) ∧ -1000 ≤ t.y ∧ t.y ≤ 1000) : RBig (moveR t r) := by
  have h1 := moveR_turn ho h
  obtain ⟨q1, q2, q3, q4, q5, q6⟩ := h1
  simp only [moveR, moveP] at q1 q2 q3 q4 q5 q6
  refine ⟨?_, ?_⟩ <;> simp only [moveR, moveP] <;> omega
theorem dist_s {a b : Rect} (ha : RBig a) (hb : RBig b) (k : R (vi (distR a b)) G L) : CallT Tryz.prog 98 #[vrect a, vrect b] G L R := by
  obtain ⟨⟨a1, a2, a3⟩, a4, a5, a6⟩ := ha
  obtain ⟨⟨b1, b2, b3⟩, b4, b5, b6⟩ := hb
  refine CallT.enter (args := _) Tryz.func98 rfl rfl (by kernel_rfl) rfl ?_
  refine WP.seq ?_
  refine WP.region ?_
  refine RG.ot rfl (OT.box (cs := rectT.enc a) rfl rfl rfl fun b2 => ?_)
  refine RG.ot rfl (OT.box (cs := rectT.enc b) rfl rfl rfl fun b3 => ?_)
  refine RG.pv rfl (PV.mvI (.inr rfl) rfl) ?_
  refine RG.nil ?_
  refine WP.seq ?_
  refine WP.region ?_
  refine RG.pv rfl (PV.field rfl Fo116_0 rfl) ?_
  refine RG.pv rfl (PV.load1 rfl Sc2 rfl (Rd.blk rfl)) ?_
  refine RG.pv rfl (PV.field rfl Fo116_2 rfl) ?_
  refine RG.pv rfl (PV.load1 rfl Sc2 rfl (Rd.blk rfl)) ?_
  refine RG.pv rfl (PV.sub rfl rfl rfl (by omega)) ?_
  refine RG.pv rfl (PV.add rfl rfl rfl (by omega)) ?_
  refine RG.pv rfl (PV.field rfl Fo116_0 rfl) ?_
  refine RG.pv rfl (PV.load1 rfl Sc2 rfl (Rd.blk rfl)) ?_
  refine RG.pv rfl (PV.field rfl Fo116_2 rfl) ?_
  refine RG.pv rfl (PV.load1 rfl Sc2 rfl (Rd.blk rfl)) ?_
  refine RG.pv rfl (PV.sub rfl rfl rfl (by omega)) ?_
  refine RG.pv rfl (PV.add rfl rfl rfl (by omega)) ?_
  refine RG.pv rfl (PV.field rfl Fo116_1 rfl) ?_
  refine RG.pv rfl (PV.load1 rfl Sc2 rfl (Rd.blk rfl)) ?_
  refine RG.pv rfl (PV.field rfl Fo116_3 rfl) ?_
  refine RG.pv rfl (PV.load1 rfl Sc2 rfl (Rd.blk rfl)) ?_
  refine RG.pv rfl (PV.sub rfl rfl rfl (by omega)) ?_
  refine RG.pv rfl (PV.add rfl rfl rfl (by omega)) ?_
  refine RG.pv rfl (PV.field rfl Fo116_1 rfl) ?_
  refine RG.pv rfl (PV.load1 rfl Sc2 rfl (Rd.blk rfl)) ?_
  refine RG.pv rfl (PV.field rfl Fo116_3 rfl) ?_
  refine RG.pv rfl (PV.load1 rfl Sc2 rfl (Rd.blk rfl)) ?_
  refine RG.pv rfl (PV.sub rfl rfl rfl (by omega)) ?_
  refine RG.pv rfl (PV.add rfl rfl rfl (by omega)) ?_
  refine RG.pv rfl (PV.max5 rfl rfl rfl rfl rfl rfl) ?_
  refine RG.pv rfl (PV.mvI (.inr rfl) rfl) ?_
  refine RG.nil ?_
  refine WP.ret ?_
  exact ⟨_, _, ResV.one rfl rfl, Cv.p, k⟩
theorem span_s {a b c d : Int} (ha : -10000 ≤ a ∧ a ≤ 10000) (hb : -10000 ≤ b ∧ b ≤ 10000) (hc : -10000 ≤ c ∧ c ≤ 10000) (hd : -10000 ≤ d ∧ d ≤ 10000) (k : R (vi (min b d - max a c)) G L) : CallT Tryz.prog 89 #[vi a, vi b, vi c, vi d] G L R := by
  refine CallT.enter (args := _) Tryz.func89 rfl rfl (by kernel_rfl) rfl ?_
  refine WP.seq ?_
  refine WP.region ?_
  refine RG.pv rfl (PV.mvI (.inr rfl) rfl) ?_
  refine RG.nil ?_
  refine WP.seq ?_
  refine WP.region ?_
  refine RG.pv rfl (PV.mvI (.inl rfl) rfl) ?_
  refine RG.pv rfl (PV.mvI (.inl rfl) rfl) ?_
  refine RG.pv rfl (PV.min2 rfl rfl rfl) ?_
  refine RG.pv rfl (PV.mvI (.inl rfl) rfl) ?_
  refine RG.pv rfl (PV.mvI (.inl rfl) rfl) ?_
  refine RG.pv rfl (PV.max2 rfl rfl rfl) ?_
  refine RG.pv rfl (PV.sub rfl rfl rfl (by omega)) ?_
  refine RG.pv rfl (PV.mvI (.inr rfl) rfl) ?_
  refine RG.nil ?_
  refine WP.ret ?_
  exact ⟨_, _, ResV.one rfl rfl, Cv.p, k⟩
theorem wide_s {r : Rect} {q : Int} (hr : RBig r) (hq : 0 ≤ q ∧ q ≤ 100) (k : R (vrect (wideR r q)) G L) : CallT Tryz.prog 88 #[vrect r, vi q] G L R := by
  obtain ⟨⟨a1, a2, a3⟩, a4, a5, a6⟩ := hr
  refine CallT.enter (args := _) Tryz.func88 rfl rfl (by kernel_rfl) rfl ?_
  refine WP.seq ?_
  refine WP.region ?_
  refine RG.ot rfl (OT.box (cs := rectT.enc r) rfl rfl rfl fun b2 => ?_)
  refine RG.ot rfl (OT.alloc rfl Zr116 fun b4 => ?_)
  refine RG.nil ?_
  refine WP.seq ?_
  refine WP.region ?_
  refine RG.pv rfl (PV.field rfl Fo116_0 rfl) ?_
  refine RG.pv rfl (PV.load1 rfl Sc2 rfl (Rd.blk rfl)) ?_
  refine RG.pv rfl (PV.mvI (.inl rfl) rfl) ?_
  refine RG.pv rfl (PV.sub rfl rfl rfl (by omega)) ?_
  refine RG.pv rfl (PV.field rfl Fo116_1 rfl) ?_
  refine RG.pv rfl (PV.load1 rfl Sc2 rfl (Rd.blk rfl)) ?_
  refine RG.pv rfl (PV.mvI (.inl rfl) rfl) ?_
  refine RG.pv rfl (PV.sub rfl rfl rfl (by omega)) ?_
  refine RG.pv rfl (PV.field rfl Fo116_2 rfl) ?_
  refine RG.pv rfl (PV.load1 rfl Sc2 rfl (Rd.blk rfl)) ?_
  refine RG.pv rfl (PV.mvI (.inl rfl) rfl) ?_
  refine RG.pv rfl (PV.add rfl rfl rfl (by omega)) ?_
  refine RG.pv rfl (PV.field rfl Fo116_3 rfl) ?_
  refine RG.pv rfl (PV.load1 rfl Sc2 rfl (Rd.blk rfl)) ?_
  refine RG.pv rfl (PV.mvI (.inl rfl) rfl) ?_
  refine RG.pv rfl (PV.add rfl rfl rfl (by omega)) ?_
  refine RG.pv rfl (PV.build (vs := [(0, [vi _]), (1, [vi _]), (2, [vi _]), (3, [vi _])]) (out := [_, _, _, _]) rfl Zr116 Pl116 ⟨rfl, (Cl.c rfl), ⟨rfl, (Cl.c rfl), ⟨rfl, (Cl.c rfl), ⟨rfl, (Cl.c rfl), trivial⟩⟩⟩⟩ rfl) ?_
  refine RG.ot rfl (OT.storeW (vs := [vi _, vi _, vi _, vi _]) rfl Sz116 rfl rfl (Cl.c rfl) rfl rfl (OneC.c rfl) ?_)
  refine RG.nil ?_
  refine WP.ret ?_
  exact ⟨_, _, ResV.one rfl (RV1.cell rfl Ag116 rfl), Cv.p, k⟩
theorem reach21_s {n : Int} (k : R (.bool (within n 0 8)) G L) : CallT Tryz.prog 46 #[vi n] G L R := by
  refine CallT.enter (args := _) Tryz.func46 rfl rfl (by kernel_rfl) rfl ?_
  refine WP.seq ?_
  refine WP.region ?_
  refine RG.pv rfl (PV.mvB (.inr rfl) rfl) ?_
  refine RG.nil ?_
  refine WP.seq ?_
  refine WP.region ?_
  refine RG.pv rfl (PV.mvI (.inl rfl) rfl) ?_
  refine RG.callF (vs := [_, _, _]) rfl rfl En62 rfl (l01In_s ?_)
  refine RG.pv rfl (PV.mvB (.inr rfl) rfl) ?_
  refine RG.nil ?_
  refine WP.ret ?_
  exact ⟨_, _, ResV.one rfl rfl, Cv.p, k⟩
/-- near, as the reference says it -/
theorem near_span {a p : Rect} {q : Int} (ha : RBig a) (hp : RBig p) (hq : 0 ≤ q) : decide (distR a p ≤ 2 * q) = (decide (0 < min a.x1 (wideR p (2 * q)).x1 - max a.x0 (wideR p (2 * q)).x0) && decide (0 < min a.y1 (wideR p (2 * q)).y1 - max a.y0 (wideR p (2 * q)).y0)) := by
  obtain ⟨⟨a1, a2, a3⟩, a4, a5, a6⟩ := ha
  obtain ⟨⟨b1, b2, b3⟩, b4, b5, b6⟩ := hp
  rw [Bool.eq_iff_iff]
  have e1 : 0 < min a.x1 (p.x1 + 2 * q) - max a.x0 (p.x0 - 2 * q) ↔ (a.x0 < a.x1 ∧ p.x0 - 2 * q < a.x1) ∧ a.x0 < p.x1 + 2 * q ∧ p.x0 - 2 * q < p.x1 + 2 * q := by simp only [Int.min_def, Int.max_def]; split <;> split <;> omega
  have e2 : 0 < min a.y1 (p.y1 + 2 * q) - max a.y0 (p.y0 - 2 * q) ↔ (a.y0 < a.y1 ∧ p.y0 - 2 * q < a.y1) ∧ a.y0 < p.y1 + 2 * q ∧ p.y0 - 2 * q < p.y1 + 2 * q := by simp only [Int.min_def, Int.max_def]; split <;> split <;> omega
  simp only [distR, wideR, Bool.and_eq_true, decide_eq_true_eq, e1, e2, Int.max_le]
  omega
end Go.Proofs.YtbkaincaahcnfaaGreat
namespace Go.Proofs.YtbkaincaahcnfaaGreat
set_option linter.unusedVariables false
set_option linter.unusedSimpArgs false
open Go
set_option maxRecDepth 20000
set_option maxHeartbeats 1000000
set_option linter.unusedSimpArgs false
variable {G : Gh} {L : List Ch} {R : Value → Gh → List Ch → Prop}
theorem gd_p0 {α : Type} [Inhabited α] (a b : α) : gd [a, b] 0 = a := by simp [gd]
theorem gd_p1 {α : Type} [Inhabited α] (a b : α) : gd [a, b] 1 = b := by simp [gd]
/-- what is known where an element is asked for -/
structure AtEl (xs : List Cell) (cell n : Int) : Prop where
  hz : shE (erCls xs) cell = 0
  hn : 0 ≤ n ∧ n < elN (erCls xs) cell
theorem AtEl.lib {xs : List Cell} {cell n : Int} (h : AtEl xs cell n) : okLib (erCls xs) = true ∧ 0 ≤ cell ∧ cell.toNat < xs.length := by
  have := shE_lib h.hz
  rw [erCls_len] at this
  exact ⟨this.1, by omega, by omega⟩
theorem AtEl.lt {xs : List Cell} {cell n : Int} (h : AtEl xs cell n) : n.toNat < (elems (gd xs cell.toNat).insts.xs).length := by
  have := h.hn
  rw [elN_ns h.lib.2.2] at this
  omega
theorem AtEl.el {xs : List Cell} {cell n : Int} (h : AtEl xs cell n) : (0 ≤ (gd (elems (gd xs cell.toNat).insts.xs) n.toNat).place.o ∧ (gd (elems (gd xs cell.toNat).insts.xs) n.toNat).place.o ≤ 7) ∧ ((-80 ≤ (gd (elems (gd xs cell.toNat).insts.xs) n.toNat).place.x ∧ (gd (elems (gd xs cell.toNat).insts.xs) n.toNat).place.x ≤ 80) ∧ -80 ≤ (gd (elems (gd xs cell.toNat).insts.xs) n.toNat).place.y ∧ (gd (elems (gd xs cell.toNat).insts.xs) n.toNat).place.y ≤ 80) := by
  have := elems_valid (shE_zero h.hz).1 (i := n.toNat) (by have := h.hn; omega)
  rw [erCl_insts h.lib.2.2] at this
  exact validT_iff.1 this
theorem free_no {cs : List ECell} {cell n reach : Int} (h : bndE cs (gd (elems (gd cs cell.toNat).insts) n.toNat).cell ≠ 0) : freeB cs cell n reach = false := by
  simp only [freeB, decide_eq_false h, Bool.false_and]
theorem rootR_in {xs : List Cell} {cell : Int} (hz : shE (erCls xs) cell = 0) {i : Nat} (hi : i < (rootR (erCls xs) cell).length) : RIn 40 (gd (rootR (erCls xs) cell) i).shape.box := by
  have e : rootR (erCls xs) cell = rootL (erCls xs) (occR (erCls xs) cell) := by rw [rootR, decide_eq_true hz]; rfl
  rw [e] at hi ⊢
  have hm : (gd (rootL (erCls xs) (occR (erCls xs) cell)) i).shape ∈ (rootL (erCls xs) (occR (erCls xs) cell)).map RShape.shape := List.mem_map.2 ⟨_, gd_mem hi, rfl⟩
  rw [rootL_flat] at hm
  exact validR_in ((shE_zero hz).2 _ hm)
theorem rootR_len (cs : List ECell) (cell : Int) : (rootR cs cell).length ≤ 4800 := by
  rw [rootR]
  cases decide (shE cs cell = 0)
  · simp
  · rw [cond_true, rootL_len]; exact flatL_len
theorem free1_s {x : RShape} {n reach : Int} {p : Rect} {b1 b2 b3 : Nat} (h1 : Rd G L b1 0 (vi n)) (h2 : RdN G L b2 (rectT.enc p)) (h3 : Rd G L b3 0 (vi reach)) (hx : RBig x.shape.box) (hp2 : RBig p) (hr : 0 ≤ reach ∧ reach ≤ 8) (k : R (.bool (nearS n reach p x)) G L) :
    CallT Tryz.prog 97 #[vT rshapeT x, .pointer (some ⟨b1, 0, none⟩), .pointer (some ⟨b2, 0, none⟩), .pointer (some ⟨b3, 0, none⟩)] G L R := by
  refine CallT.enter (args := _) Tryz.func97 rfl rfl (by kernel_rfl) rfl ?_
  refine WP.seq ?_
  refine WP.region ?_
  refine RG.ot rfl (OT.box (cs := rshapeT.enc x) rfl rfl rfl fun b4 => ?_)
  refine RG.pv rfl (PV.mvB (.inr rfl) rfl) ?_
  refine RG.nil ?_
  refine WP.seq ?_
  refine WP.regionQ (by kernel_rfl) (by kernel_rfl) ?_
  refine RQ.pv rfl (PV.field rfl Fo139_0 rfl) ?_
  refine RQ.pv rfl (PV.load1 rfl Sc2 rfl (Rd.blk rfl)) ?_
  refine RQ.pv rfl (PV.load1 rfl Sc2 rfl (Rd.up h1)) ?_
  refine RQ.pv rfl (PV.neq rfl rfl rfl) ?_
  refine RQ.pv rfl (PV.mvB (.inl rfl) rfl) ?_
  refine RQ.gs rfl rfl rfl (fun hp => (PV.field rfl Fo139_1 rfl)) ?_
  refine RQ.gs rfl rfl rfl (fun hp => (PV.field rfl Fo135_1 (gs_t hp))) ?_
  refine RQ.gs rfl rfl rfl (fun hp => (PV.loadB (vs := [_, _, _, _]) rfl Ag116 (gs_t hp) rfl rfl)) ?_
  refine RQ.gs rfl rfl rfl (fun hp => (PV.loadA rfl Ag116 rfl rfl (RdN.up h2))) ?_
  refine RQ.gsC rfl rfl rfl rfl En98 (fun hp => ⟨_, (acons (gs_t hp) (acons (gs_t hp) anil)), dist_s hx hp2 ⟨rfl, rfl, rfl⟩⟩) ?_
  refine RQ.gs rfl rfl rfl (fun hp => (PV.load1 rfl Sc2 rfl (Rd.up h3))) ?_
  refine RQ.gs rfl rfl rfl (fun hp => (PV.mul rfl rfl (gs_t hp) (by first | omega | (simp at hp; omega)))) ?_
  refine RQ.gs rfl rfl rfl (fun hp => (PV.leq rfl (gs_t hp) (gs_t hp))) ?_
  refine RQ.pv rfl (PV.pickA rfl rfl (fun hq => gs_t (geqT hq)) rfl) ?_
  refine RQ.pv rfl (PV.mvB (.inr rfl) rfl) ?_
  refine RQ.nil ?_
  refine WP.ret ?_
  exact ⟨_, _, ResV.one rfl rfl, Cv.p, k⟩
theorem indexF_rshape {v fv : Value} {xs : List (RShape)} {p : (RShape) → Bool} (h1 : Rs G L rshapeT v xs) (hf : ∀ i, i < xs.length → CB Tryz.prog G L fv [vT rshapeT (gd xs i)] (.bool (p (gd xs i)))) (k : R (vi (idxI p xs)) G L) : CallT Tryz.prog 146 #[v, fv] G L R := by
  refine CallT.bd h1 fun hb => ?_
  refine CallT.enter (args := _) Tryz.func146 rfl rfl (by kernel_rfl) rfl ?_
  refine WP.seq ?_
  refine WP.region ?_
  refine RG.pv rfl (PV.mvI (.inr rfl) rfl) ?_
  refine RG.nil ?_
  refine WP.seq ?_
  refine WP.seq ?_
  refine WP.region ?_
  refine RG.pv rfl (PV.move (v := v) rfl rfl) ?_
  refine RG.pv rfl (PV.len (v := v) rfl Tryz.underlying69 rfl (SlF.r h1)) ?_
  refine RG.pv rfl (PV.mvI (.inl rfl) rfl) ?_
  refine RG.nil ?_
  refine WP.block ?_
  refine WP.loop1 [0, 1, 7] (fun i => i ≤ xs.length ∧ ∀ j, j < i → p (gd xs j) = false) (fun i => [(8, vi i)]) (fun i => L) (fun i => xs.length - i) 0 ⟨by omega, fun j h => by omega⟩ ⟨rfl, trivial⟩ Cv.p ?_
  rintro i τ ⟨hi, hj⟩
  refine WP.seq ?_
  refine WP.region ?_
  refine RG.pv rfl (PV.lss rfl rfl rfl) ?_
  refine RG.nil ?_
  refine WP.seq ?_
  refine WP.cond rfl (fun h2 => ?_) (fun h2 => ?_)
  · have h2 := of_decide_eq_true h2
    refine WP.skip ?_
    refine WP.seq ?_
    refine WP.block ?_
    refine WP.seq ?_
    refine WP.region ?_
    refine RG.pv rfl (PV.mvI (.inl rfl) rfl) ?_
    refine RG.pv rfl (PV.mvI (.inr rfl) rfl) ?_
    refine RG.nil ?_
    refine WP.seq ?_
    refine WP.region ?_
    refine RG.pv rfl (PV.move (v := fv) rfl rfl) ?_
    refine RG.pv rfl (PV.move (v := v) rfl rfl) ?_
    refine RG.pv rfl (PV.mvI (.inl rfl) rfl) ?_
    refine RG.pv rfl (PV.idxS (v := v) rfl Is69 rfl (SlF.r h1) rfl rfl (by omega)) ?_
    refine RG.pv rfl (PV.loadE rfl Ag139 rfl rfl (El.r h1 (getG (by omega)))) ?_
    refine RG.callB (vs := [_]) rfl rfl rfl rfl (CB.up (hf i (by omega))) ?_
    refine RG.nil ?_
    refine WP.cond rfl (fun h3 => ?_) (fun h3 => ?_)
    · rw [idxI_at (by omega) h3 hj] at k
      refine WP.seq ?_
      refine WP.region ?_
      refine RG.pv rfl (PV.mvI (.inl rfl) rfl) ?_
      refine RG.pv rfl (PV.mvI (.inr rfl) rfl) ?_
      refine RG.nil ?_
      refine WP.ret ?_
      exact ⟨_, _, ResV.one rfl rfl, Cv.p, k⟩
    · have hj' : ∀ j, j < i + 1 → p (gd xs j) = false := fun j h => by
        by_cases c : j = i
        · rw [c]; exact h3
        · exact hj j (by omega)
      refine WP.skip ?_
      refine WP.region ?_
      refine RG.pv rfl (PV.add rfl rfl rfl (by omega)) ?_
      refine RG.pv rfl (PV.mvI (.inl rfl) rfl) ?_
      refine RG.nil ?_
      exact ⟨rfl, i + 1, ⟨by omega, hj'⟩, ⟨rfl, trivial⟩, ⟨rfl, rfl, rfl, trivial⟩, Cv.p, by omega⟩
  · have h2 := of_decide_eq_false h2
    rw [idxI_none (fun j h => hj j (by omega))] at k
    refine WP.exit ?_
    refine WP.seq ?_
    refine WP.region ?_
    refine RG.pv rfl (PV.mvI (.inr rfl) rfl) ?_
    refine RG.nil ?_
    refine WP.ret ?_
    exact ⟨_, _, ResV.one rfl rfl, Cv.p, k⟩
theorem containsF_rshape {v fv : Value} {xs : List (RShape)} {p : (RShape) → Bool} (h1 : Rs G L rshapeT v xs) (hf : ∀ i, i < xs.length → CB Tryz.prog G L fv [vT rshapeT (gd xs i)] (.bool (p (gd xs i)))) (k : R (.bool (xs.any p)) G L) : CallT Tryz.prog 96 #[v, fv] G L R := by
  rw [← idxI_any] at k
  refine CallT.enter (args := _) Tryz.func96 rfl rfl (by kernel_rfl) rfl ?_
  refine WP.seq ?_
  refine WP.region ?_
  refine RG.pv rfl (PV.mvB (.inr rfl) rfl) ?_
  refine RG.nil ?_
  refine WP.seq ?_
  refine WP.region ?_
  refine RG.pv rfl (PV.move (v := v) rfl rfl) ?_
  refine RG.pv rfl (PV.move (v := fv) rfl rfl) ?_
  refine RG.callF (vs := [v, fv]) rfl rfl En146 rfl (indexF_rshape (Rs.up h1) (fun i hi => (hf i hi).up) ?_)
  refine RG.pv rfl (PV.geq rfl rfl rfl) ?_
  refine RG.pv rfl (PV.mvB (.inr rfl) rfl) ?_
  refine RG.nil ?_
  refine WP.ret ?_
  exact ⟨_, _, ResV.one rfl rfl, Cv.p, k⟩
theorem free_i {l : Lib} {cell n reach : Int} {v : Value} (hL : RLib G L l.cells.v l.cells.xs) (hlen : lenC (erCls l.cells.xs)) (ha : AtEl l.cells.xs cell n) (hr : 0 ≤ reach ∧ reach ≤ 8) (h5 : Rs G L rshapeT v (rootR (erCls l.cells.xs) cell)) (k : R (.bool (freeB (erCls l.cells.xs) cell n reach)) G L) :
    CallT Tryz.prog 52 #[vT libT l, vi cell, vi n, vi reach, v] G L R := by
  have hE := erCls_len l.cells.xs
  obtain ⟨hok, hc0, hc1⟩ := ha.lib
  have hce := erCl_insts (xs := l.cells.xs) (i := cell.toNat) hc1
  have hns : okNs (gd l.cells.xs cell.toNat).insts.xs := by rw [← hce]; exact okLib_ns hok (by omega)
  have hnl := ha.lt
  have hn0 := ha.hn.1
  obtain ⟨he1, he2'⟩ := ha.el
  have he2 : -1000 ≤ (gd (elems (gd l.cells.xs cell.toNat).insts.xs) n.toNat).place.x ∧ (gd (elems (gd l.cells.xs cell.toNat).insts.xs) n.toNat).place.x ≤ 1000 ∧ -1000 ≤ (gd (elems (gd l.cells.xs cell.toNat).insts.xs) n.toNat).place.y ∧ (gd (elems (gd l.cells.xs cell.toNat).insts.xs) n.toNat).place.y ≤ 1000 := by omega
  have e2 : rootR (erCls l.cells.xs) cell = rootL (erCls l.cells.xs) (occR (erCls l.cells.xs) cell) := by rw [rootR, decide_eq_true ha.hz]; rfl
  refine CallT.enter (args := _) Tryz.func52 rfl rfl (by kernel_rfl) rfl ?_
  refine WP.seq ?_
  refine WP.region ?_
  refine RG.ot rfl (OT.box (cs := libT.enc l) rfl rfl rfl fun b5 => ?_)
  refine RG.ot rfl (OT.box (cs := [vi n]) rfl rfl rfl fun b7 => ?_)
  refine RG.ot rfl (OT.box (cs := [vi reach]) rfl rfl rfl fun b8 => ?_)
  refine RG.pv rfl (PV.mvB (.inr rfl) rfl) ?_
  refine RG.nil ?_
  refine WP.cut1 [4, 5, 7, 8] (fun (b11 : Nat) => True) (fun (b11 : Nat) => [(11, .pointer (some ⟨b11, 0, none⟩))]) (fun (b11 : Nat) => blk b11 141 (helemT.enc (gd (elems (gd l.cells.xs cell.toNat).insts.xs) n.toNat)) :: blk b5 30 (libT.enc l) :: blk b7 2 [vi n] :: blk b8 2 [vi reach] :: L) ?_ ?_
  refine WP.regionH0 (.q 0 (.q 1 (.q 2 (.q 3 (.q 4 (.q 6 (.b 5 (.q 7 (.q 8 (.l 9 (.l 10 Sch.nil)))) 9 (.l 5 (.q 7 (.q 8 (.l 10 Sch.nil))))))))))) (by kernel_rfl) (by kernel_rfl) (by kernel_rfl) rfl ?_
  refine RH.pv rfl (fun _ _ _ _ h => h) (Gh.le_refl _) PickC.pick rfl (PV.field rfl Fo30_0 rfl) ?_
  refine RH.pv rfl (fun _ _ _ _ h => h) (Gh.le_refl _) PickC.pick rfl (PV.load1 rfl Sc28 rfl (Rd.blk rfl)) ?_
  refine RH.pv rfl (fun _ _ _ _ h => h) (Gh.le_refl _) PickC.pick rfl (PV.mvI (.inl rfl) rfl) ?_
  refine RH.pv rfl (fun _ _ _ _ h => h) (Gh.le_refl _) PickC.pick rfl (PV.idxS (j := cell.toNat) rfl Is28 rfl (SlF.r hL.c) rfl (by first | omega | (simp only [List.length_cons, List.length_nil]; omega)) (by first | omega | (simp only [List.length_cons, List.length_nil]; omega))) ?_
  refine RH.pv rfl (fun _ _ _ _ h => h) (Gh.le_refl _) PickC.pick rfl (PV.loadE rfl Ag85 rfl rfl (El.r hL.c (getG (by first | omega | (simp only [List.length_cons, List.length_nil]; omega))))) ?_
  refine RH.pv rfl (fun _ _ _ _ h => h) (Gh.le_refl _) PickC.pick rfl (PV.load1 rfl Sc2 rfl (Rd.blk rfl)) ?_
  · refine RH.ot2 rfl rfl rfl rfl  (OT.callF (vs := [_]) rfl En56 rfl (elems_i (hL.na (by omega)).up hns (fun v22 => ⟨Gh.le_refl _, PickC.pick, ?_⟩))) (OT.alloc rfl Zr141 fun b11 => ⟨Gh.le_refl _, PickC.pick, ?_⟩)
    · refine RH.up1 ?_
      refine RH.pv rfl (fun _ _ _ _ h => h) (Gh.le_refl _) PickC.pick rfl (PV.idxS (j := n.toNat) (v := v22) rfl Is80 rfl SlF.o rfl (by first | omega | (simp only [List.length_cons, List.length_nil]; omega)) (by first | omega | (simp only [List.length_cons, List.length_nil]; omega))) ?_
      refine RH.pv rfl (fun _ _ _ _ h => h) (Gh.le_refl _) PickC.pick rfl (PV.loadE rfl Ag141 rfl rfl (El.o (getG (by first | omega | (simp only [List.length_cons, List.length_nil]; omega))))) ?_
      refine RH.ot rfl rfl (OT.alloc rfl Zr141 fun b11 => ⟨Gh.le_refl _, PickC.pick, ?_⟩)
      refine RH.ot rfl rfl (OT.storeW (vs := [vi _, vi _, vi _, vi _]) rfl Sz141 rfl rfl (Cl.c rfl) rfl rfl (OneC.c rfl) ⟨Gh.le_refl _, PickC.pick, ?_⟩)
      refine RH.nil ?_
      exact ⟨rfl, b11, trivial, ⟨rfl, trivial⟩, ⟨rfl, rfl, rfl, rfl, trivial⟩, Cv.p⟩
    · refine RH.ot rfl rfl (OT.callF (vs := [_]) rfl En56 rfl (elems_i (hL.na (by omega)).up hns (fun v22 => ⟨Gh.le_refl _, PickC.pick, ?_⟩)))
      refine RH.up1 ?_
      refine RH.pv rfl (fun _ _ _ _ h => h) (Gh.le_refl _) PickC.pick rfl (PV.idxS (j := n.toNat) (v := v22) rfl Is80 rfl SlF.o rfl (by first | omega | (simp only [List.length_cons, List.length_nil]; omega)) (by first | omega | (simp only [List.length_cons, List.length_nil]; omega))) ?_
      refine RH.pv rfl (fun _ _ _ _ h => h) (Gh.le_refl _) PickC.pick rfl (PV.loadE rfl Ag141 rfl rfl (El.o (getG (by first | omega | (simp only [List.length_cons, List.length_nil]; omega))))) ?_
      refine RH.ot rfl rfl (OT.storeW (vs := [vi _, vi _, vi _, vi _]) rfl Sz141 rfl rfl (Cl.c rfl) rfl rfl (OneC.c rfl) ⟨Gh.le_refl _, PickC.pick, ?_⟩)
      refine RH.nil ?_
      exact ⟨rfl, b11, trivial, ⟨rfl, trivial⟩, ⟨rfl, rfl, rfl, rfl, trivial⟩, Cv.p⟩
  rintro b11 τ -
  refine WP.seq ?_
  refine WP.region ?_
  refine RG.pv rfl (PV.loadW rfl Ag30 rfl rfl) ?_
  refine RG.pv rfl (PV.field rfl Fo141_0 rfl) ?_
  refine RG.pv rfl (PV.load1 rfl Sc2 rfl (Rd.blk rfl)) ?_
  refine RG.callF (vs := [_, _]) rfl rfl En93 rfl (bnd_i hL.up hlen ?_)
  refine RG.pv rfl (PV.move rfl rfl) ?_
  refine RG.pv rfl (PV.ext rfl rfl rfl) ?_
  refine RG.pv rfl (PV.ext rfl rfl rfl) ?_
  refine RG.ot rfl (OT.alloc rfl Zr116 fun b12 => ?_)
  refine RG.ot rfl (OT.storeW (vs := [vi _, vi _, vi _, vi _]) rfl Sz116 rfl rfl (Cl.c rfl) rfl rfl (OneC.c rfl) ?_)
  refine RG.pv rfl (PV.mvI (.inr rfl) rfl) ?_
  refine RG.nil ?_
  refine WP.seq ?_
  refine WP.seq ?_
  refine WP.region ?_
  refine RG.pv rfl (PV.mvI (.inl rfl) rfl) ?_
  refine RG.pv rfl (PV.neq rfl rfl rfl) ?_
  refine RG.nil ?_
  refine WP.cond rfl (fun h6 => ?_) (fun h6 => ?_)
  · have h6 : bndE (erCls l.cells.xs) (gd (elems (gd l.cells.xs cell.toNat).insts.xs) n.toNat).cell ≠ 0 := by simpa using h6
    have e : freeB (erCls l.cells.xs) cell n reach = false := free_no (by rw [hce]; exact h6)
    rw [e] at k
    refine WP.seq ?_
    refine WP.region ?_
    refine RG.pv rfl (PV.mvB (.inr rfl) rfl) ?_
    refine RG.nil ?_
    refine WP.ret ?_
    exact ⟨_, _, ResV.one rfl rfl, Cv.p, k⟩
  · have h6 : bndE (erCls l.cells.xs) (gd (elems (gd l.cells.xs cell.toNat).insts.xs) n.toNat).cell = 0 := by simpa using h6
    have hob := bndR_in h6
    have hpb := moveR_big hob he1 (show (-1000 ≤ (gd (elems (gd l.cells.xs cell.toNat).insts.xs) n.toNat).place.x ∧ (gd (elems (gd l.cells.xs cell.toNat).insts.xs) n.toNat).place.x ≤ 1000) ∧ -1000 ≤ (gd (elems (gd l.cells.xs cell.toNat).insts.xs) n.toNat).place.y ∧ (gd (elems (gd l.cells.xs cell.toNat).insts.xs) n.toNat).place.y ≤ 1000 by omega)
    have hfe : freeB (erCls l.cells.xs) cell n reach = ((validRect (wideR (bndR (erCls l.cells.xs) (gd (elems (gd l.cells.xs cell.toNat).insts.xs) n.toNat).cell) reach) && validRect (wideR (moveR (gd (elems (gd l.cells.xs cell.toNat).insts.xs) n.toNat).place (bndR (erCls l.cells.xs) (gd (elems (gd l.cells.xs cell.toNat).insts.xs) n.toNat).cell)) reach)) && !((rootR (erCls l.cells.xs) cell).any (nearS n reach (moveR (gd (elems (gd l.cells.xs cell.toNat).insts.xs) n.toNat).place (bndR (erCls l.cells.xs) (gd (elems (gd l.cells.xs cell.toNat).insts.xs) n.toNat).cell))))) := by
      simp only [freeB, hce, decide_eq_true h6, Bool.true_and, e2]
    have hbd : ∀ j, j < 2 → RBig (gd [bndR (erCls l.cells.xs) (gd (elems (gd l.cells.xs cell.toNat).insts.xs) n.toNat).cell, moveR (gd (elems (gd l.cells.xs cell.toNat).insts.xs) n.toNat).place (bndR (erCls l.cells.xs) (gd (elems (gd l.cells.xs cell.toNat).insts.xs) n.toNat).cell)] j) := fun j hj => by
      match j, hj with
      | 0, _ => simpa [gd] using RIn_big hob
      | 1, _ => simpa [gd] using hpb
    refine WP.skip ?_
    refine WP.seq ?_
    refine WP.region ?_
    refine RG.pv rfl (PV.field rfl Fo141_1 rfl) ?_
    refine RG.pv rfl (PV.loadB (vs := [_, _, _]) rfl Ag124 rfl rfl rfl) ?_
    refine RG.pv rfl (PV.loadW rfl Ag116 rfl rfl) ?_
    refine RG.callF (vs := [_, _]) rfl rfl En94 rfl (moveRect_s he1 he2 hob ?_)
    refine RG.ot rfl (OT.alloc rfl Zr116 fun b14 => ?_)
    refine RG.ot rfl (OT.storeW (vs := [vi _, vi _, vi _, vi _]) rfl Sz116 rfl rfl (Cl.c rfl) rfl rfl (OneC.c rfl) ?_)
    refine RG.nil ?_
    refine WP.seq ?_
    refine WP.seq ?_
    refine WP.region ?_
    refine RG.pv rfl (PV.loadW rfl Ag116 rfl rfl) ?_
    refine RG.pv rfl (PV.loadW rfl Ag116 rfl rfl) ?_
    refine RG.ot rfl (OT.bslice (F := rectT) (els := [_, _]) rfl El59 rfl (by decide) rfl (by decide) ⟨rfl, (Cl.c rfl), ⟨rfl, (Cl.c rfl), trivial⟩⟩ fun v41 => ?_)
    refine RG.pv rfl (PV.len (v := v41) rfl Tryz.underlying59 rfl SlF.o) ?_
    refine RG.pv rfl (PV.mvI (.inl rfl) rfl) ?_
    refine RG.nil ?_
    refine WP.block ?_
    refine WP.loop1 [4, 7, 8, 14, 41, 42] (fun i => i ≤ 2 ∧ ∀ j, j < i → validRect (wideR (gd [bndR (erCls l.cells.xs) (gd (elems (gd l.cells.xs cell.toNat).insts.xs) n.toNat).cell, moveR (gd (elems (gd l.cells.xs cell.toNat).insts.xs) n.toNat).place (bndR (erCls l.cells.xs) (gd (elems (gd l.cells.xs cell.toNat).insts.xs) n.toNat).cell)] j) reach) = true) (fun i => [(43, vi i)]) (fun i => osl 116 rectT v41 [bndR (erCls l.cells.xs) (gd (elems (gd l.cells.xs cell.toNat).insts.xs) n.toNat).cell, moveR (gd (elems (gd l.cells.xs cell.toNat).insts.xs) n.toNat).place (bndR (erCls l.cells.xs) (gd (elems (gd l.cells.xs cell.toNat).insts.xs) n.toNat).cell)] :: blk b14 116 (rectT.enc (moveR (gd (elems (gd l.cells.xs cell.toNat).insts.xs) n.toNat).place (bndR (erCls l.cells.xs) (gd (elems (gd l.cells.xs cell.toNat).insts.xs) n.toNat).cell))) :: blk b7 2 [vi n] :: blk b8 2 [vi reach] :: L) (fun i => 2 - i) 0 ⟨by omega, fun j h => by omega⟩ ⟨rfl, trivial⟩ Cv.p ?_
    rintro i τ ⟨hi, hj⟩
    refine WP.seq ?_
    refine WP.region ?_
    refine RG.pv rfl (PV.lss rfl rfl rfl) ?_
    refine RG.nil ?_
    refine WP.seq ?_
    refine WP.cond rfl (fun h7 => ?_) (fun h7 => ?_)
    · have h7 : i < 2 := by have := of_decide_eq_true h7; simp only [List.length_cons, List.length_nil] at this; omega
      obtain ⟨⟨z1, z2, z3⟩, z4, z5, z6⟩ := hbd i h7
      refine WP.skip ?_
      refine WP.seq ?_
      refine WP.block ?_
      refine WP.seq ?_
      refine WP.region ?_
      refine RG.pv rfl (PV.idxS (v := v41) rfl Is59 rfl SlF.o rfl rfl (by first | omega | (simp only [List.length_cons, List.length_nil]; omega))) ?_
      refine RG.pv rfl (PV.loadE rfl Ag116 rfl rfl (El.o (getG (by first | omega | (simp only [List.length_cons, List.length_nil]; omega))))) ?_
      refine RG.ot rfl (OT.alloc rfl Zr116 fun b16 => ?_)
      refine RG.ot rfl (OT.storeW (vs := [vi _, vi _, vi _, vi _]) rfl Sz116 rfl rfl (Cl.c rfl) rfl rfl (OneC.c rfl) ?_)
      refine RG.nil ?_
      refine WP.seq ?_
      refine WP.region ?_
      refine RG.pv rfl (PV.field rfl Fo116_0 rfl) ?_
      refine RG.pv rfl (PV.load1 rfl Sc2 rfl (Rd.blk rfl)) ?_
      refine RG.pv rfl (PV.load1 rfl Sc2 rfl (Rd.blk rfl)) ?_
      refine RG.pv rfl (PV.sub rfl rfl rfl (by first | omega | (simp only [List.length_cons, List.length_nil]; omega))) ?_
      refine RG.pv rfl (PV.field rfl Fo116_1 rfl) ?_
      refine RG.pv rfl (PV.load1 rfl Sc2 rfl (Rd.blk rfl)) ?_
      refine RG.pv rfl (PV.load1 rfl Sc2 rfl (Rd.blk rfl)) ?_
      refine RG.pv rfl (PV.sub rfl rfl rfl (by first | omega | (simp only [List.length_cons, List.length_nil]; omega))) ?_
      refine RG.pv rfl (PV.field rfl Fo116_2 rfl) ?_
      refine RG.pv rfl (PV.load1 rfl Sc2 rfl (Rd.blk rfl)) ?_
      refine RG.pv rfl (PV.load1 rfl Sc2 rfl (Rd.blk rfl)) ?_
      refine RG.pv rfl (PV.add rfl rfl rfl (by first | omega | (simp only [List.length_cons, List.length_nil]; omega))) ?_
      refine RG.pv rfl (PV.field rfl Fo116_3 rfl) ?_
      refine RG.pv rfl (PV.load1 rfl Sc2 rfl (Rd.blk rfl)) ?_
      refine RG.pv rfl (PV.load1 rfl Sc2 rfl (Rd.blk rfl)) ?_
      refine RG.pv rfl (PV.add rfl rfl rfl (by first | omega | (simp only [List.length_cons, List.length_nil]; omega))) ?_
      refine RG.pv rfl (PV.build (vs := [(0, [vi _]), (1, [vi _]), (2, [vi _]), (3, [vi _])]) (out := [_, _, _, _]) rfl Zr116 Pl116 ⟨rfl, (Cl.c rfl), ⟨rfl, (Cl.c rfl), ⟨rfl, (Cl.c rfl), ⟨rfl, (Cl.c rfl), trivial⟩⟩⟩⟩ rfl) ?_
      refine RG.callF (vs := [_]) rfl rfl En95 rfl (validRect_s (r := ⟨_, _, _, _⟩) ?_)
      refine RG.pv rfl (PV.not rfl rfl) ?_
      refine RG.nil ?_
      refine WP.cond rfl (fun h8 => ?_) (fun h8 => ?_)
      · have h8 : validRect (wideR (gd [bndR (erCls l.cells.xs) (gd (elems (gd l.cells.xs cell.toNat).insts.xs) n.toNat).cell, moveR (gd (elems (gd l.cells.xs cell.toNat).insts.xs) n.toNat).place (bndR (erCls l.cells.xs) (gd (elems (gd l.cells.xs cell.toNat).insts.xs) n.toNat).cell)] i) reach) = false := by simpa using h8
        have e : freeB (erCls l.cells.xs) cell n reach = false := by
          rw [hfe]
          match i, h7 with
          | 0, _ => rw [gd_p0] at h8; rw [h8]; rfl
          | 1, _ => rw [gd_p1] at h8; rw [h8, Bool.and_false]; rfl
        rw [e] at k
        refine WP.seq ?_
        refine WP.region ?_
        refine RG.pv rfl (PV.mvB (.inr rfl) rfl) ?_
        refine RG.nil ?_
        refine WP.ret ?_
        exact ⟨_, _, ResV.one rfl rfl, Cv.p, k⟩
      · have hj' : ∀ j, j < i + 1 → validRect (wideR (gd [bndR (erCls l.cells.xs) (gd (elems (gd l.cells.xs cell.toNat).insts.xs) n.toNat).cell, moveR (gd (elems (gd l.cells.xs cell.toNat).insts.xs) n.toNat).place (bndR (erCls l.cells.xs) (gd (elems (gd l.cells.xs cell.toNat).insts.xs) n.toNat).cell)] j) reach) = true := fun j h => by
          by_cases c : j = i
          · rw [c]; simpa using h8
          · exact hj j (by omega)
        refine WP.skip ?_
        refine WP.region ?_
        refine RG.pv rfl (PV.add rfl rfl rfl (by first | omega | (simp only [List.length_cons, List.length_nil]; omega))) ?_
        refine RG.pv rfl (PV.mvI (.inl rfl) rfl) ?_
        refine RG.nil ?_
        exact ⟨rfl, i + 1, ⟨by omega, hj'⟩, ⟨rfl, trivial⟩, ⟨rfl, rfl, rfl, rfl, rfl, rfl, trivial⟩, Cv.p, by omega⟩
    · have h7 : i = 2 := by have := of_decide_eq_false h7; simp only [List.length_cons, List.length_nil] at this; omega
      have v0 := hj 0 (by omega)
      have v1 := hj 1 (by omega)
      rw [gd_p0] at v0
      rw [gd_p1] at v1
      rw [hfe, v0, v1] at k
      refine WP.exit ?_
      refine WP.seq ?_
      refine WP.region ?_
      refine RG.pv rfl (PV.move (v := v) rfl rfl) ?_
      refine RG.pv rfl (PV.mkf3 rfl rfl rfl rfl) ?_
      refine RG.callF (vs := [v, _]) rfl rfl En96 rfl (containsF_rshape (Rs.up h5) (p := nearS n reach (moveR (gd (elems (gd l.cells.xs cell.toNat).insts.xs) n.toNat).place (bndR (erCls l.cells.xs) (gd (elems (gd l.cells.xs cell.toNat).insts.xs) n.toNat).cell))) (fun i hi => CB.mk3 En97 fun L' R c k => free1_s (Rd.cv (Rd.blk rfl) c) (RdN.cv RdN.blk c) (Rd.cv (Rd.blk rfl) c) (RIn_big (rootR_in ha.hz hi)) hpb hr k) ?_)
      refine RG.pv rfl (PV.not rfl rfl) ?_
      refine RG.pv rfl (PV.mvB (.inr rfl) rfl) ?_
      refine RG.nil ?_
      refine WP.ret ?_
      exact ⟨_, _, ResV.one rfl rfl, Cv.p, k⟩
end Go.Proofs.YtbkaincaahcnfaaGreat
namespace Go.Proofs.YtbkaincaahcnfaaGreat
set_option linter.unusedVariables false
set_option linter.unusedSimpArgs false
open Go
set_option maxRecDepth 20000
set_option maxHeartbeats 1000000
set_option linter.unusedSimpArgs false
variable {G : Gh} {L : List Ch} {R : Value → Gh → List Ch → Prop}
theorem elPlaceI_r {n : Inst} {kk c r : Int} (hk : okIn kk n = true) (hc : 0 ≤ c ∧ c < n.cols) (hr : 0 ≤ r ∧ r < n.rows) (k : R (vtrans (elPlace n c r)) G L) : CallT Tryz.prog 163 #[vT instT n, vi c, vi r] G L R := by
  obtain ⟨c', rfl⟩ := Int.eq_ofNat_of_zero_le hc.1
  obtain ⟨r', rfl⟩ := Int.eq_ofNat_of_zero_le hr.1
  exact elPlace_r hk (by omega) (by omega) k
/-- the element that a number stands for -/
theorem step_found {ns : List Inst} (h : okNs ns) {i : Nat} {rest : Int} (hi : i < ns.length) (h0 : 0 ≤ rest) (hr : rest < (gd ns i).cols * (gd ns i).rows) {n : Int} (hn : n = ((elems (ns.take i)).length : Int) + rest) :
    (0 ≤ rest % (gd ns i).cols ∧ rest % (gd ns i).cols < (gd ns i).cols) ∧ (0 ≤ rest / (gd ns i).cols ∧ rest / (gd ns i).cols < (gd ns i).rows) ∧ gd (elems ns) n.toNat = ⟨(gd ns i).cell, elPlace (gd ns i) (rest % (gd ns i).cols) (rest / (gd ns i).cols)⟩ := by
  obtain ⟨q, rfl⟩ := Int.eq_ofNat_of_zero_le h0
  obtain ⟨_, kk, h2⟩ := h
  obtain ⟨_, _, h3, h4, _, _⟩ := okIn_bd (h2 i hi)
  obtain ⟨c, hc⟩ := Int.eq_ofNat_of_zero_le (show 0 ≤ (gd ns i).cols by omega)
  obtain ⟨r, hr'⟩ := Int.eq_ofNat_of_zero_le (show 0 ≤ (gd ns i).rows by omega)
  have hq : q < r * c := by rw [hc, hr', ← Int.natCast_mul] at hr; rw [Nat.mul_comm]; omega
  have hel := elems_found (ns := ns) (i := i) (q := q) hi (by rw [elsOf_len, hr', hc]; exact hq)
  have e1 : n.toNat = (elems (ns.take i)).length + q := by omega
  have e2 : (gd ns i).cols.toNat = c := by omega
  rw [e1, hel, e2, hc, ← Int.natCast_emod, ← Int.natCast_ediv, hr']
  have hc0 : 0 < c := by omega
  have m1 := Nat.mod_lt q hc0
  have m2 : q / c < r := (Nat.div_lt_iff_lt_mul hc0).2 hq
  have m3 : ((q / c : Nat) : Int) < (r : Int) := by exact_mod_cast m2
  have m4 : ((q % c : Nat) : Int) < (c : Int) := by exact_mod_cast m1
  exact ⟨⟨Int.natCast_nonneg _, m4⟩, ⟨Int.natCast_nonneg _, m3⟩, rfl⟩
theorem step_s {l : Lib} {o : Occ} {n : Int} (hL : RLib G L l.cells.v l.cells.xs) (hok : okLib (erCls l.cells.xs) = true) (hcl : 0 ≤ o.cell ∧ o.cell.toNat < l.cells.xs.length) (hbig : TBig o.place) (hp : Rs G L intT o.path.v o.path.xs) (hpl : o.path.xs.length ≤ 100) (hn : 0 ≤ n ∧ n.toNat < (elems (gd l.cells.xs o.cell.toNat).insts.xs).length)
    (k : ∀ v', R (.tuple #[vT occT ⟨(gd (elems (gd l.cells.xs o.cell.toNat).insts.xs) n.toNat).cell, cmpT (gd (elems (gd l.cells.xs o.cell.toNat).insts.xs) n.toNat).place o.place, ⟨v', [] ++ o.path.xs ++ [n]⟩⟩, .bool true]) G (osl 2 intT v' ([] ++ o.path.xs ++ [n]) :: L)) : CallT Tryz.prog 134 #[vT libT l, vT occT o, vi n] G L R := by
  have hE := erCls_len l.cells.xs
  have hce := erCl_insts (xs := l.cells.xs) (i := o.cell.toNat) hcl.2
  have hns : okNs (gd l.cells.xs o.cell.toNat).insts.xs := by rw [← hce]; exact okLib_ns hok (by omega)
  obtain ⟨hn8, kk, h2⟩ := id hns
  have hbe := elem_bd hok (k := o.cell.toNat) (by omega) (i := n.toNat) (by rw [hce]; exact hn.2)
  rw [hce] at hbe
  have hEl : (elems (gd l.cells.xs o.cell.toNat).insts.xs).length ≤ 128 := by rw [← hce]; exact elems_len_bd hok (by omega)
  have hb1 := hbe.2.1
  have hb2 : (-1000 ≤ (gd (elems (gd l.cells.xs o.cell.toNat).insts.xs) n.toNat).place.x ∧ (gd (elems (gd l.cells.xs o.cell.toNat).insts.xs) n.toNat).place.x ≤ 1000) ∧ -1000 ≤ (gd (elems (gd l.cells.xs o.cell.toNat).insts.xs) n.toNat).place.y ∧ (gd (elems (gd l.cells.xs o.cell.toNat).insts.xs) n.toNat).place.y ≤ 1000 := by omega
  refine CallT.enter (args := _) Tryz.func134 rfl rfl (by kernel_rfl) rfl ?_
  refine WP.seq ?_
  refine WP.region ?_
  refine RG.ot rfl (OT.box (cs := libT.enc l) rfl rfl rfl fun b3 => ?_)
  refine RG.ot rfl (OT.box (cs := occT.enc o) rfl rfl rfl fun b4 => ?_)
  refine RG.ot rfl (OT.alloc rfl Zr126 fun b6 => ?_)
  refine RG.pv rfl (PV.mvB (.inr rfl) rfl) ?_
  refine RG.nil ?_
  refine WP.seq ?_
  refine WP.region ?_
  refine RG.pv rfl (PV.field rfl Fo30_0 rfl) ?_
  refine RG.pv rfl (PV.load1 rfl Sc28 rfl (Rd.blk rfl)) ?_
  refine RG.pv rfl (PV.field rfl Fo126_0 rfl) ?_
  refine RG.pv rfl (PV.load1 rfl Sc2 rfl (Rd.blk rfl)) ?_
  refine RG.pv rfl (PV.idxS (j := o.cell.toNat) rfl Is28 rfl (SlF.r hL.c) rfl (by omega) (by omega)) ?_
  refine RG.pv rfl (PV.field rfl Fo85_3 rfl) ?_
  refine RG.pv rfl (PV.loadF rfl Sc83 rfl rfl (El.r hL.c (getG (by omega))) rfl) ?_
  refine RG.pv rfl (PV.asg rfl rfl) ?_
  refine RG.nil ?_
  refine WP.seq ?_
  refine WP.region ?_
  refine RG.pv rfl (PV.mvI (.inl rfl) rfl) ?_
  refine RG.pv rfl (PV.mvI (.inr rfl) rfl) ?_
  refine RG.nil ?_
  refine WP.seq ?_
  refine WP.seq ?_
  refine WP.region ?_
  refine RG.pv rfl (PV.mvI (.inr rfl) rfl) ?_
  refine RG.nil ?_
  refine WP.block ?_
  refine WP.loop2 [2, 4, 6, 8] (fun (i : Nat) (rest : Int) => i ≤ (gd l.cells.xs o.cell.toNat).insts.xs.length ∧ 0 ≤ rest ∧ n = ((elems ((gd l.cells.xs o.cell.toNat).insts.xs.take i)).length : Int) + rest) (fun (i : Nat) (rest : Int) => [(10, vi i), (9, vi rest)]) (fun (i : Nat) (rest : Int) => blk b3 30 (libT.enc l) :: blk b4 126 (occT.enc o) :: blk b6 126 [vi 0, vi 0, vi 0, vi 0, .slice none 0 0] :: L) (fun (i : Nat) (rest : Int) => (gd l.cells.xs o.cell.toNat).insts.xs.length - i) 0 n ⟨by omega, by omega, by simp [elems]⟩ ⟨rfl, rfl, trivial⟩ Cv.p ?_
  rintro i rest τ ⟨hi, h0, hre⟩
  refine WP.seq ?_
  refine WP.seq ?_
  refine WP.region ?_
  refine RG.pv rfl (PV.mvI (.inl rfl) rfl) ?_
  refine RG.pv rfl (PV.move rfl rfl) ?_
  refine RG.pv rfl (PV.len rfl Tryz.underlying83 rfl (SlF.r (hL.na hcl.2))) ?_
  refine RG.pv rfl (PV.lss rfl rfl rfl) ?_
  refine RG.pv rfl (PV.mvB (.inl rfl) rfl) ?_
  refine RG.gs rfl rfl rfl (fun hp => (PV.mvI (.inl rfl) rfl)) ?_
  refine RG.gs rfl rfl rfl (fun hp => (PV.geq rfl (gs_t hp) rfl)) ?_
  refine RG.pv rfl (PV.pickA rfl rfl (fun hq => gs_t (geqT hq)) rfl) ?_
  refine RG.nil ?_
  refine WP.cond rfl (fun h3 => ?_) (fun h3 => ?_)
  · have h3 : i < (gd l.cells.xs o.cell.toNat).insts.xs.length := by simp only [Bool.and_eq_true, decide_eq_true_eq] at h3; omega
    obtain ⟨z1, z2, z3⟩ := elems_cnt hns h3
    refine WP.skip ?_
    refine WP.seq ?_
    refine WP.block ?_
    refine WP.seq ?_
    refine WP.regionQ (by kernel_rfl) (by kernel_rfl) ?_
    refine RQ.pv rfl (PV.move rfl rfl) ?_
    refine RQ.pv rfl (PV.mvI (.inl rfl) rfl) ?_
    refine RQ.pv rfl (PV.idxS rfl Is83 rfl (SlF.r (hL.na hcl.2)) rfl rfl (by omega)) ?_
    refine RQ.pv rfl (PV.field rfl Fo147_2 rfl) ?_
    refine RQ.pv rfl (PV.loadF rfl Sc2 rfl rfl (El.r (hL.na hcl.2) (getG (by omega))) rfl) ?_
    refine RQ.pv rfl (PV.move rfl rfl) ?_
    refine RQ.pv rfl (PV.mvI (.inl rfl) rfl) ?_
    refine RQ.pv rfl (PV.idxS rfl Is83 rfl (SlF.r (hL.na hcl.2)) rfl rfl (by omega)) ?_
    refine RQ.pv rfl (PV.field rfl Fo147_3 rfl) ?_
    refine RQ.pv rfl (PV.loadF rfl Sc2 rfl rfl (El.r (hL.na hcl.2) (getG (by omega))) rfl) ?_
    refine RQ.pv rfl (PV.mul rfl rfl rfl (by omega)) ?_
    refine RQ.pv rfl (PV.mvI (.inr rfl) rfl) ?_
    refine RQ.nil ?_
    refine WP.seq ?_
    refine WP.seq ?_
    refine WP.region ?_
    refine RG.pv rfl (PV.mvI (.inl rfl) rfl) ?_
    refine RG.pv rfl (PV.mvI (.inl rfl) rfl) ?_
    refine RG.pv rfl (PV.lss rfl rfl rfl) ?_
    refine RG.nil ?_
    refine WP.cond rfl (fun h4 => ?_) (fun h4 => ?_)
    · have h4 := of_decide_eq_true h4
      obtain ⟨q1, q2, q3⟩ := step_found hns h3 h0 h4 hre
      obtain ⟨_, _, q4, q5, _, _⟩ := okIn_bd (h2 i h3)
      rw [q3] at hb1 hb2 k
      simp only at hb1 hb2 k
      refine WP.cut1 [2, 4, 6, 8, 10] (fun (b12 : Nat) => True) (fun (b12 : Nat) => [(12, .pointer (some ⟨b12, 0, none⟩))]) (fun (b12 : Nat) => blk b12 124 (transT.enc (elPlace (gd (gd l.cells.xs o.cell.toNat).insts.xs i) (rest % (gd (gd l.cells.xs o.cell.toNat).insts.xs i).cols) (rest / (gd (gd l.cells.xs o.cell.toNat).insts.xs i).cols))) :: blk b3 30 (libT.enc l) :: blk b4 126 (occT.enc o) :: blk b6 126 [vi 0, vi 0, vi 0, vi 0, .slice none 0 0] :: L) ?_ ?_
      refine WP.regionH0 (.q 0 (.q 1 (.q 2 (.q 3 (.q 4 (.q 5 (.q 6 (.q 7 (.q 8 (.q 9 (.q 10 (.q 11 (.q 12 (.q 13 (.q 14 (.q 15 (.q 16 (.q 17 (.b 18 (.l 19 (.l 20 Sch.nil)) 19 (.l 18 (.l 20 Sch.nil))))))))))))))))))))) (by kernel_rfl) (by kernel_rfl) (by kernel_rfl) rfl ?_
      refine RH.pv rfl (fun _ _ _ _ h => h) (Gh.le_refl _) PickC.pick rfl (PV.move rfl rfl) ?_
      refine RH.pv rfl (fun _ _ _ _ h => h) (Gh.le_refl _) PickC.pick rfl (PV.mvI (.inl rfl) rfl) ?_
      refine RH.pv rfl (fun _ _ _ _ h => h) (Gh.le_refl _) PickC.pick rfl (PV.idxS rfl Is83 rfl (SlF.r (hL.na hcl.2)) rfl rfl (by omega)) ?_
      refine RH.pv rfl (fun _ _ _ _ h => h) (Gh.le_refl _) PickC.pick rfl (PV.loadE rfl Ag147 rfl rfl (El.r (hL.na hcl.2) (getG (by omega)))) ?_
      refine RH.pv rfl (fun _ _ _ _ h => h) (Gh.le_refl _) PickC.pick rfl (PV.mvI (.inl rfl) rfl) ?_
      refine RH.pv rfl (fun _ _ _ _ h => h) (Gh.le_refl _) PickC.pick rfl (PV.move rfl rfl) ?_
      refine RH.pv rfl (fun _ _ _ _ h => h) (Gh.le_refl _) PickC.pick rfl (PV.mvI (.inl rfl) rfl) ?_
      refine RH.pv rfl (fun _ _ _ _ h => h) (Gh.le_refl _) PickC.pick rfl (PV.idxS rfl Is83 rfl (SlF.r (hL.na hcl.2)) rfl rfl (by omega)) ?_
      refine RH.pv rfl (fun _ _ _ _ h => h) (Gh.le_refl _) PickC.pick rfl (PV.field rfl Fo147_2 rfl) ?_
      refine RH.pv rfl (fun _ _ _ _ h => h) (Gh.le_refl _) PickC.pick rfl (PV.loadF rfl Sc2 rfl rfl (El.r (hL.na hcl.2) (getG (by omega))) rfl) ?_
      refine RH.pv rfl (fun _ _ _ _ h => h) (Gh.le_refl _) PickC.pick rfl (PV.rem rfl rfl rfl (by omega) (by omega) (by omega)) ?_
      refine RH.pv rfl (fun _ _ _ _ h => h) (Gh.le_refl _) PickC.pick rfl (PV.mvI (.inl rfl) rfl) ?_
      refine RH.pv rfl (fun _ _ _ _ h => h) (Gh.le_refl _) PickC.pick rfl (PV.move rfl rfl) ?_
      refine RH.pv rfl (fun _ _ _ _ h => h) (Gh.le_refl _) PickC.pick rfl (PV.mvI (.inl rfl) rfl) ?_
      refine RH.pv rfl (fun _ _ _ _ h => h) (Gh.le_refl _) PickC.pick rfl (PV.idxS rfl Is83 rfl (SlF.r (hL.na hcl.2)) rfl rfl (by omega)) ?_
      refine RH.pv rfl (fun _ _ _ _ h => h) (Gh.le_refl _) PickC.pick rfl (PV.field rfl Fo147_2 rfl) ?_
      refine RH.pv rfl (fun _ _ _ _ h => h) (Gh.le_refl _) PickC.pick rfl (PV.loadF rfl Sc2 rfl rfl (El.r (hL.na hcl.2) (getG (by omega))) rfl) ?_
      refine RH.pv rfl (fun _ _ _ _ h => h) (Gh.le_refl _) PickC.pick rfl (PV.quo rfl rfl rfl (by omega) (by omega) (by omega)) ?_
      · refine RH.ot2 rfl rfl rfl rfl  (OT.callF (vs := [_, _, _]) rfl En163 rfl (elPlaceI_r (h2 i (by omega)) q1 q2 ⟨Gh.le_refl _, PickC.pick, ?_⟩)) (OT.alloc rfl Zr124 fun b12 => ⟨Gh.le_refl _, PickC.pick, ?_⟩)
        · refine RH.ot rfl rfl (OT.alloc rfl Zr124 fun b12 => ⟨Gh.le_refl _, PickC.pick, ?_⟩)
          refine RH.ot rfl rfl (OT.storeW (vs := [vi _, vi _, vi _]) rfl Sz124 rfl rfl (Cl.c rfl) rfl rfl (OneC.c rfl) ⟨Gh.le_refl _, PickC.pick, ?_⟩)
          refine RH.nil ?_
          exact ⟨rfl, b12, trivial, ⟨rfl, trivial⟩, ⟨rfl, rfl, rfl, rfl, rfl, trivial⟩, Cv.p⟩
        · refine RH.ot rfl rfl (OT.callF (vs := [_, _, _]) rfl En163 rfl (elPlaceI_r (h2 i (by omega)) q1 q2 ⟨Gh.le_refl _, PickC.pick, ?_⟩))
          refine RH.ot rfl rfl (OT.storeW (vs := [vi _, vi _, vi _]) rfl Sz124 rfl rfl (Cl.c rfl) rfl rfl (OneC.c rfl) ⟨Gh.le_refl _, PickC.pick, ?_⟩)
          refine RH.nil ?_
          exact ⟨rfl, b12, trivial, ⟨rfl, trivial⟩, ⟨rfl, rfl, rfl, rfl, rfl, trivial⟩, Cv.p⟩
      rintro b12 τ1 -
      refine WP.cut1 [6] (fun (v79 : Value) => True) (fun (v79 : Value) => [(7, .bool true)]) (fun (v79 : Value) => blk b6 126 (occT.enc ⟨(gd (gd l.cells.xs o.cell.toNat).insts.xs i).cell, cmpT (elPlace (gd (gd l.cells.xs o.cell.toNat).insts.xs i) (rest % (gd (gd l.cells.xs o.cell.toNat).insts.xs i).cols) (rest / (gd (gd l.cells.xs o.cell.toNat).insts.xs i).cols)) o.place, ⟨v79, [] ++ o.path.xs ++ [n]⟩⟩) :: osl 2 intT v79 ([] ++ o.path.xs ++ [n]) :: L) ?_ ?_
      refine WP.regionHD [.b b6] (.q 0 (.q 1 (.q 2 (.q 3 (.q 4 (.q 5 (.q 6 (.q 7 (.q 10 (.q 11 (.q 13 (.c 8 (.b 9 (.b 12 (.l 14 (.l 15 (.q 16 (.l 17 (.q 18 Sch.nil))))) 14 (.l 12 (.l 15 (.q 16 (.l 17 (.q 18 Sch.nil)))))) 14 (.l 9 (.l 12 (.l 15 (.q 16 (.l 17 (.q 18 Sch.nil))))))) 9 (.b 8 (.b 12 (.l 14 (.l 15 (.q 16 (.l 17 (.q 18 Sch.nil))))) 14 (.l 12 (.l 15 (.q 16 (.l 17 (.q 18 Sch.nil)))))) 14 (.l 8 (.l 12 (.l 15 (.q 16 (.l 17 (.q 18 Sch.nil))))))) 14 (.b 8 (.l 9 (.l 12 (.l 15 (.q 16 (.l 17 (.q 18 Sch.nil)))))) 9 (.l 8 (.l 12 (.l 15 (.q 16 (.l 17 (.q 18 Sch.nil))))))))))))))))))) (by kernel_rfl) (by kernel_rfl) (by kernel_rfl) rfl ?_
      refine RH.pv rfl (fun _ _ _ _ h => h) (Gh.le_refl _) PickC.pick rfl (PV.move rfl rfl) ?_
      refine RH.pv rfl (fun _ _ _ _ h => h) (Gh.le_refl _) PickC.pick rfl (PV.mvI (.inl rfl) rfl) ?_
      refine RH.pv rfl (fun _ _ _ _ h => h) (Gh.le_refl _) PickC.pick rfl (PV.idxS rfl Is83 rfl (SlF.r (hL.na hcl.2)) rfl rfl (by omega)) ?_
      refine RH.pv rfl (fun _ _ _ _ h => h) (Gh.le_refl _) PickC.pick rfl (PV.field rfl Fo147_0 rfl) ?_
      refine RH.pv rfl (fun _ _ _ _ h => h) (Gh.le_refl _) PickC.pick rfl (PV.loadF rfl Sc2 rfl rfl (El.r (hL.na hcl.2) (getG (by omega))) rfl) ?_
      refine RH.pv rfl (fun _ _ _ _ h => h) (Gh.le_refl _) PickC.pick rfl (PV.field rfl Fo126_1 rfl) ?_
      refine RH.pv rfl (fun _ _ _ _ h => h) (Gh.le_refl _) PickC.pick rfl (PV.loadB (vs := [_, _, _]) rfl Ag124 rfl rfl rfl) ?_
      refine RH.pv rfl (fun _ _ _ _ h => h) (Gh.le_refl _) PickC.pick rfl (PV.loadW rfl Ag124 rfl rfl) ?_
      refine RH.pv rfl (fun _ _ _ _ h => h) (Gh.le_refl _) PickC.pick rfl (PV.field rfl Fo126_2 rfl) ?_
      refine RH.pv rfl (fun _ _ _ _ h => h) (Gh.le_refl _) PickC.pick rfl (PV.load1 rfl Sc34 rfl (Rd.blk rfl)) ?_
      refine RH.pv rfl (fun _ _ _ _ h => h) (Gh.le_refl _) PickC.pick rfl (PV.mvI (.inl rfl) rfl) ?_
      · refine RH.ot3 rfl rfl rfl rfl rfl rfl  (OT.callF (vs := [_, _]) rfl En162 rfl (l10After_r hb1 hb2 hbig ⟨Gh.le_refl _, PickC.pick, ?_⟩)) (OT.bslice (F := intT) (els := []) rfl El34 rfl (by decide) rfl (by decide) trivial fun v73 => ⟨Gh.le_refl _, PickC.pick, ?_⟩) (OT.bslice (F := intT) (els := [_]) rfl El34 rfl (by decide) rfl (by decide) ⟨rfl, (Cl.c rfl), trivial⟩ fun v78 => ⟨Gh.le_refl _, PickC.pick, ?_⟩)
        · refine RH.ot2 rfl rfl rfl rfl  (OT.bslice (F := intT) (els := []) rfl El34 rfl (by decide) rfl (by decide) trivial fun v73 => ⟨Gh.le_refl _, PickC.pick, ?_⟩) (OT.bslice (F := intT) (els := [_]) rfl El34 rfl (by decide) rfl (by decide) ⟨rfl, (Cl.c rfl), trivial⟩ fun v78 => ⟨Gh.le_refl _, PickC.pick, ?_⟩)
          · refine RH.ot2 rfl rfl rfl rfl  (OT.append (v := v73) (F := intT) rfl El34 rfl (by decide) rfl rfl (Rs.up hp) (OneL.c (fun _ => rfl)) rfl (by first | omega | (simp <;> omega)) fun v76 => ⟨Gh.le_refl _, PickC.pick, ?_⟩) (OT.bslice (F := intT) (els := [_]) rfl El34 rfl (by decide) rfl (by decide) ⟨rfl, (Cl.c rfl), trivial⟩ fun v78 => ⟨Gh.le_refl _, PickC.pick, ?_⟩)
            · refine RH.ot rfl rfl (OT.bslice (F := intT) (els := [_]) rfl El34 rfl (by decide) rfl (by decide) ⟨rfl, (Cl.c rfl), trivial⟩ fun v78 => ⟨Gh.le_refl _, PickC.pick, ?_⟩)
              refine RH.ot rfl rfl (OT.append (v := v76) (u := v78) (F := intT) rfl El34 rfl (by decide) rfl rfl Rs.o (OneL.c (fun _ => rfl)) rfl (by first | omega | (simp <;> omega)) fun v79 => ⟨Gh.le_refl _, PickC.pick, ?_⟩)
              refine RH.up1 ?_
              refine RH.pv rfl (fun _ _ _ _ h => h) (Gh.le_refl _) PickC.pick rfl (PV.build (vs := [(0, [vi _]), (1, [vi _, vi _, vi _]), (2, [v79])]) (out := [_, _, _, _, _]) rfl Zr126 Pl126 ⟨rfl, (Cl.c rfl), ⟨rfl, (Cl.c rfl), ⟨rfl, (Cl.s (v := v79) SlF.o), trivial⟩⟩⟩ rfl) ?_
              refine RH.ot rfl rfl (OT.storeW (vs := [vi _, vi _, vi _, vi _, _]) rfl Sz126 rfl rfl (Cl.c rfl) rfl rfl (OneC.val rfl (OneC.val rfl (OneC.val rfl (OneC.val rfl (OneC.sl (SlF.o (v := v79)) OneC.nil))))) ⟨Gh.le_refl _, PickC.pick, ?_⟩)
              refine RH.pv rfl (fun _ _ _ _ h => h) (Gh.le_refl _) PickC.pick rfl (PV.mvB (.inr rfl) rfl) ?_
              refine RH.nil ?_
              exact ⟨rfl, v79, trivial, ⟨rfl, trivial⟩, ⟨rfl, trivial⟩, Cv.p⟩
            · refine RH.ot rfl rfl (OT.append (v := v73) (F := intT) rfl El34 rfl (by decide) rfl rfl (Rs.up hp) (OneL.c (fun _ => rfl)) rfl (by first | omega | (simp <;> omega)) fun v76 => ⟨Gh.le_refl _, PickC.pick, ?_⟩)
              refine RH.ot rfl rfl (OT.append (v := v76) (u := v78) (F := intT) rfl El34 rfl (by decide) rfl rfl Rs.o (OneL.c (fun _ => rfl)) rfl (by first | omega | (simp <;> omega)) fun v79 => ⟨Gh.le_refl _, PickC.pick, ?_⟩)
              refine RH.up1 ?_
              refine RH.pv rfl (fun _ _ _ _ h => h) (Gh.le_refl _) PickC.pick rfl (PV.build (vs := [(0, [vi _]), (1, [vi _, vi _, vi _]), (2, [v79])]) (out := [_, _, _, _, _]) rfl Zr126 Pl126 ⟨rfl, (Cl.c rfl), ⟨rfl, (Cl.c rfl), ⟨rfl, (Cl.s (v := v79) SlF.o), trivial⟩⟩⟩ rfl) ?_
              refine RH.ot rfl rfl (OT.storeW (vs := [vi _, vi _, vi _, vi _, _]) rfl Sz126 rfl rfl (Cl.c rfl) rfl rfl (OneC.val rfl (OneC.val rfl (OneC.val rfl (OneC.val rfl (OneC.sl (SlF.o (v := v79)) OneC.nil))))) ⟨Gh.le_refl _, PickC.pick, ?_⟩)
              refine RH.pv rfl (fun _ _ _ _ h => h) (Gh.le_refl _) PickC.pick rfl (PV.mvB (.inr rfl) rfl) ?_
              refine RH.nil ?_
              exact ⟨rfl, v79, trivial, ⟨rfl, trivial⟩, ⟨rfl, trivial⟩, Cv.p⟩
          · refine RH.ot rfl rfl (OT.bslice (F := intT) (els := []) rfl El34 rfl (by decide) rfl (by decide) trivial fun v73 => ⟨Gh.le_refl _, PickC.pick, ?_⟩)
            refine RH.ot rfl rfl (OT.append (v := v73) (F := intT) rfl El34 rfl (by decide) rfl rfl (Rs.up hp) (OneL.c (fun _ => rfl)) rfl (by first | omega | (simp <;> omega)) fun v76 => ⟨Gh.le_refl _, PickC.pick, ?_⟩)
            refine RH.ot rfl rfl (OT.append (v := v76) (u := v78) (F := intT) rfl El34 rfl (by decide) rfl rfl Rs.o (OneL.c (fun _ => rfl)) rfl (by first | omega | (simp <;> omega)) fun v79 => ⟨Gh.le_refl _, PickC.pick, ?_⟩)
            refine RH.up1 ?_
            refine RH.pv rfl (fun _ _ _ _ h => h) (Gh.le_refl _) PickC.pick rfl (PV.build (vs := [(0, [vi _]), (1, [vi _, vi _, vi _]), (2, [v79])]) (out := [_, _, _, _, _]) rfl Zr126 Pl126 ⟨rfl, (Cl.c rfl), ⟨rfl, (Cl.c rfl), ⟨rfl, (Cl.s (v := v79) SlF.o), trivial⟩⟩⟩ rfl) ?_
            refine RH.ot rfl rfl (OT.storeW (vs := [vi _, vi _, vi _, vi _, _]) rfl Sz126 rfl rfl (Cl.c rfl) rfl rfl (OneC.val rfl (OneC.val rfl (OneC.val rfl (OneC.val rfl (OneC.sl (SlF.o (v := v79)) OneC.nil))))) ⟨Gh.le_refl _, PickC.pick, ?_⟩)
            refine RH.pv rfl (fun _ _ _ _ h => h) (Gh.le_refl _) PickC.pick rfl (PV.mvB (.inr rfl) rfl) ?_
            refine RH.nil ?_
            exact ⟨rfl, v79, trivial, ⟨rfl, trivial⟩, ⟨rfl, trivial⟩, Cv.p⟩
        · refine RH.ot2 rfl rfl rfl rfl  (OT.callF (vs := [_, _]) rfl En162 rfl (l10After_r hb1 hb2 hbig ⟨Gh.le_refl _, PickC.pick, ?_⟩)) (OT.bslice (F := intT) (els := [_]) rfl El34 rfl (by decide) rfl (by decide) ⟨rfl, (Cl.c rfl), trivial⟩ fun v78 => ⟨Gh.le_refl _, PickC.pick, ?_⟩)
          · refine RH.ot2 rfl rfl rfl rfl  (OT.append (v := v73) (F := intT) rfl El34 rfl (by decide) rfl rfl (Rs.up hp) (OneL.c (fun _ => rfl)) rfl (by first | omega | (simp <;> omega)) fun v76 => ⟨Gh.le_refl _, PickC.pick, ?_⟩) (OT.bslice (F := intT) (els := [_]) rfl El34 rfl (by decide) rfl (by decide) ⟨rfl, (Cl.c rfl), trivial⟩ fun v78 => ⟨Gh.le_refl _, PickC.pick, ?_⟩)
            · refine RH.ot rfl rfl (OT.bslice (F := intT) (els := [_]) rfl El34 rfl (by decide) rfl (by decide) ⟨rfl, (Cl.c rfl), trivial⟩ fun v78 => ⟨Gh.le_refl _, PickC.pick, ?_⟩)
              refine RH.ot rfl rfl (OT.append (v := v76) (u := v78) (F := intT) rfl El34 rfl (by decide) rfl rfl Rs.o (OneL.c (fun _ => rfl)) rfl (by first | omega | (simp <;> omega)) fun v79 => ⟨Gh.le_refl _, PickC.pick, ?_⟩)
              refine RH.up1 ?_
              refine RH.pv rfl (fun _ _ _ _ h => h) (Gh.le_refl _) PickC.pick rfl (PV.build (vs := [(0, [vi _]), (1, [vi _, vi _, vi _]), (2, [v79])]) (out := [_, _, _, _, _]) rfl Zr126 Pl126 ⟨rfl, (Cl.c rfl), ⟨rfl, (Cl.c rfl), ⟨rfl, (Cl.s (v := v79) SlF.o), trivial⟩⟩⟩ rfl) ?_
              refine RH.ot rfl rfl (OT.storeW (vs := [vi _, vi _, vi _, vi _, _]) rfl Sz126 rfl rfl (Cl.c rfl) rfl rfl (OneC.val rfl (OneC.val rfl (OneC.val rfl (OneC.val rfl (OneC.sl (SlF.o (v := v79)) OneC.nil))))) ⟨Gh.le_refl _, PickC.pick, ?_⟩)
              refine RH.pv rfl (fun _ _ _ _ h => h) (Gh.le_refl _) PickC.pick rfl (PV.mvB (.inr rfl) rfl) ?_
              refine RH.nil ?_
              exact ⟨rfl, v79, trivial, ⟨rfl, trivial⟩, ⟨rfl, trivial⟩, Cv.p⟩
            · refine RH.ot rfl rfl (OT.append (v := v73) (F := intT) rfl El34 rfl (by decide) rfl rfl (Rs.up hp) (OneL.c (fun _ => rfl)) rfl (by first | omega | (simp <;> omega)) fun v76 => ⟨Gh.le_refl _, PickC.pick, ?_⟩)
              refine RH.ot rfl rfl (OT.append (v := v76) (u := v78) (F := intT) rfl El34 rfl (by decide) rfl rfl Rs.o (OneL.c (fun _ => rfl)) rfl (by first | omega | (simp <;> omega)) fun v79 => ⟨Gh.le_refl _, PickC.pick, ?_⟩)
              refine RH.up1 ?_
              refine RH.pv rfl (fun _ _ _ _ h => h) (Gh.le_refl _) PickC.pick rfl (PV.build (vs := [(0, [vi _]), (1, [vi _, vi _, vi _]), (2, [v79])]) (out := [_, _, _, _, _]) rfl Zr126 Pl126 ⟨rfl, (Cl.c rfl), ⟨rfl, (Cl.c rfl), ⟨rfl, (Cl.s (v := v79) SlF.o), trivial⟩⟩⟩ rfl) ?_
              refine RH.ot rfl rfl (OT.storeW (vs := [vi _, vi _, vi _, vi _, _]) rfl Sz126 rfl rfl (Cl.c rfl) rfl rfl (OneC.val rfl (OneC.val rfl (OneC.val rfl (OneC.val rfl (OneC.sl (SlF.o (v := v79)) OneC.nil))))) ⟨Gh.le_refl _, PickC.pick, ?_⟩)
              refine RH.pv rfl (fun _ _ _ _ h => h) (Gh.le_refl _) PickC.pick rfl (PV.mvB (.inr rfl) rfl) ?_
              refine RH.nil ?_
              exact ⟨rfl, v79, trivial, ⟨rfl, trivial⟩, ⟨rfl, trivial⟩, Cv.p⟩
          · refine RH.ot rfl rfl (OT.callF (vs := [_, _]) rfl En162 rfl (l10After_r hb1 hb2 hbig ⟨Gh.le_refl _, PickC.pick, ?_⟩))
            refine RH.ot rfl rfl (OT.append (v := v73) (F := intT) rfl El34 rfl (by decide) rfl rfl (Rs.up hp) (OneL.c (fun _ => rfl)) rfl (by first | omega | (simp <;> omega)) fun v76 => ⟨Gh.le_refl _, PickC.pick, ?_⟩)
            refine RH.ot rfl rfl (OT.append (v := v76) (u := v78) (F := intT) rfl El34 rfl (by decide) rfl rfl Rs.o (OneL.c (fun _ => rfl)) rfl (by first | omega | (simp <;> omega)) fun v79 => ⟨Gh.le_refl _, PickC.pick, ?_⟩)
            refine RH.up1 ?_
            refine RH.pv rfl (fun _ _ _ _ h => h) (Gh.le_refl _) PickC.pick rfl (PV.build (vs := [(0, [vi _]), (1, [vi _, vi _, vi _]), (2, [v79])]) (out := [_, _, _, _, _]) rfl Zr126 Pl126 ⟨rfl, (Cl.c rfl), ⟨rfl, (Cl.c rfl), ⟨rfl, (Cl.s (v := v79) SlF.o), trivial⟩⟩⟩ rfl) ?_
            refine RH.ot rfl rfl (OT.storeW (vs := [vi _, vi _, vi _, vi _, _]) rfl Sz126 rfl rfl (Cl.c rfl) rfl rfl (OneC.val rfl (OneC.val rfl (OneC.val rfl (OneC.val rfl (OneC.sl (SlF.o (v := v79)) OneC.nil))))) ⟨Gh.le_refl _, PickC.pick, ?_⟩)
            refine RH.pv rfl (fun _ _ _ _ h => h) (Gh.le_refl _) PickC.pick rfl (PV.mvB (.inr rfl) rfl) ?_
            refine RH.nil ?_
            exact ⟨rfl, v79, trivial, ⟨rfl, trivial⟩, ⟨rfl, trivial⟩, Cv.p⟩
        · refine RH.ot2 rfl rfl rfl rfl  (OT.callF (vs := [_, _]) rfl En162 rfl (l10After_r hb1 hb2 hbig ⟨Gh.le_refl _, PickC.pick, ?_⟩)) (OT.bslice (F := intT) (els := []) rfl El34 rfl (by decide) rfl (by decide) trivial fun v73 => ⟨Gh.le_refl _, PickC.pick, ?_⟩)
          · refine RH.ot rfl rfl (OT.bslice (F := intT) (els := []) rfl El34 rfl (by decide) rfl (by decide) trivial fun v73 => ⟨Gh.le_refl _, PickC.pick, ?_⟩)
            refine RH.ot rfl rfl (OT.append (v := v73) (F := intT) rfl El34 rfl (by decide) rfl rfl (Rs.up hp) (OneL.c (fun _ => rfl)) rfl (by first | omega | (simp <;> omega)) fun v76 => ⟨Gh.le_refl _, PickC.pick, ?_⟩)
            refine RH.ot rfl rfl (OT.append (v := v76) (u := v78) (F := intT) rfl El34 rfl (by decide) rfl rfl Rs.o (OneL.c (fun _ => rfl)) rfl (by first | omega | (simp <;> omega)) fun v79 => ⟨Gh.le_refl _, PickC.pick, ?_⟩)
            refine RH.up1 ?_
            refine RH.pv rfl (fun _ _ _ _ h => h) (Gh.le_refl _) PickC.pick rfl (PV.build (vs := [(0, [vi _]), (1, [vi _, vi _, vi _]), (2, [v79])]) (out := [_, _, _, _, _]) rfl Zr126 Pl126 ⟨rfl, (Cl.c rfl), ⟨rfl, (Cl.c rfl), ⟨rfl, (Cl.s (v := v79) SlF.o), trivial⟩⟩⟩ rfl) ?_
            refine RH.ot rfl rfl (OT.storeW (vs := [vi _, vi _, vi _, vi _, _]) rfl Sz126 rfl rfl (Cl.c rfl) rfl rfl (OneC.val rfl (OneC.val rfl (OneC.val rfl (OneC.val rfl (OneC.sl (SlF.o (v := v79)) OneC.nil))))) ⟨Gh.le_refl _, PickC.pick, ?_⟩)
            refine RH.pv rfl (fun _ _ _ _ h => h) (Gh.le_refl _) PickC.pick rfl (PV.mvB (.inr rfl) rfl) ?_
            refine RH.nil ?_
            exact ⟨rfl, v79, trivial, ⟨rfl, trivial⟩, ⟨rfl, trivial⟩, Cv.p⟩
          · refine RH.ot rfl rfl (OT.callF (vs := [_, _]) rfl En162 rfl (l10After_r hb1 hb2 hbig ⟨Gh.le_refl _, PickC.pick, ?_⟩))
            refine RH.ot rfl rfl (OT.append (v := v73) (F := intT) rfl El34 rfl (by decide) rfl rfl (Rs.up hp) (OneL.c (fun _ => rfl)) rfl (by first | omega | (simp <;> omega)) fun v76 => ⟨Gh.le_refl _, PickC.pick, ?_⟩)
            refine RH.ot rfl rfl (OT.append (v := v76) (u := v78) (F := intT) rfl El34 rfl (by decide) rfl rfl Rs.o (OneL.c (fun _ => rfl)) rfl (by first | omega | (simp <;> omega)) fun v79 => ⟨Gh.le_refl _, PickC.pick, ?_⟩)
            refine RH.up1 ?_
            refine RH.pv rfl (fun _ _ _ _ h => h) (Gh.le_refl _) PickC.pick rfl (PV.build (vs := [(0, [vi _]), (1, [vi _, vi _, vi _]), (2, [v79])]) (out := [_, _, _, _, _]) rfl Zr126 Pl126 ⟨rfl, (Cl.c rfl), ⟨rfl, (Cl.c rfl), ⟨rfl, (Cl.s (v := v79) SlF.o), trivial⟩⟩⟩ rfl) ?_
            refine RH.ot rfl rfl (OT.storeW (vs := [vi _, vi _, vi _, vi _, _]) rfl Sz126 rfl rfl (Cl.c rfl) rfl rfl (OneC.val rfl (OneC.val rfl (OneC.val rfl (OneC.val rfl (OneC.sl (SlF.o (v := v79)) OneC.nil))))) ⟨Gh.le_refl _, PickC.pick, ?_⟩)
            refine RH.pv rfl (fun _ _ _ _ h => h) (Gh.le_refl _) PickC.pick rfl (PV.mvB (.inr rfl) rfl) ?_
            refine RH.nil ?_
            exact ⟨rfl, v79, trivial, ⟨rfl, trivial⟩, ⟨rfl, trivial⟩, Cv.p⟩
      · rintro v79 τ2 -
        refine WP.ret ?_
        exact ⟨_, _, ResV.two rfl (RV1.cell rfl Ag126 rfl) rfl, Cv.p, k v79⟩
    · have h4 := of_decide_eq_false h4
      refine WP.skip ?_
      refine WP.region ?_
      refine RG.pv rfl (PV.mvI (.inl rfl) rfl) ?_
      refine RG.pv rfl (PV.mvI (.inl rfl) rfl) ?_
      refine RG.pv rfl (PV.sub rfl rfl rfl (by omega)) ?_
      refine RG.pv rfl (PV.mvI (.inr rfl) rfl) ?_
      refine RG.nil ?_
      refine WP.region ?_
      refine RG.pv rfl (PV.mvI (.inl rfl) rfl) ?_
      refine RG.pv rfl (PV.add rfl rfl rfl (by omega)) ?_
      refine RG.pv rfl (PV.mvI (.inr rfl) rfl) ?_
      refine RG.nil ?_
      exact ⟨rfl, i + 1, _, ⟨by omega, by omega, by rw [z1]; omega⟩, ⟨rfl, rfl, trivial⟩, ⟨rfl, rfl, rfl, rfl, trivial⟩, Cv.p, by omega⟩
  · exfalso
    have hle : i = (gd l.cells.xs o.cell.toNat).insts.xs.length := by
      simp only [Bool.and_eq_false_iff, decide_eq_false_iff_not] at h3; omega
    rw [List.take_of_length_le (by omega)] at hre
    omega
end Go.Proofs.YtbkaincaahcnfaaGreat
namespace Go.Proofs.YtbkaincaahcnfaaGreat
set_option linter.unusedVariables false
set_option linter.unusedSimpArgs false
open Go
set_option maxRecDepth 20000
set_option maxHeartbeats 1000000
set_option linter.unusedSimpArgs false
variable {G : Gh} {L : List Ch} {R : Value → Gh → List Ch → Prop}
theorem step0_s {l : Lib} {cell n : Int} (hL : RLib G L l.cells.v l.cells.xs) (hok : okLib (erCls l.cells.xs) = true) (hcl : 0 ≤ cell ∧ cell.toNat < l.cells.xs.length) (hn : 0 ≤ n ∧ n.toNat < (elems (gd l.cells.xs cell.toNat).insts.xs).length)
    (k : ∀ v', R (.tuple #[vT occT ⟨(gd (elems (gd l.cells.xs cell.toNat).insts.xs) n.toNat).cell, cmpT (gd (elems (gd l.cells.xs cell.toNat).insts.xs) n.toNat).place ⟨0, 0, 0⟩, ⟨v', [n]⟩⟩, .bool true]) G (osl 2 intT v' [n] :: L)) : CallT Tryz.prog 134 #[vT libT l, vT occT ⟨cell, ⟨0, 0, 0⟩, ⟨.slice none 0 0, []⟩⟩, vi n] G L R :=
  step_s (o := ⟨cell, ⟨0, 0, 0⟩, ⟨.slice none 0 0, []⟩⟩) hL hok hcl ⟨by simp, by simp⟩ RsN (by simp) hn k
theorem path_s {l : Lib} {cell n : Int} {v : Value} (hL : RLib G L l.cells.v l.cells.xs) (hlen : lenC (erCls l.cells.xs)) (ha : AtEl l.cells.xs cell n) (h5 : Rs G L intT v [n])
    (k : ∀ w : Value, w.oneCell' = true → R (.tuple #[vT occT ⟨(gd (elems (gd l.cells.xs cell.toNat).insts.xs) n.toNat).cell, (gd (elems (gd l.cells.xs cell.toNat).insts.xs) n.toNat).place, ⟨w, [n]⟩⟩, vi 0]) G L) : CallT Tryz.prog 84 #[vT libT l, vi cell, v] G L R := by
  have hE := erCls_len l.cells.xs
  obtain ⟨hok, hc0, hc1⟩ := ha.lib
  have hnl := ha.lt
  have hn0 := ha.hn.1
  obtain ⟨he1, he2⟩ := ha.el
  have hh : hasCl (erCls l.cells.xs) cell = true := by simp [hasCl, hok, within]; omega
  have hvt : validT (gd (elems (gd l.cells.xs cell.toNat).insts.xs) n.toNat).place = true := validT_iff.2 ⟨he1, he2.1, he2.2⟩
  refine CallT.enter (args := _) Tryz.func84 rfl rfl (by kernel_rfl) rfl ?_
  refine WP.seq ?_
  refine WP.region ?_
  refine RG.ot rfl (OT.box (cs := libT.enc l) rfl rfl rfl fun b3 => ?_)
  refine RG.ot rfl (OT.alloc rfl Zr126 fun b6 => ?_)
  refine RG.pv rfl (PV.mvI (.inr rfl) rfl) ?_
  refine RG.nil ?_
  refine WP.seq ?_
  refine WP.seq ?_
  refine WP.region ?_
  refine RG.pv rfl (PV.loadW rfl Ag30 rfl rfl) ?_
  refine RG.callF (vs := [_]) rfl rfl En109 rfl (okLib_r hL.up hlen ?_)
  refine RG.pv rfl (PV.not rfl rfl) ?_
  refine RG.nil ?_
  refine WP.cond rfl (fun h1 => ?_) (fun h1 => ?_)
  · exfalso; simp [hok] at h1
  refine WP.skip ?_
  refine WP.seq ?_
  refine WP.seq ?_
  refine WP.region ?_
  refine RG.pv rfl (PV.loadW rfl Ag30 rfl rfl) ?_
  refine RG.pv rfl (PV.mvI (.inl rfl) rfl) ?_
  refine RG.callF (vs := [_, _]) rfl rfl En66 rfl (hasCl_r hL.up hlen ?_)
  refine RG.pv rfl (PV.not rfl rfl) ?_
  refine RG.nil ?_
  refine WP.cond rfl (fun h2 => ?_) (fun h2 => ?_)
  · exfalso; simp [hh] at h2
  refine WP.skip ?_
  refine WP.seq ?_
  refine WP.region ?_
  refine RG.pv rfl (PV.mvI (.inl rfl) rfl) ?_
  refine RG.pv rfl (PV.build (vs := [(0, [vi _])]) (out := [_, _, _, _, _]) rfl Zr126 Pl126 ⟨rfl, (Cl.c rfl), trivial⟩ rfl) ?_
  refine RG.ot rfl (OT.alloc rfl Zr126 fun b8 => ?_)
  refine RG.ot rfl (OT.storeW (vs := [vi _, vi _, vi _, vi _, _]) rfl Sz126 rfl rfl (Cl.c rfl) rfl rfl (OneC.c rfl) ?_)
  refine RG.nil ?_
  refine WP.seq ?_
  refine WP.seq ?_
  refine WP.region ?_
  refine RG.pv rfl (PV.mvI (.inr rfl) rfl) ?_
  refine RG.nil ?_
  refine WP.block ?_
  refine WP.loop2 [2, 3, 6, 8] (fun (i : Nat) (o : Occ) => (i = 0 ∧ o = ⟨cell, ⟨0, 0, 0⟩, ⟨.slice none 0 0, []⟩⟩) ∨ (i = 1 ∧ o = ⟨(gd (elems (gd l.cells.xs cell.toNat).insts.xs) n.toNat).cell, (gd (elems (gd l.cells.xs cell.toNat).insts.xs) n.toNat).place, ⟨o.path.v, [n]⟩⟩ ∧ o.path.v.oneCell' = true)) (fun (i : Nat) (o : Occ) => [(9, vi i)]) (fun (i : Nat) (o : Occ) => blk b8 126 (occT.enc o) :: blk b3 30 (libT.enc l) :: blk b6 126 [vi 0, vi 0, vi 0, vi 0, .slice none 0 0] :: L) (fun (i : Nat) (o : Occ) => 1 - i) 0 ⟨cell, ⟨0, 0, 0⟩, ⟨.slice none 0 0, []⟩⟩ (.inl ⟨rfl, rfl⟩) ⟨rfl, trivial⟩ Cv.p ?_
  rintro i o τ hJ
  refine WP.seq ?_
  refine WP.seq ?_
  refine WP.region ?_
  refine RG.pv rfl (PV.mvI (.inl rfl) rfl) ?_
  refine RG.pv rfl (PV.move (v := v) rfl rfl) ?_
  refine RG.pv rfl (PV.len (v := v) rfl Tryz.underlying34 rfl (SlF.r h5)) ?_
  refine RG.pv rfl (PV.lss rfl rfl rfl) ?_
  refine RG.nil ?_
  refine WP.cond rfl (fun h3 => ?_) (fun h3 => ?_)
  · have h3 : i < 1 := by have := of_decide_eq_true h3; simp only [List.length_cons, List.length_nil] at this; omega
    obtain ⟨rfl, rfl⟩ : i = 0 ∧ o = ⟨cell, ⟨0, 0, 0⟩, ⟨.slice none 0 0, []⟩⟩ := by
      rcases hJ with h | h
      · exact h
      · omega
    refine WP.skip ?_
    refine WP.seq ?_
    refine WP.block ?_
    refine WP.cut2 [2, 3, 6, 8, 9] (fun (b10 : Nat) (w36 : Value) => True) (fun (b10 : Nat) (w36 : Value) => [(10, .pointer (some ⟨b10, 0, none⟩)), (11, .bool true)]) (fun (b10 : Nat) (w36 : Value) => blk b10 126 (occT.enc ⟨(gd (elems (gd l.cells.xs cell.toNat).insts.xs) n.toNat).cell, cmpT (gd (elems (gd l.cells.xs cell.toNat).insts.xs) n.toNat).place ⟨0, 0, 0⟩, ⟨w36, [n]⟩⟩) :: osl 2 intT w36 ([n]) :: blk b8 126 (occT.enc ⟨cell, ⟨0, 0, 0⟩, ⟨.slice none 0 0, []⟩⟩) :: blk b3 30 (libT.enc l) :: blk b6 126 [vi 0, vi 0, vi 0, vi 0, .slice none 0 0] :: L) ?_ ?_
    refine WP.regionH0 (.q 0 (.q 1 (.q 2 (.q 3 (.q 4 (.q 5 (.b 6 (.q 7 (.q 8 (.q 9 (.l 10 (.l 11 (.q 12 Sch.nil)))))) 10 (.l 6 (.q 7 (.q 8 (.q 9 (.l 11 (.q 12 Sch.nil))))))))))))) (by kernel_rfl) (by kernel_rfl) (by kernel_rfl) rfl ?_
    refine RH.pv rfl (fun _ _ _ _ h => h) (Gh.le_refl _) PickC.pick rfl (PV.loadW rfl Ag30 rfl rfl) ?_
    refine RH.pv rfl (fun _ _ _ _ h => h) (Gh.le_refl _) PickC.pick rfl (PV.loadW rfl Ag126 rfl rfl) ?_
    refine RH.pv rfl (fun _ _ _ _ h => h) (Gh.le_refl _) PickC.pick rfl (PV.move (v := v) rfl rfl) ?_
    refine RH.pv rfl (fun _ _ _ _ h => h) (Gh.le_refl _) PickC.pick rfl (PV.mvI (.inl rfl) rfl) ?_
    refine RH.pv rfl (fun _ _ _ _ h => h) (Gh.le_refl _) PickC.pick rfl (PV.idxS (j := 0) (v := v) rfl Is34 rfl (SlF.r h5) rfl (by first | omega | (simp only [List.length_cons, List.length_nil]; omega)) (by first | omega | (simp only [List.length_cons, List.length_nil]; omega))) ?_
    refine RH.pv rfl (fun _ _ _ _ h => h) (Gh.le_refl _) PickC.pick rfl (PV.loadE1 rfl Sc2 rfl rfl (El.r h5 rfl) rfl) ?_
    · refine RH.ot2 rfl rfl rfl rfl  (OT.callF (vs := [_, _, _]) rfl En134 rfl (step0_s hL.up hok ⟨hc0, hc1⟩ ⟨hn0, hnl⟩ (fun w36 => ⟨Gh.le_refl _, PickC.pick, ?_⟩))) (OT.alloc rfl Zr126 fun b10 => ⟨Gh.le_refl _, PickC.pick, ?_⟩)
      · refine RH.pv rfl (fun _ _ _ _ h => h) (Gh.le_refl _) PickC.pick rfl (PV.move rfl rfl) ?_
        refine RH.pv rfl (fun _ _ _ _ h => h) (Gh.le_refl _) PickC.pick rfl (PV.ext rfl rfl rfl) ?_
        refine RH.pv rfl (fun _ _ _ _ h => h) (Gh.le_refl _) PickC.pick rfl (PV.ext rfl rfl rfl) ?_
        refine RH.ot rfl rfl (OT.alloc rfl Zr126 fun b10 => ⟨Gh.le_refl _, PickC.pick, ?_⟩)
        refine RH.ot rfl rfl (OT.storeW (vs := [vi _, vi _, vi _, vi _, _]) rfl Sz126 rfl rfl (Cl.c rfl) rfl rfl (OneC.val rfl (OneC.val rfl (OneC.val rfl (OneC.val rfl (OneC.sl (SlF.o (v := w36)) OneC.nil))))) ⟨Gh.le_refl _, PickC.pick, ?_⟩)
        refine RH.pv rfl (fun _ _ _ _ h => h) (Gh.le_refl _) PickC.pick rfl (PV.mvB (.inr rfl) rfl) ?_
        refine RH.nil ?_
        exact ⟨rfl, b10, w36, trivial, ⟨rfl, rfl, trivial⟩, ⟨rfl, rfl, rfl, rfl, rfl, trivial⟩, Cv.p⟩
      · refine RH.ot rfl rfl (OT.callF (vs := [_, _, _]) rfl En134 rfl (step0_s hL.up hok ⟨hc0, hc1⟩ ⟨hn0, hnl⟩ (fun w36 => ⟨Gh.le_refl _, PickC.pick, ?_⟩)))
        refine RH.pv rfl (fun _ _ _ _ h => h) (Gh.le_refl _) PickC.pick rfl (PV.move rfl rfl) ?_
        refine RH.pv rfl (fun _ _ _ _ h => h) (Gh.le_refl _) PickC.pick rfl (PV.ext rfl rfl rfl) ?_
        refine RH.pv rfl (fun _ _ _ _ h => h) (Gh.le_refl _) PickC.pick rfl (PV.ext rfl rfl rfl) ?_
        refine RH.ot rfl rfl (OT.storeW (vs := [vi _, vi _, vi _, vi _, _]) rfl Sz126 rfl rfl (Cl.c rfl) rfl rfl (OneC.val rfl (OneC.val rfl (OneC.val rfl (OneC.val rfl (OneC.sl (SlF.o (v := w36)) OneC.nil))))) ⟨Gh.le_refl _, PickC.pick, ?_⟩)
        refine RH.pv rfl (fun _ _ _ _ h => h) (Gh.le_refl _) PickC.pick rfl (PV.mvB (.inr rfl) rfl) ?_
        refine RH.nil ?_
        exact ⟨rfl, b10, w36, trivial, ⟨rfl, rfl, trivial⟩, ⟨rfl, rfl, rfl, rfl, rfl, trivial⟩, Cv.p⟩
    rintro b10 w36 τ1 -
    refine WP.st (fun w' hs => (SlF.o (v := w36) w' hs).one) fun hw1 => ?_
    refine WP.seq ?_
    refine WP.seq ?_
    refine WP.region ?_
    refine RG.pv rfl (PV.mvB (.inl rfl) rfl) ?_
    refine RG.pv rfl (PV.not rfl rfl) ?_
    refine RG.nil ?_
    refine WP.cond rfl (fun h4 => ?_) (fun h4 => ?_)
    · exfalso; simp at h4
    refine WP.skip ?_
    refine WP.region ?_
    refine RG.pv rfl (PV.loadW rfl Ag126 rfl rfl) ?_
    refine RG.ot rfl (OT.storeW (vs := [vi _, vi _, vi _, vi _, _]) rfl Sz126 rfl rfl (Cl.c rfl) rfl rfl (OneC.val rfl (OneC.val rfl (OneC.val rfl (OneC.val rfl (OneC.sl (SlF.o (v := w36)) OneC.nil))))) ?_)
    refine RG.nil ?_
    refine WP.region ?_
    refine RG.pv rfl (PV.mvI (.inl rfl) rfl) ?_
    refine RG.pv rfl (PV.add rfl rfl rfl (by first | omega | (simp only [List.length_cons, List.length_nil]; omega))) ?_
    refine RG.pv rfl (PV.mvI (.inr rfl) rfl) ?_
    refine RG.nil ?_
    exact ⟨rfl, 1, ⟨(gd (elems (gd l.cells.xs cell.toNat).insts.xs) n.toNat).cell, cmpT (gd (elems (gd l.cells.xs cell.toNat).insts.xs) n.toNat).place ⟨0, 0, 0⟩, ⟨w36, [n]⟩⟩, (.inr ⟨rfl, by rw [cmpT_top he1], hw1⟩), ⟨rfl, trivial⟩, ⟨rfl, rfl, rfl, rfl, trivial⟩, Cv.p, by omega⟩
  · have h3 : ¬ i < 1 := by have := of_decide_eq_false h3; simp only [List.length_cons, List.length_nil] at this; omega
    obtain ⟨hi, ho, hw1⟩ : i = 1 ∧ o = ⟨(gd (elems (gd l.cells.xs cell.toNat).insts.xs) n.toNat).cell, (gd (elems (gd l.cells.xs cell.toNat).insts.xs) n.toNat).place, ⟨o.path.v, [n]⟩⟩ ∧ o.path.v.oneCell' = true := by
      rcases hJ with h | h
      · omega
      · exact h
    generalize o.path.v = w0 at ho hw1
    subst ho
    refine WP.exit ?_
    refine WP.seq ?_
    refine WP.seq ?_
    refine WP.region ?_
    refine RG.pv rfl (PV.field rfl Fo126_1 rfl) ?_
    refine RG.pv rfl (PV.loadB (vs := [_, _, _]) rfl Ag124 rfl rfl rfl) ?_
    refine RG.callF (vs := [_]) rfl rfl En120 rfl (l09Trans_r ?_)
    refine RG.pv rfl (PV.not rfl rfl) ?_
    refine RG.nil ?_
    refine WP.cond rfl (fun h6 => ?_) (fun h6 => ?_)
    · exfalso; simp [hvt] at h6
    refine WP.skip ?_
    refine WP.seq ?_
    refine WP.region ?_
    refine RG.pv rfl (PV.loadW rfl Ag126 rfl rfl) ?_
    refine RG.ot rfl (OT.storeW (vs := [vi _, vi _, vi _, vi _, _]) rfl Sz126 rfl rfl (Cl.c rfl) rfl rfl (OneC.val rfl (OneC.val rfl (OneC.val rfl (OneC.val rfl (OneC.val hw1 OneC.nil))))) ?_)
    refine RG.pv rfl (PV.mvI (.inr rfl) rfl) ?_
    refine RG.nil ?_
    refine WP.ret ?_
    exact ⟨_, _, ResV.two rfl (RV1.cell rfl Ag126 rfl) rfl, Cv.p, k w0 hw1⟩
theorem any_pick {rs : List RShape} {f : Int → Bool} {g : Shape → Bool} : (rs.any fun x => f x.root && g x.shape) = (pickR rs f).any g := by
  induction rs with
  | nil => rfl
  | cons x rs ih =>
    rw [List.any_cons, ih, pickR, pickR, List.filter_cons]
    cases hf : f x.root <;> simp
theorem pick_sel {cs : List ECell} {ls : List Int} {b : Bool} {f : Int → Bool} : ∀ {os : List EOcc}, (∀ o ∈ os, f (rootOf o) = (selS ls o == b)) → pickR (rootL cs os) f = selL cs os ls b
  | [], _ => rfl
  | o :: os, h => by
    have ih := pick_sel (cs := cs) (os := os) (ls := ls) (b := b) (f := f) (fun q hq => h q (.tail _ hq))
    have h0 := h o (.head _)
    have e1 : rootL cs (o :: os) = rootAt cs o ++ rootL cs os := rfl
    have e2 : selL cs (o :: os) ls b = (if (selS ls o == b) = true then flatOf cs o else []) ++ selL cs os ls b := rfl
    rw [e1, e2, ← ih, pickR, pickR, List.filter_append, List.map_append, ← h0]
    congr 1
    rw [rootAt]
    cases hf : f (rootOf o)
    · rw [List.filter_eq_nil_iff.2 (fun x hx => by obtain ⟨s, _, rfl⟩ := List.mem_map.1 hx; simp [hf])]; simp
    · rw [List.filter_eq_self.2 (fun x hx => by obtain ⟨s, _, rfl⟩ := List.mem_map.1 hx; simp [hf])]; simp [Function.comp_def]
theorem root_one {o : EOcc} {n : Int} (hn : 0 ≤ n) : decide (rootOf o = n) = selS [n] o := by
  by_cases h : 0 < o.path.length
  · rw [rootOf_pos h, selS]
    have : (0 : Int) < o.path.length := by omega
    simp only [this, decide_true, Bool.true_and, List.any_cons, List.any_nil, Bool.or_false]
    rw [decide_eq_decide]; exact eq_comm
  · rw [rootOf_neg h, selS]
    have h1 : ¬ (0 : Int) < o.path.length := by omega
    have h2 : ¬ (-1 : Int) = n := by omega
    simp [h1, h2]
    intro hh; exact absurd hh h
theorem free_sel {xs : List Cell} {cell n reach : Int} {p : Rect} (ha : AtEl xs cell n) : (rootR (erCls xs) cell).any (nearS n reach p) = (selL (erCls xs) (occR (erCls xs) cell) [n] false).any fun s => decide (distR s.box p ≤ 2 * reach) := by
  have e2 : rootR (erCls xs) cell = rootL (erCls xs) (occR (erCls xs) cell) := by rw [rootR, decide_eq_true ha.hz]; rfl
  have e := any_pick (rs := rootL (erCls xs) (occR (erCls xs) cell)) (f := fun r => !decide (r = n)) (g := fun s => decide (distR s.box p ≤ 2 * reach))
  rw [e2, ← pick_sel (f := fun r => !decide (r = n)) (fun o _ => by rw [root_one ha.hn.1]; cases selS [n] o <;> rfl), ← e]
  rfl
theorem selL_in {xs : List Cell} {cell : Int} (hz : shE (erCls xs) cell = 0) {ls : List Int} {b : Bool} {i : Nat} (hi : i < (selL (erCls xs) (occR (erCls xs) cell) ls b).length) : validRect (gd (selL (erCls xs) (occR (erCls xs) cell) ls b) i).box = true :=
  (shE_zero hz).2 _ (selL_mem (gd_mem hi))
theorem free_r {l : Lib} {cell n reach : Int} (hL : RLib G L l.cells.v l.cells.xs) (hlen : lenC (erCls l.cells.xs)) (ha : AtEl l.cells.xs cell n) (hr : 0 ≤ reach ∧ reach ≤ 8) (k : R (.bool (freeB (erCls l.cells.xs) cell n reach)) G L) :
    CallT Tryz.prog 47 #[vT libT l, vi cell, vi n, vi reach] G L R := by
  have hE := erCls_len l.cells.xs
  obtain ⟨hok, hc0, hc1⟩ := ha.lib
  have hce := erCl_insts (xs := l.cells.xs) (i := cell.toNat) hc1
  have hnl := ha.lt
  have hn0 := ha.hn.1
  obtain ⟨he1, he2'⟩ := ha.el
  have he2 : -1000 ≤ (gd (elems (gd l.cells.xs cell.toNat).insts.xs) n.toNat).place.x ∧ (gd (elems (gd l.cells.xs cell.toNat).insts.xs) n.toNat).place.x ≤ 1000 ∧ -1000 ≤ (gd (elems (gd l.cells.xs cell.toNat).insts.xs) n.toNat).place.y ∧ (gd (elems (gd l.cells.xs cell.toNat).insts.xs) n.toNat).place.y ≤ 1000 := by omega
  refine CallT.enter (args := _) Tryz.func47 rfl rfl (by kernel_rfl) rfl ?_
  refine WP.seq ?_
  refine WP.region ?_
  refine RG.ot rfl (OT.box (cs := libT.enc l) rfl rfl rfl fun b4 => ?_)
  refine RG.pv rfl (PV.mvB (.inr rfl) rfl) ?_
  refine RG.nil ?_
  refine WP.seq ?_
  refine WP.region ?_
  refine RG.pv rfl (PV.loadW rfl Ag30 rfl rfl) ?_
  refine RG.pv rfl (PV.mvI (.inl rfl) rfl) ?_
  refine RG.pv rfl (PV.mvI (.inl rfl) rfl) ?_
  refine RG.ot rfl (OT.bslice (F := intT) (els := [_]) rfl El34 rfl (by decide) rfl (by decide) ⟨rfl, (Cl.c rfl), trivial⟩ fun v22 => ?_)
  refine RG.callF (vs := [_, _, v22]) rfl rfl En84 rfl (path_s hL.up hlen ha Rs.o (fun w1 hw1 => ?_))
  refine RG.pv rfl (PV.move rfl rfl) ?_
  refine RG.pv rfl (PV.ext rfl rfl rfl) ?_
  refine RG.pv rfl (PV.ext rfl rfl rfl) ?_
  refine RG.ot rfl (OT.alloc rfl Zr126 fun b9 => ?_)
  refine RG.ot rfl (OT.storeW (vs := [vi _, vi _, vi _, vi _, _]) rfl Sz126 rfl rfl (Cl.c rfl) rfl rfl (OneC.val rfl (OneC.val rfl (OneC.val rfl (OneC.val rfl (OneC.val hw1 OneC.nil))))) ?_)
  refine RG.pv rfl (PV.mvI (.inr rfl) rfl) ?_
  refine RG.nil ?_
  refine WP.seq ?_
  refine WP.region ?_
  refine RG.pv rfl (PV.loadW rfl Ag30 rfl rfl) ?_
  refine RG.pv rfl (PV.field rfl Fo126_0 rfl) ?_
  refine RG.pv rfl (PV.load1 rfl Sc2 rfl (Rd.blk rfl)) ?_
  refine RG.callF (vs := [_, _]) rfl rfl En85 rfl (bnd_r hL.up hlen ?_)
  refine RG.pv rfl (PV.move rfl rfl) ?_
  refine RG.pv rfl (PV.ext rfl rfl rfl) ?_
  refine RG.pv rfl (PV.ext rfl rfl rfl) ?_
  refine RG.ot rfl (OT.alloc rfl Zr116 fun b11 => ?_)
  refine RG.ot rfl (OT.storeW (vs := [vi _, vi _, vi _, vi _]) rfl Sz116 rfl rfl (Cl.c rfl) rfl rfl (OneC.c rfl) ?_)
  refine RG.pv rfl (PV.mvI (.inr rfl) rfl) ?_
  refine RG.nil ?_
  refine WP.seq ?_
  refine WP.seq ?_
  refine WP.region ?_
  refine RG.pv rfl (PV.mvI (.inl rfl) rfl) ?_
  refine RG.pv rfl (PV.neq rfl rfl rfl) ?_
  refine RG.nil ?_
  refine WP.cond rfl (fun h6 => ?_) (fun h6 => ?_)
  · have h6 : bndE (erCls l.cells.xs) (gd (elems (gd l.cells.xs cell.toNat).insts.xs) n.toNat).cell ≠ 0 := by simpa using h6
    have e : freeB (erCls l.cells.xs) cell n reach = false := free_no (by rw [hce]; exact h6)
    rw [e] at k
    refine WP.seq ?_
    refine WP.region ?_
    refine RG.pv rfl (PV.mvB (.inr rfl) rfl) ?_
    refine RG.nil ?_
    refine WP.ret ?_
    exact ⟨_, _, ResV.one rfl rfl, Cv.p, k⟩
  · have h6 : bndE (erCls l.cells.xs) (gd (elems (gd l.cells.xs cell.toNat).insts.xs) n.toNat).cell = 0 := by simpa using h6
    have hob := bndR_in h6
    have hob2 := RIn_big hob
    have hpb := moveR_big hob he1 (show (-1000 ≤ (gd (elems (gd l.cells.xs cell.toNat).insts.xs) n.toNat).place.x ∧ (gd (elems (gd l.cells.xs cell.toNat).insts.xs) n.toNat).place.x ≤ 1000) ∧ -1000 ≤ (gd (elems (gd l.cells.xs cell.toNat).insts.xs) n.toNat).place.y ∧ (gd (elems (gd l.cells.xs cell.toNat).insts.xs) n.toNat).place.y ≤ 1000 by omega)
    have hfe : freeB (erCls l.cells.xs) cell n reach = ((validRect (wideR (bndR (erCls l.cells.xs) (gd (elems (gd l.cells.xs cell.toNat).insts.xs) n.toNat).cell) reach) && validRect (wideR (moveR (gd (elems (gd l.cells.xs cell.toNat).insts.xs) n.toNat).place (bndR (erCls l.cells.xs) (gd (elems (gd l.cells.xs cell.toNat).insts.xs) n.toNat).cell)) reach)) && !((selL (erCls l.cells.xs) (occR (erCls l.cells.xs) cell) [n] false).any fun s => decide (distR s.box (moveR (gd (elems (gd l.cells.xs cell.toNat).insts.xs) n.toNat).place (bndR (erCls l.cells.xs) (gd (elems (gd l.cells.xs cell.toNat).insts.xs) n.toNat).cell)) ≤ 2 * reach))) := by
      rw [← free_sel ha]
      have e2 : rootR (erCls l.cells.xs) cell = rootL (erCls l.cells.xs) (occR (erCls l.cells.xs) cell) := by rw [rootR, decide_eq_true ha.hz]; rfl
      simp only [freeB, hce, decide_eq_true h6, Bool.true_and, e2]
    refine WP.skip ?_
    refine WP.seq ?_
    refine WP.region ?_
    refine RG.pv rfl (PV.field rfl Fo126_1 rfl) ?_
    refine RG.pv rfl (PV.loadB (vs := [_, _, _]) rfl Ag124 rfl rfl rfl) ?_
    refine RG.pv rfl (PV.loadW rfl Ag116 rfl rfl) ?_
    refine RG.callF (vs := [_, _]) rfl rfl En86 rfl (moveRect_r he1 he2 hob ?_)
    refine RG.ot rfl (OT.alloc rfl Zr116 fun b13 => ?_)
    refine RG.ot rfl (OT.storeW (vs := [vi _, vi _, vi _, vi _]) rfl Sz116 rfl rfl (Cl.c rfl) rfl rfl (OneC.c rfl) ?_)
    refine RG.nil ?_
    refine WP.seq ?_
    refine WP.seq ?_
    refine WP.region ?_
    refine RG.pv rfl (PV.loadW rfl Ag116 rfl rfl) ?_
    refine RG.pv rfl (PV.mvI (.inl rfl) rfl) ?_
    refine RG.callF (vs := [_, _]) rfl rfl En88 rfl (wide_s hob2 (by omega) ?_)
    refine RG.callF (vs := [_]) rfl rfl En87 rfl (validRect_s' ?_)
    refine RG.pv rfl (PV.not rfl rfl) ?_
    refine RG.pv rfl (PV.mvB (.inl rfl) rfl) ?_
    refine RG.gs rfl rfl rfl (fun hp => (PV.loadW rfl Ag116 rfl rfl)) ?_
    refine RG.gs rfl rfl rfl (fun hp => (PV.mvI (.inl rfl) rfl)) ?_
    refine RG.gsC rfl rfl rfl rfl En88 (fun hp => ⟨_, (acons (gs_t hp) (acons (gs_t hp) anil)), wide_s hpb (by omega) ⟨rfl, rfl, rfl⟩⟩) ?_
    refine RG.gsC rfl rfl rfl rfl En87 (fun hp => ⟨_, (acons (gs_t hp) anil), validRect_s' ⟨rfl, rfl, rfl⟩⟩) ?_
    refine RG.gs rfl rfl rfl (fun hp => (PV.not rfl (gs_t hp))) ?_
    refine RG.pv rfl (PV.pickO rfl rfl rfl (fun hq => gs_t (geqF hq))) ?_
    refine RG.nil ?_
    refine WP.cond rfl (fun h7 => ?_) (fun h7 => ?_)
    · have e : freeB (erCls l.cells.xs) cell n reach = false := by
        rw [hfe]
        simp only [Bool.or_eq_true, Bool.not_eq_true'] at h7
        rcases h7 with h | h
        · rw [show validRect (wideR (bndR (erCls l.cells.xs) (gd (elems (gd l.cells.xs cell.toNat).insts.xs) n.toNat).cell) reach) = false from h]; rfl
        · rw [show validRect (wideR (moveR (gd (elems (gd l.cells.xs cell.toNat).insts.xs) n.toNat).place (bndR (erCls l.cells.xs) (gd (elems (gd l.cells.xs cell.toNat).insts.xs) n.toNat).cell)) reach) = false from h, Bool.and_false]; rfl
      rw [e] at k
      refine WP.seq ?_
      refine WP.region ?_
      refine RG.pv rfl (PV.mvB (.inr rfl) rfl) ?_
      refine RG.nil ?_
      refine WP.ret ?_
      exact ⟨_, _, ResV.one rfl rfl, Cv.p, k⟩
    · simp only [Bool.or_eq_false_iff, Bool.not_eq_false'] at h7
      rw [show validRect (wideR (bndR (erCls l.cells.xs) (gd (elems (gd l.cells.xs cell.toNat).insts.xs) n.toNat).cell) reach) = true from h7.1, show validRect (wideR (moveR (gd (elems (gd l.cells.xs cell.toNat).insts.xs) n.toNat).place (bndR (erCls l.cells.xs) (gd (elems (gd l.cells.xs cell.toNat).insts.xs) n.toNat).cell)) reach) = true from h7.2, Bool.true_and, Bool.true_and] at hfe
      obtain ⟨⟨z1, z2, z3⟩, z4, z5, z6⟩ := id hpb
      refine WP.skip ?_
      refine WP.seq ?_
      refine WP.region ?_
      refine RG.pv rfl (PV.loadW rfl Ag116 rfl rfl) ?_
      refine RG.pv rfl (PV.mvI (.inl rfl) rfl) ?_
      refine RG.pv rfl (PV.mul rfl rfl rfl (by omega)) ?_
      refine RG.callF (vs := [_, _]) rfl rfl En88 rfl (wide_s hpb (by omega) ?_)
      refine RG.ot rfl (OT.alloc rfl Zr116 fun b14 => ?_)
      refine RG.ot rfl (OT.storeW (vs := [vi _, vi _, vi _, vi _]) rfl Sz116 rfl rfl (Cl.c rfl) rfl rfl (OneC.c rfl) ?_)
      refine RG.nil ?_
      refine WP.seq ?_
      refine WP.region ?_
      refine RG.pv rfl (PV.loadW rfl Ag30 rfl rfl) ?_
      refine RG.pv rfl (PV.mvI (.inl rfl) rfl) ?_
      refine RG.pv rfl (PV.mvI (.inl rfl) rfl) ?_
      refine RG.ot rfl (OT.bslice (F := intT) (els := [_]) rfl El34 rfl (by decide) rfl (by decide) ⟨rfl, (Cl.c rfl), trivial⟩ fun v58 => ?_)
      refine RG.callF (vs := [_, _, v58, _]) rfl rfl En59 rfl (l21Shapes_s hL.up hlen Rs.o (fun v59 => ?_))
      refine RG.pv rfl (PV.asg (v := v59) rfl rfl) ?_
      refine RG.nil ?_
      refine WP.seq ?_
      refine WP.seq ?_
      refine WP.region ?_
      refine RG.pv rfl (PV.mvI (.inr rfl) rfl) ?_
      refine RG.nil ?_
      refine WP.block ?_
      refine WP.bdo v59 fun hbz => ?_
      refine WP.loop1 [14, 15] (fun i => i ≤ (selL (erCls l.cells.xs) (occR (erCls l.cells.xs) cell) [n] false).length ∧ ∀ j, j < i → decide (distR (gd (selL (erCls l.cells.xs) (occR (erCls l.cells.xs) cell) [n] false) j).box (moveR (gd (elems (gd l.cells.xs cell.toNat).insts.xs) n.toNat).place (bndR (erCls l.cells.xs) (gd (elems (gd l.cells.xs cell.toNat).insts.xs) n.toNat).cell)) ≤ 2 * reach) = false) (fun i => [(16, vi i)]) (fun i => osl 135 shapeT v59 (selL (erCls l.cells.xs) (occR (erCls l.cells.xs) cell) [n] false) :: blk b14 116 (rectT.enc (wideR (moveR (gd (elems (gd l.cells.xs cell.toNat).insts.xs) n.toNat).place (bndR (erCls l.cells.xs) (gd (elems (gd l.cells.xs cell.toNat).insts.xs) n.toNat).cell)) (2 * reach))) :: L) (fun i => (selL (erCls l.cells.xs) (occR (erCls l.cells.xs) cell) [n] false).length - i) 0 ⟨by omega, fun j h => by omega⟩ ⟨rfl, trivial⟩ Cv.p ?_
      rintro i τ ⟨hi, hj⟩
      refine WP.seq ?_
      refine WP.seq ?_
      refine WP.region ?_
      refine RG.pv rfl (PV.mvI (.inl rfl) rfl) ?_
      refine RG.pv rfl (PV.move (v := v59) rfl rfl) ?_
      refine RG.pv rfl (PV.len (v := v59) rfl Tryz.underlying76 rfl SlF.o) ?_
      refine RG.pv rfl (PV.lss rfl rfl rfl) ?_
      refine RG.nil ?_
      refine WP.cond rfl (fun h8 => ?_) (fun h8 => ?_)
      · have h8 := of_decide_eq_true h8
        have hin := validR_in (selL_in ha.hz (ls := [n]) (b := false) (i := i) (by omega))
        have hsb := RIn_big hin
        obtain ⟨y1, y2, y3, y4, y5, y6⟩ := id hin
        have hns := near_span (q := reach) hsb hpb hr.1
        refine WP.skip ?_
        refine WP.seq ?_
        refine WP.block ?_
        refine WP.seq ?_
        refine WP.region ?_
        refine RG.pv rfl (PV.move (v := v59) rfl rfl) ?_
        refine RG.pv rfl (PV.mvI (.inl rfl) rfl) ?_
        refine RG.pv rfl (PV.idxS (v := v59) rfl Is76 rfl SlF.o rfl rfl (by omega)) ?_
        refine RG.pv rfl (PV.field rfl Fo135_1 rfl) ?_
        refine RG.pv rfl (PV.loadEP rfl Ag116 rfl rfl (El.o (getG (by omega))) rfl) ?_
        refine RG.ot rfl (OT.alloc rfl Zr116 fun b17 => ?_)
        refine RG.ot rfl (OT.storeW (vs := [vi _, vi _, vi _, vi _]) rfl Sz116 rfl rfl (Cl.c rfl) rfl rfl (OneC.c rfl) ?_)
        refine RG.nil ?_
        refine WP.seq ?_
        refine WP.region ?_
        refine RG.pv rfl (PV.field rfl Fo116_0 rfl) ?_
        refine RG.pv rfl (PV.load1 rfl Sc2 rfl (Rd.blk rfl)) ?_
        refine RG.pv rfl (PV.field rfl Fo116_2 rfl) ?_
        refine RG.pv rfl (PV.load1 rfl Sc2 rfl (Rd.blk rfl)) ?_
        refine RG.pv rfl (PV.field rfl Fo116_0 rfl) ?_
        refine RG.pv rfl (PV.load1 rfl Sc2 rfl (Rd.blk rfl)) ?_
        refine RG.pv rfl (PV.field rfl Fo116_2 rfl) ?_
        refine RG.pv rfl (PV.load1 rfl Sc2 rfl (Rd.blk rfl)) ?_
        refine RG.callF (vs := [_, _, _, _]) rfl rfl En89 rfl (span_s (by first | omega | (simp only [wideR]; omega)) (by first | omega | (simp only [wideR]; omega)) (by first | omega | (simp only [wideR]; omega)) (by first | omega | (simp only [wideR]; omega)) ?_)
        refine RG.pv rfl (PV.gtr rfl rfl rfl) ?_
        refine RG.pv rfl (PV.mvB (.inl rfl) rfl) ?_
        refine RG.gs rfl rfl rfl (fun hp => (PV.field rfl Fo116_1 rfl)) ?_
        refine RG.gs rfl rfl rfl (fun hp => (PV.load1 rfl Sc2 (gs_t hp) (Rd.blk rfl))) ?_
        refine RG.gs rfl rfl rfl (fun hp => (PV.field rfl Fo116_3 rfl)) ?_
        refine RG.gs rfl rfl rfl (fun hp => (PV.load1 rfl Sc2 (gs_t hp) (Rd.blk rfl))) ?_
        refine RG.gs rfl rfl rfl (fun hp => (PV.field rfl Fo116_1 rfl)) ?_
        refine RG.gs rfl rfl rfl (fun hp => (PV.load1 rfl Sc2 (gs_t hp) (Rd.blk rfl))) ?_
        refine RG.gs rfl rfl rfl (fun hp => (PV.field rfl Fo116_3 rfl)) ?_
        refine RG.gs rfl rfl rfl (fun hp => (PV.load1 rfl Sc2 (gs_t hp) (Rd.blk rfl))) ?_
        refine RG.gsC rfl rfl rfl rfl En89 (fun hp => ⟨_, (acons (gs_t hp) (acons (gs_t hp) (acons (gs_t hp) (acons (gs_t hp) anil)))), span_s (by first | omega | (simp only [wideR]; omega)) (by first | omega | (simp only [wideR]; omega)) (by first | omega | (simp only [wideR]; omega)) (by first | omega | (simp only [wideR]; omega)) ⟨rfl, rfl, rfl⟩⟩) ?_
        refine RG.gs rfl rfl rfl (fun hp => (PV.gtr rfl (gs_t hp) rfl)) ?_
        refine RG.pv rfl (PV.pickA rfl rfl (fun hq => gs_t (geqT hq)) rfl) ?_
        refine RG.nil ?_
        refine WP.cond rfl (fun h9 => ?_) (fun h9 => ?_)
        · have e : freeB (erCls l.cells.xs) cell n reach = false := by
            rw [hfe, List.any_eq_true.2 ⟨gd (selL (erCls l.cells.xs) (occR (erCls l.cells.xs) cell) [n] false) i, gd_mem (by omega), by rw [hns]; exact h9⟩]; rfl
          rw [e] at k
          refine WP.seq ?_
          refine WP.region ?_
          refine RG.pv rfl (PV.mvB (.inr rfl) rfl) ?_
          refine RG.nil ?_
          refine WP.ret ?_
          exact ⟨_, _, ResV.one rfl rfl, Cv.p, k⟩
        · have hj' : ∀ j, j < i + 1 → decide (distR (gd (selL (erCls l.cells.xs) (occR (erCls l.cells.xs) cell) [n] false) j).box (moveR (gd (elems (gd l.cells.xs cell.toNat).insts.xs) n.toNat).place (bndR (erCls l.cells.xs) (gd (elems (gd l.cells.xs cell.toNat).insts.xs) n.toNat).cell)) ≤ 2 * reach) = false := fun j h => by
            by_cases c : j = i
            · rw [c, hns]; exact h9
            · exact hj j (by omega)
          refine WP.skip ?_
          refine WP.region ?_
          refine RG.pv rfl (PV.mvI (.inl rfl) rfl) ?_
          refine RG.pv rfl (PV.add rfl rfl rfl (by omega)) ?_
          refine RG.pv rfl (PV.mvI (.inr rfl) rfl) ?_
          refine RG.nil ?_
          exact ⟨rfl, i + 1, ⟨by omega, hj'⟩, ⟨rfl, trivial⟩, ⟨rfl, rfl, trivial⟩, Cv.p, by omega⟩
      · have h8 := of_decide_eq_false h8
        have e : freeB (erCls l.cells.xs) cell n reach = true := by
          have : ((selL (erCls l.cells.xs) (occR (erCls l.cells.xs) cell) [n] false).any fun s => decide (distR s.box (moveR (gd (elems (gd l.cells.xs cell.toNat).insts.xs) n.toNat).place (bndR (erCls l.cells.xs) (gd (elems (gd l.cells.xs cell.toNat).insts.xs) n.toNat).cell)) ≤ 2 * reach)) = false := by
            rw [List.any_eq_false]
            intro s hs
            obtain ⟨j, hj2, rfl⟩ := List.getElem_of_mem hs
            have := hj j (by omega)
            rw [gd_eq hj2] at this
            simpa using this
          rw [hfe, this]; rfl
        rw [e] at k
        refine WP.exit ?_
        refine WP.seq ?_
        refine WP.region ?_
        refine RG.pv rfl (PV.mvB (.inr rfl) rfl) ?_
        refine RG.nil ?_
        refine WP.ret ?_
        exact ⟨_, _, ResV.one rfl rfl, Cv.p, k⟩
end Go.Proofs.YtbkaincaahcnfaaGreat
