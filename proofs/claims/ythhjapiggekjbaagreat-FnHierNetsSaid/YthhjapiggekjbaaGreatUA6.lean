/-
  Contracts of functions and plain facts that the last text of this folder uses, part 6.
-/
import Derived.Test.YthhjapiggekjbaaGreatUA5
import Derived.ProofKit
import Derived.Deep.Slices
import Derived.Carry
import Derived.Shelf.SlSortCmp.NoneTotal
import Derived.Shelf.SlSortCmp.WholeK
import Derived.Test.YthhjapiggekjbaaGreatProg
namespace Go.Proofs.YthhjapiggekjbaaGreat
set_option linter.unusedVariables false
set_option linter.unusedSimpArgs false
open Go
set_option maxRecDepth 20000
set_option maxHeartbeats 1000000
set_option linter.unusedSimpArgs false
variable {G : Gh} {L : List Ch} {R : Value → Gh → List Ch → Prop}
theorem RsE.mem {α : Type} [Inhabited α] {F : FT α} {xs : List (Sl α)} (h : RsE G L F xs) {s : Sl α} (hs : s ∈ xs) : Rs G L F s.v s.xs := by
 obtain ⟨i, hi, rfl⟩ := List.getElem_of_mem hs
 have := h i hi
 rwa [gd_eq hi] at this
def mkQ (i : Nat) (p : Piece) : PPiece := ⟨(i : Int), p⟩
def numTo (ps : List Plc) (i : Nat) : List PPiece := (List.range i).flatMap fun j => (gd ps j).pieces.xs.map (mkQ j)
theorem numTo_succ (ps : List Plc) (i : Nat) : numTo ps (i + 1) = numTo ps i ++ (gd ps i).pieces.xs.map (mkQ i) := by simp [numTo, List.range_succ]
theorem numTo_mono (ps : List Plc) {i j : Nat} (h : i ≤ j) : (numTo ps i).length ≤ (numTo ps j).length := by
 induction j with
 | zero => have : i = 0 := by omega
           rw [this]; exact Nat.le_refl _
 | succ j ih =>
   by_cases c : i = j + 1
   · rw [c]; exact Nat.le_refl _
   · have := ih (by omega)
     rw [numTo_succ, List.length_append]; omega
theorem numTo_regs {ps : List Plc} : ∀ i, i ≤ ps.length → regsQ (numTo ps i) = rgsL (ps.take i)
 | 0, _ => rfl
 | i + 1, h => by
   have ih := numTo_regs (ps := ps) i (by omega)
   rw [numTo_succ, regsQ_append, ih, List.take_add_one, getG (by omega)]
   simp [rgsL, regsQ, regs, mkQ, Function.comp_def]
theorem numTo_er {ps : List Plc} {cs : List ECell} {os : List EOcc} {n : Nat} (h : erL ps = plcTo cs os n) : ∀ i, i ≤ n → erQs (numTo ps i) = plTo cs os i
 | 0, _ => rfl
 | i + 1, hi => by
   have ih := numTo_er h i (by omega)
   have hl : ps.length = n := by have := congrArg List.length h; simpa [erL, plcTo] using this
   have e : erPs (gd ps i).pieces.xs = plPc cs os i := by
     have h1 : gd (erL ps) i = (plPc cs os i, plPoly cs os i) := by rw [h, plcTo, gd_map _ (by rw [List.length_range]; omega), range_gd (by omega)]
     rw [erL, gd_map _ (by omega)] at h1
     exact congrArg Prod.fst h1
   rw [numTo_succ, plTo_succ, ← ih, erQs, List.map_append]
   congr 1
   have e2 : plAt cs os i = (plPc cs os i).map fun p => ((i : Int), p) := by simp [plAt, plPc, Function.comp_def]
   rw [e2, ← e]
   simp [erPs, erQ, mkQ, Function.comp_def]
theorem placedP_i {v : Value} {ps : List Plc} (h1 : Rs G L plcT v ps) (hp : RsE G L pieceT (pcsL ps)) (hq : RsE G L rectT (plsL ps)) (hr : RsE G L rectT (rgsL ps)) (hl : (numTo ps ps.length).length ≤ 6000000) (k : ∀ v', R v' G (osl 65 ppieceT v' (numTo ps ps.length) :: L)) : CallT Tryz.prog 49 #[v] G L R := by
 refine CallT.bd h1 fun hbz => ?_
 refine CallT.enter (args := _) Tryz.func49 rfl rfl (by kernel_rfl) rfl ?_
 refine WP.seq (WP.region (RG.pv rfl (PV.asg rfl rfl) (RG.nil (WP.seq (WP.region ?_)))))
 refine RG.ot rfl (OT.bslice (F := ppieceT) (els := []) rfl El53 rfl (by decide) rfl (by decide) trivial fun v8 => ?_)
 refine RG.pv rfl (PV.asg (v := v8) rfl rfl) (RG.nil (WP.seq (WP.seq (WP.region (RG.pv rfl (PV.move (v := v) rfl rfl) (RG.pv rfl (PV.len (v := v) rfl Tryz.underlying87 rfl (SlF.r h1)) (RG.ml rfl rfl rfl ?_)))))))
 refine RG.nil (WP.block ?_)
 refine WP.cv (Cv.eqS (show [] = numTo ps 0 from rfl)) ?_
 refine WP.loop2 [9, 10] (fun (i : Nat) (q : Value) => i ≤ ps.length) (fun (i : Nat) (q : Value) => [(11, vi i), (3, q)]) (fun (i : Nat) (q : Value) => osl 65 ppieceT q (numTo ps i) :: L) (fun (i : Nat) (q : Value) => ps.length - i) 0 v8 (by omega) ⟨rfl, rfl, trivial⟩ Cv.p ?_
 rintro i q τ hi
 refine WP.seq (WP.region (RG.pv rfl (PV.lss rfl rfl rfl) (RG.nil (WP.seq ?_))))
 refine WP.cond rfl (fun h2 => ?_) (fun h2 => ?_)
 · have h2 := of_decide_eq_true h2
   have h3 : i < ps.length := by omega
   have hpp : Rs G L pieceT (gd ps i).pieces.v (gd ps i).pieces.xs := hp.mem (List.mem_map.2 ⟨gd ps i, gd_mem h3, rfl⟩)
   have hqq : Rs G L rectT (gd ps i).poly.v (gd ps i).poly.xs := hq.mem (List.mem_map.2 ⟨gd ps i, gd_mem h3, rfl⟩)
   have hm1 := numTo_mono ps (i := i + 1) (j := ps.length) (by omega)
   have hm2 : (numTo ps (i + 1)).length = (numTo ps i).length + (gd ps i).pieces.xs.length := by rw [numTo_succ, List.length_append, List.length_map]
   refine WP.skip (WP.seq (WP.block (WP.seq (WP.region (RG.ml rfl rfl rfl (RG.pv rfl (PV.idxS (v := v) rfl Is87 rfl (SlF.r h1) rfl rfl (by omega)) (RG.pv rfl (PV.loadE rfl Ag152 rfl rfl (El.r h1 (getG (by omega)))) ?_)))))))
   refine RG.ot rfl (OT.alloc rfl Zr152 fun b5 => ?_)
   refine RG.mr rfl rfl rfl ?_
   refine RG.ot rfl (OT.storeW (vs := [_, _]) rfl Sz152 rfl rfl (Cl.c rfl) rfl rfl (OneC.sl (SlF.r hpp) (OneC.sl (SlF.r hqq) OneC.nil)) ?_)
   refine RG.nil (WP.seq (WP.region (RG.pv rfl (PV.field rfl Fo152_0 rfl) (RG.pv rfl (PV.load1 rfl Sc78 rfl (Rd.blk rfl)) (RG.pv rfl (PV.len rfl Tryz.underlying78 rfl (SlF.r hpp)) (RG.ml rfl rfl rfl (RG.nil ?_)))))))
   refine WP.block ?_
   refine WP.cv ((Cv.p (C := osl 65 ppieceT q (numTo ps i) :: blk b5 152 (plcT.enc (gd ps i)) :: L)).trans (Cv.eqS (ys := numTo ps i ++ ((gd ps i).pieces.xs.take 0).map (mkQ i)) (by simp))) ?_
   refine WP.loop2 [4, 9, 10, 11, 17, 18] (fun (m : Nat) (w : Value) => m ≤ (gd ps i).pieces.xs.length) (fun (m : Nat) (w : Value) => [(19, vi m), (3, w)]) (fun (m : Nat) (w : Value) => osl 65 ppieceT w (numTo ps i ++ ((gd ps i).pieces.xs.take m).map (mkQ i)) :: blk b5 152 (plcT.enc (gd ps i)) :: L) (fun (m : Nat) (w : Value) => (gd ps i).pieces.xs.length - m) 0 q (by omega) ⟨rfl, rfl, trivial⟩ Cv.p ?_
   rintro m w τ1 hm
   refine WP.seq (WP.region (RG.pv rfl (PV.lss rfl rfl rfl) (RG.nil (WP.seq ?_))))
   have hlw : (numTo ps i ++ ((gd ps i).pieces.xs.take m).map (mkQ i)).length ≤ 6000000 := by rw [List.length_append, List.length_map, List.length_take]; omega
   refine WP.cond rfl (fun h4 => ?_) (fun h4 => ?_)
   · have h4 := of_decide_eq_true h4
     have h5 : m < (gd ps i).pieces.xs.length := by omega
     have hrr : Rs G L rectT (gd (gd ps i).pieces.xs m).reg.v (gd (gd ps i).pieces.xs m).reg.xs := hr.mem (List.mem_flatMap.2 ⟨gd ps i, gd_mem h3, List.mem_map.2 ⟨_, gd_mem h5, rfl⟩⟩)
     refine WP.skip (WP.seq (WP.block (WP.seq (WP.region (RG.pv rfl (PV.idxS rfl Is78 rfl (SlF.r hpp) rfl rfl (by omega)) (RG.pv rfl (PV.loadE rfl Ag63 rfl rfl (El.r hpp (getG (by omega)))) ?_))))))
     refine RG.ot rfl (OT.alloc rfl Zr63 fun b7 => ?_)
     refine RG.ot rfl (OT.storeW (vs := [vi _, _]) rfl Sz63 rfl rfl (Cl.c rfl) rfl rfl (OneC.val rfl (OneC.sl (SlF.r hrr) OneC.nil)) ?_)
     refine RG.nil (WP.region (RG.pv rfl (PV.move (v := w) rfl rfl) (RG.ml rfl rfl rfl (RG.pv rfl (PV.loadW rfl Ag63 rfl rfl) (RG.pv rfl (PV.build (vs := [(0, [vi _]), (1, [vi _, _])]) (out := [_, _, _]) rfl Zr65 Pl65 ⟨rfl, (Cl.c rfl), ⟨rfl, (Cl.c rfl), trivial⟩⟩ rfl) ?_)))))
     refine RG.ot rfl (OT.bslice (F := ppieceT) (els := [⟨(i : Int), gd (gd ps i).pieces.xs m⟩]) rfl El53 rfl (by decide) rfl (by decide) ⟨rfl, (Cl.c rfl), trivial⟩ fun v27 => ?_)
     refine RG.ot rfl (OT.append (v := w) (u := v27) (F := ppieceT) rfl El53 rfl (by decide) rfl rfl Rs.o (OneL.one (OneC.val rfl (OneC.val rfl (OneC.sl (SlF.r hrr) OneC.nil)))) rfl (by first | omega | (simp <;> omega)) fun v28 => ?_)
     refine RG.pv rfl (PV.asg (v := v28) rfl rfl) (RG.nil (WP.region (RG.pv rfl (PV.add rfl rfl rfl (by omega)) (RG.ml rfl rfl rfl (RG.nil ?_)))))
     exact ⟨rfl, m + 1, v28, (by omega), ⟨rfl, rfl, trivial⟩, ⟨rfl, rfl, rfl, rfl, rfl, rfl, trivial⟩, ((Cv.p (C := osl 65 ppieceT v28 (numTo ps i ++ ((gd ps i).pieces.xs.take m).map (mkQ i) ++ [⟨(i : Int), gd (gd ps i).pieces.xs m⟩]) :: blk b5 152 (plcT.enc (gd ps i)) :: L)).trans (Cv.eqS (by rw [List.take_add_one, getG (by omega), List.map_append, List.append_assoc]; rfl))), by omega⟩
   · have h4 := of_decide_eq_false h4
     obtain rfl : m = (gd ps i).pieces.xs.length := by omega
     refine WP.exit ?_
     refine WP.region (RG.pv rfl (PV.add rfl rfl rfl (by omega)) (RG.ml rfl rfl rfl (RG.nil ?_)))
     exact ⟨rfl, i + 1, w, (by omega), ⟨rfl, rfl, trivial⟩, ⟨rfl, rfl, trivial⟩, ((Cv.p (C := osl 65 ppieceT w (numTo ps i ++ ((gd ps i).pieces.xs.take (gd ps i).pieces.xs.length).map (mkQ i)) :: L)).trans (Cv.eqS (by rw [List.take_length, numTo_succ]))), by omega⟩
 · have h2 := of_decide_eq_false h2
   obtain rfl : i = ps.length := by omega
   refine WP.exit ?_
   refine WP.seq (WP.region (RG.pv rfl (PV.move (v := q) rfl rfl) (RG.pv rfl (PV.asg (v := q) rfl rfl) (RG.nil ?_))))
   refine WP.ret ?_
   exact ⟨_, _, ResV.one rfl rfl, Cv.p, k q⟩
noncomputable def ppAll (cs : List ECell) (cell : Int) : List (Int × (Int × List Rect)) := plTo cs (occR cs cell) (occR cs cell).length
noncomputable def ppC (cs : List ECell) (cell : Int) : Int := bif decide (shE cs cell = 0) then (bif decide (400 < (ppAll cs cell).length) then 3 else 0) else shE cs cell
noncomputable def ppR (cs : List ECell) (cell : Int) : List (Int × (Int × List Rect)) := bif decide (ppC cs cell = 0) then ppAll cs cell else []
theorem ppC_no {cs : List ECell} {cell : Int} (h : shE cs cell ≠ 0) : ppC cs cell = shE cs cell := by rw [ppC, decide_eq_false h]; rfl
theorem ppC_yes {cs : List ECell} {cell : Int} (h : shE cs cell = 0) : ppC cs cell = bif decide (400 < (ppAll cs cell).length) then 3 else 0 := by rw [ppC, decide_eq_true h]; rfl
theorem ppR_no {cs : List ECell} {cell : Int} (h : ppC cs cell ≠ 0) : ppR cs cell = [] := by rw [ppR, decide_eq_false h]; rfl
theorem ppR_yes {cs : List ECell} {cell : Int} (h : ppC cs cell = 0) : ppR cs cell = ppAll cs cell := by rw [ppR, decide_eq_true h]; rfl
theorem ppAll_len (cs : List ECell) (cell : Int) : (ppAll cs cell).length ≤ 25600 * (occR cs cell).length := plTo_len _ _ _
theorem Cv.nilQ {M : List Ch} {e e' : TypeId} [p : PickC L M] : Cv M (osl e ppieceT (.slice none 0 0) ([] : List PPiece) :: bagS e' rectT (regsQ []) :: L) := (Cv.pick p.pick).trans ((Cv.bag0 (xs := regsQ []) rfl).trans Cv.nilS)
theorem occR_200 (cs : List ECell) (cell : Int) : (occR cs cell).length ≤ 200 := by
 by_cases h : 0 < (occR cs cell).length
 · exact (occR_cell (i := 0) h).2.2.2
 · omega
theorem pp_r {l : Lib} {cell : Int} (hL : RLib G L l.cells.v l.cells.xs) (hlen : lenC (erCls l.cells.xs)) (k : ∀ v qs, erQs qs = ppR (erCls l.cells.xs) cell → R (.tuple #[v, vi (ppC (erCls l.cells.xs) cell)]) G (osl 65 ppieceT v qs :: bagS 140 rectT (regsQ qs) :: L)) : CallT Tryz.prog 29 #[vT libT l, vi cell] G L R := by
 refine CallT.enter (args := _) Tryz.func29 rfl rfl (by kernel_rfl) rfl ?_
 refine WP.seq (WP.region ?_)
 refine RG.ot rfl (OT.box (cs := libT.enc l) rfl rfl rfl fun b2 => ?_)
 refine RG.pv rfl (PV.asg rfl rfl) (RG.mr rfl rfl rfl (RG.nil (WP.seq (WP.seq (WP.region (RG.pv rfl (PV.loadW rfl Ag31 rfl rfl) (RG.ml rfl rfl rfl ?_)))))))
 refine RG.callF (vs := [_, _]) rfl rfl En52 rfl (fly_r hL.up hlen (fun w14 ys0 hy0 => ?_))
 refine RG.pv rfl (PV.move (v := .tuple _) rfl rfl) (RG.pv rfl (PV.ext (v := w14) rfl rfl rfl) (RG.pv rfl (PV.ext rfl rfl rfl) (RG.pv rfl (PV.asg (v := w14) rfl rfl) (RG.mr rfl rfl rfl (RG.nil (WP.seq (WP.region ?_)))))))
 refine RG.ml rfl rfl rfl (RG.pv rfl (PV.neq rfl rfl rfl) (RG.nil ?_))
 refine WP.cond rfl (fun h1 => ?_) (fun h1 => ?_)
 · have h1 : shE (erCls l.cells.xs) cell ≠ 0 := by simpa using h1
   have e := ppC_no h1
   have e2 := ppR_no (by rw [e]; exact h1)
   rw [e, e2] at k
   refine WP.seq (WP.region ?_)
   refine RG.ot rfl (OT.bslice (F := ppieceT) (els := []) rfl El53 rfl (by decide) rfl (by decide) trivial fun v19 => ?_)
   refine RG.ml rfl rfl rfl (RG.pv rfl (PV.asg (v := v19) rfl rfl) (RG.mr rfl rfl rfl (RG.nil ?_)))
   refine WP.ret ?_
   exact ⟨_, _, ResV.two rfl rfl rfl, (Cv.p (C := osl 65 ppieceT v19 [] :: L)).trans (Cv.cons (Cv.bag0 (xs := regsQ []) rfl)), k v19 [] rfl⟩
 · have h1 : shE (erCls l.cells.xs) cell = 0 := by simpa using h1
   have ec := ppC_yes h1
   refine WP.skip (WP.seq (WP.region (RG.pv rfl (PV.loadW rfl Ag31 rfl rfl) (RG.ml rfl rfl rfl ?_))))
   refine RG.callF (vs := [_, _]) rfl rfl En55 rfl (occ_r hL.up hlen (fun w24 zs he => ?_))
   refine RG.pv rfl (PV.move (v := .tuple _) rfl rfl) (RG.pv rfl (PV.ext (v := w24) rfl rfl rfl) (RG.pv rfl (PV.ext rfl rfl rfl) (RG.pv rfl (PV.asg (v := w24) rfl rfl) (RG.mr rfl rfl rfl (RG.nil (WP.seq (WP.region ?_)))))))
   refine RG.pv rfl (PV.loadW rfl Ag31 rfl rfl) (RG.pv rfl (PV.move (v := w24) rfl rfl) ?_)
   refine RG.callF (vs := [_, w24]) rfl rfl En56 rfl (placed_r hL.up hlen Rs.o RsE.o he h1 (fun v29 qsv29 hqv29 => ?_))
   refine RG.pv rfl (PV.asg (v := v29) rfl rfl) (RG.nil (WP.seq (WP.seq (WP.region (RG.pv rfl (PV.move (v := v29) rfl rfl) (RG.pv rfl (PV.len (v := v29) rfl Tryz.underlying53 rfl SlF.o) (RG.pv rfl (PV.gtr rfl rfl rfl) ?_)))))))
   refine RG.nil ?_
   have hql : qsv29.length = (ppAll (erCls l.cells.xs) cell).length := by rw [← erQs_len, hqv29]; rfl
   refine WP.cond rfl (fun h2 => ?_) (fun h2 => ?_)
   · have h2 : 400 < (ppAll (erCls l.cells.xs) cell).length := by simp at h2; omega
     rw [decide_eq_true h2] at ec
     have e2 := ppR_no (cs := erCls l.cells.xs) (cell := cell) (by rw [ec]; decide)
     rw [ec, e2] at k
     refine WP.seq (WP.region ?_)
     refine RG.ot rfl (OT.bslice (F := ppieceT) (els := []) rfl El53 rfl (by decide) rfl (by decide) trivial fun v33 => ?_)
     refine RG.pv rfl (PV.asg (v := v33) rfl rfl) (RG.mr rfl rfl rfl (RG.nil ?_))
     refine WP.ret ?_
     exact ⟨_, _, ResV.two rfl rfl rfl, (Cv.p (C := osl 65 ppieceT v33 [] :: L)).trans (Cv.cons (Cv.bag0 (xs := regsQ []) rfl)), k v33 [] rfl⟩
   · have h2 : ¬ 400 < (ppAll (erCls l.cells.xs) cell).length := by simp at h2; omega
     rw [decide_eq_false h2] at ec
     have e2 := ppR_yes (cs := erCls l.cells.xs) (cell := cell) ec
     rw [ec, e2] at k
     refine WP.skip (WP.seq (WP.region (RG.pv rfl (PV.move (v := v29) rfl rfl) (RG.pv rfl (PV.asg (v := v29) rfl rfl) (RG.mr rfl rfl rfl (RG.nil ?_))))))
     refine WP.ret ?_
     exact ⟨_, _, ResV.two rfl rfl rfl, Cv.p, k v29 qsv29 hqv29⟩
theorem pp_i {l : Lib} {cell : Int} (hL : RLib G L l.cells.v l.cells.xs) (hlen : lenC (erCls l.cells.xs)) (k : ∀ v qs, erQs qs = ppR (erCls l.cells.xs) cell → R (.tuple #[v, vi (ppC (erCls l.cells.xs) cell)]) G (osl 65 ppieceT v qs :: bagS 140 rectT (regsQ qs) :: L)) : CallT Tryz.prog 24 #[vT libT l, vi cell] G L R := by
 by_cases h1 : shE (erCls l.cells.xs) cell = 0
 · have ec := ppC_yes h1
   refine CallT.enter (args := _) Tryz.func24 rfl rfl (by kernel_rfl) rfl ?_
   refine WP.seq (WP.region ?_)
   refine RG.ot rfl (OT.box (cs := libT.enc l) rfl rfl rfl fun b2 => ?_)
   refine RG.pv rfl (PV.asg rfl rfl) (RG.mr rfl rfl rfl (RG.nil (WP.seq (WP.region (RG.pv rfl (PV.loadW rfl Ag31 rfl rfl) (RG.ml rfl rfl rfl ?_))))))
   refine RG.callF (vs := [_, _]) rfl rfl En47 rfl (plac_i hL.up hlen (fun hne => absurd h1 hne) (fun _ w13 ps u13 ys13 hps hys => ?_))
   refine RG.pv rfl (PV.move (v := .tuple _) rfl rfl) (RG.pv rfl (PV.ext (v := w13) rfl rfl rfl) (RG.pv rfl (PV.ext rfl rfl rfl) (RG.pv rfl (PV.ext rfl rfl rfl) (RG.pv rfl (PV.asg (v := w13) rfl rfl) (RG.pv rfl (PV.asg rfl rfl) (RG.mr rfl rfl rfl (RG.nil ?_)))))))
   refine WP.seq (WP.seq (WP.region (RG.ml rfl rfl rfl (RG.pv rfl (PV.neq rfl rfl rfl) (RG.nil ?_)))))
   refine WP.cond rfl (fun h2 => ?_) (fun h2 => ?_)
   · simp at h2
   · have hpl : ps.length = (occR (erCls l.cells.xs) cell).length := by have := congrArg List.length hps; simpa [erL, plcTo] using this
     have her := numTo_er hps ps.length (by omega)
     rw [hpl] at her
     have hal := ppAll_len (erCls l.cells.xs) cell
     have ho2 := occR_200 (erCls l.cells.xs) cell
     have hql : (numTo ps ps.length).length = (ppAll (erCls l.cells.xs) cell).length := by rw [← erQs_len, hpl, her]; rfl
     have hnl : (numTo ps ps.length).length ≤ 6000000 := by omega
     refine WP.skip (WP.seq (WP.region (RG.pv rfl (PV.move (v := w13) rfl rfl) ?_)))
     refine RG.callF (vs := [w13]) rfl rfl En49 rfl (placedP_i Rs.o RsE.o RsE.o RsE.o hnl (fun v21 => ?_))
     refine RG.pv rfl (PV.asg (v := v21) rfl rfl) (RG.nil (WP.seq (WP.seq (WP.region (RG.pv rfl (PV.move (v := v21) rfl rfl) (RG.pv rfl (PV.len (v := v21) rfl Tryz.underlying53 rfl SlF.o) (RG.pv rfl (PV.gtr rfl rfl rfl) ?_)))))))
     refine RG.nil ?_
     refine WP.cond rfl (fun h3 => ?_) (fun h3 => ?_)
     · have h3 : 400 < (ppAll (erCls l.cells.xs) cell).length := by simp at h3; omega
       rw [decide_eq_true h3] at ec
       have e2 := ppR_no (cs := erCls l.cells.xs) (cell := cell) (by rw [ec]; decide)
       rw [ec, e2] at k
       refine WP.seq (WP.region (RG.pv rfl (PV.asg rfl rfl) (RG.mr rfl rfl rfl (RG.nil ?_))))
       refine WP.ret ?_
       exact ⟨_, _, ResV.two rfl rfl rfl, Cv.nilQ, k _ [] rfl⟩
     · have h3 : ¬ 400 < (ppAll (erCls l.cells.xs) cell).length := by simp at h3; omega
       rw [decide_eq_false h3] at ec
       have e2 := ppR_yes (cs := erCls l.cells.xs) (cell := cell) ec
       rw [ec, e2] at k
       refine WP.skip (WP.seq (WP.region (RG.pv rfl (PV.move (v := v21) rfl rfl) (RG.pv rfl (PV.asg (v := v21) rfl rfl) (RG.mr rfl rfl rfl (RG.nil ?_))))))
       refine WP.ret ?_
       exact ⟨_, _, ResV.two rfl rfl rfl, (Cv.p (C := osl 65 ppieceT v21 (numTo ps ps.length) :: bagS 140 rectT (rgsL ps) :: L)).trans (Cv.cast (by rw [numTo_regs _ (Nat.le_refl _), List.take_length])), k v21 (numTo ps ps.length) (by rw [hpl]; exact her)⟩
 · have e := ppC_no h1
   have e2 := ppR_no (by rw [e]; exact h1)
   rw [e, e2] at k
   refine CallT.enter (args := _) Tryz.func24 rfl rfl (by kernel_rfl) rfl ?_
   refine WP.seq (WP.region ?_)
   refine RG.ot rfl (OT.box (cs := libT.enc l) rfl rfl rfl fun b2 => ?_)
   refine RG.pv rfl (PV.asg rfl rfl) (RG.mr rfl rfl rfl (RG.nil (WP.seq (WP.region (RG.pv rfl (PV.loadW rfl Ag31 rfl rfl) (RG.ml rfl rfl rfl ?_))))))
   refine RG.callF (vs := [_, _]) rfl rfl En47 rfl (plac_i hL.up hlen (fun _ => ?_) (fun h => absurd h h1))
   refine RG.pv rfl (PV.move (v := .tuple _) rfl rfl) (RG.pv rfl (PV.ext rfl rfl rfl) (RG.pv rfl (PV.ext rfl rfl rfl) (RG.pv rfl (PV.ext rfl rfl rfl) (RG.pv rfl (PV.asg rfl rfl) (RG.pv rfl (PV.asg rfl rfl) (RG.mr rfl rfl rfl (RG.nil ?_)))))))
   refine WP.seq (WP.seq (WP.region (RG.ml rfl rfl rfl (RG.pv rfl (PV.neq rfl rfl rfl) (RG.nil ?_)))))
   refine WP.cond rfl (fun h2 => ?_) (fun h2 => ?_)
   · refine WP.seq ?_
     refine WP.region (RG.ml rfl rfl rfl (RG.pv rfl (PV.asg rfl rfl) (RG.mr rfl rfl rfl (RG.nil ?_))))
     refine WP.ret ?_
     exact ⟨_, _, ResV.two rfl rfl rfl, Cv.nilQ, k _ [] rfl⟩
   · exfalso; simp at h2; exact h1 h2
end Go.Proofs.YthhjapiggekjbaaGreat
namespace Go.Proofs.YthhjapiggekjbaaGreat
set_option linter.unusedVariables false
set_option linter.unusedSimpArgs false
open Go
set_option maxRecDepth 20000
set_option maxHeartbeats 1000000
set_option linter.unusedSimpArgs false
variable {G : Gh} {L : List Ch} {R : Value → Gh → List Ch → Prop}
theorem RsE.regQ {xs : List PPiece} (h : RsE G L rectT (regsQ xs)) {i : Nat} (hi : i < xs.length) : Rs G L rectT (gd xs i).piece.reg.v (gd xs i).piece.reg.xs := by
 have := h i (by rw [regsQ_len]; exact hi); rwa [regsQ_gd hi] at this
theorem erQs_gd {xs : List PPiece} {i : Nat} (h : i < xs.length) : gd (erQs xs) i = erQ (gd xs i) := gd_map _ h
end Go.Proofs.YthhjapiggekjbaaGreat
namespace Go.Proofs.YthhjapiggekjbaaGreat
set_option linter.unusedVariables false
set_option linter.unusedSimpArgs false
open Go
set_option maxRecDepth 20000
set_option linter.unusedSimpArgs false
variable {G : Gh} {L : List Ch} {R : Value → Gh → List Ch → Prop}
theorem l19Or_s {v u : Value} {xs ys : List Bool} (h1 : Rs G L boolT v xs) (h2 : Rs G L boolT u ys) (hl : xs.length = 6400) (hl' : ys.length = 6400) (k : ∀ v', R v' G (osl 4 boolT v' (zipB (fun p q => p || q) xs ys) :: L)) : CallT Tryz.prog 111 #[v, u] G L R := by
 have hzl := zipB_len (f := fun p q => p || q) hl hl'
 refine CallT.enter (args := _) Tryz.func111 rfl rfl (by kernel_rfl) rfl ?_
 refine WP.seq (WP.region (RG.pv rfl (PV.asg rfl rfl) (RG.nil (WP.seq (WP.region (RG.pv rfl (PV.move (v := v) rfl rfl) (RG.pv rfl (PV.len (v := v) rfl Tryz.underlying109 rfl (SlF.r h1)) ?_)))))))
 refine RG.ot rfl (OT.make (F := boolT) (a0 := false) rfl El109 rfl (by decide) rfl rfl (by omega) (by omega) fun v9 => ?_)
 refine RG.pv rfl (PV.asg (v := v9) rfl rfl) (RG.nil (WP.seq (WP.seq (WP.region (RG.mr rfl rfl rfl (RG.nil (WP.block ?_)))))))
 refine WP.loop2 [0, 1, 5] (fun (i : Nat) (zs : List Bool) => i ≤ 6400 ∧ zs.length = 6400 ∧ ∀ j, j < i → zs[j]? = (zipB (fun p q => p || q) xs ys)[j]?) (fun (i : Nat) (zs : List Bool) => [(6, vi i)]) (fun (i : Nat) (zs : List Bool) => osl 4 boolT v9 zs :: L) (fun (i : Nat) (zs : List Bool) => 6400 - i) 0 (List.replicate xs.length false) ⟨by omega, by simp [hl], fun j h => by omega⟩ ⟨rfl, trivial⟩ Cv.p ?_
 rintro i zs τ ⟨hi, hl2, he⟩
 refine WP.seq (WP.seq (WP.region (RG.ml rfl rfl rfl (RG.pv rfl (PV.move (v := v) rfl rfl) (RG.pv rfl (PV.len (v := v) rfl Tryz.underlying109 rfl (SlF.r h1)) (RG.pv rfl (PV.lss rfl rfl rfl) (RG.nil ?_)))))))
 refine WP.cond rfl (fun h3 => ?_) (fun h3 => ?_)
 · have h3 := of_decide_eq_true h3
   have hz := zipB_get (f := fun p q => p || q) (a := xs) (b := ys) (i := i) (by omega) (by omega)
   refine WP.skip (WP.seq (WP.block (WP.region (RG.pv rfl (PV.move (v := v9) rfl rfl) (RG.ml rfl rfl rfl (RG.pv rfl (PV.move (v := v) rfl rfl) (RG.ml rfl rfl rfl ?_)))))))
   refine RG.pv rfl (PV.idxS (v := v) rfl Is109 rfl (SlF.r h1) rfl rfl (by omega)) (RG.pv rfl (PV.loadE1 rfl Sc4 rfl rfl (El.r h1 (getG (by omega))) rfl) (RG.bl rfl rfl rfl ?_))
   refine RG.gs rfl rfl rfl (fun hp => (PV.move (v := u) rfl rfl)) ?_
   refine RG.gs rfl rfl rfl (fun hp => (PV.mvI (.inl rfl) rfl)) ?_
   refine RG.gs rfl rfl rfl (fun hp => (PV.idxS (v := u) rfl Is109 (gs_t hp) (SlF.r h2) (gs_t hp) rfl (by first | omega | (simp at hp; omega)))) ?_
   refine RG.gs rfl rfl rfl (fun hp => (PV.loadE1 rfl Sc4 (gs_t hp) rfl (El.r h2 (getG (by first | omega | (simp at hp; omega)))) rfl)) ?_
   refine RG.pv rfl (PV.pickO rfl rfl rfl (fun hq => gs_t (geqF hq))) (RG.pv rfl (PV.idxS (v := v9) rfl Is109 rfl SlF.o rfl rfl (by omega)) ?_)
   refine RG.ot rfl (OT.storeE (F := boolT) rfl Sz4 rfl rfl rfl (Cl.c rfl) (OneC.c rfl) (by omega) ?_)
   refine RG.nil (WP.region (RG.ml rfl rfl rfl (RG.pv rfl (PV.add rfl rfl rfl (by omega)) (RG.mr rfl rfl rfl (RG.nil ?_)))))
   exact ⟨rfl, i + 1, (zs.set i (gd xs i || gd ys i)), ⟨by omega, by simpa using hl2, set_pre he (by rw [hz]) (by omega)⟩, ⟨rfl, trivial⟩, ⟨rfl, rfl, rfl, trivial⟩, Cv.p, by omega⟩
 · have h3 := of_decide_eq_false h3
   obtain rfl := pre_eq he (by omega) (by omega)
   refine WP.exit ?_
   refine WP.seq (WP.region (RG.pv rfl (PV.move (v := v9) rfl rfl) (RG.pv rfl (PV.asg (v := v9) rfl rfl) (RG.nil ?_))))
   refine WP.ret ?_
   exact ⟨_, _, ResV.one rfl rfl, Cv.p, k v9⟩
end Go.Proofs.YthhjapiggekjbaaGreat
namespace Go.Proofs.YthhjapiggekjbaaGreat
set_option linter.unusedVariables false
set_option linter.unusedSimpArgs false
open Go
set_option maxRecDepth 20000
set_option maxHeartbeats 1000000
set_option linter.unusedSimpArgs false
variable {G : Gh} {L : List Ch} {R : Value → Gh → List Ch → Prop}
theorem gb_zip2 {f : Bool → Bool → Bool} {a b : List Bool} (ha : a.length = 6400) (hb : b.length = 6400) {y x : Nat} (hy : y < 80) (hx : x < 80) : gb (zipB f a b) y x = f (gb a y x) (gb b y x) := by
 unfold gb; rw [zipB_gd (by omega) (by omega)]
def diffAny (E : List (Int × (Int × List Rect))) (y x : Nat) : Bool := E.any fun q => decide (q.2.1 = 0) && gb (bits q.2.2) y x
theorem diff_take {qs : List PPiece} {i y x : Nat} (h : i < qs.length) : diffAny ((erQs qs).take (i + 1)) y x = (diffAny ((erQs qs).take i) y x || (decide ((gd qs i).piece.layer = 0) && gb (bits (gd qs i).piece.reg.xs) y x)) := by
 rw [diffAny, List.take_add_one, getG (by rw [erQs_len]; exact h), List.any_append, erQs_gd h]
 simp [diffAny, erQ, erP]
theorem zipB_len2 {f : Bool → Bool → Bool} {a b : List Bool} (ha : a.length = 6400) (hb : b.length = 6400) : (zipB f a b).length = 6400 := by simp [zipB, ha, hb]
theorem cross_r {v u : Value} {qs : List PPiece} {P : List Bool} (h1 : Rs G L ppieceT v qs) (hd : RsE G L rectT (regsQ qs)) (h2 : Rs G L boolT u P) (hP : P.length = 6400) (hreg : ∀ i, i < qs.length → isReg (gd qs i).piece.reg.xs = true) (k : ∀ v' O, O.length = 6400 → (∀ y x, y < 80 → x < 80 → gb O y x = (diffAny (erQs qs) y x && gb P y x)) → R v' G (osl 4 boolT v' O :: L)) : CallT Tryz.prog 61 #[v, u] G L R := by
 refine CallT.bd h1 fun hb => ?_
 refine CallT.enter (args := _) Tryz.func61 rfl rfl (by kernel_rfl) rfl ?_
 refine WP.seq (WP.region (RG.pv rfl (PV.asg rfl rfl) (RG.nil (WP.seq (WP.region (RG.pv rfl (PV.move (v := u) rfl rfl) (RG.pv rfl (PV.len (v := u) rfl Tryz.underlying109 rfl (SlF.r h2)) ?_)))))))
 refine RG.ot rfl (OT.make (F := boolT) (a0 := false) rfl El109 rfl (by decide) rfl rfl (by omega) (by omega) fun v9 => ?_)
 refine RG.pv rfl (PV.asg (v := v9) rfl rfl) (RG.nil (WP.seq (WP.seq (WP.region (RG.mr rfl rfl rfl (RG.nil (WP.block ?_)))))))
 refine WP.loop3 [0, 1] (fun (i : Nat) (O : List Bool) (q : Value) => i ≤ qs.length ∧ O.length = 6400 ∧ ∀ y x, y < 80 → x < 80 → gb O y x = (diffAny ((erQs qs).take i) y x && gb P y x)) (fun (i : Nat) (O : List Bool) (q : Value) => [(6, vi i), (5, q)]) (fun (i : Nat) (O : List Bool) (q : Value) => osl 4 boolT q O :: L) (fun (i : Nat) (O : List Bool) (q : Value) => qs.length - i) 0 (List.replicate P.length false) v9 ⟨by omega, by rw [List.length_replicate]; exact hP, fun y x _ _ => by rw [hP, gb_rep]; simp [diffAny]⟩ ⟨rfl, rfl, trivial⟩ Cv.p ?_
 rintro i O q τ ⟨hi, hl, hc⟩
 refine WP.seq (WP.seq (WP.region (RG.ml rfl rfl rfl (RG.pv rfl (PV.move (v := v) rfl rfl) (RG.pv rfl (PV.len (v := v) rfl Tryz.underlying53 rfl (SlF.r h1)) (RG.pv rfl (PV.lss rfl rfl rfl) (RG.nil ?_)))))))
 refine WP.cond rfl (fun h3 => ?_) (fun h3 => ?_)
 · have h3 := of_decide_eq_true h3
   have h5 : i < qs.length := by omega
   refine WP.skip (WP.seq (WP.block (WP.seq (WP.region (RG.pv rfl (PV.move (v := v) rfl rfl) (RG.ml rfl rfl rfl (RG.pv rfl (PV.idxS (v := v) rfl Is53 rfl (SlF.r h1) rfl rfl (by omega)) ?_)))))))
   refine RG.pv rfl (PV.field rfl Fo65_1 rfl) (RG.pv rfl (PV.field rfl Fo63_0 rfl) (RG.pv rfl (PV.loadF rfl Sc2 rfl rfl (El.r h1 (getG (by omega))) rfl) (RG.pv rfl (PV.eql rfl rfl rfl) (RG.nil ?_))))
   refine WP.cond rfl (fun h4 => ?_) (fun h4 => ?_)
   · have h4 := of_decide_eq_true h4
     refine WP.region (RG.pv rfl (PV.move (v := q) rfl rfl) (RG.pv rfl (PV.move (v := v) rfl rfl) (RG.ml rfl rfl rfl (RG.pv rfl (PV.idxS (v := v) rfl Is53 rfl (SlF.r h1) rfl rfl (by omega)) (RG.pv rfl (PV.field rfl Fo65_1 rfl) (RG.pv rfl (PV.field rfl Fo63_1 rfl) (RG.pv rfl (PV.loadF (F := ppieceT) (v := v) (i := i) (j := 2) rfl Sc50 rfl rfl (El.r h1 (getG (by omega))) rfl) ?_)))))))
     refine RG.callF (vs := [_]) rfl rfl En62 rfl (l03Bits_s (RsE.regQ hd h5).up (fun j hj => by have := isReg_valid (hreg i h5); simp only [validRs, Bool.and_eq_true, List.all_eq_true] at this; exact this.2 _ (gd_mem hj)) (fun v30 => ?_))
     refine RG.pv rfl (PV.move (v := u) rfl rfl) ?_
     refine RG.callF (vs := [v30, u]) rfl rfl En112 rfl (l24Meet_s Rs.o (Rs.up h2) (bits_length _) hP (fun v32 => ?_))
     refine RG.callF (vs := [q, v32]) rfl rfl En111 rfl (l19Or_s (Rs.o (v := q)) Rs.o hl (zipB_len2 (bits_length _) hP) (fun v33 => ?_))
     refine RG.pv rfl (PV.asg (v := v33) rfl rfl) (RG.nil (WP.region (RG.ml rfl rfl rfl (RG.pv rfl (PV.add rfl rfl rfl (by omega)) (RG.mr rfl rfl rfl (RG.nil ?_))))))
     refine ⟨rfl, i + 1, (zipB (fun p q => p || q) O (zipB (fun p q => p && q) (bits (gd qs i).piece.reg.xs) P)), v33, ⟨by omega, zipB_len2 hl (zipB_len2 (bits_length _) hP), fun y x h6 h7 => ?_⟩, ⟨rfl, rfl, trivial⟩, ⟨rfl, rfl, trivial⟩, Cv.p, by omega⟩
     rw [gb_zip2 hl (zipB_len2 (bits_length _) hP) h6 h7, gb_zip2 (bits_length _) hP h6 h7, hc y x h6 h7, diff_take h5, decide_eq_true h4]
     cases diffAny ((erQs qs).take i) y x <;> cases gb P y x <;> simp
   · have h4 := of_decide_eq_false h4
     refine WP.skip (WP.region (RG.ml rfl rfl rfl (RG.pv rfl (PV.add rfl rfl rfl (by omega)) (RG.mr rfl rfl rfl (RG.nil ?_)))))
     refine ⟨rfl, i + 1, O, q, ⟨by omega, hl, fun y x h6 h7 => ?_⟩, ⟨rfl, rfl, trivial⟩, ⟨rfl, rfl, trivial⟩, Cv.p, by omega⟩
     rw [hc y x h6 h7, diff_take h5, decide_eq_false h4]
     simp
 · have h3 := of_decide_eq_false h3
   refine WP.exit ?_
   refine WP.seq (WP.region (RG.pv rfl (PV.move (v := q) rfl rfl) (RG.pv rfl (PV.asg (v := q) rfl rfl) (RG.nil ?_))))
   refine WP.ret ?_
   exact ⟨_, _, ResV.one rfl rfl, Cv.p, k q O hl (fun y x h6 h7 => by rw [hc y x h6 h7, List.take_of_length_le (by rw [erQs_len]; omega)])⟩
def crB (E : List (Int × (Int × List Rect))) (P : List Bool) : List Bool := (List.range 6400).map fun j => diffAny E (j / 80) (j % 80) && gb P (j / 80) (j % 80)
theorem crB_len (E : List (Int × (Int × List Rect))) (P : List Bool) : (crB E P).length = 6400 := by simp [crB]
theorem crB_eq {E : List (Int × (Int × List Rect))} {P O : List Bool} (hO : O.length = 6400) (h : ∀ y x, y < 80 → x < 80 → gb O y x = (diffAny E y x && gb P y x)) : O = crB E P := by
 apply List.ext_getElem?
 intro j
 by_cases hj : j < 6400
 · have hy : j / 80 < 80 := by omega
   have hx : j % 80 < 80 := by omega
   have h1 := h (j / 80) (j % 80) hy hx
   have e : j / 80 * 80 + j % 80 = j := by omega
   rw [getG (by omega), crB, getG (by simpa using hj), gd_map _ (by simpa using hj), range_gd hj, ← h1]
   unfold gb; rw [e]
 · rw [List.getElem?_eq_none (by omega), List.getElem?_eq_none (by rw [crB_len]; omega)]
noncomputable def crL (cs : List ECell) (cell : Int) : List Rect := bif decide (shE cs cell = 0) then canon (crB (ppAll cs cell) (bits (gd (flyL cs cell) 1))) else []
theorem fly_reg {cs : List ECell} {cell : Int} (h : shE cs cell = 0) : (flyL cs cell).length = 8 ∧ isReg (gd (flyL cs cell) 1) = true := by
 have e : flyL cs cell = layL (shR cs cell) := by rw [flyL, decide_eq_true h]; rfl
 rw [e, layL_len, layL_gd (by omega)]
 exact ⟨rfl, isReg_canon (bits_length _)⟩
theorem placed_reg {cs : List ECell} {os : List EOcc} {n : Nat} {qs : List PPiece} (h : erQs qs = plTo cs os n) {i : Nat} (hi : i < qs.length) : isReg (gd qs i).piece.reg.xs = true := by
 have hm : erQ (gd qs i) ∈ plTo cs os n := by rw [← h, erQs]; exact List.mem_map.2 ⟨_, gd_mem hi, rfl⟩
 rw [plTo] at hm
 obtain ⟨j, -, hm⟩ := List.mem_flatMap.1 hm
 obtain ⟨p, -, hp⟩ := List.mem_map.1 hm
 have e : (gd qs i).piece.reg.xs = canon (bits (p.2.map (moveR (gd os j).place))) := by
   have := congrArg (fun q => q.2.2) hp
   exact this.symm
 rw [e]; exact isReg_canon (bits_length _)
end Go.Proofs.YthhjapiggekjbaaGreat
namespace Go.Proofs.YthhjapiggekjbaaGreat
set_option linter.unusedVariables false
set_option linter.unusedSimpArgs false
open Go
set_option maxRecDepth 20000
set_option maxHeartbeats 1000000
set_option linter.unusedSimpArgs false
variable {G : Gh} {L : List Ch} {R : Value → Gh → List Ch → Prop}
def othTo (ps : List Plc) (i k : Nat) (y x : Nat) : Bool := (List.range k).any fun j => decide (j ≠ i) && gb (bits (gd ps j).poly.xs) y x
def pcCr (ps : List Plc) (i : Nat) (p : Piece) (k : Nat) (y x : Nat) : Bool := decide (p.layer = 0) && (gb (bits p.reg.xs) y x && othTo ps i k y x)
def atTo (ps : List Plc) (i m : Nat) (y x : Nat) : Bool := ((gd ps i).pieces.xs.take m).any fun p => pcCr ps i p ps.length y x
def crTo (ps : List Plc) (i : Nat) (y x : Nat) : Bool := (List.range i).any fun j => atTo ps j (gd ps j).pieces.xs.length y x
theorem crTo_succ (ps : List Plc) (i y x : Nat) : crTo ps (i + 1) y x = (crTo ps i y x || atTo ps i (gd ps i).pieces.xs.length y x) := by simp [crTo, List.range_succ]
theorem othTo_succ (ps : List Plc) (i k y x : Nat) : othTo ps i (k + 1) y x = (othTo ps i k y x || (decide (k ≠ i) && gb (bits (gd ps k).poly.xs) y x)) := by simp [othTo, List.range_succ]
theorem atTo_succ {ps : List Plc} {i m : Nat} (h : m < (gd ps i).pieces.xs.length) (y x : Nat) : atTo ps i (m + 1) y x = (atTo ps i m y x || pcCr ps i (gd (gd ps i).pieces.xs m) ps.length y x) := by
 simp only [atTo, List.take_add_one, getG h, List.any_append]; simp
def anyF (zs : List (Sl Rect)) (y x : Nat) : Bool := (er zs).flatten.any fun r => inR r y x
theorem anyF_new {zs : List (Sl Rect)} {u : Value} {az bs : List Rect} (ha : isReg az = true) (hb : isReg bs = true) {y x : Nat} (hy : y < 80) (hx : x < 80) : anyF (zs ++ [⟨u, opR (fun p q => p && q) az bs⟩]) y x = (anyF zs y x || (gb (bits az) y x && gb (bits bs) y x)) := by
 have e : opR (fun p q => p && q) az bs = canon (zipB (fun p q => p && q) (bits az) (bits bs)) := by rw [opR, ha, hb]; rfl
 have e2 : (er (zs ++ [(⟨u, opR (fun p q => p && q) az bs⟩ : Sl Rect)])).flatten = (er zs).flatten ++ opR (fun p q => p && q) az bs := by simp [er]
 rw [anyF, e2, List.any_append, e, canon_any hy hx, gb_zip2 (bits_length _) (bits_length _) hy hx]; rfl
theorem cross_i {v : Value} {ps : List Plc} (h1 : Rs G L plcT v ps) (hp : RsE G L pieceT (pcsL ps)) (hq : RsE G L rectT (plsL ps)) (hr : RsE G L rectT (rgsL ps)) (hl : ps.length ≤ 200) (hl2 : ∀ i, i < ps.length → (gd ps i).pieces.xs.length ≤ 25600) (hg1 : ∀ i, i < ps.length → isReg (gd ps i).poly.xs = true) (hg2 : ∀ i, i < ps.length → ∀ m, m < (gd ps i).pieces.xs.length → isReg (gd (gd ps i).pieces.xs m).reg.xs = true)
   (k : ∀ v' zs, (∀ y x, y < 80 → x < 80 → anyF zs y x = crTo ps ps.length y x) → R v' G (osl 140 rectT v' (canon (bits (er zs).flatten)) :: L)) : CallT Tryz.prog 48 #[v] G L R := by
 refine CallT.bd h1 fun hbz => ?_
 refine CallT.enter (args := _) Tryz.func48 rfl rfl (by kernel_rfl) rfl ?_
 refine WP.seq (WP.region (RG.pv rfl (PV.asg rfl rfl) (RG.nil (WP.seq (WP.region ?_)))))
 refine RG.ot rfl (OT.bslice (F := (slT (α := Rect))) (els := []) rfl El47 rfl (by decide) rfl (by decide) trivial fun v10 => ?_)
 refine RG.pv rfl (PV.asg (v := v10) rfl rfl) (RG.nil (WP.seq (WP.seq (WP.region (RG.pv rfl (PV.move (v := v) rfl rfl) (RG.pv rfl (PV.len (v := v) rfl Tryz.underlying87 rfl (SlF.r h1)) (RG.ml rfl rfl rfl ?_)))))))
 refine RG.nil (WP.block ?_)
 refine WP.cv (Cv.cons (Cv.bag0 (e := 140) (F := rectT) (xs := []) rfl)) ?_
 refine WP.loop3 [0, 11, 12] (fun (i : Nat) (zs : List (Sl Rect)) (q : Value) => i ≤ ps.length ∧ (∀ y x, y < 80 → x < 80 → anyF zs y x = crTo ps i y x) ∧ (zs.length : Int) ≤ 5120000 * (i : Int)) (fun (i : Nat) (zs : List (Sl Rect)) (q : Value) => [(13, vi i), (3, q)]) (fun (i : Nat) (zs : List (Sl Rect)) (q : Value) => osl 50 slT q zs :: bagS 140 rectT zs :: L) (fun (i : Nat) (zs : List (Sl Rect)) (q : Value) => ps.length - i) 0 [] v10 ⟨by omega, fun y x _ _ => by simp [anyF, er, crTo], by simp⟩ ⟨rfl, rfl, trivial⟩ Cv.p ?_
 rintro i zs q τ ⟨hi, hz, hzl⟩
 refine WP.seq (WP.region (RG.pv rfl (PV.lss rfl rfl rfl) (RG.nil (WP.seq ?_))))
 refine WP.cond rfl (fun h2 => ?_) (fun h2 => ?_)
 · have h2 := of_decide_eq_true h2
   have h3 : i < ps.length := by omega
   have hpp : Rs G L pieceT (gd ps i).pieces.v (gd ps i).pieces.xs := hp.mem (List.mem_map.2 ⟨gd ps i, gd_mem h3, rfl⟩)
   have hqq : Rs G L rectT (gd ps i).poly.v (gd ps i).poly.xs := hq.mem (List.mem_map.2 ⟨gd ps i, gd_mem h3, rfl⟩)
   have hpl := hl2 i h3
   refine WP.skip (WP.seq (WP.block (WP.seq (WP.region (RG.ml rfl rfl rfl (RG.pv rfl (PV.idxS (v := v) rfl Is87 rfl (SlF.r h1) rfl rfl (by omega)) (RG.pv rfl (PV.loadE rfl Ag152 rfl rfl (El.r h1 (getG (by omega)))) ?_)))))))
   refine RG.ot rfl (OT.alloc rfl Zr152 fun b5 => ?_)
   refine RG.mr rfl rfl rfl ?_
   refine RG.ot rfl (OT.storeW (vs := [_, _]) rfl Sz152 rfl rfl (Cl.c rfl) rfl rfl (OneC.sl (SlF.r hpp) (OneC.sl (SlF.r hqq) OneC.nil)) ?_)
   refine RG.nil (WP.seq (WP.region (RG.pv rfl (PV.field rfl Fo152_0 rfl) (RG.pv rfl (PV.load1 rfl Sc78 rfl (Rd.blk rfl)) (RG.pv rfl (PV.len rfl Tryz.underlying78 rfl (SlF.r hpp)) (RG.ml rfl rfl rfl (RG.nil ?_)))))))
   refine WP.block ?_
   refine WP.loop3 [0, 4, 11, 12, 13, 19, 20] (fun (m : Nat) (zs : List (Sl Rect)) (w : Value) => m ≤ (gd ps i).pieces.xs.length ∧ (∀ y x, y < 80 → x < 80 → anyF zs y x = (crTo ps i y x || atTo ps i m y x)) ∧ (zs.length : Int) ≤ 5120000 * (i : Int) + 200 * (m : Int)) (fun (m : Nat) (zs : List (Sl Rect)) (w : Value) => [(21, vi m), (3, w)]) (fun (m : Nat) (zs : List (Sl Rect)) (w : Value) => osl 50 slT w zs :: bagS 140 rectT zs :: blk b5 152 (plcT.enc (gd ps i)) :: L) (fun (m : Nat) (zs : List (Sl Rect)) (w : Value) => (gd ps i).pieces.xs.length - m) 0 zs q ⟨by omega, fun y x a b => by rw [hz y x a b]; simp [atTo], by omega⟩ ⟨rfl, rfl, trivial⟩ Cv.p ?_
   rintro m zs w τ1 ⟨hm, hz, hzm⟩
   refine WP.seq (WP.region (RG.pv rfl (PV.lss rfl rfl rfl) (RG.nil (WP.seq ?_))))
   refine WP.cond rfl (fun h4 => ?_) (fun h4 => ?_)
   · have h4 := of_decide_eq_true h4
     have h5 : m < (gd ps i).pieces.xs.length := by omega
     have hrr : Rs G L rectT (gd (gd ps i).pieces.xs m).reg.v (gd (gd ps i).pieces.xs m).reg.xs := hr.mem (List.mem_flatMap.2 ⟨gd ps i, gd_mem h3, List.mem_map.2 ⟨_, gd_mem h5, rfl⟩⟩)
     have hat := fun y x => atTo_succ h5 y x
     refine WP.skip (WP.seq (WP.block (WP.seq (WP.region (RG.pv rfl (PV.idxS rfl Is78 rfl (SlF.r hpp) rfl rfl (by omega)) (RG.pv rfl (PV.loadE rfl Ag63 rfl rfl (El.r hpp (getG (by omega)))) ?_))))))
     refine RG.ot rfl (OT.alloc rfl Zr63 fun b7 => ?_)
     refine RG.ot rfl (OT.storeW (vs := [vi _, _]) rfl Sz63 rfl rfl (Cl.c rfl) rfl rfl (OneC.val rfl (OneC.sl (SlF.r hrr) OneC.nil)) ?_)
     refine RG.nil (WP.seq (WP.seq (WP.region (RG.pv rfl (PV.field rfl Fo63_0 rfl) (RG.pv rfl (PV.load1 rfl Sc2 rfl (Rd.blk rfl)) (RG.pv rfl (PV.neq rfl rfl rfl) (RG.nil ?_)))))))
     refine WP.cond rfl (fun h6 => ?_) (fun h6 => ?_)
     · have h6 : (gd (gd ps i).pieces.xs m).layer ≠ 0 := by simpa using h6
       refine WP.exit ?_
       refine WP.region (RG.pv rfl (PV.add rfl rfl rfl (by omega)) (RG.ml rfl rfl rfl (RG.nil ?_)))
       exact ⟨rfl, m + 1, zs, w, ⟨by omega, fun y x a b => by rw [hz y x a b, hat, pcCr, decide_eq_false h6]; simp, by omega⟩, ⟨rfl, rfl, trivial⟩, ⟨rfl, rfl, rfl, rfl, rfl, rfl, rfl, trivial⟩, Cv.p, by omega⟩
     · have h6 : (gd (gd ps i).pieces.xs m).layer = 0 := by simpa using h6
       refine WP.skip (WP.seq (WP.region (RG.pv rfl (PV.move (v := v) rfl rfl) (RG.pv rfl (PV.len (v := v) rfl Tryz.underlying87 rfl (SlF.r h1)) (RG.ml rfl rfl rfl (RG.nil (WP.block ?_)))))))
       refine WP.loop3 [0, 4, 7, 11, 12, 13, 19, 20, 21, 28, 29] (fun (c : Nat) (zs : List (Sl Rect)) (u : Value) => c ≤ ps.length ∧ (∀ y x, y < 80 → x < 80 → anyF zs y x = (crTo ps i y x || atTo ps i m y x || pcCr ps i (gd (gd ps i).pieces.xs m) c y x)) ∧ (zs.length : Int) ≤ 5120000 * (i : Int) + 200 * (m : Int) + c) (fun (c : Nat) (zs : List (Sl Rect)) (u : Value) => [(30, vi c), (3, u)]) (fun (c : Nat) (zs : List (Sl Rect)) (u : Value) => osl 50 slT u zs :: bagS 140 rectT zs :: blk b7 63 (pieceT.enc (gd (gd ps i).pieces.xs m)) :: blk b5 152 (plcT.enc (gd ps i)) :: L) (fun (c : Nat) (zs : List (Sl Rect)) (u : Value) => ps.length - c) 0 zs w ⟨by omega, fun y x a b => by rw [hz y x a b]; simp [pcCr, othTo], by omega⟩ ⟨rfl, rfl, trivial⟩ Cv.p ?_
       rintro c zs u τ2 ⟨hc, hz, hzc⟩
       refine WP.seq (WP.region (RG.pv rfl (PV.lss rfl rfl rfl) (RG.nil (WP.seq ?_))))
       refine WP.cond rfl (fun h7 => ?_) (fun h7 => ?_)
       · have h7 := of_decide_eq_true h7
         have h8 : c < ps.length := by omega
         have hpk : Rs G L pieceT (gd ps c).pieces.v (gd ps c).pieces.xs := hp.mem (List.mem_map.2 ⟨gd ps c, gd_mem h8, rfl⟩)
         have hqk : Rs G L rectT (gd ps c).poly.v (gd ps c).poly.xs := hq.mem (List.mem_map.2 ⟨gd ps c, gd_mem h8, rfl⟩)
         refine WP.skip (WP.seq (WP.block (WP.seq (WP.region (RG.ml rfl rfl rfl (RG.pv rfl (PV.idxS (v := v) rfl Is87 rfl (SlF.r h1) rfl rfl (by omega)) (RG.pv rfl (PV.loadE rfl Ag152 rfl rfl (El.r h1 (getG (by omega)))) ?_)))))))
         refine RG.ot rfl (OT.alloc rfl Zr152 fun b9 => ?_)
         refine RG.mr rfl rfl rfl ?_
         refine RG.ot rfl (OT.storeW (vs := [_, _]) rfl Sz152 rfl rfl (Cl.c rfl) rfl rfl (OneC.sl (SlF.r hpk) (OneC.sl (SlF.r hqk) OneC.nil)) ?_)
         refine RG.nil (WP.seq (WP.region (RG.ml rfl rfl rfl (RG.ml rfl rfl rfl (RG.pv rfl (PV.neq rfl rfl rfl) (RG.nil ?_))))))
         refine WP.cond rfl (fun h9 => ?_) (fun h9 => ?_)
         · have h9 : c ≠ i := by simp at h9; omega
           refine WP.region (RG.pv rfl (PV.move (v := u) rfl rfl) (RG.pv rfl (PV.field rfl Fo63_1 rfl) (RG.pv rfl (PV.load1 rfl Sc50 rfl (Rd.blk rfl)) (RG.pv rfl (PV.field rfl Fo152_1 rfl) (RG.pv rfl (PV.load1 rfl Sc50 rfl (Rd.blk rfl)) ?_)))))
           refine RG.callF (vs := [_, _]) rfl rfl En88 rfl (inter_s hrr.up hqk.up (fun v43 => ?_))
           refine RG.ot rfl (OT.bslice (F := (slT (α := Rect))) (els := [⟨v43, opR (fun p q => p && q) (gd (gd ps i).pieces.xs m).reg.xs (gd ps c).poly.xs⟩]) rfl El47 rfl (by decide) rfl (by decide) ⟨rfl, (Cl.s (v := v43) SlF.o), trivial⟩ fun v44 => ?_)
           refine RG.ot rfl (OT.append (v := u) (u := v44) (F := (slT (α := Rect))) rfl El47 rfl (by decide) rfl rfl Rs.o (OneL.one (OneC.sl (SlF.o (v := v43)) OneC.nil)) rfl (by first | omega | (simp <;> omega)) fun v45 => ?_)
           refine RG.pv rfl (PV.asg (v := v45) rfl rfl) (RG.nil (WP.region (RG.pv rfl (PV.add rfl rfl rfl (by omega)) (RG.ml rfl rfl rfl (RG.nil ?_)))))
           refine ⟨rfl, c + 1, (zs ++ [⟨v43, opR (fun p q => p && q) (gd (gd ps i).pieces.xs m).reg.xs (gd ps c).poly.xs⟩]), v45, ⟨by omega, fun y x a b => ?_, by rw [List.length_append]; simp; omega⟩, ⟨rfl, rfl, trivial⟩, ⟨rfl, rfl, rfl, rfl, rfl, rfl, rfl, rfl, rfl, rfl, rfl, trivial⟩, ((Cv.p (C := osl 140 rectT v43 (opR (fun p q => p && q) (gd (gd ps i).pieces.xs m).reg.xs (gd ps c).poly.xs) :: osl 50 slT v45 (zs ++ [⟨v43, opR (fun p q => p && q) (gd (gd ps i).pieces.xs m).reg.xs (gd ps c).poly.xs⟩]) :: bagS 140 rectT zs :: blk b7 63 (pieceT.enc (gd (gd ps i).pieces.xs m)) :: blk b5 152 (plcT.enc (gd ps i)) :: L)).trans Cv.slotNew), by omega⟩
           rw [anyF_new (hg2 i h3 m h5) (hg1 c h8) a b, hz y x a b, pcCr, pcCr, othTo_succ, decide_eq_true h9, decide_eq_true h6]
           cases gb (bits (gd (gd ps i).pieces.xs m).reg.xs) y x <;> cases gb (bits (gd ps c).poly.xs) y x <;> simp
         · have h9 : c = i := by simp at h9; omega
           refine WP.skip (WP.region (RG.pv rfl (PV.add rfl rfl rfl (by omega)) (RG.ml rfl rfl rfl (RG.nil ?_))))
           refine ⟨rfl, c + 1, zs, u, ⟨by omega, fun y x a b => ?_, by omega⟩, ⟨rfl, rfl, trivial⟩, ⟨rfl, rfl, rfl, rfl, rfl, rfl, rfl, rfl, rfl, rfl, rfl, trivial⟩, Cv.p, by omega⟩
           rw [hz y x a b, pcCr, pcCr, othTo_succ, h9]
           simp
       · have h7 := of_decide_eq_false h7
         obtain rfl : c = ps.length := by omega
         refine WP.exit ?_
         refine WP.region (RG.pv rfl (PV.add rfl rfl rfl (by omega)) (RG.ml rfl rfl rfl (RG.nil ?_)))
         exact ⟨rfl, m + 1, zs, u, ⟨by omega, fun y x a b => by rw [hz y x a b, hat, Bool.or_assoc], by omega⟩, ⟨rfl, rfl, trivial⟩, ⟨rfl, rfl, rfl, rfl, rfl, rfl, rfl, trivial⟩, Cv.p, by omega⟩
   · have h4 := of_decide_eq_false h4
     obtain rfl : m = (gd ps i).pieces.xs.length := by omega
     refine WP.exit ?_
     refine WP.region (RG.pv rfl (PV.add rfl rfl rfl (by omega)) (RG.ml rfl rfl rfl (RG.nil ?_)))
     exact ⟨rfl, i + 1, zs, w, ⟨by omega, fun y x a b => by rw [hz y x a b, crTo_succ], by omega⟩, ⟨rfl, rfl, trivial⟩, ⟨rfl, rfl, rfl, trivial⟩, Cv.p, by omega⟩
 · have h2 := of_decide_eq_false h2
   obtain rfl : i = ps.length := by omega
   refine WP.exit ?_
   refine WP.seq (WP.region (RG.pv rfl (PV.move (v := q) rfl rfl) ?_))
   refine RG.callF (vs := [q]) rfl rfl En74 rfl (unionAll_s Rs.o RsE.o (fun v50 => ?_))
   refine RG.pv rfl (PV.asg (v := v50) rfl rfl) (RG.nil ?_)
   refine WP.ret ?_
   exact ⟨_, _, ResV.one rfl rfl, Cv.p, k v50 zs hz⟩
end Go.Proofs.YthhjapiggekjbaaGreat
namespace Go.Proofs.YthhjapiggekjbaaGreat
set_option linter.unusedVariables false
set_option linter.unusedSimpArgs false
open Go
set_option maxRecDepth 20000
set_option maxHeartbeats 1000000
set_option linter.unusedSimpArgs false
variable {G : Gh} {L : List Ch} {R : Value → Gh → List Ch → Prop}
theorem gb_crB {E : List (Int × (Int × List Rect))} {P : List Bool} {y x : Nat} (hy : y < 80) (hx : x < 80) : gb (crB E P) y x = (diffAny E y x && gb P y x) := by
 have hj : y * 80 + x < 6400 := by omega
 unfold crB gb
 rw [gd_map _ (by simpa using hj), range_gd hj, show (y * 80 + x) / 80 = y by omega, show (y * 80 + x) % 80 = x by omega]
theorem pc_mem2 {l : List (List Rect)} {p : Int × List Rect} (h : p ∈ pcE l) : ∃ i c, i < 4 ∧ c ∈ comps (gd (condB l) i) ∧ p.2 = canon c ∧ p.1 = gd [0, 1, 3, 5] i := by
 rw [pcE] at h
 cases hl : isLay l with
 | false => rw [hl] at h; simp at h
 | true =>
   rw [hl, cond_true] at h
   obtain ⟨q, hq, rfl⟩ := List.mem_map.1 h
   rw [pcL] at hq
   obtain ⟨z, hz, hq⟩ := List.mem_flatten.1 hq
   obtain ⟨i, hi, rfl⟩ := List.mem_map.1 hz
   obtain ⟨c, hc, rfl⟩ := List.mem_map.1 hq
   exact ⟨i, c, by simpa using hi, hc, rfl, rfl⟩
/-- a piece of diffusion has no cell of the poly -/
theorem pc_apart {ss : List Shape} {p : Int × List Rect} (h : p ∈ pcE (layL ss)) (h0 : p.1 = 0) {y x : Nat} (hy : y < 80) (hx : x < 80) (hg : gb (bits p.2) y x = true) : gb (bits (gd (layL ss) 1)) y x = false := by
 obtain ⟨i, c, hi, hc, e, e1⟩ := pc_mem2 h
 obtain ⟨g0, g1, g2, g3⟩ := gd4 (0 : Int) 1 3 5
 have hi0 : i = 0 := by
   have hh : i = 0 ∨ i = 1 ∨ i = 2 ∨ i = 3 := by omega
   rcases hh with rfl | rfl | rfl | rfl
   · rfl
   · rw [h0, g1] at e1; cases e1
   · rw [h0, g2] at e1; cases e1
   · rw [h0, g3] at e1; cases e1
 subst hi0
 rw [e, bits_canon (comps_mem hc)] at hg
 have hs := comp_sub hc hy hx hg
 obtain ⟨e0, -, -, -⟩ := gd4 (zipB (fun p q => p && !q) (bits (gd (layL ss) 0)) (bits (gd (layL ss) 1))) (bits (gd (layL ss) 1)) (bits (gd (layL ss) 3)) (bits (gd (layL ss) 5))
 rw [condB, e0, gb_zip2 (bits_length _) (bits_length _) hy hx] at hs
 simp only [Bool.and_eq_true, Bool.not_eq_true'] at hs
 exact hs.2
theorem lay_reg {ss : List Shape} {l : Nat} (h : l < 8) : isReg (gd (layL ss) l) = true := by rw [layL_gd h]; exact isReg_canon (bits_length _)
/-- .. nor has it, moved, a cell of the moved poly -/
theorem pc_apart_mv {ss : List Shape} {t : Trans} (ho : 0 ≤ t.o ∧ t.o ≤ 7) {p : Int × List Rect} (h : p ∈ pcE (layL ss)) (h0 : p.1 = 0) {y x : Nat} (hy : y < 80) (hx : x < 80) (hg : gb (bits (mvP t p).2) y x = true) : gb (bits (canon (bits ((gd (layL ss) 1).map (moveR t))))) y x = false := by
 rw [bits_canon (bits_length _)]
 rw [mvP, bits_canon (bits_length _)] at hg
 exact mv_disj ho (reg_valid (pc_reg h)) (reg_valid (lay_reg (by omega))) (fun y x hy hx hg => pc_apart h h0 hy hx hg) hy hx hg
theorem occ_facts {cs : List ECell} {cell : Int} {j : Nat} (hj : j < (occR cs cell).length) : (0 ≤ (gd (occR cs cell) j).place.o ∧ (gd (occR cs cell) j).place.o ≤ 7) ∧ ∀ b ∈ boxesOf (gd cs (gd (occR cs cell) j).cell.toNat).shapes 1, validRect b = true := by
 obtain ⟨h1, h2, h3, -⟩ := occR_cell hj
 refine ⟨(validT_iff.1 h3).1, fun b hb => ?_⟩
 obtain ⟨m, hm, rfl⟩ := boxesOf_sub hb
 have := okLib_shape h1 (i := (gd (occR cs cell) j).cell.toNat) (j := m) (by omega) hm
 simp only [okSh, Bool.and_eq_true] at this
 exact this.2
theorem poly_gb {cs : List ECell} {cell : Int} {j : Nat} (hj : j < (occR cs cell).length) : bits (plPoly cs (occR cs cell) j) = bits ((boxesOf (gd cs (gd (occR cs cell) j).cell.toNat).shapes 1).map (moveR (gd (occR cs cell) j).place)) := by
 obtain ⟨ho, hb⟩ := occ_facts hj
 rw [plPoly, bits_canon (bits_length _)]
 exact mv_congr ho (reg_valid (lay_reg (by omega))) hb (lay_bits (by omega))
theorem flat_poly {cs : List ECell} {cell : Int} (h0 : shE cs cell = 0) {y x : Nat} (hy : y < 80) (hx : x < 80) : gb (bits (gd (flyL cs cell) 1)) y x = (List.range (occR cs cell).length).any fun j => gb (bits (plPoly cs (occR cs cell) j)) y x := by
 have e : flyL cs cell = layL (flatL cs (occR cs cell)) := by rw [flyL, decide_eq_true h0, shR_ok h0]; rfl
 rw [e, lay_bits (by omega), Bool.eq_iff_iff, gb_bits_iff hy hx, List.any_eq_true]
 constructor
 · rintro ⟨r, hr, hi⟩
   rw [boxesOf] at hr
   obtain ⟨s, hs, rfl⟩ := List.mem_map.1 hr
   obtain ⟨hs1, hs2⟩ := List.mem_filter.1 hs
   obtain ⟨o, ho, hs1⟩ := List.mem_flatMap.1 hs1
   obtain ⟨j, hj, rfl⟩ := List.getElem_of_mem ho
   obtain ⟨q, hq, rfl⟩ := List.mem_map.1 hs1
   refine ⟨j, List.mem_range.2 hj, ?_⟩
   rw [poly_gb hj, gb_bits_iff hy hx]
   refine ⟨moveR (gd (occR cs cell) j).place q.box, List.mem_map.2 ⟨q.box, ?_, rfl⟩, ?_⟩
   · rw [boxesOf]
     exact List.mem_map.2 ⟨q, List.mem_filter.2 ⟨by rw [gd_eq hj]; exact hq, hs2⟩, rfl⟩
   · rw [gd_eq hj]; exact hi
 · rintro ⟨j, hj, hg⟩
   have hj := List.mem_range.1 hj
   rw [poly_gb hj, gb_bits_iff hy hx] at hg
   obtain ⟨r, hr, hi⟩ := hg
   obtain ⟨b, hb, rfl⟩ := List.mem_map.1 hr
   rw [boxesOf] at hb
   obtain ⟨q, hq, rfl⟩ := List.mem_map.1 hb
   obtain ⟨hq1, hq2⟩ := List.mem_filter.1 hq
   refine ⟨_, ?_, hi⟩
   rw [boxesOf]
   refine List.mem_map.2 ⟨⟨q.layer, moveR (gd (occR cs cell) j).place q.box⟩, List.mem_filter.2 ⟨List.mem_flatMap.2 ⟨gd (occR cs cell) j, gd_mem hj, List.mem_map.2 ⟨q, hq1, rfl⟩⟩, hq2⟩, rfl⟩
theorem ownP_mem {cs : List ECell} {c : Int} {q : Int × List Rect} (h : q ∈ ownP cs c) : q ∈ pcE (layL (gd cs c.toNat).shapes) := by
 rw [ownP] at h
 cases hh : hasCl cs c with
 | false => rw [hh] at h; cases h
 | true => rw [hh] at h; exact h
theorem erL_at {cs : List ECell} {os : List EOcc} {n : Nat} {ps : List Plc} (h : erL ps = plcTo cs os n) : ps.length = n ∧ ∀ i, i < n → erPs (gd ps i).pieces.xs = plPc cs os i ∧ (gd ps i).poly.xs = plPoly cs os i := by
 have hl : ps.length = n := by have := congrArg List.length h; simpa [erL, plcTo] using this
 refine ⟨hl, fun i hi => ?_⟩
 have h1 : gd (erL ps) i = (plPc cs os i, plPoly cs os i) := by rw [h, plcTo, gd_map _ (by rw [List.length_range]; omega), range_gd (by omega)]
 rw [erL, gd_map _ (by omega)] at h1
 exact ⟨congrArg Prod.fst h1, congrArg Prod.snd h1⟩
theorem cross_eq {cs : List ECell} {cell : Int} {ps : List Plc} (h0 : shE cs cell = 0) (he : erL ps = plcTo cs (occR cs cell) (occR cs cell).length) {y x : Nat} (hy : y < 80) (hx : x < 80) : crTo ps ps.length y x = (diffAny (ppAll cs cell) y x && gb (bits (gd (flyL cs cell) 1)) y x) := by
 obtain ⟨hl, hat⟩ := erL_at he
 rw [flat_poly h0 hy hx, Bool.eq_iff_iff, Bool.and_eq_true, crTo, diffAny, List.any_eq_true, List.any_eq_true, List.any_eq_true]
 constructor
 · rintro ⟨i, hi, h⟩
   have hi := List.mem_range.1 hi
   obtain ⟨e1, -⟩ := hat i (by omega)
   rw [atTo, List.take_length, List.any_eq_true] at h
   obtain ⟨p, hp, h⟩ := h
   simp only [pcCr, Bool.and_eq_true, othTo, List.any_eq_true] at h
   obtain ⟨ha, hb, j, hj, hc, hd⟩ := h
   have hj := List.mem_range.1 hj
   obtain ⟨-, e2⟩ := hat j (by omega)
   have hm : erP p ∈ plPc cs (occR cs cell) i := by rw [← e1, erPs]; exact List.mem_map.2 ⟨p, hp, rfl⟩
   rw [plPc] at hm
   obtain ⟨q, hq, hqe⟩ := List.mem_map.1 hm
   refine ⟨⟨((i : Int), erP p), ?_, ?_⟩, j, List.mem_range.2 (by omega), by rw [← e2]; exact hd⟩
   · rw [ppAll, plTo]
     exact List.mem_flatMap.2 ⟨i, List.mem_range.2 (by omega), List.mem_map.2 ⟨q, hq, by rw [hqe]⟩⟩
   · simp only [erP, Bool.and_eq_true]; exact ⟨ha, hb⟩
 · rintro ⟨⟨e, hm, h⟩, j, hj, hd⟩
   have hj := List.mem_range.1 hj
   rw [ppAll, plTo] at hm
   obtain ⟨i, hi, hm⟩ := List.mem_flatMap.1 hm
   have hi := List.mem_range.1 hi
   obtain ⟨q, hq, rfl⟩ := List.mem_map.1 hm
   simp only [Bool.and_eq_true, decide_eq_true_eq] at h
   obtain ⟨e1, -⟩ := hat i hi
   obtain ⟨-, e2⟩ := hat j hj
   have hpe : mvP (gd (occR cs cell) i).place q ∈ erPs (gd ps i).pieces.xs := by rw [e1, plPc]; exact List.mem_map.2 ⟨q, hq, rfl⟩
   rw [erPs] at hpe
   obtain ⟨p, hp, hpq⟩ := List.mem_map.1 hpe
   have hne : j ≠ i := fun hji => by
     subst hji
     obtain ⟨ho, -⟩ := occ_facts hj
     have := pc_apart_mv ho (ownP_mem hq) h.1 hy hx h.2
     rw [plPoly] at hd
     rw [this] at hd; cases hd
   refine ⟨i, List.mem_range.2 (by omega), ?_⟩
   rw [atTo, List.take_length, List.any_eq_true]
   refine ⟨p, hp, ?_⟩
   have hp1 : p.layer = (mvP (gd (occR cs cell) i).place q).1 := congrArg Prod.fst hpq
   have hp2 : p.reg.xs = (mvP (gd (occR cs cell) i).place q).2 := congrArg Prod.snd hpq
   simp only [pcCr, Bool.and_eq_true, othTo, List.any_eq_true, decide_eq_true_eq]
   exact ⟨by rw [hp1]; exact h.1, by rw [hp2]; exact h.2, j, List.mem_range.2 (by omega), hne, by rw [e2]; exact hd⟩
theorem cross_fin {cs : List ECell} {cell : Int} {ps : List Plc} {zs : List (Sl Rect)} (h0 : shE cs cell = 0) (he : erL ps = plcTo cs (occR cs cell) (occR cs cell).length) (hz : ∀ y x, y < 80 → x < 80 → anyF zs y x = crTo ps ps.length y x) : canon (bits (er zs).flatten) = crL cs cell := by
 rw [crL, decide_eq_true h0, cond_true]
 congr 1
 refine gb_ext (bits_length _) (crB_len _ _) fun y x hy hx => ?_
 rw [gb_bits' _ hy hx, gb_crB hy hx, ← cross_eq h0 he hy hx, ← hz y x hy hx]; rfl
theorem plPc_facts {cs : List ECell} {os : List EOcc} {i : Nat} {ps : List Piece} (h : erPs ps = plPc cs os i) : ps.length ≤ 25600 ∧ ∀ m, m < ps.length → isReg (gd ps m).reg.xs = true := by
 refine ⟨by rw [← erPs_len, h, plPc, List.length_map]; exact ownP_len _ _, fun m hm => ?_⟩
 have hh : erP (gd ps m) ∈ plPc cs os i := by rw [← h, erPs]; exact List.mem_map.2 ⟨_, gd_mem hm, rfl⟩
 rw [plPc] at hh
 obtain ⟨q, -, hq⟩ := List.mem_map.1 hh
 have e : (gd ps m).reg.xs = (mvP (gd os i).place q).2 := (congrArg Prod.snd hq).symm
 rw [e, mvP]; exact isReg_canon (bits_length _)
theorem cross_prog {l : Lib} {cell : Int} (hL : RLib G L l.cells.v l.cells.xs) (hlen : lenC (erCls l.cells.xs)) (k : ∀ v, R (.tuple #[v, vi (shE (erCls l.cells.xs) cell)]) G (osl 140 rectT v (crL (erCls l.cells.xs) cell) :: L)) : CallT Tryz.prog 23 #[vT libT l, vi cell] G L R := by
 by_cases h1 : shE (erCls l.cells.xs) cell = 0
 · skip
   rw [h1] at k
   refine CallT.enter (args := _) Tryz.func23 rfl rfl (by kernel_rfl) rfl ?_
   refine WP.seq (WP.region ?_)
   refine RG.ot rfl (OT.box (cs := libT.enc l) rfl rfl rfl fun b2 => ?_)
   refine RG.pv rfl (PV.asg rfl rfl) (RG.mr rfl rfl rfl (RG.nil (WP.seq (WP.region (RG.pv rfl (PV.loadW rfl Ag31 rfl rfl) (RG.ml rfl rfl rfl ?_))))))
   refine RG.callF (vs := [_, _]) rfl rfl En47 rfl (plac_i hL.up hlen (fun hne => absurd h1 hne) (fun _ w13 ps u13 ys13 hps hys => ?_))
   refine RG.pv rfl (PV.move (v := .tuple _) rfl rfl) (RG.pv rfl (PV.ext (v := w13) rfl rfl rfl) (RG.pv rfl (PV.ext rfl rfl rfl) (RG.pv rfl (PV.ext rfl rfl rfl) (RG.pv rfl (PV.asg (v := w13) rfl rfl) (RG.pv rfl (PV.asg rfl rfl) (RG.mr rfl rfl rfl (RG.nil ?_)))))))
   refine WP.seq (WP.seq (WP.region (RG.ml rfl rfl rfl (RG.pv rfl (PV.neq rfl rfl rfl) (RG.nil ?_)))))
   refine WP.cond rfl (fun h2 => ?_) (fun h2 => ?_)
   · simp at h2
   · obtain ⟨hpl, hat⟩ := erL_at hps
     have ho2 := occR_200 (erCls l.cells.xs) cell
     have hf1 : ∀ i, i < ps.length → (gd ps i).pieces.xs.length ≤ 25600 := fun i hi => (plPc_facts (hat i (by omega)).1).1
     have hf2 : ∀ i, i < ps.length → isReg (gd ps i).poly.xs = true := fun i hi => by rw [(hat i (by omega)).2, plPoly]; exact isReg_canon (bits_length _)
     have hf3 : ∀ i, i < ps.length → ∀ m, m < (gd ps i).pieces.xs.length → isReg (gd (gd ps i).pieces.xs m).reg.xs = true := fun i hi m hm => (plPc_facts (hat i (by omega)).1).2 m hm
     refine WP.skip (WP.seq (WP.region (RG.pv rfl (PV.move (v := w13) rfl rfl) ?_)))
     refine RG.callF (vs := [w13]) rfl rfl En48 rfl (cross_i Rs.o RsE.o RsE.o RsE.o (by omega) hf1 hf2 hf3 (fun v20 zs hz => ?_))
     refine RG.pv rfl (PV.asg (v := v20) rfl rfl) (RG.mr rfl rfl rfl (RG.nil ?_))
     refine WP.ret ?_
     have e := cross_fin h1 hps hz
     rw [← e] at k
     exact ⟨_, _, ResV.two rfl rfl rfl, Cv.p, k v20⟩
 · have e : crL (erCls l.cells.xs) cell = [] := by rw [crL, decide_eq_false h1]; rfl
   rw [e] at k
   refine CallT.enter (args := _) Tryz.func23 rfl rfl (by kernel_rfl) rfl ?_
   refine WP.seq (WP.region ?_)
   refine RG.ot rfl (OT.box (cs := libT.enc l) rfl rfl rfl fun b2 => ?_)
   refine RG.pv rfl (PV.asg rfl rfl) (RG.mr rfl rfl rfl (RG.nil (WP.seq (WP.region (RG.pv rfl (PV.loadW rfl Ag31 rfl rfl) (RG.ml rfl rfl rfl ?_))))))
   refine RG.callF (vs := [_, _]) rfl rfl En47 rfl (plac_i hL.up hlen (fun _ => ?_) (fun h => absurd h h1))
   refine RG.pv rfl (PV.move (v := .tuple _) rfl rfl) (RG.pv rfl (PV.ext rfl rfl rfl) (RG.pv rfl (PV.ext rfl rfl rfl) (RG.pv rfl (PV.ext rfl rfl rfl) (RG.pv rfl (PV.asg rfl rfl) (RG.pv rfl (PV.asg rfl rfl) (RG.mr rfl rfl rfl (RG.nil ?_)))))))
   refine WP.seq (WP.seq (WP.region (RG.ml rfl rfl rfl (RG.pv rfl (PV.neq rfl rfl rfl) (RG.nil ?_)))))
   refine WP.cond rfl (fun h2 => ?_) (fun h2 => ?_)
   · refine WP.seq ?_
     refine WP.region (RG.ml rfl rfl rfl (RG.pv rfl (PV.asg rfl rfl) (RG.mr rfl rfl rfl (RG.nil ?_))))
     refine WP.ret ?_
     exact ⟨_, _, ResV.two rfl rfl rfl, (Cv.p (C := L)).trans Cv.nilS, k (.slice none 0 0)⟩
   · exfalso; simp at h2; exact h1 h2
end Go.Proofs.YthhjapiggekjbaaGreat
namespace Go.Proofs.YthhjapiggekjbaaGreat
set_option linter.unusedVariables false
set_option linter.unusedSimpArgs false
open Go
set_option maxRecDepth 20000
set_option linter.unusedSimpArgs false
theorem occ_box {cs : List ECell} {cell : Int} {j : Nat} (hj : j < (occR cs cell).length) (n : Nat) : (0 ≤ (gd (occR cs cell) j).place.o ∧ (gd (occR cs cell) j).place.o ≤ 7) ∧ ∀ b ∈ boxesOf (gd cs (gd (occR cs cell) j).cell.toNat).shapes n, validRect b = true := by
 obtain ⟨h1, h2, h3, -⟩ := occR_cell hj
 refine ⟨(validT_iff.1 h3).1, fun b hb => ?_⟩
 obtain ⟨m, hm, rfl⟩ := boxesOf_sub hb
 have := okLib_shape h1 (i := (gd (occR cs cell) j).cell.toNat) (j := m) (by omega) hm
 simp only [okSh, Bool.and_eq_true] at this
 exact this.2
/-- the cells of a flattened layer are those of the moved boxes -/
theorem flat_lay {cs : List ECell} {cell : Int} (h0 : shE cs cell = 0) {n : Nat} (hn : n < 8) {y x : Nat} (hy : y < 80) (hx : x < 80) : gb (bits (gd (flyL cs cell) n)) y x = true ↔ ∃ j, j < (occR cs cell).length ∧ gb (bits ((boxesOf (gd cs (gd (occR cs cell) j).cell.toNat).shapes n).map (moveR (gd (occR cs cell) j).place))) y x = true := by
 have e : flyL cs cell = layL (flatL cs (occR cs cell)) := by rw [flyL, decide_eq_true h0, shR_ok h0]; rfl
 rw [e, lay_bits hn, gb_bits_iff hy hx]
 constructor
 · rintro ⟨r, hr, hi⟩
   rw [boxesOf] at hr
   obtain ⟨s, hs, rfl⟩ := List.mem_map.1 hr
   obtain ⟨hs1, hs2⟩ := List.mem_filter.1 hs
   obtain ⟨o, ho, hs1⟩ := List.mem_flatMap.1 hs1
   obtain ⟨j, hj, rfl⟩ := List.getElem_of_mem ho
   obtain ⟨q, hq, rfl⟩ := List.mem_map.1 hs1
   refine ⟨j, hj, ?_⟩
   rw [gb_bits_iff hy hx]
   refine ⟨moveR (gd (occR cs cell) j).place q.box, List.mem_map.2 ⟨q.box, ?_, rfl⟩, ?_⟩
   · rw [boxesOf]
     exact List.mem_map.2 ⟨q, List.mem_filter.2 ⟨by rw [gd_eq hj]; exact hq, hs2⟩, rfl⟩
   · rw [gd_eq hj]; exact hi
 · rintro ⟨j, hj, hg⟩
   rw [gb_bits_iff hy hx] at hg
   obtain ⟨r, hr, hi⟩ := hg
   obtain ⟨b, hb, rfl⟩ := List.mem_map.1 hr
   rw [boxesOf] at hb
   obtain ⟨q, hq, rfl⟩ := List.mem_map.1 hb
   obtain ⟨hq1, hq2⟩ := List.mem_filter.1 hq
   refine ⟨_, ?_, hi⟩
   rw [boxesOf]
   refine List.mem_map.2 ⟨⟨q.layer, moveR (gd (occR cs cell) j).place q.box⟩, List.mem_filter.2 ⟨List.mem_flatMap.2 ⟨gd (occR cs cell) j, gd_mem hj, List.mem_map.2 ⟨q, hq1, rfl⟩⟩, hq2⟩, rfl⟩
/-- a conductor's cells -/
def lyN (i : Nat) : Nat := (gd [0, 1, 3, 5] i : Int).toNat
theorem lyN_lt {i : Nat} (h : i < 4) : lyN i < 8 := by
 rcases (by omega : i = 0 ∨ i = 1 ∨ i = 2 ∨ i = 3) with rfl | rfl | rfl | rfl <;> simp [lyN, gd]
theorem cond_gb {l : List (List Rect)} {i : Nat} (hi : i < 4) {y x : Nat} (hy : y < 80) (hx : x < 80) : gb (gd (condB l) i) y x = true ↔ gb (bits (gd l (lyN i))) y x = true ∧ (i = 0 → gb (bits (gd l 1)) y x = false) := by
 obtain ⟨e0, e1, e2, e3⟩ := gd4 (zipB (fun p q => p && !q) (bits (gd l 0)) (bits (gd l 1))) (bits (gd l 1)) (bits (gd l 3)) (bits (gd l 5))
 rcases (by omega : i = 0 ∨ i = 1 ∨ i = 2 ∨ i = 3) with rfl | rfl | rfl | rfl
 · rw [condB, e0, gb_zip2 (bits_length _) (bits_length _) hy hx]
   simp [lyN, gd]
 · rw [condB, e1]; simp [lyN, gd]
 · rw [condB, e2]; simp [lyN, gd]
 · rw [condB, e3]; simp [lyN, gd]
noncomputable def plE (cs : List ECell) (cell : Int) : List (Int × List Rect) := (ppAll cs cell).map Prod.snd
theorem plE_len (cs : List ECell) (cell : Int) : (plE cs cell).length = (ppAll cs cell).length := by simp [plE]
theorem plE_mem {cs : List ECell} {cell : Int} {q : Int × List Rect} : q ∈ plE cs cell ↔ ∃ j, j < (occR cs cell).length ∧ ∃ p ∈ ownP cs (gd (occR cs cell) j).cell, q = mvP (gd (occR cs cell) j).place p := by
 rw [plE, ppAll, plTo]
 constructor
 · intro h
   obtain ⟨e, he, rfl⟩ := List.mem_map.1 h
   obtain ⟨j, hj, he⟩ := List.mem_flatMap.1 he
   obtain ⟨p, hp, rfl⟩ := List.mem_map.1 he
   exact ⟨j, List.mem_range.1 hj, p, hp, rfl⟩
 · rintro ⟨j, hj, p, hp, rfl⟩
   exact List.mem_map.2 ⟨((j : Int), mvP (gd (occR cs cell) j).place p), List.mem_flatMap.2 ⟨j, List.mem_range.2 hj, List.mem_map.2 ⟨p, hp, rfl⟩⟩, rfl⟩
def noCr (cs : List ECell) (cell : Int) : Prop := ∀ y x, y < 80 → x < 80 → diffAny (ppAll cs cell) y x = true → gb (bits (gd (flyL cs cell) 1)) y x = false
theorem ownP_iff {cs : List ECell} {cell : Int} {j : Nat} (hj : j < (occR cs cell).length) : ownP cs (gd (occR cs cell) j).cell = pcE (layL (gd cs (gd (occR cs cell) j).cell.toNat).shapes) := by
 obtain ⟨h1, h2, -, -⟩ := occR_cell hj
 have hh : hasCl cs (gd (occR cs cell) j).cell = true := by
   simp only [hasCl, within, Bool.and_eq_true, decide_eq_true_eq]
   exact ⟨h1, by omega, by omega⟩
 rw [ownP, hh, cond_true]
/-- the boxes of an occurrence stay on the chip -/
theorem occ_mv {cs : List ECell} {cell : Int} (h0 : shE cs cell = 0) {j : Nat} (hj : j < (occR cs cell).length) {m : Nat} (hm : m < (gd cs (gd (occR cs cell) j).cell.toNat).shapes.length) : validRect (moveR (gd (occR cs cell) j).place (gd (gd cs (gd (occR cs cell) j).cell.toNat).shapes m).box) = true := by
 have hoc : occE cs cell = 0 := by
   by_cases ho : occE cs cell = 0
   · exact ho
   · rw [shE_occ ho] at h0; exact absurd h0 ho
 cases hv : validRect (moveR (gd (occR cs cell) j).place (gd (gd cs (gd (occR cs cell) j).cell.toNat).shapes m).box) with
 | true => rfl
 | false =>
   exfalso
   have hb := flat_bad hj hm hv
   rw [shE_flat hoc, hb] at h0; simp at h0
theorem plE_all {cs : List ECell} {cell : Int} (h0 : shE cs cell = 0) (hn : noCr cs cell) : PAll (flyL cs cell) (plE cs cell) := by
 refine ⟨fun q hq => ?_, fun i a hi ha => ?_⟩
 · have hq0 := hq
   obtain ⟨j, hj, p, hp, rfl⟩ := plE_mem.1 hq
   have hp2 := ownP_mem hp
   obtain ⟨i, c, hi, hc, e, e1⟩ := pc_mem2 hp2
   have ho := (occ_box hj 0).1
   have hcv : ∀ r ∈ p.2, validRect r = true := reg_valid (pc_reg hp2)
   have hmv : ∀ r ∈ p.2, validRect (moveR (gd (occR cs cell) j).place r) = true := pc_mv ho (fun m hm => occ_mv h0 hj hm) hp2
   have hbc : bits p.2 = c := by rw [e, bits_canon (comps_mem hc)]
   have hbm : bits (mvP (gd (occR cs cell) j).place p).2 = bits (p.2.map (moveR (gd (occR cs cell) j).place)) := by rw [mvP]; exact bits_canon (bits_length _)
   refine ⟨i, hi, e1, by rw [mvP]; exact isReg_canon (bits_length _), ?_, ?_, fun a ha => ?_⟩
   · rw [hbm]; exact cnd_mv ho hcv hmv (by rw [hbc]; exact comps_cnd hc)
   · obtain ⟨a, ha⟩ := comps_ne hc
     rw [← hbc] at ha
     rw [hbm]; exact ⟨_, (im_on ho hcv hmv ha).2⟩
   · obtain ⟨h1, h2, h3⟩ := ha
     have h3' := h3
     rw [hbm] at h3
     refine ⟨h1, h2, (cond_gb hi h1 h2).2 ⟨?_, fun hi0 => ?_⟩⟩
     · rw [flat_lay h0 (lyN_lt hi) h1 h2]
       refine ⟨j, hj, ?_⟩
       rcases mv_gb ho h1 h2 with ⟨y', x', hy', hx', em⟩ | em
       · rw [em _ hcv, hbc] at h3
         have h4 := comp_sub hc hy' hx' h3
         have h5 := ((cond_gb hi hy' hx').1 h4).1
         rw [em _ (occ_box hj _).2, ← lay_bits (lyN_lt hi)]
         exact h5
       · rw [em _ hcv] at h3; cases h3
     · refine hn _ _ h1 h2 ?_
       rw [diffAny, List.any_eq_true]
       obtain ⟨e', he', hq'⟩ := List.mem_map.1 hq0
       refine ⟨e', he', ?_⟩
       rw [hq']
       rw [Bool.and_eq_true]
       refine ⟨?_, h3'⟩
       rw [decide_eq_true_eq]
       exact e1.trans (by rw [hi0]; simp [gd])
 · obtain ⟨h1, h2, h3⟩ := ha
   obtain ⟨h4, h5⟩ := (cond_gb hi h1 h2).1 h3
   rw [flat_lay h0 (lyN_lt hi) h1 h2] at h4
   obtain ⟨j, hj, h4⟩ := h4
   have ho := (occ_box hj 0).1
   rcases mv_gb ho h1 h2 with ⟨y', x', hy', hx', em⟩ | em
   · rw [em _ (occ_box hj _).2, ← lay_bits (lyN_lt hi)] at h4
     have h6 : gb (gd (condB (layL (gd cs (gd (occR cs cell) j).cell.toNat).shapes)) i) y' x' = true := by
       refine (cond_gb hi hy' hx').2 ⟨h4, fun hi0 => ?_⟩
       have h7 := h5 hi0
       cases hg : gb (bits (gd (layL (gd cs (gd (occR cs cell) j).cell.toNat).shapes) 1)) y' x' with
       | false => rfl
       | true =>
         exfalso
         have h8 : gb (bits (gd (flyL cs cell) 1)) a.1 a.2 = true := by
           rw [flat_lay h0 (by omega) h1 h2]
           refine ⟨j, hj, ?_⟩
           rw [em _ (occ_box hj _).2, ← lay_bits (by omega)]
           exact hg
         rw [h7] at h8; cases h8
     have hcv := comps_cover (S := gd (condB (layL (gd cs (gd (occR cs cell) j).cell.toNat).shapes)) i) hy' hx'
     rw [h6, List.any_eq_true] at hcv
     obtain ⟨c, hc, hgc⟩ := hcv
     have hm : ((gd [0, 1, 3, 5] i, canon c) : Int × List Rect) ∈ ownP cs (gd (occR cs cell) j).cell := by
       rw [ownP_iff hj, pcE, isLay_layL, cond_true, List.mem_map]
       refine ⟨(gd [0, 1, 3, 5] i, c), ?_, rfl⟩
       rw [pcL, List.mem_flatten]
       exact ⟨_, List.mem_map.2 ⟨i, List.mem_range.2 hi, rfl⟩, List.mem_map.2 ⟨c, hc, rfl⟩⟩
     refine ⟨mvP (gd (occR cs cell) j).place (gd [0, 1, 3, 5] i, canon c), plE_mem.2 ⟨j, hj, _, hm, rfl⟩, rfl, h1, h2, ?_⟩
     rw [mvP, bits_canon (bits_length _), em _ (reg_valid (isReg_canon (comps_mem hc))), bits_canon (comps_mem hc)]
     exact hgc
   · rw [em _ (occ_box hj _).2] at h4; cases h4
end Go.Proofs.YthhjapiggekjbaaGreat
namespace Go.Proofs.YthhjapiggekjbaaGreat
set_option linter.unusedVariables false
set_option linter.unusedSimpArgs false
open Go
set_option maxRecDepth 20000
set_option maxHeartbeats 1000000
set_option linter.unusedSimpArgs false
variable {G : Gh} {L : List Ch} {R : Value → Gh → List Ch → Prop}
theorem abut_s {a b : Rect} (k : R (.bool (abutR a b)) G L) : CallT Tryz.prog 119 #[vrect a, vrect b] G L R := by
 refine CallT.enter (args := _) Tryz.func119 rfl rfl (by kernel_rfl) rfl ?_
 refine WP.seq (WP.region ?_)
 refine RG.ot rfl (OT.box (cs := rectT.enc a) rfl rfl rfl fun b2 => ?_)
 refine RG.ot rfl (OT.box (cs := rectT.enc b) rfl rfl rfl fun b3 => ?_)
 refine RG.br rfl rfl rfl (RG.nil (WP.seq (WP.seq (WP.region (RG.pv rfl (PV.loadW rfl Ag140 rfl rfl) ?_)))))
 refine RG.callF (vs := [_]) rfl rfl En83 rfl (validRect_s ?_)
 refine RG.pv rfl (PV.not rfl rfl) (RG.bl rfl rfl rfl ?_)
 refine RG.gs rfl rfl rfl (fun hp => (PV.loadW rfl Ag140 rfl rfl)) ?_
 refine RG.gsC rfl rfl rfl rfl En83 (fun hp => ⟨_, (acons (gs_t hp) anil), validRect_s ⟨rfl, rfl, rfl⟩⟩) ?_
 refine RG.gs rfl rfl rfl (fun hp => (PV.not rfl (gs_t hp))) ?_
 refine RG.pv rfl (PV.pickO rfl rfl rfl (fun hq => gs_t (geqF hq))) (RG.nil ?_)
 refine WP.cond rfl (fun h => ?_) (fun h => ?_)
 · have e : abutR a b = false := by
     rw [abutR]; revert h
     cases validRect a <;> cases validRect b <;> simp
   rw [e] at k
   refine WP.seq (WP.region (RG.br rfl rfl rfl (RG.nil ?_)))
   refine WP.ret ?_
   exact ⟨_, _, ResV.one rfl rfl, Cv.p, k⟩
 · have e : abutR a b = (decide ((cmn a b).x0 = (cmn a b).x1) && decide ((cmn a b).y0 < (cmn a b).y1) || decide ((cmn a b).y0 = (cmn a b).y1) && decide ((cmn a b).x0 < (cmn a b).x1)) := by
     rw [abutR]; revert h
     cases validRect a <;> cases validRect b <;> simp
   rw [e] at k
   refine WP.skip (WP.seq (WP.region (RG.pv rfl (PV.loadW rfl Ag140 rfl rfl) (RG.pv rfl (PV.loadW rfl Ag140 rfl rfl) ?_))))
   refine RG.callF (vs := [_, _]) rfl rfl En164 rfl (common_s ?_)
   refine RG.ot rfl (OT.alloc rfl Zr140 fun b5 => ?_)
   refine RG.ot rfl (OT.storeW (vs := [vi _, vi _, vi _, vi _]) rfl Sz140 rfl rfl (Cl.c rfl) rfl rfl (OneC.c rfl) ?_)
   refine RG.nil (WP.seq (WP.region (RG.pv rfl (PV.field rfl Fo140_0 rfl) (RG.pv rfl (PV.load1 rfl Sc2 rfl (Rd.blk rfl)) (RG.pv rfl (PV.field rfl Fo140_2 rfl) (RG.pv rfl (PV.load1 rfl Sc2 rfl (Rd.blk rfl)) (RG.pv rfl (PV.eql rfl rfl rfl) ?_)))))))
   refine RG.bl rfl rfl rfl ?_
   refine RG.gs rfl rfl rfl (fun hp => (PV.field rfl Fo140_1 rfl)) ?_
   refine RG.gs rfl rfl rfl (fun hp => (PV.load1 rfl Sc2 (gs_t hp) (Rd.blk rfl))) ?_
   refine RG.gs rfl rfl rfl (fun hp => (PV.field rfl Fo140_3 rfl)) ?_
   refine RG.gs rfl rfl rfl (fun hp => (PV.load1 rfl Sc2 (gs_t hp) (Rd.blk rfl))) ?_
   refine RG.gs rfl rfl rfl (fun hp => (PV.lss rfl (gs_t hp) (gs_t hp))) ?_
   refine RG.pv rfl (PV.pickA rfl rfl (fun hq => gs_t (geqT hq)) rfl) (RG.bl rfl rfl rfl ?_)
   refine RG.gs rfl rfl rfl (fun hp => (PV.field rfl Fo140_1 rfl)) ?_
   refine RG.gs rfl rfl rfl (fun hp => (PV.load1 rfl Sc2 (gs_t hp) (Rd.blk rfl))) ?_
   refine RG.gs rfl rfl rfl (fun hp => (PV.field rfl Fo140_3 rfl)) ?_
   refine RG.gs rfl rfl rfl (fun hp => (PV.load1 rfl Sc2 (gs_t hp) (Rd.blk rfl))) ?_
   refine RG.gs rfl rfl rfl (fun hp => (PV.eql rfl (gs_t hp) (gs_t hp))) ?_
   refine RG.gs rfl rfl rfl (fun hp => (PV.mvB (.inl rfl) (gs_t hp))) ?_
   refine RG.gs2 rfl rfl rfl (fun hp => (PV.field rfl Fo140_0 rfl)) ?_
   refine RG.gs2 rfl rfl rfl (fun hp => (PV.load1 rfl Sc2 (gs_t hp) (Rd.blk rfl))) ?_
   refine RG.gs2 rfl rfl rfl (fun hp => (PV.field rfl Fo140_2 rfl)) ?_
   refine RG.gs2 rfl rfl rfl (fun hp => (PV.load1 rfl Sc2 (gs_t hp) (Rd.blk rfl))) ?_
   refine RG.gs2 rfl rfl rfl (fun hp => (PV.lss rfl (gs_t hp) (gs_t hp))) ?_
   refine RG.gs rfl rfl rfl (fun hp => (PV.pickA rfl (gs_t hp) (fun hq => gs_t (gandT hp hq)) rfl)) ?_
   refine RG.pv rfl (PV.pickO rfl rfl rfl (fun hq => gs_t (geqF hq))) (RG.br rfl rfl rfl (RG.nil ?_))
   refine WP.ret ?_
   exact ⟨_, _, ResV.one rfl rfl, Cv.p, k⟩
theorem tch_s {v u : Value} {xs ys : List Rect} (h1 : Rs G L rectT v xs) (h2 : Rs G L rectT u ys) (k : R (.bool (tchR xs ys)) G L) : CallT Tryz.prog 65 #[v, u] G L R := by
 refine CallT.bd h1 fun hb => ?_
 refine CallT.bd h2 fun hb' => ?_
 refine CallT.enter (args := _) Tryz.func65 rfl rfl (by kernel_rfl) rfl ?_
 refine WP.seq (WP.region (RG.br rfl rfl rfl (RG.nil (WP.seq (WP.seq (WP.region (RG.pv rfl (PV.move (v := v) rfl rfl) ?_)))))))
 refine RG.pv rfl (PV.len (v := v) rfl Tryz.underlying50 rfl (SlF.r h1)) (RG.ml rfl rfl rfl (RG.nil (WP.block ?_)))
 refine WP.loop1 [1, 9, 10] (fun i => i ≤ xs.length ∧ ∀ p, p < i → ∀ q, q < ys.length → (ovl (gd xs p) (gd ys q) || abutR (gd xs p) (gd ys q)) = false) (fun i => [(11, vi i)]) (fun i => L) (fun i => xs.length - i) 0 ⟨by omega, fun p h => by omega⟩ ⟨rfl, trivial⟩ Cv.p ?_
 rintro i τ ⟨hi, hn⟩
 refine WP.seq (WP.region (RG.pv rfl (PV.lss rfl rfl rfl) (RG.nil (WP.seq ?_))))
 refine WP.cond rfl (fun h3 => ?_) (fun h3 => ?_)
 · have h3 := of_decide_eq_true h3
   refine WP.skip (WP.seq (WP.block (WP.seq (WP.region (RG.pv rfl (PV.idxS (v := v) rfl Is50 rfl (SlF.r h1) rfl rfl (by omega)) (RG.pv rfl (PV.loadE rfl Ag140 rfl rfl (El.r h1 (getG (by omega)))) ?_))))))
   refine RG.ot rfl (OT.alloc rfl Zr140 fun b6 => ?_)
   refine RG.ot rfl (OT.storeW (vs := [vi _, vi _, vi _, vi _]) rfl Sz140 rfl rfl (Cl.c rfl) rfl rfl (OneC.c rfl) ?_)
   refine RG.nil (WP.seq (WP.region (RG.pv rfl (PV.move (v := u) rfl rfl) (RG.pv rfl (PV.len (v := u) rfl Tryz.underlying50 rfl (SlF.r h2)) (RG.ml rfl rfl rfl (RG.nil (WP.block ?_)))))))
   refine WP.loop1 [1, 6, 9, 10, 11, 15, 16] (fun j => j ≤ ys.length ∧ ∀ q, q < j → (ovl (gd xs i) (gd ys q) || abutR (gd xs i) (gd ys q)) = false) (fun j => [(17, vi j)]) (fun j => blk b6 140 (rectT.enc (gd xs i)) :: L) (fun j => ys.length - j) 0 ⟨by omega, fun q h => by omega⟩ ⟨rfl, trivial⟩ Cv.p ?_
   rintro j τ1 ⟨hj, hm⟩
   refine WP.seq (WP.region (RG.pv rfl (PV.lss rfl rfl rfl) (RG.nil (WP.seq ?_))))
   refine WP.cond rfl (fun h4 => ?_) (fun h4 => ?_)
   · have h4 := of_decide_eq_true h4
     refine WP.skip (WP.seq (WP.block (WP.seq (WP.region (RG.pv rfl (PV.idxS (v := u) rfl Is50 rfl (SlF.r h2) rfl rfl (by omega)) (RG.pv rfl (PV.loadE rfl Ag140 rfl rfl (El.r h2 (getG (by omega)))) ?_))))))
     refine RG.ot rfl (OT.alloc rfl Zr140 fun b8 => ?_)
     refine RG.ot rfl (OT.storeW (vs := [vi _, vi _, vi _, vi _]) rfl Sz140 rfl rfl (Cl.c rfl) rfl rfl (OneC.c rfl) ?_)
     refine RG.nil (WP.seq (WP.region (RG.pv rfl (PV.loadW rfl Ag140 rfl rfl) (RG.pv rfl (PV.loadW rfl Ag140 rfl rfl) ?_))))
     refine RG.callF (vs := [_, _]) rfl rfl En118 rfl (ovl_s ?_)
     refine RG.bl rfl rfl rfl ?_
     refine RG.gs rfl rfl rfl (fun hp => (PV.loadW rfl Ag140 rfl rfl)) ?_
     refine RG.gs rfl rfl rfl (fun hp => (PV.loadW rfl Ag140 rfl rfl)) ?_
     refine RG.gsC rfl rfl rfl rfl En119 (fun hp => ⟨_, (acons (gs_t hp) (acons (gs_t hp) anil)), abut_s ⟨rfl, rfl, rfl⟩⟩) ?_
     refine RG.pv rfl (PV.pickO rfl rfl rfl (fun hq => gs_t (geqF hq))) (RG.nil ?_)
     refine WP.cond rfl (fun h5 => ?_) (fun h5 => ?_)
     · have e : tchR xs ys = true := any2_true (p := fun x y => ovl x y || abutR x y) (i := i) (j := j) (by omega) (by omega) h5
       rw [e] at k
       refine WP.seq (WP.region (RG.br rfl rfl rfl (RG.nil ?_)))
       refine WP.ret ?_
       exact ⟨_, _, ResV.one rfl rfl, Cv.p, k⟩
     · refine WP.skip ?_
       refine WP.region (RG.pv rfl (PV.add rfl rfl rfl (by omega)) (RG.ml rfl rfl rfl (RG.nil ?_)))
       exact ⟨rfl, j + 1, ⟨by omega, col_next hm h5⟩, ⟨rfl, trivial⟩, ⟨rfl, rfl, rfl, rfl, rfl, rfl, rfl, trivial⟩, Cv.p, by omega⟩
   · have h4 := of_decide_eq_false h4
     obtain rfl : j = ys.length := by omega
     refine WP.exit ?_
     refine WP.region (RG.pv rfl (PV.add rfl rfl rfl (by omega)) (RG.ml rfl rfl rfl (RG.nil ?_)))
     exact ⟨rfl, i + 1, ⟨by omega, row_next (p := fun a b => ovl (gd xs a) (gd ys b) || abutR (gd xs a) (gd ys b)) hn hm⟩, ⟨rfl, trivial⟩, ⟨rfl, rfl, rfl, trivial⟩, Cv.p, by omega⟩
 · have h3 := of_decide_eq_false h3
   obtain rfl : i = xs.length := by omega
   have e : tchR xs ys = false := any2_false (p := fun x y => ovl x y || abutR x y) hn
   rw [e] at k
   refine WP.exit ?_
   refine WP.seq (WP.region (RG.br rfl rfl rfl (RG.nil ?_)))
   refine WP.ret ?_
   exact ⟨_, _, ResV.one rfl rfl, Cv.p, k⟩
noncomputable def hcC (cs : List ECell) (cell : Int) : Int := if ppC cs cell = 0 then (if 0 < (crL cs cell).length then 6 else 0) else ppC cs cell
theorem hcC_pp {cs : List ECell} {cell : Int} (h : ppC cs cell ≠ 0) : hcC cs cell = ppC cs cell := by rw [hcC, if_neg h]
theorem hcC_cr {cs : List ECell} {cell : Int} (h : ppC cs cell = 0) (h2 : 0 < (crL cs cell).length) : hcC cs cell = 6 := by rw [hcC, if_pos h, if_pos h2]
theorem hcC_ok {cs : List ECell} {cell : Int} (h : ppC cs cell = 0) (h2 : ¬ 0 < (crL cs cell).length) : hcC cs cell = 0 := by rw [hcC, if_pos h, if_neg h2]
theorem hcC_0 {cs : List ECell} {cell : Int} (h : hcC cs cell = 0) : ppC cs cell = 0 ∧ ¬ 0 < (crL cs cell).length := by
 by_cases h1 : ppC cs cell = 0
 · refine ⟨h1, fun h2 => ?_⟩
   rw [hcC_cr h1 h2] at h; cases h
 · rw [hcC_pp h1] at h; exact absurd h h1
theorem ppC_0 {cs : List ECell} {cell : Int} (h : ppC cs cell = 0) : shE cs cell = 0 ∧ (ppAll cs cell).length ≤ 400 := by
 by_cases h1 : shE cs cell = 0
 · refine ⟨h1, ?_⟩
   rw [ppC_yes h1] at h
   by_cases h2 : 400 < (ppAll cs cell).length
   · rw [decide_eq_true h2] at h; cases h
   · omega
 · rw [ppC_no h1] at h; exact absurd h h1
theorem canon_pos {S : List Bool} (hS : S.length = 6400) (h : ¬ 0 < (canon S).length) {y x : Nat} (hy : y < 80) (hx : x < 80) : gb S y x = false := by
 cases hg : gb S y x with
 | false => rfl
 | true =>
   exfalso
   rw [← bits_canon hS, gb_bits_iff hy hx] at hg
   obtain ⟨r, hr, -⟩ := hg
   exact h (List.length_pos_of_mem hr)
theorem crL_no {cs : List ECell} {cell : Int} (h0 : shE cs cell = 0) (h : ¬ 0 < (crL cs cell).length) : noCr cs cell := fun y x hy hx hd => by
 rw [crL, decide_eq_true h0, cond_true] at h
 have := canon_pos (crB_len _ _) h hy hx
 rw [gb_crB hy hx, hd, Bool.true_and] at this
 exact this
theorem erQs_snd {qs : List PPiece} {i : Nat} (h : i < qs.length) : gd ((erQs qs).map Prod.snd) i = erP (gd qs i).piece := by
 rw [gd_map _ (by rw [erQs_len]; exact h), erQs_gd h]; rfl
theorem pcls_i {l : Lib} {cell : Int} (hL : RLib G L l.cells.v l.cells.xs) (hlen : lenC (erCls l.cells.xs)) (k0 : hcC (erCls l.cells.xs) cell ≠ 0 → R (.tuple #[.slice none 0 0, .slice none 0 0, vi (hcC (erCls l.cells.xs) cell)]) G L)
   (k : hcC (erCls l.cells.xs) cell = 0 → ∀ v qs u, erQs qs = ppAll (erCls l.cells.xs) cell → R (.tuple #[v, u, vi 0]) G (osl 65 ppieceT v qs :: bagS 140 rectT (regsQ qs) :: osl 2 intT u (clsH (flyL (erCls l.cells.xs) cell) (plE (erCls l.cells.xs) cell)) :: L)) : CallT Tryz.prog 38 #[vT libT l, vi cell] G L R := by
 by_cases h1 : shE (erCls l.cells.xs) cell = 0
 · have ec := ppC_yes h1
   refine CallT.enter (args := _) Tryz.func38 rfl rfl (by kernel_rfl) rfl ?_
   refine WP.seq (WP.region ?_)
   refine RG.ot rfl (OT.box (cs := libT.enc l) rfl rfl rfl fun b2 => ?_)
   refine RG.pv rfl (PV.asg rfl rfl) (RG.pv rfl (PV.asg rfl rfl) (RG.mr rfl rfl rfl (RG.nil (WP.seq (WP.region (RG.pv rfl (PV.loadW rfl Ag31 rfl rfl) (RG.ml rfl rfl rfl ?_)))))))
   refine RG.callF (vs := [_, _]) rfl rfl En47 rfl (plac_i hL.up hlen (fun hne => absurd h1 hne) (fun _ w13 ps u13 ys13 hps hys => ?_))
   refine RG.pv rfl (PV.move (v := .tuple _) rfl rfl) (RG.pv rfl (PV.ext (v := w13) rfl rfl rfl) (RG.pv rfl (PV.ext (v := u13) rfl rfl rfl) (RG.pv rfl (PV.ext rfl rfl rfl) (RG.pv rfl (PV.asg (v := w13) rfl rfl) (RG.pv rfl (PV.asg (v := u13) rfl rfl) (RG.mr rfl rfl rfl (RG.nil ?_)))))))
   refine WP.seq (WP.seq (WP.region (RG.ml rfl rfl rfl (RG.pv rfl (PV.neq rfl rfl rfl) (RG.nil ?_)))))
   refine WP.cond rfl (fun h2 => ?_) (fun h2 => ?_)
   · simp at h2
   · obtain ⟨hpl, hat⟩ := erL_at hps
     have her := numTo_er hps ps.length (by omega)
     rw [hpl] at her
     have hal := ppAll_len (erCls l.cells.xs) cell
     have ho2 := occR_200 (erCls l.cells.xs) cell
     have hql : (numTo ps ps.length).length = (ppAll (erCls l.cells.xs) cell).length := by rw [← erQs_len, hpl, her]; rfl
     have hnl : (numTo ps ps.length).length ≤ 6000000 := by omega
     have hf1 : ∀ i, i < ps.length → (gd ps i).pieces.xs.length ≤ 25600 := fun i hi => (plPc_facts (hat i (by omega)).1).1
     have hf2 : ∀ i, i < ps.length → isReg (gd ps i).poly.xs = true := fun i hi => by rw [(hat i (by omega)).2, plPoly]; exact isReg_canon (bits_length _)
     have hf3 : ∀ i, i < ps.length → ∀ m, m < (gd ps i).pieces.xs.length → isReg (gd (gd ps i).pieces.xs m).reg.xs = true := fun i hi m hm => (plPc_facts (hat i (by omega)).1).2 m hm
     refine WP.skip (WP.seq (WP.region (RG.pv rfl (PV.move (v := w13) rfl rfl) ?_)))
     refine RG.callF (vs := [w13]) rfl rfl En49 rfl (placedP_i Rs.o RsE.o RsE.o RsE.o hnl (fun v30 => ?_))
     refine RG.pv rfl (PV.asg (v := v30) rfl rfl) (RG.nil (WP.seq (WP.block (WP.seq (WP.region (RG.pv rfl (PV.move (v := v30) rfl rfl) (RG.pv rfl (PV.len (v := v30) rfl Tryz.underlying53 rfl SlF.o) ?_)))))))
     refine RG.pv rfl (PV.gtr rfl rfl rfl) (RG.br rfl rfl rfl (RG.nil ?_))
     refine WP.cond rfl (fun h3 => ?_) (fun h3 => ?_)
     · have h3 : 400 < (ppAll (erCls l.cells.xs) cell).length := by simp at h3; omega
       rw [decide_eq_true h3] at ec
       have e2 := hcC_pp (cs := erCls l.cells.xs) (cell := cell) (by rw [ec]; decide)
       rw [e2, ec] at k0
       refine WP.seq (WP.region (RG.pv rfl (PV.asg rfl rfl) (RG.pv rfl (PV.asg rfl rfl) (RG.mr rfl rfl rfl (RG.nil ?_)))))
       refine WP.ret ?_
       exact ⟨_, _, ResV.three rfl rfl rfl rfl, Cv.p, k0 (by decide)⟩
     · have h3 : ¬ 400 < (ppAll (erCls l.cells.xs) cell).length := by simp at h3; omega
       rw [decide_eq_false h3] at ec
       refine WP.seq (WP.region (RG.pv rfl (PV.move (v := w13) rfl rfl) ?_))
       refine RG.callF (vs := [w13]) rfl rfl En48 rfl (cross_i Rs.o RsE.o RsE.o RsE.o (by omega) hf1 hf2 hf3 (fun v37 zs hz => ?_))
       refine RG.pv rfl (PV.len (v := v37) rfl Tryz.underlying50 rfl SlF.o) (RG.pv rfl (PV.gtr rfl rfl rfl) (RG.br rfl rfl rfl (RG.nil ?_)))
       have hcr0 := cross_fin h1 hps hz
       rw [hcr0] at *
       refine WP.cond rfl (fun h4 => ?_) (fun h4 => ?_)
       · have h4 : 0 < (crL (erCls l.cells.xs) cell).length := by simpa using h4
         have e2 := hcC_cr ec h4
         rw [e2] at k0
         refine WP.seq (WP.region (RG.pv rfl (PV.asg rfl rfl) (RG.pv rfl (PV.asg rfl rfl) (RG.mr rfl rfl rfl (RG.nil ?_)))))
         refine WP.ret ?_
         exact ⟨_, _, ResV.three rfl rfl rfl rfl, Cv.p, k0 (by decide)⟩
       · have h4 : ¬ 0 < (crL (erCls l.cells.xs) cell).length := by simpa using h4
         have k := k (hcC_ok ec h4)
         have hregs : rgsL ps = regsQ (numTo ps ps.length) := by rw [numTo_regs _ (Nat.le_refl _), List.take_length]
         rw [hregs]
         rw [← hpl] at her
         generalize hqs : numTo ps ps.length = qs at *
         refine WP.skip (WP.seq (WP.region (RG.pv rfl (PV.move (v := v30) rfl rfl) (RG.pv rfl (PV.len (v := v30) rfl Tryz.underlying53 rfl SlF.o) ?_))))
         refine RG.ot rfl (OT.make (F := intT) (a0 := 0) rfl El26 rfl (by decide) rfl rfl (by omega) (by omega) fun v42 => ?_)
         refine RG.pv rfl (PV.asg (v := v42) rfl rfl) (RG.nil (WP.seq (WP.seq (WP.region (RG.pv rfl (PV.move (v := v30) rfl rfl) (RG.pv rfl (PV.len (v := v30) rfl Tryz.underlying53 rfl SlF.o) (RG.ml rfl rfl rfl ?_)))))))
         refine RG.nil (WP.block ?_)
         have her : erQs qs = ppAll (erCls l.cells.xs) cell := her.trans (by rw [hpl]; rfl)
         have h8 : ys13.length = 8 := by rw [← er_len, hys, (fly_reg h1).1]
         have hE : plE (erCls l.cells.xs) cell = (erQs qs).map Prod.snd := by rw [her]; rfl
         have hEl : (plE (erCls l.cells.xs) cell).length = qs.length := by rw [plE_len, hql]
         have hJe : ∀ n i, n < qs.length → i < qs.length → JH (flyL (erCls l.cells.xs) cell) (plE (erCls l.cells.xs) cell) n i = ((decide ((gd qs n).piece.layer = (gd qs i).piece.layer) && tchR (gd qs n).piece.reg.xs (gd qs i).piece.reg.xs) || jnI (er ys13) (erP (gd qs n).piece) (erP (gd qs i).piece)) := fun n i hn hi => by
           rw [JH, hE, erQs_snd hn, erQs_snd hi, hys]; rfl
         generalize hJ : JH (flyL (erCls l.cells.xs) cell) (plE (erCls l.cells.xs) cell) = J at *
         have hlr : (List.replicate qs.length (0 : Int)).length = qs.length := List.length_replicate
         have hcr : ∀ i, i < qs.length → Rs G (bagS 140 rectT (regsQ qs) :: []) rectT (gd qs i).piece.reg.v (gd qs i).piece.reg.xs := fun i hi => RsE.regQ RsE.o hi
         refine WP.cv (Cv.eqS (show List.replicate qs.length 0 = rootsJ J 0 ++ List.replicate (qs.length - 0) 0 from rfl)) ?_
         refine WP.loop1 [8, 10, 11, 44] (fun i => i ≤ qs.length) (fun i => [(45, vi i)]) (fun i => osl 2 intT v42 (rootsJ J i ++ List.replicate (qs.length - i) 0) :: osl 65 ppieceT v30 qs :: bagS 140 rectT (regsQ qs) :: osl 50 slT u13 ys13 :: bagS 140 rectT ys13 :: L) (fun i => qs.length - i) 0 (by omega) ⟨rfl, trivial⟩ Cv.p ?_
         rintro i τ hi
         refine WP.seq (WP.region (RG.pv rfl (PV.lss rfl rfl rfl) (RG.nil (WP.seq ?_))))
         have hrl := rootsJ_len J i
         have hal : (rootsJ J i ++ List.replicate (qs.length - i) (0 : Int)).length = qs.length := by simp [hrl]; omega
         refine WP.cond rfl (fun h3 => ?_) (fun h3 => ?_)
         · have h3 := of_decide_eq_true h3
           have h4 : i < qs.length := by omega
           have hsm := set_mid (c := rootsJ J i) (n := qs.length) (x := (i : Int)) (by omega)
           rw [hrl] at hsm
           refine WP.skip (WP.seq (WP.block (WP.seq (WP.region (RG.ml rfl rfl rfl (RG.mr rfl rfl rfl (RG.nil ?_)))))))
           refine WP.seq (WP.region (RG.pv rfl (PV.move (v := v42) rfl rfl) (RG.ml rfl rfl rfl (RG.ml rfl rfl rfl (RG.pv rfl (PV.idxS (v := v42) rfl Is26 rfl SlF.o rfl rfl (by omega)) ?_)))))
           refine RG.ot rfl (OT.storeE (F := intT) rfl Sz2 rfl rfl rfl (Cl.c rfl) (OneC.c rfl) (by omega) ?_)
           refine RG.nil (WP.seq (WP.region (RG.ml rfl rfl rfl (RG.ml rfl rfl rfl (RG.nil (WP.block ?_))))))
           refine WP.cv (Cv.eqS (hsm.trans (by rw [← inJ_zero J]))) ?_
           refine WP.loop1 [8, 10, 11, 12, 44, 45, 52] (fun n => n ≤ i) (fun n => [(53, vi n)]) (fun n => osl 2 intT v42 (inJ J i (rootsJ J i) n ++ List.replicate (qs.length - (i + 1)) 0) :: osl 65 ppieceT v30 qs :: bagS 140 rectT (regsQ qs) :: osl 50 slT u13 ys13 :: bagS 140 rectT ys13 :: L) (fun n => i - n) 0 (by omega) ⟨rfl, trivial⟩ Cv.p ?_
           rintro n τ1 hn
           refine WP.seq (WP.region (RG.pv rfl (PV.lss rfl rfl rfl) (RG.nil (WP.seq ?_))))
           have hil := inJ_len J i (rootsJ J i) n
           have hil2 : (inJ J i (rootsJ J i) n).length = i + 1 := by omega
           have hin := fun j hj => inJ_le (J := J) (i := i) (k := n) (j := j) hn hj
           have hsc := inJ_succ J i (rootsJ J i) n
           generalize hceq : inJ J i (rootsJ J i) n = c at *
           have hal2 : (c ++ List.replicate (qs.length - (i + 1)) (0 : Int)).length = qs.length := by simp [hil2]; omega
           refine WP.cond rfl (fun h5 => ?_) (fun h5 => ?_)
           · have h5 := of_decide_eq_true h5
             have h6 : n < i := by omega
             have hgn : gd (c ++ List.replicate (qs.length - (i + 1)) (0 : Int)) n = gd c n := gd_app_l (by omega)
             have hgi : gd (c ++ List.replicate (qs.length - (i + 1)) (0 : Int)) i = gd c i := gd_app_l (by omega)
             have hin1 := hin n (by omega)
             have hin2 := hin i (by omega)
             have hJn := hJe n i (by omega) h4
             refine WP.skip (WP.seq (WP.block (WP.seq (WP.region (RG.ml rfl rfl rfl (RG.mr rfl rfl rfl (RG.nil ?_)))))))
             refine WP.cut2 [8, 10, 11, 12, 13, 44, 45, 52, 53] (fun (b14 b15 : Nat) => True) (fun (b14 b15 : Nat) => [(14, .pointer (some ⟨b14, 0, none⟩)), (15, .pointer (some ⟨b15, 0, none⟩))]) (fun (b14 b15 : Nat) => blk b14 63 (pieceT.enc (gd qs n).piece) :: blk b15 63 (pieceT.enc (gd qs i).piece) :: osl 2 intT v42 (c ++ List.replicate (qs.length - (i + 1)) 0) :: osl 65 ppieceT v30 qs :: bagS 140 rectT (regsQ qs) :: osl 50 slT u13 ys13 :: bagS 140 rectT ys13 :: L) ?_ ?_
             refine WP.regionH0 (.q 0 (.q 1 (.q 2 (.q 3 (.q 4 (.q 5 (.q 6 (.q 7 (.q 8 (.q 9 (.b 10 (.l 11 (.l 12 (.l 13 Sch.nil))) 11 (.l 10 (.l 12 (.l 13 Sch.nil)))))))))))))) (by kernel_rfl) (by kernel_rfl) (by kernel_rfl) rfl ?_
             refine RH.pv rfl (fun _ _ _ _ h => h) (Gh.le_refl _) PickC.pick rfl (PV.move (v := v30) rfl rfl) ?_
             refine RH.pv rfl (fun _ _ _ _ h => h) (Gh.le_refl _) PickC.pick rfl (PV.mvI (.inl rfl) rfl) ?_
             refine RH.pv rfl (fun _ _ _ _ h => h) (Gh.le_refl _) PickC.pick rfl (PV.idxS (v := v30) rfl Is53 rfl SlF.o rfl rfl (by omega)) ?_
             refine RH.pv rfl (fun _ _ _ _ h => h) (Gh.le_refl _) PickC.pick rfl (PV.field rfl Fo65_1 rfl) ?_
             refine RH.pv rfl (fun _ _ _ _ h => h) (Gh.le_refl _) PickC.pick rfl (PV.loadEP rfl Ag63 rfl rfl (El.o (getG (by omega))) rfl) ?_
             refine RH.pv rfl (fun _ _ _ _ h => h) (Gh.le_refl _) PickC.pick rfl (PV.move (v := v30) rfl rfl) ?_
             refine RH.pv rfl (fun _ _ _ _ h => h) (Gh.le_refl _) PickC.pick rfl (PV.mvI (.inl rfl) rfl) ?_
             refine RH.pv rfl (fun _ _ _ _ h => h) (Gh.le_refl _) PickC.pick rfl (PV.idxS (v := v30) rfl Is53 rfl SlF.o rfl rfl (by omega)) ?_
             refine RH.pv rfl (fun _ _ _ _ h => h) (Gh.le_refl _) PickC.pick rfl (PV.field rfl Fo65_1 rfl) ?_
             refine RH.pv rfl (fun _ _ _ _ h => h) (Gh.le_refl _) PickC.pick rfl (PV.loadEP rfl Ag63 rfl rfl (El.o (getG (by omega))) rfl) ?_
             · refine RH.ot2 rfl rfl rfl rfl  (OT.alloc rfl Zr63 fun b14 => ⟨Gh.le_refl _, PickC.pick, ?_⟩) (OT.alloc rfl Zr63 fun b15 => ⟨Gh.le_refl _, PickC.pick, ?_⟩)
               · refine RH.ot rfl rfl (OT.alloc rfl Zr63 fun b15 => ⟨Gh.le_refl _, PickC.pick, ?_⟩)
                 refine RH.ot rfl rfl (OT.storeW (vs := [vi _, _]) rfl Sz63 rfl rfl (Cl.c rfl) rfl rfl (OneC.val rfl (OneC.sl (SlF.r (hcr n (by omega))) OneC.nil)) ⟨Gh.le_refl _, PickC.pick, ?_⟩)
                 refine RH.ot rfl rfl (OT.storeW (vs := [vi _, _]) rfl Sz63 rfl rfl (Cl.c rfl) rfl rfl (OneC.val rfl (OneC.sl (SlF.r (hcr i (by omega))) OneC.nil)) ⟨Gh.le_refl _, PickC.pick, ?_⟩)
                 refine RH.nil ?_
                 exact ⟨rfl, b14, b15, trivial, ⟨rfl, rfl, trivial⟩, ⟨rfl, rfl, rfl, rfl, rfl, rfl, rfl, rfl, rfl, trivial⟩, Cv.p⟩
               · refine RH.ot rfl rfl (OT.alloc rfl Zr63 fun b14 => ⟨Gh.le_refl _, PickC.pick, ?_⟩)
                 refine RH.ot rfl rfl (OT.storeW (vs := [vi _, _]) rfl Sz63 rfl rfl (Cl.c rfl) rfl rfl (OneC.val rfl (OneC.sl (SlF.r (hcr n (by omega))) OneC.nil)) ⟨Gh.le_refl _, PickC.pick, ?_⟩)
                 refine RH.ot rfl rfl (OT.storeW (vs := [vi _, _]) rfl Sz63 rfl rfl (Cl.c rfl) rfl rfl (OneC.val rfl (OneC.sl (SlF.r (hcr i (by omega))) OneC.nil)) ⟨Gh.le_refl _, PickC.pick, ?_⟩)
                 refine RH.nil ?_
                 exact ⟨rfl, b14, b15, trivial, ⟨rfl, rfl, trivial⟩, ⟨rfl, rfl, rfl, rfl, rfl, rfl, rfl, rfl, rfl, trivial⟩, Cv.p⟩
             rintro b14 b15 τ5 _
             refine WP.seq (WP.seq ?_)
             refine WP.regionQ (by kernel_rfl) (by kernel_rfl) ?_
             refine RQ.pv rfl (PV.move (v := v42) rfl rfl) ?_
             refine RQ.pv rfl (PV.mvI (.inl rfl) rfl) ?_
             refine RQ.pv rfl (PV.idxS (v := v42) rfl Is26 rfl SlF.o rfl rfl (by omega)) ?_
             refine RQ.pv rfl (PV.loadE1 rfl Sc2 rfl rfl (El.o (getG (by omega))) rfl) ?_
             refine RQ.pv rfl (PV.move (v := v42) rfl rfl) ?_
             refine RQ.pv rfl (PV.mvI (.inl rfl) rfl) ?_
             refine RQ.pv rfl (PV.idxS (v := v42) rfl Is26 rfl SlF.o rfl rfl (by omega)) ?_
             refine RQ.pv rfl (PV.loadE1 rfl Sc2 rfl rfl (El.o (getG (by omega))) rfl) ?_
             refine RQ.pv rfl (PV.eql rfl rfl rfl) ?_
             refine RQ.pv rfl (PV.mvB (.inl rfl) rfl) ?_
             refine RQ.gs rfl rfl rfl (fun hp => (PV.field rfl Fo63_0 rfl)) ?_
             refine RQ.gs rfl rfl rfl (fun hp => (PV.load1 rfl Sc2 (gs_t hp) (Rd.blk rfl))) ?_
             refine RQ.gs rfl rfl rfl (fun hp => (PV.field rfl Fo63_0 rfl)) ?_
             refine RQ.gs rfl rfl rfl (fun hp => (PV.load1 rfl Sc2 (gs_t hp) (Rd.blk rfl))) ?_
             refine RQ.gs rfl rfl rfl (fun hp => (PV.eql rfl (gs_t hp) (gs_t hp))) ?_
             refine RQ.gs rfl rfl rfl (fun hp => (PV.mvB (.inl rfl) (gs_t hp))) ?_
             refine RQ.gs2 rfl rfl rfl (fun hp => (PV.field rfl Fo63_1 rfl)) ?_
             refine RQ.gs2 rfl rfl rfl (fun hp => (PV.load1 rfl Sc50 (gs_t hp) (Rd.blk rfl))) ?_
             refine RQ.gs2 rfl rfl rfl (fun hp => (PV.field rfl Fo63_1 rfl)) ?_
             refine RQ.gs2 rfl rfl rfl (fun hp => (PV.load1 rfl Sc50 (gs_t hp) (Rd.blk rfl))) ?_
             refine RQ.gsC2 rfl rfl rfl rfl En65 (fun hp => ⟨_, (acons (gs_t hp) (acons (gs_t hp) anil)), tch_s (hcr n (by omega)).up (hcr i (by omega)).up ⟨rfl, rfl, rfl⟩⟩) ?_
             refine RQ.gs rfl rfl rfl (fun hp => (PV.pickA rfl (gs_t hp) (fun hq => gs_t (gandT hp hq)) rfl)) ?_
             refine RQ.gs rfl rfl rfl (fun hp => (PV.mvB (.inl rfl) (gs_t hp))) ?_
             refine RQ.gs2 rfl rfl rfl (fun hp => (PV.move (v := u13) rfl rfl)) ?_
             refine RQ.gs2 rfl rfl rfl (fun hp => (PV.loadW rfl Ag63 rfl rfl)) ?_
             refine RQ.gs2 rfl rfl rfl (fun hp => (PV.loadW rfl Ag63 rfl rfl)) ?_
             refine RQ.gsC2 rfl rfl rfl rfl En66 (fun hp => ⟨_, (acons (gs_t hp) (acons (gs_t hp) (acons (gs_t hp) anil))), joined_s (p := (gd qs n).piece) (q := (gd qs i).piece) (Rs.o (v := u13)) RsE.o h8 (hcr n (by omega)).up (hcr i (by omega)).up ⟨rfl, rfl, rfl⟩⟩) ?_
             refine RQ.gs rfl rfl rfl (fun hp => (PV.pickO rfl (gs_t hp) rfl (fun hq => gs_t (gandF hp hq)))) ?_
             refine RQ.gs rfl rfl rfl (fun hp => (PV.not rfl (gs_t hp))) ?_
             refine RQ.pv rfl (PV.pickO rfl rfl rfl (fun hq => gs_t (geqF hq))) ?_
             refine RQ.nil ?_
             refine WP.cond rfl (fun h7 => ?_) (fun h7 => ?_)
             · have hs : gd c n = gd c i ∨ J n i = false := by
                 rw [hgn, hgi] at h7; rw [hJn]; revert h7
                 cases decide ((gd qs n).piece.layer = (gd qs i).piece.layer) <;> cases tchR (gd qs n).piece.reg.xs (gd qs i).piece.reg.xs <;> cases jnI (er ys13) (erP (gd qs n).piece) (erP (gd qs i).piece) <;> simp
               refine WP.exit ?_
               refine WP.region (RG.pv rfl (PV.add rfl rfl rfl (by omega)) (RG.ml rfl rfl rfl (RG.nil ?_)))
               exact ⟨rfl, n + 1, (by omega), ⟨rfl, trivial⟩, ⟨rfl, rfl, rfl, rfl, rfl, rfl, rfl, trivial⟩, ((Cv.p (C := osl 2 intT v42 (c ++ List.replicate (qs.length - (i + 1)) 0) :: osl 65 ppieceT v30 qs :: bagS 140 rectT (regsQ qs) :: osl 50 slT u13 ys13 :: bagS 140 rectT ys13 :: L)).trans (Cv.eqS (by rw [hsc, stepJ_same hs]))), by omega⟩
             · have hs : ¬ (gd c n = gd c i ∨ J n i = false) := by
                 rw [hgn, hgi] at h7; rw [hJn]; revert h7
                 cases decide ((gd qs n).piece.layer = (gd qs i).piece.layer) <;> cases tchR (gd qs n).piece.reg.xs (gd qs i).piece.reg.xs <;> cases jnI (er ys13) (erP (gd qs n).piece) (erP (gd qs i).piece) <;> simp
               have hhi0 : max (gd c n) (gd c i) ≠ 0 := by rw [not_or] at hs; omega
               refine WP.skip (WP.seq ?_)
               refine WP.regionQ (by kernel_rfl) (by kernel_rfl) ?_
               refine RQ.pv rfl (PV.move (v := v42) rfl rfl) ?_
               refine RQ.pv rfl (PV.mvI (.inl rfl) rfl) ?_
               refine RQ.pv rfl (PV.idxS (v := v42) rfl Is26 rfl SlF.o rfl rfl (by omega)) ?_
               refine RQ.pv rfl (PV.loadE1 rfl Sc2 rfl rfl (El.o (getG (by omega))) rfl) ?_
               refine RQ.pv rfl (PV.move (v := v42) rfl rfl) ?_
               refine RQ.pv rfl (PV.mvI (.inl rfl) rfl) ?_
               refine RQ.pv rfl (PV.idxS (v := v42) rfl Is26 rfl SlF.o rfl rfl (by omega)) ?_
               refine RQ.pv rfl (PV.loadE1 rfl Sc2 rfl rfl (El.o (getG (by omega))) rfl) ?_
               refine RQ.pv rfl (PV.min2 rfl rfl rfl) ?_
               refine RQ.pv rfl (PV.move (v := v42) rfl rfl) ?_
               refine RQ.pv rfl (PV.mvI (.inl rfl) rfl) ?_
               refine RQ.pv rfl (PV.idxS (v := v42) rfl Is26 rfl SlF.o rfl rfl (by omega)) ?_
               refine RQ.pv rfl (PV.loadE1 rfl Sc2 rfl rfl (El.o (getG (by omega))) rfl) ?_
               refine RQ.pv rfl (PV.move (v := v42) rfl rfl) ?_
               refine RQ.pv rfl (PV.mvI (.inl rfl) rfl) ?_
               refine RQ.pv rfl (PV.idxS (v := v42) rfl Is26 rfl SlF.o rfl rfl (by omega)) ?_
               refine RQ.pv rfl (PV.loadE1 rfl Sc2 rfl rfl (El.o (getG (by omega))) rfl) ?_
               refine RQ.pv rfl (PV.max2 rfl rfl rfl) ?_
               refine RQ.pv rfl (PV.mvI (.inr rfl) rfl) ?_
               refine RQ.pv rfl (PV.mvI (.inr rfl) rfl) ?_
               refine RQ.nil ?_
               refine WP.seq (WP.region (RG.ml rfl rfl rfl (RG.pv rfl (PV.add rfl rfl rfl (by omega)) (RG.ml rfl rfl rfl (RG.nil (WP.block ?_))))))
               rw [hgn, hgi]
               refine WP.cv ((Cv.p (C := osl 2 intT v42 (c ++ List.replicate (qs.length - (i + 1)) 0) :: osl 65 ppieceT v30 qs :: bagS 140 rectT (regsQ qs) :: osl 50 slT u13 ys13 :: bagS 140 rectT ys13 :: L)).trans (Cv.eqS (mapTo_zero (rl (min (gd c n) (gd c i)) (max (gd c n) (gd c i))) (c ++ List.replicate (qs.length - (i + 1)) 0)).symm)) ?_
               generalize hlo : min (gd c n) (gd c i) = lo at *
               generalize hhi : max (gd c n) (gd c i) = hi2 at *
               refine WP.loop1 [8, 10, 11, 12, 16, 17, 44, 45, 52, 53, 115] (fun m => m ≤ i + 1) (fun m => [(116, vi m)]) (fun m => osl 2 intT v42 (mapTo (rl lo hi2) (c ++ List.replicate (qs.length - (i + 1)) 0) m) :: osl 65 ppieceT v30 qs :: bagS 140 rectT (regsQ qs) :: osl 50 slT u13 ys13 :: bagS 140 rectT ys13 :: L) (fun m => i + 1 - m) 0 (by omega) ⟨rfl, trivial⟩ Cv.p ?_
               rintro m τ2 hm
               refine WP.seq (WP.region (RG.pv rfl (PV.lss rfl rfl rfl) (RG.nil (WP.seq ?_))))
               have hml := mapTo_len (rl lo hi2) (c ++ List.replicate (qs.length - (i + 1)) 0) (m := m) (by omega)
               refine WP.cond rfl (fun h8 => ?_) (fun h8 => ?_)
               · have h8 := of_decide_eq_true h8
                 have hmg := mapTo_gd (f := rl lo hi2) (d := c ++ List.replicate (qs.length - (i + 1)) 0) (m := m) (by omega)
                 refine WP.skip (WP.seq (WP.block (WP.seq (WP.region (RG.ml rfl rfl rfl (RG.mr rfl rfl rfl (RG.nil ?_)))))))
                 refine WP.seq (WP.region (RG.pv rfl (PV.move (v := v42) rfl rfl) (RG.ml rfl rfl rfl (RG.pv rfl (PV.idxS (v := v42) rfl Is26 rfl SlF.o rfl rfl (by omega)) (RG.pv rfl (PV.loadE1 rfl Sc2 rfl rfl (El.o (getG (by omega))) rfl) (RG.ml rfl rfl rfl (RG.pv rfl (PV.eql rfl rfl rfl) ?_)))))))
                 refine RG.nil ?_
                 refine WP.cond rfl (fun h9 => ?_) (fun h9 => ?_)
                 · refine WP.region ?_
                   refine RG.pv rfl (PV.move (v := v42) rfl rfl) (RG.ml rfl rfl rfl (RG.ml rfl rfl rfl (RG.pv rfl (PV.idxS (v := v42) rfl Is26 rfl SlF.o rfl rfl (by omega)) ?_)))
                   refine RG.ot rfl (OT.storeE (F := intT) rfl Sz2 rfl rfl rfl (Cl.c rfl) (OneC.c rfl) (by omega) ?_)
                   refine RG.nil (WP.region (RG.pv rfl (PV.add rfl rfl rfl (by omega)) (RG.ml rfl rfl rfl (RG.nil ?_))))
                   exact ⟨rfl, m + 1, (by omega), ⟨rfl, trivial⟩, ⟨rfl, rfl, rfl, rfl, rfl, rfl, rfl, rfl, rfl, rfl, rfl, trivial⟩, (Cv.eqS (by rw [← mapTo_set (by omega), rl, if_pos (by rw [hmg] at h9; simpa using h9)])), by omega⟩
                 · refine WP.skip ?_
                   refine WP.region (RG.pv rfl (PV.add rfl rfl rfl (by omega)) (RG.ml rfl rfl rfl (RG.nil ?_)))
                   exact ⟨rfl, m + 1, (by omega), ⟨rfl, trivial⟩, ⟨rfl, rfl, rfl, rfl, rfl, rfl, rfl, rfl, rfl, rfl, rfl, trivial⟩, (Cv.eqS (by rw [mapTo_skip (by omega)]; rw [rl, if_neg (by rw [hmg] at h9; simpa using h9)])), by omega⟩
               · have h8 := of_decide_eq_false h8
                 obtain rfl : m = i + 1 := by omega
                 have hma := mapTo_all (f := rl lo hi2) (c := c) (z := List.replicate (qs.length - (i + 1)) 0)
                 rw [hil2] at hma
                 refine WP.exit ?_
                 refine WP.region (RG.pv rfl (PV.add rfl rfl rfl (by omega)) (RG.ml rfl rfl rfl (RG.nil ?_)))
                 exact ⟨rfl, n + 1, (by omega), ⟨rfl, trivial⟩, ⟨rfl, rfl, rfl, rfl, rfl, rfl, rfl, trivial⟩, (Cv.eqS (by rw [hma, hsc, stepJ_map hs, hlo, hhi])), by omega⟩
           · have h5 := of_decide_eq_false h5
             obtain rfl : n = i := by omega
             refine WP.exit ?_
             refine WP.region (RG.pv rfl (PV.add rfl rfl rfl (by omega)) (RG.ml rfl rfl rfl (RG.nil ?_)))
             exact ⟨rfl, n + 1, (by omega), ⟨rfl, trivial⟩, ⟨rfl, rfl, rfl, rfl, trivial⟩, (Cv.eqS (by rw [rootsJ, hceq])), by omega⟩
         · have h3 := of_decide_eq_false h3
           obtain rfl : i = qs.length := by omega
           have hcl : rootsJ J qs.length ++ List.replicate (qs.length - qs.length) 0 = clsH (flyL (erCls l.cells.xs) cell) (plE (erCls l.cells.xs) cell) := by rw [Nat.sub_self, List.replicate_zero, List.append_nil, clsH, hJ, hEl]
           refine WP.cv (Cv.eqS hcl) ?_
           refine WP.exit ?_
           refine WP.seq (WP.region (RG.pv rfl (PV.move (v := v30) rfl rfl) (RG.pv rfl (PV.move (v := v42) rfl rfl) (RG.pv rfl (PV.asg (v := v30) rfl rfl) (RG.pv rfl (PV.asg (v := v42) rfl rfl) (RG.mr rfl rfl rfl (RG.nil ?_)))))))
           refine WP.ret ?_
           exact ⟨_, _, ResV.three rfl rfl rfl rfl, Cv.p, k v30 qs v42 her⟩
 · have e := ppC_no h1
   have e2 := hcC_pp (cs := erCls l.cells.xs) (cell := cell) (by rw [e]; exact h1)
   rw [e2, e] at k0
   refine CallT.enter (args := _) Tryz.func38 rfl rfl (by kernel_rfl) rfl ?_
   refine WP.seq (WP.region ?_)
   refine RG.ot rfl (OT.box (cs := libT.enc l) rfl rfl rfl fun b2 => ?_)
   refine RG.pv rfl (PV.asg rfl rfl) (RG.pv rfl (PV.asg rfl rfl) (RG.mr rfl rfl rfl (RG.nil (WP.seq (WP.region (RG.pv rfl (PV.loadW rfl Ag31 rfl rfl) (RG.ml rfl rfl rfl ?_)))))))
   refine RG.callF (vs := [_, _]) rfl rfl En47 rfl (plac_i hL.up hlen (fun _ => ?_) (fun h => absurd h h1))
   refine RG.pv rfl (PV.move (v := .tuple _) rfl rfl) (RG.pv rfl (PV.ext rfl rfl rfl) (RG.pv rfl (PV.ext rfl rfl rfl) (RG.pv rfl (PV.ext rfl rfl rfl) (RG.pv rfl (PV.asg rfl rfl) (RG.pv rfl (PV.asg rfl rfl) (RG.mr rfl rfl rfl (RG.nil ?_)))))))
   refine WP.seq (WP.seq (WP.region (RG.ml rfl rfl rfl (RG.pv rfl (PV.neq rfl rfl rfl) (RG.nil ?_)))))
   refine WP.cond rfl (fun h2 => ?_) (fun h2 => ?_)
   · refine WP.seq ?_
     refine WP.region (RG.ml rfl rfl rfl (RG.pv rfl (PV.asg rfl rfl) (RG.pv rfl (PV.asg rfl rfl) (RG.mr rfl rfl rfl (RG.nil ?_)))))
     refine WP.ret ?_
     exact ⟨_, _, ResV.three rfl rfl rfl rfl, Cv.p, k0 h1⟩
   · exfalso; simp at h2; exact h1 h2
end Go.Proofs.YthhjapiggekjbaaGreat
namespace Go.Proofs.YthhjapiggekjbaaGreat
set_option linter.unusedVariables false
set_option linter.unusedSimpArgs false
open Go
set_option maxRecDepth 20000
set_option maxHeartbeats 1000000
set_option linter.unusedSimpArgs false
variable {G : Gh} {L : List Ch} {R : Value → Gh → List Ch → Prop}
noncomputable def numQ (l : List (List Rect)) (E : List (Int × (Int × List Rect))) : List Int := E.map fun q => numH l q.2
theorem numQ_len (l : List (List Rect)) (E : List (Int × (Int × List Rect))) : (numQ l E).length = E.length := by simp [numQ]
theorem numQ_take {l : List (List Rect)} {qs : List PPiece} {i : Nat} (h : i < qs.length) : numQ l ((erQs qs).take (i + 1)) = numQ l ((erQs qs).take i) ++ [numH l (erP (gd qs i).piece)] := by
 rw [numQ, List.take_add_one, getG (by rw [erQs_len]; exact h), List.map_append, erQs_gd h]; rfl
theorem findQ_s {u w : Value} {l : List (List Rect)} {cs : List Part} {p : Piece} (h1 : Rs G L partT u cs) (hcd : RsE G L boolT (cels cs)) (h2 : Rs G L intT w (nums (clsL l))) (hcs : cs.map erC = pcL l 4) (k : R (vi (numH l (erP p))) G L) : CallT Tryz.prog 114 #[u, w, vi p.layer, vpt ⟨(gd p.reg.xs 0).x0, (gd p.reg.xs 0).y0⟩] G L R :=
 l23Find_s h1 hcd h2 hcs k
theorem l25Num_r {v u : Value} {qs : List PPiece} {ys : List (Sl Rect)} (h1 : Rs G L ppieceT v qs) (hd : RsE G L rectT (regsQ qs)) (h2 : Rs G L slT u ys) (hd2 : RsE G L rectT ys) (hlay : isLay (er ys) = true) (hq6 : qs.length ≤ 6000000) (hne : ∀ i, i < qs.length → 0 < (gd qs i).piece.reg.xs.length) (k : ∀ v', R v' G (osl 2 intT v' (numQ (er ys) (erQs qs)) :: L)) : CallT Tryz.prog 63 #[v, u] G L R := by
 refine CallT.bd h1 fun hb => ?_
 have hcl : (clsL (er ys)).length ≤ 25600 := by rw [clsL_len]; exact pcL_len (er ys) 4
 refine CallT.enter (args := _) Tryz.func63 rfl rfl (by kernel_rfl) rfl ?_
 refine WP.seq (WP.region (RG.pv rfl (PV.asg rfl rfl) (RG.nil (WP.seq (WP.region (RG.pv rfl (PV.move (v := u) rfl rfl) ?_))))))
 refine RG.callF (vs := [u]) rfl rfl En95 rfl (l23Parts_s h2.up hd2.up hlay (fun v12 csv12 hev12 => ?_))
 refine RG.pv rfl (PV.asg (v := v12) rfl rfl) (RG.nil (WP.seq (WP.region (RG.pv rfl (PV.move (v := v12) rfl rfl) (RG.pv rfl (PV.move (v := u) rfl rfl) ?_)))))
 refine RG.callF (vs := [v12, u]) rfl rfl En97 rfl (l23Roots_s Rs.o RsE.o h2.up hd2.up hlay hev12 (fun v16 => ?_))
 refine RG.callF (vs := [v16]) rfl rfl En96 rfl (l23Numbers_s Rs.o (clsL_rt _) hcl (fun w17 => ?_))
 refine RG.pv rfl (PV.move (v := .tuple _) rfl rfl) (RG.pv rfl (PV.ext (v := w17) rfl rfl rfl) (RG.pv rfl (PV.ext rfl rfl rfl) (RG.pv rfl (PV.asg (v := w17) rfl rfl) (RG.mr rfl rfl rfl (RG.nil (WP.seq (WP.region ?_)))))))
 refine RG.ot rfl (OT.bslice (F := intT) (els := []) rfl El26 rfl (by decide) rfl (by decide) trivial fun v20 => ?_)
 refine RG.pv rfl (PV.asg (v := v20) rfl rfl) (RG.nil (WP.seq (WP.seq (WP.region (RG.mr rfl rfl rfl (RG.nil (WP.block ?_)))))))
 refine WP.cv (Cv.eqS (show [] = numQ (er ys) ((erQs qs).take 0) from rfl)) ?_
 refine WP.loop2 [0, 5, 6] (fun (i : Nat) (q : Value) => i ≤ qs.length) (fun (i : Nat) (q : Value) => [(9, vi i), (8, q)]) (fun (i : Nat) (q : Value) => osl 2 intT q (numQ (er ys) ((erQs qs).take i)) :: osl 2 intT w17 (nums (clsL (er ys))) :: osl 166 partT v12 csv12 :: bagS 4 boolT (cels csv12) :: L) (fun (i : Nat) (q : Value) => qs.length - i) 0 v20 (by omega) ⟨rfl, rfl, trivial⟩ Cv.p ?_
 rintro i q τ hi
 refine WP.seq (WP.seq (WP.region (RG.ml rfl rfl rfl (RG.pv rfl (PV.move (v := v) rfl rfl) (RG.pv rfl (PV.len (v := v) rfl Tryz.underlying53 rfl (SlF.r h1)) (RG.pv rfl (PV.lss rfl rfl rfl) (RG.nil ?_)))))))
 have hnl : (numQ (er ys) ((erQs qs).take i)).length = i := by rw [numQ_len, List.length_take, erQs_len]; omega
 refine WP.cond rfl (fun h3 => ?_) (fun h3 => ?_)
 · have h3 := of_decide_eq_true h3
   have h4 : i < qs.length := by omega
   have hq := hd.regQ h4
   have hn0 := hne i h4
   refine WP.skip (WP.seq (WP.block (WP.seq (WP.region (RG.pv rfl (PV.move (v := v) rfl rfl) (RG.ml rfl rfl rfl (RG.pv rfl (PV.idxS (j := i) (v := v) rfl Is53 rfl (SlF.r h1) rfl (by omega) (by omega)) ?_)))))))
   refine RG.pv rfl (PV.field rfl Fo65_1 rfl) (RG.pv rfl (PV.field rfl Fo63_1 rfl) (RG.pv rfl (PV.loadF (F := ppieceT) (v := v) (i := i) (j := 2) rfl Sc50 rfl rfl (El.r h1 (getG (by omega))) rfl) (RG.pv rfl (PV.idxS (j := 0) rfl Is50 rfl (SlF.r hq) rfl (by omega) (by omega)) (RG.pv rfl (PV.loadE rfl Ag140 rfl rfl (El.r hq (getG hn0))) ?_))))
   refine RG.ot rfl (OT.alloc rfl Zr140 fun b10 => ?_)
   refine RG.ot rfl (OT.storeW (vs := [vi _, vi _, vi _, vi _]) rfl Sz140 rfl rfl (Cl.c rfl) rfl rfl (OneC.c rfl) ?_)
   refine RG.nil ?_
   refine WP.regionHD [.s q] (.q 0 (.q 1 (.q 2 (.q 3 (.q 4 (.q 5 (.q 6 (.q 7 (.q 8 (.q 9 (.q 10 (.q 11 (.q 12 (.q 13 (.l 14 (.l 15 (.l 16 (.q 17 Sch.nil)))))))))))))))))) (by kernel_rfl) (by kernel_rfl) (by kernel_rfl) rfl ?_
   refine RH.pv rfl (fun _ _ _ _ h => h) (Gh.le_refl _) PickC.pick rfl (PV.move (v := q) rfl rfl) ?_
   refine RH.pv rfl (fun _ _ _ _ h => h) (Gh.le_refl _) PickC.pick rfl (PV.move (v := v12) rfl rfl) ?_
   refine RH.pv rfl (fun _ _ _ _ h => h) (Gh.le_refl _) PickC.pick rfl (PV.move (v := w17) rfl rfl) ?_
   refine RH.pv rfl (fun _ _ _ _ h => h) (Gh.le_refl _) PickC.pick rfl (PV.move (v := v) rfl rfl) ?_
   refine RH.pv rfl (fun _ _ _ _ h => h) (Gh.le_refl _) PickC.pick rfl (PV.mvI (.inl rfl) rfl) ?_
   refine RH.pv rfl (fun _ _ _ _ h => h) (Gh.le_refl _) PickC.pick rfl (PV.idxS (j := i) (v := v) rfl Is53 rfl (SlF.r h1) rfl (by omega) (by omega)) ?_
   refine RH.pv rfl (fun _ _ _ _ h => h) (Gh.le_refl _) PickC.pick rfl (PV.field rfl Fo65_1 rfl) ?_
   refine RH.pv rfl (fun _ _ _ _ h => h) (Gh.le_refl _) PickC.pick rfl (PV.field rfl Fo63_0 rfl) ?_
   refine RH.pv rfl (fun _ _ _ _ h => h) (Gh.le_refl _) PickC.pick rfl (PV.loadF rfl Sc2 rfl rfl (El.r h1 (getG (by omega))) rfl) ?_
   refine RH.pv rfl (fun _ _ _ _ h => h) (Gh.le_refl _) PickC.pick rfl (PV.field rfl Fo140_0 rfl) ?_
   refine RH.pv rfl (fun _ _ _ _ h => h) (Gh.le_refl _) PickC.pick rfl (PV.load1 rfl Sc2 rfl (Rd.blk rfl)) ?_
   refine RH.pv rfl (fun _ _ _ _ h => h) (Gh.le_refl _) PickC.pick rfl (PV.field rfl Fo140_1 rfl) ?_
   refine RH.pv rfl (fun _ _ _ _ h => h) (Gh.le_refl _) PickC.pick rfl (PV.load1 rfl Sc2 rfl (Rd.blk rfl)) ?_
   refine RH.pv rfl (fun _ _ _ _ h => h) (Gh.le_refl _) PickC.pick rfl (PV.build (vs := [(0, [vi _]), (1, [vi _])]) (out := [_, _]) rfl Zr183 Pl183 ⟨rfl, (Cl.c rfl), ⟨rfl, (Cl.c rfl), trivial⟩⟩ rfl) ?_
   refine RH.ot rfl rfl (OT.callF (vs := [v12, w17, _, _]) rfl En114 rfl (findQ_s (l := er ys) (p := (gd qs i).piece) Rs.o RsE.o Rs.o hev12 ⟨Gh.le_refl _, PickC.pick, ?_⟩))
   refine RH.ot rfl rfl (OT.bslice (F := intT) (els := [_]) rfl El26 rfl (by decide) rfl (by decide) ⟨rfl, (Cl.c rfl), trivial⟩ fun v50 => ⟨Gh.le_refl _, PickC.pick, ?_⟩)
   refine RH.ot rfl rfl (OT.append (v := q) (u := v50) (F := intT) rfl El26 rfl (by decide) rfl rfl Rs.o (OneL.c (fun _ => rfl)) rfl (by first | omega | (simp <;> omega)) fun v51 => ⟨Gh.le_refl _, PickC.pick, ?_⟩)
   refine RH.pv rfl (fun _ _ _ _ h => h) (Gh.le_refl _) PickC.pick rfl (PV.asg (v := v51) rfl rfl) ?_
   refine RH.nil ?_
   refine WP.region (RG.ml rfl rfl rfl (RG.pv rfl (PV.add rfl rfl rfl (by omega)) (RG.mr rfl rfl rfl (RG.nil ?_))))
   exact ⟨rfl, i + 1, v51, (by omega), ⟨rfl, rfl, trivial⟩, ⟨rfl, rfl, rfl, trivial⟩, ((Cv.p (C := osl 2 intT v51 (numQ (er ys) ((erQs qs).take i) ++ [numH (er ys) (erP (gd qs i).piece)]) :: osl 2 intT w17 (nums (clsL (er ys))) :: osl 166 partT v12 csv12 :: bagS 4 boolT (cels csv12) :: L)).trans (Cv.eqS (numQ_take h4).symm)), by omega⟩
 · have h3 := of_decide_eq_false h3
   refine WP.exit ?_
   refine WP.seq (WP.region (RG.pv rfl (PV.move (v := q) rfl rfl) (RG.pv rfl (PV.asg (v := q) rfl rfl) (RG.nil ?_))))
   refine WP.ret ?_
   exact ⟨_, _, ResV.one rfl rfl, ((Cv.p (C := osl 2 intT q (numQ (er ys) ((erQs qs).take i)) :: L)).trans (Cv.eqS (by rw [List.take_of_length_le (by rw [erQs_len]; omega)]))), k q⟩
theorem cnt_pos {S : List Bool} (hS : S.length = 6400) : 0 < cnt S ↔ 0 < (canon S).length := by
 constructor
 · intro h
   have e := cnt_canon hS
   cases hc : canon S with
   | nil => rw [hc] at e; simp [areaS] at e; omega
   | cons a l => simp
 · intro h
   have hv := validR_iff.1 (reg_valid (isReg_canon hS) _ (gd_mem h))
   have hg : gb S ((gd (canon S) 0).y0 + 40).toNat ((gd (canon S) 0).x0 + 40).toNat = true := by
     have hg : gb (bits (canon S)) ((gd (canon S) 0).y0 + 40).toNat ((gd (canon S) 0).x0 + 40).toNat = true := (gb_bits_iff (by omega) (by omega)).2 ⟨_, gd_mem h, inR_iff.2 (by omega)⟩
     rwa [bits_canon hS] at hg
   have hp := (cnt_le S).1
   unfold cnt at *
   have : 0 < S.count true := List.count_pos_iff.2 (by
     unfold gb at hg
     have hk : ((gd (canon S) 0).y0 + 40).toNat * 80 + ((gd (canon S) 0).x0 + 40).toNat < S.length := by omega
     rw [← hg]; exact gd_mem hk)
   omega
theorem isLay_fly {cs : List ECell} {cell : Int} (h : shE cs cell = 0) : isLay (flyL cs cell) = true := by
 rw [flyL, decide_eq_true h]; exact isLay_layL _
theorem l25All_r {l : Lib} {cell : Int} (hL : RLib G L l.cells.v l.cells.xs) (hlen : lenC (erCls l.cells.xs)) (k0 : hcC (erCls l.cells.xs) cell ≠ 0 → ∀ v u, R (.tuple #[v, u, vi (hcC (erCls l.cells.xs) cell)]) G (osl 65 ppieceT v ([] : List PPiece) :: osl 2 intT u ([] : List Int) :: L))
   (k : hcC (erCls l.cells.xs) cell = 0 → ∀ v qs u, erQs qs = ppAll (erCls l.cells.xs) cell → R (.tuple #[v, u, vi 0]) G (osl 65 ppieceT v qs :: bagS 140 rectT (regsQ qs) :: osl 2 intT u (numQ (flyL (erCls l.cells.xs) cell) (ppAll (erCls l.cells.xs) cell)) :: L)) : CallT Tryz.prog 36 #[vT libT l, vi cell] G L R := by
 refine CallT.enter (args := _) Tryz.func36 rfl rfl (by kernel_rfl) rfl ?_
 refine WP.seq (WP.region ?_)
 refine RG.ot rfl (OT.box (cs := libT.enc l) rfl rfl rfl fun b2 => ?_)
 refine RG.pv rfl (PV.asg rfl rfl) (RG.pv rfl (PV.asg rfl rfl) (RG.mr rfl rfl rfl (RG.nil (WP.seq (WP.region (RG.pv rfl (PV.loadW rfl Ag31 rfl rfl) (RG.ml rfl rfl rfl ?_)))))))
 refine RG.callF (vs := [_, _]) rfl rfl En29 rfl (pp_r hL.up hlen (fun w14 qs hq => ?_))
 refine RG.pv rfl (PV.move (v := .tuple _) rfl rfl) (RG.pv rfl (PV.ext (v := w14) rfl rfl rfl) (RG.pv rfl (PV.ext rfl rfl rfl) (RG.pv rfl (PV.asg (v := w14) rfl rfl) (RG.mr rfl rfl rfl (RG.nil (WP.seq (WP.seq ?_)))))))
 refine WP.region (RG.ml rfl rfl rfl (RG.pv rfl (PV.neq rfl rfl rfl) (RG.nil ?_)))
 refine WP.cond rfl (fun h1 => ?_) (fun h1 => ?_)
 · have h1 : ppC (erCls l.cells.xs) cell ≠ 0 := by simpa using h1
   have k0 := k0 (by rw [hcC_pp h1]; exact h1)
   rw [hcC_pp h1] at k0
   refine WP.seq (WP.region ?_)
   refine RG.ot rfl (OT.bslice (F := ppieceT) (els := []) rfl El53 rfl (by decide) rfl (by decide) trivial fun v19 => ?_)
   refine RG.ot rfl (OT.bslice (F := intT) (els := []) rfl El26 rfl (by decide) rfl (by decide) trivial fun v20 => ?_)
   refine RG.ml rfl rfl rfl (RG.pv rfl (PV.asg (v := v19) rfl rfl) (RG.pv rfl (PV.asg (v := v20) rfl rfl) (RG.mr rfl rfl rfl (RG.nil ?_))))
   refine WP.ret ?_
   exact ⟨_, _, ResV.three rfl rfl rfl rfl, Cv.p, k0 v19 v20⟩
 · have h1 : ppC (erCls l.cells.xs) cell = 0 := by simpa using h1
   have h0 := (ppC_0 h1).1
   rw [ppR_yes h1] at hq
   have hq0 : ∀ i, i < qs.length → isReg (gd qs i).piece.reg.xs = true := fun i hi => placed_reg hq hi
   obtain ⟨hf8, hfr⟩ := fly_reg h0
   refine WP.skip (WP.seq (WP.region (RG.pv rfl (PV.loadW rfl Ag31 rfl rfl) (RG.ml rfl rfl rfl ?_))))
   refine RG.callF (vs := [_, _]) rfl rfl En52 rfl (fly_r hL.up hlen (fun w25 ys hy => have hy8 : ys.length = 8 := (by rw [← er_len, hy, hf8]); have hy1 : (gd ys 1).xs = gd (flyL (erCls l.cells.xs) cell) 1 := (by rw [← er_gd, hy]); have hva : ∀ r ∈ (gd ys 1).xs, validRect r = true := (by rw [hy1]; exact reg_valid hfr); ?_))
   refine RG.pv rfl (PV.move (v := .tuple _) rfl rfl) (RG.pv rfl (PV.ext (v := w25) rfl rfl rfl) (RG.pv rfl (PV.ext rfl rfl rfl) (RG.pv rfl (PV.asg (v := w25) rfl rfl) (RG.mr rfl rfl rfl (RG.nil (WP.seq (WP.seq ?_)))))))
   refine WP.region (RG.pv rfl (PV.move (v := w14) rfl rfl) (RG.pv rfl (PV.move (v := w25) rfl rfl) (RG.pv rfl (PV.idxS (j := 1) (v := w25) rfl Is47 rfl SlF.o rfl (by omega) (by omega)) (RG.pv rfl (PV.loadE1 rfl Sc50 rfl rfl (El.o (getG (by omega))) rfl) ?_))))
   refine RG.callF (vs := [_]) rfl rfl En62 rfl (l03Bits_s (Rs.inBag (xs := ys) 1 (by omega)) (fun j hj => hva _ (gd_mem hj)) (fun v32 => ?_))
   refine RG.callF (vs := [w14, v32]) rfl rfl En61 rfl (cross_r Rs.o RsE.o Rs.o (bits_length _) (fun i hi => hq0 i hi) (fun v33 O hO hg => ?_))
   refine RG.callF (vs := [v33]) rfl rfl En60 rfl (l19Count_s Rs.o hO ?_)
   refine RG.pv rfl (PV.gtr rfl rfl rfl) (RG.nil ?_)
   have eO : O = crB (ppAll (erCls l.cells.xs) cell) (bits (gd (flyL (erCls l.cells.xs) cell) 1)) := by
     refine crB_eq hO fun y x h3 h4 => ?_
     rw [hg y x h3 h4, hq, hy1]
   have ecr : crL (erCls l.cells.xs) cell = canon O := by rw [crL, decide_eq_true h0, eO]; rfl
   have hcp := cnt_pos hO
   rw [← ecr] at hcp
   refine WP.cond rfl (fun h2 => ?_) (fun h2 => ?_)
   · have h2 := hcp.1 (by simpa using h2)
     have k0 := k0 (by rw [hcC_cr h1 h2]; decide)
     rw [hcC_cr h1 h2] at k0
     refine WP.seq (WP.region ?_)
     refine RG.ot rfl (OT.bslice (F := ppieceT) (els := []) rfl El53 rfl (by decide) rfl (by decide) trivial fun v36 => ?_)
     refine RG.ot rfl (OT.bslice (F := intT) (els := []) rfl El26 rfl (by decide) rfl (by decide) trivial fun v37 => ?_)
     refine RG.pv rfl (PV.asg (v := v36) rfl rfl) (RG.pv rfl (PV.asg (v := v37) rfl rfl) (RG.mr rfl rfl rfl (RG.nil ?_)))
     refine WP.ret ?_
     exact ⟨_, _, ResV.three rfl rfl rfl rfl, Cv.p, k0 v36 v37⟩
   · have h2 : ¬ 0 < (crL (erCls l.cells.xs) cell).length := fun h => by simp at h2; have := hcp.2 h; omega
     have k := k (hcC_ok h1 h2)
     have hPA := plE_all h0 (crL_no h0 h2)
     have hq4 := (ppC_0 h1).2
     have hql : qs.length = (ppAll (erCls l.cells.xs) cell).length := by rw [← erQs_len, hq]
     have hne : ∀ i, i < qs.length → 0 < (gd qs i).piece.reg.xs.length := fun i hi => by
       obtain ⟨j, hj⟩ := hPA.mem (erP (gd qs i).piece) (by rw [plE, ← hq, ← erQs_snd hi]; exact gd_mem (by rw [List.length_map, erQs_len]; exact hi))
       exact (region_first hj.reg hj.ne).1
     refine WP.skip (WP.seq (WP.region (RG.pv rfl (PV.move (v := w14) rfl rfl) (RG.pv rfl (PV.move (v := w14) rfl rfl) (RG.pv rfl (PV.move (v := w25) rfl rfl) ?_)))))
     refine RG.callF (vs := [w14, w25]) rfl rfl En63 rfl (l25Num_r Rs.o RsE.o Rs.o RsE.o (by rw [hy]; exact isLay_fly h0) (by omega) hne (fun v41 => ?_))
     refine RG.pv rfl (PV.asg (v := w14) rfl rfl) (RG.pv rfl (PV.asg (v := v41) rfl rfl) (RG.mr rfl rfl rfl (RG.nil ?_)))
     refine WP.ret ?_
     exact ⟨_, _, ResV.three rfl rfl rfl rfl, (Cv.p (C := osl 65 ppieceT w14 qs :: bagS 140 rectT (regsQ qs) :: osl 2 intT v41 (numQ (er ys) (erQs qs)) :: L)).trans (Cv.cons (Cv.cons (Cv.eqS (by rw [hq, hy])))), k w14 qs v41 hq⟩
theorem hc_all {cs : List ECell} {cell : Int} (h : hcC cs cell = 0) : shE cs cell = 0 ∧ PAll (flyL cs cell) (plE cs cell) := by
 obtain ⟨h1, h2⟩ := hcC_0 h
 have h0 := (ppC_0 h1).1
 exact ⟨h0, plE_all h0 (crL_no h0 h2)⟩
end Go.Proofs.YthhjapiggekjbaaGreat
namespace Go.Proofs.YthhjapiggekjbaaGreat
set_option linter.unusedVariables false
set_option linter.unusedSimpArgs false
open Go Go.ChangeShapes Go.WideShapes Go.ChangeAt Go.RowKit Go.Deep
set_option linter.unusedVariables false
def Gw (w : World) : Gh := ⟨wh w, w.os, w.tape, w.output, w.drawn⟩
theorem St.start (w : World) : St (Gw w) [] w := ⟨fun _ => none, trivial, Hp.le_refl _, (fun _ _ h => by cases h), fun _ => .inl rfl, rfl, rfl, rfl, Nat.le_refl _⟩
/-- behind a call that began in W, all of W's blocks are as they were -/
theorem St.below {W w' : World} {G : Gh} {L : List Ch} (l : Gh.le (Gw W) G) (h : St G L w') : Below W.heap.size W w' := by
 obtain ⟨hp, s, l1, l2, d, ok⟩ := h
 have ok' := Gh.le_ok l ok
 have up := Hp.le_trans l.1 l1
 have key : ∀ k, k < W.heap.size → w'.heap[k]? = W.heap[k]? := fun k hk => by
   have : (Gw W).f k = some W.heap[k] := by simp [Gw, wh, hk]
   have h2 := up k _ this
   simp only [wh] at h2
   rw [h2]; simp [hk]
 refine ⟨ok'.1, ok'.2.1, ok'.2.2.1, ?_, key⟩
 by_cases h0 : W.heap.size = 0
 · omega
 · have := key (W.heap.size - 1) (by omega)
   rw [Array.getElem?_eq_getElem (by omega : W.heap.size - 1 < W.heap.size)] at this
   have := (Array.getElem?_eq_some_iff.1 this).1
   omega
def Opn {ρ : Type} (P : Program) (t : TypeId) (F : FT ρ) (ok : Gh → ρ → Prop) : Prop :=
  ∀ {H : Type} {enc : TypeId × Value → H} {w : World} {fuel : Nat} {cs : List Value} {x : DataW H × List MemPlace}, DataW.trod enc P w 0 (fun _ => true) true fuel t cs = some x → ∃ a : ρ, cs = F.enc a ∧ ok (Gw w) a
def okL {ρ : Type} [Inhabited ρ] (F : FT ρ) (ok : Gh → ρ → Prop) (G : Gh) (v : Value) : Prop := ∃ xs : List ρ, SL G F v xs ∧ ∀ i, i < xs.length → ok G (gd xs i)
section
variable {P : Program} {t e : TypeId}
theorem cells_get {w : World} {a : Addr} {n : Nat} {cs : List Value} (h : w.cells? 0 a n = some cs) : cs.length = n ∧ ∀ j c, cs[j]? = some c → w.cell? (a.add j) = some c := by
 obtain ⟨_, h1, h2⟩ := World.cells?_some h
 refine ⟨h1, fun j c hc => ?_⟩
 have hj := (List.getElem?_eq_some_iff.1 hc).1
 rw [h2 j (by omega), hc]
theorem opnL {ρ : Type} [Inhabited ρ] {F : FT ρ} {ok : Gh → ρ → Prop} (ht : P.underlying t = some (.slice e)) (hE : Opn P e F ok) (hc : P.cellsOf e = F.sz) (h0 : 0 < F.sz) : Opn P t rawT (okL F ok) := fun {H enc w fuel cs x} h => by
 rcases open_slice ht h with ⟨rfl, _⟩ | ⟨a, len, cap, m, n, D, Pl, rfl, _, hl, hm, hmm, _, hel⟩
 · exact ⟨_, rfl, [], ⟨⟨0, Nat.le_refl _, Nat.zero_le _, .inr ⟨⟨_, rfl⟩, rfl⟩⟩, fun j c hj => by simp [FT.flat] at hj⟩, fun i hi => by simp at hi⟩
 have hmcap : m = cap := by simpa using hmm
 refine ⟨.slice (some a) len cap, rfl, ?_⟩
 have hall : ∀ i, i < len → ∃ r : ρ, w.cells? 0 (a.add (i * F.sz)) F.sz = some (F.enc r) ∧ ok (Gw w) r := fun i hi => by
   obtain ⟨cs', h1, h2⟩ := hel i (by omega)
   obtain ⟨r, rfl, hr⟩ := hE h2
   rw [hc] at h1
   exact ⟨r, h1, hr⟩
 have : ∃ f : Nat → ρ, ∀ i, i < len → w.cells? 0 (a.add (i * F.sz)) F.sz = some (F.enc (f i)) ∧ ok (Gw w) (f i) := choose_lt hall
 obtain ⟨f, hf⟩ := this
 have hlen : ((List.range len).map f).length = len := by simp
 have hget : ∀ i, i < len → ((List.range len).map f)[i]? = some (f i) := fun i hi => by simp [hi]
 have hsp : len ≠ 0 → a.spot = none := fun hz => by
   obtain ⟨h1, _⟩ := hf 0 (by omega)
   obtain ⟨hl1, hg⟩ := cells_get h1
   cases hq : (F.enc (f 0))[0]? with
   | none => rw [List.getElem?_eq_none_iff] at hq; omega
   | some c =>
     have hcell := hg 0 c hq
     cases hs : a.spot with
     | none => rfl
     | some s =>
       exfalso
       have h3 : ((a.add (0 * F.sz)).add 0).spot.isSome = true := by simp [Addr.add, hs]
       unfold World.cell? at hcell
       split at hcell
       · rw [if_pos h3] at hcell; cases hcell
       · cases hcell
 refine ⟨(List.range len).map f, ⟨⟨cap, by simpa using hl, hm, ?_⟩, ?_⟩, fun i hi => ?_⟩
 · by_cases hz : len = 0
   · exact .inr ⟨⟨some a, by simp⟩, by simpa using hz⟩
   · refine .inl ⟨a.block, a.off, ?_⟩
     have hsp := hsp hz
     simp only [hlen]
     obtain ⟨ab, ao, az⟩ := a
     simp only at hsp
     subst hsp; rfl
 · intro j c hj
   by_cases hz : len = 0
   · subst hz; simp [FT.flat] at hj
   have hsp := hsp hz
   have hjl : j < len * F.sz := by
     have := (List.getElem?_eq_some_iff.1 hj).1
     rwa [FT.flat_len, hlen] at this
   have hq : j / F.sz < len := (Nat.div_lt_iff_lt_mul h0).2 hjl
   have hr : j % F.sz < F.sz := Nat.mod_lt _ h0
   have hjd : j / F.sz * F.sz + j % F.sz = j := by rw [Nat.mul_comm]; exact Nat.div_add_mod j F.sz
   obtain ⟨h1, _⟩ := hf (j / F.sz) hq
   obtain ⟨_, hg⟩ := cells_get h1
   have hc' : (F.enc (f (j / F.sz)))[j % F.sz]? = some ((F.enc (f (j / F.sz)))[j % F.sz]'(by rw [F.len]; exact hr)) := List.getElem?_eq_getElem _
   have hfl := F.flat_get (hget _ hq) hc'
   rw [hjd, hj] at hfl
   have hcell := hg _ _ hc'
   obtain ⟨ab, ao, az⟩ := a
   simp only at hsp
   subst hsp
   rw [add_none, add_none, cell_hc, Nat.add_assoc, hjd] at hcell
   simp only [sb, so, Gw]
   rw [hcell]; exact hfl.symm
 · have hi' : i < len := by simpa using hi
   have : gd ((List.range len).map f) i = f i := by simp [gd, hi']
   rw [this]; exact (hf i hi').2
end
def okSl {ρ : Type} [Inhabited ρ] (F : FT ρ) (ok : Gh → ρ → Prop) (G : Gh) (s : Sl ρ) : Prop := SL G F s.v s.xs ∧ ∀ i, i < s.xs.length → ok G (gd s.xs i)
theorem opnSl {P : Program} {t e : TypeId} {ρ : Type} [Inhabited ρ] {F : FT ρ} {ok : Gh → ρ → Prop} (ht : P.underlying t = some (.slice e)) (hE : Opn P e F ok) (hc : P.cellsOf e = F.sz) (h0 : 0 < F.sz) : Opn P t slT (okSl F ok) := fun h => by
 obtain ⟨v, rfl, xs, h1, h2⟩ := opnL ht hE hc h0 h
 exact ⟨⟨v, xs⟩, rfl, h1, h2⟩
section
variable {P : Program} {t e : TypeId} {H : Type} {enc : TypeId × Value → H} {W : World} {r : Reach} {base : Nat} {v : Value} {d : DataW H} {ps : List MemPlace}
theorem argSl {ρ : Type} {ok : Gh → Sl ρ → Prop} (ht : P.underlying t = some (.slice e)) (hO : Opn P t slT ok) (hv : Value.okWide P W r base t v) (h : DataW.Trod enc P W 0 (fun _ => true) true t v d ps) : ∃ s : Sl ρ, v = s.v ∧ ok (Gw W) s := by
 obtain ⟨a, n, c, rfl⟩ := okWide_slice ht hv
 obtain ⟨fuel, hf⟩ := h
 obtain ⟨m, e1, hm⟩ := hO hf
 simp [Value.cells, slT] at e1
 exact ⟨m, e1, hm⟩
theorem trodAll_stays (hl : laidOutB P = true) {W' : World} (hb : Below W.heap.size W W') : ∀ {ts : List TypeId} {vs : List Value} {ds : List (DataW H)} {ps : List MemPlace}, (∀ t ∈ ts, P.readableRec t = true ∧ t < P.types.size) → (∀ x ∈ ps, x.block < W.heap.size) →
   DataW.TrodAll enc P W 0 (fun _ => true) true ts vs ds ps → DataW.TrodAll enc P W' 0 (fun b => decide (b < W.heap.size)) true ts vs ds ps
 | [], [], [], _, _, _, h => h
 | t :: ts, v :: vs, d :: ds, ps, hr, hlt, h => by
   obtain ⟨p, q, h1, h2, rfl⟩ := h
   have := hr t (.head _)
   exact ⟨p, q, Below.trod hl this.1 this.2 h1 hb (fun x hx => hlt x (List.mem_append_left _ hx)), trodAll_stays hl hb (fun t ht => hr t (.tail _ ht)) (fun x hx => hlt x (List.mem_append_right _ hx)) h2, rfl⟩
end
def recsB (P : Program) (ts : List TypeId) : Bool := ts.all fun t => P.readableRec t && Nat.blt t P.types.size
theorem recs_of {P : Program} {ts : List TypeId} (h : recsB P ts = true) : ∀ t ∈ ts, P.readableRec t = true ∧ t < P.types.size := by
 intro t ht
 have := List.all_eq_true.1 h t ht
 simp only [Bool.and_eq_true] at this
 exact ⟨this.1, Nat.le_of_ble_eq_true this.2⟩
/-- A LAW, LIFTED: the call returns true, the arguments read as they did. -/
theorem law_lifted {H : Type} {enc : TypeId × Value → H} {C : Checked} {os : Os} {f : FuncId} {fn : Func} {s : ChangeSpec} {tb : TypeId} (own : ownKnob C.prog.godebug = none) (started : os.Started) (noInit : C.prog.inits.idxOf? f = none) (hfn : C.prog.funcs[f]? = some fn) (hl : laidOutB C.prog = true)
   (hvars : s.vars = []) (hr : recsB C.prog fn.params.toList = true) (hres : fn.resultTypes = #[tb]) (htb : C.prog.underlying tb = some .bool)
   (hsp : ∀ ds : List (DataW H), ds.length = fn.params.toList.length → s.fn H ds = { results := [.lit (.bool true)], args := ds })
   (witness : ∃ (w : World) (tape : Tape) (i : Input), w.os = os ∧ (w.forCall tape i).Shaped C.prog ∧ i.vars = [] ∧ Input.okWide C.prog (w.forCall tape i) .any w.heap.size f i ∧
     s.pre6 enc C.prog fn [] false (w.forCall tape i).memory i.args ∧ ({} : Assume).holds C.prog (lone (Frame.enter C.prog f i.args .normal) [] (w.forCall tape i)))
   (walk : ∀ (W : World) (base : Nat) (args : Array Value) (ds : List (DataW H)) (ps : List MemPlace), (∀ (j : Nat) t v, fn.params[j]? = some t → args[j]? = some v → Value.okWide C.prog W .any base t v) →
     DataW.TrodAll enc C.prog W 0 (fun _ => true) true fn.params.toList args.toList ds ps → CallT C.prog f args (Gw W) [] fun v G _ => v = .bool true ∧ Gh.le (Gw W) G) :
   ReturnsInHanded {} C os f .any (s.pre6 enc C.prog fn [] false) (s.post enc C.prog fn false true false false) := by
 refine returnsInHanded_of_change own started noInit hfn witness ?_
 intro W base args ds gs before hval hW _ _
 have hW' := hW
 obtain ⟨p, q, hA, hV, rfl, hfz, hnd⟩ := hW
 rw [hvars] at hV
 obtain ⟨rfl, rfl⟩ := trodVars_none hV
 refine ((walk W base args ds p hval hA).run (St.start W)).mono ?_
 rintro e W' ⟨v, G, L, rfl, hs, rfl, hG⟩
 have hb := hs.below hG
 have hlt : ∀ x ∈ p, x.block < W.heap.size := fun x hx => hW'.lt x (List.mem_append_left _ hx)
 have hlen : ds.length = fn.params.toList.length := by
   have : ∀ (ts : List TypeId) (vs : List Value) (ds : List (DataW H)) (ps : List MemPlace), DataW.TrodAll enc C.prog W 0 (fun _ => true) true ts vs ds ps → ds.length = ts.length := by
     intro ts
     induction ts with
     | nil => intro vs ds ps h; cases vs <;> cases ds <;> simp_all [DataW.TrodAll]
     | cons t ts ih =>
       intro vs ds ps h
       cases vs <;> cases ds <;> simp only [DataW.TrodAll] at h
       obtain ⟨_, _, _, h2, _⟩ := h
       simp [ih _ _ _ h2]
   exact this _ _ _ _ hA
 refine ⟨_, rfl, ds, [], _, [], p, [], hW', ?_, ?_, ?_, hb.frame _, fun h => by cases h⟩
 · rw [List.append_nil, hsp ds hlen, hres]
   exact trodAll_mk1 (shut_bool htb true)
 · rw [List.append_nil, hsp ds hlen]
   exact trodAll_stays hl hb (recs_of hr) hlt hA
 · rw [List.append_nil, hsp ds hlen, hvars]
   exact rfl
end Go.Proofs.YthhjapiggekjbaaGreat
namespace Go.Proofs.YthhjapiggekjbaaGreat
set_option linter.unusedVariables false
set_option linter.unusedSimpArgs false
open Go
set_option linter.unusedSimpArgs false
theorem St.more {G : Gh} {L : List Ch} {w w' : World} (h : St G L w) (le : Hp.le (wh w) (wh w')) (q : Quiet w w') : St G L w' := by
 obtain ⟨hp, s, l1, l2, d, ok⟩ := h
 exact ⟨hp, s, Hp.le_trans l1 le, Hp.le_trans l2 le, d, Gh.ok_of ok q⟩
/-- a world that keeps all blocks of another -/
theorem world_ext {W w' : World} {L : List Ch} (h : St (Gw W) L w') : ∃ q os, w' = Go.Sort.grow (W.drewN q) os := by
 obtain ⟨hp, s, l1, l2, d, o1, o2, o3, o4⟩ := h
 have key : ∀ k, k < W.heap.size → w'.heap[k]? = W.heap[k]? := fun k hk => by
   have h1 : (Gw W).f k = some W.heap[k] := by simp [Gw, wh, hk]
   have h2 := l1 k _ h1
   simp only [wh] at h2
   rw [h2]; simp [hk]
 have hs : W.heap.size ≤ w'.heap.size := by
   by_cases h0 : W.heap.size = 0
   · omega
   · have := key (W.heap.size - 1) (by omega)
     rw [Array.getElem?_eq_getElem (by omega : W.heap.size - 1 < W.heap.size)] at this
     have := (Array.getElem?_eq_some_iff.1 this).1
     omega
 have hh : w'.heap = W.heap ++ w'.heap.extract W.heap.size w'.heap.size := by
   apply Array.ext_getElem?
   intro i
   rw [Array.getElem?_append]
   split
   · exact key i ‹_›
   · rw [Array.getElem?_extract]
     by_cases c : i < w'.heap.size
     · rw [if_pos (by omega)]; congr 1; omega
     · rw [if_neg (by omega), Array.getElem?_eq_none (by omega)]
 refine ⟨w'.drawn - W.drawn, w'.heap.extract W.heap.size w'.heap.size, ?_⟩
 have e1 : w'.os = W.os := o1
 have e2 : w'.tape = W.tape := o2
 have e3 : w'.output = W.output := o3
 have e4 : w'.drawn = W.drawn + (w'.drawn - W.drawn) := by have : W.drawn ≤ w'.drawn := o4; omega
 generalize w'.heap.extract W.heap.size w'.heap.size = os at hh
 generalize w'.drawn - W.drawn = q at e4
 cases w'
 simp only at hh e1 e2 e3 e4
 subst hh e1 e2 e3 e4
 rfl
/-- a slice that is read in a world is read in whatever comes after it -/
theorem Rs.at {α : Type} {G : Gh} {L : List Ch} {F : FT α} {v : Value} {xs : List α} (h : Rs G L F v xs) {W : World} (hs : St G L W) : Rs (Gw W) [] F v xs := fun w2 h2 => by
 obtain ⟨i, c⟩ := h W hs
 refine ⟨i, fun j x hj => ?_⟩
 have h3 := c j x hj
 obtain ⟨hp, s, l1, _⟩ := h2
 rw [cell_hc] at *
 exact Hc.le l1 h3
theorem gd_arr {α : Type} [Inhabited α] (d : Array α) (i : Nat) (h : i < d.size) : gd d.toList i = d[i]! := by
 rw [gd_eq (by simpa using h), getElem!_pos d i h]; simp
/-- the cells of a row of members of a list -/
theorem flatK_at {α : Type} [Inhabited α] {xs : List α} [Inhabited {x : α // x ∈ xs}] {F : FT α} (d : Array {x : α // x ∈ xs}) {j : Nat} (hj : j < d.size * F.sz) : (F.flat (d.toList.map Subtype.val))[j]? = some ((Go.Sort.flatK (fun x : {x : α // x ∈ xs} => F.enc x.1) F.sz d)[j]!) := by
 have hs : 0 < F.sz := by rcases Nat.eq_zero_or_pos F.sz with h | h
                          · rw [h] at hj; omega
                          · exact h
 have hi : j / F.sz < d.size := (Nat.div_lt_iff_lt_mul hs).2 hj
 have hm : j % F.sz < F.sz := Nat.mod_lt _ hs
 have hl : j / F.sz < (d.toList.map Subtype.val).length := by simpa using hi
 have e : gd (d.toList.map Subtype.val) (j / F.sz) = (d[j / F.sz]!).1 := by
   rw [gd_map _ (by simpa using hi), gd_arr d _ hi]
 have h1 := flat_at F hl (j % F.sz) (by rw [F.len]; exact hm)
 have e2 : j / F.sz * F.sz + j % F.sz = j := by rw [Nat.mul_comm]; exact Nat.div_add_mod j F.sz
 rw [e2, e] at h1
 have hl2 : j % F.sz < (F.enc (d[j / F.sz]!).1).length := by rw [F.len]; exact hm
 rw [h1, Go.Sort.get_flatK _ _ _ _ hj, List.getElem?_eq_getElem hl2]
 exact congrArg some (getElem!_pos (F.enc (d[j / F.sz]!).1) _ hl2).symm
theorem sortF {α : Type} [Inhabited α] {P : Program} {ρ : Go.Shelf.Ren} (Ly : Go.Proofs.SlLaysF0.n6 P ρ) {F : FT α} {e : TypeId} {v : Value} {xs : List α} {G : Gh} {L : List Ch} {g : Nat} {cf : α → α → Int} {R : Value → Gh → List Ch → Prop}
   (aE : ∀ w, (isAgg (ρ.t 24)).run P w = .ok true w) (zE : ∀ w, (Go.sizeOf (ρ.t 24)).run P w = .ok F.sz w) (eg : ∀ args w, (callFunc g args).run P w = .ok (.enter g args) w)
   (hn : xs.length < 4611686018427387904) (h1 : ∀ x ∈ xs, ∀ u ∈ F.enc x, u.oneCell' = true) (hir : ∀ x ∈ xs, ¬ cf x x < 0) (htr : ∀ x ∈ xs, ∀ y ∈ xs, ∀ z ∈ xs, cf x y < 0 → cf y z < 0 → cf x z < 0) (hnt : ∀ x ∈ xs, ∀ y ∈ xs, ∀ z ∈ xs, ¬ cf x y < 0 → ¬ cf y z < 0 → ¬ cf x z < 0)
   (hc : ∀ W, St G L W → ∀ x ∈ xs, ∀ y ∈ xs, CallT P g #[.agg (F.enc x).toArray, .agg (F.enc y).toArray] (Gw W) [] fun v' G' _ => v' = vi (cf x y) ∧ G' = Gw W)
   (k : ∀ zs : List α, zs.Perm xs → zs.Pairwise (fun a b => ¬ cf b a < 0) → R (.tuple #[]) G (osl e F v zs :: L)) : CallT P (ρ.f 6) #[v, .func (.func g) #[] #[]] G (osl e F v xs :: L) R := by
 refine CallT.of fun w hs => ?_
 obtain ⟨hp, s, l1, l2, d, ok⟩ := id hs
 obtain ⟨p1, p2, d12, m1, m2, hc1, s2⟩ := s
 rcases hc1 with ⟨rfl, rfl⟩ | ⟨b, cap, c, rfl, hb, hle, hcap, hsz, htk⟩
 · refine (Go.Proofs.AnyF.slices_SortFunc_none Ly none 0 _ w).mono ?_
   rintro e' w' ⟨rfl, rfl⟩
   exact ⟨_, G, _, rfl, hs, k [] (List.Perm.refl _) List.Pairwise.nil⟩
 · by_cases h0 : xs = []
   · subst h0
     refine (Go.Proofs.AnyF.slices_SortFunc_none Ly (some ⟨b, 0, none⟩) cap _ w).mono ?_
     rintro e' w' ⟨rfl, rfl⟩
     exact ⟨_, G, _, rfl, hs, k [] (List.Perm.refl _) List.Pairwise.nil⟩
   · haveI : Inhabited {x : α // x ∈ xs} := ⟨⟨xs.head h0, List.head_mem h0⟩⟩
     have hb' : w.heap[b]? = some (.cells c e (0, 0)) := l2 _ _ (m1 _ _ hb)
     have hbw : b < w.heap.size := (Array.getElem?_eq_some_iff.1 hb').1
     have gb0 : G.f b = none := by
       rcases d b with h | h
       · rw [m1 _ _ hb] at h; cases h
       · exact h
     have pb0 : p2 b = none := by
       rcases d12 b with h | h
       · rw [hb] at h; cases h
       · exact h
     have hds : (xs.attach.toArray).size = xs.length := by simp
     have hct : ∀ j, j < xs.length * F.sz → c[j]? = (F.flat xs)[j]? := fun j hj => by
       rw [← htk, List.getElem?_take, if_pos hj]; simp
     have hH : Go.Sort.HoldsK (fun x : {x : α // x ∈ xs} => F.enc x.1) F.sz w b 0 xs.attach.toArray := by
       intro j hj
       rw [Go.Sort.size_flatK, hds] at hj
       have h2 := flatK_at (F := F) xs.attach.toArray (j := j) (by rw [hds]; exact hj)
       rw [List.toList_toArray, List.attach_map_subtype_val] at h2
       refine ⟨?_, ?_⟩
       · rw [Nat.zero_add, cell_hc]
         simp only [Hc, wh, hb']
         rw [hct j hj, h2]; rfl
       · simp [World.frozen?, hb']
     have hW : ∀ (m : Nat) (os : Array Obj) (dk : Array {x : α // x ∈ xs}), St G L (Go.Proofs.sortWorldK (fun x : {x : α // x ∈ xs} => F.enc x.1) F.sz w b 0 m dk os) := fun m os dk => by
       have hwb : ∀ q o, q ≠ b → wh w q = some o → wh (Go.Proofs.sortWorldK (fun x : {x : α // x ∈ xs} => F.enc x.1) F.sz w b 0 m dk os) q = some o := fun q o hq h => by
         have hq2 : q < w.heap.size := (Array.getElem?_eq_some_iff.1 h).1
         simp only [wh, Go.Proofs.sortWorldK, Go.Sort.grow, Go.Sort.putRowK, Go.Sort.putRow, Go.Sort.mapBlock, Go.Sort.ahead] at h ⊢
         rw [Array.getElem?_append, if_pos (by simpa using hq2), Array.getElem?_modify, if_neg (Ne.symm hq)]
         exact h
       refine ⟨p2, s2, fun q o h => hwb q o ?_ (l1 q o h), fun q o h => hwb q o ?_ (l2 q o (m2 q o h)), fun q => ?_, ok.1, ok.2.1, ok.2.2.1, Nat.le_trans ok.2.2.2 ?_⟩
       · rintro rfl; rw [gb0] at h; cases h
       · rintro rfl; rw [pb0] at h; cases h
       · rcases d q with h | h
         · left
           cases hh : p2 q with
           | none => rfl
           | some o => rw [m2 q o hh] at h; cases h
         · exact .inr h
       · simp only [Go.Proofs.sortWorldK, Go.Sort.grow, Go.Sort.putRowK, Go.Sort.putRow, Go.Sort.mapBlock, Go.Sort.ahead]; omega
     have hcmp : Go.Proofs.CmpLays P g #[] (fun x : {x : α // x ∈ xs} => F.enc x.1) F.sz (fun x y => cf x.1 y.1) b 0 xs.attach.toArray.size w := fun m os dk hdk x y => by
       have h2 := (hc _ (hW m os dk) x.1 x.2 y.1 y.2).run (St.start _)
       rw [Array.append_empty]
       refine h2.mono ?_
       rintro e' w' ⟨v', G', L', rfl, hst, rfl, rfl⟩
       exact ⟨rfl, world_ext hst⟩
     have hO : Go.Sort.SWO (Go.Proofs.ltOf fun x y : {x : α // x ∈ xs} => cf x.1 y.1) := by
       refine ⟨fun x => ?_, fun x y z q1 q2 => ?_, fun x y z q1 q2 => ?_⟩ <;> simp only [Go.Proofs.ltOf, decide_eq_true_eq, decide_eq_false_iff_not] at *
       · exact hir x.1 x.2
       · exact htr x.1 x.2 y.1 y.2 z.1 z.2 q1 q2
       · exact hnt x.1 x.2 y.1 y.2 z.1 z.2 q1 q2
     have hcon := Go.Proofs.AnyQ.slices_SortFunc Ly F.sz aE zE (fun x : {x : α // x ∈ xs} => F.enc x.1) (fun x => F.len x.1) (fun x => h1 x.1 x.2) (fun x y => cf x.1 y.1) hO g #[] b 0 cap xs.attach.toArray w eg hcmp hH hbw (by rw [hds]; exact hn)
     rw [hds] at hcon
     refine hcon.mono ?_
     rintro e' w' ⟨rfl, d', n, os, hpm, hso, rfl⟩
     obtain ⟨z1, -, z2⟩ := hpm
     have hd' : d'.size = xs.length := z1.trans hds
     have hpz : (d'.toList.map Subtype.val).Perm xs := by
       have e1 : d'.extract 0 xs.length = d' := by rw [← hd']; simp
       have e0 : ∀ a : Array {x : α // x ∈ xs}, a.extract 0 a.size = a := fun a => by simp
       have e2 := e0 xs.attach.toArray
       rw [hds] at e2
       rw [e1, e2] at z2
       have := z2.map Subtype.val
       rwa [List.toList_toArray, List.attach_map_subtype_val] at this
     have hlz : (d'.toList.map Subtype.val).length = xs.length := hpz.length_eq
     have hsz' : (d'.toList.map Subtype.val).Pairwise (fun a b => ¬ cf b a < 0) := by
       rw [List.pairwise_map, List.pairwise_iff_getElem]
       intro i j hi hj hij
       have hi2 : i < d'.size := by simpa using hi
       have hj2 : j < d'.size := by simpa using hj
       have := hso i j (Nat.zero_le _) hij (by omega)
       simp only [Go.Proofs.ltOf, decide_eq_false_iff_not] at this
       rw [getElem!_pos d' i hi2, getElem!_pos d' j hj2] at this
       simpa using this
     refine ⟨_, G, osl e F (.slice (some ⟨b, 0, none⟩) xs.length cap) (d'.toList.map Subtype.val) :: L, rfl, ?_, k _ hpz hsz'⟩
     have hst1 : St G (osl e F (.slice (some ⟨b, 0, none⟩) xs.length cap) (d'.toList.map Subtype.val) :: L) (Go.Sort.putRowK (fun x : {x : α // x ∈ xs} => F.enc x.1) F.sz (Go.Sort.ahead w n) b 0 d') := by
       refine St.set (o := .cells (Go.Sort.putCells id 0 (Go.Sort.flatK (fun x : {x : α // x ∈ xs} => F.enc x.1) F.sz d') c) e (0, 0)) (b := b) hs ⟨rfl, rfl, rfl, Nat.le_add_right _ _⟩ (.head _ _) (fun h hc => ?_) (fun x => ?_) (fun h hc hle2 => ?_)
       · rcases hc with ⟨h2, -⟩ | ⟨b2, cap2, c2, h2, h3, -⟩
         · cases h2
         · injection h2 with h4; injection h4 with h5; injection h5 with h6
           subst h6; rw [h3]; rfl
       · simp only [wh, Go.Sort.putRowK, Go.Sort.putRow, Go.Sort.mapBlock, Go.Sort.ahead, Array.getElem?_modify]
         by_cases hx : x = b
         · subst hx; rw [if_pos rfl, if_pos rfl, hb']; rfl
         · rw [if_neg (Ne.symm hx), if_neg hx]
       · refine .inr ⟨b, cap, Go.Sort.putCells id 0 (Go.Sort.flatK (fun x : {x : α // x ∈ xs} => F.enc x.1) F.sz d') c, by rw [hlz], by simp, by omega, hcap, by simpa [Go.Sort.putCells] using hsz, ?_⟩
         apply List.ext_getElem?
         intro j
         rw [List.getElem?_take, hlz]
         by_cases hj : j < xs.length * F.sz
         · rw [if_pos hj, flatK_at d' (by rw [hd']; exact hj)]
           have hjc : j < c.size := by rw [hsz]; exact Nat.lt_of_lt_of_le hj (Nat.mul_le_mul_right _ hle)
           simp [Go.Sort.putCells, hjc, hd', hj]
         · rw [if_neg hj, List.getElem?_eq_none (by rw [F.flat_len, hlz]; omega)]
     refine hst1.more (fun q o h => ?_) ⟨rfl, rfl, rfl, Nat.le_refl _⟩
     have hq : q < (Go.Sort.putRowK (fun x : {x : α // x ∈ xs} => F.enc x.1) F.sz (Go.Sort.ahead w n) b 0 d').heap.size := (Array.getElem?_eq_some_iff.1 h).1
     simp only [wh, Go.Proofs.sortWorldK, Go.Sort.grow] at h ⊢
     rw [Array.getElem?_append, if_pos hq]; exact h
end Go.Proofs.YthhjapiggekjbaaGreat
namespace Go.Proofs.YthhjapiggekjbaaGreat
set_option linter.unusedVariables false
set_option linter.unusedSimpArgs false
open Go Go.Shelf
def sortN_ren : Go.Shelf.Ren := ⟨fun | 6 => 75 | 15 => 127 | 14 => 126 | 28 => 181 | 29 => 182 | 20 => 173 | 21 => 174 | 22 => 175 | 23 => 176 | 24 => 177 | 25 => 178 | 26 => 179 | 27 => 180 | 46 => 210 | 47 => 211 | 48 => 212 | 49 => 213 | 50 => 214 | 57 => 232 | n => n, fun | 22 => 74 | 24 => 82 | 25 => 130 | 3 => 3 | 39 => 100 | 0 => 0 | 53 => 253 | 55 => 60 | 4 => 4 | 46 => 246 | 45 => 245 | 50 => 250 | 5 => 5 | 9 => 9 | 66 => 278 | 70 => 282 | 76 => 292 | 77 => 293 | n => n, fun | n => n⟩
theorem sortN : Go.Proofs.SlLaysF0.n6 Tryz.prog sortN_ren := {
 mixed := by kernel_rfl
 f6 := ⟨Tryz.f75.name, by decide, Tryz.func75.trans (congrArg some (by kernel_rfl))⟩
 f14 := ⟨Tryz.f126.name, by decide, Tryz.func126.trans (congrArg some (by kernel_rfl))⟩
 f15 := Tryz.func127.trans (congrArg some (by kernel_rfl))
 f20 := ⟨Tryz.f173.name, by decide, Tryz.func173.trans (congrArg some (by kernel_rfl))⟩
 f21 := ⟨Tryz.f174.name, by decide, Tryz.func174.trans (congrArg some (by kernel_rfl))⟩
 f22 := ⟨Tryz.f175.name, by decide, Tryz.func175.trans (congrArg some (by kernel_rfl))⟩
 f23 := ⟨Tryz.f176.name, by decide, Tryz.func176.trans (congrArg some (by kernel_rfl))⟩
 f24 := ⟨Tryz.f177.name, by decide, Tryz.func177.trans (congrArg some (by kernel_rfl))⟩
 f25 := ⟨Tryz.f178.name, by decide, Tryz.func178.trans (congrArg some (by kernel_rfl))⟩
 f26 := ⟨Tryz.f179.name, by decide, Tryz.func179.trans (congrArg some (by kernel_rfl))⟩
 f27 := ⟨Tryz.f180.name, by decide, Tryz.func180.trans (congrArg some (by kernel_rfl))⟩
 f28 := Tryz.func181.trans (congrArg some (by kernel_rfl))
 f29 := Tryz.func182.trans (congrArg some (by kernel_rfl))
 f46 := ⟨Tryz.f210.name, by decide, Tryz.func210.trans (congrArg some (by kernel_rfl))⟩
 f47 := Tryz.func211.trans (congrArg some (by kernel_rfl))
 f48 := Tryz.func212.trans (congrArg some (by kernel_rfl))
 f49 := ⟨Tryz.f213.name, by decide, Tryz.func213.trans (congrArg some (by kernel_rfl))⟩
 f50 := ⟨Tryz.f214.name, by decide, Tryz.func214.trans (congrArg some (by kernel_rfl))⟩
 f57 := ⟨Tryz.f232.name, by decide, Tryz.func232.trans (congrArg some (by kernel_rfl))⟩
 t0 := Tryz.underlying0
 a0 := Tryz.isAgg0
 z0 := Tryz.sizeOf0
 v0 := Tryz.zeroValue0
 t3 := Tryz.underlying3
 a3 := Tryz.isAgg3
 z3 := Tryz.sizeOf3
 v3 := Tryz.zeroValue3
 t4 := Tryz.underlying4
 a4 := Tryz.isAgg4
 z4 := Tryz.sizeOf4
 v4 := Tryz.zeroValue4
 t5 := Tryz.underlying5
 a5 := Tryz.isAgg5
 z5 := Tryz.sizeOf5
 v5 := Tryz.zeroValue5
 t9 := Tryz.underlying9
 a9 := Tryz.isAgg9
 z9 := Tryz.sizeOf9
 v9 := Tryz.zeroValue9
 t22 := Tryz.underlying74
 a22 := Tryz.isAgg74
 z22 := Tryz.sizeOf74
 v22 := Tryz.zeroValue74
 t25 := Tryz.underlying130
 a25 := Tryz.isAgg130
 z25 := Tryz.sizeOf130
 v25 := Tryz.zeroValue130
 t39 := Tryz.underlying100
 a39 := Tryz.isAgg100
 z39 := Tryz.sizeOf100
 v39 := Tryz.zeroValue100
 t45 := Tryz.underlying245
 a45 := Tryz.isAgg245
 z45 := Tryz.sizeOf245
 v45 := Tryz.zeroValue245
 t46 := Tryz.underlying246
 a46 := Tryz.isAgg246
 z46 := Tryz.sizeOf246
 v46 := Tryz.zeroValue246
 t50 := Tryz.underlying250
 a50 := Tryz.isAgg250
 z50 := Tryz.sizeOf250
 v50 := Tryz.zeroValue250
 t53 := Tryz.underlying253
 a53 := Tryz.isAgg253
 z53 := Tryz.sizeOf253
 v53 := Tryz.zeroValue253
 t55 := Tryz.underlying60
 a55 := Tryz.isAgg60
 z55 := Tryz.sizeOf60
 v55 := Tryz.zeroValue60
 t66 := Tryz.underlying278
 a66 := Tryz.isAgg278
 z66 := Tryz.sizeOf278
 v66 := Tryz.zeroValue278
 t70 := Tryz.underlying282
 a70 := Tryz.isAgg282
 z70 := Tryz.sizeOf282
 v70 := Tryz.zeroValue282
 t76 := Tryz.underlying292
 a76 := Tryz.isAgg292
 z76 := Tryz.sizeOf292
 v76 := Tryz.zeroValue292
 t77 := Tryz.underlying293
 a77 := Tryz.isAgg293
 z77 := Tryz.sizeOf293
 v77 := Tryz.zeroValue293 }
end Go.Proofs.YthhjapiggekjbaaGreat
namespace Go.Proofs.YthhjapiggekjbaaGreat
set_option linter.unusedVariables false
set_option linter.unusedSimpArgs false
open Go
set_option maxRecDepth 20000
set_option maxHeartbeats 2000000
set_option linter.unusedSimpArgs false
variable {G : Gh} {L : List Ch} {R : Value → Gh → List Ch → Prop}
def cmpN (a b : HNet) : Int := cmpP (erP (gd a.net.pieces.xs 0)) (erP (gd b.net.pieces.xs 0))
theorem sortH_s {v : Value} {hs : List HNet} (h1 : RsE G L pieceT (hps hs)) (h2 : RsE G L intT (hos hs)) (h3 : RsE G L rectT (hrg hs)) (hn : hs.length ≤ 400) (hg : ∀ h ∈ hs, 0 < h.net.pieces.xs.length ∧ 0 < (gd h.net.pieces.xs 0).reg.xs.length ∧ 0 ≤ (gd h.net.pieces.xs 0).layer ∧ (gd h.net.pieces.xs 0).layer ≤ 7)
   (k : ∀ zs : List HNet, zs.Perm hs → zs.Pairwise (fun a b => ¬ cmpN b a < 0) → R (.tuple #[]) G (osl 82 hnetT v zs :: L)) : CallT Tryz.prog 75 #[v, .func (.func 76) #[] #[]] G (osl 82 hnetT v hs :: L) R := by
 have r1 : ∀ x ∈ hs, Rs G L pieceT x.net.pieces.v x.net.pieces.xs := fun x hx => by
   obtain ⟨i, hi, e⟩ := List.getElem_of_mem hx
   have := h1 i (by rw [hps_len]; exact hi)
   rwa [hps_gd hi, gd_eq hi, e] at this
 have r2 : ∀ x ∈ hs, Rs G L intT x.occs.v x.occs.xs := fun x hx => by
   obtain ⟨i, hi, e⟩ := List.getElem_of_mem hx
   have := h2 i (by rw [hos_len]; exact hi)
   rwa [hos_gd hi, gd_eq hi, e] at this
 refine CallT.of fun w hs0 => ?_
 have hw : St G L w := hs0.cv Cv.p
 refine (sortF sortN (F := hnetT) (cf := cmpN) (fun w => (Ag82 w).1) (fun w => Sz82 w) En76 (by omega) (fun x hx u hu => ?_) (fun x hx => cmpP_irr _) (fun x _ y _ z _ => cmpP_tr) (fun x _ y _ z _ => cmpP_nt) (fun W hW x hx y hy => ?_) k).run hs0
 · simp only [hnetT, List.mem_cons, List.not_mem_nil, or_false] at hu
   rcases hu with rfl | rfl
   · exact (r1 x hx w hw).1.one
   · exact (r2 x hx w hw).1.one
 · obtain ⟨a1, a2, a3⟩ := hg x hx
   obtain ⟨b1, b2, b3⟩ := hg y hy
   exact cmpH_s ((r1 x hx).at hW) ((r1 y hy).at hW) a1 b1 ((h3.hReg hx a1).at hW) ((h3.hReg hy b1).at hW) a2 b2 a3 b3 ⟨rfl, rfl⟩
noncomputable def hnC (cs : List ECell) (cell : Int) : Int := if hcC cs cell = 0 then netE (flyL cs cell) else hcC cs cell
noncomputable def hnR (cs : List ECell) (cell : Int) : List (List (Int × List Rect) × List Int) := if hnC cs cell = 0 then netH (flyL cs cell) (plE cs cell) ((ppAll cs cell).map Prod.fst) else []
theorem hnets_i {l : Lib} {cell : Int} (hL : RLib G L l.cells.v l.cells.xs) (hlen : lenC (erCls l.cells.xs)) (k0 : hnC (erCls l.cells.xs) cell ≠ 0 → R (.tuple #[.slice none 0 0, vi (hnC (erCls l.cells.xs) cell)]) G L)
   (k : hnC (erCls l.cells.xs) cell = 0 → ∀ v hs, hs.map erH = hnR (erCls l.cells.xs) cell → R (.tuple #[v, vi 0]) G (osl 82 hnetT v hs :: bagS 63 pieceT (hps hs) :: bagS 2 intT (hos hs) :: bagS 140 rectT (hrg hs) :: L)) : CallT Tryz.prog 42 #[vT libT l, vi cell] G L R := by
 by_cases h1 : hcC (erCls l.cells.xs) cell = 0
 · obtain ⟨h0, hPA⟩ := hc_all h1
   have hly := isLay_fly h0
   have hnc : hnC (erCls l.cells.xs) cell = netE (flyL (erCls l.cells.xs) cell) := by rw [hnC, if_pos h1]
   have hpl := (ppC_0 (hcC_0 h1).1).2
   have hpe := plE_len (erCls l.cells.xs) cell
   have hcl := clsH_len (flyL (erCls l.cells.xs) cell) (plE (erCls l.cells.xs) cell)
   refine CallT.enter (args := _) Tryz.func42 rfl rfl (by kernel_rfl) rfl ?_
   refine WP.seq (WP.region ?_)
   refine RG.ot rfl (OT.box (cs := libT.enc l) rfl rfl rfl fun b2 => ?_)
   refine RG.pv rfl (PV.asg rfl rfl) (RG.mr rfl rfl rfl (RG.nil (WP.seq (WP.region (RG.pv rfl (PV.loadW rfl Ag31 rfl rfl) (RG.ml rfl rfl rfl ?_))))))
   refine RG.callF (vs := [_, _]) rfl rfl En38 rfl (pcls_i hL.up hlen (fun h => absurd h1 h) (fun _ v1 qs v2 hq => ?_))
   refine RG.pv rfl (PV.move (v := .tuple _) rfl rfl) (RG.pv rfl (PV.ext (v := v1) rfl rfl rfl) (RG.pv rfl (PV.ext (v := v2) rfl rfl rfl) (RG.pv rfl (PV.ext rfl rfl rfl) (RG.pv rfl (PV.asg (v := v1) rfl rfl) (RG.pv rfl (PV.asg (v := v2) rfl rfl) (RG.mr rfl rfl rfl (RG.nil ?_)))))))
   refine WP.seq (WP.seq (WP.region (RG.ml rfl rfl rfl (RG.pv rfl (PV.neq rfl rfl rfl) (RG.nil ?_)))))
   have hE : (erQs qs).map Prod.snd = plE (erCls l.cells.xs) cell := by rw [hq]; rfl
   have hO : (erQs qs).map Prod.fst = (ppAll (erCls l.cells.xs) cell).map Prod.fst := by rw [hq]
   have hql : qs.length = (plE (erCls l.cells.xs) cell).length := by rw [← hE]; simp [erQs]
   have hgO : ∀ i, i < qs.length → gd ((ppAll (erCls l.cells.xs) cell).map Prod.fst) i = (gd qs i).occ := fun i hi => by
     rw [← hO, gd_map _ (by simpa [erQs] using hi), erQs, gd_map _ hi]; rfl
   have hgE : ∀ i, i < qs.length → gd (plE (erCls l.cells.xs) cell) i = erP (gd qs i).piece := fun i hi => by rw [← hE, erQs_snd hi]
   have hly4 : ∀ i, i < qs.length → 0 ≤ (gd qs i).piece.layer ∧ (gd qs i).piece.layer < 8 := fun i hi => by
     obtain ⟨j, hj⟩ := hPA.mem _ (gd_mem (show i < (plE (erCls l.cells.xs) cell).length by omega))
     have h2 := hj.lay
     have h3 := hj.hi
     rw [hgE i hi] at h2
     have h4 : (gd qs i).piece.layer = gd [0, 1, 3, 5] j := h2
     rw [h4]
     rcases (by omega : j = 0 ∨ j = 1 ∨ j = 2 ∨ j = 3) with rfl | rfl | rfl | rfl <;> simp [gd]
   have hun : ∀ C f n, (er (rgTo qs C f n qs.length)).flatten = uniR (plE (erCls l.cells.xs) cell) C f n := fun C f n => by rw [rgTo_uni, hE]
   have hsort := fun zs => hPA.hsort (O := (ppAll (erCls l.cells.xs) cell).map Prod.fst) (zs := zs) hly
   have hgood := fun x => hPA.hgood (O := (ppAll (erCls l.cells.xs) cell).map Prod.fst) (x := x) hly
   have hnl := netE_ok (l := flyL (erCls l.cells.xs) cell)
   rw [← hql] at hcl
   generalize hO2 : (ppAll (erCls l.cells.xs) cell).map Prod.fst = O at *
   generalize hE2 : plE (erCls l.cells.xs) cell = E at *
   generalize hC2 : clsH (flyL (erCls l.cells.xs) cell) E = C at *
   refine WP.cond rfl (fun hx => ?_) (fun hx => ?_)
   · simp at hx
   · refine WP.skip ?_
     refine WP.seq (WP.region ?_)
     refine RG.ot rfl (OT.bslice (F := hnetT) (els := []) rfl El74 rfl (by decide) rfl (by decide) trivial fun v29 => ?_)
     refine RG.pv rfl (PV.asg (v := v29) rfl rfl) (RG.nil (WP.seq (WP.seq (WP.region (RG.pv rfl (PV.move (v := v1) rfl rfl) (RG.pv rfl (PV.len (v := v1) rfl Tryz.underlying53 rfl SlF.o) (RG.ml rfl rfl rfl ?_)))))))
     refine RG.nil (WP.block ?_)
     refine WP.cv ((Cv.cons (Cv.bag0 (e := 63) (F := pieceT) (xs := hps []) rfl)).trans ((Cv.cons (Cv.cons (Cv.bag0 (e := 2) (F := intT) (xs := hos []) rfl))).trans (Cv.cons (Cv.cons (Cv.cons (Cv.bag0 (e := 140) (F := rectT) (xs := hrg []) rfl)))))) ?_
     refine WP.loop3 [6, 7, 31] (fun (f : Nat) (hs : List HNet) (q : Value) => f ≤ qs.length ∧ hs.map erH = hTo E O C f) (fun (f : Nat) (hs : List HNet) (q : Value) => [(32, vi f), (9, q)]) (fun (f : Nat) (hs : List HNet) (q : Value) => osl 82 hnetT q hs :: bagS 63 pieceT (hps hs) :: bagS 2 intT (hos hs) :: bagS 140 rectT (hrg hs) :: osl 2 intT v2 C :: osl 65 ppieceT v1 qs :: bagS 140 rectT (regsQ qs) :: L) (fun (f : Nat) (hs : List HNet) (q : Value) => qs.length - f) 0 [] v29 ⟨by omega, rfl⟩ ⟨rfl, rfl, trivial⟩ Cv.p ?_
     rintro f hs q τ ⟨hf, hhs⟩
     refine WP.seq (WP.region (RG.pv rfl (PV.lss rfl rfl rfl) (RG.nil (WP.seq ?_))))
     have hsl : hs.length ≤ f := by have h2 := congrArg List.length hhs; have h3 := hTo_len E O C f; rw [List.length_map] at h2; omega
     refine WP.cond rfl (fun h2 => ?_) (fun h2 => ?_)
     · have h2 := of_decide_eq_true h2
       have h20 : f < qs.length := by omega
       refine WP.skip (WP.seq (WP.block (WP.seq (WP.region (RG.ml rfl rfl rfl (RG.mr rfl rfl rfl (RG.nil ?_)))))))
       refine WP.seq (WP.seq (WP.region (RG.pv rfl (PV.move (v := v2) rfl rfl) (RG.ml rfl rfl rfl (RG.pv rfl (PV.idxS (v := v2) rfl Is26 rfl SlF.o rfl rfl (by omega)) (RG.pv rfl (PV.loadE1 rfl Sc2 rfl rfl (El.o (getG (by omega))) rfl) (RG.ml rfl rfl rfl ?_)))))))
       refine RG.pv rfl (PV.neq rfl rfl rfl) (RG.nil ?_)
       refine WP.cond rfl (fun h3 => ?_) (fun h3 => ?_)
       · have h3 : gd C f ≠ (f : Int) := by simpa using h3
         refine WP.exit ?_
         refine WP.region (RG.pv rfl (PV.add rfl rfl rfl (by omega)) (RG.ml rfl rfl rfl (RG.nil ?_)))
         exact ⟨rfl, f + 1, hs, q, ⟨by omega, by rw [hTo_no h3]; exact hhs⟩, ⟨rfl, rfl, trivial⟩, ⟨rfl, rfl, rfl, trivial⟩, Cv.p, by omega⟩
       · have h3 : gd C f = (f : Int) := by simpa using h3
         refine WP.skip ?_
         refine WP.cut2 [6, 7, 9, 10, 31, 32] (fun (b11 : Nat) (w12 : Value) => True) (fun (b11 : Nat) (w12 : Value) => [(11, .pointer (some ⟨b11, 0, none⟩)), (12, w12)]) (fun (b11 : Nat) (w12 : Value) => blk b11 82 (hnetT.enc ⟨⟨⟨.slice none 0 0, []⟩⟩, ⟨.slice none 0 0, []⟩⟩) :: osl 47 slT w12 (List.replicate 8 (⟨.slice none 0 0, []⟩ : Sl (Sl Rect))) :: osl 82 hnetT q hs :: bagS 63 pieceT (hps hs) :: bagS 2 intT (hos hs) :: bagS 140 rectT (hrg hs) :: osl 2 intT v2 C :: osl 65 ppieceT v1 qs :: bagS 140 rectT (regsQ qs) :: L) ?_ ?_
         refine WP.regionH0 (.q 0 (.b 1 (.l 2 (.l 3 (.q 4 Sch.nil))) 2 (.b 1 (.l 3 (.q 4 Sch.nil)) 3 (.l 1 (.q 4 Sch.nil))))) (by kernel_rfl) (by kernel_rfl) (by kernel_rfl) rfl ?_
         refine RH.pv rfl (fun _ _ _ _ h => h) (Gh.le_refl _) PickC.pick rfl (PV.build (vs := []) (out := [_, _]) rfl Zr82 Pl82 trivial rfl) ?_
         · refine RH.ot2 rfl rfl rfl rfl  (OT.make (m := 8) (F := (slT (α := Sl (Rect)))) (a0 := default) rfl El124 rfl (by decide) rfl rfl (by omega) (by omega) fun v42 => ⟨Gh.le_refl _, PickC.pick, ?_⟩) (OT.alloc rfl Zr82 fun b11 => ⟨Gh.le_refl _, PickC.pick, ?_⟩)
           · refine RH.ot rfl rfl (OT.alloc rfl Zr82 fun b11 => ⟨Gh.le_refl _, PickC.pick, ?_⟩)
             refine RH.ot rfl rfl (OT.storeW (vs := [_, _]) rfl Sz82 rfl rfl (Cl.c rfl) rfl rfl (OneC.c rfl) ⟨Gh.le_refl _, PickC.pick, ?_⟩)
             refine RH.pv rfl (fun _ _ _ _ h => h) (Gh.le_refl _) PickC.pick rfl (PV.asg (v := v42) rfl rfl) ?_
             refine RH.nil ?_
             exact ⟨rfl, b11, v42, trivial, ⟨rfl, rfl, trivial⟩, ⟨rfl, rfl, rfl, rfl, rfl, rfl, trivial⟩, Cv.p⟩
           · refine RH.ot2 rfl rfl rfl rfl  (OT.make (m := 8) (F := (slT (α := Sl (Rect)))) (a0 := default) rfl El124 rfl (by decide) rfl rfl (by omega) (by omega) fun v42 => ⟨Gh.le_refl _, PickC.pick, ?_⟩) (OT.storeW (vs := [_, _]) rfl Sz82 rfl rfl (Cl.c rfl) rfl rfl (OneC.c rfl) ⟨Gh.le_refl _, PickC.pick, ?_⟩)
             · refine RH.ot rfl rfl (OT.storeW (vs := [_, _]) rfl Sz82 rfl rfl (Cl.c rfl) rfl rfl (OneC.c rfl) ⟨Gh.le_refl _, PickC.pick, ?_⟩)
               refine RH.pv rfl (fun _ _ _ _ h => h) (Gh.le_refl _) PickC.pick rfl (PV.asg (v := v42) rfl rfl) ?_
               refine RH.nil ?_
               exact ⟨rfl, b11, v42, trivial, ⟨rfl, rfl, trivial⟩, ⟨rfl, rfl, rfl, rfl, rfl, rfl, trivial⟩, Cv.p⟩
             · refine RH.ot rfl rfl (OT.make (m := 8) (F := (slT (α := Sl (Rect)))) (a0 := default) rfl El124 rfl (by decide) rfl rfl (by omega) (by omega) fun v42 => ⟨Gh.le_refl _, PickC.pick, ?_⟩)
               refine RH.pv rfl (fun _ _ _ _ h => h) (Gh.le_refl _) PickC.pick rfl (PV.asg (v := v42) rfl rfl) ?_
               refine RH.nil ?_
               exact ⟨rfl, b11, v42, trivial, ⟨rfl, rfl, trivial⟩, ⟨rfl, rfl, rfl, rfl, rfl, rfl, trivial⟩, Cv.p⟩
         rintro b11 w12 τ5 _
         refine WP.seq (WP.seq (WP.region (RG.pv rfl (PV.move (v := v1) rfl rfl) (RG.pv rfl (PV.len (v := v1) rfl Tryz.underlying53 rfl SlF.o) (RG.ml rfl rfl rfl (RG.nil (WP.block ?_)))))))
         have hcr : ∀ i, i < qs.length → Rs G (bagS 140 rectT (regsQ qs) :: []) rectT (gd qs i).piece.reg.v (gd qs i).piece.reg.xs := fun i hi => RsE.regQ RsE.o hi
         refine WP.cv (Cv.cons ((Cv.nilS (e := 2) (F := intT)).trans (Cv.cons (Cv.cons (Cv.bagRep (e := 50) (F := (slT : FT (Sl Rect))) 8))))) ?_
         refine WP.loop4 [6, 7, 9, 10, 11, 12, 31, 32, 43, 44] (fun (m : Nat) (zs : List (Sl (Sl Rect))) (u : Value) (os : List Int) => m ≤ qs.length ∧ zs.length = 8 ∧ (∀ n, n < 8 → (gd zs n).xs = rgTo qs C f n m) ∧ os = ocTo C O f m) (fun (m : Nat) (zs : List (Sl (Sl Rect))) (u : Value) (os : List Int) => [(45, vi m)]) (fun (m : Nat) (zs : List (Sl (Sl Rect))) (u : Value) (os : List Int) => blk b11 82 (hnetT.enc ⟨⟨⟨.slice none 0 0, []⟩⟩, ⟨u, os⟩⟩) :: osl 2 intT u os :: osl 47 slT w12 zs :: bagS 50 slT zs :: osl 82 hnetT q hs :: bagS 63 pieceT (hps hs) :: bagS 2 intT (hos hs) :: bagS 140 rectT (hrg hs) :: osl 2 intT v2 C :: osl 65 ppieceT v1 qs :: bagS 140 rectT (regsQ qs) :: L) (fun (m : Nat) (zs : List (Sl (Sl Rect))) (u : Value) (os : List Int) => qs.length - m) 0 (List.replicate 8 (⟨.slice none 0 0, []⟩ : Sl (Sl Rect))) (.slice none 0 0) [] ⟨by omega, by simp, fun n hn => by rw [gd_rep8 _ hn]; rfl, rfl⟩ ⟨rfl, trivial⟩ Cv.p ?_
         rintro m zs u os τ1 ⟨hm, hzl, hz, hos1⟩
         refine WP.seq (WP.region (RG.pv rfl (PV.lss rfl rfl rfl) (RG.nil (WP.seq ?_))))
         have hol : os.length ≤ 400 := by rw [hos1]; have := ocTo_len C O f m; omega
         refine WP.cond rfl (fun h4 => ?_) (fun h4 => ?_)
         · have h4 := of_decide_eq_true h4
           have h5 : m < qs.length := by omega
           refine WP.skip (WP.seq (WP.block (WP.seq (WP.region (RG.ml rfl rfl rfl (RG.pv rfl (PV.idxS (v := v1) rfl Is53 rfl SlF.o rfl rfl (by omega)) (RG.pv rfl (PV.loadE rfl Ag65 rfl rfl (El.o (getG (by omega)))) ?_)))))))
           refine RG.ot rfl (OT.alloc rfl Zr65 fun b14 => ?_)
           refine RG.mr rfl rfl rfl ?_
           refine RG.ot rfl (OT.storeW (vs := [vi _, vi _, _]) rfl Sz65 rfl rfl (Cl.c rfl) rfl rfl (OneC.val rfl (OneC.val rfl (OneC.sl (SlF.r (hcr m h5)) OneC.nil))) ?_)
           refine RG.nil (WP.seq (WP.region (RG.pv rfl (PV.move (v := v2) rfl rfl) (RG.ml rfl rfl rfl (RG.pv rfl (PV.idxS (v := v2) rfl Is26 rfl SlF.o rfl rfl (by omega)) (RG.pv rfl (PV.loadE1 rfl Sc2 rfl rfl (El.o (getG (by omega))) rfl) (RG.ml rfl rfl rfl ?_)))))))
           refine RG.pv rfl (PV.eql rfl rfl rfl) (RG.nil ?_)
           refine WP.cond rfl (fun h6 => ?_) (fun h6 => ?_)
           · have h6 : gd C m = (f : Int) := by simpa using h6
             obtain ⟨n, hn8, en⟩ : ∃ n : Nat, n < 8 ∧ (gd qs m).piece.layer = (n : Int) := ⟨(gd qs m).piece.layer.toNat, by have := hly4 m h5; omega, by have := hly4 m h5; omega⟩
             have hzn : (gd zs n).xs.length ≤ 400 := by rw [hz n hn8]; have := rgTo_len qs C f n m; omega
             refine WP.cv ((Cv.p (C := bagS 50 slT zs :: blk b14 65 (ppieceT.enc (gd qs m)) :: blk b11 82 (hnetT.enc ⟨⟨⟨.slice none 0 0, []⟩⟩, ⟨u, os⟩⟩) :: osl 2 intT u os :: osl 47 slT w12 zs :: osl 82 hnetT q hs :: bagS 63 pieceT (hps hs) :: bagS 2 intT (hos hs) :: bagS 140 rectT (hrg hs) :: osl 2 intT v2 C :: osl 65 ppieceT v1 qs :: bagS 140 rectT (regsQ qs) :: L)).trans (Cv.bagS_take n (by omega))) ?_
             have hrm := hcr m h5
             refine WP.seq ?_
             refine WP.regionHD [.s w12, .s (gd zs n).v] (.q 0 (.q 1 (.q 2 (.q 3 (.q 4 (.q 5 (.q 6 (.q 7 (.q 10 (.q 11 (.q 12 (.b 8 (.b 9 (.l 13 (.l 14 (.l 15 (.l 16 Sch.nil)))) 13 (.l 9 (.l 14 (.l 15 (.l 16 Sch.nil))))) 13 (.l 8 (.l 9 (.l 14 (.l 15 (.l 16 Sch.nil))))))))))))))))) (by kernel_rfl) (by kernel_rfl) (by kernel_rfl) rfl ?_
             refine RH.pv rfl (fun _ _ _ _ h => h) (Gh.le_refl _) PickC.pick rfl (PV.move (v := w12) rfl rfl) ?_
             refine RH.pv rfl (fun _ _ _ _ h => h) (Gh.le_refl _) PickC.pick rfl (PV.field rfl Fo65_1 rfl) ?_
             refine RH.pv rfl (fun _ _ _ _ h => h) (Gh.le_refl _) PickC.pick rfl (PV.field rfl Fo63_0 rfl) ?_
             refine RH.pv rfl (fun _ _ _ _ h => h) (Gh.le_refl _) PickC.pick rfl (PV.load1 rfl Sc2 rfl (Rd.blk rfl)) ?_
             refine RH.pv rfl (fun _ _ _ _ h => h) (Gh.le_refl _) PickC.pick rfl (PV.move (v := w12) rfl rfl) ?_
             refine RH.pv rfl (fun _ _ _ _ h => h) (Gh.le_refl _) PickC.pick rfl (PV.field rfl Fo65_1 rfl) ?_
             refine RH.pv rfl (fun _ _ _ _ h => h) (Gh.le_refl _) PickC.pick rfl (PV.field rfl Fo63_0 rfl) ?_
             refine RH.pv rfl (fun _ _ _ _ h => h) (Gh.le_refl _) PickC.pick rfl (PV.load1 rfl Sc2 rfl (Rd.blk rfl)) ?_
             refine RH.pv rfl (fun _ _ _ _ h => h) (Gh.le_refl _) PickC.pick rfl (PV.field rfl Fo65_1 rfl) ?_
             refine RH.pv rfl (fun _ _ _ _ h => h) (Gh.le_refl _) PickC.pick rfl (PV.field rfl Fo63_1 rfl) ?_
             refine RH.pv rfl (fun _ _ _ _ h => h) (Gh.le_refl _) PickC.pick rfl (PV.load1 rfl Sc50 rfl (Rd.blk rfl)) ?_
             refine RH.ot2 rfl rfl rfl rfl  (OT.pv (PV.idxS (j := n) (v := w12) rfl Is124 rfl SlF.o rfl (by omega) (by omega)) ⟨Gh.le_refl _, PickC.pick, ?_⟩) (OT.bslice (F := (slT (α := Rect))) (els := [(gd qs m).piece.reg]) rfl El47 rfl (by decide) rfl (by decide) ⟨rfl, (Cl.s (SlF.r hrm)), trivial⟩ fun v69 => ⟨Gh.le_refl _, PickC.pick, ?_⟩)
             · refine RH.ot2 rfl rfl rfl rfl  (OT.pv (PV.loadE1 rfl Sc47 rfl rfl (El.o (getG (by omega))) rfl) ⟨Gh.le_refl _, PickC.pick, ?_⟩) (OT.bslice (F := (slT (α := Rect))) (els := [(gd qs m).piece.reg]) rfl El47 rfl (by decide) rfl (by decide) ⟨rfl, (Cl.s (SlF.r hrm)), trivial⟩ fun v69 => ⟨Gh.le_refl _, PickC.pick, ?_⟩)
               · refine RH.ot rfl rfl (OT.bslice (F := (slT (α := Rect))) (els := [(gd qs m).piece.reg]) rfl El47 rfl (by decide) rfl (by decide) ⟨rfl, (Cl.s (SlF.r hrm)), trivial⟩ fun v69 => ⟨Gh.le_refl _, PickC.pick, ?_⟩)
                 refine RH.ot rfl rfl (OT.append (v := (gd zs n).v) (u := v69) (F := (slT (α := Rect))) rfl El47 rfl (by decide) rfl rfl Rs.o (OneL.one (OneC.sl (SlF.r (hcr m h5)) OneC.nil)) rfl (by first | omega | (simp <;> omega)) fun v70 => ⟨Gh.le_refl _, PickC.pick, ?_⟩)
                 refine RH.ot rfl rfl (OT.pv (PV.idxS (j := n) (v := w12) rfl Is124 rfl SlF.o rfl (by omega) (by omega)) ⟨Gh.le_refl _, PickC.pick, ?_⟩)
                 refine RH.ot rfl rfl (OT.storeE (v := v70) (a := ⟨v70, (gd zs n).xs ++ [(gd qs m).piece.reg]⟩) (F := (slT (α := Sl (Rect)))) rfl Sz47 rfl rfl rfl (Cl.s (v := v70) SlF.o) (OneC.sl SlF.o OneC.nil) (by omega) ⟨Gh.le_refl _, PickC.pick, ?_⟩)
                 refine RH.nil ?_
                 refine WP.region (RG.pv rfl (PV.field rfl Fo82_1 rfl) (RG.pv rfl (PV.load1 rfl Sc26 rfl (Rd.blk rfl)) (RG.pv rfl (PV.field rfl Fo65_0 rfl) (RG.pv rfl (PV.load1 rfl Sc2 rfl (Rd.blk rfl)) ?_))))
                 refine RG.ot rfl (OT.bslice (F := intT) (els := [_]) rfl El26 rfl (by decide) rfl (by decide) ⟨rfl, (Cl.c rfl), trivial⟩ fun v76 => ?_)
                 refine RG.ot rfl (OT.append (v := u) (u := v76) (F := intT) rfl El26 rfl (by decide) rfl rfl Rs.o (OneL.c (fun _ => rfl)) rfl (by first | omega | (simp <;> omega)) fun v77 => ?_)
                 refine RG.pv rfl (PV.field rfl Fo82_1 rfl) ?_
                 refine RG.ot rfl (OT.storeB (v := v77) (vs := [_]) (cs' := [_, _]) rfl Sz26 rfl rfl (Cl.s (v := v77) SlF.o) rfl (OneC.sl SlF.o OneC.nil) rfl rfl ?_)
                 refine RG.nil (WP.region (RG.pv rfl (PV.add rfl rfl rfl (by omega)) (RG.ml rfl rfl rfl (RG.nil ?_))))
                 exact ⟨rfl, m + 1, (zs.set n ⟨v70, (gd zs n).xs ++ [(gd qs m).piece.reg]⟩), v77, (os ++ [(gd qs m).occ]), ⟨by omega, by simpa using hzl, rgTo_set hzl hz hn8 h6 en _, by rw [hos1, ocTo_yes h6, hgO m h5]⟩, ⟨rfl, trivial⟩, ⟨rfl, rfl, rfl, rfl, rfl, rfl, rfl, rfl, rfl, rfl, trivial⟩, ((Cv.p (C := osl 50 slT v70 ((gd zs n).xs ++ [(gd qs m).piece.reg]) :: osl 47 slT w12 (zs.set n ⟨v70, (gd zs n).xs ++ [(gd qs m).piece.reg]⟩) :: bag ((zs.map (ownS 50 slT)).set n emp) :: blk b11 82 (hnetT.enc ⟨⟨⟨.slice none 0 0, []⟩⟩, ⟨v77, os ++ [(gd qs m).occ]⟩⟩) :: osl 2 intT v77 (os ++ [(gd qs m).occ]) :: osl 82 hnetT q hs :: bagS 63 pieceT (hps hs) :: bagS 2 intT (hos hs) :: bagS 140 rectT (hrg hs) :: osl 2 intT v2 C :: osl 65 ppieceT v1 qs :: bagS 140 rectT (regsQ qs) :: L)).trans ((Cv.slotU n (by omega)).trans Cv.p)), by omega⟩
               · refine RH.ot rfl rfl (OT.pv (PV.loadE1 rfl Sc47 rfl rfl (El.o (getG (by omega))) rfl) ⟨Gh.le_refl _, PickC.pick, ?_⟩)
                 refine RH.ot rfl rfl (OT.append (v := (gd zs n).v) (u := v69) (F := (slT (α := Rect))) rfl El47 rfl (by decide) rfl rfl Rs.o (OneL.one (OneC.sl (SlF.r (hcr m h5)) OneC.nil)) rfl (by first | omega | (simp <;> omega)) fun v70 => ⟨Gh.le_refl _, PickC.pick, ?_⟩)
                 refine RH.ot rfl rfl (OT.pv (PV.idxS (j := n) (v := w12) rfl Is124 rfl SlF.o rfl (by omega) (by omega)) ⟨Gh.le_refl _, PickC.pick, ?_⟩)
                 refine RH.ot rfl rfl (OT.storeE (v := v70) (a := ⟨v70, (gd zs n).xs ++ [(gd qs m).piece.reg]⟩) (F := (slT (α := Sl (Rect)))) rfl Sz47 rfl rfl rfl (Cl.s (v := v70) SlF.o) (OneC.sl SlF.o OneC.nil) (by omega) ⟨Gh.le_refl _, PickC.pick, ?_⟩)
                 refine RH.nil ?_
                 refine WP.region (RG.pv rfl (PV.field rfl Fo82_1 rfl) (RG.pv rfl (PV.load1 rfl Sc26 rfl (Rd.blk rfl)) (RG.pv rfl (PV.field rfl Fo65_0 rfl) (RG.pv rfl (PV.load1 rfl Sc2 rfl (Rd.blk rfl)) ?_))))
                 refine RG.ot rfl (OT.bslice (F := intT) (els := [_]) rfl El26 rfl (by decide) rfl (by decide) ⟨rfl, (Cl.c rfl), trivial⟩ fun v76 => ?_)
                 refine RG.ot rfl (OT.append (v := u) (u := v76) (F := intT) rfl El26 rfl (by decide) rfl rfl Rs.o (OneL.c (fun _ => rfl)) rfl (by first | omega | (simp <;> omega)) fun v77 => ?_)
                 refine RG.pv rfl (PV.field rfl Fo82_1 rfl) ?_
                 refine RG.ot rfl (OT.storeB (v := v77) (vs := [_]) (cs' := [_, _]) rfl Sz26 rfl rfl (Cl.s (v := v77) SlF.o) rfl (OneC.sl SlF.o OneC.nil) rfl rfl ?_)
                 refine RG.nil (WP.region (RG.pv rfl (PV.add rfl rfl rfl (by omega)) (RG.ml rfl rfl rfl (RG.nil ?_))))
                 exact ⟨rfl, m + 1, (zs.set n ⟨v70, (gd zs n).xs ++ [(gd qs m).piece.reg]⟩), v77, (os ++ [(gd qs m).occ]), ⟨by omega, by simpa using hzl, rgTo_set hzl hz hn8 h6 en _, by rw [hos1, ocTo_yes h6, hgO m h5]⟩, ⟨rfl, trivial⟩, ⟨rfl, rfl, rfl, rfl, rfl, rfl, rfl, rfl, rfl, rfl, trivial⟩, ((Cv.p (C := osl 50 slT v70 ((gd zs n).xs ++ [(gd qs m).piece.reg]) :: osl 47 slT w12 (zs.set n ⟨v70, (gd zs n).xs ++ [(gd qs m).piece.reg]⟩) :: bag ((zs.map (ownS 50 slT)).set n emp) :: blk b11 82 (hnetT.enc ⟨⟨⟨.slice none 0 0, []⟩⟩, ⟨v77, os ++ [(gd qs m).occ]⟩⟩) :: osl 2 intT v77 (os ++ [(gd qs m).occ]) :: osl 82 hnetT q hs :: bagS 63 pieceT (hps hs) :: bagS 2 intT (hos hs) :: bagS 140 rectT (hrg hs) :: osl 2 intT v2 C :: osl 65 ppieceT v1 qs :: bagS 140 rectT (regsQ qs) :: L)).trans ((Cv.slotU n (by omega)).trans Cv.p)), by omega⟩
             · refine RH.ot rfl rfl (OT.pv (PV.idxS (j := n) (v := w12) rfl Is124 rfl SlF.o rfl (by omega) (by omega)) ⟨Gh.le_refl _, PickC.pick, ?_⟩)
               refine RH.ot rfl rfl (OT.pv (PV.loadE1 rfl Sc47 rfl rfl (El.o (getG (by omega))) rfl) ⟨Gh.le_refl _, PickC.pick, ?_⟩)
               refine RH.ot rfl rfl (OT.append (v := (gd zs n).v) (u := v69) (F := (slT (α := Rect))) rfl El47 rfl (by decide) rfl rfl Rs.o (OneL.one (OneC.sl (SlF.r (hcr m h5)) OneC.nil)) rfl (by first | omega | (simp <;> omega)) fun v70 => ⟨Gh.le_refl _, PickC.pick, ?_⟩)
               refine RH.ot rfl rfl (OT.pv (PV.idxS (j := n) (v := w12) rfl Is124 rfl SlF.o rfl (by omega) (by omega)) ⟨Gh.le_refl _, PickC.pick, ?_⟩)
               refine RH.ot rfl rfl (OT.storeE (v := v70) (a := ⟨v70, (gd zs n).xs ++ [(gd qs m).piece.reg]⟩) (F := (slT (α := Sl (Rect)))) rfl Sz47 rfl rfl rfl (Cl.s (v := v70) SlF.o) (OneC.sl SlF.o OneC.nil) (by omega) ⟨Gh.le_refl _, PickC.pick, ?_⟩)
               refine RH.nil ?_
               refine WP.region (RG.pv rfl (PV.field rfl Fo82_1 rfl) (RG.pv rfl (PV.load1 rfl Sc26 rfl (Rd.blk rfl)) (RG.pv rfl (PV.field rfl Fo65_0 rfl) (RG.pv rfl (PV.load1 rfl Sc2 rfl (Rd.blk rfl)) ?_))))
               refine RG.ot rfl (OT.bslice (F := intT) (els := [_]) rfl El26 rfl (by decide) rfl (by decide) ⟨rfl, (Cl.c rfl), trivial⟩ fun v76 => ?_)
               refine RG.ot rfl (OT.append (v := u) (u := v76) (F := intT) rfl El26 rfl (by decide) rfl rfl Rs.o (OneL.c (fun _ => rfl)) rfl (by first | omega | (simp <;> omega)) fun v77 => ?_)
               refine RG.pv rfl (PV.field rfl Fo82_1 rfl) ?_
               refine RG.ot rfl (OT.storeB (v := v77) (vs := [_]) (cs' := [_, _]) rfl Sz26 rfl rfl (Cl.s (v := v77) SlF.o) rfl (OneC.sl SlF.o OneC.nil) rfl rfl ?_)
               refine RG.nil (WP.region (RG.pv rfl (PV.add rfl rfl rfl (by omega)) (RG.ml rfl rfl rfl (RG.nil ?_))))
               exact ⟨rfl, m + 1, (zs.set n ⟨v70, (gd zs n).xs ++ [(gd qs m).piece.reg]⟩), v77, (os ++ [(gd qs m).occ]), ⟨by omega, by simpa using hzl, rgTo_set hzl hz hn8 h6 en _, by rw [hos1, ocTo_yes h6, hgO m h5]⟩, ⟨rfl, trivial⟩, ⟨rfl, rfl, rfl, rfl, rfl, rfl, rfl, rfl, rfl, rfl, trivial⟩, ((Cv.p (C := osl 50 slT v70 ((gd zs n).xs ++ [(gd qs m).piece.reg]) :: osl 47 slT w12 (zs.set n ⟨v70, (gd zs n).xs ++ [(gd qs m).piece.reg]⟩) :: bag ((zs.map (ownS 50 slT)).set n emp) :: blk b11 82 (hnetT.enc ⟨⟨⟨.slice none 0 0, []⟩⟩, ⟨v77, os ++ [(gd qs m).occ]⟩⟩) :: osl 2 intT v77 (os ++ [(gd qs m).occ]) :: osl 82 hnetT q hs :: bagS 63 pieceT (hps hs) :: bagS 2 intT (hos hs) :: bagS 140 rectT (hrg hs) :: osl 2 intT v2 C :: osl 65 ppieceT v1 qs :: bagS 140 rectT (regsQ qs) :: L)).trans ((Cv.slotU n (by omega)).trans Cv.p)), by omega⟩
           · have h6 : gd C m ≠ (f : Int) := by simpa using h6
             refine WP.skip (WP.region (RG.pv rfl (PV.add rfl rfl rfl (by omega)) (RG.ml rfl rfl rfl (RG.nil ?_))))
             exact ⟨rfl, m + 1, zs, u, os, ⟨by omega, hzl, fun n hn => by rw [rgTo_no (.inl h6)]; exact hz n hn, by rw [ocTo_no h6]; exact hos1⟩, ⟨rfl, trivial⟩, ⟨rfl, rfl, rfl, rfl, rfl, rfl, rfl, rfl, rfl, rfl, trivial⟩, Cv.p, by omega⟩
         · have h4 := of_decide_eq_false h4
           obtain rfl : m = qs.length := by omega
           refine WP.exit ?_
           refine WP.seq (WP.region (RG.pv rfl (PV.field rfl Fo82_1 rfl) (RG.pv rfl (PV.load1 rfl Sc26 rfl (Rd.blk rfl)) ?_)))
           refine RG.callF (vs := [u]) rfl rfl En72 rfl (CallT.exS u (compact_int (xs := os) (by omega) (fun v82 => ?_)))
           refine RG.pv rfl (PV.field rfl Fo82_1 rfl) ?_
           refine RG.ot rfl (OT.storeB (v := v82) (vs := [_]) (cs' := [_, _]) rfl Sz26 rfl rfl (Cl.s (v := v82) SlF.o) rfl (OneC.sl SlF.o OneC.nil) rfl rfl ?_)
           refine RG.nil (WP.seq (WP.seq (WP.region (RG.pv rfl (PV.move (v := w12) rfl rfl) (RG.pv rfl (PV.len (v := w12) rfl Tryz.underlying124 rfl SlF.o) (RG.ml rfl rfl rfl (RG.nil ?_)))))))
           refine WP.block ?_
           refine WP.cv ((Cv.p (C := blk b11 82 (hnetT.enc ⟨⟨⟨.slice none 0 0, []⟩⟩, ⟨v82, compactL os⟩⟩) :: osl 2 intT v82 (compactL os) :: osl 47 slT w12 zs :: bagS 50 slT zs :: osl 82 hnetT q hs :: bagS 63 pieceT (hps hs) :: bagS 2 intT (hos hs) :: bagS 140 rectT (hrg hs) :: osl 2 intT v2 C :: osl 65 ppieceT v1 qs :: bagS 140 rectT (regsQ qs) :: L)).trans (Cv.cons ((Cv.bag0 (e := 140) (F := rectT) (xs := regs []) rfl).trans (Cv.nilS (e := 63) (F := pieceT))))) ?_
           refine WP.loop3 [6, 7, 9, 11, 31, 32, 84, 85] (fun (n : Nat) (ps : List Piece) (pq : Value) => n ≤ 8 ∧ erPs ps = hpTo E C f n) (fun (n : Nat) (ps : List Piece) (pq : Value) => [(86, vi n)]) (fun (n : Nat) (ps : List Piece) (pq : Value) => blk b11 82 (hnetT.enc ⟨⟨⟨pq, ps⟩⟩, ⟨v82, compactL os⟩⟩) :: osl 63 pieceT pq ps :: bagS 140 rectT (regs ps) :: osl 2 intT v82 (compactL os) :: osl 47 slT w12 zs :: bagS 50 slT zs :: osl 82 hnetT q hs :: bagS 63 pieceT (hps hs) :: bagS 2 intT (hos hs) :: bagS 140 rectT (hrg hs) :: osl 2 intT v2 C :: osl 65 ppieceT v1 qs :: bagS 140 rectT (regsQ qs) :: L) (fun (n : Nat) (ps : List Piece) (pq : Value) => 8 - n) 0 [] (.slice none 0 0) ⟨by omega, rfl⟩ ⟨rfl, trivial⟩ Cv.p ?_
           rintro n ps pq τ2 ⟨hn, hps1⟩
           refine WP.seq (WP.region (RG.pv rfl (PV.lss rfl rfl rfl) (RG.nil (WP.seq ?_))))
           have hpl2 := hnet_len hps1 hn
           refine WP.cond rfl (fun h7 => ?_) (fun h7 => ?_)
           · have h7 := of_decide_eq_true h7
             have h70 : n < 8 := by omega
             refine WP.skip (WP.seq (WP.block (WP.seq (WP.region (RG.ml rfl rfl rfl (RG.pv rfl (PV.idxS (v := w12) rfl Is124 rfl SlF.o rfl rfl (by omega)) (RG.pv rfl (PV.loadE1 rfl Sc47 rfl rfl (El.o (getG (by omega))) rfl) ?_)))))))
             refine RG.mr rfl rfl rfl (RG.pv rfl (PV.asg (v := (gd zs n).v) rfl rfl) (RG.nil (WP.seq (WP.region (RG.pv rfl (PV.move (v := (gd zs n).v) rfl rfl) ?_)))))
             refine RG.callF (vs := [(gd zs n).v]) rfl rfl En74 rfl (unionAll_s (v := (gd zs n).v) (xs := (gd zs n).xs) (Rs.inBag n (by omega)) (RsE.rgs RsE.o (Nat.le_refl _) (hz n h70)) (fun v92 => ?_))
             refine RG.callF (vs := [v92]) rfl rfl En73 rfl (components_s Rs.o (fun v93 zsv93 hzv93 => ?_))
             refine RG.pv rfl (PV.len (v := v93) rfl Tryz.underlying47 rfl SlF.o) (RG.ml rfl rfl rfl (RG.nil (WP.block ?_)))
             have hzp : er zsv93 = partsL (bits (uniR E C f n)) := by rw [hzv93, hz n h70, bits_canon (bits_length _), hun]
             have hzl9 := parts_len hzp
             refine WP.loop3 [6, 7, 9, 11, 15, 31, 32, 84, 85, 86, 93, 94] (fun (i : Nat) (ps2 : List Piece) (pq2 : Value) => i ≤ zsv93.length ∧ ps2 = ps ++ (zsv93.take i).map (mkP n)) (fun (i : Nat) (ps2 : List Piece) (pq2 : Value) => [(95, vi i)]) (fun (i : Nat) (ps2 : List Piece) (pq2 : Value) => blk b11 82 (hnetT.enc ⟨⟨⟨pq2, ps2⟩⟩, ⟨v82, compactL os⟩⟩) :: osl 63 pieceT pq2 ps2 :: bagS 140 rectT zsv93 :: osl 50 slT v93 zsv93 :: bagS 140 rectT (regs ps) :: osl 2 intT v82 (compactL os) :: osl 47 slT w12 zs :: bagS 50 slT zs :: osl 82 hnetT q hs :: bagS 63 pieceT (hps hs) :: bagS 2 intT (hos hs) :: bagS 140 rectT (hrg hs) :: osl 2 intT v2 C :: osl 65 ppieceT v1 qs :: bagS 140 rectT (regsQ qs) :: L) (fun (i : Nat) (ps2 : List Piece) (pq2 : Value) => zsv93.length - i) 0 ps pq ⟨by omega, by simp⟩ ⟨rfl, trivial⟩ Cv.p ?_
             rintro i ps2 pq2 τ3 ⟨hi, hps2⟩
             refine WP.seq (WP.region (RG.pv rfl (PV.lss rfl rfl rfl) (RG.nil (WP.seq ?_))))
             have hpl3 : ps2.length ≤ 57600 := by rw [hps2, List.length_append, List.length_map, List.length_take]; omega
             refine WP.cond rfl (fun h8 => ?_) (fun h8 => ?_)
             · have h8 := of_decide_eq_true h8
               refine WP.sl (Rs.inBag (xs := zsv93) i (by omega)) fun hI => ?_
               refine WP.skip (WP.seq (WP.block (WP.seq (WP.region (RG.pv rfl (PV.idxS (v := v93) rfl Is47 rfl SlF.o rfl rfl (by omega)) (RG.pv rfl (PV.loadE1 rfl Sc50 rfl rfl (El.o (getG (by omega))) rfl) (RG.pv rfl (PV.asg rfl rfl) ?_)))))))
               refine RG.nil (WP.region (RG.pv rfl (PV.field rfl Fo82_0 rfl) (RG.pv rfl (PV.field rfl Fo80_0 rfl) (RG.pv rfl (PV.load1 rfl Sc78 rfl (Rd.blk rfl)) (RG.ml rfl rfl rfl (RG.pv rfl (PV.move rfl rfl) (RG.pv rfl (PV.build (vs := [(0, [vi _]), (1, [_])]) (out := [_, _]) rfl Zr63 Pl63 ⟨rfl, (Cl.c rfl), ⟨rfl, (Cl.s (SlF.i hI)), trivial⟩⟩ rfl) ?_)))))))
               refine RG.ot rfl (OT.bslice (F := pieceT) (els := [⟨(n : Int), gd zsv93 i⟩]) rfl El78 rfl (by decide) rfl (by decide) ⟨rfl, (Cl.c rfl), trivial⟩ fun v105 => ?_)
               refine RG.ot rfl (OT.append (v := pq2) (u := v105) (F := pieceT) rfl El78 rfl (by decide) rfl rfl Rs.o (OneL.one (OneC.val rfl (OneC.sl (SlF.i hI) OneC.nil))) rfl (by first | omega | (simp <;> omega)) fun v106 => ?_)
               refine RG.pv rfl (PV.field rfl Fo82_0 rfl) (RG.pv rfl (PV.field rfl Fo80_0 rfl) ?_)
               refine RG.ot rfl (OT.storeB (v := v106) (vs := [_]) (cs' := [_, _]) rfl Sz78 rfl rfl (Cl.s (v := v106) SlF.o) rfl (OneC.sl SlF.o OneC.nil) rfl rfl ?_)
               refine RG.nil (WP.region (RG.pv rfl (PV.add rfl rfl rfl (by omega)) (RG.ml rfl rfl rfl (RG.nil ?_))))
               exact ⟨rfl, i + 1, (ps2 ++ [⟨(n : Int), gd zsv93 i⟩]), v106, ⟨by omega, by rw [hps2, List.take_add_one, getG (by omega), List.map_append, List.append_assoc]; rfl⟩, ⟨rfl, trivial⟩, ⟨rfl, rfl, rfl, rfl, rfl, rfl, rfl, rfl, rfl, rfl, rfl, rfl, trivial⟩, Cv.p, by omega⟩
             · have h8 := of_decide_eq_false h8
               obtain rfl : i = zsv93.length := by omega
               rw [List.take_length] at hps2
               refine WP.exit ?_
               refine WP.region (RG.pv rfl (PV.add rfl rfl rfl (by omega)) (RG.ml rfl rfl rfl (RG.nil ?_)))
               exact ⟨rfl, n + 1, ps2, pq2, ⟨by omega, by rw [hps2, erPs_app, hps1, erPs_mkP, hpTo_succ, hzp]⟩, ⟨rfl, trivial⟩, ⟨rfl, rfl, rfl, rfl, rfl, rfl, rfl, rfl, trivial⟩, ((Cv.p (C := bagS 140 rectT (regs ps) :: bagS 140 rectT zsv93 :: blk b11 82 (hnetT.enc ⟨⟨⟨pq2, ps2⟩⟩, ⟨v82, compactL os⟩⟩) :: osl 63 pieceT pq2 ps2 :: osl 2 intT v82 (compactL os) :: osl 47 slT w12 zs :: bagS 50 slT zs :: osl 82 hnetT q hs :: bagS 63 pieceT (hps hs) :: bagS 2 intT (hos hs) :: bagS 140 rectT (hrg hs) :: osl 2 intT v2 C :: osl 65 ppieceT v1 qs :: bagS 140 rectT (regsQ qs) :: L)).trans (Cv.bagJoin.trans ((Cv.cast (by rw [← regs_mkP (n : Int) zsv93, ← regs_append, ← hps2])).trans (Cv.p (L := bagS 140 rectT (regs ps2) :: blk b11 82 (hnetT.enc ⟨⟨⟨pq2, ps2⟩⟩, ⟨v82, compactL os⟩⟩) :: osl 63 pieceT pq2 ps2 :: osl 2 intT v82 (compactL os) :: osl 47 slT w12 zs :: bagS 50 slT zs :: osl 82 hnetT q hs :: bagS 63 pieceT (hps hs) :: bagS 2 intT (hos hs) :: bagS 140 rectT (hrg hs) :: osl 2 intT v2 C :: osl 65 ppieceT v1 qs :: bagS 140 rectT (regsQ qs) :: L))))), by omega⟩
           · have h7 := of_decide_eq_false h7
             obtain rfl : n = 8 := by omega
             refine WP.exit ?_
             refine WP.region (RG.pv rfl (PV.move (v := q) rfl rfl) (RG.pv rfl (PV.loadW rfl Ag82 rfl rfl) ?_))
             refine RG.ot rfl (OT.bslice (F := hnetT) (els := [⟨⟨⟨pq, ps⟩⟩, ⟨v82, compactL os⟩⟩]) rfl El74 rfl (by decide) rfl (by decide) ⟨rfl, (Cl.c rfl), trivial⟩ fun v113 => ?_)
             refine RG.ot rfl (OT.append (v := q) (u := v113) (F := hnetT) rfl El74 rfl (by decide) rfl rfl Rs.o (OneL.one (OneC.sl SlF.o (OneC.sl SlF.o OneC.nil))) rfl (by first | omega | (simp <;> omega)) fun v114 => ?_)
             refine RG.pv rfl (PV.asg (v := v114) rfl rfl) (RG.nil (WP.region (RG.pv rfl (PV.add rfl rfl rfl (by omega)) (RG.ml rfl rfl rfl (RG.nil ?_)))))
             exact ⟨rfl, f + 1, (hs ++ [⟨⟨⟨pq, ps⟩⟩, ⟨v82, compactL os⟩⟩]), v114, ⟨by omega, by rw [hTo_yes h3, List.map_append, hhs, ← hql, ← hos1]; exact congrArg (fun x => hTo E O C f ++ [(x, compactL os)]) hps1⟩, ⟨rfl, rfl, trivial⟩, ⟨rfl, rfl, rfl, trivial⟩, ((Cv.p (C := osl 63 pieceT pq ps :: bagS 63 pieceT (hps hs) :: osl 2 intT v82 (compactL os) :: bagS 2 intT (hos hs) :: bagS 140 rectT (hrg hs) :: bagS 140 rectT (regs ps) :: osl 82 hnetT v114 (hs ++ [⟨⟨⟨pq, ps⟩⟩, ⟨v82, compactL os⟩⟩]) :: osl 2 intT v2 C :: osl 65 ppieceT v1 qs :: bagS 140 rectT (regsQ qs) :: L)).trans ((Cv.grow (ys' := hps (hs ++ [⟨⟨⟨pq, ps⟩⟩, ⟨v82, compactL os⟩⟩])) (by rw [hps_app]; rfl)).trans ((Cv.cons ((Cv.grow (ys' := hos (hs ++ [⟨⟨⟨pq, ps⟩⟩, ⟨v82, compactL os⟩⟩])) (by rw [hos_app]; rfl)).trans (Cv.cons (Cv.bagJoin.trans (Cv.cast (by rw [← hrg_one ⟨⟨⟨pq, ps⟩⟩, ⟨v82, compactL os⟩⟩, ← hrg_app])))))).trans (Cv.p (L := bagS 63 pieceT (hps (hs ++ [⟨⟨⟨pq, ps⟩⟩, ⟨v82, compactL os⟩⟩])) :: bagS 2 intT (hos (hs ++ [⟨⟨⟨pq, ps⟩⟩, ⟨v82, compactL os⟩⟩])) :: bagS 140 rectT (hrg (hs ++ [⟨⟨⟨pq, ps⟩⟩, ⟨v82, compactL os⟩⟩])) :: osl 82 hnetT v114 (hs ++ [⟨⟨⟨pq, ps⟩⟩, ⟨v82, compactL os⟩⟩]) :: osl 2 intT v2 C :: osl 65 ppieceT v1 qs :: bagS 140 rectT (regsQ qs) :: L))))), by omega⟩
     · have h2 := of_decide_eq_false h2
       obtain rfl : f = qs.length := by omega
       rw [hql] at hhs
       have hg : ∀ x ∈ hs, 0 < x.net.pieces.xs.length ∧ 0 < (gd x.net.pieces.xs 0).reg.xs.length ∧ 0 ≤ (gd x.net.pieces.xs 0).layer ∧ (gd x.net.pieces.xs 0).layer ≤ 7 := fun x hx => erH_good (hgood _ (by rw [← hhs]; exact List.mem_map_of_mem hx))
       refine WP.exit ?_
       refine WP.seq (WP.region (RG.pv rfl (PV.move (v := q) rfl rfl) ?_))
       refine RG.callF (vs := [q, _]) rfl rfl En75 rfl (CallT.exS q (sortH_s RsE.o RsE.o RsE.o (by omega) hg (fun zs hp hsr => ?_)))
       refine RG.nil (WP.seq (WP.seq (WP.region (RG.pv rfl (PV.move (v := q) rfl rfl) (RG.pv rfl (PV.len (v := q) rfl Tryz.underlying74 rfl SlF.o) (RG.pv rfl (PV.gtr rfl rfl rfl) (RG.nil ?_)))))))
       have hzs : zs.map erH = netH (flyL (erCls l.cells.xs) cell) E O := by
         refine hsort _ (by rw [← hhs]; exact hp.map erH) (List.pairwise_map.2 (hsr.imp_of_mem fun {a b} ha hb hab => ?_))
         have g1 := (hg a (hp.mem_iff.1 ha)).1
         have g2 := (hg b (hp.mem_iff.1 hb)).1
         rw [cmpH, erH, erH, erPs_gd g1, erPs_gd g2]; exact hab
       have hzl : zs.length = netN (flyL (erCls l.cells.xs) cell) := by rw [← netH_len (flyL (erCls l.cells.xs) cell) E O, ← hzs, List.length_map]
       have hzl4 : zs.length ≤ 400 := by have := hp.length_eq; omega
       refine WP.cond rfl (fun h9 => ?_) (fun h9 => ?_)
       · have h9 := of_decide_eq_true h9
         have e : netE (flyL (erCls l.cells.xs) cell) = 3 := by rw [netE, hly, cond_true, if_pos (by omega)]
         rw [hnc, e] at k0
         refine WP.seq (WP.region (RG.pv rfl (PV.asg rfl rfl) (RG.mr rfl rfl rfl (RG.nil ?_))))
         refine WP.ret ?_
         exact ⟨_, _, ResV.two rfl rfl rfl, Cv.p, k0 (by decide)⟩
       · have h9 := of_decide_eq_false h9
         have e : netE (flyL (erCls l.cells.xs) cell) = 0 := by rw [netE, hly, cond_true, if_neg (by omega)]
         have k := k (by rw [hnc, e])
         refine WP.skip (WP.seq (WP.region (RG.pv rfl (PV.move (v := q) rfl rfl) (RG.pv rfl (PV.asg (v := q) rfl rfl) (RG.mr rfl rfl rfl (RG.nil ?_))))))
         refine WP.ret ?_
         exact ⟨_, _, ResV.two rfl rfl rfl, ((Cv.p (C := bagS 63 pieceT (hps hs) :: bagS 2 intT (hos hs) :: bagS 140 rectT (hrg hs) :: osl 82 hnetT q zs :: L)).trans ((Cv.bagPerm (ys := hps zs) (hp.symm.map _)).trans ((Cv.cons ((Cv.bagPerm (ys := hos zs) (hp.symm.map _)).trans (Cv.cons (Cv.bagPerm (ys := hrg zs) (hrg_perm hp.symm))))).trans Cv.p))), k q zs (by rw [hnR, if_pos (by rw [hnc, e]), hE2, hO2]; exact hzs)⟩
 · have hnc : hnC (erCls l.cells.xs) cell = hcC (erCls l.cells.xs) cell := by rw [hnC, if_neg h1]
   rw [hnc] at k0
   refine CallT.enter (args := _) Tryz.func42 rfl rfl (by kernel_rfl) rfl ?_
   refine WP.seq (WP.region ?_)
   refine RG.ot rfl (OT.box (cs := libT.enc l) rfl rfl rfl fun b2 => ?_)
   refine RG.pv rfl (PV.asg rfl rfl) (RG.mr rfl rfl rfl (RG.nil (WP.seq (WP.region (RG.pv rfl (PV.loadW rfl Ag31 rfl rfl) (RG.ml rfl rfl rfl ?_))))))
   refine RG.callF (vs := [_, _]) rfl rfl En38 rfl (pcls_i hL.up hlen (fun _ => ?_) (fun h => absurd h h1))
   refine RG.pv rfl (PV.move (v := .tuple _) rfl rfl) (RG.pv rfl (PV.ext rfl rfl rfl) (RG.pv rfl (PV.ext rfl rfl rfl) (RG.pv rfl (PV.ext rfl rfl rfl) (RG.pv rfl (PV.asg rfl rfl) (RG.pv rfl (PV.asg rfl rfl) (RG.mr rfl rfl rfl (RG.nil ?_)))))))
   refine WP.seq (WP.seq (WP.region (RG.ml rfl rfl rfl (RG.pv rfl (PV.neq rfl rfl rfl) (RG.nil ?_)))))
   refine WP.cond rfl (fun h2 => ?_) (fun h2 => ?_)
   · refine WP.seq ?_
     refine WP.region (RG.ml rfl rfl rfl (RG.pv rfl (PV.asg rfl rfl) (RG.mr rfl rfl rfl (RG.nil ?_))))
     refine WP.ret ?_
     exact ⟨_, _, ResV.two rfl rfl rfl, Cv.p, k0 h1⟩
   · exfalso; simp at h2; exact h1 h2
end Go.Proofs.YthhjapiggekjbaaGreat
namespace Go.Proofs.YthhjapiggekjbaaGreat
set_option linter.unusedVariables false
set_option linter.unusedSimpArgs false
open Go
set_option maxRecDepth 20000
set_option maxHeartbeats 1000000
set_option linter.unusedSimpArgs false
variable {G : Gh} {L : List Ch} {R : Value → Gh → List Ch → Prop}
theorem hnC_0 {cs : List ECell} {cell : Int} (h : hnC cs cell = 0) : hcC cs cell = 0 ∧ netE (flyL cs cell) = 0 := by
 unfold hnC at h
 split at h
 · exact ⟨‹_›, h⟩
 · exact absurd h ‹_›
theorem hnR_yes {cs : List ECell} {cell : Int} (h : hnC cs cell = 0) : hnR cs cell = netH (flyL cs cell) (plE cs cell) ((ppAll cs cell).map Prod.fst) := by rw [hnR, if_pos h]
theorem hnR_no {cs : List ECell} {cell : Int} (h : hnC cs cell ≠ 0) : hnR cs cell = [] := by rw [hnR, if_neg h]
noncomputable def hnN (cs : List ECell) (cell : Int) : List (List (Int × List Rect)) := if hnC cs cell = 0 then netL (flyL cs cell) else []
theorem netL_all (l : List (List Rect)) : (List.range (netN l)).map (gd (netL l)) = netL l := by
 rw [← netL_len]
 apply List.ext_getElem?
 intro i
 by_cases h : i < (netL l).length
 · simp [h, gd]
 · rw [List.getElem?_eq_none (by simp; omega), List.getElem?_eq_none (by omega)]
theorem hnR_fst (cs : List ECell) (cell : Int) : (hnR cs cell).map Prod.fst = hnN cs cell := by
 by_cases h : hnC cs cell = 0
 · rw [hnR_yes h, hnN, if_pos h, netH, List.map_map]; exact netL_all _
 · rw [hnR_no h, hnN, if_neg h]; rfl
theorem hnR_len {cs : List ECell} {cell : Int} (h : hnC cs cell = 0) : (hnR cs cell).length = netN (flyL cs cell) ∧ netN (flyL cs cell) ≤ 24 := by
 rw [hnR_yes h, netH_len]; exact ⟨rfl, (netE_ok (hnC_0 h).2).2⟩
theorem hrg_regs (hs : List HNet) : regs (er (nps (hs.map HNet.net))).flatten = hrg hs := by
 rw [hrg, nps, er, List.map_map, List.map_map, regs, List.flatMap, List.map_flatten, List.map_map]; rfl
theorem hier_i {l : Lib} {cell : Int} (hL : RLib G L l.cells.v l.cells.xs) (hlen : lenC (erCls l.cells.xs)) (k : ∀ v zs, (er (nps zs)).map erPs = hnN (erCls l.cells.xs) cell → R (.tuple #[v, vi (hnC (erCls l.cells.xs) cell)]) G (osl 80 netT v zs :: bagS 63 pieceT (nps zs) :: bagS 140 rectT (regs (er (nps zs)).flatten) :: L)) : CallT Tryz.prog 21 #[vT libT l, vi cell] G L R := by
 by_cases h1 : hnC (erCls l.cells.xs) cell = 0
 · rw [h1] at k
   obtain ⟨hl1, hl2⟩ := hnR_len h1
   have hf := hnR_fst (erCls l.cells.xs) cell
   refine CallT.enter (args := _) Tryz.func21 rfl rfl (by kernel_rfl) rfl ?_
   refine WP.seq (WP.region ?_)
   refine RG.ot rfl (OT.box (cs := libT.enc l) rfl rfl rfl fun b2 => ?_)
   refine RG.pv rfl (PV.asg rfl rfl) (RG.mr rfl rfl rfl (RG.nil (WP.seq (WP.region (RG.pv rfl (PV.loadW rfl Ag31 rfl rfl) (RG.ml rfl rfl rfl ?_))))))
   refine RG.callF (vs := [_, _]) rfl rfl En42 rfl (hnets_i hL.up hlen (fun h => absurd h1 h) (fun _ v1 hs he => ?_))
   refine RG.pv rfl (PV.move (v := .tuple _) rfl rfl) (RG.pv rfl (PV.ext (v := v1) rfl rfl rfl) (RG.pv rfl (PV.ext rfl rfl rfl) (RG.pv rfl (PV.asg (v := v1) rfl rfl) (RG.mr rfl rfl rfl (RG.nil (WP.seq (WP.seq ?_)))))))
   refine WP.region (RG.ml rfl rfl rfl (RG.pv rfl (PV.neq rfl rfl rfl) (RG.nil ?_)))
   have hsl : hs.length ≤ 24 := by have := congrArg List.length he; rw [List.length_map] at this; omega
   refine WP.cond rfl (fun h2 => ?_) (fun h2 => ?_)
   · simp at h2
   · refine WP.skip ?_
     refine WP.seq (WP.region ?_)
     refine RG.ot rfl (OT.bslice (F := netT) (els := []) rfl El44 rfl (by decide) rfl (by decide) trivial fun v20 => ?_)
     refine RG.pv rfl (PV.asg (v := v20) rfl rfl) (RG.nil (WP.seq (WP.seq (WP.region (RG.pv rfl (PV.move (v := v1) rfl rfl) (RG.pv rfl (PV.len (v := v1) rfl Tryz.underlying74 rfl SlF.o) (RG.ml rfl rfl rfl ?_)))))))
     refine RG.nil (WP.block ?_)
     refine WP.cv (Cv.eqS (show [] = (hs.take 0).map HNet.net from rfl)) ?_
     refine WP.loop2 [21, 22] (fun (i : Nat) (q : Value) => i ≤ hs.length) (fun (i : Nat) (q : Value) => [(23, vi i), (8, q)]) (fun (i : Nat) (q : Value) => osl 80 netT q ((hs.take i).map HNet.net) :: osl 82 hnetT v1 hs :: bagS 63 pieceT (hps hs) :: bagS 2 intT (hos hs) :: bagS 140 rectT (hrg hs) :: L) (fun (i : Nat) (q : Value) => hs.length - i) 0 v20 (by omega) ⟨rfl, rfl, trivial⟩ Cv.p ?_
     rintro i q τ hi
     refine WP.seq (WP.region (RG.pv rfl (PV.lss rfl rfl rfl) (RG.nil (WP.seq ?_))))
     have hnl : ((hs.take i).map HNet.net).length = i := by rw [List.length_map, List.length_take]; omega
     refine WP.cond rfl (fun h3 => ?_) (fun h3 => ?_)
     · have h3 := of_decide_eq_true h3
       have h4 : i < hs.length := by omega
       have hp1 := RsE.o (G := G) (L := bagS 63 pieceT (hps hs) :: []) (xs := hps hs) i (by rw [hps_len]; exact h4)
       have ho1 := RsE.o (G := G) (L := bagS 2 intT (hos hs) :: []) (xs := hos hs) i (by rw [hos_len]; exact h4)
       rw [hps_gd h4] at hp1
       rw [hos_gd h4] at ho1
       refine WP.skip (WP.seq (WP.block (WP.seq (WP.region (RG.pv rfl (PV.idxS (v := v1) rfl Is74 rfl SlF.o rfl rfl (by omega)) (RG.pv rfl (PV.loadE rfl Ag82 rfl rfl (El.o (getG (by omega)))) ?_))))))
       refine RG.ot rfl (OT.alloc rfl Zr82 fun b10 => ?_)
       refine RG.ot rfl (OT.storeW (vs := [_, _]) rfl Sz82 rfl rfl (Cl.c rfl) rfl rfl (OneC.sl (SlF.r hp1) (OneC.sl (SlF.r ho1) OneC.nil)) ?_)
       refine RG.nil (WP.region (RG.pv rfl (PV.move (v := q) rfl rfl) (RG.pv rfl (PV.field rfl Fo82_0 rfl) (RG.pv rfl (PV.loadB (vs := [_]) rfl Ag80 rfl rfl rfl) ?_))))
       refine RG.ot rfl (OT.bslice (F := netT) (els := [(gd hs i).net]) rfl El44 rfl (by decide) rfl (by decide) ⟨rfl, (Cl.c rfl), trivial⟩ fun v30 => ?_)
       refine RG.ot rfl (OT.append (v := q) (u := v30) (F := netT) rfl El44 rfl (by decide) rfl rfl Rs.o (OneL.one (OneC.sl (SlF.r hp1) OneC.nil)) rfl (by first | omega | (simp <;> omega)) fun v31 => ?_)
       refine RG.pv rfl (PV.asg (v := v31) rfl rfl) (RG.nil (WP.region (RG.pv rfl (PV.add rfl rfl rfl (by omega)) (RG.ml rfl rfl rfl (RG.nil ?_)))))
       exact ⟨rfl, i + 1, v31, (by omega), ⟨rfl, rfl, trivial⟩, ⟨rfl, rfl, trivial⟩, ((Cv.p (C := osl 80 netT v31 ((hs.take i).map HNet.net ++ [(gd hs i).net]) :: osl 82 hnetT v1 hs :: bagS 63 pieceT (hps hs) :: bagS 2 intT (hos hs) :: bagS 140 rectT (hrg hs) :: L)).trans (Cv.eqS (by rw [List.take_add_one, getG h4, List.map_append]; rfl))), by omega⟩
     · have h3 := of_decide_eq_false h3
       obtain rfl : i = hs.length := by omega
       rw [List.take_length]
       have e1 : (er (nps (hs.map HNet.net))).map erPs = hnN (erCls l.cells.xs) cell := by
         rw [← hf, ← he, List.map_map, nps, er, List.map_map, List.map_map, List.map_map]; rfl
       have k := k q (hs.map HNet.net) e1
       rw [hrg_regs, show nps (hs.map HNet.net) = hps hs by rw [nps, hps, List.map_map]; rfl] at k
       refine WP.exit ?_
       refine WP.seq (WP.region (RG.pv rfl (PV.move (v := q) rfl rfl) (RG.pv rfl (PV.asg (v := q) rfl rfl) (RG.mr rfl rfl rfl (RG.nil ?_)))))
       refine WP.ret ?_
       exact ⟨_, _, ResV.two rfl rfl rfl, Cv.p, k⟩
 · have e : hnN (erCls l.cells.xs) cell = [] := by rw [hnN, if_neg h1]
   rw [e] at k
   refine CallT.enter (args := _) Tryz.func21 rfl rfl (by kernel_rfl) rfl ?_
   refine WP.seq (WP.region ?_)
   refine RG.ot rfl (OT.box (cs := libT.enc l) rfl rfl rfl fun b2 => ?_)
   refine RG.pv rfl (PV.asg rfl rfl) (RG.mr rfl rfl rfl (RG.nil (WP.seq (WP.region (RG.pv rfl (PV.loadW rfl Ag31 rfl rfl) (RG.ml rfl rfl rfl ?_))))))
   refine RG.callF (vs := [_, _]) rfl rfl En42 rfl (hnets_i hL.up hlen (fun _ => ?_) (fun h => absurd h h1))
   refine RG.pv rfl (PV.move (v := .tuple _) rfl rfl) (RG.pv rfl (PV.ext rfl rfl rfl) (RG.pv rfl (PV.ext rfl rfl rfl) (RG.pv rfl (PV.asg rfl rfl) (RG.mr rfl rfl rfl (RG.nil (WP.seq (WP.seq ?_)))))))
   refine WP.region (RG.ml rfl rfl rfl (RG.pv rfl (PV.neq rfl rfl rfl) (RG.nil ?_)))
   refine WP.cond rfl (fun h2 => ?_) (fun h2 => ?_)
   · refine WP.seq ?_
     refine WP.region (RG.ml rfl rfl rfl (RG.pv rfl (PV.asg rfl rfl) (RG.mr rfl rfl rfl (RG.nil ?_))))
     refine WP.ret ?_
     exact ⟨_, _, ResV.two rfl rfl rfl, (Cv.p (C := L)).trans ((Cv.bag0 (e := 140) (F := rectT) (xs := regs (er (nps [])).flatten) rfl).trans ((Cv.bag0 (e := 63) (F := pieceT) (xs := nps []) rfl).trans Cv.nilS)), k (.slice none 0 0) [] rfl⟩
   · exfalso; simp at h2; exact h1 h2
theorem hier_r {l : Lib} {cell : Int} (hL : RLib G L l.cells.v l.cells.xs) (hlen : lenC (erCls l.cells.xs)) (k : ∀ v zs, (er (nps zs)).map erPs = hnN (erCls l.cells.xs) cell → R (.tuple #[v, vi (hnC (erCls l.cells.xs) cell)]) G (osl 80 netT v zs :: bagS 63 pieceT (nps zs) :: bagS 140 rectT (regs (er (nps zs)).flatten) :: L)) : CallT Tryz.prog 26 #[vT libT l, vi cell] G L R := by
 by_cases h1 : hcC (erCls l.cells.xs) cell = 0
 · have hnc : hnC (erCls l.cells.xs) cell = netE (flyL (erCls l.cells.xs) cell) := by rw [hnC, if_pos h1]
   have hnn : hnN (erCls l.cells.xs) cell = netR (flyL (erCls l.cells.xs) cell) := by rw [hnN, hnc]; rfl
   rw [hnc, hnn] at k
   refine CallT.enter (args := _) Tryz.func26 rfl rfl (by kernel_rfl) rfl ?_
   refine WP.seq (WP.region ?_)
   refine RG.ot rfl (OT.box (cs := libT.enc l) rfl rfl rfl fun b2 => ?_)
   refine RG.pv rfl (PV.asg rfl rfl) (RG.mr rfl rfl rfl (RG.nil (WP.seq (WP.seq (WP.region (RG.pv rfl (PV.loadW rfl Ag31 rfl rfl) (RG.ml rfl rfl rfl ?_)))))))
   refine RG.callF (vs := [_, _]) rfl rfl En36 rfl (l25All_r hL.up hlen (fun h => absurd h1 h) (fun _ v1 qs v2 hq => ?_))
   refine RG.pv rfl (PV.move (v := .tuple _) rfl rfl) (RG.pv rfl (PV.ext (v := v1) rfl rfl rfl) (RG.pv rfl (PV.ext (v := v2) rfl rfl rfl) (RG.pv rfl (PV.ext rfl rfl rfl) (RG.pv rfl (PV.asg (v := v1) rfl rfl) (RG.pv rfl (PV.asg (v := v2) rfl rfl) (RG.mr rfl rfl rfl (RG.nil ?_)))))))
   refine WP.seq (WP.region (RG.ml rfl rfl rfl (RG.pv rfl (PV.neq rfl rfl rfl) (RG.nil ?_))))
   refine WP.cond rfl (fun h2 => ?_) (fun h2 => ?_)
   · simp at h2
   · refine WP.skip ?_
     refine WP.seq (WP.region (RG.pv rfl (PV.loadW rfl Ag31 rfl rfl) (RG.ml rfl rfl rfl ?_)))
     refine RG.callF (vs := [_, _]) rfl rfl En52 rfl (fly_r hL.up hlen (fun w25 ys hy => ?_))
     refine RG.pv rfl (PV.move (v := .tuple _) rfl rfl) (RG.pv rfl (PV.ext (v := w25) rfl rfl rfl) (RG.pv rfl (PV.ext rfl rfl rfl) (RG.pv rfl (PV.asg (v := w25) rfl rfl) (RG.mr rfl rfl rfl (RG.nil (WP.seq (WP.region ?_)))))))
     refine RG.pv rfl (PV.move (v := w25) rfl rfl) ?_
     refine RG.callF (vs := [w25]) rfl rfl En53 rfl (nets_r Rs.o RsE.o (fun w29 zsw29 hew29 => ?_))
     refine RG.pv rfl (PV.ext rfl rfl rfl) (RG.pv rfl (PV.ext rfl rfl rfl) (RG.pv rfl (PV.asg rfl rfl) (RG.mr rfl rfl rfl (RG.nil ?_))))
     refine WP.ret ?_
     rw [← hy] at k
     exact ⟨_, _, ResV.two rfl rfl rfl, Cv.p, k w29 zsw29 hew29⟩
 · have hnc : hnC (erCls l.cells.xs) cell = hcC (erCls l.cells.xs) cell := by rw [hnC, if_neg h1]
   have e : hnN (erCls l.cells.xs) cell = [] := by rw [hnN, hnc, if_neg h1]
   rw [e, hnc] at k
   refine CallT.enter (args := _) Tryz.func26 rfl rfl (by kernel_rfl) rfl ?_
   refine WP.seq (WP.region ?_)
   refine RG.ot rfl (OT.box (cs := libT.enc l) rfl rfl rfl fun b2 => ?_)
   refine RG.pv rfl (PV.asg rfl rfl) (RG.mr rfl rfl rfl (RG.nil (WP.seq (WP.seq (WP.region (RG.pv rfl (PV.loadW rfl Ag31 rfl rfl) (RG.ml rfl rfl rfl ?_)))))))
   refine RG.callF (vs := [_, _]) rfl rfl En36 rfl (l25All_r hL.up hlen (fun _ v1 v2 => ?_) (fun h => absurd h h1))
   refine RG.pv rfl (PV.move (v := .tuple _) rfl rfl) (RG.pv rfl (PV.ext (v := v1) rfl rfl rfl) (RG.pv rfl (PV.ext (v := v2) rfl rfl rfl) (RG.pv rfl (PV.ext rfl rfl rfl) (RG.pv rfl (PV.asg (v := v1) rfl rfl) (RG.pv rfl (PV.asg (v := v2) rfl rfl) (RG.mr rfl rfl rfl (RG.nil ?_)))))))
   refine WP.seq (WP.region (RG.ml rfl rfl rfl (RG.pv rfl (PV.neq rfl rfl rfl) (RG.nil ?_))))
   refine WP.cond rfl (fun h2 => ?_) (fun h2 => ?_)
   · refine WP.seq ?_
     refine WP.region ?_
     refine RG.ot rfl (OT.bslice (F := netT) (els := []) rfl El44 rfl (by decide) rfl (by decide) trivial fun v20 => ?_)
     refine RG.ml rfl rfl rfl (RG.pv rfl (PV.asg (v := v20) rfl rfl) (RG.mr rfl rfl rfl (RG.nil ?_)))
     refine WP.ret ?_
     exact ⟨_, _, ResV.two rfl rfl rfl, (Cv.p (C := osl 80 netT v20 [] :: L)).trans (Cv.cons ((Cv.bag0 (e := 140) (F := rectT) (xs := regs (er (nps [])).flatten) rfl).trans (Cv.bag0 (e := 63) (F := pieceT) (xs := nps []) rfl))), k v20 [] rfl⟩
   · exfalso; simp at h2; exact h1 h2
end Go.Proofs.YthhjapiggekjbaaGreat
