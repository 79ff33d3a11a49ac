/-
  The law FnCellCounts: whatever the code, the law returns true and the code reads as before.
-/
import Derived.Test.YtogocmlhnjiaaaaGreatTB6
import Derived.ProofKit
import Derived.Deep.Slices
import Derived.Carry
import Derived.Test.YtogocmlhnjiaaaaGreatRows
set_option linter.unusedVariables false
set_option linter.unusedSimpArgs false
namespace Go.Proofs.YtogocmlhnjiaaaaGreat
open Go
set_option maxRecDepth 20000
set_option maxHeartbeats 1000000
variable {G : Gh} {L : List Ch} {R : Value -> Gh -> List Ch -> Prop}
theorem gd_p0 {α : Type} [Inhabited α] (a b : α) : gd [a, b] 0 = a := by simp [gd]
theorem gd_p1 {α : Type} [Inhabited α] (a b : α) : gd [a, b] 1 = b := by simp [gd]
structure AtEl (xs : List Cell) (cell n : Int) : Prop where
  hz : shE (erCls xs) cell = 0
  hn : 0 <= n ∧ n < elN (erCls xs) cell
theorem AtEl.lib {xs : List Cell} {cell n : Int} (h : AtEl xs cell n) : okLib (erCls xs) = true ∧ 0 <= cell ∧ cell.toNat < xs.length := by
 have := shE_lib h.hz
 rw [erCls_len] at this
 exact ⟨this.1, by omega, by omega⟩
theorem AtEl.lt {xs : List Cell} {cell n : Int} (h : AtEl xs cell n) : n.toNat < (elems (gd xs cell.toNat).insts.xs).length := by
 have := h.hn
 rw [elN_ns h.lib.2.2] at this
 omega
theorem AtEl.el {xs : List Cell} {cell n : Int} (h : AtEl xs cell n) : (0 <= (gd (elems (gd xs cell.toNat).insts.xs) n.toNat).place.o ∧ (gd (elems (gd xs cell.toNat).insts.xs) n.toNat).place.o <= 7) ∧ ((-80 <= (gd (elems (gd xs cell.toNat).insts.xs) n.toNat).place.x ∧ (gd (elems (gd xs cell.toNat).insts.xs) n.toNat).place.x <= 80) ∧ -80 <= (gd (elems (gd xs cell.toNat).insts.xs) n.toNat).place.y ∧ (gd (elems (gd xs cell.toNat).insts.xs) n.toNat).place.y <= 80) := by
 have := elems_valid (shE_zero h.hz).1 (i := n.toNat) (by have := h.hn; omega)
 rw [erCl_insts h.lib.2.2] at this
 exact validT_iff.1 this
theorem free_no {cs : List ECell} {cell n reach : Int} (h : bndE cs (gd (elems (gd cs cell.toNat).insts) n.toNat).cell ≠ 0) : freeB cs cell n reach = false := by
 simp only [freeB, decide_eq_false h, Bool.false_and]
theorem rootR_in {xs : List Cell} {cell : Int} (hz : shE (erCls xs) cell = 0) {i : Nat} (hi : i < (rootR (erCls xs) cell).length) : RIn 40 (gd (rootR (erCls xs) cell) i).shape.box := by
 have e : rootR (erCls xs) cell = rootL (erCls xs) (occR (erCls xs) cell) := by rw [rootR, decide_eq_true hz]; rfl
 rw [e] at hi ⊢
 have hm : (gd (rootL (erCls xs) (occR (erCls xs) cell)) i).shape ∈ (rootL (erCls xs) (occR (erCls xs) cell)).map RShape.shape := List.mem_map.2 ⟨_, gd_mem hi, rfl⟩
 rw [rootL_flat] at hm
 exact validR_in ((shE_zero hz).2 _ hm)
theorem free1_s {x : RShape} {n reach : Int} {p : Rect} {b1 b2 b3 : Nat} (h1 : Rd G L b1 0 (vi n)) (h2 : RdN G L b2 (rectT.enc p)) (h3 : Rd G L b3 0 (vi reach)) (hx : RBig x.shape.box) (hp2 : RBig p) (hr : 0 <= reach ∧ reach <= 8) (k : R (.bool (nearS n reach p x)) G L) :
  CallT Tryz.prog 95 #[vT rshapeT x, .pointer (some ⟨b1, 0, none⟩), .pointer (some ⟨b2, 0, none⟩), .pointer (some ⟨b3, 0, none⟩)] G L R := by
 refine CallT.enter (args := _) Tryz.func95 rfl rfl (by kernel_rfl) rfl ?_
 refine WP.sr ?_
 refine RG.ot rfl (OT.box (cs := rshapeT.enc x) rfl rfl rfl fun b4 => ?_)
 refine RG.br rfl (RG.nil (WP.seq ?_))
 refine WP.regionQ (by kernel_rfl) (by kernel_rfl) ?_
 refine RQ.pv rfl (PV.field rfl Fo133_0 rfl) (RQ.pv rfl (PV.load1 rfl Sc2 rfl (Rd.blk rfl)) (RQ.pv rfl (PV.load1 rfl Sc2 rfl (Rd.up h1)) (RQ.pv rfl (PV.neq rfl rfl rfl) (RQ.pv rfl (PV.mvB (.inl rfl) rfl) (RQ.gs rfl rfl rfl (fun hp => (PV.field rfl Fo133_1 rfl)) (RQ.gs rfl rfl rfl (fun hp => (PV.field rfl Fo109_1 (gt' hp))) (RQ.gs rfl rfl rfl (fun hp => (PV.loadB (vs := [_, _, _, _]) rfl Ag101 (gt' hp) rfl rfl)) (RQ.gs rfl rfl rfl (fun hp => (PV.loadA rfl Ag101 rfl rfl (RdN.up h2))) ?_))))))))
 refine RQ.gsC rfl rfl rfl rfl En96 (fun hp => ⟨_, (acons (gt' hp) (acons (gt' hp) anil)), dist_s hx hp2 ⟨rfl, rfl, rfl⟩⟩) ?_
 refine RQ.gs rfl rfl rfl (fun hp => (PV.load1 rfl Sc2 rfl (Rd.up h3))) (RQ.gs rfl rfl rfl (fun hp => (PV.mul rfl rfl (gt' hp) (by first | omega | (simp at hp; omega)))) (RQ.gs rfl rfl rfl (fun hp => (PV.leq rfl (gt' hp) (gt' hp))) (RQ.pv rfl (PV.pickA rfl rfl (fun hq => gt' (geqT hq)) rfl) (RQ.pv rfl (PV.mvB (.inr rfl) rfl) (RQ.nil ?_)))))
 exact WP.ret ⟨_, _, rv rfl rfl, Cv.p, k⟩
theorem indexF_rshape {v fv : Value} {xs : List (RShape)} {p : (RShape) -> Bool} (h1 : Rs G L rshapeT v xs) (hf : ∀ i, i < xs.length -> CB Tryz.prog G L fv [vT rshapeT (gd xs i)] (.bool (p (gd xs i)))) (k : R (vi (idxI p xs)) G L) : CallT Tryz.prog 148 #[v, fv] G L R := by
 refine CallT.bd h1 fun hb => ?_
 refine CallT.enter (args := _) Tryz.func148 rfl rfl (by kernel_rfl) rfl ?_
 refine WP.sr (RG.mr rfl (RG.nil (WP.seq (WP.sr (RG.p (PV.move (v := v) rfl rfl) (RG.p (PV.len (v := v) rfl Tryz.underlying79 rfl (SlF.r h1)) (RG.ml rfl (RG.nil (WP.block ?_)))))))))
 refine WP.loop1 [0, 1, 7] (fun i => i <= xs.length ∧ ∀ j, j < i -> p (gd xs j) = false) (fun i => [(8, vi i)]) (fun i => L) (fun i => xs.length - i) 0 ⟨by omega, fun j h => by omega⟩ ⟨rfl, trivial⟩ Cv.p ?_
 rintro i τ ⟨hi, hj⟩
 refine WP.sr (RG.p (PV.lss rfl rfl rfl) (RG.nil (WP.seq ?_)))
 refine WP.cond rfl (fun h2 => ?_) fun h2 => ?_
 ·have h2 := odt h2
  refine WP.skip (WP.seq (WP.block (WP.sr (RG.ml rfl (RG.mr rfl (RG.nil (WP.sr (RG.p (PV.move (v := fv) rfl rfl) (RG.p (PV.move (v := v) rfl rfl) (RG.ml rfl (RG.p (PV.idxS (v := v) rfl Is79 rfl (SlF.r h1) rfl rfl (by omega)) ?_)))))))))))
  refine RG.p (PV.loadE rfl Ag133 rfl rfl (El.r h1 (getG (by omega)))) ?_
  refine RG.callB (vs := [_]) rfl rfl rfl rfl (CB.up (hf i (by omega))) ?_
  refine RG.nil ?_
  refine WP.cond rfl (fun h3 => ?_) fun h3 => ?_
  ·rw [idxI_at (by omega) h3 hj] at k
   refine WP.sr (RG.ml rfl (RG.mr rfl (RG.nil ?_)))
   exact WP.ret ⟨_, _, rv rfl rfl, Cv.p, k⟩
  ·have hj' : ∀ j, j < i + 1 -> p (gd xs j) = false := fun j h => by
    by_cases c : j = i
    ·rw [c]; exact h3
    ·exact hj j (by omega)
   refine WP.skip (WP.region (RG.p (PV.add rfl rfl rfl (by omega)) (RG.ml rfl (RG.nil ?_))))
   exact ⟨rfl, i + 1, ⟨by omega, hj'⟩, ⟨rfl, trivial⟩, ⟨rfl, rfl, rfl, trivial⟩, Cv.p, by omega⟩
 ·have h2 := odf h2
  rw [idxI_none (fun j h => hj j (by omega))] at k
  refine WP.exit (WP.sr (RG.mr rfl (RG.nil ?_)))
  exact WP.ret ⟨_, _, rv rfl rfl, Cv.p, k⟩
theorem containsF_rshape {v fv : Value} {xs : List (RShape)} {p : (RShape) -> Bool} (h1 : Rs G L rshapeT v xs) (hf : ∀ i, i < xs.length -> CB Tryz.prog G L fv [vT rshapeT (gd xs i)] (.bool (p (gd xs i)))) (k : R (.bool (xs.any p)) G L) : CallT Tryz.prog 94 #[v, fv] G L R := by
 rw [<- idxI_any] at k
 refine CallT.enter (args := _) Tryz.func94 rfl rfl (by kernel_rfl) rfl ?_
 refine WP.sr (RG.br rfl (RG.nil (WP.sr (RG.p (PV.move (v := v) rfl rfl) (RG.p (PV.move (v := fv) rfl rfl) ?_)))))
 refine RG.callF (vs := [v, fv]) rfl rfl En148 rfl (indexF_rshape (Rs.up h1) (fun i hi => (hf i hi).up) ?_)
 refine RG.p (PV.geq rfl rfl rfl) (RG.br rfl (RG.nil ?_))
 exact WP.ret ⟨_, _, rv rfl rfl, Cv.p, k⟩
theorem free_i {l : Lib} {cell n reach : Int} {v : Value} (hL : RLib G L l.cells.v l.cells.xs) (hlen : lenC (erCls l.cells.xs)) (ha : AtEl l.cells.xs cell n) (hr : 0 <= reach ∧ reach <= 8) (h5 : Rs G L rshapeT v (rootR (erCls l.cells.xs) cell)) (k : R (.bool (freeB (erCls l.cells.xs) cell n reach)) G L) :
  CallT Tryz.prog 49 #[vT libT l, vi cell, vi n, vi reach, v] G L R := by
 have hE := erCls_len l.cells.xs
 obtain ⟨hok, hc0, hc1⟩ := ha.lib
 have hce := erCl_insts (xs := l.cells.xs) (i := cell.toNat) hc1
 have hns : okNs (gd l.cells.xs cell.toNat).insts.xs := by rw [<- hce]; exact okLib_ns hok (by omega)
 have hnl := ha.lt
 have hn0 := ha.hn.1
 obtain ⟨he1, he2'⟩ := ha.el
 have he2 : -1000 <= (gd (elems (gd l.cells.xs cell.toNat).insts.xs) n.toNat).place.x ∧ (gd (elems (gd l.cells.xs cell.toNat).insts.xs) n.toNat).place.x <= 1000 ∧ -1000 <= (gd (elems (gd l.cells.xs cell.toNat).insts.xs) n.toNat).place.y ∧ (gd (elems (gd l.cells.xs cell.toNat).insts.xs) n.toNat).place.y <= 1000 := by omega
 have e2 : rootR (erCls l.cells.xs) cell = rootL (erCls l.cells.xs) (occR (erCls l.cells.xs) cell) := by rw [rootR, decide_eq_true ha.hz]; rfl
 refine CallT.enter (args := _) Tryz.func49 rfl rfl (by kernel_rfl) rfl ?_
 refine WP.sr ?_
 refine RG.ot rfl (OT.box (cs := libT.enc l) rfl rfl rfl fun b5 => ?_)
 refine RG.ot rfl (OT.box (cs := [vi n]) rfl rfl rfl fun b7 => ?_)
 refine RG.ot rfl (OT.box (cs := [vi reach]) rfl rfl rfl fun b8 => ?_)
 refine RG.br rfl (RG.nil ?_)
 refine WP.cut1 [4, 5, 7, 8] (fun (b11 : Nat) => True) (fun (b11 : Nat) => [(11, .pointer (some ⟨b11, 0, none⟩))]) (fun (b11 : Nat) => blk b11 89 (helemT.enc (gd (elems (gd l.cells.xs cell.toNat).insts.xs) n.toNat)) :: blk b5 26 (libT.enc l) :: blk b7 2 [vi n] :: blk b8 2 [vi reach] :: L) ?_ ?_
 refine WP.regionH0 (.q 0 (.q 1 (.q 2 (.q 3 (.q 4 (.q 6 (.b 5 (.q 7 (.q 8 (.l 9 (.l 10 Sch.nil)))) 9 (.l 5 (.q 7 (.q 8 (.l 10 Sch.nil))))))))))) (by kernel_rfl) (by kernel_rfl) (by kernel_rfl) rfl ?_
 refine RH.w rfl rfl (PV.field rfl Fo26_0 rfl) (RH.w rfl rfl (PV.load1 rfl Sc24 rfl (Rd.blk rfl)) (RH.w rfl rfl (PV.mvI (.inl rfl) rfl) (RH.w rfl rfl (PV.idxS (j := cell.toNat) rfl Is24 rfl (SlF.r hL.c) rfl (by first | omega | (simp only [List.length_cons, List.length_nil]; omega)) (by first | omega | (simp only [List.length_cons, List.length_nil]; omega))) (RH.w rfl rfl (PV.loadE rfl Ag95 rfl rfl (El.r hL.c (getG (by first | omega | (simp only [List.length_cons, List.length_nil]; omega))))) (RH.w rfl rfl (PV.load1 rfl Sc2 rfl (Rd.blk rfl)) ?_)))))
 ·refine RH.ot2 rfl rfl rfl rfl  (OT.callF (vs := [_]) rfl En50 rfl (elems_i (hL.na (by omega)).up hns (fun v22 => (kp ?_)))) (OT.alloc rfl Zr89 fun b11 => (kp ?_))
  ·refine RH.up1 ?_
   refine RH.w rfl rfl (PV.idxS (j := n.toNat) (v := v22) rfl Is90 rfl SlF.o rfl (by first | omega | (simp only [List.length_cons, List.length_nil]; omega)) (by first | omega | (simp only [List.length_cons, List.length_nil]; omega))) (RH.w rfl rfl (PV.loadE rfl Ag89 rfl rfl (El.o (getG (by first | omega | (simp only [List.length_cons, List.length_nil]; omega))))) ?_)
   refine RH.ot rfl rfl (OT.alloc rfl Zr89 fun b11 => (kp ?_))
   refine RH.ot rfl rfl (OT.storeW (vs := [vi _, vi _, vi _, vi _]) rfl Sz89 rfl rfl (Cl.c rfl) rfl rfl (OneC.c rfl) (kp ?_))
   refine RH.nil ?_
   exact ⟨rfl, b11, trivial, ⟨rfl, trivial⟩, ⟨rfl, rfl, rfl, rfl, trivial⟩, Cv.p⟩
  ·refine RH.ot rfl rfl (OT.callF (vs := [_]) rfl En50 rfl (elems_i (hL.na (by omega)).up hns (fun v22 => (kp ?_))))
   refine RH.up1 ?_
   refine RH.w rfl rfl (PV.idxS (j := n.toNat) (v := v22) rfl Is90 rfl SlF.o rfl (by first | omega | (simp only [List.length_cons, List.length_nil]; omega)) (by first | omega | (simp only [List.length_cons, List.length_nil]; omega))) (RH.w rfl rfl (PV.loadE rfl Ag89 rfl rfl (El.o (getG (by first | omega | (simp only [List.length_cons, List.length_nil]; omega))))) ?_)
   refine RH.ot rfl rfl (OT.storeW (vs := [vi _, vi _, vi _, vi _]) rfl Sz89 rfl rfl (Cl.c rfl) rfl rfl (OneC.c rfl) (kp ?_))
   refine RH.nil ?_
   exact ⟨rfl, b11, trivial, ⟨rfl, trivial⟩, ⟨rfl, rfl, rfl, rfl, trivial⟩, Cv.p⟩
 rintro b11 τ -
 refine WP.sr (RG.p (PV.loadW rfl Ag26 rfl rfl) (RG.p (PV.field rfl Fo89_0 rfl) (RG.p (PV.load1 rfl Sc2 rfl (Rd.blk rfl)) ?_)))
 refine RG.callF (vs := [_, _]) rfl rfl En93 rfl (bnd_i hL.up hlen ?_)
 refine RG.p (PV.move rfl rfl) (RG.p (PV.ext rfl rfl rfl) (RG.p (PV.ext rfl rfl rfl) ?_))
 refine RG.ot rfl (OT.alloc rfl Zr101 fun b12 => ?_)
 refine RG.ot rfl (OT.storeW (vs := [vi _, vi _, vi _, vi _]) rfl Sz101 rfl rfl (Cl.c rfl) rfl rfl (OneC.c rfl) ?_)
 refine RG.mr rfl (RG.nil (WP.seq (WP.sr (RG.ml rfl (RG.p (PV.neq rfl rfl rfl) (RG.nil ?_))))))
 refine WP.cond rfl (fun h6 => ?_) fun h6 => ?_
 ·have h6 : bndE (erCls l.cells.xs) (gd (elems (gd l.cells.xs cell.toNat).insts.xs) n.toNat).cell ≠ 0 := by simpa using h6
  have e : freeB (erCls l.cells.xs) cell n reach = false := free_no (by rw [hce]; exact h6)
  rw [e] at k
  refine WP.sr (RG.br rfl (RG.nil ?_))
  exact WP.ret ⟨_, _, rv rfl rfl, Cv.p, k⟩
 ·have h6 : bndE (erCls l.cells.xs) (gd (elems (gd l.cells.xs cell.toNat).insts.xs) n.toNat).cell = 0 := by simpa using h6
  have hob := bndR_in h6
  have hpb := moveR_big hob he1 (show (-1000 <= (gd (elems (gd l.cells.xs cell.toNat).insts.xs) n.toNat).place.x ∧ (gd (elems (gd l.cells.xs cell.toNat).insts.xs) n.toNat).place.x <= 1000) ∧ -1000 <= (gd (elems (gd l.cells.xs cell.toNat).insts.xs) n.toNat).place.y ∧ (gd (elems (gd l.cells.xs cell.toNat).insts.xs) n.toNat).place.y <= 1000 by omega)
  have hfe : freeB (erCls l.cells.xs) cell n reach = ((validRect (wideR (bndR (erCls l.cells.xs) (gd (elems (gd l.cells.xs cell.toNat).insts.xs) n.toNat).cell) reach) && validRect (wideR (moveR (gd (elems (gd l.cells.xs cell.toNat).insts.xs) n.toNat).place (bndR (erCls l.cells.xs) (gd (elems (gd l.cells.xs cell.toNat).insts.xs) n.toNat).cell)) reach)) && !((rootR (erCls l.cells.xs) cell).any (nearS n reach (moveR (gd (elems (gd l.cells.xs cell.toNat).insts.xs) n.toNat).place (bndR (erCls l.cells.xs) (gd (elems (gd l.cells.xs cell.toNat).insts.xs) n.toNat).cell))))) := by
   simp only [freeB, hce, decide_eq_true h6, Bool.true_and, e2]
  have hbd : ∀ j, j < 2 -> RBig (gd [bndR (erCls l.cells.xs) (gd (elems (gd l.cells.xs cell.toNat).insts.xs) n.toNat).cell, moveR (gd (elems (gd l.cells.xs cell.toNat).insts.xs) n.toNat).place (bndR (erCls l.cells.xs) (gd (elems (gd l.cells.xs cell.toNat).insts.xs) n.toNat).cell)] j) := fun j hj => by
   match j, hj with
   | 0, _ => simpa [gd] using RIn_big hob
   | 1, _ => simpa [gd] using hpb
  refine WP.skip (WP.sr (RG.p (PV.field rfl Fo89_1 rfl) (RG.p (PV.loadB (vs := [_, _, _]) rfl Ag87 rfl rfl rfl) (RG.p (PV.loadW rfl Ag101 rfl rfl) ?_))))
  refine RG.callF (vs := [_, _]) rfl rfl En66 rfl (moveRect_s he1 he2 hob ?_)
  refine RG.ot rfl (OT.alloc rfl Zr101 fun b14 => ?_)
  refine RG.ot rfl (OT.storeW (vs := [vi _, vi _, vi _, vi _]) rfl Sz101 rfl rfl (Cl.c rfl) rfl rfl (OneC.c rfl) ?_)
  refine RG.nil (WP.seq (WP.sr (RG.p (PV.loadW rfl Ag101 rfl rfl) (RG.p (PV.loadW rfl Ag101 rfl rfl) ?_))))
  refine RG.ot rfl (OT.bslice (F := rectT) (els := [_, _]) rfl El50 rfl (by decide) rfl (by decide) ⟨rfl, (Cl.c rfl), ⟨rfl, (Cl.c rfl), trivial⟩⟩ fun v41 => ?_)
  refine RG.p (PV.len (v := v41) rfl Tryz.underlying50 rfl SlF.o) (RG.ml rfl (RG.nil (WP.block ?_)))
  refine WP.loop1 [4, 7, 8, 14, 41, 42] (fun i => i <= 2 ∧ ∀ j, j < i -> validRect (wideR (gd [bndR (erCls l.cells.xs) (gd (elems (gd l.cells.xs cell.toNat).insts.xs) n.toNat).cell, moveR (gd (elems (gd l.cells.xs cell.toNat).insts.xs) n.toNat).place (bndR (erCls l.cells.xs) (gd (elems (gd l.cells.xs cell.toNat).insts.xs) n.toNat).cell)] j) reach) = true) (fun i => [(43, vi i)]) (fun i => osl 101 rectT v41 [bndR (erCls l.cells.xs) (gd (elems (gd l.cells.xs cell.toNat).insts.xs) n.toNat).cell, moveR (gd (elems (gd l.cells.xs cell.toNat).insts.xs) n.toNat).place (bndR (erCls l.cells.xs) (gd (elems (gd l.cells.xs cell.toNat).insts.xs) n.toNat).cell)] :: blk b14 101 (rectT.enc (moveR (gd (elems (gd l.cells.xs cell.toNat).insts.xs) n.toNat).place (bndR (erCls l.cells.xs) (gd (elems (gd l.cells.xs cell.toNat).insts.xs) n.toNat).cell))) :: blk b7 2 [vi n] :: blk b8 2 [vi reach] :: L) (fun i => 2 - i) 0 ⟨by omega, fun j h => by omega⟩ ⟨rfl, trivial⟩ Cv.p ?_
  rintro i τ ⟨hi, hj⟩
  refine WP.sr (RG.p (PV.lss rfl rfl rfl) (RG.nil (WP.seq ?_)))
  refine WP.cond rfl (fun h7 => ?_) fun h7 => ?_
  ·have h7 : i < 2 := by have := odt h7; simp only [List.length_cons, List.length_nil] at this; omega
   obtain ⟨⟨z1, z2, z3⟩, z4, z5, z6⟩ := hbd i h7
   refine WP.skip (WP.seq (WP.block (WP.sr (RG.p (PV.idxS (v := v41) rfl Is50 rfl SlF.o rfl rfl (by first | omega | (simp only [List.length_cons, List.length_nil]; omega))) (RG.p (PV.loadE rfl Ag101 rfl rfl (El.o (getG (by first | omega | (simp only [List.length_cons, List.length_nil]; omega))))) ?_)))))
   refine RG.ot rfl (OT.alloc rfl Zr101 fun b16 => ?_)
   refine RG.ot rfl (OT.storeW (vs := [vi _, vi _, vi _, vi _]) rfl Sz101 rfl rfl (Cl.c rfl) rfl rfl (OneC.c rfl) ?_)
   refine RG.nil (WP.sr (RG.p (PV.field rfl Fo101_0 rfl) (RG.p (PV.load1 rfl Sc2 rfl (Rd.blk rfl)) (RG.p (PV.load1 rfl Sc2 rfl (Rd.blk rfl)) (RG.p (PV.sub rfl rfl rfl (by first | omega | (simp only [List.length_cons, List.length_nil]; omega))) (RG.p (PV.field rfl Fo101_1 rfl) (RG.p (PV.load1 rfl Sc2 rfl (Rd.blk rfl)) (RG.p (PV.load1 rfl Sc2 rfl (Rd.blk rfl)) (RG.p (PV.sub rfl rfl rfl (by first | omega | (simp only [List.length_cons, List.length_nil]; omega))) (RG.p (PV.field rfl Fo101_2 rfl) (RG.p (PV.load1 rfl Sc2 rfl (Rd.blk rfl)) (RG.p (PV.load1 rfl Sc2 rfl (Rd.blk rfl)) ?_))))))))))))
   refine RG.p (PV.add rfl rfl rfl (by first | omega | (simp only [List.length_cons, List.length_nil]; omega))) (RG.p (PV.field rfl Fo101_3 rfl) (RG.p (PV.load1 rfl Sc2 rfl (Rd.blk rfl)) (RG.p (PV.load1 rfl Sc2 rfl (Rd.blk rfl)) (RG.p (PV.add rfl rfl rfl (by first | omega | (simp only [List.length_cons, List.length_nil]; omega))) (RG.p (PV.build (vs := [(0, [vi _]), (1, [vi _]), (2, [vi _]), (3, [vi _])]) (out := [_, _, _, _]) rfl Zr101 Pl101 ⟨rfl, (Cl.c rfl), ⟨rfl, (Cl.c rfl), ⟨rfl, (Cl.c rfl), ⟨rfl, (Cl.c rfl), trivial⟩⟩⟩⟩ rfl) ?_)))))
   refine RG.callF (vs := [_]) rfl rfl En67 rfl (validRect_s (r := ⟨_, _, _, _⟩) ?_)
   refine RG.p (PV.not rfl rfl) (RG.nil ?_)
   refine WP.cond rfl (fun h8 => ?_) fun h8 => ?_
   ·have h8 : validRect (wideR (gd [bndR (erCls l.cells.xs) (gd (elems (gd l.cells.xs cell.toNat).insts.xs) n.toNat).cell, moveR (gd (elems (gd l.cells.xs cell.toNat).insts.xs) n.toNat).place (bndR (erCls l.cells.xs) (gd (elems (gd l.cells.xs cell.toNat).insts.xs) n.toNat).cell)] i) reach) = false := by simpa using h8
    have e : freeB (erCls l.cells.xs) cell n reach = false := by
     rw [hfe]
     match i, h7 with
     | 0, _ => rw [gd_p0] at h8; rw [h8]; rfl
     | 1, _ => rw [gd_p1] at h8; rw [h8, Bool.and_false]; rfl
    rw [e] at k
    refine WP.sr (RG.br rfl (RG.nil ?_))
    exact WP.ret ⟨_, _, rv rfl rfl, Cv.p, k⟩
   ·have hj' : ∀ j, j < i + 1 -> validRect (wideR (gd [bndR (erCls l.cells.xs) (gd (elems (gd l.cells.xs cell.toNat).insts.xs) n.toNat).cell, moveR (gd (elems (gd l.cells.xs cell.toNat).insts.xs) n.toNat).place (bndR (erCls l.cells.xs) (gd (elems (gd l.cells.xs cell.toNat).insts.xs) n.toNat).cell)] j) reach) = true := fun j h => by
     by_cases c : j = i
     ·rw [c]; simpa using h8
     ·exact hj j (by omega)
    refine WP.skip (WP.region (RG.p (PV.add rfl rfl rfl (by first | omega | (simp only [List.length_cons, List.length_nil]; omega))) (RG.ml rfl (RG.nil ?_))))
    exact ⟨rfl, i + 1, ⟨by omega, hj'⟩, ⟨rfl, trivial⟩, ⟨rfl, rfl, rfl, rfl, rfl, rfl, trivial⟩, Cv.p, by omega⟩
  ·have h7 : i = 2 := by have := odf h7; simp only [List.length_cons, List.length_nil] at this; omega
   have v0 := hj 0 (by omega)
   have v1 := hj 1 (by omega)
   rw [gd_p0] at v0
   rw [gd_p1] at v1
   rw [hfe, v0, v1] at k
   refine WP.exit (WP.sr (RG.p (PV.move (v := v) rfl rfl) (RG.p (PV.mkf3 rfl rfl rfl rfl) ?_)))
   refine RG.callF (vs := [v, _]) rfl rfl En94 rfl (containsF_rshape (Rs.up h5) (p := nearS n reach (moveR (gd (elems (gd l.cells.xs cell.toNat).insts.xs) n.toNat).place (bndR (erCls l.cells.xs) (gd (elems (gd l.cells.xs cell.toNat).insts.xs) n.toNat).cell))) (fun i hi => CB.mk3 En95 fun L' R c k => free1_s (Rd.cv (Rd.blk rfl) c) (RdN.cv RdN.blk c) (Rd.cv (Rd.blk rfl) c) (RIn_big (rootR_in ha.hz hi)) hpb hr k) ?_)
   refine RG.p (PV.not rfl rfl) (RG.br rfl (RG.nil ?_))
   exact WP.ret ⟨_, _, rv rfl rfl, Cv.p, k⟩
theorem elPlaceI_r {n : Inst} {kk c r : Int} (hk : okIn kk n = true) (hc : 0 <= c ∧ c < n.cols) (hr : 0 <= r ∧ r < n.rows) (k : R (vtrans (elPlace n c r)) G L) : CallT Tryz.prog 186 #[vT instT n, vi c, vi r] G L R := by
 obtain ⟨c', rfl⟩ := Int.eq_ofNat_of_zero_le hc.1
 obtain ⟨r', rfl⟩ := Int.eq_ofNat_of_zero_le hr.1
 exact elPlace_r hk (by omega) (by omega) k
theorem step_found {ns : List Inst} (h : okNs ns) {i : Nat} {rest : Int} (hi : i < ns.length) (h0 : 0 <= rest) (hr : rest < (gd ns i).cols * (gd ns i).rows) {n : Int} (hn : n = ((elems (ns.take i)).length : Int) + rest) :
  (0 <= rest % (gd ns i).cols ∧ rest % (gd ns i).cols < (gd ns i).cols) ∧ (0 <= rest / (gd ns i).cols ∧ rest / (gd ns i).cols < (gd ns i).rows) ∧ gd (elems ns) n.toNat = ⟨(gd ns i).cell, elPlace (gd ns i) (rest % (gd ns i).cols) (rest / (gd ns i).cols)⟩ := by
 obtain ⟨q, rfl⟩ := Int.eq_ofNat_of_zero_le h0
 obtain ⟨_, kk, h2⟩ := h
 obtain ⟨_, _, h3, h4, _, _⟩ := okIn_bd (h2 i hi)
 obtain ⟨c, hc⟩ := Int.eq_ofNat_of_zero_le (show 0 <= (gd ns i).cols by omega)
 obtain ⟨r, hr'⟩ := Int.eq_ofNat_of_zero_le (show 0 <= (gd ns i).rows by omega)
 have hq : q < r * c := by rw [hc, hr', <- Int.natCast_mul] at hr; rw [Nat.mul_comm]; omega
 have hel := elems_found (ns := ns) (i := i) (q := q) hi (by rw [elsOf_len, hr', hc]; exact hq)
 have e1 : n.toNat = (elems (ns.take i)).length + q := by omega
 have e2 : (gd ns i).cols.toNat = c := by omega
 rw [e1, hel, e2, hc, <- Int.natCast_emod, <- Int.natCast_ediv, hr']
 have hc0 : 0 < c := by omega
 have m1 := Nat.mod_lt q hc0
 have m2 : q / c < r := (Nat.div_lt_iff_lt_mul hc0).2 hq
 have m3 : ((q / c : Nat) : Int) < (r : Int) := by exact_mod_cast m2
 have m4 : ((q % c : Nat) : Int) < (c : Int) := by exact_mod_cast m1
 exact ⟨⟨Int.natCast_nonneg _, m4⟩, ⟨Int.natCast_nonneg _, m3⟩, rfl⟩
theorem step_s {l : Lib} {o : Occ} {n : Int} (hL : RLib G L l.cells.v l.cells.xs) (hok : okLib (erCls l.cells.xs) = true) (hcl : 0 <= o.cell ∧ o.cell.toNat < l.cells.xs.length) (hbig : TBig o.place) (hp : Rs G L intT o.path.v o.path.xs) (hpl : o.path.xs.length <= 100) (hn : 0 <= n ∧ n.toNat < (elems (gd l.cells.xs o.cell.toNat).insts.xs).length)
  (k : ∀ v', R (.tuple #[vT occT ⟨(gd (elems (gd l.cells.xs o.cell.toNat).insts.xs) n.toNat).cell, cmpT (gd (elems (gd l.cells.xs o.cell.toNat).insts.xs) n.toNat).place o.place, ⟨v', [] ++ o.path.xs ++ [n]⟩⟩, .bool true]) G (osl 2 intT v' ([] ++ o.path.xs ++ [n]) :: L)) : CallT Tryz.prog 187 #[vT libT l, vT occT o, vi n] G L R := by
 have hE := erCls_len l.cells.xs
 have hce := erCl_insts (xs := l.cells.xs) (i := o.cell.toNat) hcl.2
 have hns : okNs (gd l.cells.xs o.cell.toNat).insts.xs := by rw [<- hce]; exact okLib_ns hok (by omega)
 obtain ⟨hn8, kk, h2⟩ := id hns
 have hbe := elem_bd hok (k := o.cell.toNat) (by omega) (i := n.toNat) (by rw [hce]; exact hn.2)
 rw [hce] at hbe
 have hEl : (elems (gd l.cells.xs o.cell.toNat).insts.xs).length <= 128 := by rw [<- hce]; exact elems_len_bd hok (by omega)
 have hb1 := hbe.2.1
 have hb2 : (-1000 <= (gd (elems (gd l.cells.xs o.cell.toNat).insts.xs) n.toNat).place.x ∧ (gd (elems (gd l.cells.xs o.cell.toNat).insts.xs) n.toNat).place.x <= 1000) ∧ -1000 <= (gd (elems (gd l.cells.xs o.cell.toNat).insts.xs) n.toNat).place.y ∧ (gd (elems (gd l.cells.xs o.cell.toNat).insts.xs) n.toNat).place.y <= 1000 := by omega
 refine CallT.enter (args := _) Tryz.func187 rfl rfl (by kernel_rfl) rfl ?_
 refine WP.sr ?_
 refine RG.ot rfl (OT.box (cs := libT.enc l) rfl rfl rfl fun b3 => ?_)
 refine RG.ot rfl (OT.box (cs := occT.enc o) rfl rfl rfl fun b4 => ?_)
 refine RG.ot rfl (OT.alloc rfl Zr119 fun b6 => ?_)
 refine RG.br rfl (RG.nil (WP.sr (RG.p (PV.field rfl Fo26_0 rfl) (RG.p (PV.load1 rfl Sc24 rfl (Rd.blk rfl)) (RG.p (PV.field rfl Fo119_0 rfl) (RG.p (PV.load1 rfl Sc2 rfl (Rd.blk rfl)) (RG.p (PV.idxS (j := o.cell.toNat) rfl Is24 rfl (SlF.r hL.c) rfl (by omega) (by omega)) (RG.p (PV.field rfl Fo95_3 rfl) (RG.p (PV.loadF rfl Sc93 rfl rfl (El.r hL.c (getG (by omega))) rfl) (RG.p (PV.asg rfl rfl) (RG.nil (WP.seq ?_))))))))))))
 refine WP.region (RG.ml rfl (RG.mr rfl (RG.nil (WP.seq (WP.sr (RG.mr rfl (RG.nil (WP.block ?_))))))))
 refine WP.loop2 [2, 4, 6, 8] (fun (i : Nat) (rest : Int) => i <= (gd l.cells.xs o.cell.toNat).insts.xs.length ∧ 0 <= rest ∧ n = ((elems ((gd l.cells.xs o.cell.toNat).insts.xs.take i)).length : Int) + rest) (fun (i : Nat) (rest : Int) => [(10, vi i), (9, vi rest)]) (fun (i : Nat) (rest : Int) => blk b3 26 (libT.enc l) :: blk b4 119 (occT.enc o) :: blk b6 119 [vi 0, vi 0, vi 0, vi 0, .slice none 0 0] :: L) (fun (i : Nat) (rest : Int) => (gd l.cells.xs o.cell.toNat).insts.xs.length - i) 0 n ⟨by omega, by omega, by simp [elems]⟩ ⟨rfl, rfl, trivial⟩ Cv.p ?_
 rintro i rest τ ⟨hi, h0, hre⟩
 refine WP.seq (WP.sr (RG.ml rfl (RG.p (PV.move rfl rfl) (RG.p (PV.len rfl Tryz.underlying93 rfl (SlF.r (hL.na hcl.2))) (RG.p (PV.lss rfl rfl rfl) (RG.bl rfl ?_))))))
 refine RG.g rfl (fun hp => (PV.mvI (.inl rfl) rfl)) ?_
 refine RG.g rfl (fun hp => (PV.geq rfl (gt' hp) rfl)) ?_
 refine RG.p (PV.pickA rfl rfl (fun hq => gt' (geqT hq)) rfl) (RG.nil ?_)
 refine WP.cond rfl (fun h3 => ?_) fun h3 => ?_
 ·have h3 : i < (gd l.cells.xs o.cell.toNat).insts.xs.length := by simp only [Bool.and_eq_true, decide_eq_true_eq] at h3; omega
  obtain ⟨z1, z2, z3⟩ := elems_cnt hns h3
  refine WP.skip (WP.seq (WP.block (WP.seq ?_)))
  refine WP.regionQ (by kernel_rfl) (by kernel_rfl) ?_
  refine RQ.pv rfl (PV.move rfl rfl) (RQ.pv rfl (PV.mvI (.inl rfl) rfl) (RQ.pv rfl (PV.idxS rfl Is93 rfl (SlF.r (hL.na hcl.2)) rfl rfl (by omega)) (RQ.pv rfl (PV.field rfl Fo111_2 rfl) (RQ.pv rfl (PV.loadF rfl Sc2 rfl rfl (El.r (hL.na hcl.2) (getG (by omega))) rfl) (RQ.pv rfl (PV.move rfl rfl) (RQ.pv rfl (PV.mvI (.inl rfl) rfl) (RQ.pv rfl (PV.idxS rfl Is93 rfl (SlF.r (hL.na hcl.2)) rfl rfl (by omega)) (RQ.pv rfl (PV.field rfl Fo111_3 rfl) (RQ.pv rfl (PV.loadF rfl Sc2 rfl rfl (El.r (hL.na hcl.2) (getG (by omega))) rfl) (RQ.pv rfl (PV.mul rfl rfl rfl (by omega)) (RQ.pv rfl (PV.mvI (.inr rfl) rfl) (RQ.nil (WP.seq ?_)))))))))))))
  refine WP.sr (RG.ml rfl (RG.ml rfl (RG.p (PV.lss rfl rfl rfl) (RG.nil ?_))))
  refine WP.cond rfl (fun h4 => ?_) fun h4 => ?_
  ·have h4 := odt h4
   obtain ⟨q1, q2, q3⟩ := step_found hns h3 h0 h4 hre
   obtain ⟨_, _, q4, q5, _, _⟩ := okIn_bd (h2 i h3)
   rw [q3] at hb1 hb2 k
   simp only at hb1 hb2 k
   refine WP.cut1 [2, 4, 6, 8, 10] (fun (b12 : Nat) => True) (fun (b12 : Nat) => [(12, .pointer (some ⟨b12, 0, none⟩))]) (fun (b12 : Nat) => blk b12 87 (transT.enc (elPlace (gd (gd l.cells.xs o.cell.toNat).insts.xs i) (rest % (gd (gd l.cells.xs o.cell.toNat).insts.xs i).cols) (rest / (gd (gd l.cells.xs o.cell.toNat).insts.xs i).cols))) :: blk b3 26 (libT.enc l) :: blk b4 119 (occT.enc o) :: blk b6 119 [vi 0, vi 0, vi 0, vi 0, .slice none 0 0] :: L) ?_ ?_
   refine WP.regionH0 (.q 0 (.q 1 (.q 2 (.q 3 (.q 4 (.q 5 (.q 6 (.q 7 (.q 8 (.q 9 (.q 10 (.q 11 (.q 12 (.q 13 (.q 14 (.q 15 (.q 16 (.q 17 (.b 18 (.l 19 (.l 20 Sch.nil)) 19 (.l 18 (.l 20 Sch.nil))))))))))))))))))))) (by kernel_rfl) (by kernel_rfl) (by kernel_rfl) rfl ?_
   refine RH.w rfl rfl (PV.move rfl rfl) (RH.w rfl rfl (PV.mvI (.inl rfl) rfl) (RH.w rfl rfl (PV.idxS rfl Is93 rfl (SlF.r (hL.na hcl.2)) rfl rfl (by omega)) (RH.w rfl rfl (PV.loadE rfl Ag111 rfl rfl (El.r (hL.na hcl.2) (getG (by omega)))) (RH.w rfl rfl (PV.mvI (.inl rfl) rfl) (RH.w rfl rfl (PV.move rfl rfl) (RH.w rfl rfl (PV.mvI (.inl rfl) rfl) (RH.w rfl rfl (PV.idxS rfl Is93 rfl (SlF.r (hL.na hcl.2)) rfl rfl (by omega)) (RH.w rfl rfl (PV.field rfl Fo111_2 rfl) (RH.w rfl rfl (PV.loadF rfl Sc2 rfl rfl (El.r (hL.na hcl.2) (getG (by omega))) rfl) (RH.w rfl rfl (PV.rem rfl rfl rfl (by omega) (by omega) (by omega)) (RH.w rfl rfl (PV.mvI (.inl rfl) rfl) (RH.w rfl rfl (PV.move rfl rfl) (RH.w rfl rfl (PV.mvI (.inl rfl) rfl) ?_)))))))))))))
   refine RH.w rfl rfl (PV.idxS rfl Is93 rfl (SlF.r (hL.na hcl.2)) rfl rfl (by omega)) (RH.w rfl rfl (PV.field rfl Fo111_2 rfl) (RH.w rfl rfl (PV.loadF rfl Sc2 rfl rfl (El.r (hL.na hcl.2) (getG (by omega))) rfl) (RH.w rfl rfl (PV.quo rfl rfl rfl (by omega) (by omega) (by omega)) ?_)))
   ·refine RH.ot2 rfl rfl rfl rfl  (OT.callF (vs := [_, _, _]) rfl En186 rfl (elPlaceI_r (h2 i (by omega)) q1 q2 (kp ?_))) (OT.alloc rfl Zr87 fun b12 => (kp ?_))
    ·refine RH.ot rfl rfl (OT.alloc rfl Zr87 fun b12 => (kp ?_))
     refine RH.ot rfl rfl (OT.storeW (vs := [vi _, vi _, vi _]) rfl Sz87 rfl rfl (Cl.c rfl) rfl rfl (OneC.c rfl) (kp ?_))
     refine RH.nil ?_
     exact ⟨rfl, b12, trivial, ⟨rfl, trivial⟩, ⟨rfl, rfl, rfl, rfl, rfl, trivial⟩, Cv.p⟩
    ·refine RH.ot rfl rfl (OT.callF (vs := [_, _, _]) rfl En186 rfl (elPlaceI_r (h2 i (by omega)) q1 q2 (kp ?_)))
     refine RH.ot rfl rfl (OT.storeW (vs := [vi _, vi _, vi _]) rfl Sz87 rfl rfl (Cl.c rfl) rfl rfl (OneC.c rfl) (kp ?_))
     refine RH.nil ?_
     exact ⟨rfl, b12, trivial, ⟨rfl, trivial⟩, ⟨rfl, rfl, rfl, rfl, rfl, trivial⟩, Cv.p⟩
   rintro b12 τ1 -
   refine WP.cut1 [6] (fun (v79 : Value) => True) (fun (v79 : Value) => [(7, .bool true)]) (fun (v79 : Value) => blk b6 119 (occT.enc ⟨(gd (gd l.cells.xs o.cell.toNat).insts.xs i).cell, cmpT (elPlace (gd (gd l.cells.xs o.cell.toNat).insts.xs i) (rest % (gd (gd l.cells.xs o.cell.toNat).insts.xs i).cols) (rest / (gd (gd l.cells.xs o.cell.toNat).insts.xs i).cols)) o.place, ⟨v79, [] ++ o.path.xs ++ [n]⟩⟩) :: osl 2 intT v79 ([] ++ o.path.xs ++ [n]) :: L) ?_ ?_
   refine WP.regionHD [.b b6] (.q 0 (.q 1 (.q 2 (.q 3 (.q 4 (.q 5 (.q 6 (.q 7 (.q 10 (.q 11 (.q 13 (.c 8 (.b 9 (.b 12 (.l 14 (.l 15 (.q 16 (.l 17 (.q 18 Sch.nil))))) 14 (.l 12 (.l 15 (.q 16 (.l 17 (.q 18 Sch.nil)))))) 14 (.l 9 (.l 12 (.l 15 (.q 16 (.l 17 (.q 18 Sch.nil))))))) 9 (.b 8 (.b 12 (.l 14 (.l 15 (.q 16 (.l 17 (.q 18 Sch.nil))))) 14 (.l 12 (.l 15 (.q 16 (.l 17 (.q 18 Sch.nil)))))) 14 (.l 8 (.l 12 (.l 15 (.q 16 (.l 17 (.q 18 Sch.nil))))))) 14 (.b 8 (.l 9 (.l 12 (.l 15 (.q 16 (.l 17 (.q 18 Sch.nil)))))) 9 (.l 8 (.l 12 (.l 15 (.q 16 (.l 17 (.q 18 Sch.nil))))))))))))))))))) (by kernel_rfl) (by kernel_rfl) (by kernel_rfl) rfl ?_
   refine RH.w rfl rfl (PV.move rfl rfl) (RH.w rfl rfl (PV.mvI (.inl rfl) rfl) (RH.w rfl rfl (PV.idxS rfl Is93 rfl (SlF.r (hL.na hcl.2)) rfl rfl (by omega)) (RH.w rfl rfl (PV.field rfl Fo111_0 rfl) (RH.w rfl rfl (PV.loadF rfl Sc2 rfl rfl (El.r (hL.na hcl.2) (getG (by omega))) rfl) (RH.w rfl rfl (PV.field rfl Fo119_1 rfl) (RH.w rfl rfl (PV.loadB (vs := [_, _, _]) rfl Ag87 rfl rfl rfl) (RH.w rfl rfl (PV.loadW rfl Ag87 rfl rfl) (RH.w rfl rfl (PV.field rfl Fo119_2 rfl) (RH.w rfl rfl (PV.load1 rfl Sc45 rfl (Rd.blk rfl)) (RH.w rfl rfl (PV.mvI (.inl rfl) rfl) ?_))))))))))
   ·refine RH.ot3 rfl rfl rfl rfl rfl rfl  (OT.callF (vs := [_, _]) rfl En185 rfl (l10After_r hb1 hb2 hbig (kp ?_))) (OT.bslice (F := intT) (els := []) rfl El45 rfl (by decide) rfl (by decide) trivial fun v73 => (kp ?_)) (OT.bslice (F := intT) (els := [_]) rfl El45 rfl (by decide) rfl (by decide) ⟨rfl, (Cl.c rfl), trivial⟩ fun v78 => (kp ?_))
    ·refine RH.ot2 rfl rfl rfl rfl  (OT.bslice (F := intT) (els := []) rfl El45 rfl (by decide) rfl (by decide) trivial fun v73 => (kp ?_)) (OT.bslice (F := intT) (els := [_]) rfl El45 rfl (by decide) rfl (by decide) ⟨rfl, (Cl.c rfl), trivial⟩ fun v78 => (kp ?_))
     ·refine RH.ot2 rfl rfl rfl rfl  (OT.append (v := v73) (F := intT) rfl El45 rfl (by decide) rfl rfl (Rs.up hp) (OneL.c (fun _ => rfl)) rfl (by first | omega | (simp <;> omega)) fun v76 => (kp ?_)) (OT.bslice (F := intT) (els := [_]) rfl El45 rfl (by decide) rfl (by decide) ⟨rfl, (Cl.c rfl), trivial⟩ fun v78 => (kp ?_))
      ·refine RH.ot rfl rfl (OT.bslice (F := intT) (els := [_]) rfl El45 rfl (by decide) rfl (by decide) ⟨rfl, (Cl.c rfl), trivial⟩ fun v78 => (kp ?_))
       refine RH.ot rfl rfl (OT.append (v := v76) (u := v78) (F := intT) rfl El45 rfl (by decide) rfl rfl Rs.o (OneL.c (fun _ => rfl)) rfl (by first | omega | (simp <;> omega)) fun v79 => (kp ?_))
       refine RH.up1 ?_
       refine RH.w rfl rfl (PV.build (vs := [(0, [vi _]), (1, [vi _, vi _, vi _]), (2, [v79])]) (out := [_, _, _, _, _]) rfl Zr119 Pl119 ⟨rfl, (Cl.c rfl), ⟨rfl, (Cl.c rfl), ⟨rfl, (Cl.s (v := v79) SlF.o), trivial⟩⟩⟩ rfl) ?_
       refine RH.ot rfl rfl (OT.storeW (vs := [vi _, vi _, vi _, vi _, _]) rfl Sz119 rfl rfl (Cl.c rfl) rfl rfl (OneC.val rfl (OneC.val rfl (OneC.val rfl (OneC.val rfl (OneC.sl (SlF.o (v := v79)) OneC.nil))))) (kp ?_))
       refine RH.w rfl rfl (PV.mvB (.inr rfl) rfl) (RH.nil ?_)
       exact ⟨rfl, v79, trivial, ⟨rfl, trivial⟩, ⟨rfl, trivial⟩, Cv.p⟩
      ·refine RH.ot rfl rfl (OT.append (v := v73) (F := intT) rfl El45 rfl (by decide) rfl rfl (Rs.up hp) (OneL.c (fun _ => rfl)) rfl (by first | omega | (simp <;> omega)) fun v76 => (kp ?_))
       refine RH.ot rfl rfl (OT.append (v := v76) (u := v78) (F := intT) rfl El45 rfl (by decide) rfl rfl Rs.o (OneL.c (fun _ => rfl)) rfl (by first | omega | (simp <;> omega)) fun v79 => (kp ?_))
       refine RH.up1 ?_
       refine RH.w rfl rfl (PV.build (vs := [(0, [vi _]), (1, [vi _, vi _, vi _]), (2, [v79])]) (out := [_, _, _, _, _]) rfl Zr119 Pl119 ⟨rfl, (Cl.c rfl), ⟨rfl, (Cl.c rfl), ⟨rfl, (Cl.s (v := v79) SlF.o), trivial⟩⟩⟩ rfl) ?_
       refine RH.ot rfl rfl (OT.storeW (vs := [vi _, vi _, vi _, vi _, _]) rfl Sz119 rfl rfl (Cl.c rfl) rfl rfl (OneC.val rfl (OneC.val rfl (OneC.val rfl (OneC.val rfl (OneC.sl (SlF.o (v := v79)) OneC.nil))))) (kp ?_))
       refine RH.w rfl rfl (PV.mvB (.inr rfl) rfl) (RH.nil ?_)
       exact ⟨rfl, v79, trivial, ⟨rfl, trivial⟩, ⟨rfl, trivial⟩, Cv.p⟩
     ·refine RH.ot rfl rfl (OT.bslice (F := intT) (els := []) rfl El45 rfl (by decide) rfl (by decide) trivial fun v73 => (kp ?_))
      refine RH.ot rfl rfl (OT.append (v := v73) (F := intT) rfl El45 rfl (by decide) rfl rfl (Rs.up hp) (OneL.c (fun _ => rfl)) rfl (by first | omega | (simp <;> omega)) fun v76 => (kp ?_))
      refine RH.ot rfl rfl (OT.append (v := v76) (u := v78) (F := intT) rfl El45 rfl (by decide) rfl rfl Rs.o (OneL.c (fun _ => rfl)) rfl (by first | omega | (simp <;> omega)) fun v79 => (kp ?_))
      refine RH.up1 ?_
      refine RH.w rfl rfl (PV.build (vs := [(0, [vi _]), (1, [vi _, vi _, vi _]), (2, [v79])]) (out := [_, _, _, _, _]) rfl Zr119 Pl119 ⟨rfl, (Cl.c rfl), ⟨rfl, (Cl.c rfl), ⟨rfl, (Cl.s (v := v79) SlF.o), trivial⟩⟩⟩ rfl) ?_
      refine RH.ot rfl rfl (OT.storeW (vs := [vi _, vi _, vi _, vi _, _]) rfl Sz119 rfl rfl (Cl.c rfl) rfl rfl (OneC.val rfl (OneC.val rfl (OneC.val rfl (OneC.val rfl (OneC.sl (SlF.o (v := v79)) OneC.nil))))) (kp ?_))
      refine RH.w rfl rfl (PV.mvB (.inr rfl) rfl) (RH.nil ?_)
      exact ⟨rfl, v79, trivial, ⟨rfl, trivial⟩, ⟨rfl, trivial⟩, Cv.p⟩
    ·refine RH.ot2 rfl rfl rfl rfl  (OT.callF (vs := [_, _]) rfl En185 rfl (l10After_r hb1 hb2 hbig (kp ?_))) (OT.bslice (F := intT) (els := [_]) rfl El45 rfl (by decide) rfl (by decide) ⟨rfl, (Cl.c rfl), trivial⟩ fun v78 => (kp ?_))
     ·refine RH.ot2 rfl rfl rfl rfl  (OT.append (v := v73) (F := intT) rfl El45 rfl (by decide) rfl rfl (Rs.up hp) (OneL.c (fun _ => rfl)) rfl (by first | omega | (simp <;> omega)) fun v76 => (kp ?_)) (OT.bslice (F := intT) (els := [_]) rfl El45 rfl (by decide) rfl (by decide) ⟨rfl, (Cl.c rfl), trivial⟩ fun v78 => (kp ?_))
      ·refine RH.ot rfl rfl (OT.bslice (F := intT) (els := [_]) rfl El45 rfl (by decide) rfl (by decide) ⟨rfl, (Cl.c rfl), trivial⟩ fun v78 => (kp ?_))
       refine RH.ot rfl rfl (OT.append (v := v76) (u := v78) (F := intT) rfl El45 rfl (by decide) rfl rfl Rs.o (OneL.c (fun _ => rfl)) rfl (by first | omega | (simp <;> omega)) fun v79 => (kp ?_))
       refine RH.up1 ?_
       refine RH.w rfl rfl (PV.build (vs := [(0, [vi _]), (1, [vi _, vi _, vi _]), (2, [v79])]) (out := [_, _, _, _, _]) rfl Zr119 Pl119 ⟨rfl, (Cl.c rfl), ⟨rfl, (Cl.c rfl), ⟨rfl, (Cl.s (v := v79) SlF.o), trivial⟩⟩⟩ rfl) ?_
       refine RH.ot rfl rfl (OT.storeW (vs := [vi _, vi _, vi _, vi _, _]) rfl Sz119 rfl rfl (Cl.c rfl) rfl rfl (OneC.val rfl (OneC.val rfl (OneC.val rfl (OneC.val rfl (OneC.sl (SlF.o (v := v79)) OneC.nil))))) (kp ?_))
       refine RH.w rfl rfl (PV.mvB (.inr rfl) rfl) (RH.nil ?_)
       exact ⟨rfl, v79, trivial, ⟨rfl, trivial⟩, ⟨rfl, trivial⟩, Cv.p⟩
      ·refine RH.ot rfl rfl (OT.append (v := v73) (F := intT) rfl El45 rfl (by decide) rfl rfl (Rs.up hp) (OneL.c (fun _ => rfl)) rfl (by first | omega | (simp <;> omega)) fun v76 => (kp ?_))
       refine RH.ot rfl rfl (OT.append (v := v76) (u := v78) (F := intT) rfl El45 rfl (by decide) rfl rfl Rs.o (OneL.c (fun _ => rfl)) rfl (by first | omega | (simp <;> omega)) fun v79 => (kp ?_))
       refine RH.up1 ?_
       refine RH.w rfl rfl (PV.build (vs := [(0, [vi _]), (1, [vi _, vi _, vi _]), (2, [v79])]) (out := [_, _, _, _, _]) rfl Zr119 Pl119 ⟨rfl, (Cl.c rfl), ⟨rfl, (Cl.c rfl), ⟨rfl, (Cl.s (v := v79) SlF.o), trivial⟩⟩⟩ rfl) ?_
       refine RH.ot rfl rfl (OT.storeW (vs := [vi _, vi _, vi _, vi _, _]) rfl Sz119 rfl rfl (Cl.c rfl) rfl rfl (OneC.val rfl (OneC.val rfl (OneC.val rfl (OneC.val rfl (OneC.sl (SlF.o (v := v79)) OneC.nil))))) (kp ?_))
       refine RH.w rfl rfl (PV.mvB (.inr rfl) rfl) (RH.nil ?_)
       exact ⟨rfl, v79, trivial, ⟨rfl, trivial⟩, ⟨rfl, trivial⟩, Cv.p⟩
     ·refine RH.ot rfl rfl (OT.callF (vs := [_, _]) rfl En185 rfl (l10After_r hb1 hb2 hbig (kp ?_)))
      refine RH.ot rfl rfl (OT.append (v := v73) (F := intT) rfl El45 rfl (by decide) rfl rfl (Rs.up hp) (OneL.c (fun _ => rfl)) rfl (by first | omega | (simp <;> omega)) fun v76 => (kp ?_))
      refine RH.ot rfl rfl (OT.append (v := v76) (u := v78) (F := intT) rfl El45 rfl (by decide) rfl rfl Rs.o (OneL.c (fun _ => rfl)) rfl (by first | omega | (simp <;> omega)) fun v79 => (kp ?_))
      refine RH.up1 ?_
      refine RH.w rfl rfl (PV.build (vs := [(0, [vi _]), (1, [vi _, vi _, vi _]), (2, [v79])]) (out := [_, _, _, _, _]) rfl Zr119 Pl119 ⟨rfl, (Cl.c rfl), ⟨rfl, (Cl.c rfl), ⟨rfl, (Cl.s (v := v79) SlF.o), trivial⟩⟩⟩ rfl) ?_
      refine RH.ot rfl rfl (OT.storeW (vs := [vi _, vi _, vi _, vi _, _]) rfl Sz119 rfl rfl (Cl.c rfl) rfl rfl (OneC.val rfl (OneC.val rfl (OneC.val rfl (OneC.val rfl (OneC.sl (SlF.o (v := v79)) OneC.nil))))) (kp ?_))
      refine RH.w rfl rfl (PV.mvB (.inr rfl) rfl) (RH.nil ?_)
      exact ⟨rfl, v79, trivial, ⟨rfl, trivial⟩, ⟨rfl, trivial⟩, Cv.p⟩
    ·refine RH.ot2 rfl rfl rfl rfl  (OT.callF (vs := [_, _]) rfl En185 rfl (l10After_r hb1 hb2 hbig (kp ?_))) (OT.bslice (F := intT) (els := []) rfl El45 rfl (by decide) rfl (by decide) trivial fun v73 => (kp ?_))
     ·refine RH.ot rfl rfl (OT.bslice (F := intT) (els := []) rfl El45 rfl (by decide) rfl (by decide) trivial fun v73 => (kp ?_))
      refine RH.ot rfl rfl (OT.append (v := v73) (F := intT) rfl El45 rfl (by decide) rfl rfl (Rs.up hp) (OneL.c (fun _ => rfl)) rfl (by first | omega | (simp <;> omega)) fun v76 => (kp ?_))
      refine RH.ot rfl rfl (OT.append (v := v76) (u := v78) (F := intT) rfl El45 rfl (by decide) rfl rfl Rs.o (OneL.c (fun _ => rfl)) rfl (by first | omega | (simp <;> omega)) fun v79 => (kp ?_))
      refine RH.up1 ?_
      refine RH.w rfl rfl (PV.build (vs := [(0, [vi _]), (1, [vi _, vi _, vi _]), (2, [v79])]) (out := [_, _, _, _, _]) rfl Zr119 Pl119 ⟨rfl, (Cl.c rfl), ⟨rfl, (Cl.c rfl), ⟨rfl, (Cl.s (v := v79) SlF.o), trivial⟩⟩⟩ rfl) ?_
      refine RH.ot rfl rfl (OT.storeW (vs := [vi _, vi _, vi _, vi _, _]) rfl Sz119 rfl rfl (Cl.c rfl) rfl rfl (OneC.val rfl (OneC.val rfl (OneC.val rfl (OneC.val rfl (OneC.sl (SlF.o (v := v79)) OneC.nil))))) (kp ?_))
      refine RH.w rfl rfl (PV.mvB (.inr rfl) rfl) (RH.nil ?_)
      exact ⟨rfl, v79, trivial, ⟨rfl, trivial⟩, ⟨rfl, trivial⟩, Cv.p⟩
     ·refine RH.ot rfl rfl (OT.callF (vs := [_, _]) rfl En185 rfl (l10After_r hb1 hb2 hbig (kp ?_)))
      refine RH.ot rfl rfl (OT.append (v := v73) (F := intT) rfl El45 rfl (by decide) rfl rfl (Rs.up hp) (OneL.c (fun _ => rfl)) rfl (by first | omega | (simp <;> omega)) fun v76 => (kp ?_))
      refine RH.ot rfl rfl (OT.append (v := v76) (u := v78) (F := intT) rfl El45 rfl (by decide) rfl rfl Rs.o (OneL.c (fun _ => rfl)) rfl (by first | omega | (simp <;> omega)) fun v79 => (kp ?_))
      refine RH.up1 ?_
      refine RH.w rfl rfl (PV.build (vs := [(0, [vi _]), (1, [vi _, vi _, vi _]), (2, [v79])]) (out := [_, _, _, _, _]) rfl Zr119 Pl119 ⟨rfl, (Cl.c rfl), ⟨rfl, (Cl.c rfl), ⟨rfl, (Cl.s (v := v79) SlF.o), trivial⟩⟩⟩ rfl) ?_
      refine RH.ot rfl rfl (OT.storeW (vs := [vi _, vi _, vi _, vi _, _]) rfl Sz119 rfl rfl (Cl.c rfl) rfl rfl (OneC.val rfl (OneC.val rfl (OneC.val rfl (OneC.val rfl (OneC.sl (SlF.o (v := v79)) OneC.nil))))) (kp ?_))
      refine RH.w rfl rfl (PV.mvB (.inr rfl) rfl) (RH.nil ?_)
      exact ⟨rfl, v79, trivial, ⟨rfl, trivial⟩, ⟨rfl, trivial⟩, Cv.p⟩
   ·rintro v79 τ2 -
    exact WP.ret ⟨_, _, ResV.two rfl (RV1.cell rfl Ag119 rfl) rfl, Cv.p, k v79⟩
  ·have h4 := odf h4
   refine WP.skip (WP.region (RG.ml rfl (RG.ml rfl (RG.p (PV.sub rfl rfl rfl (by omega)) (RG.mr rfl (RG.nil (WP.region (RG.ml rfl (RG.p (PV.add rfl rfl rfl (by omega)) (RG.mr rfl (RG.nil ?_)))))))))))
   exact ⟨rfl, i + 1, _, ⟨by omega, by omega, by rw [z1]; omega⟩, ⟨rfl, rfl, trivial⟩, ⟨rfl, rfl, rfl, rfl, trivial⟩, Cv.p, by omega⟩
 ·exfalso
  have hle : i = (gd l.cells.xs o.cell.toNat).insts.xs.length := by
   simp only [Bool.and_eq_false_iff, decide_eq_false_iff_not] at h3; omega
  rw [List.take_of_length_le (by omega)] at hre
  omega
theorem step0_s {l : Lib} {cell n : Int} (hL : RLib G L l.cells.v l.cells.xs) (hok : okLib (erCls l.cells.xs) = true) (hcl : 0 <= cell ∧ cell.toNat < l.cells.xs.length) (hn : 0 <= n ∧ n.toNat < (elems (gd l.cells.xs cell.toNat).insts.xs).length)
  (k : ∀ v', R (.tuple #[vT occT ⟨(gd (elems (gd l.cells.xs cell.toNat).insts.xs) n.toNat).cell, cmpT (gd (elems (gd l.cells.xs cell.toNat).insts.xs) n.toNat).place ⟨0, 0, 0⟩, ⟨v', [n]⟩⟩, .bool true]) G (osl 2 intT v' [n] :: L)) : CallT Tryz.prog 187 #[vT libT l, vT occT ⟨cell, ⟨0, 0, 0⟩, ⟨.slice none 0 0, []⟩⟩, vi n] G L R :=
 step_s (o := ⟨cell, ⟨0, 0, 0⟩, ⟨.slice none 0 0, []⟩⟩) hL hok hcl ⟨by simp, by simp⟩ RsN (by simp) hn k
theorem path_s {l : Lib} {cell n : Int} {v : Value} (hL : RLib G L l.cells.v l.cells.xs) (hlen : lenC (erCls l.cells.xs)) (ha : AtEl l.cells.xs cell n) (h5 : Rs G L intT v [n])
  (k : ∀ w : Value, w.oneCell' = true -> R (.tuple #[vT occT ⟨(gd (elems (gd l.cells.xs cell.toNat).insts.xs) n.toNat).cell, (gd (elems (gd l.cells.xs cell.toNat).insts.xs) n.toNat).place, ⟨w, [n]⟩⟩, vi 0]) G L) : CallT Tryz.prog 127 #[vT libT l, vi cell, v] G L R := by
 have hE := erCls_len l.cells.xs
 obtain ⟨hok, hc0, hc1⟩ := ha.lib
 have hnl := ha.lt
 have hn0 := ha.hn.1
 obtain ⟨he1, he2⟩ := ha.el
 have hh : hasCl (erCls l.cells.xs) cell = true := by simp [hasCl, hok, within]; omega
 have hvt : validT (gd (elems (gd l.cells.xs cell.toNat).insts.xs) n.toNat).place = true := validT_iff.2 ⟨he1, he2.1, he2.2⟩
 refine CallT.enter (args := _) Tryz.func127 rfl rfl (by kernel_rfl) rfl ?_
 refine WP.sr ?_
 refine RG.ot rfl (OT.box (cs := libT.enc l) rfl rfl rfl fun b3 => ?_)
 refine RG.ot rfl (OT.alloc rfl Zr119 fun b6 => ?_)
 refine RG.mr rfl (RG.nil (WP.seq (WP.sr (RG.p (PV.loadW rfl Ag26 rfl rfl) ?_))))
 refine RG.callF (vs := [_]) rfl rfl En121 rfl (okLib_r hL.up hlen ?_)
 refine RG.p (PV.not rfl rfl) (RG.nil ?_)
 refine WP.cond rfl (fun h1 => ?_) fun h1 => ?_
 ·exfalso; simp [hok] at h1
 refine WP.skip (WP.seq (WP.sr (RG.p (PV.loadW rfl Ag26 rfl rfl) (RG.ml rfl ?_))))
 refine RG.callF (vs := [_, _]) rfl rfl En122 rfl (hasCl_r hL.up hlen ?_)
 refine RG.p (PV.not rfl rfl) (RG.nil ?_)
 refine WP.cond rfl (fun h2 => ?_) fun h2 => ?_
 ·exfalso; simp [hh] at h2
 refine WP.skip (WP.sr (RG.ml rfl (RG.p (PV.build (vs := [(0, [vi _])]) (out := [_, _, _, _, _]) rfl Zr119 Pl119 ⟨rfl, (Cl.c rfl), trivial⟩ rfl) ?_)))
 refine RG.ot rfl (OT.alloc rfl Zr119 fun b8 => ?_)
 refine RG.ot rfl (OT.storeW (vs := [vi _, vi _, vi _, vi _, _]) rfl Sz119 rfl rfl (Cl.c rfl) rfl rfl (OneC.c rfl) ?_)
 refine RG.nil (WP.seq (WP.sr (RG.mr rfl (RG.nil (WP.block ?_)))))
 refine WP.loop2 [2, 3, 6, 8] (fun (i : Nat) (o : Occ) => (i = 0 ∧ o = ⟨cell, ⟨0, 0, 0⟩, ⟨.slice none 0 0, []⟩⟩) ∨ (i = 1 ∧ o = ⟨(gd (elems (gd l.cells.xs cell.toNat).insts.xs) n.toNat).cell, (gd (elems (gd l.cells.xs cell.toNat).insts.xs) n.toNat).place, ⟨o.path.v, [n]⟩⟩ ∧ o.path.v.oneCell' = true)) (fun (i : Nat) (o : Occ) => [(9, vi i)]) (fun (i : Nat) (o : Occ) => blk b8 119 (occT.enc o) :: blk b3 26 (libT.enc l) :: blk b6 119 [vi 0, vi 0, vi 0, vi 0, .slice none 0 0] :: L) (fun (i : Nat) (o : Occ) => 1 - i) 0 ⟨cell, ⟨0, 0, 0⟩, ⟨.slice none 0 0, []⟩⟩ (.inl ⟨rfl, rfl⟩) ⟨rfl, trivial⟩ Cv.p ?_
 rintro i o τ hJ
 refine WP.seq (WP.sr (RG.ml rfl (RG.p (PV.move (v := v) rfl rfl) (RG.p (PV.len (v := v) rfl Tryz.underlying45 rfl (SlF.r h5)) (RG.p (PV.lss rfl rfl rfl) (RG.nil ?_))))))
 refine WP.cond rfl (fun h3 => ?_) fun h3 => ?_
 ·have h3 : i < 1 := by have := odt h3; simp only [List.length_cons, List.length_nil] at this; omega
  obtain ⟨rfl, rfl⟩ : i = 0 ∧ o = ⟨cell, ⟨0, 0, 0⟩, ⟨.slice none 0 0, []⟩⟩ := by
   rcases hJ with h | h
   ·exact h
   ·omega
  refine WP.skip (WP.seq (WP.block ?_))
  refine WP.cut2 [2, 3, 6, 8, 9] (fun (b10 : Nat) (w36 : Value) => True) (fun (b10 : Nat) (w36 : Value) => [(10, .pointer (some ⟨b10, 0, none⟩)), (11, .bool true)]) (fun (b10 : Nat) (w36 : Value) => blk b10 119 (occT.enc ⟨(gd (elems (gd l.cells.xs cell.toNat).insts.xs) n.toNat).cell, cmpT (gd (elems (gd l.cells.xs cell.toNat).insts.xs) n.toNat).place ⟨0, 0, 0⟩, ⟨w36, [n]⟩⟩) :: osl 2 intT w36 ([n]) :: blk b8 119 (occT.enc ⟨cell, ⟨0, 0, 0⟩, ⟨.slice none 0 0, []⟩⟩) :: blk b3 26 (libT.enc l) :: blk b6 119 [vi 0, vi 0, vi 0, vi 0, .slice none 0 0] :: L) ?_ ?_
  refine WP.regionH0 (.q 0 (.q 1 (.q 2 (.q 3 (.q 4 (.q 5 (.b 6 (.q 7 (.q 8 (.q 9 (.l 10 (.l 11 (.q 12 Sch.nil)))))) 10 (.l 6 (.q 7 (.q 8 (.q 9 (.l 11 (.q 12 Sch.nil))))))))))))) (by kernel_rfl) (by kernel_rfl) (by kernel_rfl) rfl ?_
  refine RH.w rfl rfl (PV.loadW rfl Ag26 rfl rfl) (RH.w rfl rfl (PV.loadW rfl Ag119 rfl rfl) (RH.w rfl rfl (PV.move (v := v) rfl rfl) (RH.w rfl rfl (PV.mvI (.inl rfl) rfl) (RH.w rfl rfl (PV.idxS (j := 0) (v := v) rfl Is45 rfl (SlF.r h5) rfl (by first | omega | (simp only [List.length_cons, List.length_nil]; omega)) (by first | omega | (simp only [List.length_cons, List.length_nil]; omega))) (RH.w rfl rfl (PV.loadE1 rfl Sc2 rfl rfl (El.r h5 rfl) rfl) ?_)))))
  ·refine RH.ot2 rfl rfl rfl rfl  (OT.callF (vs := [_, _, _]) rfl En187 rfl (step0_s hL.up hok ⟨hc0, hc1⟩ ⟨hn0, hnl⟩ (fun w36 => (kp ?_)))) (OT.alloc rfl Zr119 fun b10 => (kp ?_))
   ·refine RH.w rfl rfl (PV.move rfl rfl) ?_
    refine RH.w rfl rfl (PV.ext rfl rfl rfl) (RH.w rfl rfl (PV.ext rfl rfl rfl) ?_)
    refine RH.ot rfl rfl (OT.alloc rfl Zr119 fun b10 => (kp ?_))
    refine RH.ot rfl rfl (OT.storeW (vs := [vi _, vi _, vi _, vi _, _]) rfl Sz119 rfl rfl (Cl.c rfl) rfl rfl (OneC.val rfl (OneC.val rfl (OneC.val rfl (OneC.val rfl (OneC.sl (SlF.o (v := w36)) OneC.nil))))) (kp ?_))
    refine RH.w rfl rfl (PV.mvB (.inr rfl) rfl) (RH.nil ?_)
    exact ⟨rfl, b10, w36, trivial, ⟨rfl, rfl, trivial⟩, ⟨rfl, rfl, rfl, rfl, rfl, trivial⟩, Cv.p⟩
   ·refine RH.ot rfl rfl (OT.callF (vs := [_, _, _]) rfl En187 rfl (step0_s hL.up hok ⟨hc0, hc1⟩ ⟨hn0, hnl⟩ (fun w36 => (kp ?_))))
    refine RH.w rfl rfl (PV.move rfl rfl) (RH.w rfl rfl (PV.ext rfl rfl rfl) (RH.w rfl rfl (PV.ext rfl rfl rfl) ?_))
    refine RH.ot rfl rfl (OT.storeW (vs := [vi _, vi _, vi _, vi _, _]) rfl Sz119 rfl rfl (Cl.c rfl) rfl rfl (OneC.val rfl (OneC.val rfl (OneC.val rfl (OneC.val rfl (OneC.sl (SlF.o (v := w36)) OneC.nil))))) (kp ?_))
    refine RH.w rfl rfl (PV.mvB (.inr rfl) rfl) (RH.nil ?_)
    exact ⟨rfl, b10, w36, trivial, ⟨rfl, rfl, trivial⟩, ⟨rfl, rfl, rfl, rfl, rfl, trivial⟩, Cv.p⟩
  rintro b10 w36 τ1 -
  refine WP.st (fun w' hs => (SlF.o (v := w36) w' hs).one) fun hw1 => ?_
  refine WP.seq (WP.sr (RG.bl rfl (RG.p (PV.not rfl rfl) (RG.nil ?_))))
  refine WP.cond rfl (fun h4 => ?_) fun h4 => ?_
  ·exfalso; simp at h4
  refine WP.skip (WP.region (RG.p (PV.loadW rfl Ag119 rfl rfl) ?_))
  refine RG.ot rfl (OT.storeW (vs := [vi _, vi _, vi _, vi _, _]) rfl Sz119 rfl rfl (Cl.c rfl) rfl rfl (OneC.val rfl (OneC.val rfl (OneC.val rfl (OneC.val rfl (OneC.sl (SlF.o (v := w36)) OneC.nil))))) ?_)
  refine RG.nil (WP.region (RG.ml rfl (RG.p (PV.add rfl rfl rfl (by first | omega | (simp only [List.length_cons, List.length_nil]; omega))) (RG.mr rfl (RG.nil ?_)))))
  exact ⟨rfl, 1, ⟨(gd (elems (gd l.cells.xs cell.toNat).insts.xs) n.toNat).cell, cmpT (gd (elems (gd l.cells.xs cell.toNat).insts.xs) n.toNat).place ⟨0, 0, 0⟩, ⟨w36, [n]⟩⟩, (.inr ⟨rfl, by rw [cmpT_top he1], hw1⟩), ⟨rfl, trivial⟩, ⟨rfl, rfl, rfl, rfl, trivial⟩, Cv.p, by omega⟩
 ·have h3 : ¬ i < 1 := by have := odf h3; simp only [List.length_cons, List.length_nil] at this; omega
  obtain ⟨hi, ho, hw1⟩ : i = 1 ∧ o = ⟨(gd (elems (gd l.cells.xs cell.toNat).insts.xs) n.toNat).cell, (gd (elems (gd l.cells.xs cell.toNat).insts.xs) n.toNat).place, ⟨o.path.v, [n]⟩⟩ ∧ o.path.v.oneCell' = true := by
   rcases hJ with h | h
   ·omega
   ·exact h
  generalize o.path.v = w0 at ho hw1
  subst ho
  refine WP.exit (WP.seq (WP.sr (RG.p (PV.field rfl Fo119_1 rfl) (RG.p (PV.loadB (vs := [_, _, _]) rfl Ag87 rfl rfl rfl) ?_))))
  refine RG.callF (vs := [_]) rfl rfl En125 rfl (l09Trans_r ?_)
  refine RG.p (PV.not rfl rfl) (RG.nil ?_)
  refine WP.cond rfl (fun h6 => ?_) fun h6 => ?_
  ·exfalso; simp [hvt] at h6
  refine WP.skip (WP.sr (RG.p (PV.loadW rfl Ag119 rfl rfl) ?_))
  refine RG.ot rfl (OT.storeW (vs := [vi _, vi _, vi _, vi _, _]) rfl Sz119 rfl rfl (Cl.c rfl) rfl rfl (OneC.val rfl (OneC.val rfl (OneC.val rfl (OneC.val rfl (OneC.val hw1 OneC.nil))))) ?_)
  refine RG.mr rfl (RG.nil ?_)
  exact WP.ret ⟨_, _, ResV.two rfl (RV1.cell rfl Ag119 rfl) rfl, Cv.p, k w0 hw1⟩
theorem any_pick {rs : List RShape} {f : Int -> Bool} {g : Shape -> Bool} : (rs.any fun x => f x.root && g x.shape) = (pickR rs f).any g := by
 induction rs with
 | nil => rfl
 | cons x rs ih =>
  rw [List.any_cons, ih, pickR, pickR, List.filter_cons]
  cases hf : f x.root <;> simp
theorem pick_sel {cs : List ECell} {ls : List Int} {b : Bool} {f : Int -> Bool} : ∀ {os : List EOcc}, (∀ o ∈ os, f (rootOf o) = (selS ls o == b)) -> pickR (rootL cs os) f = selL cs os ls b
 | [], _ => rfl
 | o :: os, h => by
  have ih := pick_sel (cs := cs) (os := os) (ls := ls) (b := b) (f := f) (fun q hq => h q (.tail _ hq))
  have h0 := h o (.head _)
  have e1 : rootL cs (o :: os) = rootAt cs o ++ rootL cs os := rfl
  have e2 : selL cs (o :: os) ls b = (if (selS ls o == b) = true then flatOf cs o else []) ++ selL cs os ls b := rfl
  rw [e1, e2, <- ih, pickR, pickR, List.filter_append, List.map_append, <- h0]
  congr 1
  rw [rootAt]
  cases hf : f (rootOf o)
  ·rw [List.filter_eq_nil_iff.2 (fun x hx => by obtain ⟨s, _, rfl⟩ := List.mem_map.1 hx; simp [hf])]; simp
  ·rw [List.filter_eq_self.2 (fun x hx => by obtain ⟨s, _, rfl⟩ := List.mem_map.1 hx; simp [hf])]; simp [Function.comp_def]
theorem root_one {o : EOcc} {n : Int} (hn : 0 <= n) : decide (rootOf o = n) = selS [n] o := by
 by_cases h : 0 < o.path.length
 ·rw [rootOf_pos h, selS]
  have : (0 : Int) < o.path.length := by omega
  simp only [this, decide_true, Bool.true_and, List.any_cons, List.any_nil, Bool.or_false]
  rw [decide_eq_decide]; exact eq_comm
 ·rw [rootOf_neg h, selS]
  have h1 : ¬ (0 : Int) < o.path.length := by omega
  have h2 : ¬ (-1 : Int) = n := by omega
  simp [h1, h2]
  intro hh; exact absurd hh h
theorem free_sel {xs : List Cell} {cell n reach : Int} {p : Rect} (ha : AtEl xs cell n) : (rootR (erCls xs) cell).any (nearS n reach p) = (selL (erCls xs) (occR (erCls xs) cell) [n] false).any fun s => decide (distR s.box p <= 2 * reach) := by
 have e2 : rootR (erCls xs) cell = rootL (erCls xs) (occR (erCls xs) cell) := by rw [rootR, decide_eq_true ha.hz]; rfl
 have e := any_pick (rs := rootL (erCls xs) (occR (erCls xs) cell)) (f := fun r => !decide (r = n)) (g := fun s => decide (distR s.box p <= 2 * reach))
 rw [e2, <- pick_sel (f := fun r => !decide (r = n)) (fun o _ => by rw [root_one ha.hn.1]; cases selS [n] o <;> rfl), <- e]
 rfl
theorem selL_in {xs : List Cell} {cell : Int} (hz : shE (erCls xs) cell = 0) {ls : List Int} {b : Bool} {i : Nat} (hi : i < (selL (erCls xs) (occR (erCls xs) cell) ls b).length) : validRect (gd (selL (erCls xs) (occR (erCls xs) cell) ls b) i).box = true :=
 (shE_zero hz).2 _ (selL_mem (gd_mem hi))
theorem free_r {l : Lib} {cell n reach : Int} (hL : RLib G L l.cells.v l.cells.xs) (hlen : lenC (erCls l.cells.xs)) (ha : AtEl l.cells.xs cell n) (hr : 0 <= reach ∧ reach <= 8) (k : R (.bool (freeB (erCls l.cells.xs) cell n reach)) G L) :
  CallT Tryz.prog 81 #[vT libT l, vi cell, vi n, vi reach] G L R := by
 have hE := erCls_len l.cells.xs
 obtain ⟨hok, hc0, hc1⟩ := ha.lib
 have hce := erCl_insts (xs := l.cells.xs) (i := cell.toNat) hc1
 have hnl := ha.lt
 have hn0 := ha.hn.1
 obtain ⟨he1, he2'⟩ := ha.el
 have he2 : -1000 <= (gd (elems (gd l.cells.xs cell.toNat).insts.xs) n.toNat).place.x ∧ (gd (elems (gd l.cells.xs cell.toNat).insts.xs) n.toNat).place.x <= 1000 ∧ -1000 <= (gd (elems (gd l.cells.xs cell.toNat).insts.xs) n.toNat).place.y ∧ (gd (elems (gd l.cells.xs cell.toNat).insts.xs) n.toNat).place.y <= 1000 := by omega
 refine CallT.enter (args := _) Tryz.func81 rfl rfl (by kernel_rfl) rfl ?_
 refine WP.sr ?_
 refine RG.ot rfl (OT.box (cs := libT.enc l) rfl rfl rfl fun b4 => ?_)
 refine RG.br rfl (RG.nil (WP.sr (RG.p (PV.loadW rfl Ag26 rfl rfl) (RG.ml rfl (RG.ml rfl ?_)))))
 refine RG.ot rfl (OT.bslice (F := intT) (els := [_]) rfl El45 rfl (by decide) rfl (by decide) ⟨rfl, (Cl.c rfl), trivial⟩ fun v22 => ?_)
 refine RG.callF (vs := [_, _, v22]) rfl rfl En127 rfl (path_s hL.up hlen ha Rs.o (fun w1 hw1 => ?_))
 refine RG.p (PV.move rfl rfl) (RG.p (PV.ext rfl rfl rfl) (RG.p (PV.ext rfl rfl rfl) ?_))
 refine RG.ot rfl (OT.alloc rfl Zr119 fun b9 => ?_)
 refine RG.ot rfl (OT.storeW (vs := [vi _, vi _, vi _, vi _, _]) rfl Sz119 rfl rfl (Cl.c rfl) rfl rfl (OneC.val rfl (OneC.val rfl (OneC.val rfl (OneC.val rfl (OneC.val hw1 OneC.nil))))) ?_)
 refine RG.mr rfl (RG.nil (WP.sr (RG.p (PV.loadW rfl Ag26 rfl rfl) (RG.p (PV.field rfl Fo119_0 rfl) (RG.p (PV.load1 rfl Sc2 rfl (Rd.blk rfl)) ?_)))))
 refine RG.callF (vs := [_, _]) rfl rfl En128 rfl (bnd_r hL.up hlen ?_)
 refine RG.p (PV.move rfl rfl) (RG.p (PV.ext rfl rfl rfl) (RG.p (PV.ext rfl rfl rfl) ?_))
 refine RG.ot rfl (OT.alloc rfl Zr101 fun b11 => ?_)
 refine RG.ot rfl (OT.storeW (vs := [vi _, vi _, vi _, vi _]) rfl Sz101 rfl rfl (Cl.c rfl) rfl rfl (OneC.c rfl) ?_)
 refine RG.mr rfl (RG.nil (WP.seq (WP.sr (RG.ml rfl (RG.p (PV.neq rfl rfl rfl) (RG.nil ?_))))))
 refine WP.cond rfl (fun h6 => ?_) fun h6 => ?_
 ·have h6 : bndE (erCls l.cells.xs) (gd (elems (gd l.cells.xs cell.toNat).insts.xs) n.toNat).cell ≠ 0 := by simpa using h6
  have e : freeB (erCls l.cells.xs) cell n reach = false := free_no (by rw [hce]; exact h6)
  rw [e] at k
  refine WP.sr (RG.br rfl (RG.nil ?_))
  exact WP.ret ⟨_, _, rv rfl rfl, Cv.p, k⟩
 ·have h6 : bndE (erCls l.cells.xs) (gd (elems (gd l.cells.xs cell.toNat).insts.xs) n.toNat).cell = 0 := by simpa using h6
  have hob := bndR_in h6
  have hob2 := RIn_big hob
  have hpb := moveR_big hob he1 (show (-1000 <= (gd (elems (gd l.cells.xs cell.toNat).insts.xs) n.toNat).place.x ∧ (gd (elems (gd l.cells.xs cell.toNat).insts.xs) n.toNat).place.x <= 1000) ∧ -1000 <= (gd (elems (gd l.cells.xs cell.toNat).insts.xs) n.toNat).place.y ∧ (gd (elems (gd l.cells.xs cell.toNat).insts.xs) n.toNat).place.y <= 1000 by omega)
  have hfe : freeB (erCls l.cells.xs) cell n reach = ((validRect (wideR (bndR (erCls l.cells.xs) (gd (elems (gd l.cells.xs cell.toNat).insts.xs) n.toNat).cell) reach) && validRect (wideR (moveR (gd (elems (gd l.cells.xs cell.toNat).insts.xs) n.toNat).place (bndR (erCls l.cells.xs) (gd (elems (gd l.cells.xs cell.toNat).insts.xs) n.toNat).cell)) reach)) && !((selL (erCls l.cells.xs) (occR (erCls l.cells.xs) cell) [n] false).any fun s => decide (distR s.box (moveR (gd (elems (gd l.cells.xs cell.toNat).insts.xs) n.toNat).place (bndR (erCls l.cells.xs) (gd (elems (gd l.cells.xs cell.toNat).insts.xs) n.toNat).cell)) <= 2 * reach))) := by
   rw [<- free_sel ha]
   have e2 : rootR (erCls l.cells.xs) cell = rootL (erCls l.cells.xs) (occR (erCls l.cells.xs) cell) := by rw [rootR, decide_eq_true ha.hz]; rfl
   simp only [freeB, hce, decide_eq_true h6, Bool.true_and, e2]
  refine WP.skip (WP.sr (RG.p (PV.field rfl Fo119_1 rfl) (RG.p (PV.loadB (vs := [_, _, _]) rfl Ag87 rfl rfl rfl) (RG.p (PV.loadW rfl Ag101 rfl rfl) ?_))))
  refine RG.callF (vs := [_, _]) rfl rfl En129 rfl (moveRect_r he1 he2 hob ?_)
  refine RG.ot rfl (OT.alloc rfl Zr101 fun b13 => ?_)
  refine RG.ot rfl (OT.storeW (vs := [vi _, vi _, vi _, vi _]) rfl Sz101 rfl rfl (Cl.c rfl) rfl rfl (OneC.c rfl) ?_)
  refine RG.nil (WP.seq (WP.sr (RG.p (PV.loadW rfl Ag101 rfl rfl) (RG.ml rfl ?_))))
  refine RG.callF (vs := [_, _]) rfl rfl En131 rfl (wide_s hob2 (by omega) ?_)
  refine RG.callF (vs := [_]) rfl rfl En130 rfl (validRect_s' ?_)
  refine RG.p (PV.not rfl rfl) (RG.bl rfl ?_)
  refine RG.g rfl (fun hp => (PV.loadW rfl Ag101 rfl rfl)) ?_
  refine RG.g rfl (fun hp => (PV.mvI (.inl rfl) rfl)) ?_
  refine RG.gsC rfl rfl rfl rfl En131 (fun hp => ⟨_, (acons (gt' hp) (acons (gt' hp) anil)), wide_s hpb (by omega) ⟨rfl, rfl, rfl⟩⟩) ?_
  refine RG.gsC rfl rfl rfl rfl En130 (fun hp => ⟨_, (acons (gt' hp) anil), validRect_s' ⟨rfl, rfl, rfl⟩⟩) ?_
  refine RG.g rfl (fun hp => (PV.not rfl (gt' hp))) ?_
  refine RG.p (PV.pickO rfl rfl rfl (fun hq => gt' (geqF hq))) (RG.nil ?_)
  refine WP.cond rfl (fun h7 => ?_) fun h7 => ?_
  ·have e : freeB (erCls l.cells.xs) cell n reach = false := by
    rw [hfe]
    simp only [Bool.or_eq_true, Bool.not_eq_true'] at h7
    rcases h7 with h | h
    ·rw [show validRect (wideR (bndR (erCls l.cells.xs) (gd (elems (gd l.cells.xs cell.toNat).insts.xs) n.toNat).cell) reach) = false from h]; rfl
    ·rw [show validRect (wideR (moveR (gd (elems (gd l.cells.xs cell.toNat).insts.xs) n.toNat).place (bndR (erCls l.cells.xs) (gd (elems (gd l.cells.xs cell.toNat).insts.xs) n.toNat).cell)) reach) = false from h, Bool.and_false]; rfl
   rw [e] at k
   refine WP.sr (RG.br rfl (RG.nil ?_))
   exact WP.ret ⟨_, _, rv rfl rfl, Cv.p, k⟩
  ·simp only [Bool.or_eq_false_iff, Bool.not_eq_false'] at h7
   rw [show validRect (wideR (bndR (erCls l.cells.xs) (gd (elems (gd l.cells.xs cell.toNat).insts.xs) n.toNat).cell) reach) = true from h7.1, show validRect (wideR (moveR (gd (elems (gd l.cells.xs cell.toNat).insts.xs) n.toNat).place (bndR (erCls l.cells.xs) (gd (elems (gd l.cells.xs cell.toNat).insts.xs) n.toNat).cell)) reach) = true from h7.2, Bool.true_and, Bool.true_and] at hfe
   obtain ⟨⟨z1, z2, z3⟩, z4, z5, z6⟩ := id hpb
   refine WP.skip (WP.sr (RG.p (PV.loadW rfl Ag101 rfl rfl) (RG.ml rfl (RG.p (PV.mul rfl rfl rfl (by omega)) ?_))))
   refine RG.callF (vs := [_, _]) rfl rfl En131 rfl (wide_s hpb (by omega) ?_)
   refine RG.ot rfl (OT.alloc rfl Zr101 fun b14 => ?_)
   refine RG.ot rfl (OT.storeW (vs := [vi _, vi _, vi _, vi _]) rfl Sz101 rfl rfl (Cl.c rfl) rfl rfl (OneC.c rfl) ?_)
   refine RG.nil (WP.sr (RG.p (PV.loadW rfl Ag26 rfl rfl) (RG.ml rfl (RG.ml rfl ?_))))
   refine RG.ot rfl (OT.bslice (F := intT) (els := [_]) rfl El45 rfl (by decide) rfl (by decide) ⟨rfl, (Cl.c rfl), trivial⟩ fun v58 => ?_)
   refine RG.callF (vs := [_, _, v58, _]) rfl rfl En132 rfl (l21Shapes_s hL.up hlen Rs.o (fun v59 => ?_))
   refine RG.p (PV.asg (v := v59) rfl rfl) (RG.nil (WP.seq (WP.sr (RG.mr rfl (RG.nil (WP.block ?_))))))
   refine WP.bdo v59 fun hbz => ?_
   refine WP.loop1 [14, 15] (fun i => i <= (selL (erCls l.cells.xs) (occR (erCls l.cells.xs) cell) [n] false).length ∧ ∀ j, j < i -> decide (distR (gd (selL (erCls l.cells.xs) (occR (erCls l.cells.xs) cell) [n] false) j).box (moveR (gd (elems (gd l.cells.xs cell.toNat).insts.xs) n.toNat).place (bndR (erCls l.cells.xs) (gd (elems (gd l.cells.xs cell.toNat).insts.xs) n.toNat).cell)) <= 2 * reach) = false) (fun i => [(16, vi i)]) (fun i => osl 109 shapeT v59 (selL (erCls l.cells.xs) (occR (erCls l.cells.xs) cell) [n] false) :: blk b14 101 (rectT.enc (wideR (moveR (gd (elems (gd l.cells.xs cell.toNat).insts.xs) n.toNat).place (bndR (erCls l.cells.xs) (gd (elems (gd l.cells.xs cell.toNat).insts.xs) n.toNat).cell)) (2 * reach))) :: L) (fun i => (selL (erCls l.cells.xs) (occR (erCls l.cells.xs) cell) [n] false).length - i) 0 ⟨by omega, fun j h => by omega⟩ ⟨rfl, trivial⟩ Cv.p ?_
   rintro i τ ⟨hi, hj⟩
   refine WP.seq (WP.sr (RG.ml rfl (RG.p (PV.move (v := v59) rfl rfl) (RG.p (PV.len (v := v59) rfl Tryz.underlying66 rfl SlF.o) (RG.p (PV.lss rfl rfl rfl) (RG.nil ?_))))))
   refine WP.cond rfl (fun h8 => ?_) fun h8 => ?_
   ·have h8 := odt h8
    have hin := validR_in (selL_in ha.hz (ls := [n]) (b := false) (i := i) (by omega))
    have hsb := RIn_big hin
    obtain ⟨y1, y2, y3, y4, y5, y6⟩ := id hin
    have hns := near_span (q := reach) hsb hpb hr.1
    refine WP.skip (WP.seq (WP.block (WP.sr (RG.p (PV.move (v := v59) rfl rfl) (RG.ml rfl (RG.p (PV.idxS (v := v59) rfl Is66 rfl SlF.o rfl rfl (by omega)) (RG.p (PV.field rfl Fo109_1 rfl) (RG.p (PV.loadEP rfl Ag101 rfl rfl (El.o (getG (by omega))) rfl) ?_))))))))
    refine RG.ot rfl (OT.alloc rfl Zr101 fun b17 => ?_)
    refine RG.ot rfl (OT.storeW (vs := [vi _, vi _, vi _, vi _]) rfl Sz101 rfl rfl (Cl.c rfl) rfl rfl (OneC.c rfl) ?_)
    refine RG.nil (WP.sr (RG.p (PV.field rfl Fo101_0 rfl) (RG.p (PV.load1 rfl Sc2 rfl (Rd.blk rfl)) (RG.p (PV.field rfl Fo101_2 rfl) (RG.p (PV.load1 rfl Sc2 rfl (Rd.blk rfl)) (RG.p (PV.field rfl Fo101_0 rfl) (RG.p (PV.load1 rfl Sc2 rfl (Rd.blk rfl)) (RG.p (PV.field rfl Fo101_2 rfl) (RG.p (PV.load1 rfl Sc2 rfl (Rd.blk rfl)) ?_)))))))))
    refine RG.callF (vs := [_, _, _, _]) rfl rfl En133 rfl (span_s (by first | omega | (simp only [wideR]; omega)) (by first | omega | (simp only [wideR]; omega)) (by first | omega | (simp only [wideR]; omega)) (by first | omega | (simp only [wideR]; omega)) ?_)
    refine RG.p (PV.gtr rfl rfl rfl) (RG.bl rfl ?_)
    refine RG.g rfl (fun hp => (PV.field rfl Fo101_1 rfl)) ?_
    refine RG.g rfl (fun hp => (PV.load1 rfl Sc2 (gt' hp) (Rd.blk rfl))) ?_
    refine RG.g rfl (fun hp => (PV.field rfl Fo101_3 rfl)) ?_
    refine RG.g rfl (fun hp => (PV.load1 rfl Sc2 (gt' hp) (Rd.blk rfl))) ?_
    refine RG.g rfl (fun hp => (PV.field rfl Fo101_1 rfl)) ?_
    refine RG.g rfl (fun hp => (PV.load1 rfl Sc2 (gt' hp) (Rd.blk rfl))) ?_
    refine RG.g rfl (fun hp => (PV.field rfl Fo101_3 rfl)) ?_
    refine RG.g rfl (fun hp => (PV.load1 rfl Sc2 (gt' hp) (Rd.blk rfl))) ?_
    refine RG.gsC rfl rfl rfl rfl En133 (fun hp => ⟨_, (acons (gt' hp) (acons (gt' hp) (acons (gt' hp) (acons (gt' hp) anil)))), span_s (by first | omega | (simp only [wideR]; omega)) (by first | omega | (simp only [wideR]; omega)) (by first | omega | (simp only [wideR]; omega)) (by first | omega | (simp only [wideR]; omega)) ⟨rfl, rfl, rfl⟩⟩) ?_
    refine RG.g rfl (fun hp => (PV.gtr rfl (gt' hp) rfl)) ?_
    refine RG.p (PV.pickA rfl rfl (fun hq => gt' (geqT hq)) rfl) (RG.nil ?_)
    refine WP.cond rfl (fun h9 => ?_) fun h9 => ?_
    ·have e : freeB (erCls l.cells.xs) cell n reach = false := by
      rw [hfe, List.any_eq_true.2 ⟨gd (selL (erCls l.cells.xs) (occR (erCls l.cells.xs) cell) [n] false) i, gd_mem (by omega), by rw [hns]; exact h9⟩]; rfl
     rw [e] at k
     refine WP.sr (RG.br rfl (RG.nil ?_))
     exact WP.ret ⟨_, _, rv rfl rfl, Cv.p, k⟩
    ·have hj' : ∀ j, j < i + 1 -> decide (distR (gd (selL (erCls l.cells.xs) (occR (erCls l.cells.xs) cell) [n] false) j).box (moveR (gd (elems (gd l.cells.xs cell.toNat).insts.xs) n.toNat).place (bndR (erCls l.cells.xs) (gd (elems (gd l.cells.xs cell.toNat).insts.xs) n.toNat).cell)) <= 2 * reach) = false := fun j h => by
      by_cases c : j = i
      ·rw [c, hns]; exact h9
      ·exact hj j (by omega)
     refine WP.skip (WP.region (RG.ml rfl (RG.p (PV.add rfl rfl rfl (by omega)) (RG.mr rfl (RG.nil ?_)))))
     exact ⟨rfl, i + 1, ⟨by omega, hj'⟩, ⟨rfl, trivial⟩, ⟨rfl, rfl, trivial⟩, Cv.p, by omega⟩
   ·have h8 := odf h8
    have e : freeB (erCls l.cells.xs) cell n reach = true := by
     have : ((selL (erCls l.cells.xs) (occR (erCls l.cells.xs) cell) [n] false).any fun s => decide (distR s.box (moveR (gd (elems (gd l.cells.xs cell.toNat).insts.xs) n.toNat).place (bndR (erCls l.cells.xs) (gd (elems (gd l.cells.xs cell.toNat).insts.xs) n.toNat).cell)) <= 2 * reach)) = false := by
      rw [List.any_eq_false]
      intro s hs
      obtain ⟨j, hj2, rfl⟩ := List.getElem_of_mem hs
      have := hj j (by omega)
      rw [gd_eq hj2] at this
      simpa using this
     rw [hfe, this]; rfl
    rw [e] at k
    refine WP.exit (WP.sr (RG.br rfl (RG.nil ?_)))
    exact WP.ret ⟨_, _, rv rfl rfl, Cv.p, k⟩
theorem reach_in {n : Int} (h : within n 0 8 = true) : 0 <= n ∧ n <= 8 := by simpa [within] using h
def cfE (cs : List ECell) (cell reach : Int) : Int := bif decide (shE cs cell = 0) then (bif within reach 0 8 then 0 else 2) else shE cs cell
def cfTo (cs : List ECell) (cell reach : Int) (i : Nat) : List Int := ((List.range i).filter fun n : Nat => freeB cs cell (n : Int) reach).map fun n : Nat => (n : Int)
def cfR (cs : List ECell) (cell reach : Int) : List Int := bif decide (cfE cs cell reach = 0) then cfTo cs cell reach (elN cs cell) else []
theorem cfE_else {cs : List ECell} {cell reach : Int} (h1 : (decide (shE cs cell = 0) && !within reach 0 8) = false) : shE cs cell = cfE cs cell reach := by
 rw [cfE]
 by_cases c : shE cs cell = 0
 ·rw [decide_eq_true c, cond_true, c]
  rw [decide_eq_true c, Bool.true_and, Bool.not_eq_false'] at h1
  rw [h1]; rfl
 ·rw [decide_eq_false c]; rfl
theorem cfTo_step (cs : List ECell) (cell reach : Int) (i : Nat) : cfTo cs cell reach (i + 1) = cfTo cs cell reach i ++ (if freeB cs cell (i : Int) reach = true then [(i : Int)] else []) := by
 rw [cfTo, cfTo, List.range_succ, List.filter_append, List.map_append]
 by_cases h : freeB cs cell (i : Int) reach = true <;> simp [h]
theorem cfTo_len (cs : List ECell) (cell reach : Int) (i : Nat) : (cfTo cs cell reach i).length <= i := by
 rw [cfTo, List.length_map]
 exact Nat.le_trans (List.length_filter_le _ _) (by simp)
theorem allFree_i {l : Lib} {cell reach : Int} (hL : RLib G L l.cells.v l.cells.xs) (hlen : lenC (erCls l.cells.xs)) (k : ∀ v', R (.tuple #[v', vi (cfE (erCls l.cells.xs) cell reach)]) G (osl 2 intT v' (cfR (erCls l.cells.xs) cell reach) :: L)) : CallT Tryz.prog 24 #[vT libT l, vi cell, vi reach] G L R := by
 have hE := erCls_len l.cells.xs
 refine CallT.enter (args := _) Tryz.func24 rfl rfl (by kernel_rfl) rfl ?_
 refine WP.sr ?_
 refine RG.ot rfl (OT.box (cs := libT.enc l) rfl rfl rfl fun b3 => ?_)
 refine RG.p (PV.asg rfl rfl) (RG.mr rfl (RG.nil (WP.sr (RG.p (PV.loadW rfl Ag26 rfl rfl) (RG.ml rfl ?_)))))
 refine RG.callF (vs := [_, _]) rfl rfl En42 rfl (rooted_i hL.up hlen (fun w15 => ?_))
 refine RG.p (PV.move (v := .tuple _) rfl rfl) (RG.p (PV.ext (v := w15) rfl rfl rfl) (RG.p (PV.ext rfl rfl rfl) (RG.p (PV.asg (v := w15) rfl rfl) (RG.mr rfl (RG.nil ?_)))))
 refine WP.cut1 [1, 2, 3, 8] (fun (q : Int) => q = cfE (erCls l.cells.xs) cell reach) (fun (q : Int) => [(9, vi q)]) (fun (q : Int) => blk b3 26 (libT.enc l) :: osl 133 rshapeT w15 (rootR (erCls l.cells.xs) cell) :: L) ?_ ?_
 refine WP.sr (RG.ml rfl (RG.p (PV.eql rfl rfl rfl) (RG.bl rfl ?_)))
 refine RG.g rfl (fun hp => (PV.mvI (.inl rfl) rfl)) ?_
 refine RG.gsC rfl rfl rfl rfl En56 (fun hp => ⟨_, (acons (gt' hp) (acons rfl (acons rfl anil))), within_s ⟨rfl, rfl, rfl⟩⟩) ?_
 refine RG.g rfl (fun hp => (PV.not rfl (gt' hp))) ?_
 refine RG.p (PV.pickA rfl rfl (fun hq => gt' (geqT hq)) rfl) (RG.nil ?_)
 refine WP.cond rfl (fun h1 => ?_) fun h1 => ?_
 ·have h1 : shE (erCls l.cells.xs) cell = 0 ∧ within reach 0 8 = false := by simpa using h1
  refine WP.region (RG.mr rfl (RG.nil ?_))
  exact ⟨rfl, 2, (by rw [cfE, decide_eq_true h1.1, h1.2]; rfl), ⟨rfl, trivial⟩, ⟨rfl, rfl, rfl, rfl, trivial⟩, Cv.p⟩
 ·refine WP.skip ?_
  exact ⟨rfl, (shE (erCls l.cells.xs) cell), (cfE_else h1), ⟨rfl, trivial⟩, ⟨rfl, rfl, rfl, rfl, trivial⟩, Cv.p⟩
 rintro q τ0 hq
 subst hq
 refine WP.seq (WP.sr (RG.ml rfl (RG.p (PV.neq rfl rfl rfl) (RG.nil ?_))))
 refine WP.cond rfl (fun h2 => ?_) fun h2 => ?_
 ·have h2 : cfE (erCls l.cells.xs) cell reach ≠ 0 := by simpa using h2
  have e : cfR (erCls l.cells.xs) cell reach = [] := by rw [cfR, decide_eq_false h2]; rfl
  rw [e] at k
  refine WP.sr (RG.ml rfl (RG.p (PV.asg rfl rfl) (RG.mr rfl (RG.nil ?_))))
  exact WP.ret ⟨_, _, ResV.two rfl rfl rfl, Cv.p.trans Cv.nilS, k (.slice none 0 0)⟩
 ·have h2 : cfE (erCls l.cells.xs) cell reach = 0 := by simpa using h2
  have e : cfR (erCls l.cells.xs) cell reach = cfTo (erCls l.cells.xs) cell reach (elN (erCls l.cells.xs) cell) := by rw [cfR, decide_eq_true h2]; rfl
  obtain ⟨h1, h3⟩ : shE (erCls l.cells.xs) cell = 0 ∧ within reach 0 8 = true := by
   unfold cfE at h2
   by_cases c : shE (erCls l.cells.xs) cell = 0
   ·rw [decide_eq_true c, cond_true] at h2
    cases hw : within reach 0 8 with
    | true => exact ⟨c, rfl⟩
    | false => rw [hw] at h2; cases h2
   ·rw [decide_eq_false c] at h2; exact absurd h2 c
  rw [e, h2] at k
  have hok := shE_lib h1
  have hce := erCl_insts (xs := l.cells.xs) (i := cell.toNat) (by omega)
  have hns : okNs (gd l.cells.xs cell.toNat).insts.xs := by rw [<- hce]; exact okLib_ns hok.1 (by omega)
  have hnn := elN_ns (xs := l.cells.xs) (cell := cell) (by omega)
  have hnb : elN (erCls l.cells.xs) cell <= 128 := elems_len_bd hok.1 (by omega)
  refine WP.skip (WP.sr ?_)
  refine RG.ot rfl (OT.bslice (F := intT) (els := []) rfl El45 rfl (by decide) rfl (by decide) trivial fun v28 => ?_)
  refine RG.p (PV.asg (v := v28) rfl rfl) (RG.nil (WP.seq (WP.sr (RG.p (PV.field rfl Fo26_0 rfl) (RG.p (PV.load1 rfl Sc24 rfl (Rd.blk rfl)) (RG.ml rfl (RG.p (PV.idxS (j := cell.toNat) rfl Is24 rfl (SlF.r hL.c) rfl (by omega) (by omega)) (RG.p (PV.loadE rfl Ag95 rfl rfl (El.r hL.c (getG (by omega)))) ?_))))))))
  refine RG.callF (vs := [_]) rfl rfl En50 rfl (elems_i (hL.na (by omega)).up hns (fun v34 => ?_))
  refine RG.p (PV.len (v := v34) rfl Tryz.underlying90 rfl SlF.o) (RG.ml rfl (RG.nil (WP.block ?_)))
  refine WP.cv ((Cv.p (C := osl 2 intT v28 [] :: blk b3 26 (libT.enc l) :: osl 133 rshapeT w15 (rootR (erCls l.cells.xs) cell) :: L)).trans (Cv.eqS (ys := cfTo (erCls l.cells.xs) cell reach 0) rfl)) ?_
  refine WP.loop2 [1, 2, 3, 8, 35] (fun (i : Nat) (v : Value) => i <= (elems (gd l.cells.xs cell.toNat).insts.xs).length) (fun (i : Nat) (v : Value) => [(36, vi i), (10, v)]) (fun (i : Nat) (v : Value) => osl 2 intT v (cfTo (erCls l.cells.xs) cell reach i) :: blk b3 26 (libT.enc l) :: osl 133 rshapeT w15 (rootR (erCls l.cells.xs) cell) :: L) (fun (i : Nat) (v : Value) => (elems (gd l.cells.xs cell.toNat).insts.xs).length - i) 0 v28 (by omega) ⟨rfl, rfl, trivial⟩ Cv.p ?_
  rintro i v τ hi
  refine WP.sr (RG.p (PV.lss rfl rfl rfl) (RG.nil (WP.seq ?_)))
  have hcl := cfTo_len (erCls l.cells.xs) cell reach i
  refine WP.cond rfl (fun h4 => ?_) fun h4 => ?_
  ·have h4 := odt h4
   have hst := cfTo_step (erCls l.cells.xs) cell reach i
   refine WP.skip (WP.seq (WP.block (WP.sr (RG.ml rfl (RG.mr rfl (RG.nil (WP.sr (RG.p (PV.loadW rfl Ag26 rfl rfl) (RG.ml rfl (RG.ml rfl (RG.ml rfl ?_)))))))))))
   refine RG.p (PV.move (v := w15) rfl rfl) ?_
   refine RG.callF (vs := [_, _, _, _, w15]) rfl rfl En49 rfl (free_i hL.up hlen ⟨h1, by omega, by omega⟩ (reach_in h3) Rs.o ?_)
   refine RG.nil ?_
   refine WP.cond rfl (fun h5 => ?_) fun h5 => ?_
   ·rw [if_pos h5] at hst
    refine WP.region (RG.p (PV.move (v := v) rfl rfl) (RG.ml rfl ?_))
    refine RG.ot rfl (OT.bslice (F := intT) (els := [_]) rfl El45 rfl (by decide) rfl (by decide) ⟨rfl, (Cl.c rfl), trivial⟩ fun v47 => ?_)
    refine RG.ot rfl (OT.append (v := v) (u := v47) (F := intT) rfl El45 rfl (by decide) rfl rfl Rs.o (OneL.c (fun _ => rfl)) rfl (by first | omega | (simp <;> omega)) fun v48 => ?_)
    refine RG.p (PV.asg (v := v48) rfl rfl) (RG.nil (WP.region (RG.p (PV.add rfl rfl rfl (by omega)) (RG.ml rfl (RG.nil ?_)))))
    exact ⟨rfl, i + 1, v48, (by omega), ⟨rfl, rfl, trivial⟩, ⟨rfl, rfl, rfl, rfl, rfl, trivial⟩, ((Cv.p (C := osl 2 intT v48 (cfTo (erCls l.cells.xs) cell reach i ++ [(i : Int)]) :: blk b3 26 (libT.enc l) :: osl 133 rshapeT w15 (rootR (erCls l.cells.xs) cell) :: L)).trans (Cv.eqS hst.symm)), by omega⟩
   ·rw [if_neg (by rw [h5]; decide), List.append_nil] at hst
    refine WP.skip (WP.region (RG.p (PV.add rfl rfl rfl (by omega)) (RG.ml rfl (RG.nil ?_))))
    exact ⟨rfl, i + 1, v, (by omega), ⟨rfl, rfl, trivial⟩, ⟨rfl, rfl, rfl, rfl, rfl, trivial⟩, ((Cv.p (C := osl 2 intT v (cfTo (erCls l.cells.xs) cell reach i) :: blk b3 26 (libT.enc l) :: osl 133 rshapeT w15 (rootR (erCls l.cells.xs) cell) :: L)).trans (Cv.eqS hst.symm)), by omega⟩
  ·have h4 := odf h4
   obtain rfl : i = elN (erCls l.cells.xs) cell := by omega
   refine WP.exit (WP.sr (RG.p (PV.move (v := v) rfl rfl) (RG.p (PV.asg (v := v) rfl rfl) (RG.mr rfl (RG.nil ?_)))))
   exact WP.ret ⟨_, _, ResV.two rfl rfl rfl, Cv.p, k v⟩
theorem allFree_s {l : Lib} {cell reach : Int} (hL : RLib G L l.cells.v l.cells.xs) (hlen : lenC (erCls l.cells.xs)) (h1 : shE (erCls l.cells.xs) cell = 0) (hr : 0 <= reach ∧ reach <= 8) (k : ∀ v', R v' G (osl 2 intT v' (cfTo (erCls l.cells.xs) cell reach (elN (erCls l.cells.xs) cell)) :: L)) : CallT Tryz.prog 40 #[vT libT l, vi cell, vi reach] G L R := by
 have hE := erCls_len l.cells.xs
 have hok := shE_lib h1
 have hnb : elN (erCls l.cells.xs) cell <= 128 := elems_len_bd hok.1 (by omega)
 refine CallT.enter (args := _) Tryz.func40 rfl rfl (by kernel_rfl) rfl ?_
 refine WP.sr ?_
 refine RG.ot rfl (OT.box (cs := libT.enc l) rfl rfl rfl fun b3 => ?_)
 refine RG.p (PV.asg rfl rfl) (RG.nil (WP.sr ?_))
 refine RG.ot rfl (OT.bslice (F := intT) (els := []) rfl El45 rfl (by decide) rfl (by decide) trivial fun v9 => ?_)
 refine RG.p (PV.asg (v := v9) rfl rfl) (RG.nil (WP.seq (WP.sr (RG.mr rfl (RG.nil (WP.block ?_))))))
 refine WP.cv (Cv.eqS (ys := cfTo (erCls l.cells.xs) cell reach 0) rfl) ?_
 refine WP.loop2 [1, 2, 3] (fun (i : Nat) (v : Value) => i <= elN (erCls l.cells.xs) cell) (fun (i : Nat) (v : Value) => [(8, vi i), (7, v)]) (fun (i : Nat) (v : Value) => osl 2 intT v (cfTo (erCls l.cells.xs) cell reach i) :: blk b3 26 (libT.enc l) :: L) (fun (i : Nat) (v : Value) => elN (erCls l.cells.xs) cell - i) 0 v9 (by omega) ⟨rfl, rfl, trivial⟩ Cv.p ?_
 rintro i v τ hi
 refine WP.seq (WP.sr (RG.ml rfl (RG.p (PV.loadW rfl Ag26 rfl rfl) (RG.ml rfl ?_))))
 refine RG.callF (vs := [_, _]) rfl rfl En80 rfl (l21Elements_s hL.up (shE_lib h1) ?_)
 refine RG.p (PV.lss rfl rfl rfl) (RG.nil ?_)
 have hcl := cfTo_len (erCls l.cells.xs) cell reach i
 refine WP.cond rfl (fun h4 => ?_) fun h4 => ?_
 ·have h4 := odt h4
  have hst := cfTo_step (erCls l.cells.xs) cell reach i
  refine WP.skip (WP.seq (WP.block (WP.sr (RG.p (PV.loadW rfl Ag26 rfl rfl) (RG.ml rfl (RG.ml rfl (RG.ml rfl ?_)))))))
  refine RG.callF (vs := [_, _, _, _]) rfl rfl En81 rfl (free_r hL.up hlen ⟨h1, by omega, by omega⟩ hr ?_)
  refine RG.nil ?_
  refine WP.cond rfl (fun h5 => ?_) fun h5 => ?_
  ·rw [if_pos h5] at hst
   refine WP.region (RG.p (PV.move (v := v) rfl rfl) (RG.ml rfl ?_))
   refine RG.ot rfl (OT.bslice (F := intT) (els := [_]) rfl El45 rfl (by decide) rfl (by decide) ⟨rfl, (Cl.c rfl), trivial⟩ fun v24 => ?_)
   refine RG.ot rfl (OT.append (v := v) (u := v24) (F := intT) rfl El45 rfl (by decide) rfl rfl Rs.o (OneL.c (fun _ => rfl)) rfl (by first | omega | (simp <;> omega)) fun v25 => ?_)
   refine RG.p (PV.asg (v := v25) rfl rfl) (RG.nil (WP.region (RG.ml rfl (RG.p (PV.add rfl rfl rfl (by omega)) (RG.mr rfl (RG.nil ?_))))))
   exact ⟨rfl, i + 1, v25, (by omega), ⟨rfl, rfl, trivial⟩, ⟨rfl, rfl, rfl, trivial⟩, ((Cv.p (C := osl 2 intT v25 (cfTo (erCls l.cells.xs) cell reach i ++ [(i : Int)]) :: blk b3 26 (libT.enc l) :: L)).trans (Cv.eqS hst.symm)), by omega⟩
  ·rw [if_neg (by rw [h5]; decide), List.append_nil] at hst
   refine WP.skip (WP.region (RG.ml rfl (RG.p (PV.add rfl rfl rfl (by omega)) (RG.mr rfl (RG.nil ?_)))))
   exact ⟨rfl, i + 1, v, (by omega), ⟨rfl, rfl, trivial⟩, ⟨rfl, rfl, rfl, trivial⟩, ((Cv.p (C := osl 2 intT v (cfTo (erCls l.cells.xs) cell reach i) :: blk b3 26 (libT.enc l) :: L)).trans (Cv.eqS hst.symm)), by omega⟩
 ·have h4 := odf h4
  obtain rfl : i = elN (erCls l.cells.xs) cell := by omega
  refine WP.exit (WP.sr (RG.p (PV.move (v := v) rfl rfl) (RG.p (PV.asg (v := v) rfl rfl) (RG.nil ?_))))
  exact WP.ret ⟨_, _, rv rfl rfl, Cv.p, k v⟩
theorem cfR_len (cs : List ECell) (cell reach : Int) : (cfR cs cell reach).length <= 128 := by
 rw [cfR]
 by_cases h : cfE cs cell reach = 0
 ·rw [decide_eq_true h, cond_true]
  have h1 : shE cs cell = 0 := by
   unfold cfE at h
   by_cases c : shE cs cell = 0
   ·exact c
   ·rw [decide_eq_false c] at h; exact absurd h c
  have := shE_lib h1
  exact Nat.le_trans (cfTo_len _ _ _ _) (elems_len_bd this.1 (by omega))
 ·rw [decide_eq_false h]; simp
def mvI (t : Trans) (xs : List Rect) : List Rect := bif mvOk t xs then canon (bits (xs.map (moveR t))) else []
def mvP (t : Trans) (p : Int × List Rect) : Int × List Rect := (p.1, canon (bits (p.2.map (moveR t))))
def cntF2 (cs : List ECell) (cell : Int) (q : Rule) : Nat := if 0 <= reach q then (cfR cs cell (reach q)).length else 0
theorem reach_le (q : Rule) (h : 0 <= reach q) : within (reach q) 0 8 = true := by have := reach_bd h; simp [within, h, this]
theorem l21Count_s {l : Lib} {cell : Int} {q : Rule} (hL : RLib G L l.cells.v l.cells.xs) (hlen : lenC (erCls l.cells.xs)) (h1 : shE (erCls l.cells.xs) cell = 0) (k : R (vi (cntF2 (erCls l.cells.xs) cell q : Int)) G L) : CallT Tryz.prog 30 #[vT libT l, vi cell, vT ruleT q] G L R := by
 refine CallT.enter (args := _) Tryz.func30 rfl rfl (by kernel_rfl) rfl ?_
 refine WP.sr ?_
 refine RG.ot rfl (OT.box (cs := libT.enc l) rfl rfl rfl fun b3 => ?_)
 refine RG.ot rfl (OT.box (cs := ruleT.enc q) rfl rfl rfl fun b5 => ?_)
 refine RG.mr rfl (RG.nil (WP.seq (WP.sr (RG.p (PV.loadW rfl Ag42 rfl rfl) ?_))))
 refine RG.callF (vs := [_]) rfl rfl En15 rfl (reach_s ?_)
 refine RG.p (PV.lss rfl rfl rfl) (RG.nil ?_)
 refine WP.cond rfl (fun h2 => ?_) fun h2 => ?_
 ·have h2 := odt h2
  have e : cntF2 (erCls l.cells.xs) cell q = 0 := by rw [cntF2, if_neg (by omega)]
  rw [e] at k
  refine WP.sr (RG.mr rfl (RG.nil ?_))
  exact WP.ret ⟨_, _, rv rfl rfl, Cv.p, k⟩
 ·have h2 : 0 <= reach q := by have := odf h2; omega
  have hr := reach_bd h2
  have e : cntF2 (erCls l.cells.xs) cell q = (cfTo (erCls l.cells.xs) cell (reach q) (elN (erCls l.cells.xs) cell)).length := by
   rw [cntF2, if_pos h2, cfR, cfE, decide_eq_true h1, reach_le q h2]; rfl
  rw [e] at k
  refine WP.skip (WP.seq ?_)
  refine WP.regionH0 (.q 0 (.q 1 (.q 2 (.l 3 (.l 4 (.l 5 (.q 6 Sch.nil))))))) (by kernel_rfl) (by kernel_rfl) (by kernel_rfl) rfl ?_
  refine RH.w rfl rfl (PV.loadW rfl Ag26 rfl rfl) (RH.w rfl rfl (PV.mvI (.inl rfl) rfl) (RH.w rfl rfl (PV.loadW rfl Ag42 rfl rfl) ?_))
  refine RH.ot rfl rfl (OT.callF (vs := [_]) rfl En15 rfl (reach_s (kp ?_)))
  refine RH.ot rfl rfl (OT.callF (vs := [_, _, _]) rfl En40 rfl (allFree_s hL.up hlen h1 ⟨h2, hr⟩ (fun v14 => (kp ?_))))
  refine RH.ot rfl rfl (OT.pv (PV.len (v := v14) rfl Tryz.underlying45 rfl SlF.o) (kp ?_))
  refine RH.w rfl rfl (PV.mvI (.inr rfl) rfl) (RH.nil ?_)
  exact WP.ret ⟨_, _, rv rfl rfl, Cv.p, k⟩
theorem WP.loop5 {P : Program} {n : Nat} {Q : Post} {σ : Nat -> Value} {G : Gh} {L : List Ch} {c : Code} (keep : List Nat) {A B D E F : Type} (J : A -> B -> D -> E -> F -> Prop) (S : A -> B -> D -> E -> F -> List (Nat × Value)) (C : A -> B -> D -> E -> F -> List Ch) (μ : A -> B -> D -> E -> F -> Nat) (a0 : A) (b0 : B) (d0 : D) (e0 : E) (f0 : F) (j0 : J a0 b0 d0 e0 f0) (h0 : HasV σ (S a0 b0 d0 e0 f0)) (p0 : Cv L (C a0 b0 d0 e0 f0))
  (round : ∀ a b d e f τ, J a b d e f -> WP P n c (thenP (fun σ' G' L' => G' = G ∧ ∃ a' b' d' e' f', J a' b' d' e' f' ∧ HasV σ' (S a' b' d' e' f') ∧ Keeps σ' σ keep ∧ Cv L' (C a' b' d' e' f') ∧ μ a' b' d' e' f' < μ a b d e f) Q) (upds (updk τ σ keep) (S a b d e f)) G (C a b d e f)) : WP P n (.loop c) Q σ G L :=
 WP.loop0 keep (A := A × B × D × E × F) (fun x => J x.1 x.2.1 x.2.2.1 x.2.2.2.1 x.2.2.2.2) (fun x => S x.1 x.2.1 x.2.2.1 x.2.2.2.1 x.2.2.2.2) (fun x => C x.1 x.2.1 x.2.2.1 x.2.2.2.1 x.2.2.2.2) (fun x => μ x.1 x.2.1 x.2.2.1 x.2.2.2.1 x.2.2.2.2) (a0, b0, d0, e0, f0) j0 h0 p0 fun x τ j =>
  WP.mono (round x.1 x.2.1 x.2.2.1 x.2.2.2.1 x.2.2.2.2 τ j) fun e σ G L hq => by
   cases e with
   | normal => obtain ⟨e, a', b', d', e', f', h⟩ := hq; exact ⟨e, (a', b', d', e', f'), h⟩
   | _ => exact hq
set_option maxHeartbeats 2000000
theorem hasI_at {S : List Bool} {q : Int × Int} {dx dy : Int} : hasI S (q.1 - 40 + dx) (q.2 - 40 + dy) = (decide (0 <= q.1 + dx) && decide (q.1 + dx < 80) && (decide (0 <= q.2 + dy) && decide (q.2 + dy < 80)) && gd S ((q.2 + dy) * 80 + (q.1 + dx)).toNat) := by
 rw [hasI, within, within, show (q.2 - 40 + dy + 40) * 80 + (q.1 - 40 + dx) + 40 = (q.2 + dy) * 80 + (q.1 + dx) by omega]
 congr 1
 rw [Bool.eq_iff_iff]; simp; omega
theorem flood7_s {v : Value} {S : List Bool} {x y : Int} (h1 : Rs G L boolT v S) (hS : S.length = 6400) (hx : 0 <= x ∧ x < 80) (hy : 0 <= y ∧ y < 80) (hon : gb S y.toNat x.toNat = true)
  (k : ∀ v', R v' G (osl 4 boolT v' (compB S (y.toNat, x.toNat)) :: L)) : CallT Tryz.prog 208 #[v, vi (x - 40), vi (y - 40), .bool false] G L R := by
 have hst := FI.start (S := S) hx hy
 have hseed : On S (y.toNat, x.toNat) := ⟨by simp only; omega, by simp only; omega, hon⟩
 have hrl : (List.replicate S.length false).length = 6400 := by simp [hS]
 refine CallT.enter (args := _) Tryz.func208 rfl rfl (by kernel_rfl) rfl ?_
 refine WP.sr (RG.p (PV.asg rfl rfl) (RG.nil (WP.sr (RG.p (PV.move (v := v) rfl rfl) (RG.p (PV.len (v := v) rfl Tryz.underlying148 rfl (SlF.r h1)) ?_)))))
 refine RG.ot rfl (OT.make (F := boolT) (a0 := false) rfl El148 rfl (by decide) rfl rfl (by omega) (by omega) fun v17 => ?_)
 refine RG.p (PV.asg (v := v17) rfl rfl) (RG.nil (WP.sr (RG.ml rfl (RG.ml rfl (RG.p (PV.build (vs := [(0, [vi _]), (1, [vi _])]) (out := [_, _]) rfl Zr156 Pl156 ⟨rfl, (Cl.c rfl), ⟨rfl, (Cl.c rfl), trivial⟩⟩ rfl) ?_)))))
 refine RG.ot rfl (OT.bslice (F := ptT) (els := [⟨_, _⟩]) rfl El239 rfl (by decide) rfl (by decide) ⟨rfl, (Cl.c rfl), trivial⟩ fun v21 => ?_)
 refine RG.p (PV.asg (v := v21) rfl rfl) (RG.nil (WP.sr (RG.p (PV.move (v := v17) rfl rfl) (RG.ml rfl (RG.ml rfl ?_)))))
 refine RG.callF (vs := [_, _]) rfl rfl En151 rfl (l03At_s (by first | omega | (simp [within, hasI] at hp; omega)) ?_)
 refine RG.p (PV.idxS (j := y.toNat * 80 + x.toNat) (v := v17) rfl Is148 rfl SlF.o rfl (by omega) (by omega)) ?_
 refine RG.ot rfl (OT.storeE (F := boolT) rfl Sz4 rfl rfl rfl (Cl.c rfl) (OneC.c rfl) (by omega) ?_)
 refine RG.nil (WP.seq (WP.sr (RG.mr rfl (RG.nil (WP.block ?_)))))
 refine WP.cv ((Cv.p (C := osl 4 boolT v17 ((List.replicate S.length false).set (y.toNat * 80 + x.toNat) true) :: osl 156 ptT v21 [⟨x - 40, y - 40⟩] :: L)).trans (Cv.cast (L' := osl 4 boolT v17 ((List.replicate 6400 false).set (y.toNat * 80 + x.toNat) true) :: osl 156 ptT v21 ([(x, y)].map ptOf) :: L) (by rw [hS]; rfl))) ?_
 refine WP.loop4 [0, 3, 9] (fun (i : Nat) (Q : List (Int × Int)) (O : List Bool) (qv : Value) => i <= Q.length ∧ FI S (y.toNat, x.toNat) O Q ∧ Done S O Q i ∧ On O (y.toNat, x.toNat)) (fun (i : Nat) (Q : List (Int × Int)) (O : List Bool) (qv : Value) => [(11, vi i), (10, qv)]) (fun (i : Nat) (Q : List (Int × Int)) (O : List Bool) (qv : Value) => osl 4 boolT v17 O :: osl 156 ptT qv (Q.map ptOf) :: L) (fun (i : Nat) (Q : List (Int × Int)) (O : List Bool) (qv : Value) => 6401 - i) 0 [(x, y)] ((List.replicate 6400 false).set (y.toNat * 80 + x.toNat) true) v21 ⟨by simp, hst, fun m hm => by omega, by have := hst.on 0 (by simp); simpa [gd, qc] using this⟩ ⟨rfl, rfl, trivial⟩ Cv.p ?_
 rintro i Q O qv τ ⟨hi, hF, hD, h0⟩
 refine WP.seq (WP.sr (RG.ml rfl (RG.p (PV.move (v := qv) rfl rfl) (RG.p (PV.len (v := qv) rfl Tryz.underlying239 rfl SlF.o) (RG.p (PV.lss rfl rfl rfl) (RG.nil ?_))))))
 have hml : (Q.map ptOf).length = Q.length := by simp
 refine WP.cond rfl (fun h2 => ?_) fun h2 => ?_
 ·have h2 := odt h2
  have hQ := hF.len_le
  have hb := hF.bd i (by omega)
  refine WP.skip (WP.seq (WP.block (WP.sr (RG.mr rfl (RG.nil (WP.block ?_))))))
  refine WP.loop4 [0, 3, 9, 11] (fun (dy : Int) (Q1 : List (Int × Int)) (O1 : List Bool) (qv1 : Value) => (-1 <= dy ∧ dy <= 2) ∧ FI S (y.toNat, x.toNat) O1 Q1 ∧ Done S O1 Q1 i ∧ On O1 (y.toNat, x.toNat) ∧ i < Q1.length ∧ gd Q1 i = gd Q i ∧ Near S O1 (qc (gd Q i)) dy (-1)) (fun (dy : Int) (Q1 : List (Int × Int)) (O1 : List Bool) (qv1 : Value) => [(12, vi dy), (10, qv1)]) (fun (dy : Int) (Q1 : List (Int × Int)) (O1 : List Bool) (qv1 : Value) => osl 4 boolT v17 O1 :: osl 156 ptT qv1 (Q1.map ptOf) :: L) (fun (dy : Int) (Q1 : List (Int × Int)) (O1 : List Bool) (qv1 : Value) => (2 - dy).toNat) (-1) Q O qv ⟨by omega, hF, hD, h0, by omega, rfl, Near.zero _ _ _⟩ ⟨rfl, rfl, trivial⟩ Cv.p ?_
  rintro dy Q1 O1 qv1 τ1 ⟨⟨hy1, hy2⟩, hF1, hD1, h01, hi1, hq1, hN1⟩
  refine WP.seq (WP.sr (RG.ml rfl (RG.p (PV.leq rfl rfl rfl) (RG.nil ?_))))
  refine WP.cond rfl (fun h3 => ?_) fun h3 => ?_
  ·have h3 := odt h3
   refine WP.skip (WP.seq (WP.block (WP.sr (RG.mr rfl (RG.nil (WP.block ?_))))))
   refine WP.loop4 [0, 3, 9, 11, 12] (fun (dx : Int) (Q2 : List (Int × Int)) (O2 : List Bool) (qv2 : Value) => (-1 <= dx ∧ dx <= 2) ∧ FI S (y.toNat, x.toNat) O2 Q2 ∧ Done S O2 Q2 i ∧ On O2 (y.toNat, x.toNat) ∧ i < Q2.length ∧ gd Q2 i = gd Q i ∧ Near S O2 (qc (gd Q i)) dy dx) (fun (dx : Int) (Q2 : List (Int × Int)) (O2 : List Bool) (qv2 : Value) => [(13, vi dx), (10, qv2)]) (fun (dx : Int) (Q2 : List (Int × Int)) (O2 : List Bool) (qv2 : Value) => osl 4 boolT v17 O2 :: osl 156 ptT qv2 (Q2.map ptOf) :: L) (fun (dx : Int) (Q2 : List (Int × Int)) (O2 : List Bool) (qv2 : Value) => (2 - dx).toNat) (-1) Q1 O1 qv1 ⟨by omega, hF1, hD1, h01, hi1, hq1, hN1⟩ ⟨rfl, rfl, trivial⟩ Cv.p ?_
   rintro dx Q2 O2 qv2 τ2 ⟨⟨hx1, hx2⟩, hF2, hD2, h02, hi2, hq2, hN2⟩
   refine WP.seq (WP.sr (RG.ml rfl (RG.p (PV.leq rfl rfl rfl) (RG.nil ?_))))
   have hml2 : (Q2.map ptOf).length = Q2.length := by simp
   refine WP.cond rfl (fun h4 => ?_) fun h4 => ?_
   ·have h4 := odt h4
    have hl2 := hF2.len
    have hQ2 := hF2.len_le
    have hb2 : 0 <= (gd Q2 i).1 ∧ (gd Q2 i).1 < 80 ∧ 0 <= (gd Q2 i).2 ∧ (gd Q2 i).2 < 80 := by rw [hq2]; exact hb
    have e1 : gd (Q2.map ptOf) i = ⟨(gd Q2 i).1 - 40, (gd Q2 i).2 - 40⟩ := gd_pt hi2
    have ex : (gd (Q2.map ptOf) i).x = (gd Q2 i).1 - 40 := by rw [e1]
    have ey : (gd (Q2.map ptOf) i).y = (gd Q2 i).2 - 40 := by rw [e1]
    refine WP.skip (WP.seq (WP.block ?_))
    refine WP.cut1 [0, 3, 9, 10, 11, 12, 13] (fun (b14 : Nat) => True) (fun (b14 : Nat) => [(14, .pointer (some ⟨b14, 0, none⟩))]) (fun (b14 : Nat) => blk b14 156 [vi ((gd Q2 i).1 - 40 + dx), vi ((gd Q2 i).2 - 40 + dy)] :: osl 4 boolT v17 O2 :: osl 156 ptT qv2 (Q2.map ptOf) :: L) ?_ ?_
    refine WP.regionH0 (.q 0 (.q 1 (.q 2 (.q 3 (.q 4 (.q 5 (.q 6 (.q 7 (.q 8 (.q 9 (.q 10 (.q 11 (.q 12 (.q 13 (.q 14 (.l 15 (.l 16 Sch.nil))))))))))))))))) (by kernel_rfl) (by kernel_rfl) (by kernel_rfl) rfl ?_
    refine RH.w rfl rfl (PV.move (v := qv2) rfl rfl) (RH.w rfl rfl (PV.mvI (.inl rfl) rfl) (RH.w rfl rfl (PV.idxS (v := qv2) rfl Is239 rfl SlF.o rfl rfl (by omega)) (RH.w rfl rfl (PV.field rfl Fo156_0 rfl) (RH.w rfl rfl (PV.loadF (v := qv2) (j := 0) rfl Sc2 rfl rfl (El.o (getG (by omega))) rfl) (RH.w rfl rfl (PV.mvI (.inl rfl) rfl) (RH.w rfl rfl (PV.add rfl rfl rfl (by omega)) (RH.w rfl rfl (PV.move (v := qv2) rfl rfl) (RH.w rfl rfl (PV.mvI (.inl rfl) rfl) (RH.w rfl rfl (PV.idxS (v := qv2) rfl Is239 rfl SlF.o rfl rfl (by omega)) (RH.w rfl rfl (PV.field rfl Fo156_1 rfl) (RH.w rfl rfl (PV.loadF rfl Sc2 rfl rfl (El.o (getG (by omega))) rfl) (RH.w rfl rfl (PV.mvI (.inl rfl) rfl) (RH.w rfl rfl (PV.add rfl rfl rfl (by omega)) ?_)))))))))))))
    refine RH.w rfl rfl (PV.build (vs := [(0, [vi _]), (1, [vi _])]) (out := [_, _]) rfl Zr156 Pl156 ⟨rfl, (Cl.c rfl), ⟨rfl, (Cl.c rfl), trivial⟩⟩ rfl) ?_
    refine RH.ot rfl rfl (OT.alloc rfl Zr156 fun b14 => (kp ?_))
    refine RH.ot rfl rfl (OT.storeW (vs := [vi _, vi _]) rfl Sz156 rfl rfl (Cl.c rfl) rfl rfl (OneC.c rfl) (kp ?_))
    refine RH.nil ?_
    ·exact ⟨rfl, b14, trivial, ⟨rfl, trivial⟩, ⟨rfl, rfl, rfl, rfl, rfl, rfl, rfl, trivial⟩, (Cv.p (C := blk b14 156 [vi ((gd (Q2.map ptOf) i).x + dx), vi ((gd (Q2.map ptOf) i).y + dy)] :: osl 4 boolT v17 O2 :: osl 156 ptT qv2 (Q2.map ptOf) :: L)).trans (Cv.cast (by rw [ex, ey]))⟩
    ·have ej : ((gd Q2 i).2 - 40 + dy + 40) * 80 + ((gd Q2 i).1 - 40 + dx) + 40 = ((gd Q2 i).2 + dy) * 80 + ((gd Q2 i).1 + dx) := by omega
     rintro b14 τ3 _
     refine WP.sr (RG.bl rfl (RG.bl rfl ?_))
     refine RG.g rfl (fun hp => (PV.mvI (.inl rfl) rfl)) ?_
     refine RG.g rfl (fun hp => (PV.eql rfl (gt' hp) rfl)) ?_
     refine RG.p (PV.pickO rfl rfl rfl (fun hq => gt' (geqF hq))) (RG.bl rfl ?_)
     refine RG.g rfl (fun hp => (PV.mvI (.inl rfl) rfl)) ?_
     refine RG.g rfl (fun hp => (PV.eql rfl (gt' hp) rfl)) ?_
     refine RG.p (PV.pickO rfl rfl rfl (fun hq => gt' (geqF hq))) (RG.bl rfl ?_)
     refine RG.g rfl (fun hp => (PV.move (v := v) rfl rfl)) ?_
     refine RG.g rfl (fun hp => (PV.field rfl Fo156_0 rfl)) ?_
     refine RG.g rfl (fun hp => (PV.load1 rfl Sc2 (gt' hp) (Rd.blk rfl))) ?_
     refine RG.g rfl (fun hp => (PV.field rfl Fo156_1 rfl)) ?_
     refine RG.g rfl (fun hp => (PV.load1 rfl Sc2 (gt' hp) (Rd.blk rfl))) ?_
     refine RG.gsC rfl rfl rfl rfl En202 (fun hp => ⟨_, (acons (gt' hp) (acons (gt' hp) (acons (gt' hp) anil))), l03Has_s (Rs.up h1) hS ⟨rfl, rfl, rfl⟩⟩) ?_
     refine RG.p (PV.pickA rfl rfl (fun hq => gt' (geqT hq)) rfl) (RG.bl rfl ?_)
     refine RG.g rfl (fun hp => (PV.move (v := v17) rfl rfl)) ?_
     refine RG.g rfl (fun hp => (PV.field rfl Fo156_0 rfl)) ?_
     refine RG.g rfl (fun hp => (PV.load1 rfl Sc2 (gt' hp) (Rd.blk rfl))) ?_
     refine RG.g rfl (fun hp => (PV.field rfl Fo156_1 rfl)) ?_
     refine RG.g rfl (fun hp => (PV.load1 rfl Sc2 (gt' hp) (Rd.blk rfl))) ?_
     refine RG.gsC rfl rfl rfl rfl En151 (fun hp => ⟨_, (acons (gt' hp) (acons (gt' hp) anil)), l03At_s (by first | omega | (simp [within, hasI] at hp; omega)) ⟨rfl, rfl, rfl⟩⟩) ?_
     refine RG.g rfl (fun hp => (PV.idxS (j := ((gd Q2 i).2 + dy).toNat * 80 + ((gd Q2 i).1 + dx).toNat) (v := v17) rfl Is148 (gt' hp) SlF.o (gt' hp) (by first | omega | (simp [within, hasI] at hp; omega)) (by first | omega | (simp [within, hasI] at hp; omega)))) ?_
     refine RG.g rfl (fun hp => (PV.loadE1 rfl Sc4 (gt' hp) rfl (El.o (getG (by first | omega | (simp [within, hasI] at hp; omega)))) rfl)) ?_
     refine RG.g rfl (fun hp => (PV.not rfl (gt' hp))) ?_
     refine RG.p (PV.pickA rfl rfl (fun hq => gt' (geqT hq)) rfl) (RG.nil ?_)
     have hcon : ((((false || decide (dx = 0)) || decide (dy = 0)) && hasI S ((gd Q2 i).1 - 40 + dx) ((gd Q2 i).2 - 40 + dy)) && !gd O2 (((gd Q2 i).2 + dy).toNat * 80 + ((gd Q2 i).1 + dx).toNat)) = true ↔ (dx = 0 ∨ dy = 0) ∧ (0 <= (gd Q2 i).1 + dx ∧ 0 <= (gd Q2 i).2 + dy ∧ (gd Q2 i).1 + dx < 80 ∧ (gd Q2 i).2 + dy < 80) ∧ gb S ((gd Q2 i).2 + dy).toNat ((gd Q2 i).1 + dx).toNat = true ∧ gb O2 ((gd Q2 i).2 + dy).toNat ((gd Q2 i).1 + dx).toNat = false := by
      rw [hasI_at]
      simp only [Bool.and_eq_true, Bool.or_eq_true, decide_eq_true_eq, Bool.not_eq_true', Bool.false_or, gb]
      constructor
      ·rintro ⟨⟨a1, ⟨⟨a2, a3⟩, a4, a5⟩, a6⟩, a7⟩
       rw [show (((gd Q2 i).2 + dy) * 80 + ((gd Q2 i).1 + dx)).toNat = ((gd Q2 i).2 + dy).toNat * 80 + ((gd Q2 i).1 + dx).toNat by omega] at a6
       exact ⟨a1, ⟨a2, a4, a3, a5⟩, a6, a7⟩
      ·rintro ⟨a1, ⟨a2, a4, a3, a5⟩, a6, a7⟩
       rw [show (((gd Q2 i).2 + dy) * 80 + ((gd Q2 i).1 + dx)).toNat = ((gd Q2 i).2 + dy).toNat * 80 + ((gd Q2 i).1 + dx).toNat by omega]
       exact ⟨⟨a1, ⟨⟨a2, a3⟩, a4, a5⟩, a6⟩, a7⟩
     refine WP.cond rfl (fun h5 => ?_) fun h5 => ?_
     ·obtain ⟨a1, ⟨a2, a3, a4, a5⟩, a6, a7⟩ := hcon.1 h5
      refine WP.sr (RG.p (PV.move (v := v17) rfl rfl) (RG.p (PV.field rfl Fo156_0 rfl) (RG.p (PV.load1 rfl Sc2 rfl (Rd.blk rfl)) (RG.p (PV.field rfl Fo156_1 rfl) (RG.p (PV.load1 rfl Sc2 rfl (Rd.blk rfl)) ?_)))))
      refine RG.callF (vs := [_, _]) rfl rfl En151 rfl (l03At_s (by first | omega | (simp [within, hasI] at hp; omega)) ?_)
      refine RG.p (PV.idxS (j := ((gd Q2 i).2 + dy).toNat * 80 + ((gd Q2 i).1 + dx).toNat) (v := v17) rfl Is148 rfl SlF.o rfl (by omega) (by omega)) ?_
      refine RG.ot rfl (OT.storeE (F := boolT) rfl Sz4 rfl rfl rfl (Cl.c rfl) (OneC.c rfl) (by omega) ?_)
      refine RG.nil (WP.region (RG.p (PV.move (v := qv2) rfl rfl) (RG.p (PV.loadW rfl Ag156 rfl rfl) ?_)))
      refine RG.ot rfl (OT.bslice (F := ptT) (els := [⟨_, _⟩]) rfl El239 rfl (by decide) rfl (by decide) ⟨rfl, (Cl.c rfl), trivial⟩ fun v93 => ?_)
      refine RG.ot rfl (OT.append (v := qv2) (u := v93) (F := ptT) rfl El239 rfl (by decide) rfl rfl Rs.o (OneL.c (fun _ => rfl)) rfl (by first | omega | (simp <;> omega)) fun v94 => ?_)
      refine RG.p (PV.asg (v := v94) rfl rfl) (RG.nil (WP.region (RG.ml rfl (RG.p (PV.add rfl rfl rfl (by omega)) (RG.mr rfl (RG.nil ?_))))))
      have ep : ptOf ((gd Q2 i).1 + dx, (gd Q2 i).2 + dy) = ⟨(gd Q2 i).1 - 40 + dx, (gd Q2 i).2 - 40 + dy⟩ := by simp only [ptOf, Pt.mk.injEq]; omega
      exact ⟨rfl, dx + 1, (Q2 ++ [((gd Q2 i).1 + dx, (gd Q2 i).2 + dy)]), (O2.set (((gd Q2 i).2 + dy).toNat * 80 + ((gd Q2 i).1 + dx).toNat) true), v94, ⟨by omega, hF2.add ⟨by omega, by omega⟩ ⟨by omega, by omega⟩ a7 a6 hi2 (adj_near hb2 (by omega) a1 (fun e => by have := (hF2.on i hi2).2.2; simp only [qc] at this; rw [e.1, e.2, Int.add_zero, Int.add_zero, this] at a7; cases a7) a2 a3), hD2.add hi2 (fun c hc => on_set hl2 ⟨by omega, by omega⟩ ⟨by omega, by omega⟩ hc), on_set hl2 ⟨by omega, by omega⟩ ⟨by omega, by omega⟩ h02, by simp; omega, by rw [gd_app_l hi2]; exact hq2, by rw [<- hq2] at hN2 ⊢; exact hN2.take hl2 hb2 (by omega) (by omega)⟩, ⟨rfl, rfl, trivial⟩, ⟨rfl, rfl, rfl, rfl, rfl, trivial⟩, (Cv.p (C := osl 4 boolT v17 (O2.set (((gd Q2 i).2 + dy).toNat * 80 + ((gd Q2 i).1 + dx).toNat) true) :: osl 156 ptT v94 (Q2.map ptOf ++ [⟨(gd Q2 i).1 - 40 + dx, (gd Q2 i).2 - 40 + dy⟩]) :: L)).trans (Cv.cast (by rw [List.map_append, <- ep]; rfl)), by omega⟩
     ·have h6 : (dx ≠ 0 ∧ dy ≠ 0) ∨ (gd Q2 i).1 + dx < 0 ∨ (gd Q2 i).2 + dy < 0 ∨ (gd Q2 i).1 + dx ≥ 80 ∨ (gd Q2 i).2 + dy ≥ 80 ∨ gb S ((gd Q2 i).2 + dy).toNat ((gd Q2 i).1 + dx).toNat = false ∨ gb O2 ((gd Q2 i).2 + dy).toNat ((gd Q2 i).1 + dx).toNat = true := by
       have hn : ¬ _ := fun hh => by rw [hcon.2 hh] at h5; cases h5
       by_cases c1 : dx = 0 ∨ dy = 0
       ·by_cases c2 : 0 <= (gd Q2 i).1 + dx ∧ 0 <= (gd Q2 i).2 + dy ∧ (gd Q2 i).1 + dx < 80 ∧ (gd Q2 i).2 + dy < 80
        ·cases c3 : gb S ((gd Q2 i).2 + dy).toNat ((gd Q2 i).1 + dx).toNat
         ·simp
         ·cases c4 : gb O2 ((gd Q2 i).2 + dy).toNat ((gd Q2 i).1 + dx).toNat
          ·exact absurd ⟨c1, c2, c3, c4⟩ hn
          ·simp
        ·omega
       ·omega
      refine WP.skip (WP.region (RG.ml rfl (RG.p (PV.add rfl rfl rfl (by omega)) (RG.mr rfl (RG.nil ?_)))))
      exact ⟨rfl, dx + 1, Q2, O2, qv2, ⟨by omega, hF2, hD2, h02, hi2, hq2, by rw [<- hq2] at hN2 ⊢; exact hN2.skip hb2 h6⟩, ⟨rfl, rfl, trivial⟩, ⟨rfl, rfl, rfl, rfl, rfl, trivial⟩, Cv.p, by omega⟩
   ·have h4 := odf h4
    refine WP.exit (WP.region (RG.ml rfl (RG.p (PV.add rfl rfl rfl (by omega)) (RG.mr rfl (RG.nil ?_)))))
    exact ⟨rfl, dy + 1, Q2, O2, qv2, ⟨by omega, hF2, hD2, h02, hi2, hq2, by obtain rfl : dx = 2 := (by omega); exact hN2.next⟩, ⟨rfl, rfl, trivial⟩, ⟨rfl, rfl, rfl, rfl, trivial⟩, Cv.p, by omega⟩
  ·have h3 := odf h3
   refine WP.exit (WP.region (RG.ml rfl (RG.p (PV.add rfl rfl rfl (by omega)) (RG.mr rfl (RG.nil ?_)))))
   exact ⟨rfl, i + 1, Q1, O1, qv1, ⟨by omega, hF1, hD1.next (by rw [hq1]) (by obtain rfl : dy = 2 := (by omega); exact hN1), h01⟩, ⟨rfl, rfl, trivial⟩, ⟨rfl, rfl, rfl, trivial⟩, Cv.p, by omega⟩
 ·have h2 := odf h2
  obtain rfl : i = Q.length := by omega
  rw [<- hF.final hseed h0 hD] at k
  refine WP.exit (WP.sr (RG.p (PV.move (v := v17) rfl rfl) (RG.p (PV.asg (v := v17) rfl rfl) (RG.nil ?_))))
  exact WP.ret ⟨_, _, rv rfl rfl, Cv.p, k v17⟩
def leftB (S D : List Bool) : List Bool := zipB (fun p q => p && !q) S D
theorem gb_left {S D : List Bool} (hS : S.length = 6400) (hD : D.length = 6400) {y x : Nat} (hy : y < 80) (hx : x < 80) : gb (leftB S D) y x = (gb S y x && !gb D y x) := gb_zip hS hD hy hx
theorem leftB_len {S D : List Bool} (hS : S.length = 6400) (hD : D.length = 6400) : (leftB S D).length = 6400 := zipB_len hS hD
theorem flood7n_s {v : Value} {S : List Bool} {x y : Nat} (h1 : Rs G L boolT v S) (hS : S.length = 6400) (hx : x < 80) (hy : y < 80) (hon : gb S y x = true)
  (k : ∀ v', R v' G (osl 4 boolT v' (compB S (y, x)) :: L)) : CallT Tryz.prog 208 #[v, vi ((x : Int) - 40), vi ((y : Int) - 40), .bool false] G L R :=
 flood7_s (x := (x : Int)) (y := (y : Int)) h1 hS (by omega) (by omega) (by rw [Int.toNat_natCast, Int.toNat_natCast]; exact hon) (by rw [Int.toNat_natCast, Int.toNat_natCast]; exact k)
theorem parts7_s {v : Value} {S : List Bool} (h1 : Rs G L boolT v S) (hS : S.length = 6400) (k : ∀ v' zs, er zs = comps S -> R v' G (osl 148 slT v' zs :: bagS 4 boolT zs :: L)) : CallT Tryz.prog 168 #[v, .bool false] G L R := by
 have hrl : (List.replicate S.length false).length = 6400 := by simp [hS]
 have hl0 : leftB S (List.replicate 6400 false) = S := gb_ext (leftB_len hS List.length_replicate) hS fun y x hy hx => by
  rw [gb_left hS List.length_replicate hy hx, gb_rep']; simp
 refine CallT.enter (args := _) Tryz.func168 rfl rfl (by kernel_rfl) rfl ?_
 refine WP.sr (RG.p (PV.asg rfl rfl) (RG.nil (WP.sr ?_)))
 refine RG.ot rfl (OT.bslice (F := (slT (α := Bool))) (els := []) rfl El194 rfl (by decide) rfl (by decide) trivial fun v10 => ?_)
 refine RG.p (PV.asg (v := v10) rfl rfl) (RG.nil (WP.sr (RG.p (PV.move (v := v) rfl rfl) (RG.p (PV.len (v := v) rfl Tryz.underlying148 rfl (SlF.r h1)) ?_))))
 refine RG.ot rfl (OT.make (F := boolT) (a0 := false) rfl El148 rfl (by decide) rfl rfl (by omega) (by omega) fun v13 => ?_)
 refine RG.p (PV.asg (v := v13) rfl rfl) (RG.nil (WP.seq (WP.sr (RG.mr rfl (RG.nil (WP.block ?_))))))
 refine WP.cv (((Cv.p (C := osl 148 slT v10 ([] : List (Sl Bool)) :: osl 4 boolT v13 (List.replicate S.length false) :: L)).trans (Cv.cons (Cv.bag0 (e := 4) (F := boolT) (xs := []) rfl)))) ?_
 refine WP.loop5 [0, 1] (fun (yy : Int) (D : List Bool) (zs : List (Sl Bool)) (q : Value) (dv : Value) => (-40 <= yy ∧ yy <= 40) ∧ D.length = 6400 ∧ PI id S ((yy + 40).toNat * 80) (leftB S D) (er zs)) (fun (yy : Int) (D : List Bool) (zs : List (Sl Bool)) (q : Value) (dv : Value) => [(7, vi yy), (5, q), (6, dv)]) (fun (yy : Int) (D : List Bool) (zs : List (Sl Bool)) (q : Value) (dv : Value) => osl 148 slT q zs :: bagS 4 boolT zs :: osl 4 boolT dv D :: L) (fun (yy : Int) (D : List Bool) (zs : List (Sl Bool)) (q : Value) (dv : Value) => (40 - yy).toNat) (-40) (List.replicate S.length false) [] v10 v13 ⟨by omega, hrl, by rw [hS, hl0]; exact PI.start hS⟩ ⟨rfl, rfl, rfl, trivial⟩ Cv.p ?_
 rintro yy D zs q dv τ ⟨hy, hDl, hP⟩
 refine WP.seq (WP.sr (RG.ml rfl (RG.p (PV.lss rfl rfl rfl) (RG.nil ?_))))
 obtain ⟨y, rfl⟩ : ∃ n : Nat, yy = (n : Int) - 40 := ⟨(yy + 40).toNat, by omega⟩
 rw [show ((y : Int) - 40 + 40).toNat = y by omega] at hP
 refine WP.cond rfl (fun h2 => ?_) fun h2 => ?_
 ·have h2 := odt h2
  refine WP.skip (WP.seq (WP.block (WP.sr (RG.mr rfl (RG.nil (WP.block ?_))))))
  refine WP.loop5 [0, 1, 7] (fun (xx : Int) (D1 : List Bool) (zs1 : List (Sl Bool)) (q1 : Value) (dv1 : Value) => (-40 <= xx ∧ xx <= 40) ∧ D1.length = 6400 ∧ PI id S (y * 80 + (xx + 40).toNat) (leftB S D1) (er zs1)) (fun (xx : Int) (D1 : List Bool) (zs1 : List (Sl Bool)) (q1 : Value) (dv1 : Value) => [(8, vi xx), (5, q1), (6, dv1)]) (fun (xx : Int) (D1 : List Bool) (zs1 : List (Sl Bool)) (q1 : Value) (dv1 : Value) => osl 148 slT q1 zs1 :: bagS 4 boolT zs1 :: osl 4 boolT dv1 D1 :: L) (fun (xx : Int) (D1 : List Bool) (zs1 : List (Sl Bool)) (q1 : Value) (dv1 : Value) => (40 - xx).toNat) (-40) D zs q dv ⟨by omega, hDl, by rw [show ((-40 : Int) + 40).toNat = 0 from rfl]; exact hP⟩ ⟨rfl, rfl, rfl, trivial⟩ Cv.p ?_
  rintro xx D1 zs1 q1 dv1 τ1 ⟨hx, hDl, hP1⟩
  refine WP.seq (WP.sr (RG.ml rfl (RG.p (PV.lss rfl rfl rfl) (RG.nil ?_))))
  obtain ⟨x, rfl⟩ : ∃ n : Nat, xx = (n : Int) - 40 := ⟨(xx + 40).toNat, by omega⟩
  rw [show ((x : Int) - 40 + 40).toNat = x by omega] at hP1
  refine WP.cond rfl (fun h3 => ?_) fun h3 => ?_
  ·have h3 := odt h3
   have hzl : zs1.length <= y * 80 + x := by
    have := congrArg List.length hP1.er
    have h1 := firsts_len S (y * 80 + x)
    rw [er_len, List.length_map] at this; omega
   have e1 : (y * 80 + x) / 80 = y := by omega
   have e2 : (y * 80 + x) % 80 = x := by omega
   have e3 : cel (y * 80 + x) = (y, x) := by rw [cel, e1, e2]
   have e4 : ((x : Int) - 40 + 1 + 40).toNat = x + 1 := by omega
   have hg := gb_left hS hDl (y := y) (x := x) (by omega) (by omega)
   refine WP.skip (WP.seq (WP.block (WP.sr (RG.p (PV.move (v := v) rfl rfl) (RG.ml rfl (RG.ml rfl ?_))))))
   refine RG.callF (vs := [_, _]) rfl rfl En151 rfl (l03At_s (by first | omega | (simp at hp; omega)) ?_)
   refine RG.p (PV.idxS (j := y * 80 + x) (v := v) rfl Is148 rfl (SlF.r h1) rfl (by omega) (by omega)) (RG.p (PV.loadE1 rfl Sc4 rfl rfl (El.r h1 (getG (by omega))) rfl) (RG.bl rfl ?_))
   refine RG.g rfl (fun hp => (PV.move (v := dv1) rfl rfl)) ?_
   refine RG.g rfl (fun hp => (PV.mvI (.inl rfl) rfl)) ?_
   refine RG.g rfl (fun hp => (PV.mvI (.inl rfl) rfl)) ?_
   refine RG.gsC rfl rfl rfl rfl En151 (fun hp => ⟨_, (acons (gt' hp) (acons (gt' hp) anil)), l03At_s (by first | omega | (simp at hp; omega)) ⟨rfl, rfl, rfl⟩⟩) ?_
   refine RG.g rfl (fun hp => (PV.idxS (j := y * 80 + x) (v := dv1) rfl Is148 (gt' hp) SlF.o (gt' hp) (by first | omega | (simp [within, hasI] at hp; omega)) (by first | omega | (simp [within, hasI] at hp; omega)))) ?_
   refine RG.g rfl (fun hp => (PV.loadE1 rfl Sc4 (gt' hp) rfl (El.o (getG (by first | omega | (simp [within, hasI] at hp; omega)))) rfl)) ?_
   refine RG.g rfl (fun hp => (PV.not rfl (gt' hp))) ?_
   refine RG.p (PV.pickA rfl rfl (fun hq => gt' (geqT hq)) rfl) (RG.nil ?_)
   refine WP.cond rfl (fun h4 => ?_) fun h4 => ?_
   ·have h6 : gb (leftB S D1) y x = true := by rw [hg]; exact h4
    have h5 : gb S y x = true := by rw [hg, Bool.and_eq_true] at h6; exact h6.1
    refine WP.sr (RG.p (PV.move (v := v) rfl rfl) (RG.ml rfl (RG.ml rfl (RG.bl rfl ?_))))
    refine RG.callF (vs := [v, _, _, _]) rfl rfl En208 rfl (flood7n_s (Rs.up h1) hS (by omega) (by omega) h5 (fun v41 => ?_))
    refine RG.p (PV.asg (v := v41) rfl rfl) (RG.nil (WP.sr (RG.p (PV.move (v := dv1) rfl rfl) (RG.p (PV.move (v := v41) rfl rfl) ?_))))
    refine RG.callF (vs := [dv1, v41, _]) rfl rfl En209 rfl (l04Combine_s Rs.o Rs.o hDl (compB_len _ _) (by omega) (fun v44 => ?_))
    refine RG.p (PV.asg (v := v44) rfl rfl) (RG.nil (WP.region (RG.p (PV.move (v := q1) rfl rfl) (RG.p (PV.move (v := v41) rfl rfl) ?_))))
    refine RG.ot rfl (OT.bslice (F := (slT (α := Bool))) (els := [⟨v41, compB S (y, x)⟩]) rfl El194 rfl (by decide) rfl (by decide) ⟨rfl, (Cl.s (v := v41) SlF.o), trivial⟩ fun v47 => ?_)
    refine RG.ot rfl (OT.append (v := q1) (u := v47) (F := (slT (α := Bool))) rfl El194 rfl (by decide) rfl rfl Rs.o (OneL.one (OneC.sl SlF.o OneC.nil)) rfl (by first | omega | (simp <;> omega)) fun v48 => ?_)
    refine RG.p (PV.asg (v := v48) rfl rfl) (RG.nil (WP.region (RG.ml rfl (RG.p (PV.add rfl rfl rfl (by omega)) (RG.mr rfl (RG.nil ?_))))))
    have hcm := hP1.comp (n := y * 80 + x) (by omega) (by rw [e1, e2]; exact h6)
    rw [e3] at hcm
    refine ⟨rfl, (x : Int) - 40 + 1, (zipB (opF 14) D1 (compB S (y, x))), (zs1 ++ [⟨v41, compB S (y, x)⟩]), v48, v44, ⟨by omega, zipB_len hDl (compB_len _ _), ?_⟩, ⟨rfl, rfl, rfl, trivial⟩, ⟨rfl, rfl, rfl, trivial⟩, ((Cv.p (C := osl 4 boolT v41 (compB S (y, x)) :: bagS 4 boolT zs1 :: osl 148 slT v48 (zs1 ++ [⟨v41, compB S (y, x)⟩]) :: osl 4 boolT v44 (zipB (opF 14) D1 (compB S (y, x))) :: L)).trans (Cv.bagS_add.trans Cv.p)), by omega⟩
    rw [e4, er, List.map_append]
    have hk := hP1.take (T' := leftB S (zipB (opF 14) D1 (compB S (y, x)))) (n := y * 80 + x) (by omega) (by rw [e1, e2]; exact h6) (leftB_len hS (zipB_len hDl (compB_len _ _))) (fun y' x' hy' hx' => by
     rw [gb_left hS (zipB_len hDl (compB_len _ _)) hy' hx', gb_left hS hDl hy' hx', gb_zip hDl (compB_len _ _) hy' hx', e3, hcm, show ∀ a b : Bool, opF 14 a b = (a || b) by decide]
     cases gb S y' x' <;> cases gb D1 y' x' <;> simp)
    rw [e3, hcm] at hk
    exact hk
   ·have h6 : gb (leftB S D1) y x = false := by rw [hg]; exact h4
    refine WP.skip (WP.region (RG.ml rfl (RG.p (PV.add rfl rfl rfl (by omega)) (RG.mr rfl (RG.nil ?_)))))
    exact ⟨rfl, (x : Int) - 40 + 1, D1, zs1, q1, dv1, ⟨by omega, hDl, by rw [e4]; exact hP1.skip (by omega) (by rw [e1, e2]; exact h6)⟩, ⟨rfl, rfl, rfl, trivial⟩, ⟨rfl, rfl, rfl, trivial⟩, Cv.p, by omega⟩
  ·have h3 := odf h3
   obtain rfl : x = 80 := by omega
   refine WP.exit (WP.region (RG.ml rfl (RG.p (PV.add rfl rfl rfl (by omega)) (RG.mr rfl (RG.nil ?_)))))
   exact ⟨rfl, (y : Int) - 40 + 1, D1, zs1, q1, dv1, ⟨by omega, hDl, by rw [show ((y : Int) - 40 + 1 + 40).toNat = y + 1 by omega, Nat.add_mul]; exact hP1⟩, ⟨rfl, rfl, rfl, trivial⟩, ⟨rfl, rfl, trivial⟩, Cv.p, by omega⟩
 ·have h2 := odf h2
  obtain rfl : y = 80 := by omega
  have hz := hP.all
  refine WP.exit (WP.sr (RG.p (PV.move (v := q) rfl rfl) (RG.p (PV.asg (v := q) rfl rfl) (RG.nil ?_))))
  exact WP.ret ⟨_, _, rv rfl rfl, Cv.p, k q zs hz⟩
theorem comps7_s {v : Value} {xs : List Rect} (h1 : Rs G L rectT v xs) (hv : validRs xs = true) (k : ∀ v' zs, er zs = partsL (bits xs) -> R v' G (osl 50 slT v' zs :: bagS 101 rectT zs :: L)) : CallT Tryz.prog 110 #[v] G L R := by
 refine CallT.enter (args := _) Tryz.func110 rfl rfl (by kernel_rfl) rfl ?_
 refine WP.sr (RG.p (PV.asg rfl rfl) (RG.nil (WP.sr ?_)))
 refine RG.ot rfl (OT.bslice (F := (slT (α := Rect))) (els := []) rfl El35 rfl (by decide) rfl (by decide) trivial fun v6 => ?_)
 refine RG.p (PV.asg (v := v6) rfl rfl) (RG.nil (WP.sr (RG.p (PV.move (v := v) rfl rfl) ?_)))
 refine RG.callF (vs := [v]) rfl rfl En104 rfl (l03Bits_s (Rs.up h1) (fun j hj => valid_get hv hj) (fun v8 => ?_))
 refine RG.callF (vs := [v8, _]) rfl rfl En168 rfl (parts7_s Rs.o (bits_length _) (fun v9 zsv9 hev9 => ?_))
 refine RG.p (PV.asg (v := v9) rfl rfl) (RG.nil (WP.seq (WP.sr (RG.mr rfl (RG.nil (WP.block ?_))))))
 have hzl : zsv9.length <= 6400 := by
  have := congrArg List.length hev9
  have h2 := comps_len (bits xs)
  rw [er_len] at this; omega
 refine WP.cv (((Cv.p (C := osl 50 slT v6 ([] : List (Sl Rect)) :: osl 148 slT v9 zsv9 :: bagS 4 boolT zsv9 :: L)).trans (Cv.cons (Cv.bag0 (e := 101) (F := rectT) (xs := []) rfl)))) ?_
 refine WP.loop3 [4] (fun (i : Nat) (ys : List (Sl Rect)) (q : Value) => i <= zsv9.length ∧ er ys = ((er zsv9).take i).map canon) (fun (i : Nat) (ys : List (Sl Rect)) (q : Value) => [(5, vi i), (3, q)]) (fun (i : Nat) (ys : List (Sl Rect)) (q : Value) => osl 50 slT q ys :: bagS 101 rectT ys :: osl 148 slT v9 zsv9 :: bagS 4 boolT zsv9 :: L) (fun (i : Nat) (ys : List (Sl Rect)) (q : Value) => zsv9.length - i) 0 [] v6 ⟨by omega, rfl⟩ ⟨rfl, rfl, trivial⟩ Cv.p ?_
 rintro i ys q τ ⟨hi, hys⟩
 refine WP.seq (WP.sr (RG.ml rfl (RG.p (PV.move (v := v9) rfl rfl) (RG.p (PV.len (v := v9) rfl Tryz.underlying194 rfl SlF.o) (RG.p (PV.lss rfl rfl rfl) (RG.nil ?_))))))
 have hyl : ys.length = i := by
  have := congrArg List.length hys
  rw [er_len, List.length_map, List.length_take, er_len] at this; omega
 refine WP.cond rfl (fun h3 => ?_) fun h3 => ?_
 ·have h3 := odt h3
  have hci : (gd zsv9 i).xs.length = 6400 := by
   have e : (gd zsv9 i).xs ∈ comps (bits xs) := by rw [<- hev9, <- er_gd]; rw [gd_eq (by rw [er_len]; omega)]; exact List.getElem_mem _
   obtain ⟨j0, _, e2⟩ := List.mem_map.1 e
   rw [<- e2]; exact compB_len _ _
  refine WP.skip (WP.seq (WP.block (WP.region (RG.p (PV.move (v := q) rfl rfl) (RG.p (PV.move (v := v9) rfl rfl) (RG.ml rfl (RG.p (PV.idxS (v := v9) rfl Is194 rfl SlF.o rfl rfl (by omega)) (RG.p (PV.loadE1 rfl Sc148 rfl rfl (El.o (getG (by omega))) rfl) ?_))))))))
  refine RG.callF (vs := [_]) rfl rfl En103 rfl (l03Canon_s (Rs.inBag (xs := zsv9) i (by omega)) hci (fun v21 => ?_))
  refine RG.ot rfl (OT.bslice (F := (slT (α := Rect))) (els := [⟨v21, canon (gd zsv9 i).xs⟩]) rfl El35 rfl (by decide) rfl (by decide) ⟨rfl, (Cl.s (v := v21) SlF.o), trivial⟩ fun v22 => ?_)
  refine RG.ot rfl (OT.append (v := q) (u := v22) (F := (slT (α := Rect))) rfl El35 rfl (by decide) rfl rfl Rs.o (OneL.one (OneC.sl SlF.o OneC.nil)) rfl (by first | omega | (simp <;> omega)) fun v23 => ?_)
  refine RG.p (PV.asg (v := v23) rfl rfl) (RG.nil (WP.region (RG.ml rfl (RG.p (PV.add rfl rfl rfl (by omega)) (RG.mr rfl (RG.nil ?_))))))
  refine ⟨rfl, i + 1, (ys ++ [⟨v21, canon (gd zsv9 i).xs⟩]), v23, ⟨by omega, ?_⟩, ⟨rfl, rfl, trivial⟩, ⟨rfl, trivial⟩, ((Cv.p (C := osl 101 rectT v21 (canon (gd zsv9 i).xs) :: bagS 101 rectT ys :: osl 50 slT v23 (ys ++ [⟨v21, canon (gd zsv9 i).xs⟩]) :: osl 148 slT v9 zsv9 :: bagS 4 boolT zsv9 :: L)).trans (Cv.bagS_add.trans Cv.p)), by omega⟩
  rw [List.take_add_one, getG (by rw [er_len]; omega), List.map_append, <- hys, er_gd, er, List.map_append]; rfl
 ·have h3 := odf h3
  rw [List.take_of_length_le (by rw [er_len]; omega), hev9] at hys
  refine WP.exit (WP.sr (RG.p (PV.move (v := q) rfl rfl) (RG.p (PV.asg (v := q) rfl rfl) (RG.nil ?_))))
  exact WP.ret ⟨_, _, rv rfl rfl, Cv.p, k q ys hys⟩
def mks (xs : List Viol) : List (Sl Rect) := xs.map Viol.marker
def erV (p : Viol) : Int × List Rect := (p.rule, p.marker.xs)
def erVs (xs : List Viol) : List (Int × List Rect) := xs.map erV
theorem erVs_len (xs : List Viol) : (erVs xs).length = xs.length := by simp [erVs]
theorem mks_app (xs ys : List Viol) : mks (xs ++ ys) = mks xs ++ mks ys := by simp [mks]
theorem erVs_app (xs ys : List Viol) : erVs (xs ++ ys) = erVs xs ++ erVs ys := by simp [erVs]
theorem gd_apq {α : Type} [Inhabited α] (xs ys : List α) (m : Nat) : gd (xs ++ ys) (xs.length + m) = gd ys m := by
 unfold gd; rw [List.getElem?_append_right (by omega), Nat.add_sub_cancel_left]
noncomputable def chkTo (l : List (List Rect)) (rs : List Rule) (i : Nat) : List (Int × List Rect) := (List.range i).flatMap fun j => (partsL (bits (rmE l (gd rs j)))).map fun p => ((j : Int), p)
theorem chkTo_succ (l : List (List Rect)) (rs : List Rule) (i : Nat) : chkTo l rs (i + 1) = chkTo l rs i ++ (partsL (bits (rmE l (gd rs i)))).map fun p => ((i : Int), p) := by
 rw [chkTo, chkTo, List.range_succ, List.flatMap_append]; simp
theorem check_s {v : Value} {ys : List (Sl Rect)} {d : Deck} (h1 : Rs G L slT v ys) (hd : RsE G L rectT ys) (h2 : Rs G L ruleT d.rules.v d.rules.xs) (hl : d.rules.xs.length <= 1000) (k : ∀ v' zs, erVs zs = chkTo (er ys) d.rules.xs d.rules.xs.length -> R (.tuple #[v', .bool (decide ((zs.length : Int) <= 256))]) G (osl 74 violT v' zs :: bagS 101 rectT (mks zs) :: L)) : CallT Tryz.prog 64 #[v, vT deckT d] G L R := by
 refine CallT.enter (args := _) Tryz.func64 rfl rfl (by kernel_rfl) rfl ?_
 refine WP.sr ?_
 refine RG.ot rfl (OT.box (cs := deckT.enc d) rfl rfl rfl fun b3 => ?_)
 refine RG.p (PV.asg rfl rfl) (RG.br rfl (RG.nil (WP.sr ?_)))
 refine RG.ot rfl (OT.bslice (F := violT) (els := []) rfl El32 rfl (by decide) rfl (by decide) trivial fun v10 => ?_)
 refine RG.p (PV.asg (v := v10) rfl rfl) (RG.nil (WP.seq (WP.sr (RG.mr rfl (RG.nil (WP.block ?_))))))
 refine WP.cv ((Cv.p (C := osl 74 violT v10 ([] : List Viol) :: blk b3 29 (deckT.enc d) :: L)).trans (Cv.cons (Cv.bag0 (e := 101) (F := rectT) (xs := mks []) rfl))) ?_
 refine WP.loop3 [0, 3] (fun (i : Nat) (out : List Viol) (q : Value) => i <= d.rules.xs.length ∧ out.length <= i * 6400 ∧ erVs out = chkTo (er ys) d.rules.xs i) (fun (i : Nat) (out : List Viol) (q : Value) => [(7, vi i), (6, q)]) (fun (i : Nat) (out : List Viol) (q : Value) => osl 74 violT q out :: bagS 101 rectT (mks out) :: blk b3 29 (deckT.enc d) :: L) (fun (i : Nat) (out : List Viol) (q : Value) => d.rules.xs.length - i) 0 [] v10 ⟨by omega, by simp, rfl⟩ ⟨rfl, rfl, trivial⟩ Cv.p ?_
 rintro i out q τ ⟨hi, hol, hev⟩
 refine WP.seq (WP.sr (RG.ml rfl (RG.p (PV.field rfl Fo29_0 rfl) (RG.p (PV.load1 rfl Sc27 rfl (Rd.blk rfl)) (RG.p (PV.len rfl Tryz.underlying27 rfl (SlF.r h2)) (RG.p (PV.lss rfl rfl rfl) (RG.nil ?_)))))))
 refine WP.cond rfl (fun h3 => ?_) fun h3 => ?_
 ·have h3 := odt h3
  refine WP.skip (WP.seq (WP.block (WP.sr (RG.p (PV.move (v := v) rfl rfl) (RG.p (PV.field rfl Fo29_0 rfl) (RG.p (PV.load1 rfl Sc27 rfl (Rd.blk rfl)) (RG.ml rfl (RG.p (PV.idxS rfl Is27 rfl (SlF.r h2) rfl rfl (by omega)) (RG.p (PV.loadE rfl Ag42 rfl rfl (El.r h2 (getG (by omega)))) ?_)))))))))
  refine RG.callF (vs := [v, _]) rfl rfl En111 rfl (rule_s (Rs.up h1) hd.up (fun v24 => ?_))
  refine RG.callF (vs := [v24]) rfl rfl En110 rfl (comps7_s Rs.o (isReg_valid (rmE_reg _ _)) (fun v25 psv25 hpv25 => ?_))
  refine RG.p (PV.asg (v := v25) rfl rfl) (RG.nil (WP.sr (RG.mr rfl (RG.nil (WP.block ?_)))))
  have hpl : psv25.length <= 6400 := by have := congrArg List.length hpv25; rw [er_len] at this; rw [this, partsL, List.length_map]; exact comps_len _
  have hps : ∀ m, m < psv25.length -> Rs G [bagS 101 rectT (mks out ++ psv25)] rectT (gd psv25 m).v (gd psv25 m).xs := fun m hm => by
   have := Rs.inBag (G := G) (L := [bagS 101 rectT (mks out ++ psv25)]) (L' := []) (e := 101) (F := rectT) (xs := mks out ++ psv25) ((mks out).length + m) (by simp; omega)
   rwa [gd_apq] at this
  refine WP.cv ((Cv.p (C := bagS 101 rectT (mks out) :: bagS 101 rectT psv25 :: osl 74 violT q out :: osl 50 slT v25 psv25 :: blk b3 29 (deckT.enc d) :: L)).trans Cv.bagJoin) ?_
  refine WP.loop3 [0, 3, 7, 8] (fun (m : Nat) (out2 : List Viol) (q2 : Value) => m <= psv25.length ∧ out2.length = out.length + m ∧ mks out2 ++ psv25.drop m = mks out ++ psv25 ∧ erVs out2 = erVs out ++ ((er psv25).take m).map (fun p => ((i : Int), p))) (fun (m : Nat) (out2 : List Viol) (q2 : Value) => [(9, vi m), (6, q2)]) (fun (m : Nat) (out2 : List Viol) (q2 : Value) => bagS 101 rectT (mks out ++ psv25) :: osl 74 violT q2 out2 :: osl 50 slT v25 psv25 :: blk b3 29 (deckT.enc d) :: L) (fun (m : Nat) (out2 : List Viol) (q2 : Value) => psv25.length - m) 0 out q ⟨by omega, by omega, rfl, by simp⟩ ⟨rfl, rfl, trivial⟩ Cv.p ?_
  rintro m out2 q2 τ1 ⟨hm, hol2, heq, hev2⟩
  refine WP.seq (WP.sr (RG.ml rfl (RG.p (PV.move (v := v25) rfl rfl) (RG.p (PV.len (v := v25) rfl Tryz.underlying35 rfl SlF.o) (RG.p (PV.lss rfl rfl rfl) (RG.nil ?_))))))
  refine WP.cond rfl (fun h4 => ?_) fun h4 => ?_
  ·have h4 := odt h4
   have h40 : m < psv25.length := by omega
   have hpm := hps m h40
   have heq' : mks (out2 ++ [⟨(i : Int), gd psv25 m⟩]) ++ psv25.drop (m + 1) = mks out ++ psv25 := by
    rw [mks_app, List.append_assoc, <- heq, List.drop_eq_getElem_cons h40, gd_eq h40]; rfl
   have hev3 : erVs (out2 ++ [⟨(i : Int), gd psv25 m⟩]) = erVs out ++ ((er psv25).take (m + 1)).map (fun p => ((i : Int), p)) := by
    rw [erVs_app, hev2, List.take_add_one, getG (by rw [er_len]; exact h40), er_gd, List.append_assoc, List.map_append]; rfl
   refine WP.skip (WP.seq (WP.block (WP.region (RG.p (PV.move (v := q2) rfl rfl) (RG.ml rfl (RG.p (PV.move (v := v25) rfl rfl) (RG.ml rfl (RG.p (PV.idxS (v := v25) rfl Is35 rfl SlF.o rfl rfl (by omega)) (RG.p (PV.loadE1 rfl Sc50 rfl rfl (El.o (getG (by omega))) rfl) (RG.p (PV.build (vs := [(0, [vi _]), (1, [_])]) (out := [_, _]) rfl Zr74 Pl74 ⟨rfl, (Cl.c rfl), ⟨rfl, (Cl.s (SlF.r hpm)), trivial⟩⟩ rfl) ?_))))))))))
   refine RG.ot rfl (OT.bslice (F := violT) (els := [⟨(i : Int), gd psv25 m⟩]) rfl El32 rfl (by decide) rfl (by decide) ⟨rfl, (Cl.c rfl), trivial⟩ fun v39 => ?_)
   refine RG.ot rfl (OT.append (v := q2) (u := v39) (F := violT) rfl El32 rfl (by decide) rfl rfl Rs.o (OneL.one (OneC.val rfl (OneC.sl (SlF.r hpm) OneC.nil))) rfl (by first | omega | (simp <;> omega)) fun v40 => ?_)
   refine RG.p (PV.asg (v := v40) rfl rfl) (RG.nil (WP.region (RG.ml rfl (RG.p (PV.add rfl rfl rfl (by omega)) (RG.mr rfl (RG.nil ?_))))))
   exact ⟨rfl, m + 1, (out2 ++ [⟨(i : Int), gd psv25 m⟩]), v40, ⟨by omega, by simp; omega, heq', hev3⟩, ⟨rfl, rfl, trivial⟩, ⟨rfl, rfl, rfl, rfl, trivial⟩, Cv.p, by omega⟩
  ·have h4 := odf h4
   obtain rfl : m = psv25.length := by omega
   rw [List.drop_length, List.append_nil] at heq
   rw [List.take_of_length_le (by rw [er_len]; omega), hpv25, hev, <- chkTo_succ] at hev2
   refine WP.exit (WP.region (RG.ml rfl (RG.p (PV.add rfl rfl rfl (by omega)) (RG.mr rfl (RG.nil ?_)))))
   exact ⟨rfl, i + 1, out2, q2, ⟨by omega, by omega, hev2⟩, ⟨rfl, rfl, trivial⟩, ⟨rfl, rfl, trivial⟩, (by simp only [heq]; exact Cv.p), by omega⟩
 ·have h3 := odf h3
  obtain rfl : i = d.rules.xs.length := by omega
  refine WP.exit (WP.sr (RG.p (PV.move (v := q) rfl rfl) (RG.p (PV.move (v := q) rfl rfl) (RG.p (PV.len (v := q) rfl Tryz.underlying32 rfl SlF.o) (RG.p (PV.leq rfl rfl rfl) (RG.p (PV.asg (v := q) rfl rfl) (RG.br rfl (RG.nil ?_))))))))
  exact WP.ret ⟨_, _, ResV.two rfl rfl rfl, Cv.p, k q out hev⟩
noncomputable def chkL (l : List (List Rect)) (rs : List Rule) : List (Int × List Rect) := chkTo l rs rs.length
noncomputable def chkE (l : List (List Rect)) (rs : List Rule) : Int := if (isLay l && deckOk rs) = true then (if (chkL l rs).length <= 256 then 0 else 3) else 1
noncomputable def chkR (l : List (List Rect)) (rs : List Rule) : List (Int × List Rect) := if chkE l rs = 0 then chkL l rs else []
theorem chkE_no {l : List (List Rect)} {rs : List Rule} (h : (!isLay l || !deckOk rs) = true) : chkE l rs = 1 ∧ chkR l rs = [] := by
 have : chkE l rs = 1 := by rw [chkE, if_neg]; intro h2; cases c : isLay l <;> cases d : deckOk rs <;> simp_all
 exact ⟨this, by rw [chkR, this, if_neg (by decide)]⟩
theorem chkE_big {l : List (List Rect)} {rs : List Rule} (h : isLay l = true ∧ deckOk rs = true) (h2 : ¬ (chkL l rs).length <= 256) : chkE l rs = 3 ∧ chkR l rs = [] := by
 have : chkE l rs = 3 := by rw [chkE, if_pos (by rw [h.1, h.2]; rfl), if_neg h2]
 exact ⟨this, by rw [chkR, this, if_neg (by decide)]⟩
theorem chkE_ok {l : List (List Rect)} {rs : List Rule} (h : isLay l = true ∧ deckOk rs = true) (h2 : (chkL l rs).length <= 256) : chkE l rs = 0 ∧ chkR l rs = chkL l rs := by
 have : chkE l rs = 0 := by rw [chkE, if_pos (by rw [h.1, h.2]; rfl), if_pos h2]
 exact ⟨this, by rw [chkR, this, if_pos rfl]⟩
theorem Cv.nilV {M : List Ch} {e e' : TypeId} [p : PickC L M] : Cv M (osl e violT (.slice none 0 0) ([] : List Viol) :: bagS e' rectT (mks []) :: L) := (Cv.pick p.pick).trans ((Cv.bag0 (xs := mks []) rfl).trans Cv.nilS)
theorem chkLay_r {v : Value} {ys : List (Sl Rect)} {d : Deck} (h1 : Rs G L slT v ys) (hd : RsE G L rectT ys) (h2 : Rs G L ruleT d.rules.v d.rules.xs) (k : ∀ v' zs, erVs zs = chkR (er ys) d.rules.xs -> R (.tuple #[v', vi (chkE (er ys) d.rules.xs)]) G (osl 74 violT v' zs :: bagS 101 rectT (mks zs) :: L)) : CallT Tryz.prog 29 #[v, vT deckT d] G L R := by
 refine CallT.enter (args := _) Tryz.func29 rfl rfl (by kernel_rfl) rfl ?_
 refine WP.sr ?_
 refine RG.ot rfl (OT.box (cs := deckT.enc d) rfl rfl rfl fun b3 => ?_)
 refine RG.p (PV.asg rfl rfl) (RG.mr rfl (RG.nil (WP.seq (WP.sr (RG.p (PV.move (v := v) rfl rfl) ?_)))))
 refine RG.callF (vs := [v]) rfl rfl En62 rfl (isLayoutS_s (Rs.up h1) hd.up ?_)
 refine RG.p (PV.not rfl rfl) (RG.bl rfl ?_)
 refine RG.g rfl (fun hp => (PV.loadW rfl Ag29 rfl rfl)) ?_
 refine RG.gsC rfl rfl rfl rfl En63 (fun hp => ⟨_, (acons (gt' hp) anil), deck_r (Rs.up h2) ⟨rfl, rfl, rfl⟩⟩) ?_
 refine RG.g rfl (fun hp => (PV.not rfl (gt' hp))) ?_
 refine RG.p (PV.pickO rfl rfl rfl (fun hq => gt' (geqF hq))) (RG.nil ?_)
 refine WP.cond rfl (fun h3 => ?_) fun h3 => ?_
 ·obtain ⟨e1, e2⟩ := chkE_no h3
  rw [e1, e2] at k
  refine WP.sr (RG.p (PV.asg rfl rfl) (RG.mr rfl (RG.nil ?_)))
  exact WP.ret ⟨_, _, ResV.two rfl rfl rfl, Cv.nilV, k (.slice none 0 0) [] rfl⟩
 ·have h4 : isLay (er ys) = true ∧ deckOk d.rules.xs = true := by cases c : isLay (er ys) <;> cases d : deckOk d.rules.xs <;> simp_all
  have hdl := deck_len h4.2
  refine WP.skip (WP.sr (RG.p (PV.move (v := v) rfl rfl) (RG.p (PV.loadW rfl Ag29 rfl rfl) ?_)))
  refine RG.callF (vs := [v, _]) rfl rfl En64 rfl (check_s (Rs.up h1) hd.up (Rs.up h2) (by omega) (fun w19 zsw19 hzw19 => ?_))
  refine RG.p (PV.move (v := .tuple _) rfl rfl) (RG.p (PV.ext (v := w19) rfl rfl rfl) (RG.p (PV.ext rfl rfl rfl) (RG.p (PV.asg (v := w19) rfl rfl) (RG.br rfl (RG.nil (WP.seq (WP.sr (RG.bl rfl (RG.p (PV.not rfl rfl) (RG.nil ?_))))))))))
  have hzl : zsw19.length = (chkL (er ys) d.rules.xs).length := by rw [<- erVs_len, hzw19]; rfl
  refine WP.cond rfl (fun h5 => ?_) fun h5 => ?_
  ·have h6 : ¬ (chkL (er ys) d.rules.xs).length <= 256 := by simp at h5; omega
   obtain ⟨e1, e2⟩ := chkE_big h4 h6
   rw [e1, e2] at k
   refine WP.sr (RG.p (PV.asg rfl rfl) (RG.mr rfl (RG.nil ?_)))
   exact WP.ret ⟨_, _, ResV.two rfl rfl rfl, Cv.nilV, k (.slice none 0 0) [] rfl⟩
  ·have h6 : (chkL (er ys) d.rules.xs).length <= 256 := by simp at h5; omega
   obtain ⟨e1, e2⟩ := chkE_ok h4 h6
   rw [e1, e2] at k
   refine WP.skip (WP.sr (RG.p (PV.move (v := w19) rfl rfl) (RG.p (PV.asg (v := w19) rfl rfl) (RG.mr rfl (RG.nil ?_)))))
   exact WP.ret ⟨_, _, ResV.two rfl rfl rfl, Cv.p, k w19 zsw19 hzw19⟩
theorem rmE_ok {l : List (List Rect)} {q : Rule} (hl : isLay l = true) (hr : validRule q = true) : rmE l q = rmL l q := by rw [rmE, if_pos (by rw [hl, hr]; rfl)]
theorem checked_i {v : Value} {ys : List (Sl Rect)} {d : Deck} (h1 : Rs G L slT v ys) (hd : RsE G L rectT ys) (h2 : Rs G L ruleT d.rules.v d.rules.xs) (hly : isLay (er ys) = true) (hk : deckOk d.rules.xs = true) (k : ∀ v' zs, erVs zs = chkL (er ys) d.rules.xs -> R v' G (osl 74 violT v' zs :: bagS 101 rectT (mks zs) :: L)) : CallT Tryz.prog 36 #[v, vT deckT d] G L R := by
 have hdl := deck_len hk
 refine CallT.enter (args := _) Tryz.func36 rfl rfl (by kernel_rfl) rfl ?_
 refine WP.sr ?_
 refine RG.ot rfl (OT.box (cs := deckT.enc d) rfl rfl rfl fun b3 => ?_)
 refine RG.p (PV.asg rfl rfl) (RG.nil (WP.sr ?_))
 refine RG.ot rfl (OT.bslice (F := violT) (els := []) rfl El32 rfl (by decide) rfl (by decide) trivial fun v10 => ?_)
 refine RG.p (PV.asg (v := v10) rfl rfl) (RG.nil (WP.seq (WP.sr (RG.p (PV.field rfl Fo29_0 rfl) (RG.p (PV.load1 rfl Sc27 rfl (Rd.blk rfl)) (RG.p (PV.len rfl Tryz.underlying27 rfl (SlF.r h2)) (RG.ml rfl (RG.nil (WP.block ?_)))))))))
 refine WP.cv ((Cv.p (C := osl 74 violT v10 ([] : List Viol) :: blk b3 29 (deckT.enc d) :: L)).trans (Cv.cons (Cv.bag0 (e := 101) (F := rectT) (xs := mks []) rfl))) ?_
 refine WP.loop3 [0, 12, 13] (fun (i : Nat) (out : List Viol) (q : Value) => i <= d.rules.xs.length ∧ out.length <= i * 6400 ∧ erVs out = chkTo (er ys) d.rules.xs i) (fun (i : Nat) (out : List Viol) (q : Value) => [(14, vi i), (5, q)]) (fun (i : Nat) (out : List Viol) (q : Value) => osl 74 violT q out :: bagS 101 rectT (mks out) :: blk b3 29 (deckT.enc d) :: L) (fun (i : Nat) (out : List Viol) (q : Value) => d.rules.xs.length - i) 0 [] v10 ⟨by omega, by simp, rfl⟩ ⟨rfl, rfl, trivial⟩ Cv.p ?_
 rintro i out q τ ⟨hi, hol, hev⟩
 refine WP.sr (RG.p (PV.lss rfl rfl rfl) (RG.nil (WP.seq ?_)))
 refine WP.cond rfl (fun h3 => ?_) fun h3 => ?_
 ·have h3 := odt h3
  have hrm := rmE_ok hly (deck_rule hk (i := i) (by omega))
  refine WP.skip (WP.seq (WP.block (WP.sr (RG.ml rfl (RG.p (PV.idxS rfl Is27 rfl (SlF.r h2) rfl rfl (by omega)) (RG.p (PV.loadE rfl Ag42 rfl rfl (El.r h2 (getG (by omega)))) ?_))))))
  refine RG.ot rfl (OT.alloc rfl Zr42 fun b7 => ?_)
  refine RG.mr rfl ?_
  refine RG.ot rfl (OT.storeW (vs := [vi _, vi _, vi _, vi _, vi _]) rfl Sz42 rfl rfl (Cl.c rfl) rfl rfl (OneC.c rfl) ?_)
  refine RG.nil (WP.sr (RG.p (PV.move (v := v) rfl rfl) (RG.p (PV.loadW rfl Ag42 rfl rfl) ?_)))
  refine RG.callF (vs := [v, _]) rfl rfl En48 rfl (rule_i (q := gd d.rules.xs i) (Rs.up h1) hd.up hly (deck_rule hk (by omega)) (fun v21 => ?_))
  refine RG.callF (vs := [v21]) rfl rfl En74 rfl (components_s Rs.o (fun v22 psv22 hpv22 => ?_))
  refine RG.p (PV.len (v := v22) rfl Tryz.underlying35 rfl SlF.o) (RG.ml rfl (RG.nil (WP.block ?_)))
  have hpl : psv22.length <= 6400 := by have := congrArg List.length hpv22; rw [er_len] at this; rw [this, partsL, List.length_map]; exact comps_len _
  have hps : ∀ m, m < psv22.length -> Rs G [bagS 101 rectT (mks out ++ psv22)] rectT (gd psv22 m).v (gd psv22 m).xs := fun m hm => by
   have := Rs.inBag (G := G) (L := [bagS 101 rectT (mks out ++ psv22)]) (L' := []) (e := 101) (F := rectT) (xs := mks out ++ psv22) ((mks out).length + m) (by simp; omega)
   rwa [gd_apq] at this
  refine WP.cv ((Cv.p (C := bagS 101 rectT (mks out) :: bagS 101 rectT psv22 :: osl 74 violT q out :: osl 50 slT v22 psv22 :: blk b3 29 (deckT.enc d) :: L)).trans Cv.bagJoin) ?_
  refine WP.loop3 [0, 6, 12, 13, 14, 22, 23] (fun (m : Nat) (out2 : List Viol) (q2 : Value) => m <= psv22.length ∧ out2.length = out.length + m ∧ mks out2 ++ psv22.drop m = mks out ++ psv22 ∧ erVs out2 = erVs out ++ ((er psv22).take m).map (fun p => ((i : Int), p))) (fun (m : Nat) (out2 : List Viol) (q2 : Value) => [(24, vi m), (5, q2)]) (fun (m : Nat) (out2 : List Viol) (q2 : Value) => bagS 101 rectT (mks out ++ psv22) :: osl 74 violT q2 out2 :: osl 50 slT v22 psv22 :: blk b3 29 (deckT.enc d) :: L) (fun (m : Nat) (out2 : List Viol) (q2 : Value) => psv22.length - m) 0 out q ⟨by omega, by omega, rfl, by simp⟩ ⟨rfl, rfl, trivial⟩ Cv.p ?_
  rintro m out2 q2 τ1 ⟨hm, hol2, heq, hev2⟩
  refine WP.sr (RG.p (PV.lss rfl rfl rfl) (RG.nil (WP.seq ?_)))
  refine WP.cond rfl (fun h4 => ?_) fun h4 => ?_
  ·have h4 := odt h4
   have h40 : m < psv22.length := by omega
   have hpm := hps m h40
   have heq' : mks (out2 ++ [⟨(i : Int), gd psv22 m⟩]) ++ psv22.drop (m + 1) = mks out ++ psv22 := by
    rw [mks_app, List.append_assoc, <- heq, List.drop_eq_getElem_cons h40, gd_eq h40]; rfl
   have hev3 : erVs (out2 ++ [⟨(i : Int), gd psv22 m⟩]) = erVs out ++ ((er psv22).take (m + 1)).map (fun p => ((i : Int), p)) := by
    rw [erVs_app, hev2, List.take_add_one, getG (by rw [er_len]; exact h40), er_gd, List.append_assoc, List.map_append]; rfl
   refine WP.skip (WP.seq (WP.block (WP.sr (RG.p (PV.idxS (v := v22) rfl Is35 rfl SlF.o rfl rfl (by omega)) (RG.p (PV.loadE1 rfl Sc50 rfl rfl (El.o (getG (by omega))) rfl) (RG.p (PV.asg rfl rfl) (RG.nil (WP.region (RG.p (PV.move (v := q2) rfl rfl) (RG.ml rfl (RG.p (PV.move rfl rfl) (RG.p (PV.build (vs := [(0, [vi _]), (1, [_])]) (out := [_, _]) rfl Zr74 Pl74 ⟨rfl, (Cl.c rfl), ⟨rfl, (Cl.s (SlF.r hpm)), trivial⟩⟩ rfl) ?_))))))))))))
   refine RG.ot rfl (OT.bslice (F := violT) (els := [⟨(i : Int), gd psv22 m⟩]) rfl El32 rfl (by decide) rfl (by decide) ⟨rfl, (Cl.c rfl), trivial⟩ fun v32 => ?_)
   refine RG.ot rfl (OT.append (v := q2) (u := v32) (F := violT) rfl El32 rfl (by decide) rfl rfl Rs.o (OneL.one (OneC.val rfl (OneC.sl (SlF.r hpm) OneC.nil))) rfl (by first | omega | (simp <;> omega)) fun v33 => ?_)
   refine RG.p (PV.asg (v := v33) rfl rfl) (RG.nil (WP.region (RG.p (PV.add rfl rfl rfl (by omega)) (RG.ml rfl (RG.nil ?_)))))
   exact ⟨rfl, m + 1, (out2 ++ [⟨(i : Int), gd psv22 m⟩]), v33, ⟨by omega, by simp; omega, heq', hev3⟩, ⟨rfl, rfl, trivial⟩, ⟨rfl, rfl, rfl, rfl, rfl, rfl, rfl, trivial⟩, Cv.p, by omega⟩
  ·have h4 := odf h4
   obtain rfl : m = psv22.length := by omega
   rw [List.drop_length, List.append_nil] at heq
   rw [List.take_of_length_le (by rw [er_len]; omega), hpv22, hev, <- hrm, <- chkTo_succ] at hev2
   refine WP.exit (WP.region (RG.p (PV.add rfl rfl rfl (by omega)) (RG.ml rfl (RG.nil ?_))))
   exact ⟨rfl, i + 1, out2, q2, ⟨by omega, by omega, hev2⟩, ⟨rfl, rfl, trivial⟩, ⟨rfl, rfl, rfl, trivial⟩, (by simp only [heq]; exact Cv.p), by omega⟩
 ·have h3 := odf h3
  obtain rfl : i = d.rules.xs.length := by omega
  refine WP.exit (WP.sr (RG.p (PV.move (v := q) rfl rfl) (RG.p (PV.asg (v := q) rfl rfl) (RG.nil ?_))))
  exact WP.ret ⟨_, _, rv rfl rfl, Cv.p, k q out hev⟩
theorem chkLay_i {v : Value} {ys : List (Sl Rect)} {d : Deck} (h1 : Rs G L slT v ys) (hd : RsE G L rectT ys) (h2 : Rs G L ruleT d.rules.v d.rules.xs) (k : ∀ v' zs, erVs zs = chkR (er ys) d.rules.xs -> R (.tuple #[v', vi (chkE (er ys) d.rules.xs)]) G (osl 74 violT v' zs :: bagS 101 rectT (mks zs) :: L)) : CallT Tryz.prog 11 #[v, vT deckT d] G L R := by
 refine CallT.enter (args := _) Tryz.func11 rfl rfl (by kernel_rfl) rfl ?_
 refine WP.sr ?_
 refine RG.ot rfl (OT.box (cs := deckT.enc d) rfl rfl rfl fun b3 => ?_)
 refine RG.p (PV.asg rfl rfl) (RG.mr rfl (RG.nil (WP.seq (WP.sr (RG.p (PV.move (v := v) rfl rfl) ?_)))))
 refine RG.callF (vs := [v]) rfl rfl En34 rfl (isLayout_s (Rs.up h1) hd.up ?_)
 refine RG.p (PV.not rfl rfl) (RG.bl rfl ?_)
 refine RG.g rfl (fun hp => (PV.loadW rfl Ag29 rfl rfl)) ?_
 refine RG.gsC rfl rfl rfl rfl En35 (fun hp => ⟨_, (acons (gt' hp) anil), deck_i (Rs.up h2) ⟨rfl, rfl, rfl⟩⟩) ?_
 refine RG.g rfl (fun hp => (PV.not rfl (gt' hp))) ?_
 refine RG.p (PV.pickO rfl rfl rfl (fun hq => gt' (geqF hq))) (RG.nil ?_)
 refine WP.cond rfl (fun h3 => ?_) fun h3 => ?_
 ·obtain ⟨e1, e2⟩ := chkE_no h3
  rw [e1, e2] at k
  refine WP.sr (RG.p (PV.asg rfl rfl) (RG.mr rfl (RG.nil ?_)))
  exact WP.ret ⟨_, _, ResV.two rfl rfl rfl, Cv.nilV, k (.slice none 0 0) [] rfl⟩
 ·have h4 : isLay (er ys) = true ∧ deckOk d.rules.xs = true := by cases c : isLay (er ys) <;> cases d : deckOk d.rules.xs <;> simp_all
  have hdl := deck_len h4.2
  refine WP.skip (WP.sr (RG.p (PV.move (v := v) rfl rfl) (RG.p (PV.loadW rfl Ag29 rfl rfl) ?_)))
  refine RG.callF (vs := [v, _]) rfl rfl En36 rfl ( checked_i (Rs.up h1) hd.up (Rs.up h2) h4.1 h4.2 (fun v17 zsv17 hzv17 => ?_))
  refine RG.p (PV.asg (v := v17) rfl rfl) (RG.nil (WP.seq (WP.sr (RG.p (PV.move (v := v17) rfl rfl) (RG.p (PV.len (v := v17) rfl Tryz.underlying32 rfl SlF.o) (RG.p (PV.gtr rfl rfl rfl) (RG.nil ?_)))))))
  have hzl : zsv17.length = (chkL (er ys) d.rules.xs).length := by rw [<- erVs_len, hzv17]
  refine WP.cond rfl (fun h5 => ?_) fun h5 => ?_
  ·have h6 : ¬ (chkL (er ys) d.rules.xs).length <= 256 := by have := odt h5; omega
   obtain ⟨e1, e2⟩ := chkE_big h4 h6
   rw [e1, e2] at k
   refine WP.sr (RG.p (PV.asg rfl rfl) (RG.mr rfl (RG.nil ?_)))
   exact WP.ret ⟨_, _, ResV.two rfl rfl rfl, Cv.nilV, k (.slice none 0 0) [] rfl⟩
  ·have h6 : (chkL (er ys) d.rules.xs).length <= 256 := by have := odf h5; omega
   obtain ⟨e1, e2⟩ := chkE_ok h4 h6
   rw [e1, e2] at k
   refine WP.skip (WP.sr (RG.p (PV.move (v := v17) rfl rfl) (RG.p (PV.asg (v := v17) rfl rfl) (RG.mr rfl (RG.nil ?_)))))
   exact WP.ret ⟨_, _, ResV.two rfl rfl rfl, Cv.p, k v17 zsv17 hzv17⟩
noncomputable def hcE (cs : List ECell) (cell : Int) (rs : List Rule) : Int := if shE cs cell = 0 then chkE (flyL cs cell) rs else shE cs cell
noncomputable def hcR (cs : List ECell) (cell : Int) (rs : List Rule) : List (Int × List Rect) := if shE cs cell = 0 then chkR (flyL cs cell) rs else []
def cntS (cs : List ECell) (cell : Int) (rs : List Rule) : Int := costL (fun r => (cntF2 cs cell r : Int)) rs
noncomputable def hcN (cs : List ECell) (cell : Int) (rs : List Rule) : Int := if hcE cs cell rs = 0 then cntS cs cell rs else 0
theorem cntF2_bd (cs : List ECell) (cell : Int) (q : Rule) : cntF2 cs cell q <= 128 := by
 unfold cntF2; split
 ·exact cfR_len _ _ _
 ·exact Nat.zero_le _
theorem cntS_bd (cs : List ECell) (cell : Int) : ∀ rs : List Rule, 0 <= cntS cs cell rs ∧ cntS cs cell rs <= 128 * rs.length
 | [] => by simp [cntS, costL]
 | r :: rs => by
  have h1 := cntS_bd cs cell rs
  have h2 := cntF2_bd cs cell r
  simp only [cntS, costL, List.length_cons] at h1 ⊢; omega
theorem cntS_take {cs : List ECell} {cell : Int} {rs : List Rule} {i : Nat} (h : i < rs.length) : cntS cs cell (rs.take (i + 1)) = cntS cs cell (rs.take i) + cntF2 cs cell (gd rs i) := costL_take _ h
theorem hc_no {cs : List ECell} {cell : Int} {rs : List Rule} (h : shE cs cell ≠ 0) : hcE cs cell rs = shE cs cell ∧ hcR cs cell rs = [] ∧ hcN cs cell rs = 0 := by
 have e : hcE cs cell rs = shE cs cell := by rw [hcE, if_neg h]
 exact ⟨e, by rw [hcR, if_neg h], by rw [hcN, if_neg (by rw [e]; exact h)]⟩
theorem hc_bad {cs : List ECell} {cell : Int} {rs : List Rule} (h : shE cs cell = 0) (h2 : chkE (flyL cs cell) rs ≠ 0) : hcE cs cell rs = chkE (flyL cs cell) rs ∧ hcR cs cell rs = [] ∧ hcN cs cell rs = 0 := by
 have e : hcE cs cell rs = chkE (flyL cs cell) rs := by rw [hcE, if_pos h]
 exact ⟨e, by rw [hcR, if_pos h, chkR, if_neg h2], by rw [hcN, if_neg (by rw [e]; exact h2)]⟩
theorem hc_ok {cs : List ECell} {cell : Int} {rs : List Rule} (h : shE cs cell = 0) (h2 : chkE (flyL cs cell) rs = 0) : hcE cs cell rs = 0 ∧ hcR cs cell rs = chkR (flyL cs cell) rs ∧ hcN cs cell rs = cntS cs cell rs := by
 have e : hcE cs cell rs = 0 := by rw [hcE, if_pos h, h2]
 exact ⟨e, by rw [hcR, if_pos h], by rw [hcN, if_pos e]⟩
theorem chkE_deck {l : List (List Rect)} {rs : List Rule} (h : chkE l rs = 0) : deckOk rs = true ∧ (chkL l rs).length <= 256 := by
 unfold chkE at h
 by_cases c : (isLay l && deckOk rs) = true
 ·rw [if_pos c] at h
  by_cases d : (chkL l rs).length <= 256
  ·exact ⟨by simp only [Bool.and_eq_true] at c; exact c.2, d⟩
  ·rw [if_neg d] at h; cases h
 ·rw [if_neg c] at h; cases h
theorem hc_i {l : Lib} {cell : Int} {d : Deck} (hL : RLib G L l.cells.v l.cells.xs) (hlen : lenC (erCls l.cells.xs)) (h2 : Rs G L ruleT d.rules.v d.rules.xs) (k : ∀ v' zs, erVs zs = hcR (erCls l.cells.xs) cell d.rules.xs -> R (.tuple #[v', vi (hcN (erCls l.cells.xs) cell d.rules.xs), vi (hcE (erCls l.cells.xs) cell d.rules.xs)]) G (osl 74 violT v' zs :: bagS 101 rectT (mks zs) :: L)) : CallT Tryz.prog 9 #[vT libT l, vi cell, vT deckT d] G L R := by
 refine CallT.enter (args := _) Tryz.func9 rfl rfl (by kernel_rfl) rfl ?_
 refine WP.sr ?_
 refine RG.ot rfl (OT.box (cs := libT.enc l) rfl rfl rfl fun b3 => ?_)
 refine RG.ot rfl (OT.box (cs := deckT.enc d) rfl rfl rfl fun b5 => ?_)
 refine RG.p (PV.asg rfl rfl) (RG.mr rfl (RG.mr rfl (RG.nil (WP.sr (RG.p (PV.loadW rfl Ag26 rfl rfl) (RG.ml rfl ?_))))))
 refine RG.callF (vs := [_, _]) rfl rfl En10 rfl (fly_i hL.up hlen (fun w21 ys hy => ?_))
 refine RG.p (PV.move (v := .tuple _) rfl rfl) (RG.p (PV.ext (v := w21) rfl rfl rfl) (RG.p (PV.ext rfl rfl rfl) (RG.p (PV.asg (v := w21) rfl rfl) (RG.mr rfl (RG.nil (WP.seq (WP.sr (RG.ml rfl (RG.p (PV.neq rfl rfl rfl) (RG.nil ?_))))))))))
 refine WP.cond rfl (fun h3 => ?_) fun h3 => ?_
 ·have h3 : shE (erCls l.cells.xs) cell ≠ 0 := by simpa using h3
  obtain ⟨e1, e2, e3⟩ := hc_no (rs := d.rules.xs) h3
  rw [e1, e2, e3] at k
  refine WP.sr (RG.ml rfl (RG.p (PV.asg rfl rfl) (RG.mr rfl (RG.mr rfl (RG.nil ?_)))))
  exact WP.ret ⟨_, _, ResV.three rfl rfl rfl rfl, Cv.nilV, k (.slice none 0 0) [] rfl⟩
 ·have h3 : shE (erCls l.cells.xs) cell = 0 := by simpa using h3
  refine WP.skip (WP.sr (RG.p (PV.move (v := w21) rfl rfl) (RG.p (PV.loadW rfl Ag29 rfl rfl) ?_)))
  refine RG.callF (vs := [w21, _]) rfl rfl En11 rfl (chkLay_i Rs.o RsE.o (Rs.up h2) (fun w30 zsw30 hzw30 => ?_))
  refine RG.p (PV.move (v := .tuple _) rfl rfl) (RG.p (PV.ext (v := w30) rfl rfl rfl) (RG.p (PV.ext rfl rfl rfl) (RG.p (PV.asg (v := w30) rfl rfl) (RG.mr rfl (RG.nil (WP.seq (WP.sr (RG.ml rfl (RG.p (PV.neq rfl rfl rfl) (RG.nil ?_))))))))))
  rw [hy]
  refine WP.cond rfl (fun h4 => ?_) fun h4 => ?_
  ·have h4 : chkE (flyL (erCls l.cells.xs) cell) d.rules.xs ≠ 0 := by simpa using h4
   obtain ⟨e1, e2, e3⟩ := hc_bad h3 h4
   rw [e1, e2, e3] at k
   refine WP.sr (RG.ml rfl (RG.p (PV.asg rfl rfl) (RG.mr rfl (RG.mr rfl (RG.nil ?_)))))
   exact WP.ret ⟨_, _, ResV.three rfl rfl rfl rfl, Cv.nilV, k (.slice none 0 0) [] rfl⟩
  ·have h4 : chkE (flyL (erCls l.cells.xs) cell) d.rules.xs = 0 := by simpa using h4
   obtain ⟨e1, e2, e3⟩ := hc_ok h3 h4
   have hdk := (chkE_deck h4).1
   have hdl := deck_len hdk
   rw [e1, e2, e3] at k
   rw [hy] at hzw30
   refine WP.skip (WP.sr (RG.mr rfl (RG.nil (WP.seq (WP.sr (RG.p (PV.field rfl Fo29_0 rfl) (RG.p (PV.load1 rfl Sc27 rfl (Rd.blk rfl)) (RG.p (PV.len rfl Tryz.underlying27 rfl (SlF.r h2)) (RG.ml rfl (RG.nil (WP.block ?_)))))))))))
   refine WP.loop2 [1, 3, 11, 37, 38] (fun (i : Nat) (s : Int) => i <= d.rules.xs.length ∧ s = cntS (erCls l.cells.xs) cell (d.rules.xs.take i)) (fun (i : Nat) (s : Int) => [(39, vi i), (12, vi s)]) (fun (i : Nat) (s : Int) => osl 74 violT w30 zsw30 :: bagS 101 rectT (mks zsw30) :: blk b3 26 (libT.enc l) :: blk b5 29 (deckT.enc d) :: L) (fun (i : Nat) (s : Int) => d.rules.xs.length - i) 0 0 ⟨by omega, by simp [cntS, costL]⟩ ⟨rfl, rfl, trivial⟩ Cv.p ?_
   rintro i s τ ⟨hi, hs⟩
   refine WP.sr (RG.p (PV.lss rfl rfl rfl) (RG.nil (WP.seq ?_)))
   have hsb := cntS_bd (erCls l.cells.xs) cell (d.rules.xs.take i)
   rw [List.length_take, <- hs] at hsb
   refine WP.cond rfl (fun h5 => ?_) fun h5 => ?_
   ·have h5 := odt h5
    have hst := cntS_take (cs := erCls l.cells.xs) (cell := cell) (rs := d.rules.xs) (i := i) (by omega)
    have hfb := cntF2_bd (erCls l.cells.xs) cell (gd d.rules.xs i)
    refine WP.skip (WP.seq (WP.block (WP.sr (RG.p (PV.idxS rfl Is27 rfl (SlF.r h2) rfl rfl (by omega)) (RG.p (PV.loadE rfl Ag42 rfl rfl (El.r h2 (getG (by omega)))) ?_)))))
    refine RG.ot rfl (OT.alloc rfl Zr42 fun b14 => ?_)
    refine RG.ot rfl (OT.storeW (vs := [vi _, vi _, vi _, vi _, vi _]) rfl Sz42 rfl rfl (Cl.c rfl) rfl rfl (OneC.c rfl) ?_)
    refine RG.nil (WP.sr (RG.p (PV.loadW rfl Ag42 rfl rfl) ?_))
    refine RG.callF (vs := [_]) rfl rfl En31 rfl (reach_i ?_)
    refine RG.mr rfl (RG.nil (WP.sr (RG.ml rfl (RG.p (PV.geq rfl rfl rfl) (RG.nil ?_)))))
    refine WP.cond rfl (fun h6 => ?_) fun h6 => ?_
    ·have h6 := odt h6
     have e4 : cntF2 (erCls l.cells.xs) cell (gd d.rules.xs i) = (cfR (erCls l.cells.xs) cell (reach (gd d.rules.xs i))).length := by rw [cntF2, if_pos h6]
     rw [e4] at hst hfb
     refine WP.sr (RG.p (PV.loadW rfl Ag26 rfl rfl) (RG.ml rfl (RG.ml rfl ?_)))
     refine RG.callF (vs := [_, _, _]) rfl rfl En24 rfl (allFree_i hL.up hlen (fun w51 => ?_))
     refine RG.p (PV.move (v := .tuple _) rfl rfl) (RG.p (PV.ext (v := w51) rfl rfl rfl) (RG.p (PV.ext rfl rfl rfl) (RG.p (PV.asg (v := w51) rfl rfl) (RG.mr rfl (RG.nil (WP.region (RG.ml rfl (RG.p (PV.move (v := w51) rfl rfl) (RG.p (PV.len (v := w51) rfl Tryz.underlying45 rfl SlF.o) (RG.p (PV.add rfl rfl rfl (by omega)) (RG.mr rfl (RG.nil (WP.region ?_)))))))))))))
     refine RG.p (PV.add rfl rfl rfl (by omega)) (RG.ml rfl (RG.nil ?_))
     exact ⟨rfl, i + 1, _, ⟨by omega, by rw [hst, hs]⟩, ⟨rfl, rfl, trivial⟩, ⟨rfl, rfl, rfl, rfl, rfl, trivial⟩, Cv.p, by omega⟩
    ·have h6 := odf h6
     have e4 : cntF2 (erCls l.cells.xs) cell (gd d.rules.xs i) = 0 := by rw [cntF2, if_neg h6]
     rw [e4] at hst
     refine WP.skip (WP.region (RG.p (PV.add rfl rfl rfl (by omega)) (RG.ml rfl (RG.nil ?_))))
     exact ⟨rfl, i + 1, s, ⟨by omega, by rw [hst, hs]; simp⟩, ⟨rfl, rfl, trivial⟩, ⟨rfl, rfl, rfl, rfl, rfl, trivial⟩, Cv.p, by omega⟩
   ·have h5 := odf h5
    rw [List.take_of_length_le (by omega)] at hs
    rw [<- hs] at k
    refine WP.exit (WP.sr (RG.p (PV.move (v := w30) rfl rfl) (RG.ml rfl (RG.p (PV.asg (v := w30) rfl rfl) (RG.mr rfl (RG.mr rfl (RG.nil ?_)))))))
    exact WP.ret ⟨_, _, ResV.three rfl rfl rfl rfl, Cv.p, k w30 zsw30 hzw30⟩
theorem hc_r {l : Lib} {cell : Int} {d : Deck} (hL : RLib G L l.cells.v l.cells.xs) (hlen : lenC (erCls l.cells.xs)) (h2 : Rs G L ruleT d.rules.v d.rules.xs) (k : ∀ v' zs, erVs zs = hcR (erCls l.cells.xs) cell d.rules.xs -> R (.tuple #[v', vi (hcN (erCls l.cells.xs) cell d.rules.xs), vi (hcE (erCls l.cells.xs) cell d.rules.xs)]) G (osl 74 violT v' zs :: bagS 101 rectT (mks zs) :: L)) : CallT Tryz.prog 8 #[vT libT l, vi cell, vT deckT d] G L R := by
 refine CallT.enter (args := _) Tryz.func8 rfl rfl (by kernel_rfl) rfl ?_
 refine WP.sr ?_
 refine RG.ot rfl (OT.box (cs := libT.enc l) rfl rfl rfl fun b3 => ?_)
 refine RG.ot rfl (OT.box (cs := deckT.enc d) rfl rfl rfl fun b5 => ?_)
 refine RG.p (PV.asg rfl rfl) (RG.mr rfl (RG.mr rfl (RG.nil (WP.sr (RG.p (PV.loadW rfl Ag26 rfl rfl) (RG.ml rfl ?_))))))
 refine RG.callF (vs := [_, _]) rfl rfl En28 rfl (fly_r hL.up hlen (fun w18 ys hy => ?_))
 refine RG.p (PV.move (v := .tuple _) rfl rfl) (RG.p (PV.ext (v := w18) rfl rfl rfl) (RG.p (PV.ext rfl rfl rfl) (RG.p (PV.asg (v := w18) rfl rfl) (RG.mr rfl (RG.nil (WP.seq (WP.sr (RG.ml rfl (RG.p (PV.neq rfl rfl rfl) (RG.nil ?_))))))))))
 refine WP.cond rfl (fun h3 => ?_) fun h3 => ?_
 ·have h3 : shE (erCls l.cells.xs) cell ≠ 0 := by simpa using h3
  obtain ⟨e1, e2, e3⟩ := hc_no (rs := d.rules.xs) h3
  rw [e1, e2, e3] at k
  refine WP.sr (RG.ml rfl (RG.p (PV.asg rfl rfl) (RG.mr rfl (RG.mr rfl (RG.nil ?_)))))
  exact WP.ret ⟨_, _, ResV.three rfl rfl rfl rfl, Cv.nilV, k (.slice none 0 0) [] rfl⟩
 ·have h3 : shE (erCls l.cells.xs) cell = 0 := by simpa using h3
  refine WP.skip (WP.sr (RG.p (PV.move (v := w18) rfl rfl) (RG.p (PV.loadW rfl Ag29 rfl rfl) ?_)))
  refine RG.callF (vs := [w18, _]) rfl rfl En29 rfl (chkLay_r Rs.o RsE.o (Rs.up h2) (fun w27 zsw27 hzw27 => ?_))
  refine RG.p (PV.move (v := .tuple _) rfl rfl) (RG.p (PV.ext (v := w27) rfl rfl rfl) (RG.p (PV.ext rfl rfl rfl) (RG.p (PV.asg (v := w27) rfl rfl) (RG.mr rfl (RG.nil (WP.seq (WP.sr (RG.ml rfl (RG.p (PV.neq rfl rfl rfl) (RG.nil ?_))))))))))
  rw [hy]
  refine WP.cond rfl (fun h4 => ?_) fun h4 => ?_
  ·have h4 : chkE (flyL (erCls l.cells.xs) cell) d.rules.xs ≠ 0 := by simpa using h4
   obtain ⟨e1, e2, e3⟩ := hc_bad h3 h4
   rw [e1, e2, e3] at k
   refine WP.sr (RG.ml rfl (RG.p (PV.asg rfl rfl) (RG.mr rfl (RG.mr rfl (RG.nil ?_)))))
   exact WP.ret ⟨_, _, ResV.three rfl rfl rfl rfl, Cv.nilV, k (.slice none 0 0) [] rfl⟩
  ·have h4 : chkE (flyL (erCls l.cells.xs) cell) d.rules.xs = 0 := by simpa using h4
   obtain ⟨e1, e2, e3⟩ := hc_ok h3 h4
   have hdk := (chkE_deck h4).1
   have hdl := deck_len hdk
   rw [e1, e2, e3] at k
   rw [hy] at hzw27
   refine WP.skip (WP.sr (RG.mr rfl (RG.nil (WP.seq (WP.sr (RG.mr rfl (RG.nil (WP.block ?_))))))))
   refine WP.loop2 [1, 3, 5, 11] (fun (i : Nat) (s : Int) => i <= d.rules.xs.length ∧ s = cntS (erCls l.cells.xs) cell (d.rules.xs.take i)) (fun (i : Nat) (s : Int) => [(14, vi i), (13, vi s)]) (fun (i : Nat) (s : Int) => osl 74 violT w27 zsw27 :: bagS 101 rectT (mks zsw27) :: blk b3 26 (libT.enc l) :: blk b5 29 (deckT.enc d) :: L) (fun (i : Nat) (s : Int) => d.rules.xs.length - i) 0 0 ⟨by omega, by simp [cntS, costL]⟩ ⟨rfl, rfl, trivial⟩ Cv.p ?_
   rintro i s τ ⟨hi, hs⟩
   refine WP.seq (WP.sr (RG.ml rfl (RG.p (PV.field rfl Fo29_0 rfl) (RG.p (PV.load1 rfl Sc27 rfl (Rd.blk rfl)) (RG.p (PV.len rfl Tryz.underlying27 rfl (SlF.r h2)) (RG.p (PV.lss rfl rfl rfl) (RG.nil ?_)))))))
   have hsb := cntS_bd (erCls l.cells.xs) cell (d.rules.xs.take i)
   rw [List.length_take, <- hs] at hsb
   refine WP.cond rfl (fun h5 => ?_) fun h5 => ?_
   ·have h5 := odt h5
    have hst := cntS_take (cs := erCls l.cells.xs) (cell := cell) (rs := d.rules.xs) (i := i) (by omega)
    have hfb := cntF2_bd (erCls l.cells.xs) cell (gd d.rules.xs i)
    refine WP.skip (WP.seq (WP.block ?_))
    refine WP.regionQ (by kernel_rfl) (by kernel_rfl) ?_
    refine RQ.pv rfl (PV.mvI (.inl rfl) rfl) (RQ.pv rfl (PV.loadW rfl Ag26 rfl rfl) (RQ.pv rfl (PV.mvI (.inl rfl) rfl) (RQ.pv rfl (PV.field rfl Fo29_0 rfl) (RQ.pv rfl (PV.load1 rfl Sc27 rfl (Rd.blk rfl)) (RQ.pv rfl (PV.mvI (.inl rfl) rfl) (RQ.pv rfl (PV.idxS rfl Is27 rfl (SlF.r h2) rfl rfl (by omega)) (RQ.pv rfl (PV.loadE rfl Ag42 rfl rfl (El.r h2 (getG (by omega)))) ?_)))))))
    refine RQ.callF (vs := [_, _, _]) rfl rfl En30 rfl (l21Count_s hL.up hlen h3 ⟨rfl, rfl, rfl⟩) ?_
    refine RQ.pv rfl (PV.add rfl rfl rfl (by omega)) (RQ.pv rfl (PV.mvI (.inr rfl) rfl) (RQ.nil (WP.region (RG.ml rfl (RG.p (PV.add rfl rfl rfl (by omega)) (RG.mr rfl (RG.nil ?_)))))))
    exact ⟨rfl, i + 1, _, ⟨by omega, by rw [hst, hs]⟩, ⟨rfl, rfl, trivial⟩, ⟨rfl, rfl, rfl, rfl, trivial⟩, Cv.p, by omega⟩
   ·have h5 := odf h5
    rw [List.take_of_length_le (by omega)] at hs
    rw [<- hs] at k
    refine WP.exit (WP.sr (RG.p (PV.move (v := w27) rfl rfl) (RG.ml rfl (RG.p (PV.asg (v := w27) rfl rfl) (RG.mr rfl (RG.mr rfl (RG.nil ?_)))))))
    exact WP.ret ⟨_, _, ResV.three rfl rfl rfl rfl, Cv.p, k w27 zsw27 hzw27⟩
noncomputable def cvAt (cs : List ECell) (rs : List Rule) (k : Nat) : Int := if shE cs (k : Int) = 0 then (if chkE (flyL cs (k : Int)) rs = 0 then ((chkL (flyL cs (k : Int)) rs).length : Int) else -1) else -1
noncomputable def cvTo (cs : List ECell) (rs : List Rule) (i : Nat) : List Int := (List.range i).map (cvAt cs rs)
theorem cvTo_succ (cs : List ECell) (rs : List Rule) (i : Nat) : cvTo cs rs (i + 1) = cvTo cs rs i ++ [cvAt cs rs i] := by rw [cvTo, cvTo, List.range_succ, List.map_append]; rfl
theorem cvTo_len (cs : List ECell) (rs : List Rule) (i : Nat) : (cvTo cs rs i).length = i := by simp [cvTo]
def cvE (cs : List ECell) (rs : List Rule) : Int := if (okLib cs && deckOk rs) = true then 0 else 1
noncomputable def cvR (cs : List ECell) (rs : List Rule) : List Int := if (okLib cs && deckOk rs) = true then cvTo cs rs cs.length else []
theorem cv_i {l : Lib} {d : Deck} (hL : RLib G L l.cells.v l.cells.xs) (hlen : lenC (erCls l.cells.xs)) (h2 : Rs G L ruleT d.rules.v d.rules.xs) (k : ∀ v', R (.tuple #[v', vi (cvE (erCls l.cells.xs) d.rules.xs)]) G (osl 2 intT v' (cvR (erCls l.cells.xs) d.rules.xs) :: L)) : CallT Tryz.prog 23 #[vT libT l, vT deckT d] G L R := by
 have hE := erCls_len l.cells.xs
 refine CallT.enter (args := _) Tryz.func23 rfl rfl (by kernel_rfl) rfl ?_
 refine WP.sr ?_
 refine RG.ot rfl (OT.box (cs := libT.enc l) rfl rfl rfl fun b2 => ?_)
 refine RG.ot rfl (OT.box (cs := deckT.enc d) rfl rfl rfl fun b3 => ?_)
 refine RG.p (PV.asg rfl rfl) (RG.mr rfl (RG.nil (WP.seq (WP.sr (RG.p (PV.loadW rfl Ag26 rfl rfl) ?_)))))
 refine RG.callF (vs := [_]) rfl rfl En55 rfl (okLib_i hL.up hlen ?_)
 refine RG.p (PV.not rfl rfl) (RG.bl rfl ?_)
 refine RG.g rfl (fun hp => (PV.loadW rfl Ag29 rfl rfl)) ?_
 refine RG.gsC rfl rfl rfl rfl En35 (fun hp => ⟨_, (acons (gt' hp) anil), deck_i (Rs.up h2) ⟨rfl, rfl, rfl⟩⟩) ?_
 refine RG.g rfl (fun hp => (PV.not rfl (gt' hp))) ?_
 refine RG.p (PV.pickO rfl rfl rfl (fun hq => gt' (geqF hq))) (RG.nil ?_)
 refine WP.cond rfl (fun h3 => ?_) fun h3 => ?_
 ·have h4 : ¬ (okLib (erCls l.cells.xs) && deckOk d.rules.xs) = true := by cases c : okLib (erCls l.cells.xs) <;> cases e : deckOk d.rules.xs <;> simp_all
  rw [cvE, cvR, if_neg h4, if_neg h4] at k
  refine WP.sr (RG.p (PV.asg rfl rfl) (RG.mr rfl (RG.nil ?_)))
  exact WP.ret ⟨_, _, ResV.two rfl rfl rfl, (Cv.p (C := L)).trans Cv.nilS, k (.slice none 0 0)⟩
 ·have h4 : okLib (erCls l.cells.xs) = true ∧ deckOk d.rules.xs = true := by cases c : okLib (erCls l.cells.xs) <;> cases e : deckOk d.rules.xs <;> simp_all
  have h5 : (okLib (erCls l.cells.xs) && deckOk d.rules.xs) = true := by rw [h4.1, h4.2]; rfl
  have hl8 := (okLib_len h4.1).2
  rw [cvE, cvR, if_pos h5, if_pos h5] at k
  refine WP.skip (WP.sr ?_)
  refine RG.ot rfl (OT.bslice (F := intT) (els := []) rfl El45 rfl (by decide) rfl (by decide) trivial fun v21 => ?_)
  refine RG.p (PV.asg (v := v21) rfl rfl) (RG.nil (WP.seq (WP.sr (RG.p (PV.field rfl Fo26_0 rfl) (RG.p (PV.load1 rfl Sc24 rfl (Rd.blk rfl)) (RG.p (PV.len rfl Tryz.underlying24 rfl (SlF.r hL.c)) (RG.ml rfl (RG.nil (WP.block ?_)))))))))
  refine WP.loop2 [2, 3, 24] (fun (i : Nat) (q : Value) => i <= l.cells.xs.length) (fun (i : Nat) (q : Value) => [(25, vi i), (6, q)]) (fun (i : Nat) (q : Value) => osl 2 intT q (cvTo (erCls l.cells.xs) d.rules.xs i) :: blk b2 26 (libT.enc l) :: blk b3 29 (deckT.enc d) :: L) (fun (i : Nat) (q : Value) => l.cells.xs.length - i) 0 v21 (by omega) ⟨rfl, rfl, trivial⟩ ((Cv.p (C := osl 2 intT v21 [] :: blk b2 26 (libT.enc l) :: blk b3 29 (deckT.enc d) :: L)).trans (Cv.eqS (show ([] : List Int) = cvTo (erCls l.cells.xs) d.rules.xs 0 from rfl))) ?_
  rintro i q τ hi
  refine WP.sr (RG.p (PV.lss rfl rfl rfl) (RG.nil (WP.seq ?_)))
  have hcl := cvTo_len (erCls l.cells.xs) d.rules.xs i
  refine WP.cond rfl (fun h6 => ?_) fun h6 => ?_
  ·have h6 := odt h6
   have hst := cvTo_succ (erCls l.cells.xs) d.rules.xs i
   refine WP.skip (WP.seq (WP.block (WP.sr (RG.ml rfl (RG.mr rfl (RG.nil (WP.sr (RG.mr rfl (RG.nil (WP.seq (WP.seq ?_)))))))))))
   refine WP.region (RG.p (PV.loadW rfl Ag26 rfl rfl) (RG.ml rfl ?_))
   refine RG.callF (vs := [_, _]) rfl rfl En10 rfl (fly_i hL.up hlen (fun w31 ys hy => ?_))
   refine RG.p (PV.move (v := .tuple _) rfl rfl) (RG.p (PV.ext (v := w31) rfl rfl rfl) (RG.p (PV.ext rfl rfl rfl) (RG.p (PV.asg (v := w31) rfl rfl) (RG.mr rfl (RG.nil (WP.sr (RG.ml rfl (RG.p (PV.eql rfl rfl rfl) (RG.nil ?_)))))))))
   refine WP.cond rfl (fun h7 => ?_) fun h7 => ?_
   ·have h7 : shE (erCls l.cells.xs) (i : Int) = 0 := by simpa using h7
    refine WP.sr (RG.p (PV.move (v := w31) rfl rfl) (RG.p (PV.loadW rfl Ag29 rfl rfl) ?_))
    refine RG.callF (vs := [w31, _]) rfl rfl En11 rfl (chkLay_i Rs.o RsE.o (Rs.up h2) (fun w39 zsw39 hzw39 => ?_))
    refine RG.p (PV.move (v := .tuple _) rfl rfl) (RG.p (PV.ext (v := w39) rfl rfl rfl) (RG.p (PV.ext rfl rfl rfl) (RG.p (PV.asg (v := w39) rfl rfl) (RG.mr rfl (RG.nil (WP.sr (RG.ml rfl (RG.p (PV.eql rfl rfl rfl) (RG.nil ?_)))))))))
    rw [hy]
    refine WP.cond rfl (fun h8 => ?_) fun h8 => ?_
    ·have h8 : chkE (flyL (erCls l.cells.xs) (i : Int)) d.rules.xs = 0 := by simpa using h8
     have hzl : (zsw39.length : Int) = cvAt (erCls l.cells.xs) d.rules.xs i := by
      rw [cvAt, if_pos h7, if_pos h8, <- erVs_len, hzw39, hy, chkR, if_pos h8]
     rw [<- hzl] at hst
     refine WP.region (RG.p (PV.move (v := w39) rfl rfl) (RG.p (PV.len (v := w39) rfl Tryz.underlying32 rfl SlF.o) (RG.mr rfl (RG.nil (WP.region (RG.p (PV.move (v := q) rfl rfl) (RG.ml rfl ?_)))))))
     refine RG.ot rfl (OT.bslice (F := intT) (els := [_]) rfl El45 rfl (by decide) rfl (by decide) ⟨rfl, (Cl.c rfl), trivial⟩ fun v48 => ?_)
     refine RG.ot rfl (OT.append (v := q) (u := v48) (F := intT) rfl El45 rfl (by decide) rfl rfl Rs.o (OneL.c (fun _ => rfl)) rfl (by first | omega | (simp <;> omega)) fun v49 => ?_)
     refine RG.p (PV.asg (v := v49) rfl rfl) (RG.nil (WP.region (RG.p (PV.add rfl rfl rfl (by omega)) (RG.ml rfl (RG.nil ?_)))))
     exact ⟨rfl, i + 1, v49, (by omega), ⟨rfl, rfl, trivial⟩, ⟨rfl, rfl, rfl, trivial⟩, ((Cv.p (C := osl 2 intT v49 (cvTo (erCls l.cells.xs) d.rules.xs i ++ [(zsw39.length : Int)]) :: blk b2 26 (libT.enc l) :: blk b3 29 (deckT.enc d) :: L)).trans (Cv.eqS hst.symm)), by omega⟩
    ·have h8 : chkE (flyL (erCls l.cells.xs) (i : Int)) d.rules.xs ≠ 0 := by simpa using h8
     have hzl : (-1 : Int) = cvAt (erCls l.cells.xs) d.rules.xs i := by rw [cvAt, if_pos h7, if_neg h8]
     rw [<- hzl] at hst
     refine WP.skip (WP.region (RG.p (PV.move (v := q) rfl rfl) (RG.ml rfl ?_)))
     refine RG.ot rfl (OT.bslice (F := intT) (els := [_]) rfl El45 rfl (by decide) rfl (by decide) ⟨rfl, (Cl.c rfl), trivial⟩ fun v48 => ?_)
     refine RG.ot rfl (OT.append (v := q) (u := v48) (F := intT) rfl El45 rfl (by decide) rfl rfl Rs.o (OneL.c (fun _ => rfl)) rfl (by first | omega | (simp <;> omega)) fun v49 => ?_)
     refine RG.p (PV.asg (v := v49) rfl rfl) (RG.nil (WP.region (RG.p (PV.add rfl rfl rfl (by omega)) (RG.ml rfl (RG.nil ?_)))))
     exact ⟨rfl, i + 1, v49, (by omega), ⟨rfl, rfl, trivial⟩, ⟨rfl, rfl, rfl, trivial⟩, ((Cv.p (C := osl 2 intT v49 (cvTo (erCls l.cells.xs) d.rules.xs i ++ [-1]) :: blk b2 26 (libT.enc l) :: blk b3 29 (deckT.enc d) :: L)).trans (Cv.eqS hst.symm)), by omega⟩
   ·have h7 : shE (erCls l.cells.xs) (i : Int) ≠ 0 := by simpa using h7
    have hzl : (-1 : Int) = cvAt (erCls l.cells.xs) d.rules.xs i := by rw [cvAt, if_neg h7]
    rw [<- hzl] at hst
    refine WP.skip (WP.region (RG.p (PV.move (v := q) rfl rfl) (RG.ml rfl ?_)))
    refine RG.ot rfl (OT.bslice (F := intT) (els := [_]) rfl El45 rfl (by decide) rfl (by decide) ⟨rfl, (Cl.c rfl), trivial⟩ fun v48 => ?_)
    refine RG.ot rfl (OT.append (v := q) (u := v48) (F := intT) rfl El45 rfl (by decide) rfl rfl Rs.o (OneL.c (fun _ => rfl)) rfl (by first | omega | (simp <;> omega)) fun v49 => ?_)
    refine RG.p (PV.asg (v := v49) rfl rfl) (RG.nil (WP.region (RG.p (PV.add rfl rfl rfl (by omega)) (RG.ml rfl (RG.nil ?_)))))
    exact ⟨rfl, i + 1, v49, (by omega), ⟨rfl, rfl, trivial⟩, ⟨rfl, rfl, rfl, trivial⟩, ((Cv.p (C := osl 2 intT v49 (cvTo (erCls l.cells.xs) d.rules.xs i ++ [-1]) :: blk b2 26 (libT.enc l) :: blk b3 29 (deckT.enc d) :: L)).trans (Cv.eqS hst.symm)), by omega⟩
  ·have h6 := odf h6
   obtain rfl : i = l.cells.xs.length := by omega
   rw [hE] at k
   refine WP.exit (WP.sr (RG.p (PV.move (v := q) rfl rfl) (RG.p (PV.asg (v := q) rfl rfl) (RG.mr rfl (RG.nil ?_)))))
   exact WP.ret ⟨_, _, ResV.two rfl rfl rfl, Cv.p, k q⟩
set_option maxHeartbeats 4000000
theorem hcE_zeroC {cs : List ECell} {cell : Int} {rs : List Rule} (h : hcE cs cell rs = 0) : shE cs cell = 0 ∧ chkE (flyL cs cell) rs = 0 := by
 by_cases c : shE cs cell = 0
 ·rw [hcE, if_pos c] at h; exact ⟨c, h⟩
 ·rw [hcE, if_neg c] at h; exact absurd h c
theorem reach_leC (q : Rule) (h : 0 <= reach q) : within (reach q) 0 8 = true := by have := reach_bd h; simp [within, h, this]
theorem cfE_at {cs : List ECell} {cell : Int} {q : Rule} (h : shE cs cell = 0) (hr : 0 <= reach q) : cfE cs cell (reach q) = 0 := by
 rw [cfE, decide_eq_true h, reach_leC q hr]; rfl
theorem gd_cvTo {cs : List ECell} {rs : List Rule} {i n : Nat} (h : i < n) : gd (cvTo cs rs n) i = cvAt cs rs i := by
 rw [cvTo, gd_map _ (by simpa using h), range_gd h]
theorem law_FnCellCounts {cv : Value} {bs : List UInt8} (hcode : SL G byteT cv bs) (k : R (.bool true) G L) : CallT Tryz.prog 5 #[cv] G L R := by
 refine CallT.enter (args := _) Tryz.func5 rfl rfl (by kernel_rfl) rfl ?_
 refine WP.sr (RG.br rfl (RG.nil (WP.seq (WP.sr (RG.p (PV.move (v := cv) rfl rfl) ?_)))))
 refine RG.callF (vs := [cv]) rfl rfl En6 rfl (big_s hcode ?_)
 refine RG.nil ?_
 refine WP.cond rfl (fun h1 => ?_) fun h1 => ?_
 ·refine WP.seq ?_
  refine WP.region (RG.br rfl (RG.nil ?_))
  exact WP.ret ⟨_, _, rv rfl rfl, Cv.p, k⟩
 ·skip
  refine WP.skip (WP.sr (RG.p (PV.move (v := cv) rfl rfl) ?_))
  refine RG.callF (vs := [cv]) rfl rfl En7 rfl (drawHC_f hcode (fun v1 xs1 n1 u1 rs1 e1 s1 l1 r1 => ?_))
  refine RG.p (PV.move (v := .tuple _) rfl rfl) (RG.p (PV.ext rfl rfl rfl) (RG.p (PV.ext rfl rfl rfl) (RG.p (PV.ext rfl rfl rfl) ?_)))
  refine RG.ot rfl (OT.alloc rfl Zr26 fun b3 => ?_)
  refine RG.ot rfl (OT.alloc rfl Zr29 fun b5 => ?_)
  refine RG.ot rfl (OT.storeW (vs := [_]) rfl Sz26 rfl rfl (Cl.c rfl) rfl rfl (OneC.sl (SlF.o (v := v1)) OneC.nil) ?_)
  refine RG.mr rfl ?_
  refine RG.ot rfl (OT.storeW (vs := [_]) rfl Sz29 rfl rfl (Cl.c rfl) rfl rfl (OneC.sl (SlF.o (v := u1)) OneC.nil) ?_)
  refine RG.nil (WP.sr (RG.p (PV.loadW rfl Ag26 rfl rfl) (RG.ml rfl (RG.p (PV.loadW rfl Ag29 rfl rfl) ?_))))
  refine RG.callF (vs := [_, _, _]) rfl rfl En8 rfl (hc_r (l := ⟨⟨v1, xs1⟩⟩) (d := ⟨⟨u1, rs1⟩⟩) ⟨Rs.o, RsE.o, RsE.o, RsE.o⟩ s1.lenC Rs.o (fun w30 zsw30 hzw30 => ?_))
  refine RG.p (PV.move (v := .tuple _) rfl rfl) (RG.p (PV.ext (v := w30) rfl rfl rfl) (RG.p (PV.ext rfl rfl rfl) (RG.p (PV.ext rfl rfl rfl) (RG.p (PV.asg (v := w30) rfl rfl) (RG.mr rfl (RG.mr rfl (RG.nil (WP.seq (WP.sr (RG.ml rfl (RG.p (PV.neq rfl rfl rfl) (RG.nil ?_))))))))))))
  refine WP.cond rfl (fun h2 => ?_) fun h2 => ?_
  ·refine WP.seq ?_
   refine WP.region (RG.br rfl (RG.nil ?_))
   exact WP.ret ⟨_, _, rv rfl rfl, Cv.p, k⟩
  ·have hb : hcE (erCls xs1) n1 rs1 = 0 := by simpa using h2
   obtain ⟨z1, z2⟩ := hcE_zeroC hb
   refine WP.skip (WP.sr (RG.p (PV.loadW rfl Ag26 rfl rfl) (RG.ml rfl (RG.p (PV.loadW rfl Ag29 rfl rfl) ?_))))
   refine RG.callF (vs := [_, _, _]) rfl rfl En9 rfl (hc_i (l := ⟨⟨v1, xs1⟩⟩) (d := ⟨⟨u1, rs1⟩⟩) ⟨Rs.o, RsE.o, RsE.o, RsE.o⟩ s1.lenC Rs.o (fun w40 zsw40 hzw40 => ?_))
   refine RG.p (PV.move (v := .tuple _) rfl rfl) (RG.p (PV.ext (v := w40) rfl rfl rfl) (RG.p (PV.ext rfl rfl rfl) (RG.p (PV.ext rfl rfl rfl) (RG.p (PV.asg (v := w40) rfl rfl) (RG.mr rfl (RG.mr rfl (RG.nil (WP.sr (RG.p (PV.move (v := cv) rfl rfl) ?_)))))))))
   refine RG.callF (vs := [cv]) rfl rfl En7 rfl (drawHC_f hcode (fun v2 xs2 n2 u2 rs2 e2 s2 l2 r2 => ?_))
   refine RG.p (PV.move (v := .tuple _) rfl rfl) (RG.p (PV.ext rfl rfl rfl) (RG.p (PV.ext rfl rfl rfl) (RG.p (PV.ext rfl rfl rfl) ?_)))
   refine RG.ot rfl (OT.storeW (vs := [_]) rfl Sz26 rfl rfl (Cl.c rfl) rfl rfl (OneC.sl (SlF.o (v := v2)) OneC.nil) ?_)
   refine RG.mr rfl ?_
   refine RG.ot rfl (OT.storeW (vs := [_]) rfl Sz29 rfl rfl (Cl.c rfl) rfl rfl (OneC.sl (SlF.o (v := u2)) OneC.nil) ?_)
   refine RG.nil (WP.sr (RG.p (PV.loadW rfl Ag26 rfl rfl) (RG.p (PV.loadW rfl Ag29 rfl rfl) ?_)))
   refine RG.callF (vs := [_, _]) rfl rfl En23 rfl (cv_i (l := ⟨⟨v2, xs2⟩⟩) (d := ⟨⟨u2, rs2⟩⟩) ⟨Rs.o, RsE.o, RsE.o, RsE.o⟩ s2.lenC Rs.o (fun w53 => ?_))
   refine RG.p (PV.move (v := .tuple _) rfl rfl) (RG.p (PV.ext (v := w53) rfl rfl rfl) (RG.p (PV.ext rfl rfl rfl) (RG.p (PV.asg (v := w53) rfl rfl) (RG.mr rfl (RG.nil (WP.sr (RG.mr rfl (RG.nil (WP.seq (WP.sr (RG.mr rfl ?_)))))))))))
   refine RG.nil (WP.block ?_)
   have q12 := e1.symm.trans e2
   simp only [Prod.mk.injEq] at q12
   obtain ⟨⟨qa, qb⟩, qc⟩ := q12
   have z3 : shE (erCls xs2) n2 = 0 := by rw [<- qa, <- qb]; exact z1
   have z4 : chkE (flyL (erCls xs2) n2) rs2 = 0 := by rw [<- qa, <- qb, <- qc]; exact z2
   obtain ⟨z5, z6, z7⟩ := shE_lib z3
   have z8 : (okLib (erCls xs2) && deckOk rs2) = true := by rw [z5, (chkE_deck z4).1]; rfl
   have hcv : cvR (erCls xs2) rs2 = cvTo (erCls xs2) rs2 (erCls xs2).length := by rw [cvR, if_pos z8]
   have hce : cvE (erCls xs2) rs2 = 0 := by rw [cvE, if_pos z8]
   have hcl : (cvR (erCls xs2) rs2).length = (erCls xs2).length := by rw [hcv, cvTo_len]
   have hel : (erCls xs2).length = xs2.length := erCls_len xs2
   have hlen40 : (zsw40.length : Int) = cvAt (erCls xs2) rs2 n2.toNat := by
    rw [cvAt, show ((n2.toNat : Nat) : Int) = n2 by omega, if_pos z3, if_pos z4, <- erVs_len, hzw40, hcR, if_pos z1, chkR, if_pos z2, qa, qb, qc]
   have hget : gd (cvR (erCls xs2) rs2) n2.toNat = (zsw40.length : Int) := by rw [hcv, gd_cvTo (by omega), hlen40]
   have hn : cntS (erCls xs2) n2 rs2 = hcN (erCls xs1) n1 rs1 := by rw [hcN, if_pos hb, qa, qb, qc]
   refine WP.loop2 [3, 4, 5, 9, 10, 11, 12, 13] (fun (i : Nat) (s : Int) => i <= rs2.length ∧ s = cntS (erCls xs2) n2 (rs2.take i)) (fun (i : Nat) (s : Int) => [(15, vi i), (14, vi s)]) (fun (i : Nat) (s : Int) => osl 74 violT w40 zsw40 :: osl 2 intT w53 (cvR (erCls xs2) rs2) :: osl 95 cellT v2 (xs2) :: bagS 109 shapeT (shs (xs2)) :: bagS 182 labelT (lbs (xs2)) :: bagS 111 instT (ins (xs2)) :: osl 42 ruleT u2 rs2 :: blk b3 26 [v2] :: blk b5 29 [u2] :: L) (fun (i : Nat) (s : Int) => rs2.length - i) 0 0 ⟨by omega, by simp [cntS, costL]⟩ ⟨rfl, rfl, trivial⟩ Cv.p ?_
   rintro i s τ ⟨hi, hs⟩
   refine WP.seq (WP.sr (RG.ml rfl (RG.p (PV.field rfl Fo29_0 rfl) (RG.p (PV.load1 rfl Sc27 rfl (Rd.blk rfl)) (RG.p (PV.len (v := u2) rfl Tryz.underlying27 rfl SlF.o) (RG.p (PV.lss rfl rfl rfl) (RG.nil ?_)))))))
   have hsb := cntS_bd (erCls xs2) n2 (rs2.take i)
   rw [List.length_take, <- hs] at hsb
   refine WP.cond rfl (fun h5 => ?_) fun h5 => ?_
   ·have h5 := odt h5
    have hst := cntS_take (cs := erCls xs2) (cell := n2) (rs := rs2) (i := i) (by omega)
    have hfb := cntF2_bd (erCls xs2) n2 (gd rs2 i)
    refine WP.skip (WP.seq (WP.block (WP.sr (RG.p (PV.field rfl Fo29_0 rfl) (RG.p (PV.load1 rfl Sc27 rfl (Rd.blk rfl)) (RG.ml rfl (RG.p (PV.idxS (v := u2) rfl Is27 rfl SlF.o rfl rfl (by omega)) (RG.p (PV.loadE rfl Ag42 rfl rfl (El.o (getG (by omega)))) ?_))))))))
    refine RG.callF (vs := [_]) rfl rfl En15 rfl (reach_s ?_)
    refine RG.p (PV.geq rfl rfl rfl) (RG.nil ?_)
    refine WP.cond rfl (fun h6 => ?_) fun h6 => ?_
    ·have h6 := odt h6
     have e4 : cntF2 (erCls xs2) n2 (gd rs2 i) = (cfR (erCls xs2) n2 (reach (gd rs2 i))).length := by rw [cntF2, if_pos h6]
     rw [e4] at hst hfb
     have hcf := cfE_at (cell := n2) z3 h6
     refine WP.seq ?_
     refine WP.regionH0 (.q 0 (.q 1 (.q 2 (.q 3 (.q 4 (.q 5 (.q 6 (.l 7 (.l 8 (.q 9 (.q 10 (.q 11 (.q 12 (.q 13 Sch.nil)))))))))))))) (by kernel_rfl) (by kernel_rfl) (by kernel_rfl) rfl ?_
     refine RH.w rfl rfl (PV.loadW rfl Ag26 rfl rfl) (RH.w rfl rfl (PV.mvI (.inl rfl) rfl) (RH.w rfl rfl (PV.field rfl Fo29_0 rfl) (RH.w rfl rfl (PV.load1 rfl Sc27 rfl (Rd.blk rfl)) (RH.w rfl rfl (PV.mvI (.inl rfl) rfl) (RH.w rfl rfl (PV.idxS (v := u2) rfl Is27 rfl SlF.o rfl rfl (by omega)) (RH.w rfl rfl (PV.loadE rfl Ag42 rfl rfl (El.o (getG (by omega)))) ?_))))))
     refine RH.ot rfl rfl (OT.callF (vs := [_]) rfl En15 rfl (reach_s (kp ?_)))
     refine RH.ot rfl rfl (OT.callF (vs := [_, _, _]) rfl En24 rfl (allFree_i (l := ⟨⟨v2, xs2⟩⟩) ⟨Rs.o, RsE.o, RsE.o, RsE.o⟩ s2.lenC (fun w79 => have hfc := cfR_len (erCls (Lib.cells (⟨⟨v2, xs2⟩⟩ : Lib)).xs) n2 (reach (gd rs2 i)); (kp ?_))))
     refine RH.w rfl rfl (PV.move (v := .tuple _) rfl rfl) (RH.w rfl rfl (PV.ext (v := w79) rfl rfl rfl) (RH.w rfl rfl (PV.ext rfl rfl rfl) (RH.w rfl rfl (PV.asg (v := w79) rfl rfl) (RH.w rfl rfl (PV.mvI (.inr rfl) rfl) (RH.nil (WP.seq (WP.sr (RG.ml rfl (RG.p (PV.neq rfl rfl rfl) (RG.nil ?_))))))))))
     refine WP.cond rfl (fun h7 => ?_) fun h7 => ?_
     ·exfalso
      simp [hcf] at h7
     ·refine WP.skip ?_
      refine WP.region (RG.ml rfl (RG.p (PV.move (v := w79) rfl rfl) (RG.p (PV.len (v := w79) rfl Tryz.underlying45 rfl SlF.o) (RG.p (PV.add rfl rfl rfl (by omega)) (RG.mr rfl (RG.nil (WP.region (RG.ml rfl (RG.p (PV.add rfl rfl rfl (by omega)) (RG.mr rfl (RG.nil ?_)))))))))))
      exact ⟨rfl, i + 1, _, ⟨by omega, by rw [hst, hs]⟩, ⟨rfl, rfl, trivial⟩, ⟨rfl, rfl, rfl, rfl, rfl, rfl, rfl, rfl, trivial⟩, Cv.p, by omega⟩
    ·have h6 := odf h6
     have e4 : cntF2 (erCls xs2) n2 (gd rs2 i) = 0 := by rw [cntF2, if_neg h6]
     rw [e4] at hst
     refine WP.skip (WP.region (RG.ml rfl (RG.p (PV.add rfl rfl rfl (by omega)) (RG.mr rfl (RG.nil ?_)))))
     exact ⟨rfl, i + 1, s, ⟨by omega, by rw [hst, hs]; simp⟩, ⟨rfl, rfl, trivial⟩, ⟨rfl, rfl, rfl, rfl, rfl, rfl, rfl, rfl, trivial⟩, Cv.p, by omega⟩
   ·have h5 := odf h5
    rw [List.take_of_length_le (by omega)] at hs
    refine WP.exit (WP.sr (RG.ml rfl (RG.p (PV.eql rfl rfl rfl) (RG.bl rfl ?_))))
    refine RG.spl (t := 90) rfl (fun g1 => ?_) (fun g1 => ?_)
    ·refine RG.take rfl rfl rfl g1 ?_
     refine RG.ml rfl ?_
     refine RG.take rfl rfl rfl g1 ?_
     refine RG.p (PV.eql rfl rfl rfl) (RG.p (PV.pickT rfl rfl g1 rfl) (RG.bl rfl ?_))
     refine RG.spl (t := 94) rfl (fun g2 => ?_) (fun g2 => ?_)
     ·refine RG.take rfl rfl rfl g2 ?_
      refine RG.p (PV.move (v := w53) rfl rfl) ?_
      refine RG.take rfl rfl rfl g2 ?_
      refine RG.p (PV.len (v := w53) rfl Tryz.underlying45 rfl SlF.o) ?_
      refine RG.take rfl rfl rfl g2 ?_
      refine RG.ml rfl ?_
      refine RG.take rfl rfl rfl g2 ?_
      refine RG.p (PV.gtr rfl rfl rfl) (RG.p (PV.pickT rfl rfl g2 rfl) (RG.bl rfl ?_))
      refine RG.spl (t := 100) rfl (fun g3 => ?_) (fun g3 => ?_)
      ·refine RG.take rfl rfl rfl g3 ?_
       refine RG.p (PV.move (v := w53) rfl rfl) ?_
       refine RG.take rfl rfl rfl g3 ?_
       refine RG.ml rfl ?_
       refine RG.take rfl rfl rfl g3 ?_
       refine RG.p (PV.idxS (j := n2.toNat) (v := w53) rfl Is45 rfl SlF.o rfl (by first | omega | (simp only [List.length_set]; omega)) (by first | omega | (simp only [List.length_set]; omega))) ?_
       refine RG.take rfl rfl rfl g3 ?_
       refine RG.p (PV.loadE1 rfl Sc2 rfl rfl (El.o (getG (by omega))) rfl) ?_
       refine RG.take rfl rfl rfl g3 ?_
       refine RG.p (PV.move (v := w40) rfl rfl) ?_
       refine RG.take rfl rfl rfl g3 ?_
       refine RG.p (PV.len (v := w40) rfl Tryz.underlying32 rfl SlF.o) ?_
       refine RG.take rfl rfl rfl g3 ?_
       refine RG.p (PV.eql rfl rfl rfl) (RG.p (PV.pickT rfl rfl g3 rfl) (RG.bl rfl ?_))
       refine RG.spl (t := 109) rfl (fun g4 => ?_) (fun g4 => ?_)
       ·refine RG.take rfl rfl rfl g4 ?_
        refine RG.ml rfl ?_
        refine RG.take rfl rfl rfl g4 ?_
        refine RG.ml rfl ?_
        refine RG.take rfl rfl rfl g4 ?_
        refine RG.p (PV.eql rfl rfl rfl) (RG.p (PV.pickT rfl rfl g4 rfl) (RG.br rfl (RG.nil ?_)))
        refine WP.ret ?_
        have e : decide (s = hcN (erCls xs1) n1 rs1) = true := by rw [hs, hn]; simp
        rw [<- e] at k
        exact ⟨_, _, rv rfl rfl, Cv.p, k⟩
       ·exfalso
        simp [hget] at g4
      ·exfalso
       simp at g3
       omega
     ·exfalso
      simp [hce] at g2
    ·exfalso
     simp [hb] at g1
open Go Go.ChangeShapes Go.WideShapes Go.ChangeAt Go.RowKit Go.Deep
def Gw (w : World) : Gh := ⟨wh w, w.os, w.tape, w.output, w.drawn⟩
theorem St.start (w : World) : St (Gw w) [] w := ⟨fun _ => none, trivial, Hp.le_refl _, (fun _ _ h => by cases h), fun _ => .inl rfl, rfl, rfl, rfl, Nat.le_refl _⟩
theorem St.below {W w' : World} {G : Gh} {L : List Ch} (l : Gh.le (Gw W) G) (h : St G L w') : Below W.heap.size W w' := by
 obtain ⟨hp, s, l1, l2, d, ok⟩ := h
 have ok' := Gh.le_ok l ok
 have up := Hp.le_trans l.1 l1
 have key : ∀ k, k < W.heap.size -> w'.heap[k]? = W.heap[k]? := fun k hk => by
  have : (Gw W).f k = some W.heap[k] := by simp [Gw, wh, hk]
  have h2 := up k _ this
  simp only [wh] at h2
  rw [h2]; simp [hk]
 refine ⟨ok'.1, ok'.2.1, ok'.2.2.1, ?_, key⟩
 by_cases h0 : W.heap.size = 0
 ·omega
 ·have := key (W.heap.size - 1) (by omega)
  rw [Array.getElem?_eq_getElem (by omega : W.heap.size - 1 < W.heap.size)] at this
  have := (Array.getElem?_eq_some_iff.1 this).1
  omega
def Opn {ρ : Type} (P : Program) (t : TypeId) (F : FT ρ) (ok : Gh -> ρ -> Prop) : Prop :=
  ∀ {H : Type} {enc : TypeId × Value -> H} {w : World} {fuel : Nat} {cs : List Value} {x : DataW H × List MemPlace}, DataW.trod enc P w 0 (fun _ => true) true fuel t cs = some x -> ∃ a : ρ, cs = F.enc a ∧ ok (Gw w) a
def okL {ρ : Type} [Inhabited ρ] (F : FT ρ) (ok : Gh -> ρ -> Prop) (G : Gh) (v : Value) : Prop := ∃ xs : List ρ, SL G F v xs ∧ ∀ i, i < xs.length -> ok G (gd xs i)
section
variable {P : Program} {t e : TypeId}
theorem cells_get {w : World} {a : Addr} {n : Nat} {cs : List Value} (h : w.cells? 0 a n = some cs) : cs.length = n ∧ ∀ j c, cs[j]? = some c -> w.cell? (a.add j) = some c := by
 obtain ⟨_, h1, h2⟩ := World.cells?_some h
 refine ⟨h1, fun j c hc => ?_⟩
 have hj := (List.getElem?_eq_some_iff.1 hc).1
 rw [h2 j (by omega), hc]
theorem opnL {ρ : Type} [Inhabited ρ] {F : FT ρ} {ok : Gh -> ρ -> Prop} (ht : P.underlying t = some (.slice e)) (hE : Opn P e F ok) (hc : P.cellsOf e = F.sz) (h0 : 0 < F.sz) : Opn P t rawT (okL F ok) := fun {H enc w fuel cs x} h => by
 rcases open_slice ht h with ⟨rfl, _⟩ | ⟨a, len, cap, m, n, D, Pl, rfl, _, hl, hm, hmm, _, hel⟩
 ·exact ⟨_, rfl, [], ⟨⟨0, Nat.le_refl _, Nat.zero_le _, .inr ⟨⟨_, rfl⟩, rfl⟩⟩, fun j c hj => by simp [FT.flat] at hj⟩, fun i hi => by simp at hi⟩
 have hmcap : m = cap := by simpa using hmm
 refine ⟨.slice (some a) len cap, rfl, ?_⟩
 have hall : ∀ i, i < len -> ∃ r : ρ, w.cells? 0 (a.add (i * F.sz)) F.sz = some (F.enc r) ∧ ok (Gw w) r := fun i hi => by
  obtain ⟨cs', h1, h2⟩ := hel i (by omega)
  obtain ⟨r, rfl, hr⟩ := hE h2
  rw [hc] at h1
  exact ⟨r, h1, hr⟩
 have : ∃ f : Nat -> ρ, ∀ i, i < len -> w.cells? 0 (a.add (i * F.sz)) F.sz = some (F.enc (f i)) ∧ ok (Gw w) (f i) := choose_lt hall
 obtain ⟨f, hf⟩ := this
 have hlen : ((List.range len).map f).length = len := by simp
 have hget : ∀ i, i < len -> ((List.range len).map f)[i]? = some (f i) := fun i hi => by simp [hi]
 have hsp : len ≠ 0 -> a.spot = none := fun hz => by
  obtain ⟨h1, _⟩ := hf 0 (by omega)
  obtain ⟨hl1, hg⟩ := cells_get h1
  cases hq : (F.enc (f 0))[0]? with
  | none => rw [List.getElem?_eq_none_iff] at hq; omega
  | some c =>
   have hcell := hg 0 c hq
   cases hs : a.spot with
   | none => rfl
   | some s =>
    exfalso
    have h3 : ((a.add (0 * F.sz)).add 0).spot.isSome = true := by simp [Addr.add, hs]
    unfold World.cell? at hcell
    split at hcell
    ·rw [if_pos h3] at hcell; cases hcell
    ·cases hcell
 refine ⟨(List.range len).map f, ⟨⟨cap, by simpa using hl, hm, ?_⟩, ?_⟩, fun i hi => ?_⟩
 ·by_cases hz : len = 0
  ·exact .inr ⟨⟨some a, by simp⟩, by simpa using hz⟩
  ·refine .inl ⟨a.block, a.off, ?_⟩
   have hsp := hsp hz
   simp only [hlen]
   obtain ⟨ab, ao, az⟩ := a
   simp only at hsp
   subst hsp; rfl
 ·intro j c hj
  by_cases hz : len = 0
  ·subst hz; simp [FT.flat] at hj
  have hsp := hsp hz
  have hjl : j < len * F.sz := by
   have := (List.getElem?_eq_some_iff.1 hj).1
   rwa [FT.flat_len, hlen] at this
  have hq : j / F.sz < len := (Nat.div_lt_iff_lt_mul h0).2 hjl
  have hr : j % F.sz < F.sz := Nat.mod_lt _ h0
  have hjd : j / F.sz * F.sz + j % F.sz = j := by rw [Nat.mul_comm]; exact Nat.div_add_mod j F.sz
  obtain ⟨h1, _⟩ := hf (j / F.sz) hq
  obtain ⟨_, hg⟩ := cells_get h1
  have hc' : (F.enc (f (j / F.sz)))[j % F.sz]? = some ((F.enc (f (j / F.sz)))[j % F.sz]'(by rw [F.len]; exact hr)) := List.getElem?_eq_getElem _
  have hfl := F.flat_get (hget _ hq) hc'
  rw [hjd, hj] at hfl
  have hcell := hg _ _ hc'
  obtain ⟨ab, ao, az⟩ := a
  simp only at hsp
  subst hsp
  rw [add_none, add_none, cell_hc, Nat.add_assoc, hjd] at hcell
  simp only [sb, so, Gw]
  rw [hcell]; exact hfl.symm
 ·have hi' : i < len := by simpa using hi
  have : gd ((List.range len).map f) i = f i := by simp [gd, hi']
  rw [this]; exact (hf i hi').2
end
def okSl {ρ : Type} [Inhabited ρ] (F : FT ρ) (ok : Gh -> ρ -> Prop) (G : Gh) (s : Sl ρ) : Prop := SL G F s.v s.xs ∧ ∀ i, i < s.xs.length -> ok G (gd s.xs i)
theorem opnSl {P : Program} {t e : TypeId} {ρ : Type} [Inhabited ρ] {F : FT ρ} {ok : Gh -> ρ -> Prop} (ht : P.underlying t = some (.slice e)) (hE : Opn P e F ok) (hc : P.cellsOf e = F.sz) (h0 : 0 < F.sz) : Opn P t slT (okSl F ok) := fun h => by
 obtain ⟨v, rfl, xs, h1, h2⟩ := opnL ht hE hc h0 h
 exact ⟨⟨v, xs⟩, rfl, h1, h2⟩
section
variable {P : Program} {t e : TypeId} {H : Type} {enc : TypeId × Value -> H} {W : World} {r : Reach} {base : Nat} {v : Value} {d : DataW H} {ps : List MemPlace}
theorem argSl {ρ : Type} {ok : Gh -> Sl ρ -> Prop} (ht : P.underlying t = some (.slice e)) (hO : Opn P t slT ok) (hv : Value.okWide P W r base t v) (h : DataW.Trod enc P W 0 (fun _ => true) true t v d ps) : ∃ s : Sl ρ, v = s.v ∧ ok (Gw W) s := by
 obtain ⟨a, n, c, rfl⟩ := okWide_slice ht hv
 obtain ⟨fuel, hf⟩ := h
 obtain ⟨m, e1, hm⟩ := hO hf
 simp [Value.cells, slT] at e1
 exact ⟨m, e1, hm⟩
theorem trodAll_stays (hl : laidOutB P = true) {W' : World} (hb : Below W.heap.size W W') : ∀ {ts : List TypeId} {vs : List Value} {ds : List (DataW H)} {ps : List MemPlace}, (∀ t ∈ ts, P.readableRec t = true ∧ t < P.types.size) -> (∀ x ∈ ps, x.block < W.heap.size) ->
  DataW.TrodAll enc P W 0 (fun _ => true) true ts vs ds ps -> DataW.TrodAll enc P W' 0 (fun b => decide (b < W.heap.size)) true ts vs ds ps
 | [], [], [], _, _, _, h => h
 | t :: ts, v :: vs, d :: ds, ps, hr, hlt, h => by
  obtain ⟨p, q, h1, h2, rfl⟩ := h
  have := hr t (.head _)
  exact ⟨p, q, Below.trod hl this.1 this.2 h1 hb (fun x hx => hlt x (List.mem_append_left _ hx)), trodAll_stays hl hb (fun t ht => hr t (.tail _ ht)) (fun x hx => hlt x (List.mem_append_right _ hx)) h2, rfl⟩
end
def recsB (P : Program) (ts : List TypeId) : Bool := ts.all fun t => P.readableRec t && Nat.blt t P.types.size
theorem recs_of {P : Program} {ts : List TypeId} (h : recsB P ts = true) : ∀ t ∈ ts, P.readableRec t = true ∧ t < P.types.size := by
 intro t ht
 have := List.all_eq_true.1 h t ht
 simp only [Bool.and_eq_true] at this
 exact ⟨this.1, Nat.le_of_ble_eq_true this.2⟩
theorem law_lifted {H : Type} {enc : TypeId × Value -> H} {C : Checked} {os : Os} {f : FuncId} {fn : Func} {s : ChangeSpec} {tb : TypeId} (own : ownKnob C.prog.godebug = none) (started : os.Started) (noInit : C.prog.inits.idxOf? f = none) (hfn : C.prog.funcs[f]? = some fn) (hl : laidOutB C.prog = true)
  (hvars : s.vars = []) (hr : recsB C.prog fn.params.toList = true) (hres : fn.resultTypes = #[tb]) (htb : C.prog.underlying tb = some .bool)
  (hsp : ∀ ds : List (DataW H), ds.length = fn.params.toList.length -> s.fn H ds = { results := [.lit (.bool true)], args := ds })
  (witness : ∃ (w : World) (tape : Tape) (i : Input), w.os = os ∧ (w.forCall tape i).Shaped C.prog ∧ i.vars = [] ∧ Input.okWide C.prog (w.forCall tape i) .any w.heap.size f i ∧
   s.pre6 enc C.prog fn [] false (w.forCall tape i).memory i.args ∧ ({} : Assume).holds C.prog (lone (Frame.enter C.prog f i.args .normal) [] (w.forCall tape i)))
  (walk : ∀ (W : World) (base : Nat) (args : Array Value) (ds : List (DataW H)) (ps : List MemPlace), (∀ (j : Nat) t v, fn.params[j]? = some t -> args[j]? = some v -> Value.okWide C.prog W .any base t v) ->
   DataW.TrodAll enc C.prog W 0 (fun _ => true) true fn.params.toList args.toList ds ps -> CallT C.prog f args (Gw W) [] fun v G _ => v = .bool true ∧ Gh.le (Gw W) G) :
  ReturnsInHanded {} C os f .any (s.pre6 enc C.prog fn [] false) (s.post enc C.prog fn false true false false) := by
 refine returnsInHanded_of_change own started noInit hfn witness ?_
 intro W base args ds gs before hval hW _ _
 have hW' := hW
 obtain ⟨p, q, hA, hV, rfl, hfz, hnd⟩ := hW
 rw [hvars] at hV
 obtain ⟨rfl, rfl⟩ := trodVars_none hV
 refine ((walk W base args ds p hval hA).run (St.start W)).mono ?_
 rintro e W' ⟨v, G, L, rfl, hs, rfl, hG⟩
 have hb := hs.below hG
 have hlt : ∀ x ∈ p, x.block < W.heap.size := fun x hx => hW'.lt x (List.mem_append_left _ hx)
 have hlen : ds.length = fn.params.toList.length := by
  have : ∀ (ts : List TypeId) (vs : List Value) (ds : List (DataW H)) (ps : List MemPlace), DataW.TrodAll enc C.prog W 0 (fun _ => true) true ts vs ds ps -> ds.length = ts.length := by
   intro ts
   induction ts with
   | nil => intro vs ds ps h; cases vs <;> cases ds <;> simp_all [DataW.TrodAll]
   | cons t ts ih =>
    intro vs ds ps h
    cases vs <;> cases ds <;> simp only [DataW.TrodAll] at h
    obtain ⟨_, _, _, h2, _⟩ := h
    simp [ih _ _ _ h2]
  exact this _ _ _ _ hA
 refine ⟨_, rfl, ds, [], _, [], p, [], hW', ?_, ?_, ?_, hb.frame _, fun h => by cases h⟩
 ·rw [List.append_nil, hsp ds hlen, hres]
  exact trodAll_mk1 (shut_bool htb true)
 ·rw [List.append_nil, hsp ds hlen]
  exact trodAll_stays hl hb (recs_of hr) hlt hA
 ·rw [List.append_nil, hsp ds hlen, hvars]
  exact rfl
end Go.Proofs.YtogocmlhnjiaaaaGreat
namespace Go.Proofs.YtogocmlhnjiaaaaGreat
open Go Go.ChangeShapes Go.WideShapes Go.ChangeAt Go.RowKit
def okU8 (_ : Gh) (_ : UInt8) : Prop := True
theorem opnU8 {P : Program} {t : TypeId} (ht : P.underlying t = some (.int .u8)) : Opn P t byteT okU8 := fun h => by
 obtain ⟨n, rfl, _, hw⟩ := DataW.trod_int ht h
 have : IntKind.u8.min <= n ∧ n <= IntKind.u8.max := by simpa [Lit.wf] using hw
 simp only [show IntKind.u8.min = 0 from rfl, show IntKind.u8.max = 255 from rfl] at this
 refine ⟨UInt8.ofNat n.toNat, ?_, trivial⟩
 simp only [byteT, UInt8.toNat_ofNat']
 congr 2
 omega
set_option maxRecDepth 100000
theorem Tryz.own : ownKnob Tryz.prog.godebug = none := by kernel_rfl
theorem Tryz.laidOut : laidOutB Tryz.prog = true := by kernel_rfl
theorem fnCellCounts_lifted (os : Os) (started : os.Started) (H : Type) (enc : TypeId × Value -> H) :
  ReturnsInHanded {} Tryz.checked os 5 .any (Rows.fnCellCountsSpec.pre6 enc Tryz.prog Tryz.f5 [] false) (Rows.fnCellCountsSpec.post enc Tryz.prog Tryz.f5 false true false false) := by
 refine law_lifted (C := Tryz.checked) Tryz.own started (by kernel_rfl) Tryz.func5 Tryz.laidOut rfl (by kernel_rfl) rfl Tryz.underlying4 (fun ds h => ?_)
  (ChangeSpec.witness6 (enc := enc) (C := Tryz.checked) false ⟨#[], #[.slice none 0 0], []⟩ 8 (by kernel_rfl) (by kernel_rfl) (by kernel_rfl) (by kernel_rfl)) ?_
 ·match ds, h with
  | [d], _ => rfl
 ·intro W base args ds ps hval hA
  have hA : DataW.TrodAll enc Tryz.prog W 0 (fun _ => true) true Tryz.f5.params.toList args.toList ds ps := hA
  have hval : ∀ (j : Nat) t v, Tryz.f5.params[j]? = some t -> args[j]? = some v -> Value.okWide Tryz.prog W .any base t v := hval
  rw [Tryz.params5] at hA hval
  obtain ⟨v0, d0, rfl, rfl, h0⟩ := trodAll_one hA
  obtain ⟨s, rfl, q1, _⟩ := argSl Tryz.underlying22 (opnSl (F := byteT) (ok := okU8) Tryz.underlying22 (opnU8 Tryz.underlying5) (by kernel_rfl) (by decide)) (hval 0 _ v0 rfl rfl) h0
  exact law_FnCellCounts q1 ⟨rfl, Gh.le_refl _⟩
theorem fnCellCounts_joined : joinedFacts Tryz.pinned.checked.prog 5 Tryz.f5 Rows.fnCellCountsSpec Rows.fnCellCountsRow = true := by kernel_rfl
theorem fnCellCounts_holds : Rows.FnCellCountsSaid :=
 OpenClaim.holds_of_wide 5 Tryz.f5 rfl rfl rfl rfl rfl rfl rfl ⟨rfl, rfl, rfl, rfl, rfl⟩ rfl rfl rfl rfl rfl (by kernel_rfl) Tryz.func5 fnCellCounts_joined
  (odt (by kernel_rfl)) (by unfold Func.isWrapper; first | (rw [if_pos (by decide +kernel)]; kernel_rfl) | (rw [if_neg (by decide +kernel)]; exact ⟨rfl, rfl⟩))
  (fun os started H enc _ => fnCellCounts_lifted os started H enc)
end Go.Proofs.YtogocmlhnjiaaaaGreat
