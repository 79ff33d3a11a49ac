/-
  The law FnContextFree: whatever the code, the law returns true and the code reads as before.
-/
import Derived.Test.YtogocmlhnjiaaaaGreatTC5
import Derived.ProofKit
import Derived.Deep.Slices
import Derived.Carry
import Derived.Test.YtogocmlhnjiaaaaGreatRows
set_option linter.unusedVariables false
set_option linter.unusedSimpArgs false
namespace Go.Proofs.YtogocmlhnjiaaaaGreat
open Go
set_option maxRecDepth 20000
set_option maxHeartbeats 1000000
variable {G : Gh} {L : List Ch} {R : Value -> Gh -> List Ch -> Prop}
theorem gd_p0 {α : Type} [Inhabited α] (a b : α) : gd [a, b] 0 = a := by simp [gd]
theorem gd_p1 {α : Type} [Inhabited α] (a b : α) : gd [a, b] 1 = b := by simp [gd]
structure AtEl (xs : List Cell) (cell n : Int) : Prop where
  hz : shE (erCls xs) cell = 0
  hn : 0 <= n ∧ n < elN (erCls xs) cell
theorem AtEl.lib {xs : List Cell} {cell n : Int} (h : AtEl xs cell n) : okLib (erCls xs) = true ∧ 0 <= cell ∧ cell.toNat < xs.length := by
 have := shE_lib h.hz
 rw [erCls_len] at this
 exact ⟨this.1, by omega, by omega⟩
theorem AtEl.lt {xs : List Cell} {cell n : Int} (h : AtEl xs cell n) : n.toNat < (elems (gd xs cell.toNat).insts.xs).length := by
 have := h.hn
 rw [elN_ns h.lib.2.2] at this
 omega
theorem AtEl.el {xs : List Cell} {cell n : Int} (h : AtEl xs cell n) : (0 <= (gd (elems (gd xs cell.toNat).insts.xs) n.toNat).place.o ∧ (gd (elems (gd xs cell.toNat).insts.xs) n.toNat).place.o <= 7) ∧ ((-80 <= (gd (elems (gd xs cell.toNat).insts.xs) n.toNat).place.x ∧ (gd (elems (gd xs cell.toNat).insts.xs) n.toNat).place.x <= 80) ∧ -80 <= (gd (elems (gd xs cell.toNat).insts.xs) n.toNat).place.y ∧ (gd (elems (gd xs cell.toNat).insts.xs) n.toNat).place.y <= 80) := by
 have := elems_valid (shE_zero h.hz).1 (i := n.toNat) (by have := h.hn; omega)
 rw [erCl_insts h.lib.2.2] at this
 exact validT_iff.1 this
theorem free_no {cs : List ECell} {cell n reach : Int} (h : bndE cs (gd (elems (gd cs cell.toNat).insts) n.toNat).cell ≠ 0) : freeB cs cell n reach = false := by
 simp only [freeB, decide_eq_false h, Bool.false_and]
theorem rootR_in {xs : List Cell} {cell : Int} (hz : shE (erCls xs) cell = 0) {i : Nat} (hi : i < (rootR (erCls xs) cell).length) : RIn 40 (gd (rootR (erCls xs) cell) i).shape.box := by
 have e : rootR (erCls xs) cell = rootL (erCls xs) (occR (erCls xs) cell) := by rw [rootR, decide_eq_true hz]; rfl
 rw [e] at hi ⊢
 have hm : (gd (rootL (erCls xs) (occR (erCls xs) cell)) i).shape ∈ (rootL (erCls xs) (occR (erCls xs) cell)).map RShape.shape := List.mem_map.2 ⟨_, gd_mem hi, rfl⟩
 rw [rootL_flat] at hm
 exact validR_in ((shE_zero hz).2 _ hm)
theorem rootR_len (cs : List ECell) (cell : Int) : (rootR cs cell).length <= 4800 := by
 rw [rootR]
 cases decide (shE cs cell = 0)
 ·simp
 ·rw [cond_true, rootL_len]; exact flatL_len
theorem free1_s {x : RShape} {n reach : Int} {p : Rect} {b1 b2 b3 : Nat} (h1 : Rd G L b1 0 (vi n)) (h2 : RdN G L b2 (rectT.enc p)) (h3 : Rd G L b3 0 (vi reach)) (hx : RBig x.shape.box) (hp2 : RBig p) (hr : 0 <= reach ∧ reach <= 8) (k : R (.bool (nearS n reach p x)) G L) :
  CallT Tryz.prog 95 #[vT rshapeT x, .pointer (some ⟨b1, 0, none⟩), .pointer (some ⟨b2, 0, none⟩), .pointer (some ⟨b3, 0, none⟩)] G L R := by
 refine CallT.enter (args := _) Tryz.func95 rfl rfl (by kernel_rfl) rfl ?_
 refine WP.sr ?_
 refine RG.ot rfl (OT.box (cs := rshapeT.enc x) rfl rfl rfl fun b4 => ?_)
 refine RG.br rfl (RG.nil (WP.seq ?_))
 refine WP.regionQ (by kernel_rfl) (by kernel_rfl) ?_
 refine RQ.pv rfl (PV.field rfl Fo133_0 rfl) (RQ.pv rfl (PV.load1 rfl Sc2 rfl (Rd.blk rfl)) (RQ.pv rfl (PV.load1 rfl Sc2 rfl (Rd.up h1)) (RQ.pv rfl (PV.neq rfl rfl rfl) (RQ.pv rfl (PV.mvB (.inl rfl) rfl) (RQ.gs rfl rfl rfl (fun hp => (PV.field rfl Fo133_1 rfl)) (RQ.gs rfl rfl rfl (fun hp => (PV.field rfl Fo109_1 (gt' hp))) (RQ.gs rfl rfl rfl (fun hp => (PV.loadB (vs := [_, _, _, _]) rfl Ag101 (gt' hp) rfl rfl)) (RQ.gs rfl rfl rfl (fun hp => (PV.loadA rfl Ag101 rfl rfl (RdN.up h2))) ?_))))))))
 refine RQ.gsC rfl rfl rfl rfl En96 (fun hp => ⟨_, (acons (gt' hp) (acons (gt' hp) anil)), dist_s hx hp2 ⟨rfl, rfl, rfl⟩⟩) ?_
 refine RQ.gs rfl rfl rfl (fun hp => (PV.load1 rfl Sc2 rfl (Rd.up h3))) (RQ.gs rfl rfl rfl (fun hp => (PV.mul rfl rfl (gt' hp) (by first | omega | (simp at hp; omega)))) (RQ.gs rfl rfl rfl (fun hp => (PV.leq rfl (gt' hp) (gt' hp))) (RQ.pv rfl (PV.pickA rfl rfl (fun hq => gt' (geqT hq)) rfl) (RQ.pv rfl (PV.mvB (.inr rfl) rfl) (RQ.nil ?_)))))
 exact WP.ret ⟨_, _, rv rfl rfl, Cv.p, k⟩
theorem indexF_rshape {v fv : Value} {xs : List (RShape)} {p : (RShape) -> Bool} (h1 : Rs G L rshapeT v xs) (hf : ∀ i, i < xs.length -> CB Tryz.prog G L fv [vT rshapeT (gd xs i)] (.bool (p (gd xs i)))) (k : R (vi (idxI p xs)) G L) : CallT Tryz.prog 148 #[v, fv] G L R := by
 refine CallT.bd h1 fun hb => ?_
 refine CallT.enter (args := _) Tryz.func148 rfl rfl (by kernel_rfl) rfl ?_
 refine WP.sr (RG.mr rfl (RG.nil (WP.seq (WP.sr (RG.p (PV.move (v := v) rfl rfl) (RG.p (PV.len (v := v) rfl Tryz.underlying79 rfl (SlF.r h1)) (RG.ml rfl (RG.nil (WP.block ?_)))))))))
 refine WP.loop1 [0, 1, 7] (fun i => i <= xs.length ∧ ∀ j, j < i -> p (gd xs j) = false) (fun i => [(8, vi i)]) (fun i => L) (fun i => xs.length - i) 0 ⟨by omega, fun j h => by omega⟩ ⟨rfl, trivial⟩ Cv.p ?_
 rintro i τ ⟨hi, hj⟩
 refine WP.sr (RG.p (PV.lss rfl rfl rfl) (RG.nil (WP.seq ?_)))
 refine WP.cond rfl (fun h2 => ?_) fun h2 => ?_
 ·have h2 := odt h2
  refine WP.skip (WP.seq (WP.block (WP.sr (RG.ml rfl (RG.mr rfl (RG.nil (WP.sr (RG.p (PV.move (v := fv) rfl rfl) (RG.p (PV.move (v := v) rfl rfl) (RG.ml rfl (RG.p (PV.idxS (v := v) rfl Is79 rfl (SlF.r h1) rfl rfl (by omega)) ?_)))))))))))
  refine RG.p (PV.loadE rfl Ag133 rfl rfl (El.r h1 (getG (by omega)))) ?_
  refine RG.callB (vs := [_]) rfl rfl rfl rfl (CB.up (hf i (by omega))) ?_
  refine RG.nil ?_
  refine WP.cond rfl (fun h3 => ?_) fun h3 => ?_
  ·rw [idxI_at (by omega) h3 hj] at k
   refine WP.sr (RG.ml rfl (RG.mr rfl (RG.nil ?_)))
   exact WP.ret ⟨_, _, rv rfl rfl, Cv.p, k⟩
  ·have hj' : ∀ j, j < i + 1 -> p (gd xs j) = false := fun j h => by
    by_cases c : j = i
    ·rw [c]; exact h3
    ·exact hj j (by omega)
   refine WP.skip (WP.region (RG.p (PV.add rfl rfl rfl (by omega)) (RG.ml rfl (RG.nil ?_))))
   exact ⟨rfl, i + 1, ⟨by omega, hj'⟩, ⟨rfl, trivial⟩, ⟨rfl, rfl, rfl, trivial⟩, Cv.p, by omega⟩
 ·have h2 := odf h2
  rw [idxI_none (fun j h => hj j (by omega))] at k
  refine WP.exit (WP.sr (RG.mr rfl (RG.nil ?_)))
  exact WP.ret ⟨_, _, rv rfl rfl, Cv.p, k⟩
theorem containsF_rshape {v fv : Value} {xs : List (RShape)} {p : (RShape) -> Bool} (h1 : Rs G L rshapeT v xs) (hf : ∀ i, i < xs.length -> CB Tryz.prog G L fv [vT rshapeT (gd xs i)] (.bool (p (gd xs i)))) (k : R (.bool (xs.any p)) G L) : CallT Tryz.prog 94 #[v, fv] G L R := by
 rw [<- idxI_any] at k
 refine CallT.enter (args := _) Tryz.func94 rfl rfl (by kernel_rfl) rfl ?_
 refine WP.sr (RG.br rfl (RG.nil (WP.sr (RG.p (PV.move (v := v) rfl rfl) (RG.p (PV.move (v := fv) rfl rfl) ?_)))))
 refine RG.callF (vs := [v, fv]) rfl rfl En148 rfl (indexF_rshape (Rs.up h1) (fun i hi => (hf i hi).up) ?_)
 refine RG.p (PV.geq rfl rfl rfl) (RG.br rfl (RG.nil ?_))
 exact WP.ret ⟨_, _, rv rfl rfl, Cv.p, k⟩
theorem free_i {l : Lib} {cell n reach : Int} {v : Value} (hL : RLib G L l.cells.v l.cells.xs) (hlen : lenC (erCls l.cells.xs)) (ha : AtEl l.cells.xs cell n) (hr : 0 <= reach ∧ reach <= 8) (h5 : Rs G L rshapeT v (rootR (erCls l.cells.xs) cell)) (k : R (.bool (freeB (erCls l.cells.xs) cell n reach)) G L) :
  CallT Tryz.prog 49 #[vT libT l, vi cell, vi n, vi reach, v] G L R := by
 have hE := erCls_len l.cells.xs
 obtain ⟨hok, hc0, hc1⟩ := ha.lib
 have hce := erCl_insts (xs := l.cells.xs) (i := cell.toNat) hc1
 have hns : okNs (gd l.cells.xs cell.toNat).insts.xs := by rw [<- hce]; exact okLib_ns hok (by omega)
 have hnl := ha.lt
 have hn0 := ha.hn.1
 obtain ⟨he1, he2'⟩ := ha.el
 have he2 : -1000 <= (gd (elems (gd l.cells.xs cell.toNat).insts.xs) n.toNat).place.x ∧ (gd (elems (gd l.cells.xs cell.toNat).insts.xs) n.toNat).place.x <= 1000 ∧ -1000 <= (gd (elems (gd l.cells.xs cell.toNat).insts.xs) n.toNat).place.y ∧ (gd (elems (gd l.cells.xs cell.toNat).insts.xs) n.toNat).place.y <= 1000 := by omega
 have e2 : rootR (erCls l.cells.xs) cell = rootL (erCls l.cells.xs) (occR (erCls l.cells.xs) cell) := by rw [rootR, decide_eq_true ha.hz]; rfl
 refine CallT.enter (args := _) Tryz.func49 rfl rfl (by kernel_rfl) rfl ?_
 refine WP.sr ?_
 refine RG.ot rfl (OT.box (cs := libT.enc l) rfl rfl rfl fun b5 => ?_)
 refine RG.ot rfl (OT.box (cs := [vi n]) rfl rfl rfl fun b7 => ?_)
 refine RG.ot rfl (OT.box (cs := [vi reach]) rfl rfl rfl fun b8 => ?_)
 refine RG.br rfl (RG.nil ?_)
 refine WP.cut1 [4, 5, 7, 8] (fun (b11 : Nat) => True) (fun (b11 : Nat) => [(11, .pointer (some ⟨b11, 0, none⟩))]) (fun (b11 : Nat) => blk b11 89 (helemT.enc (gd (elems (gd l.cells.xs cell.toNat).insts.xs) n.toNat)) :: blk b5 26 (libT.enc l) :: blk b7 2 [vi n] :: blk b8 2 [vi reach] :: L) ?_ ?_
 refine WP.regionH0 (.q 0 (.q 1 (.q 2 (.q 3 (.q 4 (.q 6 (.b 5 (.q 7 (.q 8 (.l 9 (.l 10 Sch.nil)))) 9 (.l 5 (.q 7 (.q 8 (.l 10 Sch.nil))))))))))) (by kernel_rfl) (by kernel_rfl) (by kernel_rfl) rfl ?_
 refine RH.w rfl rfl (PV.field rfl Fo26_0 rfl) (RH.w rfl rfl (PV.load1 rfl Sc24 rfl (Rd.blk rfl)) (RH.w rfl rfl (PV.mvI (.inl rfl) rfl) (RH.w rfl rfl (PV.idxS (j := cell.toNat) rfl Is24 rfl (SlF.r hL.c) rfl (by first | omega | (simp only [List.length_cons, List.length_nil]; omega)) (by first | omega | (simp only [List.length_cons, List.length_nil]; omega))) (RH.w rfl rfl (PV.loadE rfl Ag95 rfl rfl (El.r hL.c (getG (by first | omega | (simp only [List.length_cons, List.length_nil]; omega))))) (RH.w rfl rfl (PV.load1 rfl Sc2 rfl (Rd.blk rfl)) ?_)))))
 ·refine RH.ot2 rfl rfl rfl rfl  (OT.callF (vs := [_]) rfl En50 rfl (elems_i (hL.na (by omega)).up hns (fun v22 => (kp ?_)))) (OT.alloc rfl Zr89 fun b11 => (kp ?_))
  ·refine RH.up1 ?_
   refine RH.w rfl rfl (PV.idxS (j := n.toNat) (v := v22) rfl Is90 rfl SlF.o rfl (by first | omega | (simp only [List.length_cons, List.length_nil]; omega)) (by first | omega | (simp only [List.length_cons, List.length_nil]; omega))) (RH.w rfl rfl (PV.loadE rfl Ag89 rfl rfl (El.o (getG (by first | omega | (simp only [List.length_cons, List.length_nil]; omega))))) ?_)
   refine RH.ot rfl rfl (OT.alloc rfl Zr89 fun b11 => (kp ?_))
   refine RH.ot rfl rfl (OT.storeW (vs := [vi _, vi _, vi _, vi _]) rfl Sz89 rfl rfl (Cl.c rfl) rfl rfl (OneC.c rfl) (kp ?_))
   refine RH.nil ?_
   exact ⟨rfl, b11, trivial, ⟨rfl, trivial⟩, ⟨rfl, rfl, rfl, rfl, trivial⟩, Cv.p⟩
  ·refine RH.ot rfl rfl (OT.callF (vs := [_]) rfl En50 rfl (elems_i (hL.na (by omega)).up hns (fun v22 => (kp ?_))))
   refine RH.up1 ?_
   refine RH.w rfl rfl (PV.idxS (j := n.toNat) (v := v22) rfl Is90 rfl SlF.o rfl (by first | omega | (simp only [List.length_cons, List.length_nil]; omega)) (by first | omega | (simp only [List.length_cons, List.length_nil]; omega))) (RH.w rfl rfl (PV.loadE rfl Ag89 rfl rfl (El.o (getG (by first | omega | (simp only [List.length_cons, List.length_nil]; omega))))) ?_)
   refine RH.ot rfl rfl (OT.storeW (vs := [vi _, vi _, vi _, vi _]) rfl Sz89 rfl rfl (Cl.c rfl) rfl rfl (OneC.c rfl) (kp ?_))
   refine RH.nil ?_
   exact ⟨rfl, b11, trivial, ⟨rfl, trivial⟩, ⟨rfl, rfl, rfl, rfl, trivial⟩, Cv.p⟩
 rintro b11 τ -
 refine WP.sr (RG.p (PV.loadW rfl Ag26 rfl rfl) (RG.p (PV.field rfl Fo89_0 rfl) (RG.p (PV.load1 rfl Sc2 rfl (Rd.blk rfl)) ?_)))
 refine RG.callF (vs := [_, _]) rfl rfl En93 rfl (bnd_i hL.up hlen ?_)
 refine RG.p (PV.move rfl rfl) (RG.p (PV.ext rfl rfl rfl) (RG.p (PV.ext rfl rfl rfl) ?_))
 refine RG.ot rfl (OT.alloc rfl Zr101 fun b12 => ?_)
 refine RG.ot rfl (OT.storeW (vs := [vi _, vi _, vi _, vi _]) rfl Sz101 rfl rfl (Cl.c rfl) rfl rfl (OneC.c rfl) ?_)
 refine RG.mr rfl (RG.nil (WP.seq (WP.sr (RG.ml rfl (RG.p (PV.neq rfl rfl rfl) (RG.nil ?_))))))
 refine WP.cond rfl (fun h6 => ?_) fun h6 => ?_
 ·have h6 : bndE (erCls l.cells.xs) (gd (elems (gd l.cells.xs cell.toNat).insts.xs) n.toNat).cell ≠ 0 := by simpa using h6
  have e : freeB (erCls l.cells.xs) cell n reach = false := free_no (by rw [hce]; exact h6)
  rw [e] at k
  refine WP.sr (RG.br rfl (RG.nil ?_))
  exact WP.ret ⟨_, _, rv rfl rfl, Cv.p, k⟩
 ·have h6 : bndE (erCls l.cells.xs) (gd (elems (gd l.cells.xs cell.toNat).insts.xs) n.toNat).cell = 0 := by simpa using h6
  have hob := bndR_in h6
  have hpb := moveR_big hob he1 (show (-1000 <= (gd (elems (gd l.cells.xs cell.toNat).insts.xs) n.toNat).place.x ∧ (gd (elems (gd l.cells.xs cell.toNat).insts.xs) n.toNat).place.x <= 1000) ∧ -1000 <= (gd (elems (gd l.cells.xs cell.toNat).insts.xs) n.toNat).place.y ∧ (gd (elems (gd l.cells.xs cell.toNat).insts.xs) n.toNat).place.y <= 1000 by omega)
  have hfe : freeB (erCls l.cells.xs) cell n reach = ((validRect (wideR (bndR (erCls l.cells.xs) (gd (elems (gd l.cells.xs cell.toNat).insts.xs) n.toNat).cell) reach) && validRect (wideR (moveR (gd (elems (gd l.cells.xs cell.toNat).insts.xs) n.toNat).place (bndR (erCls l.cells.xs) (gd (elems (gd l.cells.xs cell.toNat).insts.xs) n.toNat).cell)) reach)) && !((rootR (erCls l.cells.xs) cell).any (nearS n reach (moveR (gd (elems (gd l.cells.xs cell.toNat).insts.xs) n.toNat).place (bndR (erCls l.cells.xs) (gd (elems (gd l.cells.xs cell.toNat).insts.xs) n.toNat).cell))))) := by
   simp only [freeB, hce, decide_eq_true h6, Bool.true_and, e2]
  have hbd : ∀ j, j < 2 -> RBig (gd [bndR (erCls l.cells.xs) (gd (elems (gd l.cells.xs cell.toNat).insts.xs) n.toNat).cell, moveR (gd (elems (gd l.cells.xs cell.toNat).insts.xs) n.toNat).place (bndR (erCls l.cells.xs) (gd (elems (gd l.cells.xs cell.toNat).insts.xs) n.toNat).cell)] j) := fun j hj => by
   match j, hj with
   | 0, _ => simpa [gd] using RIn_big hob
   | 1, _ => simpa [gd] using hpb
  refine WP.skip (WP.sr (RG.p (PV.field rfl Fo89_1 rfl) (RG.p (PV.loadB (vs := [_, _, _]) rfl Ag87 rfl rfl rfl) (RG.p (PV.loadW rfl Ag101 rfl rfl) ?_))))
  refine RG.callF (vs := [_, _]) rfl rfl En66 rfl (moveRect_s he1 he2 hob ?_)
  refine RG.ot rfl (OT.alloc rfl Zr101 fun b14 => ?_)
  refine RG.ot rfl (OT.storeW (vs := [vi _, vi _, vi _, vi _]) rfl Sz101 rfl rfl (Cl.c rfl) rfl rfl (OneC.c rfl) ?_)
  refine RG.nil (WP.seq (WP.sr (RG.p (PV.loadW rfl Ag101 rfl rfl) (RG.p (PV.loadW rfl Ag101 rfl rfl) ?_))))
  refine RG.ot rfl (OT.bslice (F := rectT) (els := [_, _]) rfl El50 rfl (by decide) rfl (by decide) ⟨rfl, (Cl.c rfl), ⟨rfl, (Cl.c rfl), trivial⟩⟩ fun v41 => ?_)
  refine RG.p (PV.len (v := v41) rfl Tryz.underlying50 rfl SlF.o) (RG.ml rfl (RG.nil (WP.block ?_)))
  refine WP.loop1 [4, 7, 8, 14, 41, 42] (fun i => i <= 2 ∧ ∀ j, j < i -> validRect (wideR (gd [bndR (erCls l.cells.xs) (gd (elems (gd l.cells.xs cell.toNat).insts.xs) n.toNat).cell, moveR (gd (elems (gd l.cells.xs cell.toNat).insts.xs) n.toNat).place (bndR (erCls l.cells.xs) (gd (elems (gd l.cells.xs cell.toNat).insts.xs) n.toNat).cell)] j) reach) = true) (fun i => [(43, vi i)]) (fun i => osl 101 rectT v41 [bndR (erCls l.cells.xs) (gd (elems (gd l.cells.xs cell.toNat).insts.xs) n.toNat).cell, moveR (gd (elems (gd l.cells.xs cell.toNat).insts.xs) n.toNat).place (bndR (erCls l.cells.xs) (gd (elems (gd l.cells.xs cell.toNat).insts.xs) n.toNat).cell)] :: blk b14 101 (rectT.enc (moveR (gd (elems (gd l.cells.xs cell.toNat).insts.xs) n.toNat).place (bndR (erCls l.cells.xs) (gd (elems (gd l.cells.xs cell.toNat).insts.xs) n.toNat).cell))) :: blk b7 2 [vi n] :: blk b8 2 [vi reach] :: L) (fun i => 2 - i) 0 ⟨by omega, fun j h => by omega⟩ ⟨rfl, trivial⟩ Cv.p ?_
  rintro i τ ⟨hi, hj⟩
  refine WP.sr (RG.p (PV.lss rfl rfl rfl) (RG.nil (WP.seq ?_)))
  refine WP.cond rfl (fun h7 => ?_) fun h7 => ?_
  ·have h7 : i < 2 := by have := odt h7; simp only [List.length_cons, List.length_nil] at this; omega
   obtain ⟨⟨z1, z2, z3⟩, z4, z5, z6⟩ := hbd i h7
   refine WP.skip (WP.seq (WP.block (WP.sr (RG.p (PV.idxS (v := v41) rfl Is50 rfl SlF.o rfl rfl (by first | omega | (simp only [List.length_cons, List.length_nil]; omega))) (RG.p (PV.loadE rfl Ag101 rfl rfl (El.o (getG (by first | omega | (simp only [List.length_cons, List.length_nil]; omega))))) ?_)))))
   refine RG.ot rfl (OT.alloc rfl Zr101 fun b16 => ?_)
   refine RG.ot rfl (OT.storeW (vs := [vi _, vi _, vi _, vi _]) rfl Sz101 rfl rfl (Cl.c rfl) rfl rfl (OneC.c rfl) ?_)
   refine RG.nil (WP.sr (RG.p (PV.field rfl Fo101_0 rfl) (RG.p (PV.load1 rfl Sc2 rfl (Rd.blk rfl)) (RG.p (PV.load1 rfl Sc2 rfl (Rd.blk rfl)) (RG.p (PV.sub rfl rfl rfl (by first | omega | (simp only [List.length_cons, List.length_nil]; omega))) (RG.p (PV.field rfl Fo101_1 rfl) (RG.p (PV.load1 rfl Sc2 rfl (Rd.blk rfl)) (RG.p (PV.load1 rfl Sc2 rfl (Rd.blk rfl)) (RG.p (PV.sub rfl rfl rfl (by first | omega | (simp only [List.length_cons, List.length_nil]; omega))) (RG.p (PV.field rfl Fo101_2 rfl) (RG.p (PV.load1 rfl Sc2 rfl (Rd.blk rfl)) (RG.p (PV.load1 rfl Sc2 rfl (Rd.blk rfl)) ?_))))))))))))
   refine RG.p (PV.add rfl rfl rfl (by first | omega | (simp only [List.length_cons, List.length_nil]; omega))) (RG.p (PV.field rfl Fo101_3 rfl) (RG.p (PV.load1 rfl Sc2 rfl (Rd.blk rfl)) (RG.p (PV.load1 rfl Sc2 rfl (Rd.blk rfl)) (RG.p (PV.add rfl rfl rfl (by first | omega | (simp only [List.length_cons, List.length_nil]; omega))) (RG.p (PV.build (vs := [(0, [vi _]), (1, [vi _]), (2, [vi _]), (3, [vi _])]) (out := [_, _, _, _]) rfl Zr101 Pl101 ⟨rfl, (Cl.c rfl), ⟨rfl, (Cl.c rfl), ⟨rfl, (Cl.c rfl), ⟨rfl, (Cl.c rfl), trivial⟩⟩⟩⟩ rfl) ?_)))))
   refine RG.callF (vs := [_]) rfl rfl En67 rfl (validRect_s (r := ⟨_, _, _, _⟩) ?_)
   refine RG.p (PV.not rfl rfl) (RG.nil ?_)
   refine WP.cond rfl (fun h8 => ?_) fun h8 => ?_
   ·have h8 : validRect (wideR (gd [bndR (erCls l.cells.xs) (gd (elems (gd l.cells.xs cell.toNat).insts.xs) n.toNat).cell, moveR (gd (elems (gd l.cells.xs cell.toNat).insts.xs) n.toNat).place (bndR (erCls l.cells.xs) (gd (elems (gd l.cells.xs cell.toNat).insts.xs) n.toNat).cell)] i) reach) = false := by simpa using h8
    have e : freeB (erCls l.cells.xs) cell n reach = false := by
     rw [hfe]
     match i, h7 with
     | 0, _ => rw [gd_p0] at h8; rw [h8]; rfl
     | 1, _ => rw [gd_p1] at h8; rw [h8, Bool.and_false]; rfl
    rw [e] at k
    refine WP.sr (RG.br rfl (RG.nil ?_))
    exact WP.ret ⟨_, _, rv rfl rfl, Cv.p, k⟩
   ·have hj' : ∀ j, j < i + 1 -> validRect (wideR (gd [bndR (erCls l.cells.xs) (gd (elems (gd l.cells.xs cell.toNat).insts.xs) n.toNat).cell, moveR (gd (elems (gd l.cells.xs cell.toNat).insts.xs) n.toNat).place (bndR (erCls l.cells.xs) (gd (elems (gd l.cells.xs cell.toNat).insts.xs) n.toNat).cell)] j) reach) = true := fun j h => by
     by_cases c : j = i
     ·rw [c]; simpa using h8
     ·exact hj j (by omega)
    refine WP.skip (WP.region (RG.p (PV.add rfl rfl rfl (by first | omega | (simp only [List.length_cons, List.length_nil]; omega))) (RG.ml rfl (RG.nil ?_))))
    exact ⟨rfl, i + 1, ⟨by omega, hj'⟩, ⟨rfl, trivial⟩, ⟨rfl, rfl, rfl, rfl, rfl, rfl, trivial⟩, Cv.p, by omega⟩
  ·have h7 : i = 2 := by have := odf h7; simp only [List.length_cons, List.length_nil] at this; omega
   have v0 := hj 0 (by omega)
   have v1 := hj 1 (by omega)
   rw [gd_p0] at v0
   rw [gd_p1] at v1
   rw [hfe, v0, v1] at k
   refine WP.exit (WP.sr (RG.p (PV.move (v := v) rfl rfl) (RG.p (PV.mkf3 rfl rfl rfl rfl) ?_)))
   refine RG.callF (vs := [v, _]) rfl rfl En94 rfl (containsF_rshape (Rs.up h5) (p := nearS n reach (moveR (gd (elems (gd l.cells.xs cell.toNat).insts.xs) n.toNat).place (bndR (erCls l.cells.xs) (gd (elems (gd l.cells.xs cell.toNat).insts.xs) n.toNat).cell))) (fun i hi => CB.mk3 En95 fun L' R c k => free1_s (Rd.cv (Rd.blk rfl) c) (RdN.cv RdN.blk c) (Rd.cv (Rd.blk rfl) c) (RIn_big (rootR_in ha.hz hi)) hpb hr k) ?_)
   refine RG.p (PV.not rfl rfl) (RG.br rfl (RG.nil ?_))
   exact WP.ret ⟨_, _, rv rfl rfl, Cv.p, k⟩
theorem elPlaceI_r {n : Inst} {kk c r : Int} (hk : okIn kk n = true) (hc : 0 <= c ∧ c < n.cols) (hr : 0 <= r ∧ r < n.rows) (k : R (vtrans (elPlace n c r)) G L) : CallT Tryz.prog 186 #[vT instT n, vi c, vi r] G L R := by
 obtain ⟨c', rfl⟩ := Int.eq_ofNat_of_zero_le hc.1
 obtain ⟨r', rfl⟩ := Int.eq_ofNat_of_zero_le hr.1
 exact elPlace_r hk (by omega) (by omega) k
theorem step_found {ns : List Inst} (h : okNs ns) {i : Nat} {rest : Int} (hi : i < ns.length) (h0 : 0 <= rest) (hr : rest < (gd ns i).cols * (gd ns i).rows) {n : Int} (hn : n = ((elems (ns.take i)).length : Int) + rest) :
  (0 <= rest % (gd ns i).cols ∧ rest % (gd ns i).cols < (gd ns i).cols) ∧ (0 <= rest / (gd ns i).cols ∧ rest / (gd ns i).cols < (gd ns i).rows) ∧ gd (elems ns) n.toNat = ⟨(gd ns i).cell, elPlace (gd ns i) (rest % (gd ns i).cols) (rest / (gd ns i).cols)⟩ := by
 obtain ⟨q, rfl⟩ := Int.eq_ofNat_of_zero_le h0
 obtain ⟨_, kk, h2⟩ := h
 obtain ⟨_, _, h3, h4, _, _⟩ := okIn_bd (h2 i hi)
 obtain ⟨c, hc⟩ := Int.eq_ofNat_of_zero_le (show 0 <= (gd ns i).cols by omega)
 obtain ⟨r, hr'⟩ := Int.eq_ofNat_of_zero_le (show 0 <= (gd ns i).rows by omega)
 have hq : q < r * c := by rw [hc, hr', <- Int.natCast_mul] at hr; rw [Nat.mul_comm]; omega
 have hel := elems_found (ns := ns) (i := i) (q := q) hi (by rw [elsOf_len, hr', hc]; exact hq)
 have e1 : n.toNat = (elems (ns.take i)).length + q := by omega
 have e2 : (gd ns i).cols.toNat = c := by omega
 rw [e1, hel, e2, hc, <- Int.natCast_emod, <- Int.natCast_ediv, hr']
 have hc0 : 0 < c := by omega
 have m1 := Nat.mod_lt q hc0
 have m2 : q / c < r := (Nat.div_lt_iff_lt_mul hc0).2 hq
 have m3 : ((q / c : Nat) : Int) < (r : Int) := by exact_mod_cast m2
 have m4 : ((q % c : Nat) : Int) < (c : Int) := by exact_mod_cast m1
 exact ⟨⟨Int.natCast_nonneg _, m4⟩, ⟨Int.natCast_nonneg _, m3⟩, rfl⟩
theorem step_s {l : Lib} {o : Occ} {n : Int} (hL : RLib G L l.cells.v l.cells.xs) (hok : okLib (erCls l.cells.xs) = true) (hcl : 0 <= o.cell ∧ o.cell.toNat < l.cells.xs.length) (hbig : TBig o.place) (hp : Rs G L intT o.path.v o.path.xs) (hpl : o.path.xs.length <= 100) (hn : 0 <= n ∧ n.toNat < (elems (gd l.cells.xs o.cell.toNat).insts.xs).length)
  (k : ∀ v', R (.tuple #[vT occT ⟨(gd (elems (gd l.cells.xs o.cell.toNat).insts.xs) n.toNat).cell, cmpT (gd (elems (gd l.cells.xs o.cell.toNat).insts.xs) n.toNat).place o.place, ⟨v', [] ++ o.path.xs ++ [n]⟩⟩, .bool true]) G (osl 2 intT v' ([] ++ o.path.xs ++ [n]) :: L)) : CallT Tryz.prog 187 #[vT libT l, vT occT o, vi n] G L R := by
 have hE := erCls_len l.cells.xs
 have hce := erCl_insts (xs := l.cells.xs) (i := o.cell.toNat) hcl.2
 have hns : okNs (gd l.cells.xs o.cell.toNat).insts.xs := by rw [<- hce]; exact okLib_ns hok (by omega)
 obtain ⟨hn8, kk, h2⟩ := id hns
 have hbe := elem_bd hok (k := o.cell.toNat) (by omega) (i := n.toNat) (by rw [hce]; exact hn.2)
 rw [hce] at hbe
 have hEl : (elems (gd l.cells.xs o.cell.toNat).insts.xs).length <= 128 := by rw [<- hce]; exact elems_len_bd hok (by omega)
 have hb1 := hbe.2.1
 have hb2 : (-1000 <= (gd (elems (gd l.cells.xs o.cell.toNat).insts.xs) n.toNat).place.x ∧ (gd (elems (gd l.cells.xs o.cell.toNat).insts.xs) n.toNat).place.x <= 1000) ∧ -1000 <= (gd (elems (gd l.cells.xs o.cell.toNat).insts.xs) n.toNat).place.y ∧ (gd (elems (gd l.cells.xs o.cell.toNat).insts.xs) n.toNat).place.y <= 1000 := by omega
 refine CallT.enter (args := _) Tryz.func187 rfl rfl (by kernel_rfl) rfl ?_
 refine WP.sr ?_
 refine RG.ot rfl (OT.box (cs := libT.enc l) rfl rfl rfl fun b3 => ?_)
 refine RG.ot rfl (OT.box (cs := occT.enc o) rfl rfl rfl fun b4 => ?_)
 refine RG.ot rfl (OT.alloc rfl Zr119 fun b6 => ?_)
 refine RG.br rfl (RG.nil (WP.sr (RG.p (PV.field rfl Fo26_0 rfl) (RG.p (PV.load1 rfl Sc24 rfl (Rd.blk rfl)) (RG.p (PV.field rfl Fo119_0 rfl) (RG.p (PV.load1 rfl Sc2 rfl (Rd.blk rfl)) (RG.p (PV.idxS (j := o.cell.toNat) rfl Is24 rfl (SlF.r hL.c) rfl (by omega) (by omega)) (RG.p (PV.field rfl Fo95_3 rfl) (RG.p (PV.loadF rfl Sc93 rfl rfl (El.r hL.c (getG (by omega))) rfl) (RG.p (PV.asg rfl rfl) (RG.nil (WP.seq ?_))))))))))))
 refine WP.region (RG.ml rfl (RG.mr rfl (RG.nil (WP.seq (WP.sr (RG.mr rfl (RG.nil (WP.block ?_))))))))
 refine WP.loop2 [2, 4, 6, 8] (fun (i : Nat) (rest : Int) => i <= (gd l.cells.xs o.cell.toNat).insts.xs.length ∧ 0 <= rest ∧ n = ((elems ((gd l.cells.xs o.cell.toNat).insts.xs.take i)).length : Int) + rest) (fun (i : Nat) (rest : Int) => [(10, vi i), (9, vi rest)]) (fun (i : Nat) (rest : Int) => blk b3 26 (libT.enc l) :: blk b4 119 (occT.enc o) :: blk b6 119 [vi 0, vi 0, vi 0, vi 0, .slice none 0 0] :: L) (fun (i : Nat) (rest : Int) => (gd l.cells.xs o.cell.toNat).insts.xs.length - i) 0 n ⟨by omega, by omega, by simp [elems]⟩ ⟨rfl, rfl, trivial⟩ Cv.p ?_
 rintro i rest τ ⟨hi, h0, hre⟩
 refine WP.seq (WP.sr (RG.ml rfl (RG.p (PV.move rfl rfl) (RG.p (PV.len rfl Tryz.underlying93 rfl (SlF.r (hL.na hcl.2))) (RG.p (PV.lss rfl rfl rfl) (RG.bl rfl ?_))))))
 refine RG.g rfl (fun hp => (PV.mvI (.inl rfl) rfl)) ?_
 refine RG.g rfl (fun hp => (PV.geq rfl (gt' hp) rfl)) ?_
 refine RG.p (PV.pickA rfl rfl (fun hq => gt' (geqT hq)) rfl) (RG.nil ?_)
 refine WP.cond rfl (fun h3 => ?_) fun h3 => ?_
 ·have h3 : i < (gd l.cells.xs o.cell.toNat).insts.xs.length := by simp only [Bool.and_eq_true, decide_eq_true_eq] at h3; omega
  obtain ⟨z1, z2, z3⟩ := elems_cnt hns h3
  refine WP.skip (WP.seq (WP.block (WP.seq ?_)))
  refine WP.regionQ (by kernel_rfl) (by kernel_rfl) ?_
  refine RQ.pv rfl (PV.move rfl rfl) (RQ.pv rfl (PV.mvI (.inl rfl) rfl) (RQ.pv rfl (PV.idxS rfl Is93 rfl (SlF.r (hL.na hcl.2)) rfl rfl (by omega)) (RQ.pv rfl (PV.field rfl Fo111_2 rfl) (RQ.pv rfl (PV.loadF rfl Sc2 rfl rfl (El.r (hL.na hcl.2) (getG (by omega))) rfl) (RQ.pv rfl (PV.move rfl rfl) (RQ.pv rfl (PV.mvI (.inl rfl) rfl) (RQ.pv rfl (PV.idxS rfl Is93 rfl (SlF.r (hL.na hcl.2)) rfl rfl (by omega)) (RQ.pv rfl (PV.field rfl Fo111_3 rfl) (RQ.pv rfl (PV.loadF rfl Sc2 rfl rfl (El.r (hL.na hcl.2) (getG (by omega))) rfl) (RQ.pv rfl (PV.mul rfl rfl rfl (by omega)) (RQ.pv rfl (PV.mvI (.inr rfl) rfl) (RQ.nil (WP.seq ?_)))))))))))))
  refine WP.sr (RG.ml rfl (RG.ml rfl (RG.p (PV.lss rfl rfl rfl) (RG.nil ?_))))
  refine WP.cond rfl (fun h4 => ?_) fun h4 => ?_
  ·have h4 := odt h4
   obtain ⟨q1, q2, q3⟩ := step_found hns h3 h0 h4 hre
   obtain ⟨_, _, q4, q5, _, _⟩ := okIn_bd (h2 i h3)
   rw [q3] at hb1 hb2 k
   simp only at hb1 hb2 k
   refine WP.cut1 [2, 4, 6, 8, 10] (fun (b12 : Nat) => True) (fun (b12 : Nat) => [(12, .pointer (some ⟨b12, 0, none⟩))]) (fun (b12 : Nat) => blk b12 87 (transT.enc (elPlace (gd (gd l.cells.xs o.cell.toNat).insts.xs i) (rest % (gd (gd l.cells.xs o.cell.toNat).insts.xs i).cols) (rest / (gd (gd l.cells.xs o.cell.toNat).insts.xs i).cols))) :: blk b3 26 (libT.enc l) :: blk b4 119 (occT.enc o) :: blk b6 119 [vi 0, vi 0, vi 0, vi 0, .slice none 0 0] :: L) ?_ ?_
   refine WP.regionH0 (.q 0 (.q 1 (.q 2 (.q 3 (.q 4 (.q 5 (.q 6 (.q 7 (.q 8 (.q 9 (.q 10 (.q 11 (.q 12 (.q 13 (.q 14 (.q 15 (.q 16 (.q 17 (.b 18 (.l 19 (.l 20 Sch.nil)) 19 (.l 18 (.l 20 Sch.nil))))))))))))))))))))) (by kernel_rfl) (by kernel_rfl) (by kernel_rfl) rfl ?_
   refine RH.w rfl rfl (PV.move rfl rfl) (RH.w rfl rfl (PV.mvI (.inl rfl) rfl) (RH.w rfl rfl (PV.idxS rfl Is93 rfl (SlF.r (hL.na hcl.2)) rfl rfl (by omega)) (RH.w rfl rfl (PV.loadE rfl Ag111 rfl rfl (El.r (hL.na hcl.2) (getG (by omega)))) (RH.w rfl rfl (PV.mvI (.inl rfl) rfl) (RH.w rfl rfl (PV.move rfl rfl) (RH.w rfl rfl (PV.mvI (.inl rfl) rfl) (RH.w rfl rfl (PV.idxS rfl Is93 rfl (SlF.r (hL.na hcl.2)) rfl rfl (by omega)) (RH.w rfl rfl (PV.field rfl Fo111_2 rfl) (RH.w rfl rfl (PV.loadF rfl Sc2 rfl rfl (El.r (hL.na hcl.2) (getG (by omega))) rfl) (RH.w rfl rfl (PV.rem rfl rfl rfl (by omega) (by omega) (by omega)) (RH.w rfl rfl (PV.mvI (.inl rfl) rfl) (RH.w rfl rfl (PV.move rfl rfl) (RH.w rfl rfl (PV.mvI (.inl rfl) rfl) ?_)))))))))))))
   refine RH.w rfl rfl (PV.idxS rfl Is93 rfl (SlF.r (hL.na hcl.2)) rfl rfl (by omega)) (RH.w rfl rfl (PV.field rfl Fo111_2 rfl) (RH.w rfl rfl (PV.loadF rfl Sc2 rfl rfl (El.r (hL.na hcl.2) (getG (by omega))) rfl) (RH.w rfl rfl (PV.quo rfl rfl rfl (by omega) (by omega) (by omega)) ?_)))
   ·refine RH.ot2 rfl rfl rfl rfl  (OT.callF (vs := [_, _, _]) rfl En186 rfl (elPlaceI_r (h2 i (by omega)) q1 q2 (kp ?_))) (OT.alloc rfl Zr87 fun b12 => (kp ?_))
    ·refine RH.ot rfl rfl (OT.alloc rfl Zr87 fun b12 => (kp ?_))
     refine RH.ot rfl rfl (OT.storeW (vs := [vi _, vi _, vi _]) rfl Sz87 rfl rfl (Cl.c rfl) rfl rfl (OneC.c rfl) (kp ?_))
     refine RH.nil ?_
     exact ⟨rfl, b12, trivial, ⟨rfl, trivial⟩, ⟨rfl, rfl, rfl, rfl, rfl, trivial⟩, Cv.p⟩
    ·refine RH.ot rfl rfl (OT.callF (vs := [_, _, _]) rfl En186 rfl (elPlaceI_r (h2 i (by omega)) q1 q2 (kp ?_)))
     refine RH.ot rfl rfl (OT.storeW (vs := [vi _, vi _, vi _]) rfl Sz87 rfl rfl (Cl.c rfl) rfl rfl (OneC.c rfl) (kp ?_))
     refine RH.nil ?_
     exact ⟨rfl, b12, trivial, ⟨rfl, trivial⟩, ⟨rfl, rfl, rfl, rfl, rfl, trivial⟩, Cv.p⟩
   rintro b12 τ1 -
   refine WP.cut1 [6] (fun (v79 : Value) => True) (fun (v79 : Value) => [(7, .bool true)]) (fun (v79 : Value) => blk b6 119 (occT.enc ⟨(gd (gd l.cells.xs o.cell.toNat).insts.xs i).cell, cmpT (elPlace (gd (gd l.cells.xs o.cell.toNat).insts.xs i) (rest % (gd (gd l.cells.xs o.cell.toNat).insts.xs i).cols) (rest / (gd (gd l.cells.xs o.cell.toNat).insts.xs i).cols)) o.place, ⟨v79, [] ++ o.path.xs ++ [n]⟩⟩) :: osl 2 intT v79 ([] ++ o.path.xs ++ [n]) :: L) ?_ ?_
   refine WP.regionHD [.b b6] (.q 0 (.q 1 (.q 2 (.q 3 (.q 4 (.q 5 (.q 6 (.q 7 (.q 10 (.q 11 (.q 13 (.c 8 (.b 9 (.b 12 (.l 14 (.l 15 (.q 16 (.l 17 (.q 18 Sch.nil))))) 14 (.l 12 (.l 15 (.q 16 (.l 17 (.q 18 Sch.nil)))))) 14 (.l 9 (.l 12 (.l 15 (.q 16 (.l 17 (.q 18 Sch.nil))))))) 9 (.b 8 (.b 12 (.l 14 (.l 15 (.q 16 (.l 17 (.q 18 Sch.nil))))) 14 (.l 12 (.l 15 (.q 16 (.l 17 (.q 18 Sch.nil)))))) 14 (.l 8 (.l 12 (.l 15 (.q 16 (.l 17 (.q 18 Sch.nil))))))) 14 (.b 8 (.l 9 (.l 12 (.l 15 (.q 16 (.l 17 (.q 18 Sch.nil)))))) 9 (.l 8 (.l 12 (.l 15 (.q 16 (.l 17 (.q 18 Sch.nil))))))))))))))))))) (by kernel_rfl) (by kernel_rfl) (by kernel_rfl) rfl ?_
   refine RH.w rfl rfl (PV.move rfl rfl) (RH.w rfl rfl (PV.mvI (.inl rfl) rfl) (RH.w rfl rfl (PV.idxS rfl Is93 rfl (SlF.r (hL.na hcl.2)) rfl rfl (by omega)) (RH.w rfl rfl (PV.field rfl Fo111_0 rfl) (RH.w rfl rfl (PV.loadF rfl Sc2 rfl rfl (El.r (hL.na hcl.2) (getG (by omega))) rfl) (RH.w rfl rfl (PV.field rfl Fo119_1 rfl) (RH.w rfl rfl (PV.loadB (vs := [_, _, _]) rfl Ag87 rfl rfl rfl) (RH.w rfl rfl (PV.loadW rfl Ag87 rfl rfl) (RH.w rfl rfl (PV.field rfl Fo119_2 rfl) (RH.w rfl rfl (PV.load1 rfl Sc45 rfl (Rd.blk rfl)) (RH.w rfl rfl (PV.mvI (.inl rfl) rfl) ?_))))))))))
   ·refine RH.ot3 rfl rfl rfl rfl rfl rfl  (OT.callF (vs := [_, _]) rfl En185 rfl (l10After_r hb1 hb2 hbig (kp ?_))) (OT.bslice (F := intT) (els := []) rfl El45 rfl (by decide) rfl (by decide) trivial fun v73 => (kp ?_)) (OT.bslice (F := intT) (els := [_]) rfl El45 rfl (by decide) rfl (by decide) ⟨rfl, (Cl.c rfl), trivial⟩ fun v78 => (kp ?_))
    ·refine RH.ot2 rfl rfl rfl rfl  (OT.bslice (F := intT) (els := []) rfl El45 rfl (by decide) rfl (by decide) trivial fun v73 => (kp ?_)) (OT.bslice (F := intT) (els := [_]) rfl El45 rfl (by decide) rfl (by decide) ⟨rfl, (Cl.c rfl), trivial⟩ fun v78 => (kp ?_))
     ·refine RH.ot2 rfl rfl rfl rfl  (OT.append (v := v73) (F := intT) rfl El45 rfl (by decide) rfl rfl (Rs.up hp) (OneL.c (fun _ => rfl)) rfl (by first | omega | (simp <;> omega)) fun v76 => (kp ?_)) (OT.bslice (F := intT) (els := [_]) rfl El45 rfl (by decide) rfl (by decide) ⟨rfl, (Cl.c rfl), trivial⟩ fun v78 => (kp ?_))
      ·refine RH.ot rfl rfl (OT.bslice (F := intT) (els := [_]) rfl El45 rfl (by decide) rfl (by decide) ⟨rfl, (Cl.c rfl), trivial⟩ fun v78 => (kp ?_))
       refine RH.ot rfl rfl (OT.append (v := v76) (u := v78) (F := intT) rfl El45 rfl (by decide) rfl rfl Rs.o (OneL.c (fun _ => rfl)) rfl (by first | omega | (simp <;> omega)) fun v79 => (kp ?_))
       refine RH.up1 ?_
       refine RH.w rfl rfl (PV.build (vs := [(0, [vi _]), (1, [vi _, vi _, vi _]), (2, [v79])]) (out := [_, _, _, _, _]) rfl Zr119 Pl119 ⟨rfl, (Cl.c rfl), ⟨rfl, (Cl.c rfl), ⟨rfl, (Cl.s (v := v79) SlF.o), trivial⟩⟩⟩ rfl) ?_
       refine RH.ot rfl rfl (OT.storeW (vs := [vi _, vi _, vi _, vi _, _]) rfl Sz119 rfl rfl (Cl.c rfl) rfl rfl (OneC.val rfl (OneC.val rfl (OneC.val rfl (OneC.val rfl (OneC.sl (SlF.o (v := v79)) OneC.nil))))) (kp ?_))
       refine RH.w rfl rfl (PV.mvB (.inr rfl) rfl) (RH.nil ?_)
       exact ⟨rfl, v79, trivial, ⟨rfl, trivial⟩, ⟨rfl, trivial⟩, Cv.p⟩
      ·refine RH.ot rfl rfl (OT.append (v := v73) (F := intT) rfl El45 rfl (by decide) rfl rfl (Rs.up hp) (OneL.c (fun _ => rfl)) rfl (by first | omega | (simp <;> omega)) fun v76 => (kp ?_))
       refine RH.ot rfl rfl (OT.append (v := v76) (u := v78) (F := intT) rfl El45 rfl (by decide) rfl rfl Rs.o (OneL.c (fun _ => rfl)) rfl (by first | omega | (simp <;> omega)) fun v79 => (kp ?_))
       refine RH.up1 ?_
       refine RH.w rfl rfl (PV.build (vs := [(0, [vi _]), (1, [vi _, vi _, vi _]), (2, [v79])]) (out := [_, _, _, _, _]) rfl Zr119 Pl119 ⟨rfl, (Cl.c rfl), ⟨rfl, (Cl.c rfl), ⟨rfl, (Cl.s (v := v79) SlF.o), trivial⟩⟩⟩ rfl) ?_
       refine RH.ot rfl rfl (OT.storeW (vs := [vi _, vi _, vi _, vi _, _]) rfl Sz119 rfl rfl (Cl.c rfl) rfl rfl (OneC.val rfl (OneC.val rfl (OneC.val rfl (OneC.val rfl (OneC.sl (SlF.o (v := v79)) OneC.nil))))) (kp ?_))
       refine RH.w rfl rfl (PV.mvB (.inr rfl) rfl) (RH.nil ?_)
       exact ⟨rfl, v79, trivial, ⟨rfl, trivial⟩, ⟨rfl, trivial⟩, Cv.p⟩
     ·refine RH.ot rfl rfl (OT.bslice (F := intT) (els := []) rfl El45 rfl (by decide) rfl (by decide) trivial fun v73 => (kp ?_))
      refine RH.ot rfl rfl (OT.append (v := v73) (F := intT) rfl El45 rfl (by decide) rfl rfl (Rs.up hp) (OneL.c (fun _ => rfl)) rfl (by first | omega | (simp <;> omega)) fun v76 => (kp ?_))
      refine RH.ot rfl rfl (OT.append (v := v76) (u := v78) (F := intT) rfl El45 rfl (by decide) rfl rfl Rs.o (OneL.c (fun _ => rfl)) rfl (by first | omega | (simp <;> omega)) fun v79 => (kp ?_))
      refine RH.up1 ?_
      refine RH.w rfl rfl (PV.build (vs := [(0, [vi _]), (1, [vi _, vi _, vi _]), (2, [v79])]) (out := [_, _, _, _, _]) rfl Zr119 Pl119 ⟨rfl, (Cl.c rfl), ⟨rfl, (Cl.c rfl), ⟨rfl, (Cl.s (v := v79) SlF.o), trivial⟩⟩⟩ rfl) ?_
      refine RH.ot rfl rfl (OT.storeW (vs := [vi _, vi _, vi _, vi _, _]) rfl Sz119 rfl rfl (Cl.c rfl) rfl rfl (OneC.val rfl (OneC.val rfl (OneC.val rfl (OneC.val rfl (OneC.sl (SlF.o (v := v79)) OneC.nil))))) (kp ?_))
      refine RH.w rfl rfl (PV.mvB (.inr rfl) rfl) (RH.nil ?_)
      exact ⟨rfl, v79, trivial, ⟨rfl, trivial⟩, ⟨rfl, trivial⟩, Cv.p⟩
    ·refine RH.ot2 rfl rfl rfl rfl  (OT.callF (vs := [_, _]) rfl En185 rfl (l10After_r hb1 hb2 hbig (kp ?_))) (OT.bslice (F := intT) (els := [_]) rfl El45 rfl (by decide) rfl (by decide) ⟨rfl, (Cl.c rfl), trivial⟩ fun v78 => (kp ?_))
     ·refine RH.ot2 rfl rfl rfl rfl  (OT.append (v := v73) (F := intT) rfl El45 rfl (by decide) rfl rfl (Rs.up hp) (OneL.c (fun _ => rfl)) rfl (by first | omega | (simp <;> omega)) fun v76 => (kp ?_)) (OT.bslice (F := intT) (els := [_]) rfl El45 rfl (by decide) rfl (by decide) ⟨rfl, (Cl.c rfl), trivial⟩ fun v78 => (kp ?_))
      ·refine RH.ot rfl rfl (OT.bslice (F := intT) (els := [_]) rfl El45 rfl (by decide) rfl (by decide) ⟨rfl, (Cl.c rfl), trivial⟩ fun v78 => (kp ?_))
       refine RH.ot rfl rfl (OT.append (v := v76) (u := v78) (F := intT) rfl El45 rfl (by decide) rfl rfl Rs.o (OneL.c (fun _ => rfl)) rfl (by first | omega | (simp <;> omega)) fun v79 => (kp ?_))
       refine RH.up1 ?_
       refine RH.w rfl rfl (PV.build (vs := [(0, [vi _]), (1, [vi _, vi _, vi _]), (2, [v79])]) (out := [_, _, _, _, _]) rfl Zr119 Pl119 ⟨rfl, (Cl.c rfl), ⟨rfl, (Cl.c rfl), ⟨rfl, (Cl.s (v := v79) SlF.o), trivial⟩⟩⟩ rfl) ?_
       refine RH.ot rfl rfl (OT.storeW (vs := [vi _, vi _, vi _, vi _, _]) rfl Sz119 rfl rfl (Cl.c rfl) rfl rfl (OneC.val rfl (OneC.val rfl (OneC.val rfl (OneC.val rfl (OneC.sl (SlF.o (v := v79)) OneC.nil))))) (kp ?_))
       refine RH.w rfl rfl (PV.mvB (.inr rfl) rfl) (RH.nil ?_)
       exact ⟨rfl, v79, trivial, ⟨rfl, trivial⟩, ⟨rfl, trivial⟩, Cv.p⟩
      ·refine RH.ot rfl rfl (OT.append (v := v73) (F := intT) rfl El45 rfl (by decide) rfl rfl (Rs.up hp) (OneL.c (fun _ => rfl)) rfl (by first | omega | (simp <;> omega)) fun v76 => (kp ?_))
       refine RH.ot rfl rfl (OT.append (v := v76) (u := v78) (F := intT) rfl El45 rfl (by decide) rfl rfl Rs.o (OneL.c (fun _ => rfl)) rfl (by first | omega | (simp <;> omega)) fun v79 => (kp ?_))
       refine RH.up1 ?_
       refine RH.w rfl rfl (PV.build (vs := [(0, [vi _]), (1, [vi _, vi _, vi _]), (2, [v79])]) (out := [_, _, _, _, _]) rfl Zr119 Pl119 ⟨rfl, (Cl.c rfl), ⟨rfl, (Cl.c rfl), ⟨rfl, (Cl.s (v := v79) SlF.o), trivial⟩⟩⟩ rfl) ?_
       refine RH.ot rfl rfl (OT.storeW (vs := [vi _, vi _, vi _, vi _, _]) rfl Sz119 rfl rfl (Cl.c rfl) rfl rfl (OneC.val rfl (OneC.val rfl (OneC.val rfl (OneC.val rfl (OneC.sl (SlF.o (v := v79)) OneC.nil))))) (kp ?_))
       refine RH.w rfl rfl (PV.mvB (.inr rfl) rfl) (RH.nil ?_)
       exact ⟨rfl, v79, trivial, ⟨rfl, trivial⟩, ⟨rfl, trivial⟩, Cv.p⟩
     ·refine RH.ot rfl rfl (OT.callF (vs := [_, _]) rfl En185 rfl (l10After_r hb1 hb2 hbig (kp ?_)))
      refine RH.ot rfl rfl (OT.append (v := v73) (F := intT) rfl El45 rfl (by decide) rfl rfl (Rs.up hp) (OneL.c (fun _ => rfl)) rfl (by first | omega | (simp <;> omega)) fun v76 => (kp ?_))
      refine RH.ot rfl rfl (OT.append (v := v76) (u := v78) (F := intT) rfl El45 rfl (by decide) rfl rfl Rs.o (OneL.c (fun _ => rfl)) rfl (by first | omega | (simp <;> omega)) fun v79 => (kp ?_))
      refine RH.up1 ?_
      refine RH.w rfl rfl (PV.build (vs := [(0, [vi _]), (1, [vi _, vi _, vi _]), (2, [v79])]) (out := [_, _, _, _, _]) rfl Zr119 Pl119 ⟨rfl, (Cl.c rfl), ⟨rfl, (Cl.c rfl), ⟨rfl, (Cl.s (v := v79) SlF.o), trivial⟩⟩⟩ rfl) ?_
      refine RH.ot rfl rfl (OT.storeW (vs := [vi _, vi _, vi _, vi _, _]) rfl Sz119 rfl rfl (Cl.c rfl) rfl rfl (OneC.val rfl (OneC.val rfl (OneC.val rfl (OneC.val rfl (OneC.sl (SlF.o (v := v79)) OneC.nil))))) (kp ?_))
      refine RH.w rfl rfl (PV.mvB (.inr rfl) rfl) (RH.nil ?_)
      exact ⟨rfl, v79, trivial, ⟨rfl, trivial⟩, ⟨rfl, trivial⟩, Cv.p⟩
    ·refine RH.ot2 rfl rfl rfl rfl  (OT.callF (vs := [_, _]) rfl En185 rfl (l10After_r hb1 hb2 hbig (kp ?_))) (OT.bslice (F := intT) (els := []) rfl El45 rfl (by decide) rfl (by decide) trivial fun v73 => (kp ?_))
     ·refine RH.ot rfl rfl (OT.bslice (F := intT) (els := []) rfl El45 rfl (by decide) rfl (by decide) trivial fun v73 => (kp ?_))
      refine RH.ot rfl rfl (OT.append (v := v73) (F := intT) rfl El45 rfl (by decide) rfl rfl (Rs.up hp) (OneL.c (fun _ => rfl)) rfl (by first | omega | (simp <;> omega)) fun v76 => (kp ?_))
      refine RH.ot rfl rfl (OT.append (v := v76) (u := v78) (F := intT) rfl El45 rfl (by decide) rfl rfl Rs.o (OneL.c (fun _ => rfl)) rfl (by first | omega | (simp <;> omega)) fun v79 => (kp ?_))
      refine RH.up1 ?_
      refine RH.w rfl rfl (PV.build (vs := [(0, [vi _]), (1, [vi _, vi _, vi _]), (2, [v79])]) (out := [_, _, _, _, _]) rfl Zr119 Pl119 ⟨rfl, (Cl.c rfl), ⟨rfl, (Cl.c rfl), ⟨rfl, (Cl.s (v := v79) SlF.o), trivial⟩⟩⟩ rfl) ?_
      refine RH.ot rfl rfl (OT.storeW (vs := [vi _, vi _, vi _, vi _, _]) rfl Sz119 rfl rfl (Cl.c rfl) rfl rfl (OneC.val rfl (OneC.val rfl (OneC.val rfl (OneC.val rfl (OneC.sl (SlF.o (v := v79)) OneC.nil))))) (kp ?_))
      refine RH.w rfl rfl (PV.mvB (.inr rfl) rfl) (RH.nil ?_)
      exact ⟨rfl, v79, trivial, ⟨rfl, trivial⟩, ⟨rfl, trivial⟩, Cv.p⟩
     ·refine RH.ot rfl rfl (OT.callF (vs := [_, _]) rfl En185 rfl (l10After_r hb1 hb2 hbig (kp ?_)))
      refine RH.ot rfl rfl (OT.append (v := v73) (F := intT) rfl El45 rfl (by decide) rfl rfl (Rs.up hp) (OneL.c (fun _ => rfl)) rfl (by first | omega | (simp <;> omega)) fun v76 => (kp ?_))
      refine RH.ot rfl rfl (OT.append (v := v76) (u := v78) (F := intT) rfl El45 rfl (by decide) rfl rfl Rs.o (OneL.c (fun _ => rfl)) rfl (by first | omega | (simp <;> omega)) fun v79 => (kp ?_))
      refine RH.up1 ?_
      refine RH.w rfl rfl (PV.build (vs := [(0, [vi _]), (1, [vi _, vi _, vi _]), (2, [v79])]) (out := [_, _, _, _, _]) rfl Zr119 Pl119 ⟨rfl, (Cl.c rfl), ⟨rfl, (Cl.c rfl), ⟨rfl, (Cl.s (v := v79) SlF.o), trivial⟩⟩⟩ rfl) ?_
      refine RH.ot rfl rfl (OT.storeW (vs := [vi _, vi _, vi _, vi _, _]) rfl Sz119 rfl rfl (Cl.c rfl) rfl rfl (OneC.val rfl (OneC.val rfl (OneC.val rfl (OneC.val rfl (OneC.sl (SlF.o (v := v79)) OneC.nil))))) (kp ?_))
      refine RH.w rfl rfl (PV.mvB (.inr rfl) rfl) (RH.nil ?_)
      exact ⟨rfl, v79, trivial, ⟨rfl, trivial⟩, ⟨rfl, trivial⟩, Cv.p⟩
   ·rintro v79 τ2 -
    exact WP.ret ⟨_, _, ResV.two rfl (RV1.cell rfl Ag119 rfl) rfl, Cv.p, k v79⟩
  ·have h4 := odf h4
   refine WP.skip (WP.region (RG.ml rfl (RG.ml rfl (RG.p (PV.sub rfl rfl rfl (by omega)) (RG.mr rfl (RG.nil (WP.region (RG.ml rfl (RG.p (PV.add rfl rfl rfl (by omega)) (RG.mr rfl (RG.nil ?_)))))))))))
   exact ⟨rfl, i + 1, _, ⟨by omega, by omega, by rw [z1]; omega⟩, ⟨rfl, rfl, trivial⟩, ⟨rfl, rfl, rfl, rfl, trivial⟩, Cv.p, by omega⟩
 ·exfalso
  have hle : i = (gd l.cells.xs o.cell.toNat).insts.xs.length := by
   simp only [Bool.and_eq_false_iff, decide_eq_false_iff_not] at h3; omega
  rw [List.take_of_length_le (by omega)] at hre
  omega
theorem step0_s {l : Lib} {cell n : Int} (hL : RLib G L l.cells.v l.cells.xs) (hok : okLib (erCls l.cells.xs) = true) (hcl : 0 <= cell ∧ cell.toNat < l.cells.xs.length) (hn : 0 <= n ∧ n.toNat < (elems (gd l.cells.xs cell.toNat).insts.xs).length)
  (k : ∀ v', R (.tuple #[vT occT ⟨(gd (elems (gd l.cells.xs cell.toNat).insts.xs) n.toNat).cell, cmpT (gd (elems (gd l.cells.xs cell.toNat).insts.xs) n.toNat).place ⟨0, 0, 0⟩, ⟨v', [n]⟩⟩, .bool true]) G (osl 2 intT v' [n] :: L)) : CallT Tryz.prog 187 #[vT libT l, vT occT ⟨cell, ⟨0, 0, 0⟩, ⟨.slice none 0 0, []⟩⟩, vi n] G L R :=
 step_s (o := ⟨cell, ⟨0, 0, 0⟩, ⟨.slice none 0 0, []⟩⟩) hL hok hcl ⟨by simp, by simp⟩ RsN (by simp) hn k
theorem path_s {l : Lib} {cell n : Int} {v : Value} (hL : RLib G L l.cells.v l.cells.xs) (hlen : lenC (erCls l.cells.xs)) (ha : AtEl l.cells.xs cell n) (h5 : Rs G L intT v [n])
  (k : ∀ w : Value, w.oneCell' = true -> R (.tuple #[vT occT ⟨(gd (elems (gd l.cells.xs cell.toNat).insts.xs) n.toNat).cell, (gd (elems (gd l.cells.xs cell.toNat).insts.xs) n.toNat).place, ⟨w, [n]⟩⟩, vi 0]) G L) : CallT Tryz.prog 127 #[vT libT l, vi cell, v] G L R := by
 have hE := erCls_len l.cells.xs
 obtain ⟨hok, hc0, hc1⟩ := ha.lib
 have hnl := ha.lt
 have hn0 := ha.hn.1
 obtain ⟨he1, he2⟩ := ha.el
 have hh : hasCl (erCls l.cells.xs) cell = true := by simp [hasCl, hok, within]; omega
 have hvt : validT (gd (elems (gd l.cells.xs cell.toNat).insts.xs) n.toNat).place = true := validT_iff.2 ⟨he1, he2.1, he2.2⟩
 refine CallT.enter (args := _) Tryz.func127 rfl rfl (by kernel_rfl) rfl ?_
 refine WP.sr ?_
 refine RG.ot rfl (OT.box (cs := libT.enc l) rfl rfl rfl fun b3 => ?_)
 refine RG.ot rfl (OT.alloc rfl Zr119 fun b6 => ?_)
 refine RG.mr rfl (RG.nil (WP.seq (WP.sr (RG.p (PV.loadW rfl Ag26 rfl rfl) ?_))))
 refine RG.callF (vs := [_]) rfl rfl En121 rfl (okLib_r hL.up hlen ?_)
 refine RG.p (PV.not rfl rfl) (RG.nil ?_)
 refine WP.cond rfl (fun h1 => ?_) fun h1 => ?_
 ·exfalso; simp [hok] at h1
 refine WP.skip (WP.seq (WP.sr (RG.p (PV.loadW rfl Ag26 rfl rfl) (RG.ml rfl ?_))))
 refine RG.callF (vs := [_, _]) rfl rfl En122 rfl (hasCl_r hL.up hlen ?_)
 refine RG.p (PV.not rfl rfl) (RG.nil ?_)
 refine WP.cond rfl (fun h2 => ?_) fun h2 => ?_
 ·exfalso; simp [hh] at h2
 refine WP.skip (WP.sr (RG.ml rfl (RG.p (PV.build (vs := [(0, [vi _])]) (out := [_, _, _, _, _]) rfl Zr119 Pl119 ⟨rfl, (Cl.c rfl), trivial⟩ rfl) ?_)))
 refine RG.ot rfl (OT.alloc rfl Zr119 fun b8 => ?_)
 refine RG.ot rfl (OT.storeW (vs := [vi _, vi _, vi _, vi _, _]) rfl Sz119 rfl rfl (Cl.c rfl) rfl rfl (OneC.c rfl) ?_)
 refine RG.nil (WP.seq (WP.sr (RG.mr rfl (RG.nil (WP.block ?_)))))
 refine WP.loop2 [2, 3, 6, 8] (fun (i : Nat) (o : Occ) => (i = 0 ∧ o = ⟨cell, ⟨0, 0, 0⟩, ⟨.slice none 0 0, []⟩⟩) ∨ (i = 1 ∧ o = ⟨(gd (elems (gd l.cells.xs cell.toNat).insts.xs) n.toNat).cell, (gd (elems (gd l.cells.xs cell.toNat).insts.xs) n.toNat).place, ⟨o.path.v, [n]⟩⟩ ∧ o.path.v.oneCell' = true)) (fun (i : Nat) (o : Occ) => [(9, vi i)]) (fun (i : Nat) (o : Occ) => blk b8 119 (occT.enc o) :: blk b3 26 (libT.enc l) :: blk b6 119 [vi 0, vi 0, vi 0, vi 0, .slice none 0 0] :: L) (fun (i : Nat) (o : Occ) => 1 - i) 0 ⟨cell, ⟨0, 0, 0⟩, ⟨.slice none 0 0, []⟩⟩ (.inl ⟨rfl, rfl⟩) ⟨rfl, trivial⟩ Cv.p ?_
 rintro i o τ hJ
 refine WP.seq (WP.sr (RG.ml rfl (RG.p (PV.move (v := v) rfl rfl) (RG.p (PV.len (v := v) rfl Tryz.underlying45 rfl (SlF.r h5)) (RG.p (PV.lss rfl rfl rfl) (RG.nil ?_))))))
 refine WP.cond rfl (fun h3 => ?_) fun h3 => ?_
 ·have h3 : i < 1 := by have := odt h3; simp only [List.length_cons, List.length_nil] at this; omega
  obtain ⟨rfl, rfl⟩ : i = 0 ∧ o = ⟨cell, ⟨0, 0, 0⟩, ⟨.slice none 0 0, []⟩⟩ := by
   rcases hJ with h | h
   ·exact h
   ·omega
  refine WP.skip (WP.seq (WP.block ?_))
  refine WP.cut2 [2, 3, 6, 8, 9] (fun (b10 : Nat) (w36 : Value) => True) (fun (b10 : Nat) (w36 : Value) => [(10, .pointer (some ⟨b10, 0, none⟩)), (11, .bool true)]) (fun (b10 : Nat) (w36 : Value) => blk b10 119 (occT.enc ⟨(gd (elems (gd l.cells.xs cell.toNat).insts.xs) n.toNat).cell, cmpT (gd (elems (gd l.cells.xs cell.toNat).insts.xs) n.toNat).place ⟨0, 0, 0⟩, ⟨w36, [n]⟩⟩) :: osl 2 intT w36 ([n]) :: blk b8 119 (occT.enc ⟨cell, ⟨0, 0, 0⟩, ⟨.slice none 0 0, []⟩⟩) :: blk b3 26 (libT.enc l) :: blk b6 119 [vi 0, vi 0, vi 0, vi 0, .slice none 0 0] :: L) ?_ ?_
  refine WP.regionH0 (.q 0 (.q 1 (.q 2 (.q 3 (.q 4 (.q 5 (.b 6 (.q 7 (.q 8 (.q 9 (.l 10 (.l 11 (.q 12 Sch.nil)))))) 10 (.l 6 (.q 7 (.q 8 (.q 9 (.l 11 (.q 12 Sch.nil))))))))))))) (by kernel_rfl) (by kernel_rfl) (by kernel_rfl) rfl ?_
  refine RH.w rfl rfl (PV.loadW rfl Ag26 rfl rfl) (RH.w rfl rfl (PV.loadW rfl Ag119 rfl rfl) (RH.w rfl rfl (PV.move (v := v) rfl rfl) (RH.w rfl rfl (PV.mvI (.inl rfl) rfl) (RH.w rfl rfl (PV.idxS (j := 0) (v := v) rfl Is45 rfl (SlF.r h5) rfl (by first | omega | (simp only [List.length_cons, List.length_nil]; omega)) (by first | omega | (simp only [List.length_cons, List.length_nil]; omega))) (RH.w rfl rfl (PV.loadE1 rfl Sc2 rfl rfl (El.r h5 rfl) rfl) ?_)))))
  ·refine RH.ot2 rfl rfl rfl rfl  (OT.callF (vs := [_, _, _]) rfl En187 rfl (step0_s hL.up hok ⟨hc0, hc1⟩ ⟨hn0, hnl⟩ (fun w36 => (kp ?_)))) (OT.alloc rfl Zr119 fun b10 => (kp ?_))
   ·refine RH.w rfl rfl (PV.move rfl rfl) ?_
    refine RH.w rfl rfl (PV.ext rfl rfl rfl) (RH.w rfl rfl (PV.ext rfl rfl rfl) ?_)
    refine RH.ot rfl rfl (OT.alloc rfl Zr119 fun b10 => (kp ?_))
    refine RH.ot rfl rfl (OT.storeW (vs := [vi _, vi _, vi _, vi _, _]) rfl Sz119 rfl rfl (Cl.c rfl) rfl rfl (OneC.val rfl (OneC.val rfl (OneC.val rfl (OneC.val rfl (OneC.sl (SlF.o (v := w36)) OneC.nil))))) (kp ?_))
    refine RH.w rfl rfl (PV.mvB (.inr rfl) rfl) (RH.nil ?_)
    exact ⟨rfl, b10, w36, trivial, ⟨rfl, rfl, trivial⟩, ⟨rfl, rfl, rfl, rfl, rfl, trivial⟩, Cv.p⟩
   ·refine RH.ot rfl rfl (OT.callF (vs := [_, _, _]) rfl En187 rfl (step0_s hL.up hok ⟨hc0, hc1⟩ ⟨hn0, hnl⟩ (fun w36 => (kp ?_))))
    refine RH.w rfl rfl (PV.move rfl rfl) (RH.w rfl rfl (PV.ext rfl rfl rfl) (RH.w rfl rfl (PV.ext rfl rfl rfl) ?_))
    refine RH.ot rfl rfl (OT.storeW (vs := [vi _, vi _, vi _, vi _, _]) rfl Sz119 rfl rfl (Cl.c rfl) rfl rfl (OneC.val rfl (OneC.val rfl (OneC.val rfl (OneC.val rfl (OneC.sl (SlF.o (v := w36)) OneC.nil))))) (kp ?_))
    refine RH.w rfl rfl (PV.mvB (.inr rfl) rfl) (RH.nil ?_)
    exact ⟨rfl, b10, w36, trivial, ⟨rfl, rfl, trivial⟩, ⟨rfl, rfl, rfl, rfl, rfl, trivial⟩, Cv.p⟩
  rintro b10 w36 τ1 -
  refine WP.st (fun w' hs => (SlF.o (v := w36) w' hs).one) fun hw1 => ?_
  refine WP.seq (WP.sr (RG.bl rfl (RG.p (PV.not rfl rfl) (RG.nil ?_))))
  refine WP.cond rfl (fun h4 => ?_) fun h4 => ?_
  ·exfalso; simp at h4
  refine WP.skip (WP.region (RG.p (PV.loadW rfl Ag119 rfl rfl) ?_))
  refine RG.ot rfl (OT.storeW (vs := [vi _, vi _, vi _, vi _, _]) rfl Sz119 rfl rfl (Cl.c rfl) rfl rfl (OneC.val rfl (OneC.val rfl (OneC.val rfl (OneC.val rfl (OneC.sl (SlF.o (v := w36)) OneC.nil))))) ?_)
  refine RG.nil (WP.region (RG.ml rfl (RG.p (PV.add rfl rfl rfl (by first | omega | (simp only [List.length_cons, List.length_nil]; omega))) (RG.mr rfl (RG.nil ?_)))))
  exact ⟨rfl, 1, ⟨(gd (elems (gd l.cells.xs cell.toNat).insts.xs) n.toNat).cell, cmpT (gd (elems (gd l.cells.xs cell.toNat).insts.xs) n.toNat).place ⟨0, 0, 0⟩, ⟨w36, [n]⟩⟩, (.inr ⟨rfl, by rw [cmpT_top he1], hw1⟩), ⟨rfl, trivial⟩, ⟨rfl, rfl, rfl, rfl, trivial⟩, Cv.p, by omega⟩
 ·have h3 : ¬ i < 1 := by have := odf h3; simp only [List.length_cons, List.length_nil] at this; omega
  obtain ⟨hi, ho, hw1⟩ : i = 1 ∧ o = ⟨(gd (elems (gd l.cells.xs cell.toNat).insts.xs) n.toNat).cell, (gd (elems (gd l.cells.xs cell.toNat).insts.xs) n.toNat).place, ⟨o.path.v, [n]⟩⟩ ∧ o.path.v.oneCell' = true := by
   rcases hJ with h | h
   ·omega
   ·exact h
  generalize o.path.v = w0 at ho hw1
  subst ho
  refine WP.exit (WP.seq (WP.sr (RG.p (PV.field rfl Fo119_1 rfl) (RG.p (PV.loadB (vs := [_, _, _]) rfl Ag87 rfl rfl rfl) ?_))))
  refine RG.callF (vs := [_]) rfl rfl En125 rfl (l09Trans_r ?_)
  refine RG.p (PV.not rfl rfl) (RG.nil ?_)
  refine WP.cond rfl (fun h6 => ?_) fun h6 => ?_
  ·exfalso; simp [hvt] at h6
  refine WP.skip (WP.sr (RG.p (PV.loadW rfl Ag119 rfl rfl) ?_))
  refine RG.ot rfl (OT.storeW (vs := [vi _, vi _, vi _, vi _, _]) rfl Sz119 rfl rfl (Cl.c rfl) rfl rfl (OneC.val rfl (OneC.val rfl (OneC.val rfl (OneC.val rfl (OneC.val hw1 OneC.nil))))) ?_)
  refine RG.mr rfl (RG.nil ?_)
  exact WP.ret ⟨_, _, ResV.two rfl (RV1.cell rfl Ag119 rfl) rfl, Cv.p, k w0 hw1⟩
theorem any_pick {rs : List RShape} {f : Int -> Bool} {g : Shape -> Bool} : (rs.any fun x => f x.root && g x.shape) = (pickR rs f).any g := by
 induction rs with
 | nil => rfl
 | cons x rs ih =>
  rw [List.any_cons, ih, pickR, pickR, List.filter_cons]
  cases hf : f x.root <;> simp
theorem pick_sel {cs : List ECell} {ls : List Int} {b : Bool} {f : Int -> Bool} : ∀ {os : List EOcc}, (∀ o ∈ os, f (rootOf o) = (selS ls o == b)) -> pickR (rootL cs os) f = selL cs os ls b
 | [], _ => rfl
 | o :: os, h => by
  have ih := pick_sel (cs := cs) (os := os) (ls := ls) (b := b) (f := f) (fun q hq => h q (.tail _ hq))
  have h0 := h o (.head _)
  have e1 : rootL cs (o :: os) = rootAt cs o ++ rootL cs os := rfl
  have e2 : selL cs (o :: os) ls b = (if (selS ls o == b) = true then flatOf cs o else []) ++ selL cs os ls b := rfl
  rw [e1, e2, <- ih, pickR, pickR, List.filter_append, List.map_append, <- h0]
  congr 1
  rw [rootAt]
  cases hf : f (rootOf o)
  ·rw [List.filter_eq_nil_iff.2 (fun x hx => by obtain ⟨s, _, rfl⟩ := List.mem_map.1 hx; simp [hf])]; simp
  ·rw [List.filter_eq_self.2 (fun x hx => by obtain ⟨s, _, rfl⟩ := List.mem_map.1 hx; simp [hf])]; simp [Function.comp_def]
theorem root_one {o : EOcc} {n : Int} (hn : 0 <= n) : decide (rootOf o = n) = selS [n] o := by
 by_cases h : 0 < o.path.length
 ·rw [rootOf_pos h, selS]
  have : (0 : Int) < o.path.length := by omega
  simp only [this, decide_true, Bool.true_and, List.any_cons, List.any_nil, Bool.or_false]
  rw [decide_eq_decide]; exact eq_comm
 ·rw [rootOf_neg h, selS]
  have h1 : ¬ (0 : Int) < o.path.length := by omega
  have h2 : ¬ (-1 : Int) = n := by omega
  simp [h1, h2]
  intro hh; exact absurd hh h
theorem free_sel {xs : List Cell} {cell n reach : Int} {p : Rect} (ha : AtEl xs cell n) : (rootR (erCls xs) cell).any (nearS n reach p) = (selL (erCls xs) (occR (erCls xs) cell) [n] false).any fun s => decide (distR s.box p <= 2 * reach) := by
 have e2 : rootR (erCls xs) cell = rootL (erCls xs) (occR (erCls xs) cell) := by rw [rootR, decide_eq_true ha.hz]; rfl
 have e := any_pick (rs := rootL (erCls xs) (occR (erCls xs) cell)) (f := fun r => !decide (r = n)) (g := fun s => decide (distR s.box p <= 2 * reach))
 rw [e2, <- pick_sel (f := fun r => !decide (r = n)) (fun o _ => by rw [root_one ha.hn.1]; cases selS [n] o <;> rfl), <- e]
 rfl
theorem selL_in {xs : List Cell} {cell : Int} (hz : shE (erCls xs) cell = 0) {ls : List Int} {b : Bool} {i : Nat} (hi : i < (selL (erCls xs) (occR (erCls xs) cell) ls b).length) : validRect (gd (selL (erCls xs) (occR (erCls xs) cell) ls b) i).box = true :=
 (shE_zero hz).2 _ (selL_mem (gd_mem hi))
theorem free_r {l : Lib} {cell n reach : Int} (hL : RLib G L l.cells.v l.cells.xs) (hlen : lenC (erCls l.cells.xs)) (ha : AtEl l.cells.xs cell n) (hr : 0 <= reach ∧ reach <= 8) (k : R (.bool (freeB (erCls l.cells.xs) cell n reach)) G L) :
  CallT Tryz.prog 81 #[vT libT l, vi cell, vi n, vi reach] G L R := by
 have hE := erCls_len l.cells.xs
 obtain ⟨hok, hc0, hc1⟩ := ha.lib
 have hce := erCl_insts (xs := l.cells.xs) (i := cell.toNat) hc1
 have hnl := ha.lt
 have hn0 := ha.hn.1
 obtain ⟨he1, he2'⟩ := ha.el
 have he2 : -1000 <= (gd (elems (gd l.cells.xs cell.toNat).insts.xs) n.toNat).place.x ∧ (gd (elems (gd l.cells.xs cell.toNat).insts.xs) n.toNat).place.x <= 1000 ∧ -1000 <= (gd (elems (gd l.cells.xs cell.toNat).insts.xs) n.toNat).place.y ∧ (gd (elems (gd l.cells.xs cell.toNat).insts.xs) n.toNat).place.y <= 1000 := by omega
 refine CallT.enter (args := _) Tryz.func81 rfl rfl (by kernel_rfl) rfl ?_
 refine WP.sr ?_
 refine RG.ot rfl (OT.box (cs := libT.enc l) rfl rfl rfl fun b4 => ?_)
 refine RG.br rfl (RG.nil (WP.sr (RG.p (PV.loadW rfl Ag26 rfl rfl) (RG.ml rfl (RG.ml rfl ?_)))))
 refine RG.ot rfl (OT.bslice (F := intT) (els := [_]) rfl El45 rfl (by decide) rfl (by decide) ⟨rfl, (Cl.c rfl), trivial⟩ fun v22 => ?_)
 refine RG.callF (vs := [_, _, v22]) rfl rfl En127 rfl (path_s hL.up hlen ha Rs.o (fun w1 hw1 => ?_))
 refine RG.p (PV.move rfl rfl) (RG.p (PV.ext rfl rfl rfl) (RG.p (PV.ext rfl rfl rfl) ?_))
 refine RG.ot rfl (OT.alloc rfl Zr119 fun b9 => ?_)
 refine RG.ot rfl (OT.storeW (vs := [vi _, vi _, vi _, vi _, _]) rfl Sz119 rfl rfl (Cl.c rfl) rfl rfl (OneC.val rfl (OneC.val rfl (OneC.val rfl (OneC.val rfl (OneC.val hw1 OneC.nil))))) ?_)
 refine RG.mr rfl (RG.nil (WP.sr (RG.p (PV.loadW rfl Ag26 rfl rfl) (RG.p (PV.field rfl Fo119_0 rfl) (RG.p (PV.load1 rfl Sc2 rfl (Rd.blk rfl)) ?_)))))
 refine RG.callF (vs := [_, _]) rfl rfl En128 rfl (bnd_r hL.up hlen ?_)
 refine RG.p (PV.move rfl rfl) (RG.p (PV.ext rfl rfl rfl) (RG.p (PV.ext rfl rfl rfl) ?_))
 refine RG.ot rfl (OT.alloc rfl Zr101 fun b11 => ?_)
 refine RG.ot rfl (OT.storeW (vs := [vi _, vi _, vi _, vi _]) rfl Sz101 rfl rfl (Cl.c rfl) rfl rfl (OneC.c rfl) ?_)
 refine RG.mr rfl (RG.nil (WP.seq (WP.sr (RG.ml rfl (RG.p (PV.neq rfl rfl rfl) (RG.nil ?_))))))
 refine WP.cond rfl (fun h6 => ?_) fun h6 => ?_
 ·have h6 : bndE (erCls l.cells.xs) (gd (elems (gd l.cells.xs cell.toNat).insts.xs) n.toNat).cell ≠ 0 := by simpa using h6
  have e : freeB (erCls l.cells.xs) cell n reach = false := free_no (by rw [hce]; exact h6)
  rw [e] at k
  refine WP.sr (RG.br rfl (RG.nil ?_))
  exact WP.ret ⟨_, _, rv rfl rfl, Cv.p, k⟩
 ·have h6 : bndE (erCls l.cells.xs) (gd (elems (gd l.cells.xs cell.toNat).insts.xs) n.toNat).cell = 0 := by simpa using h6
  have hob := bndR_in h6
  have hob2 := RIn_big hob
  have hpb := moveR_big hob he1 (show (-1000 <= (gd (elems (gd l.cells.xs cell.toNat).insts.xs) n.toNat).place.x ∧ (gd (elems (gd l.cells.xs cell.toNat).insts.xs) n.toNat).place.x <= 1000) ∧ -1000 <= (gd (elems (gd l.cells.xs cell.toNat).insts.xs) n.toNat).place.y ∧ (gd (elems (gd l.cells.xs cell.toNat).insts.xs) n.toNat).place.y <= 1000 by omega)
  have hfe : freeB (erCls l.cells.xs) cell n reach = ((validRect (wideR (bndR (erCls l.cells.xs) (gd (elems (gd l.cells.xs cell.toNat).insts.xs) n.toNat).cell) reach) && validRect (wideR (moveR (gd (elems (gd l.cells.xs cell.toNat).insts.xs) n.toNat).place (bndR (erCls l.cells.xs) (gd (elems (gd l.cells.xs cell.toNat).insts.xs) n.toNat).cell)) reach)) && !((selL (erCls l.cells.xs) (occR (erCls l.cells.xs) cell) [n] false).any fun s => decide (distR s.box (moveR (gd (elems (gd l.cells.xs cell.toNat).insts.xs) n.toNat).place (bndR (erCls l.cells.xs) (gd (elems (gd l.cells.xs cell.toNat).insts.xs) n.toNat).cell)) <= 2 * reach))) := by
   rw [<- free_sel ha]
   have e2 : rootR (erCls l.cells.xs) cell = rootL (erCls l.cells.xs) (occR (erCls l.cells.xs) cell) := by rw [rootR, decide_eq_true ha.hz]; rfl
   simp only [freeB, hce, decide_eq_true h6, Bool.true_and, e2]
  refine WP.skip (WP.sr (RG.p (PV.field rfl Fo119_1 rfl) (RG.p (PV.loadB (vs := [_, _, _]) rfl Ag87 rfl rfl rfl) (RG.p (PV.loadW rfl Ag101 rfl rfl) ?_))))
  refine RG.callF (vs := [_, _]) rfl rfl En129 rfl (moveRect_r he1 he2 hob ?_)
  refine RG.ot rfl (OT.alloc rfl Zr101 fun b13 => ?_)
  refine RG.ot rfl (OT.storeW (vs := [vi _, vi _, vi _, vi _]) rfl Sz101 rfl rfl (Cl.c rfl) rfl rfl (OneC.c rfl) ?_)
  refine RG.nil (WP.seq (WP.sr (RG.p (PV.loadW rfl Ag101 rfl rfl) (RG.ml rfl ?_))))
  refine RG.callF (vs := [_, _]) rfl rfl En131 rfl (wide_s hob2 (by omega) ?_)
  refine RG.callF (vs := [_]) rfl rfl En130 rfl (validRect_s' ?_)
  refine RG.p (PV.not rfl rfl) (RG.bl rfl ?_)
  refine RG.g rfl (fun hp => (PV.loadW rfl Ag101 rfl rfl)) ?_
  refine RG.g rfl (fun hp => (PV.mvI (.inl rfl) rfl)) ?_
  refine RG.gsC rfl rfl rfl rfl En131 (fun hp => ⟨_, (acons (gt' hp) (acons (gt' hp) anil)), wide_s hpb (by omega) ⟨rfl, rfl, rfl⟩⟩) ?_
  refine RG.gsC rfl rfl rfl rfl En130 (fun hp => ⟨_, (acons (gt' hp) anil), validRect_s' ⟨rfl, rfl, rfl⟩⟩) ?_
  refine RG.g rfl (fun hp => (PV.not rfl (gt' hp))) ?_
  refine RG.p (PV.pickO rfl rfl rfl (fun hq => gt' (geqF hq))) (RG.nil ?_)
  refine WP.cond rfl (fun h7 => ?_) fun h7 => ?_
  ·have e : freeB (erCls l.cells.xs) cell n reach = false := by
    rw [hfe]
    simp only [Bool.or_eq_true, Bool.not_eq_true'] at h7
    rcases h7 with h | h
    ·rw [show validRect (wideR (bndR (erCls l.cells.xs) (gd (elems (gd l.cells.xs cell.toNat).insts.xs) n.toNat).cell) reach) = false from h]; rfl
    ·rw [show validRect (wideR (moveR (gd (elems (gd l.cells.xs cell.toNat).insts.xs) n.toNat).place (bndR (erCls l.cells.xs) (gd (elems (gd l.cells.xs cell.toNat).insts.xs) n.toNat).cell)) reach) = false from h, Bool.and_false]; rfl
   rw [e] at k
   refine WP.sr (RG.br rfl (RG.nil ?_))
   exact WP.ret ⟨_, _, rv rfl rfl, Cv.p, k⟩
  ·simp only [Bool.or_eq_false_iff, Bool.not_eq_false'] at h7
   rw [show validRect (wideR (bndR (erCls l.cells.xs) (gd (elems (gd l.cells.xs cell.toNat).insts.xs) n.toNat).cell) reach) = true from h7.1, show validRect (wideR (moveR (gd (elems (gd l.cells.xs cell.toNat).insts.xs) n.toNat).place (bndR (erCls l.cells.xs) (gd (elems (gd l.cells.xs cell.toNat).insts.xs) n.toNat).cell)) reach) = true from h7.2, Bool.true_and, Bool.true_and] at hfe
   obtain ⟨⟨z1, z2, z3⟩, z4, z5, z6⟩ := id hpb
   refine WP.skip (WP.sr (RG.p (PV.loadW rfl Ag101 rfl rfl) (RG.ml rfl (RG.p (PV.mul rfl rfl rfl (by omega)) ?_))))
   refine RG.callF (vs := [_, _]) rfl rfl En131 rfl (wide_s hpb (by omega) ?_)
   refine RG.ot rfl (OT.alloc rfl Zr101 fun b14 => ?_)
   refine RG.ot rfl (OT.storeW (vs := [vi _, vi _, vi _, vi _]) rfl Sz101 rfl rfl (Cl.c rfl) rfl rfl (OneC.c rfl) ?_)
   refine RG.nil (WP.sr (RG.p (PV.loadW rfl Ag26 rfl rfl) (RG.ml rfl (RG.ml rfl ?_))))
   refine RG.ot rfl (OT.bslice (F := intT) (els := [_]) rfl El45 rfl (by decide) rfl (by decide) ⟨rfl, (Cl.c rfl), trivial⟩ fun v58 => ?_)
   refine RG.callF (vs := [_, _, v58, _]) rfl rfl En132 rfl (l21Shapes_s hL.up hlen Rs.o (fun v59 => ?_))
   refine RG.p (PV.asg (v := v59) rfl rfl) (RG.nil (WP.seq (WP.sr (RG.mr rfl (RG.nil (WP.block ?_))))))
   refine WP.bdo v59 fun hbz => ?_
   refine WP.loop1 [14, 15] (fun i => i <= (selL (erCls l.cells.xs) (occR (erCls l.cells.xs) cell) [n] false).length ∧ ∀ j, j < i -> decide (distR (gd (selL (erCls l.cells.xs) (occR (erCls l.cells.xs) cell) [n] false) j).box (moveR (gd (elems (gd l.cells.xs cell.toNat).insts.xs) n.toNat).place (bndR (erCls l.cells.xs) (gd (elems (gd l.cells.xs cell.toNat).insts.xs) n.toNat).cell)) <= 2 * reach) = false) (fun i => [(16, vi i)]) (fun i => osl 109 shapeT v59 (selL (erCls l.cells.xs) (occR (erCls l.cells.xs) cell) [n] false) :: blk b14 101 (rectT.enc (wideR (moveR (gd (elems (gd l.cells.xs cell.toNat).insts.xs) n.toNat).place (bndR (erCls l.cells.xs) (gd (elems (gd l.cells.xs cell.toNat).insts.xs) n.toNat).cell)) (2 * reach))) :: L) (fun i => (selL (erCls l.cells.xs) (occR (erCls l.cells.xs) cell) [n] false).length - i) 0 ⟨by omega, fun j h => by omega⟩ ⟨rfl, trivial⟩ Cv.p ?_
   rintro i τ ⟨hi, hj⟩
   refine WP.seq (WP.sr (RG.ml rfl (RG.p (PV.move (v := v59) rfl rfl) (RG.p (PV.len (v := v59) rfl Tryz.underlying66 rfl SlF.o) (RG.p (PV.lss rfl rfl rfl) (RG.nil ?_))))))
   refine WP.cond rfl (fun h8 => ?_) fun h8 => ?_
   ·have h8 := odt h8
    have hin := validR_in (selL_in ha.hz (ls := [n]) (b := false) (i := i) (by omega))
    have hsb := RIn_big hin
    obtain ⟨y1, y2, y3, y4, y5, y6⟩ := id hin
    have hns := near_span (q := reach) hsb hpb hr.1
    refine WP.skip (WP.seq (WP.block (WP.sr (RG.p (PV.move (v := v59) rfl rfl) (RG.ml rfl (RG.p (PV.idxS (v := v59) rfl Is66 rfl SlF.o rfl rfl (by omega)) (RG.p (PV.field rfl Fo109_1 rfl) (RG.p (PV.loadEP rfl Ag101 rfl rfl (El.o (getG (by omega))) rfl) ?_))))))))
    refine RG.ot rfl (OT.alloc rfl Zr101 fun b17 => ?_)
    refine RG.ot rfl (OT.storeW (vs := [vi _, vi _, vi _, vi _]) rfl Sz101 rfl rfl (Cl.c rfl) rfl rfl (OneC.c rfl) ?_)
    refine RG.nil (WP.sr (RG.p (PV.field rfl Fo101_0 rfl) (RG.p (PV.load1 rfl Sc2 rfl (Rd.blk rfl)) (RG.p (PV.field rfl Fo101_2 rfl) (RG.p (PV.load1 rfl Sc2 rfl (Rd.blk rfl)) (RG.p (PV.field rfl Fo101_0 rfl) (RG.p (PV.load1 rfl Sc2 rfl (Rd.blk rfl)) (RG.p (PV.field rfl Fo101_2 rfl) (RG.p (PV.load1 rfl Sc2 rfl (Rd.blk rfl)) ?_)))))))))
    refine RG.callF (vs := [_, _, _, _]) rfl rfl En133 rfl (span_s (by first | omega | (simp only [wideR]; omega)) (by first | omega | (simp only [wideR]; omega)) (by first | omega | (simp only [wideR]; omega)) (by first | omega | (simp only [wideR]; omega)) ?_)
    refine RG.p (PV.gtr rfl rfl rfl) (RG.bl rfl ?_)
    refine RG.g rfl (fun hp => (PV.field rfl Fo101_1 rfl)) ?_
    refine RG.g rfl (fun hp => (PV.load1 rfl Sc2 (gt' hp) (Rd.blk rfl))) ?_
    refine RG.g rfl (fun hp => (PV.field rfl Fo101_3 rfl)) ?_
    refine RG.g rfl (fun hp => (PV.load1 rfl Sc2 (gt' hp) (Rd.blk rfl))) ?_
    refine RG.g rfl (fun hp => (PV.field rfl Fo101_1 rfl)) ?_
    refine RG.g rfl (fun hp => (PV.load1 rfl Sc2 (gt' hp) (Rd.blk rfl))) ?_
    refine RG.g rfl (fun hp => (PV.field rfl Fo101_3 rfl)) ?_
    refine RG.g rfl (fun hp => (PV.load1 rfl Sc2 (gt' hp) (Rd.blk rfl))) ?_
    refine RG.gsC rfl rfl rfl rfl En133 (fun hp => ⟨_, (acons (gt' hp) (acons (gt' hp) (acons (gt' hp) (acons (gt' hp) anil)))), span_s (by first | omega | (simp only [wideR]; omega)) (by first | omega | (simp only [wideR]; omega)) (by first | omega | (simp only [wideR]; omega)) (by first | omega | (simp only [wideR]; omega)) ⟨rfl, rfl, rfl⟩⟩) ?_
    refine RG.g rfl (fun hp => (PV.gtr rfl (gt' hp) rfl)) ?_
    refine RG.p (PV.pickA rfl rfl (fun hq => gt' (geqT hq)) rfl) (RG.nil ?_)
    refine WP.cond rfl (fun h9 => ?_) fun h9 => ?_
    ·have e : freeB (erCls l.cells.xs) cell n reach = false := by
      rw [hfe, List.any_eq_true.2 ⟨gd (selL (erCls l.cells.xs) (occR (erCls l.cells.xs) cell) [n] false) i, gd_mem (by omega), by rw [hns]; exact h9⟩]; rfl
     rw [e] at k
     refine WP.sr (RG.br rfl (RG.nil ?_))
     exact WP.ret ⟨_, _, rv rfl rfl, Cv.p, k⟩
    ·have hj' : ∀ j, j < i + 1 -> decide (distR (gd (selL (erCls l.cells.xs) (occR (erCls l.cells.xs) cell) [n] false) j).box (moveR (gd (elems (gd l.cells.xs cell.toNat).insts.xs) n.toNat).place (bndR (erCls l.cells.xs) (gd (elems (gd l.cells.xs cell.toNat).insts.xs) n.toNat).cell)) <= 2 * reach) = false := fun j h => by
      by_cases c : j = i
      ·rw [c, hns]; exact h9
      ·exact hj j (by omega)
     refine WP.skip (WP.region (RG.ml rfl (RG.p (PV.add rfl rfl rfl (by omega)) (RG.mr rfl (RG.nil ?_)))))
     exact ⟨rfl, i + 1, ⟨by omega, hj'⟩, ⟨rfl, trivial⟩, ⟨rfl, rfl, trivial⟩, Cv.p, by omega⟩
   ·have h8 := odf h8
    have e : freeB (erCls l.cells.xs) cell n reach = true := by
     have : ((selL (erCls l.cells.xs) (occR (erCls l.cells.xs) cell) [n] false).any fun s => decide (distR s.box (moveR (gd (elems (gd l.cells.xs cell.toNat).insts.xs) n.toNat).place (bndR (erCls l.cells.xs) (gd (elems (gd l.cells.xs cell.toNat).insts.xs) n.toNat).cell)) <= 2 * reach)) = false := by
      rw [List.any_eq_false]
      intro s hs
      obtain ⟨j, hj2, rfl⟩ := List.getElem_of_mem hs
      have := hj j (by omega)
      rw [gd_eq hj2] at this
      simpa using this
     rw [hfe, this]; rfl
    rw [e] at k
    refine WP.exit (WP.sr (RG.br rfl (RG.nil ?_)))
    exact WP.ret ⟨_, _, rv rfl rfl, Cv.p, k⟩
theorem AtEl.of {xs : List Cell} {cell n : Int} (hz : shE (erCls xs) cell = 0) (h : within n 0 ((elN (erCls xs) cell : Int) - 1) = true) : AtEl xs cell n := by
 simp only [within, Bool.and_eq_true, decide_eq_true_eq] at h
 exact ⟨hz, by omega, by omega⟩
theorem reach_in {n : Int} (h : within n 0 8 = true) : 0 <= n ∧ n <= 8 := by simpa [within] using h
def cfE (cs : List ECell) (cell reach : Int) : Int := bif decide (shE cs cell = 0) then (bif within reach 0 8 then 0 else 2) else shE cs cell
def cfTo (cs : List ECell) (cell reach : Int) (i : Nat) : List Int := ((List.range i).filter fun n : Nat => freeB cs cell (n : Int) reach).map fun n : Nat => (n : Int)
def cfR (cs : List ECell) (cell reach : Int) : List Int := bif decide (cfE cs cell reach = 0) then cfTo cs cell reach (elN cs cell) else []
theorem cfE_else {cs : List ECell} {cell reach : Int} (h1 : (decide (shE cs cell = 0) && !within reach 0 8) = false) : shE cs cell = cfE cs cell reach := by
 rw [cfE]
 by_cases c : shE cs cell = 0
 ·rw [decide_eq_true c, cond_true, c]
  rw [decide_eq_true c, Bool.true_and, Bool.not_eq_false'] at h1
  rw [h1]; rfl
 ·rw [decide_eq_false c]; rfl
theorem cfTo_step (cs : List ECell) (cell reach : Int) (i : Nat) : cfTo cs cell reach (i + 1) = cfTo cs cell reach i ++ (if freeB cs cell (i : Int) reach = true then [(i : Int)] else []) := by
 rw [cfTo, cfTo, List.range_succ, List.filter_append, List.map_append]
 by_cases h : freeB cs cell (i : Int) reach = true <;> simp [h]
theorem cfTo_len (cs : List ECell) (cell reach : Int) (i : Nat) : (cfTo cs cell reach i).length <= i := by
 rw [cfTo, List.length_map]
 exact Nat.le_trans (List.length_filter_le _ _) (by simp)
theorem allFree_i {l : Lib} {cell reach : Int} (hL : RLib G L l.cells.v l.cells.xs) (hlen : lenC (erCls l.cells.xs)) (k : ∀ v', R (.tuple #[v', vi (cfE (erCls l.cells.xs) cell reach)]) G (osl 2 intT v' (cfR (erCls l.cells.xs) cell reach) :: L)) : CallT Tryz.prog 24 #[vT libT l, vi cell, vi reach] G L R := by
 have hE := erCls_len l.cells.xs
 refine CallT.enter (args := _) Tryz.func24 rfl rfl (by kernel_rfl) rfl ?_
 refine WP.sr ?_
 refine RG.ot rfl (OT.box (cs := libT.enc l) rfl rfl rfl fun b3 => ?_)
 refine RG.p (PV.asg rfl rfl) (RG.mr rfl (RG.nil (WP.sr (RG.p (PV.loadW rfl Ag26 rfl rfl) (RG.ml rfl ?_)))))
 refine RG.callF (vs := [_, _]) rfl rfl En42 rfl (rooted_i hL.up hlen (fun w15 => ?_))
 refine RG.p (PV.move (v := .tuple _) rfl rfl) (RG.p (PV.ext (v := w15) rfl rfl rfl) (RG.p (PV.ext rfl rfl rfl) (RG.p (PV.asg (v := w15) rfl rfl) (RG.mr rfl (RG.nil ?_)))))
 refine WP.cut1 [1, 2, 3, 8] (fun (q : Int) => q = cfE (erCls l.cells.xs) cell reach) (fun (q : Int) => [(9, vi q)]) (fun (q : Int) => blk b3 26 (libT.enc l) :: osl 133 rshapeT w15 (rootR (erCls l.cells.xs) cell) :: L) ?_ ?_
 refine WP.sr (RG.ml rfl (RG.p (PV.eql rfl rfl rfl) (RG.bl rfl ?_)))
 refine RG.g rfl (fun hp => (PV.mvI (.inl rfl) rfl)) ?_
 refine RG.gsC rfl rfl rfl rfl En56 (fun hp => ⟨_, (acons (gt' hp) (acons rfl (acons rfl anil))), within_s ⟨rfl, rfl, rfl⟩⟩) ?_
 refine RG.g rfl (fun hp => (PV.not rfl (gt' hp))) ?_
 refine RG.p (PV.pickA rfl rfl (fun hq => gt' (geqT hq)) rfl) (RG.nil ?_)
 refine WP.cond rfl (fun h1 => ?_) fun h1 => ?_
 ·have h1 : shE (erCls l.cells.xs) cell = 0 ∧ within reach 0 8 = false := by simpa using h1
  refine WP.region (RG.mr rfl (RG.nil ?_))
  exact ⟨rfl, 2, (by rw [cfE, decide_eq_true h1.1, h1.2]; rfl), ⟨rfl, trivial⟩, ⟨rfl, rfl, rfl, rfl, trivial⟩, Cv.p⟩
 ·refine WP.skip ?_
  exact ⟨rfl, (shE (erCls l.cells.xs) cell), (cfE_else h1), ⟨rfl, trivial⟩, ⟨rfl, rfl, rfl, rfl, trivial⟩, Cv.p⟩
 rintro q τ0 hq
 subst hq
 refine WP.seq (WP.sr (RG.ml rfl (RG.p (PV.neq rfl rfl rfl) (RG.nil ?_))))
 refine WP.cond rfl (fun h2 => ?_) fun h2 => ?_
 ·have h2 : cfE (erCls l.cells.xs) cell reach ≠ 0 := by simpa using h2
  have e : cfR (erCls l.cells.xs) cell reach = [] := by rw [cfR, decide_eq_false h2]; rfl
  rw [e] at k
  refine WP.sr (RG.ml rfl (RG.p (PV.asg rfl rfl) (RG.mr rfl (RG.nil ?_))))
  exact WP.ret ⟨_, _, ResV.two rfl rfl rfl, Cv.p.trans Cv.nilS, k (.slice none 0 0)⟩
 ·have h2 : cfE (erCls l.cells.xs) cell reach = 0 := by simpa using h2
  have e : cfR (erCls l.cells.xs) cell reach = cfTo (erCls l.cells.xs) cell reach (elN (erCls l.cells.xs) cell) := by rw [cfR, decide_eq_true h2]; rfl
  obtain ⟨h1, h3⟩ : shE (erCls l.cells.xs) cell = 0 ∧ within reach 0 8 = true := by
   unfold cfE at h2
   by_cases c : shE (erCls l.cells.xs) cell = 0
   ·rw [decide_eq_true c, cond_true] at h2
    cases hw : within reach 0 8 with
    | true => exact ⟨c, rfl⟩
    | false => rw [hw] at h2; cases h2
   ·rw [decide_eq_false c] at h2; exact absurd h2 c
  rw [e, h2] at k
  have hok := shE_lib h1
  have hce := erCl_insts (xs := l.cells.xs) (i := cell.toNat) (by omega)
  have hns : okNs (gd l.cells.xs cell.toNat).insts.xs := by rw [<- hce]; exact okLib_ns hok.1 (by omega)
  have hnn := elN_ns (xs := l.cells.xs) (cell := cell) (by omega)
  have hnb : elN (erCls l.cells.xs) cell <= 128 := elems_len_bd hok.1 (by omega)
  refine WP.skip (WP.sr ?_)
  refine RG.ot rfl (OT.bslice (F := intT) (els := []) rfl El45 rfl (by decide) rfl (by decide) trivial fun v28 => ?_)
  refine RG.p (PV.asg (v := v28) rfl rfl) (RG.nil (WP.seq (WP.sr (RG.p (PV.field rfl Fo26_0 rfl) (RG.p (PV.load1 rfl Sc24 rfl (Rd.blk rfl)) (RG.ml rfl (RG.p (PV.idxS (j := cell.toNat) rfl Is24 rfl (SlF.r hL.c) rfl (by omega) (by omega)) (RG.p (PV.loadE rfl Ag95 rfl rfl (El.r hL.c (getG (by omega)))) ?_))))))))
  refine RG.callF (vs := [_]) rfl rfl En50 rfl (elems_i (hL.na (by omega)).up hns (fun v34 => ?_))
  refine RG.p (PV.len (v := v34) rfl Tryz.underlying90 rfl SlF.o) (RG.ml rfl (RG.nil (WP.block ?_)))
  refine WP.cv ((Cv.p (C := osl 2 intT v28 [] :: blk b3 26 (libT.enc l) :: osl 133 rshapeT w15 (rootR (erCls l.cells.xs) cell) :: L)).trans (Cv.eqS (ys := cfTo (erCls l.cells.xs) cell reach 0) rfl)) ?_
  refine WP.loop2 [1, 2, 3, 8, 35] (fun (i : Nat) (v : Value) => i <= (elems (gd l.cells.xs cell.toNat).insts.xs).length) (fun (i : Nat) (v : Value) => [(36, vi i), (10, v)]) (fun (i : Nat) (v : Value) => osl 2 intT v (cfTo (erCls l.cells.xs) cell reach i) :: blk b3 26 (libT.enc l) :: osl 133 rshapeT w15 (rootR (erCls l.cells.xs) cell) :: L) (fun (i : Nat) (v : Value) => (elems (gd l.cells.xs cell.toNat).insts.xs).length - i) 0 v28 (by omega) ⟨rfl, rfl, trivial⟩ Cv.p ?_
  rintro i v τ hi
  refine WP.sr (RG.p (PV.lss rfl rfl rfl) (RG.nil (WP.seq ?_)))
  have hcl := cfTo_len (erCls l.cells.xs) cell reach i
  refine WP.cond rfl (fun h4 => ?_) fun h4 => ?_
  ·have h4 := odt h4
   have hst := cfTo_step (erCls l.cells.xs) cell reach i
   refine WP.skip (WP.seq (WP.block (WP.sr (RG.ml rfl (RG.mr rfl (RG.nil (WP.sr (RG.p (PV.loadW rfl Ag26 rfl rfl) (RG.ml rfl (RG.ml rfl (RG.ml rfl ?_)))))))))))
   refine RG.p (PV.move (v := w15) rfl rfl) ?_
   refine RG.callF (vs := [_, _, _, _, w15]) rfl rfl En49 rfl (free_i hL.up hlen ⟨h1, by omega, by omega⟩ (reach_in h3) Rs.o ?_)
   refine RG.nil ?_
   refine WP.cond rfl (fun h5 => ?_) fun h5 => ?_
   ·rw [if_pos h5] at hst
    refine WP.region (RG.p (PV.move (v := v) rfl rfl) (RG.ml rfl ?_))
    refine RG.ot rfl (OT.bslice (F := intT) (els := [_]) rfl El45 rfl (by decide) rfl (by decide) ⟨rfl, (Cl.c rfl), trivial⟩ fun v47 => ?_)
    refine RG.ot rfl (OT.append (v := v) (u := v47) (F := intT) rfl El45 rfl (by decide) rfl rfl Rs.o (OneL.c (fun _ => rfl)) rfl (by first | omega | (simp <;> omega)) fun v48 => ?_)
    refine RG.p (PV.asg (v := v48) rfl rfl) (RG.nil (WP.region (RG.p (PV.add rfl rfl rfl (by omega)) (RG.ml rfl (RG.nil ?_)))))
    exact ⟨rfl, i + 1, v48, (by omega), ⟨rfl, rfl, trivial⟩, ⟨rfl, rfl, rfl, rfl, rfl, trivial⟩, ((Cv.p (C := osl 2 intT v48 (cfTo (erCls l.cells.xs) cell reach i ++ [(i : Int)]) :: blk b3 26 (libT.enc l) :: osl 133 rshapeT w15 (rootR (erCls l.cells.xs) cell) :: L)).trans (Cv.eqS hst.symm)), by omega⟩
   ·rw [if_neg (by rw [h5]; decide), List.append_nil] at hst
    refine WP.skip (WP.region (RG.p (PV.add rfl rfl rfl (by omega)) (RG.ml rfl (RG.nil ?_))))
    exact ⟨rfl, i + 1, v, (by omega), ⟨rfl, rfl, trivial⟩, ⟨rfl, rfl, rfl, rfl, rfl, trivial⟩, ((Cv.p (C := osl 2 intT v (cfTo (erCls l.cells.xs) cell reach i) :: blk b3 26 (libT.enc l) :: osl 133 rshapeT w15 (rootR (erCls l.cells.xs) cell) :: L)).trans (Cv.eqS hst.symm)), by omega⟩
  ·have h4 := odf h4
   obtain rfl : i = elN (erCls l.cells.xs) cell := by omega
   refine WP.exit (WP.sr (RG.p (PV.move (v := v) rfl rfl) (RG.p (PV.asg (v := v) rfl rfl) (RG.mr rfl (RG.nil ?_)))))
   exact WP.ret ⟨_, _, ResV.two rfl rfl rfl, Cv.p, k v⟩
theorem allFree_s {l : Lib} {cell reach : Int} (hL : RLib G L l.cells.v l.cells.xs) (hlen : lenC (erCls l.cells.xs)) (h1 : shE (erCls l.cells.xs) cell = 0) (hr : 0 <= reach ∧ reach <= 8) (k : ∀ v', R v' G (osl 2 intT v' (cfTo (erCls l.cells.xs) cell reach (elN (erCls l.cells.xs) cell)) :: L)) : CallT Tryz.prog 40 #[vT libT l, vi cell, vi reach] G L R := by
 have hE := erCls_len l.cells.xs
 have hok := shE_lib h1
 have hnb : elN (erCls l.cells.xs) cell <= 128 := elems_len_bd hok.1 (by omega)
 refine CallT.enter (args := _) Tryz.func40 rfl rfl (by kernel_rfl) rfl ?_
 refine WP.sr ?_
 refine RG.ot rfl (OT.box (cs := libT.enc l) rfl rfl rfl fun b3 => ?_)
 refine RG.p (PV.asg rfl rfl) (RG.nil (WP.sr ?_))
 refine RG.ot rfl (OT.bslice (F := intT) (els := []) rfl El45 rfl (by decide) rfl (by decide) trivial fun v9 => ?_)
 refine RG.p (PV.asg (v := v9) rfl rfl) (RG.nil (WP.seq (WP.sr (RG.mr rfl (RG.nil (WP.block ?_))))))
 refine WP.cv (Cv.eqS (ys := cfTo (erCls l.cells.xs) cell reach 0) rfl) ?_
 refine WP.loop2 [1, 2, 3] (fun (i : Nat) (v : Value) => i <= elN (erCls l.cells.xs) cell) (fun (i : Nat) (v : Value) => [(8, vi i), (7, v)]) (fun (i : Nat) (v : Value) => osl 2 intT v (cfTo (erCls l.cells.xs) cell reach i) :: blk b3 26 (libT.enc l) :: L) (fun (i : Nat) (v : Value) => elN (erCls l.cells.xs) cell - i) 0 v9 (by omega) ⟨rfl, rfl, trivial⟩ Cv.p ?_
 rintro i v τ hi
 refine WP.seq (WP.sr (RG.ml rfl (RG.p (PV.loadW rfl Ag26 rfl rfl) (RG.ml rfl ?_))))
 refine RG.callF (vs := [_, _]) rfl rfl En80 rfl (l21Elements_s hL.up (shE_lib h1) ?_)
 refine RG.p (PV.lss rfl rfl rfl) (RG.nil ?_)
 have hcl := cfTo_len (erCls l.cells.xs) cell reach i
 refine WP.cond rfl (fun h4 => ?_) fun h4 => ?_
 ·have h4 := odt h4
  have hst := cfTo_step (erCls l.cells.xs) cell reach i
  refine WP.skip (WP.seq (WP.block (WP.sr (RG.p (PV.loadW rfl Ag26 rfl rfl) (RG.ml rfl (RG.ml rfl (RG.ml rfl ?_)))))))
  refine RG.callF (vs := [_, _, _, _]) rfl rfl En81 rfl (free_r hL.up hlen ⟨h1, by omega, by omega⟩ hr ?_)
  refine RG.nil ?_
  refine WP.cond rfl (fun h5 => ?_) fun h5 => ?_
  ·rw [if_pos h5] at hst
   refine WP.region (RG.p (PV.move (v := v) rfl rfl) (RG.ml rfl ?_))
   refine RG.ot rfl (OT.bslice (F := intT) (els := [_]) rfl El45 rfl (by decide) rfl (by decide) ⟨rfl, (Cl.c rfl), trivial⟩ fun v24 => ?_)
   refine RG.ot rfl (OT.append (v := v) (u := v24) (F := intT) rfl El45 rfl (by decide) rfl rfl Rs.o (OneL.c (fun _ => rfl)) rfl (by first | omega | (simp <;> omega)) fun v25 => ?_)
   refine RG.p (PV.asg (v := v25) rfl rfl) (RG.nil (WP.region (RG.ml rfl (RG.p (PV.add rfl rfl rfl (by omega)) (RG.mr rfl (RG.nil ?_))))))
   exact ⟨rfl, i + 1, v25, (by omega), ⟨rfl, rfl, trivial⟩, ⟨rfl, rfl, rfl, trivial⟩, ((Cv.p (C := osl 2 intT v25 (cfTo (erCls l.cells.xs) cell reach i ++ [(i : Int)]) :: blk b3 26 (libT.enc l) :: L)).trans (Cv.eqS hst.symm)), by omega⟩
  ·rw [if_neg (by rw [h5]; decide), List.append_nil] at hst
   refine WP.skip (WP.region (RG.ml rfl (RG.p (PV.add rfl rfl rfl (by omega)) (RG.mr rfl (RG.nil ?_)))))
   exact ⟨rfl, i + 1, v, (by omega), ⟨rfl, rfl, trivial⟩, ⟨rfl, rfl, rfl, trivial⟩, ((Cv.p (C := osl 2 intT v (cfTo (erCls l.cells.xs) cell reach i) :: blk b3 26 (libT.enc l) :: L)).trans (Cv.eqS hst.symm)), by omega⟩
 ·have h4 := odf h4
  obtain rfl : i = elN (erCls l.cells.xs) cell := by omega
  refine WP.exit (WP.sr (RG.p (PV.move (v := v) rfl rfl) (RG.p (PV.asg (v := v) rfl rfl) (RG.nil ?_))))
  exact WP.ret ⟨_, _, rv rfl rfl, Cv.p, k v⟩
theorem allFree_r {l : Lib} {cell reach : Int} (hL : RLib G L l.cells.v l.cells.xs) (hlen : lenC (erCls l.cells.xs)) (k : ∀ v', R (.tuple #[v', vi (cfE (erCls l.cells.xs) cell reach)]) G (osl 2 intT v' (cfR (erCls l.cells.xs) cell reach) :: L)) : CallT Tryz.prog 14 #[vT libT l, vi cell, vi reach] G L R := by
 refine CallT.enter (args := _) Tryz.func14 rfl rfl (by kernel_rfl) rfl ?_
 refine WP.sr ?_
 refine RG.ot rfl (OT.box (cs := libT.enc l) rfl rfl rfl fun b3 => ?_)
 refine RG.p (PV.asg rfl rfl) (RG.mr rfl (RG.nil (WP.sr (RG.p (PV.loadW rfl Ag26 rfl rfl) (RG.ml rfl ?_)))))
 refine RG.callF (vs := [_, _]) rfl rfl En38 rfl (flat_r hL.up hlen (fun w13 => ?_))
 refine RG.p (PV.move (v := .tuple _) rfl rfl) (RG.p (PV.ext (v := w13) rfl rfl rfl) (RG.p (PV.ext rfl rfl rfl) (RG.p (PV.asg (v := w13) rfl rfl) (RG.mr rfl (RG.nil (WP.seq (WP.sr (RG.ml rfl (RG.p (PV.neq rfl rfl rfl) (RG.nil ?_))))))))))
 refine WP.cond rfl (fun h1 => ?_) fun h1 => ?_
 ·have h1 : shE (erCls l.cells.xs) cell ≠ 0 := by simpa using h1
  have e1 : cfE (erCls l.cells.xs) cell reach = shE (erCls l.cells.xs) cell := by rw [cfE, decide_eq_false h1]; rfl
  have e : cfR (erCls l.cells.xs) cell reach = [] := by rw [cfR, e1, decide_eq_false h1]; rfl
  rw [e, e1] at k
  refine WP.sr (RG.ml rfl (RG.p (PV.asg rfl rfl) (RG.mr rfl (RG.nil ?_))))
  exact WP.ret ⟨_, _, ResV.two rfl rfl rfl, Cv.p.trans Cv.nilS, k (.slice none 0 0)⟩
 ·have h1 : shE (erCls l.cells.xs) cell = 0 := by simpa using h1
  refine WP.skip (WP.seq (WP.sr (RG.ml rfl ?_)))
  refine RG.callF (vs := [_]) rfl rfl En39 rfl (reach21_s ?_)
  refine RG.p (PV.not rfl rfl) (RG.nil ?_)
  refine WP.cond rfl (fun h3 => ?_) fun h3 => ?_
  ·have h3 : within reach 0 8 = false := by simpa using h3
   have e1 : cfE (erCls l.cells.xs) cell reach = 2 := by rw [cfE, decide_eq_true h1, h3]; rfl
   have e : cfR (erCls l.cells.xs) cell reach = [] := by rw [cfR, e1]; rfl
   rw [e, e1] at k
   refine WP.sr (RG.p (PV.asg rfl rfl) (RG.mr rfl (RG.nil ?_)))
   exact WP.ret ⟨_, _, ResV.two rfl rfl rfl, Cv.p.trans Cv.nilS, k (.slice none 0 0)⟩
  ·have h3 : within reach 0 8 = true := by simpa using h3
   have e1 : cfE (erCls l.cells.xs) cell reach = 0 := by rw [cfE, decide_eq_true h1, h3]; rfl
   have e : cfR (erCls l.cells.xs) cell reach = cfTo (erCls l.cells.xs) cell reach (elN (erCls l.cells.xs) cell) := by rw [cfR, e1]; rfl
   rw [e, e1] at k
   refine WP.skip (WP.sr (RG.p (PV.loadW rfl Ag26 rfl rfl) (RG.ml rfl (RG.ml rfl ?_))))
   refine RG.callF (vs := [_, _, _]) rfl rfl En40 rfl (allFree_s hL.up hlen h1 (reach_in h3) (fun v25 => ?_))
   refine RG.p (PV.asg (v := v25) rfl rfl) (RG.mr rfl (RG.nil ?_))
   exact WP.ret ⟨_, _, ResV.two rfl rfl rfl, Cv.p, k v25⟩
theorem cfR_len (cs : List ECell) (cell reach : Int) : (cfR cs cell reach).length <= 128 := by
 rw [cfR]
 by_cases h : cfE cs cell reach = 0
 ·rw [decide_eq_true h, cond_true]
  have h1 : shE cs cell = 0 := by
   unfold cfE at h
   by_cases c : shE cs cell = 0
   ·exact c
   ·rw [decide_eq_false c] at h; exact absurd h c
  have := shE_lib h1
  exact Nat.le_trans (cfTo_len _ _ _ _) (elems_len_bd this.1 (by omega))
 ·rw [decide_eq_false h]; simp
theorem rootR_ok {cs : List ECell} {cell : Int} (h : shE cs cell = 0) : rootR cs cell = rootL cs (occR cs cell) := by rw [rootR, decide_eq_true h]; rfl
def incr (ls : List Int) : Bool := decide (∀ i, i < ls.length - 1 -> gd ls i < gd ls (i + 1))
def elBad (cs : List ECell) (cell : Int) (ls : List Int) : Bool := ls.any fun e => !within e 0 ((elN cs cell : Int) - 1)
def rsE (cs : List ECell) (cell : Int) (ls : List Int) : Int := bif decide (shE cs cell = 0) then (bif !incr ls then 1 else bif elBad cs cell ls then 5 else 0) else shE cs cell
def rLay (cs : List ECell) (cell : Int) (ls : List Int) : List (List Rect) := bif decide (rsE cs cell ls = 0) then layL (selL cs (occR cs cell) ls false) else []
theorem rLay_no {cs : List ECell} {cell : Int} {ls : List Int} (h : rsE cs cell ls ≠ 0) : rLay cs cell ls = [] := by rw [rLay, decide_eq_false h]; rfl
theorem rLay_ok {cs : List ECell} {cell : Int} {ls : List Int} (h : rsE cs cell ls = 0) : rLay cs cell ls = layL (selL cs (occR cs cell) ls false) := by rw [rLay, decide_eq_true h]; rfl
theorem incr_no {ls : List Int} {i : Nat} (h0 : 1 <= i) (h : i < ls.length) (hg : gd ls i <= gd ls (i - 1)) : incr ls = false := by
 rw [incr, decide_eq_false_iff_not]
 intro hh
 have := hh (i - 1) (by omega)
 rw [show i - 1 + 1 = i by omega] at this
 omega
theorem incr_yes {ls : List Int} (h : ∀ j, 1 <= j -> j < ls.length -> gd ls (j - 1) < gd ls j) : incr ls = true := by
 rw [incr, decide_eq_true_iff]
 intro i hi
 have := h (i + 1) (by omega) (by omega)
 rwa [show i + 1 - 1 = i by omega] at this
theorem root_many {o : EOcc} {ls : List Int} (h : ∀ a ∈ ls, 0 <= a) : (!(ls.any fun a => decide (a = rootOf o))) = (selS ls o == false) := by
 by_cases hp : 0 < o.path.length
 ·rw [rootOf_pos hp, selS]
  have : (0 : Int) < o.path.length := by omega
  rw [decide_eq_true this, Bool.true_and]
  cases ls.any fun a => decide (a = gd o.path 0) <;> rfl
 ·rw [rootOf_neg hp, selS]
  have h1 : ¬ (0 : Int) < o.path.length := by omega
  have h2 : (ls.any fun a => decide (a = (-1 : Int))) = false := by
   rw [List.any_eq_false]
   intro a ha
   have := h a ha
   simp; omega
  rw [decide_eq_false h1, h2]; rfl
theorem indexInt_s {v : Value} {rs : List Int} {q : Int} (h1 : Rs G L intT v rs) (k : R (vi (idxI (fun r => decide (q = r)) rs)) G L) : CallT Tryz.prog 85 #[v, vi q] G L R := by
 refine CallT.bd h1 fun hb => ?_
 refine CallT.enter (args := _) Tryz.func85 rfl rfl (by kernel_rfl) rfl ?_
 refine WP.sr (RG.mr rfl (RG.nil (WP.seq (WP.sr (RG.p (PV.move (v := v) rfl rfl) (RG.p (PV.len (v := v) rfl Tryz.underlying45 rfl (SlF.r h1)) (RG.ml rfl (RG.nil (WP.block ?_)))))))))
 refine WP.loop1 [0, 1, 7] (fun i => i <= rs.length ∧ ∀ j, j < i -> decide (q = gd rs j) = false) (fun i => [(8, vi i)]) (fun i => L) (fun i => rs.length - i) 0 ⟨by omega, fun j h => by omega⟩ ⟨rfl, trivial⟩ Cv.p ?_
 rintro i τ ⟨hi, hj⟩
 refine WP.sr (RG.p (PV.lss rfl rfl rfl) (RG.nil (WP.seq ?_)))
 refine WP.cond rfl (fun h2 => ?_) fun h2 => ?_
 ·have h2 := odt h2
  refine WP.skip (WP.seq (WP.block (WP.sr (RG.ml rfl (RG.mr rfl (RG.nil (WP.sr (RG.ml rfl (RG.p (PV.move (v := v) rfl rfl) (RG.ml rfl (RG.p (PV.idxS (v := v) rfl Is45 rfl (SlF.r h1) rfl rfl (by omega)) ?_)))))))))))
  refine RG.p (PV.loadE1 rfl Sc2 rfl rfl (El.r h1 (getG (by omega))) rfl) (RG.p (PV.eql rfl rfl rfl) (RG.nil ?_))
  refine WP.cond rfl (fun h3 => ?_) fun h3 => ?_
  ·rw [idxI_at (by omega) h3 hj] at k
   refine WP.sr (RG.ml rfl (RG.mr rfl (RG.nil ?_)))
   exact WP.ret ⟨_, _, rv rfl rfl, Cv.p, k⟩
  ·have hj' : ∀ j, j < i + 1 -> decide (q = gd rs j) = false := fun j h => by
    by_cases c : j = i
    ·rw [c]; exact h3
    ·exact hj j (by omega)
   refine WP.skip (WP.region (RG.p (PV.add rfl rfl rfl (by omega)) (RG.ml rfl (RG.nil ?_))))
   exact ⟨rfl, i + 1, ⟨by omega, hj'⟩, ⟨rfl, trivial⟩, ⟨rfl, rfl, rfl, trivial⟩, Cv.p, by omega⟩
 ·have h2 := odf h2
  rw [idxI_none (fun j h => hj j (by omega))] at k
  refine WP.exit (WP.sr (RG.mr rfl (RG.nil ?_)))
  exact WP.ret ⟨_, _, rv rfl rfl, Cv.p, k⟩
theorem containsInt_s {v : Value} {rs : List Int} {q : Int} (h1 : Rs G L intT v rs) (k : R (.bool (rs.any fun a => decide (a = q))) G L) : CallT Tryz.prog 46 #[v, vi q] G L R := by
 have e : (rs.any fun a => decide (a = q)) = rs.any fun a => decide (q = a) := by congr 1; funext a; rw [decide_eq_decide]; exact eq_comm
 rw [e, <- idxI_any] at k
 refine CallT.enter (args := _) Tryz.func46 rfl rfl (by kernel_rfl) rfl ?_
 refine WP.sr (RG.br rfl (RG.nil (WP.sr (RG.p (PV.move (v := v) rfl rfl) (RG.ml rfl ?_)))))
 refine RG.callF (vs := [v, _]) rfl rfl En85 rfl (indexInt_s (Rs.up h1) ?_)
 refine RG.p (PV.geq rfl rfl rfl) (RG.br rfl (RG.nil ?_))
 exact WP.ret ⟨_, _, rv rfl rfl, Cv.p, k⟩
theorem rest1_s {r : Int} {ls : List Int} {v : Value} {b : Nat} (hb : Rd G L b 0 v) (h1 : Rs G L intT v ls) (k : R (.bool (!(ls.any fun a => decide (a = r)))) G L) : CallT Tryz.prog 45 #[vi r, .pointer (some ⟨b, 0, none⟩)] G L R := by
 refine CallT.enter (args := _) Tryz.func45 rfl rfl (by kernel_rfl) rfl ?_
 refine WP.sr (RG.br rfl (RG.nil (WP.sr (RG.p (PV.load1 rfl Sc45 rfl (Rd.up hb)) (RG.ml rfl ?_)))))
 refine RG.callF (vs := [_, _]) rfl rfl En46 rfl (containsInt_s h1 ?_)
 refine RG.p (PV.not rfl rfl) (RG.br rfl (RG.nil ?_))
 exact WP.ret ⟨_, _, rv rfl rfl, Cv.p, k⟩
theorem rLay_i {l : Lib} {cell : Int} {v : Value} {ls : List Int} (hL : RLib G L l.cells.v l.cells.xs) (hlen : lenC (erCls l.cells.xs)) (h5 : Rs G L intT v ls) (k : ∀ v' ys, er ys = rLay (erCls l.cells.xs) cell ls -> R (.tuple #[v', vi (rsE (erCls l.cells.xs) cell ls)]) G (osl 50 slT v' ys :: bagS 101 rectT ys :: L)) : CallT Tryz.prog 16 #[vT libT l, vi cell, v] G L R := by
 refine CallT.bd h5 fun hb5 => ?_
 refine CallT.st (fun w hs => oneCell_cells (h5 w hs).1.one) fun hcell => ?_
 refine CallT.enter (args := _) Tryz.func16 rfl rfl (by kernel_rfl) rfl ?_
 refine WP.sr ?_
 refine RG.ot rfl (OT.box (cs := libT.enc l) rfl rfl rfl fun b3 => ?_)
 refine RG.ot rfl (OT.box (cs := [v]) rfl rfl (by show v.cells.toList = [v]; rw [hcell]) fun b5 => ?_)
 refine RG.p (PV.asg rfl rfl) (RG.mr rfl (RG.nil (WP.sr (RG.p (PV.loadW rfl Ag26 rfl rfl) (RG.ml rfl ?_)))))
 refine RG.callF (vs := [_, _]) rfl rfl En42 rfl (rooted_i hL.up hlen (fun w16 => ?_))
 refine RG.p (PV.move (v := .tuple _) rfl rfl) (RG.p (PV.ext (v := w16) rfl rfl rfl) (RG.p (PV.ext rfl rfl rfl) (RG.p (PV.asg (v := w16) rfl rfl) (RG.mr rfl (RG.nil (WP.seq (WP.sr (RG.ml rfl (RG.p (PV.neq rfl rfl rfl) (RG.nil ?_))))))))))
 refine WP.cond rfl (fun h1 => ?_) fun h1 => ?_
 ·have h1 : shE (erCls l.cells.xs) cell ≠ 0 := by simpa using h1
  have e : rsE (erCls l.cells.xs) cell ls = shE (erCls l.cells.xs) cell := by rw [rsE, decide_eq_false h1]; rfl
  have k := k (.slice none 0 0) [] (by rw [rLay_no (by rw [e]; exact h1)]; rfl)
  rw [e] at k
  refine WP.sr (RG.ml rfl (RG.p (PV.asg rfl rfl) (RG.mr rfl (RG.nil ?_))))
  exact WP.ret ⟨_, _, ResV.two rfl rfl rfl, Cv.nilSS, k⟩
 ·have h1 : shE (erCls l.cells.xs) cell = 0 := by simpa using h1
  have hnb : elN (erCls l.cells.xs) cell <= 128 := by have := shE_lib h1; exact elems_len_bd this.1 (by omega)
  refine WP.skip (WP.seq (WP.sr (RG.mr rfl (RG.nil (WP.block ?_)))))
  refine WP.loop1 [1, 3, 5, 8] (fun i => 1 <= i ∧ (i <= ls.length ∨ i = 1) ∧ ∀ j, 1 <= j -> j < i -> j < ls.length -> gd ls (j - 1) < gd ls j) (fun i => [(10, vi i)]) (fun i => blk b3 26 (libT.enc l) :: blk b5 45 [v] :: osl 133 rshapeT w16 (rootR (erCls l.cells.xs) cell) :: L) (fun i => ls.length - i) 1 ⟨by omega, .inr rfl, fun j h h2 => by omega⟩ ⟨rfl, trivial⟩ Cv.p ?_
  rintro i τ ⟨hi, hi2, hj⟩
  refine WP.seq (WP.sr (RG.ml rfl (RG.p (PV.load1 rfl Sc45 rfl (Rd.blk rfl)) (RG.p (PV.len rfl Tryz.underlying45 rfl (SlF.r h5)) (RG.p (PV.lss rfl rfl rfl) (RG.nil ?_))))))
  refine WP.cond rfl (fun h2 => ?_) fun h2 => ?_
  ·have h2 := odt h2
   refine WP.skip (WP.seq (WP.block (WP.seq ?_)))
   refine WP.regionQ (by kernel_rfl) (by kernel_rfl) ?_
   refine RQ.pv rfl (PV.load1 rfl Sc45 rfl (Rd.blk rfl)) (RQ.pv rfl (PV.mvI (.inl rfl) rfl) (RQ.pv rfl (PV.sub rfl rfl rfl (by omega)) (RQ.pv rfl (PV.idxS (j := i - 1) rfl Is45 rfl (SlF.r h5) rfl (by omega) (by omega)) (RQ.pv rfl (PV.loadE1 rfl Sc2 rfl rfl (El.r h5 (getG (by omega))) rfl) (RQ.pv rfl (PV.load1 rfl Sc45 rfl (Rd.blk rfl)) (RQ.pv rfl (PV.mvI (.inl rfl) rfl) (RQ.pv rfl (PV.idxS rfl Is45 rfl (SlF.r h5) rfl rfl (by omega)) (RQ.pv rfl (PV.loadE1 rfl Sc2 rfl rfl (El.r h5 (getG (by omega))) rfl) (RQ.pv rfl (PV.geq rfl rfl rfl) (RQ.nil ?_))))))))))
   refine WP.cond rfl (fun h3 => ?_) fun h3 => ?_
   ·have h3 := odt h3
    have e : rsE (erCls l.cells.xs) cell ls = 1 := by rw [rsE, decide_eq_true h1, incr_no (i := i) (by omega) (by omega) h3]; rfl
    have k := k (.slice none 0 0) [] (by rw [rLay_no (by rw [e]; decide)]; rfl)
    rw [e] at k
    refine WP.sr (RG.p (PV.asg rfl rfl) (RG.mr rfl (RG.nil ?_)))
    exact WP.ret ⟨_, _, ResV.two rfl rfl rfl, Cv.nilSS, k⟩
   ·have h3 := odf h3
    have hj' : ∀ j, 1 <= j -> j < i + 1 -> j < ls.length -> gd ls (j - 1) < gd ls j := fun j q1 q2 q3 => by
     by_cases c : j = i
     ·rw [c]; omega
     ·exact hj j q1 (by omega) q3
    refine WP.skip (WP.region (RG.ml rfl (RG.p (PV.add rfl rfl rfl (by omega)) (RG.mr rfl (RG.nil ?_)))))
    exact ⟨rfl, i + 1, ⟨by omega, by omega, hj'⟩, ⟨rfl, trivial⟩, ⟨rfl, rfl, rfl, rfl, trivial⟩, Cv.p, by omega⟩
  ·have h2 := odf h2
   have hinc : incr ls = true := incr_yes (fun j q1 q2 => hj j q1 (by omega) q2)
   refine WP.exit (WP.seq (WP.sr (RG.p (PV.load1 rfl Sc45 rfl (Rd.blk rfl)) (RG.p (PV.len rfl Tryz.underlying45 rfl (SlF.r h5)) (RG.ml rfl (RG.nil (WP.block ?_)))))))
   refine WP.loop1 [1, 3, 5, 8, 38, 39] (fun i => i <= ls.length ∧ ∀ j, j < i -> within (gd ls j) 0 ((elN (erCls l.cells.xs) cell : Int) - 1) = true) (fun i => [(40, vi i)]) (fun i => blk b3 26 (libT.enc l) :: blk b5 45 [v] :: osl 133 rshapeT w16 (rootR (erCls l.cells.xs) cell) :: L) (fun i => ls.length - i) 0 ⟨by omega, fun j h => by omega⟩ ⟨rfl, trivial⟩ Cv.p ?_
   rintro i τ ⟨hi, hj⟩
   refine WP.sr (RG.p (PV.lss rfl rfl rfl) (RG.nil (WP.seq ?_)))
   refine WP.cond rfl (fun h4 => ?_) fun h4 => ?_
   ·have h4 := odt h4
    refine WP.skip (WP.seq (WP.block (WP.sr (RG.p (PV.idxS rfl Is45 rfl (SlF.r h5) rfl rfl (by omega)) (RG.p (PV.loadE1 rfl Sc2 rfl rfl (El.r h5 (getG (by omega))) rfl) (RG.mr rfl (RG.nil (WP.sr (RG.p (PV.loadW rfl Ag26 rfl rfl) (RG.ml rfl (RG.ml rfl ?_)))))))))))
    refine RG.callF (vs := [_, _, _]) rfl rfl En43 rfl (hasEl_i hL.up (shE_lib h1) ?_)
    refine RG.p (PV.not rfl rfl) (RG.nil ?_)
    refine WP.cond rfl (fun h6 => ?_) fun h6 => ?_
    ·have e : rsE (erCls l.cells.xs) cell ls = 5 := by
      have : elBad (erCls l.cells.xs) cell ls = true := List.any_eq_true.2 ⟨gd ls i, gd_mem (by omega), h6⟩
      rw [rsE, decide_eq_true h1, hinc, this]; rfl
     have k := k (.slice none 0 0) [] (by rw [rLay_no (by rw [e]; decide)]; rfl)
     rw [e] at k
     refine WP.sr (RG.p (PV.asg rfl rfl) (RG.mr rfl (RG.nil ?_)))
     exact WP.ret ⟨_, _, ResV.two rfl rfl rfl, Cv.nilSS, k⟩
    ·have hj' : ∀ j, j < i + 1 -> within (gd ls j) 0 ((elN (erCls l.cells.xs) cell : Int) - 1) = true := fun j q => by
      by_cases c : j = i
      ·rw [c]; simpa using h6
      ·exact hj j (by omega)
     refine WP.skip (WP.region (RG.p (PV.add rfl rfl rfl (by omega)) (RG.ml rfl (RG.nil ?_))))
     exact ⟨rfl, i + 1, ⟨by omega, hj'⟩, ⟨rfl, trivial⟩, ⟨rfl, rfl, rfl, rfl, rfl, rfl, trivial⟩, Cv.p, by omega⟩
   ·have h4 := odf h4
    have hall : ∀ a ∈ ls, within a 0 ((elN (erCls l.cells.xs) cell : Int) - 1) = true := fun a ha => by
     obtain ⟨j, hj2, rfl⟩ := List.getElem_of_mem ha
     have := hj j (by omega)
     rwa [gd_eq hj2] at this
    have e : rsE (erCls l.cells.xs) cell ls = 0 := by
     have : elBad (erCls l.cells.xs) cell ls = false := by
      rw [elBad, List.any_eq_false]; intro a ha; simp [hall a ha]
     rw [rsE, decide_eq_true h1, hinc, this]; rfl
    have hpk : pickR (rootR (erCls l.cells.xs) cell) (fun r => !(ls.any fun a => decide (a = r))) = selL (erCls l.cells.xs) (occR (erCls l.cells.xs) cell) ls false := by
     rw [rootR_ok h1]
     exact pick_sel (fun o _ => root_many (fun a ha => by have := hall a ha; simp only [within, Bool.and_eq_true, decide_eq_true_eq] at this; exact this.1))
    have e0 := rLay_ok e
    rw [e] at k
    refine WP.exit (WP.sr (RG.p (PV.move (v := w16) rfl rfl) (RG.p (PV.mkf1 rfl rfl) ?_)))
    refine RG.callF (vs := [w16, _]) rfl rfl En44 rfl (chosen_i (rs := rootR (erCls l.cells.xs) cell) (f := fun r => !(ls.any fun a => decide (a = r))) Rs.o (rootR_len _ _) (fun r => CB.mk1 En45 fun L' R c k => rest1_s (Rd.cv (Rd.blk rfl) c) (Rs.cv c h5.up) k) (fun w8 ys he => ?_))
    refine RG.p (PV.asg rfl rfl) (RG.mr rfl (RG.nil ?_))
    exact WP.ret ⟨_, _, ResV.two rfl rfl rfl, Cv.p, k w8 ys (by rw [he, hpk, e0])⟩
def mvI (t : Trans) (xs : List Rect) : List Rect := bif mvOk t xs then canon (bits (xs.map (moveR t))) else []
theorem mvI_no {t : Trans} {xs : List Rect} (h : mvOk t xs = false) : mvI t xs = [] := by rw [mvI, h]; rfl
theorem mvI_ok {t : Trans} {xs : List Rect} (h : mvOk t xs = true) : mvI t xs = canon (bits (xs.map (moveR t))) := by rw [mvI, h]; rfl
theorem mvTo_any {t : Trans} {xs : List Rect} {i y x : Nat} (h : i < xs.length) : (((xs.map (moveR t)).take (i + 1)).any fun r => inR r y x) = ((((xs.map (moveR t)).take i).any fun r => inR r y x) || inR (moveR t (gd xs i)) y x) := by
 rw [List.take_add_one, getG (by simpa using h), gd_map _ h, List.any_append]
 simp
theorem movedOk_no {t : Trans} {xs : List Rect} {i : Nat} (h : i < xs.length) (e : validRect (moveR t (gd xs i)) = false) : movedOk t xs = false := by
 rw [movedOk, List.all_eq_false]
 exact ⟨gd xs i, gd_mem h, by simpa using e⟩
theorem movedOk_yes {t : Trans} {xs : List Rect} (h : ∀ j, j < xs.length -> validRect (moveR t (gd xs j)) = true) : movedOk t xs = true := by
 rw [movedOk, List.all_eq_true]
 intro r hr
 obtain ⟨j, hj, rfl⟩ := List.getElem_of_mem hr
 have := h j hj
 rwa [gd_eq hj] at this
theorem mvReg_i {t : Trans} {v : Value} {xs : List Rect} (h1 : Rs G L rectT v xs) (k : ∀ v', R (.tuple #[v', .bool (mvOk t xs)]) G (osl 101 rectT v' (mvI t xs) :: L)) : CallT Tryz.prog 51 #[vtrans t, v] G L R := by
 refine CallT.bd h1 fun hbd => ?_
 refine CallT.enter (args := _) Tryz.func51 rfl rfl (by kernel_rfl) rfl ?_
 refine WP.sr ?_
 refine RG.ot rfl (OT.box (cs := transT.enc t) rfl rfl rfl fun b2 => ?_)
 refine RG.p (PV.asg rfl rfl) (RG.br rfl (RG.nil (WP.seq (WP.sr (RG.p (PV.loadW rfl Ag87 rfl rfl) ?_)))))
 refine RG.callF (vs := [_]) rfl rfl En98 rfl (validT_i ?_)
 refine RG.p (PV.not rfl rfl) (RG.bl rfl ?_)
 refine RG.g rfl (fun hp => (PV.move (v := v) rfl rfl)) ?_
 refine RG.gsC rfl rfl rfl rfl En72 (fun hp => ⟨_, (acons (gt' hp) anil), isRegion_s (Rs.up h1) ⟨rfl, rfl, rfl⟩⟩) ?_
 refine RG.g rfl (fun hp => (PV.not rfl (gt' hp))) ?_
 refine RG.p (PV.pickO rfl rfl rfl (fun hq => gt' (geqF hq))) (RG.nil ?_)
 refine WP.cond rfl (fun h2 => ?_) fun h2 => ?_
 ·have h3 : (validT t && isReg xs) = false := by
   cases h4 : validT t <;> cases h5 : isReg xs <;> simp_all
  have e1 : mvOk t xs = false := by rw [mvOk, h3]; rfl
  have e2 := mvI_no e1
  rw [e1, e2] at k
  refine WP.sr (RG.p (PV.asg rfl rfl) (RG.br rfl (RG.nil ?_)))
  exact WP.ret ⟨_, _, ResV.two rfl rfl rfl, (Cv.p (C := L)).trans Cv.nilS, k (.slice none 0 0)⟩
 ·have h3 : validT t = true ∧ isReg xs = true := by
   cases h4 : validT t <;> cases h5 : isReg xs <;> simp_all
  have e0 : mvOk t xs = movedOk t xs := by rw [mvOk, h3.1, h3.2]; rfl
  obtain ⟨hto, hx, hy⟩ := validT_iff.1 h3.1
  have hri := RIn_all h3.2
  refine WP.skip (WP.sr (RG.p (PV.build0 rfl Tryz.underlying125 ⟨80, by kernel_rfl⟩ (zeroB_spec (n := 6400) (by kernel_rfl))) ?_))
  refine RG.ot rfl (OT.boxG rfl rfl fun b19 => ?_)
  refine RG.p (PV.mvP (.inr rfl) rfl) (RG.nil (WP.seq (WP.sr (RG.p (PV.move (v := v) rfl rfl) (RG.p (PV.len (v := v) rfl Tryz.underlying50 rfl (SlF.r h1)) (RG.ml rfl (RG.nil (WP.block ?_))))))))
  refine WP.loop2 [2, 6, 20, 21] (fun (i : Nat) (cs : List Bool) => i <= xs.length ∧ cs.length = 6400 ∧ (∀ j, j < i -> validRect (moveR t (gd xs j)) = true) ∧ ∀ y x, y < 80 -> x < 80 -> gb cs y x = ((xs.map (moveR t)).take i).any fun r => inR r y x) (fun (i : Nat) (cs : List Bool) => [(22, vi i)]) (fun (i : Nat) (cs : List Bool) => grd b19 cs :: blk b2 87 (transT.enc t) :: L) (fun (i : Nat) (cs : List Bool) => xs.length - i) 0 (List.replicate 6400 false) ⟨by omega, by simp, fun j h => by omega, fun y x _ _ => by rw [gb_rep]; simp⟩ ⟨rfl, trivial⟩ Cv.p ?_
  rintro i cs τ ⟨hi, hl, hj, hc⟩
  refine WP.sr (RG.p (PV.lss rfl rfl rfl) (RG.nil (WP.seq ?_)))
  refine WP.cond rfl (fun h4 => ?_) fun h4 => ?_
  ·have h4 := odt h4
   have h5 : i < xs.length := by omega
   refine WP.skip (WP.seq (WP.block (WP.sr (RG.p (PV.idxS (v := v) rfl Is50 rfl (SlF.r h1) rfl rfl (by omega)) (RG.p (PV.loadE rfl Ag101 rfl rfl (El.r h1 (getG (by omega)))) ?_)))))
   refine RG.ot rfl (OT.alloc rfl Zr101 fun b8 => ?_)
   refine RG.ot rfl (OT.storeW (vs := [vi _, vi _, vi _, vi _]) rfl Sz101 rfl rfl (Cl.c rfl) rfl rfl (OneC.c rfl) ?_)
   refine RG.nil (WP.sr (RG.p (PV.loadW rfl Ag87 rfl rfl) (RG.p (PV.loadW rfl Ag101 rfl rfl) ?_)))
   refine RG.callF (vs := [_, _]) rfl rfl En66 rfl (moveRect_s hto (by omega) (RIn_gd hri (by omega)) ?_)
   refine RG.ot rfl (OT.alloc rfl Zr101 fun b9 => ?_)
   refine RG.ot rfl (OT.storeW (vs := [vi _, vi _, vi _, vi _]) rfl Sz101 rfl rfl (Cl.c rfl) rfl rfl (OneC.c rfl) ?_)
   refine RG.nil (WP.seq (WP.sr (RG.p (PV.loadW rfl Ag101 rfl rfl) ?_)))
   refine RG.callF (vs := [_]) rfl rfl En67 rfl (validRect_s ?_)
   refine RG.p (PV.not rfl rfl) (RG.nil ?_)
   refine WP.cond rfl (fun h6 => ?_) fun h6 => ?_
   ·have h6 : validRect (moveR t (gd xs i)) = false := by simpa using h6
    have e1 : mvOk t xs = false := by rw [e0, movedOk_no h5 h6]
    have e2 := mvI_no e1
    rw [e1, e2] at k
    refine WP.sr (RG.p (PV.asg rfl rfl) (RG.br rfl (RG.nil ?_)))
    exact WP.ret ⟨_, _, ResV.two rfl rfl rfl, (Cv.p (C := L)).trans Cv.nilS, k (.slice none 0 0)⟩
   ·have h6 : validRect (moveR t (gd xs i)) = true := by simpa using h6
    have hj' : ∀ j, j < i + 1 -> validRect (moveR t (gd xs j)) = true := fun j h => by
     by_cases c : j = i
     ·rw [c]; exact h6
     ·exact hj j (by omega)
    refine WP.skip (WP.region (RG.p (PV.mvP (.inl rfl) rfl) (RG.p (PV.loadW rfl Ag101 rfl rfl) ?_)))
    refine RG.callF (vs := [(.pointer (some ⟨b19, 0, none⟩)), _]) rfl rfl En68 rfl (CallT.exB (put_s (by assumption) (fun bs' hb' hg' => ?_)))
    refine RG.nil (WP.region (RG.p (PV.add rfl rfl rfl (by omega)) (RG.ml rfl (RG.nil ?_))))
    exact ⟨rfl, i + 1, bs', ⟨by omega, hb', hj', fun y x h7 h8 => by rw [hg' y x h7 h8, hc y x h7 h8, mvTo_any h5]⟩, ⟨rfl, trivial⟩, ⟨rfl, rfl, rfl, rfl, trivial⟩, Cv.p, by omega⟩
  ·have h4 := odf h4
   have e1 : mvOk t xs = true := by rw [e0, movedOk_yes (fun j h => hj j (by omega))]
   have e : cs = bits (xs.map (moveR t)) := bits_eq hl fun y x h6 h7 => by rw [hc y x h6 h7, List.take_of_length_le (by simp; omega)]
   subst e
   rw [e1, mvI_ok e1] at k
   refine WP.exit (WP.sr (RG.p (PV.mvP (.inl rfl) rfl) ?_))
   refine RG.callF (vs := [(.pointer (some ⟨b19, 0, none⟩))]) rfl rfl En69 rfl (CallT.exB (region_s (bits_length _) (fun v37 => ?_)))
   refine RG.p (PV.asg (v := v37) rfl rfl) (RG.br rfl (RG.nil ?_))
   exact WP.ret ⟨_, _, ResV.two rfl rfl rfl, Cv.p, k v37⟩
theorem reg_valid {xs : List Rect} (h : isReg xs = true) : ∀ r ∈ xs, validRect r = true := by
 have := isReg_valid h
 simp only [validRs, Bool.and_eq_true, List.all_eq_true] at this
 exact this.2
def cellIn (r : Rect) (X Y : Int) : Prop := r.x0 <= X ∧ X < r.x1 ∧ r.y0 <= Y ∧ Y < r.y1
theorem inR_cell {r : Rect} {y x : Nat} : inR r y x = true ↔ cellIn r ((x : Int) - 40) ((y : Int) - 40) := by
 rw [inR_iff, cellIn]; omega
theorem mv_valid {t : Trans} {r b c : Rect} (ho : 0 <= t.o ∧ t.o <= 7) (hr : r.x0 < r.x1 ∧ r.y0 < r.y1) (hb : b.x0 <= r.x0 ∧ r.x0 < b.x1 ∧ b.y0 <= r.y0 ∧ r.y0 < b.y1) (hc : c.x0 <= r.x1 - 1 ∧ r.x1 <= c.x1 ∧ c.y0 <= r.y1 - 1 ∧ r.y1 <= c.y1)
  (h1 : validRect (moveR t b) = true) (h2 : validRect (moveR t c) = true) : validRect (moveR t r) = true := by
 obtain ⟨o, tx, ty⟩ := t
 rw [validR_iff] at *
 have ho : o = 0 ∨ o = 1 ∨ o = 2 ∨ o = 3 ∨ o = 4 ∨ o = 5 ∨ o = 6 ∨ o = 7 := by simp only at ho; omega
 rcases ho with rfl | rfl | rfl | rfl | rfl | rfl | rfl | rfl <;> (simp [moveR, moveP, turnP, flip, rot] at h1 h2 ⊢; omega)
theorem canon_mv {t : Trans} {S : List Bool} {bs : List Rect} (ho : 0 <= t.o ∧ t.o <= 7) (hS : S.length = 6400) (hsub : ∀ y x, y < 80 -> x < 80 -> gb S y x = true -> ∃ b ∈ bs, inR b y x = true) (hv : ∀ b ∈ bs, validRect (moveR t b) = true) : ∀ r ∈ canon S, validRect (moveR t r) = true := by
 intro r hr
 have hva : validRect r = true := by
  have := isReg_valid (isReg_canon hS)
  simp only [validRs, Bool.and_eq_true, List.all_eq_true] at this
  exact this.2 r hr
 have hv1 := validR_iff.1 hva
 have key : ∀ y x : Nat, y < 80 -> x < 80 -> inR r y x = true -> ∃ b ∈ bs, inR b y x = true := fun y x hy hx h => by
  refine hsub y x hy hx ?_
  rw [<- canon_any hy hx, List.any_eq_true]
  exact ⟨r, hr, h⟩
 obtain ⟨b, hb, hb2⟩ := key (r.y0 + 40).toNat (r.x0 + 40).toNat (by omega) (by omega) (by rw [inR_iff]; omega)
 obtain ⟨c, hc, hc2⟩ := key (r.y1 + 39).toNat (r.x1 + 39).toNat (by omega) (by omega) (by rw [inR_iff]; omega)
 rw [inR_iff] at hb2 hc2
 exact mv_valid ho (by omega) (by omega) (by omega) (hv b hb) (hv c hc)
theorem layL_gd {ss : List Shape} {l : Nat} (h : l < 8) : gd (layL ss) l = canon (bits (boxesOf ss l)) := by
 rw [layL, gd_map _ (by simpa using h), range_gd h]
theorem lay_bits {ss : List Shape} {l : Nat} (h : l < 8) : bits (gd (layL ss) l) = bits (boxesOf ss l) := by
 rw [layL_gd h, bits_canon (bits_length _)]
def mvP (t : Trans) (p : Int × List Rect) : Int × List Rect := (p.1, canon (bits (p.2.map (moveR t))))
def pt (ver : Bool) (l u : Int) : Int × Int := (bif ver then l else u, bif ver then u else l)
structure Iso (f : Int × Int -> Int × Int) : Prop where
  line : ∀ ver l, ∃ ver' l' c, (∀ u, f (pt ver l u) = pt ver' l' (u + c)) ∨ (∀ u, f (pt ver l u) = pt ver' l' (c - u))
  dist : ∀ (p q : Int × Int) w, (q.1 - w <= p.1 ∧ p.1 <= q.1 + w) -> (q.2 - w <= p.2 ∧ p.2 <= q.2 + w) -> ((f q).1 - w <= (f p).1 ∧ (f p).1 <= (f q).1 + w) ∧ ((f q).2 - w <= (f p).2 ∧ (f p).2 <= (f q).2 + w)
def cP (S : List Bool) (p : Int × Int) : Bool := celB S p.1 p.2
def Mvd (f : Int × Int -> Int × Int) (A A' : List Bool) : Prop := ∀ p, cP A' (f p) = cP A p
def nP (y x : Nat) : Int × Int := ((x : Int) - 40, (y : Int) - 40)
theorem cv_pt (S : List Bool) (ver : Bool) (l u : Int) : cv S ver l u = cP S (pt ver l u) := rfl
theorem pt_self (ver : Bool) (y x : Nat) : pt ver (lnI ver y x) (plI ver y x) = nP y x := by cases ver <;> rfl
theorem pt_at {ver : Bool} {l u : Int} {y x : Nat} (h : pt ver l u = nP y x) : l = lnI ver y x ∧ u = plI ver y x := by
 have h1 := congrArg Prod.fst h
 have h2 := congrArg Prod.snd h
 cases ver <;> simp only [pt, nP, lnI, plI, cond_true, cond_false] at h1 h2 ⊢ <;> exact ⟨by omega, by omega⟩
theorem cP_nP {S : List Bool} {y x : Nat} (hy : y < 80) (hx : x < 80) : cP S (nP y x) = gb S y x := by
 have e : cP S (nP y x) = cellB S ((x : Int) - 40) ((y : Int) - 40) := rfl
 rw [e, cellB_in (by omega), show ((y : Int) - 40 + 40).toNat = y by omega, show ((x : Int) - 40 + 40).toNat = x by omega]
theorem run_pos {S S' : List Bool} {ver ver' : Bool} {l l' k lo hi c : Int} (h : isRun S ver l k lo hi) (e : ∀ u, lo - 1 <= u -> u <= hi -> cv S' ver' l' (u + c) = cv S ver l u) : isRun S' ver' l' (k + c) (lo + c) (hi + c) := by
 have hk := h.lk
 have ha : ∀ u, lo + c <= u -> u < hi + c -> cv S' ver' l' u = true := fun u h1 h2 => by
  have e1 := e (u - c) (by omega) (by omega)
  rw [show u - c + c = u by omega] at e1
  rw [e1]; exact h.all _ (by omega) (by omega)
 have r1 := cv_rng (ha (lo + c) (by omega) (by omega))
 have r2 := cv_rng (ha (hi + c - 1) (by omega) (by omega))
 refine ⟨by omega, by omega, ha, ?_, ?_⟩
 ·rw [show lo + c - 1 = lo - 1 + c by omega, e _ (by omega) (by omega)]; exact h.low
 ·rw [e _ (by omega) (by omega)]; exact h.high
theorem run_neg {S S' : List Bool} {ver ver' : Bool} {l l' k lo hi c : Int} (h : isRun S ver l k lo hi) (e : ∀ u, lo - 1 <= u -> u <= hi -> cv S' ver' l' (c - u) = cv S ver l u) : isRun S' ver' l' (c - k) (c - hi + 1) (c - lo + 1) := by
 have hk := h.lk
 have ha : ∀ u, c - hi + 1 <= u -> u < c - lo + 1 -> cv S' ver' l' u = true := fun u h1 h2 => by
  have e1 := e (c - u) (by omega) (by omega)
  rw [show c - (c - u) = u by omega] at e1
  rw [e1]; exact h.all _ (by omega) (by omega)
 have r1 := cv_rng (ha (c - hi + 1) (by omega) (by omega))
 have r2 := cv_rng (ha (c - lo) (by omega) (by omega))
 refine ⟨by omega, by omega, ha, ?_, ?_⟩
 ·rw [show c - hi + 1 - 1 = c - hi by omega, e _ (by omega) (by omega)]; exact h.high
 ·rw [show c - lo + 1 = c - (lo - 1) by omega, e _ (by omega) (by omega)]; exact h.low
theorem Thin.mv {f : Int × Int -> Int × Int} (hf : Iso f) {A A' : List Bool} {w : Int} {y x y' x' : Nat} (hp : f (nP y x) = nP y' x') (hA : Mvd f A A') (h : Thin A w y x) : Thin A' w y' x' := by
 obtain ⟨ver, lo, hi, h1, h2⟩ := h
 obtain ⟨ver', l', c, hl | hl⟩ := hf.line ver (lnI ver y x)
 ·have e := hl (plI ver y x)
  rw [pt_self, hp] at e
  obtain ⟨e1, e2⟩ := pt_at e.symm
  have hr := run_pos (S' := A') (ver' := ver') (l' := l') (c := c) h1 fun u _ _ => by rw [cv_pt, cv_pt, <- hl, hA]
  rw [e1, e2] at hr
  exact ⟨ver', lo + c, hi + c, hr, by omega⟩
 ·have e := hl (plI ver y x)
  rw [pt_self, hp] at e
  obtain ⟨e1, e2⟩ := pt_at e.symm
  have hr := run_neg (S' := A') (ver' := ver') (l' := l') (c := c) h1 fun u _ _ => by rw [cv_pt, cv_pt, <- hl, hA]
  rw [e1, e2] at hr
  exact ⟨ver', _, _, hr, by omega⟩
theorem cv_orZ {A B : List Bool} {ver : Bool} {l k : Int} (hA : A.length = 6400) (hl : -40 <= l ∧ l < 40) (hk : -40 <= k ∧ k < 40) : cv (orZ A B) ver l k = (cv A ver l k || cv B ver l k) := by
 have e : ∀ x y : Int, (-40 <= x ∧ x < 40) -> (-40 <= y ∧ y < 40) -> celB (orZ A B) x y = (celB A x y || celB B x y) := fun x y hx hy => by
  rw [celB_cellB, celB_cellB, celB_cellB, cellB_in (by omega), cellB_in (by omega), cellB_in (by omega), orZ_gb hA (by omega) (by omega)]
 cases ver
 ·exact e _ _ hk hl
 ·exact e _ _ hl hk
theorem cv_gap {A B : List Bool} {ver : Bool} {l k : Int} (hA : A.length = 6400) (hl : -40 <= l ∧ l < 40) (hk : -40 <= k ∧ k < 40) : cv (notB (orZ A B)) ver l k = !(cv A ver l k || cv B ver l k) := by
 rw [cv_not (by rw [orZ_len]; exact hA) hl hk, cv_orZ hA hl hk]
theorem gap_rng {A B : List Bool} {ver : Bool} {l a b : Int} (h : ((cv A ver l a && cv B ver l b) || (cv B ver l a && cv A ver l b)) = true) : (-40 <= l ∧ l < 40) ∧ (-40 <= a ∧ a < 40) ∧ (-40 <= b ∧ b < 40) := by
 simp only [Bool.or_eq_true, Bool.and_eq_true] at h
 rcases h with ⟨h1, h2⟩ | ⟨h1, h2⟩ <;> (have := cv_rng h1; have := cv_rng h2; omega)
theorem Nigh.mv {f : Int × Int -> Int × Int} (hf : Iso f) {A A' B B' : List Bool} (lA : A.length = 6400) (lA' : A'.length = 6400) {w : Int} {y x y' x' : Nat} (hp : f (nP y x) = nP y' x') (hA : Mvd f A A') (hB : Mvd f B B') (h : Nigh A B w y x) : Nigh A' B' w y' x' := by
 obtain ⟨ver, lo, hi, h1, g, h2⟩ := h
 have hk := h1.lk
 rw [gapE_line] at g
 have r1 := gap_rng g
 obtain ⟨ver', l', c, hl | hl⟩ := hf.line ver (lnI ver y x)
 ·have e := hl (plI ver y x)
  rw [pt_self, hp] at e
  obtain ⟨e1, e2⟩ := pt_at e.symm
  have eA : ∀ u, cv A' ver' l' (u + c) = cv A ver (lnI ver y x) u := fun u => by rw [cv_pt, cv_pt, <- hl, hA]
  have eB : ∀ u, cv B' ver' l' (u + c) = cv B ver (lnI ver y x) u := fun u => by rw [cv_pt, cv_pt, <- hl, hB]
  have g' : ((cv A' ver' l' (lo - 1 + c) && cv B' ver' l' (hi + c)) || (cv B' ver' l' (lo - 1 + c) && cv A' ver' l' (hi + c))) = true := by rw [eA, eB, eA, eB]; exact g
  have r2 := gap_rng g'
  have hr := run_pos (S' := notB (orZ A' B')) (ver' := ver') (l' := l') (c := c) h1 fun u q1 q2 => by
   rw [cv_gap lA' (by omega) (by omega), cv_gap lA (by omega) (by omega), eA, eB]
  rw [e1, e2] at hr
  refine ⟨ver', lo + c, hi + c, hr, ?_, by omega⟩
  rw [gapE_line, <- e1, show lo + c - 1 = lo - 1 + c by omega]; exact g'
 ·have e := hl (plI ver y x)
  rw [pt_self, hp] at e
  obtain ⟨e1, e2⟩ := pt_at e.symm
  have eA : ∀ u, cv A' ver' l' (c - u) = cv A ver (lnI ver y x) u := fun u => by rw [cv_pt, cv_pt, <- hl, hA]
  have eB : ∀ u, cv B' ver' l' (c - u) = cv B ver (lnI ver y x) u := fun u => by rw [cv_pt, cv_pt, <- hl, hB]
  have g' : ((cv A' ver' l' (c - hi) && cv B' ver' l' (c - (lo - 1))) || (cv B' ver' l' (c - hi) && cv A' ver' l' (c - (lo - 1)))) = true := by
   rw [eA, eB, eA, eB, Bool.or_comm, Bool.and_comm, Bool.and_comm (cv A ver (lnI ver y x) hi)]; exact g
  have r2 := gap_rng g'
  have hr := run_neg (S' := notB (orZ A' B')) (ver' := ver') (l' := l') (c := c) h1 fun u q1 q2 => by
   rw [cv_gap lA' (by omega) (by omega), cv_gap lA (by omega) (by omega), eA, eB]
  rw [e1, e2] at hr
  refine ⟨ver', _, _, hr, ?_, by omega⟩
  rw [gapE_line, <- e1, show c - hi + 1 - 1 = c - hi by omega, show c - lo + 1 = c - (lo - 1) by omega]; exact g'
theorem grow_mv {f : Int × Int -> Int × Int} (hf : Iso f) {A A' : List Bool} {w : Int} {y x y' x' : Nat} (hy : y < 80) (hx : x < 80) (hy' : y' < 80) (hx' : x' < 80) (hp : f (nP y x) = nP y' x') (hA : Mvd f A A') (h : gb (growB A w) y x = true) : gb (growB A' w) y' x' = true := by
 rw [growB_iff hy hx] at h
 rw [growB_iff hy' hx']
 obtain ⟨b, a, h1, h2, h3, h4, h5, h6, h7⟩ := h
 have d := hf.dist (nP b a) (nP y x) w (by simp only [nP]; omega) (by simp only [nP]; omega)
 rw [hp] at d
 rw [<- cP_nP h1 h2, <- hA] at h7
 have r := cellB_true (show cellB A' (f (nP b a)).1 (f (nP b a)).2 = true from h7)
 generalize f (nP b a) = g at d h7 r
 obtain ⟨gx, gy⟩ := g
 simp only [nP] at d
 simp only at r
 have e : nP (gy + 40).toNat (gx + 40).toNat = (gx, gy) := Prod.ext (by simp only [nP]; omega) (by simp only [nP]; omega)
 refine ⟨(gy + 40).toNat, (gx + 40).toNat, by omega, by omega, by omega, by omega, by omega, by omega, ?_⟩
 rw [<- cP_nP (by omega) (by omega), e]; exact h7
theorem rm_mv {f : Int × Int -> Int × Int} (hf : Iso f) {l m : List (List Rect)} {q : Rule} (hl : isLay l = true) (hm : isLay m = true) (hq : validRule q = true) (hk : q.kind <= 3) {y x y' x' : Nat} (hy : y < 80) (hx : x < 80) (hy' : y' < 80) (hx' : x' < 80) (hp : f (nP y x) = nP y' x')
  (h1 : Mvd f (bits (gd l q.layer.toNat)) (bits (gd m q.layer.toNat))) (h2 : Mvd f (bits (gd l q.other.toNat)) (bits (gd m q.other.toNat))) (h : gb (bits (rmL l q)) y x = true) : gb (bits (rmL m q)) y' x' = true := by
 obtain ⟨hv1, hv8⟩ := valid_val hq hk
 have hk0 := (valid_kind hq).1
 obtain ⟨hlr, hor⟩ := valid_lay hq
 have a1 := isLay_reg hl (i := q.layer.toNat) (by omega)
 have a2 := isLay_reg hm (i := q.layer.toNat) (by omega)
 have b1 := isLay_reg hl (i := q.other.toNat) (by omega)
 have b2 := isLay_reg hm (i := q.other.toNat) (by omega)
 have hd : okDist q.value = true := by simp [okDist, hv1, hv8]
 have hw : within q.value 0 8 = true := by simp [within, hv8]; omega
 have o1 : gb (bits (gd m q.layer.toNat)) y' x' = gb (bits (gd l q.layer.toNat)) y x := by rw [<- cP_nP hy' hx', <- cP_nP hy hx, <- hp, h1]
 have o2 : gb (bits (gd m q.other.toNat)) y' x' = gb (bits (gd l q.other.toNat)) y x := by rw [<- cP_nP hy' hx', <- cP_nP hy hx, <- hp, h2]
 by_cases c0 : q.kind = 0
 ·rw [rmL, if_pos c0] at h ⊢
  rw [widthL, if_pos (by rw [a1, hd]; rfl), bits_canon (celL_len _), celL_gb hy hx] at h
  rw [widthL, if_pos (by rw [a2, hd]; rfl), bits_canon (celL_len _), celL_gb hy' hx']
  exact h.mv hf hp h1
 ·by_cases c1 : q.kind = 1
  ·rw [rmL, if_neg c0, if_pos c1] at h ⊢
   rw [spaceL, if_pos (by rw [a1, hd]; rfl), bits_canon (celL_len _), celL_gb hy hx] at h
   rw [spaceL, if_pos (by rw [a2, hd]; rfl), bits_canon (celL_len _), celL_gb hy' hx']
   exact h.mv hf (bits_length _) (bits_length _) hp h1 h1
  ·by_cases c2 : q.kind = 2
   ·rw [rmL, if_neg c0, if_neg c1, if_pos c2] at h ⊢
    rw [betwL, if_pos (by rw [a1, b1, hd]; rfl), bits_canon (celL_len _), celL_gb hy hx] at h
    rw [betwL, if_pos (by rw [a2, b2, hd]; rfl), bits_canon (celL_len _), celL_gb hy' hx', o1, o2]
    rcases h with h | h
    ·exact .inl (h.mv hf (bits_length _) (bits_length _) hp h1 h2)
    ·exact .inr h
   ·have c3 : q.kind = 3 := by omega
    rw [rmL, if_neg c0, if_neg c1, if_neg c2, if_pos c3] at h ⊢
    rw [enclL, if_pos (by rw [a1, b1, hw]; rfl), bits_canon (zipB_len (growB_len _ _) (bits_length _)), gb_zip (growB_len _ _) (bits_length _) hy hx] at h
    rw [enclL, if_pos (by rw [a2, b2, hw]; rfl), bits_canon (zipB_len (growB_len _ _) (bits_length _)), gb_zip (growB_len _ _) (bits_length _) hy' hx', o2]
    simp only [minB, Bool.and_eq_true, Bool.not_eq_true'] at h ⊢
    exact ⟨grow_mv hf hy hx hy' hx' hp h1 h.1, h.2⟩
def fT (t : Trans) (p : Int × Int) : Int × Int := ((moveR t ⟨p.1, p.2, p.1 + 1, p.2 + 1⟩).x0, (moveR t ⟨p.1, p.2, p.1 + 1, p.2 + 1⟩).y0)
theorem orient {o : Int} (h : 0 <= o ∧ o <= 7) : o = 0 ∨ o = 1 ∨ o = 2 ∨ o = 3 ∨ o = 4 ∨ o = 5 ∨ o = 6 ∨ o = 7 := by omega
theorem fT_eq {t : Trans} (ho : 0 <= t.o ∧ t.o <= 7) :
  (∀ p, fT t p = (p.1 + t.x, p.2 + t.y)) ∨ (∀ p, fT t p = (t.x - 1 - p.1, p.2 + t.y)) ∨ (∀ p, fT t p = (p.1 + t.x, t.y - 1 - p.2)) ∨ (∀ p, fT t p = (t.x - 1 - p.1, t.y - 1 - p.2)) ∨
  (∀ p, fT t p = (p.2 + t.x, p.1 + t.y)) ∨ (∀ p, fT t p = (t.x - 1 - p.2, p.1 + t.y)) ∨ (∀ p, fT t p = (p.2 + t.x, t.y - 1 - p.1)) ∨ (∀ p, fT t p = (t.x - 1 - p.2, t.y - 1 - p.1)) := by
 obtain ⟨o, tx, ty⟩ := t
 rcases orient ho with e | e | e | e | e | e | e | e <;> simp only at e <;> subst e <;>
  first
  | (left; intro p; simp [fT, moveR, moveP, turnP, flip, rot]; omega)
  | (right; left; intro p; simp [fT, moveR, moveP, turnP, flip, rot]; omega)
  | (right; right; left; intro p; simp [fT, moveR, moveP, turnP, flip, rot]; omega)
  | (right; right; right; left; intro p; simp [fT, moveR, moveP, turnP, flip, rot]; omega)
  | (right; right; right; right; left; intro p; simp [fT, moveR, moveP, turnP, flip, rot]; omega)
  | (right; right; right; right; right; left; intro p; simp [fT, moveR, moveP, turnP, flip, rot]; omega)
  | (right; right; right; right; right; right; left; intro p; simp [fT, moveR, moveP, turnP, flip, rot]; omega)
  | (right; right; right; right; right; right; right; intro p; simp [fT, moveR, moveP, turnP, flip, rot]; omega)
theorem iso1 {f : Int × Int -> Int × Int} (a b : Int) (h : (∀ p, f p = (p.1 + a, p.2 + b)) ∨ (∀ p, f p = (a - 1 - p.1, p.2 + b)) ∨ (∀ p, f p = (p.1 + a, b - 1 - p.2)) ∨ (∀ p, f p = (a - 1 - p.1, b - 1 - p.2))) : Iso f := by
 refine ⟨fun ver l => ?_, fun p q w h1 h2 => ?_⟩
 ·rcases h with h | h | h | h <;> cases ver
  ·exact ⟨false, l + b, a, .inl fun u => by rw [h]; rfl⟩
  ·exact ⟨true, l + a, b, .inl fun u => by rw [h]; rfl⟩
  ·exact ⟨false, l + b, a - 1, .inr fun u => by rw [h]; rfl⟩
  ·exact ⟨true, a - 1 - l, b, .inl fun u => by rw [h]; rfl⟩
  ·exact ⟨false, b - 1 - l, a, .inl fun u => by rw [h]; rfl⟩
  ·exact ⟨true, l + a, b - 1, .inr fun u => by rw [h]; rfl⟩
  ·exact ⟨false, b - 1 - l, a - 1, .inr fun u => by rw [h]; rfl⟩
  ·exact ⟨true, a - 1 - l, b - 1, .inr fun u => by rw [h]; rfl⟩
 ·rcases h with h | h | h | h <;> rw [h, h] <;> simp only <;> omega
theorem iso2 {f : Int × Int -> Int × Int} (a b : Int) (h : (∀ p, f p = (p.2 + a, p.1 + b)) ∨ (∀ p, f p = (a - 1 - p.2, p.1 + b)) ∨ (∀ p, f p = (p.2 + a, b - 1 - p.1)) ∨ (∀ p, f p = (a - 1 - p.2, b - 1 - p.1))) : Iso f := by
 refine ⟨fun ver l => ?_, fun p q w h1 h2 => ?_⟩
 ·rcases h with h | h | h | h <;> cases ver
  ·exact ⟨true, l + a, b, .inl fun u => by rw [h]; rfl⟩
  ·exact ⟨false, l + b, a, .inl fun u => by rw [h]; rfl⟩
  ·exact ⟨true, a - 1 - l, b, .inl fun u => by rw [h]; rfl⟩
  ·exact ⟨false, l + b, a - 1, .inr fun u => by rw [h]; rfl⟩
  ·exact ⟨true, l + a, b - 1, .inr fun u => by rw [h]; rfl⟩
  ·exact ⟨false, b - 1 - l, a, .inl fun u => by rw [h]; rfl⟩
  ·exact ⟨true, a - 1 - l, b - 1, .inr fun u => by rw [h]; rfl⟩
  ·exact ⟨false, b - 1 - l, a - 1, .inr fun u => by rw [h]; rfl⟩
 ·rcases h with h | h | h | h <;> rw [h, h] <;> simp only <;> omega
theorem fT_iso {t : Trans} (ho : 0 <= t.o ∧ t.o <= 7) : Iso (fT t) ∧ ∃ g, Iso g ∧ (∀ p, g (fT t p) = p) ∧ ∀ p, fT t (g p) = p := by
 rcases fT_eq ho with h | h | h | h | h | h | h | h
 ·exact ⟨iso1 _ _ (.inl h), fun p => (p.1 + -t.x, p.2 + -t.y), iso1 _ _ (.inl fun p => rfl), fun p => by rw [h]; exact Prod.ext (by simp only; omega) (by simp only; omega), fun p => by rw [h]; exact Prod.ext (by simp only; omega) (by simp only; omega)⟩
 ·exact ⟨iso1 _ _ (.inr (.inl h)), fun p => (t.x - 1 - p.1, p.2 + -t.y), iso1 _ _ (.inr (.inl fun p => rfl)), fun p => by rw [h]; exact Prod.ext (by simp only; omega) (by simp only; omega), fun p => by rw [h]; exact Prod.ext (by simp only; omega) (by simp only; omega)⟩
 ·exact ⟨iso1 _ _ (.inr (.inr (.inl h))), fun p => (p.1 + -t.x, t.y - 1 - p.2), iso1 _ _ (.inr (.inr (.inl fun p => rfl))), fun p => by rw [h]; exact Prod.ext (by simp only; omega) (by simp only; omega), fun p => by rw [h]; exact Prod.ext (by simp only; omega) (by simp only; omega)⟩
 ·exact ⟨iso1 _ _ (.inr (.inr (.inr h))), fun p => (t.x - 1 - p.1, t.y - 1 - p.2), iso1 _ _ (.inr (.inr (.inr fun p => rfl))), fun p => by rw [h]; exact Prod.ext (by simp only; omega) (by simp only; omega), fun p => by rw [h]; exact Prod.ext (by simp only; omega) (by simp only; omega)⟩
 ·exact ⟨iso2 _ _ (.inl h), fun p => (p.2 + -t.y, p.1 + -t.x), iso2 _ _ (.inl fun p => rfl), fun p => by rw [h]; exact Prod.ext (by simp only; omega) (by simp only; omega), fun p => by rw [h]; exact Prod.ext (by simp only; omega) (by simp only; omega)⟩
 ·exact ⟨iso2 _ _ (.inr (.inl h)), fun p => (p.2 + -t.y, t.x - 1 - p.1), iso2 _ _ (.inr (.inr (.inl fun p => rfl))), fun p => by rw [h]; exact Prod.ext (by simp only; omega) (by simp only; omega), fun p => by rw [h]; exact Prod.ext (by simp only; omega) (by simp only; omega)⟩
 ·exact ⟨iso2 _ _ (.inr (.inr (.inl h))), fun p => (t.y - 1 - p.2, p.1 + -t.x), iso2 _ _ (.inr (.inl fun p => rfl)), fun p => by rw [h]; exact Prod.ext (by simp only; omega) (by simp only; omega), fun p => by rw [h]; exact Prod.ext (by simp only; omega) (by simp only; omega)⟩
 ·exact ⟨iso2 _ _ (.inr (.inr (.inr h))), fun p => (t.y - 1 - p.2, t.x - 1 - p.1), iso2 _ _ (.inr (.inr (.inr fun p => rfl))), fun p => by rw [h]; exact Prod.ext (by simp only; omega) (by simp only; omega), fun p => by rw [h]; exact Prod.ext (by simp only; omega) (by simp only; omega)⟩
theorem fT_in {t : Trans} (ho : 0 <= t.o ∧ t.o <= 7) {r : Rect} (hr : r.x0 < r.x1 ∧ r.y0 < r.y1) (p : Int × Int) : cellIn (moveR t r) (fT t p).1 (fT t p).2 ↔ cellIn r p.1 p.2 := by
 obtain ⟨o, tx, ty⟩ := t
 obtain ⟨h1, h2⟩ := hr
 rcases orient ho with e | e | e | e | e | e | e | e <;> simp only at e <;> subst e <;> simp [fT, cellIn, moveR, moveP, turnP, flip, rot] <;> omega
theorem lay_isLay (ss : List Shape) : isLay (layL ss) = true := by
 have h1 : (layL ss).length = 8 := by simp [layL]
 rw [isLay, h1, Bool.and_eq_true, List.all_eq_true]
 refine ⟨by decide, fun r hr => ?_⟩
 obtain ⟨i, hi, rfl⟩ := List.getElem_of_mem hr
 rw [<- gd_eq hi, layL_gd (by omega)]
 exact isReg_canon (bits_length _)
theorem fly_isLay {cs : List ECell} {cell : Int} (h : shE cs cell = 0) : isLay (flyL cs cell) = true := by
 rw [flyL, decide_eq_true h, cond_true]; exact lay_isLay _
def hmE (cs : List ECell) (cell : Int) (q : Rule) : Int := if shE cs cell = 0 then (if validRule q = true then 0 else 1) else shE cs cell
noncomputable def hmR (cs : List ECell) (cell : Int) (q : Rule) : List Rect := if hmE cs cell q = 0 then rmL (flyL cs cell) q else []
def cntF2 (cs : List ECell) (cell : Int) (q : Rule) : Nat := if 0 <= reach q then (cfR cs cell (reach q)).length else 0
def hmN (cs : List ECell) (cell : Int) (q : Rule) : Nat := if hmE cs cell q = 0 then cntF2 cs cell q else 0
theorem hmE_zero {cs : List ECell} {cell : Int} {q : Rule} (h : hmE cs cell q = 0) : shE cs cell = 0 ∧ validRule q = true := by
 unfold hmE at h
 by_cases c : shE cs cell = 0
 ·rw [if_pos c] at h
  by_cases d : validRule q = true
  ·exact ⟨c, d⟩
  ·rw [if_neg d] at h; cases h
 ·rw [if_neg c] at h; exact absurd h c
theorem hmR_no {cs : List ECell} {cell : Int} {q : Rule} (h : hmE cs cell q ≠ 0) : hmR cs cell q = [] ∧ hmN cs cell q = 0 := ⟨by rw [hmR, if_neg h], by rw [hmN, if_neg h]⟩
theorem reach_le (q : Rule) (h : 0 <= reach q) : within (reach q) 0 8 = true := by have := reach_bd h; simp [within, h, this]
theorem hm_i {l : Lib} {cell : Int} {q : Rule} (hL : RLib G L l.cells.v l.cells.xs) (hlen : lenC (erCls l.cells.xs)) (k : ∀ v', R (.tuple #[v', vi (hmN (erCls l.cells.xs) cell q : Int), vi (hmE (erCls l.cells.xs) cell q)]) G (osl 101 rectT v' (hmR (erCls l.cells.xs) cell q) :: L)) : CallT Tryz.prog 20 #[vT libT l, vi cell, vT ruleT q] G L R := by
 refine CallT.enter (args := _) Tryz.func20 rfl rfl (by kernel_rfl) rfl ?_
 refine WP.sr ?_
 refine RG.ot rfl (OT.box (cs := libT.enc l) rfl rfl rfl fun b3 => ?_)
 refine RG.ot rfl (OT.box (cs := ruleT.enc q) rfl rfl rfl fun b5 => ?_)
 refine RG.p (PV.asg rfl rfl) (RG.mr rfl (RG.mr rfl (RG.nil (WP.sr (RG.p (PV.loadW rfl Ag26 rfl rfl) (RG.ml rfl ?_))))))
 refine RG.callF (vs := [_, _]) rfl rfl En10 rfl (fly_i hL.up hlen (fun w16 ys hy => ?_))
 refine RG.p (PV.move (v := .tuple _) rfl rfl) (RG.p (PV.ext (v := w16) rfl rfl rfl) (RG.p (PV.ext rfl rfl rfl) (RG.p (PV.asg (v := w16) rfl rfl) (RG.mr rfl (RG.nil ?_)))))
 refine WP.cut1 [1, 3, 5, 9] (fun (c0 : Int) => c0 = hmE (erCls l.cells.xs) cell q) (fun (c0 : Int) => [(10, vi c0)]) (fun (c0 : Int) => blk b3 26 (libT.enc l) :: blk b5 42 (ruleT.enc q) :: osl 50 slT w16 ys :: bagS 101 rectT ys :: L) ?_ ?_
 refine WP.sr (RG.ml rfl (RG.p (PV.eql rfl rfl rfl) (RG.bl rfl ?_)))
 refine RG.g rfl (fun hp => (PV.loadW rfl Ag42 rfl rfl)) ?_
 refine RG.gsC rfl rfl rfl rfl En47 (fun hp => ⟨_, (acons (gt' hp) anil), validRule_i ⟨rfl, rfl, rfl⟩⟩) ?_
 refine RG.g rfl (fun hp => (PV.not rfl (gt' hp))) ?_
 refine RG.p (PV.pickA rfl rfl (fun hq => gt' (geqT hq)) rfl) (RG.nil ?_)
 refine WP.cond rfl (fun h1 => ?_) fun h1 => ?_
 ·have h1 : shE (erCls l.cells.xs) cell = 0 ∧ validRule q = false := by simpa using h1
  refine WP.region (RG.mr rfl (RG.nil ?_))
  exact ⟨rfl, 1, (by rw [hmE, if_pos h1.1, if_neg (by rw [h1.2]; decide)]), ⟨rfl, trivial⟩, ⟨rfl, rfl, rfl, rfl, trivial⟩, Cv.p⟩
 ·have h1 : shE (erCls l.cells.xs) cell = 0 -> validRule q = true := fun c => by simpa [c] using h1
  refine WP.skip ?_
  exact ⟨rfl, (shE (erCls l.cells.xs) cell), (by by_cases c : shE (erCls l.cells.xs) cell = 0; (rw [hmE, if_pos c, if_pos (h1 c)]; exact c); (rw [hmE, if_neg c])), ⟨rfl, trivial⟩, ⟨rfl, rfl, rfl, rfl, trivial⟩, Cv.p⟩
 rintro c0 τ0 hc0
 subst hc0
 refine WP.seq (WP.sr (RG.ml rfl (RG.p (PV.neq rfl rfl rfl) (RG.nil ?_))))
 refine WP.cond rfl (fun h2 => ?_) fun h2 => ?_
 ·have h2 : hmE (erCls l.cells.xs) cell q ≠ 0 := by simpa using h2
  obtain ⟨e1, e2⟩ := hmR_no h2
  rw [e1, e2] at k
  refine WP.sr (RG.ml rfl (RG.p (PV.asg rfl rfl) (RG.mr rfl (RG.mr rfl (RG.nil ?_)))))
  exact WP.ret ⟨_, _, ResV.three rfl rfl rfl rfl, (Cv.p (C := L)).trans Cv.nilS, k (.slice none 0 0)⟩
 ·have h2 : hmE (erCls l.cells.xs) cell q = 0 := by simpa using h2
  obtain ⟨h3, h4⟩ := hmE_zero h2
  have e1 : hmR (erCls l.cells.xs) cell q = rmL (er ys) q := by rw [hmR, if_pos h2, hy]
  have hly : isLay (er ys) = true := by rw [hy]; exact fly_isLay h3
  rw [e1, h2] at k
  refine WP.skip (WP.sr ?_)
  refine RG.ot rfl (OT.bslice (F := intT) (els := []) rfl El45 rfl (by decide) rfl (by decide) trivial fun v29 => ?_)
  refine RG.p (PV.asg (v := v29) rfl rfl) (RG.nil (WP.seq (WP.sr (RG.p (PV.loadW rfl Ag42 rfl rfl) ?_))))
  refine RG.callF (vs := [_]) rfl rfl En31 rfl (reach_i ?_)
  refine RG.mr rfl (RG.nil (WP.sr (RG.ml rfl (RG.p (PV.geq rfl rfl rfl) (RG.nil ?_)))))
  refine WP.cond rfl (fun h5 => ?_) fun h5 => ?_
  ·have h5 := odt h5
   have e2 : hmN (erCls l.cells.xs) cell q = (cfR (erCls l.cells.xs) cell (reach q)).length := by rw [hmN, if_pos h2, cntF2, if_pos h5]
   rw [e2] at k
   refine WP.region (RG.p (PV.loadW rfl Ag26 rfl rfl) (RG.ml rfl (RG.ml rfl ?_)))
   refine RG.callF (vs := [_, _, _]) rfl rfl En24 rfl (allFree_i hL.up hlen (fun w38 => ?_))
   refine RG.p (PV.move (v := .tuple _) rfl rfl) (RG.p (PV.ext (v := w38) rfl rfl rfl) (RG.p (PV.ext rfl rfl rfl) (RG.p (PV.asg (v := w38) rfl rfl) (RG.nil (WP.sr (RG.p (PV.move (v := w16) rfl rfl) (RG.p (PV.loadW rfl Ag42 rfl rfl) ?_)))))))
   refine RG.callF (vs := [w16, _]) rfl rfl En48 rfl (rule_i (q := q) Rs.o RsE.o hly h4 (fun v43 => ?_))
   refine RG.p (PV.move (v := w38) rfl rfl) (RG.p (PV.len (v := w38) rfl Tryz.underlying45 rfl SlF.o) (RG.p (PV.asg (v := v43) rfl rfl) (RG.mr rfl (RG.mr rfl (RG.nil ?_)))))
   exact WP.ret ⟨_, _, ResV.three rfl rfl rfl rfl, Cv.p, k v43⟩
  ·have h5 := odf h5
   have e2 : hmN (erCls l.cells.xs) cell q = 0 := by rw [hmN, if_pos h2, cntF2, if_neg h5]
   rw [e2] at k
   refine WP.skip (WP.sr (RG.p (PV.move (v := w16) rfl rfl) (RG.p (PV.loadW rfl Ag42 rfl rfl) ?_)))
   refine RG.callF (vs := [w16, _]) rfl rfl En48 rfl (rule_i (q := q) Rs.o RsE.o hly h4 (fun v43 => ?_))
   refine RG.p (PV.move (v := v29) rfl rfl) (RG.p (PV.len (v := v29) rfl Tryz.underlying45 rfl SlF.o) (RG.p (PV.asg (v := v43) rfl rfl) (RG.mr rfl (RG.mr rfl (RG.nil ?_)))))
   exact WP.ret ⟨_, _, ResV.three rfl rfl rfl rfl, Cv.p, k v43⟩
def elA (cs : List ECell) (cell n : Int) : HElem := gd (elems (gd cs cell.toNat).insts) n.toNat
def rvE (cs : List ECell) (cell n : Int) (q : Rule) : Int := if elE cs cell n = 0 then (if reach q < 0 then 1 else if freeB cs cell n (reach q) = true then 0 else 6) else elE cs cell n
noncomputable def rvR (cs : List ECell) (cell n : Int) (q : Rule) : List Rect := if rvE cs cell n q = 0 then movedR (elA cs cell n).place (rmL (flyL cs (elA cs cell n).cell) q) else []
theorem rvR_no {cs : List ECell} {cell n : Int} {q : Rule} (h : rvE cs cell n q ≠ 0) : rvR cs cell n q = [] := by rw [rvR, if_neg h]
theorem free_sh {cs : List ECell} {cell n reach : Int} (h : freeB cs cell n reach = true) : shE cs (elA cs cell n).cell = 0 := by
 by_cases c : bndE cs (gd (elems (gd cs cell.toNat).insts) n.toNat).cell = 0
 ·exact (bndE_zero c).1
 ·rw [free_no c] at h; cases h
theorem reach_valid {q : Rule} (h : 0 <= reach q) : validRule q = true := by
 cases hv : validRule q with
 | true => rfl
 | false => rw [reach, hv] at h; simp at h
theorem mvI_moved {t : Trans} {xs : List Rect} (ht : validT t = true) (hx : isReg xs = true) : mvI t xs = movedR t xs := by
 rw [mvI, mvOk, ht, hx, movedR]; simp only [Bool.true_and]
theorem rv_i {l : Lib} {cell n : Int} {q : Rule} (hL : RLib G L l.cells.v l.cells.xs) (hlen : lenC (erCls l.cells.xs)) (k : ∀ v', R (.tuple #[v', vi (rvE (erCls l.cells.xs) cell n q)]) G (osl 101 rectT v' (rvR (erCls l.cells.xs) cell n q) :: L)) : CallT Tryz.prog 18 #[vT libT l, vi cell, vi n, vT ruleT q] G L R := by
 have hE := erCls_len l.cells.xs
 refine CallT.enter (args := _) Tryz.func18 rfl rfl (by kernel_rfl) rfl ?_
 refine WP.sr ?_
 refine RG.ot rfl (OT.box (cs := libT.enc l) rfl rfl rfl fun b4 => ?_)
 refine RG.ot rfl (OT.box (cs := ruleT.enc q) rfl rfl rfl fun b7 => ?_)
 refine RG.p (PV.asg rfl rfl) (RG.mr rfl (RG.nil (WP.sr (RG.p (PV.loadW rfl Ag26 rfl rfl) (RG.ml rfl ?_)))))
 refine RG.callF (vs := [_, _]) rfl rfl En42 rfl (rooted_i hL.up hlen (fun w21 => ?_))
 refine RG.p (PV.move (v := .tuple _) rfl rfl) (RG.p (PV.ext (v := w21) rfl rfl rfl) (RG.p (PV.ext rfl rfl rfl) (RG.p (PV.asg (v := w21) rfl rfl) (RG.mr rfl (RG.nil (WP.sr (RG.p (PV.loadW rfl Ag42 rfl rfl) ?_)))))))
 refine RG.callF (vs := [_]) rfl rfl En31 rfl (reach_i ?_)
 refine RG.mr rfl (RG.nil (WP.seq (WP.block (WP.sr (RG.ml rfl (RG.p (PV.neq rfl rfl rfl) (RG.br rfl (RG.nil ?_))))))))
 refine WP.cond rfl (fun h1 => ?_) fun h1 => ?_
 ·have h1 : shE (erCls l.cells.xs) cell ≠ 0 := by simpa using h1
  have e1 : elE (erCls l.cells.xs) cell n = shE (erCls l.cells.xs) cell := by rw [elE, decide_eq_false h1]; rfl
  have e2 : rvE (erCls l.cells.xs) cell n q = shE (erCls l.cells.xs) cell := by rw [rvE, e1, if_neg h1]
  rw [rvR_no (by rw [e2]; exact h1), e2] at k
  refine WP.sr (RG.ml rfl (RG.p (PV.asg rfl rfl) (RG.mr rfl (RG.nil ?_))))
  exact WP.ret ⟨_, _, ResV.two rfl rfl rfl, (Cv.p (C := L)).trans Cv.nilS, k (.slice none 0 0)⟩
 ·have h1 : shE (erCls l.cells.xs) cell = 0 := by simpa using h1
  refine WP.sr (RG.p (PV.loadW rfl Ag26 rfl rfl) (RG.ml rfl (RG.ml rfl ?_)))
  refine RG.callF (vs := [_, _, _]) rfl rfl En43 rfl (hasEl_i hL.up (shE_lib h1) ?_)
  refine RG.p (PV.not rfl rfl) (RG.br rfl (RG.nil ?_))
  refine WP.cond rfl (fun h2 => ?_) fun h2 => ?_
  ·have h2 : within n 0 ((elN (erCls l.cells.xs) cell : Int) - 1) = false := by simpa using h2
   have e1 : elE (erCls l.cells.xs) cell n = 5 := by rw [elE, decide_eq_true h1, h2]; rfl
   have e2 : rvE (erCls l.cells.xs) cell n q = 5 := by rw [rvE, e1, if_neg (by decide)]
   rw [rvR_no (by rw [e2]; decide), e2] at k
   refine WP.sr (RG.p (PV.asg rfl rfl) (RG.mr rfl (RG.nil ?_)))
   exact WP.ret ⟨_, _, ResV.two rfl rfl rfl, (Cv.p (C := L)).trans Cv.nilS, k (.slice none 0 0)⟩
  ·have h2 : within n 0 ((elN (erCls l.cells.xs) cell : Int) - 1) = true := by simpa using h2
   have e1 : elE (erCls l.cells.xs) cell n = 0 := by rw [elE, decide_eq_true h1, h2]; rfl
   refine WP.sr (RG.ml rfl (RG.p (PV.lss rfl rfl rfl) (RG.br rfl (RG.nil ?_))))
   refine WP.cond rfl (fun h3 => ?_) fun h3 => ?_
   ·have h3 := odt h3
    have e2 : rvE (erCls l.cells.xs) cell n q = 1 := by rw [rvE, if_pos e1, if_pos h3]
    rw [rvR_no (by rw [e2]; decide), e2] at k
    refine WP.sr (RG.p (PV.asg rfl rfl) (RG.mr rfl (RG.nil ?_)))
    exact WP.ret ⟨_, _, ResV.two rfl rfl rfl, (Cv.p (C := L)).trans Cv.nilS, k (.slice none 0 0)⟩
   ·have h3 : 0 <= reach q := by have := odf h3; omega
    have hva := reach_valid h3
    refine WP.sr (RG.p (PV.loadW rfl Ag26 rfl rfl) (RG.ml rfl (RG.ml rfl (RG.ml rfl (RG.p (PV.move (v := w21) rfl rfl) ?_)))))
    refine RG.callF (vs := [_, _, _, _, w21]) rfl rfl En49 rfl (free_i hL.up hlen (AtEl.of h1 h2) (reach_in (reach_le q h3)) Rs.o ?_)
    refine RG.p (PV.not rfl rfl) (RG.br rfl (RG.nil ?_))
    refine WP.cond rfl (fun h4 => ?_) fun h4 => ?_
    ·have h4 : ¬ freeB (erCls l.cells.xs) cell n (reach q) = true := by simpa using h4
     have e2 : rvE (erCls l.cells.xs) cell n q = 6 := by rw [rvE, if_pos e1, if_neg (by omega), if_neg h4]
     rw [rvR_no (by rw [e2]; decide), e2] at k
     refine WP.sr (RG.p (PV.asg rfl rfl) (RG.mr rfl (RG.nil ?_)))
     exact WP.ret ⟨_, _, ResV.two rfl rfl rfl, (Cv.p (C := L)).trans Cv.nilS, k (.slice none 0 0)⟩
    ·have h4 : freeB (erCls l.cells.xs) cell n (reach q) = true := by simpa using h4
     have e2 : rvE (erCls l.cells.xs) cell n q = 0 := by rw [rvE, if_pos e1, if_neg (by omega), if_pos h4]
     have ha : AtEl l.cells.xs cell n := AtEl.of h1 h2
     obtain ⟨hok, hc0, hc1⟩ := ha.lib
     have hce := erCl_insts (xs := l.cells.xs) (i := cell.toNat) hc1
     have hns : okNs (gd l.cells.xs cell.toNat).insts.xs := by rw [<- hce]; exact okLib_ns hok (by omega)
     have hnl := ha.lt
     have hn0 := ha.hn.1
     have hel : elA (erCls l.cells.xs) cell n = gd (elems (gd l.cells.xs cell.toNat).insts.xs) n.toNat := by rw [elA, hce]
     have hsh := free_sh h4
     have hly := fly_isLay hsh
     rw [hel] at hly
     have hvt : validT (gd (elems (gd l.cells.xs cell.toNat).insts.xs) n.toNat).place = true := validT_iff.2 ⟨ha.el.1, ha.el.2.1, ha.el.2.2⟩
     have hmv := mvI_moved hvt (rmL_reg (flyL (erCls l.cells.xs) (gd (elems (gd l.cells.xs cell.toNat).insts.xs) n.toNat).cell) q)
     rw [rvR, if_pos e2, e2, hel, <- hmv] at k
     refine WP.skip (WP.sr (RG.p (PV.field rfl Fo26_0 rfl) (RG.p (PV.load1 rfl Sc24 rfl (Rd.blk rfl)) (RG.ml rfl (RG.p (PV.idxS (j := cell.toNat) rfl Is24 rfl (SlF.r hL.c) rfl (by first | omega | (simp only [List.length_cons, List.length_nil]; omega)) (by first | omega | (simp only [List.length_cons, List.length_nil]; omega))) (RG.p (PV.loadE rfl Ag95 rfl rfl (El.r hL.c (getG (by first | omega | (simp only [List.length_cons, List.length_nil]; omega))))) ?_))))))
     refine RG.callF (vs := [_]) rfl rfl En50 rfl (elems_i (hL.na (by omega)).up hns (fun v52 => ?_))
     refine RG.ml rfl (RG.p (PV.idxS (j := n.toNat) (v := v52) rfl Is90 rfl SlF.o rfl (by first | omega | (simp only [List.length_cons, List.length_nil]; omega)) (by first | omega | (simp only [List.length_cons, List.length_nil]; omega))) (RG.p (PV.loadE rfl Ag89 rfl rfl (El.o (getG (by first | omega | (simp only [List.length_cons, List.length_nil]; omega))))) ?_))
     refine RG.ot rfl (OT.alloc rfl Zr89 fun b13 => ?_)
     refine RG.ot rfl (OT.storeW (vs := [vi _, vi _, vi _, vi _]) rfl Sz89 rfl rfl (Cl.c rfl) rfl rfl (OneC.c rfl) ?_)
     refine RG.nil (WP.sr (RG.p (PV.loadW rfl Ag26 rfl rfl) (RG.p (PV.field rfl Fo89_0 rfl) (RG.p (PV.load1 rfl Sc2 rfl (Rd.blk rfl)) ?_))))
     refine RG.callF (vs := [_, _]) rfl rfl En10 rfl (fly_i hL.up hlen (fun w60 zs hzz => have hlz : isLay (er zs) = true := (by rw [hzz]; exact hly); ?_))
     refine RG.p (PV.move (v := .tuple _) rfl rfl) (RG.p (PV.ext (v := w60) rfl rfl rfl) (RG.p (PV.ext rfl rfl rfl) (RG.p (PV.asg (v := w60) rfl rfl) (RG.mr rfl (RG.nil (WP.seq ?_))))))
     refine WP.regionH0 (.q 0 (.q 1 (.q 2 (.q 3 (.l 4 (.l 5 (.q 6 (.q 7 (.q 8 (.q 9 (.q 10 Sch.nil))))))))))) (by kernel_rfl) (by kernel_rfl) (by kernel_rfl) rfl ?_
     refine RH.w rfl rfl (PV.field rfl Fo89_1 rfl) (RH.w rfl rfl (PV.loadB (vs := [_, _, _]) rfl Ag87 rfl rfl rfl) (RH.w rfl rfl (PV.move (v := w60) rfl rfl) (RH.w rfl rfl (PV.loadW rfl Ag42 rfl rfl) ?_)))
     refine RH.ot rfl rfl (OT.callF (vs := [w60, _]) rfl En48 rfl (rule_i (q := q) Rs.o RsE.o hlz hva (fun v68 => (kp ?_))))
     refine RH.ot rfl rfl (OT.callF (vs := [_, v68]) rfl En51 rfl (mvReg_i Rs.o (fun w69 => (kp ?_))))
     refine RH.w rfl rfl (PV.move (v := .tuple _) rfl rfl) (RH.w rfl rfl (PV.ext (v := w69) rfl rfl rfl) (RH.w rfl rfl (PV.ext rfl rfl rfl) (RH.w rfl rfl (PV.asg (v := w69) rfl rfl) (RH.w rfl rfl (PV.mvB (.inr rfl) rfl) (RH.nil (WP.sr (RG.p (PV.move (v := w69) rfl rfl) (RG.p (PV.asg (v := w69) rfl rfl) (RG.mr rfl (RG.nil ?_))))))))))
     refine WP.ret ?_
     rw [<- hzz] at k
     exact ⟨_, _, ResV.two rfl rfl rfl, Cv.p, k w69⟩
theorem mv_pos {t : Trans} (ho : 0 <= t.o ∧ t.o <= 7) {r : Rect} (h : r.x0 < r.x1 ∧ r.y0 < r.y1) : (moveR t r).x0 < (moveR t r).x1 ∧ (moveR t r).y0 < (moveR t r).y1 := by
 obtain ⟨o, tx, ty⟩ := t
 obtain ⟨h1, h2⟩ := h
 rcases orient ho with e | e | e | e | e | e | e | e <;> simp only at e <;> subst e <;> simp [moveR, moveP, turnP, flip, rot] <;> omega
theorem mv_cmp {t u : Trans} (ht : 0 <= t.o ∧ t.o <= 7) (hu : 0 <= u.o ∧ u.o <= 7) {r : Rect} (h : r.x0 < r.x1 ∧ r.y0 < r.y1) : moveR (cmpT t u) r = moveR u (moveR t r) := by
 obtain ⟨o, tx, ty⟩ := t
 obtain ⟨p, ux, uy⟩ := u
 obtain ⟨a, b, c, d⟩ := r
 obtain ⟨h1, h2⟩ := h
 simp only at h1 h2
 rcases orient ht with e | e | e | e | e | e | e | e <;> simp only at e <;> subst e <;>
  rcases orient hu with e' | e' | e' | e' | e' | e' | e' | e' <;> simp only at e' <;> subst e' <;> simp [moveR, moveP, turnP, flip, rot, cmpT, cmpo] <;> omega
theorem mv_wide {t : Trans} (ho : 0 <= t.o ∧ t.o <= 7) {r : Rect} (h : r.x0 < r.x1 ∧ r.y0 < r.y1) {k : Int} (hk : 0 <= k) : moveR t (wideR r k) = wideR (moveR t r) k := by
 obtain ⟨o, tx, ty⟩ := t
 obtain ⟨a, b, c, d⟩ := r
 obtain ⟨h1, h2⟩ := h
 simp only at h1 h2
 rcases orient ho with e | e | e | e | e | e | e | e <;> simp only at e <;> subst e <;> simp [moveR, moveP, turnP, flip, rot, wideR] <;> omega
theorem flatMap_congr' {α β : Type} {l : List α} {f g : α -> List β} (h : ∀ a ∈ l, f a = g a) : l.flatMap f = l.flatMap g := by rw [List.flatMap_def, List.flatMap_def, List.map_congr_left h]
theorem kid_cell (o : EOcc) (e : HElem) (n : Nat) : (kid o e n).cell = e.cell := rfl
theorem occF_fuel {cs : List ECell} (h : okLib cs = true) : ∀ (f f' : Nat) (o : EOcc), 0 <= o.cell -> o.cell.toNat < f -> o.cell.toNat < f' -> o.cell.toNat < cs.length -> occF cs f o = occF cs f' o
 | 0, _, o, _, h1, _, _ => by omega
 | _ + 1, 0, o, _, _, h2, _ => by omega
 | f + 1, f' + 1, o, h0, h1, h2, h3 => by
  rw [occF, occF]
  congr 1
  refine flatMap_congr' fun n hn => ?_
  have hn := List.mem_range.1 hn
  have hb := (elem_bd h h3 hn).1
  exact occF_fuel h f f' _ (by rw [kid_cell]; omega) (by rw [kid_cell]; omega) (by rw [kid_cell]; omega) (by rw [kid_cell]; omega)
theorem occF_path {cs : List ECell} : ∀ (f : Nat) (o : EOcc), ∀ q ∈ occF cs f o, ∃ t, q.path = o.path ++ t
 | 0, o, q, hq => by
  rw [occF, List.mem_singleton] at hq
  subst hq; exact ⟨[], by simp⟩
 | f + 1, o, q, hq => by
  rw [occF, List.mem_cons] at hq
  rcases hq with rfl | hq
  ·exact ⟨[], by simp⟩
  ·obtain ⟨n, hn, hq⟩ := List.mem_flatMap.1 hq
   obtain ⟨t, ht⟩ := occF_path f _ q hq
   exact ⟨(n : Int) :: t, by rw [ht]; simp [kid]⟩
def mvS (t : Trans) (s : Shape) : Shape := ⟨s.layer, moveR t s.box⟩
theorem shape_pos {cs : List ECell} (h : okLib cs = true) {c : Nat} (hc : c < cs.length) : ∀ s ∈ (gd cs c).shapes, s.box.x0 < s.box.x1 ∧ s.box.y0 < s.box.y1 := fun s hs => by
 obtain ⟨j, hj, rfl⟩ := List.getElem_of_mem hs
 have := okLib_shape h hc hj
 rw [gd_eq hj] at this
 simp only [okSh, Bool.and_eq_true] at this
 have := validR_iff.1 this.2
 omega
theorem flat_mv {cs : List ECell} (h : okLib cs = true) {t : Trans} (ht : 0 <= t.o ∧ t.o <= 7) : ∀ (f : Nat) (o o' : EOcc), o'.cell = o.cell -> 0 <= o.cell -> o.cell.toNat < cs.length -> (0 <= o.place.o ∧ o.place.o <= 7) -> (0 <= o'.place.o ∧ o'.place.o <= 7) -> (∀ r : Rect, (r.x0 < r.x1 ∧ r.y0 < r.y1) -> moveR o'.place r = moveR t (moveR o.place r)) -> flatL cs (occF cs f o') = (flatL cs (occF cs f o)).map (mvS t) := by
 have own : ∀ (o o' : EOcc), o'.cell = o.cell -> o.cell.toNat < cs.length -> (∀ r : Rect, (r.x0 < r.x1 ∧ r.y0 < r.y1) -> moveR o'.place r = moveR t (moveR o.place r)) -> flatOf cs o' = (flatOf cs o).map (mvS t) := fun o o' hc hl hm => by
  rw [flatOf, flatOf, hc, List.map_map]
  refine List.map_congr_left fun s hs => ?_
  simp only [Function.comp_def, mvS]
  rw [hm _ (shape_pos h hl s hs)]
 intro f
 induction f with
 | zero =>
  intro o o' hc h0 hl ho ho' hm
  simp only [occF, flatL, List.flatMap_cons, List.flatMap_nil, List.append_nil]
  exact own o o' hc hl hm
 | succ f ih =>
  intro o o' hc h0 hl ho ho' hm
  rw [occF, occF, hc]
  simp only [flatL, List.flatMap_cons, List.map_append, List.flatMap_assoc, List.map_flatMap]
  rw [own o o' hc hl hm]
  congr 1
  refine flatMap_congr' fun n hn => ?_
  have hn := List.mem_range.1 hn
  have hb := elem_bd h hl hn
  have := ih (kid o (gd (elems (gd cs o.cell.toNat).insts) n) n) (kid o' (gd (elems (gd cs o.cell.toNat).insts) n) n) rfl hb.1.1 (by rw [kid_cell]; omega) cmpo_in cmpo_in fun r hr => by
   simp only [kid]
   rw [mv_cmp hb.2.1 ho' hr, mv_cmp hb.2.1 ho hr, hm _ (mv_pos hb.2.1 hr)]
  simp only [flatL, List.map_flatMap] at this
  exact this
theorem flat_in {cs : List ECell} {os : List EOcc} {s : Shape} : s ∈ flatL cs os ↔ ∃ o ∈ os, s ∈ flatOf cs o := List.mem_flatMap
theorem sel_in {cs : List ECell} {os : List EOcc} {ls : List Int} {b : Bool} {s : Shape} : s ∈ selL cs os ls b ↔ ∃ o ∈ os, selS ls o = b ∧ s ∈ flatOf cs o := by
 rw [selL, List.mem_flatMap]
 constructor
 ·rintro ⟨o, ho, h⟩
  by_cases c : (selS ls o == b) = true
  ·rw [if_pos c] at h; exact ⟨o, ho, by simpa using c, h⟩
  ·rw [if_neg c] at h; cases h
 ·rintro ⟨o, ho, h1, h2⟩
  exact ⟨o, ho, by rw [if_pos (by simpa using h1)]; exact h2⟩
theorem selS_many {ls : List Int} {o : EOcc} : selS ls o = true ↔ ∃ n ∈ ls, selS [n] o = true := by
 simp only [selS, Bool.and_eq_true, List.any_eq_true, List.mem_singleton, decide_eq_true_eq]
 constructor
 ·rintro ⟨h, n, h1, h2⟩; exact ⟨n, h1, h, n, rfl, h2⟩
 ·rintro ⟨n, h1, h, m, rfl, h2⟩; exact ⟨h, m, h1, h2⟩
theorem flat_split {cs : List ECell} {os : List EOcc} {ls : List Int} {s : Shape} : s ∈ flatL cs os ↔ s ∈ selL cs os ls false ∨ ∃ n ∈ ls, s ∈ selL cs os [n] true := by
 rw [flat_in]
 constructor
 ·rintro ⟨o, ho, h⟩
  cases c : selS ls o with
  | false => exact .inl (sel_in.2 ⟨o, ho, c, h⟩)
  | true =>
   obtain ⟨n, hn, e⟩ := selS_many.1 c
   exact .inr ⟨n, hn, sel_in.2 ⟨o, ho, e, h⟩⟩
 ·rintro (h | ⟨n, _, h⟩) <;> (obtain ⟨o, ho, _, h⟩ := sel_in.1 h; exact ⟨o, ho, h⟩)
theorem rest_one {cs : List ECell} {os : List EOcc} {ls : List Int} {s : Shape} (h : s ∈ selL cs os ls false) {n : Int} (hn : n ∈ ls) : s ∈ selL cs os [n] false := by
 obtain ⟨o, ho, e, h⟩ := sel_in.1 h
 refine sel_in.2 ⟨o, ho, ?_, h⟩
 cases c : selS [n] o with
 | false => rfl
 | true => rw [selS_many.2 ⟨n, hn, c⟩] at e; cases e
theorem elA_bd {cs : List ECell} {cell n : Int} (hz : shE cs cell = 0) (hn : 0 <= n ∧ n < elN cs cell) : (0 <= (elA cs cell n).cell ∧ (elA cs cell n).cell < cell) ∧ (0 <= (elA cs cell n).place.o ∧ (elA cs cell n).place.o <= 7) := by
 obtain ⟨h1, h2⟩ := shE_lib hz
 have := elem_bd h1 (k := cell.toNat) (by omega) (i := n.toNat) (by have := hn; unfold elN at this; omega)
 exact ⟨by have := this.1; rw [elA]; omega, this.2.1⟩
theorem moveR_zero {r : Rect} (h : r.x0 < r.x1 ∧ r.y0 < r.y1) : moveR ⟨0, 0, 0⟩ r = r := by
 rw [moveR_shift h]; simp [shiftR]
theorem el_flat {cs : List ECell} {cell n : Int} (hz : shE cs cell = 0) (hn : 0 <= n ∧ n < elN cs cell) (he : shE cs (elA cs cell n).cell = 0) {s : Shape} : s ∈ selL cs (occR cs cell) [n] true ↔ s ∈ (flatL cs (occR cs (elA cs cell n).cell)).map (mvS (elA cs cell n).place) := by
 obtain ⟨h1, h2⟩ := shE_lib hz
 obtain ⟨hb, hor⟩ := elA_bd hz hn
 have hnl : n.toNat < (elems (gd cs cell.toNat).insts).length := by have := hn; unfold elN at this; omega
 have hm := flat_mv h1 hor ((elA cs cell n).cell.toNat + 1) (top (elA cs cell n).cell) (kid (top cell) (elA cs cell n) n.toNat) rfl hb.1 (by simp only [top]; omega) ⟨by simp [top], by simp [top]⟩ cmpo_in fun r hr => by
  simp only [kid, top]
  rw [cmpT_top hor, moveR_zero hr]
 have hf := occF_fuel h1 ((elA cs cell n).cell.toNat + 1) cell.toNat (kid (top cell) (elA cs cell n) n.toNat) (by rw [kid_cell]; omega) (by rw [kid_cell]; omega) (by rw [kid_cell]; omega) (by rw [kid_cell]; omega)
 rw [occR_ok (shE_zero hz).1, occR_ok (shE_zero he).1, occAll, occAll, <- hm, hf, sel_in, flat_in, occF]
 constructor
 ·rintro ⟨o, ho, hs, hfl⟩
  rcases List.mem_cons.1 ho with rfl | ho
  ·simp [selS, top] at hs
  ·obtain ⟨m, hm, ho⟩ := List.mem_flatMap.1 ho
   obtain ⟨t, ht⟩ := occF_path _ _ o ho
   have hp : o.path = (m : Int) :: t := by rw [ht]; simp [kid, top]
   have hg : gd ((m : Int) :: t) 0 = (m : Int) := by simp [gd]
   have e : n = m := by
    simp only [selS, Bool.and_eq_true, List.any_eq_true, List.mem_singleton, decide_eq_true_eq] at hs
    obtain ⟨_, k, rfl, hk⟩ := hs
    rw [hp, hg] at hk; exact hk
   subst e
   exact ⟨o, ho, hfl⟩
 ·rintro ⟨o, ho, hfl⟩
  refine ⟨o, List.mem_cons_of_mem _ (List.mem_flatMap.2 ⟨n.toNat, List.mem_range.2 hnl, ho⟩), ?_, hfl⟩
  obtain ⟨t, ht⟩ := occF_path _ _ o ho
  have hp : o.path = n :: t := by rw [ht]; simp [kid, top]; omega
  have hg : gd (n :: t) 0 = n := by simp [gd]
  simp only [selS, Bool.and_eq_true, List.any_eq_true, List.mem_singleton, decide_eq_true_eq]
  exact ⟨by rw [hp, List.length_cons]; omega, n, rfl, by rw [hp, hg]⟩
def bndN (cs : List ECell) (cell n : Int) : Rect := bndR cs (elA cs cell n).cell
def plN (cs : List ECell) (cell n : Int) : Rect := moveR (elA cs cell n).place (bndN cs cell n)
structure Fre (cs : List ECell) (cell n v : Int) : Prop where
  at_ : 0 <= n ∧ n < elN cs cell
  sh : shE cs (elA cs cell n).cell = 0
  own : ∀ s ∈ flatL cs (occR cs (elA cs cell n).cell), (bndN cs cell n).x0 <= s.box.x0 ∧ (bndN cs cell n).y0 <= s.box.y0 ∧ s.box.x1 <= (bndN cs cell n).x1 ∧ s.box.y1 <= (bndN cs cell n).y1
  val : validRect (wideR (bndN cs cell n) v) = true ∧ validRect (wideR (plN cs cell n) v) = true
  pos : (bndN cs cell n).x0 < (bndN cs cell n).x1 ∧ (bndN cs cell n).y0 < (bndN cs cell n).y1
  dist : ∀ s ∈ selL cs (occR cs cell) [n] false, 2 * v < distR s.box (plN cs cell n)
theorem fre_of {cs : List ECell} {cell n v : Int} (hn : 0 <= n ∧ n < elN cs cell) (h : freeB cs cell n v = true) : Fre cs cell n v := by
 simp only [freeB, Bool.and_eq_true, decide_eq_true_eq, Bool.not_eq_true'] at h
 obtain ⟨⟨h1, h2, h3⟩, h4⟩ := h
 have h1 : bndE cs (elA cs cell n).cell = 0 := h1
 obtain ⟨h5, h6⟩ := bndE_zero h1
 have hi := bndR_in h1
 refine ⟨hn, h5, fun s hs => ?_, ⟨h2, h3⟩, ⟨hi.2.1, hi.2.2.2.2.1⟩, fun s hs => ?_⟩
 ·rw [bndN, bndR, decide_eq_true h1, cond_true, shR_ok h5]
  exact (boxFrom_le _ _).2.2.2.2 _ (List.mem_map.2 ⟨s, hs, rfl⟩)
 ·obtain ⟨o, ho, e, hfl⟩ := sel_in.1 hs
  have hm : (⟨rootOf o, s⟩ : RShape) ∈ rootL cs (occR cs cell) := List.mem_flatMap.2 ⟨o, ho, List.mem_map.2 ⟨s, hfl, rfl⟩⟩
  have := List.any_eq_false.1 h4 _ hm
  rw [nearS, root_one hn.1, e] at this
  have this : ¬ decide (distR s.box (plN cs cell n) <= 2 * v) = true := this
  simp only [decide_eq_true_eq] at this
  omega
theorem mv_sub {t : Trans} (ho : 0 <= t.o ∧ t.o <= 7) {a b : Rect} (h : a.x0 < a.x1 ∧ a.y0 < a.y1) (hb : b.x0 <= a.x0 ∧ b.y0 <= a.y0 ∧ a.x1 <= b.x1 ∧ a.y1 <= b.y1) : (moveR t b).x0 <= (moveR t a).x0 ∧ (moveR t b).y0 <= (moveR t a).y0 ∧ (moveR t a).x1 <= (moveR t b).x1 ∧ (moveR t a).y1 <= (moveR t b).y1 := by
 obtain ⟨o, tx, ty⟩ := t
 obtain ⟨h1, h2⟩ := h
 obtain ⟨h3, h4, h5, h6⟩ := hb
 rcases orient ho with e | e | e | e | e | e | e | e <;> simp only at e <;> subst e <;> simp [moveR, moveP, turnP, flip, rot] <;> omega
def Win (v : Int) (y x : Nat) (s : Shape) : Prop := ∃ y' x' : Nat, y' < 80 ∧ x' < 80 ∧ ((y : Int) - v <= y' ∧ (y' : Int) <= y + v) ∧ ((x : Int) - v <= x' ∧ (x' : Int) <= x + v) ∧ inR s.box y' x' = true
theorem win_far {s : Shape} {P : Rect} {v : Int} {y x : Nat} (h : 2 * v < distR s.box P) (hn : inR (wideR P v) y x = true) : ¬ Win v y x s := by
 rintro ⟨y', x', h1, h2, h3, h4, h5⟩
 rw [inR_iff] at hn h5
 simp only [distR] at h
 simp only [wideR] at hn
 omega
theorem win_own {s : Shape} {P : Rect} {v : Int} {y x : Nat} (h : P.x0 <= s.box.x0 ∧ P.y0 <= s.box.y0 ∧ s.box.x1 <= P.x1 ∧ s.box.y1 <= P.y1) (hn : inR (wideR P v) y x = false) : ¬ Win v y x s := by
 rintro ⟨y', x', h1, h2, h3, h4, h5⟩
 have hn : ¬ inR (wideR P v) y x = true := by rw [hn]; decide
 rw [inR_iff] at hn h5
 simp only [wideR] at hn
 omega
theorem box_gb {ss : List Shape} {k y x : Nat} (hk : k < 8) (hy : y < 80) (hx : x < 80) : gb (bits (gd (layL ss) k)) y x = true ↔ ∃ s ∈ ss, s.layer = (k : Int) ∧ inR s.box y x = true := by
 rw [lay_bits hk, gb_bits_iff hy hx]
 constructor
 ·rintro ⟨b, hb, h⟩
  rw [boxesOf] at hb
  obtain ⟨s, hs, rfl⟩ := List.mem_map.1 hb
  obtain ⟨h1, h2⟩ := List.mem_filter.1 hs
  exact ⟨s, h1, by simpa using h2, h⟩
 ·rintro ⟨s, h1, h2, h3⟩
  exact ⟨s.box, List.mem_map.2 ⟨s, List.mem_filter.2 ⟨h1, by simpa using h2⟩, rfl⟩, h3⟩
theorem win_agr {A B : List Shape} {k : Nat} (hk : k < 8) {v : Int} {y x : Nat} (h : ∀ s, Win v y x s -> (s ∈ A ↔ s ∈ B)) : Agr (bits (gd (layL A) k)) (bits (gd (layL B) k)) v y x := fun y' x' h1 h2 h3 h4 => by
 rw [Bool.eq_iff_iff, box_gb hk h1 h2, box_gb hk h1 h2]
 constructor <;> rintro ⟨s, q1, q2, q3⟩
 ·exact ⟨s, (h s ⟨y', x', h1, h2, h3, h4, q3⟩).1 q1, q2, q3⟩
 ·exact ⟨s, (h s ⟨y', x', h1, h2, h3, h4, q3⟩).2 q1, q2, q3⟩
theorem rm_win {A B : List Shape} {q : Rule} (hq : validRule q = true) (hk : q.kind <= 3) {y x : Nat} (hy : y < 80) (hx : x < 80) (h : ∀ s, Win q.value y x s -> (s ∈ A ↔ s ∈ B)) : gb (bits (rmL (layL A) q)) y x = true ↔ gb (bits (rmL (layL B) q)) y x = true := by
 obtain ⟨hlr, hor⟩ := valid_lay hq
 have h' : ∀ s, Win q.value y x s -> (s ∈ B ↔ s ∈ A) := fun s hs => (h s hs).symm
 exact ⟨rm_local (lay_isLay _) (lay_isLay _) hq hk hy hx (win_agr (by omega) h) (fun _ => win_agr (by omega) h), rm_local (lay_isLay _) (lay_isLay _) hq hk hy hx (win_agr (by omega) h') (fun _ => win_agr (by omega) h')⟩
theorem cv_none {S : List Bool} (h : ∀ y x, y < 80 -> x < 80 -> gb S y x = false) (ver : Bool) (l k : Int) : cv S ver l k = false := by
 cases e : cv S ver l k with
 | false => rfl
 | true =>
  have r := cv_rng e
  have e' : cellB S (bif ver then l else k) (bif ver then k else l) = true := e
  rw [cellB_in (by cases ver <;> simp only [cond_true, cond_false] <;> omega), h _ _ (by cases ver <;> simp only [cond_true, cond_false] <;> omega) (by cases ver <;> simp only [cond_true, cond_false] <;> omega)] at e'
  cases e'
theorem rm_empty {q : Rule} (hq : validRule q = true) (hk : q.kind <= 3) {y x : Nat} (hy : y < 80) (hx : x < 80) : gb (bits (rmL (layL []) q)) y x = false := by
 obtain ⟨hv1, hv8⟩ := valid_val hq hk
 have hk0 := (valid_kind hq).1
 obtain ⟨hlr, hor⟩ := valid_lay hq
 have a1 := isLay_reg (lay_isLay []) (i := q.layer.toNat) (by omega)
 have b1 := isLay_reg (lay_isLay []) (i := q.other.toNat) (by omega)
 have hd : okDist q.value = true := by simp [okDist, hv1, hv8]
 have hw : within q.value 0 8 = true := by simp [within, hv8]; omega
 have none : ∀ k, k < 8 -> ∀ y x, y < 80 -> x < 80 -> gb (bits (gd (layL []) k)) y x = false := fun k hk y x hy hx => by
  cases e : gb (bits (gd (layL []) k)) y x with
  | false => rfl
  | true => obtain ⟨s, hs, _⟩ := (box_gb hk hy hx).1 e; cases hs
 have nA := none q.layer.toNat (by omega)
 have nB := none q.other.toNat (by omega)
 cases e : gb (bits (rmL (layL []) q)) y x with
 | false => rfl
 | true =>
  exfalso
  have noN : ∀ A B : List Bool, (∀ y x, y < 80 -> x < 80 -> gb A y x = false) -> ¬ Nigh A B q.value y x := fun A B hA ⟨ver, lo, hi, _, g, _⟩ => by
   rw [gapE_line, cv_none hA, cv_none hA] at g
   simp at g
  by_cases c0 : q.kind = 0
  ·rw [rmL, if_pos c0, widthL, if_pos (by rw [a1, hd]; rfl), bits_canon (celL_len _), celL_gb hy hx] at e
   obtain ⟨ver, lo, hi, h, _⟩ := e
   have h1 := h.all _ h.lk.1 h.lk.2
   rw [cv_none nA] at h1
   cases h1
  ·by_cases c1 : q.kind = 1
   ·rw [rmL, if_neg c0, if_pos c1, spaceL, if_pos (by rw [a1, hd]; rfl), bits_canon (celL_len _), celL_gb hy hx] at e
    exact noN _ _ nA e
   ·by_cases c2 : q.kind = 2
    ·rw [rmL, if_neg c0, if_neg c1, if_pos c2, betwL, if_pos (by rw [a1, b1, hd]; rfl), bits_canon (celL_len _), celL_gb hy hx] at e
     rcases e with e | ⟨e, _⟩
     ·exact noN _ _ nA e
     ·rw [nA y x hy hx] at e; cases e
    ·rw [rmL, if_neg c0, if_neg c1, if_neg c2, if_pos (by omega), enclL, if_pos (by rw [a1, b1, hw]; rfl), bits_canon (zipB_len (growB_len _ _) (bits_length _)), gb_zip (growB_len _ _) (bits_length _) hy hx] at e
     simp only [minB, Bool.and_eq_true, Bool.not_eq_true'] at e
     obtain ⟨y', x', h1, h2, _, _, _, _, h3⟩ := (growB_iff hy hx).1 e.1
     rw [nA y' x' h1 h2] at h3; cases h3
theorem rm_far {A : List Shape} {q : Rule} (hq : validRule q = true) (hk : q.kind <= 3) {y x : Nat} (hy : y < 80) (hx : x < 80) (h : ∀ s ∈ A, ¬ Win q.value y x s) : gb (bits (rmL (layL A) q)) y x = false := by
 rw [Bool.eq_false_iff]
 intro g
 rw [rm_win (B := []) hq hk hy hx fun s hs => ⟨fun ha => absurd hs (h s ha), fun hb => by cases hb⟩, rm_empty hq hk hy hx] at g
 cases g
def elM (cs : List ECell) (cell n : Int) : List Shape := (flatL cs (occR cs (elA cs cell n).cell)).map (mvS (elA cs cell n).place)
theorem cP_lay {ss : List Shape} (hv : ∀ s ∈ ss, validRect s.box = true) {k : Nat} (hk : k < 8) (p : Int × Int) : cP (bits (gd (layL ss) k)) p = true ↔ ∃ s ∈ ss, s.layer = (k : Int) ∧ cellIn s.box p.1 p.2 := by
 by_cases c : (-40 <= p.1 ∧ p.1 < 40) ∧ (-40 <= p.2 ∧ p.2 < 40)
 ·have e : p = nP (p.2 + 40).toNat (p.1 + 40).toNat := Prod.ext (by simp only [nP]; omega) (by simp only [nP]; omega)
  have e2 : cP (bits (gd (layL ss) k)) p = gb (bits (gd (layL ss) k)) (p.2 + 40).toNat (p.1 + 40).toNat := by
   conv => lhs; rw [e]
   exact cP_nP (by omega) (by omega)
  rw [e2, box_gb hk (by omega) (by omega)]
  simp only [inR_cell]
  rw [show (((p.1 + 40).toNat : Nat) : Int) - 40 = p.1 by omega, show (((p.2 + 40).toNat : Nat) : Int) - 40 = p.2 by omega]
 ·constructor
  ·intro h
   have := cellB_true (show cellB (bits (gd (layL ss) k)) p.1 p.2 = true from h)
   exact absurd ⟨⟨this.1, this.2.1⟩, this.2.2⟩ c
  ·rintro ⟨s, hs, _, h⟩
   have := validR_iff.1 (hv s hs)
   simp only [cellIn] at h
   exact absurd ⟨⟨by omega, by omega⟩, by omega, by omega⟩ c
section
variable {cs : List ECell} {cell n : Int} {q : Rule}
theorem elM_valid (hz : shE cs cell = 0) (hf : Fre cs cell n q.value) : ∀ s ∈ elM cs cell n, validRect s.box = true := fun s hs => (shE_zero hz).2 s (flat_split (ls := [n]).2 (.inr ⟨n, by simp, (el_flat hz hf.at_ hf.sh).2 hs⟩))
theorem own_valid (hf : Fre cs cell n q.value) : ∀ s ∈ flatL cs (occR cs (elA cs cell n).cell), validRect s.box = true := (shE_zero hf.sh).2
theorem mvd_f (hz : shE cs cell = 0) (hf : Fre cs cell n q.value) {k : Nat} (hk : k < 8) : Mvd (fT (elA cs cell n).place) (bits (gd (layL (flatL cs (occR cs (elA cs cell n).cell))) k)) (bits (gd (layL (elM cs cell n)) k)) := fun p => by
 have ho := (elA_bd hz hf.at_).2
 rw [Bool.eq_iff_iff, cP_lay (elM_valid hz hf) hk, cP_lay (own_valid hf) hk]
 constructor
 ·rintro ⟨s, hs, h1, h2⟩
  obtain ⟨s, hs', rfl⟩ := List.mem_map.1 hs
  have := validR_iff.1 (own_valid hf s hs')
  exact ⟨s, hs', h1, (fT_in ho (by omega) p).1 h2⟩
 ·rintro ⟨s, hs, h1, h2⟩
  have := validR_iff.1 (own_valid hf s hs)
  exact ⟨_, List.mem_map.2 ⟨s, hs, rfl⟩, h1, (fT_in ho (by omega) p).2 h2⟩
theorem mvd_inv {f g : Int × Int -> Int × Int} {A A' : List Bool} (h : Mvd f A A') (hg : ∀ p, f (g p) = p) : Mvd g A' A := fun p => by
 rw [<- h (g p), hg]
theorem el_own (hz : shE cs cell = 0) (hf : Fre cs cell n q.value) : ∀ s ∈ elM cs cell n, (plN cs cell n).x0 <= s.box.x0 ∧ (plN cs cell n).y0 <= s.box.y0 ∧ s.box.x1 <= (plN cs cell n).x1 ∧ s.box.y1 <= (plN cs cell n).y1 := fun s hs => by
 obtain ⟨s, hs', rfl⟩ := List.mem_map.1 hs
 have := validR_iff.1 (own_valid hf s hs')
 exact mv_sub (elA_bd hz hf.at_).2 (by omega) (hf.own s hs')
theorem fly_own (hf : Fre cs cell n q.value) : flyL cs (elA cs cell n).cell = layL (flatL cs (occR cs (elA cs cell n).cell)) := by
 rw [flyL, decide_eq_true hf.sh, cond_true, shR_ok hf.sh]
theorem rv_ok (hz : shE cs cell = 0) (hr : 0 <= reach q) (hn : 0 <= n ∧ n < elN cs cell) (hf : freeB cs cell n (reach q) = true) : rvE cs cell n q = 0 := by
 have e : elE cs cell n = 0 := by
  have : within n 0 ((elN cs cell : Int) - 1) = true := by simp [within]; omega
  rw [elE, decide_eq_true hz, this]; rfl
 rw [rvE, if_pos e, if_neg (by omega), if_pos hf]
theorem rv_gb (hz : shE cs cell = 0) (hq : validRule q = true) (hk : q.kind <= 3) (he : rvE cs cell n q = 0) (hf : Fre cs cell n q.value) {y x : Nat} (hy : y < 80) (hx : x < 80) : gb (bits (rvR cs cell n q)) y x = true ↔ gb (bits (rmL (layL (elM cs cell n)) q)) y x = true := by
 obtain ⟨hlr, hor⟩ := valid_lay hq
 obtain ⟨hv1, hv8⟩ := valid_val hq hk
 have ho := (elA_bd hz hf.at_).2
 obtain ⟨hi, g, hg, hg1, hg2⟩ := fT_iso ho
 have hX := rmL_reg (layL (flatL cs (occR cs (elA cs cell n).cell))) q
 have hXv := reg_valid hX
 have hnear : ∀ y x, y < 80 -> x < 80 -> gb (bits (rmL (layL (flatL cs (occR cs (elA cs cell n).cell))) q)) y x = true -> inR (wideR (bndN cs cell n) q.value) y x = true := fun y x hy hx h => by
  cases c : inR (wideR (bndN cs cell n) q.value) y x with
  | true => rfl
  | false => rw [rm_far hq hk hy hx fun s hs => win_own (hf.own s hs) c] at h; cases h
 have hok : movedOk (elA cs cell n).place (rmL (layL (flatL cs (occR cs (elA cs cell n).cell))) q) = true := by
  rw [movedOk, List.all_eq_true]
  conv => enter [r]; rw [<- isReg_eq hX]
  refine canon_mv (bs := [wideR (bndN cs cell n) q.value]) ho (bits_length _) (fun y x hy hx h => ⟨_, by simp, hnear y x hy hx h⟩) fun b hb => ?_
  rw [List.mem_singleton.1 hb, mv_wide ho hf.pos (by omega)]
  exact hf.val.2
 have e1 : rvR cs cell n q = canon (bits ((rmL (layL (flatL cs (occR cs (elA cs cell n).cell))) q).map (moveR (elA cs cell n).place))) := by
  rw [rvR, if_pos he, fly_own hf, movedR, hok]; rfl
 have hfg : fT (elA cs cell n).place (g (nP y x)) = nP y x := hg2 _
 have key : ∀ y' x' : Nat, y' < 80 -> x' < 80 -> g (nP y x) = nP y' x' -> (gb (bits (rmL (layL (flatL cs (occR cs (elA cs cell n).cell))) q)) y' x' = true ↔ gb (bits (rmL (layL (elM cs cell n)) q)) y x = true) := fun y' x' hy' hx' e => by
  have m1 := mvd_f hz hf (k := q.layer.toNat) (by omega)
  have m2 := mvd_f hz hf (k := q.other.toNat) (by omega)
  constructor
  ·exact rm_mv hi (lay_isLay _) (lay_isLay _) hq hk hy' hx' hy hx (by rw [<- e]; exact hfg) m1 m2
  ·exact rm_mv hg (lay_isLay _) (lay_isLay _) hq hk hy hx hy' hx' e (mvd_inv m1 hg2) (mvd_inv m2 hg2)
 rw [e1, bits_canon (bits_length _), gb_bits_iff hy hx]
 constructor
 ·rintro ⟨r, hr, h⟩
  obtain ⟨r, hr', rfl⟩ := List.mem_map.1 hr
  have hrv := validR_iff.1 (hXv r hr')
  rw [inR_cell] at h
  have h : cellIn (moveR (elA cs cell n).place r) (nP y x).1 (nP y x).2 := h
  rw [<- hfg] at h
  have h := (fT_in ho (by omega) _).1 h
  have h' := h
  simp only [cellIn] at h'
  have e : g (nP y x) = nP ((g (nP y x)).2 + 40).toNat ((g (nP y x)).1 + 40).toNat := Prod.ext (show (g (nP y x)).1 = (((g (nP y x)).1 + 40).toNat : Int) - 40 by omega) (show (g (nP y x)).2 = (((g (nP y x)).2 + 40).toNat : Int) - 40 by omega)
  refine (key _ _ (by omega) (by omega) e).1 ((gb_bits_iff (by omega) (by omega)).2 ⟨r, hr', ?_⟩)
  rw [inR_cell, show ((((g (nP y x)).1 + 40).toNat : Nat) : Int) - 40 = (g (nP y x)).1 by omega, show ((((g (nP y x)).2 + 40).toNat : Nat) : Int) - 40 = (g (nP y x)).2 by omega]
  exact h
 ·intro h
  have hw : inR (wideR (plN cs cell n) q.value) y x = true := by
   cases c : inR (wideR (plN cs cell n) q.value) y x with
   | true => rfl
   | false => rw [rm_far hq hk hy hx fun s hs => win_own (el_own hz hf s hs) c] at h; cases h
  rw [inR_cell, plN, <- mv_wide ho hf.pos (by omega)] at hw
  have hw : cellIn (moveR (elA cs cell n).place (wideR (bndN cs cell n) q.value)) (nP y x).1 (nP y x).2 := hw
  rw [<- hfg] at hw
  have hbv := validR_iff.1 hf.val.1
  have hw := (fT_in ho (by omega) _).1 hw
  simp only [cellIn] at hw
  simp only [wideR] at hbv hw
  have e : g (nP y x) = nP ((g (nP y x)).2 + 40).toNat ((g (nP y x)).1 + 40).toNat := Prod.ext (show (g (nP y x)).1 = (((g (nP y x)).1 + 40).toNat : Int) - 40 by omega) (show (g (nP y x)).2 = (((g (nP y x)).2 + 40).toNat : Int) - 40 by omega)
  obtain ⟨r, hr, hc⟩ := (gb_bits_iff (by omega) (by omega)).1 ((key _ _ (by omega) (by omega) e).2 h)
  have hrv := validR_iff.1 (hXv r hr)
  refine ⟨_, List.mem_map.2 ⟨r, hr, rfl⟩, ?_⟩
  rw [inR_cell, show ((((g (nP y x)).1 + 40).toNat : Nat) : Int) - 40 = (g (nP y x)).1 by omega, show ((((g (nP y x)).2 + 40).toNat : Nat) : Int) - 40 = (g (nP y x)).2 by omega] at hc
  have hc := (fT_in ho (by omega) (g (nP y x))).2 hc
  rw [hfg] at hc
  rw [inR_cell]
  exact hc
end
theorem cf_mem {cs : List ECell} {cell v n : Int} (h : n ∈ cfR cs cell v) : (0 <= n ∧ n < elN cs cell) ∧ freeB cs cell n v = true := by
 by_cases c : cfE cs cell v = 0
 ·rw [cfR, decide_eq_true c, cond_true, cfTo] at h
  obtain ⟨m, hm, rfl⟩ := List.mem_map.1 h
  obtain ⟨h1, h2⟩ := List.mem_filter.1 hm
  have := List.mem_range.1 h1
  exact ⟨by omega, h2⟩
 ·rw [cfR, decide_eq_false c] at h; cases h
theorem reach_val {q : Rule} (hr : 0 <= reach q) : validRule q = true ∧ q.kind <= 3 ∧ reach q = q.value := by
 have hq := reach_valid hr
 have hk : q.kind <= 3 := by
  by_cases c : q.kind <= 3
  ·exact c
  ·rw [reach, hq, decide_eq_false c] at hr; simp at hr
 exact ⟨hq, hk, by rw [reach, hq, decide_eq_true hk]; rfl⟩
theorem cf_union {cs : List ECell} {cell : Int} {q : Rule} (hz : shE cs cell = 0) (hr : 0 <= reach q) {y x : Nat} (hy : y < 80) (hx : x < 80) :
  gb (bits (rmL (flyL cs cell) q)) y x = true ↔ gb (bits (rmL (layL (selL cs (occR cs cell) (cfR cs cell (reach q)) false)) q)) y x = true ∨ ∃ n ∈ cfR cs cell (reach q), gb (bits (rvR cs cell n q)) y x = true := by
 obtain ⟨hq, hk, er⟩ := reach_val hr
 have fre : ∀ n ∈ cfR cs cell (reach q), Fre cs cell n q.value := fun n hn => by
  obtain ⟨h1, h2⟩ := cf_mem hn
  rw [er] at h2
  exact fre_of h1 h2
 have rve : ∀ n ∈ cfR cs cell (reach q), rvE cs cell n q = 0 := fun n hn => rv_ok hz hr (cf_mem hn).1 (cf_mem hn).2
 rw [show flyL cs cell = layL (flatL cs (occR cs cell)) by rw [flyL, decide_eq_true hz, cond_true, shR_ok hz]]
 have near : ∀ n ∈ cfR cs cell (reach q), inR (wideR (plN cs cell n) q.value) y x = true -> (gb (bits (rmL (layL (flatL cs (occR cs cell))) q)) y x = true ↔ gb (bits (rmL (layL (elM cs cell n)) q)) y x = true) := fun n hn hc => by
  refine rm_win hq hk hy hx fun s hs => ⟨fun h => ?_, fun h => (flat_split (ls := [n])).2 (.inr ⟨n, by simp, (el_flat hz (fre n hn).at_ (fre n hn).sh).2 h⟩)⟩
  rcases (flat_split (ls := [n])).1 h with h | ⟨m, hm, h⟩
  ·exact absurd hs (win_far ((fre n hn).dist s h) hc)
  ·rw [List.mem_singleton.1 hm] at h
   exact (el_flat hz (fre n hn).at_ (fre n hn).sh).1 h
 by_cases c : ∃ n ∈ cfR cs cell (reach q), inR (wideR (plN cs cell n) q.value) y x = true
 ·obtain ⟨n, hn, hc⟩ := c
  have hrest : gb (bits (rmL (layL (selL cs (occR cs cell) (cfR cs cell (reach q)) false)) q)) y x = false := rm_far hq hk hy hx fun s hs => win_far ((fre n hn).dist s (rest_one hs hn)) hc
  constructor
  ·intro h
   exact .inr ⟨n, hn, (rv_gb hz hq hk (rve n hn) (fre n hn) hy hx).2 ((near n hn hc).1 h)⟩
  ·rintro (h | ⟨m, hm, h⟩)
   ·rw [hrest] at h; cases h
   ·have h := (rv_gb hz hq hk (rve m hm) (fre m hm) hy hx).1 h
    cases hc' : inR (wideR (plN cs cell m) q.value) y x with
    | true => exact (near m hm hc').2 h
    | false => rw [rm_far hq hk hy hx fun s hs => win_own (el_own hz (fre m hm) s hs) hc'] at h; cases h
 ·have hno : ∀ n ∈ cfR cs cell (reach q), ∀ s ∈ elM cs cell n, ¬ Win q.value y x s := fun n hn s hs => by
   refine win_own (el_own hz (fre n hn) s hs) ?_
   cases hc' : inR (wideR (plN cs cell n) q.value) y x with
   | true => exact absurd ⟨n, hn, hc'⟩ c
   | false => rfl
  have hrest : gb (bits (rmL (layL (flatL cs (occR cs cell))) q)) y x = true ↔ gb (bits (rmL (layL (selL cs (occR cs cell) (cfR cs cell (reach q)) false)) q)) y x = true := by
   refine rm_win hq hk hy hx fun s hs => ⟨fun h => ?_, fun h => flat_split.2 (.inl h)⟩
   rcases (flat_split (ls := cfR cs cell (reach q))).1 h with h | ⟨n, hn, h⟩
   ·exact h
   ·exact absurd hs (hno n hn s ((el_flat hz (fre n hn).at_ (fre n hn).sh).1 h))
  rw [hrest]
  constructor
  ·exact .inl
  ·rintro (h | ⟨m, hm, h⟩)
   ·exact h
   ·have h := (rv_gb hz hq hk (rve m hm) (fre m hm) hy hx).1 h
    rw [rm_far hq hk hy hx (hno m hm)] at h; cases h
noncomputable def accU (a : List Rect) (f : Nat -> List Rect) : Nat -> List Rect
  | 0 => a
  | i + 1 => opR (fun p q => p || q) (accU a f i) (f i)
theorem accU_gb {a : List Rect} {f : Nat -> List Rect} (ha : isReg a = true) (hf : ∀ i, isReg (f i) = true) : ∀ i, isReg (accU a f i) = true ∧ ∀ y x, y < 80 -> x < 80 -> (gb (bits (accU a f i)) y x = true ↔ gb (bits a) y x = true ∨ ∃ j, j < i ∧ gb (bits (f j)) y x = true)
 | 0 => ⟨ha, fun y x _ _ => by simp [accU]⟩
 | i + 1 => by
  obtain ⟨h1, h2⟩ := accU_gb ha hf i
  have e : accU a f (i + 1) = canon (zipB (fun p q => p || q) (bits (accU a f i)) (bits (f i))) := by
   rw [accU, opR, h1, hf]; rfl
  have hl : (zipB (fun p q => p || q) (bits (accU a f i)) (bits (f i))).length = 6400 := zipB_len (bits_length _) (bits_length _)
  rw [e]
  refine ⟨isReg_canon hl, fun y x hy hx => ?_⟩
  rw [bits_canon hl, gb_zip (bits_length _) (bits_length _) hy hx, Bool.or_eq_true, h2 y x hy hx]
  constructor
  ·rintro ((h | ⟨j, hj, h⟩) | h)
   ·exact .inl h
   ·exact .inr ⟨j, by omega, h⟩
   ·exact .inr ⟨i, by omega, h⟩
  ·rintro (h | ⟨j, hj, h⟩)
   ·exact .inl (.inl h)
   ·by_cases c : j = i
    ·subst c; exact .inr h
    ·exact .inl (.inr ⟨j, by omega, h⟩)
theorem rvR_reg (cs : List ECell) (cell n : Int) (q : Rule) : isReg (rvR cs cell n q) = true := by
 unfold rvR; split
 ·unfold movedR
  cases movedOk (elA cs cell n).place (rmL (flyL cs (elA cs cell n).cell) q)
  ·exact isReg_nil
  ·exact isReg_canon (bits_length _)
 ·exact isReg_nil
theorem cf_rest {cs : List ECell} {cell v : Int} (hz : shE cs cell = 0) : rsE cs cell (cfR cs cell v) = 0 := by
 have hb : elBad cs cell (cfR cs cell v) = false := by
  rw [elBad, List.any_eq_false]
  intro n hn
  have := (cf_mem hn).1
  simp [within]; omega
 have hi : incr (cfR cs cell v) = true := by
  by_cases c : cfE cs cell v = 0
  ·rw [cfR, decide_eq_true c, cond_true, incr, decide_eq_true_iff]
   have hp : (cfTo cs cell v (elN cs cell)).Pairwise (· < ·) := by
    rw [cfTo, List.pairwise_map]
    refine List.Pairwise.imp (R := (· < ·)) (fun h => by omega) ?_
    exact List.Pairwise.filter _ List.pairwise_lt_range
   intro i hi
   have := List.pairwise_iff_getElem.1 hp i (i + 1) (by omega) (by omega) (by omega)
   rwa [gd_eq (by omega), gd_eq (by omega)]
  ·rw [cfR, decide_eq_false c]; rfl
 rw [rsE, decide_eq_true hz, hi, hb]; rfl
theorem cf_all {cs : List ECell} {cell : Int} {q : Rule} (hz : shE cs cell = 0) (hr : 0 <= reach q) : accU (rmL (rLay cs cell (cfR cs cell (reach q))) q) (fun i => rvR cs cell (gd (cfR cs cell (reach q)) i) q) (cfR cs cell (reach q)).length = rmL (flyL cs cell) q := by
 rw [rLay_ok (cf_rest hz)]
 obtain ⟨h1, h2⟩ := accU_gb (rmL_reg (layL (selL cs (occR cs cell) (cfR cs cell (reach q)) false)) q) (f := fun i => rvR cs cell (gd (cfR cs cell (reach q)) i) q) (fun i => rvR_reg _ _ _ _) (cfR cs cell (reach q)).length
 rw [<- isReg_eq h1, <- isReg_eq (rmL_reg (flyL cs cell) q)]
 congr 1
 refine gb_ext (bits_length _) (bits_length _) fun y x hy hx => ?_
 rw [Bool.eq_iff_iff, h2 y x hy hx, cf_union hz hr hy hx]
 constructor
 ·rintro (h | ⟨j, hj, h⟩)
  ·exact .inl h
  ·exact .inr ⟨_, gd_mem hj, h⟩
 ·rintro (h | ⟨n, hn, h⟩)
  ·exact .inl h
  ·obtain ⟨j, hj, rfl⟩ := List.getElem_of_mem hn
   exact .inr ⟨j, hj, by rw [gd_eq hj]; exact h⟩
theorem WP.loop5 {P : Program} {n : Nat} {Q : Post} {σ : Nat -> Value} {G : Gh} {L : List Ch} {c : Code} (keep : List Nat) {A B D E F : Type} (J : A -> B -> D -> E -> F -> Prop) (S : A -> B -> D -> E -> F -> List (Nat × Value)) (C : A -> B -> D -> E -> F -> List Ch) (μ : A -> B -> D -> E -> F -> Nat) (a0 : A) (b0 : B) (d0 : D) (e0 : E) (f0 : F) (j0 : J a0 b0 d0 e0 f0) (h0 : HasV σ (S a0 b0 d0 e0 f0)) (p0 : Cv L (C a0 b0 d0 e0 f0))
  (round : ∀ a b d e f τ, J a b d e f -> WP P n c (thenP (fun σ' G' L' => G' = G ∧ ∃ a' b' d' e' f', J a' b' d' e' f' ∧ HasV σ' (S a' b' d' e' f') ∧ Keeps σ' σ keep ∧ Cv L' (C a' b' d' e' f') ∧ μ a' b' d' e' f' < μ a b d e f) Q) (upds (updk τ σ keep) (S a b d e f)) G (C a b d e f)) : WP P n (.loop c) Q σ G L :=
 WP.loop0 keep (A := A × B × D × E × F) (fun x => J x.1 x.2.1 x.2.2.1 x.2.2.2.1 x.2.2.2.2) (fun x => S x.1 x.2.1 x.2.2.1 x.2.2.2.1 x.2.2.2.2) (fun x => C x.1 x.2.1 x.2.2.1 x.2.2.2.1 x.2.2.2.2) (fun x => μ x.1 x.2.1 x.2.2.1 x.2.2.2.1 x.2.2.2.2) (a0, b0, d0, e0, f0) j0 h0 p0 fun x τ j =>
  WP.mono (round x.1 x.2.1 x.2.2.1 x.2.2.2.1 x.2.2.2.2 τ j) fun e σ G L hq => by
   cases e with
   | normal => obtain ⟨e, a', b', d', e', f', h⟩ := hq; exact ⟨e, (a', b', d', e', f'), h⟩
   | _ => exact hq
set_option maxHeartbeats 4000000
theorem union1_s {p q : Bool} (k : R (.bool (p || q)) G L) : CallT Tryz.prog 53 #[.bool p, .bool q] G L R := by
 refine CallT.enter (args := _) Tryz.func53 rfl rfl (by kernel_rfl) rfl ?_
 refine WP.sr (RG.br rfl (RG.nil (WP.sr (RG.bl rfl (RG.bl rfl ?_)))))
 refine RG.g rfl (fun hp => (PV.mvB (.inl rfl) rfl)) ?_
 refine RG.p (PV.pickO rfl rfl rfl (fun hq => gt' (geqF hq))) (RG.br rfl (RG.nil ?_))
 exact WP.ret ⟨_, _, rv rfl rfl, Cv.p, k⟩
theorem union_s {v u : Value} {xs ys : List Rect} (h1 : Rs G L rectT v xs) (h2 : Rs G L rectT u ys) (k : ∀ v', R v' G (osl 101 rectT v' (opR (fun p q => p || q) xs ys) :: L)) : CallT Tryz.prog 19 #[v, u] G L R := by
 refine CallT.enter (args := _) Tryz.func19 rfl rfl (by kernel_rfl) rfl ?_
 refine WP.sr (RG.p (PV.asg rfl rfl) (RG.nil (WP.sr (RG.p (PV.move (v := v) rfl rfl) (RG.p (PV.move (v := u) rfl rfl) ?_)))))
 refine RG.callF (vs := [v, u, _]) rfl rfl En52 rfl (combine_s (f := fun p q => p || q) (Rs.up h1) (Rs.up h2) (fun p q => CB.mk0 En53 fun L' R c k => union1_s k) (fun v7 => ?_))
 refine RG.p (PV.asg (v := v7) rfl rfl) (RG.nil ?_)
 exact WP.ret ⟨_, _, rv rfl rfl, Cv.p, k v7⟩
theorem isReg_s {v : Value} {xs : List Rect} (h1 : Rs G L rectT v xs) (k : R (.bool (isReg xs)) G L) : CallT Tryz.prog 22 #[v] G L R := by
 refine CallT.enter (args := _) Tryz.func22 rfl rfl (by kernel_rfl) rfl ?_
 refine WP.sr (RG.br rfl (RG.nil (WP.sr (RG.p (PV.move (v := v) rfl rfl) ?_))))
 refine RG.callF (vs := [v]) rfl rfl En54 rfl (l03Ok_s (Rs.up h1) ?_)
 refine RG.br rfl (RG.nil ?_)
 exact WP.ret ⟨_, _, rv rfl rfl, Cv.p, k⟩
theorem cfE_zero {cs : List ECell} {cell r : Int} (h : cfE cs cell r = 0) : shE cs cell = 0 := by
 by_cases c : shE cs cell = 0
 ·exact c
 ·rw [cfE, decide_eq_false c] at h
  exact absurd h c
theorem law_FnContextFree {cv : Value} {bs : List UInt8} (hcode : SL G byteT cv bs) (k : R (.bool true) G L) : CallT Tryz.prog 4 #[cv] G L R := by
 refine CallT.enter (args := _) Tryz.func4 rfl rfl (by kernel_rfl) rfl ?_
 refine WP.sr (RG.br rfl (RG.nil (WP.seq (WP.sr (RG.p (PV.move (v := cv) rfl rfl) ?_)))))
 refine RG.callF (vs := [cv]) rfl rfl En6 rfl (big_s hcode ?_)
 refine RG.nil ?_
 refine WP.cond rfl (fun h1 => ?_) fun h1 => ?_
 ·refine WP.seq ?_
  refine WP.region (RG.br rfl (RG.nil ?_))
  exact WP.ret ⟨_, _, rv rfl rfl, Cv.p, k⟩
 ·skip
  refine WP.skip (WP.sr (RG.p (PV.move (v := cv) rfl rfl) ?_))
  refine RG.callF (vs := [cv]) rfl rfl En13 rfl (drawHM_f hcode (fun v1 xs1 n1 q1 e1 s1 l1 => ?_))
  refine RG.p (PV.move (v := .tuple _) rfl rfl) (RG.p (PV.ext rfl rfl rfl) (RG.p (PV.ext rfl rfl rfl) (RG.p (PV.ext rfl rfl rfl) ?_)))
  refine RG.ot rfl (OT.alloc rfl Zr26 fun b3 => ?_)
  refine RG.ot rfl (OT.alloc rfl Zr42 fun b5 => ?_)
  refine RG.ot rfl (OT.storeW (vs := [_]) rfl Sz26 rfl rfl (Cl.c rfl) rfl rfl (OneC.sl (SlF.o (v := v1)) OneC.nil) ?_)
  refine RG.mr rfl ?_
  refine RG.ot rfl (OT.storeW (vs := [vi _, vi _, vi _, vi _, vi _]) rfl Sz42 rfl rfl (Cl.c rfl) rfl rfl (OneC.c rfl) ?_)
  refine RG.nil (WP.seq ?_)
  refine WP.regionH0 (.q 0 (.q 1 (.q 2 (.l 3 (.l 4 (.q 5 (.q 6 (.q 7 (.q 8 (.q 9 Sch.nil)))))))))) (by kernel_rfl) (by kernel_rfl) (by kernel_rfl) rfl ?_
  refine RH.w rfl rfl (PV.loadW rfl Ag26 rfl rfl) (RH.w rfl rfl (PV.mvI (.inl rfl) rfl) (RH.w rfl rfl (PV.loadW rfl Ag42 rfl rfl) ?_))
  refine RH.ot rfl rfl (OT.callF (vs := [_]) rfl En15 rfl (reach_s (kp ?_)))
  refine RH.ot rfl rfl (OT.callF (vs := [_, _, _]) rfl En14 rfl (allFree_r (l := ⟨⟨v1, xs1⟩⟩) ⟨Rs.o, RsE.o, RsE.o, RsE.o⟩ s1.lenC (fun w32 => have hfc : (cfR (erCls xs1) n1 (reach q1)).length <= 128 := cfR_len _ _ _; (kp ?_))))
  refine RH.w rfl rfl (PV.move (v := .tuple _) rfl rfl) (RH.w rfl rfl (PV.ext (v := w32) rfl rfl rfl) (RH.w rfl rfl (PV.ext rfl rfl rfl) (RH.w rfl rfl (PV.asg (v := w32) rfl rfl) (RH.w rfl rfl (PV.mvI (.inr rfl) rfl) (RH.nil (WP.seq (WP.sr (RG.ml rfl (RG.p (PV.neq rfl rfl rfl) (RG.bl rfl ?_))))))))))
  refine RG.spl (t := 37) rfl (fun g1 => ?_) (fun g1 => ?_)
  ·refine RG.skip rfl rfl rfl (gneF g1) ?_
   refine RG.skip rfl rfl rfl (gneF g1) ?_
   refine RG.skip rfl rfl rfl (gneF g1) ?_
   refine RG.p (PV.pickT rfl rfl g1 rfl) (RG.nil ?_)
   refine WP.cond rfl (fun h2 => ?_) fun h2 => ?_
   ·refine WP.seq ?_
    refine WP.region (RG.br rfl (RG.nil ?_))
    exact WP.ret ⟨_, _, rv rfl rfl, Cv.p, k⟩
   ·exfalso
    simp [g1] at h2
  ·refine RG.take rfl rfl rfl g1 ?_
   refine RG.p (PV.loadW rfl Ag42 rfl rfl) ?_
   refine RG.take rfl rfl rfl g1 ?_
   refine RG.callF (vs := [_]) rfl rfl En15 rfl (reach_s ?_)
   refine RG.take rfl rfl rfl g1 ?_
   refine RG.p (PV.lss rfl rfl rfl) (RG.p (PV.pickE rfl rfl g1 rfl) (RG.nil ?_))
   have hcz : cfE (erCls xs1) n1 (reach q1) = 0 := by simpa using g1
   refine WP.cond rfl (fun h2 => ?_) fun h2 => ?_
   ·refine WP.seq ?_
    refine WP.region (RG.br rfl (RG.nil ?_))
    exact WP.ret ⟨_, _, rv rfl rfl, Cv.p, k⟩
   ·have hr : 0 <= reach q1 := by simpa using h2
    have hz := cfE_zero hcz
    have hvr := reach_valid hr
    have hrs := cf_rest (v := reach q1) hz
    have hlr : isLay (rLay (erCls xs1) n1 (cfR (erCls xs1) n1 (reach q1))) = true := by rw [rLay_ok hrs]; exact lay_isLay _
    refine WP.skip (WP.seq ?_)
    refine WP.regionH0 (.q 0 (.q 1 (.q 3 (.l 2 (.l 4 (.l 5 (.q 6 (.q 7 (.q 8 (.q 9 (.q 10 Sch.nil))))))))))) (by kernel_rfl) (by kernel_rfl) (by kernel_rfl) rfl ?_
    refine RH.w rfl rfl (PV.loadW rfl Ag26 rfl rfl) (RH.w rfl rfl (PV.mvI (.inl rfl) rfl) (RH.w rfl rfl (PV.move (v := w32) rfl rfl) ?_))
    refine RH.ot rfl rfl (OT.bslice (F := intT) (els := []) rfl El45 rfl (by decide) rfl (by decide) trivial fun v45 => (kp ?_))
    refine RH.ot rfl rfl (OT.append (v := v45) (u := w32) (F := intT) rfl El45 rfl (by decide) rfl rfl Rs.o (OneL.c (fun _ => rfl)) rfl (by first | omega | (simp <;> omega)) fun v47 => (kp ?_))
    refine RH.ot rfl rfl (OT.callF (vs := [_, _, v47]) rfl En16 rfl (rLay_i (l := ⟨⟨v1, xs1⟩⟩) (ls := cfR (erCls xs1) n1 (reach q1)) ⟨Rs.o, RsE.o, RsE.o, RsE.o⟩ s1.lenC Rs.o (fun w48 ys hy => (kp ?_))))
    refine RH.w rfl rfl (PV.move (v := .tuple _) rfl rfl) (RH.w rfl rfl (PV.ext (v := w48) rfl rfl rfl) (RH.w rfl rfl (PV.ext rfl rfl rfl) (RH.w rfl rfl (PV.asg (v := w48) rfl rfl) (RH.w rfl rfl (PV.mvI (.inr rfl) rfl) (RH.nil (WP.sr (RG.p (PV.move (v := w48) rfl rfl) (RG.p (PV.loadW rfl Ag42 rfl rfl) ?_))))))))
    refine RG.callF (vs := [w48, _]) rfl rfl En17 rfl (ruleM_i Rs.o RsE.o (by rw [hy]; exact hlr) hvr (fun v53 => ?_))
    refine RG.p (PV.asg (v := v53) rfl rfl) (RG.nil (WP.seq (WP.sr (RG.mr rfl (RG.nil (WP.block ?_))))))
    rw [hy] at *
    have hsa : shE (erCls xs1) n1 = 0 := hz
    refine WP.loop5 [0, 3, 5, 6, 9] (fun (i : Nat) (u : Value) (v : Value) (xs : List Cell) (A : List Rect) => i <= (cfR (erCls xs1) n1 (reach q1)).length ∧ erCls xs = erCls xs1 ∧ A = accU (rmL (rLay (erCls xs1) n1 (cfR (erCls xs1) n1 (reach q1))) q1) (fun i => rvR (erCls xs1) n1 (gd (cfR (erCls xs1) n1 (reach q1)) i) q1) i) (fun (i : Nat) (u : Value) (v : Value) (xs : List Cell) (A : List Rect) => [(11, vi i), (10, u), (4, vi n1)]) (fun (i : Nat) (u : Value) (v : Value) (xs : List Cell) (A : List Rect) => osl 101 rectT u A :: osl 2 intT w32 (cfR (erCls xs1) n1 (reach q1)) :: osl 95 cellT v (xs) :: bagS 109 shapeT (shs (xs)) :: bagS 182 labelT (lbs (xs)) :: bagS 111 instT (ins (xs)) :: blk b3 26 [v] :: blk b5 42 (ruleT.enc q1) :: L) (fun (i : Nat) (u : Value) (v : Value) (xs : List Cell) (A : List Rect) => (cfR (erCls xs1) n1 (reach q1)).length - i) 0 v53 v1 xs1 (rmL (rLay (erCls xs1) n1 (cfR (erCls xs1) n1 (reach q1))) q1) ⟨by omega, rfl, rfl⟩ ⟨rfl, rfl, rfl, trivial⟩ Cv.p ?_
    rintro i u v xs A τ ⟨hi, hx, hA⟩
    refine WP.seq (WP.sr (RG.ml rfl (RG.p (PV.move (v := w32) rfl rfl) (RG.p (PV.len (v := w32) rfl Tryz.underlying45 rfl SlF.o) (RG.p (PV.lss rfl rfl rfl) (RG.nil ?_))))))
    refine WP.cond rfl (fun h3 => ?_) fun h3 => ?_
    ·have h3 := odt h3
     have hrz : rvE (erCls xs1) n1 (gd (cfR (erCls xs1) n1 (reach q1)) i) q1 = 0 := rv_ok hz hr (cf_mem (gd_mem (by omega))).1 (cf_mem (gd_mem (by omega))).2
     refine WP.skip (WP.seq (WP.block (WP.sr (RG.p (PV.move (v := cv) rfl rfl) ?_))))
     refine RG.callF (vs := [cv]) rfl rfl En13 rfl (drawHM_f hcode (fun v2 xs2 n2 q2 e2 s2 l2 => have e12 := e1.symm.trans e2; have ea : erCls xs2 = erCls xs1 := (congrArg (fun p => p.1.1) e12).symm; have eb : n2 = n1 := (congrArg (fun p => p.1.2) e12).symm; have ec : q2 = q1 := (congrArg (fun p => p.2) e12).symm; ?_))
     refine RG.p (PV.move (v := .tuple _) rfl rfl) (RG.p (PV.ext rfl rfl rfl) (RG.p (PV.ext rfl rfl rfl) (RG.p (PV.ext rfl rfl rfl) ?_)))
     refine RG.ot rfl (OT.storeW (vs := [_]) rfl Sz26 rfl rfl (Cl.c rfl) rfl rfl (OneC.sl (SlF.o (v := v2)) OneC.nil) ?_)
     refine RG.mr rfl ?_
     refine RG.ot rfl (OT.storeW (vs := [vi _, vi _, vi _, vi _, vi _]) rfl Sz42 rfl rfl (Cl.c rfl) rfl rfl (OneC.c rfl) ?_)
     refine RG.nil (WP.seq ?_)
     refine WP.regionH0 (.q 0 (.q 1 (.q 2 (.q 3 (.q 4 (.q 5 (.q 6 (.l 7 (.q 8 (.q 9 (.q 10 (.q 11 (.q 12 Sch.nil))))))))))))) (by kernel_rfl) (by kernel_rfl) (by kernel_rfl) rfl ?_
     refine RH.w rfl rfl (PV.loadW rfl Ag26 rfl rfl) (RH.w rfl rfl (PV.mvI (.inl rfl) rfl) (RH.w rfl rfl (PV.move (v := w32) rfl rfl) (RH.w rfl rfl (PV.mvI (.inl rfl) rfl) (RH.w rfl rfl (PV.idxS (v := w32) rfl Is45 rfl SlF.o rfl rfl (by omega)) (RH.w rfl rfl (PV.loadE1 rfl Sc2 rfl rfl (El.o (getG (by omega))) rfl) (RH.w rfl rfl (PV.loadW rfl Ag42 rfl rfl) ?_))))))
     refine RH.ot rfl rfl (OT.callF (vs := [_, _, _, _]) rfl En18 rfl (rv_i (l := ⟨⟨v2, xs2⟩⟩) (q := q2) ⟨Rs.o, RsE.o, RsE.o, RsE.o⟩ s2.lenC (fun w74 => (kp ?_))))
     refine RH.w rfl rfl (PV.move (v := .tuple _) rfl rfl) (RH.w rfl rfl (PV.ext (v := w74) rfl rfl rfl) (RH.w rfl rfl (PV.ext rfl rfl rfl) (RH.w rfl rfl (PV.asg (v := w74) rfl rfl) (RH.w rfl rfl (PV.mvI (.inr rfl) rfl) (RH.nil (WP.seq (WP.sr (RG.ml rfl (RG.p (PV.neq rfl rfl rfl) (RG.nil ?_))))))))))
     refine WP.cond rfl (fun h4 => ?_) fun h4 => ?_
     ·exfalso
      simp [ea, eb, ec, hrz] at h4
     ·skip
      refine WP.skip (WP.region (RG.p (PV.move (v := u) rfl rfl) (RG.p (PV.move (v := w74) rfl rfl) ?_)))
      refine RG.callF (vs := [u, w74]) rfl rfl En19 rfl (union_s Rs.o Rs.o (fun v81 => ?_))
      refine RG.p (PV.asg (v := v81) rfl rfl) (RG.nil (WP.region (RG.ml rfl (RG.p (PV.add rfl rfl rfl (by omega)) (RG.mr rfl (RG.nil ?_))))))
      subst eb ec
      exact ⟨rfl, i + 1, v81, v2, xs2, (opR (fun p q => p || q) A (rvR (erCls xs2) n2 (gd (cfR (erCls xs1) n2 (reach q2)) i) q2)), ⟨by omega, ea, by rw [hA, ea]; rfl⟩, ⟨rfl, rfl, rfl, trivial⟩, ⟨rfl, rfl, rfl, rfl, rfl, trivial⟩, Cv.p, by omega⟩
    ·have h3 := odf h3
     have hi' : i = (cfR (erCls xs1) n1 (reach q1)).length := by omega
     subst hi'
     refine WP.exit (WP.sr (RG.p (PV.move (v := cv) rfl rfl) ?_))
     refine RG.callF (vs := [cv]) rfl rfl En13 rfl (drawHM_f hcode (fun v2 xs2 n2 q2 e2 s2 l2 => have e12 := e1.symm.trans e2; have ea : erCls xs2 = erCls xs1 := (congrArg (fun p => p.1.1) e12).symm; have eb : n2 = n1 := (congrArg (fun p => p.1.2) e12).symm; have ec : q2 = q1 := (congrArg (fun p => p.2) e12).symm; ?_))
     refine RG.p (PV.move (v := .tuple _) rfl rfl) (RG.p (PV.ext rfl rfl rfl) (RG.p (PV.ext rfl rfl rfl) (RG.p (PV.ext rfl rfl rfl) ?_)))
     refine RG.ot rfl (OT.storeW (vs := [_]) rfl Sz26 rfl rfl (Cl.c rfl) rfl rfl (OneC.sl (SlF.o (v := v2)) OneC.nil) ?_)
     refine RG.mr rfl ?_
     refine RG.ot rfl (OT.storeW (vs := [vi _, vi _, vi _, vi _, vi _]) rfl Sz42 rfl rfl (Cl.c rfl) rfl rfl (OneC.c rfl) ?_)
     refine RG.nil (WP.sr (RG.p (PV.loadW rfl Ag26 rfl rfl) (RG.ml rfl (RG.p (PV.loadW rfl Ag42 rfl rfl) ?_))))
     refine RG.callF (vs := [_, _, _]) rfl rfl En20 rfl (hm_i (l := ⟨⟨v2, xs2⟩⟩) (q := q2) ⟨Rs.o, RsE.o, RsE.o, RsE.o⟩ s2.lenC (fun w92 => ?_))
     refine RG.p (PV.move (v := .tuple _) rfl rfl) (RG.p (PV.ext (v := w92) rfl rfl rfl) (RG.p (PV.ext rfl rfl rfl) (RG.p (PV.ext rfl rfl rfl) (RG.p (PV.asg (v := w92) rfl rfl) (RG.mr rfl (RG.mr rfl (RG.nil (WP.sr (RG.p (PV.loadW rfl Ag26 rfl rfl) (RG.ml rfl ?_))))))))))
     refine RG.callF (vs := [_, _]) rfl rfl En10 rfl (fly_i (l := ⟨⟨v2, xs2⟩⟩) ⟨Rs.o, RsE.o, RsE.o, RsE.o⟩ s2.lenC (fun w99 zs hzs => ?_))
     refine RG.p (PV.move (v := .tuple _) rfl rfl) (RG.p (PV.ext (v := w99) rfl rfl rfl) (RG.p (PV.ext rfl rfl rfl) (RG.p (PV.asg (v := w99) rfl rfl) (RG.mr rfl (RG.nil (WP.sr (RG.ml rfl (RG.p (PV.eql rfl rfl rfl) (RG.bl rfl ?_)))))))))
     refine RG.spl (t := 104) rfl (fun g1 => ?_) (fun g1 => ?_)
     ·have hme : hmE (erCls xs2) n2 q2 = 0 := by rw [ea, eb, ec, hmE, if_pos hz, if_pos hvr]
      have hmr : hmR (erCls xs2) n2 q2 = rmL (flyL (erCls xs1) n1) q1 := by rw [hmR, if_pos hme, ea, eb, ec]
      have hal := cf_all (cs := erCls xs1) (cell := n1) (q := q1) hz hr
      have hmn : hmN (erCls xs2) n2 q2 = (cfR (erCls xs1) n1 (reach q1)).length := by rw [hmN, if_pos hme, ea, eb, ec, cntF2, if_pos hr]
      have hf4 : rmL (er zs) q2 = rmL (flyL (erCls xs1) n1) q1 := by rw [hzs, ea, eb, ec]
      have hsh2 : shE (erCls xs2) n2 = 0 := by rw [ea, eb]; exact hz
      have hd1 : decide (A = hmR (erCls xs2) n2 q2) = true := by rw [hA, hal, hmr]; simp
      have hd2 : decide (hmR (erCls xs2) n2 q2 = rmL (er zs) q2) = true := by rw [hmr, hf4]; simp
      have hd3 : isReg (hmR (erCls xs2) n2 q2) = true := by rw [hmr]; exact rmL_reg _ _
      refine RG.take rfl rfl rfl g1 ?_
      refine RG.ml rfl ?_
      refine RG.take rfl rfl rfl g1 ?_
      refine RG.p (PV.eql rfl rfl rfl) (RG.p (PV.pickT rfl rfl g1 rfl) (RG.bl rfl ?_))
      refine RG.spl (t := 108) rfl (fun g2 => ?_) (fun g2 => ?_)
      ·refine RG.take rfl rfl rfl g2 ?_
       refine RG.ml rfl ?_
       refine RG.take rfl rfl rfl g2 ?_
       refine RG.p (PV.eql rfl rfl rfl) (RG.p (PV.pickT rfl rfl g2 rfl) (RG.bl rfl ?_))
       refine RG.spl (t := 112) rfl (fun g3 => ?_) (fun g3 => ?_)
       ·refine RG.take rfl rfl rfl g3 ?_
        refine RG.ml rfl ?_
        refine RG.take rfl rfl rfl g3 ?_
        refine RG.p (PV.move (v := w32) rfl rfl) ?_
        refine RG.take rfl rfl rfl g3 ?_
        refine RG.p (PV.len (v := w32) rfl Tryz.underlying45 rfl SlF.o) ?_
        refine RG.take rfl rfl rfl g3 ?_
        refine RG.p (PV.eql rfl rfl rfl) (RG.p (PV.pickT rfl rfl g3 rfl) (RG.bl rfl ?_))
        refine RG.spl (t := 118) rfl (fun g4 => ?_) (fun g4 => ?_)
        ·refine RG.take rfl rfl rfl g4 ?_
         refine RG.p (PV.move (v := u) rfl rfl) ?_
         refine RG.take rfl rfl rfl g4 ?_
         refine RG.p (PV.move (v := w92) rfl rfl) ?_
         refine RG.take rfl rfl rfl g4 ?_
         refine RG.callF (vs := [u, w92]) rfl rfl En21 rfl (sameRs_s Rs.o Rs.o ?_)
         refine RG.p (PV.pickT rfl rfl g4 rfl) (RG.bl rfl ?_)
         refine RG.spl (t := 123) rfl (fun g5 => ?_) (fun g5 => ?_)
         ·refine RG.take rfl rfl rfl g5 ?_
          refine RG.p (PV.move (v := w92) rfl rfl) ?_
          refine RG.take rfl rfl rfl g5 ?_
          refine RG.p (PV.move (v := w99) rfl rfl) ?_
          refine RG.take rfl rfl rfl g5 ?_
          refine RG.p (PV.loadW rfl Ag42 rfl rfl) ?_
          refine RG.take rfl rfl rfl g5 ?_
          refine RG.callF (vs := [w99, _]) rfl rfl En17 rfl (ruleM_i Rs.o RsE.o (by rw [hzs, ea, eb]; exact fly_isLay hz) (by rw [ec]; exact hvr) (fun v127 => ?_))
          refine RG.take rfl rfl rfl g5 ?_
          refine RG.callF (vs := [w92, v127]) rfl rfl En21 rfl (sameRs_s Rs.o Rs.o ?_)
          refine RG.p (PV.pickT rfl rfl g5 rfl) (RG.bl rfl ?_)
          refine RG.spl (t := 130) rfl (fun g6 => ?_) (fun g6 => ?_)
          ·refine RG.take rfl rfl rfl g6 ?_
           refine RG.p (PV.move (v := w92) rfl rfl) ?_
           refine RG.take rfl rfl rfl g6 ?_
           refine RG.callF (vs := [w92]) rfl rfl En22 rfl (isReg_s Rs.o ?_)
           refine RG.p (PV.pickT rfl rfl g6 rfl) (RG.br rfl (RG.nil ?_))
           refine WP.ret ?_
           rw [<- hd3] at k
           exact ⟨_, _, rv rfl rfl, Cv.p, k⟩
          ·exfalso
           rw [hd2] at g6
           cases g6
         ·exfalso
          rw [hd1] at g5
          cases g5
        ·exfalso
         simp [hmn] at g4
       ·exfalso
        simp [hsh2] at g3
      ·exfalso
       simp [hme] at g2
     ·exfalso
      simp [hrs] at g1
open Go Go.ChangeShapes Go.WideShapes Go.ChangeAt Go.RowKit Go.Deep
def Gw (w : World) : Gh := ⟨wh w, w.os, w.tape, w.output, w.drawn⟩
theorem St.start (w : World) : St (Gw w) [] w := ⟨fun _ => none, trivial, Hp.le_refl _, (fun _ _ h => by cases h), fun _ => .inl rfl, rfl, rfl, rfl, Nat.le_refl _⟩
theorem St.below {W w' : World} {G : Gh} {L : List Ch} (l : Gh.le (Gw W) G) (h : St G L w') : Below W.heap.size W w' := by
 obtain ⟨hp, s, l1, l2, d, ok⟩ := h
 have ok' := Gh.le_ok l ok
 have up := Hp.le_trans l.1 l1
 have key : ∀ k, k < W.heap.size -> w'.heap[k]? = W.heap[k]? := fun k hk => by
  have : (Gw W).f k = some W.heap[k] := by simp [Gw, wh, hk]
  have h2 := up k _ this
  simp only [wh] at h2
  rw [h2]; simp [hk]
 refine ⟨ok'.1, ok'.2.1, ok'.2.2.1, ?_, key⟩
 by_cases h0 : W.heap.size = 0
 ·omega
 ·have := key (W.heap.size - 1) (by omega)
  rw [Array.getElem?_eq_getElem (by omega : W.heap.size - 1 < W.heap.size)] at this
  have := (Array.getElem?_eq_some_iff.1 this).1
  omega
def Opn {ρ : Type} (P : Program) (t : TypeId) (F : FT ρ) (ok : Gh -> ρ -> Prop) : Prop :=
  ∀ {H : Type} {enc : TypeId × Value -> H} {w : World} {fuel : Nat} {cs : List Value} {x : DataW H × List MemPlace}, DataW.trod enc P w 0 (fun _ => true) true fuel t cs = some x -> ∃ a : ρ, cs = F.enc a ∧ ok (Gw w) a
def okL {ρ : Type} [Inhabited ρ] (F : FT ρ) (ok : Gh -> ρ -> Prop) (G : Gh) (v : Value) : Prop := ∃ xs : List ρ, SL G F v xs ∧ ∀ i, i < xs.length -> ok G (gd xs i)
section
variable {P : Program} {t e : TypeId}
theorem cells_get {w : World} {a : Addr} {n : Nat} {cs : List Value} (h : w.cells? 0 a n = some cs) : cs.length = n ∧ ∀ j c, cs[j]? = some c -> w.cell? (a.add j) = some c := by
 obtain ⟨_, h1, h2⟩ := World.cells?_some h
 refine ⟨h1, fun j c hc => ?_⟩
 have hj := (List.getElem?_eq_some_iff.1 hc).1
 rw [h2 j (by omega), hc]
theorem opnL {ρ : Type} [Inhabited ρ] {F : FT ρ} {ok : Gh -> ρ -> Prop} (ht : P.underlying t = some (.slice e)) (hE : Opn P e F ok) (hc : P.cellsOf e = F.sz) (h0 : 0 < F.sz) : Opn P t rawT (okL F ok) := fun {H enc w fuel cs x} h => by
 rcases open_slice ht h with ⟨rfl, _⟩ | ⟨a, len, cap, m, n, D, Pl, rfl, _, hl, hm, hmm, _, hel⟩
 ·exact ⟨_, rfl, [], ⟨⟨0, Nat.le_refl _, Nat.zero_le _, .inr ⟨⟨_, rfl⟩, rfl⟩⟩, fun j c hj => by simp [FT.flat] at hj⟩, fun i hi => by simp at hi⟩
 have hmcap : m = cap := by simpa using hmm
 refine ⟨.slice (some a) len cap, rfl, ?_⟩
 have hall : ∀ i, i < len -> ∃ r : ρ, w.cells? 0 (a.add (i * F.sz)) F.sz = some (F.enc r) ∧ ok (Gw w) r := fun i hi => by
  obtain ⟨cs', h1, h2⟩ := hel i (by omega)
  obtain ⟨r, rfl, hr⟩ := hE h2
  rw [hc] at h1
  exact ⟨r, h1, hr⟩
 have : ∃ f : Nat -> ρ, ∀ i, i < len -> w.cells? 0 (a.add (i * F.sz)) F.sz = some (F.enc (f i)) ∧ ok (Gw w) (f i) := choose_lt hall
 obtain ⟨f, hf⟩ := this
 have hlen : ((List.range len).map f).length = len := by simp
 have hget : ∀ i, i < len -> ((List.range len).map f)[i]? = some (f i) := fun i hi => by simp [hi]
 have hsp : len ≠ 0 -> a.spot = none := fun hz => by
  obtain ⟨h1, _⟩ := hf 0 (by omega)
  obtain ⟨hl1, hg⟩ := cells_get h1
  cases hq : (F.enc (f 0))[0]? with
  | none => rw [List.getElem?_eq_none_iff] at hq; omega
  | some c =>
   have hcell := hg 0 c hq
   cases hs : a.spot with
   | none => rfl
   | some s =>
    exfalso
    have h3 : ((a.add (0 * F.sz)).add 0).spot.isSome = true := by simp [Addr.add, hs]
    unfold World.cell? at hcell
    split at hcell
    ·rw [if_pos h3] at hcell; cases hcell
    ·cases hcell
 refine ⟨(List.range len).map f, ⟨⟨cap, by simpa using hl, hm, ?_⟩, ?_⟩, fun i hi => ?_⟩
 ·by_cases hz : len = 0
  ·exact .inr ⟨⟨some a, by simp⟩, by simpa using hz⟩
  ·refine .inl ⟨a.block, a.off, ?_⟩
   have hsp := hsp hz
   simp only [hlen]
   obtain ⟨ab, ao, az⟩ := a
   simp only at hsp
   subst hsp; rfl
 ·intro j c hj
  by_cases hz : len = 0
  ·subst hz; simp [FT.flat] at hj
  have hsp := hsp hz
  have hjl : j < len * F.sz := by
   have := (List.getElem?_eq_some_iff.1 hj).1
   rwa [FT.flat_len, hlen] at this
  have hq : j / F.sz < len := (Nat.div_lt_iff_lt_mul h0).2 hjl
  have hr : j % F.sz < F.sz := Nat.mod_lt _ h0
  have hjd : j / F.sz * F.sz + j % F.sz = j := by rw [Nat.mul_comm]; exact Nat.div_add_mod j F.sz
  obtain ⟨h1, _⟩ := hf (j / F.sz) hq
  obtain ⟨_, hg⟩ := cells_get h1
  have hc' : (F.enc (f (j / F.sz)))[j % F.sz]? = some ((F.enc (f (j / F.sz)))[j % F.sz]'(by rw [F.len]; exact hr)) := List.getElem?_eq_getElem _
  have hfl := F.flat_get (hget _ hq) hc'
  rw [hjd, hj] at hfl
  have hcell := hg _ _ hc'
  obtain ⟨ab, ao, az⟩ := a
  simp only at hsp
  subst hsp
  rw [add_none, add_none, cell_hc, Nat.add_assoc, hjd] at hcell
  simp only [sb, so, Gw]
  rw [hcell]; exact hfl.symm
 ·have hi' : i < len := by simpa using hi
  have : gd ((List.range len).map f) i = f i := by simp [gd, hi']
  rw [this]; exact (hf i hi').2
end
def okSl {ρ : Type} [Inhabited ρ] (F : FT ρ) (ok : Gh -> ρ -> Prop) (G : Gh) (s : Sl ρ) : Prop := SL G F s.v s.xs ∧ ∀ i, i < s.xs.length -> ok G (gd s.xs i)
theorem opnSl {P : Program} {t e : TypeId} {ρ : Type} [Inhabited ρ] {F : FT ρ} {ok : Gh -> ρ -> Prop} (ht : P.underlying t = some (.slice e)) (hE : Opn P e F ok) (hc : P.cellsOf e = F.sz) (h0 : 0 < F.sz) : Opn P t slT (okSl F ok) := fun h => by
 obtain ⟨v, rfl, xs, h1, h2⟩ := opnL ht hE hc h0 h
 exact ⟨⟨v, xs⟩, rfl, h1, h2⟩
section
variable {P : Program} {t e : TypeId} {H : Type} {enc : TypeId × Value -> H} {W : World} {r : Reach} {base : Nat} {v : Value} {d : DataW H} {ps : List MemPlace}
theorem argSl {ρ : Type} {ok : Gh -> Sl ρ -> Prop} (ht : P.underlying t = some (.slice e)) (hO : Opn P t slT ok) (hv : Value.okWide P W r base t v) (h : DataW.Trod enc P W 0 (fun _ => true) true t v d ps) : ∃ s : Sl ρ, v = s.v ∧ ok (Gw W) s := by
 obtain ⟨a, n, c, rfl⟩ := okWide_slice ht hv
 obtain ⟨fuel, hf⟩ := h
 obtain ⟨m, e1, hm⟩ := hO hf
 simp [Value.cells, slT] at e1
 exact ⟨m, e1, hm⟩
theorem trodAll_stays (hl : laidOutB P = true) {W' : World} (hb : Below W.heap.size W W') : ∀ {ts : List TypeId} {vs : List Value} {ds : List (DataW H)} {ps : List MemPlace}, (∀ t ∈ ts, P.readableRec t = true ∧ t < P.types.size) -> (∀ x ∈ ps, x.block < W.heap.size) ->
  DataW.TrodAll enc P W 0 (fun _ => true) true ts vs ds ps -> DataW.TrodAll enc P W' 0 (fun b => decide (b < W.heap.size)) true ts vs ds ps
 | [], [], [], _, _, _, h => h
 | t :: ts, v :: vs, d :: ds, ps, hr, hlt, h => by
  obtain ⟨p, q, h1, h2, rfl⟩ := h
  have := hr t (.head _)
  exact ⟨p, q, Below.trod hl this.1 this.2 h1 hb (fun x hx => hlt x (List.mem_append_left _ hx)), trodAll_stays hl hb (fun t ht => hr t (.tail _ ht)) (fun x hx => hlt x (List.mem_append_right _ hx)) h2, rfl⟩
end
def recsB (P : Program) (ts : List TypeId) : Bool := ts.all fun t => P.readableRec t && Nat.blt t P.types.size
theorem recs_of {P : Program} {ts : List TypeId} (h : recsB P ts = true) : ∀ t ∈ ts, P.readableRec t = true ∧ t < P.types.size := by
 intro t ht
 have := List.all_eq_true.1 h t ht
 simp only [Bool.and_eq_true] at this
 exact ⟨this.1, Nat.le_of_ble_eq_true this.2⟩
theorem law_lifted {H : Type} {enc : TypeId × Value -> H} {C : Checked} {os : Os} {f : FuncId} {fn : Func} {s : ChangeSpec} {tb : TypeId} (own : ownKnob C.prog.godebug = none) (started : os.Started) (noInit : C.prog.inits.idxOf? f = none) (hfn : C.prog.funcs[f]? = some fn) (hl : laidOutB C.prog = true)
  (hvars : s.vars = []) (hr : recsB C.prog fn.params.toList = true) (hres : fn.resultTypes = #[tb]) (htb : C.prog.underlying tb = some .bool)
  (hsp : ∀ ds : List (DataW H), ds.length = fn.params.toList.length -> s.fn H ds = { results := [.lit (.bool true)], args := ds })
  (witness : ∃ (w : World) (tape : Tape) (i : Input), w.os = os ∧ (w.forCall tape i).Shaped C.prog ∧ i.vars = [] ∧ Input.okWide C.prog (w.forCall tape i) .any w.heap.size f i ∧
   s.pre6 enc C.prog fn [] false (w.forCall tape i).memory i.args ∧ ({} : Assume).holds C.prog (lone (Frame.enter C.prog f i.args .normal) [] (w.forCall tape i)))
  (walk : ∀ (W : World) (base : Nat) (args : Array Value) (ds : List (DataW H)) (ps : List MemPlace), (∀ (j : Nat) t v, fn.params[j]? = some t -> args[j]? = some v -> Value.okWide C.prog W .any base t v) ->
   DataW.TrodAll enc C.prog W 0 (fun _ => true) true fn.params.toList args.toList ds ps -> CallT C.prog f args (Gw W) [] fun v G _ => v = .bool true ∧ Gh.le (Gw W) G) :
  ReturnsInHanded {} C os f .any (s.pre6 enc C.prog fn [] false) (s.post enc C.prog fn false true false false) := by
 refine returnsInHanded_of_change own started noInit hfn witness ?_
 intro W base args ds gs before hval hW _ _
 have hW' := hW
 obtain ⟨p, q, hA, hV, rfl, hfz, hnd⟩ := hW
 rw [hvars] at hV
 obtain ⟨rfl, rfl⟩ := trodVars_none hV
 refine ((walk W base args ds p hval hA).run (St.start W)).mono ?_
 rintro e W' ⟨v, G, L, rfl, hs, rfl, hG⟩
 have hb := hs.below hG
 have hlt : ∀ x ∈ p, x.block < W.heap.size := fun x hx => hW'.lt x (List.mem_append_left _ hx)
 have hlen : ds.length = fn.params.toList.length := by
  have : ∀ (ts : List TypeId) (vs : List Value) (ds : List (DataW H)) (ps : List MemPlace), DataW.TrodAll enc C.prog W 0 (fun _ => true) true ts vs ds ps -> ds.length = ts.length := by
   intro ts
   induction ts with
   | nil => intro vs ds ps h; cases vs <;> cases ds <;> simp_all [DataW.TrodAll]
   | cons t ts ih =>
    intro vs ds ps h
    cases vs <;> cases ds <;> simp only [DataW.TrodAll] at h
    obtain ⟨_, _, _, h2, _⟩ := h
    simp [ih _ _ _ h2]
  exact this _ _ _ _ hA
 refine ⟨_, rfl, ds, [], _, [], p, [], hW', ?_, ?_, ?_, hb.frame _, fun h => by cases h⟩
 ·rw [List.append_nil, hsp ds hlen, hres]
  exact trodAll_mk1 (shut_bool htb true)
 ·rw [List.append_nil, hsp ds hlen]
  exact trodAll_stays hl hb (recs_of hr) hlt hA
 ·rw [List.append_nil, hsp ds hlen, hvars]
  exact rfl
end Go.Proofs.YtogocmlhnjiaaaaGreat
namespace Go.Proofs.YtogocmlhnjiaaaaGreat
open Go Go.ChangeShapes Go.WideShapes Go.ChangeAt Go.RowKit
def okU8 (_ : Gh) (_ : UInt8) : Prop := True
theorem opnU8 {P : Program} {t : TypeId} (ht : P.underlying t = some (.int .u8)) : Opn P t byteT okU8 := fun h => by
 obtain ⟨n, rfl, _, hw⟩ := DataW.trod_int ht h
 have : IntKind.u8.min <= n ∧ n <= IntKind.u8.max := by simpa [Lit.wf] using hw
 simp only [show IntKind.u8.min = 0 from rfl, show IntKind.u8.max = 255 from rfl] at this
 refine ⟨UInt8.ofNat n.toNat, ?_, trivial⟩
 simp only [byteT, UInt8.toNat_ofNat']
 congr 2
 omega
set_option maxRecDepth 100000
theorem Tryz.own : ownKnob Tryz.prog.godebug = none := by kernel_rfl
theorem Tryz.laidOut : laidOutB Tryz.prog = true := by kernel_rfl
theorem fnContextFree_lifted (os : Os) (started : os.Started) (H : Type) (enc : TypeId × Value -> H) :
  ReturnsInHanded {} Tryz.checked os 4 .any (Rows.fnContextFreeSpec.pre6 enc Tryz.prog Tryz.f4 [] false) (Rows.fnContextFreeSpec.post enc Tryz.prog Tryz.f4 false true false false) := by
 refine law_lifted (C := Tryz.checked) Tryz.own started (by kernel_rfl) Tryz.func4 Tryz.laidOut rfl (by kernel_rfl) rfl Tryz.underlying4 (fun ds h => ?_)
  (ChangeSpec.witness6 (enc := enc) (C := Tryz.checked) false ⟨#[], #[.slice none 0 0], []⟩ 8 (by kernel_rfl) (by kernel_rfl) (by kernel_rfl) (by kernel_rfl)) ?_
 ·match ds, h with
  | [d], _ => rfl
 ·intro W base args ds ps hval hA
  have hA : DataW.TrodAll enc Tryz.prog W 0 (fun _ => true) true Tryz.f4.params.toList args.toList ds ps := hA
  have hval : ∀ (j : Nat) t v, Tryz.f4.params[j]? = some t -> args[j]? = some v -> Value.okWide Tryz.prog W .any base t v := hval
  rw [Tryz.params4] at hA hval
  obtain ⟨v0, d0, rfl, rfl, h0⟩ := trodAll_one hA
  obtain ⟨s, rfl, q1, _⟩ := argSl Tryz.underlying22 (opnSl (F := byteT) (ok := okU8) Tryz.underlying22 (opnU8 Tryz.underlying5) (by kernel_rfl) (by decide)) (hval 0 _ v0 rfl rfl) h0
  exact law_FnContextFree q1 ⟨rfl, Gh.le_refl _⟩
theorem fnContextFree_joined : joinedFacts Tryz.pinned.checked.prog 4 Tryz.f4 Rows.fnContextFreeSpec Rows.fnContextFreeRow = true := by kernel_rfl
theorem fnContextFree_holds : Rows.FnContextFreeSaid :=
 OpenClaim.holds_of_wide 4 Tryz.f4 rfl rfl rfl rfl rfl rfl rfl ⟨rfl, rfl, rfl, rfl, rfl⟩ rfl rfl rfl rfl rfl (by kernel_rfl) Tryz.func4 fnContextFree_joined
  (odt (by kernel_rfl)) (by unfold Func.isWrapper; first | (rw [if_pos (by decide +kernel)]; kernel_rfl) | (rw [if_neg (by decide +kernel)]; exact ⟨rfl, rfl⟩))
  (fun os started H enc _ => fnContextFree_lifted os started H enc)
end Go.Proofs.YtogocmlhnjiaaaaGreat
