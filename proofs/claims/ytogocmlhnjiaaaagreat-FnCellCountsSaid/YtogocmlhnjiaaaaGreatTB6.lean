/-
  Contracts of functions and plain facts that the last text of this folder uses, part 6.
-/
import Derived.Test.YtogocmlhnjiaaaaGreatTB5
set_option linter.unusedVariables false
set_option linter.unusedSimpArgs false
namespace Go.Proofs.YtogocmlhnjiaaaaGreat
open Go
set_option maxRecDepth 20000
variable {G : Gh} {L : List Ch} {R : Value -> Gh -> List Ch -> Prop}
theorem okSh_i {s : Shape} (k : R (.bool (okSh s)) G L) : CallT Tryz.prog 155 #[vT shapeT s] G L R := by
 refine CallT.enter (args := _) Tryz.func155 rfl rfl (by kernel_rfl) rfl ?_
 refine WP.sr ?_
 refine RG.ot rfl (OT.box (cs := shapeT.enc s) rfl rfl rfl fun b1 => ?_)
 refine RG.br rfl (RG.nil (WP.sr (RG.p (PV.field rfl Fo109_0 rfl) (RG.p (PV.load1 rfl Sc2 rfl (Rd.blk rfl)) ?_))))
 refine RG.callF (vs := [_, _, _]) rfl rfl En56 rfl (within_s ?_)
 refine RG.bl rfl ?_
 refine RG.g rfl (fun hp => (PV.field rfl Fo109_1 rfl)) ?_
 refine RG.g rfl (fun hp => (PV.loadB (vs := [_, _, _, _]) rfl Ag101 (gt' hp) rfl rfl)) ?_
 refine RG.gsC rfl rfl rfl rfl En67 (fun hp => ⟨_, (acons (gt' hp) anil), validRect_s ⟨rfl, rfl, rfl⟩⟩) ?_
 refine RG.p (PV.pickA rfl rfl (fun hq => gt' (geqT hq)) rfl) (RG.br rfl (RG.nil ?_))
 exact WP.ret ⟨_, _, rv rfl rfl, Cv.p, k⟩
theorem validT_i {t : Trans} (k : R (.bool (validT t)) G L) : CallT Tryz.prog 98 #[vtrans t] G L R := by
 refine CallT.enter (args := _) Tryz.func98 rfl rfl (by kernel_rfl) rfl ?_
 refine WP.sr ?_
 refine RG.ot rfl (OT.box (cs := transT.enc t) rfl rfl rfl fun b1 => ?_)
 refine RG.br rfl (RG.nil (WP.sr (RG.p (PV.field rfl Fo87_0 rfl) (RG.p (PV.load1 rfl Sc2 rfl (Rd.blk rfl)) ?_))))
 refine RG.callF (vs := [_, _, _]) rfl rfl En56 rfl (within_s ?_)
 refine RG.bl rfl ?_
 refine RG.g rfl (fun hp => (PV.field rfl Fo87_1 rfl)) ?_
 refine RG.g rfl (fun hp => (PV.load1 rfl Sc2 (gt' hp) (Rd.blk rfl))) ?_
 refine RG.gsC rfl rfl rfl rfl En56 (fun hp => ⟨_, (acons (gt' hp) (acons rfl (acons rfl anil))), within_s ⟨rfl, rfl, rfl⟩⟩) ?_
 refine RG.p (PV.pickA rfl rfl (fun hq => gt' (geqT hq)) rfl) (RG.bl rfl ?_)
 refine RG.g rfl (fun hp => (PV.field rfl Fo87_2 rfl)) ?_
 refine RG.g rfl (fun hp => (PV.load1 rfl Sc2 (gt' hp) (Rd.blk rfl))) ?_
 refine RG.gsC rfl rfl rfl rfl En56 (fun hp => ⟨_, (acons (gt' hp) (acons rfl (acons rfl anil))), within_s ⟨rfl, rfl, rfl⟩⟩) ?_
 refine RG.p (PV.pickA rfl rfl (fun hq => gt' (geqT hq)) rfl) (RG.br rfl (RG.nil ?_))
 refine WP.ret ?_
 have e : validT t = ((within t.o 0 7 && within t.x (-80) 80) && within t.y (-80) 80) := (Bool.and_assoc _ _ _).symm
 rw [e] at k
 exact ⟨_, _, rv rfl rfl, Cv.p, k⟩
theorem okIn_i {n : Inst} {k0 : Int} (hk : 0 <= k0 ∧ k0 <= 1000) (k : R (.bool (okIn k0 n)) G L) : CallT Tryz.prog 161 #[vT instT n, vi k0] G L R := by
 refine CallT.enter (args := _) Tryz.func161 rfl rfl (by kernel_rfl) rfl ?_
 refine WP.sr ?_
 refine RG.ot rfl (OT.box (cs := instT.enc n) rfl rfl rfl fun b2 => ?_)
 refine RG.br rfl (RG.nil (WP.sr (RG.p (PV.field rfl Fo111_0 rfl) (RG.p (PV.load1 rfl Sc2 rfl (Rd.blk rfl)) (RG.ml rfl (RG.p (PV.sub rfl rfl rfl (by omega)) ?_))))))
 refine RG.callF (vs := [_, _, _]) rfl rfl En56 rfl (within_s ?_)
 refine RG.bl rfl ?_
 refine RG.g rfl (fun hp => (PV.field rfl Fo111_1 rfl)) ?_
 refine RG.g rfl (fun hp => (PV.loadB (vs := [_, _, _]) rfl Ag87 (gt' hp) rfl rfl)) ?_
 refine RG.gsC rfl rfl rfl rfl En98 (fun hp => ⟨_, (acons (gt' hp) anil), validT_i ⟨rfl, rfl, rfl⟩⟩) ?_
 refine RG.p (PV.pickA rfl rfl (fun hq => gt' (geqT hq)) rfl) (RG.bl rfl ?_)
 refine RG.g rfl (fun hp => (PV.field rfl Fo111_2 rfl)) ?_
 refine RG.g rfl (fun hp => (PV.load1 rfl Sc2 (gt' hp) (Rd.blk rfl))) ?_
 refine RG.gsC rfl rfl rfl rfl En56 (fun hp => ⟨_, (acons (gt' hp) (acons rfl (acons rfl anil))), within_s ⟨rfl, rfl, rfl⟩⟩) ?_
 refine RG.p (PV.pickA rfl rfl (fun hq => gt' (geqT hq)) rfl) (RG.bl rfl ?_)
 refine RG.g rfl (fun hp => (PV.field rfl Fo111_3 rfl)) ?_
 refine RG.g rfl (fun hp => (PV.load1 rfl Sc2 (gt' hp) (Rd.blk rfl))) ?_
 refine RG.gsC rfl rfl rfl rfl En56 (fun hp => ⟨_, (acons (gt' hp) (acons rfl (acons rfl anil))), within_s ⟨rfl, rfl, rfl⟩⟩) ?_
 refine RG.p (PV.pickA rfl rfl (fun hq => gt' (geqT hq)) rfl) (RG.bl rfl ?_)
 refine RG.g rfl (fun hp => (PV.field rfl Fo111_4 rfl)) ?_
 refine RG.g rfl (fun hp => (PV.load1 rfl Sc2 (gt' hp) (Rd.blk rfl))) ?_
 refine RG.gsC rfl rfl rfl rfl En56 (fun hp => ⟨_, (acons (gt' hp) (acons rfl (acons rfl anil))), within_s ⟨rfl, rfl, rfl⟩⟩) ?_
 refine RG.p (PV.pickA rfl rfl (fun hq => gt' (geqT hq)) rfl) (RG.bl rfl ?_)
 refine RG.g rfl (fun hp => (PV.field rfl Fo111_5 rfl)) ?_
 refine RG.g rfl (fun hp => (PV.load1 rfl Sc2 (gt' hp) (Rd.blk rfl))) ?_
 refine RG.gsC rfl rfl rfl rfl En56 (fun hp => ⟨_, (acons (gt' hp) (acons rfl (acons rfl anil))), within_s ⟨rfl, rfl, rfl⟩⟩) ?_
 refine RG.p (PV.pickA rfl rfl (fun hq => gt' (geqT hq)) rfl) (RG.bl rfl ?_)
 refine RG.g rfl (fun hp => (PV.field rfl Fo111_4 rfl)) ?_
 refine RG.g rfl (fun hp => (PV.load1 rfl Sc2 (gt' hp) (Rd.blk rfl))) ?_
 refine RG.g rfl (fun hp => (PV.eql rfl (gt' hp) rfl)) ?_
 refine RG.g rfl (fun hp => (PV.mvB (.inl rfl) (gt' hp))) ?_
 refine RG.gs2 rfl rfl rfl (fun hp => (PV.field rfl Fo111_2 rfl)) (RG.gs2 rfl rfl rfl (fun hp => (PV.load1 rfl Sc2 (gt' hp) (Rd.blk rfl))) (RG.gs2 rfl rfl rfl (fun hp => (PV.gtr rfl (gt' hp) rfl)) ?_))
 refine RG.g rfl (fun hp => (PV.pickO rfl (gt' hp) rfl (fun hq => gt' (gandF hp hq)))) ?_
 refine RG.p (PV.pickA rfl rfl (fun hq => gt' (geqT hq)) rfl) (RG.bl rfl ?_)
 refine RG.g rfl (fun hp => (PV.field rfl Fo111_5 rfl)) ?_
 refine RG.g rfl (fun hp => (PV.load1 rfl Sc2 (gt' hp) (Rd.blk rfl))) ?_
 refine RG.g rfl (fun hp => (PV.eql rfl (gt' hp) rfl)) ?_
 refine RG.g rfl (fun hp => (PV.mvB (.inl rfl) (gt' hp))) ?_
 refine RG.gs2 rfl rfl rfl (fun hp => (PV.field rfl Fo111_3 rfl)) (RG.gs2 rfl rfl rfl (fun hp => (PV.load1 rfl Sc2 (gt' hp) (Rd.blk rfl))) (RG.gs2 rfl rfl rfl (fun hp => (PV.gtr rfl (gt' hp) rfl)) ?_))
 refine RG.g rfl (fun hp => (PV.pickO rfl (gt' hp) rfl (fun hq => gt' (gandF hp hq)))) ?_
 refine RG.p (PV.pickA rfl rfl (fun hq => gt' (geqT hq)) rfl) (RG.br rfl (RG.nil ?_))
 exact WP.ret ⟨_, _, rv rfl rfl, Cv.p, k⟩
theorem notSh_s {s : Shape} (k : R (.bool (!okSh s)) G L) : CallT Tryz.prog 154 #[vT shapeT s] G L R := by
 refine CallT.enter (args := _) Tryz.func154 rfl rfl (by kernel_rfl) rfl ?_
 refine WP.sr ?_
 refine RG.ot rfl (OT.box (cs := shapeT.enc s) rfl rfl rfl fun b1 => ?_)
 refine RG.br rfl (RG.nil (WP.sr (RG.p (PV.loadW rfl Ag109 rfl rfl) ?_)))
 refine RG.callF (vs := [_]) rfl rfl En155 rfl (okSh_i ?_)
 refine RG.p (PV.not rfl rfl) (RG.br rfl (RG.nil ?_))
 exact WP.ret ⟨_, _, rv rfl rfl, Cv.p, k⟩
theorem notLb2_s {l : Label} (hs : l.name.size <= 9223372036854775807) (k : R (.bool (!validLb l)) G L) : CallT Tryz.prog 157 #[vT labelT l] G L R := by
 refine CallT.enter (args := _) Tryz.func157 rfl rfl (by kernel_rfl) rfl ?_
 refine WP.sr ?_
 refine RG.ot rfl (OT.box (cs := labelT.enc l) rfl rfl rfl fun b1 => ?_)
 refine RG.br rfl (RG.nil (WP.sr (RG.p (PV.loadW rfl Ag182 rfl rfl) ?_)))
 refine RG.callF (vs := [_]) rfl rfl En158 rfl (validLb_i hs ?_)
 refine RG.p (PV.not rfl rfl) (RG.br rfl (RG.nil ?_))
 exact WP.ret ⟨_, _, rv rfl rfl, Cv.p, k⟩
theorem notIn_s {n : Inst} {k0 : Int} {b : Nat} (hk : 0 <= k0 ∧ k0 <= 1000) (hb : Rd G L b 0 (vi k0)) (k : R (.bool (!okIn k0 n)) G L) : CallT Tryz.prog 160 #[vT instT n, .pointer (some ⟨b, 0, none⟩)] G L R := by
 refine CallT.enter (args := _) Tryz.func160 rfl rfl (by kernel_rfl) rfl ?_
 refine WP.sr ?_
 refine RG.ot rfl (OT.box (cs := instT.enc n) rfl rfl rfl fun b2 => ?_)
 refine RG.br rfl (RG.nil (WP.sr (RG.p (PV.loadW rfl Ag111 rfl rfl) (RG.p (PV.load1 rfl Sc2 rfl (Rd.up hb)) ?_))))
 refine RG.callF (vs := [_, _]) rfl rfl En161 rfl (okIn_i hk ?_)
 refine RG.p (PV.not rfl rfl) (RG.br rfl (RG.nil ?_))
 exact WP.ret ⟨_, _, rv rfl rfl, Cv.p, k⟩
theorem indexF_shape {v fv : Value} {xs : List (Shape)} {p : (Shape) -> Bool} (h1 : Rs G L shapeT v xs) (hf : ∀ i, i < xs.length -> CB Tryz.prog G L fv [vT shapeT (gd xs i)] (.bool (p (gd xs i)))) (k : R (vi (idxI p xs)) G L) : CallT Tryz.prog 203 #[v, fv] G L R := by
 refine CallT.bd h1 fun hb => ?_
 refine CallT.enter (args := _) Tryz.func203 rfl rfl (by kernel_rfl) rfl ?_
 refine WP.sr (RG.mr rfl (RG.nil (WP.seq (WP.sr (RG.p (PV.move (v := v) rfl rfl) (RG.p (PV.len (v := v) rfl Tryz.underlying66 rfl (SlF.r h1)) (RG.ml rfl (RG.nil (WP.block ?_)))))))))
 refine WP.loop1 [0, 1, 7] (fun i => i <= xs.length ∧ ∀ j, j < i -> p (gd xs j) = false) (fun i => [(8, vi i)]) (fun i => L) (fun i => xs.length - i) 0 ⟨by omega, fun j h => by omega⟩ ⟨rfl, trivial⟩ Cv.p ?_
 rintro i τ ⟨hi, hj⟩
 refine WP.sr (RG.p (PV.lss rfl rfl rfl) (RG.nil (WP.seq ?_)))
 refine WP.cond rfl (fun h2 => ?_) fun h2 => ?_
 ·have h2 := odt h2
  refine WP.skip (WP.seq (WP.block (WP.sr (RG.ml rfl (RG.mr rfl (RG.nil (WP.sr (RG.p (PV.move (v := fv) rfl rfl) (RG.p (PV.move (v := v) rfl rfl) (RG.ml rfl (RG.p (PV.idxS (v := v) rfl Is66 rfl (SlF.r h1) rfl rfl (by omega)) ?_)))))))))))
  refine RG.p (PV.loadE rfl Ag109 rfl rfl (El.r h1 (getG (by omega)))) ?_
  refine RG.callB (vs := [_]) rfl rfl rfl rfl (CB.up (hf i (by omega))) ?_
  refine RG.nil ?_
  refine WP.cond rfl (fun h3 => ?_) fun h3 => ?_
  ·rw [idxI_at (by omega) h3 hj] at k
   refine WP.sr (RG.ml rfl (RG.mr rfl (RG.nil ?_)))
   exact WP.ret ⟨_, _, rv rfl rfl, Cv.p, k⟩
  ·have hj' : ∀ j, j < i + 1 -> p (gd xs j) = false := fun j h => by
    by_cases c : j = i
    ·rw [c]; exact h3
    ·exact hj j (by omega)
   refine WP.skip (WP.region (RG.p (PV.add rfl rfl rfl (by omega)) (RG.ml rfl (RG.nil ?_))))
   exact ⟨rfl, i + 1, ⟨by omega, hj'⟩, ⟨rfl, trivial⟩, ⟨rfl, rfl, rfl, trivial⟩, Cv.p, by omega⟩
 ·have h2 := odf h2
  rw [idxI_none (fun j h => hj j (by omega))] at k
  refine WP.exit (WP.sr (RG.mr rfl (RG.nil ?_)))
  exact WP.ret ⟨_, _, rv rfl rfl, Cv.p, k⟩
theorem containsF_shape {v fv : Value} {xs : List (Shape)} {p : (Shape) -> Bool} (h1 : Rs G L shapeT v xs) (hf : ∀ i, i < xs.length -> CB Tryz.prog G L fv [vT shapeT (gd xs i)] (.bool (p (gd xs i)))) (k : R (.bool (xs.any p)) G L) : CallT Tryz.prog 153 #[v, fv] G L R := by
 rw [<- idxI_any] at k
 refine CallT.enter (args := _) Tryz.func153 rfl rfl (by kernel_rfl) rfl ?_
 refine WP.sr (RG.br rfl (RG.nil (WP.sr (RG.p (PV.move (v := v) rfl rfl) (RG.p (PV.move (v := fv) rfl rfl) ?_)))))
 refine RG.callF (vs := [v, fv]) rfl rfl En203 rfl (indexF_shape (Rs.up h1) (fun i hi => (hf i hi).up) ?_)
 refine RG.p (PV.geq rfl rfl rfl) (RG.br rfl (RG.nil ?_))
 exact WP.ret ⟨_, _, rv rfl rfl, Cv.p, k⟩
theorem indexF_inst {v fv : Value} {xs : List (Inst)} {p : (Inst) -> Bool} (h1 : Rs G L instT v xs) (hf : ∀ i, i < xs.length -> CB Tryz.prog G L fv [vT instT (gd xs i)] (.bool (p (gd xs i)))) (k : R (vi (idxI p xs)) G L) : CallT Tryz.prog 206 #[v, fv] G L R := by
 refine CallT.bd h1 fun hb => ?_
 refine CallT.enter (args := _) Tryz.func206 rfl rfl (by kernel_rfl) rfl ?_
 refine WP.sr (RG.mr rfl (RG.nil (WP.seq (WP.sr (RG.p (PV.move (v := v) rfl rfl) (RG.p (PV.len (v := v) rfl Tryz.underlying93 rfl (SlF.r h1)) (RG.ml rfl (RG.nil (WP.block ?_)))))))))
 refine WP.loop1 [0, 1, 7] (fun i => i <= xs.length ∧ ∀ j, j < i -> p (gd xs j) = false) (fun i => [(8, vi i)]) (fun i => L) (fun i => xs.length - i) 0 ⟨by omega, fun j h => by omega⟩ ⟨rfl, trivial⟩ Cv.p ?_
 rintro i τ ⟨hi, hj⟩
 refine WP.sr (RG.p (PV.lss rfl rfl rfl) (RG.nil (WP.seq ?_)))
 refine WP.cond rfl (fun h2 => ?_) fun h2 => ?_
 ·have h2 := odt h2
  refine WP.skip (WP.seq (WP.block (WP.sr (RG.ml rfl (RG.mr rfl (RG.nil (WP.sr (RG.p (PV.move (v := fv) rfl rfl) (RG.p (PV.move (v := v) rfl rfl) (RG.ml rfl (RG.p (PV.idxS (v := v) rfl Is93 rfl (SlF.r h1) rfl rfl (by omega)) ?_)))))))))))
  refine RG.p (PV.loadE rfl Ag111 rfl rfl (El.r h1 (getG (by omega)))) ?_
  refine RG.callB (vs := [_]) rfl rfl rfl rfl (CB.up (hf i (by omega))) ?_
  refine RG.nil ?_
  refine WP.cond rfl (fun h3 => ?_) fun h3 => ?_
  ·rw [idxI_at (by omega) h3 hj] at k
   refine WP.sr (RG.ml rfl (RG.mr rfl (RG.nil ?_)))
   exact WP.ret ⟨_, _, rv rfl rfl, Cv.p, k⟩
  ·have hj' : ∀ j, j < i + 1 -> p (gd xs j) = false := fun j h => by
    by_cases c : j = i
    ·rw [c]; exact h3
    ·exact hj j (by omega)
   refine WP.skip (WP.region (RG.p (PV.add rfl rfl rfl (by omega)) (RG.ml rfl (RG.nil ?_))))
   exact ⟨rfl, i + 1, ⟨by omega, hj'⟩, ⟨rfl, trivial⟩, ⟨rfl, rfl, rfl, trivial⟩, Cv.p, by omega⟩
 ·have h2 := odf h2
  rw [idxI_none (fun j h => hj j (by omega))] at k
  refine WP.exit (WP.sr (RG.mr rfl (RG.nil ?_)))
  exact WP.ret ⟨_, _, rv rfl rfl, Cv.p, k⟩
theorem containsF_inst {v fv : Value} {xs : List (Inst)} {p : (Inst) -> Bool} (h1 : Rs G L instT v xs) (hf : ∀ i, i < xs.length -> CB Tryz.prog G L fv [vT instT (gd xs i)] (.bool (p (gd xs i)))) (k : R (.bool (xs.any p)) G L) : CallT Tryz.prog 159 #[v, fv] G L R := by
 rw [<- idxI_any] at k
 refine CallT.enter (args := _) Tryz.func159 rfl rfl (by kernel_rfl) rfl ?_
 refine WP.sr (RG.br rfl (RG.nil (WP.sr (RG.p (PV.move (v := v) rfl rfl) (RG.p (PV.move (v := fv) rfl rfl) ?_)))))
 refine RG.callF (vs := [v, fv]) rfl rfl En206 rfl (indexF_inst (Rs.up h1) (fun i hi => (hf i hi).up) ?_)
 refine RG.p (PV.geq rfl rfl rfl) (RG.br rfl (RG.nil ?_))
 exact WP.ret ⟨_, _, rv rfl rfl, Cv.p, k⟩
theorem okCell_i {c : Cell} {k0 : Int} (hk : 0 <= k0 ∧ k0 <= 1000) (h1 : Rs G L shapeT c.shapes.v c.shapes.xs) (h2 : Rs G L labelT c.labels.v c.labels.xs) (h3 : Rs G L instT c.insts.v c.insts.xs) (hs : c.name.size <= 9223372036854775807) (hlen : lenL c.labels.xs)
  (k : R (.bool (okCell k0 (erCl c))) G L) : CallT Tryz.prog 105 #[vT cellT c, vi k0] G L R := by
 refine CallT.enter (args := _) Tryz.func105 rfl rfl (by kernel_rfl) rfl ?_
 refine WP.sr ?_
 refine RG.ot rfl (OT.box (cs := cellT.enc c) rfl rfl rfl fun b2 => ?_)
 refine RG.ot rfl (OT.box (cs := [vi k0]) rfl rfl rfl fun b3 => ?_)
 refine RG.br rfl (RG.nil (WP.seq (WP.sr (RG.p (PV.field rfl Fo95_0 rfl) (RG.p (PV.load1 rfl Sc9 rfl (Rd.blk rfl)) ?_)))))
 refine RG.callF (vs := [_]) rfl rfl En152 rfl (isName_i hs ?_)
 refine RG.p (PV.not rfl rfl) (RG.bl rfl ?_)
 refine RG.g rfl (fun hp => (PV.field rfl Fo95_1 rfl)) ?_
 refine RG.g rfl (fun hp => (PV.load1 rfl Sc66 (gt' hp) (Rd.blk rfl))) ?_
 refine RG.g rfl (fun hp => (PV.len rfl Tryz.underlying66 (gt' hp) (SlF.r h1))) ?_
 refine RG.g rfl (fun hp => (PV.gtr rfl (gt' hp) rfl)) ?_
 refine RG.p (PV.pickO rfl rfl rfl (fun hq => gt' (geqF hq))) (RG.bl rfl ?_)
 refine RG.g rfl (fun hp => (PV.field rfl Fo95_2 rfl)) ?_
 refine RG.g rfl (fun hp => (PV.load1 rfl Sc92 (gt' hp) (Rd.blk rfl))) ?_
 refine RG.g rfl (fun hp => (PV.len rfl Tryz.underlying92 (gt' hp) (SlF.r h2))) ?_
 refine RG.g rfl (fun hp => (PV.gtr rfl (gt' hp) rfl)) ?_
 refine RG.p (PV.pickO rfl rfl rfl (fun hq => gt' (geqF hq))) (RG.bl rfl ?_)
 refine RG.g rfl (fun hp => (PV.field rfl Fo95_3 rfl)) ?_
 refine RG.g rfl (fun hp => (PV.load1 rfl Sc93 (gt' hp) (Rd.blk rfl))) ?_
 refine RG.g rfl (fun hp => (PV.len rfl Tryz.underlying93 (gt' hp) (SlF.r h3))) ?_
 refine RG.g rfl (fun hp => (PV.gtr rfl (gt' hp) rfl)) ?_
 refine RG.p (PV.pickO rfl rfl rfl (fun hq => gt' (geqF hq))) (RG.nil ?_)
 refine WP.cond rfl (fun h4 => ?_) fun h4 => ?_
 ·have e : okCell k0 (erCl c) = false := by
   simp [okCell, erCl] at h4 ⊢
   grind
  rw [e] at k
  refine WP.sr (RG.br rfl (RG.nil ?_))
  exact WP.ret ⟨_, _, rv rfl rfl, Cv.p, k⟩
 ·refine WP.skip ?_
  refine WP.sr (RG.p (PV.field rfl Fo95_1 rfl) (RG.p (PV.load1 rfl Sc66 rfl (Rd.blk rfl)) ?_))
  refine RG.callF (vs := [_, _]) rfl rfl En153 rfl (containsF_shape (Rs.up h1) (p := fun s => !okSh s) (fun i hi => CB.mk0 En154 fun L' R c k => notSh_s k) ?_)
  refine RG.p (PV.not rfl rfl) (RG.bl rfl ?_)
  refine RG.g rfl (fun hp => (PV.field rfl Fo95_2 rfl)) ?_
  refine RG.g rfl (fun hp => (PV.load1 rfl Sc92 (gt' hp) (Rd.blk rfl))) ?_
  refine RG.gsC rfl rfl rfl rfl En156 (fun hp => ⟨_, (acons (gt' hp) (acons rfl anil)), containsF_label (Rs.up h2) (p := fun l => !validLb l) (fun i hi => CB.mk0 En157 fun L' R c k => notLb2_s (hlen i hi) k) ⟨rfl, rfl, rfl⟩⟩) ?_
  refine RG.g rfl (fun hp => (PV.not rfl (gt' hp))) ?_
  refine RG.p (PV.pickA rfl rfl (fun hq => gt' (geqT hq)) rfl) (RG.bl rfl ?_)
  refine RG.g rfl (fun hp => (PV.field rfl Fo95_3 rfl)) ?_
  refine RG.g rfl (fun hp => (PV.load1 rfl Sc93 (gt' hp) (Rd.blk rfl))) ?_
  refine RG.g rfl (fun hp => (PV.mkf1 rfl rfl)) ?_
  refine RG.gsC rfl rfl rfl rfl En159 (fun hp => ⟨_, (acons (gt' hp) (acons (gt' hp) anil)), containsF_inst (Rs.up h3) (p := fun n => !okIn k0 n) (fun i hi => CB.mk1 En160 fun L' R c k => notIn_s hk (Rd.cv (Rd.blk rfl) c) k) ⟨rfl, rfl, rfl⟩⟩) ?_
  refine RG.g rfl (fun hp => (PV.not rfl (gt' hp))) ?_
  refine RG.p (PV.pickA rfl rfl (fun hq => gt' (geqT hq)) rfl) (RG.br rfl (RG.nil ?_))
  refine WP.ret ?_
  have e : okCell k0 (erCl c) = (!(c.shapes.xs.any fun s => !okSh s) && !(c.labels.xs.any fun l => !validLb l) && !(c.insts.xs.any fun n => !okIn k0 n)) := by
   simp [okCell, erCl] at h4 ⊢
   grind
  rw [e] at k
  exact ⟨_, _, rv rfl rfl, Cv.p, k⟩
theorem named1_s {c : Cell} {nm : ByteArray} {b : Nat} (hb : Rd G L b 0 (.string nm)) (k : R (.bool (decide (c.name = nm))) G L) : CallT Tryz.prog 163 #[vT cellT c, .pointer (some ⟨b, 0, none⟩)] G L R := by
 refine CallT.enter (args := _) Tryz.func163 rfl rfl (by kernel_rfl) rfl ?_
 refine WP.sr ?_
 refine RG.ot rfl (OT.box (cs := cellT.enc c) rfl rfl rfl fun b2 => ?_)
 refine RG.br rfl (RG.nil (WP.sr (RG.p (PV.field rfl Fo95_0 rfl) (RG.p (PV.load1 rfl Sc9 rfl (Rd.blk rfl)) (RG.p (PV.load1 rfl Sc9 rfl (Rd.up hb)) (RG.p (PV.eqlS rfl rfl rfl) (RG.br rfl (RG.nil ?_))))))))
 exact WP.ret ⟨_, _, rv rfl rfl, Cv.p, k⟩
theorem indexF_cell {v fv : Value} {xs : List (Cell)} {p : (Cell) -> Bool} (h1 : Rs G L cellT v xs) (hf : ∀ i, i < xs.length -> CB Tryz.prog G L fv [vT cellT (gd xs i)] (.bool (p (gd xs i)))) (k : R (vi (idxI p xs)) G L) : CallT Tryz.prog 162 #[v, fv] G L R := by
 refine CallT.bd h1 fun hb => ?_
 refine CallT.enter (args := _) Tryz.func162 rfl rfl (by kernel_rfl) rfl ?_
 refine WP.sr (RG.mr rfl (RG.nil (WP.seq (WP.sr (RG.p (PV.move (v := v) rfl rfl) (RG.p (PV.len (v := v) rfl Tryz.underlying24 rfl (SlF.r h1)) (RG.ml rfl (RG.nil (WP.block ?_)))))))))
 refine WP.loop1 [0, 1, 7] (fun i => i <= xs.length ∧ ∀ j, j < i -> p (gd xs j) = false) (fun i => [(8, vi i)]) (fun i => L) (fun i => xs.length - i) 0 ⟨by omega, fun j h => by omega⟩ ⟨rfl, trivial⟩ Cv.p ?_
 rintro i τ ⟨hi, hj⟩
 refine WP.sr (RG.p (PV.lss rfl rfl rfl) (RG.nil (WP.seq ?_)))
 refine WP.cond rfl (fun h2 => ?_) fun h2 => ?_
 ·have h2 := odt h2
  refine WP.skip (WP.seq (WP.block (WP.sr (RG.ml rfl (RG.mr rfl (RG.nil (WP.sr (RG.p (PV.move (v := fv) rfl rfl) (RG.p (PV.move (v := v) rfl rfl) (RG.ml rfl (RG.p (PV.idxS (v := v) rfl Is24 rfl (SlF.r h1) rfl rfl (by omega)) ?_)))))))))))
  refine RG.p (PV.loadE rfl Ag95 rfl rfl (El.r h1 (getG (by omega)))) ?_
  refine RG.callB (vs := [_]) rfl rfl rfl rfl (CB.up (hf i (by omega))) ?_
  refine RG.nil ?_
  refine WP.cond rfl (fun h3 => ?_) fun h3 => ?_
  ·rw [idxI_at (by omega) h3 hj] at k
   refine WP.sr (RG.ml rfl (RG.mr rfl (RG.nil ?_)))
   exact WP.ret ⟨_, _, rv rfl rfl, Cv.p, k⟩
  ·have hj' : ∀ j, j < i + 1 -> p (gd xs j) = false := fun j h => by
    by_cases c : j = i
    ·rw [c]; exact h3
    ·exact hj j (by omega)
   refine WP.skip (WP.region (RG.p (PV.add rfl rfl rfl (by omega)) (RG.ml rfl (RG.nil ?_))))
   exact ⟨rfl, i + 1, ⟨by omega, hj'⟩, ⟨rfl, trivial⟩, ⟨rfl, rfl, rfl, trivial⟩, Cv.p, by omega⟩
 ·have h2 := odf h2
  rw [idxI_none (fun j h => hj j (by omega))] at k
  refine WP.exit (WP.sr (RG.mr rfl (RG.nil ?_)))
  exact WP.ret ⟨_, _, rv rfl rfl, Cv.p, k⟩
theorem named_i {l : Lib} {nm : ByteArray} (h1 : Rs G L cellT l.cells.v l.cells.xs) (k : R (vi (idxI (fun c : Cell => decide (c.name = nm)) l.cells.xs)) G L) : CallT Tryz.prog 106 #[vT libT l, .string nm] G L R := by
 refine CallT.enter (args := _) Tryz.func106 rfl rfl (by kernel_rfl) rfl ?_
 refine WP.sr ?_
 refine RG.ot rfl (OT.box (cs := libT.enc l) rfl rfl rfl fun b2 => ?_)
 refine RG.ot rfl (OT.box rfl rfl rfl fun b3 => ?_)
 refine RG.mr rfl (RG.nil (WP.sr (RG.p (PV.field rfl Fo26_0 rfl) (RG.p (PV.load1 rfl Sc24 rfl (Rd.blk rfl)) (RG.p (PV.mkf1 rfl rfl) ?_)))))
 refine RG.callF (vs := [_, _]) rfl rfl En162 rfl (indexF_cell (Rs.up h1) (p := fun c => decide (c.name = nm)) (fun i hi => CB.mk1 En163 fun L' R c k => named1_s (Rd.cv (Rd.blk rfl) c) k) ?_)
 refine RG.mr rfl (RG.nil ?_)
 exact WP.ret ⟨_, _, rv rfl rfl, Cv.p, k⟩
theorem named_at {xs : List Cell} {i : Nat} (hi : i < xs.length) : decide (idxI (fun c : Cell => decide (c.name = (gd xs i).name)) xs = (i : Int)) = nameAt (erCls xs) i := by
 have hn : ∀ j, j < xs.length -> (gd (erCls xs) j).name = (gd xs j).name := fun j hj => by rw [erCls_gd hj]; rfl
 by_cases h : ∀ j, j < i -> (gd xs j).name ≠ (gd xs i).name
 ·rw [idxI_at (i := i) hi (by simp) (fun j hj => by simpa using h j hj)]
  have : nameAt (erCls xs) i = true := by
   rw [nameAt, decide_eq_true_iff]
   intro j hj
   rw [hn j (by omega), hn i hi]; exact h j hj
  rw [this]; simp
 ·have hx : nameAt (erCls xs) i = false := by
   rw [nameAt, decide_eq_false_iff_not]
   intro hh
   exact h fun j hj => by rw [<- hn j (by omega), <- hn i hi]; exact hh j hj
  rw [hx, decide_eq_false_iff_not]
  intro e
  apply h
  intro j hj hq
  have hex : ∃ m, m <= j ∧ (gd xs m).name = (gd xs i).name ∧ ∀ l, l < m -> (gd xs l).name ≠ (gd xs i).name := by
   induction j using Nat.strongRecOn with
   | ind j ih =>
    by_cases c : ∃ l, l < j ∧ (gd xs l).name = (gd xs i).name
    ·obtain ⟨l, hl, hq2⟩ := c
     obtain ⟨m, a1, a2, a3⟩ := ih l hl (by omega) hq2
     exact ⟨m, by omega, a2, a3⟩
    ·exact ⟨j, Nat.le_refl _, hq, fun l hl hh => c ⟨l, hl, hh⟩⟩
  obtain ⟨m, a1, a2, a3⟩ := hex
  rw [idxI_at (i := m) (by omega) (by simpa using a2) (fun l hl => by simpa using a3 l hl)] at e
  omega
theorem okLib_i {l : Lib} (hL : RLib G L l.cells.v l.cells.xs) (hlen : lenC (erCls l.cells.xs)) (k : R (.bool (okLib (erCls l.cells.xs))) G L) : CallT Tryz.prog 55 #[vT libT l] G L R := by
 have hE := erCls_len l.cells.xs
 refine CallT.bd hL.c fun hb => ?_
 refine CallT.enter (args := _) Tryz.func55 rfl rfl (by kernel_rfl) rfl ?_
 refine WP.sr ?_
 refine RG.ot rfl (OT.box (cs := libT.enc l) rfl rfl rfl fun b1 => ?_)
 refine RG.br rfl (RG.nil (WP.seq (WP.sr (RG.p (PV.field rfl Fo26_0 rfl) (RG.p (PV.load1 rfl Sc24 rfl (Rd.blk rfl)) (RG.p (PV.len rfl Tryz.underlying24 rfl (SlF.r hL.c)) (RG.p (PV.lss rfl rfl rfl) (RG.bl rfl ?_))))))))
 refine RG.g rfl (fun hp => (PV.field rfl Fo26_0 rfl)) ?_
 refine RG.g rfl (fun hp => (PV.load1 rfl Sc24 (gt' hp) (Rd.blk rfl))) ?_
 refine RG.g rfl (fun hp => (PV.len rfl Tryz.underlying24 (gt' hp) (SlF.r hL.c))) ?_
 refine RG.g rfl (fun hp => (PV.gtr rfl (gt' hp) rfl)) ?_
 refine RG.p (PV.pickO rfl rfl rfl (fun hq => gt' (geqF hq))) (RG.nil ?_)
 refine WP.cond rfl (fun h0 => ?_) fun h0 => ?_
 ·have e : okLib (erCls l.cells.xs) = false := by
   simp at h0
   simp [okLib, hE]; omega
  rw [e] at k
  refine WP.sr (RG.br rfl (RG.nil ?_))
  exact WP.ret ⟨_, _, rv rfl rfl, Cv.p, k⟩
 ·simp at h0
  refine WP.skip (WP.seq (WP.sr (RG.p (PV.field rfl Fo26_0 rfl) (RG.p (PV.load1 rfl Sc24 rfl (Rd.blk rfl)) (RG.p (PV.len rfl Tryz.underlying24 rfl (SlF.r hL.c)) (RG.ml rfl (RG.nil (WP.block ?_))))))))
  refine WP.loop1 [1, 16, 17] (fun i => i <= l.cells.xs.length ∧ ∀ j, j < i -> cellAt (erCls l.cells.xs) j = true) (fun i => [(18, vi i)]) (fun i => blk b1 26 (libT.enc l) :: L) (fun i => l.cells.xs.length - i) 0 ⟨by omega, fun j h => by omega⟩ ⟨rfl, trivial⟩ Cv.p ?_
  rintro i τ ⟨hi, hj⟩
  refine WP.sr (RG.p (PV.lss rfl rfl rfl) (RG.nil (WP.seq ?_)))
  refine WP.cond rfl (fun h2 => ?_) fun h2 => ?_
  ·have h2 := odt h2
   have h3 : i < l.cells.xs.length := by omega
   refine WP.skip (WP.seq (WP.block (WP.sr (RG.ml rfl (RG.p (PV.idxS rfl Is24 rfl (SlF.r hL.c) rfl rfl (by omega)) (RG.p (PV.loadE rfl Ag95 rfl rfl (El.r hL.c (getG (by omega)))) ?_))))))
   refine RG.ot rfl (OT.alloc rfl Zr95 fun b4 => ?_)
   refine RG.mr rfl ?_
   refine RG.ot rfl (OT.storeW (vs := [.string _, _, _, _]) rfl Sz95 rfl rfl (Cl.c rfl) rfl rfl (hL.one h3) ?_)
   refine RG.nil (WP.sr (RG.p (PV.loadW rfl Ag95 rfl rfl) (RG.ml rfl ?_)))
   refine RG.callF (vs := [_, _]) rfl rfl En105 rfl (okCell_i (by omega) (hL.sa (by omega)).up (hL.la (by omega)).up (hL.na (by omega)).up (hlen.one (by omega)).1 (hlen.one (by omega)).2 ?_)
   refine RG.p (PV.not rfl rfl) (RG.bl rfl ?_)
   refine RG.g rfl (fun hp => (PV.loadW rfl Ag26 rfl rfl)) ?_
   refine RG.g rfl (fun hp => (PV.field rfl Fo95_0 rfl)) ?_
   refine RG.g rfl (fun hp => (PV.load1 rfl Sc9 (gt' hp) (Rd.blk rfl))) ?_
   refine RG.gsC rfl rfl rfl rfl En106 (fun hp => ⟨_, (acons (gt' hp) (acons (gt' hp) anil)), named_i hL.c.up ⟨rfl, rfl, rfl⟩⟩) ?_
   refine RG.g rfl (fun hp => (PV.mvI (.inl rfl) rfl)) ?_
   refine RG.g rfl (fun hp => (PV.neq rfl (gt' hp) (gt' hp))) ?_
   refine RG.p (PV.pickO rfl rfl rfl (fun hq => gt' (geqF hq))) (RG.nil ?_)
   refine WP.cond rfl (fun h4 => ?_) fun h4 => ?_
   ·have e : cellAt (erCls l.cells.xs) i = false := by
     simp [cellAt, erCls_gd h3, <- named_at h3] at h4 ⊢
     grind
    rw [okLib_false (by omega) e] at k
    refine WP.sr (RG.br rfl (RG.nil ?_))
    exact WP.ret ⟨_, _, rv rfl rfl, Cv.p, k⟩
   ·have e : cellAt (erCls l.cells.xs) i = true := by
     simp [cellAt, erCls_gd h3, <- named_at h3] at h4 ⊢
     grind
    have hj' : ∀ j, j < i + 1 -> cellAt (erCls l.cells.xs) j = true := fun j h => by
     by_cases c : j = i
     ·rw [c]; exact e
     ·exact hj j (by omega)
    refine WP.skip (WP.region (RG.p (PV.add rfl rfl rfl (by omega)) (RG.ml rfl (RG.nil ?_))))
    exact ⟨rfl, i + 1, ⟨by omega, hj'⟩, ⟨rfl, trivial⟩, ⟨rfl, rfl, rfl, trivial⟩, Cv.p, by omega⟩
  ·have h2 := odf h2
   rw [okLib_all (by omega) (by omega) (fun j h => hj j (by omega))] at k
   refine WP.exit (WP.sr (RG.br rfl (RG.nil ?_)))
   exact WP.ret ⟨_, _, rv rfl rfl, Cv.p, k⟩
theorem l09Rect_r {r : Rect} (k : R (.bool (validRect r)) G L) : CallT Tryz.prog 78 #[vrect r] G L R := by
 refine CallT.enter (args := _) Tryz.func78 rfl rfl (by kernel_rfl) rfl ?_
 refine WP.sr ?_
 refine RG.ot rfl (OT.box (cs := rectT.enc r) rfl rfl rfl fun b1 => ?_)
 refine RG.br rfl (RG.nil (WP.sr (RG.p (PV.field rfl Fo101_0 rfl) (RG.p (PV.load1 rfl Sc2 rfl (Rd.blk rfl)) (RG.p (PV.leq rfl rfl rfl) (RG.bl rfl ?_))))))
 refine RG.g rfl (fun hp => (PV.field rfl Fo101_0 rfl)) ?_
 refine RG.g rfl (fun hp => (PV.load1 rfl Sc2 (gt' hp) (Rd.blk rfl))) ?_
 refine RG.g rfl (fun hp => (PV.field rfl Fo101_2 rfl)) ?_
 refine RG.g rfl (fun hp => (PV.load1 rfl Sc2 (gt' hp) (Rd.blk rfl))) ?_
 refine RG.g rfl (fun hp => (PV.lss rfl (gt' hp) (gt' hp))) ?_
 refine RG.p (PV.pickA rfl rfl (fun hq => gt' (geqT hq)) rfl) (RG.bl rfl ?_)
 refine RG.g rfl (fun hp => (PV.field rfl Fo101_2 rfl)) ?_
 refine RG.g rfl (fun hp => (PV.load1 rfl Sc2 (gt' hp) (Rd.blk rfl))) ?_
 refine RG.g rfl (fun hp => (PV.leq rfl (gt' hp) rfl)) ?_
 refine RG.p (PV.pickA rfl rfl (fun hq => gt' (geqT hq)) rfl) (RG.bl rfl ?_)
 refine RG.g rfl (fun hp => (PV.field rfl Fo101_1 rfl)) ?_
 refine RG.g rfl (fun hp => (PV.load1 rfl Sc2 (gt' hp) (Rd.blk rfl))) ?_
 refine RG.g rfl (fun hp => (PV.leq rfl rfl (gt' hp))) ?_
 refine RG.p (PV.pickA rfl rfl (fun hq => gt' (geqT hq)) rfl) (RG.bl rfl ?_)
 refine RG.g rfl (fun hp => (PV.field rfl Fo101_1 rfl)) ?_
 refine RG.g rfl (fun hp => (PV.load1 rfl Sc2 (gt' hp) (Rd.blk rfl))) ?_
 refine RG.g rfl (fun hp => (PV.field rfl Fo101_3 rfl)) ?_
 refine RG.g rfl (fun hp => (PV.load1 rfl Sc2 (gt' hp) (Rd.blk rfl))) ?_
 refine RG.g rfl (fun hp => (PV.lss rfl (gt' hp) (gt' hp))) ?_
 refine RG.p (PV.pickA rfl rfl (fun hq => gt' (geqT hq)) rfl) (RG.bl rfl ?_)
 refine RG.g rfl (fun hp => (PV.field rfl Fo101_3 rfl)) ?_
 refine RG.g rfl (fun hp => (PV.load1 rfl Sc2 (gt' hp) (Rd.blk rfl))) ?_
 refine RG.g rfl (fun hp => (PV.leq rfl (gt' hp) rfl)) ?_
 refine RG.p (PV.pickA rfl rfl (fun hq => gt' (geqT hq)) rfl) (RG.br rfl (RG.nil ?_))
 exact WP.ret ⟨_, _, rv rfl rfl, Cv.p, k⟩
theorem l09Trans_r {t : Trans} (k : R (.bool (validT t)) G L) : CallT Tryz.prog 125 #[vtrans t] G L R := by
 refine CallT.enter (args := _) Tryz.func125 rfl rfl (by kernel_rfl) rfl ?_
 refine WP.sr ?_
 refine RG.ot rfl (OT.box (cs := transT.enc t) rfl rfl rfl fun b1 => ?_)
 refine RG.br rfl (RG.nil (WP.sr (RG.p (PV.field rfl Fo87_0 rfl) (RG.p (PV.load1 rfl Sc2 rfl (Rd.blk rfl)) ?_))))
 refine RG.callF (vs := [_, _, _]) rfl rfl En184 rfl (l09In_s ?_)
 refine RG.bl rfl ?_
 refine RG.g rfl (fun hp => (PV.field rfl Fo87_1 rfl)) ?_
 refine RG.g rfl (fun hp => (PV.load1 rfl Sc2 (gt' hp) (Rd.blk rfl))) ?_
 refine RG.gsC rfl rfl rfl rfl En184 (fun hp => ⟨_, (acons (gt' hp) (acons rfl (acons rfl anil))), l09In_s ⟨rfl, rfl, rfl⟩⟩) ?_
 refine RG.p (PV.pickA rfl rfl (fun hq => gt' (geqT hq)) rfl) (RG.bl rfl ?_)
 refine RG.g rfl (fun hp => (PV.field rfl Fo87_2 rfl)) ?_
 refine RG.g rfl (fun hp => (PV.load1 rfl Sc2 (gt' hp) (Rd.blk rfl))) ?_
 refine RG.gsC rfl rfl rfl rfl En184 (fun hp => ⟨_, (acons (gt' hp) (acons rfl (acons rfl anil))), l09In_s ⟨rfl, rfl, rfl⟩⟩) ?_
 refine RG.p (PV.pickA rfl rfl (fun hq => gt' (geqT hq)) rfl) (RG.br rfl (RG.nil ?_))
 refine WP.ret ?_
 have e : validT t = ((within t.o 0 7 && within t.x (-80) 80) && within t.y (-80) 80) := (Bool.and_assoc _ _ _).symm
 rw [e] at k
 exact ⟨_, _, rv rfl rfl, Cv.p, k⟩
theorem okSh_r {s : Shape} (k : R (.bool (okSh s)) G L) : CallT Tryz.prog 228 #[vT shapeT s] G L R := by
 refine CallT.enter (args := _) Tryz.func228 rfl rfl (by kernel_rfl) rfl ?_
 refine WP.sr ?_
 refine RG.ot rfl (OT.box (cs := shapeT.enc s) rfl rfl rfl fun b1 => ?_)
 refine RG.br rfl (RG.nil (WP.sr (RG.p (PV.field rfl Fo109_0 rfl) (RG.p (PV.load1 rfl Sc2 rfl (Rd.blk rfl)) ?_))))
 refine RG.callF (vs := [_]) rfl rfl En254 rfl (l09Layer_s ?_)
 refine RG.bl rfl ?_
 refine RG.g rfl (fun hp => (PV.field rfl Fo109_1 rfl)) ?_
 refine RG.g rfl (fun hp => (PV.loadB (vs := [_, _, _, _]) rfl Ag101 (gt' hp) rfl rfl)) ?_
 refine RG.gsC rfl rfl rfl rfl En78 (fun hp => ⟨_, (acons (gt' hp) anil), l09Rect_r ⟨rfl, rfl, rfl⟩⟩) ?_
 refine RG.p (PV.pickA rfl rfl (fun hq => gt' (geqT hq)) rfl) (RG.br rfl (RG.nil ?_))
 exact WP.ret ⟨_, _, rv rfl rfl, Cv.p, k⟩
theorem okIn_r {n : Inst} {k0 : Int} (hk : 0 <= k0 ∧ k0 <= 1000) (k : R (.bool (okIn k0 n)) G L) : CallT Tryz.prog 230 #[vT instT n, vi k0] G L R := by
 refine CallT.enter (args := _) Tryz.func230 rfl rfl (by kernel_rfl) rfl ?_
 refine WP.sr ?_
 refine RG.ot rfl (OT.box (cs := instT.enc n) rfl rfl rfl fun b2 => ?_)
 refine RG.br rfl (RG.nil (WP.seq (WP.sr (RG.p (PV.field rfl Fo111_0 rfl) (RG.p (PV.load1 rfl Sc2 rfl (Rd.blk rfl)) (RG.ml rfl (RG.p (PV.sub rfl rfl rfl (by omega)) ?_)))))))
 refine RG.callF (vs := [_, _, _]) rfl rfl En184 rfl (l09In_s ?_)
 refine RG.p (PV.not rfl rfl) (RG.bl rfl ?_)
 refine RG.g rfl (fun hp => (PV.field rfl Fo111_1 rfl)) ?_
 refine RG.g rfl (fun hp => (PV.loadB (vs := [_, _, _]) rfl Ag87 (gt' hp) rfl rfl)) ?_
 refine RG.gsC rfl rfl rfl rfl En125 (fun hp => ⟨_, (acons (gt' hp) anil), l09Trans_r ⟨rfl, rfl, rfl⟩⟩) ?_
 refine RG.g rfl (fun hp => (PV.not rfl (gt' hp))) ?_
 refine RG.p (PV.pickO rfl rfl rfl (fun hq => gt' (geqF hq))) (RG.bl rfl ?_)
 refine RG.g rfl (fun hp => (PV.field rfl Fo111_2 rfl)) ?_
 refine RG.g rfl (fun hp => (PV.load1 rfl Sc2 (gt' hp) (Rd.blk rfl))) ?_
 refine RG.gsC rfl rfl rfl rfl En184 (fun hp => ⟨_, (acons (gt' hp) (acons rfl (acons rfl anil))), l09In_s ⟨rfl, rfl, rfl⟩⟩) ?_
 refine RG.g rfl (fun hp => (PV.not rfl (gt' hp))) ?_
 refine RG.p (PV.pickO rfl rfl rfl (fun hq => gt' (geqF hq))) (RG.bl rfl ?_)
 refine RG.g rfl (fun hp => (PV.field rfl Fo111_3 rfl)) ?_
 refine RG.g rfl (fun hp => (PV.load1 rfl Sc2 (gt' hp) (Rd.blk rfl))) ?_
 refine RG.gsC rfl rfl rfl rfl En184 (fun hp => ⟨_, (acons (gt' hp) (acons rfl (acons rfl anil))), l09In_s ⟨rfl, rfl, rfl⟩⟩) ?_
 refine RG.g rfl (fun hp => (PV.not rfl (gt' hp))) ?_
 refine RG.p (PV.pickO rfl rfl rfl (fun hq => gt' (geqF hq))) (RG.nil ?_)
 refine WP.cond rfl (fun h1 => ?_) fun h1 => ?_
 ·have e : okIn k0 n = false := by
   simp [okIn] at h1 ⊢; grind
  rw [e] at k
  refine WP.sr (RG.br rfl (RG.nil ?_))
  exact WP.ret ⟨_, _, rv rfl rfl, Cv.p, k⟩
 ·refine WP.skip ?_
  refine WP.seq (WP.sr (RG.p (PV.field rfl Fo111_4 rfl) (RG.p (PV.load1 rfl Sc2 rfl (Rd.blk rfl)) ?_)))
  refine RG.callF (vs := [_, _, _]) rfl rfl En184 rfl (l09In_s ?_)
  refine RG.p (PV.not rfl rfl) (RG.bl rfl ?_)
  refine RG.g rfl (fun hp => (PV.field rfl Fo111_5 rfl)) ?_
  refine RG.g rfl (fun hp => (PV.load1 rfl Sc2 (gt' hp) (Rd.blk rfl))) ?_
  refine RG.gsC rfl rfl rfl rfl En184 (fun hp => ⟨_, (acons (gt' hp) (acons rfl (acons rfl anil))), l09In_s ⟨rfl, rfl, rfl⟩⟩) ?_
  refine RG.g rfl (fun hp => (PV.not rfl (gt' hp))) ?_
  refine RG.p (PV.pickO rfl rfl rfl (fun hq => gt' (geqF hq))) (RG.nil ?_)
  refine WP.cond rfl (fun h2 => ?_) fun h2 => ?_
  ·have e : okIn k0 n = false := by
    simp [okIn] at h2 ⊢; grind
   rw [e] at k
   refine WP.sr (RG.br rfl (RG.nil ?_))
   exact WP.ret ⟨_, _, rv rfl rfl, Cv.p, k⟩
  ·have e : okIn k0 n = ((decide (1 < n.cols) || decide (n.sx = 0)) && (decide (1 < n.rows) || decide (n.sy = 0))) := by
    simp [okIn] at h1 h2 ⊢; grind
   rw [e] at k
   refine WP.skip (WP.sr (RG.p (PV.field rfl Fo111_2 rfl) (RG.p (PV.load1 rfl Sc2 rfl (Rd.blk rfl)) (RG.p (PV.gtr rfl rfl rfl) (RG.bl rfl ?_)))))
   refine RG.g rfl (fun hp => (PV.field rfl Fo111_4 rfl)) ?_
   refine RG.g rfl (fun hp => (PV.load1 rfl Sc2 (gt' hp) (Rd.blk rfl))) ?_
   refine RG.g rfl (fun hp => (PV.eql rfl (gt' hp) rfl)) ?_
   refine RG.p (PV.pickO rfl rfl rfl (fun hq => gt' (geqF hq))) (RG.bl rfl ?_)
   refine RG.g rfl (fun hp => (PV.field rfl Fo111_3 rfl)) ?_
   refine RG.g rfl (fun hp => (PV.load1 rfl Sc2 (gt' hp) (Rd.blk rfl))) ?_
   refine RG.g rfl (fun hp => (PV.gtr rfl (gt' hp) rfl)) ?_
   refine RG.g rfl (fun hp => (PV.mvB (.inl rfl) (gt' hp))) ?_
   refine RG.gs2 rfl rfl rfl (fun hp => (PV.field rfl Fo111_5 rfl)) (RG.gs2 rfl rfl rfl (fun hp => (PV.load1 rfl Sc2 (gt' hp) (Rd.blk rfl))) (RG.gs2 rfl rfl rfl (fun hp => (PV.eql rfl (gt' hp) rfl)) ?_))
   refine RG.g rfl (fun hp => (PV.pickO rfl (gt' hp) rfl (fun hq => gt' (gandF hp hq)))) ?_
   refine RG.p (PV.pickA rfl rfl (fun hq => gt' (geqT hq)) rfl) (RG.br rfl (RG.nil ?_))
   exact WP.ret ⟨_, _, rv rfl rfl, Cv.p, k⟩
theorem okCell_r {c : Cell} {k0 : Int} (hk : 0 <= k0 ∧ k0 <= 1000) (h1 : Rs G L shapeT c.shapes.v c.shapes.xs) (h2 : Rs G L labelT c.labels.v c.labels.xs) (h3 : Rs G L instT c.insts.v c.insts.xs) (hs : c.name.size <= 9223372036854775807) (hlen : lenL c.labels.xs)
  (k : R (.bool (okCell k0 (erCl c))) G L) : CallT Tryz.prog 183 #[vT cellT c, vi k0] G L R := by
 have any0 : ∀ {α : Type} [Inhabited α] {p : α -> Bool} {xs : List α}, (∀ j, j < xs.length -> p (gd xs j) = true) -> (xs.any fun a => !p a) = false := fun {α} _ {p xs} h => by
  rw [List.any_eq_false]; intro a ha; obtain ⟨j, hj, rfl⟩ := List.getElem_of_mem ha; have := h j hj; rw [gd_eq hj] at this; simp [this]
 have any1 : ∀ {α : Type} [Inhabited α] {p : α -> Bool} {xs : List α} {j : Nat}, j < xs.length -> p (gd xs j) = false -> (xs.any fun a => !p a) = true := fun {α} _ {p xs j} h e =>
  List.any_eq_true.2 ⟨gd xs j, gd_mem h, by simp [e]⟩
 refine CallT.bd h1 fun hb1 => ?_
 refine CallT.bd h2 fun hb2 => ?_
 refine CallT.bd h3 fun hb3 => ?_
 refine CallT.enter (args := _) Tryz.func183 rfl rfl (by kernel_rfl) rfl ?_
 refine WP.sr ?_
 refine RG.ot rfl (OT.box (cs := cellT.enc c) rfl rfl rfl fun b2 => ?_)
 refine RG.br rfl (RG.nil (WP.seq (WP.sr (RG.p (PV.field rfl Fo95_0 rfl) (RG.p (PV.load1 rfl Sc9 rfl (Rd.blk rfl)) ?_)))))
 refine RG.callF (vs := [_]) rfl rfl En227 rfl (isName_r hs ?_)
 refine RG.p (PV.not rfl rfl) (RG.bl rfl ?_)
 refine RG.g rfl (fun hp => (PV.field rfl Fo95_1 rfl)) ?_
 refine RG.g rfl (fun hp => (PV.load1 rfl Sc66 (gt' hp) (Rd.blk rfl))) ?_
 refine RG.g rfl (fun hp => (PV.len rfl Tryz.underlying66 (gt' hp) (SlF.r h1))) ?_
 refine RG.g rfl (fun hp => (PV.gtr rfl (gt' hp) rfl)) ?_
 refine RG.p (PV.pickO rfl rfl rfl (fun hq => gt' (geqF hq))) (RG.bl rfl ?_)
 refine RG.g rfl (fun hp => (PV.field rfl Fo95_2 rfl)) ?_
 refine RG.g rfl (fun hp => (PV.load1 rfl Sc92 (gt' hp) (Rd.blk rfl))) ?_
 refine RG.g rfl (fun hp => (PV.len rfl Tryz.underlying92 (gt' hp) (SlF.r h2))) ?_
 refine RG.g rfl (fun hp => (PV.gtr rfl (gt' hp) rfl)) ?_
 refine RG.p (PV.pickO rfl rfl rfl (fun hq => gt' (geqF hq))) (RG.bl rfl ?_)
 refine RG.g rfl (fun hp => (PV.field rfl Fo95_3 rfl)) ?_
 refine RG.g rfl (fun hp => (PV.load1 rfl Sc93 (gt' hp) (Rd.blk rfl))) ?_
 refine RG.g rfl (fun hp => (PV.len rfl Tryz.underlying93 (gt' hp) (SlF.r h3))) ?_
 refine RG.g rfl (fun hp => (PV.gtr rfl (gt' hp) rfl)) ?_
 refine RG.p (PV.pickO rfl rfl rfl (fun hq => gt' (geqF hq))) (RG.nil ?_)
 refine WP.cond rfl (fun h4 => ?_) fun h4 => ?_
 ·have e : okCell k0 (erCl c) = false := by
   simp [okCell, erCl] at h4 ⊢
   grind
  rw [e] at k
  refine WP.sr (RG.br rfl (RG.nil ?_))
  exact WP.ret ⟨_, _, rv rfl rfl, Cv.p, k⟩
 ·have e0 : okCell k0 (erCl c) = (!(c.shapes.xs.any fun s => !okSh s) && !(c.labels.xs.any fun l => !validLb l) && !(c.insts.xs.any fun n => !okIn k0 n)) := by
   simp [okCell, erCl] at h4 ⊢
   grind
  rw [e0] at k
  refine WP.skip (WP.seq (WP.sr (RG.mr rfl (RG.nil (WP.block ?_)))))
  refine WP.loop1 [1, 2] (fun i => i <= c.shapes.xs.length ∧ ∀ j, j < i -> okSh (gd c.shapes.xs j) = true) (fun i => [(5, vi i)]) (fun i => blk b2 95 (cellT.enc c) :: L) (fun i => c.shapes.xs.length - i) 0 ⟨by omega, fun j h => by omega⟩ ⟨rfl, trivial⟩ Cv.p ?_
  rintro i τ ⟨hi, hj⟩
  refine WP.seq (WP.sr (RG.ml rfl (RG.p (PV.field rfl Fo95_1 rfl) (RG.p (PV.load1 rfl Sc66 rfl (Rd.blk rfl)) (RG.p (PV.len rfl Tryz.underlying66 rfl (SlF.r h1)) (RG.p (PV.lss rfl rfl rfl) (RG.nil ?_)))))))
  refine WP.cond rfl (fun h5 => ?_) fun h5 => ?_
  ·have h5 := odt h5
   refine WP.skip (WP.seq (WP.block (WP.sr (RG.p (PV.field rfl Fo95_1 rfl) (RG.p (PV.load1 rfl Sc66 rfl (Rd.blk rfl)) (RG.ml rfl (RG.p (PV.idxS rfl Is66 rfl (SlF.r h1) rfl rfl (by omega)) (RG.p (PV.loadE rfl Ag109 rfl rfl (El.r h1 (getG (by omega)))) ?_))))))))
   refine RG.callF (vs := [_]) rfl rfl En228 rfl (okSh_r ?_)
   refine RG.p (PV.not rfl rfl) (RG.nil ?_)
   refine WP.cond rfl (fun h6 => ?_) fun h6 => ?_
   ·rw [any1 (j := i) (by omega) (by simpa using h6)] at k
    refine WP.sr (RG.br rfl (RG.nil ?_))
    exact WP.ret ⟨_, _, rv rfl rfl, Cv.p, k⟩
   ·have hj' : ∀ j, j < i + 1 -> okSh (gd c.shapes.xs j) = true := fun j h => by
     by_cases q : j = i
     ·rw [q]; simpa using h6
     ·exact hj j (by omega)
    refine WP.skip (WP.region (RG.ml rfl (RG.p (PV.add rfl rfl rfl (by omega)) (RG.mr rfl (RG.nil ?_)))))
    exact ⟨rfl, i + 1, ⟨by omega, hj'⟩, ⟨rfl, trivial⟩, ⟨rfl, rfl, trivial⟩, Cv.p, by omega⟩
  ·have h5 := odf h5
   rw [any0 (fun j h => hj j (by omega))] at k
   refine WP.exit (WP.seq (WP.sr (RG.mr rfl (RG.nil (WP.block ?_)))))
   refine WP.loop1 [1, 2] (fun i => i <= c.labels.xs.length ∧ ∀ j, j < i -> validLb (gd c.labels.xs j) = true) (fun i => [(6, vi i)]) (fun i => blk b2 95 (cellT.enc c) :: L) (fun i => c.labels.xs.length - i) 0 ⟨by omega, fun j h => by omega⟩ ⟨rfl, trivial⟩ Cv.p ?_
   rintro i τ ⟨hi, hj⟩
   refine WP.seq (WP.sr (RG.ml rfl (RG.p (PV.field rfl Fo95_2 rfl) (RG.p (PV.load1 rfl Sc92 rfl (Rd.blk rfl)) (RG.p (PV.len rfl Tryz.underlying92 rfl (SlF.r h2)) (RG.p (PV.lss rfl rfl rfl) (RG.nil ?_)))))))
   refine WP.cond rfl (fun h5 => ?_) fun h5 => ?_
   ·have h5 := odt h5
    refine WP.skip (WP.seq (WP.block (WP.sr (RG.p (PV.field rfl Fo95_2 rfl) (RG.p (PV.load1 rfl Sc92 rfl (Rd.blk rfl)) (RG.ml rfl (RG.p (PV.idxS rfl Is92 rfl (SlF.r h2) rfl rfl (by omega)) (RG.p (PV.loadE rfl Ag182 rfl rfl (El.r h2 (getG (by omega)))) ?_))))))))
    refine RG.callF (vs := [_]) rfl rfl En229 rfl (validLb_r (hlen _ (by omega)) ?_)
    refine RG.p (PV.not rfl rfl) (RG.nil ?_)
    refine WP.cond rfl (fun h6 => ?_) fun h6 => ?_
    ·rw [any1 (p := validLb) (j := i) (by omega) (by simpa using h6)] at k
     refine WP.sr (RG.br rfl (RG.nil ?_))
     exact WP.ret ⟨_, _, rv rfl rfl, Cv.p, k⟩
    ·have hj' : ∀ j, j < i + 1 -> validLb (gd c.labels.xs j) = true := fun j h => by
      by_cases q : j = i
      ·rw [q]; simpa using h6
      ·exact hj j (by omega)
     refine WP.skip (WP.region (RG.ml rfl (RG.p (PV.add rfl rfl rfl (by omega)) (RG.mr rfl (RG.nil ?_)))))
     exact ⟨rfl, i + 1, ⟨by omega, hj'⟩, ⟨rfl, trivial⟩, ⟨rfl, rfl, trivial⟩, Cv.p, by omega⟩
   ·have h5 := odf h5
    rw [any0 (p := validLb) (fun j h => hj j (by omega))] at k
    refine WP.exit (WP.seq (WP.sr (RG.mr rfl (RG.nil (WP.block ?_)))))
    refine WP.loop1 [1, 2] (fun i => i <= c.insts.xs.length ∧ ∀ j, j < i -> okIn k0 (gd c.insts.xs j) = true) (fun i => [(7, vi i)]) (fun i => blk b2 95 (cellT.enc c) :: L) (fun i => c.insts.xs.length - i) 0 ⟨by omega, fun j h => by omega⟩ ⟨rfl, trivial⟩ Cv.p ?_
    rintro i τ ⟨hi, hj⟩
    refine WP.seq (WP.sr (RG.ml rfl (RG.p (PV.field rfl Fo95_3 rfl) (RG.p (PV.load1 rfl Sc93 rfl (Rd.blk rfl)) (RG.p (PV.len rfl Tryz.underlying93 rfl (SlF.r h3)) (RG.p (PV.lss rfl rfl rfl) (RG.nil ?_)))))))
    refine WP.cond rfl (fun h5 => ?_) fun h5 => ?_
    ·have h5 := odt h5
     refine WP.skip (WP.seq (WP.block (WP.sr (RG.p (PV.field rfl Fo95_3 rfl) (RG.p (PV.load1 rfl Sc93 rfl (Rd.blk rfl)) (RG.ml rfl (RG.p (PV.idxS rfl Is93 rfl (SlF.r h3) rfl rfl (by omega)) (RG.p (PV.loadE rfl Ag111 rfl rfl (El.r h3 (getG (by omega)))) (RG.ml rfl ?_)))))))))
     refine RG.callF (vs := [_, _]) rfl rfl En230 rfl (okIn_r hk ?_)
     refine RG.p (PV.not rfl rfl) (RG.nil ?_)
     refine WP.cond rfl (fun h6 => ?_) fun h6 => ?_
     ·rw [any1 (p := okIn k0) (j := i) (by omega) (by simpa using h6)] at k
      refine WP.sr (RG.br rfl (RG.nil ?_))
      exact WP.ret ⟨_, _, rv rfl rfl, Cv.p, k⟩
     ·have hj' : ∀ j, j < i + 1 -> okIn k0 (gd c.insts.xs j) = true := fun j h => by
       by_cases q : j = i
       ·rw [q]; simpa using h6
       ·exact hj j (by omega)
      refine WP.skip (WP.region (RG.ml rfl (RG.p (PV.add rfl rfl rfl (by omega)) (RG.mr rfl (RG.nil ?_)))))
      exact ⟨rfl, i + 1, ⟨by omega, hj'⟩, ⟨rfl, trivial⟩, ⟨rfl, rfl, trivial⟩, Cv.p, by omega⟩
    ·have h5 := odf h5
     rw [any0 (p := okIn k0) (fun j h => hj j (by omega))] at k
     refine WP.exit (WP.sr (RG.br rfl (RG.nil ?_)))
     exact WP.ret ⟨_, _, rv rfl rfl, Cv.p, k⟩
theorem okLib_r {l : Lib} (hL : RLib G L l.cells.v l.cells.xs) (hlen : lenC (erCls l.cells.xs)) (k : R (.bool (okLib (erCls l.cells.xs))) G L) : CallT Tryz.prog 121 #[vT libT l] G L R := by
 have hE := erCls_len l.cells.xs
 have hn : ∀ j, j < l.cells.xs.length -> (gd (erCls l.cells.xs) j).name = (gd l.cells.xs j).name := fun j hj => by rw [erCls_gd hj]; rfl
 refine CallT.bd hL.c fun hb => ?_
 refine CallT.enter (args := _) Tryz.func121 rfl rfl (by kernel_rfl) rfl ?_
 refine WP.sr ?_
 refine RG.ot rfl (OT.box (cs := libT.enc l) rfl rfl rfl fun b1 => ?_)
 refine RG.br rfl (RG.nil (WP.seq (WP.sr (RG.p (PV.field rfl Fo26_0 rfl) (RG.p (PV.load1 rfl Sc24 rfl (Rd.blk rfl)) (RG.p (PV.len rfl Tryz.underlying24 rfl (SlF.r hL.c)) (RG.p (PV.lss rfl rfl rfl) (RG.bl rfl ?_))))))))
 refine RG.g rfl (fun hp => (PV.field rfl Fo26_0 rfl)) ?_
 refine RG.g rfl (fun hp => (PV.load1 rfl Sc24 (gt' hp) (Rd.blk rfl))) ?_
 refine RG.g rfl (fun hp => (PV.len rfl Tryz.underlying24 (gt' hp) (SlF.r hL.c))) ?_
 refine RG.g rfl (fun hp => (PV.gtr rfl (gt' hp) rfl)) ?_
 refine RG.p (PV.pickO rfl rfl rfl (fun hq => gt' (geqF hq))) (RG.nil ?_)
 refine WP.cond rfl (fun h0 => ?_) fun h0 => ?_
 ·have e : okLib (erCls l.cells.xs) = false := by
   simp at h0
   simp [okLib, hE]; omega
  rw [e] at k
  refine WP.sr (RG.br rfl (RG.nil ?_))
  exact WP.ret ⟨_, _, rv rfl rfl, Cv.p, k⟩
 ·simp at h0
  refine WP.skip (WP.seq (WP.sr (RG.mr rfl (RG.nil (WP.block ?_)))))
  refine WP.loop1 [1] (fun i => i <= l.cells.xs.length ∧ ∀ j, j < i -> cellAt (erCls l.cells.xs) j = true) (fun i => [(3, vi i)]) (fun i => blk b1 26 (libT.enc l) :: L) (fun i => l.cells.xs.length - i) 0 ⟨by omega, fun j h => by omega⟩ ⟨rfl, trivial⟩ Cv.p ?_
  rintro i τ ⟨hi, hj⟩
  refine WP.seq (WP.sr (RG.ml rfl (RG.p (PV.field rfl Fo26_0 rfl) (RG.p (PV.load1 rfl Sc24 rfl (Rd.blk rfl)) (RG.p (PV.len rfl Tryz.underlying24 rfl (SlF.r hL.c)) (RG.p (PV.lss rfl rfl rfl) (RG.nil ?_)))))))
  refine WP.cond rfl (fun h2 => ?_) fun h2 => ?_
  ·have h2 := odt h2
   have h3 : i < l.cells.xs.length := by omega
   refine WP.skip (WP.seq (WP.block (WP.seq (WP.sr (RG.p (PV.field rfl Fo26_0 rfl) (RG.p (PV.load1 rfl Sc24 rfl (Rd.blk rfl)) (RG.ml rfl (RG.p (PV.idxS rfl Is24 rfl (SlF.r hL.c) rfl rfl (by omega)) (RG.p (PV.loadE rfl Ag95 rfl rfl (El.r hL.c (getG (by omega)))) (RG.ml rfl ?_))))))))))
   refine RG.callF (vs := [_, _]) rfl rfl En183 rfl (okCell_r (by omega) (hL.sa (by omega)).up (hL.la (by omega)).up (hL.na (by omega)).up (hlen.one (by omega)).1 (hlen.one (by omega)).2 ?_)
   refine RG.p (PV.not rfl rfl) (RG.nil ?_)
   refine WP.cond rfl (fun h4 => ?_) fun h4 => ?_
   ·have e : cellAt (erCls l.cells.xs) i = false := by
     simp at h4
     rw [cellAt, erCls_gd h3, h4]; rfl
    rw [okLib_false (by omega) e] at k
    refine WP.sr (RG.br rfl (RG.nil ?_))
    exact WP.ret ⟨_, _, rv rfl rfl, Cv.p, k⟩
   ·simp at h4
    refine WP.skip (WP.sr (RG.mr rfl (RG.nil (WP.block ?_))))
    refine WP.loop1 [1, 3] (fun m => m <= i ∧ ∀ j, j < m -> (gd l.cells.xs j).name ≠ (gd l.cells.xs i).name) (fun m => [(4, vi m)]) (fun m => blk b1 26 (libT.enc l) :: L) (fun m => i - m) 0 ⟨by omega, fun j h => by omega⟩ ⟨rfl, trivial⟩ Cv.p ?_
    rintro m τ ⟨hm, hq⟩
    refine WP.seq (WP.sr (RG.ml rfl (RG.ml rfl (RG.p (PV.lss rfl rfl rfl) (RG.nil ?_)))))
    refine WP.cond rfl (fun h5 => ?_) fun h5 => ?_
    ·have h5 := odt h5
     refine WP.skip (WP.seq (WP.block (WP.seq ?_)))
     refine WP.regionQ (by kernel_rfl) (by kernel_rfl) ?_
     refine RQ.pv rfl (PV.field rfl Fo26_0 rfl) (RQ.pv rfl (PV.load1 rfl Sc24 rfl (Rd.blk rfl)) (RQ.pv rfl (PV.mvI (.inl rfl) rfl) (RQ.pv rfl (PV.idxS rfl Is24 rfl (SlF.r hL.c) rfl rfl (by omega)) (RQ.pv rfl (PV.field rfl Fo95_0 rfl) (RQ.pv rfl (PV.loadF rfl Sc9 rfl rfl (El.r hL.c (getG (by omega))) rfl) (RQ.pv rfl (PV.field rfl Fo26_0 rfl) (RQ.pv rfl (PV.load1 rfl Sc24 rfl (Rd.blk rfl)) (RQ.pv rfl (PV.mvI (.inl rfl) rfl) (RQ.pv rfl (PV.idxS rfl Is24 rfl (SlF.r hL.c) rfl rfl (by omega)) (RQ.pv rfl (PV.field rfl Fo95_0 rfl) (RQ.pv rfl (PV.loadF rfl Sc9 rfl rfl (El.r hL.c (getG (by omega))) rfl) (RQ.pv rfl (PV.eqlS rfl rfl rfl) (RQ.nil ?_)))))))))))))
     refine WP.cond rfl (fun h6 => ?_) fun h6 => ?_
     ·have h6 := odt h6
      have e : cellAt (erCls l.cells.xs) i = false := by
       have : nameAt (erCls l.cells.xs) i = false := by
        rw [nameAt, decide_eq_false_iff_not]
        intro hh
        have := hh m (by omega)
        rw [hn m (by omega), hn i h3] at this
        exact this h6
       rw [cellAt, this, Bool.and_false]
      rw [okLib_false (by omega) e] at k
      refine WP.sr (RG.br rfl (RG.nil ?_))
      exact WP.ret ⟨_, _, rv rfl rfl, Cv.p, k⟩
     ·have h6 := odf h6
      have hq' : ∀ j, j < m + 1 -> (gd l.cells.xs j).name ≠ (gd l.cells.xs i).name := fun j h => by
       by_cases c : j = m
       ·rw [c]; exact h6
       ·exact hq j (by omega)
      refine WP.skip (WP.region (RG.ml rfl (RG.p (PV.add rfl rfl rfl (by omega)) (RG.mr rfl (RG.nil ?_)))))
      exact ⟨rfl, m + 1, ⟨by omega, hq'⟩, ⟨rfl, trivial⟩, ⟨rfl, rfl, trivial⟩, Cv.p, by omega⟩
    ·have h5 := odf h5
     have e : cellAt (erCls l.cells.xs) i = true := by
      have : nameAt (erCls l.cells.xs) i = true := by
       rw [nameAt, decide_eq_true_iff]
       intro j hj2
       rw [hn j (by omega), hn i h3]
       exact hq j (by omega)
      rw [cellAt, this, erCls_gd h3, h4]; rfl
     have hj' : ∀ j, j < i + 1 -> cellAt (erCls l.cells.xs) j = true := fun j h => by
      by_cases c : j = i
      ·rw [c]; exact e
      ·exact hj j (by omega)
     refine WP.exit (WP.region (RG.ml rfl (RG.p (PV.add rfl rfl rfl (by omega)) (RG.mr rfl (RG.nil ?_)))))
     exact ⟨rfl, i + 1, ⟨by omega, hj'⟩, ⟨rfl, trivial⟩, ⟨rfl, trivial⟩, Cv.p, by omega⟩
  ·have h2 := odf h2
   rw [okLib_all (by omega) (by omega) (fun j h => hj j (by omega))] at k
   refine WP.exit (WP.sr (RG.br rfl (RG.nil ?_)))
   exact WP.ret ⟨_, _, rv rfl rfl, Cv.p, k⟩
theorem hasCl_r {l : Lib} {cell : Int} (hL : RLib G L l.cells.v l.cells.xs) (hlen : lenC (erCls l.cells.xs)) (k : R (.bool (hasCl (erCls l.cells.xs) cell)) G L) : CallT Tryz.prog 122 #[vT libT l, vi cell] G L R := by
 have hE := erCls_len l.cells.xs
 refine CallT.bd hL.c fun hb => ?_
 rw [hasCl, hE] at k
 refine CallT.enter (args := _) Tryz.func122 rfl rfl (by kernel_rfl) rfl ?_
 refine WP.sr ?_
 refine RG.ot rfl (OT.box (cs := libT.enc l) rfl rfl rfl fun b2 => ?_)
 refine RG.br rfl (RG.nil (WP.sr (RG.p (PV.loadW rfl Ag26 rfl rfl) ?_)))
 refine RG.callF (vs := [_]) rfl rfl En121 rfl (okLib_r hL.up hlen ?_)
 refine RG.bl rfl ?_
 refine RG.g rfl (fun hp => (PV.mvI (.inl rfl) rfl)) ?_
 refine RG.g rfl (fun hp => (PV.field rfl Fo26_0 rfl)) ?_
 refine RG.g rfl (fun hp => (PV.load1 rfl Sc24 (gt' hp) (Rd.blk rfl))) ?_
 refine RG.g rfl (fun hp => (PV.len rfl Tryz.underlying24 (gt' hp) (SlF.r hL.c))) ?_
 refine RG.g rfl (fun hp => (PV.sub rfl (gt' hp) rfl (by first | omega | (simp at hp; omega)))) ?_
 refine RG.gsC rfl rfl rfl rfl En184 (fun hp => ⟨_, (acons (gt' hp) (acons rfl (acons (gt' hp) anil))), l09In_s ⟨rfl, rfl, rfl⟩⟩) ?_
 refine RG.p (PV.pickA rfl rfl (fun hq => gt' (geqT hq)) rfl) (RG.br rfl (RG.nil ?_))
 exact WP.ret ⟨_, _, rv rfl rfl, Cv.p, k⟩
def celE (cs : List ECell) (cell : Int) : Int := bif !okLib cs then 1 else bif !within cell 0 ((cs.length : Int) - 1) then 5 else 0
theorem celE_i {l : Lib} {cell : Int} (hL : RLib G L l.cells.v l.cells.xs) (hlen : lenC (erCls l.cells.xs)) (k : R (vi (celE (erCls l.cells.xs) cell)) G L) : CallT Tryz.prog 112 #[vT libT l, vi cell] G L R := by
 have hE := erCls_len l.cells.xs
 refine CallT.bd hL.c fun hb => ?_
 rw [celE, hE] at k
 refine CallT.enter (args := _) Tryz.func112 rfl rfl (by kernel_rfl) rfl ?_
 refine WP.sr ?_
 refine RG.ot rfl (OT.box (cs := libT.enc l) rfl rfl rfl fun b2 => ?_)
 refine RG.mr rfl (RG.nil (WP.seq (WP.block (WP.sr (RG.p (PV.loadW rfl Ag26 rfl rfl) ?_)))))
 refine RG.callF (vs := [_]) rfl rfl En55 rfl (okLib_i hL.up hlen ?_)
 refine RG.p (PV.not rfl rfl) (RG.br rfl (RG.nil ?_))
 refine WP.cond rfl (fun h1 => ?_) fun h1 => ?_
 ·rw [h1, cond_true] at k
  refine WP.sr (RG.mr rfl (RG.nil ?_))
  exact WP.ret ⟨_, _, rv rfl rfl, Cv.p, k⟩
 ·rw [h1, cond_false] at k
  refine WP.sr (RG.ml rfl (RG.p (PV.field rfl Fo26_0 rfl) (RG.p (PV.load1 rfl Sc24 rfl (Rd.blk rfl)) (RG.p (PV.len rfl Tryz.underlying24 rfl (SlF.r hL.c)) (RG.p (PV.sub rfl rfl rfl (by omega)) ?_)))))
  refine RG.callF (vs := [_, _, _]) rfl rfl En56 rfl (within_s ?_)
  refine RG.p (PV.not rfl rfl) (RG.br rfl (RG.nil ?_))
  refine WP.cond rfl (fun h2 => ?_) fun h2 => ?_
  ·rw [h2, cond_true] at k
   refine WP.sr (RG.mr rfl (RG.nil ?_))
   exact WP.ret ⟨_, _, rv rfl rfl, Cv.p, k⟩
  ·rw [h2, cond_false] at k
   refine WP.skip (WP.sr (RG.mr rfl (RG.nil ?_)))
   exact WP.ret ⟨_, _, rv rfl rfl, Cv.p, k⟩
theorem part0 {α : Type} [Inhabited α] {xs : List α} {i n : Nat} (h : i < n) (h' : i < xs.length) : ((xs.take n).drop 0)[i]? = some (gd xs i) := by
 rw [List.drop_zero, List.getElem?_take, if_pos h, getG h']
theorem erCl_insts {xs : List Cell} {i : Nat} (h : i < xs.length) : (gd (erCls xs) i).insts = (gd xs i).insts.xs := by rw [erCls_gd h]; rfl
theorem cnt_step {cs : List ECell} (hok : okLib cs = true) {i m : Nat} (hi : i < cs.length) (hm : m < (gd cs i).insts.length) :
  (0 <= (gd (gd cs i).insts m).cell ∧ (gd (gd cs i).insts m).cell < i) ∧ (0 <= (gd (gd cs i).insts m).cols * (gd (gd cs i).insts m).rows ∧ (gd (gd cs i).insts m).cols * (gd (gd cs i).insts m).rows <= 16) ∧
  (0 <= (gd (gd cs i).insts m).cols * (gd (gd cs i).insts m).rows * gd (cnts cs i) (gd (gd cs i).insts m).cell.toNat ∧ (gd (gd cs i).insts m).cols * (gd (gd cs i).insts m).rows * gd (cnts cs i) (gd (gd cs i).insts m).cell.toNat <= 9511476839856144) ∧
  (1 <= 1 + costL (cntI (cnts cs i)) ((gd cs i).insts.take m) ∧ 1 + costL (cntI (cnts cs i)) ((gd cs i).insts.take m) <= 76091814718849153) ∧
  1 + costL (cntI (cnts cs i)) ((gd cs i).insts.take (m + 1)) = 1 + costL (cntI (cnts cs i)) ((gd cs i).insts.take m) + (gd (gd cs i).insts m).cols * (gd (gd cs i).insts m).rows * gd (cnts cs i) (gd (gd cs i).insts m).cell.toNat := by
 have ho := okLib_inst hok hi hm
 obtain ⟨h1, _, h3, h4, _, _⟩ := okIn_bd ho
 have e1 := mul_bd (a := (gd (gd cs i).insts m).cols) (b := (gd (gd cs i).insts m).rows) (A := 4) (B := 4) (by omega) (by omega) (by omega)
 have e0 : 0 <= (gd (gd cs i).insts m).cols * (gd (gd cs i).insts m).rows := Int.mul_nonneg (by omega) (by omega)
 have hb := cnts_big hok hi
 have e2 := cntI_bd (ks := cnts cs i) (M := 594467302491009) ho (hb _ (by omega))
 have e3 := ownCnt_bd hok (M := 594467302491009) (by omega) hi hb m (by omega)
 simp only [cntI] at e2
 refine ⟨by omega, by omega, by omega, by omega, ?_⟩
 rw [costL_take _ hm, <- Int.add_assoc]; rfl
theorem elCnt_i {l : Lib} {cell : Int} (hL : RLib G L l.cells.v l.cells.xs) (hok : okLib (erCls l.cells.xs) = true) (hc : 0 <= cell ∧ cell < (erCls l.cells.xs).length) (k : R (vi (cntOf (erCls l.cells.xs) cell.toNat)) G L) : CallT Tryz.prog 113 #[vT libT l, vi cell] G L R := by
 have hE := erCls_len l.cells.xs
 have h8 := okLib_len hok
 refine CallT.enter (args := _) Tryz.func113 rfl rfl (by kernel_rfl) rfl ?_
 refine WP.sr ?_
 refine RG.ot rfl (OT.box (cs := libT.enc l) rfl rfl rfl fun b2 => ?_)
 refine RG.mr rfl (RG.nil (WP.sr ?_))
 refine RG.ot rfl (OT.bslice (F := intT) (els := []) rfl El45 rfl (by decide) rfl (by decide) trivial fun v11 => ?_)
 refine RG.p (PV.asg (v := v11) rfl rfl) (RG.nil (WP.seq (WP.sr (RG.p (PV.field rfl Fo26_0 rfl) (RG.p (PV.load1 rfl Sc24 rfl (Rd.blk rfl)) (RG.ml rfl (RG.p (PV.add rfl rfl rfl (by omega)) (RG.p (PV.slc (h := cell.toNat + 1) rfl Is24 rfl (SlF.r hL.c) optAt.n (optAt.s rfl (by omega)) (by omega) (by omega)) (RG.p (PV.len rfl Tryz.underlying24 rfl (SlF.r (Rs.slv (F := cellT) hL.c (by omega) (by omega)))) (RG.ml rfl (RG.nil (WP.block ?_))))))))))))
 have hpl : (List.drop 0 (List.take (cell.toNat + 1) l.cells.xs)).length = cell.toNat + 1 := by simp; omega
 refine WP.cv (Cv.eqS (xs := []) (ys := cnts (erCls l.cells.xs) 0) rfl) ?_
 refine WP.loop2 [1, 16, 17] (fun (i : Nat) (v : Value) => i <= cell.toNat + 1) (fun (i : Nat) (v : Value) => [(18, vi i), (5, v)]) (fun (i : Nat) (v : Value) => osl 2 intT v (cnts (erCls l.cells.xs) i) :: blk b2 26 (libT.enc l) :: L) (fun (i : Nat) (v : Value) => cell.toNat + 1 - i) 0 v11 (by omega) ⟨rfl, rfl, trivial⟩ Cv.p ?_
 rintro i v τ hi
 refine WP.sr (RG.p (PV.lss rfl rfl rfl) (RG.nil (WP.seq ?_)))
 have hcl := cnts_len (erCls l.cells.xs) i
 refine WP.cond rfl (fun h2 => ?_) fun h2 => ?_
 ·have h2 := odt h2
  have h3 : i < l.cells.xs.length := by omega
  have hin := erCl_insts h3
  have h8i := (okLib_cnt hok (i := i) (by omega)).1
  rw [hin] at h8i
  refine WP.skip (WP.seq (WP.block (WP.sr (RG.p (PV.idxS rfl Is24 rfl (SlF.r (Rs.slv (F := cellT) hL.c (by omega) (by omega))) rfl rfl (by omega)) (RG.p (PV.loadE rfl Ag95 rfl rfl (El.r (Rs.slv (F := cellT) hL.c (lo := 0) (hi := cell.toNat + 1) (by omega) (by omega)) (part0 (by omega) (by omega)))) ?_)))))
  refine RG.ot rfl (OT.alloc rfl Zr95 fun b7 => ?_)
  refine RG.ot rfl (OT.storeW (vs := [.string _, _, _, _]) rfl Sz95 rfl rfl (Cl.c rfl) rfl rfl (hL.one h3) ?_)
  refine RG.nil (WP.sr (RG.mr rfl (RG.nil (WP.seq (WP.sr (RG.p (PV.field rfl Fo95_3 rfl) (RG.p (PV.load1 rfl Sc93 rfl (Rd.blk rfl)) (RG.p (PV.len rfl Tryz.underlying93 rfl (SlF.r (hL.na h3))) (RG.ml rfl (RG.nil (WP.block ?_)))))))))))
  refine WP.loop2 [1, 5, 16, 17, 18, 23, 24] (fun (m : Nat) (own : Int) => m <= (gd l.cells.xs i).insts.xs.length ∧ own = 1 + costL (cntI (cnts (erCls l.cells.xs) i)) ((gd (erCls l.cells.xs) i).insts.take m)) (fun (m : Nat) (own : Int) => [(25, vi m), (8, vi own)]) (fun (m : Nat) (own : Int) => osl 2 intT v (cnts (erCls l.cells.xs) i) :: blk b2 26 (libT.enc l) :: L) (fun (m : Nat) (own : Int) => (gd l.cells.xs i).insts.xs.length - m) 0 1 ⟨by omega, by simp [costL]⟩ ⟨rfl, rfl, trivial⟩ Cv.p ?_
  rintro m own τ ⟨hm, he⟩
  refine WP.sr (RG.p (PV.lss rfl rfl rfl) (RG.nil (WP.seq ?_)))
  refine WP.cond rfl (fun h4 => ?_) fun h4 => ?_
  ·have h4 := odt h4
   have hst := cnt_step hok (i := i) (m := m) (by omega) (by rw [hin]; omega)
   rw [hin] at hst he
   obtain ⟨q1, q2, q3, q4, q5⟩ := hst
   refine WP.skip (WP.seq (WP.block (WP.sr (RG.p (PV.idxS rfl Is93 rfl (SlF.r (hL.na h3)) rfl rfl (by omega)) (RG.p (PV.loadE rfl Ag111 rfl rfl (El.r (hL.na h3) (getG (by omega)))) ?_)))))
   refine RG.ot rfl (OT.alloc rfl Zr111 fun b10 => ?_)
   refine RG.ot rfl (OT.storeW (vs := [vi _, vi _, vi _, vi _, vi _, vi _, vi _, vi _]) rfl Sz111 rfl rfl (Cl.c rfl) rfl rfl (OneC.c rfl) ?_)
   refine RG.nil ?_
   refine WP.regionQ (by kernel_rfl) (by kernel_rfl) ?_
   refine RQ.pv rfl (PV.mvI (.inl rfl) rfl) (RQ.pv rfl (PV.field rfl Fo111_2 rfl) (RQ.pv rfl (PV.load1 rfl Sc2 rfl (Rd.blk rfl)) (RQ.pv rfl (PV.field rfl Fo111_3 rfl) (RQ.pv rfl (PV.load1 rfl Sc2 rfl (Rd.blk rfl)) (RQ.pv rfl (PV.mul rfl rfl rfl (by omega)) (RQ.pv rfl (PV.move (v := v) rfl rfl) (RQ.pv rfl (PV.field rfl Fo111_0 rfl) (RQ.pv rfl (PV.load1 rfl Sc2 rfl (Rd.blk rfl)) (RQ.pv rfl (PV.idxS (j := (gd (gd l.cells.xs i).insts.xs m).cell.toNat) (v := v) rfl Is45 rfl SlF.o rfl (by omega) (by omega)) (RQ.pv rfl (PV.loadE1 rfl Sc2 rfl rfl (El.o (getG (by omega))) rfl) (RQ.pv rfl (PV.mul rfl rfl rfl (by omega)) (RQ.pv rfl (PV.add rfl rfl rfl (by omega)) (RQ.pv rfl (PV.mvI (.inr rfl) rfl) ?_)))))))))))))
   refine RQ.nil (WP.region (RG.p (PV.add rfl rfl rfl (by omega)) (RG.ml rfl (RG.nil ?_))))
   exact ⟨rfl, m + 1, _, ⟨by omega, by rw [hin, q5, he]⟩, ⟨rfl, rfl, trivial⟩, ⟨rfl, rfl, rfl, rfl, rfl, rfl, rfl, trivial⟩, Cv.p, by omega⟩
  ·have h4 := odf h4
   have e : own = ownCnt (cnts (erCls l.cells.xs) i) (gd (erCls l.cells.xs) i).insts := by rw [he, List.take_of_length_le (by rw [hin]; omega)]; rfl
   refine WP.exit (WP.region (RG.p (PV.move (v := v) rfl rfl) (RG.ml rfl ?_)))
   refine RG.ot rfl (OT.bslice (F := intT) (els := [_]) rfl El45 rfl (by decide) rfl (by decide) ⟨rfl, (Cl.c rfl), trivial⟩ fun v45 => ?_)
   refine RG.ot rfl (OT.append (v := v) (u := v45) (F := intT) rfl El45 rfl (by decide) rfl rfl Rs.o (OneL.c (fun _ => rfl)) rfl (by first | omega | (simp <;> omega)) fun v46 => ?_)
   refine RG.p (PV.asg (v := v46) rfl rfl) (RG.nil (WP.region (RG.p (PV.add rfl rfl rfl (by omega)) (RG.ml rfl (RG.nil ?_)))))
   exact ⟨rfl, i + 1, _, (by omega), ⟨rfl, rfl, trivial⟩, ⟨rfl, rfl, rfl, trivial⟩, ((Cv.p (C := osl 2 intT v46 (cnts (erCls l.cells.xs) i ++ [own]) :: blk b2 26 (libT.enc l) :: L)).trans (Cv.eqS (by rw [e]; rfl))), by omega⟩
 ·have h2 := odf h2
  have e : gd (cnts (erCls l.cells.xs) i) cell.toNat = cntOf (erCls l.cells.xs) cell.toNat := cnts_gd _ (by omega)
  rw [<- e] at k
  refine WP.exit (WP.sr (RG.p (PV.move (v := v) rfl rfl) (RG.ml rfl (RG.p (PV.idxS (j := cell.toNat) (v := v) rfl Is45 rfl SlF.o rfl (by omega) (by omega)) (RG.p (PV.loadE1 rfl Sc2 rfl rfl (El.o (getG (by omega))) rfl) (RG.mr rfl (RG.nil ?_)))))))
  exact WP.ret ⟨_, _, rv rfl rfl, Cv.p, k⟩
theorem elCnt_r {l : Lib} {cell : Int} (hL : RLib G L l.cells.v l.cells.xs) (hlen : lenC (erCls l.cells.xs)) (hok : okLib (erCls l.cells.xs) = true) (hc : 0 <= cell ∧ cell < (erCls l.cells.xs).length) (k : R (vi (cntOf (erCls l.cells.xs) cell.toNat)) G L) : CallT Tryz.prog 123 #[vT libT l, vi cell] G L R := by
 have hE := erCls_len l.cells.xs
 have h8 := okLib_len hok
 have hh : hasCl (erCls l.cells.xs) cell = true := by simp [hasCl, hok, within]; omega
 refine CallT.enter (args := _) Tryz.func123 rfl rfl (by kernel_rfl) rfl ?_
 refine WP.sr ?_
 refine RG.ot rfl (OT.box (cs := libT.enc l) rfl rfl rfl fun b2 => ?_)
 refine RG.mr rfl (RG.nil (WP.seq (WP.sr (RG.p (PV.loadW rfl Ag26 rfl rfl) (RG.ml rfl ?_)))))
 refine RG.callF (vs := [_, _]) rfl rfl En122 rfl (hasCl_r hL.up hlen ?_)
 refine RG.p (PV.not rfl rfl) (RG.nil ?_)
 refine WP.cond rfl (fun h1 => ?_) fun h1 => ?_
 ·exfalso; simp [hh] at h1
 refine WP.skip (WP.sr ?_)
 refine RG.ot rfl (OT.bslice (F := intT) (els := []) rfl El45 rfl (by decide) rfl (by decide) trivial fun v14 => ?_)
 refine RG.p (PV.asg (v := v14) rfl rfl) (RG.nil (WP.seq (WP.sr (RG.mr rfl (RG.nil (WP.block ?_))))))
 refine WP.cv (Cv.eqS (xs := []) (ys := cnts (erCls l.cells.xs) 0) rfl) ?_
 refine WP.loop2 [1, 2] (fun (i : Nat) (v : Value) => i <= l.cells.xs.length) (fun (i : Nat) (v : Value) => [(6, vi i), (5, v)]) (fun (i : Nat) (v : Value) => osl 2 intT v (cnts (erCls l.cells.xs) i) :: blk b2 26 (libT.enc l) :: L) (fun (i : Nat) (v : Value) => l.cells.xs.length - i) 0 v14 (by omega) ⟨rfl, rfl, trivial⟩ Cv.p ?_
 rintro i v τ hi
 refine WP.seq (WP.sr (RG.ml rfl (RG.p (PV.field rfl Fo26_0 rfl) (RG.p (PV.load1 rfl Sc24 rfl (Rd.blk rfl)) (RG.p (PV.len rfl Tryz.underlying24 rfl (SlF.r hL.c)) (RG.p (PV.lss rfl rfl rfl) (RG.nil ?_)))))))
 have hcl := cnts_len (erCls l.cells.xs) i
 refine WP.cond rfl (fun h2 => ?_) fun h2 => ?_
 ·have h2 := odt h2
  have h3 : i < l.cells.xs.length := by omega
  have hin := erCl_insts h3
  have h8i := (okLib_cnt hok (i := i) (by omega)).1
  rw [hin] at h8i
  refine WP.skip (WP.seq (WP.block (WP.sr (RG.mr rfl (RG.nil (WP.sr (RG.p (PV.field rfl Fo26_0 rfl) (RG.p (PV.load1 rfl Sc24 rfl (Rd.blk rfl)) (RG.ml rfl (RG.p (PV.idxS rfl Is24 rfl (SlF.r hL.c) rfl rfl (by omega)) (RG.p (PV.field rfl Fo95_3 rfl) ?_)))))))))))
  refine RG.p (PV.loadF rfl Sc93 rfl rfl (El.r hL.c (getG (by omega))) rfl) (RG.p (PV.asg rfl rfl) (RG.nil (WP.seq (WP.sr (RG.mr rfl (RG.nil (WP.block ?_)))))))
  refine WP.loop2 [1, 2, 5, 6, 8] (fun (m : Nat) (own : Int) => m <= (gd l.cells.xs i).insts.xs.length ∧ own = 1 + costL (cntI (cnts (erCls l.cells.xs) i)) ((gd (erCls l.cells.xs) i).insts.take m)) (fun (m : Nat) (own : Int) => [(9, vi m), (7, vi own)]) (fun (m : Nat) (own : Int) => osl 2 intT v (cnts (erCls l.cells.xs) i) :: blk b2 26 (libT.enc l) :: L) (fun (m : Nat) (own : Int) => (gd l.cells.xs i).insts.xs.length - m) 0 1 ⟨by omega, by simp [costL]⟩ ⟨rfl, rfl, trivial⟩ Cv.p ?_
  rintro m own τ ⟨hm, he⟩
  refine WP.seq (WP.sr (RG.ml rfl (RG.p (PV.move rfl rfl) (RG.p (PV.len rfl Tryz.underlying93 rfl (SlF.r (hL.na h3))) (RG.p (PV.lss rfl rfl rfl) (RG.nil ?_))))))
  refine WP.cond rfl (fun h4 => ?_) fun h4 => ?_
  ·have h4 := odt h4
   have hst := cnt_step hok (i := i) (m := m) (by omega) (by rw [hin]; omega)
   rw [hin] at hst he
   obtain ⟨q1, q2, q3, q4, q5⟩ := hst
   refine WP.skip (WP.seq (WP.block ?_))
   refine WP.regionQ (by kernel_rfl) (by kernel_rfl) ?_
   refine RQ.pv rfl (PV.mvI (.inl rfl) rfl) (RQ.pv rfl (PV.move rfl rfl) (RQ.pv rfl (PV.mvI (.inl rfl) rfl) (RQ.pv rfl (PV.idxS rfl Is93 rfl (SlF.r (hL.na h3)) rfl rfl (by omega)) (RQ.pv rfl (PV.field rfl Fo111_2 rfl) (RQ.pv rfl (PV.loadF rfl Sc2 rfl rfl (El.r (hL.na h3) (getG (by omega))) rfl) (RQ.pv rfl (PV.move rfl rfl) (RQ.pv rfl (PV.mvI (.inl rfl) rfl) (RQ.pv rfl (PV.idxS rfl Is93 rfl (SlF.r (hL.na h3)) rfl rfl (by omega)) (RQ.pv rfl (PV.field rfl Fo111_3 rfl) (RQ.pv rfl (PV.loadF rfl Sc2 rfl rfl (El.r (hL.na h3) (getG (by omega))) rfl) (RQ.pv rfl (PV.mul rfl rfl rfl (by omega)) (RQ.pv rfl (PV.move (v := v) rfl rfl) (RQ.pv rfl (PV.move rfl rfl) ?_)))))))))))))
   refine RQ.pv rfl (PV.mvI (.inl rfl) rfl) (RQ.pv rfl (PV.idxS rfl Is93 rfl (SlF.r (hL.na h3)) rfl rfl (by omega)) (RQ.pv rfl (PV.field rfl Fo111_0 rfl) (RQ.pv rfl (PV.loadF rfl Sc2 rfl rfl (El.r (hL.na h3) (getG (by omega))) rfl) (RQ.pv rfl (PV.idxS (j := (gd (gd l.cells.xs i).insts.xs m).cell.toNat) (v := v) rfl Is45 rfl SlF.o rfl (by omega) (by omega)) (RQ.pv rfl (PV.loadE1 rfl Sc2 rfl rfl (El.o (getG (by omega))) rfl) (RQ.pv rfl (PV.mul rfl rfl rfl (by omega)) (RQ.pv rfl (PV.add rfl rfl rfl (by omega)) (RQ.pv rfl (PV.mvI (.inr rfl) rfl) (RQ.nil (WP.region (RG.ml rfl (RG.p (PV.add rfl rfl rfl (by omega)) (RG.mr rfl ?_)))))))))))))
   refine RG.nil ?_
   exact ⟨rfl, m + 1, _, ⟨by omega, by rw [hin, q5, he]⟩, ⟨rfl, rfl, trivial⟩, ⟨rfl, rfl, rfl, rfl, rfl, trivial⟩, Cv.p, by omega⟩
  ·have h4 := odf h4
   have e : own = ownCnt (cnts (erCls l.cells.xs) i) (gd (erCls l.cells.xs) i).insts := by rw [he, List.take_of_length_le (by rw [hin]; omega)]; rfl
   refine WP.exit (WP.region (RG.p (PV.move (v := v) rfl rfl) (RG.ml rfl ?_)))
   refine RG.ot rfl (OT.bslice (F := intT) (els := [_]) rfl El45 rfl (by decide) rfl (by decide) ⟨rfl, (Cl.c rfl), trivial⟩ fun v58 => ?_)
   refine RG.ot rfl (OT.append (v := v) (u := v58) (F := intT) rfl El45 rfl (by decide) rfl rfl Rs.o (OneL.c (fun _ => rfl)) rfl (by first | omega | (simp <;> omega)) fun v59 => ?_)
   refine RG.p (PV.asg (v := v59) rfl rfl) (RG.nil (WP.region (RG.ml rfl (RG.p (PV.add rfl rfl rfl (by omega)) (RG.mr rfl (RG.nil ?_))))))
   exact ⟨rfl, i + 1, _, (by omega), ⟨rfl, rfl, trivial⟩, ⟨rfl, rfl, trivial⟩, ((Cv.p (C := osl 2 intT v59 (cnts (erCls l.cells.xs) i ++ [own]) :: blk b2 26 (libT.enc l) :: L)).trans (Cv.eqS (by rw [e]; rfl))), by omega⟩
 ·have h2 := odf h2
  have e : gd (cnts (erCls l.cells.xs) i) cell.toNat = cntOf (erCls l.cells.xs) cell.toNat := cnts_gd _ (by omega)
  rw [<- e] at k
  refine WP.exit (WP.sr (RG.p (PV.move (v := v) rfl rfl) (RG.ml rfl (RG.p (PV.idxS (j := cell.toNat) (v := v) rfl Is45 rfl SlF.o rfl (by omega) (by omega)) (RG.p (PV.loadE1 rfl Sc2 rfl rfl (El.o (getG (by omega))) rfl) (RG.mr rfl (RG.nil ?_)))))))
  exact WP.ret ⟨_, _, rv rfl rfl, Cv.p, k⟩
def TBig (t : Trans) : Prop := (0 <= t.o ∧ t.o <= 7) ∧ -100000 <= t.x ∧ t.x <= 100000 ∧ -100000 <= t.y ∧ t.y <= 100000
theorem moveBig_i {t : Trans} {p : Pt} (ht : TBig t) (hp : InB 1000 p) (k : R (vpt (moveP t p)) G L) : CallT Tryz.prog 115 #[vtrans t, vpt p] G L R := by
 obtain ⟨hq1, hq2, hq3, hq4⟩ : InB 1000 (turnP t.o p) := turnP_in hp
 obtain ⟨_, ht1, ht2, ht3, ht4⟩ := id ht
 refine CallT.enter (args := _) Tryz.func115 rfl rfl (by kernel_rfl) rfl ?_
 refine WP.sr ?_
 refine RG.ot rfl (OT.box (cs := transT.enc t) rfl rfl rfl fun b2 => ?_)
 refine RG.ot rfl (OT.box (cs := ptT.enc p) rfl rfl rfl fun b3 => ?_)
 refine RG.ot rfl (OT.alloc rfl Zr156 fun b4 => ?_)
 refine RG.nil (WP.sr (RG.p (PV.field rfl Fo87_0 rfl) (RG.p (PV.load1 rfl Sc2 rfl (Rd.blk rfl)) (RG.p (PV.loadW rfl Ag156 rfl rfl) ?_))))
 refine RG.callF (vs := [_, _]) rfl rfl En178 rfl (turn_s ht.1 hp ?_)
 refine RG.ot rfl (OT.storeW (vs := [vi _, vi _]) rfl Sz156 rfl rfl (Cl.c rfl) rfl rfl (OneC.c rfl) ?_)
 refine RG.nil (WP.sr (RG.p (PV.field rfl Fo156_0 rfl) (RG.p (PV.load1 rfl Sc2 rfl (Rd.blk rfl)) (RG.p (PV.field rfl Fo87_1 rfl) (RG.p (PV.load1 rfl Sc2 rfl (Rd.blk rfl)) (RG.p (PV.add rfl rfl rfl (by omega)) (RG.p (PV.field rfl Fo156_1 rfl) (RG.p (PV.load1 rfl Sc2 rfl (Rd.blk rfl)) (RG.p (PV.field rfl Fo87_2 rfl) (RG.p (PV.load1 rfl Sc2 rfl (Rd.blk rfl)) (RG.p (PV.add rfl rfl rfl (by omega)) (RG.p (PV.build (vs := [(0, [vi _]), (1, [vi _])]) (out := [_, _]) rfl Zr156 Pl156 ⟨rfl, (Cl.c rfl), ⟨rfl, (Cl.c rfl), trivial⟩⟩ rfl) ?_))))))))))))
 refine RG.ot rfl (OT.storeW (vs := [vi _, vi _]) rfl Sz156 rfl rfl (Cl.c rfl) rfl rfl (OneC.c rfl) ?_)
 refine RG.nil ?_
 exact WP.ret ⟨_, _, ResV.one rfl (RV1.cell rfl Ag156 rfl), Cv.p, k⟩
theorem composed_i {a b : Int} (ha : 0 <= a ∧ a <= 7) (hb : 0 <= b ∧ b <= 7) (k : R (vi (cmpo a b)) G L) : CallT Tryz.prog 222 #[vi a, vi b] G L R := by
 refine CallT.enter (args := _) Tryz.func222 rfl rfl (by kernel_rfl) rfl ?_
 refine WP.sr (RG.mr rfl (RG.nil (WP.sr (RG.ml rfl (RG.p (PV.rem rfl rfl rfl (by omega) (by omega) (by omega)) (RG.ml rfl (RG.p (PV.rem rfl rfl rfl (by omega) (by omega) (by omega)) (RG.p (PV.add rfl rfl rfl (by omega)) (RG.mr rfl (RG.nil ?_))))))))))
 refine WP.cut1 [0, 1] (fun (q : Int) => q = (if 4 <= b then b % 4 + 4 - a % 4 else b % 4 + a % 4)) (fun (q : Int) => [(5, vi q)]) (fun (q : Int) => L) ?_ ?_
 refine WP.sr (RG.ml rfl (RG.p (PV.geq rfl rfl rfl) (RG.nil ?_)))
 refine WP.cond rfl (fun h1 => ?_) fun h1 => ?_
 ·have h1 := odt h1
  refine WP.region (RG.ml rfl (RG.p (PV.rem rfl rfl rfl (by omega) (by omega) (by omega)) (RG.p (PV.add rfl rfl rfl (by omega)) (RG.ml rfl (RG.p (PV.rem rfl rfl rfl (by omega) (by omega) (by omega)) (RG.p (PV.sub rfl rfl rfl (by omega)) (RG.mr rfl (RG.nil ?_))))))))
  exact ⟨rfl, (b % 4 + 4 - a % 4), (by rw [if_pos (by omega)]), ⟨rfl, trivial⟩, ⟨rfl, rfl, trivial⟩, Cv.p⟩
 ·have h1 := odf h1
  refine WP.skip ?_
  exact ⟨rfl, (b % 4 + a % 4), (by rw [if_neg (by omega)]), ⟨rfl, trivial⟩, ⟨rfl, rfl, trivial⟩, Cv.p⟩
 rintro q τ1 hq
 have hqb : 0 <= q ∧ q <= 20 := by rw [hq]; split <;> omega
 refine WP.sr (RG.ml rfl (RG.p (PV.rem rfl rfl rfl (by omega) (by omega) (by omega)) (RG.mr rfl (RG.nil ?_))))
 refine WP.cut1 [] (fun (z : Int) => z = cmpo a b) (fun (z : Int) => [(6, vi z)]) (fun (z : Int) => L) ?_ ?_
 refine WP.sr (RG.ml rfl (RG.p (PV.geq rfl rfl rfl) (RG.ml rfl (RG.p (PV.geq rfl rfl rfl) (RG.p (PV.neqB rfl Tryz.underlying4 rfl rfl) (RG.nil ?_))))))
 refine WP.cond rfl (fun h2 => ?_) fun h2 => ?_
 ·refine WP.region ?_
  refine RG.ml rfl (RG.p (PV.add rfl rfl rfl (by omega)) (RG.mr rfl (RG.nil ?_)))
  exact ⟨rfl, (q % 4 + 4), (by rw [cmpo, <- hq, if_neg]; intro e; simp [e] at h2), ⟨rfl, trivial⟩, trivial, Cv.p⟩
 ·refine WP.skip ?_
  exact ⟨rfl, (q % 4), (by rw [cmpo, <- hq, if_pos]; omega; simpa using h2), ⟨rfl, trivial⟩, trivial, Cv.p⟩
 rintro z τ2 hz
 refine WP.sr (RG.ml rfl (RG.mr rfl (RG.nil ?_)))
 refine WP.ret ?_
 rw [<- hz] at k
 exact ⟨_, _, rv rfl rfl, Cv.p, k⟩
theorem pt_in {t : Trans} {b : Int} (h : (-b <= t.x ∧ t.x <= b) ∧ -b <= t.y ∧ t.y <= b) : InB b ⟨t.x, t.y⟩ := ⟨h.1.1, h.1.2, h.2.1, h.2.2⟩
theorem compose_i {t u : Trans} (ho : 0 <= t.o ∧ t.o <= 7) (ht : (-1000 <= t.x ∧ t.x <= 1000) ∧ -1000 <= t.y ∧ t.y <= 1000) (hu : TBig u) (k : R (vtrans (cmpT t u)) G L) : CallT Tryz.prog 177 #[vtrans t, vtrans u] G L R := by
 refine CallT.enter (args := _) Tryz.func177 rfl rfl (by kernel_rfl) rfl ?_
 refine WP.sr ?_
 refine RG.ot rfl (OT.box (cs := transT.enc t) rfl rfl rfl fun b2 => ?_)
 refine RG.ot rfl (OT.box (cs := transT.enc u) rfl rfl rfl fun b3 => ?_)
 refine RG.ot rfl (OT.alloc rfl Zr87 fun b4 => ?_)
 refine RG.nil (WP.sr (RG.p (PV.loadW rfl Ag87 rfl rfl) (RG.p (PV.field rfl Fo87_1 rfl) (RG.p (PV.load1 rfl Sc2 rfl (Rd.blk rfl)) (RG.p (PV.field rfl Fo87_2 rfl) (RG.p (PV.load1 rfl Sc2 rfl (Rd.blk rfl)) (RG.p (PV.build (vs := [(0, [vi _]), (1, [vi _])]) (out := [_, _]) rfl Zr156 Pl156 ⟨rfl, (Cl.c rfl), ⟨rfl, (Cl.c rfl), trivial⟩⟩ rfl) ?_)))))))
 refine RG.callF (vs := [_, _]) rfl rfl En115 rfl (moveBig_i (p := ⟨_, _⟩) hu (pt_in ht) ?_)
 refine RG.ot rfl (OT.alloc rfl Zr156 fun b5 => ?_)
 refine RG.ot rfl (OT.storeW (vs := [vi _, vi _]) rfl Sz156 rfl rfl (Cl.c rfl) rfl rfl (OneC.c rfl) ?_)
 refine RG.nil (WP.seq ?_)
 refine WP.regionHD [.b b4] (.q 0 (.q 1 (.q 2 (.q 3 (.q 5 (.q 6 (.q 7 (.q 8 (.l 4 (.q 9 (.l 10 Sch.nil))))))))))) (by kernel_rfl) (by kernel_rfl) (by kernel_rfl) rfl ?_
 refine RH.w rfl rfl (PV.field rfl Fo87_0 rfl) (RH.w rfl rfl (PV.load1 rfl Sc2 rfl (Rd.blk rfl)) (RH.w rfl rfl (PV.field rfl Fo87_0 rfl) (RH.w rfl rfl (PV.load1 rfl Sc2 rfl (Rd.blk rfl)) (RH.w rfl rfl (PV.field rfl Fo156_0 rfl) (RH.w rfl rfl (PV.load1 rfl Sc2 rfl (Rd.blk rfl)) (RH.w rfl rfl (PV.field rfl Fo156_1 rfl) (RH.w rfl rfl (PV.load1 rfl Sc2 rfl (Rd.blk rfl)) ?_)))))))
 refine RH.ot rfl rfl (OT.callF (vs := [_, _]) rfl En222 rfl (composed_i ho hu.1 (kp ?_)))
 refine RH.w rfl rfl (PV.build (vs := [(0, [vi _]), (1, [vi _]), (2, [vi _])]) (out := [_, _, _]) rfl Zr87 Pl87 ⟨rfl, (Cl.c rfl), ⟨rfl, (Cl.c rfl), ⟨rfl, (Cl.c rfl), trivial⟩⟩⟩ rfl) ?_
 refine RH.ot rfl rfl (OT.storeW (vs := [vi _, vi _, vi _]) rfl Sz87 rfl rfl (Cl.c rfl) rfl rfl (OneC.c rfl) (kp ?_))
 refine RH.nil ?_
 exact WP.ret ⟨_, _, ResV.one rfl (RV1.cell rfl Ag87 rfl), Cv.p, k⟩
theorem elPlace_i {n : Inst} {kk : Int} {c r : Nat} (hk : okIn kk n = true) (hc : c < n.cols.toNat) (hr : r < n.rows.toNat) (k : R (vtrans (elPlace n c r)) G L) : CallT Tryz.prog 97 #[vT instT n, vi c, vi r] G L R := by
 obtain ⟨_, h2, h3, h4, h5, h6⟩ := okIn_bd hk
 obtain ⟨q1, q2, q3⟩ := validT_iff.1 h2
 have e1 := mul_bd (a := (c : Int)) (b := n.sx) (A := 3) (B := 80) (by omega) h5 (by omega)
 have e2 := mul_bd (a := (r : Int)) (b := n.sy) (A := 3) (B := 80) (by omega) h6 (by omega)
 refine CallT.enter (args := _) Tryz.func97 rfl rfl (by kernel_rfl) rfl ?_
 refine WP.sr ?_
 refine RG.ot rfl (OT.box (cs := instT.enc n) rfl rfl rfl fun b3 => ?_)
 refine RG.ot rfl (OT.alloc rfl Zr87 fun b6 => ?_)
 refine RG.nil (WP.sr (RG.p (PV.field rfl Fo111_1 rfl) (RG.p (PV.field rfl Fo87_0 rfl) (RG.p (PV.load1 rfl Sc2 rfl (Rd.blk rfl)) (RG.p (PV.field rfl Fo111_1 rfl) (RG.p (PV.field rfl Fo87_1 rfl) (RG.p (PV.load1 rfl Sc2 rfl (Rd.blk rfl)) (RG.ml rfl (RG.p (PV.field rfl Fo111_4 rfl) (RG.p (PV.load1 rfl Sc2 rfl (Rd.blk rfl)) (RG.p (PV.mul rfl rfl rfl (by omega)) (RG.p (PV.add rfl rfl rfl (by omega)) ?_))))))))))))
 refine RG.p (PV.field rfl Fo111_1 rfl) (RG.p (PV.field rfl Fo87_2 rfl) (RG.p (PV.load1 rfl Sc2 rfl (Rd.blk rfl)) (RG.ml rfl (RG.p (PV.field rfl Fo111_5 rfl) (RG.p (PV.load1 rfl Sc2 rfl (Rd.blk rfl)) (RG.p (PV.mul rfl rfl rfl (by omega)) (RG.p (PV.add rfl rfl rfl (by omega)) (RG.p (PV.build (vs := [(0, [vi _]), (1, [vi _]), (2, [vi _])]) (out := [_, _, _]) rfl Zr87 Pl87 ⟨rfl, (Cl.c rfl), ⟨rfl, (Cl.c rfl), ⟨rfl, (Cl.c rfl), trivial⟩⟩⟩ rfl) ?_))))))))
 refine RG.ot rfl (OT.storeW (vs := [vi _, vi _, vi _]) rfl Sz87 rfl rfl (Cl.c rfl) rfl rfl (OneC.c rfl) ?_)
 refine RG.nil ?_
 exact WP.ret ⟨_, _, ResV.one rfl (RV1.cell rfl Ag87 rfl), Cv.p, k⟩
theorem elPlace_r {n : Inst} {kk : Int} {c r : Nat} (hk : okIn kk n = true) (hc : c < n.cols.toNat) (hr : r < n.rows.toNat) (k : R (vtrans (elPlace n c r)) G L) : CallT Tryz.prog 186 #[vT instT n, vi c, vi r] G L R := by
 obtain ⟨_, h2, h3, h4, h5, h6⟩ := okIn_bd hk
 obtain ⟨q1, q2, q3⟩ := validT_iff.1 h2
 have e1 := mul_bd (a := (c : Int)) (b := n.sx) (A := 3) (B := 80) (by omega) h5 (by omega)
 have e2 := mul_bd (a := (r : Int)) (b := n.sy) (A := 3) (B := 80) (by omega) h6 (by omega)
 refine CallT.enter (args := _) Tryz.func186 rfl rfl (by kernel_rfl) rfl ?_
 refine WP.sr ?_
 refine RG.ot rfl (OT.box (cs := instT.enc n) rfl rfl rfl fun b3 => ?_)
 refine RG.ot rfl (OT.alloc rfl Zr87 fun b6 => ?_)
 refine RG.nil (WP.sr (RG.p (PV.field rfl Fo111_1 rfl) (RG.p (PV.field rfl Fo87_0 rfl) (RG.p (PV.load1 rfl Sc2 rfl (Rd.blk rfl)) (RG.p (PV.field rfl Fo111_1 rfl) (RG.p (PV.field rfl Fo87_1 rfl) (RG.p (PV.load1 rfl Sc2 rfl (Rd.blk rfl)) (RG.ml rfl (RG.p (PV.field rfl Fo111_4 rfl) (RG.p (PV.load1 rfl Sc2 rfl (Rd.blk rfl)) (RG.p (PV.mul rfl rfl rfl (by omega)) (RG.p (PV.add rfl rfl rfl (by omega)) ?_))))))))))))
 refine RG.p (PV.field rfl Fo111_1 rfl) (RG.p (PV.field rfl Fo87_2 rfl) (RG.p (PV.load1 rfl Sc2 rfl (Rd.blk rfl)) (RG.ml rfl (RG.p (PV.field rfl Fo111_5 rfl) (RG.p (PV.load1 rfl Sc2 rfl (Rd.blk rfl)) (RG.p (PV.mul rfl rfl rfl (by omega)) (RG.p (PV.add rfl rfl rfl (by omega)) (RG.p (PV.build (vs := [(0, [vi _]), (1, [vi _]), (2, [vi _])]) (out := [_, _, _]) rfl Zr87 Pl87 ⟨rfl, (Cl.c rfl), ⟨rfl, (Cl.c rfl), ⟨rfl, (Cl.c rfl), trivial⟩⟩⟩ rfl) ?_))))))))
 refine RG.ot rfl (OT.storeW (vs := [vi _, vi _, vi _]) rfl Sz87 rfl rfl (Cl.c rfl) rfl rfl (OneC.c rfl) ?_)
 refine RG.nil ?_
 exact WP.ret ⟨_, _, ResV.one rfl (RV1.cell rfl Ag87 rfl), Cv.p, k⟩
def okNs (ns : List Inst) : Prop := ns.length <= 8 ∧ ∃ kk, ∀ j, j < ns.length -> okIn kk (gd ns j) = true
theorem okLib_ns {cs : List ECell} (h : okLib cs = true) {i : Nat} (hi : i < cs.length) : okNs (gd cs i).insts := ⟨(okLib_cnt h hi).1, i, fun j hj => okLib_inst h hi hj⟩
theorem elems_bd2 {ns : List Inst} (h : okNs ns) : ∀ i, i <= ns.length -> (elems (ns.take i)).length <= 16 * i
 | 0, _ => by simp [elems]
 | i + 1, hi => by
  obtain ⟨h1, kk, h2⟩ := id h
  have ih := elems_bd2 h i (by omega)
  obtain ⟨_, _, h3, h4, _, _⟩ := okIn_bd (h2 i (by omega))
  have := Nat.mul_le_mul (show (gd ns i).rows.toNat <= 4 by omega) (show (gd ns i).cols.toNat <= 4 by omega)
  rw [elems_take (by omega), List.length_append, elsOf_len]; omega
def elTo (ns : List Inst) (i q : Nat) : List HElem := elems (ns.take i) ++ (elsOf (gd ns i)).take q
theorem elTo_zero (ns : List Inst) (i : Nat) : elems (ns.take i) = elTo ns i 0 := by simp [elTo]
theorem elTo_step {ns : List Inst} {i r q : Nat} (hq : q < (gd ns i).cols.toNat) (hr : r < (gd ns i).rows.toNat) : elTo ns i (r * (gd ns i).cols.toNat + q) ++ [⟨(gd ns i).cell, elPlace (gd ns i) q r⟩] = elTo ns i (r * (gd ns i).cols.toNat + (q + 1)) := by
 rw [elTo, elTo, elsOf_step hq hr, List.append_assoc]
theorem elTo_all {ns : List Inst} {i q : Nat} (hi : i < ns.length) (h : (gd ns i).rows.toNat * (gd ns i).cols.toNat <= q) : elTo ns i q = elems (ns.take (i + 1)) := by
 rw [elTo, elems_take hi, List.take_of_length_le (i := q) (by rw [elsOf_len]; exact h)]
theorem elTo_len {ns : List Inst} (h : okNs ns) {i q : Nat} (hi : i < ns.length) : (elTo ns i q).length <= 1000 := by
 have h1 := elems_bd2 h i (by omega)
 obtain ⟨h2, kk, h3⟩ := h
 obtain ⟨_, _, q3, q4, _, _⟩ := okIn_bd (h3 i hi)
 have hm := Nat.mul_le_mul (show (gd ns i).rows.toNat <= 4 by omega) (show (gd ns i).cols.toNat <= 4 by omega)
 rw [elTo, List.length_append, List.length_take, elsOf_len]; omega
theorem elems_i {c : Cell} (h3 : Rs G L instT c.insts.v c.insts.xs) (hok : okNs c.insts.xs) (k : ∀ v', R v' G (osl 89 helemT v' (elems c.insts.xs) :: L)) : CallT Tryz.prog 50 #[vT cellT c] G L R := by
 obtain ⟨h1, kk, h2⟩ := id hok
 refine CallT.enter (args := _) Tryz.func50 rfl rfl (by kernel_rfl) rfl ?_
 refine WP.sr ?_
 refine RG.ot rfl (OT.box (cs := cellT.enc c) rfl rfl rfl fun b1 => ?_)
 refine RG.p (PV.asg rfl rfl) (RG.nil (WP.sr ?_))
 refine RG.ot rfl (OT.bslice (F := helemT) (els := []) rfl El90 rfl (by decide) rfl (by decide) trivial fun v8 => ?_)
 refine RG.p (PV.asg (v := v8) rfl rfl) (RG.nil (WP.seq (WP.sr (RG.p (PV.field rfl Fo95_3 rfl) (RG.p (PV.load1 rfl Sc93 rfl (Rd.blk rfl)) (RG.p (PV.len rfl Tryz.underlying93 rfl (SlF.r h3)) (RG.ml rfl (RG.nil (WP.block ?_)))))))))
 refine WP.cv (Cv.eqS (ys := elems (c.insts.xs.take 0)) rfl) ?_
 refine WP.loop2 [10, 11] (fun (i : Nat) (v : Value) => i <= c.insts.xs.length) (fun (i : Nat) (v : Value) => [(12, vi i), (3, v)]) (fun (i : Nat) (v : Value) => osl 89 helemT v (elems (c.insts.xs.take i)) :: L) (fun (i : Nat) (v : Value) => c.insts.xs.length - i) 0 v8 (by omega) ⟨rfl, rfl, trivial⟩ Cv.p ?_
 rintro i v τ hi
 refine WP.sr (RG.p (PV.lss rfl rfl rfl) (RG.nil (WP.seq ?_)))
 have hel := elems_bd2 hok i hi
 refine WP.cond rfl (fun h4 => ?_) fun h4 => ?_
 ·have h4 := odt h4
  have h5 : i < c.insts.xs.length := by omega
  obtain ⟨_, _, q3, q4, _, _⟩ := okIn_bd (h2 i h5)
  refine WP.skip (WP.seq (WP.block (WP.sr (RG.p (PV.idxS rfl Is93 rfl (SlF.r h3) rfl rfl (by omega)) (RG.p (PV.loadE rfl Ag111 rfl rfl (El.r h3 (getG (by omega)))) ?_)))))
  refine RG.ot rfl (OT.alloc rfl Zr111 fun b5 => ?_)
  refine RG.ot rfl (OT.storeW (vs := [vi _, vi _, vi _, vi _, vi _, vi _, vi _, vi _]) rfl Sz111 rfl rfl (Cl.c rfl) rfl rfl (OneC.c rfl) ?_)
  refine RG.nil (WP.sr (RG.p (PV.field rfl Fo111_3 rfl) (RG.p (PV.load1 rfl Sc2 rfl (Rd.blk rfl)) (RG.ml rfl (RG.nil (WP.block ?_))))))
  refine WP.cv ((Cv.p (C := osl 89 helemT v (elems (c.insts.xs.take i)) :: blk b5 111 (instT.enc (gd c.insts.xs i)) :: L)).trans (Cv.eqS (ys := elTo c.insts.xs i (0 * (gd c.insts.xs i).cols.toNat)) (by rw [Nat.zero_mul]; exact elTo_zero _ _))) ?_
  refine WP.loop2 [5, 10, 11, 12, 17] (fun (r : Nat) (v : Value) => r <= (gd c.insts.xs i).rows.toNat) (fun (r : Nat) (v : Value) => [(18, vi r), (3, v)]) (fun (r : Nat) (v : Value) => osl 89 helemT v (elTo c.insts.xs i (r * (gd c.insts.xs i).cols.toNat)) :: blk b5 111 (instT.enc (gd c.insts.xs i)) :: L) (fun (r : Nat) (v : Value) => (gd c.insts.xs i).rows.toNat - r) 0 v (by omega) ⟨rfl, rfl, trivial⟩ Cv.p ?_
  rintro r v τ hr
  refine WP.sr (RG.p (PV.lss rfl rfl rfl) (RG.nil (WP.seq ?_)))
  refine WP.cond rfl (fun h6 => ?_) fun h6 => ?_
  ·have h6 := odt h6
   refine WP.skip (WP.seq (WP.block (WP.sr (RG.ml rfl (RG.mr rfl (RG.nil (WP.sr (RG.p (PV.field rfl Fo111_2 rfl) (RG.p (PV.load1 rfl Sc2 rfl (Rd.blk rfl)) (RG.ml rfl (RG.nil ?_)))))))))))
   refine WP.block ?_
   refine WP.cv (Cv.eqS (ys := elTo c.insts.xs i (r * (gd c.insts.xs i).cols.toNat + 0)) rfl) ?_
   refine WP.loop2 [5, 6, 10, 11, 12, 17, 18, 22] (fun (q : Nat) (v : Value) => q <= (gd c.insts.xs i).cols.toNat) (fun (q : Nat) (v : Value) => [(23, vi q), (3, v)]) (fun (q : Nat) (v : Value) => osl 89 helemT v (elTo c.insts.xs i (r * (gd c.insts.xs i).cols.toNat + q)) :: blk b5 111 (instT.enc (gd c.insts.xs i)) :: L) (fun (q : Nat) (v : Value) => (gd c.insts.xs i).cols.toNat - q) 0 v (by omega) ⟨rfl, rfl, trivial⟩ Cv.p ?_
   rintro q v τ hq
   refine WP.sr (RG.p (PV.lss rfl rfl rfl) (RG.nil (WP.seq ?_)))
   refine WP.cond rfl (fun h7 => ?_) fun h7 => ?_
   ·have h7 := odt h7
    have hll := elTo_len hok (i := i) (q := r * (gd c.insts.xs i).cols.toNat + q) h5
    refine WP.skip (WP.seq (WP.block (WP.sr (RG.ml rfl (RG.mr rfl (RG.nil ?_))))))
    refine WP.regionHD [.s v] (.q 0 (.q 1 (.q 2 (.q 3 (.q 4 (.q 5 (.l 6 (.q 7 (.l 8 (.l 9 (.q 10 Sch.nil))))))))))) (by kernel_rfl) (by kernel_rfl) (by kernel_rfl) rfl ?_
    refine RH.w rfl rfl (PV.move (v := v) rfl rfl) (RH.w rfl rfl (PV.field rfl Fo111_0 rfl) (RH.w rfl rfl (PV.load1 rfl Sc2 rfl (Rd.blk rfl)) (RH.w rfl rfl (PV.loadW rfl Ag111 rfl rfl) (RH.w rfl rfl (PV.mvI (.inl rfl) rfl) (RH.w rfl rfl (PV.mvI (.inl rfl) rfl) ?_)))))
    refine RH.ot rfl rfl (OT.callF (vs := [_, _, _]) rfl En97 rfl (elPlace_i (h2 i (by omega)) (by omega) (by omega) (kp ?_)))
    refine RH.w rfl rfl (PV.build (vs := [(0, [vi _]), (1, [vi _, vi _, vi _])]) (out := [_, _, _, _]) rfl Zr89 Pl89 ⟨rfl, (Cl.c rfl), ⟨rfl, (Cl.c rfl), trivial⟩⟩ rfl) ?_
    refine RH.ot rfl rfl (OT.bslice (F := helemT) (els := [⟨_, _⟩]) rfl El90 rfl (by decide) rfl (by decide) ⟨rfl, (Cl.c rfl), trivial⟩ fun v34 => (kp ?_))
    refine RH.ot rfl rfl (OT.append (v := v) (u := v34) (F := helemT) rfl El90 rfl (by decide) rfl rfl Rs.o (OneL.c (fun _ => rfl)) rfl (by first | omega | (simp <;> omega)) fun v35 => (kp ?_))
    refine RH.w rfl rfl (PV.asg (v := v35) rfl rfl) (RH.nil (WP.region (RG.p (PV.add rfl rfl rfl (by omega)) (RG.ml rfl (RG.nil ?_)))))
    exact ⟨rfl, q + 1, v35, (by omega), ⟨rfl, rfl, trivial⟩, ⟨rfl, rfl, rfl, rfl, rfl, rfl, rfl, rfl, trivial⟩, ((Cv.p (C := osl 89 helemT v35 (elTo c.insts.xs i (r * (gd c.insts.xs i).cols.toNat + q) ++ [⟨(gd c.insts.xs i).cell, ⟨(gd c.insts.xs i).place.o, (gd c.insts.xs i).place.x + (q : Int) * (gd c.insts.xs i).sx, (gd c.insts.xs i).place.y + (r : Int) * (gd c.insts.xs i).sy⟩⟩]) :: blk b5 111 (instT.enc (gd c.insts.xs i)) :: L)).trans (Cv.eqS (elTo_step (ns := c.insts.xs) (i := i) (r := r) (q := q) (by omega) (by omega)))), by omega⟩
   ·have h7 := odf h7
    have e : r * (gd c.insts.xs i).cols.toNat + q = (r + 1) * (gd c.insts.xs i).cols.toNat := by rw [Nat.add_mul]; omega
    refine WP.exit (WP.region (RG.p (PV.add rfl rfl rfl (by omega)) (RG.ml rfl (RG.nil ?_))))
    exact ⟨rfl, r + 1, v, (by omega), ⟨rfl, rfl, trivial⟩, ⟨rfl, rfl, rfl, rfl, rfl, trivial⟩, (Cv.eqS (by rw [e])), by omega⟩
  ·have h6 := odf h6
   refine WP.exit (WP.region (RG.p (PV.add rfl rfl rfl (by omega)) (RG.ml rfl (RG.nil ?_))))
   exact ⟨rfl, i + 1, v, (by omega), ⟨rfl, rfl, trivial⟩, ⟨rfl, rfl, trivial⟩, ((Cv.eqS (ys := elems (c.insts.xs.take (i + 1))) (elTo_all h5 (Nat.mul_le_mul_right _ (by omega)))).trans Cv.p), by omega⟩
 ·have h4 := odf h4
  have e : c.insts.xs.take i = c.insts.xs := List.take_of_length_le (by omega)
  rw [e]
  refine WP.exit (WP.sr (RG.p (PV.move (v := v) rfl rfl) (RG.p (PV.asg (v := v) rfl rfl) (RG.nil ?_))))
  exact WP.ret ⟨_, _, rv rfl rfl, Cv.p, k v⟩
theorem l10Point_r {t : Trans} {p : Pt} (ht : TBig t) (hp : InB 1000 p) (k : R (vpt (moveP t p)) G L) : CallT Tryz.prog 126 #[vtrans t, vpt p] G L R := by
 have hf : InB 1000 (flip t.o p) := flip_in hp
 obtain ⟨hq1, hq2, hq3, hq4⟩ : InB 1000 (turnP t.o p) := turnP_in hp
 obtain ⟨hp1, hp2, hp3, hp4⟩ := hp
 obtain ⟨ho, ht1, ht2, ht3, ht4⟩ := ht
 refine CallT.enter (args := _) Tryz.func126 rfl rfl (by kernel_rfl) rfl ?_
 refine WP.sr ?_
 refine RG.ot rfl (OT.box (cs := transT.enc t) rfl rfl rfl fun b2 => ?_)
 refine RG.ot rfl (OT.box (cs := ptT.enc p) rfl rfl rfl fun b3 => ?_)
 refine RG.ot rfl (OT.alloc rfl Zr156 fun b4 => ?_)
 refine RG.nil (WP.sr (RG.p (PV.field rfl Fo156_0 rfl) (RG.p (PV.load1 rfl Sc2 rfl (Rd.blk rfl)) (RG.mr rfl (RG.nil (WP.sr (RG.p (PV.field rfl Fo156_1 rfl) (RG.p (PV.load1 rfl Sc2 rfl (Rd.blk rfl)) (RG.mr rfl (RG.nil ?_))))))))))
 refine WP.cut1 [2, 4] (fun (q : Pt) => q = flip t.o p) (fun (q : Pt) => [(5, vi q.x), (6, vi q.y)]) (fun (q : Pt) => blk b2 87 (transT.enc t) :: blk b4 156 [vi 0, vi 0] :: L) ?_ ?_
 refine WP.sr (RG.p (PV.field rfl Fo87_0 rfl) (RG.p (PV.load1 rfl Sc2 rfl (Rd.blk rfl)) (RG.p (PV.geq rfl rfl rfl) (RG.nil ?_))))
 refine WP.cond rfl (fun h1 => ?_) fun h1 => ?_
 ·have h1 := odt h1
  refine WP.region (RG.ml rfl (RG.p (PV.neg rfl rfl (by omega)) (RG.mr rfl (RG.nil ?_))))
  exact ⟨rfl, (⟨p.x, -p.y⟩ : Pt), (by rw [flip, if_pos (by omega)]), ⟨rfl, rfl, trivial⟩, ⟨rfl, rfl, trivial⟩, Cv.p⟩
 ·have h1 := odf h1
  refine WP.skip ?_
  exact ⟨rfl, p, (by rw [flip, if_neg (by omega)]), ⟨rfl, rfl, trivial⟩, ⟨rfl, rfl, trivial⟩, Cv.p⟩
 rintro q τ1 hq
 refine WP.seq (WP.sr (RG.p (PV.field rfl Fo87_0 rfl) (RG.p (PV.load1 rfl Sc2 rfl (Rd.blk rfl)) (RG.p (PV.rem rfl rfl rfl (by omega) (by omega) (by omega)) (RG.mr rfl (RG.nil (WP.block ?_)))))))
 subst hq
 refine WP.loop2 [2, 4] (fun (n : Int) (q : Pt) => (0 <= n ∧ n < 4) ∧ rot n.toNat q = turnP t.o p ∧ InB 1000 q) (fun (n : Int) (q : Pt) => [(7, vi n), (5, vi q.x), (6, vi q.y)]) (fun (n : Int) (q : Pt) => blk b2 87 (transT.enc t) :: blk b4 156 [vi 0, vi 0] :: L) (fun (n : Int) (q : Pt) => n.toNat) (t.o % 4) (flip t.o p) ⟨by omega, rfl, hf⟩ ⟨rfl, rfl, rfl, trivial⟩ Cv.p ?_
 rintro n q τ ⟨hn, hr, hi1, hi2, hi3, hi4⟩
 refine WP.seq (WP.sr (RG.ml rfl (RG.p (PV.gtr rfl rfl rfl) (RG.nil ?_))))
 refine WP.cond rfl (fun h2 => ?_) fun h2 => ?_
 ·have h2 := odt h2
  refine WP.skip (WP.seq (WP.block (WP.region (RG.ml rfl (RG.p (PV.neg rfl rfl (by omega)) (RG.ml rfl (RG.mr rfl (RG.mr rfl (RG.nil (WP.region (RG.ml rfl (RG.p (PV.sub rfl rfl rfl (by omega)) (RG.mr rfl ?_)))))))))))))
  refine RG.nil ?_
  refine ⟨rfl, n - 1, ⟨-q.y, q.x⟩, ⟨by omega, ?_, by simp only; omega, by simp only; omega, hi1, hi2⟩, ⟨rfl, rfl, rfl, trivial⟩, ⟨rfl, rfl, trivial⟩, Cv.p, by omega⟩
  rw [<- hr, show n.toNat = (n - 1).toNat + 1 by omega]; rfl
 ·have h2 := odf h2
  have e : turnP t.o p = q := by rw [<- hr, show n.toNat = 0 by omega]; rfl
  rw [moveP, e] at k
  refine WP.exit (WP.sr (RG.ml rfl (RG.p (PV.field rfl Fo87_1 rfl) (RG.p (PV.load1 rfl Sc2 rfl (Rd.blk rfl)) (RG.p (PV.add rfl rfl rfl (by omega)) (RG.ml rfl (RG.p (PV.field rfl Fo87_2 rfl) (RG.p (PV.load1 rfl Sc2 rfl (Rd.blk rfl)) (RG.p (PV.add rfl rfl rfl (by omega)) (RG.p (PV.build (vs := [(0, [vi _]), (1, [vi _])]) (out := [_, _]) rfl Zr156 Pl156 ⟨rfl, (Cl.c rfl), ⟨rfl, (Cl.c rfl), trivial⟩⟩ rfl) ?_))))))))))
  refine RG.ot rfl (OT.storeW (vs := [vi _, vi _]) rfl Sz156 rfl rfl (Cl.c rfl) rfl rfl (OneC.c rfl) ?_)
  refine RG.nil ?_
  exact WP.ret ⟨_, _, ResV.one rfl (RV1.cell rfl Ag156 rfl), Cv.p, k⟩
theorem l10Rect_r {t : Trans} {r : Rect} (ht : TBig t) (hr : RIn 40 r) (k : R (vrect (moveR t r)) G L) : CallT Tryz.prog 77 #[vtrans t, vrect r] G L R := by
 refine CallT.enter (args := _) Tryz.func77 rfl rfl (by kernel_rfl) rfl ?_
 refine WP.sr ?_
 refine RG.ot rfl (OT.box (cs := transT.enc t) rfl rfl rfl fun b2 => ?_)
 refine RG.ot rfl (OT.box (cs := rectT.enc r) rfl rfl rfl fun b3 => ?_)
 refine RG.ot rfl (OT.alloc rfl Zr101 fun b4 => ?_)
 refine RG.nil (WP.sr (RG.p (PV.loadW rfl Ag87 rfl rfl) (RG.p (PV.field rfl Fo101_0 rfl) (RG.p (PV.load1 rfl Sc2 rfl (Rd.blk rfl)) (RG.p (PV.field rfl Fo101_1 rfl) (RG.p (PV.load1 rfl Sc2 rfl (Rd.blk rfl)) (RG.p (PV.build (vs := [(0, [vi _]), (1, [vi _])]) (out := [_, _]) rfl Zr156 Pl156 ⟨rfl, (Cl.c rfl), ⟨rfl, (Cl.c rfl), trivial⟩⟩ rfl) ?_)))))))
 refine RG.callF (vs := [_, _]) rfl rfl En126 rfl (l10Point_r (p := ⟨_, _⟩) ht (by first | exact (RIn_pts hr).1 | exact (RIn_pts hr).2) ?_)
 refine RG.ot rfl (OT.alloc rfl Zr156 fun b5 => ?_)
 refine RG.ot rfl (OT.storeW (vs := [vi _, vi _]) rfl Sz156 rfl rfl (Cl.c rfl) rfl rfl (OneC.c rfl) ?_)
 refine RG.nil (WP.sr (RG.p (PV.loadW rfl Ag87 rfl rfl) (RG.p (PV.field rfl Fo101_2 rfl) (RG.p (PV.load1 rfl Sc2 rfl (Rd.blk rfl)) (RG.p (PV.field rfl Fo101_3 rfl) (RG.p (PV.load1 rfl Sc2 rfl (Rd.blk rfl)) (RG.p (PV.build (vs := [(0, [vi _]), (1, [vi _])]) (out := [_, _]) rfl Zr156 Pl156 ⟨rfl, (Cl.c rfl), ⟨rfl, (Cl.c rfl), trivial⟩⟩ rfl) ?_)))))))
 refine RG.callF (vs := [_, _]) rfl rfl En126 rfl (l10Point_r (p := ⟨_, _⟩) ht (by first | exact (RIn_pts hr).1 | exact (RIn_pts hr).2) ?_)
 refine RG.ot rfl (OT.alloc rfl Zr156 fun b6 => ?_)
 refine RG.ot rfl (OT.storeW (vs := [vi _, vi _]) rfl Sz156 rfl rfl (Cl.c rfl) rfl rfl (OneC.c rfl) ?_)
 refine RG.nil (WP.sr (RG.p (PV.field rfl Fo156_0 rfl) (RG.p (PV.load1 rfl Sc2 rfl (Rd.blk rfl)) (RG.p (PV.field rfl Fo156_0 rfl) (RG.p (PV.load1 rfl Sc2 rfl (Rd.blk rfl)) (RG.p (PV.min2 rfl rfl rfl) (RG.p (PV.field rfl Fo156_1 rfl) (RG.p (PV.load1 rfl Sc2 rfl (Rd.blk rfl)) (RG.p (PV.field rfl Fo156_1 rfl) (RG.p (PV.load1 rfl Sc2 rfl (Rd.blk rfl)) (RG.p (PV.min2 rfl rfl rfl) (RG.p (PV.field rfl Fo156_0 rfl) ?_))))))))))))
 refine RG.p (PV.load1 rfl Sc2 rfl (Rd.blk rfl)) (RG.p (PV.field rfl Fo156_0 rfl) (RG.p (PV.load1 rfl Sc2 rfl (Rd.blk rfl)) (RG.p (PV.max2 rfl rfl rfl) (RG.p (PV.field rfl Fo156_1 rfl) (RG.p (PV.load1 rfl Sc2 rfl (Rd.blk rfl)) (RG.p (PV.field rfl Fo156_1 rfl) (RG.p (PV.load1 rfl Sc2 rfl (Rd.blk rfl)) (RG.p (PV.max2 rfl rfl rfl) (RG.p (PV.build (vs := [(0, [vi _]), (1, [vi _]), (2, [vi _]), (3, [vi _])]) (out := [_, _, _, _]) rfl Zr101 Pl101 ⟨rfl, (Cl.c rfl), ⟨rfl, (Cl.c rfl), ⟨rfl, (Cl.c rfl), ⟨rfl, (Cl.c rfl), trivial⟩⟩⟩⟩ rfl) ?_)))))))))
 refine RG.ot rfl (OT.storeW (vs := [vi _, vi _, vi _, vi _]) rfl Sz101 rfl rfl (Cl.c rfl) rfl rfl (OneC.c rfl) ?_)
 refine RG.nil ?_
 exact WP.ret ⟨_, _, ResV.one rfl (RV1.cell rfl Ag101 rfl), Cv.p, k⟩
theorem l10After_r {t u : Trans} (ho : 0 <= t.o ∧ t.o <= 7) (ht : (-1000 <= t.x ∧ t.x <= 1000) ∧ -1000 <= t.y ∧ t.y <= 1000) (hu : TBig u) (k : R (vtrans (cmpT t u)) G L) : CallT Tryz.prog 185 #[vtrans u, vtrans t] G L R := by
 obtain ⟨hu1, _⟩ := id hu
 refine CallT.enter (args := _) Tryz.func185 rfl rfl (by kernel_rfl) rfl ?_
 refine WP.sr ?_
 refine RG.ot rfl (OT.box (cs := transT.enc u) rfl rfl rfl fun b2 => ?_)
 refine RG.ot rfl (OT.box (cs := transT.enc t) rfl rfl rfl fun b3 => ?_)
 refine RG.ot rfl (OT.alloc rfl Zr87 fun b4 => ?_)
 refine RG.nil (WP.sr (RG.p (PV.field rfl Fo87_0 rfl) (RG.p (PV.load1 rfl Sc2 rfl (Rd.blk rfl)) (RG.p (PV.rem rfl rfl rfl (by omega) (by omega) (by omega)) (RG.mr rfl (RG.nil (WP.sr (RG.p (PV.field rfl Fo87_0 rfl) (RG.p (PV.load1 rfl Sc2 rfl (Rd.blk rfl)) (RG.p (PV.quo rfl rfl rfl (by omega) (by omega) (by omega)) (RG.mr rfl ?_)))))))))))
 refine RG.nil ?_
 refine WP.cut2 [2, 3, 4] (fun (a b : Int) => a = (if 4 <= u.o then -(t.o % 4) else t.o % 4) ∧ b = (if 4 <= u.o then 1 - t.o / 4 else t.o / 4)) (fun (a b : Int) => [(5, vi a), (6, vi b)]) (fun (a b : Int) => blk b2 87 (transT.enc u) :: blk b3 87 (transT.enc t) :: blk b4 87 [vi 0, vi 0, vi 0] :: L) ?_ ?_
 refine WP.sr (RG.p (PV.field rfl Fo87_0 rfl) (RG.p (PV.load1 rfl Sc2 rfl (Rd.blk rfl)) (RG.p (PV.geq rfl rfl rfl) (RG.nil ?_))))
 refine WP.cond rfl (fun h1 => ?_) fun h1 => ?_
 ·have h1 := odt h1
  refine WP.sr (RG.ml rfl (RG.p (PV.neg rfl rfl (by omega)) (RG.mr rfl (RG.nil (WP.region (RG.ml rfl (RG.p (PV.sub rfl rfl rfl (by omega)) (RG.mr rfl (RG.nil ?_)))))))))
  exact ⟨rfl, (-(t.o % 4)), (1 - t.o / 4), ⟨by rw [if_pos (by omega)], by rw [if_pos (by omega)]⟩, ⟨rfl, rfl, trivial⟩, ⟨rfl, rfl, rfl, trivial⟩, Cv.p⟩
 ·have h1 := odf h1
  refine WP.skip ?_
  exact ⟨rfl, (t.o % 4), (t.o / 4), ⟨by rw [if_neg (by omega)], by rw [if_neg (by omega)]⟩, ⟨rfl, rfl, trivial⟩, ⟨rfl, rfl, rfl, trivial⟩, Cv.p⟩
 rintro a b τ1 ⟨ha, hb⟩
 have hab : (-3 <= a ∧ a <= 3) ∧ 0 <= b ∧ b <= 1 := by rw [ha, hb]; split <;> omega
 have e : cmpo t.o u.o = (u.o % 4 + a + 4) % 4 + 4 * b := by rw [cmpo_r ho hu1, <- ha, <- hb]
 rw [cmpT, e] at k
 refine WP.sr (RG.p (PV.loadW rfl Ag87 rfl rfl) (RG.p (PV.field rfl Fo87_1 rfl) (RG.p (PV.load1 rfl Sc2 rfl (Rd.blk rfl)) (RG.p (PV.field rfl Fo87_2 rfl) (RG.p (PV.load1 rfl Sc2 rfl (Rd.blk rfl)) (RG.p (PV.build (vs := [(0, [vi _]), (1, [vi _])]) (out := [_, _]) rfl Zr156 Pl156 ⟨rfl, (Cl.c rfl), ⟨rfl, (Cl.c rfl), trivial⟩⟩ rfl) ?_))))))
 refine RG.callF (vs := [_, _]) rfl rfl En126 rfl (l10Point_r (p := ⟨_, _⟩) hu (pt_in ht) ?_)
 refine RG.ot rfl (OT.alloc rfl Zr156 fun b7 => ?_)
 refine RG.ot rfl (OT.storeW (vs := [vi _, vi _]) rfl Sz156 rfl rfl (Cl.c rfl) rfl rfl (OneC.c rfl) ?_)
 refine RG.nil (WP.sr (RG.p (PV.field rfl Fo87_0 rfl) (RG.p (PV.load1 rfl Sc2 rfl (Rd.blk rfl)) (RG.p (PV.rem rfl rfl rfl (by omega) (by omega) (by omega)) (RG.ml rfl (RG.p (PV.add rfl rfl rfl (by omega)) (RG.p (PV.add rfl rfl rfl (by omega)) (RG.p (PV.rem rfl rfl rfl (by omega) (by omega) (by omega)) (RG.ml rfl (RG.p (PV.mul rfl rfl rfl (by omega)) (RG.p (PV.add rfl rfl rfl (by omega)) (RG.p (PV.field rfl Fo156_0 rfl) ?_))))))))))))
 refine RG.p (PV.load1 rfl Sc2 rfl (Rd.blk rfl)) (RG.p (PV.field rfl Fo156_1 rfl) (RG.p (PV.load1 rfl Sc2 rfl (Rd.blk rfl)) (RG.p (PV.build (vs := [(0, [vi _]), (1, [vi _]), (2, [vi _])]) (out := [_, _, _]) rfl Zr87 Pl87 ⟨rfl, (Cl.c rfl), ⟨rfl, (Cl.c rfl), ⟨rfl, (Cl.c rfl), trivial⟩⟩⟩ rfl) ?_)))
 refine RG.ot rfl (OT.storeW (vs := [vi _, vi _, vi _]) rfl Sz87 rfl rfl (Cl.c rfl) rfl rfl (OneC.c rfl) ?_)
 refine RG.nil ?_
 exact WP.ret ⟨_, _, ResV.one rfl (RV1.cell rfl Ag87 rfl), Cv.p, k⟩
def pths (xs : List Occ) : List (Sl Int) := xs.map Occ.path
theorem pths_gd {xs : List Occ} {i : Nat} (h : i < xs.length) : gd (pths xs) i = (gd xs i).path := gd_map _ h
theorem RsE.path {xs : List Occ} (h : RsE G L intT (pths xs)) {i : Nat} (hi : i < xs.length) : Rs G L intT (gd xs i).path.v (gd xs i).path.xs := by
 have := h i (by simpa [pths] using hi); rwa [pths_gd hi] at this
theorem clone_path {v : Value} {xs : List (Int)} (h1 : Rs G L intT v xs) (hb : xs.length <= 1048576) (k : ∀ v', R v' G (osl 2 intT v' xs :: L)) : CallT Tryz.prog 176 #[v] G L R := by
 refine CallT.st (fun w hs => isNilS_nil h1 hs) fun hn => ?_
 refine CallT.enter (args := _) Tryz.func176 rfl rfl (by kernel_rfl) rfl ?_
 refine WP.sr (RG.p (PV.asg rfl rfl) (RG.nil (WP.seq (WP.sr (RG.p (PV.move (v := v) rfl rfl) (RG.p (PV.eqlNil rfl Tryz.underlying45 rfl (SlF.r h1)) (RG.nil ?_)))))))
 refine WP.cond rfl (fun h2 => ?_) fun h2 => ?_
 ·have e := hn h2
  rw [e] at k
  refine WP.sr (RG.p (PV.asg rfl rfl) (RG.nil ?_))
  exact WP.ret ⟨_, _, rv rfl rfl, Cv.nilS, k _⟩
 ·refine WP.skip ?_
  refine WP.sr ?_
  refine RG.ot rfl (OT.bslice (F := intT) (els := []) rfl El45 rfl (by decide) rfl (by decide) trivial fun v5 => ?_)
  refine RG.p (PV.move (v := v) rfl rfl) ?_
  refine RG.ot rfl (OT.append (v := v5) (u := v) (F := intT) rfl El45 rfl (by decide) rfl rfl (Rs.up h1) (OneL.c (fun _ => rfl)) rfl (by first | omega | (simp <;> omega)) fun v7 => ?_)
  refine RG.p (PV.asg (v := v7) rfl rfl) (RG.nil ?_)
  exact WP.ret ⟨_, _, rv rfl rfl, (Cv.eqS (List.nil_append _)), k v7⟩
theorem oIn_big {f : Nat} {o : EOcc} (h : oIn f o) : TBig o.place := by
 obtain ⟨h1, h2, h3, h4⟩ := h
 exact ⟨h2, by omega, by omega, by omega, by omega⟩
theorem Cv.addOcc {e : TypeId} {u : Value} {us : List Int} {zs zs' : List Occ} (h : pths zs' = pths zs ++ [⟨u, us⟩]) : Cv (osl e intT u us :: bagS e intT (pths zs) :: L) (bagS e intT (pths zs') :: L) := Cv.grow h
structure OccBelow (cs : List ECell) (f : Nat) (o : Occ) (ys : List Occ) (m : Nat) (zs : List Occ) : Prop where
  len : zs.length = ys.length + (occTo cs f (erO o) m).length
  er : erOs zs = erOs ys ++ occTo cs f (erO o) m
  at_ : ys.length < zs.length ∧ gd zs ys.length = o
  pre : ∃ r, zs = ys ++ r
theorem OccBelow.init {cs : List ECell} {f : Nat} {o : Occ} {ys : List Occ} : OccBelow cs f o ys 0 (ys ++ [o]) :=
 ⟨by simp [occTo_zero], by simp [erOs, occTo_zero], ⟨by simp, gd_app_r⟩, ⟨[o], rfl⟩⟩
theorem OccBelow.next {cs : List ECell} {f : Nat} {o : Occ} {ys zs zs' : List Occ} {m : Nat} (h : OccBelow cs f o ys m zs) (hp : ∃ r, zs' = zs ++ r) (he : erOs zs' = erOs zs ++ occF cs f (kid (erO o) (gd (elems (gd cs o.cell.toNat).insts) m) m)) : OccBelow cs f o ys (m + 1) zs' := by
 obtain ⟨r, rfl⟩ := hp
 obtain ⟨r0, hr0⟩ := h.pre
 have e : erOs (zs ++ r) = erOs ys ++ occTo cs f (erO o) (m + 1) := by rw [he, h.er, occTo_succ, List.append_assoc]; rfl
 refine ⟨?_, e, ⟨by have := h.at_.1; simp only [List.length_append]; omega, by rw [gd_app_l h.at_.1]; exact h.at_.2⟩, ⟨r0 ++ r, by rw [hr0, List.append_assoc]⟩⟩
 have := congrArg List.length e
 rw [List.length_append, erOs_len, erOs_len] at this
 exact this
theorem OccBelow.rd {cs : List ECell} {f : Nat} {o : Occ} {ys zs : List Occ} {m : Nat} (h : OccBelow cs f o ys m zs) (hd : RsE G L intT (pths zs)) : Rs G L intT o.path.v o.path.xs := by
 have := hd.path h.at_.1; rwa [h.at_.2] at this
theorem below_i : ∀ (f : Nat) {G : Gh} {L : List Ch} {R : Value -> Gh -> List Ch -> Prop} {l : Lib} {o : Occ} {v : Value} {ys : List Occ} (_ : RLib G L l.cells.v l.cells.xs) (_ : okLib (erCls l.cells.xs) = true) (_ : oIn f (erO o)) (_ : o.cell.toNat < l.cells.xs.length) (_ : o.path.xs.length + f <= 100) (_ : ys.length + (occF (erCls l.cells.xs) f (erO o)).length <= 1000)
  (_ : ∀ v' zs, (∃ r, zs = ys ++ r) -> erOs zs = erOs ys ++ occF (erCls l.cells.xs) f (erO o) -> R v' G (osl 119 occT v' zs :: bagS 2 intT (pths zs) :: L)), CallT Tryz.prog 114 #[vT libT l, v, vT occT o] G (osl 119 occT v ys :: bagS 2 intT (pths ys) :: osl 2 intT o.path.v o.path.xs :: L) R := by
 intro f
 induction f with
 | zero => intro G L R l o v ys _ _ hin; exact absurd hin.1 (by simp only [erO]; omega)
 | succ f ih =>
  intro G L R l o v ys hL hok hin hcl hpl htl k
  have hE := erCls_len l.cells.xs
  have hbig := oIn_big hin
  have hi1 := hin.1
  have hinc : (0 : Int) <= o.cell ∧ o.cell < (f : Int) + 1 := by have := hin.1; simp only [erO] at this; omega
  have hce : (gd (erCls l.cells.xs) o.cell.toNat).insts = (gd l.cells.xs o.cell.toNat).insts.xs := erCl_insts hcl
  have hns : okNs (gd l.cells.xs o.cell.toNat).insts.xs := by rw [<- hce]; exact okLib_ns hok (by omega)
  have hEl : (elems (gd l.cells.xs o.cell.toNat).insts.xs).length <= 128 := by rw [<- hce]; exact elems_len_bd hok (by omega)
  have hol : 1 <= (occF (erCls l.cells.xs) (f + 1) (erO o)).length := by rw [occF, List.length_cons]; omega
  refine CallT.enter (args := _) Tryz.func114 rfl rfl (by kernel_rfl) rfl ?_
  refine WP.sr ?_
  refine RG.ot rfl (OT.box (cs := libT.enc l) rfl rfl rfl fun b3 => ?_)
  refine RG.ot rfl (OT.box (cs := occT.enc o) rfl rfl rfl fun b5 => ?_)
  refine RG.p (PV.asg rfl rfl) (RG.nil (WP.sr (RG.p (PV.move (v := v) rfl rfl) (RG.p (PV.loadW rfl Ag119 rfl rfl) ?_))))
  refine RG.ot rfl (OT.bslice (F := occT) (els := [_]) rfl El115 rfl (by decide) rfl (by decide) ⟨rfl, (Cl.c rfl), trivial⟩ fun v12 => ?_)
  refine RG.ot rfl (OT.append (v := v) (u := v12) (F := occT) rfl El115 rfl (by decide) rfl rfl Rs.o (OneL.one (a := o) (OneC.val rfl (OneC.val rfl (OneC.val rfl (OneC.val rfl (OneC.sl SlF.o OneC.nil)))))) rfl (by first | omega | (simp <;> omega)) fun v13 => ?_)
  refine RG.p (PV.asg (v := v13) rfl rfl) (RG.nil (WP.seq (WP.sr (RG.p (PV.field rfl Fo26_0 rfl) (RG.p (PV.load1 rfl Sc24 rfl (Rd.blk rfl)) (RG.p (PV.field rfl Fo119_0 rfl) (RG.p (PV.load1 rfl Sc2 rfl (Rd.blk rfl)) (RG.p (PV.idxS (j := o.cell.toNat) rfl Is24 rfl (SlF.r hL.c) rfl (by omega) (by omega)) (RG.p (PV.loadE rfl Ag95 rfl rfl (El.r hL.c (getG (by omega)))) ?_)))))))))
  refine RG.callF (vs := [_]) rfl rfl En50 rfl (elems_i (hL.na (by omega)).up hns (fun v20 => ?_))
  refine RG.p (PV.len (v := v20) rfl Tryz.underlying90 rfl SlF.o) (RG.ml rfl (RG.nil (WP.block ?_)))
  refine WP.cv ((Cv.p (C := osl 2 intT o.path.v o.path.xs :: bagS 2 intT (pths ys) :: osl 119 occT v13 (ys ++ [o]) :: osl 89 helemT v20 (elems (gd l.cells.xs o.cell.toNat).insts.xs) :: blk b3 26 (libT.enc l) :: blk b5 119 (occT.enc o) :: L)).trans (Cv.addOcc (zs' := ys ++ [o]) (by simp [pths]))) ?_
  refine WP.loop3 [3, 5, 20, 21] (fun (m : Nat) (vo : Value) (zs : List Occ) => m <= (elems (gd l.cells.xs o.cell.toNat).insts.xs).length ∧ OccBelow (erCls l.cells.xs) f o ys m zs) (fun (m : Nat) (vo : Value) (zs : List Occ) => [(22, vi m), (1, vo)]) (fun (m : Nat) (vo : Value) (zs : List Occ) => osl 119 occT vo zs :: bagS 2 intT (pths zs) :: osl 89 helemT v20 (elems (gd l.cells.xs o.cell.toNat).insts.xs) :: blk b3 26 (libT.enc l) :: blk b5 119 (occT.enc o) :: L) (fun (m : Nat) (vo : Value) (zs : List Occ) => (elems (gd l.cells.xs o.cell.toNat).insts.xs).length - m) 0 v13 (ys ++ [o]) ⟨by omega, OccBelow.init⟩ ⟨rfl, rfl, trivial⟩ Cv.p ?_
  rintro m vo zs τ ⟨hm, hB⟩
  refine WP.sr (RG.p (PV.lss rfl rfl rfl) (RG.nil (WP.seq ?_)))
  refine WP.cond rfl (fun h1 => ?_) fun h1 => ?_
  ·have h1 := odt h1
   have h2 : m < (elems (gd l.cells.xs o.cell.toNat).insts.xs).length := by omega
   have h2' : m < (elems (gd (erCls l.cells.xs) o.cell.toNat).insts).length := by rw [hce]; exact h2
   have hb := elem_bd hok (k := o.cell.toNat) (by omega) h2'
   have hke := kid_in hok hin (by simp only [erO]; omega) h2'
   have hle := occTo_le (cs := erCls l.cells.xs) (f := f) (o := erO o) (i := m + 1) h2'
   rw [occTo_succ, List.length_append] at hle
   have hlen := hB.len
   simp only [erO] at hke hle hlen htl
   rw [hce] at hb hke hle
   have hb1 := hb.2.1
   have hb2 : (-1000 <= (gd (elems (gd l.cells.xs o.cell.toNat).insts.xs) m).place.x ∧ (gd (elems (gd l.cells.xs o.cell.toNat).insts.xs) m).place.x <= 1000) ∧ -1000 <= (gd (elems (gd l.cells.xs o.cell.toNat).insts.xs) m).place.y ∧ (gd (elems (gd l.cells.xs o.cell.toNat).insts.xs) m).place.y <= 1000 := by omega
   refine WP.skip (WP.seq (WP.block (WP.sr (RG.ml rfl (RG.p (PV.idxS (v := v20) rfl Is90 rfl SlF.o rfl rfl (by omega)) (RG.p (PV.loadE rfl Ag89 rfl rfl (El.o (getG (by omega)))) ?_))))))
   refine RG.ot rfl (OT.alloc rfl Zr89 fun b8 => ?_)
   refine RG.mr rfl ?_
   refine RG.ot rfl (OT.storeW (vs := [vi _, vi _, vi _, vi _]) rfl Sz89 rfl rfl (Cl.c rfl) rfl rfl (OneC.c rfl) ?_)
   refine RG.nil (WP.sr (RG.p (PV.field rfl Fo119_2 rfl) (RG.p (PV.load1 rfl Sc45 rfl (Rd.blk rfl)) ?_)))
   refine RG.callF (vs := [_]) rfl rfl En176 rfl (clone_path (OccBelow.rd hB RsE.o) (by omega) (fun v29 => ?_))
   refine RG.ml rfl ?_
   refine RG.ot rfl (OT.bslice (F := intT) (els := [_]) rfl El45 rfl (by decide) rfl (by decide) ⟨rfl, (Cl.c rfl), trivial⟩ fun v31 => ?_)
   refine RG.ot rfl (OT.append (v := v29) (u := v31) (F := intT) rfl El45 rfl (by decide) rfl rfl Rs.o (OneL.c (fun _ => rfl)) rfl (by first | omega | (simp <;> omega)) fun v32 => ?_)
   refine RG.p (PV.asg (v := v32) rfl rfl) (RG.nil ?_)
   refine WP.regionH (blk b3 26 (libT.enc l) :: blk b5 119 (occT.enc o) :: blk b8 89 (helemT.enc (gd (elems (gd l.cells.xs o.cell.toNat).insts.xs) m)) :: L) (.q 0 (.q 1 (.q 2 (.q 3 (.q 4 (.q 5 (.q 6 (.q 7 (.q 9 (.l 8 (.l 10 (.l 11 (.q 12 Sch.nil))))))))))))) (by kernel_rfl) (by kernel_rfl) (by kernel_rfl) rfl ?_
   refine RH.w rfl rfl (PV.loadW rfl Ag26 rfl rfl) (RH.w rfl rfl (PV.move (v := vo) rfl rfl) (RH.w rfl rfl (PV.field rfl Fo89_0 rfl) (RH.w rfl rfl (PV.load1 rfl Sc2 rfl (Rd.blk rfl)) (RH.w rfl rfl (PV.field rfl Fo89_1 rfl) (RH.w rfl rfl (PV.loadB (vs := [_, _, _]) rfl Ag87 rfl rfl rfl) (RH.w rfl rfl (PV.field rfl Fo119_1 rfl) (RH.w rfl rfl (PV.loadB (vs := [_, _, _]) rfl Ag87 rfl rfl rfl) (RH.w rfl rfl (PV.move (v := v32) rfl rfl) ?_))))))))
   refine RH.ot rfl rfl (OT.callF (vs := [_, _]) rfl En177 rfl (compose_i hb1 hb2 hbig (kp ?_)))
   refine RH.ot rfl rfl (OT.pv (PV.build (vs := [(0, [vi _]), (1, [vi _, vi _, vi _]), (2, [v32])]) (out := [_, _, _, _, _]) rfl Zr119 Pl119 ⟨rfl, (Cl.c rfl), ⟨rfl, (Cl.c rfl), ⟨rfl, (Cl.s (v := v32) SlF.o), trivial⟩⟩⟩ rfl) (kp ?_))
   refine RH.ot rfl rfl (OT.callF (vs := [_, vo, _]) rfl En114 rfl (CallT.cv (Cv.p (C := osl 119 occT vo zs :: bagS 2 intT (pths zs) :: osl 2 intT v32 (o.path.xs ++ [(m : Int)]) :: osl 89 helemT v20 (elems (gd l.cells.xs o.cell.toNat).insts.xs) :: blk b3 26 (libT.enc l) :: blk b5 119 (occT.enc o) :: blk b8 89 (helemT.enc (gd (elems (gd l.cells.xs o.cell.toNat).insts.xs) m)) :: L)) (ih (l := l) (o := ⟨(gd (elems (gd l.cells.xs o.cell.toNat).insts.xs) m).cell, cmpT (gd (elems (gd l.cells.xs o.cell.toNat).insts.xs) m).place o.place, ⟨v32, o.path.xs ++ [(m : Int)]⟩⟩) (v := vo) (ys := zs) hL.up hok hke (by simp only; omega) (by simp only [List.length_append, List.length_cons, List.length_nil]; omega) (by simp only [erO, kid] at hle ⊢; omega) (fun vn zn hr he => (kp ?_)))))
   refine RH.w rfl rfl (PV.asg rfl rfl) (RH.nil (WP.region (RG.p (PV.add rfl rfl rfl (by omega)) (RG.ml rfl (RG.nil ?_)))))
   exact ⟨rfl, m + 1, vn, zn, ⟨by omega, hB.next hr (by rw [hce]; exact he)⟩, ⟨rfl, rfl, trivial⟩, ⟨rfl, rfl, rfl, rfl, trivial⟩, Cv.p, by omega⟩
  ·have h1 := odf h1
   have e : erOs zs = erOs ys ++ occF (erCls l.cells.xs) (f + 1) (erO o) := by
    rw [hB.er, <- occTo_all]
    have : m = (elems (gd (erCls l.cells.xs) (erO o).cell.toNat).insts).length := by simp only [erO]; rw [hce]; omega
    rw [<- this]
   refine WP.exit (WP.sr (RG.p (PV.move (v := vo) rfl rfl) (RG.p (PV.asg (v := vo) rfl rfl) (RG.nil ?_))))
   exact WP.ret ⟨_, _, rv rfl rfl, Cv.p, k vo zs hB.pre e⟩
theorem below_r : ∀ (f : Nat) {G : Gh} {L : List Ch} {R : Value -> Gh -> List Ch -> Prop} {l : Lib} {o : Occ} {v : Value} {ys : List Occ} (_ : RLib G L l.cells.v l.cells.xs) (_ : okLib (erCls l.cells.xs) = true) (_ : oIn f (erO o)) (_ : o.cell.toNat < l.cells.xs.length) (_ : o.path.xs.length + f <= 100) (_ : ys.length + (occF (erCls l.cells.xs) f (erO o)).length <= 1000)
  (_ : ∀ v' zs, (∃ r, zs = ys ++ r) -> erOs zs = erOs ys ++ occF (erCls l.cells.xs) f (erO o) -> R v' G (osl 119 occT v' zs :: bagS 2 intT (pths zs) :: L)), CallT Tryz.prog 124 #[vT libT l, v, vT occT o] G (osl 119 occT v ys :: bagS 2 intT (pths ys) :: osl 2 intT o.path.v o.path.xs :: L) R := by
 intro f
 induction f with
 | zero => intro G L R l o v ys _ _ hin; exact absurd hin.1 (by simp only [erO]; omega)
 | succ f ih =>
  intro G L R l o v ys hL hok hin hcl hpl htl k
  have hE := erCls_len l.cells.xs
  have hbig := oIn_big hin
  have hi1 := hin.1
  have hinc : (0 : Int) <= o.cell ∧ o.cell < (f : Int) + 1 := by have := hin.1; simp only [erO] at this; omega
  have hce : (gd (erCls l.cells.xs) o.cell.toNat).insts = (gd l.cells.xs o.cell.toNat).insts.xs := erCl_insts hcl
  have hns : okNs (gd l.cells.xs o.cell.toNat).insts.xs := by rw [<- hce]; exact okLib_ns hok (by omega)
  obtain ⟨hn8, kk, hok2⟩ := id hns
  have hEl : (elems (gd l.cells.xs o.cell.toNat).insts.xs).length <= 128 := by rw [<- hce]; exact elems_len_bd hok (by omega)
  have hol : 1 <= (occF (erCls l.cells.xs) (f + 1) (erO o)).length := by rw [occF, List.length_cons]; omega
  refine CallT.enter (args := _) Tryz.func124 rfl rfl (by kernel_rfl) rfl ?_
  refine WP.sr ?_
  refine RG.ot rfl (OT.box (cs := libT.enc l) rfl rfl rfl fun b3 => ?_)
  refine RG.ot rfl (OT.box (cs := occT.enc o) rfl rfl rfl fun b5 => ?_)
  refine RG.p (PV.asg rfl rfl) (RG.nil (WP.sr (RG.p (PV.move (v := v) rfl rfl) (RG.p (PV.loadW rfl Ag119 rfl rfl) ?_))))
  refine RG.ot rfl (OT.bslice (F := occT) (els := [_]) rfl El115 rfl (by decide) rfl (by decide) ⟨rfl, (Cl.c rfl), trivial⟩ fun v15 => ?_)
  refine RG.ot rfl (OT.append (v := v) (u := v15) (F := occT) rfl El115 rfl (by decide) rfl rfl Rs.o (OneL.one (a := o) (OneC.val rfl (OneC.val rfl (OneC.val rfl (OneC.val rfl (OneC.sl SlF.o OneC.nil)))))) rfl (by first | omega | (simp <;> omega)) fun v16 => ?_)
  refine RG.p (PV.asg (v := v16) rfl rfl) (RG.nil (WP.sr (RG.mr rfl (RG.nil (WP.sr (RG.p (PV.field rfl Fo26_0 rfl) (RG.p (PV.load1 rfl Sc24 rfl (Rd.blk rfl)) (RG.p (PV.field rfl Fo119_0 rfl) (RG.p (PV.load1 rfl Sc2 rfl (Rd.blk rfl)) (RG.p (PV.idxS (j := o.cell.toNat) rfl Is24 rfl (SlF.r hL.c) rfl (by omega) (by omega)) (RG.p (PV.field rfl Fo95_3 rfl) ?_)))))))))))
  refine RG.p (PV.loadF rfl Sc93 rfl rfl (El.r hL.c (getG (by omega))) rfl) (RG.p (PV.asg rfl rfl) (RG.nil (WP.seq (WP.sr (RG.mr rfl (RG.nil (WP.block ?_)))))))
  refine WP.cv ((Cv.p (C := osl 2 intT o.path.v o.path.xs :: bagS 2 intT (pths ys) :: osl 119 occT v16 (ys ++ [o]) :: blk b3 26 (libT.enc l) :: blk b5 119 (occT.enc o) :: L)).trans (Cv.addOcc (zs' := ys ++ [o]) (by simp [pths]))) ?_
  refine WP.loop4 [3, 5, 8] (fun (i : Nat) (e : Int) (vo : Value) (zs : List Occ) => i <= (gd l.cells.xs o.cell.toNat).insts.xs.length ∧ e = ((elems ((gd l.cells.xs o.cell.toNat).insts.xs.take i)).length : Int) ∧ OccBelow (erCls l.cells.xs) f o ys (elems ((gd l.cells.xs o.cell.toNat).insts.xs.take i)).length zs) (fun (i : Nat) (e : Int) (vo : Value) (zs : List Occ) => [(9, vi i), (7, vi e), (1, vo)]) (fun (i : Nat) (e : Int) (vo : Value) (zs : List Occ) => osl 119 occT vo zs :: bagS 2 intT (pths zs) :: blk b3 26 (libT.enc l) :: blk b5 119 (occT.enc o) :: L) (fun (i : Nat) (e : Int) (vo : Value) (zs : List Occ) => (gd l.cells.xs o.cell.toNat).insts.xs.length - i) 0 0 v16 (ys ++ [o]) ⟨by omega, by simp [elems], OccBelow.init⟩ ⟨rfl, rfl, rfl, trivial⟩ Cv.p ?_
  rintro i e vo zs τ ⟨hi, he, hB⟩
  refine WP.seq (WP.sr (RG.ml rfl (RG.p (PV.move rfl rfl) (RG.p (PV.len rfl Tryz.underlying93 rfl (SlF.r (hL.na hcl))) (RG.p (PV.lss rfl rfl rfl) (RG.nil ?_))))))
  refine WP.cond rfl (fun h1 => ?_) fun h1 => ?_
  ·have h1 := odt h1
   have h2 : i < (gd l.cells.xs o.cell.toNat).insts.xs.length := by omega
   obtain ⟨_, _, q3, q4, _, _⟩ := okIn_bd (hok2 i h2)
   refine WP.skip (WP.seq (WP.block (WP.sr (RG.mr rfl (RG.nil (WP.block ?_))))))
   refine WP.loop4 [3, 5, 8, 9] (fun (r : Nat) (e : Int) (vo : Value) (zs : List Occ) => r <= (gd (gd l.cells.xs o.cell.toNat).insts.xs i).rows.toNat ∧ e = (((elems ((gd l.cells.xs o.cell.toNat).insts.xs.take i)).length + r * (gd (gd l.cells.xs o.cell.toNat).insts.xs i).cols.toNat : Nat) : Int) ∧ OccBelow (erCls l.cells.xs) f o ys ((elems ((gd l.cells.xs o.cell.toNat).insts.xs.take i)).length + r * (gd (gd l.cells.xs o.cell.toNat).insts.xs i).cols.toNat) zs) (fun (r : Nat) (e : Int) (vo : Value) (zs : List Occ) => [(10, vi r), (7, vi e), (1, vo)]) (fun (r : Nat) (e : Int) (vo : Value) (zs : List Occ) => osl 119 occT vo zs :: bagS 2 intT (pths zs) :: blk b3 26 (libT.enc l) :: blk b5 119 (occT.enc o) :: L) (fun (r : Nat) (e : Int) (vo : Value) (zs : List Occ) => (gd (gd l.cells.xs o.cell.toNat).insts.xs i).rows.toNat - r) 0 e vo zs ⟨by omega, by rw [Nat.zero_mul]; exact he, by rw [Nat.zero_mul]; exact hB⟩ ⟨rfl, rfl, rfl, trivial⟩ Cv.p ?_
   rintro r e vo zs τ ⟨hr, he, hB⟩
   refine WP.seq (WP.sr (RG.ml rfl (RG.p (PV.move rfl rfl) (RG.ml rfl (RG.p (PV.idxS rfl Is93 rfl (SlF.r (hL.na hcl)) rfl rfl (by omega)) (RG.p (PV.field rfl Fo111_3 rfl) (RG.p (PV.loadF rfl Sc2 rfl rfl (El.r (hL.na hcl) (getG (by omega))) rfl) (RG.p (PV.lss rfl rfl rfl) (RG.nil ?_)))))))))
   refine WP.cond rfl (fun h3 => ?_) fun h3 => ?_
   ·have h3 := odt h3
    refine WP.skip (WP.seq (WP.block (WP.sr (RG.mr rfl (RG.nil (WP.block ?_))))))
    refine WP.loop4 [3, 5, 8, 9, 10] (fun (q : Nat) (e : Int) (vo : Value) (zs : List Occ) => q <= (gd (gd l.cells.xs o.cell.toNat).insts.xs i).cols.toNat ∧ e = (((elems ((gd l.cells.xs o.cell.toNat).insts.xs.take i)).length + (r * (gd (gd l.cells.xs o.cell.toNat).insts.xs i).cols.toNat + q) : Nat) : Int) ∧ OccBelow (erCls l.cells.xs) f o ys ((elems ((gd l.cells.xs o.cell.toNat).insts.xs.take i)).length + (r * (gd (gd l.cells.xs o.cell.toNat).insts.xs i).cols.toNat + q)) zs) (fun (q : Nat) (e : Int) (vo : Value) (zs : List Occ) => [(11, vi q), (7, vi e), (1, vo)]) (fun (q : Nat) (e : Int) (vo : Value) (zs : List Occ) => osl 119 occT vo zs :: bagS 2 intT (pths zs) :: blk b3 26 (libT.enc l) :: blk b5 119 (occT.enc o) :: L) (fun (q : Nat) (e : Int) (vo : Value) (zs : List Occ) => (gd (gd l.cells.xs o.cell.toNat).insts.xs i).cols.toNat - q) 0 e vo zs ⟨by omega, he, hB⟩ ⟨rfl, rfl, rfl, trivial⟩ Cv.p ?_
    rintro q e vo zs τ ⟨hq, he, hB⟩
    refine WP.seq (WP.sr (RG.ml rfl (RG.p (PV.move rfl rfl) (RG.ml rfl (RG.p (PV.idxS rfl Is93 rfl (SlF.r (hL.na hcl)) rfl rfl (by omega)) (RG.p (PV.field rfl Fo111_2 rfl) (RG.p (PV.loadF rfl Sc2 rfl rfl (El.r (hL.na hcl) (getG (by omega))) rfl) (RG.p (PV.lss rfl rfl rfl) (RG.nil ?_)))))))))
    subst he
    refine WP.cond rfl (fun h4 => ?_) fun h4 => ?_
    ·have h4 := odt h4
     obtain ⟨hat, hag⟩ := elems_at (ns := (gd l.cells.xs o.cell.toNat).insts.xs) (i := i) (c := q) (r := r) h2 (by omega) (by omega)
     have h2' : (elems ((gd l.cells.xs o.cell.toNat).insts.xs.take i)).length + (r * (gd (gd l.cells.xs o.cell.toNat).insts.xs i).cols.toNat + q) < (elems (gd (erCls l.cells.xs) o.cell.toNat).insts).length := by rw [hce]; exact hat
     have hb := elem_bd hok (k := o.cell.toNat) (by omega) h2'
     have hke := kid_in hok hin (by simp only [erO]; omega) h2'
     have hle := occTo_le (cs := erCls l.cells.xs) (f := f) (o := erO o) (i := (elems ((gd l.cells.xs o.cell.toNat).insts.xs.take i)).length + (r * (gd (gd l.cells.xs o.cell.toNat).insts.xs i).cols.toNat + q) + 1) h2'
     rw [occTo_succ, List.length_append] at hle
     have hlen := hB.len
     simp only [erO] at hke hle hlen htl
     rw [hce, hag] at hb hke hle
     have hb1 := hb.2.1
     have hb2 : (-1000 <= (elPlace (gd (gd l.cells.xs o.cell.toNat).insts.xs i) q r).x ∧ (elPlace (gd (gd l.cells.xs o.cell.toNat).insts.xs i) q r).x <= 1000) ∧ -1000 <= (elPlace (gd (gd l.cells.xs o.cell.toNat).insts.xs i) q r).y ∧ (elPlace (gd (gd l.cells.xs o.cell.toNat).insts.xs i) q r).y <= 1000 := by have := hb.2.2; simp only at this; omega
     have hb0 := hb.1
     simp only at hb0 hke hle
     have hrd : Rs G (bagS 2 intT (pths zs) :: []) intT o.path.v o.path.xs := OccBelow.rd hB RsE.o
     refine WP.skip (WP.seq (WP.block (WP.sr ?_)))
     refine RG.ot rfl (OT.bslice (F := intT) (els := []) rfl El45 rfl (by decide) rfl (by decide) trivial fun v48 => ?_)
     refine RG.p (PV.field rfl Fo119_2 rfl) (RG.p (PV.load1 rfl Sc45 rfl (Rd.blk rfl)) ?_)
     refine RG.ot rfl (OT.append (v := v48) (F := intT) rfl El45 rfl (by decide) rfl rfl (Rs.up hrd) (OneL.c (fun _ => rfl)) rfl (by first | omega | (simp <;> omega)) fun v51 => ?_)
     refine RG.ml rfl ?_
     refine RG.ot rfl (OT.bslice (F := intT) (els := [_]) rfl El45 rfl (by decide) rfl (by decide) ⟨rfl, (Cl.c rfl), trivial⟩ fun v53 => ?_)
     refine RG.ot rfl (OT.append (v := v51) (u := v53) (F := intT) rfl El45 rfl (by decide) rfl rfl Rs.o (OneL.c (fun _ => rfl)) rfl (by first | omega | (simp <;> omega)) fun v54 => ?_)
     refine RG.p (PV.asg (v := v54) rfl rfl) (RG.nil (WP.seq ?_))
     refine WP.regionH (blk b3 26 (libT.enc l) :: blk b5 119 (occT.enc o) :: L) (.q 0 (.q 1 (.q 2 (.q 3 (.q 4 (.q 5 (.q 6 (.q 7 (.q 8 (.q 9 (.q 10 (.q 11 (.q 12 (.q 13 (.q 14 (.q 17 (.l 15 (.l 16 (.l 18 (.l 19 (.q 20 Sch.nil))))))))))))))))))))) (by kernel_rfl) (by kernel_rfl) (by kernel_rfl) rfl ?_
     refine RH.w rfl rfl (PV.loadW rfl Ag26 rfl rfl) (RH.w rfl rfl (PV.move (v := vo) rfl rfl) (RH.w rfl rfl (PV.move rfl rfl) (RH.w rfl rfl (PV.mvI (.inl rfl) rfl) (RH.w rfl rfl (PV.idxS rfl Is93 rfl (SlF.r (hL.na hcl)) rfl rfl (by omega)) (RH.w rfl rfl (PV.field rfl Fo111_0 rfl) (RH.w rfl rfl (PV.loadF rfl Sc2 rfl rfl (El.r (hL.na hcl) (getG (by omega))) rfl) (RH.w rfl rfl (PV.field rfl Fo119_1 rfl) (RH.w rfl rfl (PV.loadB (vs := [_, _, _]) rfl Ag87 rfl rfl rfl) (RH.w rfl rfl (PV.move rfl rfl) (RH.w rfl rfl (PV.mvI (.inl rfl) rfl) (RH.w rfl rfl (PV.idxS rfl Is93 rfl (SlF.r (hL.na hcl)) rfl rfl (by omega)) (RH.w rfl rfl (PV.loadE rfl Ag111 rfl rfl (El.r (hL.na hcl) (getG (by omega)))) (RH.w rfl rfl (PV.mvI (.inl rfl) rfl) ?_)))))))))))))
     refine RH.w rfl rfl (PV.mvI (.inl rfl) rfl) (RH.w rfl rfl (PV.move (v := v54) rfl rfl) ?_)
     refine RH.ot rfl rfl (OT.callF (vs := [_, _, _]) rfl En186 rfl (elPlace_r (hok2 i (by omega)) (c := q) (r := r) (by omega) (by omega) (kp ?_)))
     refine RH.ot rfl rfl (OT.callF (vs := [_, _]) rfl En185 rfl (l10After_r hb1 hb2 hbig (kp ?_)))
     refine RH.ot rfl rfl (OT.pv (PV.build (vs := [(0, [vi _]), (1, [vi _, vi _, vi _]), (2, [v54])]) (out := [_, _, _, _, _]) rfl Zr119 Pl119 ⟨rfl, (Cl.c rfl), ⟨rfl, (Cl.c rfl), ⟨rfl, (Cl.s (v := v54) SlF.o), trivial⟩⟩⟩ rfl) (kp ?_))
     refine RH.ot rfl rfl (OT.callF (vs := [_, vo, _]) rfl En124 rfl (CallT.cv (Cv.p (C := osl 119 occT vo zs :: bagS 2 intT (pths zs) :: osl 2 intT v54 (([] ++ o.path.xs) ++ [(((elems ((gd l.cells.xs o.cell.toNat).insts.xs.take i)).length + (r * (gd (gd l.cells.xs o.cell.toNat).insts.xs i).cols.toNat + q) : Nat) : Int)]) :: blk b3 26 (libT.enc l) :: blk b5 119 (occT.enc o) :: L)) (ih (l := l) (o := ⟨(gd (gd l.cells.xs o.cell.toNat).insts.xs i).cell, cmpT (elPlace (gd (gd l.cells.xs o.cell.toNat).insts.xs i) q r) o.place, ⟨v54, ([] ++ o.path.xs) ++ [(((elems ((gd l.cells.xs o.cell.toNat).insts.xs.take i)).length + (r * (gd (gd l.cells.xs o.cell.toNat).insts.xs i).cols.toNat + q) : Nat) : Int)]⟩⟩) (v := vo) (ys := zs) hL.up hok hke (by simp only; omega) (by simp only [List.nil_append, List.length_append, List.length_cons, List.length_nil]; omega) (by simp only [erO, kid, List.nil_append] at hle ⊢; omega) (fun vn zn hr he => (kp ?_)))))
     refine RH.w rfl rfl (PV.asg rfl rfl) (RH.nil (WP.region (RG.ml rfl (RG.p (PV.add rfl rfl rfl (by omega)) (RG.mr rfl (RG.nil (WP.region (RG.ml rfl (RG.p (PV.add rfl rfl rfl (by omega)) (RG.mr rfl (RG.nil ?_)))))))))))
     exact ⟨rfl, q + 1, _, vn, zn, ⟨by omega, rfl, hB.next hr (by rw [hce, hag]; exact he)⟩, ⟨rfl, rfl, rfl, trivial⟩, ⟨rfl, rfl, rfl, rfl, rfl, trivial⟩, Cv.p, by omega⟩
    ·have h4 := odf h4
     have e1 : (elems ((gd l.cells.xs o.cell.toNat).insts.xs.take i)).length + (r * (gd (gd l.cells.xs o.cell.toNat).insts.xs i).cols.toNat + q) = (elems ((gd l.cells.xs o.cell.toNat).insts.xs.take i)).length + (r + 1) * (gd (gd l.cells.xs o.cell.toNat).insts.xs i).cols.toNat := by rw [Nat.add_mul]; omega
     refine WP.exit (WP.region (RG.ml rfl (RG.p (PV.add rfl rfl rfl (by omega)) (RG.mr rfl (RG.nil ?_)))))
     exact ⟨rfl, r + 1, _, vo, zs, ⟨by omega, by rw [e1], by rw [<- e1]; exact hB⟩, ⟨rfl, rfl, rfl, trivial⟩, ⟨rfl, rfl, rfl, rfl, trivial⟩, Cv.p, by omega⟩
   ·have h3 := odf h3
    have e1 : (elems ((gd l.cells.xs o.cell.toNat).insts.xs.take i)).length + r * (gd (gd l.cells.xs o.cell.toNat).insts.xs i).cols.toNat = (elems ((gd l.cells.xs o.cell.toNat).insts.xs.take (i + 1))).length := by rw [elems_take h2, List.length_append, elsOf_len, show r = (gd (gd l.cells.xs o.cell.toNat).insts.xs i).rows.toNat by omega]
    refine WP.exit (WP.region (RG.ml rfl (RG.p (PV.add rfl rfl rfl (by omega)) (RG.mr rfl (RG.nil ?_)))))
    exact ⟨rfl, i + 1, _, vo, zs, ⟨by omega, by rw [he, e1], by rw [<- e1]; exact hB⟩, ⟨rfl, rfl, rfl, trivial⟩, ⟨rfl, rfl, rfl, trivial⟩, Cv.p, by omega⟩
  ·have h1 := odf h1
   have e1 : (gd l.cells.xs o.cell.toNat).insts.xs.take i = (gd l.cells.xs o.cell.toNat).insts.xs := List.take_of_length_le (by omega)
   have e2 : erOs zs = erOs ys ++ occF (erCls l.cells.xs) (f + 1) (erO o) := by
    rw [hB.er, <- occTo_all, e1]
    have : (elems (gd l.cells.xs o.cell.toNat).insts.xs).length = (elems (gd (erCls l.cells.xs) (erO o).cell.toNat).insts).length := by simp only [erO]; rw [hce]
    rw [<- this]
   refine WP.exit (WP.sr (RG.p (PV.move (v := vo) rfl rfl) (RG.p (PV.asg (v := vo) rfl rfl) (RG.nil ?_))))
   exact WP.ret ⟨_, _, rv rfl rfl, Cv.p, k vo zs hB.pre e2⟩
theorem occE_cases {cs : List ECell} {cell : Int} (h : celE cs cell = 0) : okLib cs = true ∧ 0 <= cell ∧ cell < cs.length := by
 unfold celE at h
 cases h1 : okLib cs with
 | false => rw [h1] at h; cases h
 | true =>
  cases h2 : within cell 0 ((cs.length : Int) - 1) with
  | false => rw [h1, h2] at h; cases h
  | true => simp only [within, Bool.and_eq_true, decide_eq_true_eq] at h2; exact ⟨rfl, by omega⟩
theorem occE_code {cs : List ECell} {cell : Int} (h : celE cs cell ≠ 0) : occE cs cell = celE cs cell := by
 unfold celE at h ⊢
 unfold occE
 cases h1 : okLib cs with
 | false => rfl
 | true =>
  cases h2 : within cell 0 ((cs.length : Int) - 1) with
  | false => rfl
  | true => rw [h1, h2] at h; exact absurd rfl h
theorem occE_in {cs : List ECell} {cell : Int} (h : okLib cs = true) (hc : 0 <= cell ∧ cell < cs.length) : occE cs cell = bif decide (200 < cntOf cs cell.toNat) then 3 else bif (occAll cs cell).any fun o => !validT o.place then 2 else 0 := by
 have : within cell 0 ((cs.length : Int) - 1) = true := by simp [within]; omega
 rw [occE, h, this]; rfl
theorem top_in {cell : Int} {n : Nat} (hc : 0 <= cell ∧ cell < n) (h8 : n <= 8) : oIn (cell.toNat + 1) (top cell) := by
 refine ⟨by simp only [top]; omega, by simp [top], ?_, ?_⟩ <;> simp only [top] <;> omega
theorem occAny_true {cs : List ECell} {cell : Int} {zs : List Occ} (he : erOs zs = occAll cs cell) {i : Nat} (hi : i < zs.length) (h : validT (gd zs i).place = false) : ((occAll cs cell).any fun o => !validT o.place) = true := by
 rw [<- he]
 exact List.any_eq_true.2 ⟨gd (erOs zs) i, gd_mem (by rw [erOs_len]; exact hi), by rw [erOs_gd hi]; simp [erO, h]⟩
theorem occAny_false {cs : List ECell} {cell : Int} {zs : List Occ} (he : erOs zs = occAll cs cell) (h : ∀ i, i < zs.length -> validT (gd zs i).place = true) : ((occAll cs cell).any fun o => !validT o.place) = false := by
 rw [<- he, List.any_eq_false]
 intro o ho
 obtain ⟨i, hi, rfl⟩ := List.getElem_of_mem ho
 rw [erOs_len] at hi
 rw [<- gd_eq (by rw [erOs_len]; exact hi), erOs_gd hi]
 simp [erO, h i hi]
theorem Cv.nilOcc {M : List Ch} {e e' : TypeId} [p : PickC L M] : Cv M (osl e occT (.slice none 0 0) [] :: bagS e' intT (pths []) :: L) := (Cv.pick p.pick).trans ((Cv.bag0 (xs := pths []) rfl).trans Cv.nilS)
theorem occ_i {l : Lib} {cell : Int} (hL : RLib G L l.cells.v l.cells.xs) (hlen : lenC (erCls l.cells.xs)) (k : ∀ v' zs, erOs zs = occR (erCls l.cells.xs) cell -> R (.tuple #[v', vi (occE (erCls l.cells.xs) cell)]) G (osl 119 occT v' zs :: bagS 2 intT (pths zs) :: L)) : CallT Tryz.prog 65 #[vT libT l, vi cell] G L R := by
 have hE := erCls_len l.cells.xs
 refine CallT.enter (args := _) Tryz.func65 rfl rfl (by kernel_rfl) rfl ?_
 refine WP.sr ?_
 refine RG.ot rfl (OT.box (cs := libT.enc l) rfl rfl rfl fun b2 => ?_)
 refine RG.p (PV.asg rfl rfl) (RG.mr rfl (RG.nil (WP.seq (WP.sr (RG.p (PV.loadW rfl Ag26 rfl rfl) (RG.ml rfl ?_))))))
 refine RG.callF (vs := [_, _]) rfl rfl En112 rfl (celE_i hL.up hlen ?_)
 refine RG.mr rfl (RG.nil (WP.sr (RG.ml rfl (RG.p (PV.neq rfl rfl rfl) (RG.nil ?_)))))
 refine WP.cond rfl (fun h1 => ?_) fun h1 => ?_
 ·have h1 : celE (erCls l.cells.xs) cell ≠ 0 := by simpa using h1
  have e := occE_code h1
  have k := k (.slice none 0 0) [] (by rw [occR_no (by rw [e]; exact h1)]; rfl)
  rw [e] at k
  refine WP.sr (RG.ml rfl (RG.p (PV.asg rfl rfl) (RG.mr rfl (RG.nil ?_))))
  exact WP.ret ⟨_, _, ResV.two rfl rfl rfl, Cv.nilOcc, k⟩
 ·have h1 : celE (erCls l.cells.xs) cell = 0 := by simpa using h1
  obtain ⟨hok, hc⟩ := occE_cases h1
  have h8 := okLib_len hok
  have hin := occE_in hok hc
  have hal := occAll_len hok hc
  refine WP.skip (WP.seq (WP.sr (RG.p (PV.loadW rfl Ag26 rfl rfl) (RG.ml rfl ?_))))
  refine RG.callF (vs := [_, _]) rfl rfl En113 rfl (elCnt_i hL.up hok hc ?_)
  refine RG.p (PV.gtr rfl rfl rfl) (RG.nil ?_)
  refine WP.cond rfl (fun h2 => ?_) fun h2 => ?_
  ·have e : occE (erCls l.cells.xs) cell = 3 := by rw [hin, h2]; rfl
   have k := k (.slice none 0 0) [] (by rw [occR_no (by rw [e]; decide)]; rfl)
   rw [e] at k
   refine WP.sr (RG.p (PV.asg rfl rfl) (RG.mr rfl (RG.nil ?_)))
   exact WP.ret ⟨_, _, ResV.two rfl rfl rfl, Cv.nilOcc, k⟩
  ·rw [h2, cond_false] at hin
   have h2 := odf h2
   have hol : 0 + (occF (erCls l.cells.xs) (cell.toNat + 1) (top cell)).length <= 1000 := by rw [occAll] at hal; omega
   refine WP.skip (WP.sr (RG.p (PV.loadW rfl Ag26 rfl rfl) (RG.ml rfl (RG.p (PV.build (vs := [(0, [vi _])]) (out := [_, _, _, _, _]) rfl Zr119 Pl119 ⟨rfl, (Cl.c rfl), trivial⟩ rfl) ?_))))
   refine RG.callF (vs := [_, _, _]) rfl rfl En114 rfl (CallT.cv ((Cv.nilS (e := 2) (F := intT)).trans ((Cv.bag0 (e := 2) (F := intT) (xs := pths []) rfl).trans (Cv.nilS (e := 119) (F := occT)))) (below_i (cell.toNat + 1) (l := l) (o := ⟨cell, ⟨0, 0, 0⟩, ⟨.slice none 0 0, []⟩⟩) (ys := []) hL.up hok (top_in hc (by omega)) (by simp only; omega) (by simp only [List.length_nil]; omega) (by simp only [List.length_nil]; exact hol) (fun vn zn hr he => ?_)))
   refine RG.p (PV.asg (v := vn) rfl rfl) (RG.nil (WP.seq (WP.sr (RG.p (PV.move (v := vn) rfl rfl) (RG.p (PV.len (v := vn) rfl Tryz.underlying115 rfl SlF.o) (RG.ml rfl (RG.nil (WP.block ?_))))))))
   have he : erOs zn = occAll (erCls l.cells.xs) cell := he
   have hzl : zn.length <= 200 := by
    have := congrArg List.length he
    rw [erOs_len] at this; omega
   refine WP.loop1 [7, 24, 25] (fun i => i <= zn.length ∧ ∀ j, j < i -> validT (gd zn j).place = true) (fun i => [(26, vi i)]) (fun i => osl 119 occT vn zn :: bagS 2 intT (pths zn) :: L) (fun i => zn.length - i) 0 ⟨by omega, fun j h => by omega⟩ ⟨rfl, trivial⟩ Cv.p ?_
   rintro i τ ⟨hi, hj⟩
   refine WP.sr (RG.p (PV.lss rfl rfl rfl) (RG.nil (WP.seq ?_)))
   refine WP.cond rfl (fun h3 => ?_) fun h3 => ?_
   ·have h3 := odt h3
    have h4 : i < zn.length := by omega
    have hrd : Rs G (bagS 2 intT (pths zn) :: []) intT (gd zn i).path.v (gd zn i).path.xs := RsE.path RsE.o h4
    refine WP.skip (WP.seq (WP.block (WP.sr (RG.p (PV.idxS (v := vn) rfl Is115 rfl SlF.o rfl rfl (by omega)) (RG.p (PV.loadE rfl Ag119 rfl rfl (El.o (getG (by omega)))) ?_)))))
    refine RG.ot rfl (OT.alloc rfl Zr119 fun b9 => ?_)
    refine RG.ot rfl (OT.storeW (vs := [vi _, vi _, vi _, vi _, _]) rfl Sz119 rfl rfl (Cl.c rfl) rfl rfl (OneC.val rfl (OneC.val rfl (OneC.val rfl (OneC.val rfl (OneC.sl (SlF.r hrd) OneC.nil))))) ?_)
    refine RG.nil (WP.sr (RG.p (PV.field rfl Fo119_1 rfl) (RG.p (PV.loadB (vs := [_, _, _]) rfl Ag87 rfl rfl rfl) ?_)))
    refine RG.callF (vs := [_]) rfl rfl En98 rfl (validT_i ?_)
    refine RG.p (PV.not rfl rfl) (RG.nil ?_)
    refine WP.cond rfl (fun h5 => ?_) fun h5 => ?_
    ·have e : occE (erCls l.cells.xs) cell = 2 := by rw [hin, occAny_true he h4 (by simpa using h5)]; rfl
     have k := k (.slice none 0 0) [] (by rw [occR_no (by rw [e]; decide)]; rfl)
     rw [e] at k
     refine WP.sr (RG.p (PV.asg rfl rfl) (RG.mr rfl (RG.nil ?_)))
     exact WP.ret ⟨_, _, ResV.two rfl rfl rfl, Cv.nilOcc, k⟩
    ·have hj' : ∀ j, j < i + 1 -> validT (gd zn j).place = true := fun j h => by
      by_cases c : j = i
      ·rw [c]; simpa using h5
      ·exact hj j (by omega)
     refine WP.skip (WP.region (RG.p (PV.add rfl rfl rfl (by omega)) (RG.ml rfl (RG.nil ?_))))
     exact ⟨rfl, i + 1, ⟨by omega, hj'⟩, ⟨rfl, trivial⟩, ⟨rfl, rfl, rfl, trivial⟩, Cv.p, by omega⟩
   ·have h3 := odf h3
    have e : occE (erCls l.cells.xs) cell = 0 := by rw [hin, occAny_false he (fun j h => hj j (by omega))]; rfl
    have k := k vn zn (by rw [occR_ok e, he])
    rw [e] at k
    refine WP.exit (WP.sr (RG.p (PV.move (v := vn) rfl rfl) (RG.p (PV.asg (v := vn) rfl rfl) (RG.mr rfl (RG.nil ?_)))))
    exact WP.ret ⟨_, _, ResV.two rfl rfl rfl, Cv.p, k⟩
theorem occ_r {l : Lib} {cell : Int} (hL : RLib G L l.cells.v l.cells.xs) (hlen : lenC (erCls l.cells.xs)) (k : ∀ v' zs, erOs zs = occR (erCls l.cells.xs) cell -> R (.tuple #[v', vi (occE (erCls l.cells.xs) cell)]) G (osl 119 occT v' zs :: bagS 2 intT (pths zs) :: L)) : CallT Tryz.prog 76 #[vT libT l, vi cell] G L R := by
 have hE := erCls_len l.cells.xs
 refine CallT.enter (args := _) Tryz.func76 rfl rfl (by kernel_rfl) rfl ?_
 refine WP.sr ?_
 refine RG.ot rfl (OT.box (cs := libT.enc l) rfl rfl rfl fun b2 => ?_)
 refine RG.p (PV.asg rfl rfl) (RG.mr rfl (RG.nil (WP.seq (WP.block (WP.sr (RG.p (PV.loadW rfl Ag26 rfl rfl) ?_))))))
 refine RG.callF (vs := [_]) rfl rfl En121 rfl (okLib_r hL.up hlen ?_)
 refine RG.p (PV.not rfl rfl) (RG.br rfl (RG.nil ?_))
 refine WP.cond rfl (fun h0 => ?_) fun h0 => ?_
 ·have e : occE (erCls l.cells.xs) cell = 1 := by rw [occE, h0]; rfl
  have k := k (.slice none 0 0) [] (by rw [occR_no (by rw [e]; decide)]; rfl)
  rw [e] at k
  refine WP.sr (RG.p (PV.asg rfl rfl) (RG.mr rfl (RG.nil ?_)))
  exact WP.ret ⟨_, _, ResV.two rfl rfl rfl, Cv.nilOcc, k⟩
 ·have hok : okLib (erCls l.cells.xs) = true := by simpa using h0
  refine WP.sr (RG.p (PV.loadW rfl Ag26 rfl rfl) (RG.ml rfl ?_))
  refine RG.callF (vs := [_, _]) rfl rfl En122 rfl (hasCl_r hL.up hlen ?_)
  refine RG.p (PV.not rfl rfl) (RG.br rfl (RG.nil ?_))
  refine WP.cond rfl (fun h1 => ?_) fun h1 => ?_
  ·have hw : within cell 0 (((erCls l.cells.xs).length : Int) - 1) = false := by simpa [hasCl, hok] using h1
   have e : occE (erCls l.cells.xs) cell = 5 := by rw [occE, hok, hw]; rfl
   have k := k (.slice none 0 0) [] (by rw [occR_no (by rw [e]; decide)]; rfl)
   rw [e] at k
   refine WP.sr (RG.p (PV.asg rfl rfl) (RG.mr rfl (RG.nil ?_)))
   exact WP.ret ⟨_, _, ResV.two rfl rfl rfl, Cv.nilOcc, k⟩
  ·have hw : within cell 0 (((erCls l.cells.xs).length : Int) - 1) = true := by simpa [hasCl, hok] using h1
   have hc : 0 <= cell ∧ cell < (erCls l.cells.xs).length := by simp only [within, Bool.and_eq_true, decide_eq_true_eq] at hw; omega
   have h8 := okLib_len hok
   have hin := occE_in hok hc
   have hal := occAll_len hok hc
   refine WP.sr (RG.p (PV.loadW rfl Ag26 rfl rfl) (RG.ml rfl ?_))
   refine RG.callF (vs := [_, _]) rfl rfl En123 rfl (elCnt_r hL.up hlen hok hc ?_)
   refine RG.p (PV.gtr rfl rfl rfl) (RG.br rfl (RG.nil ?_))
   refine WP.cond rfl (fun h2 => ?_) fun h2 => ?_
   ·have e : occE (erCls l.cells.xs) cell = 3 := by rw [hin, h2]; rfl
    have k := k (.slice none 0 0) [] (by rw [occR_no (by rw [e]; decide)]; rfl)
    rw [e] at k
    refine WP.sr (RG.p (PV.asg rfl rfl) (RG.mr rfl (RG.nil ?_)))
    exact WP.ret ⟨_, _, ResV.two rfl rfl rfl, Cv.nilOcc, k⟩
   ·rw [h2, cond_false] at hin
    have h2 := odf h2
    have hol : 0 + (occF (erCls l.cells.xs) (cell.toNat + 1) (top cell)).length <= 1000 := by rw [occAll] at hal; omega
    refine WP.skip (WP.sr (RG.p (PV.loadW rfl Ag26 rfl rfl) ?_))
    refine RG.ot rfl (OT.bslice (F := occT) (els := []) rfl El115 rfl (by decide) rfl (by decide) trivial fun v23 => ?_)
    refine RG.ml rfl (RG.p (PV.build (vs := [(0, [vi _])]) (out := [_, _, _, _, _]) rfl Zr119 Pl119 ⟨rfl, (Cl.c rfl), trivial⟩ rfl) ?_)
    refine RG.callF (vs := [_, v23, _]) rfl rfl En124 rfl (CallT.cv ((Cv.nilS (e := 2) (F := intT)).trans ((Cv.bag0 (e := 2) (F := intT) (xs := pths []) rfl).trans (Cv.p (C := osl 119 occT v23 [] :: bagS 2 intT (pths []) :: osl 2 intT (.slice none 0 0) [] :: L)))) (below_r (cell.toNat + 1) (l := l) (o := ⟨cell, ⟨0, 0, 0⟩, ⟨.slice none 0 0, []⟩⟩) (ys := []) hL hok (top_in hc (by omega)) (by simp only; omega) (by simp only [List.length_nil]; omega) (by simp only [List.length_nil]; exact hol) (fun vn zn hr he => ?_)))
    refine RG.p (PV.asg (v := vn) rfl rfl) (RG.nil (WP.seq (WP.sr (RG.mr rfl (RG.nil (WP.block ?_))))))
    have he : erOs zn = occAll (erCls l.cells.xs) cell := he
    have hzl : zn.length <= 200 := by
     have := congrArg List.length he
     rw [erOs_len] at this; omega
    refine WP.loop1 [6] (fun i => i <= zn.length ∧ ∀ j, j < i -> validT (gd zn j).place = true) (fun i => [(7, vi i)]) (fun i => osl 119 occT vn zn :: bagS 2 intT (pths zn) :: L) (fun i => zn.length - i) 0 ⟨by omega, fun j h => by omega⟩ ⟨rfl, trivial⟩ Cv.p ?_
    rintro i τ ⟨hi, hj⟩
    refine WP.seq (WP.sr (RG.ml rfl (RG.p (PV.move (v := vn) rfl rfl) (RG.p (PV.len (v := vn) rfl Tryz.underlying115 rfl SlF.o) (RG.p (PV.lss rfl rfl rfl) (RG.nil ?_))))))
    refine WP.cond rfl (fun h3 => ?_) fun h3 => ?_
    ·have h3 := odt h3
     have h4 : i < zn.length := by omega
     refine WP.skip (WP.seq (WP.block (WP.sr (RG.p (PV.move (v := vn) rfl rfl) (RG.ml rfl (RG.p (PV.idxS (v := vn) rfl Is115 rfl SlF.o rfl rfl (by omega)) (RG.p (PV.field rfl Fo119_1 rfl) (RG.p (PV.loadEP rfl Ag87 rfl rfl (El.o (getG (by omega))) rfl) ?_))))))))
     refine RG.callF (vs := [_]) rfl rfl En125 rfl (l09Trans_r ?_)
     refine RG.p (PV.not rfl rfl) (RG.nil ?_)
     refine WP.cond rfl (fun h5 => ?_) fun h5 => ?_
     ·have e : occE (erCls l.cells.xs) cell = 2 := by rw [hin, occAny_true he h4 (by simpa using h5)]; rfl
      have k := k (.slice none 0 0) [] (by rw [occR_no (by rw [e]; decide)]; rfl)
      rw [e] at k
      refine WP.sr (RG.p (PV.asg rfl rfl) (RG.mr rfl (RG.nil ?_)))
      exact WP.ret ⟨_, _, ResV.two rfl rfl rfl, Cv.nilOcc, k⟩
     ·have hj' : ∀ j, j < i + 1 -> validT (gd zn j).place = true := fun j h => by
       by_cases c : j = i
       ·rw [c]; simpa using h5
       ·exact hj j (by omega)
      refine WP.skip (WP.region (RG.ml rfl (RG.p (PV.add rfl rfl rfl (by omega)) (RG.mr rfl (RG.nil ?_)))))
      exact ⟨rfl, i + 1, ⟨by omega, hj'⟩, ⟨rfl, trivial⟩, ⟨rfl, trivial⟩, Cv.p, by omega⟩
    ·have h3 := odf h3
     have e : occE (erCls l.cells.xs) cell = 0 := by rw [hin, occAny_false he (fun j h => hj j (by omega))]; rfl
     have k := k vn zn (by rw [occR_ok e, he])
     rw [e] at k
     refine WP.exit (WP.sr (RG.p (PV.move (v := vn) rfl rfl) (RG.p (PV.asg (v := vn) rfl rfl) (RG.mr rfl (RG.nil ?_)))))
     exact WP.ret ⟨_, _, ResV.two rfl rfl rfl, Cv.p, k⟩
theorem flat_mem {cs : List ECell} {os : List EOcc} {i m : Nat} (hi : i < os.length) (hm : m < (gd cs (gd os i).cell.toNat).shapes.length) : (⟨(gd (gd cs (gd os i).cell.toNat).shapes m).layer, moveR (gd os i).place (gd (gd cs (gd os i).cell.toNat).shapes m).box⟩ : Shape) ∈ flatL cs os :=
 List.mem_flatMap.2 ⟨gd os i, gd_mem hi, List.mem_map.2 ⟨_, gd_mem hm, rfl⟩⟩
theorem flat_bad {cs : List ECell} {os : List EOcc} {i m : Nat} (hi : i < os.length) (hm : m < (gd cs (gd os i).cell.toNat).shapes.length) (h : validRect (moveR (gd os i).place (gd (gd cs (gd os i).cell.toNat).shapes m).box) = false) : ((flatL cs os).any fun s => !validRect s.box) = true :=
 List.any_eq_true.2 ⟨_, flat_mem hi hm, by simp [h]⟩
theorem flat_good {cs : List ECell} {os : List EOcc} (h : ∀ i, i < os.length -> ∀ m, m < (gd cs (gd os i).cell.toNat).shapes.length -> validRect (moveR (gd os i).place (gd (gd cs (gd os i).cell.toNat).shapes m).box) = true) : ((flatL cs os).any fun s => !validRect s.box) = false := by
 rw [List.any_eq_false]
 intro s hs
 obtain ⟨o, ho, hs⟩ := List.mem_flatMap.1 hs
 obtain ⟨i, hi, rfl⟩ := List.getElem_of_mem ho
 obtain ⟨q, hq, rfl⟩ := List.mem_map.1 hs
 obtain ⟨m, hm, rfl⟩ := List.getElem_of_mem hq
 have := h i hi m (by rw [gd_eq hi]; exact hm)
 rw [gd_eq hi, gd_eq hm] at this
 simp [this]
theorem shE_occ {cs : List ECell} {cell : Int} (h : occE cs cell ≠ 0) : shE cs cell = occE cs cell := by rw [shE, decide_eq_false h]; rfl
theorem shE_flat {cs : List ECell} {cell : Int} (h : occE cs cell = 0) : shE cs cell = bif (flatL cs (occR cs cell)).any fun s => !validRect s.box then 2 else 0 := by rw [shE, decide_eq_true h]; rfl
structure OccAt (xs : List Cell) (cell : Int) (zs : List Occ) (i : Nat) : Prop where
  hc : 0 <= (gd zs i).cell ∧ (gd zs i).cell.toNat < xs.length
  ho : gd (occR (erCls xs) cell) i = erO (gd zs i)
  hi : i < (occR (erCls xs) cell).length
  hp : (0 <= (gd zs i).place.o ∧ (gd zs i).place.o <= 7) ∧ -1000 <= (gd zs i).place.x ∧ (gd zs i).place.x <= 1000 ∧ -1000 <= (gd zs i).place.y ∧ (gd zs i).place.y <= 1000
  hs : (gd (erCls xs) (gd zs i).cell.toNat).shapes = (gd xs (gd zs i).cell.toNat).shapes.xs
  hb : ∀ m, m < (gd xs (gd zs i).cell.toNat).shapes.xs.length -> RIn 40 (gd (gd xs (gd zs i).cell.toNat).shapes.xs m).box
  hl : (gd xs (gd zs i).cell.toNat).shapes.xs.length <= 24 ∧ (occR (erCls xs) cell).length <= 200
theorem OccAt.of {xs : List Cell} {cell : Int} {zs : List Occ} (he : erOs zs = occR (erCls xs) cell) {i : Nat} (hi : i < zs.length) : OccAt xs cell zs i := by
 have hl : zs.length = (occR (erCls xs) cell).length := by rw [<- he, erOs_len]
 have ho : gd (occR (erCls xs) cell) i = erO (gd zs i) := by rw [<- he, erOs_gd hi]
 obtain ⟨h1, h2, h3, h4⟩ := occR_cell (cs := erCls xs) (cell := cell) (i := i) (by omega)
 rw [ho] at h2 h3
 simp only [erO] at h2 h3
 have hE := erCls_len xs
 obtain ⟨q1, q2, q3⟩ := validT_iff.1 h3
 have hs : (gd (erCls xs) (gd zs i).cell.toNat).shapes = (gd xs (gd zs i).cell.toNat).shapes.xs := by rw [erCls_gd (by omega)]; rfl
 refine ⟨by omega, ho, by omega, by omega, hs, fun m hm => ?_, ?_⟩
 ·have := okLib_shape h1 (i := (gd zs i).cell.toNat) (j := m) (by omega) (by rw [hs]; exact hm)
  rw [hs] at this
  simp only [okSh, Bool.and_eq_true] at this
  exact validR_in this.2
 ·have := (okLib_cnt h1 (i := (gd zs i).cell.toNat) (by omega)).2
  rw [hs] at this
  exact ⟨this, h4⟩
theorem OccAt.step {xs : List Cell} {cell : Int} {zs : List Occ} {i m : Nat} (h : OccAt xs cell zs i) (hm : m < (gd xs (gd zs i).cell.toNat).shapes.xs.length) :
  (flatOf (erCls xs) (gd (occR (erCls xs) cell) i)).take (m + 1) = (flatOf (erCls xs) (gd (occR (erCls xs) cell) i)).take m ++ [⟨(gd (gd xs (gd zs i).cell.toNat).shapes.xs m).layer, moveR (gd zs i).place (gd (gd xs (gd zs i).cell.toNat).shapes.xs m).box⟩] := by
 have := flatOf_step (cs := erCls xs) (o := gd (occR (erCls xs) cell) i) (k := m) (by rw [h.ho]; simp only [erO]; rw [h.hs]; exact hm)
 rw [this, h.ho]
 simp only [erO, h.hs]
theorem OccAt.len {xs : List Cell} {cell : Int} {zs : List Occ} {i : Nat} (h : OccAt xs cell zs i) : (flatOf (erCls xs) (gd (occR (erCls xs) cell) i)).length = (gd xs (gd zs i).cell.toNat).shapes.xs.length := by
 rw [flatOf_len, h.ho]; simp only [erO, h.hs]
def goodTo (cs : List ECell) (os : List EOcc) (i : Nat) : Prop := ∀ j, j < i -> ∀ m, m < (gd cs (gd os j).cell.toNat).shapes.length -> validRect (moveR (gd os j).place (gd (gd cs (gd os j).cell.toNat).shapes m).box) = true
theorem goodTo.next {xs : List Cell} {cell : Int} {zs : List Occ} {i : Nat} (h : goodTo (erCls xs) (occR (erCls xs) cell) i) (ha : OccAt xs cell zs i) (hm : ∀ m, m < (gd xs (gd zs i).cell.toNat).shapes.xs.length -> validRect (moveR (gd zs i).place (gd (gd xs (gd zs i).cell.toNat).shapes.xs m).box) = true) : goodTo (erCls xs) (occR (erCls xs) cell) (i + 1) := by
 intro j hj m hm2
 by_cases c : j = i
 ·subst c
  rw [ha.ho] at hm2 ⊢
  simp only [erO, ha.hs] at hm2 ⊢
  exact hm m hm2
 ·exact h j (by omega) m hm2
theorem OccAt.bad {xs : List Cell} {cell : Int} {zs : List Occ} {i m : Nat} (ha : OccAt xs cell zs i) (hm : m < (gd xs (gd zs i).cell.toNat).shapes.xs.length) (h : validRect (moveR (gd zs i).place (gd (gd xs (gd zs i).cell.toNat).shapes.xs m).box) = false) : ((flatL (erCls xs) (occR (erCls xs) cell)).any fun s => !validRect s.box) = true := by
 refine flat_bad (i := i) (m := m) ha.hi ?_ ?_
 ·rw [ha.ho]; simp only [erO, ha.hs]; exact hm
 ·rw [ha.ho]; simp only [erO, ha.hs]; exact h
theorem flat_i {l : Lib} {cell : Int} (hL : RLib G L l.cells.v l.cells.xs) (hlen : lenC (erCls l.cells.xs)) (k : ∀ v', R (.tuple #[v', vi (shE (erCls l.cells.xs) cell)]) G (osl 109 shapeT v' (shR (erCls l.cells.xs) cell) :: L)) : CallT Tryz.prog 32 #[vT libT l, vi cell] G L R := by
 have hE := erCls_len l.cells.xs
 refine CallT.enter (args := _) Tryz.func32 rfl rfl (by kernel_rfl) rfl ?_
 refine WP.sr ?_
 refine RG.ot rfl (OT.box (cs := libT.enc l) rfl rfl rfl fun b2 => ?_)
 refine RG.p (PV.asg rfl rfl) (RG.mr rfl (RG.nil (WP.sr (RG.p (PV.loadW rfl Ag26 rfl rfl) (RG.ml rfl ?_)))))
 refine RG.callF (vs := [_, _]) rfl rfl En65 rfl (occ_i hL.up hlen (fun w17 zs he => ?_))
 refine RG.p (PV.move (v := .tuple _) rfl rfl) (RG.p (PV.ext (v := w17) rfl rfl rfl) (RG.p (PV.ext rfl rfl rfl) (RG.p (PV.asg (v := w17) rfl rfl) (RG.mr rfl (RG.nil (WP.seq (WP.sr (RG.ml rfl (RG.p (PV.neq rfl rfl rfl) (RG.nil ?_))))))))))
 refine WP.cond rfl (fun h1 => ?_) fun h1 => ?_
 ·have h1 : occE (erCls l.cells.xs) cell ≠ 0 := by simpa using h1
  have e := shE_occ h1
  have e2 : shR (erCls l.cells.xs) cell = [] := shR_no (by rw [e]; exact h1)
  rw [e, e2] at k
  refine WP.sr (RG.ml rfl (RG.p (PV.asg rfl rfl) (RG.mr rfl (RG.nil ?_))))
  exact WP.ret ⟨_, _, ResV.two rfl rfl rfl, Cv.p.trans Cv.nilS, k (.slice none 0 0)⟩
 ·have h1 : occE (erCls l.cells.xs) cell = 0 := by simpa using h1
  have hse := shE_flat h1
  have hzl : zs.length = (occR (erCls l.cells.xs) cell).length := by rw [<- he, erOs_len]
  refine WP.skip (WP.sr ?_)
  refine RG.ot rfl (OT.bslice (F := shapeT) (els := []) rfl El66 rfl (by decide) rfl (by decide) trivial fun v23 => ?_)
  refine RG.p (PV.asg (v := v23) rfl rfl) (RG.nil (WP.seq (WP.sr (RG.p (PV.move (v := w17) rfl rfl) (RG.p (PV.len (v := w17) rfl Tryz.underlying115 rfl SlF.o) (RG.ml rfl (RG.nil (WP.block ?_))))))))
  refine WP.bdo w17 fun hbz => ?_
  refine WP.cv (Cv.eqS (ys := flatL (erCls l.cells.xs) ((occR (erCls l.cells.xs) cell).take 0)) rfl) ?_
  refine WP.loop2 [2, 24, 25] (fun (i : Nat) (v : Value) => i <= zs.length ∧ goodTo (erCls l.cells.xs) (occR (erCls l.cells.xs) cell) i) (fun (i : Nat) (v : Value) => [(26, vi i), (8, v)]) (fun (i : Nat) (v : Value) => osl 109 shapeT v (flatL (erCls l.cells.xs) ((occR (erCls l.cells.xs) cell).take i)) :: osl 119 occT w17 zs :: bagS 2 intT (pths zs) :: blk b2 26 (libT.enc l) :: L) (fun (i : Nat) (v : Value) => zs.length - i) 0 v23 ⟨by omega, fun j h => by omega⟩ ⟨rfl, rfl, trivial⟩ Cv.p ?_
  rintro i v τ ⟨hi, hg⟩
  refine WP.sr (RG.p (PV.lss rfl rfl rfl) (RG.nil (WP.seq ?_)))
  have hfb := flatL_bd (cs := (erCls l.cells.xs)) (cell := cell) i (by omega)
  refine WP.cond rfl (fun h2 => ?_) fun h2 => ?_
  ·have h2 := odt h2
   have h3 : i < zs.length := by omega
   have ha := OccAt.of (cell := cell) he h3
   have hrd : Rs G (bagS 2 intT (pths zs) :: []) intT (gd zs i).path.v (gd zs i).path.xs := RsE.path RsE.o h3
   have hac := ha.hc
   have hal := ha.hl
   have hsl := hL.sa ha.hc.2
   refine WP.skip (WP.seq (WP.block (WP.sr (RG.p (PV.idxS (v := w17) rfl Is115 rfl SlF.o rfl rfl (by omega)) (RG.p (PV.loadE rfl Ag119 rfl rfl (El.o (getG (by omega)))) ?_)))))
   refine RG.ot rfl (OT.alloc rfl Zr119 fun b10 => ?_)
   refine RG.ot rfl (OT.storeW (vs := [vi _, vi _, vi _, vi _, _]) rfl Sz119 rfl rfl (Cl.c rfl) rfl rfl (OneC.val rfl (OneC.val rfl (OneC.val rfl (OneC.val rfl (OneC.sl (SlF.r hrd) OneC.nil))))) ?_)
   refine RG.nil (WP.sr (RG.p (PV.field rfl Fo26_0 rfl) (RG.p (PV.load1 rfl Sc24 rfl (Rd.blk rfl)) (RG.p (PV.field rfl Fo119_0 rfl) (RG.p (PV.load1 rfl Sc2 rfl (Rd.blk rfl)) (RG.p (PV.idxS (j := (gd zs i).cell.toNat) rfl Is24 rfl (SlF.r hL.c) rfl (by omega) (by omega)) (RG.p (PV.field rfl Fo95_1 rfl) (RG.p (PV.loadF rfl Sc66 rfl rfl (El.r hL.c (getG (by omega))) rfl) (RG.p (PV.len rfl Tryz.underlying66 rfl (SlF.r hsl)) (RG.ml rfl (RG.nil (WP.block ?_))))))))))))
   refine WP.cv ((Cv.p (C := osl 109 shapeT v (flatL (erCls l.cells.xs) ((occR (erCls l.cells.xs) cell).take i)) :: osl 119 occT w17 zs :: bagS 2 intT (pths zs) :: blk b2 26 (libT.enc l) :: blk b10 119 (occT.enc (gd zs i)) :: L)).trans (Cv.eqS (ys := flatL (erCls l.cells.xs) ((occR (erCls l.cells.xs) cell).take i) ++ (flatOf (erCls l.cells.xs) (gd (occR (erCls l.cells.xs) cell) i)).take 0) (by simp))) ?_
   refine WP.loop2 [2, 10, 24, 25, 26, 36, 37] (fun (m : Nat) (v : Value) => m <= (gd l.cells.xs (gd zs i).cell.toNat).shapes.xs.length ∧ ∀ j, j < m -> validRect (moveR (gd zs i).place (gd (gd l.cells.xs (gd zs i).cell.toNat).shapes.xs j).box) = true) (fun (m : Nat) (v : Value) => [(38, vi m), (8, v)]) (fun (m : Nat) (v : Value) => osl 109 shapeT v (flatL (erCls l.cells.xs) ((occR (erCls l.cells.xs) cell).take i) ++ (flatOf (erCls l.cells.xs) (gd (occR (erCls l.cells.xs) cell) i)).take m) :: osl 119 occT w17 zs :: bagS 2 intT (pths zs) :: blk b2 26 (libT.enc l) :: blk b10 119 (occT.enc (gd zs i)) :: L) (fun (m : Nat) (v : Value) => (gd l.cells.xs (gd zs i).cell.toNat).shapes.xs.length - m) 0 v ⟨by omega, fun j h => by omega⟩ ⟨rfl, rfl, trivial⟩ Cv.p ?_
   rintro m v τ ⟨hm, hq⟩
   refine WP.sr (RG.p (PV.lss rfl rfl rfl) (RG.nil (WP.seq ?_)))
   refine WP.cond rfl (fun h4 => ?_) fun h4 => ?_
   ·have h4 := odt h4
    have hst := ha.step (m := m) (by omega)
    have hll : (flatL (erCls l.cells.xs) ((occR (erCls l.cells.xs) cell).take i) ++ (flatOf (erCls l.cells.xs) (gd (occR (erCls l.cells.xs) cell) i)).take m).length <= 6000 := by rw [List.length_append, List.length_take]; omega
    refine WP.skip (WP.seq (WP.block (WP.sr (RG.p (PV.idxS rfl Is66 rfl (SlF.r hsl) rfl rfl (by omega)) (RG.p (PV.loadE rfl Ag109 rfl rfl (El.r hsl (getG (by omega)))) ?_)))))
    refine RG.ot rfl (OT.alloc rfl Zr109 fun b12 => ?_)
    refine RG.ot rfl (OT.storeW (vs := [vi _, vi _, vi _, vi _, vi _]) rfl Sz109 rfl rfl (Cl.c rfl) rfl rfl (OneC.c rfl) ?_)
    refine RG.nil (WP.sr (RG.p (PV.field rfl Fo119_1 rfl) (RG.p (PV.loadB (vs := [_, _, _]) rfl Ag87 rfl rfl rfl) (RG.p (PV.field rfl Fo109_1 rfl) (RG.p (PV.loadB (vs := [_, _, _, _]) rfl Ag101 rfl rfl rfl) ?_)))))
    refine RG.callF (vs := [_, _]) rfl rfl En66 rfl (moveRect_s ha.hp.1 ha.hp.2 (ha.hb m (by omega)) ?_)
    refine RG.ot rfl (OT.alloc rfl Zr101 fun b13 => ?_)
    refine RG.ot rfl (OT.storeW (vs := [vi _, vi _, vi _, vi _]) rfl Sz101 rfl rfl (Cl.c rfl) rfl rfl (OneC.c rfl) ?_)
    refine RG.nil (WP.seq (WP.sr (RG.p (PV.loadW rfl Ag101 rfl rfl) ?_)))
    refine RG.callF (vs := [_]) rfl rfl En67 rfl (validRect_s ?_)
    refine RG.p (PV.not rfl rfl) (RG.nil ?_)
    refine WP.cond rfl (fun h5 => ?_) fun h5 => ?_
    ·have e : shE (erCls l.cells.xs) cell = 2 := by rw [hse, ha.bad (m := m) (by omega) (by simpa using h5)]; rfl
     have e2 : shR (erCls l.cells.xs) cell = [] := shR_no (by rw [e]; decide)
     rw [e, e2] at k
     refine WP.sr (RG.p (PV.asg rfl rfl) (RG.mr rfl (RG.nil ?_)))
     exact WP.ret ⟨_, _, ResV.two rfl rfl rfl, Cv.p.trans Cv.nilS, k (.slice none 0 0)⟩
    ·have hq' : ∀ j, j < m + 1 -> validRect (moveR (gd zs i).place (gd (gd l.cells.xs (gd zs i).cell.toNat).shapes.xs j).box) = true := fun j h => by
      by_cases c : j = m
      ·rw [c]; simpa using h5
      ·exact hq j (by omega)
     refine WP.skip (WP.region (RG.p (PV.move (v := v) rfl rfl) (RG.p (PV.field rfl Fo109_0 rfl) (RG.p (PV.load1 rfl Sc2 rfl (Rd.blk rfl)) (RG.p (PV.loadW rfl Ag101 rfl rfl) (RG.p (PV.build (vs := [(0, [vi _]), (1, [vi _, vi _, vi _, vi _])]) (out := [_, _, _, _, _]) rfl Zr109 Pl109 ⟨rfl, (Cl.c rfl), ⟨rfl, (Cl.c rfl), trivial⟩⟩ rfl) ?_))))))
     refine RG.ot rfl (OT.bslice (F := shapeT) (els := [⟨(gd (gd l.cells.xs (gd zs i).cell.toNat).shapes.xs m).layer, moveR (gd zs i).place (gd (gd l.cells.xs (gd zs i).cell.toNat).shapes.xs m).box⟩]) rfl El66 rfl (by decide) rfl (by decide) ⟨rfl, (Cl.c rfl), trivial⟩ fun v55 => ?_)
     refine RG.ot rfl (OT.append (v := v) (u := v55) (F := shapeT) rfl El66 rfl (by decide) rfl rfl Rs.o (OneL.c (fun _ => rfl)) rfl (by first | omega | (simp <;> omega)) fun v56 => ?_)
     refine RG.p (PV.asg (v := v56) rfl rfl) (RG.nil (WP.region (RG.p (PV.add rfl rfl rfl (by omega)) (RG.ml rfl (RG.nil ?_)))))
     exact ⟨rfl, m + 1, v56, ⟨by omega, hq'⟩, ⟨rfl, rfl, trivial⟩, ⟨rfl, rfl, rfl, rfl, rfl, rfl, rfl, trivial⟩, ((Cv.p (C := osl 109 shapeT v56 (flatL (erCls l.cells.xs) ((occR (erCls l.cells.xs) cell).take i) ++ (flatOf (erCls l.cells.xs) (gd (occR (erCls l.cells.xs) cell) i)).take m ++ [⟨(gd (gd l.cells.xs (gd zs i).cell.toNat).shapes.xs m).layer, moveR (gd zs i).place (gd (gd l.cells.xs (gd zs i).cell.toNat).shapes.xs m).box⟩]) :: osl 119 occT w17 zs :: bagS 2 intT (pths zs) :: blk b2 26 (libT.enc l) :: blk b10 119 (occT.enc (gd zs i)) :: L)).trans (Cv.eqS (by rw [List.append_assoc, <- hst]))), by omega⟩
   ·have h4 := odf h4
    have e : flatL (erCls l.cells.xs) ((occR (erCls l.cells.xs) cell).take i) ++ (flatOf (erCls l.cells.xs) (gd (occR (erCls l.cells.xs) cell) i)).take m = flatL (erCls l.cells.xs) ((occR (erCls l.cells.xs) cell).take (i + 1)) := by rw [List.take_of_length_le (i := m) (l := flatOf (erCls l.cells.xs) (gd (occR (erCls l.cells.xs) cell) i)) (by rw [ha.len]; omega), flatL_take ha.hi]
    refine WP.exit (WP.region (RG.p (PV.add rfl rfl rfl (by omega)) (RG.ml rfl (RG.nil ?_))))
    exact ⟨rfl, i + 1, v, ⟨by omega, hg.next ha (fun j h => hq j (by omega))⟩, ⟨rfl, rfl, trivial⟩, ⟨rfl, rfl, rfl, trivial⟩, ((Cv.eqS e).trans Cv.p), by omega⟩
  ·have h2 := odf h2
   have e : shE (erCls l.cells.xs) cell = 0 := by rw [hse, flat_good (fun j h => hg j (by omega))]; rfl
   have e2 : shR (erCls l.cells.xs) cell = flatL (erCls l.cells.xs) ((occR (erCls l.cells.xs) cell).take i) := by rw [shR_ok e, List.take_of_length_le (by omega)]
   rw [e, e2] at k
   refine WP.exit (WP.sr (RG.p (PV.move (v := v) rfl rfl) (RG.p (PV.asg (v := v) rfl rfl) (RG.mr rfl (RG.nil ?_)))))
   exact WP.ret ⟨_, _, ResV.two rfl rfl rfl, Cv.p, k v⟩
theorem OccAt.big {xs : List Cell} {cell : Int} {zs : List Occ} {i : Nat} (h : OccAt xs cell zs i) : TBig (gd zs i).place := by
 obtain ⟨q1, q2⟩ := h.hp
 exact ⟨q1, by omega⟩
theorem flat_r {l : Lib} {cell : Int} (hL : RLib G L l.cells.v l.cells.xs) (hlen : lenC (erCls l.cells.xs)) (k : ∀ v', R (.tuple #[v', vi (shE (erCls l.cells.xs) cell)]) G (osl 109 shapeT v' (shR (erCls l.cells.xs) cell) :: L)) : CallT Tryz.prog 38 #[vT libT l, vi cell] G L R := by
 have hE := erCls_len l.cells.xs
 refine CallT.enter (args := _) Tryz.func38 rfl rfl (by kernel_rfl) rfl ?_
 refine WP.sr ?_
 refine RG.ot rfl (OT.box (cs := libT.enc l) rfl rfl rfl fun b2 => ?_)
 refine RG.p (PV.asg rfl rfl) (RG.mr rfl (RG.nil (WP.sr (RG.p (PV.loadW rfl Ag26 rfl rfl) (RG.ml rfl ?_)))))
 refine RG.callF (vs := [_, _]) rfl rfl En76 rfl (occ_r hL.up hlen (fun w16 zs he => ?_))
 refine RG.p (PV.move (v := .tuple _) rfl rfl) (RG.p (PV.ext (v := w16) rfl rfl rfl) (RG.p (PV.ext rfl rfl rfl) (RG.p (PV.asg (v := w16) rfl rfl) (RG.mr rfl (RG.nil (WP.seq (WP.sr (RG.ml rfl (RG.p (PV.neq rfl rfl rfl) (RG.nil ?_))))))))))
 refine WP.cond rfl (fun h1 => ?_) fun h1 => ?_
 ·have h1 : occE (erCls l.cells.xs) cell ≠ 0 := by simpa using h1
  have e := shE_occ h1
  have e2 : shR (erCls l.cells.xs) cell = [] := shR_no (by rw [e]; exact h1)
  rw [e, e2] at k
  refine WP.sr (RG.ml rfl (RG.p (PV.asg rfl rfl) (RG.mr rfl (RG.nil ?_))))
  exact WP.ret ⟨_, _, ResV.two rfl rfl rfl, Cv.p.trans Cv.nilS, k (.slice none 0 0)⟩
 ·have h1 : occE (erCls l.cells.xs) cell = 0 := by simpa using h1
  have hse := shE_flat h1
  have hzl : zs.length = (occR (erCls l.cells.xs) cell).length := by rw [<- he, erOs_len]
  refine WP.skip (WP.sr ?_)
  refine RG.ot rfl (OT.bslice (F := shapeT) (els := []) rfl El66 rfl (by decide) rfl (by decide) trivial fun v22 => ?_)
  refine RG.p (PV.asg (v := v22) rfl rfl) (RG.nil (WP.seq (WP.sr (RG.mr rfl (RG.nil (WP.block ?_))))))
  refine WP.bdo w16 fun hbz => ?_
  refine WP.cv (Cv.eqS (ys := flatL (erCls l.cells.xs) ((occR (erCls l.cells.xs) cell).take 0)) rfl) ?_
  refine WP.loop2 [2, 6] (fun (i : Nat) (v : Value) => i <= zs.length ∧ goodTo (erCls l.cells.xs) (occR (erCls l.cells.xs) cell) i) (fun (i : Nat) (v : Value) => [(9, vi i), (8, v)]) (fun (i : Nat) (v : Value) => osl 109 shapeT v (flatL (erCls l.cells.xs) ((occR (erCls l.cells.xs) cell).take i)) :: osl 119 occT w16 zs :: bagS 2 intT (pths zs) :: blk b2 26 (libT.enc l) :: L) (fun (i : Nat) (v : Value) => zs.length - i) 0 v22 ⟨by omega, fun j h => by omega⟩ ⟨rfl, rfl, trivial⟩ Cv.p ?_
  rintro i v τ ⟨hi, hg⟩
  refine WP.seq (WP.sr (RG.ml rfl (RG.p (PV.move (v := w16) rfl rfl) (RG.p (PV.len (v := w16) rfl Tryz.underlying115 rfl SlF.o) (RG.p (PV.lss rfl rfl rfl) (RG.nil ?_))))))
  have hfb := flatL_bd (cs := (erCls l.cells.xs)) (cell := cell) i (by omega)
  refine WP.cond rfl (fun h2 => ?_) fun h2 => ?_
  ·have h2 := odt h2
   have h3 : i < zs.length := by omega
   have ha := OccAt.of (cell := cell) he h3
   have hac := ha.hc
   have hal := ha.hl
   have hsl := hL.sa ha.hc.2
   refine WP.skip (WP.seq (WP.block (WP.seq ?_)))
   refine WP.regionH0 (.q 0 (.q 1 (.q 2 (.q 3 (.q 4 (.q 5 (.q 6 (.q 7 (.q 8 (.l 9 (.l 10 Sch.nil))))))))))) (by kernel_rfl) (by kernel_rfl) (by kernel_rfl) rfl ?_
   refine RH.w rfl rfl (PV.field rfl Fo26_0 rfl) (RH.w rfl rfl (PV.load1 rfl Sc24 rfl (Rd.blk rfl)) (RH.w rfl rfl (PV.move (v := w16) rfl rfl) (RH.w rfl rfl (PV.mvI (.inl rfl) rfl) (RH.w rfl rfl (PV.idxS (v := w16) rfl Is115 rfl SlF.o rfl rfl (by omega)) (RH.w rfl rfl (PV.field rfl Fo119_0 rfl) (RH.w rfl rfl (PV.loadF rfl Sc2 rfl rfl (El.o (getG (by omega))) rfl) (RH.w rfl rfl (PV.idxS (j := (gd zs i).cell.toNat) rfl Is24 rfl (SlF.r hL.c) rfl (by omega) (by omega)) (RH.w rfl rfl (PV.loadE rfl Ag95 rfl rfl (El.r hL.c (getG (by omega)))) ?_))))))))
   refine RH.ot rfl rfl (OT.alloc rfl Zr95 fun b10 => (kp ?_))
   refine RH.ot rfl rfl (OT.storeW (vs := [.string _, _, _, _]) rfl Sz95 rfl rfl (Cl.c rfl) rfl rfl (hL.one ha.hc.2) (kp ?_))
   refine RH.nil (WP.sr (RG.mr rfl (RG.nil (WP.block ?_))))
   refine WP.cv ((Cv.p (C := osl 109 shapeT v (flatL (erCls l.cells.xs) ((occR (erCls l.cells.xs) cell).take i)) :: osl 119 occT w16 zs :: bagS 2 intT (pths zs) :: blk b2 26 (libT.enc l) :: blk b10 95 (cellT.enc (gd l.cells.xs (gd zs i).cell.toNat)) :: L)).trans (Cv.eqS (ys := flatL (erCls l.cells.xs) ((occR (erCls l.cells.xs) cell).take i) ++ (flatOf (erCls l.cells.xs) (gd (occR (erCls l.cells.xs) cell) i)).take 0) (by simp))) ?_
   refine WP.loop2 [2, 6, 9, 10] (fun (m : Nat) (v : Value) => m <= (gd l.cells.xs (gd zs i).cell.toNat).shapes.xs.length ∧ ∀ j, j < m -> validRect (moveR (gd zs i).place (gd (gd l.cells.xs (gd zs i).cell.toNat).shapes.xs j).box) = true) (fun (m : Nat) (v : Value) => [(11, vi m), (8, v)]) (fun (m : Nat) (v : Value) => osl 109 shapeT v (flatL (erCls l.cells.xs) ((occR (erCls l.cells.xs) cell).take i) ++ (flatOf (erCls l.cells.xs) (gd (occR (erCls l.cells.xs) cell) i)).take m) :: osl 119 occT w16 zs :: bagS 2 intT (pths zs) :: blk b2 26 (libT.enc l) :: blk b10 95 (cellT.enc (gd l.cells.xs (gd zs i).cell.toNat)) :: L) (fun (m : Nat) (v : Value) => (gd l.cells.xs (gd zs i).cell.toNat).shapes.xs.length - m) 0 v ⟨by omega, fun j h => by omega⟩ ⟨rfl, rfl, trivial⟩ Cv.p ?_
   rintro m v τ ⟨hm, hq⟩
   refine WP.seq (WP.sr (RG.ml rfl (RG.p (PV.field rfl Fo95_1 rfl) (RG.p (PV.load1 rfl Sc66 rfl (Rd.blk rfl)) (RG.p (PV.len rfl Tryz.underlying66 rfl (SlF.r hsl)) (RG.p (PV.lss rfl rfl rfl) (RG.nil ?_)))))))
   refine WP.cond rfl (fun h4 => ?_) fun h4 => ?_
   ·have h4 := odt h4
    have hst := ha.step (m := m) (by omega)
    have hll : (flatL (erCls l.cells.xs) ((occR (erCls l.cells.xs) cell).take i) ++ (flatOf (erCls l.cells.xs) (gd (occR (erCls l.cells.xs) cell) i)).take m).length <= 6000 := by rw [List.length_append, List.length_take]; omega
    refine WP.skip (WP.seq (WP.block ?_))
    refine WP.cut1 [2, 6, 8, 9, 10, 11] (fun (b12 : Nat) => True) (fun (b12 : Nat) => [(12, .pointer (some ⟨b12, 0, none⟩))]) (fun (b12 : Nat) => blk b12 101 (rectT.enc (moveR (gd zs i).place (gd (gd l.cells.xs (gd zs i).cell.toNat).shapes.xs m).box)) :: osl 109 shapeT v (flatL (erCls l.cells.xs) ((occR (erCls l.cells.xs) cell).take i) ++ (flatOf (erCls l.cells.xs) (gd (occR (erCls l.cells.xs) cell) i)).take m) :: osl 119 occT w16 zs :: bagS 2 intT (pths zs) :: blk b2 26 (libT.enc l) :: blk b10 95 (cellT.enc (gd l.cells.xs (gd zs i).cell.toNat)) :: L) ?_ ?_
    refine WP.regionH0 (.q 0 (.q 1 (.q 2 (.q 3 (.q 4 (.q 5 (.q 6 (.q 7 (.q 8 (.q 9 (.q 10 (.b 11 (.l 12 (.l 13 Sch.nil)) 12 (.l 11 (.l 13 Sch.nil)))))))))))))) (by kernel_rfl) (by kernel_rfl) (by kernel_rfl) rfl ?_
    refine RH.w rfl rfl (PV.move (v := w16) rfl rfl) (RH.w rfl rfl (PV.mvI (.inl rfl) rfl) (RH.w rfl rfl (PV.idxS (v := w16) rfl Is115 rfl SlF.o rfl rfl (by omega)) (RH.w rfl rfl (PV.field rfl Fo119_1 rfl) (RH.w rfl rfl (PV.loadEP rfl Ag87 rfl rfl (El.o (getG (by omega))) rfl) (RH.w rfl rfl (PV.field rfl Fo95_1 rfl) (RH.w rfl rfl (PV.load1 rfl Sc66 rfl (Rd.blk rfl)) (RH.w rfl rfl (PV.mvI (.inl rfl) rfl) (RH.w rfl rfl (PV.idxS rfl Is66 rfl (SlF.r hsl) rfl rfl (by omega)) (RH.w rfl rfl (PV.field rfl Fo109_1 rfl) (RH.w rfl rfl (PV.loadEP rfl Ag101 rfl rfl (El.r hsl (getG (by omega))) rfl) ?_))))))))))
    ·refine RH.ot2 rfl rfl rfl rfl  (OT.callF (vs := [_, _]) rfl En77 rfl (l10Rect_r ha.big (ha.hb m (by omega)) (kp ?_))) (OT.alloc rfl Zr101 fun b12 => (kp ?_))
     ·refine RH.ot rfl rfl (OT.alloc rfl Zr101 fun b12 => (kp ?_))
      refine RH.ot rfl rfl (OT.storeW (vs := [vi _, vi _, vi _, vi _]) rfl Sz101 rfl rfl (Cl.c rfl) rfl rfl (OneC.c rfl) (kp ?_))
      refine RH.nil ?_
      exact ⟨rfl, b12, trivial, ⟨rfl, trivial⟩, ⟨rfl, rfl, rfl, rfl, rfl, rfl, trivial⟩, Cv.p⟩
     ·refine RH.ot rfl rfl (OT.callF (vs := [_, _]) rfl En77 rfl (l10Rect_r ha.big (ha.hb m (by omega)) (kp ?_)))
      refine RH.ot rfl rfl (OT.storeW (vs := [vi _, vi _, vi _, vi _]) rfl Sz101 rfl rfl (Cl.c rfl) rfl rfl (OneC.c rfl) (kp ?_))
      refine RH.nil ?_
      exact ⟨rfl, b12, trivial, ⟨rfl, trivial⟩, ⟨rfl, rfl, rfl, rfl, rfl, rfl, trivial⟩, Cv.p⟩
    rintro b12 τ5 -
    refine WP.seq (WP.sr (RG.p (PV.loadW rfl Ag101 rfl rfl) ?_))
    refine RG.callF (vs := [_]) rfl rfl En78 rfl (l09Rect_r ?_)
    refine RG.p (PV.not rfl rfl) (RG.nil ?_)
    refine WP.cond rfl (fun h5 => ?_) fun h5 => ?_
    ·have e : shE (erCls l.cells.xs) cell = 2 := by rw [hse, ha.bad (m := m) (by omega) (by simpa using h5)]; rfl
     have e2 : shR (erCls l.cells.xs) cell = [] := shR_no (by rw [e]; decide)
     rw [e, e2] at k
     refine WP.sr (RG.p (PV.asg rfl rfl) (RG.mr rfl (RG.nil ?_)))
     exact WP.ret ⟨_, _, ResV.two rfl rfl rfl, Cv.p.trans Cv.nilS, k (.slice none 0 0)⟩
    ·have hq' : ∀ j, j < m + 1 -> validRect (moveR (gd zs i).place (gd (gd l.cells.xs (gd zs i).cell.toNat).shapes.xs j).box) = true := fun j h => by
      by_cases c : j = m
      ·rw [c]; simpa using h5
      ·exact hq j (by omega)
     refine WP.skip ?_
     refine WP.regionHD [.s v] (.q 0 (.q 1 (.q 2 (.q 3 (.q 4 (.q 5 (.q 6 (.q 7 (.q 8 (.l 9 (.l 10 (.q 11 Sch.nil)))))))))))) (by kernel_rfl) (by kernel_rfl) (by kernel_rfl) rfl ?_
     refine RH.w rfl rfl (PV.move (v := v) rfl rfl) (RH.w rfl rfl (PV.field rfl Fo95_1 rfl) (RH.w rfl rfl (PV.load1 rfl Sc66 rfl (Rd.blk rfl)) (RH.w rfl rfl (PV.mvI (.inl rfl) rfl) (RH.w rfl rfl (PV.idxS rfl Is66 rfl (SlF.r hsl) rfl rfl (by omega)) (RH.w rfl rfl (PV.field rfl Fo109_0 rfl) (RH.w rfl rfl (PV.loadF rfl Sc2 rfl rfl (El.r hsl (getG (by omega))) rfl) (RH.w rfl rfl (PV.loadW rfl Ag101 rfl rfl) (RH.w rfl rfl (PV.build (vs := [(0, [vi _]), (1, [vi _, vi _, vi _, vi _])]) (out := [_, _, _, _, _]) rfl Zr109 Pl109 ⟨rfl, (Cl.c rfl), ⟨rfl, (Cl.c rfl), trivial⟩⟩ rfl) ?_))))))))
     refine RH.ot rfl rfl (OT.bslice (F := shapeT) (els := [⟨(gd (gd l.cells.xs (gd zs i).cell.toNat).shapes.xs m).layer, moveR (gd zs i).place (gd (gd l.cells.xs (gd zs i).cell.toNat).shapes.xs m).box⟩]) rfl El66 rfl (by decide) rfl (by decide) ⟨rfl, (Cl.c rfl), trivial⟩ fun v69 => (kp ?_))
     refine RH.ot rfl rfl (OT.append (v := v) (u := v69) (F := shapeT) rfl El66 rfl (by decide) rfl rfl Rs.o (OneL.c (fun _ => rfl)) rfl (by first | omega | (simp <;> omega)) fun v70 => (kp ?_))
     refine RH.w rfl rfl (PV.asg (v := v70) rfl rfl) (RH.nil (WP.region (RG.ml rfl (RG.p (PV.add rfl rfl rfl (by omega)) (RG.mr rfl (RG.nil ?_))))))
     exact ⟨rfl, m + 1, v70, ⟨by omega, hq'⟩, ⟨rfl, rfl, trivial⟩, ⟨rfl, rfl, rfl, rfl, trivial⟩, ((Cv.p (C := osl 109 shapeT v70 (flatL (erCls l.cells.xs) ((occR (erCls l.cells.xs) cell).take i) ++ (flatOf (erCls l.cells.xs) (gd (occR (erCls l.cells.xs) cell) i)).take m ++ [⟨(gd (gd l.cells.xs (gd zs i).cell.toNat).shapes.xs m).layer, moveR (gd zs i).place (gd (gd l.cells.xs (gd zs i).cell.toNat).shapes.xs m).box⟩]) :: osl 119 occT w16 zs :: bagS 2 intT (pths zs) :: blk b2 26 (libT.enc l) :: blk b10 95 (cellT.enc (gd l.cells.xs (gd zs i).cell.toNat)) :: L)).trans (Cv.eqS (by rw [List.append_assoc, <- hst]))), by omega⟩
   ·have h4 := odf h4
    have e : flatL (erCls l.cells.xs) ((occR (erCls l.cells.xs) cell).take i) ++ (flatOf (erCls l.cells.xs) (gd (occR (erCls l.cells.xs) cell) i)).take m = flatL (erCls l.cells.xs) ((occR (erCls l.cells.xs) cell).take (i + 1)) := by rw [List.take_of_length_le (i := m) (l := flatOf (erCls l.cells.xs) (gd (occR (erCls l.cells.xs) cell) i)) (by rw [ha.len]; omega), flatL_take ha.hi]
    refine WP.exit (WP.region (RG.ml rfl (RG.p (PV.add rfl rfl rfl (by omega)) (RG.mr rfl (RG.nil ?_)))))
    exact ⟨rfl, i + 1, v, ⟨by omega, hg.next ha (fun j h => hq j (by omega))⟩, ⟨rfl, rfl, trivial⟩, ⟨rfl, rfl, trivial⟩, ((Cv.eqS e).trans Cv.p), by omega⟩
  ·have h2 := odf h2
   have e : shE (erCls l.cells.xs) cell = 0 := by rw [hse, flat_good (fun j h => hg j (by omega))]; rfl
   have e2 : shR (erCls l.cells.xs) cell = flatL (erCls l.cells.xs) ((occR (erCls l.cells.xs) cell).take i) := by rw [shR_ok e, List.take_of_length_le (by omega)]
   rw [e, e2] at k
   refine WP.exit (WP.sr (RG.p (PV.move (v := v) rfl rfl) (RG.p (PV.asg (v := v) rfl rfl) (RG.mr rfl (RG.nil ?_)))))
   exact WP.ret ⟨_, _, ResV.two rfl rfl rfl, Cv.p, k v⟩
def layTo (ss : List Shape) (n : Nat) : List (List Rect) := (List.range n).map fun l => canon (bits (boxesOf ss l))
theorem layTo_next {ss : List Shape} {n : Nat} {zs : List (Sl Rect)} {u : Value} (h : er zs = layTo ss n) : er (zs ++ [⟨u, canon (bits (boxesOf ss n))⟩]) = layTo ss (n + 1) := by
 have e : er (zs ++ [(⟨u, canon (bits (boxesOf ss n))⟩ : Sl Rect)]) = er zs ++ [canon (bits (boxesOf ss n))] := by simp [er]
 rw [e, h, layTo, layTo, List.range_succ, List.map_append]; rfl
theorem layTo_len {ss : List Shape} {n : Nat} {zs : List (Sl Rect)} (h : er zs = layTo ss n) : zs.length = n := by
 have := congrArg List.length h; simpa [er, layTo] using this
theorem any_boxes {ss : List Shape} {i n y x : Nat} (h : i < ss.length) : ((boxesOf (ss.take (i + 1)) n).any fun r => inR r y x) = (((boxesOf (ss.take i) n).any fun r => inR r y x) || (decide ((gd ss i).layer = (n : Int)) && inR (gd ss i).box y x)) := by
 rw [boxesOf_step h, List.any_append]
 by_cases e : (gd ss i).layer = (n : Int) <;> simp [e]
theorem layers_i {v : Value} {ss : List Shape} (h1 : Rs G L shapeT v ss) (k : ∀ v' ys, er ys = layL ss -> R v' G (osl 50 slT v' ys :: bagS 101 rectT ys :: L)) : CallT Tryz.prog 33 #[v] G L R := by
 refine CallT.bd h1 fun hb => ?_
 refine CallT.enter (args := _) Tryz.func33 rfl rfl (by kernel_rfl) rfl ?_
 refine WP.sr (RG.p (PV.asg rfl rfl) (RG.nil (WP.sr ?_)))
 refine RG.ot rfl (OT.bslice (F := (slT (α := Rect))) (els := []) rfl El35 rfl (by decide) rfl (by decide) trivial fun v8 => ?_)
 refine RG.p (PV.asg (v := v8) rfl rfl) (RG.nil (WP.seq (WP.sr (RG.ml rfl (RG.nil (WP.block ?_))))))
 refine WP.cv (Cv.cons (Cv.bag0 (e := 101) (F := rectT) (xs := []) rfl)) ?_
 refine WP.loop3 [0] (fun (n : Nat) (vo : Value) (zs : List (Sl Rect)) => n <= 8 ∧ er zs = layTo ss n) (fun (n : Nat) (vo : Value) (zs : List (Sl Rect)) => [(9, vi n), (3, vo)]) (fun (n : Nat) (vo : Value) (zs : List (Sl Rect)) => osl 50 slT vo zs :: bagS 101 rectT zs :: L) (fun (n : Nat) (vo : Value) (zs : List (Sl Rect)) => 8 - n) 0 v8 [] ⟨by omega, rfl⟩ ⟨rfl, rfl, trivial⟩ Cv.p ?_
 rintro n vo zs τ ⟨hn, hz⟩
 refine WP.sr (RG.p (PV.lss rfl rfl rfl) (RG.nil (WP.seq ?_)))
 have hzl := layTo_len hz
 refine WP.cond rfl (fun h2 => ?_) fun h2 => ?_
 ·have h2 := odt h2
  refine WP.skip (WP.seq (WP.block (WP.sr (RG.ml rfl (RG.mr rfl (RG.nil (WP.sr (RG.p (PV.build0 rfl Tryz.underlying125 ⟨80, by kernel_rfl⟩ (zeroB_spec (n := 6400) (by kernel_rfl))) ?_))))))))
  refine RG.ot rfl (OT.boxG rfl rfl fun b13 => ?_)
  refine RG.p (PV.mvP (.inr rfl) rfl) (RG.nil (WP.seq (WP.sr (RG.p (PV.move (v := v) rfl rfl) (RG.p (PV.len (v := v) rfl Tryz.underlying66 rfl (SlF.r h1)) (RG.ml rfl (RG.nil (WP.block ?_))))))))
  refine WP.loop2 [0, 3, 4, 5, 9, 14, 15] (fun (i : Nat) (cs : List Bool) => i <= ss.length ∧ cs.length = 6400 ∧ ∀ y x, y < 80 -> x < 80 -> gb cs y x = (boxesOf (ss.take i) n).any fun r => inR r y x) (fun (i : Nat) (cs : List Bool) => [(16, vi i)]) (fun (i : Nat) (cs : List Bool) => grd b13 cs :: osl 50 slT vo zs :: bagS 101 rectT zs :: L) (fun (i : Nat) (cs : List Bool) => ss.length - i) 0 (List.replicate 6400 false) ⟨by omega, by simp, fun y x _ _ => by rw [gb_rep]; simp [boxesOf]⟩ ⟨rfl, trivial⟩ Cv.p ?_
  rintro i cs τ1 ⟨hi, hl, hc⟩
  refine WP.sr (RG.p (PV.lss rfl rfl rfl) (RG.nil (WP.seq ?_)))
  refine WP.cond rfl (fun h3 => ?_) fun h3 => ?_
  ·have h3 := odt h3
   have h4 : i < ss.length := by omega
   refine WP.skip (WP.seq (WP.block (WP.sr (RG.p (PV.idxS (v := v) rfl Is66 rfl (SlF.r h1) rfl rfl (by omega)) (RG.p (PV.loadE rfl Ag109 rfl rfl (El.r h1 (getG (by omega)))) ?_)))))
   refine RG.ot rfl (OT.alloc rfl Zr109 fun b7 => ?_)
   refine RG.ot rfl (OT.storeW (vs := [vi _, vi _, vi _, vi _, vi _]) rfl Sz109 rfl rfl (Cl.c rfl) rfl rfl (OneC.c rfl) ?_)
   refine RG.nil (WP.sr (RG.p (PV.field rfl Fo109_0 rfl) (RG.p (PV.load1 rfl Sc2 rfl (Rd.blk rfl)) (RG.ml rfl (RG.p (PV.eql rfl rfl rfl) (RG.nil ?_))))))
   refine WP.cond rfl (fun h5 => ?_) fun h5 => ?_
   ·have h5 := odt h5
    refine WP.region (RG.p (PV.mvP (.inl rfl) rfl) (RG.p (PV.field rfl Fo109_1 rfl) (RG.p (PV.loadB (vs := [_, _, _, _]) rfl Ag101 rfl rfl rfl) ?_)))
    refine RG.callF (vs := [(.pointer (some ⟨b13, 0, none⟩)), _]) rfl rfl En68 rfl (CallT.exB (put_s (by assumption) (fun bs' hb' hg' => ?_)))
    refine RG.nil (WP.region (RG.p (PV.add rfl rfl rfl (by omega)) (RG.ml rfl (RG.nil ?_))))
    refine ⟨rfl, i + 1, bs', ⟨by omega, hb', fun y x h6 h7 => ?_⟩, ⟨rfl, trivial⟩, ⟨rfl, rfl, rfl, rfl, rfl, rfl, rfl, trivial⟩, Cv.p, by omega⟩
    rw [hg' y x h6 h7, hc y x h6 h7, any_boxes h4, decide_eq_true h5, Bool.true_and]
   ·have h5 := odf h5
    refine WP.skip (WP.region (RG.p (PV.add rfl rfl rfl (by omega)) (RG.ml rfl (RG.nil ?_))))
    refine ⟨rfl, i + 1, cs, ⟨by omega, hl, fun y x h6 h7 => ?_⟩, ⟨rfl, trivial⟩, ⟨rfl, rfl, rfl, rfl, rfl, rfl, rfl, trivial⟩, Cv.p, by omega⟩
    rw [hc y x h6 h7, any_boxes h4, decide_eq_false h5, Bool.false_and, Bool.or_false]
  ·have h3 := odf h3
   have e : cs = bits (boxesOf ss n) := bits_eq hl fun y x h6 h7 => by rw [hc y x h6 h7, List.take_of_length_le (by omega)]
   subst e
   refine WP.exit (WP.region (RG.p (PV.move (v := vo) rfl rfl) (RG.p (PV.mvP (.inl rfl) rfl) ?_)))
   refine RG.callF (vs := [(.pointer (some ⟨b13, 0, none⟩))]) rfl rfl En69 rfl (CallT.exB (region_s (bits_length _) (fun v31 => ?_)))
   refine RG.ot rfl (OT.bslice (F := (slT (α := Rect))) (els := [⟨v31, canon (bits (boxesOf ss n))⟩]) rfl El35 rfl (by decide) rfl (by decide) ⟨rfl, (Cl.s (v := v31) SlF.o), trivial⟩ fun v32 => ?_)
   refine RG.ot rfl (OT.append (v := vo) (u := v32) (F := (slT (α := Rect))) rfl El35 rfl (by decide) rfl rfl Rs.o (OneL.one (a := (⟨v31, canon (bits (boxesOf ss n))⟩ : Sl Rect)) (OneC.sl SlF.o OneC.nil)) rfl (by first | omega | (simp <;> omega)) fun v33 => ?_)
   refine RG.p (PV.asg (v := v33) rfl rfl) (RG.nil (WP.region (RG.p (PV.add rfl rfl rfl (by omega)) (RG.ml rfl (RG.nil ?_)))))
   exact ⟨rfl, n + 1, v33, (zs ++ [⟨v31, canon (bits (boxesOf ss n))⟩]), ⟨by omega, layTo_next hz⟩, ⟨rfl, rfl, trivial⟩, ⟨rfl, trivial⟩, ((Cv.p (C := osl 101 rectT v31 (canon (bits (boxesOf ss n))) :: osl 50 slT v33 (zs ++ [⟨v31, canon (bits (boxesOf ss n))⟩]) :: bagS 101 rectT zs :: L)).trans Cv.slotNew), by omega⟩
 ·have h2 := odf h2
  obtain rfl : n = 8 := by omega
  refine WP.exit (WP.sr (RG.p (PV.move (v := vo) rfl rfl) (RG.p (PV.asg (v := vo) rfl rfl) (RG.nil ?_))))
  exact WP.ret ⟨_, _, rv rfl rfl, Cv.p, k vo zs hz⟩
theorem layers_r {v : Value} {ss : List Shape} (h1 : Rs G L shapeT v ss) (hv : ∀ i, i < ss.length -> validRect (gd ss i).box = true) (k : ∀ v' ys, er ys = layL ss -> R v' G (osl 50 slT v' ys :: bagS 101 rectT ys :: L)) : CallT Tryz.prog 61 #[v] G L R := by
 refine CallT.bd h1 fun hb => ?_
 refine CallT.enter (args := _) Tryz.func61 rfl rfl (by kernel_rfl) rfl ?_
 refine WP.sr (RG.p (PV.asg rfl rfl) (RG.nil (WP.sr ?_)))
 refine RG.ot rfl (OT.bslice (F := (slT (α := Rect))) (els := []) rfl El35 rfl (by decide) rfl (by decide) trivial fun v10 => ?_)
 refine RG.p (PV.asg (v := v10) rfl rfl) (RG.nil (WP.seq (WP.sr (RG.mr rfl (RG.nil (WP.block ?_))))))
 refine WP.cv (Cv.cons (Cv.bag0 (e := 101) (F := rectT) (xs := []) rfl)) ?_
 refine WP.loop3 [0] (fun (n : Nat) (vo : Value) (zs : List (Sl Rect)) => n <= 8 ∧ er zs = layTo ss n) (fun (n : Nat) (vo : Value) (zs : List (Sl Rect)) => [(4, vi n), (3, vo)]) (fun (n : Nat) (vo : Value) (zs : List (Sl Rect)) => osl 50 slT vo zs :: bagS 101 rectT zs :: L) (fun (n : Nat) (vo : Value) (zs : List (Sl Rect)) => 8 - n) 0 v10 [] ⟨by omega, rfl⟩ ⟨rfl, rfl, trivial⟩ Cv.p ?_
 rintro n vo zs τ ⟨hn, hz⟩
 refine WP.seq (WP.sr (RG.ml rfl (RG.p (PV.lss rfl rfl rfl) (RG.nil ?_))))
 have hzl := layTo_len hz
 refine WP.cond rfl (fun h2 => ?_) fun h2 => ?_
 ·have h2 := odt h2
  refine WP.skip (WP.seq (WP.block (WP.sr ?_)))
  refine RG.callF (vs := [_]) rfl rfl En104 rfl (l03Bits_s (xs := []) (RsN) (fun i hi => by simp at hi) (fun v15 => ?_))
  refine RG.p (PV.asg (v := v15) rfl rfl) (RG.nil (WP.seq (WP.sr (RG.mr rfl (RG.nil (WP.block ?_))))))
  refine WP.loop2 [0, 3, 4, 5] (fun (i : Nat) (cs : List Bool) => i <= ss.length ∧ cs.length = 6400 ∧ ∀ y x, y < 80 -> x < 80 -> gb cs y x = (boxesOf (ss.take i) n).any fun r => inR r y x) (fun (i : Nat) (cs : List Bool) => [(6, vi i)]) (fun (i : Nat) (cs : List Bool) => osl 4 boolT v15 cs :: osl 50 slT vo zs :: bagS 101 rectT zs :: L) (fun (i : Nat) (cs : List Bool) => ss.length - i) 0 (bits []) ⟨by omega, bits_length _, fun y x h1 h2 => by rw [gb_bits [] h1 h2]; simp [boxesOf]⟩ ⟨rfl, trivial⟩ Cv.p ?_
  rintro i cs τ1 ⟨hi, hl, hc⟩
  refine WP.seq (WP.sr (RG.ml rfl (RG.p (PV.move (v := v) rfl rfl) (RG.p (PV.len (v := v) rfl Tryz.underlying66 rfl (SlF.r h1)) (RG.p (PV.lss rfl rfl rfl) (RG.nil ?_))))))
  refine WP.cond rfl (fun h3 => ?_) fun h3 => ?_
  ·have h3 := odt h3
   have h4 : i < ss.length := by omega
   have hr := valid_bd (hv i h4)
   refine WP.skip (WP.seq (WP.block (WP.sr (RG.p (PV.move (v := v) rfl rfl) (RG.ml rfl (RG.p (PV.idxS (v := v) rfl Is66 rfl (SlF.r h1) rfl rfl (by omega)) (RG.p (PV.field rfl Fo109_1 rfl) (RG.p (PV.loadEP rfl Ag101 rfl rfl (El.r h1 (getG (by omega))) rfl) ?_))))))))
   refine RG.ot rfl (OT.alloc rfl Zr101 fun b7 => ?_)
   refine RG.ot rfl (OT.storeW (vs := [vi _, vi _, vi _, vi _]) rfl Sz101 rfl rfl (Cl.c rfl) rfl rfl (OneC.c rfl) ?_)
   refine RG.nil (WP.sr (RG.p (PV.field rfl Fo101_1 rfl) (RG.p (PV.load1 rfl Sc2 rfl (Rd.blk rfl)) (RG.mr rfl (RG.nil (WP.block ?_))))))
   refine WP.loop2 [0, 3, 4, 5, 6, 7] (fun (y : Int) (ds : List Bool) => (gd ss i).box.y0 <= y ∧ y <= (gd ss i).box.y1 ∧ (¬ (gd ss i).layer = (n : Int) -> y = (gd ss i).box.y0) ∧ ds.length = 6400 ∧ ∀ y' x', y' < 80 -> x' < 80 -> gb ds y' x' = (gb cs y' x' || (inR (gd ss i).box y' x' && decide ((y' : Int) - 40 < y)))) (fun (y : Int) (ds : List Bool) => [(8, vi y)]) (fun (y : Int) (ds : List Bool) => osl 4 boolT v15 ds :: blk b7 101 (rectT.enc (gd ss i).box) :: osl 50 slT vo zs :: bagS 101 rectT zs :: L) (fun (y : Int) (ds : List Bool) => (40 - y).toNat) (gd ss i).box.y0 cs ⟨by omega, by omega, fun _ => rfl, hl, fun y' x' h1 h2 => by rw [Bool.eq_iff_iff]; simp [inR]; omega⟩ ⟨rfl, trivial⟩ Cv.p ?_
   rintro y ds τ2 ⟨hy0, hy1, hly, hld, hd⟩
   refine WP.seq (WP.sr (RG.p (PV.move (v := v) rfl rfl) (RG.ml rfl (RG.p (PV.idxS (v := v) rfl Is66 rfl (SlF.r h1) rfl rfl (by omega)) (RG.p (PV.field rfl Fo109_0 rfl) (RG.p (PV.loadF rfl Sc2 rfl rfl (El.r h1 (getG (by omega))) rfl) (RG.ml rfl (RG.p (PV.eql rfl rfl rfl) (RG.bl rfl ?_)))))))))
   refine RG.g rfl (fun hp => (PV.mvI (.inl rfl) rfl)) ?_
   refine RG.g rfl (fun hp => (PV.field rfl Fo101_3 rfl)) ?_
   refine RG.g rfl (fun hp => (PV.load1 rfl Sc2 (gt' hp) (Rd.blk rfl))) ?_
   refine RG.g rfl (fun hp => (PV.lss rfl (gt' hp) (gt' hp))) ?_
   refine RG.p (PV.pickA rfl rfl (fun hq => gt' (geqT hq)) rfl) (RG.nil ?_)
   refine WP.cond rfl (fun h5 => ?_) fun h5 => ?_
   ·have h5' : (gd ss i).layer = (n : Int) ∧ y < (gd ss i).box.y1 := by simpa using h5
    refine WP.skip (WP.seq (WP.block (WP.sr (RG.p (PV.field rfl Fo101_0 rfl) (RG.p (PV.load1 rfl Sc2 rfl (Rd.blk rfl)) (RG.mr rfl (RG.nil (WP.block ?_))))))))
    refine WP.loop2 [0, 3, 4, 5, 6, 7, 8] (fun (x : Int) (es : List Bool) => (gd ss i).box.x0 <= x ∧ x <= (gd ss i).box.x1 ∧ es.length = 6400 ∧ ∀ y' x', y' < 80 -> x' < 80 -> gb es y' x' = (gb ds y' x' || (decide ((y' : Int) - 40 = y) && decide ((gd ss i).box.x0 <= (x' : Int) - 40) && decide ((x' : Int) - 40 < x)))) (fun (x : Int) (es : List Bool) => [(9, vi x)]) (fun (x : Int) (es : List Bool) => osl 4 boolT v15 es :: blk b7 101 (rectT.enc (gd ss i).box) :: osl 50 slT vo zs :: bagS 101 rectT zs :: L) (fun (x : Int) (es : List Bool) => (40 - x).toNat) (gd ss i).box.x0 ds ⟨by omega, by omega, hld, fun y' x' h1 h2 => by rw [Bool.eq_iff_iff]; simp; omega⟩ ⟨rfl, trivial⟩ Cv.p ?_
    rintro x es τ3 ⟨hx0, hx1, hle, hee⟩
    refine WP.seq (WP.sr (RG.ml rfl (RG.p (PV.field rfl Fo101_2 rfl) (RG.p (PV.load1 rfl Sc2 rfl (Rd.blk rfl)) (RG.p (PV.lss rfl rfl rfl) (RG.nil ?_))))))
    refine WP.cond rfl (fun h6 => ?_) fun h6 => ?_
    ·have h6 := odt h6
     refine WP.skip (WP.seq (WP.block (WP.region (RG.p (PV.move (v := v15) rfl rfl) (RG.ml rfl (RG.p (PV.add rfl rfl rfl (by omega)) (RG.p (PV.mul rfl rfl rfl (by omega)) (RG.ml rfl (RG.p (PV.add rfl rfl rfl (by omega)) (RG.p (PV.add rfl rfl rfl (by omega)) (RG.p (PV.idxS (j := ((y + 40) * 80 + x + 40).toNat) (v := v15) rfl Is148 rfl SlF.o rfl (by omega) (by omega)) ?_)))))))))))
     refine RG.ot rfl (OT.storeE (F := boolT) rfl Sz4 rfl rfl rfl (Cl.c rfl) (OneC.c rfl) (by omega) ?_)
     refine RG.nil (WP.region (RG.ml rfl (RG.p (PV.add rfl rfl rfl (by omega)) (RG.mr rfl (RG.nil ?_)))))
     refine ⟨rfl, x + 1, (es.set ((y + 40) * 80 + x + 40).toNat true), ⟨by omega, by omega, by simpa using hle, fun y' x' h7 h8 => ?_⟩, ⟨rfl, trivial⟩, ⟨rfl, rfl, rfl, rfl, rfl, rfl, rfl, trivial⟩, Cv.p, by omega⟩
     rw [show ((y + 40) * 80 + x + 40).toNat = (y + 40).toNat * 80 + (x + 40).toNat by omega, gb_set hle (by omega) (by omega) h8, hee y' x' h7 h8]
     cases gb ds y' x' <;> (rw [Bool.eq_iff_iff]; split <;> simp <;> omega)
    ·have h6 := odf h6
     refine WP.exit (WP.region (RG.ml rfl (RG.p (PV.add rfl rfl rfl (by omega)) (RG.mr rfl (RG.nil ?_)))))
     refine ⟨rfl, y + 1, es, ⟨by omega, by omega, fun h => absurd h5'.1 h, hle, fun y' x' h7 h8 => ?_⟩, ⟨rfl, trivial⟩, ⟨rfl, rfl, rfl, rfl, rfl, rfl, trivial⟩, Cv.p, by omega⟩
     rw [hee y' x' h7 h8, hd y' x' h7 h8]
     cases gb cs y' x' <;> (rw [Bool.eq_iff_iff]; simp [inR]; try omega)
   ·have h5' : (gd ss i).layer = (n : Int) -> (gd ss i).box.y1 <= y := by simpa using h5
    refine WP.exit (WP.region (RG.ml rfl (RG.p (PV.add rfl rfl rfl (by omega)) (RG.mr rfl (RG.nil ?_)))))
    refine ⟨rfl, i + 1, ds, ⟨by omega, hld, fun y' x' h7 h8 => ?_⟩, ⟨rfl, trivial⟩, ⟨rfl, rfl, rfl, rfl, trivial⟩, Cv.p, by omega⟩
    rw [hd y' x' h7 h8, hc y' x' h7 h8, any_boxes h4]
    congr 1
    by_cases e : (gd ss i).layer = (n : Int)
    ·have := h5' e
     rw [Bool.eq_iff_iff]; simp [inR, e]; omega
    ·have := hly e
     rw [Bool.eq_iff_iff]; simp [inR, e]; omega
  ·have h3 := odf h3
   have e : cs = bits (boxesOf ss n) := bits_eq hl fun y x h6 h7 => by rw [hc y x h6 h7, List.take_of_length_le (by omega)]
   subst e
   refine WP.exit (WP.region (RG.p (PV.move (v := vo) rfl rfl) (RG.p (PV.move (v := v15) rfl rfl) ?_)))
   refine RG.callF (vs := [v15]) rfl rfl En103 rfl (l03Canon_s Rs.o (bits_length _) (fun v62 => ?_))
   refine RG.ot rfl (OT.bslice (F := (slT (α := Rect))) (els := [⟨v62, canon (bits (boxesOf ss n))⟩]) rfl El35 rfl (by decide) rfl (by decide) ⟨rfl, (Cl.s (v := v62) SlF.o), trivial⟩ fun v63 => ?_)
   refine RG.ot rfl (OT.append (v := vo) (u := v63) (F := (slT (α := Rect))) rfl El35 rfl (by decide) rfl rfl Rs.o (OneL.one (a := (⟨v62, canon (bits (boxesOf ss n))⟩ : Sl Rect)) (OneC.sl SlF.o OneC.nil)) rfl (by first | omega | (simp <;> omega)) fun v64 => ?_)
   refine RG.p (PV.asg (v := v64) rfl rfl) (RG.nil (WP.region (RG.ml rfl (RG.p (PV.add rfl rfl rfl (by omega)) (RG.mr rfl (RG.nil ?_))))))
   exact ⟨rfl, n + 1, v64, (zs ++ [⟨v62, canon (bits (boxesOf ss n))⟩]), ⟨by omega, layTo_next hz⟩, ⟨rfl, rfl, trivial⟩, ⟨rfl, trivial⟩, ((Cv.p (C := osl 101 rectT v62 (canon (bits (boxesOf ss n))) :: osl 50 slT v64 (zs ++ [⟨v62, canon (bits (boxesOf ss n))⟩]) :: bagS 101 rectT zs :: L)).trans Cv.slotNew), by omega⟩
 ·have h2 := odf h2
  obtain rfl : n = 8 := by omega
  refine WP.exit (WP.sr (RG.p (PV.move (v := vo) rfl rfl) (RG.p (PV.asg (v := vo) rfl rfl) (RG.nil ?_))))
  exact WP.ret ⟨_, _, rv rfl rfl, Cv.p, k vo zs hz⟩
def flyL (cs : List ECell) (cell : Int) : List (List Rect) := bif decide (shE cs cell = 0) then layL (shR cs cell) else []
theorem Cv.nilSS {M : List Ch} {e e' : TypeId} [p : PickC L M] : Cv M (osl e slT (.slice none 0 0) ([] : List (Sl Rect)) :: bagS e' rectT [] :: L) := (Cv.pick p.pick).trans ((Cv.bag0 (xs := []) rfl).trans Cv.nilS)
theorem fly_i {l : Lib} {cell : Int} (hL : RLib G L l.cells.v l.cells.xs) (hlen : lenC (erCls l.cells.xs)) (k : ∀ v' ys, er ys = flyL (erCls l.cells.xs) cell -> R (.tuple #[v', vi (shE (erCls l.cells.xs) cell)]) G (osl 50 slT v' ys :: bagS 101 rectT ys :: L)) : CallT Tryz.prog 10 #[vT libT l, vi cell] G L R := by
 refine CallT.enter (args := _) Tryz.func10 rfl rfl (by kernel_rfl) rfl ?_
 refine WP.sr ?_
 refine RG.ot rfl (OT.box (cs := libT.enc l) rfl rfl rfl fun b2 => ?_)
 refine RG.p (PV.asg rfl rfl) (RG.mr rfl (RG.nil (WP.sr (RG.p (PV.loadW rfl Ag26 rfl rfl) (RG.ml rfl ?_)))))
 refine RG.callF (vs := [_, _]) rfl rfl En32 rfl (flat_i hL.up hlen (fun w11 => ?_))
 refine RG.p (PV.move (v := .tuple _) rfl rfl) (RG.p (PV.ext (v := w11) rfl rfl rfl) (RG.p (PV.ext rfl rfl rfl) (RG.p (PV.asg (v := w11) rfl rfl) (RG.mr rfl (RG.nil (WP.seq (WP.sr (RG.ml rfl (RG.p (PV.neq rfl rfl rfl) (RG.nil ?_))))))))))
 refine WP.cond rfl (fun h1 => ?_) fun h1 => ?_
 ·have h1 : shE (erCls l.cells.xs) cell ≠ 0 := by simpa using h1
  refine WP.sr (RG.ml rfl (RG.p (PV.asg rfl rfl) (RG.mr rfl (RG.nil ?_))))
  exact WP.ret ⟨_, _, ResV.two rfl rfl rfl, Cv.nilSS, k _ [] (by rw [flyL, decide_eq_false h1]; rfl)⟩
 ·have h1 : shE (erCls l.cells.xs) cell = 0 := by simpa using h1
  have ef : flyL (erCls l.cells.xs) cell = layL (shR (erCls l.cells.xs) cell) := by rw [flyL, decide_eq_true h1]; rfl
  rw [h1] at k
  refine WP.skip (WP.sr (RG.p (PV.move (v := w11) rfl rfl) ?_))
  refine RG.callF (vs := [w11]) rfl rfl En33 rfl (layers_i Rs.o (fun w8 ys he => ?_))
  refine RG.p (PV.asg rfl rfl) (RG.mr rfl (RG.nil ?_))
  exact WP.ret ⟨_, _, ResV.two rfl rfl rfl, Cv.p, k w8 ys (by rw [he, ef])⟩
theorem fly_r {l : Lib} {cell : Int} (hL : RLib G L l.cells.v l.cells.xs) (hlen : lenC (erCls l.cells.xs)) (k : ∀ v' ys, er ys = flyL (erCls l.cells.xs) cell -> R (.tuple #[v', vi (shE (erCls l.cells.xs) cell)]) G (osl 50 slT v' ys :: bagS 101 rectT ys :: L)) : CallT Tryz.prog 28 #[vT libT l, vi cell] G L R := by
 refine CallT.enter (args := _) Tryz.func28 rfl rfl (by kernel_rfl) rfl ?_
 refine WP.sr ?_
 refine RG.ot rfl (OT.box (cs := libT.enc l) rfl rfl rfl fun b2 => ?_)
 refine RG.p (PV.asg rfl rfl) (RG.mr rfl (RG.nil (WP.sr (RG.p (PV.loadW rfl Ag26 rfl rfl) (RG.ml rfl ?_)))))
 refine RG.callF (vs := [_, _]) rfl rfl En38 rfl (flat_r hL.up hlen (fun w11 => ?_))
 refine RG.p (PV.move (v := .tuple _) rfl rfl) (RG.p (PV.ext (v := w11) rfl rfl rfl) (RG.p (PV.ext rfl rfl rfl) (RG.p (PV.asg (v := w11) rfl rfl) (RG.mr rfl (RG.nil (WP.seq (WP.sr (RG.ml rfl (RG.p (PV.neq rfl rfl rfl) (RG.nil ?_))))))))))
 refine WP.cond rfl (fun h1 => ?_) fun h1 => ?_
 ·have h1 : shE (erCls l.cells.xs) cell ≠ 0 := by simpa using h1
  refine WP.sr (RG.ml rfl (RG.p (PV.asg rfl rfl) (RG.mr rfl (RG.nil ?_))))
  exact WP.ret ⟨_, _, ResV.two rfl rfl rfl, Cv.nilSS, k _ [] (by rw [flyL, decide_eq_false h1]; rfl)⟩
 ·have h1 : shE (erCls l.cells.xs) cell = 0 := by simpa using h1
  have ef : flyL (erCls l.cells.xs) cell = layL (shR (erCls l.cells.xs) cell) := by rw [flyL, decide_eq_true h1]; rfl
  rw [h1] at k
  refine WP.skip (WP.sr (RG.p (PV.move (v := w11) rfl rfl) ?_))
  refine RG.callF (vs := [w11]) rfl rfl En61 rfl (layers_r Rs.o (fun i hi => shR_valid hi) (fun w8 ys he => ?_))
  refine RG.p (PV.asg rfl rfl) (RG.mr rfl (RG.nil ?_))
  exact WP.ret ⟨_, _, ResV.two rfl rfl rfl, Cv.p, k w8 ys (by rw [he, ef])⟩
theorem bndR_no {cs : List ECell} {cell : Int} (h : bndE cs cell ≠ 0) : bndR cs cell = ⟨0, 0, 0, 0⟩ := by rw [bndR, decide_eq_false h]; rfl
theorem bndR_ok {cs : List ECell} {cell : Int} (h : bndE cs cell = 0) : bndR cs cell = boxL ((shR cs cell).map Shape.box) := by rw [bndR, decide_eq_true h]; rfl
theorem bnd_i {l : Lib} {cell : Int} (hL : RLib G L l.cells.v l.cells.xs) (hlen : lenC (erCls l.cells.xs)) (k : R (.tuple #[vrect (bndR (erCls l.cells.xs) cell), vi (bndE (erCls l.cells.xs) cell)]) G L) : CallT Tryz.prog 93 #[vT libT l, vi cell] G L R := by
 have hsl := shR_len (erCls l.cells.xs) cell
 refine CallT.enter (args := _) Tryz.func93 rfl rfl (by kernel_rfl) rfl ?_
 refine WP.sr ?_
 refine RG.ot rfl (OT.box (cs := libT.enc l) rfl rfl rfl fun b2 => ?_)
 refine RG.ot rfl (OT.alloc rfl Zr101 fun b4 => ?_)
 refine RG.mr rfl (RG.nil (WP.sr (RG.p (PV.loadW rfl Ag26 rfl rfl) (RG.ml rfl ?_))))
 refine RG.callF (vs := [_, _]) rfl rfl En32 rfl (flat_i hL.up hlen (fun w14 => ?_))
 refine RG.p (PV.move (v := .tuple _) rfl rfl) (RG.p (PV.ext (v := w14) rfl rfl rfl) (RG.p (PV.ext rfl rfl rfl) (RG.p (PV.asg (v := w14) rfl rfl) (RG.mr rfl (RG.nil ?_)))))
 refine WP.cut1 [4, 6] (fun (q : Int) => q = bndE (erCls l.cells.xs) cell) (fun (q : Int) => [(7, vi q)]) (fun (q : Int) => blk b4 101 [vi 0, vi 0, vi 0, vi 0] :: osl 109 shapeT w14 (shR (erCls l.cells.xs) cell) :: L) ?_ ?_
 refine WP.sr (RG.ml rfl (RG.p (PV.eql rfl rfl rfl) (RG.bl rfl ?_)))
 refine RG.g rfl (fun hp => (PV.move (v := w14) rfl rfl)) ?_
 refine RG.g rfl (fun hp => (PV.len (v := w14) rfl Tryz.underlying66 (gt' hp) SlF.o)) ?_
 refine RG.g rfl (fun hp => (PV.eql rfl (gt' hp) rfl)) ?_
 refine RG.p (PV.pickA rfl rfl (fun hq => gt' (geqT hq)) rfl) (RG.nil ?_)
 refine WP.cond rfl (fun h1 => ?_) fun h1 => ?_
 ·have h1 : shE (erCls l.cells.xs) cell = 0 ∧ (shR (erCls l.cells.xs) cell).length = 0 := by simpa using h1
  refine WP.region (RG.mr rfl (RG.nil ?_))
  exact ⟨rfl, 5, (by rw [bndE, decide_eq_true h1.1, decide_eq_true h1.2]; rfl), ⟨rfl, trivial⟩, ⟨rfl, rfl, trivial⟩, Cv.p⟩
 ·have h1 : (decide (shE (erCls l.cells.xs) cell = 0) && decide ((shR (erCls l.cells.xs) cell).length = 0)) = false := by
   rw [<- h1]; congr 1; rw [decide_eq_decide]; omega
  refine WP.skip ?_
  exact ⟨rfl, (shE (erCls l.cells.xs) cell), (by rw [bndE, h1]; rfl), ⟨rfl, trivial⟩, ⟨rfl, rfl, trivial⟩, Cv.p⟩
 rintro q τ0 hq
 subst hq
 refine WP.seq (WP.sr (RG.ml rfl (RG.p (PV.neq rfl rfl rfl) (RG.nil ?_))))
 refine WP.cond rfl (fun h2 => ?_) fun h2 => ?_
 ·have h2 : bndE (erCls l.cells.xs) cell ≠ 0 := by simpa using h2
  rw [bndR_no h2] at k
  refine WP.sr (RG.p (PV.build (vs := []) (out := [_, _, _, _]) rfl Zr101 Pl101 trivial rfl) (RG.ml rfl ?_))
  refine RG.ot rfl (OT.storeW (vs := [vi _, vi _, vi _, vi _]) rfl Sz101 rfl rfl (Cl.c rfl) rfl rfl (OneC.c rfl) ?_)
  refine RG.mr rfl (RG.nil ?_)
  exact WP.ret ⟨_, _, ResV.two rfl (RV1.cell rfl Ag101 rfl) rfl, Cv.p, k⟩
 ·have h2 : bndE (erCls l.cells.xs) cell = 0 := by simpa using h2
  have hpos := (bndE_zero h2).2
  rw [bndR_ok h2, h2] at k
  refine WP.skip (WP.sr ?_)
  refine RG.ot rfl (OT.bslice (F := rectT) (els := []) rfl El50 rfl (by decide) rfl (by decide) trivial fun v28 => ?_)
  refine RG.p (PV.asg (v := v28) rfl rfl) (RG.nil (WP.seq (WP.sr (RG.p (PV.move (v := w14) rfl rfl) (RG.p (PV.len (v := w14) rfl Tryz.underlying66 rfl SlF.o) (RG.ml rfl (RG.nil (WP.block ?_))))))))
  refine WP.cv (Cv.eqS (ys := ((shR (erCls l.cells.xs) cell).take 0).map Shape.box) rfl) ?_
  refine WP.loop2 [4, 29, 30] (fun (i : Nat) (v : Value) => i <= (shR (erCls l.cells.xs) cell).length) (fun (i : Nat) (v : Value) => [(31, vi i), (8, v)]) (fun (i : Nat) (v : Value) => osl 101 rectT v (((shR (erCls l.cells.xs) cell).take i).map Shape.box) :: osl 109 shapeT w14 (shR (erCls l.cells.xs) cell) :: blk b4 101 [vi 0, vi 0, vi 0, vi 0] :: L) (fun (i : Nat) (v : Value) => (shR (erCls l.cells.xs) cell).length - i) 0 v28 (by omega) ⟨rfl, rfl, trivial⟩ Cv.p ?_
  rintro i v τ hi
  refine WP.sr (RG.p (PV.lss rfl rfl rfl) (RG.nil (WP.seq ?_)))
  refine WP.cond rfl (fun h3 => ?_) fun h3 => ?_
  ·have h3 := odt h3
   have hll : (((shR (erCls l.cells.xs) cell).take i).map Shape.box).length <= 4800 := by rw [List.length_map, List.length_take]; omega
   refine WP.skip (WP.seq (WP.block (WP.sr (RG.p (PV.idxS (v := w14) rfl Is66 rfl SlF.o rfl rfl (by omega)) (RG.p (PV.loadE rfl Ag109 rfl rfl (El.o (getG (by omega)))) ?_)))))
   refine RG.ot rfl (OT.alloc rfl Zr109 fun b10 => ?_)
   refine RG.ot rfl (OT.storeW (vs := [vi _, vi _, vi _, vi _, vi _]) rfl Sz109 rfl rfl (Cl.c rfl) rfl rfl (OneC.c rfl) ?_)
   refine RG.nil (WP.region (RG.p (PV.move (v := v) rfl rfl) (RG.p (PV.field rfl Fo109_1 rfl) (RG.p (PV.loadB (vs := [_, _, _, _]) rfl Ag101 rfl rfl rfl) ?_))))
   refine RG.ot rfl (OT.bslice (F := rectT) (els := [_]) rfl El50 rfl (by decide) rfl (by decide) ⟨rfl, (Cl.c rfl), trivial⟩ fun v38 => ?_)
   refine RG.ot rfl (OT.append (v := v) (u := v38) (F := rectT) rfl El50 rfl (by decide) rfl rfl Rs.o (OneL.c (fun _ => rfl)) rfl (by first | omega | (simp <;> omega)) fun v39 => ?_)
   refine RG.p (PV.asg (v := v39) rfl rfl) (RG.nil (WP.region (RG.p (PV.add rfl rfl rfl (by omega)) (RG.ml rfl (RG.nil ?_)))))
   exact ⟨rfl, i + 1, v39, (by omega), ⟨rfl, rfl, trivial⟩, ⟨rfl, rfl, rfl, trivial⟩, ((Cv.p (C := osl 101 rectT v39 (((shR (erCls l.cells.xs) cell).take i).map Shape.box ++ [(gd (shR (erCls l.cells.xs) cell) i).box]) :: osl 109 shapeT w14 (shR (erCls l.cells.xs) cell) :: blk b4 101 [vi 0, vi 0, vi 0, vi 0] :: L)).trans (Cv.eqS (by rw [List.take_add_one, getG (show i < (shR (erCls l.cells.xs) cell).length by omega), List.map_append]; rfl))), by omega⟩
  ·have h3 := odf h3
   have e : (shR (erCls l.cells.xs) cell).take i = shR (erCls l.cells.xs) cell := List.take_of_length_le (by omega)
   rw [e]
   refine WP.exit (WP.sr (RG.p (PV.move (v := v) rfl rfl) ?_))
   refine RG.callF (vs := [v]) rfl rfl En147 rfl (boxOf_s Rs.o (by rw [List.length_map]; exact hpos) ?_)
   refine RG.ot rfl (OT.storeW (vs := [vi _, vi _, vi _, vi _]) rfl Sz101 rfl rfl (Cl.c rfl) rfl rfl (OneC.c rfl) ?_)
   refine RG.mr rfl (RG.nil ?_)
   exact WP.ret ⟨_, _, ResV.two rfl (RV1.cell rfl Ag101 rfl) rfl, Cv.p, k⟩
theorem l10Hull_r {p q : Rect} (k : R (vrect (joinR p q)) G L) : CallT Tryz.prog 188 #[vrect p, vrect q] G L R := by
 refine CallT.enter (args := _) Tryz.func188 rfl rfl (by kernel_rfl) rfl ?_
 refine WP.sr ?_
 refine RG.ot rfl (OT.box (cs := rectT.enc p) rfl rfl rfl fun b2 => ?_)
 refine RG.ot rfl (OT.box (cs := rectT.enc q) rfl rfl rfl fun b3 => ?_)
 refine RG.ot rfl (OT.alloc rfl Zr101 fun b4 => ?_)
 refine RG.nil (WP.sr (RG.p (PV.field rfl Fo101_0 rfl) (RG.p (PV.load1 rfl Sc2 rfl (Rd.blk rfl)) (RG.p (PV.field rfl Fo101_0 rfl) (RG.p (PV.load1 rfl Sc2 rfl (Rd.blk rfl)) (RG.p (PV.min2 rfl rfl rfl) (RG.p (PV.field rfl Fo101_1 rfl) (RG.p (PV.load1 rfl Sc2 rfl (Rd.blk rfl)) (RG.p (PV.field rfl Fo101_1 rfl) (RG.p (PV.load1 rfl Sc2 rfl (Rd.blk rfl)) (RG.p (PV.min2 rfl rfl rfl) (RG.p (PV.field rfl Fo101_2 rfl) ?_))))))))))))
 refine RG.p (PV.load1 rfl Sc2 rfl (Rd.blk rfl)) (RG.p (PV.field rfl Fo101_2 rfl) (RG.p (PV.load1 rfl Sc2 rfl (Rd.blk rfl)) (RG.p (PV.max2 rfl rfl rfl) (RG.p (PV.field rfl Fo101_3 rfl) (RG.p (PV.load1 rfl Sc2 rfl (Rd.blk rfl)) (RG.p (PV.field rfl Fo101_3 rfl) (RG.p (PV.load1 rfl Sc2 rfl (Rd.blk rfl)) (RG.p (PV.max2 rfl rfl rfl) (RG.p (PV.build (vs := [(0, [vi _]), (1, [vi _]), (2, [vi _]), (3, [vi _])]) (out := [_, _, _, _]) rfl Zr101 Pl101 ⟨rfl, (Cl.c rfl), ⟨rfl, (Cl.c rfl), ⟨rfl, (Cl.c rfl), ⟨rfl, (Cl.c rfl), trivial⟩⟩⟩⟩ rfl) ?_)))))))))
 refine RG.ot rfl (OT.storeW (vs := [vi _, vi _, vi _, vi _]) rfl Sz101 rfl rfl (Cl.c rfl) rfl rfl (OneC.c rfl) ?_)
 refine RG.nil ?_
 exact WP.ret ⟨_, _, ResV.one rfl (RV1.cell rfl Ag101 rfl), Cv.p, k⟩
theorem bnd_r {l : Lib} {cell : Int} (hL : RLib G L l.cells.v l.cells.xs) (hlen : lenC (erCls l.cells.xs)) (k : R (.tuple #[vrect (bndR (erCls l.cells.xs) cell), vi (bndE (erCls l.cells.xs) cell)]) G L) : CallT Tryz.prog 128 #[vT libT l, vi cell] G L R := by
 have hsl := shR_len (erCls l.cells.xs) cell
 refine CallT.enter (args := _) Tryz.func128 rfl rfl (by kernel_rfl) rfl ?_
 refine WP.sr ?_
 refine RG.ot rfl (OT.box (cs := libT.enc l) rfl rfl rfl fun b2 => ?_)
 refine RG.ot rfl (OT.alloc rfl Zr101 fun b4 => ?_)
 refine RG.mr rfl (RG.nil (WP.sr (RG.p (PV.loadW rfl Ag26 rfl rfl) (RG.ml rfl ?_))))
 refine RG.callF (vs := [_, _]) rfl rfl En38 rfl (flat_r hL.up hlen (fun w13 => ?_))
 refine RG.p (PV.move (v := .tuple _) rfl rfl) (RG.p (PV.ext (v := w13) rfl rfl rfl) (RG.p (PV.ext rfl rfl rfl) (RG.p (PV.asg (v := w13) rfl rfl) (RG.mr rfl (RG.nil (WP.seq (WP.sr (RG.ml rfl (RG.p (PV.neq rfl rfl rfl) (RG.nil ?_))))))))))
 refine WP.cond rfl (fun h1 => ?_) fun h1 => ?_
 ·have h1 : shE (erCls l.cells.xs) cell ≠ 0 := by simpa using h1
  have e : bndE (erCls l.cells.xs) cell = shE (erCls l.cells.xs) cell := by rw [bndE, decide_eq_false h1]; rfl
  rw [bndR_no (by rw [e]; exact h1), e] at k
  refine WP.sr (RG.p (PV.build (vs := []) (out := [_, _, _, _]) rfl Zr101 Pl101 trivial rfl) (RG.ml rfl ?_))
  refine RG.ot rfl (OT.storeW (vs := [vi _, vi _, vi _, vi _]) rfl Sz101 rfl rfl (Cl.c rfl) rfl rfl (OneC.c rfl) ?_)
  refine RG.mr rfl (RG.nil ?_)
  exact WP.ret ⟨_, _, ResV.two rfl (RV1.cell rfl Ag101 rfl) rfl, Cv.p, k⟩
 ·have h1 : shE (erCls l.cells.xs) cell = 0 := by simpa using h1
  refine WP.skip (WP.seq (WP.sr (RG.p (PV.move (v := w13) rfl rfl) (RG.p (PV.len (v := w13) rfl Tryz.underlying66 rfl SlF.o) (RG.p (PV.eql rfl rfl rfl) (RG.nil ?_))))))
  refine WP.cond rfl (fun h2 => ?_) fun h2 => ?_
  ·have h2 : (shR (erCls l.cells.xs) cell).length = 0 := by simpa using h2
   have e : bndE (erCls l.cells.xs) cell = 5 := by rw [bndE, decide_eq_true h1, decide_eq_true h2]; rfl
   rw [bndR_no (by rw [e]; decide), e] at k
   refine WP.sr (RG.p (PV.build (vs := []) (out := [_, _, _, _]) rfl Zr101 Pl101 trivial rfl) ?_)
   refine RG.ot rfl (OT.storeW (vs := [vi _, vi _, vi _, vi _]) rfl Sz101 rfl rfl (Cl.c rfl) rfl rfl (OneC.c rfl) ?_)
   refine RG.mr rfl (RG.nil ?_)
   exact WP.ret ⟨_, _, ResV.two rfl (RV1.cell rfl Ag101 rfl) rfl, Cv.p, k⟩
  ·have h2 : ¬ (shR (erCls l.cells.xs) cell).length = 0 := by simpa using h2
   have e : bndE (erCls l.cells.xs) cell = 0 := by rw [bndE, decide_eq_false h2, Bool.and_false, cond_false, h1]
   have hpos : 0 < (shR (erCls l.cells.xs) cell).length := by omega
   have hml : ((shR (erCls l.cells.xs) cell).map Shape.box).length = (shR (erCls l.cells.xs) cell).length := by simp
   have hmg : ∀ j, j < (shR (erCls l.cells.xs) cell).length -> gd ((shR (erCls l.cells.xs) cell).map Shape.box) j = (gd (shR (erCls l.cells.xs) cell) j).box := fun j hj => gd_map _ hj
   rw [bndR_ok e, e] at k
   refine WP.skip (WP.sr (RG.p (PV.move (v := w13) rfl rfl) (RG.p (PV.idxS (j := 0) (v := w13) rfl Is66 rfl SlF.o rfl (by omega) (by omega)) (RG.p (PV.field rfl Fo109_1 rfl) (RG.p (PV.loadEP rfl Ag101 rfl rfl (El.o (getG (by omega))) rfl) ?_)))))
   refine RG.ot rfl (OT.alloc rfl Zr101 fun b8 => ?_)
   refine RG.ot rfl (OT.storeW (vs := [vi _, vi _, vi _, vi _]) rfl Sz101 rfl rfl (Cl.c rfl) rfl rfl (OneC.c rfl) ?_)
   refine RG.nil (WP.seq (WP.sr (RG.mr rfl (RG.nil (WP.block ?_)))))
   refine WP.cv (Cv.p (C := blk b8 101 (rectT.enc (gd (shR (erCls l.cells.xs) cell) 0).box) :: osl 109 shapeT w13 (shR (erCls l.cells.xs) cell) :: blk b4 101 [vi 0, vi 0, vi 0, vi 0] :: L)) ?_
   refine WP.loop2 [4, 6, 8] (fun (i : Nat) (q : Rect) => (1 <= i ∧ i <= (shR (erCls l.cells.xs) cell).length) ∧ q = boxFrom (gd ((shR (erCls l.cells.xs) cell).map Shape.box) 0) (((shR (erCls l.cells.xs) cell).map Shape.box).take i)) (fun (i : Nat) (q : Rect) => [(9, vi i)]) (fun (i : Nat) (q : Rect) => blk b8 101 (rectT.enc q) :: osl 109 shapeT w13 (shR (erCls l.cells.xs) cell) :: blk b4 101 [vi 0, vi 0, vi 0, vi 0] :: L) (fun (i : Nat) (q : Rect) => (shR (erCls l.cells.xs) cell).length - i) 1 (gd (shR (erCls l.cells.xs) cell) 0).box ⟨by omega, by rw [boxFrom_one (by omega), hmg 0 hpos]⟩ ⟨rfl, trivial⟩ Cv.p ?_
   rintro i q τ ⟨hi, hq⟩
   refine WP.seq (WP.sr (RG.ml rfl (RG.p (PV.move (v := w13) rfl rfl) (RG.p (PV.len (v := w13) rfl Tryz.underlying66 rfl SlF.o) (RG.p (PV.lss rfl rfl rfl) (RG.nil ?_))))))
   refine WP.cond rfl (fun h3 => ?_) fun h3 => ?_
   ·have h3 := odt h3
    refine WP.skip (WP.seq (WP.block ?_))
    refine WP.regionHD [.b b8] (.q 1 (.q 2 (.q 3 (.q 4 (.q 5 (.l 0 (.l 6 (.l 7 Sch.nil)))))))) (by kernel_rfl) (by kernel_rfl) (by kernel_rfl) rfl ?_
    refine RH.w rfl rfl (PV.move (v := w13) rfl rfl) (RH.w rfl rfl (PV.mvI (.inl rfl) rfl) (RH.w rfl rfl (PV.idxS (v := w13) rfl Is66 rfl SlF.o rfl rfl (by omega)) (RH.w rfl rfl (PV.field rfl Fo109_1 rfl) (RH.w rfl rfl (PV.loadEP rfl Ag101 rfl rfl (El.o (getG (by omega))) rfl) ?_))))
    refine RH.ot rfl rfl (OT.pv (PV.loadW rfl Ag101 rfl rfl) (kp ?_))
    refine RH.ot rfl rfl (OT.callF (vs := [_, _]) rfl En188 rfl (l10Hull_r (kp ?_)))
    refine RH.ot rfl rfl (OT.storeW (vs := [vi _, vi _, vi _, vi _]) rfl Sz101 rfl rfl (Cl.c rfl) rfl rfl (OneC.c rfl) (kp ?_))
    refine RH.nil (WP.region (RG.ml rfl (RG.p (PV.add rfl rfl rfl (by omega)) (RG.mr rfl (RG.nil ?_)))))
    exact ⟨rfl, i + 1, _, ⟨by omega, by rw [boxFrom_take (by omega), <- hq, hmg i (by omega)]⟩, ⟨rfl, trivial⟩, ⟨rfl, rfl, rfl, trivial⟩, Cv.p, by omega⟩
   ·have h3 := odf h3
    have e2 : boxL ((shR (erCls l.cells.xs) cell).map Shape.box) = q := by rw [hq, List.take_of_length_le (by omega)]; rfl
    rw [e2] at k
    refine WP.exit (WP.sr (RG.p (PV.loadW rfl Ag101 rfl rfl) ?_))
    refine RG.ot rfl (OT.storeW (vs := [vi _, vi _, vi _, vi _]) rfl Sz101 rfl rfl (Cl.c rfl) rfl rfl (OneC.c rfl) ?_)
    refine RG.mr rfl (RG.nil ?_)
    exact WP.ret ⟨_, _, ResV.two rfl (RV1.cell rfl Ag101 rfl) rfl, Cv.p, k⟩
theorem rootOf_pos {o : EOcc} (h : 0 < o.path.length) : rootOf o = gd o.path 0 := by
 obtain ⟨c, p, q⟩ := o
 cases q with
 | nil => simp at h
 | cons a q => simp [rootOf, gd]
theorem rootOf_neg {o : EOcc} (h : ¬ 0 < o.path.length) : rootOf o = -1 := by
 obtain ⟨c, p, q⟩ := o
 cases q with
 | nil => rfl
 | cons a q => simp at h
theorem OccAt.root {xs : List Cell} {cell : Int} {zs : List Occ} {i m : Nat} (h : OccAt xs cell zs i) (hm : m < (gd xs (gd zs i).cell.toNat).shapes.xs.length) :
  (rootL (erCls xs) ((occR (erCls xs) cell).take i) ++ (rootAt (erCls xs) (gd (occR (erCls xs) cell) i)).take m).length < (flatL (erCls xs) (occR (erCls xs) cell)).length ∧ (rootAt (erCls xs) (gd (occR (erCls xs) cell) i)).take (m + 1) = (rootAt (erCls xs) (gd (occR (erCls xs) cell) i)).take m ++ [⟨rootOf (erO (gd zs i)), gd (flatL (erCls xs) (occR (erCls xs) cell)) (rootL (erCls xs) ((occR (erCls xs) cell).take i) ++ (rootAt (erCls xs) (gd (occR (erCls xs) cell) i)).take m).length⟩] := by
 have := rootAt_step (cs := erCls xs) (os := occR (erCls xs) cell) (i := i) (k := m) h.hi (by rw [h.ho]; simp only [erO, h.hs]; exact hm)
 refine ⟨this.1, ?_⟩
 rw [this.2, <- h.ho]
theorem OccAt.rlen {xs : List Cell} {cell : Int} {zs : List Occ} {i : Nat} (h : OccAt xs cell zs i) : (rootAt (erCls xs) (gd (occR (erCls xs) cell) i)).length = (gd xs (gd zs i).cell.toNat).shapes.xs.length := by
 rw [rootAt_len, h.ho]; simp only [erO, h.hs]
theorem rooted_i {l : Lib} {cell : Int} (hL : RLib G L l.cells.v l.cells.xs) (hlen : lenC (erCls l.cells.xs)) (k : ∀ v', R (.tuple #[v', vi (shE (erCls l.cells.xs) cell)]) G (osl 133 rshapeT v' (rootR (erCls l.cells.xs) cell) :: L)) : CallT Tryz.prog 42 #[vT libT l, vi cell] G L R := by
 have hE := erCls_len l.cells.xs
 refine CallT.enter (args := _) Tryz.func42 rfl rfl (by kernel_rfl) rfl ?_
 refine WP.sr ?_
 refine RG.ot rfl (OT.box (cs := libT.enc l) rfl rfl rfl fun b2 => ?_)
 refine RG.p (PV.asg rfl rfl) (RG.mr rfl (RG.nil (WP.sr (RG.p (PV.loadW rfl Ag26 rfl rfl) (RG.ml rfl ?_)))))
 refine RG.callF (vs := [_, _]) rfl rfl En32 rfl (flat_i hL.up hlen (fun w17 => ?_))
 refine RG.p (PV.move (v := .tuple _) rfl rfl) (RG.p (PV.ext (v := w17) rfl rfl rfl) (RG.p (PV.ext rfl rfl rfl) (RG.p (PV.asg (v := w17) rfl rfl) (RG.mr rfl (RG.nil (WP.seq (WP.sr (RG.ml rfl (RG.p (PV.neq rfl rfl rfl) (RG.nil ?_))))))))))
 refine WP.cond rfl (fun h1 => ?_) fun h1 => ?_
 ·have h1 : shE (erCls l.cells.xs) cell ≠ 0 := by simpa using h1
  have e2 : rootR (erCls l.cells.xs) cell = [] := by rw [rootR, decide_eq_false h1]; rfl
  rw [e2] at k
  refine WP.sr (RG.ml rfl (RG.p (PV.asg rfl rfl) (RG.mr rfl (RG.nil ?_))))
  exact WP.ret ⟨_, _, ResV.two rfl rfl rfl, Cv.p.trans Cv.nilS, k (.slice none 0 0)⟩
 ·have h1 : shE (erCls l.cells.xs) cell = 0 := by simpa using h1
  have e2 : rootR (erCls l.cells.xs) cell = rootL (erCls l.cells.xs) (occR (erCls l.cells.xs) cell) := by rw [rootR, decide_eq_true h1]; rfl
  have hsr := shR_ok h1
  have hfl := flatL_len (cs := (erCls l.cells.xs)) (cell := cell)
  rw [e2, h1] at k
  refine WP.skip (WP.sr (RG.p (PV.loadW rfl Ag26 rfl rfl) (RG.ml rfl ?_)))
  refine RG.callF (vs := [_, _]) rfl rfl En65 rfl (occ_i hL.up hlen (fun w26 zs he => ?_))
  refine RG.p (PV.move (v := .tuple _) rfl rfl) (RG.p (PV.ext (v := w26) rfl rfl rfl) (RG.p (PV.ext rfl rfl rfl) (RG.p (PV.asg (v := w26) rfl rfl) (RG.mr rfl (RG.nil (WP.sr ?_))))))
  refine RG.ot rfl (OT.bslice (F := rshapeT) (els := []) rfl El79 rfl (by decide) rfl (by decide) trivial fun v29 => ?_)
  refine RG.p (PV.asg (v := v29) rfl rfl) (RG.nil (WP.seq (WP.sr (RG.p (PV.move (v := w26) rfl rfl) (RG.p (PV.len (v := w26) rfl Tryz.underlying115 rfl SlF.o) (RG.ml rfl (RG.nil (WP.block ?_))))))))
  have hzl : zs.length = (occR (erCls l.cells.xs) cell).length := by rw [<- he, erOs_len]
  refine WP.bdo w26 fun hbz => ?_
  refine WP.cv (Cv.eqS (ys := rootL (erCls l.cells.xs) ((occR (erCls l.cells.xs) cell).take 0)) rfl) ?_
  refine WP.loop2 [2, 6, 30, 31] (fun (i : Nat) (v : Value) => i <= zs.length) (fun (i : Nat) (v : Value) => [(32, vi i), (10, v)]) (fun (i : Nat) (v : Value) => osl 133 rshapeT v (rootL (erCls l.cells.xs) ((occR (erCls l.cells.xs) cell).take i)) :: osl 119 occT w26 zs :: bagS 2 intT (pths zs) :: osl 109 shapeT w17 (shR (erCls l.cells.xs) cell) :: blk b2 26 (libT.enc l) :: L) (fun (i : Nat) (v : Value) => zs.length - i) 0 v29 (by omega) ⟨rfl, rfl, trivial⟩ Cv.p ?_
  rintro i v τ hi
  refine WP.sr (RG.p (PV.lss rfl rfl rfl) (RG.nil (WP.seq ?_)))
  refine WP.cond rfl (fun h2 => ?_) fun h2 => ?_
  ·have h2 := odt h2
   have h3 : i < zs.length := by omega
   have ha := OccAt.of (cell := cell) he h3
   have hrd : Rs G (bagS 2 intT (pths zs) :: []) intT (gd zs i).path.v (gd zs i).path.xs := RsE.path RsE.o h3
   have hac := ha.hc
   have hal := ha.hl
   have hsl := hL.sa ha.hc.2
   refine WP.skip (WP.seq (WP.block (WP.sr (RG.p (PV.idxS (v := w26) rfl Is115 rfl SlF.o rfl rfl (by omega)) (RG.p (PV.loadE rfl Ag119 rfl rfl (El.o (getG (by omega)))) ?_)))))
   refine RG.ot rfl (OT.alloc rfl Zr119 fun b12 => ?_)
   refine RG.ot rfl (OT.storeW (vs := [vi _, vi _, vi _, vi _, _]) rfl Sz119 rfl rfl (Cl.c rfl) rfl rfl (OneC.val rfl (OneC.val rfl (OneC.val rfl (OneC.val rfl (OneC.sl (SlF.r hrd) OneC.nil))))) ?_)
   refine RG.nil (WP.sr (RG.mr rfl (RG.nil ?_)))
   refine WP.cut1 [2, 6, 10, 12, 30, 31, 32] (fun (rt : Int) => rt = rootOf (erO (gd zs i))) (fun (rt : Int) => [(13, vi rt)]) (fun (rt : Int) => osl 133 rshapeT v (rootL (erCls l.cells.xs) ((occR (erCls l.cells.xs) cell).take i)) :: osl 119 occT w26 zs :: bagS 2 intT (pths zs) :: osl 109 shapeT w17 (shR (erCls l.cells.xs) cell) :: blk b2 26 (libT.enc l) :: blk b12 119 (occT.enc (gd zs i)) :: L) ?_ ?_
   refine WP.sr (RG.p (PV.field rfl Fo119_2 rfl) (RG.p (PV.load1 rfl Sc45 rfl (Rd.blk rfl)) (RG.p (PV.len rfl Tryz.underlying45 rfl (SlF.r hrd)) (RG.p (PV.gtr rfl rfl rfl) (RG.nil ?_)))))
   refine WP.cond rfl (fun h4 => ?_) fun h4 => ?_
   ·have h4 := odt h4
    refine WP.region (RG.p (PV.field rfl Fo119_2 rfl) (RG.p (PV.load1 rfl Sc45 rfl (Rd.blk rfl)) (RG.p (PV.idxS (j := 0) rfl Is45 rfl (SlF.r hrd) rfl (by omega) (by omega)) (RG.p (PV.loadE1 rfl Sc2 rfl rfl (El.r hrd (getG (by omega))) rfl) (RG.mr rfl (RG.nil ?_))))))
    exact ⟨rfl, (gd (gd zs i).path.xs 0), (rootOf_pos (o := erO (gd zs i)) (by simp only [erO]; omega)).symm, ⟨rfl, trivial⟩, ⟨rfl, rfl, rfl, rfl, rfl, rfl, rfl, trivial⟩, Cv.p⟩
   ·have h4 := odf h4
    refine WP.skip ?_
    exact ⟨rfl, (-1), (rootOf_neg (o := erO (gd zs i)) (by simp only [erO]; omega)).symm, ⟨rfl, trivial⟩, ⟨rfl, rfl, rfl, rfl, rfl, rfl, rfl, trivial⟩, Cv.p⟩
   rintro rt τ2 hrt
   refine WP.sr (RG.p (PV.field rfl Fo26_0 rfl) (RG.p (PV.load1 rfl Sc24 rfl (Rd.blk rfl)) (RG.p (PV.field rfl Fo119_0 rfl) (RG.p (PV.load1 rfl Sc2 rfl (Rd.blk rfl)) (RG.p (PV.idxS (j := (gd zs i).cell.toNat) rfl Is24 rfl (SlF.r hL.c) rfl (by omega) (by omega)) (RG.p (PV.field rfl Fo95_1 rfl) (RG.p (PV.loadF rfl Sc66 rfl rfl (El.r hL.c (getG (by omega))) rfl) (RG.p (PV.len rfl Tryz.underlying66 rfl (SlF.r hsl)) (RG.ml rfl (RG.nil (WP.block ?_)))))))))))
   subst hrt
   refine WP.cv (Cv.eqS (ys := rootL (erCls l.cells.xs) ((occR (erCls l.cells.xs) cell).take i) ++ (rootAt (erCls l.cells.xs) (gd (occR (erCls l.cells.xs) cell) i)).take 0) (by simp)) ?_
   refine WP.loop2 [2, 6, 13, 30, 31, 32, 51] (fun (m : Nat) (v : Value) => m <= (gd l.cells.xs (gd zs i).cell.toNat).shapes.xs.length) (fun (m : Nat) (v : Value) => [(52, vi m), (10, v)]) (fun (m : Nat) (v : Value) => osl 133 rshapeT v (rootL (erCls l.cells.xs) ((occR (erCls l.cells.xs) cell).take i) ++ (rootAt (erCls l.cells.xs) (gd (occR (erCls l.cells.xs) cell) i)).take m) :: osl 119 occT w26 zs :: bagS 2 intT (pths zs) :: osl 109 shapeT w17 (shR (erCls l.cells.xs) cell) :: blk b2 26 (libT.enc l) :: blk b12 119 (occT.enc (gd zs i)) :: L) (fun (m : Nat) (v : Value) => (gd l.cells.xs (gd zs i).cell.toNat).shapes.xs.length - m) 0 v (by omega) ⟨rfl, rfl, trivial⟩ Cv.p ?_
   rintro m v τ hm
   refine WP.sr (RG.p (PV.lss rfl rfl rfl) (RG.nil (WP.seq ?_)))
   refine WP.cond rfl (fun h5 => ?_) fun h5 => ?_
   ·have h5 := odt h5
    obtain ⟨q1, q2⟩ := ha.root (m := m) (by omega)
    rw [<- hsr] at q1 q2
    have hx := q1
    have hs2 := shR_len (erCls l.cells.xs) cell
    rw [List.length_append, List.length_take] at hx
    refine WP.skip (WP.seq (WP.block (WP.region (RG.p (PV.move (v := v) rfl rfl) (RG.ml rfl (RG.p (PV.move (v := w17) rfl rfl) (RG.p (PV.move (v := v) rfl rfl) (RG.p (PV.len (v := v) rfl Tryz.underlying79 rfl SlF.o) (RG.p (PV.idxS (v := w17) rfl Is66 rfl SlF.o rfl rfl (by omega)) (RG.p (PV.loadE rfl Ag109 rfl rfl (El.o (getG (by omega)))) (RG.p (PV.build (vs := [(0, [vi _]), (1, [vi _, vi _, vi _, vi _, vi _])]) (out := [_, _, _, _, _, _]) rfl Zr133 Pl133 ⟨rfl, (Cl.c rfl), ⟨rfl, (Cl.c rfl), trivial⟩⟩ rfl) ?_)))))))))))
    refine RG.ot rfl (OT.bslice (F := rshapeT) (els := [⟨rootOf (erO (gd zs i)), gd (shR (erCls l.cells.xs) cell) (rootL (erCls l.cells.xs) ((occR (erCls l.cells.xs) cell).take i) ++ (rootAt (erCls l.cells.xs) (gd (occR (erCls l.cells.xs) cell) i)).take m).length⟩]) rfl El79 rfl (by decide) rfl (by decide) ⟨rfl, (Cl.c rfl), trivial⟩ fun v62 => ?_)
    refine RG.ot rfl (OT.append (v := v) (u := v62) (F := rshapeT) rfl El79 rfl (by decide) rfl rfl Rs.o (OneL.c (fun _ => rfl)) rfl (by first | omega | (simp <;> omega)) fun v63 => ?_)
    refine RG.p (PV.asg (v := v63) rfl rfl) (RG.nil (WP.region (RG.p (PV.add rfl rfl rfl (by omega)) (RG.ml rfl (RG.nil ?_)))))
    exact ⟨rfl, m + 1, v63, (by omega), ⟨rfl, rfl, trivial⟩, ⟨rfl, rfl, rfl, rfl, rfl, rfl, rfl, trivial⟩, ((Cv.p (C := osl 133 rshapeT v63 (rootL (erCls l.cells.xs) ((occR (erCls l.cells.xs) cell).take i) ++ (rootAt (erCls l.cells.xs) (gd (occR (erCls l.cells.xs) cell) i)).take m ++ [⟨rootOf (erO (gd zs i)), gd (shR (erCls l.cells.xs) cell) (rootL (erCls l.cells.xs) ((occR (erCls l.cells.xs) cell).take i) ++ (rootAt (erCls l.cells.xs) (gd (occR (erCls l.cells.xs) cell) i)).take m).length⟩]) :: osl 119 occT w26 zs :: bagS 2 intT (pths zs) :: osl 109 shapeT w17 (shR (erCls l.cells.xs) cell) :: blk b2 26 (libT.enc l) :: blk b12 119 (occT.enc (gd zs i)) :: L)).trans (Cv.eqS (by rw [List.append_assoc, <- q2]))), by omega⟩
   ·have h5 := odf h5
    have e : rootL (erCls l.cells.xs) ((occR (erCls l.cells.xs) cell).take i) ++ (rootAt (erCls l.cells.xs) (gd (occR (erCls l.cells.xs) cell) i)).take m = rootL (erCls l.cells.xs) ((occR (erCls l.cells.xs) cell).take (i + 1)) := by rw [List.take_of_length_le (i := m) (l := rootAt (erCls l.cells.xs) (gd (occR (erCls l.cells.xs) cell) i)) (by rw [ha.rlen]; omega), rootL_take ha.hi]
    refine WP.exit (WP.region (RG.p (PV.add rfl rfl rfl (by omega)) (RG.ml rfl (RG.nil ?_))))
    exact ⟨rfl, i + 1, v, (by omega), ⟨rfl, rfl, trivial⟩, ⟨rfl, rfl, rfl, rfl, trivial⟩, ((Cv.eqS e).trans Cv.p), by omega⟩
  ·have h2 := odf h2
   have e : rootL (erCls l.cells.xs) ((occR (erCls l.cells.xs) cell).take i) = rootL (erCls l.cells.xs) (occR (erCls l.cells.xs) cell) := by rw [List.take_of_length_le (by omega)]
   rw [e]
   refine WP.exit (WP.sr (RG.p (PV.move (v := v) rfl rfl) (RG.p (PV.asg (v := v) rfl rfl) (RG.mr rfl (RG.nil ?_)))))
   exact WP.ret ⟨_, _, ResV.two rfl rfl rfl, Cv.p, k v⟩
theorem elN_ns {xs : List Cell} {cell : Int} (hc : cell.toNat < xs.length) : elN (erCls xs) cell = (elems (gd xs cell.toNat).insts.xs).length := by rw [elN, erCl_insts hc]
def pickR (rs : List RShape) (f : Int -> Bool) : List Shape := (rs.filter fun x => f x.root).map RShape.shape
set_option maxHeartbeats 2000000
theorem l21Has_s {v : Value} {ls : List Int} {n : Int} (h1 : Rs G L intT v ls) (k : R (.bool (ls.any fun a => decide (a = n))) G L) : CallT Tryz.prog 190 #[v, vi n] G L R := by
 refine CallT.bd h1 fun hb => ?_
 refine CallT.enter (args := _) Tryz.func190 rfl rfl (by kernel_rfl) rfl ?_
 refine WP.sr (RG.br rfl (RG.nil (WP.seq (WP.sr (RG.mr rfl (RG.nil (WP.block ?_)))))))
 refine WP.loop1 [0, 1] (fun i => i <= ls.length ∧ ∀ j, j < i -> decide (gd ls j = n) = false) (fun i => [(5, vi i)]) (fun i => L) (fun i => ls.length - i) 0 ⟨by omega, fun j h => by omega⟩ ⟨rfl, trivial⟩ Cv.p ?_
 rintro i τ ⟨hi, hj⟩
 refine WP.seq (WP.sr (RG.ml rfl (RG.p (PV.move (v := v) rfl rfl) (RG.p (PV.len (v := v) rfl Tryz.underlying45 rfl (SlF.r h1)) (RG.p (PV.lss rfl rfl rfl) (RG.nil ?_))))))
 refine WP.cond rfl (fun h2 => ?_) fun h2 => ?_
 ·have h2 := odt h2
  refine WP.skip (WP.seq (WP.block (WP.sr (RG.p (PV.move (v := v) rfl rfl) (RG.ml rfl (RG.p (PV.idxS (v := v) rfl Is45 rfl (SlF.r h1) rfl rfl (by omega)) (RG.p (PV.loadE1 rfl Sc2 rfl rfl (El.r h1 (getG (by omega))) rfl) (RG.ml rfl (RG.p (PV.eql rfl rfl rfl) (RG.nil ?_))))))))))
  refine WP.cond rfl (fun h3 => ?_) fun h3 => ?_
  ·have e : (ls.any fun a => decide (a = n)) = true := List.any_eq_true.2 ⟨gd ls i, gd_mem (by omega), h3⟩
   rw [e] at k
   refine WP.sr (RG.br rfl (RG.nil ?_))
   exact WP.ret ⟨_, _, rv rfl rfl, Cv.p, k⟩
  ·have hj' : ∀ j, j < i + 1 -> decide (gd ls j = n) = false := fun j h => by
    by_cases c : j = i
    ·rw [c]; exact h3
    ·exact hj j (by omega)
   refine WP.skip (WP.region (RG.ml rfl (RG.p (PV.add rfl rfl rfl (by omega)) (RG.mr rfl (RG.nil ?_)))))
   exact ⟨rfl, i + 1, ⟨by omega, hj'⟩, ⟨rfl, trivial⟩, ⟨rfl, rfl, trivial⟩, Cv.p, by omega⟩
 ·have h2 := odf h2
  have e : (ls.any fun a => decide (a = n)) = false := by
   rw [List.any_eq_false]
   intro a ha
   obtain ⟨j, hj2, rfl⟩ := List.getElem_of_mem ha
   have := hj j (by omega)
   rw [gd_eq hj2] at this
   simpa using this
  rw [e] at k
  refine WP.exit (WP.sr (RG.br rfl (RG.nil ?_)))
  exact WP.ret ⟨_, _, rv rfl rfl, Cv.p, k⟩
def selS (ls : List Int) (o : EOcc) : Bool := decide (0 < (o.path.length : Int)) && ls.any fun a => decide (a = gd o.path 0)
def selL (cs : List ECell) (os : List EOcc) (ls : List Int) (b : Bool) : List Shape := os.flatMap fun o => if (selS ls o == b) = true then flatOf cs o else []
theorem selL_take {cs : List ECell} {os : List EOcc} {ls : List Int} {b : Bool} {i : Nat} (h : i < os.length) : selL cs (os.take (i + 1)) ls b = selL cs (os.take i) ls b ++ (if (selS ls (gd os i) == b) = true then flatOf cs (gd os i) else []) := by
 rw [selL, selL, List.take_add_one, getG h, List.flatMap_append]; simp
theorem selL_len (cs : List ECell) (ls : List Int) (b : Bool) (os : List EOcc) : (selL cs os ls b).length <= (flatL cs os).length := by
 induction os with
 | nil => simp [selL, flatL]
 | cons o os ih =>
  have e1 : selL cs (o :: os) ls b = (if (selS ls o == b) = true then flatOf cs o else []) ++ selL cs os ls b := rfl
  have e2 : flatL cs (o :: os) = flatOf cs o ++ flatL cs os := rfl
  rw [e1, e2, List.length_append, List.length_append]
  split
  ·omega
  ·simp only [List.length_nil]; omega
theorem selL_mem {cs : List ECell} {os : List EOcc} {ls : List Int} {b : Bool} {s : Shape} (h : s ∈ selL cs os ls b) : s ∈ flatL cs os := by
 obtain ⟨o, ho, hs⟩ := List.mem_flatMap.1 h
 split at hs
 ·exact List.mem_flatMap.2 ⟨o, ho, hs⟩
 ·cases hs
theorem l21Shapes_s {l : Lib} {cell : Int} {v : Value} {ls : List Int} {b : Bool} (hL : RLib G L l.cells.v l.cells.xs) (hlen : lenC (erCls l.cells.xs)) (h2 : Rs G L intT v ls) (k : ∀ v', R v' G (osl 109 shapeT v' (selL (erCls l.cells.xs) (occR (erCls l.cells.xs) cell) ls b) :: L)) : CallT Tryz.prog 132 #[vT libT l, vi cell, v, .bool b] G L R := by
 have hE := erCls_len l.cells.xs
 have hfl := flatL_len (cs := (erCls l.cells.xs)) (cell := cell)
 refine CallT.enter (args := _) Tryz.func132 rfl rfl (by kernel_rfl) rfl ?_
 refine WP.sr ?_
 refine RG.ot rfl (OT.box (cs := libT.enc l) rfl rfl rfl fun b4 => ?_)
 refine RG.p (PV.asg rfl rfl) (RG.nil (WP.sr ?_))
 refine RG.ot rfl (OT.bslice (F := shapeT) (els := []) rfl El66 rfl (by decide) rfl (by decide) trivial fun v16 => ?_)
 refine RG.p (PV.asg (v := v16) rfl rfl) (RG.nil (WP.sr (RG.p (PV.loadW rfl Ag26 rfl rfl) (RG.ml rfl ?_))))
 refine RG.callF (vs := [_, _]) rfl rfl En76 rfl (occ_r hL.up hlen (fun w20 zs he => ?_))
 refine RG.p (PV.move (v := .tuple _) rfl rfl) (RG.p (PV.ext (v := w20) rfl rfl rfl) (RG.p (PV.ext rfl rfl rfl) (RG.p (PV.asg (v := w20) rfl rfl) (RG.mr rfl (RG.nil (WP.seq (WP.sr (RG.mr rfl (RG.nil (WP.block ?_))))))))))
 have hzl : zs.length = (occR (erCls l.cells.xs) cell).length := by rw [<- he, erOs_len]
 refine WP.bdo w20 fun hbz => ?_
 refine WP.cv ((Cv.p (C := osl 109 shapeT v16 [] :: osl 119 occT w20 zs :: bagS 2 intT (pths zs) :: blk b4 26 (libT.enc l) :: L)).trans (Cv.eqS (ys := selL (erCls l.cells.xs) ((occR (erCls l.cells.xs) cell).take 0) ls b) rfl)) ?_
 refine WP.loop2 [2, 3, 4, 10] (fun (i : Nat) (v2 : Value) => i <= zs.length) (fun (i : Nat) (v2 : Value) => [(12, vi i), (9, v2)]) (fun (i : Nat) (v2 : Value) => osl 109 shapeT v2 (selL (erCls l.cells.xs) ((occR (erCls l.cells.xs) cell).take i) ls b) :: osl 119 occT w20 zs :: bagS 2 intT (pths zs) :: blk b4 26 (libT.enc l) :: L) (fun (i : Nat) (v2 : Value) => zs.length - i) 0 v16 (by omega) ⟨rfl, rfl, trivial⟩ Cv.p ?_
 rintro i v2 τ hi
 refine WP.seq (WP.sr (RG.ml rfl (RG.p (PV.move (v := w20) rfl rfl) (RG.p (PV.len (v := w20) rfl Tryz.underlying115 rfl SlF.o) (RG.p (PV.lss rfl rfl rfl) (RG.nil ?_))))))
 have hsl2 := selL_len (erCls l.cells.xs) ls b ((occR (erCls l.cells.xs) cell).take i)
 have hfb := flatL_bd (cs := (erCls l.cells.xs)) (cell := cell) i (by omega)
 refine WP.cond rfl (fun h3 => ?_) fun h3 => ?_
 ·have h3 := odt h3
  have h4 : i < zs.length := by omega
  have ha := OccAt.of (cell := cell) he h4
  have hrd : Rs G (bagS 2 intT (pths zs) :: []) intT (gd zs i).path.v (gd zs i).path.xs := RsE.path RsE.o h4
  have hac := ha.hc
  have hal := ha.hl
  have hsl := hL.sa ha.hc.2
  have hselE : selS ls (gd (occR (erCls l.cells.xs) cell) i) = (decide (0 < ((gd zs i).path.xs.length : Int)) && ls.any fun a => decide (a = gd (gd zs i).path.xs 0)) := by rw [ha.ho]; rfl
  refine WP.skip (WP.seq (WP.block (WP.sr (RG.p (PV.move (v := w20) rfl rfl) (RG.ml rfl (RG.p (PV.idxS (v := w20) rfl Is115 rfl SlF.o rfl rfl (by omega)) (RG.p (PV.field rfl Fo119_2 rfl) (RG.p (PV.loadF rfl Sc45 rfl rfl (El.o (getG (by omega))) rfl) (RG.p (PV.len rfl Tryz.underlying45 rfl (SlF.r hrd)) (RG.p (PV.gtr rfl rfl rfl) (RG.bl rfl ?_)))))))))))
  refine RG.g rfl (fun hp => (PV.move (v := v) rfl rfl)) ?_
  refine RG.g rfl (fun hp => (PV.move (v := w20) rfl rfl)) ?_
  refine RG.g rfl (fun hp => (PV.mvI (.inl rfl) rfl)) ?_
  refine RG.g rfl (fun hp => (PV.idxS (v := w20) rfl Is115 (gt' hp) SlF.o (gt' hp) rfl (by first | omega | (simp at hp; omega)))) ?_
  refine RG.g rfl (fun hp => (PV.field rfl Fo119_2 (gt' hp))) ?_
  refine RG.g rfl (fun hp => (PV.loadF rfl Sc45 (gt' hp) rfl (El.o (getG (by first | omega | (simp at hp; omega)))) rfl)) ?_
  refine RG.g rfl (fun hp => (PV.idxS (j := 0) rfl Is45 (gt' hp) (SlF.r hrd) rfl (by first | omega | (simp at hp; omega)) (by first | omega | (simp at hp; omega)))) ?_
  refine RG.g rfl (fun hp => (PV.loadE1 rfl Sc2 (gt' hp) rfl (El.r hrd (getG (by first | omega | (simp at hp; omega)))) rfl)) ?_
  refine RG.gsC rfl rfl rfl rfl En190 (fun hp => ⟨_, (acons (gt' hp) (acons (gt' hp) anil)), l21Has_s (Rs.up h2) ⟨rfl, rfl, rfl⟩⟩) ?_
  refine RG.p (PV.pickA rfl rfl (fun hq => gt' (geqT hq)) rfl) (RG.br rfl (RG.nil (WP.seq ?_)))
  refine WP.regionH0 (.q 0 (.q 1 (.q 2 (.q 3 (.q 4 (.q 5 (.q 6 (.q 7 (.q 8 (.l 9 (.l 10 Sch.nil))))))))))) (by kernel_rfl) (by kernel_rfl) (by kernel_rfl) rfl ?_
  refine RH.w rfl rfl (PV.field rfl Fo26_0 rfl) (RH.w rfl rfl (PV.load1 rfl Sc24 rfl (Rd.blk rfl)) (RH.w rfl rfl (PV.move (v := w20) rfl rfl) (RH.w rfl rfl (PV.mvI (.inl rfl) rfl) (RH.w rfl rfl (PV.idxS (v := w20) rfl Is115 rfl SlF.o rfl rfl (by omega)) (RH.w rfl rfl (PV.field rfl Fo119_0 rfl) (RH.w rfl rfl (PV.loadF rfl Sc2 rfl rfl (El.o (getG (by omega))) rfl) (RH.w rfl rfl (PV.idxS (j := (gd zs i).cell.toNat) rfl Is24 rfl (SlF.r hL.c) rfl (by omega) (by omega)) (RH.w rfl rfl (PV.loadE rfl Ag95 rfl rfl (El.r hL.c (getG (by omega)))) ?_))))))))
  refine RH.ot rfl rfl (OT.alloc rfl Zr95 fun b14 => (kp ?_))
  refine RH.ot rfl rfl (OT.storeW (vs := [.string _, _, _, _]) rfl Sz95 rfl rfl (Cl.c rfl) rfl rfl (hL.one ha.hc.2) (kp ?_))
  refine RH.nil (WP.sr (RG.mr rfl (RG.nil (WP.block ?_))))
  rw [<- hselE]
  refine WP.cv ((Cv.p (C := osl 109 shapeT v2 (selL (erCls l.cells.xs) ((occR (erCls l.cells.xs) cell).take i) ls b) :: osl 119 occT w20 zs :: bagS 2 intT (pths zs) :: blk b4 26 (libT.enc l) :: blk b14 95 (cellT.enc (gd l.cells.xs (gd zs i).cell.toNat)) :: L)).trans (Cv.eqS (ys := selL (erCls l.cells.xs) ((occR (erCls l.cells.xs) cell).take i) ls b ++ (flatOf (erCls l.cells.xs) (gd (occR (erCls l.cells.xs) cell) i)).take 0) (by simp))) ?_
  refine WP.loop2 [2, 3, 4, 10, 12, 13, 14] (fun (m : Nat) (v3 : Value) => m <= (gd l.cells.xs (gd zs i).cell.toNat).shapes.xs.length ∧ ((selS ls (gd (occR (erCls l.cells.xs) cell) i) == b) = false -> m = 0)) (fun (m : Nat) (v3 : Value) => [(15, vi m), (9, v3)]) (fun (m : Nat) (v3 : Value) => osl 109 shapeT v3 (selL (erCls l.cells.xs) ((occR (erCls l.cells.xs) cell).take i) ls b ++ (flatOf (erCls l.cells.xs) (gd (occR (erCls l.cells.xs) cell) i)).take m) :: osl 119 occT w20 zs :: bagS 2 intT (pths zs) :: blk b4 26 (libT.enc l) :: blk b14 95 (cellT.enc (gd l.cells.xs (gd zs i).cell.toNat)) :: L) (fun (m : Nat) (v3 : Value) => (gd l.cells.xs (gd zs i).cell.toNat).shapes.xs.length - m) 0 v2 ⟨by omega, fun _ => rfl⟩ ⟨rfl, rfl, trivial⟩ Cv.p ?_
  rintro m v3 τ ⟨hm, hq⟩
  refine WP.seq (WP.sr (RG.ml rfl (RG.p (PV.field rfl Fo95_1 rfl) (RG.p (PV.load1 rfl Sc66 rfl (Rd.blk rfl)) (RG.p (PV.len rfl Tryz.underlying66 rfl (SlF.r hsl)) (RG.p (PV.lss rfl rfl rfl) (RG.bl rfl ?_)))))))
  refine RG.g rfl (fun hp => (PV.mvB (.inl rfl) rfl)) ?_
  refine RG.g rfl (fun hp => (PV.mvB (.inl rfl) rfl)) ?_
  refine RG.g rfl (fun hp => (PV.eqlB rfl Tryz.underlying4 (gt' hp) (gt' hp))) ?_
  refine RG.p (PV.pickA rfl rfl (fun hq => gt' (geqT hq)) rfl) (RG.nil ?_)
  refine WP.cond rfl (fun h5 => ?_) fun h5 => ?_
  ·have h5' : m < (gd l.cells.xs (gd zs i).cell.toNat).shapes.xs.length ∧ (selS ls (gd (occR (erCls l.cells.xs) cell) i) == b) = true := by
    have := h5; simp only [Bool.and_eq_true, decide_eq_true_eq] at this; exact ⟨by omega, by simpa using this.2⟩
   have hst := ha.step (m := m) h5'.1
   have hll : (selL (erCls l.cells.xs) ((occR (erCls l.cells.xs) cell).take i) ls b ++ (flatOf (erCls l.cells.xs) (gd (occR (erCls l.cells.xs) cell) i)).take m).length <= 6000 := by rw [List.length_append, List.length_take]; omega
   refine WP.skip (WP.seq (WP.block ?_))
   refine WP.regionHD [.s v3] (.q 0 (.q 1 (.q 2 (.q 3 (.q 4 (.q 5 (.q 6 (.q 7 (.q 8 (.q 9 (.q 10 (.q 11 (.q 12 (.q 13 (.q 14 (.q 15 (.q 16 (.q 17 (.l 18 (.q 19 (.l 20 (.l 21 (.q 22 Sch.nil))))))))))))))))))))))) (by kernel_rfl) (by kernel_rfl) (by kernel_rfl) rfl ?_
   refine RH.w rfl rfl (PV.move (v := v3) rfl rfl) (RH.w rfl rfl (PV.field rfl Fo95_1 rfl) (RH.w rfl rfl (PV.load1 rfl Sc66 rfl (Rd.blk rfl)) (RH.w rfl rfl (PV.mvI (.inl rfl) rfl) (RH.w rfl rfl (PV.idxS rfl Is66 rfl (SlF.r hsl) rfl rfl (by omega)) (RH.w rfl rfl (PV.field rfl Fo109_0 rfl) (RH.w rfl rfl (PV.loadF rfl Sc2 rfl rfl (El.r hsl (getG (by omega))) rfl) (RH.w rfl rfl (PV.move (v := w20) rfl rfl) (RH.w rfl rfl (PV.mvI (.inl rfl) rfl) (RH.w rfl rfl (PV.idxS (v := w20) rfl Is115 rfl SlF.o rfl rfl (by omega)) (RH.w rfl rfl (PV.field rfl Fo119_1 rfl) (RH.w rfl rfl (PV.loadEP rfl Ag87 rfl rfl (El.o (getG (by omega))) rfl) (RH.w rfl rfl (PV.field rfl Fo95_1 rfl) (RH.w rfl rfl (PV.load1 rfl Sc66 rfl (Rd.blk rfl)) ?_)))))))))))))
   refine RH.w rfl rfl (PV.mvI (.inl rfl) rfl) (RH.w rfl rfl (PV.idxS rfl Is66 rfl (SlF.r hsl) rfl rfl (by omega)) (RH.w rfl rfl (PV.field rfl Fo109_1 rfl) (RH.w rfl rfl (PV.loadEP rfl Ag101 rfl rfl (El.r hsl (getG (by omega))) rfl) ?_)))
   refine RH.ot rfl rfl (OT.callF (vs := [_, _]) rfl En129 rfl (moveRect_r ha.hp.1 ha.hp.2 (ha.hb m (by omega)) (kp ?_)))
   refine RH.w rfl rfl (PV.build (vs := [(0, [vi _]), (1, [vi _, vi _, vi _, vi _])]) (out := [_, _, _, _, _]) rfl Zr109 Pl109 ⟨rfl, (Cl.c rfl), ⟨rfl, (Cl.c rfl), trivial⟩⟩ rfl) ?_
   refine RH.ot rfl rfl (OT.bslice (F := shapeT) (els := [⟨(gd (gd l.cells.xs (gd zs i).cell.toNat).shapes.xs m).layer, moveR (gd zs i).place (gd (gd l.cells.xs (gd zs i).cell.toNat).shapes.xs m).box⟩]) rfl El66 rfl (by decide) rfl (by decide) ⟨rfl, (Cl.c rfl), trivial⟩ fun v88 => (kp ?_))
   refine RH.ot rfl rfl (OT.append (v := v3) (u := v88) (F := shapeT) rfl El66 rfl (by decide) rfl rfl Rs.o (OneL.c (fun _ => rfl)) rfl (by first | omega | (simp <;> omega)) fun v89 => (kp ?_))
   refine RH.w rfl rfl (PV.asg (v := v89) rfl rfl) (RH.nil (WP.region (RG.ml rfl (RG.p (PV.add rfl rfl rfl (by omega)) (RG.mr rfl (RG.nil ?_))))))
   exact ⟨rfl, m + 1, v89, ⟨by omega, fun h => by rw [h5'.2] at h; cases h⟩, ⟨rfl, rfl, trivial⟩, ⟨rfl, rfl, rfl, rfl, rfl, rfl, rfl, trivial⟩, ((Cv.p (C := osl 109 shapeT v89 (selL (erCls l.cells.xs) ((occR (erCls l.cells.xs) cell).take i) ls b ++ (flatOf (erCls l.cells.xs) (gd (occR (erCls l.cells.xs) cell) i)).take m ++ [⟨(gd (gd l.cells.xs (gd zs i).cell.toNat).shapes.xs m).layer, moveR (gd zs i).place (gd (gd l.cells.xs (gd zs i).cell.toNat).shapes.xs m).box⟩]) :: osl 119 occT w20 zs :: bagS 2 intT (pths zs) :: blk b4 26 (libT.enc l) :: blk b14 95 (cellT.enc (gd l.cells.xs (gd zs i).cell.toNat)) :: L)).trans (Cv.eqS (by rw [List.append_assoc, <- hst]))), by omega⟩
  ·have e : selL (erCls l.cells.xs) ((occR (erCls l.cells.xs) cell).take i) ls b ++ (flatOf (erCls l.cells.xs) (gd (occR (erCls l.cells.xs) cell) i)).take m = selL (erCls l.cells.xs) ((occR (erCls l.cells.xs) cell).take (i + 1)) ls b := by
    rw [selL_take ha.hi]
    congr 1
    by_cases c : (selS ls (gd (occR (erCls l.cells.xs) cell) i) == b) = true
    ·have hm2 : ¬ m < (gd l.cells.xs (gd zs i).cell.toNat).shapes.xs.length := fun hlt => by
      rw [c, Bool.and_true] at h5
      have := odf h5
      omega
     rw [if_pos c, List.take_of_length_le (by rw [ha.len]; omega)]
    ·rw [if_neg c, hq (by simpa using c)]; rfl
   refine WP.exit (WP.region (RG.ml rfl (RG.p (PV.add rfl rfl rfl (by omega)) (RG.mr rfl (RG.nil ?_)))))
   exact ⟨rfl, i + 1, v3, (by omega), ⟨rfl, rfl, trivial⟩, ⟨rfl, rfl, rfl, rfl, trivial⟩, ((Cv.eqS e).trans Cv.p), by omega⟩
 ·have h3 := odf h3
  have e : selL (erCls l.cells.xs) ((occR (erCls l.cells.xs) cell).take i) ls b = selL (erCls l.cells.xs) (occR (erCls l.cells.xs) cell) ls b := by rw [List.take_of_length_le (by omega)]
  rw [e]
  refine WP.exit (WP.sr (RG.p (PV.move (v := v2) rfl rfl) (RG.p (PV.asg (v := v2) rfl rfl) (RG.nil ?_))))
  exact WP.ret ⟨_, _, rv rfl rfl, Cv.p, k v2⟩
set_option maxHeartbeats 1000000
theorem PV.max5 {P : Program} {σ : Nat -> Value} {o : Oper} {k : IntKind} {x1 x2 x3 x4 x5 : Operand} {T1 T2 T3 T4 T5 : TypeId} {a1 a2 a3 a4 a5 : Int} (ho : o.op = .call { callee := .builtin .max, args := #[x1, x2, x3, x4, x5], argTypes := #[T1, T2, T3, T4, T5] }) (h1 : ev σ x1 = .int k a1) (h2 : ev σ x2 = .int k a2) (h3 : ev σ x3 = .int k a3) (h4 : ev σ x4 = .int k a4) (h5 : ev σ x5 = .int k a5) : PV P o σ G L (.int k (max (max (max (max a1 a2) a3) a4) a5)) := by
 intro w _
 have e : ∀ a b : Int, (if a < b then b else a) = max a b := fun a b => by simp only [Int.max_def]; split <;> split <;> omega
 simp [execOp, ho, h1, h2, h3, h4, h5, resolve, invoke, builtin, Builtin.max_, Builtin.max2, e]
theorem elems_cnt {ns : List Inst} (h : okNs ns) {i : Nat} (hi : i < ns.length) : ((elems (ns.take (i + 1))).length : Int) = (elems (ns.take i)).length + (gd ns i).cols * (gd ns i).rows ∧ 0 <= (gd ns i).cols * (gd ns i).rows ∧ (gd ns i).cols * (gd ns i).rows <= 16 := by
 obtain ⟨_, kk, h2⟩ := h
 obtain ⟨_, _, h3, h4, _, _⟩ := okIn_bd (h2 i hi)
 have e1 := mul_bd (a := (gd ns i).cols) (b := (gd ns i).rows) (A := 4) (B := 4) (by omega) (by omega) (by omega)
 have e0 : 0 <= (gd ns i).cols * (gd ns i).rows := Int.mul_nonneg (by omega) (by omega)
 have e2 : (((gd ns i).rows.toNat * (gd ns i).cols.toNat : Nat) : Int) = (gd ns i).cols * (gd ns i).rows := by
  rw [Int.natCast_mul, Int.toNat_of_nonneg (by omega), Int.toNat_of_nonneg (by omega), Int.mul_comm]
 refine ⟨?_, e0, by omega⟩
 rw [elems_take hi, List.length_append, elsOf_len, Int.natCast_add, e2]
theorem l21Elements_s {l : Lib} {cell : Int} (hL : RLib G L l.cells.v l.cells.xs) (hok : okLib (erCls l.cells.xs) = true ∧ 0 <= cell ∧ cell < (erCls l.cells.xs).length) (k : R (vi (elN (erCls l.cells.xs) cell)) G L) : CallT Tryz.prog 80 #[vT libT l, vi cell] G L R := by
 have hE := erCls_len l.cells.xs
 have hce := erCl_insts (xs := l.cells.xs) (i := cell.toNat) (by omega)
 have hns : okNs (gd l.cells.xs cell.toNat).insts.xs := by rw [<- hce]; exact okLib_ns hok.1 (by omega)
 have hn8 := hns.1
 rw [elN_ns (by omega)] at k
 refine CallT.enter (args := _) Tryz.func80 rfl rfl (by kernel_rfl) rfl ?_
 refine WP.sr ?_
 refine RG.ot rfl (OT.box (cs := libT.enc l) rfl rfl rfl fun b2 => ?_)
 refine RG.mr rfl (RG.nil (WP.sr (RG.mr rfl (RG.nil (WP.sr (RG.p (PV.field rfl Fo26_0 rfl) (RG.p (PV.load1 rfl Sc24 rfl (Rd.blk rfl)) (RG.ml rfl (RG.p (PV.idxS (j := cell.toNat) rfl Is24 rfl (SlF.r hL.c) rfl (by omega) (by omega)) (RG.p (PV.field rfl Fo95_3 rfl) (RG.p (PV.loadF rfl Sc93 rfl rfl (El.r hL.c (getG (by omega))) rfl) ?_)))))))))))
 refine RG.p (PV.asg rfl rfl) (RG.nil (WP.seq (WP.sr (RG.mr rfl (RG.nil (WP.block ?_))))))
 refine WP.loop2 [6] (fun (i : Nat) (n : Int) => i <= (gd l.cells.xs cell.toNat).insts.xs.length ∧ n = ((elems ((gd l.cells.xs cell.toNat).insts.xs.take i)).length : Int)) (fun (i : Nat) (n : Int) => [(7, vi i), (5, vi n)]) (fun (i : Nat) (n : Int) => L) (fun (i : Nat) (n : Int) => (gd l.cells.xs cell.toNat).insts.xs.length - i) 0 0 ⟨by omega, by simp [elems]⟩ ⟨rfl, rfl, trivial⟩ Cv.p ?_
 rintro i n τ ⟨hi, hn⟩
 refine WP.seq (WP.sr (RG.ml rfl (RG.p (PV.move rfl rfl) (RG.p (PV.len rfl Tryz.underlying93 rfl (SlF.r (hL.na (i := cell.toNat) (by omega)))) (RG.p (PV.lss rfl rfl rfl) (RG.nil ?_))))))
 have hb := elems_bd2 hns i hi
 refine WP.cond rfl (fun h2 => ?_) fun h2 => ?_
 ·have h2 := odt h2
  obtain ⟨q1, q2, q3⟩ := elems_cnt hns (i := i) (by omega)
  refine WP.skip (WP.seq (WP.block ?_))
  refine WP.regionQ (by kernel_rfl) (by kernel_rfl) ?_
  refine RQ.pv rfl (PV.mvI (.inl rfl) rfl) (RQ.pv rfl (PV.move rfl rfl) (RQ.pv rfl (PV.mvI (.inl rfl) rfl) (RQ.pv rfl (PV.idxS rfl Is93 rfl (SlF.r (hL.na (i := cell.toNat) (by omega))) rfl rfl (by omega)) (RQ.pv rfl (PV.field rfl Fo111_2 rfl) (RQ.pv rfl (PV.loadF rfl Sc2 rfl rfl (El.r (hL.na (i := cell.toNat) (by omega)) (getG (by omega))) rfl) (RQ.pv rfl (PV.move rfl rfl) (RQ.pv rfl (PV.mvI (.inl rfl) rfl) (RQ.pv rfl (PV.idxS rfl Is93 rfl (SlF.r (hL.na (i := cell.toNat) (by omega))) rfl rfl (by omega)) (RQ.pv rfl (PV.field rfl Fo111_3 rfl) (RQ.pv rfl (PV.loadF rfl Sc2 rfl rfl (El.r (hL.na (i := cell.toNat) (by omega)) (getG (by omega))) rfl) (RQ.pv rfl (PV.mul rfl rfl rfl (by omega)) (RQ.pv rfl (PV.add rfl rfl rfl (by omega)) (RQ.pv rfl (PV.mvI (.inr rfl) rfl) ?_)))))))))))))
  refine RQ.nil (WP.region (RG.ml rfl (RG.p (PV.add rfl rfl rfl (by omega)) (RG.mr rfl (RG.nil ?_)))))
  exact ⟨rfl, i + 1, _, ⟨by omega, by rw [q1, hn]⟩, ⟨rfl, rfl, trivial⟩, ⟨rfl, trivial⟩, Cv.p, by omega⟩
 ·have h2 := odf h2
  have e : n = ((elems (gd l.cells.xs cell.toNat).insts.xs).length : Int) := by rw [hn, List.take_of_length_le (by omega)]
  rw [<- e] at k
  refine WP.exit (WP.sr (RG.ml rfl (RG.mr rfl (RG.nil ?_))))
  exact WP.ret ⟨_, _, rv rfl rfl, Cv.p, k⟩
def RBig (r : Rect) : Prop := (-2000 <= r.x0 ∧ r.x0 < r.x1 ∧ r.x1 <= 2000) ∧ -2000 <= r.y0 ∧ r.y0 < r.y1 ∧ r.y1 <= 2000
theorem RIn_big {r : Rect} (h : RIn 40 r) : RBig r := by obtain ⟨h1, h2, h3, h4, h5, h6⟩ := h; exact ⟨by omega, by omega⟩
theorem moveR_big {t : Trans} {r : Rect} (h : RIn 40 r) (ho : 0 <= t.o ∧ t.o <= 7) (ht : (-1000 <= t.x ∧ t.x <= 1000) ∧ -1000 <= t.y ∧ t.y <= 1000) : RBig (moveR t r) := by
 have h1 := moveR_turn ho h
 obtain ⟨q1, q2, q3, q4, q5, q6⟩ := h1
 simp only [moveR, moveP] at q1 q2 q3 q4 q5 q6
 refine ⟨?_, ?_⟩ <;> simp only [moveR, moveP] <;> omega
theorem dist_s {a b : Rect} (ha : RBig a) (hb : RBig b) (k : R (vi (distR a b)) G L) : CallT Tryz.prog 96 #[vrect a, vrect b] G L R := by
 obtain ⟨⟨a1, a2, a3⟩, a4, a5, a6⟩ := ha
 obtain ⟨⟨b1, b2, b3⟩, b4, b5, b6⟩ := hb
 refine CallT.enter (args := _) Tryz.func96 rfl rfl (by kernel_rfl) rfl ?_
 refine WP.sr ?_
 refine RG.ot rfl (OT.box (cs := rectT.enc a) rfl rfl rfl fun b2 => ?_)
 refine RG.ot rfl (OT.box (cs := rectT.enc b) rfl rfl rfl fun b3 => ?_)
 refine RG.mr rfl (RG.nil (WP.sr (RG.p (PV.field rfl Fo101_0 rfl) (RG.p (PV.load1 rfl Sc2 rfl (Rd.blk rfl)) (RG.p (PV.field rfl Fo101_2 rfl) (RG.p (PV.load1 rfl Sc2 rfl (Rd.blk rfl)) (RG.p (PV.sub rfl rfl rfl (by omega)) (RG.p (PV.add rfl rfl rfl (by omega)) (RG.p (PV.field rfl Fo101_0 rfl) (RG.p (PV.load1 rfl Sc2 rfl (Rd.blk rfl)) (RG.p (PV.field rfl Fo101_2 rfl) (RG.p (PV.load1 rfl Sc2 rfl (Rd.blk rfl)) ?_))))))))))))
 refine RG.p (PV.sub rfl rfl rfl (by omega)) (RG.p (PV.add rfl rfl rfl (by omega)) (RG.p (PV.field rfl Fo101_1 rfl) (RG.p (PV.load1 rfl Sc2 rfl (Rd.blk rfl)) (RG.p (PV.field rfl Fo101_3 rfl) (RG.p (PV.load1 rfl Sc2 rfl (Rd.blk rfl)) (RG.p (PV.sub rfl rfl rfl (by omega)) (RG.p (PV.add rfl rfl rfl (by omega)) (RG.p (PV.field rfl Fo101_1 rfl) (RG.p (PV.load1 rfl Sc2 rfl (Rd.blk rfl)) (RG.p (PV.field rfl Fo101_3 rfl) (RG.p (PV.load1 rfl Sc2 rfl (Rd.blk rfl)) (RG.p (PV.sub rfl rfl rfl (by omega)) (RG.p (PV.add rfl rfl rfl (by omega)) ?_)))))))))))))
 refine RG.p (PV.max5 rfl rfl rfl rfl rfl rfl) (RG.mr rfl (RG.nil ?_))
 exact WP.ret ⟨_, _, rv rfl rfl, Cv.p, k⟩
theorem span_s {a b c d : Int} (ha : -10000 <= a ∧ a <= 10000) (hb : -10000 <= b ∧ b <= 10000) (hc : -10000 <= c ∧ c <= 10000) (hd : -10000 <= d ∧ d <= 10000) (k : R (vi (min b d - max a c)) G L) : CallT Tryz.prog 133 #[vi a, vi b, vi c, vi d] G L R := by
 refine CallT.enter (args := _) Tryz.func133 rfl rfl (by kernel_rfl) rfl ?_
 refine WP.sr (RG.mr rfl (RG.nil (WP.sr (RG.ml rfl (RG.ml rfl (RG.p (PV.min2 rfl rfl rfl) (RG.ml rfl (RG.ml rfl (RG.p (PV.max2 rfl rfl rfl) (RG.p (PV.sub rfl rfl rfl (by omega)) (RG.mr rfl ?_)))))))))))
 refine RG.nil ?_
 exact WP.ret ⟨_, _, rv rfl rfl, Cv.p, k⟩
theorem wide_s {r : Rect} {q : Int} (hr : RBig r) (hq : 0 <= q ∧ q <= 100) (k : R (vrect (wideR r q)) G L) : CallT Tryz.prog 131 #[vrect r, vi q] G L R := by
 obtain ⟨⟨a1, a2, a3⟩, a4, a5, a6⟩ := hr
 refine CallT.enter (args := _) Tryz.func131 rfl rfl (by kernel_rfl) rfl ?_
 refine WP.sr ?_
 refine RG.ot rfl (OT.box (cs := rectT.enc r) rfl rfl rfl fun b2 => ?_)
 refine RG.ot rfl (OT.alloc rfl Zr101 fun b4 => ?_)
 refine RG.nil (WP.sr (RG.p (PV.field rfl Fo101_0 rfl) (RG.p (PV.load1 rfl Sc2 rfl (Rd.blk rfl)) (RG.ml rfl (RG.p (PV.sub rfl rfl rfl (by omega)) (RG.p (PV.field rfl Fo101_1 rfl) (RG.p (PV.load1 rfl Sc2 rfl (Rd.blk rfl)) (RG.ml rfl (RG.p (PV.sub rfl rfl rfl (by omega)) (RG.p (PV.field rfl Fo101_2 rfl) (RG.p (PV.load1 rfl Sc2 rfl (Rd.blk rfl)) (RG.ml rfl ?_))))))))))))
 refine RG.p (PV.add rfl rfl rfl (by omega)) (RG.p (PV.field rfl Fo101_3 rfl) (RG.p (PV.load1 rfl Sc2 rfl (Rd.blk rfl)) (RG.ml rfl (RG.p (PV.add rfl rfl rfl (by omega)) (RG.p (PV.build (vs := [(0, [vi _]), (1, [vi _]), (2, [vi _]), (3, [vi _])]) (out := [_, _, _, _]) rfl Zr101 Pl101 ⟨rfl, (Cl.c rfl), ⟨rfl, (Cl.c rfl), ⟨rfl, (Cl.c rfl), ⟨rfl, (Cl.c rfl), trivial⟩⟩⟩⟩ rfl) ?_)))))
 refine RG.ot rfl (OT.storeW (vs := [vi _, vi _, vi _, vi _]) rfl Sz101 rfl rfl (Cl.c rfl) rfl rfl (OneC.c rfl) ?_)
 refine RG.nil ?_
 exact WP.ret ⟨_, _, ResV.one rfl (RV1.cell rfl Ag101 rfl), Cv.p, k⟩
theorem near_span {a p : Rect} {q : Int} (ha : RBig a) (hp : RBig p) (hq : 0 <= q) : decide (distR a p <= 2 * q) = (decide (0 < min a.x1 (wideR p (2 * q)).x1 - max a.x0 (wideR p (2 * q)).x0) && decide (0 < min a.y1 (wideR p (2 * q)).y1 - max a.y0 (wideR p (2 * q)).y0)) := by
 obtain ⟨⟨a1, a2, a3⟩, a4, a5, a6⟩ := ha
 obtain ⟨⟨b1, b2, b3⟩, b4, b5, b6⟩ := hp
 rw [Bool.eq_iff_iff]
 have e1 : 0 < min a.x1 (p.x1 + 2 * q) - max a.x0 (p.x0 - 2 * q) ↔ (a.x0 < a.x1 ∧ p.x0 - 2 * q < a.x1) ∧ a.x0 < p.x1 + 2 * q ∧ p.x0 - 2 * q < p.x1 + 2 * q := by simp only [Int.min_def, Int.max_def]; split <;> split <;> omega
 have e2 : 0 < min a.y1 (p.y1 + 2 * q) - max a.y0 (p.y0 - 2 * q) ↔ (a.y0 < a.y1 ∧ p.y0 - 2 * q < a.y1) ∧ a.y0 < p.y1 + 2 * q ∧ p.y0 - 2 * q < p.y1 + 2 * q := by simp only [Int.min_def, Int.max_def]; split <;> split <;> omega
 simp only [distR, wideR, Bool.and_eq_true, decide_eq_true_eq, e1, e2, Int.max_le]
 omega
end Go.Proofs.YtogocmlhnjiaaaaGreat
