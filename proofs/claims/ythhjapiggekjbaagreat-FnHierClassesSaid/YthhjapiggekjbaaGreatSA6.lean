/-
  The law FnHierClasses: whatever the code, the law returns true and the code reads as before.
-/
import Derived.Test.YthhjapiggekjbaaGreatSA5
import Derived.ProofKit
import Derived.Deep.Slices
import Derived.Carry
import Derived.Test.YthhjapiggekjbaaGreatRows
namespace Go.Proofs.YthhjapiggekjbaaGreat
set_option linter.unusedVariables false
set_option linter.unusedSimpArgs false
open Go
set_option maxRecDepth 20000
set_option maxHeartbeats 1000000
set_option linter.unusedSimpArgs false
variable {G : Gh} {L : List Ch} {R : Value → Gh → List Ch → Prop}
theorem abut_s {a b : Rect} (k : R (.bool (abutR a b)) G L) : CallT Tryz.prog 119 #[vrect a, vrect b] G L R := by
  refine CallT.enter (args := _) Tryz.func119 rfl rfl (by kernel_rfl) rfl ?_
  refine WP.seq ?_
  refine WP.region ?_
  refine RG.ot rfl (OT.box (cs := rectT.enc a) rfl rfl rfl fun b2 => ?_)
  refine RG.ot rfl (OT.box (cs := rectT.enc b) rfl rfl rfl fun b3 => ?_)
  refine RG.pv rfl (PV.mvB (.inr rfl) rfl) ?_
  refine RG.nil ?_
  refine WP.seq ?_
  refine WP.seq ?_
  refine WP.region ?_
  refine RG.pv rfl (PV.loadW rfl Ag140 rfl rfl) ?_
  refine RG.callF (vs := [_]) rfl rfl En83 rfl (validRect_s ?_)
  refine RG.pv rfl (PV.not rfl rfl) ?_
  refine RG.pv rfl (PV.mvB (.inl rfl) rfl) ?_
  refine RG.gs rfl rfl rfl (fun hp => (PV.loadW rfl Ag140 rfl rfl)) ?_
  refine RG.gsC rfl rfl rfl rfl En83 (fun hp => ⟨_, (acons (gs_t hp) anil), validRect_s ⟨rfl, rfl, rfl⟩⟩) ?_
  refine RG.gs rfl rfl rfl (fun hp => (PV.not rfl (gs_t hp))) ?_
  refine RG.pv rfl (PV.pickO rfl rfl rfl (fun hq => gs_t (geqF hq))) ?_
  refine RG.nil ?_
  refine WP.cond rfl (fun h => ?_) (fun h => ?_)
  · have e : abutR a b = false := by
      rw [abutR]; revert h
      cases validRect a <;> cases validRect b <;> simp
    rw [e] at k
    refine WP.seq ?_
    refine WP.region ?_
    refine RG.pv rfl (PV.mvB (.inr rfl) rfl) ?_
    refine RG.nil ?_
    refine WP.ret ?_
    exact ⟨_, _, ResV.one rfl rfl, Cv.p, k⟩
  · have e : abutR a b = (decide ((cmn a b).x0 = (cmn a b).x1) && decide ((cmn a b).y0 < (cmn a b).y1) || decide ((cmn a b).y0 = (cmn a b).y1) && decide ((cmn a b).x0 < (cmn a b).x1)) := by
      rw [abutR]; revert h
      cases validRect a <;> cases validRect b <;> simp
    rw [e] at k
    refine WP.skip ?_
    refine WP.seq ?_
    refine WP.region ?_
    refine RG.pv rfl (PV.loadW rfl Ag140 rfl rfl) ?_
    refine RG.pv rfl (PV.loadW rfl Ag140 rfl rfl) ?_
    refine RG.callF (vs := [_, _]) rfl rfl En164 rfl (common_s ?_)
    refine RG.ot rfl (OT.alloc rfl Zr140 fun b5 => ?_)
    refine RG.ot rfl (OT.storeW (vs := [vi _, vi _, vi _, vi _]) rfl Sz140 rfl rfl (Cl.c rfl) rfl rfl (OneC.c rfl) ?_)
    refine RG.nil ?_
    refine WP.seq ?_
    refine WP.region ?_
    refine RG.pv rfl (PV.field rfl Fo140_0 rfl) ?_
    refine RG.pv rfl (PV.load1 rfl Sc2 rfl (Rd.blk rfl)) ?_
    refine RG.pv rfl (PV.field rfl Fo140_2 rfl) ?_
    refine RG.pv rfl (PV.load1 rfl Sc2 rfl (Rd.blk rfl)) ?_
    refine RG.pv rfl (PV.eql rfl rfl rfl) ?_
    refine RG.pv rfl (PV.mvB (.inl rfl) rfl) ?_
    refine RG.gs rfl rfl rfl (fun hp => (PV.field rfl Fo140_1 rfl)) ?_
    refine RG.gs rfl rfl rfl (fun hp => (PV.load1 rfl Sc2 (gs_t hp) (Rd.blk rfl))) ?_
    refine RG.gs rfl rfl rfl (fun hp => (PV.field rfl Fo140_3 rfl)) ?_
    refine RG.gs rfl rfl rfl (fun hp => (PV.load1 rfl Sc2 (gs_t hp) (Rd.blk rfl))) ?_
    refine RG.gs rfl rfl rfl (fun hp => (PV.lss rfl (gs_t hp) (gs_t hp))) ?_
    refine RG.pv rfl (PV.pickA rfl rfl (fun hq => gs_t (geqT hq)) rfl) ?_
    refine RG.pv rfl (PV.mvB (.inl rfl) rfl) ?_
    refine RG.gs rfl rfl rfl (fun hp => (PV.field rfl Fo140_1 rfl)) ?_
    refine RG.gs rfl rfl rfl (fun hp => (PV.load1 rfl Sc2 (gs_t hp) (Rd.blk rfl))) ?_
    refine RG.gs rfl rfl rfl (fun hp => (PV.field rfl Fo140_3 rfl)) ?_
    refine RG.gs rfl rfl rfl (fun hp => (PV.load1 rfl Sc2 (gs_t hp) (Rd.blk rfl))) ?_
    refine RG.gs rfl rfl rfl (fun hp => (PV.eql rfl (gs_t hp) (gs_t hp))) ?_
    refine RG.gs rfl rfl rfl (fun hp => (PV.mvB (.inl rfl) (gs_t hp))) ?_
    refine RG.gs2 rfl rfl rfl (fun hp => (PV.field rfl Fo140_0 rfl)) ?_
    refine RG.gs2 rfl rfl rfl (fun hp => (PV.load1 rfl Sc2 (gs_t hp) (Rd.blk rfl))) ?_
    refine RG.gs2 rfl rfl rfl (fun hp => (PV.field rfl Fo140_2 rfl)) ?_
    refine RG.gs2 rfl rfl rfl (fun hp => (PV.load1 rfl Sc2 (gs_t hp) (Rd.blk rfl))) ?_
    refine RG.gs2 rfl rfl rfl (fun hp => (PV.lss rfl (gs_t hp) (gs_t hp))) ?_
    refine RG.gs rfl rfl rfl (fun hp => (PV.pickA rfl (gs_t hp) (fun hq => gs_t (gandT hp hq)) rfl)) ?_
    refine RG.pv rfl (PV.pickO rfl rfl rfl (fun hq => gs_t (geqF hq))) ?_
    refine RG.pv rfl (PV.mvB (.inr rfl) rfl) ?_
    refine RG.nil ?_
    refine WP.ret ?_
    exact ⟨_, _, ResV.one rfl rfl, Cv.p, k⟩
theorem tch_s {v u : Value} {xs ys : List Rect} (h1 : Rs G L rectT v xs) (h2 : Rs G L rectT u ys) (k : R (.bool (tchR xs ys)) G L) : CallT Tryz.prog 65 #[v, u] G L R := by
  refine CallT.bd h1 fun hb => ?_
  refine CallT.bd h2 fun hb' => ?_
  refine CallT.enter (args := _) Tryz.func65 rfl rfl (by kernel_rfl) rfl ?_
  refine WP.seq ?_
  refine WP.region ?_
  refine RG.pv rfl (PV.mvB (.inr rfl) rfl) ?_
  refine RG.nil ?_
  refine WP.seq ?_
  refine WP.seq ?_
  refine WP.region ?_
  refine RG.pv rfl (PV.move (v := v) rfl rfl) ?_
  refine RG.pv rfl (PV.len (v := v) rfl Tryz.underlying50 rfl (SlF.r h1)) ?_
  refine RG.pv rfl (PV.mvI (.inl rfl) rfl) ?_
  refine RG.nil ?_
  refine WP.block ?_
  refine WP.loop1 [1, 9, 10] (fun i => i ≤ xs.length ∧ ∀ p, p < i → ∀ q, q < ys.length → (ovl (gd xs p) (gd ys q) || abutR (gd xs p) (gd ys q)) = false) (fun i => [(11, vi i)]) (fun i => L) (fun i => xs.length - i) 0 ⟨by omega, fun p h => by omega⟩ ⟨rfl, trivial⟩ Cv.p ?_
  rintro i τ ⟨hi, hn⟩
  refine WP.seq ?_
  refine WP.region ?_
  refine RG.pv rfl (PV.lss rfl rfl rfl) ?_
  refine RG.nil ?_
  refine WP.seq ?_
  refine WP.cond rfl (fun h3 => ?_) (fun h3 => ?_)
  · have h3 := of_decide_eq_true h3
    refine WP.skip ?_
    refine WP.seq ?_
    refine WP.block ?_
    refine WP.seq ?_
    refine WP.region ?_
    refine RG.pv rfl (PV.idxS (v := v) rfl Is50 rfl (SlF.r h1) rfl rfl (by omega)) ?_
    refine RG.pv rfl (PV.loadE rfl Ag140 rfl rfl (El.r h1 (getG (by omega)))) ?_
    refine RG.ot rfl (OT.alloc rfl Zr140 fun b6 => ?_)
    refine RG.ot rfl (OT.storeW (vs := [vi _, vi _, vi _, vi _]) rfl Sz140 rfl rfl (Cl.c rfl) rfl rfl (OneC.c rfl) ?_)
    refine RG.nil ?_
    refine WP.seq ?_
    refine WP.region ?_
    refine RG.pv rfl (PV.move (v := u) rfl rfl) ?_
    refine RG.pv rfl (PV.len (v := u) rfl Tryz.underlying50 rfl (SlF.r h2)) ?_
    refine RG.pv rfl (PV.mvI (.inl rfl) rfl) ?_
    refine RG.nil ?_
    refine WP.block ?_
    refine WP.loop1 [1, 6, 9, 10, 11, 15, 16] (fun j => j ≤ ys.length ∧ ∀ q, q < j → (ovl (gd xs i) (gd ys q) || abutR (gd xs i) (gd ys q)) = false) (fun j => [(17, vi j)]) (fun j => blk b6 140 (rectT.enc (gd xs i)) :: L) (fun j => ys.length - j) 0 ⟨by omega, fun q h => by omega⟩ ⟨rfl, trivial⟩ Cv.p ?_
    rintro j τ1 ⟨hj, hm⟩
    refine WP.seq ?_
    refine WP.region ?_
    refine RG.pv rfl (PV.lss rfl rfl rfl) ?_
    refine RG.nil ?_
    refine WP.seq ?_
    refine WP.cond rfl (fun h4 => ?_) (fun h4 => ?_)
    · have h4 := of_decide_eq_true h4
      refine WP.skip ?_
      refine WP.seq ?_
      refine WP.block ?_
      refine WP.seq ?_
      refine WP.region ?_
      refine RG.pv rfl (PV.idxS (v := u) rfl Is50 rfl (SlF.r h2) rfl rfl (by omega)) ?_
      refine RG.pv rfl (PV.loadE rfl Ag140 rfl rfl (El.r h2 (getG (by omega)))) ?_
      refine RG.ot rfl (OT.alloc rfl Zr140 fun b8 => ?_)
      refine RG.ot rfl (OT.storeW (vs := [vi _, vi _, vi _, vi _]) rfl Sz140 rfl rfl (Cl.c rfl) rfl rfl (OneC.c rfl) ?_)
      refine RG.nil ?_
      refine WP.seq ?_
      refine WP.region ?_
      refine RG.pv rfl (PV.loadW rfl Ag140 rfl rfl) ?_
      refine RG.pv rfl (PV.loadW rfl Ag140 rfl rfl) ?_
      refine RG.callF (vs := [_, _]) rfl rfl En118 rfl (ovl_s ?_)
      refine RG.pv rfl (PV.mvB (.inl rfl) rfl) ?_
      refine RG.gs rfl rfl rfl (fun hp => (PV.loadW rfl Ag140 rfl rfl)) ?_
      refine RG.gs rfl rfl rfl (fun hp => (PV.loadW rfl Ag140 rfl rfl)) ?_
      refine RG.gsC rfl rfl rfl rfl En119 (fun hp => ⟨_, (acons (gs_t hp) (acons (gs_t hp) anil)), abut_s ⟨rfl, rfl, rfl⟩⟩) ?_
      refine RG.pv rfl (PV.pickO rfl rfl rfl (fun hq => gs_t (geqF hq))) ?_
      refine RG.nil ?_
      refine WP.cond rfl (fun h5 => ?_) (fun h5 => ?_)
      · have e : tchR xs ys = true := any2_true (p := fun x y => ovl x y || abutR x y) (i := i) (j := j) (by omega) (by omega) h5
        rw [e] at k
        refine WP.seq ?_
        refine WP.region ?_
        refine RG.pv rfl (PV.mvB (.inr rfl) rfl) ?_
        refine RG.nil ?_
        refine WP.ret ?_
        exact ⟨_, _, ResV.one rfl rfl, Cv.p, k⟩
      · refine WP.skip ?_
        refine WP.region ?_
        refine RG.pv rfl (PV.add rfl rfl rfl (by omega)) ?_
        refine RG.pv rfl (PV.mvI (.inl rfl) rfl) ?_
        refine RG.nil ?_
        exact ⟨rfl, j + 1, ⟨by omega, col_next hm h5⟩, ⟨rfl, trivial⟩, ⟨rfl, rfl, rfl, rfl, rfl, rfl, rfl, trivial⟩, Cv.p, by omega⟩
    · have h4 := of_decide_eq_false h4
      obtain rfl : j = ys.length := by omega
      refine WP.exit ?_
      refine WP.region ?_
      refine RG.pv rfl (PV.add rfl rfl rfl (by omega)) ?_
      refine RG.pv rfl (PV.mvI (.inl rfl) rfl) ?_
      refine RG.nil ?_
      exact ⟨rfl, i + 1, ⟨by omega, row_next (p := fun a b => ovl (gd xs a) (gd ys b) || abutR (gd xs a) (gd ys b)) hn hm⟩, ⟨rfl, trivial⟩, ⟨rfl, rfl, rfl, trivial⟩, Cv.p, by omega⟩
  · have h3 := of_decide_eq_false h3
    obtain rfl : i = xs.length := by omega
    have e : tchR xs ys = false := any2_false (p := fun x y => ovl x y || abutR x y) hn
    rw [e] at k
    refine WP.exit ?_
    refine WP.seq ?_
    refine WP.region ?_
    refine RG.pv rfl (PV.mvB (.inr rfl) rfl) ?_
    refine RG.nil ?_
    refine WP.ret ?_
    exact ⟨_, _, ResV.one rfl rfl, Cv.p, k⟩
noncomputable def hcC (cs : List ECell) (cell : Int) : Int := if ppC cs cell = 0 then (if 0 < (crL cs cell).length then 6 else 0) else ppC cs cell
theorem hcC_pp {cs : List ECell} {cell : Int} (h : ppC cs cell ≠ 0) : hcC cs cell = ppC cs cell := by rw [hcC, if_neg h]
theorem hcC_cr {cs : List ECell} {cell : Int} (h : ppC cs cell = 0) (h2 : 0 < (crL cs cell).length) : hcC cs cell = 6 := by rw [hcC, if_pos h, if_pos h2]
theorem hcC_ok {cs : List ECell} {cell : Int} (h : ppC cs cell = 0) (h2 : ¬ 0 < (crL cs cell).length) : hcC cs cell = 0 := by rw [hcC, if_pos h, if_neg h2]
theorem hcC_0 {cs : List ECell} {cell : Int} (h : hcC cs cell = 0) : ppC cs cell = 0 ∧ ¬ 0 < (crL cs cell).length := by
  by_cases h1 : ppC cs cell = 0
  · refine ⟨h1, fun h2 => ?_⟩
    rw [hcC_cr h1 h2] at h; cases h
  · rw [hcC_pp h1] at h; exact absurd h h1
theorem ppC_0 {cs : List ECell} {cell : Int} (h : ppC cs cell = 0) : shE cs cell = 0 ∧ (ppAll cs cell).length ≤ 400 := by
  by_cases h1 : shE cs cell = 0
  · refine ⟨h1, ?_⟩
    rw [ppC_yes h1] at h
    by_cases h2 : 400 < (ppAll cs cell).length
    · rw [decide_eq_true h2] at h; cases h
    · omega
  · rw [ppC_no h1] at h; exact absurd h h1
theorem canon_pos {S : List Bool} (hS : S.length = 6400) (h : ¬ 0 < (canon S).length) {y x : Nat} (hy : y < 80) (hx : x < 80) : gb S y x = false := by
  cases hg : gb S y x with
  | false => rfl
  | true =>
    exfalso
    rw [← bits_canon hS, gb_bits_iff hy hx] at hg
    obtain ⟨r, hr, -⟩ := hg
    exact h (List.length_pos_of_mem hr)
theorem crL_no {cs : List ECell} {cell : Int} (h0 : shE cs cell = 0) (h : ¬ 0 < (crL cs cell).length) : noCr cs cell := fun y x hy hx hd => by
  rw [crL, decide_eq_true h0, cond_true] at h
  have := canon_pos (crB_len _ _) h hy hx
  rw [gb_crB hy hx, hd, Bool.true_and] at this
  exact this
theorem erQs_snd {qs : List PPiece} {i : Nat} (h : i < qs.length) : gd ((erQs qs).map Prod.snd) i = erP (gd qs i).piece := by
  rw [gd_map _ (by rw [erQs_len]; exact h), erQs_gd h]; rfl
theorem pcls_i {l : Lib} {cell : Int} (hL : RLib G L l.cells.v l.cells.xs) (hlen : lenC (erCls l.cells.xs)) (k0 : hcC (erCls l.cells.xs) cell ≠ 0 → R (.tuple #[.slice none 0 0, .slice none 0 0, vi (hcC (erCls l.cells.xs) cell)]) G L)
    (k : hcC (erCls l.cells.xs) cell = 0 → ∀ v qs u, erQs qs = ppAll (erCls l.cells.xs) cell → R (.tuple #[v, u, vi 0]) G (osl 65 ppieceT v qs :: bagS 140 rectT (regsQ qs) :: osl 2 intT u (clsH (flyL (erCls l.cells.xs) cell) (plE (erCls l.cells.xs) cell)) :: L)) : CallT Tryz.prog 38 #[vT libT l, vi cell] G L R := by
  by_cases h1 : shE (erCls l.cells.xs) cell = 0
  · have ec := ppC_yes h1
    refine CallT.enter (args := _) Tryz.func38 rfl rfl (by kernel_rfl) rfl ?_
    refine WP.seq ?_
    refine WP.region ?_
    refine RG.ot rfl (OT.box (cs := libT.enc l) rfl rfl rfl fun b2 => ?_)
    refine RG.pv rfl (PV.asg rfl rfl) ?_
    refine RG.pv rfl (PV.asg rfl rfl) ?_
    refine RG.pv rfl (PV.mvI (.inr rfl) rfl) ?_
    refine RG.nil ?_
    refine WP.seq ?_
    refine WP.region ?_
    refine RG.pv rfl (PV.loadW rfl Ag31 rfl rfl) ?_
    refine RG.pv rfl (PV.mvI (.inl rfl) rfl) ?_
    refine RG.callF (vs := [_, _]) rfl rfl En47 rfl (plac_i hL.up hlen (fun hne => absurd h1 hne) (fun _ w13 ps u13 ys13 hps hys => ?_))
    refine RG.pv rfl (PV.move (v := .tuple _) rfl rfl) ?_
    refine RG.pv rfl (PV.ext (v := w13) rfl rfl rfl) ?_
    refine RG.pv rfl (PV.ext (v := u13) rfl rfl rfl) ?_
    refine RG.pv rfl (PV.ext rfl rfl rfl) ?_
    refine RG.pv rfl (PV.asg (v := w13) rfl rfl) ?_
    refine RG.pv rfl (PV.asg (v := u13) rfl rfl) ?_
    refine RG.pv rfl (PV.mvI (.inr rfl) rfl) ?_
    refine RG.nil ?_
    refine WP.seq ?_
    refine WP.seq ?_
    refine WP.region ?_
    refine RG.pv rfl (PV.mvI (.inl rfl) rfl) ?_
    refine RG.pv rfl (PV.neq rfl rfl rfl) ?_
    refine RG.nil ?_
    refine WP.cond rfl (fun h2 => ?_) (fun h2 => ?_)
    · simp at h2
    · obtain ⟨hpl, hat⟩ := erL_at hps
      have her := numTo_er hps ps.length (by omega)
      rw [hpl] at her
      have hal := ppAll_len (erCls l.cells.xs) cell
      have ho2 := occR_200 (erCls l.cells.xs) cell
      have hql : (numTo ps ps.length).length = (ppAll (erCls l.cells.xs) cell).length := by rw [← erQs_len, hpl, her]; rfl
      have hnl : (numTo ps ps.length).length ≤ 6000000 := by omega
      have hf1 : ∀ i, i < ps.length → (gd ps i).pieces.xs.length ≤ 25600 := fun i hi => (plPc_facts (hat i (by omega)).1).1
      have hf2 : ∀ i, i < ps.length → isReg (gd ps i).poly.xs = true := fun i hi => by rw [(hat i (by omega)).2, plPoly]; exact isReg_canon (bits_length _)
      have hf3 : ∀ i, i < ps.length → ∀ m, m < (gd ps i).pieces.xs.length → isReg (gd (gd ps i).pieces.xs m).reg.xs = true := fun i hi m hm => (plPc_facts (hat i (by omega)).1).2 m hm
      refine WP.skip ?_
      refine WP.seq ?_
      refine WP.region ?_
      refine RG.pv rfl (PV.move (v := w13) rfl rfl) ?_
      refine RG.callF (vs := [w13]) rfl rfl En49 rfl (placedP_i Rs.o RsE.o RsE.o RsE.o hnl (fun v30 => ?_))
      refine RG.pv rfl (PV.asg (v := v30) rfl rfl) ?_
      refine RG.nil ?_
      refine WP.seq ?_
      refine WP.block ?_
      refine WP.seq ?_
      refine WP.region ?_
      refine RG.pv rfl (PV.move (v := v30) rfl rfl) ?_
      refine RG.pv rfl (PV.len (v := v30) rfl Tryz.underlying53 rfl SlF.o) ?_
      refine RG.pv rfl (PV.gtr rfl rfl rfl) ?_
      refine RG.pv rfl (PV.mvB (.inr rfl) rfl) ?_
      refine RG.nil ?_
      refine WP.cond rfl (fun h3 => ?_) (fun h3 => ?_)
      · have h3 : 400 < (ppAll (erCls l.cells.xs) cell).length := by simp at h3; omega
        rw [decide_eq_true h3] at ec
        have e2 := hcC_pp (cs := erCls l.cells.xs) (cell := cell) (by rw [ec]; decide)
        rw [e2, ec] at k0
        refine WP.seq ?_
        refine WP.region ?_
        refine RG.pv rfl (PV.asg rfl rfl) ?_
        refine RG.pv rfl (PV.asg rfl rfl) ?_
        refine RG.pv rfl (PV.mvI (.inr rfl) rfl) ?_
        refine RG.nil ?_
        refine WP.ret ?_
        exact ⟨_, _, ResV.three rfl rfl rfl rfl, Cv.p, k0 (by decide)⟩
      · have h3 : ¬ 400 < (ppAll (erCls l.cells.xs) cell).length := by simp at h3; omega
        rw [decide_eq_false h3] at ec
        refine WP.seq ?_
        refine WP.region ?_
        refine RG.pv rfl (PV.move (v := w13) rfl rfl) ?_
        refine RG.callF (vs := [w13]) rfl rfl En48 rfl (cross_i Rs.o RsE.o RsE.o RsE.o (by omega) hf1 hf2 hf3 (fun v37 zs hz => ?_))
        refine RG.pv rfl (PV.len (v := v37) rfl Tryz.underlying50 rfl SlF.o) ?_
        refine RG.pv rfl (PV.gtr rfl rfl rfl) ?_
        refine RG.pv rfl (PV.mvB (.inr rfl) rfl) ?_
        refine RG.nil ?_
        have hcr0 := cross_fin h1 hps hz
        rw [hcr0] at *
        refine WP.cond rfl (fun h4 => ?_) (fun h4 => ?_)
        · have h4 : 0 < (crL (erCls l.cells.xs) cell).length := by simpa using h4
          have e2 := hcC_cr ec h4
          rw [e2] at k0
          refine WP.seq ?_
          refine WP.region ?_
          refine RG.pv rfl (PV.asg rfl rfl) ?_
          refine RG.pv rfl (PV.asg rfl rfl) ?_
          refine RG.pv rfl (PV.mvI (.inr rfl) rfl) ?_
          refine RG.nil ?_
          refine WP.ret ?_
          exact ⟨_, _, ResV.three rfl rfl rfl rfl, Cv.p, k0 (by decide)⟩
        · have h4 : ¬ 0 < (crL (erCls l.cells.xs) cell).length := by simpa using h4
          have k := k (hcC_ok ec h4)
          have hregs : rgsL ps = regsQ (numTo ps ps.length) := by rw [numTo_regs _ (Nat.le_refl _), List.take_length]
          rw [hregs]
          rw [← hpl] at her
          generalize hqs : numTo ps ps.length = qs at *
          refine WP.skip ?_
          refine WP.seq ?_
          refine WP.region ?_
          refine RG.pv rfl (PV.move (v := v30) rfl rfl) ?_
          refine RG.pv rfl (PV.len (v := v30) rfl Tryz.underlying53 rfl SlF.o) ?_
          refine RG.ot rfl (OT.make (F := intT) (a0 := 0) rfl El26 rfl (by decide) rfl rfl (by omega) (by omega) fun v42 => ?_)
          refine RG.pv rfl (PV.asg (v := v42) rfl rfl) ?_
          refine RG.nil ?_
          refine WP.seq ?_
          refine WP.seq ?_
          refine WP.region ?_
          refine RG.pv rfl (PV.move (v := v30) rfl rfl) ?_
          refine RG.pv rfl (PV.len (v := v30) rfl Tryz.underlying53 rfl SlF.o) ?_
          refine RG.pv rfl (PV.mvI (.inl rfl) rfl) ?_
          refine RG.nil ?_
          refine WP.block ?_
          have her : erQs qs = ppAll (erCls l.cells.xs) cell := her.trans (by rw [hpl]; rfl)
          have h8 : ys13.length = 8 := by rw [← er_len, hys, (fly_reg h1).1]
          have hE : plE (erCls l.cells.xs) cell = (erQs qs).map Prod.snd := by rw [her]; rfl
          have hEl : (plE (erCls l.cells.xs) cell).length = qs.length := by rw [plE_len, hql]
          have hJe : ∀ n i, n < qs.length → i < qs.length → JH (flyL (erCls l.cells.xs) cell) (plE (erCls l.cells.xs) cell) n i = ((decide ((gd qs n).piece.layer = (gd qs i).piece.layer) && tchR (gd qs n).piece.reg.xs (gd qs i).piece.reg.xs) || jnI (er ys13) (erP (gd qs n).piece) (erP (gd qs i).piece)) := fun n i hn hi => by
            rw [JH, hE, erQs_snd hn, erQs_snd hi, hys]; rfl
          generalize hJ : JH (flyL (erCls l.cells.xs) cell) (plE (erCls l.cells.xs) cell) = J at *
          have hlr : (List.replicate qs.length (0 : Int)).length = qs.length := List.length_replicate
          have hcr : ∀ i, i < qs.length → Rs G (bagS 140 rectT (regsQ qs) :: []) rectT (gd qs i).piece.reg.v (gd qs i).piece.reg.xs := fun i hi => RsE.regQ RsE.o hi
          refine WP.cv (Cv.eqS (show List.replicate qs.length 0 = rootsJ J 0 ++ List.replicate (qs.length - 0) 0 from rfl)) ?_
          refine WP.loop1 [8, 10, 11, 44] (fun i => i ≤ qs.length) (fun i => [(45, vi i)]) (fun i => osl 2 intT v42 (rootsJ J i ++ List.replicate (qs.length - i) 0) :: osl 65 ppieceT v30 qs :: bagS 140 rectT (regsQ qs) :: osl 50 slT u13 ys13 :: bagS 140 rectT ys13 :: L) (fun i => qs.length - i) 0 (by omega) ⟨rfl, trivial⟩ Cv.p ?_
          rintro i τ hi
          refine WP.seq ?_
          refine WP.region ?_
          refine RG.pv rfl (PV.lss rfl rfl rfl) ?_
          refine RG.nil ?_
          refine WP.seq ?_
          have hrl := rootsJ_len J i
          have hal : (rootsJ J i ++ List.replicate (qs.length - i) (0 : Int)).length = qs.length := by simp [hrl]; omega
          refine WP.cond rfl (fun h3 => ?_) (fun h3 => ?_)
          · have h3 := of_decide_eq_true h3
            have h4 : i < qs.length := by omega
            have hsm := set_mid (c := rootsJ J i) (n := qs.length) (x := (i : Int)) (by omega)
            rw [hrl] at hsm
            refine WP.skip ?_
            refine WP.seq ?_
            refine WP.block ?_
            refine WP.seq ?_
            refine WP.region ?_
            refine RG.pv rfl (PV.mvI (.inl rfl) rfl) ?_
            refine RG.pv rfl (PV.mvI (.inr rfl) rfl) ?_
            refine RG.nil ?_
            refine WP.seq ?_
            refine WP.region ?_
            refine RG.pv rfl (PV.move (v := v42) rfl rfl) ?_
            refine RG.pv rfl (PV.mvI (.inl rfl) rfl) ?_
            refine RG.pv rfl (PV.mvI (.inl rfl) rfl) ?_
            refine RG.pv rfl (PV.idxS (v := v42) rfl Is26 rfl SlF.o rfl rfl (by omega)) ?_
            refine RG.ot rfl (OT.storeE (F := intT) rfl Sz2 rfl rfl rfl (Cl.c rfl) (OneC.c rfl) (by omega) ?_)
            refine RG.nil ?_
            refine WP.seq ?_
            refine WP.region ?_
            refine RG.pv rfl (PV.mvI (.inl rfl) rfl) ?_
            refine RG.pv rfl (PV.mvI (.inl rfl) rfl) ?_
            refine RG.nil ?_
            refine WP.block ?_
            refine WP.cv (Cv.eqS (hsm.trans (by rw [← inJ_zero J]))) ?_
            refine WP.loop1 [8, 10, 11, 12, 44, 45, 52] (fun n => n ≤ i) (fun n => [(53, vi n)]) (fun n => osl 2 intT v42 (inJ J i (rootsJ J i) n ++ List.replicate (qs.length - (i + 1)) 0) :: osl 65 ppieceT v30 qs :: bagS 140 rectT (regsQ qs) :: osl 50 slT u13 ys13 :: bagS 140 rectT ys13 :: L) (fun n => i - n) 0 (by omega) ⟨rfl, trivial⟩ Cv.p ?_
            rintro n τ1 hn
            refine WP.seq ?_
            refine WP.region ?_
            refine RG.pv rfl (PV.lss rfl rfl rfl) ?_
            refine RG.nil ?_
            refine WP.seq ?_
            have hil := inJ_len J i (rootsJ J i) n
            have hil2 : (inJ J i (rootsJ J i) n).length = i + 1 := by omega
            have hin := fun j hj => inJ_le (J := J) (i := i) (k := n) (j := j) hn hj
            have hsc := inJ_succ J i (rootsJ J i) n
            generalize hceq : inJ J i (rootsJ J i) n = c at *
            have hal2 : (c ++ List.replicate (qs.length - (i + 1)) (0 : Int)).length = qs.length := by simp [hil2]; omega
            refine WP.cond rfl (fun h5 => ?_) (fun h5 => ?_)
            · have h5 := of_decide_eq_true h5
              have h6 : n < i := by omega
              have hgn : gd (c ++ List.replicate (qs.length - (i + 1)) (0 : Int)) n = gd c n := gd_app_l (by omega)
              have hgi : gd (c ++ List.replicate (qs.length - (i + 1)) (0 : Int)) i = gd c i := gd_app_l (by omega)
              have hin1 := hin n (by omega)
              have hin2 := hin i (by omega)
              have hJn := hJe n i (by omega) h4
              refine WP.skip ?_
              refine WP.seq ?_
              refine WP.block ?_
              refine WP.seq ?_
              refine WP.region ?_
              refine RG.pv rfl (PV.mvI (.inl rfl) rfl) ?_
              refine RG.pv rfl (PV.mvI (.inr rfl) rfl) ?_
              refine RG.nil ?_
              refine WP.cut2 [8, 10, 11, 12, 13, 44, 45, 52, 53] (fun (b14 b15 : Nat) => True) (fun (b14 b15 : Nat) => [(14, .pointer (some ⟨b14, 0, none⟩)), (15, .pointer (some ⟨b15, 0, none⟩))]) (fun (b14 b15 : Nat) => blk b14 63 (pieceT.enc (gd qs n).piece) :: blk b15 63 (pieceT.enc (gd qs i).piece) :: osl 2 intT v42 (c ++ List.replicate (qs.length - (i + 1)) 0) :: osl 65 ppieceT v30 qs :: bagS 140 rectT (regsQ qs) :: osl 50 slT u13 ys13 :: bagS 140 rectT ys13 :: L) ?_ ?_
              refine WP.regionH0 (.q 0 (.q 1 (.q 2 (.q 3 (.q 4 (.q 5 (.q 6 (.q 7 (.q 8 (.q 9 (.b 10 (.l 11 (.l 12 (.l 13 Sch.nil))) 11 (.l 10 (.l 12 (.l 13 Sch.nil)))))))))))))) (by kernel_rfl) (by kernel_rfl) (by kernel_rfl) rfl ?_
              refine RH.pv rfl (fun _ _ _ _ h => h) (Gh.le_refl _) PickC.pick rfl (PV.move (v := v30) rfl rfl) ?_
              refine RH.pv rfl (fun _ _ _ _ h => h) (Gh.le_refl _) PickC.pick rfl (PV.mvI (.inl rfl) rfl) ?_
              refine RH.pv rfl (fun _ _ _ _ h => h) (Gh.le_refl _) PickC.pick rfl (PV.idxS (v := v30) rfl Is53 rfl SlF.o rfl rfl (by omega)) ?_
              refine RH.pv rfl (fun _ _ _ _ h => h) (Gh.le_refl _) PickC.pick rfl (PV.field rfl Fo65_1 rfl) ?_
              refine RH.pv rfl (fun _ _ _ _ h => h) (Gh.le_refl _) PickC.pick rfl (PV.loadEP rfl Ag63 rfl rfl (El.o (getG (by omega))) rfl) ?_
              refine RH.pv rfl (fun _ _ _ _ h => h) (Gh.le_refl _) PickC.pick rfl (PV.move (v := v30) rfl rfl) ?_
              refine RH.pv rfl (fun _ _ _ _ h => h) (Gh.le_refl _) PickC.pick rfl (PV.mvI (.inl rfl) rfl) ?_
              refine RH.pv rfl (fun _ _ _ _ h => h) (Gh.le_refl _) PickC.pick rfl (PV.idxS (v := v30) rfl Is53 rfl SlF.o rfl rfl (by omega)) ?_
              refine RH.pv rfl (fun _ _ _ _ h => h) (Gh.le_refl _) PickC.pick rfl (PV.field rfl Fo65_1 rfl) ?_
              refine RH.pv rfl (fun _ _ _ _ h => h) (Gh.le_refl _) PickC.pick rfl (PV.loadEP rfl Ag63 rfl rfl (El.o (getG (by omega))) rfl) ?_
              · refine RH.ot2 rfl rfl rfl rfl  (OT.alloc rfl Zr63 fun b14 => ⟨Gh.le_refl _, PickC.pick, ?_⟩) (OT.alloc rfl Zr63 fun b15 => ⟨Gh.le_refl _, PickC.pick, ?_⟩)
                · refine RH.ot rfl rfl (OT.alloc rfl Zr63 fun b15 => ⟨Gh.le_refl _, PickC.pick, ?_⟩)
                  refine RH.ot rfl rfl (OT.storeW (vs := [vi _, _]) rfl Sz63 rfl rfl (Cl.c rfl) rfl rfl (OneC.val rfl (OneC.sl (SlF.r (hcr n (by omega))) OneC.nil)) ⟨Gh.le_refl _, PickC.pick, ?_⟩)
                  refine RH.ot rfl rfl (OT.storeW (vs := [vi _, _]) rfl Sz63 rfl rfl (Cl.c rfl) rfl rfl (OneC.val rfl (OneC.sl (SlF.r (hcr i (by omega))) OneC.nil)) ⟨Gh.le_refl _, PickC.pick, ?_⟩)
                  refine RH.nil ?_
                  exact ⟨rfl, b14, b15, trivial, ⟨rfl, rfl, trivial⟩, ⟨rfl, rfl, rfl, rfl, rfl, rfl, rfl, rfl, rfl, trivial⟩, Cv.p⟩
                · refine RH.ot rfl rfl (OT.alloc rfl Zr63 fun b14 => ⟨Gh.le_refl _, PickC.pick, ?_⟩)
                  refine RH.ot rfl rfl (OT.storeW (vs := [vi _, _]) rfl Sz63 rfl rfl (Cl.c rfl) rfl rfl (OneC.val rfl (OneC.sl (SlF.r (hcr n (by omega))) OneC.nil)) ⟨Gh.le_refl _, PickC.pick, ?_⟩)
                  refine RH.ot rfl rfl (OT.storeW (vs := [vi _, _]) rfl Sz63 rfl rfl (Cl.c rfl) rfl rfl (OneC.val rfl (OneC.sl (SlF.r (hcr i (by omega))) OneC.nil)) ⟨Gh.le_refl _, PickC.pick, ?_⟩)
                  refine RH.nil ?_
                  exact ⟨rfl, b14, b15, trivial, ⟨rfl, rfl, trivial⟩, ⟨rfl, rfl, rfl, rfl, rfl, rfl, rfl, rfl, rfl, trivial⟩, Cv.p⟩
              rintro b14 b15 τ5 _
              refine WP.seq ?_
              refine WP.seq ?_
              refine WP.regionQ (by kernel_rfl) (by kernel_rfl) ?_
              refine RQ.pv rfl (PV.move (v := v42) rfl rfl) ?_
              refine RQ.pv rfl (PV.mvI (.inl rfl) rfl) ?_
              refine RQ.pv rfl (PV.idxS (v := v42) rfl Is26 rfl SlF.o rfl rfl (by omega)) ?_
              refine RQ.pv rfl (PV.loadE1 rfl Sc2 rfl rfl (El.o (getG (by omega))) rfl) ?_
              refine RQ.pv rfl (PV.move (v := v42) rfl rfl) ?_
              refine RQ.pv rfl (PV.mvI (.inl rfl) rfl) ?_
              refine RQ.pv rfl (PV.idxS (v := v42) rfl Is26 rfl SlF.o rfl rfl (by omega)) ?_
              refine RQ.pv rfl (PV.loadE1 rfl Sc2 rfl rfl (El.o (getG (by omega))) rfl) ?_
              refine RQ.pv rfl (PV.eql rfl rfl rfl) ?_
              refine RQ.pv rfl (PV.mvB (.inl rfl) rfl) ?_
              refine RQ.gs rfl rfl rfl (fun hp => (PV.field rfl Fo63_0 rfl)) ?_
              refine RQ.gs rfl rfl rfl (fun hp => (PV.load1 rfl Sc2 (gs_t hp) (Rd.blk rfl))) ?_
              refine RQ.gs rfl rfl rfl (fun hp => (PV.field rfl Fo63_0 rfl)) ?_
              refine RQ.gs rfl rfl rfl (fun hp => (PV.load1 rfl Sc2 (gs_t hp) (Rd.blk rfl))) ?_
              refine RQ.gs rfl rfl rfl (fun hp => (PV.eql rfl (gs_t hp) (gs_t hp))) ?_
              refine RQ.gs rfl rfl rfl (fun hp => (PV.mvB (.inl rfl) (gs_t hp))) ?_
              refine RQ.gs2 rfl rfl rfl (fun hp => (PV.field rfl Fo63_1 rfl)) ?_
              refine RQ.gs2 rfl rfl rfl (fun hp => (PV.load1 rfl Sc50 (gs_t hp) (Rd.blk rfl))) ?_
              refine RQ.gs2 rfl rfl rfl (fun hp => (PV.field rfl Fo63_1 rfl)) ?_
              refine RQ.gs2 rfl rfl rfl (fun hp => (PV.load1 rfl Sc50 (gs_t hp) (Rd.blk rfl))) ?_
              refine RQ.gsC2 rfl rfl rfl rfl En65 (fun hp => ⟨_, (acons (gs_t hp) (acons (gs_t hp) anil)), tch_s (hcr n (by omega)).up (hcr i (by omega)).up ⟨rfl, rfl, rfl⟩⟩) ?_
              refine RQ.gs rfl rfl rfl (fun hp => (PV.pickA rfl (gs_t hp) (fun hq => gs_t (gandT hp hq)) rfl)) ?_
              refine RQ.gs rfl rfl rfl (fun hp => (PV.mvB (.inl rfl) (gs_t hp))) ?_
              refine RQ.gs2 rfl rfl rfl (fun hp => (PV.move (v := u13) rfl rfl)) ?_
              refine RQ.gs2 rfl rfl rfl (fun hp => (PV.loadW rfl Ag63 rfl rfl)) ?_
              refine RQ.gs2 rfl rfl rfl (fun hp => (PV.loadW rfl Ag63 rfl rfl)) ?_
              refine RQ.gsC2 rfl rfl rfl rfl En66 (fun hp => ⟨_, (acons (gs_t hp) (acons (gs_t hp) (acons (gs_t hp) anil))), joined_s (p := (gd qs n).piece) (q := (gd qs i).piece) (Rs.o (v := u13)) RsE.o h8 (hcr n (by omega)).up (hcr i (by omega)).up ⟨rfl, rfl, rfl⟩⟩) ?_
              refine RQ.gs rfl rfl rfl (fun hp => (PV.pickO rfl (gs_t hp) rfl (fun hq => gs_t (gandF hp hq)))) ?_
              refine RQ.gs rfl rfl rfl (fun hp => (PV.not rfl (gs_t hp))) ?_
              refine RQ.pv rfl (PV.pickO rfl rfl rfl (fun hq => gs_t (geqF hq))) ?_
              refine RQ.nil ?_
              refine WP.cond rfl (fun h7 => ?_) (fun h7 => ?_)
              · have hs : gd c n = gd c i ∨ J n i = false := by
                  rw [hgn, hgi] at h7; rw [hJn]; revert h7
                  cases decide ((gd qs n).piece.layer = (gd qs i).piece.layer) <;> cases tchR (gd qs n).piece.reg.xs (gd qs i).piece.reg.xs <;> cases jnI (er ys13) (erP (gd qs n).piece) (erP (gd qs i).piece) <;> simp
                refine WP.exit ?_
                refine WP.region ?_
                refine RG.pv rfl (PV.add rfl rfl rfl (by omega)) ?_
                refine RG.pv rfl (PV.mvI (.inl rfl) rfl) ?_
                refine RG.nil ?_
                exact ⟨rfl, n + 1, (by omega), ⟨rfl, trivial⟩, ⟨rfl, rfl, rfl, rfl, rfl, rfl, rfl, trivial⟩, ((Cv.p (C := osl 2 intT v42 (c ++ List.replicate (qs.length - (i + 1)) 0) :: osl 65 ppieceT v30 qs :: bagS 140 rectT (regsQ qs) :: osl 50 slT u13 ys13 :: bagS 140 rectT ys13 :: L)).trans (Cv.eqS (by rw [hsc, stepJ_same hs]))), by omega⟩
              · have hs : ¬ (gd c n = gd c i ∨ J n i = false) := by
                  rw [hgn, hgi] at h7; rw [hJn]; revert h7
                  cases decide ((gd qs n).piece.layer = (gd qs i).piece.layer) <;> cases tchR (gd qs n).piece.reg.xs (gd qs i).piece.reg.xs <;> cases jnI (er ys13) (erP (gd qs n).piece) (erP (gd qs i).piece) <;> simp
                have hhi0 : max (gd c n) (gd c i) ≠ 0 := by rw [not_or] at hs; omega
                refine WP.skip ?_
                refine WP.seq ?_
                refine WP.regionQ (by kernel_rfl) (by kernel_rfl) ?_
                refine RQ.pv rfl (PV.move (v := v42) rfl rfl) ?_
                refine RQ.pv rfl (PV.mvI (.inl rfl) rfl) ?_
                refine RQ.pv rfl (PV.idxS (v := v42) rfl Is26 rfl SlF.o rfl rfl (by omega)) ?_
                refine RQ.pv rfl (PV.loadE1 rfl Sc2 rfl rfl (El.o (getG (by omega))) rfl) ?_
                refine RQ.pv rfl (PV.move (v := v42) rfl rfl) ?_
                refine RQ.pv rfl (PV.mvI (.inl rfl) rfl) ?_
                refine RQ.pv rfl (PV.idxS (v := v42) rfl Is26 rfl SlF.o rfl rfl (by omega)) ?_
                refine RQ.pv rfl (PV.loadE1 rfl Sc2 rfl rfl (El.o (getG (by omega))) rfl) ?_
                refine RQ.pv rfl (PV.min2 rfl rfl rfl) ?_
                refine RQ.pv rfl (PV.move (v := v42) rfl rfl) ?_
                refine RQ.pv rfl (PV.mvI (.inl rfl) rfl) ?_
                refine RQ.pv rfl (PV.idxS (v := v42) rfl Is26 rfl SlF.o rfl rfl (by omega)) ?_
                refine RQ.pv rfl (PV.loadE1 rfl Sc2 rfl rfl (El.o (getG (by omega))) rfl) ?_
                refine RQ.pv rfl (PV.move (v := v42) rfl rfl) ?_
                refine RQ.pv rfl (PV.mvI (.inl rfl) rfl) ?_
                refine RQ.pv rfl (PV.idxS (v := v42) rfl Is26 rfl SlF.o rfl rfl (by omega)) ?_
                refine RQ.pv rfl (PV.loadE1 rfl Sc2 rfl rfl (El.o (getG (by omega))) rfl) ?_
                refine RQ.pv rfl (PV.max2 rfl rfl rfl) ?_
                refine RQ.pv rfl (PV.mvI (.inr rfl) rfl) ?_
                refine RQ.pv rfl (PV.mvI (.inr rfl) rfl) ?_
                refine RQ.nil ?_
                refine WP.seq ?_
                refine WP.region ?_
                refine RG.pv rfl (PV.mvI (.inl rfl) rfl) ?_
                refine RG.pv rfl (PV.add rfl rfl rfl (by omega)) ?_
                refine RG.pv rfl (PV.mvI (.inl rfl) rfl) ?_
                refine RG.nil ?_
                refine WP.block ?_
                rw [hgn, hgi]
                refine WP.cv ((Cv.p (C := osl 2 intT v42 (c ++ List.replicate (qs.length - (i + 1)) 0) :: osl 65 ppieceT v30 qs :: bagS 140 rectT (regsQ qs) :: osl 50 slT u13 ys13 :: bagS 140 rectT ys13 :: L)).trans (Cv.eqS (mapTo_zero (rl (min (gd c n) (gd c i)) (max (gd c n) (gd c i))) (c ++ List.replicate (qs.length - (i + 1)) 0)).symm)) ?_
                generalize hlo : min (gd c n) (gd c i) = lo at *
                generalize hhi : max (gd c n) (gd c i) = hi2 at *
                refine WP.loop1 [8, 10, 11, 12, 16, 17, 44, 45, 52, 53, 115] (fun m => m ≤ i + 1) (fun m => [(116, vi m)]) (fun m => osl 2 intT v42 (mapTo (rl lo hi2) (c ++ List.replicate (qs.length - (i + 1)) 0) m) :: osl 65 ppieceT v30 qs :: bagS 140 rectT (regsQ qs) :: osl 50 slT u13 ys13 :: bagS 140 rectT ys13 :: L) (fun m => i + 1 - m) 0 (by omega) ⟨rfl, trivial⟩ Cv.p ?_
                rintro m τ2 hm
                refine WP.seq ?_
                refine WP.region ?_
                refine RG.pv rfl (PV.lss rfl rfl rfl) ?_
                refine RG.nil ?_
                refine WP.seq ?_
                have hml := mapTo_len (rl lo hi2) (c ++ List.replicate (qs.length - (i + 1)) 0) (m := m) (by omega)
                refine WP.cond rfl (fun h8 => ?_) (fun h8 => ?_)
                · have h8 := of_decide_eq_true h8
                  have hmg := mapTo_gd (f := rl lo hi2) (d := c ++ List.replicate (qs.length - (i + 1)) 0) (m := m) (by omega)
                  refine WP.skip ?_
                  refine WP.seq ?_
                  refine WP.block ?_
                  refine WP.seq ?_
                  refine WP.region ?_
                  refine RG.pv rfl (PV.mvI (.inl rfl) rfl) ?_
                  refine RG.pv rfl (PV.mvI (.inr rfl) rfl) ?_
                  refine RG.nil ?_
                  refine WP.seq ?_
                  refine WP.region ?_
                  refine RG.pv rfl (PV.move (v := v42) rfl rfl) ?_
                  refine RG.pv rfl (PV.mvI (.inl rfl) rfl) ?_
                  refine RG.pv rfl (PV.idxS (v := v42) rfl Is26 rfl SlF.o rfl rfl (by omega)) ?_
                  refine RG.pv rfl (PV.loadE1 rfl Sc2 rfl rfl (El.o (getG (by omega))) rfl) ?_
                  refine RG.pv rfl (PV.mvI (.inl rfl) rfl) ?_
                  refine RG.pv rfl (PV.eql rfl rfl rfl) ?_
                  refine RG.nil ?_
                  refine WP.cond rfl (fun h9 => ?_) (fun h9 => ?_)
                  · refine WP.region ?_
                    refine RG.pv rfl (PV.move (v := v42) rfl rfl) ?_
                    refine RG.pv rfl (PV.mvI (.inl rfl) rfl) ?_
                    refine RG.pv rfl (PV.mvI (.inl rfl) rfl) ?_
                    refine RG.pv rfl (PV.idxS (v := v42) rfl Is26 rfl SlF.o rfl rfl (by omega)) ?_
                    refine RG.ot rfl (OT.storeE (F := intT) rfl Sz2 rfl rfl rfl (Cl.c rfl) (OneC.c rfl) (by omega) ?_)
                    refine RG.nil ?_
                    refine WP.region ?_
                    refine RG.pv rfl (PV.add rfl rfl rfl (by omega)) ?_
                    refine RG.pv rfl (PV.mvI (.inl rfl) rfl) ?_
                    refine RG.nil ?_
                    exact ⟨rfl, m + 1, (by omega), ⟨rfl, trivial⟩, ⟨rfl, rfl, rfl, rfl, rfl, rfl, rfl, rfl, rfl, rfl, rfl, trivial⟩, (Cv.eqS (by rw [← mapTo_set (by omega), rl, if_pos (by rw [hmg] at h9; simpa using h9)])), by omega⟩
                  · refine WP.skip ?_
                    refine WP.region ?_
                    refine RG.pv rfl (PV.add rfl rfl rfl (by omega)) ?_
                    refine RG.pv rfl (PV.mvI (.inl rfl) rfl) ?_
                    refine RG.nil ?_
                    exact ⟨rfl, m + 1, (by omega), ⟨rfl, trivial⟩, ⟨rfl, rfl, rfl, rfl, rfl, rfl, rfl, rfl, rfl, rfl, rfl, trivial⟩, (Cv.eqS (by rw [mapTo_skip (by omega)]; rw [rl, if_neg (by rw [hmg] at h9; simpa using h9)])), by omega⟩
                · have h8 := of_decide_eq_false h8
                  obtain rfl : m = i + 1 := by omega
                  have hma := mapTo_all (f := rl lo hi2) (c := c) (z := List.replicate (qs.length - (i + 1)) 0)
                  rw [hil2] at hma
                  refine WP.exit ?_
                  refine WP.region ?_
                  refine RG.pv rfl (PV.add rfl rfl rfl (by omega)) ?_
                  refine RG.pv rfl (PV.mvI (.inl rfl) rfl) ?_
                  refine RG.nil ?_
                  exact ⟨rfl, n + 1, (by omega), ⟨rfl, trivial⟩, ⟨rfl, rfl, rfl, rfl, rfl, rfl, rfl, trivial⟩, (Cv.eqS (by rw [hma, hsc, stepJ_map hs, hlo, hhi])), by omega⟩
            · have h5 := of_decide_eq_false h5
              obtain rfl : n = i := by omega
              refine WP.exit ?_
              refine WP.region ?_
              refine RG.pv rfl (PV.add rfl rfl rfl (by omega)) ?_
              refine RG.pv rfl (PV.mvI (.inl rfl) rfl) ?_
              refine RG.nil ?_
              exact ⟨rfl, n + 1, (by omega), ⟨rfl, trivial⟩, ⟨rfl, rfl, rfl, rfl, trivial⟩, (Cv.eqS (by rw [rootsJ, hceq])), by omega⟩
          · have h3 := of_decide_eq_false h3
            obtain rfl : i = qs.length := by omega
            have hcl : rootsJ J qs.length ++ List.replicate (qs.length - qs.length) 0 = clsH (flyL (erCls l.cells.xs) cell) (plE (erCls l.cells.xs) cell) := by rw [Nat.sub_self, List.replicate_zero, List.append_nil, clsH, hJ, hEl]
            refine WP.cv (Cv.eqS hcl) ?_
            refine WP.exit ?_
            refine WP.seq ?_
            refine WP.region ?_
            refine RG.pv rfl (PV.move (v := v30) rfl rfl) ?_
            refine RG.pv rfl (PV.move (v := v42) rfl rfl) ?_
            refine RG.pv rfl (PV.asg (v := v30) rfl rfl) ?_
            refine RG.pv rfl (PV.asg (v := v42) rfl rfl) ?_
            refine RG.pv rfl (PV.mvI (.inr rfl) rfl) ?_
            refine RG.nil ?_
            refine WP.ret ?_
            exact ⟨_, _, ResV.three rfl rfl rfl rfl, Cv.p, k v30 qs v42 her⟩
  · have e := ppC_no h1
    have e2 := hcC_pp (cs := erCls l.cells.xs) (cell := cell) (by rw [e]; exact h1)
    rw [e2, e] at k0
    refine CallT.enter (args := _) Tryz.func38 rfl rfl (by kernel_rfl) rfl ?_
    refine WP.seq ?_
    refine WP.region ?_
    refine RG.ot rfl (OT.box (cs := libT.enc l) rfl rfl rfl fun b2 => ?_)
    refine RG.pv rfl (PV.asg rfl rfl) ?_
    refine RG.pv rfl (PV.asg rfl rfl) ?_
    refine RG.pv rfl (PV.mvI (.inr rfl) rfl) ?_
    refine RG.nil ?_
    refine WP.seq ?_
    refine WP.region ?_
    refine RG.pv rfl (PV.loadW rfl Ag31 rfl rfl) ?_
    refine RG.pv rfl (PV.mvI (.inl rfl) rfl) ?_
    refine RG.callF (vs := [_, _]) rfl rfl En47 rfl (plac_i hL.up hlen (fun _ => ?_) (fun h => absurd h h1))
    refine RG.pv rfl (PV.move (v := .tuple _) rfl rfl) ?_
    refine RG.pv rfl (PV.ext rfl rfl rfl) ?_
    refine RG.pv rfl (PV.ext rfl rfl rfl) ?_
    refine RG.pv rfl (PV.ext rfl rfl rfl) ?_
    refine RG.pv rfl (PV.asg rfl rfl) ?_
    refine RG.pv rfl (PV.asg rfl rfl) ?_
    refine RG.pv rfl (PV.mvI (.inr rfl) rfl) ?_
    refine RG.nil ?_
    refine WP.seq ?_
    refine WP.seq ?_
    refine WP.region ?_
    refine RG.pv rfl (PV.mvI (.inl rfl) rfl) ?_
    refine RG.pv rfl (PV.neq rfl rfl rfl) ?_
    refine RG.nil ?_
    refine WP.cond rfl (fun h2 => ?_) (fun h2 => ?_)
    · refine WP.seq ?_
      refine WP.region ?_
      refine RG.pv rfl (PV.mvI (.inl rfl) rfl) ?_
      refine RG.pv rfl (PV.asg rfl rfl) ?_
      refine RG.pv rfl (PV.asg rfl rfl) ?_
      refine RG.pv rfl (PV.mvI (.inr rfl) rfl) ?_
      refine RG.nil ?_
      refine WP.ret ?_
      exact ⟨_, _, ResV.three rfl rfl rfl rfl, Cv.p, k0 h1⟩
    · exfalso; simp at h2; exact h1 h2
end Go.Proofs.YthhjapiggekjbaaGreat
namespace Go.Proofs.YthhjapiggekjbaaGreat
set_option linter.unusedVariables false
set_option linter.unusedSimpArgs false
open Go
set_option maxRecDepth 20000
set_option maxHeartbeats 1000000
set_option linter.unusedSimpArgs false
variable {G : Gh} {L : List Ch} {R : Value → Gh → List Ch → Prop}
theorem isLay_fly {cs : List ECell} {cell : Int} (h : shE cs cell = 0) : isLay (flyL cs cell) = true := by
  rw [flyL, decide_eq_true h]; exact isLay_layL _
noncomputable def hcR (cs : List ECell) (cell : Int) : List Int := if hcC cs cell = 0 then clsH (flyL cs cell) (plE cs cell) else []
theorem hcR_no {cs : List ECell} {cell : Int} (h : hcC cs cell ≠ 0) : hcR cs cell = [] := by rw [hcR, if_neg h]
theorem hcR_yes {cs : List ECell} {cell : Int} (h : hcC cs cell = 0) : hcR cs cell = clsH (flyL cs cell) (plE cs cell) := by rw [hcR, if_pos h]
theorem hc_all {cs : List ECell} {cell : Int} (h : hcC cs cell = 0) : shE cs cell = 0 ∧ PAll (flyL cs cell) (plE cs cell) := by
  obtain ⟨h1, h2⟩ := hcC_0 h
  have h0 := (ppC_0 h1).1
  exact ⟨h0, plE_all h0 (crL_no h0 h2)⟩
theorem pc_i {l : Lib} {cell : Int} (hL : RLib G L l.cells.v l.cells.xs) (hlen : lenC (erCls l.cells.xs)) (k : ∀ v, R (.tuple #[v, vi (hcC (erCls l.cells.xs) cell)]) G (osl 2 intT v (hcR (erCls l.cells.xs) cell) :: L)) : CallT Tryz.prog 11 #[vT libT l, vi cell] G L R := by
  by_cases h1 : hcC (erCls l.cells.xs) cell = 0
  · rw [hcR_yes h1, h1] at k
    refine CallT.enter (args := _) Tryz.func11 rfl rfl (by kernel_rfl) rfl ?_
    refine WP.seq ?_
    refine WP.region ?_
    refine RG.ot rfl (OT.box (cs := libT.enc l) rfl rfl rfl fun b2 => ?_)
    refine RG.pv rfl (PV.asg rfl rfl) ?_
    refine RG.pv rfl (PV.mvI (.inr rfl) rfl) ?_
    refine RG.nil ?_
    refine WP.seq ?_
    refine WP.region ?_
    refine RG.pv rfl (PV.loadW rfl Ag31 rfl rfl) ?_
    refine RG.pv rfl (PV.mvI (.inl rfl) rfl) ?_
    refine RG.callF (vs := [_, _]) rfl rfl En38 rfl (pcls_i hL.up hlen (fun h => absurd h1 h) (fun _ v1 qs v2 hq => ?_))
    refine RG.pv rfl (PV.move (v := .tuple _) rfl rfl) ?_
    refine RG.pv rfl (PV.ext (v := v1) rfl rfl rfl) ?_
    refine RG.pv rfl (PV.ext (v := v2) rfl rfl rfl) ?_
    refine RG.pv rfl (PV.ext rfl rfl rfl) ?_
    refine RG.pv rfl (PV.asg (v := v1) rfl rfl) ?_
    refine RG.pv rfl (PV.asg (v := v2) rfl rfl) ?_
    refine RG.pv rfl (PV.mvI (.inr rfl) rfl) ?_
    refine RG.nil ?_
    refine WP.seq ?_
    refine WP.region ?_
    refine RG.pv rfl (PV.move (v := v2) rfl rfl) ?_
    refine RG.pv rfl (PV.mvI (.inl rfl) rfl) ?_
    refine RG.pv rfl (PV.asg (v := v2) rfl rfl) ?_
    refine RG.pv rfl (PV.mvI (.inr rfl) rfl) ?_
    refine RG.nil ?_
    refine WP.ret ?_
    exact ⟨_, _, ResV.two rfl rfl rfl, Cv.p, k v2⟩
  · rw [hcR_no h1] at k
    refine CallT.enter (args := _) Tryz.func11 rfl rfl (by kernel_rfl) rfl ?_
    refine WP.seq ?_
    refine WP.region ?_
    refine RG.ot rfl (OT.box (cs := libT.enc l) rfl rfl rfl fun b2 => ?_)
    refine RG.pv rfl (PV.asg rfl rfl) ?_
    refine RG.pv rfl (PV.mvI (.inr rfl) rfl) ?_
    refine RG.nil ?_
    refine WP.seq ?_
    refine WP.region ?_
    refine RG.pv rfl (PV.loadW rfl Ag31 rfl rfl) ?_
    refine RG.pv rfl (PV.mvI (.inl rfl) rfl) ?_
    refine RG.callF (vs := [_, _]) rfl rfl En38 rfl (pcls_i hL.up hlen (fun _ => ?_) (fun h => absurd h h1))
    refine RG.pv rfl (PV.move (v := .tuple _) rfl rfl) ?_
    refine RG.pv rfl (PV.ext rfl rfl rfl) ?_
    refine RG.pv rfl (PV.ext rfl rfl rfl) ?_
    refine RG.pv rfl (PV.ext rfl rfl rfl) ?_
    refine RG.pv rfl (PV.asg rfl rfl) ?_
    refine RG.pv rfl (PV.asg rfl rfl) ?_
    refine RG.pv rfl (PV.mvI (.inr rfl) rfl) ?_
    refine RG.nil ?_
    refine WP.seq ?_
    refine WP.region ?_
    refine RG.pv rfl (PV.move rfl rfl) ?_
    refine RG.pv rfl (PV.mvI (.inl rfl) rfl) ?_
    refine RG.pv rfl (PV.asg rfl rfl) ?_
    refine RG.pv rfl (PV.mvI (.inr rfl) rfl) ?_
    refine RG.nil ?_
    refine WP.ret ?_
    exact ⟨_, _, ResV.two rfl rfl rfl, (Cv.p (C := L)).trans Cv.nilS, k (.slice none 0 0)⟩
end Go.Proofs.YthhjapiggekjbaaGreat
namespace Go.Proofs.YthhjapiggekjbaaGreat
set_option linter.unusedVariables false
set_option linter.unusedSimpArgs false
open Go
set_option maxRecDepth 20000
set_option maxHeartbeats 1000000
set_option linter.unusedSimpArgs false
variable {G : Gh} {L : List Ch} {R : Value → Gh → List Ch → Prop}
theorem dShapes_s {b : Nat} {cv : Value} {bs : List UInt8} {most : Int} (hcode : SL G byteT cv bs) (hm : 0 ≤ most ∧ most ≤ 100) (k : ∀ v ss, ss.length ≤ 100 → R v G (osl 142 shapeT v ss :: src b cv :: L)) : CallT Tryz.prog 129 #[.pointer (some ⟨b, 0, none⟩), vi most] G (src b cv :: L) R := by
  have hl8 : ([0, 1, 2, 3, 3, 4, 5, (3 : Int)] : List Int).length = 8 := rfl
  refine CallT.enter (args := _) Tryz.func129 rfl rfl (by kernel_rfl) rfl ?_
  refine WP.seq ?_
  refine WP.region ?_
  refine RG.pv rfl (PV.asg rfl rfl) ?_
  refine RG.nil ?_
  refine WP.seq ?_
  refine WP.region ?_
  refine RG.ot rfl (OT.bslice (F := shapeT) (els := []) rfl El83 rfl (by decide) rfl (by decide) trivial fun v10 => ?_)
  refine RG.pv rfl (PV.asg (v := v10) rfl rfl) ?_
  refine RG.nil ?_
  refine WP.seq ?_
  refine WP.seq ?_
  refine WP.region ?_
  refine RG.pv rfl (PV.move rfl rfl) ?_
  refine RG.pv rfl (PV.mvI (.inl rfl) rfl) ?_
  refine RG.pv rfl (PV.add rfl rfl rfl (by omega)) ?_
  refine RG.callF (vs := [_, _]) rfl rfl En80 rfl (CallT.exC (src b cv) (next_s hcode (by omega) (fun w14 hw14 => ?_)))
  refine RG.pv rfl (PV.mvI (.inr rfl) rfl) ?_
  refine RG.nil ?_
  refine WP.block ?_
  refine WP.loop3 [0] (fun (c : Int) (ss : List Shape) (q : Value) => 0 ≤ c ∧ c ≤ 100 ∧ (ss.length : Int) + c ≤ 100) (fun (c : Int) (ss : List Shape) (q : Value) => [(6, vi c), (5, q)]) (fun (c : Int) (ss : List Shape) (q : Value) => osl 142 shapeT q ss :: src b cv :: L) (fun (c : Int) (ss : List Shape) (q : Value) => c.toNat) w14 [] v10 ⟨by omega, by omega, by simp; omega⟩ ⟨rfl, rfl, trivial⟩ Cv.p ?_
  rintro c ss q τ ⟨h0, h1, h3⟩
  refine WP.seq ?_
  refine WP.seq ?_
  refine WP.region ?_
  refine RG.pv rfl (PV.mvI (.inl rfl) rfl) ?_
  refine RG.pv rfl (PV.gtr rfl rfl rfl) ?_
  refine RG.nil ?_
  refine WP.cond rfl (fun h2 => ?_) (fun h2 => ?_)
  · have h2 := of_decide_eq_true h2
    refine WP.skip ?_
    refine WP.seq ?_
    refine WP.block ?_
    refine WP.seq ?_
    refine WP.region ?_
    refine RG.ot rfl (OT.bslice (F := intT) (els := [_, _, _, _, _, _, _, _]) rfl El26 rfl (by decide) rfl (by decide) ⟨rfl, (Cl.c rfl), ⟨rfl, (Cl.c rfl), ⟨rfl, (Cl.c rfl), ⟨rfl, (Cl.c rfl), ⟨rfl, (Cl.c rfl), ⟨rfl, (Cl.c rfl), ⟨rfl, (Cl.c rfl), ⟨rfl, (Cl.c rfl), trivial⟩⟩⟩⟩⟩⟩⟩⟩ fun v19 => ?_)
    refine RG.pv rfl (PV.move rfl rfl) ?_
    refine RG.callF (vs := [_, _]) rfl rfl En80 rfl (CallT.exC (src b cv) (next_s hcode (by omega) (fun w21 hw21 => ?_)))
    refine RG.pv rfl (PV.idxS (j := w21.toNat) (v := v19) rfl Is26 rfl SlF.o rfl (by omega) (by omega)) ?_
    refine RG.pv rfl (PV.loadE1 rfl Sc2 rfl rfl (El.o (getG (by omega))) rfl) ?_
    refine RG.pv rfl (PV.mvI (.inr rfl) rfl) ?_
    refine RG.nil ?_
    refine WP.seq ?_
    refine WP.region ?_
    refine RG.pv rfl (PV.mvI (.inr rfl) rfl) ?_
    refine RG.nil ?_
    refine WP.seq ?_
    refine WP.seq ?_
    refine WP.region ?_
    refine RG.pv rfl (PV.mvI (.inl rfl) rfl) ?_
    refine RG.pv rfl (PV.eql rfl rfl rfl) ?_
    refine RG.pv rfl (PV.mvB (.inl rfl) rfl) ?_
    refine RG.gs rfl rfl rfl (fun hp => (PV.mvI (.inl rfl) rfl)) ?_
    refine RG.gs rfl rfl rfl (fun hp => (PV.eql rfl (gs_t hp) rfl)) ?_
    refine RG.pv rfl (PV.pickO rfl rfl rfl (fun hq => gs_t (geqF hq))) ?_
    refine RG.nil ?_
    refine WP.cond rfl (fun h4 => ?_) (fun h4 => ?_)
    · skip
      refine WP.region ?_
      refine RG.pv rfl (PV.mvI (.inr rfl) rfl) ?_
      refine RG.nil ?_
      refine WP.seq ?_
      refine WP.region ?_
      refine RG.pv rfl (PV.move rfl rfl) ?_
      refine RG.callF (vs := [_, _]) rfl rfl En80 rfl (CallT.exC (src b cv) (next_s hcode (by omega) (fun w31 hw31 => ?_)))
      refine RG.pv rfl (PV.sub rfl rfl rfl (by omega)) ?_
      refine RG.pv rfl (PV.move rfl rfl) ?_
      refine RG.callF (vs := [_, _]) rfl rfl En80 rfl (CallT.exC (src b cv) (next_s hcode (by omega) (fun w34 hw34 => ?_)))
      refine RG.pv rfl (PV.sub rfl rfl rfl (by omega)) ?_
      refine RG.pv rfl (PV.build (vs := [(0, [vi _]), (1, [vi _])]) (out := [_, _, _, _]) rfl Zr140 Pl140 ⟨rfl, (Cl.c rfl), ⟨rfl, (Cl.c rfl), trivial⟩⟩ rfl) ?_
      refine RG.ot rfl (OT.alloc rfl Zr140 fun b9 => ?_)
      refine RG.ot rfl (OT.storeW (vs := [vi _, vi _, vi _, vi _]) rfl Sz140 rfl rfl (Cl.c rfl) rfl rfl (OneC.c rfl) ?_)
      refine RG.nil ?_
      refine WP.cut1 [0, 5, 6, 7, 8, 9] (fun (x1 : Int) => -5 ≤ x1 ∧ x1 ≤ 10) (fun (x1 : Int) => []) (fun (x1 : Int) => blk b9 140 [vi (w31 - 5), vi (w34 - 5), vi x1, vi 0] :: osl 142 shapeT q ss :: src b cv :: L) ?_ ?_
      refine WP.regionHD [.b b9] (.q 0 (.q 3 (.q 4 (.b 1 (.q 2 (.l 5 (.q 6 (.q 7 (.l 8 Sch.nil))))) 5 (.l 1 (.q 2 (.q 6 (.q 7 (.l 8 Sch.nil))))))))) (by kernel_rfl) (by kernel_rfl) (by kernel_rfl) rfl ?_
      refine RH.pv rfl (fun _ _ _ _ h => h) (Gh.le_refl _) PickC.pick rfl (PV.field rfl Fo140_0 rfl) ?_
      refine RH.pv rfl (fun _ _ _ _ h => h) (Gh.le_refl _) PickC.pick rfl (PV.move rfl rfl) ?_
      refine RH.pv rfl (fun _ _ _ _ h => h) (Gh.le_refl _) PickC.pick rfl (PV.mvI (.inl rfl) rfl) ?_
      · refine RH.ot2 rfl rfl rfl rfl  (OT.pv (PV.load1 rfl Sc2 rfl (Rd.blk rfl)) ⟨Gh.le_refl _, PickC.pick, ?_⟩) (OT.callF (vs := [_, _]) rfl En80 rfl (CallT.exC (src b cv) (next_s hcode (by omega) (fun w42 hw42 => ⟨Gh.le_refl _, PickC.pick, ?_⟩))))
        · refine RH.pv rfl (fun _ _ _ _ h => h) (Gh.le_refl _) PickC.pick rfl (PV.add rfl rfl rfl (by omega)) ?_
          refine RH.ot rfl rfl (OT.callF (vs := [_, _]) rfl En80 rfl (CallT.exC (src b cv) (next_s hcode (by omega) (fun w42 hw42 => ⟨Gh.le_refl _, PickC.pick, ?_⟩))))
          refine RH.pv rfl (fun _ _ _ _ h => h) (Gh.le_refl _) PickC.pick rfl (PV.add rfl rfl rfl (by omega)) ?_
          refine RH.pv rfl (fun _ _ _ _ h => h) (Gh.le_refl _) PickC.pick rfl (PV.field rfl Fo140_2 rfl) ?_
          refine RH.ot rfl rfl (OT.storeB (vs := [vi _]) (cs' := [_, _, _, _]) rfl Sz2 rfl rfl (Cl.c rfl) rfl (OneC.c rfl) rfl rfl ⟨Gh.le_refl _, PickC.pick, ?_⟩)
          refine RH.nil ?_
          exact ⟨rfl, (w31 - 5 + 1 + w42), ⟨by omega, by omega⟩, trivial, ⟨rfl, rfl, rfl, rfl, rfl, rfl, trivial⟩, Cv.p⟩
        · refine RH.ot rfl rfl (OT.pv (PV.load1 rfl Sc2 rfl (Rd.blk rfl)) ⟨Gh.le_refl _, PickC.pick, ?_⟩)
          refine RH.pv rfl (fun _ _ _ _ h => h) (Gh.le_refl _) PickC.pick rfl (PV.add rfl rfl rfl (by omega)) ?_
          refine RH.pv rfl (fun _ _ _ _ h => h) (Gh.le_refl _) PickC.pick rfl (PV.add rfl rfl rfl (by omega)) ?_
          refine RH.pv rfl (fun _ _ _ _ h => h) (Gh.le_refl _) PickC.pick rfl (PV.field rfl Fo140_2 rfl) ?_
          refine RH.ot rfl rfl (OT.storeB (vs := [vi _]) (cs' := [_, _, _, _]) rfl Sz2 rfl rfl (Cl.c rfl) rfl (OneC.c rfl) rfl rfl ⟨Gh.le_refl _, PickC.pick, ?_⟩)
          refine RH.nil ?_
          exact ⟨rfl, (w31 - 5 + 1 + w42), ⟨by omega, by omega⟩, trivial, ⟨rfl, rfl, rfl, rfl, rfl, rfl, trivial⟩, Cv.p⟩
      rintro x1 τ2 hx1
      refine WP.cut1 [0, 5, 6, 7, 9] (fun (y1 : Int) => -5 ≤ y1 ∧ y1 ≤ 10) (fun (y1 : Int) => []) (fun (y1 : Int) => blk b9 140 (rectT.enc ⟨w31 - 5, w34 - 5, x1, y1⟩) :: osl 142 shapeT q ss :: src b cv :: L) ?_ ?_
      refine WP.regionHD [.b b9] (.q 0 (.q 3 (.q 4 (.b 1 (.q 2 (.l 5 (.q 6 (.q 7 (.l 8 Sch.nil))))) 5 (.l 1 (.q 2 (.q 6 (.q 7 (.l 8 Sch.nil))))))))) (by kernel_rfl) (by kernel_rfl) (by kernel_rfl) rfl ?_
      refine RH.pv rfl (fun _ _ _ _ h => h) (Gh.le_refl _) PickC.pick rfl (PV.field rfl Fo140_1 rfl) ?_
      refine RH.pv rfl (fun _ _ _ _ h => h) (Gh.le_refl _) PickC.pick rfl (PV.move rfl rfl) ?_
      refine RH.pv rfl (fun _ _ _ _ h => h) (Gh.le_refl _) PickC.pick rfl (PV.mvI (.inl rfl) rfl) ?_
      · refine RH.ot2 rfl rfl rfl rfl  (OT.pv (PV.load1 rfl Sc2 rfl (Rd.blk rfl)) ⟨Gh.le_refl _, PickC.pick, ?_⟩) (OT.callF (vs := [_, _]) rfl En80 rfl (CallT.exC (src b cv) (next_s hcode (by omega) (fun w50 hw50 => ⟨Gh.le_refl _, PickC.pick, ?_⟩))))
        · refine RH.pv rfl (fun _ _ _ _ h => h) (Gh.le_refl _) PickC.pick rfl (PV.add rfl rfl rfl (by omega)) ?_
          refine RH.ot rfl rfl (OT.callF (vs := [_, _]) rfl En80 rfl (CallT.exC (src b cv) (next_s hcode (by omega) (fun w50 hw50 => ⟨Gh.le_refl _, PickC.pick, ?_⟩))))
          refine RH.pv rfl (fun _ _ _ _ h => h) (Gh.le_refl _) PickC.pick rfl (PV.add rfl rfl rfl (by omega)) ?_
          refine RH.pv rfl (fun _ _ _ _ h => h) (Gh.le_refl _) PickC.pick rfl (PV.field rfl Fo140_3 rfl) ?_
          refine RH.ot rfl rfl (OT.storeB (vs := [vi _]) (cs' := [_, _, _, _]) rfl Sz2 rfl rfl (Cl.c rfl) rfl (OneC.c rfl) rfl rfl ⟨Gh.le_refl _, PickC.pick, ?_⟩)
          refine RH.nil ?_
          exact ⟨rfl, (w34 - 5 + 1 + w50), ⟨by omega, by omega⟩, trivial, ⟨rfl, rfl, rfl, rfl, rfl, trivial⟩, Cv.p⟩
        · refine RH.ot rfl rfl (OT.pv (PV.load1 rfl Sc2 rfl (Rd.blk rfl)) ⟨Gh.le_refl _, PickC.pick, ?_⟩)
          refine RH.pv rfl (fun _ _ _ _ h => h) (Gh.le_refl _) PickC.pick rfl (PV.add rfl rfl rfl (by omega)) ?_
          refine RH.pv rfl (fun _ _ _ _ h => h) (Gh.le_refl _) PickC.pick rfl (PV.add rfl rfl rfl (by omega)) ?_
          refine RH.pv rfl (fun _ _ _ _ h => h) (Gh.le_refl _) PickC.pick rfl (PV.field rfl Fo140_3 rfl) ?_
          refine RH.ot rfl rfl (OT.storeB (vs := [vi _]) (cs' := [_, _, _, _]) rfl Sz2 rfl rfl (Cl.c rfl) rfl (OneC.c rfl) rfl rfl ⟨Gh.le_refl _, PickC.pick, ?_⟩)
          refine RH.nil ?_
          exact ⟨rfl, (w34 - 5 + 1 + w50), ⟨by omega, by omega⟩, trivial, ⟨rfl, rfl, rfl, rfl, rfl, trivial⟩, Cv.p⟩
      rintro y1 τ3 hy1
      refine WP.region ?_
      refine RG.pv rfl (PV.move (v := q) rfl rfl) ?_
      refine RG.pv rfl (PV.mvI (.inl rfl) rfl) ?_
      refine RG.pv rfl (PV.loadW rfl Ag140 rfl rfl) ?_
      refine RG.pv rfl (PV.build (vs := [(0, [vi _]), (1, [vi _, vi _, vi _, vi _])]) (out := [_, _, _, _, _]) rfl Zr142 Pl142 ⟨rfl, (Cl.c rfl), ⟨rfl, (Cl.c rfl), trivial⟩⟩ rfl) ?_
      refine RG.ot rfl (OT.bslice (F := shapeT) (els := [⟨gd [0, 1, 2, 3, 3, 4, 5, (3 : Int)] w21.toNat, ⟨w31 - 5, w34 - 5, x1, y1⟩⟩]) rfl El83 rfl (by decide) rfl (by decide) ⟨rfl, (Cl.c rfl), trivial⟩ fun v57 => ?_)
      refine RG.ot rfl (OT.append (v := q) (u := v57) (F := shapeT) rfl El83 rfl (by decide) rfl rfl Rs.o (OneL.c (fun _ => rfl)) rfl (by first | omega | (simp <;> omega)) fun v58 => ?_)
      refine RG.pv rfl (PV.asg (v := v58) rfl rfl) ?_
      refine RG.nil ?_
      refine WP.region ?_
      refine RG.pv rfl (PV.mvI (.inl rfl) rfl) ?_
      refine RG.pv rfl (PV.sub rfl rfl rfl (by omega)) ?_
      refine RG.pv rfl (PV.mvI (.inr rfl) rfl) ?_
      refine RG.nil ?_
      exact ⟨rfl, c - 1, (ss ++ [⟨gd [0, 1, 2, 3, 3, 4, 5, (3 : Int)] w21.toNat, ⟨w31 - 5, w34 - 5, x1, y1⟩⟩]), v58, ⟨by omega, by omega, by rw [List.length_append]; simp; omega⟩, ⟨rfl, rfl, trivial⟩, ⟨rfl, trivial⟩, Cv.p, by omega⟩
    · skip
      refine WP.skip ?_
      refine WP.seq ?_
      refine WP.region ?_
      refine RG.pv rfl (PV.move rfl rfl) ?_
      refine RG.callF (vs := [_, _]) rfl rfl En80 rfl (CallT.exC (src b cv) (next_s hcode (by omega) (fun w31 hw31 => ?_)))
      refine RG.pv rfl (PV.sub rfl rfl rfl (by omega)) ?_
      refine RG.pv rfl (PV.move rfl rfl) ?_
      refine RG.callF (vs := [_, _]) rfl rfl En80 rfl (CallT.exC (src b cv) (next_s hcode (by omega) (fun w34 hw34 => ?_)))
      refine RG.pv rfl (PV.sub rfl rfl rfl (by omega)) ?_
      refine RG.pv rfl (PV.build (vs := [(0, [vi _]), (1, [vi _])]) (out := [_, _, _, _]) rfl Zr140 Pl140 ⟨rfl, (Cl.c rfl), ⟨rfl, (Cl.c rfl), trivial⟩⟩ rfl) ?_
      refine RG.ot rfl (OT.alloc rfl Zr140 fun b9 => ?_)
      refine RG.ot rfl (OT.storeW (vs := [vi _, vi _, vi _, vi _]) rfl Sz140 rfl rfl (Cl.c rfl) rfl rfl (OneC.c rfl) ?_)
      refine RG.nil ?_
      refine WP.cut1 [0, 5, 6, 7, 8, 9] (fun (x1 : Int) => -5 ≤ x1 ∧ x1 ≤ 10) (fun (x1 : Int) => []) (fun (x1 : Int) => blk b9 140 [vi (w31 - 5), vi (w34 - 5), vi x1, vi 0] :: osl 142 shapeT q ss :: src b cv :: L) ?_ ?_
      refine WP.regionHD [.b b9] (.q 0 (.q 3 (.q 4 (.b 1 (.q 2 (.l 5 (.q 6 (.q 7 (.l 8 Sch.nil))))) 5 (.l 1 (.q 2 (.q 6 (.q 7 (.l 8 Sch.nil))))))))) (by kernel_rfl) (by kernel_rfl) (by kernel_rfl) rfl ?_
      refine RH.pv rfl (fun _ _ _ _ h => h) (Gh.le_refl _) PickC.pick rfl (PV.field rfl Fo140_0 rfl) ?_
      refine RH.pv rfl (fun _ _ _ _ h => h) (Gh.le_refl _) PickC.pick rfl (PV.move rfl rfl) ?_
      refine RH.pv rfl (fun _ _ _ _ h => h) (Gh.le_refl _) PickC.pick rfl (PV.mvI (.inl rfl) rfl) ?_
      · refine RH.ot2 rfl rfl rfl rfl  (OT.pv (PV.load1 rfl Sc2 rfl (Rd.blk rfl)) ⟨Gh.le_refl _, PickC.pick, ?_⟩) (OT.callF (vs := [_, _]) rfl En80 rfl (CallT.exC (src b cv) (next_s hcode (by omega) (fun w42 hw42 => ⟨Gh.le_refl _, PickC.pick, ?_⟩))))
        · refine RH.pv rfl (fun _ _ _ _ h => h) (Gh.le_refl _) PickC.pick rfl (PV.add rfl rfl rfl (by omega)) ?_
          refine RH.ot rfl rfl (OT.callF (vs := [_, _]) rfl En80 rfl (CallT.exC (src b cv) (next_s hcode (by omega) (fun w42 hw42 => ⟨Gh.le_refl _, PickC.pick, ?_⟩))))
          refine RH.pv rfl (fun _ _ _ _ h => h) (Gh.le_refl _) PickC.pick rfl (PV.add rfl rfl rfl (by omega)) ?_
          refine RH.pv rfl (fun _ _ _ _ h => h) (Gh.le_refl _) PickC.pick rfl (PV.field rfl Fo140_2 rfl) ?_
          refine RH.ot rfl rfl (OT.storeB (vs := [vi _]) (cs' := [_, _, _, _]) rfl Sz2 rfl rfl (Cl.c rfl) rfl (OneC.c rfl) rfl rfl ⟨Gh.le_refl _, PickC.pick, ?_⟩)
          refine RH.nil ?_
          exact ⟨rfl, (w31 - 5 + 1 + w42), ⟨by omega, by omega⟩, trivial, ⟨rfl, rfl, rfl, rfl, rfl, rfl, trivial⟩, Cv.p⟩
        · refine RH.ot rfl rfl (OT.pv (PV.load1 rfl Sc2 rfl (Rd.blk rfl)) ⟨Gh.le_refl _, PickC.pick, ?_⟩)
          refine RH.pv rfl (fun _ _ _ _ h => h) (Gh.le_refl _) PickC.pick rfl (PV.add rfl rfl rfl (by omega)) ?_
          refine RH.pv rfl (fun _ _ _ _ h => h) (Gh.le_refl _) PickC.pick rfl (PV.add rfl rfl rfl (by omega)) ?_
          refine RH.pv rfl (fun _ _ _ _ h => h) (Gh.le_refl _) PickC.pick rfl (PV.field rfl Fo140_2 rfl) ?_
          refine RH.ot rfl rfl (OT.storeB (vs := [vi _]) (cs' := [_, _, _, _]) rfl Sz2 rfl rfl (Cl.c rfl) rfl (OneC.c rfl) rfl rfl ⟨Gh.le_refl _, PickC.pick, ?_⟩)
          refine RH.nil ?_
          exact ⟨rfl, (w31 - 5 + 1 + w42), ⟨by omega, by omega⟩, trivial, ⟨rfl, rfl, rfl, rfl, rfl, rfl, trivial⟩, Cv.p⟩
      rintro x1 τ2 hx1
      refine WP.cut1 [0, 5, 6, 7, 9] (fun (y1 : Int) => -5 ≤ y1 ∧ y1 ≤ 10) (fun (y1 : Int) => []) (fun (y1 : Int) => blk b9 140 (rectT.enc ⟨w31 - 5, w34 - 5, x1, y1⟩) :: osl 142 shapeT q ss :: src b cv :: L) ?_ ?_
      refine WP.regionHD [.b b9] (.q 0 (.q 3 (.q 4 (.b 1 (.q 2 (.l 5 (.q 6 (.q 7 (.l 8 Sch.nil))))) 5 (.l 1 (.q 2 (.q 6 (.q 7 (.l 8 Sch.nil))))))))) (by kernel_rfl) (by kernel_rfl) (by kernel_rfl) rfl ?_
      refine RH.pv rfl (fun _ _ _ _ h => h) (Gh.le_refl _) PickC.pick rfl (PV.field rfl Fo140_1 rfl) ?_
      refine RH.pv rfl (fun _ _ _ _ h => h) (Gh.le_refl _) PickC.pick rfl (PV.move rfl rfl) ?_
      refine RH.pv rfl (fun _ _ _ _ h => h) (Gh.le_refl _) PickC.pick rfl (PV.mvI (.inl rfl) rfl) ?_
      · refine RH.ot2 rfl rfl rfl rfl  (OT.pv (PV.load1 rfl Sc2 rfl (Rd.blk rfl)) ⟨Gh.le_refl _, PickC.pick, ?_⟩) (OT.callF (vs := [_, _]) rfl En80 rfl (CallT.exC (src b cv) (next_s hcode (by omega) (fun w50 hw50 => ⟨Gh.le_refl _, PickC.pick, ?_⟩))))
        · refine RH.pv rfl (fun _ _ _ _ h => h) (Gh.le_refl _) PickC.pick rfl (PV.add rfl rfl rfl (by omega)) ?_
          refine RH.ot rfl rfl (OT.callF (vs := [_, _]) rfl En80 rfl (CallT.exC (src b cv) (next_s hcode (by omega) (fun w50 hw50 => ⟨Gh.le_refl _, PickC.pick, ?_⟩))))
          refine RH.pv rfl (fun _ _ _ _ h => h) (Gh.le_refl _) PickC.pick rfl (PV.add rfl rfl rfl (by omega)) ?_
          refine RH.pv rfl (fun _ _ _ _ h => h) (Gh.le_refl _) PickC.pick rfl (PV.field rfl Fo140_3 rfl) ?_
          refine RH.ot rfl rfl (OT.storeB (vs := [vi _]) (cs' := [_, _, _, _]) rfl Sz2 rfl rfl (Cl.c rfl) rfl (OneC.c rfl) rfl rfl ⟨Gh.le_refl _, PickC.pick, ?_⟩)
          refine RH.nil ?_
          exact ⟨rfl, (w34 - 5 + 1 + w50), ⟨by omega, by omega⟩, trivial, ⟨rfl, rfl, rfl, rfl, rfl, trivial⟩, Cv.p⟩
        · refine RH.ot rfl rfl (OT.pv (PV.load1 rfl Sc2 rfl (Rd.blk rfl)) ⟨Gh.le_refl _, PickC.pick, ?_⟩)
          refine RH.pv rfl (fun _ _ _ _ h => h) (Gh.le_refl _) PickC.pick rfl (PV.add rfl rfl rfl (by omega)) ?_
          refine RH.pv rfl (fun _ _ _ _ h => h) (Gh.le_refl _) PickC.pick rfl (PV.add rfl rfl rfl (by omega)) ?_
          refine RH.pv rfl (fun _ _ _ _ h => h) (Gh.le_refl _) PickC.pick rfl (PV.field rfl Fo140_3 rfl) ?_
          refine RH.ot rfl rfl (OT.storeB (vs := [vi _]) (cs' := [_, _, _, _]) rfl Sz2 rfl rfl (Cl.c rfl) rfl (OneC.c rfl) rfl rfl ⟨Gh.le_refl _, PickC.pick, ?_⟩)
          refine RH.nil ?_
          exact ⟨rfl, (w34 - 5 + 1 + w50), ⟨by omega, by omega⟩, trivial, ⟨rfl, rfl, rfl, rfl, rfl, trivial⟩, Cv.p⟩
      rintro y1 τ3 hy1
      refine WP.region ?_
      refine RG.pv rfl (PV.move (v := q) rfl rfl) ?_
      refine RG.pv rfl (PV.mvI (.inl rfl) rfl) ?_
      refine RG.pv rfl (PV.loadW rfl Ag140 rfl rfl) ?_
      refine RG.pv rfl (PV.build (vs := [(0, [vi _]), (1, [vi _, vi _, vi _, vi _])]) (out := [_, _, _, _, _]) rfl Zr142 Pl142 ⟨rfl, (Cl.c rfl), ⟨rfl, (Cl.c rfl), trivial⟩⟩ rfl) ?_
      refine RG.ot rfl (OT.bslice (F := shapeT) (els := [⟨gd [0, 1, 2, 3, 3, 4, 5, (3 : Int)] w21.toNat, ⟨w31 - 5, w34 - 5, x1, y1⟩⟩]) rfl El83 rfl (by decide) rfl (by decide) ⟨rfl, (Cl.c rfl), trivial⟩ fun v57 => ?_)
      refine RG.ot rfl (OT.append (v := q) (u := v57) (F := shapeT) rfl El83 rfl (by decide) rfl rfl Rs.o (OneL.c (fun _ => rfl)) rfl (by first | omega | (simp <;> omega)) fun v58 => ?_)
      refine RG.pv rfl (PV.asg (v := v58) rfl rfl) ?_
      refine RG.nil ?_
      refine WP.region ?_
      refine RG.pv rfl (PV.mvI (.inl rfl) rfl) ?_
      refine RG.pv rfl (PV.sub rfl rfl rfl (by omega)) ?_
      refine RG.pv rfl (PV.mvI (.inr rfl) rfl) ?_
      refine RG.nil ?_
      exact ⟨rfl, c - 1, (ss ++ [⟨gd [0, 1, 2, 3, 3, 4, 5, (3 : Int)] w21.toNat, ⟨w31 - 5, w34 - 5, x1, y1⟩⟩]), v58, ⟨by omega, by omega, by rw [List.length_append]; simp; omega⟩, ⟨rfl, rfl, trivial⟩, ⟨rfl, trivial⟩, Cv.p, by omega⟩
  · refine WP.exit ?_
    refine WP.seq ?_
    refine WP.region ?_
    refine RG.pv rfl (PV.move (v := q) rfl rfl) ?_
    refine RG.pv rfl (PV.asg (v := q) rfl rfl) ?_
    refine RG.nil ?_
    refine WP.ret ?_
    exact ⟨_, _, ResV.one rfl rfl, Cv.p, k q ss (by omega)⟩
theorem dInst_s {b : Nat} {cv : Value} {bs : List UInt8} {n : Int} (hcode : SL G byteT cv bs) (hn : 0 ≤ n ∧ n ≤ 100) (k : ∀ i : Inst, R (vT instT i) G (src b cv :: L)) : CallT Tryz.prog 130 #[.pointer (some ⟨b, 0, none⟩), vi n] G (src b cv :: L) R := by
  refine CallT.enter (args := _) Tryz.func130 rfl rfl (by kernel_rfl) rfl ?_
  refine WP.seq ?_
  refine WP.region ?_
  refine RG.ot rfl (OT.alloc rfl Zr195 fun b4 => ?_)
  refine RG.nil ?_
  refine WP.seq ?_
  refine WP.region ?_
  refine RG.pv rfl (PV.move rfl rfl) ?_
  refine RG.pv rfl (PV.mvI (.inl rfl) rfl) ?_
  refine RG.callF (vs := [_, _]) rfl rfl En80 rfl (CallT.exC (src b cv) (next_s hcode (by omega) (fun w8 hw8 => ?_)))
  refine RG.pv rfl (PV.build (vs := [(0, [vi _]), (2, [vi _]), (3, [vi _])]) (out := [_, _, _, _, _, _, _, _]) rfl Zr195 Pl195 ⟨rfl, (Cl.c rfl), ⟨rfl, (Cl.c rfl), ⟨rfl, (Cl.c rfl), trivial⟩⟩⟩ rfl) ?_
  refine RG.ot rfl (OT.alloc rfl Zr195 fun b5 => ?_)
  refine RG.ot rfl (OT.storeW (vs := [vi _, vi _, vi _, vi _, vi _, vi _, vi _, vi _]) rfl Sz195 rfl rfl (Cl.c rfl) rfl rfl (OneC.c rfl) ?_)
  refine RG.nil ?_
  refine WP.seq ?_
  refine WP.region ?_
  refine RG.pv rfl (PV.move rfl rfl) ?_
  refine RG.callF (vs := [_, _]) rfl rfl En80 rfl (CallT.exC (src b cv) (next_s hcode (by omega) (fun w11 hw11 => ?_)))
  refine RG.pv rfl (PV.move rfl rfl) ?_
  refine RG.callF (vs := [_, _]) rfl rfl En80 rfl (CallT.exC (src b cv) (next_s hcode (by omega) (fun w13 hw13 => ?_)))
  refine RG.pv rfl (PV.sub rfl rfl rfl (by omega)) ?_
  refine RG.pv rfl (PV.move rfl rfl) ?_
  refine RG.callF (vs := [_, _]) rfl rfl En80 rfl (CallT.exC (src b cv) (next_s hcode (by omega) (fun w16 hw16 => ?_)))
  refine RG.pv rfl (PV.sub rfl rfl rfl (by omega)) ?_
  refine RG.pv rfl (PV.build (vs := [(0, [vi _]), (1, [vi _]), (2, [vi _])]) (out := [_, _, _]) rfl Zr136 Pl136 ⟨rfl, (Cl.c rfl), ⟨rfl, (Cl.c rfl), ⟨rfl, (Cl.c rfl), trivial⟩⟩⟩ rfl) ?_
  refine RG.pv rfl (PV.field rfl Fo195_1 rfl) ?_
  refine RG.ot rfl (OT.storeB (vs := [vi _, vi _, vi _]) (cs' := [_, _, _, _, _, _, _, _]) rfl Sz136 rfl rfl (Cl.c rfl) rfl (OneC.c rfl) rfl rfl ?_)
  refine RG.nil ?_
  refine WP.cut1 [0, 4, 5] (fun (x : Inst) => True) (fun (x : Inst) => []) (fun (x : Inst) => blk b5 195 (instT.enc x) :: src b cv :: blk b4 195 [vi 0, vi 0, vi 0, vi 0, vi 0, vi 0, vi 0, vi 0] :: L) ?_ ?_
  refine WP.seq ?_
  refine WP.region ?_
  refine RG.pv rfl (PV.move rfl rfl) ?_
  refine RG.callF (vs := [_, _]) rfl rfl En80 rfl (CallT.exC (src b cv) (next_s hcode (by omega) (fun w21 hw21 => ?_)))
  refine RG.pv rfl (PV.eql rfl rfl rfl) ?_
  refine RG.nil ?_
  · refine WP.cond rfl (fun h2 => ?_) (fun h2 => ?_)
    · refine WP.seq ?_
      refine WP.region ?_
      refine RG.pv rfl (PV.field rfl Fo195_2 rfl) ?_
      refine RG.ot rfl (OT.storeB (vs := [vi _]) (cs' := [_, _, _, _, _, _, _, _]) rfl Sz2 rfl rfl (Cl.c rfl) rfl (OneC.c rfl) rfl rfl ?_)
      refine RG.nil ?_
      refine WP.region ?_
      refine RG.pv rfl (PV.move rfl rfl) ?_
      refine RG.callF (vs := [_, _]) rfl rfl En80 rfl (CallT.exC (src b cv) (next_s hcode (by omega) (fun w25 hw25 => ?_)))
      refine RG.pv rfl (PV.sub rfl rfl rfl (by omega)) ?_
      refine RG.pv rfl (PV.field rfl Fo195_4 rfl) ?_
      refine RG.ot rfl (OT.storeB (vs := [vi _]) (cs' := [_, _, _, _, _, _, _, _]) rfl Sz2 rfl rfl (Cl.c rfl) rfl (OneC.c rfl) rfl rfl ?_)
      refine RG.nil ?_
      exact ⟨rfl, ⟨w8, ⟨w11, w13 - 8, w16 - 8⟩, 2, 1, w25 - 2, 0⟩, trivial, trivial, ⟨rfl, rfl, rfl, trivial⟩, Cv.p⟩
    · refine WP.skip ?_
      exact ⟨rfl, ⟨w8, ⟨w11, w13 - 8, w16 - 8⟩, 1, 1, 0, 0⟩, trivial, trivial, ⟨rfl, rfl, rfl, trivial⟩, Cv.p⟩
  rintro x τ1 _
  refine WP.cut1 [4, 5] (fun (x : Inst) => True) (fun (x : Inst) => []) (fun (x : Inst) => blk b5 195 (instT.enc x) :: src b cv :: blk b4 195 [vi 0, vi 0, vi 0, vi 0, vi 0, vi 0, vi 0, vi 0] :: L) ?_ ?_
  refine WP.seq ?_
  refine WP.region ?_
  refine RG.pv rfl (PV.move rfl rfl) ?_
  refine RG.callF (vs := [_, _]) rfl rfl En80 rfl (CallT.exC (src b cv) (next_s hcode (by omega) (fun w29 hw29 => ?_)))
  refine RG.pv rfl (PV.eql rfl rfl rfl) ?_
  refine RG.nil ?_
  · refine WP.cond rfl (fun h3 => ?_) (fun h3 => ?_)
    · refine WP.seq ?_
      refine WP.region ?_
      refine RG.pv rfl (PV.field rfl Fo195_3 rfl) ?_
      refine RG.ot rfl (OT.storeB (vs := [vi _]) (cs' := [_, _, _, _, _, _, _, _]) rfl Sz2 rfl rfl (Cl.c rfl) rfl (OneC.c rfl) rfl rfl ?_)
      refine RG.nil ?_
      refine WP.region ?_
      refine RG.pv rfl (PV.move rfl rfl) ?_
      refine RG.callF (vs := [_, _]) rfl rfl En80 rfl (CallT.exC (src b cv) (next_s hcode (by omega) (fun w33 hw33 => ?_)))
      refine RG.pv rfl (PV.add rfl rfl rfl (by omega)) ?_
      refine RG.pv rfl (PV.field rfl Fo195_5 rfl) ?_
      refine RG.ot rfl (OT.storeB (vs := [vi _]) (cs' := [_, _, _, _, _, _, _, _]) rfl Sz2 rfl rfl (Cl.c rfl) rfl (OneC.c rfl) rfl rfl ?_)
      refine RG.nil ?_
      exact ⟨rfl, ⟨x.cell, x.place, x.cols, 2, x.sx, 3 + w33⟩, trivial, trivial, ⟨rfl, rfl, trivial⟩, Cv.p⟩
    · refine WP.skip ?_
      exact ⟨rfl, x, trivial, trivial, ⟨rfl, rfl, trivial⟩, Cv.p⟩
  rintro x τ2 _
  refine WP.seq ?_
  refine WP.region ?_
  refine RG.pv rfl (PV.loadW rfl Ag195 rfl rfl) ?_
  refine RG.ot rfl (OT.storeW (vs := [vi _, vi _, vi _, vi _, vi _, vi _, vi _, vi _]) rfl Sz195 rfl rfl (Cl.c rfl) rfl rfl (OneC.c rfl) ?_)
  refine RG.nil ?_
  refine WP.ret ?_
  exact ⟨_, _, ResV.one rfl (RV1.cell rfl Ag195 rfl), Cv.p, k _⟩
abbrev nmW : List ByteArray := [ByteArray.mk #[119, 105, 114, 101], ByteArray.mk #[112, 97, 105, 114], ByteArray.mk #[116, 111, 112]]
/-- drawn cells: short names, no labels, few shapes -/
def CellOk (c : Cell) : Prop := c.name.size ≤ 9 ∧ c.labels.xs = [] ∧ c.shapes.xs.length ≤ 101
def CellsOk (xs : List Cell) : Prop := ∀ i, i < xs.length → CellOk (gd xs i)
theorem CellsOk.app {xs : List Cell} {c : Cell} (h : CellsOk xs) (hc : CellOk c) : CellsOk (xs ++ [c]) := fun i hi => by
  have hi : i < xs.length + 1 := by simpa using hi
  by_cases e : i = xs.length
  · subst e; rw [gd_app_r]; exact hc
  · rw [gd_app_l (by omega)]; exact h i (by omega)
/-- .. without the bound of the shapes -/
def CellsL (xs : List Cell) : Prop := ∀ i, i < xs.length → (gd xs i).name.size ≤ 9 ∧ (gd xs i).labels.xs = []
theorem CellsOk.l {xs : List Cell} (h : CellsOk xs) : CellsL xs := fun i hi => ⟨(h i hi).1, (h i hi).2.1⟩
theorem CellsL.set {xs : List Cell} {c : Cell} {i : Nat} (h : CellsL xs) (hc : c.name.size ≤ 9 ∧ c.labels.xs = []) : CellsL (xs.set i c) := fun j hj => by
  have hj2 : j < xs.length := by simpa using hj
  by_cases e : j = i
  · subst e
    have e2 : gd (xs.set j c) j = c := by simp [gd, List.getElem?_set, hj2]
    rw [e2]; exact hc
  · have := h j hj2
    simpa [gd, List.getElem?_set, Ne.symm e] using this
theorem CellsL.lenC {xs : List Cell} (h : CellsL xs) : Go.Proofs.YthhjapiggekjbaaGreat.lenC (erCls xs) := fun i hi => by
  have hi : i < xs.length := by rwa [erCls_len] at hi
  have e : gd (erCls xs) i = erCl (gd xs i) := by rw [erCls, gd_map _ hi]
  obtain ⟨h1, h2⟩ := h i hi
  rw [e]
  refine ⟨by simp only [erCl]; omega, ?_⟩
  simp only [erCl, h2]
  intro j hj; simp at hj
theorem nmW_ok {i : Nat} (h : i < 3) : (gd nmW i).size ≤ 9 := by
  have key : ∀ b ∈ nmW, b.size ≤ 9 := by decide
  exact key _ (gd_mem h)
theorem Cv.cellNew {xs : List Cell} {q a1 a2 : Value} {nm : ByteArray} {s1 : List Shape} {s2 : List Inst} {e0 e1 e2 e3 : TypeId} : Cv (osl e1 shapeT a1 s1 :: osl e3 instT a2 s2 :: osl e0 cellT q (xs ++ [⟨nm, ⟨a1, s1⟩, ⟨.slice none 0 0, []⟩, ⟨a2, s2⟩⟩]) :: bagS e1 shapeT (shs xs) :: bagS e2 labelT (lbs xs) :: bagS e3 instT (ins xs) :: L)
    (osl e0 cellT q (xs ++ [⟨nm, ⟨a1, s1⟩, ⟨.slice none 0 0, []⟩, ⟨a2, s2⟩⟩]) :: bagS e1 shapeT (shs (xs ++ [⟨nm, ⟨a1, s1⟩, ⟨.slice none 0 0, []⟩, ⟨a2, s2⟩⟩])) :: bagS e2 labelT (lbs (xs ++ [⟨nm, ⟨a1, s1⟩, ⟨.slice none 0 0, []⟩, ⟨a2, s2⟩⟩])) :: bagS e3 instT (ins (xs ++ [⟨nm, ⟨a1, s1⟩, ⟨.slice none 0 0, []⟩, ⟨a2, s2⟩⟩])) :: L) := by
  have h := Cv.grow3 (e1 := e1) (e2 := e2) (e3 := e3) (F1 := shapeT) (F2 := labelT) (F3 := instT) (u1 := a1) (us1 := s1) (u2 := .slice none 0 0) (us2 := []) (u3 := a2) (us3 := s2) (y1 := shs xs) (y2 := lbs xs) (y3 := ins xs) (L := L)
    (y1' := shs (xs ++ [⟨nm, ⟨a1, s1⟩, ⟨.slice none 0 0, []⟩, ⟨a2, s2⟩⟩])) (y2' := lbs (xs ++ [⟨nm, ⟨a1, s1⟩, ⟨.slice none 0 0, []⟩, ⟨a2, s2⟩⟩])) (y3' := ins (xs ++ [⟨nm, ⟨a1, s1⟩, ⟨.slice none 0 0, []⟩, ⟨a2, s2⟩⟩])) (by simp [shs]) (by simp [lbs]) (by simp [ins])
  refine (Cv.p (C := osl e0 cellT q (xs ++ [⟨nm, ⟨a1, s1⟩, ⟨.slice none 0 0, []⟩, ⟨a2, s2⟩⟩]) :: osl e1 shapeT a1 s1 :: osl e3 instT a2 s2 :: bagS e1 shapeT (shs xs) :: bagS e2 labelT (lbs xs) :: bagS e3 instT (ins xs) :: L)).trans (Cv.cons ?_)
  refine Cv.trans ?_ h
  exact (Cv.nilS (e := e2) (F := labelT)).trans Cv.p
theorem map_set_same {α β : Type} [Inhabited α] {f : α → β} {xs : List α} {i : Nat} {c : α} (hi : i < xs.length) (h : f c = f (gd xs i)) : (xs.set i c).map f = xs.map f := by
  rw [List.map_set, h]
  apply List.ext_getElem?
  intro j
  rw [List.getElem?_set]
  by_cases e : i = j
  · subst e; simp [gd, hi]
  · simp [e]
theorem flat_set_same {α : Type} [Inhabited α] {F : FT α} {xs : List α} {i : Nat} {c : α} (hi : i < xs.length) (h : F.enc c = F.enc (gd xs i)) : F.flat (xs.set i c) = F.flat xs := by
  have e : ∀ zs : List α, F.flat zs = (zs.map F.enc).flatten := fun zs => by rw [FT.flat, List.flatMap_def]
  rw [e, e, map_set_same hi h]
theorem osl_set_same {α : Type} [Inhabited α] {F : FT α} {e : TypeId} {v : Value} {xs : List α} {i : Nat} {c : α} (hi : i < xs.length) (h : F.enc c = F.enc (gd xs i)) : osl e F v (xs.set i c) = osl e F v xs := by
  funext hp
  have h1 : xs ≠ [] := fun h => by rw [h] at hi; simp at hi
  simp only [osl, List.length_set, flat_set_same hi h, List.set_eq_nil_iff, h1]
theorem Cv.slotC {e e' : TypeId} {v : Value} {zs : List Cell} {ys : List Inst} {L : List Ch} (i : Nat) (hi : i < zs.length) :
    Cv (osl e instT (gd zs i).insts.v ys :: bag (((ins zs).map (ownS e instT)).set i emp) :: osl e' cellT v zs :: L) (bagS e instT (ins (zs.set i ⟨(gd zs i).name, (gd zs i).shapes, (gd zs i).labels, ⟨(gd zs i).insts.v, ys⟩⟩)) :: osl e' cellT v (zs.set i ⟨(gd zs i).name, (gd zs i).shapes, (gd zs i).labels, ⟨(gd zs i).insts.v, ys⟩⟩) :: L) := by
  refine (Cv.bagS_put i (by simpa [ins] using hi)).trans (Cv.cast ?_)
  rw [osl_set_same (c := ⟨(gd zs i).name, (gd zs i).shapes, (gd zs i).labels, ⟨(gd zs i).insts.v, ys⟩⟩) hi rfl]
  congr 2
  rw [ins, ins, List.map_set]
theorem WP.isl {α : Type} {P : Program} {n : Nat} {c : Code} {Q : Post} {σ : Nat → Value} {G : Gh} {L L' : List Ch} {e : TypeId} {T : FT α} (v : Value) {xs : List α} [hx : ExS v L α e T xs L'] (k : IsSl v xs.length → WP P n c Q σ G L) : WP P n c Q σ G L :=
  WP.of fun hk a w ha hs => (k (SlF.o (hx := hx) w hs)).run hk ha hs
theorem dLib_s {b : Nat} {cv : Value} {bs : List UInt8} (hcode : SL G byteT cv bs) (k : ∀ v xs, CellsL xs → 2 ≤ xs.length → xs.length ≤ 3 → R (vT libT ⟨⟨v, xs⟩⟩) G (osl 116 cellT v (xs) :: bagS 142 shapeT (shs (xs)) :: bagS 193 labelT (lbs (xs)) :: bagS 195 instT (ins (xs)) :: src b cv :: L)) : CallT Tryz.prog 79 #[.pointer (some ⟨b, 0, none⟩)] G (src b cv :: L) R := by
  have hl3 : nmW.length = 3 := rfl
  refine CallT.enter (args := _) Tryz.func79 rfl rfl (by kernel_rfl) rfl ?_
  refine WP.seq ?_
  refine WP.region ?_
  refine RG.ot rfl (OT.alloc rfl Zr31 fun b2 => ?_)
  refine RG.nil ?_
  refine WP.seq ?_
  refine WP.region ?_
  refine RG.pv rfl (PV.build (vs := []) (out := [_]) rfl Zr31 Pl31 trivial rfl) ?_
  refine RG.ot rfl (OT.alloc rfl Zr31 fun b3 => ?_)
  refine RG.ot rfl (OT.storeW (vs := [_]) rfl Sz31 rfl rfl (Cl.c rfl) rfl rfl (OneC.c rfl) ?_)
  refine RG.nil ?_
  refine WP.seq ?_
  refine WP.region ?_
  refine RG.ot rfl (OT.bslice (F := strT) (els := [_, _, _]) rfl El203 rfl (by decide) rfl (by decide) ⟨rfl, (Cl.c rfl), ⟨rfl, (Cl.c rfl), ⟨rfl, (Cl.c rfl), trivial⟩⟩⟩ fun v10 => ?_)
  refine RG.pv rfl (PV.asg (v := v10) rfl rfl) ?_
  refine RG.nil ?_
  refine WP.seq ?_
  refine WP.region ?_
  refine RG.pv rfl (PV.move rfl rfl) ?_
  refine RG.callF (vs := [_, _]) rfl rfl En80 rfl (CallT.exC (src b cv) (next_s hcode (by omega) (fun w12 hw12 => ?_)))
  refine RG.pv rfl (PV.add rfl rfl rfl (by first | omega | (simp only [List.length_cons, List.length_nil]; omega))) ?_
  refine RG.pv rfl (PV.mvI (.inr rfl) rfl) ?_
  refine RG.nil ?_
  refine WP.seq ?_
  refine WP.seq ?_
  refine WP.region ?_
  refine RG.pv rfl (PV.mvI (.inr rfl) rfl) ?_
  refine RG.nil ?_
  refine WP.block ?_
  refine WP.cv (Cv.p (C := osl 9 strT v10 nmW :: blk b3 31 [.slice none 0 0] :: blk b2 31 [.slice none 0 0] :: src b cv :: L)) ?_
  refine WP.cv ((((Cv.bag0 (e := 195) (F := instT) (xs := ins []) rfl).trans ((Cv.bag0 (e := 193) (F := labelT) (xs := lbs []) rfl).trans ((Cv.bag0 (e := 142) (F := shapeT) (xs := shs []) rfl).trans (Cv.nilS (e := 116) (F := cellT))))))) ?_
  refine WP.loop3 [0, 2, 3, 4, 5] (fun (i : Int) (xs : List Cell) (q : Value) => 0 ≤ i ∧ i ≤ w12 + 2 ∧ xs.length = i.toNat ∧ CellsOk xs ∧ (1 < xs.length → 0 < (gd xs 1).insts.xs.length)) (fun (i : Int) (xs : List Cell) (q : Value) => [(6, vi i)]) (fun (i : Int) (xs : List Cell) (q : Value) => osl 116 cellT q (xs) :: bagS 142 shapeT (shs (xs)) :: bagS 193 labelT (lbs (xs)) :: bagS 195 instT (ins (xs)) :: osl 9 strT v10 nmW :: blk b3 31 [q] :: blk b2 31 [.slice none 0 0] :: src b cv :: L) (fun (i : Int) (xs : List Cell) (q : Value) => (w12 + 2 - i).toNat) 0 [] (.slice none 0 0) ⟨by omega, by omega, rfl, fun i hi => by simp at hi, fun h => by simp at h⟩ ⟨(by kernel_rfl), trivial⟩ Cv.p ?_
  rintro i xs q τ ⟨h0, h1, h2, h3, h4⟩
  refine WP.seq ?_
  refine WP.seq ?_
  refine WP.region ?_
  refine RG.pv rfl (PV.mvI (.inl rfl) rfl) ?_
  refine RG.pv rfl (PV.mvI (.inl rfl) rfl) ?_
  refine RG.pv rfl (PV.lss rfl rfl rfl) ?_
  refine RG.nil ?_
  refine WP.cond rfl (fun h5 => ?_) (fun h5 => ?_)
  · have h5 := of_decide_eq_true h5
    have hi3 : i.toNat < 3 := by omega
    have hnm := nmW_ok hi3
    refine WP.skip ?_
    refine WP.seq ?_
    refine WP.block ?_
    refine WP.cut4 [0, 2, 3, 4, 5, 6] (fun (b7 : Nat) (nm : ByteArray) (vs : Value) (ss : List Shape) => nm.size ≤ 9 ∧ ss.length ≤ 100) (fun (b7 : Nat) (nm : ByteArray) (vs : Value) (ss : List Shape) => [(7, .pointer (some ⟨b7, 0, none⟩))]) (fun (b7 : Nat) (nm : ByteArray) (vs : Value) (ss : List Shape) => blk b7 116 [.string nm, vs, .slice none 0 0, .slice none 0 0] :: osl 142 shapeT vs ss :: osl 116 cellT q (xs) :: bagS 142 shapeT (shs (xs)) :: bagS 193 labelT (lbs (xs)) :: bagS 195 instT (ins (xs)) :: osl 9 strT v10 nmW :: blk b3 31 [q] :: blk b2 31 [.slice none 0 0] :: src b cv :: L) ?_ ?_
    refine WP.regionH0 (.q 0 (.q 1 (.q 2 (.q 3 (.q 4 (.b 5 (.q 6 (.l 7 (.l 8 Sch.nil))) 7 (.l 5 (.q 6 (.l 8 Sch.nil))))))))) (by kernel_rfl) (by kernel_rfl) (by kernel_rfl) rfl ?_
    refine RH.pv rfl (fun _ _ _ _ h => h) (Gh.le_refl _) PickC.pick rfl (PV.move (v := v10) rfl rfl) ?_
    refine RH.pv rfl (fun _ _ _ _ h => h) (Gh.le_refl _) PickC.pick rfl (PV.mvI (.inl rfl) rfl) ?_
    refine RH.pv rfl (fun _ _ _ _ h => h) (Gh.le_refl _) PickC.pick rfl (PV.idxS (j := i.toNat) (v := v10) rfl Is203 rfl SlF.o rfl (by first | omega | (simp only [List.length_cons, List.length_nil]; omega)) (by first | omega | (simp only [List.length_cons, List.length_nil]; omega))) ?_
    refine RH.pv rfl (fun _ _ _ _ h => h) (Gh.le_refl _) PickC.pick rfl (PV.loadE1 rfl Sc9 rfl rfl (El.o (getG (by first | omega | (simp only [List.length_cons, List.length_nil]; omega)))) rfl) ?_
    refine RH.pv rfl (fun _ _ _ _ h => h) (Gh.le_refl _) PickC.pick rfl (PV.move rfl rfl) ?_
    · refine RH.ot2 rfl rfl rfl rfl  (OT.callF (vs := [_, _]) rfl En129 rfl (CallT.exC (src b cv) (dShapes_s hcode (by omega) (fun v24 ssv24 hsv24 => ⟨Gh.le_refl _, PickC.pick, ?_⟩)))) (OT.alloc rfl Zr116 fun b7 => ⟨Gh.le_refl _, PickC.pick, ?_⟩)
      · refine RH.up1 ?_
        refine RH.pv rfl (fun _ _ _ _ h => h) (Gh.le_refl _) PickC.pick rfl (PV.build (vs := [(0, [.string _]), (1, [v24])]) (out := [_, _, _, _]) rfl Zr116 Pl116 ⟨rfl, (Cl.c rfl), ⟨rfl, (Cl.s (v := v24) SlF.o), trivial⟩⟩ rfl) ?_
        refine RH.ot rfl rfl (OT.alloc rfl Zr116 fun b7 => ⟨Gh.le_refl _, PickC.pick, ?_⟩)
        refine RH.ot rfl rfl (OT.storeW (vs := [.string _, _, _, _]) rfl Sz116 rfl rfl (Cl.c rfl) rfl rfl (OneC.val rfl (OneC.sl (SlF.o (v := v24)) (OneC.val rfl (OneC.val rfl OneC.nil)))) ⟨Gh.le_refl _, PickC.pick, ?_⟩)
        refine RH.nil ?_
        exact ⟨rfl, b7, (gd nmW i.toNat), v24, ssv24, ⟨hnm, hsv24⟩, ⟨(by kernel_rfl), trivial⟩, ⟨(by kernel_rfl), (by kernel_rfl), (by kernel_rfl), (by kernel_rfl), (by kernel_rfl), (by kernel_rfl), trivial⟩, Cv.p⟩
      · refine RH.ot rfl rfl (OT.callF (vs := [_, _]) rfl En129 rfl (CallT.exC (src b cv) (dShapes_s hcode (by omega) (fun v24 ssv24 hsv24 => ⟨Gh.le_refl _, PickC.pick, ?_⟩))))
        refine RH.up1 ?_
        refine RH.pv rfl (fun _ _ _ _ h => h) (Gh.le_refl _) PickC.pick rfl (PV.build (vs := [(0, [.string _]), (1, [v24])]) (out := [_, _, _, _]) rfl Zr116 Pl116 ⟨rfl, (Cl.c rfl), ⟨rfl, (Cl.s (v := v24) SlF.o), trivial⟩⟩ rfl) ?_
        refine RH.ot rfl rfl (OT.storeW (vs := [.string _, _, _, _]) rfl Sz116 rfl rfl (Cl.c rfl) rfl rfl (OneC.val rfl (OneC.sl (SlF.o (v := v24)) (OneC.val rfl (OneC.val rfl OneC.nil)))) ⟨Gh.le_refl _, PickC.pick, ?_⟩)
        refine RH.nil ?_
        exact ⟨rfl, b7, (gd nmW i.toNat), v24, ssv24, ⟨hnm, hsv24⟩, ⟨(by kernel_rfl), trivial⟩, ⟨(by kernel_rfl), (by kernel_rfl), (by kernel_rfl), (by kernel_rfl), (by kernel_rfl), (by kernel_rfl), trivial⟩, Cv.p⟩
    rintro b7 nm vs ss τ1 ⟨hnm, hss⟩
    refine WP.seq ?_
    refine WP.seq ?_
    refine WP.region ?_
    refine RG.pv rfl (PV.move rfl rfl) ?_
    refine RG.pv rfl (PV.mvI (.inl rfl) rfl) ?_
    refine RG.pv rfl (PV.add rfl rfl rfl (by first | omega | (simp only [List.length_cons, List.length_nil]; omega))) ?_
    refine RG.callF (vs := [_, _]) rfl rfl En80 rfl (CallT.exC (src b cv) (next_s hcode (by omega) (fun w29 hw29 => ?_)))
    refine RG.pv rfl (PV.mvI (.inr rfl) rfl) ?_
    refine RG.nil ?_
    refine WP.block ?_
    refine WP.cv (Cv.nilS (e := 195) (F := instT)) ?_
    refine WP.loop3 [0, 2, 3, 4, 5, 6, 7] (fun (m : Int) (ns : List Inst) (u : Value) => -1 ≤ m ∧ (ns.length : Int) + m = w29) (fun (m : Int) (ns : List Inst) (u : Value) => [(8, vi m)]) (fun (m : Int) (ns : List Inst) (u : Value) => osl 195 instT u ns :: blk b7 116 [.string nm, vs, .slice none 0 0, u] :: osl 142 shapeT vs ss :: osl 116 cellT q (xs) :: bagS 142 shapeT (shs (xs)) :: bagS 193 labelT (lbs (xs)) :: bagS 195 instT (ins (xs)) :: osl 9 strT v10 nmW :: blk b3 31 [q] :: blk b2 31 [.slice none 0 0] :: src b cv :: L) (fun (m : Int) (ns : List Inst) (u : Value) => (m + 1).toNat) w29 [] (.slice none 0 0) ⟨by omega, by simp⟩ ⟨(by kernel_rfl), trivial⟩ Cv.p ?_
    rintro m ns u τ2 ⟨g0, g1⟩
    refine WP.seq ?_
    refine WP.seq ?_
    refine WP.region ?_
    refine RG.pv rfl (PV.mvI (.inl rfl) rfl) ?_
    refine RG.pv rfl (PV.gtr rfl rfl rfl) ?_
    refine RG.pv rfl (PV.mvB (.inl rfl) rfl) ?_
    refine RG.gs rfl rfl rfl (fun hp => (PV.mvI (.inl rfl) rfl)) ?_
    refine RG.gs rfl rfl rfl (fun hp => (PV.geq rfl (gs_t hp) rfl)) ?_
    refine RG.pv rfl (PV.pickA rfl rfl (fun hq => gs_t (geqT hq)) rfl) ?_
    refine RG.nil ?_
    refine WP.cond rfl (fun h6 => ?_) (fun h6 => ?_)
    · have h6 : 0 < i ∧ 0 ≤ m := by simp at h6; omega
      refine WP.skip ?_
      refine WP.cut2 [0, 2, 3, 4, 5, 6, 7, 8] (fun (u2 : Value) (x : Inst) => True) (fun (u2 : Value) (x : Inst) => []) (fun (u2 : Value) (x : Inst) => osl 195 instT u2 (ns ++ [x]) :: blk b7 116 [.string nm, vs, .slice none 0 0, u2] :: osl 142 shapeT vs ss :: osl 116 cellT q (xs) :: bagS 142 shapeT (shs (xs)) :: bagS 193 labelT (lbs (xs)) :: bagS 195 instT (ins (xs)) :: osl 9 strT v10 nmW :: blk b3 31 [q] :: blk b2 31 [.slice none 0 0] :: src b cv :: L) ?_ ?_
      refine WP.block ?_
      refine WP.regionHD [.s u, .b b7] (.q 0 (.q 2 (.q 3 (.b 1 (.l 4 (.l 5 (.l 6 (.q 7 (.l 8 Sch.nil))))) 4 (.b 1 (.l 5 (.l 6 (.q 7 (.l 8 Sch.nil)))) 5 (.l 1 (.l 6 (.q 7 (.l 8 Sch.nil))))))))) (by kernel_rfl) (by kernel_rfl) (by kernel_rfl) rfl ?_
      refine RH.pv rfl (fun _ _ _ _ h => h) (Gh.le_refl _) PickC.pick rfl (PV.field rfl Fo116_3 rfl) ?_
      refine RH.pv rfl (fun _ _ _ _ h => h) (Gh.le_refl _) PickC.pick rfl (PV.move rfl rfl) ?_
      refine RH.pv rfl (fun _ _ _ _ h => h) (Gh.le_refl _) PickC.pick rfl (PV.mvI (.inl rfl) rfl) ?_
      · refine RH.ot2 rfl rfl rfl rfl  (OT.pv (PV.load1 rfl Sc114 rfl (Rd.blk rfl)) ⟨Gh.le_refl _, PickC.pick, ?_⟩) (OT.callF (vs := [_, _]) rfl En130 rfl (CallT.exC (src b cv) (dInst_s hcode (by omega) (fun xw42 => ⟨Gh.le_refl _, PickC.pick, ?_⟩))))
        · refine RH.ot rfl rfl (OT.callF (vs := [_, _]) rfl En130 rfl (CallT.exC (src b cv) (dInst_s hcode (by omega) (fun xw42 => ⟨Gh.le_refl _, PickC.pick, ?_⟩))))
          refine RH.ot rfl rfl (OT.bslice (F := instT) (els := [_]) rfl El114 rfl (by decide) rfl (by decide) ⟨rfl, (Cl.c rfl), trivial⟩ fun v43 => ⟨Gh.le_refl _, PickC.pick, ?_⟩)
          refine RH.ot rfl rfl (OT.append (v := u) (u := v43) (F := instT) rfl El114 rfl (by decide) rfl rfl Rs.o (OneL.c (fun _ => rfl)) rfl (by first | omega | (simp <;> omega)) fun v44 => ⟨Gh.le_refl _, PickC.pick, ?_⟩)
          refine RH.pv rfl (fun _ _ _ _ h => h) (Gh.le_refl _) PickC.pick rfl (PV.field rfl Fo116_3 rfl) ?_
          refine RH.ot rfl rfl (OT.storeB (v := v44) (vs := [_]) (cs' := [_, _, _, _]) rfl Sz114 rfl rfl (Cl.s (v := v44) SlF.o) rfl (OneC.sl SlF.o OneC.nil) rfl rfl ⟨Gh.le_refl _, PickC.pick, ?_⟩)
          refine RH.nil ?_
          exact ⟨rfl, v44, xw42, trivial, trivial, ⟨(by kernel_rfl), (by kernel_rfl), (by kernel_rfl), (by kernel_rfl), (by kernel_rfl), (by kernel_rfl), (by kernel_rfl), (by kernel_rfl), trivial⟩, Cv.p⟩
        · refine RH.ot2 rfl rfl rfl rfl  (OT.pv (PV.load1 rfl Sc114 rfl (Rd.blk rfl)) ⟨Gh.le_refl _, PickC.pick, ?_⟩) (OT.bslice (F := instT) (els := [_]) rfl El114 rfl (by decide) rfl (by decide) ⟨rfl, (Cl.c rfl), trivial⟩ fun v43 => ⟨Gh.le_refl _, PickC.pick, ?_⟩)
          · refine RH.ot rfl rfl (OT.bslice (F := instT) (els := [_]) rfl El114 rfl (by decide) rfl (by decide) ⟨rfl, (Cl.c rfl), trivial⟩ fun v43 => ⟨Gh.le_refl _, PickC.pick, ?_⟩)
            refine RH.ot rfl rfl (OT.append (v := u) (u := v43) (F := instT) rfl El114 rfl (by decide) rfl rfl Rs.o (OneL.c (fun _ => rfl)) rfl (by first | omega | (simp <;> omega)) fun v44 => ⟨Gh.le_refl _, PickC.pick, ?_⟩)
            refine RH.pv rfl (fun _ _ _ _ h => h) (Gh.le_refl _) PickC.pick rfl (PV.field rfl Fo116_3 rfl) ?_
            refine RH.ot rfl rfl (OT.storeB (v := v44) (vs := [_]) (cs' := [_, _, _, _]) rfl Sz114 rfl rfl (Cl.s (v := v44) SlF.o) rfl (OneC.sl SlF.o OneC.nil) rfl rfl ⟨Gh.le_refl _, PickC.pick, ?_⟩)
            refine RH.nil ?_
            exact ⟨rfl, v44, xw42, trivial, trivial, ⟨(by kernel_rfl), (by kernel_rfl), (by kernel_rfl), (by kernel_rfl), (by kernel_rfl), (by kernel_rfl), (by kernel_rfl), (by kernel_rfl), trivial⟩, Cv.p⟩
          · refine RH.ot rfl rfl (OT.pv (PV.load1 rfl Sc114 rfl (Rd.blk rfl)) ⟨Gh.le_refl _, PickC.pick, ?_⟩)
            refine RH.ot rfl rfl (OT.append (v := u) (u := v43) (F := instT) rfl El114 rfl (by decide) rfl rfl Rs.o (OneL.c (fun _ => rfl)) rfl (by first | omega | (simp <;> omega)) fun v44 => ⟨Gh.le_refl _, PickC.pick, ?_⟩)
            refine RH.pv rfl (fun _ _ _ _ h => h) (Gh.le_refl _) PickC.pick rfl (PV.field rfl Fo116_3 rfl) ?_
            refine RH.ot rfl rfl (OT.storeB (v := v44) (vs := [_]) (cs' := [_, _, _, _]) rfl Sz114 rfl rfl (Cl.s (v := v44) SlF.o) rfl (OneC.sl SlF.o OneC.nil) rfl rfl ⟨Gh.le_refl _, PickC.pick, ?_⟩)
            refine RH.nil ?_
            exact ⟨rfl, v44, xw42, trivial, trivial, ⟨(by kernel_rfl), (by kernel_rfl), (by kernel_rfl), (by kernel_rfl), (by kernel_rfl), (by kernel_rfl), (by kernel_rfl), (by kernel_rfl), trivial⟩, Cv.p⟩
      rintro u2 x τ3 _
      refine WP.region ?_
      refine RG.pv rfl (PV.mvI (.inl rfl) rfl) ?_
      refine RG.pv rfl (PV.sub rfl rfl rfl (by first | omega | (simp only [List.length_cons, List.length_nil]; omega))) ?_
      refine RG.pv rfl (PV.mvI (.inr rfl) rfl) ?_
      refine RG.nil ?_
      exact ⟨rfl, m - 1, (ns ++ [x]), u2, ⟨by omega, by rw [List.length_append]; simp; omega⟩, ⟨(by kernel_rfl), trivial⟩, ⟨(by kernel_rfl), (by kernel_rfl), (by kernel_rfl), (by kernel_rfl), (by kernel_rfl), (by kernel_rfl), (by kernel_rfl), trivial⟩, Cv.p, by omega⟩
    · have h6 : ¬ (0 < i ∧ 0 ≤ m) := by simp at h6; omega
      refine WP.exit ?_
      refine WP.region ?_
      refine RG.pv rfl (PV.field rfl Fo31_0 rfl) ?_
      refine RG.pv rfl (PV.load1 rfl Sc29 rfl (Rd.blk rfl)) ?_
      refine RG.pv rfl (PV.loadW rfl Ag116 rfl rfl) ?_
      refine RG.ot rfl (OT.bslice (F := cellT) (els := [⟨nm, ⟨vs, ss⟩, ⟨.slice none 0 0, []⟩, ⟨u, ns⟩⟩]) rfl El29 rfl (by decide) rfl (by decide) ⟨rfl, (Cl.c rfl), trivial⟩ fun v49 => ?_)
      refine RG.ot rfl (OT.append (v := q) (u := v49) (F := cellT) rfl El29 rfl (by decide) rfl rfl Rs.o (OneL.one (OneC.val rfl (OneC.sl (SlF.o (v := vs)) (OneC.val rfl (OneC.sl (SlF.o (v := u)) OneC.nil))))) rfl (by first | omega | (simp <;> omega)) fun v50 => ?_)
      refine RG.pv rfl (PV.field rfl Fo31_0 rfl) ?_
      refine RG.ot rfl (OT.storeB (v := v50) (vs := [_]) (cs' := [_]) rfl Sz29 rfl rfl (Cl.s (v := v50) SlF.o) rfl (OneC.sl SlF.o OneC.nil) rfl rfl ?_)
      refine RG.nil ?_
      refine WP.region ?_
      refine RG.pv rfl (PV.mvI (.inl rfl) rfl) ?_
      refine RG.pv rfl (PV.add rfl rfl rfl (by first | omega | (simp only [List.length_cons, List.length_nil]; omega))) ?_
      refine RG.pv rfl (PV.mvI (.inr rfl) rfl) ?_
      refine RG.nil ?_
      refine ⟨rfl, i + 1, (xs ++ [⟨nm, ⟨vs, ss⟩, ⟨.slice none 0 0, []⟩, ⟨u, ns⟩⟩]), v50, ⟨by omega, by omega, by rw [List.length_append]; simp; omega, h3.app ⟨hnm, rfl, by simp only; omega⟩, fun hx => ?_⟩, ⟨(by kernel_rfl), trivial⟩, ⟨(by kernel_rfl), (by kernel_rfl), (by kernel_rfl), (by kernel_rfl), (by kernel_rfl), trivial⟩, ((Cv.p (C := osl 142 shapeT vs ss :: osl 195 instT u ns :: osl 116 cellT v50 (xs ++ [⟨nm, ⟨vs, ss⟩, ⟨.slice none 0 0, []⟩, ⟨u, ns⟩⟩]) :: bagS 142 shapeT (shs xs) :: bagS 193 labelT (lbs xs) :: bagS 195 instT (ins xs) :: osl 9 strT v10 nmW :: blk b3 31 [v50] :: blk b2 31 [.slice none 0 0] :: src b cv :: L)).trans Cv.cellNew), by omega⟩
      by_cases c : 1 < xs.length
      · rw [gd_app_l c]; exact h4 c
      · have hx : 1 < xs.length + 1 := by simpa using hx
        have e1 : xs.length = 1 := by omega
        have e2 := gd_app_r (xs := xs) (a := ⟨nm, ⟨vs, ss⟩, ⟨.slice none 0 0, []⟩, ⟨u, ns⟩⟩)
        rw [e1] at e2
        rw [e2]
        simp only
        omega
  · have hi2 : i = w12 + 2 := by have := of_decide_eq_false h5; omega
    have hx2 : 2 ≤ xs.length ∧ xs.length ≤ 3 := by omega
    refine WP.exit ?_
    refine WP.cut1 [2, 3] (fun (ys : List Cell) => CellsL ys ∧ 2 ≤ ys.length ∧ ys.length ≤ 3) (fun (ys : List Cell) => []) (fun (ys : List Cell) => osl 116 cellT q (ys) :: bagS 142 shapeT (shs (ys)) :: bagS 193 labelT (lbs (ys)) :: bagS 195 instT (ins (ys)) :: blk b3 31 [q] :: blk b2 31 [.slice none 0 0] :: src b cv :: L) ?_ ?_
    refine WP.seq ?_
    refine WP.region ?_
    refine RG.pv rfl (PV.move rfl rfl) ?_
    refine RG.callF (vs := [_, _]) rfl rfl En80 rfl (CallT.exC (src b cv) (next_s hcode (by omega) (fun w53 hw53 => ?_)))
    refine RG.nil ?_
    refine WP.block ?_
    refine WP.seq ?_
    refine WP.region ?_
    refine RG.pv rfl (PV.eql rfl rfl rfl) ?_
    refine RG.pv rfl (PV.mvB (.inr rfl) rfl) ?_
    refine RG.nil ?_
    · refine WP.cond rfl (fun h6 => ?_) (fun h6 => ?_)
      · skip
        refine WP.region ?_
        refine RG.pv rfl (PV.field rfl Fo31_0 rfl) ?_
        refine RG.pv rfl (PV.load1 rfl Sc29 rfl (Rd.blk rfl)) ?_
        refine RG.pv rfl (PV.idxS (j := 0) (v := q) rfl Is29 rfl SlF.o rfl (by first | omega | (simp only [List.length_cons, List.length_nil]; omega)) (by first | omega | (simp only [List.length_cons, List.length_nil]; omega))) ?_
        refine RG.pv rfl (PV.field rfl Fo116_0 rfl) ?_
        refine RG.ot rfl (OT.storeF (F := cellT) (val := Value.string) (cv := fun u => [.string u]) (st := Cell.s0) rfl Sz9 rfl rfl rfl (Cl.c rfl) rfl (OneC.c rfl) (by exact set_self (by omega)) (by first | omega | (simp; omega)) rfl (fun _ _ => rfl) ?_)
        refine RG.nil ?_
        have hc0 := h3 0 (by omega)
        have hcl : (Cell.s0 (ByteArray.mk #[84, 111, 112]) (gd xs 0)).name.size ≤ 9 ∧ (Cell.s0 (ByteArray.mk #[84, 111, 112]) (gd xs 0)).labels.xs = [] := ⟨by simp only [Cell.s0]; decide, hc0.2.1⟩
        exact ⟨rfl, (xs.set 0 (Cell.s0 (ByteArray.mk #[84, 111, 112]) (gd xs 0))), ⟨h3.l.set hcl, by simpa using hx2.1, by simpa using hx2.2⟩, trivial, ⟨(by kernel_rfl), (by kernel_rfl), trivial⟩, ((Cv.p (C := osl 116 cellT q (xs.set 0 (Cell.s0 (ByteArray.mk #[84, 111, 112]) (gd xs 0))) :: bagS 142 shapeT (shs xs) :: bagS 193 labelT (lbs xs) :: bagS 195 instT (ins xs) :: blk b3 31 [q] :: blk b2 31 [.slice none 0 0] :: src b cv :: L)).trans (Cv.cast (by rw [shs, lbs, ins, shs, lbs, ins, map_set_same (f := Cell.shapes) (i := 0) (c := Cell.s0 (ByteArray.mk #[84, 111, 112]) (gd xs 0)) (by omega) rfl, map_set_same (f := Cell.labels) (i := 0) (c := Cell.s0 (ByteArray.mk #[84, 111, 112]) (gd xs 0)) (by omega) rfl, map_set_same (f := Cell.insts) (i := 0) (c := Cell.s0 (ByteArray.mk #[84, 111, 112]) (gd xs 0)) (by omega) rfl])))⟩
      · refine WP.seq ?_
        refine WP.region ?_
        refine RG.pv rfl (PV.eql rfl rfl rfl) ?_
        refine RG.pv rfl (PV.mvB (.inr rfl) rfl) ?_
        refine RG.nil ?_
        refine WP.cond rfl (fun h7 => ?_) (fun h7 => ?_)
        · have h41 := h4 (by omega)
          have hil : (ins xs).length = xs.length := by simp [ins]
          have hi1 : gd (ins xs) 1 = (gd xs 1).insts := by rw [ins, gd_map _ (by omega)]
          refine WP.cv ((Cv.p (C := bagS 195 instT (ins xs) :: osl 116 cellT q xs :: bagS 142 shapeT (shs xs) :: bagS 193 labelT (lbs xs) :: blk b3 31 [q] :: blk b2 31 [.slice none 0 0] :: src b cv :: L)).trans ((Cv.bagS_take 1 (by omega)).trans (Cv.cast (by rw [hi1])))) ?_
          refine WP.region ?_
          refine RG.pv rfl (PV.field rfl Fo31_0 rfl) ?_
          refine RG.pv rfl (PV.load1 rfl Sc29 rfl (Rd.blk rfl)) ?_
          refine RG.pv rfl (PV.idxS (j := 1) (v := q) rfl Is29 rfl SlF.o rfl (by first | omega | (simp only [List.length_cons, List.length_nil]; omega)) (by first | omega | (simp only [List.length_cons, List.length_nil]; omega))) ?_
          refine RG.pv rfl (PV.field rfl Fo116_3 rfl) ?_
          refine RG.pv rfl (PV.loadF (F := cellT) (v := q) (i := 1) (j := 3) rfl Sc114 rfl rfl (El.o (getG (by omega))) rfl) ?_
          refine RG.pv rfl (PV.idxS (j := 0) (v := (gd xs 1).insts.v) rfl Is114 rfl SlF.o rfl (by first | omega | (simp only [List.length_cons, List.length_nil]; omega)) (by first | omega | (simp only [List.length_cons, List.length_nil]; omega))) ?_
          refine RG.pv rfl (PV.field rfl Fo195_1 rfl) ?_
          refine RG.pv rfl (PV.field rfl Fo136_1 rfl) ?_
          refine RG.ot rfl (OT.storeF (F := instT) (val := vi) (cv := fun u => [vi u]) (j := 2) (st := Inst.s1_1) rfl Sz2 rfl rfl rfl (Cl.c rfl) rfl (OneC.c rfl) (by exact set_self (by omega)) (by first | omega | (simp; omega)) rfl (fun _ _ => rfl) ?_)
          refine RG.nil ?_
          have hc1 := h3 1 (by omega)
          have e1 : shs (xs.set 1 ⟨(gd xs 1).name, (gd xs 1).shapes, (gd xs 1).labels, ⟨(gd xs 1).insts.v, (gd xs 1).insts.xs.set 0 (Inst.s1_1 60 (gd (gd xs 1).insts.xs 0))⟩⟩) = shs xs := map_set_same (by omega) rfl
          have e2 : lbs (xs.set 1 ⟨(gd xs 1).name, (gd xs 1).shapes, (gd xs 1).labels, ⟨(gd xs 1).insts.v, (gd xs 1).insts.xs.set 0 (Inst.s1_1 60 (gd (gd xs 1).insts.xs 0))⟩⟩) = lbs xs := map_set_same (by omega) rfl
          exact ⟨rfl, (xs.set 1 ⟨(gd xs 1).name, (gd xs 1).shapes, (gd xs 1).labels, ⟨(gd xs 1).insts.v, (gd xs 1).insts.xs.set 0 (Inst.s1_1 60 (gd (gd xs 1).insts.xs 0))⟩⟩), ⟨h3.l.set ⟨hc1.1, hc1.2.1⟩, by simpa using hx2.1, by simpa using hx2.2⟩, trivial, ⟨(by kernel_rfl), (by kernel_rfl), trivial⟩, ((Cv.p (C := osl 195 instT (gd xs 1).insts.v ((gd xs 1).insts.xs.set 0 (Inst.s1_1 60 (gd (gd xs 1).insts.xs 0))) :: bag (((ins xs).map (ownS 195 instT)).set 1 emp) :: osl 116 cellT q xs :: bagS 142 shapeT (shs xs) :: bagS 193 labelT (lbs xs) :: blk b3 31 [q] :: blk b2 31 [.slice none 0 0] :: src b cv :: L)).trans ((Cv.slotC 1 (by omega)).trans (by rw [e1, e2]; exact Cv.p)))⟩
        · refine WP.seq ?_
          refine WP.region ?_
          refine RG.pv rfl (PV.eql rfl rfl rfl) ?_
          refine RG.pv rfl (PV.mvB (.inr rfl) rfl) ?_
          refine RG.nil ?_
          refine WP.cond rfl (fun h8 => ?_) (fun h8 => ?_)
          · have hsl : (shs xs).length = xs.length := by simp [shs]
            have hi0 : gd (shs xs) 0 = (gd xs 0).shapes := by rw [shs, gd_map _ (by omega)]
            have hc0 := h3 0 (by omega)
            have hs0 := hc0.2.2
            refine WP.isl q fun hIq => ?_
            refine WP.cv ((Cv.p (C := bagS 142 shapeT (shs xs) :: osl 116 cellT q xs :: bagS 195 instT (ins xs) :: bagS 193 labelT (lbs xs) :: blk b3 31 [q] :: blk b2 31 [.slice none 0 0] :: src b cv :: L)).trans ((Cv.bagS_take 0 (by omega)).trans (Cv.cast (by rw [hi0])))) ?_
            refine WP.regionHD [.s q, .s (gd xs 0).shapes.v] (.q 0 (.q 1 (.q 2 (.q 3 (.q 4 (.q 5 (.q 7 (.q 8 (.b 6 (.l 9 (.l 10 (.q 11 (.q 12 (.l 13 Sch.nil))))) 9 (.l 6 (.l 10 (.q 11 (.q 12 (.l 13 Sch.nil)))))))))))))) (by kernel_rfl) (by kernel_rfl) (by kernel_rfl) rfl ?_
            refine RH.pv rfl (fun _ _ _ _ h => h) (Gh.le_refl _) PickC.pick rfl (PV.field rfl Fo31_0 rfl) ?_
            refine RH.pv rfl (fun _ _ _ _ h => h) (Gh.le_refl _) PickC.pick rfl (PV.load1 rfl Sc29 rfl (Rd.blk rfl)) ?_
            refine RH.pv rfl (fun _ _ _ _ h => h) (Gh.le_refl _) PickC.pick rfl (PV.field rfl Fo31_0 rfl) ?_
            refine RH.pv rfl (fun _ _ _ _ h => h) (Gh.le_refl _) PickC.pick rfl (PV.load1 rfl Sc29 rfl (Rd.blk rfl)) ?_
            refine RH.pv rfl (fun _ _ _ _ h => h) (Gh.le_refl _) PickC.pick rfl (PV.idxS (j := 0) (v := q) rfl Is29 rfl (SlF.i hIq) rfl (by first | omega | (simp only [List.length_cons, List.length_nil]; omega)) (by first | omega | (simp only [List.length_cons, List.length_nil]; omega))) ?_
            refine RH.pv rfl (fun _ _ _ _ h => h) (Gh.le_refl _) PickC.pick rfl (PV.field rfl Fo116_1 rfl) ?_
            refine RH.pv rfl (fun _ _ _ _ h => h) (Gh.le_refl _) PickC.pick rfl (PV.build (vs := [(0, [vi _]), (1, [vi _]), (2, [vi _]), (3, [vi _])]) (out := [_, _, _, _]) rfl Zr140 Pl140 ⟨rfl, (Cl.c rfl), ⟨rfl, (Cl.c rfl), ⟨rfl, (Cl.c rfl), ⟨rfl, (Cl.c rfl), trivial⟩⟩⟩⟩ rfl) ?_
            refine RH.pv rfl (fun _ _ _ _ h => h) (Gh.le_refl _) PickC.pick rfl (PV.build (vs := [(0, [vi _]), (1, [vi _, vi _, vi _, vi _])]) (out := [_, _, _, _, _]) rfl Zr142 Pl142 ⟨rfl, (Cl.c rfl), ⟨rfl, (Cl.c rfl), trivial⟩⟩ rfl) ?_
            have e1 : ∀ v, ins (xs.set 0 (Cell.s1 ⟨v, (gd xs 0).shapes.xs ++ [⟨3, ⟨30, 0, 40, 1⟩⟩]⟩ (gd xs 0))) = ins xs := fun v => map_set_same (by omega) rfl
            have e2 : ∀ v, lbs (xs.set 0 (Cell.s1 ⟨v, (gd xs 0).shapes.xs ++ [⟨3, ⟨30, 0, 40, 1⟩⟩]⟩ (gd xs 0))) = lbs xs := fun v => map_set_same (by omega) rfl
            have e3 : ∀ v, shs (xs.set 0 (Cell.s1 ⟨v, (gd xs 0).shapes.xs ++ [⟨3, ⟨30, 0, 40, 1⟩⟩]⟩ (gd xs 0))) = (shs xs).set 0 ⟨v, (gd xs 0).shapes.xs ++ [⟨3, ⟨30, 0, 40, 1⟩⟩]⟩ := fun v => by rw [shs, shs, List.map_set]
            have hcl : ∀ v, (Cell.s1 ⟨v, (gd xs 0).shapes.xs ++ [⟨3, ⟨30, 0, 40, 1⟩⟩]⟩ (gd xs 0)).name.size ≤ 9 ∧ (Cell.s1 ⟨v, (gd xs 0).shapes.xs ++ [⟨3, ⟨30, 0, 40, 1⟩⟩]⟩ (gd xs 0)).labels.xs = [] := fun v => ⟨hc0.1, hc0.2.1⟩
            · refine RH.ot2 rfl rfl rfl rfl  (OT.pv (PV.loadF (F := cellT) (v := q) (i := 0) (j := 1) rfl Sc83 rfl rfl (El.o (getG (by omega))) rfl) ⟨Gh.le_refl _, PickC.pick, ?_⟩) (OT.bslice (F := shapeT) (els := [⟨3, ⟨30, 0, 40, 1⟩⟩]) rfl El83 rfl (by decide) rfl (by decide) ⟨rfl, (Cl.c rfl), trivial⟩ fun v81 => ⟨Gh.le_refl _, PickC.pick, ?_⟩)
              · refine RH.ot rfl rfl (OT.bslice (F := shapeT) (els := [⟨3, ⟨30, 0, 40, 1⟩⟩]) rfl El83 rfl (by decide) rfl (by decide) ⟨rfl, (Cl.c rfl), trivial⟩ fun v81 => ⟨Gh.le_refl _, PickC.pick, ?_⟩)
                refine RH.ot rfl rfl (OT.append (v := (gd xs 0).shapes.v) (u := v81) (F := shapeT) rfl El83 rfl (by decide) rfl rfl Rs.o (OneL.c (fun _ => rfl)) rfl (by first | omega | (simp <;> omega)) fun v82 => ⟨Gh.le_refl _, PickC.pick, ?_⟩)
                refine RH.pv rfl (fun _ _ _ _ h => h) (Gh.le_refl _) PickC.pick rfl (PV.idxS (j := 0) (v := q) rfl Is29 rfl (SlF.i hIq) rfl (by first | omega | (simp only [List.length_cons, List.length_nil]; omega)) (by first | omega | (simp only [List.length_cons, List.length_nil]; omega))) ?_
                refine RH.pv rfl (fun _ _ _ _ h => h) (Gh.le_refl _) PickC.pick rfl (PV.field rfl Fo116_1 rfl) ?_
                refine RH.ot rfl rfl (OT.storeF (F := cellT) (val := Sl.v) (cv := fun u => [u.v]) (u := ⟨v82, (gd xs 0).shapes.xs ++ [⟨3, ⟨30, 0, 40, 1⟩⟩]⟩) (st := Cell.s1) rfl Sz83 rfl rfl rfl (Cl.s (v := v82) SlF.o) rfl (OneC.sl SlF.o OneC.nil) (by exact set_self (by omega)) (by first | omega | (simp; omega)) rfl (fun _ _ => rfl) ⟨Gh.le_refl _, PickC.pick, ?_⟩)
                refine RH.nil ?_
                exact ⟨rfl, (xs.set 0 (Cell.s1 ⟨v82, (gd xs 0).shapes.xs ++ [⟨3, ⟨30, 0, 40, 1⟩⟩]⟩ (gd xs 0))), ⟨h3.l.set (hcl v82), by simpa using hx2.1, by simpa using hx2.2⟩, trivial, ⟨(by kernel_rfl), (by kernel_rfl), trivial⟩, ((Cv.p (C := osl 142 shapeT v82 ((gd xs 0).shapes.xs ++ [⟨3, ⟨30, 0, 40, 1⟩⟩]) :: bag (((shs xs).map (ownS 142 shapeT)).set 0 emp) :: osl 116 cellT q (xs.set 0 (Cell.s1 ⟨v82, (gd xs 0).shapes.xs ++ [⟨3, ⟨30, 0, 40, 1⟩⟩]⟩ (gd xs 0))) :: bagS 195 instT (ins xs) :: bagS 193 labelT (lbs xs) :: blk b3 31 [q] :: blk b2 31 [.slice none 0 0] :: src b cv :: L)).trans ((Cv.bagS_put 0 (by omega)).trans (by rw [← e3 v82, ← e1 v82, ← e2 v82]; exact Cv.p)))⟩
              · refine RH.ot rfl rfl (OT.pv (PV.loadF (F := cellT) (v := q) (i := 0) (j := 1) rfl Sc83 rfl rfl (El.o (getG (by omega))) rfl) ⟨Gh.le_refl _, PickC.pick, ?_⟩)
                refine RH.ot rfl rfl (OT.append (v := (gd xs 0).shapes.v) (u := v81) (F := shapeT) rfl El83 rfl (by decide) rfl rfl Rs.o (OneL.c (fun _ => rfl)) rfl (by first | omega | (simp <;> omega)) fun v82 => ⟨Gh.le_refl _, PickC.pick, ?_⟩)
                refine RH.pv rfl (fun _ _ _ _ h => h) (Gh.le_refl _) PickC.pick rfl (PV.idxS (j := 0) (v := q) rfl Is29 rfl (SlF.i hIq) rfl (by first | omega | (simp only [List.length_cons, List.length_nil]; omega)) (by first | omega | (simp only [List.length_cons, List.length_nil]; omega))) ?_
                refine RH.pv rfl (fun _ _ _ _ h => h) (Gh.le_refl _) PickC.pick rfl (PV.field rfl Fo116_1 rfl) ?_
                refine RH.ot rfl rfl (OT.storeF (F := cellT) (val := Sl.v) (cv := fun u => [u.v]) (u := ⟨v82, (gd xs 0).shapes.xs ++ [⟨3, ⟨30, 0, 40, 1⟩⟩]⟩) (st := Cell.s1) rfl Sz83 rfl rfl rfl (Cl.s (v := v82) SlF.o) rfl (OneC.sl SlF.o OneC.nil) (by exact set_self (by omega)) (by first | omega | (simp; omega)) rfl (fun _ _ => rfl) ⟨Gh.le_refl _, PickC.pick, ?_⟩)
                refine RH.nil ?_
                exact ⟨rfl, (xs.set 0 (Cell.s1 ⟨v82, (gd xs 0).shapes.xs ++ [⟨3, ⟨30, 0, 40, 1⟩⟩]⟩ (gd xs 0))), ⟨h3.l.set (hcl v82), by simpa using hx2.1, by simpa using hx2.2⟩, trivial, ⟨(by kernel_rfl), (by kernel_rfl), trivial⟩, ((Cv.p (C := osl 142 shapeT v82 ((gd xs 0).shapes.xs ++ [⟨3, ⟨30, 0, 40, 1⟩⟩]) :: bag (((shs xs).map (ownS 142 shapeT)).set 0 emp) :: osl 116 cellT q (xs.set 0 (Cell.s1 ⟨v82, (gd xs 0).shapes.xs ++ [⟨3, ⟨30, 0, 40, 1⟩⟩]⟩ (gd xs 0))) :: bagS 195 instT (ins xs) :: bagS 193 labelT (lbs xs) :: blk b3 31 [q] :: blk b2 31 [.slice none 0 0] :: src b cv :: L)).trans ((Cv.bagS_put 0 (by omega)).trans (by rw [← e3 v82, ← e1 v82, ← e2 v82]; exact Cv.p)))⟩
          · refine WP.skip ?_
            exact ⟨rfl, xs, ⟨h3.l, hx2.1, hx2.2⟩, trivial, ⟨(by kernel_rfl), (by kernel_rfl), trivial⟩, Cv.p⟩
    rintro ys τ4 ⟨j1, j2, j3⟩
    refine WP.seq ?_
    refine WP.region ?_
    refine RG.pv rfl (PV.loadW rfl Ag31 rfl rfl) ?_
    refine RG.ot rfl (OT.storeW (vs := [_]) rfl Sz31 rfl rfl (Cl.c rfl) rfl rfl (OneC.sl (SlF.o (v := q)) OneC.nil) ?_)
    refine RG.nil ?_
    refine WP.ret ?_
    exact ⟨_, _, ResV.one rfl (RV1.cell rfl Ag31 rfl), Cv.p, k q ys j1 j2 j3⟩
theorem dCell_s {cv : Value} {bs : List UInt8} (hcode : SL G byteT cv bs) (k : ∀ v xs n, CellsL xs → R (.tuple #[vT libT ⟨⟨v, xs⟩⟩, vi n]) G (osl 116 cellT v (xs) :: bagS 142 shapeT (shs (xs)) :: bagS 193 labelT (lbs (xs)) :: bagS 195 instT (ins (xs)) :: L)) : CallT Tryz.prog 44 #[cv] G L R := by
  refine CallT.enter (args := _) Tryz.func44 rfl rfl (by kernel_rfl) rfl ?_
  refine WP.seq ?_
  refine WP.region ?_
  refine RG.ot rfl (OT.alloc rfl Zr31 fun b2 => ?_)
  refine RG.pv rfl (PV.mvI (.inr rfl) rfl) ?_
  refine RG.nil ?_
  refine WP.seq ?_
  refine WP.region ?_
  refine RG.pv rfl (PV.move (v := cv) rfl rfl) ?_
  refine RG.callF (vs := [cv]) rfl rfl En78 rfl (from_s hcode (fun b => ?_))
  refine RG.pv rfl (PV.asg rfl rfl) ?_
  refine RG.nil ?_
  refine WP.seq ?_
  refine WP.region ?_
  refine RG.pv rfl (PV.move rfl rfl) ?_
  refine RG.callF (vs := [_]) rfl rfl En79 rfl (dLib_s hcode (fun w9 xs hx hx2 hx3 => ?_))
  refine RG.ot rfl (OT.alloc rfl Zr31 fun b5 => ?_)
  refine RG.ot rfl (OT.storeW (vs := [_]) rfl Sz31 rfl rfl (Cl.c rfl) rfl rfl (OneC.sl (SlF.o (v := w9)) OneC.nil) ?_)
  refine RG.nil ?_
  refine WP.seq ?_
  refine WP.seq ?_
  refine WP.region ?_
  refine RG.pv rfl (PV.move rfl rfl) ?_
  refine RG.callF (vs := [_, _]) rfl rfl En80 rfl (CallT.exC (src b cv) (next_s hcode (by omega) (fun w11 hw11 => ?_)))
  refine RG.pv rfl (PV.eql rfl rfl rfl) ?_
  refine RG.nil ?_
  refine WP.cond rfl (fun h1 => ?_) (fun h1 => ?_)
  · refine WP.seq ?_
    refine WP.regionHD [.b b2] (.q 0 (.q 1 (.l 2 (.q 3 (.l 4 (.q 5 Sch.nil)))))) (by kernel_rfl) (by kernel_rfl) (by kernel_rfl) rfl ?_
    refine RH.pv rfl (fun _ _ _ _ h => h) (Gh.le_refl _) PickC.pick rfl (PV.loadW rfl Ag31 rfl rfl) ?_
    refine RH.pv rfl (fun _ _ _ _ h => h) (Gh.le_refl _) PickC.pick rfl (PV.move rfl rfl) ?_
    refine RH.ot rfl rfl (OT.callF (vs := [_, _]) rfl En80 rfl (CallT.exC (src b cv) (next_s hcode (by omega) (fun w15 hw15 => ⟨Gh.le_refl _, PickC.pick, ?_⟩))))
    refine RH.pv rfl (fun _ _ _ _ h => h) (Gh.le_refl _) PickC.pick rfl (PV.sub rfl rfl rfl (by omega)) ?_
    refine RH.ot rfl rfl (OT.storeW (vs := [_]) rfl Sz31 rfl rfl (Cl.c rfl) rfl rfl (OneC.sl (SlF.o (v := w9)) OneC.nil) ⟨Gh.le_refl _, PickC.pick, ?_⟩)
    refine RH.pv rfl (fun _ _ _ _ h => h) (Gh.le_refl _) PickC.pick rfl (PV.mvI (.inr rfl) rfl) ?_
    refine RH.nil ?_
    refine WP.ret ?_
    exact ⟨_, _, ResV.two rfl (RV1.cell rfl Ag31 rfl) rfl, Cv.p, k w9 xs _ hx⟩
  · skip
    refine WP.skip ?_
    refine WP.seq ?_
    refine WP.regionHD [.b b2] (.q 0 (.q 1 (.q 2 (.q 3 (.q 4 (.l 5 (.q 6 Sch.nil))))))) (by kernel_rfl) (by kernel_rfl) (by kernel_rfl) rfl ?_
    refine RH.pv rfl (fun _ _ _ _ h => h) (Gh.le_refl _) PickC.pick rfl (PV.loadW rfl Ag31 rfl rfl) ?_
    refine RH.pv rfl (fun _ _ _ _ h => h) (Gh.le_refl _) PickC.pick rfl (PV.field rfl Fo31_0 rfl) ?_
    refine RH.pv rfl (fun _ _ _ _ h => h) (Gh.le_refl _) PickC.pick rfl (PV.load1 rfl Sc29 rfl (Rd.blk rfl)) ?_
    refine RH.pv rfl (fun _ _ _ _ h => h) (Gh.le_refl _) PickC.pick rfl (PV.len (v := w9) rfl Tryz.underlying29 rfl SlF.o) ?_
    refine RH.pv rfl (fun _ _ _ _ h => h) (Gh.le_refl _) PickC.pick rfl (PV.sub rfl rfl rfl (by omega)) ?_
    refine RH.ot rfl rfl (OT.storeW (vs := [_]) rfl Sz31 rfl rfl (Cl.c rfl) rfl rfl (OneC.sl (SlF.o (v := w9)) OneC.nil) ⟨Gh.le_refl _, PickC.pick, ?_⟩)
    refine RH.pv rfl (fun _ _ _ _ h => h) (Gh.le_refl _) PickC.pick rfl (PV.mvI (.inr rfl) rfl) ?_
    refine RH.nil ?_
    refine WP.ret ?_
    exact ⟨_, _, ResV.two rfl (RV1.cell rfl Ag31 rfl) rfl, Cv.p, k w9 xs _ hx⟩
end Go.Proofs.YthhjapiggekjbaaGreat
namespace Go.Proofs.YthhjapiggekjbaaGreat
set_option linter.unusedVariables false
set_option linter.unusedSimpArgs false
open Go
set_option maxRecDepth 20000
set_option linter.unusedSimpArgs false
variable {G : Gh} {L : List Ch} {R : Value → Gh → List Ch → Prop}
def andV (k : IntKind) (a b : Int) : Int := k.wrap (BitVec.ofInt k.bits a &&& BitVec.ofInt k.bits b).toNat
theorem PV.andW {P : Program} {o : Oper} {σ : Nat → Value} {G : Gh} {L : List Ch} {T T' : TypeId} {x y : Operand} {k : IntKind} {a b : Int} (ho : o.op = .binOp .and T x y T') (hx : ev σ x = .int k a) (hy : ev σ y = .int k b) : PV P o σ G L (.int k (andV k a b)) := by
  intro w _
  simp [execOp, ho, hx, hy, eqGuard, binOp, Op.intBits, andV]
theorem andV_bd (a : Int) : 0 ≤ andV .u64 a 16777215 ∧ andV .u64 a 16777215 ≤ 16777215 := by
  have h : (BitVec.ofInt 64 a &&& BitVec.ofInt 64 16777215).toNat ≤ 16777215 := by
    rw [BitVec.toNat_and]
    have e : (BitVec.ofInt 64 16777215).toNat = 16777215 := by decide
    rw [e]; exact Nat.and_le_right
  have e : andV .u64 a 16777215 = ((BitVec.ofInt 64 a &&& BitVec.ofInt 64 16777215).toNat : Int) := by
    show IntKind.u64.wrap _ = _
    exact u64w ⟨by omega, by
      have : ((BitVec.ofInt 64 a &&& BitVec.ofInt 64 16777215).toNat : Int) ≤ 16777215 := by omega
      exact Int.le_trans this (by decide)⟩
  rw [e]; omega
theorem andI (a : Int) : -9223372036854775808 ≤ andV .u64 a 16777215 ∧ andV .u64 a 16777215 ≤ 9223372036854775807 := by
  have := andV_bd a; omega
/-- the dice in block b over the code cv -/
def dice (b : Nat) (cv : Value) : Ch := fun h => ∃ p : Int × Int, 0 ≤ p.1 ∧ blk b 99 [cv, vi p.1, .int .u64 p.2] h
theorem Cv.dice {b : Nat} {cv : Value} {x y : Int} {L : List Ch} (h : 0 ≤ x) : Cv (blk b 99 [cv, vi x, .int .u64 y] :: L) (dice b cv :: L) := Cv.imp fun _ hc => ⟨(x, y), h, hc⟩
theorem below_s {b : Nat} {n : Int} {cv : Value} {bs : List UInt8} (hcode : SL G byteT cv bs) (hn : 0 < n ∧ n ≤ 1000000) (k : ∀ r, 0 ≤ r ∧ r < n → R (vi r) G (dice b cv :: L)) : CallT Tryz.prog 31 #[.pointer (some ⟨b, 0, none⟩), vi n] G (dice b cv :: L) R := by
  refine CallT.exi fun ⟨x, y⟩ hx => ?_
  have hbl := hcode.bound
  have hx : 0 ≤ x := hx
  change CallT _ _ _ G (blk b 99 [cv, vi x, .int .u64 y] :: L) R
  refine CallT.enter (args := _) Tryz.func31 rfl rfl (by kernel_rfl) rfl ?_
  refine WP.seq ?_
  refine WP.region ?_
  refine RG.pv rfl (PV.mvI (.inr rfl) rfl) ?_
  refine RG.nil ?_
  refine WP.seq ?_
  refine WP.region ?_
  refine RG.pv rfl (PV.mvP (.inl rfl) rfl) ?_
  refine RG.pv rfl (PV.mvP (.inl rfl) rfl) ?_
  refine RG.pv rfl (PV.nilc rfl rfl) ?_
  refine RG.pv rfl (PV.field rfl Fo99_2 rfl) ?_
  refine RG.pv rfl (PV.load1 rfl Sc60 rfl (Rd.blk rfl)) ?_
  refine RG.pv rfl (PV.mulW rfl rfl rfl) ?_
  refine RG.pv rfl (PV.addW rfl rfl rfl) ?_
  refine RG.pv rfl (PV.nilc rfl rfl) ?_
  refine RG.pv rfl (PV.field rfl Fo99_2 rfl) ?_
  refine RG.ot rfl (OT.storeB (vs := [.int .u64 _]) (cs' := [_, _, _]) rfl Sz60 rfl rfl (Cl.c rfl) rfl (OneC.c rfl) rfl rfl ?_)
  refine RG.nil ?_
  refine WP.seq ?_
  refine WP.region ?_
  refine RG.pv rfl (PV.mvP (.inl rfl) rfl) ?_
  refine RG.pv rfl (PV.nilc rfl rfl) ?_
  refine RG.pv rfl (PV.field rfl Fo99_2 rfl) ?_
  refine RG.pv rfl (PV.load1 rfl Sc60 rfl (Rd.blk rfl)) ?_
  refine RG.pv rfl (PV.shr rfl rfl rfl (by decide) (by decide)) ?_
  refine RG.pv rfl (PV.andW rfl rfl rfl) ?_
  refine RG.pv rfl (PV.conv rfl ⟨_, Tryz.underlying60⟩ Tryz.underlying2 rfl (i64w (by first | exact andI _ | omega))) ?_
  refine RG.pv rfl (PV.mvI (.inr rfl) rfl) ?_
  refine RG.nil ?_
  refine WP.seq ?_
  refine WP.seq ?_
  refine WP.regionQ (by kernel_rfl) (by kernel_rfl) ?_
  refine RQ.pv rfl (PV.mvP (.inl rfl) rfl) ?_
  refine RQ.pv rfl (PV.nilc rfl rfl) ?_
  refine RQ.pv rfl (PV.field rfl Fo99_1 rfl) ?_
  refine RQ.pv rfl (PV.load1 rfl Sc3 rfl (Rd.blk rfl)) ?_
  refine RQ.pv rfl (PV.mvP (.inl rfl) rfl) ?_
  refine RQ.pv rfl (PV.nilc rfl rfl) ?_
  refine RQ.pv rfl (PV.field rfl Fo99_0 rfl) ?_
  refine RQ.pv rfl (PV.load1 rfl Sc40 rfl (Rd.blk rfl)) ?_
  refine RQ.pv rfl (PV.len rfl Tryz.underlying40 rfl (SlF.r (Rs.g (L := []) hcode))) ?_
  refine RQ.pv rfl (PV.lss rfl rfl rfl) ?_
  refine RQ.nil ?_
  have hq := andV_bd (IntKind.u64.wrap (IntKind.u64.wrap (y * 6364136223846793005) + 1442695040888963407) / 2 ^ (33 : Int).toNat)
  refine WP.cond rfl (fun h1 => ?_) (fun h1 => ?_)
  · have h1 := of_decide_eq_true h1
    have hc := (gd bs x.toNat).toNat_lt
    refine WP.seq ?_
    refine WP.regionQ (by kernel_rfl) (by kernel_rfl) ?_
    refine RQ.pv rfl (PV.mvI (.inl rfl) rfl) ?_
    refine RQ.pv rfl (PV.mvP (.inl rfl) rfl) ?_
    refine RQ.pv rfl (PV.nilc rfl rfl) ?_
    refine RQ.pv rfl (PV.field rfl Fo99_0 rfl) ?_
    refine RQ.pv rfl (PV.load1 rfl Sc40 rfl (Rd.blk rfl)) ?_
    refine RQ.pv rfl (PV.mvP (.inl rfl) rfl) ?_
    refine RQ.pv rfl (PV.nilc rfl rfl) ?_
    refine RQ.pv rfl (PV.field rfl Fo99_1 rfl) ?_
    refine RQ.pv rfl (PV.load1 rfl Sc3 rfl (Rd.blk rfl)) ?_
    refine RQ.pv rfl (PV.idxS (j := x.toNat) rfl Is40 rfl (SlF.r (Rs.g (L := []) hcode)) rfl (by omega) (by omega)) ?_
    refine RQ.pv rfl (PV.loadE1 rfl Sc5 rfl rfl (El.r (Rs.g (L := []) hcode) (getG (by omega))) rfl) ?_
    refine RQ.pv rfl (PV.conv rfl ⟨_, Tryz.underlying5⟩ Tryz.underlying2 rfl (u8i _)) ?_
    refine RQ.pv rfl (PV.add rfl rfl rfl (by first | omega | exact u8add (by omega))) ?_
    refine RQ.pv rfl (PV.mvI (.inr rfl) rfl) ?_
    refine RQ.nil ?_
    refine WP.region ?_
    refine RG.pv rfl (PV.mvP (.inl rfl) rfl) ?_
    refine RG.pv rfl (PV.mvP (.inl rfl) rfl) ?_
    refine RG.pv rfl (PV.nilc rfl rfl) ?_
    refine RG.pv rfl (PV.field rfl Fo99_1 rfl) ?_
    refine RG.pv rfl (PV.load1 rfl Sc3 rfl (Rd.blk rfl)) ?_
    refine RG.pv rfl (PV.add rfl rfl rfl (by first | omega | exact u8add (by omega))) ?_
    refine RG.pv rfl (PV.nilc rfl rfl) ?_
    refine RG.pv rfl (PV.field rfl Fo99_1 rfl) ?_
    refine RG.ot rfl (OT.storeB (vs := [vi _]) (cs' := [_, _, _]) rfl Sz3 rfl rfl (Cl.c rfl) rfl (OneC.c rfl) rfl rfl ?_)
    refine RG.nil ?_
    refine WP.seq ?_
    refine WP.region ?_
    refine RG.pv rfl (PV.mvI (.inl rfl) rfl) ?_
    refine RG.pv rfl (PV.mvI (.inl rfl) rfl) ?_
    refine RG.pv rfl (PV.rem rfl rfl rfl (by omega) (by omega) (by omega)) ?_
    refine RG.pv rfl (PV.mvI (.inr rfl) rfl) ?_
    refine RG.nil ?_
    refine WP.ret ?_
    exact ⟨_, _, ResV.one rfl rfl, (Cv.dice (by omega)), k _ ⟨Int.emod_nonneg _ (by omega), Int.emod_lt_of_pos _ (by omega)⟩⟩
  · refine WP.skip ?_
    refine WP.seq ?_
    refine WP.region ?_
    refine RG.pv rfl (PV.mvI (.inl rfl) rfl) ?_
    refine RG.pv rfl (PV.mvI (.inl rfl) rfl) ?_
    refine RG.pv rfl (PV.rem rfl rfl rfl (by omega) (by omega) (by omega)) ?_
    refine RG.pv rfl (PV.mvI (.inr rfl) rfl) ?_
    refine RG.nil ?_
    refine WP.ret ?_
    exact ⟨_, _, ResV.one rfl rfl, (Cv.dice (by omega)), k _ ⟨Int.emod_nonneg _ (by omega), Int.emod_lt_of_pos _ (by omega)⟩⟩
theorem roll_s {s : Int} {cv : Value} {bs : List UInt8} (hcode : SL G byteT cv bs) (k : ∀ b, R (.pointer (some ⟨b, 0, none⟩)) G (dice b cv :: L)) : CallT Tryz.prog 30 #[cv, .int .u64 s] G L R := by
  have hbl := hcode.bound
  refine CallT.enter (args := _) Tryz.func30 rfl rfl (by kernel_rfl) rfl ?_
  refine WP.seq ?_
  refine WP.region ?_
  refine RG.pv rfl (PV.asg rfl rfl) ?_
  refine RG.nil ?_
  refine WP.seq ?_
  refine WP.region ?_
  refine RG.pv rfl (PV.move (v := cv) rfl rfl) ?_
  refine RG.pv rfl (PV.mvI (.inl rfl) rfl) ?_
  refine RG.pv rfl (PV.mulW rfl rfl rfl) ?_
  refine RG.pv rfl (PV.move (v := cv) rfl rfl) ?_
  refine RG.pv rfl (PV.len (v := cv) rfl Tryz.underlying40 rfl (SlF.r (Rs.g (L := []) hcode))) ?_
  refine RG.pv rfl (PV.conv rfl ⟨_, Tryz.underlying3⟩ Tryz.underlying60 rfl rfl) ?_
  refine RG.pv rfl (PV.addW rfl rfl rfl) ?_
  refine RG.pv rfl (PV.build (vs := [(0, [cv]), (2, [.int .u64 _])]) (out := [_, _, _]) rfl Zr99 Pl99 ⟨rfl, (Cl.s (SlF.r (Rs.g (L := []) hcode))), ⟨rfl, (Cl.c rfl), trivial⟩⟩ rfl) ?_
  refine RG.ot rfl (OT.box (cs := [cv, vi 0, _]) rfl rfl rfl fun b15 => ?_)
  refine RG.pv rfl (PV.mvP (.inr rfl) rfl) ?_
  refine RG.nil ?_
  refine WP.seq ?_
  refine WP.seq ?_
  refine WP.region ?_
  refine RG.pv rfl (PV.mvI (.inr rfl) rfl) ?_
  refine RG.nil ?_
  refine WP.block ?_
  refine WP.loop2 [0, 5] (fun (i : Nat) (y : Int) => i ≤ bs.length) (fun (i : Nat) (y : Int) => [(6, vi i)]) (fun (i : Nat) (y : Int) => blk b15 99 [cv, vi 0, .int .u64 y] :: L) (fun (i : Nat) (y : Int) => bs.length - i) 0 (IntKind.u64.wrap (IntKind.u64.wrap (s * 7919) + IntKind.u64.wrap (bs.length : Int))) (by omega) ⟨rfl, trivial⟩ Cv.p ?_
  rintro i y τ hi
  refine WP.seq ?_
  refine WP.seq ?_
  refine WP.region ?_
  refine RG.pv rfl (PV.mvI (.inl rfl) rfl) ?_
  refine RG.pv rfl (PV.move (v := cv) rfl rfl) ?_
  refine RG.pv rfl (PV.len (v := cv) rfl Tryz.underlying40 rfl (SlF.r (Rs.g (L := []) hcode))) ?_
  refine RG.pv rfl (PV.lss rfl rfl rfl) ?_
  refine RG.nil ?_
  refine WP.cond rfl (fun h2 => ?_) (fun h2 => ?_)
  · have h2 := of_decide_eq_true h2
    refine WP.skip ?_
    refine WP.seq ?_
    refine WP.block ?_
    refine WP.regionHD [.b b15] (.q 0 (.q 1 (.q 2 (.q 3 (.q 6 (.q 7 (.q 8 (.q 9 (.q 10 (.l 4 (.q 5 (.q 11 (.q 12 (.q 13 (.q 14 (.l 15 Sch.nil)))))))))))))))) (by kernel_rfl) (by kernel_rfl) (by kernel_rfl) rfl ?_
    refine RH.pv rfl (fun _ _ _ _ h => h) (Gh.le_refl _) PickC.pick rfl (PV.mvP (.inl rfl) rfl) ?_
    refine RH.pv rfl (fun _ _ _ _ h => h) (Gh.le_refl _) PickC.pick rfl (PV.mvP (.inl rfl) rfl) ?_
    refine RH.pv rfl (fun _ _ _ _ h => h) (Gh.le_refl _) PickC.pick rfl (PV.nilc rfl rfl) ?_
    refine RH.pv rfl (fun _ _ _ _ h => h) (Gh.le_refl _) PickC.pick rfl (PV.field rfl Fo99_2 rfl) ?_
    refine RH.pv rfl (fun _ _ _ _ h => h) (Gh.le_refl _) PickC.pick rfl (PV.move (v := cv) rfl rfl) ?_
    refine RH.pv rfl (fun _ _ _ _ h => h) (Gh.le_refl _) PickC.pick rfl (PV.mvI (.inl rfl) rfl) ?_
    refine RH.pv rfl (fun _ _ _ _ h => h) (Gh.le_refl _) PickC.pick rfl (PV.idxS (v := cv) rfl Is40 rfl (SlF.r (Rs.g (L := []) hcode)) rfl rfl (by omega)) ?_
    refine RH.pv rfl (fun _ _ _ _ h => h) (Gh.le_refl _) PickC.pick rfl (PV.loadE1 rfl Sc5 rfl rfl (El.r (Rs.g (L := []) hcode) (getG (by omega))) rfl) ?_
    refine RH.pv rfl (fun _ _ _ _ h => h) (Gh.le_refl _) PickC.pick rfl (PV.conv rfl ⟨_, Tryz.underlying5⟩ Tryz.underlying60 rfl rfl) ?_
    refine RH.ot rfl rfl (OT.pv (PV.load1 rfl Sc60 rfl (Rd.blk rfl)) ⟨Gh.le_refl _, PickC.pick, ?_⟩)
    refine RH.pv rfl (fun _ _ _ _ h => h) (Gh.le_refl _) PickC.pick rfl (PV.mulW rfl rfl rfl) ?_
    refine RH.pv rfl (fun _ _ _ _ h => h) (Gh.le_refl _) PickC.pick rfl (PV.addW rfl rfl rfl) ?_
    refine RH.pv rfl (fun _ _ _ _ h => h) (Gh.le_refl _) PickC.pick rfl (PV.addW rfl rfl rfl) ?_
    refine RH.pv rfl (fun _ _ _ _ h => h) (Gh.le_refl _) PickC.pick rfl (PV.nilc rfl rfl) ?_
    refine RH.pv rfl (fun _ _ _ _ h => h) (Gh.le_refl _) PickC.pick rfl (PV.field rfl Fo99_2 rfl) ?_
    refine RH.ot rfl rfl (OT.storeB (vs := [.int .u64 _]) (cs' := [_, _, _]) rfl Sz60 rfl rfl (Cl.c rfl) rfl (OneC.c rfl) rfl rfl ⟨Gh.le_refl _, PickC.pick, ?_⟩)
    refine RH.nil ?_
    refine WP.region ?_
    refine RG.pv rfl (PV.mvI (.inl rfl) rfl) ?_
    refine RG.pv rfl (PV.add rfl rfl rfl (by omega)) ?_
    refine RG.pv rfl (PV.mvI (.inr rfl) rfl) ?_
    refine RG.nil ?_
    exact ⟨rfl, i + 1, (IntKind.u64.wrap (IntKind.u64.wrap (IntKind.u64.wrap (y * 1099511628211) + IntKind.u64.wrap ((gd bs i).toNat : Int)) + 3)), (by omega), ⟨rfl, trivial⟩, ⟨rfl, rfl, trivial⟩, Cv.p, by omega⟩
  · refine WP.exit ?_
    refine WP.seq ?_
    refine WP.region ?_
    refine RG.pv rfl (PV.mvP (.inl rfl) rfl) ?_
    refine RG.pv rfl (PV.mvP (.inr rfl) rfl) ?_
    refine RG.nil ?_
    refine WP.ret ?_
    exact ⟨_, _, ResV.one rfl rfl, (Cv.dice (by omega)), k b15⟩
end Go.Proofs.YthhjapiggekjbaaGreat
namespace Go.Proofs.YthhjapiggekjbaaGreat
set_option linter.unusedVariables false
set_option linter.unusedSimpArgs false
open Go
set_option maxRecDepth 20000
set_option maxHeartbeats 1000000
set_option linter.unusedSimpArgs false
variable {G : Gh} {L : List Ch} {R : Value → Gh → List Ch → Prop}
theorem l04OpE_s {v u : Value} {xs ys : List Rect} {op : Int} (h1 : Rs G L rectT v xs) (h2 : Rs G L rectT u ys) (hv1 : validRs xs = true) (hv2 : validRs ys = true) (hop : 0 ≤ op ∧ op ≤ 15) (k : ∀ v', R v' G (osl 140 rectT v' (canon (zipB (opF op) (bits xs) (bits ys))) :: L)) : CallT Tryz.prog 58 #[v, u, vi op] G L R := by
  refine CallT.enter (args := _) Tryz.func58 rfl rfl (by kernel_rfl) rfl ?_
  refine WP.seq ?_
  refine WP.region ?_
  refine RG.pv rfl (PV.asg rfl rfl) ?_
  refine RG.nil ?_
  refine WP.seq ?_
  refine WP.region ?_
  refine RG.pv rfl (PV.move (v := v) rfl rfl) ?_
  refine RG.callF (vs := [v]) rfl rfl En62 rfl (l03Bits_s (Rs.up h1) (fun j hj => valid_get hv1 hj) (fun v8 => ?_))
  refine RG.pv rfl (PV.move (v := u) rfl rfl) ?_
  refine RG.callF (vs := [u]) rfl rfl En62 rfl (l03Bits_s (Rs.up h2) (fun j hj => valid_get hv2 hj) (fun v10 => ?_))
  refine RG.pv rfl (PV.mvI (.inl rfl) rfl) ?_
  refine RG.callF (vs := [v8, v10, _]) rfl rfl En107 rfl (l04Combine_s Rs.o Rs.o (bits_length _) (bits_length _) hop (fun v12 => ?_))
  refine RG.callF (vs := [v12]) rfl rfl En98 rfl (l03Canon_s Rs.o (zipB_len (bits_length _) (bits_length _)) (fun v13 => ?_))
  refine RG.pv rfl (PV.asg (v := v13) rfl rfl) ?_
  refine RG.nil ?_
  refine WP.ret ?_
  exact ⟨_, _, ResV.one rfl rfl, Cv.p, k v13⟩
def ovlR (a b : List Rect) : Bool := isReg a && isReg b && decide (0 < ((canon (zipB (opF 8) (bits a) (bits b))).length : Int))
theorem ovlR_tch {a b : List Rect} (h : ovlR a b = true) : Tch (bits a) (bits b) := by
  simp only [ovlR, Bool.and_eq_true, decide_eq_true_eq] at h
  have hl : (zipB (opF 8) (bits a) (bits b)).length = 6400 := zipB_len (bits_length _) (bits_length _)
  have hm := gd_mem (xs := canon (zipB (opF 8) (bits a) (bits b))) (i := 0) (by omega)
  obtain ⟨y, x, hy, hx, hi⟩ := valid_cell (valid_mem (isReg_valid (isReg_canon hl)) hm)
  have hb2 := (gb_bits_iff hy hx).2 ⟨_, hm, hi⟩
  rw [bits_canon hl, gb_zip (bits_length _) (bits_length _) hy hx, opF_and, Bool.and_eq_true] at hb2
  exact ⟨(y, x), (y, x), ⟨hy, hx, hb2.1⟩, ⟨hy, hx, hb2.2⟩, .inl rfl⟩
theorem both_s {v u : Value} {xs ys : List Rect} (h1 : Rs G L rectT v xs) (h2 : Rs G L rectT u ys) (k : R (.bool (isReg xs && isReg ys)) G L) : CallT Tryz.prog 57 #[v, u] G L R := by
  refine CallT.enter (args := _) Tryz.func57 rfl rfl (by kernel_rfl) rfl ?_
  refine WP.seq ?_
  refine WP.region ?_
  refine RG.pv rfl (PV.mvB (.inr rfl) rfl) ?_
  refine RG.nil ?_
  refine WP.seq ?_
  refine WP.region ?_
  refine RG.pv rfl (PV.move (v := v) rfl rfl) ?_
  refine RG.callF (vs := [v]) rfl rfl En106 rfl (l03Ok_s (Rs.up h1) ?_)
  refine RG.pv rfl (PV.mvB (.inl rfl) rfl) ?_
  refine RG.gs rfl rfl rfl (fun hp => (PV.move (v := u) rfl rfl)) ?_
  refine RG.gsC rfl rfl rfl rfl En106 (fun hp => ⟨_, (acons (gs_t hp) anil), l03Ok_s (Rs.up h2) ⟨rfl, rfl, rfl⟩⟩) ?_
  refine RG.pv rfl (PV.pickA rfl rfl (fun hq => gs_t (geqT hq)) rfl) ?_
  refine RG.pv rfl (PV.mvB (.inr rfl) rfl) ?_
  refine RG.nil ?_
  refine WP.ret ?_
  exact ⟨_, _, ResV.one rfl rfl, Cv.p, k⟩
theorem overlaps_s {v u : Value} {xs ys : List Rect} (h1 : Rs G L rectT v xs) (h2 : Rs G L rectT u ys) (hv1 : validRs xs = true) (hv2 : validRs ys = true) (k : R (.bool (ovlR xs ys)) G L) : CallT Tryz.prog 32 #[v, u] G L R := by
  rw [ovlR] at k
  refine CallT.enter (args := _) Tryz.func32 rfl rfl (by kernel_rfl) rfl ?_
  refine WP.seq ?_
  refine WP.region ?_
  refine RG.pv rfl (PV.mvB (.inr rfl) rfl) ?_
  refine RG.nil ?_
  refine WP.seq ?_
  refine WP.region ?_
  refine RG.pv rfl (PV.move (v := v) rfl rfl) ?_
  refine RG.pv rfl (PV.move (v := u) rfl rfl) ?_
  refine RG.callF (vs := [v, u]) rfl rfl En57 rfl (both_s (Rs.up h1) (Rs.up h2) ?_)
  refine RG.pv rfl (PV.mvB (.inl rfl) rfl) ?_
  refine RG.spl (t := 8) rfl (fun g1 => ?_) (fun g1 => ?_)
  · refine RG.take rfl rfl rfl g1 ?_
    refine RG.pv rfl (PV.move (v := v) rfl rfl) ?_
    refine RG.take rfl rfl rfl g1 ?_
    refine RG.pv rfl (PV.move (v := u) rfl rfl) ?_
    refine RG.take rfl rfl rfl g1 ?_
    refine RG.callF (vs := [v, u, _]) rfl rfl En58 rfl (l04OpE_s (op := 8) (Rs.up h1) (Rs.up h2) hv1 hv2 (by omega) (fun v11 => ?_))
    refine RG.take rfl rfl rfl g1 ?_
    refine RG.pv rfl (PV.len (v := v11) rfl Tryz.underlying50 rfl SlF.o) ?_
    refine RG.take rfl rfl rfl g1 ?_
    refine RG.pv rfl (PV.gtr rfl rfl rfl) ?_
    refine RG.pv rfl (PV.pickT rfl rfl g1 rfl) ?_
    refine RG.pv rfl (PV.mvB (.inr rfl) rfl) ?_
    refine RG.nil ?_
    refine WP.ret ?_
    rw [g1, Bool.true_and] at k
    exact ⟨_, _, ResV.one rfl rfl, Cv.p, k⟩
  · refine RG.skip rfl rfl rfl (gne g1) ?_
    refine RG.skip rfl rfl rfl (gne g1) ?_
    refine RG.skip rfl rfl rfl (gne g1) ?_
    refine RG.skip rfl rfl rfl (gne g1) ?_
    refine RG.skip rfl rfl rfl (gne g1) ?_
    refine RG.pv rfl (PV.pickE rfl rfl g1 rfl) ?_
    refine RG.pv rfl (PV.mvB (.inr rfl) rfl) ?_
    refine RG.nil ?_
    refine WP.ret ?_
    rw [g1, Bool.false_and] at k
    exact ⟨_, _, ResV.one rfl rfl, Cv.p, k⟩
theorem dPC_s {cv : Value} {bs : List UInt8} (hcode : SL G byteT cv bs) (k : ∀ v xs n, CellsL xs → R (.tuple #[vT libT ⟨⟨v, xs⟩⟩, vi n]) G (osl 116 cellT v (xs) :: bagS 142 shapeT (shs (xs)) :: bagS 193 labelT (lbs (xs)) :: bagS 195 instT (ins (xs)) :: L)) : CallT Tryz.prog 28 #[cv] G L R := by
  refine CallT.enter (args := _) Tryz.func28 rfl rfl (by kernel_rfl) rfl ?_
  refine WP.seq ?_
  refine WP.region ?_
  refine RG.ot rfl (OT.alloc rfl Zr31 fun b2 => ?_)
  refine RG.pv rfl (PV.mvI (.inr rfl) rfl) ?_
  refine RG.nil ?_
  refine WP.seq ?_
  refine WP.region ?_
  refine RG.pv rfl (PV.move (v := cv) rfl rfl) ?_
  refine RG.callF (vs := [cv]) rfl rfl En44 rfl (dCell_s hcode (fun w5 xs n hx => ?_))
  refine RG.pv rfl (PV.ext rfl rfl rfl) ?_
  refine RG.pv rfl (PV.ext rfl rfl rfl) ?_
  refine RG.ot rfl (OT.storeW (vs := [_]) rfl Sz31 rfl rfl (Cl.c rfl) rfl rfl (OneC.sl (SlF.o (v := w5)) OneC.nil) ?_)
  refine RG.pv rfl (PV.mvI (.inr rfl) rfl) ?_
  refine RG.nil ?_
  refine WP.ret ?_
  exact ⟨_, _, ResV.two rfl (RV1.cell rfl Ag31 rfl) rfl, Cv.p, k w5 xs _ hx⟩
theorem law_HierClasses {cv : Value} {bs : List UInt8} (hcode : SL G byteT cv bs) (k : R (.bool true) G L) : CallT Tryz.prog 6 #[cv] G L R := by
  refine CallT.enter (args := _) Tryz.func6 rfl rfl (by kernel_rfl) rfl ?_
  refine WP.seq ?_
  refine WP.region ?_
  refine RG.pv rfl (PV.mvB (.inr rfl) rfl) ?_
  refine RG.nil ?_
  refine WP.seq ?_
  refine WP.seq ?_
  refine WP.region ?_
  refine RG.pv rfl (PV.move (v := cv) rfl rfl) ?_
  refine RG.callF (vs := [cv]) rfl rfl En19 rfl (big_s hcode ?_)
  refine RG.nil ?_
  refine WP.cond rfl (fun h0 => ?_) (fun h0 => ?_)
  · refine WP.seq ?_
    refine WP.region ?_
    refine RG.pv rfl (PV.mvB (.inr rfl) rfl) ?_
    refine RG.nil ?_
    refine WP.ret ?_
    exact ⟨_, _, ResV.one rfl rfl, Cv.p, k⟩
  · refine WP.skip ?_
    refine WP.seq ?_
    refine WP.region ?_
    refine RG.pv rfl (PV.move (v := cv) rfl rfl) ?_
    refine RG.callF (vs := [cv]) rfl rfl En28 rfl (dPC_s hcode (fun w19 xs n hx => ?_))
    refine RG.pv rfl (PV.move (v := .tuple _) rfl rfl) ?_
    refine RG.pv rfl (PV.ext rfl rfl rfl) ?_
    refine RG.pv rfl (PV.ext rfl rfl rfl) ?_
    refine RG.ot rfl (OT.alloc rfl Zr31 fun b3 => ?_)
    refine RG.ot rfl (OT.storeW (vs := [_]) rfl Sz31 rfl rfl (Cl.c rfl) rfl rfl (OneC.sl (SlF.o (v := w19)) OneC.nil) ?_)
    refine RG.pv rfl (PV.mvI (.inr rfl) rfl) ?_
    refine RG.nil ?_
    refine WP.seq ?_
    refine WP.region ?_
    refine RG.pv rfl (PV.loadW rfl Ag31 rfl rfl) ?_
    refine RG.pv rfl (PV.mvI (.inl rfl) rfl) ?_
    refine RG.callF (vs := [_, _]) rfl rfl En11 rfl (pc_i (l := ⟨⟨w19, xs⟩⟩) ⟨Rs.o, RsE.o, RsE.o, RsE.o⟩ hx.lenC (fun w25 => ?_))
    refine RG.pv rfl (PV.move (v := .tuple _) rfl rfl) ?_
    refine RG.pv rfl (PV.ext (v := w25) rfl rfl rfl) ?_
    refine RG.pv rfl (PV.ext rfl rfl rfl) ?_
    refine RG.pv rfl (PV.asg (v := w25) rfl rfl) ?_
    refine RG.pv rfl (PV.mvI (.inr rfl) rfl) ?_
    refine RG.nil ?_
    refine WP.seq ?_
    refine WP.region ?_
    refine RG.pv rfl (PV.loadW rfl Ag31 rfl rfl) ?_
    refine RG.pv rfl (PV.mvI (.inl rfl) rfl) ?_
    refine RG.callF (vs := [_, _]) rfl rfl En24 rfl (pp_i (l := ⟨⟨w19, xs⟩⟩) ⟨Rs.o, RsE.o, RsE.o, RsE.o⟩ hx.lenC (fun w31 qs hq => ?_))
    refine RG.pv rfl (PV.move (v := .tuple _) rfl rfl) ?_
    refine RG.pv rfl (PV.ext (v := w31) rfl rfl rfl) ?_
    refine RG.pv rfl (PV.ext rfl rfl rfl) ?_
    refine RG.pv rfl (PV.asg (v := w31) rfl rfl) ?_
    refine RG.pv rfl (PV.mvI (.inr rfl) rfl) ?_
    refine RG.nil ?_
    refine WP.seq ?_
    refine WP.seq ?_
    refine WP.region ?_
    refine RG.pv rfl (PV.mvI (.inl rfl) rfl) ?_
    refine RG.pv rfl (PV.neq rfl rfl rfl) ?_
    refine RG.nil ?_
    refine WP.cond rfl (fun h1 => ?_) (fun h1 => ?_)
    · have h1 : hcC (erCls xs) n ≠ 0 := by simpa using h1
      have hb : (decide (((hcR (erCls xs) n).length : Int) = 0) && (decide (ppC (erCls xs) n = hcC (erCls xs) n) || decide (ppC (erCls xs) n = 0) && decide (hcC (erCls xs) n = 6))) = true := by
        rw [hcR_no h1]
        by_cases h2 : ppC (erCls xs) n = 0
        · have h3 : hcC (erCls xs) n = 6 := by
            by_cases h4 : 0 < (crL (erCls xs) n).length
            · exact hcC_cr h2 h4
            · exact absurd (hcC_ok h2 h4) h1
          simp [h2, h3]
        · simp [hcC_pp h2]
      rw [← hb] at k
      refine WP.seq ?_
      refine WP.region ?_
      refine RG.pv rfl (PV.move (v := w25) rfl rfl) ?_
      refine RG.pv rfl (PV.len (v := w25) rfl Tryz.underlying26 rfl SlF.o) ?_
      refine RG.pv rfl (PV.eql rfl rfl rfl) ?_
      refine RG.pv rfl (PV.mvB (.inl rfl) rfl) ?_
      refine RG.gs rfl rfl rfl (fun hp => (PV.mvI (.inl rfl) rfl)) ?_
      refine RG.gs rfl rfl rfl (fun hp => (PV.mvI (.inl rfl) rfl)) ?_
      refine RG.gs rfl rfl rfl (fun hp => (PV.eql rfl (gs_t hp) (gs_t hp))) ?_
      refine RG.gs rfl rfl rfl (fun hp => (PV.mvB (.inl rfl) (gs_t hp))) ?_
      refine RG.gs2 rfl rfl rfl (fun hp => (PV.mvI (.inl rfl) rfl)) ?_
      refine RG.gs2 rfl rfl rfl (fun hp => (PV.eql rfl (gs_t hp) rfl)) ?_
      refine RG.gs2 rfl rfl rfl (fun hp => (PV.mvB (.inl rfl) (gs_t hp))) ?_
      refine RG.gs2 rfl rfl rfl (fun hp => (PV.mvI (.inl rfl) rfl)) ?_
      refine RG.gs2 rfl rfl rfl (fun hp => (PV.eql rfl (gs_t hp) rfl)) ?_
      refine RG.gs2 rfl rfl rfl (fun hp => (PV.pickA rfl (gs_t hp) (fun hq => gs_t (gandT hp hq)) rfl)) ?_
      refine RG.gs rfl rfl rfl (fun hp => (PV.pickO rfl (gs_t hp) rfl (fun hq => gs_t (gandF hp hq)))) ?_
      refine RG.pv rfl (PV.pickA rfl rfl (fun hq => gs_t (geqT hq)) rfl) ?_
      refine RG.pv rfl (PV.mvB (.inr rfl) rfl) ?_
      refine RG.nil ?_
      refine WP.ret ?_
      exact ⟨_, _, ResV.one rfl rfl, Cv.p, k⟩
    · have h1 : hcC (erCls xs) n = 0 := by simpa using h1
      obtain ⟨h2, h3⟩ := hcC_0 h1
      obtain ⟨hs0, hPA⟩ := hc_all h1
      have hly := isLay_fly hs0
      have hp4 := (ppC_0 h2).2
      rw [ppR_yes h2] at hq
      have hql : qs.length = (ppAll (erCls xs) n).length := by rw [← erQs_len, hq]
      have hCl : (hcR (erCls xs) n).length = qs.length := by rw [hcR_yes h1, clsH_len, plE_len, hql]
      have hrt := clsH_rt (flyL (erCls xs) n) (plE (erCls xs) n)
      rw [← hcR_yes h1] at hrt
      have hreg : ∀ i, i < qs.length → isReg (gd qs i).piece.reg.xs = true := fun i hi => placed_reg hq hi
      have hva : ∀ i, i < qs.length → validRs (gd qs i).piece.reg.xs = true := fun i hi => isReg_valid (hreg i hi)
      have hE : plE (erCls xs) n = (erQs qs).map Prod.snd := by rw [hq]; rfl
      have hjoin : ∀ i j, i < qs.length → j < qs.length → (gd qs i).piece.layer = (gd qs j).piece.layer → ovlR (gd qs i).piece.reg.xs (gd qs j).piece.reg.xs = true → gd (hcR (erCls xs) n) i = gd (hcR (erCls xs) n) j := fun i j hi hj e ho => by
        have hel : (plE (erCls xs) n).length = qs.length := by rw [plE_len, hql]
        rw [hcR_yes h1]
        refine hPA.join hly (by omega) (by omega) ((hPA.iff hly (by omega) (by omega)).2 (.inl ?_))
        rw [hE, erQs_snd hi, erQs_snd hj]
        exact ⟨e, ovlR_tch ho⟩
      generalize hcR (erCls xs) n = C at *
      have hcr : ∀ i, i < qs.length → Rs G (bagS 140 rectT (regsQ qs) :: []) rectT (gd qs i).piece.reg.v (gd qs i).piece.reg.xs := fun i hi => RsE.regQ RsE.o hi
      refine WP.skip ?_
      refine WP.seq ?_
      refine WP.region ?_
      refine RG.pv rfl (PV.loadW rfl Ag31 rfl rfl) ?_
      refine RG.pv rfl (PV.mvI (.inl rfl) rfl) ?_
      refine RG.callF (vs := [_, _]) rfl rfl En29 rfl (pp_r (l := ⟨⟨w19, xs⟩⟩) ⟨Rs.o, RsE.o, RsE.o, RsE.o⟩ hx.lenC (fun w55 qs2 hq2 => ?_))
      refine RG.pv rfl (PV.move (v := .tuple _) rfl rfl) ?_
      refine RG.pv rfl (PV.ext (v := w55) rfl rfl rfl) ?_
      refine RG.pv rfl (PV.ext rfl rfl rfl) ?_
      refine RG.pv rfl (PV.asg (v := w55) rfl rfl) ?_
      refine RG.pv rfl (PV.mvI (.inr rfl) rfl) ?_
      refine RG.nil ?_
      refine WP.seq ?_
      refine WP.seq ?_
      refine WP.region ?_
      refine RG.pv rfl (PV.mvI (.inl rfl) rfl) ?_
      refine RG.pv rfl (PV.neq rfl rfl rfl) ?_
      refine RG.pv rfl (PV.mvB (.inl rfl) rfl) ?_
      refine RG.gs rfl rfl rfl (fun hp => (PV.mvI (.inl rfl) rfl)) ?_
      refine RG.gs rfl rfl rfl (fun hp => (PV.neq rfl (gs_t hp) rfl)) ?_
      refine RG.pv rfl (PV.pickO rfl rfl rfl (fun hq => gs_t (geqF hq))) ?_
      refine RG.pv rfl (PV.mvB (.inl rfl) rfl) ?_
      refine RG.gs rfl rfl rfl (fun hp => (PV.move (v := w25) rfl rfl)) ?_
      refine RG.gs rfl rfl rfl (fun hp => (PV.len (v := w25) rfl Tryz.underlying26 (gs_t hp) SlF.o)) ?_
      refine RG.gs rfl rfl rfl (fun hp => (PV.move (v := w31) rfl rfl)) ?_
      refine RG.gs rfl rfl rfl (fun hp => (PV.len (v := w31) rfl Tryz.underlying53 (gs_t hp) SlF.o)) ?_
      refine RG.gs rfl rfl rfl (fun hp => (PV.neq rfl (gs_t hp) (gs_t hp))) ?_
      refine RG.pv rfl (PV.pickO rfl rfl rfl (fun hq => gs_t (geqF hq))) ?_
      refine RG.pv rfl (PV.mvB (.inl rfl) rfl) ?_
      refine RG.gs rfl rfl rfl (fun hp => (PV.move (v := w31) rfl rfl)) ?_
      refine RG.gs rfl rfl rfl (fun hp => (PV.len (v := w31) rfl Tryz.underlying53 (gs_t hp) SlF.o)) ?_
      refine RG.gs rfl rfl rfl (fun hp => (PV.move (v := w55) rfl rfl)) ?_
      refine RG.gs rfl rfl rfl (fun hp => (PV.len (v := w55) rfl Tryz.underlying53 (gs_t hp) SlF.o)) ?_
      refine RG.gs rfl rfl rfl (fun hp => (PV.neq rfl (gs_t hp) (gs_t hp))) ?_
      refine RG.pv rfl (PV.pickO rfl rfl rfl (fun hq => gs_t (geqF hq))) ?_
      refine RG.nil ?_
      have hq2l : qs2.length = qs.length := by
        have e : erQs qs2 = erQs qs := by rw [hq2, hq, ppR_yes h2]
        rw [← erQs_len qs2, e, erQs_len]
      refine WP.cond rfl (fun h4 => ?_) (fun h4 => ?_)
      · simp [h2, hCl, hq2l] at h4
      · refine WP.skip ?_
        refine WP.seq ?_
        refine WP.region ?_
        refine RG.pv rfl (PV.move (v := cv) rfl rfl) ?_
        refine RG.callF (vs := [cv, _]) rfl rfl En30 rfl (roll_s hcode (fun b => ?_))
        refine RG.pv rfl (PV.asg rfl rfl) ?_
        refine RG.nil ?_
        refine WP.seq ?_
        refine WP.seq ?_
        refine WP.region ?_
        refine RG.pv rfl (PV.mvI (.inr rfl) rfl) ?_
        refine RG.nil ?_
        refine WP.block ?_
        refine WP.loop1 [5, 7, 11] (fun i => i ≤ qs.length) (fun i => [(12, vi i)]) (fun i => dice b cv :: osl 65 ppieceT w31 qs :: bagS 140 rectT (regsQ qs) :: osl 2 intT w25 C :: L) (fun i => qs.length - i) 0 (by omega) ⟨rfl, trivial⟩ Cv.p ?_
        rintro i τ hi
        refine WP.seq ?_
        refine WP.seq ?_
        refine WP.region ?_
        refine RG.pv rfl (PV.mvI (.inl rfl) rfl) ?_
        refine RG.pv rfl (PV.move (v := w31) rfl rfl) ?_
        refine RG.pv rfl (PV.len (v := w31) rfl Tryz.underlying53 rfl SlF.o) ?_
        refine RG.pv rfl (PV.lss rfl rfl rfl) ?_
        refine RG.nil ?_
        refine WP.cond rfl (fun h5 => ?_) (fun h5 => ?_)
        · have h5 := of_decide_eq_true h5
          have h6 : i < qs.length := by omega
          obtain ⟨r1, r2, r3⟩ := hrt i (by omega)
          refine WP.skip ?_
          refine WP.seq ?_
          refine WP.block ?_
          refine WP.seq ?_
          refine WP.region ?_
          refine RG.pv rfl (PV.move (v := w25) rfl rfl) ?_
          refine RG.pv rfl (PV.mvI (.inl rfl) rfl) ?_
          refine RG.pv rfl (PV.idxS (j := i) (v := w25) rfl Is26 rfl SlF.o rfl (by omega) (by omega)) ?_
          refine RG.pv rfl (PV.loadE1 rfl Sc2 rfl rfl (El.o (getG (by omega))) rfl) ?_
          refine RG.pv rfl (PV.mvI (.inr rfl) rfl) ?_
          refine RG.nil ?_
          refine WP.seq ?_
          refine WP.seq ?_
          refine WP.region ?_
          refine RG.pv rfl (PV.mvI (.inl rfl) rfl) ?_
          refine RG.pv rfl (PV.lss rfl rfl rfl) ?_
          refine RG.pv rfl (PV.mvB (.inl rfl) rfl) ?_
          refine RG.gs rfl rfl rfl (fun hp => (PV.mvI (.inl rfl) rfl)) ?_
          refine RG.gs rfl rfl rfl (fun hp => (PV.mvI (.inl rfl) rfl)) ?_
          refine RG.gs rfl rfl rfl (fun hp => (PV.gtr rfl (gs_t hp) (gs_t hp))) ?_
          refine RG.pv rfl (PV.pickO rfl rfl rfl (fun hq => gs_t (geqF hq))) ?_
          refine RG.pv rfl (PV.mvB (.inl rfl) rfl) ?_
          refine RG.gs rfl rfl rfl (fun hp => (PV.move (v := w25) rfl rfl)) ?_
          refine RG.gs rfl rfl rfl (fun hp => (PV.mvI (.inl rfl) rfl)) ?_
          refine RG.gs rfl rfl rfl (fun hp => (PV.idxS (j := (gd C i).toNat) (v := w25) rfl Is26 (gs_t hp) SlF.o (gs_t hp) (by first | omega | (simp at hp; omega)) (by first | omega | (simp at hp; omega)))) ?_
          refine RG.gs rfl rfl rfl (fun hp => (PV.loadE1 rfl Sc2 (gs_t hp) rfl (El.o (getG (by first | omega | (simp at hp; omega)))) rfl)) ?_
          refine RG.gs rfl rfl rfl (fun hp => (PV.mvI (.inl rfl) rfl)) ?_
          refine RG.gs rfl rfl rfl (fun hp => (PV.neq rfl (gs_t hp) (gs_t hp))) ?_
          refine RG.pv rfl (PV.pickO rfl rfl rfl (fun hq => gs_t (geqF hq))) ?_
          refine RG.nil ?_
          refine WP.cond rfl (fun h7 => ?_) (fun h7 => ?_)
          · have : ¬ gd C i < 0 := by omega
            have : ¬ (i : Int) < gd C i := by omega
            simp [*] at h7
          · skip
            refine WP.skip ?_
            refine WP.seq ?_
            refine WP.region ?_
            refine RG.pv rfl (PV.move rfl rfl) ?_
            refine RG.pv rfl (PV.mvI (.inl rfl) rfl) ?_
            refine RG.pv rfl (PV.add rfl rfl rfl (by omega)) ?_
            refine RG.callF (vs := [_, _]) rfl rfl En31 rfl (CallT.exC (dice b cv) (below_s hcode (by omega) (fun w108 hw108 => ?_)))
            refine RG.pv rfl (PV.mvI (.inr rfl) rfl) ?_
            refine RG.nil ?_
            refine WP.seq ?_
            refine WP.regionQ (by kernel_rfl) (by kernel_rfl) ?_
            refine RQ.pv rfl (PV.move (v := w31) rfl rfl) ?_
            refine RQ.pv rfl (PV.mvI (.inl rfl) rfl) ?_
            refine RQ.pv rfl (PV.idxS (j := i) (v := w31) rfl Is53 rfl SlF.o rfl (by omega) (by omega)) ?_
            refine RQ.pv rfl (PV.field rfl Fo65_1 rfl) ?_
            refine RQ.pv rfl (PV.field rfl Fo63_0 rfl) ?_
            refine RQ.pv rfl (PV.loadF rfl Sc2 rfl rfl (El.o (getG (by omega))) rfl) ?_
            refine RQ.pv rfl (PV.move (v := w31) rfl rfl) ?_
            refine RQ.pv rfl (PV.mvI (.inl rfl) rfl) ?_
            refine RQ.pv rfl (PV.idxS (j := w108.toNat) (v := w31) rfl Is53 rfl SlF.o rfl (by omega) (by omega)) ?_
            refine RQ.pv rfl (PV.field rfl Fo65_1 rfl) ?_
            refine RQ.pv rfl (PV.field rfl Fo63_0 rfl) ?_
            refine RQ.pv rfl (PV.loadF rfl Sc2 rfl rfl (El.o (getG (by omega))) rfl) ?_
            refine RQ.pv rfl (PV.eql rfl rfl rfl) ?_
            refine RQ.pv rfl (PV.mvB (.inl rfl) rfl) ?_
            refine RQ.gs rfl rfl rfl (fun hp => (PV.move (v := w31) rfl rfl)) ?_
            refine RQ.gs rfl rfl rfl (fun hp => (PV.mvI (.inl rfl) rfl)) ?_
            refine RQ.gs rfl rfl rfl (fun hp => (PV.idxS (j := i) (v := w31) rfl Is53 (gs_t hp) SlF.o (gs_t hp) (by first | omega | (simp at hp; omega)) (by first | omega | (simp at hp; omega)))) ?_
            refine RQ.gs rfl rfl rfl (fun hp => (PV.field rfl Fo65_1 (gs_t hp))) ?_
            refine RQ.gs rfl rfl rfl (fun hp => (PV.field rfl Fo63_1 (gs_t hp))) ?_
            refine RQ.gs rfl rfl rfl (fun hp => (PV.loadF (F := ppieceT) (v := w31) (i := i) (j := 2) rfl Sc50 (gs_t hp) rfl (El.o (getG (by omega))) rfl)) ?_
            refine RQ.gs rfl rfl rfl (fun hp => (PV.move (v := w31) rfl rfl)) ?_
            refine RQ.gs rfl rfl rfl (fun hp => (PV.mvI (.inl rfl) rfl)) ?_
            refine RQ.gs rfl rfl rfl (fun hp => (PV.idxS (j := w108.toNat) (v := w31) rfl Is53 (gs_t hp) SlF.o (gs_t hp) (by first | omega | (simp at hp; omega)) (by first | omega | (simp at hp; omega)))) ?_
            refine RQ.gs rfl rfl rfl (fun hp => (PV.field rfl Fo65_1 (gs_t hp))) ?_
            refine RQ.gs rfl rfl rfl (fun hp => (PV.field rfl Fo63_1 (gs_t hp))) ?_
            refine RQ.gs rfl rfl rfl (fun hp => (PV.loadF (F := ppieceT) (v := w31) (i := w108.toNat) (j := 2) rfl Sc50 (gs_t hp) rfl (El.o (getG (by omega))) rfl)) ?_
            refine RQ.gsC rfl rfl rfl rfl En32 (fun hp => ⟨_, (acons (gs_t hp) (acons (gs_t hp) anil)), overlaps_s (hcr i (by omega)).up (hcr w108.toNat (by omega)).up (hva i (by omega)) (hva w108.toNat (by omega)) ⟨rfl, rfl, rfl⟩⟩) ?_
            refine RQ.pv rfl (PV.pickA rfl rfl (fun hq => gs_t (geqT hq)) rfl) ?_
            refine RQ.pv rfl (PV.mvB (.inl rfl) rfl) ?_
            refine RQ.gs rfl rfl rfl (fun hp => (PV.move (v := w25) rfl rfl)) ?_
            refine RQ.gs rfl rfl rfl (fun hp => (PV.mvI (.inl rfl) rfl)) ?_
            refine RQ.gs rfl rfl rfl (fun hp => (PV.idxS (j := i) (v := w25) rfl Is26 (gs_t hp) SlF.o (gs_t hp) (by first | omega | (simp at hp; omega)) (by first | omega | (simp at hp; omega)))) ?_
            refine RQ.gs rfl rfl rfl (fun hp => (PV.loadE1 rfl Sc2 (gs_t hp) rfl (El.o (getG (by first | omega | (simp at hp; omega)))) rfl)) ?_
            refine RQ.gs rfl rfl rfl (fun hp => (PV.move (v := w25) rfl rfl)) ?_
            refine RQ.gs rfl rfl rfl (fun hp => (PV.mvI (.inl rfl) rfl)) ?_
            refine RQ.gs rfl rfl rfl (fun hp => (PV.idxS (j := w108.toNat) (v := w25) rfl Is26 (gs_t hp) SlF.o (gs_t hp) (by first | omega | (simp at hp; omega)) (by first | omega | (simp at hp; omega)))) ?_
            refine RQ.gs rfl rfl rfl (fun hp => (PV.loadE1 rfl Sc2 (gs_t hp) rfl (El.o (getG (by first | omega | (simp at hp; omega)))) rfl)) ?_
            refine RQ.gs rfl rfl rfl (fun hp => (PV.neq rfl (gs_t hp) (gs_t hp))) ?_
            refine RQ.pv rfl (PV.pickA rfl rfl (fun hq => gs_t (geqT hq)) rfl) ?_
            refine RQ.nil ?_
            refine WP.cond rfl (fun h8 => ?_) (fun h8 => ?_)
            · exfalso
              simp only [Bool.and_eq_true, decide_eq_true_eq, bne_iff_ne, Bool.not_eq_true', decide_eq_false_iff_not] at h8
              exact h8.2 (hjoin i w108.toNat h6 (by omega) h8.1.1 h8.1.2)
            · refine WP.skip ?_
              refine WP.region ?_
              refine RG.pv rfl (PV.mvI (.inl rfl) rfl) ?_
              refine RG.pv rfl (PV.add rfl rfl rfl (by omega)) ?_
              refine RG.pv rfl (PV.mvI (.inr rfl) rfl) ?_
              refine RG.nil ?_
              exact ⟨rfl, i + 1, (by omega), ⟨rfl, trivial⟩, ⟨rfl, rfl, rfl, trivial⟩, Cv.p, by omega⟩
        · refine WP.exit ?_
          refine WP.seq ?_
          refine WP.region ?_
          refine RG.pv rfl (PV.mvB (.inr rfl) rfl) ?_
          refine RG.nil ?_
          refine WP.ret ?_
          exact ⟨_, _, ResV.one rfl rfl, Cv.p, k⟩
end Go.Proofs.YthhjapiggekjbaaGreat
namespace Go.Proofs.YthhjapiggekjbaaGreat
set_option linter.unusedVariables false
set_option linter.unusedSimpArgs false
open Go Go.ChangeShapes Go.WideShapes Go.ChangeAt Go.RowKit Go.Deep
set_option linter.unusedVariables false
def Gw (w : World) : Gh := ⟨wh w, w.os, w.tape, w.output, w.drawn⟩
theorem St.start (w : World) : St (Gw w) [] w := ⟨fun _ => none, trivial, Hp.le_refl _, (fun _ _ h => by cases h), fun _ => .inl rfl, rfl, rfl, rfl, Nat.le_refl _⟩
/-- behind a call that began in W, all of W's blocks are as they were -/
theorem St.below {W w' : World} {G : Gh} {L : List Ch} (l : Gh.le (Gw W) G) (h : St G L w') : Below W.heap.size W w' := by
  obtain ⟨hp, s, l1, l2, d, ok⟩ := h
  have ok' := Gh.le_ok l ok
  have up := Hp.le_trans l.1 l1
  have key : ∀ k, k < W.heap.size → w'.heap[k]? = W.heap[k]? := fun k hk => by
    have : (Gw W).f k = some W.heap[k] := by simp [Gw, wh, hk]
    have h2 := up k _ this
    simp only [wh] at h2
    rw [h2]; simp [hk]
  refine ⟨ok'.1, ok'.2.1, ok'.2.2.1, ?_, key⟩
  by_cases h0 : W.heap.size = 0
  · omega
  · have := key (W.heap.size - 1) (by omega)
    rw [Array.getElem?_eq_getElem (by omega : W.heap.size - 1 < W.heap.size)] at this
    have := (Array.getElem?_eq_some_iff.1 this).1
    omega
def Opn {ρ : Type} (P : Program) (t : TypeId) (F : FT ρ) (ok : Gh → ρ → Prop) : Prop :=
  ∀ {H : Type} {enc : TypeId × Value → H} {w : World} {fuel : Nat} {cs : List Value} {x : DataW H × List MemPlace}, DataW.trod enc P w 0 (fun _ => true) true fuel t cs = some x → ∃ a : ρ, cs = F.enc a ∧ ok (Gw w) a
def okL {ρ : Type} [Inhabited ρ] (F : FT ρ) (ok : Gh → ρ → Prop) (G : Gh) (v : Value) : Prop := ∃ xs : List ρ, SL G F v xs ∧ ∀ i, i < xs.length → ok G (gd xs i)
section
variable {P : Program} {t e : TypeId}
theorem cells_get {w : World} {a : Addr} {n : Nat} {cs : List Value} (h : w.cells? 0 a n = some cs) : cs.length = n ∧ ∀ j c, cs[j]? = some c → w.cell? (a.add j) = some c := by
  obtain ⟨_, h1, h2⟩ := World.cells?_some h
  refine ⟨h1, fun j c hc => ?_⟩
  have hj := (List.getElem?_eq_some_iff.1 hc).1
  rw [h2 j (by omega), hc]
theorem opnL {ρ : Type} [Inhabited ρ] {F : FT ρ} {ok : Gh → ρ → Prop} (ht : P.underlying t = some (.slice e)) (hE : Opn P e F ok) (hc : P.cellsOf e = F.sz) (h0 : 0 < F.sz) : Opn P t rawT (okL F ok) := fun {H enc w fuel cs x} h => by
  rcases open_slice ht h with ⟨rfl, _⟩ | ⟨a, len, cap, m, n, D, Pl, rfl, _, hl, hm, hmm, _, hel⟩
  · exact ⟨_, rfl, [], ⟨⟨0, Nat.le_refl _, Nat.zero_le _, .inr ⟨⟨_, rfl⟩, rfl⟩⟩, fun j c hj => by simp [FT.flat] at hj⟩, fun i hi => by simp at hi⟩
  have hmcap : m = cap := by simpa using hmm
  refine ⟨.slice (some a) len cap, rfl, ?_⟩
  have hall : ∀ i, i < len → ∃ r : ρ, w.cells? 0 (a.add (i * F.sz)) F.sz = some (F.enc r) ∧ ok (Gw w) r := fun i hi => by
    obtain ⟨cs', h1, h2⟩ := hel i (by omega)
    obtain ⟨r, rfl, hr⟩ := hE h2
    rw [hc] at h1
    exact ⟨r, h1, hr⟩
  have : ∃ f : Nat → ρ, ∀ i, i < len → w.cells? 0 (a.add (i * F.sz)) F.sz = some (F.enc (f i)) ∧ ok (Gw w) (f i) := choose_lt hall
  obtain ⟨f, hf⟩ := this
  have hlen : ((List.range len).map f).length = len := by simp
  have hget : ∀ i, i < len → ((List.range len).map f)[i]? = some (f i) := fun i hi => by simp [hi]
  have hsp : len ≠ 0 → a.spot = none := fun hz => by
    obtain ⟨h1, _⟩ := hf 0 (by omega)
    obtain ⟨hl1, hg⟩ := cells_get h1
    cases hq : (F.enc (f 0))[0]? with
    | none => rw [List.getElem?_eq_none_iff] at hq; omega
    | some c =>
      have hcell := hg 0 c hq
      cases hs : a.spot with
      | none => rfl
      | some s =>
        exfalso
        have h3 : ((a.add (0 * F.sz)).add 0).spot.isSome = true := by simp [Addr.add, hs]
        unfold World.cell? at hcell
        split at hcell
        · rw [if_pos h3] at hcell; cases hcell
        · cases hcell
  refine ⟨(List.range len).map f, ⟨⟨cap, by simpa using hl, hm, ?_⟩, ?_⟩, fun i hi => ?_⟩
  · by_cases hz : len = 0
    · exact .inr ⟨⟨some a, by simp⟩, by simpa using hz⟩
    · refine .inl ⟨a.block, a.off, ?_⟩
      have hsp := hsp hz
      simp only [hlen]
      obtain ⟨ab, ao, az⟩ := a
      simp only at hsp
      subst hsp; rfl
  · intro j c hj
    by_cases hz : len = 0
    · subst hz; simp [FT.flat] at hj
    have hsp := hsp hz
    have hjl : j < len * F.sz := by
      have := (List.getElem?_eq_some_iff.1 hj).1
      rwa [FT.flat_len, hlen] at this
    have hq : j / F.sz < len := (Nat.div_lt_iff_lt_mul h0).2 hjl
    have hr : j % F.sz < F.sz := Nat.mod_lt _ h0
    have hjd : j / F.sz * F.sz + j % F.sz = j := by rw [Nat.mul_comm]; exact Nat.div_add_mod j F.sz
    obtain ⟨h1, _⟩ := hf (j / F.sz) hq
    obtain ⟨_, hg⟩ := cells_get h1
    have hc' : (F.enc (f (j / F.sz)))[j % F.sz]? = some ((F.enc (f (j / F.sz)))[j % F.sz]'(by rw [F.len]; exact hr)) := List.getElem?_eq_getElem _
    have hfl := F.flat_get (hget _ hq) hc'
    rw [hjd, hj] at hfl
    have hcell := hg _ _ hc'
    obtain ⟨ab, ao, az⟩ := a
    simp only at hsp
    subst hsp
    rw [add_none, add_none, cell_hc, Nat.add_assoc, hjd] at hcell
    simp only [sb, so, Gw]
    rw [hcell]; exact hfl.symm
  · have hi' : i < len := by simpa using hi
    have : gd ((List.range len).map f) i = f i := by simp [gd, hi']
    rw [this]; exact (hf i hi').2
end
def okSl {ρ : Type} [Inhabited ρ] (F : FT ρ) (ok : Gh → ρ → Prop) (G : Gh) (s : Sl ρ) : Prop := SL G F s.v s.xs ∧ ∀ i, i < s.xs.length → ok G (gd s.xs i)
theorem opnSl {P : Program} {t e : TypeId} {ρ : Type} [Inhabited ρ] {F : FT ρ} {ok : Gh → ρ → Prop} (ht : P.underlying t = some (.slice e)) (hE : Opn P e F ok) (hc : P.cellsOf e = F.sz) (h0 : 0 < F.sz) : Opn P t slT (okSl F ok) := fun h => by
  obtain ⟨v, rfl, xs, h1, h2⟩ := opnL ht hE hc h0 h
  exact ⟨⟨v, xs⟩, rfl, h1, h2⟩
section
variable {P : Program} {t e : TypeId} {H : Type} {enc : TypeId × Value → H} {W : World} {r : Reach} {base : Nat} {v : Value} {d : DataW H} {ps : List MemPlace}
theorem argSl {ρ : Type} {ok : Gh → Sl ρ → Prop} (ht : P.underlying t = some (.slice e)) (hO : Opn P t slT ok) (hv : Value.okWide P W r base t v) (h : DataW.Trod enc P W 0 (fun _ => true) true t v d ps) : ∃ s : Sl ρ, v = s.v ∧ ok (Gw W) s := by
  obtain ⟨a, n, c, rfl⟩ := okWide_slice ht hv
  obtain ⟨fuel, hf⟩ := h
  obtain ⟨m, e1, hm⟩ := hO hf
  simp [Value.cells, slT] at e1
  exact ⟨m, e1, hm⟩
theorem trodAll_stays (hl : laidOutB P = true) {W' : World} (hb : Below W.heap.size W W') : ∀ {ts : List TypeId} {vs : List Value} {ds : List (DataW H)} {ps : List MemPlace}, (∀ t ∈ ts, P.readableRec t = true ∧ t < P.types.size) → (∀ x ∈ ps, x.block < W.heap.size) →
    DataW.TrodAll enc P W 0 (fun _ => true) true ts vs ds ps → DataW.TrodAll enc P W' 0 (fun b => decide (b < W.heap.size)) true ts vs ds ps
  | [], [], [], _, _, _, h => h
  | t :: ts, v :: vs, d :: ds, ps, hr, hlt, h => by
    obtain ⟨p, q, h1, h2, rfl⟩ := h
    have := hr t (.head _)
    exact ⟨p, q, Below.trod hl this.1 this.2 h1 hb (fun x hx => hlt x (List.mem_append_left _ hx)), trodAll_stays hl hb (fun t ht => hr t (.tail _ ht)) (fun x hx => hlt x (List.mem_append_right _ hx)) h2, rfl⟩
end
def recsB (P : Program) (ts : List TypeId) : Bool := ts.all fun t => P.readableRec t && Nat.blt t P.types.size
theorem recs_of {P : Program} {ts : List TypeId} (h : recsB P ts = true) : ∀ t ∈ ts, P.readableRec t = true ∧ t < P.types.size := by
  intro t ht
  have := List.all_eq_true.1 h t ht
  simp only [Bool.and_eq_true] at this
  exact ⟨this.1, Nat.le_of_ble_eq_true this.2⟩
/-- A LAW, LIFTED: the call returns true, the arguments read as they did. -/
theorem law_lifted {H : Type} {enc : TypeId × Value → H} {C : Checked} {os : Os} {f : FuncId} {fn : Func} {s : ChangeSpec} {tb : TypeId} (own : ownKnob C.prog.godebug = none) (started : os.Started) (noInit : C.prog.inits.idxOf? f = none) (hfn : C.prog.funcs[f]? = some fn) (hl : laidOutB C.prog = true)
    (hvars : s.vars = []) (hr : recsB C.prog fn.params.toList = true) (hres : fn.resultTypes = #[tb]) (htb : C.prog.underlying tb = some .bool)
    (hsp : ∀ ds : List (DataW H), ds.length = fn.params.toList.length → s.fn H ds = { results := [.lit (.bool true)], args := ds })
    (witness : ∃ (w : World) (tape : Tape) (i : Input), w.os = os ∧ (w.forCall tape i).Shaped C.prog ∧ i.vars = [] ∧ Input.okWide C.prog (w.forCall tape i) .any w.heap.size f i ∧
      s.pre6 enc C.prog fn [] false (w.forCall tape i).memory i.args ∧ ({} : Assume).holds C.prog (lone (Frame.enter C.prog f i.args .normal) [] (w.forCall tape i)))
    (walk : ∀ (W : World) (base : Nat) (args : Array Value) (ds : List (DataW H)) (ps : List MemPlace), (∀ (j : Nat) t v, fn.params[j]? = some t → args[j]? = some v → Value.okWide C.prog W .any base t v) →
      DataW.TrodAll enc C.prog W 0 (fun _ => true) true fn.params.toList args.toList ds ps → CallT C.prog f args (Gw W) [] fun v G _ => v = .bool true ∧ Gh.le (Gw W) G) :
    ReturnsInHanded {} C os f .any (s.pre6 enc C.prog fn [] false) (s.post enc C.prog fn false true false false) := by
  refine returnsInHanded_of_change own started noInit hfn witness ?_
  intro W base args ds gs before hval hW _ _
  have hW' := hW
  obtain ⟨p, q, hA, hV, rfl, hfz, hnd⟩ := hW
  rw [hvars] at hV
  obtain ⟨rfl, rfl⟩ := trodVars_none hV
  refine ((walk W base args ds p hval hA).run (St.start W)).mono ?_
  rintro e W' ⟨v, G, L, rfl, hs, rfl, hG⟩
  have hb := hs.below hG
  have hlt : ∀ x ∈ p, x.block < W.heap.size := fun x hx => hW'.lt x (List.mem_append_left _ hx)
  have hlen : ds.length = fn.params.toList.length := by
    have : ∀ (ts : List TypeId) (vs : List Value) (ds : List (DataW H)) (ps : List MemPlace), DataW.TrodAll enc C.prog W 0 (fun _ => true) true ts vs ds ps → ds.length = ts.length := by
      intro ts
      induction ts with
      | nil => intro vs ds ps h; cases vs <;> cases ds <;> simp_all [DataW.TrodAll]
      | cons t ts ih =>
        intro vs ds ps h
        cases vs <;> cases ds <;> simp only [DataW.TrodAll] at h
        obtain ⟨_, _, _, h2, _⟩ := h
        simp [ih _ _ _ h2]
    exact this _ _ _ _ hA
  refine ⟨_, rfl, ds, [], _, [], p, [], hW', ?_, ?_, ?_, hb.frame _, fun h => by cases h⟩
  · rw [List.append_nil, hsp ds hlen, hres]
    exact trodAll_mk1 (shut_bool htb true)
  · rw [List.append_nil, hsp ds hlen]
    exact trodAll_stays hl hb (recs_of hr) hlt hA
  · rw [List.append_nil, hsp ds hlen, hvars]
    exact rfl
end Go.Proofs.YthhjapiggekjbaaGreat
namespace Go.Proofs.YthhjapiggekjbaaGreat
set_option linter.unusedVariables false
set_option linter.unusedSimpArgs false
open Go Go.ChangeShapes Go.WideShapes Go.ChangeAt Go.RowKit
set_option linter.unusedSimpArgs false
def okU8 (_ : Gh) (_ : UInt8) : Prop := True
theorem opnU8 {P : Program} {t : TypeId} (ht : P.underlying t = some (.int .u8)) : Opn P t byteT okU8 := fun h => by
  obtain ⟨n, rfl, _, hw⟩ := DataW.trod_int ht h
  have : IntKind.u8.min ≤ n ∧ n ≤ IntKind.u8.max := by simpa [Lit.wf] using hw
  simp only [show IntKind.u8.min = 0 from rfl, show IntKind.u8.max = 255 from rfl] at this
  refine ⟨UInt8.ofNat n.toNat, ?_, trivial⟩
  simp only [byteT, UInt8.toNat_ofNat']
  congr 2
  omega
set_option maxRecDepth 100000
theorem Tryz.own : ownKnob Tryz.prog.godebug = none := by kernel_rfl
theorem Tryz.laidOut : laidOutB Tryz.prog = true := by kernel_rfl
theorem fnHierClasses_lifted (os : Os) (started : os.Started) (H : Type) (enc : TypeId × Value → H) :
    ReturnsInHanded {} Tryz.checked os 6 .any (Rows.fnHierClassesSpec.pre6 enc Tryz.prog Tryz.f6 [] false) (Rows.fnHierClassesSpec.post enc Tryz.prog Tryz.f6 false true false false) := by
  refine law_lifted (C := Tryz.checked) Tryz.own started (by kernel_rfl) Tryz.func6 Tryz.laidOut rfl (by kernel_rfl) rfl Tryz.underlying4 (fun ds h => ?_)
    (ChangeSpec.witness6 (enc := enc) (C := Tryz.checked) false ⟨#[], #[.slice none 0 0], []⟩ 8 (by kernel_rfl) (by kernel_rfl) (by kernel_rfl) (by kernel_rfl)) ?_
  · match ds, h with
    | [d], _ => rfl
  · intro W base args ds ps hval hA
    have hA : DataW.TrodAll enc Tryz.prog W 0 (fun _ => true) true Tryz.f6.params.toList args.toList ds ps := hA
    have hval : ∀ (j : Nat) t v, Tryz.f6.params[j]? = some t → args[j]? = some v → Value.okWide Tryz.prog W .any base t v := hval
    rw [Tryz.params6] at hA hval
    obtain ⟨v0, d0, rfl, rfl, h0⟩ := trodAll_one hA
    obtain ⟨s, rfl, q1, _⟩ := argSl Tryz.underlying40 (opnSl (F := byteT) (ok := okU8) Tryz.underlying40 (opnU8 Tryz.underlying5) (by kernel_rfl) (by decide)) (hval 0 _ v0 rfl rfl) h0
    exact law_HierClasses q1 ⟨rfl, Gh.le_refl _⟩
theorem fnHierClasses_holds : Rows.FnHierClassesSaid :=
  OpenClaim.holds_of_wide 6 Tryz.f6 rfl rfl rfl rfl rfl rfl rfl ⟨rfl, rfl, rfl, rfl, rfl⟩ rfl rfl rfl rfl rfl (by kernel_rfl) Tryz.func6 (by kernel_rfl)
    (of_decide_eq_true (by kernel_rfl)) (by unfold Func.isWrapper; first | (rw [if_pos (by decide +kernel)]; kernel_rfl) | (rw [if_neg (by decide +kernel)]; exact ⟨rfl, rfl⟩))
    (fun os started H enc _ => fnHierClasses_lifted os started H enc)
end Go.Proofs.YthhjapiggekjbaaGreat
