/-
  The law FnExactPlacedPieces: whatever the library and the number, the law returns true and all read as before.
-/
import Derived.Test.YtbkaincaahcnfaaGreatPA5
import Derived.ProofKit
import Derived.Deep.Slices
import Derived.Carry
import Derived.Test.YtbkaincaahcnfaaGreatRows
namespace Go.Proofs.YtbkaincaahcnfaaGreat
set_option linter.unusedVariables false
set_option linter.unusedSimpArgs false
open Go
set_option maxRecDepth 20000
set_option maxHeartbeats 1000000
set_option linter.unusedSimpArgs false
variable {G : Gh} {L : List Ch} {R : Value → Gh → List Ch → Prop}
theorem RsE.regQ {xs : List PPiece} (h : RsE G L rectT (regsQ xs)) {i : Nat} (hi : i < xs.length) : Rs G L rectT (gd xs i).piece.reg.v (gd xs i).piece.reg.xs := by
  have := h i (by rw [regsQ_len]; exact hi); rwa [regsQ_gd hi] at this
theorem erQs_gd {xs : List PPiece} {i : Nat} (h : i < xs.length) : gd (erQs xs) i = erQ (gd xs i) := gd_map _ h
theorem erQs_get {xs ys : List PPiece} (h : erQs xs = erQs ys) {i : Nat} (hi : i < ys.length) : erQ (gd xs i) = erQ (gd ys i) := by
  have hl : xs.length = ys.length := by rw [← erQs_len, ← erQs_len, h]
  rw [← erQs_gd (by omega), ← erQs_gd hi, h]
theorem erQs_of {xs ys : List PPiece} (hl : xs.length = ys.length) (h : ∀ i, i < ys.length → erQ (gd xs i) = erQ (gd ys i)) : erQs xs = erQs ys := by
  apply List.ext_getElem?
  intro i
  by_cases hi : i < ys.length
  · rw [getG (by rw [erQs_len]; omega), getG (by rw [erQs_len]; omega), erQs_gd (by omega), erQs_gd hi, h i hi]
  · rw [List.getElem?_eq_none (by rw [erQs_len]; omega), List.getElem?_eq_none (by rw [erQs_len]; omega)]
theorem eqPP_s {p q : PPiece} (h1 : Rs G L rectT p.piece.reg.v p.piece.reg.xs) (h2 : Rs G L rectT q.piece.reg.v q.piece.reg.xs) (k : R (.bool (decide (erQ p = erQ q))) G L) : CallT Tryz.prog 77 #[vT ppieceT p, vT ppieceT q] G L R := by
  refine CallT.enter (args := _) Tryz.func77 rfl rfl (by kernel_rfl) rfl ?_
  refine WP.seq ?_
  refine WP.region ?_
  refine RG.ot rfl (OT.box (cs := ppieceT.enc p) rfl rfl rfl fun b2 => ?_)
  refine RG.ot rfl (OT.box (cs := ppieceT.enc q) rfl rfl rfl fun b3 => ?_)
  refine RG.pv rfl (PV.mvB (.inr rfl) rfl) ?_
  refine RG.nil ?_
  refine WP.seq ?_
  refine WP.seq ?_
  refine WP.region ?_
  refine RG.pv rfl (PV.field rfl Fo108_0 rfl) ?_
  refine RG.pv rfl (PV.load1 rfl Sc2 rfl (Rd.blk rfl)) ?_
  refine RG.pv rfl (PV.field rfl Fo108_0 rfl) ?_
  refine RG.pv rfl (PV.load1 rfl Sc2 rfl (Rd.blk rfl)) ?_
  refine RG.pv rfl (PV.neq rfl rfl rfl) ?_
  refine RG.nil ?_
  refine WP.cond rfl (fun h3 => ?_) (fun h3 => ?_)
  · have e : decide (erQ p = erQ q) = false := by
      rw [decide_eq_false_iff_not]; intro h; simp [erQ] at h h3; exact h3 h.1
    rw [e] at k
    refine WP.seq ?_
    refine WP.region ?_
    refine RG.pv rfl (PV.mvB (.inr rfl) rfl) ?_
    refine RG.nil ?_
    refine WP.ret ?_
    exact ⟨_, _, ResV.one rfl rfl, Cv.p, k⟩
  · refine WP.skip ?_
    refine WP.seq ?_
    refine WP.seq ?_
    refine WP.region ?_
    refine RG.pv rfl (PV.field rfl Fo108_1 rfl) ?_
    refine RG.pv rfl (PV.loadB (vs := [_, _]) rfl Ag96 rfl rfl rfl) ?_
    refine RG.pv rfl (PV.field rfl Fo108_1 rfl) ?_
    refine RG.pv rfl (PV.loadB (vs := [_, _]) rfl Ag96 rfl rfl rfl) ?_
    refine RG.callF (vs := [_, _]) rfl rfl En71 rfl (eqPiece_s (p := p.piece) (q := q.piece) (Rs.up h1) (Rs.up h2) ?_)
    refine RG.pv rfl (PV.not rfl rfl) ?_
    refine RG.nil ?_
    refine WP.cond rfl (fun h4 => ?_) (fun h4 => ?_)
    · have e : decide (erQ p = erQ q) = false := by
        rw [decide_eq_false_iff_not]; intro h; simp [erQ] at h h4; exact h4 h.2
      rw [e] at k
      refine WP.seq ?_
      refine WP.region ?_
      refine RG.pv rfl (PV.mvB (.inr rfl) rfl) ?_
      refine RG.nil ?_
      refine WP.ret ?_
      exact ⟨_, _, ResV.one rfl rfl, Cv.p, k⟩
    · have e : decide (erQ p = erQ q) = true := by
        simp at h3 h4; simp [erQ, h3, h4]
      rw [e] at k
      refine WP.skip ?_
      refine WP.seq ?_
      refine WP.region ?_
      refine RG.pv rfl (PV.mvB (.inr rfl) rfl) ?_
      refine RG.nil ?_
      refine WP.ret ?_
      exact ⟨_, _, ResV.one rfl rfl, Cv.p, k⟩
theorem eqPPS_s {v u : Value} {xs ys : List PPiece} (h1 : Rs G L ppieceT v xs) (hd : RsE G L rectT (regsQ xs)) (h2 : Rs G L ppieceT u ys) (hd' : RsE G L rectT (regsQ ys)) (k : R (.bool (decide (erQs xs = erQs ys))) G L) : CallT Tryz.prog 36 #[v, u] G L R := by
  refine CallT.bd h1 fun hb => ?_
  refine CallT.bd h2 fun hb' => ?_
  refine CallT.enter (args := _) Tryz.func36 rfl rfl (by kernel_rfl) rfl ?_
  refine WP.seq ?_
  refine WP.region ?_
  refine RG.pv rfl (PV.mvB (.inr rfl) rfl) ?_
  refine RG.nil ?_
  refine WP.seq ?_
  refine WP.seq ?_
  refine WP.region ?_
  refine RG.pv rfl (PV.move (v := v) rfl rfl) ?_
  refine RG.pv rfl (PV.len (v := v) rfl Tryz.underlying54 rfl (SlF.r h1)) ?_
  refine RG.pv rfl (PV.move (v := u) rfl rfl) ?_
  refine RG.pv rfl (PV.len (v := u) rfl Tryz.underlying54 rfl (SlF.r h2)) ?_
  refine RG.pv rfl (PV.neq rfl rfl rfl) ?_
  refine RG.nil ?_
  refine WP.cond rfl (fun h3 => ?_) (fun h3 => ?_)
  · have e : decide (erQs xs = erQs ys) = false := by
      rw [decide_eq_false_iff_not]; intro h; have := congrArg List.length h; rw [erQs_len, erQs_len] at this; simp at h3; omega
    rw [e] at k
    refine WP.seq ?_
    refine WP.region ?_
    refine RG.pv rfl (PV.mvB (.inr rfl) rfl) ?_
    refine RG.nil ?_
    refine WP.ret ?_
    exact ⟨_, _, ResV.one rfl rfl, Cv.p, k⟩
  · have hl : xs.length = ys.length := by simp at h3; omega
    refine WP.skip ?_
    refine WP.seq ?_
    refine WP.seq ?_
    refine WP.region ?_
    refine RG.pv rfl (PV.mvI (.inr rfl) rfl) ?_
    refine RG.nil ?_
    refine WP.block ?_
    refine WP.loop1 [0, 1] (fun i => i ≤ xs.length ∧ ∀ j, j < i → erQ (gd xs j) = erQ (gd ys j)) (fun i => [(5, vi i)]) (fun i => L) (fun i => xs.length - i) 0 ⟨by omega, fun j h => by omega⟩ ⟨rfl, trivial⟩ Cv.p ?_
    rintro i τ ⟨hi, he⟩
    refine WP.seq ?_
    refine WP.seq ?_
    refine WP.region ?_
    refine RG.pv rfl (PV.mvI (.inl rfl) rfl) ?_
    refine RG.pv rfl (PV.move (v := v) rfl rfl) ?_
    refine RG.pv rfl (PV.len (v := v) rfl Tryz.underlying54 rfl (SlF.r h1)) ?_
    refine RG.pv rfl (PV.lss rfl rfl rfl) ?_
    refine RG.nil ?_
    refine WP.cond rfl (fun h4 => ?_) (fun h4 => ?_)
    · have h4 := of_decide_eq_true h4
      have h5 : i < xs.length := by omega
      refine WP.skip ?_
      refine WP.seq ?_
      refine WP.block ?_
      refine WP.seq ?_
      refine WP.regionQ (by kernel_rfl) (by kernel_rfl) ?_
      refine RQ.pv rfl (PV.move (v := v) rfl rfl) ?_
      refine RQ.pv rfl (PV.mvI (.inl rfl) rfl) ?_
      refine RQ.pv rfl (PV.idxS (v := v) rfl Is54 rfl (SlF.r h1) rfl rfl (by omega)) ?_
      refine RQ.pv rfl (PV.loadE rfl Ag108 rfl rfl (El.r h1 (getG (by omega)))) ?_
      refine RQ.pv rfl (PV.move (v := u) rfl rfl) ?_
      refine RQ.pv rfl (PV.mvI (.inl rfl) rfl) ?_
      refine RQ.pv rfl (PV.idxS (v := u) rfl Is54 rfl (SlF.r h2) rfl rfl (by omega)) ?_
      refine RQ.pv rfl (PV.loadE rfl Ag108 rfl rfl (El.r h2 (getG (by omega)))) ?_
      refine RQ.callF (vs := [_, _]) rfl rfl En77 rfl (eqPP_s (hd.regQ (by omega)).up (hd'.regQ (by omega)).up ⟨rfl, rfl, rfl⟩) ?_
      refine RQ.pv rfl (PV.not rfl rfl) ?_
      refine RQ.nil ?_
      refine WP.cond rfl (fun h6 => ?_) (fun h6 => ?_)
      · have e : decide (erQs xs = erQs ys) = false := by
          rw [decide_eq_false_iff_not]; intro h; simp [erQs_get h (i := i) (by omega)] at h6
        rw [e] at k
        refine WP.seq ?_
        refine WP.region ?_
        refine RG.pv rfl (PV.mvB (.inr rfl) rfl) ?_
        refine RG.nil ?_
        refine WP.ret ?_
        exact ⟨_, _, ResV.one rfl rfl, Cv.p, k⟩
      · have e : erQ (gd xs i) = erQ (gd ys i) := by simpa using h6
        have he' : ∀ j, j < i + 1 → erQ (gd xs j) = erQ (gd ys j) := fun j h => by
          by_cases c : j = i
          · rw [c, e]
          · exact he j (by omega)
        refine WP.skip ?_
        refine WP.region ?_
        refine RG.pv rfl (PV.mvI (.inl rfl) rfl) ?_
        refine RG.pv rfl (PV.add rfl rfl rfl (by omega)) ?_
        refine RG.pv rfl (PV.mvI (.inr rfl) rfl) ?_
        refine RG.nil ?_
        exact ⟨rfl, i + 1, ⟨by omega, he'⟩, ⟨rfl, trivial⟩, ⟨rfl, rfl, trivial⟩, Cv.p, by omega⟩
    · have h4 := of_decide_eq_false h4
      have e : decide (erQs xs = erQs ys) = true := decide_eq_true (erQs_of hl fun j hj => he j (by omega))
      rw [e] at k
      refine WP.exit ?_
      refine WP.seq ?_
      refine WP.region ?_
      refine RG.pv rfl (PV.mvB (.inr rfl) rfl) ?_
      refine RG.nil ?_
      refine WP.ret ?_
      exact ⟨_, _, ResV.one rfl rfl, Cv.p, k⟩
def mkPP (p : PPiece) (k : Int) : PPiece := ⟨k, ⟨k + 1, mkRS p.piece.reg (k + 2)⟩⟩
def nPP (p : PPiece) : Int := 2 + nRS p.piece.reg
theorem nPP_nn (p : PPiece) : 0 ≤ nPP p := by have : 0 ≤ nRS p.piece.reg := nSl_nn p.piece.reg; simp only [nPP]; omega
theorem regsQ_set (zs : List PPiece) (i : Nat) (p : PPiece) : regsQ (zs.set i p) = (regsQ zs).set i p.piece.reg := by simp [regsQ, List.map_set]
theorem Cv.slotQ {e e' : TypeId} {v : Value} {zs : List PPiece} {p q : PPiece} {ys : List Rect} {L : List Ch} (i : Nat) (hi : i < zs.length) (hq : q = ⟨p.occ, ⟨p.piece.layer, ⟨(gd zs i).piece.reg.v, ys⟩⟩⟩) (hp : p.piece.reg.v = (gd zs i).piece.reg.v) :
    Cv (osl e rectT (gd (regsQ zs) i).v ys :: osl e' ppieceT v (zs.set i p) :: bag (((regsQ zs).map (ownS e rectT)).set i emp) :: L) (osl e' ppieceT v (zs.set i q) :: bagS e rectT (regsQ (zs.set i q)) :: L) := by
  subst hq
  have h1 : Cv (osl e rectT (gd (regsQ zs) i).v ys :: osl e' ppieceT v (zs.set i p) :: bag (((regsQ zs).map (ownS e rectT)).set i emp) :: L) (osl e' ppieceT v (zs.set i p) :: osl e rectT (gd (regsQ zs) i).v ys :: bag (((regsQ zs).map (ownS e rectT)).set i emp) :: L) := Cv.swap (A := [osl e rectT (gd (regsQ zs) i).v ys]) (B := [osl e' ppieceT v (zs.set i p)])
  refine h1.trans ((Cv.cons (Cv.bagS_put i (by rw [regsQ_len]; exact hi))).trans ?_)
  rw [regsQ_set, regsQ_gd hi]
  exact Cv.flat (flat_setEq (by simp [ppieceT, hp])) (by simp)
theorem markPP_s {v : Value} {xs : List PPiece} {k0 : Int} (hk : 0 ≤ k0) (hb : k0 + costL nPP xs ≤ 4611686018427387904) (k : R (vi (k0 + costL nPP xs)) G (osl 108 ppieceT v (markL mkPP nPP xs k0) :: bagS 116 rectT (regsQ (markL mkPP nPP xs k0)) :: L)) :
    CallT Tryz.prog 37 #[v, vi k0] G (osl 108 ppieceT v xs :: bagS 116 rectT (regsQ xs) :: L) R := by
  refine CallT.bd (T := ppieceT) (v := v) (xs := xs) Rs.o fun hb2 => ?_
  refine CallT.cv (L' := osl 108 ppieceT v (markTo mkPP nPP xs k0 0) :: bagS 116 rectT (regsQ (markTo mkPP nPP xs k0 0)) :: L) (Cv.cast (by rw [markTo_zero])) ?_
  refine CallT.enter (args := _) Tryz.func37 rfl rfl (by kernel_rfl) rfl ?_
  refine WP.seq ?_
  refine WP.region ?_
  refine RG.pv rfl (PV.mvI (.inr rfl) rfl) ?_
  refine RG.nil ?_
  refine WP.seq ?_
  refine WP.seq ?_
  refine WP.region ?_
  refine RG.pv rfl (PV.mvI (.inr rfl) rfl) ?_
  refine RG.nil ?_
  refine WP.block ?_
  refine WP.loop2 [0] (fun (i : Nat) (kk : Int) => i ≤ xs.length ∧ kk = k0 + costL nPP (xs.take i)) (fun (i : Nat) (kk : Int) => [(5, vi i), (1, vi kk)]) (fun (i : Nat) (kk : Int) => osl 108 ppieceT v (markTo mkPP nPP xs k0 i) :: bagS 116 rectT (regsQ (markTo mkPP nPP xs k0 i)) :: L) (fun (i : Nat) (kk : Int) => xs.length - i) 0 k0 ⟨by omega, by simp [costL]⟩ ⟨rfl, rfl, trivial⟩ Cv.p ?_
  rintro i kk τ ⟨hi, hkk⟩
  refine WP.seq ?_
  refine WP.seq ?_
  refine WP.region ?_
  refine RG.pv rfl (PV.mvI (.inl rfl) rfl) ?_
  refine RG.pv rfl (PV.move (v := v) rfl rfl) ?_
  refine RG.pv rfl (PV.len (v := v) rfl Tryz.underlying54 rfl SlF.o) ?_
  refine RG.pv rfl (PV.lss rfl rfl rfl) ?_
  refine RG.nil ?_
  have hml := markTo_len (mk := mkPP) (n := nPP) (k := k0) hi
  refine WP.cond rfl (fun h1 => ?_) (fun h1 => ?_)
  · have h1 := of_decide_eq_true h1
    have h2 : i < xs.length := by omega
    have hmg := markTo_gd (mk := mkPP) (n := nPP) (k := k0) h2
    have hc := costL_take nPP h2
    have hc1 : costL nPP (xs.take (i + 1)) ≤ costL nPP xs := costL_le nPP_nn xs (i + 1)
    have hc2 : 0 ≤ costL nPP (xs.take i) := costL_nonneg nPP_nn (xs.take i)
    have hc3 : 0 ≤ nRS (gd xs i).piece.reg := nSl_nn (gd xs i).piece.reg
    have hc5 : nPP (gd xs i) = 2 + nRS (gd xs i).piece.reg := rfl
    have hgi : gd (regsQ (markTo mkPP nPP xs k0 i)) i = (gd xs i).piece.reg := by rw [regsQ_gd (by omega), hmg]
    have hc4 : costL nRect (gd (regsQ (markTo mkPP nPP xs k0 i)) i).xs = nRS (gd xs i).piece.reg := by rw [hgi]; rfl
    have hgs : (gd ((markTo mkPP nPP xs k0 i).set i (PPiece.s1_0 (kk + 1) (PPiece.s0 kk (gd (markTo mkPP nPP xs k0 i) i)))) i).piece.reg.v = (gd (regsQ (markTo mkPP nPP xs k0 i)) i).v := by
      rw [hgi]; simp [gd, hml, h2, ← hmg]
    refine WP.cv (Cv.cons (Cv.bagS_take i (by rw [regsQ_len]; omega))) ?_
    refine WP.skip ?_
    refine WP.seq ?_
    refine WP.block ?_
    refine WP.seq ?_
    refine WP.region ?_
    refine RG.pv rfl (PV.move (v := v) rfl rfl) ?_
    refine RG.pv rfl (PV.mvI (.inl rfl) rfl) ?_
    refine RG.pv rfl (PV.mvI (.inl rfl) rfl) ?_
    refine RG.pv rfl (PV.idxS (v := v) rfl Is54 rfl SlF.o rfl rfl (by omega)) ?_
    refine RG.pv rfl (PV.field rfl Fo108_0 rfl) ?_
    refine RG.ot rfl (OT.storeF (F := ppieceT) (val := vi) (cv := fun u => [vi u]) (st := PPiece.s0) rfl Sz2 rfl rfl rfl (Cl.c rfl) rfl (OneC.c rfl) (by exact set_self (by omega)) (by first | omega | (simp; omega)) rfl (fun _ _ => rfl) ?_)
    refine RG.nil ?_
    refine WP.seq ?_
    refine WP.region ?_
    refine RG.pv rfl (PV.mvI (.inl rfl) rfl) ?_
    refine RG.pv rfl (PV.add rfl rfl rfl (by first | omega | (simp only [List.length_set]; omega))) ?_
    refine RG.pv rfl (PV.mvI (.inr rfl) rfl) ?_
    refine RG.nil ?_
    refine WP.seq ?_
    refine WP.region ?_
    refine RG.pv rfl (PV.move (v := v) rfl rfl) ?_
    refine RG.pv rfl (PV.mvI (.inl rfl) rfl) ?_
    refine RG.pv rfl (PV.mvI (.inl rfl) rfl) ?_
    refine RG.pv rfl (PV.idxS (v := v) rfl Is54 rfl SlF.o rfl rfl (by first | omega | (simp only [List.length_set]; omega))) ?_
    refine RG.pv rfl (PV.field rfl Fo108_1 rfl) ?_
    refine RG.pv rfl (PV.field rfl Fo96_0 rfl) ?_
    refine RG.ot rfl (OT.storeF (F := ppieceT) (val := vi) (cv := fun u => [vi u]) (j := 1) (st := PPiece.s1_0) rfl Sz2 rfl rfl rfl (Cl.c rfl) rfl (OneC.c rfl) (by rfl) (by first | omega | (simp; omega)) rfl (fun _ _ => rfl) ?_)
    refine RG.nil ?_
    refine WP.seq ?_
    refine WP.region ?_
    refine RG.pv rfl (PV.mvI (.inl rfl) rfl) ?_
    refine RG.pv rfl (PV.add rfl rfl rfl (by first | omega | (simp only [List.length_set]; omega))) ?_
    refine RG.pv rfl (PV.mvI (.inr rfl) rfl) ?_
    refine RG.nil ?_
    refine WP.region ?_
    refine RG.pv rfl (PV.move (v := v) rfl rfl) ?_
    refine RG.pv rfl (PV.mvI (.inl rfl) rfl) ?_
    refine RG.pv rfl (PV.idxS (v := v) rfl Is54 rfl SlF.o rfl rfl (by first | omega | (simp only [List.length_set]; omega))) ?_
    refine RG.pv rfl (PV.field rfl Fo108_1 rfl) ?_
    refine RG.pv rfl (PV.field rfl Fo96_1 rfl) ?_
    refine RG.pv rfl (PV.loadF (F := ppieceT) (v := v) (i := i) (j := 2) rfl Sc59 rfl rfl (El.o (getG (by simp only [List.length_set]; omega))) rfl) ?_
    refine RG.pv rfl (PV.mvI (.inl rfl) rfl) ?_
    refine RG.callF (vs := [_, _]) rfl rfl En42 rfl (CallT.eq2 hgs (CallT.exS (gd (regsQ (markTo mkPP nPP xs k0 i)) i).v (markRectS_s (by omega) (by omega) ?_)))
    refine RG.pv rfl (PV.mvI (.inr rfl) rfl) ?_
    refine RG.nil ?_
    refine WP.region ?_
    refine RG.pv rfl (PV.mvI (.inl rfl) rfl) ?_
    refine RG.pv rfl (PV.add rfl rfl rfl (by first | omega | (simp only [List.length_set]; omega))) ?_
    refine RG.pv rfl (PV.mvI (.inr rfl) rfl) ?_
    refine RG.nil ?_
    exact ⟨rfl, i + 1, _, ⟨by omega, by rw [hc]; omega⟩, ⟨rfl, rfl, trivial⟩, ⟨rfl, trivial⟩, ((Cv.p (C := osl 116 rectT (gd (regsQ (markTo mkPP nPP xs k0 i)) i).v (markL mkRect nRect (gd (regsQ (markTo mkPP nPP xs k0 i)) i).xs (kk + 1 + 1)) :: osl 108 ppieceT v ((markTo mkPP nPP xs k0 i).set i (PPiece.s1_0 (kk + 1) (PPiece.s0 kk (gd (markTo mkPP nPP xs k0 i) i)))) :: bag (((regsQ (markTo mkPP nPP xs k0 i)).map (ownS 116 rectT)).set i emp) :: L)).trans ((Cv.slotQ (zs := markTo mkPP nPP xs k0 i) (p := PPiece.s1_0 (kk + 1) (PPiece.s0 kk (gd (markTo mkPP nPP xs k0 i) i))) (q := mkPP (gd xs i) (k0 + costL nPP (xs.take i))) (ys := markL mkRect nRect (gd (regsQ (markTo mkPP nPP xs k0 i)) i).xs (kk + 1 + 1)) i (by omega) (by rw [hgi, hmg, mkPP, ← hkk, show kk + 2 = kk + 1 + 1 by omega]; rfl) rfl).trans (Cv.cast (L' := osl 108 ppieceT v (markTo mkPP nPP xs k0 (i + 1)) :: bagS 116 rectT (regsQ (markTo mkPP nPP xs k0 (i + 1))) :: L) (by rw [← markTo_set h2])))), by omega⟩
  · have h1 := of_decide_eq_false h1
    have e : kk = k0 + costL nPP xs := by rw [hkk, List.take_of_length_le (by omega)]
    rw [← e] at k
    refine WP.exit ?_
    refine WP.seq ?_
    refine WP.region ?_
    refine RG.pv rfl (PV.mvI (.inl rfl) rfl) ?_
    refine RG.pv rfl (PV.mvI (.inr rfl) rfl) ?_
    refine RG.nil ?_
    refine WP.ret ?_
    exact ⟨_, _, ResV.one rfl rfl, (Cv.cast (by rw [markTo_all (by omega)])), k⟩
theorem heldPP_s {v : Value} {xs : List PPiece} {k0 : Int} (h0 : Rs G L ppieceT v (markL mkPP nPP xs k0)) (hd : RsE G L rectT (regsQ (markL mkPP nPP xs k0))) (hk : 0 ≤ k0) (hb : k0 + costL nPP xs ≤ 4611686018427387904) (k : R (vi (k0 + costL nPP xs)) G L) : CallT Tryz.prog 38 #[v, vi k0] G L R := by
  have hml := markL_len mkPP nPP xs k0
  refine CallT.bd h0 fun hb2 => ?_
  refine CallT.enter (args := _) Tryz.func38 rfl rfl (by kernel_rfl) rfl ?_
  refine WP.seq ?_
  refine WP.region ?_
  refine RG.pv rfl (PV.mvI (.inr rfl) rfl) ?_
  refine RG.nil ?_
  refine WP.seq ?_
  refine WP.seq ?_
  refine WP.region ?_
  refine RG.pv rfl (PV.mvI (.inr rfl) rfl) ?_
  refine RG.nil ?_
  refine WP.block ?_
  refine WP.loop2 [0] (fun (i : Nat) (kk : Int) => i ≤ xs.length ∧ kk = k0 + costL nPP (xs.take i)) (fun (i : Nat) (kk : Int) => [(5, vi i), (1, vi kk)]) (fun (i : Nat) (kk : Int) => L) (fun (i : Nat) (kk : Int) => xs.length - i) 0 k0 ⟨by omega, by simp [costL]⟩ ⟨rfl, rfl, trivial⟩ Cv.p ?_
  rintro i kk τ ⟨hi, hkk⟩
  refine WP.seq ?_
  refine WP.seq ?_
  refine WP.region ?_
  refine RG.pv rfl (PV.mvI (.inl rfl) rfl) ?_
  refine RG.pv rfl (PV.move (v := v) rfl rfl) ?_
  refine RG.pv rfl (PV.len (v := v) rfl Tryz.underlying54 rfl (SlF.r h0)) ?_
  refine RG.pv rfl (PV.lss rfl rfl rfl) ?_
  refine RG.nil ?_
  refine WP.cond rfl (fun h1 => ?_) (fun h1 => ?_)
  · have h1 := of_decide_eq_true h1
    have h2 : i < xs.length := by omega
    have hc := costL_take nPP h2
    have hc1 : costL nPP (xs.take (i + 1)) ≤ costL nPP xs := costL_le nPP_nn xs (i + 1)
    have hc2 : 0 ≤ costL nPP (xs.take i) := costL_nonneg nPP_nn (xs.take i)
    have hc5 : nPP (gd xs i) = 2 + nRS (gd xs i).piece.reg := rfl
    have hc3 : costL nRect (gd xs i).piece.reg.xs = nRS (gd xs i).piece.reg := rfl
    have hc4 : 0 ≤ nRS (gd xs i).piece.reg := nSl_nn (gd xs i).piece.reg
    refine WP.skip ?_
    refine WP.seq ?_
    refine WP.block ?_
    refine WP.seq ?_
    refine WP.seq ?_
    refine WP.region ?_
    refine RG.pv rfl (PV.move (v := v) rfl rfl) ?_
    refine RG.pv rfl (PV.mvI (.inl rfl) rfl) ?_
    refine RG.pv rfl (PV.idxS (v := v) rfl Is54 rfl (SlF.r h0) rfl rfl (by omega)) ?_
    refine RG.pv rfl (PV.field rfl Fo108_0 rfl) ?_
    refine RG.pv rfl (PV.loadF rfl Sc2 rfl rfl (El.r h0 (getG (by omega))) rfl) ?_
    refine RG.pv rfl (PV.mvI (.inl rfl) rfl) ?_
    refine RG.pv rfl (PV.neq rfl rfl rfl) ?_
    refine RG.nil ?_
    refine WP.cond rfl (fun h3 => ?_) (fun h3 => ?_)
    · simp [gd_mark h2, mkPP, hkk] at h3
    · refine WP.skip ?_
      refine WP.seq ?_
      refine WP.region ?_
      refine RG.pv rfl (PV.mvI (.inl rfl) rfl) ?_
      refine RG.pv rfl (PV.add rfl rfl rfl (by omega)) ?_
      refine RG.pv rfl (PV.mvI (.inr rfl) rfl) ?_
      refine RG.nil ?_
      refine WP.seq ?_
      refine WP.seq ?_
      refine WP.region ?_
      refine RG.pv rfl (PV.move (v := v) rfl rfl) ?_
      refine RG.pv rfl (PV.mvI (.inl rfl) rfl) ?_
      refine RG.pv rfl (PV.idxS (v := v) rfl Is54 rfl (SlF.r h0) rfl rfl (by omega)) ?_
      refine RG.pv rfl (PV.field rfl Fo108_1 rfl) ?_
      refine RG.pv rfl (PV.field rfl Fo96_0 rfl) ?_
      refine RG.pv rfl (PV.loadF rfl Sc2 rfl rfl (El.r h0 (getG (by omega))) rfl) ?_
      refine RG.pv rfl (PV.mvI (.inl rfl) rfl) ?_
      refine RG.pv rfl (PV.neq rfl rfl rfl) ?_
      refine RG.nil ?_
      refine WP.cond rfl (fun h5 => ?_) (fun h5 => ?_)
      · simp [gd_mark h2, mkPP, hkk] at h5
      · refine WP.skip ?_
        refine WP.seq ?_
        refine WP.region ?_
        refine RG.pv rfl (PV.mvI (.inl rfl) rfl) ?_
        refine RG.pv rfl (PV.add rfl rfl rfl (by omega)) ?_
        refine RG.pv rfl (PV.mvI (.inr rfl) rfl) ?_
        refine RG.nil ?_
        refine WP.seq ?_
        refine WP.region ?_
        refine RG.pv rfl (PV.move (v := v) rfl rfl) ?_
        refine RG.pv rfl (PV.mvI (.inl rfl) rfl) ?_
        refine RG.pv rfl (PV.idxS (v := v) rfl Is54 rfl (SlF.r h0) rfl rfl (by omega)) ?_
        refine RG.pv rfl (PV.field rfl Fo108_1 rfl) ?_
        refine RG.pv rfl (PV.field rfl Fo96_1 rfl) ?_
        refine RG.pv rfl (PV.loadF (F := ppieceT) (v := v) (i := i) (j := 2) rfl Sc59 rfl rfl (El.r h0 (getG (by omega))) rfl) ?_
        refine RG.pv rfl (PV.mvI (.inl rfl) rfl) ?_
        refine RG.callF (vs := [_, _]) rfl rfl En43 rfl (heldRectS_s (xs := (gd xs i).piece.reg.xs) (by have := hd i (by rw [regsQ_len]; omega); rw [regsQ_gd (by omega), gd_mark h2] at this; rw [gd_mark h2, hkk, show k0 + costL nPP (xs.take i) + 1 + 1 = k0 + costL nPP (xs.take i) + 2 by omega]; exact this.up) (by omega) (by omega) ?_)
        refine RG.pv rfl (PV.mvI (.inr rfl) rfl) ?_
        refine RG.nil ?_
        refine WP.seq ?_
        refine WP.region ?_
        refine RG.pv rfl (PV.mvI (.inl rfl) rfl) ?_
        refine RG.pv rfl (PV.lss rfl rfl rfl) ?_
        refine RG.nil ?_
        refine WP.cond rfl (fun h4 => ?_) (fun h4 => ?_)
        · simp at h4; omega
        · refine WP.skip ?_
          refine WP.region ?_
          refine RG.pv rfl (PV.mvI (.inl rfl) rfl) ?_
          refine RG.pv rfl (PV.add rfl rfl rfl (by omega)) ?_
          refine RG.pv rfl (PV.mvI (.inr rfl) rfl) ?_
          refine RG.nil ?_
          exact ⟨rfl, i + 1, _, ⟨by omega, by rw [hc]; omega⟩, ⟨rfl, rfl, trivial⟩, ⟨rfl, trivial⟩, Cv.p, by omega⟩
  · have h1 := of_decide_eq_false h1
    have e : kk = k0 + costL nPP xs := by rw [hkk, List.take_of_length_le (by omega)]
    rw [← e] at k
    refine WP.exit ?_
    refine WP.seq ?_
    refine WP.region ?_
    refine RG.pv rfl (PV.mvI (.inl rfl) rfl) ?_
    refine RG.pv rfl (PV.mvI (.inr rfl) rfl) ?_
    refine RG.nil ?_
    refine WP.ret ?_
    exact ⟨_, _, ResV.one rfl rfl, Cv.p, k⟩
end Go.Proofs.YtbkaincaahcnfaaGreat
namespace Go.Proofs.YtbkaincaahcnfaaGreat
set_option linter.unusedVariables false
set_option linter.unusedSimpArgs false
open Go
set_option maxRecDepth 20000
set_option maxHeartbeats 1000000
set_option linter.unusedSimpArgs false
variable {G : Gh} {L : List Ch} {R : Value → Gh → List Ch → Prop}
def nQe (q : Int × (Int × List Rect)) : Int := 2 + 4 * (q.2.2.length : Int)
theorem nPP_er (xs : List PPiece) : costL nPP xs = costL nQe (erQs xs) := by
  induction xs with
  | nil => rfl
  | cons z zs ih => simp only [erQs, List.map_cons, costL] at ih ⊢; rw [ih]; simp only [nPP, nQe, nRS, nSl, nRect_cost, erQ, erP]
theorem ppR_cost (cs : List ECell) (cell : Int) : costL nQe (ppR cs cell) ≤ 12802 * 400 := by
  by_cases h : ppC cs cell = 0
  · have hl : (ppR cs cell).length ≤ 400 := by
      rw [ppR_yes h]
      by_cases h0 : shE cs cell = 0
      · rw [ppC_yes h0] at h
        by_cases h4 : 400 < (ppAll cs cell).length
        · rw [decide_eq_true h4] at h; simp at h
        · omega
      · rw [ppC_no h0] at h; exact absurd h h0
    have h1 : costL nQe (ppR cs cell) ≤ 12802 * (ppR cs cell).length := costL_bd fun q hq => by
      rw [ppR_yes h, ppAll, plTo] at hq
      obtain ⟨i, -, hq⟩ := List.mem_flatMap.1 hq
      rw [plAt] at hq
      obtain ⟨p, -, rfl⟩ := List.mem_map.1 hq
      have := canon_len (bits (p.2.map (moveR (gd (occR cs cell) i).place)))
      simp only [nQe, mvP]; omega
    omega
  · rw [ppR_no h]; simp [costL]
theorem law_PlacedPieces {l : Lib} {cell : Int} (hA : RLib G L l.cells.v l.cells.xs) (hlen : lenC (erCls l.cells.xs)) (k : R (.bool true) G L) : CallT Tryz.prog 8 #[vT libT l, vi cell] G L R := by
  refine CallT.enter (args := _) Tryz.func8 rfl rfl (by kernel_rfl) rfl ?_
  refine WP.seq ?_
  refine WP.region ?_
  refine RG.ot rfl (OT.box (cs := libT.enc l) rfl rfl rfl fun b2 => ?_)
  refine RG.pv rfl (PV.mvB (.inr rfl) rfl) ?_
  refine RG.nil ?_
  refine WP.seq ?_
  refine WP.region ?_
  refine RG.pv rfl (PV.mvI (.inr rfl) rfl) ?_
  refine RG.nil ?_
  refine WP.seq ?_
  refine WP.region ?_
  refine RG.pv rfl (PV.loadW rfl Ag24 rfl rfl) ?_
  refine RG.pv rfl (PV.mvI (.inl rfl) rfl) ?_
  refine RG.callF (vs := [_, _]) rfl rfl En10 rfl (szLib_s hA.up hlen (by omega) (by omega) (fun r hr => ?_))
  refine RG.pv rfl (PV.mvI (.inr rfl) rfl) ?_
  refine RG.nil ?_
  refine WP.seq ?_
  refine WP.seq ?_
  refine WP.region ?_
  refine RG.pv rfl (PV.mvI (.inl rfl) rfl) ?_
  refine RG.pv rfl (PV.lss rfl rfl rfl) ?_
  refine RG.nil ?_
  refine WP.cond rfl (fun h2 => ?_) (fun h2 => ?_)
  · refine WP.seq ?_
    refine WP.region ?_
    refine RG.pv rfl (PV.mvB (.inr rfl) rfl) ?_
    refine RG.nil ?_
    refine WP.ret ?_
    exact ⟨_, _, ResV.one rfl rfl, Cv.p, k⟩
  · have h2 := of_decide_eq_false h2
    have hf := hr (by omega)
    refine WP.skip ?_
    refine WP.seq ?_
    refine WP.region ?_
    refine RG.pv rfl (PV.loadW rfl Ag24 rfl rfl) ?_
    refine RG.callF (vs := [_]) rfl rfl En12 rfl (toLib_s hA.up hf (fun w23 ysw23 hew23 => ?_))
    refine RG.pv rfl (PV.mvI (.inl rfl) rfl) ?_
    refine RG.callF (vs := [_, _]) rfl rfl En34 rfl (pp_r (l := ⟨⟨w23, ysw23⟩⟩) ⟨Rs.o, RsE.o, RsE.o, RsE.o⟩ (by rw [hew23]; exact hlen) (fun w25 qsw25 hqw25 => ?_))
    refine RG.pv rfl (PV.move (v := .tuple _) rfl rfl) ?_
    refine RG.pv rfl (PV.ext (v := w25) rfl rfl rfl) ?_
    refine RG.pv rfl (PV.ext rfl rfl rfl) ?_
    refine RG.pv rfl (PV.asg (v := w25) rfl rfl) ?_
    refine RG.pv rfl (PV.mvI (.inr rfl) rfl) ?_
    refine RG.nil ?_
    refine WP.seq ?_
    refine WP.region ?_
    refine RG.pv rfl (PV.loadW rfl Ag24 rfl rfl) ?_
    refine RG.callF (vs := [_]) rfl rfl En12 rfl (toLib_s hA.up hf (fun w29 ysw29 hew29 => ?_))
    refine RG.ot rfl (OT.alloc rfl Zr30 fun b8 => ?_)
    refine RG.ot rfl (OT.storeW (vs := [_]) rfl Sz30 rfl rfl (Cl.c rfl) rfl rfl (OneC.sl (SlF.o (v := w29)) OneC.nil) ?_)
    refine RG.nil ?_
    refine WP.seq ?_
    refine WP.region ?_
    refine RG.pv rfl (PV.loadW rfl Ag30 rfl rfl) ?_
    refine RG.pv rfl (PV.mvI (.inl rfl) rfl) ?_
    refine RG.callF (vs := [_, _]) rfl rfl En35 rfl (pp_i (l := ⟨⟨w29, ysw29⟩⟩) ⟨Rs.o, RsE.o, RsE.o, RsE.o⟩ (by rw [hew29]; exact hlen) (fun w33 qsw33 hqw33 => ?_))
    refine RG.pv rfl (PV.move (v := .tuple _) rfl rfl) ?_
    refine RG.pv rfl (PV.ext (v := w33) rfl rfl rfl) ?_
    refine RG.pv rfl (PV.ext rfl rfl rfl) ?_
    refine RG.pv rfl (PV.asg (v := w33) rfl rfl) ?_
    refine RG.pv rfl (PV.mvI (.inr rfl) rfl) ?_
    refine RG.nil ?_
    refine WP.seq ?_
    refine WP.seq ?_
    refine WP.region ?_
    refine RG.pv rfl (PV.move (v := w33) rfl rfl) ?_
    refine RG.pv rfl (PV.move (v := w25) rfl rfl) ?_
    refine RG.callF (vs := [w33, w25]) rfl rfl En36 rfl (eqPPS_s Rs.o RsE.o Rs.o RsE.o ?_)
    refine RG.pv rfl (PV.not rfl rfl) ?_
    refine RG.pv rfl (PV.mvB (.inl rfl) rfl) ?_
    refine RG.gs rfl rfl rfl (fun hp => (PV.mvI (.inl rfl) rfl)) ?_
    refine RG.gs rfl rfl rfl (fun hp => (PV.mvI (.inl rfl) rfl)) ?_
    refine RG.gs rfl rfl rfl (fun hp => (PV.neq rfl (gs_t hp) (gs_t hp))) ?_
    refine RG.pv rfl (PV.pickO rfl rfl rfl (fun hq => gs_t (geqF hq))) ?_
    refine RG.nil ?_
    refine WP.cond rfl (fun h3 => ?_) (fun h3 => ?_)
    · simp [hqw25, hqw33, hew23, hew29] at h3
    · refine WP.skip ?_
      refine WP.seq ?_
      refine WP.seq ?_
      refine WP.regionH0 (.q 0 (.q 1 (.l 2 (.l 3 (.q 4 Sch.nil))))) (by kernel_rfl) (by kernel_rfl) (by kernel_rfl) rfl ?_
      refine RH.pv rfl (fun _ _ _ _ h => h) (Gh.le_refl _) PickC.pick rfl (PV.loadW rfl Ag30 rfl rfl) ?_
      refine RH.pv rfl (fun _ _ _ _ h => h) (Gh.le_refl _) PickC.pick rfl (PV.loadW rfl Ag24 rfl rfl) ?_
      refine RH.ot rfl rfl (OT.callF (vs := [_]) rfl En12 rfl (toLib_s hA.up hf (fun w47 ysw47 hew47 => ⟨Gh.le_refl _, PickC.pick, ?_⟩)))
      refine RH.ot rfl rfl (OT.callF (vs := [_, _]) rfl En14 rfl (eqLib_s (l := ⟨⟨w29, ysw29⟩⟩) (m := ⟨⟨w47, ysw47⟩⟩) ⟨Rs.o, RsE.o, RsE.o, RsE.o⟩ ⟨Rs.o, RsE.o, RsE.o, RsE.o⟩ (by rw [hew29, hew47]) ⟨Gh.le_refl _, PickC.pick, ?_⟩))
      refine RH.pv rfl (fun _ _ _ _ h => h) (Gh.le_refl _) PickC.pick rfl (PV.not rfl rfl) ?_
      refine RH.nil ?_
      refine WP.cond rfl (fun h4 => ?_) (fun h4 => ?_)
      · simp at h4
      · have hcr := ppR_cost (erCls l.cells.xs) cell
        have hm2 : costL nPP qsw33 ≤ 12802 * 400 := by rw [nPP_er, hqw33, hew29]; exact hcr
        have hm4 : 0 ≤ costL nPP qsw33 := costL_nonneg nPP_nn _
        refine WP.skip ?_
        refine WP.seq ?_
        refine WP.region ?_
        refine RG.pv rfl (PV.mvI (.inr rfl) rfl) ?_
        refine RG.nil ?_
        refine WP.seq ?_
        refine WP.region ?_
        refine RG.pv rfl (PV.loadW rfl Ag30 rfl rfl) ?_
        refine RG.pv rfl (PV.mvI (.inl rfl) rfl) ?_
        refine RG.callF (vs := [_, _]) rfl rfl En18 rfl (CallT.exBg (ins ysw29) (CallT.exBg (lbs ysw29) (CallT.exBg (shs ysw29) (CallT.exS w29 (markLib_s (l := ⟨⟨w29, ysw29⟩⟩) (by rw [hew29]; exact hf) (by omega) (fun km hkm => ?_))))))
        refine RG.pv rfl (PV.mvI (.inr rfl) rfl) ?_
        refine RG.nil ?_
        refine WP.seq ?_
        refine WP.seq ?_
        refine WP.region ?_
        refine RG.pv rfl (PV.mvI (.inl rfl) rfl) ?_
        refine RG.pv rfl (PV.lss rfl rfl rfl) ?_
        refine RG.pv rfl (PV.mvB (.inl rfl) rfl) ?_
        refine RG.gs rfl rfl rfl (fun hp => (PV.move (v := w33) rfl rfl)) ?_
        refine RG.gs rfl rfl rfl (fun hp => (PV.move (v := w25) rfl rfl)) ?_
        refine RG.gsC rfl rfl rfl rfl En36 (fun hp => ⟨_, (acons (gs_t hp) (acons (gs_t hp) anil)), eqPPS_s Rs.o RsE.o Rs.o RsE.o ⟨rfl, rfl, rfl⟩⟩) ?_
        refine RG.gs rfl rfl rfl (fun hp => (PV.not rfl (gs_t hp))) ?_
        refine RG.pv rfl (PV.pickO rfl rfl rfl (fun hq => gs_t (geqF hq))) ?_
        refine RG.pv rfl (PV.mvB (.inl rfl) rfl) ?_
        refine RG.gs rfl rfl rfl (fun hp => (PV.mvI (.inl rfl) rfl)) ?_
        refine RG.gs rfl rfl rfl (fun hp => (PV.mvI (.inl rfl) rfl)) ?_
        refine RG.gs rfl rfl rfl (fun hp => (PV.neq rfl (gs_t hp) (gs_t hp))) ?_
        refine RG.pv rfl (PV.pickO rfl rfl rfl (fun hq => gs_t (geqF hq))) ?_
        refine RG.nil ?_
        refine WP.cond rfl (fun h5 => ?_) (fun h5 => ?_)
        · exfalso
          have : ¬ km < 0 := by omega
          simp [this, hqw25, hqw33, hew23, hew29] at h5
        · skip
          refine WP.skip ?_
          refine WP.seq ?_
          refine WP.region ?_
          refine RG.pv rfl (PV.mvI (.inr rfl) rfl) ?_
          refine RG.nil ?_
          refine WP.seq ?_
          refine WP.region ?_
          refine RG.pv rfl (PV.move (v := w33) rfl rfl) ?_
          refine RG.pv rfl (PV.mvI (.inl rfl) rfl) ?_
          refine RG.callF (vs := [w33, _]) rfl rfl En37 rfl (CallT.exBg (regsQ qsw33) (CallT.exS w33 (markPP_s (by omega) (by omega) ?_)))
          refine RG.pv rfl (PV.mvI (.inr rfl) rfl) ?_
          refine RG.nil ?_
          refine WP.seq ?_
          refine WP.region ?_
          refine RG.pv rfl (PV.mvI (.inr rfl) rfl) ?_
          refine RG.nil ?_
          refine WP.seq ?_
          refine WP.region ?_
          refine RG.pv rfl (PV.move (v := w33) rfl rfl) ?_
          refine RG.pv rfl (PV.mvI (.inl rfl) rfl) ?_
          refine RG.callF (vs := [w33, _]) rfl rfl En38 rfl (heldPP_s Rs.o RsE.o (by omega) (by omega) ?_)
          refine RG.pv rfl (PV.mvI (.inr rfl) rfl) ?_
          refine RG.nil ?_
          refine WP.seq ?_
          refine WP.seq ?_
          refine WP.region ?_
          refine RG.pv rfl (PV.mvI (.inl rfl) rfl) ?_
          refine RG.pv rfl (PV.lss rfl rfl rfl) ?_
          refine RG.nil ?_
          refine WP.cond rfl (fun h6 => ?_) (fun h6 => ?_)
          · simp at h6; omega
          · refine WP.skip ?_
            refine WP.seq ?_
            refine WP.seq ?_
            refine WP.region ?_
            refine RG.pv rfl (PV.mvI (.inl rfl) rfl) ?_
            refine RG.pv rfl (PV.mvI (.inl rfl) rfl) ?_
            refine RG.pv rfl (PV.neq rfl rfl rfl) ?_
            refine RG.nil ?_
            refine WP.cond rfl (fun h7 => ?_) (fun h7 => ?_)
            · simp at h7
            · skip
              refine WP.skip ?_
              refine WP.seq ?_
              refine WP.region ?_
              refine RG.pv rfl (PV.loadW rfl Ag24 rfl rfl) ?_
              refine RG.callF (vs := [_]) rfl rfl En12 rfl (toLib_s hA.up hf (fun w79 ysw79 hew79 => ?_))
              refine RG.pv rfl (PV.mvI (.inl rfl) rfl) ?_
              refine RG.callF (vs := [_, _]) rfl rfl En35 rfl (pp_i (l := ⟨⟨w79, ysw79⟩⟩) ⟨Rs.o, RsE.o, RsE.o, RsE.o⟩ (by rw [hew79]; exact hlen) (fun w81 qsw81 hqw81 => ?_))
              refine RG.pv rfl (PV.move (v := .tuple _) rfl rfl) ?_
              refine RG.pv rfl (PV.ext (v := w81) rfl rfl rfl) ?_
              refine RG.pv rfl (PV.ext rfl rfl rfl) ?_
              refine RG.pv rfl (PV.asg (v := w81) rfl rfl) ?_
              refine RG.pv rfl (PV.mvI (.inr rfl) rfl) ?_
              refine RG.nil ?_
              refine WP.seq ?_
              refine WP.seq ?_
              refine WP.region ?_
              refine RG.pv rfl (PV.move (v := w81) rfl rfl) ?_
              refine RG.pv rfl (PV.move (v := w25) rfl rfl) ?_
              refine RG.callF (vs := [w81, w25]) rfl rfl En36 rfl (eqPPS_s Rs.o RsE.o Rs.o RsE.o ?_)
              refine RG.pv rfl (PV.not rfl rfl) ?_
              refine RG.pv rfl (PV.mvB (.inl rfl) rfl) ?_
              refine RG.gs rfl rfl rfl (fun hp => (PV.mvI (.inl rfl) rfl)) ?_
              refine RG.gs rfl rfl rfl (fun hp => (PV.mvI (.inl rfl) rfl)) ?_
              refine RG.gs rfl rfl rfl (fun hp => (PV.neq rfl (gs_t hp) (gs_t hp))) ?_
              refine RG.pv rfl (PV.pickO rfl rfl rfl (fun hq => gs_t (geqF hq))) ?_
              refine RG.nil ?_
              refine WP.cond rfl (fun h8 => ?_) (fun h8 => ?_)
              · simp [hqw25, hqw81, hew23, hew79] at h8
              · skip
                refine WP.skip ?_
                refine WP.seq ?_
                refine WP.region ?_
                refine RG.pv rfl (PV.mvI (.inr rfl) rfl) ?_
                refine RG.nil ?_
                refine WP.seq ?_
                refine WP.region ?_
                refine RG.pv rfl (PV.move (v := w33) rfl rfl) ?_
                refine RG.pv rfl (PV.mvI (.inl rfl) rfl) ?_
                refine RG.callF (vs := [w33, _]) rfl rfl En38 rfl (heldPP_s Rs.o RsE.o (by omega) (by omega) ?_)
                refine RG.pv rfl (PV.mvI (.inr rfl) rfl) ?_
                refine RG.nil ?_
                refine WP.seq ?_
                refine WP.seq ?_
                refine WP.region ?_
                refine RG.pv rfl (PV.mvI (.inl rfl) rfl) ?_
                refine RG.pv rfl (PV.lss rfl rfl rfl) ?_
                refine RG.nil ?_
                refine WP.cond rfl (fun h9 => ?_) (fun h9 => ?_)
                · simp at h9; omega
                · refine WP.skip ?_
                  refine WP.seq ?_
                  refine WP.seq ?_
                  refine WP.region ?_
                  refine RG.pv rfl (PV.mvI (.inl rfl) rfl) ?_
                  refine RG.pv rfl (PV.mvI (.inl rfl) rfl) ?_
                  refine RG.pv rfl (PV.neq rfl rfl rfl) ?_
                  refine RG.nil ?_
                  refine WP.cond rfl (fun h10 => ?_) (fun h10 => ?_)
                  · simp at h10
                  · refine WP.skip ?_
                    refine WP.seq ?_
                    refine WP.region ?_
                    refine RG.pv rfl (PV.mvB (.inr rfl) rfl) ?_
                    refine RG.nil ?_
                    refine WP.ret ?_
                    exact ⟨_, _, ResV.one rfl rfl, Cv.p, k⟩
end Go.Proofs.YtbkaincaahcnfaaGreat
namespace Go.Proofs.YtbkaincaahcnfaaGreat
set_option linter.unusedVariables false
set_option linter.unusedSimpArgs false
open Go Go.ChangeShapes Go.WideShapes Go.ChangeAt Go.RowKit Go.Deep
set_option linter.unusedVariables false
def Gw (w : World) : Gh := ⟨wh w, w.os, w.tape, w.output⟩
theorem St.start (w : World) : St (Gw w) [] w := ⟨fun _ => none, trivial, Hp.le_refl _, (fun _ _ h => by cases h), fun _ => .inl rfl, rfl, rfl, rfl⟩
/-- behind a call that began in W, all of W's blocks are as they were -/
theorem St.below {W w' : World} {G : Gh} {L : List Ch} (l : Gh.le (Gw W) G) (h : St G L w') : Below W.heap.size W w' := by
  obtain ⟨hp, s, l1, l2, d, ok⟩ := h
  have ok' := Gh.le_ok l ok
  have up := Hp.le_trans l.1 l1
  have key : ∀ k, k < W.heap.size → w'.heap[k]? = W.heap[k]? := fun k hk => by
    have : (Gw W).f k = some W.heap[k] := by simp [Gw, wh, hk]
    have h2 := up k _ this
    simp only [wh] at h2
    rw [h2]; simp [hk]
  refine ⟨ok'.1, ok'.2.1, ok'.2.2, ?_, key⟩
  by_cases h0 : W.heap.size = 0
  · omega
  · have := key (W.heap.size - 1) (by omega)
    rw [Array.getElem?_eq_getElem (by omega : W.heap.size - 1 < W.heap.size)] at this
    have := (Array.getElem?_eq_some_iff.1 this).1
    omega
def Opn {ρ : Type} (P : Program) (t : TypeId) (F : FT ρ) (ok : Gh → ρ → Prop) : Prop :=
  ∀ {H : Type} {enc : TypeId × Value → H} {w : World} {fuel : Nat} {cs : List Value} {x : DataW H × List MemPlace}, DataW.trod enc P w 0 (fun _ => true) true fuel t cs = some x → ∃ a : ρ, cs = F.enc a ∧ ok (Gw w) a
def okI (_ : Gh) (n : Int) : Prop := -9223372036854775808 ≤ n ∧ n ≤ 9223372036854775807
def okS (_ : Gh) (s : ByteArray) : Prop := s.size ≤ 9223372036854775807
def okL {ρ : Type} [Inhabited ρ] (F : FT ρ) (ok : Gh → ρ → Prop) (G : Gh) (v : Value) : Prop := ∃ xs : List ρ, SL G F v xs ∧ ∀ i, i < xs.length → ok G (gd xs i)
section
variable {P : Program} {t e : TypeId}
theorem opnI (ht : P.underlying t = some (.int .i64)) : Opn P t intT okI := fun h => by
  obtain ⟨n, rfl, _, hw⟩ := DataW.trod_int ht h
  refine ⟨n, rfl, ?_⟩
  have : IntKind.i64.min ≤ n ∧ n ≤ IntKind.i64.max := by simpa [Lit.wf] using hw
  simp only [show IntKind.i64.min = -9223372036854775808 from rfl, show IntKind.i64.max = 9223372036854775807 from rfl] at this
  exact this
theorem opnS (ht : P.underlying t = some .string) : Opn P t strT okS := fun h => by
  obtain ⟨s, rfl, _, hs⟩ := DataW.trod_string ht h
  refine ⟨s, rfl, ?_⟩
  simp only [maxLen] at hs
  exact (by omega : s.size ≤ 9223372036854775807)
theorem cells_get {w : World} {a : Addr} {n : Nat} {cs : List Value} (h : w.cells? 0 a n = some cs) : cs.length = n ∧ ∀ j c, cs[j]? = some c → w.cell? (a.add j) = some c := by
  obtain ⟨_, h1, h2⟩ := World.cells?_some h
  refine ⟨h1, fun j c hc => ?_⟩
  have hj := (List.getElem?_eq_some_iff.1 hc).1
  rw [h2 j (by omega), hc]
theorem opnL {ρ : Type} [Inhabited ρ] {F : FT ρ} {ok : Gh → ρ → Prop} (ht : P.underlying t = some (.slice e)) (hE : Opn P e F ok) (hc : P.cellsOf e = F.sz) (h0 : 0 < F.sz) : Opn P t rawT (okL F ok) := fun {H enc w fuel cs x} h => by
  rcases open_slice ht h with ⟨rfl, _⟩ | ⟨a, len, cap, m, n, D, Pl, rfl, _, hl, hm, hmm, _, hel⟩
  · exact ⟨_, rfl, [], ⟨⟨0, Nat.le_refl _, Nat.zero_le _, .inr ⟨⟨_, rfl⟩, rfl⟩⟩, fun j c hj => by simp [FT.flat] at hj⟩, fun i hi => by simp at hi⟩
  have hmcap : m = cap := by simpa using hmm
  refine ⟨.slice (some a) len cap, rfl, ?_⟩
  have hall : ∀ i, i < len → ∃ r : ρ, w.cells? 0 (a.add (i * F.sz)) F.sz = some (F.enc r) ∧ ok (Gw w) r := fun i hi => by
    obtain ⟨cs', h1, h2⟩ := hel i (by omega)
    obtain ⟨r, rfl, hr⟩ := hE h2
    rw [hc] at h1
    exact ⟨r, h1, hr⟩
  have : ∃ f : Nat → ρ, ∀ i, i < len → w.cells? 0 (a.add (i * F.sz)) F.sz = some (F.enc (f i)) ∧ ok (Gw w) (f i) := choose_lt hall
  obtain ⟨f, hf⟩ := this
  have hlen : ((List.range len).map f).length = len := by simp
  have hget : ∀ i, i < len → ((List.range len).map f)[i]? = some (f i) := fun i hi => by simp [hi]
  have hsp : len ≠ 0 → a.spot = none := fun hz => by
    obtain ⟨h1, _⟩ := hf 0 (by omega)
    obtain ⟨hl1, hg⟩ := cells_get h1
    cases hq : (F.enc (f 0))[0]? with
    | none => rw [List.getElem?_eq_none_iff] at hq; omega
    | some c =>
      have hcell := hg 0 c hq
      cases hs : a.spot with
      | none => rfl
      | some s =>
        exfalso
        have h3 : ((a.add (0 * F.sz)).add 0).spot.isSome = true := by simp [Addr.add, hs]
        unfold World.cell? at hcell
        split at hcell
        · rw [if_pos h3] at hcell; cases hcell
        · cases hcell
  refine ⟨(List.range len).map f, ⟨⟨cap, by simpa using hl, hm, ?_⟩, ?_⟩, fun i hi => ?_⟩
  · by_cases hz : len = 0
    · exact .inr ⟨⟨some a, by simp⟩, by simpa using hz⟩
    · refine .inl ⟨a.block, a.off, ?_⟩
      have hsp := hsp hz
      simp only [hlen]
      obtain ⟨ab, ao, az⟩ := a
      simp only at hsp
      subst hsp; rfl
  · intro j c hj
    by_cases hz : len = 0
    · subst hz; simp [FT.flat] at hj
    have hsp := hsp hz
    have hjl : j < len * F.sz := by
      have := (List.getElem?_eq_some_iff.1 hj).1
      rwa [FT.flat_len, hlen] at this
    have hq : j / F.sz < len := (Nat.div_lt_iff_lt_mul h0).2 hjl
    have hr : j % F.sz < F.sz := Nat.mod_lt _ h0
    have hjd : j / F.sz * F.sz + j % F.sz = j := by rw [Nat.mul_comm]; exact Nat.div_add_mod j F.sz
    obtain ⟨h1, _⟩ := hf (j / F.sz) hq
    obtain ⟨_, hg⟩ := cells_get h1
    have hc' : (F.enc (f (j / F.sz)))[j % F.sz]? = some ((F.enc (f (j / F.sz)))[j % F.sz]'(by rw [F.len]; exact hr)) := List.getElem?_eq_getElem _
    have hfl := F.flat_get (hget _ hq) hc'
    rw [hjd, hj] at hfl
    have hcell := hg _ _ hc'
    obtain ⟨ab, ao, az⟩ := a
    simp only at hsp
    subst hsp
    rw [add_none, add_none, cell_hc, Nat.add_assoc, hjd] at hcell
    simp only [sb, so, Gw]
    rw [hcell]; exact hfl.symm
  · have hi' : i < len := by simpa using hi
    have : gd ((List.range len).map f) i = f i := by simp [gd, hi']
    rw [this]; exact (hf i hi').2
end
def okSl {ρ : Type} [Inhabited ρ] (F : FT ρ) (ok : Gh → ρ → Prop) (G : Gh) (s : Sl ρ) : Prop := SL G F s.v s.xs ∧ ∀ i, i < s.xs.length → ok G (gd s.xs i)
theorem opnSl {P : Program} {t e : TypeId} {ρ : Type} [Inhabited ρ] {F : FT ρ} {ok : Gh → ρ → Prop} (ht : P.underlying t = some (.slice e)) (hE : Opn P e F ok) (hc : P.cellsOf e = F.sz) (h0 : 0 < F.sz) : Opn P t slT (okSl F ok) := fun h => by
  obtain ⟨v, rfl, xs, h1, h2⟩ := opnL ht hE hc h0 h
  exact ⟨⟨v, xs⟩, rfl, h1, h2⟩
section
variable {P : Program} {t e : TypeId} {H : Type} {enc : TypeId × Value → H} {W : World} {r : Reach} {base : Nat} {v : Value} {d : DataW H} {ps : List MemPlace}
theorem argI (ht : P.underlying t = some (.int .i64)) (hv : Value.okWide P W r base t v) (h : DataW.Trod enc P W 0 (fun _ => true) true t v d ps) : ∃ n, v = vi n ∧ okI (Gw W) n := by
  obtain ⟨n, rfl⟩ := okWide_int ht hv
  obtain ⟨fuel, hf⟩ := h
  obtain ⟨m, e1, hm⟩ := opnI ht hf
  simp [Value.cells, intT] at e1
  exact ⟨n, rfl, e1 ▸ hm⟩
theorem argT {ρ : Type} {F : FT ρ} {ok : Gh → ρ → Prop} {fs : Array Field} (ht : P.underlying t = some (.struct fs)) (hO : Opn P t F ok) (hv : Value.okWide P W r base t v) (h : DataW.Trod enc P W 0 (fun _ => true) true t v d ps) : ∃ a, v = vT F a ∧ ok (Gw W) a := by
  obtain ⟨cs, rfl, _⟩ := okWide_struct ht hv
  obtain ⟨fuel, hf⟩ := h
  obtain ⟨m, e1, hm⟩ := hO hf
  simp only [Value.cells] at e1
  exact ⟨m, by simp only [vT]; rw [← e1], hm⟩
theorem trodAll_stays (hl : laidOutB P = true) {W' : World} (hb : Below W.heap.size W W') : ∀ {ts : List TypeId} {vs : List Value} {ds : List (DataW H)} {ps : List MemPlace}, (∀ t ∈ ts, P.readableRec t = true ∧ t < P.types.size) → (∀ x ∈ ps, x.block < W.heap.size) →
    DataW.TrodAll enc P W 0 (fun _ => true) true ts vs ds ps → DataW.TrodAll enc P W' 0 (fun b => decide (b < W.heap.size)) true ts vs ds ps
  | [], [], [], _, _, _, h => h
  | t :: ts, v :: vs, d :: ds, ps, hr, hlt, h => by
    obtain ⟨p, q, h1, h2, rfl⟩ := h
    have := hr t (.head _)
    exact ⟨p, q, Below.trod hl this.1 this.2 h1 hb (fun x hx => hlt x (List.mem_append_left _ hx)), trodAll_stays hl hb (fun t ht => hr t (.tail _ ht)) (fun x hx => hlt x (List.mem_append_right _ hx)) h2, rfl⟩
end
def recsB (P : Program) (ts : List TypeId) : Bool := ts.all fun t => P.readableRec t && Nat.blt t P.types.size
theorem recs_of {P : Program} {ts : List TypeId} (h : recsB P ts = true) : ∀ t ∈ ts, P.readableRec t = true ∧ t < P.types.size := by
  intro t ht
  have := List.all_eq_true.1 h t ht
  simp only [Bool.and_eq_true] at this
  exact ⟨this.1, Nat.le_of_ble_eq_true this.2⟩
/-- A LAW, LIFTED: the call returns true, the arguments read as they did. -/
theorem law_lifted {H : Type} {enc : TypeId × Value → H} {C : Checked} {os : Os} {f : FuncId} {fn : Func} {s : ChangeSpec} {tb : TypeId} (own : ownKnob C.prog.godebug = none) (started : os.Started) (noInit : C.prog.inits.idxOf? f = none) (hfn : C.prog.funcs[f]? = some fn) (hl : laidOutB C.prog = true)
    (hvars : s.vars = []) (hr : recsB C.prog fn.params.toList = true) (hres : fn.resultTypes = #[tb]) (htb : C.prog.underlying tb = some .bool)
    (hsp : ∀ ds : List (DataW H), ds.length = fn.params.toList.length → s.fn H ds = { results := [.lit (.bool true)], args := ds })
    (witness : ∃ (w : World) (tape : Tape) (i : Input), w.os = os ∧ (w.forCall tape i).Shaped C.prog ∧ i.vars = [] ∧ Input.okWide C.prog (w.forCall tape i) .any w.heap.size f i ∧
      s.pre6 enc C.prog fn [] false (w.forCall tape i).memory i.args ∧ ({} : Assume).holds C.prog (lone (Frame.enter C.prog f i.args .normal) [] (w.forCall tape i)))
    (walk : ∀ (W : World) (base : Nat) (args : Array Value) (ds : List (DataW H)) (ps : List MemPlace), (∀ (j : Nat) t v, fn.params[j]? = some t → args[j]? = some v → Value.okWide C.prog W .any base t v) →
      DataW.TrodAll enc C.prog W 0 (fun _ => true) true fn.params.toList args.toList ds ps → CallT C.prog f args (Gw W) [] fun v G _ => v = .bool true ∧ Gh.le (Gw W) G) :
    ReturnsInHanded {} C os f .any (s.pre6 enc C.prog fn [] false) (s.post enc C.prog fn false true false false) := by
  refine returnsInHanded_of_change own started noInit hfn witness ?_
  intro W base args ds gs before hval hW _ _
  have hW' := hW
  obtain ⟨p, q, hA, hV, rfl, hfz, hnd⟩ := hW
  rw [hvars] at hV
  obtain ⟨rfl, rfl⟩ := trodVars_none hV
  refine ((walk W base args ds p hval hA).run (St.start W)).mono ?_
  rintro e W' ⟨v, G, L, rfl, hs, rfl, hG⟩
  have hb := hs.below hG
  have hlt : ∀ x ∈ p, x.block < W.heap.size := fun x hx => hW'.lt x (List.mem_append_left _ hx)
  have hlen : ds.length = fn.params.toList.length := by
    have : ∀ (ts : List TypeId) (vs : List Value) (ds : List (DataW H)) (ps : List MemPlace), DataW.TrodAll enc C.prog W 0 (fun _ => true) true ts vs ds ps → ds.length = ts.length := by
      intro ts
      induction ts with
      | nil => intro vs ds ps h; cases vs <;> cases ds <;> simp_all [DataW.TrodAll]
      | cons t ts ih =>
        intro vs ds ps h
        cases vs <;> cases ds <;> simp only [DataW.TrodAll] at h
        obtain ⟨_, _, _, h2, _⟩ := h
        simp [ih _ _ _ h2]
    exact this _ _ _ _ hA
  refine ⟨_, rfl, ds, [], _, [], p, [], hW', ?_, ?_, ?_, hb.frame _, fun h => by cases h⟩
  · rw [List.append_nil, hsp ds hlen, hres]
    exact trodAll_mk1 (shut_bool htb true)
  · rw [List.append_nil, hsp ds hlen]
    exact trodAll_stays hl hb (recs_of hr) hlt hA
  · rw [List.append_nil, hsp ds hlen, hvars]
    exact rfl
end Go.Proofs.YtbkaincaahcnfaaGreat
namespace Go.Proofs.YtbkaincaahcnfaaGreat
set_option linter.unusedVariables false
set_option linter.unusedSimpArgs false
open Go Go.ChangeShapes Go.WideShapes Go.ChangeAt Go.RowKit
set_option linter.unusedSimpArgs false
set_option maxRecDepth 100000
theorem Tryz.own : ownKnob Tryz.prog.godebug = none := by kernel_rfl
theorem Tryz.laidOut : laidOutB Tryz.prog = true := by kernel_rfl
def okrectT (G : Gh) (a : Rect) : Prop := okI G a.x0 ∧ okI G a.y0 ∧ okI G a.x1 ∧ okI G a.y1
theorem opn221 : Opn Tryz.prog 221 rectT okrectT := fun {H enc w fuel cs x} h => by
  obtain ⟨xs, n, _, _, hl, hx, hf⟩ := DataW.trod_struct Tryz.underlying221 h
  rw [show Tryz.prog.cellsOf 221 = 4 by kernel_rfl] at hl
  obtain ⟨c0, c1, c2, c3, rfl⟩ : ∃ c0 c1 c2 c3, cs = [c0, c1, c2, c3] := by
    match cs, hl with
    | [c0, c1, c2, c3], _ => exact ⟨c0, c1, c2, c3, rfl⟩
  have g0 := hf 0 _ rfl
  simp only [List.getElem_toArray, List.getElem_cons_zero, List.getElem_cons_succ] at g0
  rw [show Tryz.prog.cellsOf 2 = 1 by kernel_rfl] at g0
  obtain ⟨x0, y0⟩ : ∃ x, xs[0]? = some x := ⟨_, List.getElem?_eq_getElem (by rw [hx]; decide)⟩
  rw [y0] at g0
  obtain ⟨a0, e0, o0⟩ := (opnI Tryz.underlying2) g0
  have g1 := hf 1 _ rfl
  simp only [List.getElem_toArray, List.getElem_cons_zero, List.getElem_cons_succ] at g1
  rw [show Tryz.prog.cellsOf 2 = 1 by kernel_rfl] at g1
  obtain ⟨x1, y1⟩ : ∃ x, xs[1]? = some x := ⟨_, List.getElem?_eq_getElem (by rw [hx]; decide)⟩
  rw [y1] at g1
  obtain ⟨a1, e1, o1⟩ := (opnI Tryz.underlying2) g1
  have g2 := hf 2 _ rfl
  simp only [List.getElem_toArray, List.getElem_cons_zero, List.getElem_cons_succ] at g2
  rw [show Tryz.prog.cellsOf 2 = 1 by kernel_rfl] at g2
  obtain ⟨x2, y2⟩ : ∃ x, xs[2]? = some x := ⟨_, List.getElem?_eq_getElem (by rw [hx]; decide)⟩
  rw [y2] at g2
  obtain ⟨a2, e2, o2⟩ := (opnI Tryz.underlying2) g2
  have g3 := hf 3 _ rfl
  simp only [List.getElem_toArray, List.getElem_cons_zero, List.getElem_cons_succ] at g3
  rw [show Tryz.prog.cellsOf 2 = 1 by kernel_rfl] at g3
  obtain ⟨x3, y3⟩ : ∃ x, xs[3]? = some x := ⟨_, List.getElem?_eq_getElem (by rw [hx]; decide)⟩
  rw [y3] at g3
  obtain ⟨a3, e3, o3⟩ := (opnI Tryz.underlying2) g3
  clear hf hx hl
  refine ⟨⟨a0, a1, a2, a3⟩, ?_, o0, o1, o2, o3⟩
  simp [intT] at e0 e1 e2 e3
  simp [intT, rectT, e0, e1, e2, e3]
def okshapeT (G : Gh) (a : Shape) : Prop := okI G a.layer ∧ okrectT G a.box
theorem opn223 : Opn Tryz.prog 223 shapeT okshapeT := fun {H enc w fuel cs x} h => by
  obtain ⟨xs, n, _, _, hl, hx, hf⟩ := DataW.trod_struct Tryz.underlying223 h
  rw [show Tryz.prog.cellsOf 223 = 5 by kernel_rfl] at hl
  obtain ⟨c0, c1, c2, c3, c4, rfl⟩ : ∃ c0 c1 c2 c3 c4, cs = [c0, c1, c2, c3, c4] := by
    match cs, hl with
    | [c0, c1, c2, c3, c4], _ => exact ⟨c0, c1, c2, c3, c4, rfl⟩
  have g0 := hf 0 _ rfl
  simp only [List.getElem_toArray, List.getElem_cons_zero, List.getElem_cons_succ] at g0
  rw [show Tryz.prog.cellsOf 2 = 1 by kernel_rfl] at g0
  obtain ⟨x0, y0⟩ : ∃ x, xs[0]? = some x := ⟨_, List.getElem?_eq_getElem (by rw [hx]; decide)⟩
  rw [y0] at g0
  obtain ⟨a0, e0, o0⟩ := (opnI Tryz.underlying2) g0
  have g1 := hf 1 _ rfl
  simp only [List.getElem_toArray, List.getElem_cons_zero, List.getElem_cons_succ] at g1
  rw [show Tryz.prog.cellsOf 221 = 4 by kernel_rfl] at g1
  obtain ⟨x1, y1⟩ : ∃ x, xs[1]? = some x := ⟨_, List.getElem?_eq_getElem (by rw [hx]; decide)⟩
  rw [y1] at g1
  obtain ⟨a1, e1, o1⟩ := opn221 g1
  clear hf hx hl
  refine ⟨⟨a0, a1⟩, ?_, o0, o1⟩
  simp [intT, rectT] at e0 e1
  simp [intT, rectT, shapeT, e0, e1]
def okptT (G : Gh) (a : Pt) : Prop := okI G a.x ∧ okI G a.y
theorem opn216 : Opn Tryz.prog 216 ptT okptT := fun {H enc w fuel cs x} h => by
  obtain ⟨xs, n, _, _, hl, hx, hf⟩ := DataW.trod_struct Tryz.underlying216 h
  rw [show Tryz.prog.cellsOf 216 = 2 by kernel_rfl] at hl
  obtain ⟨c0, c1, rfl⟩ : ∃ c0 c1, cs = [c0, c1] := by
    match cs, hl with
    | [c0, c1], _ => exact ⟨c0, c1, rfl⟩
  have g0 := hf 0 _ rfl
  simp only [List.getElem_toArray, List.getElem_cons_zero, List.getElem_cons_succ] at g0
  rw [show Tryz.prog.cellsOf 2 = 1 by kernel_rfl] at g0
  obtain ⟨x0, y0⟩ : ∃ x, xs[0]? = some x := ⟨_, List.getElem?_eq_getElem (by rw [hx]; decide)⟩
  rw [y0] at g0
  obtain ⟨a0, e0, o0⟩ := (opnI Tryz.underlying2) g0
  have g1 := hf 1 _ rfl
  simp only [List.getElem_toArray, List.getElem_cons_zero, List.getElem_cons_succ] at g1
  rw [show Tryz.prog.cellsOf 2 = 1 by kernel_rfl] at g1
  obtain ⟨x1, y1⟩ : ∃ x, xs[1]? = some x := ⟨_, List.getElem?_eq_getElem (by rw [hx]; decide)⟩
  rw [y1] at g1
  obtain ⟨a1, e1, o1⟩ := (opnI Tryz.underlying2) g1
  clear hf hx hl
  refine ⟨⟨a0, a1⟩, ?_, o0, o1⟩
  simp [intT] at e0 e1
  simp [intT, ptT, e0, e1]
def oklabelT (G : Gh) (a : Label) : Prop := okI G a.layer ∧ okptT G a.at_ ∧ okS G a.name
theorem opn218 : Opn Tryz.prog 218 labelT oklabelT := fun {H enc w fuel cs x} h => by
  obtain ⟨xs, n, _, _, hl, hx, hf⟩ := DataW.trod_struct Tryz.underlying218 h
  rw [show Tryz.prog.cellsOf 218 = 4 by kernel_rfl] at hl
  obtain ⟨c0, c1, c2, c3, rfl⟩ : ∃ c0 c1 c2 c3, cs = [c0, c1, c2, c3] := by
    match cs, hl with
    | [c0, c1, c2, c3], _ => exact ⟨c0, c1, c2, c3, rfl⟩
  have g0 := hf 0 _ rfl
  simp only [List.getElem_toArray, List.getElem_cons_zero, List.getElem_cons_succ] at g0
  rw [show Tryz.prog.cellsOf 2 = 1 by kernel_rfl] at g0
  obtain ⟨x0, y0⟩ : ∃ x, xs[0]? = some x := ⟨_, List.getElem?_eq_getElem (by rw [hx]; decide)⟩
  rw [y0] at g0
  obtain ⟨a0, e0, o0⟩ := (opnI Tryz.underlying2) g0
  have g1 := hf 1 _ rfl
  simp only [List.getElem_toArray, List.getElem_cons_zero, List.getElem_cons_succ] at g1
  rw [show Tryz.prog.cellsOf 216 = 2 by kernel_rfl] at g1
  obtain ⟨x1, y1⟩ : ∃ x, xs[1]? = some x := ⟨_, List.getElem?_eq_getElem (by rw [hx]; decide)⟩
  rw [y1] at g1
  obtain ⟨a1, e1, o1⟩ := opn216 g1
  have g2 := hf 2 _ rfl
  simp only [List.getElem_toArray, List.getElem_cons_zero, List.getElem_cons_succ] at g2
  rw [show Tryz.prog.cellsOf 9 = 1 by kernel_rfl] at g2
  obtain ⟨x2, y2⟩ : ∃ x, xs[2]? = some x := ⟨_, List.getElem?_eq_getElem (by rw [hx]; decide)⟩
  rw [y2] at g2
  obtain ⟨a2, e2, o2⟩ := (opnS Tryz.underlying9) g2
  clear hf hx hl
  refine ⟨⟨a0, a1, a2⟩, ?_, o0, o1, o2⟩
  simp [intT, ptT, strT] at e0 e1 e2
  simp [intT, labelT, ptT, strT, e0, e1, e2]
def oktransT (G : Gh) (a : Trans) : Prop := okI G a.o ∧ okI G a.x ∧ okI G a.y
theorem opn226 : Opn Tryz.prog 226 transT oktransT := fun {H enc w fuel cs x} h => by
  obtain ⟨xs, n, _, _, hl, hx, hf⟩ := DataW.trod_struct Tryz.underlying226 h
  rw [show Tryz.prog.cellsOf 226 = 3 by kernel_rfl] at hl
  obtain ⟨c0, c1, c2, rfl⟩ : ∃ c0 c1 c2, cs = [c0, c1, c2] := by
    match cs, hl with
    | [c0, c1, c2], _ => exact ⟨c0, c1, c2, rfl⟩
  have g0 := hf 0 _ rfl
  simp only [List.getElem_toArray, List.getElem_cons_zero, List.getElem_cons_succ] at g0
  rw [show Tryz.prog.cellsOf 2 = 1 by kernel_rfl] at g0
  obtain ⟨x0, y0⟩ : ∃ x, xs[0]? = some x := ⟨_, List.getElem?_eq_getElem (by rw [hx]; decide)⟩
  rw [y0] at g0
  obtain ⟨a0, e0, o0⟩ := (opnI Tryz.underlying2) g0
  have g1 := hf 1 _ rfl
  simp only [List.getElem_toArray, List.getElem_cons_zero, List.getElem_cons_succ] at g1
  rw [show Tryz.prog.cellsOf 2 = 1 by kernel_rfl] at g1
  obtain ⟨x1, y1⟩ : ∃ x, xs[1]? = some x := ⟨_, List.getElem?_eq_getElem (by rw [hx]; decide)⟩
  rw [y1] at g1
  obtain ⟨a1, e1, o1⟩ := (opnI Tryz.underlying2) g1
  have g2 := hf 2 _ rfl
  simp only [List.getElem_toArray, List.getElem_cons_zero, List.getElem_cons_succ] at g2
  rw [show Tryz.prog.cellsOf 2 = 1 by kernel_rfl] at g2
  obtain ⟨x2, y2⟩ : ∃ x, xs[2]? = some x := ⟨_, List.getElem?_eq_getElem (by rw [hx]; decide)⟩
  rw [y2] at g2
  obtain ⟨a2, e2, o2⟩ := (opnI Tryz.underlying2) g2
  clear hf hx hl
  refine ⟨⟨a0, a1, a2⟩, ?_, o0, o1, o2⟩
  simp [intT] at e0 e1 e2
  simp [intT, transT, e0, e1, e2]
def okinstT (G : Gh) (a : Inst) : Prop := okI G a.cell ∧ oktransT G a.place ∧ okI G a.cols ∧ okI G a.rows ∧ okI G a.sx ∧ okI G a.sy
theorem opn228 : Opn Tryz.prog 228 instT okinstT := fun {H enc w fuel cs x} h => by
  obtain ⟨xs, n, _, _, hl, hx, hf⟩ := DataW.trod_struct Tryz.underlying228 h
  rw [show Tryz.prog.cellsOf 228 = 8 by kernel_rfl] at hl
  obtain ⟨c0, c1, c2, c3, c4, c5, c6, c7, rfl⟩ : ∃ c0 c1 c2 c3 c4 c5 c6 c7, cs = [c0, c1, c2, c3, c4, c5, c6, c7] := by
    match cs, hl with
    | [c0, c1, c2, c3, c4, c5, c6, c7], _ => exact ⟨c0, c1, c2, c3, c4, c5, c6, c7, rfl⟩
  have g0 := hf 0 _ rfl
  simp only [List.getElem_toArray, List.getElem_cons_zero, List.getElem_cons_succ] at g0
  rw [show Tryz.prog.cellsOf 2 = 1 by kernel_rfl] at g0
  obtain ⟨x0, y0⟩ : ∃ x, xs[0]? = some x := ⟨_, List.getElem?_eq_getElem (by rw [hx]; decide)⟩
  rw [y0] at g0
  obtain ⟨a0, e0, o0⟩ := (opnI Tryz.underlying2) g0
  have g1 := hf 1 _ rfl
  simp only [List.getElem_toArray, List.getElem_cons_zero, List.getElem_cons_succ] at g1
  rw [show Tryz.prog.cellsOf 226 = 3 by kernel_rfl] at g1
  obtain ⟨x1, y1⟩ : ∃ x, xs[1]? = some x := ⟨_, List.getElem?_eq_getElem (by rw [hx]; decide)⟩
  rw [y1] at g1
  obtain ⟨a1, e1, o1⟩ := opn226 g1
  have g2 := hf 2 _ rfl
  simp only [List.getElem_toArray, List.getElem_cons_zero, List.getElem_cons_succ] at g2
  rw [show Tryz.prog.cellsOf 2 = 1 by kernel_rfl] at g2
  obtain ⟨x2, y2⟩ : ∃ x, xs[2]? = some x := ⟨_, List.getElem?_eq_getElem (by rw [hx]; decide)⟩
  rw [y2] at g2
  obtain ⟨a2, e2, o2⟩ := (opnI Tryz.underlying2) g2
  have g3 := hf 3 _ rfl
  simp only [List.getElem_toArray, List.getElem_cons_zero, List.getElem_cons_succ] at g3
  rw [show Tryz.prog.cellsOf 2 = 1 by kernel_rfl] at g3
  obtain ⟨x3, y3⟩ : ∃ x, xs[3]? = some x := ⟨_, List.getElem?_eq_getElem (by rw [hx]; decide)⟩
  rw [y3] at g3
  obtain ⟨a3, e3, o3⟩ := (opnI Tryz.underlying2) g3
  have g4 := hf 4 _ rfl
  simp only [List.getElem_toArray, List.getElem_cons_zero, List.getElem_cons_succ] at g4
  rw [show Tryz.prog.cellsOf 2 = 1 by kernel_rfl] at g4
  obtain ⟨x4, y4⟩ : ∃ x, xs[4]? = some x := ⟨_, List.getElem?_eq_getElem (by rw [hx]; decide)⟩
  rw [y4] at g4
  obtain ⟨a4, e4, o4⟩ := (opnI Tryz.underlying2) g4
  have g5 := hf 5 _ rfl
  simp only [List.getElem_toArray, List.getElem_cons_zero, List.getElem_cons_succ] at g5
  rw [show Tryz.prog.cellsOf 2 = 1 by kernel_rfl] at g5
  obtain ⟨x5, y5⟩ : ∃ x, xs[5]? = some x := ⟨_, List.getElem?_eq_getElem (by rw [hx]; decide)⟩
  rw [y5] at g5
  obtain ⟨a5, e5, o5⟩ := (opnI Tryz.underlying2) g5
  clear hf hx hl
  refine ⟨⟨a0, a1, a2, a3, a4, a5⟩, ?_, o0, o1, o2, o3, o4, o5⟩
  simp [intT, transT] at e0 e1 e2 e3 e4 e5
  simp [instT, intT, transT, e0, e1, e2, e3, e4, e5]
def okcellT (G : Gh) (a : Cell) : Prop := okS G a.name ∧ (okSl shapeT okshapeT) G a.shapes ∧ (okSl labelT oklabelT) G a.labels ∧ (okSl instT okinstT) G a.insts
theorem opn122 : Opn Tryz.prog 122 cellT okcellT := fun {H enc w fuel cs x} h => by
  obtain ⟨xs, n, _, _, hl, hx, hf⟩ := DataW.trod_struct Tryz.underlying122 h
  rw [show Tryz.prog.cellsOf 122 = 4 by kernel_rfl] at hl
  obtain ⟨c0, c1, c2, c3, rfl⟩ : ∃ c0 c1 c2 c3, cs = [c0, c1, c2, c3] := by
    match cs, hl with
    | [c0, c1, c2, c3], _ => exact ⟨c0, c1, c2, c3, rfl⟩
  have g0 := hf 0 _ rfl
  simp only [List.getElem_toArray, List.getElem_cons_zero, List.getElem_cons_succ] at g0
  rw [show Tryz.prog.cellsOf 9 = 1 by kernel_rfl] at g0
  obtain ⟨x0, y0⟩ : ∃ x, xs[0]? = some x := ⟨_, List.getElem?_eq_getElem (by rw [hx]; decide)⟩
  rw [y0] at g0
  obtain ⟨a0, e0, o0⟩ := (opnS Tryz.underlying9) g0
  have g1 := hf 1 _ rfl
  simp only [List.getElem_toArray, List.getElem_cons_zero, List.getElem_cons_succ] at g1
  rw [show Tryz.prog.cellsOf 118 = 1 by kernel_rfl] at g1
  obtain ⟨x1, y1⟩ : ∃ x, xs[1]? = some x := ⟨_, List.getElem?_eq_getElem (by rw [hx]; decide)⟩
  rw [y1] at g1
  obtain ⟨a1, e1, o1⟩ := (opnSl Tryz.underlying118 opn223 (by kernel_rfl) (by decide)) g1
  have g2 := hf 2 _ rfl
  simp only [List.getElem_toArray, List.getElem_cons_zero, List.getElem_cons_succ] at g2
  rw [show Tryz.prog.cellsOf 119 = 1 by kernel_rfl] at g2
  obtain ⟨x2, y2⟩ : ∃ x, xs[2]? = some x := ⟨_, List.getElem?_eq_getElem (by rw [hx]; decide)⟩
  rw [y2] at g2
  obtain ⟨a2, e2, o2⟩ := (opnSl Tryz.underlying119 opn218 (by kernel_rfl) (by decide)) g2
  have g3 := hf 3 _ rfl
  simp only [List.getElem_toArray, List.getElem_cons_zero, List.getElem_cons_succ] at g3
  rw [show Tryz.prog.cellsOf 120 = 1 by kernel_rfl] at g3
  obtain ⟨x3, y3⟩ : ∃ x, xs[3]? = some x := ⟨_, List.getElem?_eq_getElem (by rw [hx]; decide)⟩
  rw [y3] at g3
  obtain ⟨a3, e3, o3⟩ := (opnSl Tryz.underlying120 opn228 (by kernel_rfl) (by decide)) g3
  clear hf hx hl
  refine ⟨⟨a0, a1, a2, a3⟩, ?_, o0, o1, o2, o3⟩
  simp [slT, strT] at e0 e1 e2 e3
  simp [cellT, slT, strT, e0, e1, e2, e3]
def oklibT (G : Gh) (a : Lib) : Prop := (okSl cellT okcellT) G a.cells
theorem opn24 : Opn Tryz.prog 24 libT oklibT := fun {H enc w fuel cs x} h => by
  obtain ⟨xs, n, _, _, hl, hx, hf⟩ := DataW.trod_struct Tryz.underlying24 h
  rw [show Tryz.prog.cellsOf 24 = 1 by kernel_rfl] at hl
  obtain ⟨c0, rfl⟩ : ∃ c0, cs = [c0] := by
    match cs, hl with
    | [c0], _ => exact ⟨c0, rfl⟩
  have g0 := hf 0 _ rfl
  simp only [List.getElem_toArray, List.getElem_cons_zero, List.getElem_cons_succ] at g0
  rw [show Tryz.prog.cellsOf 22 = 1 by kernel_rfl] at g0
  obtain ⟨x0, y0⟩ : ∃ x, xs[0]? = some x := ⟨_, List.getElem?_eq_getElem (by rw [hx]; decide)⟩
  rw [y0] at g0
  obtain ⟨a0, e0, o0⟩ := (opnSl Tryz.underlying22 opn122 (by kernel_rfl) (by decide)) g0
  clear hf hx hl
  refine ⟨⟨a0⟩, ?_, o0⟩
  simp [slT] at e0
  simp [libT, slT, e0]
theorem okLib_rl {G : Gh} {L : List Ch} {l : Lib} (h : oklibT G l) : RLib G L l.cells.v l.cells.xs :=
  ⟨Rs.g h.1, fun i hi => by
    have hi' : i < l.cells.xs.length := by simpa [shs] using hi
    rw [shs, gd_map _ hi']; exact Rs.g (h.2 i hi').2.1.1, fun i hi => by
    have hi' : i < l.cells.xs.length := by simpa [lbs] using hi
    rw [lbs, gd_map _ hi']; exact Rs.g (h.2 i hi').2.2.1.1, fun i hi => by
    have hi' : i < l.cells.xs.length := by simpa [ins] using hi
    rw [ins, gd_map _ hi']; exact Rs.g (h.2 i hi').2.2.2.1⟩
theorem okLib_len2 {G : Gh} {l : Lib} (h : oklibT G l) : lenC (erCls l.cells.xs) := fun i hi => by
  rw [erCls_len] at hi
  rw [erCls_gd hi]
  exact ⟨(h.2 i hi).1, fun j hj => ((h.2 i hi).2.2.1.2 j hj).2.2⟩
theorem placedPieces_lifted (os : Os) (started : os.Started) (H : Type) (enc : TypeId × Value → H) :
    ReturnsInHanded {} Tryz.checked os 8 .any (Rows.fnExactPlacedPiecesSpec.pre6 enc Tryz.prog Tryz.f8 [] false) (Rows.fnExactPlacedPiecesSpec.post enc Tryz.prog Tryz.f8 false true false false) := by
  refine law_lifted (C := Tryz.checked) Tryz.own started (by kernel_rfl) Tryz.func8 Tryz.laidOut rfl (by kernel_rfl) rfl Tryz.underlying4 (fun ds h => ?_)
    (ChangeSpec.witness6 (enc := enc) (C := Tryz.checked) false ⟨#[], #[.agg #[.slice none 0 0], .int .i64 0], []⟩ 8 (by kernel_rfl) (by kernel_rfl) (by kernel_rfl) (by kernel_rfl)) ?_
  · match ds, h with
    | [d, e], _ => rfl
  · intro W base args ds ps hval hA
    have hA : DataW.TrodAll enc Tryz.prog W 0 (fun _ => true) true Tryz.f8.params.toList args.toList ds ps := hA
    have hval : ∀ (j : Nat) t v, Tryz.f8.params[j]? = some t → args[j]? = some v → Value.okWide Tryz.prog W .any base t v := hval
    rw [Tryz.params8] at hA hval
    obtain ⟨v0, v1, d0, d1, p0, p1, rfl, rfl, _, h0, h1⟩ := trodAll_two hA
    obtain ⟨l, rfl, q1⟩ := argT Tryz.underlying24 opn24 (hval 0 _ v0 rfl rfl) h0
    obtain ⟨n1, rfl, _⟩ := argI Tryz.underlying2 (hval 1 _ v1 rfl rfl) h1
    exact law_PlacedPieces (okLib_rl q1) (okLib_len2 q1) ⟨rfl, Gh.le_refl _⟩
theorem placedPieces_holds : Rows.FnExactPlacedPiecesSaid :=
  OpenClaim.holds_of_wide 8 Tryz.f8 rfl rfl rfl rfl rfl rfl rfl ⟨rfl, rfl, rfl, rfl, rfl⟩ rfl rfl rfl rfl rfl (by kernel_rfl) Tryz.func8 (by kernel_rfl)
    (of_decide_eq_true (by kernel_rfl)) (by unfold Func.isWrapper; first | (rw [if_pos (by decide +kernel)]; kernel_rfl) | (rw [if_neg (by decide +kernel)]; exact ⟨rfl, rfl⟩))
    (fun os started H enc _ => placedPieces_lifted os started H enc)
end Go.Proofs.YtbkaincaahcnfaaGreat
