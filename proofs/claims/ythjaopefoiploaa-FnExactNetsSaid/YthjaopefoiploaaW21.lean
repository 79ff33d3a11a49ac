/-
  Contracts: marks on pieces; the law of pieces.
-/
import Derived.Test.YthjaopefoiploaaNets
import Derived.Test.YthjaopefoiploaaW8
namespace Go.Proofs.Ythjaopefoiploaa
open Go
set_option maxRecDepth 20000
set_option linter.unusedSimpArgs false
variable {G : Gh} {L : List Ch} {R : Value → Gh → List Ch → Prop}
def mkPc (p : Piece) (k : Int) : Piece := ⟨k, mkRS p.reg (k + 1)⟩
def nPc (p : Piece) : Int := 1 + nRS p.reg
theorem nPc_nn (p : Piece) : 0 ≤ nPc p := by have : 0 ≤ nRS p.reg := nSl_nn p.reg; simp only [nPc]; omega
theorem flat_setEq {α : Type} {F : FT α} {zs : List α} {i : Nat} {p q : α} (h : F.enc p = F.enc q) : F.flat (zs.set i p) = F.flat (zs.set i q) := by
  simp only [FT.flat, List.flatMap_def, List.map_set, h]
/-- only what lies in memory matters -/
theorem Cv.flat {α : Type} {e : TypeId} {F : FT α} {v : Value} {xs ys : List α} {L : List Ch} (h : F.flat xs = F.flat ys) (hl : xs.length = ys.length) : Cv (osl e F v xs :: L) (osl e F v ys :: L) :=
  Cv.imp fun hp hc => by
    rcases hc with ⟨rfl, rfl⟩ | ⟨b, cap, c, h1, h2, h3, h4, h5, h6⟩
    · exact .inl ⟨rfl, List.eq_nil_of_length_eq_zero (by simpa using hl.symm)⟩
    · exact .inr ⟨b, cap, c, by rw [← hl]; exact h1, h2, by rw [← hl]; exact h3, h4, h5, by rw [← hl, ← h]; exact h6⟩
theorem CallT.eq2 {P : Program} {f : FuncId} {v v' x : Value} (h : v = v') (k : CallT P f #[v', x] G L R) : CallT P f #[v, x] G L R := by subst h; exact k
theorem regs_set (zs : List Piece) (i : Nat) (p : Piece) : regs (zs.set i p) = (regs zs).set i p.reg := by simp [regs, List.map_set]
/-- a piece's region, out of the bag and written, goes back -/
theorem Cv.slotP {e e' : TypeId} {v : Value} {zs : List Piece} {p q : Piece} {ys : List Rect} {L : List Ch} (i : Nat) (hi : i < zs.length) (hq : q = ⟨p.layer, ⟨(gd zs i).reg.v, ys⟩⟩) (hp : p.reg.v = (gd zs i).reg.v) :
    Cv (osl e rectT (gd (regs zs) i).v ys :: osl e' pieceT v (zs.set i p) :: bag (((regs zs).map (ownS e rectT)).set i emp) :: L) (osl e' pieceT v (zs.set i q) :: bagS e rectT (regs (zs.set i q)) :: L) := by
  subst hq
  have h1 : Cv (osl e rectT (gd (regs zs) i).v ys :: osl e' pieceT v (zs.set i p) :: bag (((regs zs).map (ownS e rectT)).set i emp) :: L) (osl e' pieceT v (zs.set i p) :: osl e rectT (gd (regs zs) i).v ys :: bag (((regs zs).map (ownS e rectT)).set i emp) :: L) := Cv.swap (A := [osl e rectT (gd (regs zs) i).v ys]) (B := [osl e' pieceT v (zs.set i p)])
  refine h1.trans ((Cv.cons (Cv.bagS_put i (by rw [regs_len]; exact hi))).trans ?_)
  rw [regs_set, regs_gd hi]
  exact Cv.flat (flat_setEq (by simp [pieceT, hp])) (by simp)
theorem markPieceS_s {v : Value} {xs : List Piece} {k0 : Int} (hk : 0 ≤ k0) (hb : k0 + costL nPc xs ≤ 4611686018427387904) (k : R (vi (k0 + costL nPc xs)) G (osl 90 pieceT v (markL mkPc nPc xs k0) :: bagS 59 rectT (regs (markL mkPc nPc xs k0)) :: L)) :
    CallT Try.prog 52 #[v, vi k0] G (osl 90 pieceT v xs :: bagS 59 rectT (regs xs) :: L) R := by
  refine CallT.bd (T := pieceT) (v := v) (xs := xs) Rs.o fun hb2 => ?_
  refine CallT.cv (L' := osl 90 pieceT v (markTo mkPc nPc xs k0 0) :: bagS 59 rectT (regs (markTo mkPc nPc xs k0 0)) :: L) (Cv.cast (by rw [markTo_zero])) ?_
  refine CallT.enter (args := _) Try.func52 rfl rfl (by kernel_rfl) rfl ?_
  refine WP.seq ?_
  refine WP.region ?_
  refine RG.pv rfl (PV.mvI (.inr rfl) rfl) ?_
  refine RG.nil ?_
  refine WP.seq ?_
  refine WP.seq ?_
  refine WP.region ?_
  refine RG.pv rfl (PV.mvI (.inr rfl) rfl) ?_
  refine RG.nil ?_
  refine WP.block ?_
  refine WP.loop2 [0] (fun (i : Nat) (kk : Int) => i ≤ xs.length ∧ kk = k0 + costL nPc (xs.take i)) (fun (i : Nat) (kk : Int) => [(5, vi i), (1, vi kk)]) (fun (i : Nat) (kk : Int) => osl 90 pieceT v (markTo mkPc nPc xs k0 i) :: bagS 59 rectT (regs (markTo mkPc nPc xs k0 i)) :: L) (fun (i : Nat) (kk : Int) => xs.length - i) 0 k0 ⟨by omega, by simp [costL]⟩ ⟨rfl, rfl, trivial⟩ Cv.p ?_
  rintro i kk τ ⟨hi, hkk⟩
  refine WP.seq ?_
  refine WP.seq ?_
  refine WP.region ?_
  refine RG.pv rfl (PV.mvI (.inl rfl) rfl) ?_
  refine RG.pv rfl (PV.move (v := v) rfl rfl) ?_
  refine RG.pv rfl (PV.len (v := v) rfl Try.underlying86 rfl SlF.o) ?_
  refine RG.pv rfl (PV.lss rfl rfl rfl) ?_
  refine RG.nil ?_
  have hml := markTo_len (mk := mkPc) (n := nPc) (k := k0) hi
  refine WP.cond rfl (fun h1 => ?_) (fun h1 => ?_)
  · have h1 := of_decide_eq_true h1
    have h2 : i < xs.length := by omega
    have hmg := markTo_gd (mk := mkPc) (n := nPc) (k := k0) h2
    have hc := costL_take nPc h2
    have hc1 : costL nPc (xs.take (i + 1)) ≤ costL nPc xs := costL_le nPc_nn xs (i + 1)
    have hc2 : 0 ≤ costL nPc (xs.take i) := costL_nonneg nPc_nn (xs.take i)
    have hc3 : 0 ≤ nRS (gd xs i).reg := nSl_nn (gd xs i).reg
    have hc5 : nPc (gd xs i) = 1 + nRS (gd xs i).reg := rfl
    have hgi : gd (regs (markTo mkPc nPc xs k0 i)) i = (gd xs i).reg := by rw [regs_gd (by omega), hmg]
    have hc4 : costL nRect (gd (regs (markTo mkPc nPc xs k0 i)) i).xs = nRS (gd xs i).reg := by rw [hgi]; rfl
    have hgs : (gd ((markTo mkPc nPc xs k0 i).set i (Piece.s0 kk (gd (markTo mkPc nPc xs k0 i) i))) i).reg.v = (gd (regs (markTo mkPc nPc xs k0 i)) i).v := by
      rw [hgi]; simp [gd, hml, h2, ← hmg]
    refine WP.cv (Cv.cons (Cv.bagS_take i (by rw [regs_len]; omega))) ?_
    refine WP.skip ?_
    refine WP.seq ?_
    refine WP.block ?_
    refine WP.seq ?_
    refine WP.region ?_
    refine RG.pv rfl (PV.move (v := v) rfl rfl) ?_
    refine RG.pv rfl (PV.mvI (.inl rfl) rfl) ?_
    refine RG.pv rfl (PV.mvI (.inl rfl) rfl) ?_
    refine RG.pv rfl (PV.idxS (v := v) rfl Is86 rfl SlF.o rfl rfl (by omega)) ?_
    refine RG.pv rfl (PV.field rfl Fo90_0 rfl) ?_
    refine RG.ot rfl (OT.storeF (F := pieceT) (val := vi) (cv := fun u => [vi u]) (st := Piece.s0) rfl Sz2 rfl rfl rfl (Cl.c rfl) rfl (OneC.c rfl) (by exact set_self (by omega)) (by first | omega | (simp; omega)) rfl (fun _ _ => rfl) ?_)
    refine RG.nil ?_
    refine WP.seq ?_
    refine WP.region ?_
    refine RG.pv rfl (PV.mvI (.inl rfl) rfl) ?_
    refine RG.pv rfl (PV.add rfl rfl rfl (by first | omega | (simp only [List.length_set]; omega))) ?_
    refine RG.pv rfl (PV.mvI (.inr rfl) rfl) ?_
    refine RG.nil ?_
    refine WP.region ?_
    refine RG.pv rfl (PV.move (v := v) rfl rfl) ?_
    refine RG.pv rfl (PV.mvI (.inl rfl) rfl) ?_
    refine RG.pv rfl (PV.idxS (v := v) rfl Is86 rfl SlF.o rfl rfl (by first | omega | (simp only [List.length_set]; omega))) ?_
    refine RG.pv rfl (PV.field rfl Fo90_1 rfl) ?_
    refine RG.pv rfl (PV.loadF rfl Sc24 rfl rfl (El.o (getG (by first | omega | (simp only [List.length_set]; omega)))) rfl) ?_
    refine RG.pv rfl (PV.mvI (.inl rfl) rfl) ?_
    refine RG.callF (vs := [_, _]) rfl rfl En14 rfl (CallT.eq2 hgs (CallT.exS (gd (regs (markTo mkPc nPc xs k0 i)) i).v (markRectS_s (by omega) (by omega) ?_)))
    refine RG.pv rfl (PV.mvI (.inr rfl) rfl) ?_
    refine RG.nil ?_
    refine WP.region ?_
    refine RG.pv rfl (PV.mvI (.inl rfl) rfl) ?_
    refine RG.pv rfl (PV.add rfl rfl rfl (by first | omega | (simp only [List.length_set]; omega))) ?_
    refine RG.pv rfl (PV.mvI (.inr rfl) rfl) ?_
    refine RG.nil ?_
    exact ⟨rfl, i + 1, _, ⟨by omega, by rw [hc]; omega⟩, ⟨rfl, rfl, trivial⟩, ⟨rfl, trivial⟩, ((Cv.slotP (zs := markTo mkPc nPc xs k0 i) (p := Piece.s0 kk (gd (markTo mkPc nPc xs k0 i) i)) (q := mkPc (gd xs i) (k0 + costL nPc (xs.take i))) (ys := markL mkRect nRect (gd (regs (markTo mkPc nPc xs k0 i)) i).xs (kk + 1)) i (by omega) (by rw [hgi, hmg, mkPc, ← hkk]; rfl) rfl).trans (Cv.cast (by rw [← markTo_set h2]))), by omega⟩
  · have h1 := of_decide_eq_false h1
    have e : kk = k0 + costL nPc xs := by rw [hkk, List.take_of_length_le (by omega)]
    rw [← e] at k
    refine WP.exit ?_
    refine WP.seq ?_
    refine WP.region ?_
    refine RG.pv rfl (PV.mvI (.inl rfl) rfl) ?_
    refine RG.pv rfl (PV.mvI (.inr rfl) rfl) ?_
    refine RG.nil ?_
    refine WP.ret ?_
    exact ⟨_, _, ResV.one rfl rfl, (Cv.cast (by rw [markTo_all (by omega)])), k⟩
theorem heldPieceS_s {v : Value} {xs : List Piece} {k0 : Int} (h0 : Rs G L pieceT v (markL mkPc nPc xs k0)) (hd : RsE G L rectT (regs (markL mkPc nPc xs k0))) (hk : 0 ≤ k0) (hb : k0 + costL nPc xs ≤ 4611686018427387904) (k : R (vi (k0 + costL nPc xs)) G L) : CallT Try.prog 53 #[v, vi k0] G L R := by
  have hml := markL_len mkPc nPc xs k0
  refine CallT.bd h0 fun hb2 => ?_
  refine CallT.enter (args := _) Try.func53 rfl rfl (by kernel_rfl) rfl ?_
  refine WP.seq ?_
  refine WP.region ?_
  refine RG.pv rfl (PV.mvI (.inr rfl) rfl) ?_
  refine RG.nil ?_
  refine WP.seq ?_
  refine WP.seq ?_
  refine WP.region ?_
  refine RG.pv rfl (PV.mvI (.inr rfl) rfl) ?_
  refine RG.nil ?_
  refine WP.block ?_
  refine WP.loop2 [0] (fun (i : Nat) (kk : Int) => i ≤ xs.length ∧ kk = k0 + costL nPc (xs.take i)) (fun (i : Nat) (kk : Int) => [(5, vi i), (1, vi kk)]) (fun (i : Nat) (kk : Int) => L) (fun (i : Nat) (kk : Int) => xs.length - i) 0 k0 ⟨by omega, by simp [costL]⟩ ⟨rfl, rfl, trivial⟩ Cv.p ?_
  rintro i kk τ ⟨hi, hkk⟩
  refine WP.seq ?_
  refine WP.seq ?_
  refine WP.region ?_
  refine RG.pv rfl (PV.mvI (.inl rfl) rfl) ?_
  refine RG.pv rfl (PV.move (v := v) rfl rfl) ?_
  refine RG.pv rfl (PV.len (v := v) rfl Try.underlying86 rfl (SlF.r h0)) ?_
  refine RG.pv rfl (PV.lss rfl rfl rfl) ?_
  refine RG.nil ?_
  refine WP.cond rfl (fun h1 => ?_) (fun h1 => ?_)
  · have h1 := of_decide_eq_true h1
    have h2 : i < xs.length := by omega
    have hc := costL_take nPc h2
    have hc1 : costL nPc (xs.take (i + 1)) ≤ costL nPc xs := costL_le nPc_nn xs (i + 1)
    have hc2 : 0 ≤ costL nPc (xs.take i) := costL_nonneg nPc_nn (xs.take i)
    have hc5 : nPc (gd xs i) = 1 + nRS (gd xs i).reg := rfl
    have hc3 : costL nRect (gd xs i).reg.xs = nRS (gd xs i).reg := rfl
    have hc4 : 0 ≤ nRS (gd xs i).reg := nSl_nn (gd xs i).reg
    refine WP.skip ?_
    refine WP.seq ?_
    refine WP.block ?_
    refine WP.seq ?_
    refine WP.seq ?_
    refine WP.region ?_
    refine RG.pv rfl (PV.move (v := v) rfl rfl) ?_
    refine RG.pv rfl (PV.mvI (.inl rfl) rfl) ?_
    refine RG.pv rfl (PV.idxS (v := v) rfl Is86 rfl (SlF.r h0) rfl rfl (by omega)) ?_
    refine RG.pv rfl (PV.field rfl Fo90_0 rfl) ?_
    refine RG.pv rfl (PV.loadF rfl Sc2 rfl rfl (El.r h0 (getG (by omega))) rfl) ?_
    refine RG.pv rfl (PV.mvI (.inl rfl) rfl) ?_
    refine RG.pv rfl (PV.neq rfl rfl rfl) ?_
    refine RG.nil ?_
    refine WP.cond rfl (fun h3 => ?_) (fun h3 => ?_)
    · simp [gd_mark h2, mkPc, hkk] at h3
    · refine WP.skip ?_
      refine WP.seq ?_
      refine WP.region ?_
      refine RG.pv rfl (PV.mvI (.inl rfl) rfl) ?_
      refine RG.pv rfl (PV.add rfl rfl rfl (by omega)) ?_
      refine RG.pv rfl (PV.mvI (.inr rfl) rfl) ?_
      refine RG.nil ?_
      refine WP.seq ?_
      refine WP.region ?_
      refine RG.pv rfl (PV.move (v := v) rfl rfl) ?_
      refine RG.pv rfl (PV.mvI (.inl rfl) rfl) ?_
      refine RG.pv rfl (PV.idxS (v := v) rfl Is86 rfl (SlF.r h0) rfl rfl (by omega)) ?_
      refine RG.pv rfl (PV.field rfl Fo90_1 rfl) ?_
      refine RG.pv rfl (PV.loadF rfl Sc24 rfl rfl (El.r h0 (getG (by omega))) rfl) ?_
      refine RG.pv rfl (PV.mvI (.inl rfl) rfl) ?_
      refine RG.callF (vs := [_, _]) rfl rfl En15 rfl (heldRectS_s (xs := (gd xs i).reg.xs) (by have := hd i (by rw [regs_len]; omega); rw [regs_gd (by omega), gd_mark h2] at this; rw [gd_mark h2, hkk]; exact this.up) (by omega) (by omega) ?_)
      refine RG.pv rfl (PV.mvI (.inr rfl) rfl) ?_
      refine RG.nil ?_
      refine WP.seq ?_
      refine WP.region ?_
      refine RG.pv rfl (PV.mvI (.inl rfl) rfl) ?_
      refine RG.pv rfl (PV.lss rfl rfl rfl) ?_
      refine RG.nil ?_
      refine WP.cond rfl (fun h4 => ?_) (fun h4 => ?_)
      · simp at h4; omega
      · refine WP.skip ?_
        refine WP.region ?_
        refine RG.pv rfl (PV.mvI (.inl rfl) rfl) ?_
        refine RG.pv rfl (PV.add rfl rfl rfl (by omega)) ?_
        refine RG.pv rfl (PV.mvI (.inr rfl) rfl) ?_
        refine RG.nil ?_
        exact ⟨rfl, i + 1, _, ⟨by omega, by rw [hc]; omega⟩, ⟨rfl, rfl, trivial⟩, ⟨rfl, trivial⟩, Cv.p, by omega⟩
  · have h1 := of_decide_eq_false h1
    have e : kk = k0 + costL nPc xs := by rw [hkk, List.take_of_length_le (by omega)]
    rw [← e] at k
    refine WP.exit ?_
    refine WP.seq ?_
    refine WP.region ?_
    refine RG.pv rfl (PV.mvI (.inl rfl) rfl) ?_
    refine RG.pv rfl (PV.mvI (.inr rfl) rfl) ?_
    refine RG.nil ?_
    refine WP.ret ?_
    exact ⟨_, _, ResV.one rfl rfl, Cv.p, k⟩
def nPe (p : Int × List Rect) : Int := 1 + 4 * (p.2.length : Int)
theorem nPc_er (xs : List Piece) : costL nPc xs = costL nPe (erPs xs) := by
  induction xs with
  | nil => rfl
  | cons z zs ih => simp only [erPs, List.map_cons, costL] at ih ⊢; rw [ih]; simp only [nPc, nPe, nRS, nSl, nRect_cost, erP]
theorem pcE_len (l : List (List Rect)) : (pcE l).length ≤ 25600 := by
  unfold pcE
  cases isLay l
  · simp
  · have := pcL_len l 4
    simp only [cond_true, List.length_map]; omega
theorem pcE_cost (l : List (List Rect)) : costL nPe (pcE l) ≤ 12801 * 25600 := by
  have h1 : costL nPe (pcE l) ≤ 12801 * (pcE l).length := costL_bd fun p hp => by
    unfold pcE at hp
    cases hl : isLay l
    · rw [hl] at hp; cases hp
    · rw [hl] at hp
      obtain ⟨q, _, rfl⟩ := List.mem_map.1 hp
      have := canon_len q.2
      simp only [nPe, pcR]; omega
  have h2 := pcE_len l
  omega
end Go.Proofs.Ythjaopefoiploaa
