/-
  Contracts: comparison and marks of nets; the law Nets.
-/
import Derived.Test.YthjaopefoiploaaW21
import Derived.Test.YthjaopefoiploaaW40
import Derived.Test.YthjaopefoiploaaNets3
namespace Go.Proofs.Ythjaopefoiploaa
open Go
set_option maxRecDepth 20000
set_option linter.unusedSimpArgs false
variable {G : Gh} {L : List Ch} {R : Value → Gh → List Ch → Prop}
/-! ## a bag in two -/
theorem Cv.bagSplit {α : Type} {e : TypeId} {F : FT α} {X Y : List (Sl α)} {L : List Ch} : Cv (bagS e F (X ++ Y) :: L) (bagS e F X :: bagS e F Y :: L) := by
  have h1 : Cv (bagS e F (X ++ Y) :: L) ((X ++ Y).map (ownS e F) ++ L) := Cv.ofBag
  rw [List.map_append, List.append_assoc] at h1
  exact h1.trans ((Cv.toBag (B := X.map (ownS e F)) (L := Y.map (ownS e F) ++ L)).trans (Cv.cons Cv.toBag))
theorem Cv.bagJn {α : Type} {e : TypeId} {F : FT α} {X Y : List (Sl α)} {L : List Ch} : Cv (bagS e F X :: bagS e F Y :: L) (bagS e F (X ++ Y) :: L) := by
  have h1 : Cv (bagS e F X :: bagS e F Y :: L) (X.map (ownS e F) ++ (Y.map (ownS e F) ++ L)) := (Cv.cons Cv.ofBag).trans Cv.ofBag
  rw [← List.append_assoc, ← List.map_append] at h1
  exact h1.trans (Cv.toBag (B := (X ++ Y).map (ownS e F)))
def restN (zs : List Net) (i : Nat) : List (Sl Rect) := regs ((er (nps zs)).take i).flatten ++ regs ((er (nps zs)).drop (i + 1)).flatten
theorem flat_split {zs : List Net} {i : Nat} (hi : i < zs.length) : (regs (er (nps zs)).flatten).Perm (regs (gd (nps zs) i).xs ++ restN zs i) := by
  have e : er (nps zs) = (er (nps zs)).take i ++ gd (er (nps zs)) i :: (er (nps zs)).drop (i + 1) := by
    rw [← drop_gd (by rw [er_len, nps_len]; exact hi), List.take_append_drop]
  have e2 : regs (er (nps zs)).flatten = regs ((er (nps zs)).take i).flatten ++ (regs (gd (nps zs) i).xs ++ regs ((er (nps zs)).drop (i + 1)).flatten) := by
    conv => lhs; rw [e]
    rw [List.flatten_append, List.flatten_cons, regs_append, regs_append, er_gd]
  rw [e2, restN]
  rw [← List.append_assoc, ← List.append_assoc]
  exact List.perm_append_comm.append_right _
theorem Cv.flatTake {e : TypeId} {zs : List Net} {L : List Ch} (i : Nat) (hi : i < zs.length) : Cv (bagS e rectT (regs (er (nps zs)).flatten) :: L) (bagS e rectT (regs (gd (nps zs) i).xs) :: bagS e rectT (restN zs i) :: L) :=
  (Cv.bagPerm (flat_split hi)).trans Cv.bagSplit
theorem rest_set {zs : List Net} {i : Nat} {p : Net} : restN (zs.set i p) i = restN zs i := by
  rw [restN, restN, nps_set, er_set, List.take_set_of_le (Nat.le_refl _), List.drop_set_of_lt (Nat.lt_succ_self _)]
theorem Cv.flatPut {e : TypeId} {zs : List Net} {v : Value} {ps : List Piece} {L : List Ch} (i : Nat) (hi : i < zs.length) : Cv (bagS e rectT (regs ps) :: bagS e rectT (restN zs i) :: L) (bagS e rectT (regs (er (nps (zs.set i ⟨⟨v, ps⟩⟩))).flatten) :: L) := by
  refine Cv.bagJn.trans (Cv.bagPerm ?_)
  have h := flat_split (zs := zs.set i ⟨⟨v, ps⟩⟩) (i := i) (by simpa using hi)
  rw [rest_set, nps_gd (by simpa using hi)] at h
  have e : (gd (zs.set i ⟨⟨v, ps⟩⟩) i).pieces.xs = ps := by simp [gd, hi]
  rw [e] at h
  exact h.symm
theorem Cv.netBack {e1 e2 e3 : TypeId} {v : Value} {M : List Net} {ps : List Piece} {L : List Ch} (i : Nat) (hi : i < M.length) :
    Cv (osl e2 pieceT (gd (nps M) i).v ps :: bag (((nps M).map (ownS e2 pieceT)).set i emp) :: bagS e3 rectT (regs ps) :: bagS e3 rectT (restN M i) :: osl e1 netT v M :: L) (osl e1 netT v (M.set i ⟨⟨(gd (nps M) i).v, ps⟩⟩) :: bagS e2 pieceT (nps (M.set i ⟨⟨(gd (nps M) i).v, ps⟩⟩)) :: bagS e3 rectT (regs (er (nps (M.set i ⟨⟨(gd (nps M) i).v, ps⟩⟩))).flatten) :: L) := by
  refine (Cv.bagS_put i (by rw [nps_len]; exact hi)).trans ?_
  have e : (nps M).set i ⟨(gd (nps M) i).v, ps⟩ = nps (M.set i ⟨⟨(gd (nps M) i).v, ps⟩⟩) := (nps_set M i ⟨⟨(gd (nps M) i).v, ps⟩⟩).symm
  rw [e]
  refine (Cv.cons (Cv.flatPut (v := (gd (nps M) i).v) i hi)).trans ?_
  have hs : netT.flat M = netT.flat (M.set i ⟨⟨(gd (nps M) i).v, ps⟩⟩) := by
    conv => lhs; rw [set_self hi]
    exact flat_setEq (by rw [nps_gd hi])
  have h3 : Cv (osl e1 netT v M :: L) (osl e1 netT v (M.set i ⟨⟨(gd (nps M) i).v, ps⟩⟩) :: L) := Cv.flat hs (by simp)
  refine (Cv.cons (Cv.cons h3)).trans ?_
  exact Cv.swap (A := [_, _]) (B := [_])
/-! ## marks -/
def mkNet (z : Net) (k : Int) : Net := ⟨⟨z.pieces.v, markL mkPc nPc z.pieces.xs k⟩⟩
def nNet (z : Net) : Int := costL nPc z.pieces.xs
theorem nNet_nn (z : Net) : 0 ≤ nNet z := costL_nonneg nPc_nn _
theorem markNetS_s {v : Value} {xs : List Net} {k0 : Int} (hk : 0 ≤ k0) (hb : k0 + costL nNet xs ≤ 4611686018427387904) (k : R (vi (k0 + costL nNet xs)) G (osl 92 netT v (markL mkNet nNet xs k0) :: bagS 90 pieceT (nps (markL mkNet nNet xs k0)) :: bagS 59 rectT (regs (er (nps (markL mkNet nNet xs k0))).flatten) :: L)) :
    CallT Try.prog 28 #[v, vi k0] G (osl 92 netT v xs :: bagS 90 pieceT (nps xs) :: bagS 59 rectT (regs (er (nps xs)).flatten) :: L) R := by
  refine CallT.bd (T := netT) (v := v) (xs := xs) Rs.o fun hb2 => ?_
  refine CallT.cv (L' := osl 92 netT v (markTo mkNet nNet xs k0 0) :: bagS 90 pieceT (nps (markTo mkNet nNet xs k0 0)) :: bagS 59 rectT (regs (er (nps (markTo mkNet nNet xs k0 0))).flatten) :: L) (Cv.cast (by rw [markTo_zero])) ?_
  refine CallT.enter (args := _) Try.func28 rfl rfl (by kernel_rfl) rfl ?_
  refine WP.seq ?_
  refine WP.region ?_
  refine RG.pv rfl (PV.mvI (.inr rfl) rfl) ?_
  refine RG.nil ?_
  refine WP.seq ?_
  refine WP.seq ?_
  refine WP.region ?_
  refine RG.pv rfl (PV.mvI (.inr rfl) rfl) ?_
  refine RG.nil ?_
  refine WP.block ?_
  refine WP.loop2 [0] (fun (i : Nat) (kk : Int) => i ≤ xs.length ∧ kk = k0 + costL nNet (xs.take i)) (fun (i : Nat) (kk : Int) => [(5, vi i), (1, vi kk)]) (fun (i : Nat) (kk : Int) => osl 92 netT v (markTo mkNet nNet xs k0 i) :: bagS 90 pieceT (nps (markTo mkNet nNet xs k0 i)) :: bagS 59 rectT (regs (er (nps (markTo mkNet nNet xs k0 i))).flatten) :: L) (fun (i : Nat) (kk : Int) => xs.length - i) 0 k0 ⟨by omega, by simp [costL]⟩ ⟨rfl, rfl, trivial⟩ Cv.p ?_
  rintro i kk τ ⟨hi, hkk⟩
  refine WP.seq ?_
  refine WP.seq ?_
  refine WP.region ?_
  refine RG.pv rfl (PV.mvI (.inl rfl) rfl) ?_
  refine RG.pv rfl (PV.move (v := v) rfl rfl) ?_
  refine RG.pv rfl (PV.len (v := v) rfl Try.underlying44 rfl SlF.o) ?_
  refine RG.pv rfl (PV.lss rfl rfl rfl) ?_
  refine RG.nil ?_
  have hml := markTo_len (mk := mkNet) (n := nNet) (k := k0) hi
  refine WP.cond rfl (fun h1 => ?_) (fun h1 => ?_)
  · have h1 := of_decide_eq_true h1
    have h2 : i < xs.length := by omega
    have hmg := markTo_gd (mk := mkNet) (n := nNet) (k := k0) h2
    have hc := costL_take nNet h2
    have hc1 : costL nNet (xs.take (i + 1)) ≤ costL nNet xs := costL_le nNet_nn xs (i + 1)
    have hc2 : 0 ≤ costL nNet (xs.take i) := costL_nonneg nNet_nn (xs.take i)
    have hc3 : 0 ≤ nNet (gd xs i) := nNet_nn (gd xs i)
    have hset := markTo_set (mk := mkNet) (n := nNet) (k := k0) h2
    have hgp : gd (nps (markTo mkNet nNet xs k0 i)) i = (gd xs i).pieces := by rw [nps_gd (by omega), hmg]
    have hgv : (gd (markTo mkNet nNet xs k0 i) i).pieces.v = (gd (nps (markTo mkNet nNet xs k0 i)) i).v := by rw [nps_gd (by omega)]
    have hgc : costL nPc (gd (nps (markTo mkNet nNet xs k0 i)) i).xs = nNet (gd xs i) := by rw [hgp]; rfl
    have hmk : mkNet (gd xs i) (k0 + costL nNet (xs.take i)) = ⟨⟨(gd (nps (markTo mkNet nNet xs k0 i)) i).v, markL mkPc nPc (gd (nps (markTo mkNet nNet xs k0 i)) i).xs kk⟩⟩ := by rw [hgp, hkk]; rfl
    rw [hmk] at hset
    generalize markTo mkNet nNet xs k0 i = M at *
    refine WP.cv (Cv.cons ((Cv.bagS_take i (by rw [nps_len]; omega)).trans (Cv.cons (Cv.cons (Cv.flatTake i (by omega)))))) ?_
    refine WP.skip ?_
    refine WP.seq ?_
    refine WP.block ?_
    refine WP.region ?_
    refine RG.pv rfl (PV.move (v := v) rfl rfl) ?_
    refine RG.pv rfl (PV.mvI (.inl rfl) rfl) ?_
    refine RG.pv rfl (PV.idxS (v := v) rfl Is44 rfl SlF.o rfl rfl (by omega)) ?_
    refine RG.pv rfl (PV.field rfl Fo92_0 rfl) ?_
    refine RG.pv rfl (PV.loadF rfl Sc86 rfl rfl (El.o (getG (by omega))) rfl) ?_
    refine RG.pv rfl (PV.mvI (.inl rfl) rfl) ?_
    refine RG.callF (vs := [_, _]) rfl rfl En52 rfl (CallT.eq2 hgv (CallT.exBg (regs (gd (nps M) i).xs) (CallT.exS (gd (nps M) i).v (markPieceS_s (by omega) (by omega) ?_))))
    refine RG.pv rfl (PV.mvI (.inr rfl) rfl) ?_
    refine RG.nil ?_
    refine WP.region ?_
    refine RG.pv rfl (PV.mvI (.inl rfl) rfl) ?_
    refine RG.pv rfl (PV.add rfl rfl rfl (by omega)) ?_
    refine RG.pv rfl (PV.mvI (.inr rfl) rfl) ?_
    refine RG.nil ?_
    exact ⟨rfl, i + 1, _, ⟨by omega, by rw [hc]; omega⟩, ⟨rfl, rfl, trivial⟩, ⟨rfl, trivial⟩, ((Cv.p (C := osl 90 pieceT (gd (nps M) i).v (markL mkPc nPc (gd (nps M) i).xs kk) :: bag (((nps M).map (ownS 90 pieceT)).set i emp) :: bagS 59 rectT (regs (markL mkPc nPc (gd (nps M) i).xs kk)) :: bagS 59 rectT (restN M i) :: osl 92 netT v M :: L)).trans ((Cv.netBack i (by omega)).trans (Cv.cast (by rw [hset])))), by omega⟩
  · have h1 := of_decide_eq_false h1
    have e : kk = k0 + costL nNet xs := by rw [hkk, List.take_of_length_le (by omega)]
    rw [← e] at k
    refine WP.exit ?_
    refine WP.seq ?_
    refine WP.region ?_
    refine RG.pv rfl (PV.mvI (.inl rfl) rfl) ?_
    refine RG.pv rfl (PV.mvI (.inr rfl) rfl) ?_
    refine RG.nil ?_
    refine WP.ret ?_
    exact ⟨_, _, ResV.one rfl rfl, (Cv.cast (by rw [markTo_all (by omega)])), k⟩
theorem heldNetS_s {v : Value} {xs : List Net} {k0 : Int} (h0 : Rs G L netT v (markL mkNet nNet xs k0)) (hp : RsE G L pieceT (nps (markL mkNet nNet xs k0))) (hr : ∀ i, i < (markL mkNet nNet xs k0).length → RsE G L rectT (regs (gd (markL mkNet nNet xs k0) i).pieces.xs)) (hk : 0 ≤ k0) (hb : k0 + costL nNet xs ≤ 4611686018427387904) (k : R (vi (k0 + costL nNet xs)) G L) : CallT Try.prog 29 #[v, vi k0] G L R := by
  have hml := markL_len mkNet nNet xs k0
  refine CallT.bd h0 fun hb2 => ?_
  refine CallT.enter (args := _) Try.func29 rfl rfl (by kernel_rfl) rfl ?_
  refine WP.seq ?_
  refine WP.region ?_
  refine RG.pv rfl (PV.mvI (.inr rfl) rfl) ?_
  refine RG.nil ?_
  refine WP.seq ?_
  refine WP.seq ?_
  refine WP.region ?_
  refine RG.pv rfl (PV.mvI (.inr rfl) rfl) ?_
  refine RG.nil ?_
  refine WP.block ?_
  refine WP.loop2 [0] (fun (i : Nat) (kk : Int) => i ≤ xs.length ∧ kk = k0 + costL nNet (xs.take i)) (fun (i : Nat) (kk : Int) => [(5, vi i), (1, vi kk)]) (fun (i : Nat) (kk : Int) => L) (fun (i : Nat) (kk : Int) => xs.length - i) 0 k0 ⟨by omega, by simp [costL]⟩ ⟨rfl, rfl, trivial⟩ Cv.p ?_
  rintro i kk τ ⟨hi, hkk⟩
  refine WP.seq ?_
  refine WP.seq ?_
  refine WP.region ?_
  refine RG.pv rfl (PV.mvI (.inl rfl) rfl) ?_
  refine RG.pv rfl (PV.move (v := v) rfl rfl) ?_
  refine RG.pv rfl (PV.len (v := v) rfl Try.underlying44 rfl (SlF.r h0)) ?_
  refine RG.pv rfl (PV.lss rfl rfl rfl) ?_
  refine RG.nil ?_
  refine WP.cond rfl (fun h1 => ?_) (fun h1 => ?_)
  · have h1 := of_decide_eq_true h1
    have h2 : i < xs.length := by omega
    have hc := costL_take nNet h2
    have hc1 : costL nNet (xs.take (i + 1)) ≤ costL nNet xs := costL_le nNet_nn xs (i + 1)
    have hc2 : 0 ≤ costL nNet (xs.take i) := costL_nonneg nNet_nn (xs.take i)
    have hc3 : costL nPc (gd xs i).pieces.xs = nNet (gd xs i) := rfl
    have hc4 : 0 ≤ nNet (gd xs i) := nNet_nn (gd xs i)
    refine WP.skip ?_
    refine WP.seq ?_
    refine WP.block ?_
    refine WP.seq ?_
    refine WP.region ?_
    refine RG.pv rfl (PV.move (v := v) rfl rfl) ?_
    refine RG.pv rfl (PV.mvI (.inl rfl) rfl) ?_
    refine RG.pv rfl (PV.idxS (v := v) rfl Is44 rfl (SlF.r h0) rfl rfl (by omega)) ?_
    refine RG.pv rfl (PV.field rfl Fo92_0 rfl) ?_
    refine RG.pv rfl (PV.loadF rfl Sc86 rfl rfl (El.r h0 (getG (by omega))) rfl) ?_
    refine RG.pv rfl (PV.mvI (.inl rfl) rfl) ?_
    refine RG.callF (vs := [_, _]) rfl rfl En53 rfl (heldPieceS_s (xs := (gd xs i).pieces.xs) (by have := hp i (by rw [nps_len]; omega); rw [nps_gd (by omega), gd_mark h2] at this; rw [gd_mark h2, hkk]; exact this.up) (by have := hr i (by omega); rw [gd_mark h2] at this; rw [hkk]; exact this.up) (by omega) (by omega) ?_)
    refine RG.pv rfl (PV.mvI (.inr rfl) rfl) ?_
    refine RG.nil ?_
    refine WP.seq ?_
    refine WP.region ?_
    refine RG.pv rfl (PV.mvI (.inl rfl) rfl) ?_
    refine RG.pv rfl (PV.lss rfl rfl rfl) ?_
    refine RG.nil ?_
    refine WP.cond rfl (fun h3 => ?_) (fun h3 => ?_)
    · simp at h3; omega
    · refine WP.skip ?_
      refine WP.region ?_
      refine RG.pv rfl (PV.mvI (.inl rfl) rfl) ?_
      refine RG.pv rfl (PV.add rfl rfl rfl (by omega)) ?_
      refine RG.pv rfl (PV.mvI (.inr rfl) rfl) ?_
      refine RG.nil ?_
      exact ⟨rfl, i + 1, _, ⟨by omega, by rw [hc]; omega⟩, ⟨rfl, rfl, trivial⟩, ⟨rfl, trivial⟩, Cv.p, by omega⟩
  · have h1 := of_decide_eq_false h1
    have e : kk = k0 + costL nNet xs := by rw [hkk, List.take_of_length_le (by omega)]
    rw [← e] at k
    refine WP.exit ?_
    refine WP.seq ?_
    refine WP.region ?_
    refine RG.pv rfl (PV.mvI (.inl rfl) rfl) ?_
    refine RG.pv rfl (PV.mvI (.inr rfl) rfl) ?_
    refine RG.nil ?_
    refine WP.ret ?_
    exact ⟨_, _, ResV.one rfl rfl, Cv.p, k⟩
/-! ## comparison -/
def erN (zs : List Net) : List (List (Int × List Rect)) := (er (nps zs)).map erPs
theorem erN_len (zs : List Net) : (erN zs).length = zs.length := by simp [erN, er, nps]
theorem erN_gd {zs : List Net} {i : Nat} (h : i < zs.length) : gd (erN zs) i = erPs (gd zs i).pieces.xs := by
  rw [erN, gd_map _ (by rw [er_len, nps_len]; exact h), er_gd, nps_gd h]
theorem eqNetS_s {v u : Value} {xs ys : List Net} (h1 : Rs G L netT v xs) (hp : RsE G L pieceT (nps xs)) (hr : ∀ i, i < xs.length → RsE G L rectT (regs (gd xs i).pieces.xs)) (h2 : Rs G L netT u ys) (hp' : RsE G L pieceT (nps ys)) (hr' : ∀ i, i < ys.length → RsE G L rectT (regs (gd ys i).pieces.xs)) (k : R (.bool (decide (erN xs = erN ys))) G L) : CallT Try.prog 27 #[v, u] G L R := by
  refine CallT.bd h1 fun hb => ?_
  refine CallT.bd h2 fun hb' => ?_
  refine CallT.enter (args := _) Try.func27 rfl rfl (by kernel_rfl) rfl ?_
  refine WP.seq ?_
  refine WP.region ?_
  refine RG.pv rfl (PV.mvB (.inr rfl) rfl) ?_
  refine RG.nil ?_
  refine WP.seq ?_
  refine WP.seq ?_
  refine WP.region ?_
  refine RG.pv rfl (PV.move (v := v) rfl rfl) ?_
  refine RG.pv rfl (PV.len (v := v) rfl Try.underlying44 rfl (SlF.r h1)) ?_
  refine RG.pv rfl (PV.move (v := u) rfl rfl) ?_
  refine RG.pv rfl (PV.len (v := u) rfl Try.underlying44 rfl (SlF.r h2)) ?_
  refine RG.pv rfl (PV.neq rfl rfl rfl) ?_
  refine RG.nil ?_
  refine WP.cond rfl (fun h3 => ?_) (fun h3 => ?_)
  · have e : decide (erN xs = erN ys) = false := by
      rw [decide_eq_false_iff_not]; intro h; have := congrArg List.length h; rw [erN_len, erN_len] at this; simp at h3; omega
    rw [e] at k
    refine WP.seq ?_
    refine WP.region ?_
    refine RG.pv rfl (PV.mvB (.inr rfl) rfl) ?_
    refine RG.nil ?_
    refine WP.ret ?_
    exact ⟨_, _, ResV.one rfl rfl, Cv.p, k⟩
  · have hl : xs.length = ys.length := by simp at h3; omega
    refine WP.skip ?_
    refine WP.seq ?_
    refine WP.seq ?_
    refine WP.region ?_
    refine RG.pv rfl (PV.mvI (.inr rfl) rfl) ?_
    refine RG.nil ?_
    refine WP.block ?_
    refine WP.loop1 [0, 1] (fun i => i ≤ xs.length ∧ ∀ j, j < i → (erN xs)[j]? = (erN ys)[j]?) (fun i => [(5, vi i)]) (fun i => L) (fun i => xs.length - i) 0 ⟨by omega, fun j h => by omega⟩ ⟨rfl, trivial⟩ Cv.p ?_
    rintro i τ ⟨hi, he⟩
    refine WP.seq ?_
    refine WP.seq ?_
    refine WP.region ?_
    refine RG.pv rfl (PV.mvI (.inl rfl) rfl) ?_
    refine RG.pv rfl (PV.move (v := v) rfl rfl) ?_
    refine RG.pv rfl (PV.len (v := v) rfl Try.underlying44 rfl (SlF.r h1)) ?_
    refine RG.pv rfl (PV.lss rfl rfl rfl) ?_
    refine RG.nil ?_
    refine WP.cond rfl (fun h4 => ?_) (fun h4 => ?_)
    · have h4 := of_decide_eq_true h4
      have h5 : i < xs.length := by omega
      refine WP.skip ?_
      refine WP.seq ?_
      refine WP.block ?_
      refine WP.seq ?_
      refine WP.regionQ (by kernel_rfl) (by kernel_rfl) ?_
      refine RQ.pv rfl (PV.move (v := v) rfl rfl) ?_
      refine RQ.pv rfl (PV.mvI (.inl rfl) rfl) ?_
      refine RQ.pv rfl (PV.idxS (v := v) rfl Is44 rfl (SlF.r h1) rfl rfl (by omega)) ?_
      refine RQ.pv rfl (PV.loadE rfl Ag92 rfl rfl (El.r h1 (getG (by omega)))) ?_
      refine RQ.pv rfl (PV.move (v := u) rfl rfl) ?_
      refine RQ.pv rfl (PV.mvI (.inl rfl) rfl) ?_
      refine RQ.pv rfl (PV.idxS (v := u) rfl Is44 rfl (SlF.r h2) rfl rfl (by omega)) ?_
      refine RQ.pv rfl (PV.loadE rfl Ag92 rfl rfl (El.r h2 (getG (by omega)))) ?_
      refine RQ.callF (vs := [_, _]) rfl rfl En51 rfl (eqNet_s (by have := hp i (by rw [nps_len]; omega); rw [nps_gd (by omega)] at this; exact this.up) (hr i (by omega)).up (by have := hp' i (by rw [nps_len]; omega); rw [nps_gd (by omega)] at this; exact this.up) (hr' i (by omega)).up ⟨rfl, rfl, rfl⟩) ?_
      refine RQ.pv rfl (PV.not rfl rfl) ?_
      refine RQ.nil ?_
      refine WP.cond rfl (fun h6 => ?_) (fun h6 => ?_)
      · have e : decide (erN xs = erN ys) = false := by
          rw [decide_eq_false_iff_not]; intro h
          have e2 : erPs (gd xs i).pieces.xs = erPs (gd ys i).pieces.xs := by rw [← erN_gd h5, h, erN_gd (by omega)]
          simp [e2] at h6
        rw [e] at k
        refine WP.seq ?_
        refine WP.region ?_
        refine RG.pv rfl (PV.mvB (.inr rfl) rfl) ?_
        refine RG.nil ?_
        refine WP.ret ?_
        exact ⟨_, _, ResV.one rfl rfl, Cv.p, k⟩
      · have e : erPs (gd xs i).pieces.xs = erPs (gd ys i).pieces.xs := by simpa using h6
        have he' : ∀ j, j < i + 1 → (erN xs)[j]? = (erN ys)[j]? := fun j h => by
          by_cases c : j = i
          · rw [c, getG (by rw [erN_len]; omega), getG (by rw [erN_len]; omega), erN_gd h5, erN_gd (by omega), e]
          · exact he j (by omega)
        refine WP.skip ?_
        refine WP.region ?_
        refine RG.pv rfl (PV.mvI (.inl rfl) rfl) ?_
        refine RG.pv rfl (PV.add rfl rfl rfl (by omega)) ?_
        refine RG.pv rfl (PV.mvI (.inr rfl) rfl) ?_
        refine RG.nil ?_
        exact ⟨rfl, i + 1, ⟨by omega, he'⟩, ⟨rfl, trivial⟩, ⟨rfl, rfl, trivial⟩, Cv.p, by omega⟩
    · have h4 := of_decide_eq_false h4
      have e : decide (erN xs = erN ys) = true := by
        rw [decide_eq_true_iff]; exact pre_eq he (by rw [erN_len, erN_len]; exact hl) (by rw [erN_len]; omega)
      rw [e] at k
      refine WP.exit ?_
      refine WP.seq ?_
      refine WP.region ?_
      refine RG.pv rfl (PV.mvB (.inr rfl) rfl) ?_
      refine RG.nil ?_
      refine WP.ret ?_
      exact ⟨_, _, ResV.one rfl rfl, Cv.p, k⟩
/-! ## the law -/
theorem nNet_er (zs : List Net) : costL nNet zs = costL (costL nPe) (erN zs) := by
  induction zs with
  | nil => rfl
  | cons z zs ih =>
    have e : erN (z :: zs) = erPs z.pieces.xs :: erN zs := rfl
    rw [e, costL, costL, ih, nNet, nPc_er]
theorem netR_cost (l : List (List Rect)) : costL (costL nPe) (netR l) ≤ 12801 * 25600 := by
  by_cases h : netE l = 0
  · rw [netR, if_pos h, ← costL_flatten, costL_perm _ (netL_perm l)]
    have := pcE_cost l
    rwa [pcE, (netE_ok h).1] at this
  · rw [netR, if_neg h]; simp [costL]
theorem nets_i2 {v : Value} {xs : List (Sl Rect)} (h1 : Rs G L slT v xs) (hd : RsE G L rectT xs) (k : ∀ v' zs, erN zs = netR (er xs) → R (.tuple #[v', vi (netE (er xs))]) G (osl 92 netT v' zs :: bagS 90 pieceT (nps zs) :: bagS 59 rectT (regs (er (nps zs)).flatten) :: L)) : CallT Try.prog 23 #[v] G L R := nets_i h1 hd k
theorem nets_r2 {v : Value} {xs : List (Sl Rect)} (h1 : Rs G L slT v xs) (hd : RsE G L rectT xs) (k : ∀ v' zs, erN zs = netR (er xs) → R (.tuple #[v', vi (netE (er xs))]) G (osl 92 netT v' zs :: bagS 90 pieceT (nps zs) :: bagS 59 rectT (regs (er (nps zs)).flatten) :: L)) : CallT Try.prog 24 #[v] G L R := nets_r h1 hd k
theorem law_Nets {v : Value} {xs : List (Sl Rect)} (h1 : Rs G L slT v xs) (hd : RsE G L rectT xs) (k : R (.bool true) G L) : CallT Try.prog 6 #[v] G L R := by
  refine CallT.enter (args := _) Try.func6 rfl rfl (by kernel_rfl) rfl ?_
  refine WP.seq ?_
  refine WP.region ?_
  refine RG.pv rfl (PV.mvB (.inr rfl) rfl) ?_
  refine RG.nil ?_
  refine WP.seq ?_
  refine WP.region ?_
  refine RG.pv rfl (PV.mvI (.inr rfl) rfl) ?_
  refine RG.nil ?_
  refine WP.seq ?_
  refine WP.region ?_
  refine RG.pv rfl (PV.move (v := v) rfl rfl) ?_
  refine RG.pv rfl (PV.mvI (.inl rfl) rfl) ?_
  refine RG.callF (vs := [v, _]) rfl rfl En7 rfl (szRectSS_s (Rs.up h1) hd.up (by omega) (by omega) (fun r hr hr' => ?_))
  refine RG.pv rfl (PV.mvI (.inr rfl) rfl) ?_
  refine RG.nil ?_
  refine WP.seq ?_
  refine WP.seq ?_
  refine WP.region ?_
  refine RG.pv rfl (PV.mvI (.inl rfl) rfl) ?_
  refine RG.pv rfl (PV.lss rfl rfl rfl) ?_
  refine RG.nil ?_
  refine WP.cond rfl (fun h2 => ?_) (fun h2 => ?_)
  · refine WP.seq ?_
    refine WP.region ?_
    refine RG.pv rfl (PV.mvB (.inr rfl) rfl) ?_
    refine RG.nil ?_
    refine WP.ret ?_
    exact ⟨_, _, ResV.one rfl rfl, Cv.p, k⟩
  · have h2 := of_decide_eq_false h2
    have hsz : szOf xs ≤ 1048576 := by have := hr' (by omega); omega
    have hc0 : 0 ≤ costL lenS xs := costL_nonneg lenS_nn _
    have hb : xs.length ≤ 1048576 := by simp only [szOf] at hsz; omega
    have hbi : ∀ i, i < xs.length → (gd xs i).xs.length ≤ 1048576 := fun i hi => by
      have := costL_mem lenS_nn hi; simp only [lenS, szOf] at *; omega
    have hcx : costL nRS xs ≤ 4194304 := by rw [nRS_lenS]; simp only [szOf] at hsz; omega
    have hcr := netR_cost (er xs)
    refine WP.skip ?_
    refine WP.seq ?_
    refine WP.region ?_
    refine RG.pv rfl (PV.move (v := v) rfl rfl) ?_
    refine RG.callF (vs := [v]) rfl rfl En9 rfl (toRectSS_s (Rs.up h1) hd.up hb hbi (fun v21 ysv21 hev21 => ?_))
    refine RG.callF (vs := [v21]) rfl rfl En24 rfl (nets_r2 Rs.o RsE.o (fun w22 zsw22 hzw22 => ?_))
    refine RG.pv rfl (PV.move (v := .tuple _) rfl rfl) ?_
    refine RG.pv rfl (PV.ext (v := w22) rfl rfl rfl) ?_
    refine RG.pv rfl (PV.ext rfl rfl rfl) ?_
    refine RG.pv rfl (PV.asg (v := w22) rfl rfl) ?_
    refine RG.pv rfl (PV.mvI (.inr rfl) rfl) ?_
    refine RG.nil ?_
    refine WP.seq ?_
    refine WP.region ?_
    refine RG.pv rfl (PV.move (v := v) rfl rfl) ?_
    refine RG.callF (vs := [v]) rfl rfl En9 rfl (toRectSS_s (Rs.up h1) hd.up hb hbi (fun v26 ysv26 hev26 => ?_))
    refine RG.pv rfl (PV.asg (v := v26) rfl rfl) ?_
    refine RG.nil ?_
    refine WP.seq ?_
    refine WP.region ?_
    refine RG.pv rfl (PV.move (v := v26) rfl rfl) ?_
    refine RG.callF (vs := [v26]) rfl rfl En23 rfl (nets_i2 Rs.o RsE.o (fun w29 zsw29 hzw29 => ?_))
    refine RG.pv rfl (PV.move (v := .tuple _) rfl rfl) ?_
    refine RG.pv rfl (PV.ext (v := w29) rfl rfl rfl) ?_
    refine RG.pv rfl (PV.ext rfl rfl rfl) ?_
    refine RG.pv rfl (PV.asg (v := w29) rfl rfl) ?_
    refine RG.pv rfl (PV.mvI (.inr rfl) rfl) ?_
    refine RG.nil ?_
    refine WP.seq ?_
    refine WP.seq ?_
    refine WP.region ?_
    refine RG.pv rfl (PV.move (v := w29) rfl rfl) ?_
    refine RG.pv rfl (PV.move (v := w22) rfl rfl) ?_
    refine RG.callF (vs := [w29, w22]) rfl rfl En27 rfl (eqNetS_s Rs.o RsE.o (fun i hi => RsE.flat hi) Rs.o RsE.o (fun i hi => RsE.flat hi) ?_)
    refine RG.pv rfl (PV.not rfl rfl) ?_
    refine RG.pv rfl (PV.mvB (.inl rfl) rfl) ?_
    refine RG.gs rfl rfl rfl (fun hp => (PV.mvI (.inl rfl) rfl)) ?_
    refine RG.gs rfl rfl rfl (fun hp => (PV.mvI (.inl rfl) rfl)) ?_
    refine RG.gs rfl rfl rfl (fun hp => (PV.neq rfl (gs_t hp) (gs_t hp))) ?_
    refine RG.pv rfl (PV.pickO rfl rfl rfl (fun hq => gs_t (geqF hq))) ?_
    refine RG.nil ?_
    refine WP.cond rfl (fun h3 => ?_) (fun h3 => ?_)
    · simp [*] at h3
    · refine WP.skip ?_
      refine WP.seq ?_
      refine WP.seq ?_
      refine WP.region ?_
      refine RG.pv rfl (PV.move (v := v26) rfl rfl) ?_
      refine RG.pv rfl (PV.move (v := v) rfl rfl) ?_
      refine RG.callF (vs := [v]) rfl rfl En9 rfl (toRectSS_s (Rs.up h1) hd.up hb hbi (fun v43 ysv43 hev43 => ?_))
      refine RG.callF (vs := [v26, v43]) rfl rfl En12 rfl (eqRectSS_s Rs.o RsE.o Rs.o RsE.o ?_)
      refine RG.pv rfl (PV.not rfl rfl) ?_
      refine RG.nil ?_
      refine WP.cond rfl (fun h4 => ?_) (fun h4 => ?_)
      · simp [*] at h4
      · have hm1 : costL nRS ysv26 ≤ 4194304 := by rw [costL_er hev26]; exact hcx
        have hm2 : costL nNet zsw29 ≤ 12801 * 25600 := by rw [nNet_er, hzw29, hev26]; exact hcr
        have hm3 : 0 ≤ costL nRS ysv26 := costL_nonneg nSl_nn _
        have hm4 : 0 ≤ costL nNet zsw29 := costL_nonneg nNet_nn _
        refine WP.skip ?_
        refine WP.seq ?_
        refine WP.region ?_
        refine RG.pv rfl (PV.mvI (.inr rfl) rfl) ?_
        refine RG.nil ?_
        refine WP.seq ?_
        refine WP.region ?_
        refine RG.pv rfl (PV.move (v := v26) rfl rfl) ?_
        refine RG.pv rfl (PV.mvI (.inl rfl) rfl) ?_
        refine RG.callF (vs := [v26, _]) rfl rfl En13 rfl (CallT.exBg ysv26 (CallT.exS v26 (markRectSS_s (by omega) (by omega) ?_)))
        refine RG.pv rfl (PV.mvI (.inr rfl) rfl) ?_
        refine RG.nil ?_
        refine WP.seq ?_
        refine WP.seq ?_
        refine WP.region ?_
        refine RG.pv rfl (PV.mvI (.inl rfl) rfl) ?_
        refine RG.pv rfl (PV.lss rfl rfl rfl) ?_
        refine RG.pv rfl (PV.mvB (.inl rfl) rfl) ?_
        refine RG.gs rfl rfl rfl (fun hp => (PV.move (v := w29) rfl rfl)) ?_
        refine RG.gs rfl rfl rfl (fun hp => (PV.move (v := w22) rfl rfl)) ?_
        refine RG.gsC rfl rfl rfl rfl En27 (fun hp => ⟨_, (acons (gs_t hp) (acons (gs_t hp) anil)), eqNetS_s Rs.o RsE.o (fun i hi => RsE.flat hi) Rs.o RsE.o (fun i hi => RsE.flat hi) ⟨rfl, rfl, rfl⟩⟩) ?_
        refine RG.gs rfl rfl rfl (fun hp => (PV.not rfl (gs_t hp))) ?_
        refine RG.pv rfl (PV.pickO rfl rfl rfl (fun hq => gs_t (geqF hq))) ?_
        refine RG.pv rfl (PV.mvB (.inl rfl) rfl) ?_
        refine RG.gs rfl rfl rfl (fun hp => (PV.mvI (.inl rfl) rfl)) ?_
        refine RG.gs rfl rfl rfl (fun hp => (PV.mvI (.inl rfl) rfl)) ?_
        refine RG.gs rfl rfl rfl (fun hp => (PV.neq rfl (gs_t hp) (gs_t hp))) ?_
        refine RG.pv rfl (PV.pickO rfl rfl rfl (fun hq => gs_t (geqF hq))) ?_
        refine RG.nil ?_
        refine WP.cond rfl (fun h5 => ?_) (fun h5 => ?_)
        · simp [*] at h5 <;> omega
        · skip
          refine WP.skip ?_
          refine WP.seq ?_
          refine WP.region ?_
          refine RG.pv rfl (PV.mvI (.inr rfl) rfl) ?_
          refine RG.nil ?_
          refine WP.seq ?_
          refine WP.region ?_
          refine RG.pv rfl (PV.move (v := w29) rfl rfl) ?_
          refine RG.pv rfl (PV.mvI (.inl rfl) rfl) ?_
          refine RG.callF (vs := [w29, _]) rfl rfl En28 rfl (CallT.exBg (regs (er (nps zsw29)).flatten) (CallT.exBg (nps zsw29) (CallT.exS w29 (markNetS_s (by omega) (by omega) ?_))))
          refine RG.pv rfl (PV.mvI (.inr rfl) rfl) ?_
          refine RG.nil ?_
          refine WP.seq ?_
          refine WP.region ?_
          refine RG.pv rfl (PV.mvI (.inr rfl) rfl) ?_
          refine RG.nil ?_
          refine WP.seq ?_
          refine WP.region ?_
          refine RG.pv rfl (PV.move (v := w29) rfl rfl) ?_
          refine RG.pv rfl (PV.mvI (.inl rfl) rfl) ?_
          refine RG.callF (vs := [w29, _]) rfl rfl En29 rfl (heldNetS_s Rs.o RsE.o (fun i hi => RsE.flat hi) (by omega) (by omega) ?_)
          refine RG.pv rfl (PV.mvI (.inr rfl) rfl) ?_
          refine RG.nil ?_
          refine WP.seq ?_
          refine WP.seq ?_
          refine WP.region ?_
          refine RG.pv rfl (PV.mvI (.inl rfl) rfl) ?_
          refine RG.pv rfl (PV.lss rfl rfl rfl) ?_
          refine RG.nil ?_
          refine WP.cond rfl (fun h6 => ?_) (fun h6 => ?_)
          · simp at h6; omega
          · refine WP.skip ?_
            refine WP.seq ?_
            refine WP.seq ?_
            refine WP.region ?_
            refine RG.pv rfl (PV.mvI (.inl rfl) rfl) ?_
            refine RG.pv rfl (PV.mvI (.inl rfl) rfl) ?_
            refine RG.pv rfl (PV.neq rfl rfl rfl) ?_
            refine RG.nil ?_
            refine WP.cond rfl (fun h7 => ?_) (fun h7 => ?_)
            · simp at h7
            · refine WP.skip ?_
              refine WP.seq ?_
              refine WP.region ?_
              refine RG.pv rfl (PV.move (v := v) rfl rfl) ?_
              refine RG.callF (vs := [v]) rfl rfl En9 rfl (toRectSS_s (Rs.up h1) hd.up hb hbi (fun v75 ysv75 hev75 => ?_))
              refine RG.callF (vs := [v75]) rfl rfl En23 rfl (nets_i2 Rs.o RsE.o (fun w76 zsw76 hzw76 => ?_))
              refine RG.pv rfl (PV.move (v := .tuple _) rfl rfl) ?_
              refine RG.pv rfl (PV.ext (v := w76) rfl rfl rfl) ?_
              refine RG.pv rfl (PV.ext rfl rfl rfl) ?_
              refine RG.pv rfl (PV.asg (v := w76) rfl rfl) ?_
              refine RG.pv rfl (PV.mvI (.inr rfl) rfl) ?_
              refine RG.nil ?_
              refine WP.seq ?_
              refine WP.seq ?_
              refine WP.region ?_
              refine RG.pv rfl (PV.move (v := w76) rfl rfl) ?_
              refine RG.pv rfl (PV.move (v := w22) rfl rfl) ?_
              refine RG.callF (vs := [w76, w22]) rfl rfl En27 rfl (eqNetS_s Rs.o RsE.o (fun i hi => RsE.flat hi) Rs.o RsE.o (fun i hi => RsE.flat hi) ?_)
              refine RG.pv rfl (PV.not rfl rfl) ?_
              refine RG.pv rfl (PV.mvB (.inl rfl) rfl) ?_
              refine RG.gs rfl rfl rfl (fun hp => (PV.mvI (.inl rfl) rfl)) ?_
              refine RG.gs rfl rfl rfl (fun hp => (PV.mvI (.inl rfl) rfl)) ?_
              refine RG.gs rfl rfl rfl (fun hp => (PV.neq rfl (gs_t hp) (gs_t hp))) ?_
              refine RG.pv rfl (PV.pickO rfl rfl rfl (fun hq => gs_t (geqF hq))) ?_
              refine RG.nil ?_
              refine WP.cond rfl (fun h8 => ?_) (fun h8 => ?_)
              · simp [*] at h8
              · skip
                refine WP.skip ?_
                refine WP.seq ?_
                refine WP.region ?_
                refine RG.pv rfl (PV.mvI (.inr rfl) rfl) ?_
                refine RG.nil ?_
                refine WP.seq ?_
                refine WP.region ?_
                refine RG.pv rfl (PV.move (v := w29) rfl rfl) ?_
                refine RG.pv rfl (PV.mvI (.inl rfl) rfl) ?_
                refine RG.callF (vs := [w29, _]) rfl rfl En29 rfl (heldNetS_s Rs.o RsE.o (fun i hi => RsE.flat hi) (by omega) (by omega) ?_)
                refine RG.pv rfl (PV.mvI (.inr rfl) rfl) ?_
                refine RG.nil ?_
                refine WP.seq ?_
                refine WP.seq ?_
                refine WP.region ?_
                refine RG.pv rfl (PV.mvI (.inl rfl) rfl) ?_
                refine RG.pv rfl (PV.lss rfl rfl rfl) ?_
                refine RG.nil ?_
                refine WP.cond rfl (fun h9 => ?_) (fun h9 => ?_)
                · simp at h9; omega
                · refine WP.skip ?_
                  refine WP.seq ?_
                  refine WP.seq ?_
                  refine WP.region ?_
                  refine RG.pv rfl (PV.mvI (.inl rfl) rfl) ?_
                  refine RG.pv rfl (PV.mvI (.inl rfl) rfl) ?_
                  refine RG.pv rfl (PV.neq rfl rfl rfl) ?_
                  refine RG.nil ?_
                  refine WP.cond rfl (fun h10 => ?_) (fun h10 => ?_)
                  · simp at h10
                  · refine WP.skip ?_
                    refine WP.seq ?_
                    refine WP.region ?_
                    refine RG.pv rfl (PV.mvB (.inr rfl) rfl) ?_
                    refine RG.nil ?_
                    refine WP.ret ?_
                    exact ⟨_, _, ResV.one rfl rfl, Cv.p, k⟩
end Go.Proofs.Ythjaopefoiploaa
