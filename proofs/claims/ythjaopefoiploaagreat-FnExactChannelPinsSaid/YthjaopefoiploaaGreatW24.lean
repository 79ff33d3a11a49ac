/-
  Contracts: the nets of a layout, as the program tells them.
-/
import Derived.Test.YthjaopefoiploaaGreatW23
namespace Go.Proofs.YthjaopefoiploaaGreat
open Go
set_option maxRecDepth 20000
set_option linter.unusedSimpArgs false
variable {G : Gh} {L : List Ch} {R : Value → Gh → List Ch → Prop}
theorem jnI_er (l : List (List Rect)) (p q : Piece) : jnI l (erP p) (erP q) = bif decide (q.layer < p.layer) then jnO l (erP q) (erP p) else jnO l (erP p) (erP q) := rfl
theorem jnO_er (l : List (List Rect)) (p q : Piece) : jnO l (erP p) (erP q) = bif decide (q.layer = 3) && decide (p.layer < 3) then meetIn p.reg.xs q.reg.xs (gd l 2) else decide (p.layer = 3) && decide (q.layer = 5) && meetIn p.reg.xs q.reg.xs (gd l 4) := rfl
theorem joined_s {v : Value} {xs : List (Sl Rect)} {p q : Piece} (h1 : Rs G L slT v xs) (hd : RsE G L rectT xs) (h8 : xs.length = 8) (hp : Rs G L rectT p.reg.v p.reg.xs) (hq : Rs G L rectT q.reg.v q.reg.xs) (k : R (.bool (jnI (er xs) (erP p) (erP q))) G L) : CallT Tryz.prog 133 #[v, vT pieceT p, vT pieceT q] G L R := by
  refine CallT.enter (args := _) Tryz.func133 rfl rfl (by kernel_rfl) rfl ?_
  refine WP.seq ?_
  refine WP.region ?_
  refine RG.ot rfl (OT.box (cs := pieceT.enc p) rfl rfl rfl fun b4 => ?_)
  refine RG.ot rfl (OT.box (cs := pieceT.enc q) rfl rfl rfl fun b5 => ?_)
  refine RG.pv rfl (PV.mvB (.inr rfl) rfl) ?_
  refine RG.nil ?_
  refine WP.cut1 [0, 4, 5] (fun (pq : Piece × Piece) => Rs G L rectT pq.1.reg.v pq.1.reg.xs ∧ Rs G L rectT pq.2.reg.v pq.2.reg.xs ∧ jnI (er xs) (erP p) (erP q) = jnO (er xs) (erP pq.1) (erP pq.2)) (fun (pq : Piece × Piece) => []) (fun (pq : Piece × Piece) => blk b4 132 (pieceT.enc pq.1) :: blk b5 132 (pieceT.enc pq.2) :: L) ?_ ?_
  refine WP.seq ?_
  refine WP.region ?_
  refine RG.pv rfl (PV.field rfl Fo132_0 rfl) ?_
  refine RG.pv rfl (PV.load1 rfl Sc2 rfl (Rd.blk rfl)) ?_
  refine RG.pv rfl (PV.field rfl Fo132_0 rfl) ?_
  refine RG.pv rfl (PV.load1 rfl Sc2 rfl (Rd.blk rfl)) ?_
  refine RG.pv rfl (PV.gtr rfl rfl rfl) ?_
  refine RG.nil ?_
  · refine WP.cond rfl (fun h2 => ?_) (fun h2 => ?_)
    · refine WP.region ?_
      refine RG.pv rfl (PV.loadW rfl Ag132 rfl rfl) ?_
      refine RG.pv rfl (PV.loadW rfl Ag132 rfl rfl) ?_
      refine RG.ot rfl (OT.storeW (vs := [vi _, _]) rfl Sz132 rfl rfl (Cl.c rfl) rfl rfl (OneC.val rfl (OneC.sl (SlF.r hq) OneC.nil)) ?_)
      refine RG.ot rfl (OT.storeW (vs := [vi _, _]) rfl Sz132 rfl rfl (Cl.c rfl) rfl rfl (OneC.val rfl (OneC.sl (SlF.r hp) OneC.nil)) ?_)
      refine RG.nil ?_
      exact ⟨rfl, (q, p), ⟨hq, hp, by rw [jnI_er, h2]; rfl⟩, trivial, ⟨rfl, rfl, rfl, trivial⟩, Cv.p⟩
    · refine WP.skip ?_
      exact ⟨rfl, (p, q), ⟨hp, hq, by rw [jnI_er, h2]; rfl⟩, trivial, ⟨rfl, rfl, rfl, trivial⟩, Cv.p⟩
  rintro pq τ0 ⟨hp', hq', hk⟩
  refine WP.seq ?_
  refine WP.seq ?_
  refine WP.region ?_
  refine RG.pv rfl (PV.field rfl Fo132_0 rfl) ?_
  refine RG.pv rfl (PV.load1 rfl Sc2 rfl (Rd.blk rfl)) ?_
  refine RG.pv rfl (PV.eql rfl rfl rfl) ?_
  refine RG.pv rfl (PV.mvB (.inl rfl) rfl) ?_
  refine RG.gs rfl rfl rfl (fun hp => (PV.field rfl Fo132_0 rfl)) ?_
  refine RG.gs rfl rfl rfl (fun hp => (PV.load1 rfl Sc2 (gs_t hp) (Rd.blk rfl))) ?_
  refine RG.gs rfl rfl rfl (fun hp => (PV.lss rfl (gs_t hp) rfl)) ?_
  refine RG.pv rfl (PV.pickA rfl rfl (fun hq => gs_t (geqT hq)) rfl) ?_
  refine RG.nil ?_
  rw [hk, jnO_er] at k
  refine WP.cond rfl (fun h3 => ?_) (fun h3 => ?_)
  · rw [h3] at k
    simp only [cond_true, er_gd] at k
    refine WP.seq ?_
    refine WP.regionQ (by kernel_rfl) (by kernel_rfl) ?_
    refine RQ.pv rfl (PV.field rfl Fo132_1 rfl) ?_
    refine RQ.pv rfl (PV.load1 rfl Sc66 rfl (Rd.blk rfl)) ?_
    refine RQ.pv rfl (PV.field rfl Fo132_1 rfl) ?_
    refine RQ.pv rfl (PV.load1 rfl Sc66 rfl (Rd.blk rfl)) ?_
    refine RQ.pv rfl (PV.move (v := v) rfl rfl) ?_
    refine RQ.pv rfl (PV.idxS (j := 2) (v := v) rfl Is27 rfl (SlF.r h1) rfl (by omega) (by omega)) ?_
    refine RQ.pv rfl (PV.loadE1 rfl Sc66 rfl rfl (El.r h1 (getG (by omega))) rfl) ?_
    refine RQ.callF (vs := [_, _, _]) rfl rfl En194 rfl (meetIn_s (Rs.up hp') (Rs.up hq') (Rs.up (hd 2 (by omega))) ⟨rfl, rfl, rfl⟩) ?_
    refine RQ.pv rfl (PV.mvB (.inr rfl) rfl) ?_
    refine RQ.nil ?_
    refine WP.ret ?_
    exact ⟨_, _, ResV.one rfl rfl, Cv.p, k⟩
  · rw [h3] at k
    simp only [cond_false, er_gd] at k
    refine WP.skip ?_
    refine WP.seq ?_
    refine WP.regionQ (by kernel_rfl) (by kernel_rfl) ?_
    refine RQ.pv rfl (PV.field rfl Fo132_0 rfl) ?_
    refine RQ.pv rfl (PV.load1 rfl Sc2 rfl (Rd.blk rfl)) ?_
    refine RQ.pv rfl (PV.eql rfl rfl rfl) ?_
    refine RQ.pv rfl (PV.mvB (.inl rfl) rfl) ?_
    refine RQ.gs rfl rfl rfl (fun hp => (PV.field rfl Fo132_0 rfl)) ?_
    refine RQ.gs rfl rfl rfl (fun hp => (PV.load1 rfl Sc2 (gs_t hp) (Rd.blk rfl))) ?_
    refine RQ.gs rfl rfl rfl (fun hp => (PV.eql rfl (gs_t hp) rfl)) ?_
    refine RQ.pv rfl (PV.pickA rfl rfl (fun hq => gs_t (geqT hq)) rfl) ?_
    refine RQ.pv rfl (PV.mvB (.inl rfl) rfl) ?_
    refine RQ.gs rfl rfl rfl (fun hp => (PV.field rfl Fo132_1 rfl)) ?_
    refine RQ.gs rfl rfl rfl (fun hp => (PV.load1 rfl Sc66 (gs_t hp) (Rd.blk rfl))) ?_
    refine RQ.gs rfl rfl rfl (fun hp => (PV.field rfl Fo132_1 rfl)) ?_
    refine RQ.gs rfl rfl rfl (fun hp => (PV.load1 rfl Sc66 (gs_t hp) (Rd.blk rfl))) ?_
    refine RQ.gs rfl rfl rfl (fun hp => (PV.move (v := v) rfl rfl)) ?_
    refine RQ.gs rfl rfl rfl (fun hp => (PV.idxS (j := 4) (v := v) rfl Is27 (gs_t hp) (SlF.r h1) rfl (by first | omega | (simp at hp; omega)) (by first | omega | (simp at hp; omega)))) ?_
    refine RQ.gs rfl rfl rfl (fun hp => (PV.loadE1 rfl Sc66 (gs_t hp) rfl (El.r h1 (getG (by first | omega | (simp at hp; omega)))) rfl)) ?_
    refine RQ.gsC rfl rfl rfl rfl En194 (fun hp => ⟨_, (acons (gs_t hp) (acons (gs_t hp) (acons (gs_t hp) anil))), meetIn_s (Rs.up hp') (Rs.up hq') (Rs.up (hd 4 (by omega))) ⟨rfl, rfl, rfl⟩⟩) ?_
    refine RQ.pv rfl (PV.pickA rfl rfl (fun hq => gs_t (geqT hq)) rfl) ?_
    refine RQ.pv rfl (PV.mvB (.inr rfl) rfl) ?_
    refine RQ.nil ?_
    refine WP.ret ?_
    exact ⟨_, _, ResV.one rfl rfl, Cv.p, k⟩
/-! ## nets -/
def nps (zs : List Net) : List (Sl Piece) := zs.map Net.pieces
theorem nps_len (zs : List Net) : (nps zs).length = zs.length := by simp [nps]
theorem nps_gd {zs : List Net} {i : Nat} (h : i < zs.length) : gd (nps zs) i = (gd zs i).pieces := gd_map _ h
theorem nps_append (xs ys : List Net) : nps (xs ++ ys) = nps xs ++ nps ys := by simp [nps]
theorem nps_set (zs : List Net) (i : Nat) (p : Net) : nps (zs.set i p) = (nps zs).set i p.pieces := by simp [nps, List.map_set]
theorem er_set {α : Type} (zs : List (Sl α)) (i : Nat) (s : Sl α) : er (zs.set i s) = (er zs).set i s.xs := by simp [er, List.map_set]
theorem er_append {α : Type} (xs ys : List (Sl α)) : er (xs ++ ys) = er xs ++ er ys := by simp [er]
/-- a net's pieces, out of the bag and written, go back -/
theorem Cv.slotN {e e' : TypeId} {v u : Value} {zs : List Net} {ys : List Piece} {L : List Ch} (i : Nat) (hi : i < zs.length) :
    Cv (osl e pieceT u ys :: osl e' netT v (zs.set i ⟨⟨u, ys⟩⟩) :: bag (((nps zs).map (ownS e pieceT)).set i emp) :: L) (osl e' netT v (zs.set i ⟨⟨u, ys⟩⟩) :: bagS e pieceT (nps (zs.set i ⟨⟨u, ys⟩⟩)) :: L) := by
  have h1 : Cv (osl e pieceT u ys :: osl e' netT v (zs.set i ⟨⟨u, ys⟩⟩) :: bag (((nps zs).map (ownS e pieceT)).set i emp) :: L) (osl e' netT v (zs.set i ⟨⟨u, ys⟩⟩) :: osl e pieceT u ys :: bag (((nps zs).map (ownS e pieceT)).set i emp) :: L) := Cv.swap (A := [osl e pieceT u ys]) (B := [osl e' netT v (zs.set i ⟨⟨u, ys⟩⟩)])
  refine h1.trans ((Cv.cons (Cv.bagS_put i (by rw [nps_len]; exact hi))).trans ?_)
  rw [nps_set]; exact Cv.refl _
/-- a bag in another order -/
theorem sep_perm {A B : List Ch} (h : A.Perm B) : ∀ hp, Sep A hp → Sep B hp := by
  induction h with
  | nil => exact fun _ h => h
  | cons x _ ih => exact fun hp ⟨h1, h2, d, l1, l2, c, s⟩ => ⟨h1, h2, d, l1, l2, c, ih h2 s⟩
  | swap x y l => exact Cv.swap (A := [y]) (B := [x]) (L := l)
  | trans _ _ ih1 ih2 => exact fun hp s => ih2 hp (ih1 hp s)
theorem Cv.bagPerm {α : Type} {e : TypeId} {F : FT α} {xs ys : List (Sl α)} {L : List Ch} (h : xs.Perm ys) : Cv (bagS e F xs :: L) (bagS e F ys :: L) :=
  Cv.imp fun hp s => sep_perm (h.map (ownS e F)) hp s
theorem erPs_pcL {l : List (List Rect)} {ps : List Piece} (h : erPs ps = (pcL l 4).map pcR) : ps.length = (pcL l 4).length ∧ ∀ i, i < ps.length → erP (gd ps i) = pcR (gd (pcL l 4) i) := by
  have hl : ps.length = (pcL l 4).length := by have := congrArg List.length h; rwa [erPs_len, List.length_map] at this
  exact ⟨hl, fun i hi => by rw [← erPs_gd hi, h, gd_map _ (by omega)]⟩
theorem pieces_b {v : Value} {xs : List (Sl Rect)} (h1 : Rs G L slT v xs) (hd : RsE G L rectT xs) (hlay : isLay (er xs) = true) (k : ∀ v' ps, erPs ps = (pcL (er xs) 4).map pcR → ps.length ≤ 25600 → R v' G (osl 132 pieceT v' ps :: bagS 59 rectT (regs ps) :: L)) : CallT Tryz.prog 132 #[v] G L R :=
  pieces_s h1 hd hlay fun v' ps h => k v' ps h (by have := pcL_len (er xs) 4; have := (erPs_pcL h).1; omega)
theorem set_mid {c : List Int} {n : Nat} {x : Int} (h : c.length < n) : (c ++ List.replicate (n - c.length) 0).set c.length x = c ++ [x] ++ List.replicate (n - (c.length + 1)) 0 := by
  rw [List.set_append_right _ _ (Nat.le_refl _), Nat.sub_self, show n - c.length = (n - (c.length + 1)) + 1 by omega, List.replicate_succ, List.set_cons_zero, List.append_assoc]
  simp
theorem rl_zero {lo hi : Int} {n : Nat} (h : hi ≠ 0) : (List.replicate n (0 : Int)).map (rl lo hi) = List.replicate n 0 := by
  rw [List.map_replicate, rl, if_neg (Ne.symm h)]
theorem netsOf_s {v : Value} {xs : List (Sl Rect)} (h1 : Rs G L slT v xs) (hd : RsE G L rectT xs) (hlay : isLay (er xs) = true) (k : ∀ v' zs, (er (nps zs)).map erPs = netL (er xs) → R v' G (osl 129 netT v' zs :: bagS 132 pieceT (nps zs) :: bagS 59 rectT (regs (er (nps zs)).flatten) :: L)) : CallT Tryz.prog 89 #[v] G L R := by
  have h8 : xs.length = 8 := by have := isLay_len hlay; rwa [er_len] at this
  refine CallT.enter (args := _) Tryz.func89 rfl rfl (by kernel_rfl) rfl ?_
  refine WP.seq ?_
  refine WP.region ?_
  refine RG.pv rfl (PV.asg rfl rfl) ?_
  refine RG.nil ?_
  refine WP.seq ?_
  refine WP.region ?_
  refine RG.pv rfl (PV.move (v := v) rfl rfl) ?_
  refine RG.callF (vs := [v]) rfl rfl En132 rfl (pieces_b (Rs.up h1) hd.up hlay (fun v16 psv16 hev16 hlv16 => ?_))
  refine RG.pv rfl (PV.asg (v := v16) rfl rfl) ?_
  refine RG.nil ?_
  refine WP.seq ?_
  refine WP.region ?_
  refine RG.pv rfl (PV.move (v := v16) rfl rfl) ?_
  refine RG.pv rfl (PV.len (v := v16) rfl Tryz.underlying127 rfl SlF.o) ?_
  refine RG.ot rfl (OT.make (F := intT) (a0 := 0) rfl El176 rfl (by decide) rfl rfl (by omega) (by omega) fun v19 => ?_)
  refine RG.pv rfl (PV.asg (v := v19) rfl rfl) ?_
  refine RG.nil ?_
  refine WP.seq ?_
  refine WP.seq ?_
  refine WP.region ?_
  refine RG.pv rfl (PV.move (v := v19) rfl rfl) ?_
  refine RG.pv rfl (PV.len (v := v19) rfl Tryz.underlying176 rfl SlF.o) ?_
  refine RG.pv rfl (PV.mvI (.inl rfl) rfl) ?_
  refine RG.nil ?_
  refine WP.block ?_
  obtain ⟨hpl, hpe⟩ := erPs_pcL hev16
  have hpl2 := pcL_len (er xs) 4
  have hJe : ∀ n i, n < psv16.length → i < psv16.length → jnI (er xs) (erP (gd psv16 n)) (erP (gd psv16 i)) = JL (er xs) n i := fun n i hn hi => by
    rw [hpe n hn, hpe i hi]
    exact jn_eq hlay (pcL_gd_isL (by omega)) (pcL_gd_isL (by omega)) (pcL_gd_len (by omega)) (pcL_gd_len (by omega))
  have hlr : (List.replicate psv16.length (0 : Int)).length = psv16.length := List.length_replicate
  have hcr : ∀ i, i < psv16.length → Rs G (osl 132 pieceT v16 psv16 :: bagS 59 rectT (regs psv16) :: L) rectT (gd psv16 i).reg.v (gd psv16 i).reg.xs := fun i hi => by
    have := Rs.inBag (G := G) (L := osl 132 pieceT v16 psv16 :: bagS 59 rectT (regs psv16) :: L) (e := 59) (F := rectT) (xs := regs psv16) i (by rw [regs_len]; exact hi)
    rwa [regs_gd hi] at this
  refine WP.cv (Cv.eqS (show List.replicate psv16.length 0 = rootsJ (JL (er xs)) 0 ++ List.replicate (psv16.length - 0) 0 from rfl)) ?_
  refine WP.loop1 [0, 3, 4, 21] (fun i => i ≤ psv16.length) (fun i => [(22, vi i)]) (fun i => osl 3 intT v19 (rootsJ (JL (er xs)) i ++ List.replicate (psv16.length - i) 0) :: osl 132 pieceT v16 psv16 :: bagS 59 rectT (regs psv16) :: L) (fun i => psv16.length - i) 0 (by omega) ⟨rfl, trivial⟩ Cv.p ?_
  rintro i τ hi
  refine WP.seq ?_
  refine WP.region ?_
  refine RG.pv rfl (PV.lss rfl rfl rfl) ?_
  refine RG.nil ?_
  refine WP.seq ?_
  have hrl := rootsJ_len (JL (er xs)) i
  have hal : (rootsJ (JL (er xs)) i ++ List.replicate (psv16.length - i) (0 : Int)).length = psv16.length := by simp [hrl]; omega
  refine WP.cond rfl (fun h3 => ?_) (fun h3 => ?_)
  · have h3 := of_decide_eq_true h3
    have h4 : i < psv16.length := by omega
    have hsm := set_mid (c := rootsJ (JL (er xs)) i) (n := psv16.length) (x := (i : Int)) (by omega)
    rw [hrl] at hsm
    refine WP.skip ?_
    refine WP.seq ?_
    refine WP.block ?_
    refine WP.seq ?_
    refine WP.region ?_
    refine RG.pv rfl (PV.mvI (.inl rfl) rfl) ?_
    refine RG.pv rfl (PV.mvI (.inr rfl) rfl) ?_
    refine RG.nil ?_
    refine WP.seq ?_
    refine WP.region ?_
    refine RG.pv rfl (PV.move (v := v19) rfl rfl) ?_
    refine RG.pv rfl (PV.mvI (.inl rfl) rfl) ?_
    refine RG.pv rfl (PV.mvI (.inl rfl) rfl) ?_
    refine RG.pv rfl (PV.idxS (v := v19) rfl Is176 rfl SlF.o rfl rfl (by omega)) ?_
    refine RG.ot rfl (OT.storeE (F := intT) rfl Sz3 rfl rfl rfl (Cl.c rfl) (OneC.c rfl) (by omega) ?_)
    refine RG.nil ?_
    refine WP.seq ?_
    refine WP.region ?_
    refine RG.pv rfl (PV.mvI (.inl rfl) rfl) ?_
    refine RG.pv rfl (PV.mvI (.inl rfl) rfl) ?_
    refine RG.nil ?_
    refine WP.block ?_
    refine WP.cv (Cv.eqS (hsm.trans (by rw [← inJ_zero (JL (er xs))]))) ?_
    refine WP.loop1 [0, 3, 4, 5, 21, 22, 29] (fun n => n ≤ i) (fun n => [(30, vi n)]) (fun n => osl 3 intT v19 (inJ (JL (er xs)) i (rootsJ (JL (er xs)) i) n ++ List.replicate (psv16.length - (i + 1)) 0) :: osl 132 pieceT v16 psv16 :: bagS 59 rectT (regs psv16) :: L) (fun n => i - n) 0 (by omega) ⟨rfl, trivial⟩ Cv.p ?_
    rintro n τ1 hn
    refine WP.seq ?_
    refine WP.region ?_
    refine RG.pv rfl (PV.lss rfl rfl rfl) ?_
    refine RG.nil ?_
    refine WP.seq ?_
    have hil := inJ_len (JL (er xs)) i (rootsJ (JL (er xs)) i) n
    have hil2 : (inJ (JL (er xs)) i (rootsJ (JL (er xs)) i) n).length = i + 1 := by omega
    have hin := fun j hj => inJ_le (J := JL (er xs)) (i := i) (k := n) (j := j) hn hj
    have hsc := inJ_succ (JL (er xs)) i (rootsJ (JL (er xs)) i) n
    generalize hceq : inJ (JL (er xs)) i (rootsJ (JL (er xs)) i) n = c at *
    have hal2 : (c ++ List.replicate (psv16.length - (i + 1)) (0 : Int)).length = psv16.length := by simp [hil2]; omega
    refine WP.cond rfl (fun h5 => ?_) (fun h5 => ?_)
    · have h5 := of_decide_eq_true h5
      have h6 : n < i := by omega
      have hgn : gd (c ++ List.replicate (psv16.length - (i + 1)) (0 : Int)) n = gd c n := gd_app_l (by omega)
      have hgi : gd (c ++ List.replicate (psv16.length - (i + 1)) (0 : Int)) i = gd c i := gd_app_l (by omega)
      have hin1 := hin n (by omega)
      have hin2 := hin i (by omega)
      have hJn := hJe n i (by omega) h4
      refine WP.skip ?_
      refine WP.seq ?_
      refine WP.block ?_
      refine WP.seq ?_
      refine WP.region ?_
      refine RG.pv rfl (PV.mvI (.inl rfl) rfl) ?_
      refine RG.pv rfl (PV.mvI (.inr rfl) rfl) ?_
      refine RG.nil ?_
      refine WP.seq ?_
      refine WP.seq ?_
      refine WP.regionQ (by kernel_rfl) (by kernel_rfl) ?_
      refine RQ.pv rfl (PV.move (v := v19) rfl rfl) ?_
      refine RQ.pv rfl (PV.mvI (.inl rfl) rfl) ?_
      refine RQ.pv rfl (PV.idxS (v := v19) rfl Is176 rfl SlF.o rfl rfl (by omega)) ?_
      refine RQ.pv rfl (PV.loadE1 rfl Sc3 rfl rfl (El.o (getG (by omega))) rfl) ?_
      refine RQ.pv rfl (PV.move (v := v19) rfl rfl) ?_
      refine RQ.pv rfl (PV.mvI (.inl rfl) rfl) ?_
      refine RQ.pv rfl (PV.idxS (v := v19) rfl Is176 rfl SlF.o rfl rfl (by omega)) ?_
      refine RQ.pv rfl (PV.loadE1 rfl Sc3 rfl rfl (El.o (getG (by omega))) rfl) ?_
      refine RQ.pv rfl (PV.eql rfl rfl rfl) ?_
      refine RQ.pv rfl (PV.mvB (.inl rfl) rfl) ?_
      refine RQ.gs rfl rfl rfl (fun hp => (PV.move (v := v) rfl rfl)) ?_
      refine RQ.gs rfl rfl rfl (fun hp => (PV.move (v := v16) rfl rfl)) ?_
      refine RQ.gs rfl rfl rfl (fun hp => (PV.mvI (.inl rfl) rfl)) ?_
      refine RQ.gs rfl rfl rfl (fun hp => (PV.idxS (v := v16) rfl Is127 (gs_t hp) SlF.o (gs_t hp) rfl (by first | omega | (simp at hp; omega)))) ?_
      refine RQ.gs rfl rfl rfl (fun hp => (PV.loadE rfl Ag132 (gs_t hp) rfl (El.o (getG (by first | omega | (simp at hp; omega)))))) ?_
      refine RQ.gs rfl rfl rfl (fun hp => (PV.move (v := v16) rfl rfl)) ?_
      refine RQ.gs rfl rfl rfl (fun hp => (PV.mvI (.inl rfl) rfl)) ?_
      refine RQ.gs rfl rfl rfl (fun hp => (PV.idxS (v := v16) rfl Is127 (gs_t hp) SlF.o (gs_t hp) rfl (by first | omega | (simp at hp; omega)))) ?_
      refine RQ.gs rfl rfl rfl (fun hp => (PV.loadE rfl Ag132 (gs_t hp) rfl (El.o (getG (by first | omega | (simp at hp; omega)))))) ?_
      refine RQ.gsC rfl rfl rfl rfl En133 (fun hp => ⟨_, (acons (gs_t hp) (acons (gs_t hp) (acons (gs_t hp) anil))), joined_s (Rs.up h1) hd.up h8 (hcr n (by omega)).up (hcr i (by omega)).up ⟨rfl, rfl, rfl⟩⟩) ?_
      refine RQ.gs rfl rfl rfl (fun hp => (PV.not rfl (gs_t hp))) ?_
      refine RQ.pv rfl (PV.pickO rfl rfl rfl (fun hq => gs_t (geqF hq))) ?_
      refine RQ.nil ?_
      refine WP.cond rfl (fun h7 => ?_) (fun h7 => ?_)
      · have hs : gd c n = gd c i ∨ JL (er xs) n i = false := by
          rw [hgn, hgi, hJn] at h7; revert h7
          cases JL (er xs) n i <;> simp
        refine WP.exit ?_
        refine WP.region ?_
        refine RG.pv rfl (PV.add rfl rfl rfl (by omega)) ?_
        refine RG.pv rfl (PV.mvI (.inl rfl) rfl) ?_
        refine RG.nil ?_
        exact ⟨rfl, n + 1, (by omega), ⟨rfl, trivial⟩, ⟨rfl, rfl, rfl, rfl, rfl, rfl, rfl, trivial⟩, (Cv.eqS (by rw [hsc, stepJ_same hs])), by omega⟩
      · have hs : ¬ (gd c n = gd c i ∨ JL (er xs) n i = false) := by
          rw [hgn, hgi, hJn] at h7; revert h7
          cases JL (er xs) n i <;> simp
        have hhi0 : max (gd c n) (gd c i) ≠ 0 := by rw [not_or] at hs; omega
        refine WP.skip ?_
        refine WP.seq ?_
        refine WP.regionQ (by kernel_rfl) (by kernel_rfl) ?_
        refine RQ.pv rfl (PV.move (v := v19) rfl rfl) ?_
        refine RQ.pv rfl (PV.mvI (.inl rfl) rfl) ?_
        refine RQ.pv rfl (PV.idxS (v := v19) rfl Is176 rfl SlF.o rfl rfl (by omega)) ?_
        refine RQ.pv rfl (PV.loadE1 rfl Sc3 rfl rfl (El.o (getG (by omega))) rfl) ?_
        refine RQ.pv rfl (PV.move (v := v19) rfl rfl) ?_
        refine RQ.pv rfl (PV.mvI (.inl rfl) rfl) ?_
        refine RQ.pv rfl (PV.idxS (v := v19) rfl Is176 rfl SlF.o rfl rfl (by omega)) ?_
        refine RQ.pv rfl (PV.loadE1 rfl Sc3 rfl rfl (El.o (getG (by omega))) rfl) ?_
        refine RQ.pv rfl (PV.min2 rfl rfl rfl) ?_
        refine RQ.pv rfl (PV.move (v := v19) rfl rfl) ?_
        refine RQ.pv rfl (PV.mvI (.inl rfl) rfl) ?_
        refine RQ.pv rfl (PV.idxS (v := v19) rfl Is176 rfl SlF.o rfl rfl (by omega)) ?_
        refine RQ.pv rfl (PV.loadE1 rfl Sc3 rfl rfl (El.o (getG (by omega))) rfl) ?_
        refine RQ.pv rfl (PV.move (v := v19) rfl rfl) ?_
        refine RQ.pv rfl (PV.mvI (.inl rfl) rfl) ?_
        refine RQ.pv rfl (PV.idxS (v := v19) rfl Is176 rfl SlF.o rfl rfl (by omega)) ?_
        refine RQ.pv rfl (PV.loadE1 rfl Sc3 rfl rfl (El.o (getG (by omega))) rfl) ?_
        refine RQ.pv rfl (PV.max2 rfl rfl rfl) ?_
        refine RQ.pv rfl (PV.mvI (.inr rfl) rfl) ?_
        refine RQ.pv rfl (PV.mvI (.inr rfl) rfl) ?_
        refine RQ.nil ?_
        refine WP.seq ?_
        refine WP.region ?_
        refine RG.pv rfl (PV.mvI (.inl rfl) rfl) ?_
        refine RG.pv rfl (PV.add rfl rfl rfl (by omega)) ?_
        refine RG.pv rfl (PV.mvI (.inl rfl) rfl) ?_
        refine RG.nil ?_
        refine WP.block ?_
        rw [hgn, hgi]
        refine WP.cv (Cv.eqS (mapTo_zero (rl (min (gd c n) (gd c i)) (max (gd c n) (gd c i))) (c ++ List.replicate (psv16.length - (i + 1)) 0)).symm) ?_
        generalize hlo : min (gd c n) (gd c i) = lo at *
        generalize hhi : max (gd c n) (gd c i) = hi2 at *
        refine WP.loop1 [0, 3, 4, 5, 7, 8, 21, 22, 29, 30, 74] (fun m => m ≤ i + 1) (fun m => [(75, vi m)]) (fun m => osl 3 intT v19 (mapTo (rl lo hi2) (c ++ List.replicate (psv16.length - (i + 1)) 0) m) :: osl 132 pieceT v16 psv16 :: bagS 59 rectT (regs psv16) :: L) (fun m => i + 1 - m) 0 (by omega) ⟨rfl, trivial⟩ Cv.p ?_
        rintro m τ2 hm
        refine WP.seq ?_
        refine WP.region ?_
        refine RG.pv rfl (PV.lss rfl rfl rfl) ?_
        refine RG.nil ?_
        refine WP.seq ?_
        have hml := mapTo_len (rl lo hi2) (c ++ List.replicate (psv16.length - (i + 1)) 0) (m := m) (by omega)
        refine WP.cond rfl (fun h8 => ?_) (fun h8 => ?_)
        · have h8 := of_decide_eq_true h8
          have hmg := mapTo_gd (f := rl lo hi2) (d := c ++ List.replicate (psv16.length - (i + 1)) 0) (m := m) (by omega)
          refine WP.skip ?_
          refine WP.seq ?_
          refine WP.block ?_
          refine WP.seq ?_
          refine WP.region ?_
          refine RG.pv rfl (PV.mvI (.inl rfl) rfl) ?_
          refine RG.pv rfl (PV.mvI (.inr rfl) rfl) ?_
          refine RG.nil ?_
          refine WP.seq ?_
          refine WP.region ?_
          refine RG.pv rfl (PV.move (v := v19) rfl rfl) ?_
          refine RG.pv rfl (PV.mvI (.inl rfl) rfl) ?_
          refine RG.pv rfl (PV.idxS (v := v19) rfl Is176 rfl SlF.o rfl rfl (by omega)) ?_
          refine RG.pv rfl (PV.loadE1 rfl Sc3 rfl rfl (El.o (getG (by omega))) rfl) ?_
          refine RG.pv rfl (PV.mvI (.inl rfl) rfl) ?_
          refine RG.pv rfl (PV.eql rfl rfl rfl) ?_
          refine RG.nil ?_
          refine WP.cond rfl (fun h9 => ?_) (fun h9 => ?_)
          · refine WP.region ?_
            refine RG.pv rfl (PV.move (v := v19) rfl rfl) ?_
            refine RG.pv rfl (PV.mvI (.inl rfl) rfl) ?_
            refine RG.pv rfl (PV.mvI (.inl rfl) rfl) ?_
            refine RG.pv rfl (PV.idxS (v := v19) rfl Is176 rfl SlF.o rfl rfl (by omega)) ?_
            refine RG.ot rfl (OT.storeE (F := intT) rfl Sz3 rfl rfl rfl (Cl.c rfl) (OneC.c rfl) (by omega) ?_)
            refine RG.nil ?_
            refine WP.region ?_
            refine RG.pv rfl (PV.add rfl rfl rfl (by omega)) ?_
            refine RG.pv rfl (PV.mvI (.inl rfl) rfl) ?_
            refine RG.nil ?_
            exact ⟨rfl, m + 1, (by omega), ⟨rfl, trivial⟩, ⟨rfl, rfl, rfl, rfl, rfl, rfl, rfl, rfl, rfl, rfl, rfl, trivial⟩, (Cv.eqS (by rw [← mapTo_set (by omega), rl, if_pos (by rw [hmg] at h9; simpa using h9)])), by omega⟩
          · refine WP.skip ?_
            refine WP.region ?_
            refine RG.pv rfl (PV.add rfl rfl rfl (by omega)) ?_
            refine RG.pv rfl (PV.mvI (.inl rfl) rfl) ?_
            refine RG.nil ?_
            exact ⟨rfl, m + 1, (by omega), ⟨rfl, trivial⟩, ⟨rfl, rfl, rfl, rfl, rfl, rfl, rfl, rfl, rfl, rfl, rfl, trivial⟩, (Cv.eqS (by rw [mapTo_skip (by omega)]; rw [rl, if_neg (by rw [hmg] at h9; simpa using h9)])), by omega⟩
        · have h8 := of_decide_eq_false h8
          obtain rfl : m = i + 1 := by omega
          have hma := mapTo_all (f := rl lo hi2) (c := c) (z := List.replicate (psv16.length - (i + 1)) 0)
          rw [hil2] at hma
          refine WP.exit ?_
          refine WP.region ?_
          refine RG.pv rfl (PV.add rfl rfl rfl (by omega)) ?_
          refine RG.pv rfl (PV.mvI (.inl rfl) rfl) ?_
          refine RG.nil ?_
          exact ⟨rfl, n + 1, (by omega), ⟨rfl, trivial⟩, ⟨rfl, rfl, rfl, rfl, rfl, rfl, rfl, trivial⟩, (Cv.eqS (by rw [hma, hsc, stepJ_map hs, hlo, hhi])), by omega⟩
    · have h5 := of_decide_eq_false h5
      obtain rfl : n = i := by omega
      refine WP.exit ?_
      refine WP.region ?_
      refine RG.pv rfl (PV.add rfl rfl rfl (by omega)) ?_
      refine RG.pv rfl (PV.mvI (.inl rfl) rfl) ?_
      refine RG.nil ?_
      exact ⟨rfl, n + 1, (by omega), ⟨rfl, trivial⟩, ⟨rfl, rfl, rfl, rfl, trivial⟩, (Cv.eqS (by rw [rootsJ, hceq])), by omega⟩
  · have h3 := of_decide_eq_false h3
    obtain rfl : i = psv16.length := by omega
    have hcl : rootsJ (JL (er xs)) psv16.length ++ List.replicate (psv16.length - psv16.length) 0 = clsL (er xs) := by rw [Nat.sub_self, List.replicate_zero, List.append_nil, hpl]; rfl
    refine WP.cv (Cv.eqS hcl) ?_
    have hrt := clsL_rt (er xs)
    have hcll := clsL_len (er xs)
    refine WP.exit ?_
    refine WP.cut2 [3, 4] (fun (o pq : Value) => True) (fun (o pq : Value) => [(10, o), (11, pq)]) (fun (o pq : Value) => osl 129 netT o ([] : List Net) :: osl 3 intT pq (List.replicate psv16.length 0) :: osl 3 intT v19 (clsL (er xs)) :: osl 132 pieceT v16 psv16 :: bagS 59 rectT (regs psv16) :: L) ?_ ?_
    refine WP.regionH0 (.q 1 (.q 2 (.b 0 (.q 4 (.l 3 (.q 5 Sch.nil))) 3 (.l 0 (.q 4 (.q 5 Sch.nil)))))) (by kernel_rfl) (by kernel_rfl) (by kernel_rfl) rfl ?_
    refine RH.pv rfl (fun _ _ _ _ h => h) (Gh.le_refl _) PickC.pick rfl (PV.move (v := v16) rfl rfl) ?_
    refine RH.pv rfl (fun _ _ _ _ h => h) (Gh.le_refl _) PickC.pick rfl (PV.len (v := v16) rfl Tryz.underlying127 rfl SlF.o) ?_
    · refine RH.ot2 rfl rfl rfl rfl  (OT.bslice (F := netT) (els := []) rfl El81 rfl (by decide) rfl (by decide) trivial fun v91 => ⟨Gh.le_refl _, PickC.pick, ?_⟩) (OT.make (F := intT) (a0 := 0) rfl El176 rfl (by decide) rfl rfl (by omega) (by omega) fun v94 => ⟨Gh.le_refl _, PickC.pick, ?_⟩)
      · refine RH.pv rfl (fun _ _ _ _ h => h) (Gh.le_refl _) PickC.pick rfl (PV.asg (v := v91) rfl rfl) ?_
        refine RH.ot rfl rfl (OT.make (F := intT) (a0 := 0) rfl El176 rfl (by decide) rfl rfl (by omega) (by omega) fun v94 => ⟨Gh.le_refl _, PickC.pick, ?_⟩)
        refine RH.pv rfl (fun _ _ _ _ h => h) (Gh.le_refl _) PickC.pick rfl (PV.asg (v := v94) rfl rfl) ?_
        refine RH.nil ?_
        exact ⟨rfl, v91, v94, trivial, ⟨rfl, rfl, trivial⟩, ⟨rfl, rfl, trivial⟩, Cv.p⟩
      · refine RH.ot rfl rfl (OT.bslice (F := netT) (els := []) rfl El81 rfl (by decide) rfl (by decide) trivial fun v91 => ⟨Gh.le_refl _, PickC.pick, ?_⟩)
        refine RH.pv rfl (fun _ _ _ _ h => h) (Gh.le_refl _) PickC.pick rfl (PV.asg (v := v91) rfl rfl) ?_
        refine RH.pv rfl (fun _ _ _ _ h => h) (Gh.le_refl _) PickC.pick rfl (PV.asg (v := v94) rfl rfl) ?_
        refine RH.nil ?_
        exact ⟨rfl, v91, v94, trivial, ⟨rfl, rfl, trivial⟩, ⟨rfl, rfl, trivial⟩, Cv.p⟩
    have hpr : ∀ j, j < 0 → gd (clsL (er xs)) j = (j : Int) → gd (List.replicate psv16.length (0 : Int)) j = (cntR (clsL (er xs)) j : Int) := fun j h => by omega
    rintro o pq τ3 _
    refine WP.seq ?_
    refine WP.seq ?_
    refine WP.region ?_
    refine RG.pv rfl (PV.move (v := v16) rfl rfl) ?_
    refine RG.pv rfl (PV.len (v := v16) rfl Tryz.underlying127 rfl SlF.o) ?_
    refine RG.pv rfl (PV.mvI (.inl rfl) rfl) ?_
    refine RG.nil ?_
    refine WP.block ?_
    refine WP.cv ((Cv.cons (Cv.bag0 (e := 132) (F := pieceT) (xs := nps []) rfl))) ?_
    refine WP.loop4 [4, 11, 95, 96] (fun (i : Nat) (zs : List Net) (pl : List Int) (q : Value) => i ≤ psv16.length ∧ er (nps zs) = netsP (clsL (er xs)) psv16 i ∧ pl.length = psv16.length ∧ ∀ j, j < i → gd (clsL (er xs)) j = (j : Int) → gd pl j = (cntR (clsL (er xs)) j : Int)) (fun (i : Nat) (zs : List Net) (pl : List Int) (q : Value) => [(97, vi i), (10, q)]) (fun (i : Nat) (zs : List Net) (pl : List Int) (q : Value) => osl 129 netT q zs :: bagS 132 pieceT (nps zs) :: osl 3 intT pq pl :: osl 3 intT v19 (clsL (er xs)) :: osl 132 pieceT v16 psv16 :: bagS 59 rectT (regs psv16) :: L) (fun (i : Nat) (zs : List Net) (pl : List Int) (q : Value) => psv16.length - i) 0 [] (List.replicate psv16.length 0) o ⟨by omega, rfl, hlr, hpr⟩ ⟨rfl, rfl, trivial⟩ Cv.p ?_
    rintro i zs pl q τ4 ⟨hi2, hzs, hpll, hpl3⟩
    refine WP.seq ?_
    refine WP.region ?_
    refine RG.pv rfl (PV.lss rfl rfl rfl) ?_
    refine RG.nil ?_
    refine WP.seq ?_
    have hcl0 := cntR_le (clsL (er xs)) i
    have hzl : zs.length = cntR (clsL (er xs)) i := by have := congrArg List.length hzs; rwa [er_len, nps_len, netsP_len] at this
    refine WP.cond rfl (fun h10 => ?_) (fun h10 => ?_)
    · have h10 := of_decide_eq_true h10
      have h11 : i < psv16.length := by omega
      have h12 : i < (clsL (er xs)).length := by omega
      obtain ⟨g1, g2⟩ := numbers_at h12 hrt
      have hcs := cntR_succ (clsL (er xs)) i
      refine WP.skip ?_
      refine WP.seq ?_
      refine WP.block ?_
      refine WP.seq ?_
      refine WP.region ?_
      refine RG.pv rfl (PV.mvI (.inl rfl) rfl) ?_
      refine RG.pv rfl (PV.idxS (v := v16) rfl Is127 rfl SlF.o rfl rfl (by omega)) ?_
      refine RG.pv rfl (PV.loadE rfl Ag132 rfl rfl (El.o (getG (by omega)))) ?_
      refine RG.ot rfl (OT.alloc rfl Zr132 fun b13 => ?_)
      refine RG.pv rfl (PV.mvI (.inr rfl) rfl) ?_
      refine RG.ot rfl (OT.storeW (vs := [vi _, _]) rfl Sz132 rfl rfl (Cl.c rfl) rfl rfl (OneC.val rfl (OneC.sl (SlF.r (hcr i h11)) OneC.nil)) ?_)
      refine RG.nil ?_
      refine WP.cut3 [4, 11, 12, 13, 95, 96, 97] (fun (zs2 : List Net) (pl2 : List Int) (q2 : Value) => er (nps zs2) = netsE (clsL (er xs)) psv16 i ∧ pl2.length = psv16.length ∧ ∀ j, j < i + 1 → gd (clsL (er xs)) j = (j : Int) → gd pl2 j = (cntR (clsL (er xs)) j : Int)) (fun (zs2 : List Net) (pl2 : List Int) (q2 : Value) => [(10, q2)]) (fun (zs2 : List Net) (pl2 : List Int) (q2 : Value) => osl 129 netT q2 zs2 :: bagS 132 pieceT (nps zs2) :: osl 3 intT pq pl2 :: osl 3 intT v19 (clsL (er xs)) :: osl 132 pieceT v16 psv16 :: bagS 59 rectT (regs psv16) :: blk b13 132 (pieceT.enc (gd psv16 i)) :: L) ?_ ?_
      refine WP.seq ?_
      refine WP.region ?_
      refine RG.pv rfl (PV.move (v := v19) rfl rfl) ?_
      refine RG.pv rfl (PV.mvI (.inl rfl) rfl) ?_
      refine RG.pv rfl (PV.idxS (v := v19) rfl Is176 rfl SlF.o rfl rfl (by omega)) ?_
      refine RG.pv rfl (PV.loadE1 rfl Sc3 rfl rfl (El.o (getG (by omega))) rfl) ?_
      refine RG.pv rfl (PV.mvI (.inl rfl) rfl) ?_
      refine RG.pv rfl (PV.eql rfl rfl rfl) ?_
      refine RG.nil ?_
      · refine WP.cond rfl (fun h13 => ?_) (fun h13 => ?_)
        · have h13 : gd (clsL (er xs)) i = (i : Int) := by simpa using h13
          refine WP.seq ?_
          refine WP.region ?_
          refine RG.pv rfl (PV.move (v := pq) rfl rfl) ?_
          refine RG.pv rfl (PV.mvI (.inl rfl) rfl) ?_
          refine RG.pv rfl (PV.move (v := q) rfl rfl) ?_
          refine RG.pv rfl (PV.len (v := q) rfl Tryz.underlying81 rfl SlF.o) ?_
          refine RG.pv rfl (PV.idxS (v := pq) rfl Is176 rfl SlF.o rfl rfl (by omega)) ?_
          refine RG.ot rfl (OT.storeE (a := (zs.length : Int)) (F := intT) rfl Sz3 rfl rfl rfl (Cl.c rfl) (OneC.c rfl) (by omega) ?_)
          refine RG.nil ?_
          refine WP.region ?_
          refine RG.pv rfl (PV.move (v := q) rfl rfl) ?_
          refine RG.pv rfl (PV.build (vs := []) (out := [_]) rfl Zr129 Pl129 trivial rfl) ?_
          refine RG.ot rfl (OT.bslice (F := netT) (els := [⟨⟨.slice none 0 0, []⟩⟩]) rfl El81 rfl (by decide) rfl (by decide) ⟨rfl, (Cl.c rfl), trivial⟩ fun v115 => ?_)
          refine RG.ot rfl (OT.append (v := q) (u := v115) (F := netT) rfl El81 rfl (by decide) rfl rfl Rs.o (OneL.one (OneC.c rfl)) rfl (by first | omega | (simp <;> omega)) fun v116 => ?_)
          refine RG.pv rfl (PV.asg (v := v116) rfl rfl) ?_
          refine RG.nil ?_
          refine ⟨rfl, (zs ++ [⟨⟨.slice none 0 0, []⟩⟩]), (pl.set i (zs.length : Int)), v116, ⟨?_, by simpa using hpll, ?_⟩, ⟨rfl, trivial⟩, ⟨rfl, rfl, rfl, rfl, rfl, rfl, rfl, trivial⟩, ((Cv.p (C := osl 129 netT v116 (zs ++ [⟨⟨.slice none 0 0, []⟩⟩]) :: bagS 132 pieceT (nps zs) :: osl 3 intT pq (pl.set i (zs.length : Int)) :: osl 3 intT v19 (clsL (er xs)) :: osl 132 pieceT v16 psv16 :: bagS 59 rectT (regs psv16) :: blk b13 132 (pieceT.enc (gd psv16 i)) :: L)).trans (Cv.cons (Cv.nilS.trans (Cv.grow (by rw [nps_append]; rfl)))))⟩
          · rw [nps_append, er_append, hzs, netsE, if_pos h13]; rfl
          · intro j hj hr
            by_cases c : j = i
            · subst c; simp [gd, hpll, h11, hzl]
            · have := hpl3 j (by omega) hr
              simpa [gd, List.getElem?_set, Ne.symm c] using this
        · have h13 : gd (clsL (er xs)) i ≠ (i : Int) := by simpa using h13
          refine WP.skip ?_
          refine ⟨rfl, zs, pl, q, ⟨by rw [hzs, netsE, if_neg h13], hpll, fun j hj hr => ?_⟩, ⟨rfl, trivial⟩, ⟨rfl, rfl, rfl, rfl, rfl, rfl, rfl, trivial⟩, Cv.p⟩
          by_cases c : j = i
          · subst c; exact absurd hr h13
          · exact hpl3 j (by omega) hr
      rintro zs2 pl2 q2 τ5 ⟨hzs2, hpll2, hpl4⟩
      have hzl2 : zs2.length = cntR (clsL (er xs)) (i + 1) := by have := congrArg List.length hzs2; rwa [er_len, nps_len, netsE_len] at this
      have hnl := numR_lt hrt h12 (Nat.lt_add_one i)
      have hr3 := (hrt i h12).2.2
      have hplg : gd pl2 (gd (clsL (er xs)) i).toNat = (numR (clsL (er xs)) i : Int) := by rw [hpl4 _ (by omega) (by rw [hr3]; omega)]; rfl
      have hme : (gd zs2 (numR (clsL (er xs)) i)).pieces.xs = gd (netsE (clsL (er xs)) psv16 i) (numR (clsL (er xs)) i) := by rw [← hzs2, er_gd, nps_gd (by omega)]
      have hml3 : (gd zs2 (numR (clsL (er xs)) i)).pieces.xs.length ≤ 25600 := by
        rw [hme, netsE_gd hrt h12 hnl, List.length_map]
        have := List.length_filter_le (fun j => decide (numR (clsL (er xs)) j = numR (clsL (er xs)) i)) (List.range i)
        rw [List.length_range] at this; omega
      refine WP.cv ((Cv.cons (Cv.bagS_take (numR (clsL (er xs)) i) (by rw [nps_len]; omega))).trans (Cv.cast (by rw [nps_gd (by omega)]))) ?_
      refine WP.seq ?_
      refine WP.region ?_
      refine RG.pv rfl (PV.move (v := q2) rfl rfl) ?_
      refine RG.pv rfl (PV.move (v := pq) rfl rfl) ?_
      refine RG.pv rfl (PV.move (v := v19) rfl rfl) ?_
      refine RG.pv rfl (PV.mvI (.inl rfl) rfl) ?_
      refine RG.pv rfl (PV.idxS (v := v19) rfl Is176 rfl SlF.o rfl rfl (by omega)) ?_
      refine RG.pv rfl (PV.loadE1 rfl Sc3 rfl rfl (El.o (getG (by omega))) rfl) ?_
      refine RG.pv rfl (PV.idxS (j := (gd (clsL (er xs)) i).toNat) (v := pq) rfl Is176 rfl SlF.o rfl (by omega) (by omega)) ?_
      refine RG.pv rfl (PV.loadE1 rfl Sc3 rfl rfl (El.o (getG (by omega))) rfl) ?_
      refine RG.pv rfl (PV.idxS (j := numR (clsL (er xs)) i) (v := q2) rfl Is81 rfl SlF.o rfl (by omega) (by omega)) ?_
      refine RG.pv rfl (PV.mvP (.inr rfl) rfl) ?_
      refine RG.nil ?_
      refine WP.regionHD [.s q2, .s (gd zs2 (numR (clsL (er xs)) i)).pieces.v] (.q 0 (.q 1 (.q 2 (.q 3 (.q 5 (.b 4 (.l 6 (.l 7 (.q 8 (.q 9 (.l 10 Sch.nil))))) 6 (.l 4 (.l 7 (.q 8 (.q 9 (.l 10 Sch.nil))))))))))) (by kernel_rfl) (by kernel_rfl) (by kernel_rfl) rfl ?_
      refine RH.pv rfl (fun _ _ _ _ h => h) (Gh.le_refl _) PickC.pick rfl (PV.mvP (.inl rfl) rfl) ?_
      refine RH.pv rfl (fun _ _ _ _ h => h) (Gh.le_refl _) PickC.pick rfl (PV.mvP (.inl rfl) rfl) ?_
      refine RH.pv rfl (fun _ _ _ _ h => h) (Gh.le_refl _) PickC.pick rfl (PV.nilc rfl rfl) ?_
      refine RH.pv rfl (fun _ _ _ _ h => h) (Gh.le_refl _) PickC.pick rfl (PV.field rfl Fo129_0 rfl) ?_
      refine RH.pv rfl (fun _ _ _ _ h => h) (Gh.le_refl _) PickC.pick rfl (PV.loadW rfl Ag132 rfl rfl) ?_
      have hfin : er (nps (zs2.set (numR (clsL (er xs)) i) ⟨⟨default, (gd zs2 (numR (clsL (er xs)) i)).pieces.xs ++ [gd psv16 i]⟩⟩)) = netsP (clsL (er xs)) psv16 (i + 1) := by
        rw [nps_set, er_set, hzs2, netsP_succ hrt h12, hme]
      have hfin2 : ∀ w, er (nps (zs2.set (numR (clsL (er xs)) i) ⟨⟨w, (gd zs2 (numR (clsL (er xs)) i)).pieces.xs ++ [gd psv16 i]⟩⟩)) = netsP (clsL (er xs)) psv16 (i + 1) := fun w => by
        rw [← hfin, nps_set, nps_set, er_set, er_set]
      refine RH.ot2 rfl rfl rfl rfl  (OT.pv (PV.loadF (v := q2) (j := 0) rfl Sc127 rfl rfl (El.o (getG (by omega))) rfl) ⟨Gh.le_refl _, PickC.pick, ?_⟩) (OT.bslice (F := pieceT) (els := [⟨(gd psv16 i).layer, (gd psv16 i).reg⟩]) rfl El127 rfl (by decide) rfl (by decide) ⟨rfl, (Cl.c rfl), trivial⟩ fun v132 => ⟨Gh.le_refl _, PickC.pick, ?_⟩)
      · refine RH.ot rfl rfl (OT.bslice (F := pieceT) (els := [⟨(gd psv16 i).layer, (gd psv16 i).reg⟩]) rfl El127 rfl (by decide) rfl (by decide) ⟨rfl, (Cl.c rfl), trivial⟩ fun v132 => ⟨Gh.le_refl _, PickC.pick, ?_⟩)
        refine RH.ot rfl rfl (OT.append (v := (gd zs2 (numR (clsL (er xs)) i)).pieces.v) (u := v132) (F := pieceT) rfl El127 rfl (by decide) rfl rfl Rs.o (OneL.one (OneC.val rfl (OneC.sl (SlF.r (hcr i h11)) OneC.nil))) rfl (by first | omega | (simp <;> omega)) fun v133 => ⟨Gh.le_refl _, PickC.pick, ?_⟩)
        refine RH.pv rfl (fun _ _ _ _ h => h) (Gh.le_refl _) PickC.pick rfl (PV.nilc rfl rfl) ?_
        refine RH.pv rfl (fun _ _ _ _ h => h) (Gh.le_refl _) PickC.pick rfl (PV.field rfl Fo129_0 rfl) ?_
        refine RH.ot rfl rfl (OT.storeF (F := netT) (val := Sl.v) (cv := fun u => [u.v]) (u := ⟨v133, (gd zs2 (numR (clsL (er xs)) i)).pieces.xs ++ [gd psv16 i]⟩) (st := Net.s0) rfl Sz127 rfl rfl rfl (Cl.s (v := v133) SlF.o) rfl (OneC.sl SlF.o OneC.nil) (by exact set_self (by omega)) (by first | omega | (simp; omega)) rfl (fun _ _ => rfl) ⟨Gh.le_refl _, PickC.pick, ?_⟩)
        refine RH.nil ?_
        refine WP.region ?_
        refine RG.pv rfl (PV.add rfl rfl rfl (by first | omega | (simp only [List.length_set]; omega))) ?_
        refine RG.pv rfl (PV.mvI (.inl rfl) rfl) ?_
        refine RG.nil ?_
        exact ⟨rfl, i + 1, (zs2.set (numR (clsL (er xs)) i) ⟨⟨v133, (gd zs2 (numR (clsL (er xs)) i)).pieces.xs ++ [gd psv16 i]⟩⟩), pl2, q2, ⟨by omega, hfin2 _, hpll2, hpl4⟩, ⟨rfl, rfl, trivial⟩, ⟨rfl, rfl, rfl, rfl, trivial⟩, ((Cv.p (C := osl 132 pieceT v133 ((gd zs2 (numR (clsL (er xs)) i)).pieces.xs ++ [gd psv16 i]) :: osl 129 netT q2 (zs2.set (numR (clsL (er xs)) i) ⟨⟨v133, (gd zs2 (numR (clsL (er xs)) i)).pieces.xs ++ [gd psv16 i]⟩⟩) :: bag (((nps zs2).map (ownS 132 pieceT)).set (numR (clsL (er xs)) i) emp) :: osl 3 intT pq pl2 :: osl 3 intT v19 (clsL (er xs)) :: osl 132 pieceT v16 psv16 :: bagS 59 rectT (regs psv16) :: L)).trans (Cv.slotN _ (by omega))), by omega⟩
      · refine RH.ot rfl rfl (OT.pv (PV.loadF (v := q2) (j := 0) rfl Sc127 rfl rfl (El.o (getG (by omega))) rfl) ⟨Gh.le_refl _, PickC.pick, ?_⟩)
        refine RH.ot rfl rfl (OT.append (v := (gd zs2 (numR (clsL (er xs)) i)).pieces.v) (u := v132) (F := pieceT) rfl El127 rfl (by decide) rfl rfl Rs.o (OneL.one (OneC.val rfl (OneC.sl (SlF.r (hcr i h11)) OneC.nil))) rfl (by first | omega | (simp <;> omega)) fun v133 => ⟨Gh.le_refl _, PickC.pick, ?_⟩)
        refine RH.pv rfl (fun _ _ _ _ h => h) (Gh.le_refl _) PickC.pick rfl (PV.nilc rfl rfl) ?_
        refine RH.pv rfl (fun _ _ _ _ h => h) (Gh.le_refl _) PickC.pick rfl (PV.field rfl Fo129_0 rfl) ?_
        refine RH.ot rfl rfl (OT.storeF (F := netT) (val := Sl.v) (cv := fun u => [u.v]) (u := ⟨v133, (gd zs2 (numR (clsL (er xs)) i)).pieces.xs ++ [gd psv16 i]⟩) (st := Net.s0) rfl Sz127 rfl rfl rfl (Cl.s (v := v133) SlF.o) rfl (OneC.sl SlF.o OneC.nil) (by exact set_self (by omega)) (by first | omega | (simp; omega)) rfl (fun _ _ => rfl) ⟨Gh.le_refl _, PickC.pick, ?_⟩)
        refine RH.nil ?_
        refine WP.region ?_
        refine RG.pv rfl (PV.add rfl rfl rfl (by first | omega | (simp only [List.length_set]; omega))) ?_
        refine RG.pv rfl (PV.mvI (.inl rfl) rfl) ?_
        refine RG.nil ?_
        exact ⟨rfl, i + 1, (zs2.set (numR (clsL (er xs)) i) ⟨⟨v133, (gd zs2 (numR (clsL (er xs)) i)).pieces.xs ++ [gd psv16 i]⟩⟩), pl2, q2, ⟨by omega, hfin2 _, hpll2, hpl4⟩, ⟨rfl, rfl, trivial⟩, ⟨rfl, rfl, rfl, rfl, trivial⟩, ((Cv.p (C := osl 132 pieceT v133 ((gd zs2 (numR (clsL (er xs)) i)).pieces.xs ++ [gd psv16 i]) :: osl 129 netT q2 (zs2.set (numR (clsL (er xs)) i) ⟨⟨v133, (gd zs2 (numR (clsL (er xs)) i)).pieces.xs ++ [gd psv16 i]⟩⟩) :: bag (((nps zs2).map (ownS 132 pieceT)).set (numR (clsL (er xs)) i) emp) :: osl 3 intT pq pl2 :: osl 3 intT v19 (clsL (er xs)) :: osl 132 pieceT v16 psv16 :: bagS 59 rectT (regs psv16) :: L)).trans (Cv.slotN _ (by omega))), by omega⟩
    · have h10 := of_decide_eq_false h10
      obtain rfl : i = psv16.length := by omega
      have hpm := netsP_perm hrt psv16 (by omega)
      rw [← hzs] at hpm
      have hfin : (er (nps zs)).map erPs = netL (er xs) := by
        rw [hzs, netL, ← hev16, erPs, ← hpl, netsP_map erP _ _ (Nat.le_refl _)]; rfl
      refine WP.exit ?_
      refine WP.seq ?_
      refine WP.region ?_
      refine RG.pv rfl (PV.move (v := q) rfl rfl) ?_
      refine RG.pv rfl (PV.asg (v := q) rfl rfl) ?_
      refine RG.nil ?_
      refine WP.ret ?_
      exact ⟨_, _, ResV.one rfl rfl, ((Cv.p (C := bagS 59 rectT (regs psv16) :: osl 129 netT q zs :: bagS 132 pieceT (nps zs) :: L)).trans ((Cv.bagPerm (ys := regs (er (nps zs)).flatten) (hpm.symm.map Piece.reg)).trans Cv.p)), k q zs hfin⟩
end Go.Proofs.YthjaopefoiploaaGreat
