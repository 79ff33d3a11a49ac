/-
  The law FnNetsTurned: whatever the code, the law returns true and the code reads as before.
-/
import Derived.Test.YthhjapiggekjbaaMA3
import Derived.ProofKit
import Derived.Deep.Slices
import Derived.Carry
import Derived.Test.YthhjapiggekjbaaRows
namespace Go.Proofs.Ythhjapiggekjbaa
set_option linter.unusedVariables false
set_option linter.unusedSimpArgs false
open Go
set_option maxRecDepth 20000
set_option linter.unusedSimpArgs false
variable {G : Gh} {L : List Ch} {R : Value → Gh → List Ch → Prop}
theorem jnI_er (l : List (List Rect)) (p q : Piece) : jnI l (erP p) (erP q) = bif decide (q.layer < p.layer) then jnO l (erP q) (erP p) else jnO l (erP p) (erP q) := rfl
theorem jnO_er (l : List (List Rect)) (p q : Piece) : jnO l (erP p) (erP q) = bif decide (q.layer = 3) && decide (p.layer < 3) then meetIn p.reg.xs q.reg.xs (gd l 2) else decide (p.layer = 3) && decide (q.layer = 5) && meetIn p.reg.xs q.reg.xs (gd l 4) := rfl
theorem joined_s {v : Value} {xs : List (Sl Rect)} {p q : Piece} (h1 : Rs G L slT v xs) (hd : RsE G L rectT xs) (h8 : xs.length = 8) (hp : Rs G L rectT p.reg.v p.reg.xs) (hq : Rs G L rectT q.reg.v q.reg.xs) (k : R (.bool (jnI (er xs) (erP p) (erP q))) G L) : CallT Try.prog 35 #[v, vT pieceT p, vT pieceT q] G L R := by
  refine CallT.enter (args := _) Try.func35 rfl rfl (by kernel_rfl) rfl ?_
  refine WP.seq ?_
  refine WP.region ?_
  refine RG.ot rfl (OT.box (cs := pieceT.enc p) rfl rfl rfl fun b4 => ?_)
  refine RG.ot rfl (OT.box (cs := pieceT.enc q) rfl rfl rfl fun b5 => ?_)
  refine RG.pv rfl (PV.mvB (.inr rfl) rfl) ?_
  refine RG.nil ?_
  refine WP.cut1 [0, 4, 5] (fun (pq : Piece × Piece) => Rs G L rectT pq.1.reg.v pq.1.reg.xs ∧ Rs G L rectT pq.2.reg.v pq.2.reg.xs ∧ jnI (er xs) (erP p) (erP q) = jnO (er xs) (erP pq.1) (erP pq.2)) (fun (pq : Piece × Piece) => []) (fun (pq : Piece × Piece) => blk b4 62 (pieceT.enc pq.1) :: blk b5 62 (pieceT.enc pq.2) :: L) ?_ ?_
  refine WP.seq ?_
  refine WP.region ?_
  refine RG.pv rfl (PV.field rfl Fo62_0 rfl) ?_
  refine RG.pv rfl (PV.load1 rfl Sc2 rfl (Rd.blk rfl)) ?_
  refine RG.pv rfl (PV.field rfl Fo62_0 rfl) ?_
  refine RG.pv rfl (PV.load1 rfl Sc2 rfl (Rd.blk rfl)) ?_
  refine RG.pv rfl (PV.gtr rfl rfl rfl) ?_
  refine RG.nil ?_
  · refine WP.cond rfl (fun h2 => ?_) (fun h2 => ?_)
    · refine WP.region ?_
      refine RG.pv rfl (PV.loadW rfl Ag62 rfl rfl) ?_
      refine RG.pv rfl (PV.loadW rfl Ag62 rfl rfl) ?_
      refine RG.ot rfl (OT.storeW (vs := [vi _, _]) rfl Sz62 rfl rfl (Cl.c rfl) rfl rfl (OneC.val rfl (OneC.sl (SlF.r hq) OneC.nil)) ?_)
      refine RG.ot rfl (OT.storeW (vs := [vi _, _]) rfl Sz62 rfl rfl (Cl.c rfl) rfl rfl (OneC.val rfl (OneC.sl (SlF.r hp) OneC.nil)) ?_)
      refine RG.nil ?_
      exact ⟨rfl, (q, p), ⟨hq, hp, by rw [jnI_er, h2]; rfl⟩, trivial, ⟨rfl, rfl, rfl, trivial⟩, Cv.p⟩
    · refine WP.skip ?_
      exact ⟨rfl, (p, q), ⟨hp, hq, by rw [jnI_er, h2]; rfl⟩, trivial, ⟨rfl, rfl, rfl, trivial⟩, Cv.p⟩
  rintro pq τ0 ⟨hp', hq', hk⟩
  refine WP.seq ?_
  refine WP.seq ?_
  refine WP.region ?_
  refine RG.pv rfl (PV.field rfl Fo62_0 rfl) ?_
  refine RG.pv rfl (PV.load1 rfl Sc2 rfl (Rd.blk rfl)) ?_
  refine RG.pv rfl (PV.eql rfl rfl rfl) ?_
  refine RG.pv rfl (PV.mvB (.inl rfl) rfl) ?_
  refine RG.gs rfl rfl rfl (fun hp => (PV.field rfl Fo62_0 rfl)) ?_
  refine RG.gs rfl rfl rfl (fun hp => (PV.load1 rfl Sc2 (gs_t hp) (Rd.blk rfl))) ?_
  refine RG.gs rfl rfl rfl (fun hp => (PV.lss rfl (gs_t hp) rfl)) ?_
  refine RG.pv rfl (PV.pickA rfl rfl (fun hq => gs_t (geqT hq)) rfl) ?_
  refine RG.nil ?_
  rw [hk, jnO_er] at k
  refine WP.cond rfl (fun h3 => ?_) (fun h3 => ?_)
  · rw [h3] at k
    simp only [cond_true, er_gd] at k
    refine WP.seq ?_
    refine WP.regionQ (by kernel_rfl) (by kernel_rfl) ?_
    refine RQ.pv rfl (PV.field rfl Fo62_1 rfl) ?_
    refine RQ.pv rfl (PV.load1 rfl Sc45 rfl (Rd.blk rfl)) ?_
    refine RQ.pv rfl (PV.field rfl Fo62_1 rfl) ?_
    refine RQ.pv rfl (PV.load1 rfl Sc45 rfl (Rd.blk rfl)) ?_
    refine RQ.pv rfl (PV.move (v := v) rfl rfl) ?_
    refine RQ.pv rfl (PV.idxS (j := 2) (v := v) rfl Is27 rfl (SlF.r h1) rfl (by omega) (by omega)) ?_
    refine RQ.pv rfl (PV.loadE1 rfl Sc45 rfl rfl (El.r h1 (getG (by omega))) rfl) ?_
    refine RQ.callF (vs := [_, _, _]) rfl rfl En58 rfl (meetIn_s (Rs.up hp') (Rs.up hq') (Rs.up (hd 2 (by omega))) ⟨rfl, rfl, rfl⟩) ?_
    refine RQ.pv rfl (PV.mvB (.inr rfl) rfl) ?_
    refine RQ.nil ?_
    refine WP.ret ?_
    exact ⟨_, _, ResV.one rfl rfl, Cv.p, k⟩
  · rw [h3] at k
    simp only [cond_false, er_gd] at k
    refine WP.skip ?_
    refine WP.seq ?_
    refine WP.regionQ (by kernel_rfl) (by kernel_rfl) ?_
    refine RQ.pv rfl (PV.field rfl Fo62_0 rfl) ?_
    refine RQ.pv rfl (PV.load1 rfl Sc2 rfl (Rd.blk rfl)) ?_
    refine RQ.pv rfl (PV.eql rfl rfl rfl) ?_
    refine RQ.pv rfl (PV.mvB (.inl rfl) rfl) ?_
    refine RQ.gs rfl rfl rfl (fun hp => (PV.field rfl Fo62_0 rfl)) ?_
    refine RQ.gs rfl rfl rfl (fun hp => (PV.load1 rfl Sc2 (gs_t hp) (Rd.blk rfl))) ?_
    refine RQ.gs rfl rfl rfl (fun hp => (PV.eql rfl (gs_t hp) rfl)) ?_
    refine RQ.pv rfl (PV.pickA rfl rfl (fun hq => gs_t (geqT hq)) rfl) ?_
    refine RQ.pv rfl (PV.mvB (.inl rfl) rfl) ?_
    refine RQ.gs rfl rfl rfl (fun hp => (PV.field rfl Fo62_1 rfl)) ?_
    refine RQ.gs rfl rfl rfl (fun hp => (PV.load1 rfl Sc45 (gs_t hp) (Rd.blk rfl))) ?_
    refine RQ.gs rfl rfl rfl (fun hp => (PV.field rfl Fo62_1 rfl)) ?_
    refine RQ.gs rfl rfl rfl (fun hp => (PV.load1 rfl Sc45 (gs_t hp) (Rd.blk rfl))) ?_
    refine RQ.gs rfl rfl rfl (fun hp => (PV.move (v := v) rfl rfl)) ?_
    refine RQ.gs rfl rfl rfl (fun hp => (PV.idxS (j := 4) (v := v) rfl Is27 (gs_t hp) (SlF.r h1) rfl (by first | omega | (simp at hp; omega)) (by first | omega | (simp at hp; omega)))) ?_
    refine RQ.gs rfl rfl rfl (fun hp => (PV.loadE1 rfl Sc45 (gs_t hp) rfl (El.r h1 (getG (by first | omega | (simp at hp; omega)))) rfl)) ?_
    refine RQ.gsC rfl rfl rfl rfl En58 (fun hp => ⟨_, (acons (gs_t hp) (acons (gs_t hp) (acons (gs_t hp) anil))), meetIn_s (Rs.up hp') (Rs.up hq') (Rs.up (hd 4 (by omega))) ⟨rfl, rfl, rfl⟩⟩) ?_
    refine RQ.pv rfl (PV.pickA rfl rfl (fun hq => gs_t (geqT hq)) rfl) ?_
    refine RQ.pv rfl (PV.mvB (.inr rfl) rfl) ?_
    refine RQ.nil ?_
    refine WP.ret ?_
    exact ⟨_, _, ResV.one rfl rfl, Cv.p, k⟩
def nps (zs : List Net) : List (Sl Piece) := zs.map Net.pieces
theorem nps_len (zs : List Net) : (nps zs).length = zs.length := by simp [nps]
theorem nps_gd {zs : List Net} {i : Nat} (h : i < zs.length) : gd (nps zs) i = (gd zs i).pieces := gd_map _ h
theorem nps_append (xs ys : List Net) : nps (xs ++ ys) = nps xs ++ nps ys := by simp [nps]
theorem nps_set (zs : List Net) (i : Nat) (p : Net) : nps (zs.set i p) = (nps zs).set i p.pieces := by simp [nps, List.map_set]
theorem er_set {α : Type} (zs : List (Sl α)) (i : Nat) (s : Sl α) : er (zs.set i s) = (er zs).set i s.xs := by simp [er, List.map_set]
theorem er_append {α : Type} (xs ys : List (Sl α)) : er (xs ++ ys) = er xs ++ er ys := by simp [er]
/-- a net's pieces, out of the bag and written, go back -/
theorem Cv.slotN {e e' : TypeId} {v u : Value} {zs : List Net} {ys : List Piece} {L : List Ch} (i : Nat) (hi : i < zs.length) :
    Cv (osl e pieceT u ys :: osl e' netT v (zs.set i ⟨⟨u, ys⟩⟩) :: bag (((nps zs).map (ownS e pieceT)).set i emp) :: L) (osl e' netT v (zs.set i ⟨⟨u, ys⟩⟩) :: bagS e pieceT (nps (zs.set i ⟨⟨u, ys⟩⟩)) :: L) := by
  have h1 : Cv (osl e pieceT u ys :: osl e' netT v (zs.set i ⟨⟨u, ys⟩⟩) :: bag (((nps zs).map (ownS e pieceT)).set i emp) :: L) (osl e' netT v (zs.set i ⟨⟨u, ys⟩⟩) :: osl e pieceT u ys :: bag (((nps zs).map (ownS e pieceT)).set i emp) :: L) := Cv.swap (A := [osl e pieceT u ys]) (B := [osl e' netT v (zs.set i ⟨⟨u, ys⟩⟩)])
  refine h1.trans ((Cv.cons (Cv.bagS_put i (by rw [nps_len]; exact hi))).trans ?_)
  rw [nps_set]; exact Cv.refl _
/-- a bag in another order -/
theorem sep_perm {A B : List Ch} (h : A.Perm B) : ∀ hp, Sep A hp → Sep B hp := by
  induction h with
  | nil => exact fun _ h => h
  | cons x _ ih => exact fun hp ⟨h1, h2, d, l1, l2, c, s⟩ => ⟨h1, h2, d, l1, l2, c, ih h2 s⟩
  | swap x y l => exact Cv.swap (A := [y]) (B := [x]) (L := l)
  | trans _ _ ih1 ih2 => exact fun hp s => ih2 hp (ih1 hp s)
theorem Cv.bagPerm {α : Type} {e : TypeId} {F : FT α} {xs ys : List (Sl α)} {L : List Ch} (h : xs.Perm ys) : Cv (bagS e F xs :: L) (bagS e F ys :: L) :=
  Cv.imp fun hp s => sep_perm (h.map (ownS e F)) hp s
theorem erPs_pcL {l : List (List Rect)} {ps : List Piece} (h : erPs ps = (pcL l 4).map pcR) : ps.length = (pcL l 4).length ∧ ∀ i, i < ps.length → erP (gd ps i) = pcR (gd (pcL l 4) i) := by
  have hl : ps.length = (pcL l 4).length := by have := congrArg List.length h; rwa [erPs_len, List.length_map] at this
  exact ⟨hl, fun i hi => by rw [← erPs_gd hi, h, gd_map _ (by omega)]⟩
theorem pieces_b {v : Value} {xs : List (Sl Rect)} (h1 : Rs G L slT v xs) (hd : RsE G L rectT xs) (hlay : isLay (er xs) = true) (k : ∀ v' ps, erPs ps = (pcL (er xs) 4).map pcR → ps.length ≤ 25600 → R v' G (osl 62 pieceT v' ps :: bagS 69 rectT (regs ps) :: L)) : CallT Try.prog 34 #[v] G L R :=
  pieces_s h1 hd hlay fun v' ps h => k v' ps h (by have := pcL_len (er xs) 4; have := (erPs_pcL h).1; omega)
theorem set_mid {c : List Int} {n : Nat} {x : Int} (h : c.length < n) : (c ++ List.replicate (n - c.length) 0).set c.length x = c ++ [x] ++ List.replicate (n - (c.length + 1)) 0 := by
  rw [List.set_append_right _ _ (Nat.le_refl _), Nat.sub_self, show n - c.length = (n - (c.length + 1)) + 1 by omega, List.replicate_succ, List.set_cons_zero, List.append_assoc]
  simp
theorem netsOf_s {v : Value} {xs : List (Sl Rect)} (h1 : Rs G L slT v xs) (hd : RsE G L rectT xs) (hlay : isLay (er xs) = true) (k : ∀ v' zs, (er (nps zs)).map erPs = netL (er xs) → R v' G (osl 64 netT v' zs :: bagS 62 pieceT (nps zs) :: bagS 69 rectT (regs (er (nps zs)).flatten) :: L)) : CallT Try.prog 18 #[v] G L R := by
  have h8 : xs.length = 8 := by have := isLay_len hlay; rwa [er_len] at this
  refine CallT.enter (args := _) Try.func18 rfl rfl (by kernel_rfl) rfl ?_
  refine WP.seq ?_
  refine WP.region ?_
  refine RG.pv rfl (PV.asg rfl rfl) ?_
  refine RG.nil ?_
  refine WP.seq ?_
  refine WP.region ?_
  refine RG.pv rfl (PV.move (v := v) rfl rfl) ?_
  refine RG.callF (vs := [v]) rfl rfl En34 rfl (pieces_b (Rs.up h1) hd.up hlay (fun v16 psv16 hev16 hlv16 => ?_))
  refine RG.pv rfl (PV.asg (v := v16) rfl rfl) ?_
  refine RG.nil ?_
  refine WP.seq ?_
  refine WP.region ?_
  refine RG.pv rfl (PV.move (v := v16) rfl rfl) ?_
  refine RG.pv rfl (PV.len (v := v16) rfl Try.underlying56 rfl SlF.o) ?_
  refine RG.ot rfl (OT.make (F := intT) (a0 := 0) rfl El78 rfl (by decide) rfl rfl (by omega) (by omega) fun v19 => ?_)
  refine RG.pv rfl (PV.asg (v := v19) rfl rfl) ?_
  refine RG.nil ?_
  refine WP.seq ?_
  refine WP.seq ?_
  refine WP.region ?_
  refine RG.pv rfl (PV.move (v := v19) rfl rfl) ?_
  refine RG.pv rfl (PV.len (v := v19) rfl Try.underlying78 rfl SlF.o) ?_
  refine RG.pv rfl (PV.mvI (.inl rfl) rfl) ?_
  refine RG.nil ?_
  refine WP.block ?_
  obtain ⟨hpl, hpe⟩ := erPs_pcL hev16
  have hpl2 := pcL_len (er xs) 4
  have hJe : ∀ n i, n < psv16.length → i < psv16.length → jnI (er xs) (erP (gd psv16 n)) (erP (gd psv16 i)) = JL (er xs) n i := fun n i hn hi => by
    rw [hpe n hn, hpe i hi]
    exact jn_eq hlay (pcL_gd_isL (by omega)) (pcL_gd_isL (by omega)) (pcL_gd_len (by omega)) (pcL_gd_len (by omega))
  have hlr : (List.replicate psv16.length (0 : Int)).length = psv16.length := List.length_replicate
  have hcr : ∀ i, i < psv16.length → Rs G (osl 62 pieceT v16 psv16 :: bagS 69 rectT (regs psv16) :: L) rectT (gd psv16 i).reg.v (gd psv16 i).reg.xs := fun i hi => by
    have := Rs.inBag (G := G) (L := osl 62 pieceT v16 psv16 :: bagS 69 rectT (regs psv16) :: L) (e := 69) (F := rectT) (xs := regs psv16) i (by rw [regs_len]; exact hi)
    rwa [regs_gd hi] at this
  refine WP.cv (Cv.eqS (show List.replicate psv16.length 0 = rootsJ (JL (er xs)) 0 ++ List.replicate (psv16.length - 0) 0 from rfl)) ?_
  refine WP.loop1 [0, 3, 4, 21] (fun i => i ≤ psv16.length) (fun i => [(22, vi i)]) (fun i => osl 3 intT v19 (rootsJ (JL (er xs)) i ++ List.replicate (psv16.length - i) 0) :: osl 62 pieceT v16 psv16 :: bagS 69 rectT (regs psv16) :: L) (fun i => psv16.length - i) 0 (by omega) ⟨rfl, trivial⟩ Cv.p ?_
  rintro i τ hi
  refine WP.seq ?_
  refine WP.region ?_
  refine RG.pv rfl (PV.lss rfl rfl rfl) ?_
  refine RG.nil ?_
  refine WP.seq ?_
  have hrl := rootsJ_len (JL (er xs)) i
  have hal : (rootsJ (JL (er xs)) i ++ List.replicate (psv16.length - i) (0 : Int)).length = psv16.length := by simp [hrl]; omega
  refine WP.cond rfl (fun h3 => ?_) (fun h3 => ?_)
  · have h3 := of_decide_eq_true h3
    have h4 : i < psv16.length := by omega
    have hsm := set_mid (c := rootsJ (JL (er xs)) i) (n := psv16.length) (x := (i : Int)) (by omega)
    rw [hrl] at hsm
    refine WP.skip ?_
    refine WP.seq ?_
    refine WP.block ?_
    refine WP.seq ?_
    refine WP.region ?_
    refine RG.pv rfl (PV.mvI (.inl rfl) rfl) ?_
    refine RG.pv rfl (PV.mvI (.inr rfl) rfl) ?_
    refine RG.nil ?_
    refine WP.seq ?_
    refine WP.region ?_
    refine RG.pv rfl (PV.move (v := v19) rfl rfl) ?_
    refine RG.pv rfl (PV.mvI (.inl rfl) rfl) ?_
    refine RG.pv rfl (PV.mvI (.inl rfl) rfl) ?_
    refine RG.pv rfl (PV.idxS (v := v19) rfl Is78 rfl SlF.o rfl rfl (by omega)) ?_
    refine RG.ot rfl (OT.storeE (F := intT) rfl Sz3 rfl rfl rfl (Cl.c rfl) (OneC.c rfl) (by omega) ?_)
    refine RG.nil ?_
    refine WP.seq ?_
    refine WP.region ?_
    refine RG.pv rfl (PV.mvI (.inl rfl) rfl) ?_
    refine RG.pv rfl (PV.mvI (.inl rfl) rfl) ?_
    refine RG.nil ?_
    refine WP.block ?_
    refine WP.cv (Cv.eqS (hsm.trans (by rw [← inJ_zero (JL (er xs))]))) ?_
    refine WP.loop1 [0, 3, 4, 5, 21, 22, 29] (fun n => n ≤ i) (fun n => [(30, vi n)]) (fun n => osl 3 intT v19 (inJ (JL (er xs)) i (rootsJ (JL (er xs)) i) n ++ List.replicate (psv16.length - (i + 1)) 0) :: osl 62 pieceT v16 psv16 :: bagS 69 rectT (regs psv16) :: L) (fun n => i - n) 0 (by omega) ⟨rfl, trivial⟩ Cv.p ?_
    rintro n τ1 hn
    refine WP.seq ?_
    refine WP.region ?_
    refine RG.pv rfl (PV.lss rfl rfl rfl) ?_
    refine RG.nil ?_
    refine WP.seq ?_
    have hil := inJ_len (JL (er xs)) i (rootsJ (JL (er xs)) i) n
    have hil2 : (inJ (JL (er xs)) i (rootsJ (JL (er xs)) i) n).length = i + 1 := by omega
    have hin := fun j hj => inJ_le (J := JL (er xs)) (i := i) (k := n) (j := j) hn hj
    have hsc := inJ_succ (JL (er xs)) i (rootsJ (JL (er xs)) i) n
    generalize hceq : inJ (JL (er xs)) i (rootsJ (JL (er xs)) i) n = c at *
    have hal2 : (c ++ List.replicate (psv16.length - (i + 1)) (0 : Int)).length = psv16.length := by simp [hil2]; omega
    refine WP.cond rfl (fun h5 => ?_) (fun h5 => ?_)
    · have h5 := of_decide_eq_true h5
      have h6 : n < i := by omega
      have hgn : gd (c ++ List.replicate (psv16.length - (i + 1)) (0 : Int)) n = gd c n := gd_app_l (by omega)
      have hgi : gd (c ++ List.replicate (psv16.length - (i + 1)) (0 : Int)) i = gd c i := gd_app_l (by omega)
      have hin1 := hin n (by omega)
      have hin2 := hin i (by omega)
      have hJn := hJe n i (by omega) h4
      refine WP.skip ?_
      refine WP.seq ?_
      refine WP.block ?_
      refine WP.seq ?_
      refine WP.region ?_
      refine RG.pv rfl (PV.mvI (.inl rfl) rfl) ?_
      refine RG.pv rfl (PV.mvI (.inr rfl) rfl) ?_
      refine RG.nil ?_
      refine WP.seq ?_
      refine WP.seq ?_
      refine WP.regionQ (by kernel_rfl) (by kernel_rfl) ?_
      refine RQ.pv rfl (PV.move (v := v19) rfl rfl) ?_
      refine RQ.pv rfl (PV.mvI (.inl rfl) rfl) ?_
      refine RQ.pv rfl (PV.idxS (v := v19) rfl Is78 rfl SlF.o rfl rfl (by omega)) ?_
      refine RQ.pv rfl (PV.loadE1 rfl Sc3 rfl rfl (El.o (getG (by omega))) rfl) ?_
      refine RQ.pv rfl (PV.move (v := v19) rfl rfl) ?_
      refine RQ.pv rfl (PV.mvI (.inl rfl) rfl) ?_
      refine RQ.pv rfl (PV.idxS (v := v19) rfl Is78 rfl SlF.o rfl rfl (by omega)) ?_
      refine RQ.pv rfl (PV.loadE1 rfl Sc3 rfl rfl (El.o (getG (by omega))) rfl) ?_
      refine RQ.pv rfl (PV.eql rfl rfl rfl) ?_
      refine RQ.pv rfl (PV.mvB (.inl rfl) rfl) ?_
      refine RQ.gs rfl rfl rfl (fun hp => (PV.move (v := v) rfl rfl)) ?_
      refine RQ.gs rfl rfl rfl (fun hp => (PV.move (v := v16) rfl rfl)) ?_
      refine RQ.gs rfl rfl rfl (fun hp => (PV.mvI (.inl rfl) rfl)) ?_
      refine RQ.gs rfl rfl rfl (fun hp => (PV.idxS (v := v16) rfl Is56 (gs_t hp) SlF.o (gs_t hp) rfl (by first | omega | (simp at hp; omega)))) ?_
      refine RQ.gs rfl rfl rfl (fun hp => (PV.loadE rfl Ag62 (gs_t hp) rfl (El.o (getG (by first | omega | (simp at hp; omega)))))) ?_
      refine RQ.gs rfl rfl rfl (fun hp => (PV.move (v := v16) rfl rfl)) ?_
      refine RQ.gs rfl rfl rfl (fun hp => (PV.mvI (.inl rfl) rfl)) ?_
      refine RQ.gs rfl rfl rfl (fun hp => (PV.idxS (v := v16) rfl Is56 (gs_t hp) SlF.o (gs_t hp) rfl (by first | omega | (simp at hp; omega)))) ?_
      refine RQ.gs rfl rfl rfl (fun hp => (PV.loadE rfl Ag62 (gs_t hp) rfl (El.o (getG (by first | omega | (simp at hp; omega)))))) ?_
      refine RQ.gsC rfl rfl rfl rfl En35 (fun hp => ⟨_, (acons (gs_t hp) (acons (gs_t hp) (acons (gs_t hp) anil))), joined_s (Rs.up h1) hd.up h8 (hcr n (by omega)).up (hcr i (by omega)).up ⟨rfl, rfl, rfl⟩⟩) ?_
      refine RQ.gs rfl rfl rfl (fun hp => (PV.not rfl (gs_t hp))) ?_
      refine RQ.pv rfl (PV.pickO rfl rfl rfl (fun hq => gs_t (geqF hq))) ?_
      refine RQ.nil ?_
      refine WP.cond rfl (fun h7 => ?_) (fun h7 => ?_)
      · have hs : gd c n = gd c i ∨ JL (er xs) n i = false := by
          rw [hgn, hgi, hJn] at h7; revert h7
          cases JL (er xs) n i <;> simp
        refine WP.exit ?_
        refine WP.region ?_
        refine RG.pv rfl (PV.add rfl rfl rfl (by omega)) ?_
        refine RG.pv rfl (PV.mvI (.inl rfl) rfl) ?_
        refine RG.nil ?_
        exact ⟨rfl, n + 1, (by omega), ⟨rfl, trivial⟩, ⟨rfl, rfl, rfl, rfl, rfl, rfl, rfl, trivial⟩, (Cv.eqS (by rw [hsc, stepJ_same hs])), by omega⟩
      · have hs : ¬ (gd c n = gd c i ∨ JL (er xs) n i = false) := by
          rw [hgn, hgi, hJn] at h7; revert h7
          cases JL (er xs) n i <;> simp
        have hhi0 : max (gd c n) (gd c i) ≠ 0 := by rw [not_or] at hs; omega
        refine WP.skip ?_
        refine WP.seq ?_
        refine WP.regionQ (by kernel_rfl) (by kernel_rfl) ?_
        refine RQ.pv rfl (PV.move (v := v19) rfl rfl) ?_
        refine RQ.pv rfl (PV.mvI (.inl rfl) rfl) ?_
        refine RQ.pv rfl (PV.idxS (v := v19) rfl Is78 rfl SlF.o rfl rfl (by omega)) ?_
        refine RQ.pv rfl (PV.loadE1 rfl Sc3 rfl rfl (El.o (getG (by omega))) rfl) ?_
        refine RQ.pv rfl (PV.move (v := v19) rfl rfl) ?_
        refine RQ.pv rfl (PV.mvI (.inl rfl) rfl) ?_
        refine RQ.pv rfl (PV.idxS (v := v19) rfl Is78 rfl SlF.o rfl rfl (by omega)) ?_
        refine RQ.pv rfl (PV.loadE1 rfl Sc3 rfl rfl (El.o (getG (by omega))) rfl) ?_
        refine RQ.pv rfl (PV.min2 rfl rfl rfl) ?_
        refine RQ.pv rfl (PV.move (v := v19) rfl rfl) ?_
        refine RQ.pv rfl (PV.mvI (.inl rfl) rfl) ?_
        refine RQ.pv rfl (PV.idxS (v := v19) rfl Is78 rfl SlF.o rfl rfl (by omega)) ?_
        refine RQ.pv rfl (PV.loadE1 rfl Sc3 rfl rfl (El.o (getG (by omega))) rfl) ?_
        refine RQ.pv rfl (PV.move (v := v19) rfl rfl) ?_
        refine RQ.pv rfl (PV.mvI (.inl rfl) rfl) ?_
        refine RQ.pv rfl (PV.idxS (v := v19) rfl Is78 rfl SlF.o rfl rfl (by omega)) ?_
        refine RQ.pv rfl (PV.loadE1 rfl Sc3 rfl rfl (El.o (getG (by omega))) rfl) ?_
        refine RQ.pv rfl (PV.max2 rfl rfl rfl) ?_
        refine RQ.pv rfl (PV.mvI (.inr rfl) rfl) ?_
        refine RQ.pv rfl (PV.mvI (.inr rfl) rfl) ?_
        refine RQ.nil ?_
        refine WP.seq ?_
        refine WP.region ?_
        refine RG.pv rfl (PV.mvI (.inl rfl) rfl) ?_
        refine RG.pv rfl (PV.add rfl rfl rfl (by omega)) ?_
        refine RG.pv rfl (PV.mvI (.inl rfl) rfl) ?_
        refine RG.nil ?_
        refine WP.block ?_
        rw [hgn, hgi]
        refine WP.cv (Cv.eqS (mapTo_zero (rl (min (gd c n) (gd c i)) (max (gd c n) (gd c i))) (c ++ List.replicate (psv16.length - (i + 1)) 0)).symm) ?_
        generalize hlo : min (gd c n) (gd c i) = lo at *
        generalize hhi : max (gd c n) (gd c i) = hi2 at *
        refine WP.loop1 [0, 3, 4, 5, 7, 8, 21, 22, 29, 30, 74] (fun m => m ≤ i + 1) (fun m => [(75, vi m)]) (fun m => osl 3 intT v19 (mapTo (rl lo hi2) (c ++ List.replicate (psv16.length - (i + 1)) 0) m) :: osl 62 pieceT v16 psv16 :: bagS 69 rectT (regs psv16) :: L) (fun m => i + 1 - m) 0 (by omega) ⟨rfl, trivial⟩ Cv.p ?_
        rintro m τ2 hm
        refine WP.seq ?_
        refine WP.region ?_
        refine RG.pv rfl (PV.lss rfl rfl rfl) ?_
        refine RG.nil ?_
        refine WP.seq ?_
        have hml := mapTo_len (rl lo hi2) (c ++ List.replicate (psv16.length - (i + 1)) 0) (m := m) (by omega)
        refine WP.cond rfl (fun h8 => ?_) (fun h8 => ?_)
        · have h8 := of_decide_eq_true h8
          have hmg := mapTo_gd (f := rl lo hi2) (d := c ++ List.replicate (psv16.length - (i + 1)) 0) (m := m) (by omega)
          refine WP.skip ?_
          refine WP.seq ?_
          refine WP.block ?_
          refine WP.seq ?_
          refine WP.region ?_
          refine RG.pv rfl (PV.mvI (.inl rfl) rfl) ?_
          refine RG.pv rfl (PV.mvI (.inr rfl) rfl) ?_
          refine RG.nil ?_
          refine WP.seq ?_
          refine WP.region ?_
          refine RG.pv rfl (PV.move (v := v19) rfl rfl) ?_
          refine RG.pv rfl (PV.mvI (.inl rfl) rfl) ?_
          refine RG.pv rfl (PV.idxS (v := v19) rfl Is78 rfl SlF.o rfl rfl (by omega)) ?_
          refine RG.pv rfl (PV.loadE1 rfl Sc3 rfl rfl (El.o (getG (by omega))) rfl) ?_
          refine RG.pv rfl (PV.mvI (.inl rfl) rfl) ?_
          refine RG.pv rfl (PV.eql rfl rfl rfl) ?_
          refine RG.nil ?_
          refine WP.cond rfl (fun h9 => ?_) (fun h9 => ?_)
          · refine WP.region ?_
            refine RG.pv rfl (PV.move (v := v19) rfl rfl) ?_
            refine RG.pv rfl (PV.mvI (.inl rfl) rfl) ?_
            refine RG.pv rfl (PV.mvI (.inl rfl) rfl) ?_
            refine RG.pv rfl (PV.idxS (v := v19) rfl Is78 rfl SlF.o rfl rfl (by omega)) ?_
            refine RG.ot rfl (OT.storeE (F := intT) rfl Sz3 rfl rfl rfl (Cl.c rfl) (OneC.c rfl) (by omega) ?_)
            refine RG.nil ?_
            refine WP.region ?_
            refine RG.pv rfl (PV.add rfl rfl rfl (by omega)) ?_
            refine RG.pv rfl (PV.mvI (.inl rfl) rfl) ?_
            refine RG.nil ?_
            exact ⟨rfl, m + 1, (by omega), ⟨rfl, trivial⟩, ⟨rfl, rfl, rfl, rfl, rfl, rfl, rfl, rfl, rfl, rfl, rfl, trivial⟩, (Cv.eqS (by rw [← mapTo_set (by omega), rl, if_pos (by rw [hmg] at h9; simpa using h9)])), by omega⟩
          · refine WP.skip ?_
            refine WP.region ?_
            refine RG.pv rfl (PV.add rfl rfl rfl (by omega)) ?_
            refine RG.pv rfl (PV.mvI (.inl rfl) rfl) ?_
            refine RG.nil ?_
            exact ⟨rfl, m + 1, (by omega), ⟨rfl, trivial⟩, ⟨rfl, rfl, rfl, rfl, rfl, rfl, rfl, rfl, rfl, rfl, rfl, trivial⟩, (Cv.eqS (by rw [mapTo_skip (by omega)]; rw [rl, if_neg (by rw [hmg] at h9; simpa using h9)])), by omega⟩
        · have h8 := of_decide_eq_false h8
          obtain rfl : m = i + 1 := by omega
          have hma := mapTo_all (f := rl lo hi2) (c := c) (z := List.replicate (psv16.length - (i + 1)) 0)
          rw [hil2] at hma
          refine WP.exit ?_
          refine WP.region ?_
          refine RG.pv rfl (PV.add rfl rfl rfl (by omega)) ?_
          refine RG.pv rfl (PV.mvI (.inl rfl) rfl) ?_
          refine RG.nil ?_
          exact ⟨rfl, n + 1, (by omega), ⟨rfl, trivial⟩, ⟨rfl, rfl, rfl, rfl, rfl, rfl, rfl, trivial⟩, (Cv.eqS (by rw [hma, hsc, stepJ_map hs, hlo, hhi])), by omega⟩
    · have h5 := of_decide_eq_false h5
      obtain rfl : n = i := by omega
      refine WP.exit ?_
      refine WP.region ?_
      refine RG.pv rfl (PV.add rfl rfl rfl (by omega)) ?_
      refine RG.pv rfl (PV.mvI (.inl rfl) rfl) ?_
      refine RG.nil ?_
      exact ⟨rfl, n + 1, (by omega), ⟨rfl, trivial⟩, ⟨rfl, rfl, rfl, rfl, trivial⟩, (Cv.eqS (by rw [rootsJ, hceq])), by omega⟩
  · have h3 := of_decide_eq_false h3
    obtain rfl : i = psv16.length := by omega
    have hcl : rootsJ (JL (er xs)) psv16.length ++ List.replicate (psv16.length - psv16.length) 0 = clsL (er xs) := by rw [Nat.sub_self, List.replicate_zero, List.append_nil, hpl]; rfl
    refine WP.cv (Cv.eqS hcl) ?_
    have hrt := clsL_rt (er xs)
    have hcll := clsL_len (er xs)
    refine WP.exit ?_
    refine WP.cut2 [3, 4] (fun (o pq : Value) => True) (fun (o pq : Value) => [(10, o), (11, pq)]) (fun (o pq : Value) => osl 64 netT o ([] : List Net) :: osl 3 intT pq (List.replicate psv16.length 0) :: osl 3 intT v19 (clsL (er xs)) :: osl 62 pieceT v16 psv16 :: bagS 69 rectT (regs psv16) :: L) ?_ ?_
    refine WP.regionH0 (.q 1 (.q 2 (.b 0 (.q 4 (.l 3 (.q 5 Sch.nil))) 3 (.l 0 (.q 4 (.q 5 Sch.nil)))))) (by kernel_rfl) (by kernel_rfl) (by kernel_rfl) rfl ?_
    refine RH.pv rfl (fun _ _ _ _ h => h) (Gh.le_refl _) PickC.pick rfl (PV.move (v := v16) rfl rfl) ?_
    refine RH.pv rfl (fun _ _ _ _ h => h) (Gh.le_refl _) PickC.pick rfl (PV.len (v := v16) rfl Try.underlying56 rfl SlF.o) ?_
    · refine RH.ot2 rfl rfl rfl rfl  (OT.bslice (F := netT) (els := []) rfl El34 rfl (by decide) rfl (by decide) trivial fun v91 => ⟨Gh.le_refl _, PickC.pick, ?_⟩) (OT.make (F := intT) (a0 := 0) rfl El78 rfl (by decide) rfl rfl (by omega) (by omega) fun v94 => ⟨Gh.le_refl _, PickC.pick, ?_⟩)
      · refine RH.pv rfl (fun _ _ _ _ h => h) (Gh.le_refl _) PickC.pick rfl (PV.asg (v := v91) rfl rfl) ?_
        refine RH.ot rfl rfl (OT.make (F := intT) (a0 := 0) rfl El78 rfl (by decide) rfl rfl (by omega) (by omega) fun v94 => ⟨Gh.le_refl _, PickC.pick, ?_⟩)
        refine RH.pv rfl (fun _ _ _ _ h => h) (Gh.le_refl _) PickC.pick rfl (PV.asg (v := v94) rfl rfl) ?_
        refine RH.nil ?_
        exact ⟨rfl, v91, v94, trivial, ⟨rfl, rfl, trivial⟩, ⟨rfl, rfl, trivial⟩, Cv.p⟩
      · refine RH.ot rfl rfl (OT.bslice (F := netT) (els := []) rfl El34 rfl (by decide) rfl (by decide) trivial fun v91 => ⟨Gh.le_refl _, PickC.pick, ?_⟩)
        refine RH.pv rfl (fun _ _ _ _ h => h) (Gh.le_refl _) PickC.pick rfl (PV.asg (v := v91) rfl rfl) ?_
        refine RH.pv rfl (fun _ _ _ _ h => h) (Gh.le_refl _) PickC.pick rfl (PV.asg (v := v94) rfl rfl) ?_
        refine RH.nil ?_
        exact ⟨rfl, v91, v94, trivial, ⟨rfl, rfl, trivial⟩, ⟨rfl, rfl, trivial⟩, Cv.p⟩
    have hpr : ∀ j, j < 0 → gd (clsL (er xs)) j = (j : Int) → gd (List.replicate psv16.length (0 : Int)) j = (cntR (clsL (er xs)) j : Int) := fun j h => by omega
    rintro o pq τ3 _
    refine WP.seq ?_
    refine WP.seq ?_
    refine WP.region ?_
    refine RG.pv rfl (PV.move (v := v16) rfl rfl) ?_
    refine RG.pv rfl (PV.len (v := v16) rfl Try.underlying56 rfl SlF.o) ?_
    refine RG.pv rfl (PV.mvI (.inl rfl) rfl) ?_
    refine RG.nil ?_
    refine WP.block ?_
    refine WP.cv ((Cv.cons (Cv.bag0 (e := 62) (F := pieceT) (xs := nps []) rfl))) ?_
    refine WP.loop4 [4, 11, 95, 96] (fun (i : Nat) (zs : List Net) (pl : List Int) (q : Value) => i ≤ psv16.length ∧ er (nps zs) = netsP (clsL (er xs)) psv16 i ∧ pl.length = psv16.length ∧ ∀ j, j < i → gd (clsL (er xs)) j = (j : Int) → gd pl j = (cntR (clsL (er xs)) j : Int)) (fun (i : Nat) (zs : List Net) (pl : List Int) (q : Value) => [(97, vi i), (10, q)]) (fun (i : Nat) (zs : List Net) (pl : List Int) (q : Value) => osl 64 netT q zs :: bagS 62 pieceT (nps zs) :: osl 3 intT pq pl :: osl 3 intT v19 (clsL (er xs)) :: osl 62 pieceT v16 psv16 :: bagS 69 rectT (regs psv16) :: L) (fun (i : Nat) (zs : List Net) (pl : List Int) (q : Value) => psv16.length - i) 0 [] (List.replicate psv16.length 0) o ⟨by omega, rfl, hlr, hpr⟩ ⟨rfl, rfl, trivial⟩ Cv.p ?_
    rintro i zs pl q τ4 ⟨hi2, hzs, hpll, hpl3⟩
    refine WP.seq ?_
    refine WP.region ?_
    refine RG.pv rfl (PV.lss rfl rfl rfl) ?_
    refine RG.nil ?_
    refine WP.seq ?_
    have hcl0 := cntR_le (clsL (er xs)) i
    have hzl : zs.length = cntR (clsL (er xs)) i := by have := congrArg List.length hzs; rwa [er_len, nps_len, netsP_len] at this
    refine WP.cond rfl (fun h10 => ?_) (fun h10 => ?_)
    · have h10 := of_decide_eq_true h10
      have h11 : i < psv16.length := by omega
      have h12 : i < (clsL (er xs)).length := by omega
      obtain ⟨g1, g2⟩ := numbers_at h12 hrt
      have hcs := cntR_succ (clsL (er xs)) i
      refine WP.skip ?_
      refine WP.seq ?_
      refine WP.block ?_
      refine WP.seq ?_
      refine WP.region ?_
      refine RG.pv rfl (PV.mvI (.inl rfl) rfl) ?_
      refine RG.pv rfl (PV.idxS (v := v16) rfl Is56 rfl SlF.o rfl rfl (by omega)) ?_
      refine RG.pv rfl (PV.loadE rfl Ag62 rfl rfl (El.o (getG (by omega)))) ?_
      refine RG.ot rfl (OT.alloc rfl Zr62 fun b13 => ?_)
      refine RG.pv rfl (PV.mvI (.inr rfl) rfl) ?_
      refine RG.ot rfl (OT.storeW (vs := [vi _, _]) rfl Sz62 rfl rfl (Cl.c rfl) rfl rfl (OneC.val rfl (OneC.sl (SlF.r (hcr i h11)) OneC.nil)) ?_)
      refine RG.nil ?_
      refine WP.cut3 [4, 11, 12, 13, 95, 96, 97] (fun (zs2 : List Net) (pl2 : List Int) (q2 : Value) => er (nps zs2) = netsE (clsL (er xs)) psv16 i ∧ pl2.length = psv16.length ∧ ∀ j, j < i + 1 → gd (clsL (er xs)) j = (j : Int) → gd pl2 j = (cntR (clsL (er xs)) j : Int)) (fun (zs2 : List Net) (pl2 : List Int) (q2 : Value) => [(10, q2)]) (fun (zs2 : List Net) (pl2 : List Int) (q2 : Value) => osl 64 netT q2 zs2 :: bagS 62 pieceT (nps zs2) :: osl 3 intT pq pl2 :: osl 3 intT v19 (clsL (er xs)) :: osl 62 pieceT v16 psv16 :: bagS 69 rectT (regs psv16) :: blk b13 62 (pieceT.enc (gd psv16 i)) :: L) ?_ ?_
      refine WP.seq ?_
      refine WP.region ?_
      refine RG.pv rfl (PV.move (v := v19) rfl rfl) ?_
      refine RG.pv rfl (PV.mvI (.inl rfl) rfl) ?_
      refine RG.pv rfl (PV.idxS (v := v19) rfl Is78 rfl SlF.o rfl rfl (by omega)) ?_
      refine RG.pv rfl (PV.loadE1 rfl Sc3 rfl rfl (El.o (getG (by omega))) rfl) ?_
      refine RG.pv rfl (PV.mvI (.inl rfl) rfl) ?_
      refine RG.pv rfl (PV.eql rfl rfl rfl) ?_
      refine RG.nil ?_
      · refine WP.cond rfl (fun h13 => ?_) (fun h13 => ?_)
        · have h13 : gd (clsL (er xs)) i = (i : Int) := by simpa using h13
          refine WP.seq ?_
          refine WP.region ?_
          refine RG.pv rfl (PV.move (v := pq) rfl rfl) ?_
          refine RG.pv rfl (PV.mvI (.inl rfl) rfl) ?_
          refine RG.pv rfl (PV.move (v := q) rfl rfl) ?_
          refine RG.pv rfl (PV.len (v := q) rfl Try.underlying34 rfl SlF.o) ?_
          refine RG.pv rfl (PV.idxS (v := pq) rfl Is78 rfl SlF.o rfl rfl (by omega)) ?_
          refine RG.ot rfl (OT.storeE (a := (zs.length : Int)) (F := intT) rfl Sz3 rfl rfl rfl (Cl.c rfl) (OneC.c rfl) (by omega) ?_)
          refine RG.nil ?_
          refine WP.region ?_
          refine RG.pv rfl (PV.move (v := q) rfl rfl) ?_
          refine RG.pv rfl (PV.build (vs := []) (out := [_]) rfl Zr64 Pl64 trivial rfl) ?_
          refine RG.ot rfl (OT.bslice (F := netT) (els := [⟨⟨.slice none 0 0, []⟩⟩]) rfl El34 rfl (by decide) rfl (by decide) ⟨rfl, (Cl.c rfl), trivial⟩ fun v115 => ?_)
          refine RG.ot rfl (OT.append (v := q) (u := v115) (F := netT) rfl El34 rfl (by decide) rfl rfl Rs.o (OneL.one (OneC.c rfl)) rfl (by first | omega | (simp <;> omega)) fun v116 => ?_)
          refine RG.pv rfl (PV.asg (v := v116) rfl rfl) ?_
          refine RG.nil ?_
          refine ⟨rfl, (zs ++ [⟨⟨.slice none 0 0, []⟩⟩]), (pl.set i (zs.length : Int)), v116, ⟨?_, by simpa using hpll, ?_⟩, ⟨rfl, trivial⟩, ⟨rfl, rfl, rfl, rfl, rfl, rfl, rfl, trivial⟩, ((Cv.p (C := osl 64 netT v116 (zs ++ [⟨⟨.slice none 0 0, []⟩⟩]) :: bagS 62 pieceT (nps zs) :: osl 3 intT pq (pl.set i (zs.length : Int)) :: osl 3 intT v19 (clsL (er xs)) :: osl 62 pieceT v16 psv16 :: bagS 69 rectT (regs psv16) :: blk b13 62 (pieceT.enc (gd psv16 i)) :: L)).trans (Cv.cons (Cv.nilS.trans (Cv.grow (by rw [nps_append]; rfl)))))⟩
          · rw [nps_append, er_append, hzs, netsE, if_pos h13]; rfl
          · intro j hj hr
            by_cases c : j = i
            · subst c; simp [gd, hpll, h11, hzl]
            · have := hpl3 j (by omega) hr
              simpa [gd, List.getElem?_set, Ne.symm c] using this
        · have h13 : gd (clsL (er xs)) i ≠ (i : Int) := by simpa using h13
          refine WP.skip ?_
          refine ⟨rfl, zs, pl, q, ⟨by rw [hzs, netsE, if_neg h13], hpll, fun j hj hr => ?_⟩, ⟨rfl, trivial⟩, ⟨rfl, rfl, rfl, rfl, rfl, rfl, rfl, trivial⟩, Cv.p⟩
          by_cases c : j = i
          · subst c; exact absurd hr h13
          · exact hpl3 j (by omega) hr
      rintro zs2 pl2 q2 τ5 ⟨hzs2, hpll2, hpl4⟩
      have hzl2 : zs2.length = cntR (clsL (er xs)) (i + 1) := by have := congrArg List.length hzs2; rwa [er_len, nps_len, netsE_len] at this
      have hnl := numR_lt hrt h12 (Nat.lt_add_one i)
      have hr3 := (hrt i h12).2.2
      have hplg : gd pl2 (gd (clsL (er xs)) i).toNat = (numR (clsL (er xs)) i : Int) := by rw [hpl4 _ (by omega) (by rw [hr3]; omega)]; rfl
      have hme : (gd zs2 (numR (clsL (er xs)) i)).pieces.xs = gd (netsE (clsL (er xs)) psv16 i) (numR (clsL (er xs)) i) := by rw [← hzs2, er_gd, nps_gd (by omega)]
      have hml3 : (gd zs2 (numR (clsL (er xs)) i)).pieces.xs.length ≤ 25600 := by
        rw [hme, netsE_gd hrt h12 hnl, List.length_map]
        have := List.length_filter_le (fun j => decide (numR (clsL (er xs)) j = numR (clsL (er xs)) i)) (List.range i)
        rw [List.length_range] at this; omega
      refine WP.cv ((Cv.cons (Cv.bagS_take (numR (clsL (er xs)) i) (by rw [nps_len]; omega))).trans (Cv.cast (by rw [nps_gd (by omega)]))) ?_
      refine WP.seq ?_
      refine WP.region ?_
      refine RG.pv rfl (PV.move (v := q2) rfl rfl) ?_
      refine RG.pv rfl (PV.move (v := pq) rfl rfl) ?_
      refine RG.pv rfl (PV.move (v := v19) rfl rfl) ?_
      refine RG.pv rfl (PV.mvI (.inl rfl) rfl) ?_
      refine RG.pv rfl (PV.idxS (v := v19) rfl Is78 rfl SlF.o rfl rfl (by omega)) ?_
      refine RG.pv rfl (PV.loadE1 rfl Sc3 rfl rfl (El.o (getG (by omega))) rfl) ?_
      refine RG.pv rfl (PV.idxS (j := (gd (clsL (er xs)) i).toNat) (v := pq) rfl Is78 rfl SlF.o rfl (by omega) (by omega)) ?_
      refine RG.pv rfl (PV.loadE1 rfl Sc3 rfl rfl (El.o (getG (by omega))) rfl) ?_
      refine RG.pv rfl (PV.idxS (j := numR (clsL (er xs)) i) (v := q2) rfl Is34 rfl SlF.o rfl (by omega) (by omega)) ?_
      refine RG.pv rfl (PV.mvP (.inr rfl) rfl) ?_
      refine RG.nil ?_
      refine WP.regionHD [.s q2, .s (gd zs2 (numR (clsL (er xs)) i)).pieces.v] (.q 0 (.q 1 (.q 2 (.q 3 (.q 5 (.b 4 (.l 6 (.l 7 (.q 8 (.q 9 (.l 10 Sch.nil))))) 6 (.l 4 (.l 7 (.q 8 (.q 9 (.l 10 Sch.nil))))))))))) (by kernel_rfl) (by kernel_rfl) (by kernel_rfl) rfl ?_
      refine RH.pv rfl (fun _ _ _ _ h => h) (Gh.le_refl _) PickC.pick rfl (PV.mvP (.inl rfl) rfl) ?_
      refine RH.pv rfl (fun _ _ _ _ h => h) (Gh.le_refl _) PickC.pick rfl (PV.mvP (.inl rfl) rfl) ?_
      refine RH.pv rfl (fun _ _ _ _ h => h) (Gh.le_refl _) PickC.pick rfl (PV.nilc rfl rfl) ?_
      refine RH.pv rfl (fun _ _ _ _ h => h) (Gh.le_refl _) PickC.pick rfl (PV.field rfl Fo64_0 rfl) ?_
      refine RH.pv rfl (fun _ _ _ _ h => h) (Gh.le_refl _) PickC.pick rfl (PV.loadW rfl Ag62 rfl rfl) ?_
      have hfin : er (nps (zs2.set (numR (clsL (er xs)) i) ⟨⟨default, (gd zs2 (numR (clsL (er xs)) i)).pieces.xs ++ [gd psv16 i]⟩⟩)) = netsP (clsL (er xs)) psv16 (i + 1) := by
        rw [nps_set, er_set, hzs2, netsP_succ hrt h12, hme]
      have hfin2 : ∀ w, er (nps (zs2.set (numR (clsL (er xs)) i) ⟨⟨w, (gd zs2 (numR (clsL (er xs)) i)).pieces.xs ++ [gd psv16 i]⟩⟩)) = netsP (clsL (er xs)) psv16 (i + 1) := fun w => by
        rw [← hfin, nps_set, nps_set, er_set, er_set]
      refine RH.ot2 rfl rfl rfl rfl  (OT.pv (PV.loadF (v := q2) (j := 0) rfl Sc56 rfl rfl (El.o (getG (by omega))) rfl) ⟨Gh.le_refl _, PickC.pick, ?_⟩) (OT.bslice (F := pieceT) (els := [⟨(gd psv16 i).layer, (gd psv16 i).reg⟩]) rfl El56 rfl (by decide) rfl (by decide) ⟨rfl, (Cl.c rfl), trivial⟩ fun v132 => ⟨Gh.le_refl _, PickC.pick, ?_⟩)
      · refine RH.ot rfl rfl (OT.bslice (F := pieceT) (els := [⟨(gd psv16 i).layer, (gd psv16 i).reg⟩]) rfl El56 rfl (by decide) rfl (by decide) ⟨rfl, (Cl.c rfl), trivial⟩ fun v132 => ⟨Gh.le_refl _, PickC.pick, ?_⟩)
        refine RH.ot rfl rfl (OT.append (v := (gd zs2 (numR (clsL (er xs)) i)).pieces.v) (u := v132) (F := pieceT) rfl El56 rfl (by decide) rfl rfl Rs.o (OneL.one (OneC.val rfl (OneC.sl (SlF.r (hcr i h11)) OneC.nil))) rfl (by first | omega | (simp <;> omega)) fun v133 => ⟨Gh.le_refl _, PickC.pick, ?_⟩)
        refine RH.pv rfl (fun _ _ _ _ h => h) (Gh.le_refl _) PickC.pick rfl (PV.nilc rfl rfl) ?_
        refine RH.pv rfl (fun _ _ _ _ h => h) (Gh.le_refl _) PickC.pick rfl (PV.field rfl Fo64_0 rfl) ?_
        refine RH.ot rfl rfl (OT.storeF (F := netT) (val := Sl.v) (cv := fun u => [u.v]) (u := ⟨v133, (gd zs2 (numR (clsL (er xs)) i)).pieces.xs ++ [gd psv16 i]⟩) (st := Net.s0) rfl Sz56 rfl rfl rfl (Cl.s (v := v133) SlF.o) rfl (OneC.sl SlF.o OneC.nil) (by exact set_self (by omega)) (by first | omega | (simp; omega)) rfl (fun _ _ => rfl) ⟨Gh.le_refl _, PickC.pick, ?_⟩)
        refine RH.nil ?_
        refine WP.region ?_
        refine RG.pv rfl (PV.add rfl rfl rfl (by first | omega | (simp only [List.length_set]; omega))) ?_
        refine RG.pv rfl (PV.mvI (.inl rfl) rfl) ?_
        refine RG.nil ?_
        exact ⟨rfl, i + 1, (zs2.set (numR (clsL (er xs)) i) ⟨⟨v133, (gd zs2 (numR (clsL (er xs)) i)).pieces.xs ++ [gd psv16 i]⟩⟩), pl2, q2, ⟨by omega, hfin2 _, hpll2, hpl4⟩, ⟨rfl, rfl, trivial⟩, ⟨rfl, rfl, rfl, rfl, trivial⟩, ((Cv.p (C := osl 62 pieceT v133 ((gd zs2 (numR (clsL (er xs)) i)).pieces.xs ++ [gd psv16 i]) :: osl 64 netT q2 (zs2.set (numR (clsL (er xs)) i) ⟨⟨v133, (gd zs2 (numR (clsL (er xs)) i)).pieces.xs ++ [gd psv16 i]⟩⟩) :: bag (((nps zs2).map (ownS 62 pieceT)).set (numR (clsL (er xs)) i) emp) :: osl 3 intT pq pl2 :: osl 3 intT v19 (clsL (er xs)) :: osl 62 pieceT v16 psv16 :: bagS 69 rectT (regs psv16) :: L)).trans (Cv.slotN _ (by omega))), by omega⟩
      · refine RH.ot rfl rfl (OT.pv (PV.loadF (v := q2) (j := 0) rfl Sc56 rfl rfl (El.o (getG (by omega))) rfl) ⟨Gh.le_refl _, PickC.pick, ?_⟩)
        refine RH.ot rfl rfl (OT.append (v := (gd zs2 (numR (clsL (er xs)) i)).pieces.v) (u := v132) (F := pieceT) rfl El56 rfl (by decide) rfl rfl Rs.o (OneL.one (OneC.val rfl (OneC.sl (SlF.r (hcr i h11)) OneC.nil))) rfl (by first | omega | (simp <;> omega)) fun v133 => ⟨Gh.le_refl _, PickC.pick, ?_⟩)
        refine RH.pv rfl (fun _ _ _ _ h => h) (Gh.le_refl _) PickC.pick rfl (PV.nilc rfl rfl) ?_
        refine RH.pv rfl (fun _ _ _ _ h => h) (Gh.le_refl _) PickC.pick rfl (PV.field rfl Fo64_0 rfl) ?_
        refine RH.ot rfl rfl (OT.storeF (F := netT) (val := Sl.v) (cv := fun u => [u.v]) (u := ⟨v133, (gd zs2 (numR (clsL (er xs)) i)).pieces.xs ++ [gd psv16 i]⟩) (st := Net.s0) rfl Sz56 rfl rfl rfl (Cl.s (v := v133) SlF.o) rfl (OneC.sl SlF.o OneC.nil) (by exact set_self (by omega)) (by first | omega | (simp; omega)) rfl (fun _ _ => rfl) ⟨Gh.le_refl _, PickC.pick, ?_⟩)
        refine RH.nil ?_
        refine WP.region ?_
        refine RG.pv rfl (PV.add rfl rfl rfl (by first | omega | (simp only [List.length_set]; omega))) ?_
        refine RG.pv rfl (PV.mvI (.inl rfl) rfl) ?_
        refine RG.nil ?_
        exact ⟨rfl, i + 1, (zs2.set (numR (clsL (er xs)) i) ⟨⟨v133, (gd zs2 (numR (clsL (er xs)) i)).pieces.xs ++ [gd psv16 i]⟩⟩), pl2, q2, ⟨by omega, hfin2 _, hpll2, hpl4⟩, ⟨rfl, rfl, trivial⟩, ⟨rfl, rfl, rfl, rfl, trivial⟩, ((Cv.p (C := osl 62 pieceT v133 ((gd zs2 (numR (clsL (er xs)) i)).pieces.xs ++ [gd psv16 i]) :: osl 64 netT q2 (zs2.set (numR (clsL (er xs)) i) ⟨⟨v133, (gd zs2 (numR (clsL (er xs)) i)).pieces.xs ++ [gd psv16 i]⟩⟩) :: bag (((nps zs2).map (ownS 62 pieceT)).set (numR (clsL (er xs)) i) emp) :: osl 3 intT pq pl2 :: osl 3 intT v19 (clsL (er xs)) :: osl 62 pieceT v16 psv16 :: bagS 69 rectT (regs psv16) :: L)).trans (Cv.slotN _ (by omega))), by omega⟩
    · have h10 := of_decide_eq_false h10
      obtain rfl : i = psv16.length := by omega
      have hpm := netsP_perm hrt psv16 (by omega)
      rw [← hzs] at hpm
      have hfin : (er (nps zs)).map erPs = netL (er xs) := by
        rw [hzs, netL, ← hev16, erPs, ← hpl, netsP_map erP _ _ (Nat.le_refl _)]; rfl
      refine WP.exit ?_
      refine WP.seq ?_
      refine WP.region ?_
      refine RG.pv rfl (PV.move (v := q) rfl rfl) ?_
      refine RG.pv rfl (PV.asg (v := q) rfl rfl) ?_
      refine RG.nil ?_
      refine WP.ret ?_
      exact ⟨_, _, ResV.one rfl rfl, ((Cv.p (C := bagS 69 rectT (regs psv16) :: osl 64 netT q zs :: bagS 62 pieceT (nps zs) :: L)).trans ((Cv.bagPerm (ys := regs (er (nps zs)).flatten) (hpm.symm.map Piece.reg)).trans Cv.p)), k q zs hfin⟩
end Go.Proofs.Ythhjapiggekjbaa
namespace Go.Proofs.Ythhjapiggekjbaa
set_option linter.unusedVariables false
set_option linter.unusedSimpArgs false
open Go
set_option maxRecDepth 20000
set_option linter.unusedSimpArgs false
variable {G : Gh} {L : List Ch} {R : Value → Gh → List Ch → Prop}
noncomputable def netE (l : List (List Rect)) : Int := bif isLay l then (if 24 < netN l then 3 else 0) else 1
noncomputable def netR (l : List (List Rect)) : List (List (Int × List Rect)) := if netE l = 0 then netL l else []
theorem netE_ok {l : List (List Rect)} (h : netE l = 0) : isLay l = true ∧ netN l ≤ 24 := by
  unfold netE at h
  cases hl : isLay l
  · rw [hl] at h; cases h
  · rw [hl] at h
    refine ⟨rfl, ?_⟩
    by_cases c : 24 < netN l
    · simp [c] at h
    · omega
theorem nets_i {v : Value} {xs : List (Sl Rect)} (h1 : Rs G L slT v xs) (hd : RsE G L rectT xs) (k : ∀ v' zs, (er (nps zs)).map erPs = netR (er xs) → R (.tuple #[v', vi (netE (er xs))]) G (osl 64 netT v' zs :: bagS 62 pieceT (nps zs) :: bagS 69 rectT (regs (er (nps zs)).flatten) :: L)) : CallT Try.prog 9 #[v] G L R := by
  refine CallT.enter (args := _) Try.func9 rfl rfl (by kernel_rfl) rfl ?_
  refine WP.seq ?_
  refine WP.region ?_
  refine RG.pv rfl (PV.asg rfl rfl) ?_
  refine RG.pv rfl (PV.mvI (.inr rfl) rfl) ?_
  refine RG.nil ?_
  refine WP.seq ?_
  refine WP.seq ?_
  refine WP.region ?_
  refine RG.pv rfl (PV.move (v := v) rfl rfl) ?_
  refine RG.callF (vs := [v]) rfl rfl En17 rfl (isLayout_s (Rs.up h1) hd.up ?_)
  refine RG.pv rfl (PV.not rfl rfl) ?_
  refine RG.nil ?_
  refine WP.cond rfl (fun h2 => ?_) (fun h2 => ?_)
  · have h3 : isLay (er xs) = false := by simpa using h2
    have e : netE (er xs) = 1 := by rw [netE, h3]; rfl
    have e2 : netR (er xs) = [] := by rw [netR, e]; rfl
    rw [e, e2] at k
    refine WP.seq ?_
    refine WP.region ?_
    refine RG.pv rfl (PV.asg rfl rfl) ?_
    refine RG.pv rfl (PV.mvI (.inr rfl) rfl) ?_
    refine RG.nil ?_
    refine WP.ret ?_
    exact ⟨_, _, ResV.two rfl rfl rfl, (Cv.nilS.trans (Cv.cons ((Cv.bag0 (e := 69) (F := rectT) (xs := regs []) rfl).trans (Cv.bag0 (e := 62) (F := pieceT) (xs := nps []) rfl)))), k _ [] rfl⟩
  · have h3 : isLay (er xs) = true := by simpa using h2
    refine WP.skip ?_
    refine WP.seq ?_
    refine WP.region ?_
    refine RG.pv rfl (PV.move (v := v) rfl rfl) ?_
    refine RG.callF (vs := [v]) rfl rfl En18 rfl (netsOf_s (Rs.up h1) hd.up h3 (fun v9 zsv9 hev9 => ?_))
    refine RG.pv rfl (PV.asg (v := v9) rfl rfl) ?_
    refine RG.nil ?_
    refine WP.seq ?_
    refine WP.seq ?_
    refine WP.region ?_
    refine RG.pv rfl (PV.move (v := v9) rfl rfl) ?_
    refine RG.pv rfl (PV.len (v := v9) rfl Try.underlying34 rfl SlF.o) ?_
    refine RG.pv rfl (PV.gtr rfl rfl rfl) ?_
    refine RG.nil ?_
    have hzl : zsv9.length = netN (er xs) := by
      have := congrArg List.length hev9
      rwa [List.length_map, er_len, nps_len, netL_len] at this
    refine WP.cond rfl (fun h4 => ?_) (fun h4 => ?_)
    · have h4 := of_decide_eq_true h4
      have e : netE (er xs) = 3 := by rw [netE, h3, cond_true, if_pos (by omega)]
      have e2 : netR (er xs) = [] := by rw [netR, e]; rfl
      rw [e, e2] at k
      refine WP.seq ?_
      refine WP.region ?_
      refine RG.pv rfl (PV.asg rfl rfl) ?_
      refine RG.pv rfl (PV.mvI (.inr rfl) rfl) ?_
      refine RG.nil ?_
      refine WP.ret ?_
      exact ⟨_, _, ResV.two rfl rfl rfl, ((Cv.p (C := L)).trans (Cv.nilS.trans (Cv.cons ((Cv.bag0 (e := 69) (F := rectT) (xs := regs []) rfl).trans (Cv.bag0 (e := 62) (F := pieceT) (xs := nps []) rfl))))), k _ [] rfl⟩
    · have h4 := of_decide_eq_false h4
      have e : netE (er xs) = 0 := by rw [netE, h3, cond_true, if_neg (by omega)]
      have e2 : netR (er xs) = netL (er xs) := by rw [netR, e]; rfl
      rw [e, e2] at k
      refine WP.skip ?_
      refine WP.seq ?_
      refine WP.region ?_
      refine RG.pv rfl (PV.move (v := v9) rfl rfl) ?_
      refine RG.pv rfl (PV.asg (v := v9) rfl rfl) ?_
      refine RG.pv rfl (PV.mvI (.inr rfl) rfl) ?_
      refine RG.nil ?_
      refine WP.ret ?_
      exact ⟨_, _, ResV.two rfl rfl rfl, Cv.p, k v9 zsv9 hev9⟩
theorem nps_er (zs : List Net) : (er (nps zs)).map erPs = zs.map fun z => erPs z.pieces.xs := by simp [er, nps, Function.comp_def]
/-- all slices of a bag, by membership -/
theorem Rs.mem {α : Type} {G : Gh} {L L' : List Ch} {e : TypeId} {F : FT α} {xs : List (Sl α)} [hX : ExBg xs L e F L'] {s : Sl α} (h : s ∈ xs) : Rs G L F s.v s.xs := by
  obtain ⟨i, hi, rfl⟩ := List.getElem_of_mem h
  have := Rs.inBag (G := G) (L := L) (L' := L') (e := e) (F := F) (xs := xs) i hi
  rwa [gd_eq hi] at this
theorem RsE.flat {G : Gh} {L L' : List Ch} {e : TypeId} {zs : List Net} [hX : ExBg (regs (er (nps zs)).flatten) L e rectT L'] {i : Nat} (hi : i < zs.length) : RsE G L rectT (regs (gd zs i).pieces.xs) := fun j hj => by
  rw [regs_len] at hj
  rw [regs_gd hj]
  refine Rs.mem (L := L) (L' := L') (e := e) (xs := regs (er (nps zs)).flatten) (List.mem_map_of_mem ?_)
  refine List.mem_flatten.2 ⟨(gd zs i).pieces.xs, ?_, gd_mem hj⟩
  rw [← nps_gd hi, ← er_gd]
  exact gd_mem (by rw [er_len, nps_len]; exact hi)
end Go.Proofs.Ythhjapiggekjbaa
namespace Go.Proofs.Ythhjapiggekjbaa
set_option linter.unusedVariables false
set_option linter.unusedSimpArgs false
open Go
set_option maxRecDepth 20000
set_option linter.unusedSimpArgs false
variable {G : Gh} {L : List Ch} {R : Value → Gh → List Ch → Prop}
def andV (k : IntKind) (a b : Int) : Int := k.wrap (BitVec.ofInt k.bits a &&& BitVec.ofInt k.bits b).toNat
theorem PV.andW {P : Program} {o : Oper} {σ : Nat → Value} {G : Gh} {L : List Ch} {T T' : TypeId} {x y : Operand} {k : IntKind} {a b : Int} (ho : o.op = .binOp .and T x y T') (hx : ev σ x = .int k a) (hy : ev σ y = .int k b) : PV P o σ G L (.int k (andV k a b)) := by
  intro w _
  simp [execOp, ho, hx, hy, eqGuard, binOp, Op.intBits, andV]
theorem andV_bd (a : Int) : 0 ≤ andV .u64 a 16777215 ∧ andV .u64 a 16777215 ≤ 16777215 := by
  have h : (BitVec.ofInt 64 a &&& BitVec.ofInt 64 16777215).toNat ≤ 16777215 := by
    rw [BitVec.toNat_and]
    have e : (BitVec.ofInt 64 16777215).toNat = 16777215 := by decide
    rw [e]; exact Nat.and_le_right
  have e : andV .u64 a 16777215 = ((BitVec.ofInt 64 a &&& BitVec.ofInt 64 16777215).toNat : Int) := by
    show IntKind.u64.wrap _ = _
    exact u64w ⟨by omega, by
      have : ((BitVec.ofInt 64 a &&& BitVec.ofInt 64 16777215).toNat : Int) ≤ 16777215 := by omega
      exact Int.le_trans this (by decide)⟩
  rw [e]; omega
theorem andI (a : Int) : -9223372036854775808 ≤ andV .u64 a 16777215 ∧ andV .u64 a 16777215 ≤ 9223372036854775807 := by
  have := andV_bd a; omega
/-- the dice in block b over the code cv -/
def dice (b : Nat) (cv : Value) : Ch := fun h => ∃ p : Int × Int, 0 ≤ p.1 ∧ blk b 41 [cv, vi p.1, .int .u64 p.2] h
theorem Cv.dice {b : Nat} {cv : Value} {x y : Int} {L : List Ch} (h : 0 ≤ x) : Cv (blk b 41 [cv, vi x, .int .u64 y] :: L) (dice b cv :: L) := Cv.imp fun _ hc => ⟨(x, y), h, hc⟩
theorem below_s {b : Nat} {n : Int} {cv : Value} {bs : List UInt8} (hcode : SL G byteT cv bs) (hn : 0 < n ∧ n ≤ 1000000) (k : ∀ r, 0 ≤ r ∧ r < n → R (vi r) G (dice b cv :: L)) : CallT Try.prog 16 #[.pointer (some ⟨b, 0, none⟩), vi n] G (dice b cv :: L) R := by
  refine CallT.exi fun ⟨x, y⟩ hx => ?_
  have hbl := hcode.bound
  have hx : 0 ≤ x := hx
  change CallT _ _ _ G (blk b 41 [cv, vi x, .int .u64 y] :: L) R
  refine CallT.enter (args := _) Try.func16 rfl rfl (by kernel_rfl) rfl ?_
  refine WP.seq ?_
  refine WP.region ?_
  refine RG.pv rfl (PV.mvI (.inr rfl) rfl) ?_
  refine RG.nil ?_
  refine WP.seq ?_
  refine WP.region ?_
  refine RG.pv rfl (PV.mvP (.inl rfl) rfl) ?_
  refine RG.pv rfl (PV.mvP (.inl rfl) rfl) ?_
  refine RG.pv rfl (PV.nilc rfl rfl) ?_
  refine RG.pv rfl (PV.field rfl Fo41_2 rfl) ?_
  refine RG.pv rfl (PV.load1 rfl Sc26 rfl (Rd.blk rfl)) ?_
  refine RG.pv rfl (PV.mulW rfl rfl rfl) ?_
  refine RG.pv rfl (PV.addW rfl rfl rfl) ?_
  refine RG.pv rfl (PV.nilc rfl rfl) ?_
  refine RG.pv rfl (PV.field rfl Fo41_2 rfl) ?_
  refine RG.ot rfl (OT.storeB (vs := [.int .u64 _]) (cs' := [_, _, _]) rfl Sz26 rfl rfl (Cl.c rfl) rfl (OneC.c rfl) rfl rfl ?_)
  refine RG.nil ?_
  refine WP.seq ?_
  refine WP.region ?_
  refine RG.pv rfl (PV.mvP (.inl rfl) rfl) ?_
  refine RG.pv rfl (PV.nilc rfl rfl) ?_
  refine RG.pv rfl (PV.field rfl Fo41_2 rfl) ?_
  refine RG.pv rfl (PV.load1 rfl Sc26 rfl (Rd.blk rfl)) ?_
  refine RG.pv rfl (PV.shr rfl rfl rfl (by decide) (by decide)) ?_
  refine RG.pv rfl (PV.andW rfl rfl rfl) ?_
  refine RG.pv rfl (PV.conv rfl ⟨_, Try.underlying26⟩ Try.underlying2 rfl (i64w (by first | exact andI _ | omega))) ?_
  refine RG.pv rfl (PV.mvI (.inr rfl) rfl) ?_
  refine RG.nil ?_
  refine WP.seq ?_
  refine WP.seq ?_
  refine WP.regionQ (by kernel_rfl) (by kernel_rfl) ?_
  refine RQ.pv rfl (PV.mvP (.inl rfl) rfl) ?_
  refine RQ.pv rfl (PV.nilc rfl rfl) ?_
  refine RQ.pv rfl (PV.field rfl Fo41_1 rfl) ?_
  refine RQ.pv rfl (PV.load1 rfl Sc3 rfl (Rd.blk rfl)) ?_
  refine RQ.pv rfl (PV.mvP (.inl rfl) rfl) ?_
  refine RQ.pv rfl (PV.nilc rfl rfl) ?_
  refine RQ.pv rfl (PV.field rfl Fo41_0 rfl) ?_
  refine RQ.pv rfl (PV.load1 rfl Sc22 rfl (Rd.blk rfl)) ?_
  refine RQ.pv rfl (PV.len rfl Try.underlying22 rfl (SlF.r (Rs.g (L := []) hcode))) ?_
  refine RQ.pv rfl (PV.lss rfl rfl rfl) ?_
  refine RQ.nil ?_
  have hq := andV_bd (IntKind.u64.wrap (IntKind.u64.wrap (y * 6364136223846793005) + 1442695040888963407) / 2 ^ (33 : Int).toNat)
  refine WP.cond rfl (fun h1 => ?_) (fun h1 => ?_)
  · have h1 := of_decide_eq_true h1
    have hc := (gd bs x.toNat).toNat_lt
    refine WP.seq ?_
    refine WP.regionQ (by kernel_rfl) (by kernel_rfl) ?_
    refine RQ.pv rfl (PV.mvI (.inl rfl) rfl) ?_
    refine RQ.pv rfl (PV.mvP (.inl rfl) rfl) ?_
    refine RQ.pv rfl (PV.nilc rfl rfl) ?_
    refine RQ.pv rfl (PV.field rfl Fo41_0 rfl) ?_
    refine RQ.pv rfl (PV.load1 rfl Sc22 rfl (Rd.blk rfl)) ?_
    refine RQ.pv rfl (PV.mvP (.inl rfl) rfl) ?_
    refine RQ.pv rfl (PV.nilc rfl rfl) ?_
    refine RQ.pv rfl (PV.field rfl Fo41_1 rfl) ?_
    refine RQ.pv rfl (PV.load1 rfl Sc3 rfl (Rd.blk rfl)) ?_
    refine RQ.pv rfl (PV.idxS (j := x.toNat) rfl Is22 rfl (SlF.r (Rs.g (L := []) hcode)) rfl (by omega) (by omega)) ?_
    refine RQ.pv rfl (PV.loadE1 rfl Sc5 rfl rfl (El.r (Rs.g (L := []) hcode) (getG (by omega))) rfl) ?_
    refine RQ.pv rfl (PV.conv rfl ⟨_, Try.underlying5⟩ Try.underlying2 rfl (u8i _)) ?_
    refine RQ.pv rfl (PV.add rfl rfl rfl (by first | omega | exact u8add (by omega))) ?_
    refine RQ.pv rfl (PV.mvI (.inr rfl) rfl) ?_
    refine RQ.nil ?_
    refine WP.region ?_
    refine RG.pv rfl (PV.mvP (.inl rfl) rfl) ?_
    refine RG.pv rfl (PV.mvP (.inl rfl) rfl) ?_
    refine RG.pv rfl (PV.nilc rfl rfl) ?_
    refine RG.pv rfl (PV.field rfl Fo41_1 rfl) ?_
    refine RG.pv rfl (PV.load1 rfl Sc3 rfl (Rd.blk rfl)) ?_
    refine RG.pv rfl (PV.add rfl rfl rfl (by first | omega | exact u8add (by omega))) ?_
    refine RG.pv rfl (PV.nilc rfl rfl) ?_
    refine RG.pv rfl (PV.field rfl Fo41_1 rfl) ?_
    refine RG.ot rfl (OT.storeB (vs := [vi _]) (cs' := [_, _, _]) rfl Sz3 rfl rfl (Cl.c rfl) rfl (OneC.c rfl) rfl rfl ?_)
    refine RG.nil ?_
    refine WP.seq ?_
    refine WP.region ?_
    refine RG.pv rfl (PV.mvI (.inl rfl) rfl) ?_
    refine RG.pv rfl (PV.mvI (.inl rfl) rfl) ?_
    refine RG.pv rfl (PV.rem rfl rfl rfl (by omega) (by omega) (by omega)) ?_
    refine RG.pv rfl (PV.mvI (.inr rfl) rfl) ?_
    refine RG.nil ?_
    refine WP.ret ?_
    exact ⟨_, _, ResV.one rfl rfl, (Cv.dice (by omega)), k _ ⟨Int.emod_nonneg _ (by omega), Int.emod_lt_of_pos _ (by omega)⟩⟩
  · refine WP.skip ?_
    refine WP.seq ?_
    refine WP.region ?_
    refine RG.pv rfl (PV.mvI (.inl rfl) rfl) ?_
    refine RG.pv rfl (PV.mvI (.inl rfl) rfl) ?_
    refine RG.pv rfl (PV.rem rfl rfl rfl (by omega) (by omega) (by omega)) ?_
    refine RG.pv rfl (PV.mvI (.inr rfl) rfl) ?_
    refine RG.nil ?_
    refine WP.ret ?_
    exact ⟨_, _, ResV.one rfl rfl, (Cv.dice (by omega)), k _ ⟨Int.emod_nonneg _ (by omega), Int.emod_lt_of_pos _ (by omega)⟩⟩
theorem roll_s {s : Int} {cv : Value} {bs : List UInt8} (hcode : SL G byteT cv bs) (k : ∀ b, R (.pointer (some ⟨b, 0, none⟩)) G (dice b cv :: L)) : CallT Try.prog 5 #[cv, .int .u64 s] G L R := by
  have hbl := hcode.bound
  refine CallT.enter (args := _) Try.func5 rfl rfl (by kernel_rfl) rfl ?_
  refine WP.seq ?_
  refine WP.region ?_
  refine RG.pv rfl (PV.asg rfl rfl) ?_
  refine RG.nil ?_
  refine WP.seq ?_
  refine WP.region ?_
  refine RG.pv rfl (PV.move (v := cv) rfl rfl) ?_
  refine RG.pv rfl (PV.mvI (.inl rfl) rfl) ?_
  refine RG.pv rfl (PV.mulW rfl rfl rfl) ?_
  refine RG.pv rfl (PV.move (v := cv) rfl rfl) ?_
  refine RG.pv rfl (PV.len (v := cv) rfl Try.underlying22 rfl (SlF.r (Rs.g (L := []) hcode))) ?_
  refine RG.pv rfl (PV.conv rfl ⟨_, Try.underlying3⟩ Try.underlying26 rfl rfl) ?_
  refine RG.pv rfl (PV.addW rfl rfl rfl) ?_
  refine RG.pv rfl (PV.build (vs := [(0, [cv]), (2, [.int .u64 _])]) (out := [_, _, _]) rfl Zr41 Pl41 ⟨rfl, (Cl.s (SlF.r (Rs.g (L := []) hcode))), ⟨rfl, (Cl.c rfl), trivial⟩⟩ rfl) ?_
  refine RG.ot rfl (OT.box (cs := [cv, vi 0, _]) rfl rfl rfl fun b15 => ?_)
  refine RG.pv rfl (PV.mvP (.inr rfl) rfl) ?_
  refine RG.nil ?_
  refine WP.seq ?_
  refine WP.seq ?_
  refine WP.region ?_
  refine RG.pv rfl (PV.mvI (.inr rfl) rfl) ?_
  refine RG.nil ?_
  refine WP.block ?_
  refine WP.loop2 [0, 5] (fun (i : Nat) (y : Int) => i ≤ bs.length) (fun (i : Nat) (y : Int) => [(6, vi i)]) (fun (i : Nat) (y : Int) => blk b15 41 [cv, vi 0, .int .u64 y] :: L) (fun (i : Nat) (y : Int) => bs.length - i) 0 (IntKind.u64.wrap (IntKind.u64.wrap (s * 7919) + IntKind.u64.wrap (bs.length : Int))) (by omega) ⟨rfl, trivial⟩ Cv.p ?_
  rintro i y τ hi
  refine WP.seq ?_
  refine WP.seq ?_
  refine WP.region ?_
  refine RG.pv rfl (PV.mvI (.inl rfl) rfl) ?_
  refine RG.pv rfl (PV.move (v := cv) rfl rfl) ?_
  refine RG.pv rfl (PV.len (v := cv) rfl Try.underlying22 rfl (SlF.r (Rs.g (L := []) hcode))) ?_
  refine RG.pv rfl (PV.lss rfl rfl rfl) ?_
  refine RG.nil ?_
  refine WP.cond rfl (fun h2 => ?_) (fun h2 => ?_)
  · have h2 := of_decide_eq_true h2
    refine WP.skip ?_
    refine WP.seq ?_
    refine WP.block ?_
    refine WP.regionHD [.b b15] (.q 0 (.q 1 (.q 2 (.q 3 (.q 6 (.q 7 (.q 8 (.q 9 (.q 10 (.l 4 (.q 5 (.q 11 (.q 12 (.q 13 (.q 14 (.l 15 Sch.nil)))))))))))))))) (by kernel_rfl) (by kernel_rfl) (by kernel_rfl) rfl ?_
    refine RH.pv rfl (fun _ _ _ _ h => h) (Gh.le_refl _) PickC.pick rfl (PV.mvP (.inl rfl) rfl) ?_
    refine RH.pv rfl (fun _ _ _ _ h => h) (Gh.le_refl _) PickC.pick rfl (PV.mvP (.inl rfl) rfl) ?_
    refine RH.pv rfl (fun _ _ _ _ h => h) (Gh.le_refl _) PickC.pick rfl (PV.nilc rfl rfl) ?_
    refine RH.pv rfl (fun _ _ _ _ h => h) (Gh.le_refl _) PickC.pick rfl (PV.field rfl Fo41_2 rfl) ?_
    refine RH.pv rfl (fun _ _ _ _ h => h) (Gh.le_refl _) PickC.pick rfl (PV.move (v := cv) rfl rfl) ?_
    refine RH.pv rfl (fun _ _ _ _ h => h) (Gh.le_refl _) PickC.pick rfl (PV.mvI (.inl rfl) rfl) ?_
    refine RH.pv rfl (fun _ _ _ _ h => h) (Gh.le_refl _) PickC.pick rfl (PV.idxS (v := cv) rfl Is22 rfl (SlF.r (Rs.g (L := []) hcode)) rfl rfl (by omega)) ?_
    refine RH.pv rfl (fun _ _ _ _ h => h) (Gh.le_refl _) PickC.pick rfl (PV.loadE1 rfl Sc5 rfl rfl (El.r (Rs.g (L := []) hcode) (getG (by omega))) rfl) ?_
    refine RH.pv rfl (fun _ _ _ _ h => h) (Gh.le_refl _) PickC.pick rfl (PV.conv rfl ⟨_, Try.underlying5⟩ Try.underlying26 rfl rfl) ?_
    refine RH.ot rfl rfl (OT.pv (PV.load1 rfl Sc26 rfl (Rd.blk rfl)) ⟨Gh.le_refl _, PickC.pick, ?_⟩)
    refine RH.pv rfl (fun _ _ _ _ h => h) (Gh.le_refl _) PickC.pick rfl (PV.mulW rfl rfl rfl) ?_
    refine RH.pv rfl (fun _ _ _ _ h => h) (Gh.le_refl _) PickC.pick rfl (PV.addW rfl rfl rfl) ?_
    refine RH.pv rfl (fun _ _ _ _ h => h) (Gh.le_refl _) PickC.pick rfl (PV.addW rfl rfl rfl) ?_
    refine RH.pv rfl (fun _ _ _ _ h => h) (Gh.le_refl _) PickC.pick rfl (PV.nilc rfl rfl) ?_
    refine RH.pv rfl (fun _ _ _ _ h => h) (Gh.le_refl _) PickC.pick rfl (PV.field rfl Fo41_2 rfl) ?_
    refine RH.ot rfl rfl (OT.storeB (vs := [.int .u64 _]) (cs' := [_, _, _]) rfl Sz26 rfl rfl (Cl.c rfl) rfl (OneC.c rfl) rfl rfl ⟨Gh.le_refl _, PickC.pick, ?_⟩)
    refine RH.nil ?_
    refine WP.region ?_
    refine RG.pv rfl (PV.mvI (.inl rfl) rfl) ?_
    refine RG.pv rfl (PV.add rfl rfl rfl (by omega)) ?_
    refine RG.pv rfl (PV.mvI (.inr rfl) rfl) ?_
    refine RG.nil ?_
    exact ⟨rfl, i + 1, (IntKind.u64.wrap (IntKind.u64.wrap (IntKind.u64.wrap (y * 1099511628211) + IntKind.u64.wrap ((gd bs i).toNat : Int)) + 3)), (by omega), ⟨rfl, trivial⟩, ⟨rfl, rfl, trivial⟩, Cv.p, by omega⟩
  · refine WP.exit ?_
    refine WP.seq ?_
    refine WP.region ?_
    refine RG.pv rfl (PV.mvP (.inl rfl) rfl) ?_
    refine RG.pv rfl (PV.mvP (.inr rfl) rfl) ?_
    refine RG.nil ?_
    refine WP.ret ?_
    exact ⟨_, _, ResV.one rfl rfl, (Cv.dice (by omega)), k b15⟩
end Go.Proofs.Ythhjapiggekjbaa
namespace Go.Proofs.Ythhjapiggekjbaa
set_option linter.unusedVariables false
set_option linter.unusedSimpArgs false
open Go
set_option maxRecDepth 20000
set_option linter.unusedSimpArgs false
variable {G : Gh} {L : List Ch} {R : Value → Gh → List Ch → Prop}
theorem drawn_hd {e e' : TypeId} {v0 : Value} {xs ys : List (Sl Rect)} (h : ∀ s ∈ xs, s ∈ ys) : RsE G [osl e' slT v0 ys, bagS e rectT ys] rectT xs := fun _ hi => Rs.memB (h _ (gd_mem hi))
end Go.Proofs.Ythhjapiggekjbaa
namespace Go.Proofs.Ythhjapiggekjbaa
set_option linter.unusedVariables false
set_option linter.unusedSimpArgs false
def rot : Nat → Pt → Pt
  | 0, p => p
  | n + 1, p => rot n ⟨-p.y, p.x⟩
def flip (o : Int) (p : Pt) : Pt := if 4 ≤ o then ⟨p.x, -p.y⟩ else p
def turnP (o : Int) (p : Pt) : Pt := rot (o % 4).toNat (flip o p)
def InB (b : Int) (p : Pt) : Prop := -b ≤ p.x ∧ p.x ≤ b ∧ -b ≤ p.y ∧ p.y ≤ b
theorem rot_in {b : Int} : ∀ (n : Nat) {p : Pt}, InB b p → InB b (rot n p)
  | 0, _, h => h
  | n + 1, p, h => rot_in n (by obtain ⟨h1, h2, h3, h4⟩ := h; exact ⟨by simp only; omega, by simp only; omega, h1, h2⟩)
theorem flip_in {b o : Int} {p : Pt} (h : InB b p) : InB b (flip o p) := by
  unfold flip; split
  · obtain ⟨h1, h2, h3, h4⟩ := h; exact ⟨h1, h2, by simp only; omega, by simp only; omega⟩
  · exact h
theorem turnP_in {b o : Int} {p : Pt} (h : InB b p) : InB b (turnP o p) := rot_in _ (flip_in h)
def moveP (t : Trans) (p : Pt) : Pt := ⟨(turnP t.o p).x + t.x, (turnP t.o p).y + t.y⟩
def moveR (t : Trans) (r : Rect) : Rect :=
  ⟨min (moveP t ⟨r.x0, r.y0⟩).x (moveP t ⟨r.x1, r.y1⟩).x, min (moveP t ⟨r.x0, r.y0⟩).y (moveP t ⟨r.x1, r.y1⟩).y, max (moveP t ⟨r.x0, r.y0⟩).x (moveP t ⟨r.x1, r.y1⟩).x, max (moveP t ⟨r.x0, r.y0⟩).y (moveP t ⟨r.x1, r.y1⟩).y⟩
/-- at most this far out -/
def RIn (b : Int) (r : Rect) : Prop := -b ≤ r.x0 ∧ r.x0 < r.x1 ∧ r.x1 ≤ b ∧ -b ≤ r.y0 ∧ r.y0 < r.y1 ∧ r.y1 ≤ b
end Go.Proofs.Ythhjapiggekjbaa
namespace Go.Proofs.Ythhjapiggekjbaa
set_option linter.unusedVariables false
set_option linter.unusedSimpArgs false
open Go
set_option maxRecDepth 20000
set_option linter.unusedSimpArgs false
variable {G : Gh} {L : List Ch} {R : Value → Gh → List Ch → Prop}
theorem turn_r {o : Int} {p : Pt} (ho : 0 ≤ o ∧ o ≤ 7) (hp : InB 1000 p) (k : R (vpt (turnP o p)) G L) : CallT Try.prog 73 #[vi o, vpt p] G L R := by
  have hf : InB 1000 (flip o p) := flip_in hp
  obtain ⟨hp1, hp2, hp3, hp4⟩ := hp
  refine CallT.enter (args := _) Try.func73 rfl rfl (by kernel_rfl) rfl ?_
  refine WP.seq ?_
  refine WP.region ?_
  refine RG.ot rfl (OT.box (cs := ptT.enc p) rfl rfl rfl fun b3 => ?_)
  refine RG.ot rfl (OT.alloc rfl Zr106 fun b4 => ?_)
  refine RG.nil ?_
  refine WP.seq ?_
  refine WP.regionQ (by kernel_rfl) (by kernel_rfl) ?_
  refine RQ.pv rfl (PV.field rfl Fo106_0 rfl) ?_
  refine RQ.pv rfl (PV.load1 rfl Sc2 rfl (Rd.blk rfl)) ?_
  refine RQ.pv rfl (PV.field rfl Fo106_1 rfl) ?_
  refine RQ.pv rfl (PV.load1 rfl Sc2 rfl (Rd.blk rfl)) ?_
  refine RQ.pv rfl (PV.mvI (.inr rfl) rfl) ?_
  refine RQ.pv rfl (PV.mvI (.inr rfl) rfl) ?_
  refine RQ.nil ?_
  refine WP.cut1 [0, 4] (fun (q : Pt) => q = flip o p) (fun (q : Pt) => [(5, vi q.x), (6, vi q.y)]) (fun (q : Pt) => blk b4 106 [vi 0, vi 0] :: L) ?_ ?_
  refine WP.seq ?_
  refine WP.region ?_
  refine RG.pv rfl (PV.mvI (.inl rfl) rfl) ?_
  refine RG.pv rfl (PV.geq rfl rfl rfl) ?_
  refine RG.nil ?_
  refine WP.cond rfl (fun h1 => ?_) (fun h1 => ?_)
  · have h1 := of_decide_eq_true h1
    refine WP.region ?_
    refine RG.pv rfl (PV.mvI (.inl rfl) rfl) ?_
    refine RG.pv rfl (PV.neg rfl rfl (by omega)) ?_
    refine RG.pv rfl (PV.mvI (.inr rfl) rfl) ?_
    refine RG.nil ?_
    exact ⟨rfl, (⟨p.x, -p.y⟩ : Pt), (by rw [flip, if_pos (by omega)]), ⟨rfl, rfl, trivial⟩, ⟨rfl, rfl, trivial⟩, Cv.p⟩
  · have h1 := of_decide_eq_false h1
    refine WP.skip ?_
    exact ⟨rfl, p, (by rw [flip, if_neg (by omega)]), ⟨rfl, rfl, trivial⟩, ⟨rfl, rfl, trivial⟩, Cv.p⟩
  rintro q τ1 hq
  refine WP.seq ?_
  refine WP.seq ?_
  refine WP.region ?_
  refine RG.pv rfl (PV.mvI (.inl rfl) rfl) ?_
  refine RG.pv rfl (PV.rem rfl rfl rfl (by omega) (by omega) (by omega)) ?_
  refine RG.pv rfl (PV.mvI (.inr rfl) rfl) ?_
  refine RG.nil ?_
  refine WP.block ?_
  subst hq
  refine WP.loop2 [4] (fun (n : Int) (q : Pt) => (0 ≤ n ∧ n < 4) ∧ rot n.toNat q = turnP o p ∧ InB 1000 q) (fun (n : Int) (q : Pt) => [(7, vi n), (5, vi q.x), (6, vi q.y)]) (fun (n : Int) (q : Pt) => blk b4 106 [vi 0, vi 0] :: L) (fun (n : Int) (q : Pt) => n.toNat) (o % 4) (flip o p) ⟨by omega, rfl, hf⟩ ⟨rfl, rfl, rfl, trivial⟩ Cv.p ?_
  rintro n q τ ⟨hn, hr, hi1, hi2, hi3, hi4⟩
  refine WP.seq ?_
  refine WP.seq ?_
  refine WP.region ?_
  refine RG.pv rfl (PV.mvI (.inl rfl) rfl) ?_
  refine RG.pv rfl (PV.gtr rfl rfl rfl) ?_
  refine RG.nil ?_
  refine WP.cond rfl (fun h2 => ?_) (fun h2 => ?_)
  · have h2 := of_decide_eq_true h2
    refine WP.skip ?_
    refine WP.seq ?_
    refine WP.block ?_
    refine WP.region ?_
    refine RG.pv rfl (PV.mvI (.inl rfl) rfl) ?_
    refine RG.pv rfl (PV.neg rfl rfl (by omega)) ?_
    refine RG.pv rfl (PV.mvI (.inl rfl) rfl) ?_
    refine RG.pv rfl (PV.mvI (.inr rfl) rfl) ?_
    refine RG.pv rfl (PV.mvI (.inr rfl) rfl) ?_
    refine RG.nil ?_
    refine WP.region ?_
    refine RG.pv rfl (PV.mvI (.inl rfl) rfl) ?_
    refine RG.pv rfl (PV.sub rfl rfl rfl (by omega)) ?_
    refine RG.pv rfl (PV.mvI (.inr rfl) rfl) ?_
    refine RG.nil ?_
    refine ⟨rfl, n - 1, ⟨-q.y, q.x⟩, ⟨by omega, ?_, by simp only; omega, by simp only; omega, hi1, hi2⟩, ⟨rfl, rfl, rfl, trivial⟩, ⟨rfl, trivial⟩, Cv.p, by omega⟩
    rw [← hr, show n.toNat = (n - 1).toNat + 1 by omega]; rfl
  · have h2 := of_decide_eq_false h2
    have e : turnP o p = q := by rw [← hr, show n.toNat = 0 by omega]; rfl
    rw [e] at k
    refine WP.exit ?_
    refine WP.seq ?_
    refine WP.region ?_
    refine RG.pv rfl (PV.mvI (.inl rfl) rfl) ?_
    refine RG.pv rfl (PV.mvI (.inl rfl) rfl) ?_
    refine RG.pv rfl (PV.build (vs := [(0, [vi _]), (1, [vi _])]) (out := [_, _]) rfl Zr106 Pl106 ⟨rfl, (Cl.c rfl), ⟨rfl, (Cl.c rfl), trivial⟩⟩ rfl) ?_
    refine RG.ot rfl (OT.storeW (vs := [vi _, vi _]) rfl Sz106 rfl rfl (Cl.c rfl) rfl rfl (OneC.c rfl) ?_)
    refine RG.nil ?_
    refine WP.ret ?_
    exact ⟨_, _, ResV.one rfl (RV1.cell rfl Ag106 rfl), Cv.p, k⟩
theorem move_r {t : Trans} {p : Pt} (ho : 0 ≤ t.o ∧ t.o ≤ 7) (ht : -1000 ≤ t.x ∧ t.x ≤ 1000 ∧ -1000 ≤ t.y ∧ t.y ≤ 1000) (hp : InB 1000 p) (k : R (vpt (moveP t p)) G L) : CallT Try.prog 64 #[vtrans t, vpt p] G L R := by
  obtain ⟨hq1, hq2, hq3, hq4⟩ : InB 1000 (turnP t.o p) := turnP_in hp
  refine CallT.enter (args := _) Try.func64 rfl rfl (by kernel_rfl) rfl ?_
  refine WP.seq ?_
  refine WP.region ?_
  refine RG.ot rfl (OT.box (cs := transT.enc t) rfl rfl rfl fun b2 => ?_)
  refine RG.ot rfl (OT.box (cs := ptT.enc p) rfl rfl rfl fun b3 => ?_)
  refine RG.ot rfl (OT.alloc rfl Zr106 fun b4 => ?_)
  refine RG.nil ?_
  refine WP.seq ?_
  refine WP.region ?_
  refine RG.pv rfl (PV.field rfl Fo32_0 rfl) ?_
  refine RG.pv rfl (PV.load1 rfl Sc2 rfl (Rd.blk rfl)) ?_
  refine RG.pv rfl (PV.loadW rfl Ag106 rfl rfl) ?_
  refine RG.callF (vs := [_, _]) rfl rfl En73 rfl (turn_r ho hp ?_)
  refine RG.ot rfl (OT.alloc rfl Zr106 fun b5 => ?_)
  refine RG.ot rfl (OT.storeW (vs := [vi _, vi _]) rfl Sz106 rfl rfl (Cl.c rfl) rfl rfl (OneC.c rfl) ?_)
  refine RG.nil ?_
  refine WP.seq ?_
  refine WP.region ?_
  refine RG.pv rfl (PV.field rfl Fo106_0 rfl) ?_
  refine RG.pv rfl (PV.load1 rfl Sc2 rfl (Rd.blk rfl)) ?_
  refine RG.pv rfl (PV.field rfl Fo32_1 rfl) ?_
  refine RG.pv rfl (PV.load1 rfl Sc2 rfl (Rd.blk rfl)) ?_
  refine RG.pv rfl (PV.add rfl rfl rfl (by omega)) ?_
  refine RG.pv rfl (PV.field rfl Fo106_1 rfl) ?_
  refine RG.pv rfl (PV.load1 rfl Sc2 rfl (Rd.blk rfl)) ?_
  refine RG.pv rfl (PV.field rfl Fo32_2 rfl) ?_
  refine RG.pv rfl (PV.load1 rfl Sc2 rfl (Rd.blk rfl)) ?_
  refine RG.pv rfl (PV.add rfl rfl rfl (by omega)) ?_
  refine RG.pv rfl (PV.build (vs := [(0, [vi _]), (1, [vi _])]) (out := [_, _]) rfl Zr106 Pl106 ⟨rfl, (Cl.c rfl), ⟨rfl, (Cl.c rfl), trivial⟩⟩ rfl) ?_
  refine RG.ot rfl (OT.storeW (vs := [vi _, vi _]) rfl Sz106 rfl rfl (Cl.c rfl) rfl rfl (OneC.c rfl) ?_)
  refine RG.nil ?_
  refine WP.ret ?_
  exact ⟨_, _, ResV.one rfl (RV1.cell rfl Ag106 rfl), Cv.p, k⟩
theorem RIn_pts {r : Rect} (h : RIn 40 r) : InB 1000 ⟨r.x0, r.y0⟩ ∧ InB 1000 ⟨r.x1, r.y1⟩ := by
  obtain ⟨h1, h2, h3, h4, h5, h6⟩ := h
  exact ⟨⟨by simp only; omega, by simp only; omega, by simp only; omega, by simp only; omega⟩, ⟨by simp only; omega, by simp only; omega, by simp only; omega, by simp only; omega⟩⟩
theorem moveRect_r {t : Trans} {r : Rect} (ho : 0 ≤ t.o ∧ t.o ≤ 7) (ht : -1000 ≤ t.x ∧ t.x ≤ 1000 ∧ -1000 ≤ t.y ∧ t.y ≤ 1000) (hr : RIn 40 r) (k : R (vrect (moveR t r)) G L) : CallT Try.prog 49 #[vtrans t, vrect r] G L R := by
  refine CallT.enter (args := _) Try.func49 rfl rfl (by kernel_rfl) rfl ?_
  refine WP.seq ?_
  refine WP.region ?_
  refine RG.ot rfl (OT.box (cs := transT.enc t) rfl rfl rfl fun b2 => ?_)
  refine RG.ot rfl (OT.box (cs := rectT.enc r) rfl rfl rfl fun b3 => ?_)
  refine RG.ot rfl (OT.alloc rfl Zr69 fun b4 => ?_)
  refine RG.nil ?_
  refine WP.seq ?_
  refine WP.region ?_
  refine RG.pv rfl (PV.loadW rfl Ag32 rfl rfl) ?_
  refine RG.pv rfl (PV.field rfl Fo69_0 rfl) ?_
  refine RG.pv rfl (PV.load1 rfl Sc2 rfl (Rd.blk rfl)) ?_
  refine RG.pv rfl (PV.field rfl Fo69_1 rfl) ?_
  refine RG.pv rfl (PV.load1 rfl Sc2 rfl (Rd.blk rfl)) ?_
  refine RG.pv rfl (PV.build (vs := [(0, [vi _]), (1, [vi _])]) (out := [_, _]) rfl Zr106 Pl106 ⟨rfl, (Cl.c rfl), ⟨rfl, (Cl.c rfl), trivial⟩⟩ rfl) ?_
  refine RG.callF (vs := [_, _]) rfl rfl En64 rfl (move_r (p := ⟨_, _⟩) ho ht (by first | exact (RIn_pts hr).1 | exact (RIn_pts hr).2) ?_)
  refine RG.ot rfl (OT.alloc rfl Zr106 fun b5 => ?_)
  refine RG.ot rfl (OT.storeW (vs := [vi _, vi _]) rfl Sz106 rfl rfl (Cl.c rfl) rfl rfl (OneC.c rfl) ?_)
  refine RG.nil ?_
  refine WP.seq ?_
  refine WP.region ?_
  refine RG.pv rfl (PV.loadW rfl Ag32 rfl rfl) ?_
  refine RG.pv rfl (PV.field rfl Fo69_2 rfl) ?_
  refine RG.pv rfl (PV.load1 rfl Sc2 rfl (Rd.blk rfl)) ?_
  refine RG.pv rfl (PV.field rfl Fo69_3 rfl) ?_
  refine RG.pv rfl (PV.load1 rfl Sc2 rfl (Rd.blk rfl)) ?_
  refine RG.pv rfl (PV.build (vs := [(0, [vi _]), (1, [vi _])]) (out := [_, _]) rfl Zr106 Pl106 ⟨rfl, (Cl.c rfl), ⟨rfl, (Cl.c rfl), trivial⟩⟩ rfl) ?_
  refine RG.callF (vs := [_, _]) rfl rfl En64 rfl (move_r (p := ⟨_, _⟩) ho ht (by first | exact (RIn_pts hr).1 | exact (RIn_pts hr).2) ?_)
  refine RG.ot rfl (OT.alloc rfl Zr106 fun b6 => ?_)
  refine RG.ot rfl (OT.storeW (vs := [vi _, vi _]) rfl Sz106 rfl rfl (Cl.c rfl) rfl rfl (OneC.c rfl) ?_)
  refine RG.nil ?_
  refine WP.seq ?_
  refine WP.region ?_
  refine RG.pv rfl (PV.field rfl Fo106_0 rfl) ?_
  refine RG.pv rfl (PV.load1 rfl Sc2 rfl (Rd.blk rfl)) ?_
  refine RG.pv rfl (PV.field rfl Fo106_0 rfl) ?_
  refine RG.pv rfl (PV.load1 rfl Sc2 rfl (Rd.blk rfl)) ?_
  refine RG.pv rfl (PV.min2 rfl rfl rfl) ?_
  refine RG.pv rfl (PV.field rfl Fo106_1 rfl) ?_
  refine RG.pv rfl (PV.load1 rfl Sc2 rfl (Rd.blk rfl)) ?_
  refine RG.pv rfl (PV.field rfl Fo106_1 rfl) ?_
  refine RG.pv rfl (PV.load1 rfl Sc2 rfl (Rd.blk rfl)) ?_
  refine RG.pv rfl (PV.min2 rfl rfl rfl) ?_
  refine RG.pv rfl (PV.field rfl Fo106_0 rfl) ?_
  refine RG.pv rfl (PV.load1 rfl Sc2 rfl (Rd.blk rfl)) ?_
  refine RG.pv rfl (PV.field rfl Fo106_0 rfl) ?_
  refine RG.pv rfl (PV.load1 rfl Sc2 rfl (Rd.blk rfl)) ?_
  refine RG.pv rfl (PV.max2 rfl rfl rfl) ?_
  refine RG.pv rfl (PV.field rfl Fo106_1 rfl) ?_
  refine RG.pv rfl (PV.load1 rfl Sc2 rfl (Rd.blk rfl)) ?_
  refine RG.pv rfl (PV.field rfl Fo106_1 rfl) ?_
  refine RG.pv rfl (PV.load1 rfl Sc2 rfl (Rd.blk rfl)) ?_
  refine RG.pv rfl (PV.max2 rfl rfl rfl) ?_
  refine RG.pv rfl (PV.build (vs := [(0, [vi _]), (1, [vi _]), (2, [vi _]), (3, [vi _])]) (out := [_, _, _, _]) rfl Zr69 Pl69 ⟨rfl, (Cl.c rfl), ⟨rfl, (Cl.c rfl), ⟨rfl, (Cl.c rfl), ⟨rfl, (Cl.c rfl), trivial⟩⟩⟩⟩ rfl) ?_
  refine RG.ot rfl (OT.storeW (vs := [vi _, vi _, vi _, vi _]) rfl Sz69 rfl rfl (Cl.c rfl) rfl rfl (OneC.c rfl) ?_)
  refine RG.nil ?_
  refine WP.ret ?_
  exact ⟨_, _, ResV.one rfl (RV1.cell rfl Ag69 rfl), Cv.p, k⟩
end Go.Proofs.Ythhjapiggekjbaa
namespace Go.Proofs.Ythhjapiggekjbaa
set_option linter.unusedVariables false
set_option linter.unusedSimpArgs false
open Go
set_option maxRecDepth 20000
set_option linter.unusedSimpArgs false
variable {G : Gh} {L : List Ch} {R : Value → Gh → List Ch → Prop}
theorem RIn_valid {r : Rect} : validRect r = true ↔ RIn 40 r := by simp [validRect, RIn]; omega
theorem RIn_all {xs : List Rect} (h : isReg xs = true) : ∀ r ∈ xs, RIn 40 r := by
  have := isReg_valid h
  simp only [validRs, Bool.and_eq_true, List.all_eq_true] at this
  exact fun r hr => RIn_valid.1 (this.2 r hr)
theorem RIn_gd {b : Int} {xs : List Rect} (h : ∀ r ∈ xs, RIn b r) {i : Nat} (hi : i < xs.length) : RIn b (gd xs i) := by rw [gd_eq hi]; exact h _ (List.getElem_mem _)
def movedOk (t : Trans) (xs : List Rect) : Bool := xs.all fun r => validRect (moveR t r)
def movedR (t : Trans) (xs : List Rect) : List Rect := bif movedOk t xs then canon (bits (xs.map (moveR t))) else []
theorem l03Moved_s {t : Trans} {v : Value} {xs : List Rect} (h1 : Rs G L rectT v xs) (hb2 : xs.length ≤ 1048576) (ho : 0 ≤ t.o ∧ t.o ≤ 7) (ht : -1000 ≤ t.x ∧ t.x ≤ 1000 ∧ -1000 ≤ t.y ∧ t.y ≤ 1000) (hr : ∀ i, i < xs.length → RIn 40 (gd xs i))
    (k : ∀ v', R (.tuple #[v', .bool (movedOk t xs)]) G (osl 69 rectT v' (movedR t xs) :: L)) : CallT Try.prog 30 #[vtrans t, v] G L R := by
  refine CallT.enter (args := _) Try.func30 rfl rfl (by kernel_rfl) rfl ?_
  refine WP.seq ?_
  refine WP.region ?_
  refine RG.ot rfl (OT.box (cs := transT.enc t) rfl rfl rfl fun b2 => ?_)
  refine RG.pv rfl (PV.asg rfl rfl) ?_
  refine RG.pv rfl (PV.mvB (.inr rfl) rfl) ?_
  refine RG.nil ?_
  refine WP.seq ?_
  refine WP.region ?_
  refine RG.ot rfl (OT.bslice (F := rectT) (els := []) rfl El45 rfl (by decide) rfl (by decide) trivial fun v9 => ?_)
  refine RG.pv rfl (PV.asg (v := v9) rfl rfl) ?_
  refine RG.nil ?_
  refine WP.seq ?_
  refine WP.seq ?_
  refine WP.region ?_
  refine RG.pv rfl (PV.mvI (.inr rfl) rfl) ?_
  refine RG.nil ?_
  refine WP.block ?_
  refine WP.loop3 [1, 2] (fun (i : Nat) (ys : List Rect) (u : Value) => i ≤ xs.length ∧ ys = (xs.take i).map (moveR t) ∧ ∀ j, j < ys.length → validRect (gd ys j) = true) (fun (i : Nat) (ys : List Rect) (u : Value) => [(7, vi i), (6, u)]) (fun (i : Nat) (ys : List Rect) (u : Value) => osl 69 rectT u ys :: blk b2 32 (transT.enc t) :: L) (fun (i : Nat) (ys : List Rect) (u : Value) => xs.length - i) 0 [] v9 ⟨by omega, rfl, fun j hj => by simp at hj⟩ ⟨rfl, rfl, trivial⟩ Cv.p ?_
  rintro i ys u τ ⟨hi, hys, hva⟩
  refine WP.seq ?_
  refine WP.seq ?_
  refine WP.region ?_
  refine RG.pv rfl (PV.mvI (.inl rfl) rfl) ?_
  refine RG.pv rfl (PV.move (v := v) rfl rfl) ?_
  refine RG.pv rfl (PV.len (v := v) rfl Try.underlying45 rfl (SlF.r h1)) ?_
  refine RG.pv rfl (PV.lss rfl rfl rfl) ?_
  refine RG.nil ?_
  have hyl : ys.length = i := by rw [hys]; simp; omega
  refine WP.cond rfl (fun h2 => ?_) (fun h2 => ?_)
  · have h2 := of_decide_eq_true h2
    refine WP.skip ?_
    refine WP.seq ?_
    refine WP.block ?_
    refine WP.cut1 [1, 2, 6, 7] (fun (b8 : Nat) => True) (fun (b8 : Nat) => [(8, .pointer (some ⟨b8, 0, none⟩))]) (fun (b8 : Nat) => blk b8 69 (rectT.enc (moveR t (gd xs i))) :: osl 69 rectT u ys :: blk b2 32 (transT.enc t) :: L) ?_ ?_
    refine WP.regionH0 (.q 0 (.q 1 (.q 2 (.q 3 (.q 4 (.b 5 (.l 6 (.l 7 Sch.nil)) 6 (.l 5 (.l 7 Sch.nil)))))))) (by kernel_rfl) (by kernel_rfl) (by kernel_rfl) rfl ?_
    refine RH.pv rfl (fun _ _ _ _ h => h) (Gh.le_refl _) PickC.pick rfl (PV.loadW rfl Ag32 rfl rfl) ?_
    refine RH.pv rfl (fun _ _ _ _ h => h) (Gh.le_refl _) PickC.pick rfl (PV.move (v := v) rfl rfl) ?_
    refine RH.pv rfl (fun _ _ _ _ h => h) (Gh.le_refl _) PickC.pick rfl (PV.mvI (.inl rfl) rfl) ?_
    refine RH.pv rfl (fun _ _ _ _ h => h) (Gh.le_refl _) PickC.pick rfl (PV.idxS (v := v) rfl Is45 rfl (SlF.r h1) rfl rfl (by omega)) ?_
    refine RH.pv rfl (fun _ _ _ _ h => h) (Gh.le_refl _) PickC.pick rfl (PV.loadE rfl Ag69 rfl rfl (El.r h1 (getG (by omega)))) ?_
    · refine RH.ot2 rfl rfl rfl rfl  (OT.callF (vs := [_, _]) rfl En49 rfl (moveRect_r ho ht (hr i (by omega)) ⟨Gh.le_refl _, PickC.pick, ?_⟩)) (OT.alloc rfl Zr69 fun b8 => ⟨Gh.le_refl _, PickC.pick, ?_⟩)
      · refine RH.ot rfl rfl (OT.alloc rfl Zr69 fun b8 => ⟨Gh.le_refl _, PickC.pick, ?_⟩)
        refine RH.ot rfl rfl (OT.storeW (vs := [vi _, vi _, vi _, vi _]) rfl Sz69 rfl rfl (Cl.c rfl) rfl rfl (OneC.c rfl) ⟨Gh.le_refl _, PickC.pick, ?_⟩)
        refine RH.nil ?_
        exact ⟨rfl, b8, trivial, ⟨rfl, trivial⟩, ⟨rfl, rfl, rfl, rfl, trivial⟩, Cv.p⟩
      · refine RH.ot rfl rfl (OT.callF (vs := [_, _]) rfl En49 rfl (moveRect_r ho ht (hr i (by omega)) ⟨Gh.le_refl _, PickC.pick, ?_⟩))
        refine RH.ot rfl rfl (OT.storeW (vs := [vi _, vi _, vi _, vi _]) rfl Sz69 rfl rfl (Cl.c rfl) rfl rfl (OneC.c rfl) ⟨Gh.le_refl _, PickC.pick, ?_⟩)
        refine RH.nil ?_
        exact ⟨rfl, b8, trivial, ⟨rfl, trivial⟩, ⟨rfl, rfl, rfl, rfl, trivial⟩, Cv.p⟩
    · rintro b8 τ1 -
      refine WP.seq ?_
      refine WP.seq ?_
      refine WP.region ?_
      refine RG.pv rfl (PV.loadW rfl Ag69 rfl rfl) ?_
      refine RG.callF (vs := [_]) rfl rfl En50 rfl (validRect_s' ?_)
      refine RG.pv rfl (PV.not rfl rfl) ?_
      refine RG.nil ?_
      refine WP.cond rfl (fun h3 => ?_) (fun h3 => ?_)
      · have e1 : movedOk t xs = false := by
          rw [movedOk, List.all_eq_false]
          exact ⟨gd xs i, by rw [gd_eq (by omega)]; exact List.getElem_mem _, by simpa using h3⟩
        have e2 : movedR t xs = [] := by rw [movedR, e1]; rfl
        rw [e1, e2] at k
        refine WP.seq ?_
        refine WP.region ?_
        refine RG.pv rfl (PV.asg rfl rfl) ?_
        refine RG.pv rfl (PV.mvB (.inr rfl) rfl) ?_
        refine RG.nil ?_
        refine WP.ret ?_
        exact ⟨_, _, ResV.two rfl rfl rfl, Cv.nilP, k (.slice none 0 0)⟩
      · have h4 : validRect (moveR t (gd xs i)) = true := by simpa using h3
        refine WP.skip ?_
        refine WP.region ?_
        refine RG.pv rfl (PV.move (v := u) rfl rfl) ?_
        refine RG.pv rfl (PV.loadW rfl Ag69 rfl rfl) ?_
        refine RG.ot rfl (OT.bslice (F := rectT) (els := [⟨_, _, _, _⟩]) rfl El45 rfl (by decide) rfl (by decide) ⟨rfl, (Cl.c rfl), trivial⟩ fun v27 => ?_)
        refine RG.ot rfl (OT.append (v := u) (u := v27) (F := rectT) rfl El45 rfl (by decide) rfl rfl Rs.o (OneL.c (fun _ => rfl)) rfl (by first | omega | (simp <;> omega)) fun v28 => ?_)
        refine RG.pv rfl (PV.asg (v := v28) rfl rfl) ?_
        refine RG.nil ?_
        refine WP.region ?_
        refine RG.pv rfl (PV.mvI (.inl rfl) rfl) ?_
        refine RG.pv rfl (PV.add rfl rfl rfl (by omega)) ?_
        refine RG.pv rfl (PV.mvI (.inr rfl) rfl) ?_
        refine RG.nil ?_
        refine ⟨rfl, i + 1, (ys ++ [moveR t (gd xs i)]), v28, ⟨by omega, by rw [hys, List.take_add_one, getG (by omega)]; simp, fun j hj => ?_⟩, ⟨rfl, rfl, trivial⟩, ⟨rfl, rfl, trivial⟩, ((Cv.eqS (ys := ys ++ [moveR t (gd xs i)]) rfl).trans Cv.p), by omega⟩
        by_cases c : j = ys.length
        · subst c; simpa [gd] using h4
        · have := hva j (by simp at hj; omega)
          simpa [gd, List.getElem?_append_left (show j < ys.length by simp at hj; omega)] using this
  · have h2 := of_decide_eq_false h2
    have e1 : movedOk t xs = true := by
      rw [movedOk, List.all_eq_true]
      intro r hr
      obtain ⟨j, hj, rfl⟩ := List.getElem_of_mem hr
      have := hva j (by omega)
      rw [hys, List.take_of_length_le (by omega), gd_map _ hj, gd_eq hj] at this; exact this
    have e2 : movedR t xs = canon (bits ys) := by rw [movedR, e1, hys, List.take_of_length_le (by omega)]; rfl
    rw [e1, e2] at k
    refine WP.exit ?_
    refine WP.seq ?_
    refine WP.region ?_
    refine RG.pv rfl (PV.move (v := u) rfl rfl) ?_
    refine RG.callF (vs := [u]) rfl rfl En39 rfl (l03Bits_s Rs.o (fun i hi => hva i hi) (fun v30 => ?_))
    refine RG.callF (vs := [v30]) rfl rfl En23 rfl (l03Canon_s Rs.o (bits_length _) (fun v31 => ?_))
    refine RG.pv rfl (PV.asg (v := v31) rfl rfl) ?_
    refine RG.pv rfl (PV.mvB (.inr rfl) rfl) ?_
    refine RG.nil ?_
    refine WP.ret ?_
    exact ⟨_, _, ResV.two rfl rfl rfl, Cv.p, k v31⟩
end Go.Proofs.Ythhjapiggekjbaa
namespace Go.Proofs.Ythhjapiggekjbaa
set_option linter.unusedVariables false
set_option linter.unusedSimpArgs false
open Go
set_option maxRecDepth 20000
set_option linter.unusedSimpArgs false
def inC (r : Rect) (c : Pt) : Prop := 2 * r.x0 < c.x ∧ c.x < 2 * r.x1 ∧ 2 * r.y0 < c.y ∧ c.y < 2 * r.y1
def cov (xs : List Rect) (c : Pt) : Prop := ∃ r ∈ xs, inC r c
def OIn (o : Int) : Prop := 0 ≤ o ∧ o ≤ 7
theorem OIn.cases {o : Int} (h : OIn o) : o = 0 ∨ o = 1 ∨ o = 2 ∨ o = 3 ∨ o = 4 ∨ o = 5 ∨ o = 6 ∨ o = 7 := by unfold OIn at h; omega
end Go.Proofs.Ythhjapiggekjbaa
namespace Go.Proofs.Ythhjapiggekjbaa
set_option linter.unusedVariables false
set_option linter.unusedSimpArgs false
open Go
set_option maxRecDepth 20000
set_option linter.unusedSimpArgs false
variable {G : Gh} {L : List Ch} {R : Value → Gh → List Ch → Prop}
def validT (t : Trans) : Bool := within t.o 0 7 && (within t.x (-80) 80 && within t.y (-80) 80)
theorem validT_iff {t : Trans} : validT t = true ↔ (0 ≤ t.o ∧ t.o ≤ 7) ∧ (-80 ≤ t.x ∧ t.x ≤ 80) ∧ -80 ≤ t.y ∧ t.y ≤ 80 := by
  simp only [validT, within, Bool.and_eq_true, decide_eq_true_eq]
theorem validT_s {t : Trans} (k : R (.bool (validT t)) G L) : CallT Try.prog 28 #[vtrans t] G L R := by
  refine CallT.enter (args := _) Try.func28 rfl rfl (by kernel_rfl) rfl ?_
  refine WP.seq ?_
  refine WP.region ?_
  refine RG.ot rfl (OT.box (cs := transT.enc t) rfl rfl rfl fun b1 => ?_)
  refine RG.pv rfl (PV.mvB (.inr rfl) rfl) ?_
  refine RG.nil ?_
  refine WP.seq ?_
  refine WP.region ?_
  refine RG.pv rfl (PV.field rfl Fo32_0 rfl) ?_
  refine RG.pv rfl (PV.load1 rfl Sc2 rfl (Rd.blk rfl)) ?_
  refine RG.callF (vs := [_, _, _]) rfl rfl En45 rfl (l01In_s ?_)
  refine RG.pv rfl (PV.mvB (.inl rfl) rfl) ?_
  refine RG.gs rfl rfl rfl (fun hp => (PV.field rfl Fo32_1 rfl)) ?_
  refine RG.gs rfl rfl rfl (fun hp => (PV.load1 rfl Sc2 (gs_t hp) (Rd.blk rfl))) ?_
  refine RG.gsC rfl rfl rfl rfl En45 (fun hp => ⟨_, (acons (gs_t hp) (acons rfl (acons rfl anil))), l01In_s ⟨rfl, rfl, rfl⟩⟩) ?_
  refine RG.pv rfl (PV.pickA rfl rfl (fun hq => gs_t (geqT hq)) rfl) ?_
  refine RG.pv rfl (PV.mvB (.inl rfl) rfl) ?_
  refine RG.gs rfl rfl rfl (fun hp => (PV.field rfl Fo32_2 rfl)) ?_
  refine RG.gs rfl rfl rfl (fun hp => (PV.load1 rfl Sc2 (gs_t hp) (Rd.blk rfl))) ?_
  refine RG.gsC rfl rfl rfl rfl En45 (fun hp => ⟨_, (acons (gs_t hp) (acons rfl (acons rfl anil))), l01In_s ⟨rfl, rfl, rfl⟩⟩) ?_
  refine RG.pv rfl (PV.pickA rfl rfl (fun hq => gs_t (geqT hq)) rfl) ?_
  refine RG.pv rfl (PV.mvB (.inr rfl) rfl) ?_
  refine RG.nil ?_
  refine WP.ret ?_
  have e : validT t = ((within t.o 0 7 && within t.x (-80) 80) && within t.y (-80) 80) := (Bool.and_assoc _ _ _).symm
  rw [e] at k
  exact ⟨_, _, ResV.one rfl rfl, Cv.p, k⟩
def mvOk (t : Trans) (xs : List Rect) : Bool := validT t && isReg xs && movedOk t xs
def mvR (t : Trans) (xs : List Rect) : List Rect := bif validT t && isReg xs then movedR t xs else []
theorem moveReg_s {t : Trans} {v : Value} {xs : List Rect} (h1 : Rs G L rectT v xs) (k : ∀ v', R (.tuple #[v', .bool (mvOk t xs)]) G (osl 69 rectT v' (mvR t xs) :: L)) : CallT Try.prog 15 #[vtrans t, v] G L R := by
  refine CallT.enter (args := _) Try.func15 rfl rfl (by kernel_rfl) rfl ?_
  refine WP.seq ?_
  refine WP.region ?_
  refine RG.ot rfl (OT.box (cs := transT.enc t) rfl rfl rfl fun b2 => ?_)
  refine RG.pv rfl (PV.asg rfl rfl) ?_
  refine RG.pv rfl (PV.mvB (.inr rfl) rfl) ?_
  refine RG.nil ?_
  refine WP.seq ?_
  refine WP.seq ?_
  refine WP.region ?_
  refine RG.pv rfl (PV.loadW rfl Ag32 rfl rfl) ?_
  refine RG.callF (vs := [_]) rfl rfl En28 rfl (validT_s ?_)
  refine RG.pv rfl (PV.not rfl rfl) ?_
  refine RG.pv rfl (PV.mvB (.inl rfl) rfl) ?_
  refine RG.gs rfl rfl rfl (fun hp => (PV.move (v := v) rfl rfl)) ?_
  refine RG.gsC rfl rfl rfl rfl En29 (fun hp => ⟨_, (acons (gs_t hp) anil), l03Ok_s (Rs.up h1) ⟨rfl, rfl, rfl⟩⟩) ?_
  refine RG.gs rfl rfl rfl (fun hp => (PV.not rfl (gs_t hp))) ?_
  refine RG.pv rfl (PV.pickO rfl rfl rfl (fun hq => gs_t (geqF hq))) ?_
  refine RG.nil ?_
  refine WP.cond rfl (fun h2 => ?_) (fun h2 => ?_)
  · have h3 : (validT t && isReg xs) = false := by
      cases h4 : validT t <;> cases h5 : isReg xs <;> simp_all
    have e1 : mvOk t xs = false := by rw [mvOk, h3]; rfl
    have e2 : mvR t xs = [] := by rw [mvR, h3]; rfl
    rw [e1, e2] at k
    refine WP.seq ?_
    refine WP.region ?_
    refine RG.pv rfl (PV.asg rfl rfl) ?_
    refine RG.pv rfl (PV.mvB (.inr rfl) rfl) ?_
    refine RG.nil ?_
    refine WP.ret ?_
    exact ⟨_, _, ResV.two rfl rfl rfl, Cv.nilP, k (.slice none 0 0)⟩
  · have h3 : validT t = true ∧ isReg xs = true := by
      cases h4 : validT t <;> cases h5 : isReg xs <;> simp_all
    have e1 : mvOk t xs = movedOk t xs := by rw [mvOk, h3.1, h3.2]; rfl
    have e2 : mvR t xs = movedR t xs := by rw [mvR, h3.1, h3.2]; rfl
    rw [e1, e2] at k
    obtain ⟨ho, hx, hy⟩ := validT_iff.1 h3.1
    have hri := RIn_all h3.2
    have hb2 : xs.length ≤ 1048576 := by have := isReg_len h3.2; omega
    refine WP.skip ?_
    refine WP.seq ?_
    refine WP.region ?_
    refine RG.pv rfl (PV.loadW rfl Ag32 rfl rfl) ?_
    refine RG.pv rfl (PV.move (v := v) rfl rfl) ?_
    refine RG.callF (vs := [_, v]) rfl rfl En30 rfl (l03Moved_s (Rs.up h1) hb2 ho (by omega) (fun i hi => RIn_gd hri hi) (fun w16 => ?_))
    refine RG.pv rfl (PV.ext (v := w16) rfl rfl rfl) ?_
    refine RG.pv rfl (PV.ext rfl rfl rfl) ?_
    refine RG.pv rfl (PV.asg (v := w16) rfl rfl) ?_
    refine RG.pv rfl (PV.mvB (.inr rfl) rfl) ?_
    refine RG.nil ?_
    refine WP.ret ?_
    exact ⟨_, _, ResV.two rfl rfl rfl, Cv.p, k w16⟩
end Go.Proofs.Ythhjapiggekjbaa
namespace Go.Proofs.Ythhjapiggekjbaa
set_option linter.unusedVariables false
set_option linter.unusedSimpArgs false
open Go
set_option maxRecDepth 20000
set_option linter.unusedSimpArgs false
variable {G : Gh} {L : List Ch} {R : Value → Gh → List Ch → Prop}
/-- only what lies in memory matters -/
theorem Cv.flat {α : Type} {e : TypeId} {F : FT α} {v : Value} {xs ys : List α} {L : List Ch} (h : F.flat xs = F.flat ys) (hl : xs.length = ys.length) : Cv (osl e F v xs :: L) (osl e F v ys :: L) :=
  Cv.imp fun hp hc => by
    rcases hc with ⟨rfl, rfl⟩ | ⟨b, cap, c, h1, h2, h3, h4, h5, h6⟩
    · exact .inl ⟨rfl, List.eq_nil_of_length_eq_zero (by simpa using hl.symm)⟩
    · exact .inr ⟨b, cap, c, by rw [← hl]; exact h1, h2, by rw [← hl]; exact h3, h4, h5, by rw [← hl, ← h]; exact h6⟩
end Go.Proofs.Ythhjapiggekjbaa
namespace Go.Proofs.Ythhjapiggekjbaa
set_option linter.unusedVariables false
set_option linter.unusedSimpArgs false
open Go
set_option maxRecDepth 20000
set_option linter.unusedSimpArgs false
variable {G : Gh} {L : List Ch} {R : Value → Gh → List Ch → Prop}
theorem nets_r {v : Value} {xs : List (Sl Rect)} (h1 : Rs G L slT v xs) (hd : RsE G L rectT xs) (k : ∀ v' zs, (er (nps zs)).map erPs = netR (er xs) → R (.tuple #[v', vi (netE (er xs))]) G (osl 64 netT v' zs :: bagS 62 pieceT (nps zs) :: bagS 69 rectT (regs (er (nps zs)).flatten) :: L)) : CallT Try.prog 10 #[v] G L R := by
  have hcl : (clsL (er xs)).length ≤ 25600 := by rw [clsL_len]; exact pcL_len (er xs) 4
  have hcn : cntR (clsL (er xs)) (clsL (er xs)).length = netN (er xs) := by rw [clsL_len]; rfl
  refine CallT.enter (args := _) Try.func10 rfl rfl (by kernel_rfl) rfl ?_
  refine WP.seq ?_
  refine WP.region ?_
  refine RG.pv rfl (PV.asg rfl rfl) ?_
  refine RG.pv rfl (PV.mvI (.inr rfl) rfl) ?_
  refine RG.nil ?_
  refine WP.seq ?_
  refine WP.seq ?_
  refine WP.region ?_
  refine RG.pv rfl (PV.move (v := v) rfl rfl) ?_
  refine RG.callF (vs := [v]) rfl rfl En19 rfl (l19Layout_s (Rs.up h1) hd.up ?_)
  refine RG.pv rfl (PV.not rfl rfl) ?_
  refine RG.nil ?_
  refine WP.cond rfl (fun h2 => ?_) (fun h2 => ?_)
  · have h3 : isLay (er xs) = false := by simpa using h2
    have e : netE (er xs) = 1 := by rw [netE, h3]; rfl
    have e2 : netR (er xs) = [] := by rw [netR, e]; rfl
    rw [e, e2] at k
    refine WP.seq ?_
    refine WP.region ?_
    refine RG.ot rfl (OT.bslice (F := netT) (els := []) rfl El34 rfl (by decide) rfl (by decide) trivial fun v14 => ?_)
    refine RG.pv rfl (PV.asg (v := v14) rfl rfl) ?_
    refine RG.pv rfl (PV.mvI (.inr rfl) rfl) ?_
    refine RG.nil ?_
    refine WP.ret ?_
    exact ⟨_, _, ResV.two rfl rfl rfl, ((Cv.p (C := osl 64 netT v14 ([] : List Net) :: L)).trans (Cv.cons ((Cv.bag0 (e := 69) (F := rectT) (xs := regs []) rfl).trans (Cv.bag0 (e := 62) (F := pieceT) (xs := nps []) rfl)))), k v14 [] rfl⟩
  · have h3 : isLay (er xs) = true := by simpa using h2
    refine WP.skip ?_
    refine WP.seq ?_
    refine WP.region ?_
    refine RG.pv rfl (PV.move (v := v) rfl rfl) ?_
    refine RG.callF (vs := [v]) rfl rfl En20 rfl (l23Parts_s (Rs.up h1) hd.up h3 (fun v16 csv16 hev16 => ?_))
    refine RG.pv rfl (PV.asg (v := v16) rfl rfl) ?_
    refine RG.nil ?_
    refine WP.seq ?_
    refine WP.region ?_
    refine RG.pv rfl (PV.move (v := v16) rfl rfl) ?_
    refine RG.pv rfl (PV.move (v := v) rfl rfl) ?_
    refine RG.callF (vs := [v16, v]) rfl rfl En22 rfl (l23Roots_s Rs.o RsE.o (Rs.up h1) hd.up h3 hev16 (fun v20 => ?_))
    refine RG.callF (vs := [v20]) rfl rfl En21 rfl (l23Numbers_s Rs.o (clsL_rt _) hcl (fun w21 => ?_))
    refine RG.pv rfl (PV.move (v := .tuple _) rfl rfl) ?_
    refine RG.pv rfl (PV.ext (v := w21) rfl rfl rfl) ?_
    refine RG.pv rfl (PV.ext rfl rfl rfl) ?_
    refine RG.pv rfl (PV.asg (v := w21) rfl rfl) ?_
    refine RG.pv rfl (PV.mvI (.inr rfl) rfl) ?_
    refine RG.nil ?_
    refine WP.seq ?_
    refine WP.seq ?_
    refine WP.region ?_
    refine RG.pv rfl (PV.mvI (.inl rfl) rfl) ?_
    refine RG.pv rfl (PV.gtr rfl rfl rfl) ?_
    refine RG.nil ?_
    refine WP.cond rfl (fun h4 => ?_) (fun h4 => ?_)
    · have h4 := of_decide_eq_true h4
      have e : netE (er xs) = 3 := by rw [netE, h3, cond_true, if_pos (by omega)]
      have e2 : netR (er xs) = [] := by rw [netR, e]; rfl
      rw [e, e2] at k
      refine WP.seq ?_
      refine WP.region ?_
      refine RG.ot rfl (OT.bslice (F := netT) (els := []) rfl El34 rfl (by decide) rfl (by decide) trivial fun v26 => ?_)
      refine RG.pv rfl (PV.asg (v := v26) rfl rfl) ?_
      refine RG.pv rfl (PV.mvI (.inr rfl) rfl) ?_
      refine RG.nil ?_
      refine WP.ret ?_
      exact ⟨_, _, ResV.two rfl rfl rfl, ((Cv.p (C := osl 64 netT v26 ([] : List Net) :: L)).trans (Cv.cons ((Cv.bag0 (e := 69) (F := rectT) (xs := regs []) rfl).trans (Cv.bag0 (e := 62) (F := pieceT) (xs := nps []) rfl)))), k v26 [] rfl⟩
    · have h4 := of_decide_eq_false h4
      have e : netE (er xs) = 0 := by rw [netE, h3, cond_true, if_neg (by omega)]
      have e2 : netR (er xs) = netL (er xs) := by rw [netR, e]; rfl
      rw [e, e2] at k
      have hcs : csv16.map erC = pcL (er xs) 4 := hev16
      have hcsl : csv16.length = (pcL (er xs) 4).length := by rw [← hcs, List.length_map]
      have hpl4 := pcL_len (er xs) 4
      have hce : ∀ i, i < csv16.length → erC (gd csv16 i) = gd (pcL (er xs) 4) i := fun i hi => by rw [← hcs, gd_map _ hi]
      have hc6 : ∀ i, i < csv16.length → (gd csv16 i).cells.xs.length = 6400 := fun i hi => by
        have := pcL_gd_len (l := er xs) (i := i) (by omega)
        rw [← hce i hi] at this; exact this
      have hnl : (nums (clsL (er xs))).length = csv16.length := by rw [nums, List.length_map, List.length_range, clsL_len, hcsl]
      have hng : ∀ i, i < csv16.length → gd (nums (clsL (er xs))) i = (numR (clsL (er xs)) i : Int) := fun i hi => by
        rw [nums, gd_map _ (by rw [List.length_range, clsL_len]; omega)]
        simp [gd, clsL_len, ← hcsl, hi]
      have hnN : (netL (er xs)).length = netN (er xs) := netL_len _
      refine WP.skip ?_
      refine WP.seq ?_
      refine WP.region ?_
      refine RG.ot rfl (OT.bslice (F := netT) (els := []) rfl El34 rfl (by decide) rfl (by decide) trivial fun v27 => ?_)
      refine RG.pv rfl (PV.asg (v := v27) rfl rfl) ?_
      refine RG.nil ?_
      refine WP.seq ?_
      refine WP.seq ?_
      refine WP.region ?_
      refine RG.pv rfl (PV.mvI (.inr rfl) rfl) ?_
      refine RG.nil ?_
      refine WP.block ?_
      refine WP.cv ((Cv.p (C := osl 64 netT v27 ([] : List Net) :: osl 59 partT v16 csv16 :: bagS 4 boolT (cels csv16) :: osl 2 intT w21 (nums (clsL (er xs))) :: L)).trans (Cv.cons ((Cv.bag0 (e := 69) (F := rectT) (xs := regs (er (nps [])).flatten) rfl).trans (Cv.bag0 (e := 62) (F := pieceT) (xs := nps []) rfl)))) ?_
      refine WP.loop3 [4, 5, 6] (fun (n : Nat) (zs : List Net) (q : Value) => n ≤ netN (er xs) ∧ (er (nps zs)).map erPs = (netL (er xs)).take n) (fun (n : Nat) (zs : List Net) (q : Value) => [(8, vi n), (7, q)]) (fun (n : Nat) (zs : List Net) (q : Value) => osl 64 netT q zs :: bagS 62 pieceT (nps zs) :: bagS 69 rectT (regs (er (nps zs)).flatten) :: osl 59 partT v16 csv16 :: bagS 4 boolT (cels csv16) :: osl 2 intT w21 (nums (clsL (er xs))) :: L) (fun (n : Nat) (zs : List Net) (q : Value) => netN (er xs) - n) 0 [] v27 ⟨by omega, rfl⟩ ⟨rfl, rfl, trivial⟩ Cv.p ?_
      rintro n zs q τ ⟨hn, hzs⟩
      refine WP.seq ?_
      refine WP.seq ?_
      refine WP.region ?_
      refine RG.pv rfl (PV.mvI (.inl rfl) rfl) ?_
      refine RG.pv rfl (PV.mvI (.inl rfl) rfl) ?_
      refine RG.pv rfl (PV.lss rfl rfl rfl) ?_
      refine RG.nil ?_
      have hzl : zs.length = n := by
        have := congrArg List.length hzs
        rw [List.length_map, er_len, nps_len, List.length_take] at this; omega
      refine WP.cond rfl (fun h5 => ?_) (fun h5 => ?_)
      · have h5 := of_decide_eq_true h5
        refine WP.skip ?_
        refine WP.seq ?_
        refine WP.block ?_
        refine WP.seq ?_
        refine WP.region ?_
        refine RG.ot rfl (OT.bslice (F := pieceT) (els := []) rfl El56 rfl (by decide) rfl (by decide) trivial fun v33 => ?_)
        refine RG.pv rfl (PV.asg (v := v33) rfl rfl) ?_
        refine RG.nil ?_
        refine WP.seq ?_
        refine WP.seq ?_
        refine WP.region ?_
        refine RG.pv rfl (PV.mvI (.inr rfl) rfl) ?_
        refine RG.nil ?_
        refine WP.block ?_
        refine WP.loop4 [4, 5, 6, 7, 8] (fun (i : Nat) (ps : List Piece) (bs : List (Sl Rect)) (p : Value) => i ≤ csv16.length ∧ erPs ps = (((List.range i).filter fun j => decide (numR (clsL (er xs)) j = n)).map fun j => pcR (gd (pcL (er xs) 4) j)) ∧ bs = regs ((er (nps zs)).flatten ++ ps)) (fun (i : Nat) (ps : List Piece) (bs : List (Sl Rect)) (p : Value) => [(10, vi i), (9, p)]) (fun (i : Nat) (ps : List Piece) (bs : List (Sl Rect)) (p : Value) => osl 62 pieceT p ps :: bagS 69 rectT bs :: osl 64 netT q zs :: bagS 62 pieceT (nps zs) :: osl 59 partT v16 csv16 :: bagS 4 boolT (cels csv16) :: osl 2 intT w21 (nums (clsL (er xs))) :: L) (fun (i : Nat) (ps : List Piece) (bs : List (Sl Rect)) (p : Value) => csv16.length - i) 0 [] (regs (er (nps zs)).flatten) v33 ⟨by omega, rfl, by rw [List.append_nil]⟩ ⟨rfl, rfl, trivial⟩ Cv.p ?_
        rintro i ps bs p τ1 ⟨hi, hps, hbs⟩
        refine WP.seq ?_
        refine WP.seq ?_
        refine WP.region ?_
        refine RG.pv rfl (PV.mvI (.inl rfl) rfl) ?_
        refine RG.pv rfl (PV.move (v := v16) rfl rfl) ?_
        refine RG.pv rfl (PV.len (v := v16) rfl Try.underlying51 rfl SlF.o) ?_
        refine RG.pv rfl (PV.lss rfl rfl rfl) ?_
        refine RG.nil ?_
        have hpl : ps.length ≤ 25600 := by
          have := congrArg List.length hps
          have h6 := List.length_filter_le (fun j => decide (numR (clsL (er xs)) j = n)) (List.range i)
          rw [List.length_range] at h6
          rw [erPs_len, List.length_map] at this; omega
        refine WP.cond rfl (fun h6 => ?_) (fun h6 => ?_)
        · have h6 := of_decide_eq_true h6
          have h7 : i < csv16.length := by omega
          have hnu := hng i h7
          have hfs : (List.range (i + 1)).filter (fun j => decide (numR (clsL (er xs)) j = n)) = (List.range i).filter (fun j => decide (numR (clsL (er xs)) j = n)) ++ (if numR (clsL (er xs)) i = n then [i] else []) := by
            rw [List.range_succ, List.filter_append]
            by_cases c : numR (clsL (er xs)) i = n <;> simp [c]
          refine WP.skip ?_
          refine WP.seq ?_
          refine WP.block ?_
          refine WP.seq ?_
          refine WP.region ?_
          refine RG.pv rfl (PV.move (v := w21) rfl rfl) ?_
          refine RG.pv rfl (PV.mvI (.inl rfl) rfl) ?_
          refine RG.pv rfl (PV.idxS (v := w21) rfl Is38 rfl SlF.o rfl rfl (by omega)) ?_
          refine RG.pv rfl (PV.loadE1 rfl Sc2 rfl rfl (El.o (getG (by omega))) rfl) ?_
          refine RG.pv rfl (PV.mvI (.inl rfl) rfl) ?_
          refine RG.pv rfl (PV.eql rfl rfl rfl) ?_
          refine RG.nil ?_
          refine WP.cond rfl (fun h8 => ?_) (fun h8 => ?_)
          · have h8 := of_decide_eq_true h8
            have h9 : numR (clsL (er xs)) i = n := by omega
            rw [if_pos h9] at hfs
            have hl6 := hc6 i h7
            refine WP.regionHD [.s p] (.q 0 (.q 1 (.q 2 (.q 3 (.q 4 (.q 5 (.q 6 (.q 7 (.q 8 (.q 9 (.q 10 (.l 11 (.q 12 (.l 13 (.l 14 (.q 15 Sch.nil)))))))))))))))) (by kernel_rfl) (by kernel_rfl) (by kernel_rfl) rfl ?_
            refine RH.pv rfl (fun _ _ _ _ h => h) (Gh.le_refl _) PickC.pick rfl (PV.move (v := p) rfl rfl) ?_
            refine RH.pv rfl (fun _ _ _ _ h => h) (Gh.le_refl _) PickC.pick rfl (PV.move (v := v16) rfl rfl) ?_
            refine RH.pv rfl (fun _ _ _ _ h => h) (Gh.le_refl _) PickC.pick rfl (PV.mvI (.inl rfl) rfl) ?_
            refine RH.pv rfl (fun _ _ _ _ h => h) (Gh.le_refl _) PickC.pick rfl (PV.idxS (v := v16) rfl Is51 rfl SlF.o rfl rfl (by omega)) ?_
            refine RH.pv rfl (fun _ _ _ _ h => h) (Gh.le_refl _) PickC.pick rfl (PV.field rfl Fo59_0 rfl) ?_
            refine RH.pv rfl (fun _ _ _ _ h => h) (Gh.le_refl _) PickC.pick rfl (PV.loadF (v := v16) (j := 0) rfl Sc2 rfl rfl (El.o (getG (by omega))) rfl) ?_
            refine RH.pv rfl (fun _ _ _ _ h => h) (Gh.le_refl _) PickC.pick rfl (PV.move (v := v16) rfl rfl) ?_
            refine RH.pv rfl (fun _ _ _ _ h => h) (Gh.le_refl _) PickC.pick rfl (PV.mvI (.inl rfl) rfl) ?_
            refine RH.pv rfl (fun _ _ _ _ h => h) (Gh.le_refl _) PickC.pick rfl (PV.idxS (v := v16) rfl Is51 rfl SlF.o rfl rfl (by omega)) ?_
            refine RH.pv rfl (fun _ _ _ _ h => h) (Gh.le_refl _) PickC.pick rfl (PV.field rfl Fo59_1 rfl) ?_
            refine RH.pv rfl (fun _ _ _ _ h => h) (Gh.le_refl _) PickC.pick rfl (PV.loadF rfl Sc57 rfl rfl (El.o (getG (by omega))) rfl) ?_
            refine RH.ot rfl rfl (OT.callF (vs := [_]) rfl En23 rfl (l03Canon_s (Rs.inCels (xs := csv16) i (by omega)) hl6 (fun v57 => ⟨Gh.le_refl _, PickC.pick, ?_⟩)))
            refine RH.up1 ?_
            refine RH.pv rfl (fun _ _ _ _ h => h) (Gh.le_refl _) PickC.pick rfl (PV.build (vs := [(0, [vi _]), (1, [v57])]) (out := [_, _]) rfl Zr62 Pl62 ⟨rfl, (Cl.c rfl), ⟨rfl, (Cl.s (v := v57) SlF.o), trivial⟩⟩ rfl) ?_
            refine RH.ot rfl rfl (OT.bslice (F := pieceT) (els := [⟨(gd csv16 i).layer, ⟨v57, canon (gd csv16 i).cells.xs⟩⟩]) rfl El56 rfl (by decide) rfl (by decide) ⟨rfl, (Cl.c rfl), trivial⟩ fun v59 => ⟨Gh.le_refl _, PickC.pick, ?_⟩)
            refine RH.ot rfl rfl (OT.append (v := p) (u := v59) (F := pieceT) rfl El56 rfl (by decide) rfl rfl Rs.o (OneL.one (OneC.val rfl (OneC.sl SlF.o OneC.nil))) rfl (by first | omega | (simp <;> omega)) fun v60 => ⟨Gh.le_refl _, PickC.pick, ?_⟩)
            refine RH.pv rfl (fun _ _ _ _ h => h) (Gh.le_refl _) PickC.pick rfl (PV.asg (v := v60) rfl rfl) ?_
            refine RH.nil ?_
            refine WP.region ?_
            refine RG.pv rfl (PV.mvI (.inl rfl) rfl) ?_
            refine RG.pv rfl (PV.add rfl rfl rfl (by omega)) ?_
            refine RG.pv rfl (PV.mvI (.inr rfl) rfl) ?_
            refine RG.nil ?_
            refine ⟨rfl, i + 1, (ps ++ [⟨(gd csv16 i).layer, ⟨v57, canon (gd csv16 i).cells.xs⟩⟩]), (bs ++ [⟨v57, canon (gd csv16 i).cells.xs⟩]), v60, ⟨by omega, ?_, by rw [hbs]; simp [regs]⟩, ⟨rfl, rfl, trivial⟩, ⟨rfl, rfl, rfl, rfl, rfl, trivial⟩, ((Cv.p (C := osl 69 rectT v57 (canon (gd csv16 i).cells.xs) :: bagS 69 rectT bs :: osl 62 pieceT v60 (ps ++ [⟨(gd csv16 i).layer, ⟨v57, canon (gd csv16 i).cells.xs⟩⟩]) :: osl 64 netT q zs :: bagS 62 pieceT (nps zs) :: osl 59 partT v16 csv16 :: bagS 4 boolT (cels csv16) :: osl 2 intT w21 (nums (clsL (er xs))) :: L)).trans (Cv.bagS_add.trans Cv.p)), by omega⟩
            rw [hfs, List.map_append, ← hps, erPs, List.map_append]
            have := hce i h7
            rw [List.map_cons, List.map_nil, List.map_cons, List.map_nil, ← this]; rfl
          · have h8 := of_decide_eq_false h8
            have h9 : ¬ numR (clsL (er xs)) i = n := by omega
            rw [if_neg h9, List.append_nil] at hfs
            refine WP.skip ?_
            refine WP.region ?_
            refine RG.pv rfl (PV.mvI (.inl rfl) rfl) ?_
            refine RG.pv rfl (PV.add rfl rfl rfl (by omega)) ?_
            refine RG.pv rfl (PV.mvI (.inr rfl) rfl) ?_
            refine RG.nil ?_
            exact ⟨rfl, i + 1, ps, bs, p, ⟨by omega, by rw [hfs]; exact hps, hbs⟩, ⟨rfl, rfl, trivial⟩, ⟨rfl, rfl, rfl, rfl, rfl, trivial⟩, Cv.p, by omega⟩
        · have h6 := of_decide_eq_false h6
          obtain rfl : i = csv16.length := by omega
          have hnz : (netL (er xs)).take (n + 1) = (netL (er xs)).take n ++ [erPs ps] := by
            rw [List.take_add_one, getG (by omega), netL_gd (by omega), ← hcsl, ← hps]; rfl
          refine WP.exit ?_
          refine WP.region ?_
          refine RG.pv rfl (PV.move (v := q) rfl rfl) ?_
          refine RG.pv rfl (PV.move (v := p) rfl rfl) ?_
          refine RG.pv rfl (PV.build (vs := [(0, [p])]) (out := [_]) rfl Zr64 Pl64 ⟨rfl, (Cl.s (v := p) SlF.o), trivial⟩ rfl) ?_
          refine RG.ot rfl (OT.bslice (F := netT) (els := [⟨⟨p, ps⟩⟩]) rfl El34 rfl (by decide) rfl (by decide) ⟨rfl, (Cl.c rfl), trivial⟩ fun v64 => ?_)
          refine RG.ot rfl (OT.append (v := q) (u := v64) (F := netT) rfl El34 rfl (by decide) rfl rfl Rs.o (OneL.one (OneC.sl SlF.o OneC.nil)) rfl (by first | omega | (simp <;> omega)) fun v65 => ?_)
          refine RG.pv rfl (PV.asg (v := v65) rfl rfl) ?_
          refine RG.nil ?_
          refine WP.region ?_
          refine RG.pv rfl (PV.mvI (.inl rfl) rfl) ?_
          refine RG.pv rfl (PV.add rfl rfl rfl (by omega)) ?_
          refine RG.pv rfl (PV.mvI (.inr rfl) rfl) ?_
          refine RG.nil ?_
          exact ⟨rfl, n + 1, (zs ++ [⟨⟨p, ps⟩⟩]), v65, ⟨by omega, by rw [hnz, ← hzs, nps_append, er_append, List.map_append]; rfl⟩, ⟨rfl, rfl, trivial⟩, ⟨rfl, rfl, rfl, trivial⟩, ((Cv.p (C := osl 62 pieceT p ps :: bagS 62 pieceT (nps zs) :: bagS 69 rectT bs :: osl 64 netT v65 (zs ++ [⟨⟨p, ps⟩⟩]) :: osl 59 partT v16 csv16 :: bagS 4 boolT (cels csv16) :: osl 2 intT w21 (nums (clsL (er xs))) :: L)).trans ((Cv.grow (ys' := nps (zs ++ [⟨⟨p, ps⟩⟩])) (by simp [nps])).trans ((Cv.cons (Cv.bagPerm (ys := regs (er (nps (zs ++ [⟨⟨p, ps⟩⟩]))).flatten) (.of_eq (by rw [hbs, nps_append, er_append, List.flatten_append]; simp [nps, er])))).trans Cv.p))), by omega⟩
      · have h5 := of_decide_eq_false h5
        have hzs2 : (er (nps zs)).map erPs = netL (er xs) := by rw [hzs, List.take_of_length_le (by omega)]
        refine WP.exit ?_
        refine WP.seq ?_
        refine WP.region ?_
        refine RG.pv rfl (PV.move (v := q) rfl rfl) ?_
        refine RG.pv rfl (PV.asg (v := q) rfl rfl) ?_
        refine RG.pv rfl (PV.mvI (.inr rfl) rfl) ?_
        refine RG.nil ?_
        refine WP.ret ?_
        exact ⟨_, _, ResV.two rfl rfl rfl, Cv.p, k q zs hzs2⟩
end Go.Proofs.Ythhjapiggekjbaa
namespace Go.Proofs.Ythhjapiggekjbaa
set_option linter.unusedVariables false
set_option linter.unusedSimpArgs false
open Go
set_option maxRecDepth 20000
set_option linter.unusedSimpArgs false
theorem comp_sub {S c : List Bool} {y x : Nat} (hc : c ∈ comps S) (hy : y < 80) (hx : x < 80) (h : gb c y x = true) : gb S y x = true := by
  rw [← comps_cover hy hx, List.any_eq_true]
  exact ⟨c, hc, h⟩
theorem reg_valid {xs : List Rect} (h : isReg xs = true) : ∀ r ∈ xs, validRect r = true := by
  have := isReg_valid h
  simp only [validRs, Bool.and_eq_true, List.all_eq_true] at this
  exact this.2
def cellIn (r : Rect) (X Y : Int) : Prop := r.x0 ≤ X ∧ X < r.x1 ∧ r.y0 ≤ Y ∧ Y < r.y1
theorem inR_cell {r : Rect} {y x : Nat} : inR r y x = true ↔ cellIn r ((x : Int) - 40) ((y : Int) - 40) := by
  rw [inR_iff, cellIn]; omega
end Go.Proofs.Ythhjapiggekjbaa
namespace Go.Proofs.Ythhjapiggekjbaa
set_option linter.unusedVariables false
set_option linter.unusedSimpArgs false
open Go
set_option maxRecDepth 20000
set_option linter.unusedSimpArgs false
/-- a function that the relation keeps is the same at a member and at its class -/
def Snd {β : Type} (f : Nat → β) (c : List Int) : Prop := ∀ j, j < c.length → f (gd c j).toNat = f j
theorem Snd.step {β : Type} {f : Nat → β} {J : Nat → Nat → Bool} {i k : Nat} {c : List Int} (h : Snd f c) (hi : i < c.length) (hk : k < c.length) (hJ : J k i = true → f k = f i) : Snd f (stepJ J i c k) := by
  unfold stepJ
  split
  · exact h
  · rename_i e
    rw [not_or, Bool.not_eq_false] at e
    have hf := hJ e.2
    have h1 := h k hk
    have h2 := h i hi
    intro j hj
    have hj : j < c.length := by simpa using hj
    have h3 := h j hj
    rw [gd_map _ hj, rl]
    by_cases c1 : gd c j = max (gd c k) (gd c i)
    · rw [if_pos c1]
      by_cases c2 : gd c k ≤ gd c i
      · rw [Int.min_eq_left c2, h1, hf]
        rw [Int.max_eq_right c2] at c1
        rw [← h3, c1, h2]
      · have c2 : gd c i ≤ gd c k := by omega
        rw [Int.min_eq_right c2, h2, ← hf]
        rw [Int.max_eq_left c2] at c1
        rw [← h3, c1, h1]
    · rw [if_neg c1]; exact h3
theorem Snd.app {β : Type} {f : Nat → β} {c : List Int} (h : Snd f c) : Snd f (c ++ [(c.length : Int)]) := fun j hj => by
  have hj : j < c.length + 1 := by simpa using hj
  by_cases e : j = c.length
  · subst e; rw [gd_app_r, Int.toNat_natCast]
  · rw [gd_app_l (by omega)]; exact h j (by omega)
theorem Snd.inJ {β : Type} {f : Nat → β} {J : Nat → Nat → Bool} {c : List Int} (h : Snd f c) (hJ : ∀ k, k < c.length → J k c.length = true → f k = f c.length) : ∀ k, k ≤ c.length → Snd f (inJ J c.length c k)
  | 0, _ => by rw [inJ_zero]; exact h.app
  | k + 1, hk => by
    rw [inJ_succ]
    exact (Snd.inJ h hJ k (by omega)).step (by rw [inJ_len]; omega) (by rw [inJ_len]; omega) (hJ k (by omega))
theorem Snd.roots {β : Type} {f : Nat → β} {J : Nat → Nat → Bool} : ∀ n, (∀ k i, k < i → i < n → J k i = true → f k = f i) → Snd f (rootsJ J n)
  | 0, _ => fun j hj => by simp [rootsJ] at hj
  | n + 1, hJ => by
    have := (Snd.roots n fun k i h1 h2 h3 => hJ k i h1 (by omega) h3).inJ (J := J) (by rw [rootsJ_len]; exact fun k hk h => hJ k n hk (by omega) h) n (by rw [rootsJ_len]; omega)
    rw [rootsJ_len] at this; exact this
theorem Snd.of_eq {β : Type} {f : Nat → β} {c : List Int} (h : Snd f c) {a b : Nat} (ha : a < c.length) (hb : b < c.length) (e : gd c a = gd c b) : f a = f b := by
  rw [← h a ha, ← h b hb, e]
theorem numR_inj {cls : List Int} (h : Rt cls) {a b : Nat} (ha : a < cls.length) (hb : b < cls.length) (e : numR cls a = numR cls b) : gd cls a = gd cls b := by
  obtain ⟨a1, a2, a3⟩ := h a ha
  obtain ⟨b1, b2, b3⟩ := h b hb
  unfold numR at e
  rcases Int.lt_trichotomy (gd cls a) (gd cls b) with c | c | c
  · have h1 := cntR_succ cls (gd cls a).toNat
    rw [if_pos (by rw [a3]; omega)] at h1
    have := cntR_mono cls (m := (gd cls a).toNat + 1) (n := (gd cls b).toNat) (by omega)
    omega
  · exact c
  · have h1 := cntR_succ cls (gd cls b).toNat
    rw [if_pos (by rw [b3]; omega)] at h1
    have := cntR_mono cls (m := (gd cls b).toNat + 1) (n := (gd cls a).toNat) (by omega)
    omega
def abutR (a b : Rect) : Bool := validRect a && validRect b && (decide ((cmn a b).x0 = (cmn a b).x1) && decide ((cmn a b).y0 < (cmn a b).y1) || decide ((cmn a b).y0 = (cmn a b).y1) && decide ((cmn a b).x0 < (cmn a b).x1))
def tchR (a b : List Rect) : Bool := a.any fun x => b.any fun y => ovl x y || abutR x y
def Tch (A B : List Bool) : Prop := ∃ a b : Cel, On A a ∧ On B b ∧ (a = b ∨ Adj a b)
theorem tch1 {a b : Rect} (ha : validRect a = true) (hb : validRect b = true) : (ovl a b || abutR a b) = true ↔ ∃ p q : Cel, inR a p.1 p.2 = true ∧ inR b q.1 q.2 = true ∧ (p = q ∨ Adj p q) := by
  simp only [ovl, abutR, ha, hb, Bool.true_and, Bool.or_eq_true, Bool.and_eq_true, decide_eq_true_eq]
  rw [validR_iff] at ha hb
  constructor
  · rintro (h | ⟨h1, h2⟩ | ⟨h1, h2⟩)
    · obtain ⟨y, x, hy, hx, h3⟩ := valid_cell h
      exact ⟨(y, x), (y, x), (inR_cmn.1 h3).1, (inR_cmn.1 h3).2, .inl rfl⟩
    · simp only [cmn] at h1 h2
      by_cases c : a.x1 ≤ b.x0
      · refine ⟨((max a.y0 b.y0 + 40).toNat, (a.x1 + 39).toNat), ((max a.y0 b.y0 + 40).toNat, (b.x0 + 40).toNat), inR_iff.2 (by simp only; omega), inR_iff.2 (by simp only; omega), .inr (.inl ⟨rfl, ?_⟩)⟩
        simp only; omega
      · refine ⟨((max a.y0 b.y0 + 40).toNat, (a.x0 + 40).toNat), ((max a.y0 b.y0 + 40).toNat, (b.x1 + 39).toNat), inR_iff.2 (by simp only; omega), inR_iff.2 (by simp only; omega), .inr (.inl ⟨rfl, ?_⟩)⟩
        simp only; omega
    · simp only [cmn] at h1 h2
      by_cases c : a.y1 ≤ b.y0
      · refine ⟨((a.y1 + 39).toNat, (max a.x0 b.x0 + 40).toNat), ((b.y0 + 40).toNat, (max a.x0 b.x0 + 40).toNat), inR_iff.2 (by simp only; omega), inR_iff.2 (by simp only; omega), .inr (.inr ⟨rfl, ?_⟩)⟩
        simp only; omega
      · refine ⟨((a.y0 + 40).toNat, (max a.x0 b.x0 + 40).toNat), ((b.y1 + 39).toNat, (max a.x0 b.x0 + 40).toNat), inR_iff.2 (by simp only; omega), inR_iff.2 (by simp only; omega), .inr (.inr ⟨rfl, ?_⟩)⟩
        simp only; omega
  · rintro ⟨⟨y, x⟩, ⟨y', x'⟩, h1, h2, h⟩
    rw [inR_iff] at h1 h2
    simp only at h1 h2
    simp only [validR_iff, cmn]
    rcases h with h | ⟨h3, h4⟩ | ⟨h3, h4⟩
    · injection h with h3 h4; subst h3 h4; left; omega
    · simp only at h3 h4; omega
    · simp only at h3 h4; omega
theorem tch_iff {a b : List Rect} (ha : validRs a = true) (hb : validRs b = true) : tchR a b = true ↔ Tch (bits a) (bits b) := by
  simp only [tchR, List.any_eq_true]
  constructor
  · rintro ⟨p, hp, q, hq, h⟩
    obtain ⟨c, d, h1, h2, h3⟩ := (tch1 (valid_mem ha hp) (valid_mem hb hq)).1 h
    obtain ⟨c1, c2⟩ := inR_lt (valid_mem ha hp) h1
    obtain ⟨d1, d2⟩ := inR_lt (valid_mem hb hq) h2
    exact ⟨c, d, ⟨c1, c2, (gb_bits_iff c1 c2).2 ⟨p, hp, h1⟩⟩, ⟨d1, d2, (gb_bits_iff d1 d2).2 ⟨q, hq, h2⟩⟩, h3⟩
  · rintro ⟨c, d, ⟨c1, c2, c3⟩, ⟨d1, d2, d3⟩, h3⟩
    obtain ⟨p, hp, h1⟩ := (gb_bits_iff c1 c2).1 c3
    obtain ⟨q, hq, h2⟩ := (gb_bits_iff d1 d2).1 d3
    exact ⟨p, hp, q, hq, (tch1 (valid_mem ha hp) (valid_mem hb hq)).2 ⟨c, d, h1, h2, h3⟩⟩
theorem Tch.symm {A B : List Bool} (h : Tch A B) : Tch B A := by
  obtain ⟨a, b, h1, h2, h3⟩ := h
  exact ⟨b, a, h2, h1, h3.elim (fun e => .inl e.symm) fun e => .inr e.symm⟩
def Cnd (S : List Bool) : Prop := ∀ a b, On S a → On S b → Conn S a b
theorem comps_cnd {S c : List Bool} (h : c ∈ comps S) : Cnd c := by
  obtain ⟨j, hj, rfl⟩ := List.mem_map.1 h
  have hf : First S j := by
    have := (List.mem_filter.1 hj).2
    simpa using this
  have hs : On S (cel j) := hf.1
  have key : ∀ a, On (compB S (cel j)) a → Conn (compB S (cel j)) (cel j) a := fun a ha => by
    have h1 := (comp_iff ha.1 ha.2.1).1 ha.2.2
    have h0 : On (compB S (cel j)) (cel j) := ⟨hs.1, hs.2.1, (comp_iff hs.1 hs.2.1).2 .refl⟩
    exact (Conn.sub h1 h0 fun p q hp ha hq => ⟨hq.1, hq.2.1, (comp_iff hq.1 hq.2.1).2 (((comp_iff hp.1 hp.2.1).1 hp.2.2).step ha hq)⟩).1
  have h0 : On (compB S (cel j)) (cel j) := ⟨hs.1, hs.2.1, (comp_iff hs.1 hs.2.1).2 .refl⟩
  exact fun a b ha hb => ((key a ha).symm h0).trans (key b hb)
theorem comps_ne {S c : List Bool} (h : c ∈ comps S) : ∃ a, On c a := by
  obtain ⟨j, hj, rfl⟩ := List.mem_map.1 h
  have hf : First S j := by
    have := (List.mem_filter.1 hj).2
    simpa using this
  have hs : On S (cel j) := hf.1
  exact ⟨cel j, hs.1, hs.2.1, (comp_iff hs.1 hs.2.1).2 .refl⟩
def fw (t : Trans) (X Y : Int) : Int × Int := ((moveR t ⟨X, Y, X + 1, Y + 1⟩).x0, (moveR t ⟨X, Y, X + 1, Y + 1⟩).y0)
theorem ori {o : Int} (ho : 0 ≤ o ∧ o ≤ 7) : o = 0 ∨ o = 1 ∨ o = 2 ∨ o = 3 ∨ o = 4 ∨ o = 5 ∨ o = 6 ∨ o = 7 := by omega
theorem fw_in {t : Trans} (ho : 0 ≤ t.o ∧ t.o ≤ 7) {X Y : Int} {r : Rect} (h1 : r.x0 < r.x1) (h2 : r.y0 < r.y1) : cellIn (moveR t r) (fw t X Y).1 (fw t X Y).2 ↔ cellIn r X Y := by
  obtain ⟨o, tx, ty⟩ := t
  rcases ori ho with rfl | rfl | rfl | rfl | rfl | rfl | rfl | rfl <;> (simp [fw, cellIn, moveR, moveP, turnP, flip, rot]; omega)
theorem fw_surj {t : Trans} (ho : 0 ≤ t.o ∧ t.o ≤ 7) (X Y : Int) : ∃ X' Y', fw t X' Y' = (X, Y) := by
  obtain ⟨o, tx, ty⟩ := t
  rcases ori ho with rfl | rfl | rfl | rfl | rfl | rfl | rfl | rfl <;>
    first
    | exact ⟨X - tx, Y - ty, by simp [fw, moveR, moveP, turnP, flip, rot]; omega⟩
    | exact ⟨tx - 1 - X, Y - ty, by simp [fw, moveR, moveP, turnP, flip, rot]; omega⟩
    | exact ⟨X - tx, ty - 1 - Y, by simp [fw, moveR, moveP, turnP, flip, rot]; omega⟩
    | exact ⟨tx - 1 - X, ty - 1 - Y, by simp [fw, moveR, moveP, turnP, flip, rot]; omega⟩
    | exact ⟨Y - ty, X - tx, by simp [fw, moveR, moveP, turnP, flip, rot]; omega⟩
    | exact ⟨ty - 1 - Y, X - tx, by simp [fw, moveR, moveP, turnP, flip, rot]; omega⟩
    | exact ⟨Y - ty, tx - 1 - X, by simp [fw, moveR, moveP, turnP, flip, rot]; omega⟩
    | exact ⟨ty - 1 - Y, tx - 1 - X, by simp [fw, moveR, moveP, turnP, flip, rot]; omega⟩
def AdjI (X Y X' Y' : Int) : Prop := (Y = Y' ∧ (X = X' + 1 ∨ X' = X + 1)) ∨ (X = X' ∧ (Y = Y' + 1 ∨ Y' = Y + 1))
theorem fw_adj {t : Trans} (ho : 0 ≤ t.o ∧ t.o ≤ 7) {X Y X' Y' : Int} : AdjI (fw t X Y).1 (fw t X Y).2 (fw t X' Y').1 (fw t X' Y').2 ↔ AdjI X Y X' Y' := by
  obtain ⟨o, tx, ty⟩ := t
  rcases ori ho with rfl | rfl | rfl | rfl | rfl | rfl | rfl | rfl <;> (simp [AdjI, fw, moveR, moveP, turnP, flip, rot]; omega)
theorem fw_inj {t : Trans} (ho : 0 ≤ t.o ∧ t.o ≤ 7) {X Y X' Y' : Int} (h1 : (fw t X Y).1 = (fw t X' Y').1) (h2 : (fw t X Y).2 = (fw t X' Y').2) : X = X' ∧ Y = Y' := by
  obtain ⟨o, tx, ty⟩ := t
  rcases ori ho with rfl | rfl | rfl | rfl | rfl | rfl | rfl | rfl <;> (simp [fw, moveR, moveP, turnP, flip, rot] at h1 h2; omega)
def im (t : Trans) (a : Cel) : Cel := (((fw t ((a.2 : Int) - 40) ((a.1 : Int) - 40)).2 + 40).toNat, ((fw t ((a.2 : Int) - 40) ((a.1 : Int) - 40)).1 + 40).toNat)
theorem im_on {t : Trans} (ho : 0 ≤ t.o ∧ t.o ≤ 7) {xs : List Rect} (hx : ∀ r ∈ xs, validRect r = true) (hv : ∀ r ∈ xs, validRect (moveR t r) = true) {a : Cel} (h : On (bits xs) a) :
    (-40 ≤ (fw t ((a.2 : Int) - 40) ((a.1 : Int) - 40)).1 ∧ -40 ≤ (fw t ((a.2 : Int) - 40) ((a.1 : Int) - 40)).2) ∧ On (bits (xs.map (moveR t))) (im t a) := by
  obtain ⟨h1, h2, h3⟩ := h
  obtain ⟨r, hr, hi⟩ := (gb_bits_iff h1 h2).1 h3
  rw [inR_cell] at hi
  have hv1 := validR_iff.1 (hx r hr)
  have hv2 := validR_iff.1 (hv r hr)
  have hc := (fw_in ho (r := r) (by omega) (by omega)).2 hi
  have hc' := hc
  simp only [cellIn] at hc'
  refine ⟨by omega, ?_⟩
  have l1 : (im t a).1 < 80 := by simp only [im]; omega
  have l2 : (im t a).2 < 80 := by simp only [im]; omega
  refine ⟨l1, l2, (gb_bits_iff l1 l2).2 ⟨moveR t r, List.mem_map.2 ⟨r, hr, rfl⟩, ?_⟩⟩
  rw [inR_cell]
  simp only [im]
  rw [Int.toNat_of_nonneg (by omega), Int.toNat_of_nonneg (by omega), Int.add_sub_cancel, Int.add_sub_cancel]
  exact hc
theorem im_surj {t : Trans} (ho : 0 ≤ t.o ∧ t.o ≤ 7) {xs : List Rect} (hx : ∀ r ∈ xs, validRect r = true) {b : Cel} (h : On (bits (xs.map (moveR t))) b) : ∃ a, On (bits xs) a ∧ im t a = b := by
  obtain ⟨h1, h2, h3⟩ := h
  obtain ⟨r', hr', hi⟩ := (gb_bits_iff h1 h2).1 h3
  obtain ⟨r, hr, er⟩ := List.mem_map.1 hr'
  subst er
  rw [inR_cell] at hi
  have hv1 := validR_iff.1 (hx r hr)
  obtain ⟨X, Y, e⟩ := fw_surj ho ((b.2 : Int) - 40) ((b.1 : Int) - 40)
  have hc : cellIn r X Y := (fw_in ho (by omega) (by omega)).1 (by rw [e]; exact hi)
  have hc' := hc
  simp only [cellIn] at hc'
  have e1 : (((X + 40).toNat : Nat) : Int) - 40 = X := by omega
  have e2 : (((Y + 40).toNat : Nat) : Int) - 40 = Y := by omega
  refine ⟨((Y + 40).toNat, (X + 40).toNat), ⟨by simp only; omega, by simp only; omega, (gb_bits_iff (by simp only; omega) (by simp only; omega)).2 ⟨r, hr, ?_⟩⟩, ?_⟩
  · rw [inR_cell]; simp only [e1, e2]; exact hc
  · simp only [im, e1, e2, e]
    obtain ⟨b1, b2⟩ := b
    simp only [Prod.mk.injEq]; omega
theorem im_adj {t : Trans} (ho : 0 ≤ t.o ∧ t.o ≤ 7) {xs : List Rect} (hx : ∀ r ∈ xs, validRect r = true) (hv : ∀ r ∈ xs, validRect (moveR t r) = true) {a b : Cel} (ha : On (bits xs) a) (hb : On (bits xs) b) (h : Adj a b) : Adj (im t a) (im t b) := by
  have h1 := (im_on ho hx hv ha).1
  have h2 := (im_on ho hx hv hb).1
  have h3 : AdjI ((a.2 : Int) - 40) ((a.1 : Int) - 40) ((b.2 : Int) - 40) ((b.1 : Int) - 40) := by
    simp only [AdjI, Adj] at h ⊢; omega
  have h4 := (fw_adj ho).2 h3
  simp only [AdjI, Adj, im] at h4 ⊢
  omega
theorem im_adj' {t : Trans} (ho : 0 ≤ t.o ∧ t.o ≤ 7) {xs ys : List Rect} (hx : ∀ r ∈ xs, validRect r = true) (hv : ∀ r ∈ xs, validRect (moveR t r) = true) (hy : ∀ r ∈ ys, validRect r = true) (hw : ∀ r ∈ ys, validRect (moveR t r) = true) {a b : Cel} (ha : On (bits xs) a) (hb : On (bits ys) b) (h : im t a = im t b ∨ Adj (im t a) (im t b)) : a = b ∨ Adj a b := by
  have h1 := (im_on ho hx hv ha).1
  have h2 := (im_on ho hy hw hb).1
  obtain ⟨a1, a2⟩ := a
  obtain ⟨b1, b2⟩ := b
  rcases h with h | h
  · left
    simp only [im, Prod.mk.injEq] at h h1 h2
    have := fw_inj ho (X := (a2 : Int) - 40) (Y := (a1 : Int) - 40) (X' := (b2 : Int) - 40) (Y' := (b1 : Int) - 40) (by omega) (by omega)
    simp only [Prod.mk.injEq]; omega
  · right
    have h3 : AdjI (fw t ((a2 : Int) - 40) ((a1 : Int) - 40)).1 (fw t ((a2 : Int) - 40) ((a1 : Int) - 40)).2 (fw t ((b2 : Int) - 40) ((b1 : Int) - 40)).1 (fw t ((b2 : Int) - 40) ((b1 : Int) - 40)).2 := by
      simp only [AdjI, Adj, im] at h h1 h2 ⊢; omega
    have h4 := (fw_adj ho).1 h3
    simp only [AdjI, Adj] at h4 ⊢; omega
/-- a connected figure is connected when moved -/
theorem cnd_mv {t : Trans} (ho : 0 ≤ t.o ∧ t.o ≤ 7) {xs : List Rect} (hx : ∀ r ∈ xs, validRect r = true) (hv : ∀ r ∈ xs, validRect (moveR t r) = true) (h : Cnd (bits xs)) : Cnd (bits (xs.map (moveR t))) := fun a' b' ha' hb' => by
  obtain ⟨a, ha, ea⟩ := im_surj ho hx ha'
  obtain ⟨b, hb, eb⟩ := im_surj ho hx hb'
  subst ea eb
  have hc := h a b ha hb
  have key : ∀ c, Conn (bits xs) a c → Conn (bits (xs.map (moveR t))) (im t a) (im t c) := fun c hc => by
    induction hc with
    | refl => exact .refl
    | step h1 h2 h3 ih => exact ih.step (im_adj ho hx hv (h1.on ha) h3 h2) (im_on ho hx hv h3).2
  exact key b hc
end Go.Proofs.Ythhjapiggekjbaa
namespace Go.Proofs.Ythhjapiggekjbaa
set_option linter.unusedVariables false
set_option linter.unusedSimpArgs false
open Go
set_option maxRecDepth 20000
set_option linter.unusedSimpArgs false
def pb (q : Int × List Rect) : Int × List Bool := (q.1, bits q.2)
theorem pb_pcR {q : Int × List Rect} (h : isReg q.2 = true) : pcR (pb q) = q := by rw [pcR, pb]; simp only [isReg_eq h]
structure PF (l : List (List Rect)) (q : Int × List Rect) (i : Nat) : Prop where
  hi : i < 4
  lay : q.1 = gd [0, 1, 3, 5] i
  reg : isReg q.2 = true
  cnd : Cnd (bits q.2)
  ne : ∃ a, On (bits q.2) a
  sub : ∀ a, On (bits q.2) a → On (gd (condB l) i) a
structure PAll (l : List (List Rect)) (E : List (Int × List Rect)) : Prop where
  mem : ∀ q ∈ E, ∃ i, PF l q i
  cov : ∀ i a, i < 4 → On (gd (condB l) i) a → ∃ q ∈ E, q.1 = gd [0, 1, 3, 5] i ∧ On (bits q.2) a
def JH (l : List (List Rect)) (E : List (Int × List Rect)) (k i : Nat) : Bool := (decide ((gd E k).1 = (gd E i).1) && tchR (gd E k).2 (gd E i).2) || jnI l (gd E k) (gd E i)
def clsH (l : List (List Rect)) (E : List (Int × List Rect)) : List Int := rootsJ (JH l E) E.length
theorem clsH_len (l : List (List Rect)) (E : List (Int × List Rect)) : (clsH l E).length = E.length := rootsJ_len _ _
theorem clsH_rt (l : List (List Rect)) (E : List (Int × List Rect)) : Rt (clsH l E) := rt_roots _ _
noncomputable def numH (l : List (List Rect)) (q : Int × List Rect) : Int := findL l q.1 (gd q.2 0).x0 (gd q.2 0).y0
def jnC (l : List (List Rect)) (m n : Int) (y x : Nat) : Bool := !decide (m = n) && (gb (bits (gd l 2)) y x && (decide (m = 3) || decide (n = 3)) && !(decide (m = 5) || decide (n = 5)) || gb (bits (gd l 4)) y x && (decide (m = 3) || decide (n = 3)) && (decide (m = 5) || decide (n = 5)))
theorem jnL_iff {l : List (List Rect)} {p q : Int × List Bool} : jnL l p q = true ↔ ∃ a : Cel, On p.2 a ∧ On q.2 a ∧ jnC l p.1 q.1 a.1 a.2 = true := by
  simp only [jnL, jnR, Bool.and_eq_true, List.any_eq_true, List.mem_range, jnC, On, gb]
  constructor
  · rintro ⟨h0, n, hn, ⟨h1, h2⟩, h3⟩
    have e : n / 80 * 80 + n % 80 = n := by omega
    exact ⟨(n / 80, n % 80), ⟨by simp only; omega, by simp only; omega, by simp only [e]; exact h1⟩, ⟨by simp only; omega, by simp only; omega, by simp only [e]; exact h2⟩, h0, by simp only [e]; exact h3⟩
  · rintro ⟨⟨y, x⟩, ⟨hy, hx, h1⟩, ⟨-, -, h2⟩, h0, h3⟩
    simp only at hy hx h1 h2 h3
    exact ⟨h0, y * 80 + x, by omega, ⟨h1, h2⟩, h3⟩
theorem PF.isL {l : List (List Rect)} {q : Int × List Rect} {i : Nat} (h : PF l q i) : Go.Proofs.Ythhjapiggekjbaa.isL q.1 := by rw [h.lay]; exact isL_lay h.hi
theorem lay_inj {i k : Nat} (hi : i < 4) (hk : k < 4) (h : (gd [0, 1, 3, 5] i : Int) = gd [0, 1, 3, 5] k) : i = k := by
  rcases Nat.lt_trichotomy i k with c | c | c
  · exact absurd h (lay_ne c hk)
  · exact c
  · exact absurd h.symm (lay_ne c hi)
theorem PAll.iff {l : List (List Rect)} {E : List (Int × List Rect)} (h : PAll l E) (hl : isLay l = true) {k i : Nat} (hk : k < E.length) (hi : i < E.length) : JH l E k i = true ↔ ((gd E k).1 = (gd E i).1 ∧ Tch (bits (gd E k).2) (bits (gd E i).2)) ∨ jnL l (pb (gd E k)) (pb (gd E i)) = true := by
  obtain ⟨m, hm⟩ := h.mem _ (gd_mem hk)
  obtain ⟨n, hn⟩ := h.mem _ (gd_mem hi)
  have e := jn_eq hl (p := pb (gd E k)) (q := pb (gd E i)) hm.isL hn.isL (bits_length _) (bits_length _)
  rw [pb_pcR hm.reg, pb_pcR hn.reg] at e
  rw [JH, e, Bool.or_eq_true, Bool.and_eq_true, decide_eq_true_eq, tch_iff (isReg_valid hm.reg) (isReg_valid hn.reg)]
theorem PAll.symm {l : List (List Rect)} {E : List (Int × List Rect)} (h : PAll l E) (hl : isLay l = true) {k i : Nat} (hk : k < E.length) (hi : i < E.length) (hJ : JH l E k i = true) : JH l E i k = true := by
  rw [h.iff hl hi hk]
  rcases (h.iff hl hk hi).1 hJ with ⟨e, t⟩ | t
  · exact .inl ⟨e.symm, t.symm⟩
  · rw [jnL_symm]; exact .inr t
theorem PAll.join {l : List (List Rect)} {E : List (Int × List Rect)} (h : PAll l E) (hl : isLay l = true) {k i : Nat} (hk : k < E.length) (hi : i < E.length) (hJ : JH l E k i = true) : gd (clsH l E) k = gd (clsH l E) i := by
  rcases Nat.lt_trichotomy k i with c | c | c
  · exact rootsJ_join c hi hJ
  · rw [c]
  · exact (rootsJ_join c hk (h.symm hl hk hi hJ)).symm
theorem piece_in {l : List (List Rect)} {j : Nat} (hj : j < (pcL l 4).length) : ∃ i, i < 4 ∧ (gd (pcL l 4) j).1 = gd [0, 1, 3, 5] i ∧ (gd (pcL l 4) j).2 ∈ comps (gd (condB l) i) := by
  have hm := gd_mem hj
  rw [pcL] at hm
  obtain ⟨z, hz, hq⟩ := List.mem_flatten.1 hm
  obtain ⟨i, hi, rfl⟩ := List.mem_map.1 hz
  obtain ⟨c, hc, e⟩ := List.mem_map.1 hq
  rw [← pcL] at e
  rw [← e]
  exact ⟨i, List.mem_range.1 hi, rfl, hc⟩
theorem piece_sub {l : List (List Rect)} {i j : Nat} (hi : i < 4) (hj : j < (pcL l 4).length) (e : (gd (pcL l 4) j).1 = gd [0, 1, 3, 5] i) {a : Cel} (h : On (gd (pcL l 4) j).2 a) : On (gd (condB l) i) a := by
  obtain ⟨i', hi', e', hc⟩ := piece_in hj
  obtain rfl := lay_inj hi hi' (e.symm.trans e')
  exact ⟨h.1, h.2.1, comp_sub hc h.1 h.2.1 h.2.2⟩
theorem piece_uniq {l : List (List Rect)} {i j : Nat} (hi : i < (pcL l 4).length) (hj : j < (pcL l 4).length) (e : (gd (pcL l 4) i).1 = (gd (pcL l 4) j).1) {a : Cel} (h1 : On (gd (pcL l 4) i).2 a) (h2 : On (gd (pcL l 4) j).2 a) : i = j :=
  pcL_uniq hi hj e h1.1 h1.2.1 h1.2.2 h2.2.2
theorem piece_closed {l : List (List Rect)} {i j : Nat} (hi : i < 4) (hj : j < (pcL l 4).length) (e : (gd (pcL l 4) j).1 = gd [0, 1, 3, 5] i) {a b : Cel} (ha : On (gd (pcL l 4) j).2 a) (hab : Adj a b) (hb : On (gd (condB l) i) b) : On (gd (pcL l 4) j).2 b := by
  have hs := piece_sub hi hj e ha
  obtain ⟨j', hj', e', h1, h2⟩ := piece_at hi hs.1 hs.2.1 hs.2.2
  obtain rfl := piece_uniq hj hj' (e.trans e'.symm) ha ⟨hs.1, hs.2.1, h1⟩
  exact ⟨hb.1, hb.2.1, h2 _ _ hb.1 hb.2.1 hab hb.2.2⟩
theorem region_first {r : List Rect} (hr : isReg r = true) (h : ∃ a, On (bits r) a) : 0 < r.length ∧ validRect (gd r 0) = true ∧ On (bits r) (((gd r 0).y0 + 40).toNat, ((gd r 0).x0 + 40).toNat) := by
  obtain ⟨a, h1, h2, h3⟩ := h
  obtain ⟨q, hq, -⟩ := (gb_bits_iff h1 h2).1 h3
  have hl : 0 < r.length := List.length_pos_of_mem hq
  have hv := reg_valid hr _ (gd_mem hl)
  have hv' := validR_iff.1 hv
  refine ⟨hl, hv, by simp only; omega, by simp only; omega, (gb_bits_iff (by simp only; omega) (by simp only; omega)).2 ⟨_, gd_mem hl, inR_iff.2 (by simp only; omega)⟩⟩
/-- a placed piece lies in one piece of the flattened layout -/
theorem PF.flat {l : List (List Rect)} {q : Int × List Rect} {i : Nat} (h : PF l q i) : ∃ j, j < (pcL l 4).length ∧ (gd (pcL l 4) j).1 = gd [0, 1, 3, 5] i ∧ (∀ a, On (bits q.2) a → On (gd (pcL l 4) j).2 a) ∧ numH l q = (numR (clsL l) j : Int) := by
  obtain ⟨h0, hv, hf⟩ := region_first h.reg h.ne
  have hs := h.sub _ hf
  obtain ⟨j, hj, e, h1, -⟩ := piece_at h.hi hs.1 hs.2.1 hs.2.2
  have hp : On (gd (pcL l 4) j).2 (((gd q.2 0).y0 + 40).toNat, ((gd q.2 0).x0 + 40).toNat) := ⟨hs.1, hs.2.1, h1⟩
  refine ⟨j, hj, e, fun a ha => ?_, ?_⟩
  · have hc := h.cnd _ a hf ha
    induction hc with
    | refl => exact hp
    | step g1 g2 g3 ih => exact piece_closed h.hi hj e (ih (g1.on hf)) g2 (h.sub _ g3)
  · rw [numH]
    rw [validR_iff] at hv
    exact findL_at hj (atB_of (by omega) (e.trans h.lay.symm) h1)
theorem PAll.num {l : List (List Rect)} {E : List (Int × List Rect)} (h : PAll l E) (hl : isLay l = true) {k i : Nat} (hk : k < E.length) (hi : i < E.length) (hJ : JH l E k i = true) : numH l (gd E k) = numH l (gd E i) := by
  obtain ⟨m, hm⟩ := h.mem _ (gd_mem hk)
  obtain ⟨n, hn⟩ := h.mem _ (gd_mem hi)
  obtain ⟨j1, a1, a2, a3, a4⟩ := hm.flat
  obtain ⟨j2, b1, b2, b3, b4⟩ := hn.flat
  rw [a4, b4]
  rcases (h.iff hl hk hi).1 hJ with ⟨e, a, b, ha, hb, hab⟩ | t
  · have e' : (gd (pcL l 4) j1).1 = (gd (pcL l 4) j2).1 := by rw [a2, b2, ← hm.lay, ← hn.lay, e]
    have hb2 : On (gd (pcL l 4) j1).2 b := by
      rcases hab with rfl | hab
      · exact a3 _ ha
      · refine piece_closed hm.hi a1 a2 (a3 _ ha) hab ?_
        have e2 : n = m := lay_inj hn.hi hm.hi (by rw [← hm.lay, ← hn.lay, e])
        rw [← e2]; exact hn.sub _ hb
    rw [piece_uniq a1 b1 e' hb2 (b3 _ hb)]
  · obtain ⟨a, ha, hb, hc⟩ := jnL_iff.1 t
    rw [numR_join a1 b1 (jnL_iff.2 ⟨a, a3 _ ha, b3 _ hb, by rw [a2, b2, ← hm.lay, ← hn.lay]; exact hc⟩)]
/-- placed pieces in one flattened piece are in one class -/
theorem PAll.same {l : List (List Rect)} {E : List (Int × List Rect)} (h : PAll l E) (hl : isLay l = true) {j : Nat} (hj : j < (pcL l 4).length) {k : Nat} (hk : k < E.length) (ek : (gd E k).1 = (gd (pcL l 4) j).1) {a : Cel} (ha : On (bits (gd E k).2) a) (ha2 : On (gd (pcL l 4) j).2 a) :
    ∀ b, On (gd (pcL l 4) j).2 b → ∀ k2, k2 < E.length → (gd E k2).1 = (gd (pcL l 4) j).1 → On (bits (gd E k2).2) b → gd (clsH l E) k2 = gd (clsH l E) k := fun b hb => by
  obtain ⟨i, hi, e, hc⟩ := piece_in hj
  have hcn := comps_cnd hc a b ha2 hb
  induction hcn with
  | refl => exact fun k2 h1 h2 h3 => h.join hl h1 hk ((h.iff hl h1 hk).2 (.inl ⟨h2.trans ek.symm, a, a, h3, ha, .inl rfl⟩))
  | step g1 g2 g3 ih =>
    intro k2 h1 h2 h3
    have hb' := g1.on ha2
    obtain ⟨q, hq, q1, q2⟩ := h.cov i _ hi (piece_sub hi hj e hb')
    obtain ⟨k3, hk3, rfl⟩ := List.getElem_of_mem hq
    have e3 : gd E k3 = E[k3] := gd_eq hk3
    rw [← e3] at q1 q2
    rw [← ih hb' k3 hk3 (q1.trans e.symm) q2]
    exact h.join hl h1 hk3 ((h.iff hl h1 hk3).2 (.inl ⟨by rw [h2, q1, e], _, _, h3, q2, .inr g2.symm⟩))
open Classical in
noncomputable def gCls (l : List (List Rect)) (E : List (Int × List Rect)) (j : Nat) : Int := if h : ∃ k, k < E.length ∧ (gd E k).1 = (gd (pcL l 4) j).1 ∧ ∃ a, On (bits (gd E k).2) a ∧ On (gd (pcL l 4) j).2 a then gd (clsH l E) h.choose else 0
theorem PAll.gCls {l : List (List Rect)} {E : List (Int × List Rect)} (h : PAll l E) (hl : isLay l = true) {j : Nat} (hj : j < (pcL l 4).length) {k : Nat} (hk : k < E.length) (ek : (gd E k).1 = (gd (pcL l 4) j).1) {a : Cel} (ha : On (bits (gd E k).2) a) (ha2 : On (gd (pcL l 4) j).2 a) : gCls l E j = gd (clsH l E) k := by
  have hx : ∃ k, k < E.length ∧ (gd E k).1 = (gd (pcL l 4) j).1 ∧ ∃ a, On (bits (gd E k).2) a ∧ On (gd (pcL l 4) j).2 a := ⟨k, hk, ek, a, ha, ha2⟩
  rw [Go.Proofs.Ythhjapiggekjbaa.gCls, dif_pos hx]
  obtain ⟨h1, h2, b, h3, h4⟩ := hx.choose_spec
  exact h.same hl hj hk ek ha ha2 b h4 _ h1 h2 h3
theorem PAll.snd {l : List (List Rect)} {E : List (Int × List Rect)} (h : PAll l E) (hl : isLay l = true) : Snd (Go.Proofs.Ythhjapiggekjbaa.gCls l E) (clsL l) := by
  refine Snd.roots _ fun k i hki hi hJ => ?_
  have hk : k < (pcL l 4).length := by omega
  rw [JL] at hJ
  obtain ⟨a, ha, hb, hc⟩ := jnL_iff.1 hJ
  obtain ⟨m, hm, em, -⟩ := piece_in hk
  obtain ⟨n, hn, en, -⟩ := piece_in hi
  obtain ⟨p, hp, p1, p2⟩ := h.cov m a hm (piece_sub hm hk em ha)
  obtain ⟨q, hq, q1, q2⟩ := h.cov n a hn (piece_sub hn hi en hb)
  obtain ⟨k1, hk1, rfl⟩ := List.getElem_of_mem hp
  obtain ⟨k2, hk2, rfl⟩ := List.getElem_of_mem hq
  rw [← gd_eq hk1] at p1 p2
  rw [← gd_eq hk2] at q1 q2
  rw [h.gCls hl hk hk1 (p1.trans em.symm) p2 ha, h.gCls hl hi hk2 (q1.trans en.symm) q2 hb]
  exact h.join hl hk1 hk2 ((h.iff hl hk1 hk2).2 (.inr (jnL_iff.2 ⟨a, p2, q2, by simp only [pb]; rw [p1, q1, ← em, ← en]; exact hc⟩)))
theorem PAll.cls {l : List (List Rect)} {E : List (Int × List Rect)} (h : PAll l E) (hl : isLay l = true) {a b : Nat} (ha : a < E.length) (hb : b < E.length) : gd (clsH l E) a = gd (clsH l E) b ↔ numH l (gd E a) = numH l (gd E b) := by
  constructor
  · have hs : Snd (fun k => numH l (gd E k)) (clsH l E) := Snd.roots _ fun k i hki hi hJ => h.num hl (by omega) hi hJ
    exact fun e => hs.of_eq (by rw [clsH_len]; exact ha) (by rw [clsH_len]; exact hb) e
  · intro e
    obtain ⟨m, hm⟩ := h.mem _ (gd_mem ha)
    obtain ⟨n, hn⟩ := h.mem _ (gd_mem hb)
    obtain ⟨j1, a1, a2, a3, a4⟩ := hm.flat
    obtain ⟨j2, b1, b2, b3, b4⟩ := hn.flat
    rw [a4, b4] at e
    have e2 := numR_inj (clsL_rt l) (a := j1) (b := j2) (by rw [clsL_len]; exact a1) (by rw [clsL_len]; exact b1) (by omega)
    have e3 := (h.snd hl).of_eq (a := j1) (b := j2) (by rw [clsL_len]; exact a1) (by rw [clsL_len]; exact b1) e2
    obtain ⟨c, hc⟩ := hm.ne
    obtain ⟨d, hd⟩ := hn.ne
    rwa [h.gCls hl a1 ha (hm.lay.trans a2.symm) hc (a3 _ hc), h.gCls hl b1 hb (hn.lay.trans b2.symm) hd (b3 _ hd)] at e3
/-- the class of a placed piece is the first piece with its number -/
theorem PAll.first {l : List (List Rect)} {E : List (Int × List Rect)} (h : PAll l E) (hl : isLay l = true) {i : Nat} (hi : i < E.length) : ∃ m : Nat, gd (clsH l E) i = (m : Int) ∧ m ≤ i ∧ numH l (gd E m) = numH l (gd E i) ∧ ∀ k, k < m → numH l (gd E k) ≠ numH l (gd E i) := by
  obtain ⟨h1, h2, h3⟩ := clsH_rt l E i (by rw [clsH_len]; exact hi)
  refine ⟨(gd (clsH l E) i).toNat, by omega, by omega, (h.cls hl (by omega) hi).1 h3, fun k hk e => ?_⟩
  have e2 := (h.cls hl (by omega) hi).2 e
  obtain ⟨k1, k2, k3⟩ := clsH_rt l E k (by rw [clsH_len]; omega)
  omega
end Go.Proofs.Ythhjapiggekjbaa
namespace Go.Proofs.Ythhjapiggekjbaa
set_option linter.unusedVariables false
set_option linter.unusedSimpArgs false
open Go
set_option maxRecDepth 20000
set_option linter.unusedSimpArgs false
theorem mvV {t : Trans} {r b c : Rect} (ho : 0 ≤ t.o ∧ t.o ≤ 7) (hr : r.x0 < r.x1 ∧ r.y0 < r.y1) (hb : b.x0 ≤ r.x0 ∧ r.x0 < b.x1 ∧ b.y0 ≤ r.y0 ∧ r.y0 < b.y1) (hc : c.x0 ≤ r.x1 - 1 ∧ r.x1 ≤ c.x1 ∧ c.y0 ≤ r.y1 - 1 ∧ r.y1 ≤ c.y1)
    (h1 : validRect (moveR t b) = true) (h2 : validRect (moveR t c) = true) : validRect (moveR t r) = true := by
  obtain ⟨o, tx, ty⟩ := t
  rw [validR_iff] at *
  rcases ori ho with rfl | rfl | rfl | rfl | rfl | rfl | rfl | rfl <;> (simp [moveR, moveP, turnP, flip, rot] at h1 h2 ⊢; omega)
theorem canonV {t : Trans} {S : List Bool} {bs : List Rect} (ho : 0 ≤ t.o ∧ t.o ≤ 7) (hS : S.length = 6400) (hsub : ∀ a, On S a → On (bits bs) a) (hv : ∀ b ∈ bs, validRect (moveR t b) = true) : ∀ r ∈ canon S, validRect (moveR t r) = true := by
  intro r hr
  have hv1 := validR_iff.1 (reg_valid (isReg_canon hS) r hr)
  have key : ∀ y x : Nat, y < 80 → x < 80 → inR r y x = true → ∃ b ∈ bs, inR b y x = true := fun y x hy hx h => by
    have h1 : gb (bits (canon S)) y x = true := (gb_bits_iff hy hx).2 ⟨r, hr, h⟩
    rw [bits_canon hS] at h1
    exact (gb_bits_iff hy hx).1 (hsub (y, x) ⟨hy, hx, h1⟩).2.2
  obtain ⟨b, hb, hb2⟩ := key (r.y0 + 40).toNat (r.x0 + 40).toNat (by omega) (by omega) (by rw [inR_iff]; omega)
  obtain ⟨c, hc, hc2⟩ := key (r.y1 + 39).toNat (r.x1 + 39).toNat (by omega) (by omega) (by rw [inR_iff]; omega)
  rw [inR_iff] at hb2 hc2
  exact mvV ho (by omega) (by omega) (by omega) (hv b hb) (hv c hc)
theorem im_inj {t : Trans} (ho : 0 ≤ t.o ∧ t.o ≤ 7) {xs ys : List Rect} (hx : ∀ r ∈ xs, validRect r = true) (hv : ∀ r ∈ xs, validRect (moveR t r) = true) (hy : ∀ r ∈ ys, validRect r = true) (hw : ∀ r ∈ ys, validRect (moveR t r) = true) {a b : Cel} (ha : On (bits xs) a) (hb : On (bits ys) b) (h : im t a = im t b) : a = b := by
  have h1 := (im_on ho hx hv ha).1
  have h2 := (im_on ho hy hw hb).1
  obtain ⟨a1, a2⟩ := a
  obtain ⟨b1, b2⟩ := b
  simp only [im, Prod.mk.injEq] at h h1 h2
  have := fw_inj ho (X := (a2 : Int) - 40) (Y := (a1 : Int) - 40) (X' := (b2 : Int) - 40) (Y' := (b1 : Int) - 40) (by omega) (by omega)
  simp only [Prod.mk.injEq]; omega
def cells (S : List Bool) : List Nat := (List.range 6400).filter fun k => gd S k
theorem cells_mem {S : List Bool} {k : Nat} : k ∈ cells S ↔ On S (cel k) ∧ k < 6400 := by
  have e : k / 80 * 80 + k % 80 = k := by omega
  simp only [cells, List.mem_filter, List.mem_range, On, cel, gb, e]
  constructor
  · rintro ⟨h1, h2⟩; exact ⟨⟨by omega, by omega, h2⟩, h1⟩
  · rintro ⟨⟨_, _, h2⟩, h1⟩; exact ⟨h1, h2⟩
theorem cells_cnt {S : List Bool} (h : S.length = 6400) : cnt S = ((cells S).length : Int) := by
  have key : ∀ n, n ≤ S.length → cnt (S.take n) = (((List.range n).filter fun k => gd S k).length : Int) := fun n => by
    induction n with
    | zero => intro _; simp [cnt]
    | succ n ih =>
      intro hn
      rw [cnt_take (by omega), ih (by omega), List.range_succ, List.filter_append, List.length_append]
      cases hg : gd S n <;> simp [hg]
  have := key 6400 (by omega)
  rwa [List.take_of_length_le (by omega)] at this
theorem nodup_map {f : Nat → Nat} {l : List Nat} (h : l.Nodup) (hf : ∀ a ∈ l, ∀ b ∈ l, f a = f b → a = b) : (l.map f).Nodup := by
  unfold List.Nodup at *
  rw [List.pairwise_map]
  exact h.imp_of_mem fun ha hb hne e => hne (hf _ ha _ hb e)
theorem nodup_range_filter (p : Nat → Bool) (n : Nat) : ((List.range n).filter p).Nodup := List.nodup_range.filter p
theorem cells_nodup (S : List Bool) : (cells S).Nodup := nodup_range_filter _ _
theorem cnt_mv {t : Trans} (ho : 0 ≤ t.o ∧ t.o ≤ 7) {xs : List Rect} (hx : ∀ r ∈ xs, validRect r = true) (hv : ∀ r ∈ xs, validRect (moveR t r) = true) : cnt (bits (xs.map (moveR t))) = cnt (bits xs) := by
  rw [cells_cnt (bits_length _), cells_cnt (bits_length _)]
  have hp : ((cells (bits xs)).map fun k => pos (im t (cel k))).Perm (cells (bits (xs.map (moveR t)))) := by
    rw [List.perm_ext_iff_of_nodup (nodup_map (cells_nodup _) fun a ha b hb e => ?_) (cells_nodup _)]
    · intro k
      rw [List.mem_map, cells_mem]
      constructor
      · rintro ⟨j, hj, rfl⟩
        obtain ⟨h1, -⟩ := cells_mem.1 hj
        have h2 := (im_on ho hx hv h1).2
        rw [cel_pos h2.2.1]
        refine ⟨h2, ?_⟩
        have := h2.1; have := h2.2.1
        simp only [pos]; omega
      · rintro ⟨h1, hk⟩
        obtain ⟨a, ha, e⟩ := im_surj ho hx h1
        refine ⟨pos a, cells_mem.2 ⟨by rw [cel_pos ha.2.1]; exact ha, ?_⟩, ?_⟩
        · have := ha.1; have := ha.2.1; simp only [pos]; omega
        · rw [cel_pos ha.2.1, e, pos_cel]
    · obtain ⟨h1, -⟩ := cells_mem.1 ha
      obtain ⟨h2, -⟩ := cells_mem.1 hb
      have i1 := (im_on ho hx hv h1).2
      have i2 := (im_on ho hx hv h2).2
      have e2 : im t (cel a) = im t (cel b) := by rw [← cel_pos i1.2.1, ← cel_pos i2.2.1, e]
      have e3 := im_inj ho hx hv hx hv h1 h2 e2
      rw [← pos_cel a, ← pos_cel b, e3]
  have := hp.length_eq
  rw [List.length_map] at this
  omega
def lyM (i : Nat) : Nat := (gd [0, 1, 3, 5] i : Int).toNat
theorem lyM_lt {i : Nat} (h : i < 4) : lyM i < 8 := by
  rcases (by omega : i = 0 ∨ i = 1 ∨ i = 2 ∨ i = 3) with rfl | rfl | rfl | rfl <;> simp [lyM, gd]
theorem cond_on {l : List (List Rect)} {i : Nat} (hi : i < 4) {a : Cel} : On (gd (condB l) i) a ↔ On (bits (gd l (lyM i))) a ∧ (i = 0 → gb (bits (gd l 1)) a.1 a.2 = false) := by
  have hz : a.1 < 80 → a.2 < 80 → gb (zipB (fun p q => p && !q) (bits (gd l 0)) (bits (gd l 1))) a.1 a.2 = (gb (bits (gd l 0)) a.1 a.2 && !gb (bits (gd l 1)) a.1 a.2) := fun h1 h2 => by
    unfold gb; rw [zipB_gd (by rw [bits_length]; omega) (by rw [bits_length]; omega)]
  simp only [On]
  rcases (by omega : i = 0 ∨ i = 1 ∨ i = 2 ∨ i = 3) with rfl | rfl | rfl | rfl
  · rw [cB0]
    constructor
    · rintro ⟨h1, h2, h3⟩
      rw [hz h1 h2] at h3
      simp only [Bool.and_eq_true, Bool.not_eq_true'] at h3
      exact ⟨⟨h1, h2, by simpa [lyM, gd] using h3.1⟩, fun _ => h3.2⟩
    · rintro ⟨⟨h1, h2, h3⟩, h4⟩
      refine ⟨h1, h2, ?_⟩
      rw [hz h1 h2, h4 rfl]
      have h3 : gb (bits (gd l 0)) a.1 a.2 = true := by simpa [lyM, gd] using h3
      rw [h3]; rfl
  · rw [cB1]; simp [lyM, gd]
  · rw [cB2]; simp [lyM, gd]
  · rw [cB3]; simp [lyM, gd]
structure Tn (t : Trans) (l l' : List (List Rect)) : Prop where
  ho : 0 ≤ t.o ∧ t.o ≤ 7
  hl : isLay l = true
  hl' : isLay l' = true
  b : ∀ n, n < 8 → bits (gd l' n) = bits ((gd l n).map (moveR t))
  v : ∀ n, n < 8 → ∀ r ∈ gd l n, validRect (moveR t r) = true
section
variable {t : Trans} {l l' : List (List Rect)}
theorem Tn.r (h : Tn t l l') {n : Nat} (hn : n < 8) : ∀ r ∈ gd l n, validRect r = true := reg_valid (isLay_reg h.hl hn)
/-- a cell of a figure is on a layer exactly if its image is on the moved layer -/
theorem Tn.lay (h : Tn t l l') {n : Nat} (hn : n < 8) {xs : List Rect} (hx : ∀ r ∈ xs, validRect r = true) (hv : ∀ r ∈ xs, validRect (moveR t r) = true) {a : Cel} (ha : On (bits xs) a) : gb (bits (gd l' n)) (im t a).1 (im t a).2 = gb (bits (gd l n)) a.1 a.2 := by
  have hi := (im_on h.ho hx hv ha).2
  rw [Bool.eq_iff_iff, h.b n hn]
  constructor
  · intro hg
    obtain ⟨b, hb, e⟩ := im_surj h.ho (h.r hn) (b := im t a) ⟨hi.1, hi.2.1, hg⟩
    rw [← im_inj h.ho (h.r hn) (h.v n hn) hx hv hb ha e]
    exact hb.2.2
  · intro hg
    exact (im_on h.ho (h.r hn) (h.v n hn) (a := a) ⟨ha.1, ha.2.1, hg⟩).2.2.2
theorem Tn.fwd (h : Tn t l l') {i : Nat} (hi : i < 4) {a : Cel} (ha : On (gd (condB l) i) a) : On (gd (condB l') i) (im t a) := by
  obtain ⟨h1, h2⟩ := (cond_on hi).1 ha
  have h3 := (im_on h.ho (h.r (lyM_lt hi)) (h.v _ (lyM_lt hi)) h1).2
  refine (cond_on hi).2 ⟨?_, fun h0 => ?_⟩
  · rw [h.b _ (lyM_lt hi)]; exact h3
  · rw [h.lay (by omega) (h.r (lyM_lt hi)) (h.v _ (lyM_lt hi)) h1, h2 h0]
theorem Tn.bwd (h : Tn t l l') {i : Nat} (hi : i < 4) {a' : Cel} (ha : On (gd (condB l') i) a') : ∃ a, On (gd (condB l) i) a ∧ im t a = a' := by
  obtain ⟨h1, h2⟩ := (cond_on hi).1 ha
  rw [h.b _ (lyM_lt hi)] at h1
  obtain ⟨a, h3, rfl⟩ := im_surj h.ho (h.r (lyM_lt hi)) h1
  refine ⟨a, (cond_on hi).2 ⟨h3, fun h0 => ?_⟩, rfl⟩
  rw [← h.lay (by omega) (h.r (lyM_lt hi)) (h.v _ (lyM_lt hi)) h3, h2 h0]
def mvE (t : Trans) (p : Int × List Bool) : Int × List Rect := (p.1, canon (bits ((canon p.2).map (moveR t))))
noncomputable def tE (t : Trans) (l : List (List Rect)) : List (Int × List Rect) := (pcL l 4).map (mvE t)
theorem tE_len (t : Trans) (l : List (List Rect)) : (tE t l).length = (pcL l 4).length := by simp [tE]
theorem tE_gd {k : Nat} (hk : k < (pcL l 4).length) : gd (tE t l) k = mvE t (gd (pcL l 4) k) := gd_map _ hk
theorem mvE_bits (t : Trans) (p : Int × List Bool) : bits (mvE t p).2 = bits ((canon p.2).map (moveR t)) := bits_canon (bits_length _)
/-- what a piece and its image have to do with each other -/
theorem Tn.pc (h : Tn t l l') {k : Nat} (hk : k < (pcL l 4).length) : (∀ r ∈ canon (gd (pcL l 4) k).2, validRect r = true) ∧ (∀ r ∈ canon (gd (pcL l 4) k).2, validRect (moveR t r) = true) ∧ bits (canon (gd (pcL l 4) k).2) = (gd (pcL l 4) k).2 := by
  obtain ⟨i, hi, e, hc⟩ := piece_in hk
  have h6 := comps_mem hc
  refine ⟨reg_valid (isReg_canon h6), canonV h.ho h6 (fun a ha => ?_) (h.v _ (lyM_lt hi)), bits_canon h6⟩
  exact ((cond_on hi).1 (piece_sub hi hk e ha)).1
theorem Tn.on (h : Tn t l l') {k : Nat} (hk : k < (pcL l 4).length) {a : Cel} (ha : On (gd (pcL l 4) k).2 a) : On (bits (gd (tE t l) k).2) (im t a) := by
  obtain ⟨h1, h2, h3⟩ := h.pc hk
  rw [tE_gd hk, mvE_bits]
  exact (im_on h.ho h1 h2 (by rw [h3]; exact ha)).2
theorem Tn.of (h : Tn t l l') {k : Nat} (hk : k < (pcL l 4).length) {a' : Cel} (ha : On (bits (gd (tE t l) k).2) a') : ∃ a, On (gd (pcL l 4) k).2 a ∧ im t a = a' := by
  obtain ⟨h1, h2, h3⟩ := h.pc hk
  rw [tE_gd hk, mvE_bits] at ha
  obtain ⟨a, ha, e⟩ := im_surj h.ho h1 ha
  exact ⟨a, by rw [← h3]; exact ha, e⟩
theorem Tn.all (h : Tn t l l') : PAll l' (tE t l) := by
  refine ⟨fun q hq => ?_, fun i a' hi ha0 => ?_⟩
  · obtain ⟨k, hk0, rfl⟩ := List.getElem_of_mem hq
    have hk : k < (pcL l 4).length := by rw [← tE_len t l]; exact hk0
    rw [← gd_eq hk0]
    obtain ⟨i, hi, e, hc⟩ := piece_in hk
    obtain ⟨h1, h2, h3⟩ := h.pc hk
    refine ⟨i, hi, by rw [tE_gd hk]; exact e, by rw [tE_gd hk]; exact isReg_canon (bits_length _), ?_, ?_, fun a' ha0 => ?_⟩
    · rw [tE_gd hk, mvE_bits]; exact cnd_mv h.ho h1 h2 (by rw [h3]; exact comps_cnd hc)
    · obtain ⟨a, ha⟩ := comps_ne hc
      exact ⟨_, h.on hk ha⟩
    · obtain ⟨a, ha, rfl⟩ := h.of hk ha0
      exact h.fwd hi (piece_sub hi hk e ha)
  · obtain ⟨a, ha, rfl⟩ := h.bwd hi ha0
    obtain ⟨j, hj, e, hg, -⟩ := piece_at hi ha.1 ha.2.1 ha.2.2
    refine ⟨gd (tE t l) j, gd_mem (by rw [tE_len]; exact hj), by rw [tE_gd hj]; exact e, h.on hj ⟨ha.1, ha.2.1, hg⟩⟩
theorem Tn.cell (h : Tn t l l') {k i : Nat} (hk : k < (pcL l 4).length) (hi : i < (pcL l 4).length) {a b : Cel} (ha : On (gd (pcL l 4) k).2 a) (hb : On (gd (pcL l 4) i).2 b) (e : im t a = im t b ∨ Adj (im t a) (im t b)) : a = b ∨ Adj a b := by
  obtain ⟨h1, h2, h3⟩ := h.pc hk
  obtain ⟨g1, g2, g3⟩ := h.pc hi
  exact im_adj' h.ho h1 h2 g1 g2 (by rw [h3]; exact ha) (by rw [g3]; exact hb) e
theorem Tn.touch (h : Tn t l l') {k i : Nat} (hk : k < (pcL l 4).length) (hi : i < (pcL l 4).length) (e : (gd (pcL l 4) k).1 = (gd (pcL l 4) i).1) (ht : Tch (bits (gd (tE t l) k).2) (bits (gd (tE t l) i).2)) : k = i := by
  obtain ⟨a', b', ha0, hb0, hab⟩ := ht
  obtain ⟨a, ha, rfl⟩ := h.of hk ha0
  obtain ⟨b, hb, rfl⟩ := h.of hi hb0
  obtain ⟨m, hm, em, -⟩ := piece_in hk
  obtain ⟨n, hn, en, -⟩ := piece_in hi
  obtain rfl : m = n := lay_inj hm hn (by rw [← em, ← en, e])
  have hbk : On (gd (pcL l 4) k).2 b := by
    rcases h.cell hk hi ha hb hab with rfl | hab
    · exact ha
    · exact piece_closed hm hk em ha hab (piece_sub hm hi en hb)
  exact piece_uniq hk hi e hbk hb
theorem Tn.jn (h : Tn t l l') {k i : Nat} (hk : k < (pcL l 4).length) (hi : i < (pcL l 4).length) : jnL l' (pb (gd (tE t l) k)) (pb (gd (tE t l) i)) = JL l k i := by
  have hjc : ∀ a, On (gd (pcL l 4) k).2 a → ∀ m n, jnC l' m n (im t a).1 (im t a).2 = jnC l m n a.1 a.2 := fun a ha m n => by
    obtain ⟨h1, h2, h3⟩ := h.pc hk
    rw [← h3] at ha
    rw [jnC, jnC, h.lay (by omega) h1 h2 ha, h.lay (by omega) h1 h2 ha]
  have e1 : (pb (gd (tE t l) k)).1 = (gd (pcL l 4) k).1 := by rw [tE_gd hk]; rfl
  have e2 : (pb (gd (tE t l) i)).1 = (gd (pcL l 4) i).1 := by rw [tE_gd hi]; rfl
  rw [JL, Bool.eq_iff_iff, jnL_iff, jnL_iff, e1, e2]
  constructor
  · rintro ⟨a', ha0, hb0, hc⟩
    obtain ⟨a, ha, rfl⟩ := h.of hk ha0
    obtain ⟨b, hb, e⟩ := h.of hi hb0
    obtain ⟨h1, h2, h3⟩ := h.pc hk
    obtain ⟨g1, g2, g3⟩ := h.pc hi
    obtain rfl := im_inj h.ho g1 g2 h1 h2 (by rw [g3]; exact hb) (by rw [h3]; exact ha) e
    exact ⟨b, ha, hb, by rw [← hjc b ha]; exact hc⟩
  · rintro ⟨a, ha, hb, hc⟩
    exact ⟨im t a, h.on hk ha, h.on hi hb, by rw [hjc a ha]; exact hc⟩
theorem rootsJ_congr {J J' : Nat → Nat → Bool} : ∀ n, (∀ k i, k < i → i < n → J k i = J' k i) → rootsJ J n = rootsJ J' n
  | 0, _ => rfl
  | n + 1, h => by
    rw [rootsJ, rootsJ, rootsJ_congr n fun k i h1 h2 => h k i h1 (by omega)]
    have key : ∀ (c : List Int) k, k ≤ n → inJ J n c k = inJ J' n c k := fun c k => by
      induction k with
      | zero => intro _; rfl
      | succ k ih => intro hk; rw [inJ_succ, inJ_succ, ih (by omega), stepJ, stepJ, h k n (by omega) (by omega)]
    exact key _ n (Nat.le_refl _)
theorem Tn.cls (h : Tn t l l') : clsH l' (tE t l) = clsL l := by
  rw [clsH, clsL, tE_len]
  refine rootsJ_congr _ fun k i hki hi => ?_
  have hk : k < (pcL l 4).length := by omega
  have h1 := h.all.iff h.hl' (k := k) (i := i) (by rw [tE_len]; exact hk) (by rw [tE_len]; exact hi)
  rw [h.jn hk hi] at h1
  rw [Bool.eq_iff_iff, h1]
  constructor
  · rintro (⟨e, ht⟩ | e)
    · have := h.touch hk hi (by rw [tE_gd hk, tE_gd hi] at e; exact e) ht
      omega
    · exact e
  · exact .inr
/-- the piece that the image of a piece is -/
theorem Tn.ex (h : Tn t l l') {k : Nat} (hk : k < (pcL l 4).length) : ∃ j, j < (pcL l' 4).length ∧ (gd (pcL l' 4) j).1 = (gd (pcL l 4) k).1 ∧ (gd (pcL l' 4) j).2 = bits (gd (tE t l) k).2 ∧ numH l' (gd (tE t l) k) = (numR (clsL l') j : Int) := by
  obtain ⟨i, hp⟩ := h.all.mem _ (gd_mem (i := k) (by rw [tE_len]; exact hk))
  have hlk : (gd (pcL l 4) k).1 = gd [0, 1, 3, 5] i := by have := hp.lay; rw [tE_gd hk] at this; exact this
  obtain ⟨j, hj, e, hs, hn⟩ := hp.flat
  refine ⟨j, hj, by rw [e, ← hlk], ?_, hn⟩
  have h6 : (gd (pcL l' 4) j).2.length = 6400 := by obtain ⟨_, _, _, hc⟩ := piece_in hj; exact comps_mem hc
  refine gb_ext h6 (bits_length _) fun y x hy hx => ?_
  rw [Bool.eq_iff_iff]
  constructor
  · intro hg
    obtain ⟨a, ha⟩ := hp.ne
    obtain ⟨i', hi', e', hc⟩ := piece_in hj
    have hcn := comps_cnd hc a (y, x) (hs a ha) ⟨hy, hx, hg⟩
    have key : ∀ b, Conn (gd (pcL l' 4) j).2 a b → On (bits (gd (tE t l) k).2) b := fun b hb => by
      induction hb with
      | refl => exact ha
      | step g1 g2 g3 ih =>
        obtain ⟨q, hq, q1, q2⟩ := h.all.cov i _ hp.hi (piece_sub hp.hi hj e g3)
        obtain ⟨k2, hk2, rfl⟩ := List.getElem_of_mem hq
        have hk2' : k2 < (pcL l 4).length := by rw [← tE_len t l]; exact hk2
        rw [← gd_eq hk2] at q1 q2
        have := h.touch hk hk2' (by rw [hlk, ← q1, tE_gd hk2']; rfl) ⟨_, _, ih, q2, .inr g2⟩
        rw [this]; exact q2
    exact (key (y, x) hcn).2.2
  · intro hg; exact (hs (y, x) ⟨hy, hx, hg⟩).2.2
end
noncomputable def szN (l : List (List Rect)) (m : Nat) : Int := costL (fun j => cnt (gd (pcL l 4) j).2) ((List.range (pcL l 4).length).filter fun j => decide (numR (clsL l) j = m))
theorem num_rep {c : List Int} (h : Rt c) {n m : Nat} (hn : n ≤ c.length) (hm : m < cntR c n) : ∃ k, k < n ∧ numR c k = m := by
  induction n with
  | zero => simp [cntR] at hm
  | succ n ih =>
    rw [cntR_succ] at hm
    by_cases hr : gd c n = (n : Int)
    · rw [if_pos hr] at hm
      by_cases e : m = cntR c n
      · exact ⟨n, by omega, by rw [numR_root hr, e]⟩
      · obtain ⟨k, hk, e2⟩ := ih (by omega) (by omega)
        exact ⟨k, by omega, e2⟩
    · rw [if_neg hr] at hm
      obtain ⟨k, hk, e2⟩ := ih (by omega) (by omega)
      exact ⟨k, by omega, e2⟩
theorem sizes_perm {t : Trans} {l l' : List (List Rect)} (h : Tn t l l') : ((List.range (netN l)).map (szN l)).Perm ((List.range (netN l')).map (szN l')) := by
  have hex : ∀ k, ∃ j, k < (pcL l 4).length → j < (pcL l' 4).length ∧ (gd (pcL l' 4) j).1 = (gd (pcL l 4) k).1 ∧ (gd (pcL l' 4) j).2 = bits (gd (tE t l) k).2 ∧ numH l' (gd (tE t l) k) = (numR (clsL l') j : Int) := fun k => by
    by_cases hk : k < (pcL l 4).length
    · obtain ⟨j, hj⟩ := h.ex hk; exact ⟨j, fun _ => hj⟩
    · exact ⟨0, fun h => absurd h hk⟩
  obtain ⟨f, hf⟩ := Classical.axiomOfChoice hex
  have hinj : ∀ a, a < (pcL l 4).length → ∀ b, b < (pcL l 4).length → f a = f b → a = b := fun a ha b hb e => by
    obtain ⟨_, a2, a3, _⟩ := hf a ha
    obtain ⟨_, b2, b3, _⟩ := hf b hb
    obtain ⟨i, hp⟩ := h.all.mem _ (gd_mem (i := a) (by rw [tE_len]; exact ha))
    obtain ⟨c, hc⟩ := hp.ne
    refine h.touch ha hb (by rw [← a2, ← b2, e]) ⟨c, c, hc, ?_, .inl rfl⟩
    rw [← b3, ← e, a3]; exact hc
  have hsur : ∀ j, j < (pcL l' 4).length → ∃ k, k < (pcL l 4).length ∧ f k = j := fun j hj => by
    obtain ⟨i, hi, e, hc⟩ := piece_in hj
    obtain ⟨a, ha⟩ := comps_ne hc
    obtain ⟨q, hq, q1, q2⟩ := h.all.cov i a hi (piece_sub hi hj e ha)
    obtain ⟨k, hk0, rfl⟩ := List.getElem_of_mem hq
    have hk : k < (pcL l 4).length := by rw [← tE_len t l]; exact hk0
    rw [← gd_eq hk0] at q1 q2
    obtain ⟨c1, c2, c3, _⟩ := hf k hk
    refine ⟨k, hk, piece_uniq c1 hj ?_ (a := a) (by rw [c3]; exact q2) ha⟩
    rw [c2, e, ← q1, tE_gd hk]; rfl
  have hnum : ∀ a, a < (pcL l 4).length → ∀ b, b < (pcL l 4).length → (numR (clsL l) a = numR (clsL l) b ↔ numR (clsL l') (f a) = numR (clsL l') (f b)) := fun a ha b hb => by
    have h1 := h.all.cls h.hl' (a := a) (b := b) (by rw [tE_len]; exact ha) (by rw [tE_len]; exact hb)
    rw [h.cls, (hf a ha).2.2.2, (hf b hb).2.2.2] at h1
    constructor
    · intro e
      have := h1.1 (numR_inj (clsL_rt l) (by rw [clsL_len]; exact ha) (by rw [clsL_len]; exact hb) e)
      omega
    · intro e
      have := h1.2 (by omega)
      rw [numR, numR, this]
  have hw : ∀ k, k < (pcL l 4).length → cnt (gd (pcL l' 4) (f k)).2 = cnt (gd (pcL l 4) k).2 := fun k hk => by
    obtain ⟨h1, h2, h3⟩ := h.pc hk
    rw [(hf k hk).2.2.1, tE_gd hk, mvE_bits, cnt_mv h.ho h1 h2, h3]
  have hrep : ∀ m, ∃ k, m < netN l → k < (pcL l 4).length ∧ numR (clsL l) k = m := fun m => by
    by_cases hm : m < netN l
    · obtain ⟨k, hk, e⟩ := num_rep (clsL_rt l) (n := (pcL l 4).length) (by rw [clsL_len]; exact Nat.le_refl _) hm
      exact ⟨k, fun _ => ⟨hk, e⟩⟩
    · exact ⟨0, fun h => absurd h hm⟩
  obtain ⟨r, hr⟩ := Classical.axiomOfChoice hrep
  have hlt : ∀ k, k < (pcL l 4).length → numR (clsL l) k < netN l := fun k hk => numR_lt (clsL_rt l) (by rw [clsL_len]; exact hk) hk
  have hlt' : ∀ j, j < (pcL l' 4).length → numR (clsL l') j < netN l' := fun k hk => numR_lt (clsL_rt l') (by rw [clsL_len]; exact hk) hk
  have hp1 : ((List.range (netN l)).map fun m => numR (clsL l') (f (r m))).Perm (List.range (netN l')) := by
    rw [List.perm_ext_iff_of_nodup (nodup_map List.nodup_range fun a ha b hb e => ?_) List.nodup_range]
    · intro m
      rw [List.mem_map, List.mem_range]
      constructor
      · rintro ⟨q, hq, rfl⟩
        exact hlt' _ (hf _ (hr q (List.mem_range.1 hq)).1).1
      · intro hm
        obtain ⟨j, hj, e⟩ := num_rep (clsL_rt l') (n := (pcL l' 4).length) (by rw [clsL_len]; exact Nat.le_refl _) hm
        obtain ⟨k, hk, rfl⟩ := hsur j hj
        obtain ⟨g1, g2⟩ := hr _ (hlt k hk)
        refine ⟨numR (clsL l) k, List.mem_range.2 (hlt k hk), ?_⟩
        rw [← e]
        exact (hnum _ g1 _ hk).1 g2
    · obtain ⟨g1, g2⟩ := hr a (List.mem_range.1 ha)
      obtain ⟨k1, k2⟩ := hr b (List.mem_range.1 hb)
      rw [← g2, ← k2]
      exact (hnum _ g1 _ k1).2 e
  have hsz : ∀ m, m < netN l → szN l' (numR (clsL l') (f (r m))) = szN l m := fun m hm => by
    obtain ⟨g1, g2⟩ := hr m hm
    have hp2 : (((List.range (pcL l 4).length).filter fun k => decide (numR (clsL l) k = m)).map f).Perm ((List.range (pcL l' 4).length).filter fun j => decide (numR (clsL l') j = numR (clsL l') (f (r m)))) := by
      rw [List.perm_ext_iff_of_nodup (nodup_map (nodup_range_filter _ _) fun a ha b hb e => ?_) (nodup_range_filter _ _)]
      · intro j
        simp only [List.mem_map, List.mem_filter, List.mem_range, decide_eq_true_eq]
        constructor
        · rintro ⟨k, ⟨hk, e⟩, rfl⟩
          exact ⟨(hf k hk).1, (hnum _ hk _ g1).1 (by rw [e, g2])⟩
        · rintro ⟨hj, e⟩
          obtain ⟨k, hk, rfl⟩ := hsur j hj
          exact ⟨k, ⟨hk, by rw [(hnum _ hk _ g1).2 e, g2]⟩, rfl⟩
      · simp only [List.mem_filter, List.mem_range] at ha hb
        exact hinj a ha.1 b hb.1 e
    rw [szN, ← costL_perm _ hp2, costL_map, szN]
    have key : ∀ ks : List Nat, (∀ k ∈ ks, k < (pcL l 4).length) → costL (fun k => cnt (gd (pcL l' 4) (f k)).2) ks = costL (fun k => cnt (gd (pcL l 4) k).2) ks := fun ks => by
      induction ks with
      | nil => intro _; rfl
      | cons k ks ih =>
        intro hk
        simp only [costL]
        rw [hw k (hk k (.head _)), ih fun j hj => hk j (.tail _ hj)]
    exact key _ fun k hk => by simp only [List.mem_filter, List.mem_range] at hk; exact hk.1
  have e1 : (List.range (netN l)).map (szN l) = ((List.range (netN l)).map fun m => numR (clsL l') (f (r m))).map (szN l') := by
    rw [List.map_map]
    exact List.map_congr_left fun m hm => (hsz m (List.mem_range.1 hm)).symm
  rw [e1]
  exact hp1.map _
end Go.Proofs.Ythhjapiggekjbaa
namespace Go.Proofs.Ythhjapiggekjbaa
set_option linter.unusedVariables false
set_option linter.unusedSimpArgs false
open Go
set_option maxRecDepth 20000
set_option maxHeartbeats 1000000
set_option linter.unusedSimpArgs false
variable {G : Gh} {L : List Ch} {R : Value → Gh → List Ch → Prop}
theorem sameIn_s {v u : Value} {xs ys : List Int} (h1 : Rs G L intT v xs) (h2 : Rs G L intT u ys) (k : R (.bool (decide (xs = ys))) G L) : CallT Try.prog 11 #[v, u] G L R := by
  refine CallT.bd h1 fun hb => ?_
  refine CallT.bd h2 fun hb' => ?_
  refine CallT.enter (args := _) Try.func11 rfl rfl (by kernel_rfl) rfl ?_
  refine WP.seq ?_
  refine WP.region ?_
  refine RG.pv rfl (PV.mvB (.inr rfl) rfl) ?_
  refine RG.nil ?_
  refine WP.seq ?_
  refine WP.seq ?_
  refine WP.region ?_
  refine RG.pv rfl (PV.move (v := v) rfl rfl) ?_
  refine RG.pv rfl (PV.len (v := v) rfl Try.underlying38 rfl (SlF.r h1)) ?_
  refine RG.pv rfl (PV.move (v := u) rfl rfl) ?_
  refine RG.pv rfl (PV.len (v := u) rfl Try.underlying38 rfl (SlF.r h2)) ?_
  refine RG.pv rfl (PV.neq rfl rfl rfl) ?_
  refine RG.nil ?_
  refine WP.cond rfl (fun h3 => ?_) (fun h3 => ?_)
  · have e : decide (xs = ys) = false := by
      rw [decide_eq_false_iff_not]; rintro rfl; simp at h3
    rw [e] at k
    refine WP.seq ?_
    refine WP.region ?_
    refine RG.pv rfl (PV.mvB (.inr rfl) rfl) ?_
    refine RG.nil ?_
    refine WP.ret ?_
    exact ⟨_, _, ResV.one rfl rfl, Cv.p, k⟩
  · have hl : xs.length = ys.length := by simp at h3; omega
    refine WP.skip ?_
    refine WP.seq ?_
    refine WP.seq ?_
    refine WP.region ?_
    refine RG.pv rfl (PV.mvI (.inr rfl) rfl) ?_
    refine RG.nil ?_
    refine WP.block ?_
    refine WP.loop1 [0, 1] (fun i => i ≤ xs.length ∧ ∀ j, j < i → xs[j]? = ys[j]?) (fun i => [(5, vi i)]) (fun i => L) (fun i => xs.length - i) 0 ⟨by omega, fun j h => by omega⟩ ⟨rfl, trivial⟩ Cv.p ?_
    rintro i τ ⟨hi, he⟩
    refine WP.seq ?_
    refine WP.seq ?_
    refine WP.region ?_
    refine RG.pv rfl (PV.mvI (.inl rfl) rfl) ?_
    refine RG.pv rfl (PV.move (v := v) rfl rfl) ?_
    refine RG.pv rfl (PV.len (v := v) rfl Try.underlying38 rfl (SlF.r h1)) ?_
    refine RG.pv rfl (PV.lss rfl rfl rfl) ?_
    refine RG.nil ?_
    refine WP.cond rfl (fun h4 => ?_) (fun h4 => ?_)
    · have h4 := of_decide_eq_true h4
      have h5 : i < xs.length := by omega
      refine WP.skip ?_
      refine WP.seq ?_
      refine WP.block ?_
      refine WP.seq ?_
      refine WP.regionQ (by kernel_rfl) (by kernel_rfl) ?_
      refine RQ.pv rfl (PV.move (v := v) rfl rfl) ?_
      refine RQ.pv rfl (PV.mvI (.inl rfl) rfl) ?_
      refine RQ.pv rfl (PV.idxS (v := v) rfl Is38 rfl (SlF.r h1) rfl rfl (by omega)) ?_
      refine RQ.pv rfl (PV.loadE1 rfl Sc2 rfl rfl (El.r h1 (getG (by omega))) rfl) ?_
      refine RQ.pv rfl (PV.move (v := u) rfl rfl) ?_
      refine RQ.pv rfl (PV.mvI (.inl rfl) rfl) ?_
      refine RQ.pv rfl (PV.idxS (v := u) rfl Is38 rfl (SlF.r h2) rfl rfl (by omega)) ?_
      refine RQ.pv rfl (PV.loadE1 rfl Sc2 rfl rfl (El.r h2 (getG (by omega))) rfl) ?_
      refine RQ.pv rfl (PV.neq rfl rfl rfl) ?_
      refine RQ.nil ?_
      refine WP.cond rfl (fun h6 => ?_) (fun h6 => ?_)
      · have e : decide (xs = ys) = false := by
          rw [decide_eq_false_iff_not]; rintro rfl; simp at h6
        rw [e] at k
        refine WP.seq ?_
        refine WP.region ?_
        refine RG.pv rfl (PV.mvB (.inr rfl) rfl) ?_
        refine RG.nil ?_
        refine WP.ret ?_
        exact ⟨_, _, ResV.one rfl rfl, Cv.p, k⟩
      · have hg : gd xs i = gd ys i := by simpa using h6
        refine WP.skip ?_
        refine WP.region ?_
        refine RG.pv rfl (PV.mvI (.inl rfl) rfl) ?_
        refine RG.pv rfl (PV.add rfl rfl rfl (by omega)) ?_
        refine RG.pv rfl (PV.mvI (.inr rfl) rfl) ?_
        refine RG.nil ?_
        refine ⟨rfl, i + 1, ⟨by omega, fun j hj => ?_⟩, ⟨rfl, trivial⟩, ⟨rfl, rfl, trivial⟩, Cv.p, by omega⟩
        by_cases c : j = i
        · subst c; rw [getG h5, getG (by omega), hg]
        · exact he j (by omega)
    · have h4 := of_decide_eq_false h4
      have e : decide (xs = ys) = true := by
        rw [decide_eq_true_iff]
        apply List.ext_getElem?
        intro j
        by_cases c : j < xs.length
        · exact he j (by omega)
        · rw [List.getElem?_eq_none (by omega), List.getElem?_eq_none (by omega)]
      rw [e] at k
      refine WP.exit ?_
      refine WP.seq ?_
      refine WP.region ?_
      refine RG.pv rfl (PV.mvB (.inr rfl) rfl) ?_
      refine RG.nil ?_
      refine WP.ret ?_
      exact ⟨_, _, ResV.one rfl rfl, Cv.p, k⟩
theorem place_s {b : Nat} {cv : Value} {bs : List UInt8} (hcode : SL G byteT cv bs) (k : ∀ t : Trans, R (vtrans t) G (dice b cv :: L)) : CallT Try.prog 8 #[.pointer (some ⟨b, 0, none⟩)] G (dice b cv :: L) R := by
  refine CallT.enter (args := _) Try.func8 rfl rfl (by kernel_rfl) rfl ?_
  refine WP.seq ?_
  refine WP.region ?_
  refine RG.ot rfl (OT.alloc rfl Zr32 fun b2 => ?_)
  refine RG.nil ?_
  refine WP.seq ?_
  refine WP.region ?_
  refine RG.pv rfl (PV.move rfl rfl) ?_
  refine RG.callF (vs := [_, _]) rfl rfl En16 rfl (CallT.exC (dice b cv) (below_s hcode (by omega) (fun w4 hw4 => ?_)))
  refine RG.pv rfl (PV.move rfl rfl) ?_
  refine RG.callF (vs := [_, _]) rfl rfl En16 rfl (CallT.exC (dice b cv) (below_s hcode (by omega) (fun w6 hw6 => ?_)))
  refine RG.pv rfl (PV.sub rfl rfl rfl (by omega)) ?_
  refine RG.pv rfl (PV.move rfl rfl) ?_
  refine RG.callF (vs := [_, _]) rfl rfl En16 rfl (CallT.exC (dice b cv) (below_s hcode (by omega) (fun w9 hw9 => ?_)))
  refine RG.pv rfl (PV.sub rfl rfl rfl (by omega)) ?_
  refine RG.pv rfl (PV.build (vs := [(0, [vi _]), (1, [vi _]), (2, [vi _])]) (out := [_, _, _]) rfl Zr32 Pl32 ⟨rfl, (Cl.c rfl), ⟨rfl, (Cl.c rfl), ⟨rfl, (Cl.c rfl), trivial⟩⟩⟩ rfl) ?_
  refine RG.ot rfl (OT.storeW (vs := [vi _, vi _, vi _]) rfl Sz32 rfl rfl (Cl.c rfl) rfl rfl (OneC.c rfl) ?_)
  refine RG.nil ?_
  refine WP.ret ?_
  exact ⟨_, _, ResV.one rfl (RV1.cell rfl Ag32 rfl), Cv.p, k ⟨_, _, _⟩⟩
theorem moved_s {t : Trans} {v : Value} {xs : List (Sl Rect)} (h1 : Rs G L slT v xs) (hd : RsE G L rectT xs) (hx : xs.length ≤ 8) (k : ∀ v' ys b, (b = true → ys.length = 8 ∧ xs.length = 8 ∧ ∀ i, i < 8 → mvOk t (gd xs i).xs = true ∧ (gd ys i).xs = mvR t (gd xs i).xs) → R (.tuple #[v', .bool b]) G (osl 45 slT v' ys :: bagS 69 rectT ys :: L)) : CallT Try.prog 7 #[vtrans t, v] G L R := by
  refine CallT.enter (args := _) Try.func7 rfl rfl (by kernel_rfl) rfl ?_
  refine WP.seq ?_
  refine WP.region ?_
  refine RG.ot rfl (OT.box (cs := transT.enc t) rfl rfl rfl fun b2 => ?_)
  refine RG.pv rfl (PV.asg rfl rfl) ?_
  refine RG.pv rfl (PV.mvB (.inr rfl) rfl) ?_
  refine RG.nil ?_
  refine WP.seq ?_
  refine WP.region ?_
  refine RG.ot rfl (OT.bslice (F := (slT (α := Rect))) (els := []) rfl El27 rfl (by decide) rfl (by decide) trivial fun v10 => ?_)
  refine RG.pv rfl (PV.asg (v := v10) rfl rfl) ?_
  refine RG.nil ?_
  refine WP.seq ?_
  refine WP.seq ?_
  refine WP.region ?_
  refine RG.pv rfl (PV.mvI (.inr rfl) rfl) ?_
  refine RG.nil ?_
  refine WP.block ?_
  refine WP.cv (Cv.cons (Cv.bag0 (e := 69) (F := rectT) (xs := []) rfl)) ?_
  refine WP.loop3 [1, 2] (fun (i : Nat) (ys : List (Sl Rect)) (q : Value) => i ≤ xs.length ∧ ys.length = i ∧ ∀ j, j < i → mvOk t (gd xs j).xs = true ∧ (gd ys j).xs = mvR t (gd xs j).xs) (fun (i : Nat) (ys : List (Sl Rect)) (q : Value) => [(7, vi i), (6, q)]) (fun (i : Nat) (ys : List (Sl Rect)) (q : Value) => osl 45 slT q ys :: bagS 69 rectT ys :: blk b2 32 (transT.enc t) :: L) (fun (i : Nat) (ys : List (Sl Rect)) (q : Value) => xs.length - i) 0 [] v10 ⟨by omega, rfl, fun j hj => by omega⟩ ⟨rfl, rfl, trivial⟩ Cv.p ?_
  rintro i ys q τ ⟨hi, hyl, hy⟩
  refine WP.seq ?_
  refine WP.seq ?_
  refine WP.region ?_
  refine RG.pv rfl (PV.mvI (.inl rfl) rfl) ?_
  refine RG.pv rfl (PV.move (v := v) rfl rfl) ?_
  refine RG.pv rfl (PV.len (v := v) rfl Try.underlying27 rfl (SlF.r h1)) ?_
  refine RG.pv rfl (PV.lss rfl rfl rfl) ?_
  refine RG.nil ?_
  refine WP.cond rfl (fun h2 => ?_) (fun h2 => ?_)
  · have h2 := of_decide_eq_true h2
    have h3 : i < xs.length := by omega
    have hq := hd i h3
    refine WP.skip ?_
    refine WP.seq ?_
    refine WP.block ?_
    refine WP.seq ?_
    refine WP.regionH0 (.q 0 (.q 1 (.q 2 (.q 3 (.q 4 (.l 5 (.q 6 (.q 7 (.q 8 (.q 9 (.q 10 Sch.nil))))))))))) (by kernel_rfl) (by kernel_rfl) (by kernel_rfl) rfl ?_
    refine RH.pv rfl (fun _ _ _ _ h => h) (Gh.le_refl _) PickC.pick rfl (PV.loadW rfl Ag32 rfl rfl) ?_
    refine RH.pv rfl (fun _ _ _ _ h => h) (Gh.le_refl _) PickC.pick rfl (PV.move (v := v) rfl rfl) ?_
    refine RH.pv rfl (fun _ _ _ _ h => h) (Gh.le_refl _) PickC.pick rfl (PV.mvI (.inl rfl) rfl) ?_
    refine RH.pv rfl (fun _ _ _ _ h => h) (Gh.le_refl _) PickC.pick rfl (PV.idxS (j := i) (v := v) rfl Is27 rfl (SlF.r h1) rfl (by omega) (by omega)) ?_
    refine RH.pv rfl (fun _ _ _ _ h => h) (Gh.le_refl _) PickC.pick rfl (PV.loadE1 rfl Sc45 rfl rfl (El.r h1 (getG (by omega))) rfl) ?_
    refine RH.ot rfl rfl (OT.callF (vs := [_, _]) rfl En15 rfl (moveReg_s (Rs.up (hd i (by omega))) (fun w23 => ⟨Gh.le_refl _, PickC.pick, ?_⟩)))
    refine RH.pv rfl (fun _ _ _ _ h => h) (Gh.le_refl _) PickC.pick rfl (PV.move (v := .tuple _) rfl rfl) ?_
    refine RH.pv rfl (fun _ _ _ _ h => h) (Gh.le_refl _) PickC.pick rfl (PV.ext (v := w23) rfl rfl rfl) ?_
    refine RH.pv rfl (fun _ _ _ _ h => h) (Gh.le_refl _) PickC.pick rfl (PV.ext rfl rfl rfl) ?_
    refine RH.pv rfl (fun _ _ _ _ h => h) (Gh.le_refl _) PickC.pick rfl (PV.asg (v := w23) rfl rfl) ?_
    refine RH.pv rfl (fun _ _ _ _ h => h) (Gh.le_refl _) PickC.pick rfl (PV.mvB (.inr rfl) rfl) ?_
    refine RH.nil ?_
    refine WP.seq ?_
    refine WP.seq ?_
    refine WP.region ?_
    refine RG.pv rfl (PV.mvB (.inl rfl) rfl) ?_
    refine RG.pv rfl (PV.not rfl rfl) ?_
    refine RG.nil ?_
    refine WP.cond rfl (fun h4 => ?_) (fun h4 => ?_)
    · refine WP.seq ?_
      refine WP.region ?_
      refine RG.pv rfl (PV.move (v := q) rfl rfl) ?_
      refine RG.pv rfl (PV.asg (v := q) rfl rfl) ?_
      refine RG.pv rfl (PV.mvB (.inr rfl) rfl) ?_
      refine RG.nil ?_
      refine WP.ret ?_
      exact ⟨_, _, ResV.two rfl rfl rfl, Cv.p, k q ys false (fun h => by cases h)⟩
    · have h4 : mvOk t (gd xs i).xs = true := by simpa using h4
      refine WP.skip ?_
      refine WP.region ?_
      refine RG.pv rfl (PV.move (v := q) rfl rfl) ?_
      refine RG.pv rfl (PV.move (v := w23) rfl rfl) ?_
      refine RG.ot rfl (OT.bslice (F := (slT (α := Rect))) (els := [⟨w23, mvR t (gd xs i).xs⟩]) rfl El27 rfl (by decide) rfl (by decide) ⟨rfl, (Cl.s (v := w23) SlF.o), trivial⟩ fun v31 => ?_)
      refine RG.ot rfl (OT.append (v := q) (u := v31) (F := (slT (α := Rect))) rfl El27 rfl (by decide) rfl rfl Rs.o (OneL.one (OneC.sl (SlF.o (v := w23)) OneC.nil)) rfl (by first | omega | (simp <;> omega)) fun v32 => ?_)
      refine RG.pv rfl (PV.asg (v := v32) rfl rfl) ?_
      refine RG.nil ?_
      refine WP.region ?_
      refine RG.pv rfl (PV.mvI (.inl rfl) rfl) ?_
      refine RG.pv rfl (PV.add rfl rfl rfl (by omega)) ?_
      refine RG.pv rfl (PV.mvI (.inr rfl) rfl) ?_
      refine RG.nil ?_
      refine ⟨rfl, i + 1, (ys ++ [⟨w23, mvR t (gd xs i).xs⟩]), v32, ⟨by omega, by rw [List.length_append]; simp; omega, fun j hj => ?_⟩, ⟨rfl, rfl, trivial⟩, ⟨rfl, rfl, trivial⟩, ((Cv.p (C := osl 69 rectT w23 (mvR t (gd xs i).xs) :: osl 45 slT v32 (ys ++ [⟨w23, mvR t (gd xs i).xs⟩]) :: bagS 69 rectT ys :: blk b2 32 (transT.enc t) :: L)).trans Cv.slotNew), by omega⟩
      by_cases c : j = i
      · subst c
        have e := gd_app_r (xs := ys) (a := (⟨w23, mvR t (gd xs j).xs⟩ : Sl Rect))
        rw [hyl] at e
        rw [e]; exact ⟨h4, rfl⟩
      · rw [gd_app_l (by omega)]; exact hy j (by omega)
  · have h2 := of_decide_eq_false h2
    obtain rfl : i = xs.length := by omega
    refine WP.exit ?_
    refine WP.seq ?_
    refine WP.region ?_
    refine RG.pv rfl (PV.move (v := q) rfl rfl) ?_
    refine RG.pv rfl (PV.move (v := q) rfl rfl) ?_
    refine RG.pv rfl (PV.len (v := q) rfl Try.underlying27 rfl SlF.o) ?_
    refine RG.pv rfl (PV.eql rfl rfl rfl) ?_
    refine RG.pv rfl (PV.asg (v := q) rfl rfl) ?_
    refine RG.pv rfl (PV.mvB (.inr rfl) rfl) ?_
    refine RG.nil ?_
    refine WP.ret ?_
    exact ⟨_, _, ResV.two rfl rfl rfl, Cv.p, k q ys _ (fun h => by have h := of_decide_eq_true h; exact ⟨by omega, by omega, fun i hi => hy i (by omega)⟩)⟩
/-- a list with a number put in before a place -/
def putA (xs : List Int) (m : Nat) (n : Int) : List Int := xs.take m ++ [n] ++ xs.drop m
theorem putA_perm (xs : List Int) (m : Nat) (n : Int) : (putA xs m n).Perm (xs ++ [n]) := by
  have h : (putA xs m n).Perm (n :: (xs.take m ++ xs.drop m)) := by rw [putA, List.append_assoc]; exact List.perm_middle
  rw [List.take_append_drop] at h
  exact h.trans (List.perm_append_comm (l₁ := [n]))
theorem putA_sorted {xs : List Int} {m : Nat} {n : Int} (h : xs.Pairwise (· ≤ ·)) (hm : m ≤ xs.length) (h1 : ∀ j, m ≤ j → j < xs.length → n < gd xs j) (h2 : 0 < m → ¬ n < gd xs (m - 1)) : (putA xs m n).Pairwise (· ≤ ·) := by
  have hp := h
  rw [List.pairwise_iff_getElem] at hp
  have hle : ∀ i j, i ≤ j → j < xs.length → gd xs i ≤ gd xs j := fun i j hij hj => by
    rcases Nat.lt_or_eq_of_le hij with c | c
    · have := hp i j (by omega) hj c
      rwa [← gd_eq (by omega), ← gd_eq hj] at this
    · rw [c]; exact Int.le_refl _
  rw [putA, List.append_assoc, List.pairwise_append]
  refine ⟨h.sublist (List.take_sublist _ _), ?_, ?_⟩
  · rw [List.singleton_append, List.pairwise_cons]
    refine ⟨fun a ha => ?_, h.sublist (List.drop_sublist _ _)⟩
    obtain ⟨j, hj, rfl⟩ := List.getElem_of_mem ha
    rw [List.length_drop] at hj
    rw [List.getElem_drop, ← gd_eq (by omega)]
    have := h1 (m + j) (by omega) (by omega)
    omega
  · intro a ha b hb
    obtain ⟨i, hi, rfl⟩ := List.getElem_of_mem ha
    rw [List.length_take] at hi
    rw [List.getElem_take, ← gd_eq (by omega)]
    have h3 := h2 (by omega)
    have h4 := hle i (m - 1) (by omega) (by omega)
    rw [List.singleton_append, List.mem_cons] at hb
    rcases hb with rfl | hb
    · omega
    · obtain ⟨j, hj, rfl⟩ := List.getElem_of_mem hb
      rw [List.length_drop] at hj
      rw [List.getElem_drop, ← gd_eq (by omega)]
      exact hle i (m + j) (by omega) (by omega)
def szZ (z : Net) : Int := netC (er (regs z.pieces.xs))
theorem sorted_s {v : Value} {zs : List Net} (h1 : Rs G L netT v zs) (hp : ∀ i, i < zs.length → Rs G L pieceT (gd zs i).pieces.v (gd zs i).pieces.xs) (hr : ∀ i, i < zs.length → RsE G L rectT (regs (gd zs i).pieces.xs)) (hb : ∀ i, i < zs.length → (gd zs i).pieces.xs.length ≤ 1048576) (hz : zs.length ≤ 100000)
    (k : ∀ v' out, out.Perm (zs.map szZ) → out.Pairwise (· ≤ ·) → R v' G (osl 2 intT v' out :: L)) : CallT Try.prog 12 #[v] G L R := by
  refine CallT.enter (args := _) Try.func12 rfl rfl (by kernel_rfl) rfl ?_
  refine WP.seq ?_
  refine WP.region ?_
  refine RG.pv rfl (PV.asg rfl rfl) ?_
  refine RG.nil ?_
  refine WP.seq ?_
  refine WP.region ?_
  refine RG.ot rfl (OT.bslice (F := intT) (els := []) rfl El38 rfl (by decide) rfl (by decide) trivial fun v7 => ?_)
  refine RG.pv rfl (PV.asg (v := v7) rfl rfl) ?_
  refine RG.nil ?_
  refine WP.seq ?_
  refine WP.seq ?_
  refine WP.region ?_
  refine RG.pv rfl (PV.mvI (.inr rfl) rfl) ?_
  refine RG.nil ?_
  refine WP.block ?_
  refine WP.loop3 [0] (fun (i : Nat) (out : List Int) (q : Value) => i ≤ zs.length ∧ out.Perm ((zs.take i).map szZ) ∧ out.Pairwise (· ≤ ·)) (fun (i : Nat) (out : List Int) (q : Value) => [(4, vi i), (3, q)]) (fun (i : Nat) (out : List Int) (q : Value) => osl 2 intT q out :: L) (fun (i : Nat) (out : List Int) (q : Value) => zs.length - i) 0 [] v7 ⟨by omega, by simp, List.Pairwise.nil⟩ ⟨rfl, rfl, trivial⟩ Cv.p ?_
  rintro i out q τ ⟨hi, hpm, hso⟩
  refine WP.seq ?_
  refine WP.seq ?_
  refine WP.region ?_
  refine RG.pv rfl (PV.mvI (.inl rfl) rfl) ?_
  refine RG.pv rfl (PV.move (v := v) rfl rfl) ?_
  refine RG.pv rfl (PV.len (v := v) rfl Try.underlying34 rfl (SlF.r h1)) ?_
  refine RG.pv rfl (PV.lss rfl rfl rfl) ?_
  refine RG.nil ?_
  have hol : out.length = i := by have := hpm.length_eq; rw [List.length_map, List.length_take] at this; omega
  refine WP.cond rfl (fun h2 => ?_) (fun h2 => ?_)
  · have h2 := of_decide_eq_true h2
    have h3 : i < zs.length := by omega
    refine WP.skip ?_
    refine WP.seq ?_
    refine WP.block ?_
    refine WP.seq ?_
    refine WP.region ?_
    refine RG.pv rfl (PV.move (v := v) rfl rfl) ?_
    refine RG.pv rfl (PV.mvI (.inl rfl) rfl) ?_
    refine RG.pv rfl (PV.idxS (j := i) (v := v) rfl Is34 rfl (SlF.r h1) rfl (by omega) (by omega)) ?_
    refine RG.pv rfl (PV.loadE rfl Ag64 rfl rfl (El.r h1 (getG (by omega)))) ?_
    refine RG.callF (vs := [_]) rfl rfl En24 rfl (netC_i (n := gd zs i) (hp i (by omega)).up (hr i (by omega)).up (hb i (by omega)) ?_)
    refine RG.pv rfl (PV.mvI (.inr rfl) rfl) ?_
    refine RG.nil ?_
    refine WP.seq ?_
    refine WP.region ?_
    refine RG.pv rfl (PV.move (v := q) rfl rfl) ?_
    refine RG.pv rfl (PV.len (v := q) rfl Try.underlying38 rfl SlF.o) ?_
    refine RG.pv rfl (PV.mvI (.inr rfl) rfl) ?_
    refine RG.nil ?_
    refine WP.seq ?_
    refine WP.block ?_
    refine WP.loop2 [0, 3, 4, 5] (fun (m : Int) (d : Nat) => 0 ≤ m ∧ m ≤ out.length ∧ ∀ j : Nat, m ≤ j → j < out.length → szZ (gd zs i) < gd out j) (fun (m : Int) (d : Nat) => [(6, vi m)]) (fun (m : Int) (d : Nat) => osl 2 intT q out :: L) (fun (m : Int) (d : Nat) => m.toNat) (out.length : Int) 0 ⟨by omega, by omega, fun j h1 h2 => by omega⟩ ⟨rfl, trivial⟩ Cv.p ?_
    rintro m d τ1 ⟨hm0, hm, hm2⟩
    refine WP.seq ?_
    refine WP.seq ?_
    refine WP.region ?_
    refine RG.pv rfl (PV.mvI (.inl rfl) rfl) ?_
    refine RG.pv rfl (PV.gtr rfl rfl rfl) ?_
    refine RG.pv rfl (PV.mvB (.inl rfl) rfl) ?_
    refine RG.spl (t := 23) rfl (fun g1 => ?_) (fun g1 => ?_)
    · have g2 : 0 < m := of_decide_eq_true g1
      refine RG.take rfl rfl rfl g1 ?_
      refine RG.pv rfl (PV.mvI (.inl rfl) rfl) ?_
      refine RG.take rfl rfl rfl g1 ?_
      refine RG.pv rfl (PV.move (v := q) rfl rfl) ?_
      refine RG.take rfl rfl rfl g1 ?_
      refine RG.pv rfl (PV.mvI (.inl rfl) rfl) ?_
      refine RG.take rfl rfl rfl g1 ?_
      refine RG.pv rfl (PV.sub rfl rfl rfl (by omega)) ?_
      refine RG.take rfl rfl rfl g1 ?_
      refine RG.pv rfl (PV.idxS (j := (m - 1).toNat) (v := q) rfl Is38 rfl SlF.o rfl (by omega) (by omega)) ?_
      refine RG.take rfl rfl rfl g1 ?_
      refine RG.pv rfl (PV.loadE1 rfl Sc2 rfl rfl (El.o (getG (by omega))) rfl) ?_
      refine RG.take rfl rfl rfl g1 ?_
      refine RG.pv rfl (PV.lss rfl rfl rfl) ?_
      refine RG.pv rfl (PV.pickT rfl rfl g1 rfl) ?_
      refine RG.nil ?_
      refine WP.cond rfl (fun h4 => ?_) (fun h4 => ?_)
      · have h4 := of_decide_eq_true h4
        refine WP.skip ?_
        refine WP.block ?_
        refine WP.region ?_
        refine RG.pv rfl (PV.mvI (.inl rfl) rfl) ?_
        refine RG.pv rfl (PV.sub rfl rfl rfl (by omega)) ?_
        refine RG.pv rfl (PV.mvI (.inr rfl) rfl) ?_
        refine RG.nil ?_
        refine ⟨rfl, m - 1, 0, ⟨by omega, by omega, fun j h5 h6 => ?_⟩, ⟨rfl, trivial⟩, ⟨rfl, rfl, rfl, rfl, trivial⟩, Cv.p, by omega⟩
        by_cases c : j = (m - 1).toNat
        · rw [c]; exact h4
        · exact hm2 j (by omega) h6
      · have h4 := of_decide_eq_false h4
        obtain ⟨mn, rfl⟩ := Int.eq_ofNat_of_zero_le hm0
        have hm9 : 0 < mn → ¬ szZ (gd zs i) < gd out (mn - 1) := fun _ => by
          rw [show mn - 1 = ((mn : Int) - 1).toNat by omega]; exact h4
        have hs := putA_sorted (m := mn) (n := szZ (gd zs i)) hso (by omega) (fun j h5 h6 => hm2 j (by omega) h6) hm9
        have hp2 : (putA out mn (szZ (gd zs i))).Perm ((zs.take (i + 1)).map szZ) := by
          rw [List.take_add_one, getG h3, List.map_append]
          exact (putA_perm _ _ _).trans (hpm.append_right _)
        refine WP.exit ?_
        refine WP.regionH0 (.q 1 (.q 2 (.q 3 (.q 5 (.q 8 (.q 9 (.q 10 (.b 0 (.b 4 (.l 6 (.l 7 (.l 11 (.q 12 Sch.nil)))) 6 (.l 4 (.l 7 (.l 11 (.q 12 Sch.nil))))) 6 (.l 0 (.l 4 (.l 7 (.l 11 (.q 12 Sch.nil))))))))))))) (by kernel_rfl) (by kernel_rfl) (by kernel_rfl) rfl ?_
        refine RH.pv rfl (fun _ _ _ _ h => h) (Gh.le_refl _) PickC.pick rfl (PV.move (v := q) rfl rfl) ?_
        refine RH.pv rfl (fun _ _ _ _ h => h) (Gh.le_refl _) PickC.pick rfl (PV.mvI (.inl rfl) rfl) ?_
        refine RH.pv rfl (fun _ _ _ _ h => h) (Gh.le_refl _) PickC.pick rfl (PV.slc (v := q) rfl Is38 rfl SlF.o optAt.n (optAt.s rfl rfl) (by omega) (by omega)) ?_
        refine RH.pv rfl (fun _ _ _ _ h => h) (Gh.le_refl _) PickC.pick rfl (PV.mvI (.inl rfl) rfl) ?_
        refine RH.pv rfl (fun _ _ _ _ h => h) (Gh.le_refl _) PickC.pick rfl (PV.move (v := q) rfl rfl) ?_
        refine RH.pv rfl (fun _ _ _ _ h => h) (Gh.le_refl _) PickC.pick rfl (PV.mvI (.inl rfl) rfl) ?_
        refine RH.pv rfl (fun _ _ _ _ h => h) (Gh.le_refl _) PickC.pick rfl (PV.slc (v := q) rfl Is38 rfl SlF.o (optAt.s rfl rfl) optAt.n (by omega) (by omega)) ?_
        refine RH.ot2 rfl rfl rfl rfl (OT.bslice (F := intT) (els := []) rfl El38 rfl (by decide) rfl (by decide) trivial fun v34 => ⟨Gh.le_refl _, PickC.pick, ?_⟩) (OT.bslice (F := intT) (els := [_]) rfl El38 rfl (by decide) rfl (by decide) ⟨rfl, (Cl.c rfl), trivial⟩ fun v40 => ⟨Gh.le_refl _, PickC.pick, ?_⟩)
        · skip
          refine RH.ot2 rfl rfl rfl rfl (OT.append (v := v34) (F := intT) rfl El38 rfl (by decide) rfl rfl (Rs.slv (F := intT) Rs.o (by omega) (by omega)) (OneL.c (fun _ => rfl)) rfl (by first | omega | (simp <;> omega)) fun v38 => ⟨Gh.le_refl _, PickC.pick, ?_⟩) (OT.bslice (F := intT) (els := [_]) rfl El38 rfl (by decide) rfl (by decide) ⟨rfl, (Cl.c rfl), trivial⟩ fun v40 => ⟨Gh.le_refl _, PickC.pick, ?_⟩)
          · refine RH.ot rfl rfl (OT.bslice (F := intT) (els := [_]) rfl El38 rfl (by decide) rfl (by decide) ⟨rfl, (Cl.c rfl), trivial⟩ fun v40 => ⟨Gh.le_refl _, PickC.pick, ?_⟩)
            refine RH.ot rfl rfl (OT.append (v := v38) (u := v40) (F := intT) rfl El38 rfl (by decide) rfl rfl Rs.o (OneL.c (fun _ => rfl)) rfl (by first | omega | (simp <;> omega)) fun v41 => ⟨Gh.le_refl _, PickC.pick, ?_⟩)
            refine RH.ot rfl rfl (OT.append (v := v41) (F := intT) rfl El38 rfl (by decide) rfl rfl (Rs.slv (F := intT) Rs.o (by omega) (by omega)) (OneL.c (fun _ => rfl)) rfl (by first | omega | (simp <;> omega)) fun v45 => ⟨Gh.le_refl _, PickC.pick, ?_⟩)
            refine RH.pv rfl (fun _ _ _ _ h => h) (Gh.le_refl _) PickC.pick rfl (PV.asg (v := v45) rfl rfl) ?_
            refine RH.nil ?_
            refine WP.region ?_
            refine RG.pv rfl (PV.mvI (.inl rfl) rfl) ?_
            refine RG.pv rfl (PV.add rfl rfl rfl (by omega)) ?_
            refine RG.pv rfl (PV.mvI (.inr rfl) rfl) ?_
            refine RG.nil ?_
            exact ⟨rfl, i + 1, (putA out mn (szZ (gd zs i))), v45, ⟨by omega, hp2, hs⟩, ⟨rfl, rfl, trivial⟩, ⟨rfl, trivial⟩, ((Cv.p (C := osl 2 intT v45 ([] ++ (out.take mn).drop 0 ++ [netC (er (regs (gd zs i).pieces.xs))] ++ (out.take out.length).drop mn) :: L)).trans (Cv.eqS (by simp [putA, szZ]))), by omega⟩
          · refine RH.ot rfl rfl (OT.append (v := v34) (F := intT) rfl El38 rfl (by decide) rfl rfl (Rs.slv (F := intT) Rs.o (by omega) (by omega)) (OneL.c (fun _ => rfl)) rfl (by first | omega | (simp <;> omega)) fun v38 => ⟨Gh.le_refl _, PickC.pick, ?_⟩)
            refine RH.ot rfl rfl (OT.append (v := v38) (u := v40) (F := intT) rfl El38 rfl (by decide) rfl rfl Rs.o (OneL.c (fun _ => rfl)) rfl (by first | omega | (simp <;> omega)) fun v41 => ⟨Gh.le_refl _, PickC.pick, ?_⟩)
            refine RH.ot rfl rfl (OT.append (v := v41) (F := intT) rfl El38 rfl (by decide) rfl rfl (Rs.slv (F := intT) Rs.o (by omega) (by omega)) (OneL.c (fun _ => rfl)) rfl (by first | omega | (simp <;> omega)) fun v45 => ⟨Gh.le_refl _, PickC.pick, ?_⟩)
            refine RH.pv rfl (fun _ _ _ _ h => h) (Gh.le_refl _) PickC.pick rfl (PV.asg (v := v45) rfl rfl) ?_
            refine RH.nil ?_
            refine WP.region ?_
            refine RG.pv rfl (PV.mvI (.inl rfl) rfl) ?_
            refine RG.pv rfl (PV.add rfl rfl rfl (by omega)) ?_
            refine RG.pv rfl (PV.mvI (.inr rfl) rfl) ?_
            refine RG.nil ?_
            exact ⟨rfl, i + 1, (putA out mn (szZ (gd zs i))), v45, ⟨by omega, hp2, hs⟩, ⟨rfl, rfl, trivial⟩, ⟨rfl, trivial⟩, ((Cv.p (C := osl 2 intT v45 ([] ++ (out.take mn).drop 0 ++ [netC (er (regs (gd zs i).pieces.xs))] ++ (out.take out.length).drop mn) :: L)).trans (Cv.eqS (by simp [putA, szZ]))), by omega⟩
        · refine RH.ot rfl rfl (OT.bslice (F := intT) (els := []) rfl El38 rfl (by decide) rfl (by decide) trivial fun v34 => ⟨Gh.le_refl _, PickC.pick, ?_⟩)
          refine RH.ot rfl rfl (OT.append (v := v34) (F := intT) rfl El38 rfl (by decide) rfl rfl (Rs.slv (F := intT) Rs.o (by omega) (by omega)) (OneL.c (fun _ => rfl)) rfl (by first | omega | (simp <;> omega)) fun v38 => ⟨Gh.le_refl _, PickC.pick, ?_⟩)
          refine RH.ot rfl rfl (OT.append (v := v38) (u := v40) (F := intT) rfl El38 rfl (by decide) rfl rfl Rs.o (OneL.c (fun _ => rfl)) rfl (by first | omega | (simp <;> omega)) fun v41 => ⟨Gh.le_refl _, PickC.pick, ?_⟩)
          refine RH.ot rfl rfl (OT.append (v := v41) (F := intT) rfl El38 rfl (by decide) rfl rfl (Rs.slv (F := intT) Rs.o (by omega) (by omega)) (OneL.c (fun _ => rfl)) rfl (by first | omega | (simp <;> omega)) fun v45 => ⟨Gh.le_refl _, PickC.pick, ?_⟩)
          refine RH.pv rfl (fun _ _ _ _ h => h) (Gh.le_refl _) PickC.pick rfl (PV.asg (v := v45) rfl rfl) ?_
          refine RH.nil ?_
          refine WP.region ?_
          refine RG.pv rfl (PV.mvI (.inl rfl) rfl) ?_
          refine RG.pv rfl (PV.add rfl rfl rfl (by omega)) ?_
          refine RG.pv rfl (PV.mvI (.inr rfl) rfl) ?_
          refine RG.nil ?_
          exact ⟨rfl, i + 1, (putA out mn (szZ (gd zs i))), v45, ⟨by omega, hp2, hs⟩, ⟨rfl, rfl, trivial⟩, ⟨rfl, trivial⟩, ((Cv.p (C := osl 2 intT v45 ([] ++ (out.take mn).drop 0 ++ [netC (er (regs (gd zs i).pieces.xs))] ++ (out.take out.length).drop mn) :: L)).trans (Cv.eqS (by simp [putA, szZ]))), by omega⟩
    · have g2 : m = 0 := by have := of_decide_eq_false g1; omega
      obtain ⟨mn, rfl⟩ := Int.eq_ofNat_of_zero_le hm0
      have hs := putA_sorted (m := mn) (n := szZ (gd zs i)) hso (by omega) (fun j h5 h6 => hm2 j (by omega) h6) (fun h => by omega)
      have hp2 : (putA out mn (szZ (gd zs i))).Perm ((zs.take (i + 1)).map szZ) := by
        rw [List.take_add_one, getG h3, List.map_append]
        exact (putA_perm _ _ _).trans (hpm.append_right _)
      refine RG.skip rfl rfl rfl (gne g1) ?_
      refine RG.skip rfl rfl rfl (gne g1) ?_
      refine RG.skip rfl rfl rfl (gne g1) ?_
      refine RG.skip rfl rfl rfl (gne g1) ?_
      refine RG.skip rfl rfl rfl (gne g1) ?_
      refine RG.skip rfl rfl rfl (gne g1) ?_
      refine RG.skip rfl rfl rfl (gne g1) ?_
      refine RG.pv rfl (PV.pickE rfl rfl g1 rfl) ?_
      refine RG.nil ?_
      refine WP.cond rfl (fun h4 => ?_) (fun h4 => ?_)
      · cases h4
      · refine WP.exit ?_
        refine WP.regionH0 (.q 1 (.q 2 (.q 3 (.q 5 (.q 8 (.q 9 (.q 10 (.b 0 (.b 4 (.l 6 (.l 7 (.l 11 (.q 12 Sch.nil)))) 6 (.l 4 (.l 7 (.l 11 (.q 12 Sch.nil))))) 6 (.l 0 (.l 4 (.l 7 (.l 11 (.q 12 Sch.nil))))))))))))) (by kernel_rfl) (by kernel_rfl) (by kernel_rfl) rfl ?_
        refine RH.pv rfl (fun _ _ _ _ h => h) (Gh.le_refl _) PickC.pick rfl (PV.move (v := q) rfl rfl) ?_
        refine RH.pv rfl (fun _ _ _ _ h => h) (Gh.le_refl _) PickC.pick rfl (PV.mvI (.inl rfl) rfl) ?_
        refine RH.pv rfl (fun _ _ _ _ h => h) (Gh.le_refl _) PickC.pick rfl (PV.slc (v := q) rfl Is38 rfl SlF.o optAt.n (optAt.s rfl rfl) (by omega) (by omega)) ?_
        refine RH.pv rfl (fun _ _ _ _ h => h) (Gh.le_refl _) PickC.pick rfl (PV.mvI (.inl rfl) rfl) ?_
        refine RH.pv rfl (fun _ _ _ _ h => h) (Gh.le_refl _) PickC.pick rfl (PV.move (v := q) rfl rfl) ?_
        refine RH.pv rfl (fun _ _ _ _ h => h) (Gh.le_refl _) PickC.pick rfl (PV.mvI (.inl rfl) rfl) ?_
        refine RH.pv rfl (fun _ _ _ _ h => h) (Gh.le_refl _) PickC.pick rfl (PV.slc (v := q) rfl Is38 rfl SlF.o (optAt.s rfl rfl) optAt.n (by omega) (by omega)) ?_
        refine RH.ot2 rfl rfl rfl rfl (OT.bslice (F := intT) (els := []) rfl El38 rfl (by decide) rfl (by decide) trivial fun v34 => ⟨Gh.le_refl _, PickC.pick, ?_⟩) (OT.bslice (F := intT) (els := [_]) rfl El38 rfl (by decide) rfl (by decide) ⟨rfl, (Cl.c rfl), trivial⟩ fun v40 => ⟨Gh.le_refl _, PickC.pick, ?_⟩)
        · skip
          refine RH.ot2 rfl rfl rfl rfl (OT.append (v := v34) (F := intT) rfl El38 rfl (by decide) rfl rfl (Rs.slv (F := intT) Rs.o (by omega) (by omega)) (OneL.c (fun _ => rfl)) rfl (by first | omega | (simp <;> omega)) fun v38 => ⟨Gh.le_refl _, PickC.pick, ?_⟩) (OT.bslice (F := intT) (els := [_]) rfl El38 rfl (by decide) rfl (by decide) ⟨rfl, (Cl.c rfl), trivial⟩ fun v40 => ⟨Gh.le_refl _, PickC.pick, ?_⟩)
          · refine RH.ot rfl rfl (OT.bslice (F := intT) (els := [_]) rfl El38 rfl (by decide) rfl (by decide) ⟨rfl, (Cl.c rfl), trivial⟩ fun v40 => ⟨Gh.le_refl _, PickC.pick, ?_⟩)
            refine RH.ot rfl rfl (OT.append (v := v38) (u := v40) (F := intT) rfl El38 rfl (by decide) rfl rfl Rs.o (OneL.c (fun _ => rfl)) rfl (by first | omega | (simp <;> omega)) fun v41 => ⟨Gh.le_refl _, PickC.pick, ?_⟩)
            refine RH.ot rfl rfl (OT.append (v := v41) (F := intT) rfl El38 rfl (by decide) rfl rfl (Rs.slv (F := intT) Rs.o (by omega) (by omega)) (OneL.c (fun _ => rfl)) rfl (by first | omega | (simp <;> omega)) fun v45 => ⟨Gh.le_refl _, PickC.pick, ?_⟩)
            refine RH.pv rfl (fun _ _ _ _ h => h) (Gh.le_refl _) PickC.pick rfl (PV.asg (v := v45) rfl rfl) ?_
            refine RH.nil ?_
            refine WP.region ?_
            refine RG.pv rfl (PV.mvI (.inl rfl) rfl) ?_
            refine RG.pv rfl (PV.add rfl rfl rfl (by omega)) ?_
            refine RG.pv rfl (PV.mvI (.inr rfl) rfl) ?_
            refine RG.nil ?_
            exact ⟨rfl, i + 1, (putA out mn (szZ (gd zs i))), v45, ⟨by omega, hp2, hs⟩, ⟨rfl, rfl, trivial⟩, ⟨rfl, trivial⟩, ((Cv.p (C := osl 2 intT v45 ([] ++ (out.take mn).drop 0 ++ [netC (er (regs (gd zs i).pieces.xs))] ++ (out.take out.length).drop mn) :: L)).trans (Cv.eqS (by simp [putA, szZ]))), by omega⟩
          · refine RH.ot rfl rfl (OT.append (v := v34) (F := intT) rfl El38 rfl (by decide) rfl rfl (Rs.slv (F := intT) Rs.o (by omega) (by omega)) (OneL.c (fun _ => rfl)) rfl (by first | omega | (simp <;> omega)) fun v38 => ⟨Gh.le_refl _, PickC.pick, ?_⟩)
            refine RH.ot rfl rfl (OT.append (v := v38) (u := v40) (F := intT) rfl El38 rfl (by decide) rfl rfl Rs.o (OneL.c (fun _ => rfl)) rfl (by first | omega | (simp <;> omega)) fun v41 => ⟨Gh.le_refl _, PickC.pick, ?_⟩)
            refine RH.ot rfl rfl (OT.append (v := v41) (F := intT) rfl El38 rfl (by decide) rfl rfl (Rs.slv (F := intT) Rs.o (by omega) (by omega)) (OneL.c (fun _ => rfl)) rfl (by first | omega | (simp <;> omega)) fun v45 => ⟨Gh.le_refl _, PickC.pick, ?_⟩)
            refine RH.pv rfl (fun _ _ _ _ h => h) (Gh.le_refl _) PickC.pick rfl (PV.asg (v := v45) rfl rfl) ?_
            refine RH.nil ?_
            refine WP.region ?_
            refine RG.pv rfl (PV.mvI (.inl rfl) rfl) ?_
            refine RG.pv rfl (PV.add rfl rfl rfl (by omega)) ?_
            refine RG.pv rfl (PV.mvI (.inr rfl) rfl) ?_
            refine RG.nil ?_
            exact ⟨rfl, i + 1, (putA out mn (szZ (gd zs i))), v45, ⟨by omega, hp2, hs⟩, ⟨rfl, rfl, trivial⟩, ⟨rfl, trivial⟩, ((Cv.p (C := osl 2 intT v45 ([] ++ (out.take mn).drop 0 ++ [netC (er (regs (gd zs i).pieces.xs))] ++ (out.take out.length).drop mn) :: L)).trans (Cv.eqS (by simp [putA, szZ]))), by omega⟩
        · refine RH.ot rfl rfl (OT.bslice (F := intT) (els := []) rfl El38 rfl (by decide) rfl (by decide) trivial fun v34 => ⟨Gh.le_refl _, PickC.pick, ?_⟩)
          refine RH.ot rfl rfl (OT.append (v := v34) (F := intT) rfl El38 rfl (by decide) rfl rfl (Rs.slv (F := intT) Rs.o (by omega) (by omega)) (OneL.c (fun _ => rfl)) rfl (by first | omega | (simp <;> omega)) fun v38 => ⟨Gh.le_refl _, PickC.pick, ?_⟩)
          refine RH.ot rfl rfl (OT.append (v := v38) (u := v40) (F := intT) rfl El38 rfl (by decide) rfl rfl Rs.o (OneL.c (fun _ => rfl)) rfl (by first | omega | (simp <;> omega)) fun v41 => ⟨Gh.le_refl _, PickC.pick, ?_⟩)
          refine RH.ot rfl rfl (OT.append (v := v41) (F := intT) rfl El38 rfl (by decide) rfl rfl (Rs.slv (F := intT) Rs.o (by omega) (by omega)) (OneL.c (fun _ => rfl)) rfl (by first | omega | (simp <;> omega)) fun v45 => ⟨Gh.le_refl _, PickC.pick, ?_⟩)
          refine RH.pv rfl (fun _ _ _ _ h => h) (Gh.le_refl _) PickC.pick rfl (PV.asg (v := v45) rfl rfl) ?_
          refine RH.nil ?_
          refine WP.region ?_
          refine RG.pv rfl (PV.mvI (.inl rfl) rfl) ?_
          refine RG.pv rfl (PV.add rfl rfl rfl (by omega)) ?_
          refine RG.pv rfl (PV.mvI (.inr rfl) rfl) ?_
          refine RG.nil ?_
          exact ⟨rfl, i + 1, (putA out mn (szZ (gd zs i))), v45, ⟨by omega, hp2, hs⟩, ⟨rfl, rfl, trivial⟩, ⟨rfl, trivial⟩, ((Cv.p (C := osl 2 intT v45 ([] ++ (out.take mn).drop 0 ++ [netC (er (regs (gd zs i).pieces.xs))] ++ (out.take out.length).drop mn) :: L)).trans (Cv.eqS (by simp [putA, szZ]))), by omega⟩
  · have h2 := of_decide_eq_false h2
    obtain rfl : i = zs.length := by omega
    rw [List.take_length] at hpm
    refine WP.exit ?_
    refine WP.seq ?_
    refine WP.region ?_
    refine RG.pv rfl (PV.move (v := q) rfl rfl) ?_
    refine RG.pv rfl (PV.asg (v := q) rfl rfl) ?_
    refine RG.nil ?_
    refine WP.ret ?_
    exact ⟨_, _, ResV.one rfl rfl, Cv.p, k q out hpm hso⟩
theorem szZ_map {l : List (List Rect)} {zs : List Net} (h : (er (nps zs)).map erPs = netR l) : zs.map szZ = (netR l).map netCE := by
  rw [← h, nps_er, List.map_map]
  refine List.map_congr_left fun z _ => ?_
  simp only [Function.comp_apply, szZ, netCE]
  congr 1
  simp [er, regs, erPs, erP, Function.comp_def]
theorem rg_gd {n k : Nat} (h : k < n) : gd (List.range n) k = k := by simp [gd, h]
theorem netL_sizes (l : List (List Rect)) : (netL l).map netCE = (List.range (netN l)).map (szN l) := by
  apply List.ext_getElem?
  intro k
  by_cases hk : k < netN l
  · rw [getG (by rw [List.length_map, netL_len]; exact hk), gd_map _ (by rw [netL_len]; exact hk), getG (by simpa using hk), gd_map _ (by simpa using hk), rg_gd hk, netCE_eq (netL_reg (gd_mem (by rw [netL_len]; exact hk))), netL_gd hk, costL_map, szN]
    congr 1
    have key : ∀ js : List Nat, (∀ j ∈ js, j < (pcL l 4).length) → costL (fun j => areaS (pcR (gd (pcL l 4) j)).2) js = costL (fun j => cnt (gd (pcL l 4) j).2) js := fun js => by
      induction js with
      | nil => intro _; rfl
      | cons j js ih =>
        intro h
        simp only [costL]
        rw [ih fun i hi => h i (.tail _ hi)]
        congr 1
        obtain ⟨i, hi, -, hc⟩ := piece_in (h j (.head _))
        exact cnt_canon (comps_mem hc)
    exact key _ fun j hj => by simp only [List.mem_filter, List.mem_range] at hj; exact hj.1
  · rw [List.getElem?_eq_none (by rw [List.length_map, netL_len]; omega), List.getElem?_eq_none (by simp; omega)]
theorem tn_of {t : Trans} {xs ys : List (Sl Rect)} (hy : ys.length = 8) (hx : xs.length = 8) (h : ∀ i, i < 8 → mvOk t (gd xs i).xs = true ∧ (gd ys i).xs = mvR t (gd xs i).xs) : Tn t (er xs) (er ys) := by
  have hv : validT t = true := by have := (h 0 (by omega)).1; simp only [mvOk, Bool.and_eq_true] at this; exact this.1.1
  have hr : ∀ i, i < 8 → isReg (gd xs i).xs = true := fun i hi => by have := (h i hi).1; simp only [mvOk, Bool.and_eq_true] at this; exact this.1.2
  have hm : ∀ i, i < 8 → movedOk t (gd xs i).xs = true := fun i hi => by have := (h i hi).1; simp only [mvOk, Bool.and_eq_true] at this; exact this.2
  have he : ∀ i, i < 8 → (gd ys i).xs = canon (bits ((gd xs i).xs.map (moveR t))) := fun i hi => by
    rw [(h i hi).2, mvR, hv, hr i hi, movedR, hm i hi]; rfl
  refine ⟨(validT_iff.1 hv).1, ?_, ?_, fun n hn => ?_, fun n hn r hr2 => ?_⟩
  · rw [isLay_all fun i hi => by rw [er_gd]; exact hr i (by rw [er_len] at hi; omega), er_len, hx]; rfl
  · rw [isLay_all fun i hi => by rw [er_gd, he i (by rw [er_len] at hi; omega)]; exact isReg_canon (bits_length _), er_len, hy]; rfl
  · rw [er_gd, er_gd, he n hn, bits_canon (bits_length _)]
  · rw [er_gd] at hr2
    have := hm n hn
    rw [movedOk, List.all_eq_true] at this
    exact this r hr2
theorem turned_eq {t : Trans} {l l' : List (List Rect)} (h : Tn t l l') : netE l = netE l' := by
  have hn : netN l = netN l' := by have := (sizes_perm h).length_eq; simpa using this
  rw [netE, netE, h.hl, h.hl', hn]
theorem turned_sizes {t : Trans} {l l' : List (List Rect)} (h : Tn t l l') {a b : List Int} (ha : a.Perm ((netR l).map netCE)) (hb : b.Perm ((netR l').map netCE)) (sa : a.Pairwise (· ≤ ·)) (sb : b.Pairwise (· ≤ ·)) : a = b := by
  refine List.Perm.eq_of_pairwise (le := (· ≤ ·)) (fun x y _ _ h1 h2 => by omega) sa sb (ha.trans (List.Perm.trans ?_ hb.symm))
  have e := turned_eq h
  by_cases c : netE l = 0
  · rw [netR, if_pos c, netR, if_pos (by rw [← e]; exact c), netL_sizes, netL_sizes]
    exact sizes_perm h
  · rw [netR, if_neg c, netR, if_neg (by rw [← e]; exact c)]
theorem netR_24 (l : List (List Rect)) : (netR l).length ≤ 24 := by
  rw [netR]
  by_cases h : netE l = 0
  · rw [if_pos h, netL_len]; exact (netE_ok h).2
  · rw [if_neg h]; simp
theorem netR_bd {l : List (List Rect)} {z : List (Int × List Rect)} (h : z ∈ netR l) : z.length ≤ 25600 := by
  rw [netR] at h
  by_cases c : netE l = 0
  · rw [if_pos c] at h
    have hcn := netL_count l
    have hpl := pcL_len l 4
    have hlen0 : ∀ z : List (Int × List Rect), 0 ≤ (z.length : Int) := fun z => by omega
    obtain ⟨i, hi, rfl⟩ := List.getElem_of_mem h
    have := costL_mem (n := fun z : List (Int × List Rect) => (z.length : Int)) hlen0 (xs := netL l) hi
    rw [gd_eq hi] at this
    omega
  · rw [if_neg c] at h; cases h
theorem nets_facts {l : List (List Rect)} {zs : List Net} (h : (er (nps zs)).map erPs = netR l) : zs.length = (netR l).length ∧ ∀ i, i < zs.length → (gd zs i).pieces.xs.length ≤ 1048576 := by
  have hl : zs.length = (netR l).length := by have := congrArg List.length h; rwa [List.length_map, er_len, nps_len] at this
  refine ⟨hl, fun i hi => ?_⟩
  have e : gd (netR l) i = erPs (gd zs i).pieces.xs := by
    rw [← h, gd_map _ (by rw [er_len, nps_len]; exact hi), er_gd, nps_gd hi]
  have := netR_bd (l := l) (gd_mem (i := i) (by omega))
  rw [e, erPs_len] at this
  omega
theorem nets_hp (zs : List Net) : ∀ i, i < zs.length → Rs G [bagS 62 pieceT (nps zs)] pieceT (gd zs i).pieces.v (gd zs i).pieces.xs := fun i hi => by
  have := Rs.inBag (G := G) (L := [bagS 62 pieceT (nps zs)]) (L' := []) (e := 62) (F := pieceT) (xs := nps zs) i (by rw [nps_len]; exact hi)
  rwa [nps_gd hi] at this
theorem nets_hr (zs : List Net) : ∀ i, i < zs.length → RsE G [bagS 69 rectT (regs (er (nps zs)).flatten)] rectT (regs (gd zs i).pieces.xs) := fun i hi => RsE.flat (L := [bagS 69 rectT (regs (er (nps zs)).flatten)]) (L' := []) (e := 69) hi
theorem law_NetsTurned {cv : Value} {bs : List UInt8} (hcode : SL G byteT cv bs) (k : R (.bool true) G L) : CallT Try.prog 3 #[cv] G L R := by
  refine CallT.enter (args := _) Try.func3 rfl rfl (by kernel_rfl) rfl ?_
  refine WP.seq ?_
  refine WP.region ?_
  refine RG.pv rfl (PV.mvB (.inr rfl) rfl) ?_
  refine RG.nil ?_
  refine WP.seq ?_
  refine WP.seq ?_
  refine WP.region ?_
  refine RG.pv rfl (PV.move (v := cv) rfl rfl) ?_
  refine RG.callF (vs := [cv]) rfl rfl En4 rfl (big_s hcode ?_)
  refine RG.nil ?_
  refine WP.cond rfl (fun h0 => ?_) (fun h0 => ?_)
  · refine WP.seq ?_
    refine WP.region ?_
    refine RG.pv rfl (PV.mvB (.inr rfl) rfl) ?_
    refine RG.nil ?_
    refine WP.ret ?_
    exact ⟨_, _, ResV.one rfl rfl, Cv.p, k⟩
  · refine WP.skip ?_
    refine WP.seq ?_
    refine WP.region ?_
    refine RG.pv rfl (PV.move (v := cv) rfl rfl) ?_
    refine RG.callF (vs := [cv, _]) rfl rfl En5 rfl (roll_s hcode (fun b => ?_))
    refine RG.pv rfl (PV.asg rfl rfl) ?_
    refine RG.nil ?_
    refine WP.seq ?_
    refine WP.region ?_
    refine RG.pv rfl (PV.move (v := cv) rfl rfl) ?_
    refine RG.callF (vs := [cv]) rfl rfl En6 rfl (drawNets_s hcode (fun v18 v0 xs ys hxs hmem hxl => ?_))
    refine RG.pv rfl (PV.asg (v := v18) rfl rfl) ?_
    refine RG.nil ?_
    refine WP.seq ?_
    refine WP.region ?_
    refine RG.pv rfl (PV.move rfl rfl) ?_
    refine RG.callF (vs := [_]) rfl rfl En8 rfl (CallT.exC (dice b cv) (place_s hcode (fun t => ?_)))
    refine RG.pv rfl (PV.move (v := v18) rfl rfl) ?_
    refine RG.callF (vs := [_, v18]) rfl rfl En7 rfl (moved_s (Rs.up hxs) (drawn_hd (v0 := v0) (e := 69) (e' := 45) hmem).up hxl (fun w23 ys2 bb hb => ?_))
    refine RG.pv rfl (PV.move (v := .tuple _) rfl rfl) ?_
    refine RG.pv rfl (PV.ext (v := w23) rfl rfl rfl) ?_
    refine RG.pv rfl (PV.ext rfl rfl rfl) ?_
    refine RG.pv rfl (PV.asg (v := w23) rfl rfl) ?_
    refine RG.pv rfl (PV.mvB (.inr rfl) rfl) ?_
    refine RG.nil ?_
    refine WP.seq ?_
    refine WP.seq ?_
    refine WP.region ?_
    refine RG.pv rfl (PV.mvB (.inl rfl) rfl) ?_
    refine RG.pv rfl (PV.not rfl rfl) ?_
    refine RG.nil ?_
    refine WP.cond rfl (fun h1 => ?_) (fun h1 => ?_)
    · refine WP.seq ?_
      refine WP.region ?_
      refine RG.pv rfl (PV.mvB (.inr rfl) rfl) ?_
      refine RG.nil ?_
      refine WP.ret ?_
      exact ⟨_, _, ResV.one rfl rfl, Cv.p, k⟩
    · have h1 : bb = true := by simpa using h1
      obtain ⟨g1, g2, g3⟩ := hb h1
      have hT := tn_of g1 g2 g3
      have hE := turned_eq hT
      have hE2 : decide (netE (er xs) = netE (er ys2)) = true := decide_eq_true hE
      refine WP.skip ?_
      refine WP.seq ?_
      refine WP.region ?_
      refine RG.pv rfl (PV.move (v := v18) rfl rfl) ?_
      refine RG.callF (vs := [v18]) rfl rfl En9 rfl (nets_i (Rs.up hxs) (drawn_hd (v0 := v0) (e := 69) (e' := 45) hmem).up (fun w30 zs1 he1 => ?_))
      refine RG.pv rfl (PV.move (v := .tuple _) rfl rfl) ?_
      refine RG.pv rfl (PV.ext (v := w30) rfl rfl rfl) ?_
      refine RG.pv rfl (PV.ext rfl rfl rfl) ?_
      refine RG.pv rfl (PV.asg (v := w30) rfl rfl) ?_
      refine RG.pv rfl (PV.mvI (.inr rfl) rfl) ?_
      refine RG.nil ?_
      refine WP.seq ?_
      refine WP.region ?_
      refine RG.pv rfl (PV.move (v := w23) rfl rfl) ?_
      refine RG.callF (vs := [w23]) rfl rfl En9 rfl (nets_i (xs := ys2) Rs.o RsE.o (fun w35 zs2 he2 => have hf1 := nets_facts he1; have hf2 := nets_facts he2; have hz1 := netR_24 (er xs); have hz2 := netR_24 (er ys2); ?_))
      refine RG.pv rfl (PV.move (v := .tuple _) rfl rfl) ?_
      refine RG.pv rfl (PV.ext (v := w35) rfl rfl rfl) ?_
      refine RG.pv rfl (PV.ext rfl rfl rfl) ?_
      refine RG.pv rfl (PV.asg (v := w35) rfl rfl) ?_
      refine RG.pv rfl (PV.mvI (.inr rfl) rfl) ?_
      refine RG.nil ?_
      refine WP.seq ?_
      refine WP.region ?_
      refine RG.pv rfl (PV.move (v := v18) rfl rfl) ?_
      refine RG.callF (vs := [v18]) rfl rfl En10 rfl (nets_r (Rs.up hxs) (drawn_hd (v0 := v0) (e := 69) (e' := 45) hmem).up (fun w40 zs3 he3 => ?_))
      refine RG.pv rfl (PV.move (v := .tuple _) rfl rfl) ?_
      refine RG.pv rfl (PV.ext (v := w40) rfl rfl rfl) ?_
      refine RG.pv rfl (PV.ext rfl rfl rfl) ?_
      refine RG.pv rfl (PV.asg (v := w40) rfl rfl) ?_
      refine RG.pv rfl (PV.mvI (.inr rfl) rfl) ?_
      refine RG.nil ?_
      refine WP.seq ?_
      refine WP.region ?_
      refine RG.pv rfl (PV.mvI (.inl rfl) rfl) ?_
      refine RG.pv rfl (PV.mvI (.inl rfl) rfl) ?_
      refine RG.pv rfl (PV.eql rfl rfl rfl) ?_
      refine RG.pv rfl (PV.mvB (.inl rfl) rfl) ?_
      refine RG.gs rfl rfl rfl (fun hp => (PV.mvI (.inl rfl) rfl)) ?_
      refine RG.gs rfl rfl rfl (fun hp => (PV.mvI (.inl rfl) rfl)) ?_
      refine RG.gs rfl rfl rfl (fun hp => (PV.eql rfl (gs_t hp) (gs_t hp))) ?_
      refine RG.pv rfl (PV.pickA rfl rfl (fun hq => gs_t (geqT hq)) rfl) ?_
      refine RG.pv rfl (PV.mvB (.inl rfl) rfl) ?_
      refine RG.gs rfl rfl rfl (fun hp => (PV.move (v := w30) rfl rfl)) ?_
      refine RG.gs rfl rfl rfl (fun hp => (PV.len (v := w30) rfl Try.underlying34 (gs_t hp) SlF.o)) ?_
      refine RG.gs rfl rfl rfl (fun hp => (PV.move (v := w40) rfl rfl)) ?_
      refine RG.gs rfl rfl rfl (fun hp => (PV.len (v := w40) rfl Try.underlying34 (gs_t hp) SlF.o)) ?_
      refine RG.gs rfl rfl rfl (fun hp => (PV.eql rfl (gs_t hp) (gs_t hp))) ?_
      refine RG.pv rfl (PV.pickA rfl rfl (fun hq => gs_t (geqT hq)) rfl) ?_
      refine RG.pv rfl (PV.mvB (.inl rfl) rfl) ?_
      refine RG.spl (t := 58) rfl (fun g5 => ?_) (fun g5 => ?_)
      · refine RG.take rfl rfl rfl g5 ?_
        refine RG.pv rfl (PV.move (v := w30) rfl rfl) ?_
        refine RG.take rfl rfl rfl g5 ?_
        refine RG.callF (vs := [w30]) rfl rfl En12 rfl (sorted_s (zs := zs1) Rs.o (fun i hi => (nets_hp zs1 i hi).up) (fun i hi => (nets_hr zs1 i hi).up) hf1.2 (by omega) (fun v60 out1 hp1 hs1 => ?_))
        refine RG.take rfl rfl rfl g5 ?_
        refine RG.pv rfl (PV.move (v := w35) rfl rfl) ?_
        refine RG.take rfl rfl rfl g5 ?_
        refine RG.callF (vs := [w35]) rfl rfl En12 rfl (sorted_s (zs := zs2) Rs.o (fun i hi => (nets_hp zs2 i hi).up) (fun i hi => (nets_hr zs2 i hi).up) hf2.2 (by omega) (fun v62 out2 hp2 hs2 => ?_))
        refine RG.take rfl rfl rfl g5 ?_
        refine RG.callF (vs := [_, _]) rfl rfl En11 rfl (sameIn_s (Rs.o (v := v60)) (Rs.o (v := v62)) ?_)
        refine RG.pv rfl (PV.pickT rfl rfl g5 rfl) ?_
        refine RG.pv rfl (PV.mvB (.inr rfl) rfl) ?_
        refine RG.nil ?_
        refine WP.ret ?_
        have e : decide (out1 = out2) = true := decide_eq_true (turned_sizes hT (by rw [← szZ_map he1]; exact hp1) (by rw [← szZ_map he2]; exact hp2) hs1 hs2)
        rw [← e] at k
        exact ⟨_, _, ResV.one rfl rfl, Cv.p, k⟩
      · exfalso
        have h3 := (nets_facts he3).1
        have h4 := hf1.1
        have h5 : zs1.length = zs3.length := by omega
        simp [hE, h5] at g5
end Go.Proofs.Ythhjapiggekjbaa
namespace Go.Proofs.Ythhjapiggekjbaa
set_option linter.unusedVariables false
set_option linter.unusedSimpArgs false
open Go Go.ChangeShapes Go.WideShapes Go.ChangeAt Go.RowKit Go.Deep
set_option linter.unusedVariables false
def Gw (w : World) : Gh := ⟨wh w, w.os, w.tape, w.output, w.drawn⟩
theorem St.start (w : World) : St (Gw w) [] w := ⟨fun _ => none, trivial, Hp.le_refl _, (fun _ _ h => by cases h), fun _ => .inl rfl, rfl, rfl, rfl, Nat.le_refl _⟩
/-- behind a call that began in W, all of W's blocks are as they were -/
theorem St.below {W w' : World} {G : Gh} {L : List Ch} (l : Gh.le (Gw W) G) (h : St G L w') : Below W.heap.size W w' := by
  obtain ⟨hp, s, l1, l2, d, ok⟩ := h
  have ok' := Gh.le_ok l ok
  have up := Hp.le_trans l.1 l1
  have key : ∀ k, k < W.heap.size → w'.heap[k]? = W.heap[k]? := fun k hk => by
    have : (Gw W).f k = some W.heap[k] := by simp [Gw, wh, hk]
    have h2 := up k _ this
    simp only [wh] at h2
    rw [h2]; simp [hk]
  refine ⟨ok'.1, ok'.2.1, ok'.2.2.1, ?_, key⟩
  by_cases h0 : W.heap.size = 0
  · omega
  · have := key (W.heap.size - 1) (by omega)
    rw [Array.getElem?_eq_getElem (by omega : W.heap.size - 1 < W.heap.size)] at this
    have := (Array.getElem?_eq_some_iff.1 this).1
    omega
def Opn {ρ : Type} (P : Program) (t : TypeId) (F : FT ρ) (ok : Gh → ρ → Prop) : Prop :=
  ∀ {H : Type} {enc : TypeId × Value → H} {w : World} {fuel : Nat} {cs : List Value} {x : DataW H × List MemPlace}, DataW.trod enc P w 0 (fun _ => true) true fuel t cs = some x → ∃ a : ρ, cs = F.enc a ∧ ok (Gw w) a
def okL {ρ : Type} [Inhabited ρ] (F : FT ρ) (ok : Gh → ρ → Prop) (G : Gh) (v : Value) : Prop := ∃ xs : List ρ, SL G F v xs ∧ ∀ i, i < xs.length → ok G (gd xs i)
section
variable {P : Program} {t e : TypeId}
theorem cells_get {w : World} {a : Addr} {n : Nat} {cs : List Value} (h : w.cells? 0 a n = some cs) : cs.length = n ∧ ∀ j c, cs[j]? = some c → w.cell? (a.add j) = some c := by
  obtain ⟨_, h1, h2⟩ := World.cells?_some h
  refine ⟨h1, fun j c hc => ?_⟩
  have hj := (List.getElem?_eq_some_iff.1 hc).1
  rw [h2 j (by omega), hc]
theorem opnL {ρ : Type} [Inhabited ρ] {F : FT ρ} {ok : Gh → ρ → Prop} (ht : P.underlying t = some (.slice e)) (hE : Opn P e F ok) (hc : P.cellsOf e = F.sz) (h0 : 0 < F.sz) : Opn P t rawT (okL F ok) := fun {H enc w fuel cs x} h => by
  rcases open_slice ht h with ⟨rfl, _⟩ | ⟨a, len, cap, m, n, D, Pl, rfl, _, hl, hm, hmm, _, hel⟩
  · exact ⟨_, rfl, [], ⟨⟨0, Nat.le_refl _, Nat.zero_le _, .inr ⟨⟨_, rfl⟩, rfl⟩⟩, fun j c hj => by simp [FT.flat] at hj⟩, fun i hi => by simp at hi⟩
  have hmcap : m = cap := by simpa using hmm
  refine ⟨.slice (some a) len cap, rfl, ?_⟩
  have hall : ∀ i, i < len → ∃ r : ρ, w.cells? 0 (a.add (i * F.sz)) F.sz = some (F.enc r) ∧ ok (Gw w) r := fun i hi => by
    obtain ⟨cs', h1, h2⟩ := hel i (by omega)
    obtain ⟨r, rfl, hr⟩ := hE h2
    rw [hc] at h1
    exact ⟨r, h1, hr⟩
  have : ∃ f : Nat → ρ, ∀ i, i < len → w.cells? 0 (a.add (i * F.sz)) F.sz = some (F.enc (f i)) ∧ ok (Gw w) (f i) := choose_lt hall
  obtain ⟨f, hf⟩ := this
  have hlen : ((List.range len).map f).length = len := by simp
  have hget : ∀ i, i < len → ((List.range len).map f)[i]? = some (f i) := fun i hi => by simp [hi]
  have hsp : len ≠ 0 → a.spot = none := fun hz => by
    obtain ⟨h1, _⟩ := hf 0 (by omega)
    obtain ⟨hl1, hg⟩ := cells_get h1
    cases hq : (F.enc (f 0))[0]? with
    | none => rw [List.getElem?_eq_none_iff] at hq; omega
    | some c =>
      have hcell := hg 0 c hq
      cases hs : a.spot with
      | none => rfl
      | some s =>
        exfalso
        have h3 : ((a.add (0 * F.sz)).add 0).spot.isSome = true := by simp [Addr.add, hs]
        unfold World.cell? at hcell
        split at hcell
        · rw [if_pos h3] at hcell; cases hcell
        · cases hcell
  refine ⟨(List.range len).map f, ⟨⟨cap, by simpa using hl, hm, ?_⟩, ?_⟩, fun i hi => ?_⟩
  · by_cases hz : len = 0
    · exact .inr ⟨⟨some a, by simp⟩, by simpa using hz⟩
    · refine .inl ⟨a.block, a.off, ?_⟩
      have hsp := hsp hz
      simp only [hlen]
      obtain ⟨ab, ao, az⟩ := a
      simp only at hsp
      subst hsp; rfl
  · intro j c hj
    by_cases hz : len = 0
    · subst hz; simp [FT.flat] at hj
    have hsp := hsp hz
    have hjl : j < len * F.sz := by
      have := (List.getElem?_eq_some_iff.1 hj).1
      rwa [FT.flat_len, hlen] at this
    have hq : j / F.sz < len := (Nat.div_lt_iff_lt_mul h0).2 hjl
    have hr : j % F.sz < F.sz := Nat.mod_lt _ h0
    have hjd : j / F.sz * F.sz + j % F.sz = j := by rw [Nat.mul_comm]; exact Nat.div_add_mod j F.sz
    obtain ⟨h1, _⟩ := hf (j / F.sz) hq
    obtain ⟨_, hg⟩ := cells_get h1
    have hc' : (F.enc (f (j / F.sz)))[j % F.sz]? = some ((F.enc (f (j / F.sz)))[j % F.sz]'(by rw [F.len]; exact hr)) := List.getElem?_eq_getElem _
    have hfl := F.flat_get (hget _ hq) hc'
    rw [hjd, hj] at hfl
    have hcell := hg _ _ hc'
    obtain ⟨ab, ao, az⟩ := a
    simp only at hsp
    subst hsp
    rw [add_none, add_none, cell_hc, Nat.add_assoc, hjd] at hcell
    simp only [sb, so, Gw]
    rw [hcell]; exact hfl.symm
  · have hi' : i < len := by simpa using hi
    have : gd ((List.range len).map f) i = f i := by simp [gd, hi']
    rw [this]; exact (hf i hi').2
end
def okSl {ρ : Type} [Inhabited ρ] (F : FT ρ) (ok : Gh → ρ → Prop) (G : Gh) (s : Sl ρ) : Prop := SL G F s.v s.xs ∧ ∀ i, i < s.xs.length → ok G (gd s.xs i)
theorem opnSl {P : Program} {t e : TypeId} {ρ : Type} [Inhabited ρ] {F : FT ρ} {ok : Gh → ρ → Prop} (ht : P.underlying t = some (.slice e)) (hE : Opn P e F ok) (hc : P.cellsOf e = F.sz) (h0 : 0 < F.sz) : Opn P t slT (okSl F ok) := fun h => by
  obtain ⟨v, rfl, xs, h1, h2⟩ := opnL ht hE hc h0 h
  exact ⟨⟨v, xs⟩, rfl, h1, h2⟩
section
variable {P : Program} {t e : TypeId} {H : Type} {enc : TypeId × Value → H} {W : World} {r : Reach} {base : Nat} {v : Value} {d : DataW H} {ps : List MemPlace}
theorem argSl {ρ : Type} {ok : Gh → Sl ρ → Prop} (ht : P.underlying t = some (.slice e)) (hO : Opn P t slT ok) (hv : Value.okWide P W r base t v) (h : DataW.Trod enc P W 0 (fun _ => true) true t v d ps) : ∃ s : Sl ρ, v = s.v ∧ ok (Gw W) s := by
  obtain ⟨a, n, c, rfl⟩ := okWide_slice ht hv
  obtain ⟨fuel, hf⟩ := h
  obtain ⟨m, e1, hm⟩ := hO hf
  simp [Value.cells, slT] at e1
  exact ⟨m, e1, hm⟩
theorem trodAll_stays (hl : laidOutB P = true) {W' : World} (hb : Below W.heap.size W W') : ∀ {ts : List TypeId} {vs : List Value} {ds : List (DataW H)} {ps : List MemPlace}, (∀ t ∈ ts, P.readableRec t = true ∧ t < P.types.size) → (∀ x ∈ ps, x.block < W.heap.size) →
    DataW.TrodAll enc P W 0 (fun _ => true) true ts vs ds ps → DataW.TrodAll enc P W' 0 (fun b => decide (b < W.heap.size)) true ts vs ds ps
  | [], [], [], _, _, _, h => h
  | t :: ts, v :: vs, d :: ds, ps, hr, hlt, h => by
    obtain ⟨p, q, h1, h2, rfl⟩ := h
    have := hr t (.head _)
    exact ⟨p, q, Below.trod hl this.1 this.2 h1 hb (fun x hx => hlt x (List.mem_append_left _ hx)), trodAll_stays hl hb (fun t ht => hr t (.tail _ ht)) (fun x hx => hlt x (List.mem_append_right _ hx)) h2, rfl⟩
end
def recsB (P : Program) (ts : List TypeId) : Bool := ts.all fun t => P.readableRec t && Nat.blt t P.types.size
theorem recs_of {P : Program} {ts : List TypeId} (h : recsB P ts = true) : ∀ t ∈ ts, P.readableRec t = true ∧ t < P.types.size := by
  intro t ht
  have := List.all_eq_true.1 h t ht
  simp only [Bool.and_eq_true] at this
  exact ⟨this.1, Nat.le_of_ble_eq_true this.2⟩
/-- A LAW, LIFTED: the call returns true, the arguments read as they did. -/
theorem law_lifted {H : Type} {enc : TypeId × Value → H} {C : Checked} {os : Os} {f : FuncId} {fn : Func} {s : ChangeSpec} {tb : TypeId} (own : ownKnob C.prog.godebug = none) (started : os.Started) (noInit : C.prog.inits.idxOf? f = none) (hfn : C.prog.funcs[f]? = some fn) (hl : laidOutB C.prog = true)
    (hvars : s.vars = []) (hr : recsB C.prog fn.params.toList = true) (hres : fn.resultTypes = #[tb]) (htb : C.prog.underlying tb = some .bool)
    (hsp : ∀ ds : List (DataW H), ds.length = fn.params.toList.length → s.fn H ds = { results := [.lit (.bool true)], args := ds })
    (witness : ∃ (w : World) (tape : Tape) (i : Input), w.os = os ∧ (w.forCall tape i).Shaped C.prog ∧ i.vars = [] ∧ Input.okWide C.prog (w.forCall tape i) .any w.heap.size f i ∧
      s.pre6 enc C.prog fn [] false (w.forCall tape i).memory i.args ∧ ({} : Assume).holds C.prog (lone (Frame.enter C.prog f i.args .normal) [] (w.forCall tape i)))
    (walk : ∀ (W : World) (base : Nat) (args : Array Value) (ds : List (DataW H)) (ps : List MemPlace), (∀ (j : Nat) t v, fn.params[j]? = some t → args[j]? = some v → Value.okWide C.prog W .any base t v) →
      DataW.TrodAll enc C.prog W 0 (fun _ => true) true fn.params.toList args.toList ds ps → CallT C.prog f args (Gw W) [] fun v G _ => v = .bool true ∧ Gh.le (Gw W) G) :
    ReturnsInHanded {} C os f .any (s.pre6 enc C.prog fn [] false) (s.post enc C.prog fn false true false false) := by
  refine returnsInHanded_of_change own started noInit hfn witness ?_
  intro W base args ds gs before hval hW _ _
  have hW' := hW
  obtain ⟨p, q, hA, hV, rfl, hfz, hnd⟩ := hW
  rw [hvars] at hV
  obtain ⟨rfl, rfl⟩ := trodVars_none hV
  refine ((walk W base args ds p hval hA).run (St.start W)).mono ?_
  rintro e W' ⟨v, G, L, rfl, hs, rfl, hG⟩
  have hb := hs.below hG
  have hlt : ∀ x ∈ p, x.block < W.heap.size := fun x hx => hW'.lt x (List.mem_append_left _ hx)
  have hlen : ds.length = fn.params.toList.length := by
    have : ∀ (ts : List TypeId) (vs : List Value) (ds : List (DataW H)) (ps : List MemPlace), DataW.TrodAll enc C.prog W 0 (fun _ => true) true ts vs ds ps → ds.length = ts.length := by
      intro ts
      induction ts with
      | nil => intro vs ds ps h; cases vs <;> cases ds <;> simp_all [DataW.TrodAll]
      | cons t ts ih =>
        intro vs ds ps h
        cases vs <;> cases ds <;> simp only [DataW.TrodAll] at h
        obtain ⟨_, _, _, h2, _⟩ := h
        simp [ih _ _ _ h2]
    exact this _ _ _ _ hA
  refine ⟨_, rfl, ds, [], _, [], p, [], hW', ?_, ?_, ?_, hb.frame _, fun h => by cases h⟩
  · rw [List.append_nil, hsp ds hlen, hres]
    exact trodAll_mk1 (shut_bool htb true)
  · rw [List.append_nil, hsp ds hlen]
    exact trodAll_stays hl hb (recs_of hr) hlt hA
  · rw [List.append_nil, hsp ds hlen, hvars]
    exact rfl
end Go.Proofs.Ythhjapiggekjbaa
namespace Go.Proofs.Ythhjapiggekjbaa
set_option linter.unusedVariables false
set_option linter.unusedSimpArgs false
open Go Go.ChangeShapes Go.WideShapes Go.ChangeAt Go.RowKit
set_option linter.unusedSimpArgs false
def okU8 (_ : Gh) (_ : UInt8) : Prop := True
theorem opnU8 {P : Program} {t : TypeId} (ht : P.underlying t = some (.int .u8)) : Opn P t byteT okU8 := fun h => by
  obtain ⟨n, rfl, _, hw⟩ := DataW.trod_int ht h
  have : IntKind.u8.min ≤ n ∧ n ≤ IntKind.u8.max := by simpa [Lit.wf] using hw
  simp only [show IntKind.u8.min = 0 from rfl, show IntKind.u8.max = 255 from rfl] at this
  refine ⟨UInt8.ofNat n.toNat, ?_, trivial⟩
  simp only [byteT, UInt8.toNat_ofNat']
  congr 2
  omega
set_option maxRecDepth 100000
theorem Try.own : ownKnob Try.prog.godebug = none := by kernel_rfl
theorem Try.laidOut : laidOutB Try.prog = true := by kernel_rfl
theorem fnNetsTurned_lifted (os : Os) (started : os.Started) (H : Type) (enc : TypeId × Value → H) :
    ReturnsInHanded {} Try.checked os 3 .any (Rows.fnNetsTurnedSpec.pre6 enc Try.prog Try.f3 [] false) (Rows.fnNetsTurnedSpec.post enc Try.prog Try.f3 false true false false) := by
  refine law_lifted (C := Try.checked) Try.own started (by kernel_rfl) Try.func3 Try.laidOut rfl (by kernel_rfl) rfl Try.underlying4 (fun ds h => ?_)
    (ChangeSpec.witness6 (enc := enc) (C := Try.checked) false ⟨#[], #[.slice none 0 0], []⟩ 8 (by kernel_rfl) (by kernel_rfl) (by kernel_rfl) (by kernel_rfl)) ?_
  · match ds, h with
    | [d], _ => rfl
  · intro W base args ds ps hval hA
    have hA : DataW.TrodAll enc Try.prog W 0 (fun _ => true) true Try.f3.params.toList args.toList ds ps := hA
    have hval : ∀ (j : Nat) t v, Try.f3.params[j]? = some t → args[j]? = some v → Value.okWide Try.prog W .any base t v := hval
    rw [Try.params3] at hA hval
    obtain ⟨v0, d0, rfl, rfl, h0⟩ := trodAll_one hA
    obtain ⟨s, rfl, q1, _⟩ := argSl Try.underlying22 (opnSl (F := byteT) (ok := okU8) Try.underlying22 (opnU8 Try.underlying5) (by kernel_rfl) (by decide)) (hval 0 _ v0 rfl rfl) h0
    exact law_NetsTurned q1 ⟨rfl, Gh.le_refl _⟩
theorem fnNetsTurned_holds : Rows.FnNetsTurnedSaid :=
  OpenClaim.holds_of_wide 3 Try.f3 rfl rfl rfl rfl rfl rfl rfl ⟨rfl, rfl, rfl, rfl, rfl⟩ rfl rfl rfl rfl rfl (by kernel_rfl) Try.func3 (by kernel_rfl)
    (of_decide_eq_true (by kernel_rfl)) (by unfold Func.isWrapper; first | (rw [if_pos (by decide +kernel)]; kernel_rfl) | (rw [if_neg (by decide +kernel)]; exact ⟨rfl, rfl⟩))
    (fun os started H enc _ => fnNetsTurned_lifted os started H enc)
end Go.Proofs.Ythhjapiggekjbaa
