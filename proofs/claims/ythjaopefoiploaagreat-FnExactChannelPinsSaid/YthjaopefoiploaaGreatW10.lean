/-
  Contracts: the conductors of a layout; the law of them.
-/
import Derived.Test.YthjaopefoiploaaGreatW8
namespace Go.Proofs.YthjaopefoiploaaGreat
open Go
set_option maxRecDepth 20000
set_option linter.unusedSimpArgs false
variable {G : Gh} {L : List Ch} {R : Value → Gh → List Ch → Prop}

theorem clone_rects {v : Value} {xs : List (Rect)} (h1 : Rs G L rectT v xs) (hb : xs.length ≤ 1048576) (k : ∀ v', R v' G (osl 59 rectT v' xs :: L)) : CallT Tryz.prog 187 #[v] G L R := by
  refine CallT.st (fun w hs => isNilS_nil h1 hs) fun hn => ?_
  refine CallT.enter (args := _) Tryz.func187 rfl rfl (by kernel_rfl) rfl ?_
  refine WP.seq ?_
  refine WP.region ?_
  refine RG.pv rfl (PV.asg rfl rfl) ?_
  refine RG.nil ?_
  refine WP.seq ?_
  refine WP.seq ?_
  refine WP.region ?_
  refine RG.pv rfl (PV.move (v := v) rfl rfl) ?_
  refine RG.pv rfl (PV.eqlNil rfl Tryz.underlying66 rfl (SlF.r h1)) ?_
  refine RG.nil ?_
  refine WP.cond rfl (fun h2 => ?_) (fun h2 => ?_)
  · have e := hn h2
    rw [e] at k
    refine WP.seq ?_
    refine WP.region ?_
    refine RG.pv rfl (PV.asg rfl rfl) ?_
    refine RG.nil ?_
    refine WP.ret ?_
    exact ⟨_, _, ResV.one rfl rfl, Cv.nilS, k _⟩
  · refine WP.skip ?_
    refine WP.seq ?_
    refine WP.region ?_
    refine RG.ot rfl (OT.bslice (F := rectT) (els := []) rfl El66 rfl (by decide) rfl (by decide) trivial fun v5 => ?_)
    refine RG.pv rfl (PV.move (v := v) rfl rfl) ?_
    refine RG.ot rfl (OT.append (v := v5) (u := v) (F := rectT) rfl El66 rfl (by decide) rfl rfl (Rs.up h1) (OneL.c (fun _ => rfl)) rfl (by first | omega | (simp <;> omega)) fun v7 => ?_)
    refine RG.pv rfl (PV.asg (v := v7) rfl rfl) ?_
    refine RG.nil ?_
    refine WP.ret ?_
    exact ⟨_, _, ResV.one rfl rfl, (Cv.eqS (List.nil_append _)), k v7⟩
def condB (l : List (List Rect)) : List (List Bool) := [zipB (fun p q => p && !q) (bits (gd l 0)) (bits (gd l 1)), bits (gd l 1), bits (gd l 3), bits (gd l 5)]
def condR (l : List (List Rect)) : List (List Rect) := bif isLay l then (condB l).map canon else []
theorem condB_len (l : List (List Rect)) {i : Nat} (h : i < 4) : (gd (condB l) i).length = 6400 := by
  have h0 : ∀ xs, (bits xs).length = 6400 := bits_length
  match i, h with
  | 0, _ => simp [condB, gd, zipB, h0]
  | 1, _ => simp [condB, gd, h0]
  | 2, _ => simp [condB, gd, h0]
  | 3, _ => simp [condB, gd, h0]
theorem condR_eq {l : List (List Rect)} (h : isLay l = true) : condR l = [opR (fun p q => p && !q) (gd l 0) (gd l 1), gd l 1, gd l 3, gd l 5] := by
  simp only [condR, h, cond_true, condB, List.map_cons, List.map_nil, opR, isLay_reg h (show 0 < 8 by omega), isLay_reg h (show 1 < 8 by omega), Bool.and_self, isReg_eq (isLay_reg h (show 1 < 8 by omega)), isReg_eq (isLay_reg h (show 3 < 8 by omega)), isReg_eq (isLay_reg h (show 5 < 8 by omega))]
theorem condR_bd (l : List (List Rect)) : costL (costL nRect) (condR l) ≤ 51200 := by
  unfold condR
  cases isLay l
  · simp [costL]
  · have h := fun bs => canon_len bs
    simp only [cond_true, condB, List.map_cons, List.map_nil, costL, nRect_cost]
    have h1 := h (zipB (fun p q => p && !q) (bits (gd l 0)) (bits (gd l 1)))
    have h2 := h (bits (gd l 1)); have h3 := h (bits (gd l 3)); have h4 := h (bits (gd l 5))
    omega
theorem nRS_er (xs : List (Sl Rect)) : costL nRS xs = costL (costL nRect) (er xs) := by
  induction xs with
  | nil => rfl
  | cons z zs ih => simp only [er, List.map_cons, costL] at ih ⊢; rw [ih]; rfl
theorem l23Conductors_s {v : Value} {xs : List (Sl Rect)} (h1 : Rs G L slT v xs) (hd : RsE G L rectT xs) (h8 : xs.length = 8) (hreg : ∀ i, i < 8 → isReg (gd xs i).xs = true) (k : ∀ v' zs, er zs = condB (er xs) → R v' G (osl 142 slT v' zs :: bagS 4 boolT zs :: L)) : CallT Tryz.prog 98 #[v] G L R := by
  refine CallT.enter (args := _) Tryz.func98 rfl rfl (by kernel_rfl) rfl ?_
  refine WP.seq ?_
  refine WP.region ?_
  refine RG.pv rfl (PV.asg rfl rfl) ?_
  refine RG.nil ?_
  refine WP.seq ?_
  refine WP.region ?_
  refine RG.pv rfl (PV.move (v := v) rfl rfl) ?_
  refine RG.pv rfl (PV.idxS (j := 1) (v := v) rfl Is27 rfl (SlF.r h1) rfl (by omega) (by omega)) ?_
  refine RG.pv rfl (PV.loadE1 rfl Sc66 rfl rfl (El.r h1 (getG (by omega))) rfl) ?_
  refine RG.callF (vs := [_]) rfl rfl En101 rfl (l03Bits_s (Rs.up (hd _ (by omega))) (fun i hi => valid_get (isReg_valid (hreg _ (by omega))) hi) (fun v7 => ?_))
  refine RG.pv rfl (PV.asg (v := v7) rfl rfl) ?_
  refine RG.nil ?_
  refine WP.seq ?_
  refine WP.regionH0 (.q 0 (.q 1 (.q 2 (.q 4 (.q 6 (.q 7 (.q 8 (.q 9 (.q 11 (.q 12 (.q 13 (.l 3 (.l 5 (.l 10 (.l 14 (.l 15 (.q 16 Sch.nil))))))))))))))))) (by kernel_rfl) (by kernel_rfl) (by kernel_rfl) rfl ?_
  refine RH.pv rfl (fun _ _ _ _ h => h) (Gh.le_refl _) PickC.pick rfl (PV.move (v := v) rfl rfl) ?_
  refine RH.pv rfl (fun _ _ _ _ h => h) (Gh.le_refl _) PickC.pick rfl (PV.idxS (j := 0) (v := v) rfl Is27 rfl (SlF.r h1) rfl (by omega) (by omega)) ?_
  refine RH.pv rfl (fun _ _ _ _ h => h) (Gh.le_refl _) PickC.pick rfl (PV.loadE1 rfl Sc66 rfl rfl (El.r h1 (getG (by omega))) rfl) ?_
  refine RH.pv rfl (fun _ _ _ _ h => h) (Gh.le_refl _) PickC.pick rfl (PV.move (v := v7) rfl rfl) ?_
  refine RH.pv rfl (fun _ _ _ _ h => h) (Gh.le_refl _) PickC.pick rfl (PV.move (v := v7) rfl rfl) ?_
  refine RH.pv rfl (fun _ _ _ _ h => h) (Gh.le_refl _) PickC.pick rfl (PV.move (v := v) rfl rfl) ?_
  refine RH.pv rfl (fun _ _ _ _ h => h) (Gh.le_refl _) PickC.pick rfl (PV.idxS (j := 3) (v := v) rfl Is27 rfl (SlF.r h1) rfl (by omega) (by omega)) ?_
  refine RH.pv rfl (fun _ _ _ _ h => h) (Gh.le_refl _) PickC.pick rfl (PV.loadE1 rfl Sc66 rfl rfl (El.r h1 (getG (by omega))) rfl) ?_
  refine RH.pv rfl (fun _ _ _ _ h => h) (Gh.le_refl _) PickC.pick rfl (PV.move (v := v) rfl rfl) ?_
  refine RH.pv rfl (fun _ _ _ _ h => h) (Gh.le_refl _) PickC.pick rfl (PV.idxS (j := 5) (v := v) rfl Is27 rfl (SlF.r h1) rfl (by omega) (by omega)) ?_
  refine RH.pv rfl (fun _ _ _ _ h => h) (Gh.le_refl _) PickC.pick rfl (PV.loadE1 rfl Sc66 rfl rfl (El.r h1 (getG (by omega))) rfl) ?_
  refine RH.ot rfl rfl (OT.callF (vs := [_]) rfl En101 rfl (l03Bits_s (Rs.up (hd _ (by omega))) (fun i hi => valid_get (isReg_valid (hreg _ (by omega))) hi) (fun v11 => ⟨Gh.le_refl _, PickC.pick, ?_⟩)))
  refine RH.ot rfl rfl (OT.callF (vs := [v11, v7]) rfl En144 rfl (l23Minus_s Rs.o Rs.o (bits_length _) (bits_length _) (fun v13 => ⟨Gh.le_refl _, PickC.pick, ?_⟩)))
  refine RH.ot rfl rfl (OT.callF (vs := [_]) rfl En101 rfl (l03Bits_s (Rs.up (hd _ (by omega))) (fun i hi => valid_get (isReg_valid (hreg _ (by omega))) hi) (fun v18 => ⟨Gh.le_refl _, PickC.pick, ?_⟩)))
  refine RH.ot rfl rfl (OT.callF (vs := [_]) rfl En101 rfl (l03Bits_s (Rs.up (hd _ (by omega))) (fun i hi => valid_get (isReg_valid (hreg _ (by omega))) hi) (fun v22 => ⟨Gh.le_refl _, PickC.pick, ?_⟩)))
  refine RH.ot rfl rfl (OT.bslice (F := (slT (α := Bool))) (els := [⟨v13, zipB (fun p q => p && !q) (bits (gd xs 0).xs) (bits (gd xs 1).xs)⟩, ⟨v7, bits (gd xs 1).xs⟩, ⟨v18, bits (gd xs 3).xs⟩, ⟨v22, bits (gd xs 5).xs⟩]) rfl El139 rfl (by decide) rfl (by decide) ⟨rfl, (Cl.s (v := v13) SlF.o), ⟨rfl, (Cl.s (v := v7) SlF.o), ⟨rfl, (Cl.s (v := v18) SlF.o), ⟨rfl, (Cl.s (v := v22) SlF.o), trivial⟩⟩⟩⟩ fun v23 => ⟨Gh.le_refl _, PickC.pick, ?_⟩)
  refine RH.pv rfl (fun _ _ _ _ h => h) (Gh.le_refl _) PickC.pick rfl (PV.asg (v := v23) rfl rfl) ?_
  refine RH.nil ?_
  refine WP.ret ?_
  have e : er [(⟨v13, zipB (fun p q => p && !q) (bits (gd xs 0).xs) (bits (gd xs 1).xs)⟩ : Sl Bool), ⟨v7, bits (gd xs 1).xs⟩, ⟨v18, bits (gd xs 3).xs⟩, ⟨v22, bits (gd xs 5).xs⟩] = condB (er xs) := by
    simp [er, condB, ← er_gd]
  exact ⟨_, _, ResV.one rfl rfl, (Cv.p (C := osl 142 slT v23 [(⟨v13, zipB (fun p q => p && !q) (bits (gd xs 0).xs) (bits (gd xs 1).xs)⟩ : Sl Bool), ⟨v7, bits (gd xs 1).xs⟩, ⟨v18, bits (gd xs 3).xs⟩, ⟨v22, bits (gd xs 5).xs⟩] :: osl 4 boolT v13 (zipB (fun p q => p && !q) (bits (gd xs 0).xs) (bits (gd xs 1).xs)) :: osl 4 boolT v7 (bits (gd xs 1).xs) :: osl 4 boolT v18 (bits (gd xs 3).xs) :: osl 4 boolT v22 (bits (gd xs 5).xs) :: L)).trans (Cv.cons (Cv.toBag (B := [osl 4 boolT v13 (zipB (fun p q => p && !q) (bits (gd xs 0).xs) (bits (gd xs 1).xs)), osl 4 boolT v7 (bits (gd xs 1).xs), osl 4 boolT v18 (bits (gd xs 3).xs), osl 4 boolT v22 (bits (gd xs 5).xs)]))), k v23 _ e⟩
theorem conductors_s {v : Value} {xs : List (Sl Rect)} (h1 : Rs G L slT v xs) (hd : RsE G L rectT xs) (h8 : xs.length = 8) (hbi : ∀ i, i < 8 → (gd xs i).xs.length ≤ 1048576) (k : ∀ v' ys, er ys = [opR (fun p q => p && !q) (gd xs 0).xs (gd xs 1).xs, (gd xs 1).xs, (gd xs 3).xs, (gd xs 5).xs] → R v' G (osl 66 slT v' ys :: bagS 59 rectT ys :: L)) : CallT Tryz.prog 125 #[v] G L R := by
  refine CallT.enter (args := _) Tryz.func125 rfl rfl (by kernel_rfl) rfl ?_
  refine WP.seq ?_
  refine WP.region ?_
  refine RG.pv rfl (PV.asg rfl rfl) ?_
  refine RG.nil ?_
  refine WP.seq ?_
  refine WP.regionH0 (.q 0 (.q 1 (.q 2 (.q 3 (.q 4 (.q 5 (.q 7 (.q 8 (.q 9 (.q 11 (.q 12 (.q 13 (.q 15 (.q 16 (.q 17 (.l 6 (.l 10 (.l 14 (.l 18 (.l 19 (.q 20 Sch.nil))))))))))))))))))))) (by kernel_rfl) (by kernel_rfl) (by kernel_rfl) rfl ?_
  refine RH.pv rfl (fun _ _ _ _ h => h) (Gh.le_refl _) PickC.pick rfl (PV.move (v := v) rfl rfl) ?_
  refine RH.pv rfl (fun _ _ _ _ h => h) (Gh.le_refl _) PickC.pick rfl (PV.idxS (j := 0) (v := v) rfl Is27 rfl (SlF.r h1) rfl (by omega) (by omega)) ?_
  refine RH.pv rfl (fun _ _ _ _ h => h) (Gh.le_refl _) PickC.pick rfl (PV.loadE1 rfl Sc66 rfl rfl (El.r h1 (getG (by omega))) rfl) ?_
  refine RH.pv rfl (fun _ _ _ _ h => h) (Gh.le_refl _) PickC.pick rfl (PV.move (v := v) rfl rfl) ?_
  refine RH.pv rfl (fun _ _ _ _ h => h) (Gh.le_refl _) PickC.pick rfl (PV.idxS (j := 1) (v := v) rfl Is27 rfl (SlF.r h1) rfl (by omega) (by omega)) ?_
  refine RH.pv rfl (fun _ _ _ _ h => h) (Gh.le_refl _) PickC.pick rfl (PV.loadE1 rfl Sc66 rfl rfl (El.r h1 (getG (by omega))) rfl) ?_
  refine RH.pv rfl (fun _ _ _ _ h => h) (Gh.le_refl _) PickC.pick rfl (PV.move (v := v) rfl rfl) ?_
  refine RH.pv rfl (fun _ _ _ _ h => h) (Gh.le_refl _) PickC.pick rfl (PV.idxS (j := 1) (v := v) rfl Is27 rfl (SlF.r h1) rfl (by omega) (by omega)) ?_
  refine RH.pv rfl (fun _ _ _ _ h => h) (Gh.le_refl _) PickC.pick rfl (PV.loadE1 rfl Sc66 rfl rfl (El.r h1 (getG (by omega))) rfl) ?_
  refine RH.pv rfl (fun _ _ _ _ h => h) (Gh.le_refl _) PickC.pick rfl (PV.move (v := v) rfl rfl) ?_
  refine RH.pv rfl (fun _ _ _ _ h => h) (Gh.le_refl _) PickC.pick rfl (PV.idxS (j := 3) (v := v) rfl Is27 rfl (SlF.r h1) rfl (by omega) (by omega)) ?_
  refine RH.pv rfl (fun _ _ _ _ h => h) (Gh.le_refl _) PickC.pick rfl (PV.loadE1 rfl Sc66 rfl rfl (El.r h1 (getG (by omega))) rfl) ?_
  refine RH.pv rfl (fun _ _ _ _ h => h) (Gh.le_refl _) PickC.pick rfl (PV.move (v := v) rfl rfl) ?_
  refine RH.pv rfl (fun _ _ _ _ h => h) (Gh.le_refl _) PickC.pick rfl (PV.idxS (j := 5) (v := v) rfl Is27 rfl (SlF.r h1) rfl (by omega) (by omega)) ?_
  refine RH.pv rfl (fun _ _ _ _ h => h) (Gh.le_refl _) PickC.pick rfl (PV.loadE1 rfl Sc66 rfl rfl (El.r h1 (getG (by omega))) rfl) ?_
  refine RH.ot rfl rfl (OT.callF (vs := [_, _]) rfl En186 rfl (diff_s (Rs.up (hd 0 (by omega))) (Rs.up (hd 1 (by omega))) (fun v9 => ⟨Gh.le_refl _, PickC.pick, ?_⟩)))
  refine RH.ot rfl rfl (OT.callF (vs := [_]) rfl En187 rfl (clone_rects (Rs.up (hd _ (by omega))) (hbi _ (by omega)) (fun v13 => ⟨Gh.le_refl _, PickC.pick, ?_⟩)))
  refine RH.ot rfl rfl (OT.callF (vs := [_]) rfl En187 rfl (clone_rects (Rs.up (hd _ (by omega))) (hbi _ (by omega)) (fun v17 => ⟨Gh.le_refl _, PickC.pick, ?_⟩)))
  refine RH.ot rfl rfl (OT.callF (vs := [_]) rfl En187 rfl (clone_rects (Rs.up (hd _ (by omega))) (hbi _ (by omega)) (fun v21 => ⟨Gh.le_refl _, PickC.pick, ?_⟩)))
  refine RH.ot rfl rfl (OT.bslice (F := (slT (α := Rect))) (els := [⟨v9, opR (fun p q => p && !q) (gd xs 0).xs (gd xs 1).xs⟩, ⟨v13, (gd xs 1).xs⟩, ⟨v17, (gd xs 3).xs⟩, ⟨v21, (gd xs 5).xs⟩]) rfl El27 rfl (by decide) rfl (by decide) ⟨rfl, (Cl.s (v := v9) SlF.o), ⟨rfl, (Cl.s (v := v13) SlF.o), ⟨rfl, (Cl.s (v := v17) SlF.o), ⟨rfl, (Cl.s (v := v21) SlF.o), trivial⟩⟩⟩⟩ fun v22 => ⟨Gh.le_refl _, PickC.pick, ?_⟩)
  refine RH.pv rfl (fun _ _ _ _ h => h) (Gh.le_refl _) PickC.pick rfl (PV.asg (v := v22) rfl rfl) ?_
  refine RH.nil ?_
  refine WP.ret ?_
  exact ⟨_, _, ResV.one rfl rfl, (Cv.p (C := osl 66 slT v22 [(⟨v9, opR (fun p q => p && !q) (gd xs 0).xs (gd xs 1).xs⟩ : Sl Rect), ⟨v13, (gd xs 1).xs⟩, ⟨v17, (gd xs 3).xs⟩, ⟨v21, (gd xs 5).xs⟩] :: osl 59 rectT v9 (opR (fun p q => p && !q) (gd xs 0).xs (gd xs 1).xs) :: osl 59 rectT v13 (gd xs 1).xs :: osl 59 rectT v17 (gd xs 3).xs :: osl 59 rectT v21 (gd xs 5).xs :: L)).trans (Cv.cons (Cv.toBag (B := [osl 59 rectT v9 (opR (fun p q => p && !q) (gd xs 0).xs (gd xs 1).xs), osl 59 rectT v13 (gd xs 1).xs, osl 59 rectT v17 (gd xs 3).xs, osl 59 rectT v21 (gd xs 5).xs]))), k v22 [⟨v9, opR (fun p q => p && !q) (gd xs 0).xs (gd xs 1).xs⟩, ⟨v13, (gd xs 1).xs⟩, ⟨v17, (gd xs 3).xs⟩, ⟨v21, (gd xs 5).xs⟩] rfl⟩
end Go.Proofs.YthjaopefoiploaaGreat
