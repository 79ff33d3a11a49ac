/-
  Contracts: the draw of two layouts; the law of the changed area.
-/
import Derived.Test.YtilccgeldnlgnaaW35
namespace Go.Proofs.Ytilccgeldnlgnaa
open Go
set_option maxRecDepth 20000
set_option linter.unusedSimpArgs false
variable {G : Gh} {L : List Ch} {R : Value → Gh → List Ch → Prop}
theorem drawn_hd2 {e e' : TypeId} {v0 : Value} {xs ys : List (Sl Rect)} (h : ∀ s ∈ xs, s ∈ ys) : RsE G [osl e' slT v0 ys, bagS e rectT ys] rectT xs := fun _ hi => Rs.memB (h _ (by rw [gd_eq hi]; exact List.getElem_mem _))
theorem one_valid {r : Rect} (h : validRect r = true) : ∀ i, i < [r].length → validRect (gd [r] i) = true := fun i hi => by
  obtain rfl : i = 0 := by simpa using hi
  simpa [gd] using h
def Regs (ys : List (Sl Rect)) : Prop := ∀ s ∈ ys, isReg s.xs = true
theorem Regs.set {ys : List (Sl Rect)} (h : Regs ys) {i : Nat} {v : Value} {xs : List Rect} (hx : isReg xs = true) : Regs (ys.set i ⟨v, xs⟩) := fun s hs => by
  rcases List.mem_or_eq_of_mem_set hs with h1 | rfl
  · exact h s h1
  · exact hx
theorem Regs.gd {ys : List (Sl Rect)} (h : Regs ys) {i : Nat} (hi : i < ys.length) : isReg (gd ys i).xs = true := h _ (by rw [gd_eq hi]; exact List.getElem_mem _)
theorem isReg_nil : isReg [] = true := by
  have h : canon (bits []) = [] := (canon_empty (bits_length _)).2 fun y x hy hx => by rw [gb_bits' _ hy hx]; rfl
  have := isReg_canon (bits_length [])
  rwa [h] at this
theorem Cv.nils {e : TypeId} {F : FT Rect} {L : List Ch} : ∀ n : Nat, Cv L (bagS e F (List.replicate n (default : Sl Rect)) :: L)
  | 0 => Cv.bag0 rfl
  | n + 1 => by
    rw [List.replicate_succ']
    exact (Cv.nils n).trans (Cv.nilS.trans Cv.bagS_add)
theorem drawLayers_s {b : Nat} {cv : Value} {bs : List UInt8} (hcode : SL G byteT cv bs) (k : ∀ v ys, ys.length = 8 → Regs ys → R v G (osl 24 slT v ys :: bagS 81 rectT ys :: src b cv :: L)) : CallT Try.prog 149 #[.pointer (some ⟨b, 0, none⟩)] G (src b cv :: L) R := by
  refine CallT.enter (args := _) Try.func149 rfl rfl (by kernel_rfl) rfl ?_
  refine WP.seq ?_
  refine WP.region ?_
  refine RG.pv rfl (PV.asg rfl rfl) ?_
  refine RG.nil ?_
  refine WP.seq ?_
  refine WP.region ?_
  refine RG.ot rfl (OT.make (m := 8) (F := (slT (α := Rect))) (a0 := default) rfl El27 rfl (by decide) rfl rfl (by omega) (by omega) fun v5 => ?_)
  refine RG.pv rfl (PV.asg (v := v5) rfl rfl) ?_
  refine RG.nil ?_
  refine WP.seq ?_
  refine WP.seq ?_
  refine WP.region ?_
  refine RG.pv rfl (PV.move rfl rfl) ?_
  refine RG.callF (vs := [_, _]) rfl rfl En131 rfl (CallT.exC (src b cv) (next_s hcode (by omega) (fun w7 hw7 => ?_)))
  refine RG.pv rfl (PV.add rfl rfl rfl (by omega)) ?_
  refine RG.pv rfl (PV.mvI (.inr rfl) rfl) ?_
  refine RG.nil ?_
  refine WP.block ?_
  -- STOP: loop
  refine WP.cv ((Cv.p (C := osl 24 slT v5 (List.replicate 8 (default : Sl Rect)) :: src b cv :: L)).trans (Cv.cons (Cv.nils (e := 81) (F := rectT) 8))) ?_
  refine WP.loop2 [0, 3] (fun (j : Int) (ys : List (Sl Rect)) => j ≤ 10 ∧ ys.length = 8 ∧ Regs ys) (fun (j : Int) (ys : List (Sl Rect)) => [(4, vi j)]) (fun (j : Int) (ys : List (Sl Rect)) => osl 24 slT v5 ys :: bagS 81 rectT ys :: src b cv :: L) (fun (j : Int) (ys : List (Sl Rect)) => j.toNat) (w7 + 1) (List.replicate 8 (default : Sl Rect)) ⟨by omega, rfl, fun s hs => by rw [List.eq_of_mem_replicate hs]; exact isReg_nil⟩ ⟨rfl, trivial⟩ Cv.p ?_
  rintro j ys τ ⟨hj, hyl, hyr⟩
  refine WP.seq ?_
  refine WP.seq ?_
  refine WP.region ?_
  refine RG.pv rfl (PV.mvI (.inl rfl) rfl) ?_
  refine RG.pv rfl (PV.gtr rfl rfl rfl) ?_
  refine RG.nil ?_
  -- STOP: cond
  refine WP.cond rfl (fun h2 => ?_) (fun h2 => ?_)
  · have h2 := of_decide_eq_true h2
    refine WP.skip ?_
    refine WP.seq ?_
    refine WP.block ?_
    refine WP.region ?_
    refine RG.pv rfl (PV.move (v := v5) rfl rfl) ?_
    refine RG.pv rfl (PV.move rfl rfl) ?_
    refine RG.callF (vs := [_, _]) rfl rfl En131 rfl (CallT.exC (src b cv) (next_s hcode (by omega) (fun w15 hw15 => ?_)))
    refine RG.pv rfl (PV.move rfl rfl) ?_
    refine RG.callF (vs := [_]) rfl rfl En81 rfl (CallT.exC (src b cv) (drawRegion_s hcode (fun v17 xsv17 hregv17 => ?_)))
    refine RG.pv rfl (PV.idxS (j := w15.toNat) (v := v5) rfl Is27 rfl SlF.o rfl (by omega) (by omega)) ?_
    refine RG.ot rfl (OT.storeE (v := v17) (a := ⟨v17, xsv17⟩) (F := (slT (α := Rect))) rfl Sz24 rfl rfl rfl (Cl.s (v := v17) SlF.o) (OneC.sl SlF.o OneC.nil) (by omega) ?_)
    refine RG.nil ?_
    refine WP.region ?_
    refine RG.pv rfl (PV.mvI (.inl rfl) rfl) ?_
    refine RG.pv rfl (PV.sub rfl rfl rfl (by omega)) ?_
    refine RG.pv rfl (PV.mvI (.inr rfl) rfl) ?_
    refine RG.nil ?_
  -- STOP: loopend
    exact ⟨rfl, j - 1, (ys.set w15.toNat ⟨v17, xsv17⟩), ⟨by omega, by simpa using hyl, hyr.set hregv17⟩, ⟨rfl, trivial⟩, ⟨rfl, rfl, trivial⟩, ((Cv.p (C := osl 81 rectT v17 xsv17 :: bagS 81 rectT ys :: osl 24 slT v5 (ys.set w15.toNat ⟨v17, xsv17⟩) :: src b cv :: L)).trans ((Cv.bagSet w15.toNat (by omega)).trans Cv.p)), by omega⟩
  · refine WP.exit ?_
    refine WP.seq ?_
    refine WP.region ?_
    refine RG.pv rfl (PV.move (v := v5) rfl rfl) ?_
    refine RG.pv rfl (PV.asg (v := v5) rfl rfl) ?_
    refine RG.nil ?_
    refine WP.ret ?_
  -- STOP: ret
    exact ⟨_, _, ResV.one rfl rfl, Cv.p, k v5 ys hyl hyr⟩
theorem l04Op_s {v u : Value} {xs ys : List Rect} {op : Int} (h1 : Rs G L rectT v xs) (h2 : Rs G L rectT u ys) (hx : ∀ i, i < xs.length → validRect (gd xs i) = true) (hy : ∀ i, i < ys.length → validRect (gd ys i) = true) (hop : 0 ≤ op ∧ op ≤ 15) (k : ∀ v' zs, isReg zs = true → R v' G (osl 81 rectT v' zs :: L)) : CallT Try.prog 150 #[v, u, vi op] G L R := by
  refine CallT.enter (args := _) Try.func150 rfl rfl (by kernel_rfl) rfl ?_
  refine WP.seq ?_
  refine WP.region ?_
  refine RG.pv rfl (PV.asg rfl rfl) ?_
  refine RG.nil ?_
  refine WP.seq ?_
  refine WP.region ?_
  refine RG.pv rfl (PV.move (v := v) rfl rfl) ?_
  refine RG.callF (vs := [v]) rfl rfl En70 rfl (l03Bits_s (Rs.up h1) hx (fun v8 => ?_))
  refine RG.pv rfl (PV.move (v := u) rfl rfl) ?_
  refine RG.callF (vs := [u]) rfl rfl En70 rfl (l03Bits_s (Rs.up h2) hy (fun v10 => ?_))
  refine RG.pv rfl (PV.mvI (.inl rfl) rfl) ?_
  refine RG.callF (vs := [v8, v10, _]) rfl rfl En71 rfl (l04Combine_s Rs.o Rs.o (bits_length _) (bits_length _) hop (fun v12 => ?_))
  refine RG.callF (vs := [v12]) rfl rfl En73 rfl (l03Canon_s Rs.o (zipB_len (bits_length _) (bits_length _)) (fun v13 => ?_))
  refine RG.pv rfl (PV.asg (v := v13) rfl rfl) ?_
  refine RG.nil ?_
  refine WP.ret ?_
  -- STOP: ret
  exact ⟨_, _, ResV.one rfl rfl, Cv.p, k v13 (canon (zipB (opF op) (bits xs) (bits ys))) (isReg_canon (zipB_len (bits_length _) (bits_length _)))⟩
theorem drawEdit_s {b : Nat} {cv : Value} {bs : List UInt8} (hcode : SL G byteT cv bs) (k : ∀ v w ys zs, ys.length = 8 → zs.length = 8 → Regs ys → Regs zs → R (.tuple #[v, w]) G (osl 24 slT w zs :: bagS 81 rectT zs :: osl 24 slT v ys :: bagS 81 rectT ys :: src b cv :: L)) : CallT Try.prog 88 #[.pointer (some ⟨b, 0, none⟩)] G (src b cv :: L) R := by
  refine CallT.enter (args := _) Try.func88 rfl rfl (by kernel_rfl) rfl ?_
  refine WP.seq ?_
  refine WP.region ?_
  refine RG.pv rfl (PV.asg rfl rfl) ?_
  refine RG.pv rfl (PV.asg rfl rfl) ?_
  refine RG.nil ?_
  refine WP.seq ?_
  refine WP.region ?_
  refine RG.pv rfl (PV.move rfl rfl) ?_
  refine RG.callF (vs := [_]) rfl rfl En149 rfl (CallT.exC (src b cv) (drawLayers_s hcode (fun v11 ys hyl hyr => ?_)))
  refine RG.pv rfl (PV.asg (v := v11) rfl rfl) ?_
  refine RG.nil ?_
  refine WP.seq ?_
  refine WP.region ?_
  refine RG.ot rfl (OT.make (m := 8) (F := (slT (α := Rect))) (a0 := default) rfl El27 rfl (by decide) rfl rfl (by omega) (by omega) fun v12 => ?_)
  refine RG.pv rfl (PV.asg (v := v12) rfl rfl) ?_
  refine RG.nil ?_
  refine WP.seq ?_
  refine WP.seq ?_
  refine WP.region ?_
  refine RG.pv rfl (PV.mvI (.inr rfl) rfl) ?_
  refine RG.nil ?_
  refine WP.block ?_
  -- STOP: loop
  have hdy : RsE G [bagS 81 rectT ys] rectT ys := RsE.o
  refine WP.cv ((Cv.p (C := osl 24 slT v12 (List.replicate 8 (default : Sl Rect)) :: osl 24 slT v11 ys :: bagS 81 rectT ys :: src b cv :: L)).trans (Cv.cons (Cv.nils (e := 81) (F := rectT) 8))) ?_
  refine WP.loop2 [0, 4, 5] (fun (i : Nat) (zs : List (Sl Rect)) => i ≤ 8 ∧ zs.length = 8 ∧ Regs zs) (fun (i : Nat) (zs : List (Sl Rect)) => [(6, vi i)]) (fun (i : Nat) (zs : List (Sl Rect)) => osl 24 slT v12 zs :: bagS 81 rectT zs :: osl 24 slT v11 ys :: bagS 81 rectT ys :: src b cv :: L) (fun (i : Nat) (zs : List (Sl Rect)) => 8 - i) 0 (List.replicate 8 (default : Sl Rect)) ⟨by omega, rfl, fun s hs => by rw [List.eq_of_mem_replicate hs]; exact isReg_nil⟩ ⟨rfl, trivial⟩ Cv.p ?_
  rintro i zs τ ⟨hi, hzl, hzr⟩
  refine WP.seq ?_
  refine WP.seq ?_
  refine WP.region ?_
  refine RG.pv rfl (PV.mvI (.inl rfl) rfl) ?_
  refine RG.pv rfl (PV.lss rfl rfl rfl) ?_
  refine RG.nil ?_
  -- STOP: cond
  refine WP.cond rfl (fun h2 => ?_) (fun h2 => ?_)
  · have h2 := of_decide_eq_true h2
    have hri : isReg ([] ++ (gd ys i).xs) = true := hyr.gd (by omega)
    have hrl := isReg_len hri
    have hrl2 : (gd ys i).xs.length ≤ 3200 := hrl
    refine WP.skip ?_
    refine WP.seq ?_
    refine WP.block ?_
    refine WP.region ?_
    refine RG.pv rfl (PV.move (v := v12) rfl rfl) ?_
    refine RG.pv rfl (PV.mvI (.inl rfl) rfl) ?_
    refine RG.ot rfl (OT.bslice (F := rectT) (els := []) rfl El24 rfl (by decide) rfl (by decide) trivial fun v19 => ?_)
    refine RG.pv rfl (PV.move (v := v11) rfl rfl) ?_
    refine RG.pv rfl (PV.mvI (.inl rfl) rfl) ?_
    refine RG.pv rfl (PV.idxS (j := i) (v := v11) rfl Is27 rfl SlF.o rfl (by omega) (by omega)) ?_
    refine RG.pv rfl (PV.loadE1 rfl Sc24 rfl rfl (El.o (getG (by omega))) rfl) ?_
    refine RG.ot rfl (OT.append (v := v19) (F := rectT) rfl El24 rfl (by decide) rfl rfl (Rs.up (hdy i (by omega))) (OneL.c (fun _ => rfl)) rfl (by first | omega | (simp <;> omega)) fun v24 => ?_)
    refine RG.pv rfl (PV.idxS (j := i) (v := v12) rfl Is27 rfl SlF.o rfl (by omega) (by omega)) ?_
    refine RG.ot rfl (OT.storeE (v := v24) (a := ⟨v24, [] ++ (gd ys i).xs⟩) (F := (slT (α := Rect))) rfl Sz24 rfl rfl rfl (Cl.s (v := v24) SlF.o) (OneC.sl SlF.o OneC.nil) (by omega) ?_)
    refine RG.nil ?_
    refine WP.region ?_
    refine RG.pv rfl (PV.mvI (.inl rfl) rfl) ?_
    refine RG.pv rfl (PV.add rfl rfl rfl (by omega)) ?_
    refine RG.pv rfl (PV.mvI (.inr rfl) rfl) ?_
    refine RG.nil ?_
  -- STOP: loopend
    exact ⟨rfl, i + 1, (zs.set i ⟨v24, [] ++ (gd ys i).xs⟩), ⟨by omega, by simpa using hzl, hzr.set hri⟩, ⟨rfl, trivial⟩, ⟨rfl, rfl, rfl, trivial⟩, ((Cv.p (C := osl 81 rectT v24 ([] ++ (gd ys i).xs) :: bagS 81 rectT zs :: osl 24 slT v12 (zs.set i ⟨v24, [] ++ (gd ys i).xs⟩) :: osl 24 slT v11 ys :: bagS 81 rectT ys :: src b cv :: L)).trans ((Cv.bagSet i (by omega)).trans Cv.p)), by omega⟩
  · refine WP.exit ?_
    refine WP.seq ?_
    refine WP.seq ?_
    refine WP.region ?_
    refine RG.pv rfl (PV.move rfl rfl) ?_
    refine RG.callF (vs := [_, _]) rfl rfl En131 rfl (CallT.exC (src b cv) (next_s hcode (by omega) (fun w27 hw27 => ?_)))
    refine RG.pv rfl (PV.mvI (.inr rfl) rfl) ?_
    refine RG.nil ?_
    refine WP.block ?_
  -- STOP: loop
    refine WP.loop2 [0, 4, 5] (fun (j : Int) (us : List (Sl Rect)) => j ≤ 10 ∧ us.length = 8 ∧ Regs us) (fun (j : Int) (us : List (Sl Rect)) => [(7, vi j)]) (fun (j : Int) (us : List (Sl Rect)) => osl 24 slT v12 us :: bagS 81 rectT us :: osl 24 slT v11 ys :: bagS 81 rectT ys :: src b cv :: L) (fun (j : Int) (us : List (Sl Rect)) => j.toNat) w27 zs ⟨by omega, hzl, hzr⟩ ⟨rfl, trivial⟩ Cv.p ?_
    rintro j us τ1 ⟨hj, hul, hur⟩
    refine WP.seq ?_
    refine WP.seq ?_
    refine WP.region ?_
    refine RG.pv rfl (PV.mvI (.inl rfl) rfl) ?_
    refine RG.pv rfl (PV.gtr rfl rfl rfl) ?_
    refine RG.nil ?_
  -- STOP: cond
    refine WP.cond rfl (fun h3 => ?_) (fun h3 => ?_)
    · have h3 := of_decide_eq_true h3
      have hnn : ∀ w : Nat, w < 3 → 0 ≤ gd ([14, 4, 6] : List Int) w ∧ gd ([14, 4, 6] : List Int) w ≤ 15 := fun w hw => by
        have : w = 0 ∨ w = 1 ∨ w = 2 := by omega
        rcases this with h | h | h <;> (rw [h]; simp [gd])
      have hval : ∀ w, w < 8 → ∀ i, i < (gd us w).xs.length → validRect (gd (gd us w).xs i) = true := fun w hw i hi => valid_get (isReg_valid (hur.gd (by omega))) hi
      have hl3 : ([14, 4, 6] : List Int).length = 3 := rfl
      refine WP.skip ?_
      refine WP.seq ?_
      refine WP.block ?_
      refine WP.seq ?_
      refine WP.region ?_
      refine RG.pv rfl (PV.move rfl rfl) ?_
      refine RG.callF (vs := [_, _]) rfl rfl En131 rfl (CallT.exC (src b cv) (next_s hcode (by omega) (fun w33 hw33 => ?_)))
      refine RG.pv rfl (PV.mvI (.inr rfl) rfl) ?_
      refine RG.nil ?_
      refine WP.seq ?_
      refine WP.region ?_
      refine RG.ot rfl (OT.bslice (F := intT) (els := [_, _, _]) rfl El116 rfl (by decide) rfl (by decide) ⟨rfl, (Cl.c rfl), ⟨rfl, (Cl.c rfl), ⟨rfl, (Cl.c rfl), trivial⟩⟩⟩ fun v34 => ?_)
      refine RG.pv rfl (PV.move rfl rfl) ?_
      refine RG.callF (vs := [_, _]) rfl rfl En131 rfl (CallT.exC (src b cv) (next_s hcode (by omega) (fun w36 hw36 => ?_)))
      refine RG.pv rfl (PV.idxS (j := w36.toNat) (v := v34) rfl Is116 rfl SlF.o rfl (by omega) (by omega)) ?_
      refine RG.pv rfl (PV.loadE1 rfl Sc2 rfl rfl (El.o (getG (by omega))) rfl) ?_
      refine RG.pv rfl (PV.mvI (.inr rfl) rfl) ?_
      refine RG.nil ?_
      refine WP.regionHD [.s v12] (.q 0 (.q 1 (.q 2 (.q 3 (.q 6 (.q 9 (.b 4 (.b 5 (.l 7 (.l 8 (.l 10 (.l 11 (.l 12 Sch.nil))))) 7 (.b 5 (.l 8 (.l 10 (.l 11 (.l 12 Sch.nil)))) 8 (.l 5 (.l 10 (.l 11 (.l 12 Sch.nil)))))) 7 (.b 4 (.b 5 (.l 8 (.l 10 (.l 11 (.l 12 Sch.nil)))) 8 (.l 5 (.l 10 (.l 11 (.l 12 Sch.nil))))) 8 (.l 4 (.l 5 (.l 10 (.l 11 (.l 12 Sch.nil))))))))))))) (by kernel_rfl) (by kernel_rfl) (by kernel_rfl) rfl ?_
      refine RH.pv rfl (fun _ _ _ _ h => h) (Gh.le_refl _) PickC.pick rfl (PV.move (v := v12) rfl rfl) ?_
      refine RH.pv rfl (fun _ _ _ _ h => h) (Gh.le_refl _) PickC.pick rfl (PV.mvI (.inl rfl) rfl) ?_
      refine RH.pv rfl (fun _ _ _ _ h => h) (Gh.le_refl _) PickC.pick rfl (PV.move (v := v12) rfl rfl) ?_
      refine RH.pv rfl (fun _ _ _ _ h => h) (Gh.le_refl _) PickC.pick rfl (PV.mvI (.inl rfl) rfl) ?_
      refine RH.pv rfl (fun _ _ _ _ h => h) (Gh.le_refl _) PickC.pick rfl (PV.move rfl rfl) ?_
      refine RH.pv rfl (fun _ _ _ _ h => h) (Gh.le_refl _) PickC.pick rfl (PV.mvI (.inl rfl) rfl) ?_
  -- STOP: fork
      · refine RH.ot2 rfl rfl rfl rfl  (OT.pv (PV.idxS (j := w33.toNat) (v := v12) rfl Is27 rfl SlF.o rfl (by omega) (by omega)) ⟨Gh.le_refl _, PickC.pick, ?_⟩) (OT.callF (vs := [_]) rfl En133 rfl (CallT.exC (src b cv) (drawRect_s hcode (fun w46 hw46 => ⟨Gh.le_refl _, PickC.pick, ?_⟩))))
        · refine RH.ot2 rfl rfl rfl rfl  (OT.pv (PV.loadE1 rfl Sc24 rfl rfl (El.o (getG (by omega))) rfl) ⟨Gh.le_refl _, PickC.pick, ?_⟩) (OT.callF (vs := [_]) rfl En133 rfl (CallT.exC (src b cv) (drawRect_s hcode (fun w46 hw46 => ⟨Gh.le_refl _, PickC.pick, ?_⟩))))
          · refine RH.ot rfl rfl (OT.callF (vs := [_]) rfl En133 rfl (CallT.exC (src b cv) (drawRect_s hcode (fun w46 hw46 => ⟨Gh.le_refl _, PickC.pick, ?_⟩))))
            refine RH.ot rfl rfl (OT.bslice (F := rectT) (els := [_]) rfl El24 rfl (by decide) rfl (by decide) ⟨rfl, (Cl.c rfl), trivial⟩ fun v47 => ⟨Gh.le_refl _, PickC.pick, ?_⟩)
            refine RH.ot rfl rfl (OT.callF (vs := [_, v47, _]) rfl En150 rfl (l04Op_s (RsE.o (xs := us) w33.toNat (by omega)) Rs.o (hval _ (by omega)) (one_valid hw46) (hnn _ (by omega)) (fun v49 xsv49 hregv49 => ⟨Gh.le_refl _, PickC.pick, ?_⟩)))
            refine RH.ot rfl rfl (OT.pv (PV.idxS (j := w33.toNat) (v := v12) rfl Is27 rfl SlF.o rfl (by omega) (by omega)) ⟨Gh.le_refl _, PickC.pick, ?_⟩)
            refine RH.ot rfl rfl (OT.storeE (v := v49) (a := ⟨v49, xsv49⟩) (F := (slT (α := Rect))) rfl Sz24 rfl rfl rfl (Cl.s (v := v49) SlF.o) (OneC.sl SlF.o OneC.nil) (by omega) ⟨Gh.le_refl _, PickC.pick, ?_⟩)
            refine RH.nil ?_
            refine WP.region ?_
            refine RG.pv rfl (PV.mvI (.inl rfl) rfl) ?_
            refine RG.pv rfl (PV.sub rfl rfl rfl (by omega)) ?_
            refine RG.pv rfl (PV.mvI (.inr rfl) rfl) ?_
            refine RG.nil ?_
            exact ⟨rfl, j - 1, (us.set w33.toNat ⟨v49, xsv49⟩), ⟨by omega, by simpa using hul, hur.set hregv49⟩, ⟨rfl, trivial⟩, ⟨rfl, rfl, rfl, trivial⟩, ((Cv.p (C := osl 81 rectT v49 xsv49 :: bagS 81 rectT us :: osl 24 slT v12 (us.set w33.toNat ⟨v49, xsv49⟩) :: osl 24 slT v11 ys :: bagS 81 rectT ys :: src b cv :: L)).trans ((Cv.bagSet w33.toNat (by omega)).trans Cv.p)), by omega⟩
          · refine RH.ot2 rfl rfl rfl rfl  (OT.pv (PV.loadE1 rfl Sc24 rfl rfl (El.o (getG (by omega))) rfl) ⟨Gh.le_refl _, PickC.pick, ?_⟩) (OT.bslice (F := rectT) (els := [_]) rfl El24 rfl (by decide) rfl (by decide) ⟨rfl, (Cl.c rfl), trivial⟩ fun v47 => ⟨Gh.le_refl _, PickC.pick, ?_⟩)
            · refine RH.ot rfl rfl (OT.bslice (F := rectT) (els := [_]) rfl El24 rfl (by decide) rfl (by decide) ⟨rfl, (Cl.c rfl), trivial⟩ fun v47 => ⟨Gh.le_refl _, PickC.pick, ?_⟩)
              refine RH.ot rfl rfl (OT.callF (vs := [_, v47, _]) rfl En150 rfl (l04Op_s (RsE.o (xs := us) w33.toNat (by omega)) Rs.o (hval _ (by omega)) (one_valid hw46) (hnn _ (by omega)) (fun v49 xsv49 hregv49 => ⟨Gh.le_refl _, PickC.pick, ?_⟩)))
              refine RH.ot rfl rfl (OT.pv (PV.idxS (j := w33.toNat) (v := v12) rfl Is27 rfl SlF.o rfl (by omega) (by omega)) ⟨Gh.le_refl _, PickC.pick, ?_⟩)
              refine RH.ot rfl rfl (OT.storeE (v := v49) (a := ⟨v49, xsv49⟩) (F := (slT (α := Rect))) rfl Sz24 rfl rfl rfl (Cl.s (v := v49) SlF.o) (OneC.sl SlF.o OneC.nil) (by omega) ⟨Gh.le_refl _, PickC.pick, ?_⟩)
              refine RH.nil ?_
              refine WP.region ?_
              refine RG.pv rfl (PV.mvI (.inl rfl) rfl) ?_
              refine RG.pv rfl (PV.sub rfl rfl rfl (by omega)) ?_
              refine RG.pv rfl (PV.mvI (.inr rfl) rfl) ?_
              refine RG.nil ?_
              exact ⟨rfl, j - 1, (us.set w33.toNat ⟨v49, xsv49⟩), ⟨by omega, by simpa using hul, hur.set hregv49⟩, ⟨rfl, trivial⟩, ⟨rfl, rfl, rfl, trivial⟩, ((Cv.p (C := osl 81 rectT v49 xsv49 :: bagS 81 rectT us :: osl 24 slT v12 (us.set w33.toNat ⟨v49, xsv49⟩) :: osl 24 slT v11 ys :: bagS 81 rectT ys :: src b cv :: L)).trans ((Cv.bagSet w33.toNat (by omega)).trans Cv.p)), by omega⟩
            · refine RH.ot rfl rfl (OT.pv (PV.loadE1 rfl Sc24 rfl rfl (El.o (getG (by omega))) rfl) ⟨Gh.le_refl _, PickC.pick, ?_⟩)
              refine RH.ot rfl rfl (OT.callF (vs := [_, v47, _]) rfl En150 rfl (l04Op_s (RsE.o (xs := us) w33.toNat (by omega)) Rs.o (hval _ (by omega)) (one_valid hw46) (hnn _ (by omega)) (fun v49 xsv49 hregv49 => ⟨Gh.le_refl _, PickC.pick, ?_⟩)))
              refine RH.ot rfl rfl (OT.pv (PV.idxS (j := w33.toNat) (v := v12) rfl Is27 rfl SlF.o rfl (by omega) (by omega)) ⟨Gh.le_refl _, PickC.pick, ?_⟩)
              refine RH.ot rfl rfl (OT.storeE (v := v49) (a := ⟨v49, xsv49⟩) (F := (slT (α := Rect))) rfl Sz24 rfl rfl rfl (Cl.s (v := v49) SlF.o) (OneC.sl SlF.o OneC.nil) (by omega) ⟨Gh.le_refl _, PickC.pick, ?_⟩)
              refine RH.nil ?_
              refine WP.region ?_
              refine RG.pv rfl (PV.mvI (.inl rfl) rfl) ?_
              refine RG.pv rfl (PV.sub rfl rfl rfl (by omega)) ?_
              refine RG.pv rfl (PV.mvI (.inr rfl) rfl) ?_
              refine RG.nil ?_
              exact ⟨rfl, j - 1, (us.set w33.toNat ⟨v49, xsv49⟩), ⟨by omega, by simpa using hul, hur.set hregv49⟩, ⟨rfl, trivial⟩, ⟨rfl, rfl, rfl, trivial⟩, ((Cv.p (C := osl 81 rectT v49 xsv49 :: bagS 81 rectT us :: osl 24 slT v12 (us.set w33.toNat ⟨v49, xsv49⟩) :: osl 24 slT v11 ys :: bagS 81 rectT ys :: src b cv :: L)).trans ((Cv.bagSet w33.toNat (by omega)).trans Cv.p)), by omega⟩
        · refine RH.ot2 rfl rfl rfl rfl  (OT.pv (PV.idxS (j := w33.toNat) (v := v12) rfl Is27 rfl SlF.o rfl (by omega) (by omega)) ⟨Gh.le_refl _, PickC.pick, ?_⟩) (OT.bslice (F := rectT) (els := [_]) rfl El24 rfl (by decide) rfl (by decide) ⟨rfl, (Cl.c rfl), trivial⟩ fun v47 => ⟨Gh.le_refl _, PickC.pick, ?_⟩)
          · refine RH.ot2 rfl rfl rfl rfl  (OT.pv (PV.loadE1 rfl Sc24 rfl rfl (El.o (getG (by omega))) rfl) ⟨Gh.le_refl _, PickC.pick, ?_⟩) (OT.bslice (F := rectT) (els := [_]) rfl El24 rfl (by decide) rfl (by decide) ⟨rfl, (Cl.c rfl), trivial⟩ fun v47 => ⟨Gh.le_refl _, PickC.pick, ?_⟩)
            · refine RH.ot rfl rfl (OT.bslice (F := rectT) (els := [_]) rfl El24 rfl (by decide) rfl (by decide) ⟨rfl, (Cl.c rfl), trivial⟩ fun v47 => ⟨Gh.le_refl _, PickC.pick, ?_⟩)
              refine RH.ot rfl rfl (OT.callF (vs := [_, v47, _]) rfl En150 rfl (l04Op_s (RsE.o (xs := us) w33.toNat (by omega)) Rs.o (hval _ (by omega)) (one_valid hw46) (hnn _ (by omega)) (fun v49 xsv49 hregv49 => ⟨Gh.le_refl _, PickC.pick, ?_⟩)))
              refine RH.ot rfl rfl (OT.pv (PV.idxS (j := w33.toNat) (v := v12) rfl Is27 rfl SlF.o rfl (by omega) (by omega)) ⟨Gh.le_refl _, PickC.pick, ?_⟩)
              refine RH.ot rfl rfl (OT.storeE (v := v49) (a := ⟨v49, xsv49⟩) (F := (slT (α := Rect))) rfl Sz24 rfl rfl rfl (Cl.s (v := v49) SlF.o) (OneC.sl SlF.o OneC.nil) (by omega) ⟨Gh.le_refl _, PickC.pick, ?_⟩)
              refine RH.nil ?_
              refine WP.region ?_
              refine RG.pv rfl (PV.mvI (.inl rfl) rfl) ?_
              refine RG.pv rfl (PV.sub rfl rfl rfl (by omega)) ?_
              refine RG.pv rfl (PV.mvI (.inr rfl) rfl) ?_
              refine RG.nil ?_
              exact ⟨rfl, j - 1, (us.set w33.toNat ⟨v49, xsv49⟩), ⟨by omega, by simpa using hul, hur.set hregv49⟩, ⟨rfl, trivial⟩, ⟨rfl, rfl, rfl, trivial⟩, ((Cv.p (C := osl 81 rectT v49 xsv49 :: bagS 81 rectT us :: osl 24 slT v12 (us.set w33.toNat ⟨v49, xsv49⟩) :: osl 24 slT v11 ys :: bagS 81 rectT ys :: src b cv :: L)).trans ((Cv.bagSet w33.toNat (by omega)).trans Cv.p)), by omega⟩
            · refine RH.ot rfl rfl (OT.pv (PV.loadE1 rfl Sc24 rfl rfl (El.o (getG (by omega))) rfl) ⟨Gh.le_refl _, PickC.pick, ?_⟩)
              refine RH.ot rfl rfl (OT.callF (vs := [_, v47, _]) rfl En150 rfl (l04Op_s (RsE.o (xs := us) w33.toNat (by omega)) Rs.o (hval _ (by omega)) (one_valid hw46) (hnn _ (by omega)) (fun v49 xsv49 hregv49 => ⟨Gh.le_refl _, PickC.pick, ?_⟩)))
              refine RH.ot rfl rfl (OT.pv (PV.idxS (j := w33.toNat) (v := v12) rfl Is27 rfl SlF.o rfl (by omega) (by omega)) ⟨Gh.le_refl _, PickC.pick, ?_⟩)
              refine RH.ot rfl rfl (OT.storeE (v := v49) (a := ⟨v49, xsv49⟩) (F := (slT (α := Rect))) rfl Sz24 rfl rfl rfl (Cl.s (v := v49) SlF.o) (OneC.sl SlF.o OneC.nil) (by omega) ⟨Gh.le_refl _, PickC.pick, ?_⟩)
              refine RH.nil ?_
              refine WP.region ?_
              refine RG.pv rfl (PV.mvI (.inl rfl) rfl) ?_
              refine RG.pv rfl (PV.sub rfl rfl rfl (by omega)) ?_
              refine RG.pv rfl (PV.mvI (.inr rfl) rfl) ?_
              refine RG.nil ?_
              exact ⟨rfl, j - 1, (us.set w33.toNat ⟨v49, xsv49⟩), ⟨by omega, by simpa using hul, hur.set hregv49⟩, ⟨rfl, trivial⟩, ⟨rfl, rfl, rfl, trivial⟩, ((Cv.p (C := osl 81 rectT v49 xsv49 :: bagS 81 rectT us :: osl 24 slT v12 (us.set w33.toNat ⟨v49, xsv49⟩) :: osl 24 slT v11 ys :: bagS 81 rectT ys :: src b cv :: L)).trans ((Cv.bagSet w33.toNat (by omega)).trans Cv.p)), by omega⟩
          · refine RH.ot rfl rfl (OT.pv (PV.idxS (j := w33.toNat) (v := v12) rfl Is27 rfl SlF.o rfl (by omega) (by omega)) ⟨Gh.le_refl _, PickC.pick, ?_⟩)
            refine RH.ot rfl rfl (OT.pv (PV.loadE1 rfl Sc24 rfl rfl (El.o (getG (by omega))) rfl) ⟨Gh.le_refl _, PickC.pick, ?_⟩)
            refine RH.ot rfl rfl (OT.callF (vs := [_, v47, _]) rfl En150 rfl (l04Op_s (RsE.o (xs := us) w33.toNat (by omega)) Rs.o (hval _ (by omega)) (one_valid hw46) (hnn _ (by omega)) (fun v49 xsv49 hregv49 => ⟨Gh.le_refl _, PickC.pick, ?_⟩)))
            refine RH.ot rfl rfl (OT.pv (PV.idxS (j := w33.toNat) (v := v12) rfl Is27 rfl SlF.o rfl (by omega) (by omega)) ⟨Gh.le_refl _, PickC.pick, ?_⟩)
            refine RH.ot rfl rfl (OT.storeE (v := v49) (a := ⟨v49, xsv49⟩) (F := (slT (α := Rect))) rfl Sz24 rfl rfl rfl (Cl.s (v := v49) SlF.o) (OneC.sl SlF.o OneC.nil) (by omega) ⟨Gh.le_refl _, PickC.pick, ?_⟩)
            refine RH.nil ?_
            refine WP.region ?_
            refine RG.pv rfl (PV.mvI (.inl rfl) rfl) ?_
            refine RG.pv rfl (PV.sub rfl rfl rfl (by omega)) ?_
            refine RG.pv rfl (PV.mvI (.inr rfl) rfl) ?_
            refine RG.nil ?_
            exact ⟨rfl, j - 1, (us.set w33.toNat ⟨v49, xsv49⟩), ⟨by omega, by simpa using hul, hur.set hregv49⟩, ⟨rfl, trivial⟩, ⟨rfl, rfl, rfl, trivial⟩, ((Cv.p (C := osl 81 rectT v49 xsv49 :: bagS 81 rectT us :: osl 24 slT v12 (us.set w33.toNat ⟨v49, xsv49⟩) :: osl 24 slT v11 ys :: bagS 81 rectT ys :: src b cv :: L)).trans ((Cv.bagSet w33.toNat (by omega)).trans Cv.p)), by omega⟩
    · refine WP.exit ?_
      refine WP.seq ?_
      refine WP.region ?_
      refine RG.pv rfl (PV.move (v := v11) rfl rfl) ?_
      refine RG.pv rfl (PV.move (v := v12) rfl rfl) ?_
      refine RG.pv rfl (PV.asg (v := v11) rfl rfl) ?_
      refine RG.pv rfl (PV.asg (v := v12) rfl rfl) ?_
      refine RG.nil ?_
      refine WP.ret ?_
  -- STOP: ret
      exact ⟨_, _, ResV.two rfl rfl rfl, Cv.p, k v11 v12 ys us hyl hul hyr hur⟩
theorem spoilLayers_s {b : Nat} {n : Int} {cv v : Value} {ys : List (Sl Rect)} {bs : List UInt8} (hcode : SL G byteT cv bs) (hn : n ≤ 1000) (hyl : ys.length = 8) (hyr : Regs ys) (k : ∀ v' xs ys', Rs G [osl 24 slT v ys', bagS 81 rectT ys'] slT v' xs → (∀ s ∈ xs, s ∈ ys') → xs.length ≤ 8 → R v' G (osl 24 slT v ys' :: bagS 81 rectT ys' :: src b cv :: L)) : CallT Try.prog 89 #[.pointer (some ⟨b, 0, none⟩), v, vi n] G (osl 24 slT v ys :: bagS 81 rectT ys :: src b cv :: L) R := by
  refine CallT.enter (args := _) Try.func89 rfl rfl (by kernel_rfl) rfl ?_
  refine WP.seq ?_
  refine WP.region ?_
  refine RG.pv rfl (PV.asg rfl rfl) ?_
  refine RG.nil ?_
  refine WP.seq ?_
  refine WP.seq ?_
  refine WP.region ?_
  refine RG.pv rfl (PV.move rfl rfl) ?_
  refine RG.pv rfl (PV.mvI (.inl rfl) rfl) ?_
  refine RG.callF (vs := [_, _]) rfl rfl En131 rfl (CallT.exC (src b cv) (next_s hcode (by omega) (fun w9 hw9 => ?_)))
  refine RG.pv rfl (PV.neq rfl rfl rfl) ?_
  refine RG.nil ?_
  -- STOP: cond
  refine WP.cond rfl (fun h2 => ?_) (fun h2 => ?_)
  · refine WP.seq ?_
    refine WP.region ?_
    refine RG.pv rfl (PV.move (v := v) rfl rfl) ?_
    refine RG.pv rfl (PV.asg (v := v) rfl rfl) ?_
    refine RG.nil ?_
    refine WP.ret ?_
  -- STOP: ret
    exact ⟨_, _, ResV.one rfl rfl, Cv.p, k v ys ys Rs.o (fun s h => h) (by omega)⟩
  · refine WP.skip ?_
    refine WP.seq ?_
    refine WP.seq ?_
    refine WP.region ?_
    refine RG.pv rfl (PV.move rfl rfl) ?_
    refine RG.callF (vs := [_, _]) rfl rfl En131 rfl (CallT.exC (src b cv) (next_s hcode (by omega) (fun w13 hw13 => ?_)))
    refine RG.pv rfl (PV.eql rfl rfl rfl) ?_
    refine RG.nil ?_
  -- STOP: cond
    refine WP.cond rfl (fun h3 => ?_) (fun h3 => ?_)
    · skip
      refine WP.seq ?_
      refine WP.region ?_
      refine RG.pv rfl (PV.move (v := v) rfl rfl) ?_
      refine RG.pv rfl (PV.slc (l := 1) (v := v) rfl Is27 rfl SlF.o (optAt.s rfl (by omega)) optAt.n (by omega) (by omega)) ?_
      refine RG.pv rfl (PV.asg rfl rfl) ?_
      refine RG.nil ?_
      refine WP.ret ?_
  -- STOP: ret
      exact ⟨_, _, ResV.one rfl rfl, Cv.p, k _ ((ys.take 8).drop 1) ys (by rw [← hyl]; exact Rs.slv (F := slT) Rs.o (by omega) (by omega)) (fun s h => List.mem_of_mem_take (List.mem_of_mem_drop h)) (by simp; omega)⟩
    · skip
      refine WP.skip ?_
      refine WP.seq ?_
      refine WP.region ?_
      refine RG.pv rfl (PV.move (v := v) rfl rfl) ?_
      refine RG.pv rfl (PV.move rfl rfl) ?_
      refine RG.pv rfl (PV.move (v := v) rfl rfl) ?_
      refine RG.pv rfl (PV.idxS (j := 0) (v := v) rfl Is27 rfl SlF.o rfl (by omega) (by omega)) ?_
      refine RG.pv rfl (PV.loadE1 rfl Sc24 rfl rfl (El.o (getG (by omega))) rfl) ?_
      refine RG.callF (vs := [_, _, _]) rfl rfl En80 rfl (CallT.exBg ys (CallT.cv (Cv.bagS_take 0 (by omega)) (CallT.exC (src b cv) (CallT.exS (gd ys 0).v (spoil_s hcode (hyr.gd (by omega)) (by omega) (fun v22 zsv22 hzv22 => ?_))))))
      refine RG.pv rfl (PV.idxS (j := 0) (v := v) rfl Is27 rfl SlF.o rfl (by omega) (by omega)) ?_
      refine RG.ot rfl (OT.storeE (v := v22) (a := ⟨v22, zsv22⟩) (F := (slT (α := Rect))) rfl Sz24 rfl rfl rfl (Cl.s (v := v22) SlF.o) (OneC.sl SlF.o OneC.nil) (by omega) ?_)
      refine RG.nil ?_
      refine WP.seq ?_
      refine WP.region ?_
      refine RG.pv rfl (PV.move (v := v) rfl rfl) ?_
      refine RG.pv rfl (PV.asg (v := v) rfl rfl) ?_
      refine RG.nil ?_
      refine WP.ret ?_
  -- STOP: ret
      exact ⟨_, _, ResV.one rfl rfl, ((Cv.p (C := osl 81 rectT v22 zsv22 :: bag ((ys.map (ownS 81 rectT)).set 0 emp) :: osl 24 slT v (ys.set 0 ⟨v22, zsv22⟩) :: src b cv :: L)).trans ((Cv.bagS_put 0 (by omega)).trans Cv.p)), k v (ys.set 0 ⟨v22, zsv22⟩) (ys.set 0 ⟨v22, zsv22⟩) Rs.o (fun s h => h) (by simp; omega)⟩
theorem drawChanged_s {cv : Value} {bs : List UInt8} (hcode : SL G byteT cv bs) (k : ∀ v w v0 w0 xs us ys zs, Rs G [osl 24 slT v0 ys, bagS 81 rectT ys] slT v xs → (∀ s ∈ xs, s ∈ ys) → xs.length ≤ 8 → Rs G [osl 24 slT w0 zs, bagS 81 rectT zs] slT w us → (∀ s ∈ us, s ∈ zs) → us.length ≤ 8 → R (.tuple #[v, w]) G (osl 24 slT w0 zs :: bagS 81 rectT zs :: osl 24 slT v0 ys :: bagS 81 rectT ys :: L)) : CallT Try.prog 30 #[cv] G L R := by
  refine CallT.enter (args := _) Try.func30 rfl rfl (by kernel_rfl) rfl ?_
  refine WP.seq ?_
  refine WP.region ?_
  refine RG.pv rfl (PV.asg rfl rfl) ?_
  refine RG.pv rfl (PV.asg rfl rfl) ?_
  refine RG.nil ?_
  refine WP.seq ?_
  refine WP.region ?_
  refine RG.pv rfl (PV.move (v := cv) rfl rfl) ?_
  refine RG.callF (vs := [cv]) rfl rfl En78 rfl (from_s hcode (fun b => ?_))
  refine RG.pv rfl (PV.asg rfl rfl) ?_
  refine RG.nil ?_
  refine WP.seq ?_
  refine WP.region ?_
  refine RG.pv rfl (PV.move rfl rfl) ?_
  refine RG.callF (vs := [_]) rfl rfl En88 rfl (CallT.exC (src b cv) (drawEdit_s hcode (fun v5 v6 ys zs hyl hzl hyr hzr => ?_)))
  refine RG.pv rfl (PV.move (v := .tuple _) rfl rfl) ?_
  refine RG.pv rfl (PV.ext rfl rfl rfl) ?_
  refine RG.pv rfl (PV.ext rfl rfl rfl) ?_
  refine RG.pv rfl (PV.asg rfl rfl) ?_
  refine RG.pv rfl (PV.asg rfl rfl) ?_
  refine RG.nil ?_
  refine WP.seq ?_
  refine WP.region ?_
  refine RG.pv rfl (PV.move rfl rfl) ?_
  refine RG.pv rfl (PV.move rfl rfl) ?_
  refine RG.callF (vs := [_, _, _]) rfl rfl En89 rfl (CallT.exC (src b cv) (CallT.exBg ys (CallT.exS v5 (spoilLayers_s (v := v5) hcode (by omega) hyl hyr (fun v16 xs ys' hxs hxm hxl => ?_)))))
  refine RG.pv rfl (PV.move rfl rfl) ?_
  refine RG.pv rfl (PV.move rfl rfl) ?_
  refine RG.callF (vs := [_, _, _]) rfl rfl En89 rfl (CallT.exC (src b cv) (CallT.exBg zs (CallT.exS v6 (spoilLayers_s (v := v6) hcode (by omega) hzl hzr (fun v19 us zs' hus hum hul => ?_)))))
  refine RG.pv rfl (PV.asg rfl rfl) ?_
  refine RG.pv rfl (PV.asg rfl rfl) ?_
  refine RG.nil ?_
  refine WP.ret ?_
  -- STOP: ret
  exact ⟨_, _, ResV.two rfl rfl rfl, Cv.p, k v16 v19 v5 v6 xs us ys' zs' hxs hxm hxl hus hum hul⟩
theorem chgArea_c {v u : Value} {xs ys xs0 ys0 : List (Sl Rect)} (he1 : er xs = er xs0) (he2 : er ys = er ys0) (h1 : Rs G L slT v xs) (hd : RsE G L rectT xs) (h2 : Rs G L slT u ys) (hd' : RsE G L rectT ys) (k : ∀ v', R (.tuple #[v', vi (chgE (er xs0) (er ys0))]) G (osl 81 rectT v' (chgR (er xs0) (er ys0)) :: L)) : CallT Try.prog 18 #[v, u] G L R := by
  rw [← he1, ← he2] at k
  exact chgArea_i h1 hd h2 hd' k
theorem law_FnChangedArea {cv : Value} {bs : List UInt8} (hcode : SL G byteT cv bs) (k : R (.bool true) G L) : CallT Try.prog 5 #[cv] G L R := by
  refine CallT.enter (args := _) Try.func5 rfl rfl (by kernel_rfl) rfl ?_
  refine WP.seq ?_
  refine WP.region ?_
  refine RG.pv rfl (PV.mvB (.inr rfl) rfl) ?_
  refine RG.nil ?_
  refine WP.seq ?_
  refine WP.seq ?_
  refine WP.region ?_
  refine RG.pv rfl (PV.move (v := cv) rfl rfl) ?_
  refine RG.callF (vs := [cv]) rfl rfl En24 rfl (big_s hcode ?_)
  refine RG.nil ?_
  -- STOP: cond
  refine WP.cond rfl (fun h1 => ?_) (fun h1 => ?_)
  · refine WP.seq ?_
    refine WP.region ?_
    refine RG.pv rfl (PV.mvB (.inr rfl) rfl) ?_
    refine RG.nil ?_
    refine WP.ret ?_
  -- STOP: ret
    exact ⟨_, _, ResV.one rfl rfl, Cv.p, k⟩
  · skip
    refine WP.skip ?_
    refine WP.seq ?_
    refine WP.region ?_
    refine RG.pv rfl (PV.move (v := cv) rfl rfl) ?_
    refine RG.callF (vs := [cv]) rfl rfl En30 rfl (drawChanged_s hcode (fun v13 v14 v0 w0 xs us ys zs hxs hxm hxl hus hum hul => ?_))
    refine RG.pv rfl (PV.move (v := .tuple _) rfl rfl) ?_
    refine RG.pv rfl (PV.ext rfl rfl rfl) ?_
    refine RG.pv rfl (PV.ext rfl rfl rfl) ?_
    refine RG.pv rfl (PV.asg (v := v13) rfl rfl) ?_
    refine RG.pv rfl (PV.asg (v := v14) rfl rfl) ?_
    refine RG.nil ?_
    refine WP.seq ?_
    refine WP.seq ?_
    refine WP.region ?_
    refine RG.pv rfl (PV.move (v := v13) rfl rfl) ?_
    refine RG.callF (vs := [v13]) rfl rfl En31 rfl (isLayoutS_s (Rs.up hxs) (drawn_hd2 (v0 := v0) (e := 81) (e' := 24) hxm).up ?_)
    refine RG.pv rfl (PV.not rfl rfl) ?_
    refine RG.pv rfl (PV.mvB (.inl rfl) rfl) ?_
    refine RG.gs rfl rfl rfl (fun hp => (PV.move (v := v14) rfl rfl)) ?_
    refine RG.gsC rfl rfl rfl rfl En31 (fun hp => ⟨_, (acons (gs_t hp) anil), isLayoutS_s (Rs.up hus) (drawn_hd2 (v0 := w0) (e := 81) (e' := 24) hum).up ⟨rfl, rfl, rfl⟩⟩) ?_
    refine RG.gs rfl rfl rfl (fun hp => (PV.not rfl (gs_t hp))) ?_
    refine RG.pv rfl (PV.pickO rfl rfl rfl (fun hq => gs_t (geqF hq))) ?_
    refine RG.nil ?_
  -- STOP: cond
    refine WP.cond rfl (fun h2 => ?_) (fun h2 => ?_)
    · refine WP.seq ?_
      refine WP.region ?_
      refine RG.pv rfl (PV.mvB (.inr rfl) rfl) ?_
      refine RG.nil ?_
      refine WP.ret ?_
  -- STOP: ret
      exact ⟨_, _, ResV.one rfl rfl, Cv.p, k⟩
    · have hlx : isLay (er xs) = true ∧ isLay (er us) = true := by
        cases c : isLay (er xs) <;> cases d : isLay (er us) <;> simp [c, d] at h2
        exact ⟨rfl, rfl⟩
      have hx8 : xs.length = 8 := by have := isLay_len hlx.1; rwa [er_len] at this
      have hu8 : us.length = 8 := by have := isLay_len hlx.2; rwa [er_len] at this
      have hdx : RsE G [osl 24 slT v0 ys, bagS 81 rectT ys] rectT xs := drawn_hd2 hxm
      have hdu : RsE G [osl 24 slT w0 zs, bagS 81 rectT zs] rectT us := drawn_hd2 hum
      have hbx : ∀ i, i < xs.length → (gd xs i).xs.length ≤ 1048576 := fun i hi => by
        have := isReg_len (isLay_reg hlx.1 (show i < 8 by omega)); rw [er_gd] at this; omega
      have hbu : ∀ i, i < us.length → (gd us i).xs.length ≤ 1048576 := fun i hi => by
        have := isReg_len (isLay_reg hlx.2 (show i < 8 by omega)); rw [er_gd] at this; omega
      refine WP.skip ?_
      refine WP.seq ?_
      refine WP.region ?_
      refine RG.pv rfl (PV.move (v := v13) rfl rfl) ?_
      refine RG.callF (vs := [v13]) rfl rfl En32 rfl (copyLayers_s (Rs.up hxs) hdx.up (by omega) hbx (fun v25 asv25 he1 => ?_))
      refine RG.pv rfl (PV.move (v := v14) rfl rfl) ?_
      refine RG.callF (vs := [v14]) rfl rfl En32 rfl (copyLayers_s (Rs.up hus) hdu.up (by omega) hbu (fun v27 asv27 he2 => ?_))
      refine RG.callF (vs := [v25, v27]) rfl rfl En18 rfl (chgArea_c he1 he2 Rs.o RsE.o Rs.o RsE.o (fun w28 => ?_))
      refine RG.pv rfl (PV.move (v := .tuple _) rfl rfl) ?_
      refine RG.pv rfl (PV.ext (v := w28) rfl rfl rfl) ?_
      refine RG.pv rfl (PV.ext rfl rfl rfl) ?_
      refine RG.pv rfl (PV.asg (v := w28) rfl rfl) ?_
      refine RG.pv rfl (PV.mvI (.inr rfl) rfl) ?_
      refine RG.nil ?_
      refine WP.seq ?_
      refine WP.seq ?_
      refine WP.region ?_
      refine RG.pv rfl (PV.mvI (.inl rfl) rfl) ?_
      refine RG.pv rfl (PV.neq rfl rfl rfl) ?_
      refine RG.pv rfl (PV.mvB (.inl rfl) rfl) ?_
      refine RG.gs rfl rfl rfl (fun hp => (PV.move (v := w28) rfl rfl)) ?_
      refine RG.gs rfl rfl rfl (fun hp => (PV.len (v := w28) rfl Try.underlying24 (gs_t hp) SlF.o)) ?_
      refine RG.gs rfl rfl rfl (fun hp => (PV.eql rfl (gs_t hp) rfl)) ?_
      refine RG.gs rfl rfl rfl (fun hp => (PV.move (v := v13) rfl rfl)) ?_
      refine RG.gs rfl rfl rfl (fun hp => (PV.move (v := v14) rfl rfl)) ?_
      refine RG.gsC rfl rfl rfl rfl En33 (fun hp => ⟨_, (acons (gs_t hp) (acons (gs_t hp) anil)), sameLayers_s (Rs.up hxs) (drawn_hd2 (v0 := v0) (e := 81) (e' := 24) hxm).up (Rs.up hus) (drawn_hd2 (v0 := w0) (e := 81) (e' := 24) hum).up (by omega) ⟨rfl, rfl, rfl⟩⟩) ?_
      refine RG.gs rfl rfl rfl (fun hp => (PV.neqB rfl Try.underlying4 (gs_t hp) (gs_t hp))) ?_
      refine RG.pv rfl (PV.pickO rfl rfl rfl (fun hq => gs_t (geqF hq))) ?_
      refine RG.nil ?_
  -- STOP: cond
      have hnl : decide (((chgR (er xs) (er us)).length : Int) = 0) = decide (er xs = er us) := chg_nil hlx.1 hlx.2
      have he0 : chgE (er xs) (er us) = 0 := by rw [chgE, hlx.1, hlx.2]; rfl
      refine WP.cond rfl (fun h3 => ?_) (fun h3 => ?_)
      · exfalso
        rw [he0, hnl] at h3
        simp at h3
      · have hdx2 : ∀ i, i < 8 → Rs G [osl 24 slT v0 ys, bagS 81 rectT ys] rectT (gd xs i).v (gd xs i).xs := fun i hi => hdx i (by omega)
        have hdu2 : ∀ i, i < 8 → Rs G [osl 24 slT w0 zs, bagS 81 rectT zs] rectT (gd us i).v (gd us i).xs := fun i hi => hdu i (by omega)
        have hrA : isReg (chgR (er xs) (er us)) = true := by
          have e : chgR (er xs) (er us) = canon (orL (er xs) (er us) [0, 1, 2, 3, 4, 5, 6, 7]) := by rw [chgR, hlx.1, hlx.2]; rfl
          rw [e]; exact isReg_canon (orL_len _ _ _)
        have hrS : ∀ i, i < 8 → isReg (opR (fun p q => p != q) (gd xs i).xs (gd us i).xs) = true := fun i hi => by
          have e1 : isReg (gd xs i).xs = true := by rw [← er_gd]; exact isLay_reg hlx.1 hi
          have e2 : isReg (gd us i).xs = true := by rw [← er_gd]; exact isLay_reg hlx.2 hi
          rw [opR, e1, e2]; exact isReg_canon (zipB_len (bits_length _) (bits_length _))
        have hcv : ∀ i, i < 8 → ∀ y x, y < 80 → x < 80 → gb (bits (opR (fun p q => p != q) (gd xs i).xs (gd us i).xs)) y x = true → gb (bits (chgR (er xs) (er us))) y x = true := fun i hi y x hy hx h => by
          rw [← er_gd, ← er_gd] at h
          exact chg_covers hlx.1 hlx.2 hi hy hx h
        refine WP.skip ?_
        refine WP.seq ?_
        refine WP.seq ?_
        refine WP.region ?_
        refine RG.pv rfl (PV.mvI (.inr rfl) rfl) ?_
        refine RG.nil ?_
        refine WP.block ?_
  -- STOP: loop
        refine WP.loop1 [3, 4, 5] (fun (i : Nat) => i ≤ 8) (fun (i : Nat) => [(7, vi i)]) (fun (i : Nat) => osl 81 rectT w28 (chgR (er xs) (er us)) :: osl 24 slT w0 zs :: bagS 81 rectT zs :: osl 24 slT v0 ys :: bagS 81 rectT ys :: L) (fun (i : Nat) => 8 - i) 0 (by omega) ⟨rfl, trivial⟩ Cv.p ?_
        rintro i τ hi
        refine WP.seq ?_
        refine WP.seq ?_
        refine WP.region ?_
        refine RG.pv rfl (PV.mvI (.inl rfl) rfl) ?_
        refine RG.pv rfl (PV.lss rfl rfl rfl) ?_
        refine RG.nil ?_
  -- STOP: cond
        refine WP.cond rfl (fun h4 => ?_) (fun h4 => ?_)
        · have h4 := of_decide_eq_true h4
          refine WP.skip ?_
          refine WP.seq ?_
          refine WP.block ?_
          refine WP.seq ?_
          refine WP.regionH0 (.q 0 (.q 1 (.q 2 (.q 3 (.q 4 (.q 6 (.q 7 (.q 8 (.q 9 (.l 5 (.l 10 (.l 11 (.l 12 (.q 13 Sch.nil)))))))))))))) (by kernel_rfl) (by kernel_rfl) (by kernel_rfl) rfl ?_
          refine RH.pv rfl (fun _ _ _ _ h => h) (Gh.le_refl _) PickC.pick rfl (PV.move (v := w28) rfl rfl) ?_
          refine RH.pv rfl (fun _ _ _ _ h => h) (Gh.le_refl _) PickC.pick rfl (PV.move (v := v13) rfl rfl) ?_
          refine RH.pv rfl (fun _ _ _ _ h => h) (Gh.le_refl _) PickC.pick rfl (PV.mvI (.inl rfl) rfl) ?_
          refine RH.pv rfl (fun _ _ _ _ h => h) (Gh.le_refl _) PickC.pick rfl (PV.idxS (v := v13) rfl Is27 rfl (SlF.r hxs) rfl rfl (by omega)) ?_
          refine RH.pv rfl (fun _ _ _ _ h => h) (Gh.le_refl _) PickC.pick rfl (PV.loadE1 rfl Sc24 rfl rfl (El.r hxs (getG (by omega))) rfl) ?_
          refine RH.pv rfl (fun _ _ _ _ h => h) (Gh.le_refl _) PickC.pick rfl (PV.move (v := v14) rfl rfl) ?_
          refine RH.pv rfl (fun _ _ _ _ h => h) (Gh.le_refl _) PickC.pick rfl (PV.mvI (.inl rfl) rfl) ?_
          refine RH.pv rfl (fun _ _ _ _ h => h) (Gh.le_refl _) PickC.pick rfl (PV.idxS (v := v14) rfl Is27 rfl (SlF.r hus) rfl rfl (by omega)) ?_
          refine RH.pv rfl (fun _ _ _ _ h => h) (Gh.le_refl _) PickC.pick rfl (PV.loadE1 rfl Sc24 rfl rfl (El.r hus (getG (by omega))) rfl) ?_
          refine RH.ot rfl rfl (OT.callF (vs := [_]) rfl En28 rfl (copyRects_s (Rs.up (hdx2 i (by omega))) (hbx i (by omega)) (fun v51 => ⟨Gh.le_refl _, PickC.pick, ?_⟩)))
          refine RH.ot rfl rfl (OT.callF (vs := [_]) rfl En28 rfl (copyRects_s (Rs.up (hdu2 i (by omega))) (hbu i (by omega)) (fun v56 => ⟨Gh.le_refl _, PickC.pick, ?_⟩)))
          refine RH.ot rfl rfl (OT.callF (vs := [v51, v56]) rfl En35 rfl (symd_s Rs.o Rs.o (fun v57 => ⟨Gh.le_refl _, PickC.pick, ?_⟩)))
          refine RH.ot rfl rfl (OT.callF (vs := [w28, v57]) rfl En34 rfl (covers2_s Rs.o Rs.o hrA (hrS _ (by omega)) (hcv _ (by omega)) ⟨Gh.le_refl _, PickC.pick, ?_⟩))
          refine RH.pv rfl (fun _ _ _ _ h => h) (Gh.le_refl _) PickC.pick rfl (PV.not rfl rfl) ?_
          refine RH.nil ?_
  -- STOP: cond
          refine WP.cond rfl (fun h5 => ?_) (fun h5 => ?_)
          · exfalso
            cases h5
          · refine WP.skip ?_
            refine WP.region ?_
            refine RG.pv rfl (PV.mvI (.inl rfl) rfl) ?_
            refine RG.pv rfl (PV.add rfl rfl rfl (by omega)) ?_
            refine RG.pv rfl (PV.mvI (.inr rfl) rfl) ?_
            refine RG.nil ?_
  -- STOP: loopend
            exact ⟨rfl, i + 1, (by omega), ⟨rfl, trivial⟩, ⟨rfl, rfl, rfl, trivial⟩, Cv.p, by omega⟩
        · refine WP.exit ?_
          refine WP.seq ?_
          refine WP.region ?_
          refine RG.pv rfl (PV.mvB (.inr rfl) rfl) ?_
          refine RG.nil ?_
          refine WP.ret ?_
  -- STOP: ret
          exact ⟨_, _, ResV.one rfl rfl, Cv.p, k⟩
end Go.Proofs.Ytilccgeldnlgnaa
