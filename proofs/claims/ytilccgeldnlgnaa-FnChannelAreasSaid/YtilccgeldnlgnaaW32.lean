/-
  Contracts: the drawing of circuits.
-/
import Derived.Test.YtilccgeldnlgnaaW30
namespace Go.Proofs.Ytilccgeldnlgnaa
open Go
set_option maxRecDepth 20000
set_option linter.unusedSimpArgs false
variable {G : Gh} {L : List Ch} {R : Value → Gh → List Ch → Prop}
/-- sets of the chip -/
def Sets (ss : List (Sl Bool)) : Prop := ss.length = 8 ∧ ∀ i, i < 8 → (gd ss i).xs.length = 6400
theorem Sets.set {ss : List (Sl Bool)} (h : Sets ss) {i : Nat} {D : List Bool} (hD : D.length = 6400) : Sets (ss.set i ⟨(gd ss i).v, D⟩) := ⟨by simpa using h.1, fun j hj => by
  by_cases c : i = j
  · subst c; simp [gd, h.1, hj, hD]
  · have := h.2 j hj
    simpa [gd, List.getElem?_set, c] using this⟩
theorem turn_s {v : Value} {xs : List (Sl Rect)} (h1 : Rs G L slT v xs) (hd : RsE G L rectT xs) (hl : xs.length ≤ 8) (hvr : ∀ s ∈ xs, ∀ r ∈ s.xs, validRect r = true) (hll : ∀ s ∈ xs, s.xs.length ≤ 3200) (k : ∀ v ys, ys.length = xs.length → (∀ s ∈ ys, isReg s.xs = true) → R v G (osl 24 slT v ys :: bagS 81 rectT ys :: L)) : CallT Try.prog 207 #[v] G L R := by
  refine CallT.enter (args := _) Try.func207 rfl rfl (by kernel_rfl) rfl ?_
  refine WP.seq ?_
  refine WP.region ?_
  refine RG.pv rfl (PV.asg rfl rfl) ?_
  refine RG.nil ?_
  refine WP.seq ?_
  refine WP.region ?_
  refine RG.ot rfl (OT.bslice (F := (slT (α := Rect))) (els := []) rfl El27 rfl (by decide) rfl (by decide) trivial fun v8 => ?_)
  refine RG.pv rfl (PV.asg (v := v8) rfl rfl) ?_
  refine RG.nil ?_
  refine WP.seq ?_
  refine WP.seq ?_
  refine WP.region ?_
  refine RG.pv rfl (PV.mvI (.inr rfl) rfl) ?_
  refine RG.nil ?_
  refine WP.block ?_
  refine WP.cv (Cv.cons (Cv.bag0 (e := 81) (F := rectT) (xs := []) rfl)) ?_
  refine WP.loop3 [0] (fun (i : Nat) (ys : List (Sl Rect)) (q : Value) => i ≤ xs.length ∧ ys.length = i ∧ ∀ s ∈ ys, isReg s.xs = true) (fun (i : Nat) (ys : List (Sl Rect)) (q : Value) => [(4, vi i), (3, q)]) (fun (i : Nat) (ys : List (Sl Rect)) (q : Value) => osl 24 slT q ys :: bagS 81 rectT ys :: L) (fun (i : Nat) (ys : List (Sl Rect)) (q : Value) => xs.length - i) 0 [] v8 ⟨by omega, rfl, fun s h => by cases h⟩ ⟨rfl, rfl, trivial⟩ Cv.p ?_
  rintro i ys q τ ⟨hi, hyl, hys⟩
  refine WP.seq ?_
  refine WP.seq ?_
  refine WP.region ?_
  refine RG.pv rfl (PV.mvI (.inl rfl) rfl) ?_
  refine RG.pv rfl (PV.move (v := v) rfl rfl) ?_
  refine RG.pv rfl (PV.len (v := v) rfl Try.underlying27 rfl (SlF.r h1)) ?_
  refine RG.pv rfl (PV.lss rfl rfl rfl) ?_
  refine RG.nil ?_
  refine WP.cond rfl (fun h2 => ?_) (fun h2 => ?_)
  · have h2 := of_decide_eq_true h2
    have h3 : i < xs.length := by omega
    have h4 := hll _ (gd_mem h3)
    refine WP.skip ?_
    refine WP.seq ?_
    refine WP.block ?_
    refine WP.seq ?_
    refine WP.region ?_
    refine RG.ot rfl (OT.make (m := 6400) (F := boolT) (a0 := false) rfl El92 rfl (by decide) rfl rfl (by omega) (by omega) fun v15 => ?_)
    refine RG.pv rfl (PV.asg (v := v15) rfl rfl) ?_
    refine RG.nil ?_
    refine WP.seq ?_
    refine WP.seq ?_
    refine WP.region ?_
    refine RG.pv rfl (PV.mvI (.inr rfl) rfl) ?_
    refine RG.nil ?_
    refine WP.block ?_
    refine WP.loop2 [0, 3, 4] (fun (j : Nat) (E : List Bool) => j ≤ (gd xs i).xs.length ∧ E.length = 6400) (fun (j : Nat) (E : List Bool) => [(6, vi j), (5, v15)]) (fun (j : Nat) (E : List Bool) => osl 4 boolT v15 E :: osl 24 slT q ys :: bagS 81 rectT ys :: L) (fun (j : Nat) (E : List Bool) => (gd xs i).xs.length - j) 0 (List.replicate 6400 false) ⟨by omega, by simp⟩ ⟨rfl, rfl, trivial⟩ Cv.p ?_
    rintro j E τ1 ⟨hj, hE⟩
    refine WP.seq ?_
    refine WP.seq ?_
    refine WP.region ?_
    refine RG.pv rfl (PV.mvI (.inl rfl) rfl) ?_
    refine RG.pv rfl (PV.move (v := v) rfl rfl) ?_
    refine RG.pv rfl (PV.mvI (.inl rfl) rfl) ?_
    refine RG.pv rfl (PV.idxS (v := v) rfl Is27 rfl (SlF.r h1) rfl rfl (by omega)) ?_
    refine RG.pv rfl (PV.loadE1 rfl Sc24 rfl rfl (El.r h1 (getG (by omega))) rfl) ?_
    refine RG.pv rfl (PV.len rfl Try.underlying24 rfl (SlF.r (hd i h3))) ?_
    refine RG.pv rfl (PV.lss rfl rfl rfl) ?_
    refine RG.nil ?_
    refine WP.cond rfl (fun h5 => ?_) (fun h5 => ?_)
    · have h5 := of_decide_eq_true h5
      refine WP.skip ?_
      refine WP.seq ?_
      refine WP.block ?_
      refine WP.seq ?_
      refine WP.region ?_
      refine RG.pv rfl (PV.move (v := v) rfl rfl) ?_
      refine RG.pv rfl (PV.mvI (.inl rfl) rfl) ?_
      refine RG.pv rfl (PV.idxS (v := v) rfl Is27 rfl (SlF.r h1) rfl rfl (by omega)) ?_
      refine RG.pv rfl (PV.loadE1 rfl Sc24 rfl rfl (El.r h1 (getG (by omega))) rfl) ?_
      refine RG.pv rfl (PV.mvI (.inl rfl) rfl) ?_
      refine RG.pv rfl (PV.idxS rfl Is24 rfl (SlF.r (hd i h3)) rfl rfl (by omega)) ?_
      refine RG.pv rfl (PV.loadE rfl Ag81 rfl rfl (El.r (hd i h3) (getG (by omega)))) ?_
      refine RG.ot rfl (OT.alloc rfl Zr81 fun b7 => ?_)
      refine RG.ot rfl (OT.storeW (vs := [vi _, vi _, vi _, vi _]) rfl Sz81 rfl rfl (Cl.c rfl) rfl rfl (OneC.c rfl) ?_)
      refine RG.nil ?_
      refine WP.region ?_
      refine RG.pv rfl (PV.move (v := v15) rfl rfl) ?_
      refine RG.pv rfl (PV.field rfl Fo81_1 rfl) ?_
      refine RG.pv rfl (PV.load1 rfl Sc2 rfl (Rd.blk rfl)) ?_
      refine RG.pv rfl (PV.field rfl Fo81_0 rfl) ?_
      refine RG.pv rfl (PV.load1 rfl Sc2 rfl (Rd.blk rfl)) ?_
      refine RG.pv rfl (PV.field rfl Fo81_3 rfl) ?_
      refine RG.pv rfl (PV.load1 rfl Sc2 rfl (Rd.blk rfl)) ?_
      refine RG.pv rfl (PV.field rfl Fo81_2 rfl) ?_
      refine RG.pv rfl (PV.load1 rfl Sc2 rfl (Rd.blk rfl)) ?_
      refine RG.pv rfl (PV.build (vs := [(0, [vi _]), (1, [vi _]), (2, [vi _]), (3, [vi _])]) (out := [_, _, _, _]) rfl Zr81 Pl81 ⟨rfl, (Cl.c rfl), ⟨rfl, (Cl.c rfl), ⟨rfl, (Cl.c rfl), ⟨rfl, (Cl.c rfl), trivial⟩⟩⟩⟩ rfl) ?_
      refine RG.callF (vs := [v15, _]) rfl rfl En193 rfl (CallT.exS v15 (fill_s (r := ⟨(gd (gd xs i).xs j).y0, (gd (gd xs i).xs j).x0, (gd (gd xs i).xs j).y1, (gd (gd xs i).xs j).x1⟩) hE (by have h := hvr (gd xs i) (gd_mem (by omega)) (gd (gd xs i).xs j) (gd_mem (by omega)); rw [validR_iff] at h ⊢; (try simp only); omega) (fun D' hD' hg' => ?_)))
      refine RG.pv rfl (PV.asg rfl rfl) ?_
      refine RG.nil ?_
      refine WP.region ?_
      refine RG.pv rfl (PV.mvI (.inl rfl) rfl) ?_
      refine RG.pv rfl (PV.add rfl rfl rfl (by omega)) ?_
      refine RG.pv rfl (PV.mvI (.inr rfl) rfl) ?_
      refine RG.nil ?_
      exact ⟨rfl, j + 1, D', ⟨by omega, hD'⟩, ⟨rfl, rfl, trivial⟩, ⟨rfl, rfl, rfl, trivial⟩, Cv.p, by omega⟩
    · skip
      refine WP.exit ?_
      refine WP.region ?_
      refine RG.pv rfl (PV.move (v := q) rfl rfl) ?_
      refine RG.pv rfl (PV.move (v := v15) rfl rfl) ?_
      refine RG.callF (vs := [v15]) rfl rfl En73 rfl (l03Canon_s Rs.o hE (fun v45 => ?_))
      refine RG.ot rfl (OT.bslice (F := (slT (α := Rect))) (els := [⟨v45, canon E⟩]) rfl El27 rfl (by decide) rfl (by decide) ⟨rfl, (Cl.s (v := v45) SlF.o), trivial⟩ fun v46 => ?_)
      refine RG.ot rfl (OT.append (v := q) (u := v46) (F := (slT (α := Rect))) rfl El27 rfl (by decide) rfl rfl Rs.o (OneL.one (OneC.sl SlF.o OneC.nil)) rfl (by first | omega | (simp <;> omega)) fun v47 => ?_)
      refine RG.pv rfl (PV.asg (v := v47) rfl rfl) ?_
      refine RG.nil ?_
      refine WP.region ?_
      refine RG.pv rfl (PV.mvI (.inl rfl) rfl) ?_
      refine RG.pv rfl (PV.add rfl rfl rfl (by omega)) ?_
      refine RG.pv rfl (PV.mvI (.inr rfl) rfl) ?_
      refine RG.nil ?_
      refine ⟨rfl, i + 1, (ys ++ [⟨v45, canon E⟩]), v47, ⟨by omega, by simp [hyl], ?_⟩, ⟨rfl, rfl, trivial⟩, ⟨rfl, trivial⟩, ((Cv.p (C := osl 24 slT v47 (ys ++ [⟨v45, canon E⟩]) :: osl 81 rectT v45 (canon E) :: bagS 81 rectT ys :: L)).trans (Cv.cons Cv.bagS_add)), by omega⟩
      intro s hs
      rcases List.mem_append.1 hs with hs | hs
      · exact hys s hs
      · obtain rfl : s = ⟨v45, canon E⟩ := by simpa using hs
        exact isReg_canon hE
  · have h2 := of_decide_eq_false h2
    obtain rfl : i = xs.length := by omega
    refine WP.exit ?_
    refine WP.seq ?_
    refine WP.region ?_
    refine RG.pv rfl (PV.move (v := q) rfl rfl) ?_
    refine RG.pv rfl (PV.asg (v := q) rfl rfl) ?_
    refine RG.nil ?_
    refine WP.ret ?_
    exact ⟨_, _, ResV.one rfl rfl, Cv.p, k q ys hyl hys⟩
theorem Cv.putB {α : Type} {e : TypeId} {F : FT α} {zs : List (Sl α)} {ys : List α} {X : Ch} {L : List Ch} (i : Nat) (hi : i < zs.length) :
    Cv (osl e F (gd zs i).v ys :: X :: bag ((zs.map (ownS e F)).set i emp) :: L) (X :: bagS e F (zs.set i ⟨(gd zs i).v, ys⟩) :: L) :=
  (Cv.swap (A := [osl e F (gd zs i).v ys]) (B := [X])).trans (Cv.cons (Cv.bagS_put i hi))
theorem yv_bd {n : Int} (h : 0 ≤ n ∧ n < 4) : -6 ≤ gd [-4, 4, -6, (-4 : Int)] n.toNat ∧ gd [-4, 4, -6, (-4 : Int)] n.toNat ≤ 4 := by
  rcases (by omega : n = 0 ∨ n = 1 ∨ n = 2 ∨ n = 3) with rfl | rfl | rfl | rfl <;> simp [gd]
set_option maxHeartbeats 4000000 in
theorem drawCircuit_s {b : Nat} {cv : Value} {bs : List UInt8} (hcode : SL G byteT cv bs) (k : ∀ v ys, ys.length = 8 → (∀ s ∈ ys, isReg s.xs = true) → R v G (osl 24 slT v ys :: bagS 81 rectT ys :: src b cv :: L)) : CallT Try.prog 184 #[.pointer (some ⟨b, 0, none⟩)] G (src b cv :: L) R := by
  refine CallT.enter (args := _) Try.func184 rfl rfl (by kernel_rfl) rfl ?_
  refine WP.seq ?_
  refine WP.region ?_
  refine RG.pv rfl (PV.asg rfl rfl) ?_
  refine RG.nil ?_
  refine WP.seq ?_
  refine WP.region ?_
  refine RG.ot rfl (OT.bslice (F := (slT (α := Bool))) (els := []) rfl El186 rfl (by decide) rfl (by decide) trivial fun v17 => ?_)
  refine RG.pv rfl (PV.asg (v := v17) rfl rfl) ?_
  refine RG.nil ?_
  refine WP.seq ?_
  refine WP.seq ?_
  refine WP.region ?_
  refine RG.pv rfl (PV.mvI (.inr rfl) rfl) ?_
  refine RG.nil ?_
  refine WP.block ?_
  refine WP.cv ((Cv.cons (Cv.bag0 (e := 4) (F := boolT) (xs := []) rfl))) ?_
  refine WP.loop3 [0] (fun (i : Nat) (ss : List (Sl Bool)) (q : Value) => i ≤ 8 ∧ ss.length = i ∧ ∀ j, j < i → (gd ss j).xs.length = 6400) (fun (i : Nat) (ss : List (Sl Bool)) (q : Value) => [(4, vi i), (3, q)]) (fun (i : Nat) (ss : List (Sl Bool)) (q : Value) => osl 92 slT q ss :: bagS 4 boolT ss :: src b cv :: L) (fun (i : Nat) (ss : List (Sl Bool)) (q : Value) => 8 - i) 0 [] v17 ⟨by omega, rfl, fun j h => by omega⟩ ⟨rfl, rfl, trivial⟩ Cv.p ?_
  rintro i ss q τ ⟨hi, hsl, hs6⟩
  refine WP.seq ?_
  refine WP.seq ?_
  refine WP.region ?_
  refine RG.pv rfl (PV.mvI (.inl rfl) rfl) ?_
  refine RG.pv rfl (PV.lss rfl rfl rfl) ?_
  refine RG.nil ?_
  refine WP.cond rfl (fun h1 => ?_) (fun h1 => ?_)
  · have h1 := of_decide_eq_true h1
    refine WP.skip ?_
    refine WP.seq ?_
    refine WP.block ?_
    refine WP.region ?_
    refine RG.pv rfl (PV.move (v := q) rfl rfl) ?_
    refine RG.ot rfl (OT.make (m := 6400) (F := boolT) (a0 := false) rfl El92 rfl (by decide) rfl rfl (by omega) (by omega) fun v23 => ?_)
    refine RG.ot rfl (OT.bslice (F := (slT (α := Bool))) (els := [⟨v23, List.replicate 6400 false⟩]) rfl El186 rfl (by decide) rfl (by decide) ⟨rfl, (Cl.s (v := v23) SlF.o), trivial⟩ fun v24 => ?_)
    refine RG.ot rfl (OT.append (v := q) (u := v24) (F := (slT (α := Bool))) rfl El186 rfl (by decide) rfl rfl Rs.o (OneL.one (OneC.sl SlF.o OneC.nil)) rfl (by first | omega | (simp <;> omega)) fun v25 => ?_)
    refine RG.pv rfl (PV.asg (v := v25) rfl rfl) ?_
    refine RG.nil ?_
    refine WP.region ?_
    refine RG.pv rfl (PV.mvI (.inl rfl) rfl) ?_
    refine RG.pv rfl (PV.add rfl rfl rfl (by omega)) ?_
    refine RG.pv rfl (PV.mvI (.inr rfl) rfl) ?_
    refine RG.nil ?_
    refine ⟨rfl, i + 1, (ss ++ [⟨v23, List.replicate 6400 false⟩]), v25, ⟨by omega, by simp [hsl], fun j hj => ?_⟩, ⟨rfl, rfl, trivial⟩, ⟨rfl, trivial⟩, ((Cv.p (C := osl 92 slT v25 (ss ++ [⟨v23, List.replicate 6400 false⟩]) :: osl 4 boolT v23 (List.replicate 6400 false) :: bagS 4 boolT ss :: src b cv :: L)).trans (Cv.cons Cv.bagS_add)), by omega⟩
    by_cases c : j = ss.length
    · subst c; rw [gd_app_r]; simp
    · rw [gd_app_l (by omega)]; exact hs6 j (by omega)
  · have h1 := of_decide_eq_false h1
    obtain rfl : i = 8 := by omega
    have hss : Sets ss := ⟨hsl, hs6⟩
    clear hs6 hsl
    refine WP.exit ?_
    refine WP.seq ?_
    refine WP.region ?_
    refine RG.pv rfl (PV.move rfl rfl) ?_
    refine RG.callF (vs := [_, _]) rfl rfl En131 rfl (CallT.exC (src b cv) (next_s hcode (by omega) (fun w27 hw27 => ?_)))
    refine RG.pv rfl (PV.add rfl rfl rfl (by omega)) ?_
    refine RG.pv rfl (PV.mvI (.inr rfl) rfl) ?_
    refine RG.nil ?_
    refine WP.seq ?_
    refine WP.seq ?_
    refine WP.region ?_
    refine RG.pv rfl (PV.mvI (.inr rfl) rfl) ?_
    refine RG.nil ?_
    refine WP.block ?_
    refine WP.loop2 [0, 3, 5] (fun (m : Int) (ss : List (Sl Bool)) => 0 ≤ m ∧ m ≤ 2 ∧ Sets ss) (fun (m : Int) (ss : List (Sl Bool)) => [(6, vi m)]) (fun (m : Int) (ss : List (Sl Bool)) => osl 92 slT q ss :: bagS 4 boolT ss :: src b cv :: L) (fun (m : Int) (ss : List (Sl Bool)) => (2 - m).toNat) 0 ss ⟨by omega, by omega, hss⟩ ⟨rfl, trivial⟩ Cv.p ?_
    rintro m ss τ1 ⟨hm0, hm1, hss⟩
    refine WP.seq ?_
    refine WP.seq ?_
    refine WP.region ?_
    refine RG.pv rfl (PV.mvI (.inl rfl) rfl) ?_
    refine RG.pv rfl (PV.mvI (.inl rfl) rfl) ?_
    refine RG.pv rfl (PV.lss rfl rfl rfl) ?_
    refine RG.nil ?_
    refine WP.cond rfl (fun h2 => ?_) (fun h2 => ?_)
    · have h2 := of_decide_eq_true h2
      have h60 := hss.2 0 (by omega)
      have hsl := hss.1
      refine WP.cv ((Cv.p (C := osl 92 slT q ss :: bagS 4 boolT ss :: src b cv :: L)).trans (Cv.cons (Cv.bagS_take 0 (by have := hss.1; omega)))) ?_
      refine WP.skip ?_
      refine WP.seq ?_
      refine WP.block ?_
      refine WP.seq ?_
      refine WP.region ?_
      refine RG.pv rfl (PV.mvI (.inl rfl) rfl) ?_
      refine RG.pv rfl (PV.mul rfl rfl rfl (by omega)) ?_
      refine RG.pv rfl (PV.sub rfl rfl rfl (by omega)) ?_
      refine RG.pv rfl (PV.mvI (.inr rfl) rfl) ?_
      refine RG.nil ?_
      refine WP.cut1 [0, 3, 5, 6, 7] (fun (ss1 : List (Sl Bool)) => Sets ss1) (fun (ss1 : List (Sl Bool)) => []) (fun (ss1 : List (Sl Bool)) => osl 92 slT q ss1 :: bagS 4 boolT ss1 :: src b cv :: L) ?_ ?_
      refine WP.regionHD [.s q, .s (gd ss 0).v] (.q 0 (.q 1 (.q 4 (.q 5 (.q 8 (.q 9 (.q 10 (.b 2 (.b 3 (.l 6 (.q 7 (.l 11 (.q 12 (.q 13 (.l 14 (.l 15 (.l 16 Sch.nil)))))))) 6 (.q 7 (.b 3 (.l 11 (.q 12 (.q 13 (.l 14 (.l 15 (.l 16 Sch.nil)))))) 11 (.q 12 (.q 13 (.l 3 (.l 14 (.l 15 (.l 16 Sch.nil))))))))) 6 (.q 7 (.b 2 (.b 3 (.l 11 (.q 12 (.q 13 (.l 14 (.l 15 (.l 16 Sch.nil)))))) 11 (.q 12 (.q 13 (.l 3 (.l 14 (.l 15 (.l 16 Sch.nil))))))) 11 (.q 12 (.q 13 (.l 2 (.l 3 (.l 14 (.l 15 (.l 16 Sch.nil))))))))))))))))) (by kernel_rfl) (by kernel_rfl) (by kernel_rfl) rfl ?_
      refine RH.pv rfl (fun _ _ _ _ h => h) (Gh.le_refl _) PickC.pick rfl (PV.move (v := q) rfl rfl) ?_
      refine RH.pv rfl (fun _ _ _ _ h => h) (Gh.le_refl _) PickC.pick rfl (PV.move (v := q) rfl rfl) ?_
      refine RH.pv rfl (fun _ _ _ _ h => h) (Gh.le_refl _) PickC.pick rfl (PV.mvI (.inl rfl) rfl) ?_
      refine RH.pv rfl (fun _ _ _ _ h => h) (Gh.le_refl _) PickC.pick rfl (PV.move rfl rfl) ?_
      refine RH.pv rfl (fun _ _ _ _ h => h) (Gh.le_refl _) PickC.pick rfl (PV.mvI (.inl rfl) rfl) ?_
      refine RH.pv rfl (fun _ _ _ _ h => h) (Gh.le_refl _) PickC.pick rfl (PV.add rfl rfl rfl (by omega)) ?_
      refine RH.pv rfl (fun _ _ _ _ h => h) (Gh.le_refl _) PickC.pick rfl (PV.move rfl rfl) ?_
      · refine RH.ot2 rfl rfl rfl rfl  (OT.pv (PV.idxS (j := 0) (v := q) rfl Is186 rfl SlF.o rfl (by omega) (by omega)) ⟨Gh.le_refl _, PickC.pick, ?_⟩) (OT.callF (vs := [_, _]) rfl En131 rfl (CallT.exC (src b cv) (next_s hcode (by omega) (fun w43 hw43 => ⟨Gh.le_refl _, PickC.pick, ?_⟩))))
        · refine RH.ot2 rfl rfl rfl rfl  (OT.pv (PV.loadE1 rfl Sc92 rfl rfl (El.o (getG (by omega))) rfl) ⟨Gh.le_refl _, PickC.pick, ?_⟩) (OT.callF (vs := [_, _]) rfl En131 rfl (CallT.exC (src b cv) (next_s hcode (by omega) (fun w43 hw43 => ⟨Gh.le_refl _, PickC.pick, ?_⟩))))
          · refine RH.ot rfl rfl (OT.callF (vs := [_, _]) rfl En131 rfl (CallT.exC (src b cv) (next_s hcode (by omega) (fun w43 hw43 => ⟨Gh.le_refl _, PickC.pick, ?_⟩))))
            refine RH.pv rfl (fun _ _ _ _ h => h) (Gh.le_refl _) PickC.pick rfl (PV.sub rfl rfl rfl (by omega)) ?_
            refine RH.ot rfl rfl (OT.callF (vs := [_, _]) rfl En131 rfl (CallT.exC (src b cv) (next_s hcode (by omega) (fun w48 hw48 => ⟨Gh.le_refl _, PickC.pick, ?_⟩))))
            refine RH.pv rfl (fun _ _ _ _ h => h) (Gh.le_refl _) PickC.pick rfl (PV.add rfl rfl rfl (by omega)) ?_
            refine RH.pv rfl (fun _ _ _ _ h => h) (Gh.le_refl _) PickC.pick rfl (PV.build (vs := [(0, [vi _]), (1, [vi _]), (2, [vi _]), (3, [vi _])]) (out := [_, _, _, _]) rfl Zr81 Pl81 ⟨rfl, (Cl.c rfl), ⟨rfl, (Cl.c rfl), ⟨rfl, (Cl.c rfl), ⟨rfl, (Cl.c rfl), trivial⟩⟩⟩⟩ rfl) ?_
            refine RH.ot rfl rfl (OT.callF (vs := [(gd ss 0).v, _]) rfl En193 rfl (CallT.exS (gd ss 0).v (fill_s (r := ⟨-9, 8 * m - 4, 9 - w43, 8 * m - 4 + 1 + w48⟩) (hss.2 0 (by omega)) (validR_iff.2 (by simp only; omega)) (fun D' hD' hg' => ⟨Gh.le_refl _, PickC.pick, ?_⟩))))
            refine RH.ot rfl rfl (OT.pv (PV.idxS (j := 0) (v := q) rfl Is186 rfl SlF.o rfl (by omega) (by omega)) ⟨Gh.le_refl _, PickC.pick, ?_⟩)
            refine RH.ot rfl rfl (OT.storeE (v := (gd ss 0).v) (a := ⟨(gd ss 0).v, D'⟩) (F := (slT (α := Bool))) rfl Sz92 rfl rfl rfl (Cl.s (v := (gd ss 0).v) SlF.o) (OneC.sl SlF.o OneC.nil) (by omega) ⟨Gh.le_refl _, PickC.pick, ?_⟩)
            refine RH.nil ?_
            exact ⟨rfl, (ss.set 0 ⟨(gd ss 0).v, D'⟩), (hss.set hD'), trivial, ⟨rfl, rfl, rfl, rfl, rfl, trivial⟩, ((Cv.p (C := osl 4 boolT (gd ss 0).v D' :: osl 92 slT q (ss.set 0 ⟨(gd ss 0).v, D'⟩) :: bag ((ss.map (ownS 4 boolT)).set 0 emp) :: src b cv :: L)).trans (Cv.putB 0 (by have := hss.1; omega)))⟩
          · refine RH.pv rfl (fun _ _ _ _ h => h) (Gh.le_refl _) PickC.pick rfl (PV.sub rfl rfl rfl (by omega)) ?_
            refine RH.ot2 rfl rfl rfl rfl  (OT.pv (PV.loadE1 rfl Sc92 rfl rfl (El.o (getG (by omega))) rfl) ⟨Gh.le_refl _, PickC.pick, ?_⟩) (OT.callF (vs := [_, _]) rfl En131 rfl (CallT.exC (src b cv) (next_s hcode (by omega) (fun w48 hw48 => ⟨Gh.le_refl _, PickC.pick, ?_⟩))))
            · refine RH.ot rfl rfl (OT.callF (vs := [_, _]) rfl En131 rfl (CallT.exC (src b cv) (next_s hcode (by omega) (fun w48 hw48 => ⟨Gh.le_refl _, PickC.pick, ?_⟩))))
              refine RH.pv rfl (fun _ _ _ _ h => h) (Gh.le_refl _) PickC.pick rfl (PV.add rfl rfl rfl (by omega)) ?_
              refine RH.pv rfl (fun _ _ _ _ h => h) (Gh.le_refl _) PickC.pick rfl (PV.build (vs := [(0, [vi _]), (1, [vi _]), (2, [vi _]), (3, [vi _])]) (out := [_, _, _, _]) rfl Zr81 Pl81 ⟨rfl, (Cl.c rfl), ⟨rfl, (Cl.c rfl), ⟨rfl, (Cl.c rfl), ⟨rfl, (Cl.c rfl), trivial⟩⟩⟩⟩ rfl) ?_
              refine RH.ot rfl rfl (OT.callF (vs := [(gd ss 0).v, _]) rfl En193 rfl (CallT.exS (gd ss 0).v (fill_s (r := ⟨-9, 8 * m - 4, 9 - w43, 8 * m - 4 + 1 + w48⟩) (hss.2 0 (by omega)) (validR_iff.2 (by simp only; omega)) (fun D' hD' hg' => ⟨Gh.le_refl _, PickC.pick, ?_⟩))))
              refine RH.ot rfl rfl (OT.pv (PV.idxS (j := 0) (v := q) rfl Is186 rfl SlF.o rfl (by omega) (by omega)) ⟨Gh.le_refl _, PickC.pick, ?_⟩)
              refine RH.ot rfl rfl (OT.storeE (v := (gd ss 0).v) (a := ⟨(gd ss 0).v, D'⟩) (F := (slT (α := Bool))) rfl Sz92 rfl rfl rfl (Cl.s (v := (gd ss 0).v) SlF.o) (OneC.sl SlF.o OneC.nil) (by omega) ⟨Gh.le_refl _, PickC.pick, ?_⟩)
              refine RH.nil ?_
              exact ⟨rfl, (ss.set 0 ⟨(gd ss 0).v, D'⟩), (hss.set hD'), trivial, ⟨rfl, rfl, rfl, rfl, rfl, trivial⟩, ((Cv.p (C := osl 4 boolT (gd ss 0).v D' :: osl 92 slT q (ss.set 0 ⟨(gd ss 0).v, D'⟩) :: bag ((ss.map (ownS 4 boolT)).set 0 emp) :: src b cv :: L)).trans (Cv.putB 0 (by have := hss.1; omega)))⟩
            · refine RH.pv rfl (fun _ _ _ _ h => h) (Gh.le_refl _) PickC.pick rfl (PV.add rfl rfl rfl (by omega)) ?_
              refine RH.pv rfl (fun _ _ _ _ h => h) (Gh.le_refl _) PickC.pick rfl (PV.build (vs := [(0, [vi _]), (1, [vi _]), (2, [vi _]), (3, [vi _])]) (out := [_, _, _, _]) rfl Zr81 Pl81 ⟨rfl, (Cl.c rfl), ⟨rfl, (Cl.c rfl), ⟨rfl, (Cl.c rfl), ⟨rfl, (Cl.c rfl), trivial⟩⟩⟩⟩ rfl) ?_
              refine RH.ot rfl rfl (OT.pv (PV.loadE1 rfl Sc92 rfl rfl (El.o (getG (by omega))) rfl) ⟨Gh.le_refl _, PickC.pick, ?_⟩)
              refine RH.ot rfl rfl (OT.callF (vs := [(gd ss 0).v, _]) rfl En193 rfl (CallT.exS (gd ss 0).v (fill_s (r := ⟨-9, 8 * m - 4, 9 - w43, 8 * m - 4 + 1 + w48⟩) (hss.2 0 (by omega)) (validR_iff.2 (by simp only; omega)) (fun D' hD' hg' => ⟨Gh.le_refl _, PickC.pick, ?_⟩))))
              refine RH.ot rfl rfl (OT.pv (PV.idxS (j := 0) (v := q) rfl Is186 rfl SlF.o rfl (by omega) (by omega)) ⟨Gh.le_refl _, PickC.pick, ?_⟩)
              refine RH.ot rfl rfl (OT.storeE (v := (gd ss 0).v) (a := ⟨(gd ss 0).v, D'⟩) (F := (slT (α := Bool))) rfl Sz92 rfl rfl rfl (Cl.s (v := (gd ss 0).v) SlF.o) (OneC.sl SlF.o OneC.nil) (by omega) ⟨Gh.le_refl _, PickC.pick, ?_⟩)
              refine RH.nil ?_
              exact ⟨rfl, (ss.set 0 ⟨(gd ss 0).v, D'⟩), (hss.set hD'), trivial, ⟨rfl, rfl, rfl, rfl, rfl, trivial⟩, ((Cv.p (C := osl 4 boolT (gd ss 0).v D' :: osl 92 slT q (ss.set 0 ⟨(gd ss 0).v, D'⟩) :: bag ((ss.map (ownS 4 boolT)).set 0 emp) :: src b cv :: L)).trans (Cv.putB 0 (by have := hss.1; omega)))⟩
        · refine RH.pv rfl (fun _ _ _ _ h => h) (Gh.le_refl _) PickC.pick rfl (PV.sub rfl rfl rfl (by omega)) ?_
          refine RH.ot2 rfl rfl rfl rfl  (OT.pv (PV.idxS (j := 0) (v := q) rfl Is186 rfl SlF.o rfl (by omega) (by omega)) ⟨Gh.le_refl _, PickC.pick, ?_⟩) (OT.callF (vs := [_, _]) rfl En131 rfl (CallT.exC (src b cv) (next_s hcode (by omega) (fun w48 hw48 => ⟨Gh.le_refl _, PickC.pick, ?_⟩))))
          · refine RH.ot2 rfl rfl rfl rfl  (OT.pv (PV.loadE1 rfl Sc92 rfl rfl (El.o (getG (by omega))) rfl) ⟨Gh.le_refl _, PickC.pick, ?_⟩) (OT.callF (vs := [_, _]) rfl En131 rfl (CallT.exC (src b cv) (next_s hcode (by omega) (fun w48 hw48 => ⟨Gh.le_refl _, PickC.pick, ?_⟩))))
            · refine RH.ot rfl rfl (OT.callF (vs := [_, _]) rfl En131 rfl (CallT.exC (src b cv) (next_s hcode (by omega) (fun w48 hw48 => ⟨Gh.le_refl _, PickC.pick, ?_⟩))))
              refine RH.pv rfl (fun _ _ _ _ h => h) (Gh.le_refl _) PickC.pick rfl (PV.add rfl rfl rfl (by omega)) ?_
              refine RH.pv rfl (fun _ _ _ _ h => h) (Gh.le_refl _) PickC.pick rfl (PV.build (vs := [(0, [vi _]), (1, [vi _]), (2, [vi _]), (3, [vi _])]) (out := [_, _, _, _]) rfl Zr81 Pl81 ⟨rfl, (Cl.c rfl), ⟨rfl, (Cl.c rfl), ⟨rfl, (Cl.c rfl), ⟨rfl, (Cl.c rfl), trivial⟩⟩⟩⟩ rfl) ?_
              refine RH.ot rfl rfl (OT.callF (vs := [(gd ss 0).v, _]) rfl En193 rfl (CallT.exS (gd ss 0).v (fill_s (r := ⟨-9, 8 * m - 4, 9 - w43, 8 * m - 4 + 1 + w48⟩) (hss.2 0 (by omega)) (validR_iff.2 (by simp only; omega)) (fun D' hD' hg' => ⟨Gh.le_refl _, PickC.pick, ?_⟩))))
              refine RH.ot rfl rfl (OT.pv (PV.idxS (j := 0) (v := q) rfl Is186 rfl SlF.o rfl (by omega) (by omega)) ⟨Gh.le_refl _, PickC.pick, ?_⟩)
              refine RH.ot rfl rfl (OT.storeE (v := (gd ss 0).v) (a := ⟨(gd ss 0).v, D'⟩) (F := (slT (α := Bool))) rfl Sz92 rfl rfl rfl (Cl.s (v := (gd ss 0).v) SlF.o) (OneC.sl SlF.o OneC.nil) (by omega) ⟨Gh.le_refl _, PickC.pick, ?_⟩)
              refine RH.nil ?_
              exact ⟨rfl, (ss.set 0 ⟨(gd ss 0).v, D'⟩), (hss.set hD'), trivial, ⟨rfl, rfl, rfl, rfl, rfl, trivial⟩, ((Cv.p (C := osl 4 boolT (gd ss 0).v D' :: osl 92 slT q (ss.set 0 ⟨(gd ss 0).v, D'⟩) :: bag ((ss.map (ownS 4 boolT)).set 0 emp) :: src b cv :: L)).trans (Cv.putB 0 (by have := hss.1; omega)))⟩
            · refine RH.pv rfl (fun _ _ _ _ h => h) (Gh.le_refl _) PickC.pick rfl (PV.add rfl rfl rfl (by omega)) ?_
              refine RH.pv rfl (fun _ _ _ _ h => h) (Gh.le_refl _) PickC.pick rfl (PV.build (vs := [(0, [vi _]), (1, [vi _]), (2, [vi _]), (3, [vi _])]) (out := [_, _, _, _]) rfl Zr81 Pl81 ⟨rfl, (Cl.c rfl), ⟨rfl, (Cl.c rfl), ⟨rfl, (Cl.c rfl), ⟨rfl, (Cl.c rfl), trivial⟩⟩⟩⟩ rfl) ?_
              refine RH.ot rfl rfl (OT.pv (PV.loadE1 rfl Sc92 rfl rfl (El.o (getG (by omega))) rfl) ⟨Gh.le_refl _, PickC.pick, ?_⟩)
              refine RH.ot rfl rfl (OT.callF (vs := [(gd ss 0).v, _]) rfl En193 rfl (CallT.exS (gd ss 0).v (fill_s (r := ⟨-9, 8 * m - 4, 9 - w43, 8 * m - 4 + 1 + w48⟩) (hss.2 0 (by omega)) (validR_iff.2 (by simp only; omega)) (fun D' hD' hg' => ⟨Gh.le_refl _, PickC.pick, ?_⟩))))
              refine RH.ot rfl rfl (OT.pv (PV.idxS (j := 0) (v := q) rfl Is186 rfl SlF.o rfl (by omega) (by omega)) ⟨Gh.le_refl _, PickC.pick, ?_⟩)
              refine RH.ot rfl rfl (OT.storeE (v := (gd ss 0).v) (a := ⟨(gd ss 0).v, D'⟩) (F := (slT (α := Bool))) rfl Sz92 rfl rfl rfl (Cl.s (v := (gd ss 0).v) SlF.o) (OneC.sl SlF.o OneC.nil) (by omega) ⟨Gh.le_refl _, PickC.pick, ?_⟩)
              refine RH.nil ?_
              exact ⟨rfl, (ss.set 0 ⟨(gd ss 0).v, D'⟩), (hss.set hD'), trivial, ⟨rfl, rfl, rfl, rfl, rfl, trivial⟩, ((Cv.p (C := osl 4 boolT (gd ss 0).v D' :: osl 92 slT q (ss.set 0 ⟨(gd ss 0).v, D'⟩) :: bag ((ss.map (ownS 4 boolT)).set 0 emp) :: src b cv :: L)).trans (Cv.putB 0 (by have := hss.1; omega)))⟩
          · refine RH.pv rfl (fun _ _ _ _ h => h) (Gh.le_refl _) PickC.pick rfl (PV.add rfl rfl rfl (by omega)) ?_
            refine RH.pv rfl (fun _ _ _ _ h => h) (Gh.le_refl _) PickC.pick rfl (PV.build (vs := [(0, [vi _]), (1, [vi _]), (2, [vi _]), (3, [vi _])]) (out := [_, _, _, _]) rfl Zr81 Pl81 ⟨rfl, (Cl.c rfl), ⟨rfl, (Cl.c rfl), ⟨rfl, (Cl.c rfl), ⟨rfl, (Cl.c rfl), trivial⟩⟩⟩⟩ rfl) ?_
            refine RH.ot rfl rfl (OT.pv (PV.idxS (j := 0) (v := q) rfl Is186 rfl SlF.o rfl (by omega) (by omega)) ⟨Gh.le_refl _, PickC.pick, ?_⟩)
            refine RH.ot rfl rfl (OT.pv (PV.loadE1 rfl Sc92 rfl rfl (El.o (getG (by omega))) rfl) ⟨Gh.le_refl _, PickC.pick, ?_⟩)
            refine RH.ot rfl rfl (OT.callF (vs := [(gd ss 0).v, _]) rfl En193 rfl (CallT.exS (gd ss 0).v (fill_s (r := ⟨-9, 8 * m - 4, 9 - w43, 8 * m - 4 + 1 + w48⟩) (hss.2 0 (by omega)) (validR_iff.2 (by simp only; omega)) (fun D' hD' hg' => ⟨Gh.le_refl _, PickC.pick, ?_⟩))))
            refine RH.ot rfl rfl (OT.pv (PV.idxS (j := 0) (v := q) rfl Is186 rfl SlF.o rfl (by omega) (by omega)) ⟨Gh.le_refl _, PickC.pick, ?_⟩)
            refine RH.ot rfl rfl (OT.storeE (v := (gd ss 0).v) (a := ⟨(gd ss 0).v, D'⟩) (F := (slT (α := Bool))) rfl Sz92 rfl rfl rfl (Cl.s (v := (gd ss 0).v) SlF.o) (OneC.sl SlF.o OneC.nil) (by omega) ⟨Gh.le_refl _, PickC.pick, ?_⟩)
            refine RH.nil ?_
            exact ⟨rfl, (ss.set 0 ⟨(gd ss 0).v, D'⟩), (hss.set hD'), trivial, ⟨rfl, rfl, rfl, rfl, rfl, trivial⟩, ((Cv.p (C := osl 4 boolT (gd ss 0).v D' :: osl 92 slT q (ss.set 0 ⟨(gd ss 0).v, D'⟩) :: bag ((ss.map (ownS 4 boolT)).set 0 emp) :: src b cv :: L)).trans (Cv.putB 0 (by have := hss.1; omega)))⟩
      rintro ss1 τ2 hss1
      have hsl1 := hss1.1
      refine WP.seq ?_
      refine WP.region ?_
      refine RG.pv rfl (PV.move rfl rfl) ?_
      refine RG.callF (vs := [_, _]) rfl rfl En131 rfl (CallT.exC (src b cv) (next_s hcode (by omega) (fun w54 hw54 => ?_)))
      refine RG.pv rfl (PV.eql rfl rfl rfl) ?_
      refine RG.nil ?_
      refine WP.cond rfl (fun h3 => ?_) (fun h3 => ?_)
      · refine WP.cv ((Cv.p (C := osl 92 slT q ss1 :: bagS 4 boolT ss1 :: src b cv :: L)).trans (Cv.cons (Cv.bagS_take 6 (by have := hss1.1; omega)))) ?_
        refine WP.regionHD [.s q, .s (gd ss1 6).v] (.q 0 (.q 1 (.q 4 (.q 5 (.q 6 (.q 10 (.q 11 (.b 2 (.b 3 (.l 7 (.q 8 (.q 9 (.q 12 (.l 13 (.l 14 (.l 15 Sch.nil))))))) 7 (.q 8 (.q 9 (.q 12 (.l 3 (.l 13 (.l 14 (.l 15 Sch.nil)))))))) 7 (.q 8 (.q 9 (.q 12 (.l 2 (.l 3 (.l 13 (.l 14 (.l 15 Sch.nil)))))))))))))))) (by kernel_rfl) (by kernel_rfl) (by kernel_rfl) rfl ?_
        refine RH.pv rfl (fun _ _ _ _ h => h) (Gh.le_refl _) PickC.pick rfl (PV.move (v := q) rfl rfl) ?_
        refine RH.pv rfl (fun _ _ _ _ h => h) (Gh.le_refl _) PickC.pick rfl (PV.move (v := q) rfl rfl) ?_
        refine RH.pv rfl (fun _ _ _ _ h => h) (Gh.le_refl _) PickC.pick rfl (PV.mvI (.inl rfl) rfl) ?_
        refine RH.pv rfl (fun _ _ _ _ h => h) (Gh.le_refl _) PickC.pick rfl (PV.sub rfl rfl rfl (by omega)) ?_
        refine RH.pv rfl (fun _ _ _ _ h => h) (Gh.le_refl _) PickC.pick rfl (PV.move rfl rfl) ?_
        refine RH.pv rfl (fun _ _ _ _ h => h) (Gh.le_refl _) PickC.pick rfl (PV.mvI (.inl rfl) rfl) ?_
        refine RH.pv rfl (fun _ _ _ _ h => h) (Gh.le_refl _) PickC.pick rfl (PV.add rfl rfl rfl (by omega)) ?_
        refine RH.ot2 rfl rfl rfl rfl  (OT.pv (PV.idxS (j := 6) (v := q) rfl Is186 rfl SlF.o rfl (by omega) (by omega)) ⟨Gh.le_refl _, PickC.pick, ?_⟩) (OT.callF (vs := [_, _]) rfl En131 rfl (CallT.exC (src b cv) (next_s hcode (by omega) (fun w63 hw63 => ⟨Gh.le_refl _, PickC.pick, ?_⟩))))
        · refine RH.ot2 rfl rfl rfl rfl  (OT.pv (PV.loadE1 rfl Sc92 rfl rfl (El.o (getG (by omega))) rfl) ⟨Gh.le_refl _, PickC.pick, ?_⟩) (OT.callF (vs := [_, _]) rfl En131 rfl (CallT.exC (src b cv) (next_s hcode (by omega) (fun w63 hw63 => ⟨Gh.le_refl _, PickC.pick, ?_⟩))))
          · refine RH.ot rfl rfl (OT.callF (vs := [_, _]) rfl En131 rfl (CallT.exC (src b cv) (next_s hcode (by omega) (fun w63 hw63 => ⟨Gh.le_refl _, PickC.pick, ?_⟩))))
            refine RH.pv rfl (fun _ _ _ _ h => h) (Gh.le_refl _) PickC.pick rfl (PV.mul rfl rfl rfl (by omega)) ?_
            refine RH.pv rfl (fun _ _ _ _ h => h) (Gh.le_refl _) PickC.pick rfl (PV.sub rfl rfl rfl (by omega)) ?_
            refine RH.pv rfl (fun _ _ _ _ h => h) (Gh.le_refl _) PickC.pick rfl (PV.build (vs := [(0, [vi _]), (1, [vi _]), (2, [vi _]), (3, [vi _])]) (out := [_, _, _, _]) rfl Zr81 Pl81 ⟨rfl, (Cl.c rfl), ⟨rfl, (Cl.c rfl), ⟨rfl, (Cl.c rfl), ⟨rfl, (Cl.c rfl), trivial⟩⟩⟩⟩ rfl) ?_
            refine RH.ot rfl rfl (OT.callF (vs := [(gd ss1 6).v, _]) rfl En193 rfl (CallT.exS (gd ss1 6).v (fill_s (r := ⟨-10, 8 * m - 4 - 1, 10 - 8 * w63, 8 * m - 4 + 5⟩) (hss1.2 6 (by omega)) (validR_iff.2 (by simp only; omega)) (fun D' hD' hg' => ⟨Gh.le_refl _, PickC.pick, ?_⟩))))
            refine RH.ot rfl rfl (OT.pv (PV.idxS (j := 6) (v := q) rfl Is186 rfl SlF.o rfl (by omega) (by omega)) ⟨Gh.le_refl _, PickC.pick, ?_⟩)
            refine RH.ot rfl rfl (OT.storeE (v := (gd ss1 6).v) (a := ⟨(gd ss1 6).v, D'⟩) (F := (slT (α := Bool))) rfl Sz92 rfl rfl rfl (Cl.s (v := (gd ss1 6).v) SlF.o) (OneC.sl SlF.o OneC.nil) (by omega) ⟨Gh.le_refl _, PickC.pick, ?_⟩)
            refine RH.nil ?_
            refine WP.region ?_
            refine RG.pv rfl (PV.mvI (.inl rfl) rfl) ?_
            refine RG.pv rfl (PV.add rfl rfl rfl (by omega)) ?_
            refine RG.pv rfl (PV.mvI (.inr rfl) rfl) ?_
            refine RG.nil ?_
            exact ⟨rfl, m + 1, (ss1.set 6 ⟨(gd ss1 6).v, D'⟩), ⟨by omega, by omega, hss1.set hD'⟩, ⟨rfl, trivial⟩, ⟨rfl, rfl, rfl, trivial⟩, ((Cv.p (C := osl 4 boolT (gd ss1 6).v D' :: osl 92 slT q (ss1.set 6 ⟨(gd ss1 6).v, D'⟩) :: bag ((ss1.map (ownS 4 boolT)).set 6 emp) :: src b cv :: L)).trans (Cv.putB 6 (by have := hss1.1; omega))), by omega⟩
          · refine RH.pv rfl (fun _ _ _ _ h => h) (Gh.le_refl _) PickC.pick rfl (PV.mul rfl rfl rfl (by omega)) ?_
            refine RH.pv rfl (fun _ _ _ _ h => h) (Gh.le_refl _) PickC.pick rfl (PV.sub rfl rfl rfl (by omega)) ?_
            refine RH.pv rfl (fun _ _ _ _ h => h) (Gh.le_refl _) PickC.pick rfl (PV.build (vs := [(0, [vi _]), (1, [vi _]), (2, [vi _]), (3, [vi _])]) (out := [_, _, _, _]) rfl Zr81 Pl81 ⟨rfl, (Cl.c rfl), ⟨rfl, (Cl.c rfl), ⟨rfl, (Cl.c rfl), ⟨rfl, (Cl.c rfl), trivial⟩⟩⟩⟩ rfl) ?_
            refine RH.ot rfl rfl (OT.pv (PV.loadE1 rfl Sc92 rfl rfl (El.o (getG (by omega))) rfl) ⟨Gh.le_refl _, PickC.pick, ?_⟩)
            refine RH.ot rfl rfl (OT.callF (vs := [(gd ss1 6).v, _]) rfl En193 rfl (CallT.exS (gd ss1 6).v (fill_s (r := ⟨-10, 8 * m - 4 - 1, 10 - 8 * w63, 8 * m - 4 + 5⟩) (hss1.2 6 (by omega)) (validR_iff.2 (by simp only; omega)) (fun D' hD' hg' => ⟨Gh.le_refl _, PickC.pick, ?_⟩))))
            refine RH.ot rfl rfl (OT.pv (PV.idxS (j := 6) (v := q) rfl Is186 rfl SlF.o rfl (by omega) (by omega)) ⟨Gh.le_refl _, PickC.pick, ?_⟩)
            refine RH.ot rfl rfl (OT.storeE (v := (gd ss1 6).v) (a := ⟨(gd ss1 6).v, D'⟩) (F := (slT (α := Bool))) rfl Sz92 rfl rfl rfl (Cl.s (v := (gd ss1 6).v) SlF.o) (OneC.sl SlF.o OneC.nil) (by omega) ⟨Gh.le_refl _, PickC.pick, ?_⟩)
            refine RH.nil ?_
            refine WP.region ?_
            refine RG.pv rfl (PV.mvI (.inl rfl) rfl) ?_
            refine RG.pv rfl (PV.add rfl rfl rfl (by omega)) ?_
            refine RG.pv rfl (PV.mvI (.inr rfl) rfl) ?_
            refine RG.nil ?_
            exact ⟨rfl, m + 1, (ss1.set 6 ⟨(gd ss1 6).v, D'⟩), ⟨by omega, by omega, hss1.set hD'⟩, ⟨rfl, trivial⟩, ⟨rfl, rfl, rfl, trivial⟩, ((Cv.p (C := osl 4 boolT (gd ss1 6).v D' :: osl 92 slT q (ss1.set 6 ⟨(gd ss1 6).v, D'⟩) :: bag ((ss1.map (ownS 4 boolT)).set 6 emp) :: src b cv :: L)).trans (Cv.putB 6 (by have := hss1.1; omega))), by omega⟩
        · refine RH.pv rfl (fun _ _ _ _ h => h) (Gh.le_refl _) PickC.pick rfl (PV.mul rfl rfl rfl (by omega)) ?_
          refine RH.pv rfl (fun _ _ _ _ h => h) (Gh.le_refl _) PickC.pick rfl (PV.sub rfl rfl rfl (by omega)) ?_
          refine RH.pv rfl (fun _ _ _ _ h => h) (Gh.le_refl _) PickC.pick rfl (PV.build (vs := [(0, [vi _]), (1, [vi _]), (2, [vi _]), (3, [vi _])]) (out := [_, _, _, _]) rfl Zr81 Pl81 ⟨rfl, (Cl.c rfl), ⟨rfl, (Cl.c rfl), ⟨rfl, (Cl.c rfl), ⟨rfl, (Cl.c rfl), trivial⟩⟩⟩⟩ rfl) ?_
          refine RH.ot rfl rfl (OT.pv (PV.idxS (j := 6) (v := q) rfl Is186 rfl SlF.o rfl (by omega) (by omega)) ⟨Gh.le_refl _, PickC.pick, ?_⟩)
          refine RH.ot rfl rfl (OT.pv (PV.loadE1 rfl Sc92 rfl rfl (El.o (getG (by omega))) rfl) ⟨Gh.le_refl _, PickC.pick, ?_⟩)
          refine RH.ot rfl rfl (OT.callF (vs := [(gd ss1 6).v, _]) rfl En193 rfl (CallT.exS (gd ss1 6).v (fill_s (r := ⟨-10, 8 * m - 4 - 1, 10 - 8 * w63, 8 * m - 4 + 5⟩) (hss1.2 6 (by omega)) (validR_iff.2 (by simp only; omega)) (fun D' hD' hg' => ⟨Gh.le_refl _, PickC.pick, ?_⟩))))
          refine RH.ot rfl rfl (OT.pv (PV.idxS (j := 6) (v := q) rfl Is186 rfl SlF.o rfl (by omega) (by omega)) ⟨Gh.le_refl _, PickC.pick, ?_⟩)
          refine RH.ot rfl rfl (OT.storeE (v := (gd ss1 6).v) (a := ⟨(gd ss1 6).v, D'⟩) (F := (slT (α := Bool))) rfl Sz92 rfl rfl rfl (Cl.s (v := (gd ss1 6).v) SlF.o) (OneC.sl SlF.o OneC.nil) (by omega) ⟨Gh.le_refl _, PickC.pick, ?_⟩)
          refine RH.nil ?_
          refine WP.region ?_
          refine RG.pv rfl (PV.mvI (.inl rfl) rfl) ?_
          refine RG.pv rfl (PV.add rfl rfl rfl (by omega)) ?_
          refine RG.pv rfl (PV.mvI (.inr rfl) rfl) ?_
          refine RG.nil ?_
          exact ⟨rfl, m + 1, (ss1.set 6 ⟨(gd ss1 6).v, D'⟩), ⟨by omega, by omega, hss1.set hD'⟩, ⟨rfl, trivial⟩, ⟨rfl, rfl, rfl, trivial⟩, ((Cv.p (C := osl 4 boolT (gd ss1 6).v D' :: osl 92 slT q (ss1.set 6 ⟨(gd ss1 6).v, D'⟩) :: bag ((ss1.map (ownS 4 boolT)).set 6 emp) :: src b cv :: L)).trans (Cv.putB 6 (by have := hss1.1; omega))), by omega⟩
      · refine WP.skip ?_
        refine WP.region ?_
        refine RG.pv rfl (PV.mvI (.inl rfl) rfl) ?_
        refine RG.pv rfl (PV.add rfl rfl rfl (by omega)) ?_
        refine RG.pv rfl (PV.mvI (.inr rfl) rfl) ?_
        refine RG.nil ?_
        exact ⟨rfl, m + 1, ss1, ⟨by omega, by omega, hss1⟩, ⟨rfl, trivial⟩, ⟨rfl, rfl, rfl, trivial⟩, Cv.p, by omega⟩
    · have h2 := of_decide_eq_false h2
      refine WP.exit ?_
      refine WP.seq ?_
      refine WP.seq ?_
      refine WP.region ?_
      refine RG.pv rfl (PV.move rfl rfl) ?_
      refine RG.callF (vs := [_, _]) rfl rfl En131 rfl (CallT.exC (src b cv) (next_s hcode (by omega) (fun w72 hw72 => ?_)))
      refine RG.pv rfl (PV.add rfl rfl rfl (by omega)) ?_
      refine RG.pv rfl (PV.mvI (.inr rfl) rfl) ?_
      refine RG.nil ?_
      refine WP.block ?_
      refine WP.loop2 [0, 3, 5] (fun (j : Int) (ss : List (Sl Bool)) => j ≤ 2 ∧ Sets ss) (fun (j : Int) (ss : List (Sl Bool)) => [(8, vi j)]) (fun (j : Int) (ss : List (Sl Bool)) => osl 92 slT q ss :: bagS 4 boolT ss :: src b cv :: L) (fun (j : Int) (ss : List (Sl Bool)) => j.toNat) (1 + w72) ss ⟨by omega, hss⟩ ⟨rfl, trivial⟩ Cv.p ?_
      rintro j ss τ3 ⟨hj, hss⟩
      refine WP.seq ?_
      refine WP.seq ?_
      refine WP.region ?_
      refine RG.pv rfl (PV.mvI (.inl rfl) rfl) ?_
      refine RG.pv rfl (PV.gtr rfl rfl rfl) ?_
      refine RG.nil ?_
      refine WP.cond rfl (fun h4 => ?_) (fun h4 => ?_)
      · have h4 := of_decide_eq_true h4
        have hsl := hss.1
        refine WP.cv ((Cv.p (C := osl 92 slT q ss :: bagS 4 boolT ss :: src b cv :: L)).trans (Cv.cons (Cv.bagS_take 1 (by have := hss.1; omega)))) ?_
        refine WP.skip ?_
        refine WP.seq ?_
        refine WP.block ?_
        refine WP.seq ?_
        refine WP.region ?_
        refine RG.pv rfl (PV.move rfl rfl) ?_
        refine RG.callF (vs := [_, _]) rfl rfl En131 rfl (CallT.exC (src b cv) (next_s hcode (by omega) (fun w79 hw79 => ?_)))
        refine RG.pv rfl (PV.mul rfl rfl rfl (by omega)) ?_
        refine RG.pv rfl (PV.sub rfl rfl rfl (by omega)) ?_
        refine RG.pv rfl (PV.mvI (.inr rfl) rfl) ?_
        refine RG.nil ?_
        refine WP.seq ?_
        refine WP.region ?_
        refine RG.pv rfl (PV.mvI (.inr rfl) rfl) ?_
        refine RG.nil ?_
        refine WP.seq ?_
        refine WP.region ?_
        refine RG.pv rfl (PV.mvI (.inl rfl) rfl) ?_
        refine RG.pv rfl (PV.mul rfl rfl rfl (by omega)) ?_
        refine RG.pv rfl (PV.sub rfl rfl rfl (by omega)) ?_
        refine RG.pv rfl (PV.mvI (.inr rfl) rfl) ?_
        refine RG.nil ?_
        refine WP.cut1 [0, 3, 5, 8, 9, 10] (fun (hi2 : Int) => -6 < hi2 ∧ hi2 ≤ 14) (fun (hi2 : Int) => [(11, vi hi2)]) (fun (hi2 : Int) => osl 92 slT q ss :: osl 4 boolT (gd ss 1).v (gd ss 1).xs :: bag ((ss.map (ownS 4 boolT)).set 1 emp) :: src b cv :: L) ?_ ?_
        refine WP.seq ?_
        refine WP.region ?_
        refine RG.pv rfl (PV.move rfl rfl) ?_
        refine RG.callF (vs := [_, _]) rfl rfl En131 rfl (CallT.exC (src b cv) (next_s hcode (by omega) (fun w86 hw86 => ?_)))
        refine RG.pv rfl (PV.eql rfl rfl rfl) ?_
        refine RG.nil ?_
        · refine WP.cond rfl (fun h5 => ?_) (fun h5 => ?_)
          · refine WP.region ?_
            refine RG.pv rfl (PV.mvI (.inr rfl) rfl) ?_
            refine RG.nil ?_
            exact ⟨rfl, 2, (by omega), ⟨rfl, trivial⟩, ⟨rfl, rfl, rfl, rfl, rfl, rfl, trivial⟩, Cv.p⟩
          · refine WP.skip ?_
            exact ⟨rfl, _, (by omega), ⟨rfl, trivial⟩, ⟨rfl, rfl, rfl, rfl, rfl, rfl, trivial⟩, Cv.p⟩
        rintro hi2 τ4 hh
        refine WP.regionHD [.s q, .s (gd ss 1).v] (.q 0 (.q 1 (.q 4 (.q 5 (.q 6 (.q 7 (.q 8 (.q 11 (.b 2 (.b 3 (.l 9 (.q 10 (.q 12 (.l 13 (.l 14 (.l 15 Sch.nil)))))) 9 (.q 10 (.q 12 (.l 3 (.l 13 (.l 14 (.l 15 Sch.nil))))))) 9 (.q 10 (.q 12 (.l 2 (.l 3 (.l 13 (.l 14 (.l 15 Sch.nil)))))))))))))))) (by kernel_rfl) (by kernel_rfl) (by kernel_rfl) rfl ?_
        refine RH.pv rfl (fun _ _ _ _ h => h) (Gh.le_refl _) PickC.pick rfl (PV.move (v := q) rfl rfl) ?_
        refine RH.pv rfl (fun _ _ _ _ h => h) (Gh.le_refl _) PickC.pick rfl (PV.move (v := q) rfl rfl) ?_
        refine RH.pv rfl (fun _ _ _ _ h => h) (Gh.le_refl _) PickC.pick rfl (PV.mvI (.inl rfl) rfl) ?_
        refine RH.pv rfl (fun _ _ _ _ h => h) (Gh.le_refl _) PickC.pick rfl (PV.mvI (.inl rfl) rfl) ?_
        refine RH.pv rfl (fun _ _ _ _ h => h) (Gh.le_refl _) PickC.pick rfl (PV.mvI (.inl rfl) rfl) ?_
        refine RH.pv rfl (fun _ _ _ _ h => h) (Gh.le_refl _) PickC.pick rfl (PV.add rfl rfl rfl (by omega)) ?_
        refine RH.pv rfl (fun _ _ _ _ h => h) (Gh.le_refl _) PickC.pick rfl (PV.move rfl rfl) ?_
        refine RH.pv rfl (fun _ _ _ _ h => h) (Gh.le_refl _) PickC.pick rfl (PV.mvI (.inl rfl) rfl) ?_
        refine RH.ot2 rfl rfl rfl rfl  (OT.pv (PV.idxS (j := 1) (v := q) rfl Is186 rfl SlF.o rfl (by omega) (by omega)) ⟨Gh.le_refl _, PickC.pick, ?_⟩) (OT.callF (vs := [_, _]) rfl En131 rfl (CallT.exC (src b cv) (next_s hcode (by omega) (fun w97 hw97 => ⟨Gh.le_refl _, PickC.pick, ?_⟩))))
        · refine RH.ot2 rfl rfl rfl rfl  (OT.pv (PV.loadE1 rfl Sc92 rfl rfl (El.o (getG (by omega))) rfl) ⟨Gh.le_refl _, PickC.pick, ?_⟩) (OT.callF (vs := [_, _]) rfl En131 rfl (CallT.exC (src b cv) (next_s hcode (by omega) (fun w97 hw97 => ⟨Gh.le_refl _, PickC.pick, ?_⟩))))
          · refine RH.ot rfl rfl (OT.callF (vs := [_, _]) rfl En131 rfl (CallT.exC (src b cv) (next_s hcode (by omega) (fun w97 hw97 => ⟨Gh.le_refl _, PickC.pick, ?_⟩))))
            refine RH.pv rfl (fun _ _ _ _ h => h) (Gh.le_refl _) PickC.pick rfl (PV.add rfl rfl rfl (by omega)) ?_
            refine RH.pv rfl (fun _ _ _ _ h => h) (Gh.le_refl _) PickC.pick rfl (PV.build (vs := [(0, [vi _]), (1, [vi _]), (2, [vi _]), (3, [vi _])]) (out := [_, _, _, _]) rfl Zr81 Pl81 ⟨rfl, (Cl.c rfl), ⟨rfl, (Cl.c rfl), ⟨rfl, (Cl.c rfl), ⟨rfl, (Cl.c rfl), trivial⟩⟩⟩⟩ rfl) ?_
            refine RH.ot rfl rfl (OT.callF (vs := [(gd ss 1).v, _]) rfl En193 rfl (CallT.exS (gd ss 1).v (fill_s (r := ⟨4 * w79 - 7, -6, 4 * w79 - 7 + 1 + w97, hi2⟩) (hss.2 1 (by omega)) (validR_iff.2 (by simp only; omega)) (fun D' hD' hg' => ⟨Gh.le_refl _, PickC.pick, ?_⟩))))
            refine RH.ot rfl rfl (OT.pv (PV.idxS (j := 1) (v := q) rfl Is186 rfl SlF.o rfl (by omega) (by omega)) ⟨Gh.le_refl _, PickC.pick, ?_⟩)
            refine RH.ot rfl rfl (OT.storeE (v := (gd ss 1).v) (a := ⟨(gd ss 1).v, D'⟩) (F := (slT (α := Bool))) rfl Sz92 rfl rfl rfl (Cl.s (v := (gd ss 1).v) SlF.o) (OneC.sl SlF.o OneC.nil) (by omega) ⟨Gh.le_refl _, PickC.pick, ?_⟩)
            refine RH.nil ?_
            refine WP.region ?_
            refine RG.pv rfl (PV.mvI (.inl rfl) rfl) ?_
            refine RG.pv rfl (PV.sub rfl rfl rfl (by omega)) ?_
            refine RG.pv rfl (PV.mvI (.inr rfl) rfl) ?_
            refine RG.nil ?_
            exact ⟨rfl, j - 1, (ss.set 1 ⟨(gd ss 1).v, D'⟩), ⟨by omega, hss.set hD'⟩, ⟨rfl, trivial⟩, ⟨rfl, rfl, rfl, trivial⟩, ((Cv.p (C := osl 4 boolT (gd ss 1).v D' :: osl 92 slT q (ss.set 1 ⟨(gd ss 1).v, D'⟩) :: bag ((ss.map (ownS 4 boolT)).set 1 emp) :: src b cv :: L)).trans (Cv.putB 1 (by have := hss.1; omega))), by omega⟩
          · refine RH.pv rfl (fun _ _ _ _ h => h) (Gh.le_refl _) PickC.pick rfl (PV.add rfl rfl rfl (by omega)) ?_
            refine RH.pv rfl (fun _ _ _ _ h => h) (Gh.le_refl _) PickC.pick rfl (PV.build (vs := [(0, [vi _]), (1, [vi _]), (2, [vi _]), (3, [vi _])]) (out := [_, _, _, _]) rfl Zr81 Pl81 ⟨rfl, (Cl.c rfl), ⟨rfl, (Cl.c rfl), ⟨rfl, (Cl.c rfl), ⟨rfl, (Cl.c rfl), trivial⟩⟩⟩⟩ rfl) ?_
            refine RH.ot rfl rfl (OT.pv (PV.loadE1 rfl Sc92 rfl rfl (El.o (getG (by omega))) rfl) ⟨Gh.le_refl _, PickC.pick, ?_⟩)
            refine RH.ot rfl rfl (OT.callF (vs := [(gd ss 1).v, _]) rfl En193 rfl (CallT.exS (gd ss 1).v (fill_s (r := ⟨4 * w79 - 7, -6, 4 * w79 - 7 + 1 + w97, hi2⟩) (hss.2 1 (by omega)) (validR_iff.2 (by simp only; omega)) (fun D' hD' hg' => ⟨Gh.le_refl _, PickC.pick, ?_⟩))))
            refine RH.ot rfl rfl (OT.pv (PV.idxS (j := 1) (v := q) rfl Is186 rfl SlF.o rfl (by omega) (by omega)) ⟨Gh.le_refl _, PickC.pick, ?_⟩)
            refine RH.ot rfl rfl (OT.storeE (v := (gd ss 1).v) (a := ⟨(gd ss 1).v, D'⟩) (F := (slT (α := Bool))) rfl Sz92 rfl rfl rfl (Cl.s (v := (gd ss 1).v) SlF.o) (OneC.sl SlF.o OneC.nil) (by omega) ⟨Gh.le_refl _, PickC.pick, ?_⟩)
            refine RH.nil ?_
            refine WP.region ?_
            refine RG.pv rfl (PV.mvI (.inl rfl) rfl) ?_
            refine RG.pv rfl (PV.sub rfl rfl rfl (by omega)) ?_
            refine RG.pv rfl (PV.mvI (.inr rfl) rfl) ?_
            refine RG.nil ?_
            exact ⟨rfl, j - 1, (ss.set 1 ⟨(gd ss 1).v, D'⟩), ⟨by omega, hss.set hD'⟩, ⟨rfl, trivial⟩, ⟨rfl, rfl, rfl, trivial⟩, ((Cv.p (C := osl 4 boolT (gd ss 1).v D' :: osl 92 slT q (ss.set 1 ⟨(gd ss 1).v, D'⟩) :: bag ((ss.map (ownS 4 boolT)).set 1 emp) :: src b cv :: L)).trans (Cv.putB 1 (by have := hss.1; omega))), by omega⟩
        · refine RH.pv rfl (fun _ _ _ _ h => h) (Gh.le_refl _) PickC.pick rfl (PV.add rfl rfl rfl (by omega)) ?_
          refine RH.pv rfl (fun _ _ _ _ h => h) (Gh.le_refl _) PickC.pick rfl (PV.build (vs := [(0, [vi _]), (1, [vi _]), (2, [vi _]), (3, [vi _])]) (out := [_, _, _, _]) rfl Zr81 Pl81 ⟨rfl, (Cl.c rfl), ⟨rfl, (Cl.c rfl), ⟨rfl, (Cl.c rfl), ⟨rfl, (Cl.c rfl), trivial⟩⟩⟩⟩ rfl) ?_
          refine RH.ot rfl rfl (OT.pv (PV.idxS (j := 1) (v := q) rfl Is186 rfl SlF.o rfl (by omega) (by omega)) ⟨Gh.le_refl _, PickC.pick, ?_⟩)
          refine RH.ot rfl rfl (OT.pv (PV.loadE1 rfl Sc92 rfl rfl (El.o (getG (by omega))) rfl) ⟨Gh.le_refl _, PickC.pick, ?_⟩)
          refine RH.ot rfl rfl (OT.callF (vs := [(gd ss 1).v, _]) rfl En193 rfl (CallT.exS (gd ss 1).v (fill_s (r := ⟨4 * w79 - 7, -6, 4 * w79 - 7 + 1 + w97, hi2⟩) (hss.2 1 (by omega)) (validR_iff.2 (by simp only; omega)) (fun D' hD' hg' => ⟨Gh.le_refl _, PickC.pick, ?_⟩))))
          refine RH.ot rfl rfl (OT.pv (PV.idxS (j := 1) (v := q) rfl Is186 rfl SlF.o rfl (by omega) (by omega)) ⟨Gh.le_refl _, PickC.pick, ?_⟩)
          refine RH.ot rfl rfl (OT.storeE (v := (gd ss 1).v) (a := ⟨(gd ss 1).v, D'⟩) (F := (slT (α := Bool))) rfl Sz92 rfl rfl rfl (Cl.s (v := (gd ss 1).v) SlF.o) (OneC.sl SlF.o OneC.nil) (by omega) ⟨Gh.le_refl _, PickC.pick, ?_⟩)
          refine RH.nil ?_
          refine WP.region ?_
          refine RG.pv rfl (PV.mvI (.inl rfl) rfl) ?_
          refine RG.pv rfl (PV.sub rfl rfl rfl (by omega)) ?_
          refine RG.pv rfl (PV.mvI (.inr rfl) rfl) ?_
          refine RG.nil ?_
          exact ⟨rfl, j - 1, (ss.set 1 ⟨(gd ss 1).v, D'⟩), ⟨by omega, hss.set hD'⟩, ⟨rfl, trivial⟩, ⟨rfl, rfl, rfl, trivial⟩, ((Cv.p (C := osl 4 boolT (gd ss 1).v D' :: osl 92 slT q (ss.set 1 ⟨(gd ss 1).v, D'⟩) :: bag ((ss.map (ownS 4 boolT)).set 1 emp) :: src b cv :: L)).trans (Cv.putB 1 (by have := hss.1; omega))), by omega⟩
      · refine WP.exit ?_
        refine WP.seq ?_
        refine WP.seq ?_
        refine WP.region ?_
        refine RG.pv rfl (PV.move rfl rfl) ?_
        refine RG.callF (vs := [_, _]) rfl rfl En131 rfl (CallT.exC (src b cv) (next_s hcode (by omega) (fun w104 hw104 => ?_)))
        refine RG.pv rfl (PV.mvI (.inr rfl) rfl) ?_
        refine RG.nil ?_
        refine WP.block ?_
        refine WP.loop2 [0, 3] (fun (j : Int) (ss : List (Sl Bool)) => j ≤ 4 ∧ Sets ss) (fun (j : Int) (ss : List (Sl Bool)) => [(12, vi j)]) (fun (j : Int) (ss : List (Sl Bool)) => osl 92 slT q ss :: bagS 4 boolT ss :: src b cv :: L) (fun (j : Int) (ss : List (Sl Bool)) => j.toNat) w104 ss ⟨by omega, hss⟩ ⟨rfl, trivial⟩ Cv.p ?_
        rintro j ss τ5 ⟨hj, hss⟩
        refine WP.seq ?_
        refine WP.seq ?_
        refine WP.region ?_
        refine RG.pv rfl (PV.mvI (.inl rfl) rfl) ?_
        refine RG.pv rfl (PV.gtr rfl rfl rfl) ?_
        refine RG.nil ?_
        refine WP.cond rfl (fun h6 => ?_) (fun h6 => ?_)
        · have h6 := of_decide_eq_true h6
          have hsl := hss.1
          have hl4 : ([-4, 4, -6, -4] : List Int).length = 4 := rfl
          refine WP.skip ?_
          refine WP.seq ?_
          refine WP.block ?_
          refine WP.cut2 [0, 3, 12] (fun (x y : Int) => (-9 ≤ x ∧ x ≤ 7) ∧ (-6 ≤ y ∧ y ≤ 4)) (fun (x y : Int) => [(13, vi x), (14, vi y)]) (fun (x y : Int) => osl 92 slT q ss :: bagS 4 boolT ss :: src b cv :: L) ?_ ?_
          refine WP.regionH0 (.q 0 (.q 5 (.b 1 (.q 2 (.q 3 (.b 4 (.l 6 (.q 7 (.q 8 (.q 9 (.q 10 Sch.nil))))) 6 (.q 9 (.l 4 (.q 7 (.q 8 (.q 10 Sch.nil)))))))) 4 (.l 1 (.q 2 (.q 3 (.l 6 (.q 7 (.q 8 (.q 9 (.q 10 Sch.nil))))))))))) (by kernel_rfl) (by kernel_rfl) (by kernel_rfl) rfl ?_
          refine RH.pv rfl (fun _ _ _ _ h => h) (Gh.le_refl _) PickC.pick rfl (PV.move rfl rfl) ?_
          refine RH.pv rfl (fun _ _ _ _ h => h) (Gh.le_refl _) PickC.pick rfl (PV.move rfl rfl) ?_
          · refine RH.ot2 rfl rfl rfl rfl  (OT.callF (vs := [_, _]) rfl En131 rfl (CallT.exC (src b cv) (next_s hcode (by omega) (fun w110 hw110 => ⟨Gh.le_refl _, PickC.pick, ?_⟩)))) (OT.bslice (F := intT) (els := [_, _, _, _]) rfl El116 rfl (by decide) rfl (by decide) ⟨rfl, (Cl.c rfl), ⟨rfl, (Cl.c rfl), ⟨rfl, (Cl.c rfl), ⟨rfl, (Cl.c rfl), trivial⟩⟩⟩⟩ fun v113 => ⟨Gh.le_refl _, PickC.pick, ?_⟩)
            · refine RH.pv rfl (fun _ _ _ _ h => h) (Gh.le_refl _) PickC.pick rfl (PV.mul rfl rfl rfl (by omega)) ?_
              refine RH.pv rfl (fun _ _ _ _ h => h) (Gh.le_refl _) PickC.pick rfl (PV.sub rfl rfl rfl (by omega)) ?_
              refine RH.ot2 rfl rfl rfl rfl  (OT.bslice (F := intT) (els := [_, _, _, _]) rfl El116 rfl (by decide) rfl (by decide) ⟨rfl, (Cl.c rfl), ⟨rfl, (Cl.c rfl), ⟨rfl, (Cl.c rfl), ⟨rfl, (Cl.c rfl), trivial⟩⟩⟩⟩ fun v113 => ⟨Gh.le_refl _, PickC.pick, ?_⟩) (OT.callF (vs := [_, _]) rfl En131 rfl (CallT.exC (src b cv) (next_s hcode (by omega) (fun w115 hw115 => ⟨Gh.le_refl _, PickC.pick, ?_⟩))))
              · refine RH.up1 ?_
                refine RH.ot rfl rfl (OT.callF (vs := [_, _]) rfl En131 rfl (CallT.exC (src b cv) (next_s hcode (by omega) (fun w115 hw115 => ⟨Gh.le_refl _, PickC.pick, ?_⟩))))
                refine RH.pv rfl (fun _ _ _ _ h => h) (Gh.le_refl _) PickC.pick rfl (PV.idxS (j := w115.toNat) (v := v113) rfl Is116 rfl SlF.o rfl (by omega) (by omega)) ?_
                refine RH.pv rfl (fun _ _ _ _ h => h) (Gh.le_refl _) PickC.pick rfl (PV.loadE1 rfl Sc2 rfl rfl (El.o (getG (by omega))) rfl) ?_
                refine RH.pv rfl (fun _ _ _ _ h => h) (Gh.le_refl _) PickC.pick rfl (PV.mvI (.inr rfl) rfl) ?_
                refine RH.pv rfl (fun _ _ _ _ h => h) (Gh.le_refl _) PickC.pick rfl (PV.mvI (.inr rfl) rfl) ?_
                refine RH.nil ?_
                exact ⟨rfl, (2 * w110 - 9), (gd [-4, 4, -6, -4] w115.toNat), ⟨by omega, yv_bd (by omega)⟩, ⟨rfl, rfl, trivial⟩, ⟨rfl, rfl, rfl, trivial⟩, Cv.p⟩
              · refine RH.pv rfl (fun _ _ _ _ h => h) (Gh.le_refl _) PickC.pick rfl (PV.mvI (.inr rfl) rfl) ?_
                refine RH.ot rfl rfl (OT.bslice (F := intT) (els := [_, _, _, _]) rfl El116 rfl (by decide) rfl (by decide) ⟨rfl, (Cl.c rfl), ⟨rfl, (Cl.c rfl), ⟨rfl, (Cl.c rfl), ⟨rfl, (Cl.c rfl), trivial⟩⟩⟩⟩ fun v113 => ⟨Gh.le_refl _, PickC.pick, ?_⟩)
                refine RH.up1 ?_
                refine RH.pv rfl (fun _ _ _ _ h => h) (Gh.le_refl _) PickC.pick rfl (PV.idxS (j := w115.toNat) (v := v113) rfl Is116 rfl SlF.o rfl (by omega) (by omega)) ?_
                refine RH.pv rfl (fun _ _ _ _ h => h) (Gh.le_refl _) PickC.pick rfl (PV.loadE1 rfl Sc2 rfl rfl (El.o (getG (by omega))) rfl) ?_
                refine RH.pv rfl (fun _ _ _ _ h => h) (Gh.le_refl _) PickC.pick rfl (PV.mvI (.inr rfl) rfl) ?_
                refine RH.nil ?_
                exact ⟨rfl, (2 * w110 - 9), (gd [-4, 4, -6, -4] w115.toNat), ⟨by omega, yv_bd (by omega)⟩, ⟨rfl, rfl, trivial⟩, ⟨rfl, rfl, rfl, trivial⟩, Cv.p⟩
            · refine RH.up1 ?_
              refine RH.ot rfl rfl (OT.callF (vs := [_, _]) rfl En131 rfl (CallT.exC (src b cv) (next_s hcode (by omega) (fun w110 hw110 => ⟨Gh.le_refl _, PickC.pick, ?_⟩))))
              refine RH.pv rfl (fun _ _ _ _ h => h) (Gh.le_refl _) PickC.pick rfl (PV.mul rfl rfl rfl (by omega)) ?_
              refine RH.pv rfl (fun _ _ _ _ h => h) (Gh.le_refl _) PickC.pick rfl (PV.sub rfl rfl rfl (by omega)) ?_
              refine RH.ot rfl rfl (OT.callF (vs := [_, _]) rfl En131 rfl (CallT.exC (src b cv) (next_s hcode (by omega) (fun w115 hw115 => ⟨Gh.le_refl _, PickC.pick, ?_⟩))))
              refine RH.pv rfl (fun _ _ _ _ h => h) (Gh.le_refl _) PickC.pick rfl (PV.idxS (j := w115.toNat) (v := v113) rfl Is116 rfl SlF.o rfl (by omega) (by omega)) ?_
              refine RH.pv rfl (fun _ _ _ _ h => h) (Gh.le_refl _) PickC.pick rfl (PV.loadE1 rfl Sc2 rfl rfl (El.o (getG (by omega))) rfl) ?_
              refine RH.pv rfl (fun _ _ _ _ h => h) (Gh.le_refl _) PickC.pick rfl (PV.mvI (.inr rfl) rfl) ?_
              refine RH.pv rfl (fun _ _ _ _ h => h) (Gh.le_refl _) PickC.pick rfl (PV.mvI (.inr rfl) rfl) ?_
              refine RH.nil ?_
              exact ⟨rfl, (2 * w110 - 9), (gd [-4, 4, -6, -4] w115.toNat), ⟨by omega, yv_bd (by omega)⟩, ⟨rfl, rfl, trivial⟩, ⟨rfl, rfl, rfl, trivial⟩, Cv.p⟩
          rintro x y τ6 ⟨hx, hy⟩
          refine WP.cv ((Cv.p (C := osl 92 slT q ss :: bagS 4 boolT ss :: src b cv :: L)).trans (Cv.cons (Cv.bagS_take 2 (by have := hss.1; omega)))) ?_
          refine WP.cut1 [0, 3, 12, 13, 14] (fun (ss2 : List (Sl Bool)) => Sets ss2) (fun (ss2 : List (Sl Bool)) => []) (fun (ss2 : List (Sl Bool)) => osl 92 slT q ss2 :: bagS 4 boolT ss2 :: src b cv :: L) ?_ ?_
          refine WP.region ?_
          refine RG.pv rfl (PV.move (v := q) rfl rfl) ?_
          refine RG.pv rfl (PV.move (v := q) rfl rfl) ?_
          refine RG.pv rfl (PV.idxS (j := 2) (v := q) rfl Is186 rfl SlF.o rfl (by omega) (by omega)) ?_
          refine RG.pv rfl (PV.loadE1 rfl Sc92 rfl rfl (El.o (getG (by omega))) rfl) ?_
          refine RG.pv rfl (PV.mvI (.inl rfl) rfl) ?_
          refine RG.pv rfl (PV.mvI (.inl rfl) rfl) ?_
          refine RG.pv rfl (PV.mvI (.inl rfl) rfl) ?_
          refine RG.pv rfl (PV.add rfl rfl rfl (by omega)) ?_
          refine RG.pv rfl (PV.mvI (.inl rfl) rfl) ?_
          refine RG.pv rfl (PV.add rfl rfl rfl (by omega)) ?_
          refine RG.pv rfl (PV.build (vs := [(0, [vi _]), (1, [vi _]), (2, [vi _]), (3, [vi _])]) (out := [_, _, _, _]) rfl Zr81 Pl81 ⟨rfl, (Cl.c rfl), ⟨rfl, (Cl.c rfl), ⟨rfl, (Cl.c rfl), ⟨rfl, (Cl.c rfl), trivial⟩⟩⟩⟩ rfl) ?_
          refine RG.callF (vs := [(gd ss 2).v, _]) rfl rfl En193 rfl (CallT.exS (gd ss 2).v (fill_s (r := ⟨x, y, x + 1, y + 1⟩) (hss.2 2 (by omega)) (validR_iff.2 (by simp only; omega)) (fun D' hD' hg' => ?_)))
          refine RG.pv rfl (PV.idxS (j := 2) (v := q) rfl Is186 rfl SlF.o rfl (by omega) (by omega)) ?_
          refine RG.ot rfl (OT.storeE (v := (gd ss 2).v) (a := ⟨(gd ss 2).v, D'⟩) (F := (slT (α := Bool))) rfl Sz92 rfl rfl rfl (Cl.s (v := (gd ss 2).v) SlF.o) (OneC.sl SlF.o OneC.nil) (by omega) ?_)
          refine RG.nil ?_
          · exact ⟨rfl, (ss.set 2 ⟨(gd ss 2).v, D'⟩), (hss.set hD'), trivial, ⟨rfl, rfl, rfl, rfl, rfl, trivial⟩, ((Cv.p (C := osl 4 boolT (gd ss 2).v D' :: osl 92 slT q (ss.set 2 ⟨(gd ss 2).v, D'⟩) :: bag ((ss.map (ownS 4 boolT)).set 2 emp) :: src b cv :: L)).trans (Cv.putB 2 (by have := hss.1; omega)))⟩
          rintro ss2 τ7 hss2
          have hsl2 := hss2.1
          refine WP.cv ((Cv.p (C := osl 92 slT q ss2 :: bagS 4 boolT ss2 :: src b cv :: L)).trans (Cv.cons (Cv.bagS_take 3 (by have := hss2.1; omega)))) ?_
          refine WP.regionHD [.s q, .s (gd ss2 3).v] (.q 0 (.q 1 (.q 4 (.q 5 (.q 6 (.q 7 (.q 8 (.q 11 (.q 12 (.q 13 (.b 2 (.b 3 (.l 9 (.q 10 (.l 14 (.q 15 (.q 16 (.l 17 (.l 18 (.l 19 Sch.nil)))))))) 9 (.q 10 (.b 3 (.l 14 (.q 15 (.q 16 (.l 17 (.l 18 (.l 19 Sch.nil)))))) 14 (.q 15 (.q 16 (.l 3 (.l 17 (.l 18 (.l 19 Sch.nil))))))))) 9 (.q 10 (.b 2 (.b 3 (.l 14 (.q 15 (.q 16 (.l 17 (.l 18 (.l 19 Sch.nil)))))) 14 (.q 15 (.q 16 (.l 3 (.l 17 (.l 18 (.l 19 Sch.nil))))))) 14 (.q 15 (.q 16 (.l 2 (.l 3 (.l 17 (.l 18 (.l 19 Sch.nil)))))))))))))))))))) (by kernel_rfl) (by kernel_rfl) (by kernel_rfl) rfl ?_
          refine RH.pv rfl (fun _ _ _ _ h => h) (Gh.le_refl _) PickC.pick rfl (PV.move (v := q) rfl rfl) ?_
          refine RH.pv rfl (fun _ _ _ _ h => h) (Gh.le_refl _) PickC.pick rfl (PV.move (v := q) rfl rfl) ?_
          refine RH.pv rfl (fun _ _ _ _ h => h) (Gh.le_refl _) PickC.pick rfl (PV.mvI (.inl rfl) rfl) ?_
          refine RH.pv rfl (fun _ _ _ _ h => h) (Gh.le_refl _) PickC.pick rfl (PV.mvI (.inl rfl) rfl) ?_
          refine RH.pv rfl (fun _ _ _ _ h => h) (Gh.le_refl _) PickC.pick rfl (PV.mvI (.inl rfl) rfl) ?_
          refine RH.pv rfl (fun _ _ _ _ h => h) (Gh.le_refl _) PickC.pick rfl (PV.add rfl rfl rfl (by omega)) ?_
          refine RH.pv rfl (fun _ _ _ _ h => h) (Gh.le_refl _) PickC.pick rfl (PV.move rfl rfl) ?_
          refine RH.pv rfl (fun _ _ _ _ h => h) (Gh.le_refl _) PickC.pick rfl (PV.mvI (.inl rfl) rfl) ?_
          refine RH.pv rfl (fun _ _ _ _ h => h) (Gh.le_refl _) PickC.pick rfl (PV.add rfl rfl rfl (by omega)) ?_
          refine RH.pv rfl (fun _ _ _ _ h => h) (Gh.le_refl _) PickC.pick rfl (PV.move rfl rfl) ?_
          refine RH.ot2 rfl rfl rfl rfl  (OT.pv (PV.idxS (j := 3) (v := q) rfl Is186 rfl SlF.o rfl (by omega) (by omega)) ⟨Gh.le_refl _, PickC.pick, ?_⟩) (OT.callF (vs := [_, _]) rfl En131 rfl (CallT.exC (src b cv) (next_s hcode (by omega) (fun w140 hw140 => ⟨Gh.le_refl _, PickC.pick, ?_⟩))))
          · refine RH.ot2 rfl rfl rfl rfl  (OT.pv (PV.loadE1 rfl Sc92 rfl rfl (El.o (getG (by omega))) rfl) ⟨Gh.le_refl _, PickC.pick, ?_⟩) (OT.callF (vs := [_, _]) rfl En131 rfl (CallT.exC (src b cv) (next_s hcode (by omega) (fun w140 hw140 => ⟨Gh.le_refl _, PickC.pick, ?_⟩))))
            · refine RH.ot rfl rfl (OT.callF (vs := [_, _]) rfl En131 rfl (CallT.exC (src b cv) (next_s hcode (by omega) (fun w140 hw140 => ⟨Gh.le_refl _, PickC.pick, ?_⟩))))
              refine RH.pv rfl (fun _ _ _ _ h => h) (Gh.le_refl _) PickC.pick rfl (PV.add rfl rfl rfl (by omega)) ?_
              refine RH.ot rfl rfl (OT.callF (vs := [_, _]) rfl En131 rfl (CallT.exC (src b cv) (next_s hcode (by omega) (fun w145 hw145 => ⟨Gh.le_refl _, PickC.pick, ?_⟩))))
              refine RH.pv rfl (fun _ _ _ _ h => h) (Gh.le_refl _) PickC.pick rfl (PV.add rfl rfl rfl (by omega)) ?_
              refine RH.pv rfl (fun _ _ _ _ h => h) (Gh.le_refl _) PickC.pick rfl (PV.build (vs := [(0, [vi _]), (1, [vi _]), (2, [vi _]), (3, [vi _])]) (out := [_, _, _, _]) rfl Zr81 Pl81 ⟨rfl, (Cl.c rfl), ⟨rfl, (Cl.c rfl), ⟨rfl, (Cl.c rfl), ⟨rfl, (Cl.c rfl), trivial⟩⟩⟩⟩ rfl) ?_
              refine RH.ot rfl rfl (OT.callF (vs := [(gd ss2 3).v, _]) rfl En193 rfl (CallT.exS (gd ss2 3).v (fill_s (r := ⟨x, y, x + 1 + w140, y + 1 + w145⟩) (hss2.2 3 (by omega)) (validR_iff.2 (by simp only; omega)) (fun D' hD' hg' => ⟨Gh.le_refl _, PickC.pick, ?_⟩))))
              refine RH.ot rfl rfl (OT.pv (PV.idxS (j := 3) (v := q) rfl Is186 rfl SlF.o rfl (by omega) (by omega)) ⟨Gh.le_refl _, PickC.pick, ?_⟩)
              refine RH.ot rfl rfl (OT.storeE (v := (gd ss2 3).v) (a := ⟨(gd ss2 3).v, D'⟩) (F := (slT (α := Bool))) rfl Sz92 rfl rfl rfl (Cl.s (v := (gd ss2 3).v) SlF.o) (OneC.sl SlF.o OneC.nil) (by omega) ⟨Gh.le_refl _, PickC.pick, ?_⟩)
              refine RH.nil ?_
              refine WP.region ?_
              refine RG.pv rfl (PV.mvI (.inl rfl) rfl) ?_
              refine RG.pv rfl (PV.sub rfl rfl rfl (by omega)) ?_
              refine RG.pv rfl (PV.mvI (.inr rfl) rfl) ?_
              refine RG.nil ?_
              exact ⟨rfl, j - 1, (ss2.set 3 ⟨(gd ss2 3).v, D'⟩), ⟨by omega, hss2.set hD'⟩, ⟨rfl, trivial⟩, ⟨rfl, rfl, trivial⟩, ((Cv.p (C := osl 4 boolT (gd ss2 3).v D' :: osl 92 slT q (ss2.set 3 ⟨(gd ss2 3).v, D'⟩) :: bag ((ss2.map (ownS 4 boolT)).set 3 emp) :: src b cv :: L)).trans (Cv.putB 3 (by have := hss2.1; omega))), by omega⟩
            · refine RH.pv rfl (fun _ _ _ _ h => h) (Gh.le_refl _) PickC.pick rfl (PV.add rfl rfl rfl (by omega)) ?_
              refine RH.ot2 rfl rfl rfl rfl  (OT.pv (PV.loadE1 rfl Sc92 rfl rfl (El.o (getG (by omega))) rfl) ⟨Gh.le_refl _, PickC.pick, ?_⟩) (OT.callF (vs := [_, _]) rfl En131 rfl (CallT.exC (src b cv) (next_s hcode (by omega) (fun w145 hw145 => ⟨Gh.le_refl _, PickC.pick, ?_⟩))))
              · refine RH.ot rfl rfl (OT.callF (vs := [_, _]) rfl En131 rfl (CallT.exC (src b cv) (next_s hcode (by omega) (fun w145 hw145 => ⟨Gh.le_refl _, PickC.pick, ?_⟩))))
                refine RH.pv rfl (fun _ _ _ _ h => h) (Gh.le_refl _) PickC.pick rfl (PV.add rfl rfl rfl (by omega)) ?_
                refine RH.pv rfl (fun _ _ _ _ h => h) (Gh.le_refl _) PickC.pick rfl (PV.build (vs := [(0, [vi _]), (1, [vi _]), (2, [vi _]), (3, [vi _])]) (out := [_, _, _, _]) rfl Zr81 Pl81 ⟨rfl, (Cl.c rfl), ⟨rfl, (Cl.c rfl), ⟨rfl, (Cl.c rfl), ⟨rfl, (Cl.c rfl), trivial⟩⟩⟩⟩ rfl) ?_
                refine RH.ot rfl rfl (OT.callF (vs := [(gd ss2 3).v, _]) rfl En193 rfl (CallT.exS (gd ss2 3).v (fill_s (r := ⟨x, y, x + 1 + w140, y + 1 + w145⟩) (hss2.2 3 (by omega)) (validR_iff.2 (by simp only; omega)) (fun D' hD' hg' => ⟨Gh.le_refl _, PickC.pick, ?_⟩))))
                refine RH.ot rfl rfl (OT.pv (PV.idxS (j := 3) (v := q) rfl Is186 rfl SlF.o rfl (by omega) (by omega)) ⟨Gh.le_refl _, PickC.pick, ?_⟩)
                refine RH.ot rfl rfl (OT.storeE (v := (gd ss2 3).v) (a := ⟨(gd ss2 3).v, D'⟩) (F := (slT (α := Bool))) rfl Sz92 rfl rfl rfl (Cl.s (v := (gd ss2 3).v) SlF.o) (OneC.sl SlF.o OneC.nil) (by omega) ⟨Gh.le_refl _, PickC.pick, ?_⟩)
                refine RH.nil ?_
                refine WP.region ?_
                refine RG.pv rfl (PV.mvI (.inl rfl) rfl) ?_
                refine RG.pv rfl (PV.sub rfl rfl rfl (by omega)) ?_
                refine RG.pv rfl (PV.mvI (.inr rfl) rfl) ?_
                refine RG.nil ?_
                exact ⟨rfl, j - 1, (ss2.set 3 ⟨(gd ss2 3).v, D'⟩), ⟨by omega, hss2.set hD'⟩, ⟨rfl, trivial⟩, ⟨rfl, rfl, trivial⟩, ((Cv.p (C := osl 4 boolT (gd ss2 3).v D' :: osl 92 slT q (ss2.set 3 ⟨(gd ss2 3).v, D'⟩) :: bag ((ss2.map (ownS 4 boolT)).set 3 emp) :: src b cv :: L)).trans (Cv.putB 3 (by have := hss2.1; omega))), by omega⟩
              · refine RH.pv rfl (fun _ _ _ _ h => h) (Gh.le_refl _) PickC.pick rfl (PV.add rfl rfl rfl (by omega)) ?_
                refine RH.pv rfl (fun _ _ _ _ h => h) (Gh.le_refl _) PickC.pick rfl (PV.build (vs := [(0, [vi _]), (1, [vi _]), (2, [vi _]), (3, [vi _])]) (out := [_, _, _, _]) rfl Zr81 Pl81 ⟨rfl, (Cl.c rfl), ⟨rfl, (Cl.c rfl), ⟨rfl, (Cl.c rfl), ⟨rfl, (Cl.c rfl), trivial⟩⟩⟩⟩ rfl) ?_
                refine RH.ot rfl rfl (OT.pv (PV.loadE1 rfl Sc92 rfl rfl (El.o (getG (by omega))) rfl) ⟨Gh.le_refl _, PickC.pick, ?_⟩)
                refine RH.ot rfl rfl (OT.callF (vs := [(gd ss2 3).v, _]) rfl En193 rfl (CallT.exS (gd ss2 3).v (fill_s (r := ⟨x, y, x + 1 + w140, y + 1 + w145⟩) (hss2.2 3 (by omega)) (validR_iff.2 (by simp only; omega)) (fun D' hD' hg' => ⟨Gh.le_refl _, PickC.pick, ?_⟩))))
                refine RH.ot rfl rfl (OT.pv (PV.idxS (j := 3) (v := q) rfl Is186 rfl SlF.o rfl (by omega) (by omega)) ⟨Gh.le_refl _, PickC.pick, ?_⟩)
                refine RH.ot rfl rfl (OT.storeE (v := (gd ss2 3).v) (a := ⟨(gd ss2 3).v, D'⟩) (F := (slT (α := Bool))) rfl Sz92 rfl rfl rfl (Cl.s (v := (gd ss2 3).v) SlF.o) (OneC.sl SlF.o OneC.nil) (by omega) ⟨Gh.le_refl _, PickC.pick, ?_⟩)
                refine RH.nil ?_
                refine WP.region ?_
                refine RG.pv rfl (PV.mvI (.inl rfl) rfl) ?_
                refine RG.pv rfl (PV.sub rfl rfl rfl (by omega)) ?_
                refine RG.pv rfl (PV.mvI (.inr rfl) rfl) ?_
                refine RG.nil ?_
                exact ⟨rfl, j - 1, (ss2.set 3 ⟨(gd ss2 3).v, D'⟩), ⟨by omega, hss2.set hD'⟩, ⟨rfl, trivial⟩, ⟨rfl, rfl, trivial⟩, ((Cv.p (C := osl 4 boolT (gd ss2 3).v D' :: osl 92 slT q (ss2.set 3 ⟨(gd ss2 3).v, D'⟩) :: bag ((ss2.map (ownS 4 boolT)).set 3 emp) :: src b cv :: L)).trans (Cv.putB 3 (by have := hss2.1; omega))), by omega⟩
          · refine RH.pv rfl (fun _ _ _ _ h => h) (Gh.le_refl _) PickC.pick rfl (PV.add rfl rfl rfl (by omega)) ?_
            refine RH.ot2 rfl rfl rfl rfl  (OT.pv (PV.idxS (j := 3) (v := q) rfl Is186 rfl SlF.o rfl (by omega) (by omega)) ⟨Gh.le_refl _, PickC.pick, ?_⟩) (OT.callF (vs := [_, _]) rfl En131 rfl (CallT.exC (src b cv) (next_s hcode (by omega) (fun w145 hw145 => ⟨Gh.le_refl _, PickC.pick, ?_⟩))))
            · refine RH.ot2 rfl rfl rfl rfl  (OT.pv (PV.loadE1 rfl Sc92 rfl rfl (El.o (getG (by omega))) rfl) ⟨Gh.le_refl _, PickC.pick, ?_⟩) (OT.callF (vs := [_, _]) rfl En131 rfl (CallT.exC (src b cv) (next_s hcode (by omega) (fun w145 hw145 => ⟨Gh.le_refl _, PickC.pick, ?_⟩))))
              · refine RH.ot rfl rfl (OT.callF (vs := [_, _]) rfl En131 rfl (CallT.exC (src b cv) (next_s hcode (by omega) (fun w145 hw145 => ⟨Gh.le_refl _, PickC.pick, ?_⟩))))
                refine RH.pv rfl (fun _ _ _ _ h => h) (Gh.le_refl _) PickC.pick rfl (PV.add rfl rfl rfl (by omega)) ?_
                refine RH.pv rfl (fun _ _ _ _ h => h) (Gh.le_refl _) PickC.pick rfl (PV.build (vs := [(0, [vi _]), (1, [vi _]), (2, [vi _]), (3, [vi _])]) (out := [_, _, _, _]) rfl Zr81 Pl81 ⟨rfl, (Cl.c rfl), ⟨rfl, (Cl.c rfl), ⟨rfl, (Cl.c rfl), ⟨rfl, (Cl.c rfl), trivial⟩⟩⟩⟩ rfl) ?_
                refine RH.ot rfl rfl (OT.callF (vs := [(gd ss2 3).v, _]) rfl En193 rfl (CallT.exS (gd ss2 3).v (fill_s (r := ⟨x, y, x + 1 + w140, y + 1 + w145⟩) (hss2.2 3 (by omega)) (validR_iff.2 (by simp only; omega)) (fun D' hD' hg' => ⟨Gh.le_refl _, PickC.pick, ?_⟩))))
                refine RH.ot rfl rfl (OT.pv (PV.idxS (j := 3) (v := q) rfl Is186 rfl SlF.o rfl (by omega) (by omega)) ⟨Gh.le_refl _, PickC.pick, ?_⟩)
                refine RH.ot rfl rfl (OT.storeE (v := (gd ss2 3).v) (a := ⟨(gd ss2 3).v, D'⟩) (F := (slT (α := Bool))) rfl Sz92 rfl rfl rfl (Cl.s (v := (gd ss2 3).v) SlF.o) (OneC.sl SlF.o OneC.nil) (by omega) ⟨Gh.le_refl _, PickC.pick, ?_⟩)
                refine RH.nil ?_
                refine WP.region ?_
                refine RG.pv rfl (PV.mvI (.inl rfl) rfl) ?_
                refine RG.pv rfl (PV.sub rfl rfl rfl (by omega)) ?_
                refine RG.pv rfl (PV.mvI (.inr rfl) rfl) ?_
                refine RG.nil ?_
                exact ⟨rfl, j - 1, (ss2.set 3 ⟨(gd ss2 3).v, D'⟩), ⟨by omega, hss2.set hD'⟩, ⟨rfl, trivial⟩, ⟨rfl, rfl, trivial⟩, ((Cv.p (C := osl 4 boolT (gd ss2 3).v D' :: osl 92 slT q (ss2.set 3 ⟨(gd ss2 3).v, D'⟩) :: bag ((ss2.map (ownS 4 boolT)).set 3 emp) :: src b cv :: L)).trans (Cv.putB 3 (by have := hss2.1; omega))), by omega⟩
              · refine RH.pv rfl (fun _ _ _ _ h => h) (Gh.le_refl _) PickC.pick rfl (PV.add rfl rfl rfl (by omega)) ?_
                refine RH.pv rfl (fun _ _ _ _ h => h) (Gh.le_refl _) PickC.pick rfl (PV.build (vs := [(0, [vi _]), (1, [vi _]), (2, [vi _]), (3, [vi _])]) (out := [_, _, _, _]) rfl Zr81 Pl81 ⟨rfl, (Cl.c rfl), ⟨rfl, (Cl.c rfl), ⟨rfl, (Cl.c rfl), ⟨rfl, (Cl.c rfl), trivial⟩⟩⟩⟩ rfl) ?_
                refine RH.ot rfl rfl (OT.pv (PV.loadE1 rfl Sc92 rfl rfl (El.o (getG (by omega))) rfl) ⟨Gh.le_refl _, PickC.pick, ?_⟩)
                refine RH.ot rfl rfl (OT.callF (vs := [(gd ss2 3).v, _]) rfl En193 rfl (CallT.exS (gd ss2 3).v (fill_s (r := ⟨x, y, x + 1 + w140, y + 1 + w145⟩) (hss2.2 3 (by omega)) (validR_iff.2 (by simp only; omega)) (fun D' hD' hg' => ⟨Gh.le_refl _, PickC.pick, ?_⟩))))
                refine RH.ot rfl rfl (OT.pv (PV.idxS (j := 3) (v := q) rfl Is186 rfl SlF.o rfl (by omega) (by omega)) ⟨Gh.le_refl _, PickC.pick, ?_⟩)
                refine RH.ot rfl rfl (OT.storeE (v := (gd ss2 3).v) (a := ⟨(gd ss2 3).v, D'⟩) (F := (slT (α := Bool))) rfl Sz92 rfl rfl rfl (Cl.s (v := (gd ss2 3).v) SlF.o) (OneC.sl SlF.o OneC.nil) (by omega) ⟨Gh.le_refl _, PickC.pick, ?_⟩)
                refine RH.nil ?_
                refine WP.region ?_
                refine RG.pv rfl (PV.mvI (.inl rfl) rfl) ?_
                refine RG.pv rfl (PV.sub rfl rfl rfl (by omega)) ?_
                refine RG.pv rfl (PV.mvI (.inr rfl) rfl) ?_
                refine RG.nil ?_
                exact ⟨rfl, j - 1, (ss2.set 3 ⟨(gd ss2 3).v, D'⟩), ⟨by omega, hss2.set hD'⟩, ⟨rfl, trivial⟩, ⟨rfl, rfl, trivial⟩, ((Cv.p (C := osl 4 boolT (gd ss2 3).v D' :: osl 92 slT q (ss2.set 3 ⟨(gd ss2 3).v, D'⟩) :: bag ((ss2.map (ownS 4 boolT)).set 3 emp) :: src b cv :: L)).trans (Cv.putB 3 (by have := hss2.1; omega))), by omega⟩
            · refine RH.pv rfl (fun _ _ _ _ h => h) (Gh.le_refl _) PickC.pick rfl (PV.add rfl rfl rfl (by omega)) ?_
              refine RH.pv rfl (fun _ _ _ _ h => h) (Gh.le_refl _) PickC.pick rfl (PV.build (vs := [(0, [vi _]), (1, [vi _]), (2, [vi _]), (3, [vi _])]) (out := [_, _, _, _]) rfl Zr81 Pl81 ⟨rfl, (Cl.c rfl), ⟨rfl, (Cl.c rfl), ⟨rfl, (Cl.c rfl), ⟨rfl, (Cl.c rfl), trivial⟩⟩⟩⟩ rfl) ?_
              refine RH.ot rfl rfl (OT.pv (PV.idxS (j := 3) (v := q) rfl Is186 rfl SlF.o rfl (by omega) (by omega)) ⟨Gh.le_refl _, PickC.pick, ?_⟩)
              refine RH.ot rfl rfl (OT.pv (PV.loadE1 rfl Sc92 rfl rfl (El.o (getG (by omega))) rfl) ⟨Gh.le_refl _, PickC.pick, ?_⟩)
              refine RH.ot rfl rfl (OT.callF (vs := [(gd ss2 3).v, _]) rfl En193 rfl (CallT.exS (gd ss2 3).v (fill_s (r := ⟨x, y, x + 1 + w140, y + 1 + w145⟩) (hss2.2 3 (by omega)) (validR_iff.2 (by simp only; omega)) (fun D' hD' hg' => ⟨Gh.le_refl _, PickC.pick, ?_⟩))))
              refine RH.ot rfl rfl (OT.pv (PV.idxS (j := 3) (v := q) rfl Is186 rfl SlF.o rfl (by omega) (by omega)) ⟨Gh.le_refl _, PickC.pick, ?_⟩)
              refine RH.ot rfl rfl (OT.storeE (v := (gd ss2 3).v) (a := ⟨(gd ss2 3).v, D'⟩) (F := (slT (α := Bool))) rfl Sz92 rfl rfl rfl (Cl.s (v := (gd ss2 3).v) SlF.o) (OneC.sl SlF.o OneC.nil) (by omega) ⟨Gh.le_refl _, PickC.pick, ?_⟩)
              refine RH.nil ?_
              refine WP.region ?_
              refine RG.pv rfl (PV.mvI (.inl rfl) rfl) ?_
              refine RG.pv rfl (PV.sub rfl rfl rfl (by omega)) ?_
              refine RG.pv rfl (PV.mvI (.inr rfl) rfl) ?_
              refine RG.nil ?_
              exact ⟨rfl, j - 1, (ss2.set 3 ⟨(gd ss2 3).v, D'⟩), ⟨by omega, hss2.set hD'⟩, ⟨rfl, trivial⟩, ⟨rfl, rfl, trivial⟩, ((Cv.p (C := osl 4 boolT (gd ss2 3).v D' :: osl 92 slT q (ss2.set 3 ⟨(gd ss2 3).v, D'⟩) :: bag ((ss2.map (ownS 4 boolT)).set 3 emp) :: src b cv :: L)).trans (Cv.putB 3 (by have := hss2.1; omega))), by omega⟩
        · refine WP.exit ?_
          refine WP.seq ?_
          refine WP.region ?_
          refine RG.ot rfl (OT.bslice (F := (slT (α := Rect))) (els := []) rfl El27 rfl (by decide) rfl (by decide) trivial fun v150 => ?_)
          refine RG.pv rfl (PV.asg (v := v150) rfl rfl) ?_
          refine RG.nil ?_
          refine WP.seq ?_
          refine WP.seq ?_
          refine WP.region ?_
          refine RG.pv rfl (PV.mvI (.inr rfl) rfl) ?_
          refine RG.nil ?_
          refine WP.block ?_
          refine WP.cv ((Cv.p (C := osl 24 slT v150 ([] : List (Sl Rect)) :: osl 92 slT q ss :: bagS 4 boolT ss :: src b cv :: L)).trans (Cv.cons (Cv.bag0 (e := 81) (F := rectT) (xs := []) rfl))) ?_
          refine WP.loop3 [0, 3] (fun (i : Nat) (ys : List (Sl Rect)) (q2 : Value) => i ≤ 8 ∧ ys.length = i ∧ ∀ s ∈ ys, isReg s.xs = true) (fun (i : Nat) (ys : List (Sl Rect)) (q2 : Value) => [(16, vi i), (15, q2)]) (fun (i : Nat) (ys : List (Sl Rect)) (q2 : Value) => osl 24 slT q2 ys :: bagS 81 rectT ys :: osl 92 slT q ss :: bagS 4 boolT ss :: src b cv :: L) (fun (i : Nat) (ys : List (Sl Rect)) (q2 : Value) => 8 - i) 0 [] v150 ⟨by omega, rfl, fun s h => by cases h⟩ ⟨rfl, rfl, trivial⟩ Cv.p ?_
          rintro i ys q2 τ8 ⟨hi, hyl, hys⟩
          refine WP.seq ?_
          refine WP.seq ?_
          refine WP.region ?_
          refine RG.pv rfl (PV.mvI (.inl rfl) rfl) ?_
          refine RG.pv rfl (PV.lss rfl rfl rfl) ?_
          refine RG.nil ?_
          refine WP.cond rfl (fun h7 => ?_) (fun h7 => ?_)
          · have h7 := of_decide_eq_true h7
            have hsl := hss.1
            have hi6 := hss.2 i (by omega)
            refine WP.skip ?_
            refine WP.seq ?_
            refine WP.block ?_
            refine WP.region ?_
            refine RG.pv rfl (PV.move (v := q2) rfl rfl) ?_
            refine RG.pv rfl (PV.move (v := q) rfl rfl) ?_
            refine RG.pv rfl (PV.mvI (.inl rfl) rfl) ?_
            refine RG.pv rfl (PV.idxS (v := q) rfl Is186 rfl SlF.o rfl rfl (by omega)) ?_
            refine RG.pv rfl (PV.loadE1 rfl Sc92 rfl rfl (El.o (getG (by omega))) rfl) ?_
            refine RG.callF (vs := [_]) rfl rfl En73 rfl (l03Canon_s (Rs.inBag (xs := ss) i (by omega)) hi6 (fun v160 => ?_))
            refine RG.ot rfl (OT.bslice (F := (slT (α := Rect))) (els := [⟨v160, canon (gd ss i).xs⟩]) rfl El27 rfl (by decide) rfl (by decide) ⟨rfl, (Cl.s (v := v160) SlF.o), trivial⟩ fun v161 => ?_)
            refine RG.ot rfl (OT.append (v := q2) (u := v161) (F := (slT (α := Rect))) rfl El27 rfl (by decide) rfl rfl Rs.o (OneL.one (OneC.sl SlF.o OneC.nil)) rfl (by first | omega | (simp <;> omega)) fun v162 => ?_)
            refine RG.pv rfl (PV.asg (v := v162) rfl rfl) ?_
            refine RG.nil ?_
            refine WP.region ?_
            refine RG.pv rfl (PV.mvI (.inl rfl) rfl) ?_
            refine RG.pv rfl (PV.add rfl rfl rfl (by omega)) ?_
            refine RG.pv rfl (PV.mvI (.inr rfl) rfl) ?_
            refine RG.nil ?_
            refine ⟨rfl, i + 1, (ys ++ [⟨v160, canon (gd ss i).xs⟩]), v162, ⟨by omega, by simp [hyl], ?_⟩, ⟨rfl, rfl, trivial⟩, ⟨rfl, rfl, trivial⟩, ((Cv.p (C := osl 24 slT v162 (ys ++ [⟨v160, canon (gd ss i).xs⟩]) :: osl 81 rectT v160 (canon (gd ss i).xs) :: bagS 81 rectT ys :: osl 92 slT q ss :: bagS 4 boolT ss :: src b cv :: L)).trans (Cv.cons Cv.bagS_add)), by omega⟩
            intro s hs
            rcases List.mem_append.1 hs with hs | hs
            · exact hys s hs
            · obtain rfl : s = ⟨v160, canon (gd ss i).xs⟩ := by simpa using hs
              exact isReg_canon hi6
          · have h7 := of_decide_eq_false h7
            obtain rfl : i = 8 := by omega
            have hvr : ∀ s ∈ ys, ∀ r ∈ s.xs, validRect r = true := fun s hs r hr => valid_mem (isReg_valid (hys s hs)) hr
            have hll : ∀ s ∈ ys, s.xs.length ≤ 3200 := fun s hs => isReg_len (hys s hs)
            refine WP.exit ?_
            refine WP.seq ?_
            refine WP.seq ?_
            refine WP.region ?_
            refine RG.pv rfl (PV.move rfl rfl) ?_
            refine RG.callF (vs := [_, _]) rfl rfl En131 rfl (CallT.exC (src b cv) (next_s hcode (by omega) (fun w164 hw164 => ?_)))
            refine RG.pv rfl (PV.eql rfl rfl rfl) ?_
            refine RG.nil ?_
            refine WP.cond rfl (fun h8 => ?_) (fun h8 => ?_)
            · skip
              refine WP.region ?_
              refine RG.pv rfl (PV.move (v := q2) rfl rfl) ?_
              refine RG.callF (vs := [q2]) rfl rfl En207 rfl (turn_s Rs.o RsE.o (by omega) hvr hll (fun v167 zs hzl hzs => ?_))
              refine RG.pv rfl (PV.asg rfl rfl) ?_
              refine RG.nil ?_
              refine WP.seq ?_
              refine WP.region ?_
              refine RG.pv rfl (PV.move rfl rfl) ?_
              refine RG.pv rfl (PV.asg rfl rfl) ?_
              refine RG.nil ?_
              refine WP.ret ?_
              exact ⟨_, _, ResV.one rfl rfl, Cv.p, k v167 zs (by omega) hzs⟩
            · refine WP.skip ?_
              refine WP.seq ?_
              refine WP.region ?_
              refine RG.pv rfl (PV.move (v := q2) rfl rfl) ?_
              refine RG.pv rfl (PV.asg (v := q2) rfl rfl) ?_
              refine RG.nil ?_
              refine WP.ret ?_
              exact ⟨_, _, ResV.one rfl rfl, Cv.p, k q2 ys hyl hys⟩
/-! ## layouts with circuits -/
theorem drawLayout4_s {b : Nat} {cv : Value} {bs : List UInt8} (hcode : SL G byteT cv bs) (k : ∀ v v0 xs ys, Rs G [osl 24 slT v0 ys, bagS 81 rectT ys] slT v xs → (∀ s ∈ xs, s ∈ ys) → xs.length ≤ 8 → R v G (osl 24 slT v0 ys :: bagS 81 rectT ys :: src b cv :: L)) : CallT Try.prog 120 #[.pointer (some ⟨b, 0, none⟩)] G (src b cv :: L) R := by
  refine CallT.enter (args := _) Try.func120 rfl rfl (by kernel_rfl) rfl ?_
  refine WP.seq ?_
  refine WP.region ?_
  refine RG.pv rfl (PV.asg rfl rfl) ?_
  refine RG.nil ?_
  refine WP.seq ?_
  refine WP.seq ?_
  refine WP.region ?_
  refine RG.pv rfl (PV.move rfl rfl) ?_
  refine RG.callF (vs := [_, _]) rfl rfl En131 rfl (CallT.exC (src b cv) (next_s hcode (by omega) (fun w4 hw4 => ?_)))
  refine RG.pv rfl (PV.eql rfl rfl rfl) ?_
  refine RG.nil ?_
  refine WP.cond rfl (fun h1 => ?_) (fun h1 => ?_)
  · refine WP.seq ?_
    refine WP.region ?_
    refine RG.pv rfl (PV.move rfl rfl) ?_
    refine RG.callF (vs := [_]) rfl rfl En100 rfl (CallT.exC (src b cv) (drawLayout_s hcode (fun v7 v0 xs ys hxs hmem hxl => ?_)))
    refine RG.pv rfl (PV.asg rfl rfl) ?_
    refine RG.nil ?_
    refine WP.ret ?_
    exact ⟨_, _, ResV.one rfl rfl, Cv.p, k _ v0 xs ys hxs hmem hxl⟩
  · refine WP.skip ?_
    refine WP.seq ?_
    refine WP.region ?_
    refine RG.pv rfl (PV.move rfl rfl) ?_
    refine RG.callF (vs := [_]) rfl rfl En184 rfl (CallT.exC (src b cv) (drawCircuit_s hcode (fun v9 ys hyl hys => ?_)))
    refine RG.pv rfl (PV.asg rfl rfl) ?_
    refine RG.nil ?_
    refine WP.ret ?_
    exact ⟨_, _, ResV.one rfl rfl, Cv.p, k v9 v9 ys ys Rs.o (fun s h => h) (by omega)⟩
theorem drawDevices_s {cv : Value} {bs : List UInt8} (hcode : SL G byteT cv bs) (k : ∀ v v0 xs ys, Rs G [osl 24 slT v0 ys, bagS 81 rectT ys] slT v xs → (∀ s ∈ xs, s ∈ ys) → xs.length ≤ 8 → R v G (osl 24 slT v0 ys :: bagS 81 rectT ys :: L)) : CallT Try.prog 61 #[cv] G L R := by
  refine CallT.enter (args := _) Try.func61 rfl rfl (by kernel_rfl) rfl ?_
  refine WP.seq ?_
  refine WP.region ?_
  refine RG.pv rfl (PV.asg rfl rfl) ?_
  refine RG.nil ?_
  refine WP.seq ?_
  refine WP.region ?_
  refine RG.pv rfl (PV.move (v := cv) rfl rfl) ?_
  refine RG.callF (vs := [cv]) rfl rfl En78 rfl (from_s hcode (fun b => ?_))
  refine RG.callF (vs := [_]) rfl rfl En120 rfl (CallT.exC (src b cv) (drawLayout4_s hcode (fun v8 v0 xs ys hxs hmem hxl => ?_)))
  refine RG.pv rfl (PV.asg rfl rfl) ?_
  refine RG.nil ?_
  refine WP.ret ?_
  exact ⟨_, _, ResV.one rfl rfl, Cv.p, k _ v0 xs ys hxs hmem hxl⟩
end Go.Proofs.Ytilccgeldnlgnaa
