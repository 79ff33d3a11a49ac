/-
  Contract: the nets of a layout, as the reference tells them.
-/
import Derived.Test.YthjaopefoiploaaGreatW25
namespace Go.Proofs.YthjaopefoiploaaGreat
open Go
set_option maxRecDepth 20000
set_option linter.unusedSimpArgs false
variable {G : Gh} {L : List Ch} {R : Value → Gh → List Ch → Prop}
theorem nets_r {v : Value} {xs : List (Sl Rect)} (h1 : Rs G L slT v xs) (hd : RsE G L rectT xs) (k : ∀ v' zs, (er (nps zs)).map erPs = netR (er xs) → R (.tuple #[v', vi (netE (er xs))]) G (osl 129 netT v' zs :: bagS 132 pieceT (nps zs) :: bagS 59 rectT (regs (er (nps zs)).flatten) :: L)) : CallT Tryz.prog 76 #[v] G L R := by
  have hcl : (clsL (er xs)).length ≤ 25600 := by rw [clsL_len]; exact pcL_len (er xs) 4
  have hcn : cntR (clsL (er xs)) (clsL (er xs)).length = netN (er xs) := by rw [clsL_len]; rfl
  refine CallT.enter (args := _) Tryz.func76 rfl rfl (by kernel_rfl) rfl ?_
  refine WP.seq ?_
  refine WP.region ?_
  refine RG.pv rfl (PV.asg rfl rfl) ?_
  refine RG.pv rfl (PV.mvI (.inr rfl) rfl) ?_
  refine RG.nil ?_
  refine WP.seq ?_
  refine WP.seq ?_
  refine WP.region ?_
  refine RG.pv rfl (PV.move (v := v) rfl rfl) ?_
  refine RG.callF (vs := [v]) rfl rfl En57 rfl (l19Layout_s (Rs.up h1) hd.up ?_)
  refine RG.pv rfl (PV.not rfl rfl) ?_
  refine RG.nil ?_
  refine WP.cond rfl (fun h2 => ?_) (fun h2 => ?_)
  · have h3 : isLay (er xs) = false := by simpa using h2
    have e : netE (er xs) = 1 := by rw [netE, h3]; rfl
    have e2 : netR (er xs) = [] := by rw [netR, e]; rfl
    rw [e, e2] at k
    refine WP.seq ?_
    refine WP.region ?_
    refine RG.ot rfl (OT.bslice (F := netT) (els := []) rfl El81 rfl (by decide) rfl (by decide) trivial fun v14 => ?_)
    refine RG.pv rfl (PV.asg (v := v14) rfl rfl) ?_
    refine RG.pv rfl (PV.mvI (.inr rfl) rfl) ?_
    refine RG.nil ?_
    refine WP.ret ?_
    exact ⟨_, _, ResV.two rfl rfl rfl, ((Cv.p (C := osl 129 netT v14 ([] : List Net) :: L)).trans (Cv.cons ((Cv.bag0 (e := 59) (F := rectT) (xs := regs []) rfl).trans (Cv.bag0 (e := 132) (F := pieceT) (xs := nps []) rfl)))), k v14 [] rfl⟩
  · have h3 : isLay (er xs) = true := by simpa using h2
    refine WP.skip ?_
    refine WP.seq ?_
    refine WP.region ?_
    refine RG.pv rfl (PV.move (v := v) rfl rfl) ?_
    refine RG.callF (vs := [v]) rfl rfl En59 rfl (l23Parts_s (Rs.up h1) hd.up h3 (fun v16 csv16 hev16 => ?_))
    refine RG.pv rfl (PV.asg (v := v16) rfl rfl) ?_
    refine RG.nil ?_
    refine WP.seq ?_
    refine WP.region ?_
    refine RG.pv rfl (PV.move (v := v16) rfl rfl) ?_
    refine RG.pv rfl (PV.move (v := v) rfl rfl) ?_
    refine RG.callF (vs := [v16, v]) rfl rfl En61 rfl (l23Roots_s Rs.o RsE.o (Rs.up h1) hd.up h3 hev16 (fun v20 => ?_))
    refine RG.callF (vs := [v20]) rfl rfl En60 rfl (l23Numbers_s Rs.o (clsL_rt _) hcl (fun w21 => ?_))
    refine RG.pv rfl (PV.move (v := .tuple _) rfl rfl) ?_
    refine RG.pv rfl (PV.ext (v := w21) rfl rfl rfl) ?_
    refine RG.pv rfl (PV.ext rfl rfl rfl) ?_
    refine RG.pv rfl (PV.asg (v := w21) rfl rfl) ?_
    refine RG.pv rfl (PV.mvI (.inr rfl) rfl) ?_
    refine RG.nil ?_
    refine WP.seq ?_
    refine WP.seq ?_
    refine WP.region ?_
    refine RG.pv rfl (PV.mvI (.inl rfl) rfl) ?_
    refine RG.pv rfl (PV.gtr rfl rfl rfl) ?_
    refine RG.nil ?_
    refine WP.cond rfl (fun h4 => ?_) (fun h4 => ?_)
    · have h4 := of_decide_eq_true h4
      have e : netE (er xs) = 3 := by rw [netE, h3, cond_true, if_pos (by omega)]
      have e2 : netR (er xs) = [] := by rw [netR, e]; rfl
      rw [e, e2] at k
      refine WP.seq ?_
      refine WP.region ?_
      refine RG.ot rfl (OT.bslice (F := netT) (els := []) rfl El81 rfl (by decide) rfl (by decide) trivial fun v26 => ?_)
      refine RG.pv rfl (PV.asg (v := v26) rfl rfl) ?_
      refine RG.pv rfl (PV.mvI (.inr rfl) rfl) ?_
      refine RG.nil ?_
      refine WP.ret ?_
      exact ⟨_, _, ResV.two rfl rfl rfl, ((Cv.p (C := osl 129 netT v26 ([] : List Net) :: L)).trans (Cv.cons ((Cv.bag0 (e := 59) (F := rectT) (xs := regs []) rfl).trans (Cv.bag0 (e := 132) (F := pieceT) (xs := nps []) rfl)))), k v26 [] rfl⟩
    · have h4 := of_decide_eq_false h4
      have e : netE (er xs) = 0 := by rw [netE, h3, cond_true, if_neg (by omega)]
      have e2 : netR (er xs) = netL (er xs) := by rw [netR, e]; rfl
      rw [e, e2] at k
      have hcs : csv16.map erC = pcL (er xs) 4 := hev16
      have hcsl : csv16.length = (pcL (er xs) 4).length := by rw [← hcs, List.length_map]
      have hpl4 := pcL_len (er xs) 4
      have hce : ∀ i, i < csv16.length → erC (gd csv16 i) = gd (pcL (er xs) 4) i := fun i hi => by rw [← hcs, gd_map _ hi]
      have hc6 : ∀ i, i < csv16.length → (gd csv16 i).cells.xs.length = 6400 := fun i hi => by
        have := pcL_gd_len (l := er xs) (i := i) (by omega)
        rw [← hce i hi] at this; exact this
      have hnl : (nums (clsL (er xs))).length = csv16.length := by rw [nums, List.length_map, List.length_range, clsL_len, hcsl]
      have hng : ∀ i, i < csv16.length → gd (nums (clsL (er xs))) i = (numR (clsL (er xs)) i : Int) := fun i hi => by
        rw [nums, gd_map _ (by rw [List.length_range, clsL_len]; omega)]
        simp [gd, clsL_len, ← hcsl, hi]
      have hnN : (netL (er xs)).length = netN (er xs) := netL_len _
      refine WP.skip ?_
      refine WP.seq ?_
      refine WP.region ?_
      refine RG.ot rfl (OT.bslice (F := netT) (els := []) rfl El81 rfl (by decide) rfl (by decide) trivial fun v27 => ?_)
      refine RG.pv rfl (PV.asg (v := v27) rfl rfl) ?_
      refine RG.nil ?_
      refine WP.seq ?_
      refine WP.seq ?_
      refine WP.region ?_
      refine RG.pv rfl (PV.mvI (.inr rfl) rfl) ?_
      refine RG.nil ?_
      refine WP.block ?_
      refine WP.cv ((Cv.p (C := osl 129 netT v27 ([] : List Net) :: osl 145 partT v16 csv16 :: bagS 4 boolT (cels csv16) :: osl 2 intT w21 (nums (clsL (er xs))) :: L)).trans (Cv.cons ((Cv.bag0 (e := 59) (F := rectT) (xs := regs (er (nps [])).flatten) rfl).trans (Cv.bag0 (e := 132) (F := pieceT) (xs := nps []) rfl)))) ?_
      refine WP.loop3 [4, 5, 6] (fun (n : Nat) (zs : List Net) (q : Value) => n ≤ netN (er xs) ∧ (er (nps zs)).map erPs = (netL (er xs)).take n) (fun (n : Nat) (zs : List Net) (q : Value) => [(8, vi n), (7, q)]) (fun (n : Nat) (zs : List Net) (q : Value) => osl 129 netT q zs :: bagS 132 pieceT (nps zs) :: bagS 59 rectT (regs (er (nps zs)).flatten) :: osl 145 partT v16 csv16 :: bagS 4 boolT (cels csv16) :: osl 2 intT w21 (nums (clsL (er xs))) :: L) (fun (n : Nat) (zs : List Net) (q : Value) => netN (er xs) - n) 0 [] v27 ⟨by omega, rfl⟩ ⟨rfl, rfl, trivial⟩ Cv.p ?_
      rintro n zs q τ ⟨hn, hzs⟩
      refine WP.seq ?_
      refine WP.seq ?_
      refine WP.region ?_
      refine RG.pv rfl (PV.mvI (.inl rfl) rfl) ?_
      refine RG.pv rfl (PV.mvI (.inl rfl) rfl) ?_
      refine RG.pv rfl (PV.lss rfl rfl rfl) ?_
      refine RG.nil ?_
      have hzl : zs.length = n := by
        have := congrArg List.length hzs
        rw [List.length_map, er_len, nps_len, List.length_take] at this; omega
      refine WP.cond rfl (fun h5 => ?_) (fun h5 => ?_)
      · have h5 := of_decide_eq_true h5
        refine WP.skip ?_
        refine WP.seq ?_
        refine WP.block ?_
        refine WP.seq ?_
        refine WP.region ?_
        refine RG.ot rfl (OT.bslice (F := pieceT) (els := []) rfl El127 rfl (by decide) rfl (by decide) trivial fun v33 => ?_)
        refine RG.pv rfl (PV.asg (v := v33) rfl rfl) ?_
        refine RG.nil ?_
        refine WP.seq ?_
        refine WP.seq ?_
        refine WP.region ?_
        refine RG.pv rfl (PV.mvI (.inr rfl) rfl) ?_
        refine RG.nil ?_
        refine WP.block ?_
        refine WP.loop4 [4, 5, 6, 7, 8] (fun (i : Nat) (ps : List Piece) (bs : List (Sl Rect)) (p : Value) => i ≤ csv16.length ∧ erPs ps = (((List.range i).filter fun j => decide (numR (clsL (er xs)) j = n)).map fun j => pcR (gd (pcL (er xs) 4) j)) ∧ bs = regs ((er (nps zs)).flatten ++ ps)) (fun (i : Nat) (ps : List Piece) (bs : List (Sl Rect)) (p : Value) => [(10, vi i), (9, p)]) (fun (i : Nat) (ps : List Piece) (bs : List (Sl Rect)) (p : Value) => osl 132 pieceT p ps :: bagS 59 rectT bs :: osl 129 netT q zs :: bagS 132 pieceT (nps zs) :: osl 145 partT v16 csv16 :: bagS 4 boolT (cels csv16) :: osl 2 intT w21 (nums (clsL (er xs))) :: L) (fun (i : Nat) (ps : List Piece) (bs : List (Sl Rect)) (p : Value) => csv16.length - i) 0 [] (regs (er (nps zs)).flatten) v33 ⟨by omega, rfl, by rw [List.append_nil]⟩ ⟨rfl, rfl, trivial⟩ Cv.p ?_
        rintro i ps bs p τ1 ⟨hi, hps, hbs⟩
        refine WP.seq ?_
        refine WP.seq ?_
        refine WP.region ?_
        refine RG.pv rfl (PV.mvI (.inl rfl) rfl) ?_
        refine RG.pv rfl (PV.move (v := v16) rfl rfl) ?_
        refine RG.pv rfl (PV.len (v := v16) rfl Tryz.underlying91 rfl SlF.o) ?_
        refine RG.pv rfl (PV.lss rfl rfl rfl) ?_
        refine RG.nil ?_
        have hpl : ps.length ≤ 25600 := by
          have := congrArg List.length hps
          have h6 := List.length_filter_le (fun j => decide (numR (clsL (er xs)) j = n)) (List.range i)
          rw [List.length_range] at h6
          rw [erPs_len, List.length_map] at this; omega
        refine WP.cond rfl (fun h6 => ?_) (fun h6 => ?_)
        · have h6 := of_decide_eq_true h6
          have h7 : i < csv16.length := by omega
          have hnu := hng i h7
          have hfs : (List.range (i + 1)).filter (fun j => decide (numR (clsL (er xs)) j = n)) = (List.range i).filter (fun j => decide (numR (clsL (er xs)) j = n)) ++ (if numR (clsL (er xs)) i = n then [i] else []) := by
            rw [List.range_succ, List.filter_append]
            by_cases c : numR (clsL (er xs)) i = n <;> simp [c]
          refine WP.skip ?_
          refine WP.seq ?_
          refine WP.block ?_
          refine WP.seq ?_
          refine WP.region ?_
          refine RG.pv rfl (PV.move (v := w21) rfl rfl) ?_
          refine RG.pv rfl (PV.mvI (.inl rfl) rfl) ?_
          refine RG.pv rfl (PV.idxS (v := w21) rfl Is35 rfl SlF.o rfl rfl (by omega)) ?_
          refine RG.pv rfl (PV.loadE1 rfl Sc2 rfl rfl (El.o (getG (by omega))) rfl) ?_
          refine RG.pv rfl (PV.mvI (.inl rfl) rfl) ?_
          refine RG.pv rfl (PV.eql rfl rfl rfl) ?_
          refine RG.nil ?_
          refine WP.cond rfl (fun h8 => ?_) (fun h8 => ?_)
          · have h8 := of_decide_eq_true h8
            have h9 : numR (clsL (er xs)) i = n := by omega
            rw [if_pos h9] at hfs
            have hl6 := hc6 i h7
            refine WP.regionHD [.s p] (.q 0 (.q 1 (.q 2 (.q 3 (.q 4 (.q 5 (.q 6 (.q 7 (.q 8 (.q 9 (.q 10 (.l 11 (.q 12 (.l 13 (.l 14 (.q 15 Sch.nil)))))))))))))))) (by kernel_rfl) (by kernel_rfl) (by kernel_rfl) rfl ?_
            refine RH.pv rfl (fun _ _ _ _ h => h) (Gh.le_refl _) PickC.pick rfl (PV.move (v := p) rfl rfl) ?_
            refine RH.pv rfl (fun _ _ _ _ h => h) (Gh.le_refl _) PickC.pick rfl (PV.move (v := v16) rfl rfl) ?_
            refine RH.pv rfl (fun _ _ _ _ h => h) (Gh.le_refl _) PickC.pick rfl (PV.mvI (.inl rfl) rfl) ?_
            refine RH.pv rfl (fun _ _ _ _ h => h) (Gh.le_refl _) PickC.pick rfl (PV.idxS (v := v16) rfl Is91 rfl SlF.o rfl rfl (by omega)) ?_
            refine RH.pv rfl (fun _ _ _ _ h => h) (Gh.le_refl _) PickC.pick rfl (PV.field rfl Fo145_0 rfl) ?_
            refine RH.pv rfl (fun _ _ _ _ h => h) (Gh.le_refl _) PickC.pick rfl (PV.loadF (v := v16) (j := 0) rfl Sc2 rfl rfl (El.o (getG (by omega))) rfl) ?_
            refine RH.pv rfl (fun _ _ _ _ h => h) (Gh.le_refl _) PickC.pick rfl (PV.move (v := v16) rfl rfl) ?_
            refine RH.pv rfl (fun _ _ _ _ h => h) (Gh.le_refl _) PickC.pick rfl (PV.mvI (.inl rfl) rfl) ?_
            refine RH.pv rfl (fun _ _ _ _ h => h) (Gh.le_refl _) PickC.pick rfl (PV.idxS (v := v16) rfl Is91 rfl SlF.o rfl rfl (by omega)) ?_
            refine RH.pv rfl (fun _ _ _ _ h => h) (Gh.le_refl _) PickC.pick rfl (PV.field rfl Fo145_1 rfl) ?_
            refine RH.pv rfl (fun _ _ _ _ h => h) (Gh.le_refl _) PickC.pick rfl (PV.loadF rfl Sc142 rfl rfl (El.o (getG (by omega))) rfl) ?_
            refine RH.ot rfl rfl (OT.callF (vs := [_]) rfl En114 rfl (l03Canon_s (Rs.inCels (xs := csv16) i (by omega)) hl6 (fun v57 => ⟨Gh.le_refl _, PickC.pick, ?_⟩)))
            refine RH.up1 ?_
            refine RH.pv rfl (fun _ _ _ _ h => h) (Gh.le_refl _) PickC.pick rfl (PV.build (vs := [(0, [vi _]), (1, [v57])]) (out := [_, _]) rfl Zr132 Pl132 ⟨rfl, (Cl.c rfl), ⟨rfl, (Cl.s (v := v57) SlF.o), trivial⟩⟩ rfl) ?_
            refine RH.ot rfl rfl (OT.bslice (F := pieceT) (els := [⟨(gd csv16 i).layer, ⟨v57, canon (gd csv16 i).cells.xs⟩⟩]) rfl El127 rfl (by decide) rfl (by decide) ⟨rfl, (Cl.c rfl), trivial⟩ fun v59 => ⟨Gh.le_refl _, PickC.pick, ?_⟩)
            refine RH.ot rfl rfl (OT.append (v := p) (u := v59) (F := pieceT) rfl El127 rfl (by decide) rfl rfl Rs.o (OneL.one (OneC.val rfl (OneC.sl SlF.o OneC.nil))) rfl (by first | omega | (simp <;> omega)) fun v60 => ⟨Gh.le_refl _, PickC.pick, ?_⟩)
            refine RH.pv rfl (fun _ _ _ _ h => h) (Gh.le_refl _) PickC.pick rfl (PV.asg (v := v60) rfl rfl) ?_
            refine RH.nil ?_
            refine WP.region ?_
            refine RG.pv rfl (PV.mvI (.inl rfl) rfl) ?_
            refine RG.pv rfl (PV.add rfl rfl rfl (by omega)) ?_
            refine RG.pv rfl (PV.mvI (.inr rfl) rfl) ?_
            refine RG.nil ?_
            refine ⟨rfl, i + 1, (ps ++ [⟨(gd csv16 i).layer, ⟨v57, canon (gd csv16 i).cells.xs⟩⟩]), (bs ++ [⟨v57, canon (gd csv16 i).cells.xs⟩]), v60, ⟨by omega, ?_, by rw [hbs]; simp [regs]⟩, ⟨rfl, rfl, trivial⟩, ⟨rfl, rfl, rfl, rfl, rfl, trivial⟩, ((Cv.p (C := osl 59 rectT v57 (canon (gd csv16 i).cells.xs) :: bagS 59 rectT bs :: osl 132 pieceT v60 (ps ++ [⟨(gd csv16 i).layer, ⟨v57, canon (gd csv16 i).cells.xs⟩⟩]) :: osl 129 netT q zs :: bagS 132 pieceT (nps zs) :: osl 145 partT v16 csv16 :: bagS 4 boolT (cels csv16) :: osl 2 intT w21 (nums (clsL (er xs))) :: L)).trans (Cv.bagS_add.trans Cv.p)), by omega⟩
            rw [hfs, List.map_append, ← hps, erPs, List.map_append]
            have := hce i h7
            rw [List.map_cons, List.map_nil, List.map_cons, List.map_nil, ← this]; rfl
          · have h8 := of_decide_eq_false h8
            have h9 : ¬ numR (clsL (er xs)) i = n := by omega
            rw [if_neg h9, List.append_nil] at hfs
            refine WP.skip ?_
            refine WP.region ?_
            refine RG.pv rfl (PV.mvI (.inl rfl) rfl) ?_
            refine RG.pv rfl (PV.add rfl rfl rfl (by omega)) ?_
            refine RG.pv rfl (PV.mvI (.inr rfl) rfl) ?_
            refine RG.nil ?_
            exact ⟨rfl, i + 1, ps, bs, p, ⟨by omega, by rw [hfs]; exact hps, hbs⟩, ⟨rfl, rfl, trivial⟩, ⟨rfl, rfl, rfl, rfl, rfl, trivial⟩, Cv.p, by omega⟩
        · have h6 := of_decide_eq_false h6
          obtain rfl : i = csv16.length := by omega
          have hnz : (netL (er xs)).take (n + 1) = (netL (er xs)).take n ++ [erPs ps] := by
            rw [List.take_add_one, getG (by omega), netL_gd (by omega), ← hcsl, ← hps]; rfl
          refine WP.exit ?_
          refine WP.region ?_
          refine RG.pv rfl (PV.move (v := q) rfl rfl) ?_
          refine RG.pv rfl (PV.move (v := p) rfl rfl) ?_
          refine RG.pv rfl (PV.build (vs := [(0, [p])]) (out := [_]) rfl Zr129 Pl129 ⟨rfl, (Cl.s (v := p) SlF.o), trivial⟩ rfl) ?_
          refine RG.ot rfl (OT.bslice (F := netT) (els := [⟨⟨p, ps⟩⟩]) rfl El81 rfl (by decide) rfl (by decide) ⟨rfl, (Cl.c rfl), trivial⟩ fun v64 => ?_)
          refine RG.ot rfl (OT.append (v := q) (u := v64) (F := netT) rfl El81 rfl (by decide) rfl rfl Rs.o (OneL.one (OneC.sl SlF.o OneC.nil)) rfl (by first | omega | (simp <;> omega)) fun v65 => ?_)
          refine RG.pv rfl (PV.asg (v := v65) rfl rfl) ?_
          refine RG.nil ?_
          refine WP.region ?_
          refine RG.pv rfl (PV.mvI (.inl rfl) rfl) ?_
          refine RG.pv rfl (PV.add rfl rfl rfl (by omega)) ?_
          refine RG.pv rfl (PV.mvI (.inr rfl) rfl) ?_
          refine RG.nil ?_
          exact ⟨rfl, n + 1, (zs ++ [⟨⟨p, ps⟩⟩]), v65, ⟨by omega, by rw [hnz, ← hzs, nps_append, er_append, List.map_append]; rfl⟩, ⟨rfl, rfl, trivial⟩, ⟨rfl, rfl, rfl, trivial⟩, ((Cv.p (C := osl 132 pieceT p ps :: bagS 132 pieceT (nps zs) :: bagS 59 rectT bs :: osl 129 netT v65 (zs ++ [⟨⟨p, ps⟩⟩]) :: osl 145 partT v16 csv16 :: bagS 4 boolT (cels csv16) :: osl 2 intT w21 (nums (clsL (er xs))) :: L)).trans ((Cv.grow (ys' := nps (zs ++ [⟨⟨p, ps⟩⟩])) (by simp [nps])).trans ((Cv.cons (Cv.bagPerm (ys := regs (er (nps (zs ++ [⟨⟨p, ps⟩⟩]))).flatten) (.of_eq (by rw [hbs, nps_append, er_append, List.flatten_append]; simp [nps, er])))).trans Cv.p))), by omega⟩
      · have h5 := of_decide_eq_false h5
        have hzs2 : (er (nps zs)).map erPs = netL (er xs) := by rw [hzs, List.take_of_length_le (by omega)]
        refine WP.exit ?_
        refine WP.seq ?_
        refine WP.region ?_
        refine RG.pv rfl (PV.move (v := q) rfl rfl) ?_
        refine RG.pv rfl (PV.asg (v := q) rfl rfl) ?_
        refine RG.pv rfl (PV.mvI (.inr rfl) rfl) ?_
        refine RG.nil ?_
        refine WP.ret ?_
        exact ⟨_, _, ResV.two rfl rfl rfl, Cv.p, k q zs hzs2⟩
end Go.Proofs.YthjaopefoiploaaGreat
