/-
  The law of the pieces of nets, whatever the drawn layout.
-/
import Derived.Test.YtilccgeldnlgnaaW25
import Derived.Test.YtilccgeldnlgnaaW30
import Derived.Test.YtilccgeldnlgnaaNets3
import Derived.Test.YtilccgeldnlgnaaW9
import Derived.Test.YtilccgeldnlgnaaW10
namespace Go.Proofs.Ytilccgeldnlgnaa
open Go
set_option maxRecDepth 20000
set_option linter.unusedSimpArgs false
variable {G : Gh} {L : List Ch} {R : Value → Gh → List Ch → Prop}
theorem drawn_hd {e e' : TypeId} {v0 : Value} {xs ys : List (Sl Rect)} (h : ∀ s ∈ xs, s ∈ ys) : RsE G [osl e' slT v0 ys, bagS e rectT ys] rectT xs := fun _ hi => Rs.memB (h _ (gd_mem hi))
theorem er_regs (ps : List Piece) : er (regs ps) = (erPs ps).map Prod.snd := by simp [er, regs, erPs, erP, Function.comp_def]
def netP (z : List (Int × List Rect)) : Int := max 0 (netCE z)
theorem areaS_nn {xs : List Rect} (h : isReg xs = true) : 0 ≤ areaS xs := by
  rw [areaS_reg h]; exact (cnt_le _).1
theorem netL_netP {l : List (List Rect)} {z : List (Int × List Rect)} (h : z ∈ netL l) : netCE z = netP z := by
  have h1 := netCE_eq (netL_reg h)
  have h2 : 0 ≤ costL (fun p : Int × List Rect => areaS p.2) z := by
    have : ∀ w : List (Int × List Rect), (∀ p ∈ w, isReg p.2 = true) → 0 ≤ costL (fun p : Int × List Rect => areaS p.2) w := fun w => by
      induction w with
      | nil => intro _; exact Int.le_refl _
      | cons p w ih => intro hw; have a := areaS_nn (hw p (.head _)); have b := ih fun q hq => hw q (.tail _ hq); simp only [costL]; omega
    exact this z (netL_reg h)
  rw [netP]; omega
theorem netP_nn (z : List (Int × List Rect)) : 0 ≤ netP z := by simp only [netP]; omega
theorem netP_total (l : List (List Rect)) : costL netP (netL l) = costL cnt (condB l) := by
  rw [← netL_cells]; exact costL_congr fun z hz => (netL_netP hz).symm
theorem condB_total (l : List (List Rect)) : costL cnt (condB l) ≤ 25600 := by
  have h : ∀ bs : List Bool, bs.length = 6400 → cnt bs ≤ 6400 := fun bs hb => by have := (cnt_le bs).2; omega
  have h1 : costL cnt (condB l) ≤ 6400 * (condB l).length := costL_bd fun bs hb => by
    obtain ⟨i, hi, rfl⟩ := List.getElem_of_mem hb
    rw [← gd_eq hi]; exact h _ (condB_len l hi)
  have : (condB l).length = 4 := rfl
  omega
theorem pcE_len_eq {l : List (List Rect)} (h : isLay l = true) : (pcE l).length = (pcL l 4).length := by rw [pcE, h, cond_true, List.length_map]
theorem areaE_canon {bs : List Bool} (h : bs.length = 6400) : areaE (canon bs) = cnt bs := by
  rw [areaE, isReg_canon h, bits_canon h]; rfl
theorem law_FnPieces {cv : Value} {bs : List UInt8} (hcode : SL G byteT cv bs) (k : R (.bool true) G L) : CallT Try.prog 8 #[cv] G L R := by
  refine CallT.enter (args := _) Try.func8 rfl rfl (by kernel_rfl) rfl ?_
  refine WP.seq ?_
  refine WP.region ?_
  refine RG.pv rfl (PV.mvB (.inr rfl) rfl) ?_
  refine RG.nil ?_
  refine WP.seq ?_
  refine WP.seq ?_
  refine WP.region ?_
  refine RG.pv rfl (PV.move (v := cv) rfl rfl) ?_
  refine RG.callF (vs := [cv]) rfl rfl En24 rfl (big_s hcode ?_)
  refine RG.nil ?_
  refine WP.cond rfl (fun h1 => ?_) (fun h1 => ?_)
  · refine WP.seq ?_
    refine WP.region ?_
    refine RG.pv rfl (PV.mvB (.inr rfl) rfl) ?_
    refine RG.nil ?_
    refine WP.ret ?_
    exact ⟨_, _, ResV.one rfl rfl, Cv.p, k⟩
  · refine WP.skip ?_
    refine WP.seq ?_
    refine WP.region ?_
    refine RG.pv rfl (PV.move (v := cv) rfl rfl) ?_
    refine RG.callF (vs := [cv]) rfl rfl En40 rfl (drawNets_s hcode (fun v14 v0 xs ys hxs hmem hxl => ?_))
    refine RG.pv rfl (PV.asg (v := v14) rfl rfl) ?_
    refine RG.nil ?_
    refine WP.seq ?_
    refine WP.region ?_
    refine RG.pv rfl (PV.move (v := v14) rfl rfl) ?_
    refine RG.callF (vs := [v14]) rfl rfl En41 rfl (nets_i (Rs.up hxs) (drawn_hd (v0 := v0) (e := 81) (e' := 24) hmem).up (fun w17 zsw17 hew17 => ?_))
    refine RG.pv rfl (PV.move (v := .tuple _) rfl rfl) ?_
    refine RG.pv rfl (PV.ext (v := w17) rfl rfl rfl) ?_
    refine RG.pv rfl (PV.ext rfl rfl rfl) ?_
    refine RG.pv rfl (PV.asg (v := w17) rfl rfl) ?_
    refine RG.pv rfl (PV.mvI (.inr rfl) rfl) ?_
    refine RG.nil ?_
    refine WP.seq ?_
    refine WP.seq ?_
    refine WP.region ?_
    refine RG.pv rfl (PV.move (v := v14) rfl rfl) ?_
    refine RG.callF (vs := [v14]) rfl rfl En31 rfl (isLayoutS_s (Rs.up hxs) (drawn_hd (v0 := v0) (e := 81) (e' := 24) hmem).up ?_)
    refine RG.pv rfl (PV.not rfl rfl) ?_
    refine RG.pv rfl (PV.mvB (.inl rfl) rfl) ?_
    refine RG.gs rfl rfl rfl (fun hp => (PV.mvI (.inl rfl) rfl)) ?_
    refine RG.gs rfl rfl rfl (fun hp => (PV.neq rfl (gs_t hp) rfl)) ?_
    refine RG.pv rfl (PV.pickO rfl rfl rfl (fun hq => gs_t (geqF hq))) ?_
    refine RG.nil ?_
    have hzn : (er (nps zsw17)).map erPs = netR (er xs) := hew17
    have hzl := congrArg List.length hzn
    rw [List.length_map, er_len, nps_len] at hzl
    refine WP.cond rfl (fun h2 => ?_) (fun h2 => ?_)
    · have h3 : netE (er xs) ≠ 0 := by
        intro h; have := (netE_ok h).1; simp [this, h] at h2
      rw [netR, if_neg h3] at hzl
      have hz0 : zsw17.length = 0 := hzl
      have e : (decide ((zsw17.length : Int) = 0) && !decide (netE (er xs) = 0)) = true := by simp [hz0, h3]
      rw [← e] at k
      refine WP.seq ?_
      refine WP.region ?_
      refine RG.pv rfl (PV.move (v := w17) rfl rfl) ?_
      refine RG.pv rfl (PV.len (v := w17) rfl Try.underlying59 rfl SlF.o) ?_
      refine RG.pv rfl (PV.eql rfl rfl rfl) ?_
      refine RG.pv rfl (PV.mvB (.inl rfl) rfl) ?_
      refine RG.gs rfl rfl rfl (fun hp => (PV.mvI (.inl rfl) rfl)) ?_
      refine RG.gs rfl rfl rfl (fun hp => (PV.neq rfl (gs_t hp) rfl)) ?_
      refine RG.pv rfl (PV.pickA rfl rfl (fun hq => gs_t (geqT hq)) rfl) ?_
      refine RG.pv rfl (PV.mvB (.inr rfl) rfl) ?_
      refine RG.nil ?_
      refine WP.ret ?_
      exact ⟨_, _, ResV.one rfl rfl, Cv.p, k⟩
    · have h3 : netE (er xs) = 0 := by
        have : isLay (er xs) = true ∧ netE (er xs) = 0 := by
          revert h2; cases isLay (er xs) <;> simp
        exact this.2
      obtain ⟨hlay, hn24⟩ := netE_ok h3
      rw [netR, if_pos h3] at hzn hzl
      rw [netL_len] at hzl
      have hgz : ∀ i, i < zsw17.length → gd (netL (er xs)) i = erPs (gd zsw17 i).pieces.xs := fun i hi => by
        rw [← hzn, gd_map _ (by rw [er_len, nps_len]; exact hi), er_gd, nps_gd hi]
      have hmz : ∀ i, i < zsw17.length → gd (netL (er xs)) i ∈ netL (er xs) := fun i hi => gd_mem (by rw [netL_len]; omega)
      have hp2 : ∀ i, i < zsw17.length → Rs G [bagS 128 pieceT (nps zsw17)] pieceT (gd zsw17 i).pieces.v (gd zsw17 i).pieces.xs := fun i hi => by
        have := Rs.inBag (G := G) (L := [bagS 128 pieceT (nps zsw17)]) (L' := []) (e := 128) (F := pieceT) (xs := nps zsw17) i (by rw [nps_len]; exact hi)
        rwa [nps_gd hi] at this
      have hr2 : ∀ i, i < zsw17.length → RsE G [bagS 81 rectT (regs (er (nps zsw17)).flatten)] rectT (regs (gd zsw17 i).pieces.xs) := fun i hi => RsE.flat (L := [bagS 81 rectT (regs (er (nps zsw17)).flatten)]) (L' := []) (e := 81) hi
      have hcn := netL_count (er xs)
      have hpl := pcL_len (er xs) 4
      have hlen0 : ∀ z : List (Int × List Rect), 0 ≤ (z.length : Int) := fun z => by omega
      have htot := netP_total (er xs)
      have hct := condB_total (er xs)
      refine WP.skip ?_
      refine WP.seq ?_
      refine WP.region ?_
      refine RG.pv rfl (PV.mvI (.inr rfl) rfl) ?_
      refine RG.pv rfl (PV.mvI (.inr rfl) rfl) ?_
      refine RG.nil ?_
      refine WP.seq ?_
      refine WP.seq ?_
      refine WP.region ?_
      refine RG.pv rfl (PV.mvI (.inr rfl) rfl) ?_
      refine RG.nil ?_
      refine WP.block ?_
      refine WP.loop3 [3, 4] (fun (i : Nat) (s p : Int) => i ≤ zsw17.length ∧ s = costL netP ((netL (er xs)).take i) ∧ p = costL (fun z => (z.length : Int)) ((netL (er xs)).take i)) (fun (i : Nat) (s p : Int) => [(8, vi i), (6, vi s), (7, vi p)]) (fun (i : Nat) (s p : Int) => osl 71 netT w17 zsw17 :: bagS 128 pieceT (nps zsw17) :: bagS 81 rectT (regs (er (nps zsw17)).flatten) :: osl 24 slT v0 ys :: bagS 81 rectT ys :: L) (fun (i : Nat) (s p : Int) => zsw17.length - i) 0 0 0 ⟨by omega, rfl, rfl⟩ ⟨rfl, rfl, rfl, trivial⟩ Cv.p ?_
      rintro i s p τ ⟨hi, hs, hp⟩
      refine WP.seq ?_
      refine WP.seq ?_
      refine WP.region ?_
      refine RG.pv rfl (PV.mvI (.inl rfl) rfl) ?_
      refine RG.pv rfl (PV.move (v := w17) rfl rfl) ?_
      refine RG.pv rfl (PV.len (v := w17) rfl Try.underlying59 rfl SlF.o) ?_
      refine RG.pv rfl (PV.lss rfl rfl rfl) ?_
      refine RG.nil ?_
      have b1 := costL_nonneg netP_nn ((netL (er xs)).take i)
      have b2 := costL_le netP_nn (netL (er xs)) i
      have b3 := costL_nonneg hlen0 ((netL (er xs)).take i)
      have b4 := costL_le hlen0 (netL (er xs)) i
      refine WP.cond rfl (fun h4 => ?_) (fun h4 => ?_)
      · have h4 := of_decide_eq_true h4
        have h5 : i < zsw17.length := by omega
        have c1 := costL_take netP (xs := netL (er xs)) (i := i) (by rw [netL_len]; omega)
        have c2 := costL_take (fun z : List (Int × List Rect) => (z.length : Int)) (xs := netL (er xs)) (i := i) (by rw [netL_len]; omega)
        have c3 := costL_le netP_nn (netL (er xs)) (i + 1)
        have c4 := costL_le hlen0 (netL (er xs)) (i + 1)
        have c5 : netC (er (regs (gd zsw17 i).pieces.xs)) = netP (gd (netL (er xs)) i) := by
          rw [← netL_netP (hmz i h5), hgz i h5, er_regs]; rfl
        have c6 : ((gd (netL (er xs)) i).length : Int) = ((gd zsw17 i).pieces.xs.length : Int) := by rw [hgz i h5, erPs_len]
        have c7 := netP_nn (gd (netL (er xs)) i)
        have c8 : (gd zsw17 i).pieces.xs.length ≤ 25600 := by omega
        refine WP.skip ?_
        refine WP.seq ?_
        refine WP.block ?_
        refine WP.seq ?_
        refine WP.region ?_
        refine RG.pv rfl (PV.mvI (.inl rfl) rfl) ?_
        refine RG.pv rfl (PV.move (v := w17) rfl rfl) ?_
        refine RG.pv rfl (PV.mvI (.inl rfl) rfl) ?_
        refine RG.pv rfl (PV.idxS (v := w17) rfl Is59 rfl SlF.o rfl rfl (by omega)) ?_
        refine RG.pv rfl (PV.loadE rfl Ag71 rfl rfl (El.o (getG (by omega)))) ?_
        refine RG.callF (vs := [_]) rfl rfl En46 rfl (netC_i (n := gd zsw17 i) (Rs.up (hp2 i (by omega))) (hr2 i (by omega)).up (by omega) ?_)
        refine RG.pv rfl (PV.add rfl rfl rfl (by omega)) ?_
        refine RG.pv rfl (PV.mvI (.inr rfl) rfl) ?_
        refine RG.nil ?_
        refine WP.region ?_
        refine RG.pv rfl (PV.mvI (.inl rfl) rfl) ?_
        refine RG.pv rfl (PV.move (v := w17) rfl rfl) ?_
        refine RG.pv rfl (PV.mvI (.inl rfl) rfl) ?_
        refine RG.pv rfl (PV.idxS (v := w17) rfl Is59 rfl SlF.o rfl rfl (by omega)) ?_
        refine RG.pv rfl (PV.field rfl Fo71_0 rfl) ?_
        refine RG.pv rfl (PV.loadF (v := w17) (j := 0) rfl Sc69 rfl rfl (El.o (getG (by omega))) rfl) ?_
        refine RG.pv rfl (PV.len rfl Try.underlying69 rfl (SlF.r (hp2 i h5))) ?_
        refine RG.pv rfl (PV.add rfl rfl rfl (by omega)) ?_
        refine RG.pv rfl (PV.mvI (.inr rfl) rfl) ?_
        refine RG.nil ?_
        refine WP.region ?_
        refine RG.pv rfl (PV.mvI (.inl rfl) rfl) ?_
        refine RG.pv rfl (PV.add rfl rfl rfl (by omega)) ?_
        refine RG.pv rfl (PV.mvI (.inr rfl) rfl) ?_
        refine RG.nil ?_
        exact ⟨rfl, i + 1, _, _, ⟨by omega, by omega, by omega⟩, ⟨rfl, rfl, rfl, trivial⟩, ⟨rfl, rfl, trivial⟩, Cv.p, by omega⟩
      · have h4 := of_decide_eq_false h4
        obtain rfl : i = zsw17.length := by omega
        rw [List.take_of_length_le (by rw [netL_len]; omega)] at hs hp
        have hcl : condR (er xs) = (condB (er xs)).map canon := by rw [condR, hlay]; rfl
        have hcb4 : (condB (er xs)).length = 4 := rfl
        have hcnn : ∀ b : List Bool, 0 ≤ cnt b := fun b => (cnt_le b).1
        refine WP.exit ?_
        refine WP.seq ?_
        refine WP.region ?_
        refine RG.pv rfl (PV.move (v := v14) rfl rfl) ?_
        refine RG.callF (vs := [v14]) rfl rfl En47 rfl (condR_i (Rs.up hxs) (drawn_hd (v0 := v0) (e := 81) (e' := 24) hmem).up (fun v56 zsv56 hev56 => ?_))
        refine RG.pv rfl (PV.asg (v := v56) rfl rfl) ?_
        refine RG.nil ?_
        refine WP.seq ?_
        refine WP.seq ?_
        refine WP.region ?_
        refine RG.pv rfl (PV.mvI (.inr rfl) rfl) ?_
        refine RG.nil ?_
        refine WP.block ?_
        have hz4 : zsv56.length = 4 := by have := congrArg List.length hev56; rw [er_len, hcl, List.length_map] at this; exact this
        have hza : ∀ i, i < 4 → areaE (gd zsv56 i).xs = cnt (gd (condB (er xs)) i) := fun i hi => by
          rw [← er_gd, hev56, hcl, gd_map _ (by omega)]; exact areaE_canon (condB_len _ hi)
        refine WP.loop2 [3, 7, 9] (fun (i : Nat) (s2 : Int) => i ≤ 4 ∧ s2 = s - costL cnt ((condB (er xs)).take i)) (fun (i : Nat) (s2 : Int) => [(10, vi i), (6, vi s2)]) (fun (i : Nat) (s2 : Int) => osl 24 slT v56 zsv56 :: bagS 81 rectT zsv56 :: osl 24 slT v0 ys :: bagS 81 rectT ys :: L) (fun (i : Nat) (s2 : Int) => 4 - i) 0 s ⟨by omega, by simp [costL]⟩ ⟨rfl, rfl, trivial⟩ Cv.p ?_
        rintro i s2 τ2 ⟨hi2, hs2⟩
        refine WP.seq ?_
        refine WP.seq ?_
        refine WP.region ?_
        refine RG.pv rfl (PV.mvI (.inl rfl) rfl) ?_
        refine RG.pv rfl (PV.move (v := v56) rfl rfl) ?_
        refine RG.pv rfl (PV.len (v := v56) rfl Try.underlying27 rfl SlF.o) ?_
        refine RG.pv rfl (PV.lss rfl rfl rfl) ?_
        refine RG.nil ?_
        have d1 := costL_nonneg hcnn ((condB (er xs)).take i)
        have d2 := costL_le hcnn (condB (er xs)) i
        refine WP.cond rfl (fun h5 => ?_) (fun h5 => ?_)
        · have h5 := of_decide_eq_true h5
          have d3 := costL_take cnt (xs := condB (er xs)) (i := i) (by omega)
          have d4 := costL_le hcnn (condB (er xs)) (i + 1)
          have d5 := hza i (by omega)
          have d6 := hcnn (gd (condB (er xs)) i)
          refine WP.skip ?_
          refine WP.seq ?_
          refine WP.block ?_
          refine WP.region ?_
          refine RG.pv rfl (PV.mvI (.inl rfl) rfl) ?_
          refine RG.pv rfl (PV.move (v := v56) rfl rfl) ?_
          refine RG.pv rfl (PV.mvI (.inl rfl) rfl) ?_
          refine RG.pv rfl (PV.idxS (v := v56) rfl Is27 rfl SlF.o rfl rfl (by omega)) ?_
          refine RG.pv rfl (PV.loadE1 rfl Sc24 rfl rfl (El.o (getG (by omega))) rfl) ?_
          refine RG.callF (vs := [_]) rfl rfl En48 rfl (regArea_s (Rs.inBag (xs := zsv56) i (by omega)) ?_)
          refine RG.pv rfl (PV.sub rfl rfl rfl (by omega)) ?_
          refine RG.pv rfl (PV.mvI (.inr rfl) rfl) ?_
          refine RG.nil ?_
          refine WP.region ?_
          refine RG.pv rfl (PV.mvI (.inl rfl) rfl) ?_
          refine RG.pv rfl (PV.add rfl rfl rfl (by omega)) ?_
          refine RG.pv rfl (PV.mvI (.inr rfl) rfl) ?_
          refine RG.nil ?_
          exact ⟨rfl, i + 1, _, ⟨by omega, by omega⟩, ⟨rfl, rfl, trivial⟩, ⟨rfl, rfl, rfl, trivial⟩, Cv.p, by omega⟩
        · have h5 := of_decide_eq_false h5
          obtain rfl : i = 4 := by omega
          rw [List.take_of_length_le (by omega)] at hs2
          have hs0 : s2 = 0 := by omega
          refine WP.exit ?_
          refine WP.seq ?_
          refine WP.region ?_
          refine RG.pv rfl (PV.mvI (.inl rfl) rfl) ?_
          refine RG.pv rfl (PV.eql rfl rfl rfl) ?_
          refine RG.pv rfl (PV.mvB (.inl rfl) rfl) ?_
          refine RG.spl (t := 72) rfl (fun g1 => ?_) (fun g1 => ?_)
          · refine RG.take rfl rfl rfl g1 ?_
            refine RG.pv rfl (PV.mvI (.inl rfl) rfl) ?_
            refine RG.take rfl rfl rfl g1 ?_
            refine RG.pv rfl (PV.move (v := v14) rfl rfl) ?_
            refine RG.take rfl rfl rfl g1 ?_
            refine RG.callF (vs := [v14]) rfl rfl En49 rfl (pieces_i (Rs.up hxs) (drawn_hd (v0 := v0) (e := 81) (e' := 24) hmem).up (fun v75 psv75 hev75 => ?_))
            refine RG.take rfl rfl rfl g1 ?_
            refine RG.pv rfl (PV.len (v := v75) rfl Try.underlying69 rfl SlF.o) ?_
            refine RG.take rfl rfl rfl g1 ?_
            refine RG.pv rfl (PV.eql rfl rfl rfl) ?_
            refine RG.pv rfl (PV.pickT rfl rfl g1 rfl) ?_
            refine RG.pv rfl (PV.mvB (.inl rfl) rfl) ?_
            refine RG.spl (t := 79) rfl (fun g2 => ?_) (fun g2 => ?_)
            · have e : decide ((zsv56.length : Int) = 4) = true := by simp [hz4]
              rw [← e] at k
              refine RG.take rfl rfl rfl g2 ?_
              refine RG.pv rfl (PV.move (v := v56) rfl rfl) ?_
              refine RG.take rfl rfl rfl g2 ?_
              refine RG.pv rfl (PV.len (v := v56) rfl Try.underlying27 rfl SlF.o) ?_
              refine RG.take rfl rfl rfl g2 ?_
              refine RG.pv rfl (PV.eql rfl rfl rfl) ?_
              refine RG.pv rfl (PV.pickT rfl rfl g2 rfl) ?_
              refine RG.pv rfl (PV.mvB (.inr rfl) rfl) ?_
              refine RG.nil ?_
              refine WP.ret ?_
              exact ⟨_, _, ResV.one rfl rfl, Cv.p, k⟩
            · exfalso
              have hpn : psv75.length = (pcL (er xs) 4).length := by
                have := congrArg List.length hev75
                rwa [erPs_len, pcE_len_eq hlay] at this
              have g2 := of_decide_eq_false g2
              omega
          · exfalso
            simp [hs0] at g1
end Go.Proofs.Ytilccgeldnlgnaa
