/-
  Contracts of functions and plain facts that the last text of this folder uses, part 5.
-/
import Derived.Test.YtmomfgfmnpblpaaGreatCA4
import Derived.ProofKit
import Derived.Deep.Slices
import Derived.Carry
namespace Go.Proofs.YtmomfgfmnpblpaaGreat
set_option linter.unusedVariables false
set_option linter.unusedSimpArgs false
open Go
set_option maxRecDepth 20000
set_option linter.unusedSimpArgs false
variable {G : Gh} {L : List Ch} {R : Value → Gh → List Ch → Prop}
theorem partsC_len (l : List (List Rect)) : (partsC l).length ≤ 6400 := by
  rw [partsC, partsL_len]; exact firsts_len _ _
theorem partsC_at {l : List (List Rect)} {ys : List (Sl Rect)} (h : er ys = partsC l) : ys.length ≤ 6400 ∧ ∀ i, i < ys.length → i < (partsC l).length ∧ gd (partsC l) i = (gd ys i).xs ∧ 0 < (gd ys i).xs.length ∧ isReg (gd ys i).xs = true := by
  have hl : ys.length = (partsC l).length := by rw [← h, er_len]
  refine ⟨by have := partsC_len l; omega, fun i hi => ?_⟩
  have e : gd (partsC l) i = (gd ys i).xs := by rw [← h, er_gd]
  have := partsC_ne (l := l) (g := (gd ys i).xs) (by rw [← e]; exact gd_mem (by omega))
  exact ⟨by omega, e, this⟩
theorem hasK_some {l : List (List Rect)} {box : Rect} {g : List Rect} (h : (partsC l).find? (hasG box) = some g) : hasK l box = (chK l g, chW l g) := by
  unfold hasK chW; rw [h]
theorem hasK_none {l : List (List Rect)} {box : Rect} (h : (partsC l).find? (hasG box) = none) : hasK l box = (-1, 0) := by
  unfold hasK; rw [h]
theorem l24Has_s {v : Value} {xs : List (Sl Rect)} {box : Rect} (h1 : Rs G L slT v xs) (hd : RsE G L rectT xs) (hlay : isLay (er xs) = true) (k : R (.tuple #[vi (hasK (er xs) box).1, vi (hasK (er xs) box).2]) G L) : CallT Tryz.prog 75 #[v, vrect box] G L R := by
  refine CallT.enter (args := _) Tryz.func75 rfl rfl (by kernel_rfl) rfl ?_
  refine WP.seq ?_
  refine WP.region ?_
  refine RG.ot rfl (OT.box (cs := rectT.enc box) rfl rfl rfl fun b3 => ?_)
  refine RG.pv rfl (PV.mvI (.inr rfl) rfl) ?_
  refine RG.pv rfl (PV.mvI (.inr rfl) rfl) ?_
  refine RG.nil ?_
  refine WP.seq ?_
  refine WP.region ?_
  refine RG.pv rfl (PV.move (v := v) rfl rfl) ?_
  refine RG.callF (vs := [v]) rfl rfl En121 rfl (l24Parts_s (Rs.up h1) hd.up hlay (fun v9 ysv9 hev9 => ?_))
  refine RG.pv rfl (PV.asg (v := v9) rfl rfl) ?_
  refine RG.nil ?_
  refine WP.seq ?_
  refine WP.seq ?_
  refine WP.region ?_
  refine RG.pv rfl (PV.mvI (.inr rfl) rfl) ?_
  refine RG.nil ?_
  refine WP.block ?_
  obtain ⟨hyl, hya⟩ := partsC_at hev9
  refine WP.loop1 [0, 3, 6] (fun i => i ≤ ysv9.length ∧ ∀ j, j < i → hasG box (gd (partsC (er xs)) j) = false) (fun i => [(7, vi i)]) (fun i => osl 56 slT v9 ysv9 :: bagS 61 rectT ysv9 :: blk b3 61 (rectT.enc box) :: L) (fun i => ysv9.length - i) 0 ⟨by omega, fun j h => by omega⟩ ⟨rfl, trivial⟩ Cv.p ?_
  rintro i τ ⟨hi, hn⟩
  refine WP.seq ?_
  refine WP.seq ?_
  refine WP.region ?_
  refine RG.pv rfl (PV.mvI (.inl rfl) rfl) ?_
  refine RG.pv rfl (PV.move (v := v9) rfl rfl) ?_
  refine RG.pv rfl (PV.len (v := v9) rfl Tryz.underlying29 rfl SlF.o) ?_
  refine RG.pv rfl (PV.lss rfl rfl rfl) ?_
  refine RG.nil ?_
  refine WP.cond rfl (fun h2 => ?_) (fun h2 => ?_)
  · have h2 := of_decide_eq_true h2
    obtain ⟨hp, hpe, hg0, hgr⟩ := hya i (by omega)
    have hgl := isReg_len hgr
    have hzr : Rs G (bagS 61 rectT ysv9 :: L) rectT (gd ysv9 i).v (gd ysv9 i).xs := Rs.inBag (L := bagS 61 rectT ysv9 :: L) (L' := L) (e := 61) i (by omega)
    refine WP.skip ?_
    refine WP.seq ?_
    refine WP.block ?_
    refine WP.seq ?_
    refine WP.regionQ (by kernel_rfl) (by kernel_rfl) ?_
    refine RQ.pv rfl (PV.move (v := v9) rfl rfl) ?_
    refine RQ.pv rfl (PV.mvI (.inl rfl) rfl) ?_
    refine RQ.pv rfl (PV.idxS (v := v9) rfl Is29 rfl SlF.o rfl rfl (by omega)) ?_
    refine RQ.pv rfl (PV.loadE1 rfl Sc56 rfl rfl (El.o (getG (by omega))) rfl) ?_
    refine RQ.pv rfl (PV.len rfl Tryz.underlying56 rfl (SlF.r hzr)) ?_
    refine RQ.pv rfl (PV.eql rfl rfl rfl) ?_
    refine RQ.pv rfl (PV.mvB (.inl rfl) rfl) ?_
    refine RQ.gs rfl rfl rfl (fun hp => (PV.move (v := v9) rfl rfl)) ?_
    refine RQ.gs rfl rfl rfl (fun hp => (PV.mvI (.inl rfl) rfl)) ?_
    refine RQ.gs rfl rfl rfl (fun hp => (PV.idxS (v := v9) rfl Is29 (gs_t hp) SlF.o (gs_t hp) rfl (by first | omega | (simp at hp; omega)))) ?_
    refine RQ.gs rfl rfl rfl (fun hp => (PV.loadE1 rfl Sc56 (gs_t hp) rfl (El.o (getG (by first | omega | (simp at hp; omega)))) rfl)) ?_
    refine RQ.gs rfl rfl rfl (fun hp => (PV.idxS (j := 0) rfl Is56 (gs_t hp) (SlF.r hzr) rfl (by first | omega | (simp at hp; omega)) (by first | omega | (simp at hp; omega)))) ?_
    refine RQ.gs rfl rfl rfl (fun hp => (PV.loadE rfl Ag61 (gs_t hp) rfl (El.r hzr (getG (by first | omega | (simp at hp; omega)))))) ?_
    refine RQ.gs rfl rfl rfl (fun hp => (PV.loadW rfl Ag61 rfl rfl)) ?_
    refine RQ.gs rfl rfl rfl (fun hp => (PV.eqlT rfl Eq61 (gs_t hp) (gs_t hp))) ?_
    refine RQ.pv rfl (PV.pickA rfl rfl (fun hq => gs_t (geqT hq)) rfl) ?_
    refine RQ.nil ?_
    have hb : hasG box (gd (partsC (er xs)) i) = (decide (((gd ysv9 i).xs.length : Int) = 1) && decide (gd (gd ysv9 i).xs 0 = box)) := by
      rw [hpe, hasG]; congr 1; rw [Bool.eq_iff_iff]; simp; omega
    refine WP.cond rfl (fun h3 => ?_) (fun h3 => ?_)
    · have hf : hasK (er xs) box = (chK (er xs) (gd ysv9 i).xs, chW (er xs) (gd ysv9 i).xs) := by
        have := hasK_some (find_gd (i := i) hp (by rw [hb]; exact h3) hn)
        rw [hpe] at this; exact this
      rw [hf] at k
      refine WP.seq ?_
      refine WP.region ?_
      refine RG.pv rfl (PV.move (v := v) rfl rfl) ?_
      refine RG.pv rfl (PV.move (v := v9) rfl rfl) ?_
      refine RG.pv rfl (PV.mvI (.inl rfl) rfl) ?_
      refine RG.pv rfl (PV.idxS (v := v9) rfl Is29 rfl SlF.o rfl rfl (by omega)) ?_
      refine RG.pv rfl (PV.loadE1 rfl Sc56 rfl rfl (El.o (getG (by omega))) rfl) ?_
      refine RG.callF (vs := [v, _]) rfl rfl En122 rfl (l24Channel_s (Rs.up h1) hd.up (Rs.inBag (xs := ysv9) i (by omega)) hlay hg0 hgr ?_)
      refine RG.pv rfl (PV.ext rfl rfl rfl) ?_
      refine RG.pv rfl (PV.ext rfl rfl rfl) ?_
      refine RG.pv rfl (PV.mvI (.inr rfl) rfl) ?_
      refine RG.pv rfl (PV.mvI (.inr rfl) rfl) ?_
      refine RG.nil ?_
      refine WP.ret ?_
      exact ⟨_, _, ResV.two rfl rfl rfl, Cv.p, k⟩
    · refine WP.skip ?_
      refine WP.region ?_
      refine RG.pv rfl (PV.mvI (.inl rfl) rfl) ?_
      refine RG.pv rfl (PV.add rfl rfl rfl (by omega)) ?_
      refine RG.pv rfl (PV.mvI (.inr rfl) rfl) ?_
      refine RG.nil ?_
      exact ⟨rfl, i + 1, ⟨by omega, col_next hn (by rw [hb]; exact h3)⟩, ⟨rfl, trivial⟩, ⟨rfl, rfl, rfl, trivial⟩, Cv.p, by omega⟩
  · have h2 := of_decide_eq_false h2
    have hl : ysv9.length = (partsC (er xs)).length := by rw [← hev9, er_len]
    have hf : hasK (er xs) box = (-1, 0) := hasK_none (find_gd_none fun j hj => hn j (by omega))
    rw [hf] at k
    refine WP.exit ?_
    refine WP.seq ?_
    refine WP.region ?_
    refine RG.pv rfl (PV.mvI (.inr rfl) rfl) ?_
    refine RG.pv rfl (PV.mvI (.inr rfl) rfl) ?_
    refine RG.nil ?_
    refine WP.ret ?_
    exact ⟨_, _, ResV.two rfl rfl rfl, Cv.p, k⟩
noncomputable def kindE (l : List (List Rect)) (box : Rect) : Int := bif isLay l then (hasK l box).1 else -1
def sizeR (r : Rect) (flow : Int) : Int × Int := if flow = 1 then (r.y1 - r.y0, r.x1 - r.x0) else (r.x1 - r.x0, r.y1 - r.y0)
theorem l24Size_s {r : Rect} {f : Int} (hv : validRect r = true) (k : R (.tuple #[vi (sizeR r f).1, vi (sizeR r f).2]) G L) : CallT Tryz.prog 76 #[vrect r, vi f] G L R := by
  have h := validR_iff.1 hv
  refine CallT.enter (args := _) Tryz.func76 rfl rfl (by kernel_rfl) rfl ?_
  refine WP.seq ?_
  refine WP.region ?_
  refine RG.ot rfl (OT.box (cs := rectT.enc r) rfl rfl rfl fun b2 => ?_)
  refine RG.pv rfl (PV.mvI (.inr rfl) rfl) ?_
  refine RG.pv rfl (PV.mvI (.inr rfl) rfl) ?_
  refine RG.nil ?_
  refine WP.seq ?_
  refine WP.seq ?_
  refine WP.region ?_
  refine RG.pv rfl (PV.mvI (.inl rfl) rfl) ?_
  refine RG.pv rfl (PV.eql rfl rfl rfl) ?_
  refine RG.nil ?_
  refine WP.cond rfl (fun h2 => ?_) (fun h2 => ?_)
  · have h2 := of_decide_eq_true h2
    rw [sizeR, if_pos h2] at k
    refine WP.seq ?_
    refine WP.regionQ (by kernel_rfl) (by kernel_rfl) ?_
    refine RQ.pv rfl (PV.field rfl Fo61_3 rfl) ?_
    refine RQ.pv rfl (PV.load1 rfl Sc2 rfl (Rd.blk rfl)) ?_
    refine RQ.pv rfl (PV.field rfl Fo61_1 rfl) ?_
    refine RQ.pv rfl (PV.load1 rfl Sc2 rfl (Rd.blk rfl)) ?_
    refine RQ.pv rfl (PV.sub rfl rfl rfl (by omega)) ?_
    refine RQ.pv rfl (PV.field rfl Fo61_2 rfl) ?_
    refine RQ.pv rfl (PV.load1 rfl Sc2 rfl (Rd.blk rfl)) ?_
    refine RQ.pv rfl (PV.field rfl Fo61_0 rfl) ?_
    refine RQ.pv rfl (PV.load1 rfl Sc2 rfl (Rd.blk rfl)) ?_
    refine RQ.pv rfl (PV.sub rfl rfl rfl (by omega)) ?_
    refine RQ.pv rfl (PV.mvI (.inr rfl) rfl) ?_
    refine RQ.pv rfl (PV.mvI (.inr rfl) rfl) ?_
    refine RQ.nil ?_
    refine WP.ret ?_
    exact ⟨_, _, ResV.two rfl rfl rfl, Cv.p, k⟩
  · have h2 := of_decide_eq_false h2
    rw [sizeR, if_neg h2] at k
    refine WP.skip ?_
    refine WP.seq ?_
    refine WP.regionQ (by kernel_rfl) (by kernel_rfl) ?_
    refine RQ.pv rfl (PV.field rfl Fo61_2 rfl) ?_
    refine RQ.pv rfl (PV.load1 rfl Sc2 rfl (Rd.blk rfl)) ?_
    refine RQ.pv rfl (PV.field rfl Fo61_0 rfl) ?_
    refine RQ.pv rfl (PV.load1 rfl Sc2 rfl (Rd.blk rfl)) ?_
    refine RQ.pv rfl (PV.sub rfl rfl rfl (by omega)) ?_
    refine RQ.pv rfl (PV.field rfl Fo61_3 rfl) ?_
    refine RQ.pv rfl (PV.load1 rfl Sc2 rfl (Rd.blk rfl)) ?_
    refine RQ.pv rfl (PV.field rfl Fo61_1 rfl) ?_
    refine RQ.pv rfl (PV.load1 rfl Sc2 rfl (Rd.blk rfl)) ?_
    refine RQ.pv rfl (PV.sub rfl rfl rfl (by omega)) ?_
    refine RQ.pv rfl (PV.mvI (.inr rfl) rfl) ?_
    refine RQ.pv rfl (PV.mvI (.inr rfl) rfl) ?_
    refine RQ.nil ?_
    refine WP.ret ?_
    exact ⟨_, _, ResV.two rfl rfl rfl, Cv.p, k⟩
noncomputable def sizeE (l : List (List Rect)) (box : Rect) : Int × Int := bif isLay l then (if (hasK l box).1 < 0 then (0, 0) else sizeR box (hasK l box).2) else (0, 0)
theorem hasK_valid {l : List (List Rect)} {box : Rect} (h : ¬ (hasK l box).1 < 0) : validRect box = true := by
  unfold hasK at h
  cases h1 : (partsC l).find? (hasG box) with
  | none => rw [h1] at h; simp at h
  | some g =>
    obtain ⟨i, hi, e, hp⟩ := find_some_gd h1
    simp only [hasG, Bool.and_eq_true, decide_eq_true_eq] at hp
    have hg := partsC_ne (l := l) (g := g) (by rw [e]; exact gd_mem hi)
    rw [← hp.2]; exact valid_first hg.1 hg.2
noncomputable def chanE (l : List (List Rect)) (box : Rect) : Option Chan := bif isLay l then chanW l box else none
theorem kindE_eq (l : List (List Rect)) (box : Rect) : kindE l box = match chanE l box with
    | some c => c.kind
    | none => -1 := by
  rw [kindE, chanE]
  cases isLay l
  · rfl
  · simp only [cond_true]; rw [hasK_eq]; cases chanW l box <;> rfl
theorem chans_mem {l : List (List Rect)} {c : Chan} (h : c ∈ chans l) : ∃ g, g ∈ partsC l ∧ isCh l g = true ∧ c = mkCh l g := by
  obtain ⟨g, hg, rfl⟩ := List.mem_map.1 h
  exact ⟨g, (List.mem_filter.1 hg).1, (List.mem_filter.1 hg).2, rfl⟩
theorem chans_len (l : List (List Rect)) : (chans l).length ≤ 6400 := by
  rw [chans, List.length_map]
  have := List.length_filter_le (isCh l) (partsC l)
  have := partsC_len l; omega
theorem chan_valid {l : List (List Rect)} {c : Chan} (h : c ∈ chans l) : validRect c.box = true ∧ 0 ≤ c.kind := by
  obtain ⟨g, hg, hi, rfl⟩ := chans_mem h
  have := partsC_ne hg
  exact ⟨valid_first this.1 this.2, of_decide_eq_true hi⟩
def sizeC (c : Chan) : Int × Int := bif c.hor then (c.box.y1 - c.box.y0, c.box.x1 - c.box.x0) else (c.box.x1 - c.box.x0, c.box.y1 - c.box.y0)
theorem sizeE_eq (l : List (List Rect)) (box : Rect) : sizeE l box = match chanE l box with
    | some c => sizeC c
    | none => (0, 0) := by
  rw [sizeE, chanE]
  cases isLay l
  · rfl
  · simp only [cond_true]
    rw [hasK_eq]
    cases h : chanW l box with
    | none => simp
    | some c =>
      obtain ⟨i, hi, e, hp⟩ := find_some_gd (xs := chans l) h
      have hc := chan_valid (l := l) (c := c) (by rw [e]; exact gd_mem hi)
      have hb : c.box = box := of_decide_eq_true hp
      simp only
      rw [if_neg (by omega), ← hb, sizeR, sizeC]
      cases c.hor <;> simp
theorem channelWith1_s {c : Chan} {b : Nat} {box : Rect} (hc : RdN G L b (rectT.enc box)) (k : R (.bool (decide (c.box = box))) G L) : CallT Tryz.prog 125 #[vT chanT c, .pointer (some ⟨b, 0, none⟩)] G L R := by
  refine CallT.enter (args := _) Tryz.func125 rfl rfl (by kernel_rfl) rfl ?_
  refine WP.seq ?_
  refine WP.region ?_
  refine RG.ot rfl (OT.box (cs := chanT.enc c) rfl rfl rfl fun b2 => ?_)
  refine RG.pv rfl (PV.mvB (.inr rfl) rfl) ?_
  refine RG.nil ?_
  refine WP.seq ?_
  refine WP.region ?_
  refine RG.pv rfl (PV.field rfl Fo110_0 rfl) ?_
  refine RG.pv rfl (PV.loadB (vs := [_, _, _, _]) rfl Ag61 rfl rfl rfl) ?_
  refine RG.pv rfl (PV.loadA rfl Ag61 rfl rfl (RdN.up hc)) ?_
  refine RG.pv rfl (PV.eqlT rfl Eq61 rfl rfl) ?_
  refine RG.pv rfl (PV.mvB (.inr rfl) rfl) ?_
  refine RG.nil ?_
  refine WP.ret ?_
  exact ⟨_, _, ResV.one rfl rfl, Cv.p, k⟩
theorem indexF_chan {v fv : Value} {xs : List (Chan)} {p : (Chan) → Bool} (h1 : Rs G L chanT v xs) (hf : ∀ i, i < xs.length → CB Tryz.prog G L fv [vT chanT (gd xs i)] (.bool (p (gd xs i)))) (k : R (vi (idxI p xs)) G L) : CallT Tryz.prog 124 #[v, fv] G L R := by
  refine CallT.bd h1 fun hb => ?_
  refine CallT.enter (args := _) Tryz.func124 rfl rfl (by kernel_rfl) rfl ?_
  refine WP.seq ?_
  refine WP.region ?_
  refine RG.pv rfl (PV.mvI (.inr rfl) rfl) ?_
  refine RG.nil ?_
  refine WP.seq ?_
  refine WP.seq ?_
  refine WP.region ?_
  refine RG.pv rfl (PV.move (v := v) rfl rfl) ?_
  refine RG.pv rfl (PV.len (v := v) rfl Tryz.underlying106 rfl (SlF.r h1)) ?_
  refine RG.pv rfl (PV.mvI (.inl rfl) rfl) ?_
  refine RG.nil ?_
  refine WP.block ?_
  refine WP.loop1 [0, 1, 7] (fun i => i ≤ xs.length ∧ ∀ j, j < i → p (gd xs j) = false) (fun i => [(8, vi i)]) (fun i => L) (fun i => xs.length - i) 0 ⟨by omega, fun j h => by omega⟩ ⟨rfl, trivial⟩ Cv.p ?_
  rintro i τ ⟨hi, hj⟩
  refine WP.seq ?_
  refine WP.region ?_
  refine RG.pv rfl (PV.lss rfl rfl rfl) ?_
  refine RG.nil ?_
  refine WP.seq ?_
  refine WP.cond rfl (fun h2 => ?_) (fun h2 => ?_)
  · have h2 := of_decide_eq_true h2
    refine WP.skip ?_
    refine WP.seq ?_
    refine WP.block ?_
    refine WP.seq ?_
    refine WP.region ?_
    refine RG.pv rfl (PV.mvI (.inl rfl) rfl) ?_
    refine RG.pv rfl (PV.mvI (.inr rfl) rfl) ?_
    refine RG.nil ?_
    refine WP.seq ?_
    refine WP.region ?_
    refine RG.pv rfl (PV.move (v := fv) rfl rfl) ?_
    refine RG.pv rfl (PV.move (v := v) rfl rfl) ?_
    refine RG.pv rfl (PV.mvI (.inl rfl) rfl) ?_
    refine RG.pv rfl (PV.idxS (v := v) rfl Is106 rfl (SlF.r h1) rfl rfl (by omega)) ?_
    refine RG.pv rfl (PV.loadE rfl Ag110 rfl rfl (El.r h1 (getG (by omega)))) ?_
    refine RG.callB (vs := [_]) rfl rfl rfl rfl (CB.up (hf i (by omega))) ?_
    refine RG.nil ?_
    refine WP.cond rfl (fun h3 => ?_) (fun h3 => ?_)
    · rw [idxI_at (by omega) h3 hj] at k
      refine WP.seq ?_
      refine WP.region ?_
      refine RG.pv rfl (PV.mvI (.inl rfl) rfl) ?_
      refine RG.pv rfl (PV.mvI (.inr rfl) rfl) ?_
      refine RG.nil ?_
      refine WP.ret ?_
      exact ⟨_, _, ResV.one rfl rfl, Cv.p, k⟩
    · have hj' : ∀ j, j < i + 1 → p (gd xs j) = false := fun j h => by
        by_cases c : j = i
        · rw [c]; exact h3
        · exact hj j (by omega)
      refine WP.skip ?_
      refine WP.region ?_
      refine RG.pv rfl (PV.add rfl rfl rfl (by omega)) ?_
      refine RG.pv rfl (PV.mvI (.inl rfl) rfl) ?_
      refine RG.nil ?_
      exact ⟨rfl, i + 1, ⟨by omega, hj'⟩, ⟨rfl, trivial⟩, ⟨rfl, rfl, rfl, trivial⟩, Cv.p, by omega⟩
  · have h2 := of_decide_eq_false h2
    rw [idxI_none (fun j h => hj j (by omega))] at k
    refine WP.exit ?_
    refine WP.seq ?_
    refine WP.region ?_
    refine RG.pv rfl (PV.mvI (.inr rfl) rfl) ?_
    refine RG.nil ?_
    refine WP.ret ?_
    exact ⟨_, _, ResV.one rfl rfl, Cv.p, k⟩
theorem idx_find {α : Type} [Inhabited α] (p : α → Bool) (xs : List α) : (idxI p xs < 0 ∧ xs.find? p = none) ∨ (∃ i, i < xs.length ∧ idxI p xs = (i : Int) ∧ xs.find? p = some (gd xs i)) := by
  unfold idxI
  cases h : xs.findIdx? p with
  | none =>
    left
    refine ⟨by simp, ?_⟩
    rw [List.find?_eq_none]
    intro x hx
    simpa using List.findIdx?_eq_none_iff.1 h x hx
  | some i =>
    right
    obtain ⟨hi, hp, hj⟩ := List.findIdx?_eq_some_iff_getElem.1 h
    refine ⟨i, hi, rfl, find_gd hi (by rw [gd_eq hi]; exact hp) fun j hji => ?_⟩
    have := hj j hji
    rw [gd_eq (by omega)]; simpa using this
def optC : Option Chan → Chan
  | some c => c
  | none => default
theorem chanT_def : chanT.enc default = [vi 0, vi 0, vi 0, vi 0, vi 0, .bool false] := rfl
theorem channelWith_s {v : Value} {xs : List (Sl Rect)} {box : Rect} (h1 : Rs G L slT v xs) (hd : RsE G L rectT xs) (k : ∀ c, (chanE (er xs) box = some c ∨ chanE (er xs) box = none) → R (.tuple #[vT chanT c, .bool (chanE (er xs) box).isSome]) G L) : CallT Tryz.prog 78 #[v, vrect box] G L R := by
  refine CallT.enter (args := _) Tryz.func78 rfl rfl (by kernel_rfl) rfl ?_
  refine WP.seq ?_
  refine WP.region ?_
  refine RG.ot rfl (OT.box (cs := rectT.enc box) rfl rfl rfl fun b3 => ?_)
  refine RG.ot rfl (OT.alloc rfl Zr110 fun b4 => ?_)
  refine RG.pv rfl (PV.mvB (.inr rfl) rfl) ?_
  refine RG.nil ?_
  refine WP.seq ?_
  refine WP.seq ?_
  refine WP.region ?_
  refine RG.pv rfl (PV.move (v := v) rfl rfl) ?_
  refine RG.callF (vs := [v]) rfl rfl En53 rfl (isLayout_s (Rs.up h1) hd.up ?_)
  refine RG.pv rfl (PV.not rfl rfl) ?_
  refine RG.nil ?_
  refine WP.cond rfl (fun h2 => ?_) (fun h2 => ?_)
  · have h3 : isLay (er xs) = false := by simpa using h2
    have e : chanE (er xs) box = none := by rw [chanE, h3]; rfl
    rw [e] at k
    refine WP.seq ?_
    refine WP.region ?_
    refine RG.pv rfl (PV.build (vs := []) (out := [_, _, _, _, _, _]) rfl Zr110 Pl110 trivial rfl) ?_
    refine RG.ot rfl (OT.storeW (vs := [vi _, vi _, vi _, vi _, vi _, .bool _]) rfl Sz110 rfl rfl (Cl.c rfl) rfl rfl (OneC.c rfl) ?_)
    refine RG.pv rfl (PV.mvB (.inr rfl) rfl) ?_
    refine RG.nil ?_
    refine WP.ret ?_
    exact ⟨_, _, ResV.two rfl (RV1.cell rfl Ag110 rfl) rfl, Cv.p, k (⟨⟨0, 0, 0, 0⟩, 0, false⟩) (.inr rfl)⟩
  · have hlay : isLay (er xs) = true := by simpa using h2
    have e : chanE (er xs) box = chanW (er xs) box := by rw [chanE, hlay]; rfl
    rw [e] at k
    refine WP.skip ?_
    refine WP.seq ?_
    refine WP.region ?_
    refine RG.pv rfl (PV.move (v := v) rfl rfl) ?_
    refine RG.callF (vs := [v]) rfl rfl En69 rfl (channelsOf_s (Rs.up h1) hd.up hlay (fun v15 u15 cs15 zs15 hc15 hz15 => ?_))
    refine RG.pv rfl (PV.move (v := .tuple _) rfl rfl) ?_
    refine RG.pv rfl (PV.ext (v := v15) rfl rfl rfl) ?_
    refine RG.pv rfl (PV.ext (v := u15) rfl rfl rfl) ?_
    refine RG.pv rfl (PV.asg (v := v15) rfl rfl) ?_
    refine RG.pv rfl (PV.asg (v := u15) rfl rfl) ?_
    refine RG.nil ?_
    refine WP.seq ?_
    refine WP.region ?_
    refine RG.pv rfl (PV.move (v := v15) rfl rfl) ?_
    refine RG.pv rfl (PV.mkf1 rfl rfl) ?_
    refine RG.callF (vs := [v15, _]) rfl rfl En124 rfl (indexF_chan Rs.o (p := fun c => decide (c.box = box)) (fun i hi => CB.mk1 En125 fun L' R c k => channelWith1_s (RdN.cv RdN.blk c) k) ?_)
    refine RG.pv rfl (PV.mvI (.inr rfl) rfl) ?_
    refine RG.nil ?_
    refine WP.seq ?_
    refine WP.seq ?_
    refine WP.region ?_
    refine RG.pv rfl (PV.mvI (.inl rfl) rfl) ?_
    refine RG.pv rfl (PV.lss rfl rfl rfl) ?_
    refine RG.nil ?_
    subst hc15
    have hcl := chans_len (er xs)
    rcases idx_find (fun c : Chan => decide (c.box = box)) (chans (er xs)) with ⟨q1, q2⟩ | ⟨i, hi, q1, q2⟩
    · have e : chanW (er xs) box = none := q2
      rw [e] at k
      refine WP.cond rfl (fun h4 => ?_) (fun h4 => ?_)
      · refine WP.seq ?_
        refine WP.region ?_
        refine RG.pv rfl (PV.build (vs := []) (out := [_, _, _, _, _, _]) rfl Zr110 Pl110 trivial rfl) ?_
        refine RG.ot rfl (OT.storeW (vs := [vi _, vi _, vi _, vi _, vi _, .bool _]) rfl Sz110 rfl rfl (Cl.c rfl) rfl rfl (OneC.c rfl) ?_)
        refine RG.pv rfl (PV.mvB (.inr rfl) rfl) ?_
        refine RG.nil ?_
        refine WP.ret ?_
        exact ⟨_, _, ResV.two rfl (RV1.cell rfl Ag110 rfl) rfl, Cv.p, k (⟨⟨0, 0, 0, 0⟩, 0, false⟩) (.inr rfl)⟩
      · have h4 := of_decide_eq_false h4
        omega
    · have e : chanW (er xs) box = some (gd (chans (er xs)) i) := q2
      rw [e] at k
      rw [q1]
      refine WP.cond rfl (fun h4 => ?_) (fun h4 => ?_)
      · have h4 := of_decide_eq_true h4
        omega
      · skip
        refine WP.skip ?_
        refine WP.seq ?_
        refine WP.region ?_
        refine RG.pv rfl (PV.move (v := v15) rfl rfl) ?_
        refine RG.pv rfl (PV.mvI (.inl rfl) rfl) ?_
        refine RG.pv rfl (PV.idxS (j := i) (v := v15) rfl Is106 rfl SlF.o rfl (by omega) (by omega)) ?_
        refine RG.pv rfl (PV.loadE rfl Ag110 rfl rfl (El.o (getG (by omega)))) ?_
        refine RG.ot rfl (OT.storeW (vs := [vi _, vi _, vi _, vi _, vi _, .bool _]) rfl Sz110 rfl rfl (Cl.c rfl) rfl rfl (OneC.c rfl) ?_)
        refine RG.pv rfl (PV.mvB (.inr rfl) rfl) ?_
        refine RG.nil ?_
        refine WP.ret ?_
        exact ⟨_, _, ResV.two rfl (RV1.cell rfl Ag110 rfl) rfl, Cv.p, k (gd (chans (er xs)) i) (.inl rfl)⟩
end Go.Proofs.YtmomfgfmnpblpaaGreat
namespace Go.Proofs.YtmomfgfmnpblpaaGreat
set_option linter.unusedVariables false
set_option linter.unusedSimpArgs false
open Go
set_option maxRecDepth 20000
set_option linter.unusedSimpArgs false
variable {G : Gh} {L : List Ch} {R : Value → Gh → List Ch → Prop}
def opF (op : Int) (p q : Bool) : Bool := decide (op / ((if q then 2 else 1) * ((if p then 4 else 1) * 1)) % 2 = 1)
theorem opF_or : opF 14 = fun p q => p || q := by funext p q; cases p <;> cases q <;> rfl
theorem opF_xor : opF 6 = fun p q => p != q := by funext p q; cases p <;> cases q <;> rfl
theorem opF_and : opF 8 = fun p q => p && q := by funext p q; cases p <;> cases q <;> rfl
theorem opF_minus : opF 4 = fun p q => p && !q := by funext p q; cases p <;> cases q <;> rfl
abbrev orB (a b : List Bool) : List Bool := zipB (fun p q => p || q) a b
def chgB (l m : List (List Rect)) (k : Nat) : List Bool := zipB (fun p q => p != q) (bits (gd l k)) (bits (gd m k))
theorem chgB_len (l m : List (List Rect)) (k : Nat) : (chgB l m k).length = 6400 := zipB_len (bits_length _) (bits_length _)
def orL (l m : List (List Rect)) (ks : List Nat) : List Bool := ks.foldl (fun b k => orB b (chgB l m k)) (bits [])
theorem orL_len (l m : List (List Rect)) (ks : List Nat) : (orL l m ks).length = 6400 := by
  have : ∀ (ks : List Nat) (b : List Bool), b.length = 6400 → (ks.foldl (fun b k => orB b (chgB l m k)) b).length = 6400 := by
    intro ks
    induction ks with
    | nil => exact fun b h => h
    | cons k ks ih => exact fun b h => ih _ (zipB_len h (chgB_len l m k))
  exact this ks _ (bits_length _)
theorem gb_zip {f : Bool → Bool → Bool} {a b : List Bool} (h : a.length = 6400) (h' : b.length = 6400) {y x : Nat} (hy : y < 80) (hx : x < 80) : gb (zipB f a b) y x = f (gb a y x) (gb b y x) := zipB_gd (by omega) (by omega)
theorem gb_bits (rs : List Rect) {y x : Nat} (hy : y < 80) (hx : x < 80) : gb (bits rs) y x = rs.any fun r => inR r y x := by
  have h : y * 80 + x < 6400 := by omega
  have e1 : (y * 80 + x) / 80 = y := by omega
  have e2 : (y * 80 + x) % 80 = x := by omega
  rw [gb, gd_eq (by rw [bits_length]; exact h)]
  simp [bits, e1, e2]
theorem gb_orL (l m : List (List Rect)) (ks : List Nat) {y x : Nat} (hy : y < 80) (hx : x < 80) : gb (orL l m ks) y x = ks.any fun k => gb (chgB l m k) y x := by
  have : ∀ (ks : List Nat) (b : List Bool), b.length = 6400 → gb (ks.foldl (fun b k => orB b (chgB l m k)) b) y x = (gb b y x || ks.any fun k => gb (chgB l m k) y x) := by
    intro ks
    induction ks with
    | nil => intro b _; simp
    | cons k ks ih =>
      intro b h
      rw [List.foldl_cons, ih _ (zipB_len h (chgB_len l m k)), gb_zip h (chgB_len l m k) hy hx, List.any_cons, Bool.or_assoc]
  rw [orL, this ks _ (bits_length _), gb_bits [] hy hx]; simp
theorem canon_any {bs : List Bool} {y x : Nat} (hy : y < 80) (hx : x < 80) : ((canon bs).any fun r => inR r y x) = gb bs y x := by
  rw [canon, canonFrom_any bs 0 y x hy hx]; simp
theorem bits_orL (l m : List (List Rect)) (ks : List Nat) : bits ((ks.map fun k => canon (chgB l m k)).flatten) = orL l m ks := by
  refine (bits_eq (orL_len l m ks) fun y x hy hx => ?_).symm
  rw [gb_orL l m ks hy hx, List.any_flatten, List.any_map]
  congr 1; funext k; exact (canon_any hy hx).symm
theorem orL_snoc (l m : List (List Rect)) (ks : List Nat) (k : Nat) : orL l m (ks ++ [k]) = orB (orL l m ks) (chgB l m k) := by simp [orL, List.foldl_append]
def chgR (l m : List (List Rect)) : List Rect := bif isLay l && isLay m then canon (orL l m [0, 1, 2, 3, 4, 5, 6, 7]) else []
def chgE (l m : List (List Rect)) : Int := bif isLay l && isLay m then 0 else 1
theorem chgR_len (l m : List (List Rect)) : (chgR l m).length ≤ 3200 := by
  unfold chgR; cases isLay l && isLay m
  · simp
  · exact canon_len _
theorem RsN {α : Type} {F : FT α} : Rs G L F (.slice none 0 0) [] := fun w hs => ⟨⟨0, Nat.le_refl _, Nat.zero_le _, .inr ⟨⟨none, rfl⟩, rfl⟩⟩, fun j c h => by simp [FT.flat] at h⟩
theorem range_snoc (k : Nat) : List.range (k + 1) = List.range k ++ [k] := List.range_succ
end Go.Proofs.YtmomfgfmnpblpaaGreat
namespace Go.Proofs.YtmomfgfmnpblpaaGreat
set_option linter.unusedVariables false
set_option linter.unusedSimpArgs false
open Go
set_option maxRecDepth 20000
set_option linter.unusedSimpArgs false
variable {G : Gh} {L : List Ch} {R : Value → Gh → List Ch → Prop}
theorem kind_i {v : Value} {xs : List (Sl Rect)} {box : Rect} (h1 : Rs G L slT v xs) (hd : RsE G L rectT xs) (k : R (vi (kindE (er xs) box)) G L) : CallT Tryz.prog 34 #[v, vrect box] G L R := by
  refine CallT.enter (args := _) Tryz.func34 rfl rfl (by kernel_rfl) rfl ?_
  refine WP.seq ?_
  refine WP.region ?_
  refine RG.ot rfl (OT.box (cs := rectT.enc box) rfl rfl rfl fun b3 => ?_)
  refine RG.pv rfl (PV.mvI (.inr rfl) rfl) ?_
  refine RG.nil ?_
  refine WP.seq ?_
  refine WP.region ?_
  refine RG.pv rfl (PV.move (v := v) rfl rfl) ?_
  refine RG.pv rfl (PV.loadW rfl Ag61 rfl rfl) ?_
  refine RG.callF (vs := [v, _]) rfl rfl En78 rfl (channelWith_s (Rs.up h1) hd.up (fun c hc => ?_))
  refine RG.pv rfl (PV.move (v := .tuple _) rfl rfl) ?_
  refine RG.pv rfl (PV.ext rfl rfl rfl) ?_
  refine RG.pv rfl (PV.ext rfl rfl rfl) ?_
  refine RG.ot rfl (OT.alloc rfl Zr110 fun b5 => ?_)
  refine RG.ot rfl (OT.storeW (vs := [vi _, vi _, vi _, vi _, vi _, .bool _]) rfl Sz110 rfl rfl (Cl.c rfl) rfl rfl (OneC.c rfl) ?_)
  refine RG.pv rfl (PV.mvB (.inr rfl) rfl) ?_
  refine RG.nil ?_
  refine WP.seq ?_
  refine WP.seq ?_
  refine WP.region ?_
  refine RG.pv rfl (PV.mvB (.inl rfl) rfl) ?_
  refine RG.pv rfl (PV.not rfl rfl) ?_
  refine RG.nil ?_
  refine WP.cond rfl (fun h2 => ?_) (fun h2 => ?_)
  · have h3 : chanE (er xs) box = none := by simpa using h2
    rw [kindE_eq, h3] at k
    refine WP.seq ?_
    refine WP.region ?_
    refine RG.pv rfl (PV.mvI (.inr rfl) rfl) ?_
    refine RG.nil ?_
    refine WP.ret ?_
    exact ⟨_, _, ResV.one rfl rfl, Cv.p, k⟩
  · have h3 : (chanE (er xs) box).isSome = true := by simpa using h2
    have h4 : chanE (er xs) box = some c := hc.resolve_right fun h => by rw [h] at h3; cases h3
    rw [kindE_eq, h4] at k
    refine WP.skip ?_
    refine WP.seq ?_
    refine WP.region ?_
    refine RG.pv rfl (PV.field rfl Fo110_1 rfl) ?_
    refine RG.pv rfl (PV.load1 rfl Sc2 rfl (Rd.blk rfl)) ?_
    refine RG.pv rfl (PV.mvI (.inr rfl) rfl) ?_
    refine RG.nil ?_
    refine WP.ret ?_
    exact ⟨_, _, ResV.one rfl rfl, Cv.p, k⟩
theorem chanSize_s {c : Chan} (hv : validRect c.box = true) (k : R (.tuple #[vi (sizeC c).1, vi (sizeC c).2]) G L) : CallT Tryz.prog 70 #[vT chanT c] G L R := by
  have h := validR_iff.1 hv
  refine CallT.enter (args := _) Tryz.func70 rfl rfl (by kernel_rfl) rfl ?_
  refine WP.seq ?_
  refine WP.region ?_
  refine RG.ot rfl (OT.box (cs := chanT.enc c) rfl rfl rfl fun b1 => ?_)
  refine RG.pv rfl (PV.mvI (.inr rfl) rfl) ?_
  refine RG.pv rfl (PV.mvI (.inr rfl) rfl) ?_
  refine RG.nil ?_
  refine WP.seq ?_
  refine WP.regionQ (by kernel_rfl) (by kernel_rfl) ?_
  refine RQ.pv rfl (PV.field rfl Fo110_0 rfl) ?_
  refine RQ.pv rfl (PV.field rfl Fo61_2 rfl) ?_
  refine RQ.pv rfl (PV.load1 rfl Sc2 rfl (Rd.blk rfl)) ?_
  refine RQ.pv rfl (PV.field rfl Fo110_0 rfl) ?_
  refine RQ.pv rfl (PV.field rfl Fo61_0 rfl) ?_
  refine RQ.pv rfl (PV.load1 rfl Sc2 rfl (Rd.blk rfl)) ?_
  refine RQ.pv rfl (PV.sub rfl rfl rfl (by omega)) ?_
  refine RQ.pv rfl (PV.field rfl Fo110_0 rfl) ?_
  refine RQ.pv rfl (PV.field rfl Fo61_3 rfl) ?_
  refine RQ.pv rfl (PV.load1 rfl Sc2 rfl (Rd.blk rfl)) ?_
  refine RQ.pv rfl (PV.field rfl Fo110_0 rfl) ?_
  refine RQ.pv rfl (PV.field rfl Fo61_1 rfl) ?_
  refine RQ.pv rfl (PV.load1 rfl Sc2 rfl (Rd.blk rfl)) ?_
  refine RQ.pv rfl (PV.sub rfl rfl rfl (by omega)) ?_
  refine RQ.pv rfl (PV.mvI (.inr rfl) rfl) ?_
  refine RQ.pv rfl (PV.mvI (.inr rfl) rfl) ?_
  refine RQ.nil ?_
  refine WP.seq ?_
  refine WP.seq ?_
  refine WP.region ?_
  refine RG.pv rfl (PV.field rfl Fo110_2 rfl) ?_
  refine RG.pv rfl (PV.load1 rfl Sc4 rfl (Rd.blk rfl)) ?_
  refine RG.nil ?_
  refine WP.cond rfl (fun h2 => ?_) (fun h2 => ?_)
  · rw [sizeC, h2] at k
    refine WP.seq ?_
    refine WP.region ?_
    refine RG.pv rfl (PV.mvI (.inl rfl) rfl) ?_
    refine RG.pv rfl (PV.mvI (.inl rfl) rfl) ?_
    refine RG.pv rfl (PV.mvI (.inr rfl) rfl) ?_
    refine RG.pv rfl (PV.mvI (.inr rfl) rfl) ?_
    refine RG.nil ?_
    refine WP.ret ?_
    exact ⟨_, _, ResV.two rfl rfl rfl, Cv.p, k⟩
  · rw [sizeC, h2] at k
    refine WP.skip ?_
    refine WP.seq ?_
    refine WP.region ?_
    refine RG.pv rfl (PV.mvI (.inl rfl) rfl) ?_
    refine RG.pv rfl (PV.mvI (.inl rfl) rfl) ?_
    refine RG.pv rfl (PV.mvI (.inr rfl) rfl) ?_
    refine RG.pv rfl (PV.mvI (.inr rfl) rfl) ?_
    refine RG.nil ?_
    refine WP.ret ?_
    exact ⟨_, _, ResV.two rfl rfl rfl, Cv.p, k⟩
theorem chanE_valid {l : List (List Rect)} {box : Rect} {c : Chan} (h : chanE l box = some c) : validRect c.box = true ∧ 0 ≤ c.kind ∧ c.box = box ∧ c ∈ chans l := by
  unfold chanE at h
  cases hl : isLay l
  · rw [hl] at h; cases h
  · rw [hl] at h
    obtain ⟨i, hi, e, hp⟩ := find_some_gd (xs := chans l) h
    have hm : c ∈ chans l := by rw [e]; exact gd_mem hi
    have hc := chan_valid hm
    exact ⟨hc.1, hc.2, of_decide_eq_true hp, hm⟩
theorem size_i {v : Value} {xs : List (Sl Rect)} {box : Rect} (h1 : Rs G L slT v xs) (hd : RsE G L rectT xs) (k : R (.tuple #[vi (sizeE (er xs) box).1, vi (sizeE (er xs) box).2]) G L) : CallT Tryz.prog 31 #[v, vrect box] G L R := by
  refine CallT.enter (args := _) Tryz.func31 rfl rfl (by kernel_rfl) rfl ?_
  refine WP.seq ?_
  refine WP.region ?_
  refine RG.ot rfl (OT.box (cs := rectT.enc box) rfl rfl rfl fun b3 => ?_)
  refine RG.pv rfl (PV.mvI (.inr rfl) rfl) ?_
  refine RG.pv rfl (PV.mvI (.inr rfl) rfl) ?_
  refine RG.nil ?_
  refine WP.seq ?_
  refine WP.region ?_
  refine RG.pv rfl (PV.move (v := v) rfl rfl) ?_
  refine RG.pv rfl (PV.loadW rfl Ag61 rfl rfl) ?_
  refine RG.callF (vs := [v, _]) rfl rfl En78 rfl (channelWith_s (Rs.up h1) hd.up (fun c hc => ?_))
  refine RG.pv rfl (PV.move (v := .tuple _) rfl rfl) ?_
  refine RG.pv rfl (PV.ext rfl rfl rfl) ?_
  refine RG.pv rfl (PV.ext rfl rfl rfl) ?_
  refine RG.ot rfl (OT.alloc rfl Zr110 fun b6 => ?_)
  refine RG.ot rfl (OT.storeW (vs := [vi _, vi _, vi _, vi _, vi _, .bool _]) rfl Sz110 rfl rfl (Cl.c rfl) rfl rfl (OneC.c rfl) ?_)
  refine RG.pv rfl (PV.mvB (.inr rfl) rfl) ?_
  refine RG.nil ?_
  refine WP.seq ?_
  refine WP.seq ?_
  refine WP.region ?_
  refine RG.pv rfl (PV.mvB (.inl rfl) rfl) ?_
  refine RG.pv rfl (PV.not rfl rfl) ?_
  refine RG.nil ?_
  refine WP.cond rfl (fun h2 => ?_) (fun h2 => ?_)
  · have h3 : chanE (er xs) box = none := by simpa using h2
    rw [sizeE_eq, h3] at k
    refine WP.seq ?_
    refine WP.region ?_
    refine RG.pv rfl (PV.mvI (.inr rfl) rfl) ?_
    refine RG.pv rfl (PV.mvI (.inr rfl) rfl) ?_
    refine RG.nil ?_
    refine WP.ret ?_
    exact ⟨_, _, ResV.two rfl rfl rfl, Cv.p, k⟩
  · have h3 : (chanE (er xs) box).isSome = true := by simpa using h2
    have h4 : chanE (er xs) box = some c := hc.resolve_right fun h => by rw [h] at h3; cases h3
    rw [sizeE_eq, h4] at k
    refine WP.skip ?_
    refine WP.seq ?_
    refine WP.region ?_
    refine RG.pv rfl (PV.loadW rfl Ag110 rfl rfl) ?_
    refine RG.callF (vs := [_]) rfl rfl En70 rfl (chanSize_s (chanE_valid h4).1 ?_)
    refine RG.pv rfl (PV.move (v := .tuple _) rfl rfl) ?_
    refine RG.pv rfl (PV.ext rfl rfl rfl) ?_
    refine RG.pv rfl (PV.ext rfl rfl rfl) ?_
    refine RG.pv rfl (PV.mvI (.inr rfl) rfl) ?_
    refine RG.pv rfl (PV.mvI (.inr rfl) rfl) ?_
    refine RG.nil ?_
    refine WP.seq ?_
    refine WP.region ?_
    refine RG.pv rfl (PV.mvI (.inl rfl) rfl) ?_
    refine RG.pv rfl (PV.mvI (.inl rfl) rfl) ?_
    refine RG.pv rfl (PV.mvI (.inr rfl) rfl) ?_
    refine RG.pv rfl (PV.mvI (.inr rfl) rfl) ?_
    refine RG.nil ?_
    refine WP.ret ?_
    exact ⟨_, _, ResV.two rfl rfl rfl, Cv.p, k⟩
def cntP {α : Type} (p : α → Bool) (xs : List α) : Int := ((xs.filter p).length : Int)
theorem cntP_bd {α : Type} (p : α → Bool) (xs : List α) : 0 ≤ cntP p xs ∧ cntP p xs ≤ xs.length := by
  have := List.length_filter_le p xs
  simp only [cntP]; omega
theorem cntP_take {α : Type} [Inhabited α] (p : α → Bool) {xs : List α} {i : Nat} (h : i < xs.length) : cntP p (xs.take (i + 1)) = cntP p (xs.take i) + one (p (gd xs i)) := by
  rw [List.take_add_one, getG h, cntP, cntP, List.filter_append, List.length_append]
  cases hp : p (gd xs i) <;> simp [hp, one]
noncomputable def devN (l : List (List Rect)) (n : Int) : Int := bif isLay l && (decide (n = 0) || decide (n = 1)) then cntP (fun c : Chan => decide (c.kind = n)) (chans l) else -1
theorem cnt_chans (l : List (List Rect)) {n : Int} (hn : 0 ≤ n) : cntP (fun c : Chan => decide (c.kind = n)) (chans l) = cntP (fun g => decide (chK l g = n)) (partsC l) := by
  simp only [cntP, chans, List.filter_map, List.length_map, List.filter_filter]
  congr 2
  apply List.filter_congr
  intro g _
  show (decide (chK l g = n) && isCh l g) = decide (chK l g = n)
  by_cases c : chK l g = n
  · rw [decide_eq_true c, isCh, decide_eq_true (by omega)]; rfl
  · rw [decide_eq_false c]; rfl
theorem devN_false {l : List (List Rect)} {n : Int} (h : (!isLay l || (!decide (n = 0) && !decide (n = 1))) = true) : devN l n = -1 := by
  unfold devN; revert h
  cases isLay l <;> cases decide (n = 0) <;> cases decide (n = 1) <;> simp
theorem devN_true {l : List (List Rect)} {n : Int} (h : (!isLay l || (!decide (n = 0) && !decide (n = 1))) = false) : isLay l = true ∧ 0 ≤ n ∧ devN l n = cntP (fun c : Chan => decide (c.kind = n)) (chans l) := by
  have h2 : isLay l = true ∧ (n = 0 ∨ n = 1) := by
    revert h; cases isLay l <;> simp; omega
  refine ⟨h2.1, by omega, ?_⟩
  unfold devN
  rw [h2.1]
  rcases h2.2 with e | e <;> simp [e]
end Go.Proofs.YtmomfgfmnpblpaaGreat
namespace Go.Proofs.YtmomfgfmnpblpaaGreat
set_option linter.unusedVariables false
set_option linter.unusedSimpArgs false
open Go
set_option maxRecDepth 20000
set_option linter.unusedSimpArgs false
variable {G : Gh} {L : List Ch} {R : Value → Gh → List Ch → Prop}
theorem nets_r {v : Value} {xs : List (Sl Rect)} (h1 : Rs G L slT v xs) (hd : RsE G L rectT xs) (k : ∀ v' zs, (er (nps zs)).map erPs = netR (er xs) → R (.tuple #[v', vi (netE (er xs))]) G (osl 140 netT v' zs :: bagS 143 pieceT (nps zs) :: bagS 61 rectT (regs (er (nps zs)).flatten) :: L)) : CallT Tryz.prog 72 #[v] G L R := by
  have hcl : (clsL (er xs)).length ≤ 25600 := by rw [clsL_len]; exact pcL_len (er xs) 4
  have hcn : cntR (clsL (er xs)) (clsL (er xs)).length = netN (er xs) := by rw [clsL_len]; rfl
  refine CallT.enter (args := _) Tryz.func72 rfl rfl (by kernel_rfl) rfl ?_
  refine WP.seq ?_
  refine WP.region ?_
  refine RG.pv rfl (PV.asg rfl rfl) ?_
  refine RG.pv rfl (PV.mvI (.inr rfl) rfl) ?_
  refine RG.nil ?_
  refine WP.seq ?_
  refine WP.seq ?_
  refine WP.region ?_
  refine RG.pv rfl (PV.move (v := v) rfl rfl) ?_
  refine RG.callF (vs := [v]) rfl rfl En45 rfl (l19Layout_s (Rs.up h1) hd.up ?_)
  refine RG.pv rfl (PV.not rfl rfl) ?_
  refine RG.nil ?_
  refine WP.cond rfl (fun h2 => ?_) (fun h2 => ?_)
  · have h3 : isLay (er xs) = false := by simpa using h2
    have e : netE (er xs) = 1 := by rw [netE, h3]; rfl
    have e2 : netR (er xs) = [] := by rw [netR, e]; rfl
    rw [e, e2] at k
    refine WP.seq ?_
    refine WP.region ?_
    refine RG.ot rfl (OT.bslice (F := netT) (els := []) rfl El86 rfl (by decide) rfl (by decide) trivial fun v14 => ?_)
    refine RG.pv rfl (PV.asg (v := v14) rfl rfl) ?_
    refine RG.pv rfl (PV.mvI (.inr rfl) rfl) ?_
    refine RG.nil ?_
    refine WP.ret ?_
    exact ⟨_, _, ResV.two rfl rfl rfl, ((Cv.p (C := osl 140 netT v14 ([] : List Net) :: L)).trans (Cv.cons ((Cv.bag0 (e := 61) (F := rectT) (xs := regs []) rfl).trans (Cv.bag0 (e := 143) (F := pieceT) (xs := nps []) rfl)))), k v14 [] rfl⟩
  · have h3 : isLay (er xs) = true := by simpa using h2
    refine WP.skip ?_
    refine WP.seq ?_
    refine WP.region ?_
    refine RG.pv rfl (PV.move (v := v) rfl rfl) ?_
    refine RG.callF (vs := [v]) rfl rfl En47 rfl (l23Parts_s (Rs.up h1) hd.up h3 (fun v16 csv16 hev16 => ?_))
    refine RG.pv rfl (PV.asg (v := v16) rfl rfl) ?_
    refine RG.nil ?_
    refine WP.seq ?_
    refine WP.region ?_
    refine RG.pv rfl (PV.move (v := v16) rfl rfl) ?_
    refine RG.pv rfl (PV.move (v := v) rfl rfl) ?_
    refine RG.callF (vs := [v16, v]) rfl rfl En49 rfl (l23Roots_s Rs.o RsE.o (Rs.up h1) hd.up h3 hev16 (fun v20 => ?_))
    refine RG.callF (vs := [v20]) rfl rfl En48 rfl (l23Numbers_s Rs.o (clsL_rt _) hcl (fun w21 => ?_))
    refine RG.pv rfl (PV.move (v := .tuple _) rfl rfl) ?_
    refine RG.pv rfl (PV.ext (v := w21) rfl rfl rfl) ?_
    refine RG.pv rfl (PV.ext rfl rfl rfl) ?_
    refine RG.pv rfl (PV.asg (v := w21) rfl rfl) ?_
    refine RG.pv rfl (PV.mvI (.inr rfl) rfl) ?_
    refine RG.nil ?_
    refine WP.seq ?_
    refine WP.seq ?_
    refine WP.region ?_
    refine RG.pv rfl (PV.mvI (.inl rfl) rfl) ?_
    refine RG.pv rfl (PV.gtr rfl rfl rfl) ?_
    refine RG.nil ?_
    refine WP.cond rfl (fun h4 => ?_) (fun h4 => ?_)
    · have h4 := of_decide_eq_true h4
      have e : netE (er xs) = 3 := by rw [netE, h3, cond_true, if_pos (by omega)]
      have e2 : netR (er xs) = [] := by rw [netR, e]; rfl
      rw [e, e2] at k
      refine WP.seq ?_
      refine WP.region ?_
      refine RG.ot rfl (OT.bslice (F := netT) (els := []) rfl El86 rfl (by decide) rfl (by decide) trivial fun v26 => ?_)
      refine RG.pv rfl (PV.asg (v := v26) rfl rfl) ?_
      refine RG.pv rfl (PV.mvI (.inr rfl) rfl) ?_
      refine RG.nil ?_
      refine WP.ret ?_
      exact ⟨_, _, ResV.two rfl rfl rfl, ((Cv.p (C := osl 140 netT v26 ([] : List Net) :: L)).trans (Cv.cons ((Cv.bag0 (e := 61) (F := rectT) (xs := regs []) rfl).trans (Cv.bag0 (e := 143) (F := pieceT) (xs := nps []) rfl)))), k v26 [] rfl⟩
    · have h4 := of_decide_eq_false h4
      have e : netE (er xs) = 0 := by rw [netE, h3, cond_true, if_neg (by omega)]
      have e2 : netR (er xs) = netL (er xs) := by rw [netR, e]; rfl
      rw [e, e2] at k
      have hcs : csv16.map erC = pcL (er xs) 4 := hev16
      have hcsl : csv16.length = (pcL (er xs) 4).length := by rw [← hcs, List.length_map]
      have hpl4 := pcL_len (er xs) 4
      have hce : ∀ i, i < csv16.length → erC (gd csv16 i) = gd (pcL (er xs) 4) i := fun i hi => by rw [← hcs, gd_map _ hi]
      have hc6 : ∀ i, i < csv16.length → (gd csv16 i).cells.xs.length = 6400 := fun i hi => by
        have := pcL_gd_len (l := er xs) (i := i) (by omega)
        rw [← hce i hi] at this; exact this
      have hnl : (nums (clsL (er xs))).length = csv16.length := by rw [nums, List.length_map, List.length_range, clsL_len, hcsl]
      have hng : ∀ i, i < csv16.length → gd (nums (clsL (er xs))) i = (numR (clsL (er xs)) i : Int) := fun i hi => by
        rw [nums, gd_map _ (by rw [List.length_range, clsL_len]; omega)]
        simp [gd, clsL_len, ← hcsl, hi]
      have hnN : (netL (er xs)).length = netN (er xs) := netL_len _
      refine WP.skip ?_
      refine WP.seq ?_
      refine WP.region ?_
      refine RG.ot rfl (OT.bslice (F := netT) (els := []) rfl El86 rfl (by decide) rfl (by decide) trivial fun v27 => ?_)
      refine RG.pv rfl (PV.asg (v := v27) rfl rfl) ?_
      refine RG.nil ?_
      refine WP.seq ?_
      refine WP.seq ?_
      refine WP.region ?_
      refine RG.pv rfl (PV.mvI (.inr rfl) rfl) ?_
      refine RG.nil ?_
      refine WP.block ?_
      refine WP.cv ((Cv.p (C := osl 140 netT v27 ([] : List Net) :: osl 127 partT v16 csv16 :: bagS 4 boolT (cels csv16) :: osl 2 intT w21 (nums (clsL (er xs))) :: L)).trans (Cv.cons ((Cv.bag0 (e := 61) (F := rectT) (xs := regs (er (nps [])).flatten) rfl).trans (Cv.bag0 (e := 143) (F := pieceT) (xs := nps []) rfl)))) ?_
      refine WP.loop3 [4, 5, 6] (fun (n : Nat) (zs : List Net) (q : Value) => n ≤ netN (er xs) ∧ (er (nps zs)).map erPs = (netL (er xs)).take n) (fun (n : Nat) (zs : List Net) (q : Value) => [(8, vi n), (7, q)]) (fun (n : Nat) (zs : List Net) (q : Value) => osl 140 netT q zs :: bagS 143 pieceT (nps zs) :: bagS 61 rectT (regs (er (nps zs)).flatten) :: osl 127 partT v16 csv16 :: bagS 4 boolT (cels csv16) :: osl 2 intT w21 (nums (clsL (er xs))) :: L) (fun (n : Nat) (zs : List Net) (q : Value) => netN (er xs) - n) 0 [] v27 ⟨by omega, rfl⟩ ⟨rfl, rfl, trivial⟩ Cv.p ?_
      rintro n zs q τ ⟨hn, hzs⟩
      refine WP.seq ?_
      refine WP.seq ?_
      refine WP.region ?_
      refine RG.pv rfl (PV.mvI (.inl rfl) rfl) ?_
      refine RG.pv rfl (PV.mvI (.inl rfl) rfl) ?_
      refine RG.pv rfl (PV.lss rfl rfl rfl) ?_
      refine RG.nil ?_
      have hzl : zs.length = n := by
        have := congrArg List.length hzs
        rw [List.length_map, er_len, nps_len, List.length_take] at this; omega
      refine WP.cond rfl (fun h5 => ?_) (fun h5 => ?_)
      · have h5 := of_decide_eq_true h5
        refine WP.skip ?_
        refine WP.seq ?_
        refine WP.block ?_
        refine WP.seq ?_
        refine WP.region ?_
        refine RG.ot rfl (OT.bslice (F := pieceT) (els := []) rfl El138 rfl (by decide) rfl (by decide) trivial fun v33 => ?_)
        refine RG.pv rfl (PV.asg (v := v33) rfl rfl) ?_
        refine RG.nil ?_
        refine WP.seq ?_
        refine WP.seq ?_
        refine WP.region ?_
        refine RG.pv rfl (PV.mvI (.inr rfl) rfl) ?_
        refine RG.nil ?_
        refine WP.block ?_
        refine WP.loop4 [4, 5, 6, 7, 8] (fun (i : Nat) (ps : List Piece) (bs : List (Sl Rect)) (p : Value) => i ≤ csv16.length ∧ erPs ps = (((List.range i).filter fun j => decide (numR (clsL (er xs)) j = n)).map fun j => pcR (gd (pcL (er xs) 4) j)) ∧ bs = regs ((er (nps zs)).flatten ++ ps)) (fun (i : Nat) (ps : List Piece) (bs : List (Sl Rect)) (p : Value) => [(10, vi i), (9, p)]) (fun (i : Nat) (ps : List Piece) (bs : List (Sl Rect)) (p : Value) => osl 143 pieceT p ps :: bagS 61 rectT bs :: osl 140 netT q zs :: bagS 143 pieceT (nps zs) :: osl 127 partT v16 csv16 :: bagS 4 boolT (cels csv16) :: osl 2 intT w21 (nums (clsL (er xs))) :: L) (fun (i : Nat) (ps : List Piece) (bs : List (Sl Rect)) (p : Value) => csv16.length - i) 0 [] (regs (er (nps zs)).flatten) v33 ⟨by omega, rfl, by rw [List.append_nil]⟩ ⟨rfl, rfl, trivial⟩ Cv.p ?_
        rintro i ps bs p τ1 ⟨hi, hps, hbs⟩
        refine WP.seq ?_
        refine WP.seq ?_
        refine WP.region ?_
        refine RG.pv rfl (PV.mvI (.inl rfl) rfl) ?_
        refine RG.pv rfl (PV.move (v := v16) rfl rfl) ?_
        refine RG.pv rfl (PV.len (v := v16) rfl Tryz.underlying79 rfl SlF.o) ?_
        refine RG.pv rfl (PV.lss rfl rfl rfl) ?_
        refine RG.nil ?_
        have hpl : ps.length ≤ 25600 := by
          have := congrArg List.length hps
          have h6 := List.length_filter_le (fun j => decide (numR (clsL (er xs)) j = n)) (List.range i)
          rw [List.length_range] at h6
          rw [erPs_len, List.length_map] at this; omega
        refine WP.cond rfl (fun h6 => ?_) (fun h6 => ?_)
        · have h6 := of_decide_eq_true h6
          have h7 : i < csv16.length := by omega
          have hnu := hng i h7
          have hfs : (List.range (i + 1)).filter (fun j => decide (numR (clsL (er xs)) j = n)) = (List.range i).filter (fun j => decide (numR (clsL (er xs)) j = n)) ++ (if numR (clsL (er xs)) i = n then [i] else []) := by
            rw [List.range_succ, List.filter_append]
            by_cases c : numR (clsL (er xs)) i = n <;> simp [c]
          refine WP.skip ?_
          refine WP.seq ?_
          refine WP.block ?_
          refine WP.seq ?_
          refine WP.region ?_
          refine RG.pv rfl (PV.move (v := w21) rfl rfl) ?_
          refine RG.pv rfl (PV.mvI (.inl rfl) rfl) ?_
          refine RG.pv rfl (PV.idxS (v := w21) rfl Is26 rfl SlF.o rfl rfl (by omega)) ?_
          refine RG.pv rfl (PV.loadE1 rfl Sc2 rfl rfl (El.o (getG (by omega))) rfl) ?_
          refine RG.pv rfl (PV.mvI (.inl rfl) rfl) ?_
          refine RG.pv rfl (PV.eql rfl rfl rfl) ?_
          refine RG.nil ?_
          refine WP.cond rfl (fun h8 => ?_) (fun h8 => ?_)
          · have h8 := of_decide_eq_true h8
            have h9 : numR (clsL (er xs)) i = n := by omega
            rw [if_pos h9] at hfs
            have hl6 := hc6 i h7
            refine WP.regionHD [.s p] (.q 0 (.q 1 (.q 2 (.q 3 (.q 4 (.q 5 (.q 6 (.q 7 (.q 8 (.q 9 (.q 10 (.l 11 (.q 12 (.l 13 (.l 14 (.q 15 Sch.nil)))))))))))))))) (by kernel_rfl) (by kernel_rfl) (by kernel_rfl) rfl ?_
            refine RH.pv rfl (fun _ _ _ _ h => h) (Gh.le_refl _) PickC.pick rfl (PV.move (v := p) rfl rfl) ?_
            refine RH.pv rfl (fun _ _ _ _ h => h) (Gh.le_refl _) PickC.pick rfl (PV.move (v := v16) rfl rfl) ?_
            refine RH.pv rfl (fun _ _ _ _ h => h) (Gh.le_refl _) PickC.pick rfl (PV.mvI (.inl rfl) rfl) ?_
            refine RH.pv rfl (fun _ _ _ _ h => h) (Gh.le_refl _) PickC.pick rfl (PV.idxS (v := v16) rfl Is79 rfl SlF.o rfl rfl (by omega)) ?_
            refine RH.pv rfl (fun _ _ _ _ h => h) (Gh.le_refl _) PickC.pick rfl (PV.field rfl Fo127_0 rfl) ?_
            refine RH.pv rfl (fun _ _ _ _ h => h) (Gh.le_refl _) PickC.pick rfl (PV.loadF (v := v16) (j := 0) rfl Sc2 rfl rfl (El.o (getG (by omega))) rfl) ?_
            refine RH.pv rfl (fun _ _ _ _ h => h) (Gh.le_refl _) PickC.pick rfl (PV.move (v := v16) rfl rfl) ?_
            refine RH.pv rfl (fun _ _ _ _ h => h) (Gh.le_refl _) PickC.pick rfl (PV.mvI (.inl rfl) rfl) ?_
            refine RH.pv rfl (fun _ _ _ _ h => h) (Gh.le_refl _) PickC.pick rfl (PV.idxS (v := v16) rfl Is79 rfl SlF.o rfl rfl (by omega)) ?_
            refine RH.pv rfl (fun _ _ _ _ h => h) (Gh.le_refl _) PickC.pick rfl (PV.field rfl Fo127_1 rfl) ?_
            refine RH.pv rfl (fun _ _ _ _ h => h) (Gh.le_refl _) PickC.pick rfl (PV.loadF rfl Sc124 rfl rfl (El.o (getG (by omega))) rfl) ?_
            refine RH.ot rfl rfl (OT.callF (vs := [_]) rfl En108 rfl (l03Canon_s (Rs.inCels (xs := csv16) i (by omega)) hl6 (fun v57 => ⟨Gh.le_refl _, PickC.pick, ?_⟩)))
            refine RH.up1 ?_
            refine RH.pv rfl (fun _ _ _ _ h => h) (Gh.le_refl _) PickC.pick rfl (PV.build (vs := [(0, [vi _]), (1, [v57])]) (out := [_, _]) rfl Zr143 Pl143 ⟨rfl, (Cl.c rfl), ⟨rfl, (Cl.s (v := v57) SlF.o), trivial⟩⟩ rfl) ?_
            refine RH.ot rfl rfl (OT.bslice (F := pieceT) (els := [⟨(gd csv16 i).layer, ⟨v57, canon (gd csv16 i).cells.xs⟩⟩]) rfl El138 rfl (by decide) rfl (by decide) ⟨rfl, (Cl.c rfl), trivial⟩ fun v59 => ⟨Gh.le_refl _, PickC.pick, ?_⟩)
            refine RH.ot rfl rfl (OT.append (v := p) (u := v59) (F := pieceT) rfl El138 rfl (by decide) rfl rfl Rs.o (OneL.one (OneC.val rfl (OneC.sl SlF.o OneC.nil))) rfl (by first | omega | (simp <;> omega)) fun v60 => ⟨Gh.le_refl _, PickC.pick, ?_⟩)
            refine RH.pv rfl (fun _ _ _ _ h => h) (Gh.le_refl _) PickC.pick rfl (PV.asg (v := v60) rfl rfl) ?_
            refine RH.nil ?_
            refine WP.region ?_
            refine RG.pv rfl (PV.mvI (.inl rfl) rfl) ?_
            refine RG.pv rfl (PV.add rfl rfl rfl (by omega)) ?_
            refine RG.pv rfl (PV.mvI (.inr rfl) rfl) ?_
            refine RG.nil ?_
            refine ⟨rfl, i + 1, (ps ++ [⟨(gd csv16 i).layer, ⟨v57, canon (gd csv16 i).cells.xs⟩⟩]), (bs ++ [⟨v57, canon (gd csv16 i).cells.xs⟩]), v60, ⟨by omega, ?_, by rw [hbs]; simp [regs]⟩, ⟨rfl, rfl, trivial⟩, ⟨rfl, rfl, rfl, rfl, rfl, trivial⟩, ((Cv.p (C := osl 61 rectT v57 (canon (gd csv16 i).cells.xs) :: bagS 61 rectT bs :: osl 143 pieceT v60 (ps ++ [⟨(gd csv16 i).layer, ⟨v57, canon (gd csv16 i).cells.xs⟩⟩]) :: osl 140 netT q zs :: bagS 143 pieceT (nps zs) :: osl 127 partT v16 csv16 :: bagS 4 boolT (cels csv16) :: osl 2 intT w21 (nums (clsL (er xs))) :: L)).trans (Cv.bagS_add.trans Cv.p)), by omega⟩
            rw [hfs, List.map_append, ← hps, erPs, List.map_append]
            have := hce i h7
            rw [List.map_cons, List.map_nil, List.map_cons, List.map_nil, ← this]; rfl
          · have h8 := of_decide_eq_false h8
            have h9 : ¬ numR (clsL (er xs)) i = n := by omega
            rw [if_neg h9, List.append_nil] at hfs
            refine WP.skip ?_
            refine WP.region ?_
            refine RG.pv rfl (PV.mvI (.inl rfl) rfl) ?_
            refine RG.pv rfl (PV.add rfl rfl rfl (by omega)) ?_
            refine RG.pv rfl (PV.mvI (.inr rfl) rfl) ?_
            refine RG.nil ?_
            exact ⟨rfl, i + 1, ps, bs, p, ⟨by omega, by rw [hfs]; exact hps, hbs⟩, ⟨rfl, rfl, trivial⟩, ⟨rfl, rfl, rfl, rfl, rfl, trivial⟩, Cv.p, by omega⟩
        · have h6 := of_decide_eq_false h6
          obtain rfl : i = csv16.length := by omega
          have hnz : (netL (er xs)).take (n + 1) = (netL (er xs)).take n ++ [erPs ps] := by
            rw [List.take_add_one, getG (by omega), netL_gd (by omega), ← hcsl, ← hps]; rfl
          refine WP.exit ?_
          refine WP.region ?_
          refine RG.pv rfl (PV.move (v := q) rfl rfl) ?_
          refine RG.pv rfl (PV.move (v := p) rfl rfl) ?_
          refine RG.pv rfl (PV.build (vs := [(0, [p])]) (out := [_]) rfl Zr140 Pl140 ⟨rfl, (Cl.s (v := p) SlF.o), trivial⟩ rfl) ?_
          refine RG.ot rfl (OT.bslice (F := netT) (els := [⟨⟨p, ps⟩⟩]) rfl El86 rfl (by decide) rfl (by decide) ⟨rfl, (Cl.c rfl), trivial⟩ fun v64 => ?_)
          refine RG.ot rfl (OT.append (v := q) (u := v64) (F := netT) rfl El86 rfl (by decide) rfl rfl Rs.o (OneL.one (OneC.sl SlF.o OneC.nil)) rfl (by first | omega | (simp <;> omega)) fun v65 => ?_)
          refine RG.pv rfl (PV.asg (v := v65) rfl rfl) ?_
          refine RG.nil ?_
          refine WP.region ?_
          refine RG.pv rfl (PV.mvI (.inl rfl) rfl) ?_
          refine RG.pv rfl (PV.add rfl rfl rfl (by omega)) ?_
          refine RG.pv rfl (PV.mvI (.inr rfl) rfl) ?_
          refine RG.nil ?_
          exact ⟨rfl, n + 1, (zs ++ [⟨⟨p, ps⟩⟩]), v65, ⟨by omega, by rw [hnz, ← hzs, nps_append, er_append, List.map_append]; rfl⟩, ⟨rfl, rfl, trivial⟩, ⟨rfl, rfl, rfl, trivial⟩, ((Cv.p (C := osl 143 pieceT p ps :: bagS 143 pieceT (nps zs) :: bagS 61 rectT bs :: osl 140 netT v65 (zs ++ [⟨⟨p, ps⟩⟩]) :: osl 127 partT v16 csv16 :: bagS 4 boolT (cels csv16) :: osl 2 intT w21 (nums (clsL (er xs))) :: L)).trans ((Cv.grow (ys' := nps (zs ++ [⟨⟨p, ps⟩⟩])) (by simp [nps])).trans ((Cv.cons (Cv.bagPerm (ys := regs (er (nps (zs ++ [⟨⟨p, ps⟩⟩]))).flatten) (.of_eq (by rw [hbs, nps_append, er_append, List.flatten_append]; simp [nps, er])))).trans Cv.p))), by omega⟩
      · have h5 := of_decide_eq_false h5
        have hzs2 : (er (nps zs)).map erPs = netL (er xs) := by rw [hzs, List.take_of_length_le (by omega)]
        refine WP.exit ?_
        refine WP.seq ?_
        refine WP.region ?_
        refine RG.pv rfl (PV.move (v := q) rfl rfl) ?_
        refine RG.pv rfl (PV.asg (v := q) rfl rfl) ?_
        refine RG.pv rfl (PV.mvI (.inr rfl) rfl) ?_
        refine RG.nil ?_
        refine WP.ret ?_
        exact ⟨_, _, ResV.two rfl rfl rfl, Cv.p, k q zs hzs2⟩
end Go.Proofs.YtmomfgfmnpblpaaGreat
namespace Go.Proofs.YtmomfgfmnpblpaaGreat
set_option linter.unusedVariables false
set_option linter.unusedSimpArgs false
open Go
set_option maxRecDepth 20000
set_option linter.unusedSimpArgs false
variable {G : Gh} {L : List Ch} {R : Value → Gh → List Ch → Prop}
def srcP (b : Rect) (ver : Bool) : Pt := bif ver then ⟨b.x0, b.y0 - 1⟩ else ⟨b.x0 - 1, b.y0⟩
def drnP (b : Rect) (ver : Bool) : Pt := bif ver then ⟨b.x0, b.y1⟩ else ⟨b.x1, b.y0⟩
noncomputable def pinsL (l : List (List Rect)) (b : Rect) (ver : Bool) : List Int := [findL l 1 b.x0 b.y0, findL l 0 (srcP b ver).x (srcP b ver).y, findL l 0 (drnP b ver).x (drnP b ver).y]
theorem netAt_f {v : Value} {l : List (List Rect)} {zs : List Net} {n : Int} {q : Pt} (h1 : Rs G L netT v zs) (hp : RsE G L pieceT (nps zs)) (hr : ∀ i, i < zs.length → RsE G L rectT (regs (gd zs i).pieces.xs)) (he : (er (nps zs)).map erPs = netL l) (k : R (vi (findL l n q.x q.y)) G L) : CallT Tryz.prog 56 #[v, vi n, vpt q] G L R := by
  rw [← netAt_eq, ← he] at k
  exact netAt_s h1 hp hr k
theorem pins_i {v : Value} {l : List (List Rect)} {zs : List Net} {c : Chan} (h1 : Rs G L netT v zs) (hp : RsE G L pieceT (nps zs)) (hr : ∀ i, i < zs.length → RsE G L rectT (regs (gd zs i).pieces.xs)) (he : (er (nps zs)).map erPs = netL l) (hv : validRect c.box = true) (k : ∀ v', R v' G (osl 2 intT v' (pinsL l c.box (!c.hor)) :: L)) : CallT Tryz.prog 71 #[vT chanT c, v] G L R := by
  have hb := validR_iff.1 hv
  refine CallT.enter (args := _) Tryz.func71 rfl rfl (by kernel_rfl) rfl ?_
  refine WP.seq ?_
  refine WP.region ?_
  refine RG.ot rfl (OT.box (cs := chanT.enc c) rfl rfl rfl fun b2 => ?_)
  refine RG.pv rfl (PV.asg rfl rfl) ?_
  refine RG.nil ?_
  refine WP.seq ?_
  refine WP.region ?_
  refine RG.pv rfl (PV.field rfl Fo110_0 rfl) ?_
  refine RG.pv rfl (PV.field rfl Fo61_0 rfl) ?_
  refine RG.pv rfl (PV.load1 rfl Sc2 rfl (Rd.blk rfl)) ?_
  refine RG.pv rfl (PV.field rfl Fo110_0 rfl) ?_
  refine RG.pv rfl (PV.field rfl Fo61_1 rfl) ?_
  refine RG.pv rfl (PV.load1 rfl Sc2 rfl (Rd.blk rfl)) ?_
  refine RG.pv rfl (PV.build (vs := [(0, [vi _]), (1, [vi _])]) (out := [_, _]) rfl Zr49 Pl49 ⟨rfl, (Cl.c rfl), ⟨rfl, (Cl.c rfl), trivial⟩⟩ rfl) ?_
  refine RG.ot rfl (OT.alloc rfl Zr49 fun b5 => ?_)
  refine RG.ot rfl (OT.storeW (vs := [vi _, vi _]) rfl Sz49 rfl rfl (Cl.c rfl) rfl rfl (OneC.c rfl) ?_)
  refine RG.nil ?_
  refine WP.cut2 [1, 2, 5] (fun (b6 b7 : Nat) => True) (fun (b6 b7 : Nat) => [(6, .pointer (some ⟨b6, 0, none⟩)), (7, .pointer (some ⟨b7, 0, none⟩))]) (fun (b6 b7 : Nat) => blk b6 49 [vi (c.box.x0 - 1), vi c.box.y0] :: blk b7 49 [vi c.box.x1, vi c.box.y0] :: blk b5 49 [vi c.box.x0, vi c.box.y0] :: blk b2 110 (chanT.enc c) :: L) ?_ ?_
  refine WP.regionH0 (.q 0 (.q 1 (.q 2 (.q 3 (.q 4 (.q 5 (.q 6 (.q 7 (.q 8 (.q 9 (.q 10 (.q 11 (.q 12 (.q 13 (.q 14 (.b 15 (.l 16 (.l 17 (.l 18 Sch.nil))) 16 (.l 15 (.l 17 (.l 18 Sch.nil))))))))))))))))))) (by kernel_rfl) (by kernel_rfl) (by kernel_rfl) rfl ?_
  refine RH.pv rfl (fun _ _ _ _ h => h) (Gh.le_refl _) PickC.pick rfl (PV.field rfl Fo110_0 rfl) ?_
  refine RH.pv rfl (fun _ _ _ _ h => h) (Gh.le_refl _) PickC.pick rfl (PV.field rfl Fo61_0 rfl) ?_
  refine RH.pv rfl (fun _ _ _ _ h => h) (Gh.le_refl _) PickC.pick rfl (PV.load1 rfl Sc2 rfl (Rd.blk rfl)) ?_
  refine RH.pv rfl (fun _ _ _ _ h => h) (Gh.le_refl _) PickC.pick rfl (PV.sub rfl rfl rfl (by omega)) ?_
  refine RH.pv rfl (fun _ _ _ _ h => h) (Gh.le_refl _) PickC.pick rfl (PV.field rfl Fo110_0 rfl) ?_
  refine RH.pv rfl (fun _ _ _ _ h => h) (Gh.le_refl _) PickC.pick rfl (PV.field rfl Fo61_1 rfl) ?_
  refine RH.pv rfl (fun _ _ _ _ h => h) (Gh.le_refl _) PickC.pick rfl (PV.load1 rfl Sc2 rfl (Rd.blk rfl)) ?_
  refine RH.pv rfl (fun _ _ _ _ h => h) (Gh.le_refl _) PickC.pick rfl (PV.build (vs := [(0, [vi _]), (1, [vi _])]) (out := [_, _]) rfl Zr49 Pl49 ⟨rfl, (Cl.c rfl), ⟨rfl, (Cl.c rfl), trivial⟩⟩ rfl) ?_
  refine RH.pv rfl (fun _ _ _ _ h => h) (Gh.le_refl _) PickC.pick rfl (PV.field rfl Fo110_0 rfl) ?_
  refine RH.pv rfl (fun _ _ _ _ h => h) (Gh.le_refl _) PickC.pick rfl (PV.field rfl Fo61_2 rfl) ?_
  refine RH.pv rfl (fun _ _ _ _ h => h) (Gh.le_refl _) PickC.pick rfl (PV.load1 rfl Sc2 rfl (Rd.blk rfl)) ?_
  refine RH.pv rfl (fun _ _ _ _ h => h) (Gh.le_refl _) PickC.pick rfl (PV.field rfl Fo110_0 rfl) ?_
  refine RH.pv rfl (fun _ _ _ _ h => h) (Gh.le_refl _) PickC.pick rfl (PV.field rfl Fo61_1 rfl) ?_
  refine RH.pv rfl (fun _ _ _ _ h => h) (Gh.le_refl _) PickC.pick rfl (PV.load1 rfl Sc2 rfl (Rd.blk rfl)) ?_
  refine RH.pv rfl (fun _ _ _ _ h => h) (Gh.le_refl _) PickC.pick rfl (PV.build (vs := [(0, [vi _]), (1, [vi _])]) (out := [_, _]) rfl Zr49 Pl49 ⟨rfl, (Cl.c rfl), ⟨rfl, (Cl.c rfl), trivial⟩⟩ rfl) ?_
  · refine RH.ot2 rfl rfl rfl rfl  (OT.alloc rfl Zr49 fun b6 => ⟨Gh.le_refl _, PickC.pick, ?_⟩) (OT.alloc rfl Zr49 fun b7 => ⟨Gh.le_refl _, PickC.pick, ?_⟩)
    · refine RH.ot rfl rfl (OT.alloc rfl Zr49 fun b7 => ⟨Gh.le_refl _, PickC.pick, ?_⟩)
      refine RH.ot rfl rfl (OT.storeW (vs := [vi _, vi _]) rfl Sz49 rfl rfl (Cl.c rfl) rfl rfl (OneC.c rfl) ⟨Gh.le_refl _, PickC.pick, ?_⟩)
      refine RH.ot rfl rfl (OT.storeW (vs := [vi _, vi _]) rfl Sz49 rfl rfl (Cl.c rfl) rfl rfl (OneC.c rfl) ⟨Gh.le_refl _, PickC.pick, ?_⟩)
      refine RH.nil ?_
      exact ⟨rfl, b6, b7, trivial, ⟨rfl, rfl, trivial⟩, ⟨rfl, rfl, rfl, trivial⟩, Cv.p⟩
    · refine RH.ot rfl rfl (OT.alloc rfl Zr49 fun b6 => ⟨Gh.le_refl _, PickC.pick, ?_⟩)
      refine RH.ot rfl rfl (OT.storeW (vs := [vi _, vi _]) rfl Sz49 rfl rfl (Cl.c rfl) rfl rfl (OneC.c rfl) ⟨Gh.le_refl _, PickC.pick, ?_⟩)
      refine RH.ot rfl rfl (OT.storeW (vs := [vi _, vi _]) rfl Sz49 rfl rfl (Cl.c rfl) rfl rfl (OneC.c rfl) ⟨Gh.le_refl _, PickC.pick, ?_⟩)
      refine RH.nil ?_
      exact ⟨rfl, b6, b7, trivial, ⟨rfl, rfl, trivial⟩, ⟨rfl, rfl, rfl, trivial⟩, Cv.p⟩
  rintro b6 b7 τ0 -
  refine WP.cut4 [1, 5, 6, 7] (fun (sx sy dx dy : Int) => (⟨sx, sy⟩ : Pt) = srcP c.box (!c.hor) ∧ (⟨dx, dy⟩ : Pt) = drnP c.box (!c.hor)) (fun (sx sy dx dy : Int) => []) (fun (sx sy dx dy : Int) => blk b6 49 [vi sx, vi sy] :: blk b7 49 [vi dx, vi dy] :: blk b5 49 [vi c.box.x0, vi c.box.y0] :: blk b2 110 (chanT.enc c) :: L) ?_ ?_
  refine WP.seq ?_
  refine WP.region ?_
  refine RG.pv rfl (PV.field rfl Fo110_2 rfl) ?_
  refine RG.pv rfl (PV.load1 rfl Sc4 rfl (Rd.blk rfl)) ?_
  refine RG.pv rfl (PV.not rfl rfl) ?_
  refine RG.nil ?_
  refine WP.cond rfl (fun h => ?_) (fun h => ?_)
  · refine WP.regionHD [.b b6, .b b7] (.q 0 (.q 1 (.q 2 (.q 3 (.q 4 (.q 5 (.q 6 (.q 7 (.q 8 (.q 9 (.q 10 (.q 11 (.q 12 (.q 13 (.q 14 (.l 15 (.l 16 Sch.nil))))))))))))))))) (by kernel_rfl) (by kernel_rfl) (by kernel_rfl) rfl ?_
    refine RH.pv rfl (fun _ _ _ _ h => h) (Gh.le_refl _) PickC.pick rfl (PV.field rfl Fo110_0 rfl) ?_
    refine RH.pv rfl (fun _ _ _ _ h => h) (Gh.le_refl _) PickC.pick rfl (PV.field rfl Fo61_0 rfl) ?_
    refine RH.pv rfl (fun _ _ _ _ h => h) (Gh.le_refl _) PickC.pick rfl (PV.load1 rfl Sc2 rfl (Rd.blk rfl)) ?_
    refine RH.pv rfl (fun _ _ _ _ h => h) (Gh.le_refl _) PickC.pick rfl (PV.field rfl Fo110_0 rfl) ?_
    refine RH.pv rfl (fun _ _ _ _ h => h) (Gh.le_refl _) PickC.pick rfl (PV.field rfl Fo61_1 rfl) ?_
    refine RH.pv rfl (fun _ _ _ _ h => h) (Gh.le_refl _) PickC.pick rfl (PV.load1 rfl Sc2 rfl (Rd.blk rfl)) ?_
    refine RH.pv rfl (fun _ _ _ _ h => h) (Gh.le_refl _) PickC.pick rfl (PV.sub rfl rfl rfl (by omega)) ?_
    refine RH.pv rfl (fun _ _ _ _ h => h) (Gh.le_refl _) PickC.pick rfl (PV.build (vs := [(0, [vi _]), (1, [vi _])]) (out := [_, _]) rfl Zr49 Pl49 ⟨rfl, (Cl.c rfl), ⟨rfl, (Cl.c rfl), trivial⟩⟩ rfl) ?_
    refine RH.pv rfl (fun _ _ _ _ h => h) (Gh.le_refl _) PickC.pick rfl (PV.field rfl Fo110_0 rfl) ?_
    refine RH.pv rfl (fun _ _ _ _ h => h) (Gh.le_refl _) PickC.pick rfl (PV.field rfl Fo61_0 rfl) ?_
    refine RH.pv rfl (fun _ _ _ _ h => h) (Gh.le_refl _) PickC.pick rfl (PV.load1 rfl Sc2 rfl (Rd.blk rfl)) ?_
    refine RH.pv rfl (fun _ _ _ _ h => h) (Gh.le_refl _) PickC.pick rfl (PV.field rfl Fo110_0 rfl) ?_
    refine RH.pv rfl (fun _ _ _ _ h => h) (Gh.le_refl _) PickC.pick rfl (PV.field rfl Fo61_3 rfl) ?_
    refine RH.pv rfl (fun _ _ _ _ h => h) (Gh.le_refl _) PickC.pick rfl (PV.load1 rfl Sc2 rfl (Rd.blk rfl)) ?_
    refine RH.pv rfl (fun _ _ _ _ h => h) (Gh.le_refl _) PickC.pick rfl (PV.build (vs := [(0, [vi _]), (1, [vi _])]) (out := [_, _]) rfl Zr49 Pl49 ⟨rfl, (Cl.c rfl), ⟨rfl, (Cl.c rfl), trivial⟩⟩ rfl) ?_
    refine RH.ot rfl rfl (OT.storeW (vs := [vi _, vi _]) rfl Sz49 rfl rfl (Cl.c rfl) rfl rfl (OneC.c rfl) ⟨Gh.le_refl _, PickC.pick, ?_⟩)
    refine RH.ot rfl rfl (OT.storeW (vs := [vi _, vi _]) rfl Sz49 rfl rfl (Cl.c rfl) rfl rfl (OneC.c rfl) ⟨Gh.le_refl _, PickC.pick, ?_⟩)
    refine RH.nil ?_
    exact ⟨rfl, c.box.x0, (c.box.y0 - 1), c.box.x0, c.box.y1, ⟨by rw [h]; rfl, by rw [h]; rfl⟩, trivial, ⟨rfl, rfl, rfl, rfl, trivial⟩, Cv.p⟩
  · refine WP.skip ?_
    exact ⟨rfl, (c.box.x0 - 1), c.box.y0, c.box.x1, c.box.y0, ⟨by rw [h]; rfl, by rw [h]; rfl⟩, trivial, ⟨rfl, rfl, rfl, rfl, trivial⟩, Cv.p⟩
  rintro sx sy dx dy τ1 ⟨hs, hd⟩
  have e : pinsL l c.box (!c.hor) = [findL l 1 c.box.x0 c.box.y0, findL l 0 sx sy, findL l 0 dx dy] := by rw [pinsL, ← hs, ← hd]
  rw [e] at k
  refine WP.seq ?_
  refine WP.regionH0 (.q 0 (.q 1 (.q 3 (.q 4 (.q 6 (.q 7 (.l 2 (.l 5 (.l 8 (.l 9 (.q 10 Sch.nil))))))))))) (by kernel_rfl) (by kernel_rfl) (by kernel_rfl) rfl ?_
  refine RH.pv rfl (fun _ _ _ _ h => h) (Gh.le_refl _) PickC.pick rfl (PV.move (v := v) rfl rfl) ?_
  refine RH.pv rfl (fun _ _ _ _ h => h) (Gh.le_refl _) PickC.pick rfl (PV.loadW rfl Ag49 rfl rfl) ?_
  refine RH.pv rfl (fun _ _ _ _ h => h) (Gh.le_refl _) PickC.pick rfl (PV.move (v := v) rfl rfl) ?_
  refine RH.pv rfl (fun _ _ _ _ h => h) (Gh.le_refl _) PickC.pick rfl (PV.loadW rfl Ag49 rfl rfl) ?_
  refine RH.pv rfl (fun _ _ _ _ h => h) (Gh.le_refl _) PickC.pick rfl (PV.move (v := v) rfl rfl) ?_
  refine RH.pv rfl (fun _ _ _ _ h => h) (Gh.le_refl _) PickC.pick rfl (PV.loadW rfl Ag49 rfl rfl) ?_
  refine RH.ot rfl rfl (OT.callF (vs := [v, _, _]) rfl En56 rfl (netAt_f (q := ⟨c.box.x0, c.box.y0⟩) (Rs.up h1) hp.up (fun i hi => (hr i hi).up) he ⟨Gh.le_refl _, PickC.pick, ?_⟩))
  refine RH.ot rfl rfl (OT.callF (vs := [v, _, _]) rfl En56 rfl (netAt_f (q := ⟨sx, sy⟩) (Rs.up h1) hp.up (fun i hi => (hr i hi).up) he ⟨Gh.le_refl _, PickC.pick, ?_⟩))
  refine RH.ot rfl rfl (OT.callF (vs := [v, _, _]) rfl En56 rfl (netAt_f (q := ⟨dx, dy⟩) (Rs.up h1) hp.up (fun i hi => (hr i hi).up) he ⟨Gh.le_refl _, PickC.pick, ?_⟩))
  refine RH.ot rfl rfl (OT.bslice (F := intT) (els := [_, _, _]) rfl El26 rfl (by decide) rfl (by decide) ⟨rfl, (Cl.c rfl), ⟨rfl, (Cl.c rfl), ⟨rfl, (Cl.c rfl), trivial⟩⟩⟩ fun v57 => ⟨Gh.le_refl _, PickC.pick, ?_⟩)
  refine RH.pv rfl (fun _ _ _ _ h => h) (Gh.le_refl _) PickC.pick rfl (PV.asg (v := v57) rfl rfl) ?_
  refine RH.nil ?_
  refine WP.ret ?_
  exact ⟨_, _, ResV.one rfl rfl, Cv.p, k v57⟩
noncomputable def pinE (l : List (List Rect)) (box : Rect) : Int := if netE l = 0 then (match chanE l box with | some _ => 0 | none => 5) else netE l
noncomputable def pinR (l : List (List Rect)) (box : Rect) : List Int := if netE l = 0 then (match chanE l box with | some c => pinsL l box (!c.hor) | none => []) else []
theorem chPins_i {v : Value} {xs : List (Sl Rect)} {box : Rect} (h1 : Rs G L slT v xs) (hd : RsE G L rectT xs) (k : ∀ v', R (.tuple #[v', vi (pinE (er xs) box)]) G (osl 2 intT v' (pinR (er xs) box) :: L)) : CallT Tryz.prog 32 #[v, vrect box] G L R := by
  refine CallT.enter (args := _) Tryz.func32 rfl rfl (by kernel_rfl) rfl ?_
  refine WP.seq ?_
  refine WP.region ?_
  refine RG.ot rfl (OT.box (cs := rectT.enc box) rfl rfl rfl fun b3 => ?_)
  refine RG.pv rfl (PV.asg rfl rfl) ?_
  refine RG.pv rfl (PV.mvI (.inr rfl) rfl) ?_
  refine RG.nil ?_
  refine WP.seq ?_
  refine WP.region ?_
  refine RG.pv rfl (PV.move (v := v) rfl rfl) ?_
  refine RG.callF (vs := [v]) rfl rfl En55 rfl (nets_i (Rs.up h1) hd.up (fun w12 zsw12 hew12 => ?_))
  refine RG.pv rfl (PV.move (v := .tuple _) rfl rfl) ?_
  refine RG.pv rfl (PV.ext (v := w12) rfl rfl rfl) ?_
  refine RG.pv rfl (PV.ext rfl rfl rfl) ?_
  refine RG.pv rfl (PV.asg (v := w12) rfl rfl) ?_
  refine RG.pv rfl (PV.mvI (.inr rfl) rfl) ?_
  refine RG.nil ?_
  refine WP.seq ?_
  refine WP.seq ?_
  refine WP.region ?_
  refine RG.pv rfl (PV.mvI (.inl rfl) rfl) ?_
  refine RG.pv rfl (PV.neq rfl rfl rfl) ?_
  refine RG.nil ?_
  refine WP.cond rfl (fun h2 => ?_) (fun h2 => ?_)
  · have h3 : netE (er xs) ≠ 0 := by simpa using h2
    have e1 : pinE (er xs) box = netE (er xs) := by rw [pinE, if_neg h3]
    have e2 : pinR (er xs) box = [] := by rw [pinR, if_neg h3]
    rw [e1, e2] at k
    refine WP.seq ?_
    refine WP.region ?_
    refine RG.pv rfl (PV.mvI (.inl rfl) rfl) ?_
    refine RG.pv rfl (PV.asg rfl rfl) ?_
    refine RG.pv rfl (PV.mvI (.inr rfl) rfl) ?_
    refine RG.nil ?_
    refine WP.ret ?_
    exact ⟨_, _, ResV.two rfl rfl rfl, Cv.nilP, k _⟩
  · have h3 : netE (er xs) = 0 := by simpa using h2
    have he : (er (nps zsw12)).map erPs = netL (er xs) := by rw [hew12, netR, if_pos h3]
    refine WP.skip ?_
    refine WP.seq ?_
    refine WP.region ?_
    refine RG.pv rfl (PV.move (v := v) rfl rfl) ?_
    refine RG.pv rfl (PV.loadW rfl Ag61 rfl rfl) ?_
    refine RG.callF (vs := [v, _]) rfl rfl En78 rfl (channelWith_s (Rs.up h1) hd.up (fun c hc => ?_))
    refine RG.pv rfl (PV.move (v := .tuple _) rfl rfl) ?_
    refine RG.pv rfl (PV.ext rfl rfl rfl) ?_
    refine RG.pv rfl (PV.ext rfl rfl rfl) ?_
    refine RG.ot rfl (OT.alloc rfl Zr110 fun b8 => ?_)
    refine RG.ot rfl (OT.storeW (vs := [vi _, vi _, vi _, vi _, vi _, .bool _]) rfl Sz110 rfl rfl (Cl.c rfl) rfl rfl (OneC.c rfl) ?_)
    refine RG.pv rfl (PV.mvB (.inr rfl) rfl) ?_
    refine RG.nil ?_
    refine WP.seq ?_
    refine WP.seq ?_
    refine WP.region ?_
    refine RG.pv rfl (PV.mvB (.inl rfl) rfl) ?_
    refine RG.pv rfl (PV.not rfl rfl) ?_
    refine RG.nil ?_
    refine WP.cond rfl (fun h4 => ?_) (fun h4 => ?_)
    · have hn : chanE (er xs) box = none := by simpa using h4
      have e1 : pinE (er xs) box = 5 := by rw [pinE, if_pos h3, hn]
      have e2 : pinR (er xs) box = [] := by rw [pinR, if_pos h3, hn]
      rw [e1, e2] at k
      refine WP.seq ?_
      refine WP.region ?_
      refine RG.pv rfl (PV.asg rfl rfl) ?_
      refine RG.pv rfl (PV.mvI (.inr rfl) rfl) ?_
      refine RG.nil ?_
      refine WP.ret ?_
      exact ⟨_, _, ResV.two rfl rfl rfl, Cv.nilP, k _⟩
    · have hc : chanE (er xs) box = some c := by
        rcases hc with hc | hc
        · exact hc
        · rw [hc] at h4; simp at h4
      obtain ⟨hv, _, hbx, _⟩ := chanE_valid hc
      have e1 : pinE (er xs) box = 0 := by rw [pinE, if_pos h3, hc]
      have e2 : pinR (er xs) box = pinsL (er xs) c.box (!c.hor) := by rw [pinR, if_pos h3, hc, hbx]
      rw [e1, e2] at k
      refine WP.skip ?_
      refine WP.seq ?_
      refine WP.region ?_
      refine RG.pv rfl (PV.loadW rfl Ag110 rfl rfl) ?_
      refine RG.pv rfl (PV.move (v := w12) rfl rfl) ?_
      refine RG.callF (vs := [_, w12]) rfl rfl En71 rfl (pins_i Rs.o RsE.o (fun i hi => RsE.flat hi) he hv (fun v28 => ?_))
      refine RG.pv rfl (PV.asg (v := v28) rfl rfl) ?_
      refine RG.pv rfl (PV.mvI (.inr rfl) rfl) ?_
      refine RG.nil ?_
      refine WP.ret ?_
      exact ⟨_, _, ResV.two rfl rfl rfl, Cv.p, k v28⟩
theorem l24Pins_s {u w : Value} {l : List (List Rect)} {cs : List Part} {box : Rect} {f : Int} (h1 : Rs G L partT u cs) (hcd : RsE G L boolT (cels cs)) (h2 : Rs G L intT w (nums (clsL l))) (hcs : cs.map erC = pcL l 4) (hv : validRect box = true) (k : ∀ v', R v' G (osl 2 intT v' (pinsL l box (decide (f = 2))) :: L)) : CallT Tryz.prog 77 #[u, w, vrect box, vi f] G L R := by
  have hb := validR_iff.1 hv
  refine CallT.enter (args := _) Tryz.func77 rfl rfl (by kernel_rfl) rfl ?_
  refine WP.seq ?_
  refine WP.region ?_
  refine RG.ot rfl (OT.box (cs := rectT.enc box) rfl rfl rfl fun b6 => ?_)
  refine RG.pv rfl (PV.asg rfl rfl) ?_
  refine RG.nil ?_
  refine WP.cut2 [0, 1, 3, 6] (fun (b9 b10 : Nat) => True) (fun (b9 b10 : Nat) => [(9, .pointer (some ⟨b9, 0, none⟩)), (10, .pointer (some ⟨b10, 0, none⟩))]) (fun (b9 b10 : Nat) => blk b9 49 [vi (box.x0 - 1), vi box.y0] :: blk b10 49 [vi box.x1, vi box.y0] :: blk b6 61 (rectT.enc box) :: L) ?_ ?_
  refine WP.regionH0 (.q 0 (.q 1 (.q 2 (.q 3 (.q 4 (.q 5 (.q 6 (.q 7 (.q 8 (.q 9 (.q 10 (.b 11 (.l 12 (.l 13 (.l 14 Sch.nil))) 12 (.l 11 (.l 13 (.l 14 Sch.nil))))))))))))))) (by kernel_rfl) (by kernel_rfl) (by kernel_rfl) rfl ?_
  refine RH.pv rfl (fun _ _ _ _ h => h) (Gh.le_refl _) PickC.pick rfl (PV.field rfl Fo61_0 rfl) ?_
  refine RH.pv rfl (fun _ _ _ _ h => h) (Gh.le_refl _) PickC.pick rfl (PV.load1 rfl Sc2 rfl (Rd.blk rfl)) ?_
  refine RH.pv rfl (fun _ _ _ _ h => h) (Gh.le_refl _) PickC.pick rfl (PV.sub rfl rfl rfl (by omega)) ?_
  refine RH.pv rfl (fun _ _ _ _ h => h) (Gh.le_refl _) PickC.pick rfl (PV.field rfl Fo61_1 rfl) ?_
  refine RH.pv rfl (fun _ _ _ _ h => h) (Gh.le_refl _) PickC.pick rfl (PV.load1 rfl Sc2 rfl (Rd.blk rfl)) ?_
  refine RH.pv rfl (fun _ _ _ _ h => h) (Gh.le_refl _) PickC.pick rfl (PV.build (vs := [(0, [vi _]), (1, [vi _])]) (out := [_, _]) rfl Zr49 Pl49 ⟨rfl, (Cl.c rfl), ⟨rfl, (Cl.c rfl), trivial⟩⟩ rfl) ?_
  refine RH.pv rfl (fun _ _ _ _ h => h) (Gh.le_refl _) PickC.pick rfl (PV.field rfl Fo61_2 rfl) ?_
  refine RH.pv rfl (fun _ _ _ _ h => h) (Gh.le_refl _) PickC.pick rfl (PV.load1 rfl Sc2 rfl (Rd.blk rfl)) ?_
  refine RH.pv rfl (fun _ _ _ _ h => h) (Gh.le_refl _) PickC.pick rfl (PV.field rfl Fo61_1 rfl) ?_
  refine RH.pv rfl (fun _ _ _ _ h => h) (Gh.le_refl _) PickC.pick rfl (PV.load1 rfl Sc2 rfl (Rd.blk rfl)) ?_
  refine RH.pv rfl (fun _ _ _ _ h => h) (Gh.le_refl _) PickC.pick rfl (PV.build (vs := [(0, [vi _]), (1, [vi _])]) (out := [_, _]) rfl Zr49 Pl49 ⟨rfl, (Cl.c rfl), ⟨rfl, (Cl.c rfl), trivial⟩⟩ rfl) ?_
  · refine RH.ot2 rfl rfl rfl rfl  (OT.alloc rfl Zr49 fun b9 => ⟨Gh.le_refl _, PickC.pick, ?_⟩) (OT.alloc rfl Zr49 fun b10 => ⟨Gh.le_refl _, PickC.pick, ?_⟩)
    · refine RH.ot rfl rfl (OT.alloc rfl Zr49 fun b10 => ⟨Gh.le_refl _, PickC.pick, ?_⟩)
      refine RH.ot rfl rfl (OT.storeW (vs := [vi _, vi _]) rfl Sz49 rfl rfl (Cl.c rfl) rfl rfl (OneC.c rfl) ⟨Gh.le_refl _, PickC.pick, ?_⟩)
      refine RH.ot rfl rfl (OT.storeW (vs := [vi _, vi _]) rfl Sz49 rfl rfl (Cl.c rfl) rfl rfl (OneC.c rfl) ⟨Gh.le_refl _, PickC.pick, ?_⟩)
      refine RH.nil ?_
      exact ⟨rfl, b9, b10, trivial, ⟨rfl, rfl, trivial⟩, ⟨rfl, rfl, rfl, rfl, trivial⟩, Cv.p⟩
    · refine RH.ot rfl rfl (OT.alloc rfl Zr49 fun b9 => ⟨Gh.le_refl _, PickC.pick, ?_⟩)
      refine RH.ot rfl rfl (OT.storeW (vs := [vi _, vi _]) rfl Sz49 rfl rfl (Cl.c rfl) rfl rfl (OneC.c rfl) ⟨Gh.le_refl _, PickC.pick, ?_⟩)
      refine RH.ot rfl rfl (OT.storeW (vs := [vi _, vi _]) rfl Sz49 rfl rfl (Cl.c rfl) rfl rfl (OneC.c rfl) ⟨Gh.le_refl _, PickC.pick, ?_⟩)
      refine RH.nil ?_
      exact ⟨rfl, b9, b10, trivial, ⟨rfl, rfl, trivial⟩, ⟨rfl, rfl, rfl, rfl, trivial⟩, Cv.p⟩
  rintro b9 b10 τ0 -
  refine WP.cut4 [0, 1, 6, 9, 10] (fun (sx sy dx dy : Int) => (⟨sx, sy⟩ : Pt) = srcP box (decide (f = 2)) ∧ (⟨dx, dy⟩ : Pt) = drnP box (decide (f = 2))) (fun (sx sy dx dy : Int) => []) (fun (sx sy dx dy : Int) => blk b9 49 [vi sx, vi sy] :: blk b10 49 [vi dx, vi dy] :: blk b6 61 (rectT.enc box) :: L) ?_ ?_
  refine WP.seq ?_
  refine WP.region ?_
  refine RG.pv rfl (PV.mvI (.inl rfl) rfl) ?_
  refine RG.pv rfl (PV.eql rfl rfl rfl) ?_
  refine RG.nil ?_
  refine WP.cond rfl (fun h => ?_) (fun h => ?_)
  · refine WP.regionHD [.b b9, .b b10] (.q 0 (.q 1 (.q 2 (.q 3 (.q 4 (.q 5 (.q 6 (.q 7 (.q 8 (.q 9 (.q 10 (.l 11 (.l 12 Sch.nil))))))))))))) (by kernel_rfl) (by kernel_rfl) (by kernel_rfl) rfl ?_
    refine RH.pv rfl (fun _ _ _ _ h => h) (Gh.le_refl _) PickC.pick rfl (PV.field rfl Fo61_0 rfl) ?_
    refine RH.pv rfl (fun _ _ _ _ h => h) (Gh.le_refl _) PickC.pick rfl (PV.load1 rfl Sc2 rfl (Rd.blk rfl)) ?_
    refine RH.pv rfl (fun _ _ _ _ h => h) (Gh.le_refl _) PickC.pick rfl (PV.field rfl Fo61_1 rfl) ?_
    refine RH.pv rfl (fun _ _ _ _ h => h) (Gh.le_refl _) PickC.pick rfl (PV.load1 rfl Sc2 rfl (Rd.blk rfl)) ?_
    refine RH.pv rfl (fun _ _ _ _ h => h) (Gh.le_refl _) PickC.pick rfl (PV.sub rfl rfl rfl (by omega)) ?_
    refine RH.pv rfl (fun _ _ _ _ h => h) (Gh.le_refl _) PickC.pick rfl (PV.build (vs := [(0, [vi _]), (1, [vi _])]) (out := [_, _]) rfl Zr49 Pl49 ⟨rfl, (Cl.c rfl), ⟨rfl, (Cl.c rfl), trivial⟩⟩ rfl) ?_
    refine RH.pv rfl (fun _ _ _ _ h => h) (Gh.le_refl _) PickC.pick rfl (PV.field rfl Fo61_0 rfl) ?_
    refine RH.pv rfl (fun _ _ _ _ h => h) (Gh.le_refl _) PickC.pick rfl (PV.load1 rfl Sc2 rfl (Rd.blk rfl)) ?_
    refine RH.pv rfl (fun _ _ _ _ h => h) (Gh.le_refl _) PickC.pick rfl (PV.field rfl Fo61_3 rfl) ?_
    refine RH.pv rfl (fun _ _ _ _ h => h) (Gh.le_refl _) PickC.pick rfl (PV.load1 rfl Sc2 rfl (Rd.blk rfl)) ?_
    refine RH.pv rfl (fun _ _ _ _ h => h) (Gh.le_refl _) PickC.pick rfl (PV.build (vs := [(0, [vi _]), (1, [vi _])]) (out := [_, _]) rfl Zr49 Pl49 ⟨rfl, (Cl.c rfl), ⟨rfl, (Cl.c rfl), trivial⟩⟩ rfl) ?_
    refine RH.ot rfl rfl (OT.storeW (vs := [vi _, vi _]) rfl Sz49 rfl rfl (Cl.c rfl) rfl rfl (OneC.c rfl) ⟨Gh.le_refl _, PickC.pick, ?_⟩)
    refine RH.ot rfl rfl (OT.storeW (vs := [vi _, vi _]) rfl Sz49 rfl rfl (Cl.c rfl) rfl rfl (OneC.c rfl) ⟨Gh.le_refl _, PickC.pick, ?_⟩)
    refine RH.nil ?_
    exact ⟨rfl, box.x0, (box.y0 - 1), box.x0, box.y1, ⟨by rw [h]; rfl, by rw [h]; rfl⟩, trivial, ⟨rfl, rfl, rfl, rfl, rfl, trivial⟩, Cv.p⟩
  · refine WP.skip ?_
    exact ⟨rfl, (box.x0 - 1), box.y0, box.x1, box.y0, ⟨by rw [h]; rfl, by rw [h]; rfl⟩, trivial, ⟨rfl, rfl, rfl, rfl, rfl, trivial⟩, Cv.p⟩
  rintro sx sy dx dy τ1 ⟨hs, hd⟩
  have e : pinsL l box (decide (f = 2)) = [findL l 1 box.x0 box.y0, findL l 0 sx sy, findL l 0 dx dy] := by rw [pinsL, ← hs, ← hd]
  rw [e] at k
  refine WP.seq ?_
  refine WP.region ?_
  refine RG.pv rfl (PV.move (v := u) rfl rfl) ?_
  refine RG.pv rfl (PV.move (v := w) rfl rfl) ?_
  refine RG.pv rfl (PV.field rfl Fo61_0 rfl) ?_
  refine RG.pv rfl (PV.load1 rfl Sc2 rfl (Rd.blk rfl)) ?_
  refine RG.pv rfl (PV.field rfl Fo61_1 rfl) ?_
  refine RG.pv rfl (PV.load1 rfl Sc2 rfl (Rd.blk rfl)) ?_
  refine RG.pv rfl (PV.build (vs := [(0, [vi _]), (1, [vi _])]) (out := [_, _]) rfl Zr49 Pl49 ⟨rfl, (Cl.c rfl), ⟨rfl, (Cl.c rfl), trivial⟩⟩ rfl) ?_
  refine RG.callF (vs := [u, w, _, _]) rfl rfl En50 rfl (l23Find_s (q := ⟨box.x0, box.y0⟩) (Rs.up h1) hcd.up (Rs.up h2) hcs ?_)
  refine RG.pv rfl (PV.mvI (.inr rfl) rfl) ?_
  refine RG.nil ?_
  refine WP.seq ?_
  refine WP.regionH0 (.q 0 (.q 1 (.q 2 (.q 3 (.q 5 (.q 6 (.q 7 (.l 4 (.l 8 (.l 9 (.q 10 Sch.nil))))))))))) (by kernel_rfl) (by kernel_rfl) (by kernel_rfl) rfl ?_
  refine RH.pv rfl (fun _ _ _ _ h => h) (Gh.le_refl _) PickC.pick rfl (PV.mvI (.inl rfl) rfl) ?_
  refine RH.pv rfl (fun _ _ _ _ h => h) (Gh.le_refl _) PickC.pick rfl (PV.move (v := u) rfl rfl) ?_
  refine RH.pv rfl (fun _ _ _ _ h => h) (Gh.le_refl _) PickC.pick rfl (PV.move (v := w) rfl rfl) ?_
  refine RH.pv rfl (fun _ _ _ _ h => h) (Gh.le_refl _) PickC.pick rfl (PV.loadW rfl Ag49 rfl rfl) ?_
  refine RH.pv rfl (fun _ _ _ _ h => h) (Gh.le_refl _) PickC.pick rfl (PV.move (v := u) rfl rfl) ?_
  refine RH.pv rfl (fun _ _ _ _ h => h) (Gh.le_refl _) PickC.pick rfl (PV.move (v := w) rfl rfl) ?_
  refine RH.pv rfl (fun _ _ _ _ h => h) (Gh.le_refl _) PickC.pick rfl (PV.loadW rfl Ag49 rfl rfl) ?_
  refine RH.ot rfl rfl (OT.callF (vs := [u, w, _, _]) rfl En50 rfl (l23Find_s (q := ⟨sx, sy⟩) (Rs.up h1) hcd.up (Rs.up h2) hcs ⟨Gh.le_refl _, PickC.pick, ?_⟩))
  refine RH.ot rfl rfl (OT.callF (vs := [u, w, _, _]) rfl En50 rfl (l23Find_s (q := ⟨dx, dy⟩) (Rs.up h1) hcd.up (Rs.up h2) hcs ⟨Gh.le_refl _, PickC.pick, ?_⟩))
  refine RH.ot rfl rfl (OT.bslice (F := intT) (els := [_, _, _]) rfl El26 rfl (by decide) rfl (by decide) ⟨rfl, (Cl.c rfl), ⟨rfl, (Cl.c rfl), ⟨rfl, (Cl.c rfl), trivial⟩⟩⟩ fun v53 => ⟨Gh.le_refl _, PickC.pick, ?_⟩)
  refine RH.pv rfl (fun _ _ _ _ h => h) (Gh.le_refl _) PickC.pick rfl (PV.asg (v := v53) rfl rfl) ?_
  refine RH.nil ?_
  refine WP.ret ?_
  exact ⟨_, _, ResV.one rfl rfl, Cv.p, k v53⟩
end Go.Proofs.YtmomfgfmnpblpaaGreat
namespace Go.Proofs.YtmomfgfmnpblpaaGreat
set_option linter.unusedVariables false
set_option linter.unusedSimpArgs false
open Go
set_option maxRecDepth 20000
set_option linter.unusedSimpArgs false
variable {G : Gh} {L : List Ch} {R : Value → Gh → List Ch → Prop}
theorem hasK_ch {l : List (List Rect)} {box : Rect} (hl : isLay l = true) : ((hasK l box).1 < 0 ∧ chanE l box = none) ∨ ∃ c, chanE l box = some c ∧ ¬ (hasK l box).1 < 0 ∧ decide ((hasK l box).2 = 2) = !c.hor := by
  rw [hasK_eq, chanE, hl, cond_true]
  cases h : chanW l box with
  | none => exact .inl ⟨by simp, rfl⟩
  | some c =>
    have hc := (chanE_valid (l := l) (box := box) (c := c) (by rw [chanE, hl, cond_true, h])).2.1
    refine .inr ⟨c, rfl, by simp only; omega, ?_⟩
    cases hh : c.hor <;> simp [hh]
theorem eqInt_s {v u : Value} {xs ys : List Int} (h1 : Rs G L intT v xs) (h2 : Rs G L intT u ys) (k : R (.bool (decide (xs = ys))) G L) : CallT Tryz.prog 15 #[v, u] G L R := by
  refine CallT.bd h1 fun hb => ?_
  refine CallT.bd h2 fun hb' => ?_
  refine CallT.enter (args := _) Tryz.func15 rfl rfl (by kernel_rfl) rfl ?_
  refine WP.seq ?_
  refine WP.region ?_
  refine RG.pv rfl (PV.mvB (.inr rfl) rfl) ?_
  refine RG.nil ?_
  refine WP.seq ?_
  refine WP.seq ?_
  refine WP.region ?_
  refine RG.pv rfl (PV.move (v := v) rfl rfl) ?_
  refine RG.pv rfl (PV.len (v := v) rfl Tryz.underlying26 rfl (SlF.r h1)) ?_
  refine RG.pv rfl (PV.move (v := u) rfl rfl) ?_
  refine RG.pv rfl (PV.len (v := u) rfl Tryz.underlying26 rfl (SlF.r h2)) ?_
  refine RG.pv rfl (PV.neq rfl rfl rfl) ?_
  refine RG.nil ?_
  refine WP.cond rfl (fun h3 => ?_) (fun h3 => ?_)
  · have e : decide (xs = ys) = false := by
      rw [decide_eq_false_iff_not]; rintro rfl; simp at h3
    rw [e] at k
    refine WP.seq ?_
    refine WP.region ?_
    refine RG.pv rfl (PV.mvB (.inr rfl) rfl) ?_
    refine RG.nil ?_
    refine WP.ret ?_
    exact ⟨_, _, ResV.one rfl rfl, Cv.p, k⟩
  · have hl : xs.length = ys.length := by simp at h3; omega
    refine WP.skip ?_
    refine WP.seq ?_
    refine WP.seq ?_
    refine WP.region ?_
    refine RG.pv rfl (PV.mvI (.inr rfl) rfl) ?_
    refine RG.nil ?_
    refine WP.block ?_
    refine WP.loop1 [0, 1] (fun i => i ≤ xs.length ∧ ∀ j, j < i → xs[j]? = ys[j]?) (fun i => [(5, vi i)]) (fun i => L) (fun i => xs.length - i) 0 ⟨by omega, fun j h => by omega⟩ ⟨rfl, trivial⟩ Cv.p ?_
    rintro i τ ⟨hi, he⟩
    refine WP.seq ?_
    refine WP.seq ?_
    refine WP.region ?_
    refine RG.pv rfl (PV.mvI (.inl rfl) rfl) ?_
    refine RG.pv rfl (PV.move (v := v) rfl rfl) ?_
    refine RG.pv rfl (PV.len (v := v) rfl Tryz.underlying26 rfl (SlF.r h1)) ?_
    refine RG.pv rfl (PV.lss rfl rfl rfl) ?_
    refine RG.nil ?_
    refine WP.cond rfl (fun h4 => ?_) (fun h4 => ?_)
    · have h4 := of_decide_eq_true h4
      have h5 : i < xs.length := by omega
      refine WP.skip ?_
      refine WP.seq ?_
      refine WP.block ?_
      refine WP.seq ?_
      refine WP.regionQ (by kernel_rfl) (by kernel_rfl) ?_
      refine RQ.pv rfl (PV.move (v := v) rfl rfl) ?_
      refine RQ.pv rfl (PV.mvI (.inl rfl) rfl) ?_
      refine RQ.pv rfl (PV.idxS (v := v) rfl Is26 rfl (SlF.r h1) rfl rfl (by omega)) ?_
      refine RQ.pv rfl (PV.loadE1 rfl Sc2 rfl rfl (El.r h1 (getG (by omega))) rfl) ?_
      refine RQ.pv rfl (PV.move (v := u) rfl rfl) ?_
      refine RQ.pv rfl (PV.mvI (.inl rfl) rfl) ?_
      refine RQ.pv rfl (PV.idxS (v := u) rfl Is26 rfl (SlF.r h2) rfl rfl (by omega)) ?_
      refine RQ.pv rfl (PV.loadE1 rfl Sc2 rfl rfl (El.r h2 (getG (by omega))) rfl) ?_
      refine RQ.pv rfl (PV.neq rfl rfl rfl) ?_
      refine RQ.nil ?_
      refine WP.cond rfl (fun h6 => ?_) (fun h6 => ?_)
      · have e : decide (xs = ys) = false := by
          rw [decide_eq_false_iff_not]; rintro rfl; simp at h6
        rw [e] at k
        refine WP.seq ?_
        refine WP.region ?_
        refine RG.pv rfl (PV.mvB (.inr rfl) rfl) ?_
        refine RG.nil ?_
        refine WP.ret ?_
        exact ⟨_, _, ResV.one rfl rfl, Cv.p, k⟩
      · have e : gd xs i = gd ys i := by simpa using h6
        have he' : ∀ j, j < i + 1 → xs[j]? = ys[j]? := fun j h => by
          by_cases c : j = i
          · rw [c, getG h5, getG (show i < ys.length by omega), e]
          · exact he j (by omega)
        refine WP.skip ?_
        refine WP.region ?_
        refine RG.pv rfl (PV.mvI (.inl rfl) rfl) ?_
        refine RG.pv rfl (PV.add rfl rfl rfl (by omega)) ?_
        refine RG.pv rfl (PV.mvI (.inr rfl) rfl) ?_
        refine RG.nil ?_
        exact ⟨rfl, i + 1, ⟨by omega, he'⟩, ⟨rfl, trivial⟩, ⟨rfl, rfl, trivial⟩, Cv.p, by omega⟩
    · have h4 := of_decide_eq_false h4
      have e : decide (xs = ys) = true := by
        rw [decide_eq_true_iff]; exact pre_eq he hl (by omega)
      rw [e] at k
      refine WP.exit ?_
      refine WP.seq ?_
      refine WP.region ?_
      refine RG.pv rfl (PV.mvB (.inr rfl) rfl) ?_
      refine RG.nil ?_
      refine WP.ret ?_
      exact ⟨_, _, ResV.one rfl rfl, Cv.p, k⟩
def mkI (_ k : Int) : Int := k
def nI (_ : Int) : Int := 1
theorem nI_cost (xs : List Int) : costL nI xs = 1 * xs.length := costL_const 1 xs
theorem mkI_at {xs : List Int} {i : Nat} {k0 kk : Int} (h : i < xs.length) (e : kk = k0 + i) : mkI (gd xs i) (k0 + costL nI (xs.take i)) = kk := by
  rw [mkI, nI_cost, List.length_take, Nat.min_eq_left (by omega), e]; omega
theorem markInt_s {v : Value} {xs : List Int} {k0 : Int} (hk : 0 ≤ k0) (hb : k0 + costL nI xs ≤ 4611686018427387904) (k : R (vi (k0 + costL nI xs)) G (osl 2 intT v (markL mkI nI xs k0) :: L)) : CallT Tryz.prog 20 #[v, vi k0] G (osl 2 intT v xs :: L) R := by
  have hc := nI_cost xs
  refine CallT.cv (Cv.eqS (markTo_zero (mk := mkI) (n := nI) (k := k0)).symm) ?_
  refine CallT.enter (args := _) Tryz.func20 rfl rfl (by kernel_rfl) rfl ?_
  refine WP.seq ?_
  refine WP.region ?_
  refine RG.pv rfl (PV.mvI (.inr rfl) rfl) ?_
  refine RG.nil ?_
  refine WP.seq ?_
  refine WP.seq ?_
  refine WP.region ?_
  refine RG.pv rfl (PV.mvI (.inr rfl) rfl) ?_
  refine RG.nil ?_
  refine WP.block ?_
  refine WP.loop2 [0] (fun (i : Nat) (kk : Int) => i ≤ xs.length ∧ kk = k0 + i) (fun (i : Nat) (kk : Int) => [(5, vi i), (1, vi kk)]) (fun (i : Nat) (kk : Int) => osl 2 intT v (markTo mkI nI xs k0 i) :: L) (fun (i : Nat) (kk : Int) => xs.length - i) 0 k0 ⟨by omega, by omega⟩ ⟨rfl, rfl, trivial⟩ Cv.p ?_
  rintro i kk τ ⟨hi, hkk⟩
  refine WP.seq ?_
  refine WP.seq ?_
  refine WP.region ?_
  refine RG.pv rfl (PV.mvI (.inl rfl) rfl) ?_
  refine RG.pv rfl (PV.move (v := v) rfl rfl) ?_
  refine RG.pv rfl (PV.len (v := v) rfl Tryz.underlying26 rfl SlF.o) ?_
  refine RG.pv rfl (PV.lss rfl rfl rfl) ?_
  refine RG.nil ?_
  have hml := markTo_len (mk := mkI) (n := nI) (k := k0) hi
  refine WP.cond rfl (fun h1 => ?_) (fun h1 => ?_)
  · have h1 := of_decide_eq_true h1
    have h2 : i < xs.length := by omega
    refine WP.skip ?_
    refine WP.seq ?_
    refine WP.block ?_
    refine WP.seq ?_
    refine WP.region ?_
    refine RG.pv rfl (PV.move (v := v) rfl rfl) ?_
    refine RG.pv rfl (PV.mvI (.inl rfl) rfl) ?_
    refine RG.pv rfl (PV.mvI (.inl rfl) rfl) ?_
    refine RG.pv rfl (PV.idxS (v := v) rfl Is26 rfl SlF.o rfl rfl (by omega)) ?_
    refine RG.ot rfl (OT.storeE (F := intT) rfl Sz2 rfl rfl rfl (Cl.c rfl) (OneC.c rfl) (by omega) ?_)
    refine RG.nil ?_
    refine WP.region ?_
    refine RG.pv rfl (PV.mvI (.inl rfl) rfl) ?_
    refine RG.pv rfl (PV.add rfl rfl rfl (by omega)) ?_
    refine RG.pv rfl (PV.mvI (.inr rfl) rfl) ?_
    refine RG.nil ?_
    refine WP.region ?_
    refine RG.pv rfl (PV.mvI (.inl rfl) rfl) ?_
    refine RG.pv rfl (PV.add rfl rfl rfl (by omega)) ?_
    refine RG.pv rfl (PV.mvI (.inr rfl) rfl) ?_
    refine RG.nil ?_
    exact ⟨rfl, i + 1, _, ⟨by omega, by omega⟩, ⟨rfl, rfl, trivial⟩, ⟨rfl, trivial⟩, (Cv.eqS (by rw [← markTo_set h2, mkI_at h2 hkk])), by omega⟩
  · have h1 := of_decide_eq_false h1
    have e : kk = k0 + costL nI xs := by omega
    rw [← e] at k
    refine WP.exit ?_
    refine WP.seq ?_
    refine WP.region ?_
    refine RG.pv rfl (PV.mvI (.inl rfl) rfl) ?_
    refine RG.pv rfl (PV.mvI (.inr rfl) rfl) ?_
    refine RG.nil ?_
    refine WP.ret ?_
    exact ⟨_, _, ResV.one rfl rfl, (Cv.eqS (markTo_all (by omega))), k⟩
theorem heldInt_s {v : Value} {xs : List Int} {k0 : Int} (h0 : Rs G L intT v (markL mkI nI xs k0)) (hk : 0 ≤ k0) (hb : k0 + costL nI xs ≤ 4611686018427387904) (k : R (vi (k0 + costL nI xs)) G L) : CallT Tryz.prog 21 #[v, vi k0] G L R := by
  have hc := nI_cost xs
  have hml := markL_len mkI nI xs k0
  refine CallT.enter (args := _) Tryz.func21 rfl rfl (by kernel_rfl) rfl ?_
  refine WP.seq ?_
  refine WP.region ?_
  refine RG.pv rfl (PV.mvI (.inr rfl) rfl) ?_
  refine RG.nil ?_
  refine WP.seq ?_
  refine WP.seq ?_
  refine WP.region ?_
  refine RG.pv rfl (PV.mvI (.inr rfl) rfl) ?_
  refine RG.nil ?_
  refine WP.block ?_
  refine WP.loop2 [0] (fun (i : Nat) (kk : Int) => i ≤ xs.length ∧ kk = k0 + i) (fun (i : Nat) (kk : Int) => [(5, vi i), (1, vi kk)]) (fun (i : Nat) (kk : Int) => L) (fun (i : Nat) (kk : Int) => xs.length - i) 0 k0 ⟨by omega, by omega⟩ ⟨rfl, rfl, trivial⟩ Cv.p ?_
  rintro i kk τ ⟨hi, hkk⟩
  refine WP.seq ?_
  refine WP.seq ?_
  refine WP.region ?_
  refine RG.pv rfl (PV.mvI (.inl rfl) rfl) ?_
  refine RG.pv rfl (PV.move (v := v) rfl rfl) ?_
  refine RG.pv rfl (PV.len (v := v) rfl Tryz.underlying26 rfl (SlF.r h0)) ?_
  refine RG.pv rfl (PV.lss rfl rfl rfl) ?_
  refine RG.nil ?_
  refine WP.cond rfl (fun h1 => ?_) (fun h1 => ?_)
  · have h1 := of_decide_eq_true h1
    have h2 : i < xs.length := by omega
    have hg : gd (markL mkI nI xs k0) i = kk := by rw [gd_mark h2, mkI_at h2 hkk]
    refine WP.skip ?_
    refine WP.seq ?_
    refine WP.block ?_
    refine WP.seq ?_
    refine WP.seq ?_
    refine WP.region ?_
    refine RG.pv rfl (PV.move (v := v) rfl rfl) ?_
    refine RG.pv rfl (PV.mvI (.inl rfl) rfl) ?_
    refine RG.pv rfl (PV.idxS (v := v) rfl Is26 rfl (SlF.r h0) rfl rfl (by omega)) ?_
    refine RG.pv rfl (PV.loadE1 rfl Sc2 rfl rfl (El.r h0 (getG (by omega))) rfl) ?_
    refine RG.pv rfl (PV.mvI (.inl rfl) rfl) ?_
    refine RG.pv rfl (PV.neq rfl rfl rfl) ?_
    refine RG.nil ?_
    refine WP.cond rfl (fun h3 => ?_) (fun h3 => ?_)
    · simp [hg] at h3
    · refine WP.skip ?_
      refine WP.region ?_
      refine RG.pv rfl (PV.mvI (.inl rfl) rfl) ?_
      refine RG.pv rfl (PV.add rfl rfl rfl (by omega)) ?_
      refine RG.pv rfl (PV.mvI (.inr rfl) rfl) ?_
      refine RG.nil ?_
      refine WP.region ?_
      refine RG.pv rfl (PV.mvI (.inl rfl) rfl) ?_
      refine RG.pv rfl (PV.add rfl rfl rfl (by omega)) ?_
      refine RG.pv rfl (PV.mvI (.inr rfl) rfl) ?_
      refine RG.nil ?_
      exact ⟨rfl, i + 1, _, ⟨by omega, by omega⟩, ⟨rfl, rfl, trivial⟩, ⟨rfl, trivial⟩, Cv.p, by omega⟩
  · have h1 := of_decide_eq_false h1
    have e : kk = k0 + costL nI xs := by omega
    rw [← e] at k
    refine WP.exit ?_
    refine WP.seq ?_
    refine WP.region ?_
    refine RG.pv rfl (PV.mvI (.inl rfl) rfl) ?_
    refine RG.pv rfl (PV.mvI (.inr rfl) rfl) ?_
    refine RG.nil ?_
    refine WP.ret ?_
    exact ⟨_, _, ResV.one rfl rfl, Cv.p, k⟩
theorem pinR_len (l : List (List Rect)) (box : Rect) : (pinR l box).length ≤ 3 := by
  unfold pinR
  split
  · split
    · simp [pinsL]
    · exact Nat.zero_le _
  · exact Nat.zero_le _
end Go.Proofs.YtmomfgfmnpblpaaGreat
namespace Go.Proofs.YtmomfgfmnpblpaaGreat
set_option linter.unusedVariables false
set_option linter.unusedSimpArgs false
open Go Go.ChangeShapes Go.WideShapes Go.ChangeAt Go.RowKit Go.Deep
set_option linter.unusedVariables false
def Gw (w : World) : Gh := ⟨wh w, w.os, w.tape, w.output⟩
theorem St.start (w : World) : St (Gw w) [] w := ⟨fun _ => none, trivial, Hp.le_refl _, (fun _ _ h => by cases h), fun _ => .inl rfl, rfl, rfl, rfl⟩
/-- behind a call that began in W, all of W's blocks are as they were -/
theorem St.below {W w' : World} {G : Gh} {L : List Ch} (l : Gh.le (Gw W) G) (h : St G L w') : Below W.heap.size W w' := by
  obtain ⟨hp, s, l1, l2, d, ok⟩ := h
  have ok' := Gh.le_ok l ok
  have up := Hp.le_trans l.1 l1
  have key : ∀ k, k < W.heap.size → w'.heap[k]? = W.heap[k]? := fun k hk => by
    have : (Gw W).f k = some W.heap[k] := by simp [Gw, wh, hk]
    have h2 := up k _ this
    simp only [wh] at h2
    rw [h2]; simp [hk]
  refine ⟨ok'.1, ok'.2.1, ok'.2.2, ?_, key⟩
  by_cases h0 : W.heap.size = 0
  · omega
  · have := key (W.heap.size - 1) (by omega)
    rw [Array.getElem?_eq_getElem (by omega : W.heap.size - 1 < W.heap.size)] at this
    have := (Array.getElem?_eq_some_iff.1 this).1
    omega
def Opn {ρ : Type} (P : Program) (t : TypeId) (F : FT ρ) (ok : Gh → ρ → Prop) : Prop :=
  ∀ {H : Type} {enc : TypeId × Value → H} {w : World} {fuel : Nat} {cs : List Value} {x : DataW H × List MemPlace}, DataW.trod enc P w 0 (fun _ => true) true fuel t cs = some x → ∃ a : ρ, cs = F.enc a ∧ ok (Gw w) a
def okI (_ : Gh) (n : Int) : Prop := -9223372036854775808 ≤ n ∧ n ≤ 9223372036854775807
def okS (_ : Gh) (s : ByteArray) : Prop := s.size ≤ 9223372036854775807
def okB (_ : Gh) (_ : Bool) : Prop := True
def okL {ρ : Type} [Inhabited ρ] (F : FT ρ) (ok : Gh → ρ → Prop) (G : Gh) (v : Value) : Prop := ∃ xs : List ρ, SL G F v xs ∧ ∀ i, i < xs.length → ok G (gd xs i)
section
variable {P : Program} {t e : TypeId}
theorem opnI (ht : P.underlying t = some (.int .i64)) : Opn P t intT okI := fun h => by
  obtain ⟨n, rfl, _, hw⟩ := DataW.trod_int ht h
  refine ⟨n, rfl, ?_⟩
  have : IntKind.i64.min ≤ n ∧ n ≤ IntKind.i64.max := by simpa [Lit.wf] using hw
  simp only [show IntKind.i64.min = -9223372036854775808 from rfl, show IntKind.i64.max = 9223372036854775807 from rfl] at this
  exact this
theorem opnS (ht : P.underlying t = some .string) : Opn P t strT okS := fun h => by
  obtain ⟨s, rfl, _, hs⟩ := DataW.trod_string ht h
  refine ⟨s, rfl, ?_⟩
  simp only [maxLen] at hs
  exact (by omega : s.size ≤ 9223372036854775807)
theorem opnB (ht : P.underlying t = some .bool) : Opn P t boolT okB := fun h => by
  obtain ⟨b, rfl, _⟩ := DataW.trod_bool ht h
  exact ⟨b, rfl, trivial⟩
theorem cells_get {w : World} {a : Addr} {n : Nat} {cs : List Value} (h : w.cells? 0 a n = some cs) : cs.length = n ∧ ∀ j c, cs[j]? = some c → w.cell? (a.add j) = some c := by
  obtain ⟨_, h1, h2⟩ := World.cells?_some h
  refine ⟨h1, fun j c hc => ?_⟩
  have hj := (List.getElem?_eq_some_iff.1 hc).1
  rw [h2 j (by omega), hc]
theorem opnL {ρ : Type} [Inhabited ρ] {F : FT ρ} {ok : Gh → ρ → Prop} (ht : P.underlying t = some (.slice e)) (hE : Opn P e F ok) (hc : P.cellsOf e = F.sz) (h0 : 0 < F.sz) : Opn P t rawT (okL F ok) := fun {H enc w fuel cs x} h => by
  rcases open_slice ht h with ⟨rfl, _⟩ | ⟨a, len, cap, m, n, D, Pl, rfl, _, hl, hm, hmm, _, hel⟩
  · exact ⟨_, rfl, [], ⟨⟨0, Nat.le_refl _, Nat.zero_le _, .inr ⟨⟨_, rfl⟩, rfl⟩⟩, fun j c hj => by simp [FT.flat] at hj⟩, fun i hi => by simp at hi⟩
  have hmcap : m = cap := by simpa using hmm
  refine ⟨.slice (some a) len cap, rfl, ?_⟩
  have hall : ∀ i, i < len → ∃ r : ρ, w.cells? 0 (a.add (i * F.sz)) F.sz = some (F.enc r) ∧ ok (Gw w) r := fun i hi => by
    obtain ⟨cs', h1, h2⟩ := hel i (by omega)
    obtain ⟨r, rfl, hr⟩ := hE h2
    rw [hc] at h1
    exact ⟨r, h1, hr⟩
  have : ∃ f : Nat → ρ, ∀ i, i < len → w.cells? 0 (a.add (i * F.sz)) F.sz = some (F.enc (f i)) ∧ ok (Gw w) (f i) := choose_lt hall
  obtain ⟨f, hf⟩ := this
  have hlen : ((List.range len).map f).length = len := by simp
  have hget : ∀ i, i < len → ((List.range len).map f)[i]? = some (f i) := fun i hi => by simp [hi]
  have hsp : len ≠ 0 → a.spot = none := fun hz => by
    obtain ⟨h1, _⟩ := hf 0 (by omega)
    obtain ⟨hl1, hg⟩ := cells_get h1
    cases hq : (F.enc (f 0))[0]? with
    | none => rw [List.getElem?_eq_none_iff] at hq; omega
    | some c =>
      have hcell := hg 0 c hq
      cases hs : a.spot with
      | none => rfl
      | some s =>
        exfalso
        have h3 : ((a.add (0 * F.sz)).add 0).spot.isSome = true := by simp [Addr.add, hs]
        unfold World.cell? at hcell
        split at hcell
        · rw [if_pos h3] at hcell; cases hcell
        · cases hcell
  refine ⟨(List.range len).map f, ⟨⟨cap, by simpa using hl, hm, ?_⟩, ?_⟩, fun i hi => ?_⟩
  · by_cases hz : len = 0
    · exact .inr ⟨⟨some a, by simp⟩, by simpa using hz⟩
    · refine .inl ⟨a.block, a.off, ?_⟩
      have hsp := hsp hz
      simp only [hlen]
      obtain ⟨ab, ao, az⟩ := a
      simp only at hsp
      subst hsp; rfl
  · intro j c hj
    by_cases hz : len = 0
    · subst hz; simp [FT.flat] at hj
    have hsp := hsp hz
    have hjl : j < len * F.sz := by
      have := (List.getElem?_eq_some_iff.1 hj).1
      rwa [FT.flat_len, hlen] at this
    have hq : j / F.sz < len := (Nat.div_lt_iff_lt_mul h0).2 hjl
    have hr : j % F.sz < F.sz := Nat.mod_lt _ h0
    have hjd : j / F.sz * F.sz + j % F.sz = j := by rw [Nat.mul_comm]; exact Nat.div_add_mod j F.sz
    obtain ⟨h1, _⟩ := hf (j / F.sz) hq
    obtain ⟨_, hg⟩ := cells_get h1
    have hc' : (F.enc (f (j / F.sz)))[j % F.sz]? = some ((F.enc (f (j / F.sz)))[j % F.sz]'(by rw [F.len]; exact hr)) := List.getElem?_eq_getElem _
    have hfl := F.flat_get (hget _ hq) hc'
    rw [hjd, hj] at hfl
    have hcell := hg _ _ hc'
    obtain ⟨ab, ao, az⟩ := a
    simp only at hsp
    subst hsp
    rw [add_none, add_none, cell_hc, Nat.add_assoc, hjd] at hcell
    simp only [sb, so, Gw]
    rw [hcell]; exact hfl.symm
  · have hi' : i < len := by simpa using hi
    have : gd ((List.range len).map f) i = f i := by simp [gd, hi']
    rw [this]; exact (hf i hi').2
end
def okSl {ρ : Type} [Inhabited ρ] (F : FT ρ) (ok : Gh → ρ → Prop) (G : Gh) (s : Sl ρ) : Prop := SL G F s.v s.xs ∧ ∀ i, i < s.xs.length → ok G (gd s.xs i)
theorem opnSl {P : Program} {t e : TypeId} {ρ : Type} [Inhabited ρ] {F : FT ρ} {ok : Gh → ρ → Prop} (ht : P.underlying t = some (.slice e)) (hE : Opn P e F ok) (hc : P.cellsOf e = F.sz) (h0 : 0 < F.sz) : Opn P t slT (okSl F ok) := fun h => by
  obtain ⟨v, rfl, xs, h1, h2⟩ := opnL ht hE hc h0 h
  exact ⟨⟨v, xs⟩, rfl, h1, h2⟩
section
variable {P : Program} {t e : TypeId} {H : Type} {enc : TypeId × Value → H} {W : World} {r : Reach} {base : Nat} {v : Value} {d : DataW H} {ps : List MemPlace}
theorem argI (ht : P.underlying t = some (.int .i64)) (hv : Value.okWide P W r base t v) (h : DataW.Trod enc P W 0 (fun _ => true) true t v d ps) : ∃ n, v = vi n ∧ okI (Gw W) n := by
  obtain ⟨n, rfl⟩ := okWide_int ht hv
  obtain ⟨fuel, hf⟩ := h
  obtain ⟨m, e1, hm⟩ := opnI ht hf
  simp [Value.cells, intT] at e1
  exact ⟨n, rfl, e1 ▸ hm⟩
theorem argS (ht : P.underlying t = some .string) (hv : Value.okWide P W r base t v) (h : DataW.Trod enc P W 0 (fun _ => true) true t v d ps) : ∃ n, v = .string n ∧ okS (Gw W) n := by
  obtain ⟨n, rfl⟩ := okWide_string ht hv
  obtain ⟨fuel, hf⟩ := h
  obtain ⟨m, e1, hm⟩ := opnS ht hf
  simp [Value.cells, strT] at e1
  exact ⟨n, rfl, e1 ▸ hm⟩
theorem argB (ht : P.underlying t = some .bool) (hv : Value.okWide P W r base t v) : ∃ n, v = .bool n := okWide_bool ht hv
theorem argL {ok : Gh → Value → Prop} (ht : P.underlying t = some (.slice e)) (hO : Opn P t rawT ok) (hv : Value.okWide P W r base t v) (h : DataW.Trod enc P W 0 (fun _ => true) true t v d ps) : ok (Gw W) v := by
  obtain ⟨a, n, c, rfl⟩ := okWide_slice ht hv
  obtain ⟨fuel, hf⟩ := h
  obtain ⟨m, e1, hm⟩ := hO hf
  simp [Value.cells, rawT] at e1
  subst e1; exact hm
theorem argSl {ρ : Type} {ok : Gh → Sl ρ → Prop} (ht : P.underlying t = some (.slice e)) (hO : Opn P t slT ok) (hv : Value.okWide P W r base t v) (h : DataW.Trod enc P W 0 (fun _ => true) true t v d ps) : ∃ s : Sl ρ, v = s.v ∧ ok (Gw W) s := by
  obtain ⟨a, n, c, rfl⟩ := okWide_slice ht hv
  obtain ⟨fuel, hf⟩ := h
  obtain ⟨m, e1, hm⟩ := hO hf
  simp [Value.cells, slT] at e1
  exact ⟨m, e1, hm⟩
theorem argT {ρ : Type} {F : FT ρ} {ok : Gh → ρ → Prop} {fs : Array Field} (ht : P.underlying t = some (.struct fs)) (hO : Opn P t F ok) (hv : Value.okWide P W r base t v) (h : DataW.Trod enc P W 0 (fun _ => true) true t v d ps) : ∃ a, v = vT F a ∧ ok (Gw W) a := by
  obtain ⟨cs, rfl, _⟩ := okWide_struct ht hv
  obtain ⟨fuel, hf⟩ := h
  obtain ⟨m, e1, hm⟩ := hO hf
  simp only [Value.cells] at e1
  exact ⟨m, by simp only [vT]; rw [← e1], hm⟩
theorem trodAll_stays (hl : laidOutB P = true) {W' : World} (hb : Below W.heap.size W W') : ∀ {ts : List TypeId} {vs : List Value} {ds : List (DataW H)} {ps : List MemPlace}, (∀ t ∈ ts, P.readableRec t = true ∧ t < P.types.size) → (∀ x ∈ ps, x.block < W.heap.size) →
    DataW.TrodAll enc P W 0 (fun _ => true) true ts vs ds ps → DataW.TrodAll enc P W' 0 (fun b => decide (b < W.heap.size)) true ts vs ds ps
  | [], [], [], _, _, _, h => h
  | t :: ts, v :: vs, d :: ds, ps, hr, hlt, h => by
    obtain ⟨p, q, h1, h2, rfl⟩ := h
    have := hr t (.head _)
    exact ⟨p, q, Below.trod hl this.1 this.2 h1 hb (fun x hx => hlt x (List.mem_append_left _ hx)), trodAll_stays hl hb (fun t ht => hr t (.tail _ ht)) (fun x hx => hlt x (List.mem_append_right _ hx)) h2, rfl⟩
end
def recsB (P : Program) (ts : List TypeId) : Bool := ts.all fun t => P.readableRec t && Nat.blt t P.types.size
theorem recs_of {P : Program} {ts : List TypeId} (h : recsB P ts = true) : ∀ t ∈ ts, P.readableRec t = true ∧ t < P.types.size := by
  intro t ht
  have := List.all_eq_true.1 h t ht
  simp only [Bool.and_eq_true] at this
  exact ⟨this.1, Nat.le_of_ble_eq_true this.2⟩
/-- A LAW, LIFTED: the call returns true, the arguments read as they did. -/
theorem law_lifted {H : Type} {enc : TypeId × Value → H} {C : Checked} {os : Os} {f : FuncId} {fn : Func} {s : ChangeSpec} {tb : TypeId} (own : ownKnob C.prog.godebug = none) (started : os.Started) (noInit : C.prog.inits.idxOf? f = none) (hfn : C.prog.funcs[f]? = some fn) (hl : laidOutB C.prog = true)
    (hvars : s.vars = []) (hr : recsB C.prog fn.params.toList = true) (hres : fn.resultTypes = #[tb]) (htb : C.prog.underlying tb = some .bool)
    (hsp : ∀ ds : List (DataW H), ds.length = fn.params.toList.length → s.fn H ds = { results := [.lit (.bool true)], args := ds })
    (witness : ∃ (w : World) (tape : Tape) (i : Input), w.os = os ∧ (w.forCall tape i).Shaped C.prog ∧ i.vars = [] ∧ Input.okWide C.prog (w.forCall tape i) .any w.heap.size f i ∧
      s.pre6 enc C.prog fn [] false (w.forCall tape i).memory i.args ∧ ({} : Assume).holds C.prog (lone (Frame.enter C.prog f i.args .normal) [] (w.forCall tape i)))
    (walk : ∀ (W : World) (base : Nat) (args : Array Value) (ds : List (DataW H)) (ps : List MemPlace), (∀ (j : Nat) t v, fn.params[j]? = some t → args[j]? = some v → Value.okWide C.prog W .any base t v) →
      DataW.TrodAll enc C.prog W 0 (fun _ => true) true fn.params.toList args.toList ds ps → CallT C.prog f args (Gw W) [] fun v G _ => v = .bool true ∧ Gh.le (Gw W) G) :
    ReturnsInHanded {} C os f .any (s.pre6 enc C.prog fn [] false) (s.post enc C.prog fn false true false false) := by
  refine returnsInHanded_of_change own started noInit hfn witness ?_
  intro W base args ds gs before hval hW _ _
  have hW' := hW
  obtain ⟨p, q, hA, hV, rfl, hfz, hnd⟩ := hW
  rw [hvars] at hV
  obtain ⟨rfl, rfl⟩ := trodVars_none hV
  refine ((walk W base args ds p hval hA).run (St.start W)).mono ?_
  rintro e W' ⟨v, G, L, rfl, hs, rfl, hG⟩
  have hb := hs.below hG
  have hlt : ∀ x ∈ p, x.block < W.heap.size := fun x hx => hW'.lt x (List.mem_append_left _ hx)
  have hlen : ds.length = fn.params.toList.length := by
    have : ∀ (ts : List TypeId) (vs : List Value) (ds : List (DataW H)) (ps : List MemPlace), DataW.TrodAll enc C.prog W 0 (fun _ => true) true ts vs ds ps → ds.length = ts.length := by
      intro ts
      induction ts with
      | nil => intro vs ds ps h; cases vs <;> cases ds <;> simp_all [DataW.TrodAll]
      | cons t ts ih =>
        intro vs ds ps h
        cases vs <;> cases ds <;> simp only [DataW.TrodAll] at h
        obtain ⟨_, _, _, h2, _⟩ := h
        simp [ih _ _ _ h2]
    exact this _ _ _ _ hA
  refine ⟨_, rfl, ds, [], _, [], p, [], hW', ?_, ?_, ?_, hb.frame _, fun h => by cases h⟩
  · rw [List.append_nil, hsp ds hlen, hres]
    exact trodAll_mk1 (shut_bool htb true)
  · rw [List.append_nil, hsp ds hlen]
    exact trodAll_stays hl hb (recs_of hr) hlt hA
  · rw [List.append_nil, hsp ds hlen, hvars]
    exact rfl
end Go.Proofs.YtmomfgfmnpblpaaGreat
