/-
  Contracts: kinds, sizes and numbers of channels; the laws of them.
-/
import Derived.Test.YthjaopefoiploaaGreatW26
import Derived.Test.YthjaopefoiploaaGreatW27
namespace Go.Proofs.YthjaopefoiploaaGreat
open Go
set_option maxRecDepth 20000
set_option linter.unusedSimpArgs false
variable {G : Gh} {L : List Ch} {R : Value → Gh → List Ch → Prop}
/-! ## the reference -/
theorem partsC_len (l : List (List Rect)) : (partsC l).length ≤ 6400 := by
  rw [partsC, partsL_len]; exact firsts_len _ _
theorem partsC_at {l : List (List Rect)} {ys : List (Sl Rect)} (h : er ys = partsC l) : ys.length ≤ 6400 ∧ ∀ i, i < ys.length → i < (partsC l).length ∧ gd (partsC l) i = (gd ys i).xs ∧ 0 < (gd ys i).xs.length ∧ isReg (gd ys i).xs = true := by
  have hl : ys.length = (partsC l).length := by rw [← h, er_len]
  refine ⟨by have := partsC_len l; omega, fun i hi => ?_⟩
  have e : gd (partsC l) i = (gd ys i).xs := by rw [← h, er_gd]
  have := partsC_ne (l := l) (g := (gd ys i).xs) (by rw [← e]; exact gd_mem (by omega))
  exact ⟨by omega, e, this⟩
theorem hasK_some {l : List (List Rect)} {box : Rect} {g : List Rect} (h : (partsC l).find? (hasG box) = some g) : hasK l box = (chK l g, chW l g) := by
  unfold hasK chW; rw [h]
theorem hasK_none {l : List (List Rect)} {box : Rect} (h : (partsC l).find? (hasG box) = none) : hasK l box = (-1, 0) := by
  unfold hasK; rw [h]
theorem l24Has_s {v : Value} {xs : List (Sl Rect)} {box : Rect} (h1 : Rs G L slT v xs) (hd : RsE G L rectT xs) (hlay : isLay (er xs) = true) (k : R (.tuple #[vi (hasK (er xs) box).1, vi (hasK (er xs) box).2]) G L) : CallT Tryz.prog 77 #[v, vrect box] G L R := by
  refine CallT.enter (args := _) Tryz.func77 rfl rfl (by kernel_rfl) rfl ?_
  refine WP.seq ?_
  refine WP.region ?_
  refine RG.ot rfl (OT.box (cs := rectT.enc box) rfl rfl rfl fun b3 => ?_)
  refine RG.pv rfl (PV.mvI (.inr rfl) rfl) ?_
  refine RG.pv rfl (PV.mvI (.inr rfl) rfl) ?_
  refine RG.nil ?_
  refine WP.seq ?_
  refine WP.region ?_
  refine RG.pv rfl (PV.move (v := v) rfl rfl) ?_
  refine RG.callF (vs := [v]) rfl rfl En119 rfl (l24Parts_s (Rs.up h1) hd.up hlay (fun v9 ysv9 hev9 => ?_))
  refine RG.pv rfl (PV.asg (v := v9) rfl rfl) ?_
  refine RG.nil ?_
  refine WP.seq ?_
  refine WP.seq ?_
  refine WP.region ?_
  refine RG.pv rfl (PV.mvI (.inr rfl) rfl) ?_
  refine RG.nil ?_
  refine WP.block ?_
  obtain ⟨hyl, hya⟩ := partsC_at hev9
  refine WP.loop1 [0, 3, 6] (fun i => i ≤ ysv9.length ∧ ∀ j, j < i → hasG box (gd (partsC (er xs)) j) = false) (fun i => [(7, vi i)]) (fun i => osl 66 slT v9 ysv9 :: bagS 59 rectT ysv9 :: blk b3 59 (rectT.enc box) :: L) (fun i => ysv9.length - i) 0 ⟨by omega, fun j h => by omega⟩ ⟨rfl, trivial⟩ Cv.p ?_
  rintro i τ ⟨hi, hn⟩
  refine WP.seq ?_
  refine WP.seq ?_
  refine WP.region ?_
  refine RG.pv rfl (PV.mvI (.inl rfl) rfl) ?_
  refine RG.pv rfl (PV.move (v := v9) rfl rfl) ?_
  refine RG.pv rfl (PV.len (v := v9) rfl Tryz.underlying27 rfl SlF.o) ?_
  refine RG.pv rfl (PV.lss rfl rfl rfl) ?_
  refine RG.nil ?_
  refine WP.cond rfl (fun h2 => ?_) (fun h2 => ?_)
  · have h2 := of_decide_eq_true h2
    obtain ⟨hp, hpe, hg0, hgr⟩ := hya i (by omega)
    have hgl := isReg_len hgr
    have hzr : Rs G (bagS 59 rectT ysv9 :: L) rectT (gd ysv9 i).v (gd ysv9 i).xs := Rs.inBag (L := bagS 59 rectT ysv9 :: L) (L' := L) (e := 59) i (by omega)
    refine WP.skip ?_
    refine WP.seq ?_
    refine WP.block ?_
    refine WP.seq ?_
    refine WP.regionQ (by kernel_rfl) (by kernel_rfl) ?_
    refine RQ.pv rfl (PV.move (v := v9) rfl rfl) ?_
    refine RQ.pv rfl (PV.mvI (.inl rfl) rfl) ?_
    refine RQ.pv rfl (PV.idxS (v := v9) rfl Is27 rfl SlF.o rfl rfl (by omega)) ?_
    refine RQ.pv rfl (PV.loadE1 rfl Sc66 rfl rfl (El.o (getG (by omega))) rfl) ?_
    refine RQ.pv rfl (PV.len rfl Tryz.underlying66 rfl (SlF.r hzr)) ?_
    refine RQ.pv rfl (PV.eql rfl rfl rfl) ?_
    refine RQ.pv rfl (PV.mvB (.inl rfl) rfl) ?_
    refine RQ.gs rfl rfl rfl (fun hp => (PV.move (v := v9) rfl rfl)) ?_
    refine RQ.gs rfl rfl rfl (fun hp => (PV.mvI (.inl rfl) rfl)) ?_
    refine RQ.gs rfl rfl rfl (fun hp => (PV.idxS (v := v9) rfl Is27 (gs_t hp) SlF.o (gs_t hp) rfl (by first | omega | (simp at hp; omega)))) ?_
    refine RQ.gs rfl rfl rfl (fun hp => (PV.loadE1 rfl Sc66 (gs_t hp) rfl (El.o (getG (by first | omega | (simp at hp; omega)))) rfl)) ?_
    refine RQ.gs rfl rfl rfl (fun hp => (PV.idxS (j := 0) rfl Is66 (gs_t hp) (SlF.r hzr) rfl (by first | omega | (simp at hp; omega)) (by first | omega | (simp at hp; omega)))) ?_
    refine RQ.gs rfl rfl rfl (fun hp => (PV.loadE rfl Ag59 (gs_t hp) rfl (El.r hzr (getG (by first | omega | (simp at hp; omega)))))) ?_
    refine RQ.gs rfl rfl rfl (fun hp => (PV.loadW rfl Ag59 rfl rfl)) ?_
    refine RQ.gs rfl rfl rfl (fun hp => (PV.eqlT rfl Eq59 (gs_t hp) (gs_t hp))) ?_
    refine RQ.pv rfl (PV.pickA rfl rfl (fun hq => gs_t (geqT hq)) rfl) ?_
    refine RQ.nil ?_
    have hb : hasG box (gd (partsC (er xs)) i) = (decide (((gd ysv9 i).xs.length : Int) = 1) && decide (gd (gd ysv9 i).xs 0 = box)) := by
      rw [hpe, hasG]; congr 1; rw [Bool.eq_iff_iff]; simp; omega
    refine WP.cond rfl (fun h3 => ?_) (fun h3 => ?_)
    · have hf : hasK (er xs) box = (chK (er xs) (gd ysv9 i).xs, chW (er xs) (gd ysv9 i).xs) := by
        have := hasK_some (find_gd (i := i) hp (by rw [hb]; exact h3) hn)
        rw [hpe] at this; exact this
      rw [hf] at k
      refine WP.seq ?_
      refine WP.region ?_
      refine RG.pv rfl (PV.move (v := v) rfl rfl) ?_
      refine RG.pv rfl (PV.move (v := v9) rfl rfl) ?_
      refine RG.pv rfl (PV.mvI (.inl rfl) rfl) ?_
      refine RG.pv rfl (PV.idxS (v := v9) rfl Is27 rfl SlF.o rfl rfl (by omega)) ?_
      refine RG.pv rfl (PV.loadE1 rfl Sc66 rfl rfl (El.o (getG (by omega))) rfl) ?_
      refine RG.callF (vs := [v, _]) rfl rfl En120 rfl (l24Channel_s (Rs.up h1) hd.up (Rs.inBag (xs := ysv9) i (by omega)) hlay hg0 hgr ?_)
      refine RG.pv rfl (PV.ext rfl rfl rfl) ?_
      refine RG.pv rfl (PV.ext rfl rfl rfl) ?_
      refine RG.pv rfl (PV.mvI (.inr rfl) rfl) ?_
      refine RG.pv rfl (PV.mvI (.inr rfl) rfl) ?_
      refine RG.nil ?_
      refine WP.ret ?_
      exact ⟨_, _, ResV.two rfl rfl rfl, Cv.p, k⟩
    · refine WP.skip ?_
      refine WP.region ?_
      refine RG.pv rfl (PV.mvI (.inl rfl) rfl) ?_
      refine RG.pv rfl (PV.add rfl rfl rfl (by omega)) ?_
      refine RG.pv rfl (PV.mvI (.inr rfl) rfl) ?_
      refine RG.nil ?_
      exact ⟨rfl, i + 1, ⟨by omega, col_next hn (by rw [hb]; exact h3)⟩, ⟨rfl, trivial⟩, ⟨rfl, rfl, rfl, trivial⟩, Cv.p, by omega⟩
  · have h2 := of_decide_eq_false h2
    have hl : ysv9.length = (partsC (er xs)).length := by rw [← hev9, er_len]
    have hf : hasK (er xs) box = (-1, 0) := hasK_none (find_gd_none fun j hj => hn j (by omega))
    rw [hf] at k
    refine WP.exit ?_
    refine WP.seq ?_
    refine WP.region ?_
    refine RG.pv rfl (PV.mvI (.inr rfl) rfl) ?_
    refine RG.pv rfl (PV.mvI (.inr rfl) rfl) ?_
    refine RG.nil ?_
    refine WP.ret ?_
    exact ⟨_, _, ResV.two rfl rfl rfl, Cv.p, k⟩
noncomputable def kindE (l : List (List Rect)) (box : Rect) : Int := bif isLay l then (hasK l box).1 else -1
def sizeR (r : Rect) (flow : Int) : Int × Int := if flow = 1 then (r.y1 - r.y0, r.x1 - r.x0) else (r.x1 - r.x0, r.y1 - r.y0)
theorem l24Size_s {r : Rect} {f : Int} (hv : validRect r = true) (k : R (.tuple #[vi (sizeR r f).1, vi (sizeR r f).2]) G L) : CallT Tryz.prog 86 #[vrect r, vi f] G L R := by
  have h := validR_iff.1 hv
  refine CallT.enter (args := _) Tryz.func86 rfl rfl (by kernel_rfl) rfl ?_
  refine WP.seq ?_
  refine WP.region ?_
  refine RG.ot rfl (OT.box (cs := rectT.enc r) rfl rfl rfl fun b2 => ?_)
  refine RG.pv rfl (PV.mvI (.inr rfl) rfl) ?_
  refine RG.pv rfl (PV.mvI (.inr rfl) rfl) ?_
  refine RG.nil ?_
  refine WP.seq ?_
  refine WP.seq ?_
  refine WP.region ?_
  refine RG.pv rfl (PV.mvI (.inl rfl) rfl) ?_
  refine RG.pv rfl (PV.eql rfl rfl rfl) ?_
  refine RG.nil ?_
  refine WP.cond rfl (fun h2 => ?_) (fun h2 => ?_)
  · have h2 := of_decide_eq_true h2
    rw [sizeR, if_pos h2] at k
    refine WP.seq ?_
    refine WP.regionQ (by kernel_rfl) (by kernel_rfl) ?_
    refine RQ.pv rfl (PV.field rfl Fo59_3 rfl) ?_
    refine RQ.pv rfl (PV.load1 rfl Sc2 rfl (Rd.blk rfl)) ?_
    refine RQ.pv rfl (PV.field rfl Fo59_1 rfl) ?_
    refine RQ.pv rfl (PV.load1 rfl Sc2 rfl (Rd.blk rfl)) ?_
    refine RQ.pv rfl (PV.sub rfl rfl rfl (by omega)) ?_
    refine RQ.pv rfl (PV.field rfl Fo59_2 rfl) ?_
    refine RQ.pv rfl (PV.load1 rfl Sc2 rfl (Rd.blk rfl)) ?_
    refine RQ.pv rfl (PV.field rfl Fo59_0 rfl) ?_
    refine RQ.pv rfl (PV.load1 rfl Sc2 rfl (Rd.blk rfl)) ?_
    refine RQ.pv rfl (PV.sub rfl rfl rfl (by omega)) ?_
    refine RQ.pv rfl (PV.mvI (.inr rfl) rfl) ?_
    refine RQ.pv rfl (PV.mvI (.inr rfl) rfl) ?_
    refine RQ.nil ?_
    refine WP.ret ?_
    exact ⟨_, _, ResV.two rfl rfl rfl, Cv.p, k⟩
  · have h2 := of_decide_eq_false h2
    rw [sizeR, if_neg h2] at k
    refine WP.skip ?_
    refine WP.seq ?_
    refine WP.regionQ (by kernel_rfl) (by kernel_rfl) ?_
    refine RQ.pv rfl (PV.field rfl Fo59_2 rfl) ?_
    refine RQ.pv rfl (PV.load1 rfl Sc2 rfl (Rd.blk rfl)) ?_
    refine RQ.pv rfl (PV.field rfl Fo59_0 rfl) ?_
    refine RQ.pv rfl (PV.load1 rfl Sc2 rfl (Rd.blk rfl)) ?_
    refine RQ.pv rfl (PV.sub rfl rfl rfl (by omega)) ?_
    refine RQ.pv rfl (PV.field rfl Fo59_3 rfl) ?_
    refine RQ.pv rfl (PV.load1 rfl Sc2 rfl (Rd.blk rfl)) ?_
    refine RQ.pv rfl (PV.field rfl Fo59_1 rfl) ?_
    refine RQ.pv rfl (PV.load1 rfl Sc2 rfl (Rd.blk rfl)) ?_
    refine RQ.pv rfl (PV.sub rfl rfl rfl (by omega)) ?_
    refine RQ.pv rfl (PV.mvI (.inr rfl) rfl) ?_
    refine RQ.pv rfl (PV.mvI (.inr rfl) rfl) ?_
    refine RQ.nil ?_
    refine WP.ret ?_
    exact ⟨_, _, ResV.two rfl rfl rfl, Cv.p, k⟩
noncomputable def sizeE (l : List (List Rect)) (box : Rect) : Int × Int := bif isLay l then (if (hasK l box).1 < 0 then (0, 0) else sizeR box (hasK l box).2) else (0, 0)
theorem hasK_valid {l : List (List Rect)} {box : Rect} (h : ¬ (hasK l box).1 < 0) : validRect box = true := by
  unfold hasK at h
  cases h1 : (partsC l).find? (hasG box) with
  | none => rw [h1] at h; simp at h
  | some g =>
    obtain ⟨i, hi, e, hp⟩ := find_some_gd h1
    simp only [hasG, Bool.and_eq_true, decide_eq_true_eq] at hp
    have hg := partsC_ne (l := l) (g := g) (by rw [e]; exact gd_mem hi)
    rw [← hp.2]; exact valid_first hg.1 hg.2
/-! ## the program -/
noncomputable def chanE (l : List (List Rect)) (box : Rect) : Option Chan := bif isLay l then chanW l box else none
theorem kindE_eq (l : List (List Rect)) (box : Rect) : kindE l box = match chanE l box with
    | some c => c.kind
    | none => -1 := by
  rw [kindE, chanE]
  cases isLay l
  · rfl
  · simp only [cond_true]; rw [hasK_eq]; cases chanW l box <;> rfl
theorem chans_mem {l : List (List Rect)} {c : Chan} (h : c ∈ chans l) : ∃ g, g ∈ partsC l ∧ isCh l g = true ∧ c = mkCh l g := by
  obtain ⟨g, hg, rfl⟩ := List.mem_map.1 h
  exact ⟨g, (List.mem_filter.1 hg).1, (List.mem_filter.1 hg).2, rfl⟩
theorem chans_len (l : List (List Rect)) : (chans l).length ≤ 6400 := by
  rw [chans, List.length_map]
  have := List.length_filter_le (isCh l) (partsC l)
  have := partsC_len l; omega
theorem chan_valid {l : List (List Rect)} {c : Chan} (h : c ∈ chans l) : validRect c.box = true ∧ 0 ≤ c.kind := by
  obtain ⟨g, hg, hi, rfl⟩ := chans_mem h
  have := partsC_ne hg
  exact ⟨valid_first this.1 this.2, of_decide_eq_true hi⟩
def sizeC (c : Chan) : Int × Int := bif c.hor then (c.box.y1 - c.box.y0, c.box.x1 - c.box.x0) else (c.box.x1 - c.box.x0, c.box.y1 - c.box.y0)
theorem sizeE_eq (l : List (List Rect)) (box : Rect) : sizeE l box = match chanE l box with
    | some c => sizeC c
    | none => (0, 0) := by
  rw [sizeE, chanE]
  cases isLay l
  · rfl
  · simp only [cond_true]
    rw [hasK_eq]
    cases h : chanW l box with
    | none => simp
    | some c =>
      obtain ⟨i, hi, e, hp⟩ := find_some_gd (xs := chans l) h
      have hc := chan_valid (l := l) (c := c) (by rw [e]; exact gd_mem hi)
      have hb : c.box = box := of_decide_eq_true hp
      simp only
      rw [if_neg (by omega), ← hb, sizeR, sizeC]
      cases c.hor <;> simp
theorem channelWith1_s {c : Chan} {b : Nat} {box : Rect} (hc : RdN G L b (rectT.enc box)) (k : R (.bool (decide (c.box = box))) G L) : CallT Tryz.prog 122 #[vT chanT c, .pointer (some ⟨b, 0, none⟩)] G L R := by
  refine CallT.enter (args := _) Tryz.func122 rfl rfl (by kernel_rfl) rfl ?_
  refine WP.seq ?_
  refine WP.region ?_
  refine RG.ot rfl (OT.box (cs := chanT.enc c) rfl rfl rfl fun b2 => ?_)
  refine RG.pv rfl (PV.mvB (.inr rfl) rfl) ?_
  refine RG.nil ?_
  refine WP.seq ?_
  refine WP.region ?_
  refine RG.pv rfl (PV.field rfl Fo114_0 rfl) ?_
  refine RG.pv rfl (PV.loadB (vs := [_, _, _, _]) rfl Ag59 rfl rfl rfl) ?_
  refine RG.pv rfl (PV.loadA rfl Ag59 rfl rfl (RdN.up hc)) ?_
  refine RG.pv rfl (PV.eqlT rfl Eq59 rfl rfl) ?_
  refine RG.pv rfl (PV.mvB (.inr rfl) rfl) ?_
  refine RG.nil ?_
  refine WP.ret ?_
  exact ⟨_, _, ResV.one rfl rfl, Cv.p, k⟩

theorem indexF_chan {v fv : Value} {xs : List (Chan)} {p : (Chan) → Bool} (h1 : Rs G L chanT v xs) (hf : ∀ i, i < xs.length → CB Tryz.prog G L fv [vT chanT (gd xs i)] (.bool (p (gd xs i)))) (k : R (vi (idxI p xs)) G L) : CallT Tryz.prog 121 #[v, fv] G L R := by
  refine CallT.bd h1 fun hb => ?_
  refine CallT.enter (args := _) Tryz.func121 rfl rfl (by kernel_rfl) rfl ?_
  refine WP.seq ?_
  refine WP.region ?_
  refine RG.pv rfl (PV.mvI (.inr rfl) rfl) ?_
  refine RG.nil ?_
  refine WP.seq ?_
  refine WP.seq ?_
  refine WP.region ?_
  refine RG.pv rfl (PV.move (v := v) rfl rfl) ?_
  refine RG.pv rfl (PV.len (v := v) rfl Tryz.underlying118 rfl (SlF.r h1)) ?_
  refine RG.pv rfl (PV.mvI (.inl rfl) rfl) ?_
  refine RG.nil ?_
  refine WP.block ?_
  refine WP.loop1 [0, 1, 7] (fun i => i ≤ xs.length ∧ ∀ j, j < i → p (gd xs j) = false) (fun i => [(8, vi i)]) (fun i => L) (fun i => xs.length - i) 0 ⟨by omega, fun j h => by omega⟩ ⟨rfl, trivial⟩ Cv.p ?_
  rintro i τ ⟨hi, hj⟩
  refine WP.seq ?_
  refine WP.region ?_
  refine RG.pv rfl (PV.lss rfl rfl rfl) ?_
  refine RG.nil ?_
  refine WP.seq ?_
  refine WP.cond rfl (fun h2 => ?_) (fun h2 => ?_)
  · have h2 := of_decide_eq_true h2
    refine WP.skip ?_
    refine WP.seq ?_
    refine WP.block ?_
    refine WP.seq ?_
    refine WP.region ?_
    refine RG.pv rfl (PV.mvI (.inl rfl) rfl) ?_
    refine RG.pv rfl (PV.mvI (.inr rfl) rfl) ?_
    refine RG.nil ?_
    refine WP.seq ?_
    refine WP.region ?_
    refine RG.pv rfl (PV.move (v := fv) rfl rfl) ?_
    refine RG.pv rfl (PV.move (v := v) rfl rfl) ?_
    refine RG.pv rfl (PV.mvI (.inl rfl) rfl) ?_
    refine RG.pv rfl (PV.idxS (v := v) rfl Is118 rfl (SlF.r h1) rfl rfl (by omega)) ?_
    refine RG.pv rfl (PV.loadE rfl Ag114 rfl rfl (El.r h1 (getG (by omega)))) ?_
    refine RG.callB (vs := [_]) rfl rfl rfl rfl (CB.up (hf i (by omega))) ?_
    refine RG.nil ?_
    refine WP.cond rfl (fun h3 => ?_) (fun h3 => ?_)
    · rw [idxI_at (by omega) h3 hj] at k
      refine WP.seq ?_
      refine WP.region ?_
      refine RG.pv rfl (PV.mvI (.inl rfl) rfl) ?_
      refine RG.pv rfl (PV.mvI (.inr rfl) rfl) ?_
      refine RG.nil ?_
      refine WP.ret ?_
      exact ⟨_, _, ResV.one rfl rfl, Cv.p, k⟩
    · have hj' : ∀ j, j < i + 1 → p (gd xs j) = false := fun j h => by
        by_cases c : j = i
        · rw [c]; exact h3
        · exact hj j (by omega)
      refine WP.skip ?_
      refine WP.region ?_
      refine RG.pv rfl (PV.add rfl rfl rfl (by omega)) ?_
      refine RG.pv rfl (PV.mvI (.inl rfl) rfl) ?_
      refine RG.nil ?_
      exact ⟨rfl, i + 1, ⟨by omega, hj'⟩, ⟨rfl, trivial⟩, ⟨rfl, rfl, rfl, trivial⟩, Cv.p, by omega⟩
  · have h2 := of_decide_eq_false h2
    rw [idxI_none (fun j h => hj j (by omega))] at k
    refine WP.exit ?_
    refine WP.seq ?_
    refine WP.region ?_
    refine RG.pv rfl (PV.mvI (.inr rfl) rfl) ?_
    refine RG.nil ?_
    refine WP.ret ?_
    exact ⟨_, _, ResV.one rfl rfl, Cv.p, k⟩
theorem idx_find {α : Type} [Inhabited α] (p : α → Bool) (xs : List α) : (idxI p xs < 0 ∧ xs.find? p = none) ∨ (∃ i, i < xs.length ∧ idxI p xs = (i : Int) ∧ xs.find? p = some (gd xs i)) := by
  unfold idxI
  cases h : xs.findIdx? p with
  | none =>
    left
    refine ⟨by simp, ?_⟩
    rw [List.find?_eq_none]
    intro x hx
    simpa using List.findIdx?_eq_none_iff.1 h x hx
  | some i =>
    right
    obtain ⟨hi, hp, hj⟩ := List.findIdx?_eq_some_iff_getElem.1 h
    refine ⟨i, hi, rfl, find_gd hi (by rw [gd_eq hi]; exact hp) fun j hji => ?_⟩
    have := hj j hji
    rw [gd_eq (by omega)]; simpa using this
def optC : Option Chan → Chan
  | some c => c
  | none => default
theorem chanT_def : chanT.enc default = [vi 0, vi 0, vi 0, vi 0, vi 0, .bool false] := rfl
theorem channelWith_s {v : Value} {xs : List (Sl Rect)} {box : Rect} (h1 : Rs G L slT v xs) (hd : RsE G L rectT xs) (k : ∀ c, (chanE (er xs) box = some c ∨ chanE (er xs) box = none) → R (.tuple #[vT chanT c, .bool (chanE (er xs) box).isSome]) G L) : CallT Tryz.prog 79 #[v, vrect box] G L R := by
  refine CallT.enter (args := _) Tryz.func79 rfl rfl (by kernel_rfl) rfl ?_
  refine WP.seq ?_
  refine WP.region ?_
  refine RG.ot rfl (OT.box (cs := rectT.enc box) rfl rfl rfl fun b3 => ?_)
  refine RG.ot rfl (OT.alloc rfl Zr114 fun b4 => ?_)
  refine RG.pv rfl (PV.mvB (.inr rfl) rfl) ?_
  refine RG.nil ?_
  refine WP.seq ?_
  refine WP.seq ?_
  refine WP.region ?_
  refine RG.pv rfl (PV.move (v := v) rfl rfl) ?_
  refine RG.callF (vs := [v]) rfl rfl En64 rfl (isLayout_s (Rs.up h1) hd.up ?_)
  refine RG.pv rfl (PV.not rfl rfl) ?_
  refine RG.nil ?_
  refine WP.cond rfl (fun h2 => ?_) (fun h2 => ?_)
  · have h3 : isLay (er xs) = false := by simpa using h2
    have e : chanE (er xs) box = none := by rw [chanE, h3]; rfl
    rw [e] at k
    refine WP.seq ?_
    refine WP.region ?_
    refine RG.pv rfl (PV.build (vs := []) (out := [_, _, _, _, _, _]) rfl Zr114 Pl114 trivial rfl) ?_
    refine RG.ot rfl (OT.storeW (vs := [vi _, vi _, vi _, vi _, vi _, .bool _]) rfl Sz114 rfl rfl (Cl.c rfl) rfl rfl (OneC.c rfl) ?_)
    refine RG.pv rfl (PV.mvB (.inr rfl) rfl) ?_
    refine RG.nil ?_
    refine WP.ret ?_
    exact ⟨_, _, ResV.two rfl (RV1.cell rfl Ag114 rfl) rfl, Cv.p, k (⟨⟨0, 0, 0, 0⟩, 0, false⟩) (.inr rfl)⟩
  · have hlay : isLay (er xs) = true := by simpa using h2
    have e : chanE (er xs) box = chanW (er xs) box := by rw [chanE, hlay]; rfl
    rw [e] at k
    refine WP.skip ?_
    refine WP.seq ?_
    refine WP.region ?_
    refine RG.pv rfl (PV.move (v := v) rfl rfl) ?_
    refine RG.callF (vs := [v]) rfl rfl En82 rfl (channelsOf_s (Rs.up h1) hd.up hlay (fun v15 u15 cs15 zs15 hc15 hz15 => ?_))
    refine RG.pv rfl (PV.move (v := .tuple _) rfl rfl) ?_
    refine RG.pv rfl (PV.ext (v := v15) rfl rfl rfl) ?_
    refine RG.pv rfl (PV.ext (v := u15) rfl rfl rfl) ?_
    refine RG.pv rfl (PV.asg (v := v15) rfl rfl) ?_
    refine RG.pv rfl (PV.asg (v := u15) rfl rfl) ?_
    refine RG.nil ?_
    refine WP.seq ?_
    refine WP.region ?_
    refine RG.pv rfl (PV.move (v := v15) rfl rfl) ?_
    refine RG.pv rfl (PV.mkf1 rfl rfl) ?_
    refine RG.callF (vs := [v15, _]) rfl rfl En121 rfl (indexF_chan Rs.o (p := fun c => decide (c.box = box)) (fun i hi => CB.mk1 En122 fun L' R c k => channelWith1_s (RdN.cv RdN.blk c) k) ?_)
    refine RG.pv rfl (PV.mvI (.inr rfl) rfl) ?_
    refine RG.nil ?_
    refine WP.seq ?_
    refine WP.seq ?_
    refine WP.region ?_
    refine RG.pv rfl (PV.mvI (.inl rfl) rfl) ?_
    refine RG.pv rfl (PV.lss rfl rfl rfl) ?_
    refine RG.nil ?_
    subst hc15
    have hcl := chans_len (er xs)
    rcases idx_find (fun c : Chan => decide (c.box = box)) (chans (er xs)) with ⟨q1, q2⟩ | ⟨i, hi, q1, q2⟩
    · have e : chanW (er xs) box = none := q2
      rw [e] at k
      refine WP.cond rfl (fun h4 => ?_) (fun h4 => ?_)
      · refine WP.seq ?_
        refine WP.region ?_
        refine RG.pv rfl (PV.build (vs := []) (out := [_, _, _, _, _, _]) rfl Zr114 Pl114 trivial rfl) ?_
        refine RG.ot rfl (OT.storeW (vs := [vi _, vi _, vi _, vi _, vi _, .bool _]) rfl Sz114 rfl rfl (Cl.c rfl) rfl rfl (OneC.c rfl) ?_)
        refine RG.pv rfl (PV.mvB (.inr rfl) rfl) ?_
        refine RG.nil ?_
        refine WP.ret ?_
        exact ⟨_, _, ResV.two rfl (RV1.cell rfl Ag114 rfl) rfl, Cv.p, k (⟨⟨0, 0, 0, 0⟩, 0, false⟩) (.inr rfl)⟩
      · have h4 := of_decide_eq_false h4
        omega
    · have e : chanW (er xs) box = some (gd (chans (er xs)) i) := q2
      rw [e] at k
      rw [q1]
      refine WP.cond rfl (fun h4 => ?_) (fun h4 => ?_)
      · have h4 := of_decide_eq_true h4
        omega
      · skip
        refine WP.skip ?_
        refine WP.seq ?_
        refine WP.region ?_
        refine RG.pv rfl (PV.move (v := v15) rfl rfl) ?_
        refine RG.pv rfl (PV.mvI (.inl rfl) rfl) ?_
        refine RG.pv rfl (PV.idxS (j := i) (v := v15) rfl Is118 rfl SlF.o rfl (by omega) (by omega)) ?_
        refine RG.pv rfl (PV.loadE rfl Ag114 rfl rfl (El.o (getG (by omega)))) ?_
        refine RG.ot rfl (OT.storeW (vs := [vi _, vi _, vi _, vi _, vi _, .bool _]) rfl Sz114 rfl rfl (Cl.c rfl) rfl rfl (OneC.c rfl) ?_)
        refine RG.pv rfl (PV.mvB (.inr rfl) rfl) ?_
        refine RG.nil ?_
        refine WP.ret ?_
        exact ⟨_, _, ResV.two rfl (RV1.cell rfl Ag114 rfl) rfl, Cv.p, k (gd (chans (er xs)) i) (.inl rfl)⟩
end Go.Proofs.YthjaopefoiploaaGreat
