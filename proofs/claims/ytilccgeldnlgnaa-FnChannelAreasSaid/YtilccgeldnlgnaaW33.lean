/-
  Contracts: the rectangles of channels, malformed parts; the law of the areas of channels.
-/
import Derived.Test.YtilccgeldnlgnaaW29
import Derived.Test.YtilccgeldnlgnaaW32
import Derived.Test.YtilccgeldnlgnaaChan2
namespace Go.Proofs.Ytilccgeldnlgnaa
open Go
set_option maxRecDepth 20000
set_option linter.unusedSimpArgs false
variable {G : Gh} {L : List Ch} {R : Value → Gh → List Ch → Prop}
noncomputable def boxesE (l : List (List Rect)) : List Rect := bif isLay l then (chans l).map Chan.box else []
noncomputable def malfE (l : List (List Rect)) : List Rect := bif isLay l then canon (bits (malf l).flatten) else []
theorem channels_i {v : Value} {xs : List (Sl Rect)} (h1 : Rs G L slT v xs) (hd : RsE G L rectT xs) (k : ∀ v', R v' G (osl 81 rectT v' (boxesE (er xs)) :: L)) : CallT Try.prog 62 #[v] G L R := by
  refine CallT.enter (args := _) Try.func62 rfl rfl (by kernel_rfl) rfl ?_
  refine WP.seq ?_
  refine WP.region ?_
  refine RG.pv rfl (PV.asg rfl rfl) ?_
  refine RG.nil ?_
  refine WP.seq ?_
  refine WP.seq ?_
  refine WP.region ?_
  refine RG.pv rfl (PV.move (v := v) rfl rfl) ?_
  refine RG.callF (vs := [v]) rfl rfl En75 rfl (isLayout_s (Rs.up h1) hd.up ?_)
  refine RG.pv rfl (PV.not rfl rfl) ?_
  refine RG.nil ?_
  -- STOP: cond
  refine WP.cond rfl (fun h2 => ?_) (fun h2 => ?_)
  · have h3 : isLay (er xs) = false := by simpa using h2
    have e : boxesE (er xs) = [] := by rw [boxesE, h3]; rfl
    rw [e] at k
    refine WP.seq ?_
    refine WP.region ?_
    refine RG.pv rfl (PV.asg rfl rfl) ?_
    refine RG.nil ?_
    refine WP.ret ?_
  -- STOP: ret
    exact ⟨_, _, ResV.one rfl rfl, Cv.nilP, k _⟩
  · have hlay : isLay (er xs) = true := by simpa using h2
    have e : boxesE (er xs) = (chans (er xs)).map Chan.box := by rw [boxesE, hlay]; rfl
    rw [e] at k
    refine WP.skip ?_
    refine WP.seq ?_
    refine WP.region ?_
    refine RG.pv rfl (PV.move (v := v) rfl rfl) ?_
    refine RG.callF (vs := [v]) rfl rfl En114 rfl (channelsOf_s (Rs.up h1) hd.up hlay (fun v13 u13 cs13 zs13 hc13 hz13 => ?_))
    refine RG.pv rfl (PV.move (v := .tuple _) rfl rfl) ?_
    refine RG.pv rfl (PV.ext (v := v13) rfl rfl rfl) ?_
    refine RG.pv rfl (PV.ext (v := u13) rfl rfl rfl) ?_
    refine RG.pv rfl (PV.asg (v := v13) rfl rfl) ?_
    refine RG.pv rfl (PV.asg (v := u13) rfl rfl) ?_
    refine RG.nil ?_
    refine WP.seq ?_
    refine WP.region ?_
    refine RG.ot rfl (OT.bslice (F := rectT) (els := []) rfl El24 rfl (by decide) rfl (by decide) trivial fun v16 => ?_)
    refine RG.pv rfl (PV.asg (v := v16) rfl rfl) ?_
    refine RG.nil ?_
    refine WP.seq ?_
    refine WP.seq ?_
    refine WP.region ?_
    refine RG.pv rfl (PV.move (v := v13) rfl rfl) ?_
    refine RG.pv rfl (PV.len (v := v13) rfl Try.underlying136 rfl SlF.o) ?_
    refine RG.pv rfl (PV.mvI (.inl rfl) rfl) ?_
    refine RG.nil ?_
    refine WP.block ?_
  -- STOP: loop
    subst hc13
    have hcl := chans_len (er xs)
    refine WP.loop3 [17, 18] (fun (i : Nat) (us : List Rect) (q : Value) => i ≤ (chans (er xs)).length ∧ us = ((chans (er xs)).take i).map Chan.box) (fun (i : Nat) (us : List Rect) (q : Value) => [(19, vi i), (5, q)]) (fun (i : Nat) (us : List Rect) (q : Value) => osl 81 rectT q us :: osl 140 chanT v13 (chans (er xs)) :: L) (fun (i : Nat) (us : List Rect) (q : Value) => (chans (er xs)).length - i) 0 [] v16 ⟨by omega, rfl⟩ ⟨rfl, rfl, trivial⟩ Cv.p ?_
    rintro i us q τ ⟨hi, hus⟩
    refine WP.seq ?_
    refine WP.region ?_
    refine RG.pv rfl (PV.lss rfl rfl rfl) ?_
    refine RG.nil ?_
    refine WP.seq ?_
  -- STOP: cond
    have hbl : us.length ≤ 6400 := by rw [hus, List.length_map, List.length_take]; omega
    refine WP.cond rfl (fun h4 => ?_) (fun h4 => ?_)
    · have h4 := of_decide_eq_true h4
      have htk : ((chans (er xs)).take (i + 1)).map Chan.box = ((chans (er xs)).take i).map Chan.box ++ [(gd (chans (er xs)) i).box] := by rw [List.take_add_one, getG (by omega), List.map_append]; rfl
      refine WP.skip ?_
      refine WP.seq ?_
      refine WP.block ?_
      refine WP.seq ?_
      refine WP.region ?_
      refine RG.pv rfl (PV.idxS (v := v13) rfl Is136 rfl SlF.o rfl rfl (by omega)) ?_
      refine RG.pv rfl (PV.loadE rfl Ag140 rfl rfl (El.o (getG (by omega)))) ?_
      refine RG.ot rfl (OT.alloc rfl Zr140 fun b7 => ?_)
      refine RG.ot rfl (OT.storeW (vs := [vi _, vi _, vi _, vi _, vi _, .bool _]) rfl Sz140 rfl rfl (Cl.c rfl) rfl rfl (OneC.c rfl) ?_)
      refine RG.nil ?_
      refine WP.region ?_
      refine RG.pv rfl (PV.move (v := q) rfl rfl) ?_
      refine RG.pv rfl (PV.field rfl Fo140_0 rfl) ?_
      refine RG.pv rfl (PV.loadB (vs := [_, _, _, _]) rfl Ag81 rfl rfl rfl) ?_
      refine RG.ot rfl (OT.bslice (F := rectT) (els := [_]) rfl El24 rfl (by decide) rfl (by decide) ⟨rfl, (Cl.c rfl), trivial⟩ fun v26 => ?_)
      refine RG.ot rfl (OT.append (v := q) (u := v26) (F := rectT) rfl El24 rfl (by decide) rfl rfl Rs.o (OneL.c (fun _ => rfl)) rfl (by first | omega | (simp <;> omega)) fun v27 => ?_)
      refine RG.pv rfl (PV.asg (v := v27) rfl rfl) ?_
      refine RG.nil ?_
      refine WP.region ?_
      refine RG.pv rfl (PV.add rfl rfl rfl (by omega)) ?_
      refine RG.pv rfl (PV.mvI (.inl rfl) rfl) ?_
      refine RG.nil ?_
  -- STOP: loopend
      exact ⟨rfl, i + 1, (us ++ [(gd (chans (er xs)) i).box]), v27, ⟨by omega, by rw [hus, htk]⟩, ⟨rfl, rfl, trivial⟩, ⟨rfl, rfl, trivial⟩, Cv.p, by omega⟩
    · have h4 := of_decide_eq_false h4
      obtain rfl : i = (chans (er xs)).length := by omega
      rw [List.take_of_length_le (Nat.le_refl _)] at hus
      refine WP.exit ?_
      refine WP.seq ?_
      refine WP.region ?_
      refine RG.pv rfl (PV.move (v := q) rfl rfl) ?_
      refine RG.pv rfl (PV.asg (v := q) rfl rfl) ?_
      refine RG.nil ?_
      refine WP.ret ?_
  -- STOP: ret
      rw [← hus] at k
      exact ⟨_, _, ResV.one rfl rfl, Cv.p, k q⟩
theorem malf_i {v : Value} {xs : List (Sl Rect)} (h1 : Rs G L slT v xs) (hd : RsE G L rectT xs) (k : ∀ v', R v' G (osl 81 rectT v' (malfE (er xs)) :: L)) : CallT Try.prog 67 #[v] G L R := by
  refine CallT.enter (args := _) Try.func67 rfl rfl (by kernel_rfl) rfl ?_
  refine WP.seq ?_
  refine WP.region ?_
  refine RG.pv rfl (PV.asg rfl rfl) ?_
  refine RG.nil ?_
  refine WP.seq ?_
  refine WP.seq ?_
  refine WP.region ?_
  refine RG.pv rfl (PV.move (v := v) rfl rfl) ?_
  refine RG.callF (vs := [v]) rfl rfl En75 rfl (isLayout_s (Rs.up h1) hd.up ?_)
  refine RG.pv rfl (PV.not rfl rfl) ?_
  refine RG.nil ?_
  -- STOP: cond
  refine WP.cond rfl (fun h2 => ?_) (fun h2 => ?_)
  · have h3 : isLay (er xs) = false := by simpa using h2
    have e : malfE (er xs) = [] := by rw [malfE, h3]; rfl
    rw [e] at k
    refine WP.seq ?_
    refine WP.region ?_
    refine RG.pv rfl (PV.asg rfl rfl) ?_
    refine RG.nil ?_
    refine WP.ret ?_
  -- STOP: ret
    exact ⟨_, _, ResV.one rfl rfl, Cv.nilP, k _⟩
  · have hlay : isLay (er xs) = true := by simpa using h2
    have e : malfE (er xs) = canon (bits (malf (er xs)).flatten) := by rw [malfE, hlay]; rfl
    rw [e] at k
    refine WP.skip ?_
    refine WP.seq ?_
    refine WP.region ?_
    refine RG.pv rfl (PV.move (v := v) rfl rfl) ?_
    refine RG.callF (vs := [v]) rfl rfl En114 rfl (channelsOf_s (Rs.up h1) hd.up hlay (fun v10 u10 cs10 zs10 hc10 hz10 => ?_))
    refine RG.pv rfl (PV.move (v := .tuple _) rfl rfl) ?_
    refine RG.pv rfl (PV.ext (v := v10) rfl rfl rfl) ?_
    refine RG.pv rfl (PV.ext (v := u10) rfl rfl rfl) ?_
    refine RG.pv rfl (PV.asg (v := v10) rfl rfl) ?_
    refine RG.pv rfl (PV.asg (v := u10) rfl rfl) ?_
    refine RG.nil ?_
    refine WP.seq ?_
    refine WP.region ?_
    refine RG.pv rfl (PV.move (v := u10) rfl rfl) ?_
    refine RG.callF (vs := [u10]) rfl rfl En124 rfl (unionAll_s Rs.o RsE.o (fun v14 => ?_))
    refine RG.pv rfl (PV.asg (v := v14) rfl rfl) ?_
    refine RG.nil ?_
    refine WP.ret ?_
  -- STOP: ret
    rw [← hz10] at k
    exact ⟨_, _, ResV.one rfl rfl, Cv.p, k v14⟩
/-! ## the law -/
theorem sameRects_s {v u : Value} {xs ys : List Rect} (h1 : Rs G L rectT v xs) (h2 : Rs G L rectT u ys) (k : R (.bool (decide (xs = ys))) G L) : CallT Try.prog 65 #[v, u] G L R := by
  refine CallT.bd h1 fun hb => ?_
  refine CallT.bd h2 fun hb' => ?_
  refine CallT.enter (args := _) Try.func65 rfl rfl (by kernel_rfl) rfl ?_
  refine WP.seq ?_
  refine WP.region ?_
  refine RG.pv rfl (PV.mvB (.inr rfl) rfl) ?_
  refine RG.nil ?_
  refine WP.seq ?_
  refine WP.seq ?_
  refine WP.region ?_
  refine RG.pv rfl (PV.move (v := v) rfl rfl) ?_
  refine RG.pv rfl (PV.len (v := v) rfl Try.underlying24 rfl (SlF.r h1)) ?_
  refine RG.pv rfl (PV.move (v := u) rfl rfl) ?_
  refine RG.pv rfl (PV.len (v := u) rfl Try.underlying24 rfl (SlF.r h2)) ?_
  refine RG.pv rfl (PV.neq rfl rfl rfl) ?_
  refine RG.nil ?_
  -- STOP: cond
  refine WP.cond rfl (fun h3 => ?_) (fun h3 => ?_)
  · have e : decide (xs = ys) = false := by
      rw [decide_eq_false_iff_not]; rintro rfl; simp at h3
    rw [e] at k
    refine WP.seq ?_
    refine WP.region ?_
    refine RG.pv rfl (PV.mvB (.inr rfl) rfl) ?_
    refine RG.nil ?_
    refine WP.ret ?_
  -- STOP: ret
    exact ⟨_, _, ResV.one rfl rfl, Cv.p, k⟩
  · have hl : xs.length = ys.length := by simp at h3; omega
    refine WP.skip ?_
    refine WP.seq ?_
    refine WP.seq ?_
    refine WP.region ?_
    refine RG.pv rfl (PV.mvI (.inr rfl) rfl) ?_
    refine RG.nil ?_
    refine WP.block ?_
  -- STOP: loop
    refine WP.loop1 [0, 1] (fun i => i ≤ xs.length ∧ ∀ j, j < i → xs[j]? = ys[j]?) (fun i => [(5, vi i)]) (fun i => L) (fun i => xs.length - i) 0 ⟨by omega, fun j h => by omega⟩ ⟨rfl, trivial⟩ Cv.p ?_
    rintro i τ ⟨hi, he⟩
    refine WP.seq ?_
    refine WP.seq ?_
    refine WP.region ?_
    refine RG.pv rfl (PV.mvI (.inl rfl) rfl) ?_
    refine RG.pv rfl (PV.move (v := v) rfl rfl) ?_
    refine RG.pv rfl (PV.len (v := v) rfl Try.underlying24 rfl (SlF.r h1)) ?_
    refine RG.pv rfl (PV.lss rfl rfl rfl) ?_
    refine RG.nil ?_
  -- STOP: cond
    refine WP.cond rfl (fun h4 => ?_) (fun h4 => ?_)
    · have h4 := of_decide_eq_true h4
      have h5 : i < xs.length := by omega
      refine WP.skip ?_
      refine WP.seq ?_
      refine WP.block ?_
      refine WP.seq ?_
      refine WP.regionQ (by kernel_rfl) (by kernel_rfl) ?_
      refine RQ.pv rfl (PV.move (v := v) rfl rfl) ?_
      refine RQ.pv rfl (PV.mvI (.inl rfl) rfl) ?_
      refine RQ.pv rfl (PV.idxS (v := v) rfl Is24 rfl (SlF.r h1) rfl rfl (by omega)) ?_
      refine RQ.pv rfl (PV.loadE rfl Ag81 rfl rfl (El.r h1 (getG (by omega)))) ?_
      refine RQ.pv rfl (PV.move (v := u) rfl rfl) ?_
      refine RQ.pv rfl (PV.mvI (.inl rfl) rfl) ?_
      refine RQ.pv rfl (PV.idxS (v := u) rfl Is24 rfl (SlF.r h2) rfl rfl (by omega)) ?_
      refine RQ.pv rfl (PV.loadE rfl Ag81 rfl rfl (El.r h2 (getG (by omega)))) ?_
      refine RQ.pv rfl (PV.neqT rfl Eq81 rfl rfl) ?_
      refine RQ.nil ?_
  -- STOP: cond
      refine WP.cond rfl (fun h6 => ?_) (fun h6 => ?_)
      · have e : decide (xs = ys) = false := by
          rw [decide_eq_false_iff_not]; rintro rfl; simp at h6
        rw [e] at k
        refine WP.seq ?_
        refine WP.region ?_
        refine RG.pv rfl (PV.mvB (.inr rfl) rfl) ?_
        refine RG.nil ?_
        refine WP.ret ?_
  -- STOP: ret
        exact ⟨_, _, ResV.one rfl rfl, Cv.p, k⟩
      · have e : gd xs i = gd ys i := by simpa using h6
        have he' : ∀ j, j < i + 1 → xs[j]? = ys[j]? := fun j h => by
          by_cases c : j = i
          · rw [c, getG h5, getG (show i < ys.length by omega), e]
          · exact he j (by omega)
        refine WP.skip ?_
        refine WP.region ?_
        refine RG.pv rfl (PV.mvI (.inl rfl) rfl) ?_
        refine RG.pv rfl (PV.add rfl rfl rfl (by omega)) ?_
        refine RG.pv rfl (PV.mvI (.inr rfl) rfl) ?_
        refine RG.nil ?_
  -- STOP: loopend
        exact ⟨rfl, i + 1, ⟨by omega, he'⟩, ⟨rfl, trivial⟩, ⟨rfl, rfl, trivial⟩, Cv.p, by omega⟩
    · have h4 := of_decide_eq_false h4
      have e : decide (xs = ys) = true := by
        rw [decide_eq_true_iff]; exact pre_eq he hl (by omega)
      rw [e] at k
      refine WP.exit ?_
      refine WP.seq ?_
      refine WP.region ?_
      refine RG.pv rfl (PV.mvB (.inr rfl) rfl) ?_
      refine RG.nil ?_
      refine WP.ret ?_
  -- STOP: ret
      exact ⟨_, _, ResV.one rfl rfl, Cv.p, k⟩
theorem drawn_hd {e e' : TypeId} {v0 : Value} {xs ys : List (Sl Rect)} (h : ∀ s ∈ xs, s ∈ ys) : RsE G [osl e' slT v0 ys, bagS e rectT ys] rectT xs := fun _ hi => Rs.memB (h _ (gd_mem hi))
theorem areaE_cn {bs : List Bool} (h : bs.length = 6400) : areaE (canon bs) = cnt bs := by
  rw [areaE, isReg_canon h, bits_canon h]; rfl
/-- what is told of a rectangle of a channel -/
theorem box_facts {l : List (List Rect)} (hl : isLay l = true) {box : Rect} (h : box ∈ (chans l).map Chan.box) : (sizeE l box).1 * (sizeE l box).2 = areaR box ∧ 1 ≤ (sizeE l box).1 ∧ (sizeE l box).1 ≤ 80 ∧ 1 ≤ (sizeE l box).2 ∧ (sizeE l box).2 ≤ 80 ∧ 0 ≤ kindE l box := by
  obtain ⟨c0, hc0, hb0⟩ := List.mem_map.1 h
  have hs : ∃ c, chanE l box = some c := by
    rw [chanE, hl, cond_true, chanW]
    cases hf : (chans l).find? (fun c => decide (c.box = box)) with
    | some c => exact ⟨c, rfl⟩
    | none =>
      exfalso
      rw [List.find?_eq_none] at hf
      exact hf c0 hc0 (by simp [hb0])
  obtain ⟨c, hc⟩ := hs
  obtain ⟨h1, h2, h3, h4⟩ := chanE_valid hc
  rw [sizeE_eq, kindE_eq, hc]
  have hv := validR_iff.1 h1
  rw [← h3]
  simp only [sizeC, areaR]
  cases c.hor
  · exact ⟨rfl, by simp only [cond_false]; omega, by simp only [cond_false]; omega, by simp only [cond_false]; omega, by simp only [cond_false]; omega, h2⟩
  · exact ⟨Int.mul_comm _ _, by simp only [cond_true]; omega, by simp only [cond_true]; omega, by simp only [cond_true]; omega, by simp only [cond_true]; omega, h2⟩
theorem chan_kinds (l : List (List Rect)) : cntP (fun c : Chan => decide (c.kind = 0)) (chans l) + cntP (fun c : Chan => decide (c.kind = 1)) (chans l) = ((chans l).length : Int) := by
  have : ∀ cs : List Chan, (∀ c ∈ cs, 0 ≤ c.kind ∧ c.kind ≤ 1) → cntP (fun c : Chan => decide (c.kind = 0)) cs + cntP (fun c : Chan => decide (c.kind = 1)) cs = (cs.length : Int) := fun cs => by
    induction cs with
    | nil => intro _; rfl
    | cons c cs ih =>
      intro h
      have h1 := h c (.head _)
      have h2 := ih fun d hd => h d (.tail _ hd)
      simp only [cntP, List.filter_cons, List.length_cons] at *
      rcases (by omega : c.kind = 0 ∨ c.kind = 1) with e | e <;> simp [e] <;> omega
  refine this _ fun c hc => ?_
  obtain ⟨g, hg, hi, rfl⟩ := chans_mem hc
  have := chK_bd l g
  exact ⟨of_decide_eq_true hi, this.2⟩
theorem law_FnChannelAreas {cv : Value} {bs : List UInt8} (hcode : SL G byteT cv bs) (k : R (.bool true) G L) : CallT Try.prog 13 #[cv] G L R := by
  refine CallT.enter (args := _) Try.func13 rfl rfl (by kernel_rfl) rfl ?_
  refine WP.seq ?_
  refine WP.region ?_
  refine RG.pv rfl (PV.mvB (.inr rfl) rfl) ?_
  refine RG.nil ?_
  refine WP.seq ?_
  refine WP.seq ?_
  refine WP.region ?_
  refine RG.pv rfl (PV.move (v := cv) rfl rfl) ?_
  refine RG.callF (vs := [cv]) rfl rfl En24 rfl (big_s hcode ?_)
  refine RG.nil ?_
  -- STOP: cond
  refine WP.cond rfl (fun h1 => ?_) (fun h1 => ?_)
  · refine WP.seq ?_
    refine WP.region ?_
    refine RG.pv rfl (PV.mvB (.inr rfl) rfl) ?_
    refine RG.nil ?_
    refine WP.ret ?_
  -- STOP: ret
    exact ⟨_, _, ResV.one rfl rfl, Cv.p, k⟩
  · refine WP.skip ?_
    refine WP.seq ?_
    refine WP.region ?_
    refine RG.pv rfl (PV.move (v := cv) rfl rfl) ?_
    refine RG.callF (vs := [cv]) rfl rfl En61 rfl (drawDevices_s hcode (fun v13 v0 xs ys hxs hmem hxl => ?_))
    refine RG.pv rfl (PV.asg (v := v13) rfl rfl) ?_
    refine RG.nil ?_
    refine WP.seq ?_
    refine WP.region ?_
    refine RG.pv rfl (PV.move (v := v13) rfl rfl) ?_
    refine RG.callF (vs := [v13]) rfl rfl En62 rfl (channels_i (Rs.up hxs) (drawn_hd (v0 := v0) (e := 81) (e' := 24) hmem).up (fun v15 => ?_))
    refine RG.pv rfl (PV.asg (v := v15) rfl rfl) ?_
    refine RG.nil ?_
    refine WP.seq ?_
    refine WP.seq ?_
    refine WP.region ?_
    refine RG.pv rfl (PV.move (v := v13) rfl rfl) ?_
    refine RG.callF (vs := [v13]) rfl rfl En31 rfl (isLayoutS_s (Rs.up hxs) (drawn_hd (v0 := v0) (e := 81) (e' := 24) hmem).up ?_)
    refine RG.pv rfl (PV.not rfl rfl) ?_
    refine RG.nil ?_
  -- STOP: cond
    refine WP.cond rfl (fun h2 => ?_) (fun h2 => ?_)
    · have hl : isLay (er xs) = false := by simpa using h2
      have e : boxesE (er xs) = [] := by rw [boxesE, hl]; rfl
      rw [e]
      refine WP.seq ?_
      refine WP.region ?_
      refine RG.pv rfl (PV.move (v := v15) rfl rfl) ?_
      refine RG.pv rfl (PV.len (v := v15) rfl Try.underlying24 rfl SlF.o) ?_
      refine RG.pv rfl (PV.eql rfl rfl rfl) ?_
      refine RG.pv rfl (PV.mvB (.inr rfl) rfl) ?_
      refine RG.nil ?_
      refine WP.ret ?_
  -- STOP: ret
      exact ⟨_, _, ResV.one rfl rfl, Cv.p, k⟩
    · have hlay : isLay (er xs) = true := by simpa using h2
      have e : boxesE (er xs) = (chans (er xs)).map Chan.box := by rw [boxesE, hlay]; rfl
      have hbl : (boxesE (er xs)).length ≤ 6400 := by rw [e, List.length_map]; exact chans_len _
      have hbm : ∀ i, i < (boxesE (er xs)).length → gd (boxesE (er xs)) i ∈ (chans (er xs)).map Chan.box := fun i hi => by rw [← e]; exact gd_mem hi
      have ha0 : ∀ r ∈ boxesE (er xs), 0 < areaR r ∧ areaR r ≤ 6400 := fun r hr => by
        rw [e] at hr
        obtain ⟨c, hc, rfl⟩ := List.mem_map.1 hr
        have hv := (chan_valid hc).1
        exact ⟨areaR_pos hv, (area_bd hv).2⟩
      have har : costL areaR (boxesE (er xs)) = costL (fun c : Chan => areaR c.box) (chans (er xs)) := by rw [e, costL_map]
      refine WP.skip ?_
      refine WP.seq ?_
      refine WP.region ?_
      refine RG.pv rfl (PV.mvI (.inr rfl) rfl) ?_
      refine RG.nil ?_
      refine WP.seq ?_
      refine WP.seq ?_
      refine WP.region ?_
      refine RG.pv rfl (PV.mvI (.inr rfl) rfl) ?_
      refine RG.nil ?_
      refine WP.block ?_
  -- STOP: loop
      refine WP.loop2 [3, 4] (fun (i : Nat) (s : Int) => i ≤ (boxesE (er xs)).length ∧ s = costL areaR ((boxesE (er xs)).take i)) (fun (i : Nat) (s : Int) => [(6, vi i), (5, vi s)]) (fun (i : Nat) (s : Int) => osl 81 rectT v15 (boxesE (er xs)) :: osl 24 slT v0 ys :: bagS 81 rectT ys :: L) (fun (i : Nat) (s : Int) => (boxesE (er xs)).length - i) 0 0 ⟨by omega, rfl⟩ ⟨rfl, rfl, trivial⟩ Cv.p ?_
      rintro i s τ ⟨hi, hs⟩
      refine WP.seq ?_
      refine WP.seq ?_
      refine WP.region ?_
      refine RG.pv rfl (PV.mvI (.inl rfl) rfl) ?_
      refine RG.pv rfl (PV.move (v := v15) rfl rfl) ?_
      refine RG.pv rfl (PV.len (v := v15) rfl Try.underlying24 rfl SlF.o) ?_
      refine RG.pv rfl (PV.lss rfl rfl rfl) ?_
      refine RG.nil ?_
  -- STOP: cond
      have hsb : 0 ≤ s ∧ s ≤ 6400 * i := by
        have hm : ∀ r ∈ (boxesE (er xs)).take i, 0 < areaR r ∧ areaR r ≤ 6400 := fun r hr => ha0 r (List.mem_of_mem_take hr)
        have h1 : costL areaR ((boxesE (er xs)).take i) ≤ 6400 * ((boxesE (er xs)).take i).length := costL_bd fun r hr => (hm r hr).2
        have h2 : 0 ≤ costL areaR ((boxesE (er xs)).take i) := by
          have : ∀ rs : List Rect, (∀ r ∈ rs, 0 < areaR r) → 0 ≤ costL areaR rs := fun rs => by
            induction rs with
            | nil => intro _; exact Int.le_refl _
            | cons r rs ih => intro h; have a := h r (.head _); have b := ih fun q hq => h q (.tail _ hq); simp only [costL]; omega
          exact this _ fun r hr => (hm r hr).1
        have h3 : ((boxesE (er xs)).take i).length = i := by rw [List.length_take]; omega
        rw [h3] at h1; omega
      refine WP.cond rfl (fun h4 => ?_) (fun h4 => ?_)
      · have h4 := of_decide_eq_true h4
        obtain ⟨f1, f2, f3, f4, f5, f6⟩ := box_facts hlay (hbm i (by omega))
        have hct := costL_take areaR (xs := boxesE (er xs)) (i := i) (by omega)
        have hab := ha0 _ (gd_mem (show i < (boxesE (er xs)).length by omega))
        refine WP.skip ?_
        refine WP.seq ?_
        refine WP.block ?_
        refine WP.seq ?_
        refine WP.region ?_
        refine RG.pv rfl (PV.move (v := v13) rfl rfl) ?_
        refine RG.pv rfl (PV.move (v := v15) rfl rfl) ?_
        refine RG.pv rfl (PV.mvI (.inl rfl) rfl) ?_
        refine RG.pv rfl (PV.idxS (v := v15) rfl Is24 rfl SlF.o rfl rfl (by omega)) ?_
        refine RG.pv rfl (PV.loadE rfl Ag81 rfl rfl (El.o (getG (by omega)))) ?_
        refine RG.callF (vs := [v13, _]) rfl rfl En63 rfl (size_i (Rs.up hxs) (drawn_hd (v0 := v0) (e := 81) (e' := 24) hmem).up ?_)
        refine RG.pv rfl (PV.move (v := .tuple _) rfl rfl) ?_
        refine RG.pv rfl (PV.ext rfl rfl rfl) ?_
        refine RG.pv rfl (PV.ext rfl rfl rfl) ?_
        refine RG.pv rfl (PV.mvI (.inr rfl) rfl) ?_
        refine RG.pv rfl (PV.mvI (.inr rfl) rfl) ?_
        refine RG.nil ?_
        refine WP.seq ?_
        refine WP.seq ?_
        refine WP.region ?_
        refine RG.pv rfl (PV.mvI (.inl rfl) rfl) ?_
        refine RG.pv rfl (PV.lss rfl rfl rfl) ?_
        refine RG.pv rfl (PV.mvB (.inl rfl) rfl) ?_
        refine RG.gs rfl rfl rfl (fun hp => (PV.mvI (.inl rfl) rfl)) ?_
        refine RG.gs rfl rfl rfl (fun hp => (PV.lss rfl (gs_t hp) rfl)) ?_
        refine RG.pv rfl (PV.pickO rfl rfl rfl (fun hq => gs_t (geqF hq))) ?_
        refine RG.pv rfl (PV.mvB (.inl rfl) rfl) ?_
        refine RG.gs rfl rfl rfl (fun hp => (PV.move (v := v13) rfl rfl)) ?_
        refine RG.gs rfl rfl rfl (fun hp => (PV.move (v := v15) rfl rfl)) ?_
        refine RG.gs rfl rfl rfl (fun hp => (PV.mvI (.inl rfl) rfl)) ?_
        refine RG.gs rfl rfl rfl (fun hp => (PV.idxS (v := v15) rfl Is24 (gs_t hp) SlF.o (gs_t hp) rfl (by first | omega | (simp at hp; omega)))) ?_
        refine RG.gs rfl rfl rfl (fun hp => (PV.loadE rfl Ag81 (gs_t hp) rfl (El.o (getG (by first | omega | (simp at hp; omega)))))) ?_
        refine RG.gsC rfl rfl rfl rfl En58 (fun hp => ⟨_, (acons (gs_t hp) (acons (gs_t hp) anil)), kind_i (Rs.up hxs) (drawn_hd (v0 := v0) (e := 81) (e' := 24) hmem).up ⟨rfl, rfl, rfl⟩⟩) ?_
        refine RG.gs rfl rfl rfl (fun hp => (PV.lss rfl (gs_t hp) rfl)) ?_
        refine RG.pv rfl (PV.pickO rfl rfl rfl (fun hq => gs_t (geqF hq))) ?_
        refine RG.nil ?_
  -- STOP: cond
        refine WP.cond rfl (fun h5 => ?_) (fun h5 => ?_)
        · exfalso
          simp only [Bool.or_eq_true, decide_eq_true_eq] at h5
          omega
        · rw [← f1] at hab
          refine WP.skip ?_
          refine WP.region ?_
          refine RG.pv rfl (PV.mvI (.inl rfl) rfl) ?_
          refine RG.pv rfl (PV.mvI (.inl rfl) rfl) ?_
          refine RG.pv rfl (PV.mvI (.inl rfl) rfl) ?_
          refine RG.pv rfl (PV.mul rfl rfl rfl (by omega)) ?_
          refine RG.pv rfl (PV.add rfl rfl rfl (by omega)) ?_
          refine RG.pv rfl (PV.mvI (.inr rfl) rfl) ?_
          refine RG.nil ?_
          refine WP.region ?_
          refine RG.pv rfl (PV.mvI (.inl rfl) rfl) ?_
          refine RG.pv rfl (PV.add rfl rfl rfl (by omega)) ?_
          refine RG.pv rfl (PV.mvI (.inr rfl) rfl) ?_
          refine RG.nil ?_
  -- STOP: loopend
          exact ⟨rfl, i + 1, _, ⟨by omega, by rw [f1]; omega⟩, ⟨rfl, rfl, trivial⟩, ⟨rfl, rfl, trivial⟩, Cv.p, by omega⟩
      · have h4 := of_decide_eq_false h4
        obtain rfl : i = (boxesE (er xs)).length := by omega
        rw [List.take_of_length_le (Nat.le_refl _)] at hs
        have hm : areaE (malfE (er xs)) = cnt (bits (malf (er xs)).flatten) := by
          rw [malfE, hlay, cond_true]; exact areaE_cn (bits_length _)
        have hch : areaE (chanR (er xs)) = cnt (regC (er xs)) := by
          rw [chanR, hlay, cond_true]; exact areaE_cn (regC_len _)
        have htot := chan_areas (er xs)
        have hcm := cnt_le (bits (malf (er xs)).flatten)
        rw [bits_length] at hcm
        have hcr := cnt_le (regC (er xs))
        rw [regC_len] at hcr
        have hd0 : devN (er xs) 0 = cntP (fun c : Chan => decide (c.kind = 0)) (chans (er xs)) := by rw [devN, hlay]; rfl
        have hd1 : devN (er xs) 1 = cntP (fun c : Chan => decide (c.kind = 1)) (chans (er xs)) := by rw [devN, hlay]; rfl
        have hck := chan_kinds (er xs)
        have hp0 := cntP_bd (fun c : Chan => decide (c.kind = 0)) (chans (er xs))
        have hp1 := cntP_bd (fun c : Chan => decide (c.kind = 1)) (chans (er xs))
        have hcl := chans_len (er xs)
        have hbl2 : (boxesE (er xs)).length = (chans (er xs)).length := by rw [e, List.length_map]
        refine WP.exit ?_
        refine WP.seq ?_
        refine WP.region ?_
        refine RG.pv rfl (PV.move (v := v13) rfl rfl) ?_
        refine RG.callF (vs := [v13]) rfl rfl En64 rfl (chanR_i (Rs.up hxs) (drawn_hd (v0 := v0) (e := 81) (e' := 24) hmem).up (fun v58 => ?_))
        refine RG.pv rfl (PV.asg (v := v58) rfl rfl) ?_
        refine RG.nil ?_
        refine WP.seq ?_
        refine WP.region ?_
        refine RG.pv rfl (PV.move (v := v58) rfl rfl) ?_
        refine RG.pv rfl (PV.move (v := v13) rfl rfl) ?_
        refine RG.callF (vs := [v13]) rfl rfl En66 rfl (chanR_s (Rs.up hxs) (drawn_hd (v0 := v0) (e := 81) (e' := 24) hmem).up (fun v61 => ?_))
        refine RG.callF (vs := [v58, v61]) rfl rfl En65 rfl (sameRects_s Rs.o Rs.o ?_)
        refine RG.pv rfl (PV.mvB (.inl rfl) rfl) ?_
        refine RG.spl (t := 63) rfl (fun g1 => ?_) (fun g1 => ?_)
  -- STOP: split
        · refine RG.take rfl rfl rfl g1 ?_
          refine RG.pv rfl (PV.mvI (.inl rfl) rfl) ?_
          refine RG.take rfl rfl rfl g1 ?_
          refine RG.pv rfl (PV.move (v := v13) rfl rfl) ?_
          refine RG.take rfl rfl rfl g1 ?_
          refine RG.callF (vs := [v13]) rfl rfl En67 rfl (malf_i (Rs.up hxs) (drawn_hd (v0 := v0) (e := 81) (e' := 24) hmem).up (fun v66 => ?_))
          refine RG.take rfl rfl rfl g1 ?_
          refine RG.callF (vs := [v66]) rfl rfl En48 rfl (regArea_s Rs.o ?_)
          refine RG.take rfl rfl rfl g1 ?_
          refine RG.pv rfl (PV.add rfl rfl rfl (by omega)) ?_
          refine RG.take rfl rfl rfl g1 ?_
          refine RG.pv rfl (PV.move (v := v58) rfl rfl) ?_
          refine RG.take rfl rfl rfl g1 ?_
          refine RG.callF (vs := [v58]) rfl rfl En48 rfl (regArea_s Rs.o ?_)
          refine RG.take rfl rfl rfl g1 ?_
          refine RG.pv rfl (PV.eql rfl rfl rfl) ?_
          refine RG.pv rfl (PV.pickT rfl rfl g1 rfl) ?_
          refine RG.pv rfl (PV.mvB (.inl rfl) rfl) ?_
          refine RG.spl (t := 73) rfl (fun g2 => ?_) (fun g2 => ?_)
  -- STOP: split
          · have e2 : decide (devN (er xs) 0 + devN (er xs) 1 = ((boxesE (er xs)).length : Int)) = true := by
              rw [decide_eq_true_iff]; omega
            rw [← e2] at k
            refine RG.take rfl rfl rfl g2 ?_
            refine RG.pv rfl (PV.move (v := v13) rfl rfl) ?_
            refine RG.take rfl rfl rfl g2 ?_
            refine RG.callF (vs := [v13, _]) rfl rfl En55 rfl (devN_i (Rs.up hxs) (drawn_hd (v0 := v0) (e := 81) (e' := 24) hmem).up ?_)
            refine RG.take rfl rfl rfl g2 ?_
            refine RG.pv rfl (PV.move (v := v13) rfl rfl) ?_
            refine RG.take rfl rfl rfl g2 ?_
            refine RG.callF (vs := [v13, _]) rfl rfl En55 rfl (devN_i (Rs.up hxs) (drawn_hd (v0 := v0) (e := 81) (e' := 24) hmem).up ?_)
            refine RG.take rfl rfl rfl g2 ?_
            refine RG.pv rfl (PV.add rfl rfl rfl (by omega)) ?_
            refine RG.take rfl rfl rfl g2 ?_
            refine RG.pv rfl (PV.move (v := v15) rfl rfl) ?_
            refine RG.take rfl rfl rfl g2 ?_
            refine RG.pv rfl (PV.len (v := v15) rfl Try.underlying24 rfl SlF.o) ?_
            refine RG.take rfl rfl rfl g2 ?_
            refine RG.pv rfl (PV.eql rfl rfl rfl) ?_
            refine RG.pv rfl (PV.pickT rfl rfl g2 rfl) ?_
            refine RG.pv rfl (PV.mvB (.inr rfl) rfl) ?_
            refine RG.nil ?_
            refine WP.ret ?_
  -- STOP: ret
            exact ⟨_, _, ResV.one rfl rfl, Cv.p, k⟩
          · exfalso
            have g2 := of_decide_eq_false g2
            omega
        · exfalso
          simp at g1
end Go.Proofs.Ytilccgeldnlgnaa
