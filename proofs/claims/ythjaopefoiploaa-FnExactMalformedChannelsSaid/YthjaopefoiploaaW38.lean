/-
  Contracts: the rectangles of channels and the malformed parts, as the reference tells them; the laws Channels and MalformedChannels.
-/
import Derived.Test.YthjaopefoiploaaW33
namespace Go.Proofs.Ythjaopefoiploaa
open Go
set_option maxRecDepth 20000
set_option linter.unusedSimpArgs false
variable {G : Gh} {L : List Ch} {R : Value → Gh → List Ch → Prop}
theorem boxes_eq (l : List (List Rect)) : (chans l).map Chan.box = ((partsC l).filter (isCh l)).map fun g => gd g 0 := by
  rw [chans, List.map_map]; rfl
theorem filter_take {α : Type} [Inhabited α] (p : α → Bool) {xs : List α} {i : Nat} (h : i < xs.length) : (xs.take (i + 1)).filter p = (xs.take i).filter p ++ (if p (gd xs i) then [gd xs i] else []) := by
  rw [List.take_add_one, getG h, List.filter_append]
  cases hp : p (gd xs i) <;> simp [hp]
theorem bits_app (ar bs : List Rect) : bits (ar ++ bs) = zipB (fun p q => p || q) (bits ar) (bits bs) := gb_ext (bits_length _) (zipB_len (bits_length _) (bits_length _)) fun y x hy hx => by
  rw [gb_zip (bits_length _) (bits_length _) hy hx, gb_bits _ hy hx, gb_bits _ hy hx, gb_bits _ hy hx, List.any_append]
theorem bits_nil : bits [] = List.replicate 6400 false := by
  simp only [bits, List.any_nil]
  exact List.map_const' .. |>.trans (by rw [List.length_range])
theorem channels_r {v : Value} {xs : List (Sl Rect)} (h1 : Rs G L slT v xs) (hd : RsE G L rectT xs) (k : ∀ v', R v' G (osl 59 rectT v' (boxesE (er xs)) :: L)) : CallT Try.prog 8 #[v] G L R := by
  refine CallT.enter (args := _) Try.func8 rfl rfl (by kernel_rfl) rfl ?_
  refine WP.seq ?_
  refine WP.region ?_
  refine RG.pv rfl (PV.asg rfl rfl) ?_
  refine RG.nil ?_
  refine WP.seq ?_
  refine WP.region ?_
  refine RG.ot rfl (OT.bslice (F := rectT) (els := []) rfl El24 rfl (by decide) rfl (by decide) trivial fun v8 => ?_)
  refine RG.pv rfl (PV.asg (v := v8) rfl rfl) ?_
  refine RG.nil ?_
  refine WP.seq ?_
  refine WP.seq ?_
  refine WP.region ?_
  refine RG.pv rfl (PV.move (v := v) rfl rfl) ?_
  refine RG.callF (vs := [v]) rfl rfl En31 rfl (l19Layout_s (Rs.up h1) hd.up ?_)
  refine RG.pv rfl (PV.not rfl rfl) ?_
  refine RG.nil ?_
  refine WP.cond rfl (fun h2 => ?_) (fun h2 => ?_)
  · have h3 : isLay (er xs) = false := by simpa using h2
    have e : boxesE (er xs) = [] := by rw [boxesE, h3]; rfl
    rw [e] at k
    refine WP.seq ?_
    refine WP.region ?_
    refine RG.pv rfl (PV.move (v := v8) rfl rfl) ?_
    refine RG.pv rfl (PV.asg (v := v8) rfl rfl) ?_
    refine RG.nil ?_
    refine WP.ret ?_
    exact ⟨_, _, ResV.one rfl rfl, Cv.p, k v8⟩
  · have hlay : isLay (er xs) = true := by simpa using h2
    have e : boxesE (er xs) = ((partsC (er xs)).filter (isCh (er xs))).map fun g => gd g 0 := by rw [boxesE, hlay, cond_true, boxes_eq]
    rw [e] at k
    refine WP.skip ?_
    refine WP.seq ?_
    refine WP.region ?_
    refine RG.pv rfl (PV.move (v := v) rfl rfl) ?_
    refine RG.callF (vs := [v]) rfl rfl En32 rfl (l24Parts_s (Rs.up h1) hd.up hlay (fun v14 ysv14 hev14 => ?_))
    refine RG.pv rfl (PV.asg (v := v14) rfl rfl) ?_
    refine RG.nil ?_
    refine WP.seq ?_
    refine WP.seq ?_
    refine WP.region ?_
    refine RG.pv rfl (PV.mvI (.inr rfl) rfl) ?_
    refine RG.nil ?_
    refine WP.block ?_
    obtain ⟨hyl, hya⟩ := partsC_at hev14
    refine WP.loop3 [0, 4] (fun (i : Nat) (us : List Rect) (q : Value) => i ≤ ysv14.length ∧ us = (((partsC (er xs)).take i).filter (isCh (er xs))).map (fun g => gd g 0)) (fun (i : Nat) (us : List Rect) (q : Value) => [(5, vi i), (3, q)]) (fun (i : Nat) (us : List Rect) (q : Value) => osl 59 rectT q us :: osl 24 slT v14 ysv14 :: bagS 59 rectT ysv14 :: L) (fun (i : Nat) (us : List Rect) (q : Value) => ysv14.length - i) 0 [] v8 ⟨by omega, rfl⟩ ⟨rfl, rfl, trivial⟩ Cv.p ?_
    rintro i us q τ ⟨hi, hus⟩
    refine WP.seq ?_
    refine WP.seq ?_
    refine WP.region ?_
    refine RG.pv rfl (PV.mvI (.inl rfl) rfl) ?_
    refine RG.pv rfl (PV.move (v := v14) rfl rfl) ?_
    refine RG.pv rfl (PV.len (v := v14) rfl Try.underlying26 rfl SlF.o) ?_
    refine RG.pv rfl (PV.lss rfl rfl rfl) ?_
    refine RG.nil ?_
    have hul : us.length ≤ 6400 := by
      have h4 := List.length_filter_le (isCh (er xs)) ((partsC (er xs)).take i)
      rw [List.length_take] at h4
      rw [hus, List.length_map]; omega
    refine WP.cond rfl (fun h3 => ?_) (fun h3 => ?_)
    · have h3 := of_decide_eq_true h3
      obtain ⟨hp, hpe, hg0, hgr⟩ := hya i (by omega)
      have hgl := isReg_len hgr
      have hzr : Rs G (bagS 59 rectT ysv14 :: L) rectT (gd ysv14 i).v (gd ysv14 i).xs := Rs.inBag (L := bagS 59 rectT ysv14 :: L) (L' := L) (e := 59) i (by omega)
      have hft := filter_take (isCh (er xs)) hp
      rw [hpe] at hft
      refine WP.skip ?_
      refine WP.seq ?_
      refine WP.block ?_
      refine WP.seq ?_
      refine WP.region ?_
      refine RG.pv rfl (PV.move (v := v) rfl rfl) ?_
      refine RG.pv rfl (PV.move (v := v14) rfl rfl) ?_
      refine RG.pv rfl (PV.mvI (.inl rfl) rfl) ?_
      refine RG.pv rfl (PV.idxS (v := v14) rfl Is26 rfl SlF.o rfl rfl (by omega)) ?_
      refine RG.pv rfl (PV.loadE1 rfl Sc24 rfl rfl (El.o (getG (by omega))) rfl) ?_
      refine RG.callF (vs := [v, _]) rfl rfl En33 rfl (l24Channel_s (Rs.up h1) hd.up (Rs.inBag (xs := ysv14) i (by omega)) hlay hg0 hgr ?_)
      refine RG.pv rfl (PV.move (v := .tuple _) rfl rfl) ?_
      refine RG.pv rfl (PV.ext rfl rfl rfl) ?_
      refine RG.pv rfl (PV.ext rfl rfl rfl) ?_
      refine RG.pv rfl (PV.mvI (.inr rfl) rfl) ?_
      refine RG.pv rfl (PV.mvI (.inr rfl) rfl) ?_
      refine RG.nil ?_
      refine WP.seq ?_
      refine WP.region ?_
      refine RG.pv rfl (PV.mvI (.inl rfl) rfl) ?_
      refine RG.pv rfl (PV.geq rfl rfl rfl) ?_
      refine RG.nil ?_
      refine WP.cond rfl (fun h4 => ?_) (fun h4 => ?_)
      · have h5 : isCh (er xs) (gd ysv14 i).xs = true := h4
        rw [if_pos h5] at hft
        refine WP.region ?_
        refine RG.pv rfl (PV.move (v := q) rfl rfl) ?_
        refine RG.pv rfl (PV.move (v := v14) rfl rfl) ?_
        refine RG.pv rfl (PV.mvI (.inl rfl) rfl) ?_
        refine RG.pv rfl (PV.idxS (v := v14) rfl Is26 rfl SlF.o rfl rfl (by omega)) ?_
        refine RG.pv rfl (PV.loadE1 rfl Sc24 rfl rfl (El.o (getG (by omega))) rfl) ?_
        refine RG.pv rfl (PV.idxS (j := 0) rfl Is24 rfl (SlF.r hzr) rfl (by omega) (by omega)) ?_
        refine RG.pv rfl (PV.loadE rfl Ag59 rfl rfl (El.r hzr (getG (by omega)))) ?_
        refine RG.ot rfl (OT.bslice (F := rectT) (els := [_]) rfl El24 rfl (by decide) rfl (by decide) ⟨rfl, (Cl.c rfl), trivial⟩ fun v39 => ?_)
        refine RG.ot rfl (OT.append (v := q) (u := v39) (F := rectT) rfl El24 rfl (by decide) rfl rfl Rs.o (OneL.c (fun _ => rfl)) rfl (by first | omega | (simp <;> omega)) fun v40 => ?_)
        refine RG.pv rfl (PV.asg (v := v40) rfl rfl) ?_
        refine RG.nil ?_
        refine WP.region ?_
        refine RG.pv rfl (PV.mvI (.inl rfl) rfl) ?_
        refine RG.pv rfl (PV.add rfl rfl rfl (by omega)) ?_
        refine RG.pv rfl (PV.mvI (.inr rfl) rfl) ?_
        refine RG.nil ?_
        exact ⟨rfl, i + 1, (us ++ [gd (gd ysv14 i).xs 0]), v40, ⟨by omega, by rw [hft, List.map_append, ← hus]; rfl⟩, ⟨rfl, rfl, trivial⟩, ⟨rfl, rfl, trivial⟩, Cv.p, by omega⟩
      · have h5 : ¬ isCh (er xs) (gd ysv14 i).xs = true := by rw [isCh, h4]; simp
        rw [if_neg h5, List.append_nil] at hft
        refine WP.skip ?_
        refine WP.region ?_
        refine RG.pv rfl (PV.mvI (.inl rfl) rfl) ?_
        refine RG.pv rfl (PV.add rfl rfl rfl (by omega)) ?_
        refine RG.pv rfl (PV.mvI (.inr rfl) rfl) ?_
        refine RG.nil ?_
        exact ⟨rfl, i + 1, us, q, ⟨by omega, by rw [hft]; exact hus⟩, ⟨rfl, rfl, trivial⟩, ⟨rfl, rfl, trivial⟩, Cv.p, by omega⟩
    · have h3 := of_decide_eq_false h3
      have hl : ysv14.length = (partsC (er xs)).length := by rw [← hev14, er_len]
      rw [List.take_of_length_le (by omega)] at hus
      rw [← hus] at k
      refine WP.exit ?_
      refine WP.seq ?_
      refine WP.region ?_
      refine RG.pv rfl (PV.move (v := q) rfl rfl) ?_
      refine RG.pv rfl (PV.asg (v := q) rfl rfl) ?_
      refine RG.nil ?_
      refine WP.ret ?_
      exact ⟨_, _, ResV.one rfl rfl, Cv.p, k q⟩
theorem l19Or_s {v u : Value} {xs ys : List Bool} (h1 : Rs G L boolT v xs) (h2 : Rs G L boolT u ys) (hl : xs.length = 6400) (hl' : ys.length = 6400) (k : ∀ v', R v' G (osl 4 boolT v' (zipB (fun p q => p || q) xs ys) :: L)) : CallT Try.prog 38 #[v, u] G L R := by
  have hzl := zipB_len (f := fun p q => p || q) hl hl'
  refine CallT.enter (args := _) Try.func38 rfl rfl (by kernel_rfl) rfl ?_
  refine WP.seq ?_
  refine WP.region ?_
  refine RG.pv rfl (PV.asg rfl rfl) ?_
  refine RG.nil ?_
  refine WP.seq ?_
  refine WP.region ?_
  refine RG.pv rfl (PV.move (v := v) rfl rfl) ?_
  refine RG.pv rfl (PV.len (v := v) rfl Try.underlying67 rfl (SlF.r h1)) ?_
  refine RG.ot rfl (OT.make (F := boolT) (a0 := false) rfl El67 rfl (by decide) rfl rfl (by omega) (by omega) fun v9 => ?_)
  refine RG.pv rfl (PV.asg (v := v9) rfl rfl) ?_
  refine RG.nil ?_
  refine WP.seq ?_
  refine WP.seq ?_
  refine WP.region ?_
  refine RG.pv rfl (PV.mvI (.inr rfl) rfl) ?_
  refine RG.nil ?_
  refine WP.block ?_
  refine WP.loop2 [0, 1, 5] (fun (i : Nat) (zs : List Bool) => i ≤ 6400 ∧ zs.length = 6400 ∧ ∀ j, j < i → zs[j]? = (zipB (fun p q => p || q) xs ys)[j]?) (fun (i : Nat) (zs : List Bool) => [(6, vi i)]) (fun (i : Nat) (zs : List Bool) => osl 4 boolT v9 zs :: L) (fun (i : Nat) (zs : List Bool) => 6400 - i) 0 (List.replicate xs.length false) ⟨by omega, by simp [hl], fun j h => by omega⟩ ⟨rfl, trivial⟩ Cv.p ?_
  rintro i zs τ ⟨hi, hl2, he⟩
  refine WP.seq ?_
  refine WP.seq ?_
  refine WP.region ?_
  refine RG.pv rfl (PV.mvI (.inl rfl) rfl) ?_
  refine RG.pv rfl (PV.move (v := v) rfl rfl) ?_
  refine RG.pv rfl (PV.len (v := v) rfl Try.underlying67 rfl (SlF.r h1)) ?_
  refine RG.pv rfl (PV.lss rfl rfl rfl) ?_
  refine RG.nil ?_
  refine WP.cond rfl (fun h3 => ?_) (fun h3 => ?_)
  · have h3 := of_decide_eq_true h3
    have hz := zipB_get (f := fun p q => p || q) (a := xs) (b := ys) (i := i) (by omega) (by omega)
    refine WP.skip ?_
    refine WP.seq ?_
    refine WP.block ?_
    refine WP.region ?_
    refine RG.pv rfl (PV.move (v := v9) rfl rfl) ?_
    refine RG.pv rfl (PV.mvI (.inl rfl) rfl) ?_
    refine RG.pv rfl (PV.move (v := v) rfl rfl) ?_
    refine RG.pv rfl (PV.mvI (.inl rfl) rfl) ?_
    refine RG.pv rfl (PV.idxS (v := v) rfl Is67 rfl (SlF.r h1) rfl rfl (by omega)) ?_
    refine RG.pv rfl (PV.loadE1 rfl Sc4 rfl rfl (El.r h1 (getG (by omega))) rfl) ?_
    refine RG.pv rfl (PV.mvB (.inl rfl) rfl) ?_
    refine RG.gs rfl rfl rfl (fun hp => (PV.move (v := u) rfl rfl)) ?_
    refine RG.gs rfl rfl rfl (fun hp => (PV.mvI (.inl rfl) rfl)) ?_
    refine RG.gs rfl rfl rfl (fun hp => (PV.idxS (v := u) rfl Is67 (gs_t hp) (SlF.r h2) (gs_t hp) rfl (by first | omega | (simp at hp; omega)))) ?_
    refine RG.gs rfl rfl rfl (fun hp => (PV.loadE1 rfl Sc4 (gs_t hp) rfl (El.r h2 (getG (by first | omega | (simp at hp; omega)))) rfl)) ?_
    refine RG.pv rfl (PV.pickO rfl rfl rfl (fun hq => gs_t (geqF hq))) ?_
    refine RG.pv rfl (PV.idxS (v := v9) rfl Is67 rfl SlF.o rfl rfl (by omega)) ?_
    refine RG.ot rfl (OT.storeE (F := boolT) rfl Sz4 rfl rfl rfl (Cl.c rfl) (OneC.c rfl) (by omega) ?_)
    refine RG.nil ?_
    refine WP.region ?_
    refine RG.pv rfl (PV.mvI (.inl rfl) rfl) ?_
    refine RG.pv rfl (PV.add rfl rfl rfl (by omega)) ?_
    refine RG.pv rfl (PV.mvI (.inr rfl) rfl) ?_
    refine RG.nil ?_
    exact ⟨rfl, i + 1, (zs.set i (gd xs i || gd ys i)), ⟨by omega, by simpa using hl2, set_pre he (by rw [hz]) (by omega)⟩, ⟨rfl, trivial⟩, ⟨rfl, rfl, rfl, trivial⟩, Cv.p, by omega⟩
  · have h3 := of_decide_eq_false h3
    obtain rfl := pre_eq he (by omega) (by omega)
    refine WP.exit ?_
    refine WP.seq ?_
    refine WP.region ?_
    refine RG.pv rfl (PV.move (v := v9) rfl rfl) ?_
    refine RG.pv rfl (PV.asg (v := v9) rfl rfl) ?_
    refine RG.nil ?_
    refine WP.ret ?_
    exact ⟨_, _, ResV.one rfl rfl, Cv.p, k v9⟩
theorem malf_r {v : Value} {xs : List (Sl Rect)} (h1 : Rs G L slT v xs) (hd : RsE G L rectT xs) (k : ∀ v', R v' G (osl 59 rectT v' (malfE (er xs)) :: L)) : CallT Try.prog 16 #[v] G L R := by
  refine CallT.enter (args := _) Try.func16 rfl rfl (by kernel_rfl) rfl ?_
  refine WP.seq ?_
  refine WP.region ?_
  refine RG.pv rfl (PV.asg rfl rfl) ?_
  refine RG.nil ?_
  refine WP.seq ?_
  refine WP.seq ?_
  refine WP.region ?_
  refine RG.pv rfl (PV.move (v := v) rfl rfl) ?_
  refine RG.callF (vs := [v]) rfl rfl En31 rfl (l19Layout_s (Rs.up h1) hd.up ?_)
  refine RG.pv rfl (PV.not rfl rfl) ?_
  refine RG.nil ?_
  refine WP.cond rfl (fun h2 => ?_) (fun h2 => ?_)
  · have h3 : isLay (er xs) = false := by simpa using h2
    have e : malfE (er xs) = [] := by rw [malfE, h3]; rfl
    rw [e] at k
    refine WP.seq ?_
    refine WP.region ?_
    refine RG.ot rfl (OT.bslice (F := rectT) (els := []) rfl El24 rfl (by decide) rfl (by decide) trivial fun v11 => ?_)
    refine RG.pv rfl (PV.asg (v := v11) rfl rfl) ?_
    refine RG.nil ?_
    refine WP.ret ?_
    exact ⟨_, _, ResV.one rfl rfl, Cv.p, k v11⟩
  · have hlay : isLay (er xs) = true := by simpa using h2
    have e : malfE (er xs) = canon (bits (malf (er xs)).flatten) := by rw [malfE, hlay]; rfl
    rw [e] at k
    refine WP.skip ?_
    refine WP.seq ?_
    refine WP.region ?_
    refine RG.ot rfl (OT.make (m := 6400) (F := boolT) (a0 := false) rfl El67 rfl (by decide) rfl rfl (by omega) (by omega) fun v12 => ?_)
    refine RG.pv rfl (PV.asg (v := v12) rfl rfl) ?_
    refine RG.nil ?_
    refine WP.seq ?_
    refine WP.region ?_
    refine RG.pv rfl (PV.move (v := v) rfl rfl) ?_
    refine RG.callF (vs := [v]) rfl rfl En32 rfl (l24Parts_s (Rs.up h1) hd.up hlay (fun v14 ysv14 hev14 => ?_))
    refine RG.pv rfl (PV.asg (v := v14) rfl rfl) ?_
    refine RG.nil ?_
    refine WP.seq ?_
    refine WP.seq ?_
    refine WP.region ?_
    refine RG.pv rfl (PV.mvI (.inr rfl) rfl) ?_
    refine RG.nil ?_
    refine WP.block ?_
    obtain ⟨hyl, hya⟩ := partsC_at hev14
    refine WP.loop3 [0, 4] (fun (i : Nat) (us : List Bool) (q : Value) => i ≤ ysv14.length ∧ us = bits (((partsC (er xs)).take i).filter (fun g => !isCh (er xs) g)).flatten) (fun (i : Nat) (us : List Bool) (q : Value) => [(5, vi i), (3, q)]) (fun (i : Nat) (us : List Bool) (q : Value) => osl 4 boolT q us :: osl 24 slT v14 ysv14 :: bagS 59 rectT ysv14 :: L) (fun (i : Nat) (us : List Bool) (q : Value) => ysv14.length - i) 0 (List.replicate 6400 false) v12 ⟨by omega, by rw [← bits_nil]; rfl⟩ ⟨rfl, rfl, trivial⟩ Cv.p ?_
    rintro i us q τ ⟨hi, hus⟩
    refine WP.seq ?_
    refine WP.seq ?_
    refine WP.region ?_
    refine RG.pv rfl (PV.mvI (.inl rfl) rfl) ?_
    refine RG.pv rfl (PV.move (v := v14) rfl rfl) ?_
    refine RG.pv rfl (PV.len (v := v14) rfl Try.underlying26 rfl SlF.o) ?_
    refine RG.pv rfl (PV.lss rfl rfl rfl) ?_
    refine RG.nil ?_
    refine WP.cond rfl (fun h3 => ?_) (fun h3 => ?_)
    · have h3 := of_decide_eq_true h3
      obtain ⟨hp, hpe, hg0, hgr⟩ := hya i (by omega)
      have hgl := isReg_len hgr
      have hzr : Rs G (bagS 59 rectT ysv14 :: L) rectT (gd ysv14 i).v (gd ysv14 i).xs := Rs.inBag (L := bagS 59 rectT ysv14 :: L) (L' := L) (e := 59) i (by omega)
      have hft := filter_take (fun g => !isCh (er xs) g) hp
      rw [hpe] at hft
      refine WP.skip ?_
      refine WP.seq ?_
      refine WP.block ?_
      refine WP.seq ?_
      refine WP.region ?_
      refine RG.pv rfl (PV.move (v := v) rfl rfl) ?_
      refine RG.pv rfl (PV.move (v := v14) rfl rfl) ?_
      refine RG.pv rfl (PV.mvI (.inl rfl) rfl) ?_
      refine RG.pv rfl (PV.idxS (v := v14) rfl Is26 rfl SlF.o rfl rfl (by omega)) ?_
      refine RG.pv rfl (PV.loadE1 rfl Sc24 rfl rfl (El.o (getG (by omega))) rfl) ?_
      refine RG.callF (vs := [v, _]) rfl rfl En33 rfl (l24Channel_s (Rs.up h1) hd.up (Rs.inBag (xs := ysv14) i (by omega)) hlay hg0 hgr ?_)
      refine RG.pv rfl (PV.move (v := .tuple _) rfl rfl) ?_
      refine RG.pv rfl (PV.ext rfl rfl rfl) ?_
      refine RG.pv rfl (PV.ext rfl rfl rfl) ?_
      refine RG.pv rfl (PV.mvI (.inr rfl) rfl) ?_
      refine RG.pv rfl (PV.mvI (.inr rfl) rfl) ?_
      refine RG.nil ?_
      refine WP.seq ?_
      refine WP.region ?_
      refine RG.pv rfl (PV.mvI (.inl rfl) rfl) ?_
      refine RG.pv rfl (PV.lss rfl rfl rfl) ?_
      refine RG.nil ?_
      refine WP.cond rfl (fun h4 => ?_) (fun h4 => ?_)
      · have h5 : isCh (er xs) (gd ysv14 i).xs = false := by
          have h4 := of_decide_eq_true h4
          rw [isCh, decide_eq_false_iff_not]; omega
        simp only [h5, Bool.not_false, if_true] at hft
        refine WP.region ?_
        refine RG.pv rfl (PV.move (v := q) rfl rfl) ?_
        refine RG.pv rfl (PV.move (v := v14) rfl rfl) ?_
        refine RG.pv rfl (PV.mvI (.inl rfl) rfl) ?_
        refine RG.pv rfl (PV.idxS (v := v14) rfl Is26 rfl SlF.o rfl rfl (by omega)) ?_
        refine RG.pv rfl (PV.loadE1 rfl Sc24 rfl rfl (El.o (getG (by omega))) rfl) ?_
        refine RG.callF (vs := [_]) rfl rfl En39 rfl (l03Bits_s (Rs.inBag (xs := ysv14) i (by omega)) (fun j hj => valid_get (isReg_valid hgr) hj) (fun v37 => ?_))
        refine RG.callF (vs := [q, v37]) rfl rfl En38 rfl (l19Or_s Rs.o Rs.o (by rw [hus]; exact bits_length _) (bits_length _) (fun v38 => ?_))
        refine RG.pv rfl (PV.asg (v := v38) rfl rfl) ?_
        refine RG.nil ?_
        refine WP.region ?_
        refine RG.pv rfl (PV.mvI (.inl rfl) rfl) ?_
        refine RG.pv rfl (PV.add rfl rfl rfl (by omega)) ?_
        refine RG.pv rfl (PV.mvI (.inr rfl) rfl) ?_
        refine RG.nil ?_
        exact ⟨rfl, i + 1, (zipB (fun p q => p || q) us (bits (gd ysv14 i).xs)), v38, ⟨by omega, by rw [hft, List.flatten_append, bits_app, ← hus]; simp⟩, ⟨rfl, rfl, trivial⟩, ⟨rfl, rfl, trivial⟩, Cv.p, by omega⟩
      · have h5 : isCh (er xs) (gd ysv14 i).xs = true := by
          have h4 := of_decide_eq_false h4
          rw [isCh, decide_eq_true_iff]; omega
        simp only [h5, Bool.not_true, Bool.false_eq_true, if_false, List.append_nil] at hft
        refine WP.skip ?_
        refine WP.region ?_
        refine RG.pv rfl (PV.mvI (.inl rfl) rfl) ?_
        refine RG.pv rfl (PV.add rfl rfl rfl (by omega)) ?_
        refine RG.pv rfl (PV.mvI (.inr rfl) rfl) ?_
        refine RG.nil ?_
        exact ⟨rfl, i + 1, us, q, ⟨by omega, by rw [hft]; exact hus⟩, ⟨rfl, rfl, trivial⟩, ⟨rfl, rfl, trivial⟩, Cv.p, by omega⟩
    · have h3 := of_decide_eq_false h3
      have hl : ysv14.length = (partsC (er xs)).length := by rw [← hev14, er_len]
      have hus2 := hus
      rw [List.take_of_length_le (by omega)] at hus2
      have e2 : canon (bits (malf (er xs)).flatten) = canon us := by rw [hus2]; rfl
      rw [e2] at k
      refine WP.exit ?_
      refine WP.seq ?_
      refine WP.region ?_
      refine RG.pv rfl (PV.move (v := q) rfl rfl) ?_
      refine RG.callF (vs := [q]) rfl rfl En40 rfl (l03Canon_s Rs.o (by rw [hus]; exact bits_length _) (fun v40 => ?_))
      refine RG.pv rfl (PV.asg (v := v40) rfl rfl) ?_
      refine RG.nil ?_
      refine WP.ret ?_
      exact ⟨_, _, ResV.one rfl rfl, Cv.p, k v40⟩
/-! ## the laws -/
theorem boxesE_len (l : List (List Rect)) : (boxesE l).length ≤ 6400 := by
  unfold boxesE; cases isLay l
  · exact Nat.zero_le _
  · rw [cond_true, List.length_map]; exact chans_len l
theorem malfE_len (l : List (List Rect)) : (malfE l).length ≤ 6400 := by
  unfold malfE; cases isLay l
  · exact Nat.zero_le _
  · rw [cond_true]; have := canon_len (bits (malf l).flatten); omega

theorem law_Channels {v : Value} {xs : List (Sl Rect)} (h1 : Rs G L slT v xs) (hd : RsE G L rectT xs) (k : R (.bool true) G L) : CallT Try.prog 3 #[v] G L R := by
  refine CallT.enter (args := _) Try.func3 rfl rfl (by kernel_rfl) rfl ?_
  refine WP.seq ?_
  refine WP.region ?_
  refine RG.pv rfl (PV.mvB (.inr rfl) rfl) ?_
  refine RG.nil ?_
  refine WP.seq ?_
  refine WP.region ?_
  refine RG.pv rfl (PV.mvI (.inr rfl) rfl) ?_
  refine RG.nil ?_
  refine WP.seq ?_
  refine WP.region ?_
  refine RG.pv rfl (PV.move (v := v) rfl rfl) ?_
  refine RG.pv rfl (PV.mvI (.inl rfl) rfl) ?_
  refine RG.callF (vs := [v, _]) rfl rfl En7 rfl (szRectSS_s (Rs.up h1) hd.up (by omega) (by omega) (fun r hr hr' => ?_))
  refine RG.pv rfl (PV.mvI (.inr rfl) rfl) ?_
  refine RG.nil ?_
  refine WP.seq ?_
  refine WP.seq ?_
  refine WP.region ?_
  refine RG.pv rfl (PV.mvI (.inl rfl) rfl) ?_
  refine RG.pv rfl (PV.lss rfl rfl rfl) ?_
  refine RG.nil ?_
  refine WP.cond rfl (fun h2 => ?_) (fun h2 => ?_)
  · refine WP.seq ?_
    refine WP.region ?_
    refine RG.pv rfl (PV.mvB (.inr rfl) rfl) ?_
    refine RG.nil ?_
    refine WP.ret ?_
    exact ⟨_, _, ResV.one rfl rfl, Cv.p, k⟩
  · have h2 := of_decide_eq_false h2
    have hsz : szOf xs ≤ 1048576 := by have := hr' (by omega); omega
    have hc0 : 0 ≤ costL lenS xs := costL_nonneg lenS_nn _
    have hb : xs.length ≤ 1048576 := by simp only [szOf] at hsz; omega
    have hbi : ∀ i, i < xs.length → (gd xs i).xs.length ≤ 1048576 := fun i hi => by
      have := costL_mem lenS_nn hi; simp only [lenS, szOf] at *; omega
    have hcx : costL nRS xs ≤ 4194304 := by rw [nRS_lenS]; simp only [szOf] at hsz; omega
    have hcr := boxesE_len (er xs)
    refine WP.skip ?_
    refine WP.seq ?_
    refine WP.region ?_
    refine RG.pv rfl (PV.move (v := v) rfl rfl) ?_
    refine RG.callF (vs := [v]) rfl rfl En9 rfl (toRectSS_s (Rs.up h1) hd.up hb hbi (fun v17 ysv17 hev17 => ?_))
    refine RG.callF (vs := [v17]) rfl rfl En8 rfl (channels_r Rs.o RsE.o (fun v18 => ?_))
    refine RG.pv rfl (PV.asg (v := v18) rfl rfl) ?_
    refine RG.nil ?_
    refine WP.seq ?_
    refine WP.region ?_
    refine RG.pv rfl (PV.move (v := v) rfl rfl) ?_
    refine RG.callF (vs := [v]) rfl rfl En9 rfl (toRectSS_s (Rs.up h1) hd.up hb hbi (fun v20 ysv20 hev20 => ?_))
    refine RG.pv rfl (PV.asg (v := v20) rfl rfl) ?_
    refine RG.nil ?_
    refine WP.seq ?_
    refine WP.region ?_
    refine RG.pv rfl (PV.move (v := v20) rfl rfl) ?_
    refine RG.callF (vs := [v20]) rfl rfl En10 rfl (channels_i Rs.o RsE.o (fun v22 => ?_))
    refine RG.pv rfl (PV.asg (v := v22) rfl rfl) ?_
    refine RG.nil ?_
    refine WP.seq ?_
    refine WP.seq ?_
    refine WP.region ?_
    refine RG.pv rfl (PV.move (v := v22) rfl rfl) ?_
    refine RG.pv rfl (PV.move (v := v18) rfl rfl) ?_
    refine RG.callF (vs := [v22, v18]) rfl rfl En11 rfl (eqRectS_s Rs.o Rs.o ?_)
    refine RG.pv rfl (PV.not rfl rfl) ?_
    refine RG.nil ?_
    refine WP.cond rfl (fun h3 => ?_) (fun h3 => ?_)
    · simp [*] at h3
    · refine WP.skip ?_
      refine WP.seq ?_
      refine WP.seq ?_
      refine WP.region ?_
      refine RG.pv rfl (PV.move (v := v20) rfl rfl) ?_
      refine RG.pv rfl (PV.move (v := v) rfl rfl) ?_
      refine RG.callF (vs := [v]) rfl rfl En9 rfl (toRectSS_s (Rs.up h1) hd.up hb hbi (fun v29 ysv29 hev29 => ?_))
      refine RG.callF (vs := [v20, v29]) rfl rfl En12 rfl (eqRectSS_s Rs.o RsE.o Rs.o RsE.o ?_)
      refine RG.pv rfl (PV.not rfl rfl) ?_
      refine RG.nil ?_
      refine WP.cond rfl (fun h4 => ?_) (fun h4 => ?_)
      · simp [*] at h4
      · have hm1 : costL nRS ysv20 ≤ 4194304 := by rw [costL_er hev20]; exact hcx
        have hm2 : costL nRect (boxesE (er ysv20)) ≤ 25600 := by rw [hev20, nRect_cost]; omega
        have hm3 : 0 ≤ costL nRS ysv20 := costL_nonneg nSl_nn _
        have hm4 : 0 ≤ costL nRect (boxesE (er ysv20)) := costL_nonneg nRect_nn _
        refine WP.skip ?_
        refine WP.seq ?_
        refine WP.region ?_
        refine RG.pv rfl (PV.mvI (.inr rfl) rfl) ?_
        refine RG.nil ?_
        refine WP.seq ?_
        refine WP.region ?_
        refine RG.pv rfl (PV.move (v := v20) rfl rfl) ?_
        refine RG.pv rfl (PV.mvI (.inl rfl) rfl) ?_
        refine RG.callF (vs := [v20, _]) rfl rfl En13 rfl (CallT.exBg ysv20 (CallT.exS v20 (markRectSS_s (by omega) (by omega) ?_)))
        refine RG.pv rfl (PV.mvI (.inr rfl) rfl) ?_
        refine RG.nil ?_
        refine WP.seq ?_
        refine WP.seq ?_
        refine WP.region ?_
        refine RG.pv rfl (PV.mvI (.inl rfl) rfl) ?_
        refine RG.pv rfl (PV.lss rfl rfl rfl) ?_
        refine RG.pv rfl (PV.mvB (.inl rfl) rfl) ?_
        refine RG.gs rfl rfl rfl (fun hp => (PV.move (v := v22) rfl rfl)) ?_
        refine RG.gs rfl rfl rfl (fun hp => (PV.move (v := v18) rfl rfl)) ?_
        refine RG.gsC rfl rfl rfl rfl En11 (fun hp => ⟨_, (acons (gs_t hp) (acons (gs_t hp) anil)), eqRectS_s Rs.o Rs.o ⟨rfl, rfl, rfl⟩⟩) ?_
        refine RG.gs rfl rfl rfl (fun hp => (PV.not rfl (gs_t hp))) ?_
        refine RG.pv rfl (PV.pickO rfl rfl rfl (fun hq => gs_t (geqF hq))) ?_
        refine RG.nil ?_
        refine WP.cond rfl (fun h5 => ?_) (fun h5 => ?_)
        · simp [*] at h5 <;> omega
        · skip
          refine WP.skip ?_
          refine WP.seq ?_
          refine WP.region ?_
          refine RG.pv rfl (PV.mvI (.inr rfl) rfl) ?_
          refine RG.nil ?_
          refine WP.seq ?_
          refine WP.region ?_
          refine RG.pv rfl (PV.move (v := v22) rfl rfl) ?_
          refine RG.pv rfl (PV.mvI (.inl rfl) rfl) ?_
          refine RG.callF (vs := [v22, _]) rfl rfl En14 rfl (CallT.exS v22 (markRectS_s (by omega) (by omega) ?_))
          refine RG.pv rfl (PV.mvI (.inr rfl) rfl) ?_
          refine RG.nil ?_
          refine WP.seq ?_
          refine WP.region ?_
          refine RG.pv rfl (PV.mvI (.inr rfl) rfl) ?_
          refine RG.nil ?_
          refine WP.seq ?_
          refine WP.region ?_
          refine RG.pv rfl (PV.move (v := v22) rfl rfl) ?_
          refine RG.pv rfl (PV.mvI (.inl rfl) rfl) ?_
          refine RG.callF (vs := [v22, _]) rfl rfl En15 rfl (heldRectS_s Rs.o (by omega) (by omega) ?_)
          refine RG.pv rfl (PV.mvI (.inr rfl) rfl) ?_
          refine RG.nil ?_
          refine WP.seq ?_
          refine WP.seq ?_
          refine WP.region ?_
          refine RG.pv rfl (PV.mvI (.inl rfl) rfl) ?_
          refine RG.pv rfl (PV.lss rfl rfl rfl) ?_
          refine RG.nil ?_
          refine WP.cond rfl (fun h6 => ?_) (fun h6 => ?_)
          · simp at h6; omega
          · refine WP.skip ?_
            refine WP.seq ?_
            refine WP.seq ?_
            refine WP.region ?_
            refine RG.pv rfl (PV.mvI (.inl rfl) rfl) ?_
            refine RG.pv rfl (PV.mvI (.inl rfl) rfl) ?_
            refine RG.pv rfl (PV.neq rfl rfl rfl) ?_
            refine RG.nil ?_
            refine WP.cond rfl (fun h7 => ?_) (fun h7 => ?_)
            · simp at h7
            · refine WP.skip ?_
              refine WP.seq ?_
              refine WP.region ?_
              refine RG.pv rfl (PV.move (v := v) rfl rfl) ?_
              refine RG.callF (vs := [v]) rfl rfl En9 rfl (toRectSS_s (Rs.up h1) hd.up hb hbi (fun v55 ysv55 hev55 => ?_))
              refine RG.callF (vs := [v55]) rfl rfl En10 rfl (channels_i Rs.o RsE.o (fun v56 => ?_))
              refine RG.pv rfl (PV.asg (v := v56) rfl rfl) ?_
              refine RG.nil ?_
              refine WP.seq ?_
              refine WP.seq ?_
              refine WP.region ?_
              refine RG.pv rfl (PV.move (v := v56) rfl rfl) ?_
              refine RG.pv rfl (PV.move (v := v18) rfl rfl) ?_
              refine RG.callF (vs := [v56, v18]) rfl rfl En11 rfl (eqRectS_s Rs.o Rs.o ?_)
              refine RG.pv rfl (PV.not rfl rfl) ?_
              refine RG.nil ?_
              refine WP.cond rfl (fun h8 => ?_) (fun h8 => ?_)
              · simp [*] at h8
              · skip
                refine WP.skip ?_
                refine WP.seq ?_
                refine WP.region ?_
                refine RG.pv rfl (PV.mvI (.inr rfl) rfl) ?_
                refine RG.nil ?_
                refine WP.seq ?_
                refine WP.region ?_
                refine RG.pv rfl (PV.move (v := v22) rfl rfl) ?_
                refine RG.pv rfl (PV.mvI (.inl rfl) rfl) ?_
                refine RG.callF (vs := [v22, _]) rfl rfl En15 rfl (heldRectS_s Rs.o (by omega) (by omega) ?_)
                refine RG.pv rfl (PV.mvI (.inr rfl) rfl) ?_
                refine RG.nil ?_
                refine WP.seq ?_
                refine WP.seq ?_
                refine WP.region ?_
                refine RG.pv rfl (PV.mvI (.inl rfl) rfl) ?_
                refine RG.pv rfl (PV.lss rfl rfl rfl) ?_
                refine RG.nil ?_
                refine WP.cond rfl (fun h9 => ?_) (fun h9 => ?_)
                · simp at h9; omega
                · refine WP.skip ?_
                  refine WP.seq ?_
                  refine WP.seq ?_
                  refine WP.region ?_
                  refine RG.pv rfl (PV.mvI (.inl rfl) rfl) ?_
                  refine RG.pv rfl (PV.mvI (.inl rfl) rfl) ?_
                  refine RG.pv rfl (PV.neq rfl rfl rfl) ?_
                  refine RG.nil ?_
                  refine WP.cond rfl (fun h10 => ?_) (fun h10 => ?_)
                  · simp at h10
                  · refine WP.skip ?_
                    refine WP.seq ?_
                    refine WP.region ?_
                    refine RG.pv rfl (PV.mvB (.inr rfl) rfl) ?_
                    refine RG.nil ?_
                    refine WP.ret ?_
                    exact ⟨_, _, ResV.one rfl rfl, Cv.p, k⟩
theorem law_MalformedChannels {v : Value} {xs : List (Sl Rect)} (h1 : Rs G L slT v xs) (hd : RsE G L rectT xs) (k : R (.bool true) G L) : CallT Try.prog 4 #[v] G L R := by
  refine CallT.enter (args := _) Try.func4 rfl rfl (by kernel_rfl) rfl ?_
  refine WP.seq ?_
  refine WP.region ?_
  refine RG.pv rfl (PV.mvB (.inr rfl) rfl) ?_
  refine RG.nil ?_
  refine WP.seq ?_
  refine WP.region ?_
  refine RG.pv rfl (PV.mvI (.inr rfl) rfl) ?_
  refine RG.nil ?_
  refine WP.seq ?_
  refine WP.region ?_
  refine RG.pv rfl (PV.move (v := v) rfl rfl) ?_
  refine RG.pv rfl (PV.mvI (.inl rfl) rfl) ?_
  refine RG.callF (vs := [v, _]) rfl rfl En7 rfl (szRectSS_s (Rs.up h1) hd.up (by omega) (by omega) (fun r hr hr' => ?_))
  refine RG.pv rfl (PV.mvI (.inr rfl) rfl) ?_
  refine RG.nil ?_
  refine WP.seq ?_
  refine WP.seq ?_
  refine WP.region ?_
  refine RG.pv rfl (PV.mvI (.inl rfl) rfl) ?_
  refine RG.pv rfl (PV.lss rfl rfl rfl) ?_
  refine RG.nil ?_
  refine WP.cond rfl (fun h2 => ?_) (fun h2 => ?_)
  · refine WP.seq ?_
    refine WP.region ?_
    refine RG.pv rfl (PV.mvB (.inr rfl) rfl) ?_
    refine RG.nil ?_
    refine WP.ret ?_
    exact ⟨_, _, ResV.one rfl rfl, Cv.p, k⟩
  · have h2 := of_decide_eq_false h2
    have hsz : szOf xs ≤ 1048576 := by have := hr' (by omega); omega
    have hc0 : 0 ≤ costL lenS xs := costL_nonneg lenS_nn _
    have hb : xs.length ≤ 1048576 := by simp only [szOf] at hsz; omega
    have hbi : ∀ i, i < xs.length → (gd xs i).xs.length ≤ 1048576 := fun i hi => by
      have := costL_mem lenS_nn hi; simp only [lenS, szOf] at *; omega
    have hcx : costL nRS xs ≤ 4194304 := by rw [nRS_lenS]; simp only [szOf] at hsz; omega
    have hcr := malfE_len (er xs)
    refine WP.skip ?_
    refine WP.seq ?_
    refine WP.region ?_
    refine RG.pv rfl (PV.move (v := v) rfl rfl) ?_
    refine RG.callF (vs := [v]) rfl rfl En9 rfl (toRectSS_s (Rs.up h1) hd.up hb hbi (fun v17 ysv17 hev17 => ?_))
    refine RG.callF (vs := [v17]) rfl rfl En16 rfl (malf_r Rs.o RsE.o (fun v18 => ?_))
    refine RG.pv rfl (PV.asg (v := v18) rfl rfl) ?_
    refine RG.nil ?_
    refine WP.seq ?_
    refine WP.region ?_
    refine RG.pv rfl (PV.move (v := v) rfl rfl) ?_
    refine RG.callF (vs := [v]) rfl rfl En9 rfl (toRectSS_s (Rs.up h1) hd.up hb hbi (fun v20 ysv20 hev20 => ?_))
    refine RG.pv rfl (PV.asg (v := v20) rfl rfl) ?_
    refine RG.nil ?_
    refine WP.seq ?_
    refine WP.region ?_
    refine RG.pv rfl (PV.move (v := v20) rfl rfl) ?_
    refine RG.callF (vs := [v20]) rfl rfl En17 rfl (malf_i Rs.o RsE.o (fun v22 => ?_))
    refine RG.pv rfl (PV.asg (v := v22) rfl rfl) ?_
    refine RG.nil ?_
    refine WP.seq ?_
    refine WP.seq ?_
    refine WP.region ?_
    refine RG.pv rfl (PV.move (v := v22) rfl rfl) ?_
    refine RG.pv rfl (PV.move (v := v18) rfl rfl) ?_
    refine RG.callF (vs := [v22, v18]) rfl rfl En11 rfl (eqRectS_s Rs.o Rs.o ?_)
    refine RG.pv rfl (PV.not rfl rfl) ?_
    refine RG.nil ?_
    refine WP.cond rfl (fun h3 => ?_) (fun h3 => ?_)
    · simp [*] at h3
    · refine WP.skip ?_
      refine WP.seq ?_
      refine WP.seq ?_
      refine WP.region ?_
      refine RG.pv rfl (PV.move (v := v20) rfl rfl) ?_
      refine RG.pv rfl (PV.move (v := v) rfl rfl) ?_
      refine RG.callF (vs := [v]) rfl rfl En9 rfl (toRectSS_s (Rs.up h1) hd.up hb hbi (fun v29 ysv29 hev29 => ?_))
      refine RG.callF (vs := [v20, v29]) rfl rfl En12 rfl (eqRectSS_s Rs.o RsE.o Rs.o RsE.o ?_)
      refine RG.pv rfl (PV.not rfl rfl) ?_
      refine RG.nil ?_
      refine WP.cond rfl (fun h4 => ?_) (fun h4 => ?_)
      · simp [*] at h4
      · have hm1 : costL nRS ysv20 ≤ 4194304 := by rw [costL_er hev20]; exact hcx
        have hm2 : costL nRect (malfE (er ysv20)) ≤ 25600 := by rw [hev20, nRect_cost]; omega
        have hm3 : 0 ≤ costL nRS ysv20 := costL_nonneg nSl_nn _
        have hm4 : 0 ≤ costL nRect (malfE (er ysv20)) := costL_nonneg nRect_nn _
        refine WP.skip ?_
        refine WP.seq ?_
        refine WP.region ?_
        refine RG.pv rfl (PV.mvI (.inr rfl) rfl) ?_
        refine RG.nil ?_
        refine WP.seq ?_
        refine WP.region ?_
        refine RG.pv rfl (PV.move (v := v20) rfl rfl) ?_
        refine RG.pv rfl (PV.mvI (.inl rfl) rfl) ?_
        refine RG.callF (vs := [v20, _]) rfl rfl En13 rfl (CallT.exBg ysv20 (CallT.exS v20 (markRectSS_s (by omega) (by omega) ?_)))
        refine RG.pv rfl (PV.mvI (.inr rfl) rfl) ?_
        refine RG.nil ?_
        refine WP.seq ?_
        refine WP.seq ?_
        refine WP.region ?_
        refine RG.pv rfl (PV.mvI (.inl rfl) rfl) ?_
        refine RG.pv rfl (PV.lss rfl rfl rfl) ?_
        refine RG.pv rfl (PV.mvB (.inl rfl) rfl) ?_
        refine RG.gs rfl rfl rfl (fun hp => (PV.move (v := v22) rfl rfl)) ?_
        refine RG.gs rfl rfl rfl (fun hp => (PV.move (v := v18) rfl rfl)) ?_
        refine RG.gsC rfl rfl rfl rfl En11 (fun hp => ⟨_, (acons (gs_t hp) (acons (gs_t hp) anil)), eqRectS_s Rs.o Rs.o ⟨rfl, rfl, rfl⟩⟩) ?_
        refine RG.gs rfl rfl rfl (fun hp => (PV.not rfl (gs_t hp))) ?_
        refine RG.pv rfl (PV.pickO rfl rfl rfl (fun hq => gs_t (geqF hq))) ?_
        refine RG.nil ?_
        refine WP.cond rfl (fun h5 => ?_) (fun h5 => ?_)
        · simp [*] at h5 <;> omega
        · skip
          refine WP.skip ?_
          refine WP.seq ?_
          refine WP.region ?_
          refine RG.pv rfl (PV.mvI (.inr rfl) rfl) ?_
          refine RG.nil ?_
          refine WP.seq ?_
          refine WP.region ?_
          refine RG.pv rfl (PV.move (v := v22) rfl rfl) ?_
          refine RG.pv rfl (PV.mvI (.inl rfl) rfl) ?_
          refine RG.callF (vs := [v22, _]) rfl rfl En14 rfl (CallT.exS v22 (markRectS_s (by omega) (by omega) ?_))
          refine RG.pv rfl (PV.mvI (.inr rfl) rfl) ?_
          refine RG.nil ?_
          refine WP.seq ?_
          refine WP.region ?_
          refine RG.pv rfl (PV.mvI (.inr rfl) rfl) ?_
          refine RG.nil ?_
          refine WP.seq ?_
          refine WP.region ?_
          refine RG.pv rfl (PV.move (v := v22) rfl rfl) ?_
          refine RG.pv rfl (PV.mvI (.inl rfl) rfl) ?_
          refine RG.callF (vs := [v22, _]) rfl rfl En15 rfl (heldRectS_s Rs.o (by omega) (by omega) ?_)
          refine RG.pv rfl (PV.mvI (.inr rfl) rfl) ?_
          refine RG.nil ?_
          refine WP.seq ?_
          refine WP.seq ?_
          refine WP.region ?_
          refine RG.pv rfl (PV.mvI (.inl rfl) rfl) ?_
          refine RG.pv rfl (PV.lss rfl rfl rfl) ?_
          refine RG.nil ?_
          refine WP.cond rfl (fun h6 => ?_) (fun h6 => ?_)
          · simp at h6; omega
          · refine WP.skip ?_
            refine WP.seq ?_
            refine WP.seq ?_
            refine WP.region ?_
            refine RG.pv rfl (PV.mvI (.inl rfl) rfl) ?_
            refine RG.pv rfl (PV.mvI (.inl rfl) rfl) ?_
            refine RG.pv rfl (PV.neq rfl rfl rfl) ?_
            refine RG.nil ?_
            refine WP.cond rfl (fun h7 => ?_) (fun h7 => ?_)
            · simp at h7
            · refine WP.skip ?_
              refine WP.seq ?_
              refine WP.region ?_
              refine RG.pv rfl (PV.move (v := v) rfl rfl) ?_
              refine RG.callF (vs := [v]) rfl rfl En9 rfl (toRectSS_s (Rs.up h1) hd.up hb hbi (fun v55 ysv55 hev55 => ?_))
              refine RG.callF (vs := [v55]) rfl rfl En17 rfl (malf_i Rs.o RsE.o (fun v56 => ?_))
              refine RG.pv rfl (PV.asg (v := v56) rfl rfl) ?_
              refine RG.nil ?_
              refine WP.seq ?_
              refine WP.seq ?_
              refine WP.region ?_
              refine RG.pv rfl (PV.move (v := v56) rfl rfl) ?_
              refine RG.pv rfl (PV.move (v := v18) rfl rfl) ?_
              refine RG.callF (vs := [v56, v18]) rfl rfl En11 rfl (eqRectS_s Rs.o Rs.o ?_)
              refine RG.pv rfl (PV.not rfl rfl) ?_
              refine RG.nil ?_
              refine WP.cond rfl (fun h8 => ?_) (fun h8 => ?_)
              · simp [*] at h8
              · skip
                refine WP.skip ?_
                refine WP.seq ?_
                refine WP.region ?_
                refine RG.pv rfl (PV.mvI (.inr rfl) rfl) ?_
                refine RG.nil ?_
                refine WP.seq ?_
                refine WP.region ?_
                refine RG.pv rfl (PV.move (v := v22) rfl rfl) ?_
                refine RG.pv rfl (PV.mvI (.inl rfl) rfl) ?_
                refine RG.callF (vs := [v22, _]) rfl rfl En15 rfl (heldRectS_s Rs.o (by omega) (by omega) ?_)
                refine RG.pv rfl (PV.mvI (.inr rfl) rfl) ?_
                refine RG.nil ?_
                refine WP.seq ?_
                refine WP.seq ?_
                refine WP.region ?_
                refine RG.pv rfl (PV.mvI (.inl rfl) rfl) ?_
                refine RG.pv rfl (PV.lss rfl rfl rfl) ?_
                refine RG.nil ?_
                refine WP.cond rfl (fun h9 => ?_) (fun h9 => ?_)
                · simp at h9; omega
                · refine WP.skip ?_
                  refine WP.seq ?_
                  refine WP.seq ?_
                  refine WP.region ?_
                  refine RG.pv rfl (PV.mvI (.inl rfl) rfl) ?_
                  refine RG.pv rfl (PV.mvI (.inl rfl) rfl) ?_
                  refine RG.pv rfl (PV.neq rfl rfl rfl) ?_
                  refine RG.nil ?_
                  refine WP.cond rfl (fun h10 => ?_) (fun h10 => ?_)
                  · simp at h10
                  · refine WP.skip ?_
                    refine WP.seq ?_
                    refine WP.region ?_
                    refine RG.pv rfl (PV.mvB (.inr rfl) rfl) ?_
                    refine RG.nil ?_
                    refine WP.ret ?_
                    exact ⟨_, _, ResV.one rfl rfl, Cv.p, k⟩
end Go.Proofs.Ythjaopefoiploaa
