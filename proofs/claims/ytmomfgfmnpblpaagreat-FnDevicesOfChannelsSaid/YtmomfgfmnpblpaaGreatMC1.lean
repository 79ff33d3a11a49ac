/-
  Contracts of functions and plain facts that the last text of this folder uses, part 6.
-/
import Derived.Test.YtmomfgfmnpblpaaGreatCA5
namespace Go.Proofs.YtmomfgfmnpblpaaGreat
set_option linter.unusedVariables false
set_option linter.unusedSimpArgs false
open Go
set_option maxRecDepth 20000
set_option linter.unusedSimpArgs false
variable {G : Gh} {L : List Ch} {R : Value → Gh → List Ch → Prop}
noncomputable def boxesE (l : List (List Rect)) : List Rect := bif isLay l then (chans l).map Chan.box else []
noncomputable def malfE (l : List (List Rect)) : List Rect := bif isLay l then canon (bits (malf l).flatten) else []
theorem boxes_eq (l : List (List Rect)) : (chans l).map Chan.box = ((partsC l).filter (isCh l)).map fun g => gd g 0 := by
  rw [chans, List.map_map]; rfl
theorem filter_take {α : Type} [Inhabited α] (p : α → Bool) {xs : List α} {i : Nat} (h : i < xs.length) : (xs.take (i + 1)).filter p = (xs.take i).filter p ++ (if p (gd xs i) then [gd xs i] else []) := by
  rw [List.take_add_one, getG h, List.filter_append]
  cases hp : p (gd xs i) <;> simp [hp]
theorem bits_app (ar bs : List Rect) : bits (ar ++ bs) = zipB (fun p q => p || q) (bits ar) (bits bs) := gb_ext (bits_length _) (zipB_len (bits_length _) (bits_length _)) fun y x hy hx => by
  rw [gb_zip (bits_length _) (bits_length _) hy hx, gb_bits _ hy hx, gb_bits _ hy hx, gb_bits _ hy hx, List.any_append]
theorem bits_nil : bits [] = List.replicate 6400 false := by
  simp only [bits, List.any_nil]
  exact List.map_const' .. |>.trans (by rw [List.length_range])
theorem channels_r {v : Value} {xs : List (Sl Rect)} (h1 : Rs G L slT v xs) (hd : RsE G L rectT xs) (k : ∀ v', R v' G (osl 61 rectT v' (boxesE (er xs)) :: L)) : CallT Tryz.prog 74 #[v] G L R := by
  refine CallT.enter (args := _) Tryz.func74 rfl rfl (by kernel_rfl) rfl ?_
  refine WP.seq ?_
  refine WP.region ?_
  refine RG.pv rfl (PV.asg rfl rfl) ?_
  refine RG.nil ?_
  refine WP.seq ?_
  refine WP.region ?_
  refine RG.ot rfl (OT.bslice (F := rectT) (els := []) rfl El56 rfl (by decide) rfl (by decide) trivial fun v8 => ?_)
  refine RG.pv rfl (PV.asg (v := v8) rfl rfl) ?_
  refine RG.nil ?_
  refine WP.seq ?_
  refine WP.seq ?_
  refine WP.region ?_
  refine RG.pv rfl (PV.move (v := v) rfl rfl) ?_
  refine RG.callF (vs := [v]) rfl rfl En45 rfl (l19Layout_s (Rs.up h1) hd.up ?_)
  refine RG.pv rfl (PV.not rfl rfl) ?_
  refine RG.nil ?_
  refine WP.cond rfl (fun h2 => ?_) (fun h2 => ?_)
  · have h3 : isLay (er xs) = false := by simpa using h2
    have e : boxesE (er xs) = [] := by rw [boxesE, h3]; rfl
    rw [e] at k
    refine WP.seq ?_
    refine WP.region ?_
    refine RG.pv rfl (PV.move (v := v8) rfl rfl) ?_
    refine RG.pv rfl (PV.asg (v := v8) rfl rfl) ?_
    refine RG.nil ?_
    refine WP.ret ?_
    exact ⟨_, _, ResV.one rfl rfl, Cv.p, k v8⟩
  · have hlay : isLay (er xs) = true := by simpa using h2
    have e : boxesE (er xs) = ((partsC (er xs)).filter (isCh (er xs))).map fun g => gd g 0 := by rw [boxesE, hlay, cond_true, boxes_eq]
    rw [e] at k
    refine WP.skip ?_
    refine WP.seq ?_
    refine WP.region ?_
    refine RG.pv rfl (PV.move (v := v) rfl rfl) ?_
    refine RG.callF (vs := [v]) rfl rfl En121 rfl (l24Parts_s (Rs.up h1) hd.up hlay (fun v14 ysv14 hev14 => ?_))
    refine RG.pv rfl (PV.asg (v := v14) rfl rfl) ?_
    refine RG.nil ?_
    refine WP.seq ?_
    refine WP.seq ?_
    refine WP.region ?_
    refine RG.pv rfl (PV.mvI (.inr rfl) rfl) ?_
    refine RG.nil ?_
    refine WP.block ?_
    obtain ⟨hyl, hya⟩ := partsC_at hev14
    refine WP.loop3 [0, 4] (fun (i : Nat) (us : List Rect) (q : Value) => i ≤ ysv14.length ∧ us = (((partsC (er xs)).take i).filter (isCh (er xs))).map (fun g => gd g 0)) (fun (i : Nat) (us : List Rect) (q : Value) => [(5, vi i), (3, q)]) (fun (i : Nat) (us : List Rect) (q : Value) => osl 61 rectT q us :: osl 56 slT v14 ysv14 :: bagS 61 rectT ysv14 :: L) (fun (i : Nat) (us : List Rect) (q : Value) => ysv14.length - i) 0 [] v8 ⟨by omega, rfl⟩ ⟨rfl, rfl, trivial⟩ Cv.p ?_
    rintro i us q τ ⟨hi, hus⟩
    refine WP.seq ?_
    refine WP.seq ?_
    refine WP.region ?_
    refine RG.pv rfl (PV.mvI (.inl rfl) rfl) ?_
    refine RG.pv rfl (PV.move (v := v14) rfl rfl) ?_
    refine RG.pv rfl (PV.len (v := v14) rfl Tryz.underlying29 rfl SlF.o) ?_
    refine RG.pv rfl (PV.lss rfl rfl rfl) ?_
    refine RG.nil ?_
    have hul : us.length ≤ 6400 := by
      have h4 := List.length_filter_le (isCh (er xs)) ((partsC (er xs)).take i)
      rw [List.length_take] at h4
      rw [hus, List.length_map]; omega
    refine WP.cond rfl (fun h3 => ?_) (fun h3 => ?_)
    · have h3 := of_decide_eq_true h3
      obtain ⟨hp, hpe, hg0, hgr⟩ := hya i (by omega)
      have hgl := isReg_len hgr
      have hzr : Rs G (bagS 61 rectT ysv14 :: L) rectT (gd ysv14 i).v (gd ysv14 i).xs := Rs.inBag (L := bagS 61 rectT ysv14 :: L) (L' := L) (e := 61) i (by omega)
      have hft := filter_take (isCh (er xs)) hp
      rw [hpe] at hft
      refine WP.skip ?_
      refine WP.seq ?_
      refine WP.block ?_
      refine WP.seq ?_
      refine WP.region ?_
      refine RG.pv rfl (PV.move (v := v) rfl rfl) ?_
      refine RG.pv rfl (PV.move (v := v14) rfl rfl) ?_
      refine RG.pv rfl (PV.mvI (.inl rfl) rfl) ?_
      refine RG.pv rfl (PV.idxS (v := v14) rfl Is29 rfl SlF.o rfl rfl (by omega)) ?_
      refine RG.pv rfl (PV.loadE1 rfl Sc56 rfl rfl (El.o (getG (by omega))) rfl) ?_
      refine RG.callF (vs := [v, _]) rfl rfl En122 rfl (l24Channel_s (Rs.up h1) hd.up (Rs.inBag (xs := ysv14) i (by omega)) hlay hg0 hgr ?_)
      refine RG.pv rfl (PV.move (v := .tuple _) rfl rfl) ?_
      refine RG.pv rfl (PV.ext rfl rfl rfl) ?_
      refine RG.pv rfl (PV.ext rfl rfl rfl) ?_
      refine RG.pv rfl (PV.mvI (.inr rfl) rfl) ?_
      refine RG.pv rfl (PV.mvI (.inr rfl) rfl) ?_
      refine RG.nil ?_
      refine WP.seq ?_
      refine WP.region ?_
      refine RG.pv rfl (PV.mvI (.inl rfl) rfl) ?_
      refine RG.pv rfl (PV.geq rfl rfl rfl) ?_
      refine RG.nil ?_
      refine WP.cond rfl (fun h4 => ?_) (fun h4 => ?_)
      · have h5 : isCh (er xs) (gd ysv14 i).xs = true := h4
        rw [if_pos h5] at hft
        refine WP.region ?_
        refine RG.pv rfl (PV.move (v := q) rfl rfl) ?_
        refine RG.pv rfl (PV.move (v := v14) rfl rfl) ?_
        refine RG.pv rfl (PV.mvI (.inl rfl) rfl) ?_
        refine RG.pv rfl (PV.idxS (v := v14) rfl Is29 rfl SlF.o rfl rfl (by omega)) ?_
        refine RG.pv rfl (PV.loadE1 rfl Sc56 rfl rfl (El.o (getG (by omega))) rfl) ?_
        refine RG.pv rfl (PV.idxS (j := 0) rfl Is56 rfl (SlF.r hzr) rfl (by omega) (by omega)) ?_
        refine RG.pv rfl (PV.loadE rfl Ag61 rfl rfl (El.r hzr (getG (by omega)))) ?_
        refine RG.ot rfl (OT.bslice (F := rectT) (els := [_]) rfl El56 rfl (by decide) rfl (by decide) ⟨rfl, (Cl.c rfl), trivial⟩ fun v39 => ?_)
        refine RG.ot rfl (OT.append (v := q) (u := v39) (F := rectT) rfl El56 rfl (by decide) rfl rfl Rs.o (OneL.c (fun _ => rfl)) rfl (by first | omega | (simp <;> omega)) fun v40 => ?_)
        refine RG.pv rfl (PV.asg (v := v40) rfl rfl) ?_
        refine RG.nil ?_
        refine WP.region ?_
        refine RG.pv rfl (PV.mvI (.inl rfl) rfl) ?_
        refine RG.pv rfl (PV.add rfl rfl rfl (by omega)) ?_
        refine RG.pv rfl (PV.mvI (.inr rfl) rfl) ?_
        refine RG.nil ?_
        exact ⟨rfl, i + 1, (us ++ [gd (gd ysv14 i).xs 0]), v40, ⟨by omega, by rw [hft, List.map_append, ← hus]; rfl⟩, ⟨rfl, rfl, trivial⟩, ⟨rfl, rfl, trivial⟩, Cv.p, by omega⟩
      · have h5 : ¬ isCh (er xs) (gd ysv14 i).xs = true := by rw [isCh, h4]; simp
        rw [if_neg h5, List.append_nil] at hft
        refine WP.skip ?_
        refine WP.region ?_
        refine RG.pv rfl (PV.mvI (.inl rfl) rfl) ?_
        refine RG.pv rfl (PV.add rfl rfl rfl (by omega)) ?_
        refine RG.pv rfl (PV.mvI (.inr rfl) rfl) ?_
        refine RG.nil ?_
        exact ⟨rfl, i + 1, us, q, ⟨by omega, by rw [hft]; exact hus⟩, ⟨rfl, rfl, trivial⟩, ⟨rfl, rfl, trivial⟩, Cv.p, by omega⟩
    · have h3 := of_decide_eq_false h3
      have hl : ysv14.length = (partsC (er xs)).length := by rw [← hev14, er_len]
      rw [List.take_of_length_le (by omega)] at hus
      rw [← hus] at k
      refine WP.exit ?_
      refine WP.seq ?_
      refine WP.region ?_
      refine RG.pv rfl (PV.move (v := q) rfl rfl) ?_
      refine RG.pv rfl (PV.asg (v := q) rfl rfl) ?_
      refine RG.nil ?_
      refine WP.ret ?_
      exact ⟨_, _, ResV.one rfl rfl, Cv.p, k q⟩
theorem l19Or_s {v u : Value} {xs ys : List Bool} (h1 : Rs G L boolT v xs) (h2 : Rs G L boolT u ys) (hl : xs.length = 6400) (hl' : ys.length = 6400) (k : ∀ v', R v' G (osl 4 boolT v' (zipB (fun p q => p || q) xs ys) :: L)) : CallT Tryz.prog 123 #[v, u] G L R := by
  have hzl := zipB_len (f := fun p q => p || q) hl hl'
  refine CallT.enter (args := _) Tryz.func123 rfl rfl (by kernel_rfl) rfl ?_
  refine WP.seq ?_
  refine WP.region ?_
  refine RG.pv rfl (PV.asg rfl rfl) ?_
  refine RG.nil ?_
  refine WP.seq ?_
  refine WP.region ?_
  refine RG.pv rfl (PV.move (v := v) rfl rfl) ?_
  refine RG.pv rfl (PV.len (v := v) rfl Tryz.underlying124 rfl (SlF.r h1)) ?_
  refine RG.ot rfl (OT.make (F := boolT) (a0 := false) rfl El124 rfl (by decide) rfl rfl (by omega) (by omega) fun v9 => ?_)
  refine RG.pv rfl (PV.asg (v := v9) rfl rfl) ?_
  refine RG.nil ?_
  refine WP.seq ?_
  refine WP.seq ?_
  refine WP.region ?_
  refine RG.pv rfl (PV.mvI (.inr rfl) rfl) ?_
  refine RG.nil ?_
  refine WP.block ?_
  refine WP.loop2 [0, 1, 5] (fun (i : Nat) (zs : List Bool) => i ≤ 6400 ∧ zs.length = 6400 ∧ ∀ j, j < i → zs[j]? = (zipB (fun p q => p || q) xs ys)[j]?) (fun (i : Nat) (zs : List Bool) => [(6, vi i)]) (fun (i : Nat) (zs : List Bool) => osl 4 boolT v9 zs :: L) (fun (i : Nat) (zs : List Bool) => 6400 - i) 0 (List.replicate xs.length false) ⟨by omega, by simp [hl], fun j h => by omega⟩ ⟨rfl, trivial⟩ Cv.p ?_
  rintro i zs τ ⟨hi, hl2, he⟩
  refine WP.seq ?_
  refine WP.seq ?_
  refine WP.region ?_
  refine RG.pv rfl (PV.mvI (.inl rfl) rfl) ?_
  refine RG.pv rfl (PV.move (v := v) rfl rfl) ?_
  refine RG.pv rfl (PV.len (v := v) rfl Tryz.underlying124 rfl (SlF.r h1)) ?_
  refine RG.pv rfl (PV.lss rfl rfl rfl) ?_
  refine RG.nil ?_
  refine WP.cond rfl (fun h3 => ?_) (fun h3 => ?_)
  · have h3 := of_decide_eq_true h3
    have hz := zipB_get (f := fun p q => p || q) (a := xs) (b := ys) (i := i) (by omega) (by omega)
    refine WP.skip ?_
    refine WP.seq ?_
    refine WP.block ?_
    refine WP.region ?_
    refine RG.pv rfl (PV.move (v := v9) rfl rfl) ?_
    refine RG.pv rfl (PV.mvI (.inl rfl) rfl) ?_
    refine RG.pv rfl (PV.move (v := v) rfl rfl) ?_
    refine RG.pv rfl (PV.mvI (.inl rfl) rfl) ?_
    refine RG.pv rfl (PV.idxS (v := v) rfl Is124 rfl (SlF.r h1) rfl rfl (by omega)) ?_
    refine RG.pv rfl (PV.loadE1 rfl Sc4 rfl rfl (El.r h1 (getG (by omega))) rfl) ?_
    refine RG.pv rfl (PV.mvB (.inl rfl) rfl) ?_
    refine RG.gs rfl rfl rfl (fun hp => (PV.move (v := u) rfl rfl)) ?_
    refine RG.gs rfl rfl rfl (fun hp => (PV.mvI (.inl rfl) rfl)) ?_
    refine RG.gs rfl rfl rfl (fun hp => (PV.idxS (v := u) rfl Is124 (gs_t hp) (SlF.r h2) (gs_t hp) rfl (by first | omega | (simp at hp; omega)))) ?_
    refine RG.gs rfl rfl rfl (fun hp => (PV.loadE1 rfl Sc4 (gs_t hp) rfl (El.r h2 (getG (by first | omega | (simp at hp; omega)))) rfl)) ?_
    refine RG.pv rfl (PV.pickO rfl rfl rfl (fun hq => gs_t (geqF hq))) ?_
    refine RG.pv rfl (PV.idxS (v := v9) rfl Is124 rfl SlF.o rfl rfl (by omega)) ?_
    refine RG.ot rfl (OT.storeE (F := boolT) rfl Sz4 rfl rfl rfl (Cl.c rfl) (OneC.c rfl) (by omega) ?_)
    refine RG.nil ?_
    refine WP.region ?_
    refine RG.pv rfl (PV.mvI (.inl rfl) rfl) ?_
    refine RG.pv rfl (PV.add rfl rfl rfl (by omega)) ?_
    refine RG.pv rfl (PV.mvI (.inr rfl) rfl) ?_
    refine RG.nil ?_
    exact ⟨rfl, i + 1, (zs.set i (gd xs i || gd ys i)), ⟨by omega, by simpa using hl2, set_pre he (by rw [hz]) (by omega)⟩, ⟨rfl, trivial⟩, ⟨rfl, rfl, rfl, trivial⟩, Cv.p, by omega⟩
  · have h3 := of_decide_eq_false h3
    obtain rfl := pre_eq he (by omega) (by omega)
    refine WP.exit ?_
    refine WP.seq ?_
    refine WP.region ?_
    refine RG.pv rfl (PV.move (v := v9) rfl rfl) ?_
    refine RG.pv rfl (PV.asg (v := v9) rfl rfl) ?_
    refine RG.nil ?_
    refine WP.ret ?_
    exact ⟨_, _, ResV.one rfl rfl, Cv.p, k v9⟩
theorem malf_r {v : Value} {xs : List (Sl Rect)} (h1 : Rs G L slT v xs) (hd : RsE G L rectT xs) (k : ∀ v', R v' G (osl 61 rectT v' (malfE (er xs)) :: L)) : CallT Tryz.prog 73 #[v] G L R := by
  refine CallT.enter (args := _) Tryz.func73 rfl rfl (by kernel_rfl) rfl ?_
  refine WP.seq ?_
  refine WP.region ?_
  refine RG.pv rfl (PV.asg rfl rfl) ?_
  refine RG.nil ?_
  refine WP.seq ?_
  refine WP.seq ?_
  refine WP.region ?_
  refine RG.pv rfl (PV.move (v := v) rfl rfl) ?_
  refine RG.callF (vs := [v]) rfl rfl En45 rfl (l19Layout_s (Rs.up h1) hd.up ?_)
  refine RG.pv rfl (PV.not rfl rfl) ?_
  refine RG.nil ?_
  refine WP.cond rfl (fun h2 => ?_) (fun h2 => ?_)
  · have h3 : isLay (er xs) = false := by simpa using h2
    have e : malfE (er xs) = [] := by rw [malfE, h3]; rfl
    rw [e] at k
    refine WP.seq ?_
    refine WP.region ?_
    refine RG.ot rfl (OT.bslice (F := rectT) (els := []) rfl El56 rfl (by decide) rfl (by decide) trivial fun v11 => ?_)
    refine RG.pv rfl (PV.asg (v := v11) rfl rfl) ?_
    refine RG.nil ?_
    refine WP.ret ?_
    exact ⟨_, _, ResV.one rfl rfl, Cv.p, k v11⟩
  · have hlay : isLay (er xs) = true := by simpa using h2
    have e : malfE (er xs) = canon (bits (malf (er xs)).flatten) := by rw [malfE, hlay]; rfl
    rw [e] at k
    refine WP.skip ?_
    refine WP.seq ?_
    refine WP.region ?_
    refine RG.ot rfl (OT.make (m := 6400) (F := boolT) (a0 := false) rfl El124 rfl (by decide) rfl rfl (by omega) (by omega) fun v12 => ?_)
    refine RG.pv rfl (PV.asg (v := v12) rfl rfl) ?_
    refine RG.nil ?_
    refine WP.seq ?_
    refine WP.region ?_
    refine RG.pv rfl (PV.move (v := v) rfl rfl) ?_
    refine RG.callF (vs := [v]) rfl rfl En121 rfl (l24Parts_s (Rs.up h1) hd.up hlay (fun v14 ysv14 hev14 => ?_))
    refine RG.pv rfl (PV.asg (v := v14) rfl rfl) ?_
    refine RG.nil ?_
    refine WP.seq ?_
    refine WP.seq ?_
    refine WP.region ?_
    refine RG.pv rfl (PV.mvI (.inr rfl) rfl) ?_
    refine RG.nil ?_
    refine WP.block ?_
    obtain ⟨hyl, hya⟩ := partsC_at hev14
    refine WP.loop3 [0, 4] (fun (i : Nat) (us : List Bool) (q : Value) => i ≤ ysv14.length ∧ us = bits (((partsC (er xs)).take i).filter (fun g => !isCh (er xs) g)).flatten) (fun (i : Nat) (us : List Bool) (q : Value) => [(5, vi i), (3, q)]) (fun (i : Nat) (us : List Bool) (q : Value) => osl 4 boolT q us :: osl 56 slT v14 ysv14 :: bagS 61 rectT ysv14 :: L) (fun (i : Nat) (us : List Bool) (q : Value) => ysv14.length - i) 0 (List.replicate 6400 false) v12 ⟨by omega, by rw [← bits_nil]; rfl⟩ ⟨rfl, rfl, trivial⟩ Cv.p ?_
    rintro i us q τ ⟨hi, hus⟩
    refine WP.seq ?_
    refine WP.seq ?_
    refine WP.region ?_
    refine RG.pv rfl (PV.mvI (.inl rfl) rfl) ?_
    refine RG.pv rfl (PV.move (v := v14) rfl rfl) ?_
    refine RG.pv rfl (PV.len (v := v14) rfl Tryz.underlying29 rfl SlF.o) ?_
    refine RG.pv rfl (PV.lss rfl rfl rfl) ?_
    refine RG.nil ?_
    refine WP.cond rfl (fun h3 => ?_) (fun h3 => ?_)
    · have h3 := of_decide_eq_true h3
      obtain ⟨hp, hpe, hg0, hgr⟩ := hya i (by omega)
      have hgl := isReg_len hgr
      have hzr : Rs G (bagS 61 rectT ysv14 :: L) rectT (gd ysv14 i).v (gd ysv14 i).xs := Rs.inBag (L := bagS 61 rectT ysv14 :: L) (L' := L) (e := 61) i (by omega)
      have hft := filter_take (fun g => !isCh (er xs) g) hp
      rw [hpe] at hft
      refine WP.skip ?_
      refine WP.seq ?_
      refine WP.block ?_
      refine WP.seq ?_
      refine WP.region ?_
      refine RG.pv rfl (PV.move (v := v) rfl rfl) ?_
      refine RG.pv rfl (PV.move (v := v14) rfl rfl) ?_
      refine RG.pv rfl (PV.mvI (.inl rfl) rfl) ?_
      refine RG.pv rfl (PV.idxS (v := v14) rfl Is29 rfl SlF.o rfl rfl (by omega)) ?_
      refine RG.pv rfl (PV.loadE1 rfl Sc56 rfl rfl (El.o (getG (by omega))) rfl) ?_
      refine RG.callF (vs := [v, _]) rfl rfl En122 rfl (l24Channel_s (Rs.up h1) hd.up (Rs.inBag (xs := ysv14) i (by omega)) hlay hg0 hgr ?_)
      refine RG.pv rfl (PV.move (v := .tuple _) rfl rfl) ?_
      refine RG.pv rfl (PV.ext rfl rfl rfl) ?_
      refine RG.pv rfl (PV.ext rfl rfl rfl) ?_
      refine RG.pv rfl (PV.mvI (.inr rfl) rfl) ?_
      refine RG.pv rfl (PV.mvI (.inr rfl) rfl) ?_
      refine RG.nil ?_
      refine WP.seq ?_
      refine WP.region ?_
      refine RG.pv rfl (PV.mvI (.inl rfl) rfl) ?_
      refine RG.pv rfl (PV.lss rfl rfl rfl) ?_
      refine RG.nil ?_
      refine WP.cond rfl (fun h4 => ?_) (fun h4 => ?_)
      · have h5 : isCh (er xs) (gd ysv14 i).xs = false := by
          have h4 := of_decide_eq_true h4
          rw [isCh, decide_eq_false_iff_not]; omega
        simp only [h5, Bool.not_false, if_true] at hft
        refine WP.region ?_
        refine RG.pv rfl (PV.move (v := q) rfl rfl) ?_
        refine RG.pv rfl (PV.move (v := v14) rfl rfl) ?_
        refine RG.pv rfl (PV.mvI (.inl rfl) rfl) ?_
        refine RG.pv rfl (PV.idxS (v := v14) rfl Is29 rfl SlF.o rfl rfl (by omega)) ?_
        refine RG.pv rfl (PV.loadE1 rfl Sc56 rfl rfl (El.o (getG (by omega))) rfl) ?_
        refine RG.callF (vs := [_]) rfl rfl En86 rfl (l03Bits_s (Rs.inBag (xs := ysv14) i (by omega)) (fun j hj => valid_get (isReg_valid hgr) hj) (fun v37 => ?_))
        refine RG.callF (vs := [q, v37]) rfl rfl En123 rfl (l19Or_s Rs.o Rs.o (by rw [hus]; exact bits_length _) (bits_length _) (fun v38 => ?_))
        refine RG.pv rfl (PV.asg (v := v38) rfl rfl) ?_
        refine RG.nil ?_
        refine WP.region ?_
        refine RG.pv rfl (PV.mvI (.inl rfl) rfl) ?_
        refine RG.pv rfl (PV.add rfl rfl rfl (by omega)) ?_
        refine RG.pv rfl (PV.mvI (.inr rfl) rfl) ?_
        refine RG.nil ?_
        exact ⟨rfl, i + 1, (zipB (fun p q => p || q) us (bits (gd ysv14 i).xs)), v38, ⟨by omega, by rw [hft, List.flatten_append, bits_app, ← hus]; simp⟩, ⟨rfl, rfl, trivial⟩, ⟨rfl, rfl, trivial⟩, Cv.p, by omega⟩
      · have h5 : isCh (er xs) (gd ysv14 i).xs = true := by
          have h4 := of_decide_eq_false h4
          rw [isCh, decide_eq_true_iff]; omega
        simp only [h5, Bool.not_true, Bool.false_eq_true, if_false, List.append_nil] at hft
        refine WP.skip ?_
        refine WP.region ?_
        refine RG.pv rfl (PV.mvI (.inl rfl) rfl) ?_
        refine RG.pv rfl (PV.add rfl rfl rfl (by omega)) ?_
        refine RG.pv rfl (PV.mvI (.inr rfl) rfl) ?_
        refine RG.nil ?_
        exact ⟨rfl, i + 1, us, q, ⟨by omega, by rw [hft]; exact hus⟩, ⟨rfl, rfl, trivial⟩, ⟨rfl, rfl, trivial⟩, Cv.p, by omega⟩
    · have h3 := of_decide_eq_false h3
      have hl : ysv14.length = (partsC (er xs)).length := by rw [← hev14, er_len]
      have hus2 := hus
      rw [List.take_of_length_le (by omega)] at hus2
      have e2 : canon (bits (malf (er xs)).flatten) = canon us := by rw [hus2]; rfl
      rw [e2] at k
      refine WP.exit ?_
      refine WP.seq ?_
      refine WP.region ?_
      refine RG.pv rfl (PV.move (v := q) rfl rfl) ?_
      refine RG.callF (vs := [q]) rfl rfl En108 rfl (l03Canon_s Rs.o (by rw [hus]; exact bits_length _) (fun v40 => ?_))
      refine RG.pv rfl (PV.asg (v := v40) rfl rfl) ?_
      refine RG.nil ?_
      refine WP.ret ?_
      exact ⟨_, _, ResV.one rfl rfl, Cv.p, k v40⟩
theorem boxesE_len (l : List (List Rect)) : (boxesE l).length ≤ 6400 := by
  unfold boxesE; cases isLay l
  · exact Nat.zero_le _
  · rw [cond_true, List.length_map]; exact chans_len l
theorem malfE_len (l : List (List Rect)) : (malfE l).length ≤ 6400 := by
  unfold malfE; cases isLay l
  · exact Nat.zero_le _
  · rw [cond_true]; have := canon_len (bits (malf l).flatten); omega
end Go.Proofs.YtmomfgfmnpblpaaGreat
namespace Go.Proofs.YtmomfgfmnpblpaaGreat
set_option linter.unusedVariables false
set_option linter.unusedSimpArgs false
open Go
set_option maxRecDepth 20000
set_option linter.unusedSimpArgs false
variable {G : Gh} {L : List Ch} {R : Value → Gh → List Ch → Prop}
/-- the source in block b over the code cv -/
def src (b : Nat) (cv : Value) : Ch := fun h => ∃ p : Int × Int, (0 ≤ p.1 ∧ 0 ≤ p.2 ∧ p.2 < 2147483647) ∧ blk b 150 [cv, vi p.1, vi p.2] h
theorem Sep.ex {A : Type} {p : A → Prop} {c : A → Ch} {L : List Ch} {h : Hp} (s : Sep ((fun h => ∃ a, p a ∧ c a h) :: L) h) : ∃ a, p a ∧ Sep (c a :: L) h := by
  obtain ⟨h1, h2, d, l1, l2, ⟨a, ha, hc⟩, s⟩ := s
  exact ⟨a, ha, h1, h2, d, l1, l2, hc, s⟩
theorem CallT.exi {A : Type} {P : Program} {f : FuncId} {args : Array Value} {p : A → Prop} {c : A → Ch} (h : ∀ a, p a → CallT P f args G (c a :: L) R) : CallT P f args G ((fun h => ∃ a, p a ∧ c a h) :: L) R :=
  CallT.of fun w ⟨hp, s, rest⟩ => by
    obtain ⟨a, ha, s⟩ := s.ex
    exact (h a ha).run ⟨hp, s, rest⟩
theorem WP.exi {A : Type} {P : Program} {n : Nat} {c0 : Code} {Q : Post} {σ : Nat → Value} {p : A → Prop} {c : A → Ch} (h : ∀ a, p a → WP P n c0 Q σ G (c a :: L)) : WP P n c0 Q σ G ((fun h => ∃ a, p a ∧ c a h) :: L) :=
  WP.of fun hk x w hx ⟨hp, s, rest⟩ => by
    obtain ⟨a, ha, s⟩ := s.ex
    exact (h a ha).run hk hx ⟨hp, s, rest⟩
theorem Cv.src {b : Nat} {cv : Value} {x y : Int} {L : List Ch} (h : 0 ≤ x ∧ 0 ≤ y ∧ y < 2147483647) : Cv (blk b 150 [cv, vi x, vi y] :: L) (src b cv :: L) := Cv.imp fun hp hc => ⟨(x, y), h, hc⟩
theorem next_s {b : Nat} {n : Int} {cv : Value} {bs : List UInt8} (hcode : SL G byteT cv bs) (hn : n ≤ 4611686018427387904) (k : ∀ r, 0 ≤ r ∧ (r < n ∨ r = 0) → R (vi r) G (src b cv :: L)) : CallT Tryz.prog 106 #[.pointer (some ⟨b, 0, none⟩), vi n] G (src b cv :: L) R := by
  refine CallT.exi fun ⟨x, y⟩ ⟨hx, hy0, hy1⟩ => ?_
  have hbl := hcode.bound
  refine CallT.enter (args := _) Tryz.func106 rfl rfl (by kernel_rfl) rfl ?_
  refine WP.seq ?_
  refine WP.region ?_
  refine RG.pv rfl (PV.mvI (.inr rfl) rfl) ?_
  refine RG.nil ?_
  refine WP.seq ?_
  refine WP.seq ?_
  refine WP.region ?_
  refine RG.pv rfl (PV.mvI (.inl rfl) rfl) ?_
  refine RG.pv rfl (PV.leq rfl rfl rfl) ?_
  refine RG.nil ?_
  refine WP.cond rfl (fun h1 => ?_) (fun h1 => ?_)
  · refine WP.seq ?_
    refine WP.region ?_
    refine RG.pv rfl (PV.mvI (.inr rfl) rfl) ?_
    refine RG.nil ?_
    refine WP.ret ?_
    exact ⟨_, _, ResV.one rfl rfl, (Cv.src ⟨hx, hy0, hy1⟩), k _ ⟨by omega, .inr rfl⟩⟩
  · have h1 := of_decide_eq_false h1
    refine WP.skip ?_
    refine WP.seq ?_
    refine WP.seq ?_
    refine WP.regionQ (by kernel_rfl) (by kernel_rfl) ?_
    refine RQ.pv rfl (PV.mvP (.inl rfl) rfl) ?_
    refine RQ.pv rfl (PV.nilc rfl rfl) ?_
    refine RQ.pv rfl (PV.field rfl Fo150_1 rfl) ?_
    refine RQ.pv rfl (PV.load1 rfl Sc3 rfl (Rd.blk rfl)) ?_
    refine RQ.pv rfl (PV.mvP (.inl rfl) rfl) ?_
    refine RQ.pv rfl (PV.nilc rfl rfl) ?_
    refine RQ.pv rfl (PV.field rfl Fo150_0 rfl) ?_
    refine RQ.pv rfl (PV.load1 rfl Sc40 rfl (Rd.blk rfl)) ?_
    refine RQ.pv rfl (PV.len rfl Tryz.underlying40 rfl (SlF.r (Rs.g (L := []) hcode))) ?_
    refine RQ.pv rfl (PV.lss rfl rfl rfl) ?_
    refine RQ.nil ?_
    refine WP.cond rfl (fun h2 => ?_) (fun h2 => ?_)
    · have h2 := of_decide_eq_true h2
      have hc := (gd bs x.toNat).toNat_lt
      refine WP.seq ?_
      refine WP.regionQ (by kernel_rfl) (by kernel_rfl) ?_
      refine RQ.pv rfl (PV.mvP (.inl rfl) rfl) ?_
      refine RQ.pv rfl (PV.nilc rfl rfl) ?_
      refine RQ.pv rfl (PV.field rfl Fo150_0 rfl) ?_
      refine RQ.pv rfl (PV.load1 rfl Sc40 rfl (Rd.blk rfl)) ?_
      refine RQ.pv rfl (PV.mvP (.inl rfl) rfl) ?_
      refine RQ.pv rfl (PV.nilc rfl rfl) ?_
      refine RQ.pv rfl (PV.field rfl Fo150_1 rfl) ?_
      refine RQ.pv rfl (PV.load1 rfl Sc3 rfl (Rd.blk rfl)) ?_
      refine RQ.pv rfl (PV.idxS (j := x.toNat) rfl Is40 rfl (SlF.r (Rs.g (L := []) hcode)) rfl (by omega) (by omega)) ?_
      refine RQ.pv rfl (PV.loadE1 rfl Sc5 rfl rfl (El.r (Rs.g (L := []) hcode) (getG (by omega))) rfl) ?_
      refine RQ.pv rfl (PV.conv rfl ⟨_, Tryz.underlying5⟩ Tryz.underlying2 rfl (u8i _)) ?_
      refine RQ.pv rfl (PV.mvI (.inr rfl) rfl) ?_
      refine RQ.nil ?_
      refine WP.seq ?_
      refine WP.region ?_
      refine RG.pv rfl (PV.mvP (.inl rfl) rfl) ?_
      refine RG.pv rfl (PV.nilc rfl rfl) ?_
      refine RG.pv rfl (PV.field rfl Fo150_1 rfl) ?_
      refine RG.pv rfl (PV.load1 rfl Sc3 rfl (Rd.blk rfl)) ?_
      refine RG.pv rfl (PV.add rfl rfl rfl (by first | omega | exact u8add (by omega))) ?_
      refine RG.pv rfl (PV.nilc rfl rfl) ?_
      refine RG.pv rfl (PV.field rfl Fo150_1 rfl) ?_
      refine RG.ot rfl (OT.storeB (vs := [vi _]) (cs' := [_, _, _]) rfl Sz3 rfl rfl (Cl.c rfl) rfl (OneC.c rfl) rfl rfl ?_)
      refine RG.nil ?_
      refine WP.seq ?_
      refine WP.seq ?_
      refine WP.region ?_
      refine RG.pv rfl (PV.mvI (.inl rfl) rfl) ?_
      refine RG.pv rfl (PV.gtr rfl rfl rfl) ?_
      refine RG.nil ?_
      refine WP.cond rfl (fun h3 => ?_) (fun h3 => ?_)
      · refine WP.seq ?_
        refine WP.region ?_
        refine RG.pv rfl (PV.mvP (.inl rfl) rfl) ?_
        refine RG.pv rfl (PV.mvP (.inl rfl) rfl) ?_
        refine RG.pv rfl (PV.nilc rfl rfl) ?_
        refine RG.pv rfl (PV.field rfl Fo150_2 rfl) ?_
        refine RG.pv rfl (PV.load1 rfl Sc2 rfl (Rd.blk rfl)) ?_
        refine RG.pv rfl (PV.mul rfl rfl rfl (by omega)) ?_
        refine RG.pv rfl (PV.mvI (.inl rfl) rfl) ?_
        refine RG.pv rfl (PV.add rfl rfl rfl (by first | omega | exact u8add (by omega))) ?_
        refine RG.pv rfl (PV.add rfl rfl rfl (by first | omega | exact u8add (by omega))) ?_
        refine RG.pv rfl (PV.rem rfl rfl rfl (by omega) (by omega) (by omega)) ?_
        refine RG.pv rfl (PV.nilc rfl rfl) ?_
        refine RG.pv rfl (PV.field rfl Fo150_2 rfl) ?_
        refine RG.ot rfl (OT.storeB (vs := [vi _]) (cs' := [_, _, _]) rfl Sz2 rfl rfl (Cl.c rfl) rfl (OneC.c rfl) rfl rfl ?_)
        refine RG.nil ?_
        refine WP.seq ?_
        refine WP.region ?_
        refine RG.pv rfl (PV.mvP (.inl rfl) rfl) ?_
        refine RG.pv rfl (PV.nilc rfl rfl) ?_
        refine RG.pv rfl (PV.field rfl Fo150_2 rfl) ?_
        refine RG.pv rfl (PV.load1 rfl Sc2 rfl (Rd.blk rfl)) ?_
        refine RG.pv rfl (PV.mvI (.inl rfl) rfl) ?_
        refine RG.pv rfl (PV.rem rfl rfl rfl (by omega) (by omega) (by omega)) ?_
        refine RG.pv rfl (PV.mvI (.inr rfl) rfl) ?_
        refine RG.nil ?_
        refine WP.ret ?_
        exact ⟨_, _, ResV.one rfl rfl, (Cv.src ⟨by omega, by omega, by omega⟩), k _ ⟨Int.emod_nonneg _ (by omega), .inl (Int.emod_lt_of_pos _ (by omega))⟩⟩
      · refine WP.skip ?_
        refine WP.seq ?_
        refine WP.region ?_
        refine RG.pv rfl (PV.mvI (.inl rfl) rfl) ?_
        refine RG.pv rfl (PV.mvI (.inl rfl) rfl) ?_
        refine RG.pv rfl (PV.rem rfl rfl rfl (by omega) (by omega) (by omega)) ?_
        refine RG.pv rfl (PV.mvI (.inr rfl) rfl) ?_
        refine RG.nil ?_
        refine WP.ret ?_
        exact ⟨_, _, ResV.one rfl rfl, (Cv.src ⟨by omega, by omega, by omega⟩), k _ ⟨Int.emod_nonneg _ (by omega), .inl (Int.emod_lt_of_pos _ (by omega))⟩⟩
    · refine WP.skip ?_
      refine WP.seq ?_
      refine WP.region ?_
      refine RG.pv rfl (PV.mvP (.inl rfl) rfl) ?_
      refine RG.pv rfl (PV.mvP (.inl rfl) rfl) ?_
      refine RG.pv rfl (PV.nilc rfl rfl) ?_
      refine RG.pv rfl (PV.field rfl Fo150_2 rfl) ?_
      refine RG.pv rfl (PV.load1 rfl Sc2 rfl (Rd.blk rfl)) ?_
      refine RG.pv rfl (PV.mul rfl rfl rfl (by omega)) ?_
      refine RG.pv rfl (PV.add rfl rfl rfl (by omega)) ?_
      refine RG.pv rfl (PV.rem rfl rfl rfl (by omega) (by omega) (by omega)) ?_
      refine RG.pv rfl (PV.nilc rfl rfl) ?_
      refine RG.pv rfl (PV.field rfl Fo150_2 rfl) ?_
      refine RG.ot rfl (OT.storeB (vs := [vi _]) (cs' := [_, _, _]) rfl Sz2 rfl rfl (Cl.c rfl) rfl (OneC.c rfl) rfl rfl ?_)
      refine RG.nil ?_
      refine WP.seq ?_
      refine WP.region ?_
      refine RG.pv rfl (PV.mvP (.inl rfl) rfl) ?_
      refine RG.pv rfl (PV.nilc rfl rfl) ?_
      refine RG.pv rfl (PV.field rfl Fo150_2 rfl) ?_
      refine RG.pv rfl (PV.load1 rfl Sc2 rfl (Rd.blk rfl)) ?_
      refine RG.pv rfl (PV.quo rfl rfl rfl (by omega) (by omega) (by omega)) ?_
      refine RG.pv rfl (PV.mvI (.inl rfl) rfl) ?_
      refine RG.pv rfl (PV.rem rfl rfl rfl (by omega) (by omega) (by omega)) ?_
      refine RG.pv rfl (PV.mvI (.inr rfl) rfl) ?_
      refine RG.nil ?_
      refine WP.ret ?_
      exact ⟨_, _, ResV.one rfl rfl, (Cv.src ⟨by omega, by omega, by omega⟩), k _ ⟨Int.emod_nonneg _ (by omega), .inl (Int.emod_lt_of_pos _ (by omega))⟩⟩
theorem from_s {cv : Value} {bs : List UInt8} (hcode : SL G byteT cv bs) (k : ∀ b, R (.pointer (some ⟨b, 0, none⟩)) G (src b cv :: L)) : CallT Tryz.prog 61 #[cv] G L R := by
  have hbl := hcode.bound
  refine CallT.enter (args := _) Tryz.func61 rfl rfl (by kernel_rfl) rfl ?_
  refine WP.seq ?_
  refine WP.region ?_
  refine RG.pv rfl (PV.asg rfl rfl) ?_
  refine RG.nil ?_
  refine WP.seq ?_
  refine WP.region ?_
  refine RG.pv rfl (PV.move (v := cv) rfl rfl) ?_
  refine RG.pv rfl (PV.build (vs := [(0, [cv]), (2, [vi _])]) (out := [_, _, _]) rfl Zr150 Pl150 ⟨rfl, (Cl.s (SlF.r (Rs.g (L := []) hcode))), ⟨rfl, (Cl.c rfl), trivial⟩⟩ rfl) ?_
  refine RG.ot rfl (OT.box (cs := [cv, vi 0, vi 12345]) rfl rfl rfl fun b7 => ?_)
  refine RG.pv rfl (PV.mvP (.inr rfl) rfl) ?_
  refine RG.nil ?_
  refine WP.seq ?_
  refine WP.seq ?_
  refine WP.region ?_
  refine RG.pv rfl (PV.mvI (.inr rfl) rfl) ?_
  refine RG.nil ?_
  refine WP.block ?_
  refine WP.loop2 [0, 3] (fun (i : Nat) (y : Int) => i ≤ 64 ∧ 0 ≤ y ∧ y < 2147483647) (fun (i : Nat) (y : Int) => [(4, vi i)]) (fun (i : Nat) (y : Int) => blk b7 150 [cv, vi 0, vi y] :: L) (fun (i : Nat) (y : Int) => 64 - i) 0 12345 ⟨by omega, by omega, by omega⟩ ⟨rfl, trivial⟩ Cv.p ?_
  rintro i y τ ⟨hi, hy0, hy1⟩
  refine WP.seq ?_
  refine WP.seq ?_
  refine WP.region ?_
  refine RG.pv rfl (PV.mvI (.inl rfl) rfl) ?_
  refine RG.pv rfl (PV.move (v := cv) rfl rfl) ?_
  refine RG.pv rfl (PV.len (v := cv) rfl Tryz.underlying40 rfl (SlF.r (Rs.g (L := []) hcode))) ?_
  refine RG.pv rfl (PV.lss rfl rfl rfl) ?_
  refine RG.pv rfl (PV.mvB (.inl rfl) rfl) ?_
  refine RG.gs rfl rfl rfl (fun hp => (PV.mvI (.inl rfl) rfl)) ?_
  refine RG.gs rfl rfl rfl (fun hp => (PV.lss rfl (gs_t hp) rfl)) ?_
  refine RG.pv rfl (PV.pickA rfl rfl (fun hq => gs_t (geqT hq)) rfl) ?_
  refine RG.nil ?_
  refine WP.cond rfl (fun h2 => ?_) (fun h2 => ?_)
  · simp only [Bool.and_eq_true, decide_eq_true_eq] at h2
    have hc := (gd bs i).toNat_lt
    refine WP.skip ?_
    refine WP.seq ?_
    refine WP.block ?_
    refine WP.regionHD [.b b7] (.q 0 (.q 1 (.q 2 (.q 3 (.q 6 (.q 7 (.q 8 (.q 9 (.q 10 (.l 4 (.q 5 (.q 11 (.q 12 (.q 13 (.q 14 (.l 15 Sch.nil)))))))))))))))) (by kernel_rfl) (by kernel_rfl) (by kernel_rfl) rfl ?_
    refine RH.pv rfl (fun _ _ _ _ h => h) (Gh.le_refl _) PickC.pick rfl (PV.mvP (.inl rfl) rfl) ?_
    refine RH.pv rfl (fun _ _ _ _ h => h) (Gh.le_refl _) PickC.pick rfl (PV.mvP (.inl rfl) rfl) ?_
    refine RH.pv rfl (fun _ _ _ _ h => h) (Gh.le_refl _) PickC.pick rfl (PV.nilc rfl rfl) ?_
    refine RH.pv rfl (fun _ _ _ _ h => h) (Gh.le_refl _) PickC.pick rfl (PV.field rfl Fo150_2 rfl) ?_
    refine RH.pv rfl (fun _ _ _ _ h => h) (Gh.le_refl _) PickC.pick rfl (PV.move (v := cv) rfl rfl) ?_
    refine RH.pv rfl (fun _ _ _ _ h => h) (Gh.le_refl _) PickC.pick rfl (PV.mvI (.inl rfl) rfl) ?_
    refine RH.pv rfl (fun _ _ _ _ h => h) (Gh.le_refl _) PickC.pick rfl (PV.idxS (v := cv) rfl Is40 rfl (SlF.r (Rs.g (L := []) hcode)) rfl rfl (by omega)) ?_
    refine RH.pv rfl (fun _ _ _ _ h => h) (Gh.le_refl _) PickC.pick rfl (PV.loadE1 rfl Sc5 rfl rfl (El.r (Rs.g (L := []) hcode) (getG (by omega))) rfl) ?_
    refine RH.pv rfl (fun _ _ _ _ h => h) (Gh.le_refl _) PickC.pick rfl (PV.conv rfl ⟨_, Tryz.underlying5⟩ Tryz.underlying2 rfl (u8i _)) ?_
    refine RH.ot rfl rfl (OT.pv (PV.load1 rfl Sc2 rfl (Rd.blk rfl)) ⟨Gh.le_refl _, PickC.pick, ?_⟩)
    refine RH.pv rfl (fun _ _ _ _ h => h) (Gh.le_refl _) PickC.pick rfl (PV.mul rfl rfl rfl (by omega)) ?_
    refine RH.pv rfl (fun _ _ _ _ h => h) (Gh.le_refl _) PickC.pick rfl (PV.add rfl rfl rfl (by first | omega | exact u8add (by omega))) ?_
    refine RH.pv rfl (fun _ _ _ _ h => h) (Gh.le_refl _) PickC.pick rfl (PV.rem rfl rfl rfl (by omega) (by omega) (by omega)) ?_
    refine RH.pv rfl (fun _ _ _ _ h => h) (Gh.le_refl _) PickC.pick rfl (PV.nilc rfl rfl) ?_
    refine RH.pv rfl (fun _ _ _ _ h => h) (Gh.le_refl _) PickC.pick rfl (PV.field rfl Fo150_2 rfl) ?_
    refine RH.ot rfl rfl (OT.storeB (vs := [vi _]) (cs' := [_, _, _]) rfl Sz2 rfl rfl (Cl.c rfl) rfl (OneC.c rfl) rfl rfl ⟨Gh.le_refl _, PickC.pick, ?_⟩)
    refine RH.nil ?_
    refine WP.region ?_
    refine RG.pv rfl (PV.mvI (.inl rfl) rfl) ?_
    refine RG.pv rfl (PV.add rfl rfl rfl (by first | omega | exact u8add (by omega))) ?_
    refine RG.pv rfl (PV.mvI (.inr rfl) rfl) ?_
    refine RG.nil ?_
    exact ⟨rfl, i + 1, ((y * 31 + ((gd bs i).toNat : Int)) % 2147483647), ⟨by omega, by omega, by omega⟩, ⟨rfl, trivial⟩, ⟨rfl, rfl, trivial⟩, Cv.p, by omega⟩
  · refine WP.exit ?_
    refine WP.seq ?_
    refine WP.region ?_
    refine RG.pv rfl (PV.mvP (.inl rfl) rfl) ?_
    refine RG.pv rfl (PV.mvP (.inr rfl) rfl) ?_
    refine RG.nil ?_
    refine WP.ret ?_
    exact ⟨_, _, ResV.one rfl rfl, (Cv.src ⟨by omega, hy0, hy1⟩), k b7⟩
end Go.Proofs.YtmomfgfmnpblpaaGreat
namespace Go.Proofs.YtmomfgfmnpblpaaGreat
set_option linter.unusedVariables false
set_option linter.unusedSimpArgs false
open Go
set_option maxRecDepth 20000
set_option linter.unusedSimpArgs false
variable {G : Gh} {L : List Ch} {R : Value → Gh → List Ch → Prop}
def areaE (xs : List Rect) : Int := bif isReg xs then cnt (bits xs) else -1
theorem at_eq {x y : Int} (hx : -40 ≤ x) (hy : -40 ≤ y) : ((y + 40) * 80 + x + 40).toNat = (y + 40).toNat * 80 + (x + 40).toNat := by omega
theorem fill_s {v : Value} {D : List Bool} {r : Rect} (hD : D.length = 6400) (hr : validRect r = true) (k : ∀ D' : List Bool, D'.length = 6400 → (∀ y x, y < 80 → x < 80 → gb D' y x = (gb D y x || inR r y x)) → R v G (osl 4 boolT v D' :: L)) :
    CallT Tryz.prog 150 #[v, vrect r] G (osl 4 boolT v D :: L) R := by
  have hv := validR_iff.1 hr
  refine CallT.enter (args := _) Tryz.func150 rfl rfl (by kernel_rfl) rfl ?_
  refine WP.seq ?_
  refine WP.region ?_
  refine RG.ot rfl (OT.box (cs := rectT.enc r) rfl rfl rfl fun b3 => ?_)
  refine RG.pv rfl (PV.asg rfl rfl) ?_
  refine RG.nil ?_
  refine WP.seq ?_
  refine WP.seq ?_
  refine WP.region ?_
  refine RG.pv rfl (PV.field rfl Fo61_1 rfl) ?_
  refine RG.pv rfl (PV.load1 rfl Sc2 rfl (Rd.blk rfl)) ?_
  refine RG.pv rfl (PV.mvI (.inr rfl) rfl) ?_
  refine RG.nil ?_
  refine WP.block ?_
  refine WP.loop2 [0, 3] (fun (y : Int) (E : List Bool) => r.y0 ≤ y ∧ y ≤ r.y1 ∧ E.length = 6400 ∧ ∀ v u : Nat, v < 80 → u < 80 → (gb E v u = true ↔ gb D v u = true ∨ (inR r v u = true ∧ (v : Int) - 40 < y))) (fun (y : Int) (E : List Bool) => [(5, vi y)]) (fun (y : Int) (E : List Bool) => osl 4 boolT v E :: blk b3 61 (rectT.enc r) :: L) (fun (y : Int) (E : List Bool) => (r.y1 - y).toNat) r.y0 D ⟨by omega, by omega, hD, fun v u hv hu => ⟨.inl, fun h => h.resolve_right fun ⟨h1, h2⟩ => by rw [inR_iff] at h1; omega⟩⟩ ⟨rfl, trivial⟩ Cv.p ?_
  rintro y E τ ⟨hy0, hy1, hE, hg⟩
  refine WP.seq ?_
  refine WP.seq ?_
  refine WP.region ?_
  refine RG.pv rfl (PV.mvI (.inl rfl) rfl) ?_
  refine RG.pv rfl (PV.field rfl Fo61_3 rfl) ?_
  refine RG.pv rfl (PV.load1 rfl Sc2 rfl (Rd.blk rfl)) ?_
  refine RG.pv rfl (PV.lss rfl rfl rfl) ?_
  refine RG.nil ?_
  refine WP.cond rfl (fun h2 => ?_) (fun h2 => ?_)
  · have h2 := of_decide_eq_true h2
    refine WP.skip ?_
    refine WP.seq ?_
    refine WP.block ?_
    refine WP.seq ?_
    refine WP.region ?_
    refine RG.pv rfl (PV.field rfl Fo61_0 rfl) ?_
    refine RG.pv rfl (PV.load1 rfl Sc2 rfl (Rd.blk rfl)) ?_
    refine RG.pv rfl (PV.mvI (.inr rfl) rfl) ?_
    refine RG.nil ?_
    refine WP.block ?_
    refine WP.loop2 [0, 3, 5] (fun (x : Int) (F : List Bool) => r.x0 ≤ x ∧ x ≤ r.x1 ∧ F.length = 6400 ∧ ∀ v u : Nat, v < 80 → u < 80 → (gb F v u = true ↔ gb E v u = true ∨ ((v : Int) - 40 = y ∧ r.x0 ≤ (u : Int) - 40 ∧ (u : Int) - 40 < x))) (fun (x : Int) (F : List Bool) => [(6, vi x)]) (fun (x : Int) (F : List Bool) => osl 4 boolT v F :: blk b3 61 (rectT.enc r) :: L) (fun (x : Int) (F : List Bool) => (r.x1 - x).toNat) r.x0 E ⟨by omega, by omega, hE, fun v u hv hu => ⟨.inl, fun h => h.resolve_right fun ⟨h1, h2, h3⟩ => by omega⟩⟩ ⟨rfl, trivial⟩ Cv.p ?_
    rintro x F τ1 ⟨hx0, hx1, hF, hf⟩
    refine WP.seq ?_
    refine WP.seq ?_
    refine WP.region ?_
    refine RG.pv rfl (PV.mvI (.inl rfl) rfl) ?_
    refine RG.pv rfl (PV.field rfl Fo61_2 rfl) ?_
    refine RG.pv rfl (PV.load1 rfl Sc2 rfl (Rd.blk rfl)) ?_
    refine RG.pv rfl (PV.lss rfl rfl rfl) ?_
    refine RG.nil ?_
    refine WP.cond rfl (fun h3 => ?_) (fun h3 => ?_)
    · have h3 := of_decide_eq_true h3
      have hat := at_eq (x := x) (y := y) (by omega) (by omega)
      refine WP.skip ?_
      refine WP.seq ?_
      refine WP.block ?_
      refine WP.region ?_
      refine RG.pv rfl (PV.move (v := v) rfl rfl) ?_
      refine RG.pv rfl (PV.mvI (.inl rfl) rfl) ?_
      refine RG.pv rfl (PV.mvI (.inl rfl) rfl) ?_
      refine RG.callF (vs := [_, _]) rfl rfl En107 rfl (l17At_s (by omega) (by omega) ?_)
      refine RG.pv rfl (PV.idxS (j := ((y + 40) * 80 + x + 40).toNat) (v := v) rfl Is124 rfl SlF.o rfl (by omega) (by omega)) ?_
      refine RG.ot rfl (OT.storeE (F := boolT) rfl Sz4 rfl rfl rfl (Cl.c rfl) (OneC.c rfl) (by omega) ?_)
      refine RG.nil ?_
      refine WP.region ?_
      refine RG.pv rfl (PV.mvI (.inl rfl) rfl) ?_
      refine RG.pv rfl (PV.add rfl rfl rfl (by omega)) ?_
      refine RG.pv rfl (PV.mvI (.inr rfl) rfl) ?_
      refine RG.nil ?_
      refine ⟨rfl, x + 1, (F.set ((y + 40) * 80 + x + 40).toNat true), ⟨by omega, by omega, by simpa using hF, fun v u hv hu => ?_⟩, ⟨rfl, trivial⟩, ⟨rfl, rfl, rfl, trivial⟩, Cv.p, by omega⟩
      rw [hat, gb_set' hF (by omega) (by omega) hu]
      by_cases c : v = (y + 40).toNat ∧ u = (x + 40).toNat
      · rw [if_pos c]; simp only [true_iff]; right; omega
      · rw [if_neg c, hf v u hv hu]
        constructor
        · rintro (h | h)
          · exact .inl h
          · right; omega
        · rintro (h | h)
          · exact .inl h
          · right; omega
    · have h3 := of_decide_eq_false h3
      refine WP.exit ?_
      refine WP.region ?_
      refine RG.pv rfl (PV.mvI (.inl rfl) rfl) ?_
      refine RG.pv rfl (PV.add rfl rfl rfl (by omega)) ?_
      refine RG.pv rfl (PV.mvI (.inr rfl) rfl) ?_
      refine RG.nil ?_
      refine ⟨rfl, y + 1, F, ⟨by omega, by omega, hF, fun v u hv hu => ?_⟩, ⟨rfl, trivial⟩, ⟨rfl, rfl, trivial⟩, Cv.p, by omega⟩
      rw [hf v u hv hu, hg v u hv hu, inR_iff]
      constructor
      · rintro ((h | h) | h)
        · exact .inl h
        · right; omega
        · right; omega
      · rintro (h | h)
        · exact .inl (.inl h)
        · by_cases c : (v : Int) - 40 = y
          · right; omega
          · left; right; omega
  · have h2 := of_decide_eq_false h2
    have hk : ∀ v u, v < 80 → u < 80 → gb E v u = (gb D v u || inR r v u) := fun v u hv hu => by
      rw [Bool.eq_iff_iff, hg v u hv hu, Bool.or_eq_true]
      constructor
      · rintro (h | h)
        · exact .inl h
        · exact .inr h.1
      · rintro (h | h)
        · exact .inl h
        · right; refine ⟨h, ?_⟩; rw [inR_iff] at h; omega
    refine WP.exit ?_
    refine WP.seq ?_
    refine WP.region ?_
    refine RG.pv rfl (PV.move (v := v) rfl rfl) ?_
    refine RG.pv rfl (PV.asg (v := v) rfl rfl) ?_
    refine RG.nil ?_
    refine WP.ret ?_
    exact ⟨_, _, ResV.one rfl rfl, Cv.p, k E hE hk⟩
theorem drawBoxes_s {b : Nat} {m n : Int} {cv : Value} {bs : List UInt8} (hcode : SL G byteT cv bs) (hm : 0 ≤ m ∧ m ≤ 100) (hn : 1 ≤ n ∧ n ≤ 30) (k : ∀ v xs, isReg xs = true → R v G (osl 61 rectT v xs :: src b cv :: L)) : CallT Tryz.prog 105 #[.pointer (some ⟨b, 0, none⟩), vi m, vi n] G (src b cv :: L) R := by
  refine CallT.enter (args := _) Tryz.func105 rfl rfl (by kernel_rfl) rfl ?_
  refine WP.seq ?_
  refine WP.region ?_
  refine RG.pv rfl (PV.asg rfl rfl) ?_
  refine RG.nil ?_
  refine WP.seq ?_
  refine WP.region ?_
  refine RG.ot rfl (OT.make (m := 6400) (F := boolT) (a0 := false) rfl El124 rfl (by decide) rfl rfl (by omega) (by omega) fun v10 => ?_)
  refine RG.pv rfl (PV.asg (v := v10) rfl rfl) ?_
  refine RG.nil ?_
  refine WP.seq ?_
  refine WP.seq ?_
  refine WP.region ?_
  refine RG.pv rfl (PV.move rfl rfl) ?_
  refine RG.pv rfl (PV.mvI (.inl rfl) rfl) ?_
  refine RG.pv rfl (PV.add rfl rfl rfl (by omega)) ?_
  refine RG.callF (vs := [_, _]) rfl rfl En106 rfl (CallT.exC (src b cv) (next_s hcode (by omega) (fun w14 hw14 => ?_)))
  refine RG.pv rfl (PV.mvI (.inr rfl) rfl) ?_
  refine RG.nil ?_
  refine WP.block ?_
  refine WP.loop3 [0, 2] (fun (j : Int) (E : List Bool) (q : Value) => j ≤ 200 ∧ E.length = 6400) (fun (j : Int) (E : List Bool) (q : Value) => [(8, vi j), (7, q)]) (fun (j : Int) (E : List Bool) (q : Value) => osl 4 boolT q E :: src b cv :: L) (fun (j : Int) (E : List Bool) (q : Value) => j.toNat) w14 (List.replicate 6400 false) v10 ⟨by omega, by simp⟩ ⟨rfl, rfl, trivial⟩ Cv.p ?_
  rintro j E q τ ⟨hj, hE⟩
  refine WP.seq ?_
  refine WP.seq ?_
  refine WP.region ?_
  refine RG.pv rfl (PV.mvI (.inl rfl) rfl) ?_
  refine RG.pv rfl (PV.gtr rfl rfl rfl) ?_
  refine RG.nil ?_
  refine WP.cond rfl (fun h2 => ?_) (fun h2 => ?_)
  · have h2 := of_decide_eq_true h2
    refine WP.skip ?_
    refine WP.seq ?_
    refine WP.block ?_
    refine WP.seq ?_
    refine WP.region ?_
    refine RG.pv rfl (PV.move rfl rfl) ?_
    refine RG.callF (vs := [_, _]) rfl rfl En106 rfl (CallT.exC (src b cv) (next_s hcode (by omega) (fun w20 hw20 => ?_)))
    refine RG.pv rfl (PV.sub rfl rfl rfl (by omega)) ?_
    refine RG.pv rfl (PV.move rfl rfl) ?_
    refine RG.callF (vs := [_, _]) rfl rfl En106 rfl (CallT.exC (src b cv) (next_s hcode (by omega) (fun w23 hw23 => ?_)))
    refine RG.pv rfl (PV.sub rfl rfl rfl (by omega)) ?_
    refine RG.pv rfl (PV.build (vs := [(0, [vi _]), (1, [vi _])]) (out := [_, _, _, _]) rfl Zr61 Pl61 ⟨rfl, (Cl.c rfl), ⟨rfl, (Cl.c rfl), trivial⟩⟩ rfl) ?_
    refine RG.ot rfl (OT.alloc rfl Zr61 fun b9 => ?_)
    refine RG.ot rfl (OT.storeW (vs := [vi _, vi _, vi _, vi _]) rfl Sz61 rfl rfl (Cl.c rfl) rfl rfl (OneC.c rfl) ?_)
    refine RG.nil ?_
    refine WP.cut1 [0, 2, 7, 8, 9] (fun (x1 : Int) => w20 - 7 < x1 ∧ x1 ≤ w20 - 7 + n) (fun (x1 : Int) => []) (fun (x1 : Int) => blk b9 61 [vi (w20 - 7), vi (w23 - 7), vi x1, vi 0] :: osl 4 boolT q E :: src b cv :: L) ?_ ?_
    refine WP.regionHD [.b b9] (.q 0 (.q 3 (.q 4 (.b 1 (.q 2 (.l 5 (.q 6 (.q 7 (.l 8 Sch.nil))))) 5 (.l 1 (.q 2 (.q 6 (.q 7 (.l 8 Sch.nil))))))))) (by kernel_rfl) (by kernel_rfl) (by kernel_rfl) rfl ?_
    refine RH.pv rfl (fun _ _ _ _ h => h) (Gh.le_refl _) PickC.pick rfl (PV.field rfl Fo61_0 rfl) ?_
    refine RH.pv rfl (fun _ _ _ _ h => h) (Gh.le_refl _) PickC.pick rfl (PV.move rfl rfl) ?_
    refine RH.pv rfl (fun _ _ _ _ h => h) (Gh.le_refl _) PickC.pick rfl (PV.mvI (.inl rfl) rfl) ?_
    · refine RH.ot2 rfl rfl rfl rfl  (OT.pv (PV.load1 rfl Sc2 rfl (Rd.blk rfl)) ⟨Gh.le_refl _, PickC.pick, ?_⟩) (OT.callF (vs := [_, _]) rfl En106 rfl (CallT.exC (src b cv) (next_s hcode (by omega) (fun w31 hw31 => ⟨Gh.le_refl _, PickC.pick, ?_⟩))))
      · refine RH.pv rfl (fun _ _ _ _ h => h) (Gh.le_refl _) PickC.pick rfl (PV.add rfl rfl rfl (by omega)) ?_
        refine RH.ot rfl rfl (OT.callF (vs := [_, _]) rfl En106 rfl (CallT.exC (src b cv) (next_s hcode (by omega) (fun w31 hw31 => ⟨Gh.le_refl _, PickC.pick, ?_⟩))))
        refine RH.pv rfl (fun _ _ _ _ h => h) (Gh.le_refl _) PickC.pick rfl (PV.add rfl rfl rfl (by omega)) ?_
        refine RH.pv rfl (fun _ _ _ _ h => h) (Gh.le_refl _) PickC.pick rfl (PV.field rfl Fo61_2 rfl) ?_
        refine RH.ot rfl rfl (OT.storeB (vs := [vi _]) (cs' := [_, _, _, _]) rfl Sz2 rfl rfl (Cl.c rfl) rfl (OneC.c rfl) rfl rfl ⟨Gh.le_refl _, PickC.pick, ?_⟩)
        refine RH.nil ?_
        exact ⟨rfl, (w20 - 7 + 1 + w31), ⟨by omega, by omega⟩, trivial, ⟨rfl, rfl, rfl, rfl, rfl, trivial⟩, Cv.p⟩
      · refine RH.ot rfl rfl (OT.pv (PV.load1 rfl Sc2 rfl (Rd.blk rfl)) ⟨Gh.le_refl _, PickC.pick, ?_⟩)
        refine RH.pv rfl (fun _ _ _ _ h => h) (Gh.le_refl _) PickC.pick rfl (PV.add rfl rfl rfl (by omega)) ?_
        refine RH.pv rfl (fun _ _ _ _ h => h) (Gh.le_refl _) PickC.pick rfl (PV.add rfl rfl rfl (by omega)) ?_
        refine RH.pv rfl (fun _ _ _ _ h => h) (Gh.le_refl _) PickC.pick rfl (PV.field rfl Fo61_2 rfl) ?_
        refine RH.ot rfl rfl (OT.storeB (vs := [vi _]) (cs' := [_, _, _, _]) rfl Sz2 rfl rfl (Cl.c rfl) rfl (OneC.c rfl) rfl rfl ⟨Gh.le_refl _, PickC.pick, ?_⟩)
        refine RH.nil ?_
        exact ⟨rfl, (w20 - 7 + 1 + w31), ⟨by omega, by omega⟩, trivial, ⟨rfl, rfl, rfl, rfl, rfl, trivial⟩, Cv.p⟩
    rintro x1 τ2 hx1
    refine WP.cut1 [0, 2, 7, 8, 9] (fun (y1 : Int) => w23 - 7 < y1 ∧ y1 ≤ w23 - 7 + n) (fun (y1 : Int) => []) (fun (y1 : Int) => blk b9 61 (rectT.enc ⟨w20 - 7, w23 - 7, x1, y1⟩) :: osl 4 boolT q E :: src b cv :: L) ?_ ?_
    refine WP.regionHD [.b b9] (.q 0 (.q 3 (.q 4 (.b 1 (.q 2 (.l 5 (.q 6 (.q 7 (.l 8 Sch.nil))))) 5 (.l 1 (.q 2 (.q 6 (.q 7 (.l 8 Sch.nil))))))))) (by kernel_rfl) (by kernel_rfl) (by kernel_rfl) rfl ?_
    refine RH.pv rfl (fun _ _ _ _ h => h) (Gh.le_refl _) PickC.pick rfl (PV.field rfl Fo61_1 rfl) ?_
    refine RH.pv rfl (fun _ _ _ _ h => h) (Gh.le_refl _) PickC.pick rfl (PV.move rfl rfl) ?_
    refine RH.pv rfl (fun _ _ _ _ h => h) (Gh.le_refl _) PickC.pick rfl (PV.mvI (.inl rfl) rfl) ?_
    · refine RH.ot2 rfl rfl rfl rfl  (OT.pv (PV.load1 rfl Sc2 rfl (Rd.blk rfl)) ⟨Gh.le_refl _, PickC.pick, ?_⟩) (OT.callF (vs := [_, _]) rfl En106 rfl (CallT.exC (src b cv) (next_s hcode (by omega) (fun w39 hw39 => ⟨Gh.le_refl _, PickC.pick, ?_⟩))))
      · refine RH.pv rfl (fun _ _ _ _ h => h) (Gh.le_refl _) PickC.pick rfl (PV.add rfl rfl rfl (by omega)) ?_
        refine RH.ot rfl rfl (OT.callF (vs := [_, _]) rfl En106 rfl (CallT.exC (src b cv) (next_s hcode (by omega) (fun w39 hw39 => ⟨Gh.le_refl _, PickC.pick, ?_⟩))))
        refine RH.pv rfl (fun _ _ _ _ h => h) (Gh.le_refl _) PickC.pick rfl (PV.add rfl rfl rfl (by omega)) ?_
        refine RH.pv rfl (fun _ _ _ _ h => h) (Gh.le_refl _) PickC.pick rfl (PV.field rfl Fo61_3 rfl) ?_
        refine RH.ot rfl rfl (OT.storeB (vs := [vi _]) (cs' := [_, _, _, _]) rfl Sz2 rfl rfl (Cl.c rfl) rfl (OneC.c rfl) rfl rfl ⟨Gh.le_refl _, PickC.pick, ?_⟩)
        refine RH.nil ?_
        exact ⟨rfl, (w23 - 7 + 1 + w39), ⟨by omega, by omega⟩, trivial, ⟨rfl, rfl, rfl, rfl, rfl, trivial⟩, Cv.p⟩
      · refine RH.ot rfl rfl (OT.pv (PV.load1 rfl Sc2 rfl (Rd.blk rfl)) ⟨Gh.le_refl _, PickC.pick, ?_⟩)
        refine RH.pv rfl (fun _ _ _ _ h => h) (Gh.le_refl _) PickC.pick rfl (PV.add rfl rfl rfl (by omega)) ?_
        refine RH.pv rfl (fun _ _ _ _ h => h) (Gh.le_refl _) PickC.pick rfl (PV.add rfl rfl rfl (by omega)) ?_
        refine RH.pv rfl (fun _ _ _ _ h => h) (Gh.le_refl _) PickC.pick rfl (PV.field rfl Fo61_3 rfl) ?_
        refine RH.ot rfl rfl (OT.storeB (vs := [vi _]) (cs' := [_, _, _, _]) rfl Sz2 rfl rfl (Cl.c rfl) rfl (OneC.c rfl) rfl rfl ⟨Gh.le_refl _, PickC.pick, ?_⟩)
        refine RH.nil ?_
        exact ⟨rfl, (w23 - 7 + 1 + w39), ⟨by omega, by omega⟩, trivial, ⟨rfl, rfl, rfl, rfl, rfl, trivial⟩, Cv.p⟩
    rintro y1 τ3 hy1
    refine WP.region ?_
    refine RG.pv rfl (PV.move (v := q) rfl rfl) ?_
    refine RG.pv rfl (PV.loadW rfl Ag61 rfl rfl) ?_
    refine RG.callF (vs := [q, _]) rfl rfl En150 rfl (CallT.exS q (fill_s hE (validR_iff.2 (by simp only; omega)) (fun D' hD' hg' => ?_)))
    refine RG.pv rfl (PV.asg rfl rfl) ?_
    refine RG.nil ?_
    refine WP.region ?_
    refine RG.pv rfl (PV.mvI (.inl rfl) rfl) ?_
    refine RG.pv rfl (PV.sub rfl rfl rfl (by omega)) ?_
    refine RG.pv rfl (PV.mvI (.inr rfl) rfl) ?_
    refine RG.nil ?_
    exact ⟨rfl, j - 1, D', q, ⟨by omega, hD'⟩, ⟨rfl, rfl, trivial⟩, ⟨rfl, rfl, trivial⟩, Cv.p, by omega⟩
  · refine WP.exit ?_
    refine WP.seq ?_
    refine WP.region ?_
    refine RG.pv rfl (PV.move (v := q) rfl rfl) ?_
    refine RG.callF (vs := [q]) rfl rfl En108 rfl (l03Canon_s Rs.o hE (fun v46 => ?_))
    refine RG.pv rfl (PV.asg (v := v46) rfl rfl) ?_
    refine RG.nil ?_
    refine WP.ret ?_
    exact ⟨_, _, ResV.one rfl rfl, Cv.p, k v46 _ (isReg_canon hE)⟩
/-- a slice of a bag, replaced -/
theorem Cv.bagSet {α : Type} {e : TypeId} {F : FT α} {xs : List (Sl α)} {v : Value} {ys : List α} {L : List Ch} (i : Nat) (hi : i < xs.length) : Cv (osl e F v ys :: bagS e F xs :: L) (bagS e F (xs.set i ⟨v, ys⟩) :: L) := by
  have h := Cv.bagPut (B := xs.map (ownS e F)) (L := L) (c := osl e F v ys) i (by simpa using hi)
  have e1 : (xs.map (ownS e F)).set i (osl e F v ys) = (xs.set i ⟨v, ys⟩).map (ownS e F) := by rw [List.map_set]; rfl
  rw [e1] at h; exact h
theorem Rs.memB {α : Type} {G : Gh} {e : TypeId} {F : FT α} {C : Ch} {L : List Ch} {xs : List (Sl α)} {s : Sl α} (h : s ∈ xs) : Rs G (C :: bagS e F xs :: L) F s.v s.xs := by
  obtain ⟨i, hi, rfl⟩ := List.getElem_of_mem h
  have := Rs.inBag (G := G) (L := C :: bagS e F xs :: L) (L' := C :: L) (e := e) (F := F) (xs := xs) i hi
  rwa [gd_eq hi] at this
theorem drawLayout_s {b : Nat} {cv : Value} {bs : List UInt8} (hcode : SL G byteT cv bs) (k : ∀ v v0 xs ys, Rs G [osl 56 slT v0 ys, bagS 61 rectT ys] slT v xs → (∀ s ∈ xs, s ∈ ys) → xs.length ≤ 8 → R v G (osl 56 slT v0 ys :: bagS 61 rectT ys :: src b cv :: L)) : CallT Tryz.prog 62 #[.pointer (some ⟨b, 0, none⟩)] G (src b cv :: L) R := by
  refine CallT.enter (args := _) Tryz.func62 rfl rfl (by kernel_rfl) rfl ?_
  refine WP.seq ?_
  refine WP.region ?_
  refine RG.pv rfl (PV.asg rfl rfl) ?_
  refine RG.nil ?_
  refine WP.seq ?_
  refine WP.region ?_
  refine RG.pv rfl (PV.move rfl rfl) ?_
  refine RG.callF (vs := [_, _, _]) rfl rfl En105 rfl (CallT.exC (src b cv) (drawBoxes_s hcode (by omega) (by omega) (fun v8 xsv8 hxv8 => ?_)))
  refine RG.pv rfl (PV.move rfl rfl) ?_
  refine RG.callF (vs := [_, _, _]) rfl rfl En105 rfl (CallT.exC (src b cv) (drawBoxes_s hcode (by omega) (by omega) (fun v10 xsv10 hxv10 => ?_)))
  refine RG.pv rfl (PV.move rfl rfl) ?_
  refine RG.callF (vs := [_, _, _]) rfl rfl En105 rfl (CallT.exC (src b cv) (drawBoxes_s hcode (by omega) (by omega) (fun v12 xsv12 hxv12 => ?_)))
  refine RG.pv rfl (PV.move rfl rfl) ?_
  refine RG.callF (vs := [_, _, _]) rfl rfl En105 rfl (CallT.exC (src b cv) (drawBoxes_s hcode (by omega) (by omega) (fun v14 xsv14 hxv14 => ?_)))
  refine RG.pv rfl (PV.move rfl rfl) ?_
  refine RG.callF (vs := [_, _, _]) rfl rfl En105 rfl (CallT.exC (src b cv) (drawBoxes_s hcode (by omega) (by omega) (fun v16 xsv16 hxv16 => ?_)))
  refine RG.pv rfl (PV.move rfl rfl) ?_
  refine RG.callF (vs := [_, _, _]) rfl rfl En105 rfl (CallT.exC (src b cv) (drawBoxes_s hcode (by omega) (by omega) (fun v18 xsv18 hxv18 => ?_)))
  refine RG.pv rfl (PV.move rfl rfl) ?_
  refine RG.callF (vs := [_, _, _]) rfl rfl En105 rfl (CallT.exC (src b cv) (drawBoxes_s hcode (by omega) (by omega) (fun v20 xsv20 hxv20 => ?_)))
  refine RG.ot rfl (OT.bslice (F := rectT) (els := []) rfl El56 rfl (by decide) rfl (by decide) trivial fun v21 => ?_)
  refine RG.ot rfl (OT.bslice (F := (slT (α := Rect))) (els := [⟨v8, xsv8⟩, ⟨v10, xsv10⟩, ⟨v12, xsv12⟩, ⟨v14, xsv14⟩, ⟨v16, xsv16⟩, ⟨v18, xsv18⟩, ⟨v20, xsv20⟩, ⟨v21, []⟩]) rfl El29 rfl (by decide) rfl (by decide) ⟨rfl, (Cl.s (v := v8) SlF.o), ⟨rfl, (Cl.s (v := v10) SlF.o), ⟨rfl, (Cl.s (v := v12) SlF.o), ⟨rfl, (Cl.s (v := v14) SlF.o), ⟨rfl, (Cl.s (v := v16) SlF.o), ⟨rfl, (Cl.s (v := v18) SlF.o), ⟨rfl, (Cl.s (v := v20) SlF.o), ⟨rfl, (Cl.s (v := v21) SlF.o), trivial⟩⟩⟩⟩⟩⟩⟩⟩ fun v22 => ?_)
  refine RG.pv rfl (PV.asg (v := v22) rfl rfl) ?_
  refine RG.nil ?_
  refine WP.seq ?_
  refine WP.seq ?_
  refine WP.region ?_
  refine RG.pv rfl (PV.move rfl rfl) ?_
  refine RG.callF (vs := [_, _]) rfl rfl En106 rfl (CallT.exC (src b cv) (next_s hcode (by omega) (fun w24 hw24 => ?_)))
  refine RG.nil ?_
  refine WP.block ?_
  refine WP.seq ?_
  refine WP.region ?_
  refine RG.pv rfl (PV.eql rfl rfl rfl) ?_
  refine RG.pv rfl (PV.mvB (.inr rfl) rfl) ?_
  refine RG.nil ?_
  refine WP.cv ((Cv.p (C := osl 56 slT v22 ([⟨v8, xsv8⟩, ⟨v10, xsv10⟩, ⟨v12, xsv12⟩, ⟨v14, xsv14⟩, ⟨v16, xsv16⟩, ⟨v18, xsv18⟩, ⟨v20, xsv20⟩, ⟨v21, []⟩] : List (Sl Rect)) :: osl 61 rectT v8 xsv8 :: osl 61 rectT v10 xsv10 :: osl 61 rectT v12 xsv12 :: osl 61 rectT v14 xsv14 :: osl 61 rectT v16 xsv16 :: osl 61 rectT v18 xsv18 :: osl 61 rectT v20 xsv20 :: osl 61 rectT v21 [] :: src b cv :: L)).trans ((Cv.cons (Cv.toBag (B := [osl 61 rectT v8 xsv8, osl 61 rectT v10 xsv10, osl 61 rectT v12 xsv12, osl 61 rectT v14 xsv14, osl 61 rectT v16 xsv16, osl 61 rectT v18 xsv18, osl 61 rectT v20 xsv20, osl 61 rectT v21 []]))).trans (Cv.cast (L' := osl 56 slT v22 ([⟨v8, xsv8⟩, ⟨v10, xsv10⟩, ⟨v12, xsv12⟩, ⟨v14, xsv14⟩, ⟨v16, xsv16⟩, ⟨v18, xsv18⟩, ⟨v20, xsv20⟩, ⟨v21, []⟩] : List (Sl Rect)) :: bagS 61 rectT ([⟨v8, xsv8⟩, ⟨v10, xsv10⟩, ⟨v12, xsv12⟩, ⟨v14, xsv14⟩, ⟨v16, xsv16⟩, ⟨v18, xsv18⟩, ⟨v20, xsv20⟩, ⟨v21, []⟩] : List (Sl Rect)) :: src b cv :: L) rfl))) ?_
  have hyl : ([⟨v8, xsv8⟩, ⟨v10, xsv10⟩, ⟨v12, xsv12⟩, ⟨v14, xsv14⟩, ⟨v16, xsv16⟩, ⟨v18, xsv18⟩, ⟨v20, xsv20⟩, ⟨v21, []⟩] : List (Sl Rect)).length = 8 := rfl
  generalize ([⟨v8, xsv8⟩, ⟨v10, xsv10⟩, ⟨v12, xsv12⟩, ⟨v14, xsv14⟩, ⟨v16, xsv16⟩, ⟨v18, xsv18⟩, ⟨v20, xsv20⟩, ⟨v21, []⟩] : List (Sl Rect)) = ys at *
  have fin : ∀ zs : List (Sl Rect), zs.length = 8 → R v22 G (osl 56 slT v22 zs :: bagS 61 rectT zs :: src b cv :: L) := fun zs hz => k v22 v22 zs zs Rs.o (fun s h => h) (by omega)
  refine WP.cond rfl (fun h2 => ?_) (fun h2 => ?_)
  · skip
    refine WP.seq ?_
    refine WP.region ?_
    refine RG.pv rfl (PV.move (v := v22) rfl rfl) ?_
    refine RG.pv rfl (PV.slc (l := 1) (v := v22) rfl Is29 rfl SlF.o (optAt.s rfl (by omega)) optAt.n (by omega) (by omega)) ?_
    refine RG.pv rfl (PV.asg rfl rfl) ?_
    refine RG.nil ?_
    refine WP.ret ?_
    exact ⟨_, _, ResV.one rfl rfl, Cv.p, k _ v22 ((ys.take 8).drop 1) ys (by rw [← hyl]; exact Rs.slv (F := slT) Rs.o (by omega) (by omega)) (fun s h => List.mem_of_mem_take (List.mem_of_mem_drop h)) (by simp; omega)⟩
  · refine WP.seq ?_
    refine WP.region ?_
    refine RG.pv rfl (PV.eql rfl rfl rfl) ?_
    refine RG.pv rfl (PV.mvB (.inr rfl) rfl) ?_
    refine RG.nil ?_
    refine WP.cond rfl (fun h3 => ?_) (fun h3 => ?_)
    · skip
      refine WP.seq ?_
      refine WP.region ?_
      refine RG.pv rfl (PV.move rfl rfl) ?_
      refine RG.callF (vs := [_, _]) rfl rfl En106 rfl (CallT.exC (src b cv) (next_s hcode (by omega) (fun w32 hw32 => ?_)))
      refine RG.pv rfl (PV.mvI (.inr rfl) rfl) ?_
      refine RG.nil ?_
      refine WP.region ?_
      refine RG.pv rfl (PV.move (v := v22) rfl rfl) ?_
      refine RG.pv rfl (PV.mvI (.inl rfl) rfl) ?_
      refine RG.pv rfl (PV.build (vs := [(0, [vi _]), (1, [vi _]), (2, [vi _]), (3, [vi _])]) (out := [_, _, _, _]) rfl Zr61 Pl61 ⟨rfl, (Cl.c rfl), ⟨rfl, (Cl.c rfl), ⟨rfl, (Cl.c rfl), ⟨rfl, (Cl.c rfl), trivial⟩⟩⟩⟩ rfl) ?_
      refine RG.ot rfl (OT.bslice (F := rectT) (els := [⟨_, _, _, _⟩]) rfl El56 rfl (by decide) rfl (by decide) ⟨rfl, (Cl.c rfl), trivial⟩ fun v36 => ?_)
      refine RG.pv rfl (PV.idxS (j := w32.toNat) (v := v22) rfl Is29 rfl SlF.o rfl (by omega) (by omega)) ?_
      refine RG.ot rfl (OT.storeE (v := v36) (a := ⟨v36, [⟨2, 2, 2, 3⟩]⟩) (F := (slT (α := Rect))) rfl Sz56 rfl rfl rfl (Cl.s (v := v36) SlF.o) (OneC.sl SlF.o OneC.nil) (by omega) ?_)
      refine RG.nil ?_
      refine WP.seq ?_
      refine WP.region ?_
      refine RG.pv rfl (PV.move (v := v22) rfl rfl) ?_
      refine RG.pv rfl (PV.asg (v := v22) rfl rfl) ?_
      refine RG.nil ?_
      refine WP.ret ?_
      exact ⟨_, _, ResV.one rfl rfl, ((Cv.p (C := osl 61 rectT v36 [⟨2, 2, 2, 3⟩] :: bagS 61 rectT ys :: osl 56 slT v22 (ys.set w32.toNat ⟨v36, [⟨2, 2, 2, 3⟩]⟩) :: src b cv :: L)).trans ((Cv.bagSet w32.toNat (by omega)).trans Cv.p)), fin (ys.set w32.toNat ⟨v36, [⟨2, 2, 2, 3⟩]⟩) (by simpa using hyl)⟩
    · refine WP.seq ?_
      refine WP.region ?_
      refine RG.pv rfl (PV.eql rfl rfl rfl) ?_
      refine RG.pv rfl (PV.mvB (.inr rfl) rfl) ?_
      refine RG.nil ?_
      refine WP.cond rfl (fun h4 => ?_) (fun h4 => ?_)
      · refine WP.seq ?_
        refine WP.region ?_
        refine RG.ot rfl (OT.make (m := 6400) (F := boolT) (a0 := false) rfl El124 rfl (by decide) rfl rfl (by omega) (by omega) fun v40 => ?_)
        refine RG.pv rfl (PV.asg (v := v40) rfl rfl) ?_
        refine RG.nil ?_
        refine WP.seq ?_
        refine WP.seq ?_
        refine WP.region ?_
        refine RG.pv rfl (PV.mvI (.inr rfl) rfl) ?_
        refine RG.nil ?_
        refine WP.block ?_
        refine WP.loop2 [0, 3, 5] (fun (m : Int) (E : List Bool) => 0 ≤ m ∧ m ≤ 28 ∧ E.length = 6400) (fun (m : Int) (E : List Bool) => [(6, vi m)]) (fun (m : Int) (E : List Bool) => osl 4 boolT v40 E :: osl 56 slT v22 ys :: bagS 61 rectT ys :: src b cv :: L) (fun (m : Int) (E : List Bool) => (28 - m).toNat) 0 (List.replicate 6400 false) ⟨by omega, by omega, by simp⟩ ⟨rfl, trivial⟩ Cv.p ?_
        rintro m E τ ⟨hm0, hm1, hE⟩
        refine WP.seq ?_
        refine WP.seq ?_
        refine WP.region ?_
        refine RG.pv rfl (PV.mvI (.inl rfl) rfl) ?_
        refine RG.pv rfl (PV.move rfl rfl) ?_
        refine RG.callF (vs := [_, _]) rfl rfl En106 rfl (CallT.exC (src b cv) (next_s hcode (by omega) (fun w43 hw43 => ?_)))
        refine RG.pv rfl (PV.add rfl rfl rfl (by omega)) ?_
        refine RG.pv rfl (PV.lss rfl rfl rfl) ?_
        refine RG.nil ?_
        refine WP.cond rfl (fun h5 => ?_) (fun h5 => ?_)
        · have h5 := of_decide_eq_true h5
          refine WP.skip ?_
          refine WP.seq ?_
          refine WP.block ?_
          refine WP.region ?_
          refine RG.pv rfl (PV.move (v := v40) rfl rfl) ?_
          refine RG.pv rfl (PV.mvI (.inl rfl) rfl) ?_
          refine RG.pv rfl (PV.mul rfl rfl rfl (by omega)) ?_
          refine RG.pv rfl (PV.sub rfl rfl rfl (by omega)) ?_
          refine RG.callF (vs := [_, _]) rfl rfl En107 rfl (l17At_s (by omega) (by omega) ?_)
          refine RG.pv rfl (PV.idxS (j := ((20 + 40) * 80 + (2 * m - 30) + 40).toNat) (v := v40) rfl Is124 rfl SlF.o rfl (by omega) (by omega)) ?_
          refine RG.ot rfl (OT.storeE (F := boolT) rfl Sz4 rfl rfl rfl (Cl.c rfl) (OneC.c rfl) (by omega) ?_)
          refine RG.nil ?_
          refine WP.region ?_
          refine RG.pv rfl (PV.mvI (.inl rfl) rfl) ?_
          refine RG.pv rfl (PV.add rfl rfl rfl (by omega)) ?_
          refine RG.pv rfl (PV.mvI (.inr rfl) rfl) ?_
          refine RG.nil ?_
          exact ⟨rfl, m + 1, (E.set ((20 + 40) * 80 + (2 * m - 30) + 40).toNat true), ⟨by omega, by omega, by simpa using hE⟩, ⟨rfl, trivial⟩, ⟨rfl, rfl, rfl, trivial⟩, Cv.p, by omega⟩
        · skip
          refine WP.exit ?_
          refine WP.region ?_
          refine RG.pv rfl (PV.move (v := v22) rfl rfl) ?_
          refine RG.pv rfl (PV.move (v := v40) rfl rfl) ?_
          refine RG.callF (vs := [v40]) rfl rfl En108 rfl (l03Canon_s Rs.o hE (fun v56 => ?_))
          refine RG.pv rfl (PV.idxS (j := 5) (v := v22) rfl Is29 rfl SlF.o rfl (by omega) (by omega)) ?_
          refine RG.ot rfl (OT.storeE (v := v56) (a := ⟨v56, canon E⟩) (F := (slT (α := Rect))) rfl Sz56 rfl rfl rfl (Cl.s (v := v56) SlF.o) (OneC.sl SlF.o OneC.nil) (by omega) ?_)
          refine RG.nil ?_
          refine WP.seq ?_
          refine WP.region ?_
          refine RG.pv rfl (PV.move (v := v22) rfl rfl) ?_
          refine RG.pv rfl (PV.asg (v := v22) rfl rfl) ?_
          refine RG.nil ?_
          refine WP.ret ?_
          exact ⟨_, _, ResV.one rfl rfl, ((Cv.p (C := osl 61 rectT v56 (canon E) :: bagS 61 rectT ys :: osl 56 slT v22 (ys.set 5 ⟨v56, canon E⟩) :: src b cv :: L)).trans ((Cv.bagSet 5 (by omega)).trans Cv.p)), fin (ys.set 5 ⟨v56, canon E⟩) (by simpa using hyl)⟩
      · refine WP.skip ?_
        refine WP.seq ?_
        refine WP.region ?_
        refine RG.pv rfl (PV.move (v := v22) rfl rfl) ?_
        refine RG.pv rfl (PV.asg (v := v22) rfl rfl) ?_
        refine RG.nil ?_
        refine WP.ret ?_
        exact ⟨_, _, ResV.one rfl rfl, Cv.p, fin ys hyl⟩
theorem big_s {cv : Value} {bs : List UInt8} (hcode : SL G byteT cv bs) (k : R (.bool (decide (4096 < bs.length))) G L) : CallT Tryz.prog 22 #[cv] G L R := by
  have e : decide (4096 < bs.length) = decide ((4096 : Int) < (bs.length : Int)) := by rw [Bool.eq_iff_iff]; simp; omega
  rw [e] at k
  refine CallT.enter (args := _) Tryz.func22 rfl rfl (by kernel_rfl) rfl ?_
  refine WP.seq ?_
  refine WP.region ?_
  refine RG.pv rfl (PV.mvB (.inr rfl) rfl) ?_
  refine RG.nil ?_
  refine WP.seq ?_
  refine WP.region ?_
  refine RG.pv rfl (PV.move (v := cv) rfl rfl) ?_
  refine RG.pv rfl (PV.len (v := cv) rfl Tryz.underlying40 rfl (SlF.r (Rs.g (L := []) hcode))) ?_
  refine RG.pv rfl (PV.gtr rfl rfl rfl) ?_
  refine RG.pv rfl (PV.mvB (.inr rfl) rfl) ?_
  refine RG.nil ?_
  refine WP.ret ?_
  exact ⟨_, _, ResV.one rfl rfl, Cv.p, k⟩
end Go.Proofs.YtmomfgfmnpblpaaGreat
namespace Go.Proofs.YtmomfgfmnpblpaaGreat
set_option linter.unusedVariables false
set_option linter.unusedSimpArgs false
open Go
set_option maxRecDepth 20000
set_option linter.unusedSimpArgs false
variable {G : Gh} {L : List Ch} {R : Value → Gh → List Ch → Prop}
/-- sets of the chip -/
def Sets (ss : List (Sl Bool)) : Prop := ss.length = 8 ∧ ∀ i, i < 8 → (gd ss i).xs.length = 6400
theorem Sets.set {ss : List (Sl Bool)} (h : Sets ss) {i : Nat} {D : List Bool} (hD : D.length = 6400) : Sets (ss.set i ⟨(gd ss i).v, D⟩) := ⟨by simpa using h.1, fun j hj => by
  by_cases c : i = j
  · subst c; simp [gd, h.1, hj, hD]
  · have := h.2 j hj
    simpa [gd, List.getElem?_set, c] using this⟩
theorem turn_s {v : Value} {xs : List (Sl Rect)} (h1 : Rs G L slT v xs) (hd : RsE G L rectT xs) (hl : xs.length ≤ 8) (hvr : ∀ s ∈ xs, ∀ r ∈ s.xs, validRect r = true) (hll : ∀ s ∈ xs, s.xs.length ≤ 3200) (k : ∀ v ys, ys.length = xs.length → (∀ s ∈ ys, isReg s.xs = true) → R v G (osl 56 slT v ys :: bagS 61 rectT ys :: L)) : CallT Tryz.prog 174 #[v] G L R := by
  refine CallT.enter (args := _) Tryz.func174 rfl rfl (by kernel_rfl) rfl ?_
  refine WP.seq ?_
  refine WP.region ?_
  refine RG.pv rfl (PV.asg rfl rfl) ?_
  refine RG.nil ?_
  refine WP.seq ?_
  refine WP.region ?_
  refine RG.ot rfl (OT.bslice (F := (slT (α := Rect))) (els := []) rfl El29 rfl (by decide) rfl (by decide) trivial fun v8 => ?_)
  refine RG.pv rfl (PV.asg (v := v8) rfl rfl) ?_
  refine RG.nil ?_
  refine WP.seq ?_
  refine WP.seq ?_
  refine WP.region ?_
  refine RG.pv rfl (PV.mvI (.inr rfl) rfl) ?_
  refine RG.nil ?_
  refine WP.block ?_
  refine WP.cv (Cv.cons (Cv.bag0 (e := 61) (F := rectT) (xs := []) rfl)) ?_
  refine WP.loop3 [0] (fun (i : Nat) (ys : List (Sl Rect)) (q : Value) => i ≤ xs.length ∧ ys.length = i ∧ ∀ s ∈ ys, isReg s.xs = true) (fun (i : Nat) (ys : List (Sl Rect)) (q : Value) => [(4, vi i), (3, q)]) (fun (i : Nat) (ys : List (Sl Rect)) (q : Value) => osl 56 slT q ys :: bagS 61 rectT ys :: L) (fun (i : Nat) (ys : List (Sl Rect)) (q : Value) => xs.length - i) 0 [] v8 ⟨by omega, rfl, fun s h => by cases h⟩ ⟨rfl, rfl, trivial⟩ Cv.p ?_
  rintro i ys q τ ⟨hi, hyl, hys⟩
  refine WP.seq ?_
  refine WP.seq ?_
  refine WP.region ?_
  refine RG.pv rfl (PV.mvI (.inl rfl) rfl) ?_
  refine RG.pv rfl (PV.move (v := v) rfl rfl) ?_
  refine RG.pv rfl (PV.len (v := v) rfl Tryz.underlying29 rfl (SlF.r h1)) ?_
  refine RG.pv rfl (PV.lss rfl rfl rfl) ?_
  refine RG.nil ?_
  refine WP.cond rfl (fun h2 => ?_) (fun h2 => ?_)
  · have h2 := of_decide_eq_true h2
    have h3 : i < xs.length := by omega
    have h4 := hll _ (gd_mem h3)
    refine WP.skip ?_
    refine WP.seq ?_
    refine WP.block ?_
    refine WP.seq ?_
    refine WP.region ?_
    refine RG.ot rfl (OT.make (m := 6400) (F := boolT) (a0 := false) rfl El124 rfl (by decide) rfl rfl (by omega) (by omega) fun v15 => ?_)
    refine RG.pv rfl (PV.asg (v := v15) rfl rfl) ?_
    refine RG.nil ?_
    refine WP.seq ?_
    refine WP.seq ?_
    refine WP.region ?_
    refine RG.pv rfl (PV.mvI (.inr rfl) rfl) ?_
    refine RG.nil ?_
    refine WP.block ?_
    refine WP.loop2 [0, 3, 4] (fun (j : Nat) (E : List Bool) => j ≤ (gd xs i).xs.length ∧ E.length = 6400) (fun (j : Nat) (E : List Bool) => [(6, vi j), (5, v15)]) (fun (j : Nat) (E : List Bool) => osl 4 boolT v15 E :: osl 56 slT q ys :: bagS 61 rectT ys :: L) (fun (j : Nat) (E : List Bool) => (gd xs i).xs.length - j) 0 (List.replicate 6400 false) ⟨by omega, by simp⟩ ⟨rfl, rfl, trivial⟩ Cv.p ?_
    rintro j E τ1 ⟨hj, hE⟩
    refine WP.seq ?_
    refine WP.seq ?_
    refine WP.region ?_
    refine RG.pv rfl (PV.mvI (.inl rfl) rfl) ?_
    refine RG.pv rfl (PV.move (v := v) rfl rfl) ?_
    refine RG.pv rfl (PV.mvI (.inl rfl) rfl) ?_
    refine RG.pv rfl (PV.idxS (v := v) rfl Is29 rfl (SlF.r h1) rfl rfl (by omega)) ?_
    refine RG.pv rfl (PV.loadE1 rfl Sc56 rfl rfl (El.r h1 (getG (by omega))) rfl) ?_
    refine RG.pv rfl (PV.len rfl Tryz.underlying56 rfl (SlF.r (hd i h3))) ?_
    refine RG.pv rfl (PV.lss rfl rfl rfl) ?_
    refine RG.nil ?_
    refine WP.cond rfl (fun h5 => ?_) (fun h5 => ?_)
    · have h5 := of_decide_eq_true h5
      refine WP.skip ?_
      refine WP.seq ?_
      refine WP.block ?_
      refine WP.seq ?_
      refine WP.region ?_
      refine RG.pv rfl (PV.move (v := v) rfl rfl) ?_
      refine RG.pv rfl (PV.mvI (.inl rfl) rfl) ?_
      refine RG.pv rfl (PV.idxS (v := v) rfl Is29 rfl (SlF.r h1) rfl rfl (by omega)) ?_
      refine RG.pv rfl (PV.loadE1 rfl Sc56 rfl rfl (El.r h1 (getG (by omega))) rfl) ?_
      refine RG.pv rfl (PV.mvI (.inl rfl) rfl) ?_
      refine RG.pv rfl (PV.idxS rfl Is56 rfl (SlF.r (hd i h3)) rfl rfl (by omega)) ?_
      refine RG.pv rfl (PV.loadE rfl Ag61 rfl rfl (El.r (hd i h3) (getG (by omega)))) ?_
      refine RG.ot rfl (OT.alloc rfl Zr61 fun b7 => ?_)
      refine RG.ot rfl (OT.storeW (vs := [vi _, vi _, vi _, vi _]) rfl Sz61 rfl rfl (Cl.c rfl) rfl rfl (OneC.c rfl) ?_)
      refine RG.nil ?_
      refine WP.region ?_
      refine RG.pv rfl (PV.move (v := v15) rfl rfl) ?_
      refine RG.pv rfl (PV.field rfl Fo61_1 rfl) ?_
      refine RG.pv rfl (PV.load1 rfl Sc2 rfl (Rd.blk rfl)) ?_
      refine RG.pv rfl (PV.field rfl Fo61_0 rfl) ?_
      refine RG.pv rfl (PV.load1 rfl Sc2 rfl (Rd.blk rfl)) ?_
      refine RG.pv rfl (PV.field rfl Fo61_3 rfl) ?_
      refine RG.pv rfl (PV.load1 rfl Sc2 rfl (Rd.blk rfl)) ?_
      refine RG.pv rfl (PV.field rfl Fo61_2 rfl) ?_
      refine RG.pv rfl (PV.load1 rfl Sc2 rfl (Rd.blk rfl)) ?_
      refine RG.pv rfl (PV.build (vs := [(0, [vi _]), (1, [vi _]), (2, [vi _]), (3, [vi _])]) (out := [_, _, _, _]) rfl Zr61 Pl61 ⟨rfl, (Cl.c rfl), ⟨rfl, (Cl.c rfl), ⟨rfl, (Cl.c rfl), ⟨rfl, (Cl.c rfl), trivial⟩⟩⟩⟩ rfl) ?_
      refine RG.callF (vs := [v15, _]) rfl rfl En150 rfl (CallT.exS v15 (fill_s (r := ⟨(gd (gd xs i).xs j).y0, (gd (gd xs i).xs j).x0, (gd (gd xs i).xs j).y1, (gd (gd xs i).xs j).x1⟩) hE (by have h := hvr (gd xs i) (gd_mem (by omega)) (gd (gd xs i).xs j) (gd_mem (by omega)); rw [validR_iff] at h ⊢; (try simp only); omega) (fun D' hD' hg' => ?_)))
      refine RG.pv rfl (PV.asg rfl rfl) ?_
      refine RG.nil ?_
      refine WP.region ?_
      refine RG.pv rfl (PV.mvI (.inl rfl) rfl) ?_
      refine RG.pv rfl (PV.add rfl rfl rfl (by omega)) ?_
      refine RG.pv rfl (PV.mvI (.inr rfl) rfl) ?_
      refine RG.nil ?_
      exact ⟨rfl, j + 1, D', ⟨by omega, hD'⟩, ⟨rfl, rfl, trivial⟩, ⟨rfl, rfl, rfl, trivial⟩, Cv.p, by omega⟩
    · skip
      refine WP.exit ?_
      refine WP.region ?_
      refine RG.pv rfl (PV.move (v := q) rfl rfl) ?_
      refine RG.pv rfl (PV.move (v := v15) rfl rfl) ?_
      refine RG.callF (vs := [v15]) rfl rfl En108 rfl (l03Canon_s Rs.o hE (fun v45 => ?_))
      refine RG.ot rfl (OT.bslice (F := (slT (α := Rect))) (els := [⟨v45, canon E⟩]) rfl El29 rfl (by decide) rfl (by decide) ⟨rfl, (Cl.s (v := v45) SlF.o), trivial⟩ fun v46 => ?_)
      refine RG.ot rfl (OT.append (v := q) (u := v46) (F := (slT (α := Rect))) rfl El29 rfl (by decide) rfl rfl Rs.o (OneL.one (OneC.sl SlF.o OneC.nil)) rfl (by first | omega | (simp <;> omega)) fun v47 => ?_)
      refine RG.pv rfl (PV.asg (v := v47) rfl rfl) ?_
      refine RG.nil ?_
      refine WP.region ?_
      refine RG.pv rfl (PV.mvI (.inl rfl) rfl) ?_
      refine RG.pv rfl (PV.add rfl rfl rfl (by omega)) ?_
      refine RG.pv rfl (PV.mvI (.inr rfl) rfl) ?_
      refine RG.nil ?_
      refine ⟨rfl, i + 1, (ys ++ [⟨v45, canon E⟩]), v47, ⟨by omega, by simp [hyl], ?_⟩, ⟨rfl, rfl, trivial⟩, ⟨rfl, trivial⟩, ((Cv.p (C := osl 56 slT v47 (ys ++ [⟨v45, canon E⟩]) :: osl 61 rectT v45 (canon E) :: bagS 61 rectT ys :: L)).trans (Cv.cons Cv.bagS_add)), by omega⟩
      intro s hs
      rcases List.mem_append.1 hs with hs | hs
      · exact hys s hs
      · obtain rfl : s = ⟨v45, canon E⟩ := by simpa using hs
        exact isReg_canon hE
  · have h2 := of_decide_eq_false h2
    obtain rfl : i = xs.length := by omega
    refine WP.exit ?_
    refine WP.seq ?_
    refine WP.region ?_
    refine RG.pv rfl (PV.move (v := q) rfl rfl) ?_
    refine RG.pv rfl (PV.asg (v := q) rfl rfl) ?_
    refine RG.nil ?_
    refine WP.ret ?_
    exact ⟨_, _, ResV.one rfl rfl, Cv.p, k q ys hyl hys⟩
theorem Cv.putB {α : Type} {e : TypeId} {F : FT α} {zs : List (Sl α)} {ys : List α} {X : Ch} {L : List Ch} (i : Nat) (hi : i < zs.length) :
    Cv (osl e F (gd zs i).v ys :: X :: bag ((zs.map (ownS e F)).set i emp) :: L) (X :: bagS e F (zs.set i ⟨(gd zs i).v, ys⟩) :: L) :=
  (Cv.swap (A := [osl e F (gd zs i).v ys]) (B := [X])).trans (Cv.cons (Cv.bagS_put i hi))
theorem yv_bd {n : Int} (h : 0 ≤ n ∧ n < 4) : -6 ≤ gd [-4, 4, -6, (-4 : Int)] n.toNat ∧ gd [-4, 4, -6, (-4 : Int)] n.toNat ≤ 4 := by
  rcases (by omega : n = 0 ∨ n = 1 ∨ n = 2 ∨ n = 3) with rfl | rfl | rfl | rfl <;> simp [gd]
set_option maxHeartbeats 4000000 in
theorem drawCircuit_s {b : Nat} {cv : Value} {bs : List UInt8} (hcode : SL G byteT cv bs) (k : ∀ v ys, ys.length = 8 → (∀ s ∈ ys, isReg s.xs = true) → R v G (osl 56 slT v ys :: bagS 61 rectT ys :: src b cv :: L)) : CallT Tryz.prog 113 #[.pointer (some ⟨b, 0, none⟩)] G (src b cv :: L) R := by
  refine CallT.enter (args := _) Tryz.func113 rfl rfl (by kernel_rfl) rfl ?_
  refine WP.seq ?_
  refine WP.region ?_
  refine RG.pv rfl (PV.asg rfl rfl) ?_
  refine RG.nil ?_
  refine WP.seq ?_
  refine WP.region ?_
  refine RG.ot rfl (OT.bslice (F := (slT (α := Bool))) (els := []) rfl El121 rfl (by decide) rfl (by decide) trivial fun v17 => ?_)
  refine RG.pv rfl (PV.asg (v := v17) rfl rfl) ?_
  refine RG.nil ?_
  refine WP.seq ?_
  refine WP.seq ?_
  refine WP.region ?_
  refine RG.pv rfl (PV.mvI (.inr rfl) rfl) ?_
  refine RG.nil ?_
  refine WP.block ?_
  refine WP.cv ((Cv.cons (Cv.bag0 (e := 4) (F := boolT) (xs := []) rfl))) ?_
  refine WP.loop3 [0] (fun (i : Nat) (ss : List (Sl Bool)) (q : Value) => i ≤ 8 ∧ ss.length = i ∧ ∀ j, j < i → (gd ss j).xs.length = 6400) (fun (i : Nat) (ss : List (Sl Bool)) (q : Value) => [(4, vi i), (3, q)]) (fun (i : Nat) (ss : List (Sl Bool)) (q : Value) => osl 124 slT q ss :: bagS 4 boolT ss :: src b cv :: L) (fun (i : Nat) (ss : List (Sl Bool)) (q : Value) => 8 - i) 0 [] v17 ⟨by omega, rfl, fun j h => by omega⟩ ⟨rfl, rfl, trivial⟩ Cv.p ?_
  rintro i ss q τ ⟨hi, hsl, hs6⟩
  refine WP.seq ?_
  refine WP.seq ?_
  refine WP.region ?_
  refine RG.pv rfl (PV.mvI (.inl rfl) rfl) ?_
  refine RG.pv rfl (PV.lss rfl rfl rfl) ?_
  refine RG.nil ?_
  refine WP.cond rfl (fun h1 => ?_) (fun h1 => ?_)
  · have h1 := of_decide_eq_true h1
    refine WP.skip ?_
    refine WP.seq ?_
    refine WP.block ?_
    refine WP.region ?_
    refine RG.pv rfl (PV.move (v := q) rfl rfl) ?_
    refine RG.ot rfl (OT.make (m := 6400) (F := boolT) (a0 := false) rfl El124 rfl (by decide) rfl rfl (by omega) (by omega) fun v23 => ?_)
    refine RG.ot rfl (OT.bslice (F := (slT (α := Bool))) (els := [⟨v23, List.replicate 6400 false⟩]) rfl El121 rfl (by decide) rfl (by decide) ⟨rfl, (Cl.s (v := v23) SlF.o), trivial⟩ fun v24 => ?_)
    refine RG.ot rfl (OT.append (v := q) (u := v24) (F := (slT (α := Bool))) rfl El121 rfl (by decide) rfl rfl Rs.o (OneL.one (OneC.sl SlF.o OneC.nil)) rfl (by first | omega | (simp <;> omega)) fun v25 => ?_)
    refine RG.pv rfl (PV.asg (v := v25) rfl rfl) ?_
    refine RG.nil ?_
    refine WP.region ?_
    refine RG.pv rfl (PV.mvI (.inl rfl) rfl) ?_
    refine RG.pv rfl (PV.add rfl rfl rfl (by omega)) ?_
    refine RG.pv rfl (PV.mvI (.inr rfl) rfl) ?_
    refine RG.nil ?_
    refine ⟨rfl, i + 1, (ss ++ [⟨v23, List.replicate 6400 false⟩]), v25, ⟨by omega, by simp [hsl], fun j hj => ?_⟩, ⟨rfl, rfl, trivial⟩, ⟨rfl, trivial⟩, ((Cv.p (C := osl 124 slT v25 (ss ++ [⟨v23, List.replicate 6400 false⟩]) :: osl 4 boolT v23 (List.replicate 6400 false) :: bagS 4 boolT ss :: src b cv :: L)).trans (Cv.cons Cv.bagS_add)), by omega⟩
    by_cases c : j = ss.length
    · subst c; rw [gd_app_r]; simp
    · rw [gd_app_l (by omega)]; exact hs6 j (by omega)
  · have h1 := of_decide_eq_false h1
    obtain rfl : i = 8 := by omega
    have hss : Sets ss := ⟨hsl, hs6⟩
    clear hs6 hsl
    refine WP.exit ?_
    refine WP.seq ?_
    refine WP.region ?_
    refine RG.pv rfl (PV.move rfl rfl) ?_
    refine RG.callF (vs := [_, _]) rfl rfl En106 rfl (CallT.exC (src b cv) (next_s hcode (by omega) (fun w27 hw27 => ?_)))
    refine RG.pv rfl (PV.add rfl rfl rfl (by omega)) ?_
    refine RG.pv rfl (PV.mvI (.inr rfl) rfl) ?_
    refine RG.nil ?_
    refine WP.seq ?_
    refine WP.seq ?_
    refine WP.region ?_
    refine RG.pv rfl (PV.mvI (.inr rfl) rfl) ?_
    refine RG.nil ?_
    refine WP.block ?_
    refine WP.loop2 [0, 3, 5] (fun (m : Int) (ss : List (Sl Bool)) => 0 ≤ m ∧ m ≤ 2 ∧ Sets ss) (fun (m : Int) (ss : List (Sl Bool)) => [(6, vi m)]) (fun (m : Int) (ss : List (Sl Bool)) => osl 124 slT q ss :: bagS 4 boolT ss :: src b cv :: L) (fun (m : Int) (ss : List (Sl Bool)) => (2 - m).toNat) 0 ss ⟨by omega, by omega, hss⟩ ⟨rfl, trivial⟩ Cv.p ?_
    rintro m ss τ1 ⟨hm0, hm1, hss⟩
    refine WP.seq ?_
    refine WP.seq ?_
    refine WP.region ?_
    refine RG.pv rfl (PV.mvI (.inl rfl) rfl) ?_
    refine RG.pv rfl (PV.mvI (.inl rfl) rfl) ?_
    refine RG.pv rfl (PV.lss rfl rfl rfl) ?_
    refine RG.nil ?_
    refine WP.cond rfl (fun h2 => ?_) (fun h2 => ?_)
    · have h2 := of_decide_eq_true h2
      have h60 := hss.2 0 (by omega)
      have hsl := hss.1
      refine WP.cv ((Cv.p (C := osl 124 slT q ss :: bagS 4 boolT ss :: src b cv :: L)).trans (Cv.cons (Cv.bagS_take 0 (by have := hss.1; omega)))) ?_
      refine WP.skip ?_
      refine WP.seq ?_
      refine WP.block ?_
      refine WP.seq ?_
      refine WP.region ?_
      refine RG.pv rfl (PV.mvI (.inl rfl) rfl) ?_
      refine RG.pv rfl (PV.mul rfl rfl rfl (by omega)) ?_
      refine RG.pv rfl (PV.sub rfl rfl rfl (by omega)) ?_
      refine RG.pv rfl (PV.mvI (.inr rfl) rfl) ?_
      refine RG.nil ?_
      refine WP.cut1 [0, 3, 5, 6, 7] (fun (ss1 : List (Sl Bool)) => Sets ss1) (fun (ss1 : List (Sl Bool)) => []) (fun (ss1 : List (Sl Bool)) => osl 124 slT q ss1 :: bagS 4 boolT ss1 :: src b cv :: L) ?_ ?_
      refine WP.regionHD [.s q, .s (gd ss 0).v] (.q 0 (.q 1 (.q 4 (.q 5 (.q 8 (.q 9 (.q 10 (.b 2 (.b 3 (.l 6 (.q 7 (.l 11 (.q 12 (.q 13 (.l 14 (.l 15 (.l 16 Sch.nil)))))))) 6 (.q 7 (.b 3 (.l 11 (.q 12 (.q 13 (.l 14 (.l 15 (.l 16 Sch.nil)))))) 11 (.q 12 (.q 13 (.l 3 (.l 14 (.l 15 (.l 16 Sch.nil))))))))) 6 (.q 7 (.b 2 (.b 3 (.l 11 (.q 12 (.q 13 (.l 14 (.l 15 (.l 16 Sch.nil)))))) 11 (.q 12 (.q 13 (.l 3 (.l 14 (.l 15 (.l 16 Sch.nil))))))) 11 (.q 12 (.q 13 (.l 2 (.l 3 (.l 14 (.l 15 (.l 16 Sch.nil))))))))))))))))) (by kernel_rfl) (by kernel_rfl) (by kernel_rfl) rfl ?_
      refine RH.pv rfl (fun _ _ _ _ h => h) (Gh.le_refl _) PickC.pick rfl (PV.move (v := q) rfl rfl) ?_
      refine RH.pv rfl (fun _ _ _ _ h => h) (Gh.le_refl _) PickC.pick rfl (PV.move (v := q) rfl rfl) ?_
      refine RH.pv rfl (fun _ _ _ _ h => h) (Gh.le_refl _) PickC.pick rfl (PV.mvI (.inl rfl) rfl) ?_
      refine RH.pv rfl (fun _ _ _ _ h => h) (Gh.le_refl _) PickC.pick rfl (PV.move rfl rfl) ?_
      refine RH.pv rfl (fun _ _ _ _ h => h) (Gh.le_refl _) PickC.pick rfl (PV.mvI (.inl rfl) rfl) ?_
      refine RH.pv rfl (fun _ _ _ _ h => h) (Gh.le_refl _) PickC.pick rfl (PV.add rfl rfl rfl (by omega)) ?_
      refine RH.pv rfl (fun _ _ _ _ h => h) (Gh.le_refl _) PickC.pick rfl (PV.move rfl rfl) ?_
      · refine RH.ot2 rfl rfl rfl rfl  (OT.pv (PV.idxS (j := 0) (v := q) rfl Is121 rfl SlF.o rfl (by omega) (by omega)) ⟨Gh.le_refl _, PickC.pick, ?_⟩) (OT.callF (vs := [_, _]) rfl En106 rfl (CallT.exC (src b cv) (next_s hcode (by omega) (fun w43 hw43 => ⟨Gh.le_refl _, PickC.pick, ?_⟩))))
        · refine RH.ot2 rfl rfl rfl rfl  (OT.pv (PV.loadE1 rfl Sc124 rfl rfl (El.o (getG (by omega))) rfl) ⟨Gh.le_refl _, PickC.pick, ?_⟩) (OT.callF (vs := [_, _]) rfl En106 rfl (CallT.exC (src b cv) (next_s hcode (by omega) (fun w43 hw43 => ⟨Gh.le_refl _, PickC.pick, ?_⟩))))
          · refine RH.ot rfl rfl (OT.callF (vs := [_, _]) rfl En106 rfl (CallT.exC (src b cv) (next_s hcode (by omega) (fun w43 hw43 => ⟨Gh.le_refl _, PickC.pick, ?_⟩))))
            refine RH.pv rfl (fun _ _ _ _ h => h) (Gh.le_refl _) PickC.pick rfl (PV.sub rfl rfl rfl (by omega)) ?_
            refine RH.ot rfl rfl (OT.callF (vs := [_, _]) rfl En106 rfl (CallT.exC (src b cv) (next_s hcode (by omega) (fun w48 hw48 => ⟨Gh.le_refl _, PickC.pick, ?_⟩))))
            refine RH.pv rfl (fun _ _ _ _ h => h) (Gh.le_refl _) PickC.pick rfl (PV.add rfl rfl rfl (by omega)) ?_
            refine RH.pv rfl (fun _ _ _ _ h => h) (Gh.le_refl _) PickC.pick rfl (PV.build (vs := [(0, [vi _]), (1, [vi _]), (2, [vi _]), (3, [vi _])]) (out := [_, _, _, _]) rfl Zr61 Pl61 ⟨rfl, (Cl.c rfl), ⟨rfl, (Cl.c rfl), ⟨rfl, (Cl.c rfl), ⟨rfl, (Cl.c rfl), trivial⟩⟩⟩⟩ rfl) ?_
            refine RH.ot rfl rfl (OT.callF (vs := [(gd ss 0).v, _]) rfl En150 rfl (CallT.exS (gd ss 0).v (fill_s (r := ⟨-9, 8 * m - 4, 9 - w43, 8 * m - 4 + 1 + w48⟩) (hss.2 0 (by omega)) (validR_iff.2 (by simp only; omega)) (fun D' hD' hg' => ⟨Gh.le_refl _, PickC.pick, ?_⟩))))
            refine RH.ot rfl rfl (OT.pv (PV.idxS (j := 0) (v := q) rfl Is121 rfl SlF.o rfl (by omega) (by omega)) ⟨Gh.le_refl _, PickC.pick, ?_⟩)
            refine RH.ot rfl rfl (OT.storeE (v := (gd ss 0).v) (a := ⟨(gd ss 0).v, D'⟩) (F := (slT (α := Bool))) rfl Sz124 rfl rfl rfl (Cl.s (v := (gd ss 0).v) SlF.o) (OneC.sl SlF.o OneC.nil) (by omega) ⟨Gh.le_refl _, PickC.pick, ?_⟩)
            refine RH.nil ?_
            exact ⟨rfl, (ss.set 0 ⟨(gd ss 0).v, D'⟩), (hss.set hD'), trivial, ⟨rfl, rfl, rfl, rfl, rfl, trivial⟩, ((Cv.p (C := osl 4 boolT (gd ss 0).v D' :: osl 124 slT q (ss.set 0 ⟨(gd ss 0).v, D'⟩) :: bag ((ss.map (ownS 4 boolT)).set 0 emp) :: src b cv :: L)).trans (Cv.putB 0 (by have := hss.1; omega)))⟩
          · refine RH.pv rfl (fun _ _ _ _ h => h) (Gh.le_refl _) PickC.pick rfl (PV.sub rfl rfl rfl (by omega)) ?_
            refine RH.ot2 rfl rfl rfl rfl  (OT.pv (PV.loadE1 rfl Sc124 rfl rfl (El.o (getG (by omega))) rfl) ⟨Gh.le_refl _, PickC.pick, ?_⟩) (OT.callF (vs := [_, _]) rfl En106 rfl (CallT.exC (src b cv) (next_s hcode (by omega) (fun w48 hw48 => ⟨Gh.le_refl _, PickC.pick, ?_⟩))))
            · refine RH.ot rfl rfl (OT.callF (vs := [_, _]) rfl En106 rfl (CallT.exC (src b cv) (next_s hcode (by omega) (fun w48 hw48 => ⟨Gh.le_refl _, PickC.pick, ?_⟩))))
              refine RH.pv rfl (fun _ _ _ _ h => h) (Gh.le_refl _) PickC.pick rfl (PV.add rfl rfl rfl (by omega)) ?_
              refine RH.pv rfl (fun _ _ _ _ h => h) (Gh.le_refl _) PickC.pick rfl (PV.build (vs := [(0, [vi _]), (1, [vi _]), (2, [vi _]), (3, [vi _])]) (out := [_, _, _, _]) rfl Zr61 Pl61 ⟨rfl, (Cl.c rfl), ⟨rfl, (Cl.c rfl), ⟨rfl, (Cl.c rfl), ⟨rfl, (Cl.c rfl), trivial⟩⟩⟩⟩ rfl) ?_
              refine RH.ot rfl rfl (OT.callF (vs := [(gd ss 0).v, _]) rfl En150 rfl (CallT.exS (gd ss 0).v (fill_s (r := ⟨-9, 8 * m - 4, 9 - w43, 8 * m - 4 + 1 + w48⟩) (hss.2 0 (by omega)) (validR_iff.2 (by simp only; omega)) (fun D' hD' hg' => ⟨Gh.le_refl _, PickC.pick, ?_⟩))))
              refine RH.ot rfl rfl (OT.pv (PV.idxS (j := 0) (v := q) rfl Is121 rfl SlF.o rfl (by omega) (by omega)) ⟨Gh.le_refl _, PickC.pick, ?_⟩)
              refine RH.ot rfl rfl (OT.storeE (v := (gd ss 0).v) (a := ⟨(gd ss 0).v, D'⟩) (F := (slT (α := Bool))) rfl Sz124 rfl rfl rfl (Cl.s (v := (gd ss 0).v) SlF.o) (OneC.sl SlF.o OneC.nil) (by omega) ⟨Gh.le_refl _, PickC.pick, ?_⟩)
              refine RH.nil ?_
              exact ⟨rfl, (ss.set 0 ⟨(gd ss 0).v, D'⟩), (hss.set hD'), trivial, ⟨rfl, rfl, rfl, rfl, rfl, trivial⟩, ((Cv.p (C := osl 4 boolT (gd ss 0).v D' :: osl 124 slT q (ss.set 0 ⟨(gd ss 0).v, D'⟩) :: bag ((ss.map (ownS 4 boolT)).set 0 emp) :: src b cv :: L)).trans (Cv.putB 0 (by have := hss.1; omega)))⟩
            · refine RH.pv rfl (fun _ _ _ _ h => h) (Gh.le_refl _) PickC.pick rfl (PV.add rfl rfl rfl (by omega)) ?_
              refine RH.pv rfl (fun _ _ _ _ h => h) (Gh.le_refl _) PickC.pick rfl (PV.build (vs := [(0, [vi _]), (1, [vi _]), (2, [vi _]), (3, [vi _])]) (out := [_, _, _, _]) rfl Zr61 Pl61 ⟨rfl, (Cl.c rfl), ⟨rfl, (Cl.c rfl), ⟨rfl, (Cl.c rfl), ⟨rfl, (Cl.c rfl), trivial⟩⟩⟩⟩ rfl) ?_
              refine RH.ot rfl rfl (OT.pv (PV.loadE1 rfl Sc124 rfl rfl (El.o (getG (by omega))) rfl) ⟨Gh.le_refl _, PickC.pick, ?_⟩)
              refine RH.ot rfl rfl (OT.callF (vs := [(gd ss 0).v, _]) rfl En150 rfl (CallT.exS (gd ss 0).v (fill_s (r := ⟨-9, 8 * m - 4, 9 - w43, 8 * m - 4 + 1 + w48⟩) (hss.2 0 (by omega)) (validR_iff.2 (by simp only; omega)) (fun D' hD' hg' => ⟨Gh.le_refl _, PickC.pick, ?_⟩))))
              refine RH.ot rfl rfl (OT.pv (PV.idxS (j := 0) (v := q) rfl Is121 rfl SlF.o rfl (by omega) (by omega)) ⟨Gh.le_refl _, PickC.pick, ?_⟩)
              refine RH.ot rfl rfl (OT.storeE (v := (gd ss 0).v) (a := ⟨(gd ss 0).v, D'⟩) (F := (slT (α := Bool))) rfl Sz124 rfl rfl rfl (Cl.s (v := (gd ss 0).v) SlF.o) (OneC.sl SlF.o OneC.nil) (by omega) ⟨Gh.le_refl _, PickC.pick, ?_⟩)
              refine RH.nil ?_
              exact ⟨rfl, (ss.set 0 ⟨(gd ss 0).v, D'⟩), (hss.set hD'), trivial, ⟨rfl, rfl, rfl, rfl, rfl, trivial⟩, ((Cv.p (C := osl 4 boolT (gd ss 0).v D' :: osl 124 slT q (ss.set 0 ⟨(gd ss 0).v, D'⟩) :: bag ((ss.map (ownS 4 boolT)).set 0 emp) :: src b cv :: L)).trans (Cv.putB 0 (by have := hss.1; omega)))⟩
        · refine RH.pv rfl (fun _ _ _ _ h => h) (Gh.le_refl _) PickC.pick rfl (PV.sub rfl rfl rfl (by omega)) ?_
          refine RH.ot2 rfl rfl rfl rfl  (OT.pv (PV.idxS (j := 0) (v := q) rfl Is121 rfl SlF.o rfl (by omega) (by omega)) ⟨Gh.le_refl _, PickC.pick, ?_⟩) (OT.callF (vs := [_, _]) rfl En106 rfl (CallT.exC (src b cv) (next_s hcode (by omega) (fun w48 hw48 => ⟨Gh.le_refl _, PickC.pick, ?_⟩))))
          · refine RH.ot2 rfl rfl rfl rfl  (OT.pv (PV.loadE1 rfl Sc124 rfl rfl (El.o (getG (by omega))) rfl) ⟨Gh.le_refl _, PickC.pick, ?_⟩) (OT.callF (vs := [_, _]) rfl En106 rfl (CallT.exC (src b cv) (next_s hcode (by omega) (fun w48 hw48 => ⟨Gh.le_refl _, PickC.pick, ?_⟩))))
            · refine RH.ot rfl rfl (OT.callF (vs := [_, _]) rfl En106 rfl (CallT.exC (src b cv) (next_s hcode (by omega) (fun w48 hw48 => ⟨Gh.le_refl _, PickC.pick, ?_⟩))))
              refine RH.pv rfl (fun _ _ _ _ h => h) (Gh.le_refl _) PickC.pick rfl (PV.add rfl rfl rfl (by omega)) ?_
              refine RH.pv rfl (fun _ _ _ _ h => h) (Gh.le_refl _) PickC.pick rfl (PV.build (vs := [(0, [vi _]), (1, [vi _]), (2, [vi _]), (3, [vi _])]) (out := [_, _, _, _]) rfl Zr61 Pl61 ⟨rfl, (Cl.c rfl), ⟨rfl, (Cl.c rfl), ⟨rfl, (Cl.c rfl), ⟨rfl, (Cl.c rfl), trivial⟩⟩⟩⟩ rfl) ?_
              refine RH.ot rfl rfl (OT.callF (vs := [(gd ss 0).v, _]) rfl En150 rfl (CallT.exS (gd ss 0).v (fill_s (r := ⟨-9, 8 * m - 4, 9 - w43, 8 * m - 4 + 1 + w48⟩) (hss.2 0 (by omega)) (validR_iff.2 (by simp only; omega)) (fun D' hD' hg' => ⟨Gh.le_refl _, PickC.pick, ?_⟩))))
              refine RH.ot rfl rfl (OT.pv (PV.idxS (j := 0) (v := q) rfl Is121 rfl SlF.o rfl (by omega) (by omega)) ⟨Gh.le_refl _, PickC.pick, ?_⟩)
              refine RH.ot rfl rfl (OT.storeE (v := (gd ss 0).v) (a := ⟨(gd ss 0).v, D'⟩) (F := (slT (α := Bool))) rfl Sz124 rfl rfl rfl (Cl.s (v := (gd ss 0).v) SlF.o) (OneC.sl SlF.o OneC.nil) (by omega) ⟨Gh.le_refl _, PickC.pick, ?_⟩)
              refine RH.nil ?_
              exact ⟨rfl, (ss.set 0 ⟨(gd ss 0).v, D'⟩), (hss.set hD'), trivial, ⟨rfl, rfl, rfl, rfl, rfl, trivial⟩, ((Cv.p (C := osl 4 boolT (gd ss 0).v D' :: osl 124 slT q (ss.set 0 ⟨(gd ss 0).v, D'⟩) :: bag ((ss.map (ownS 4 boolT)).set 0 emp) :: src b cv :: L)).trans (Cv.putB 0 (by have := hss.1; omega)))⟩
            · refine RH.pv rfl (fun _ _ _ _ h => h) (Gh.le_refl _) PickC.pick rfl (PV.add rfl rfl rfl (by omega)) ?_
              refine RH.pv rfl (fun _ _ _ _ h => h) (Gh.le_refl _) PickC.pick rfl (PV.build (vs := [(0, [vi _]), (1, [vi _]), (2, [vi _]), (3, [vi _])]) (out := [_, _, _, _]) rfl Zr61 Pl61 ⟨rfl, (Cl.c rfl), ⟨rfl, (Cl.c rfl), ⟨rfl, (Cl.c rfl), ⟨rfl, (Cl.c rfl), trivial⟩⟩⟩⟩ rfl) ?_
              refine RH.ot rfl rfl (OT.pv (PV.loadE1 rfl Sc124 rfl rfl (El.o (getG (by omega))) rfl) ⟨Gh.le_refl _, PickC.pick, ?_⟩)
              refine RH.ot rfl rfl (OT.callF (vs := [(gd ss 0).v, _]) rfl En150 rfl (CallT.exS (gd ss 0).v (fill_s (r := ⟨-9, 8 * m - 4, 9 - w43, 8 * m - 4 + 1 + w48⟩) (hss.2 0 (by omega)) (validR_iff.2 (by simp only; omega)) (fun D' hD' hg' => ⟨Gh.le_refl _, PickC.pick, ?_⟩))))
              refine RH.ot rfl rfl (OT.pv (PV.idxS (j := 0) (v := q) rfl Is121 rfl SlF.o rfl (by omega) (by omega)) ⟨Gh.le_refl _, PickC.pick, ?_⟩)
              refine RH.ot rfl rfl (OT.storeE (v := (gd ss 0).v) (a := ⟨(gd ss 0).v, D'⟩) (F := (slT (α := Bool))) rfl Sz124 rfl rfl rfl (Cl.s (v := (gd ss 0).v) SlF.o) (OneC.sl SlF.o OneC.nil) (by omega) ⟨Gh.le_refl _, PickC.pick, ?_⟩)
              refine RH.nil ?_
              exact ⟨rfl, (ss.set 0 ⟨(gd ss 0).v, D'⟩), (hss.set hD'), trivial, ⟨rfl, rfl, rfl, rfl, rfl, trivial⟩, ((Cv.p (C := osl 4 boolT (gd ss 0).v D' :: osl 124 slT q (ss.set 0 ⟨(gd ss 0).v, D'⟩) :: bag ((ss.map (ownS 4 boolT)).set 0 emp) :: src b cv :: L)).trans (Cv.putB 0 (by have := hss.1; omega)))⟩
          · refine RH.pv rfl (fun _ _ _ _ h => h) (Gh.le_refl _) PickC.pick rfl (PV.add rfl rfl rfl (by omega)) ?_
            refine RH.pv rfl (fun _ _ _ _ h => h) (Gh.le_refl _) PickC.pick rfl (PV.build (vs := [(0, [vi _]), (1, [vi _]), (2, [vi _]), (3, [vi _])]) (out := [_, _, _, _]) rfl Zr61 Pl61 ⟨rfl, (Cl.c rfl), ⟨rfl, (Cl.c rfl), ⟨rfl, (Cl.c rfl), ⟨rfl, (Cl.c rfl), trivial⟩⟩⟩⟩ rfl) ?_
            refine RH.ot rfl rfl (OT.pv (PV.idxS (j := 0) (v := q) rfl Is121 rfl SlF.o rfl (by omega) (by omega)) ⟨Gh.le_refl _, PickC.pick, ?_⟩)
            refine RH.ot rfl rfl (OT.pv (PV.loadE1 rfl Sc124 rfl rfl (El.o (getG (by omega))) rfl) ⟨Gh.le_refl _, PickC.pick, ?_⟩)
            refine RH.ot rfl rfl (OT.callF (vs := [(gd ss 0).v, _]) rfl En150 rfl (CallT.exS (gd ss 0).v (fill_s (r := ⟨-9, 8 * m - 4, 9 - w43, 8 * m - 4 + 1 + w48⟩) (hss.2 0 (by omega)) (validR_iff.2 (by simp only; omega)) (fun D' hD' hg' => ⟨Gh.le_refl _, PickC.pick, ?_⟩))))
            refine RH.ot rfl rfl (OT.pv (PV.idxS (j := 0) (v := q) rfl Is121 rfl SlF.o rfl (by omega) (by omega)) ⟨Gh.le_refl _, PickC.pick, ?_⟩)
            refine RH.ot rfl rfl (OT.storeE (v := (gd ss 0).v) (a := ⟨(gd ss 0).v, D'⟩) (F := (slT (α := Bool))) rfl Sz124 rfl rfl rfl (Cl.s (v := (gd ss 0).v) SlF.o) (OneC.sl SlF.o OneC.nil) (by omega) ⟨Gh.le_refl _, PickC.pick, ?_⟩)
            refine RH.nil ?_
            exact ⟨rfl, (ss.set 0 ⟨(gd ss 0).v, D'⟩), (hss.set hD'), trivial, ⟨rfl, rfl, rfl, rfl, rfl, trivial⟩, ((Cv.p (C := osl 4 boolT (gd ss 0).v D' :: osl 124 slT q (ss.set 0 ⟨(gd ss 0).v, D'⟩) :: bag ((ss.map (ownS 4 boolT)).set 0 emp) :: src b cv :: L)).trans (Cv.putB 0 (by have := hss.1; omega)))⟩
      rintro ss1 τ2 hss1
      have hsl1 := hss1.1
      refine WP.seq ?_
      refine WP.region ?_
      refine RG.pv rfl (PV.move rfl rfl) ?_
      refine RG.callF (vs := [_, _]) rfl rfl En106 rfl (CallT.exC (src b cv) (next_s hcode (by omega) (fun w54 hw54 => ?_)))
      refine RG.pv rfl (PV.eql rfl rfl rfl) ?_
      refine RG.nil ?_
      refine WP.cond rfl (fun h3 => ?_) (fun h3 => ?_)
      · refine WP.cv ((Cv.p (C := osl 124 slT q ss1 :: bagS 4 boolT ss1 :: src b cv :: L)).trans (Cv.cons (Cv.bagS_take 6 (by have := hss1.1; omega)))) ?_
        refine WP.regionHD [.s q, .s (gd ss1 6).v] (.q 0 (.q 1 (.q 4 (.q 5 (.q 6 (.q 10 (.q 11 (.b 2 (.b 3 (.l 7 (.q 8 (.q 9 (.q 12 (.l 13 (.l 14 (.l 15 Sch.nil))))))) 7 (.q 8 (.q 9 (.q 12 (.l 3 (.l 13 (.l 14 (.l 15 Sch.nil)))))))) 7 (.q 8 (.q 9 (.q 12 (.l 2 (.l 3 (.l 13 (.l 14 (.l 15 Sch.nil)))))))))))))))) (by kernel_rfl) (by kernel_rfl) (by kernel_rfl) rfl ?_
        refine RH.pv rfl (fun _ _ _ _ h => h) (Gh.le_refl _) PickC.pick rfl (PV.move (v := q) rfl rfl) ?_
        refine RH.pv rfl (fun _ _ _ _ h => h) (Gh.le_refl _) PickC.pick rfl (PV.move (v := q) rfl rfl) ?_
        refine RH.pv rfl (fun _ _ _ _ h => h) (Gh.le_refl _) PickC.pick rfl (PV.mvI (.inl rfl) rfl) ?_
        refine RH.pv rfl (fun _ _ _ _ h => h) (Gh.le_refl _) PickC.pick rfl (PV.sub rfl rfl rfl (by omega)) ?_
        refine RH.pv rfl (fun _ _ _ _ h => h) (Gh.le_refl _) PickC.pick rfl (PV.move rfl rfl) ?_
        refine RH.pv rfl (fun _ _ _ _ h => h) (Gh.le_refl _) PickC.pick rfl (PV.mvI (.inl rfl) rfl) ?_
        refine RH.pv rfl (fun _ _ _ _ h => h) (Gh.le_refl _) PickC.pick rfl (PV.add rfl rfl rfl (by omega)) ?_
        refine RH.ot2 rfl rfl rfl rfl  (OT.pv (PV.idxS (j := 6) (v := q) rfl Is121 rfl SlF.o rfl (by omega) (by omega)) ⟨Gh.le_refl _, PickC.pick, ?_⟩) (OT.callF (vs := [_, _]) rfl En106 rfl (CallT.exC (src b cv) (next_s hcode (by omega) (fun w63 hw63 => ⟨Gh.le_refl _, PickC.pick, ?_⟩))))
        · refine RH.ot2 rfl rfl rfl rfl  (OT.pv (PV.loadE1 rfl Sc124 rfl rfl (El.o (getG (by omega))) rfl) ⟨Gh.le_refl _, PickC.pick, ?_⟩) (OT.callF (vs := [_, _]) rfl En106 rfl (CallT.exC (src b cv) (next_s hcode (by omega) (fun w63 hw63 => ⟨Gh.le_refl _, PickC.pick, ?_⟩))))
          · refine RH.ot rfl rfl (OT.callF (vs := [_, _]) rfl En106 rfl (CallT.exC (src b cv) (next_s hcode (by omega) (fun w63 hw63 => ⟨Gh.le_refl _, PickC.pick, ?_⟩))))
            refine RH.pv rfl (fun _ _ _ _ h => h) (Gh.le_refl _) PickC.pick rfl (PV.mul rfl rfl rfl (by omega)) ?_
            refine RH.pv rfl (fun _ _ _ _ h => h) (Gh.le_refl _) PickC.pick rfl (PV.sub rfl rfl rfl (by omega)) ?_
            refine RH.pv rfl (fun _ _ _ _ h => h) (Gh.le_refl _) PickC.pick rfl (PV.build (vs := [(0, [vi _]), (1, [vi _]), (2, [vi _]), (3, [vi _])]) (out := [_, _, _, _]) rfl Zr61 Pl61 ⟨rfl, (Cl.c rfl), ⟨rfl, (Cl.c rfl), ⟨rfl, (Cl.c rfl), ⟨rfl, (Cl.c rfl), trivial⟩⟩⟩⟩ rfl) ?_
            refine RH.ot rfl rfl (OT.callF (vs := [(gd ss1 6).v, _]) rfl En150 rfl (CallT.exS (gd ss1 6).v (fill_s (r := ⟨-10, 8 * m - 4 - 1, 10 - 8 * w63, 8 * m - 4 + 5⟩) (hss1.2 6 (by omega)) (validR_iff.2 (by simp only; omega)) (fun D' hD' hg' => ⟨Gh.le_refl _, PickC.pick, ?_⟩))))
            refine RH.ot rfl rfl (OT.pv (PV.idxS (j := 6) (v := q) rfl Is121 rfl SlF.o rfl (by omega) (by omega)) ⟨Gh.le_refl _, PickC.pick, ?_⟩)
            refine RH.ot rfl rfl (OT.storeE (v := (gd ss1 6).v) (a := ⟨(gd ss1 6).v, D'⟩) (F := (slT (α := Bool))) rfl Sz124 rfl rfl rfl (Cl.s (v := (gd ss1 6).v) SlF.o) (OneC.sl SlF.o OneC.nil) (by omega) ⟨Gh.le_refl _, PickC.pick, ?_⟩)
            refine RH.nil ?_
            refine WP.region ?_
            refine RG.pv rfl (PV.mvI (.inl rfl) rfl) ?_
            refine RG.pv rfl (PV.add rfl rfl rfl (by omega)) ?_
            refine RG.pv rfl (PV.mvI (.inr rfl) rfl) ?_
            refine RG.nil ?_
            exact ⟨rfl, m + 1, (ss1.set 6 ⟨(gd ss1 6).v, D'⟩), ⟨by omega, by omega, hss1.set hD'⟩, ⟨rfl, trivial⟩, ⟨rfl, rfl, rfl, trivial⟩, ((Cv.p (C := osl 4 boolT (gd ss1 6).v D' :: osl 124 slT q (ss1.set 6 ⟨(gd ss1 6).v, D'⟩) :: bag ((ss1.map (ownS 4 boolT)).set 6 emp) :: src b cv :: L)).trans (Cv.putB 6 (by have := hss1.1; omega))), by omega⟩
          · refine RH.pv rfl (fun _ _ _ _ h => h) (Gh.le_refl _) PickC.pick rfl (PV.mul rfl rfl rfl (by omega)) ?_
            refine RH.pv rfl (fun _ _ _ _ h => h) (Gh.le_refl _) PickC.pick rfl (PV.sub rfl rfl rfl (by omega)) ?_
            refine RH.pv rfl (fun _ _ _ _ h => h) (Gh.le_refl _) PickC.pick rfl (PV.build (vs := [(0, [vi _]), (1, [vi _]), (2, [vi _]), (3, [vi _])]) (out := [_, _, _, _]) rfl Zr61 Pl61 ⟨rfl, (Cl.c rfl), ⟨rfl, (Cl.c rfl), ⟨rfl, (Cl.c rfl), ⟨rfl, (Cl.c rfl), trivial⟩⟩⟩⟩ rfl) ?_
            refine RH.ot rfl rfl (OT.pv (PV.loadE1 rfl Sc124 rfl rfl (El.o (getG (by omega))) rfl) ⟨Gh.le_refl _, PickC.pick, ?_⟩)
            refine RH.ot rfl rfl (OT.callF (vs := [(gd ss1 6).v, _]) rfl En150 rfl (CallT.exS (gd ss1 6).v (fill_s (r := ⟨-10, 8 * m - 4 - 1, 10 - 8 * w63, 8 * m - 4 + 5⟩) (hss1.2 6 (by omega)) (validR_iff.2 (by simp only; omega)) (fun D' hD' hg' => ⟨Gh.le_refl _, PickC.pick, ?_⟩))))
            refine RH.ot rfl rfl (OT.pv (PV.idxS (j := 6) (v := q) rfl Is121 rfl SlF.o rfl (by omega) (by omega)) ⟨Gh.le_refl _, PickC.pick, ?_⟩)
            refine RH.ot rfl rfl (OT.storeE (v := (gd ss1 6).v) (a := ⟨(gd ss1 6).v, D'⟩) (F := (slT (α := Bool))) rfl Sz124 rfl rfl rfl (Cl.s (v := (gd ss1 6).v) SlF.o) (OneC.sl SlF.o OneC.nil) (by omega) ⟨Gh.le_refl _, PickC.pick, ?_⟩)
            refine RH.nil ?_
            refine WP.region ?_
            refine RG.pv rfl (PV.mvI (.inl rfl) rfl) ?_
            refine RG.pv rfl (PV.add rfl rfl rfl (by omega)) ?_
            refine RG.pv rfl (PV.mvI (.inr rfl) rfl) ?_
            refine RG.nil ?_
            exact ⟨rfl, m + 1, (ss1.set 6 ⟨(gd ss1 6).v, D'⟩), ⟨by omega, by omega, hss1.set hD'⟩, ⟨rfl, trivial⟩, ⟨rfl, rfl, rfl, trivial⟩, ((Cv.p (C := osl 4 boolT (gd ss1 6).v D' :: osl 124 slT q (ss1.set 6 ⟨(gd ss1 6).v, D'⟩) :: bag ((ss1.map (ownS 4 boolT)).set 6 emp) :: src b cv :: L)).trans (Cv.putB 6 (by have := hss1.1; omega))), by omega⟩
        · refine RH.pv rfl (fun _ _ _ _ h => h) (Gh.le_refl _) PickC.pick rfl (PV.mul rfl rfl rfl (by omega)) ?_
          refine RH.pv rfl (fun _ _ _ _ h => h) (Gh.le_refl _) PickC.pick rfl (PV.sub rfl rfl rfl (by omega)) ?_
          refine RH.pv rfl (fun _ _ _ _ h => h) (Gh.le_refl _) PickC.pick rfl (PV.build (vs := [(0, [vi _]), (1, [vi _]), (2, [vi _]), (3, [vi _])]) (out := [_, _, _, _]) rfl Zr61 Pl61 ⟨rfl, (Cl.c rfl), ⟨rfl, (Cl.c rfl), ⟨rfl, (Cl.c rfl), ⟨rfl, (Cl.c rfl), trivial⟩⟩⟩⟩ rfl) ?_
          refine RH.ot rfl rfl (OT.pv (PV.idxS (j := 6) (v := q) rfl Is121 rfl SlF.o rfl (by omega) (by omega)) ⟨Gh.le_refl _, PickC.pick, ?_⟩)
          refine RH.ot rfl rfl (OT.pv (PV.loadE1 rfl Sc124 rfl rfl (El.o (getG (by omega))) rfl) ⟨Gh.le_refl _, PickC.pick, ?_⟩)
          refine RH.ot rfl rfl (OT.callF (vs := [(gd ss1 6).v, _]) rfl En150 rfl (CallT.exS (gd ss1 6).v (fill_s (r := ⟨-10, 8 * m - 4 - 1, 10 - 8 * w63, 8 * m - 4 + 5⟩) (hss1.2 6 (by omega)) (validR_iff.2 (by simp only; omega)) (fun D' hD' hg' => ⟨Gh.le_refl _, PickC.pick, ?_⟩))))
          refine RH.ot rfl rfl (OT.pv (PV.idxS (j := 6) (v := q) rfl Is121 rfl SlF.o rfl (by omega) (by omega)) ⟨Gh.le_refl _, PickC.pick, ?_⟩)
          refine RH.ot rfl rfl (OT.storeE (v := (gd ss1 6).v) (a := ⟨(gd ss1 6).v, D'⟩) (F := (slT (α := Bool))) rfl Sz124 rfl rfl rfl (Cl.s (v := (gd ss1 6).v) SlF.o) (OneC.sl SlF.o OneC.nil) (by omega) ⟨Gh.le_refl _, PickC.pick, ?_⟩)
          refine RH.nil ?_
          refine WP.region ?_
          refine RG.pv rfl (PV.mvI (.inl rfl) rfl) ?_
          refine RG.pv rfl (PV.add rfl rfl rfl (by omega)) ?_
          refine RG.pv rfl (PV.mvI (.inr rfl) rfl) ?_
          refine RG.nil ?_
          exact ⟨rfl, m + 1, (ss1.set 6 ⟨(gd ss1 6).v, D'⟩), ⟨by omega, by omega, hss1.set hD'⟩, ⟨rfl, trivial⟩, ⟨rfl, rfl, rfl, trivial⟩, ((Cv.p (C := osl 4 boolT (gd ss1 6).v D' :: osl 124 slT q (ss1.set 6 ⟨(gd ss1 6).v, D'⟩) :: bag ((ss1.map (ownS 4 boolT)).set 6 emp) :: src b cv :: L)).trans (Cv.putB 6 (by have := hss1.1; omega))), by omega⟩
      · refine WP.skip ?_
        refine WP.region ?_
        refine RG.pv rfl (PV.mvI (.inl rfl) rfl) ?_
        refine RG.pv rfl (PV.add rfl rfl rfl (by omega)) ?_
        refine RG.pv rfl (PV.mvI (.inr rfl) rfl) ?_
        refine RG.nil ?_
        exact ⟨rfl, m + 1, ss1, ⟨by omega, by omega, hss1⟩, ⟨rfl, trivial⟩, ⟨rfl, rfl, rfl, trivial⟩, Cv.p, by omega⟩
    · have h2 := of_decide_eq_false h2
      refine WP.exit ?_
      refine WP.seq ?_
      refine WP.seq ?_
      refine WP.region ?_
      refine RG.pv rfl (PV.move rfl rfl) ?_
      refine RG.callF (vs := [_, _]) rfl rfl En106 rfl (CallT.exC (src b cv) (next_s hcode (by omega) (fun w72 hw72 => ?_)))
      refine RG.pv rfl (PV.add rfl rfl rfl (by omega)) ?_
      refine RG.pv rfl (PV.mvI (.inr rfl) rfl) ?_
      refine RG.nil ?_
      refine WP.block ?_
      refine WP.loop2 [0, 3, 5] (fun (j : Int) (ss : List (Sl Bool)) => j ≤ 2 ∧ Sets ss) (fun (j : Int) (ss : List (Sl Bool)) => [(8, vi j)]) (fun (j : Int) (ss : List (Sl Bool)) => osl 124 slT q ss :: bagS 4 boolT ss :: src b cv :: L) (fun (j : Int) (ss : List (Sl Bool)) => j.toNat) (1 + w72) ss ⟨by omega, hss⟩ ⟨rfl, trivial⟩ Cv.p ?_
      rintro j ss τ3 ⟨hj, hss⟩
      refine WP.seq ?_
      refine WP.seq ?_
      refine WP.region ?_
      refine RG.pv rfl (PV.mvI (.inl rfl) rfl) ?_
      refine RG.pv rfl (PV.gtr rfl rfl rfl) ?_
      refine RG.nil ?_
      refine WP.cond rfl (fun h4 => ?_) (fun h4 => ?_)
      · have h4 := of_decide_eq_true h4
        have hsl := hss.1
        refine WP.cv ((Cv.p (C := osl 124 slT q ss :: bagS 4 boolT ss :: src b cv :: L)).trans (Cv.cons (Cv.bagS_take 1 (by have := hss.1; omega)))) ?_
        refine WP.skip ?_
        refine WP.seq ?_
        refine WP.block ?_
        refine WP.seq ?_
        refine WP.region ?_
        refine RG.pv rfl (PV.move rfl rfl) ?_
        refine RG.callF (vs := [_, _]) rfl rfl En106 rfl (CallT.exC (src b cv) (next_s hcode (by omega) (fun w79 hw79 => ?_)))
        refine RG.pv rfl (PV.mul rfl rfl rfl (by omega)) ?_
        refine RG.pv rfl (PV.sub rfl rfl rfl (by omega)) ?_
        refine RG.pv rfl (PV.mvI (.inr rfl) rfl) ?_
        refine RG.nil ?_
        refine WP.seq ?_
        refine WP.region ?_
        refine RG.pv rfl (PV.mvI (.inr rfl) rfl) ?_
        refine RG.nil ?_
        refine WP.seq ?_
        refine WP.region ?_
        refine RG.pv rfl (PV.mvI (.inl rfl) rfl) ?_
        refine RG.pv rfl (PV.mul rfl rfl rfl (by omega)) ?_
        refine RG.pv rfl (PV.sub rfl rfl rfl (by omega)) ?_
        refine RG.pv rfl (PV.mvI (.inr rfl) rfl) ?_
        refine RG.nil ?_
        refine WP.cut1 [0, 3, 5, 8, 9, 10] (fun (hi2 : Int) => -6 < hi2 ∧ hi2 ≤ 14) (fun (hi2 : Int) => [(11, vi hi2)]) (fun (hi2 : Int) => osl 124 slT q ss :: osl 4 boolT (gd ss 1).v (gd ss 1).xs :: bag ((ss.map (ownS 4 boolT)).set 1 emp) :: src b cv :: L) ?_ ?_
        refine WP.seq ?_
        refine WP.region ?_
        refine RG.pv rfl (PV.move rfl rfl) ?_
        refine RG.callF (vs := [_, _]) rfl rfl En106 rfl (CallT.exC (src b cv) (next_s hcode (by omega) (fun w86 hw86 => ?_)))
        refine RG.pv rfl (PV.eql rfl rfl rfl) ?_
        refine RG.nil ?_
        · refine WP.cond rfl (fun h5 => ?_) (fun h5 => ?_)
          · refine WP.region ?_
            refine RG.pv rfl (PV.mvI (.inr rfl) rfl) ?_
            refine RG.nil ?_
            exact ⟨rfl, 2, (by omega), ⟨rfl, trivial⟩, ⟨rfl, rfl, rfl, rfl, rfl, rfl, trivial⟩, Cv.p⟩
          · refine WP.skip ?_
            exact ⟨rfl, _, (by omega), ⟨rfl, trivial⟩, ⟨rfl, rfl, rfl, rfl, rfl, rfl, trivial⟩, Cv.p⟩
        rintro hi2 τ4 hh
        refine WP.regionHD [.s q, .s (gd ss 1).v] (.q 0 (.q 1 (.q 4 (.q 5 (.q 6 (.q 7 (.q 8 (.q 11 (.b 2 (.b 3 (.l 9 (.q 10 (.q 12 (.l 13 (.l 14 (.l 15 Sch.nil)))))) 9 (.q 10 (.q 12 (.l 3 (.l 13 (.l 14 (.l 15 Sch.nil))))))) 9 (.q 10 (.q 12 (.l 2 (.l 3 (.l 13 (.l 14 (.l 15 Sch.nil)))))))))))))))) (by kernel_rfl) (by kernel_rfl) (by kernel_rfl) rfl ?_
        refine RH.pv rfl (fun _ _ _ _ h => h) (Gh.le_refl _) PickC.pick rfl (PV.move (v := q) rfl rfl) ?_
        refine RH.pv rfl (fun _ _ _ _ h => h) (Gh.le_refl _) PickC.pick rfl (PV.move (v := q) rfl rfl) ?_
        refine RH.pv rfl (fun _ _ _ _ h => h) (Gh.le_refl _) PickC.pick rfl (PV.mvI (.inl rfl) rfl) ?_
        refine RH.pv rfl (fun _ _ _ _ h => h) (Gh.le_refl _) PickC.pick rfl (PV.mvI (.inl rfl) rfl) ?_
        refine RH.pv rfl (fun _ _ _ _ h => h) (Gh.le_refl _) PickC.pick rfl (PV.mvI (.inl rfl) rfl) ?_
        refine RH.pv rfl (fun _ _ _ _ h => h) (Gh.le_refl _) PickC.pick rfl (PV.add rfl rfl rfl (by omega)) ?_
        refine RH.pv rfl (fun _ _ _ _ h => h) (Gh.le_refl _) PickC.pick rfl (PV.move rfl rfl) ?_
        refine RH.pv rfl (fun _ _ _ _ h => h) (Gh.le_refl _) PickC.pick rfl (PV.mvI (.inl rfl) rfl) ?_
        refine RH.ot2 rfl rfl rfl rfl  (OT.pv (PV.idxS (j := 1) (v := q) rfl Is121 rfl SlF.o rfl (by omega) (by omega)) ⟨Gh.le_refl _, PickC.pick, ?_⟩) (OT.callF (vs := [_, _]) rfl En106 rfl (CallT.exC (src b cv) (next_s hcode (by omega) (fun w97 hw97 => ⟨Gh.le_refl _, PickC.pick, ?_⟩))))
        · refine RH.ot2 rfl rfl rfl rfl  (OT.pv (PV.loadE1 rfl Sc124 rfl rfl (El.o (getG (by omega))) rfl) ⟨Gh.le_refl _, PickC.pick, ?_⟩) (OT.callF (vs := [_, _]) rfl En106 rfl (CallT.exC (src b cv) (next_s hcode (by omega) (fun w97 hw97 => ⟨Gh.le_refl _, PickC.pick, ?_⟩))))
          · refine RH.ot rfl rfl (OT.callF (vs := [_, _]) rfl En106 rfl (CallT.exC (src b cv) (next_s hcode (by omega) (fun w97 hw97 => ⟨Gh.le_refl _, PickC.pick, ?_⟩))))
            refine RH.pv rfl (fun _ _ _ _ h => h) (Gh.le_refl _) PickC.pick rfl (PV.add rfl rfl rfl (by omega)) ?_
            refine RH.pv rfl (fun _ _ _ _ h => h) (Gh.le_refl _) PickC.pick rfl (PV.build (vs := [(0, [vi _]), (1, [vi _]), (2, [vi _]), (3, [vi _])]) (out := [_, _, _, _]) rfl Zr61 Pl61 ⟨rfl, (Cl.c rfl), ⟨rfl, (Cl.c rfl), ⟨rfl, (Cl.c rfl), ⟨rfl, (Cl.c rfl), trivial⟩⟩⟩⟩ rfl) ?_
            refine RH.ot rfl rfl (OT.callF (vs := [(gd ss 1).v, _]) rfl En150 rfl (CallT.exS (gd ss 1).v (fill_s (r := ⟨4 * w79 - 7, -6, 4 * w79 - 7 + 1 + w97, hi2⟩) (hss.2 1 (by omega)) (validR_iff.2 (by simp only; omega)) (fun D' hD' hg' => ⟨Gh.le_refl _, PickC.pick, ?_⟩))))
            refine RH.ot rfl rfl (OT.pv (PV.idxS (j := 1) (v := q) rfl Is121 rfl SlF.o rfl (by omega) (by omega)) ⟨Gh.le_refl _, PickC.pick, ?_⟩)
            refine RH.ot rfl rfl (OT.storeE (v := (gd ss 1).v) (a := ⟨(gd ss 1).v, D'⟩) (F := (slT (α := Bool))) rfl Sz124 rfl rfl rfl (Cl.s (v := (gd ss 1).v) SlF.o) (OneC.sl SlF.o OneC.nil) (by omega) ⟨Gh.le_refl _, PickC.pick, ?_⟩)
            refine RH.nil ?_
            refine WP.region ?_
            refine RG.pv rfl (PV.mvI (.inl rfl) rfl) ?_
            refine RG.pv rfl (PV.sub rfl rfl rfl (by omega)) ?_
            refine RG.pv rfl (PV.mvI (.inr rfl) rfl) ?_
            refine RG.nil ?_
            exact ⟨rfl, j - 1, (ss.set 1 ⟨(gd ss 1).v, D'⟩), ⟨by omega, hss.set hD'⟩, ⟨rfl, trivial⟩, ⟨rfl, rfl, rfl, trivial⟩, ((Cv.p (C := osl 4 boolT (gd ss 1).v D' :: osl 124 slT q (ss.set 1 ⟨(gd ss 1).v, D'⟩) :: bag ((ss.map (ownS 4 boolT)).set 1 emp) :: src b cv :: L)).trans (Cv.putB 1 (by have := hss.1; omega))), by omega⟩
          · refine RH.pv rfl (fun _ _ _ _ h => h) (Gh.le_refl _) PickC.pick rfl (PV.add rfl rfl rfl (by omega)) ?_
            refine RH.pv rfl (fun _ _ _ _ h => h) (Gh.le_refl _) PickC.pick rfl (PV.build (vs := [(0, [vi _]), (1, [vi _]), (2, [vi _]), (3, [vi _])]) (out := [_, _, _, _]) rfl Zr61 Pl61 ⟨rfl, (Cl.c rfl), ⟨rfl, (Cl.c rfl), ⟨rfl, (Cl.c rfl), ⟨rfl, (Cl.c rfl), trivial⟩⟩⟩⟩ rfl) ?_
            refine RH.ot rfl rfl (OT.pv (PV.loadE1 rfl Sc124 rfl rfl (El.o (getG (by omega))) rfl) ⟨Gh.le_refl _, PickC.pick, ?_⟩)
            refine RH.ot rfl rfl (OT.callF (vs := [(gd ss 1).v, _]) rfl En150 rfl (CallT.exS (gd ss 1).v (fill_s (r := ⟨4 * w79 - 7, -6, 4 * w79 - 7 + 1 + w97, hi2⟩) (hss.2 1 (by omega)) (validR_iff.2 (by simp only; omega)) (fun D' hD' hg' => ⟨Gh.le_refl _, PickC.pick, ?_⟩))))
            refine RH.ot rfl rfl (OT.pv (PV.idxS (j := 1) (v := q) rfl Is121 rfl SlF.o rfl (by omega) (by omega)) ⟨Gh.le_refl _, PickC.pick, ?_⟩)
            refine RH.ot rfl rfl (OT.storeE (v := (gd ss 1).v) (a := ⟨(gd ss 1).v, D'⟩) (F := (slT (α := Bool))) rfl Sz124 rfl rfl rfl (Cl.s (v := (gd ss 1).v) SlF.o) (OneC.sl SlF.o OneC.nil) (by omega) ⟨Gh.le_refl _, PickC.pick, ?_⟩)
            refine RH.nil ?_
            refine WP.region ?_
            refine RG.pv rfl (PV.mvI (.inl rfl) rfl) ?_
            refine RG.pv rfl (PV.sub rfl rfl rfl (by omega)) ?_
            refine RG.pv rfl (PV.mvI (.inr rfl) rfl) ?_
            refine RG.nil ?_
            exact ⟨rfl, j - 1, (ss.set 1 ⟨(gd ss 1).v, D'⟩), ⟨by omega, hss.set hD'⟩, ⟨rfl, trivial⟩, ⟨rfl, rfl, rfl, trivial⟩, ((Cv.p (C := osl 4 boolT (gd ss 1).v D' :: osl 124 slT q (ss.set 1 ⟨(gd ss 1).v, D'⟩) :: bag ((ss.map (ownS 4 boolT)).set 1 emp) :: src b cv :: L)).trans (Cv.putB 1 (by have := hss.1; omega))), by omega⟩
        · refine RH.pv rfl (fun _ _ _ _ h => h) (Gh.le_refl _) PickC.pick rfl (PV.add rfl rfl rfl (by omega)) ?_
          refine RH.pv rfl (fun _ _ _ _ h => h) (Gh.le_refl _) PickC.pick rfl (PV.build (vs := [(0, [vi _]), (1, [vi _]), (2, [vi _]), (3, [vi _])]) (out := [_, _, _, _]) rfl Zr61 Pl61 ⟨rfl, (Cl.c rfl), ⟨rfl, (Cl.c rfl), ⟨rfl, (Cl.c rfl), ⟨rfl, (Cl.c rfl), trivial⟩⟩⟩⟩ rfl) ?_
          refine RH.ot rfl rfl (OT.pv (PV.idxS (j := 1) (v := q) rfl Is121 rfl SlF.o rfl (by omega) (by omega)) ⟨Gh.le_refl _, PickC.pick, ?_⟩)
          refine RH.ot rfl rfl (OT.pv (PV.loadE1 rfl Sc124 rfl rfl (El.o (getG (by omega))) rfl) ⟨Gh.le_refl _, PickC.pick, ?_⟩)
          refine RH.ot rfl rfl (OT.callF (vs := [(gd ss 1).v, _]) rfl En150 rfl (CallT.exS (gd ss 1).v (fill_s (r := ⟨4 * w79 - 7, -6, 4 * w79 - 7 + 1 + w97, hi2⟩) (hss.2 1 (by omega)) (validR_iff.2 (by simp only; omega)) (fun D' hD' hg' => ⟨Gh.le_refl _, PickC.pick, ?_⟩))))
          refine RH.ot rfl rfl (OT.pv (PV.idxS (j := 1) (v := q) rfl Is121 rfl SlF.o rfl (by omega) (by omega)) ⟨Gh.le_refl _, PickC.pick, ?_⟩)
          refine RH.ot rfl rfl (OT.storeE (v := (gd ss 1).v) (a := ⟨(gd ss 1).v, D'⟩) (F := (slT (α := Bool))) rfl Sz124 rfl rfl rfl (Cl.s (v := (gd ss 1).v) SlF.o) (OneC.sl SlF.o OneC.nil) (by omega) ⟨Gh.le_refl _, PickC.pick, ?_⟩)
          refine RH.nil ?_
          refine WP.region ?_
          refine RG.pv rfl (PV.mvI (.inl rfl) rfl) ?_
          refine RG.pv rfl (PV.sub rfl rfl rfl (by omega)) ?_
          refine RG.pv rfl (PV.mvI (.inr rfl) rfl) ?_
          refine RG.nil ?_
          exact ⟨rfl, j - 1, (ss.set 1 ⟨(gd ss 1).v, D'⟩), ⟨by omega, hss.set hD'⟩, ⟨rfl, trivial⟩, ⟨rfl, rfl, rfl, trivial⟩, ((Cv.p (C := osl 4 boolT (gd ss 1).v D' :: osl 124 slT q (ss.set 1 ⟨(gd ss 1).v, D'⟩) :: bag ((ss.map (ownS 4 boolT)).set 1 emp) :: src b cv :: L)).trans (Cv.putB 1 (by have := hss.1; omega))), by omega⟩
      · refine WP.exit ?_
        refine WP.seq ?_
        refine WP.seq ?_
        refine WP.region ?_
        refine RG.pv rfl (PV.move rfl rfl) ?_
        refine RG.callF (vs := [_, _]) rfl rfl En106 rfl (CallT.exC (src b cv) (next_s hcode (by omega) (fun w104 hw104 => ?_)))
        refine RG.pv rfl (PV.mvI (.inr rfl) rfl) ?_
        refine RG.nil ?_
        refine WP.block ?_
        refine WP.loop2 [0, 3] (fun (j : Int) (ss : List (Sl Bool)) => j ≤ 4 ∧ Sets ss) (fun (j : Int) (ss : List (Sl Bool)) => [(12, vi j)]) (fun (j : Int) (ss : List (Sl Bool)) => osl 124 slT q ss :: bagS 4 boolT ss :: src b cv :: L) (fun (j : Int) (ss : List (Sl Bool)) => j.toNat) w104 ss ⟨by omega, hss⟩ ⟨rfl, trivial⟩ Cv.p ?_
        rintro j ss τ5 ⟨hj, hss⟩
        refine WP.seq ?_
        refine WP.seq ?_
        refine WP.region ?_
        refine RG.pv rfl (PV.mvI (.inl rfl) rfl) ?_
        refine RG.pv rfl (PV.gtr rfl rfl rfl) ?_
        refine RG.nil ?_
        refine WP.cond rfl (fun h6 => ?_) (fun h6 => ?_)
        · have h6 := of_decide_eq_true h6
          have hsl := hss.1
          have hl4 : ([-4, 4, -6, -4] : List Int).length = 4 := rfl
          refine WP.skip ?_
          refine WP.seq ?_
          refine WP.block ?_
          refine WP.cut2 [0, 3, 12] (fun (x y : Int) => (-9 ≤ x ∧ x ≤ 7) ∧ (-6 ≤ y ∧ y ≤ 4)) (fun (x y : Int) => [(13, vi x), (14, vi y)]) (fun (x y : Int) => osl 124 slT q ss :: bagS 4 boolT ss :: src b cv :: L) ?_ ?_
          refine WP.regionH0 (.q 0 (.q 5 (.b 1 (.q 2 (.q 3 (.b 4 (.l 6 (.q 7 (.q 8 (.q 9 (.q 10 Sch.nil))))) 6 (.q 9 (.l 4 (.q 7 (.q 8 (.q 10 Sch.nil)))))))) 4 (.l 1 (.q 2 (.q 3 (.l 6 (.q 7 (.q 8 (.q 9 (.q 10 Sch.nil))))))))))) (by kernel_rfl) (by kernel_rfl) (by kernel_rfl) rfl ?_
          refine RH.pv rfl (fun _ _ _ _ h => h) (Gh.le_refl _) PickC.pick rfl (PV.move rfl rfl) ?_
          refine RH.pv rfl (fun _ _ _ _ h => h) (Gh.le_refl _) PickC.pick rfl (PV.move rfl rfl) ?_
          · refine RH.ot2 rfl rfl rfl rfl  (OT.callF (vs := [_, _]) rfl En106 rfl (CallT.exC (src b cv) (next_s hcode (by omega) (fun w110 hw110 => ⟨Gh.le_refl _, PickC.pick, ?_⟩)))) (OT.bslice (F := intT) (els := [_, _, _, _]) rfl El26 rfl (by decide) rfl (by decide) ⟨rfl, (Cl.c rfl), ⟨rfl, (Cl.c rfl), ⟨rfl, (Cl.c rfl), ⟨rfl, (Cl.c rfl), trivial⟩⟩⟩⟩ fun v113 => ⟨Gh.le_refl _, PickC.pick, ?_⟩)
            · refine RH.pv rfl (fun _ _ _ _ h => h) (Gh.le_refl _) PickC.pick rfl (PV.mul rfl rfl rfl (by omega)) ?_
              refine RH.pv rfl (fun _ _ _ _ h => h) (Gh.le_refl _) PickC.pick rfl (PV.sub rfl rfl rfl (by omega)) ?_
              refine RH.ot2 rfl rfl rfl rfl  (OT.bslice (F := intT) (els := [_, _, _, _]) rfl El26 rfl (by decide) rfl (by decide) ⟨rfl, (Cl.c rfl), ⟨rfl, (Cl.c rfl), ⟨rfl, (Cl.c rfl), ⟨rfl, (Cl.c rfl), trivial⟩⟩⟩⟩ fun v113 => ⟨Gh.le_refl _, PickC.pick, ?_⟩) (OT.callF (vs := [_, _]) rfl En106 rfl (CallT.exC (src b cv) (next_s hcode (by omega) (fun w115 hw115 => ⟨Gh.le_refl _, PickC.pick, ?_⟩))))
              · refine RH.up1 ?_
                refine RH.ot rfl rfl (OT.callF (vs := [_, _]) rfl En106 rfl (CallT.exC (src b cv) (next_s hcode (by omega) (fun w115 hw115 => ⟨Gh.le_refl _, PickC.pick, ?_⟩))))
                refine RH.pv rfl (fun _ _ _ _ h => h) (Gh.le_refl _) PickC.pick rfl (PV.idxS (j := w115.toNat) (v := v113) rfl Is26 rfl SlF.o rfl (by omega) (by omega)) ?_
                refine RH.pv rfl (fun _ _ _ _ h => h) (Gh.le_refl _) PickC.pick rfl (PV.loadE1 rfl Sc2 rfl rfl (El.o (getG (by omega))) rfl) ?_
                refine RH.pv rfl (fun _ _ _ _ h => h) (Gh.le_refl _) PickC.pick rfl (PV.mvI (.inr rfl) rfl) ?_
                refine RH.pv rfl (fun _ _ _ _ h => h) (Gh.le_refl _) PickC.pick rfl (PV.mvI (.inr rfl) rfl) ?_
                refine RH.nil ?_
                exact ⟨rfl, (2 * w110 - 9), (gd [-4, 4, -6, -4] w115.toNat), ⟨by omega, yv_bd (by omega)⟩, ⟨rfl, rfl, trivial⟩, ⟨rfl, rfl, rfl, trivial⟩, Cv.p⟩
              · refine RH.pv rfl (fun _ _ _ _ h => h) (Gh.le_refl _) PickC.pick rfl (PV.mvI (.inr rfl) rfl) ?_
                refine RH.ot rfl rfl (OT.bslice (F := intT) (els := [_, _, _, _]) rfl El26 rfl (by decide) rfl (by decide) ⟨rfl, (Cl.c rfl), ⟨rfl, (Cl.c rfl), ⟨rfl, (Cl.c rfl), ⟨rfl, (Cl.c rfl), trivial⟩⟩⟩⟩ fun v113 => ⟨Gh.le_refl _, PickC.pick, ?_⟩)
                refine RH.up1 ?_
                refine RH.pv rfl (fun _ _ _ _ h => h) (Gh.le_refl _) PickC.pick rfl (PV.idxS (j := w115.toNat) (v := v113) rfl Is26 rfl SlF.o rfl (by omega) (by omega)) ?_
                refine RH.pv rfl (fun _ _ _ _ h => h) (Gh.le_refl _) PickC.pick rfl (PV.loadE1 rfl Sc2 rfl rfl (El.o (getG (by omega))) rfl) ?_
                refine RH.pv rfl (fun _ _ _ _ h => h) (Gh.le_refl _) PickC.pick rfl (PV.mvI (.inr rfl) rfl) ?_
                refine RH.nil ?_
                exact ⟨rfl, (2 * w110 - 9), (gd [-4, 4, -6, -4] w115.toNat), ⟨by omega, yv_bd (by omega)⟩, ⟨rfl, rfl, trivial⟩, ⟨rfl, rfl, rfl, trivial⟩, Cv.p⟩
            · refine RH.up1 ?_
              refine RH.ot rfl rfl (OT.callF (vs := [_, _]) rfl En106 rfl (CallT.exC (src b cv) (next_s hcode (by omega) (fun w110 hw110 => ⟨Gh.le_refl _, PickC.pick, ?_⟩))))
              refine RH.pv rfl (fun _ _ _ _ h => h) (Gh.le_refl _) PickC.pick rfl (PV.mul rfl rfl rfl (by omega)) ?_
              refine RH.pv rfl (fun _ _ _ _ h => h) (Gh.le_refl _) PickC.pick rfl (PV.sub rfl rfl rfl (by omega)) ?_
              refine RH.ot rfl rfl (OT.callF (vs := [_, _]) rfl En106 rfl (CallT.exC (src b cv) (next_s hcode (by omega) (fun w115 hw115 => ⟨Gh.le_refl _, PickC.pick, ?_⟩))))
              refine RH.pv rfl (fun _ _ _ _ h => h) (Gh.le_refl _) PickC.pick rfl (PV.idxS (j := w115.toNat) (v := v113) rfl Is26 rfl SlF.o rfl (by omega) (by omega)) ?_
              refine RH.pv rfl (fun _ _ _ _ h => h) (Gh.le_refl _) PickC.pick rfl (PV.loadE1 rfl Sc2 rfl rfl (El.o (getG (by omega))) rfl) ?_
              refine RH.pv rfl (fun _ _ _ _ h => h) (Gh.le_refl _) PickC.pick rfl (PV.mvI (.inr rfl) rfl) ?_
              refine RH.pv rfl (fun _ _ _ _ h => h) (Gh.le_refl _) PickC.pick rfl (PV.mvI (.inr rfl) rfl) ?_
              refine RH.nil ?_
              exact ⟨rfl, (2 * w110 - 9), (gd [-4, 4, -6, -4] w115.toNat), ⟨by omega, yv_bd (by omega)⟩, ⟨rfl, rfl, trivial⟩, ⟨rfl, rfl, rfl, trivial⟩, Cv.p⟩
          rintro x y τ6 ⟨hx, hy⟩
          refine WP.cv ((Cv.p (C := osl 124 slT q ss :: bagS 4 boolT ss :: src b cv :: L)).trans (Cv.cons (Cv.bagS_take 2 (by have := hss.1; omega)))) ?_
          refine WP.cut1 [0, 3, 12, 13, 14] (fun (ss2 : List (Sl Bool)) => Sets ss2) (fun (ss2 : List (Sl Bool)) => []) (fun (ss2 : List (Sl Bool)) => osl 124 slT q ss2 :: bagS 4 boolT ss2 :: src b cv :: L) ?_ ?_
          refine WP.region ?_
          refine RG.pv rfl (PV.move (v := q) rfl rfl) ?_
          refine RG.pv rfl (PV.move (v := q) rfl rfl) ?_
          refine RG.pv rfl (PV.idxS (j := 2) (v := q) rfl Is121 rfl SlF.o rfl (by omega) (by omega)) ?_
          refine RG.pv rfl (PV.loadE1 rfl Sc124 rfl rfl (El.o (getG (by omega))) rfl) ?_
          refine RG.pv rfl (PV.mvI (.inl rfl) rfl) ?_
          refine RG.pv rfl (PV.mvI (.inl rfl) rfl) ?_
          refine RG.pv rfl (PV.mvI (.inl rfl) rfl) ?_
          refine RG.pv rfl (PV.add rfl rfl rfl (by omega)) ?_
          refine RG.pv rfl (PV.mvI (.inl rfl) rfl) ?_
          refine RG.pv rfl (PV.add rfl rfl rfl (by omega)) ?_
          refine RG.pv rfl (PV.build (vs := [(0, [vi _]), (1, [vi _]), (2, [vi _]), (3, [vi _])]) (out := [_, _, _, _]) rfl Zr61 Pl61 ⟨rfl, (Cl.c rfl), ⟨rfl, (Cl.c rfl), ⟨rfl, (Cl.c rfl), ⟨rfl, (Cl.c rfl), trivial⟩⟩⟩⟩ rfl) ?_
          refine RG.callF (vs := [(gd ss 2).v, _]) rfl rfl En150 rfl (CallT.exS (gd ss 2).v (fill_s (r := ⟨x, y, x + 1, y + 1⟩) (hss.2 2 (by omega)) (validR_iff.2 (by simp only; omega)) (fun D' hD' hg' => ?_)))
          refine RG.pv rfl (PV.idxS (j := 2) (v := q) rfl Is121 rfl SlF.o rfl (by omega) (by omega)) ?_
          refine RG.ot rfl (OT.storeE (v := (gd ss 2).v) (a := ⟨(gd ss 2).v, D'⟩) (F := (slT (α := Bool))) rfl Sz124 rfl rfl rfl (Cl.s (v := (gd ss 2).v) SlF.o) (OneC.sl SlF.o OneC.nil) (by omega) ?_)
          refine RG.nil ?_
          · exact ⟨rfl, (ss.set 2 ⟨(gd ss 2).v, D'⟩), (hss.set hD'), trivial, ⟨rfl, rfl, rfl, rfl, rfl, trivial⟩, ((Cv.p (C := osl 4 boolT (gd ss 2).v D' :: osl 124 slT q (ss.set 2 ⟨(gd ss 2).v, D'⟩) :: bag ((ss.map (ownS 4 boolT)).set 2 emp) :: src b cv :: L)).trans (Cv.putB 2 (by have := hss.1; omega)))⟩
          rintro ss2 τ7 hss2
          have hsl2 := hss2.1
          refine WP.cv ((Cv.p (C := osl 124 slT q ss2 :: bagS 4 boolT ss2 :: src b cv :: L)).trans (Cv.cons (Cv.bagS_take 3 (by have := hss2.1; omega)))) ?_
          refine WP.regionHD [.s q, .s (gd ss2 3).v] (.q 0 (.q 1 (.q 4 (.q 5 (.q 6 (.q 7 (.q 8 (.q 11 (.q 12 (.q 13 (.b 2 (.b 3 (.l 9 (.q 10 (.l 14 (.q 15 (.q 16 (.l 17 (.l 18 (.l 19 Sch.nil)))))))) 9 (.q 10 (.b 3 (.l 14 (.q 15 (.q 16 (.l 17 (.l 18 (.l 19 Sch.nil)))))) 14 (.q 15 (.q 16 (.l 3 (.l 17 (.l 18 (.l 19 Sch.nil))))))))) 9 (.q 10 (.b 2 (.b 3 (.l 14 (.q 15 (.q 16 (.l 17 (.l 18 (.l 19 Sch.nil)))))) 14 (.q 15 (.q 16 (.l 3 (.l 17 (.l 18 (.l 19 Sch.nil))))))) 14 (.q 15 (.q 16 (.l 2 (.l 3 (.l 17 (.l 18 (.l 19 Sch.nil)))))))))))))))))))) (by kernel_rfl) (by kernel_rfl) (by kernel_rfl) rfl ?_
          refine RH.pv rfl (fun _ _ _ _ h => h) (Gh.le_refl _) PickC.pick rfl (PV.move (v := q) rfl rfl) ?_
          refine RH.pv rfl (fun _ _ _ _ h => h) (Gh.le_refl _) PickC.pick rfl (PV.move (v := q) rfl rfl) ?_
          refine RH.pv rfl (fun _ _ _ _ h => h) (Gh.le_refl _) PickC.pick rfl (PV.mvI (.inl rfl) rfl) ?_
          refine RH.pv rfl (fun _ _ _ _ h => h) (Gh.le_refl _) PickC.pick rfl (PV.mvI (.inl rfl) rfl) ?_
          refine RH.pv rfl (fun _ _ _ _ h => h) (Gh.le_refl _) PickC.pick rfl (PV.mvI (.inl rfl) rfl) ?_
          refine RH.pv rfl (fun _ _ _ _ h => h) (Gh.le_refl _) PickC.pick rfl (PV.add rfl rfl rfl (by omega)) ?_
          refine RH.pv rfl (fun _ _ _ _ h => h) (Gh.le_refl _) PickC.pick rfl (PV.move rfl rfl) ?_
          refine RH.pv rfl (fun _ _ _ _ h => h) (Gh.le_refl _) PickC.pick rfl (PV.mvI (.inl rfl) rfl) ?_
          refine RH.pv rfl (fun _ _ _ _ h => h) (Gh.le_refl _) PickC.pick rfl (PV.add rfl rfl rfl (by omega)) ?_
          refine RH.pv rfl (fun _ _ _ _ h => h) (Gh.le_refl _) PickC.pick rfl (PV.move rfl rfl) ?_
          refine RH.ot2 rfl rfl rfl rfl  (OT.pv (PV.idxS (j := 3) (v := q) rfl Is121 rfl SlF.o rfl (by omega) (by omega)) ⟨Gh.le_refl _, PickC.pick, ?_⟩) (OT.callF (vs := [_, _]) rfl En106 rfl (CallT.exC (src b cv) (next_s hcode (by omega) (fun w140 hw140 => ⟨Gh.le_refl _, PickC.pick, ?_⟩))))
          · refine RH.ot2 rfl rfl rfl rfl  (OT.pv (PV.loadE1 rfl Sc124 rfl rfl (El.o (getG (by omega))) rfl) ⟨Gh.le_refl _, PickC.pick, ?_⟩) (OT.callF (vs := [_, _]) rfl En106 rfl (CallT.exC (src b cv) (next_s hcode (by omega) (fun w140 hw140 => ⟨Gh.le_refl _, PickC.pick, ?_⟩))))
            · refine RH.ot rfl rfl (OT.callF (vs := [_, _]) rfl En106 rfl (CallT.exC (src b cv) (next_s hcode (by omega) (fun w140 hw140 => ⟨Gh.le_refl _, PickC.pick, ?_⟩))))
              refine RH.pv rfl (fun _ _ _ _ h => h) (Gh.le_refl _) PickC.pick rfl (PV.add rfl rfl rfl (by omega)) ?_
              refine RH.ot rfl rfl (OT.callF (vs := [_, _]) rfl En106 rfl (CallT.exC (src b cv) (next_s hcode (by omega) (fun w145 hw145 => ⟨Gh.le_refl _, PickC.pick, ?_⟩))))
              refine RH.pv rfl (fun _ _ _ _ h => h) (Gh.le_refl _) PickC.pick rfl (PV.add rfl rfl rfl (by omega)) ?_
              refine RH.pv rfl (fun _ _ _ _ h => h) (Gh.le_refl _) PickC.pick rfl (PV.build (vs := [(0, [vi _]), (1, [vi _]), (2, [vi _]), (3, [vi _])]) (out := [_, _, _, _]) rfl Zr61 Pl61 ⟨rfl, (Cl.c rfl), ⟨rfl, (Cl.c rfl), ⟨rfl, (Cl.c rfl), ⟨rfl, (Cl.c rfl), trivial⟩⟩⟩⟩ rfl) ?_
              refine RH.ot rfl rfl (OT.callF (vs := [(gd ss2 3).v, _]) rfl En150 rfl (CallT.exS (gd ss2 3).v (fill_s (r := ⟨x, y, x + 1 + w140, y + 1 + w145⟩) (hss2.2 3 (by omega)) (validR_iff.2 (by simp only; omega)) (fun D' hD' hg' => ⟨Gh.le_refl _, PickC.pick, ?_⟩))))
              refine RH.ot rfl rfl (OT.pv (PV.idxS (j := 3) (v := q) rfl Is121 rfl SlF.o rfl (by omega) (by omega)) ⟨Gh.le_refl _, PickC.pick, ?_⟩)
              refine RH.ot rfl rfl (OT.storeE (v := (gd ss2 3).v) (a := ⟨(gd ss2 3).v, D'⟩) (F := (slT (α := Bool))) rfl Sz124 rfl rfl rfl (Cl.s (v := (gd ss2 3).v) SlF.o) (OneC.sl SlF.o OneC.nil) (by omega) ⟨Gh.le_refl _, PickC.pick, ?_⟩)
              refine RH.nil ?_
              refine WP.region ?_
              refine RG.pv rfl (PV.mvI (.inl rfl) rfl) ?_
              refine RG.pv rfl (PV.sub rfl rfl rfl (by omega)) ?_
              refine RG.pv rfl (PV.mvI (.inr rfl) rfl) ?_
              refine RG.nil ?_
              exact ⟨rfl, j - 1, (ss2.set 3 ⟨(gd ss2 3).v, D'⟩), ⟨by omega, hss2.set hD'⟩, ⟨rfl, trivial⟩, ⟨rfl, rfl, trivial⟩, ((Cv.p (C := osl 4 boolT (gd ss2 3).v D' :: osl 124 slT q (ss2.set 3 ⟨(gd ss2 3).v, D'⟩) :: bag ((ss2.map (ownS 4 boolT)).set 3 emp) :: src b cv :: L)).trans (Cv.putB 3 (by have := hss2.1; omega))), by omega⟩
            · refine RH.pv rfl (fun _ _ _ _ h => h) (Gh.le_refl _) PickC.pick rfl (PV.add rfl rfl rfl (by omega)) ?_
              refine RH.ot2 rfl rfl rfl rfl  (OT.pv (PV.loadE1 rfl Sc124 rfl rfl (El.o (getG (by omega))) rfl) ⟨Gh.le_refl _, PickC.pick, ?_⟩) (OT.callF (vs := [_, _]) rfl En106 rfl (CallT.exC (src b cv) (next_s hcode (by omega) (fun w145 hw145 => ⟨Gh.le_refl _, PickC.pick, ?_⟩))))
              · refine RH.ot rfl rfl (OT.callF (vs := [_, _]) rfl En106 rfl (CallT.exC (src b cv) (next_s hcode (by omega) (fun w145 hw145 => ⟨Gh.le_refl _, PickC.pick, ?_⟩))))
                refine RH.pv rfl (fun _ _ _ _ h => h) (Gh.le_refl _) PickC.pick rfl (PV.add rfl rfl rfl (by omega)) ?_
                refine RH.pv rfl (fun _ _ _ _ h => h) (Gh.le_refl _) PickC.pick rfl (PV.build (vs := [(0, [vi _]), (1, [vi _]), (2, [vi _]), (3, [vi _])]) (out := [_, _, _, _]) rfl Zr61 Pl61 ⟨rfl, (Cl.c rfl), ⟨rfl, (Cl.c rfl), ⟨rfl, (Cl.c rfl), ⟨rfl, (Cl.c rfl), trivial⟩⟩⟩⟩ rfl) ?_
                refine RH.ot rfl rfl (OT.callF (vs := [(gd ss2 3).v, _]) rfl En150 rfl (CallT.exS (gd ss2 3).v (fill_s (r := ⟨x, y, x + 1 + w140, y + 1 + w145⟩) (hss2.2 3 (by omega)) (validR_iff.2 (by simp only; omega)) (fun D' hD' hg' => ⟨Gh.le_refl _, PickC.pick, ?_⟩))))
                refine RH.ot rfl rfl (OT.pv (PV.idxS (j := 3) (v := q) rfl Is121 rfl SlF.o rfl (by omega) (by omega)) ⟨Gh.le_refl _, PickC.pick, ?_⟩)
                refine RH.ot rfl rfl (OT.storeE (v := (gd ss2 3).v) (a := ⟨(gd ss2 3).v, D'⟩) (F := (slT (α := Bool))) rfl Sz124 rfl rfl rfl (Cl.s (v := (gd ss2 3).v) SlF.o) (OneC.sl SlF.o OneC.nil) (by omega) ⟨Gh.le_refl _, PickC.pick, ?_⟩)
                refine RH.nil ?_
                refine WP.region ?_
                refine RG.pv rfl (PV.mvI (.inl rfl) rfl) ?_
                refine RG.pv rfl (PV.sub rfl rfl rfl (by omega)) ?_
                refine RG.pv rfl (PV.mvI (.inr rfl) rfl) ?_
                refine RG.nil ?_
                exact ⟨rfl, j - 1, (ss2.set 3 ⟨(gd ss2 3).v, D'⟩), ⟨by omega, hss2.set hD'⟩, ⟨rfl, trivial⟩, ⟨rfl, rfl, trivial⟩, ((Cv.p (C := osl 4 boolT (gd ss2 3).v D' :: osl 124 slT q (ss2.set 3 ⟨(gd ss2 3).v, D'⟩) :: bag ((ss2.map (ownS 4 boolT)).set 3 emp) :: src b cv :: L)).trans (Cv.putB 3 (by have := hss2.1; omega))), by omega⟩
              · refine RH.pv rfl (fun _ _ _ _ h => h) (Gh.le_refl _) PickC.pick rfl (PV.add rfl rfl rfl (by omega)) ?_
                refine RH.pv rfl (fun _ _ _ _ h => h) (Gh.le_refl _) PickC.pick rfl (PV.build (vs := [(0, [vi _]), (1, [vi _]), (2, [vi _]), (3, [vi _])]) (out := [_, _, _, _]) rfl Zr61 Pl61 ⟨rfl, (Cl.c rfl), ⟨rfl, (Cl.c rfl), ⟨rfl, (Cl.c rfl), ⟨rfl, (Cl.c rfl), trivial⟩⟩⟩⟩ rfl) ?_
                refine RH.ot rfl rfl (OT.pv (PV.loadE1 rfl Sc124 rfl rfl (El.o (getG (by omega))) rfl) ⟨Gh.le_refl _, PickC.pick, ?_⟩)
                refine RH.ot rfl rfl (OT.callF (vs := [(gd ss2 3).v, _]) rfl En150 rfl (CallT.exS (gd ss2 3).v (fill_s (r := ⟨x, y, x + 1 + w140, y + 1 + w145⟩) (hss2.2 3 (by omega)) (validR_iff.2 (by simp only; omega)) (fun D' hD' hg' => ⟨Gh.le_refl _, PickC.pick, ?_⟩))))
                refine RH.ot rfl rfl (OT.pv (PV.idxS (j := 3) (v := q) rfl Is121 rfl SlF.o rfl (by omega) (by omega)) ⟨Gh.le_refl _, PickC.pick, ?_⟩)
                refine RH.ot rfl rfl (OT.storeE (v := (gd ss2 3).v) (a := ⟨(gd ss2 3).v, D'⟩) (F := (slT (α := Bool))) rfl Sz124 rfl rfl rfl (Cl.s (v := (gd ss2 3).v) SlF.o) (OneC.sl SlF.o OneC.nil) (by omega) ⟨Gh.le_refl _, PickC.pick, ?_⟩)
                refine RH.nil ?_
                refine WP.region ?_
                refine RG.pv rfl (PV.mvI (.inl rfl) rfl) ?_
                refine RG.pv rfl (PV.sub rfl rfl rfl (by omega)) ?_
                refine RG.pv rfl (PV.mvI (.inr rfl) rfl) ?_
                refine RG.nil ?_
                exact ⟨rfl, j - 1, (ss2.set 3 ⟨(gd ss2 3).v, D'⟩), ⟨by omega, hss2.set hD'⟩, ⟨rfl, trivial⟩, ⟨rfl, rfl, trivial⟩, ((Cv.p (C := osl 4 boolT (gd ss2 3).v D' :: osl 124 slT q (ss2.set 3 ⟨(gd ss2 3).v, D'⟩) :: bag ((ss2.map (ownS 4 boolT)).set 3 emp) :: src b cv :: L)).trans (Cv.putB 3 (by have := hss2.1; omega))), by omega⟩
          · refine RH.pv rfl (fun _ _ _ _ h => h) (Gh.le_refl _) PickC.pick rfl (PV.add rfl rfl rfl (by omega)) ?_
            refine RH.ot2 rfl rfl rfl rfl  (OT.pv (PV.idxS (j := 3) (v := q) rfl Is121 rfl SlF.o rfl (by omega) (by omega)) ⟨Gh.le_refl _, PickC.pick, ?_⟩) (OT.callF (vs := [_, _]) rfl En106 rfl (CallT.exC (src b cv) (next_s hcode (by omega) (fun w145 hw145 => ⟨Gh.le_refl _, PickC.pick, ?_⟩))))
            · refine RH.ot2 rfl rfl rfl rfl  (OT.pv (PV.loadE1 rfl Sc124 rfl rfl (El.o (getG (by omega))) rfl) ⟨Gh.le_refl _, PickC.pick, ?_⟩) (OT.callF (vs := [_, _]) rfl En106 rfl (CallT.exC (src b cv) (next_s hcode (by omega) (fun w145 hw145 => ⟨Gh.le_refl _, PickC.pick, ?_⟩))))
              · refine RH.ot rfl rfl (OT.callF (vs := [_, _]) rfl En106 rfl (CallT.exC (src b cv) (next_s hcode (by omega) (fun w145 hw145 => ⟨Gh.le_refl _, PickC.pick, ?_⟩))))
                refine RH.pv rfl (fun _ _ _ _ h => h) (Gh.le_refl _) PickC.pick rfl (PV.add rfl rfl rfl (by omega)) ?_
                refine RH.pv rfl (fun _ _ _ _ h => h) (Gh.le_refl _) PickC.pick rfl (PV.build (vs := [(0, [vi _]), (1, [vi _]), (2, [vi _]), (3, [vi _])]) (out := [_, _, _, _]) rfl Zr61 Pl61 ⟨rfl, (Cl.c rfl), ⟨rfl, (Cl.c rfl), ⟨rfl, (Cl.c rfl), ⟨rfl, (Cl.c rfl), trivial⟩⟩⟩⟩ rfl) ?_
                refine RH.ot rfl rfl (OT.callF (vs := [(gd ss2 3).v, _]) rfl En150 rfl (CallT.exS (gd ss2 3).v (fill_s (r := ⟨x, y, x + 1 + w140, y + 1 + w145⟩) (hss2.2 3 (by omega)) (validR_iff.2 (by simp only; omega)) (fun D' hD' hg' => ⟨Gh.le_refl _, PickC.pick, ?_⟩))))
                refine RH.ot rfl rfl (OT.pv (PV.idxS (j := 3) (v := q) rfl Is121 rfl SlF.o rfl (by omega) (by omega)) ⟨Gh.le_refl _, PickC.pick, ?_⟩)
                refine RH.ot rfl rfl (OT.storeE (v := (gd ss2 3).v) (a := ⟨(gd ss2 3).v, D'⟩) (F := (slT (α := Bool))) rfl Sz124 rfl rfl rfl (Cl.s (v := (gd ss2 3).v) SlF.o) (OneC.sl SlF.o OneC.nil) (by omega) ⟨Gh.le_refl _, PickC.pick, ?_⟩)
                refine RH.nil ?_
                refine WP.region ?_
                refine RG.pv rfl (PV.mvI (.inl rfl) rfl) ?_
                refine RG.pv rfl (PV.sub rfl rfl rfl (by omega)) ?_
                refine RG.pv rfl (PV.mvI (.inr rfl) rfl) ?_
                refine RG.nil ?_
                exact ⟨rfl, j - 1, (ss2.set 3 ⟨(gd ss2 3).v, D'⟩), ⟨by omega, hss2.set hD'⟩, ⟨rfl, trivial⟩, ⟨rfl, rfl, trivial⟩, ((Cv.p (C := osl 4 boolT (gd ss2 3).v D' :: osl 124 slT q (ss2.set 3 ⟨(gd ss2 3).v, D'⟩) :: bag ((ss2.map (ownS 4 boolT)).set 3 emp) :: src b cv :: L)).trans (Cv.putB 3 (by have := hss2.1; omega))), by omega⟩
              · refine RH.pv rfl (fun _ _ _ _ h => h) (Gh.le_refl _) PickC.pick rfl (PV.add rfl rfl rfl (by omega)) ?_
                refine RH.pv rfl (fun _ _ _ _ h => h) (Gh.le_refl _) PickC.pick rfl (PV.build (vs := [(0, [vi _]), (1, [vi _]), (2, [vi _]), (3, [vi _])]) (out := [_, _, _, _]) rfl Zr61 Pl61 ⟨rfl, (Cl.c rfl), ⟨rfl, (Cl.c rfl), ⟨rfl, (Cl.c rfl), ⟨rfl, (Cl.c rfl), trivial⟩⟩⟩⟩ rfl) ?_
                refine RH.ot rfl rfl (OT.pv (PV.loadE1 rfl Sc124 rfl rfl (El.o (getG (by omega))) rfl) ⟨Gh.le_refl _, PickC.pick, ?_⟩)
                refine RH.ot rfl rfl (OT.callF (vs := [(gd ss2 3).v, _]) rfl En150 rfl (CallT.exS (gd ss2 3).v (fill_s (r := ⟨x, y, x + 1 + w140, y + 1 + w145⟩) (hss2.2 3 (by omega)) (validR_iff.2 (by simp only; omega)) (fun D' hD' hg' => ⟨Gh.le_refl _, PickC.pick, ?_⟩))))
                refine RH.ot rfl rfl (OT.pv (PV.idxS (j := 3) (v := q) rfl Is121 rfl SlF.o rfl (by omega) (by omega)) ⟨Gh.le_refl _, PickC.pick, ?_⟩)
                refine RH.ot rfl rfl (OT.storeE (v := (gd ss2 3).v) (a := ⟨(gd ss2 3).v, D'⟩) (F := (slT (α := Bool))) rfl Sz124 rfl rfl rfl (Cl.s (v := (gd ss2 3).v) SlF.o) (OneC.sl SlF.o OneC.nil) (by omega) ⟨Gh.le_refl _, PickC.pick, ?_⟩)
                refine RH.nil ?_
                refine WP.region ?_
                refine RG.pv rfl (PV.mvI (.inl rfl) rfl) ?_
                refine RG.pv rfl (PV.sub rfl rfl rfl (by omega)) ?_
                refine RG.pv rfl (PV.mvI (.inr rfl) rfl) ?_
                refine RG.nil ?_
                exact ⟨rfl, j - 1, (ss2.set 3 ⟨(gd ss2 3).v, D'⟩), ⟨by omega, hss2.set hD'⟩, ⟨rfl, trivial⟩, ⟨rfl, rfl, trivial⟩, ((Cv.p (C := osl 4 boolT (gd ss2 3).v D' :: osl 124 slT q (ss2.set 3 ⟨(gd ss2 3).v, D'⟩) :: bag ((ss2.map (ownS 4 boolT)).set 3 emp) :: src b cv :: L)).trans (Cv.putB 3 (by have := hss2.1; omega))), by omega⟩
            · refine RH.pv rfl (fun _ _ _ _ h => h) (Gh.le_refl _) PickC.pick rfl (PV.add rfl rfl rfl (by omega)) ?_
              refine RH.pv rfl (fun _ _ _ _ h => h) (Gh.le_refl _) PickC.pick rfl (PV.build (vs := [(0, [vi _]), (1, [vi _]), (2, [vi _]), (3, [vi _])]) (out := [_, _, _, _]) rfl Zr61 Pl61 ⟨rfl, (Cl.c rfl), ⟨rfl, (Cl.c rfl), ⟨rfl, (Cl.c rfl), ⟨rfl, (Cl.c rfl), trivial⟩⟩⟩⟩ rfl) ?_
              refine RH.ot rfl rfl (OT.pv (PV.idxS (j := 3) (v := q) rfl Is121 rfl SlF.o rfl (by omega) (by omega)) ⟨Gh.le_refl _, PickC.pick, ?_⟩)
              refine RH.ot rfl rfl (OT.pv (PV.loadE1 rfl Sc124 rfl rfl (El.o (getG (by omega))) rfl) ⟨Gh.le_refl _, PickC.pick, ?_⟩)
              refine RH.ot rfl rfl (OT.callF (vs := [(gd ss2 3).v, _]) rfl En150 rfl (CallT.exS (gd ss2 3).v (fill_s (r := ⟨x, y, x + 1 + w140, y + 1 + w145⟩) (hss2.2 3 (by omega)) (validR_iff.2 (by simp only; omega)) (fun D' hD' hg' => ⟨Gh.le_refl _, PickC.pick, ?_⟩))))
              refine RH.ot rfl rfl (OT.pv (PV.idxS (j := 3) (v := q) rfl Is121 rfl SlF.o rfl (by omega) (by omega)) ⟨Gh.le_refl _, PickC.pick, ?_⟩)
              refine RH.ot rfl rfl (OT.storeE (v := (gd ss2 3).v) (a := ⟨(gd ss2 3).v, D'⟩) (F := (slT (α := Bool))) rfl Sz124 rfl rfl rfl (Cl.s (v := (gd ss2 3).v) SlF.o) (OneC.sl SlF.o OneC.nil) (by omega) ⟨Gh.le_refl _, PickC.pick, ?_⟩)
              refine RH.nil ?_
              refine WP.region ?_
              refine RG.pv rfl (PV.mvI (.inl rfl) rfl) ?_
              refine RG.pv rfl (PV.sub rfl rfl rfl (by omega)) ?_
              refine RG.pv rfl (PV.mvI (.inr rfl) rfl) ?_
              refine RG.nil ?_
              exact ⟨rfl, j - 1, (ss2.set 3 ⟨(gd ss2 3).v, D'⟩), ⟨by omega, hss2.set hD'⟩, ⟨rfl, trivial⟩, ⟨rfl, rfl, trivial⟩, ((Cv.p (C := osl 4 boolT (gd ss2 3).v D' :: osl 124 slT q (ss2.set 3 ⟨(gd ss2 3).v, D'⟩) :: bag ((ss2.map (ownS 4 boolT)).set 3 emp) :: src b cv :: L)).trans (Cv.putB 3 (by have := hss2.1; omega))), by omega⟩
        · refine WP.exit ?_
          refine WP.seq ?_
          refine WP.region ?_
          refine RG.ot rfl (OT.bslice (F := (slT (α := Rect))) (els := []) rfl El29 rfl (by decide) rfl (by decide) trivial fun v150 => ?_)
          refine RG.pv rfl (PV.asg (v := v150) rfl rfl) ?_
          refine RG.nil ?_
          refine WP.seq ?_
          refine WP.seq ?_
          refine WP.region ?_
          refine RG.pv rfl (PV.mvI (.inr rfl) rfl) ?_
          refine RG.nil ?_
          refine WP.block ?_
          refine WP.cv ((Cv.p (C := osl 56 slT v150 ([] : List (Sl Rect)) :: osl 124 slT q ss :: bagS 4 boolT ss :: src b cv :: L)).trans (Cv.cons (Cv.bag0 (e := 61) (F := rectT) (xs := []) rfl))) ?_
          refine WP.loop3 [0, 3] (fun (i : Nat) (ys : List (Sl Rect)) (q2 : Value) => i ≤ 8 ∧ ys.length = i ∧ ∀ s ∈ ys, isReg s.xs = true) (fun (i : Nat) (ys : List (Sl Rect)) (q2 : Value) => [(16, vi i), (15, q2)]) (fun (i : Nat) (ys : List (Sl Rect)) (q2 : Value) => osl 56 slT q2 ys :: bagS 61 rectT ys :: osl 124 slT q ss :: bagS 4 boolT ss :: src b cv :: L) (fun (i : Nat) (ys : List (Sl Rect)) (q2 : Value) => 8 - i) 0 [] v150 ⟨by omega, rfl, fun s h => by cases h⟩ ⟨rfl, rfl, trivial⟩ Cv.p ?_
          rintro i ys q2 τ8 ⟨hi, hyl, hys⟩
          refine WP.seq ?_
          refine WP.seq ?_
          refine WP.region ?_
          refine RG.pv rfl (PV.mvI (.inl rfl) rfl) ?_
          refine RG.pv rfl (PV.lss rfl rfl rfl) ?_
          refine RG.nil ?_
          refine WP.cond rfl (fun h7 => ?_) (fun h7 => ?_)
          · have h7 := of_decide_eq_true h7
            have hsl := hss.1
            have hi6 := hss.2 i (by omega)
            refine WP.skip ?_
            refine WP.seq ?_
            refine WP.block ?_
            refine WP.region ?_
            refine RG.pv rfl (PV.move (v := q2) rfl rfl) ?_
            refine RG.pv rfl (PV.move (v := q) rfl rfl) ?_
            refine RG.pv rfl (PV.mvI (.inl rfl) rfl) ?_
            refine RG.pv rfl (PV.idxS (v := q) rfl Is121 rfl SlF.o rfl rfl (by omega)) ?_
            refine RG.pv rfl (PV.loadE1 rfl Sc124 rfl rfl (El.o (getG (by omega))) rfl) ?_
            refine RG.callF (vs := [_]) rfl rfl En108 rfl (l03Canon_s (Rs.inBag (xs := ss) i (by omega)) hi6 (fun v160 => ?_))
            refine RG.ot rfl (OT.bslice (F := (slT (α := Rect))) (els := [⟨v160, canon (gd ss i).xs⟩]) rfl El29 rfl (by decide) rfl (by decide) ⟨rfl, (Cl.s (v := v160) SlF.o), trivial⟩ fun v161 => ?_)
            refine RG.ot rfl (OT.append (v := q2) (u := v161) (F := (slT (α := Rect))) rfl El29 rfl (by decide) rfl rfl Rs.o (OneL.one (OneC.sl SlF.o OneC.nil)) rfl (by first | omega | (simp <;> omega)) fun v162 => ?_)
            refine RG.pv rfl (PV.asg (v := v162) rfl rfl) ?_
            refine RG.nil ?_
            refine WP.region ?_
            refine RG.pv rfl (PV.mvI (.inl rfl) rfl) ?_
            refine RG.pv rfl (PV.add rfl rfl rfl (by omega)) ?_
            refine RG.pv rfl (PV.mvI (.inr rfl) rfl) ?_
            refine RG.nil ?_
            refine ⟨rfl, i + 1, (ys ++ [⟨v160, canon (gd ss i).xs⟩]), v162, ⟨by omega, by simp [hyl], ?_⟩, ⟨rfl, rfl, trivial⟩, ⟨rfl, rfl, trivial⟩, ((Cv.p (C := osl 56 slT v162 (ys ++ [⟨v160, canon (gd ss i).xs⟩]) :: osl 61 rectT v160 (canon (gd ss i).xs) :: bagS 61 rectT ys :: osl 124 slT q ss :: bagS 4 boolT ss :: src b cv :: L)).trans (Cv.cons Cv.bagS_add)), by omega⟩
            intro s hs
            rcases List.mem_append.1 hs with hs | hs
            · exact hys s hs
            · obtain rfl : s = ⟨v160, canon (gd ss i).xs⟩ := by simpa using hs
              exact isReg_canon hi6
          · have h7 := of_decide_eq_false h7
            obtain rfl : i = 8 := by omega
            have hvr : ∀ s ∈ ys, ∀ r ∈ s.xs, validRect r = true := fun s hs r hr => valid_mem (isReg_valid (hys s hs)) hr
            have hll : ∀ s ∈ ys, s.xs.length ≤ 3200 := fun s hs => isReg_len (hys s hs)
            refine WP.exit ?_
            refine WP.seq ?_
            refine WP.seq ?_
            refine WP.region ?_
            refine RG.pv rfl (PV.move rfl rfl) ?_
            refine RG.callF (vs := [_, _]) rfl rfl En106 rfl (CallT.exC (src b cv) (next_s hcode (by omega) (fun w164 hw164 => ?_)))
            refine RG.pv rfl (PV.eql rfl rfl rfl) ?_
            refine RG.nil ?_
            refine WP.cond rfl (fun h8 => ?_) (fun h8 => ?_)
            · skip
              refine WP.region ?_
              refine RG.pv rfl (PV.move (v := q2) rfl rfl) ?_
              refine RG.callF (vs := [q2]) rfl rfl En174 rfl (turn_s Rs.o RsE.o (by omega) hvr hll (fun v167 zs hzl hzs => ?_))
              refine RG.pv rfl (PV.asg rfl rfl) ?_
              refine RG.nil ?_
              refine WP.seq ?_
              refine WP.region ?_
              refine RG.pv rfl (PV.move rfl rfl) ?_
              refine RG.pv rfl (PV.asg rfl rfl) ?_
              refine RG.nil ?_
              refine WP.ret ?_
              exact ⟨_, _, ResV.one rfl rfl, Cv.p, k v167 zs (by omega) hzs⟩
            · refine WP.skip ?_
              refine WP.seq ?_
              refine WP.region ?_
              refine RG.pv rfl (PV.move (v := q2) rfl rfl) ?_
              refine RG.pv rfl (PV.asg (v := q2) rfl rfl) ?_
              refine RG.nil ?_
              refine WP.ret ?_
              exact ⟨_, _, ResV.one rfl rfl, Cv.p, k q2 ys hyl hys⟩
theorem drawLayout4_s {b : Nat} {cv : Value} {bs : List UInt8} (hcode : SL G byteT cv bs) (k : ∀ v v0 xs ys, Rs G [osl 56 slT v0 ys, bagS 61 rectT ys] slT v xs → (∀ s ∈ xs, s ∈ ys) → xs.length ≤ 8 → R v G (osl 56 slT v0 ys :: bagS 61 rectT ys :: src b cv :: L)) : CallT Tryz.prog 68 #[.pointer (some ⟨b, 0, none⟩)] G (src b cv :: L) R := by
  refine CallT.enter (args := _) Tryz.func68 rfl rfl (by kernel_rfl) rfl ?_
  refine WP.seq ?_
  refine WP.region ?_
  refine RG.pv rfl (PV.asg rfl rfl) ?_
  refine RG.nil ?_
  refine WP.seq ?_
  refine WP.seq ?_
  refine WP.region ?_
  refine RG.pv rfl (PV.move rfl rfl) ?_
  refine RG.callF (vs := [_, _]) rfl rfl En106 rfl (CallT.exC (src b cv) (next_s hcode (by omega) (fun w4 hw4 => ?_)))
  refine RG.pv rfl (PV.eql rfl rfl rfl) ?_
  refine RG.nil ?_
  refine WP.cond rfl (fun h1 => ?_) (fun h1 => ?_)
  · refine WP.seq ?_
    refine WP.region ?_
    refine RG.pv rfl (PV.move rfl rfl) ?_
    refine RG.callF (vs := [_]) rfl rfl En62 rfl (CallT.exC (src b cv) (drawLayout_s hcode (fun v7 v0 xs ys hxs hmem hxl => ?_)))
    refine RG.pv rfl (PV.asg rfl rfl) ?_
    refine RG.nil ?_
    refine WP.ret ?_
    exact ⟨_, _, ResV.one rfl rfl, Cv.p, k _ v0 xs ys hxs hmem hxl⟩
  · refine WP.skip ?_
    refine WP.seq ?_
    refine WP.region ?_
    refine RG.pv rfl (PV.move rfl rfl) ?_
    refine RG.callF (vs := [_]) rfl rfl En113 rfl (CallT.exC (src b cv) (drawCircuit_s hcode (fun v9 ys hyl hys => ?_)))
    refine RG.pv rfl (PV.asg rfl rfl) ?_
    refine RG.nil ?_
    refine WP.ret ?_
    exact ⟨_, _, ResV.one rfl rfl, Cv.p, k v9 v9 ys ys Rs.o (fun s h => h) (by omega)⟩
theorem drawDevices_s {cv : Value} {bs : List UInt8} (hcode : SL G byteT cv bs) (k : ∀ v v0 xs ys, Rs G [osl 56 slT v0 ys, bagS 61 rectT ys] slT v xs → (∀ s ∈ xs, s ∈ ys) → xs.length ≤ 8 → R v G (osl 56 slT v0 ys :: bagS 61 rectT ys :: L)) : CallT Tryz.prog 27 #[cv] G L R := by
  refine CallT.enter (args := _) Tryz.func27 rfl rfl (by kernel_rfl) rfl ?_
  refine WP.seq ?_
  refine WP.region ?_
  refine RG.pv rfl (PV.asg rfl rfl) ?_
  refine RG.nil ?_
  refine WP.seq ?_
  refine WP.region ?_
  refine RG.pv rfl (PV.move (v := cv) rfl rfl) ?_
  refine RG.callF (vs := [cv]) rfl rfl En61 rfl (from_s hcode (fun b => ?_))
  refine RG.callF (vs := [_]) rfl rfl En68 rfl (CallT.exC (src b cv) (drawLayout4_s hcode (fun v8 v0 xs ys hxs hmem hxl => ?_)))
  refine RG.pv rfl (PV.asg rfl rfl) ?_
  refine RG.nil ?_
  refine WP.ret ?_
  exact ⟨_, _, ResV.one rfl rfl, Cv.p, k _ v0 xs ys hxs hmem hxl⟩
end Go.Proofs.YtmomfgfmnpblpaaGreat
namespace Go.Proofs.YtmomfgfmnpblpaaGreat
set_option linter.unusedVariables false
set_option linter.unusedSimpArgs false
open Go
set_option linter.unusedSimpArgs false
set_option maxRecDepth 20000
theorem least {P : Nat → Prop} (n : Nat) : P n → ∃ m, P m ∧ ∀ i, i < m → ¬ P i := by
  induction n using Nat.strongRecOn with
  | ind n ih =>
    intro h
    by_cases c : ∃ i, i < n ∧ P i
    · obtain ⟨i, hi, hp⟩ := c; exact ih i hi hp
    · exact ⟨n, h, fun i hi hp => c ⟨i, hi, hp⟩⟩
theorem comps_cover {S : List Bool} {y x : Nat} (hy : y < 80) (hx : x < 80) : ((comps S).any fun c => gb c y x) = gb S y x := by
  classical
  rw [Bool.eq_iff_iff, List.any_eq_true]
  constructor
  · rintro ⟨c, hc, h⟩
    obtain ⟨j, hj, rfl⟩ := List.mem_map.1 hc
    have hf : First S j := by simpa using (List.mem_filter.1 hj).2
    exact (((comp_iff hy hx).1 h).on hf.1).2.2
  · intro h
    have hon : On S (y, x) := ⟨hy, hx, h⟩
    obtain ⟨m, h1, hmin⟩ := least (P := fun i => On S (cel i) ∧ Conn S (cel i) (y, x)) (pos (y, x)) (by simp only [cel_pos (a := (y, x)) hx]; exact ⟨hon, .refl⟩)
    have hm : m < 6400 := by
      have a1 := h1.1.1; have a2 := h1.1.2.1
      simp only [cel] at a1 a2; omega
    have hf : First S m := ⟨h1.1, fun i hi ho hc => hmin i hi ⟨ho, hc.trans h1.2⟩⟩
    refine ⟨compB S (cel m), List.mem_map.2 ⟨m, List.mem_filter.2 ⟨List.mem_range.2 hm, by simpa using hf⟩, rfl⟩, (comp_iff hy hx).2 h1.2⟩
theorem cnt_sum {bs : List Bool} : ∀ n, n ≤ bs.length → cnt (bs.take n) = sumF (fun k => one (gd bs k)) n
  | 0, _ => by simp [cnt, sumF]
  | n + 1, h => by rw [cnt_take (by omega), cnt_sum n (by omega), sumF]; rfl
theorem cnt_sum' {bs : List Bool} (h : bs.length = 6400) : cnt bs = sumF (fun k => one (gd bs k)) 6400 := by
  rw [← cnt_sum 6400 (by omega), List.take_of_length_le (by omega)]
/-- the parts of a set have as many cells as the set -/
theorem comps_cnt {S : List Bool} (hS : S.length = 6400) : costL cnt (comps S) = cnt S := by
  rw [costL_congr (g := fun c => sumF (fun k => one (gd c k)) 6400) fun c hc => cnt_sum' (comps_mem hc), ← sumF_costL, cnt_sum' hS]
  refine sumF_congr fun n hn => ?_
  have e : n / 80 * 80 + n % 80 = n := by omega
  have hp : (comps S).Pairwise fun c d => ¬ (gd c n = true ∧ gd d n = true) := (comps_apart S).imp fun {c d} h ⟨h1, h2⟩ => h (n / 80) (n % 80) (by omega) (by omega) (by rw [gb, e]; exact h1) (by rw [gb, e]; exact h2)
  rw [← one_any hp]
  have := comps_cover (S := S) (y := n / 80) (x := n % 80) (by omega) (by omega)
  simp only [gb, e] at this
  rw [this]
theorem costL_perm {α : Type} (f : α → Int) {xs ys : List α} (h : xs.Perm ys) : costL f xs = costL f ys := by
  induction h with
  | nil => rfl
  | cons x _ ih => simp only [costL, ih]
  | swap x y l => simp only [costL]; omega
  | trans _ _ ih1 ih2 => rw [ih1, ih2]
theorem costL_map {α β : Type} (f : β → Int) (g : α → β) : ∀ xs : List α, costL f (xs.map g) = costL (fun x => f (g x)) xs
  | [] => rfl
  | x :: xs => by simp only [List.map_cons, costL, costL_map f g xs]
theorem costL_flatten {α : Type} (f : α → Int) : ∀ xs : List (List α), costL f xs.flatten = costL (costL f) xs
  | [] => rfl
  | x :: xs => by rw [List.flatten_cons, costL_append, costL_flatten f xs]; rfl
theorem costL_one {α : Type} (xs : List α) : costL (fun _ => 1) xs = xs.length := by rw [costL_const]; omega
theorem pcL_cnt (l : List (List Rect)) : costL (fun p => cnt p.2) (pcL l 4) = costL cnt (condB l) := by
  have h : ∀ i, i < 4 → costL (fun p : Int × List Bool => cnt p.2) ((comps (gd (condB l) i)).map fun c => (gd [0, 1, 3, 5] i, c)) = cnt (gd (condB l) i) := fun i hi => by
    rw [costL_map, ← comps_cnt (condB_len l hi)]
  have h0 : pcL l 0 = [] := rfl
  rw [pcL_succ, pcL_succ, pcL_succ, pcL_succ, costL_append, costL_append, costL_append, costL_append, h 0 (by omega), h 1 (by omega), h 2 (by omega), h 3 (by omega), h0]
  simp only [costL, condB, gd, List.getElem?_cons_zero, List.getElem?_cons_succ, Option.getD_some]; omega
/-- the cells of a net, told by its pieces -/
def netCE (z : List (Int × List Rect)) : Int := netC (z.map Prod.snd)
theorem netL_mem {l : List (List Rect)} {z : List (Int × List Rect)} (h : z ∈ netL l) : ∀ p ∈ z, ∃ q ∈ pcL l 4, p = pcR q := by
  intro p hp
  have hm : p ∈ (netL l).flatten := List.mem_flatten.2 ⟨z, h, hp⟩
  have hlen : ((pcL l 4).map pcR).length = (pcL l 4).length := by simp
  have := netsP_perm (clsL_rt l) ((pcL l 4).map pcR) (by rw [clsL_len, hlen])
  rw [hlen] at this
  have := this.mem_iff.1 hm
  obtain ⟨q, hq, rfl⟩ := List.mem_map.1 this
  exact ⟨q, hq, rfl⟩
theorem netL_perm (l : List (List Rect)) : (netL l).flatten.Perm ((pcL l 4).map pcR) := by
  have hlen : ((pcL l 4).map pcR).length = (pcL l 4).length := by simp
  have := netsP_perm (clsL_rt l) ((pcL l 4).map pcR) (by rw [clsL_len, hlen])
  rw [hlen] at this; exact this
theorem netCE_eq {z : List (Int × List Rect)} (h : ∀ p ∈ z, isReg p.2 = true) : netCE z = costL (fun p => areaS p.2) z := by
  rw [netCE, netC_all fun i hi => ?_, costL_map]
  rw [List.length_map] at hi
  rw [gd_map _ hi]; exact h _ (by rw [gd_eq hi]; exact List.getElem_mem hi)
theorem netL_reg {l : List (List Rect)} {z : List (Int × List Rect)} (h : z ∈ netL l) : ∀ p ∈ z, isReg p.2 = true := fun p hp => by
  obtain ⟨q, hq, rfl⟩ := netL_mem h p hp
  exact isReg_canon (pcL_mem hq)
/-- the nets have the cells of the conductors -/
theorem netL_cells (l : List (List Rect)) : costL netCE (netL l) = costL cnt (condB l) := by
  rw [costL_congr (g := costL fun p => areaS p.2) fun z hz => netCE_eq (netL_reg hz), ← costL_flatten, costL_perm _ (netL_perm l), costL_map, ← pcL_cnt]
  exact costL_congr fun p hp => cnt_canon (pcL_mem hp)
theorem netL_count (l : List (List Rect)) : costL (fun z => (z.length : Int)) (netL l) = ((pcL l 4).length : Int) := by
  have h := costL_flatten (fun _ => 1) (netL l)
  rw [costL_one, (netL_perm l).length_eq, List.length_map] at h
  rw [h]; exact costL_congr fun z _ => (costL_one z).symm
theorem stepJ_keep {J : Nat → Nat → Bool} {i k a b : Nat} {c : List Int} (ha : a < c.length) (hb : b < c.length) (h : gd c a = gd c b) : gd (stepJ J i c k) a = gd (stepJ J i c k) b := by
  unfold stepJ
  split
  · exact h
  · rw [gd_map _ ha, gd_map _ hb, h]
theorem inJ_keep {J : Nat → Nat → Bool} {i a b : Nat} {c : List Int} (ha : a < c.length) (hb : b < c.length) (h : gd c a = gd c b) : ∀ k, gd (inJ J i c k) a = gd (inJ J i c k) b
  | 0 => by rw [inJ_zero, gd_app_l ha, gd_app_l hb, h]
  | k + 1 => by
    rw [inJ_succ]
    exact stepJ_keep (by rw [inJ_len]; omega) (by rw [inJ_len]; omega) (inJ_keep ha hb h k)
theorem rootsJ_keep {J : Nat → Nat → Bool} {a b n : Nat} (ha : a < n) (hb : b < n) (h : gd (rootsJ J n) a = gd (rootsJ J n) b) : ∀ m, n ≤ m → gd (rootsJ J m) a = gd (rootsJ J m) b
  | 0, hm => by omega
  | m + 1, hm => by
    by_cases e : n = m + 1
    · rw [← e]; exact h
    · rw [rootsJ]
      exact inJ_keep (by rw [rootsJ_len]; omega) (by rw [rootsJ_len]; omega) (rootsJ_keep ha hb h m (by omega)) m
theorem inJ_join {J : Nat → Nat → Bool} {i k : Nat} {c : List Int} (hc : c.length = i) (hk : k < i) (hJ : J k i = true) : ∀ m, k < m → gd (inJ J i c m) k = gd (inJ J i c m) i
  | 0, h => by omega
  | m + 1, h => by
    rw [inJ_succ]
    have hl := inJ_len J i c m
    by_cases e : k = m
    · subst e
      unfold stepJ
      split
      · rename_i h1
        rcases h1 with h1 | h1
        · exact h1
        · rw [hJ] at h1; cases h1
      · rw [gd_map _ (by omega), gd_map _ (by omega)]
        simp only [rl]
        split <;> split <;> omega
    · exact stepJ_keep (by omega) (by omega) (inJ_join hc hk hJ m (by omega))
theorem rootsJ_join {J : Nat → Nat → Bool} {k i n : Nat} (hk : k < i) (hi : i < n) (hJ : J k i = true) : gd (rootsJ J n) k = gd (rootsJ J n) i := by
  refine rootsJ_keep (n := i + 1) (by omega) (by omega) ?_ n (by omega)
  rw [rootsJ]
  exact inJ_join (rootsJ_len J i) hk hJ i hk
theorem jnL_symm (l : List (List Rect)) (p q : Int × List Bool) : jnL l p q = jnL l q p := by
  simp only [jnL, jnR_eq, mt_comm p.2 q.2]
  rw [show decide (p.1 = q.1) = decide (q.1 = p.1) by rw [Bool.eq_iff_iff]; simp; omega, Bool.or_comm (decide (p.1 = 3)), Bool.or_comm (decide (p.1 = 5))]
/-- joined pieces are on one net -/
theorem numR_join {l : List (List Rect)} {k i : Nat} (hk : k < (pcL l 4).length) (hi : i < (pcL l 4).length) (h : jnL l (gd (pcL l 4) k) (gd (pcL l 4) i) = true) : numR (clsL l) k = numR (clsL l) i := by
  have key : gd (clsL l) k = gd (clsL l) i := by
    rcases Nat.lt_trichotomy k i with c | c | c
    · exact rootsJ_join c hi h
    · rw [c]
    · exact (rootsJ_join (J := JL l) c hk (by rw [JL, jnL_symm]; exact h)).symm
  rw [numR, numR, key]
end Go.Proofs.YtmomfgfmnpblpaaGreat
namespace Go.Proofs.YtmomfgfmnpblpaaGreat
set_option linter.unusedVariables false
set_option linter.unusedSimpArgs false
open Go
set_option linter.unusedSimpArgs false
set_option maxRecDepth 20000
/-- the cells of a union of sets that share no cell -/
theorem cnt_union {cs : List (List Bool)} (h6 : ∀ c ∈ cs, c.length = 6400) (hp : cs.Pairwise fun c d => ∀ y x, y < 80 → x < 80 → gb c y x = true → gb d y x = true → False) : cnt (bits (cs.map canon).flatten) = costL cnt cs := by
  rw [cnt_sum' (bits_length _), costL_congr (g := fun c => sumF (fun k => one (gd c k)) 6400) fun c hc => cnt_sum' (h6 c hc), ← sumF_costL]
  refine sumF_congr fun n hn => ?_
  have e : n / 80 * 80 + n % 80 = n := by omega
  have hp2 : cs.Pairwise fun c d => ¬ (gd c n = true ∧ gd d n = true) := hp.imp fun {c d} h ⟨h1, h2⟩ => h (n / 80) (n % 80) (by omega) (by omega) (by rw [gb, e]; exact h1) (by rw [gb, e]; exact h2)
  rw [← one_any hp2]
  congr 1
  have h1 := gb_bits' (cs.map canon).flatten (y := n / 80) (x := n % 80) (by omega) (by omega)
  rw [gb, e] at h1
  rw [h1, List.any_flatten, List.any_map]
  rw [Bool.eq_iff_iff, List.any_eq_true, List.any_eq_true]
  constructor
  · rintro ⟨c, hc, h⟩
    refine ⟨c, hc, ?_⟩
    have h2 := gb_bits' (canon c) (y := n / 80) (x := n % 80) (by omega) (by omega)
    rw [bits_canon (h6 c hc), gb, e] at h2
    rw [h2]; exact h
  · rintro ⟨c, hc, h⟩
    refine ⟨c, hc, ?_⟩
    have h2 := gb_bits' (canon c) (y := n / 80) (x := n % 80) (by omega) (by omega)
    rw [bits_canon (h6 c hc), gb, e] at h2
    show ((canon c).any fun r => inR r (n / 80) (n % 80)) = true
    rw [← h2]; exact h
theorem costL_filter {α : Type} (f : α → Int) (p : α → Bool) : ∀ xs : List α, costL f (xs.filter p) + costL f (xs.filter fun x => !p x) = costL f xs
  | [] => by simp [costL]
  | x :: xs => by
    have ih := costL_filter f p xs
    cases hp : p x <;> simp [hp, costL] <;> omega
theorem partsC_cnt (l : List (List Rect)) : costL areaS (partsC l) = cnt (regC l) := by
  rw [partsC, partsL, costL_map, ← comps_cnt (regC_len l)]
  exact costL_congr fun c hc => cnt_canon (comps_mem hc)
theorem malf_cnt (l : List (List Rect)) : cnt (bits (malf l).flatten) = costL areaS (malf l) := by
  have e : malf l = ((comps (regC l)).filter fun c => !isCh l (canon c)).map canon := by
    rw [malf, partsC, partsL, List.filter_map]; rfl
  have hs : (((comps (regC l)).filter fun c => !isCh l (canon c))).Sublist (comps (regC l)) := List.filter_sublist
  rw [e, cnt_union (fun c hc => comps_mem (hs.subset hc)) ((comps_apart (regC l)).sublist hs), costL_map]
  exact costL_congr fun c hc => (cnt_canon (comps_mem (hs.subset hc))).symm
theorem chans_cnt (l : List (List Rect)) : costL (fun c : Chan => areaR c.box) (chans l) = costL areaS ((partsC l).filter (isCh l)) := by
  rw [chans, costL_map]
  refine costL_congr fun g hg => ?_
  obtain ⟨h1, h2⟩ := List.mem_filter.1 hg
  have hl := (chan_kind (partsC_ne h1).1 (partsC_ne h1).2 h2).1
  obtain ⟨r, rfl⟩ : ∃ r, g = [r] := List.length_eq_one_iff.1 hl
  simp [mkCh, gd, areaS]
theorem chan_areas (l : List (List Rect)) : costL (fun c : Chan => areaR c.box) (chans l) + cnt (bits (malf l).flatten) = cnt (regC l) := by
  rw [chans_cnt, malf_cnt, malf, costL_filter, partsC_cnt]
end Go.Proofs.YtmomfgfmnpblpaaGreat
namespace Go.Proofs.YtmomfgfmnpblpaaGreat
set_option linter.unusedVariables false
set_option linter.unusedSimpArgs false
open Go
set_option maxRecDepth 20000
set_option linter.unusedSimpArgs false
variable {G : Gh} {L : List Ch} {R : Value → Gh → List Ch → Prop}
theorem channels_i {v : Value} {xs : List (Sl Rect)} (h1 : Rs G L slT v xs) (hd : RsE G L rectT xs) (k : ∀ v', R v' G (osl 61 rectT v' (boxesE (er xs)) :: L)) : CallT Tryz.prog 29 #[v] G L R := by
  refine CallT.enter (args := _) Tryz.func29 rfl rfl (by kernel_rfl) rfl ?_
  refine WP.seq ?_
  refine WP.region ?_
  refine RG.pv rfl (PV.asg rfl rfl) ?_
  refine RG.nil ?_
  refine WP.seq ?_
  refine WP.seq ?_
  refine WP.region ?_
  refine RG.pv rfl (PV.move (v := v) rfl rfl) ?_
  refine RG.callF (vs := [v]) rfl rfl En53 rfl (isLayout_s (Rs.up h1) hd.up ?_)
  refine RG.pv rfl (PV.not rfl rfl) ?_
  refine RG.nil ?_
  refine WP.cond rfl (fun h2 => ?_) (fun h2 => ?_)
  · have h3 : isLay (er xs) = false := by simpa using h2
    have e : boxesE (er xs) = [] := by rw [boxesE, h3]; rfl
    rw [e] at k
    refine WP.seq ?_
    refine WP.region ?_
    refine RG.pv rfl (PV.asg rfl rfl) ?_
    refine RG.nil ?_
    refine WP.ret ?_
    exact ⟨_, _, ResV.one rfl rfl, Cv.nilP, k _⟩
  · have hlay : isLay (er xs) = true := by simpa using h2
    have e : boxesE (er xs) = (chans (er xs)).map Chan.box := by rw [boxesE, hlay]; rfl
    rw [e] at k
    refine WP.skip ?_
    refine WP.seq ?_
    refine WP.region ?_
    refine RG.pv rfl (PV.move (v := v) rfl rfl) ?_
    refine RG.callF (vs := [v]) rfl rfl En69 rfl (channelsOf_s (Rs.up h1) hd.up hlay (fun v13 u13 cs13 zs13 hc13 hz13 => ?_))
    refine RG.pv rfl (PV.move (v := .tuple _) rfl rfl) ?_
    refine RG.pv rfl (PV.ext (v := v13) rfl rfl rfl) ?_
    refine RG.pv rfl (PV.ext (v := u13) rfl rfl rfl) ?_
    refine RG.pv rfl (PV.asg (v := v13) rfl rfl) ?_
    refine RG.pv rfl (PV.asg (v := u13) rfl rfl) ?_
    refine RG.nil ?_
    refine WP.seq ?_
    refine WP.region ?_
    refine RG.ot rfl (OT.bslice (F := rectT) (els := []) rfl El56 rfl (by decide) rfl (by decide) trivial fun v16 => ?_)
    refine RG.pv rfl (PV.asg (v := v16) rfl rfl) ?_
    refine RG.nil ?_
    refine WP.seq ?_
    refine WP.seq ?_
    refine WP.region ?_
    refine RG.pv rfl (PV.move (v := v13) rfl rfl) ?_
    refine RG.pv rfl (PV.len (v := v13) rfl Tryz.underlying106 rfl SlF.o) ?_
    refine RG.pv rfl (PV.mvI (.inl rfl) rfl) ?_
    refine RG.nil ?_
    refine WP.block ?_
    subst hc13
    have hcl := chans_len (er xs)
    refine WP.loop3 [17, 18] (fun (i : Nat) (us : List Rect) (q : Value) => i ≤ (chans (er xs)).length ∧ us = ((chans (er xs)).take i).map Chan.box) (fun (i : Nat) (us : List Rect) (q : Value) => [(19, vi i), (5, q)]) (fun (i : Nat) (us : List Rect) (q : Value) => osl 61 rectT q us :: osl 110 chanT v13 (chans (er xs)) :: L) (fun (i : Nat) (us : List Rect) (q : Value) => (chans (er xs)).length - i) 0 [] v16 ⟨by omega, rfl⟩ ⟨rfl, rfl, trivial⟩ Cv.p ?_
    rintro i us q τ ⟨hi, hus⟩
    refine WP.seq ?_
    refine WP.region ?_
    refine RG.pv rfl (PV.lss rfl rfl rfl) ?_
    refine RG.nil ?_
    refine WP.seq ?_
    have hbl : us.length ≤ 6400 := by rw [hus, List.length_map, List.length_take]; omega
    refine WP.cond rfl (fun h4 => ?_) (fun h4 => ?_)
    · have h4 := of_decide_eq_true h4
      have htk : ((chans (er xs)).take (i + 1)).map Chan.box = ((chans (er xs)).take i).map Chan.box ++ [(gd (chans (er xs)) i).box] := by rw [List.take_add_one, getG (by omega), List.map_append]; rfl
      refine WP.skip ?_
      refine WP.seq ?_
      refine WP.block ?_
      refine WP.seq ?_
      refine WP.region ?_
      refine RG.pv rfl (PV.idxS (v := v13) rfl Is106 rfl SlF.o rfl rfl (by omega)) ?_
      refine RG.pv rfl (PV.loadE rfl Ag110 rfl rfl (El.o (getG (by omega)))) ?_
      refine RG.ot rfl (OT.alloc rfl Zr110 fun b7 => ?_)
      refine RG.ot rfl (OT.storeW (vs := [vi _, vi _, vi _, vi _, vi _, .bool _]) rfl Sz110 rfl rfl (Cl.c rfl) rfl rfl (OneC.c rfl) ?_)
      refine RG.nil ?_
      refine WP.region ?_
      refine RG.pv rfl (PV.move (v := q) rfl rfl) ?_
      refine RG.pv rfl (PV.field rfl Fo110_0 rfl) ?_
      refine RG.pv rfl (PV.loadB (vs := [_, _, _, _]) rfl Ag61 rfl rfl rfl) ?_
      refine RG.ot rfl (OT.bslice (F := rectT) (els := [_]) rfl El56 rfl (by decide) rfl (by decide) ⟨rfl, (Cl.c rfl), trivial⟩ fun v26 => ?_)
      refine RG.ot rfl (OT.append (v := q) (u := v26) (F := rectT) rfl El56 rfl (by decide) rfl rfl Rs.o (OneL.c (fun _ => rfl)) rfl (by first | omega | (simp <;> omega)) fun v27 => ?_)
      refine RG.pv rfl (PV.asg (v := v27) rfl rfl) ?_
      refine RG.nil ?_
      refine WP.region ?_
      refine RG.pv rfl (PV.add rfl rfl rfl (by omega)) ?_
      refine RG.pv rfl (PV.mvI (.inl rfl) rfl) ?_
      refine RG.nil ?_
      exact ⟨rfl, i + 1, (us ++ [(gd (chans (er xs)) i).box]), v27, ⟨by omega, by rw [hus, htk]⟩, ⟨rfl, rfl, trivial⟩, ⟨rfl, rfl, trivial⟩, Cv.p, by omega⟩
    · have h4 := of_decide_eq_false h4
      obtain rfl : i = (chans (er xs)).length := by omega
      rw [List.take_of_length_le (Nat.le_refl _)] at hus
      refine WP.exit ?_
      refine WP.seq ?_
      refine WP.region ?_
      refine RG.pv rfl (PV.move (v := q) rfl rfl) ?_
      refine RG.pv rfl (PV.asg (v := q) rfl rfl) ?_
      refine RG.nil ?_
      refine WP.ret ?_
      rw [← hus] at k
      exact ⟨_, _, ResV.one rfl rfl, Cv.p, k q⟩
theorem drawn_hd {e e' : TypeId} {v0 : Value} {xs ys : List (Sl Rect)} (h : ∀ s ∈ xs, s ∈ ys) : RsE G [osl e' slT v0 ys, bagS e rectT ys] rectT xs := fun _ hi => Rs.memB (h _ (gd_mem hi))
theorem areaE_cn {bs : List Bool} (h : bs.length = 6400) : areaE (canon bs) = cnt bs := by
  rw [areaE, isReg_canon h, bits_canon h]; rfl
/-- what is told of a rectangle of a channel -/
theorem box_facts {l : List (List Rect)} (hl : isLay l = true) {box : Rect} (h : box ∈ (chans l).map Chan.box) : (sizeE l box).1 * (sizeE l box).2 = areaR box ∧ 1 ≤ (sizeE l box).1 ∧ (sizeE l box).1 ≤ 80 ∧ 1 ≤ (sizeE l box).2 ∧ (sizeE l box).2 ≤ 80 ∧ 0 ≤ kindE l box := by
  obtain ⟨c0, hc0, hb0⟩ := List.mem_map.1 h
  have hs : ∃ c, chanE l box = some c := by
    rw [chanE, hl, cond_true, chanW]
    cases hf : (chans l).find? (fun c => decide (c.box = box)) with
    | some c => exact ⟨c, rfl⟩
    | none =>
      exfalso
      rw [List.find?_eq_none] at hf
      exact hf c0 hc0 (by simp [hb0])
  obtain ⟨c, hc⟩ := hs
  obtain ⟨h1, h2, h3, h4⟩ := chanE_valid hc
  rw [sizeE_eq, kindE_eq, hc]
  have hv := validR_iff.1 h1
  rw [← h3]
  simp only [sizeC, areaR]
  cases c.hor
  · exact ⟨rfl, by simp only [cond_false]; omega, by simp only [cond_false]; omega, by simp only [cond_false]; omega, by simp only [cond_false]; omega, h2⟩
  · exact ⟨Int.mul_comm _ _, by simp only [cond_true]; omega, by simp only [cond_true]; omega, by simp only [cond_true]; omega, by simp only [cond_true]; omega, h2⟩
theorem chan_kinds (l : List (List Rect)) : cntP (fun c : Chan => decide (c.kind = 0)) (chans l) + cntP (fun c : Chan => decide (c.kind = 1)) (chans l) = ((chans l).length : Int) := by
  have : ∀ cs : List Chan, (∀ c ∈ cs, 0 ≤ c.kind ∧ c.kind ≤ 1) → cntP (fun c : Chan => decide (c.kind = 0)) cs + cntP (fun c : Chan => decide (c.kind = 1)) cs = (cs.length : Int) := fun cs => by
    induction cs with
    | nil => intro _; rfl
    | cons c cs ih =>
      intro h
      have h1 := h c (.head _)
      have h2 := ih fun d hd => h d (.tail _ hd)
      simp only [cntP, List.filter_cons, List.length_cons] at *
      rcases (by omega : c.kind = 0 ∨ c.kind = 1) with e | e <;> simp [e] <;> omega
  refine this _ fun c hc => ?_
  obtain ⟨g, hg, hi, rfl⟩ := chans_mem hc
  have := chK_bd l g
  exact ⟨of_decide_eq_true hi, this.2⟩
end Go.Proofs.YtmomfgfmnpblpaaGreat
namespace Go.Proofs.YtmomfgfmnpblpaaGreat
set_option linter.unusedVariables false
set_option linter.unusedSimpArgs false
open Go
set_option maxRecDepth 20000
set_option linter.unusedSimpArgs false
variable {G : Gh} {L : List Ch} {R : Value → Gh → List Ch → Prop}
def erD (d : Dev) : Int × List Int × Int × Int := (d.kind, d.pins.xs, d.width, d.length)
def pinsOf (ds : List Dev) : List (Sl Int) := ds.map Dev.pins
noncomputable def devOf (l : List (List Rect)) (c : Chan) : Int × List Int × Int × Int := (c.kind, pinsL l c.box (!c.hor), (sizeC c).1, (sizeC c).2)
noncomputable def devC (l : List (List Rect)) : Int := if netE l = 0 then (if 0 < (malf l).length then 6 else if 24 < (chans l).length then 3 else 0) else netE l
noncomputable def devR (l : List (List Rect)) : List (Int × List Int × Int × Int) := if devC l = 0 then (chans l).map (devOf l) else []
theorem devices_i {v : Value} {xs : List (Sl Rect)} (h1 : Rs G L slT v xs) (hd : RsE G L rectT xs) (k : ∀ v' ds, ds.map erD = devR (er xs) → R (.tuple #[v', vi (devC (er xs))]) G (osl 64 devT v' ds :: bagS 2 intT (pinsOf ds) :: L)) : CallT Tryz.prog 28 #[v] G L R := by
  refine CallT.enter (args := _) Tryz.func28 rfl rfl (by kernel_rfl) rfl ?_
  refine WP.seq ?_
  refine WP.region ?_
  refine RG.pv rfl (PV.asg rfl rfl) ?_
  refine RG.pv rfl (PV.mvI (.inr rfl) rfl) ?_
  refine RG.nil ?_
  refine WP.seq ?_
  refine WP.region ?_
  refine RG.pv rfl (PV.move (v := v) rfl rfl) ?_
  refine RG.callF (vs := [v]) rfl rfl En55 rfl (nets_i (Rs.up h1) hd.up (fun w15 zsw15 hew15 => ?_))
  refine RG.pv rfl (PV.move (v := .tuple _) rfl rfl) ?_
  refine RG.pv rfl (PV.ext (v := w15) rfl rfl rfl) ?_
  refine RG.pv rfl (PV.ext rfl rfl rfl) ?_
  refine RG.pv rfl (PV.asg (v := w15) rfl rfl) ?_
  refine RG.pv rfl (PV.mvI (.inr rfl) rfl) ?_
  refine RG.nil ?_
  refine WP.seq ?_
  refine WP.seq ?_
  refine WP.region ?_
  refine RG.pv rfl (PV.mvI (.inl rfl) rfl) ?_
  refine RG.pv rfl (PV.neq rfl rfl rfl) ?_
  refine RG.nil ?_
  refine WP.cond rfl (fun h2 => ?_) (fun h2 => ?_)
  · have h3 : netE (er xs) ≠ 0 := by simpa using h2
    have e1 : devC (er xs) = netE (er xs) := by rw [devC, if_neg h3]
    have e2 : devR (er xs) = [] := by rw [devR, e1, if_neg h3]
    rw [e1, e2] at k
    refine WP.seq ?_
    refine WP.region ?_
    refine RG.pv rfl (PV.mvI (.inl rfl) rfl) ?_
    refine RG.pv rfl (PV.asg rfl rfl) ?_
    refine RG.pv rfl (PV.mvI (.inr rfl) rfl) ?_
    refine RG.nil ?_
    refine WP.ret ?_
    exact ⟨_, _, ResV.two rfl rfl rfl, ((Cv.p (C := L)).trans (Cv.nilS.trans (Cv.cons (Cv.bag0 (e := 2) (F := intT) (xs := pinsOf []) rfl)))), k _ [] rfl⟩
  · have h3 : netE (er xs) = 0 := by simpa using h2
    have hlay := (netE_ok h3).1
    have he : (er (nps zsw15)).map erPs = netL (er xs) := by rw [hew15, netR, if_pos h3]
    refine WP.skip ?_
    refine WP.seq ?_
    refine WP.region ?_
    refine RG.pv rfl (PV.move (v := v) rfl rfl) ?_
    refine RG.callF (vs := [v]) rfl rfl En69 rfl (channelsOf_s (Rs.up h1) hd.up hlay (fun v23 u23 cs23 zs23 hc23 hz23 => ?_))
    refine RG.pv rfl (PV.move (v := .tuple _) rfl rfl) ?_
    refine RG.pv rfl (PV.ext (v := v23) rfl rfl rfl) ?_
    refine RG.pv rfl (PV.ext (v := u23) rfl rfl rfl) ?_
    refine RG.pv rfl (PV.asg (v := v23) rfl rfl) ?_
    refine RG.pv rfl (PV.asg (v := u23) rfl rfl) ?_
    refine RG.nil ?_
    refine WP.seq ?_
    refine WP.block ?_
    refine WP.seq ?_
    refine WP.region ?_
    refine RG.pv rfl (PV.move (v := u23) rfl rfl) ?_
    refine RG.pv rfl (PV.len (v := u23) rfl Tryz.underlying29 rfl SlF.o) ?_
    refine RG.pv rfl (PV.gtr rfl rfl rfl) ?_
    refine RG.pv rfl (PV.mvB (.inr rfl) rfl) ?_
    refine RG.nil ?_
    subst hc23
    have hzl : zs23.length = (malf (er xs)).length := by rw [← hz23, er_len]
    refine WP.cond rfl (fun h4 => ?_) (fun h4 => ?_)
    · have h4 := of_decide_eq_true h4
      have e1 : devC (er xs) = 6 := by rw [devC, if_pos h3, if_pos (by omega)]
      have e2 : devR (er xs) = [] := by rw [devR, e1, if_neg (by omega)]
      rw [e1, e2] at k
      refine WP.seq ?_
      refine WP.region ?_
      refine RG.pv rfl (PV.asg rfl rfl) ?_
      refine RG.pv rfl (PV.mvI (.inr rfl) rfl) ?_
      refine RG.nil ?_
      refine WP.ret ?_
      exact ⟨_, _, ResV.two rfl rfl rfl, ((Cv.p (C := L)).trans (Cv.nilS.trans (Cv.cons (Cv.bag0 (e := 2) (F := intT) (xs := pinsOf []) rfl)))), k _ [] rfl⟩
    · have h4 := of_decide_eq_false h4
      refine WP.seq ?_
      refine WP.region ?_
      refine RG.pv rfl (PV.move (v := v23) rfl rfl) ?_
      refine RG.pv rfl (PV.len (v := v23) rfl Tryz.underlying106 rfl SlF.o) ?_
      refine RG.pv rfl (PV.gtr rfl rfl rfl) ?_
      refine RG.pv rfl (PV.mvB (.inr rfl) rfl) ?_
      refine RG.nil ?_
      refine WP.cond rfl (fun h5 => ?_) (fun h5 => ?_)
      · have h5 := of_decide_eq_true h5
        have e1 : devC (er xs) = 3 := by rw [devC, if_pos h3, if_neg (by omega), if_pos (by omega)]
        have e2 : devR (er xs) = [] := by rw [devR, e1, if_neg (by omega)]
        rw [e1, e2] at k
        refine WP.seq ?_
        refine WP.region ?_
        refine RG.pv rfl (PV.asg rfl rfl) ?_
        refine RG.pv rfl (PV.mvI (.inr rfl) rfl) ?_
        refine RG.nil ?_
        refine WP.ret ?_
        exact ⟨_, _, ResV.two rfl rfl rfl, ((Cv.p (C := L)).trans (Cv.nilS.trans (Cv.cons (Cv.bag0 (e := 2) (F := intT) (xs := pinsOf []) rfl)))), k _ [] rfl⟩
      · have h5 := of_decide_eq_false h5
        have e1 : devC (er xs) = 0 := by rw [devC, if_pos h3, if_neg (by omega), if_neg (by omega)]
        have e2 : devR (er xs) = (chans (er xs)).map (devOf (er xs)) := by rw [devR, if_pos e1]
        rw [e1, e2] at k
        refine WP.skip ?_
        refine WP.seq ?_
        refine WP.region ?_
        refine RG.ot rfl (OT.bslice (F := devT) (els := []) rfl El53 rfl (by decide) rfl (by decide) trivial fun v34 => ?_)
        refine RG.pv rfl (PV.asg (v := v34) rfl rfl) ?_
        refine RG.nil ?_
        refine WP.seq ?_
        refine WP.seq ?_
        refine WP.region ?_
        refine RG.pv rfl (PV.move (v := v23) rfl rfl) ?_
        refine RG.pv rfl (PV.len (v := v23) rfl Tryz.underlying106 rfl SlF.o) ?_
        refine RG.pv rfl (PV.mvI (.inl rfl) rfl) ?_
        refine RG.nil ?_
        refine WP.block ?_
        refine WP.cv ((Cv.p (C := osl 64 devT v34 ([] : List Dev) :: osl 110 chanT v23 (chans (er xs)) :: osl 140 netT w15 zsw15 :: bagS 143 pieceT (nps zsw15) :: bagS 61 rectT (regs (er (nps zsw15)).flatten) :: L)).trans (Cv.cons (Cv.bag0 (e := 2) (F := intT) (xs := pinsOf []) rfl))) ?_
        refine WP.loop3 [4, 35, 36] (fun (i : Nat) (ds : List Dev) (q : Value) => i ≤ (chans (er xs)).length ∧ ds.map erD = ((chans (er xs)).take i).map (devOf (er xs))) (fun (i : Nat) (ds : List Dev) (q : Value) => [(37, vi i), (8, q)]) (fun (i : Nat) (ds : List Dev) (q : Value) => osl 64 devT q ds :: bagS 2 intT (pinsOf ds) :: osl 110 chanT v23 (chans (er xs)) :: osl 140 netT w15 zsw15 :: bagS 143 pieceT (nps zsw15) :: bagS 61 rectT (regs (er (nps zsw15)).flatten) :: L) (fun (i : Nat) (ds : List Dev) (q : Value) => (chans (er xs)).length - i) 0 [] v34 ⟨by omega, rfl⟩ ⟨rfl, rfl, trivial⟩ Cv.p ?_
        rintro i ds q τ ⟨hi, hds⟩
        refine WP.seq ?_
        refine WP.region ?_
        refine RG.pv rfl (PV.lss rfl rfl rfl) ?_
        refine RG.nil ?_
        refine WP.seq ?_
        have hdl : ds.length = i := by have := congrArg List.length hds; simp at this; omega
        refine WP.cond rfl (fun h6 => ?_) (fun h6 => ?_)
        · have h6 := of_decide_eq_true h6
          have hcv := (chan_valid (l := er xs) (c := gd (chans (er xs)) i) (gd_mem (by omega))).1
          refine WP.skip ?_
          refine WP.seq ?_
          refine WP.block ?_
          refine WP.seq ?_
          refine WP.region ?_
          refine RG.pv rfl (PV.idxS (v := v23) rfl Is106 rfl SlF.o rfl rfl (by omega)) ?_
          refine RG.pv rfl (PV.loadE rfl Ag110 rfl rfl (El.o (getG (by omega)))) ?_
          refine RG.ot rfl (OT.alloc rfl Zr110 fun b10 => ?_)
          refine RG.ot rfl (OT.storeW (vs := [vi _, vi _, vi _, vi _, vi _, .bool _]) rfl Sz110 rfl rfl (Cl.c rfl) rfl rfl (OneC.c rfl) ?_)
          refine RG.nil ?_
          refine WP.seq ?_
          refine WP.region ?_
          refine RG.pv rfl (PV.loadW rfl Ag110 rfl rfl) ?_
          refine RG.callF (vs := [_]) rfl rfl En70 rfl (chanSize_s hcv ?_)
          refine RG.pv rfl (PV.move rfl rfl) ?_
          refine RG.pv rfl (PV.ext rfl rfl rfl) ?_
          refine RG.pv rfl (PV.ext rfl rfl rfl) ?_
          refine RG.pv rfl (PV.mvI (.inr rfl) rfl) ?_
          refine RG.pv rfl (PV.mvI (.inr rfl) rfl) ?_
          refine RG.nil ?_
          refine WP.regionHD [.s q] (.q 0 (.q 1 (.q 2 (.q 3 (.q 4 (.q 6 (.q 7 (.l 5 (.q 8 (.l 9 (.l 10 (.q 11 Sch.nil)))))))))))) (by kernel_rfl) (by kernel_rfl) (by kernel_rfl) rfl ?_
          refine RH.pv rfl (fun _ _ _ _ h => h) (Gh.le_refl _) PickC.pick rfl (PV.move (v := q) rfl rfl) ?_
          refine RH.pv rfl (fun _ _ _ _ h => h) (Gh.le_refl _) PickC.pick rfl (PV.field rfl Fo110_1 rfl) ?_
          refine RH.pv rfl (fun _ _ _ _ h => h) (Gh.le_refl _) PickC.pick rfl (PV.load1 rfl Sc2 rfl (Rd.blk rfl)) ?_
          refine RH.pv rfl (fun _ _ _ _ h => h) (Gh.le_refl _) PickC.pick rfl (PV.loadW rfl Ag110 rfl rfl) ?_
          refine RH.pv rfl (fun _ _ _ _ h => h) (Gh.le_refl _) PickC.pick rfl (PV.move (v := w15) rfl rfl) ?_
          refine RH.pv rfl (fun _ _ _ _ h => h) (Gh.le_refl _) PickC.pick rfl (PV.mvI (.inl rfl) rfl) ?_
          refine RH.pv rfl (fun _ _ _ _ h => h) (Gh.le_refl _) PickC.pick rfl (PV.mvI (.inl rfl) rfl) ?_
          refine RH.ot rfl rfl (OT.callF (vs := [_, w15]) rfl En71 rfl (pins_i Rs.o RsE.o (fun i hi => RsE.flat hi) he hcv (fun v51 => ⟨Gh.le_refl _, PickC.pick, ?_⟩)))
          refine RH.up1 ?_
          refine RH.pv rfl (fun _ _ _ _ h => h) (Gh.le_refl _) PickC.pick rfl (PV.build (vs := [(0, [vi _]), (1, [v51]), (2, [vi _]), (3, [vi _])]) (out := [_, _, _, _]) rfl Zr64 Pl64 ⟨rfl, (Cl.c rfl), ⟨rfl, (Cl.s (v := v51) SlF.o), ⟨rfl, (Cl.c rfl), ⟨rfl, (Cl.c rfl), trivial⟩⟩⟩⟩ rfl) ?_
          refine RH.ot rfl rfl (OT.bslice (F := devT) (els := [⟨(gd (chans (er xs)) i).kind, ⟨v51, pinsL (er xs) (gd (chans (er xs)) i).box (!(gd (chans (er xs)) i).hor)⟩, (sizeC (gd (chans (er xs)) i)).1, (sizeC (gd (chans (er xs)) i)).2⟩]) rfl El53 rfl (by decide) rfl (by decide) ⟨rfl, (Cl.c rfl), trivial⟩ fun v55 => ⟨Gh.le_refl _, PickC.pick, ?_⟩)
          refine RH.ot rfl rfl (OT.append (v := q) (u := v55) (F := devT) rfl El53 rfl (by decide) rfl rfl Rs.o (OneL.one (OneC.val rfl (OneC.sl SlF.o (OneC.val rfl (OneC.val rfl OneC.nil))))) rfl (by first | omega | (simp <;> omega)) fun v56 => ⟨Gh.le_refl _, PickC.pick, ?_⟩)
          refine RH.pv rfl (fun _ _ _ _ h => h) (Gh.le_refl _) PickC.pick rfl (PV.asg (v := v56) rfl rfl) ?_
          refine RH.nil ?_
          refine WP.region ?_
          refine RG.pv rfl (PV.add rfl rfl rfl (by omega)) ?_
          refine RG.pv rfl (PV.mvI (.inl rfl) rfl) ?_
          refine RG.nil ?_
          exact ⟨rfl, i + 1, (ds ++ [⟨(gd (chans (er xs)) i).kind, ⟨v51, pinsL (er xs) (gd (chans (er xs)) i).box (!(gd (chans (er xs)) i).hor)⟩, (sizeC (gd (chans (er xs)) i)).1, (sizeC (gd (chans (er xs)) i)).2⟩]), v56, ⟨by omega, by rw [List.take_add_one, getG (by omega), List.map_append, List.map_append, hds]; rfl⟩, ⟨rfl, rfl, trivial⟩, ⟨rfl, rfl, rfl, trivial⟩, ((Cv.p (C := osl 2 intT v51 (pinsL (er xs) (gd (chans (er xs)) i).box (!(gd (chans (er xs)) i).hor)) :: bagS 2 intT (pinsOf ds) :: osl 64 devT v56 (ds ++ [⟨(gd (chans (er xs)) i).kind, ⟨v51, pinsL (er xs) (gd (chans (er xs)) i).box (!(gd (chans (er xs)) i).hor)⟩, (sizeC (gd (chans (er xs)) i)).1, (sizeC (gd (chans (er xs)) i)).2⟩]) :: osl 110 chanT v23 (chans (er xs)) :: osl 140 netT w15 zsw15 :: bagS 143 pieceT (nps zsw15) :: bagS 61 rectT (regs (er (nps zsw15)).flatten) :: L)).trans ((Cv.grow (ys' := pinsOf (ds ++ [⟨(gd (chans (er xs)) i).kind, ⟨v51, pinsL (er xs) (gd (chans (er xs)) i).box (!(gd (chans (er xs)) i).hor)⟩, (sizeC (gd (chans (er xs)) i)).1, (sizeC (gd (chans (er xs)) i)).2⟩])) (by simp [pinsOf])).trans Cv.p)), by omega⟩
        · have h6 := of_decide_eq_false h6
          have hds2 : ds.map erD = (chans (er xs)).map (devOf (er xs)) := by rw [hds, List.take_of_length_le (by omega)]
          refine WP.exit ?_
          refine WP.seq ?_
          refine WP.region ?_
          refine RG.pv rfl (PV.move (v := q) rfl rfl) ?_
          refine RG.pv rfl (PV.asg (v := q) rfl rfl) ?_
          refine RG.pv rfl (PV.mvI (.inr rfl) rfl) ?_
          refine RG.nil ?_
          refine WP.ret ?_
          exact ⟨_, _, ResV.two rfl rfl rfl, Cv.p, k q ds hds2⟩
end Go.Proofs.YtmomfgfmnpblpaaGreat
namespace Go.Proofs.YtmomfgfmnpblpaaGreat
set_option linter.unusedVariables false
set_option linter.unusedSimpArgs false
open Go
set_option maxRecDepth 20000
set_option linter.unusedSimpArgs false
variable {G : Gh} {L : List Ch} {R : Value → Gh → List Ch → Prop}
theorem pinsOf_len (ds : List Dev) : (pinsOf ds).length = ds.length := by simp [pinsOf]
theorem pinsOf_gd {ds : List Dev} {i : Nat} (h : i < ds.length) : gd (pinsOf ds) i = (gd ds i).pins := gd_map _ h
theorem eqDev_s {p q : Dev} (h1 : Rs G L intT p.pins.v p.pins.xs) (h2 : Rs G L intT q.pins.v q.pins.xs) (k : R (.bool (decide (erD p = erD q))) G L) : CallT Tryz.prog 79 #[vT devT p, vT devT q] G L R := by
  refine CallT.enter (args := _) Tryz.func79 rfl rfl (by kernel_rfl) rfl ?_
  refine WP.seq ?_
  refine WP.region ?_
  refine RG.ot rfl (OT.box (cs := devT.enc p) rfl rfl rfl fun b2 => ?_)
  refine RG.ot rfl (OT.box (cs := devT.enc q) rfl rfl rfl fun b3 => ?_)
  refine RG.pv rfl (PV.mvB (.inr rfl) rfl) ?_
  refine RG.nil ?_
  refine WP.seq ?_
  refine WP.seq ?_
  refine WP.region ?_
  refine RG.pv rfl (PV.field rfl Fo64_0 rfl) ?_
  refine RG.pv rfl (PV.load1 rfl Sc2 rfl (Rd.blk rfl)) ?_
  refine RG.pv rfl (PV.field rfl Fo64_0 rfl) ?_
  refine RG.pv rfl (PV.load1 rfl Sc2 rfl (Rd.blk rfl)) ?_
  refine RG.pv rfl (PV.neq rfl rfl rfl) ?_
  refine RG.nil ?_
  refine WP.cond rfl (fun h3 => ?_) (fun h3 => ?_)
  · have e : decide (erD p = erD q) = false := by
      rw [decide_eq_false_iff_not]; intro h; simp [erD] at h h3; exact h3 h.1
    rw [e] at k
    refine WP.seq ?_
    refine WP.region ?_
    refine RG.pv rfl (PV.mvB (.inr rfl) rfl) ?_
    refine RG.nil ?_
    refine WP.ret ?_
    exact ⟨_, _, ResV.one rfl rfl, Cv.p, k⟩
  · refine WP.skip ?_
    refine WP.seq ?_
    refine WP.seq ?_
    refine WP.region ?_
    refine RG.pv rfl (PV.field rfl Fo64_1 rfl) ?_
    refine RG.pv rfl (PV.load1 rfl Sc26 rfl (Rd.blk rfl)) ?_
    refine RG.pv rfl (PV.field rfl Fo64_1 rfl) ?_
    refine RG.pv rfl (PV.load1 rfl Sc26 rfl (Rd.blk rfl)) ?_
    refine RG.callF (vs := [_, _]) rfl rfl En15 rfl (eqInt_s (Rs.up h1) (Rs.up h2) ?_)
    refine RG.pv rfl (PV.not rfl rfl) ?_
    refine RG.nil ?_
    refine WP.cond rfl (fun h4 => ?_) (fun h4 => ?_)
    · have e : decide (erD p = erD q) = false := by
        rw [decide_eq_false_iff_not]; intro h; simp [erD] at h h4; exact h4 h.2.1
      rw [e] at k
      refine WP.seq ?_
      refine WP.region ?_
      refine RG.pv rfl (PV.mvB (.inr rfl) rfl) ?_
      refine RG.nil ?_
      refine WP.ret ?_
      exact ⟨_, _, ResV.one rfl rfl, Cv.p, k⟩
    · refine WP.skip ?_
      refine WP.seq ?_
      refine WP.seq ?_
      refine WP.region ?_
      refine RG.pv rfl (PV.field rfl Fo64_2 rfl) ?_
      refine RG.pv rfl (PV.load1 rfl Sc2 rfl (Rd.blk rfl)) ?_
      refine RG.pv rfl (PV.field rfl Fo64_2 rfl) ?_
      refine RG.pv rfl (PV.load1 rfl Sc2 rfl (Rd.blk rfl)) ?_
      refine RG.pv rfl (PV.neq rfl rfl rfl) ?_
      refine RG.nil ?_
      refine WP.cond rfl (fun h5 => ?_) (fun h5 => ?_)
      · have e : decide (erD p = erD q) = false := by
          rw [decide_eq_false_iff_not]; intro h; simp [erD] at h h5; exact h5 h.2.2.1
        rw [e] at k
        refine WP.seq ?_
        refine WP.region ?_
        refine RG.pv rfl (PV.mvB (.inr rfl) rfl) ?_
        refine RG.nil ?_
        refine WP.ret ?_
        exact ⟨_, _, ResV.one rfl rfl, Cv.p, k⟩
      · refine WP.skip ?_
        refine WP.seq ?_
        refine WP.seq ?_
        refine WP.region ?_
        refine RG.pv rfl (PV.field rfl Fo64_3 rfl) ?_
        refine RG.pv rfl (PV.load1 rfl Sc2 rfl (Rd.blk rfl)) ?_
        refine RG.pv rfl (PV.field rfl Fo64_3 rfl) ?_
        refine RG.pv rfl (PV.load1 rfl Sc2 rfl (Rd.blk rfl)) ?_
        refine RG.pv rfl (PV.neq rfl rfl rfl) ?_
        refine RG.nil ?_
        refine WP.cond rfl (fun h6 => ?_) (fun h6 => ?_)
        · have e : decide (erD p = erD q) = false := by
            rw [decide_eq_false_iff_not]; intro h; simp [erD] at h h6; exact h6 h.2.2.2
          rw [e] at k
          refine WP.seq ?_
          refine WP.region ?_
          refine RG.pv rfl (PV.mvB (.inr rfl) rfl) ?_
          refine RG.nil ?_
          refine WP.ret ?_
          exact ⟨_, _, ResV.one rfl rfl, Cv.p, k⟩
        · have e : decide (erD p = erD q) = true := by
            simp at h3 h4 h5 h6; simp [erD, h3, h4, h5, h6]
          rw [e] at k
          refine WP.skip ?_
          refine WP.seq ?_
          refine WP.region ?_
          refine RG.pv rfl (PV.mvB (.inr rfl) rfl) ?_
          refine RG.nil ?_
          refine WP.ret ?_
          exact ⟨_, _, ResV.one rfl rfl, Cv.p, k⟩
theorem eqDevS_s {v u : Value} {xs ys : List Dev} (h1 : Rs G L devT v xs) (hd : RsE G L intT (pinsOf xs)) (h2 : Rs G L devT u ys) (hd' : RsE G L intT (pinsOf ys)) (k : R (.bool (decide (xs.map erD = ys.map erD))) G L) : CallT Tryz.prog 35 #[v, u] G L R := by
  refine CallT.bd h1 fun hb => ?_
  refine CallT.bd h2 fun hb' => ?_
  refine CallT.enter (args := _) Tryz.func35 rfl rfl (by kernel_rfl) rfl ?_
  refine WP.seq ?_
  refine WP.region ?_
  refine RG.pv rfl (PV.mvB (.inr rfl) rfl) ?_
  refine RG.nil ?_
  refine WP.seq ?_
  refine WP.seq ?_
  refine WP.region ?_
  refine RG.pv rfl (PV.move (v := v) rfl rfl) ?_
  refine RG.pv rfl (PV.len (v := v) rfl Tryz.underlying53 rfl (SlF.r h1)) ?_
  refine RG.pv rfl (PV.move (v := u) rfl rfl) ?_
  refine RG.pv rfl (PV.len (v := u) rfl Tryz.underlying53 rfl (SlF.r h2)) ?_
  refine RG.pv rfl (PV.neq rfl rfl rfl) ?_
  refine RG.nil ?_
  refine WP.cond rfl (fun h3 => ?_) (fun h3 => ?_)
  · have e : decide (xs.map erD = ys.map erD) = false := by
      rw [decide_eq_false_iff_not]; intro h; have := congrArg List.length h; rw [List.length_map, List.length_map] at this; simp at h3; omega
    rw [e] at k
    refine WP.seq ?_
    refine WP.region ?_
    refine RG.pv rfl (PV.mvB (.inr rfl) rfl) ?_
    refine RG.nil ?_
    refine WP.ret ?_
    exact ⟨_, _, ResV.one rfl rfl, Cv.p, k⟩
  · have hl : xs.length = ys.length := by simp at h3; omega
    refine WP.skip ?_
    refine WP.seq ?_
    refine WP.seq ?_
    refine WP.region ?_
    refine RG.pv rfl (PV.mvI (.inr rfl) rfl) ?_
    refine RG.nil ?_
    refine WP.block ?_
    refine WP.loop1 [0, 1] (fun i => i ≤ xs.length ∧ ∀ j, j < i → (xs.map erD)[j]? = (ys.map erD)[j]?) (fun i => [(5, vi i)]) (fun i => L) (fun i => xs.length - i) 0 ⟨by omega, fun j h => by omega⟩ ⟨rfl, trivial⟩ Cv.p ?_
    rintro i τ ⟨hi, he⟩
    refine WP.seq ?_
    refine WP.seq ?_
    refine WP.region ?_
    refine RG.pv rfl (PV.mvI (.inl rfl) rfl) ?_
    refine RG.pv rfl (PV.move (v := v) rfl rfl) ?_
    refine RG.pv rfl (PV.len (v := v) rfl Tryz.underlying53 rfl (SlF.r h1)) ?_
    refine RG.pv rfl (PV.lss rfl rfl rfl) ?_
    refine RG.nil ?_
    refine WP.cond rfl (fun h4 => ?_) (fun h4 => ?_)
    · have h4 := of_decide_eq_true h4
      have h5 : i < xs.length := by omega
      refine WP.skip ?_
      refine WP.seq ?_
      refine WP.block ?_
      refine WP.seq ?_
      refine WP.regionQ (by kernel_rfl) (by kernel_rfl) ?_
      refine RQ.pv rfl (PV.move (v := v) rfl rfl) ?_
      refine RQ.pv rfl (PV.mvI (.inl rfl) rfl) ?_
      refine RQ.pv rfl (PV.idxS (v := v) rfl Is53 rfl (SlF.r h1) rfl rfl (by omega)) ?_
      refine RQ.pv rfl (PV.loadE rfl Ag64 rfl rfl (El.r h1 (getG (by omega)))) ?_
      refine RQ.pv rfl (PV.move (v := u) rfl rfl) ?_
      refine RQ.pv rfl (PV.mvI (.inl rfl) rfl) ?_
      refine RQ.pv rfl (PV.idxS (v := u) rfl Is53 rfl (SlF.r h2) rfl rfl (by omega)) ?_
      refine RQ.pv rfl (PV.loadE rfl Ag64 rfl rfl (El.r h2 (getG (by omega)))) ?_
      refine RQ.callF (vs := [_, _]) rfl rfl En79 rfl (eqDev_s (by have := hd i (by rw [pinsOf_len]; omega); rw [pinsOf_gd (by omega)] at this; exact this.up) (by have := hd' i (by rw [pinsOf_len]; omega); rw [pinsOf_gd (by omega)] at this; exact this.up) ⟨rfl, rfl, rfl⟩) ?_
      refine RQ.pv rfl (PV.not rfl rfl) ?_
      refine RQ.nil ?_
      refine WP.cond rfl (fun h6 => ?_) (fun h6 => ?_)
      · have e : decide (xs.map erD = ys.map erD) = false := by
          rw [decide_eq_false_iff_not]; intro h
          have e2 : erD (gd xs i) = erD (gd ys i) := by rw [← gd_map erD h5, h, gd_map erD (by omega)]
          simp [e2] at h6
        rw [e] at k
        refine WP.seq ?_
        refine WP.region ?_
        refine RG.pv rfl (PV.mvB (.inr rfl) rfl) ?_
        refine RG.nil ?_
        refine WP.ret ?_
        exact ⟨_, _, ResV.one rfl rfl, Cv.p, k⟩
      · have e : erD (gd xs i) = erD (gd ys i) := by simpa using h6
        have he' : ∀ j, j < i + 1 → (xs.map erD)[j]? = (ys.map erD)[j]? := fun j h => by
          by_cases c : j = i
          · rw [c, List.getElem?_map, List.getElem?_map, getG h5, getG (show i < ys.length by omega)]
            simp [e]
          · exact he j (by omega)
        refine WP.skip ?_
        refine WP.region ?_
        refine RG.pv rfl (PV.mvI (.inl rfl) rfl) ?_
        refine RG.pv rfl (PV.add rfl rfl rfl (by omega)) ?_
        refine RG.pv rfl (PV.mvI (.inr rfl) rfl) ?_
        refine RG.nil ?_
        exact ⟨rfl, i + 1, ⟨by omega, he'⟩, ⟨rfl, trivial⟩, ⟨rfl, rfl, trivial⟩, Cv.p, by omega⟩
    · have h4 := of_decide_eq_false h4
      have e : decide (xs.map erD = ys.map erD) = true := by
        rw [decide_eq_true_iff]; exact pre_eq he (by rw [List.length_map, List.length_map]; exact hl) (by rw [List.length_map]; omega)
      rw [e] at k
      refine WP.exit ?_
      refine WP.seq ?_
      refine WP.region ?_
      refine RG.pv rfl (PV.mvB (.inr rfl) rfl) ?_
      refine RG.nil ?_
      refine WP.ret ?_
      exact ⟨_, _, ResV.one rfl rfl, Cv.p, k⟩
end Go.Proofs.YtmomfgfmnpblpaaGreat
namespace Go.Proofs.YtmomfgfmnpblpaaGreat
set_option linter.unusedVariables false
set_option linter.unusedSimpArgs false
open Go
set_option maxRecDepth 20000
set_option linter.unusedSimpArgs false
variable {G : Gh} {L : List Ch} {R : Value → Gh → List Ch → Prop}
def mkPc (p : Piece) (k : Int) : Piece := ⟨k, mkRS p.reg (k + 1)⟩
def nPc (p : Piece) : Int := 1 + nRS p.reg
theorem nPc_nn (p : Piece) : 0 ≤ nPc p := by have : 0 ≤ nRS p.reg := nSl_nn p.reg; simp only [nPc]; omega
theorem flat_setEq {α : Type} {F : FT α} {zs : List α} {i : Nat} {p q : α} (h : F.enc p = F.enc q) : F.flat (zs.set i p) = F.flat (zs.set i q) := by
  simp only [FT.flat, List.flatMap_def, List.map_set, h]
/-- only what lies in memory matters -/
theorem Cv.flat {α : Type} {e : TypeId} {F : FT α} {v : Value} {xs ys : List α} {L : List Ch} (h : F.flat xs = F.flat ys) (hl : xs.length = ys.length) : Cv (osl e F v xs :: L) (osl e F v ys :: L) :=
  Cv.imp fun hp hc => by
    rcases hc with ⟨rfl, rfl⟩ | ⟨b, cap, c, h1, h2, h3, h4, h5, h6⟩
    · exact .inl ⟨rfl, List.eq_nil_of_length_eq_zero (by simpa using hl.symm)⟩
    · exact .inr ⟨b, cap, c, by rw [← hl]; exact h1, h2, by rw [← hl]; exact h3, h4, h5, by rw [← hl, ← h]; exact h6⟩
theorem CallT.eq2 {P : Program} {f : FuncId} {v v' x : Value} (h : v = v') (k : CallT P f #[v', x] G L R) : CallT P f #[v, x] G L R := by subst h; exact k
theorem regs_set (zs : List Piece) (i : Nat) (p : Piece) : regs (zs.set i p) = (regs zs).set i p.reg := by simp [regs, List.map_set]
/-- a piece's region, out of the bag and written, goes back -/
theorem Cv.slotP {e e' : TypeId} {v : Value} {zs : List Piece} {p q : Piece} {ys : List Rect} {L : List Ch} (i : Nat) (hi : i < zs.length) (hq : q = ⟨p.layer, ⟨(gd zs i).reg.v, ys⟩⟩) (hp : p.reg.v = (gd zs i).reg.v) :
    Cv (osl e rectT (gd (regs zs) i).v ys :: osl e' pieceT v (zs.set i p) :: bag (((regs zs).map (ownS e rectT)).set i emp) :: L) (osl e' pieceT v (zs.set i q) :: bagS e rectT (regs (zs.set i q)) :: L) := by
  subst hq
  have h1 : Cv (osl e rectT (gd (regs zs) i).v ys :: osl e' pieceT v (zs.set i p) :: bag (((regs zs).map (ownS e rectT)).set i emp) :: L) (osl e' pieceT v (zs.set i p) :: osl e rectT (gd (regs zs) i).v ys :: bag (((regs zs).map (ownS e rectT)).set i emp) :: L) := Cv.swap (A := [osl e rectT (gd (regs zs) i).v ys]) (B := [osl e' pieceT v (zs.set i p)])
  refine h1.trans ((Cv.cons (Cv.bagS_put i (by rw [regs_len]; exact hi))).trans ?_)
  rw [regs_set, regs_gd hi]
  exact Cv.flat (flat_setEq (by simp [pieceT, hp])) (by simp)
def nPe (p : Int × List Rect) : Int := 1 + 4 * (p.2.length : Int)
theorem nPc_er (xs : List Piece) : costL nPc xs = costL nPe (erPs xs) := by
  induction xs with
  | nil => rfl
  | cons z zs ih => simp only [erPs, List.map_cons, costL] at ih ⊢; rw [ih]; simp only [nPc, nPe, nRS, nSl, nRect_cost, erP]
theorem pcE_len (l : List (List Rect)) : (pcE l).length ≤ 25600 := by
  unfold pcE
  cases isLay l
  · simp
  · have := pcL_len l 4
    simp only [cond_true, List.length_map]; omega
theorem pcE_cost (l : List (List Rect)) : costL nPe (pcE l) ≤ 12801 * 25600 := by
  have h1 : costL nPe (pcE l) ≤ 12801 * (pcE l).length := costL_bd fun p hp => by
    unfold pcE at hp
    cases hl : isLay l
    · rw [hl] at hp; cases hp
    · rw [hl] at hp
      obtain ⟨q, _, rfl⟩ := List.mem_map.1 hp
      have := canon_len q.2
      simp only [nPe, pcR]; omega
  have h2 := pcE_len l
  omega
end Go.Proofs.YtmomfgfmnpblpaaGreat
namespace Go.Proofs.YtmomfgfmnpblpaaGreat
set_option linter.unusedVariables false
set_option linter.unusedSimpArgs false
open Go
set_option maxRecDepth 20000
set_option linter.unusedSimpArgs false
variable {G : Gh} {L : List Ch} {R : Value → Gh → List Ch → Prop}
theorem pinsOf_set (zs : List Dev) (i : Nat) (p : Dev) : pinsOf (zs.set i p) = (pinsOf zs).set i p.pins := by simp [pinsOf, List.map_set]
theorem Cv.slotD {e e' : TypeId} {v : Value} {zs : List Dev} {p q : Dev} {ys : List Int} {L : List Ch} (i : Nat) (hi : i < zs.length) (hq : q = ⟨p.kind, ⟨(gd zs i).pins.v, ys⟩, p.width, p.length⟩) (hp : p.pins.v = (gd zs i).pins.v) :
    Cv (osl e intT (gd (pinsOf zs) i).v ys :: osl e' devT v (zs.set i p) :: bag (((pinsOf zs).map (ownS e intT)).set i emp) :: L) (osl e' devT v (zs.set i q) :: bagS e intT (pinsOf (zs.set i q)) :: L) := by
  subst hq
  have h1 : Cv (osl e intT (gd (pinsOf zs) i).v ys :: osl e' devT v (zs.set i p) :: bag (((pinsOf zs).map (ownS e intT)).set i emp) :: L) (osl e' devT v (zs.set i p) :: osl e intT (gd (pinsOf zs) i).v ys :: bag (((pinsOf zs).map (ownS e intT)).set i emp) :: L) := Cv.swap (A := [osl e intT (gd (pinsOf zs) i).v ys]) (B := [osl e' devT v (zs.set i p)])
  refine h1.trans ((Cv.cons (Cv.bagS_put i (by rw [pinsOf_len]; exact hi))).trans ?_)
  rw [pinsOf_set, pinsOf_gd hi]
  exact Cv.flat (flat_setEq (by simp [devT, hp])) (by simp)
def nDev (d : Dev) : Int := 3 + costL nI d.pins.xs
def mkDev (d : Dev) (k : Int) : Dev := ⟨k, ⟨d.pins.v, markL mkI nI d.pins.xs (k + 1)⟩, k + 1 + costL nI d.pins.xs, k + 1 + costL nI d.pins.xs + 1⟩
theorem nDev_nn (d : Dev) : 0 ≤ nDev d := by have : costL nI d.pins.xs = 1 * d.pins.xs.length := nI_cost _; simp only [nDev]; omega
theorem markDevS_s {v : Value} {xs : List Dev} {k0 : Int} (hk : 0 ≤ k0) (hb : k0 + costL nDev xs ≤ 4611686018427387904) (k : R (vi (k0 + costL nDev xs)) G (osl 64 devT v (markL mkDev nDev xs k0) :: bagS 2 intT (pinsOf (markL mkDev nDev xs k0)) :: L)) :
    CallT Tryz.prog 36 #[v, vi k0] G (osl 64 devT v xs :: bagS 2 intT (pinsOf xs) :: L) R := by
  refine CallT.bd (T := devT) (v := v) (xs := xs) Rs.o fun hb2 => ?_
  refine CallT.cv (L' := osl 64 devT v (markTo mkDev nDev xs k0 0) :: bagS 2 intT (pinsOf (markTo mkDev nDev xs k0 0)) :: L) (Cv.cast (by rw [markTo_zero])) ?_
  refine CallT.enter (args := _) Tryz.func36 rfl rfl (by kernel_rfl) rfl ?_
  refine WP.seq ?_
  refine WP.region ?_
  refine RG.pv rfl (PV.mvI (.inr rfl) rfl) ?_
  refine RG.nil ?_
  refine WP.seq ?_
  refine WP.seq ?_
  refine WP.region ?_
  refine RG.pv rfl (PV.mvI (.inr rfl) rfl) ?_
  refine RG.nil ?_
  refine WP.block ?_
  refine WP.loop2 [0] (fun (i : Nat) (kk : Int) => i ≤ xs.length ∧ kk = k0 + costL nDev (xs.take i)) (fun (i : Nat) (kk : Int) => [(5, vi i), (1, vi kk)]) (fun (i : Nat) (kk : Int) => osl 64 devT v (markTo mkDev nDev xs k0 i) :: bagS 2 intT (pinsOf (markTo mkDev nDev xs k0 i)) :: L) (fun (i : Nat) (kk : Int) => xs.length - i) 0 k0 ⟨by omega, by simp [costL]⟩ ⟨rfl, rfl, trivial⟩ Cv.p ?_
  rintro i kk τ ⟨hi, hkk⟩
  refine WP.seq ?_
  refine WP.seq ?_
  refine WP.region ?_
  refine RG.pv rfl (PV.mvI (.inl rfl) rfl) ?_
  refine RG.pv rfl (PV.move (v := v) rfl rfl) ?_
  refine RG.pv rfl (PV.len (v := v) rfl Tryz.underlying53 rfl SlF.o) ?_
  refine RG.pv rfl (PV.lss rfl rfl rfl) ?_
  refine RG.nil ?_
  have hml := markTo_len (mk := mkDev) (n := nDev) (k := k0) hi
  refine WP.cond rfl (fun h1 => ?_) (fun h1 => ?_)
  · have h1 := of_decide_eq_true h1
    have h2 : i < xs.length := by omega
    have hmg := markTo_gd (mk := mkDev) (n := nDev) (k := k0) h2
    have hc := costL_take nDev h2
    have hc1 : costL nDev (xs.take (i + 1)) ≤ costL nDev xs := costL_le nDev_nn xs (i + 1)
    have hc2 : 0 ≤ costL nDev (xs.take i) := costL_nonneg nDev_nn (xs.take i)
    have hc3 : costL nI (gd xs i).pins.xs = 1 * (gd xs i).pins.xs.length := nI_cost _
    have hc5 : nDev (gd xs i) = 3 + costL nI (gd xs i).pins.xs := rfl
    have hgi : gd (pinsOf (markTo mkDev nDev xs k0 i)) i = (gd xs i).pins := by rw [pinsOf_gd (by omega), hmg]
    have hc4 : costL nI (gd (pinsOf (markTo mkDev nDev xs k0 i)) i).xs = costL nI (gd xs i).pins.xs := by rw [hgi]
    have hgs : (gd ((markTo mkDev nDev xs k0 i).set i (Dev.s0 kk (gd (markTo mkDev nDev xs k0 i) i))) i).pins.v = (gd (pinsOf (markTo mkDev nDev xs k0 i)) i).v := by
      rw [hgi]; simp [gd, hml, h2, ← hmg]
    refine WP.cv (Cv.cons (Cv.bagS_take i (by rw [pinsOf_len]; omega))) ?_
    refine WP.skip ?_
    refine WP.seq ?_
    refine WP.block ?_
    refine WP.seq ?_
    refine WP.region ?_
    refine RG.pv rfl (PV.move (v := v) rfl rfl) ?_
    refine RG.pv rfl (PV.mvI (.inl rfl) rfl) ?_
    refine RG.pv rfl (PV.mvI (.inl rfl) rfl) ?_
    refine RG.pv rfl (PV.idxS (v := v) rfl Is53 rfl SlF.o rfl rfl (by omega)) ?_
    refine RG.pv rfl (PV.field rfl Fo64_0 rfl) ?_
    refine RG.ot rfl (OT.storeF (F := devT) (val := vi) (cv := fun u => [vi u]) (st := Dev.s0) rfl Sz2 rfl rfl rfl (Cl.c rfl) rfl (OneC.c rfl) (by exact set_self (by omega)) (by first | omega | (simp; omega)) rfl (fun _ _ => rfl) ?_)
    refine RG.nil ?_
    refine WP.seq ?_
    refine WP.region ?_
    refine RG.pv rfl (PV.mvI (.inl rfl) rfl) ?_
    refine RG.pv rfl (PV.add rfl rfl rfl (by first | omega | (simp only [List.length_set]; omega))) ?_
    refine RG.pv rfl (PV.mvI (.inr rfl) rfl) ?_
    refine RG.nil ?_
    refine WP.seq ?_
    refine WP.region ?_
    refine RG.pv rfl (PV.move (v := v) rfl rfl) ?_
    refine RG.pv rfl (PV.mvI (.inl rfl) rfl) ?_
    refine RG.pv rfl (PV.idxS (v := v) rfl Is53 rfl SlF.o rfl rfl (by first | omega | (simp only [List.length_set]; omega))) ?_
    refine RG.pv rfl (PV.field rfl Fo64_1 rfl) ?_
    refine RG.pv rfl (PV.loadF rfl Sc26 rfl rfl (El.o (getG (by first | omega | (simp only [List.length_set]; omega)))) rfl) ?_
    refine RG.pv rfl (PV.mvI (.inl rfl) rfl) ?_
    refine RG.callF (vs := [_, _]) rfl rfl En20 rfl (CallT.eq2 hgs (CallT.exS (gd (pinsOf (markTo mkDev nDev xs k0 i)) i).v (markInt_s (by omega) (by omega) ?_)))
    refine RG.pv rfl (PV.mvI (.inr rfl) rfl) ?_
    refine RG.nil ?_
    refine WP.seq ?_
    refine WP.region ?_
    refine RG.pv rfl (PV.move (v := v) rfl rfl) ?_
    refine RG.pv rfl (PV.mvI (.inl rfl) rfl) ?_
    refine RG.pv rfl (PV.mvI (.inl rfl) rfl) ?_
    refine RG.pv rfl (PV.idxS (v := v) rfl Is53 rfl SlF.o rfl rfl (by first | omega | (simp only [List.length_set]; omega))) ?_
    refine RG.pv rfl (PV.field rfl Fo64_2 rfl) ?_
    refine RG.ot rfl (OT.storeF (F := devT) (val := vi) (cv := fun u => [vi u]) (st := Dev.s2) rfl Sz2 rfl rfl rfl (Cl.c rfl) rfl (OneC.c rfl) (by rfl) (by first | omega | (simp; omega)) rfl (fun _ _ => rfl) ?_)
    refine RG.nil ?_
    refine WP.seq ?_
    refine WP.region ?_
    refine RG.pv rfl (PV.mvI (.inl rfl) rfl) ?_
    refine RG.pv rfl (PV.add rfl rfl rfl (by first | omega | (simp only [List.length_set]; omega))) ?_
    refine RG.pv rfl (PV.mvI (.inr rfl) rfl) ?_
    refine RG.nil ?_
    refine WP.seq ?_
    refine WP.region ?_
    refine RG.pv rfl (PV.move (v := v) rfl rfl) ?_
    refine RG.pv rfl (PV.mvI (.inl rfl) rfl) ?_
    refine RG.pv rfl (PV.mvI (.inl rfl) rfl) ?_
    refine RG.pv rfl (PV.idxS (v := v) rfl Is53 rfl SlF.o rfl rfl (by first | omega | (simp only [List.length_set]; omega))) ?_
    refine RG.pv rfl (PV.field rfl Fo64_3 rfl) ?_
    refine RG.ot rfl (OT.storeF (F := devT) (val := vi) (cv := fun u => [vi u]) (st := Dev.s3) rfl Sz2 rfl rfl rfl (Cl.c rfl) rfl (OneC.c rfl) (by rfl) (by first | omega | (simp; omega)) rfl (fun _ _ => rfl) ?_)
    refine RG.nil ?_
    refine WP.region ?_
    refine RG.pv rfl (PV.mvI (.inl rfl) rfl) ?_
    refine RG.pv rfl (PV.add rfl rfl rfl (by first | omega | (simp only [List.length_set]; omega))) ?_
    refine RG.pv rfl (PV.mvI (.inr rfl) rfl) ?_
    refine RG.nil ?_
    refine WP.region ?_
    refine RG.pv rfl (PV.mvI (.inl rfl) rfl) ?_
    refine RG.pv rfl (PV.add rfl rfl rfl (by first | omega | (simp only [List.length_set]; omega))) ?_
    refine RG.pv rfl (PV.mvI (.inr rfl) rfl) ?_
    refine RG.nil ?_
    exact ⟨rfl, i + 1, (kk + 1 + costL nI (gd (pinsOf (markTo mkDev nDev xs k0 i)) i).xs + 1 + 1), ⟨by omega, by rw [hc]; omega⟩, ⟨rfl, rfl, trivial⟩, ⟨rfl, trivial⟩, ((Cv.p (C := osl 2 intT (gd (pinsOf (markTo mkDev nDev xs k0 i)) i).v (markL mkI nI (gd (pinsOf (markTo mkDev nDev xs k0 i)) i).xs (kk + 1)) :: osl 64 devT v ((markTo mkDev nDev xs k0 i).set i (Dev.s3 (kk + 1 + costL nI (gd (pinsOf (markTo mkDev nDev xs k0 i)) i).xs + 1) (Dev.s2 (kk + 1 + costL nI (gd (pinsOf (markTo mkDev nDev xs k0 i)) i).xs) (Dev.s0 kk (gd (markTo mkDev nDev xs k0 i) i))))) :: bag (((pinsOf (markTo mkDev nDev xs k0 i)).map (ownS 2 intT)).set i emp) :: L)).trans ((Cv.slotD (zs := markTo mkDev nDev xs k0 i) (p := Dev.s3 (kk + 1 + costL nI (gd (pinsOf (markTo mkDev nDev xs k0 i)) i).xs + 1) (Dev.s2 (kk + 1 + costL nI (gd (pinsOf (markTo mkDev nDev xs k0 i)) i).xs) (Dev.s0 kk (gd (markTo mkDev nDev xs k0 i) i)))) (q := mkDev (gd xs i) (k0 + costL nDev (xs.take i))) (ys := markL mkI nI (gd (pinsOf (markTo mkDev nDev xs k0 i)) i).xs (kk + 1)) i (by omega) (by rw [hgi, hmg, mkDev, ← hkk]) rfl).trans (Cv.cast (L' := osl 64 devT v (markTo mkDev nDev xs k0 (i + 1)) :: bagS 2 intT (pinsOf (markTo mkDev nDev xs k0 (i + 1))) :: L) (by rw [← markTo_set h2])))), by omega⟩
  · have h1 := of_decide_eq_false h1
    have e : kk = k0 + costL nDev xs := by rw [hkk, List.take_of_length_le (by omega)]
    rw [← e] at k
    refine WP.exit ?_
    refine WP.seq ?_
    refine WP.region ?_
    refine RG.pv rfl (PV.mvI (.inl rfl) rfl) ?_
    refine RG.pv rfl (PV.mvI (.inr rfl) rfl) ?_
    refine RG.nil ?_
    refine WP.ret ?_
    exact ⟨_, _, ResV.one rfl rfl, (Cv.cast (by rw [markTo_all (by omega)])), k⟩
theorem heldDevS_s {v : Value} {xs : List Dev} {k0 : Int} (h0 : Rs G L devT v (markL mkDev nDev xs k0)) (hd : RsE G L intT (pinsOf (markL mkDev nDev xs k0))) (hk : 0 ≤ k0) (hb : k0 + costL nDev xs ≤ 4611686018427387904) (k : R (vi (k0 + costL nDev xs)) G L) : CallT Tryz.prog 37 #[v, vi k0] G L R := by
  have hml := markL_len mkDev nDev xs k0
  refine CallT.bd h0 fun hb2 => ?_
  refine CallT.enter (args := _) Tryz.func37 rfl rfl (by kernel_rfl) rfl ?_
  refine WP.seq ?_
  refine WP.region ?_
  refine RG.pv rfl (PV.mvI (.inr rfl) rfl) ?_
  refine RG.nil ?_
  refine WP.seq ?_
  refine WP.seq ?_
  refine WP.region ?_
  refine RG.pv rfl (PV.mvI (.inr rfl) rfl) ?_
  refine RG.nil ?_
  refine WP.block ?_
  refine WP.loop2 [0] (fun (i : Nat) (kk : Int) => i ≤ xs.length ∧ kk = k0 + costL nDev (xs.take i)) (fun (i : Nat) (kk : Int) => [(5, vi i), (1, vi kk)]) (fun (i : Nat) (kk : Int) => L) (fun (i : Nat) (kk : Int) => xs.length - i) 0 k0 ⟨by omega, by simp [costL]⟩ ⟨rfl, rfl, trivial⟩ Cv.p ?_
  rintro i kk τ ⟨hi, hkk⟩
  refine WP.seq ?_
  refine WP.seq ?_
  refine WP.region ?_
  refine RG.pv rfl (PV.mvI (.inl rfl) rfl) ?_
  refine RG.pv rfl (PV.move (v := v) rfl rfl) ?_
  refine RG.pv rfl (PV.len (v := v) rfl Tryz.underlying53 rfl (SlF.r h0)) ?_
  refine RG.pv rfl (PV.lss rfl rfl rfl) ?_
  refine RG.nil ?_
  refine WP.cond rfl (fun h1 => ?_) (fun h1 => ?_)
  · have h1 := of_decide_eq_true h1
    have h2 : i < xs.length := by omega
    have hc := costL_take nDev h2
    have hc1 : costL nDev (xs.take (i + 1)) ≤ costL nDev xs := costL_le nDev_nn xs (i + 1)
    have hc2 : 0 ≤ costL nDev (xs.take i) := costL_nonneg nDev_nn (xs.take i)
    have hc3 : costL nI (gd xs i).pins.xs = 1 * (gd xs i).pins.xs.length := nI_cost _
    have hc5 : nDev (gd xs i) = 3 + costL nI (gd xs i).pins.xs := rfl
    refine WP.skip ?_
    refine WP.seq ?_
    refine WP.block ?_
    refine WP.seq ?_
    refine WP.seq ?_
    refine WP.region ?_
    refine RG.pv rfl (PV.move (v := v) rfl rfl) ?_
    refine RG.pv rfl (PV.mvI (.inl rfl) rfl) ?_
    refine RG.pv rfl (PV.idxS (v := v) rfl Is53 rfl (SlF.r h0) rfl rfl (by omega)) ?_
    refine RG.pv rfl (PV.field rfl Fo64_0 rfl) ?_
    refine RG.pv rfl (PV.loadF rfl Sc2 rfl rfl (El.r h0 (getG (by omega))) rfl) ?_
    refine RG.pv rfl (PV.mvI (.inl rfl) rfl) ?_
    refine RG.pv rfl (PV.neq rfl rfl rfl) ?_
    refine RG.nil ?_
    refine WP.cond rfl (fun h3 => ?_) (fun h3 => ?_)
    · simp [gd_mark h2, mkDev, hkk] at h3
    · refine WP.skip ?_
      refine WP.seq ?_
      refine WP.region ?_
      refine RG.pv rfl (PV.mvI (.inl rfl) rfl) ?_
      refine RG.pv rfl (PV.add rfl rfl rfl (by omega)) ?_
      refine RG.pv rfl (PV.mvI (.inr rfl) rfl) ?_
      refine RG.nil ?_
      refine WP.seq ?_
      refine WP.region ?_
      refine RG.pv rfl (PV.move (v := v) rfl rfl) ?_
      refine RG.pv rfl (PV.mvI (.inl rfl) rfl) ?_
      refine RG.pv rfl (PV.idxS (v := v) rfl Is53 rfl (SlF.r h0) rfl rfl (by omega)) ?_
      refine RG.pv rfl (PV.field rfl Fo64_1 rfl) ?_
      refine RG.pv rfl (PV.loadF rfl Sc26 rfl rfl (El.r h0 (getG (by omega))) rfl) ?_
      refine RG.pv rfl (PV.mvI (.inl rfl) rfl) ?_
      refine RG.callF (vs := [_, _]) rfl rfl En21 rfl (heldInt_s (xs := (gd xs i).pins.xs) (by have := hd i (by rw [pinsOf_len]; omega); rw [pinsOf_gd (by omega), gd_mark h2] at this; rw [gd_mark h2, hkk]; exact this.up) (by omega) (by omega) ?_)
      refine RG.pv rfl (PV.mvI (.inr rfl) rfl) ?_
      refine RG.nil ?_
      refine WP.seq ?_
      refine WP.seq ?_
      refine WP.region ?_
      refine RG.pv rfl (PV.mvI (.inl rfl) rfl) ?_
      refine RG.pv rfl (PV.lss rfl rfl rfl) ?_
      refine RG.nil ?_
      refine WP.cond rfl (fun h4 => ?_) (fun h4 => ?_)
      · simp at h4; omega
      · refine WP.skip ?_
        refine WP.seq ?_
        refine WP.seq ?_
        refine WP.region ?_
        refine RG.pv rfl (PV.move (v := v) rfl rfl) ?_
        refine RG.pv rfl (PV.mvI (.inl rfl) rfl) ?_
        refine RG.pv rfl (PV.idxS (v := v) rfl Is53 rfl (SlF.r h0) rfl rfl (by omega)) ?_
        refine RG.pv rfl (PV.field rfl Fo64_2 rfl) ?_
        refine RG.pv rfl (PV.loadF rfl Sc2 rfl rfl (El.r h0 (getG (by omega))) rfl) ?_
        refine RG.pv rfl (PV.mvI (.inl rfl) rfl) ?_
        refine RG.pv rfl (PV.neq rfl rfl rfl) ?_
        refine RG.nil ?_
        refine WP.cond rfl (fun h5 => ?_) (fun h5 => ?_)
        · simp [gd_mark h2, mkDev, hkk] at h5
        · refine WP.skip ?_
          refine WP.seq ?_
          refine WP.region ?_
          refine RG.pv rfl (PV.mvI (.inl rfl) rfl) ?_
          refine RG.pv rfl (PV.add rfl rfl rfl (by omega)) ?_
          refine RG.pv rfl (PV.mvI (.inr rfl) rfl) ?_
          refine RG.nil ?_
          refine WP.seq ?_
          refine WP.seq ?_
          refine WP.region ?_
          refine RG.pv rfl (PV.move (v := v) rfl rfl) ?_
          refine RG.pv rfl (PV.mvI (.inl rfl) rfl) ?_
          refine RG.pv rfl (PV.idxS (v := v) rfl Is53 rfl (SlF.r h0) rfl rfl (by omega)) ?_
          refine RG.pv rfl (PV.field rfl Fo64_3 rfl) ?_
          refine RG.pv rfl (PV.loadF rfl Sc2 rfl rfl (El.r h0 (getG (by omega))) rfl) ?_
          refine RG.pv rfl (PV.mvI (.inl rfl) rfl) ?_
          refine RG.pv rfl (PV.neq rfl rfl rfl) ?_
          refine RG.nil ?_
          refine WP.cond rfl (fun h6 => ?_) (fun h6 => ?_)
          · simp [gd_mark h2, mkDev, hkk] at h6
          · refine WP.skip ?_
            refine WP.region ?_
            refine RG.pv rfl (PV.mvI (.inl rfl) rfl) ?_
            refine RG.pv rfl (PV.add rfl rfl rfl (by omega)) ?_
            refine RG.pv rfl (PV.mvI (.inr rfl) rfl) ?_
            refine RG.nil ?_
            refine WP.region ?_
            refine RG.pv rfl (PV.mvI (.inl rfl) rfl) ?_
            refine RG.pv rfl (PV.add rfl rfl rfl (by omega)) ?_
            refine RG.pv rfl (PV.mvI (.inr rfl) rfl) ?_
            refine RG.nil ?_
            exact ⟨rfl, i + 1, _, ⟨by omega, by rw [hc]; omega⟩, ⟨rfl, rfl, trivial⟩, ⟨rfl, trivial⟩, Cv.p, by omega⟩
  · have h1 := of_decide_eq_false h1
    have e : kk = k0 + costL nDev xs := by rw [hkk, List.take_of_length_le (by omega)]
    rw [← e] at k
    refine WP.exit ?_
    refine WP.seq ?_
    refine WP.region ?_
    refine RG.pv rfl (PV.mvI (.inl rfl) rfl) ?_
    refine RG.pv rfl (PV.mvI (.inr rfl) rfl) ?_
    refine RG.nil ?_
    refine WP.ret ?_
    exact ⟨_, _, ResV.one rfl rfl, Cv.p, k⟩
end Go.Proofs.YtmomfgfmnpblpaaGreat
namespace Go.Proofs.YtmomfgfmnpblpaaGreat
set_option linter.unusedVariables false
set_option linter.unusedSimpArgs false
open Go
set_option maxRecDepth 20000
set_option linter.unusedSimpArgs false
variable {G : Gh} {L : List Ch} {R : Value → Gh → List Ch → Prop}
theorem canon_pos {bs : List Bool} (h : bs.length = 6400) : 0 < (canon bs).length ↔ ∃ y x, y < 80 ∧ x < 80 ∧ gb bs y x = true := by
  constructor
  · intro h0
    have hv := valid_first h0 (isReg_canon h)
    obtain ⟨y, x, hy, hx, hi⟩ := valid_cell hv
    exact ⟨y, x, hy, hx, by rw [← bits_canon h]; exact (gb_bits_iff hy hx).2 ⟨_, gd_mem h0, hi⟩⟩
  · rintro ⟨y, x, hy, hx, hg⟩
    rw [← bits_canon h] at hg
    obtain ⟨r, hr, _⟩ := (gb_bits_iff hy hx).1 hg
    exact List.length_pos_of_mem hr
theorem malfE_pos {l : List (List Rect)} (hl : isLay l = true) : 0 < (malfE l).length ↔ 0 < (malf l).length := by
  rw [malfE, hl, cond_true, canon_pos (bits_length _)]
  constructor
  · rintro ⟨y, x, hy, hx, hg⟩
    obtain ⟨r, hr, _⟩ := (gb_bits_iff hy hx).1 hg
    obtain ⟨g, hg, _⟩ := List.mem_flatten.1 hr
    exact List.length_pos_of_mem hg
  · intro h0
    have hm : gd (malf l) 0 ∈ malf l := gd_mem h0
    have hp := partsC_ne (List.mem_filter.1 hm).1
    obtain ⟨y, x, hy, hx, hi⟩ := valid_cell (valid_first hp.1 hp.2)
    exact ⟨y, x, hy, hx, (gb_bits_iff hy hx).2 ⟨_, List.mem_flatten.2 ⟨_, hm, gd_mem hp.1⟩, hi⟩⟩
theorem chanE_mem {l : List (List Rect)} {c : Chan} (hl : isLay l = true) (h : c ∈ chans l) : chanE l c.box = some c := by
  obtain ⟨g, hg, hi, rfl⟩ := chans_mem h
  have hne := partsC_ne hg
  have h1 := (chan_kind hne.1 hne.2 hi).1
  rw [chanE, hl, cond_true, chanW]
  cases hf : (chans l).find? (fun c => decide (c.box = (mkCh l g).box)) with
  | none => exfalso; rw [List.find?_eq_none] at hf; exact hf _ h (by simp)
  | some c' =>
    have hm := List.mem_of_find?_eq_some hf
    have hp := List.find?_some hf
    obtain ⟨g', hg', hi', rfl⟩ := chans_mem hm
    have h2 := (chan_kind (partsC_ne hg').1 (partsC_ne hg').2 hi').1
    have e : gd g' 0 = gd g 0 := of_decide_eq_true hp
    have : g' = g := by
      match g, g', h1, h2, e with
      | [a], [b], _, _, e => simpa [gd] using e
    rw [this]
/-- what the reference finds at the rectangle of a channel -/
theorem has_chan {l : List (List Rect)} {c : Chan} (hl : isLay l = true) (h : c ∈ chans l) : (hasK l c.box).1 = c.kind ∧ decide ((hasK l c.box).2 = 2) = (!c.hor) ∧ sizeR c.box (hasK l c.box).2 = sizeC c ∧ validRect c.box = true := by
  have he := chanE_mem hl h
  have hv := chan_valid h
  have hk := kindE_eq l c.box
  have hs := sizeE_eq l c.box
  rw [he] at hk hs
  rw [kindE, hl, cond_true] at hk
  rw [sizeE, hl, cond_true, if_neg (by rw [hk]; simp only; omega)] at hs
  refine ⟨hk, ?_, hs, hv.1⟩
  rcases hasK_ch (box := c.box) hl with ⟨q1, q2⟩ | ⟨c', q2, q1, q3⟩
  · rw [he] at q2; cases q2
  · rw [he] at q2; cases q2; exact q3
theorem boxes_ch {l : List (List Rect)} (hl : isLay l = true) : boxesE l = (chans l).map Chan.box := by rw [boxesE, hl]; rfl
theorem devices_r {v : Value} {xs : List (Sl Rect)} (h1 : Rs G L slT v xs) (hd : RsE G L rectT xs) (k : ∀ v' ds, ds.map erD = devR (er xs) → R (.tuple #[v', vi (devC (er xs))]) G (osl 64 devT v' ds :: bagS 2 intT (pinsOf ds) :: L)) : CallT Tryz.prog 30 #[v] G L R := by
  have hcl : (clsL (er xs)).length ≤ 25600 := by rw [clsL_len]; exact pcL_len (er xs) 4
  refine CallT.enter (args := _) Tryz.func30 rfl rfl (by kernel_rfl) rfl ?_
  refine WP.seq ?_
  refine WP.region ?_
  refine RG.pv rfl (PV.asg rfl rfl) ?_
  refine RG.pv rfl (PV.mvI (.inr rfl) rfl) ?_
  refine RG.nil ?_
  refine WP.seq ?_
  refine WP.seq ?_
  refine WP.region ?_
  refine RG.pv rfl (PV.move (v := v) rfl rfl) ?_
  refine RG.callF (vs := [v]) rfl rfl En72 rfl (nets_r (Rs.up h1) hd.up (fun w18 zsw18 hew18 => ?_))
  refine RG.pv rfl (PV.move (v := .tuple _) rfl rfl) ?_
  refine RG.pv rfl (PV.ext (v := w18) rfl rfl rfl) ?_
  refine RG.pv rfl (PV.ext rfl rfl rfl) ?_
  refine RG.pv rfl (PV.asg (v := w18) rfl rfl) ?_
  refine RG.pv rfl (PV.mvI (.inr rfl) rfl) ?_
  refine RG.nil ?_
  refine WP.seq ?_
  refine WP.region ?_
  refine RG.pv rfl (PV.mvI (.inl rfl) rfl) ?_
  refine RG.pv rfl (PV.neq rfl rfl rfl) ?_
  refine RG.nil ?_
  refine WP.cond rfl (fun h2 => ?_) (fun h2 => ?_)
  · have h3 : netE (er xs) ≠ 0 := by simpa using h2
    have e1 : devC (er xs) = netE (er xs) := by rw [devC, if_neg h3]
    have e2 : devR (er xs) = [] := by rw [devR, e1, if_neg h3]
    rw [e1, e2] at k
    refine WP.seq ?_
    refine WP.region ?_
    refine RG.ot rfl (OT.bslice (F := devT) (els := []) rfl El53 rfl (by decide) rfl (by decide) trivial fun v23 => ?_)
    refine RG.pv rfl (PV.mvI (.inl rfl) rfl) ?_
    refine RG.pv rfl (PV.asg (v := v23) rfl rfl) ?_
    refine RG.pv rfl (PV.mvI (.inr rfl) rfl) ?_
    refine RG.nil ?_
    refine WP.ret ?_
    exact ⟨_, _, ResV.two rfl rfl rfl, ((Cv.p (C := osl 64 devT v23 ([] : List Dev) :: L)).trans (Cv.cons (Cv.bag0 (e := 2) (F := intT) (xs := pinsOf []) rfl))), k _ [] rfl⟩
  · have h3 : netE (er xs) = 0 := by simpa using h2
    have hlay := (netE_ok h3).1
    have hmp := malfE_pos hlay
    refine WP.skip ?_
    refine WP.seq ?_
    refine WP.seq ?_
    refine WP.region ?_
    refine RG.pv rfl (PV.move (v := v) rfl rfl) ?_
    refine RG.callF (vs := [v]) rfl rfl En73 rfl (malf_r (Rs.up h1) hd.up (fun v26 => ?_))
    refine RG.pv rfl (PV.len (v := v26) rfl Tryz.underlying56 rfl SlF.o) ?_
    refine RG.pv rfl (PV.gtr rfl rfl rfl) ?_
    refine RG.nil ?_
    refine WP.cond rfl (fun h4 => ?_) (fun h4 => ?_)
    · have h4 := of_decide_eq_true h4
      have e1 : devC (er xs) = 6 := by rw [devC, if_pos h3, if_pos (by omega)]
      have e2 : devR (er xs) = [] := by rw [devR, e1, if_neg (by omega)]
      rw [e1, e2] at k
      refine WP.seq ?_
      refine WP.region ?_
      refine RG.ot rfl (OT.bslice (F := devT) (els := []) rfl El53 rfl (by decide) rfl (by decide) trivial fun v29 => ?_)
      refine RG.pv rfl (PV.asg (v := v29) rfl rfl) ?_
      refine RG.pv rfl (PV.mvI (.inr rfl) rfl) ?_
      refine RG.nil ?_
      refine WP.ret ?_
      exact ⟨_, _, ResV.two rfl rfl rfl, ((Cv.p (C := osl 64 devT v29 ([] : List Dev) :: L)).trans (Cv.cons (Cv.bag0 (e := 2) (F := intT) (xs := pinsOf []) rfl))), k _ [] rfl⟩
    · have h4 := of_decide_eq_false h4
      have hbx := boxes_ch hlay
      have hbl : (boxesE (er xs)).length = (chans (er xs)).length := by rw [hbx, List.length_map]
      have hcb := chans_len (er xs)
      refine WP.skip ?_
      refine WP.seq ?_
      refine WP.region ?_
      refine RG.pv rfl (PV.move (v := v) rfl rfl) ?_
      refine RG.callF (vs := [v]) rfl rfl En74 rfl (channels_r (Rs.up h1) hd.up (fun v31 => ?_))
      refine RG.pv rfl (PV.asg (v := v31) rfl rfl) ?_
      refine RG.nil ?_
      refine WP.seq ?_
      refine WP.seq ?_
      refine WP.region ?_
      refine RG.pv rfl (PV.move (v := v31) rfl rfl) ?_
      refine RG.pv rfl (PV.len (v := v31) rfl Tryz.underlying56 rfl SlF.o) ?_
      refine RG.pv rfl (PV.gtr rfl rfl rfl) ?_
      refine RG.nil ?_
      refine WP.cond rfl (fun h5 => ?_) (fun h5 => ?_)
      · have h5 := of_decide_eq_true h5
        have e1 : devC (er xs) = 3 := by rw [devC, if_pos h3, if_neg (by omega), if_pos (by omega)]
        have e2 : devR (er xs) = [] := by rw [devR, e1, if_neg (by omega)]
        rw [e1, e2] at k
        refine WP.seq ?_
        refine WP.region ?_
        refine RG.ot rfl (OT.bslice (F := devT) (els := []) rfl El53 rfl (by decide) rfl (by decide) trivial fun v35 => ?_)
        refine RG.pv rfl (PV.asg (v := v35) rfl rfl) ?_
        refine RG.pv rfl (PV.mvI (.inr rfl) rfl) ?_
        refine RG.nil ?_
        refine WP.ret ?_
        exact ⟨_, _, ResV.two rfl rfl rfl, ((Cv.p (C := osl 64 devT v35 ([] : List Dev) :: L)).trans (Cv.cons (Cv.bag0 (e := 2) (F := intT) (xs := pinsOf []) rfl))), k _ [] rfl⟩
      · have h5 := of_decide_eq_false h5
        have e1 : devC (er xs) = 0 := by rw [devC, if_pos h3, if_neg (by omega), if_neg (by omega)]
        have e2 : devR (er xs) = (chans (er xs)).map (devOf (er xs)) := by rw [devR, if_pos e1]
        rw [e1, e2] at k
        refine WP.skip ?_
        refine WP.seq ?_
        refine WP.region ?_
        refine RG.pv rfl (PV.move (v := v) rfl rfl) ?_
        refine RG.callF (vs := [v]) rfl rfl En47 rfl (l23Parts_s (Rs.up h1) hd.up hlay (fun v37 csv37 hev37 => ?_))
        refine RG.pv rfl (PV.asg (v := v37) rfl rfl) ?_
        refine RG.nil ?_
        refine WP.seq ?_
        refine WP.region ?_
        refine RG.pv rfl (PV.move (v := v37) rfl rfl) ?_
        refine RG.pv rfl (PV.move (v := v) rfl rfl) ?_
        refine RG.callF (vs := [v37, v]) rfl rfl En49 rfl (l23Roots_s Rs.o RsE.o (Rs.up h1) hd.up hlay hev37 (fun v41 => ?_))
        refine RG.callF (vs := [v41]) rfl rfl En48 rfl (l23Numbers_s Rs.o (clsL_rt _) hcl (fun w42 => ?_))
        refine RG.pv rfl (PV.move (v := .tuple _) rfl rfl) ?_
        refine RG.pv rfl (PV.ext (v := w42) rfl rfl rfl) ?_
        refine RG.pv rfl (PV.ext rfl rfl rfl) ?_
        refine RG.pv rfl (PV.asg (v := w42) rfl rfl) ?_
        refine RG.pv rfl (PV.mvI (.inr rfl) rfl) ?_
        refine RG.nil ?_
        refine WP.seq ?_
        refine WP.region ?_
        refine RG.ot rfl (OT.bslice (F := devT) (els := []) rfl El53 rfl (by decide) rfl (by decide) trivial fun v45 => ?_)
        refine RG.pv rfl (PV.asg (v := v45) rfl rfl) ?_
        refine RG.nil ?_
        refine WP.seq ?_
        refine WP.seq ?_
        refine WP.region ?_
        refine RG.pv rfl (PV.mvI (.inr rfl) rfl) ?_
        refine RG.nil ?_
        refine WP.block ?_
        refine WP.cv ((Cv.p (C := osl 64 devT v45 ([] : List Dev) :: osl 61 rectT v31 (boxesE (er xs)) :: osl 127 partT v37 csv37 :: bagS 4 boolT (cels csv37) :: osl 2 intT w42 (nums (clsL (er xs))) :: L)).trans (Cv.cons (Cv.bag0 (e := 2) (F := intT) (xs := pinsOf []) rfl))) ?_
        refine WP.loop3 [0, 6, 7, 8] (fun (i : Nat) (ds : List Dev) (q : Value) => i ≤ (boxesE (er xs)).length ∧ ds.map erD = ((chans (er xs)).take i).map (devOf (er xs))) (fun (i : Nat) (ds : List Dev) (q : Value) => [(11, vi i), (10, q)]) (fun (i : Nat) (ds : List Dev) (q : Value) => osl 64 devT q ds :: bagS 2 intT (pinsOf ds) :: osl 61 rectT v31 (boxesE (er xs)) :: osl 127 partT v37 csv37 :: bagS 4 boolT (cels csv37) :: osl 2 intT w42 (nums (clsL (er xs))) :: L) (fun (i : Nat) (ds : List Dev) (q : Value) => (boxesE (er xs)).length - i) 0 [] v45 ⟨by omega, rfl⟩ ⟨rfl, rfl, trivial⟩ Cv.p ?_
        rintro i ds q τ ⟨hi, hds⟩
        refine WP.seq ?_
        refine WP.seq ?_
        refine WP.region ?_
        refine RG.pv rfl (PV.mvI (.inl rfl) rfl) ?_
        refine RG.pv rfl (PV.move (v := v31) rfl rfl) ?_
        refine RG.pv rfl (PV.len (v := v31) rfl Tryz.underlying56 rfl SlF.o) ?_
        refine RG.pv rfl (PV.lss rfl rfl rfl) ?_
        refine RG.nil ?_
        have hdl : ds.length = i := by have := congrArg List.length hds; simp at this; omega
        refine WP.cond rfl (fun h6 => ?_) (fun h6 => ?_)
        · have h6 := of_decide_eq_true h6
          have hcm : gd (chans (er xs)) i ∈ chans (er xs) := gd_mem (by omega)
          have hbi : gd (boxesE (er xs)) i = (gd (chans (er xs)) i).box := by rw [hbx, gd_map _ (by omega)]
          obtain ⟨q1, q2, q3, hbv⟩ := has_chan hlay hcm
          rw [← hbi] at q1 q2 q3 hbv
          refine WP.skip ?_
          refine WP.seq ?_
          refine WP.block ?_
          refine WP.seq ?_
          refine WP.region ?_
          refine RG.pv rfl (PV.move (v := v) rfl rfl) ?_
          refine RG.pv rfl (PV.move (v := v31) rfl rfl) ?_
          refine RG.pv rfl (PV.mvI (.inl rfl) rfl) ?_
          refine RG.pv rfl (PV.idxS (v := v31) rfl Is56 rfl SlF.o rfl rfl (by omega)) ?_
          refine RG.pv rfl (PV.loadE rfl Ag61 rfl rfl (El.o (getG (by omega)))) ?_
          refine RG.callF (vs := [v, _]) rfl rfl En75 rfl (l24Has_s (Rs.up h1) hd.up hlay ?_)
          refine RG.pv rfl (PV.move (v := .tuple _) rfl rfl) ?_
          refine RG.pv rfl (PV.ext rfl rfl rfl) ?_
          refine RG.pv rfl (PV.ext rfl rfl rfl) ?_
          refine RG.pv rfl (PV.mvI (.inr rfl) rfl) ?_
          refine RG.pv rfl (PV.mvI (.inr rfl) rfl) ?_
          refine RG.nil ?_
          refine WP.seq ?_
          refine WP.region ?_
          refine RG.pv rfl (PV.move (v := v31) rfl rfl) ?_
          refine RG.pv rfl (PV.mvI (.inl rfl) rfl) ?_
          refine RG.pv rfl (PV.idxS (v := v31) rfl Is56 rfl SlF.o rfl rfl (by omega)) ?_
          refine RG.pv rfl (PV.loadE rfl Ag61 rfl rfl (El.o (getG (by omega)))) ?_
          refine RG.pv rfl (PV.mvI (.inl rfl) rfl) ?_
          refine RG.callF (vs := [_, _]) rfl rfl En76 rfl (l24Size_s hbv ?_)
          refine RG.pv rfl (PV.move (v := .tuple _) rfl rfl) ?_
          refine RG.pv rfl (PV.ext rfl rfl rfl) ?_
          refine RG.pv rfl (PV.ext rfl rfl rfl) ?_
          refine RG.pv rfl (PV.mvI (.inr rfl) rfl) ?_
          refine RG.pv rfl (PV.mvI (.inr rfl) rfl) ?_
          refine RG.nil ?_
          refine WP.region ?_
          refine RG.pv rfl (PV.move (v := q) rfl rfl) ?_
          refine RG.pv rfl (PV.mvI (.inl rfl) rfl) ?_
          refine RG.pv rfl (PV.move (v := v37) rfl rfl) ?_
          refine RG.pv rfl (PV.move (v := w42) rfl rfl) ?_
          refine RG.pv rfl (PV.move (v := v31) rfl rfl) ?_
          refine RG.pv rfl (PV.mvI (.inl rfl) rfl) ?_
          refine RG.pv rfl (PV.idxS (v := v31) rfl Is56 rfl SlF.o rfl rfl (by omega)) ?_
          refine RG.pv rfl (PV.loadE rfl Ag61 rfl rfl (El.o (getG (by omega)))) ?_
          refine RG.pv rfl (PV.mvI (.inl rfl) rfl) ?_
          refine RG.callF (vs := [v37, w42, _, _]) rfl rfl En77 rfl (l24Pins_s Rs.o RsE.o Rs.o hev37 hbv (fun v79 => ?_))
          refine RG.pv rfl (PV.mvI (.inl rfl) rfl) ?_
          refine RG.pv rfl (PV.mvI (.inl rfl) rfl) ?_
          refine RG.pv rfl (PV.build (vs := [(0, [vi _]), (1, [v79]), (2, [vi _]), (3, [vi _])]) (out := [_, _, _, _]) rfl Zr64 Pl64 ⟨rfl, (Cl.c rfl), ⟨rfl, (Cl.s (v := v79) SlF.o), ⟨rfl, (Cl.c rfl), ⟨rfl, (Cl.c rfl), trivial⟩⟩⟩⟩ rfl) ?_
          refine RG.ot rfl (OT.bslice (F := devT) (els := [⟨(hasK (er xs) (gd (boxesE (er xs)) i)).1, ⟨v79, pinsL (er xs) (gd (boxesE (er xs)) i) (decide ((hasK (er xs) (gd (boxesE (er xs)) i)).2 = 2))⟩, (sizeR (gd (boxesE (er xs)) i) (hasK (er xs) (gd (boxesE (er xs)) i)).2).1, (sizeR (gd (boxesE (er xs)) i) (hasK (er xs) (gd (boxesE (er xs)) i)).2).2⟩]) rfl El53 rfl (by decide) rfl (by decide) ⟨rfl, (Cl.c rfl), trivial⟩ fun v83 => ?_)
          refine RG.ot rfl (OT.append (v := q) (u := v83) (F := devT) rfl El53 rfl (by decide) rfl rfl Rs.o (OneL.one (OneC.val rfl (OneC.sl SlF.o (OneC.val rfl (OneC.val rfl OneC.nil))))) rfl (by first | omega | (simp <;> omega)) fun v84 => ?_)
          refine RG.pv rfl (PV.asg (v := v84) rfl rfl) ?_
          refine RG.nil ?_
          refine WP.region ?_
          refine RG.pv rfl (PV.mvI (.inl rfl) rfl) ?_
          refine RG.pv rfl (PV.add rfl rfl rfl (by omega)) ?_
          refine RG.pv rfl (PV.mvI (.inr rfl) rfl) ?_
          refine RG.nil ?_
          exact ⟨rfl, i + 1, (ds ++ [⟨(hasK (er xs) (gd (boxesE (er xs)) i)).1, ⟨v79, pinsL (er xs) (gd (boxesE (er xs)) i) (decide ((hasK (er xs) (gd (boxesE (er xs)) i)).2 = 2))⟩, (sizeR (gd (boxesE (er xs)) i) (hasK (er xs) (gd (boxesE (er xs)) i)).2).1, (sizeR (gd (boxesE (er xs)) i) (hasK (er xs) (gd (boxesE (er xs)) i)).2).2⟩]), v84, ⟨by omega, by rw [List.take_add_one, getG (by omega), List.map_append, List.map_append, hds, q1, q2, q3, hbi]; rfl⟩, ⟨rfl, rfl, trivial⟩, ⟨rfl, rfl, rfl, rfl, trivial⟩, ((Cv.p (C := osl 2 intT v79 (pinsL (er xs) (gd (boxesE (er xs)) i) (decide ((hasK (er xs) (gd (boxesE (er xs)) i)).2 = 2))) :: bagS 2 intT (pinsOf ds) :: osl 64 devT v84 (ds ++ [⟨(hasK (er xs) (gd (boxesE (er xs)) i)).1, ⟨v79, pinsL (er xs) (gd (boxesE (er xs)) i) (decide ((hasK (er xs) (gd (boxesE (er xs)) i)).2 = 2))⟩, (sizeR (gd (boxesE (er xs)) i) (hasK (er xs) (gd (boxesE (er xs)) i)).2).1, (sizeR (gd (boxesE (er xs)) i) (hasK (er xs) (gd (boxesE (er xs)) i)).2).2⟩]) :: osl 61 rectT v31 (boxesE (er xs)) :: osl 127 partT v37 csv37 :: bagS 4 boolT (cels csv37) :: osl 2 intT w42 (nums (clsL (er xs))) :: L)).trans ((Cv.grow (ys' := pinsOf (ds ++ [⟨(hasK (er xs) (gd (boxesE (er xs)) i)).1, ⟨v79, pinsL (er xs) (gd (boxesE (er xs)) i) (decide ((hasK (er xs) (gd (boxesE (er xs)) i)).2 = 2))⟩, (sizeR (gd (boxesE (er xs)) i) (hasK (er xs) (gd (boxesE (er xs)) i)).2).1, (sizeR (gd (boxesE (er xs)) i) (hasK (er xs) (gd (boxesE (er xs)) i)).2).2⟩])) (by simp [pinsOf])).trans Cv.p)), by omega⟩
        · have h6 := of_decide_eq_false h6
          have hds2 : ds.map erD = (chans (er xs)).map (devOf (er xs)) := by rw [hds, List.take_of_length_le (by omega)]
          refine WP.exit ?_
          refine WP.seq ?_
          refine WP.region ?_
          refine RG.pv rfl (PV.move (v := q) rfl rfl) ?_
          refine RG.pv rfl (PV.asg (v := q) rfl rfl) ?_
          refine RG.pv rfl (PV.mvI (.inr rfl) rfl) ?_
          refine RG.nil ?_
          refine WP.ret ?_
          exact ⟨_, _, ResV.two rfl rfl rfl, Cv.p, k q ds hds2⟩
def nDE (e : Int × List Int × Int × Int) : Int := 3 + costL nI e.2.1
theorem nDev_er (ds : List Dev) : costL nDev ds = costL nDE (ds.map erD) := (costL_map nDE erD ds).symm
theorem devR_cost (l : List (List Rect)) : costL nDE (devR l) ≤ 6 * 24 ∧ (devR l).length ≤ 24 := by
  unfold devR
  split
  · rename_i h
    have hl : (chans l).length ≤ 24 := by
      unfold devC at h
      split at h
      · split at h
        · omega
        · split at h
          · omega
          · omega
      · omega
    have hb : costL nDE ((chans l).map (devOf l)) ≤ 6 * ((chans l).map (devOf l)).length := costL_bd fun x hx => by
      obtain ⟨c, _, rfl⟩ := List.mem_map.1 hx
      simp only [nDE, devOf, pinsL]
      rw [nI_cost]; simp
    rw [List.length_map] at hb ⊢
    omega
  · simp [costL]
theorem law_Devices {v : Value} {xs : List (Sl Rect)} (h1 : Rs G L slT v xs) (hd : RsE G L rectT xs) (k : R (.bool true) G L) : CallT Tryz.prog 6 #[v] G L R := by
  refine CallT.enter (args := _) Tryz.func6 rfl rfl (by kernel_rfl) rfl ?_
  refine WP.seq ?_
  refine WP.region ?_
  refine RG.pv rfl (PV.mvB (.inr rfl) rfl) ?_
  refine RG.nil ?_
  refine WP.seq ?_
  refine WP.region ?_
  refine RG.pv rfl (PV.mvI (.inr rfl) rfl) ?_
  refine RG.nil ?_
  refine WP.seq ?_
  refine WP.region ?_
  refine RG.pv rfl (PV.move (v := v) rfl rfl) ?_
  refine RG.pv rfl (PV.mvI (.inl rfl) rfl) ?_
  refine RG.callF (vs := [v, _]) rfl rfl En9 rfl (szRectSS_s (Rs.up h1) hd.up (by omega) (by omega) (fun r hr hr' => ?_))
  refine RG.pv rfl (PV.mvI (.inr rfl) rfl) ?_
  refine RG.nil ?_
  refine WP.seq ?_
  refine WP.seq ?_
  refine WP.region ?_
  refine RG.pv rfl (PV.mvI (.inl rfl) rfl) ?_
  refine RG.pv rfl (PV.lss rfl rfl rfl) ?_
  refine RG.nil ?_
  refine WP.cond rfl (fun h2 => ?_) (fun h2 => ?_)
  · refine WP.seq ?_
    refine WP.region ?_
    refine RG.pv rfl (PV.mvB (.inr rfl) rfl) ?_
    refine RG.nil ?_
    refine WP.ret ?_
    exact ⟨_, _, ResV.one rfl rfl, Cv.p, k⟩
  · have h2 := of_decide_eq_false h2
    have hsz : szOf xs ≤ 1048576 := by have := hr' (by omega); omega
    have hc0 : 0 ≤ costL lenS xs := costL_nonneg lenS_nn _
    have hb : xs.length ≤ 1048576 := by simp only [szOf] at hsz; omega
    have hbi : ∀ i, i < xs.length → (gd xs i).xs.length ≤ 1048576 := fun i hi => by
      have := costL_mem lenS_nn hi; simp only [lenS, szOf] at *; omega
    have hcx : costL nRS xs ≤ 4194304 := by rw [nRS_lenS]; simp only [szOf] at hsz; omega
    have hcr := (devR_cost (er xs)).1
    refine WP.skip ?_
    refine WP.seq ?_
    refine WP.region ?_
    refine RG.pv rfl (PV.move (v := v) rfl rfl) ?_
    refine RG.callF (vs := [v]) rfl rfl En12 rfl (toRectSS_s (Rs.up h1) hd.up hb hbi (fun v21 ysv21 hev21 => ?_))
    refine RG.callF (vs := [v21]) rfl rfl En30 rfl (devices_r Rs.o RsE.o (fun w22 dsw22 hzw22 => ?_))
    refine RG.pv rfl (PV.move (v := .tuple _) rfl rfl) ?_
    refine RG.pv rfl (PV.ext (v := w22) rfl rfl rfl) ?_
    refine RG.pv rfl (PV.ext rfl rfl rfl) ?_
    refine RG.pv rfl (PV.asg (v := w22) rfl rfl) ?_
    refine RG.pv rfl (PV.mvI (.inr rfl) rfl) ?_
    refine RG.nil ?_
    refine WP.seq ?_
    refine WP.region ?_
    refine RG.pv rfl (PV.move (v := v) rfl rfl) ?_
    refine RG.callF (vs := [v]) rfl rfl En12 rfl (toRectSS_s (Rs.up h1) hd.up hb hbi (fun v26 ysv26 hev26 => ?_))
    refine RG.pv rfl (PV.asg (v := v26) rfl rfl) ?_
    refine RG.nil ?_
    refine WP.seq ?_
    refine WP.region ?_
    refine RG.pv rfl (PV.move (v := v26) rfl rfl) ?_
    refine RG.callF (vs := [v26]) rfl rfl En28 rfl (devices_i Rs.o RsE.o (fun w29 dsw29 hzw29 => ?_))
    refine RG.pv rfl (PV.move (v := .tuple _) rfl rfl) ?_
    refine RG.pv rfl (PV.ext (v := w29) rfl rfl rfl) ?_
    refine RG.pv rfl (PV.ext rfl rfl rfl) ?_
    refine RG.pv rfl (PV.asg (v := w29) rfl rfl) ?_
    refine RG.pv rfl (PV.mvI (.inr rfl) rfl) ?_
    refine RG.nil ?_
    refine WP.seq ?_
    refine WP.seq ?_
    refine WP.region ?_
    refine RG.pv rfl (PV.move (v := w29) rfl rfl) ?_
    refine RG.pv rfl (PV.move (v := w22) rfl rfl) ?_
    refine RG.callF (vs := [w29, w22]) rfl rfl En35 rfl (eqDevS_s Rs.o RsE.o Rs.o RsE.o ?_)
    refine RG.pv rfl (PV.not rfl rfl) ?_
    refine RG.pv rfl (PV.mvB (.inl rfl) rfl) ?_
    refine RG.gs rfl rfl rfl (fun hp => (PV.mvI (.inl rfl) rfl)) ?_
    refine RG.gs rfl rfl rfl (fun hp => (PV.mvI (.inl rfl) rfl)) ?_
    refine RG.gs rfl rfl rfl (fun hp => (PV.neq rfl (gs_t hp) (gs_t hp))) ?_
    refine RG.pv rfl (PV.pickO rfl rfl rfl (fun hq => gs_t (geqF hq))) ?_
    refine RG.nil ?_
    refine WP.cond rfl (fun h3 => ?_) (fun h3 => ?_)
    · simp [*] at h3
    · refine WP.skip ?_
      refine WP.seq ?_
      refine WP.seq ?_
      refine WP.region ?_
      refine RG.pv rfl (PV.move (v := v26) rfl rfl) ?_
      refine RG.pv rfl (PV.move (v := v) rfl rfl) ?_
      refine RG.callF (vs := [v]) rfl rfl En12 rfl (toRectSS_s (Rs.up h1) hd.up hb hbi (fun v43 ysv43 hev43 => ?_))
      refine RG.callF (vs := [v26, v43]) rfl rfl En16 rfl (eqRectSS_s Rs.o RsE.o Rs.o RsE.o ?_)
      refine RG.pv rfl (PV.not rfl rfl) ?_
      refine RG.nil ?_
      refine WP.cond rfl (fun h4 => ?_) (fun h4 => ?_)
      · simp [*] at h4
      · have hm1 : costL nRS ysv26 ≤ 4194304 := by rw [costL_er hev26]; exact hcx
        have hm2 : costL nDev dsw29 ≤ 6 * 24 := by rw [nDev_er, hzw29, hev26]; exact hcr
        have hm3 : 0 ≤ costL nRS ysv26 := costL_nonneg nSl_nn _
        have hm4 : 0 ≤ costL nDev dsw29 := costL_nonneg nDev_nn _
        refine WP.skip ?_
        refine WP.seq ?_
        refine WP.region ?_
        refine RG.pv rfl (PV.mvI (.inr rfl) rfl) ?_
        refine RG.nil ?_
        refine WP.seq ?_
        refine WP.region ?_
        refine RG.pv rfl (PV.move (v := v26) rfl rfl) ?_
        refine RG.pv rfl (PV.mvI (.inl rfl) rfl) ?_
        refine RG.callF (vs := [v26, _]) rfl rfl En18 rfl (CallT.exBg ysv26 (CallT.exS v26 (markRectSS_s (by omega) (by omega) ?_)))
        refine RG.pv rfl (PV.mvI (.inr rfl) rfl) ?_
        refine RG.nil ?_
        refine WP.seq ?_
        refine WP.seq ?_
        refine WP.region ?_
        refine RG.pv rfl (PV.mvI (.inl rfl) rfl) ?_
        refine RG.pv rfl (PV.lss rfl rfl rfl) ?_
        refine RG.pv rfl (PV.mvB (.inl rfl) rfl) ?_
        refine RG.gs rfl rfl rfl (fun hp => (PV.move (v := w29) rfl rfl)) ?_
        refine RG.gs rfl rfl rfl (fun hp => (PV.move (v := w22) rfl rfl)) ?_
        refine RG.gsC rfl rfl rfl rfl En35 (fun hp => ⟨_, (acons (gs_t hp) (acons (gs_t hp) anil)), eqDevS_s Rs.o RsE.o Rs.o RsE.o ⟨rfl, rfl, rfl⟩⟩) ?_
        refine RG.gs rfl rfl rfl (fun hp => (PV.not rfl (gs_t hp))) ?_
        refine RG.pv rfl (PV.pickO rfl rfl rfl (fun hq => gs_t (geqF hq))) ?_
        refine RG.pv rfl (PV.mvB (.inl rfl) rfl) ?_
        refine RG.gs rfl rfl rfl (fun hp => (PV.mvI (.inl rfl) rfl)) ?_
        refine RG.gs rfl rfl rfl (fun hp => (PV.mvI (.inl rfl) rfl)) ?_
        refine RG.gs rfl rfl rfl (fun hp => (PV.neq rfl (gs_t hp) (gs_t hp))) ?_
        refine RG.pv rfl (PV.pickO rfl rfl rfl (fun hq => gs_t (geqF hq))) ?_
        refine RG.nil ?_
        refine WP.cond rfl (fun h5 => ?_) (fun h5 => ?_)
        · simp [*] at h5 <;> omega
        · skip
          refine WP.skip ?_
          refine WP.seq ?_
          refine WP.region ?_
          refine RG.pv rfl (PV.mvI (.inr rfl) rfl) ?_
          refine RG.nil ?_
          refine WP.seq ?_
          refine WP.region ?_
          refine RG.pv rfl (PV.move (v := w29) rfl rfl) ?_
          refine RG.pv rfl (PV.mvI (.inl rfl) rfl) ?_
          refine RG.callF (vs := [w29, _]) rfl rfl En36 rfl (CallT.exBg (pinsOf dsw29) (CallT.exS w29 (markDevS_s (by omega) (by omega) ?_)))
          refine RG.pv rfl (PV.mvI (.inr rfl) rfl) ?_
          refine RG.nil ?_
          refine WP.seq ?_
          refine WP.region ?_
          refine RG.pv rfl (PV.mvI (.inr rfl) rfl) ?_
          refine RG.nil ?_
          refine WP.seq ?_
          refine WP.region ?_
          refine RG.pv rfl (PV.move (v := w29) rfl rfl) ?_
          refine RG.pv rfl (PV.mvI (.inl rfl) rfl) ?_
          refine RG.callF (vs := [w29, _]) rfl rfl En37 rfl (heldDevS_s Rs.o RsE.o (by omega) (by omega) ?_)
          refine RG.pv rfl (PV.mvI (.inr rfl) rfl) ?_
          refine RG.nil ?_
          refine WP.seq ?_
          refine WP.seq ?_
          refine WP.region ?_
          refine RG.pv rfl (PV.mvI (.inl rfl) rfl) ?_
          refine RG.pv rfl (PV.lss rfl rfl rfl) ?_
          refine RG.nil ?_
          refine WP.cond rfl (fun h6 => ?_) (fun h6 => ?_)
          · simp at h6; omega
          · refine WP.skip ?_
            refine WP.seq ?_
            refine WP.seq ?_
            refine WP.region ?_
            refine RG.pv rfl (PV.mvI (.inl rfl) rfl) ?_
            refine RG.pv rfl (PV.mvI (.inl rfl) rfl) ?_
            refine RG.pv rfl (PV.neq rfl rfl rfl) ?_
            refine RG.nil ?_
            refine WP.cond rfl (fun h7 => ?_) (fun h7 => ?_)
            · simp at h7
            · refine WP.skip ?_
              refine WP.seq ?_
              refine WP.region ?_
              refine RG.pv rfl (PV.move (v := v) rfl rfl) ?_
              refine RG.callF (vs := [v]) rfl rfl En12 rfl (toRectSS_s (Rs.up h1) hd.up hb hbi (fun v75 ysv75 hev75 => ?_))
              refine RG.callF (vs := [v75]) rfl rfl En28 rfl (devices_i Rs.o RsE.o (fun w76 dsw76 hzw76 => ?_))
              refine RG.pv rfl (PV.move (v := .tuple _) rfl rfl) ?_
              refine RG.pv rfl (PV.ext (v := w76) rfl rfl rfl) ?_
              refine RG.pv rfl (PV.ext rfl rfl rfl) ?_
              refine RG.pv rfl (PV.asg (v := w76) rfl rfl) ?_
              refine RG.pv rfl (PV.mvI (.inr rfl) rfl) ?_
              refine RG.nil ?_
              refine WP.seq ?_
              refine WP.seq ?_
              refine WP.region ?_
              refine RG.pv rfl (PV.move (v := w76) rfl rfl) ?_
              refine RG.pv rfl (PV.move (v := w22) rfl rfl) ?_
              refine RG.callF (vs := [w76, w22]) rfl rfl En35 rfl (eqDevS_s Rs.o RsE.o Rs.o RsE.o ?_)
              refine RG.pv rfl (PV.not rfl rfl) ?_
              refine RG.pv rfl (PV.mvB (.inl rfl) rfl) ?_
              refine RG.gs rfl rfl rfl (fun hp => (PV.mvI (.inl rfl) rfl)) ?_
              refine RG.gs rfl rfl rfl (fun hp => (PV.mvI (.inl rfl) rfl)) ?_
              refine RG.gs rfl rfl rfl (fun hp => (PV.neq rfl (gs_t hp) (gs_t hp))) ?_
              refine RG.pv rfl (PV.pickO rfl rfl rfl (fun hq => gs_t (geqF hq))) ?_
              refine RG.nil ?_
              refine WP.cond rfl (fun h8 => ?_) (fun h8 => ?_)
              · simp [*] at h8
              · skip
                refine WP.skip ?_
                refine WP.seq ?_
                refine WP.region ?_
                refine RG.pv rfl (PV.mvI (.inr rfl) rfl) ?_
                refine RG.nil ?_
                refine WP.seq ?_
                refine WP.region ?_
                refine RG.pv rfl (PV.move (v := w29) rfl rfl) ?_
                refine RG.pv rfl (PV.mvI (.inl rfl) rfl) ?_
                refine RG.callF (vs := [w29, _]) rfl rfl En37 rfl (heldDevS_s Rs.o RsE.o (by omega) (by omega) ?_)
                refine RG.pv rfl (PV.mvI (.inr rfl) rfl) ?_
                refine RG.nil ?_
                refine WP.seq ?_
                refine WP.seq ?_
                refine WP.region ?_
                refine RG.pv rfl (PV.mvI (.inl rfl) rfl) ?_
                refine RG.pv rfl (PV.lss rfl rfl rfl) ?_
                refine RG.nil ?_
                refine WP.cond rfl (fun h9 => ?_) (fun h9 => ?_)
                · simp at h9; omega
                · refine WP.skip ?_
                  refine WP.seq ?_
                  refine WP.seq ?_
                  refine WP.region ?_
                  refine RG.pv rfl (PV.mvI (.inl rfl) rfl) ?_
                  refine RG.pv rfl (PV.mvI (.inl rfl) rfl) ?_
                  refine RG.pv rfl (PV.neq rfl rfl rfl) ?_
                  refine RG.nil ?_
                  refine WP.cond rfl (fun h10 => ?_) (fun h10 => ?_)
                  · simp at h10
                  · refine WP.skip ?_
                    refine WP.seq ?_
                    refine WP.region ?_
                    refine RG.pv rfl (PV.mvB (.inr rfl) rfl) ?_
                    refine RG.nil ?_
                    refine WP.ret ?_
                    exact ⟨_, _, ResV.one rfl rfl, Cv.p, k⟩
end Go.Proofs.YtmomfgfmnpblpaaGreat
