/-
  Contracts: a set of cells covers a list, copies and comparison of layouts, the draw of an edit.
-/
import Derived.Test.YtilccgeldnlgnaaW34
import Derived.Test.YtilccgeldnlgnaaNets2
namespace Go.Proofs.Ytilccgeldnlgnaa
open Go
set_option maxRecDepth 20000
set_option linter.unusedSimpArgs false
variable {G : Gh} {L : List Ch} {R : Value → Gh → List Ch → Prop}

/-! ## plain -/
theorem canon_empty {bs : List Bool} (hl : bs.length = 6400) : canon bs = [] ↔ ∀ y x, y < 80 → x < 80 → gb bs y x = false := by
  constructor
  · intro h y x hy hx
    have := canon_any (bs := bs) hy hx
    rw [h] at this
    simpa using this.symm
  · intro h
    cases e : canon bs with
    | nil => rfl
    | cons r rs =>
      exfalso
      have hr := RIn_all (isReg_canon hl) r (by rw [e]; exact .head _)
      obtain ⟨h1, h2, h3, h4, h5, h6⟩ := hr
      have hy : (r.y0 + 40).toNat < 80 := by omega
      have hx : (r.x0 + 40).toNat < 80 := by omega
      have := canon_any (bs := bs) hy hx
      rw [h _ _ hy hx, e, List.any_cons, inR_iff.2 (by omega)] at this
      simp at this
theorem chg_nil {l m : List (List Rect)} (hl : isLay l = true) (hm : isLay m = true) : decide (((chgR l m).length : Int) = 0) = decide (l = m) := by
  have e : chgR l m = canon (orL l m [0, 1, 2, 3, 4, 5, 6, 7]) := by rw [chgR, hl, hm]; rfl
  rw [e, decide_eq_decide]
  have e0 : ((canon (orL l m [0, 1, 2, 3, 4, 5, 6, 7])).length : Int) = 0 ↔ canon (orL l m [0, 1, 2, 3, 4, 5, 6, 7]) = [] := by
    rw [← List.length_eq_zero_iff]; omega
  rw [e0, canon_empty (orL_len _ _ _)]
  constructor
  · intro h
    refine List.ext_getElem? fun i => ?_
    by_cases hi : i < 8
    · rw [getG (by rw [isLay_len hl]; exact hi), getG (by rw [isLay_len hm]; exact hi)]
      rw [← isReg_eq (isLay_reg hl hi), ← isReg_eq (isLay_reg hm hi)]
      have : bits (gd l i) = bits (gd m i) := gb_ext (bits_length _) (bits_length _) fun y x hy hx => by
        have h1 := h y x hy hx
        rw [gb_orL _ _ _ hy hx, List.any_eq_false] at h1
        have h2 := h1 i (by simp only [List.mem_cons, List.not_mem_nil]; omega)
        rw [chgB, gb_zip (bits_length _) (bits_length _) hy hx] at h2
        simpa using h2
      rw [this]
    · rw [List.getElem?_eq_none (by rw [isLay_len hl]; omega), List.getElem?_eq_none (by rw [isLay_len hm]; omega)]
  · rintro rfl y x hy hx
    rw [gb_orL _ _ _ hy hx, List.any_eq_false]
    intro k _
    rw [chgB, gb_zip (bits_length _) (bits_length _) hy hx]
    simp
theorem chg_covers {l m : List (List Rect)} (hl : isLay l = true) (hm : isLay m = true) {k : Nat} (hk : k < 8) {y x : Nat} (hy : y < 80) (hx : x < 80) (h : gb (bits (opR (fun p q => p != q) (gd l k) (gd m k))) y x = true) : gb (bits (chgR l m)) y x = true := by
  have e : chgR l m = canon (orL l m [0, 1, 2, 3, 4, 5, 6, 7]) := by rw [chgR, hl, hm]; rfl
  rw [e, bits_canon (orL_len _ _ _), gb_orL _ _ _ hy hx, List.any_eq_true]
  rw [opR, isLay_reg hl hk, isLay_reg hm hk] at h
  simp only [Bool.and_self, cond_true] at h
  rw [bits_canon (zipB_len (bits_length _) (bits_length _))] at h
  exact ⟨k, by simp only [List.mem_cons, List.not_mem_nil]; omega, h⟩

/-! ## a set covers a list -/
theorem unitCell2_s {p : Pt} (k : R (.bool (within p.x (-40) 39 && within p.y (-40) 39)) G L) : CallT Try.prog 191 #[vpt p] G L R := by
  refine CallT.enter (args := _) Try.func191 rfl rfl (by kernel_rfl) rfl ?_
  refine WP.seq ?_
  refine WP.region ?_
  refine RG.ot rfl (OT.box (cs := ptT.enc p) rfl rfl rfl fun b1 => ?_)
  refine RG.pv rfl (PV.mvB (.inr rfl) rfl) ?_
  refine RG.nil ?_
  refine WP.seq ?_
  refine WP.region ?_
  refine RG.pv rfl (PV.field rfl Fo64_0 rfl) ?_
  refine RG.pv rfl (PV.load1 rfl Sc2 rfl (Rd.blk rfl)) ?_
  refine RG.callF (vs := [_, _, _]) rfl rfl En158 rfl (within_s ?_)
  refine RG.pv rfl (PV.mvB (.inl rfl) rfl) ?_
  refine RG.gs rfl rfl rfl (fun hp => (PV.field rfl Fo64_1 rfl)) ?_
  refine RG.gs rfl rfl rfl (fun hp => (PV.load1 rfl Sc2 (gs_t hp) (Rd.blk rfl))) ?_
  refine RG.gsC rfl rfl rfl rfl En158 (fun hp => ⟨_, (acons (gs_t hp) (acons rfl (acons rfl anil))), within_s ⟨rfl, rfl, rfl⟩⟩) ?_
  refine RG.pv rfl (PV.pickA rfl rfl (fun hq => gs_t (geqT hq)) rfl) ?_
  refine RG.pv rfl (PV.mvB (.inr rfl) rfl) ?_
  refine RG.nil ?_
  refine WP.ret ?_
  exact ⟨_, _, ResV.one rfl rfl, Cv.p, k⟩
theorem has2_s {b : Nat} {D : List Bool} {x y : Int} (hD : D.length = 6400) (hx : -40 ≤ x ∧ x < 40 ∧ -40 ≤ y ∧ y < 40) (k : R (.bool (gb D (y + 40).toNat (x + 40).toNat)) G (grd b D :: L)) : CallT Try.prog 151 #[.pointer (some ⟨b, 0, none⟩), vi x, vi y] G (grd b D :: L) R := by
  have e : gb D (y + 40).toNat (x + 40).toNat = (within x (-40) 39 && within y (-40) 39 && gd D (0 + (y + 40).toNat * 80 + (x + 40).toNat * 1)) := by
    rw [show within x (-40) 39 = true by simp [within]; omega, show within y (-40) 39 = true by simp [within]; omega, Nat.zero_add, Nat.mul_one]; rfl
  rw [e] at k
  refine CallT.enter (args := _) Try.func151 rfl rfl (by kernel_rfl) rfl ?_
  refine WP.seq ?_
  refine WP.region ?_
  refine RG.pv rfl (PV.mvB (.inr rfl) rfl) ?_
  refine RG.nil ?_
  refine WP.seq ?_
  refine WP.region ?_
  refine RG.pv rfl (PV.mvI (.inl rfl) rfl) ?_
  refine RG.pv rfl (PV.mvI (.inl rfl) rfl) ?_
  refine RG.pv rfl (PV.build (vs := [(0, [vi _]), (1, [vi _])]) (out := [_, _]) rfl Zr64 Pl64 ⟨rfl, (Cl.c rfl), ⟨rfl, (Cl.c rfl), trivial⟩⟩ rfl) ?_
  refine RG.callF (vs := [_]) rfl rfl En191 rfl (unitCell2_s (p := ⟨x, y⟩) ?_)
  refine RG.pv rfl (PV.mvB (.inl rfl) rfl) ?_
  refine RG.gs rfl rfl rfl (fun hp => (PV.mvP (.inl rfl) rfl)) ?_
  refine RG.gs rfl rfl rfl (fun hp => (PV.mvI (.inl rfl) rfl)) ?_
  refine RG.gs rfl rfl rfl (fun hp => (PV.add rfl (gs_t hp) rfl (by first | omega | (simp [within] at hp; omega)))) ?_
  refine RG.gs rfl rfl rfl (fun hp => (PV.mvI (.inl rfl) rfl)) ?_
  refine RG.gs rfl rfl rfl (fun hp => (PV.add rfl (gs_t hp) rfl (by first | omega | (simp [within] at hp; omega)))) ?_
  refine RG.gs rfl rfl rfl (fun hp => (PV.nilc rfl (gs_t hp))) ?_
  refine RG.gs rfl rfl rfl (fun hp => (PV.idxA (j := (y + 40).toNat) rfl Ia168 (gs_t hp) (gs_t hp) (by first | omega | (simp [within] at hp; omega)) (by first | omega | (simp [within] at hp; omega)))) ?_
  refine RG.gs rfl rfl rfl (fun hp => (PV.idxA (j := (x + 40).toNat) rfl Ia166 (gs_t hp) (gs_t hp) (by first | omega | (simp [within] at hp; omega)) (by first | omega | (simp [within] at hp; omega)))) ?_
  refine RG.gs rfl rfl rfl (fun hp => (PV.loadGr rfl Sc4 (gs_t hp) rfl (by first | omega | (simp [within] at hp; omega)))) ?_
  refine RG.pv rfl (PV.pickA rfl rfl (fun hq => gs_t (geqT hq)) rfl) ?_
  refine RG.pv rfl (PV.mvB (.inr rfl) rfl) ?_
  refine RG.nil ?_
  refine WP.ret ?_
  exact ⟨_, _, ResV.one rfl rfl, Cv.p, k⟩
theorem covers_s {b : Nat} {D : List Bool} {v : Value} {rs : List Rect} (hD : D.length = 6400) (h1 : Rs G L rectT v rs) (hr : ∀ i, i < rs.length → RIn 40 (gd rs i)) (hc : ∀ i, i < rs.length → ∀ y x : Nat, y < 80 → x < 80 → inR (gd rs i) y x = true → gb D y x = true) (k : R (.bool true) G (grd b D :: L)) : CallT Try.prog 91 #[.pointer (some ⟨b, 0, none⟩), v] G (grd b D :: L) R := by
  have h1 : Rs G (grd b D :: L) rectT v rs := h1.up
  refine CallT.bd h1 fun hb => ?_
  refine CallT.enter (args := _) Try.func91 rfl rfl (by kernel_rfl) rfl ?_
  refine WP.seq ?_
  refine WP.region ?_
  refine RG.pv rfl (PV.mvB (.inr rfl) rfl) ?_
  refine RG.nil ?_
  refine WP.seq ?_
  refine WP.seq ?_
  refine WP.region ?_
  refine RG.pv rfl (PV.move (v := v) rfl rfl) ?_
  refine RG.pv rfl (PV.len (v := v) rfl Try.underlying24 rfl (SlF.r h1)) ?_
  refine RG.pv rfl (PV.mvI (.inl rfl) rfl) ?_
  refine RG.nil ?_
  refine WP.block ?_
  refine WP.loop1 [0, 9, 10] (fun (i : Nat) => i ≤ rs.length) (fun (i : Nat) => [(11, vi i)]) (fun (i : Nat) => grd b D :: L) (fun (i : Nat) => rs.length - i) 0 (by omega) ⟨rfl, trivial⟩ Cv.p ?_
  rintro i τ hi
  refine WP.seq ?_
  refine WP.region ?_
  refine RG.pv rfl (PV.lss rfl rfl rfl) ?_
  refine RG.nil ?_
  refine WP.seq ?_
  refine WP.cond rfl (fun h2 => ?_) (fun h2 => ?_)
  · have h2 := of_decide_eq_true h2
    obtain ⟨r1, r2, r3, r4, r5, r6⟩ := hr i (by omega)
    have hci := hc i (by omega)
    refine WP.skip ?_
    refine WP.seq ?_
    refine WP.block ?_
    refine WP.seq ?_
    refine WP.region ?_
    refine RG.pv rfl (PV.idxS (v := v) rfl Is24 rfl (SlF.r h1) rfl rfl (by omega)) ?_
    refine RG.pv rfl (PV.loadE rfl Ag81 rfl rfl (El.r h1 (getG (by omega)))) ?_
    refine RG.ot rfl (OT.alloc rfl Zr81 fun b6 => ?_)
    refine RG.ot rfl (OT.storeW (vs := [vi _, vi _, vi _, vi _]) rfl Sz81 rfl rfl (Cl.c rfl) rfl rfl (OneC.c rfl) ?_)
    refine RG.nil ?_
    refine WP.seq ?_
    refine WP.region ?_
    refine RG.pv rfl (PV.field rfl Fo81_1 rfl) ?_
    refine RG.pv rfl (PV.load1 rfl Sc2 rfl (Rd.blk rfl)) ?_
    refine RG.pv rfl (PV.mvI (.inr rfl) rfl) ?_
    refine RG.nil ?_
    refine WP.block ?_
    refine WP.loop1 [0, 6, 9, 10, 11] (fun (y : Int) => (gd rs i).y0 ≤ y ∧ y ≤ (gd rs i).y1) (fun (y : Int) => [(7, vi y)]) (fun (y : Int) => blk b6 81 (rectT.enc (gd rs i)) :: grd b D :: L) (fun (y : Int) => ((gd rs i).y1 - y).toNat) (gd rs i).y0 ⟨by omega, by omega⟩ ⟨rfl, trivial⟩ Cv.p ?_
    rintro y τ1 ⟨hy0, hy1⟩
    refine WP.seq ?_
    refine WP.seq ?_
    refine WP.region ?_
    refine RG.pv rfl (PV.mvI (.inl rfl) rfl) ?_
    refine RG.pv rfl (PV.field rfl Fo81_3 rfl) ?_
    refine RG.pv rfl (PV.load1 rfl Sc2 rfl (Rd.blk rfl)) ?_
    refine RG.pv rfl (PV.lss rfl rfl rfl) ?_
    refine RG.nil ?_
    refine WP.cond rfl (fun h3 => ?_) (fun h3 => ?_)
    · have h3 := of_decide_eq_true h3
      refine WP.skip ?_
      refine WP.seq ?_
      refine WP.block ?_
      refine WP.seq ?_
      refine WP.region ?_
      refine RG.pv rfl (PV.field rfl Fo81_0 rfl) ?_
      refine RG.pv rfl (PV.load1 rfl Sc2 rfl (Rd.blk rfl)) ?_
      refine RG.pv rfl (PV.mvI (.inr rfl) rfl) ?_
      refine RG.nil ?_
      refine WP.block ?_
      refine WP.loop1 [0, 6, 7, 9, 10, 11] (fun (x : Int) => (gd rs i).x0 ≤ x ∧ x ≤ (gd rs i).x1) (fun (x : Int) => [(8, vi x)]) (fun (x : Int) => blk b6 81 (rectT.enc (gd rs i)) :: grd b D :: L) (fun (x : Int) => ((gd rs i).x1 - x).toNat) (gd rs i).x0 ⟨by omega, by omega⟩ ⟨rfl, trivial⟩ Cv.p ?_
      rintro x τ2 ⟨hx0, hx1⟩
      refine WP.seq ?_
      refine WP.seq ?_
      refine WP.region ?_
      refine RG.pv rfl (PV.mvI (.inl rfl) rfl) ?_
      refine RG.pv rfl (PV.field rfl Fo81_2 rfl) ?_
      refine RG.pv rfl (PV.load1 rfl Sc2 rfl (Rd.blk rfl)) ?_
      refine RG.pv rfl (PV.lss rfl rfl rfl) ?_
      refine RG.nil ?_
      refine WP.cond rfl (fun h4 => ?_) (fun h4 => ?_)
      · have h4 := of_decide_eq_true h4
        have hcell : gb D (y + 40).toNat (x + 40).toNat = true := hci _ _ (by omega) (by omega) (inR_iff.2 (by omega))
        refine WP.skip ?_
        refine WP.seq ?_
        refine WP.block ?_
        refine WP.seq ?_
        refine WP.region ?_
        refine RG.pv rfl (PV.move rfl rfl) ?_
        refine RG.pv rfl (PV.mvI (.inl rfl) rfl) ?_
        refine RG.pv rfl (PV.mvI (.inl rfl) rfl) ?_
        refine RG.callF (vs := [_, _, _]) rfl rfl En151 rfl (CallT.exB (has2_s hD (by omega) ?_))
        refine RG.pv rfl (PV.not rfl rfl) ?_
        refine RG.nil ?_
        refine WP.cond rfl (fun h5 => ?_) (fun h5 => ?_)
        · exfalso
          rw [hcell] at h5; cases h5
        · refine WP.skip ?_
          refine WP.region ?_
          refine RG.pv rfl (PV.mvI (.inl rfl) rfl) ?_
          refine RG.pv rfl (PV.add rfl rfl rfl (by omega)) ?_
          refine RG.pv rfl (PV.mvI (.inr rfl) rfl) ?_
          refine RG.nil ?_
          exact ⟨rfl, x + 1, ⟨by omega, by omega⟩, ⟨rfl, trivial⟩, ⟨rfl, rfl, rfl, rfl, rfl, rfl, trivial⟩, Cv.p, by omega⟩
      · refine WP.exit ?_
        refine WP.region ?_
        refine RG.pv rfl (PV.mvI (.inl rfl) rfl) ?_
        refine RG.pv rfl (PV.add rfl rfl rfl (by omega)) ?_
        refine RG.pv rfl (PV.mvI (.inr rfl) rfl) ?_
        refine RG.nil ?_
        exact ⟨rfl, y + 1, ⟨by omega, by omega⟩, ⟨rfl, trivial⟩, ⟨rfl, rfl, rfl, rfl, rfl, trivial⟩, Cv.p, by omega⟩
    · refine WP.exit ?_
      refine WP.region ?_
      refine RG.pv rfl (PV.add rfl rfl rfl (by omega)) ?_
      refine RG.pv rfl (PV.mvI (.inl rfl) rfl) ?_
      refine RG.nil ?_
      exact ⟨rfl, i + 1, (by omega), ⟨rfl, trivial⟩, ⟨rfl, rfl, rfl, trivial⟩, Cv.p, by omega⟩
  · refine WP.exit ?_
    refine WP.seq ?_
    refine WP.region ?_
    refine RG.pv rfl (PV.mvB (.inr rfl) rfl) ?_
    refine RG.nil ?_
    refine WP.ret ?_
    exact ⟨_, _, ResV.one rfl rfl, Cv.p, k⟩
theorem covers2_s {v u : Value} {xs ys : List Rect} (h1 : Rs G L rectT v xs) (h2 : Rs G L rectT u ys) (hx : isReg xs = true) (hy : isReg ys = true) (hc : ∀ y x, y < 80 → x < 80 → gb (bits ys) y x = true → gb (bits xs) y x = true) (k : R (.bool true) G L) : CallT Try.prog 34 #[v, u] G L R := by
  have hry := RIn_all hy
  refine CallT.enter (args := _) Try.func34 rfl rfl (by kernel_rfl) rfl ?_
  refine WP.seq ?_
  refine WP.region ?_
  refine RG.pv rfl (PV.mvB (.inr rfl) rfl) ?_
  refine RG.nil ?_
  refine WP.seq ?_
  refine WP.region ?_
  refine RG.pv rfl (PV.move (v := v) rfl rfl) ?_
  refine RG.callF (vs := [v]) rfl rfl En85 rfl (isRegion_s (Rs.up h1) ?_)
  refine RG.pv rfl (PV.mvB (.inl rfl) rfl) ?_
  refine RG.spl (t := 7) rfl (fun g1 => ?_) (fun g1 => ?_)
  · refine RG.take rfl rfl rfl g1 ?_
    refine RG.pv rfl (PV.move (v := u) rfl rfl) ?_
    refine RG.take rfl rfl rfl g1 ?_
    refine RG.callF (vs := [u]) rfl rfl En85 rfl (isRegion_s (Rs.up h2) ?_)
    refine RG.pv rfl (PV.pickT rfl rfl g1 rfl) ?_
    refine RG.pv rfl (PV.mvB (.inl rfl) rfl) ?_
    refine RG.spl (t := 11) rfl (fun g2 => ?_) (fun g2 => ?_)
    · refine RG.take rfl rfl rfl g2 ?_
      refine RG.pv rfl (PV.move (v := v) rfl rfl) ?_
      refine RG.take rfl rfl rfl g2 ?_
      refine RG.callF (vs := [v]) rfl rfl En90 rfl (cellsOf_s (Rs.up h1) (fun b13 => ?_))
      refine RG.take rfl rfl rfl g2 ?_
      refine RG.pv rfl (PV.move (v := u) rfl rfl) ?_
      refine RG.take rfl rfl rfl g2 ?_
      refine RG.callF (vs := [_, u]) rfl rfl En91 rfl (CallT.exB (covers_s (bits_length _) (Rs.up h2) (fun i hi => RIn_gd hry hi) (fun i hi y x hy hx hin => hc y x hy hx (by rw [gb_bits' _ hy hx, List.any_eq_true]; exact ⟨_, by rw [gd_eq hi]; exact List.getElem_mem _, hin⟩)) ?_))
      refine RG.pv rfl (PV.pickT rfl rfl g2 rfl) ?_
      refine RG.pv rfl (PV.mvB (.inr rfl) rfl) ?_
      refine RG.nil ?_
      refine WP.ret ?_
      exact ⟨_, _, ResV.one rfl rfl, Cv.p, k⟩
    · exfalso
      rw [hy] at g2; cases g2
  · exfalso
    rw [hx] at g1; cases g1

/-! ## layouts -/
theorem copyLayers_s {v : Value} {xs : List (Sl Rect)} (h1 : Rs G L slT v xs) (hd : RsE G L rectT xs) (hl : xs.length ≤ 100) (hb : ∀ i, i < xs.length → (gd xs i).xs.length ≤ 1048576) (k : ∀ v' ys, er ys = er xs → R v' G (osl 24 slT v' ys :: bagS 81 rectT ys :: L)) : CallT Try.prog 32 #[v] G L R := by
  refine CallT.enter (args := _) Try.func32 rfl rfl (by kernel_rfl) rfl ?_
  refine WP.seq ?_
  refine WP.region ?_
  refine RG.pv rfl (PV.asg rfl rfl) ?_
  refine RG.nil ?_
  refine WP.seq ?_
  refine WP.region ?_
  refine RG.ot rfl (OT.bslice (F := (slT (α := Rect))) (els := []) rfl El27 rfl (by decide) rfl (by decide) trivial fun v5 => ?_)
  refine RG.pv rfl (PV.asg (v := v5) rfl rfl) ?_
  refine RG.nil ?_
  refine WP.seq ?_
  refine WP.seq ?_
  refine WP.region ?_
  refine RG.pv rfl (PV.mvI (.inr rfl) rfl) ?_
  refine RG.nil ?_
  refine WP.block ?_
  refine WP.cv ((Cv.p (C := osl 24 slT v5 ([] : List (Sl Rect)) :: L)).trans (Cv.cons (Cv.bag0 (e := 81) (F := rectT) (xs := []) rfl))) ?_
  refine WP.loop3 [0] (fun (i : Nat) (ys : List (Sl Rect)) (q : Value) => i ≤ xs.length ∧ er ys = (er xs).take i) (fun (i : Nat) (ys : List (Sl Rect)) (q : Value) => [(4, vi i), (3, q)]) (fun (i : Nat) (ys : List (Sl Rect)) (q : Value) => osl 24 slT q ys :: bagS 81 rectT ys :: L) (fun (i : Nat) (ys : List (Sl Rect)) (q : Value) => xs.length - i) 0 [] v5 ⟨by omega, rfl⟩ ⟨rfl, rfl, trivial⟩ Cv.p ?_
  rintro i ys q τ ⟨hi, hys⟩
  refine WP.seq ?_
  refine WP.seq ?_
  refine WP.region ?_
  refine RG.pv rfl (PV.mvI (.inl rfl) rfl) ?_
  refine RG.pv rfl (PV.move (v := v) rfl rfl) ?_
  refine RG.pv rfl (PV.len (v := v) rfl Try.underlying27 rfl (SlF.r h1)) ?_
  refine RG.pv rfl (PV.lss rfl rfl rfl) ?_
  refine RG.nil ?_
  have hyl : ys.length = i := by
    have := congrArg List.length hys
    rw [er_len, List.length_take, er_len] at this; omega
  refine WP.cond rfl (fun h4 => ?_) (fun h4 => ?_)
  · have h4 := of_decide_eq_true h4
    have h5 : i < xs.length := by omega
    refine WP.skip ?_
    refine WP.seq ?_
    refine WP.block ?_
    refine WP.region ?_
    refine RG.pv rfl (PV.move (v := q) rfl rfl) ?_
    refine RG.pv rfl (PV.move (v := v) rfl rfl) ?_
    refine RG.pv rfl (PV.mvI (.inl rfl) rfl) ?_
    refine RG.pv rfl (PV.idxS (v := v) rfl Is27 rfl (SlF.r h1) rfl rfl (by omega)) ?_
    refine RG.pv rfl (PV.loadE1 rfl Sc24 rfl rfl (El.r h1 (getG (by omega))) rfl) ?_
    refine RG.callF (vs := [_]) rfl rfl En28 rfl (copyRects_s (Rs.up (hd i (by omega))) (hb _ (by omega)) (fun v17 => ?_))
    refine RG.ot rfl (OT.bslice (F := (slT (α := Rect))) (els := [⟨v17, (gd xs i).xs⟩]) rfl El27 rfl (by decide) rfl (by decide) ⟨rfl, (Cl.s (v := v17) SlF.o), trivial⟩ fun v18 => ?_)
    refine RG.ot rfl (OT.append (v := q) (u := v18) (F := (slT (α := Rect))) rfl El27 rfl (by decide) rfl rfl Rs.o (OneL.one (OneC.sl SlF.o OneC.nil)) rfl (by first | omega | (simp <;> omega)) fun v19 => ?_)
    refine RG.pv rfl (PV.asg (v := v19) rfl rfl) ?_
    refine RG.nil ?_
    refine WP.region ?_
    refine RG.pv rfl (PV.mvI (.inl rfl) rfl) ?_
    refine RG.pv rfl (PV.add rfl rfl rfl (by omega)) ?_
    refine RG.pv rfl (PV.mvI (.inr rfl) rfl) ?_
    refine RG.nil ?_
    refine ⟨rfl, i + 1, (ys ++ [⟨v17, (gd xs i).xs⟩]), v19, ⟨by omega, ?_⟩, ⟨rfl, rfl, trivial⟩, ⟨rfl, trivial⟩, ((Cv.p (C := osl 24 slT v19 (ys ++ [⟨v17, (gd xs i).xs⟩]) :: osl 81 rectT v17 (gd xs i).xs :: bagS 81 rectT ys :: L)).trans (Cv.cons Cv.bagS_add)), by omega⟩
    rw [List.take_add_one, getG (by rw [er_len]; omega), er_gd, ← hys]; simp [er]
  · have h4 := of_decide_eq_false h4
    have e2 : er ys = er xs := by rw [hys, List.take_of_length_le (by rw [er_len]; omega)]
    refine WP.exit ?_
    refine WP.seq ?_
    refine WP.region ?_
    refine RG.pv rfl (PV.move (v := q) rfl rfl) ?_
    refine RG.pv rfl (PV.asg (v := q) rfl rfl) ?_
    refine RG.nil ?_
    refine WP.ret ?_
    exact ⟨_, _, ResV.one rfl rfl, Cv.p, k q ys e2⟩
theorem sameRs_s {v u : Value} {xs ys : List Rect} (h1 : Rs G L rectT v xs) (h2 : Rs G L rectT u ys) (k : R (.bool (decide (xs = ys))) G L) : CallT Try.prog 65 #[v, u] G L R := by
  refine CallT.bd h1 fun hb => ?_
  refine CallT.bd h2 fun hb' => ?_
  refine CallT.enter (args := _) Try.func65 rfl rfl (by kernel_rfl) rfl ?_
  refine WP.seq ?_
  refine WP.region ?_
  refine RG.pv rfl (PV.mvB (.inr rfl) rfl) ?_
  refine RG.nil ?_
  refine WP.seq ?_
  refine WP.seq ?_
  refine WP.region ?_
  refine RG.pv rfl (PV.move (v := v) rfl rfl) ?_
  refine RG.pv rfl (PV.len (v := v) rfl Try.underlying24 rfl (SlF.r h1)) ?_
  refine RG.pv rfl (PV.move (v := u) rfl rfl) ?_
  refine RG.pv rfl (PV.len (v := u) rfl Try.underlying24 rfl (SlF.r h2)) ?_
  refine RG.pv rfl (PV.neq rfl rfl rfl) ?_
  refine RG.nil ?_
  refine WP.cond rfl (fun h3 => ?_) (fun h3 => ?_)
  · have e : decide (xs = ys) = false := by
      rw [decide_eq_false_iff_not]; rintro rfl; simp at h3
    rw [e] at k
    refine WP.seq ?_
    refine WP.region ?_
    refine RG.pv rfl (PV.mvB (.inr rfl) rfl) ?_
    refine RG.nil ?_
    refine WP.ret ?_
    exact ⟨_, _, ResV.one rfl rfl, Cv.p, k⟩
  · have hl : xs.length = ys.length := by simp at h3; omega
    refine WP.skip ?_
    refine WP.seq ?_
    refine WP.seq ?_
    refine WP.region ?_
    refine RG.pv rfl (PV.mvI (.inr rfl) rfl) ?_
    refine RG.nil ?_
    refine WP.block ?_
    refine WP.loop1 [0, 1] (fun i => i ≤ xs.length ∧ ∀ j, j < i → xs[j]? = ys[j]?) (fun i => [(5, vi i)]) (fun i => L) (fun i => xs.length - i) 0 ⟨by omega, fun j h => by omega⟩ ⟨rfl, trivial⟩ Cv.p ?_
    rintro i τ ⟨hi, he⟩
    refine WP.seq ?_
    refine WP.seq ?_
    refine WP.region ?_
    refine RG.pv rfl (PV.mvI (.inl rfl) rfl) ?_
    refine RG.pv rfl (PV.move (v := v) rfl rfl) ?_
    refine RG.pv rfl (PV.len (v := v) rfl Try.underlying24 rfl (SlF.r h1)) ?_
    refine RG.pv rfl (PV.lss rfl rfl rfl) ?_
    refine RG.nil ?_
    refine WP.cond rfl (fun h4 => ?_) (fun h4 => ?_)
    · have h4 := of_decide_eq_true h4
      have h5 : i < xs.length := by omega
      refine WP.skip ?_
      refine WP.seq ?_
      refine WP.block ?_
      refine WP.seq ?_
      refine WP.regionQ (by kernel_rfl) (by kernel_rfl) ?_
      refine RQ.pv rfl (PV.move (v := v) rfl rfl) ?_
      refine RQ.pv rfl (PV.mvI (.inl rfl) rfl) ?_
      refine RQ.pv rfl (PV.idxS (v := v) rfl Is24 rfl (SlF.r h1) rfl rfl (by omega)) ?_
      refine RQ.pv rfl (PV.loadE rfl Ag81 rfl rfl (El.r h1 (getG (by omega)))) ?_
      refine RQ.pv rfl (PV.move (v := u) rfl rfl) ?_
      refine RQ.pv rfl (PV.mvI (.inl rfl) rfl) ?_
      refine RQ.pv rfl (PV.idxS (v := u) rfl Is24 rfl (SlF.r h2) rfl rfl (by omega)) ?_
      refine RQ.pv rfl (PV.loadE rfl Ag81 rfl rfl (El.r h2 (getG (by omega)))) ?_
      refine RQ.pv rfl (PV.neqT rfl Eq81 rfl rfl) ?_
      refine RQ.nil ?_
      refine WP.cond rfl (fun h6 => ?_) (fun h6 => ?_)
      · have e : decide (xs = ys) = false := by
          rw [decide_eq_false_iff_not]; rintro rfl; simp at h6
        rw [e] at k
        refine WP.seq ?_
        refine WP.region ?_
        refine RG.pv rfl (PV.mvB (.inr rfl) rfl) ?_
        refine RG.nil ?_
        refine WP.ret ?_
        exact ⟨_, _, ResV.one rfl rfl, Cv.p, k⟩
      · have e : gd xs i = gd ys i := by simpa using h6
        have he' : ∀ j, j < i + 1 → xs[j]? = ys[j]? := fun j h => by
          by_cases c : j = i
          · rw [c, getG h5, getG (show i < ys.length by omega), e]
          · exact he j (by omega)
        refine WP.skip ?_
        refine WP.region ?_
        refine RG.pv rfl (PV.mvI (.inl rfl) rfl) ?_
        refine RG.pv rfl (PV.add rfl rfl rfl (by omega)) ?_
        refine RG.pv rfl (PV.mvI (.inr rfl) rfl) ?_
        refine RG.nil ?_
        exact ⟨rfl, i + 1, ⟨by omega, he'⟩, ⟨rfl, trivial⟩, ⟨rfl, rfl, trivial⟩, Cv.p, by omega⟩
    · have h4 := of_decide_eq_false h4
      have e : decide (xs = ys) = true := by
        rw [decide_eq_true_iff]; exact pre_eq he hl (by omega)
      rw [e] at k
      refine WP.exit ?_
      refine WP.seq ?_
      refine WP.region ?_
      refine RG.pv rfl (PV.mvB (.inr rfl) rfl) ?_
      refine RG.nil ?_
      refine WP.ret ?_
      exact ⟨_, _, ResV.one rfl rfl, Cv.p, k⟩
theorem sameLayers_s {v u : Value} {xs ys : List (Sl Rect)} (h1 : Rs G L slT v xs) (hd : RsE G L rectT xs) (h2 : Rs G L slT u ys) (hd' : RsE G L rectT ys) (hx : xs.length ≤ 100) (k : R (.bool (decide (er xs = er ys))) G L) : CallT Try.prog 33 #[v, u] G L R := by
  refine CallT.enter (args := _) Try.func33 rfl rfl (by kernel_rfl) rfl ?_
  refine WP.seq ?_
  refine WP.region ?_
  refine RG.pv rfl (PV.mvB (.inr rfl) rfl) ?_
  refine RG.nil ?_
  refine WP.seq ?_
  refine WP.seq ?_
  refine WP.region ?_
  refine RG.pv rfl (PV.move (v := v) rfl rfl) ?_
  refine RG.pv rfl (PV.len (v := v) rfl Try.underlying27 rfl (SlF.r h1)) ?_
  refine RG.pv rfl (PV.move (v := u) rfl rfl) ?_
  refine RG.pv rfl (PV.len (v := u) rfl Try.underlying27 rfl (SlF.r h2)) ?_
  refine RG.pv rfl (PV.neq rfl rfl rfl) ?_
  refine RG.nil ?_
  refine WP.cond rfl (fun h3 => ?_) (fun h3 => ?_)
  · have e : decide (er xs = er ys) = false := by
      rw [decide_eq_false_iff_not]; intro h; have := congrArg List.length h; rw [er_len, er_len] at this; simp [this] at h3
    rw [e] at k
    refine WP.seq ?_
    refine WP.region ?_
    refine RG.pv rfl (PV.mvB (.inr rfl) rfl) ?_
    refine RG.nil ?_
    refine WP.ret ?_
    exact ⟨_, _, ResV.one rfl rfl, Cv.p, k⟩
  · have hl : xs.length = ys.length := by simp at h3; omega
    refine WP.skip ?_
    refine WP.seq ?_
    refine WP.seq ?_
    refine WP.region ?_
    refine RG.pv rfl (PV.mvI (.inr rfl) rfl) ?_
    refine RG.nil ?_
    refine WP.block ?_
    refine WP.loop1 [0, 1] (fun i => i ≤ xs.length ∧ ∀ j, j < i → (er xs)[j]? = (er ys)[j]?) (fun i => [(5, vi i)]) (fun i => L) (fun i => xs.length - i) 0 ⟨by omega, fun j h => by omega⟩ ⟨rfl, trivial⟩ Cv.p ?_
    rintro i τ ⟨hi, he⟩
    refine WP.seq ?_
    refine WP.seq ?_
    refine WP.region ?_
    refine RG.pv rfl (PV.mvI (.inl rfl) rfl) ?_
    refine RG.pv rfl (PV.move (v := v) rfl rfl) ?_
    refine RG.pv rfl (PV.len (v := v) rfl Try.underlying27 rfl (SlF.r h1)) ?_
    refine RG.pv rfl (PV.lss rfl rfl rfl) ?_
    refine RG.nil ?_
    refine WP.cond rfl (fun h4 => ?_) (fun h4 => ?_)
    · have h4 := of_decide_eq_true h4
      have h5 : i < xs.length := by omega
      refine WP.skip ?_
      refine WP.seq ?_
      refine WP.block ?_
      refine WP.seq ?_
      refine WP.regionQ (by kernel_rfl) (by kernel_rfl) ?_
      refine RQ.pv rfl (PV.move (v := v) rfl rfl) ?_
      refine RQ.pv rfl (PV.mvI (.inl rfl) rfl) ?_
      refine RQ.pv rfl (PV.idxS (v := v) rfl Is27 rfl (SlF.r h1) rfl rfl (by omega)) ?_
      refine RQ.pv rfl (PV.loadE1 rfl Sc24 rfl rfl (El.r h1 (getG (by omega))) rfl) ?_
      refine RQ.pv rfl (PV.move (v := u) rfl rfl) ?_
      refine RQ.pv rfl (PV.mvI (.inl rfl) rfl) ?_
      refine RQ.pv rfl (PV.idxS (v := u) rfl Is27 rfl (SlF.r h2) rfl rfl (by omega)) ?_
      refine RQ.pv rfl (PV.loadE1 rfl Sc24 rfl rfl (El.r h2 (getG (by omega))) rfl) ?_
      refine RQ.callF (vs := [_, _]) rfl rfl En65 rfl (sameRs_s (Rs.up (hd i (by omega))) (Rs.up (hd' i (by omega))) ⟨rfl, rfl, rfl⟩) ?_
      refine RQ.pv rfl (PV.not rfl rfl) ?_
      refine RQ.nil ?_
      refine WP.cond rfl (fun h6 => ?_) (fun h6 => ?_)
      · have e : decide (er xs = er ys) = false := by
          rw [decide_eq_false_iff_not]; intro h
          have : (gd xs i).xs = (gd ys i).xs := er_get h i
          simp [this] at h6
        rw [e] at k
        refine WP.seq ?_
        refine WP.region ?_
        refine RG.pv rfl (PV.mvB (.inr rfl) rfl) ?_
        refine RG.nil ?_
        refine WP.ret ?_
        exact ⟨_, _, ResV.one rfl rfl, Cv.p, k⟩
      · have e : (gd xs i).xs = (gd ys i).xs := by simpa using h6
        have he' : ∀ j, j < i + 1 → (er xs)[j]? = (er ys)[j]? := fun j h => by
          by_cases c : j = i
          · rw [c, getG (by rw [er_len]; omega), getG (by rw [er_len]; omega), er_gd, er_gd, e]
          · exact he j (by omega)
        refine WP.skip ?_
        refine WP.region ?_
        refine RG.pv rfl (PV.mvI (.inl rfl) rfl) ?_
        refine RG.pv rfl (PV.add rfl rfl rfl (by omega)) ?_
        refine RG.pv rfl (PV.mvI (.inr rfl) rfl) ?_
        refine RG.nil ?_
        exact ⟨rfl, i + 1, ⟨by omega, he'⟩, ⟨rfl, trivial⟩, ⟨rfl, rfl, trivial⟩, Cv.p, by omega⟩
    · have h4 := of_decide_eq_false h4
      have e : decide (er xs = er ys) = true := by
        rw [decide_eq_true_iff]; exact pre_eq he (by rw [er_len, er_len]; exact hl) (by rw [er_len]; omega)
      rw [e] at k
      refine WP.exit ?_
      refine WP.seq ?_
      refine WP.region ?_
      refine RG.pv rfl (PV.mvB (.inr rfl) rfl) ?_
      refine RG.nil ?_
      refine WP.ret ?_
      exact ⟨_, _, ResV.one rfl rfl, Cv.p, k⟩
end Go.Proofs.Ytilccgeldnlgnaa
