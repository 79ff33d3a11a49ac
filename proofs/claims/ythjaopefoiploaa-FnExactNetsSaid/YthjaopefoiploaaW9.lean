/-
  Contracts: pieces and nets: copies, sizes, comparisons; the number of unit cells of a net; the law of it.
-/
import Derived.Test.YthjaopefoiploaaW8
import Derived.Test.YthjaopefoiploaaCanon3
namespace Go.Proofs.Ythjaopefoiploaa
open Go
set_option maxRecDepth 20000
set_option linter.unusedSimpArgs false
variable {G : Gh} {L : List Ch} {R : Value → Gh → List Ch → Prop}
def regs (xs : List Piece) : List (Sl Rect) := xs.map Piece.reg
theorem regs_len (xs : List Piece) : (regs xs).length = xs.length := by simp [regs]
theorem regs_gd {xs : List Piece} {i : Nat} (h : i < xs.length) : gd (regs xs) i = (gd xs i).reg := gd_map _ h
theorem RsE.reg {xs : List Piece} (h : RsE G L rectT (regs xs)) {i : Nat} (hi : i < xs.length) : Rs G L rectT (gd xs i).reg.v (gd xs i).reg.xs := by
  have := h i (by rw [regs_len]; exact hi); rwa [regs_gd hi] at this
def erP (p : Piece) : Int × List Rect := (p.layer, p.reg.xs)
def erPs (xs : List Piece) : List (Int × List Rect) := xs.map erP
theorem erPs_len (xs : List Piece) : (erPs xs).length = xs.length := by simp [erPs]
theorem erPs_gd {xs : List Piece} {i : Nat} (h : i < xs.length) : gd (erPs xs) i = erP (gd xs i) := gd_map _ h
theorem erPs_get {xs ys : List Piece} (h : erPs xs = erPs ys) {i : Nat} (hi : i < ys.length) : erP (gd xs i) = erP (gd ys i) := by
  have hl : xs.length = ys.length := by rw [← erPs_len, ← erPs_len, h]
  rw [← erPs_gd (by omega), ← erPs_gd hi, h]
theorem erPs_of {xs ys : List Piece} (hl : xs.length = ys.length) (h : ∀ i, i < ys.length → erP (gd xs i) = erP (gd ys i)) : erPs xs = erPs ys := by
  apply List.ext_getElem?
  intro i
  by_cases hi : i < ys.length
  · rw [getG (by rw [erPs_len]; omega), getG (by rw [erPs_len]; omega), erPs_gd (by omega), erPs_gd hi, h i hi]
  · rw [List.getElem?_eq_none (by rw [erPs_len]; omega), List.getElem?_eq_none (by rw [erPs_len]; omega)]
theorem erPs_regs {xs ys : List Piece} (h : erPs xs = erPs ys) : er (regs xs) = er (regs ys) := by
  have : ∀ zs : List Piece, er (regs zs) = (erPs zs).map Prod.snd := fun zs => by simp [er, regs, erPs, erP, Function.comp_def]
  rw [this, this, h]

/-! ## copies -/
/-! ## sizes -/
/-! ## comparisons -/
theorem eqPiece_s {p q : Piece} (h1 : Rs G L rectT p.reg.v p.reg.xs) (h2 : Rs G L rectT q.reg.v q.reg.xs) (k : R (.bool (decide (erP p = erP q))) G L) : CallT Try.prog 112 #[vT pieceT p, vT pieceT q] G L R := by
  refine CallT.enter (args := _) Try.func112 rfl rfl (by kernel_rfl) rfl ?_
  refine WP.seq ?_
  refine WP.region ?_
  refine RG.ot rfl (OT.box (cs := pieceT.enc p) rfl rfl rfl fun b2 => ?_)
  refine RG.ot rfl (OT.box (cs := pieceT.enc q) rfl rfl rfl fun b3 => ?_)
  refine RG.pv rfl (PV.mvB (.inr rfl) rfl) ?_
  refine RG.nil ?_
  refine WP.seq ?_
  refine WP.seq ?_
  refine WP.region ?_
  refine RG.pv rfl (PV.field rfl Fo90_0 rfl) ?_
  refine RG.pv rfl (PV.load1 rfl Sc2 rfl (Rd.blk rfl)) ?_
  refine RG.pv rfl (PV.field rfl Fo90_0 rfl) ?_
  refine RG.pv rfl (PV.load1 rfl Sc2 rfl (Rd.blk rfl)) ?_
  refine RG.pv rfl (PV.neq rfl rfl rfl) ?_
  refine RG.nil ?_
  refine WP.cond rfl (fun h3 => ?_) (fun h3 => ?_)
  · have e : decide (erP p = erP q) = false := by
      rw [decide_eq_false_iff_not]; intro h; simp [erP] at h h3; exact h3 h.1
    rw [e] at k
    refine WP.seq ?_
    refine WP.region ?_
    refine RG.pv rfl (PV.mvB (.inr rfl) rfl) ?_
    refine RG.nil ?_
    refine WP.ret ?_
    exact ⟨_, _, ResV.one rfl rfl, Cv.p, k⟩
  · refine WP.skip ?_
    refine WP.seq ?_
    refine WP.seq ?_
    refine WP.region ?_
    refine RG.pv rfl (PV.field rfl Fo90_1 rfl) ?_
    refine RG.pv rfl (PV.load1 rfl Sc24 rfl (Rd.blk rfl)) ?_
    refine RG.pv rfl (PV.field rfl Fo90_1 rfl) ?_
    refine RG.pv rfl (PV.load1 rfl Sc24 rfl (Rd.blk rfl)) ?_
    refine RG.callF (vs := [_, _]) rfl rfl En11 rfl (eqRectS_s (Rs.up h1) (Rs.up h2) ?_)
    refine RG.pv rfl (PV.not rfl rfl) ?_
    refine RG.nil ?_
    refine WP.cond rfl (fun h4 => ?_) (fun h4 => ?_)
    · have e : decide (erP p = erP q) = false := by
        rw [decide_eq_false_iff_not]; intro h; simp [erP] at h h4; exact h4 h.2
      rw [e] at k
      refine WP.seq ?_
      refine WP.region ?_
      refine RG.pv rfl (PV.mvB (.inr rfl) rfl) ?_
      refine RG.nil ?_
      refine WP.ret ?_
      exact ⟨_, _, ResV.one rfl rfl, Cv.p, k⟩
    · have e : decide (erP p = erP q) = true := by
        simp at h3 h4; simp [erP, h3, h4]
      rw [e] at k
      refine WP.skip ?_
      refine WP.seq ?_
      refine WP.region ?_
      refine RG.pv rfl (PV.mvB (.inr rfl) rfl) ?_
      refine RG.nil ?_
      refine WP.ret ?_
      exact ⟨_, _, ResV.one rfl rfl, Cv.p, k⟩
theorem eqPieceS_s {v u : Value} {xs ys : List Piece} (h1 : Rs G L pieceT v xs) (hd : RsE G L rectT (regs xs)) (h2 : Rs G L pieceT u ys) (hd' : RsE G L rectT (regs ys)) (k : R (.bool (decide (erPs xs = erPs ys))) G L) : CallT Try.prog 87 #[v, u] G L R := by
  refine CallT.bd h1 fun hb => ?_
  refine CallT.bd h2 fun hb' => ?_
  refine CallT.enter (args := _) Try.func87 rfl rfl (by kernel_rfl) rfl ?_
  refine WP.seq ?_
  refine WP.region ?_
  refine RG.pv rfl (PV.mvB (.inr rfl) rfl) ?_
  refine RG.nil ?_
  refine WP.seq ?_
  refine WP.seq ?_
  refine WP.region ?_
  refine RG.pv rfl (PV.move (v := v) rfl rfl) ?_
  refine RG.pv rfl (PV.len (v := v) rfl Try.underlying86 rfl (SlF.r h1)) ?_
  refine RG.pv rfl (PV.move (v := u) rfl rfl) ?_
  refine RG.pv rfl (PV.len (v := u) rfl Try.underlying86 rfl (SlF.r h2)) ?_
  refine RG.pv rfl (PV.neq rfl rfl rfl) ?_
  refine RG.nil ?_
  refine WP.cond rfl (fun h3 => ?_) (fun h3 => ?_)
  · have e : decide (erPs xs = erPs ys) = false := by
      rw [decide_eq_false_iff_not]; intro h; have := congrArg List.length h; rw [erPs_len, erPs_len] at this; simp at h3; omega
    rw [e] at k
    refine WP.seq ?_
    refine WP.region ?_
    refine RG.pv rfl (PV.mvB (.inr rfl) rfl) ?_
    refine RG.nil ?_
    refine WP.ret ?_
    exact ⟨_, _, ResV.one rfl rfl, Cv.p, k⟩
  · have hl : xs.length = ys.length := by simp at h3; omega
    refine WP.skip ?_
    refine WP.seq ?_
    refine WP.seq ?_
    refine WP.region ?_
    refine RG.pv rfl (PV.mvI (.inr rfl) rfl) ?_
    refine RG.nil ?_
    refine WP.block ?_
    refine WP.loop1 [0, 1] (fun i => i ≤ xs.length ∧ ∀ j, j < i → erP (gd xs j) = erP (gd ys j)) (fun i => [(5, vi i)]) (fun i => L) (fun i => xs.length - i) 0 ⟨by omega, fun j h => by omega⟩ ⟨rfl, trivial⟩ Cv.p ?_
    rintro i τ ⟨hi, he⟩
    refine WP.seq ?_
    refine WP.seq ?_
    refine WP.region ?_
    refine RG.pv rfl (PV.mvI (.inl rfl) rfl) ?_
    refine RG.pv rfl (PV.move (v := v) rfl rfl) ?_
    refine RG.pv rfl (PV.len (v := v) rfl Try.underlying86 rfl (SlF.r h1)) ?_
    refine RG.pv rfl (PV.lss rfl rfl rfl) ?_
    refine RG.nil ?_
    refine WP.cond rfl (fun h4 => ?_) (fun h4 => ?_)
    · have h4 := of_decide_eq_true h4
      have h5 : i < xs.length := by omega
      refine WP.skip ?_
      refine WP.seq ?_
      refine WP.block ?_
      refine WP.seq ?_
      refine WP.regionQ (by kernel_rfl) (by kernel_rfl) ?_
      refine RQ.pv rfl (PV.move (v := v) rfl rfl) ?_
      refine RQ.pv rfl (PV.mvI (.inl rfl) rfl) ?_
      refine RQ.pv rfl (PV.idxS (v := v) rfl Is86 rfl (SlF.r h1) rfl rfl (by omega)) ?_
      refine RQ.pv rfl (PV.loadE rfl Ag90 rfl rfl (El.r h1 (getG (by omega)))) ?_
      refine RQ.pv rfl (PV.move (v := u) rfl rfl) ?_
      refine RQ.pv rfl (PV.mvI (.inl rfl) rfl) ?_
      refine RQ.pv rfl (PV.idxS (v := u) rfl Is86 rfl (SlF.r h2) rfl rfl (by omega)) ?_
      refine RQ.pv rfl (PV.loadE rfl Ag90 rfl rfl (El.r h2 (getG (by omega)))) ?_
      refine RQ.callF (vs := [_, _]) rfl rfl En112 rfl (eqPiece_s (hd.reg (by omega)).up (hd'.reg (by omega)).up ⟨rfl, rfl, rfl⟩) ?_
      refine RQ.pv rfl (PV.not rfl rfl) ?_
      refine RQ.nil ?_
      refine WP.cond rfl (fun h6 => ?_) (fun h6 => ?_)
      · have e : decide (erPs xs = erPs ys) = false := by
          rw [decide_eq_false_iff_not]; intro h; simp [erPs_get h (i := i) (by omega)] at h6
        rw [e] at k
        refine WP.seq ?_
        refine WP.region ?_
        refine RG.pv rfl (PV.mvB (.inr rfl) rfl) ?_
        refine RG.nil ?_
        refine WP.ret ?_
        exact ⟨_, _, ResV.one rfl rfl, Cv.p, k⟩
      · have e : erP (gd xs i) = erP (gd ys i) := by simpa using h6
        have he' : ∀ j, j < i + 1 → erP (gd xs j) = erP (gd ys j) := fun j h => by
          by_cases c : j = i
          · rw [c, e]
          · exact he j (by omega)
        refine WP.skip ?_
        refine WP.region ?_
        refine RG.pv rfl (PV.mvI (.inl rfl) rfl) ?_
        refine RG.pv rfl (PV.add rfl rfl rfl (by omega)) ?_
        refine RG.pv rfl (PV.mvI (.inr rfl) rfl) ?_
        refine RG.nil ?_
        exact ⟨rfl, i + 1, ⟨by omega, he'⟩, ⟨rfl, trivial⟩, ⟨rfl, rfl, trivial⟩, Cv.p, by omega⟩
    · have h4 := of_decide_eq_false h4
      have e : decide (erPs xs = erPs ys) = true := by
        rw [decide_eq_true_iff]; exact erPs_of hl (fun j hj => he j (by omega))
      rw [e] at k
      refine WP.exit ?_
      refine WP.seq ?_
      refine WP.region ?_
      refine RG.pv rfl (PV.mvB (.inr rfl) rfl) ?_
      refine RG.nil ?_
      refine WP.ret ?_
      exact ⟨_, _, ResV.one rfl rfl, Cv.p, k⟩
theorem eqNet_s {n m : Net} (h1 : Rs G L pieceT n.pieces.v n.pieces.xs) (hd : RsE G L rectT (regs n.pieces.xs)) (h2 : Rs G L pieceT m.pieces.v m.pieces.xs) (hd' : RsE G L rectT (regs m.pieces.xs)) (k : R (.bool (decide (erPs n.pieces.xs = erPs m.pieces.xs))) G L) : CallT Try.prog 51 #[vT netT n, vT netT m] G L R := by
  refine CallT.enter (args := _) Try.func51 rfl rfl (by kernel_rfl) rfl ?_
  refine WP.seq ?_
  refine WP.region ?_
  refine RG.ot rfl (OT.box (cs := netT.enc n) rfl rfl rfl fun b2 => ?_)
  refine RG.ot rfl (OT.box (cs := netT.enc m) rfl rfl rfl fun b3 => ?_)
  refine RG.pv rfl (PV.mvB (.inr rfl) rfl) ?_
  refine RG.nil ?_
  refine WP.seq ?_
  refine WP.seq ?_
  refine WP.region ?_
  refine RG.pv rfl (PV.field rfl Fo92_0 rfl) ?_
  refine RG.pv rfl (PV.load1 rfl Sc86 rfl (Rd.blk rfl)) ?_
  refine RG.pv rfl (PV.field rfl Fo92_0 rfl) ?_
  refine RG.pv rfl (PV.load1 rfl Sc86 rfl (Rd.blk rfl)) ?_
  refine RG.callF (vs := [_, _]) rfl rfl En87 rfl (eqPieceS_s (Rs.up h1) hd.up (Rs.up h2) hd'.up ?_)
  refine RG.pv rfl (PV.not rfl rfl) ?_
  refine RG.nil ?_
  refine WP.cond rfl (fun h3 => ?_) (fun h3 => ?_)
  · have e : decide (erPs n.pieces.xs = erPs m.pieces.xs) = false := by simpa using h3
    rw [e] at k
    refine WP.seq ?_
    refine WP.region ?_
    refine RG.pv rfl (PV.mvB (.inr rfl) rfl) ?_
    refine RG.nil ?_
    refine WP.ret ?_
    exact ⟨_, _, ResV.one rfl rfl, Cv.p, k⟩
  · have e : decide (erPs n.pieces.xs = erPs m.pieces.xs) = true := by simpa using h3
    rw [e] at k
    refine WP.skip ?_
    refine WP.seq ?_
    refine WP.region ?_
    refine RG.pv rfl (PV.mvB (.inr rfl) rfl) ?_
    refine RG.nil ?_
    refine WP.ret ?_
    exact ⟨_, _, ResV.one rfl rfl, Cv.p, k⟩

/-! ## the unit cells of a net -/
def netC (l : List (List Rect)) : Int := bif l.all isReg then costL areaS l else -1
theorem netC_false {l : List (List Rect)} {i : Nat} (h : i < l.length) (e : isReg (gd l i) = false) : netC l = -1 := by
  have : l.all isReg = false := by
    rw [List.all_eq_false]; exact ⟨gd l i, by rw [gd_eq h]; exact List.getElem_mem _, by simp [e]⟩
  simp [netC, this]
theorem netC_all {l : List (List Rect)} (h : ∀ i, i < l.length → isReg (gd l i) = true) : netC l = costL areaS l := by
  have : l.all isReg = true := by
    rw [List.all_eq_true]
    intro x hx
    obtain ⟨j, hj', rfl⟩ := List.getElem_of_mem hx
    rw [← gd_eq hj']; exact h j hj'
  simp [netC, this]
theorem areaS_reg {xs : List Rect} (h : isReg xs = true) : areaS xs = cnt (bits xs) := by
  have := cnt_canon (bits_length xs); rwa [isReg_eq h] at this
theorem area_bnd {l : List (List Rect)} (h : ∀ i, i < l.length → isReg (gd l i) = true) : ∀ i, i ≤ l.length → 0 ≤ costL areaS (l.take i) ∧ costL areaS (l.take i) ≤ 6400 * i
  | 0, _ => by simp [costL]
  | i + 1, hi => by
    have ih := area_bnd h i (by omega)
    have h1 := areaS_reg (h i (by omega))
    have h2 := cnt_le (bits (gd l i))
    rw [bits_length] at h2
    rw [costL_take _ (by omega), h1]; omega
theorem erregs_gd {xs : List Piece} {i : Nat} (h : i < xs.length) : gd (er (regs xs)) i = (gd xs i).reg.xs := by rw [er_gd, regs_gd h]
theorem netC_i {n : Net} (h1 : Rs G L pieceT n.pieces.v n.pieces.xs) (hd : RsE G L rectT (regs n.pieces.xs)) (hb : n.pieces.xs.length ≤ 1048576) (k : R (vi (netC (er (regs n.pieces.xs)))) G L) : CallT Try.prog 50 #[vT netT n] G L R := by
  have hrl : (er (regs n.pieces.xs)).length = n.pieces.xs.length := by rw [er_len, regs_len]
  refine CallT.enter (args := _) Try.func50 rfl rfl (by kernel_rfl) rfl ?_
  refine WP.seq ?_
  refine WP.region ?_
  refine RG.ot rfl (OT.box (cs := netT.enc n) rfl rfl rfl fun b1 => ?_)
  refine RG.pv rfl (PV.mvI (.inr rfl) rfl) ?_
  refine RG.nil ?_
  refine WP.seq ?_
  refine WP.region ?_
  refine RG.pv rfl (PV.mvI (.inr rfl) rfl) ?_
  refine RG.nil ?_
  refine WP.seq ?_
  refine WP.seq ?_
  refine WP.region ?_
  refine RG.pv rfl (PV.field rfl Fo92_0 rfl) ?_
  refine RG.pv rfl (PV.load1 rfl Sc86 rfl (Rd.blk rfl)) ?_
  refine RG.pv rfl (PV.len rfl Try.underlying86 rfl (SlF.r h1)) ?_
  refine RG.pv rfl (PV.mvI (.inl rfl) rfl) ?_
  refine RG.nil ?_
  refine WP.block ?_
  refine WP.loop2 [7, 8] (fun (i : Nat) (s : Int) => i ≤ n.pieces.xs.length ∧ (∀ j, j < i → isReg (gd n.pieces.xs j).reg.xs = true) ∧ s = costL areaS ((er (regs n.pieces.xs)).take i)) (fun (i : Nat) (s : Int) => [(9, vi i), (3, vi s)]) (fun (i : Nat) (s : Int) => L) (fun (i : Nat) (s : Int) => n.pieces.xs.length - i) 0 0 ⟨by omega, fun j h => by omega, by simp [costL]⟩ ⟨rfl, rfl, trivial⟩ Cv.p ?_
  rintro i s τ ⟨hi, hj, hs⟩
  refine WP.seq ?_
  refine WP.region ?_
  refine RG.pv rfl (PV.lss rfl rfl rfl) ?_
  refine RG.nil ?_
  refine WP.seq ?_
  refine WP.cond rfl (fun h2 => ?_) (fun h2 => ?_)
  · have h2 := of_decide_eq_true h2
    have h3 : i < n.pieces.xs.length := by omega
    refine WP.skip ?_
    refine WP.seq ?_
    refine WP.block ?_
    refine WP.seq ?_
    refine WP.region ?_
    refine RG.pv rfl (PV.idxS rfl Is86 rfl (SlF.r h1) rfl rfl (by omega)) ?_
    refine RG.pv rfl (PV.loadE rfl Ag90 rfl rfl (El.r h1 (getG (by omega)))) ?_
    refine RG.ot rfl (OT.alloc rfl Zr90 fun b5 => ?_)
    refine RG.ot rfl (OT.storeW (vs := [vi _, _]) rfl Sz90 rfl rfl (Cl.c rfl) rfl rfl (OneC.val rfl (OneC.sl (SlF.r (hd.reg h3)) OneC.nil)) ?_)
    refine RG.nil ?_
    refine WP.seq ?_
    refine WP.seq ?_
    refine WP.region ?_
    refine RG.pv rfl (PV.field rfl Fo90_1 rfl) ?_
    refine RG.pv rfl (PV.load1 rfl Sc24 rfl (Rd.blk rfl)) ?_
    refine RG.callF (vs := [_]) rfl rfl En64 rfl (isRegion_s (hd.reg (by omega)).up ?_)
    refine RG.pv rfl (PV.not rfl rfl) ?_
    refine RG.nil ?_
    refine WP.cond rfl (fun h4 => ?_) (fun h4 => ?_)
    · rw [netC_false (i := i) (by omega) (by rw [erregs_gd h3]; simpa using h4)] at k
      refine WP.seq ?_
      refine WP.region ?_
      refine RG.pv rfl (PV.mvI (.inr rfl) rfl) ?_
      refine RG.nil ?_
      refine WP.ret ?_
      exact ⟨_, _, ResV.one rfl rfl, Cv.p, k⟩
    · have h5 : isReg (gd n.pieces.xs i).reg.xs = true := by simpa using h4
      have hj' : ∀ j, j < i + 1 → isReg (gd n.pieces.xs j).reg.xs = true := fun j h => by
        by_cases c : j = i
        · rw [c]; exact h5
        · exact hj j (by omega)
      have hct := costL_take areaS (xs := er (regs n.pieces.xs)) (i := i) (by omega)
      rw [erregs_gd h3] at hct
      have hcb := cnt_le (bits (gd n.pieces.xs i).reg.xs)
      rw [bits_length, ← areaS_reg h5] at hcb
      have hab : 0 ≤ s ∧ s ≤ 6400 * i := by
        have hlt : ((er (regs n.pieces.xs)).take i).length = i := by rw [List.length_take]; omega
        have := area_bnd (l := (er (regs n.pieces.xs)).take i) (fun j hj2 => by
          rw [hlt] at hj2
          have e : gd ((er (regs n.pieces.xs)).take i) j = gd (er (regs n.pieces.xs)) j := by simp [gd, List.getElem?_take, hj2]
          rw [e, erregs_gd (by omega)]; exact hj j hj2) i (by omega)
        rw [List.take_of_length_le (l := (er (regs n.pieces.xs)).take i) (by omega)] at this
        rw [hs]; exact this
      refine WP.skip ?_
      refine WP.region ?_
      refine RG.pv rfl (PV.mvI (.inl rfl) rfl) ?_
      refine RG.pv rfl (PV.field rfl Fo90_1 rfl) ?_
      refine RG.pv rfl (PV.load1 rfl Sc24 rfl (Rd.blk rfl)) ?_
      refine RG.callF (vs := [_]) rfl rfl En86 rfl (regionArea_s (hd.reg (by omega)).up (isReg_valid (by assumption)) ?_)
      refine RG.pv rfl (PV.add rfl rfl rfl (by omega)) ?_
      refine RG.pv rfl (PV.mvI (.inr rfl) rfl) ?_
      refine RG.nil ?_
      refine WP.region ?_
      refine RG.pv rfl (PV.add rfl rfl rfl (by omega)) ?_
      refine RG.pv rfl (PV.mvI (.inl rfl) rfl) ?_
      refine RG.nil ?_
      exact ⟨rfl, i + 1, _, ⟨by omega, hj', by omega⟩, ⟨rfl, rfl, trivial⟩, ⟨rfl, rfl, trivial⟩, Cv.p, by omega⟩
  · have h2 := of_decide_eq_false h2
    have e : netC (er (regs n.pieces.xs)) = s := by
      rw [netC_all (fun i hi2 => by rw [erregs_gd (by omega)]; exact hj i (by omega)), hs, List.take_of_length_le (by omega)]
    rw [e] at k
    refine WP.exit ?_
    refine WP.seq ?_
    refine WP.region ?_
    refine RG.pv rfl (PV.mvI (.inl rfl) rfl) ?_
    refine RG.pv rfl (PV.mvI (.inr rfl) rfl) ?_
    refine RG.nil ?_
    refine WP.ret ?_
    exact ⟨_, _, ResV.one rfl rfl, Cv.p, k⟩
end Go.Proofs.Ythjaopefoiploaa
