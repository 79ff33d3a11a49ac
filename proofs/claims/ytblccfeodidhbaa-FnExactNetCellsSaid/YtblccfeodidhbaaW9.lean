/-
  Contracts: pieces and nets: copies, sizes, comparisons; the number of unit cells of a net; the law of it.
-/
import Derived.Test.YtblccfeodidhbaaW8
import Derived.Test.YtblccfeodidhbaaCanon3
namespace Go.Proofs.Ytblccfeodidhbaa
open Go
set_option maxRecDepth 20000
set_option linter.unusedSimpArgs false
variable {G : Gh} {L : List Ch} {R : Value → Gh → List Ch → Prop}
def regs (xs : List Piece) : List (Sl Rect) := xs.map Piece.reg
theorem regs_len (xs : List Piece) : (regs xs).length = xs.length := by simp [regs]
theorem regs_gd {xs : List Piece} {i : Nat} (h : i < xs.length) : gd (regs xs) i = (gd xs i).reg := gd_map _ h
theorem RsE.reg {xs : List Piece} (h : RsE G L rectT (regs xs)) {i : Nat} (hi : i < xs.length) : Rs G L rectT (gd xs i).reg.v (gd xs i).reg.xs := by
  have := h i (by rw [regs_len]; exact hi); rwa [regs_gd hi] at this
def erP (p : Piece) : Int × List Rect := (p.layer, p.reg.xs)
def erPs (xs : List Piece) : List (Int × List Rect) := xs.map erP
theorem erPs_len (xs : List Piece) : (erPs xs).length = xs.length := by simp [erPs]
theorem erPs_gd {xs : List Piece} {i : Nat} (h : i < xs.length) : gd (erPs xs) i = erP (gd xs i) := gd_map _ h
theorem erPs_get {xs ys : List Piece} (h : erPs xs = erPs ys) {i : Nat} (hi : i < ys.length) : erP (gd xs i) = erP (gd ys i) := by
  have hl : xs.length = ys.length := by rw [← erPs_len, ← erPs_len, h]
  rw [← erPs_gd (by omega), ← erPs_gd hi, h]
theorem erPs_of {xs ys : List Piece} (hl : xs.length = ys.length) (h : ∀ i, i < ys.length → erP (gd xs i) = erP (gd ys i)) : erPs xs = erPs ys := by
  apply List.ext_getElem?
  intro i
  by_cases hi : i < ys.length
  · rw [getG (by rw [erPs_len]; omega), getG (by rw [erPs_len]; omega), erPs_gd (by omega), erPs_gd hi, h i hi]
  · rw [List.getElem?_eq_none (by rw [erPs_len]; omega), List.getElem?_eq_none (by rw [erPs_len]; omega)]
theorem erPs_regs {xs ys : List Piece} (h : erPs xs = erPs ys) : er (regs xs) = er (regs ys) := by
  have : ∀ zs : List Piece, er (regs zs) = (erPs zs).map Prod.snd := fun zs => by simp [er, regs, erPs, erP, Function.comp_def]
  rw [this, this, h]

/-! ## copies -/
theorem toPiece_s {p : Piece} (h : Rs G L rectT p.reg.v p.reg.xs) (hb : p.reg.xs.length ≤ 1048576) (k : ∀ v', R (vT pieceT ⟨p.layer, ⟨v', p.reg.xs⟩⟩) G (osl 84 rectT v' p.reg.xs :: L)) : CallT Try.prog 82 #[vT pieceT p] G L R := by
  refine CallT.enter (args := _) Try.func82 rfl rfl (by kernel_rfl) rfl ?_
  refine WP.seq ?_
  refine WP.region ?_
  refine RG.ot rfl (OT.box (cs := pieceT.enc p) rfl rfl rfl fun b1 => ?_)
  refine RG.ot rfl (OT.alloc rfl Zr76 fun b2 => ?_)
  refine RG.nil ?_
  refine WP.seq ?_
  refine WP.region ?_
  refine RG.ot rfl (OT.alloc rfl Zr76 fun b3 => ?_)
  refine RG.nil ?_
  refine WP.seq ?_
  refine WP.region ?_
  refine RG.pv rfl (PV.field rfl Fo100_0 rfl) ?_
  refine RG.pv rfl (PV.load1 rfl Sc2 rfl (Rd.blk rfl)) ?_
  refine RG.pv rfl (PV.field rfl Fo76_0 rfl) ?_
  refine RG.ot rfl (OT.storeB (cs' := [_, _]) rfl Sz2 rfl rfl (Cl.c rfl) rfl (OneC.c rfl) rfl rfl ?_)
  refine RG.nil ?_
  refine WP.seq ?_
  refine WP.region ?_
  refine RG.pv rfl (PV.field rfl Fo100_1 rfl) ?_
  refine RG.pv rfl (PV.load1 rfl Sc49 rfl (Rd.blk rfl)) ?_
  refine RG.callF (vs := [_]) rfl rfl En27 rfl (toRectS_s (Rs.up h) hb (fun v9 => ?_))
  refine RG.pv rfl (PV.field rfl Fo76_1 rfl) ?_
  refine RG.ot rfl (OT.storeB (v := v9) (cs' := [_, _]) rfl Sz52 rfl rfl (Cl.s SlF.o) rfl (OneC.sl SlF.o OneC.nil) rfl rfl ?_)
  refine RG.nil ?_
  refine WP.seq ?_
  refine WP.region ?_
  refine RG.pv rfl (PV.loadW rfl Ag76 rfl rfl) ?_
  refine RG.ot rfl (OT.storeW rfl Sz76 rfl rfl (Cl.c rfl) rfl rfl (OneC.val rfl (OneC.sl SlF.o OneC.nil)) ?_)
  refine RG.nil ?_
  refine WP.ret ?_
  exact ⟨_, _, ResV.one rfl (RV1.cell rfl Ag76 rfl), Cv.p, k v9⟩
theorem toPieceS_s {v : Value} {xs : List Piece} (h1 : Rs G L pieceT v xs) (hd : RsE G L rectT (regs xs)) (hb : xs.length ≤ 1048576) (hbi : ∀ i, i < xs.length → (gd xs i).reg.xs.length ≤ 1048576) (k : ∀ v' ys, erPs ys = erPs xs → R v' G (osl 76 pieceT v' ys :: bagS 84 rectT (regs ys) :: L)) : CallT Try.prog 54 #[v] G L R := by
  refine CallT.enter (args := _) Try.func54 rfl rfl (by kernel_rfl) rfl ?_
  refine WP.seq ?_
  refine WP.region ?_
  refine RG.pv rfl (PV.asg rfl rfl) ?_
  refine RG.nil ?_
  refine WP.seq ?_
  refine WP.region ?_
  refine RG.pv rfl (PV.move (v := v) rfl rfl) ?_
  refine RG.pv rfl (PV.len (v := v) rfl Try.underlying38 rfl (SlF.r h1)) ?_
  refine RG.ot rfl (OT.make (F := pieceT) (a0 := default) rfl El43 rfl (by decide) rfl rfl (by omega) (by omega) fun v7 => ?_)
  refine RG.pv rfl (PV.asg (v := v7) rfl rfl) ?_
  refine RG.nil ?_
  refine WP.seq ?_
  refine WP.seq ?_
  refine WP.region ?_
  refine RG.pv rfl (PV.mvI (.inr rfl) rfl) ?_
  refine RG.nil ?_
  refine WP.block ?_
  refine WP.cv (Cv.cons (Cv.bag0 (e := 84) (F := rectT) (xs := regs ((List.replicate xs.length default).take 0)) rfl)) ?_
  refine WP.loop2 [0, 3] (fun (i : Nat) (ys : List Piece) => i ≤ xs.length ∧ ys.length = xs.length ∧ ∀ j, j < i → erP (gd ys j) = erP (gd xs j)) (fun (i : Nat) (ys : List Piece) => [(4, vi i)]) (fun (i : Nat) (ys : List Piece) => osl 76 pieceT v7 ys :: bagS 84 rectT (regs (ys.take i)) :: L) (fun (i : Nat) (ys : List Piece) => xs.length - i) 0 (List.replicate xs.length default) ⟨by omega, by simp, fun j h => by omega⟩ ⟨rfl, trivial⟩ Cv.p ?_
  rintro i ys τ ⟨hi, hl, he⟩
  refine WP.seq ?_
  refine WP.seq ?_
  refine WP.region ?_
  refine RG.pv rfl (PV.mvI (.inl rfl) rfl) ?_
  refine RG.pv rfl (PV.move (v := v) rfl rfl) ?_
  refine RG.pv rfl (PV.len (v := v) rfl Try.underlying38 rfl (SlF.r h1)) ?_
  refine RG.pv rfl (PV.lss rfl rfl rfl) ?_
  refine RG.nil ?_
  refine WP.cond rfl (fun h2 => ?_) (fun h2 => ?_)
  · have h2 := of_decide_eq_true h2
    have h3 : i < ys.length := by omega
    refine WP.skip ?_
    refine WP.seq ?_
    refine WP.block ?_
    refine WP.region ?_
    refine RG.pv rfl (PV.move (v := v7) rfl rfl) ?_
    refine RG.pv rfl (PV.mvI (.inl rfl) rfl) ?_
    refine RG.pv rfl (PV.move (v := v) rfl rfl) ?_
    refine RG.pv rfl (PV.mvI (.inl rfl) rfl) ?_
    refine RG.pv rfl (PV.idxS (v := v) rfl Is38 rfl (SlF.r h1) rfl rfl (by omega)) ?_
    refine RG.pv rfl (PV.loadE rfl Ag100 rfl rfl (El.r h1 (getG (by omega)))) ?_
    refine RG.callF (vs := [_]) rfl rfl En82 rfl (toPiece_s (hd.reg (by omega)).up (hbi i (by omega)) (fun w20 => ?_))
    refine RG.pv rfl (PV.idxS (v := v7) rfl Is43 rfl SlF.o rfl rfl (by omega)) ?_
    refine RG.ot rfl (OT.storeE (a := ⟨(gd xs i).layer, ⟨w20, (gd xs i).reg.xs⟩⟩) (F := pieceT) rfl Sz76 rfl rfl rfl (Cl.c rfl) (OneC.val rfl (OneC.sl SlF.o OneC.nil)) (by omega) ?_)
    refine RG.nil ?_
    refine WP.region ?_
    refine RG.pv rfl (PV.mvI (.inl rfl) rfl) ?_
    refine RG.pv rfl (PV.add rfl rfl rfl (by omega)) ?_
    refine RG.pv rfl (PV.mvI (.inr rfl) rfl) ?_
    refine RG.nil ?_
    refine ⟨rfl, i + 1, _, ⟨by omega, by simpa using hl, fun j hj => ?_⟩, ⟨rfl, trivial⟩, ⟨rfl, rfl, trivial⟩, (Cv.cons (Cv.grow (by rw [take_set_succ h3]; simp [regs]))), by omega⟩
    by_cases c : j = i
    · subst c; simp [gd, h3, erP]
    · have := he j (by omega)
      simpa [gd, List.getElem?_set, Ne.symm c] using this
  · have h2 := of_decide_eq_false h2
    have e : ys.take i = ys := List.take_of_length_le (by omega)
    rw [e]
    refine WP.exit ?_
    refine WP.seq ?_
    refine WP.region ?_
    refine RG.pv rfl (PV.move (v := v7) rfl rfl) ?_
    refine RG.pv rfl (PV.asg (v := v7) rfl rfl) ?_
    refine RG.nil ?_
    refine WP.ret ?_
    exact ⟨_, _, ResV.one rfl rfl, Cv.p, k v7 ys (erPs_of hl (fun j hj => he j (by omega)))⟩
theorem toNet_s {n : Net} (h1 : Rs G L pieceT n.pieces.v n.pieces.xs) (hd : RsE G L rectT (regs n.pieces.xs)) (hb : n.pieces.xs.length ≤ 1048576) (hbi : ∀ i, i < n.pieces.xs.length → (gd n.pieces.xs i).reg.xs.length ≤ 1048576)
    (k : ∀ v' ys, erPs ys = erPs n.pieces.xs → R (vT netT ⟨⟨v', ys⟩⟩) G (osl 76 pieceT v' ys :: bagS 84 rectT (regs ys) :: L)) : CallT Try.prog 22 #[vT netT n] G L R := by
  refine CallT.enter (args := _) Try.func22 rfl rfl (by kernel_rfl) rfl ?_
  refine WP.seq ?_
  refine WP.region ?_
  refine RG.ot rfl (OT.box (cs := netT.enc n) rfl rfl rfl fun b1 => ?_)
  refine RG.ot rfl (OT.alloc rfl Zr45 fun b2 => ?_)
  refine RG.nil ?_
  refine WP.seq ?_
  refine WP.region ?_
  refine RG.ot rfl (OT.alloc rfl Zr45 fun b3 => ?_)
  refine RG.nil ?_
  refine WP.seq ?_
  refine WP.region ?_
  refine RG.pv rfl (PV.field rfl Fo40_0 rfl) ?_
  refine RG.pv rfl (PV.load1 rfl Sc38 rfl (Rd.blk rfl)) ?_
  refine RG.callF (vs := [_]) rfl rfl En54 rfl (toPieceS_s (Rs.up h1) hd.up hb hbi (fun v6 ysv6 hev6 => ?_))
  refine RG.pv rfl (PV.field rfl Fo45_0 rfl) ?_
  refine RG.ot rfl (OT.storeB (v := v6) (cs' := [_]) rfl Sz43 rfl rfl (Cl.s SlF.o) rfl (OneC.sl SlF.o OneC.nil) rfl rfl ?_)
  refine RG.nil ?_
  refine WP.seq ?_
  refine WP.region ?_
  refine RG.pv rfl (PV.loadW rfl Ag45 rfl rfl) ?_
  refine RG.ot rfl (OT.storeW rfl Sz45 rfl rfl (Cl.c rfl) rfl rfl (OneC.sl SlF.o OneC.nil) ?_)
  refine RG.nil ?_
  refine WP.ret ?_
  exact ⟨_, _, ResV.one rfl (RV1.cell rfl Ag45 rfl), Cv.p, k v6 ysv6 hev6⟩

/-! ## sizes -/
theorem szPiece_s {p : Piece} {n : Int} (h : Rs G L rectT p.reg.v p.reg.xs) (hn : n ≤ 1048576) (h0 : 0 ≤ n) (k : ∀ r : Int, r ≤ n → (0 ≤ r → r = n - lenS p.reg) → R (vi r) G L) : CallT Try.prog 77 #[vT pieceT p, vi n] G L R := by
  refine CallT.enter (args := _) Try.func77 rfl rfl (by kernel_rfl) rfl ?_
  refine WP.seq ?_
  refine WP.region ?_
  refine RG.ot rfl (OT.box (cs := pieceT.enc p) rfl rfl rfl fun b2 => ?_)
  refine RG.pv rfl (PV.mvI (.inr rfl) rfl) ?_
  refine RG.nil ?_
  refine WP.seq ?_
  refine WP.region ?_
  refine RG.pv rfl (PV.field rfl Fo100_1 rfl) ?_
  refine RG.pv rfl (PV.load1 rfl Sc49 rfl (Rd.blk rfl)) ?_
  refine RG.pv rfl (PV.mvI (.inl rfl) rfl) ?_
  refine RG.callF (vs := [_, _]) rfl rfl En25 rfl (szRectS_s (Rs.up h) (by omega) (by omega) (fun r hr hr' => ?_))
  refine RG.pv rfl (PV.mvI (.inr rfl) rfl) ?_
  refine RG.nil ?_
  refine WP.seq ?_
  refine WP.seq ?_
  refine WP.region ?_
  refine RG.pv rfl (PV.mvI (.inl rfl) rfl) ?_
  refine RG.pv rfl (PV.lss rfl rfl rfl) ?_
  refine RG.nil ?_
  refine WP.cond rfl (fun h2 => ?_) (fun h2 => ?_)
  · refine WP.seq ?_
    refine WP.region ?_
    refine RG.pv rfl (PV.mvI (.inr rfl) rfl) ?_
    refine RG.nil ?_
    refine WP.ret ?_
    exact ⟨_, _, ResV.one rfl rfl, Cv.p, k _ (by omega) (fun h => by omega)⟩
  · refine WP.skip ?_
    refine WP.seq ?_
    refine WP.region ?_
    refine RG.pv rfl (PV.mvI (.inl rfl) rfl) ?_
    refine RG.pv rfl (PV.mvI (.inr rfl) rfl) ?_
    refine RG.nil ?_
    refine WP.ret ?_
    exact ⟨_, _, ResV.one rfl rfl, Cv.p, k _ (by omega) (fun h => by have := hr' h; simp only [lenS]; omega)⟩
theorem szPieceS_s {v : Value} {xs : List Piece} {n : Int} (h1 : Rs G L pieceT v xs) (hd : RsE G L rectT (regs xs)) (hn : n ≤ 1048576) (h0 : 0 ≤ n) (k : ∀ r : Int, r ≤ n → (0 ≤ r → r = n - szOf (regs xs)) → R (vi r) G L) : CallT Try.prog 50 #[v, vi n] G L R := by
  refine CallT.bd h1 fun hb => ?_
  have hrl := regs_len xs
  refine CallT.enter (args := _) Try.func50 rfl rfl (by kernel_rfl) rfl ?_
  refine WP.seq ?_
  refine WP.region ?_
  refine RG.pv rfl (PV.mvI (.inr rfl) rfl) ?_
  refine RG.nil ?_
  refine WP.seq ?_
  refine WP.region ?_
  refine RG.pv rfl (PV.mvI (.inl rfl) rfl) ?_
  refine RG.pv rfl (PV.move (v := v) rfl rfl) ?_
  refine RG.pv rfl (PV.len (v := v) rfl Try.underlying38 rfl (SlF.r h1)) ?_
  refine RG.pv rfl (PV.sub rfl rfl rfl (by omega)) ?_
  refine RG.pv rfl (PV.mvI (.inr rfl) rfl) ?_
  refine RG.nil ?_
  refine WP.seq ?_
  refine WP.seq ?_
  refine WP.region ?_
  refine RG.pv rfl (PV.mvI (.inl rfl) rfl) ?_
  refine RG.pv rfl (PV.lss rfl rfl rfl) ?_
  refine RG.nil ?_
  refine WP.cond rfl (fun h2 => ?_) (fun h2 => ?_)
  · have h2 := of_decide_eq_true h2
    refine WP.seq ?_
    refine WP.region ?_
    refine RG.pv rfl (PV.mvI (.inr rfl) rfl) ?_
    refine RG.nil ?_
    refine WP.ret ?_
    exact ⟨_, _, ResV.one rfl rfl, Cv.p, k _ (by omega) (fun h => by omega)⟩
  · have h2 := of_decide_eq_false h2
    refine WP.skip ?_
    refine WP.seq ?_
    refine WP.seq ?_
    refine WP.region ?_
    refine RG.pv rfl (PV.mvI (.inr rfl) rfl) ?_
    refine RG.nil ?_
    refine WP.block ?_
    refine WP.loop2 [0] (fun (i : Nat) (m : Int) => i ≤ xs.length ∧ 0 ≤ m ∧ m = n - xs.length - costL lenS ((regs xs).take i)) (fun (i : Nat) (m : Int) => [(5, vi i), (1, vi m)]) (fun (i : Nat) (m : Int) => L) (fun (i : Nat) (m : Int) => xs.length - i) 0 (n - xs.length) ⟨by omega, by omega, by simp [costL]⟩ ⟨rfl, rfl, trivial⟩ Cv.p ?_
    rintro i m τ ⟨hi, hm0, hm1⟩
    refine WP.seq ?_
    refine WP.seq ?_
    refine WP.region ?_
    refine RG.pv rfl (PV.mvI (.inl rfl) rfl) ?_
    refine RG.pv rfl (PV.move (v := v) rfl rfl) ?_
    refine RG.pv rfl (PV.len (v := v) rfl Try.underlying38 rfl (SlF.r h1)) ?_
    refine RG.pv rfl (PV.lss rfl rfl rfl) ?_
    refine RG.nil ?_
    refine WP.cond rfl (fun h3 => ?_) (fun h3 => ?_)
    · have h3 := of_decide_eq_true h3
      have hct := costL_take lenS (xs := regs xs) (i := i) (by omega)
      rw [regs_gd (by omega)] at hct
      have hcn : 0 ≤ costL lenS ((regs xs).take i) := costL_nonneg lenS_nn _
      refine WP.skip ?_
      refine WP.seq ?_
      refine WP.block ?_
      refine WP.seq ?_
      refine WP.region ?_
      refine RG.pv rfl (PV.move (v := v) rfl rfl) ?_
      refine RG.pv rfl (PV.mvI (.inl rfl) rfl) ?_
      refine RG.pv rfl (PV.idxS (v := v) rfl Is38 rfl (SlF.r h1) rfl rfl (by omega)) ?_
      refine RG.pv rfl (PV.loadE rfl Ag100 rfl rfl (El.r h1 (getG (by omega)))) ?_
      refine RG.pv rfl (PV.mvI (.inl rfl) rfl) ?_
      refine RG.callF (vs := [_, _]) rfl rfl En77 rfl (szPiece_s (hd.reg (by omega)).up (by omega) (by omega) (fun r hr hr' => ?_))
      refine RG.pv rfl (PV.mvI (.inr rfl) rfl) ?_
      refine RG.nil ?_
      refine WP.seq ?_
      refine WP.region ?_
      refine RG.pv rfl (PV.mvI (.inl rfl) rfl) ?_
      refine RG.pv rfl (PV.lss rfl rfl rfl) ?_
      refine RG.nil ?_
      refine WP.cond rfl (fun h5 => ?_) (fun h5 => ?_)
      · have h5 := of_decide_eq_true h5
        refine WP.seq ?_
        refine WP.region ?_
        refine RG.pv rfl (PV.mvI (.inr rfl) rfl) ?_
        refine RG.nil ?_
        refine WP.ret ?_
        exact ⟨_, _, ResV.one rfl rfl, Cv.p, k _ (by omega) (fun h => by omega)⟩
      · have h5 := of_decide_eq_false h5
        have hr2 := hr' (by omega)
        refine WP.skip ?_
        refine WP.region ?_
        refine RG.pv rfl (PV.mvI (.inl rfl) rfl) ?_
        refine RG.pv rfl (PV.add rfl rfl rfl (by omega)) ?_
        refine RG.pv rfl (PV.mvI (.inr rfl) rfl) ?_
        refine RG.nil ?_
        exact ⟨rfl, i + 1, _, ⟨by omega, by omega, by omega⟩, ⟨rfl, rfl, trivial⟩, ⟨rfl, trivial⟩, Cv.p, by omega⟩
    · have h3 := of_decide_eq_false h3
      refine WP.exit ?_
      refine WP.seq ?_
      refine WP.region ?_
      refine RG.pv rfl (PV.mvI (.inl rfl) rfl) ?_
      refine RG.pv rfl (PV.mvI (.inr rfl) rfl) ?_
      refine RG.nil ?_
      refine WP.ret ?_
      exact ⟨_, _, ResV.one rfl rfl, Cv.p, k _ (by have : 0 ≤ costL lenS ((regs xs).take i) := costL_nonneg lenS_nn _; omega) (fun h => by rw [List.take_of_length_le (by omega)] at hm1; simp only [szOf]; omega)⟩
theorem szNet_s {n : Net} {m : Int} (h1 : Rs G L pieceT n.pieces.v n.pieces.xs) (hd : RsE G L rectT (regs n.pieces.xs)) (hn : m ≤ 1048576) (h0 : 0 ≤ m) (k : ∀ r : Int, r ≤ m → (0 ≤ r → r = m - szOf (regs n.pieces.xs)) → R (vi r) G L) : CallT Try.prog 20 #[vT netT n, vi m] G L R := by
  refine CallT.enter (args := _) Try.func20 rfl rfl (by kernel_rfl) rfl ?_
  refine WP.seq ?_
  refine WP.region ?_
  refine RG.ot rfl (OT.box (cs := netT.enc n) rfl rfl rfl fun b2 => ?_)
  refine RG.pv rfl (PV.mvI (.inr rfl) rfl) ?_
  refine RG.nil ?_
  refine WP.seq ?_
  refine WP.region ?_
  refine RG.pv rfl (PV.field rfl Fo40_0 rfl) ?_
  refine RG.pv rfl (PV.load1 rfl Sc38 rfl (Rd.blk rfl)) ?_
  refine RG.pv rfl (PV.mvI (.inl rfl) rfl) ?_
  refine RG.callF (vs := [_, _]) rfl rfl En50 rfl (szPieceS_s (Rs.up h1) hd.up (by omega) (by omega) (fun r hr hr' => ?_))
  refine RG.pv rfl (PV.mvI (.inr rfl) rfl) ?_
  refine RG.nil ?_
  refine WP.seq ?_
  refine WP.seq ?_
  refine WP.region ?_
  refine RG.pv rfl (PV.mvI (.inl rfl) rfl) ?_
  refine RG.pv rfl (PV.lss rfl rfl rfl) ?_
  refine RG.nil ?_
  refine WP.cond rfl (fun h2 => ?_) (fun h2 => ?_)
  · have h2 := of_decide_eq_true h2
    refine WP.seq ?_
    refine WP.region ?_
    refine RG.pv rfl (PV.mvI (.inr rfl) rfl) ?_
    refine RG.nil ?_
    refine WP.ret ?_
    exact ⟨_, _, ResV.one rfl rfl, Cv.p, k _ (by omega) (fun h => by omega)⟩
  · refine WP.skip ?_
    refine WP.seq ?_
    refine WP.region ?_
    refine RG.pv rfl (PV.mvI (.inl rfl) rfl) ?_
    refine RG.pv rfl (PV.mvI (.inr rfl) rfl) ?_
    refine RG.nil ?_
    refine WP.ret ?_
    exact ⟨_, _, ResV.one rfl rfl, Cv.p, k _ (by omega) hr'⟩

/-! ## comparisons -/
theorem eqPiece_s {p q : Piece} (h1 : Rs G L rectT p.reg.v p.reg.xs) (h2 : Rs G L rectT q.reg.v q.reg.xs) (k : R (.bool (decide (erP p = erP q))) G L) : CallT Try.prog 88 #[vT pieceT p, vT pieceT q] G L R := by
  refine CallT.enter (args := _) Try.func88 rfl rfl (by kernel_rfl) rfl ?_
  refine WP.seq ?_
  refine WP.region ?_
  refine RG.ot rfl (OT.box (cs := pieceT.enc p) rfl rfl rfl fun b2 => ?_)
  refine RG.ot rfl (OT.box (cs := pieceT.enc q) rfl rfl rfl fun b3 => ?_)
  refine RG.pv rfl (PV.mvB (.inr rfl) rfl) ?_
  refine RG.nil ?_
  refine WP.seq ?_
  refine WP.seq ?_
  refine WP.region ?_
  refine RG.pv rfl (PV.field rfl Fo76_0 rfl) ?_
  refine RG.pv rfl (PV.load1 rfl Sc2 rfl (Rd.blk rfl)) ?_
  refine RG.pv rfl (PV.field rfl Fo76_0 rfl) ?_
  refine RG.pv rfl (PV.load1 rfl Sc2 rfl (Rd.blk rfl)) ?_
  refine RG.pv rfl (PV.neq rfl rfl rfl) ?_
  refine RG.nil ?_
  refine WP.cond rfl (fun h3 => ?_) (fun h3 => ?_)
  · have e : decide (erP p = erP q) = false := by
      rw [decide_eq_false_iff_not]; intro h; simp [erP] at h h3; exact h3 h.1
    rw [e] at k
    refine WP.seq ?_
    refine WP.region ?_
    refine RG.pv rfl (PV.mvB (.inr rfl) rfl) ?_
    refine RG.nil ?_
    refine WP.ret ?_
    exact ⟨_, _, ResV.one rfl rfl, Cv.p, k⟩
  · refine WP.skip ?_
    refine WP.seq ?_
    refine WP.seq ?_
    refine WP.region ?_
    refine RG.pv rfl (PV.field rfl Fo76_1 rfl) ?_
    refine RG.pv rfl (PV.load1 rfl Sc52 rfl (Rd.blk rfl)) ?_
    refine RG.pv rfl (PV.field rfl Fo76_1 rfl) ?_
    refine RG.pv rfl (PV.load1 rfl Sc52 rfl (Rd.blk rfl)) ?_
    refine RG.callF (vs := [_, _]) rfl rfl En29 rfl (eqRectS_s (Rs.up h1) (Rs.up h2) ?_)
    refine RG.pv rfl (PV.not rfl rfl) ?_
    refine RG.nil ?_
    refine WP.cond rfl (fun h4 => ?_) (fun h4 => ?_)
    · have e : decide (erP p = erP q) = false := by
        rw [decide_eq_false_iff_not]; intro h; simp [erP] at h h4; exact h4 h.2
      rw [e] at k
      refine WP.seq ?_
      refine WP.region ?_
      refine RG.pv rfl (PV.mvB (.inr rfl) rfl) ?_
      refine RG.nil ?_
      refine WP.ret ?_
      exact ⟨_, _, ResV.one rfl rfl, Cv.p, k⟩
    · have e : decide (erP p = erP q) = true := by
        simp at h3 h4; simp [erP, h3, h4]
      rw [e] at k
      refine WP.skip ?_
      refine WP.seq ?_
      refine WP.region ?_
      refine RG.pv rfl (PV.mvB (.inr rfl) rfl) ?_
      refine RG.nil ?_
      refine WP.ret ?_
      exact ⟨_, _, ResV.one rfl rfl, Cv.p, k⟩
theorem eqPieceS_s {v u : Value} {xs ys : List Piece} (h1 : Rs G L pieceT v xs) (hd : RsE G L rectT (regs xs)) (h2 : Rs G L pieceT u ys) (hd' : RsE G L rectT (regs ys)) (k : R (.bool (decide (erPs xs = erPs ys))) G L) : CallT Try.prog 57 #[v, u] G L R := by
  refine CallT.bd h1 fun hb => ?_
  refine CallT.bd h2 fun hb' => ?_
  refine CallT.enter (args := _) Try.func57 rfl rfl (by kernel_rfl) rfl ?_
  refine WP.seq ?_
  refine WP.region ?_
  refine RG.pv rfl (PV.mvB (.inr rfl) rfl) ?_
  refine RG.nil ?_
  refine WP.seq ?_
  refine WP.seq ?_
  refine WP.region ?_
  refine RG.pv rfl (PV.move (v := v) rfl rfl) ?_
  refine RG.pv rfl (PV.len (v := v) rfl Try.underlying43 rfl (SlF.r h1)) ?_
  refine RG.pv rfl (PV.move (v := u) rfl rfl) ?_
  refine RG.pv rfl (PV.len (v := u) rfl Try.underlying43 rfl (SlF.r h2)) ?_
  refine RG.pv rfl (PV.neq rfl rfl rfl) ?_
  refine RG.nil ?_
  refine WP.cond rfl (fun h3 => ?_) (fun h3 => ?_)
  · have e : decide (erPs xs = erPs ys) = false := by
      rw [decide_eq_false_iff_not]; intro h; have := congrArg List.length h; rw [erPs_len, erPs_len] at this; simp at h3; omega
    rw [e] at k
    refine WP.seq ?_
    refine WP.region ?_
    refine RG.pv rfl (PV.mvB (.inr rfl) rfl) ?_
    refine RG.nil ?_
    refine WP.ret ?_
    exact ⟨_, _, ResV.one rfl rfl, Cv.p, k⟩
  · have hl : xs.length = ys.length := by simp at h3; omega
    refine WP.skip ?_
    refine WP.seq ?_
    refine WP.seq ?_
    refine WP.region ?_
    refine RG.pv rfl (PV.mvI (.inr rfl) rfl) ?_
    refine RG.nil ?_
    refine WP.block ?_
    refine WP.loop1 [0, 1] (fun i => i ≤ xs.length ∧ ∀ j, j < i → erP (gd xs j) = erP (gd ys j)) (fun i => [(5, vi i)]) (fun i => L) (fun i => xs.length - i) 0 ⟨by omega, fun j h => by omega⟩ ⟨rfl, trivial⟩ Cv.p ?_
    rintro i τ ⟨hi, he⟩
    refine WP.seq ?_
    refine WP.seq ?_
    refine WP.region ?_
    refine RG.pv rfl (PV.mvI (.inl rfl) rfl) ?_
    refine RG.pv rfl (PV.move (v := v) rfl rfl) ?_
    refine RG.pv rfl (PV.len (v := v) rfl Try.underlying43 rfl (SlF.r h1)) ?_
    refine RG.pv rfl (PV.lss rfl rfl rfl) ?_
    refine RG.nil ?_
    refine WP.cond rfl (fun h4 => ?_) (fun h4 => ?_)
    · have h4 := of_decide_eq_true h4
      have h5 : i < xs.length := by omega
      refine WP.skip ?_
      refine WP.seq ?_
      refine WP.block ?_
      refine WP.seq ?_
      refine WP.regionQ (by kernel_rfl) (by kernel_rfl) ?_
      refine RQ.pv rfl (PV.move (v := v) rfl rfl) ?_
      refine RQ.pv rfl (PV.mvI (.inl rfl) rfl) ?_
      refine RQ.pv rfl (PV.idxS (v := v) rfl Is43 rfl (SlF.r h1) rfl rfl (by omega)) ?_
      refine RQ.pv rfl (PV.loadE rfl Ag76 rfl rfl (El.r h1 (getG (by omega)))) ?_
      refine RQ.pv rfl (PV.move (v := u) rfl rfl) ?_
      refine RQ.pv rfl (PV.mvI (.inl rfl) rfl) ?_
      refine RQ.pv rfl (PV.idxS (v := u) rfl Is43 rfl (SlF.r h2) rfl rfl (by omega)) ?_
      refine RQ.pv rfl (PV.loadE rfl Ag76 rfl rfl (El.r h2 (getG (by omega)))) ?_
      refine RQ.callF (vs := [_, _]) rfl rfl En88 rfl (eqPiece_s (hd.reg (by omega)).up (hd'.reg (by omega)).up ⟨rfl, rfl, rfl⟩) ?_
      refine RQ.pv rfl (PV.not rfl rfl) ?_
      refine RQ.nil ?_
      refine WP.cond rfl (fun h6 => ?_) (fun h6 => ?_)
      · have e : decide (erPs xs = erPs ys) = false := by
          rw [decide_eq_false_iff_not]; intro h; simp [erPs_get h (i := i) (by omega)] at h6
        rw [e] at k
        refine WP.seq ?_
        refine WP.region ?_
        refine RG.pv rfl (PV.mvB (.inr rfl) rfl) ?_
        refine RG.nil ?_
        refine WP.ret ?_
        exact ⟨_, _, ResV.one rfl rfl, Cv.p, k⟩
      · have e : erP (gd xs i) = erP (gd ys i) := by simpa using h6
        have he' : ∀ j, j < i + 1 → erP (gd xs j) = erP (gd ys j) := fun j h => by
          by_cases c : j = i
          · rw [c, e]
          · exact he j (by omega)
        refine WP.skip ?_
        refine WP.region ?_
        refine RG.pv rfl (PV.mvI (.inl rfl) rfl) ?_
        refine RG.pv rfl (PV.add rfl rfl rfl (by omega)) ?_
        refine RG.pv rfl (PV.mvI (.inr rfl) rfl) ?_
        refine RG.nil ?_
        exact ⟨rfl, i + 1, ⟨by omega, he'⟩, ⟨rfl, trivial⟩, ⟨rfl, rfl, trivial⟩, Cv.p, by omega⟩
    · have h4 := of_decide_eq_false h4
      have e : decide (erPs xs = erPs ys) = true := by
        rw [decide_eq_true_iff]; exact erPs_of hl (fun j hj => he j (by omega))
      rw [e] at k
      refine WP.exit ?_
      refine WP.seq ?_
      refine WP.region ?_
      refine RG.pv rfl (PV.mvB (.inr rfl) rfl) ?_
      refine RG.nil ?_
      refine WP.ret ?_
      exact ⟨_, _, ResV.one rfl rfl, Cv.p, k⟩
theorem eqNet_s {n m : Net} (h1 : Rs G L pieceT n.pieces.v n.pieces.xs) (hd : RsE G L rectT (regs n.pieces.xs)) (h2 : Rs G L pieceT m.pieces.v m.pieces.xs) (hd' : RsE G L rectT (regs m.pieces.xs)) (k : R (.bool (decide (erPs n.pieces.xs = erPs m.pieces.xs))) G L) : CallT Try.prog 24 #[vT netT n, vT netT m] G L R := by
  refine CallT.enter (args := _) Try.func24 rfl rfl (by kernel_rfl) rfl ?_
  refine WP.seq ?_
  refine WP.region ?_
  refine RG.ot rfl (OT.box (cs := netT.enc n) rfl rfl rfl fun b2 => ?_)
  refine RG.ot rfl (OT.box (cs := netT.enc m) rfl rfl rfl fun b3 => ?_)
  refine RG.pv rfl (PV.mvB (.inr rfl) rfl) ?_
  refine RG.nil ?_
  refine WP.seq ?_
  refine WP.seq ?_
  refine WP.region ?_
  refine RG.pv rfl (PV.field rfl Fo45_0 rfl) ?_
  refine RG.pv rfl (PV.load1 rfl Sc43 rfl (Rd.blk rfl)) ?_
  refine RG.pv rfl (PV.field rfl Fo45_0 rfl) ?_
  refine RG.pv rfl (PV.load1 rfl Sc43 rfl (Rd.blk rfl)) ?_
  refine RG.callF (vs := [_, _]) rfl rfl En57 rfl (eqPieceS_s (Rs.up h1) hd.up (Rs.up h2) hd'.up ?_)
  refine RG.pv rfl (PV.not rfl rfl) ?_
  refine RG.nil ?_
  refine WP.cond rfl (fun h3 => ?_) (fun h3 => ?_)
  · have e : decide (erPs n.pieces.xs = erPs m.pieces.xs) = false := by simpa using h3
    rw [e] at k
    refine WP.seq ?_
    refine WP.region ?_
    refine RG.pv rfl (PV.mvB (.inr rfl) rfl) ?_
    refine RG.nil ?_
    refine WP.ret ?_
    exact ⟨_, _, ResV.one rfl rfl, Cv.p, k⟩
  · have e : decide (erPs n.pieces.xs = erPs m.pieces.xs) = true := by simpa using h3
    rw [e] at k
    refine WP.skip ?_
    refine WP.seq ?_
    refine WP.region ?_
    refine RG.pv rfl (PV.mvB (.inr rfl) rfl) ?_
    refine RG.nil ?_
    refine WP.ret ?_
    exact ⟨_, _, ResV.one rfl rfl, Cv.p, k⟩

/-! ## the unit cells of a net -/
def netC (l : List (List Rect)) : Int := bif l.all isReg then costL areaS l else -1
theorem netC_false {l : List (List Rect)} {i : Nat} (h : i < l.length) (e : isReg (gd l i) = false) : netC l = -1 := by
  have : l.all isReg = false := by
    rw [List.all_eq_false]; exact ⟨gd l i, by rw [gd_eq h]; exact List.getElem_mem _, by simp [e]⟩
  simp [netC, this]
theorem netC_all {l : List (List Rect)} (h : ∀ i, i < l.length → isReg (gd l i) = true) : netC l = costL areaS l := by
  have : l.all isReg = true := by
    rw [List.all_eq_true]
    intro x hx
    obtain ⟨j, hj', rfl⟩ := List.getElem_of_mem hx
    rw [← gd_eq hj']; exact h j hj'
  simp [netC, this]
theorem areaS_reg {xs : List Rect} (h : isReg xs = true) : areaS xs = cnt (bits xs) := by
  have := cnt_canon (bits_length xs); rwa [isReg_eq h] at this
theorem area_bnd {l : List (List Rect)} (h : ∀ i, i < l.length → isReg (gd l i) = true) : ∀ i, i ≤ l.length → 0 ≤ costL areaS (l.take i) ∧ costL areaS (l.take i) ≤ 6400 * i
  | 0, _ => by simp [costL]
  | i + 1, hi => by
    have ih := area_bnd h i (by omega)
    have h1 := areaS_reg (h i (by omega))
    have h2 := cnt_le (bits (gd l i))
    rw [bits_length] at h2
    rw [costL_take _ (by omega), h1]; omega
theorem l19Count_s {v : Value} {bs : List Bool} (h1 : Rs G L boolT v bs) (hl : bs.length = 6400) (k : R (vi (cnt bs)) G L) : CallT Try.prog 52 #[v] G L R := by
  refine CallT.enter (args := _) Try.func52 rfl rfl (by kernel_rfl) rfl ?_
  refine WP.seq ?_
  refine WP.region ?_
  refine RG.pv rfl (PV.mvI (.inr rfl) rfl) ?_
  refine RG.nil ?_
  refine WP.seq ?_
  refine WP.region ?_
  refine RG.pv rfl (PV.mvI (.inr rfl) rfl) ?_
  refine RG.nil ?_
  refine WP.seq ?_
  refine WP.seq ?_
  refine WP.region ?_
  refine RG.pv rfl (PV.mvI (.inr rfl) rfl) ?_
  refine RG.nil ?_
  refine WP.block ?_
  refine WP.loop2 [0] (fun (i : Nat) (m : Int) => i ≤ bs.length ∧ m = cnt (bs.take i)) (fun (i : Nat) (m : Int) => [(4, vi i), (3, vi m)]) (fun (i : Nat) (m : Int) => L) (fun (i : Nat) (m : Int) => bs.length - i) 0 0 ⟨by omega, by simp [cnt]⟩ ⟨rfl, rfl, trivial⟩ Cv.p ?_
  rintro i m τ ⟨hi, hm⟩
  refine WP.seq ?_
  refine WP.seq ?_
  refine WP.region ?_
  refine RG.pv rfl (PV.mvI (.inl rfl) rfl) ?_
  refine RG.pv rfl (PV.move (v := v) rfl rfl) ?_
  refine RG.pv rfl (PV.len (v := v) rfl Try.underlying78 rfl (SlF.r h1)) ?_
  refine RG.pv rfl (PV.lss rfl rfl rfl) ?_
  refine RG.nil ?_
  refine WP.cond rfl (fun h2 => ?_) (fun h2 => ?_)
  · have h2 := of_decide_eq_true h2
    have hct := cnt_take (bs := bs) (i := i) (by omega)
    have hcb := cnt_le (bs.take i)
    have hcl : (bs.take i).length ≤ 6400 := by simp; omega
    refine WP.skip ?_
    refine WP.seq ?_
    refine WP.block ?_
    refine WP.seq ?_
    refine WP.region ?_
    refine RG.pv rfl (PV.move (v := v) rfl rfl) ?_
    refine RG.pv rfl (PV.mvI (.inl rfl) rfl) ?_
    refine RG.pv rfl (PV.idxS (v := v) rfl Is78 rfl (SlF.r h1) rfl rfl (by omega)) ?_
    refine RG.pv rfl (PV.loadE1 rfl Sc4 rfl rfl (El.r h1 (getG (by omega))) rfl) ?_
    refine RG.nil ?_
    refine WP.cond rfl (fun h3 => ?_) (fun h3 => ?_)
    · rw [h3] at hct
      refine WP.region ?_
      refine RG.pv rfl (PV.mvI (.inl rfl) rfl) ?_
      refine RG.pv rfl (PV.add rfl rfl rfl (by omega)) ?_
      refine RG.pv rfl (PV.mvI (.inr rfl) rfl) ?_
      refine RG.nil ?_
      refine WP.region ?_
      refine RG.pv rfl (PV.mvI (.inl rfl) rfl) ?_
      refine RG.pv rfl (PV.add rfl rfl rfl (by omega)) ?_
      refine RG.pv rfl (PV.mvI (.inr rfl) rfl) ?_
      refine RG.nil ?_
      exact ⟨rfl, i + 1, _, ⟨by omega, by simp only [cond_true] at hct; omega⟩, ⟨rfl, rfl, trivial⟩, ⟨rfl, trivial⟩, Cv.p, by omega⟩
    · rw [h3] at hct
      refine WP.skip ?_
      refine WP.region ?_
      refine RG.pv rfl (PV.mvI (.inl rfl) rfl) ?_
      refine RG.pv rfl (PV.add rfl rfl rfl (by omega)) ?_
      refine RG.pv rfl (PV.mvI (.inr rfl) rfl) ?_
      refine RG.nil ?_
      exact ⟨rfl, i + 1, _, ⟨by omega, by simp only [cond_false] at hct; omega⟩, ⟨rfl, rfl, trivial⟩, ⟨rfl, trivial⟩, Cv.p, by omega⟩
  · have h2 := of_decide_eq_false h2
    have e : m = cnt bs := by rw [hm, List.take_of_length_le (by omega)]
    rw [← e] at k
    refine WP.exit ?_
    refine WP.seq ?_
    refine WP.region ?_
    refine RG.pv rfl (PV.mvI (.inl rfl) rfl) ?_
    refine RG.pv rfl (PV.mvI (.inr rfl) rfl) ?_
    refine RG.nil ?_
    refine WP.ret ?_
    exact ⟨_, _, ResV.one rfl rfl, Cv.p, k⟩
theorem erregs_gd {xs : List Piece} {i : Nat} (h : i < xs.length) : gd (er (regs xs)) i = (gd xs i).reg.xs := by rw [er_gd, regs_gd h]
theorem netC_s {n : Net} (h1 : Rs G L pieceT n.pieces.v n.pieces.xs) (hd : RsE G L rectT (regs n.pieces.xs)) (hb : n.pieces.xs.length ≤ 1048576) (k : R (vi (netC (er (regs n.pieces.xs)))) G L) : CallT Try.prog 21 #[vT netT n] G L R := by
  have hrl : (er (regs n.pieces.xs)).length = n.pieces.xs.length := by rw [er_len, regs_len]
  refine CallT.enter (args := _) Try.func21 rfl rfl (by kernel_rfl) rfl ?_
  refine WP.seq ?_
  refine WP.region ?_
  refine RG.ot rfl (OT.box (cs := netT.enc n) rfl rfl rfl fun b1 => ?_)
  refine RG.pv rfl (PV.mvI (.inr rfl) rfl) ?_
  refine RG.nil ?_
  refine WP.seq ?_
  refine WP.region ?_
  refine RG.pv rfl (PV.mvI (.inr rfl) rfl) ?_
  refine RG.nil ?_
  refine WP.seq ?_
  refine WP.seq ?_
  refine WP.region ?_
  refine RG.pv rfl (PV.mvI (.inr rfl) rfl) ?_
  refine RG.nil ?_
  refine WP.block ?_
  refine WP.loop2 [1] (fun (i : Nat) (s : Int) => i ≤ n.pieces.xs.length ∧ (∀ j, j < i → isReg (gd n.pieces.xs j).reg.xs = true) ∧ s = costL areaS ((er (regs n.pieces.xs)).take i)) (fun (i : Nat) (s : Int) => [(4, vi i), (3, vi s)]) (fun (i : Nat) (s : Int) => blk b1 45 (netT.enc n) :: L) (fun (i : Nat) (s : Int) => n.pieces.xs.length - i) 0 0 ⟨by omega, fun j h => by omega, by simp [costL]⟩ ⟨rfl, rfl, trivial⟩ Cv.p ?_
  rintro i s τ ⟨hi, hj, hs⟩
  refine WP.seq ?_
  refine WP.seq ?_
  refine WP.region ?_
  refine RG.pv rfl (PV.mvI (.inl rfl) rfl) ?_
  refine RG.pv rfl (PV.field rfl Fo45_0 rfl) ?_
  refine RG.pv rfl (PV.load1 rfl Sc43 rfl (Rd.blk rfl)) ?_
  refine RG.pv rfl (PV.len rfl Try.underlying43 rfl (SlF.r h1)) ?_
  refine RG.pv rfl (PV.lss rfl rfl rfl) ?_
  refine RG.nil ?_
  refine WP.cond rfl (fun h2 => ?_) (fun h2 => ?_)
  · have h2 := of_decide_eq_true h2
    have h3 : i < n.pieces.xs.length := by omega
    refine WP.skip ?_
    refine WP.seq ?_
    refine WP.block ?_
    refine WP.seq ?_
    refine WP.seq ?_
    refine WP.region ?_
    refine RG.pv rfl (PV.field rfl Fo45_0 rfl) ?_
    refine RG.pv rfl (PV.load1 rfl Sc43 rfl (Rd.blk rfl)) ?_
    refine RG.pv rfl (PV.mvI (.inl rfl) rfl) ?_
    refine RG.pv rfl (PV.idxS rfl Is43 rfl (SlF.r h1) rfl rfl (by omega)) ?_
    refine RG.pv rfl (PV.field rfl Fo76_1 rfl) ?_
    refine RG.pv rfl (PV.loadF rfl Sc52 rfl rfl (El.r h1 (getG (by omega))) rfl) ?_
    refine RG.callF (vs := [_]) rfl rfl En51 rfl (l03Ok_s (hd.reg (by omega)).up ?_)
    refine RG.pv rfl (PV.not rfl rfl) ?_
    refine RG.nil ?_
    refine WP.cond rfl (fun h4 => ?_) (fun h4 => ?_)
    · rw [netC_false (i := i) (by omega) (by rw [erregs_gd h3]; simpa using h4)] at k
      refine WP.seq ?_
      refine WP.region ?_
      refine RG.pv rfl (PV.mvI (.inr rfl) rfl) ?_
      refine RG.nil ?_
      refine WP.ret ?_
      exact ⟨_, _, ResV.one rfl rfl, Cv.p, k⟩
    · have h5 : isReg (gd n.pieces.xs i).reg.xs = true := by simpa using h4
      have hj' : ∀ j, j < i + 1 → isReg (gd n.pieces.xs j).reg.xs = true := fun j h => by
        by_cases c : j = i
        · rw [c]; exact h5
        · exact hj j (by omega)
      have hct := costL_take areaS (xs := er (regs n.pieces.xs)) (i := i) (by omega)
      rw [erregs_gd h3, areaS_reg h5] at hct
      have hcb := cnt_le (bits (gd n.pieces.xs i).reg.xs)
      rw [bits_length] at hcb
      have hab : 0 ≤ s ∧ s ≤ 6400 * i := by
        have hlt : ((er (regs n.pieces.xs)).take i).length = i := by rw [List.length_take]; omega
        have := area_bnd (l := (er (regs n.pieces.xs)).take i) (fun j hj2 => by
          rw [hlt] at hj2
          have e : gd ((er (regs n.pieces.xs)).take i) j = gd (er (regs n.pieces.xs)) j := by simp [gd, List.getElem?_take, hj2]
          rw [e, erregs_gd (by omega)]; exact hj j hj2) i (by omega)
        rw [List.take_of_length_le (l := (er (regs n.pieces.xs)).take i) (by omega)] at this
        rw [hs]; exact this
      refine WP.skip ?_
      refine WP.region ?_
      refine RG.pv rfl (PV.mvI (.inl rfl) rfl) ?_
      refine RG.pv rfl (PV.field rfl Fo45_0 rfl) ?_
      refine RG.pv rfl (PV.load1 rfl Sc43 rfl (Rd.blk rfl)) ?_
      refine RG.pv rfl (PV.mvI (.inl rfl) rfl) ?_
      refine RG.pv rfl (PV.idxS rfl Is43 rfl (SlF.r h1) rfl rfl (by omega)) ?_
      refine RG.pv rfl (PV.field rfl Fo76_1 rfl) ?_
      refine RG.pv rfl (PV.loadF rfl Sc52 rfl rfl (El.r h1 (getG (by omega))) rfl) ?_
      refine RG.callF (vs := [_]) rfl rfl En53 rfl (l03Bits_s (Rs.up (hd.reg (by omega))) (fun i hi => valid_get (isReg_valid (by assumption)) hi) (fun v27 => ?_))
      refine RG.callF (vs := [v27]) rfl rfl En52 rfl (l19Count_s Rs.o (bits_length _) ?_)
      refine RG.pv rfl (PV.add rfl rfl rfl (by omega)) ?_
      refine RG.pv rfl (PV.mvI (.inr rfl) rfl) ?_
      refine RG.nil ?_
      refine WP.region ?_
      refine RG.pv rfl (PV.mvI (.inl rfl) rfl) ?_
      refine RG.pv rfl (PV.add rfl rfl rfl (by omega)) ?_
      refine RG.pv rfl (PV.mvI (.inr rfl) rfl) ?_
      refine RG.nil ?_
      exact ⟨rfl, i + 1, _, ⟨by omega, hj', by omega⟩, ⟨rfl, rfl, trivial⟩, ⟨rfl, trivial⟩, Cv.p, by omega⟩
  · have h2 := of_decide_eq_false h2
    have e : netC (er (regs n.pieces.xs)) = s := by
      rw [netC_all (fun i hi2 => by rw [erregs_gd (by omega)]; exact hj i (by omega)), hs, List.take_of_length_le (by omega)]
    rw [e] at k
    refine WP.exit ?_
    refine WP.seq ?_
    refine WP.region ?_
    refine RG.pv rfl (PV.mvI (.inl rfl) rfl) ?_
    refine RG.pv rfl (PV.mvI (.inr rfl) rfl) ?_
    refine RG.nil ?_
    refine WP.ret ?_
    exact ⟨_, _, ResV.one rfl rfl, Cv.p, k⟩
theorem netC_i {n : Net} (h1 : Rs G L pieceT n.pieces.v n.pieces.xs) (hd : RsE G L rectT (regs n.pieces.xs)) (hb : n.pieces.xs.length ≤ 1048576) (k : R (vi (netC (er (regs n.pieces.xs)))) G L) : CallT Try.prog 23 #[vT netT n] G L R := by
  have hrl : (er (regs n.pieces.xs)).length = n.pieces.xs.length := by rw [er_len, regs_len]
  refine CallT.enter (args := _) Try.func23 rfl rfl (by kernel_rfl) rfl ?_
  refine WP.seq ?_
  refine WP.region ?_
  refine RG.ot rfl (OT.box (cs := netT.enc n) rfl rfl rfl fun b1 => ?_)
  refine RG.pv rfl (PV.mvI (.inr rfl) rfl) ?_
  refine RG.nil ?_
  refine WP.seq ?_
  refine WP.region ?_
  refine RG.pv rfl (PV.mvI (.inr rfl) rfl) ?_
  refine RG.nil ?_
  refine WP.seq ?_
  refine WP.seq ?_
  refine WP.region ?_
  refine RG.pv rfl (PV.field rfl Fo45_0 rfl) ?_
  refine RG.pv rfl (PV.load1 rfl Sc43 rfl (Rd.blk rfl)) ?_
  refine RG.pv rfl (PV.len rfl Try.underlying43 rfl (SlF.r h1)) ?_
  refine RG.pv rfl (PV.mvI (.inl rfl) rfl) ?_
  refine RG.nil ?_
  refine WP.block ?_
  refine WP.loop2 [7, 8] (fun (i : Nat) (s : Int) => i ≤ n.pieces.xs.length ∧ (∀ j, j < i → isReg (gd n.pieces.xs j).reg.xs = true) ∧ s = costL areaS ((er (regs n.pieces.xs)).take i)) (fun (i : Nat) (s : Int) => [(9, vi i), (3, vi s)]) (fun (i : Nat) (s : Int) => L) (fun (i : Nat) (s : Int) => n.pieces.xs.length - i) 0 0 ⟨by omega, fun j h => by omega, by simp [costL]⟩ ⟨rfl, rfl, trivial⟩ Cv.p ?_
  rintro i s τ ⟨hi, hj, hs⟩
  refine WP.seq ?_
  refine WP.region ?_
  refine RG.pv rfl (PV.lss rfl rfl rfl) ?_
  refine RG.nil ?_
  refine WP.seq ?_
  refine WP.cond rfl (fun h2 => ?_) (fun h2 => ?_)
  · have h2 := of_decide_eq_true h2
    have h3 : i < n.pieces.xs.length := by omega
    refine WP.skip ?_
    refine WP.seq ?_
    refine WP.block ?_
    refine WP.seq ?_
    refine WP.region ?_
    refine RG.pv rfl (PV.idxS rfl Is43 rfl (SlF.r h1) rfl rfl (by omega)) ?_
    refine RG.pv rfl (PV.loadE rfl Ag76 rfl rfl (El.r h1 (getG (by omega)))) ?_
    refine RG.ot rfl (OT.alloc rfl Zr76 fun b5 => ?_)
    refine RG.ot rfl (OT.storeW rfl Sz76 rfl rfl (Cl.c rfl) rfl rfl (OneC.val rfl (OneC.sl (SlF.r (hd.reg h3)) OneC.nil)) ?_)
    refine RG.nil ?_
    refine WP.seq ?_
    refine WP.seq ?_
    refine WP.region ?_
    refine RG.pv rfl (PV.field rfl Fo76_1 rfl) ?_
    refine RG.pv rfl (PV.load1 rfl Sc52 rfl (Rd.blk rfl)) ?_
    refine RG.callF (vs := [_]) rfl rfl En55 rfl (isRegion_s (hd.reg (by omega)).up ?_)
    refine RG.pv rfl (PV.not rfl rfl) ?_
    refine RG.nil ?_
    refine WP.cond rfl (fun h4 => ?_) (fun h4 => ?_)
    · rw [netC_false (i := i) (by omega) (by rw [erregs_gd h3]; simpa using h4)] at k
      refine WP.seq ?_
      refine WP.region ?_
      refine RG.pv rfl (PV.mvI (.inr rfl) rfl) ?_
      refine RG.nil ?_
      refine WP.ret ?_
      exact ⟨_, _, ResV.one rfl rfl, Cv.p, k⟩
    · have h5 : isReg (gd n.pieces.xs i).reg.xs = true := by simpa using h4
      have hj' : ∀ j, j < i + 1 → isReg (gd n.pieces.xs j).reg.xs = true := fun j h => by
        by_cases c : j = i
        · rw [c]; exact h5
        · exact hj j (by omega)
      have hct := costL_take areaS (xs := er (regs n.pieces.xs)) (i := i) (by omega)
      rw [erregs_gd h3] at hct
      have hcb := cnt_le (bits (gd n.pieces.xs i).reg.xs)
      rw [bits_length, ← areaS_reg h5] at hcb
      have hab : 0 ≤ s ∧ s ≤ 6400 * i := by
        have hlt : ((er (regs n.pieces.xs)).take i).length = i := by rw [List.length_take]; omega
        have := area_bnd (l := (er (regs n.pieces.xs)).take i) (fun j hj2 => by
          rw [hlt] at hj2
          have e : gd ((er (regs n.pieces.xs)).take i) j = gd (er (regs n.pieces.xs)) j := by simp [gd, List.getElem?_take, hj2]
          rw [e, erregs_gd (by omega)]; exact hj j hj2) i (by omega)
        rw [List.take_of_length_le (l := (er (regs n.pieces.xs)).take i) (by omega)] at this
        rw [hs]; exact this
      refine WP.skip ?_
      refine WP.region ?_
      refine RG.pv rfl (PV.mvI (.inl rfl) rfl) ?_
      refine RG.pv rfl (PV.field rfl Fo76_1 rfl) ?_
      refine RG.pv rfl (PV.load1 rfl Sc52 rfl (Rd.blk rfl)) ?_
      refine RG.callF (vs := [_]) rfl rfl En56 rfl (regionArea_s (hd.reg (by omega)).up (isReg_valid (by assumption)) ?_)
      refine RG.pv rfl (PV.add rfl rfl rfl (by omega)) ?_
      refine RG.pv rfl (PV.mvI (.inr rfl) rfl) ?_
      refine RG.nil ?_
      refine WP.region ?_
      refine RG.pv rfl (PV.add rfl rfl rfl (by omega)) ?_
      refine RG.pv rfl (PV.mvI (.inl rfl) rfl) ?_
      refine RG.nil ?_
      exact ⟨rfl, i + 1, _, ⟨by omega, hj', by omega⟩, ⟨rfl, rfl, trivial⟩, ⟨rfl, rfl, trivial⟩, Cv.p, by omega⟩
  · have h2 := of_decide_eq_false h2
    have e : netC (er (regs n.pieces.xs)) = s := by
      rw [netC_all (fun i hi2 => by rw [erregs_gd (by omega)]; exact hj i (by omega)), hs, List.take_of_length_le (by omega)]
    rw [e] at k
    refine WP.exit ?_
    refine WP.seq ?_
    refine WP.region ?_
    refine RG.pv rfl (PV.mvI (.inl rfl) rfl) ?_
    refine RG.pv rfl (PV.mvI (.inr rfl) rfl) ?_
    refine RG.nil ?_
    refine WP.ret ?_
    exact ⟨_, _, ResV.one rfl rfl, Cv.p, k⟩
theorem law_NetCells {n : Net} (h1 : Rs G L pieceT n.pieces.v n.pieces.xs) (hd : RsE G L rectT (regs n.pieces.xs)) (k : R (.bool true) G L) : CallT Try.prog 5 #[vT netT n] G L R := by
  have hrl := regs_len n.pieces.xs
  refine CallT.enter (args := _) Try.func5 rfl rfl (by kernel_rfl) rfl ?_
  refine WP.seq ?_
  refine WP.region ?_
  refine RG.ot rfl (OT.box (cs := netT.enc n) rfl rfl rfl fun b1 => ?_)
  refine RG.pv rfl (PV.mvB (.inr rfl) rfl) ?_
  refine RG.nil ?_
  refine WP.seq ?_
  refine WP.region ?_
  refine RG.pv rfl (PV.mvI (.inr rfl) rfl) ?_
  refine RG.nil ?_
  refine WP.seq ?_
  refine WP.region ?_
  refine RG.pv rfl (PV.loadW rfl Ag40 rfl rfl) ?_
  refine RG.pv rfl (PV.mvI (.inl rfl) rfl) ?_
  refine RG.callF (vs := [_, _]) rfl rfl En20 rfl (szNet_s (Rs.up h1) hd.up (by omega) (by omega) (fun r hr hr' => ?_))
  refine RG.pv rfl (PV.mvI (.inr rfl) rfl) ?_
  refine RG.nil ?_
  refine WP.seq ?_
  refine WP.seq ?_
  refine WP.region ?_
  refine RG.pv rfl (PV.mvI (.inl rfl) rfl) ?_
  refine RG.pv rfl (PV.lss rfl rfl rfl) ?_
  refine RG.nil ?_
  refine WP.cond rfl (fun h2 => ?_) (fun h2 => ?_)
  · refine WP.seq ?_
    refine WP.region ?_
    refine RG.pv rfl (PV.mvB (.inr rfl) rfl) ?_
    refine RG.nil ?_
    refine WP.ret ?_
    exact ⟨_, _, ResV.one rfl rfl, Cv.p, k⟩
  · have h2 := of_decide_eq_false h2
    have hsz : szOf (regs n.pieces.xs) ≤ 1048576 := by have := hr' (by omega); omega
    have hc0 : 0 ≤ costL lenS (regs n.pieces.xs) := costL_nonneg lenS_nn _
    have hb : n.pieces.xs.length ≤ 1048576 := by simp only [szOf] at hsz; omega
    have hbi : ∀ i, i < n.pieces.xs.length → (gd n.pieces.xs i).reg.xs.length ≤ 1048576 := fun i hi => by
      have := costL_mem lenS_nn (xs := regs n.pieces.xs) (i := i) (by omega)
      rw [regs_gd hi] at this; simp only [lenS, szOf] at *; omega
    have hlw : ∀ ys : List Piece, erPs ys = erPs n.pieces.xs → ys.length ≤ 1048576 := fun ys h => by
      have := congrArg List.length h; rw [erPs_len, erPs_len] at this; omega
    have hnw : ∀ ys : List Piece, erPs ys = erPs n.pieces.xs → netC (er (regs ys)) = netC (er (regs n.pieces.xs)) := fun ys h => by rw [erPs_regs h]
    refine WP.skip ?_
    refine WP.seq ?_
    refine WP.region ?_
    refine RG.pv rfl (PV.loadW rfl Ag40 rfl rfl) ?_
    refine RG.callF (vs := [_]) rfl rfl En22 rfl (toNet_s (Rs.up h1) hd.up hb hbi (fun w13 ysw13 hew13 => ?_))
    refine RG.callF (vs := [_]) rfl rfl En21 rfl (netC_s Rs.o RsE.o (hlw _ hew13) ?_)
    refine RG.pv rfl (PV.mvI (.inr rfl) rfl) ?_
    refine RG.nil ?_
    refine WP.seq ?_
    refine WP.region ?_
    refine RG.pv rfl (PV.loadW rfl Ag40 rfl rfl) ?_
    refine RG.callF (vs := [_]) rfl rfl En22 rfl (toNet_s (Rs.up h1) hd.up hb hbi (fun w16 ysw16 hew16 => ?_))
    refine RG.ot rfl (OT.alloc rfl Zr45 fun b5 => ?_)
    refine RG.ot rfl (OT.storeW rfl Sz45 rfl rfl (Cl.c rfl) rfl rfl (OneC.sl SlF.o OneC.nil) ?_)
    refine RG.nil ?_
    refine WP.seq ?_
    refine WP.region ?_
    refine RG.pv rfl (PV.loadW rfl Ag45 rfl rfl) ?_
    refine RG.callF (vs := [_]) rfl rfl En23 rfl (netC_i Rs.o RsE.o (hlw _ hew16) ?_)
    refine RG.pv rfl (PV.mvI (.inr rfl) rfl) ?_
    refine RG.nil ?_
    refine WP.seq ?_
    refine WP.seq ?_
    refine WP.region ?_
    refine RG.pv rfl (PV.mvI (.inl rfl) rfl) ?_
    refine RG.pv rfl (PV.mvI (.inl rfl) rfl) ?_
    refine RG.pv rfl (PV.neq rfl rfl rfl) ?_
    refine RG.nil ?_
    refine WP.cond rfl (fun h3 => ?_) (fun h3 => ?_)
    · simp [hnw _ hew13, hnw _ hew16] at h3
    · refine WP.skip ?_
      refine WP.seq ?_
      refine WP.seq ?_
      refine WP.regionH0 (.q 0 (.q 1 (.l 2 (.l 3 (.q 4 Sch.nil))))) (by kernel_rfl) (by kernel_rfl) (by kernel_rfl) rfl ?_
      refine RH.pv rfl (fun _ _ _ _ h => h) (Gh.le_refl _) PickC.pick rfl (PV.loadW rfl Ag45 rfl rfl) ?_
      refine RH.pv rfl (fun _ _ _ _ h => h) (Gh.le_refl _) PickC.pick rfl (PV.loadW rfl Ag40 rfl rfl) ?_
      refine RH.ot rfl rfl (OT.callF (vs := [_]) rfl En22 rfl (toNet_s (Rs.up h1) hd.up hb hbi (fun w24 ysw24 hew24 => ⟨Gh.le_refl _, PickC.pick, ?_⟩)))
      refine RH.ot rfl rfl (OT.callF (vs := [_, _]) rfl En24 rfl (eqNet_s Rs.o RsE.o Rs.o RsE.o ⟨Gh.le_refl _, PickC.pick, ?_⟩))
      refine RH.pv rfl (fun _ _ _ _ h => h) (Gh.le_refl _) PickC.pick rfl (PV.not rfl rfl) ?_
      refine RH.nil ?_
      refine WP.cond rfl (fun h4 => ?_) (fun h4 => ?_)
      · simp [*] at h4
      · refine WP.skip ?_
        refine WP.seq ?_
        refine WP.region ?_
        refine RG.pv rfl (PV.mvB (.inr rfl) rfl) ?_
        refine RG.nil ?_
        refine WP.ret ?_
        exact ⟨_, _, ResV.one rfl rfl, Cv.p, k⟩
end Go.Proofs.Ytblccfeodidhbaa
