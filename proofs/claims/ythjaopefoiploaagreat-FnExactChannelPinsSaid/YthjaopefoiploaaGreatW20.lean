/-
  Contracts: the pieces of a layout.
-/
import Derived.Test.YthjaopefoiploaaGreatW19
import Derived.Test.YthjaopefoiploaaGreatW9
import Derived.Test.YthjaopefoiploaaGreatW10
namespace Go.Proofs.YthjaopefoiploaaGreat
open Go
set_option maxRecDepth 20000
set_option linter.unusedSimpArgs false
variable {G : Gh} {L : List Ch} {R : Value → Gh → List Ch → Prop}
/-- the pieces of the first n conductors: each with its layer -/
noncomputable def pcL (l : List (List Rect)) (n : Nat) : List (Int × List Bool) := ((List.range n).map fun i => (comps (gd (condB l) i)).map fun c => (gd [0, 1, 3, 5] i, c)).flatten
theorem pcL_succ (l : List (List Rect)) (n : Nat) : pcL l (n + 1) = pcL l n ++ (comps (gd (condB l) n)).map fun c => (gd [0, 1, 3, 5] n, c) := by
  simp [pcL, List.range_succ]
theorem comps_len (S : List Bool) : (comps S).length ≤ 6400 := by
  have := firsts_len S 6400
  simpa [comps] using this
theorem pcL_len (l : List (List Rect)) : ∀ n, (pcL l n).length ≤ 6400 * n
  | 0 => by simp [pcL]
  | n + 1 => by
    have h1 := pcL_len l n
    have h2 := comps_len (gd (condB l) n)
    rw [pcL_succ, List.length_append, List.length_map]; omega
def pcR (p : Int × List Bool) : Int × List Rect := (p.1, canon p.2)
theorem regs_append (xs ys : List Piece) : regs (xs ++ ys) = regs xs ++ regs ys := by simp [regs]
theorem drop_gd {α : Type} [Inhabited α] {xs : List α} {i : Nat} (h : i < xs.length) : xs.drop i = gd xs i :: xs.drop (i + 1) := by rw [List.drop_eq_getElem_cons h, gd_eq h]
theorem gd_app_at {α : Type} [Inhabited α] {xs ys : List α} {i : Nat} : gd (xs ++ ys) (xs.length + i) = gd ys i := by simp [gd, List.getElem?_append_right]
/-- a list whose parts lie at the end of a bag -/
theorem RsE.right {α : Type} {G : Gh} {L L' : List Ch} {e : TypeId} {F : FT α} {ws xs : List (Sl α)} [hX : ExBg (ws ++ xs) L e F L'] : RsE G L F xs := fun i hi => by
  have := Rs.inBag (G := G) (L := L) (L' := L') (e := e) (F := F) (xs := ws ++ xs) (ws.length + i) (by simp; omega)
  rwa [gd_app_at] at this
theorem Rs.inRight {α : Type} {G : Gh} {L L' : List Ch} {e : TypeId} {F : FT α} {ws xs : List (Sl α)} (j : Nat) (hj : j < xs.length) [hX : ExBg (ws ++ xs) L e F L'] : Rs G L F (gd xs j).v (gd xs j).xs := RsE.right (L := L) (L' := L') (e := e) (ws := ws) j hj
theorem WP.sl {α : Type} {P : Program} {n : Nat} {c : Code} {Q : Post} {σ : Nat → Value} {G : Gh} {L : List Ch} {F : FT α} {v : Value} {xs : List α} (h : Rs G L F v xs) (k : IsSl v xs.length → WP P n c Q σ G L) : WP P n c Q σ G L := WP.of fun hk _ _ ha hs => (k (h _ hs).1).run hk ha hs
theorem SlF.i {G : Gh} {L : List Ch} {v : Value} {m : Nat} (h : IsSl v m) : SlF G L v m := fun _ _ => h
theorem Cv.pre {L L' : List Ch} (h : Cv L L') : ∀ A : List Ch, Cv (A ++ L) (A ++ L')
  | [] => h
  | _ :: A => Cv.cons (Cv.pre h A)
theorem Cv.bagJoin {α : Type} {e : TypeId} {F : FT α} {xs ys : List (Sl α)} {L : List Ch} : Cv (bagS e F xs :: bagS e F ys :: L) (bagS e F (xs ++ ys) :: L) := by
  unfold bagS
  refine Cv.ofBag.trans ((Cv.pre Cv.ofBag _).trans ?_)
  rw [← List.append_assoc, ← List.map_append]
  exact Cv.toBag
def mkP (n : Int) (s : Sl Rect) : Piece := ⟨n, s⟩
theorem regs_mkP (n : Int) (zs : List (Sl Rect)) : regs (zs.map (mkP n)) = zs := by simp [regs, mkP, Function.comp_def]
theorem pieces_s {v : Value} {xs : List (Sl Rect)} (h1 : Rs G L slT v xs) (hd : RsE G L rectT xs) (hlay : isLay (er xs) = true) (k : ∀ v' ps, erPs ps = (pcL (er xs) 4).map pcR → R v' G (osl 132 pieceT v' ps :: bagS 59 rectT (regs ps) :: L)) : CallT Tryz.prog 132 #[v] G L R := by
  have h8 : xs.length = 8 := by have := isLay_len hlay; rwa [er_len] at this
  have hreg : ∀ i, i < 8 → isReg (gd xs i).xs = true := fun i hi => by rw [← er_gd]; exact isLay_reg hlay hi
  refine CallT.enter (args := _) Tryz.func132 rfl rfl (by kernel_rfl) rfl ?_
  refine WP.seq ?_
  refine WP.region ?_
  refine RG.pv rfl (PV.asg rfl rfl) ?_
  refine RG.nil ?_
  refine WP.seq ?_
  refine WP.region ?_
  refine RG.ot rfl (OT.bslice (F := pieceT) (els := []) rfl El127 rfl (by decide) rfl (by decide) trivial fun v9 => ?_)
  refine RG.ot rfl (OT.bslice (F := intT) (els := [_, _, _, _]) rfl El35 rfl (by decide) rfl (by decide) ⟨rfl, (Cl.c rfl), ⟨rfl, (Cl.c rfl), ⟨rfl, (Cl.c rfl), ⟨rfl, (Cl.c rfl), trivial⟩⟩⟩⟩ fun v10 => ?_)
  refine RG.pv rfl (PV.asg (v := v9) rfl rfl) ?_
  refine RG.pv rfl (PV.asg (v := v10) rfl rfl) ?_
  refine RG.nil ?_
  refine WP.seq ?_
  refine WP.seq ?_
  refine WP.region ?_
  refine RG.pv rfl (PV.move (v := v) rfl rfl) ?_
  refine RG.callF (vs := [v]) rfl rfl En125 rfl (conductors_s (Rs.up h1) hd.up h8 (fun i hi => by have := isReg_len (hreg i hi); omega) (fun v12 ysv12 hev12 => ?_))
  refine RG.pv rfl (PV.len (v := v12) rfl Tryz.underlying27 rfl SlF.o) ?_
  refine RG.pv rfl (PV.mvI (.inl rfl) rfl) ?_
  refine RG.nil ?_
  refine WP.block ?_
  have hcy : er ysv12 = (condB (er xs)).map canon := by
    rw [hev12, ← er_gd, ← er_gd, ← er_gd, ← er_gd, ← condR_eq hlay, condR, hlay]; rfl
  have hy4 : ysv12.length = 4 := by have := congrArg List.length hcy; rw [er_len] at this; exact this
  refine WP.cv ((Cv.p (C := osl 132 pieceT v9 ([] : List Piece) :: osl 2 intT v10 [0, 1, 3, 5] :: osl 66 slT v12 ysv12 :: bagS 59 rectT ysv12 :: L)).trans (Cv.cons (Cv.bag0 (e := 59) (F := rectT) (xs := regs []) rfl))) ?_
  refine WP.loop3 [4, 12, 13] (fun (i : Nat) (ps : List Piece) (q : Value) => i ≤ 4 ∧ erPs ps = (pcL (er xs) i).map pcR) (fun (i : Nat) (ps : List Piece) (q : Value) => [(14, vi i), (3, q)]) (fun (i : Nat) (ps : List Piece) (q : Value) => osl 132 pieceT q ps :: bagS 59 rectT (regs ps) :: osl 2 intT v10 [0, 1, 3, 5] :: osl 66 slT v12 ysv12 :: bagS 59 rectT ysv12 :: L) (fun (i : Nat) (ps : List Piece) (q : Value) => 4 - i) 0 [] v9 ⟨by omega, rfl⟩ ⟨rfl, rfl, trivial⟩ Cv.p ?_
  rintro i ps q τ ⟨hi, hps⟩
  refine WP.seq ?_
  refine WP.region ?_
  refine RG.pv rfl (PV.lss rfl rfl rfl) ?_
  refine RG.nil ?_
  refine WP.seq ?_
  have hpl : ps.length ≤ 6400 * 4 := by
    have := congrArg List.length hps
    have h2 := pcL_len (er xs) i
    rw [erPs_len, List.length_map] at this; omega
  refine WP.cond rfl (fun h2 => ?_) (fun h2 => ?_)
  · have h2 := of_decide_eq_true h2
    have hi4 : i < 4 := by omega
    refine WP.skip ?_
    refine WP.seq ?_
    refine WP.block ?_
    refine WP.seq ?_
    refine WP.region ?_
    refine RG.pv rfl (PV.mvI (.inl rfl) rfl) ?_
    refine RG.pv rfl (PV.idxS (v := v12) rfl Is27 rfl SlF.o rfl rfl (by omega)) ?_
    refine RG.pv rfl (PV.loadE1 rfl Sc66 rfl rfl (El.o (getG (by omega))) rfl) ?_
    refine RG.pv rfl (PV.mvI (.inr rfl) rfl) ?_
    refine RG.pv rfl (PV.asg rfl rfl) ?_
    refine RG.nil ?_
    refine WP.seq ?_
    refine WP.region ?_
    refine RG.pv rfl (PV.move rfl rfl) ?_
    refine RG.callF (vs := [_]) rfl rfl En126 rfl (components_s (Rs.inBag (xs := ysv12) i (by omega)) (fun v20 zs hz => ?_))
    refine RG.pv rfl (PV.len (v := v20) rfl Tryz.underlying27 rfl SlF.o) ?_
    refine RG.pv rfl (PV.mvI (.inl rfl) rfl) ?_
    refine RG.nil ?_
    refine WP.block ?_
    have hzl := parts_len hz
    have hcz : er zs = (comps (gd (condB (er xs)) i)).map canon := by
      rw [hz, ← er_gd, hcy, gd_map _ (by simp [condB]; omega), bits_canon (condB_len _ hi4)]; rfl
    refine WP.cv ((Cv.p (C := bagS 59 rectT (regs ps) :: bagS 59 rectT zs :: osl 132 pieceT q ps :: osl 66 slT v20 zs :: osl 2 intT v10 [0, 1, 3, 5] :: osl 66 slT v12 ysv12 :: bagS 59 rectT ysv12 :: L)).trans (Cv.bagJoin.trans ((Cv.p (C := osl 132 pieceT q ps :: bagS 59 rectT (regs ps ++ zs) :: osl 66 slT v20 zs :: osl 2 intT v10 [0, 1, 3, 5] :: osl 66 slT v12 ysv12 :: bagS 59 rectT ysv12 :: L)).trans (Cv.cast (L' := osl 132 pieceT q (ps ++ (zs.take 0).map (mkP (gd [0, 1, 3, 5] i))) :: bagS 59 rectT (regs ps ++ zs) :: osl 66 slT v20 zs :: osl 2 intT v10 [0, 1, 3, 5] :: osl 66 slT v12 ysv12 :: bagS 59 rectT ysv12 :: L) (by simp))))) ?_
    refine WP.loop2 [4, 5, 12, 13, 14, 20, 21] (fun (j : Nat) (q1 : Value) => j ≤ zs.length) (fun (j : Nat) (q1 : Value) => [(22, vi j), (3, q1)]) (fun (j : Nat) (q1 : Value) => osl 132 pieceT q1 (ps ++ (zs.take j).map (mkP (gd [0, 1, 3, 5] i))) :: bagS 59 rectT (regs ps ++ zs) :: osl 66 slT v20 zs :: osl 2 intT v10 [0, 1, 3, 5] :: osl 66 slT v12 ysv12 :: bagS 59 rectT ysv12 :: L) (fun (j : Nat) (q1 : Value) => zs.length - j) 0 q (by omega) ⟨rfl, rfl, trivial⟩ Cv.p ?_
    rintro j q1 τ1 hj
    refine WP.seq ?_
    refine WP.region ?_
    refine RG.pv rfl (PV.lss rfl rfl rfl) ?_
    refine RG.nil ?_
    refine WP.seq ?_
    have hlt : (ps ++ (zs.take j).map (mkP (gd [0, 1, 3, 5] i))).length = ps.length + j := by simp; omega
    refine WP.cond rfl (fun h3 => ?_) (fun h3 => ?_)
    · have h3 := of_decide_eq_true h3
      have hn4 : ([0, 1, 3, 5] : List Int).length = 4 := rfl
      refine WP.sl (Rs.inRight (ws := regs ps) (xs := zs) j (by omega)) fun hI => ?_
      refine WP.skip ?_
      refine WP.seq ?_
      refine WP.block ?_
      refine WP.seq ?_
      refine WP.region ?_
      refine RG.pv rfl (PV.idxS (v := v20) rfl Is27 rfl SlF.o rfl rfl (by omega)) ?_
      refine RG.pv rfl (PV.loadE1 rfl Sc66 rfl rfl (El.o (getG (by omega))) rfl) ?_
      refine RG.pv rfl (PV.asg rfl rfl) ?_
      refine RG.nil ?_
      refine WP.region ?_
      refine RG.pv rfl (PV.move (v := q1) rfl rfl) ?_
      refine RG.pv rfl (PV.move (v := v10) rfl rfl) ?_
      refine RG.pv rfl (PV.mvI (.inl rfl) rfl) ?_
      refine RG.pv rfl (PV.idxS (v := v10) rfl Is35 rfl SlF.o rfl rfl (by omega)) ?_
      refine RG.pv rfl (PV.loadE1 rfl Sc2 rfl rfl (El.o (getG (by omega))) rfl) ?_
      refine RG.pv rfl (PV.move rfl rfl) ?_
      refine RG.pv rfl (PV.build (vs := [(0, [vi _]), (1, [_])]) (out := [_, _]) rfl Zr132 Pl132 ⟨rfl, (Cl.c rfl), ⟨rfl, (Cl.s (SlF.i hI)), trivial⟩⟩ rfl) ?_
      refine RG.ot rfl (OT.bslice (F := pieceT) (els := [⟨gd [0, 1, 3, 5] i, gd zs j⟩]) rfl El127 rfl (by decide) rfl (by decide) ⟨rfl, (Cl.c rfl), trivial⟩ fun v33 => ?_)
      refine RG.ot rfl (OT.append (v := q1) (u := v33) (F := pieceT) rfl El127 rfl (by decide) rfl rfl Rs.o (OneL.one (OneC.val rfl (OneC.sl (SlF.i hI) OneC.nil))) rfl (by first | omega | (simp <;> omega)) fun v34 => ?_)
      refine RG.pv rfl (PV.asg (v := v34) rfl rfl) ?_
      refine RG.nil ?_
      refine WP.region ?_
      refine RG.pv rfl (PV.add rfl rfl rfl (by omega)) ?_
      refine RG.pv rfl (PV.mvI (.inl rfl) rfl) ?_
      refine RG.nil ?_
      exact ⟨rfl, j + 1, v34, (by omega), ⟨rfl, rfl, trivial⟩, ⟨rfl, rfl, rfl, rfl, rfl, rfl, rfl, trivial⟩, (Cv.p (C := osl 132 pieceT v34 (ps ++ (zs.take j).map (mkP (gd [0, 1, 3, 5] i)) ++ [⟨gd [0, 1, 3, 5] i, gd zs j⟩]) :: bagS 59 rectT (regs ps ++ zs) :: osl 66 slT v20 zs :: osl 2 intT v10 [0, 1, 3, 5] :: osl 66 slT v12 ysv12 :: bagS 59 rectT ysv12 :: L)).trans (Cv.cast (by rw [List.take_add_one, getG (by omega), List.map_append, List.append_assoc]; rfl)), by omega⟩
    · have h3 := of_decide_eq_false h3
      obtain rfl : j = zs.length := by omega
      refine WP.exit ?_
      refine WP.region ?_
      refine RG.pv rfl (PV.add rfl rfl rfl (by omega)) ?_
      refine RG.pv rfl (PV.mvI (.inl rfl) rfl) ?_
      refine RG.nil ?_
      refine ⟨rfl, i + 1, (ps ++ zs.map (mkP (gd [0, 1, 3, 5] i))), q1, ⟨by omega, ?_⟩, ⟨rfl, rfl, trivial⟩, ⟨rfl, rfl, rfl, trivial⟩, (Cv.p (C := osl 132 pieceT q1 (ps ++ (zs.take zs.length).map (mkP (gd [0, 1, 3, 5] i))) :: bagS 59 rectT (regs ps ++ zs) :: osl 2 intT v10 [0, 1, 3, 5] :: osl 66 slT v12 ysv12 :: bagS 59 rectT ysv12 :: L)).trans (Cv.cast (by rw [List.take_length, regs_append, regs_mkP])), by omega⟩
      rw [pcL_succ, List.map_append, ← hps, erPs, List.map_append]
      congr 1
      have e : ∀ zs : List (Sl Rect), (zs.map (mkP (gd [0, 1, 3, 5] i))).map erP = (er zs).map fun r => (gd [0, 1, 3, 5] i, r) := fun zs => by simp [er, erP, mkP, Function.comp_def]
      rw [e, hcz, List.map_map, List.map_map]; rfl
  · have h2 := of_decide_eq_false h2
    obtain rfl : i = 4 := by omega
    refine WP.exit ?_
    refine WP.seq ?_
    refine WP.region ?_
    refine RG.pv rfl (PV.move (v := q) rfl rfl) ?_
    refine RG.pv rfl (PV.asg (v := q) rfl rfl) ?_
    refine RG.nil ?_
    refine WP.ret ?_
    exact ⟨_, _, ResV.one rfl rfl, Cv.p, k q ps hps⟩
/-! ## the reference -/
def cels (xs : List Part) : List (Sl Bool) := xs.map Part.cells
theorem cels_append (xs ys : List Part) : cels (xs ++ ys) = cels xs ++ cels ys := by simp [cels]
def erC (p : Part) : Int × List Bool := (p.layer, p.cells.xs)
def mkC (n : Int) (s : Sl Bool) : Part := ⟨n, s⟩
theorem cels_mkC (n : Int) (zs : List (Sl Bool)) : cels (zs.map (mkC n)) = zs := by simp [cels, mkC, Function.comp_def]
theorem l23Layers_s (k : ∀ v, R v G (osl 2 intT v [0, 1, 3, 5] :: L)) : CallT Tryz.prog 100 #[] G L R := by
  refine CallT.enter (args := _) Tryz.func100 rfl rfl (by kernel_rfl) rfl ?_
  refine WP.seq ?_
  refine WP.region ?_
  refine RG.pv rfl (PV.asg rfl rfl) ?_
  refine RG.nil ?_
  refine WP.seq ?_
  refine WP.region ?_
  refine RG.ot rfl (OT.bslice (F := intT) (els := [_, _, _, _]) rfl El35 rfl (by decide) rfl (by decide) ⟨rfl, (Cl.c rfl), ⟨rfl, (Cl.c rfl), ⟨rfl, (Cl.c rfl), ⟨rfl, (Cl.c rfl), trivial⟩⟩⟩⟩ fun v1 => ?_)
  refine RG.pv rfl (PV.asg (v := v1) rfl rfl) ?_
  refine RG.nil ?_
  refine WP.ret ?_
  exact ⟨_, _, ResV.one rfl rfl, Cv.p, k v1⟩
theorem l23Parts_s {v : Value} {xs : List (Sl Rect)} (h1 : Rs G L slT v xs) (hd : RsE G L rectT xs) (hlay : isLay (er xs) = true) (k : ∀ v' ps, ps.map erC = pcL (er xs) 4 → R v' G (osl 145 partT v' ps :: bagS 4 boolT (cels ps) :: L)) : CallT Tryz.prog 59 #[v] G L R := by
  have h8 : xs.length = 8 := by have := isLay_len hlay; rwa [er_len] at this
  have hreg : ∀ i, i < 8 → isReg (gd xs i).xs = true := fun i hi => by rw [← er_gd]; exact isLay_reg hlay hi
  refine CallT.enter (args := _) Tryz.func59 rfl rfl (by kernel_rfl) rfl ?_
  refine WP.seq ?_
  refine WP.region ?_
  refine RG.pv rfl (PV.asg rfl rfl) ?_
  refine RG.nil ?_
  refine WP.seq ?_
  refine WP.region ?_
  refine RG.ot rfl (OT.bslice (F := partT) (els := []) rfl El91 rfl (by decide) rfl (by decide) trivial fun v8 => ?_)
  refine RG.pv rfl (PV.asg (v := v8) rfl rfl) ?_
  refine RG.nil ?_
  refine WP.seq ?_
  refine WP.region ?_
  refine RG.pv rfl (PV.move (v := v) rfl rfl) ?_
  refine RG.callF (vs := [v]) rfl rfl En98 rfl (l23Conductors_s (Rs.up h1) hd.up h8 hreg (fun v10 zsv10 hev10 => ?_))
  refine RG.pv rfl (PV.asg (v := v10) rfl rfl) ?_
  refine RG.nil ?_
  refine WP.seq ?_
  refine WP.seq ?_
  refine WP.region ?_
  refine RG.pv rfl (PV.mvI (.inr rfl) rfl) ?_
  refine RG.nil ?_
  refine WP.block ?_
  have hy4 : zsv10.length = 4 := by have := congrArg List.length hev10; rw [er_len] at this; exact this
  refine WP.cv ((Cv.p (C := osl 145 partT v8 ([] : List Part) :: osl 142 slT v10 zsv10 :: bagS 4 boolT zsv10 :: L)).trans (Cv.cons (Cv.bag0 (e := 4) (F := boolT) (xs := cels []) rfl))) ?_
  refine WP.loop3 [4] (fun (i : Nat) (ps : List Part) (q : Value) => i ≤ 4 ∧ ps.map erC = pcL (er xs) i) (fun (i : Nat) (ps : List Part) (q : Value) => [(5, vi i), (3, q)]) (fun (i : Nat) (ps : List Part) (q : Value) => osl 145 partT q ps :: bagS 4 boolT (cels ps) :: osl 142 slT v10 zsv10 :: bagS 4 boolT zsv10 :: L) (fun (i : Nat) (ps : List Part) (q : Value) => 4 - i) 0 [] v8 ⟨by omega, rfl⟩ ⟨rfl, rfl, trivial⟩ Cv.p ?_
  rintro i ps q τ ⟨hi, hps⟩
  refine WP.seq ?_
  refine WP.seq ?_
  refine WP.region ?_
  refine RG.pv rfl (PV.mvI (.inl rfl) rfl) ?_
  refine RG.pv rfl (PV.move (v := v10) rfl rfl) ?_
  refine RG.pv rfl (PV.len (v := v10) rfl Tryz.underlying139 rfl SlF.o) ?_
  refine RG.pv rfl (PV.lss rfl rfl rfl) ?_
  refine RG.nil ?_
  have hpl : ps.length ≤ 6400 * 4 := by
    have := congrArg List.length hps
    have h2 := pcL_len (er xs) i
    rw [List.length_map] at this; omega
  refine WP.cond rfl (fun h2 => ?_) (fun h2 => ?_)
  · have h2 := of_decide_eq_true h2
    have hi4 : i < 4 := by omega
    have hl6 : (gd zsv10 i).xs.length = 6400 := by rw [← er_gd, hev10]; exact condB_len _ hi4
    refine WP.skip ?_
    refine WP.seq ?_
    refine WP.block ?_
    refine WP.seq ?_
    refine WP.region ?_
    refine RG.pv rfl (PV.move (v := v10) rfl rfl) ?_
    refine RG.pv rfl (PV.mvI (.inl rfl) rfl) ?_
    refine RG.pv rfl (PV.idxS (v := v10) rfl Is139 rfl SlF.o rfl rfl (by omega)) ?_
    refine RG.pv rfl (PV.loadE1 rfl Sc142 rfl rfl (El.o (getG (by omega))) rfl) ?_
    refine RG.callF (vs := [_]) rfl rfl En99 rfl (comps_s (Rs.inBag (xs := zsv10) i (by omega)) hl6 (fun v21 zs hz => ?_))
    refine RG.pv rfl (PV.asg (v := v21) rfl rfl) ?_
    refine RG.nil ?_
    refine WP.seq ?_
    refine WP.region ?_
    refine RG.pv rfl (PV.mvI (.inr rfl) rfl) ?_
    refine RG.nil ?_
    refine WP.block ?_
    have hcz : er zs = comps (gd (condB (er xs)) i) := by rw [hz, ← er_gd, hev10]
    have hzl : zs.length ≤ 6400 := by have := congrArg List.length hcz; have h3 := comps_len (gd (condB (er xs)) i); rw [er_len] at this; omega
    refine WP.cv ((Cv.p (C := bagS 4 boolT (cels ps) :: bagS 4 boolT zs :: osl 145 partT q ps :: osl 142 slT v21 zs :: osl 142 slT v10 zsv10 :: bagS 4 boolT zsv10 :: L)).trans (Cv.bagJoin.trans ((Cv.p (C := osl 145 partT q ps :: bagS 4 boolT (cels ps ++ zs) :: osl 142 slT v21 zs :: osl 142 slT v10 zsv10 :: bagS 4 boolT zsv10 :: L)).trans (Cv.cast (L' := osl 145 partT q (ps ++ (zs.take 0).map (mkC (gd [0, 1, 3, 5] i))) :: bagS 4 boolT (cels ps ++ zs) :: osl 142 slT v21 zs :: osl 142 slT v10 zsv10 :: bagS 4 boolT zsv10 :: L) (by simp))))) ?_
    refine WP.loop2 [4, 5, 6] (fun (j : Nat) (q1 : Value) => j ≤ zs.length) (fun (j : Nat) (q1 : Value) => [(7, vi j), (3, q1)]) (fun (j : Nat) (q1 : Value) => osl 145 partT q1 (ps ++ (zs.take j).map (mkC (gd [0, 1, 3, 5] i))) :: bagS 4 boolT (cels ps ++ zs) :: osl 142 slT v21 zs :: osl 142 slT v10 zsv10 :: bagS 4 boolT zsv10 :: L) (fun (j : Nat) (q1 : Value) => zs.length - j) 0 q (by omega) ⟨rfl, rfl, trivial⟩ Cv.p ?_
    rintro j q1 τ1 hj
    refine WP.seq ?_
    refine WP.seq ?_
    refine WP.region ?_
    refine RG.pv rfl (PV.mvI (.inl rfl) rfl) ?_
    refine RG.pv rfl (PV.move (v := v21) rfl rfl) ?_
    refine RG.pv rfl (PV.len (v := v21) rfl Tryz.underlying139 rfl SlF.o) ?_
    refine RG.pv rfl (PV.lss rfl rfl rfl) ?_
    refine RG.nil ?_
    have hlt : (ps ++ (zs.take j).map (mkC (gd [0, 1, 3, 5] i))).length = ps.length + j := by simp; omega
    refine WP.cond rfl (fun h3 => ?_) (fun h3 => ?_)
    · have h3 := of_decide_eq_true h3
      have hn4 : ([0, 1, 3, 5] : List Int).length = 4 := rfl
      refine WP.sl (Rs.inRight (ws := cels ps) (xs := zs) j (by omega)) fun hI => ?_
      refine WP.skip ?_
      refine WP.seq ?_
      refine WP.block ?_
      refine WP.regionHD [.s q1] (.q 0 (.q 2 (.q 5 (.q 6 (.q 7 (.q 8 (.l 1 (.q 3 (.q 4 (.q 9 (.l 10 (.l 11 (.q 12 Sch.nil))))))))))))) (by kernel_rfl) (by kernel_rfl) (by kernel_rfl) rfl ?_
      refine RH.pv rfl (fun _ _ _ _ h => h) (Gh.le_refl _) PickC.pick rfl (PV.move (v := q1) rfl rfl) ?_
      refine RH.pv rfl (fun _ _ _ _ h => h) (Gh.le_refl _) PickC.pick rfl (PV.mvI (.inl rfl) rfl) ?_
      refine RH.pv rfl (fun _ _ _ _ h => h) (Gh.le_refl _) PickC.pick rfl (PV.move (v := v21) rfl rfl) ?_
      refine RH.pv rfl (fun _ _ _ _ h => h) (Gh.le_refl _) PickC.pick rfl (PV.mvI (.inl rfl) rfl) ?_
      refine RH.pv rfl (fun _ _ _ _ h => h) (Gh.le_refl _) PickC.pick rfl (PV.idxS (v := v21) rfl Is139 rfl SlF.o rfl rfl (by omega)) ?_
      refine RH.pv rfl (fun _ _ _ _ h => h) (Gh.le_refl _) PickC.pick rfl (PV.loadE1 rfl Sc142 rfl rfl (El.o (getG (by omega))) rfl) ?_
      refine RH.ot rfl rfl (OT.callF (vs := []) rfl En100 rfl (l23Layers_s (fun v29 => ⟨Gh.le_refl _, PickC.pick, ?_⟩)))
      refine RH.up1 ?_
      refine RH.pv rfl (fun _ _ _ _ h => h) (Gh.le_refl _) PickC.pick rfl (PV.idxS (v := v29) rfl Is35 rfl SlF.o rfl rfl (by omega)) ?_
      refine RH.pv rfl (fun _ _ _ _ h => h) (Gh.le_refl _) PickC.pick rfl (PV.loadE1 rfl Sc2 rfl rfl (El.o (getG (by omega))) rfl) ?_
      refine RH.pv rfl (fun _ _ _ _ h => h) (Gh.le_refl _) PickC.pick rfl (PV.build (vs := [(0, [vi _]), (1, [_])]) (out := [_, _]) rfl Zr145 Pl145 ⟨rfl, (Cl.c rfl), ⟨rfl, (Cl.s (SlF.i hI)), trivial⟩⟩ rfl) ?_
      refine RH.ot rfl rfl (OT.bslice (F := partT) (els := [⟨gd [0, 1, 3, 5] i, gd zs j⟩]) rfl El91 rfl (by decide) rfl (by decide) ⟨rfl, (Cl.c rfl), trivial⟩ fun v38 => ⟨Gh.le_refl _, PickC.pick, ?_⟩)
      refine RH.ot rfl rfl (OT.append (v := q1) (u := v38) (F := partT) rfl El91 rfl (by decide) rfl rfl Rs.o (OneL.one (OneC.val rfl (OneC.sl (SlF.i hI) OneC.nil))) rfl (by first | omega | (simp <;> omega)) fun v39 => ⟨Gh.le_refl _, PickC.pick, ?_⟩)
      refine RH.pv rfl (fun _ _ _ _ h => h) (Gh.le_refl _) PickC.pick rfl (PV.asg (v := v39) rfl rfl) ?_
      refine RH.nil ?_
      refine WP.region ?_
      refine RG.pv rfl (PV.mvI (.inl rfl) rfl) ?_
      refine RG.pv rfl (PV.add rfl rfl rfl (by omega)) ?_
      refine RG.pv rfl (PV.mvI (.inr rfl) rfl) ?_
      refine RG.nil ?_
      exact ⟨rfl, j + 1, v39, (by omega), ⟨rfl, rfl, trivial⟩, ⟨rfl, rfl, rfl, trivial⟩, (Cv.p (C := osl 145 partT v39 (ps ++ (zs.take j).map (mkC (gd [0, 1, 3, 5] i)) ++ [⟨gd [0, 1, 3, 5] i, gd zs j⟩]) :: bagS 4 boolT (cels ps ++ zs) :: osl 142 slT v21 zs :: osl 142 slT v10 zsv10 :: bagS 4 boolT zsv10 :: L)).trans (Cv.cast (by rw [List.take_add_one, getG (by omega), List.map_append, List.append_assoc]; rfl)), by omega⟩
    · have h3 := of_decide_eq_false h3
      obtain rfl : j = zs.length := by omega
      refine WP.exit ?_
      refine WP.region ?_
      refine RG.pv rfl (PV.mvI (.inl rfl) rfl) ?_
      refine RG.pv rfl (PV.add rfl rfl rfl (by omega)) ?_
      refine RG.pv rfl (PV.mvI (.inr rfl) rfl) ?_
      refine RG.nil ?_
      refine ⟨rfl, i + 1, (ps ++ zs.map (mkC (gd [0, 1, 3, 5] i))), q1, ⟨by omega, ?_⟩, ⟨rfl, rfl, trivial⟩, ⟨rfl, trivial⟩, (Cv.p (C := osl 145 partT q1 (ps ++ (zs.take zs.length).map (mkC (gd [0, 1, 3, 5] i))) :: bagS 4 boolT (cels ps ++ zs) :: osl 142 slT v10 zsv10 :: bagS 4 boolT zsv10 :: L)).trans (Cv.cast (by rw [List.take_length, cels_append, cels_mkC])), by omega⟩
      rw [pcL_succ, List.map_append, hps]
      congr 1
      have e : ∀ zs : List (Sl Bool), (zs.map (mkC (gd [0, 1, 3, 5] i))).map erC = (er zs).map fun r => (gd [0, 1, 3, 5] i, r) := fun zs => by simp [er, erC, mkC, Function.comp_def]
      rw [e, hcz]
  · have h2 := of_decide_eq_false h2
    obtain rfl : i = 4 := by omega
    refine WP.exit ?_
    refine WP.seq ?_
    refine WP.region ?_
    refine RG.pv rfl (PV.move (v := q) rfl rfl) ?_
    refine RG.pv rfl (PV.asg (v := q) rfl rfl) ?_
    refine RG.nil ?_
    refine WP.ret ?_
    exact ⟨_, _, ResV.one rfl rfl, Cv.p, k q ps hps⟩
noncomputable def pcE (l : List (List Rect)) : List (Int × List Rect) := bif isLay l then (pcL l 4).map pcR else []
theorem cels_len (xs : List Part) : (cels xs).length = xs.length := by simp [cels]
theorem cels_gd {xs : List Part} {i : Nat} (h : i < xs.length) : gd (cels xs) i = (gd xs i).cells := gd_map _ h
theorem Rs.inCels {G : Gh} {L L' : List Ch} {e : TypeId} {xs : List Part} (i : Nat) (hi : i < xs.length) [hX : ExBg (cels xs) L e boolT L'] : Rs G L boolT (gd xs i).cells.v (gd xs i).cells.xs := by
  have := Rs.inBag (G := G) (L := L) (L' := L') (e := e) (F := boolT) (xs := cels xs) i (by rw [cels_len]; exact hi)
  rwa [cels_gd hi] at this
theorem comps_mem {S : List Bool} {c : List Bool} (h : c ∈ comps S) : c.length = 6400 := by
  obtain ⟨j, _, rfl⟩ := List.mem_map.1 h; exact compB_len _ _
theorem pcL_mem {l : List (List Rect)} {n : Nat} {p : Int × List Bool} (h : p ∈ pcL l n) : p.2.length = 6400 := by
  obtain ⟨m, h1, h2⟩ := List.mem_flatten.1 h
  obtain ⟨i, _, rfl⟩ := List.mem_map.1 h1
  obtain ⟨c, hc, rfl⟩ := List.mem_map.1 h2
  exact comps_mem hc
end Go.Proofs.YthjaopefoiploaaGreat
