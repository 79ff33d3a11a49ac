/-
  Contracts of functions and plain facts that the last text of this folder uses, part 4.
-/
import Derived.Test.YthhjapiggekjbaaGreatUA3
namespace Go.Proofs.YthhjapiggekjbaaGreat
set_option linter.unusedVariables false
set_option linter.unusedSimpArgs false
open Go
set_option maxRecDepth 20000
set_option linter.unusedSimpArgs false
variable {G : Gh} {L : List Ch} {R : Value → Gh → List Ch → Prop}
theorem rng_any {p : Nat → Bool} {n i : Nat} (h : i < n) (hp : p i = true) : (List.range n).any p = true := List.any_eq_true.2 ⟨i, List.mem_range.2 h, hp⟩
theorem rng_none {p : Nat → Bool} {n : Nat} (h : ∀ i, i < n → p i = false) : (List.range n).any p = false := List.any_eq_false.2 fun i hi => by simp [h i (List.mem_range.1 hi)]
def jnN (p q : Int × List Bool) (C V : List Bool) (n : Nat) : Bool := gd p.2 n && gd q.2 n && (gd C n && (decide (p.1 = 3) || decide (q.1 = 3)) && !(decide (p.1 = 5) || decide (q.1 = 5)) || gd V n && (decide (p.1 = 3) || decide (q.1 = 3)) && (decide (p.1 = 5) || decide (q.1 = 5)))
theorem jnR_N (p q : Int × List Bool) (C V : List Bool) : jnR p q C V = (List.range 6400).any (jnN p q C V) := rfl
theorem jnN_er (p q : Part) (C V : List Bool) (n : Nat) : jnN (erC p) (erC q) C V n = (gd p.cells.xs n && gd q.cells.xs n && (gd C n && (decide (p.layer = 3) || decide (q.layer = 3)) && !(decide (p.layer = 5) || decide (q.layer = 5)) || gd V n && (decide (p.layer = 3) || decide (q.layer = 3)) && (decide (p.layer = 5) || decide (q.layer = 5)))) := rfl
theorem l23Joined_s {p q : Part} {vc vv : Value} {C V : List Bool} (hp : Rs G L boolT p.cells.v p.cells.xs) (hq : Rs G L boolT q.cells.v q.cells.xs) (h1 : Rs G L boolT vc C) (h2 : Rs G L boolT vv V) (hpl : p.cells.xs.length = 6400) (hql : q.cells.xs.length = 6400) (hC : C.length = 6400) (hV : V.length = 6400)
   (k : R (.bool (jnR (erC p) (erC q) C V)) G L) : CallT Tryz.prog 147 #[vT partT p, vT partT q, vc, vv] G L R := by
 rw [jnR_N] at k
 refine CallT.enter (args := _) Tryz.func147 rfl rfl (by kernel_rfl) rfl ?_
 refine WP.seq (WP.region ?_)
 refine RG.ot rfl (OT.box (cs := partT.enc p) rfl rfl rfl fun b4 => ?_)
 refine RG.ot rfl (OT.box (cs := partT.enc q) rfl rfl rfl fun b5 => ?_)
 refine RG.br rfl rfl rfl (RG.nil (WP.seq (WP.seq (WP.region (RG.mr rfl rfl rfl (RG.nil (WP.block ?_)))))))
 refine WP.loop1 [2, 3, 4, 5] (fun i => i ≤ 6400 ∧ ∀ j, j < i → jnN (erC p) (erC q) C V j = false) (fun i => [(9, vi i)]) (fun i => blk b4 166 (partT.enc p) :: blk b5 166 (partT.enc q) :: L) (fun i => 6400 - i) 0 ⟨by omega, fun j h => by omega⟩ ⟨rfl, trivial⟩ Cv.p ?_
 rintro i τ ⟨hi, hn⟩
 refine WP.seq (WP.seq (WP.region (RG.ml rfl rfl rfl (RG.pv rfl (PV.move (v := vc) rfl rfl) (RG.pv rfl (PV.len (v := vc) rfl Tryz.underlying109 rfl (SlF.r h1)) (RG.pv rfl (PV.lss rfl rfl rfl) (RG.nil ?_)))))))
 refine WP.cond rfl (fun h3 => ?_) (fun h3 => ?_)
 · have h3 := of_decide_eq_true h3
   have h4 : i < 6400 := by omega
   refine WP.skip (WP.seq (WP.block (WP.seq (WP.seq (WP.region (RG.pv rfl (PV.field rfl Fo166_1 rfl) (RG.pv rfl (PV.load1 rfl Sc109 rfl (Rd.blk rfl)) ?_)))))))
   refine RG.ml rfl rfl rfl (RG.pv rfl (PV.idxS rfl Is109 rfl (SlF.r hp) rfl rfl (by omega)) (RG.pv rfl (PV.loadE1 rfl Sc4 rfl rfl (El.r hp (getG (by omega))) rfl) (RG.pv rfl (PV.not rfl rfl) (RG.bl rfl rfl rfl ?_))))
   refine RG.gs rfl rfl rfl (fun hp => (PV.field rfl Fo166_1 rfl)) ?_
   refine RG.gs rfl rfl rfl (fun hp => (PV.load1 rfl Sc109 (gs_t hp) (Rd.blk rfl))) ?_
   refine RG.gs rfl rfl rfl (fun hp => (PV.mvI (.inl rfl) rfl)) ?_
   refine RG.gs rfl rfl rfl (fun hp => (PV.idxS rfl Is109 (gs_t hp) (SlF.r hq) (gs_t hp) rfl (by first | omega | (simp at hp; omega)))) ?_
   refine RG.gs rfl rfl rfl (fun hp => (PV.loadE1 rfl Sc4 (gs_t hp) rfl (El.r hq (getG (by first | omega | (simp at hp; omega)))) rfl)) ?_
   refine RG.gs rfl rfl rfl (fun hp => (PV.not rfl (gs_t hp))) ?_
   refine RG.pv rfl (PV.pickO rfl rfl rfl (fun hq => gs_t (geqF hq))) (RG.nil ?_)
   refine WP.cond rfl (fun h5 => ?_) (fun h5 => ?_)
   · refine WP.exit ?_
     refine WP.region (RG.ml rfl rfl rfl (RG.pv rfl (PV.add rfl rfl rfl (by omega)) (RG.mr rfl rfl rfl (RG.nil ?_))))
     refine ⟨rfl, i + 1, ⟨by omega, col_next hn ?_⟩, ⟨rfl, trivial⟩, ⟨rfl, rfl, rfl, rfl, trivial⟩, Cv.p, by omega⟩
     rw [jnN_er]; revert h5; cases gd p.cells.xs i <;> cases gd q.cells.xs i <;> simp
   · refine WP.skip ?_
     refine WP.seq (WP.region (RG.pv rfl (PV.field rfl Fo166_0 rfl) (RG.pv rfl (PV.load1 rfl Sc2 rfl (Rd.blk rfl)) (RG.pv rfl (PV.eql rfl rfl rfl) (RG.bl rfl rfl rfl ?_)))))
     refine RG.gs rfl rfl rfl (fun hp => (PV.field rfl Fo166_0 rfl)) ?_
     refine RG.gs rfl rfl rfl (fun hp => (PV.load1 rfl Sc2 (gs_t hp) (Rd.blk rfl))) ?_
     refine RG.gs rfl rfl rfl (fun hp => (PV.eql rfl (gs_t hp) rfl)) ?_
     refine RG.pv rfl (PV.pickO rfl rfl rfl (fun hq => gs_t (geqF hq))) (RG.br rfl rfl rfl (RG.nil (WP.seq (WP.region (RG.pv rfl (PV.field rfl Fo166_0 rfl) (RG.pv rfl (PV.load1 rfl Sc2 rfl (Rd.blk rfl)) (RG.pv rfl (PV.eql rfl rfl rfl) ?_)))))))
     refine RG.bl rfl rfl rfl ?_
     refine RG.gs rfl rfl rfl (fun hp => (PV.field rfl Fo166_0 rfl)) ?_
     refine RG.gs rfl rfl rfl (fun hp => (PV.load1 rfl Sc2 (gs_t hp) (Rd.blk rfl))) ?_
     refine RG.gs rfl rfl rfl (fun hp => (PV.eql rfl (gs_t hp) rfl)) ?_
     refine RG.pv rfl (PV.pickO rfl rfl rfl (fun hq => gs_t (geqF hq))) (RG.br rfl rfl rfl (RG.nil (WP.seq (WP.region (RG.pv rfl (PV.move (v := vc) rfl rfl) (RG.ml rfl rfl rfl (RG.pv rfl (PV.idxS (v := vc) rfl Is109 rfl (SlF.r h1) rfl rfl (by omega)) ?_)))))))
     refine RG.pv rfl (PV.loadE1 rfl Sc4 rfl rfl (El.r h1 (getG (by omega))) rfl) (RG.bl rfl rfl rfl ?_)
     refine RG.gs rfl rfl rfl (fun hp => (PV.mvB (.inl rfl) rfl)) ?_
     refine RG.pv rfl (PV.pickA rfl rfl (fun hq => gs_t (geqT hq)) rfl) (RG.bl rfl rfl rfl ?_)
     refine RG.gs rfl rfl rfl (fun hp => (PV.mvB (.inl rfl) rfl)) ?_
     refine RG.gs rfl rfl rfl (fun hp => (PV.not rfl (gs_t hp))) ?_
     refine RG.pv rfl (PV.pickA rfl rfl (fun hq => gs_t (geqT hq)) rfl) (RG.bl rfl rfl rfl ?_)
     refine RG.gs rfl rfl rfl (fun hp => (PV.move (v := vv) rfl rfl)) ?_
     refine RG.gs rfl rfl rfl (fun hp => (PV.mvI (.inl rfl) rfl)) ?_
     refine RG.gs rfl rfl rfl (fun hp => (PV.idxS (v := vv) rfl Is109 (gs_t hp) (SlF.r h2) (gs_t hp) rfl (by first | omega | (simp at hp; omega)))) ?_
     refine RG.gs rfl rfl rfl (fun hp => (PV.loadE1 rfl Sc4 (gs_t hp) rfl (El.r h2 (getG (by first | omega | (simp at hp; omega)))) rfl)) ?_
     refine RG.gs rfl rfl rfl (fun hp => (PV.mvB (.inl rfl) (gs_t hp))) ?_
     refine RG.gs2 rfl rfl rfl (fun hp => (PV.mvB (.inl rfl) rfl)) ?_
     refine RG.gs rfl rfl rfl (fun hp => (PV.pickA rfl (gs_t hp) (fun hq => gs_t (gandT hp hq)) rfl)) ?_
     refine RG.gs rfl rfl rfl (fun hp => (PV.mvB (.inl rfl) (gs_t hp))) ?_
     refine RG.gs2 rfl rfl rfl (fun hp => (PV.mvB (.inl rfl) rfl)) ?_
     refine RG.gs rfl rfl rfl (fun hp => (PV.pickA rfl (gs_t hp) (fun hq => gs_t (gandT hp hq)) rfl)) ?_
     refine RG.pv rfl (PV.pickO rfl rfl rfl (fun hq => gs_t (geqF hq))) (RG.nil ?_)
     refine WP.cond rfl (fun h6 => ?_) (fun h6 => ?_)
     · rw [rng_any h4 (by rw [jnN_er]; revert h5 h6; cases gd p.cells.xs i <;> cases gd q.cells.xs i <;> simp)] at k
       refine WP.seq (WP.region (RG.br rfl rfl rfl (RG.nil ?_)))
       refine WP.ret ?_
       exact ⟨_, _, ResV.one rfl rfl, Cv.p, k⟩
     · refine WP.skip ?_
       refine WP.region (RG.ml rfl rfl rfl (RG.pv rfl (PV.add rfl rfl rfl (by omega)) (RG.mr rfl rfl rfl (RG.nil ?_))))
       refine ⟨rfl, i + 1, ⟨by omega, col_next hn ?_⟩, ⟨rfl, trivial⟩, ⟨rfl, rfl, rfl, rfl, trivial⟩, Cv.p, by omega⟩
       rw [jnN_er]; revert h5 h6; cases gd p.cells.xs i <;> cases gd q.cells.xs i <;> simp
 · have h3 := of_decide_eq_false h3
   rw [rng_none fun j hj => hn j (by omega)] at k
   refine WP.exit ?_
   refine WP.seq (WP.region (RG.br rfl rfl rfl (RG.nil ?_)))
   refine WP.ret ?_
   exact ⟨_, _, ResV.one rfl rfl, Cv.p, k⟩
theorem inJ_vals {J : Nat → Nat → Bool} {i k : Nat} (hk : k ≤ i) : Rt (inJ J i (rootsJ J i) k) := by
 have := (rt_roots J i).inJ (J := J) k (by rw [rootsJ_len]; exact hk)
 rwa [rootsJ_len] at this
theorem inJ_le {J : Nat → Nat → Bool} {i k j : Nat} (hk : k ≤ i) (hj : j ≤ i) : 0 ≤ gd (inJ J i (rootsJ J i) k) j ∧ gd (inJ J i (rootsJ J i) k) j ≤ j := by
 have := inJ_vals (J := J) hk j (by rw [inJ_len, rootsJ_len]; omega)
 exact ⟨this.1, this.2.1⟩
theorem stepJ_same {J : Nat → Nat → Bool} {i k : Nat} {c : List Int} (h : gd c k = gd c i ∨ J k i = false) : stepJ J i c k = c := by rw [stepJ, if_pos h]
theorem stepJ_map {J : Nat → Nat → Bool} {i k : Nat} {c : List Int} (h : ¬ (gd c k = gd c i ∨ J k i = false)) : stepJ J i c k = c.map (rl (min (gd c k) (gd c i)) (max (gd c k) (gd c i))) := by rw [stepJ, if_neg h]
theorem pcL_gd_len {l : List (List Rect)} {i : Nat} (h : i < (pcL l 4).length) : (gd (pcL l 4) i).2.length = 6400 := pcL_mem (n := 4) (l := l) (by rw [gd_eq h]; exact List.getElem_mem h)
theorem pcL_gd_isL {l : List (List Rect)} {i : Nat} (h : i < (pcL l 4).length) : isL (gd (pcL l 4) i).1 := pcL_isL (by rw [gd_eq h]; exact List.getElem_mem h)
theorem l23Roots_s {v u : Value} {xs : List (Sl Rect)} {cs : List Part} (h1 : Rs G L partT u cs) (hcd : RsE G L boolT (cels cs)) (h2 : Rs G L slT v xs) (hd : RsE G L rectT xs) (hlay : isLay (er xs) = true) (hcs : cs.map erC = pcL (er xs) 4) (k : ∀ v', R v' G (osl 2 intT v' (clsL (er xs)) :: L)) : CallT Tryz.prog 97 #[u, v] G L R := by
 have h8 : xs.length = 8 := by have := isLay_len hlay; rwa [er_len] at this
 have hreg : ∀ i, i < 8 → isReg (gd xs i).xs = true := fun i hi => by rw [← er_gd]; exact isLay_reg hlay hi
 have hcl : cs.length = (pcL (er xs) 4).length := by rw [← hcs, List.length_map]
 have hpl := pcL_len (er xs) 4
 have hce : ∀ i, i < cs.length → erC (gd cs i) = gd (pcL (er xs) 4) i := fun i hi => by rw [← hcs, gd_map _ hi]
 have hc6 : ∀ i, i < cs.length → (gd cs i).cells.xs.length = 6400 := fun i hi => by
   have := pcL_gd_len (l := er xs) (i := i) (by omega)
   rw [← hce i hi] at this; exact this
 have hcr : ∀ i, i < cs.length → Rs G L boolT (gd cs i).cells.v (gd cs i).cells.xs := fun i hi => by
   have := hcd i (by rw [cels_len]; exact hi); rwa [cels_gd hi] at this
 refine CallT.enter (args := _) Tryz.func97 rfl rfl (by kernel_rfl) rfl ?_
 refine WP.seq (WP.region (RG.pv rfl (PV.asg rfl rfl) (RG.nil (WP.seq ?_))))
 refine WP.regionH0 (.q 0 (.q 1 (.q 2 (.q 4 (.q 5 (.q 6 (.l 3 (.l 7 (.q 8 (.q 9 Sch.nil)))))))))) (by kernel_rfl) (by kernel_rfl) (by kernel_rfl) rfl ?_
 refine RH.pv rfl (fun _ _ _ _ h => h) (Gh.le_refl _) PickC.pick rfl (PV.move (v := v) rfl rfl) ?_
 refine RH.pv rfl (fun _ _ _ _ h => h) (Gh.le_refl _) PickC.pick rfl (PV.idxS (j := 2) (v := v) rfl Is47 rfl (SlF.r h2) rfl (by omega) (by omega)) ?_
 refine RH.pv rfl (fun _ _ _ _ h => h) (Gh.le_refl _) PickC.pick rfl (PV.loadE1 rfl Sc50 rfl rfl (El.r h2 (getG (by omega))) rfl) ?_
 refine RH.pv rfl (fun _ _ _ _ h => h) (Gh.le_refl _) PickC.pick rfl (PV.move (v := v) rfl rfl) ?_
 refine RH.pv rfl (fun _ _ _ _ h => h) (Gh.le_refl _) PickC.pick rfl (PV.idxS (j := 4) (v := v) rfl Is47 rfl (SlF.r h2) rfl (by omega) (by omega)) ?_
 refine RH.pv rfl (fun _ _ _ _ h => h) (Gh.le_refl _) PickC.pick rfl (PV.loadE1 rfl Sc50 rfl rfl (El.r h2 (getG (by omega))) rfl) ?_
 refine RH.ot rfl rfl (OT.callF (vs := [_]) rfl En62 rfl (l03Bits_s (Rs.up (hd _ (by omega))) (fun i hi => valid_get (isReg_valid (hreg _ (by omega))) hi) (fun v16 => ⟨Gh.le_refl _, PickC.pick, ?_⟩)))
 refine RH.ot rfl rfl (OT.callF (vs := [_]) rfl En62 rfl (l03Bits_s (Rs.up (hd _ (by omega))) (fun i hi => valid_get (isReg_valid (hreg _ (by omega))) hi) (fun v20 => ⟨Gh.le_refl _, PickC.pick, ?_⟩)))
 refine RH.pv rfl (fun _ _ _ _ h => h) (Gh.le_refl _) PickC.pick rfl (PV.asg (v := v16) rfl rfl) ?_
 refine RH.pv rfl (fun _ _ _ _ h => h) (Gh.le_refl _) PickC.pick rfl (PV.asg (v := v20) rfl rfl) ?_
 refine RH.nil ?_
 refine WP.seq (WP.region ?_)
 refine RG.ot rfl (OT.bslice (F := intT) (els := []) rfl El26 rfl (by decide) rfl (by decide) trivial fun v21 => ?_)
 refine RG.pv rfl (PV.asg (v := v21) rfl rfl) (RG.nil (WP.seq (WP.seq (WP.region (RG.mr rfl rfl rfl (RG.nil (WP.block ?_)))))))
 refine WP.cv (Cv.p (C := osl 2 intT v21 ([] : List Int) :: osl 4 boolT v16 (bits (gd xs 2).xs) :: osl 4 boolT v20 (bits (gd xs 4).xs) :: L)) ?_
 refine WP.cv (Cv.eqS (show [] = rootsJ (JL (er xs)) 0 from rfl)) ?_
 refine WP.loop2 [0, 5, 6] (fun (i : Nat) (q : Value) => i ≤ cs.length) (fun (i : Nat) (q : Value) => [(8, vi i), (7, q)]) (fun (i : Nat) (q : Value) => osl 2 intT q (rootsJ (JL (er xs)) i) :: osl 4 boolT v16 (bits (gd xs 2).xs) :: osl 4 boolT v20 (bits (gd xs 4).xs) :: L) (fun (i : Nat) (q : Value) => cs.length - i) 0 v21 (by omega) ⟨rfl, rfl, trivial⟩ Cv.p ?_
 rintro i q τ hi
 refine WP.seq (WP.seq (WP.region (RG.ml rfl rfl rfl (RG.pv rfl (PV.move (v := u) rfl rfl) (RG.pv rfl (PV.len (v := u) rfl Tryz.underlying161 rfl (SlF.r h1)) (RG.pv rfl (PV.lss rfl rfl rfl) (RG.nil ?_)))))))
 have hrl := rootsJ_len (JL (er xs)) i
 refine WP.cond rfl (fun h3 => ?_) (fun h3 => ?_)
 · have h3 := of_decide_eq_true h3
   have h4 : i < cs.length := by omega
   refine WP.skip (WP.seq (WP.block (WP.seq (WP.region (RG.pv rfl (PV.move (v := q) rfl rfl) (RG.ml rfl rfl rfl ?_))))))
   refine RG.ot rfl (OT.bslice (F := intT) (els := [_]) rfl El26 rfl (by decide) rfl (by decide) ⟨rfl, (Cl.c rfl), trivial⟩ fun v30 => ?_)
   refine RG.ot rfl (OT.append (v := q) (u := v30) (F := intT) rfl El26 rfl (by decide) rfl rfl Rs.o (OneL.c (fun _ => rfl)) rfl (by first | omega | (simp <;> omega)) fun v31 => ?_)
   refine RG.pv rfl (PV.asg (v := v31) rfl rfl) (RG.nil (WP.seq (WP.region (RG.mr rfl rfl rfl (RG.nil (WP.block ?_))))))
   refine WP.cv (Cv.eqS (inJ_zero (JL (er xs)) i (rootsJ (JL (er xs)) i)).symm) ?_
   refine WP.loop1 [0, 5, 6, 7, 8] (fun n => n ≤ i) (fun n => [(9, vi n)]) (fun n => osl 2 intT v31 (inJ (JL (er xs)) i (rootsJ (JL (er xs)) i) n) :: osl 4 boolT v16 (bits (gd xs 2).xs) :: osl 4 boolT v20 (bits (gd xs 4).xs) :: L) (fun n => i - n) 0 (by omega) ⟨rfl, trivial⟩ Cv.p ?_
   rintro n τ1 hn
   refine WP.seq (WP.seq (WP.region (RG.ml rfl rfl rfl (RG.ml rfl rfl rfl (RG.pv rfl (PV.lss rfl rfl rfl) (RG.nil ?_))))))
   have hil := inJ_len (JL (er xs)) i (rootsJ (JL (er xs)) i) n
   have hil2 : (inJ (JL (er xs)) i (rootsJ (JL (er xs)) i) n).length = i + 1 := by omega
   have hin := fun j hj => inJ_le (J := JL (er xs)) (i := i) (k := n) (j := j) hn hj
   have hJe : ∀ n, n < cs.length → JL (er xs) n i = (!decide ((gd cs n).layer = (gd cs i).layer) && jnR (erC (gd cs n)) (erC (gd cs i)) (bits (gd xs 2).xs) (bits (gd xs 4).xs)) := fun n h => by
     rw [JL, jnL, ← hce n h, ← hce i h4, er_gd, er_gd]; rfl
   have hsc := inJ_succ (JL (er xs)) i (rootsJ (JL (er xs)) i) n
   generalize hceq : inJ (JL (er xs)) i (rootsJ (JL (er xs)) i) n = c at *
   refine WP.cond rfl (fun h5 => ?_) (fun h5 => ?_)
   · have h5 := of_decide_eq_true h5
     have h6 : n < i := by omega
     refine WP.skip (WP.seq (WP.block (WP.seq (WP.seq ?_))))
     refine WP.regionQ (by kernel_rfl) (by kernel_rfl) ?_
     refine RQ.pv rfl (PV.move (v := u) rfl rfl) ?_
     refine RQ.pv rfl (PV.mvI (.inl rfl) rfl) ?_
     refine RQ.pv rfl (PV.idxS (v := u) rfl Is161 rfl (SlF.r h1) rfl rfl (by omega)) ?_
     refine RQ.pv rfl (PV.field rfl Fo166_0 rfl) ?_
     refine RQ.pv rfl (PV.loadF rfl Sc2 rfl rfl (El.r h1 (getG (by omega))) rfl) ?_
     refine RQ.pv rfl (PV.move (v := u) rfl rfl) ?_
     refine RQ.pv rfl (PV.mvI (.inl rfl) rfl) ?_
     refine RQ.pv rfl (PV.idxS (v := u) rfl Is161 rfl (SlF.r h1) rfl rfl (by omega)) ?_
     refine RQ.pv rfl (PV.field rfl Fo166_0 rfl) ?_
     refine RQ.pv rfl (PV.loadF rfl Sc2 rfl rfl (El.r h1 (getG (by omega))) rfl) ?_
     refine RQ.pv rfl (PV.eql rfl rfl rfl) ?_
     refine RQ.pv rfl (PV.mvB (.inl rfl) rfl) ?_
     refine RQ.gs rfl rfl rfl (fun hp => (PV.move (v := v31) rfl rfl)) ?_
     refine RQ.gs rfl rfl rfl (fun hp => (PV.mvI (.inl rfl) rfl)) ?_
     refine RQ.gs rfl rfl rfl (fun hp => (PV.idxS (v := v31) rfl Is26 (gs_t hp) SlF.o (gs_t hp) rfl (by first | omega | (simp at hp; omega)))) ?_
     refine RQ.gs rfl rfl rfl (fun hp => (PV.loadE1 rfl Sc2 (gs_t hp) rfl (El.o (getG (by first | omega | (simp at hp; omega)))) rfl)) ?_
     refine RQ.gs rfl rfl rfl (fun hp => (PV.move (v := v31) rfl rfl)) ?_
     refine RQ.gs rfl rfl rfl (fun hp => (PV.mvI (.inl rfl) rfl)) ?_
     refine RQ.gs rfl rfl rfl (fun hp => (PV.idxS (v := v31) rfl Is26 (gs_t hp) SlF.o (gs_t hp) rfl (by first | omega | (simp at hp; omega)))) ?_
     refine RQ.gs rfl rfl rfl (fun hp => (PV.loadE1 rfl Sc2 (gs_t hp) rfl (El.o (getG (by first | omega | (simp at hp; omega)))) rfl)) ?_
     refine RQ.gs rfl rfl rfl (fun hp => (PV.eql rfl (gs_t hp) (gs_t hp))) ?_
     refine RQ.pv rfl (PV.pickO rfl rfl rfl (fun hq => gs_t (geqF hq))) ?_
     refine RQ.pv rfl (PV.mvB (.inl rfl) rfl) ?_
     refine RQ.gs rfl rfl rfl (fun hp => (PV.move (v := u) rfl rfl)) ?_
     refine RQ.gs rfl rfl rfl (fun hp => (PV.mvI (.inl rfl) rfl)) ?_
     refine RQ.gs rfl rfl rfl (fun hp => (PV.idxS (v := u) rfl Is161 (gs_t hp) (SlF.r h1) (gs_t hp) rfl (by first | omega | (simp at hp; omega)))) ?_
     refine RQ.gs rfl rfl rfl (fun hp => (PV.loadE rfl Ag166 (gs_t hp) rfl (El.r h1 (getG (by first | omega | (simp at hp; omega)))))) ?_
     refine RQ.gs rfl rfl rfl (fun hp => (PV.move (v := u) rfl rfl)) ?_
     refine RQ.gs rfl rfl rfl (fun hp => (PV.mvI (.inl rfl) rfl)) ?_
     refine RQ.gs rfl rfl rfl (fun hp => (PV.idxS (v := u) rfl Is161 (gs_t hp) (SlF.r h1) (gs_t hp) rfl (by first | omega | (simp at hp; omega)))) ?_
     refine RQ.gs rfl rfl rfl (fun hp => (PV.loadE rfl Ag166 (gs_t hp) rfl (El.r h1 (getG (by first | omega | (simp at hp; omega)))))) ?_
     refine RQ.gs rfl rfl rfl (fun hp => (PV.move (v := v16) rfl rfl)) ?_
     refine RQ.gs rfl rfl rfl (fun hp => (PV.move (v := v20) rfl rfl)) ?_
     refine RQ.gsC rfl rfl rfl rfl En147 (fun hp => ⟨_, (acons (gs_t hp) (acons (gs_t hp) (acons (gs_t hp) (acons (gs_t hp) anil)))), l23Joined_s (hcr n (by omega)).up (hcr i (by omega)).up Rs.o Rs.o (hc6 n (by omega)) (hc6 i (by omega)) (bits_length _) (bits_length _) ⟨rfl, rfl, rfl⟩⟩) ?_
     refine RQ.gs rfl rfl rfl (fun hp => (PV.not rfl (gs_t hp))) ?_
     refine RQ.pv rfl (PV.pickO rfl rfl rfl (fun hq => gs_t (geqF hq))) ?_
     refine RQ.nil ?_
     refine WP.cond rfl (fun h7 => ?_) (fun h7 => ?_)
     · have hs : gd c n = gd c i ∨ JL (er xs) n i = false := by
         rw [hJe n (by omega)]; revert h7
         cases decide ((gd cs n).layer = (gd cs i).layer) <;> cases jnR (erC (gd cs n)) (erC (gd cs i)) (bits (gd xs 2).xs) (bits (gd xs 4).xs) <;> simp
       refine WP.exit ?_
       refine WP.region (RG.ml rfl rfl rfl (RG.pv rfl (PV.add rfl rfl rfl (by omega)) (RG.mr rfl rfl rfl (RG.nil ?_))))
       exact ⟨rfl, n + 1, (by omega), ⟨rfl, trivial⟩, ⟨rfl, rfl, rfl, rfl, rfl, trivial⟩, (Cv.eqS (by rw [hsc, stepJ_same hs])), by omega⟩
     · have hs : ¬ (gd c n = gd c i ∨ JL (er xs) n i = false) := by
         rw [hJe n (by omega)]; revert h7
         cases decide ((gd cs n).layer = (gd cs i).layer) <;> cases jnR (erC (gd cs n)) (erC (gd cs i)) (bits (gd xs 2).xs) (bits (gd xs 4).xs) <;> simp
       refine WP.skip (WP.seq ?_)
       refine WP.regionQ (by kernel_rfl) (by kernel_rfl) ?_
       refine RQ.pv rfl (PV.move (v := v31) rfl rfl) ?_
       refine RQ.pv rfl (PV.mvI (.inl rfl) rfl) ?_
       refine RQ.pv rfl (PV.idxS (v := v31) rfl Is26 rfl SlF.o rfl rfl (by omega)) ?_
       refine RQ.pv rfl (PV.loadE1 rfl Sc2 rfl rfl (El.o (getG (by omega))) rfl) ?_
       refine RQ.pv rfl (PV.move (v := v31) rfl rfl) ?_
       refine RQ.pv rfl (PV.mvI (.inl rfl) rfl) ?_
       refine RQ.pv rfl (PV.idxS (v := v31) rfl Is26 rfl SlF.o rfl rfl (by omega)) ?_
       refine RQ.pv rfl (PV.loadE1 rfl Sc2 rfl rfl (El.o (getG (by omega))) rfl) ?_
       refine RQ.pv rfl (PV.min2 rfl rfl rfl) ?_
       refine RQ.pv rfl (PV.move (v := v31) rfl rfl) ?_
       refine RQ.pv rfl (PV.mvI (.inl rfl) rfl) ?_
       refine RQ.pv rfl (PV.idxS (v := v31) rfl Is26 rfl SlF.o rfl rfl (by omega)) ?_
       refine RQ.pv rfl (PV.loadE1 rfl Sc2 rfl rfl (El.o (getG (by omega))) rfl) ?_
       refine RQ.pv rfl (PV.move (v := v31) rfl rfl) ?_
       refine RQ.pv rfl (PV.mvI (.inl rfl) rfl) ?_
       refine RQ.pv rfl (PV.idxS (v := v31) rfl Is26 rfl SlF.o rfl rfl (by omega)) ?_
       refine RQ.pv rfl (PV.loadE1 rfl Sc2 rfl rfl (El.o (getG (by omega))) rfl) ?_
       refine RQ.pv rfl (PV.max2 rfl rfl rfl) ?_
       refine RQ.pv rfl (PV.mvI (.inr rfl) rfl) ?_
       refine RQ.pv rfl (PV.mvI (.inr rfl) rfl) ?_
       refine RQ.nil ?_
       refine WP.seq (WP.region (RG.mr rfl rfl rfl (RG.nil (WP.block ?_))))
       refine WP.cv (Cv.eqS (mapTo_zero (rl (min (gd c n) (gd c i)) (max (gd c n) (gd c i))) c).symm) ?_
       generalize hlo : min (gd c n) (gd c i) = lo at *
       generalize hhi : max (gd c n) (gd c i) = hi2 at *
       refine WP.loop1 [0, 5, 6, 7, 8, 9, 10, 11] (fun m => m ≤ i + 1) (fun m => [(12, vi m)]) (fun m => osl 2 intT v31 (mapTo (rl lo hi2) c m) :: osl 4 boolT v16 (bits (gd xs 2).xs) :: osl 4 boolT v20 (bits (gd xs 4).xs) :: L) (fun m => i + 1 - m) 0 (by omega) ⟨rfl, trivial⟩ Cv.p ?_
       rintro m τ2 hm
       refine WP.seq (WP.seq (WP.region (RG.ml rfl rfl rfl (RG.ml rfl rfl rfl (RG.pv rfl (PV.leq rfl rfl rfl) (RG.nil ?_))))))
       have hml := mapTo_len (rl lo hi2) c (m := m) (by omega)
       refine WP.cond rfl (fun h8 => ?_) (fun h8 => ?_)
       · have h8 := of_decide_eq_true h8
         have hmg := mapTo_gd (f := rl lo hi2) (d := c) (m := m) (by omega)
         refine WP.skip (WP.seq (WP.block (WP.seq (WP.region (RG.pv rfl (PV.move (v := v31) rfl rfl) (RG.ml rfl rfl rfl (RG.pv rfl (PV.idxS (v := v31) rfl Is26 rfl SlF.o rfl rfl (by omega)) ?_)))))))
         refine RG.pv rfl (PV.loadE1 rfl Sc2 rfl rfl (El.o (getG (by omega))) rfl) (RG.ml rfl rfl rfl (RG.pv rfl (PV.eql rfl rfl rfl) (RG.nil ?_)))
         refine WP.cond rfl (fun h9 => ?_) (fun h9 => ?_)
         · refine WP.region ?_
           refine RG.pv rfl (PV.move (v := v31) rfl rfl) (RG.ml rfl rfl rfl (RG.ml rfl rfl rfl (RG.pv rfl (PV.idxS (v := v31) rfl Is26 rfl SlF.o rfl rfl (by omega)) ?_)))
           refine RG.ot rfl (OT.storeE (F := intT) rfl Sz2 rfl rfl rfl (Cl.c rfl) (OneC.c rfl) (by omega) ?_)
           refine RG.nil (WP.region (RG.ml rfl rfl rfl (RG.pv rfl (PV.add rfl rfl rfl (by omega)) (RG.mr rfl rfl rfl (RG.nil ?_)))))
           exact ⟨rfl, m + 1, (by omega), ⟨rfl, trivial⟩, ⟨rfl, rfl, rfl, rfl, rfl, rfl, rfl, rfl, trivial⟩, (Cv.eqS (by rw [← mapTo_set (by omega), rl, if_pos (by rw [hmg] at h9; simpa using h9)])), by omega⟩
         · refine WP.skip ?_
           refine WP.region (RG.ml rfl rfl rfl (RG.pv rfl (PV.add rfl rfl rfl (by omega)) (RG.mr rfl rfl rfl (RG.nil ?_))))
           exact ⟨rfl, m + 1, (by omega), ⟨rfl, trivial⟩, ⟨rfl, rfl, rfl, rfl, rfl, rfl, rfl, rfl, trivial⟩, (Cv.eqS (by rw [mapTo_skip (by omega)]; rw [rl, if_neg (by rw [hmg] at h9; simpa using h9)])), by omega⟩
       · have h8 := of_decide_eq_false h8
         obtain rfl : m = i + 1 := by omega
         refine WP.exit ?_
         refine WP.region (RG.ml rfl rfl rfl (RG.pv rfl (PV.add rfl rfl rfl (by omega)) (RG.mr rfl rfl rfl (RG.nil ?_))))
         exact ⟨rfl, n + 1, (by omega), ⟨rfl, trivial⟩, ⟨rfl, rfl, rfl, rfl, rfl, trivial⟩, (Cv.eqS (by rw [hsc, stepJ_map hs, hlo, hhi, ← hil2]; simpa using mapTo_all (f := rl lo hi2) (c := c) (z := []))), by omega⟩
   · have h5 := of_decide_eq_false h5
     obtain rfl : n = i := by omega
     refine WP.exit ?_
     refine WP.region (RG.ml rfl rfl rfl (RG.pv rfl (PV.add rfl rfl rfl (by omega)) (RG.mr rfl rfl rfl (RG.nil ?_))))
     exact ⟨rfl, n + 1, v31, (by omega), ⟨rfl, rfl, trivial⟩, ⟨rfl, rfl, rfl, trivial⟩, (Cv.eqS (by rw [rootsJ, hceq])), by omega⟩
 · have h3 := of_decide_eq_false h3
   obtain rfl : i = cs.length := by omega
   refine WP.exit ?_
   refine WP.seq (WP.region (RG.pv rfl (PV.move (v := q) rfl rfl) (RG.pv rfl (PV.asg (v := q) rfl rfl) (RG.nil ?_))))
   refine WP.ret ?_
   exact ⟨_, _, ResV.one rfl rfl, ((Cv.eqS (ys := clsL (er xs)) (by rw [hcl]; rfl)).trans Cv.p), k q⟩
theorem numbers_at {cls : List Int} {n : Nat} (h : n < cls.length) (hr : Rt cls) : 0 ≤ gd cls n ∧ gd cls n ≤ n := ⟨(hr n h).1, (hr n h).2.1⟩
def nums (cls : List Int) : List Int := (List.range cls.length).map fun i => (numR cls i : Int)
def numsTo (cls : List Int) (n : Nat) : List Int := (List.range n).map fun i => (numR cls i : Int)
theorem numsTo_succ (cls : List Int) (n : Nat) : numsTo cls (n + 1) = numsTo cls n ++ [(numR cls n : Int)] := by simp [numsTo, List.range_succ]
theorem numsTo_len (cls : List Int) (n : Nat) : (numsTo cls n).length = n := by simp [numsTo]
theorem numsTo_gd {cls : List Int} {n i : Nat} (h : i < n) : gd (numsTo cls n) i = (numR cls i : Int) := by
 rw [numsTo, gd_map _ (by simpa using h)]; simp [gd, h]
theorem l23Numbers_s {v : Value} {cls : List Int} (h1 : Rs G L intT v cls) (hr : Rt cls) (hl : cls.length ≤ 25600) (k : ∀ v', R (.tuple #[v', vi (cntR cls cls.length)]) G (osl 2 intT v' (nums cls) :: L)) : CallT Tryz.prog 96 #[v] G L R := by
 refine CallT.enter (args := _) Tryz.func96 rfl rfl (by kernel_rfl) rfl ?_
 refine WP.seq (WP.region (RG.pv rfl (PV.asg rfl rfl) (RG.mr rfl rfl rfl (RG.nil (WP.seq (WP.region ?_))))))
 refine RG.ot rfl (OT.bslice (F := intT) (els := []) rfl El26 rfl (by decide) rfl (by decide) trivial fun v7 => ?_)
 refine RG.pv rfl (PV.asg (v := v7) rfl rfl) (RG.nil (WP.seq (WP.region (RG.mr rfl rfl rfl (RG.nil (WP.seq (WP.seq ?_)))))))
 refine WP.region (RG.mr rfl rfl rfl (RG.nil (WP.block ?_)))
 refine WP.cv (Cv.eqS (show [] = numsTo cls 0 from rfl)) ?_
 refine WP.loop3 [0] (fun (i : Nat) (m : Int) (q : Value) => i ≤ cls.length ∧ m = cntR cls i) (fun (i : Nat) (m : Int) (q : Value) => [(6, vi i), (5, vi m), (4, q)]) (fun (i : Nat) (m : Int) (q : Value) => osl 2 intT q (numsTo cls i) :: L) (fun (i : Nat) (m : Int) (q : Value) => cls.length - i) 0 0 v7 ⟨by omega, rfl⟩ ⟨rfl, rfl, rfl, trivial⟩ Cv.p ?_
 rintro i m q τ ⟨hi, hm⟩
 refine WP.seq (WP.seq (WP.region (RG.ml rfl rfl rfl (RG.pv rfl (PV.move (v := v) rfl rfl) (RG.pv rfl (PV.len (v := v) rfl Tryz.underlying26 rfl (SlF.r h1)) (RG.pv rfl (PV.lss rfl rfl rfl) (RG.nil ?_)))))))
 have hnl := numsTo_len cls i
 have hcm := cntR_le cls i
 refine WP.cond rfl (fun h3 => ?_) (fun h3 => ?_)
 · have h3 := of_decide_eq_true h3
   have h4 : i < cls.length := by omega
   have hc1 := cntR_succ cls i
   obtain ⟨g1, g2⟩ := numbers_at h4 hr
   refine WP.skip (WP.seq (WP.block (WP.seq (WP.region (RG.pv rfl (PV.move (v := v) rfl rfl) (RG.ml rfl rfl rfl (RG.pv rfl (PV.idxS (v := v) rfl Is26 rfl (SlF.r h1) rfl rfl (by omega)) ?_)))))))
   refine RG.pv rfl (PV.loadE1 rfl Sc2 rfl rfl (El.r h1 (getG (by omega))) rfl) (RG.ml rfl rfl rfl (RG.pv rfl (PV.eql rfl rfl rfl) (RG.nil ?_)))
   refine WP.cond rfl (fun h5 => ?_) (fun h5 => ?_)
   · have h5 : gd cls i = (i : Int) := by simpa using h5
     rw [if_pos h5] at hc1
     refine WP.seq (WP.region (RG.pv rfl (PV.move (v := q) rfl rfl) (RG.ml rfl rfl rfl ?_)))
     refine RG.ot rfl (OT.bslice (F := intT) (els := [_]) rfl El26 rfl (by decide) rfl (by decide) ⟨rfl, (Cl.c rfl), trivial⟩ fun v22 => ?_)
     refine RG.ot rfl (OT.append (v := q) (u := v22) (F := intT) rfl El26 rfl (by decide) rfl rfl Rs.o (OneL.c (fun _ => rfl)) rfl (by first | omega | (simp <;> omega)) fun v23 => ?_)
     refine RG.pv rfl (PV.asg (v := v23) rfl rfl) (RG.nil (WP.region (RG.ml rfl rfl rfl (RG.pv rfl (PV.add rfl rfl rfl (by omega)) (RG.mr rfl rfl rfl (RG.nil (WP.region ?_)))))))
     refine RG.ml rfl rfl rfl (RG.pv rfl (PV.add rfl rfl rfl (by omega)) (RG.mr rfl rfl rfl (RG.nil ?_)))
     exact ⟨rfl, i + 1, _, v23, ⟨by omega, by omega⟩, ⟨rfl, rfl, rfl, trivial⟩, ⟨rfl, trivial⟩, ((Cv.eqS (ys := numsTo cls (i + 1)) (by rw [numsTo_succ, numR_root h5, hm])).trans Cv.p), by omega⟩
   · have h5 : gd cls i ≠ (i : Int) := by simpa using h5
     rw [if_neg h5] at hc1
     have hng : gd (numsTo cls i) (gd cls i).toNat = (numR cls i : Int) := by rw [numsTo_gd (by omega), numR_at hr h4]
     refine WP.region (RG.pv rfl (PV.move (v := q) rfl rfl) (RG.pv rfl (PV.move (v := q) rfl rfl) (RG.pv rfl (PV.move (v := v) rfl rfl) (RG.ml rfl rfl rfl (RG.pv rfl (PV.idxS (v := v) rfl Is26 rfl (SlF.r h1) rfl rfl (by omega)) (RG.pv rfl (PV.loadE1 rfl Sc2 rfl rfl (El.r h1 (getG (by omega))) rfl) (RG.pv rfl (PV.idxS (j := (gd cls i).toNat) (v := q) rfl Is26 rfl SlF.o rfl (by omega) (by omega)) ?_)))))))
     refine RG.pv rfl (PV.loadE1 rfl Sc2 rfl rfl (El.o (getG (by omega))) rfl) ?_
     refine RG.ot rfl (OT.bslice (F := intT) (els := [_]) rfl El26 rfl (by decide) rfl (by decide) ⟨rfl, (Cl.c rfl), trivial⟩ fun v34 => ?_)
     refine RG.ot rfl (OT.append (v := q) (u := v34) (F := intT) rfl El26 rfl (by decide) rfl rfl Rs.o (OneL.c (fun _ => rfl)) rfl (by first | omega | (simp <;> omega)) fun v35 => ?_)
     refine RG.pv rfl (PV.asg (v := v35) rfl rfl) (RG.nil (WP.region (RG.ml rfl rfl rfl (RG.pv rfl (PV.add rfl rfl rfl (by omega)) (RG.mr rfl rfl rfl (RG.nil ?_))))))
     exact ⟨rfl, i + 1, _, v35, ⟨by omega, by omega⟩, ⟨rfl, rfl, rfl, trivial⟩, ⟨rfl, trivial⟩, ((Cv.eqS (ys := numsTo cls (i + 1)) (by rw [numsTo_succ, hng])).trans Cv.p), by omega⟩
 · have h3 := of_decide_eq_false h3
   obtain rfl : i = cls.length := by omega
   rw [← hm] at k
   refine WP.exit ?_
   refine WP.seq (WP.region (RG.pv rfl (PV.move (v := q) rfl rfl) (RG.ml rfl rfl rfl (RG.pv rfl (PV.asg (v := q) rfl rfl) (RG.mr rfl rfl rfl (RG.nil ?_))))))
   refine WP.ret ?_
   exact ⟨_, _, ResV.two rfl rfl rfl, (Cv.eqS (ys := nums cls) rfl), k q⟩
end Go.Proofs.YthhjapiggekjbaaGreat
namespace Go.Proofs.YthhjapiggekjbaaGreat
set_option linter.unusedVariables false
set_option linter.unusedSimpArgs false
open Go
set_option maxRecDepth 20000
set_option linter.unusedSimpArgs false
variable {G : Gh} {L : List Ch} {R : Value → Gh → List Ch → Prop}
theorem jnI_er (l : List (List Rect)) (p q : Piece) : jnI l (erP p) (erP q) = bif decide (q.layer < p.layer) then jnO l (erP q) (erP p) else jnO l (erP p) (erP q) := rfl
theorem jnO_er (l : List (List Rect)) (p q : Piece) : jnO l (erP p) (erP q) = bif decide (q.layer = 3) && decide (p.layer < 3) then meetIn p.reg.xs q.reg.xs (gd l 2) else decide (p.layer = 3) && decide (q.layer = 5) && meetIn p.reg.xs q.reg.xs (gd l 4) := rfl
theorem joined_s {v : Value} {xs : List (Sl Rect)} {p q : Piece} (h1 : Rs G L slT v xs) (hd : RsE G L rectT xs) (h8 : xs.length = 8) (hp : Rs G L rectT p.reg.v p.reg.xs) (hq : Rs G L rectT q.reg.v q.reg.xs) (k : R (.bool (jnI (er xs) (erP p) (erP q))) G L) : CallT Tryz.prog 66 #[v, vT pieceT p, vT pieceT q] G L R := by
 refine CallT.enter (args := _) Tryz.func66 rfl rfl (by kernel_rfl) rfl ?_
 refine WP.seq (WP.region ?_)
 refine RG.ot rfl (OT.box (cs := pieceT.enc p) rfl rfl rfl fun b4 => ?_)
 refine RG.ot rfl (OT.box (cs := pieceT.enc q) rfl rfl rfl fun b5 => ?_)
 refine RG.br rfl rfl rfl (RG.nil ?_)
 refine WP.cut1 [0, 4, 5] (fun (pq : Piece × Piece) => Rs G L rectT pq.1.reg.v pq.1.reg.xs ∧ Rs G L rectT pq.2.reg.v pq.2.reg.xs ∧ jnI (er xs) (erP p) (erP q) = jnO (er xs) (erP pq.1) (erP pq.2)) (fun (pq : Piece × Piece) => []) (fun (pq : Piece × Piece) => blk b4 63 (pieceT.enc pq.1) :: blk b5 63 (pieceT.enc pq.2) :: L) ?_ ?_
 refine WP.seq (WP.region (RG.pv rfl (PV.field rfl Fo63_0 rfl) (RG.pv rfl (PV.load1 rfl Sc2 rfl (Rd.blk rfl)) (RG.pv rfl (PV.field rfl Fo63_0 rfl) (RG.pv rfl (PV.load1 rfl Sc2 rfl (Rd.blk rfl)) (RG.pv rfl (PV.gtr rfl rfl rfl) (RG.nil ?_)))))))
 · refine WP.cond rfl (fun h2 => ?_) (fun h2 => ?_)
   · refine WP.region ?_
     refine RG.pv rfl (PV.loadW rfl Ag63 rfl rfl) (RG.pv rfl (PV.loadW rfl Ag63 rfl rfl) ?_)
     refine RG.ot rfl (OT.storeW (vs := [vi _, _]) rfl Sz63 rfl rfl (Cl.c rfl) rfl rfl (OneC.val rfl (OneC.sl (SlF.r hq) OneC.nil)) ?_)
     refine RG.ot rfl (OT.storeW (vs := [vi _, _]) rfl Sz63 rfl rfl (Cl.c rfl) rfl rfl (OneC.val rfl (OneC.sl (SlF.r hp) OneC.nil)) ?_)
     refine RG.nil ?_
     exact ⟨rfl, (q, p), ⟨hq, hp, by rw [jnI_er, h2]; rfl⟩, trivial, ⟨rfl, rfl, rfl, trivial⟩, Cv.p⟩
   · refine WP.skip ?_
     exact ⟨rfl, (p, q), ⟨hp, hq, by rw [jnI_er, h2]; rfl⟩, trivial, ⟨rfl, rfl, rfl, trivial⟩, Cv.p⟩
 rintro pq τ0 ⟨hp', hq', hk⟩
 refine WP.seq (WP.seq (WP.region (RG.pv rfl (PV.field rfl Fo63_0 rfl) (RG.pv rfl (PV.load1 rfl Sc2 rfl (Rd.blk rfl)) (RG.pv rfl (PV.eql rfl rfl rfl) (RG.bl rfl rfl rfl ?_))))))
 refine RG.gs rfl rfl rfl (fun hp => (PV.field rfl Fo63_0 rfl)) ?_
 refine RG.gs rfl rfl rfl (fun hp => (PV.load1 rfl Sc2 (gs_t hp) (Rd.blk rfl))) ?_
 refine RG.gs rfl rfl rfl (fun hp => (PV.lss rfl (gs_t hp) rfl)) ?_
 refine RG.pv rfl (PV.pickA rfl rfl (fun hq => gs_t (geqT hq)) rfl) (RG.nil ?_)
 rw [hk, jnO_er] at k
 refine WP.cond rfl (fun h3 => ?_) (fun h3 => ?_)
 · rw [h3] at k
   simp only [cond_true, er_gd] at k
   refine WP.seq ?_
   refine WP.regionQ (by kernel_rfl) (by kernel_rfl) ?_
   refine RQ.pv rfl (PV.field rfl Fo63_1 rfl) ?_
   refine RQ.pv rfl (PV.load1 rfl Sc50 rfl (Rd.blk rfl)) ?_
   refine RQ.pv rfl (PV.field rfl Fo63_1 rfl) ?_
   refine RQ.pv rfl (PV.load1 rfl Sc50 rfl (Rd.blk rfl)) ?_
   refine RQ.pv rfl (PV.move (v := v) rfl rfl) ?_
   refine RQ.pv rfl (PV.idxS (j := 2) (v := v) rfl Is47 rfl (SlF.r h1) rfl (by omega) (by omega)) ?_
   refine RQ.pv rfl (PV.loadE1 rfl Sc50 rfl rfl (El.r h1 (getG (by omega))) rfl) ?_
   refine RQ.callF (vs := [_, _, _]) rfl rfl En120 rfl (meetIn_s (Rs.up hp') (Rs.up hq') (Rs.up (hd 2 (by omega))) ⟨rfl, rfl, rfl⟩) ?_
   refine RQ.pv rfl (PV.mvB (.inr rfl) rfl) ?_
   refine RQ.nil ?_
   refine WP.ret ?_
   exact ⟨_, _, ResV.one rfl rfl, Cv.p, k⟩
 · rw [h3] at k
   simp only [cond_false, er_gd] at k
   refine WP.skip (WP.seq ?_)
   refine WP.regionQ (by kernel_rfl) (by kernel_rfl) ?_
   refine RQ.pv rfl (PV.field rfl Fo63_0 rfl) ?_
   refine RQ.pv rfl (PV.load1 rfl Sc2 rfl (Rd.blk rfl)) ?_
   refine RQ.pv rfl (PV.eql rfl rfl rfl) ?_
   refine RQ.pv rfl (PV.mvB (.inl rfl) rfl) ?_
   refine RQ.gs rfl rfl rfl (fun hp => (PV.field rfl Fo63_0 rfl)) ?_
   refine RQ.gs rfl rfl rfl (fun hp => (PV.load1 rfl Sc2 (gs_t hp) (Rd.blk rfl))) ?_
   refine RQ.gs rfl rfl rfl (fun hp => (PV.eql rfl (gs_t hp) rfl)) ?_
   refine RQ.pv rfl (PV.pickA rfl rfl (fun hq => gs_t (geqT hq)) rfl) ?_
   refine RQ.pv rfl (PV.mvB (.inl rfl) rfl) ?_
   refine RQ.gs rfl rfl rfl (fun hp => (PV.field rfl Fo63_1 rfl)) ?_
   refine RQ.gs rfl rfl rfl (fun hp => (PV.load1 rfl Sc50 (gs_t hp) (Rd.blk rfl))) ?_
   refine RQ.gs rfl rfl rfl (fun hp => (PV.field rfl Fo63_1 rfl)) ?_
   refine RQ.gs rfl rfl rfl (fun hp => (PV.load1 rfl Sc50 (gs_t hp) (Rd.blk rfl))) ?_
   refine RQ.gs rfl rfl rfl (fun hp => (PV.move (v := v) rfl rfl)) ?_
   refine RQ.gs rfl rfl rfl (fun hp => (PV.idxS (j := 4) (v := v) rfl Is47 (gs_t hp) (SlF.r h1) rfl (by first | omega | (simp at hp; omega)) (by first | omega | (simp at hp; omega)))) ?_
   refine RQ.gs rfl rfl rfl (fun hp => (PV.loadE1 rfl Sc50 (gs_t hp) rfl (El.r h1 (getG (by first | omega | (simp at hp; omega)))) rfl)) ?_
   refine RQ.gsC rfl rfl rfl rfl En120 (fun hp => ⟨_, (acons (gs_t hp) (acons (gs_t hp) (acons (gs_t hp) anil))), meetIn_s (Rs.up hp') (Rs.up hq') (Rs.up (hd 4 (by omega))) ⟨rfl, rfl, rfl⟩⟩) ?_
   refine RQ.pv rfl (PV.pickA rfl rfl (fun hq => gs_t (geqT hq)) rfl) ?_
   refine RQ.pv rfl (PV.mvB (.inr rfl) rfl) ?_
   refine RQ.nil ?_
   refine WP.ret ?_
   exact ⟨_, _, ResV.one rfl rfl, Cv.p, k⟩
def nps (zs : List Net) : List (Sl Piece) := zs.map Net.pieces
theorem nps_len (zs : List Net) : (nps zs).length = zs.length := by simp [nps]
theorem nps_gd {zs : List Net} {i : Nat} (h : i < zs.length) : gd (nps zs) i = (gd zs i).pieces := gd_map _ h
theorem nps_append (xs ys : List Net) : nps (xs ++ ys) = nps xs ++ nps ys := by simp [nps]
theorem nps_set (zs : List Net) (i : Nat) (p : Net) : nps (zs.set i p) = (nps zs).set i p.pieces := by simp [nps, List.map_set]
theorem er_set {α : Type} (zs : List (Sl α)) (i : Nat) (s : Sl α) : er (zs.set i s) = (er zs).set i s.xs := by simp [er, List.map_set]
theorem er_append {α : Type} (xs ys : List (Sl α)) : er (xs ++ ys) = er xs ++ er ys := by simp [er]
/-- a net's pieces, out of the bag and written, go back -/
theorem Cv.slotN {e e' : TypeId} {v u : Value} {zs : List Net} {ys : List Piece} {L : List Ch} (i : Nat) (hi : i < zs.length) :
   Cv (osl e pieceT u ys :: osl e' netT v (zs.set i ⟨⟨u, ys⟩⟩) :: bag (((nps zs).map (ownS e pieceT)).set i emp) :: L) (osl e' netT v (zs.set i ⟨⟨u, ys⟩⟩) :: bagS e pieceT (nps (zs.set i ⟨⟨u, ys⟩⟩)) :: L) := by
 have h1 : Cv (osl e pieceT u ys :: osl e' netT v (zs.set i ⟨⟨u, ys⟩⟩) :: bag (((nps zs).map (ownS e pieceT)).set i emp) :: L) (osl e' netT v (zs.set i ⟨⟨u, ys⟩⟩) :: osl e pieceT u ys :: bag (((nps zs).map (ownS e pieceT)).set i emp) :: L) := Cv.swap (A := [osl e pieceT u ys]) (B := [osl e' netT v (zs.set i ⟨⟨u, ys⟩⟩)])
 refine h1.trans ((Cv.cons (Cv.bagS_put i (by rw [nps_len]; exact hi))).trans ?_)
 rw [nps_set]; exact Cv.refl _
/-- a bag in another order -/
theorem sep_perm {A B : List Ch} (h : A.Perm B) : ∀ hp, Sep A hp → Sep B hp := by
 induction h with
 | nil => exact fun _ h => h
 | cons x _ ih => exact fun hp ⟨h1, h2, d, l1, l2, c, s⟩ => ⟨h1, h2, d, l1, l2, c, ih h2 s⟩
 | swap x y l => exact Cv.swap (A := [y]) (B := [x]) (L := l)
 | trans _ _ ih1 ih2 => exact fun hp s => ih2 hp (ih1 hp s)
theorem Cv.bagPerm {α : Type} {e : TypeId} {F : FT α} {xs ys : List (Sl α)} {L : List Ch} (h : xs.Perm ys) : Cv (bagS e F xs :: L) (bagS e F ys :: L) :=
 Cv.imp fun hp s => sep_perm (h.map (ownS e F)) hp s
theorem erPs_pcL {l : List (List Rect)} {ps : List Piece} (h : erPs ps = (pcL l 4).map pcR) : ps.length = (pcL l 4).length ∧ ∀ i, i < ps.length → erP (gd ps i) = pcR (gd (pcL l 4) i) := by
 have hl : ps.length = (pcL l 4).length := by have := congrArg List.length h; rwa [erPs_len, List.length_map] at this
 exact ⟨hl, fun i hi => by rw [← erPs_gd hi, h, gd_map _ (by omega)]⟩
theorem pieces_b {v : Value} {xs : List (Sl Rect)} (h1 : Rs G L slT v xs) (hd : RsE G L rectT xs) (hlay : isLay (er xs) = true) (k : ∀ v' ps, erPs ps = (pcL (er xs) 4).map pcR → ps.length ≤ 25600 → R v' G (osl 63 pieceT v' ps :: bagS 140 rectT (regs ps) :: L)) : CallT Tryz.prog 87 #[v] G L R :=
 pieces_s h1 hd hlay fun v' ps h => k v' ps h (by have := pcL_len (er xs) 4; have := (erPs_pcL h).1; omega)
theorem set_mid {c : List Int} {n : Nat} {x : Int} (h : c.length < n) : (c ++ List.replicate (n - c.length) 0).set c.length x = c ++ [x] ++ List.replicate (n - (c.length + 1)) 0 := by
 rw [List.set_append_right _ _ (Nat.le_refl _), Nat.sub_self, show n - c.length = (n - (c.length + 1)) + 1 by omega, List.replicate_succ, List.set_cons_zero, List.append_assoc]
 simp
theorem netsOf_s {v : Value} {xs : List (Sl Rect)} (h1 : Rs G L slT v xs) (hd : RsE G L rectT xs) (hlay : isLay (er xs) = true) (k : ∀ v' zs, (er (nps zs)).map erPs = netL (er xs) → R v' G (osl 80 netT v' zs :: bagS 63 pieceT (nps zs) :: bagS 140 rectT (regs (er (nps zs)).flatten) :: L)) : CallT Tryz.prog 51 #[v] G L R := by
 have h8 : xs.length = 8 := by have := isLay_len hlay; rwa [er_len] at this
 refine CallT.enter (args := _) Tryz.func51 rfl rfl (by kernel_rfl) rfl ?_
 refine WP.seq (WP.region (RG.pv rfl (PV.asg rfl rfl) (RG.nil (WP.seq (WP.region (RG.pv rfl (PV.move (v := v) rfl rfl) ?_))))))
 refine RG.callF (vs := [v]) rfl rfl En87 rfl (pieces_b (Rs.up h1) hd.up hlay (fun v16 psv16 hev16 hlv16 => ?_))
 refine RG.pv rfl (PV.asg (v := v16) rfl rfl) (RG.nil (WP.seq (WP.region (RG.pv rfl (PV.move (v := v16) rfl rfl) (RG.pv rfl (PV.len (v := v16) rfl Tryz.underlying78 rfl SlF.o) ?_)))))
 refine RG.ot rfl (OT.make (F := intT) (a0 := 0) rfl El159 rfl (by decide) rfl rfl (by omega) (by omega) fun v19 => ?_)
 refine RG.pv rfl (PV.asg (v := v19) rfl rfl) (RG.nil (WP.seq (WP.seq (WP.region (RG.pv rfl (PV.move (v := v19) rfl rfl) (RG.pv rfl (PV.len (v := v19) rfl Tryz.underlying159 rfl SlF.o) (RG.ml rfl rfl rfl ?_)))))))
 refine RG.nil (WP.block ?_)
 obtain ⟨hpl, hpe⟩ := erPs_pcL hev16
 have hpl2 := pcL_len (er xs) 4
 have hJe : ∀ n i, n < psv16.length → i < psv16.length → jnI (er xs) (erP (gd psv16 n)) (erP (gd psv16 i)) = JL (er xs) n i := fun n i hn hi => by
   rw [hpe n hn, hpe i hi]
   exact jn_eq hlay (pcL_gd_isL (by omega)) (pcL_gd_isL (by omega)) (pcL_gd_len (by omega)) (pcL_gd_len (by omega))
 have hlr : (List.replicate psv16.length (0 : Int)).length = psv16.length := List.length_replicate
 have hcr : ∀ i, i < psv16.length → Rs G (osl 63 pieceT v16 psv16 :: bagS 140 rectT (regs psv16) :: L) rectT (gd psv16 i).reg.v (gd psv16 i).reg.xs := fun i hi => by
   have := Rs.inBag (G := G) (L := osl 63 pieceT v16 psv16 :: bagS 140 rectT (regs psv16) :: L) (e := 140) (F := rectT) (xs := regs psv16) i (by rw [regs_len]; exact hi)
   rwa [regs_gd hi] at this
 refine WP.cv (Cv.eqS (show List.replicate psv16.length 0 = rootsJ (JL (er xs)) 0 ++ List.replicate (psv16.length - 0) 0 from rfl)) ?_
 refine WP.loop1 [0, 3, 4, 21] (fun i => i ≤ psv16.length) (fun i => [(22, vi i)]) (fun i => osl 3 intT v19 (rootsJ (JL (er xs)) i ++ List.replicate (psv16.length - i) 0) :: osl 63 pieceT v16 psv16 :: bagS 140 rectT (regs psv16) :: L) (fun i => psv16.length - i) 0 (by omega) ⟨rfl, trivial⟩ Cv.p ?_
 rintro i τ hi
 refine WP.seq (WP.region (RG.pv rfl (PV.lss rfl rfl rfl) (RG.nil (WP.seq ?_))))
 have hrl := rootsJ_len (JL (er xs)) i
 have hal : (rootsJ (JL (er xs)) i ++ List.replicate (psv16.length - i) (0 : Int)).length = psv16.length := by simp [hrl]; omega
 refine WP.cond rfl (fun h3 => ?_) (fun h3 => ?_)
 · have h3 := of_decide_eq_true h3
   have h4 : i < psv16.length := by omega
   have hsm := set_mid (c := rootsJ (JL (er xs)) i) (n := psv16.length) (x := (i : Int)) (by omega)
   rw [hrl] at hsm
   refine WP.skip (WP.seq (WP.block (WP.seq (WP.region (RG.ml rfl rfl rfl (RG.mr rfl rfl rfl (RG.nil ?_)))))))
   refine WP.seq (WP.region (RG.pv rfl (PV.move (v := v19) rfl rfl) (RG.ml rfl rfl rfl (RG.ml rfl rfl rfl (RG.pv rfl (PV.idxS (v := v19) rfl Is159 rfl SlF.o rfl rfl (by omega)) ?_)))))
   refine RG.ot rfl (OT.storeE (F := intT) rfl Sz3 rfl rfl rfl (Cl.c rfl) (OneC.c rfl) (by omega) ?_)
   refine RG.nil (WP.seq (WP.region (RG.ml rfl rfl rfl (RG.ml rfl rfl rfl (RG.nil (WP.block ?_))))))
   refine WP.cv (Cv.eqS (hsm.trans (by rw [← inJ_zero (JL (er xs))]))) ?_
   refine WP.loop1 [0, 3, 4, 5, 21, 22, 29] (fun n => n ≤ i) (fun n => [(30, vi n)]) (fun n => osl 3 intT v19 (inJ (JL (er xs)) i (rootsJ (JL (er xs)) i) n ++ List.replicate (psv16.length - (i + 1)) 0) :: osl 63 pieceT v16 psv16 :: bagS 140 rectT (regs psv16) :: L) (fun n => i - n) 0 (by omega) ⟨rfl, trivial⟩ Cv.p ?_
   rintro n τ1 hn
   refine WP.seq (WP.region (RG.pv rfl (PV.lss rfl rfl rfl) (RG.nil (WP.seq ?_))))
   have hil := inJ_len (JL (er xs)) i (rootsJ (JL (er xs)) i) n
   have hil2 : (inJ (JL (er xs)) i (rootsJ (JL (er xs)) i) n).length = i + 1 := by omega
   have hin := fun j hj => inJ_le (J := JL (er xs)) (i := i) (k := n) (j := j) hn hj
   have hsc := inJ_succ (JL (er xs)) i (rootsJ (JL (er xs)) i) n
   generalize hceq : inJ (JL (er xs)) i (rootsJ (JL (er xs)) i) n = c at *
   have hal2 : (c ++ List.replicate (psv16.length - (i + 1)) (0 : Int)).length = psv16.length := by simp [hil2]; omega
   refine WP.cond rfl (fun h5 => ?_) (fun h5 => ?_)
   · have h5 := of_decide_eq_true h5
     have h6 : n < i := by omega
     have hgn : gd (c ++ List.replicate (psv16.length - (i + 1)) (0 : Int)) n = gd c n := gd_app_l (by omega)
     have hgi : gd (c ++ List.replicate (psv16.length - (i + 1)) (0 : Int)) i = gd c i := gd_app_l (by omega)
     have hin1 := hin n (by omega)
     have hin2 := hin i (by omega)
     have hJn := hJe n i (by omega) h4
     refine WP.skip (WP.seq (WP.block (WP.seq (WP.region (RG.ml rfl rfl rfl (RG.mr rfl rfl rfl (RG.nil ?_)))))))
     refine WP.seq (WP.seq ?_)
     refine WP.regionQ (by kernel_rfl) (by kernel_rfl) ?_
     refine RQ.pv rfl (PV.move (v := v19) rfl rfl) ?_
     refine RQ.pv rfl (PV.mvI (.inl rfl) rfl) ?_
     refine RQ.pv rfl (PV.idxS (v := v19) rfl Is159 rfl SlF.o rfl rfl (by omega)) ?_
     refine RQ.pv rfl (PV.loadE1 rfl Sc3 rfl rfl (El.o (getG (by omega))) rfl) ?_
     refine RQ.pv rfl (PV.move (v := v19) rfl rfl) ?_
     refine RQ.pv rfl (PV.mvI (.inl rfl) rfl) ?_
     refine RQ.pv rfl (PV.idxS (v := v19) rfl Is159 rfl SlF.o rfl rfl (by omega)) ?_
     refine RQ.pv rfl (PV.loadE1 rfl Sc3 rfl rfl (El.o (getG (by omega))) rfl) ?_
     refine RQ.pv rfl (PV.eql rfl rfl rfl) ?_
     refine RQ.pv rfl (PV.mvB (.inl rfl) rfl) ?_
     refine RQ.gs rfl rfl rfl (fun hp => (PV.move (v := v) rfl rfl)) ?_
     refine RQ.gs rfl rfl rfl (fun hp => (PV.move (v := v16) rfl rfl)) ?_
     refine RQ.gs rfl rfl rfl (fun hp => (PV.mvI (.inl rfl) rfl)) ?_
     refine RQ.gs rfl rfl rfl (fun hp => (PV.idxS (v := v16) rfl Is78 (gs_t hp) SlF.o (gs_t hp) rfl (by first | omega | (simp at hp; omega)))) ?_
     refine RQ.gs rfl rfl rfl (fun hp => (PV.loadE rfl Ag63 (gs_t hp) rfl (El.o (getG (by first | omega | (simp at hp; omega)))))) ?_
     refine RQ.gs rfl rfl rfl (fun hp => (PV.move (v := v16) rfl rfl)) ?_
     refine RQ.gs rfl rfl rfl (fun hp => (PV.mvI (.inl rfl) rfl)) ?_
     refine RQ.gs rfl rfl rfl (fun hp => (PV.idxS (v := v16) rfl Is78 (gs_t hp) SlF.o (gs_t hp) rfl (by first | omega | (simp at hp; omega)))) ?_
     refine RQ.gs rfl rfl rfl (fun hp => (PV.loadE rfl Ag63 (gs_t hp) rfl (El.o (getG (by first | omega | (simp at hp; omega)))))) ?_
     refine RQ.gsC rfl rfl rfl rfl En66 (fun hp => ⟨_, (acons (gs_t hp) (acons (gs_t hp) (acons (gs_t hp) anil))), joined_s (Rs.up h1) hd.up h8 (hcr n (by omega)).up (hcr i (by omega)).up ⟨rfl, rfl, rfl⟩⟩) ?_
     refine RQ.gs rfl rfl rfl (fun hp => (PV.not rfl (gs_t hp))) ?_
     refine RQ.pv rfl (PV.pickO rfl rfl rfl (fun hq => gs_t (geqF hq))) ?_
     refine RQ.nil ?_
     refine WP.cond rfl (fun h7 => ?_) (fun h7 => ?_)
     · have hs : gd c n = gd c i ∨ JL (er xs) n i = false := by
         rw [hgn, hgi, hJn] at h7; revert h7
         cases JL (er xs) n i <;> simp
       refine WP.exit ?_
       refine WP.region (RG.pv rfl (PV.add rfl rfl rfl (by omega)) (RG.ml rfl rfl rfl (RG.nil ?_)))
       exact ⟨rfl, n + 1, (by omega), ⟨rfl, trivial⟩, ⟨rfl, rfl, rfl, rfl, rfl, rfl, rfl, trivial⟩, (Cv.eqS (by rw [hsc, stepJ_same hs])), by omega⟩
     · have hs : ¬ (gd c n = gd c i ∨ JL (er xs) n i = false) := by
         rw [hgn, hgi, hJn] at h7; revert h7
         cases JL (er xs) n i <;> simp
       have hhi0 : max (gd c n) (gd c i) ≠ 0 := by rw [not_or] at hs; omega
       refine WP.skip (WP.seq ?_)
       refine WP.regionQ (by kernel_rfl) (by kernel_rfl) ?_
       refine RQ.pv rfl (PV.move (v := v19) rfl rfl) ?_
       refine RQ.pv rfl (PV.mvI (.inl rfl) rfl) ?_
       refine RQ.pv rfl (PV.idxS (v := v19) rfl Is159 rfl SlF.o rfl rfl (by omega)) ?_
       refine RQ.pv rfl (PV.loadE1 rfl Sc3 rfl rfl (El.o (getG (by omega))) rfl) ?_
       refine RQ.pv rfl (PV.move (v := v19) rfl rfl) ?_
       refine RQ.pv rfl (PV.mvI (.inl rfl) rfl) ?_
       refine RQ.pv rfl (PV.idxS (v := v19) rfl Is159 rfl SlF.o rfl rfl (by omega)) ?_
       refine RQ.pv rfl (PV.loadE1 rfl Sc3 rfl rfl (El.o (getG (by omega))) rfl) ?_
       refine RQ.pv rfl (PV.min2 rfl rfl rfl) ?_
       refine RQ.pv rfl (PV.move (v := v19) rfl rfl) ?_
       refine RQ.pv rfl (PV.mvI (.inl rfl) rfl) ?_
       refine RQ.pv rfl (PV.idxS (v := v19) rfl Is159 rfl SlF.o rfl rfl (by omega)) ?_
       refine RQ.pv rfl (PV.loadE1 rfl Sc3 rfl rfl (El.o (getG (by omega))) rfl) ?_
       refine RQ.pv rfl (PV.move (v := v19) rfl rfl) ?_
       refine RQ.pv rfl (PV.mvI (.inl rfl) rfl) ?_
       refine RQ.pv rfl (PV.idxS (v := v19) rfl Is159 rfl SlF.o rfl rfl (by omega)) ?_
       refine RQ.pv rfl (PV.loadE1 rfl Sc3 rfl rfl (El.o (getG (by omega))) rfl) ?_
       refine RQ.pv rfl (PV.max2 rfl rfl rfl) ?_
       refine RQ.pv rfl (PV.mvI (.inr rfl) rfl) ?_
       refine RQ.pv rfl (PV.mvI (.inr rfl) rfl) ?_
       refine RQ.nil ?_
       refine WP.seq (WP.region (RG.ml rfl rfl rfl (RG.pv rfl (PV.add rfl rfl rfl (by omega)) (RG.ml rfl rfl rfl (RG.nil (WP.block ?_))))))
       rw [hgn, hgi]
       refine WP.cv (Cv.eqS (mapTo_zero (rl (min (gd c n) (gd c i)) (max (gd c n) (gd c i))) (c ++ List.replicate (psv16.length - (i + 1)) 0)).symm) ?_
       generalize hlo : min (gd c n) (gd c i) = lo at *
       generalize hhi : max (gd c n) (gd c i) = hi2 at *
       refine WP.loop1 [0, 3, 4, 5, 7, 8, 21, 22, 29, 30, 74] (fun m => m ≤ i + 1) (fun m => [(75, vi m)]) (fun m => osl 3 intT v19 (mapTo (rl lo hi2) (c ++ List.replicate (psv16.length - (i + 1)) 0) m) :: osl 63 pieceT v16 psv16 :: bagS 140 rectT (regs psv16) :: L) (fun m => i + 1 - m) 0 (by omega) ⟨rfl, trivial⟩ Cv.p ?_
       rintro m τ2 hm
       refine WP.seq (WP.region (RG.pv rfl (PV.lss rfl rfl rfl) (RG.nil (WP.seq ?_))))
       have hml := mapTo_len (rl lo hi2) (c ++ List.replicate (psv16.length - (i + 1)) 0) (m := m) (by omega)
       refine WP.cond rfl (fun h8 => ?_) (fun h8 => ?_)
       · have h8 := of_decide_eq_true h8
         have hmg := mapTo_gd (f := rl lo hi2) (d := c ++ List.replicate (psv16.length - (i + 1)) 0) (m := m) (by omega)
         refine WP.skip (WP.seq (WP.block (WP.seq (WP.region (RG.ml rfl rfl rfl (RG.mr rfl rfl rfl (RG.nil ?_)))))))
         refine WP.seq (WP.region (RG.pv rfl (PV.move (v := v19) rfl rfl) (RG.ml rfl rfl rfl (RG.pv rfl (PV.idxS (v := v19) rfl Is159 rfl SlF.o rfl rfl (by omega)) (RG.pv rfl (PV.loadE1 rfl Sc3 rfl rfl (El.o (getG (by omega))) rfl) (RG.ml rfl rfl rfl (RG.pv rfl (PV.eql rfl rfl rfl) ?_)))))))
         refine RG.nil ?_
         refine WP.cond rfl (fun h9 => ?_) (fun h9 => ?_)
         · refine WP.region ?_
           refine RG.pv rfl (PV.move (v := v19) rfl rfl) (RG.ml rfl rfl rfl (RG.ml rfl rfl rfl (RG.pv rfl (PV.idxS (v := v19) rfl Is159 rfl SlF.o rfl rfl (by omega)) ?_)))
           refine RG.ot rfl (OT.storeE (F := intT) rfl Sz3 rfl rfl rfl (Cl.c rfl) (OneC.c rfl) (by omega) ?_)
           refine RG.nil (WP.region (RG.pv rfl (PV.add rfl rfl rfl (by omega)) (RG.ml rfl rfl rfl (RG.nil ?_))))
           exact ⟨rfl, m + 1, (by omega), ⟨rfl, trivial⟩, ⟨rfl, rfl, rfl, rfl, rfl, rfl, rfl, rfl, rfl, rfl, rfl, trivial⟩, (Cv.eqS (by rw [← mapTo_set (by omega), rl, if_pos (by rw [hmg] at h9; simpa using h9)])), by omega⟩
         · refine WP.skip ?_
           refine WP.region (RG.pv rfl (PV.add rfl rfl rfl (by omega)) (RG.ml rfl rfl rfl (RG.nil ?_)))
           exact ⟨rfl, m + 1, (by omega), ⟨rfl, trivial⟩, ⟨rfl, rfl, rfl, rfl, rfl, rfl, rfl, rfl, rfl, rfl, rfl, trivial⟩, (Cv.eqS (by rw [mapTo_skip (by omega)]; rw [rl, if_neg (by rw [hmg] at h9; simpa using h9)])), by omega⟩
       · have h8 := of_decide_eq_false h8
         obtain rfl : m = i + 1 := by omega
         have hma := mapTo_all (f := rl lo hi2) (c := c) (z := List.replicate (psv16.length - (i + 1)) 0)
         rw [hil2] at hma
         refine WP.exit ?_
         refine WP.region (RG.pv rfl (PV.add rfl rfl rfl (by omega)) (RG.ml rfl rfl rfl (RG.nil ?_)))
         exact ⟨rfl, n + 1, (by omega), ⟨rfl, trivial⟩, ⟨rfl, rfl, rfl, rfl, rfl, rfl, rfl, trivial⟩, (Cv.eqS (by rw [hma, hsc, stepJ_map hs, hlo, hhi])), by omega⟩
   · have h5 := of_decide_eq_false h5
     obtain rfl : n = i := by omega
     refine WP.exit ?_
     refine WP.region (RG.pv rfl (PV.add rfl rfl rfl (by omega)) (RG.ml rfl rfl rfl (RG.nil ?_)))
     exact ⟨rfl, n + 1, (by omega), ⟨rfl, trivial⟩, ⟨rfl, rfl, rfl, rfl, trivial⟩, (Cv.eqS (by rw [rootsJ, hceq])), by omega⟩
 · have h3 := of_decide_eq_false h3
   obtain rfl : i = psv16.length := by omega
   have hcl : rootsJ (JL (er xs)) psv16.length ++ List.replicate (psv16.length - psv16.length) 0 = clsL (er xs) := by rw [Nat.sub_self, List.replicate_zero, List.append_nil, hpl]; rfl
   refine WP.cv (Cv.eqS hcl) ?_
   have hrt := clsL_rt (er xs)
   have hcll := clsL_len (er xs)
   refine WP.exit ?_
   refine WP.cut2 [3, 4] (fun (o pq : Value) => True) (fun (o pq : Value) => [(10, o), (11, pq)]) (fun (o pq : Value) => osl 80 netT o ([] : List Net) :: osl 3 intT pq (List.replicate psv16.length 0) :: osl 3 intT v19 (clsL (er xs)) :: osl 63 pieceT v16 psv16 :: bagS 140 rectT (regs psv16) :: L) ?_ ?_
   refine WP.regionH0 (.q 1 (.q 2 (.b 0 (.q 4 (.l 3 (.q 5 Sch.nil))) 3 (.l 0 (.q 4 (.q 5 Sch.nil)))))) (by kernel_rfl) (by kernel_rfl) (by kernel_rfl) rfl ?_
   refine RH.pv rfl (fun _ _ _ _ h => h) (Gh.le_refl _) PickC.pick rfl (PV.move (v := v16) rfl rfl) ?_
   refine RH.pv rfl (fun _ _ _ _ h => h) (Gh.le_refl _) PickC.pick rfl (PV.len (v := v16) rfl Tryz.underlying78 rfl SlF.o) ?_
   · refine RH.ot2 rfl rfl rfl rfl  (OT.bslice (F := netT) (els := []) rfl El44 rfl (by decide) rfl (by decide) trivial fun v91 => ⟨Gh.le_refl _, PickC.pick, ?_⟩) (OT.make (F := intT) (a0 := 0) rfl El159 rfl (by decide) rfl rfl (by omega) (by omega) fun v94 => ⟨Gh.le_refl _, PickC.pick, ?_⟩)
     · refine RH.pv rfl (fun _ _ _ _ h => h) (Gh.le_refl _) PickC.pick rfl (PV.asg (v := v91) rfl rfl) ?_
       refine RH.ot rfl rfl (OT.make (F := intT) (a0 := 0) rfl El159 rfl (by decide) rfl rfl (by omega) (by omega) fun v94 => ⟨Gh.le_refl _, PickC.pick, ?_⟩)
       refine RH.pv rfl (fun _ _ _ _ h => h) (Gh.le_refl _) PickC.pick rfl (PV.asg (v := v94) rfl rfl) ?_
       refine RH.nil ?_
       exact ⟨rfl, v91, v94, trivial, ⟨rfl, rfl, trivial⟩, ⟨rfl, rfl, trivial⟩, Cv.p⟩
     · refine RH.ot rfl rfl (OT.bslice (F := netT) (els := []) rfl El44 rfl (by decide) rfl (by decide) trivial fun v91 => ⟨Gh.le_refl _, PickC.pick, ?_⟩)
       refine RH.pv rfl (fun _ _ _ _ h => h) (Gh.le_refl _) PickC.pick rfl (PV.asg (v := v91) rfl rfl) ?_
       refine RH.pv rfl (fun _ _ _ _ h => h) (Gh.le_refl _) PickC.pick rfl (PV.asg (v := v94) rfl rfl) ?_
       refine RH.nil ?_
       exact ⟨rfl, v91, v94, trivial, ⟨rfl, rfl, trivial⟩, ⟨rfl, rfl, trivial⟩, Cv.p⟩
   have hpr : ∀ j, j < 0 → gd (clsL (er xs)) j = (j : Int) → gd (List.replicate psv16.length (0 : Int)) j = (cntR (clsL (er xs)) j : Int) := fun j h => by omega
   rintro o pq τ3 _
   refine WP.seq (WP.seq (WP.region (RG.pv rfl (PV.move (v := v16) rfl rfl) (RG.pv rfl (PV.len (v := v16) rfl Tryz.underlying78 rfl SlF.o) (RG.ml rfl rfl rfl (RG.nil (WP.block ?_)))))))
   refine WP.cv ((Cv.cons (Cv.bag0 (e := 63) (F := pieceT) (xs := nps []) rfl))) ?_
   refine WP.loop4 [4, 11, 95, 96] (fun (i : Nat) (zs : List Net) (pl : List Int) (q : Value) => i ≤ psv16.length ∧ er (nps zs) = netsP (clsL (er xs)) psv16 i ∧ pl.length = psv16.length ∧ ∀ j, j < i → gd (clsL (er xs)) j = (j : Int) → gd pl j = (cntR (clsL (er xs)) j : Int)) (fun (i : Nat) (zs : List Net) (pl : List Int) (q : Value) => [(97, vi i), (10, q)]) (fun (i : Nat) (zs : List Net) (pl : List Int) (q : Value) => osl 80 netT q zs :: bagS 63 pieceT (nps zs) :: osl 3 intT pq pl :: osl 3 intT v19 (clsL (er xs)) :: osl 63 pieceT v16 psv16 :: bagS 140 rectT (regs psv16) :: L) (fun (i : Nat) (zs : List Net) (pl : List Int) (q : Value) => psv16.length - i) 0 [] (List.replicate psv16.length 0) o ⟨by omega, rfl, hlr, hpr⟩ ⟨rfl, rfl, trivial⟩ Cv.p ?_
   rintro i zs pl q τ4 ⟨hi2, hzs, hpll, hpl3⟩
   refine WP.seq (WP.region (RG.pv rfl (PV.lss rfl rfl rfl) (RG.nil (WP.seq ?_))))
   have hcl0 := cntR_le (clsL (er xs)) i
   have hzl : zs.length = cntR (clsL (er xs)) i := by have := congrArg List.length hzs; rwa [er_len, nps_len, netsP_len] at this
   refine WP.cond rfl (fun h10 => ?_) (fun h10 => ?_)
   · have h10 := of_decide_eq_true h10
     have h11 : i < psv16.length := by omega
     have h12 : i < (clsL (er xs)).length := by omega
     obtain ⟨g1, g2⟩ := numbers_at h12 hrt
     have hcs := cntR_succ (clsL (er xs)) i
     refine WP.skip (WP.seq (WP.block (WP.seq (WP.region (RG.ml rfl rfl rfl (RG.pv rfl (PV.idxS (v := v16) rfl Is78 rfl SlF.o rfl rfl (by omega)) (RG.pv rfl (PV.loadE rfl Ag63 rfl rfl (El.o (getG (by omega)))) ?_)))))))
     refine RG.ot rfl (OT.alloc rfl Zr63 fun b13 => ?_)
     refine RG.mr rfl rfl rfl ?_
     refine RG.ot rfl (OT.storeW (vs := [vi _, _]) rfl Sz63 rfl rfl (Cl.c rfl) rfl rfl (OneC.val rfl (OneC.sl (SlF.r (hcr i h11)) OneC.nil)) ?_)
     refine RG.nil ?_
     refine WP.cut3 [4, 11, 12, 13, 95, 96, 97] (fun (zs2 : List Net) (pl2 : List Int) (q2 : Value) => er (nps zs2) = netsE (clsL (er xs)) psv16 i ∧ pl2.length = psv16.length ∧ ∀ j, j < i + 1 → gd (clsL (er xs)) j = (j : Int) → gd pl2 j = (cntR (clsL (er xs)) j : Int)) (fun (zs2 : List Net) (pl2 : List Int) (q2 : Value) => [(10, q2)]) (fun (zs2 : List Net) (pl2 : List Int) (q2 : Value) => osl 80 netT q2 zs2 :: bagS 63 pieceT (nps zs2) :: osl 3 intT pq pl2 :: osl 3 intT v19 (clsL (er xs)) :: osl 63 pieceT v16 psv16 :: bagS 140 rectT (regs psv16) :: blk b13 63 (pieceT.enc (gd psv16 i)) :: L) ?_ ?_
     refine WP.seq (WP.region (RG.pv rfl (PV.move (v := v19) rfl rfl) (RG.ml rfl rfl rfl (RG.pv rfl (PV.idxS (v := v19) rfl Is159 rfl SlF.o rfl rfl (by omega)) (RG.pv rfl (PV.loadE1 rfl Sc3 rfl rfl (El.o (getG (by omega))) rfl) (RG.ml rfl rfl rfl (RG.pv rfl (PV.eql rfl rfl rfl) ?_)))))))
     refine RG.nil ?_
     · refine WP.cond rfl (fun h13 => ?_) (fun h13 => ?_)
       · have h13 : gd (clsL (er xs)) i = (i : Int) := by simpa using h13
         refine WP.seq (WP.region (RG.pv rfl (PV.move (v := pq) rfl rfl) (RG.ml rfl rfl rfl (RG.pv rfl (PV.move (v := q) rfl rfl) (RG.pv rfl (PV.len (v := q) rfl Tryz.underlying44 rfl SlF.o) (RG.pv rfl (PV.idxS (v := pq) rfl Is159 rfl SlF.o rfl rfl (by omega)) ?_))))))
         refine RG.ot rfl (OT.storeE (a := (zs.length : Int)) (F := intT) rfl Sz3 rfl rfl rfl (Cl.c rfl) (OneC.c rfl) (by omega) ?_)
         refine RG.nil (WP.region (RG.pv rfl (PV.move (v := q) rfl rfl) (RG.pv rfl (PV.build (vs := []) (out := [_]) rfl Zr80 Pl80 trivial rfl) ?_)))
         refine RG.ot rfl (OT.bslice (F := netT) (els := [⟨⟨.slice none 0 0, []⟩⟩]) rfl El44 rfl (by decide) rfl (by decide) ⟨rfl, (Cl.c rfl), trivial⟩ fun v115 => ?_)
         refine RG.ot rfl (OT.append (v := q) (u := v115) (F := netT) rfl El44 rfl (by decide) rfl rfl Rs.o (OneL.one (OneC.c rfl)) rfl (by first | omega | (simp <;> omega)) fun v116 => ?_)
         refine RG.pv rfl (PV.asg (v := v116) rfl rfl) (RG.nil ?_)
         refine ⟨rfl, (zs ++ [⟨⟨.slice none 0 0, []⟩⟩]), (pl.set i (zs.length : Int)), v116, ⟨?_, by simpa using hpll, ?_⟩, ⟨rfl, trivial⟩, ⟨rfl, rfl, rfl, rfl, rfl, rfl, rfl, trivial⟩, ((Cv.p (C := osl 80 netT v116 (zs ++ [⟨⟨.slice none 0 0, []⟩⟩]) :: bagS 63 pieceT (nps zs) :: osl 3 intT pq (pl.set i (zs.length : Int)) :: osl 3 intT v19 (clsL (er xs)) :: osl 63 pieceT v16 psv16 :: bagS 140 rectT (regs psv16) :: blk b13 63 (pieceT.enc (gd psv16 i)) :: L)).trans (Cv.cons (Cv.nilS.trans (Cv.grow (by rw [nps_append]; rfl)))))⟩
         · rw [nps_append, er_append, hzs, netsE, if_pos h13]; rfl
         · intro j hj hr
           by_cases c : j = i
           · subst c; simp [gd, hpll, h11, hzl]
           · have := hpl3 j (by omega) hr
             simpa [gd, List.getElem?_set, Ne.symm c] using this
       · have h13 : gd (clsL (er xs)) i ≠ (i : Int) := by simpa using h13
         refine WP.skip ?_
         refine ⟨rfl, zs, pl, q, ⟨by rw [hzs, netsE, if_neg h13], hpll, fun j hj hr => ?_⟩, ⟨rfl, trivial⟩, ⟨rfl, rfl, rfl, rfl, rfl, rfl, rfl, trivial⟩, Cv.p⟩
         by_cases c : j = i
         · subst c; exact absurd hr h13
         · exact hpl3 j (by omega) hr
     rintro zs2 pl2 q2 τ5 ⟨hzs2, hpll2, hpl4⟩
     have hzl2 : zs2.length = cntR (clsL (er xs)) (i + 1) := by have := congrArg List.length hzs2; rwa [er_len, nps_len, netsE_len] at this
     have hnl := numR_lt hrt h12 (Nat.lt_add_one i)
     have hr3 := (hrt i h12).2.2
     have hplg : gd pl2 (gd (clsL (er xs)) i).toNat = (numR (clsL (er xs)) i : Int) := by rw [hpl4 _ (by omega) (by rw [hr3]; omega)]; rfl
     have hme : (gd zs2 (numR (clsL (er xs)) i)).pieces.xs = gd (netsE (clsL (er xs)) psv16 i) (numR (clsL (er xs)) i) := by rw [← hzs2, er_gd, nps_gd (by omega)]
     have hml3 : (gd zs2 (numR (clsL (er xs)) i)).pieces.xs.length ≤ 25600 := by
       rw [hme, netsE_gd hrt h12 hnl, List.length_map]
       have := List.length_filter_le (fun j => decide (numR (clsL (er xs)) j = numR (clsL (er xs)) i)) (List.range i)
       rw [List.length_range] at this; omega
     refine WP.cv ((Cv.cons (Cv.bagS_take (numR (clsL (er xs)) i) (by rw [nps_len]; omega))).trans (Cv.cast (by rw [nps_gd (by omega)]))) ?_
     refine WP.seq (WP.region (RG.pv rfl (PV.move (v := q2) rfl rfl) (RG.pv rfl (PV.move (v := pq) rfl rfl) (RG.pv rfl (PV.move (v := v19) rfl rfl) (RG.ml rfl rfl rfl (RG.pv rfl (PV.idxS (v := v19) rfl Is159 rfl SlF.o rfl rfl (by omega)) (RG.pv rfl (PV.loadE1 rfl Sc3 rfl rfl (El.o (getG (by omega))) rfl) ?_)))))))
     refine RG.pv rfl (PV.idxS (j := (gd (clsL (er xs)) i).toNat) (v := pq) rfl Is159 rfl SlF.o rfl (by omega) (by omega)) (RG.pv rfl (PV.loadE1 rfl Sc3 rfl rfl (El.o (getG (by omega))) rfl) (RG.pv rfl (PV.idxS (j := numR (clsL (er xs)) i) (v := q2) rfl Is44 rfl SlF.o rfl (by omega) (by omega)) (RG.pv rfl (PV.mvP (.inr rfl) rfl) (RG.nil ?_))))
     refine WP.regionHD [.s q2, .s (gd zs2 (numR (clsL (er xs)) i)).pieces.v] (.q 0 (.q 1 (.q 2 (.q 3 (.q 5 (.b 4 (.l 6 (.l 7 (.q 8 (.q 9 (.l 10 Sch.nil))))) 6 (.l 4 (.l 7 (.q 8 (.q 9 (.l 10 Sch.nil))))))))))) (by kernel_rfl) (by kernel_rfl) (by kernel_rfl) rfl ?_
     refine RH.pv rfl (fun _ _ _ _ h => h) (Gh.le_refl _) PickC.pick rfl (PV.mvP (.inl rfl) rfl) ?_
     refine RH.pv rfl (fun _ _ _ _ h => h) (Gh.le_refl _) PickC.pick rfl (PV.mvP (.inl rfl) rfl) ?_
     refine RH.pv rfl (fun _ _ _ _ h => h) (Gh.le_refl _) PickC.pick rfl (PV.nilc rfl rfl) ?_
     refine RH.pv rfl (fun _ _ _ _ h => h) (Gh.le_refl _) PickC.pick rfl (PV.field rfl Fo80_0 rfl) ?_
     refine RH.pv rfl (fun _ _ _ _ h => h) (Gh.le_refl _) PickC.pick rfl (PV.loadW rfl Ag63 rfl rfl) ?_
     have hfin : er (nps (zs2.set (numR (clsL (er xs)) i) ⟨⟨default, (gd zs2 (numR (clsL (er xs)) i)).pieces.xs ++ [gd psv16 i]⟩⟩)) = netsP (clsL (er xs)) psv16 (i + 1) := by
       rw [nps_set, er_set, hzs2, netsP_succ hrt h12, hme]
     have hfin2 : ∀ w, er (nps (zs2.set (numR (clsL (er xs)) i) ⟨⟨w, (gd zs2 (numR (clsL (er xs)) i)).pieces.xs ++ [gd psv16 i]⟩⟩)) = netsP (clsL (er xs)) psv16 (i + 1) := fun w => by
       rw [← hfin, nps_set, nps_set, er_set, er_set]
     refine RH.ot2 rfl rfl rfl rfl  (OT.pv (PV.loadF (v := q2) (j := 0) rfl Sc78 rfl rfl (El.o (getG (by omega))) rfl) ⟨Gh.le_refl _, PickC.pick, ?_⟩) (OT.bslice (F := pieceT) (els := [⟨(gd psv16 i).layer, (gd psv16 i).reg⟩]) rfl El78 rfl (by decide) rfl (by decide) ⟨rfl, (Cl.c rfl), trivial⟩ fun v132 => ⟨Gh.le_refl _, PickC.pick, ?_⟩)
     · refine RH.ot rfl rfl (OT.bslice (F := pieceT) (els := [⟨(gd psv16 i).layer, (gd psv16 i).reg⟩]) rfl El78 rfl (by decide) rfl (by decide) ⟨rfl, (Cl.c rfl), trivial⟩ fun v132 => ⟨Gh.le_refl _, PickC.pick, ?_⟩)
       refine RH.ot rfl rfl (OT.append (v := (gd zs2 (numR (clsL (er xs)) i)).pieces.v) (u := v132) (F := pieceT) rfl El78 rfl (by decide) rfl rfl Rs.o (OneL.one (OneC.val rfl (OneC.sl (SlF.r (hcr i h11)) OneC.nil))) rfl (by first | omega | (simp <;> omega)) fun v133 => ⟨Gh.le_refl _, PickC.pick, ?_⟩)
       refine RH.pv rfl (fun _ _ _ _ h => h) (Gh.le_refl _) PickC.pick rfl (PV.nilc rfl rfl) ?_
       refine RH.pv rfl (fun _ _ _ _ h => h) (Gh.le_refl _) PickC.pick rfl (PV.field rfl Fo80_0 rfl) ?_
       refine RH.ot rfl rfl (OT.storeF (F := netT) (val := Sl.v) (cv := fun u => [u.v]) (u := ⟨v133, (gd zs2 (numR (clsL (er xs)) i)).pieces.xs ++ [gd psv16 i]⟩) (st := Net.s0) rfl Sz78 rfl rfl rfl (Cl.s (v := v133) SlF.o) rfl (OneC.sl SlF.o OneC.nil) (by exact set_self (by omega)) (by first | omega | (simp; omega)) rfl (fun _ _ => rfl) ⟨Gh.le_refl _, PickC.pick, ?_⟩)
       refine RH.nil ?_
       refine WP.region (RG.pv rfl (PV.add rfl rfl rfl (by first | omega | (simp only [List.length_set]; omega))) (RG.ml rfl rfl rfl (RG.nil ?_)))
       exact ⟨rfl, i + 1, (zs2.set (numR (clsL (er xs)) i) ⟨⟨v133, (gd zs2 (numR (clsL (er xs)) i)).pieces.xs ++ [gd psv16 i]⟩⟩), pl2, q2, ⟨by omega, hfin2 _, hpll2, hpl4⟩, ⟨rfl, rfl, trivial⟩, ⟨rfl, rfl, rfl, rfl, trivial⟩, ((Cv.p (C := osl 63 pieceT v133 ((gd zs2 (numR (clsL (er xs)) i)).pieces.xs ++ [gd psv16 i]) :: osl 80 netT q2 (zs2.set (numR (clsL (er xs)) i) ⟨⟨v133, (gd zs2 (numR (clsL (er xs)) i)).pieces.xs ++ [gd psv16 i]⟩⟩) :: bag (((nps zs2).map (ownS 63 pieceT)).set (numR (clsL (er xs)) i) emp) :: osl 3 intT pq pl2 :: osl 3 intT v19 (clsL (er xs)) :: osl 63 pieceT v16 psv16 :: bagS 140 rectT (regs psv16) :: L)).trans (Cv.slotN _ (by omega))), by omega⟩
     · refine RH.ot rfl rfl (OT.pv (PV.loadF (v := q2) (j := 0) rfl Sc78 rfl rfl (El.o (getG (by omega))) rfl) ⟨Gh.le_refl _, PickC.pick, ?_⟩)
       refine RH.ot rfl rfl (OT.append (v := (gd zs2 (numR (clsL (er xs)) i)).pieces.v) (u := v132) (F := pieceT) rfl El78 rfl (by decide) rfl rfl Rs.o (OneL.one (OneC.val rfl (OneC.sl (SlF.r (hcr i h11)) OneC.nil))) rfl (by first | omega | (simp <;> omega)) fun v133 => ⟨Gh.le_refl _, PickC.pick, ?_⟩)
       refine RH.pv rfl (fun _ _ _ _ h => h) (Gh.le_refl _) PickC.pick rfl (PV.nilc rfl rfl) ?_
       refine RH.pv rfl (fun _ _ _ _ h => h) (Gh.le_refl _) PickC.pick rfl (PV.field rfl Fo80_0 rfl) ?_
       refine RH.ot rfl rfl (OT.storeF (F := netT) (val := Sl.v) (cv := fun u => [u.v]) (u := ⟨v133, (gd zs2 (numR (clsL (er xs)) i)).pieces.xs ++ [gd psv16 i]⟩) (st := Net.s0) rfl Sz78 rfl rfl rfl (Cl.s (v := v133) SlF.o) rfl (OneC.sl SlF.o OneC.nil) (by exact set_self (by omega)) (by first | omega | (simp; omega)) rfl (fun _ _ => rfl) ⟨Gh.le_refl _, PickC.pick, ?_⟩)
       refine RH.nil ?_
       refine WP.region (RG.pv rfl (PV.add rfl rfl rfl (by first | omega | (simp only [List.length_set]; omega))) (RG.ml rfl rfl rfl (RG.nil ?_)))
       exact ⟨rfl, i + 1, (zs2.set (numR (clsL (er xs)) i) ⟨⟨v133, (gd zs2 (numR (clsL (er xs)) i)).pieces.xs ++ [gd psv16 i]⟩⟩), pl2, q2, ⟨by omega, hfin2 _, hpll2, hpl4⟩, ⟨rfl, rfl, trivial⟩, ⟨rfl, rfl, rfl, rfl, trivial⟩, ((Cv.p (C := osl 63 pieceT v133 ((gd zs2 (numR (clsL (er xs)) i)).pieces.xs ++ [gd psv16 i]) :: osl 80 netT q2 (zs2.set (numR (clsL (er xs)) i) ⟨⟨v133, (gd zs2 (numR (clsL (er xs)) i)).pieces.xs ++ [gd psv16 i]⟩⟩) :: bag (((nps zs2).map (ownS 63 pieceT)).set (numR (clsL (er xs)) i) emp) :: osl 3 intT pq pl2 :: osl 3 intT v19 (clsL (er xs)) :: osl 63 pieceT v16 psv16 :: bagS 140 rectT (regs psv16) :: L)).trans (Cv.slotN _ (by omega))), by omega⟩
   · have h10 := of_decide_eq_false h10
     obtain rfl : i = psv16.length := by omega
     have hpm := netsP_perm hrt psv16 (by omega)
     rw [← hzs] at hpm
     have hfin : (er (nps zs)).map erPs = netL (er xs) := by
       rw [hzs, netL, ← hev16, erPs, ← hpl, netsP_map erP _ _ (Nat.le_refl _)]; rfl
     refine WP.exit ?_
     refine WP.seq (WP.region (RG.pv rfl (PV.move (v := q) rfl rfl) (RG.pv rfl (PV.asg (v := q) rfl rfl) (RG.nil ?_))))
     refine WP.ret ?_
     exact ⟨_, _, ResV.one rfl rfl, ((Cv.p (C := bagS 140 rectT (regs psv16) :: osl 80 netT q zs :: bagS 63 pieceT (nps zs) :: L)).trans ((Cv.bagPerm (ys := regs (er (nps zs)).flatten) (hpm.symm.map Piece.reg)).trans Cv.p)), k q zs hfin⟩
end Go.Proofs.YthhjapiggekjbaaGreat
namespace Go.Proofs.YthhjapiggekjbaaGreat
set_option linter.unusedVariables false
set_option linter.unusedSimpArgs false
open Go
set_option maxRecDepth 20000
set_option linter.unusedSimpArgs false
variable {G : Gh} {L : List Ch} {R : Value → Gh → List Ch → Prop}
noncomputable def netE (l : List (List Rect)) : Int := bif isLay l then (if 24 < netN l then 3 else 0) else 1
noncomputable def netR (l : List (List Rect)) : List (List (Int × List Rect)) := if netE l = 0 then netL l else []
theorem netE_ok {l : List (List Rect)} (h : netE l = 0) : isLay l = true ∧ netN l ≤ 24 := by
 unfold netE at h
 cases hl : isLay l
 · rw [hl] at h; cases h
 · rw [hl] at h
   refine ⟨rfl, ?_⟩
   by_cases c : 24 < netN l
   · simp [c] at h
   · omega
theorem nets_i {v : Value} {xs : List (Sl Rect)} (h1 : Rs G L slT v xs) (hd : RsE G L rectT xs) (k : ∀ v' zs, (er (nps zs)).map erPs = netR (er xs) → R (.tuple #[v', vi (netE (er xs))]) G (osl 80 netT v' zs :: bagS 63 pieceT (nps zs) :: bagS 140 rectT (regs (er (nps zs)).flatten) :: L)) : CallT Tryz.prog 25 #[v] G L R := by
 refine CallT.enter (args := _) Tryz.func25 rfl rfl (by kernel_rfl) rfl ?_
 refine WP.seq (WP.region (RG.pv rfl (PV.asg rfl rfl) (RG.mr rfl rfl rfl (RG.nil (WP.seq (WP.seq (WP.region ?_)))))))
 refine RG.pv rfl (PV.move (v := v) rfl rfl) ?_
 refine RG.callF (vs := [v]) rfl rfl En50 rfl (isLayout_s (Rs.up h1) hd.up ?_)
 refine RG.pv rfl (PV.not rfl rfl) (RG.nil ?_)
 refine WP.cond rfl (fun h2 => ?_) (fun h2 => ?_)
 · have h3 : isLay (er xs) = false := by simpa using h2
   have e : netE (er xs) = 1 := by rw [netE, h3]; rfl
   have e2 : netR (er xs) = [] := by rw [netR, e]; rfl
   rw [e, e2] at k
   refine WP.seq (WP.region (RG.pv rfl (PV.asg rfl rfl) (RG.mr rfl rfl rfl (RG.nil ?_))))
   refine WP.ret ?_
   exact ⟨_, _, ResV.two rfl rfl rfl, (Cv.nilS.trans (Cv.cons ((Cv.bag0 (e := 140) (F := rectT) (xs := regs []) rfl).trans (Cv.bag0 (e := 63) (F := pieceT) (xs := nps []) rfl)))), k _ [] rfl⟩
 · have h3 : isLay (er xs) = true := by simpa using h2
   refine WP.skip (WP.seq (WP.region (RG.pv rfl (PV.move (v := v) rfl rfl) ?_)))
   refine RG.callF (vs := [v]) rfl rfl En51 rfl (netsOf_s (Rs.up h1) hd.up h3 (fun v9 zsv9 hev9 => ?_))
   refine RG.pv rfl (PV.asg (v := v9) rfl rfl) (RG.nil (WP.seq (WP.seq (WP.region (RG.pv rfl (PV.move (v := v9) rfl rfl) (RG.pv rfl (PV.len (v := v9) rfl Tryz.underlying44 rfl SlF.o) (RG.pv rfl (PV.gtr rfl rfl rfl) ?_)))))))
   refine RG.nil ?_
   have hzl : zsv9.length = netN (er xs) := by
     have := congrArg List.length hev9
     rwa [List.length_map, er_len, nps_len, netL_len] at this
   refine WP.cond rfl (fun h4 => ?_) (fun h4 => ?_)
   · have h4 := of_decide_eq_true h4
     have e : netE (er xs) = 3 := by rw [netE, h3, cond_true, if_pos (by omega)]
     have e2 : netR (er xs) = [] := by rw [netR, e]; rfl
     rw [e, e2] at k
     refine WP.seq (WP.region (RG.pv rfl (PV.asg rfl rfl) (RG.mr rfl rfl rfl (RG.nil ?_))))
     refine WP.ret ?_
     exact ⟨_, _, ResV.two rfl rfl rfl, ((Cv.p (C := L)).trans (Cv.nilS.trans (Cv.cons ((Cv.bag0 (e := 140) (F := rectT) (xs := regs []) rfl).trans (Cv.bag0 (e := 63) (F := pieceT) (xs := nps []) rfl))))), k _ [] rfl⟩
   · have h4 := of_decide_eq_false h4
     have e : netE (er xs) = 0 := by rw [netE, h3, cond_true, if_neg (by omega)]
     have e2 : netR (er xs) = netL (er xs) := by rw [netR, e]; rfl
     rw [e, e2] at k
     refine WP.skip (WP.seq (WP.region (RG.pv rfl (PV.move (v := v9) rfl rfl) (RG.pv rfl (PV.asg (v := v9) rfl rfl) (RG.mr rfl rfl rfl (RG.nil ?_))))))
     refine WP.ret ?_
     exact ⟨_, _, ResV.two rfl rfl rfl, Cv.p, k v9 zsv9 hev9⟩
/-- all slices of a bag, by membership -/
theorem Rs.mem {α : Type} {G : Gh} {L L' : List Ch} {e : TypeId} {F : FT α} {xs : List (Sl α)} [hX : ExBg xs L e F L'] {s : Sl α} (h : s ∈ xs) : Rs G L F s.v s.xs := by
 obtain ⟨i, hi, rfl⟩ := List.getElem_of_mem h
 have := Rs.inBag (G := G) (L := L) (L' := L') (e := e) (F := F) (xs := xs) i hi
 rwa [gd_eq hi] at this
theorem RsE.flat {G : Gh} {L L' : List Ch} {e : TypeId} {zs : List Net} [hX : ExBg (regs (er (nps zs)).flatten) L e rectT L'] {i : Nat} (hi : i < zs.length) : RsE G L rectT (regs (gd zs i).pieces.xs) := fun j hj => by
 rw [regs_len] at hj
 rw [regs_gd hj]
 refine Rs.mem (L := L) (L' := L') (e := e) (xs := regs (er (nps zs)).flatten) (List.mem_map_of_mem ?_)
 refine List.mem_flatten.2 ⟨(gd zs i).pieces.xs, ?_, gd_mem hj⟩
 rw [← nps_gd hi, ← er_gd]
 exact gd_mem (by rw [er_len, nps_len]; exact hi)
theorem l17Cell_c {v : Value} {S : List Bool} {x y : Int} (h1 : Rs G L boolT v S) (hS : S.length = 6400) (k : R (.bool (cellB S x y)) G L) : CallT Tryz.prog 160 #[v, vi x, vi y] G L R := l17Cell_s h1 hS k
theorem l23Find_s {u w : Value} {l : List (List Rect)} {cs : List Part} {n : Int} {q : Pt} (h1 : Rs G L partT u cs) (hcd : RsE G L boolT (cels cs)) (h2 : Rs G L intT w (nums (clsL l))) (hcs : cs.map erC = pcL l 4) (k : R (vi (findL l n q.x q.y)) G L) : CallT Tryz.prog 114 #[u, w, vi n, vpt q] G L R := by
 have hcl : cs.length = (pcL l 4).length := by rw [← hcs, List.length_map]
 have hpl := pcL_len l 4
 have hce : ∀ i, i < cs.length → erC (gd cs i) = gd (pcL l 4) i := fun i hi => by rw [← hcs, gd_map _ hi]
 have hc6 : ∀ i, i < cs.length → (gd cs i).cells.xs.length = 6400 := fun i hi => by
   have := pcL_gd_len (l := l) (i := i) (by omega)
   rw [← hce i hi] at this; exact this
 have hcr : ∀ i, i < cs.length → Rs G L boolT (gd cs i).cells.v (gd cs i).cells.xs := fun i hi => by
   have := hcd i (by rw [cels_len]; exact hi); rwa [cels_gd hi] at this
 have hnl : (nums (clsL l)).length = cs.length := by rw [nums, List.length_map, List.length_range, clsL_len, hcl]
 refine CallT.enter (args := _) Tryz.func114 rfl rfl (by kernel_rfl) rfl ?_
 refine WP.seq (WP.region ?_)
 refine RG.ot rfl (OT.box (cs := ptT.enc q) rfl rfl rfl fun b7 => ?_)
 refine RG.mr rfl rfl rfl (RG.nil (WP.seq (WP.seq (WP.region (RG.mr rfl rfl rfl (RG.nil (WP.block ?_)))))))
 refine WP.loop1 [0, 1, 2, 7] (fun i => i ≤ cs.length ∧ ∀ j, j < i → atB n q.x q.y (gd (pcL l 4) j) = false) (fun i => [(9, vi i)]) (fun i => blk b7 183 (ptT.enc q) :: L) (fun i => cs.length - i) 0 ⟨by omega, fun j h => by omega⟩ ⟨rfl, trivial⟩ Cv.p ?_
 rintro i τ ⟨hi, hn⟩
 refine WP.seq (WP.seq (WP.region (RG.ml rfl rfl rfl (RG.pv rfl (PV.move (v := u) rfl rfl) (RG.pv rfl (PV.len (v := u) rfl Tryz.underlying161 rfl (SlF.r h1)) (RG.pv rfl (PV.lss rfl rfl rfl) (RG.nil ?_)))))))
 refine WP.cond rfl (fun h3 => ?_) (fun h3 => ?_)
 · have h3 := of_decide_eq_true h3
   have h4 : i < cs.length := by omega
   have hat : atB n q.x q.y (gd (pcL l 4) i) = (decide ((gd cs i).layer = n) && cellB (gd cs i).cells.xs q.x q.y) := by rw [← hce i h4]; rfl
   refine WP.skip (WP.seq (WP.block (WP.seq ?_)))
   refine WP.regionQ (by kernel_rfl) (by kernel_rfl) ?_
   refine RQ.pv rfl (PV.move (v := u) rfl rfl) ?_
   refine RQ.pv rfl (PV.mvI (.inl rfl) rfl) ?_
   refine RQ.pv rfl (PV.idxS (v := u) rfl Is161 rfl (SlF.r h1) rfl rfl (by omega)) ?_
   refine RQ.pv rfl (PV.field rfl Fo166_0 rfl) ?_
   refine RQ.pv rfl (PV.loadF rfl Sc2 rfl rfl (El.r h1 (getG (by omega))) rfl) ?_
   refine RQ.pv rfl (PV.mvI (.inl rfl) rfl) ?_
   refine RQ.pv rfl (PV.eql rfl rfl rfl) ?_
   refine RQ.pv rfl (PV.mvB (.inl rfl) rfl) ?_
   refine RQ.gs rfl rfl rfl (fun hp => (PV.move (v := u) rfl rfl)) ?_
   refine RQ.gs rfl rfl rfl (fun hp => (PV.mvI (.inl rfl) rfl)) ?_
   refine RQ.gs rfl rfl rfl (fun hp => (PV.idxS (v := u) rfl Is161 (gs_t hp) (SlF.r h1) (gs_t hp) rfl (by first | omega | (simp at hp; omega)))) ?_
   refine RQ.gs rfl rfl rfl (fun hp => (PV.field rfl Fo166_1 (gs_t hp))) ?_
   refine RQ.gs rfl rfl rfl (fun hp => (PV.loadF rfl Sc109 (gs_t hp) rfl (El.r h1 (getG (by first | omega | (simp at hp; omega)))) rfl)) ?_
   refine RQ.gs rfl rfl rfl (fun hp => (PV.field rfl Fo183_0 rfl)) ?_
   refine RQ.gs rfl rfl rfl (fun hp => (PV.load1 rfl Sc2 (gs_t hp) (Rd.blk rfl))) ?_
   refine RQ.gs rfl rfl rfl (fun hp => (PV.field rfl Fo183_1 rfl)) ?_
   refine RQ.gs rfl rfl rfl (fun hp => (PV.load1 rfl Sc2 (gs_t hp) (Rd.blk rfl))) ?_
   refine RQ.gsC rfl rfl rfl rfl En160 (fun hp => ⟨_, (acons (gs_t hp) (acons (gs_t hp) (acons (gs_t hp) anil))), l17Cell_c (hcr i (by omega)).up (hc6 i (by omega)) ⟨rfl, rfl, rfl⟩⟩) ?_
   refine RQ.pv rfl (PV.pickA rfl rfl (fun hq => gs_t (geqT hq)) rfl) ?_
   refine RQ.nil ?_
   refine WP.cond rfl (fun h5 => ?_) (fun h5 => ?_)
   · have hg : gd (nums (clsL l)) i = (numR (clsL l) i : Int) := by
       rw [nums, gd_map _ (by rw [List.length_range, clsL_len]; omega)]
       simp [gd, clsL_len, ← hcl, h4]
     rw [findL_at (i := i) (by omega) (by rw [hat]; exact h5), ← hg] at k
     refine WP.seq (WP.region (RG.pv rfl (PV.move (v := w) rfl rfl) (RG.ml rfl rfl rfl (RG.pv rfl (PV.idxS (v := w) rfl Is26 rfl (SlF.r h2) rfl rfl (by omega)) (RG.pv rfl (PV.loadE1 rfl Sc2 rfl rfl (El.r h2 (getG (by omega))) rfl) (RG.mr rfl rfl rfl (RG.nil ?_)))))))
     refine WP.ret ?_
     exact ⟨_, _, ResV.one rfl rfl, Cv.p, k⟩
   · refine WP.skip ?_
     refine WP.region (RG.ml rfl rfl rfl (RG.pv rfl (PV.add rfl rfl rfl (by omega)) (RG.mr rfl rfl rfl (RG.nil ?_))))
     exact ⟨rfl, i + 1, ⟨by omega, col_next hn (by rw [hat]; exact h5)⟩, ⟨rfl, trivial⟩, ⟨rfl, rfl, rfl, rfl, trivial⟩, Cv.p, by omega⟩
 · have h3 := of_decide_eq_false h3
   rw [findL_none (fun j hj => hn j (by omega))] at k
   refine WP.exit ?_
   refine WP.seq (WP.region (RG.mr rfl rfl rfl (RG.nil ?_)))
   refine WP.ret ?_
   exact ⟨_, _, ResV.one rfl rfl, Cv.p, k⟩
end Go.Proofs.YthhjapiggekjbaaGreat
namespace Go.Proofs.YthhjapiggekjbaaGreat
set_option linter.unusedVariables false
set_option linter.unusedSimpArgs false
open Go
set_option maxRecDepth 20000
set_option linter.unusedSimpArgs false
variable {G : Gh} {L : List Ch} {R : Value → Gh → List Ch → Prop}
theorem unitCell_s {p : Pt} (k : R (.bool (within p.x (-40) 39 && within p.y (-40) 39)) G L) : CallT Tryz.prog 250 #[vpt p] G L R := by
 refine CallT.enter (args := _) Tryz.func250 rfl rfl (by kernel_rfl) rfl ?_
 refine WP.seq (WP.region ?_)
 refine RG.ot rfl (OT.box (cs := ptT.enc p) rfl rfl rfl fun b1 => ?_)
 refine RG.br rfl rfl rfl (RG.nil (WP.seq (WP.region (RG.pv rfl (PV.field rfl Fo183_0 rfl) (RG.pv rfl (PV.load1 rfl Sc2 rfl (Rd.blk rfl)) ?_)))))
 refine RG.callF (vs := [_, _, _]) rfl rfl En43 rfl (within_s ?_)
 refine RG.bl rfl rfl rfl ?_
 refine RG.gs rfl rfl rfl (fun hp => (PV.field rfl Fo183_1 rfl)) ?_
 refine RG.gs rfl rfl rfl (fun hp => (PV.load1 rfl Sc2 (gs_t hp) (Rd.blk rfl))) ?_
 refine RG.gsC rfl rfl rfl rfl En43 (fun hp => ⟨_, (acons (gs_t hp) (acons rfl (acons rfl anil))), within_s ⟨rfl, rfl, rfl⟩⟩) ?_
 refine RG.pv rfl (PV.pickA rfl rfl (fun hq => gs_t (geqT hq)) rfl) (RG.br rfl rfl rfl (RG.nil ?_))
 refine WP.ret ?_
 exact ⟨_, _, ResV.one rfl rfl, Cv.p, k⟩
end Go.Proofs.YthhjapiggekjbaaGreat
namespace Go.Proofs.YthhjapiggekjbaaGreat
set_option linter.unusedVariables false
set_option linter.unusedSimpArgs false
open Go
set_option maxRecDepth 20000
set_option linter.unusedSimpArgs false
variable {G : Gh} {L : List Ch} {R : Value → Gh → List Ch → Prop}
def nameByte (c : UInt8) : Bool := decide (97 ≤ c.toNat) && decide (c.toNat ≤ 122) || decide (48 ≤ c.toNat) && decide (c.toNat ≤ 57)
def isName (s : ByteArray) : Bool := decide (1 ≤ s.size) && decide (s.size ≤ 8) && decide (∀ i, i < s.size → nameByte (bt s i) = true)
theorem isName_all {s : ByteArray} (h : ∀ i, i < s.size → nameByte (bt s i) = true) : isName s = (decide (1 ≤ (s.size : Int)) && decide ((s.size : Int) ≤ 8)) := by
 simp only [isName, decide_eq_true h, Bool.and_true]
 congr 1 <;> (rw [decide_eq_decide]; omega)
theorem isName_not {s : ByteArray} {i : Nat} (h : i < s.size) (e : nameByte (bt s i) = false) : isName s = false := by
 simp only [isName, Bool.and_eq_false_iff, decide_eq_false_iff_not]
 exact .inr fun hh => by rw [hh i h] at e; cases e
theorem isName_i {s : ByteArray} (hs : s.size ≤ 9223372036854775807) (k : R (.bool (isName s)) G L) : CallT Tryz.prog 233 #[.string s] G L R := by
 refine CallT.enter (args := _) Tryz.func233 rfl rfl (by kernel_rfl) rfl ?_
 refine WP.seq (WP.region (RG.br rfl rfl rfl (RG.nil (WP.seq (WP.seq (WP.region (RG.mr rfl rfl rfl ?_)))))))
 refine RG.nil (WP.block ?_)
 refine WP.loop1 [0] (fun i => i ≤ s.size ∧ ∀ j, j < i → nameByte (bt s j) = true) (fun i => [(3, vi i)]) (fun i => L) (fun i => s.size - i) 0 ⟨by omega, fun j h => by omega⟩ ⟨rfl, trivial⟩ Cv.p ?_
 rintro i τ ⟨hi, hb⟩
 refine WP.seq (WP.seq (WP.region (RG.ml rfl rfl rfl (RG.pv rfl (PV.mvS (.inl rfl) rfl) (RG.pv rfl (PV.lenS rfl Tryz.underlying9 rfl) (RG.pv rfl (PV.lss rfl rfl rfl) (RG.nil ?_)))))))
 refine WP.cond rfl (fun h1 => ?_) (fun h1 => ?_)
 · have h1 := of_decide_eq_true h1
   refine WP.skip (WP.seq (WP.block (WP.seq (WP.region (RG.pv rfl (PV.mvS (.inl rfl) rfl) (RG.ml rfl rfl rfl (RG.pv rfl (PV.idxStr rfl Tryz.underlying9 rfl rfl rfl (getBG (by omega))) ?_)))))))
   refine RG.pv rfl (PV.lss rfl rfl rfl) (RG.bl rfl rfl rfl ?_)
   refine RG.gs rfl rfl rfl (fun hp => (PV.mvS (.inl rfl) rfl)) ?_
   refine RG.gs rfl rfl rfl (fun hp => (PV.mvI (.inl rfl) rfl)) ?_
   refine RG.gs rfl rfl rfl (fun hp => (PV.idxStr rfl Tryz.underlying9 (gs_t hp) (gs_t hp) rfl (getBG (by first | omega | (simp at hp; omega))))) ?_
   refine RG.gs rfl rfl rfl (fun hp => (PV.gtr rfl (gs_t hp) rfl)) ?_
   refine RG.pv rfl (PV.pickO rfl rfl rfl (fun hq => gs_t (geqF hq))) (RG.bl rfl rfl rfl ?_)
   refine RG.gs rfl rfl rfl (fun hp => (PV.mvS (.inl rfl) rfl)) ?_
   refine RG.gs rfl rfl rfl (fun hp => (PV.mvI (.inl rfl) rfl)) ?_
   refine RG.gs rfl rfl rfl (fun hp => (PV.idxStr rfl Tryz.underlying9 (gs_t hp) (gs_t hp) rfl (getBG (by first | omega | (simp at hp; omega))))) ?_
   refine RG.gs rfl rfl rfl (fun hp => (PV.lss rfl (gs_t hp) rfl)) ?_
   refine RG.gs rfl rfl rfl (fun hp => (PV.mvB (.inl rfl) (gs_t hp))) ?_
   refine RG.gs2 rfl rfl rfl (fun hp => (PV.mvS (.inl rfl) rfl)) ?_
   refine RG.gs2 rfl rfl rfl (fun hp => (PV.mvI (.inl rfl) rfl)) ?_
   refine RG.gs2 rfl rfl rfl (fun hp => (PV.idxStr rfl Tryz.underlying9 (gs_t hp) (gs_t hp) rfl (getBG (by first | omega | (simp at hp; omega))))) ?_
   refine RG.gs2 rfl rfl rfl (fun hp => (PV.gtr rfl (gs_t hp) rfl)) ?_
   refine RG.gs rfl rfl rfl (fun hp => (PV.pickO rfl (gs_t hp) rfl (fun hq => gs_t (gandF hp hq)))) ?_
   refine RG.pv rfl (PV.pickA rfl rfl (fun hq => gs_t (geqT hq)) rfl) (RG.nil ?_)
   refine WP.cond rfl (fun h2 => ?_) (fun h2 => ?_)
   · have e : isName s = false := isName_not (i := i) (by omega) (by simp [nameByte] at h2 ⊢; omega)
     rw [e] at k
     refine WP.seq (WP.region (RG.br rfl rfl rfl (RG.nil ?_)))
     refine WP.ret ?_
     exact ⟨_, _, ResV.one rfl rfl, Cv.p, k⟩
   · have h3 : nameByte (bt s i) = true := by
       simp [nameByte] at h2 ⊢; omega
     have hj : ∀ j, j < i + 1 → nameByte (bt s j) = true := fun j h => by
       by_cases e : j = i
       · subst e; exact h3
       · exact hb j (by omega)
     refine WP.skip (WP.region (RG.ml rfl rfl rfl (RG.pv rfl (PV.add rfl rfl rfl (by omega)) (RG.mr rfl rfl rfl (RG.nil ?_)))))
     exact ⟨rfl, i + 1, ⟨by omega, hj⟩, ⟨rfl, trivial⟩, ⟨rfl, trivial⟩, Cv.p, by omega⟩
 · have h1 := of_decide_eq_false h1
   have e := isName_all (s := s) (fun j h => hb j (by omega))
   rw [e] at k
   refine WP.exit ?_
   refine WP.seq (WP.region (RG.pv rfl (PV.mvS (.inl rfl) rfl) (RG.pv rfl (PV.lenS rfl Tryz.underlying9 rfl) (RG.pv rfl (PV.geq rfl rfl rfl) (RG.bl rfl rfl rfl ?_)))))
   refine RG.gs rfl rfl rfl (fun hp => (PV.mvS (.inl rfl) rfl)) ?_
   refine RG.gs rfl rfl rfl (fun hp => (PV.lenS rfl Tryz.underlying9 (gs_t hp))) ?_
   refine RG.gs rfl rfl rfl (fun hp => (PV.leq rfl (gs_t hp) rfl)) ?_
   refine RG.pv rfl (PV.pickA rfl rfl (fun hq => gs_t (geqT hq)) rfl) (RG.br rfl rfl rfl (RG.nil ?_))
   refine WP.ret ?_
   exact ⟨_, _, ResV.one rfl rfl, Cv.p, k⟩
theorem isName_r {s : ByteArray} (hs : s.size ≤ 9223372036854775807) (k : R (.bool (isName s)) G L) : CallT Tryz.prog 197 #[.string s] G L R := by
 refine CallT.enter (args := _) Tryz.func197 rfl rfl (by kernel_rfl) rfl ?_
 refine WP.seq (WP.region (RG.br rfl rfl rfl (RG.nil (WP.seq (WP.seq (WP.region (RG.mr rfl rfl rfl ?_)))))))
 refine RG.nil (WP.block ?_)
 refine WP.loop1 [0] (fun i => i ≤ s.size ∧ ∀ j, j < i → nameByte (bt s j) = true) (fun i => [(3, vi i)]) (fun i => L) (fun i => s.size - i) 0 ⟨by omega, fun j h => by omega⟩ ⟨rfl, trivial⟩ Cv.p ?_
 rintro i τ ⟨hi, hb⟩
 refine WP.seq (WP.seq (WP.region (RG.ml rfl rfl rfl (RG.pv rfl (PV.mvS (.inl rfl) rfl) (RG.pv rfl (PV.lenS rfl Tryz.underlying9 rfl) (RG.pv rfl (PV.lss rfl rfl rfl) (RG.nil ?_)))))))
 refine WP.cond rfl (fun h1 => ?_) (fun h1 => ?_)
 · have h1 := of_decide_eq_true h1
   refine WP.skip (WP.seq (WP.block (WP.seq (WP.region (RG.pv rfl (PV.mvS (.inl rfl) rfl) (RG.ml rfl rfl rfl (RG.pv rfl (PV.idxStr rfl Tryz.underlying9 rfl rfl rfl (getBG (by omega))) ?_)))))))
   refine RG.pv rfl (PV.geq rfl rfl rfl) (RG.bl rfl rfl rfl ?_)
   refine RG.gs rfl rfl rfl (fun hp => (PV.mvS (.inl rfl) rfl)) ?_
   refine RG.gs rfl rfl rfl (fun hp => (PV.mvI (.inl rfl) rfl)) ?_
   refine RG.gs rfl rfl rfl (fun hp => (PV.idxStr rfl Tryz.underlying9 (gs_t hp) (gs_t hp) rfl (getBG (by first | omega | (simp at hp; omega))))) ?_
   refine RG.gs rfl rfl rfl (fun hp => (PV.leq rfl (gs_t hp) rfl)) ?_
   refine RG.pv rfl (PV.pickA rfl rfl (fun hq => gs_t (geqT hq)) rfl) (RG.bl rfl rfl rfl ?_)
   refine RG.gs rfl rfl rfl (fun hp => (PV.mvS (.inl rfl) rfl)) ?_
   refine RG.gs rfl rfl rfl (fun hp => (PV.mvI (.inl rfl) rfl)) ?_
   refine RG.gs rfl rfl rfl (fun hp => (PV.idxStr rfl Tryz.underlying9 (gs_t hp) (gs_t hp) rfl (getBG (by first | omega | (simp at hp; omega))))) ?_
   refine RG.gs rfl rfl rfl (fun hp => (PV.geq rfl (gs_t hp) rfl)) ?_
   refine RG.gs rfl rfl rfl (fun hp => (PV.mvB (.inl rfl) (gs_t hp))) ?_
   refine RG.gs2 rfl rfl rfl (fun hp => (PV.mvS (.inl rfl) rfl)) ?_
   refine RG.gs2 rfl rfl rfl (fun hp => (PV.mvI (.inl rfl) rfl)) ?_
   refine RG.gs2 rfl rfl rfl (fun hp => (PV.idxStr rfl Tryz.underlying9 (gs_t hp) (gs_t hp) rfl (getBG (by first | omega | (simp at hp; omega))))) ?_
   refine RG.gs2 rfl rfl rfl (fun hp => (PV.leq rfl (gs_t hp) rfl)) ?_
   refine RG.gs rfl rfl rfl (fun hp => (PV.pickA rfl (gs_t hp) (fun hq => gs_t (gandT hp hq)) rfl)) ?_
   refine RG.pv rfl (PV.pickO rfl rfl rfl (fun hq => gs_t (geqF hq))) (RG.pv rfl (PV.not rfl rfl) (RG.nil ?_))
   refine WP.cond rfl (fun h2 => ?_) (fun h2 => ?_)
   · have e : isName s = false := isName_not (i := i) (by omega) (by simp [nameByte] at h2 ⊢; omega)
     rw [e] at k
     refine WP.seq (WP.region (RG.br rfl rfl rfl (RG.nil ?_)))
     refine WP.ret ?_
     exact ⟨_, _, ResV.one rfl rfl, Cv.p, k⟩
   · have h3 : nameByte (bt s i) = true := by
       simp [nameByte] at h2 ⊢; omega
     have hj : ∀ j, j < i + 1 → nameByte (bt s j) = true := fun j h => by
       by_cases e : j = i
       · subst e; exact h3
       · exact hb j (by omega)
     refine WP.skip (WP.region (RG.ml rfl rfl rfl (RG.pv rfl (PV.add rfl rfl rfl (by omega)) (RG.mr rfl rfl rfl (RG.nil ?_)))))
     exact ⟨rfl, i + 1, ⟨by omega, hj⟩, ⟨rfl, trivial⟩, ⟨rfl, trivial⟩, Cv.p, by omega⟩
 · have h1 := of_decide_eq_false h1
   have e := isName_all (s := s) (fun j h => hb j (by omega))
   rw [e] at k
   refine WP.exit ?_
   refine WP.seq (WP.region (RG.pv rfl (PV.mvS (.inl rfl) rfl) (RG.pv rfl (PV.lenS rfl Tryz.underlying9 rfl) (RG.pv rfl (PV.geq rfl rfl rfl) (RG.bl rfl rfl rfl ?_)))))
   refine RG.gs rfl rfl rfl (fun hp => (PV.mvS (.inl rfl) rfl)) ?_
   refine RG.gs rfl rfl rfl (fun hp => (PV.lenS rfl Tryz.underlying9 (gs_t hp))) ?_
   refine RG.gs rfl rfl rfl (fun hp => (PV.leq rfl (gs_t hp) rfl)) ?_
   refine RG.pv rfl (PV.pickA rfl rfl (fun hq => gs_t (geqT hq)) rfl) (RG.br rfl rfl rfl (RG.nil ?_))
   refine WP.ret ?_
   exact ⟨_, _, ResV.one rfl rfl, Cv.p, k⟩
def unitB (p : Pt) : Bool := within p.x (-40) 39 && within p.y (-40) 39
def validLb (l : Label) : Bool := (within l.layer 0 7 && unitB l.at_) && isName l.name
theorem validLb_i {l : Label} (hs : l.name.size ≤ 9223372036854775807) (k : R (.bool (validLb l)) G L) : CallT Tryz.prog 239 #[vT labelT l] G L R := by
 refine CallT.enter (args := _) Tryz.func239 rfl rfl (by kernel_rfl) rfl ?_
 refine WP.seq (WP.region ?_)
 refine RG.ot rfl (OT.box (cs := labelT.enc l) rfl rfl rfl fun b1 => ?_)
 refine RG.br rfl rfl rfl (RG.nil (WP.seq (WP.region (RG.pv rfl (PV.field rfl Fo193_0 rfl) (RG.pv rfl (PV.load1 rfl Sc2 rfl (Rd.blk rfl)) ?_)))))
 refine RG.callF (vs := [_, _, _]) rfl rfl En43 rfl (within_s ?_)
 refine RG.bl rfl rfl rfl ?_
 refine RG.gs rfl rfl rfl (fun hp => (PV.field rfl Fo193_1 rfl)) ?_
 refine RG.gs rfl rfl rfl (fun hp => (PV.loadB (vs := [_, _]) rfl Ag183 (gs_t hp) rfl rfl)) ?_
 refine RG.gsC rfl rfl rfl rfl En250 (fun hp => ⟨_, (acons (gs_t hp) anil), unitCell_s ⟨rfl, rfl, rfl⟩⟩) ?_
 refine RG.pv rfl (PV.pickA rfl rfl (fun hq => gs_t (geqT hq)) rfl) (RG.bl rfl rfl rfl ?_)
 refine RG.gs rfl rfl rfl (fun hp => (PV.field rfl Fo193_2 rfl)) ?_
 refine RG.gs rfl rfl rfl (fun hp => (PV.load1 rfl Sc9 (gs_t hp) (Rd.blk rfl))) ?_
 refine RG.gsC rfl rfl rfl rfl En233 (fun hp => ⟨_, (acons (gs_t hp) anil), isName_i hs ⟨rfl, rfl, rfl⟩⟩) ?_
 refine RG.pv rfl (PV.pickA rfl rfl (fun hq => gs_t (geqT hq)) rfl) (RG.br rfl rfl rfl (RG.nil ?_))
 refine WP.ret ?_
 exact ⟨_, _, ResV.one rfl rfl, Cv.p, k⟩
theorem l09In_s {a b c : Int} (k : R (.bool (within a b c)) G L) : CallT Tryz.prog 151 #[vi a, vi b, vi c] G L R := by
 refine CallT.enter (args := _) Tryz.func151 rfl rfl (by kernel_rfl) rfl ?_
 refine WP.seq (WP.region (RG.br rfl rfl rfl (RG.nil (WP.seq (WP.region (RG.ml rfl rfl rfl (RG.ml rfl rfl rfl ?_)))))))
 refine RG.pv rfl (PV.geq rfl rfl rfl) (RG.bl rfl rfl rfl ?_)
 refine RG.gs rfl rfl rfl (fun hp => (PV.mvI (.inl rfl) rfl)) ?_
 refine RG.gs rfl rfl rfl (fun hp => (PV.mvI (.inl rfl) rfl)) ?_
 refine RG.gs rfl rfl rfl (fun hp => (PV.leq rfl (gs_t hp) (gs_t hp))) ?_
 refine RG.pv rfl (PV.pickA rfl rfl (fun hq => gs_t (geqT hq)) rfl) (RG.br rfl rfl rfl (RG.nil ?_))
 refine WP.ret ?_
 exact ⟨_, _, ResV.one rfl rfl, Cv.p, k⟩
theorem l09Layer_s {a : Int} (k : R (.bool (within a 0 7)) G L) : CallT Tryz.prog 222 #[vi a] G L R := by
 refine CallT.enter (args := _) Tryz.func222 rfl rfl (by kernel_rfl) rfl ?_
 refine WP.seq (WP.region (RG.br rfl rfl rfl (RG.nil (WP.seq (WP.region (RG.ml rfl rfl rfl ?_))))))
 refine RG.callF (vs := [_, _, _]) rfl rfl En151 rfl (l09In_s ?_)
 refine RG.br rfl rfl rfl (RG.nil ?_)
 refine WP.ret ?_
 exact ⟨_, _, ResV.one rfl rfl, Cv.p, k⟩
theorem l09Unit_s {p : Pt} (k : R (.bool (unitB p)) G L) : CallT Tryz.prog 223 #[vpt p] G L R := by
 refine CallT.enter (args := _) Tryz.func223 rfl rfl (by kernel_rfl) rfl ?_
 refine WP.seq (WP.region ?_)
 refine RG.ot rfl (OT.box (cs := ptT.enc p) rfl rfl rfl fun b1 => ?_)
 refine RG.br rfl rfl rfl (RG.nil (WP.seq (WP.region (RG.pv rfl (PV.field rfl Fo183_0 rfl) (RG.pv rfl (PV.load1 rfl Sc2 rfl (Rd.blk rfl)) ?_)))))
 refine RG.callF (vs := [_, _, _]) rfl rfl En151 rfl (l09In_s ?_)
 refine RG.bl rfl rfl rfl ?_
 refine RG.gs rfl rfl rfl (fun hp => (PV.field rfl Fo183_1 rfl)) ?_
 refine RG.gs rfl rfl rfl (fun hp => (PV.load1 rfl Sc2 (gs_t hp) (Rd.blk rfl))) ?_
 refine RG.gsC rfl rfl rfl rfl En151 (fun hp => ⟨_, (acons (gs_t hp) (acons rfl (acons rfl anil))), l09In_s ⟨rfl, rfl, rfl⟩⟩) ?_
 refine RG.pv rfl (PV.pickA rfl rfl (fun hq => gs_t (geqT hq)) rfl) (RG.br rfl rfl rfl (RG.nil ?_))
 refine WP.ret ?_
 exact ⟨_, _, ResV.one rfl rfl, Cv.p, k⟩
theorem validLb_r {l : Label} (hs : l.name.size ≤ 9223372036854775807) (k : R (.bool (validLb l)) G L) : CallT Tryz.prog 199 #[vT labelT l] G L R := by
 refine CallT.enter (args := _) Tryz.func199 rfl rfl (by kernel_rfl) rfl ?_
 refine WP.seq (WP.region ?_)
 refine RG.ot rfl (OT.box (cs := labelT.enc l) rfl rfl rfl fun b1 => ?_)
 refine RG.br rfl rfl rfl (RG.nil (WP.seq (WP.region (RG.pv rfl (PV.field rfl Fo193_0 rfl) (RG.pv rfl (PV.load1 rfl Sc2 rfl (Rd.blk rfl)) ?_)))))
 refine RG.callF (vs := [_]) rfl rfl En222 rfl (l09Layer_s ?_)
 refine RG.bl rfl rfl rfl ?_
 refine RG.gs rfl rfl rfl (fun hp => (PV.field rfl Fo193_1 rfl)) ?_
 refine RG.gs rfl rfl rfl (fun hp => (PV.loadB (vs := [_, _]) rfl Ag183 (gs_t hp) rfl rfl)) ?_
 refine RG.gsC rfl rfl rfl rfl En223 (fun hp => ⟨_, (acons (gs_t hp) anil), l09Unit_s ⟨rfl, rfl, rfl⟩⟩) ?_
 refine RG.pv rfl (PV.pickA rfl rfl (fun hq => gs_t (geqT hq)) rfl) (RG.bl rfl rfl rfl ?_)
 refine RG.gs rfl rfl rfl (fun hp => (PV.field rfl Fo193_2 rfl)) ?_
 refine RG.gs rfl rfl rfl (fun hp => (PV.load1 rfl Sc9 (gs_t hp) (Rd.blk rfl))) ?_
 refine RG.gsC rfl rfl rfl rfl En197 (fun hp => ⟨_, (acons (gs_t hp) anil), isName_r hs ⟨rfl, rfl, rfl⟩⟩) ?_
 refine RG.pv rfl (PV.pickA rfl rfl (fun hq => gs_t (geqT hq)) rfl) (RG.br rfl rfl rfl (RG.nil ?_))
 refine WP.ret ?_
 exact ⟨_, _, ResV.one rfl rfl, Cv.p, k⟩
theorem indexF_label {v fv : Value} {xs : List (Label)} {p : (Label) → Bool} (h1 : Rs G L labelT v xs) (hf : ∀ i, i < xs.length → CB Tryz.prog G L fv [vT labelT (gd xs i)] (.bool (p (gd xs i)))) (k : R (vi (idxI p xs)) G L) : CallT Tryz.prog 249 #[v, fv] G L R := by
 refine CallT.bd h1 fun hb => ?_
 refine CallT.enter (args := _) Tryz.func249 rfl rfl (by kernel_rfl) rfl ?_
 refine WP.seq (WP.region (RG.mr rfl rfl rfl (RG.nil (WP.seq (WP.seq (WP.region (RG.pv rfl (PV.move (v := v) rfl rfl) ?_)))))))
 refine RG.pv rfl (PV.len (v := v) rfl Tryz.underlying113 rfl (SlF.r h1)) (RG.ml rfl rfl rfl (RG.nil (WP.block ?_)))
 refine WP.loop1 [0, 1, 7] (fun i => i ≤ xs.length ∧ ∀ j, j < i → p (gd xs j) = false) (fun i => [(8, vi i)]) (fun i => L) (fun i => xs.length - i) 0 ⟨by omega, fun j h => by omega⟩ ⟨rfl, trivial⟩ Cv.p ?_
 rintro i τ ⟨hi, hj⟩
 refine WP.seq (WP.region (RG.pv rfl (PV.lss rfl rfl rfl) (RG.nil (WP.seq ?_))))
 refine WP.cond rfl (fun h2 => ?_) (fun h2 => ?_)
 · have h2 := of_decide_eq_true h2
   refine WP.skip (WP.seq (WP.block (WP.seq (WP.region (RG.ml rfl rfl rfl (RG.mr rfl rfl rfl (RG.nil ?_)))))))
   refine WP.seq (WP.region (RG.pv rfl (PV.move (v := fv) rfl rfl) (RG.pv rfl (PV.move (v := v) rfl rfl) (RG.ml rfl rfl rfl (RG.pv rfl (PV.idxS (v := v) rfl Is113 rfl (SlF.r h1) rfl rfl (by omega)) (RG.pv rfl (PV.loadE rfl Ag193 rfl rfl (El.r h1 (getG (by omega)))) ?_))))))
   refine RG.callB (vs := [_]) rfl rfl rfl rfl (CB.up (hf i (by omega))) ?_
   refine RG.nil ?_
   refine WP.cond rfl (fun h3 => ?_) (fun h3 => ?_)
   · rw [idxI_at (by omega) h3 hj] at k
     refine WP.seq (WP.region (RG.ml rfl rfl rfl (RG.mr rfl rfl rfl (RG.nil ?_))))
     refine WP.ret ?_
     exact ⟨_, _, ResV.one rfl rfl, Cv.p, k⟩
   · have hj' : ∀ j, j < i + 1 → p (gd xs j) = false := fun j h => by
       by_cases c : j = i
       · rw [c]; exact h3
       · exact hj j (by omega)
     refine WP.skip (WP.region (RG.pv rfl (PV.add rfl rfl rfl (by omega)) (RG.ml rfl rfl rfl (RG.nil ?_))))
     exact ⟨rfl, i + 1, ⟨by omega, hj'⟩, ⟨rfl, trivial⟩, ⟨rfl, rfl, rfl, trivial⟩, Cv.p, by omega⟩
 · have h2 := of_decide_eq_false h2
   rw [idxI_none (fun j h => hj j (by omega))] at k
   refine WP.exit ?_
   refine WP.seq (WP.region (RG.mr rfl rfl rfl (RG.nil ?_)))
   refine WP.ret ?_
   exact ⟨_, _, ResV.one rfl rfl, Cv.p, k⟩
theorem containsF_label {v fv : Value} {xs : List (Label)} {p : (Label) → Bool} (h1 : Rs G L labelT v xs) (hf : ∀ i, i < xs.length → CB Tryz.prog G L fv [vT labelT (gd xs i)] (.bool (p (gd xs i)))) (k : R (.bool (xs.any p)) G L) : CallT Tryz.prog 237 #[v, fv] G L R := by
 rw [← idxI_any] at k
 refine CallT.enter (args := _) Tryz.func237 rfl rfl (by kernel_rfl) rfl ?_
 refine WP.seq (WP.region (RG.br rfl rfl rfl (RG.nil (WP.seq (WP.region (RG.pv rfl (PV.move (v := v) rfl rfl) (RG.pv rfl (PV.move (v := fv) rfl rfl) ?_)))))))
 refine RG.callF (vs := [v, fv]) rfl rfl En249 rfl (indexF_label (Rs.up h1) (fun i hi => (hf i hi).up) ?_)
 refine RG.pv rfl (PV.geq rfl rfl rfl) (RG.br rfl rfl rfl (RG.nil ?_))
 refine WP.ret ?_
 exact ⟨_, _, ResV.one rfl rfl, Cv.p, k⟩
end Go.Proofs.YthhjapiggekjbaaGreat
namespace Go.Proofs.YthhjapiggekjbaaGreat
set_option linter.unusedVariables false
set_option linter.unusedSimpArgs false
open Go
set_option linter.unusedSimpArgs false
set_option linter.unusedVariables false
set_option maxRecDepth 20000
/-- a cell, without its memory -/
structure ECell where
  name : ByteArray
  shapes : List Shape
  labels : List Label
  insts : List Inst
  deriving DecidableEq, Inhabited
def erCl (c : Cell) : ECell := ⟨c.name, c.shapes.xs, c.labels.xs, c.insts.xs⟩
def erCls (xs : List Cell) : List ECell := xs.map erCl
theorem erCls_len (xs : List Cell) : (erCls xs).length = xs.length := by simp [erCls]
theorem erCls_gd {xs : List Cell} {i : Nat} (h : i < xs.length) : gd (erCls xs) i = erCl (gd xs i) := gd_map _ h
def okSh (s : Shape) : Bool := within s.layer 0 7 && validRect s.box
def okIn (k : Int) (n : Inst) : Bool :=
  within n.cell 0 (k - 1) && validT n.place && within n.cols 1 4 && within n.rows 1 4 && within n.sx (-80) 80 && within n.sy (-80) 80 && (decide (n.sx = 0) || decide (1 < n.cols)) && (decide (n.sy = 0) || decide (1 < n.rows))
def okCell (k : Int) (c : ECell) : Bool :=
  isName c.name && decide ((c.shapes.length : Int) ≤ 24) && decide ((c.labels.length : Int) ≤ 8) && decide ((c.insts.length : Int) ≤ 8) && !(c.shapes.any fun s => !okSh s) && !(c.labels.any fun l => !validLb l) && !(c.insts.any fun n => !okIn k n)
def nameAt (cs : List ECell) (i : Nat) : Bool := decide (∀ j, j < i → (gd cs j).name ≠ (gd cs i).name)
def cellAt (cs : List ECell) (i : Nat) : Bool := okCell i (gd cs i) && nameAt cs i
def okLib (cs : List ECell) : Bool := decide (1 ≤ cs.length) && decide (cs.length ≤ 8) && decide (∀ i, i < cs.length → cellAt cs i = true)
theorem okLib_false {cs : List ECell} {i : Nat} (h : i < cs.length) (e : cellAt cs i = false) : okLib cs = false := by
 simp only [okLib, Bool.and_eq_false_iff, decide_eq_false_iff_not]
 exact .inr fun hh => by rw [hh i h] at e; cases e
theorem okLib_all {cs : List ECell} (h1 : 1 ≤ cs.length) (h2 : cs.length ≤ 8) (h : ∀ i, i < cs.length → cellAt cs i = true) : okLib cs = true := by
 simp only [okLib, Bool.and_eq_true, decide_eq_true_eq]
 exact ⟨⟨h1, h2⟩, h⟩
theorem okLib_len {cs : List ECell} (h : okLib cs = true) : 1 ≤ cs.length ∧ cs.length ≤ 8 := by
 simp only [okLib, Bool.and_eq_true, decide_eq_true_eq] at h; exact h.1
theorem okLib_cell {cs : List ECell} (h : okLib cs = true) {i : Nat} (hi : i < cs.length) : okCell i (gd cs i) = true := by
 simp only [okLib, Bool.and_eq_true, decide_eq_true_eq] at h
 have := h.2 i hi
 simp only [cellAt, Bool.and_eq_true] at this; exact this.1
theorem any_not {α : Type} [Inhabited α] {p : α → Bool} {xs : List α} (h : (xs.any fun a => !p a) = false) {i : Nat} (hi : i < xs.length) : p (gd xs i) = true := by
 rw [List.any_eq_false] at h
 have := h (gd xs i) (gd_mem hi)
 simpa using this
theorem okLib_inst {cs : List ECell} (h : okLib cs = true) {i j : Nat} (hi : i < cs.length) (hj : j < (gd cs i).insts.length) : okIn i (gd (gd cs i).insts j) = true := by
 have := okLib_cell h hi
 simp only [okCell, Bool.and_eq_true, Bool.not_eq_true'] at this
 exact any_not this.2 hj
theorem okLib_shape {cs : List ECell} (h : okLib cs = true) {i j : Nat} (hi : i < cs.length) (hj : j < (gd cs i).shapes.length) : okSh (gd (gd cs i).shapes j) = true := by
 have := okLib_cell h hi
 simp only [okCell, Bool.and_eq_true, Bool.not_eq_true'] at this
 exact any_not this.1.1.2 hj
theorem okLib_cnt {cs : List ECell} (h : okLib cs = true) {i : Nat} (hi : i < cs.length) : (gd cs i).insts.length ≤ 8 ∧ (gd cs i).shapes.length ≤ 24 := by
 have := okLib_cell h hi
 simp only [okCell, Bool.and_eq_true, decide_eq_true_eq] at this
 omega
/-- what an instance of a valid library gives -/
theorem okIn_bd {k : Int} {n : Inst} (h : okIn k n = true) : (0 ≤ n.cell ∧ n.cell ≤ k - 1) ∧ validT n.place = true ∧ (1 ≤ n.cols ∧ n.cols ≤ 4) ∧ (1 ≤ n.rows ∧ n.rows ≤ 4) ∧ (-80 ≤ n.sx ∧ n.sx ≤ 80) ∧ (-80 ≤ n.sy ∧ n.sy ≤ 80) := by
 simp only [okIn, within, Bool.and_eq_true, decide_eq_true_eq] at h
 exact ⟨h.1.1.1.1.1.1.1, h.1.1.1.1.1.1.2, h.1.1.1.1.1.2, h.1.1.1.1.2, h.1.1.1.2, h.1.1.2⟩
theorem range_gd {n q : Nat} (h : q < n) : gd (List.range n) q = q := by unfold gd; simp [h]
def elPlace (n : Inst) (c r : Int) : Trans := ⟨n.place.o, n.place.x + c * n.sx, n.place.y + r * n.sy⟩
def elsOf (n : Inst) : List HElem := (List.range (n.rows.toNat * n.cols.toNat)).map fun q => ⟨n.cell, elPlace n ((q % n.cols.toNat : Nat) : Int) ((q / n.cols.toNat : Nat) : Int)⟩
def elems (ns : List Inst) : List HElem := ns.flatMap elsOf
theorem elsOf_len (n : Inst) : (elsOf n).length = n.rows.toNat * n.cols.toNat := by simp [elsOf]
theorem elsOf_gd {n : Inst} {c r : Nat} (hc : c < n.cols.toNat) (hr : r < n.rows.toNat) : r * n.cols.toNat + c < (elsOf n).length ∧ gd (elsOf n) (r * n.cols.toNat + c) = ⟨n.cell, elPlace n c r⟩ := by
 have h1 : r * n.cols.toNat + c < n.rows.toNat * n.cols.toNat := by
   have := Nat.mul_le_mul_right n.cols.toNat (show r + 1 ≤ n.rows.toNat by omega)
   rw [Nat.add_mul] at this; omega
 refine ⟨by rw [elsOf_len]; exact h1, ?_⟩
 have hm : (r * n.cols.toNat + c) % n.cols.toNat = c := by rw [Nat.add_comm, Nat.add_mul_mod_self_right, Nat.mod_eq_of_lt hc]
 have hd : (r * n.cols.toNat + c) / n.cols.toNat = r := by rw [Nat.add_comm, Nat.add_mul_div_right _ _ (by omega), Nat.div_eq_of_lt hc, Nat.zero_add]
 have hr : gd (List.range (n.rows.toNat * n.cols.toNat)) (r * n.cols.toNat + c) = r * n.cols.toNat + c := range_gd h1
 rw [elsOf, gd_map _ (by simpa using h1), hr, hm, hd]
theorem elsOf_step {n : Inst} {c r : Nat} (hc : c < n.cols.toNat) (hr : r < n.rows.toNat) : (elsOf n).take (r * n.cols.toNat + (c + 1)) = (elsOf n).take (r * n.cols.toNat + c) ++ [⟨n.cell, elPlace n c r⟩] := by
 obtain ⟨h1, h2⟩ := elsOf_gd hc hr
 rw [← Nat.add_assoc, List.take_add_one, getG h1, h2]; rfl
theorem elems_take {ns : List Inst} {i : Nat} (h : i < ns.length) : elems (ns.take (i + 1)) = elems (ns.take i) ++ elsOf (gd ns i) := by
 rw [elems, elems, List.take_add_one, getG h, List.flatMap_append]; simp
theorem elems_split {ns : List Inst} {i : Nat} (h : i < ns.length) : elems ns = elems (ns.take i) ++ elsOf (gd ns i) ++ elems (ns.drop (i + 1)) := by
 conv => lhs; rw [← List.take_append_drop (i + 1) ns]
 rw [elems, List.flatMap_append]
 have := elems_take h
 rw [elems] at this
 rw [this]; rfl
theorem elems_at {ns : List Inst} {i c r : Nat} (h : i < ns.length) (hc : c < (gd ns i).cols.toNat) (hr : r < (gd ns i).rows.toNat) :
   (elems (ns.take i)).length + (r * (gd ns i).cols.toNat + c) < (elems ns).length ∧ gd (elems ns) ((elems (ns.take i)).length + (r * (gd ns i).cols.toNat + c)) = ⟨(gd ns i).cell, elPlace (gd ns i) c r⟩ := by
 obtain ⟨h1, h2⟩ := elsOf_gd hc hr
 rw [elems_split h]
 refine ⟨by simp only [List.length_append]; omega, ?_⟩
 rw [List.append_assoc, gd_app_at, gd_app_l h1, h2]
/-- each element is one of an instance -/
theorem elems_mem {ns : List Inst} {e : HElem} (h : e ∈ elems ns) : ∃ j c r : Nat, j < ns.length ∧ c < (gd ns j).cols.toNat ∧ r < (gd ns j).rows.toNat ∧ e = ⟨(gd ns j).cell, elPlace (gd ns j) c r⟩ := by
 obtain ⟨n, hn, he⟩ := List.mem_flatMap.1 h
 obtain ⟨j, hj, rfl⟩ := List.getElem_of_mem hn
 rw [← gd_eq hj] at he
 obtain ⟨q, hq, rfl⟩ := List.mem_map.1 he
 have hq := List.mem_range.1 hq
 have h0 : 0 < (gd ns j).cols.toNat := by
   rcases Nat.eq_zero_or_pos (gd ns j).cols.toNat with h | h
   · rw [h] at hq; omega
   · exact h
 exact ⟨j, q % (gd ns j).cols.toNat, q / (gd ns j).cols.toNat, hj, Nat.mod_lt _ h0, (Nat.div_lt_iff_lt_mul h0).2 hq, rfl⟩
theorem mul_bd {a b A B : Int} (ha : 0 ≤ a ∧ a ≤ A) (hb : -B ≤ b ∧ b ≤ B) (hB : 0 ≤ B) : -(A * B) ≤ a * b ∧ a * b ≤ A * B := by
 have h1 : a * b ≤ a * B := Int.mul_le_mul_of_nonneg_left hb.2 ha.1
 have h2 : a * -B ≤ a * b := Int.mul_le_mul_of_nonneg_left hb.1 ha.1
 have h3 : a * B ≤ A * B := Int.mul_le_mul_of_nonneg_right ha.2 hB
 rw [Int.mul_neg] at h2
 omega
theorem elPlace_bd {k : Int} {n : Inst} (h : okIn k n = true) {c r : Nat} (hc : c < n.cols.toNat) (hr : r < n.rows.toNat) : (0 ≤ (elPlace n c r).o ∧ (elPlace n c r).o ≤ 7) ∧ (-320 ≤ (elPlace n c r).x ∧ (elPlace n c r).x ≤ 320) ∧ -320 ≤ (elPlace n c r).y ∧ (elPlace n c r).y ≤ 320 := by
 obtain ⟨_, h2, h3, h4, h5, h6⟩ := okIn_bd h
 obtain ⟨q1, q2, q3⟩ := validT_iff.1 h2
 have e1 := mul_bd (a := (c : Int)) (b := n.sx) (A := 3) (B := 80) (by omega) h5 (by omega)
 have e2 := mul_bd (a := (r : Int)) (b := n.sy) (A := 3) (B := 80) (by omega) h6 (by omega)
 refine ⟨q1, ?_, ?_⟩ <;> simp only [elPlace] <;> omega
theorem elem_bd {cs : List ECell} (h : okLib cs = true) {k : Nat} (hk : k < cs.length) {i : Nat} (hi : i < (elems (gd cs k).insts).length) :
   (0 ≤ (gd (elems (gd cs k).insts) i).cell ∧ (gd (elems (gd cs k).insts) i).cell < k) ∧ (0 ≤ (gd (elems (gd cs k).insts) i).place.o ∧ (gd (elems (gd cs k).insts) i).place.o ≤ 7) ∧ (-320 ≤ (gd (elems (gd cs k).insts) i).place.x ∧ (gd (elems (gd cs k).insts) i).place.x ≤ 320) ∧ -320 ≤ (gd (elems (gd cs k).insts) i).place.y ∧ (gd (elems (gd cs k).insts) i).place.y ≤ 320 := by
 obtain ⟨j, c, r, hj, hc, hr, e⟩ := elems_mem (gd_mem hi)
 have ho := okLib_inst h hk hj
 rw [e]
 exact ⟨by have := (okIn_bd ho).1; simp only; omega, elPlace_bd ho hc hr⟩
theorem elems_bd {cs : List ECell} (h : okLib cs = true) {k : Nat} (hk : k < cs.length) : ∀ i, i ≤ (gd cs k).insts.length → (elems ((gd cs k).insts.take i)).length ≤ 16 * i
 | 0, _ => by simp [elems]
 | i + 1, hi => by
   have ih := elems_bd h hk i (by omega)
   obtain ⟨_, _, h3, h4, _, _⟩ := okIn_bd (okLib_inst h hk (j := i) (by omega))
   have := Nat.mul_le_mul (show (gd (gd cs k).insts i).rows.toNat ≤ 4 by omega) (show (gd (gd cs k).insts i).cols.toNat ≤ 4 by omega)
   rw [elems_take (by omega), List.length_append, elsOf_len]; omega
theorem elems_len_bd {cs : List ECell} (h : okLib cs = true) {k : Nat} (hk : k < cs.length) : (elems (gd cs k).insts).length ≤ 128 := by
 have := elems_bd h hk _ (Nat.le_refl _)
 rw [List.take_of_length_le (Nat.le_refl _)] at this
 have := (okLib_cnt h hk).1
 omega
def cntI (ks : List Int) (n : Inst) : Int := n.cols * n.rows * gd ks n.cell.toNat
def ownCnt (ks : List Int) (ns : List Inst) : Int := 1 + costL (cntI ks) ns
def cnts (cs : List ECell) : Nat → List Int
  | 0 => []
  | n + 1 => cnts cs n ++ [ownCnt (cnts cs n) (gd cs n).insts]
theorem cnts_len (cs : List ECell) : ∀ n, (cnts cs n).length = n
 | 0 => rfl
 | n + 1 => by simp [cnts, cnts_len cs n]
def cntOf (cs : List ECell) (k : Nat) : Int := ownCnt (cnts cs k) (gd cs k).insts
theorem cnts_gd (cs : List ECell) : ∀ {n i : Nat}, i < n → gd (cnts cs n) i = cntOf cs i
 | n + 1, i, h => by
   rw [cnts]
   by_cases e : i < n
   · rw [gd_app_l (by rw [cnts_len]; exact e), cnts_gd cs e]
   · obtain rfl : i = n := by omega
     have := gd_app_r (xs := cnts cs i) (a := ownCnt (cnts cs i) (gd cs i).insts)
     rw [cnts_len] at this
     rw [this]; rfl
theorem costL_bdH {α : Type} [Inhabited α] {n : α → Int} {B : Int} (hB : 0 ≤ B) {xs : List α} (h : ∀ i, i < xs.length → 0 ≤ n (gd xs i) ∧ n (gd xs i) ≤ B) : ∀ i, i ≤ xs.length → 0 ≤ costL n (xs.take i) ∧ costL n (xs.take i) ≤ B * i
 | 0, _ => by simp [costL]
 | i + 1, hi => by
   have ih := costL_bdH hB h i (by omega)
   have := h i (by omega)
   rw [costL_take n (by omega)]
   have e : B * ((i + 1 : Nat) : Int) = B * i + B := by rw [Int.natCast_add, Int.mul_add]; simp
   omega
theorem cntI_bd {k M : Int} {ks : List Int} {n : Inst} (h : okIn k n = true) (hk : 0 ≤ gd ks n.cell.toNat ∧ gd ks n.cell.toNat ≤ M) : 0 ≤ cntI ks n ∧ cntI ks n ≤ 16 * M := by
 obtain ⟨_, _, h3, h4, _, _⟩ := okIn_bd h
 have e1 := mul_bd (a := n.cols) (b := n.rows) (A := 4) (B := 4) (by omega) (by omega) (by omega)
 have e0 : 0 ≤ n.cols * n.rows := Int.mul_nonneg (by omega) (by omega)
 have e2 := mul_bd (a := n.cols * n.rows) (b := gd ks n.cell.toNat) (A := 16) (B := M) (by omega) (by omega) (by omega)
 have e3 : 0 ≤ n.cols * n.rows * gd ks n.cell.toNat := Int.mul_nonneg e0 hk.1
 simp only [cntI]; omega
theorem ownCnt_bd {cs : List ECell} (h : okLib cs = true) {M : Int} (hM : 0 ≤ M) {k : Nat} (hk : k < cs.length) (hh : ∀ i, i < k → 0 ≤ gd (cnts cs k) i ∧ gd (cnts cs k) i ≤ M) : ∀ i, i ≤ (gd cs k).insts.length → 1 ≤ 1 + costL (cntI (cnts cs k)) ((gd cs k).insts.take i) ∧ 1 + costL (cntI (cnts cs k)) ((gd cs k).insts.take i) ≤ 1 + 128 * M := by
 intro i hi
 have hc := (okLib_cnt h hk).1
 have := costL_bdH (n := cntI (cnts cs k)) (B := 16 * M) (by omega) (xs := (gd cs k).insts) (fun j hj => cntI_bd (okLib_inst h hk hj) (hh _ (by have := (okIn_bd (okLib_inst h hk hj)).1; omega))) i hi
 have e : 16 * M * i ≤ 16 * M * 8 := Int.mul_le_mul_of_nonneg_left (by omega) (by omega)
 omega
theorem cntOf_bd {cs : List ECell} (h : okLib cs = true) : ∀ k, k < cs.length → 1 ≤ cntOf cs k ∧ cntOf cs k ≤ 129 ^ (k + 1) := by
 intro k
 induction k using Nat.strongRecOn with
 | ind k ih =>
   intro hk
   have := ownCnt_bd h (M := 129 ^ k) (Int.le_of_lt (Int.pow_pos (show (0 : Int) < 129 by omega))) hk (fun i hi => by
     have hb := ih i hi (by omega)
     rw [cnts_gd cs hi]
     refine ⟨by omega, Int.le_trans hb.2 ?_⟩
     have := Nat.pow_le_pow_right (n := 129) (by omega) (show i + 1 ≤ k by omega)
     exact_mod_cast this) _ (Nat.le_refl _)
   rw [List.take_of_length_le (Nat.le_refl _)] at this
   refine ⟨this.1, Int.le_trans this.2 ?_⟩
   have h1 : (1 : Int) ≤ 129 ^ k := by
     have : (0 : Int) < 129 ^ k := Int.pow_pos (show (0 : Int) < 129 by omega)
     omega
   rw [Int.pow_succ]; omega
theorem cnts_big {cs : List ECell} (h : okLib cs = true) {k : Nat} (hk : k < cs.length) : ∀ i, i < k → 0 ≤ gd (cnts cs k) i ∧ gd (cnts cs k) i ≤ 594467302491009 := by
 intro i hi
 rw [cnts_gd cs hi]
 have h1 := cntOf_bd h i (by omega)
 have h2 := (okLib_len h).2
 have : (129 : Nat) ^ (i + 1) ≤ 129 ^ 7 := Nat.pow_le_pow_right (by omega) (by omega)
 have h3' : ((129 : Int) ^ (i + 1)) ≤ 129 ^ 7 := by exact_mod_cast this
 have h3 : ((129 : Int) ^ (i + 1)) ≤ 594467302491009 := Int.le_trans h3' (by decide)
 omega
structure EOcc where
  cell : Int
  place : Trans
  path : List Int
  deriving DecidableEq, Inhabited
def erO (o : Occ) : EOcc := ⟨o.cell, o.place, o.path.xs⟩
def erOs (xs : List Occ) : List EOcc := xs.map erO
theorem erOs_len (xs : List Occ) : (erOs xs).length = xs.length := by simp [erOs]
theorem erOs_gd {xs : List Occ} {i : Nat} (h : i < xs.length) : gd (erOs xs) i = erO (gd xs i) := gd_map _ h
def cmpo (a b : Int) : Int := (if 4 ≤ b then b % 4 + 4 - a % 4 else b % 4 + a % 4) % 4 + (if decide (4 ≤ a) = decide (4 ≤ b) then 0 else 4)
theorem cmpo_in {a b : Int} : 0 ≤ cmpo a b ∧ cmpo a b ≤ 7 := by
 unfold cmpo
 generalize (if 4 ≤ b then b % 4 + 4 - a % 4 else b % 4 + a % 4) = z
 split <;> omega
def cmpT (t u : Trans) : Trans := ⟨cmpo t.o u.o, (moveP u ⟨t.x, t.y⟩).x, (moveP u ⟨t.x, t.y⟩).y⟩
def kid (o : EOcc) (e : HElem) (n : Nat) : EOcc := ⟨e.cell, cmpT e.place o.place, o.path ++ [(n : Int)]⟩
def occF (cs : List ECell) : Nat → EOcc → List EOcc
  | 0, o => [o]
  | f + 1, o => o :: ((List.range (elems (gd cs o.cell.toNat).insts).length).flatMap fun n => occF cs f (kid o (gd (elems (gd cs o.cell.toNat).insts) n) n))
/-- an occurrence and those below its first elements -/
def occTo (cs : List ECell) (f : Nat) (o : EOcc) (i : Nat) : List EOcc := o :: ((List.range i).flatMap fun n => occF cs f (kid o (gd (elems (gd cs o.cell.toNat).insts) n) n))
theorem occTo_zero (cs : List ECell) (f : Nat) (o : EOcc) : occTo cs f o 0 = [o] := rfl
theorem occTo_succ (cs : List ECell) (f : Nat) (o : EOcc) (i : Nat) : occTo cs f o (i + 1) = occTo cs f o i ++ occF cs f (kid o (gd (elems (gd cs o.cell.toNat).insts) i) i) := by
 simp [occTo, List.range_succ, List.flatMap_append]
theorem occTo_all (cs : List ECell) (f : Nat) (o : EOcc) : occTo cs f o (elems (gd cs o.cell.toNat).insts).length = occF cs (f + 1) o := rfl
def oIn (f : Nat) (o : EOcc) : Prop := (0 ≤ o.cell ∧ o.cell < f) ∧ (0 ≤ o.place.o ∧ o.place.o ≤ 7) ∧ (-(320 * (8 - (f : Int))) ≤ o.place.x ∧ o.place.x ≤ 320 * (8 - f)) ∧ -(320 * (8 - (f : Int))) ≤ o.place.y ∧ o.place.y ≤ 320 * (8 - f)
theorem kid_in {cs : List ECell} (h : okLib cs = true) {f : Nat} {o : EOcc} (ho : oIn (f + 1) o) (hl : o.cell.toNat < cs.length) {i : Nat} (hi : i < (elems (gd cs o.cell.toNat).insts).length) : oIn f (kid o (gd (elems (gd cs o.cell.toNat).insts) i) i) := by
 obtain ⟨h1, h2, h3, h4⟩ := elem_bd h hl hi
 obtain ⟨⟨k1, k2⟩, k3, k4, k5⟩ := ho
 obtain ⟨t1, t2, t3, t4⟩ : InB 320 (turnP o.place.o ⟨(gd (elems (gd cs o.cell.toNat).insts) i).place.x, (gd (elems (gd cs o.cell.toNat).insts) i).place.y⟩) := turnP_in ⟨h3.1, h3.2, h4.1, h4.2⟩
 refine ⟨?_, ?_, ?_, ?_⟩
 · simp only [kid]; omega
 · exact cmpo_in
 · simp only [kid, cmpT, moveP]; omega
 · simp only [kid, cmpT, moveP]; omega
theorem flatMap_len {α : Type} (g : Nat → List α) : ∀ n, (((List.range n).flatMap g).length : Int) = ((List.range n).map fun i => ((g i).length : Int)).sum
 | 0 => rfl
 | n + 1 => by
   have ih := flatMap_len g n
   simp only [List.range_succ, List.flatMap_append, List.length_append, List.map_append, List.sum_append, Int.natCast_add, ih]
   simp
/-- the sum over the elements is the sum over the instances -/
theorem sum_elems (g : Int → Int) : ∀ ns : List Inst, (∀ i, i < ns.length → 1 ≤ (gd ns i).cols ∧ 1 ≤ (gd ns i).rows) → (((elems ns).map fun e => g e.cell).sum : Int) = costL (fun n => n.cols * n.rows * g n.cell) ns
 | [], _ => rfl
 | n :: ns, h => by
   have ih := sum_elems g ns (fun i hi => by have := h (i + 1) (by simpa using hi); simpa [gd] using this)
   have h0 := h 0 (by simp)
   have e0 : gd (n :: ns) 0 = n := by simp [gd]
   rw [e0] at h0
   have e : elems (n :: ns) = elsOf n ++ elems ns := rfl
   rw [e, List.map_append, List.sum_append, ih, costL]
   congr 1
   have : (elsOf n).map (fun e => g e.cell) = List.replicate (n.rows.toNat * n.cols.toNat) (g n.cell) := by
     rw [elsOf, List.map_map, List.eq_replicate_iff]
     simp [Function.comp_def]
   rw [this, List.sum_replicate_int]
   rw [Int.natCast_mul, Int.toNat_of_nonneg (by omega), Int.toNat_of_nonneg (by omega), Int.mul_comm n.rows]
theorem map_range_gd {α β : Type} [Inhabited α] (g : α → β) (xs : List α) : (List.range xs.length).map (fun i => g (gd xs i)) = xs.map g := by
 apply List.ext_getElem?
 intro i
 by_cases hi : i < xs.length
 · simp [hi, gd_eq hi]
 · simp [List.getElem?_eq_none (Nat.le_of_not_lt hi), List.getElem?_eq_none (l := List.range xs.length) (by simpa using Nat.le_of_not_lt hi)]
theorem occF_len {cs : List ECell} (h : okLib cs = true) : ∀ (f : Nat) (o : EOcc), 0 ≤ o.cell → o.cell.toNat < f → o.cell.toNat < cs.length → ((occF cs f o).length : Int) = cntOf cs o.cell.toNat
 | 0, _, _, h, _ => by omega
 | f + 1, o, h0, hf, hl => by
   rw [occF, List.length_cons, Int.natCast_add, flatMap_len]
   have e1 : ∀ i ∈ List.range (elems (gd cs o.cell.toNat).insts).length, ((occF cs f (kid o (gd (elems (gd cs o.cell.toNat).insts) i) i)).length : Int) = cntOf cs (gd (elems (gd cs o.cell.toNat).insts) i).cell.toNat := fun i hi => by
     have hi := List.mem_range.1 hi
     have hb := (elem_bd h hl hi).1
     exact occF_len h f _ hb.1 (by simp only [kid]; omega) (by simp only [kid]; omega)
   rw [List.map_congr_left e1, map_range_gd (fun e : HElem => cntOf cs e.cell.toNat), sum_elems (fun c => cntOf cs c.toNat) _ (fun i hi => by have := okIn_bd (okLib_inst h hl hi); omega), cntOf, ownCnt]
   have e2 : ∀ ns : List Inst, (∀ n ∈ ns, n.cell.toNat < o.cell.toNat) → costL (fun n => n.cols * n.rows * cntOf cs n.cell.toNat) ns = costL (cntI (cnts cs o.cell.toNat)) ns := by
     intro ns
     induction ns with
     | nil => intro _; rfl
     | cons n ns ih =>
       intro hn
       rw [costL, costL, ih (fun m hm => hn m (.tail _ hm)), cntI, cnts_gd cs (hn n (.head _))]
   rw [e2 _ (fun n hn => by
     obtain ⟨j, hj, rfl⟩ := List.getElem_of_mem hn
     have := (okIn_bd (okLib_inst h hl hj)).1
     rw [gd_eq hj] at this
     omega)]
   omega
theorem occTo_le {cs : List ECell} {f : Nat} {o : EOcc} {i : Nat} (hi : i ≤ (elems (gd cs o.cell.toNat).insts).length) : (occTo cs f o i).length ≤ (occF cs (f + 1) o).length := by
 rw [← occTo_all, occTo, occTo, List.length_cons, List.length_cons]
 have : (List.range i).flatMap (fun n => occF cs f (kid o (gd (elems (gd cs o.cell.toNat).insts) n) n)) = ((List.range (elems (gd cs o.cell.toNat).insts).length).take i).flatMap (fun n => occF cs f (kid o (gd (elems (gd cs o.cell.toNat).insts) n) n)) := by
   rw [List.take_range, Nat.min_eq_left hi]
 rw [this]
 have h2 := congrArg List.length (congrArg (List.flatMap (fun n => occF cs f (kid o (gd (elems (gd cs o.cell.toNat).insts) n) n))) (List.take_append_drop i (List.range (elems (gd cs o.cell.toNat).insts).length)))
 rw [List.flatMap_append, List.length_append] at h2
 omega
def top (cell : Int) : EOcc := ⟨cell, ⟨0, 0, 0⟩, []⟩
def occAll (cs : List ECell) (cell : Int) : List EOcc := occF cs (cell.toNat + 1) (top cell)
def hasCl (cs : List ECell) (cell : Int) : Bool := okLib cs && within cell 0 ((cs.length : Int) - 1)
def occE (cs : List ECell) (cell : Int) : Int :=
  bif !okLib cs then 1 else bif !within cell 0 ((cs.length : Int) - 1) then 5 else bif decide (200 < cntOf cs cell.toNat) then 3 else bif (occAll cs cell).any fun o => !validT o.place then 2 else 0
def occR (cs : List ECell) (cell : Int) : List EOcc := bif decide (occE cs cell = 0) then occAll cs cell else []
theorem occE_zero {cs : List ECell} {cell : Int} (h : occE cs cell = 0) : okLib cs = true ∧ (0 ≤ cell ∧ cell < cs.length) ∧ cntOf cs cell.toNat ≤ 200 ∧ ∀ o ∈ occAll cs cell, validT o.place = true := by
 unfold occE at h
 cases h1 : okLib cs with
 | false => rw [h1] at h; cases h
 | true =>
   cases h2 : within cell 0 ((cs.length : Int) - 1) with
   | false => rw [h1, h2] at h; cases h
   | true =>
     cases h3 : decide (200 < cntOf cs cell.toNat) with
     | true => rw [h1, h2, h3] at h; cases h
     | false =>
       cases h4 : (occAll cs cell).any fun o => !validT o.place with
       | true => rw [h1, h2, h3, h4] at h; cases h
       | false =>
         refine ⟨rfl, ?_, ?_, fun o ho => ?_⟩
         · simp only [within, Bool.and_eq_true, decide_eq_true_eq] at h2; omega
         · have := of_decide_eq_false h3; omega
         · rw [List.any_eq_false] at h4
           simpa using h4 o ho
theorem occR_ok {cs : List ECell} {cell : Int} (h : occE cs cell = 0) : occR cs cell = occAll cs cell := by rw [occR, h]; rfl
theorem occR_no {cs : List ECell} {cell : Int} (h : occE cs cell ≠ 0) : occR cs cell = [] := by rw [occR, decide_eq_false h]; rfl
theorem occAll_len {cs : List ECell} {cell : Int} (h : okLib cs = true) (hc : 0 ≤ cell ∧ cell < cs.length) : ((occAll cs cell).length : Int) = cntOf cs cell.toNat := occF_len h _ (top cell) hc.1 (by simp [top]) (by simp only [top]; omega)
/-- the cells of occurrences are those of the library -/
theorem occF_cell {cs : List ECell} (h : okLib cs = true) : ∀ (f : Nat) (o : EOcc), 0 ≤ o.cell → o.cell.toNat < f → o.cell.toNat < cs.length → ∀ q ∈ occF cs f o, 0 ≤ q.cell ∧ q.cell ≤ o.cell
 | 0, _, _, h, _, _, _ => by omega
 | f + 1, o, h0, hf, hl, q, hq => by
   rw [occF, List.mem_cons] at hq
   rcases hq with rfl | hq
   · exact ⟨h0, Int.le_refl _⟩
   · obtain ⟨i, hi, hq⟩ := List.mem_flatMap.1 hq
     have hb := (elem_bd h hl (List.mem_range.1 hi)).1
     have := occF_cell h f _ hb.1 (by simp only [kid]; omega) (by simp only [kid]; omega) q hq
     simp only [kid] at this
     omega
theorem occR_cell {cs : List ECell} {cell : Int} {i : Nat} (hi : i < (occR cs cell).length) : okLib cs = true ∧ (0 ≤ (gd (occR cs cell) i).cell ∧ (gd (occR cs cell) i).cell < cs.length) ∧ validT (gd (occR cs cell) i).place = true ∧ (occR cs cell).length ≤ 200 := by
 by_cases h : occE cs cell = 0
 · have hm := gd_mem hi
   rw [occR_ok h] at hm ⊢
   obtain ⟨h1, h2, h3, h4⟩ := occE_zero h
   have := occF_cell h1 _ (top cell) h2.1 (by simp [top]) (by simp only [top]; omega) _ hm
   have hl := occAll_len h1 h2
   exact ⟨h1, by simp only [top] at this; omega, h4 _ hm, by omega⟩
 · rw [occR_no h] at hi; simp at hi
def flatOf (cs : List ECell) (o : EOcc) : List Shape := (gd cs o.cell.toNat).shapes.map fun s => ⟨s.layer, moveR o.place s.box⟩
def flatL (cs : List ECell) (os : List EOcc) : List Shape := os.flatMap (flatOf cs)
theorem flatOf_len (cs : List ECell) (o : EOcc) : (flatOf cs o).length = (gd cs o.cell.toNat).shapes.length := by simp [flatOf]
theorem flatL_take {cs : List ECell} {os : List EOcc} {i : Nat} (h : i < os.length) : flatL cs (os.take (i + 1)) = flatL cs (os.take i) ++ flatOf cs (gd os i) := by
 rw [flatL, flatL, List.take_add_one, getG h, List.flatMap_append]; simp
theorem flatOf_step {cs : List ECell} {o : EOcc} {k : Nat} (h : k < (gd cs o.cell.toNat).shapes.length) : (flatOf cs o).take (k + 1) = (flatOf cs o).take k ++ [⟨(gd (gd cs o.cell.toNat).shapes k).layer, moveR o.place (gd (gd cs o.cell.toNat).shapes k).box⟩] := by
 rw [List.take_add_one, getG (by rw [flatOf_len]; exact h), flatOf, gd_map _ h]; rfl
theorem flatL_bd {cs : List ECell} {cell : Int} : ∀ i, i ≤ (occR cs cell).length → (flatL cs ((occR cs cell).take i)).length ≤ 24 * i
 | 0, _ => by simp [flatL]
 | i + 1, hi => by
   have ih := flatL_bd (cs := cs) (cell := cell) i (by omega)
   obtain ⟨h1, h2, _, _⟩ := occR_cell (cs := cs) (cell := cell) (i := i) (by omega)
   have := (okLib_cnt h1 (i := (gd (occR cs cell) i).cell.toNat) (by omega)).2
   rw [flatL_take (by omega), List.length_append, flatOf_len]; omega
def shE (cs : List ECell) (cell : Int) : Int := bif decide (occE cs cell = 0) then (bif (flatL cs (occR cs cell)).any fun s => !validRect s.box then 2 else 0) else occE cs cell
def shR (cs : List ECell) (cell : Int) : List Shape := bif decide (shE cs cell = 0) then flatL cs (occR cs cell) else []
theorem shE_zero {cs : List ECell} {cell : Int} (h : shE cs cell = 0) : occE cs cell = 0 ∧ ∀ s ∈ flatL cs (occR cs cell), validRect s.box = true := by
 unfold shE at h
 by_cases h1 : occE cs cell = 0
 · rw [decide_eq_true h1, cond_true] at h
   cases h2 : (flatL cs (occR cs cell)).any fun s => !validRect s.box with
   | true => rw [h2] at h; cases h
   | false =>
     refine ⟨h1, fun s hs => ?_⟩
     rw [List.any_eq_false] at h2
     simpa using h2 s hs
 · rw [decide_eq_false h1, cond_false] at h; exact absurd h h1
theorem shR_ok {cs : List ECell} {cell : Int} (h : shE cs cell = 0) : shR cs cell = flatL cs (occR cs cell) := by rw [shR, h]; rfl
theorem shR_no {cs : List ECell} {cell : Int} (h : shE cs cell ≠ 0) : shR cs cell = [] := by rw [shR, decide_eq_false h]; rfl
theorem shR_valid {cs : List ECell} {cell : Int} {i : Nat} (hi : i < (shR cs cell).length) : validRect (gd (shR cs cell) i).box = true := by
 by_cases h : shE cs cell = 0
 · have hm := gd_mem hi
   rw [shR_ok h] at hm ⊢
   exact (shE_zero h).2 _ hm
 · rw [shR_no h] at hi; simp at hi
def boxesOf (ss : List Shape) (l : Nat) : List Rect := (ss.filter fun s => decide (s.layer = (l : Int))).map Shape.box
def layL (ss : List Shape) : List (List Rect) := (List.range 8).map fun l => canon (bits (boxesOf ss l))
theorem boxesOf_step {ss : List Shape} {i l : Nat} (h : i < ss.length) : boxesOf (ss.take (i + 1)) l = boxesOf (ss.take i) l ++ (if (gd ss i).layer = (l : Int) then [(gd ss i).box] else []) := by
 rw [boxesOf, boxesOf, List.take_add_one, getG h, List.filter_append, List.map_append]
 by_cases e : (gd ss i).layer = (l : Int) <;> simp [e]
theorem validR_in {r : Rect} (h : validRect r = true) : RIn 40 r := by
 have := valid_bd h; exact this
def rootOf (o : EOcc) : Int := match o.path with | [] => -1 | a :: _ => a
def rootAt (cs : List ECell) (o : EOcc) : List RShape := (flatOf cs o).map fun s => ⟨rootOf o, s⟩
def rootL (cs : List ECell) (os : List EOcc) : List RShape := os.flatMap (rootAt cs)
theorem rootL_flat (cs : List ECell) (os : List EOcc) : (rootL cs os).map RShape.shape = flatL cs os := by
 induction os with
 | nil => rfl
 | cons o os ih =>
   have e1 : rootL cs (o :: os) = rootAt cs o ++ rootL cs os := rfl
   have e2 : flatL cs (o :: os) = flatOf cs o ++ flatL cs os := rfl
   rw [e1, e2, List.map_append, ih]
   congr 1
   simp [rootAt, Function.comp_def]
theorem rootAt_len (cs : List ECell) (o : EOcc) : (rootAt cs o).length = (gd cs o.cell.toNat).shapes.length := by rw [rootAt, List.length_map, flatOf_len]
theorem rootL_len (cs : List ECell) (os : List EOcc) : (rootL cs os).length = (flatL cs os).length := by rw [← rootL_flat, List.length_map]
theorem flatL_split {cs : List ECell} {os : List EOcc} {i : Nat} (h : i < os.length) : flatL cs os = flatL cs (os.take i) ++ (flatOf cs (gd os i) ++ flatL cs (os.drop (i + 1))) := by
 conv => lhs; rw [← List.take_append_drop (i + 1) os]
 rw [flatL, List.flatMap_append]
 have := flatL_take (cs := cs) h
 rw [flatL] at this
 rw [this, List.append_assoc]; rfl
/-- the next rooted shape -/
theorem rootAt_step {cs : List ECell} {os : List EOcc} {i k : Nat} (h : i < os.length) (hk : k < (gd cs (gd os i).cell.toNat).shapes.length) :
   (rootL cs (os.take i) ++ (rootAt cs (gd os i)).take k).length < (flatL cs os).length ∧ (rootAt cs (gd os i)).take (k + 1) = (rootAt cs (gd os i)).take k ++ [⟨rootOf (gd os i), gd (flatL cs os) (rootL cs (os.take i) ++ (rootAt cs (gd os i)).take k).length⟩] := by
 have hl : ((rootAt cs (gd os i)).take k).length = k := by rw [List.length_take, rootAt_len]; omega
 have hf : k < (flatOf cs (gd os i)).length := by rw [flatOf_len]; exact hk
 have e : gd (flatL cs os) (rootL cs (os.take i) ++ (rootAt cs (gd os i)).take k).length = gd (flatOf cs (gd os i)) k := by
   rw [List.length_append, hl, rootL_len, flatL_split h, gd_app_at, gd_app_l hf]
 refine ⟨?_, ?_⟩
 · rw [List.length_append, hl, rootL_len, flatL_split h, List.length_append, List.length_append]; omega
 · rw [e, List.take_add_one, getG (by rw [rootAt_len]; exact hk), rootAt, gd_map _ hf]; rfl
def elN (cs : List ECell) (cell : Int) : Nat := (elems (gd cs cell.toNat).insts).length
theorem shE_lib {cs : List ECell} {cell : Int} (h : shE cs cell = 0) : okLib cs = true ∧ 0 ≤ cell ∧ cell < cs.length := by
 have := occE_zero (shE_zero h).1
 exact ⟨this.1, this.2.1⟩
/-- the composed orientation as the reference writes it -/
theorem cmpo_r {a b : Int} (ha : 0 ≤ a ∧ a ≤ 7) (hb : 0 ≤ b ∧ b ≤ 7) : cmpo a b = (b % 4 + (if 4 ≤ b then -(a % 4) else a % 4) + 4) % 4 + 4 * (if 4 ≤ b then 1 - a / 4 else a / 4) := by
 have ea : a = 0 ∨ a = 1 ∨ a = 2 ∨ a = 3 ∨ a = 4 ∨ a = 5 ∨ a = 6 ∨ a = 7 := by omega
 have eb : b = 0 ∨ b = 1 ∨ b = 2 ∨ b = 3 ∨ b = 4 ∨ b = 5 ∨ b = 6 ∨ b = 7 := by omega
 rcases ea with rfl | rfl | rfl | rfl | rfl | rfl | rfl | rfl <;> rcases eb with rfl | rfl | rfl | rfl | rfl | rfl | rfl | rfl <;> decide
end Go.Proofs.YthhjapiggekjbaaGreat
namespace Go.Proofs.YthhjapiggekjbaaGreat
set_option linter.unusedVariables false
set_option linter.unusedSimpArgs false
open Go
set_option maxRecDepth 20000
set_option linter.unusedSimpArgs false
variable {G : Gh} {L : List Ch} {R : Value → Gh → List Ch → Prop}
def shs (xs : List Cell) : List (Sl Shape) := xs.map Cell.shapes
def lbs (xs : List Cell) : List (Sl Label) := xs.map Cell.labels
def ins (xs : List Cell) : List (Sl Inst) := xs.map Cell.insts
/-- the library reads as xs -/
structure RLib (G : Gh) (L : List Ch) (v : Value) (xs : List Cell) : Prop where
  c : Rs G L cellT v xs
  s : RsE G L shapeT (shs xs)
  l : RsE G L labelT (lbs xs)
  n : RsE G L instT (ins xs)
theorem RLib.up {L' : List Ch} {v : Value} {xs : List Cell} (h : RLib G L v xs) [p : PickC L L'] : RLib G L' v xs := ⟨h.c.up, h.s.up, h.l.up, h.n.up⟩
theorem RLib.cv {L' : List Ch} {v : Value} {xs : List Cell} (c : Cv L' L) (h : RLib G L v xs) : RLib G L' v xs := ⟨h.c.cv c, h.s.cv c, h.l.cv c, h.n.cv c⟩
theorem RLib.sa {v : Value} {xs : List Cell} (h : RLib G L v xs) {i : Nat} (hi : i < xs.length) : Rs G L shapeT (gd xs i).shapes.v (gd xs i).shapes.xs := by
 have := h.s i (by simpa [shs] using hi); rwa [shs, gd_map _ hi] at this
theorem RLib.la {v : Value} {xs : List Cell} (h : RLib G L v xs) {i : Nat} (hi : i < xs.length) : Rs G L labelT (gd xs i).labels.v (gd xs i).labels.xs := by
 have := h.l i (by simpa [lbs] using hi); rwa [lbs, gd_map _ hi] at this
theorem RLib.na {v : Value} {xs : List Cell} (h : RLib G L v xs) {i : Nat} (hi : i < xs.length) : Rs G L instT (gd xs i).insts.v (gd xs i).insts.xs := by
 have := h.n i (by simpa [ins] using hi); rwa [ins, gd_map _ hi] at this
/-- the cells of a cell of the library are one each -/
theorem RLib.one {L' : List Ch} {v : Value} {xs : List Cell} (h : RLib G L v xs) {i : Nat} (hi : i < xs.length) [p : PickC L L'] : OneC G L' [.string (gd xs i).name, (gd xs i).shapes.v, (gd xs i).labels.v, (gd xs i).insts.v] :=
 OneC.val rfl (OneC.sl (SlF.r (h.sa hi)) (OneC.sl (SlF.r (h.la hi)) (OneC.sl (SlF.r (h.na hi)) OneC.nil)))
/-- names are no longer than a machine bears -/
def lenL (ls : List Label) : Prop := ∀ i, i < ls.length → (gd ls i).name.size ≤ 9223372036854775807
def lenC (cs : List ECell) : Prop := ∀ i, i < cs.length → (gd cs i).name.size ≤ 9223372036854775807 ∧ lenL (gd cs i).labels
/-- lists of at most 2^20 -/
def few (cs : List ECell) : Prop := cs.length ≤ 1048576 ∧ ∀ i, i < cs.length → (gd cs i).shapes.length ≤ 1048576 ∧ (gd cs i).labels.length ≤ 1048576 ∧ (gd cs i).insts.length ≤ 1048576
theorem Cv.grow3 {α β γ : Type} {e1 e2 e3 : TypeId} {F1 : FT α} {F2 : FT β} {F3 : FT γ} {u1 u2 u3 : Value} {us1 : List α} {us2 : List β} {us3 : List γ} {y1 y1' : List (Sl α)} {y2 y2' : List (Sl β)} {y3 y3' : List (Sl γ)} (h1 : y1' = y1 ++ [⟨u1, us1⟩]) (h2 : y2' = y2 ++ [⟨u2, us2⟩]) (h3 : y3' = y3 ++ [⟨u3, us3⟩]) :
   Cv (osl e1 F1 u1 us1 :: osl e2 F2 u2 us2 :: osl e3 F3 u3 us3 :: bagS e1 F1 y1 :: bagS e2 F2 y2 :: bagS e3 F3 y3 :: L) (bagS e1 F1 y1' :: bagS e2 F2 y2' :: bagS e3 F3 y3' :: L) :=
 (Cv.p (C := osl e1 F1 u1 us1 :: bagS e1 F1 y1 :: osl e2 F2 u2 us2 :: bagS e2 F2 y2 :: osl e3 F3 u3 us3 :: bagS e3 F3 y3 :: L)).trans ((Cv.grow h1).trans (Cv.cons ((Cv.grow h2).trans (Cv.cons (Cv.grow h3)))))
/-- .. the same with the cells themselves -/
theorem few.one {xs : List Cell} {i : Nat} (hf : few (erCls xs)) (hi : i < xs.length) : (gd xs i).shapes.xs.length ≤ 1048576 ∧ (gd xs i).labels.xs.length ≤ 1048576 ∧ (gd xs i).insts.xs.length ≤ 1048576 := by
 have := hf.2 i (by rw [erCls_len]; exact hi)
 rwa [erCls_gd hi] at this
theorem lenC.one {xs : List Cell} (h : lenC (erCls xs)) {i : Nat} (hi : i < xs.length) : (gd xs i).name.size ≤ 9223372036854775807 ∧ lenL (gd xs i).labels.xs := by
 have := h i (by rw [erCls_len]; exact hi); rwa [erCls_gd hi] at this
end Go.Proofs.YthhjapiggekjbaaGreat
namespace Go.Proofs.YthhjapiggekjbaaGreat
set_option linter.unusedVariables false
set_option linter.unusedSimpArgs false
open Go
set_option maxRecDepth 20000
set_option linter.unusedSimpArgs false
variable {G : Gh} {L : List Ch} {R : Value → Gh → List Ch → Prop}
theorem okSh_i {s : Shape} (k : R (.bool (okSh s)) G L) : CallT Tryz.prog 236 #[vT shapeT s] G L R := by
 refine CallT.enter (args := _) Tryz.func236 rfl rfl (by kernel_rfl) rfl ?_
 refine WP.seq (WP.region ?_)
 refine RG.ot rfl (OT.box (cs := shapeT.enc s) rfl rfl rfl fun b1 => ?_)
 refine RG.br rfl rfl rfl (RG.nil (WP.seq (WP.region (RG.pv rfl (PV.field rfl Fo142_0 rfl) (RG.pv rfl (PV.load1 rfl Sc2 rfl (Rd.blk rfl)) ?_)))))
 refine RG.callF (vs := [_, _, _]) rfl rfl En43 rfl (within_s ?_)
 refine RG.bl rfl rfl rfl ?_
 refine RG.gs rfl rfl rfl (fun hp => (PV.field rfl Fo142_1 rfl)) ?_
 refine RG.gs rfl rfl rfl (fun hp => (PV.loadB (vs := [_, _, _, _]) rfl Ag140 (gs_t hp) rfl rfl)) ?_
 refine RG.gsC rfl rfl rfl rfl En83 (fun hp => ⟨_, (acons (gs_t hp) anil), validRect_s ⟨rfl, rfl, rfl⟩⟩) ?_
 refine RG.pv rfl (PV.pickA rfl rfl (fun hq => gs_t (geqT hq)) rfl) (RG.br rfl rfl rfl (RG.nil ?_))
 refine WP.ret ?_
 exact ⟨_, _, ResV.one rfl rfl, Cv.p, k⟩
theorem validT_i {t : Trans} (k : R (.bool (validT t)) G L) : CallT Tryz.prog 134 #[vtrans t] G L R := by
 refine CallT.enter (args := _) Tryz.func134 rfl rfl (by kernel_rfl) rfl ?_
 refine WP.seq (WP.region ?_)
 refine RG.ot rfl (OT.box (cs := transT.enc t) rfl rfl rfl fun b1 => ?_)
 refine RG.br rfl rfl rfl (RG.nil (WP.seq (WP.region (RG.pv rfl (PV.field rfl Fo136_0 rfl) (RG.pv rfl (PV.load1 rfl Sc2 rfl (Rd.blk rfl)) ?_)))))
 refine RG.callF (vs := [_, _, _]) rfl rfl En43 rfl (within_s ?_)
 refine RG.bl rfl rfl rfl ?_
 refine RG.gs rfl rfl rfl (fun hp => (PV.field rfl Fo136_1 rfl)) ?_
 refine RG.gs rfl rfl rfl (fun hp => (PV.load1 rfl Sc2 (gs_t hp) (Rd.blk rfl))) ?_
 refine RG.gsC rfl rfl rfl rfl En43 (fun hp => ⟨_, (acons (gs_t hp) (acons rfl (acons rfl anil))), within_s ⟨rfl, rfl, rfl⟩⟩) ?_
 refine RG.pv rfl (PV.pickA rfl rfl (fun hq => gs_t (geqT hq)) rfl) (RG.bl rfl rfl rfl ?_)
 refine RG.gs rfl rfl rfl (fun hp => (PV.field rfl Fo136_2 rfl)) ?_
 refine RG.gs rfl rfl rfl (fun hp => (PV.load1 rfl Sc2 (gs_t hp) (Rd.blk rfl))) ?_
 refine RG.gsC rfl rfl rfl rfl En43 (fun hp => ⟨_, (acons (gs_t hp) (acons rfl (acons rfl anil))), within_s ⟨rfl, rfl, rfl⟩⟩) ?_
 refine RG.pv rfl (PV.pickA rfl rfl (fun hq => gs_t (geqT hq)) rfl) (RG.br rfl rfl rfl (RG.nil ?_))
 refine WP.ret ?_
 have e : validT t = ((within t.o 0 7 && within t.x (-80) 80) && within t.y (-80) 80) := (Bool.and_assoc _ _ _).symm
 rw [e] at k
 exact ⟨_, _, ResV.one rfl rfl, Cv.p, k⟩
theorem okIn_i {n : Inst} {k0 : Int} (hk : 0 ≤ k0 ∧ k0 ≤ 1000) (k : R (.bool (okIn k0 n)) G L) : CallT Tryz.prog 242 #[vT instT n, vi k0] G L R := by
 refine CallT.enter (args := _) Tryz.func242 rfl rfl (by kernel_rfl) rfl ?_
 refine WP.seq (WP.region ?_)
 refine RG.ot rfl (OT.box (cs := instT.enc n) rfl rfl rfl fun b2 => ?_)
 refine RG.br rfl rfl rfl (RG.nil (WP.seq (WP.region (RG.pv rfl (PV.field rfl Fo195_0 rfl) (RG.pv rfl (PV.load1 rfl Sc2 rfl (Rd.blk rfl)) (RG.ml rfl rfl rfl (RG.pv rfl (PV.sub rfl rfl rfl (by omega)) ?_)))))))
 refine RG.callF (vs := [_, _, _]) rfl rfl En43 rfl (within_s ?_)
 refine RG.bl rfl rfl rfl ?_
 refine RG.gs rfl rfl rfl (fun hp => (PV.field rfl Fo195_1 rfl)) ?_
 refine RG.gs rfl rfl rfl (fun hp => (PV.loadB (vs := [_, _, _]) rfl Ag136 (gs_t hp) rfl rfl)) ?_
 refine RG.gsC rfl rfl rfl rfl En134 (fun hp => ⟨_, (acons (gs_t hp) anil), validT_i ⟨rfl, rfl, rfl⟩⟩) ?_
 refine RG.pv rfl (PV.pickA rfl rfl (fun hq => gs_t (geqT hq)) rfl) (RG.bl rfl rfl rfl ?_)
 refine RG.gs rfl rfl rfl (fun hp => (PV.field rfl Fo195_2 rfl)) ?_
 refine RG.gs rfl rfl rfl (fun hp => (PV.load1 rfl Sc2 (gs_t hp) (Rd.blk rfl))) ?_
 refine RG.gsC rfl rfl rfl rfl En43 (fun hp => ⟨_, (acons (gs_t hp) (acons rfl (acons rfl anil))), within_s ⟨rfl, rfl, rfl⟩⟩) ?_
 refine RG.pv rfl (PV.pickA rfl rfl (fun hq => gs_t (geqT hq)) rfl) (RG.bl rfl rfl rfl ?_)
 refine RG.gs rfl rfl rfl (fun hp => (PV.field rfl Fo195_3 rfl)) ?_
 refine RG.gs rfl rfl rfl (fun hp => (PV.load1 rfl Sc2 (gs_t hp) (Rd.blk rfl))) ?_
 refine RG.gsC rfl rfl rfl rfl En43 (fun hp => ⟨_, (acons (gs_t hp) (acons rfl (acons rfl anil))), within_s ⟨rfl, rfl, rfl⟩⟩) ?_
 refine RG.pv rfl (PV.pickA rfl rfl (fun hq => gs_t (geqT hq)) rfl) (RG.bl rfl rfl rfl ?_)
 refine RG.gs rfl rfl rfl (fun hp => (PV.field rfl Fo195_4 rfl)) ?_
 refine RG.gs rfl rfl rfl (fun hp => (PV.load1 rfl Sc2 (gs_t hp) (Rd.blk rfl))) ?_
 refine RG.gsC rfl rfl rfl rfl En43 (fun hp => ⟨_, (acons (gs_t hp) (acons rfl (acons rfl anil))), within_s ⟨rfl, rfl, rfl⟩⟩) ?_
 refine RG.pv rfl (PV.pickA rfl rfl (fun hq => gs_t (geqT hq)) rfl) (RG.bl rfl rfl rfl ?_)
 refine RG.gs rfl rfl rfl (fun hp => (PV.field rfl Fo195_5 rfl)) ?_
 refine RG.gs rfl rfl rfl (fun hp => (PV.load1 rfl Sc2 (gs_t hp) (Rd.blk rfl))) ?_
 refine RG.gsC rfl rfl rfl rfl En43 (fun hp => ⟨_, (acons (gs_t hp) (acons rfl (acons rfl anil))), within_s ⟨rfl, rfl, rfl⟩⟩) ?_
 refine RG.pv rfl (PV.pickA rfl rfl (fun hq => gs_t (geqT hq)) rfl) (RG.bl rfl rfl rfl ?_)
 refine RG.gs rfl rfl rfl (fun hp => (PV.field rfl Fo195_4 rfl)) ?_
 refine RG.gs rfl rfl rfl (fun hp => (PV.load1 rfl Sc2 (gs_t hp) (Rd.blk rfl))) ?_
 refine RG.gs rfl rfl rfl (fun hp => (PV.eql rfl (gs_t hp) rfl)) ?_
 refine RG.gs rfl rfl rfl (fun hp => (PV.mvB (.inl rfl) (gs_t hp))) ?_
 refine RG.gs2 rfl rfl rfl (fun hp => (PV.field rfl Fo195_2 rfl)) ?_
 refine RG.gs2 rfl rfl rfl (fun hp => (PV.load1 rfl Sc2 (gs_t hp) (Rd.blk rfl))) ?_
 refine RG.gs2 rfl rfl rfl (fun hp => (PV.gtr rfl (gs_t hp) rfl)) ?_
 refine RG.gs rfl rfl rfl (fun hp => (PV.pickO rfl (gs_t hp) rfl (fun hq => gs_t (gandF hp hq)))) ?_
 refine RG.pv rfl (PV.pickA rfl rfl (fun hq => gs_t (geqT hq)) rfl) (RG.bl rfl rfl rfl ?_)
 refine RG.gs rfl rfl rfl (fun hp => (PV.field rfl Fo195_5 rfl)) ?_
 refine RG.gs rfl rfl rfl (fun hp => (PV.load1 rfl Sc2 (gs_t hp) (Rd.blk rfl))) ?_
 refine RG.gs rfl rfl rfl (fun hp => (PV.eql rfl (gs_t hp) rfl)) ?_
 refine RG.gs rfl rfl rfl (fun hp => (PV.mvB (.inl rfl) (gs_t hp))) ?_
 refine RG.gs2 rfl rfl rfl (fun hp => (PV.field rfl Fo195_3 rfl)) ?_
 refine RG.gs2 rfl rfl rfl (fun hp => (PV.load1 rfl Sc2 (gs_t hp) (Rd.blk rfl))) ?_
 refine RG.gs2 rfl rfl rfl (fun hp => (PV.gtr rfl (gs_t hp) rfl)) ?_
 refine RG.gs rfl rfl rfl (fun hp => (PV.pickO rfl (gs_t hp) rfl (fun hq => gs_t (gandF hp hq)))) ?_
 refine RG.pv rfl (PV.pickA rfl rfl (fun hq => gs_t (geqT hq)) rfl) (RG.br rfl rfl rfl (RG.nil ?_))
 refine WP.ret ?_
 exact ⟨_, _, ResV.one rfl rfl, Cv.p, k⟩
theorem notSh_s {s : Shape} (k : R (.bool (!okSh s)) G L) : CallT Tryz.prog 235 #[vT shapeT s] G L R := by
 refine CallT.enter (args := _) Tryz.func235 rfl rfl (by kernel_rfl) rfl ?_
 refine WP.seq (WP.region ?_)
 refine RG.ot rfl (OT.box (cs := shapeT.enc s) rfl rfl rfl fun b1 => ?_)
 refine RG.br rfl rfl rfl (RG.nil (WP.seq (WP.region (RG.pv rfl (PV.loadW rfl Ag142 rfl rfl) ?_))))
 refine RG.callF (vs := [_]) rfl rfl En236 rfl (okSh_i ?_)
 refine RG.pv rfl (PV.not rfl rfl) (RG.br rfl rfl rfl (RG.nil ?_))
 refine WP.ret ?_
 exact ⟨_, _, ResV.one rfl rfl, Cv.p, k⟩
theorem notLb2_s {l : Label} (hs : l.name.size ≤ 9223372036854775807) (k : R (.bool (!validLb l)) G L) : CallT Tryz.prog 238 #[vT labelT l] G L R := by
 refine CallT.enter (args := _) Tryz.func238 rfl rfl (by kernel_rfl) rfl ?_
 refine WP.seq (WP.region ?_)
 refine RG.ot rfl (OT.box (cs := labelT.enc l) rfl rfl rfl fun b1 => ?_)
 refine RG.br rfl rfl rfl (RG.nil (WP.seq (WP.region (RG.pv rfl (PV.loadW rfl Ag193 rfl rfl) ?_))))
 refine RG.callF (vs := [_]) rfl rfl En239 rfl (validLb_i hs ?_)
 refine RG.pv rfl (PV.not rfl rfl) (RG.br rfl rfl rfl (RG.nil ?_))
 refine WP.ret ?_
 exact ⟨_, _, ResV.one rfl rfl, Cv.p, k⟩
theorem notIn_s {n : Inst} {k0 : Int} {b : Nat} (hk : 0 ≤ k0 ∧ k0 ≤ 1000) (hb : Rd G L b 0 (vi k0)) (k : R (.bool (!okIn k0 n)) G L) : CallT Tryz.prog 241 #[vT instT n, .pointer (some ⟨b, 0, none⟩)] G L R := by
 refine CallT.enter (args := _) Tryz.func241 rfl rfl (by kernel_rfl) rfl ?_
 refine WP.seq (WP.region ?_)
 refine RG.ot rfl (OT.box (cs := instT.enc n) rfl rfl rfl fun b2 => ?_)
 refine RG.br rfl rfl rfl (RG.nil (WP.seq (WP.region (RG.pv rfl (PV.loadW rfl Ag195 rfl rfl) (RG.pv rfl (PV.load1 rfl Sc2 rfl (Rd.up hb)) ?_)))))
 refine RG.callF (vs := [_, _]) rfl rfl En242 rfl (okIn_i hk ?_)
 refine RG.pv rfl (PV.not rfl rfl) (RG.br rfl rfl rfl (RG.nil ?_))
 refine WP.ret ?_
 exact ⟨_, _, ResV.one rfl rfl, Cv.p, k⟩
theorem indexF_shape {v fv : Value} {xs : List (Shape)} {p : (Shape) → Bool} (h1 : Rs G L shapeT v xs) (hf : ∀ i, i < xs.length → CB Tryz.prog G L fv [vT shapeT (gd xs i)] (.bool (p (gd xs i)))) (k : R (vi (idxI p xs)) G L) : CallT Tryz.prog 248 #[v, fv] G L R := by
 refine CallT.bd h1 fun hb => ?_
 refine CallT.enter (args := _) Tryz.func248 rfl rfl (by kernel_rfl) rfl ?_
 refine WP.seq (WP.region (RG.mr rfl rfl rfl (RG.nil (WP.seq (WP.seq (WP.region (RG.pv rfl (PV.move (v := v) rfl rfl) ?_)))))))
 refine RG.pv rfl (PV.len (v := v) rfl Tryz.underlying83 rfl (SlF.r h1)) (RG.ml rfl rfl rfl (RG.nil (WP.block ?_)))
 refine WP.loop1 [0, 1, 7] (fun i => i ≤ xs.length ∧ ∀ j, j < i → p (gd xs j) = false) (fun i => [(8, vi i)]) (fun i => L) (fun i => xs.length - i) 0 ⟨by omega, fun j h => by omega⟩ ⟨rfl, trivial⟩ Cv.p ?_
 rintro i τ ⟨hi, hj⟩
 refine WP.seq (WP.region (RG.pv rfl (PV.lss rfl rfl rfl) (RG.nil (WP.seq ?_))))
 refine WP.cond rfl (fun h2 => ?_) (fun h2 => ?_)
 · have h2 := of_decide_eq_true h2
   refine WP.skip (WP.seq (WP.block (WP.seq (WP.region (RG.ml rfl rfl rfl (RG.mr rfl rfl rfl (RG.nil ?_)))))))
   refine WP.seq (WP.region (RG.pv rfl (PV.move (v := fv) rfl rfl) (RG.pv rfl (PV.move (v := v) rfl rfl) (RG.ml rfl rfl rfl (RG.pv rfl (PV.idxS (v := v) rfl Is83 rfl (SlF.r h1) rfl rfl (by omega)) (RG.pv rfl (PV.loadE rfl Ag142 rfl rfl (El.r h1 (getG (by omega)))) ?_))))))
   refine RG.callB (vs := [_]) rfl rfl rfl rfl (CB.up (hf i (by omega))) ?_
   refine RG.nil ?_
   refine WP.cond rfl (fun h3 => ?_) (fun h3 => ?_)
   · rw [idxI_at (by omega) h3 hj] at k
     refine WP.seq (WP.region (RG.ml rfl rfl rfl (RG.mr rfl rfl rfl (RG.nil ?_))))
     refine WP.ret ?_
     exact ⟨_, _, ResV.one rfl rfl, Cv.p, k⟩
   · have hj' : ∀ j, j < i + 1 → p (gd xs j) = false := fun j h => by
       by_cases c : j = i
       · rw [c]; exact h3
       · exact hj j (by omega)
     refine WP.skip (WP.region (RG.pv rfl (PV.add rfl rfl rfl (by omega)) (RG.ml rfl rfl rfl (RG.nil ?_))))
     exact ⟨rfl, i + 1, ⟨by omega, hj'⟩, ⟨rfl, trivial⟩, ⟨rfl, rfl, rfl, trivial⟩, Cv.p, by omega⟩
 · have h2 := of_decide_eq_false h2
   rw [idxI_none (fun j h => hj j (by omega))] at k
   refine WP.exit ?_
   refine WP.seq (WP.region (RG.mr rfl rfl rfl (RG.nil ?_)))
   refine WP.ret ?_
   exact ⟨_, _, ResV.one rfl rfl, Cv.p, k⟩
theorem containsF_shape {v fv : Value} {xs : List (Shape)} {p : (Shape) → Bool} (h1 : Rs G L shapeT v xs) (hf : ∀ i, i < xs.length → CB Tryz.prog G L fv [vT shapeT (gd xs i)] (.bool (p (gd xs i)))) (k : R (.bool (xs.any p)) G L) : CallT Tryz.prog 234 #[v, fv] G L R := by
 rw [← idxI_any] at k
 refine CallT.enter (args := _) Tryz.func234 rfl rfl (by kernel_rfl) rfl ?_
 refine WP.seq (WP.region (RG.br rfl rfl rfl (RG.nil (WP.seq (WP.region (RG.pv rfl (PV.move (v := v) rfl rfl) (RG.pv rfl (PV.move (v := fv) rfl rfl) ?_)))))))
 refine RG.callF (vs := [v, fv]) rfl rfl En248 rfl (indexF_shape (Rs.up h1) (fun i hi => (hf i hi).up) ?_)
 refine RG.pv rfl (PV.geq rfl rfl rfl) (RG.br rfl rfl rfl (RG.nil ?_))
 refine WP.ret ?_
 exact ⟨_, _, ResV.one rfl rfl, Cv.p, k⟩
theorem indexF_inst {v fv : Value} {xs : List (Inst)} {p : (Inst) → Bool} (h1 : Rs G L instT v xs) (hf : ∀ i, i < xs.length → CB Tryz.prog G L fv [vT instT (gd xs i)] (.bool (p (gd xs i)))) (k : R (vi (idxI p xs)) G L) : CallT Tryz.prog 251 #[v, fv] G L R := by
 refine CallT.bd h1 fun hb => ?_
 refine CallT.enter (args := _) Tryz.func251 rfl rfl (by kernel_rfl) rfl ?_
 refine WP.seq (WP.region (RG.mr rfl rfl rfl (RG.nil (WP.seq (WP.seq (WP.region (RG.pv rfl (PV.move (v := v) rfl rfl) ?_)))))))
 refine RG.pv rfl (PV.len (v := v) rfl Tryz.underlying114 rfl (SlF.r h1)) (RG.ml rfl rfl rfl (RG.nil (WP.block ?_)))
 refine WP.loop1 [0, 1, 7] (fun i => i ≤ xs.length ∧ ∀ j, j < i → p (gd xs j) = false) (fun i => [(8, vi i)]) (fun i => L) (fun i => xs.length - i) 0 ⟨by omega, fun j h => by omega⟩ ⟨rfl, trivial⟩ Cv.p ?_
 rintro i τ ⟨hi, hj⟩
 refine WP.seq (WP.region (RG.pv rfl (PV.lss rfl rfl rfl) (RG.nil (WP.seq ?_))))
 refine WP.cond rfl (fun h2 => ?_) (fun h2 => ?_)
 · have h2 := of_decide_eq_true h2
   refine WP.skip (WP.seq (WP.block (WP.seq (WP.region (RG.ml rfl rfl rfl (RG.mr rfl rfl rfl (RG.nil ?_)))))))
   refine WP.seq (WP.region (RG.pv rfl (PV.move (v := fv) rfl rfl) (RG.pv rfl (PV.move (v := v) rfl rfl) (RG.ml rfl rfl rfl (RG.pv rfl (PV.idxS (v := v) rfl Is114 rfl (SlF.r h1) rfl rfl (by omega)) (RG.pv rfl (PV.loadE rfl Ag195 rfl rfl (El.r h1 (getG (by omega)))) ?_))))))
   refine RG.callB (vs := [_]) rfl rfl rfl rfl (CB.up (hf i (by omega))) ?_
   refine RG.nil ?_
   refine WP.cond rfl (fun h3 => ?_) (fun h3 => ?_)
   · rw [idxI_at (by omega) h3 hj] at k
     refine WP.seq (WP.region (RG.ml rfl rfl rfl (RG.mr rfl rfl rfl (RG.nil ?_))))
     refine WP.ret ?_
     exact ⟨_, _, ResV.one rfl rfl, Cv.p, k⟩
   · have hj' : ∀ j, j < i + 1 → p (gd xs j) = false := fun j h => by
       by_cases c : j = i
       · rw [c]; exact h3
       · exact hj j (by omega)
     refine WP.skip (WP.region (RG.pv rfl (PV.add rfl rfl rfl (by omega)) (RG.ml rfl rfl rfl (RG.nil ?_))))
     exact ⟨rfl, i + 1, ⟨by omega, hj'⟩, ⟨rfl, trivial⟩, ⟨rfl, rfl, rfl, trivial⟩, Cv.p, by omega⟩
 · have h2 := of_decide_eq_false h2
   rw [idxI_none (fun j h => hj j (by omega))] at k
   refine WP.exit ?_
   refine WP.seq (WP.region (RG.mr rfl rfl rfl (RG.nil ?_)))
   refine WP.ret ?_
   exact ⟨_, _, ResV.one rfl rfl, Cv.p, k⟩
theorem containsF_inst {v fv : Value} {xs : List (Inst)} {p : (Inst) → Bool} (h1 : Rs G L instT v xs) (hf : ∀ i, i < xs.length → CB Tryz.prog G L fv [vT instT (gd xs i)] (.bool (p (gd xs i)))) (k : R (.bool (xs.any p)) G L) : CallT Tryz.prog 240 #[v, fv] G L R := by
 rw [← idxI_any] at k
 refine CallT.enter (args := _) Tryz.func240 rfl rfl (by kernel_rfl) rfl ?_
 refine WP.seq (WP.region (RG.br rfl rfl rfl (RG.nil (WP.seq (WP.region (RG.pv rfl (PV.move (v := v) rfl rfl) (RG.pv rfl (PV.move (v := fv) rfl rfl) ?_)))))))
 refine RG.callF (vs := [v, fv]) rfl rfl En251 rfl (indexF_inst (Rs.up h1) (fun i hi => (hf i hi).up) ?_)
 refine RG.pv rfl (PV.geq rfl rfl rfl) (RG.br rfl rfl rfl (RG.nil ?_))
 refine WP.ret ?_
 exact ⟨_, _, ResV.one rfl rfl, Cv.p, k⟩
theorem okCell_i {c : Cell} {k0 : Int} (hk : 0 ≤ k0 ∧ k0 ≤ 1000) (h1 : Rs G L shapeT c.shapes.v c.shapes.xs) (h2 : Rs G L labelT c.labels.v c.labels.xs) (h3 : Rs G L instT c.insts.v c.insts.xs) (hs : c.name.size ≤ 9223372036854775807) (hlen : lenL c.labels.xs)
   (k : R (.bool (okCell k0 (erCl c))) G L) : CallT Tryz.prog 216 #[vT cellT c, vi k0] G L R := by
 refine CallT.enter (args := _) Tryz.func216 rfl rfl (by kernel_rfl) rfl ?_
 refine WP.seq (WP.region ?_)
 refine RG.ot rfl (OT.box (cs := cellT.enc c) rfl rfl rfl fun b2 => ?_)
 refine RG.ot rfl (OT.box (cs := [vi k0]) rfl rfl rfl fun b3 => ?_)
 refine RG.br rfl rfl rfl (RG.nil (WP.seq (WP.seq (WP.region (RG.pv rfl (PV.field rfl Fo116_0 rfl) (RG.pv rfl (PV.load1 rfl Sc9 rfl (Rd.blk rfl)) ?_))))))
 refine RG.callF (vs := [_]) rfl rfl En233 rfl (isName_i hs ?_)
 refine RG.pv rfl (PV.not rfl rfl) (RG.bl rfl rfl rfl ?_)
 refine RG.gs rfl rfl rfl (fun hp => (PV.field rfl Fo116_1 rfl)) ?_
 refine RG.gs rfl rfl rfl (fun hp => (PV.load1 rfl Sc83 (gs_t hp) (Rd.blk rfl))) ?_
 refine RG.gs rfl rfl rfl (fun hp => (PV.len rfl Tryz.underlying83 (gs_t hp) (SlF.r h1))) ?_
 refine RG.gs rfl rfl rfl (fun hp => (PV.gtr rfl (gs_t hp) rfl)) ?_
 refine RG.pv rfl (PV.pickO rfl rfl rfl (fun hq => gs_t (geqF hq))) (RG.bl rfl rfl rfl ?_)
 refine RG.gs rfl rfl rfl (fun hp => (PV.field rfl Fo116_2 rfl)) ?_
 refine RG.gs rfl rfl rfl (fun hp => (PV.load1 rfl Sc113 (gs_t hp) (Rd.blk rfl))) ?_
 refine RG.gs rfl rfl rfl (fun hp => (PV.len rfl Tryz.underlying113 (gs_t hp) (SlF.r h2))) ?_
 refine RG.gs rfl rfl rfl (fun hp => (PV.gtr rfl (gs_t hp) rfl)) ?_
 refine RG.pv rfl (PV.pickO rfl rfl rfl (fun hq => gs_t (geqF hq))) (RG.bl rfl rfl rfl ?_)
 refine RG.gs rfl rfl rfl (fun hp => (PV.field rfl Fo116_3 rfl)) ?_
 refine RG.gs rfl rfl rfl (fun hp => (PV.load1 rfl Sc114 (gs_t hp) (Rd.blk rfl))) ?_
 refine RG.gs rfl rfl rfl (fun hp => (PV.len rfl Tryz.underlying114 (gs_t hp) (SlF.r h3))) ?_
 refine RG.gs rfl rfl rfl (fun hp => (PV.gtr rfl (gs_t hp) rfl)) ?_
 refine RG.pv rfl (PV.pickO rfl rfl rfl (fun hq => gs_t (geqF hq))) (RG.nil ?_)
 refine WP.cond rfl (fun h4 => ?_) (fun h4 => ?_)
 · have e : okCell k0 (erCl c) = false := by
     simp [okCell, erCl] at h4 ⊢
     grind
   rw [e] at k
   refine WP.seq (WP.region (RG.br rfl rfl rfl (RG.nil ?_)))
   refine WP.ret ?_
   exact ⟨_, _, ResV.one rfl rfl, Cv.p, k⟩
 · refine WP.skip ?_
   refine WP.seq (WP.region (RG.pv rfl (PV.field rfl Fo116_1 rfl) (RG.pv rfl (PV.load1 rfl Sc83 rfl (Rd.blk rfl)) ?_)))
   refine RG.callF (vs := [_, _]) rfl rfl En234 rfl (containsF_shape (Rs.up h1) (p := fun s => !okSh s) (fun i hi => CB.mk0 En235 fun L' R c k => notSh_s k) ?_)
   refine RG.pv rfl (PV.not rfl rfl) (RG.bl rfl rfl rfl ?_)
   refine RG.gs rfl rfl rfl (fun hp => (PV.field rfl Fo116_2 rfl)) ?_
   refine RG.gs rfl rfl rfl (fun hp => (PV.load1 rfl Sc113 (gs_t hp) (Rd.blk rfl))) ?_
   refine RG.gsC rfl rfl rfl rfl En237 (fun hp => ⟨_, (acons (gs_t hp) (acons rfl anil)), containsF_label (Rs.up h2) (p := fun l => !validLb l) (fun i hi => CB.mk0 En238 fun L' R c k => notLb2_s (hlen i hi) k) ⟨rfl, rfl, rfl⟩⟩) ?_
   refine RG.gs rfl rfl rfl (fun hp => (PV.not rfl (gs_t hp))) ?_
   refine RG.pv rfl (PV.pickA rfl rfl (fun hq => gs_t (geqT hq)) rfl) (RG.bl rfl rfl rfl ?_)
   refine RG.gs rfl rfl rfl (fun hp => (PV.field rfl Fo116_3 rfl)) ?_
   refine RG.gs rfl rfl rfl (fun hp => (PV.load1 rfl Sc114 (gs_t hp) (Rd.blk rfl))) ?_
   refine RG.gs rfl rfl rfl (fun hp => (PV.mkf1 rfl rfl)) ?_
   refine RG.gsC rfl rfl rfl rfl En240 (fun hp => ⟨_, (acons (gs_t hp) (acons (gs_t hp) anil)), containsF_inst (Rs.up h3) (p := fun n => !okIn k0 n) (fun i hi => CB.mk1 En241 fun L' R c k => notIn_s hk (Rd.cv (Rd.blk rfl) c) k) ⟨rfl, rfl, rfl⟩⟩) ?_
   refine RG.gs rfl rfl rfl (fun hp => (PV.not rfl (gs_t hp))) ?_
   refine RG.pv rfl (PV.pickA rfl rfl (fun hq => gs_t (geqT hq)) rfl) (RG.br rfl rfl rfl (RG.nil ?_))
   refine WP.ret ?_
   have e : okCell k0 (erCl c) = (!(c.shapes.xs.any fun s => !okSh s) && !(c.labels.xs.any fun l => !validLb l) && !(c.insts.xs.any fun n => !okIn k0 n)) := by
     simp [okCell, erCl] at h4 ⊢
     grind
   rw [e] at k
   exact ⟨_, _, ResV.one rfl rfl, Cv.p, k⟩
theorem named1_s {c : Cell} {nm : ByteArray} {b : Nat} (hb : Rd G L b 0 (.string nm)) (k : R (.bool (decide (c.name = nm))) G L) : CallT Tryz.prog 244 #[vT cellT c, .pointer (some ⟨b, 0, none⟩)] G L R := by
 refine CallT.enter (args := _) Tryz.func244 rfl rfl (by kernel_rfl) rfl ?_
 refine WP.seq (WP.region ?_)
 refine RG.ot rfl (OT.box (cs := cellT.enc c) rfl rfl rfl fun b2 => ?_)
 refine RG.br rfl rfl rfl (RG.nil (WP.seq (WP.region (RG.pv rfl (PV.field rfl Fo116_0 rfl) (RG.pv rfl (PV.load1 rfl Sc9 rfl (Rd.blk rfl)) (RG.pv rfl (PV.load1 rfl Sc9 rfl (Rd.up hb)) (RG.pv rfl (PV.eqlS rfl rfl rfl) ?_)))))))
 refine RG.br rfl rfl rfl (RG.nil ?_)
 refine WP.ret ?_
 exact ⟨_, _, ResV.one rfl rfl, Cv.p, k⟩
theorem indexF_cell {v fv : Value} {xs : List (Cell)} {p : (Cell) → Bool} (h1 : Rs G L cellT v xs) (hf : ∀ i, i < xs.length → CB Tryz.prog G L fv [vT cellT (gd xs i)] (.bool (p (gd xs i)))) (k : R (vi (idxI p xs)) G L) : CallT Tryz.prog 243 #[v, fv] G L R := by
 refine CallT.bd h1 fun hb => ?_
 refine CallT.enter (args := _) Tryz.func243 rfl rfl (by kernel_rfl) rfl ?_
 refine WP.seq (WP.region (RG.mr rfl rfl rfl (RG.nil (WP.seq (WP.seq (WP.region (RG.pv rfl (PV.move (v := v) rfl rfl) ?_)))))))
 refine RG.pv rfl (PV.len (v := v) rfl Tryz.underlying29 rfl (SlF.r h1)) (RG.ml rfl rfl rfl (RG.nil (WP.block ?_)))
 refine WP.loop1 [0, 1, 7] (fun i => i ≤ xs.length ∧ ∀ j, j < i → p (gd xs j) = false) (fun i => [(8, vi i)]) (fun i => L) (fun i => xs.length - i) 0 ⟨by omega, fun j h => by omega⟩ ⟨rfl, trivial⟩ Cv.p ?_
 rintro i τ ⟨hi, hj⟩
 refine WP.seq (WP.region (RG.pv rfl (PV.lss rfl rfl rfl) (RG.nil (WP.seq ?_))))
 refine WP.cond rfl (fun h2 => ?_) (fun h2 => ?_)
 · have h2 := of_decide_eq_true h2
   refine WP.skip (WP.seq (WP.block (WP.seq (WP.region (RG.ml rfl rfl rfl (RG.mr rfl rfl rfl (RG.nil ?_)))))))
   refine WP.seq (WP.region (RG.pv rfl (PV.move (v := fv) rfl rfl) (RG.pv rfl (PV.move (v := v) rfl rfl) (RG.ml rfl rfl rfl (RG.pv rfl (PV.idxS (v := v) rfl Is29 rfl (SlF.r h1) rfl rfl (by omega)) (RG.pv rfl (PV.loadE rfl Ag116 rfl rfl (El.r h1 (getG (by omega)))) ?_))))))
   refine RG.callB (vs := [_]) rfl rfl rfl rfl (CB.up (hf i (by omega))) ?_
   refine RG.nil ?_
   refine WP.cond rfl (fun h3 => ?_) (fun h3 => ?_)
   · rw [idxI_at (by omega) h3 hj] at k
     refine WP.seq (WP.region (RG.ml rfl rfl rfl (RG.mr rfl rfl rfl (RG.nil ?_))))
     refine WP.ret ?_
     exact ⟨_, _, ResV.one rfl rfl, Cv.p, k⟩
   · have hj' : ∀ j, j < i + 1 → p (gd xs j) = false := fun j h => by
       by_cases c : j = i
       · rw [c]; exact h3
       · exact hj j (by omega)
     refine WP.skip (WP.region (RG.pv rfl (PV.add rfl rfl rfl (by omega)) (RG.ml rfl rfl rfl (RG.nil ?_))))
     exact ⟨rfl, i + 1, ⟨by omega, hj'⟩, ⟨rfl, trivial⟩, ⟨rfl, rfl, rfl, trivial⟩, Cv.p, by omega⟩
 · have h2 := of_decide_eq_false h2
   rw [idxI_none (fun j h => hj j (by omega))] at k
   refine WP.exit ?_
   refine WP.seq (WP.region (RG.mr rfl rfl rfl (RG.nil ?_)))
   refine WP.ret ?_
   exact ⟨_, _, ResV.one rfl rfl, Cv.p, k⟩
theorem named_i {l : Lib} {nm : ByteArray} (h1 : Rs G L cellT l.cells.v l.cells.xs) (k : R (vi (idxI (fun c : Cell => decide (c.name = nm)) l.cells.xs)) G L) : CallT Tryz.prog 217 #[vT libT l, .string nm] G L R := by
 refine CallT.enter (args := _) Tryz.func217 rfl rfl (by kernel_rfl) rfl ?_
 refine WP.seq (WP.region ?_)
 refine RG.ot rfl (OT.box (cs := libT.enc l) rfl rfl rfl fun b2 => ?_)
 refine RG.ot rfl (OT.box rfl rfl rfl fun b3 => ?_)
 refine RG.mr rfl rfl rfl (RG.nil (WP.seq (WP.region (RG.pv rfl (PV.field rfl Fo31_0 rfl) (RG.pv rfl (PV.load1 rfl Sc29 rfl (Rd.blk rfl)) (RG.pv rfl (PV.mkf1 rfl rfl) ?_))))))
 refine RG.callF (vs := [_, _]) rfl rfl En243 rfl (indexF_cell (Rs.up h1) (p := fun c => decide (c.name = nm)) (fun i hi => CB.mk1 En244 fun L' R c k => named1_s (Rd.cv (Rd.blk rfl) c) k) ?_)
 refine RG.mr rfl rfl rfl (RG.nil ?_)
 refine WP.ret ?_
 exact ⟨_, _, ResV.one rfl rfl, Cv.p, k⟩
theorem named_at {xs : List Cell} {i : Nat} (hi : i < xs.length) : decide (idxI (fun c : Cell => decide (c.name = (gd xs i).name)) xs = (i : Int)) = nameAt (erCls xs) i := by
 have hn : ∀ j, j < xs.length → (gd (erCls xs) j).name = (gd xs j).name := fun j hj => by rw [erCls_gd hj]; rfl
 by_cases h : ∀ j, j < i → (gd xs j).name ≠ (gd xs i).name
 · rw [idxI_at (i := i) hi (by simp) (fun j hj => by simpa using h j hj)]
   have : nameAt (erCls xs) i = true := by
     rw [nameAt, decide_eq_true_iff]
     intro j hj
     rw [hn j (by omega), hn i hi]; exact h j hj
   rw [this]; simp
 · have hx : nameAt (erCls xs) i = false := by
     rw [nameAt, decide_eq_false_iff_not]
     intro hh
     exact h fun j hj => by rw [← hn j (by omega), ← hn i hi]; exact hh j hj
   rw [hx, decide_eq_false_iff_not]
   intro e
   apply h
   intro j hj hq
   have hex : ∃ m, m ≤ j ∧ (gd xs m).name = (gd xs i).name ∧ ∀ l, l < m → (gd xs l).name ≠ (gd xs i).name := by
     induction j using Nat.strongRecOn with
     | ind j ih =>
       by_cases c : ∃ l, l < j ∧ (gd xs l).name = (gd xs i).name
       · obtain ⟨l, hl, hq2⟩ := c
         obtain ⟨m, a1, a2, a3⟩ := ih l hl (by omega) hq2
         exact ⟨m, by omega, a2, a3⟩
       · exact ⟨j, Nat.le_refl _, hq, fun l hl hh => c ⟨l, hl, hh⟩⟩
   obtain ⟨m, a1, a2, a3⟩ := hex
   rw [idxI_at (i := m) (by omega) (by simpa using a2) (fun l hl => by simpa using a3 l hl)] at e
   omega
theorem okLib_i {l : Lib} (hL : RLib G L l.cells.v l.cells.xs) (hlen : lenC (erCls l.cells.xs)) (k : R (.bool (okLib (erCls l.cells.xs))) G L) : CallT Tryz.prog 185 #[vT libT l] G L R := by
 have hE := erCls_len l.cells.xs
 refine CallT.bd hL.c fun hb => ?_
 refine CallT.enter (args := _) Tryz.func185 rfl rfl (by kernel_rfl) rfl ?_
 refine WP.seq (WP.region ?_)
 refine RG.ot rfl (OT.box (cs := libT.enc l) rfl rfl rfl fun b1 => ?_)
 refine RG.br rfl rfl rfl (RG.nil (WP.seq (WP.seq (WP.region (RG.pv rfl (PV.field rfl Fo31_0 rfl) (RG.pv rfl (PV.load1 rfl Sc29 rfl (Rd.blk rfl)) (RG.pv rfl (PV.len rfl Tryz.underlying29 rfl (SlF.r hL.c)) ?_)))))))
 refine RG.pv rfl (PV.lss rfl rfl rfl) (RG.bl rfl rfl rfl ?_)
 refine RG.gs rfl rfl rfl (fun hp => (PV.field rfl Fo31_0 rfl)) ?_
 refine RG.gs rfl rfl rfl (fun hp => (PV.load1 rfl Sc29 (gs_t hp) (Rd.blk rfl))) ?_
 refine RG.gs rfl rfl rfl (fun hp => (PV.len rfl Tryz.underlying29 (gs_t hp) (SlF.r hL.c))) ?_
 refine RG.gs rfl rfl rfl (fun hp => (PV.gtr rfl (gs_t hp) rfl)) ?_
 refine RG.pv rfl (PV.pickO rfl rfl rfl (fun hq => gs_t (geqF hq))) (RG.nil ?_)
 refine WP.cond rfl (fun h0 => ?_) (fun h0 => ?_)
 · have e : okLib (erCls l.cells.xs) = false := by
     simp at h0
     simp [okLib, hE]; omega
   rw [e] at k
   refine WP.seq (WP.region (RG.br rfl rfl rfl (RG.nil ?_)))
   refine WP.ret ?_
   exact ⟨_, _, ResV.one rfl rfl, Cv.p, k⟩
 · simp at h0
   refine WP.skip (WP.seq (WP.seq (WP.region (RG.pv rfl (PV.field rfl Fo31_0 rfl) (RG.pv rfl (PV.load1 rfl Sc29 rfl (Rd.blk rfl)) (RG.pv rfl (PV.len rfl Tryz.underlying29 rfl (SlF.r hL.c)) (RG.ml rfl rfl rfl ?_)))))))
   refine RG.nil (WP.block ?_)
   refine WP.loop1 [1, 16, 17] (fun i => i ≤ l.cells.xs.length ∧ ∀ j, j < i → cellAt (erCls l.cells.xs) j = true) (fun i => [(18, vi i)]) (fun i => blk b1 31 (libT.enc l) :: L) (fun i => l.cells.xs.length - i) 0 ⟨by omega, fun j h => by omega⟩ ⟨rfl, trivial⟩ Cv.p ?_
   rintro i τ ⟨hi, hj⟩
   refine WP.seq (WP.region (RG.pv rfl (PV.lss rfl rfl rfl) (RG.nil (WP.seq ?_))))
   refine WP.cond rfl (fun h2 => ?_) (fun h2 => ?_)
   · have h2 := of_decide_eq_true h2
     have h3 : i < l.cells.xs.length := by omega
     refine WP.skip (WP.seq (WP.block (WP.seq (WP.region (RG.ml rfl rfl rfl (RG.pv rfl (PV.idxS rfl Is29 rfl (SlF.r hL.c) rfl rfl (by omega)) (RG.pv rfl (PV.loadE rfl Ag116 rfl rfl (El.r hL.c (getG (by omega)))) ?_)))))))
     refine RG.ot rfl (OT.alloc rfl Zr116 fun b4 => ?_)
     refine RG.mr rfl rfl rfl ?_
     refine RG.ot rfl (OT.storeW (vs := [.string _, _, _, _]) rfl Sz116 rfl rfl (Cl.c rfl) rfl rfl (hL.one h3) ?_)
     refine RG.nil (WP.seq (WP.region (RG.pv rfl (PV.loadW rfl Ag116 rfl rfl) (RG.ml rfl rfl rfl ?_))))
     refine RG.callF (vs := [_, _]) rfl rfl En216 rfl (okCell_i (by omega) (hL.sa (by omega)).up (hL.la (by omega)).up (hL.na (by omega)).up (hlen.one (by omega)).1 (hlen.one (by omega)).2 ?_)
     refine RG.pv rfl (PV.not rfl rfl) (RG.bl rfl rfl rfl ?_)
     refine RG.gs rfl rfl rfl (fun hp => (PV.loadW rfl Ag31 rfl rfl)) ?_
     refine RG.gs rfl rfl rfl (fun hp => (PV.field rfl Fo116_0 rfl)) ?_
     refine RG.gs rfl rfl rfl (fun hp => (PV.load1 rfl Sc9 (gs_t hp) (Rd.blk rfl))) ?_
     refine RG.gsC rfl rfl rfl rfl En217 (fun hp => ⟨_, (acons (gs_t hp) (acons (gs_t hp) anil)), named_i hL.c.up ⟨rfl, rfl, rfl⟩⟩) ?_
     refine RG.gs rfl rfl rfl (fun hp => (PV.mvI (.inl rfl) rfl)) ?_
     refine RG.gs rfl rfl rfl (fun hp => (PV.neq rfl (gs_t hp) (gs_t hp))) ?_
     refine RG.pv rfl (PV.pickO rfl rfl rfl (fun hq => gs_t (geqF hq))) (RG.nil ?_)
     refine WP.cond rfl (fun h4 => ?_) (fun h4 => ?_)
     · have e : cellAt (erCls l.cells.xs) i = false := by
         simp [cellAt, erCls_gd h3, ← named_at h3] at h4 ⊢
         grind
       rw [okLib_false (by omega) e] at k
       refine WP.seq (WP.region (RG.br rfl rfl rfl (RG.nil ?_)))
       refine WP.ret ?_
       exact ⟨_, _, ResV.one rfl rfl, Cv.p, k⟩
     · have e : cellAt (erCls l.cells.xs) i = true := by
         simp [cellAt, erCls_gd h3, ← named_at h3] at h4 ⊢
         grind
       have hj' : ∀ j, j < i + 1 → cellAt (erCls l.cells.xs) j = true := fun j h => by
         by_cases c : j = i
         · rw [c]; exact e
         · exact hj j (by omega)
       refine WP.skip (WP.region (RG.pv rfl (PV.add rfl rfl rfl (by omega)) (RG.ml rfl rfl rfl (RG.nil ?_))))
       exact ⟨rfl, i + 1, ⟨by omega, hj'⟩, ⟨rfl, trivial⟩, ⟨rfl, rfl, rfl, trivial⟩, Cv.p, by omega⟩
   · have h2 := of_decide_eq_false h2
     rw [okLib_all (by omega) (by omega) (fun j h => hj j (by omega))] at k
     refine WP.exit ?_
     refine WP.seq (WP.region (RG.br rfl rfl rfl (RG.nil ?_)))
     refine WP.ret ?_
     exact ⟨_, _, ResV.one rfl rfl, Cv.p, k⟩
theorem l09Rect_r {r : Rect} (k : R (.bool (validRect r)) G L) : CallT Tryz.prog 143 #[vrect r] G L R := by
 refine CallT.enter (args := _) Tryz.func143 rfl rfl (by kernel_rfl) rfl ?_
 refine WP.seq (WP.region ?_)
 refine RG.ot rfl (OT.box (cs := rectT.enc r) rfl rfl rfl fun b1 => ?_)
 refine RG.br rfl rfl rfl (RG.nil (WP.seq (WP.region (RG.pv rfl (PV.field rfl Fo140_0 rfl) (RG.pv rfl (PV.load1 rfl Sc2 rfl (Rd.blk rfl)) (RG.pv rfl (PV.leq rfl rfl rfl) (RG.bl rfl rfl rfl ?_)))))))
 refine RG.gs rfl rfl rfl (fun hp => (PV.field rfl Fo140_0 rfl)) ?_
 refine RG.gs rfl rfl rfl (fun hp => (PV.load1 rfl Sc2 (gs_t hp) (Rd.blk rfl))) ?_
 refine RG.gs rfl rfl rfl (fun hp => (PV.field rfl Fo140_2 rfl)) ?_
 refine RG.gs rfl rfl rfl (fun hp => (PV.load1 rfl Sc2 (gs_t hp) (Rd.blk rfl))) ?_
 refine RG.gs rfl rfl rfl (fun hp => (PV.lss rfl (gs_t hp) (gs_t hp))) ?_
 refine RG.pv rfl (PV.pickA rfl rfl (fun hq => gs_t (geqT hq)) rfl) (RG.bl rfl rfl rfl ?_)
 refine RG.gs rfl rfl rfl (fun hp => (PV.field rfl Fo140_2 rfl)) ?_
 refine RG.gs rfl rfl rfl (fun hp => (PV.load1 rfl Sc2 (gs_t hp) (Rd.blk rfl))) ?_
 refine RG.gs rfl rfl rfl (fun hp => (PV.leq rfl (gs_t hp) rfl)) ?_
 refine RG.pv rfl (PV.pickA rfl rfl (fun hq => gs_t (geqT hq)) rfl) (RG.bl rfl rfl rfl ?_)
 refine RG.gs rfl rfl rfl (fun hp => (PV.field rfl Fo140_1 rfl)) ?_
 refine RG.gs rfl rfl rfl (fun hp => (PV.load1 rfl Sc2 (gs_t hp) (Rd.blk rfl))) ?_
 refine RG.gs rfl rfl rfl (fun hp => (PV.leq rfl rfl (gs_t hp))) ?_
 refine RG.pv rfl (PV.pickA rfl rfl (fun hq => gs_t (geqT hq)) rfl) (RG.bl rfl rfl rfl ?_)
 refine RG.gs rfl rfl rfl (fun hp => (PV.field rfl Fo140_1 rfl)) ?_
 refine RG.gs rfl rfl rfl (fun hp => (PV.load1 rfl Sc2 (gs_t hp) (Rd.blk rfl))) ?_
 refine RG.gs rfl rfl rfl (fun hp => (PV.field rfl Fo140_3 rfl)) ?_
 refine RG.gs rfl rfl rfl (fun hp => (PV.load1 rfl Sc2 (gs_t hp) (Rd.blk rfl))) ?_
 refine RG.gs rfl rfl rfl (fun hp => (PV.lss rfl (gs_t hp) (gs_t hp))) ?_
 refine RG.pv rfl (PV.pickA rfl rfl (fun hq => gs_t (geqT hq)) rfl) (RG.bl rfl rfl rfl ?_)
 refine RG.gs rfl rfl rfl (fun hp => (PV.field rfl Fo140_3 rfl)) ?_
 refine RG.gs rfl rfl rfl (fun hp => (PV.load1 rfl Sc2 (gs_t hp) (Rd.blk rfl))) ?_
 refine RG.gs rfl rfl rfl (fun hp => (PV.leq rfl (gs_t hp) rfl)) ?_
 refine RG.pv rfl (PV.pickA rfl rfl (fun hq => gs_t (geqT hq)) rfl) (RG.br rfl rfl rfl (RG.nil ?_))
 refine WP.ret ?_
 exact ⟨_, _, ResV.one rfl rfl, Cv.p, k⟩
theorem l09Trans_r {t : Trans} (k : R (.bool (validT t)) G L) : CallT Tryz.prog 103 #[vtrans t] G L R := by
 refine CallT.enter (args := _) Tryz.func103 rfl rfl (by kernel_rfl) rfl ?_
 refine WP.seq (WP.region ?_)
 refine RG.ot rfl (OT.box (cs := transT.enc t) rfl rfl rfl fun b1 => ?_)
 refine RG.br rfl rfl rfl (RG.nil (WP.seq (WP.region (RG.pv rfl (PV.field rfl Fo136_0 rfl) (RG.pv rfl (PV.load1 rfl Sc2 rfl (Rd.blk rfl)) ?_)))))
 refine RG.callF (vs := [_, _, _]) rfl rfl En151 rfl (l09In_s ?_)
 refine RG.bl rfl rfl rfl ?_
 refine RG.gs rfl rfl rfl (fun hp => (PV.field rfl Fo136_1 rfl)) ?_
 refine RG.gs rfl rfl rfl (fun hp => (PV.load1 rfl Sc2 (gs_t hp) (Rd.blk rfl))) ?_
 refine RG.gsC rfl rfl rfl rfl En151 (fun hp => ⟨_, (acons (gs_t hp) (acons rfl (acons rfl anil))), l09In_s ⟨rfl, rfl, rfl⟩⟩) ?_
 refine RG.pv rfl (PV.pickA rfl rfl (fun hq => gs_t (geqT hq)) rfl) (RG.bl rfl rfl rfl ?_)
 refine RG.gs rfl rfl rfl (fun hp => (PV.field rfl Fo136_2 rfl)) ?_
 refine RG.gs rfl rfl rfl (fun hp => (PV.load1 rfl Sc2 (gs_t hp) (Rd.blk rfl))) ?_
 refine RG.gsC rfl rfl rfl rfl En151 (fun hp => ⟨_, (acons (gs_t hp) (acons rfl (acons rfl anil))), l09In_s ⟨rfl, rfl, rfl⟩⟩) ?_
 refine RG.pv rfl (PV.pickA rfl rfl (fun hq => gs_t (geqT hq)) rfl) (RG.br rfl rfl rfl (RG.nil ?_))
 refine WP.ret ?_
 have e : validT t = ((within t.o 0 7 && within t.x (-80) 80) && within t.y (-80) 80) := (Bool.and_assoc _ _ _).symm
 rw [e] at k
 exact ⟨_, _, ResV.one rfl rfl, Cv.p, k⟩
theorem okSh_r {s : Shape} (k : R (.bool (okSh s)) G L) : CallT Tryz.prog 198 #[vT shapeT s] G L R := by
 refine CallT.enter (args := _) Tryz.func198 rfl rfl (by kernel_rfl) rfl ?_
 refine WP.seq (WP.region ?_)
 refine RG.ot rfl (OT.box (cs := shapeT.enc s) rfl rfl rfl fun b1 => ?_)
 refine RG.br rfl rfl rfl (RG.nil (WP.seq (WP.region (RG.pv rfl (PV.field rfl Fo142_0 rfl) (RG.pv rfl (PV.load1 rfl Sc2 rfl (Rd.blk rfl)) ?_)))))
 refine RG.callF (vs := [_]) rfl rfl En222 rfl (l09Layer_s ?_)
 refine RG.bl rfl rfl rfl ?_
 refine RG.gs rfl rfl rfl (fun hp => (PV.field rfl Fo142_1 rfl)) ?_
 refine RG.gs rfl rfl rfl (fun hp => (PV.loadB (vs := [_, _, _, _]) rfl Ag140 (gs_t hp) rfl rfl)) ?_
 refine RG.gsC rfl rfl rfl rfl En143 (fun hp => ⟨_, (acons (gs_t hp) anil), l09Rect_r ⟨rfl, rfl, rfl⟩⟩) ?_
 refine RG.pv rfl (PV.pickA rfl rfl (fun hq => gs_t (geqT hq)) rfl) (RG.br rfl rfl rfl (RG.nil ?_))
 refine WP.ret ?_
 exact ⟨_, _, ResV.one rfl rfl, Cv.p, k⟩
theorem okIn_r {n : Inst} {k0 : Int} (hk : 0 ≤ k0 ∧ k0 ≤ 1000) (k : R (.bool (okIn k0 n)) G L) : CallT Tryz.prog 200 #[vT instT n, vi k0] G L R := by
 refine CallT.enter (args := _) Tryz.func200 rfl rfl (by kernel_rfl) rfl ?_
 refine WP.seq (WP.region ?_)
 refine RG.ot rfl (OT.box (cs := instT.enc n) rfl rfl rfl fun b2 => ?_)
 refine RG.br rfl rfl rfl (RG.nil (WP.seq (WP.seq (WP.region (RG.pv rfl (PV.field rfl Fo195_0 rfl) (RG.pv rfl (PV.load1 rfl Sc2 rfl (Rd.blk rfl)) (RG.ml rfl rfl rfl ?_)))))))
 refine RG.pv rfl (PV.sub rfl rfl rfl (by omega)) ?_
 refine RG.callF (vs := [_, _, _]) rfl rfl En151 rfl (l09In_s ?_)
 refine RG.pv rfl (PV.not rfl rfl) (RG.bl rfl rfl rfl ?_)
 refine RG.gs rfl rfl rfl (fun hp => (PV.field rfl Fo195_1 rfl)) ?_
 refine RG.gs rfl rfl rfl (fun hp => (PV.loadB (vs := [_, _, _]) rfl Ag136 (gs_t hp) rfl rfl)) ?_
 refine RG.gsC rfl rfl rfl rfl En103 (fun hp => ⟨_, (acons (gs_t hp) anil), l09Trans_r ⟨rfl, rfl, rfl⟩⟩) ?_
 refine RG.gs rfl rfl rfl (fun hp => (PV.not rfl (gs_t hp))) ?_
 refine RG.pv rfl (PV.pickO rfl rfl rfl (fun hq => gs_t (geqF hq))) (RG.bl rfl rfl rfl ?_)
 refine RG.gs rfl rfl rfl (fun hp => (PV.field rfl Fo195_2 rfl)) ?_
 refine RG.gs rfl rfl rfl (fun hp => (PV.load1 rfl Sc2 (gs_t hp) (Rd.blk rfl))) ?_
 refine RG.gsC rfl rfl rfl rfl En151 (fun hp => ⟨_, (acons (gs_t hp) (acons rfl (acons rfl anil))), l09In_s ⟨rfl, rfl, rfl⟩⟩) ?_
 refine RG.gs rfl rfl rfl (fun hp => (PV.not rfl (gs_t hp))) ?_
 refine RG.pv rfl (PV.pickO rfl rfl rfl (fun hq => gs_t (geqF hq))) (RG.bl rfl rfl rfl ?_)
 refine RG.gs rfl rfl rfl (fun hp => (PV.field rfl Fo195_3 rfl)) ?_
 refine RG.gs rfl rfl rfl (fun hp => (PV.load1 rfl Sc2 (gs_t hp) (Rd.blk rfl))) ?_
 refine RG.gsC rfl rfl rfl rfl En151 (fun hp => ⟨_, (acons (gs_t hp) (acons rfl (acons rfl anil))), l09In_s ⟨rfl, rfl, rfl⟩⟩) ?_
 refine RG.gs rfl rfl rfl (fun hp => (PV.not rfl (gs_t hp))) ?_
 refine RG.pv rfl (PV.pickO rfl rfl rfl (fun hq => gs_t (geqF hq))) (RG.nil ?_)
 refine WP.cond rfl (fun h1 => ?_) (fun h1 => ?_)
 · have e : okIn k0 n = false := by
     simp [okIn] at h1 ⊢; grind
   rw [e] at k
   refine WP.seq (WP.region (RG.br rfl rfl rfl (RG.nil ?_)))
   refine WP.ret ?_
   exact ⟨_, _, ResV.one rfl rfl, Cv.p, k⟩
 · refine WP.skip ?_
   refine WP.seq (WP.seq (WP.region (RG.pv rfl (PV.field rfl Fo195_4 rfl) (RG.pv rfl (PV.load1 rfl Sc2 rfl (Rd.blk rfl)) ?_))))
   refine RG.callF (vs := [_, _, _]) rfl rfl En151 rfl (l09In_s ?_)
   refine RG.pv rfl (PV.not rfl rfl) (RG.bl rfl rfl rfl ?_)
   refine RG.gs rfl rfl rfl (fun hp => (PV.field rfl Fo195_5 rfl)) ?_
   refine RG.gs rfl rfl rfl (fun hp => (PV.load1 rfl Sc2 (gs_t hp) (Rd.blk rfl))) ?_
   refine RG.gsC rfl rfl rfl rfl En151 (fun hp => ⟨_, (acons (gs_t hp) (acons rfl (acons rfl anil))), l09In_s ⟨rfl, rfl, rfl⟩⟩) ?_
   refine RG.gs rfl rfl rfl (fun hp => (PV.not rfl (gs_t hp))) ?_
   refine RG.pv rfl (PV.pickO rfl rfl rfl (fun hq => gs_t (geqF hq))) (RG.nil ?_)
   refine WP.cond rfl (fun h2 => ?_) (fun h2 => ?_)
   · have e : okIn k0 n = false := by
       simp [okIn] at h2 ⊢; grind
     rw [e] at k
     refine WP.seq (WP.region (RG.br rfl rfl rfl (RG.nil ?_)))
     refine WP.ret ?_
     exact ⟨_, _, ResV.one rfl rfl, Cv.p, k⟩
   · have e : okIn k0 n = ((decide (1 < n.cols) || decide (n.sx = 0)) && (decide (1 < n.rows) || decide (n.sy = 0))) := by
       simp [okIn] at h1 h2 ⊢; grind
     rw [e] at k
     refine WP.skip (WP.seq (WP.region (RG.pv rfl (PV.field rfl Fo195_2 rfl) (RG.pv rfl (PV.load1 rfl Sc2 rfl (Rd.blk rfl)) (RG.pv rfl (PV.gtr rfl rfl rfl) (RG.bl rfl rfl rfl ?_))))))
     refine RG.gs rfl rfl rfl (fun hp => (PV.field rfl Fo195_4 rfl)) ?_
     refine RG.gs rfl rfl rfl (fun hp => (PV.load1 rfl Sc2 (gs_t hp) (Rd.blk rfl))) ?_
     refine RG.gs rfl rfl rfl (fun hp => (PV.eql rfl (gs_t hp) rfl)) ?_
     refine RG.pv rfl (PV.pickO rfl rfl rfl (fun hq => gs_t (geqF hq))) (RG.bl rfl rfl rfl ?_)
     refine RG.gs rfl rfl rfl (fun hp => (PV.field rfl Fo195_3 rfl)) ?_
     refine RG.gs rfl rfl rfl (fun hp => (PV.load1 rfl Sc2 (gs_t hp) (Rd.blk rfl))) ?_
     refine RG.gs rfl rfl rfl (fun hp => (PV.gtr rfl (gs_t hp) rfl)) ?_
     refine RG.gs rfl rfl rfl (fun hp => (PV.mvB (.inl rfl) (gs_t hp))) ?_
     refine RG.gs2 rfl rfl rfl (fun hp => (PV.field rfl Fo195_5 rfl)) ?_
     refine RG.gs2 rfl rfl rfl (fun hp => (PV.load1 rfl Sc2 (gs_t hp) (Rd.blk rfl))) ?_
     refine RG.gs2 rfl rfl rfl (fun hp => (PV.eql rfl (gs_t hp) rfl)) ?_
     refine RG.gs rfl rfl rfl (fun hp => (PV.pickO rfl (gs_t hp) rfl (fun hq => gs_t (gandF hp hq)))) ?_
     refine RG.pv rfl (PV.pickA rfl rfl (fun hq => gs_t (geqT hq)) rfl) (RG.br rfl rfl rfl (RG.nil ?_))
     refine WP.ret ?_
     exact ⟨_, _, ResV.one rfl rfl, Cv.p, k⟩
theorem okCell_r {c : Cell} {k0 : Int} (hk : 0 ≤ k0 ∧ k0 ≤ 1000) (h1 : Rs G L shapeT c.shapes.v c.shapes.xs) (h2 : Rs G L labelT c.labels.v c.labels.xs) (h3 : Rs G L instT c.insts.v c.insts.xs) (hs : c.name.size ≤ 9223372036854775807) (hlen : lenL c.labels.xs)
   (k : R (.bool (okCell k0 (erCl c))) G L) : CallT Tryz.prog 150 #[vT cellT c, vi k0] G L R := by
 have any0 : ∀ {α : Type} [Inhabited α] {p : α → Bool} {xs : List α}, (∀ j, j < xs.length → p (gd xs j) = true) → (xs.any fun a => !p a) = false := fun {α} _ {p xs} h => by
   rw [List.any_eq_false]; intro a ha; obtain ⟨j, hj, rfl⟩ := List.getElem_of_mem ha; have := h j hj; rw [gd_eq hj] at this; simp [this]
 have any1 : ∀ {α : Type} [Inhabited α] {p : α → Bool} {xs : List α} {j : Nat}, j < xs.length → p (gd xs j) = false → (xs.any fun a => !p a) = true := fun {α} _ {p xs j} h e =>
   List.any_eq_true.2 ⟨gd xs j, gd_mem h, by simp [e]⟩
 refine CallT.bd h1 fun hb1 => ?_
 refine CallT.bd h2 fun hb2 => ?_
 refine CallT.bd h3 fun hb3 => ?_
 refine CallT.enter (args := _) Tryz.func150 rfl rfl (by kernel_rfl) rfl ?_
 refine WP.seq (WP.region ?_)
 refine RG.ot rfl (OT.box (cs := cellT.enc c) rfl rfl rfl fun b2 => ?_)
 refine RG.br rfl rfl rfl (RG.nil (WP.seq (WP.seq (WP.region (RG.pv rfl (PV.field rfl Fo116_0 rfl) (RG.pv rfl (PV.load1 rfl Sc9 rfl (Rd.blk rfl)) ?_))))))
 refine RG.callF (vs := [_]) rfl rfl En197 rfl (isName_r hs ?_)
 refine RG.pv rfl (PV.not rfl rfl) (RG.bl rfl rfl rfl ?_)
 refine RG.gs rfl rfl rfl (fun hp => (PV.field rfl Fo116_1 rfl)) ?_
 refine RG.gs rfl rfl rfl (fun hp => (PV.load1 rfl Sc83 (gs_t hp) (Rd.blk rfl))) ?_
 refine RG.gs rfl rfl rfl (fun hp => (PV.len rfl Tryz.underlying83 (gs_t hp) (SlF.r h1))) ?_
 refine RG.gs rfl rfl rfl (fun hp => (PV.gtr rfl (gs_t hp) rfl)) ?_
 refine RG.pv rfl (PV.pickO rfl rfl rfl (fun hq => gs_t (geqF hq))) (RG.bl rfl rfl rfl ?_)
 refine RG.gs rfl rfl rfl (fun hp => (PV.field rfl Fo116_2 rfl)) ?_
 refine RG.gs rfl rfl rfl (fun hp => (PV.load1 rfl Sc113 (gs_t hp) (Rd.blk rfl))) ?_
 refine RG.gs rfl rfl rfl (fun hp => (PV.len rfl Tryz.underlying113 (gs_t hp) (SlF.r h2))) ?_
 refine RG.gs rfl rfl rfl (fun hp => (PV.gtr rfl (gs_t hp) rfl)) ?_
 refine RG.pv rfl (PV.pickO rfl rfl rfl (fun hq => gs_t (geqF hq))) (RG.bl rfl rfl rfl ?_)
 refine RG.gs rfl rfl rfl (fun hp => (PV.field rfl Fo116_3 rfl)) ?_
 refine RG.gs rfl rfl rfl (fun hp => (PV.load1 rfl Sc114 (gs_t hp) (Rd.blk rfl))) ?_
 refine RG.gs rfl rfl rfl (fun hp => (PV.len rfl Tryz.underlying114 (gs_t hp) (SlF.r h3))) ?_
 refine RG.gs rfl rfl rfl (fun hp => (PV.gtr rfl (gs_t hp) rfl)) ?_
 refine RG.pv rfl (PV.pickO rfl rfl rfl (fun hq => gs_t (geqF hq))) (RG.nil ?_)
 refine WP.cond rfl (fun h4 => ?_) (fun h4 => ?_)
 · have e : okCell k0 (erCl c) = false := by
     simp [okCell, erCl] at h4 ⊢
     grind
   rw [e] at k
   refine WP.seq (WP.region (RG.br rfl rfl rfl (RG.nil ?_)))
   refine WP.ret ?_
   exact ⟨_, _, ResV.one rfl rfl, Cv.p, k⟩
 · have e0 : okCell k0 (erCl c) = (!(c.shapes.xs.any fun s => !okSh s) && !(c.labels.xs.any fun l => !validLb l) && !(c.insts.xs.any fun n => !okIn k0 n)) := by
     simp [okCell, erCl] at h4 ⊢
     grind
   rw [e0] at k
   refine WP.skip (WP.seq (WP.seq (WP.region (RG.mr rfl rfl rfl (RG.nil (WP.block ?_))))))
   refine WP.loop1 [1, 2] (fun i => i ≤ c.shapes.xs.length ∧ ∀ j, j < i → okSh (gd c.shapes.xs j) = true) (fun i => [(5, vi i)]) (fun i => blk b2 116 (cellT.enc c) :: L) (fun i => c.shapes.xs.length - i) 0 ⟨by omega, fun j h => by omega⟩ ⟨rfl, trivial⟩ Cv.p ?_
   rintro i τ ⟨hi, hj⟩
   refine WP.seq (WP.seq (WP.region (RG.ml rfl rfl rfl (RG.pv rfl (PV.field rfl Fo116_1 rfl) (RG.pv rfl (PV.load1 rfl Sc83 rfl (Rd.blk rfl)) (RG.pv rfl (PV.len rfl Tryz.underlying83 rfl (SlF.r h1)) (RG.pv rfl (PV.lss rfl rfl rfl) ?_)))))))
   refine RG.nil ?_
   refine WP.cond rfl (fun h5 => ?_) (fun h5 => ?_)
   · have h5 := of_decide_eq_true h5
     refine WP.skip (WP.seq (WP.block (WP.seq (WP.region (RG.pv rfl (PV.field rfl Fo116_1 rfl) (RG.pv rfl (PV.load1 rfl Sc83 rfl (Rd.blk rfl)) (RG.ml rfl rfl rfl ?_)))))))
     refine RG.pv rfl (PV.idxS rfl Is83 rfl (SlF.r h1) rfl rfl (by omega)) (RG.pv rfl (PV.loadE rfl Ag142 rfl rfl (El.r h1 (getG (by omega)))) ?_)
     refine RG.callF (vs := [_]) rfl rfl En198 rfl (okSh_r ?_)
     refine RG.pv rfl (PV.not rfl rfl) (RG.nil ?_)
     refine WP.cond rfl (fun h6 => ?_) (fun h6 => ?_)
     · rw [any1 (j := i) (by omega) (by simpa using h6)] at k
       refine WP.seq (WP.region (RG.br rfl rfl rfl (RG.nil ?_)))
       refine WP.ret ?_
       exact ⟨_, _, ResV.one rfl rfl, Cv.p, k⟩
     · have hj' : ∀ j, j < i + 1 → okSh (gd c.shapes.xs j) = true := fun j h => by
         by_cases q : j = i
         · rw [q]; simpa using h6
         · exact hj j (by omega)
       refine WP.skip (WP.region (RG.ml rfl rfl rfl (RG.pv rfl (PV.add rfl rfl rfl (by omega)) (RG.mr rfl rfl rfl (RG.nil ?_)))))
       exact ⟨rfl, i + 1, ⟨by omega, hj'⟩, ⟨rfl, trivial⟩, ⟨rfl, rfl, trivial⟩, Cv.p, by omega⟩
   · have h5 := of_decide_eq_false h5
     rw [any0 (fun j h => hj j (by omega))] at k
     refine WP.exit ?_
     refine WP.seq (WP.seq (WP.region (RG.mr rfl rfl rfl (RG.nil (WP.block ?_)))))
     refine WP.loop1 [1, 2] (fun i => i ≤ c.labels.xs.length ∧ ∀ j, j < i → validLb (gd c.labels.xs j) = true) (fun i => [(6, vi i)]) (fun i => blk b2 116 (cellT.enc c) :: L) (fun i => c.labels.xs.length - i) 0 ⟨by omega, fun j h => by omega⟩ ⟨rfl, trivial⟩ Cv.p ?_
     rintro i τ ⟨hi, hj⟩
     refine WP.seq (WP.seq (WP.region (RG.ml rfl rfl rfl (RG.pv rfl (PV.field rfl Fo116_2 rfl) (RG.pv rfl (PV.load1 rfl Sc113 rfl (Rd.blk rfl)) (RG.pv rfl (PV.len rfl Tryz.underlying113 rfl (SlF.r h2)) (RG.pv rfl (PV.lss rfl rfl rfl) ?_)))))))
     refine RG.nil ?_
     refine WP.cond rfl (fun h5 => ?_) (fun h5 => ?_)
     · have h5 := of_decide_eq_true h5
       refine WP.skip (WP.seq (WP.block (WP.seq (WP.region (RG.pv rfl (PV.field rfl Fo116_2 rfl) (RG.pv rfl (PV.load1 rfl Sc113 rfl (Rd.blk rfl)) (RG.ml rfl rfl rfl ?_)))))))
       refine RG.pv rfl (PV.idxS rfl Is113 rfl (SlF.r h2) rfl rfl (by omega)) (RG.pv rfl (PV.loadE rfl Ag193 rfl rfl (El.r h2 (getG (by omega)))) ?_)
       refine RG.callF (vs := [_]) rfl rfl En199 rfl (validLb_r (hlen _ (by omega)) ?_)
       refine RG.pv rfl (PV.not rfl rfl) (RG.nil ?_)
       refine WP.cond rfl (fun h6 => ?_) (fun h6 => ?_)
       · rw [any1 (p := validLb) (j := i) (by omega) (by simpa using h6)] at k
         refine WP.seq (WP.region (RG.br rfl rfl rfl (RG.nil ?_)))
         refine WP.ret ?_
         exact ⟨_, _, ResV.one rfl rfl, Cv.p, k⟩
       · have hj' : ∀ j, j < i + 1 → validLb (gd c.labels.xs j) = true := fun j h => by
           by_cases q : j = i
           · rw [q]; simpa using h6
           · exact hj j (by omega)
         refine WP.skip (WP.region (RG.ml rfl rfl rfl (RG.pv rfl (PV.add rfl rfl rfl (by omega)) (RG.mr rfl rfl rfl (RG.nil ?_)))))
         exact ⟨rfl, i + 1, ⟨by omega, hj'⟩, ⟨rfl, trivial⟩, ⟨rfl, rfl, trivial⟩, Cv.p, by omega⟩
     · have h5 := of_decide_eq_false h5
       rw [any0 (p := validLb) (fun j h => hj j (by omega))] at k
       refine WP.exit ?_
       refine WP.seq (WP.seq (WP.region (RG.mr rfl rfl rfl (RG.nil (WP.block ?_)))))
       refine WP.loop1 [1, 2] (fun i => i ≤ c.insts.xs.length ∧ ∀ j, j < i → okIn k0 (gd c.insts.xs j) = true) (fun i => [(7, vi i)]) (fun i => blk b2 116 (cellT.enc c) :: L) (fun i => c.insts.xs.length - i) 0 ⟨by omega, fun j h => by omega⟩ ⟨rfl, trivial⟩ Cv.p ?_
       rintro i τ ⟨hi, hj⟩
       refine WP.seq (WP.seq (WP.region (RG.ml rfl rfl rfl (RG.pv rfl (PV.field rfl Fo116_3 rfl) (RG.pv rfl (PV.load1 rfl Sc114 rfl (Rd.blk rfl)) (RG.pv rfl (PV.len rfl Tryz.underlying114 rfl (SlF.r h3)) (RG.pv rfl (PV.lss rfl rfl rfl) ?_)))))))
       refine RG.nil ?_
       refine WP.cond rfl (fun h5 => ?_) (fun h5 => ?_)
       · have h5 := of_decide_eq_true h5
         refine WP.skip (WP.seq (WP.block (WP.seq (WP.region (RG.pv rfl (PV.field rfl Fo116_3 rfl) (RG.pv rfl (PV.load1 rfl Sc114 rfl (Rd.blk rfl)) (RG.ml rfl rfl rfl ?_)))))))
         refine RG.pv rfl (PV.idxS rfl Is114 rfl (SlF.r h3) rfl rfl (by omega)) (RG.pv rfl (PV.loadE rfl Ag195 rfl rfl (El.r h3 (getG (by omega)))) (RG.ml rfl rfl rfl ?_))
         refine RG.callF (vs := [_, _]) rfl rfl En200 rfl (okIn_r hk ?_)
         refine RG.pv rfl (PV.not rfl rfl) (RG.nil ?_)
         refine WP.cond rfl (fun h6 => ?_) (fun h6 => ?_)
         · rw [any1 (p := okIn k0) (j := i) (by omega) (by simpa using h6)] at k
           refine WP.seq (WP.region (RG.br rfl rfl rfl (RG.nil ?_)))
           refine WP.ret ?_
           exact ⟨_, _, ResV.one rfl rfl, Cv.p, k⟩
         · have hj' : ∀ j, j < i + 1 → okIn k0 (gd c.insts.xs j) = true := fun j h => by
             by_cases q : j = i
             · rw [q]; simpa using h6
             · exact hj j (by omega)
           refine WP.skip (WP.region (RG.ml rfl rfl rfl (RG.pv rfl (PV.add rfl rfl rfl (by omega)) (RG.mr rfl rfl rfl (RG.nil ?_)))))
           exact ⟨rfl, i + 1, ⟨by omega, hj'⟩, ⟨rfl, trivial⟩, ⟨rfl, rfl, trivial⟩, Cv.p, by omega⟩
       · have h5 := of_decide_eq_false h5
         rw [any0 (p := okIn k0) (fun j h => hj j (by omega))] at k
         refine WP.exit ?_
         refine WP.seq (WP.region (RG.br rfl rfl rfl (RG.nil ?_)))
         refine WP.ret ?_
         exact ⟨_, _, ResV.one rfl rfl, Cv.p, k⟩
theorem okLib_r {l : Lib} (hL : RLib G L l.cells.v l.cells.xs) (hlen : lenC (erCls l.cells.xs)) (k : R (.bool (okLib (erCls l.cells.xs))) G L) : CallT Tryz.prog 99 #[vT libT l] G L R := by
 have hE := erCls_len l.cells.xs
 have hn : ∀ j, j < l.cells.xs.length → (gd (erCls l.cells.xs) j).name = (gd l.cells.xs j).name := fun j hj => by rw [erCls_gd hj]; rfl
 refine CallT.bd hL.c fun hb => ?_
 refine CallT.enter (args := _) Tryz.func99 rfl rfl (by kernel_rfl) rfl ?_
 refine WP.seq (WP.region ?_)
 refine RG.ot rfl (OT.box (cs := libT.enc l) rfl rfl rfl fun b1 => ?_)
 refine RG.br rfl rfl rfl (RG.nil (WP.seq (WP.seq (WP.region (RG.pv rfl (PV.field rfl Fo31_0 rfl) (RG.pv rfl (PV.load1 rfl Sc29 rfl (Rd.blk rfl)) (RG.pv rfl (PV.len rfl Tryz.underlying29 rfl (SlF.r hL.c)) ?_)))))))
 refine RG.pv rfl (PV.lss rfl rfl rfl) (RG.bl rfl rfl rfl ?_)
 refine RG.gs rfl rfl rfl (fun hp => (PV.field rfl Fo31_0 rfl)) ?_
 refine RG.gs rfl rfl rfl (fun hp => (PV.load1 rfl Sc29 (gs_t hp) (Rd.blk rfl))) ?_
 refine RG.gs rfl rfl rfl (fun hp => (PV.len rfl Tryz.underlying29 (gs_t hp) (SlF.r hL.c))) ?_
 refine RG.gs rfl rfl rfl (fun hp => (PV.gtr rfl (gs_t hp) rfl)) ?_
 refine RG.pv rfl (PV.pickO rfl rfl rfl (fun hq => gs_t (geqF hq))) (RG.nil ?_)
 refine WP.cond rfl (fun h0 => ?_) (fun h0 => ?_)
 · have e : okLib (erCls l.cells.xs) = false := by
     simp at h0
     simp [okLib, hE]; omega
   rw [e] at k
   refine WP.seq (WP.region (RG.br rfl rfl rfl (RG.nil ?_)))
   refine WP.ret ?_
   exact ⟨_, _, ResV.one rfl rfl, Cv.p, k⟩
 · simp at h0
   refine WP.skip (WP.seq (WP.seq (WP.region (RG.mr rfl rfl rfl (RG.nil (WP.block ?_))))))
   refine WP.loop1 [1] (fun i => i ≤ l.cells.xs.length ∧ ∀ j, j < i → cellAt (erCls l.cells.xs) j = true) (fun i => [(3, vi i)]) (fun i => blk b1 31 (libT.enc l) :: L) (fun i => l.cells.xs.length - i) 0 ⟨by omega, fun j h => by omega⟩ ⟨rfl, trivial⟩ Cv.p ?_
   rintro i τ ⟨hi, hj⟩
   refine WP.seq (WP.seq (WP.region (RG.ml rfl rfl rfl (RG.pv rfl (PV.field rfl Fo31_0 rfl) (RG.pv rfl (PV.load1 rfl Sc29 rfl (Rd.blk rfl)) (RG.pv rfl (PV.len rfl Tryz.underlying29 rfl (SlF.r hL.c)) (RG.pv rfl (PV.lss rfl rfl rfl) ?_)))))))
   refine RG.nil ?_
   refine WP.cond rfl (fun h2 => ?_) (fun h2 => ?_)
   · have h2 := of_decide_eq_true h2
     have h3 : i < l.cells.xs.length := by omega
     refine WP.skip (WP.seq (WP.block (WP.seq (WP.seq (WP.region (RG.pv rfl (PV.field rfl Fo31_0 rfl) (RG.pv rfl (PV.load1 rfl Sc29 rfl (Rd.blk rfl)) ?_)))))))
     refine RG.ml rfl rfl rfl (RG.pv rfl (PV.idxS rfl Is29 rfl (SlF.r hL.c) rfl rfl (by omega)) (RG.pv rfl (PV.loadE rfl Ag116 rfl rfl (El.r hL.c (getG (by omega)))) (RG.ml rfl rfl rfl ?_)))
     refine RG.callF (vs := [_, _]) rfl rfl En150 rfl (okCell_r (by omega) (hL.sa (by omega)).up (hL.la (by omega)).up (hL.na (by omega)).up (hlen.one (by omega)).1 (hlen.one (by omega)).2 ?_)
     refine RG.pv rfl (PV.not rfl rfl) (RG.nil ?_)
     refine WP.cond rfl (fun h4 => ?_) (fun h4 => ?_)
     · have e : cellAt (erCls l.cells.xs) i = false := by
         simp at h4
         rw [cellAt, erCls_gd h3, h4]; rfl
       rw [okLib_false (by omega) e] at k
       refine WP.seq (WP.region (RG.br rfl rfl rfl (RG.nil ?_)))
       refine WP.ret ?_
       exact ⟨_, _, ResV.one rfl rfl, Cv.p, k⟩
     · simp at h4
       refine WP.skip (WP.seq (WP.region (RG.mr rfl rfl rfl (RG.nil (WP.block ?_)))))
       refine WP.loop1 [1, 3] (fun m => m ≤ i ∧ ∀ j, j < m → (gd l.cells.xs j).name ≠ (gd l.cells.xs i).name) (fun m => [(4, vi m)]) (fun m => blk b1 31 (libT.enc l) :: L) (fun m => i - m) 0 ⟨by omega, fun j h => by omega⟩ ⟨rfl, trivial⟩ Cv.p ?_
       rintro m τ ⟨hm, hq⟩
       refine WP.seq (WP.seq (WP.region (RG.ml rfl rfl rfl (RG.ml rfl rfl rfl (RG.pv rfl (PV.lss rfl rfl rfl) (RG.nil ?_))))))
       refine WP.cond rfl (fun h5 => ?_) (fun h5 => ?_)
       · have h5 := of_decide_eq_true h5
         refine WP.skip (WP.seq (WP.block (WP.seq ?_)))
         refine WP.regionQ (by kernel_rfl) (by kernel_rfl) ?_
         refine RQ.pv rfl (PV.field rfl Fo31_0 rfl) ?_
         refine RQ.pv rfl (PV.load1 rfl Sc29 rfl (Rd.blk rfl)) ?_
         refine RQ.pv rfl (PV.mvI (.inl rfl) rfl) ?_
         refine RQ.pv rfl (PV.idxS rfl Is29 rfl (SlF.r hL.c) rfl rfl (by omega)) ?_
         refine RQ.pv rfl (PV.field rfl Fo116_0 rfl) ?_
         refine RQ.pv rfl (PV.loadF rfl Sc9 rfl rfl (El.r hL.c (getG (by omega))) rfl) ?_
         refine RQ.pv rfl (PV.field rfl Fo31_0 rfl) ?_
         refine RQ.pv rfl (PV.load1 rfl Sc29 rfl (Rd.blk rfl)) ?_
         refine RQ.pv rfl (PV.mvI (.inl rfl) rfl) ?_
         refine RQ.pv rfl (PV.idxS rfl Is29 rfl (SlF.r hL.c) rfl rfl (by omega)) ?_
         refine RQ.pv rfl (PV.field rfl Fo116_0 rfl) ?_
         refine RQ.pv rfl (PV.loadF rfl Sc9 rfl rfl (El.r hL.c (getG (by omega))) rfl) ?_
         refine RQ.pv rfl (PV.eqlS rfl rfl rfl) ?_
         refine RQ.nil ?_
         refine WP.cond rfl (fun h6 => ?_) (fun h6 => ?_)
         · have h6 := of_decide_eq_true h6
           have e : cellAt (erCls l.cells.xs) i = false := by
             have : nameAt (erCls l.cells.xs) i = false := by
               rw [nameAt, decide_eq_false_iff_not]
               intro hh
               have := hh m (by omega)
               rw [hn m (by omega), hn i h3] at this
               exact this h6
             rw [cellAt, this, Bool.and_false]
           rw [okLib_false (by omega) e] at k
           refine WP.seq (WP.region (RG.br rfl rfl rfl (RG.nil ?_)))
           refine WP.ret ?_
           exact ⟨_, _, ResV.one rfl rfl, Cv.p, k⟩
         · have h6 := of_decide_eq_false h6
           have hq' : ∀ j, j < m + 1 → (gd l.cells.xs j).name ≠ (gd l.cells.xs i).name := fun j h => by
             by_cases c : j = m
             · rw [c]; exact h6
             · exact hq j (by omega)
           refine WP.skip (WP.region (RG.ml rfl rfl rfl (RG.pv rfl (PV.add rfl rfl rfl (by omega)) (RG.mr rfl rfl rfl (RG.nil ?_)))))
           exact ⟨rfl, m + 1, ⟨by omega, hq'⟩, ⟨rfl, trivial⟩, ⟨rfl, rfl, trivial⟩, Cv.p, by omega⟩
       · have h5 := of_decide_eq_false h5
         have e : cellAt (erCls l.cells.xs) i = true := by
           have : nameAt (erCls l.cells.xs) i = true := by
             rw [nameAt, decide_eq_true_iff]
             intro j hj2
             rw [hn j (by omega), hn i h3]
             exact hq j (by omega)
           rw [cellAt, this, erCls_gd h3, h4]; rfl
         have hj' : ∀ j, j < i + 1 → cellAt (erCls l.cells.xs) j = true := fun j h => by
           by_cases c : j = i
           · rw [c]; exact e
           · exact hj j (by omega)
         refine WP.exit ?_
         refine WP.region (RG.ml rfl rfl rfl (RG.pv rfl (PV.add rfl rfl rfl (by omega)) (RG.mr rfl rfl rfl (RG.nil ?_))))
         exact ⟨rfl, i + 1, ⟨by omega, hj'⟩, ⟨rfl, trivial⟩, ⟨rfl, trivial⟩, Cv.p, by omega⟩
   · have h2 := of_decide_eq_false h2
     rw [okLib_all (by omega) (by omega) (fun j h => hj j (by omega))] at k
     refine WP.exit ?_
     refine WP.seq (WP.region (RG.br rfl rfl rfl (RG.nil ?_)))
     refine WP.ret ?_
     exact ⟨_, _, ResV.one rfl rfl, Cv.p, k⟩
theorem hasCl_r {l : Lib} {cell : Int} (hL : RLib G L l.cells.v l.cells.xs) (hlen : lenC (erCls l.cells.xs)) (k : R (.bool (hasCl (erCls l.cells.xs) cell)) G L) : CallT Tryz.prog 100 #[vT libT l, vi cell] G L R := by
 have hE := erCls_len l.cells.xs
 refine CallT.bd hL.c fun hb => ?_
 rw [hasCl, hE] at k
 refine CallT.enter (args := _) Tryz.func100 rfl rfl (by kernel_rfl) rfl ?_
 refine WP.seq (WP.region ?_)
 refine RG.ot rfl (OT.box (cs := libT.enc l) rfl rfl rfl fun b2 => ?_)
 refine RG.br rfl rfl rfl (RG.nil (WP.seq (WP.region (RG.pv rfl (PV.loadW rfl Ag31 rfl rfl) ?_))))
 refine RG.callF (vs := [_]) rfl rfl En99 rfl (okLib_r hL.up hlen ?_)
 refine RG.bl rfl rfl rfl ?_
 refine RG.gs rfl rfl rfl (fun hp => (PV.mvI (.inl rfl) rfl)) ?_
 refine RG.gs rfl rfl rfl (fun hp => (PV.field rfl Fo31_0 rfl)) ?_
 refine RG.gs rfl rfl rfl (fun hp => (PV.load1 rfl Sc29 (gs_t hp) (Rd.blk rfl))) ?_
 refine RG.gs rfl rfl rfl (fun hp => (PV.len rfl Tryz.underlying29 (gs_t hp) (SlF.r hL.c))) ?_
 refine RG.gs rfl rfl rfl (fun hp => (PV.sub rfl (gs_t hp) rfl (by first | omega | (simp at hp; omega)))) ?_
 refine RG.gsC rfl rfl rfl rfl En151 (fun hp => ⟨_, (acons (gs_t hp) (acons rfl (acons (gs_t hp) anil))), l09In_s ⟨rfl, rfl, rfl⟩⟩) ?_
 refine RG.pv rfl (PV.pickA rfl rfl (fun hq => gs_t (geqT hq)) rfl) (RG.br rfl rfl rfl (RG.nil ?_))
 refine WP.ret ?_
 exact ⟨_, _, ResV.one rfl rfl, Cv.p, k⟩
def celE (cs : List ECell) (cell : Int) : Int := bif !okLib cs then 1 else bif !within cell 0 ((cs.length : Int) - 1) then 5 else 0
theorem celE_i {l : Lib} {cell : Int} (hL : RLib G L l.cells.v l.cells.xs) (hlen : lenC (erCls l.cells.xs)) (k : R (vi (celE (erCls l.cells.xs) cell)) G L) : CallT Tryz.prog 131 #[vT libT l, vi cell] G L R := by
 have hE := erCls_len l.cells.xs
 refine CallT.bd hL.c fun hb => ?_
 rw [celE, hE] at k
 refine CallT.enter (args := _) Tryz.func131 rfl rfl (by kernel_rfl) rfl ?_
 refine WP.seq (WP.region ?_)
 refine RG.ot rfl (OT.box (cs := libT.enc l) rfl rfl rfl fun b2 => ?_)
 refine RG.mr rfl rfl rfl (RG.nil (WP.seq (WP.block (WP.seq (WP.region (RG.pv rfl (PV.loadW rfl Ag31 rfl rfl) ?_))))))
 refine RG.callF (vs := [_]) rfl rfl En185 rfl (okLib_i hL.up hlen ?_)
 refine RG.pv rfl (PV.not rfl rfl) (RG.br rfl rfl rfl (RG.nil ?_))
 refine WP.cond rfl (fun h1 => ?_) (fun h1 => ?_)
 · rw [h1, cond_true] at k
   refine WP.seq (WP.region (RG.mr rfl rfl rfl (RG.nil ?_)))
   refine WP.ret ?_
   exact ⟨_, _, ResV.one rfl rfl, Cv.p, k⟩
 · rw [h1, cond_false] at k
   refine WP.seq (WP.region (RG.ml rfl rfl rfl (RG.pv rfl (PV.field rfl Fo31_0 rfl) (RG.pv rfl (PV.load1 rfl Sc29 rfl (Rd.blk rfl)) (RG.pv rfl (PV.len rfl Tryz.underlying29 rfl (SlF.r hL.c)) (RG.pv rfl (PV.sub rfl rfl rfl (by omega)) ?_))))))
   refine RG.callF (vs := [_, _, _]) rfl rfl En43 rfl (within_s ?_)
   refine RG.pv rfl (PV.not rfl rfl) (RG.br rfl rfl rfl (RG.nil ?_))
   refine WP.cond rfl (fun h2 => ?_) (fun h2 => ?_)
   · rw [h2, cond_true] at k
     refine WP.seq (WP.region (RG.mr rfl rfl rfl (RG.nil ?_)))
     refine WP.ret ?_
     exact ⟨_, _, ResV.one rfl rfl, Cv.p, k⟩
   · rw [h2, cond_false] at k
     refine WP.skip (WP.seq (WP.region (RG.mr rfl rfl rfl (RG.nil ?_))))
     refine WP.ret ?_
     exact ⟨_, _, ResV.one rfl rfl, Cv.p, k⟩
theorem part0 {α : Type} [Inhabited α] {xs : List α} {i n : Nat} (h : i < n) (h' : i < xs.length) : ((xs.take n).drop 0)[i]? = some (gd xs i) := by
 rw [List.drop_zero, List.getElem?_take, if_pos h, getG h']
theorem erCl_insts {xs : List Cell} {i : Nat} (h : i < xs.length) : (gd (erCls xs) i).insts = (gd xs i).insts.xs := by rw [erCls_gd h]; rfl
/-- one step of a count -/
theorem cnt_step {cs : List ECell} (hok : okLib cs = true) {i m : Nat} (hi : i < cs.length) (hm : m < (gd cs i).insts.length) :
   (0 ≤ (gd (gd cs i).insts m).cell ∧ (gd (gd cs i).insts m).cell < i) ∧ (0 ≤ (gd (gd cs i).insts m).cols * (gd (gd cs i).insts m).rows ∧ (gd (gd cs i).insts m).cols * (gd (gd cs i).insts m).rows ≤ 16) ∧
   (0 ≤ (gd (gd cs i).insts m).cols * (gd (gd cs i).insts m).rows * gd (cnts cs i) (gd (gd cs i).insts m).cell.toNat ∧ (gd (gd cs i).insts m).cols * (gd (gd cs i).insts m).rows * gd (cnts cs i) (gd (gd cs i).insts m).cell.toNat ≤ 9511476839856144) ∧
   (1 ≤ 1 + costL (cntI (cnts cs i)) ((gd cs i).insts.take m) ∧ 1 + costL (cntI (cnts cs i)) ((gd cs i).insts.take m) ≤ 76091814718849153) ∧
   1 + costL (cntI (cnts cs i)) ((gd cs i).insts.take (m + 1)) = 1 + costL (cntI (cnts cs i)) ((gd cs i).insts.take m) + (gd (gd cs i).insts m).cols * (gd (gd cs i).insts m).rows * gd (cnts cs i) (gd (gd cs i).insts m).cell.toNat := by
 have ho := okLib_inst hok hi hm
 obtain ⟨h1, _, h3, h4, _, _⟩ := okIn_bd ho
 have e1 := mul_bd (a := (gd (gd cs i).insts m).cols) (b := (gd (gd cs i).insts m).rows) (A := 4) (B := 4) (by omega) (by omega) (by omega)
 have e0 : 0 ≤ (gd (gd cs i).insts m).cols * (gd (gd cs i).insts m).rows := Int.mul_nonneg (by omega) (by omega)
 have hb := cnts_big hok hi
 have e2 := cntI_bd (ks := cnts cs i) (M := 594467302491009) ho (hb _ (by omega))
 have e3 := ownCnt_bd hok (M := 594467302491009) (by omega) hi hb m (by omega)
 simp only [cntI] at e2
 refine ⟨by omega, by omega, by omega, by omega, ?_⟩
 rw [costL_take _ hm, ← Int.add_assoc]; rfl
theorem elCnt_i {l : Lib} {cell : Int} (hL : RLib G L l.cells.v l.cells.xs) (hok : okLib (erCls l.cells.xs) = true) (hc : 0 ≤ cell ∧ cell < (erCls l.cells.xs).length) (k : R (vi (cntOf (erCls l.cells.xs) cell.toNat)) G L) : CallT Tryz.prog 132 #[vT libT l, vi cell] G L R := by
 have hE := erCls_len l.cells.xs
 have h8 := okLib_len hok
 refine CallT.enter (args := _) Tryz.func132 rfl rfl (by kernel_rfl) rfl ?_
 refine WP.seq (WP.region ?_)
 refine RG.ot rfl (OT.box (cs := libT.enc l) rfl rfl rfl fun b2 => ?_)
 refine RG.mr rfl rfl rfl (RG.nil (WP.seq (WP.region ?_)))
 refine RG.ot rfl (OT.bslice (F := intT) (els := []) rfl El26 rfl (by decide) rfl (by decide) trivial fun v11 => ?_)
 refine RG.pv rfl (PV.asg (v := v11) rfl rfl) (RG.nil (WP.seq (WP.seq (WP.region (RG.pv rfl (PV.field rfl Fo31_0 rfl) (RG.pv rfl (PV.load1 rfl Sc29 rfl (Rd.blk rfl)) (RG.ml rfl rfl rfl ?_)))))))
 refine RG.pv rfl (PV.add rfl rfl rfl (by omega)) (RG.pv rfl (PV.slc (h := cell.toNat + 1) rfl Is29 rfl (SlF.r hL.c) optAt.n (optAt.s rfl (by omega)) (by omega) (by omega)) (RG.pv rfl (PV.len rfl Tryz.underlying29 rfl (SlF.r (Rs.slv (F := cellT) hL.c (by omega) (by omega)))) (RG.ml rfl rfl rfl (RG.nil (WP.block ?_)))))
 have hpl : (List.drop 0 (List.take (cell.toNat + 1) l.cells.xs)).length = cell.toNat + 1 := by simp; omega
 refine WP.cv (Cv.eqS (xs := []) (ys := cnts (erCls l.cells.xs) 0) rfl) ?_
 refine WP.loop2 [1, 16, 17] (fun (i : Nat) (v : Value) => i ≤ cell.toNat + 1) (fun (i : Nat) (v : Value) => [(18, vi i), (5, v)]) (fun (i : Nat) (v : Value) => osl 2 intT v (cnts (erCls l.cells.xs) i) :: blk b2 31 (libT.enc l) :: L) (fun (i : Nat) (v : Value) => cell.toNat + 1 - i) 0 v11 (by omega) ⟨rfl, rfl, trivial⟩ Cv.p ?_
 rintro i v τ hi
 refine WP.seq (WP.region (RG.pv rfl (PV.lss rfl rfl rfl) (RG.nil (WP.seq ?_))))
 have hcl := cnts_len (erCls l.cells.xs) i
 refine WP.cond rfl (fun h2 => ?_) (fun h2 => ?_)
 · have h2 := of_decide_eq_true h2
   have h3 : i < l.cells.xs.length := by omega
   have hin := erCl_insts h3
   have h8i := (okLib_cnt hok (i := i) (by omega)).1
   rw [hin] at h8i
   refine WP.skip (WP.seq (WP.block (WP.seq (WP.region (RG.pv rfl (PV.idxS rfl Is29 rfl (SlF.r (Rs.slv (F := cellT) hL.c (by omega) (by omega))) rfl rfl (by omega)) (RG.pv rfl (PV.loadE rfl Ag116 rfl rfl (El.r (Rs.slv (F := cellT) hL.c (lo := 0) (hi := cell.toNat + 1) (by omega) (by omega)) (part0 (by omega) (by omega)))) ?_))))))
   refine RG.ot rfl (OT.alloc rfl Zr116 fun b7 => ?_)
   refine RG.ot rfl (OT.storeW (vs := [.string _, _, _, _]) rfl Sz116 rfl rfl (Cl.c rfl) rfl rfl (hL.one h3) ?_)
   refine RG.nil (WP.seq (WP.region (RG.mr rfl rfl rfl (RG.nil (WP.seq (WP.seq (WP.region ?_)))))))
   refine RG.pv rfl (PV.field rfl Fo116_3 rfl) (RG.pv rfl (PV.load1 rfl Sc114 rfl (Rd.blk rfl)) (RG.pv rfl (PV.len rfl Tryz.underlying114 rfl (SlF.r (hL.na h3))) (RG.ml rfl rfl rfl (RG.nil (WP.block ?_)))))
   refine WP.loop2 [1, 5, 16, 17, 18, 23, 24] (fun (m : Nat) (own : Int) => m ≤ (gd l.cells.xs i).insts.xs.length ∧ own = 1 + costL (cntI (cnts (erCls l.cells.xs) i)) ((gd (erCls l.cells.xs) i).insts.take m)) (fun (m : Nat) (own : Int) => [(25, vi m), (8, vi own)]) (fun (m : Nat) (own : Int) => osl 2 intT v (cnts (erCls l.cells.xs) i) :: blk b2 31 (libT.enc l) :: L) (fun (m : Nat) (own : Int) => (gd l.cells.xs i).insts.xs.length - m) 0 1 ⟨by omega, by simp [costL]⟩ ⟨rfl, rfl, trivial⟩ Cv.p ?_
   rintro m own τ ⟨hm, he⟩
   refine WP.seq (WP.region (RG.pv rfl (PV.lss rfl rfl rfl) (RG.nil (WP.seq ?_))))
   refine WP.cond rfl (fun h4 => ?_) (fun h4 => ?_)
   · have h4 := of_decide_eq_true h4
     have hst := cnt_step hok (i := i) (m := m) (by omega) (by rw [hin]; omega)
     rw [hin] at hst he
     obtain ⟨q1, q2, q3, q4, q5⟩ := hst
     refine WP.skip (WP.seq (WP.block (WP.seq (WP.region (RG.pv rfl (PV.idxS rfl Is114 rfl (SlF.r (hL.na h3)) rfl rfl (by omega)) (RG.pv rfl (PV.loadE rfl Ag195 rfl rfl (El.r (hL.na h3) (getG (by omega)))) ?_))))))
     refine RG.ot rfl (OT.alloc rfl Zr195 fun b10 => ?_)
     refine RG.ot rfl (OT.storeW (vs := [vi _, vi _, vi _, vi _, vi _, vi _, vi _, vi _]) rfl Sz195 rfl rfl (Cl.c rfl) rfl rfl (OneC.c rfl) ?_)
     refine RG.nil ?_
     refine WP.regionQ (by kernel_rfl) (by kernel_rfl) ?_
     refine RQ.pv rfl (PV.mvI (.inl rfl) rfl) ?_
     refine RQ.pv rfl (PV.field rfl Fo195_2 rfl) ?_
     refine RQ.pv rfl (PV.load1 rfl Sc2 rfl (Rd.blk rfl)) ?_
     refine RQ.pv rfl (PV.field rfl Fo195_3 rfl) ?_
     refine RQ.pv rfl (PV.load1 rfl Sc2 rfl (Rd.blk rfl)) ?_
     refine RQ.pv rfl (PV.mul rfl rfl rfl (by omega)) ?_
     refine RQ.pv rfl (PV.move (v := v) rfl rfl) ?_
     refine RQ.pv rfl (PV.field rfl Fo195_0 rfl) ?_
     refine RQ.pv rfl (PV.load1 rfl Sc2 rfl (Rd.blk rfl)) ?_
     refine RQ.pv rfl (PV.idxS (j := (gd (gd l.cells.xs i).insts.xs m).cell.toNat) (v := v) rfl Is26 rfl SlF.o rfl (by omega) (by omega)) ?_
     refine RQ.pv rfl (PV.loadE1 rfl Sc2 rfl rfl (El.o (getG (by omega))) rfl) ?_
     refine RQ.pv rfl (PV.mul rfl rfl rfl (by omega)) ?_
     refine RQ.pv rfl (PV.add rfl rfl rfl (by omega)) ?_
     refine RQ.pv rfl (PV.mvI (.inr rfl) rfl) ?_
     refine RQ.nil ?_
     refine WP.region (RG.pv rfl (PV.add rfl rfl rfl (by omega)) (RG.ml rfl rfl rfl (RG.nil ?_)))
     exact ⟨rfl, m + 1, _, ⟨by omega, by rw [hin, q5, he]⟩, ⟨rfl, rfl, trivial⟩, ⟨rfl, rfl, rfl, rfl, rfl, rfl, rfl, trivial⟩, Cv.p, by omega⟩
   · have h4 := of_decide_eq_false h4
     have e : own = ownCnt (cnts (erCls l.cells.xs) i) (gd (erCls l.cells.xs) i).insts := by rw [he, List.take_of_length_le (by rw [hin]; omega)]; rfl
     refine WP.exit ?_
     refine WP.region (RG.pv rfl (PV.move (v := v) rfl rfl) (RG.ml rfl rfl rfl ?_))
     refine RG.ot rfl (OT.bslice (F := intT) (els := [_]) rfl El26 rfl (by decide) rfl (by decide) ⟨rfl, (Cl.c rfl), trivial⟩ fun v45 => ?_)
     refine RG.ot rfl (OT.append (v := v) (u := v45) (F := intT) rfl El26 rfl (by decide) rfl rfl Rs.o (OneL.c (fun _ => rfl)) rfl (by first | omega | (simp <;> omega)) fun v46 => ?_)
     refine RG.pv rfl (PV.asg (v := v46) rfl rfl) (RG.nil (WP.region (RG.pv rfl (PV.add rfl rfl rfl (by omega)) (RG.ml rfl rfl rfl (RG.nil ?_)))))
     exact ⟨rfl, i + 1, _, (by omega), ⟨rfl, rfl, trivial⟩, ⟨rfl, rfl, rfl, trivial⟩, ((Cv.p (C := osl 2 intT v46 (cnts (erCls l.cells.xs) i ++ [own]) :: blk b2 31 (libT.enc l) :: L)).trans (Cv.eqS (by rw [e]; rfl))), by omega⟩
 · have h2 := of_decide_eq_false h2
   have e : gd (cnts (erCls l.cells.xs) i) cell.toNat = cntOf (erCls l.cells.xs) cell.toNat := cnts_gd _ (by omega)
   rw [← e] at k
   refine WP.exit ?_
   refine WP.seq (WP.region (RG.pv rfl (PV.move (v := v) rfl rfl) (RG.ml rfl rfl rfl (RG.pv rfl (PV.idxS (j := cell.toNat) (v := v) rfl Is26 rfl SlF.o rfl (by omega) (by omega)) (RG.pv rfl (PV.loadE1 rfl Sc2 rfl rfl (El.o (getG (by omega))) rfl) (RG.mr rfl rfl rfl (RG.nil ?_)))))))
   refine WP.ret ?_
   exact ⟨_, _, ResV.one rfl rfl, Cv.p, k⟩
theorem elCnt_r {l : Lib} {cell : Int} (hL : RLib G L l.cells.v l.cells.xs) (hlen : lenC (erCls l.cells.xs)) (hok : okLib (erCls l.cells.xs) = true) (hc : 0 ≤ cell ∧ cell < (erCls l.cells.xs).length) (k : R (vi (cntOf (erCls l.cells.xs) cell.toNat)) G L) : CallT Tryz.prog 101 #[vT libT l, vi cell] G L R := by
 have hE := erCls_len l.cells.xs
 have h8 := okLib_len hok
 have hh : hasCl (erCls l.cells.xs) cell = true := by simp [hasCl, hok, within]; omega
 refine CallT.enter (args := _) Tryz.func101 rfl rfl (by kernel_rfl) rfl ?_
 refine WP.seq (WP.region ?_)
 refine RG.ot rfl (OT.box (cs := libT.enc l) rfl rfl rfl fun b2 => ?_)
 refine RG.mr rfl rfl rfl (RG.nil (WP.seq (WP.seq (WP.region (RG.pv rfl (PV.loadW rfl Ag31 rfl rfl) (RG.ml rfl rfl rfl ?_))))))
 refine RG.callF (vs := [_, _]) rfl rfl En100 rfl (hasCl_r hL.up hlen ?_)
 refine RG.pv rfl (PV.not rfl rfl) (RG.nil ?_)
 refine WP.cond rfl (fun h1 => ?_) (fun h1 => ?_)
 · exfalso; simp [hh] at h1
 refine WP.skip (WP.seq (WP.region ?_))
 refine RG.ot rfl (OT.bslice (F := intT) (els := []) rfl El26 rfl (by decide) rfl (by decide) trivial fun v14 => ?_)
 refine RG.pv rfl (PV.asg (v := v14) rfl rfl) (RG.nil (WP.seq (WP.seq (WP.region (RG.mr rfl rfl rfl (RG.nil (WP.block ?_)))))))
 refine WP.cv (Cv.eqS (xs := []) (ys := cnts (erCls l.cells.xs) 0) rfl) ?_
 refine WP.loop2 [1, 2] (fun (i : Nat) (v : Value) => i ≤ l.cells.xs.length) (fun (i : Nat) (v : Value) => [(6, vi i), (5, v)]) (fun (i : Nat) (v : Value) => osl 2 intT v (cnts (erCls l.cells.xs) i) :: blk b2 31 (libT.enc l) :: L) (fun (i : Nat) (v : Value) => l.cells.xs.length - i) 0 v14 (by omega) ⟨rfl, rfl, trivial⟩ Cv.p ?_
 rintro i v τ hi
 refine WP.seq (WP.seq (WP.region (RG.ml rfl rfl rfl (RG.pv rfl (PV.field rfl Fo31_0 rfl) (RG.pv rfl (PV.load1 rfl Sc29 rfl (Rd.blk rfl)) (RG.pv rfl (PV.len rfl Tryz.underlying29 rfl (SlF.r hL.c)) (RG.pv rfl (PV.lss rfl rfl rfl) ?_)))))))
 refine RG.nil ?_
 have hcl := cnts_len (erCls l.cells.xs) i
 refine WP.cond rfl (fun h2 => ?_) (fun h2 => ?_)
 · have h2 := of_decide_eq_true h2
   have h3 : i < l.cells.xs.length := by omega
   have hin := erCl_insts h3
   have h8i := (okLib_cnt hok (i := i) (by omega)).1
   rw [hin] at h8i
   refine WP.skip (WP.seq (WP.block (WP.seq (WP.region (RG.mr rfl rfl rfl (RG.nil (WP.seq ?_)))))))
   refine WP.region (RG.pv rfl (PV.field rfl Fo31_0 rfl) (RG.pv rfl (PV.load1 rfl Sc29 rfl (Rd.blk rfl)) (RG.ml rfl rfl rfl (RG.pv rfl (PV.idxS rfl Is29 rfl (SlF.r hL.c) rfl rfl (by omega)) (RG.pv rfl (PV.field rfl Fo116_3 rfl) (RG.pv rfl (PV.loadF rfl Sc114 rfl rfl (El.r hL.c (getG (by omega))) rfl) (RG.pv rfl (PV.asg rfl rfl) ?_)))))))
   refine RG.nil (WP.seq (WP.seq (WP.region (RG.mr rfl rfl rfl (RG.nil (WP.block ?_))))))
   refine WP.loop2 [1, 2, 5, 6, 8] (fun (m : Nat) (own : Int) => m ≤ (gd l.cells.xs i).insts.xs.length ∧ own = 1 + costL (cntI (cnts (erCls l.cells.xs) i)) ((gd (erCls l.cells.xs) i).insts.take m)) (fun (m : Nat) (own : Int) => [(9, vi m), (7, vi own)]) (fun (m : Nat) (own : Int) => osl 2 intT v (cnts (erCls l.cells.xs) i) :: blk b2 31 (libT.enc l) :: L) (fun (m : Nat) (own : Int) => (gd l.cells.xs i).insts.xs.length - m) 0 1 ⟨by omega, by simp [costL]⟩ ⟨rfl, rfl, trivial⟩ Cv.p ?_
   rintro m own τ ⟨hm, he⟩
   refine WP.seq (WP.seq (WP.region (RG.ml rfl rfl rfl (RG.pv rfl (PV.move rfl rfl) (RG.pv rfl (PV.len rfl Tryz.underlying114 rfl (SlF.r (hL.na h3))) (RG.pv rfl (PV.lss rfl rfl rfl) (RG.nil ?_)))))))
   refine WP.cond rfl (fun h4 => ?_) (fun h4 => ?_)
   · have h4 := of_decide_eq_true h4
     have hst := cnt_step hok (i := i) (m := m) (by omega) (by rw [hin]; omega)
     rw [hin] at hst he
     obtain ⟨q1, q2, q3, q4, q5⟩ := hst
     refine WP.skip (WP.seq (WP.block ?_))
     refine WP.regionQ (by kernel_rfl) (by kernel_rfl) ?_
     refine RQ.pv rfl (PV.mvI (.inl rfl) rfl) ?_
     refine RQ.pv rfl (PV.move rfl rfl) ?_
     refine RQ.pv rfl (PV.mvI (.inl rfl) rfl) ?_
     refine RQ.pv rfl (PV.idxS rfl Is114 rfl (SlF.r (hL.na h3)) rfl rfl (by omega)) ?_
     refine RQ.pv rfl (PV.field rfl Fo195_2 rfl) ?_
     refine RQ.pv rfl (PV.loadF rfl Sc2 rfl rfl (El.r (hL.na h3) (getG (by omega))) rfl) ?_
     refine RQ.pv rfl (PV.move rfl rfl) ?_
     refine RQ.pv rfl (PV.mvI (.inl rfl) rfl) ?_
     refine RQ.pv rfl (PV.idxS rfl Is114 rfl (SlF.r (hL.na h3)) rfl rfl (by omega)) ?_
     refine RQ.pv rfl (PV.field rfl Fo195_3 rfl) ?_
     refine RQ.pv rfl (PV.loadF rfl Sc2 rfl rfl (El.r (hL.na h3) (getG (by omega))) rfl) ?_
     refine RQ.pv rfl (PV.mul rfl rfl rfl (by omega)) ?_
     refine RQ.pv rfl (PV.move (v := v) rfl rfl) ?_
     refine RQ.pv rfl (PV.move rfl rfl) ?_
     refine RQ.pv rfl (PV.mvI (.inl rfl) rfl) ?_
     refine RQ.pv rfl (PV.idxS rfl Is114 rfl (SlF.r (hL.na h3)) rfl rfl (by omega)) ?_
     refine RQ.pv rfl (PV.field rfl Fo195_0 rfl) ?_
     refine RQ.pv rfl (PV.loadF rfl Sc2 rfl rfl (El.r (hL.na h3) (getG (by omega))) rfl) ?_
     refine RQ.pv rfl (PV.idxS (j := (gd (gd l.cells.xs i).insts.xs m).cell.toNat) (v := v) rfl Is26 rfl SlF.o rfl (by omega) (by omega)) ?_
     refine RQ.pv rfl (PV.loadE1 rfl Sc2 rfl rfl (El.o (getG (by omega))) rfl) ?_
     refine RQ.pv rfl (PV.mul rfl rfl rfl (by omega)) ?_
     refine RQ.pv rfl (PV.add rfl rfl rfl (by omega)) ?_
     refine RQ.pv rfl (PV.mvI (.inr rfl) rfl) ?_
     refine RQ.nil ?_
     refine WP.region (RG.ml rfl rfl rfl (RG.pv rfl (PV.add rfl rfl rfl (by omega)) (RG.mr rfl rfl rfl (RG.nil ?_))))
     exact ⟨rfl, m + 1, _, ⟨by omega, by rw [hin, q5, he]⟩, ⟨rfl, rfl, trivial⟩, ⟨rfl, rfl, rfl, rfl, rfl, trivial⟩, Cv.p, by omega⟩
   · have h4 := of_decide_eq_false h4
     have e : own = ownCnt (cnts (erCls l.cells.xs) i) (gd (erCls l.cells.xs) i).insts := by rw [he, List.take_of_length_le (by rw [hin]; omega)]; rfl
     refine WP.exit ?_
     refine WP.region (RG.pv rfl (PV.move (v := v) rfl rfl) (RG.ml rfl rfl rfl ?_))
     refine RG.ot rfl (OT.bslice (F := intT) (els := [_]) rfl El26 rfl (by decide) rfl (by decide) ⟨rfl, (Cl.c rfl), trivial⟩ fun v58 => ?_)
     refine RG.ot rfl (OT.append (v := v) (u := v58) (F := intT) rfl El26 rfl (by decide) rfl rfl Rs.o (OneL.c (fun _ => rfl)) rfl (by first | omega | (simp <;> omega)) fun v59 => ?_)
     refine RG.pv rfl (PV.asg (v := v59) rfl rfl) (RG.nil (WP.region (RG.ml rfl rfl rfl (RG.pv rfl (PV.add rfl rfl rfl (by omega)) (RG.mr rfl rfl rfl (RG.nil ?_))))))
     exact ⟨rfl, i + 1, _, (by omega), ⟨rfl, rfl, trivial⟩, ⟨rfl, rfl, trivial⟩, ((Cv.p (C := osl 2 intT v59 (cnts (erCls l.cells.xs) i ++ [own]) :: blk b2 31 (libT.enc l) :: L)).trans (Cv.eqS (by rw [e]; rfl))), by omega⟩
 · have h2 := of_decide_eq_false h2
   have e : gd (cnts (erCls l.cells.xs) i) cell.toNat = cntOf (erCls l.cells.xs) cell.toNat := cnts_gd _ (by omega)
   rw [← e] at k
   refine WP.exit ?_
   refine WP.seq (WP.region (RG.pv rfl (PV.move (v := v) rfl rfl) (RG.ml rfl rfl rfl (RG.pv rfl (PV.idxS (j := cell.toNat) (v := v) rfl Is26 rfl SlF.o rfl (by omega) (by omega)) (RG.pv rfl (PV.loadE1 rfl Sc2 rfl rfl (El.o (getG (by omega))) rfl) (RG.mr rfl rfl rfl (RG.nil ?_)))))))
   refine WP.ret ?_
   exact ⟨_, _, ResV.one rfl rfl, Cv.p, k⟩
end Go.Proofs.YthhjapiggekjbaaGreat
