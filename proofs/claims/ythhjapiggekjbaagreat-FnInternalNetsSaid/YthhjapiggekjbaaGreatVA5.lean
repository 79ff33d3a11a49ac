/-
  The law FnInternalNets: whatever the code, the law returns true and the code reads as before.
-/
import Derived.Test.YthhjapiggekjbaaGreatVA4
import Derived.Test.YthhjapiggekjbaaGreatRows
namespace Go.Proofs.YthhjapiggekjbaaGreat
set_option linter.unusedVariables false
set_option linter.unusedSimpArgs false
open Go
set_option maxRecDepth 20000
set_option maxHeartbeats 2000000
set_option linter.unusedSimpArgs false
variable {G : Gh} {L : List Ch} {R : Value → Gh → List Ch → Prop}
def cmpN (a b : HNet) : Int := cmpP (erP (gd a.net.pieces.xs 0)) (erP (gd b.net.pieces.xs 0))
theorem sortH_s {v : Value} {hs : List HNet} (h1 : RsE G L pieceT (hps hs)) (h2 : RsE G L intT (hos hs)) (h3 : RsE G L rectT (hrg hs)) (hn : hs.length ≤ 400) (hg : ∀ h ∈ hs, 0 < h.net.pieces.xs.length ∧ 0 < (gd h.net.pieces.xs 0).reg.xs.length ∧ 0 ≤ (gd h.net.pieces.xs 0).layer ∧ (gd h.net.pieces.xs 0).layer ≤ 7)
   (k : ∀ zs : List HNet, zs.Perm hs → zs.Pairwise (fun a b => ¬ cmpN b a < 0) → R (.tuple #[]) G (osl 82 hnetT v zs :: L)) : CallT Tryz.prog 75 #[v, .func (.func 76) #[] #[]] G (osl 82 hnetT v hs :: L) R := by
 have r1 : ∀ x ∈ hs, Rs G L pieceT x.net.pieces.v x.net.pieces.xs := fun x hx => by
   obtain ⟨i, hi, e⟩ := List.getElem_of_mem hx
   have := h1 i (by rw [hps_len]; exact hi)
   rwa [hps_gd hi, gd_eq hi, e] at this
 have r2 : ∀ x ∈ hs, Rs G L intT x.occs.v x.occs.xs := fun x hx => by
   obtain ⟨i, hi, e⟩ := List.getElem_of_mem hx
   have := h2 i (by rw [hos_len]; exact hi)
   rwa [hos_gd hi, gd_eq hi, e] at this
 refine CallT.of fun w hs0 => ?_
 have hw : St G L w := hs0.cv Cv.p
 refine (sortF sortN (F := hnetT) (cf := cmpN) (fun w => (Ag82 w).1) (fun w => Sz82 w) En76 (by omega) (fun x hx u hu => ?_) (fun x hx => cmpP_irr _) (fun x _ y _ z _ => cmpP_tr) (fun x _ y _ z _ => cmpP_nt) (fun W hW x hx y hy => ?_) k).run hs0
 · simp only [hnetT, List.mem_cons, List.not_mem_nil, or_false] at hu
   rcases hu with rfl | rfl
   · exact (r1 x hx w hw).1.one
   · exact (r2 x hx w hw).1.one
 · obtain ⟨a1, a2, a3⟩ := hg x hx
   obtain ⟨b1, b2, b3⟩ := hg y hy
   exact cmpH_s ((r1 x hx).at hW) ((r1 y hy).at hW) a1 b1 ((h3.hReg hx a1).at hW) ((h3.hReg hy b1).at hW) a2 b2 a3 b3 ⟨rfl, rfl⟩
noncomputable def hnC (cs : List ECell) (cell : Int) : Int := if hcC cs cell = 0 then netE (flyL cs cell) else hcC cs cell
noncomputable def hnR (cs : List ECell) (cell : Int) : List (List (Int × List Rect) × List Int) := if hnC cs cell = 0 then netH (flyL cs cell) (plE cs cell) ((ppAll cs cell).map Prod.fst) else []
theorem hnets_i {l : Lib} {cell : Int} (hL : RLib G L l.cells.v l.cells.xs) (hlen : lenC (erCls l.cells.xs)) (k0 : hnC (erCls l.cells.xs) cell ≠ 0 → R (.tuple #[.slice none 0 0, vi (hnC (erCls l.cells.xs) cell)]) G L)
   (k : hnC (erCls l.cells.xs) cell = 0 → ∀ v hs, hs.map erH = hnR (erCls l.cells.xs) cell → R (.tuple #[v, vi 0]) G (osl 82 hnetT v hs :: bagS 63 pieceT (hps hs) :: bagS 2 intT (hos hs) :: bagS 140 rectT (hrg hs) :: L)) : CallT Tryz.prog 42 #[vT libT l, vi cell] G L R := by
 by_cases h1 : hcC (erCls l.cells.xs) cell = 0
 · obtain ⟨h0, hPA⟩ := hc_all h1
   have hly := isLay_fly h0
   have hnc : hnC (erCls l.cells.xs) cell = netE (flyL (erCls l.cells.xs) cell) := by rw [hnC, if_pos h1]
   have hpl := (ppC_0 (hcC_0 h1).1).2
   have hpe := plE_len (erCls l.cells.xs) cell
   have hcl := clsH_len (flyL (erCls l.cells.xs) cell) (plE (erCls l.cells.xs) cell)
   refine CallT.enter (args := _) Tryz.func42 rfl rfl (by kernel_rfl) rfl ?_
   refine WP.seq (WP.region ?_)
   refine RG.ot rfl (OT.box (cs := libT.enc l) rfl rfl rfl fun b2 => ?_)
   refine RG.pv rfl (PV.asg rfl rfl) (RG.mr rfl rfl rfl (RG.nil (WP.seq (WP.region (RG.pv rfl (PV.loadW rfl Ag31 rfl rfl) (RG.ml rfl rfl rfl ?_))))))
   refine RG.callF (vs := [_, _]) rfl rfl En38 rfl (pcls_i hL.up hlen (fun h => absurd h1 h) (fun _ v1 qs v2 hq => ?_))
   refine RG.pv rfl (PV.move (v := .tuple _) rfl rfl) (RG.pv rfl (PV.ext (v := v1) rfl rfl rfl) (RG.pv rfl (PV.ext (v := v2) rfl rfl rfl) (RG.pv rfl (PV.ext rfl rfl rfl) (RG.pv rfl (PV.asg (v := v1) rfl rfl) (RG.pv rfl (PV.asg (v := v2) rfl rfl) (RG.mr rfl rfl rfl (RG.nil ?_)))))))
   refine WP.seq (WP.seq (WP.region (RG.ml rfl rfl rfl (RG.pv rfl (PV.neq rfl rfl rfl) (RG.nil ?_)))))
   have hE : (erQs qs).map Prod.snd = plE (erCls l.cells.xs) cell := by rw [hq]; rfl
   have hO : (erQs qs).map Prod.fst = (ppAll (erCls l.cells.xs) cell).map Prod.fst := by rw [hq]
   have hql : qs.length = (plE (erCls l.cells.xs) cell).length := by rw [← hE]; simp [erQs]
   have hgO : ∀ i, i < qs.length → gd ((ppAll (erCls l.cells.xs) cell).map Prod.fst) i = (gd qs i).occ := fun i hi => by
     rw [← hO, gd_map _ (by simpa [erQs] using hi), erQs, gd_map _ hi]; rfl
   have hgE : ∀ i, i < qs.length → gd (plE (erCls l.cells.xs) cell) i = erP (gd qs i).piece := fun i hi => by rw [← hE, erQs_snd hi]
   have hly4 : ∀ i, i < qs.length → 0 ≤ (gd qs i).piece.layer ∧ (gd qs i).piece.layer < 8 := fun i hi => by
     obtain ⟨j, hj⟩ := hPA.mem _ (gd_mem (show i < (plE (erCls l.cells.xs) cell).length by omega))
     have h2 := hj.lay
     have h3 := hj.hi
     rw [hgE i hi] at h2
     have h4 : (gd qs i).piece.layer = gd [0, 1, 3, 5] j := h2
     rw [h4]
     rcases (by omega : j = 0 ∨ j = 1 ∨ j = 2 ∨ j = 3) with rfl | rfl | rfl | rfl <;> simp [gd]
   have hun : ∀ C f n, (er (rgTo qs C f n qs.length)).flatten = uniR (plE (erCls l.cells.xs) cell) C f n := fun C f n => by rw [rgTo_uni, hE]
   have hsort := fun zs => hPA.hsort (O := (ppAll (erCls l.cells.xs) cell).map Prod.fst) (zs := zs) hly
   have hgood := fun x => hPA.hgood (O := (ppAll (erCls l.cells.xs) cell).map Prod.fst) (x := x) hly
   have hnl := netE_ok (l := flyL (erCls l.cells.xs) cell)
   rw [← hql] at hcl
   generalize hO2 : (ppAll (erCls l.cells.xs) cell).map Prod.fst = O at *
   generalize hE2 : plE (erCls l.cells.xs) cell = E at *
   generalize hC2 : clsH (flyL (erCls l.cells.xs) cell) E = C at *
   refine WP.cond rfl (fun hx => ?_) (fun hx => ?_)
   · simp at hx
   · refine WP.skip ?_
     refine WP.seq (WP.region ?_)
     refine RG.ot rfl (OT.bslice (F := hnetT) (els := []) rfl El74 rfl (by decide) rfl (by decide) trivial fun v29 => ?_)
     refine RG.pv rfl (PV.asg (v := v29) rfl rfl) (RG.nil (WP.seq (WP.seq (WP.region (RG.pv rfl (PV.move (v := v1) rfl rfl) (RG.pv rfl (PV.len (v := v1) rfl Tryz.underlying53 rfl SlF.o) (RG.ml rfl rfl rfl ?_)))))))
     refine RG.nil (WP.block ?_)
     refine WP.cv ((Cv.cons (Cv.bag0 (e := 63) (F := pieceT) (xs := hps []) rfl)).trans ((Cv.cons (Cv.cons (Cv.bag0 (e := 2) (F := intT) (xs := hos []) rfl))).trans (Cv.cons (Cv.cons (Cv.cons (Cv.bag0 (e := 140) (F := rectT) (xs := hrg []) rfl)))))) ?_
     refine WP.loop3 [6, 7, 31] (fun (f : Nat) (hs : List HNet) (q : Value) => f ≤ qs.length ∧ hs.map erH = hTo E O C f) (fun (f : Nat) (hs : List HNet) (q : Value) => [(32, vi f), (9, q)]) (fun (f : Nat) (hs : List HNet) (q : Value) => osl 82 hnetT q hs :: bagS 63 pieceT (hps hs) :: bagS 2 intT (hos hs) :: bagS 140 rectT (hrg hs) :: osl 2 intT v2 C :: osl 65 ppieceT v1 qs :: bagS 140 rectT (regsQ qs) :: L) (fun (f : Nat) (hs : List HNet) (q : Value) => qs.length - f) 0 [] v29 ⟨by omega, rfl⟩ ⟨rfl, rfl, trivial⟩ Cv.p ?_
     rintro f hs q τ ⟨hf, hhs⟩
     refine WP.seq (WP.region (RG.pv rfl (PV.lss rfl rfl rfl) (RG.nil (WP.seq ?_))))
     have hsl : hs.length ≤ f := by have h2 := congrArg List.length hhs; have h3 := hTo_len E O C f; rw [List.length_map] at h2; omega
     refine WP.cond rfl (fun h2 => ?_) (fun h2 => ?_)
     · have h2 := of_decide_eq_true h2
       have h20 : f < qs.length := by omega
       refine WP.skip (WP.seq (WP.block (WP.seq (WP.region (RG.ml rfl rfl rfl (RG.mr rfl rfl rfl (RG.nil ?_)))))))
       refine WP.seq (WP.seq (WP.region (RG.pv rfl (PV.move (v := v2) rfl rfl) (RG.ml rfl rfl rfl (RG.pv rfl (PV.idxS (v := v2) rfl Is26 rfl SlF.o rfl rfl (by omega)) (RG.pv rfl (PV.loadE1 rfl Sc2 rfl rfl (El.o (getG (by omega))) rfl) (RG.ml rfl rfl rfl ?_)))))))
       refine RG.pv rfl (PV.neq rfl rfl rfl) (RG.nil ?_)
       refine WP.cond rfl (fun h3 => ?_) (fun h3 => ?_)
       · have h3 : gd C f ≠ (f : Int) := by simpa using h3
         refine WP.exit ?_
         refine WP.region (RG.pv rfl (PV.add rfl rfl rfl (by omega)) (RG.ml rfl rfl rfl (RG.nil ?_)))
         exact ⟨rfl, f + 1, hs, q, ⟨by omega, by rw [hTo_no h3]; exact hhs⟩, ⟨rfl, rfl, trivial⟩, ⟨rfl, rfl, rfl, trivial⟩, Cv.p, by omega⟩
       · have h3 : gd C f = (f : Int) := by simpa using h3
         refine WP.skip ?_
         refine WP.cut2 [6, 7, 9, 10, 31, 32] (fun (b11 : Nat) (w12 : Value) => True) (fun (b11 : Nat) (w12 : Value) => [(11, .pointer (some ⟨b11, 0, none⟩)), (12, w12)]) (fun (b11 : Nat) (w12 : Value) => blk b11 82 (hnetT.enc ⟨⟨⟨.slice none 0 0, []⟩⟩, ⟨.slice none 0 0, []⟩⟩) :: osl 47 slT w12 (List.replicate 8 (⟨.slice none 0 0, []⟩ : Sl (Sl Rect))) :: osl 82 hnetT q hs :: bagS 63 pieceT (hps hs) :: bagS 2 intT (hos hs) :: bagS 140 rectT (hrg hs) :: osl 2 intT v2 C :: osl 65 ppieceT v1 qs :: bagS 140 rectT (regsQ qs) :: L) ?_ ?_
         refine WP.regionH0 (.q 0 (.b 1 (.l 2 (.l 3 (.q 4 Sch.nil))) 2 (.b 1 (.l 3 (.q 4 Sch.nil)) 3 (.l 1 (.q 4 Sch.nil))))) (by kernel_rfl) (by kernel_rfl) (by kernel_rfl) rfl ?_
         refine RH.pv rfl (fun _ _ _ _ h => h) (Gh.le_refl _) PickC.pick rfl (PV.build (vs := []) (out := [_, _]) rfl Zr82 Pl82 trivial rfl) ?_
         · refine RH.ot2 rfl rfl rfl rfl  (OT.make (m := 8) (F := (slT (α := Sl (Rect)))) (a0 := default) rfl El124 rfl (by decide) rfl rfl (by omega) (by omega) fun v42 => ⟨Gh.le_refl _, PickC.pick, ?_⟩) (OT.alloc rfl Zr82 fun b11 => ⟨Gh.le_refl _, PickC.pick, ?_⟩)
           · refine RH.ot rfl rfl (OT.alloc rfl Zr82 fun b11 => ⟨Gh.le_refl _, PickC.pick, ?_⟩)
             refine RH.ot rfl rfl (OT.storeW (vs := [_, _]) rfl Sz82 rfl rfl (Cl.c rfl) rfl rfl (OneC.c rfl) ⟨Gh.le_refl _, PickC.pick, ?_⟩)
             refine RH.pv rfl (fun _ _ _ _ h => h) (Gh.le_refl _) PickC.pick rfl (PV.asg (v := v42) rfl rfl) ?_
             refine RH.nil ?_
             exact ⟨rfl, b11, v42, trivial, ⟨rfl, rfl, trivial⟩, ⟨rfl, rfl, rfl, rfl, rfl, rfl, trivial⟩, Cv.p⟩
           · refine RH.ot2 rfl rfl rfl rfl  (OT.make (m := 8) (F := (slT (α := Sl (Rect)))) (a0 := default) rfl El124 rfl (by decide) rfl rfl (by omega) (by omega) fun v42 => ⟨Gh.le_refl _, PickC.pick, ?_⟩) (OT.storeW (vs := [_, _]) rfl Sz82 rfl rfl (Cl.c rfl) rfl rfl (OneC.c rfl) ⟨Gh.le_refl _, PickC.pick, ?_⟩)
             · refine RH.ot rfl rfl (OT.storeW (vs := [_, _]) rfl Sz82 rfl rfl (Cl.c rfl) rfl rfl (OneC.c rfl) ⟨Gh.le_refl _, PickC.pick, ?_⟩)
               refine RH.pv rfl (fun _ _ _ _ h => h) (Gh.le_refl _) PickC.pick rfl (PV.asg (v := v42) rfl rfl) ?_
               refine RH.nil ?_
               exact ⟨rfl, b11, v42, trivial, ⟨rfl, rfl, trivial⟩, ⟨rfl, rfl, rfl, rfl, rfl, rfl, trivial⟩, Cv.p⟩
             · refine RH.ot rfl rfl (OT.make (m := 8) (F := (slT (α := Sl (Rect)))) (a0 := default) rfl El124 rfl (by decide) rfl rfl (by omega) (by omega) fun v42 => ⟨Gh.le_refl _, PickC.pick, ?_⟩)
               refine RH.pv rfl (fun _ _ _ _ h => h) (Gh.le_refl _) PickC.pick rfl (PV.asg (v := v42) rfl rfl) ?_
               refine RH.nil ?_
               exact ⟨rfl, b11, v42, trivial, ⟨rfl, rfl, trivial⟩, ⟨rfl, rfl, rfl, rfl, rfl, rfl, trivial⟩, Cv.p⟩
         rintro b11 w12 τ5 _
         refine WP.seq (WP.seq (WP.region (RG.pv rfl (PV.move (v := v1) rfl rfl) (RG.pv rfl (PV.len (v := v1) rfl Tryz.underlying53 rfl SlF.o) (RG.ml rfl rfl rfl (RG.nil (WP.block ?_)))))))
         have hcr : ∀ i, i < qs.length → Rs G (bagS 140 rectT (regsQ qs) :: []) rectT (gd qs i).piece.reg.v (gd qs i).piece.reg.xs := fun i hi => RsE.regQ RsE.o hi
         refine WP.cv (Cv.cons ((Cv.nilS (e := 2) (F := intT)).trans (Cv.cons (Cv.cons (Cv.bagRep (e := 50) (F := (slT : FT (Sl Rect))) 8))))) ?_
         refine WP.loop4 [6, 7, 9, 10, 11, 12, 31, 32, 43, 44] (fun (m : Nat) (zs : List (Sl (Sl Rect))) (u : Value) (os : List Int) => m ≤ qs.length ∧ zs.length = 8 ∧ (∀ n, n < 8 → (gd zs n).xs = rgTo qs C f n m) ∧ os = ocTo C O f m) (fun (m : Nat) (zs : List (Sl (Sl Rect))) (u : Value) (os : List Int) => [(45, vi m)]) (fun (m : Nat) (zs : List (Sl (Sl Rect))) (u : Value) (os : List Int) => blk b11 82 (hnetT.enc ⟨⟨⟨.slice none 0 0, []⟩⟩, ⟨u, os⟩⟩) :: osl 2 intT u os :: osl 47 slT w12 zs :: bagS 50 slT zs :: osl 82 hnetT q hs :: bagS 63 pieceT (hps hs) :: bagS 2 intT (hos hs) :: bagS 140 rectT (hrg hs) :: osl 2 intT v2 C :: osl 65 ppieceT v1 qs :: bagS 140 rectT (regsQ qs) :: L) (fun (m : Nat) (zs : List (Sl (Sl Rect))) (u : Value) (os : List Int) => qs.length - m) 0 (List.replicate 8 (⟨.slice none 0 0, []⟩ : Sl (Sl Rect))) (.slice none 0 0) [] ⟨by omega, by simp, fun n hn => by rw [gd_rep8 _ hn]; rfl, rfl⟩ ⟨rfl, trivial⟩ Cv.p ?_
         rintro m zs u os τ1 ⟨hm, hzl, hz, hos1⟩
         refine WP.seq (WP.region (RG.pv rfl (PV.lss rfl rfl rfl) (RG.nil (WP.seq ?_))))
         have hol : os.length ≤ 400 := by rw [hos1]; have := ocTo_len C O f m; omega
         refine WP.cond rfl (fun h4 => ?_) (fun h4 => ?_)
         · have h4 := of_decide_eq_true h4
           have h5 : m < qs.length := by omega
           refine WP.skip (WP.seq (WP.block (WP.seq (WP.region (RG.ml rfl rfl rfl (RG.pv rfl (PV.idxS (v := v1) rfl Is53 rfl SlF.o rfl rfl (by omega)) (RG.pv rfl (PV.loadE rfl Ag65 rfl rfl (El.o (getG (by omega)))) ?_)))))))
           refine RG.ot rfl (OT.alloc rfl Zr65 fun b14 => ?_)
           refine RG.mr rfl rfl rfl ?_
           refine RG.ot rfl (OT.storeW (vs := [vi _, vi _, _]) rfl Sz65 rfl rfl (Cl.c rfl) rfl rfl (OneC.val rfl (OneC.val rfl (OneC.sl (SlF.r (hcr m h5)) OneC.nil))) ?_)
           refine RG.nil (WP.seq (WP.region (RG.pv rfl (PV.move (v := v2) rfl rfl) (RG.ml rfl rfl rfl (RG.pv rfl (PV.idxS (v := v2) rfl Is26 rfl SlF.o rfl rfl (by omega)) (RG.pv rfl (PV.loadE1 rfl Sc2 rfl rfl (El.o (getG (by omega))) rfl) (RG.ml rfl rfl rfl ?_)))))))
           refine RG.pv rfl (PV.eql rfl rfl rfl) (RG.nil ?_)
           refine WP.cond rfl (fun h6 => ?_) (fun h6 => ?_)
           · have h6 : gd C m = (f : Int) := by simpa using h6
             obtain ⟨n, hn8, en⟩ : ∃ n : Nat, n < 8 ∧ (gd qs m).piece.layer = (n : Int) := ⟨(gd qs m).piece.layer.toNat, by have := hly4 m h5; omega, by have := hly4 m h5; omega⟩
             have hzn : (gd zs n).xs.length ≤ 400 := by rw [hz n hn8]; have := rgTo_len qs C f n m; omega
             refine WP.cv ((Cv.p (C := bagS 50 slT zs :: blk b14 65 (ppieceT.enc (gd qs m)) :: blk b11 82 (hnetT.enc ⟨⟨⟨.slice none 0 0, []⟩⟩, ⟨u, os⟩⟩) :: osl 2 intT u os :: osl 47 slT w12 zs :: osl 82 hnetT q hs :: bagS 63 pieceT (hps hs) :: bagS 2 intT (hos hs) :: bagS 140 rectT (hrg hs) :: osl 2 intT v2 C :: osl 65 ppieceT v1 qs :: bagS 140 rectT (regsQ qs) :: L)).trans (Cv.bagS_take n (by omega))) ?_
             have hrm := hcr m h5
             refine WP.seq ?_
             refine WP.regionHD [.s w12, .s (gd zs n).v] (.q 0 (.q 1 (.q 2 (.q 3 (.q 4 (.q 5 (.q 6 (.q 7 (.q 10 (.q 11 (.q 12 (.b 8 (.b 9 (.l 13 (.l 14 (.l 15 (.l 16 Sch.nil)))) 13 (.l 9 (.l 14 (.l 15 (.l 16 Sch.nil))))) 13 (.l 8 (.l 9 (.l 14 (.l 15 (.l 16 Sch.nil))))))))))))))))) (by kernel_rfl) (by kernel_rfl) (by kernel_rfl) rfl ?_
             refine RH.pv rfl (fun _ _ _ _ h => h) (Gh.le_refl _) PickC.pick rfl (PV.move (v := w12) rfl rfl) ?_
             refine RH.pv rfl (fun _ _ _ _ h => h) (Gh.le_refl _) PickC.pick rfl (PV.field rfl Fo65_1 rfl) ?_
             refine RH.pv rfl (fun _ _ _ _ h => h) (Gh.le_refl _) PickC.pick rfl (PV.field rfl Fo63_0 rfl) ?_
             refine RH.pv rfl (fun _ _ _ _ h => h) (Gh.le_refl _) PickC.pick rfl (PV.load1 rfl Sc2 rfl (Rd.blk rfl)) ?_
             refine RH.pv rfl (fun _ _ _ _ h => h) (Gh.le_refl _) PickC.pick rfl (PV.move (v := w12) rfl rfl) ?_
             refine RH.pv rfl (fun _ _ _ _ h => h) (Gh.le_refl _) PickC.pick rfl (PV.field rfl Fo65_1 rfl) ?_
             refine RH.pv rfl (fun _ _ _ _ h => h) (Gh.le_refl _) PickC.pick rfl (PV.field rfl Fo63_0 rfl) ?_
             refine RH.pv rfl (fun _ _ _ _ h => h) (Gh.le_refl _) PickC.pick rfl (PV.load1 rfl Sc2 rfl (Rd.blk rfl)) ?_
             refine RH.pv rfl (fun _ _ _ _ h => h) (Gh.le_refl _) PickC.pick rfl (PV.field rfl Fo65_1 rfl) ?_
             refine RH.pv rfl (fun _ _ _ _ h => h) (Gh.le_refl _) PickC.pick rfl (PV.field rfl Fo63_1 rfl) ?_
             refine RH.pv rfl (fun _ _ _ _ h => h) (Gh.le_refl _) PickC.pick rfl (PV.load1 rfl Sc50 rfl (Rd.blk rfl)) ?_
             refine RH.ot2 rfl rfl rfl rfl  (OT.pv (PV.idxS (j := n) (v := w12) rfl Is124 rfl SlF.o rfl (by omega) (by omega)) ⟨Gh.le_refl _, PickC.pick, ?_⟩) (OT.bslice (F := (slT (α := Rect))) (els := [(gd qs m).piece.reg]) rfl El47 rfl (by decide) rfl (by decide) ⟨rfl, (Cl.s (SlF.r hrm)), trivial⟩ fun v69 => ⟨Gh.le_refl _, PickC.pick, ?_⟩)
             · refine RH.ot2 rfl rfl rfl rfl  (OT.pv (PV.loadE1 rfl Sc47 rfl rfl (El.o (getG (by omega))) rfl) ⟨Gh.le_refl _, PickC.pick, ?_⟩) (OT.bslice (F := (slT (α := Rect))) (els := [(gd qs m).piece.reg]) rfl El47 rfl (by decide) rfl (by decide) ⟨rfl, (Cl.s (SlF.r hrm)), trivial⟩ fun v69 => ⟨Gh.le_refl _, PickC.pick, ?_⟩)
               · refine RH.ot rfl rfl (OT.bslice (F := (slT (α := Rect))) (els := [(gd qs m).piece.reg]) rfl El47 rfl (by decide) rfl (by decide) ⟨rfl, (Cl.s (SlF.r hrm)), trivial⟩ fun v69 => ⟨Gh.le_refl _, PickC.pick, ?_⟩)
                 refine RH.ot rfl rfl (OT.append (v := (gd zs n).v) (u := v69) (F := (slT (α := Rect))) rfl El47 rfl (by decide) rfl rfl Rs.o (OneL.one (OneC.sl (SlF.r (hcr m h5)) OneC.nil)) rfl (by first | omega | (simp <;> omega)) fun v70 => ⟨Gh.le_refl _, PickC.pick, ?_⟩)
                 refine RH.ot rfl rfl (OT.pv (PV.idxS (j := n) (v := w12) rfl Is124 rfl SlF.o rfl (by omega) (by omega)) ⟨Gh.le_refl _, PickC.pick, ?_⟩)
                 refine RH.ot rfl rfl (OT.storeE (v := v70) (a := ⟨v70, (gd zs n).xs ++ [(gd qs m).piece.reg]⟩) (F := (slT (α := Sl (Rect)))) rfl Sz47 rfl rfl rfl (Cl.s (v := v70) SlF.o) (OneC.sl SlF.o OneC.nil) (by omega) ⟨Gh.le_refl _, PickC.pick, ?_⟩)
                 refine RH.nil ?_
                 refine WP.region (RG.pv rfl (PV.field rfl Fo82_1 rfl) (RG.pv rfl (PV.load1 rfl Sc26 rfl (Rd.blk rfl)) (RG.pv rfl (PV.field rfl Fo65_0 rfl) (RG.pv rfl (PV.load1 rfl Sc2 rfl (Rd.blk rfl)) ?_))))
                 refine RG.ot rfl (OT.bslice (F := intT) (els := [_]) rfl El26 rfl (by decide) rfl (by decide) ⟨rfl, (Cl.c rfl), trivial⟩ fun v76 => ?_)
                 refine RG.ot rfl (OT.append (v := u) (u := v76) (F := intT) rfl El26 rfl (by decide) rfl rfl Rs.o (OneL.c (fun _ => rfl)) rfl (by first | omega | (simp <;> omega)) fun v77 => ?_)
                 refine RG.pv rfl (PV.field rfl Fo82_1 rfl) ?_
                 refine RG.ot rfl (OT.storeB (v := v77) (vs := [_]) (cs' := [_, _]) rfl Sz26 rfl rfl (Cl.s (v := v77) SlF.o) rfl (OneC.sl SlF.o OneC.nil) rfl rfl ?_)
                 refine RG.nil (WP.region (RG.pv rfl (PV.add rfl rfl rfl (by omega)) (RG.ml rfl rfl rfl (RG.nil ?_))))
                 exact ⟨rfl, m + 1, (zs.set n ⟨v70, (gd zs n).xs ++ [(gd qs m).piece.reg]⟩), v77, (os ++ [(gd qs m).occ]), ⟨by omega, by simpa using hzl, rgTo_set hzl hz hn8 h6 en _, by rw [hos1, ocTo_yes h6, hgO m h5]⟩, ⟨rfl, trivial⟩, ⟨rfl, rfl, rfl, rfl, rfl, rfl, rfl, rfl, rfl, rfl, trivial⟩, ((Cv.p (C := osl 50 slT v70 ((gd zs n).xs ++ [(gd qs m).piece.reg]) :: osl 47 slT w12 (zs.set n ⟨v70, (gd zs n).xs ++ [(gd qs m).piece.reg]⟩) :: bag ((zs.map (ownS 50 slT)).set n emp) :: blk b11 82 (hnetT.enc ⟨⟨⟨.slice none 0 0, []⟩⟩, ⟨v77, os ++ [(gd qs m).occ]⟩⟩) :: osl 2 intT v77 (os ++ [(gd qs m).occ]) :: osl 82 hnetT q hs :: bagS 63 pieceT (hps hs) :: bagS 2 intT (hos hs) :: bagS 140 rectT (hrg hs) :: osl 2 intT v2 C :: osl 65 ppieceT v1 qs :: bagS 140 rectT (regsQ qs) :: L)).trans ((Cv.slotU n (by omega)).trans Cv.p)), by omega⟩
               · refine RH.ot rfl rfl (OT.pv (PV.loadE1 rfl Sc47 rfl rfl (El.o (getG (by omega))) rfl) ⟨Gh.le_refl _, PickC.pick, ?_⟩)
                 refine RH.ot rfl rfl (OT.append (v := (gd zs n).v) (u := v69) (F := (slT (α := Rect))) rfl El47 rfl (by decide) rfl rfl Rs.o (OneL.one (OneC.sl (SlF.r (hcr m h5)) OneC.nil)) rfl (by first | omega | (simp <;> omega)) fun v70 => ⟨Gh.le_refl _, PickC.pick, ?_⟩)
                 refine RH.ot rfl rfl (OT.pv (PV.idxS (j := n) (v := w12) rfl Is124 rfl SlF.o rfl (by omega) (by omega)) ⟨Gh.le_refl _, PickC.pick, ?_⟩)
                 refine RH.ot rfl rfl (OT.storeE (v := v70) (a := ⟨v70, (gd zs n).xs ++ [(gd qs m).piece.reg]⟩) (F := (slT (α := Sl (Rect)))) rfl Sz47 rfl rfl rfl (Cl.s (v := v70) SlF.o) (OneC.sl SlF.o OneC.nil) (by omega) ⟨Gh.le_refl _, PickC.pick, ?_⟩)
                 refine RH.nil ?_
                 refine WP.region (RG.pv rfl (PV.field rfl Fo82_1 rfl) (RG.pv rfl (PV.load1 rfl Sc26 rfl (Rd.blk rfl)) (RG.pv rfl (PV.field rfl Fo65_0 rfl) (RG.pv rfl (PV.load1 rfl Sc2 rfl (Rd.blk rfl)) ?_))))
                 refine RG.ot rfl (OT.bslice (F := intT) (els := [_]) rfl El26 rfl (by decide) rfl (by decide) ⟨rfl, (Cl.c rfl), trivial⟩ fun v76 => ?_)
                 refine RG.ot rfl (OT.append (v := u) (u := v76) (F := intT) rfl El26 rfl (by decide) rfl rfl Rs.o (OneL.c (fun _ => rfl)) rfl (by first | omega | (simp <;> omega)) fun v77 => ?_)
                 refine RG.pv rfl (PV.field rfl Fo82_1 rfl) ?_
                 refine RG.ot rfl (OT.storeB (v := v77) (vs := [_]) (cs' := [_, _]) rfl Sz26 rfl rfl (Cl.s (v := v77) SlF.o) rfl (OneC.sl SlF.o OneC.nil) rfl rfl ?_)
                 refine RG.nil (WP.region (RG.pv rfl (PV.add rfl rfl rfl (by omega)) (RG.ml rfl rfl rfl (RG.nil ?_))))
                 exact ⟨rfl, m + 1, (zs.set n ⟨v70, (gd zs n).xs ++ [(gd qs m).piece.reg]⟩), v77, (os ++ [(gd qs m).occ]), ⟨by omega, by simpa using hzl, rgTo_set hzl hz hn8 h6 en _, by rw [hos1, ocTo_yes h6, hgO m h5]⟩, ⟨rfl, trivial⟩, ⟨rfl, rfl, rfl, rfl, rfl, rfl, rfl, rfl, rfl, rfl, trivial⟩, ((Cv.p (C := osl 50 slT v70 ((gd zs n).xs ++ [(gd qs m).piece.reg]) :: osl 47 slT w12 (zs.set n ⟨v70, (gd zs n).xs ++ [(gd qs m).piece.reg]⟩) :: bag ((zs.map (ownS 50 slT)).set n emp) :: blk b11 82 (hnetT.enc ⟨⟨⟨.slice none 0 0, []⟩⟩, ⟨v77, os ++ [(gd qs m).occ]⟩⟩) :: osl 2 intT v77 (os ++ [(gd qs m).occ]) :: osl 82 hnetT q hs :: bagS 63 pieceT (hps hs) :: bagS 2 intT (hos hs) :: bagS 140 rectT (hrg hs) :: osl 2 intT v2 C :: osl 65 ppieceT v1 qs :: bagS 140 rectT (regsQ qs) :: L)).trans ((Cv.slotU n (by omega)).trans Cv.p)), by omega⟩
             · refine RH.ot rfl rfl (OT.pv (PV.idxS (j := n) (v := w12) rfl Is124 rfl SlF.o rfl (by omega) (by omega)) ⟨Gh.le_refl _, PickC.pick, ?_⟩)
               refine RH.ot rfl rfl (OT.pv (PV.loadE1 rfl Sc47 rfl rfl (El.o (getG (by omega))) rfl) ⟨Gh.le_refl _, PickC.pick, ?_⟩)
               refine RH.ot rfl rfl (OT.append (v := (gd zs n).v) (u := v69) (F := (slT (α := Rect))) rfl El47 rfl (by decide) rfl rfl Rs.o (OneL.one (OneC.sl (SlF.r (hcr m h5)) OneC.nil)) rfl (by first | omega | (simp <;> omega)) fun v70 => ⟨Gh.le_refl _, PickC.pick, ?_⟩)
               refine RH.ot rfl rfl (OT.pv (PV.idxS (j := n) (v := w12) rfl Is124 rfl SlF.o rfl (by omega) (by omega)) ⟨Gh.le_refl _, PickC.pick, ?_⟩)
               refine RH.ot rfl rfl (OT.storeE (v := v70) (a := ⟨v70, (gd zs n).xs ++ [(gd qs m).piece.reg]⟩) (F := (slT (α := Sl (Rect)))) rfl Sz47 rfl rfl rfl (Cl.s (v := v70) SlF.o) (OneC.sl SlF.o OneC.nil) (by omega) ⟨Gh.le_refl _, PickC.pick, ?_⟩)
               refine RH.nil ?_
               refine WP.region (RG.pv rfl (PV.field rfl Fo82_1 rfl) (RG.pv rfl (PV.load1 rfl Sc26 rfl (Rd.blk rfl)) (RG.pv rfl (PV.field rfl Fo65_0 rfl) (RG.pv rfl (PV.load1 rfl Sc2 rfl (Rd.blk rfl)) ?_))))
               refine RG.ot rfl (OT.bslice (F := intT) (els := [_]) rfl El26 rfl (by decide) rfl (by decide) ⟨rfl, (Cl.c rfl), trivial⟩ fun v76 => ?_)
               refine RG.ot rfl (OT.append (v := u) (u := v76) (F := intT) rfl El26 rfl (by decide) rfl rfl Rs.o (OneL.c (fun _ => rfl)) rfl (by first | omega | (simp <;> omega)) fun v77 => ?_)
               refine RG.pv rfl (PV.field rfl Fo82_1 rfl) ?_
               refine RG.ot rfl (OT.storeB (v := v77) (vs := [_]) (cs' := [_, _]) rfl Sz26 rfl rfl (Cl.s (v := v77) SlF.o) rfl (OneC.sl SlF.o OneC.nil) rfl rfl ?_)
               refine RG.nil (WP.region (RG.pv rfl (PV.add rfl rfl rfl (by omega)) (RG.ml rfl rfl rfl (RG.nil ?_))))
               exact ⟨rfl, m + 1, (zs.set n ⟨v70, (gd zs n).xs ++ [(gd qs m).piece.reg]⟩), v77, (os ++ [(gd qs m).occ]), ⟨by omega, by simpa using hzl, rgTo_set hzl hz hn8 h6 en _, by rw [hos1, ocTo_yes h6, hgO m h5]⟩, ⟨rfl, trivial⟩, ⟨rfl, rfl, rfl, rfl, rfl, rfl, rfl, rfl, rfl, rfl, trivial⟩, ((Cv.p (C := osl 50 slT v70 ((gd zs n).xs ++ [(gd qs m).piece.reg]) :: osl 47 slT w12 (zs.set n ⟨v70, (gd zs n).xs ++ [(gd qs m).piece.reg]⟩) :: bag ((zs.map (ownS 50 slT)).set n emp) :: blk b11 82 (hnetT.enc ⟨⟨⟨.slice none 0 0, []⟩⟩, ⟨v77, os ++ [(gd qs m).occ]⟩⟩) :: osl 2 intT v77 (os ++ [(gd qs m).occ]) :: osl 82 hnetT q hs :: bagS 63 pieceT (hps hs) :: bagS 2 intT (hos hs) :: bagS 140 rectT (hrg hs) :: osl 2 intT v2 C :: osl 65 ppieceT v1 qs :: bagS 140 rectT (regsQ qs) :: L)).trans ((Cv.slotU n (by omega)).trans Cv.p)), by omega⟩
           · have h6 : gd C m ≠ (f : Int) := by simpa using h6
             refine WP.skip (WP.region (RG.pv rfl (PV.add rfl rfl rfl (by omega)) (RG.ml rfl rfl rfl (RG.nil ?_))))
             exact ⟨rfl, m + 1, zs, u, os, ⟨by omega, hzl, fun n hn => by rw [rgTo_no (.inl h6)]; exact hz n hn, by rw [ocTo_no h6]; exact hos1⟩, ⟨rfl, trivial⟩, ⟨rfl, rfl, rfl, rfl, rfl, rfl, rfl, rfl, rfl, rfl, trivial⟩, Cv.p, by omega⟩
         · have h4 := of_decide_eq_false h4
           obtain rfl : m = qs.length := by omega
           refine WP.exit ?_
           refine WP.seq (WP.region (RG.pv rfl (PV.field rfl Fo82_1 rfl) (RG.pv rfl (PV.load1 rfl Sc26 rfl (Rd.blk rfl)) ?_)))
           refine RG.callF (vs := [u]) rfl rfl En72 rfl (CallT.exS u (compact_int (xs := os) (by omega) (fun v82 => ?_)))
           refine RG.pv rfl (PV.field rfl Fo82_1 rfl) ?_
           refine RG.ot rfl (OT.storeB (v := v82) (vs := [_]) (cs' := [_, _]) rfl Sz26 rfl rfl (Cl.s (v := v82) SlF.o) rfl (OneC.sl SlF.o OneC.nil) rfl rfl ?_)
           refine RG.nil (WP.seq (WP.seq (WP.region (RG.pv rfl (PV.move (v := w12) rfl rfl) (RG.pv rfl (PV.len (v := w12) rfl Tryz.underlying124 rfl SlF.o) (RG.ml rfl rfl rfl (RG.nil ?_)))))))
           refine WP.block ?_
           refine WP.cv ((Cv.p (C := blk b11 82 (hnetT.enc ⟨⟨⟨.slice none 0 0, []⟩⟩, ⟨v82, compactL os⟩⟩) :: osl 2 intT v82 (compactL os) :: osl 47 slT w12 zs :: bagS 50 slT zs :: osl 82 hnetT q hs :: bagS 63 pieceT (hps hs) :: bagS 2 intT (hos hs) :: bagS 140 rectT (hrg hs) :: osl 2 intT v2 C :: osl 65 ppieceT v1 qs :: bagS 140 rectT (regsQ qs) :: L)).trans (Cv.cons ((Cv.bag0 (e := 140) (F := rectT) (xs := regs []) rfl).trans (Cv.nilS (e := 63) (F := pieceT))))) ?_
           refine WP.loop3 [6, 7, 9, 11, 31, 32, 84, 85] (fun (n : Nat) (ps : List Piece) (pq : Value) => n ≤ 8 ∧ erPs ps = hpTo E C f n) (fun (n : Nat) (ps : List Piece) (pq : Value) => [(86, vi n)]) (fun (n : Nat) (ps : List Piece) (pq : Value) => blk b11 82 (hnetT.enc ⟨⟨⟨pq, ps⟩⟩, ⟨v82, compactL os⟩⟩) :: osl 63 pieceT pq ps :: bagS 140 rectT (regs ps) :: osl 2 intT v82 (compactL os) :: osl 47 slT w12 zs :: bagS 50 slT zs :: osl 82 hnetT q hs :: bagS 63 pieceT (hps hs) :: bagS 2 intT (hos hs) :: bagS 140 rectT (hrg hs) :: osl 2 intT v2 C :: osl 65 ppieceT v1 qs :: bagS 140 rectT (regsQ qs) :: L) (fun (n : Nat) (ps : List Piece) (pq : Value) => 8 - n) 0 [] (.slice none 0 0) ⟨by omega, rfl⟩ ⟨rfl, trivial⟩ Cv.p ?_
           rintro n ps pq τ2 ⟨hn, hps1⟩
           refine WP.seq (WP.region (RG.pv rfl (PV.lss rfl rfl rfl) (RG.nil (WP.seq ?_))))
           have hpl2 := hnet_len hps1 hn
           refine WP.cond rfl (fun h7 => ?_) (fun h7 => ?_)
           · have h7 := of_decide_eq_true h7
             have h70 : n < 8 := by omega
             refine WP.skip (WP.seq (WP.block (WP.seq (WP.region (RG.ml rfl rfl rfl (RG.pv rfl (PV.idxS (v := w12) rfl Is124 rfl SlF.o rfl rfl (by omega)) (RG.pv rfl (PV.loadE1 rfl Sc47 rfl rfl (El.o (getG (by omega))) rfl) ?_)))))))
             refine RG.mr rfl rfl rfl (RG.pv rfl (PV.asg (v := (gd zs n).v) rfl rfl) (RG.nil (WP.seq (WP.region (RG.pv rfl (PV.move (v := (gd zs n).v) rfl rfl) ?_)))))
             refine RG.callF (vs := [(gd zs n).v]) rfl rfl En74 rfl (unionAll_s (v := (gd zs n).v) (xs := (gd zs n).xs) (Rs.inBag n (by omega)) (RsE.rgs RsE.o (Nat.le_refl _) (hz n h70)) (fun v92 => ?_))
             refine RG.callF (vs := [v92]) rfl rfl En73 rfl (components_s Rs.o (fun v93 zsv93 hzv93 => ?_))
             refine RG.pv rfl (PV.len (v := v93) rfl Tryz.underlying47 rfl SlF.o) (RG.ml rfl rfl rfl (RG.nil (WP.block ?_)))
             have hzp : er zsv93 = partsL (bits (uniR E C f n)) := by rw [hzv93, hz n h70, bits_canon (bits_length _), hun]
             have hzl9 := parts_len hzp
             refine WP.loop3 [6, 7, 9, 11, 15, 31, 32, 84, 85, 86, 93, 94] (fun (i : Nat) (ps2 : List Piece) (pq2 : Value) => i ≤ zsv93.length ∧ ps2 = ps ++ (zsv93.take i).map (mkP n)) (fun (i : Nat) (ps2 : List Piece) (pq2 : Value) => [(95, vi i)]) (fun (i : Nat) (ps2 : List Piece) (pq2 : Value) => blk b11 82 (hnetT.enc ⟨⟨⟨pq2, ps2⟩⟩, ⟨v82, compactL os⟩⟩) :: osl 63 pieceT pq2 ps2 :: bagS 140 rectT zsv93 :: osl 50 slT v93 zsv93 :: bagS 140 rectT (regs ps) :: osl 2 intT v82 (compactL os) :: osl 47 slT w12 zs :: bagS 50 slT zs :: osl 82 hnetT q hs :: bagS 63 pieceT (hps hs) :: bagS 2 intT (hos hs) :: bagS 140 rectT (hrg hs) :: osl 2 intT v2 C :: osl 65 ppieceT v1 qs :: bagS 140 rectT (regsQ qs) :: L) (fun (i : Nat) (ps2 : List Piece) (pq2 : Value) => zsv93.length - i) 0 ps pq ⟨by omega, by simp⟩ ⟨rfl, trivial⟩ Cv.p ?_
             rintro i ps2 pq2 τ3 ⟨hi, hps2⟩
             refine WP.seq (WP.region (RG.pv rfl (PV.lss rfl rfl rfl) (RG.nil (WP.seq ?_))))
             have hpl3 : ps2.length ≤ 57600 := by rw [hps2, List.length_append, List.length_map, List.length_take]; omega
             refine WP.cond rfl (fun h8 => ?_) (fun h8 => ?_)
             · have h8 := of_decide_eq_true h8
               refine WP.sl (Rs.inBag (xs := zsv93) i (by omega)) fun hI => ?_
               refine WP.skip (WP.seq (WP.block (WP.seq (WP.region (RG.pv rfl (PV.idxS (v := v93) rfl Is47 rfl SlF.o rfl rfl (by omega)) (RG.pv rfl (PV.loadE1 rfl Sc50 rfl rfl (El.o (getG (by omega))) rfl) (RG.pv rfl (PV.asg rfl rfl) ?_)))))))
               refine RG.nil (WP.region (RG.pv rfl (PV.field rfl Fo82_0 rfl) (RG.pv rfl (PV.field rfl Fo80_0 rfl) (RG.pv rfl (PV.load1 rfl Sc78 rfl (Rd.blk rfl)) (RG.ml rfl rfl rfl (RG.pv rfl (PV.move rfl rfl) (RG.pv rfl (PV.build (vs := [(0, [vi _]), (1, [_])]) (out := [_, _]) rfl Zr63 Pl63 ⟨rfl, (Cl.c rfl), ⟨rfl, (Cl.s (SlF.i hI)), trivial⟩⟩ rfl) ?_)))))))
               refine RG.ot rfl (OT.bslice (F := pieceT) (els := [⟨(n : Int), gd zsv93 i⟩]) rfl El78 rfl (by decide) rfl (by decide) ⟨rfl, (Cl.c rfl), trivial⟩ fun v105 => ?_)
               refine RG.ot rfl (OT.append (v := pq2) (u := v105) (F := pieceT) rfl El78 rfl (by decide) rfl rfl Rs.o (OneL.one (OneC.val rfl (OneC.sl (SlF.i hI) OneC.nil))) rfl (by first | omega | (simp <;> omega)) fun v106 => ?_)
               refine RG.pv rfl (PV.field rfl Fo82_0 rfl) (RG.pv rfl (PV.field rfl Fo80_0 rfl) ?_)
               refine RG.ot rfl (OT.storeB (v := v106) (vs := [_]) (cs' := [_, _]) rfl Sz78 rfl rfl (Cl.s (v := v106) SlF.o) rfl (OneC.sl SlF.o OneC.nil) rfl rfl ?_)
               refine RG.nil (WP.region (RG.pv rfl (PV.add rfl rfl rfl (by omega)) (RG.ml rfl rfl rfl (RG.nil ?_))))
               exact ⟨rfl, i + 1, (ps2 ++ [⟨(n : Int), gd zsv93 i⟩]), v106, ⟨by omega, by rw [hps2, List.take_add_one, getG (by omega), List.map_append, List.append_assoc]; rfl⟩, ⟨rfl, trivial⟩, ⟨rfl, rfl, rfl, rfl, rfl, rfl, rfl, rfl, rfl, rfl, rfl, rfl, trivial⟩, Cv.p, by omega⟩
             · have h8 := of_decide_eq_false h8
               obtain rfl : i = zsv93.length := by omega
               rw [List.take_length] at hps2
               refine WP.exit ?_
               refine WP.region (RG.pv rfl (PV.add rfl rfl rfl (by omega)) (RG.ml rfl rfl rfl (RG.nil ?_)))
               exact ⟨rfl, n + 1, ps2, pq2, ⟨by omega, by rw [hps2, erPs_app, hps1, erPs_mkP, hpTo_succ, hzp]⟩, ⟨rfl, trivial⟩, ⟨rfl, rfl, rfl, rfl, rfl, rfl, rfl, rfl, trivial⟩, ((Cv.p (C := bagS 140 rectT (regs ps) :: bagS 140 rectT zsv93 :: blk b11 82 (hnetT.enc ⟨⟨⟨pq2, ps2⟩⟩, ⟨v82, compactL os⟩⟩) :: osl 63 pieceT pq2 ps2 :: osl 2 intT v82 (compactL os) :: osl 47 slT w12 zs :: bagS 50 slT zs :: osl 82 hnetT q hs :: bagS 63 pieceT (hps hs) :: bagS 2 intT (hos hs) :: bagS 140 rectT (hrg hs) :: osl 2 intT v2 C :: osl 65 ppieceT v1 qs :: bagS 140 rectT (regsQ qs) :: L)).trans (Cv.bagJoin.trans ((Cv.cast (by rw [← regs_mkP (n : Int) zsv93, ← regs_append, ← hps2])).trans (Cv.p (L := bagS 140 rectT (regs ps2) :: blk b11 82 (hnetT.enc ⟨⟨⟨pq2, ps2⟩⟩, ⟨v82, compactL os⟩⟩) :: osl 63 pieceT pq2 ps2 :: osl 2 intT v82 (compactL os) :: osl 47 slT w12 zs :: bagS 50 slT zs :: osl 82 hnetT q hs :: bagS 63 pieceT (hps hs) :: bagS 2 intT (hos hs) :: bagS 140 rectT (hrg hs) :: osl 2 intT v2 C :: osl 65 ppieceT v1 qs :: bagS 140 rectT (regsQ qs) :: L))))), by omega⟩
           · have h7 := of_decide_eq_false h7
             obtain rfl : n = 8 := by omega
             refine WP.exit ?_
             refine WP.region (RG.pv rfl (PV.move (v := q) rfl rfl) (RG.pv rfl (PV.loadW rfl Ag82 rfl rfl) ?_))
             refine RG.ot rfl (OT.bslice (F := hnetT) (els := [⟨⟨⟨pq, ps⟩⟩, ⟨v82, compactL os⟩⟩]) rfl El74 rfl (by decide) rfl (by decide) ⟨rfl, (Cl.c rfl), trivial⟩ fun v113 => ?_)
             refine RG.ot rfl (OT.append (v := q) (u := v113) (F := hnetT) rfl El74 rfl (by decide) rfl rfl Rs.o (OneL.one (OneC.sl SlF.o (OneC.sl SlF.o OneC.nil))) rfl (by first | omega | (simp <;> omega)) fun v114 => ?_)
             refine RG.pv rfl (PV.asg (v := v114) rfl rfl) (RG.nil (WP.region (RG.pv rfl (PV.add rfl rfl rfl (by omega)) (RG.ml rfl rfl rfl (RG.nil ?_)))))
             exact ⟨rfl, f + 1, (hs ++ [⟨⟨⟨pq, ps⟩⟩, ⟨v82, compactL os⟩⟩]), v114, ⟨by omega, by rw [hTo_yes h3, List.map_append, hhs, ← hql, ← hos1]; exact congrArg (fun x => hTo E O C f ++ [(x, compactL os)]) hps1⟩, ⟨rfl, rfl, trivial⟩, ⟨rfl, rfl, rfl, trivial⟩, ((Cv.p (C := osl 63 pieceT pq ps :: bagS 63 pieceT (hps hs) :: osl 2 intT v82 (compactL os) :: bagS 2 intT (hos hs) :: bagS 140 rectT (hrg hs) :: bagS 140 rectT (regs ps) :: osl 82 hnetT v114 (hs ++ [⟨⟨⟨pq, ps⟩⟩, ⟨v82, compactL os⟩⟩]) :: osl 2 intT v2 C :: osl 65 ppieceT v1 qs :: bagS 140 rectT (regsQ qs) :: L)).trans ((Cv.grow (ys' := hps (hs ++ [⟨⟨⟨pq, ps⟩⟩, ⟨v82, compactL os⟩⟩])) (by rw [hps_app]; rfl)).trans ((Cv.cons ((Cv.grow (ys' := hos (hs ++ [⟨⟨⟨pq, ps⟩⟩, ⟨v82, compactL os⟩⟩])) (by rw [hos_app]; rfl)).trans (Cv.cons (Cv.bagJoin.trans (Cv.cast (by rw [← hrg_one ⟨⟨⟨pq, ps⟩⟩, ⟨v82, compactL os⟩⟩, ← hrg_app])))))).trans (Cv.p (L := bagS 63 pieceT (hps (hs ++ [⟨⟨⟨pq, ps⟩⟩, ⟨v82, compactL os⟩⟩])) :: bagS 2 intT (hos (hs ++ [⟨⟨⟨pq, ps⟩⟩, ⟨v82, compactL os⟩⟩])) :: bagS 140 rectT (hrg (hs ++ [⟨⟨⟨pq, ps⟩⟩, ⟨v82, compactL os⟩⟩])) :: osl 82 hnetT v114 (hs ++ [⟨⟨⟨pq, ps⟩⟩, ⟨v82, compactL os⟩⟩]) :: osl 2 intT v2 C :: osl 65 ppieceT v1 qs :: bagS 140 rectT (regsQ qs) :: L))))), by omega⟩
     · have h2 := of_decide_eq_false h2
       obtain rfl : f = qs.length := by omega
       rw [hql] at hhs
       have hg : ∀ x ∈ hs, 0 < x.net.pieces.xs.length ∧ 0 < (gd x.net.pieces.xs 0).reg.xs.length ∧ 0 ≤ (gd x.net.pieces.xs 0).layer ∧ (gd x.net.pieces.xs 0).layer ≤ 7 := fun x hx => erH_good (hgood _ (by rw [← hhs]; exact List.mem_map_of_mem hx))
       refine WP.exit ?_
       refine WP.seq (WP.region (RG.pv rfl (PV.move (v := q) rfl rfl) ?_))
       refine RG.callF (vs := [q, _]) rfl rfl En75 rfl (CallT.exS q (sortH_s RsE.o RsE.o RsE.o (by omega) hg (fun zs hp hsr => ?_)))
       refine RG.nil (WP.seq (WP.seq (WP.region (RG.pv rfl (PV.move (v := q) rfl rfl) (RG.pv rfl (PV.len (v := q) rfl Tryz.underlying74 rfl SlF.o) (RG.pv rfl (PV.gtr rfl rfl rfl) (RG.nil ?_)))))))
       have hzs : zs.map erH = netH (flyL (erCls l.cells.xs) cell) E O := by
         refine hsort _ (by rw [← hhs]; exact hp.map erH) (List.pairwise_map.2 (hsr.imp_of_mem fun {a b} ha hb hab => ?_))
         have g1 := (hg a (hp.mem_iff.1 ha)).1
         have g2 := (hg b (hp.mem_iff.1 hb)).1
         rw [cmpH, erH, erH, erPs_gd g1, erPs_gd g2]; exact hab
       have hzl : zs.length = netN (flyL (erCls l.cells.xs) cell) := by rw [← netH_len (flyL (erCls l.cells.xs) cell) E O, ← hzs, List.length_map]
       have hzl4 : zs.length ≤ 400 := by have := hp.length_eq; omega
       refine WP.cond rfl (fun h9 => ?_) (fun h9 => ?_)
       · have h9 := of_decide_eq_true h9
         have e : netE (flyL (erCls l.cells.xs) cell) = 3 := by rw [netE, hly, cond_true, if_pos (by omega)]
         rw [hnc, e] at k0
         refine WP.seq (WP.region (RG.pv rfl (PV.asg rfl rfl) (RG.mr rfl rfl rfl (RG.nil ?_))))
         refine WP.ret ?_
         exact ⟨_, _, ResV.two rfl rfl rfl, Cv.p, k0 (by decide)⟩
       · have h9 := of_decide_eq_false h9
         have e : netE (flyL (erCls l.cells.xs) cell) = 0 := by rw [netE, hly, cond_true, if_neg (by omega)]
         have k := k (by rw [hnc, e])
         refine WP.skip (WP.seq (WP.region (RG.pv rfl (PV.move (v := q) rfl rfl) (RG.pv rfl (PV.asg (v := q) rfl rfl) (RG.mr rfl rfl rfl (RG.nil ?_))))))
         refine WP.ret ?_
         exact ⟨_, _, ResV.two rfl rfl rfl, ((Cv.p (C := bagS 63 pieceT (hps hs) :: bagS 2 intT (hos hs) :: bagS 140 rectT (hrg hs) :: osl 82 hnetT q zs :: L)).trans ((Cv.bagPerm (ys := hps zs) (hp.symm.map _)).trans ((Cv.cons ((Cv.bagPerm (ys := hos zs) (hp.symm.map _)).trans (Cv.cons (Cv.bagPerm (ys := hrg zs) (hrg_perm hp.symm))))).trans Cv.p))), k q zs (by rw [hnR, if_pos (by rw [hnc, e]), hE2, hO2]; exact hzs)⟩
 · have hnc : hnC (erCls l.cells.xs) cell = hcC (erCls l.cells.xs) cell := by rw [hnC, if_neg h1]
   rw [hnc] at k0
   refine CallT.enter (args := _) Tryz.func42 rfl rfl (by kernel_rfl) rfl ?_
   refine WP.seq (WP.region ?_)
   refine RG.ot rfl (OT.box (cs := libT.enc l) rfl rfl rfl fun b2 => ?_)
   refine RG.pv rfl (PV.asg rfl rfl) (RG.mr rfl rfl rfl (RG.nil (WP.seq (WP.region (RG.pv rfl (PV.loadW rfl Ag31 rfl rfl) (RG.ml rfl rfl rfl ?_))))))
   refine RG.callF (vs := [_, _]) rfl rfl En38 rfl (pcls_i hL.up hlen (fun _ => ?_) (fun h => absurd h h1))
   refine RG.pv rfl (PV.move (v := .tuple _) rfl rfl) (RG.pv rfl (PV.ext rfl rfl rfl) (RG.pv rfl (PV.ext rfl rfl rfl) (RG.pv rfl (PV.ext rfl rfl rfl) (RG.pv rfl (PV.asg rfl rfl) (RG.pv rfl (PV.asg rfl rfl) (RG.mr rfl rfl rfl (RG.nil ?_)))))))
   refine WP.seq (WP.seq (WP.region (RG.ml rfl rfl rfl (RG.pv rfl (PV.neq rfl rfl rfl) (RG.nil ?_)))))
   refine WP.cond rfl (fun h2 => ?_) (fun h2 => ?_)
   · refine WP.seq ?_
     refine WP.region (RG.ml rfl rfl rfl (RG.pv rfl (PV.asg rfl rfl) (RG.mr rfl rfl rfl (RG.nil ?_))))
     refine WP.ret ?_
     exact ⟨_, _, ResV.two rfl rfl rfl, Cv.p, k0 h1⟩
   · exfalso; simp at h2; exact h1 h2
end Go.Proofs.YthhjapiggekjbaaGreat
namespace Go.Proofs.YthhjapiggekjbaaGreat
set_option linter.unusedVariables false
set_option linter.unusedSimpArgs false
open Go
set_option maxRecDepth 20000
set_option maxHeartbeats 1000000
set_option linter.unusedSimpArgs false
variable {G : Gh} {L : List Ch} {R : Value → Gh → List Ch → Prop}
theorem hnC_0 {cs : List ECell} {cell : Int} (h : hnC cs cell = 0) : hcC cs cell = 0 ∧ netE (flyL cs cell) = 0 := by
 unfold hnC at h
 split at h
 · exact ⟨‹_›, h⟩
 · exact absurd h ‹_›
theorem hnR_yes {cs : List ECell} {cell : Int} (h : hnC cs cell = 0) : hnR cs cell = netH (flyL cs cell) (plE cs cell) ((ppAll cs cell).map Prod.fst) := by rw [hnR, if_pos h]
theorem hnR_no {cs : List ECell} {cell : Int} (h : hnC cs cell ≠ 0) : hnR cs cell = [] := by rw [hnR, if_neg h]
noncomputable def hnN (cs : List ECell) (cell : Int) : List (List (Int × List Rect)) := if hnC cs cell = 0 then netL (flyL cs cell) else []
theorem netL_all (l : List (List Rect)) : (List.range (netN l)).map (gd (netL l)) = netL l := by
 rw [← netL_len]
 apply List.ext_getElem?
 intro i
 by_cases h : i < (netL l).length
 · simp [h, gd]
 · rw [List.getElem?_eq_none (by simp; omega), List.getElem?_eq_none (by omega)]
theorem hnR_fst (cs : List ECell) (cell : Int) : (hnR cs cell).map Prod.fst = hnN cs cell := by
 by_cases h : hnC cs cell = 0
 · rw [hnR_yes h, hnN, if_pos h, netH, List.map_map]; exact netL_all _
 · rw [hnR_no h, hnN, if_neg h]; rfl
theorem hnR_len {cs : List ECell} {cell : Int} (h : hnC cs cell = 0) : (hnR cs cell).length = netN (flyL cs cell) ∧ netN (flyL cs cell) ≤ 24 := by
 rw [hnR_yes h, netH_len]; exact ⟨rfl, (netE_ok (hnC_0 h).2).2⟩
theorem hrg_regs (hs : List HNet) : regs (er (nps (hs.map HNet.net))).flatten = hrg hs := by
 rw [hrg, nps, er, List.map_map, List.map_map, regs, List.flatMap, List.map_flatten, List.map_map]; rfl
theorem hier_i {l : Lib} {cell : Int} (hL : RLib G L l.cells.v l.cells.xs) (hlen : lenC (erCls l.cells.xs)) (k : ∀ v zs, (er (nps zs)).map erPs = hnN (erCls l.cells.xs) cell → R (.tuple #[v, vi (hnC (erCls l.cells.xs) cell)]) G (osl 80 netT v zs :: bagS 63 pieceT (nps zs) :: bagS 140 rectT (regs (er (nps zs)).flatten) :: L)) : CallT Tryz.prog 21 #[vT libT l, vi cell] G L R := by
 by_cases h1 : hnC (erCls l.cells.xs) cell = 0
 · rw [h1] at k
   obtain ⟨hl1, hl2⟩ := hnR_len h1
   have hf := hnR_fst (erCls l.cells.xs) cell
   refine CallT.enter (args := _) Tryz.func21 rfl rfl (by kernel_rfl) rfl ?_
   refine WP.seq (WP.region ?_)
   refine RG.ot rfl (OT.box (cs := libT.enc l) rfl rfl rfl fun b2 => ?_)
   refine RG.pv rfl (PV.asg rfl rfl) (RG.mr rfl rfl rfl (RG.nil (WP.seq (WP.region (RG.pv rfl (PV.loadW rfl Ag31 rfl rfl) (RG.ml rfl rfl rfl ?_))))))
   refine RG.callF (vs := [_, _]) rfl rfl En42 rfl (hnets_i hL.up hlen (fun h => absurd h1 h) (fun _ v1 hs he => ?_))
   refine RG.pv rfl (PV.move (v := .tuple _) rfl rfl) (RG.pv rfl (PV.ext (v := v1) rfl rfl rfl) (RG.pv rfl (PV.ext rfl rfl rfl) (RG.pv rfl (PV.asg (v := v1) rfl rfl) (RG.mr rfl rfl rfl (RG.nil (WP.seq (WP.seq ?_)))))))
   refine WP.region (RG.ml rfl rfl rfl (RG.pv rfl (PV.neq rfl rfl rfl) (RG.nil ?_)))
   have hsl : hs.length ≤ 24 := by have := congrArg List.length he; rw [List.length_map] at this; omega
   refine WP.cond rfl (fun h2 => ?_) (fun h2 => ?_)
   · simp at h2
   · refine WP.skip ?_
     refine WP.seq (WP.region ?_)
     refine RG.ot rfl (OT.bslice (F := netT) (els := []) rfl El44 rfl (by decide) rfl (by decide) trivial fun v20 => ?_)
     refine RG.pv rfl (PV.asg (v := v20) rfl rfl) (RG.nil (WP.seq (WP.seq (WP.region (RG.pv rfl (PV.move (v := v1) rfl rfl) (RG.pv rfl (PV.len (v := v1) rfl Tryz.underlying74 rfl SlF.o) (RG.ml rfl rfl rfl ?_)))))))
     refine RG.nil (WP.block ?_)
     refine WP.cv (Cv.eqS (show [] = (hs.take 0).map HNet.net from rfl)) ?_
     refine WP.loop2 [21, 22] (fun (i : Nat) (q : Value) => i ≤ hs.length) (fun (i : Nat) (q : Value) => [(23, vi i), (8, q)]) (fun (i : Nat) (q : Value) => osl 80 netT q ((hs.take i).map HNet.net) :: osl 82 hnetT v1 hs :: bagS 63 pieceT (hps hs) :: bagS 2 intT (hos hs) :: bagS 140 rectT (hrg hs) :: L) (fun (i : Nat) (q : Value) => hs.length - i) 0 v20 (by omega) ⟨rfl, rfl, trivial⟩ Cv.p ?_
     rintro i q τ hi
     refine WP.seq (WP.region (RG.pv rfl (PV.lss rfl rfl rfl) (RG.nil (WP.seq ?_))))
     have hnl : ((hs.take i).map HNet.net).length = i := by rw [List.length_map, List.length_take]; omega
     refine WP.cond rfl (fun h3 => ?_) (fun h3 => ?_)
     · have h3 := of_decide_eq_true h3
       have h4 : i < hs.length := by omega
       have hp1 := RsE.o (G := G) (L := bagS 63 pieceT (hps hs) :: []) (xs := hps hs) i (by rw [hps_len]; exact h4)
       have ho1 := RsE.o (G := G) (L := bagS 2 intT (hos hs) :: []) (xs := hos hs) i (by rw [hos_len]; exact h4)
       rw [hps_gd h4] at hp1
       rw [hos_gd h4] at ho1
       refine WP.skip (WP.seq (WP.block (WP.seq (WP.region (RG.pv rfl (PV.idxS (v := v1) rfl Is74 rfl SlF.o rfl rfl (by omega)) (RG.pv rfl (PV.loadE rfl Ag82 rfl rfl (El.o (getG (by omega)))) ?_))))))
       refine RG.ot rfl (OT.alloc rfl Zr82 fun b10 => ?_)
       refine RG.ot rfl (OT.storeW (vs := [_, _]) rfl Sz82 rfl rfl (Cl.c rfl) rfl rfl (OneC.sl (SlF.r hp1) (OneC.sl (SlF.r ho1) OneC.nil)) ?_)
       refine RG.nil (WP.region (RG.pv rfl (PV.move (v := q) rfl rfl) (RG.pv rfl (PV.field rfl Fo82_0 rfl) (RG.pv rfl (PV.loadB (vs := [_]) rfl Ag80 rfl rfl rfl) ?_))))
       refine RG.ot rfl (OT.bslice (F := netT) (els := [(gd hs i).net]) rfl El44 rfl (by decide) rfl (by decide) ⟨rfl, (Cl.c rfl), trivial⟩ fun v30 => ?_)
       refine RG.ot rfl (OT.append (v := q) (u := v30) (F := netT) rfl El44 rfl (by decide) rfl rfl Rs.o (OneL.one (OneC.sl (SlF.r hp1) OneC.nil)) rfl (by first | omega | (simp <;> omega)) fun v31 => ?_)
       refine RG.pv rfl (PV.asg (v := v31) rfl rfl) (RG.nil (WP.region (RG.pv rfl (PV.add rfl rfl rfl (by omega)) (RG.ml rfl rfl rfl (RG.nil ?_)))))
       exact ⟨rfl, i + 1, v31, (by omega), ⟨rfl, rfl, trivial⟩, ⟨rfl, rfl, trivial⟩, ((Cv.p (C := osl 80 netT v31 ((hs.take i).map HNet.net ++ [(gd hs i).net]) :: osl 82 hnetT v1 hs :: bagS 63 pieceT (hps hs) :: bagS 2 intT (hos hs) :: bagS 140 rectT (hrg hs) :: L)).trans (Cv.eqS (by rw [List.take_add_one, getG h4, List.map_append]; rfl))), by omega⟩
     · have h3 := of_decide_eq_false h3
       obtain rfl : i = hs.length := by omega
       rw [List.take_length]
       have e1 : (er (nps (hs.map HNet.net))).map erPs = hnN (erCls l.cells.xs) cell := by
         rw [← hf, ← he, List.map_map, nps, er, List.map_map, List.map_map, List.map_map]; rfl
       have k := k q (hs.map HNet.net) e1
       rw [hrg_regs, show nps (hs.map HNet.net) = hps hs by rw [nps, hps, List.map_map]; rfl] at k
       refine WP.exit ?_
       refine WP.seq (WP.region (RG.pv rfl (PV.move (v := q) rfl rfl) (RG.pv rfl (PV.asg (v := q) rfl rfl) (RG.mr rfl rfl rfl (RG.nil ?_)))))
       refine WP.ret ?_
       exact ⟨_, _, ResV.two rfl rfl rfl, Cv.p, k⟩
 · have e : hnN (erCls l.cells.xs) cell = [] := by rw [hnN, if_neg h1]
   rw [e] at k
   refine CallT.enter (args := _) Tryz.func21 rfl rfl (by kernel_rfl) rfl ?_
   refine WP.seq (WP.region ?_)
   refine RG.ot rfl (OT.box (cs := libT.enc l) rfl rfl rfl fun b2 => ?_)
   refine RG.pv rfl (PV.asg rfl rfl) (RG.mr rfl rfl rfl (RG.nil (WP.seq (WP.region (RG.pv rfl (PV.loadW rfl Ag31 rfl rfl) (RG.ml rfl rfl rfl ?_))))))
   refine RG.callF (vs := [_, _]) rfl rfl En42 rfl (hnets_i hL.up hlen (fun _ => ?_) (fun h => absurd h h1))
   refine RG.pv rfl (PV.move (v := .tuple _) rfl rfl) (RG.pv rfl (PV.ext rfl rfl rfl) (RG.pv rfl (PV.ext rfl rfl rfl) (RG.pv rfl (PV.asg rfl rfl) (RG.mr rfl rfl rfl (RG.nil (WP.seq (WP.seq ?_)))))))
   refine WP.region (RG.ml rfl rfl rfl (RG.pv rfl (PV.neq rfl rfl rfl) (RG.nil ?_)))
   refine WP.cond rfl (fun h2 => ?_) (fun h2 => ?_)
   · refine WP.seq ?_
     refine WP.region (RG.ml rfl rfl rfl (RG.pv rfl (PV.asg rfl rfl) (RG.mr rfl rfl rfl (RG.nil ?_))))
     refine WP.ret ?_
     exact ⟨_, _, ResV.two rfl rfl rfl, (Cv.p (C := L)).trans ((Cv.bag0 (e := 140) (F := rectT) (xs := regs (er (nps [])).flatten) rfl).trans ((Cv.bag0 (e := 63) (F := pieceT) (xs := nps []) rfl).trans Cv.nilS)), k (.slice none 0 0) [] rfl⟩
   · exfalso; simp at h2; exact h1 h2
noncomputable def noC (cs : List ECell) (cell net : Int) : Int := if hnC cs cell = 0 then (if 0 ≤ net ∧ net < netN (flyL cs cell) then 0 else 5) else hnC cs cell
noncomputable def noR (cs : List ECell) (cell net : Int) : List Int := if noC cs cell net = 0 then ocN (flyL cs cell) (plE cs cell) ((ppAll cs cell).map Prod.fst) net.toNat else []
theorem noR_no {cs : List ECell} {cell net : Int} (h : noC cs cell net ≠ 0) : noR cs cell net = [] := by rw [noR, if_neg h]
theorem hnR_gd {cs : List ECell} {cell : Int} {n : Nat} (h : hnC cs cell = 0) (hn : n < netN (flyL cs cell)) : (gd (hnR cs cell) n).2 = ocN (flyL cs cell) (plE cs cell) ((ppAll cs cell).map Prod.fst) n := by
 have e : gd (List.range (netN (flyL cs cell))) n = n := by rw [gd_eq (by simpa using hn)]; simp
 rw [hnR_yes h, netH, gd_map _ (by simpa using hn)]
 simp only [e]
theorem netOcc_i {l : Lib} {cell net : Int} (hL : RLib G L l.cells.v l.cells.xs) (hlen : lenC (erCls l.cells.xs)) (k : ∀ v, R (.tuple #[v, vi (noC (erCls l.cells.xs) cell net)]) G (osl 2 intT v (noR (erCls l.cells.xs) cell net) :: L)) : CallT Tryz.prog 18 #[vT libT l, vi cell, vi net] G L R := by
 by_cases h1 : hnC (erCls l.cells.xs) cell = 0
 · obtain ⟨hl1, hl2⟩ := hnR_len h1
   refine CallT.enter (args := _) Tryz.func18 rfl rfl (by kernel_rfl) rfl ?_
   refine WP.seq (WP.region ?_)
   refine RG.ot rfl (OT.box (cs := libT.enc l) rfl rfl rfl fun b3 => ?_)
   refine RG.pv rfl (PV.asg rfl rfl) (RG.mr rfl rfl rfl (RG.nil (WP.seq (WP.region (RG.pv rfl (PV.loadW rfl Ag31 rfl rfl) (RG.ml rfl rfl rfl ?_))))))
   refine RG.callF (vs := [_, _]) rfl rfl En42 rfl (hnets_i hL.up hlen (fun h => absurd h1 h) (fun _ v1 hs he => ?_))
   refine RG.pv rfl (PV.move (v := .tuple _) rfl rfl) (RG.pv rfl (PV.ext (v := v1) rfl rfl rfl) (RG.pv rfl (PV.ext rfl rfl rfl) (RG.pv rfl (PV.asg (v := v1) rfl rfl) (RG.mr rfl rfl rfl (RG.nil (WP.seq (WP.block ?_)))))))
   refine WP.seq (WP.region (RG.ml rfl rfl rfl (RG.pv rfl (PV.neq rfl rfl rfl) (RG.br rfl rfl rfl (RG.nil ?_)))))
   have hsl : hs.length = netN (flyL (erCls l.cells.xs) cell) := by have := congrArg List.length he; rw [List.length_map] at this; omega
   refine WP.cond rfl (fun h2 => ?_) (fun h2 => ?_)
   · simp at h2
   · refine WP.seq ?_
     refine WP.region (RG.ml rfl rfl rfl (RG.pv rfl (PV.move (v := v1) rfl rfl) (RG.pv rfl (PV.len (v := v1) rfl Tryz.underlying74 rfl SlF.o) (RG.pv rfl (PV.sub rfl rfl rfl (by omega)) ?_))))
     refine RG.callF (vs := [_, _, _]) rfl rfl En43 rfl (within_s ?_)
     refine RG.pv rfl (PV.not rfl rfl) (RG.br rfl rfl rfl (RG.nil ?_))
     refine WP.cond rfl (fun h3 => ?_) (fun h3 => ?_)
     · have h3 : ¬ (0 ≤ net ∧ net < netN (flyL (erCls l.cells.xs) cell)) := by simp [within] at h3; omega
       have e : noC (erCls l.cells.xs) cell net = 5 := by rw [noC, if_pos h1, if_neg h3]
       have e2 : noR (erCls l.cells.xs) cell net = [] := noR_no (by rw [e]; decide)
       rw [e, e2] at k
       refine WP.seq (WP.region (RG.pv rfl (PV.asg rfl rfl) (RG.mr rfl rfl rfl (RG.nil ?_))))
       refine WP.ret ?_
       exact ⟨_, _, ResV.two rfl rfl rfl, (Cv.p (C := L)).trans Cv.nilS, k (.slice none 0 0)⟩
     · have h3 : 0 ≤ net ∧ net < netN (flyL (erCls l.cells.xs) cell) := by simp [within] at h3; omega
       have e : noC (erCls l.cells.xs) cell net = 0 := by rw [noC, if_pos h1, if_pos h3]
       obtain ⟨n, rfl⟩ := Int.eq_ofNat_of_zero_le h3.1
       have h30 : n < hs.length := by omega
       have e2 : (gd hs n).occs.xs = noR (erCls l.cells.xs) cell n := by
         rw [noR, if_pos e, Int.toNat_natCast, ← hnR_gd h1 (by omega), ← he, gd_map _ h30]; rfl
       rw [e, ← e2] at k
       refine WP.skip (WP.seq (WP.region (RG.pv rfl (PV.move (v := v1) rfl rfl) (RG.ml rfl rfl rfl (RG.pv rfl (PV.idxS (j := n) (v := v1) rfl Is74 rfl SlF.o rfl (by omega) (by omega)) (RG.pv rfl (PV.field rfl Fo82_1 rfl) (RG.pv rfl (PV.loadF rfl Sc26 rfl rfl (El.o (getG (by omega))) rfl) ?_)))))))
       refine RG.pv rfl (PV.asg rfl rfl) (RG.mr rfl rfl rfl (RG.nil ?_))
       refine WP.ret ?_
       exact ⟨_, _, ResV.two rfl rfl rfl, ((Cv.p (C := bagS 2 intT (hos hs) :: L)).trans ((Cv.bagS_take n (by rw [hos_len]; omega)).trans ((Cv.cast (by rw [hos_gd h30])).trans Cv.p))), k (gd hs n).occs.v⟩
 · have e : noC (erCls l.cells.xs) cell net = hnC (erCls l.cells.xs) cell := by rw [noC, if_neg h1]
   have e2 : noR (erCls l.cells.xs) cell net = [] := noR_no (by rw [e]; exact h1)
   rw [e, e2] at k
   refine CallT.enter (args := _) Tryz.func18 rfl rfl (by kernel_rfl) rfl ?_
   refine WP.seq (WP.region ?_)
   refine RG.ot rfl (OT.box (cs := libT.enc l) rfl rfl rfl fun b3 => ?_)
   refine RG.pv rfl (PV.asg rfl rfl) (RG.mr rfl rfl rfl (RG.nil (WP.seq (WP.region (RG.pv rfl (PV.loadW rfl Ag31 rfl rfl) (RG.ml rfl rfl rfl ?_))))))
   refine RG.callF (vs := [_, _]) rfl rfl En42 rfl (hnets_i hL.up hlen (fun _ => ?_) (fun h => absurd h h1))
   refine RG.pv rfl (PV.move (v := .tuple _) rfl rfl) (RG.pv rfl (PV.ext rfl rfl rfl) (RG.pv rfl (PV.ext rfl rfl rfl) (RG.pv rfl (PV.asg rfl rfl) (RG.mr rfl rfl rfl (RG.nil (WP.seq (WP.block ?_)))))))
   refine WP.seq (WP.region (RG.ml rfl rfl rfl (RG.pv rfl (PV.neq rfl rfl rfl) (RG.br rfl rfl rfl (RG.nil ?_)))))
   refine WP.cond rfl (fun h2 => ?_) (fun h2 => ?_)
   · refine WP.seq ?_
     refine WP.region (RG.ml rfl rfl rfl (RG.pv rfl (PV.asg rfl rfl) (RG.mr rfl rfl rfl (RG.nil ?_))))
     refine WP.ret ?_
     exact ⟨_, _, ResV.two rfl rfl rfl, (Cv.p (C := L)).trans Cv.nilS, k (.slice none 0 0)⟩
   · exfalso; simp at h2; exact h1 h2
end Go.Proofs.YthhjapiggekjbaaGreat
namespace Go.Proofs.YthhjapiggekjbaaGreat
set_option linter.unusedVariables false
set_option linter.unusedSimpArgs false
open Go
set_option maxRecDepth 20000
set_option maxHeartbeats 1000000
set_option linter.unusedSimpArgs false
variable {G : Gh} {L : List Ch} {R : Value → Gh → List Ch → Prop}
theorem dShapes_s {b : Nat} {cv : Value} {bs : List UInt8} {most : Int} (hcode : SL G byteT cv bs) (hm : 0 ≤ most ∧ most ≤ 100) (k : ∀ v ss, ss.length ≤ 100 → R v G (osl 142 shapeT v ss :: src b cv :: L)) : CallT Tryz.prog 129 #[.pointer (some ⟨b, 0, none⟩), vi most] G (src b cv :: L) R := by
 have hl8 : ([0, 1, 2, 3, 3, 4, 5, (3 : Int)] : List Int).length = 8 := rfl
 refine CallT.enter (args := _) Tryz.func129 rfl rfl (by kernel_rfl) rfl ?_
 refine WP.seq (WP.region (RG.pv rfl (PV.asg rfl rfl) (RG.nil (WP.seq (WP.region ?_)))))
 refine RG.ot rfl (OT.bslice (F := shapeT) (els := []) rfl El83 rfl (by decide) rfl (by decide) trivial fun v10 => ?_)
 refine RG.pv rfl (PV.asg (v := v10) rfl rfl) (RG.nil (WP.seq (WP.seq (WP.region (RG.pv rfl (PV.move rfl rfl) (RG.ml rfl rfl rfl (RG.pv rfl (PV.add rfl rfl rfl (by omega)) ?_)))))))
 refine RG.callF (vs := [_, _]) rfl rfl En80 rfl (CallT.exC (src b cv) (next_s hcode (by omega) (fun w14 hw14 => ?_)))
 refine RG.mr rfl rfl rfl (RG.nil (WP.block ?_))
 refine WP.loop3 [0] (fun (c : Int) (ss : List Shape) (q : Value) => 0 ≤ c ∧ c ≤ 100 ∧ (ss.length : Int) + c ≤ 100) (fun (c : Int) (ss : List Shape) (q : Value) => [(6, vi c), (5, q)]) (fun (c : Int) (ss : List Shape) (q : Value) => osl 142 shapeT q ss :: src b cv :: L) (fun (c : Int) (ss : List Shape) (q : Value) => c.toNat) w14 [] v10 ⟨by omega, by omega, by simp; omega⟩ ⟨rfl, rfl, trivial⟩ Cv.p ?_
 rintro c ss q τ ⟨h0, h1, h3⟩
 refine WP.seq (WP.seq (WP.region (RG.ml rfl rfl rfl (RG.pv rfl (PV.gtr rfl rfl rfl) (RG.nil ?_)))))
 refine WP.cond rfl (fun h2 => ?_) (fun h2 => ?_)
 · have h2 := of_decide_eq_true h2
   refine WP.skip (WP.seq (WP.block (WP.seq (WP.region ?_))))
   refine RG.ot rfl (OT.bslice (F := intT) (els := [_, _, _, _, _, _, _, _]) rfl El26 rfl (by decide) rfl (by decide) ⟨rfl, (Cl.c rfl), ⟨rfl, (Cl.c rfl), ⟨rfl, (Cl.c rfl), ⟨rfl, (Cl.c rfl), ⟨rfl, (Cl.c rfl), ⟨rfl, (Cl.c rfl), ⟨rfl, (Cl.c rfl), ⟨rfl, (Cl.c rfl), trivial⟩⟩⟩⟩⟩⟩⟩⟩ fun v19 => ?_)
   refine RG.pv rfl (PV.move rfl rfl) ?_
   refine RG.callF (vs := [_, _]) rfl rfl En80 rfl (CallT.exC (src b cv) (next_s hcode (by omega) (fun w21 hw21 => ?_)))
   refine RG.pv rfl (PV.idxS (j := w21.toNat) (v := v19) rfl Is26 rfl SlF.o rfl (by omega) (by omega)) (RG.pv rfl (PV.loadE1 rfl Sc2 rfl rfl (El.o (getG (by omega))) rfl) (RG.mr rfl rfl rfl (RG.nil (WP.seq (WP.region (RG.mr rfl rfl rfl (RG.nil ?_)))))))
   refine WP.seq (WP.seq (WP.region (RG.ml rfl rfl rfl (RG.pv rfl (PV.eql rfl rfl rfl) (RG.bl rfl rfl rfl ?_)))))
   refine RG.gs rfl rfl rfl (fun hp => (PV.mvI (.inl rfl) rfl)) ?_
   refine RG.gs rfl rfl rfl (fun hp => (PV.eql rfl (gs_t hp) rfl)) ?_
   refine RG.pv rfl (PV.pickO rfl rfl rfl (fun hq => gs_t (geqF hq))) (RG.nil ?_)
   refine WP.cond rfl (fun h4 => ?_) (fun h4 => ?_)
   · skip
     refine WP.region (RG.mr rfl rfl rfl (RG.nil (WP.seq (WP.region (RG.pv rfl (PV.move rfl rfl) ?_)))))
     refine RG.callF (vs := [_, _]) rfl rfl En80 rfl (CallT.exC (src b cv) (next_s hcode (by omega) (fun w31 hw31 => ?_)))
     refine RG.pv rfl (PV.sub rfl rfl rfl (by omega)) (RG.pv rfl (PV.move rfl rfl) ?_)
     refine RG.callF (vs := [_, _]) rfl rfl En80 rfl (CallT.exC (src b cv) (next_s hcode (by omega) (fun w34 hw34 => ?_)))
     refine RG.pv rfl (PV.sub rfl rfl rfl (by omega)) (RG.pv rfl (PV.build (vs := [(0, [vi _]), (1, [vi _])]) (out := [_, _, _, _]) rfl Zr140 Pl140 ⟨rfl, (Cl.c rfl), ⟨rfl, (Cl.c rfl), trivial⟩⟩ rfl) ?_)
     refine RG.ot rfl (OT.alloc rfl Zr140 fun b9 => ?_)
     refine RG.ot rfl (OT.storeW (vs := [vi _, vi _, vi _, vi _]) rfl Sz140 rfl rfl (Cl.c rfl) rfl rfl (OneC.c rfl) ?_)
     refine RG.nil ?_
     refine WP.cut1 [0, 5, 6, 7, 8, 9] (fun (x1 : Int) => -5 ≤ x1 ∧ x1 ≤ 10) (fun (x1 : Int) => []) (fun (x1 : Int) => blk b9 140 [vi (w31 - 5), vi (w34 - 5), vi x1, vi 0] :: osl 142 shapeT q ss :: src b cv :: L) ?_ ?_
     refine WP.regionHD [.b b9] (.q 0 (.q 3 (.q 4 (.b 1 (.q 2 (.l 5 (.q 6 (.q 7 (.l 8 Sch.nil))))) 5 (.l 1 (.q 2 (.q 6 (.q 7 (.l 8 Sch.nil))))))))) (by kernel_rfl) (by kernel_rfl) (by kernel_rfl) rfl ?_
     refine RH.pv rfl (fun _ _ _ _ h => h) (Gh.le_refl _) PickC.pick rfl (PV.field rfl Fo140_0 rfl) ?_
     refine RH.pv rfl (fun _ _ _ _ h => h) (Gh.le_refl _) PickC.pick rfl (PV.move rfl rfl) ?_
     refine RH.pv rfl (fun _ _ _ _ h => h) (Gh.le_refl _) PickC.pick rfl (PV.mvI (.inl rfl) rfl) ?_
     · refine RH.ot2 rfl rfl rfl rfl  (OT.pv (PV.load1 rfl Sc2 rfl (Rd.blk rfl)) ⟨Gh.le_refl _, PickC.pick, ?_⟩) (OT.callF (vs := [_, _]) rfl En80 rfl (CallT.exC (src b cv) (next_s hcode (by omega) (fun w42 hw42 => ⟨Gh.le_refl _, PickC.pick, ?_⟩))))
       · refine RH.pv rfl (fun _ _ _ _ h => h) (Gh.le_refl _) PickC.pick rfl (PV.add rfl rfl rfl (by omega)) ?_
         refine RH.ot rfl rfl (OT.callF (vs := [_, _]) rfl En80 rfl (CallT.exC (src b cv) (next_s hcode (by omega) (fun w42 hw42 => ⟨Gh.le_refl _, PickC.pick, ?_⟩))))
         refine RH.pv rfl (fun _ _ _ _ h => h) (Gh.le_refl _) PickC.pick rfl (PV.add rfl rfl rfl (by omega)) ?_
         refine RH.pv rfl (fun _ _ _ _ h => h) (Gh.le_refl _) PickC.pick rfl (PV.field rfl Fo140_2 rfl) ?_
         refine RH.ot rfl rfl (OT.storeB (vs := [vi _]) (cs' := [_, _, _, _]) rfl Sz2 rfl rfl (Cl.c rfl) rfl (OneC.c rfl) rfl rfl ⟨Gh.le_refl _, PickC.pick, ?_⟩)
         refine RH.nil ?_
         exact ⟨rfl, (w31 - 5 + 1 + w42), ⟨by omega, by omega⟩, trivial, ⟨rfl, rfl, rfl, rfl, rfl, rfl, trivial⟩, Cv.p⟩
       · refine RH.ot rfl rfl (OT.pv (PV.load1 rfl Sc2 rfl (Rd.blk rfl)) ⟨Gh.le_refl _, PickC.pick, ?_⟩)
         refine RH.pv rfl (fun _ _ _ _ h => h) (Gh.le_refl _) PickC.pick rfl (PV.add rfl rfl rfl (by omega)) ?_
         refine RH.pv rfl (fun _ _ _ _ h => h) (Gh.le_refl _) PickC.pick rfl (PV.add rfl rfl rfl (by omega)) ?_
         refine RH.pv rfl (fun _ _ _ _ h => h) (Gh.le_refl _) PickC.pick rfl (PV.field rfl Fo140_2 rfl) ?_
         refine RH.ot rfl rfl (OT.storeB (vs := [vi _]) (cs' := [_, _, _, _]) rfl Sz2 rfl rfl (Cl.c rfl) rfl (OneC.c rfl) rfl rfl ⟨Gh.le_refl _, PickC.pick, ?_⟩)
         refine RH.nil ?_
         exact ⟨rfl, (w31 - 5 + 1 + w42), ⟨by omega, by omega⟩, trivial, ⟨rfl, rfl, rfl, rfl, rfl, rfl, trivial⟩, Cv.p⟩
     rintro x1 τ2 hx1
     refine WP.cut1 [0, 5, 6, 7, 9] (fun (y1 : Int) => -5 ≤ y1 ∧ y1 ≤ 10) (fun (y1 : Int) => []) (fun (y1 : Int) => blk b9 140 (rectT.enc ⟨w31 - 5, w34 - 5, x1, y1⟩) :: osl 142 shapeT q ss :: src b cv :: L) ?_ ?_
     refine WP.regionHD [.b b9] (.q 0 (.q 3 (.q 4 (.b 1 (.q 2 (.l 5 (.q 6 (.q 7 (.l 8 Sch.nil))))) 5 (.l 1 (.q 2 (.q 6 (.q 7 (.l 8 Sch.nil))))))))) (by kernel_rfl) (by kernel_rfl) (by kernel_rfl) rfl ?_
     refine RH.pv rfl (fun _ _ _ _ h => h) (Gh.le_refl _) PickC.pick rfl (PV.field rfl Fo140_1 rfl) ?_
     refine RH.pv rfl (fun _ _ _ _ h => h) (Gh.le_refl _) PickC.pick rfl (PV.move rfl rfl) ?_
     refine RH.pv rfl (fun _ _ _ _ h => h) (Gh.le_refl _) PickC.pick rfl (PV.mvI (.inl rfl) rfl) ?_
     · refine RH.ot2 rfl rfl rfl rfl  (OT.pv (PV.load1 rfl Sc2 rfl (Rd.blk rfl)) ⟨Gh.le_refl _, PickC.pick, ?_⟩) (OT.callF (vs := [_, _]) rfl En80 rfl (CallT.exC (src b cv) (next_s hcode (by omega) (fun w50 hw50 => ⟨Gh.le_refl _, PickC.pick, ?_⟩))))
       · refine RH.pv rfl (fun _ _ _ _ h => h) (Gh.le_refl _) PickC.pick rfl (PV.add rfl rfl rfl (by omega)) ?_
         refine RH.ot rfl rfl (OT.callF (vs := [_, _]) rfl En80 rfl (CallT.exC (src b cv) (next_s hcode (by omega) (fun w50 hw50 => ⟨Gh.le_refl _, PickC.pick, ?_⟩))))
         refine RH.pv rfl (fun _ _ _ _ h => h) (Gh.le_refl _) PickC.pick rfl (PV.add rfl rfl rfl (by omega)) ?_
         refine RH.pv rfl (fun _ _ _ _ h => h) (Gh.le_refl _) PickC.pick rfl (PV.field rfl Fo140_3 rfl) ?_
         refine RH.ot rfl rfl (OT.storeB (vs := [vi _]) (cs' := [_, _, _, _]) rfl Sz2 rfl rfl (Cl.c rfl) rfl (OneC.c rfl) rfl rfl ⟨Gh.le_refl _, PickC.pick, ?_⟩)
         refine RH.nil ?_
         exact ⟨rfl, (w34 - 5 + 1 + w50), ⟨by omega, by omega⟩, trivial, ⟨rfl, rfl, rfl, rfl, rfl, trivial⟩, Cv.p⟩
       · refine RH.ot rfl rfl (OT.pv (PV.load1 rfl Sc2 rfl (Rd.blk rfl)) ⟨Gh.le_refl _, PickC.pick, ?_⟩)
         refine RH.pv rfl (fun _ _ _ _ h => h) (Gh.le_refl _) PickC.pick rfl (PV.add rfl rfl rfl (by omega)) ?_
         refine RH.pv rfl (fun _ _ _ _ h => h) (Gh.le_refl _) PickC.pick rfl (PV.add rfl rfl rfl (by omega)) ?_
         refine RH.pv rfl (fun _ _ _ _ h => h) (Gh.le_refl _) PickC.pick rfl (PV.field rfl Fo140_3 rfl) ?_
         refine RH.ot rfl rfl (OT.storeB (vs := [vi _]) (cs' := [_, _, _, _]) rfl Sz2 rfl rfl (Cl.c rfl) rfl (OneC.c rfl) rfl rfl ⟨Gh.le_refl _, PickC.pick, ?_⟩)
         refine RH.nil ?_
         exact ⟨rfl, (w34 - 5 + 1 + w50), ⟨by omega, by omega⟩, trivial, ⟨rfl, rfl, rfl, rfl, rfl, trivial⟩, Cv.p⟩
     rintro y1 τ3 hy1
     refine WP.region (RG.pv rfl (PV.move (v := q) rfl rfl) (RG.ml rfl rfl rfl (RG.pv rfl (PV.loadW rfl Ag140 rfl rfl) (RG.pv rfl (PV.build (vs := [(0, [vi _]), (1, [vi _, vi _, vi _, vi _])]) (out := [_, _, _, _, _]) rfl Zr142 Pl142 ⟨rfl, (Cl.c rfl), ⟨rfl, (Cl.c rfl), trivial⟩⟩ rfl) ?_))))
     refine RG.ot rfl (OT.bslice (F := shapeT) (els := [⟨gd [0, 1, 2, 3, 3, 4, 5, (3 : Int)] w21.toNat, ⟨w31 - 5, w34 - 5, x1, y1⟩⟩]) rfl El83 rfl (by decide) rfl (by decide) ⟨rfl, (Cl.c rfl), trivial⟩ fun v57 => ?_)
     refine RG.ot rfl (OT.append (v := q) (u := v57) (F := shapeT) rfl El83 rfl (by decide) rfl rfl Rs.o (OneL.c (fun _ => rfl)) rfl (by first | omega | (simp <;> omega)) fun v58 => ?_)
     refine RG.pv rfl (PV.asg (v := v58) rfl rfl) (RG.nil (WP.region (RG.ml rfl rfl rfl (RG.pv rfl (PV.sub rfl rfl rfl (by omega)) (RG.mr rfl rfl rfl (RG.nil ?_))))))
     exact ⟨rfl, c - 1, (ss ++ [⟨gd [0, 1, 2, 3, 3, 4, 5, (3 : Int)] w21.toNat, ⟨w31 - 5, w34 - 5, x1, y1⟩⟩]), v58, ⟨by omega, by omega, by rw [List.length_append]; simp; omega⟩, ⟨rfl, rfl, trivial⟩, ⟨rfl, trivial⟩, Cv.p, by omega⟩
   · skip
     refine WP.skip (WP.seq (WP.region (RG.pv rfl (PV.move rfl rfl) ?_)))
     refine RG.callF (vs := [_, _]) rfl rfl En80 rfl (CallT.exC (src b cv) (next_s hcode (by omega) (fun w31 hw31 => ?_)))
     refine RG.pv rfl (PV.sub rfl rfl rfl (by omega)) (RG.pv rfl (PV.move rfl rfl) ?_)
     refine RG.callF (vs := [_, _]) rfl rfl En80 rfl (CallT.exC (src b cv) (next_s hcode (by omega) (fun w34 hw34 => ?_)))
     refine RG.pv rfl (PV.sub rfl rfl rfl (by omega)) (RG.pv rfl (PV.build (vs := [(0, [vi _]), (1, [vi _])]) (out := [_, _, _, _]) rfl Zr140 Pl140 ⟨rfl, (Cl.c rfl), ⟨rfl, (Cl.c rfl), trivial⟩⟩ rfl) ?_)
     refine RG.ot rfl (OT.alloc rfl Zr140 fun b9 => ?_)
     refine RG.ot rfl (OT.storeW (vs := [vi _, vi _, vi _, vi _]) rfl Sz140 rfl rfl (Cl.c rfl) rfl rfl (OneC.c rfl) ?_)
     refine RG.nil ?_
     refine WP.cut1 [0, 5, 6, 7, 8, 9] (fun (x1 : Int) => -5 ≤ x1 ∧ x1 ≤ 10) (fun (x1 : Int) => []) (fun (x1 : Int) => blk b9 140 [vi (w31 - 5), vi (w34 - 5), vi x1, vi 0] :: osl 142 shapeT q ss :: src b cv :: L) ?_ ?_
     refine WP.regionHD [.b b9] (.q 0 (.q 3 (.q 4 (.b 1 (.q 2 (.l 5 (.q 6 (.q 7 (.l 8 Sch.nil))))) 5 (.l 1 (.q 2 (.q 6 (.q 7 (.l 8 Sch.nil))))))))) (by kernel_rfl) (by kernel_rfl) (by kernel_rfl) rfl ?_
     refine RH.pv rfl (fun _ _ _ _ h => h) (Gh.le_refl _) PickC.pick rfl (PV.field rfl Fo140_0 rfl) ?_
     refine RH.pv rfl (fun _ _ _ _ h => h) (Gh.le_refl _) PickC.pick rfl (PV.move rfl rfl) ?_
     refine RH.pv rfl (fun _ _ _ _ h => h) (Gh.le_refl _) PickC.pick rfl (PV.mvI (.inl rfl) rfl) ?_
     · refine RH.ot2 rfl rfl rfl rfl  (OT.pv (PV.load1 rfl Sc2 rfl (Rd.blk rfl)) ⟨Gh.le_refl _, PickC.pick, ?_⟩) (OT.callF (vs := [_, _]) rfl En80 rfl (CallT.exC (src b cv) (next_s hcode (by omega) (fun w42 hw42 => ⟨Gh.le_refl _, PickC.pick, ?_⟩))))
       · refine RH.pv rfl (fun _ _ _ _ h => h) (Gh.le_refl _) PickC.pick rfl (PV.add rfl rfl rfl (by omega)) ?_
         refine RH.ot rfl rfl (OT.callF (vs := [_, _]) rfl En80 rfl (CallT.exC (src b cv) (next_s hcode (by omega) (fun w42 hw42 => ⟨Gh.le_refl _, PickC.pick, ?_⟩))))
         refine RH.pv rfl (fun _ _ _ _ h => h) (Gh.le_refl _) PickC.pick rfl (PV.add rfl rfl rfl (by omega)) ?_
         refine RH.pv rfl (fun _ _ _ _ h => h) (Gh.le_refl _) PickC.pick rfl (PV.field rfl Fo140_2 rfl) ?_
         refine RH.ot rfl rfl (OT.storeB (vs := [vi _]) (cs' := [_, _, _, _]) rfl Sz2 rfl rfl (Cl.c rfl) rfl (OneC.c rfl) rfl rfl ⟨Gh.le_refl _, PickC.pick, ?_⟩)
         refine RH.nil ?_
         exact ⟨rfl, (w31 - 5 + 1 + w42), ⟨by omega, by omega⟩, trivial, ⟨rfl, rfl, rfl, rfl, rfl, rfl, trivial⟩, Cv.p⟩
       · refine RH.ot rfl rfl (OT.pv (PV.load1 rfl Sc2 rfl (Rd.blk rfl)) ⟨Gh.le_refl _, PickC.pick, ?_⟩)
         refine RH.pv rfl (fun _ _ _ _ h => h) (Gh.le_refl _) PickC.pick rfl (PV.add rfl rfl rfl (by omega)) ?_
         refine RH.pv rfl (fun _ _ _ _ h => h) (Gh.le_refl _) PickC.pick rfl (PV.add rfl rfl rfl (by omega)) ?_
         refine RH.pv rfl (fun _ _ _ _ h => h) (Gh.le_refl _) PickC.pick rfl (PV.field rfl Fo140_2 rfl) ?_
         refine RH.ot rfl rfl (OT.storeB (vs := [vi _]) (cs' := [_, _, _, _]) rfl Sz2 rfl rfl (Cl.c rfl) rfl (OneC.c rfl) rfl rfl ⟨Gh.le_refl _, PickC.pick, ?_⟩)
         refine RH.nil ?_
         exact ⟨rfl, (w31 - 5 + 1 + w42), ⟨by omega, by omega⟩, trivial, ⟨rfl, rfl, rfl, rfl, rfl, rfl, trivial⟩, Cv.p⟩
     rintro x1 τ2 hx1
     refine WP.cut1 [0, 5, 6, 7, 9] (fun (y1 : Int) => -5 ≤ y1 ∧ y1 ≤ 10) (fun (y1 : Int) => []) (fun (y1 : Int) => blk b9 140 (rectT.enc ⟨w31 - 5, w34 - 5, x1, y1⟩) :: osl 142 shapeT q ss :: src b cv :: L) ?_ ?_
     refine WP.regionHD [.b b9] (.q 0 (.q 3 (.q 4 (.b 1 (.q 2 (.l 5 (.q 6 (.q 7 (.l 8 Sch.nil))))) 5 (.l 1 (.q 2 (.q 6 (.q 7 (.l 8 Sch.nil))))))))) (by kernel_rfl) (by kernel_rfl) (by kernel_rfl) rfl ?_
     refine RH.pv rfl (fun _ _ _ _ h => h) (Gh.le_refl _) PickC.pick rfl (PV.field rfl Fo140_1 rfl) ?_
     refine RH.pv rfl (fun _ _ _ _ h => h) (Gh.le_refl _) PickC.pick rfl (PV.move rfl rfl) ?_
     refine RH.pv rfl (fun _ _ _ _ h => h) (Gh.le_refl _) PickC.pick rfl (PV.mvI (.inl rfl) rfl) ?_
     · refine RH.ot2 rfl rfl rfl rfl  (OT.pv (PV.load1 rfl Sc2 rfl (Rd.blk rfl)) ⟨Gh.le_refl _, PickC.pick, ?_⟩) (OT.callF (vs := [_, _]) rfl En80 rfl (CallT.exC (src b cv) (next_s hcode (by omega) (fun w50 hw50 => ⟨Gh.le_refl _, PickC.pick, ?_⟩))))
       · refine RH.pv rfl (fun _ _ _ _ h => h) (Gh.le_refl _) PickC.pick rfl (PV.add rfl rfl rfl (by omega)) ?_
         refine RH.ot rfl rfl (OT.callF (vs := [_, _]) rfl En80 rfl (CallT.exC (src b cv) (next_s hcode (by omega) (fun w50 hw50 => ⟨Gh.le_refl _, PickC.pick, ?_⟩))))
         refine RH.pv rfl (fun _ _ _ _ h => h) (Gh.le_refl _) PickC.pick rfl (PV.add rfl rfl rfl (by omega)) ?_
         refine RH.pv rfl (fun _ _ _ _ h => h) (Gh.le_refl _) PickC.pick rfl (PV.field rfl Fo140_3 rfl) ?_
         refine RH.ot rfl rfl (OT.storeB (vs := [vi _]) (cs' := [_, _, _, _]) rfl Sz2 rfl rfl (Cl.c rfl) rfl (OneC.c rfl) rfl rfl ⟨Gh.le_refl _, PickC.pick, ?_⟩)
         refine RH.nil ?_
         exact ⟨rfl, (w34 - 5 + 1 + w50), ⟨by omega, by omega⟩, trivial, ⟨rfl, rfl, rfl, rfl, rfl, trivial⟩, Cv.p⟩
       · refine RH.ot rfl rfl (OT.pv (PV.load1 rfl Sc2 rfl (Rd.blk rfl)) ⟨Gh.le_refl _, PickC.pick, ?_⟩)
         refine RH.pv rfl (fun _ _ _ _ h => h) (Gh.le_refl _) PickC.pick rfl (PV.add rfl rfl rfl (by omega)) ?_
         refine RH.pv rfl (fun _ _ _ _ h => h) (Gh.le_refl _) PickC.pick rfl (PV.add rfl rfl rfl (by omega)) ?_
         refine RH.pv rfl (fun _ _ _ _ h => h) (Gh.le_refl _) PickC.pick rfl (PV.field rfl Fo140_3 rfl) ?_
         refine RH.ot rfl rfl (OT.storeB (vs := [vi _]) (cs' := [_, _, _, _]) rfl Sz2 rfl rfl (Cl.c rfl) rfl (OneC.c rfl) rfl rfl ⟨Gh.le_refl _, PickC.pick, ?_⟩)
         refine RH.nil ?_
         exact ⟨rfl, (w34 - 5 + 1 + w50), ⟨by omega, by omega⟩, trivial, ⟨rfl, rfl, rfl, rfl, rfl, trivial⟩, Cv.p⟩
     rintro y1 τ3 hy1
     refine WP.region (RG.pv rfl (PV.move (v := q) rfl rfl) (RG.ml rfl rfl rfl (RG.pv rfl (PV.loadW rfl Ag140 rfl rfl) (RG.pv rfl (PV.build (vs := [(0, [vi _]), (1, [vi _, vi _, vi _, vi _])]) (out := [_, _, _, _, _]) rfl Zr142 Pl142 ⟨rfl, (Cl.c rfl), ⟨rfl, (Cl.c rfl), trivial⟩⟩ rfl) ?_))))
     refine RG.ot rfl (OT.bslice (F := shapeT) (els := [⟨gd [0, 1, 2, 3, 3, 4, 5, (3 : Int)] w21.toNat, ⟨w31 - 5, w34 - 5, x1, y1⟩⟩]) rfl El83 rfl (by decide) rfl (by decide) ⟨rfl, (Cl.c rfl), trivial⟩ fun v57 => ?_)
     refine RG.ot rfl (OT.append (v := q) (u := v57) (F := shapeT) rfl El83 rfl (by decide) rfl rfl Rs.o (OneL.c (fun _ => rfl)) rfl (by first | omega | (simp <;> omega)) fun v58 => ?_)
     refine RG.pv rfl (PV.asg (v := v58) rfl rfl) (RG.nil (WP.region (RG.ml rfl rfl rfl (RG.pv rfl (PV.sub rfl rfl rfl (by omega)) (RG.mr rfl rfl rfl (RG.nil ?_))))))
     exact ⟨rfl, c - 1, (ss ++ [⟨gd [0, 1, 2, 3, 3, 4, 5, (3 : Int)] w21.toNat, ⟨w31 - 5, w34 - 5, x1, y1⟩⟩]), v58, ⟨by omega, by omega, by rw [List.length_append]; simp; omega⟩, ⟨rfl, rfl, trivial⟩, ⟨rfl, trivial⟩, Cv.p, by omega⟩
 · refine WP.exit ?_
   refine WP.seq (WP.region (RG.pv rfl (PV.move (v := q) rfl rfl) (RG.pv rfl (PV.asg (v := q) rfl rfl) (RG.nil ?_))))
   refine WP.ret ?_
   exact ⟨_, _, ResV.one rfl rfl, Cv.p, k q ss (by omega)⟩
theorem dInst_s {b : Nat} {cv : Value} {bs : List UInt8} {n : Int} (hcode : SL G byteT cv bs) (hn : 0 ≤ n ∧ n ≤ 100) (k : ∀ i : Inst, R (vT instT i) G (src b cv :: L)) : CallT Tryz.prog 130 #[.pointer (some ⟨b, 0, none⟩), vi n] G (src b cv :: L) R := by
 refine CallT.enter (args := _) Tryz.func130 rfl rfl (by kernel_rfl) rfl ?_
 refine WP.seq (WP.region ?_)
 refine RG.ot rfl (OT.alloc rfl Zr195 fun b4 => ?_)
 refine RG.nil (WP.seq (WP.region (RG.pv rfl (PV.move rfl rfl) (RG.ml rfl rfl rfl ?_))))
 refine RG.callF (vs := [_, _]) rfl rfl En80 rfl (CallT.exC (src b cv) (next_s hcode (by omega) (fun w8 hw8 => ?_)))
 refine RG.pv rfl (PV.build (vs := [(0, [vi _]), (2, [vi _]), (3, [vi _])]) (out := [_, _, _, _, _, _, _, _]) rfl Zr195 Pl195 ⟨rfl, (Cl.c rfl), ⟨rfl, (Cl.c rfl), ⟨rfl, (Cl.c rfl), trivial⟩⟩⟩ rfl) ?_
 refine RG.ot rfl (OT.alloc rfl Zr195 fun b5 => ?_)
 refine RG.ot rfl (OT.storeW (vs := [vi _, vi _, vi _, vi _, vi _, vi _, vi _, vi _]) rfl Sz195 rfl rfl (Cl.c rfl) rfl rfl (OneC.c rfl) ?_)
 refine RG.nil (WP.seq (WP.region (RG.pv rfl (PV.move rfl rfl) ?_)))
 refine RG.callF (vs := [_, _]) rfl rfl En80 rfl (CallT.exC (src b cv) (next_s hcode (by omega) (fun w11 hw11 => ?_)))
 refine RG.pv rfl (PV.move rfl rfl) ?_
 refine RG.callF (vs := [_, _]) rfl rfl En80 rfl (CallT.exC (src b cv) (next_s hcode (by omega) (fun w13 hw13 => ?_)))
 refine RG.pv rfl (PV.sub rfl rfl rfl (by omega)) (RG.pv rfl (PV.move rfl rfl) ?_)
 refine RG.callF (vs := [_, _]) rfl rfl En80 rfl (CallT.exC (src b cv) (next_s hcode (by omega) (fun w16 hw16 => ?_)))
 refine RG.pv rfl (PV.sub rfl rfl rfl (by omega)) (RG.pv rfl (PV.build (vs := [(0, [vi _]), (1, [vi _]), (2, [vi _])]) (out := [_, _, _]) rfl Zr136 Pl136 ⟨rfl, (Cl.c rfl), ⟨rfl, (Cl.c rfl), ⟨rfl, (Cl.c rfl), trivial⟩⟩⟩ rfl) (RG.pv rfl (PV.field rfl Fo195_1 rfl) ?_))
 refine RG.ot rfl (OT.storeB (vs := [vi _, vi _, vi _]) (cs' := [_, _, _, _, _, _, _, _]) rfl Sz136 rfl rfl (Cl.c rfl) rfl (OneC.c rfl) rfl rfl ?_)
 refine RG.nil ?_
 refine WP.cut1 [0, 4, 5] (fun (x : Inst) => True) (fun (x : Inst) => []) (fun (x : Inst) => blk b5 195 (instT.enc x) :: src b cv :: blk b4 195 [vi 0, vi 0, vi 0, vi 0, vi 0, vi 0, vi 0, vi 0] :: L) ?_ ?_
 refine WP.seq (WP.region (RG.pv rfl (PV.move rfl rfl) ?_))
 refine RG.callF (vs := [_, _]) rfl rfl En80 rfl (CallT.exC (src b cv) (next_s hcode (by omega) (fun w21 hw21 => ?_)))
 refine RG.pv rfl (PV.eql rfl rfl rfl) (RG.nil ?_)
 · refine WP.cond rfl (fun h2 => ?_) (fun h2 => ?_)
   · refine WP.seq ?_
     refine WP.region (RG.pv rfl (PV.field rfl Fo195_2 rfl) ?_)
     refine RG.ot rfl (OT.storeB (vs := [vi _]) (cs' := [_, _, _, _, _, _, _, _]) rfl Sz2 rfl rfl (Cl.c rfl) rfl (OneC.c rfl) rfl rfl ?_)
     refine RG.nil (WP.region (RG.pv rfl (PV.move rfl rfl) ?_))
     refine RG.callF (vs := [_, _]) rfl rfl En80 rfl (CallT.exC (src b cv) (next_s hcode (by omega) (fun w25 hw25 => ?_)))
     refine RG.pv rfl (PV.sub rfl rfl rfl (by omega)) (RG.pv rfl (PV.field rfl Fo195_4 rfl) ?_)
     refine RG.ot rfl (OT.storeB (vs := [vi _]) (cs' := [_, _, _, _, _, _, _, _]) rfl Sz2 rfl rfl (Cl.c rfl) rfl (OneC.c rfl) rfl rfl ?_)
     refine RG.nil ?_
     exact ⟨rfl, ⟨w8, ⟨w11, w13 - 8, w16 - 8⟩, 2, 1, w25 - 2, 0⟩, trivial, trivial, ⟨rfl, rfl, rfl, trivial⟩, Cv.p⟩
   · refine WP.skip ?_
     exact ⟨rfl, ⟨w8, ⟨w11, w13 - 8, w16 - 8⟩, 1, 1, 0, 0⟩, trivial, trivial, ⟨rfl, rfl, rfl, trivial⟩, Cv.p⟩
 rintro x τ1 _
 refine WP.cut1 [4, 5] (fun (x : Inst) => True) (fun (x : Inst) => []) (fun (x : Inst) => blk b5 195 (instT.enc x) :: src b cv :: blk b4 195 [vi 0, vi 0, vi 0, vi 0, vi 0, vi 0, vi 0, vi 0] :: L) ?_ ?_
 refine WP.seq (WP.region (RG.pv rfl (PV.move rfl rfl) ?_))
 refine RG.callF (vs := [_, _]) rfl rfl En80 rfl (CallT.exC (src b cv) (next_s hcode (by omega) (fun w29 hw29 => ?_)))
 refine RG.pv rfl (PV.eql rfl rfl rfl) (RG.nil ?_)
 · refine WP.cond rfl (fun h3 => ?_) (fun h3 => ?_)
   · refine WP.seq ?_
     refine WP.region (RG.pv rfl (PV.field rfl Fo195_3 rfl) ?_)
     refine RG.ot rfl (OT.storeB (vs := [vi _]) (cs' := [_, _, _, _, _, _, _, _]) rfl Sz2 rfl rfl (Cl.c rfl) rfl (OneC.c rfl) rfl rfl ?_)
     refine RG.nil (WP.region (RG.pv rfl (PV.move rfl rfl) ?_))
     refine RG.callF (vs := [_, _]) rfl rfl En80 rfl (CallT.exC (src b cv) (next_s hcode (by omega) (fun w33 hw33 => ?_)))
     refine RG.pv rfl (PV.add rfl rfl rfl (by omega)) (RG.pv rfl (PV.field rfl Fo195_5 rfl) ?_)
     refine RG.ot rfl (OT.storeB (vs := [vi _]) (cs' := [_, _, _, _, _, _, _, _]) rfl Sz2 rfl rfl (Cl.c rfl) rfl (OneC.c rfl) rfl rfl ?_)
     refine RG.nil ?_
     exact ⟨rfl, ⟨x.cell, x.place, x.cols, 2, x.sx, 3 + w33⟩, trivial, trivial, ⟨rfl, rfl, trivial⟩, Cv.p⟩
   · refine WP.skip ?_
     exact ⟨rfl, x, trivial, trivial, ⟨rfl, rfl, trivial⟩, Cv.p⟩
 rintro x τ2 _
 refine WP.seq (WP.region (RG.pv rfl (PV.loadW rfl Ag195 rfl rfl) ?_))
 refine RG.ot rfl (OT.storeW (vs := [vi _, vi _, vi _, vi _, vi _, vi _, vi _, vi _]) rfl Sz195 rfl rfl (Cl.c rfl) rfl rfl (OneC.c rfl) ?_)
 refine RG.nil ?_
 refine WP.ret ?_
 exact ⟨_, _, ResV.one rfl (RV1.cell rfl Ag195 rfl), Cv.p, k _⟩
abbrev nmW : List ByteArray := [ByteArray.mk #[119, 105, 114, 101], ByteArray.mk #[112, 97, 105, 114], ByteArray.mk #[116, 111, 112]]
/-- drawn cells: short names, no labels, few shapes -/
def CellOk (c : Cell) : Prop := c.name.size ≤ 9 ∧ c.labels.xs = [] ∧ c.shapes.xs.length ≤ 101
def CellsOk (xs : List Cell) : Prop := ∀ i, i < xs.length → CellOk (gd xs i)
theorem CellsOk.app {xs : List Cell} {c : Cell} (h : CellsOk xs) (hc : CellOk c) : CellsOk (xs ++ [c]) := fun i hi => by
 have hi : i < xs.length + 1 := by simpa using hi
 by_cases e : i = xs.length
 · subst e; rw [gd_app_r]; exact hc
 · rw [gd_app_l (by omega)]; exact h i (by omega)
/-- .. without the bound of the shapes -/
def CellsL (xs : List Cell) : Prop := ∀ i, i < xs.length → (gd xs i).name.size ≤ 9 ∧ (gd xs i).labels.xs = []
theorem CellsOk.l {xs : List Cell} (h : CellsOk xs) : CellsL xs := fun i hi => ⟨(h i hi).1, (h i hi).2.1⟩
theorem CellsL.set {xs : List Cell} {c : Cell} {i : Nat} (h : CellsL xs) (hc : c.name.size ≤ 9 ∧ c.labels.xs = []) : CellsL (xs.set i c) := fun j hj => by
 have hj2 : j < xs.length := by simpa using hj
 by_cases e : j = i
 · subst e
   have e2 : gd (xs.set j c) j = c := by simp [gd, List.getElem?_set, hj2]
   rw [e2]; exact hc
 · have := h j hj2
   simpa [gd, List.getElem?_set, Ne.symm e] using this
theorem CellsL.lenC {xs : List Cell} (h : CellsL xs) : Go.Proofs.YthhjapiggekjbaaGreat.lenC (erCls xs) := fun i hi => by
 have hi : i < xs.length := by rwa [erCls_len] at hi
 have e : gd (erCls xs) i = erCl (gd xs i) := by rw [erCls, gd_map _ hi]
 obtain ⟨h1, h2⟩ := h i hi
 rw [e]
 refine ⟨by simp only [erCl]; omega, ?_⟩
 simp only [erCl, h2]
 intro j hj; simp at hj
theorem nmW_ok {i : Nat} (h : i < 3) : (gd nmW i).size ≤ 9 := by
 have key : ∀ b ∈ nmW, b.size ≤ 9 := by decide
 exact key _ (gd_mem h)
theorem Cv.cellNew {xs : List Cell} {q a1 a2 : Value} {nm : ByteArray} {s1 : List Shape} {s2 : List Inst} {e0 e1 e2 e3 : TypeId} : Cv (osl e1 shapeT a1 s1 :: osl e3 instT a2 s2 :: osl e0 cellT q (xs ++ [⟨nm, ⟨a1, s1⟩, ⟨.slice none 0 0, []⟩, ⟨a2, s2⟩⟩]) :: bagS e1 shapeT (shs xs) :: bagS e2 labelT (lbs xs) :: bagS e3 instT (ins xs) :: L)
   (osl e0 cellT q (xs ++ [⟨nm, ⟨a1, s1⟩, ⟨.slice none 0 0, []⟩, ⟨a2, s2⟩⟩]) :: bagS e1 shapeT (shs (xs ++ [⟨nm, ⟨a1, s1⟩, ⟨.slice none 0 0, []⟩, ⟨a2, s2⟩⟩])) :: bagS e2 labelT (lbs (xs ++ [⟨nm, ⟨a1, s1⟩, ⟨.slice none 0 0, []⟩, ⟨a2, s2⟩⟩])) :: bagS e3 instT (ins (xs ++ [⟨nm, ⟨a1, s1⟩, ⟨.slice none 0 0, []⟩, ⟨a2, s2⟩⟩])) :: L) := by
 have h := Cv.grow3 (e1 := e1) (e2 := e2) (e3 := e3) (F1 := shapeT) (F2 := labelT) (F3 := instT) (u1 := a1) (us1 := s1) (u2 := .slice none 0 0) (us2 := []) (u3 := a2) (us3 := s2) (y1 := shs xs) (y2 := lbs xs) (y3 := ins xs) (L := L)
   (y1' := shs (xs ++ [⟨nm, ⟨a1, s1⟩, ⟨.slice none 0 0, []⟩, ⟨a2, s2⟩⟩])) (y2' := lbs (xs ++ [⟨nm, ⟨a1, s1⟩, ⟨.slice none 0 0, []⟩, ⟨a2, s2⟩⟩])) (y3' := ins (xs ++ [⟨nm, ⟨a1, s1⟩, ⟨.slice none 0 0, []⟩, ⟨a2, s2⟩⟩])) (by simp [shs]) (by simp [lbs]) (by simp [ins])
 refine (Cv.p (C := osl e0 cellT q (xs ++ [⟨nm, ⟨a1, s1⟩, ⟨.slice none 0 0, []⟩, ⟨a2, s2⟩⟩]) :: osl e1 shapeT a1 s1 :: osl e3 instT a2 s2 :: bagS e1 shapeT (shs xs) :: bagS e2 labelT (lbs xs) :: bagS e3 instT (ins xs) :: L)).trans (Cv.cons ?_)
 refine Cv.trans ?_ h
 exact (Cv.nilS (e := e2) (F := labelT)).trans Cv.p
theorem map_set_same {α β : Type} [Inhabited α] {f : α → β} {xs : List α} {i : Nat} {c : α} (hi : i < xs.length) (h : f c = f (gd xs i)) : (xs.set i c).map f = xs.map f := by
 rw [List.map_set, h]
 apply List.ext_getElem?
 intro j
 rw [List.getElem?_set]
 by_cases e : i = j
 · subst e; simp [gd, hi]
 · simp [e]
theorem flat_set_same {α : Type} [Inhabited α] {F : FT α} {xs : List α} {i : Nat} {c : α} (hi : i < xs.length) (h : F.enc c = F.enc (gd xs i)) : F.flat (xs.set i c) = F.flat xs := by
 have e : ∀ zs : List α, F.flat zs = (zs.map F.enc).flatten := fun zs => by rw [FT.flat, List.flatMap_def]
 rw [e, e, map_set_same hi h]
theorem osl_set_same {α : Type} [Inhabited α] {F : FT α} {e : TypeId} {v : Value} {xs : List α} {i : Nat} {c : α} (hi : i < xs.length) (h : F.enc c = F.enc (gd xs i)) : osl e F v (xs.set i c) = osl e F v xs := by
 funext hp
 have h1 : xs ≠ [] := fun h => by rw [h] at hi; simp at hi
 simp only [osl, List.length_set, flat_set_same hi h, List.set_eq_nil_iff, h1]
theorem Cv.slotC {e e' : TypeId} {v : Value} {zs : List Cell} {ys : List Inst} {L : List Ch} (i : Nat) (hi : i < zs.length) :
   Cv (osl e instT (gd zs i).insts.v ys :: bag (((ins zs).map (ownS e instT)).set i emp) :: osl e' cellT v zs :: L) (bagS e instT (ins (zs.set i ⟨(gd zs i).name, (gd zs i).shapes, (gd zs i).labels, ⟨(gd zs i).insts.v, ys⟩⟩)) :: osl e' cellT v (zs.set i ⟨(gd zs i).name, (gd zs i).shapes, (gd zs i).labels, ⟨(gd zs i).insts.v, ys⟩⟩) :: L) := by
 refine (Cv.bagS_put i (by simpa [ins] using hi)).trans (Cv.cast ?_)
 rw [osl_set_same (c := ⟨(gd zs i).name, (gd zs i).shapes, (gd zs i).labels, ⟨(gd zs i).insts.v, ys⟩⟩) hi rfl]
 congr 2
 rw [ins, ins, List.map_set]
theorem WP.isl {α : Type} {P : Program} {n : Nat} {c : Code} {Q : Post} {σ : Nat → Value} {G : Gh} {L L' : List Ch} {e : TypeId} {T : FT α} (v : Value) {xs : List α} [hx : ExS v L α e T xs L'] (k : IsSl v xs.length → WP P n c Q σ G L) : WP P n c Q σ G L :=
 WP.of fun hk a w ha hs => (k (SlF.o (hx := hx) w hs)).run hk ha hs
theorem dLib_s {b : Nat} {cv : Value} {bs : List UInt8} (hcode : SL G byteT cv bs) (k : ∀ v xs, CellsL xs → 2 ≤ xs.length → xs.length ≤ 3 → R (vT libT ⟨⟨v, xs⟩⟩) G (osl 116 cellT v (xs) :: bagS 142 shapeT (shs (xs)) :: bagS 193 labelT (lbs (xs)) :: bagS 195 instT (ins (xs)) :: src b cv :: L)) : CallT Tryz.prog 79 #[.pointer (some ⟨b, 0, none⟩)] G (src b cv :: L) R := by
 have hl3 : nmW.length = 3 := rfl
 refine CallT.enter (args := _) Tryz.func79 rfl rfl (by kernel_rfl) rfl ?_
 refine WP.seq (WP.region ?_)
 refine RG.ot rfl (OT.alloc rfl Zr31 fun b2 => ?_)
 refine RG.nil (WP.seq (WP.region (RG.pv rfl (PV.build (vs := []) (out := [_]) rfl Zr31 Pl31 trivial rfl) ?_)))
 refine RG.ot rfl (OT.alloc rfl Zr31 fun b3 => ?_)
 refine RG.ot rfl (OT.storeW (vs := [_]) rfl Sz31 rfl rfl (Cl.c rfl) rfl rfl (OneC.c rfl) ?_)
 refine RG.nil (WP.seq (WP.region ?_))
 refine RG.ot rfl (OT.bslice (F := strT) (els := [_, _, _]) rfl El203 rfl (by decide) rfl (by decide) ⟨rfl, (Cl.c rfl), ⟨rfl, (Cl.c rfl), ⟨rfl, (Cl.c rfl), trivial⟩⟩⟩ fun v10 => ?_)
 refine RG.pv rfl (PV.asg (v := v10) rfl rfl) (RG.nil (WP.seq (WP.region (RG.pv rfl (PV.move rfl rfl) ?_))))
 refine RG.callF (vs := [_, _]) rfl rfl En80 rfl (CallT.exC (src b cv) (next_s hcode (by omega) (fun w12 hw12 => ?_)))
 refine RG.pv rfl (PV.add rfl rfl rfl (by first | omega | (simp only [List.length_cons, List.length_nil]; omega))) (RG.mr rfl rfl rfl (RG.nil (WP.seq (WP.seq (WP.region (RG.mr rfl rfl rfl (RG.nil ?_)))))))
 refine WP.block ?_
 refine WP.cv (Cv.p (C := osl 9 strT v10 nmW :: blk b3 31 [.slice none 0 0] :: blk b2 31 [.slice none 0 0] :: src b cv :: L)) ?_
 refine WP.cv ((((Cv.bag0 (e := 195) (F := instT) (xs := ins []) rfl).trans ((Cv.bag0 (e := 193) (F := labelT) (xs := lbs []) rfl).trans ((Cv.bag0 (e := 142) (F := shapeT) (xs := shs []) rfl).trans (Cv.nilS (e := 116) (F := cellT))))))) ?_
 refine WP.loop3 [0, 2, 3, 4, 5] (fun (i : Int) (xs : List Cell) (q : Value) => 0 ≤ i ∧ i ≤ w12 + 2 ∧ xs.length = i.toNat ∧ CellsOk xs ∧ (1 < xs.length → 0 < (gd xs 1).insts.xs.length)) (fun (i : Int) (xs : List Cell) (q : Value) => [(6, vi i)]) (fun (i : Int) (xs : List Cell) (q : Value) => osl 116 cellT q (xs) :: bagS 142 shapeT (shs (xs)) :: bagS 193 labelT (lbs (xs)) :: bagS 195 instT (ins (xs)) :: osl 9 strT v10 nmW :: blk b3 31 [q] :: blk b2 31 [.slice none 0 0] :: src b cv :: L) (fun (i : Int) (xs : List Cell) (q : Value) => (w12 + 2 - i).toNat) 0 [] (.slice none 0 0) ⟨by omega, by omega, rfl, fun i hi => by simp at hi, fun h => by simp at h⟩ ⟨(by kernel_rfl), trivial⟩ Cv.p ?_
 rintro i xs q τ ⟨h0, h1, h2, h3, h4⟩
 refine WP.seq (WP.seq (WP.region (RG.ml rfl rfl rfl (RG.ml rfl rfl rfl (RG.pv rfl (PV.lss rfl rfl rfl) (RG.nil ?_))))))
 refine WP.cond rfl (fun h5 => ?_) (fun h5 => ?_)
 · have h5 := of_decide_eq_true h5
   have hi3 : i.toNat < 3 := by omega
   have hnm := nmW_ok hi3
   refine WP.skip (WP.seq (WP.block ?_))
   refine WP.cut4 [0, 2, 3, 4, 5, 6] (fun (b7 : Nat) (nm : ByteArray) (vs : Value) (ss : List Shape) => nm.size ≤ 9 ∧ ss.length ≤ 100) (fun (b7 : Nat) (nm : ByteArray) (vs : Value) (ss : List Shape) => [(7, .pointer (some ⟨b7, 0, none⟩))]) (fun (b7 : Nat) (nm : ByteArray) (vs : Value) (ss : List Shape) => blk b7 116 [.string nm, vs, .slice none 0 0, .slice none 0 0] :: osl 142 shapeT vs ss :: osl 116 cellT q (xs) :: bagS 142 shapeT (shs (xs)) :: bagS 193 labelT (lbs (xs)) :: bagS 195 instT (ins (xs)) :: osl 9 strT v10 nmW :: blk b3 31 [q] :: blk b2 31 [.slice none 0 0] :: src b cv :: L) ?_ ?_
   refine WP.regionH0 (.q 0 (.q 1 (.q 2 (.q 3 (.q 4 (.b 5 (.q 6 (.l 7 (.l 8 Sch.nil))) 7 (.l 5 (.q 6 (.l 8 Sch.nil))))))))) (by kernel_rfl) (by kernel_rfl) (by kernel_rfl) rfl ?_
   refine RH.pv rfl (fun _ _ _ _ h => h) (Gh.le_refl _) PickC.pick rfl (PV.move (v := v10) rfl rfl) ?_
   refine RH.pv rfl (fun _ _ _ _ h => h) (Gh.le_refl _) PickC.pick rfl (PV.mvI (.inl rfl) rfl) ?_
   refine RH.pv rfl (fun _ _ _ _ h => h) (Gh.le_refl _) PickC.pick rfl (PV.idxS (j := i.toNat) (v := v10) rfl Is203 rfl SlF.o rfl (by first | omega | (simp only [List.length_cons, List.length_nil]; omega)) (by first | omega | (simp only [List.length_cons, List.length_nil]; omega))) ?_
   refine RH.pv rfl (fun _ _ _ _ h => h) (Gh.le_refl _) PickC.pick rfl (PV.loadE1 rfl Sc9 rfl rfl (El.o (getG (by first | omega | (simp only [List.length_cons, List.length_nil]; omega)))) rfl) ?_
   refine RH.pv rfl (fun _ _ _ _ h => h) (Gh.le_refl _) PickC.pick rfl (PV.move rfl rfl) ?_
   · refine RH.ot2 rfl rfl rfl rfl  (OT.callF (vs := [_, _]) rfl En129 rfl (CallT.exC (src b cv) (dShapes_s hcode (by omega) (fun v24 ssv24 hsv24 => ⟨Gh.le_refl _, PickC.pick, ?_⟩)))) (OT.alloc rfl Zr116 fun b7 => ⟨Gh.le_refl _, PickC.pick, ?_⟩)
     · refine RH.up1 ?_
       refine RH.pv rfl (fun _ _ _ _ h => h) (Gh.le_refl _) PickC.pick rfl (PV.build (vs := [(0, [.string _]), (1, [v24])]) (out := [_, _, _, _]) rfl Zr116 Pl116 ⟨rfl, (Cl.c rfl), ⟨rfl, (Cl.s (v := v24) SlF.o), trivial⟩⟩ rfl) ?_
       refine RH.ot rfl rfl (OT.alloc rfl Zr116 fun b7 => ⟨Gh.le_refl _, PickC.pick, ?_⟩)
       refine RH.ot rfl rfl (OT.storeW (vs := [.string _, _, _, _]) rfl Sz116 rfl rfl (Cl.c rfl) rfl rfl (OneC.val rfl (OneC.sl (SlF.o (v := v24)) (OneC.val rfl (OneC.val rfl OneC.nil)))) ⟨Gh.le_refl _, PickC.pick, ?_⟩)
       refine RH.nil ?_
       exact ⟨rfl, b7, (gd nmW i.toNat), v24, ssv24, ⟨hnm, hsv24⟩, ⟨(by kernel_rfl), trivial⟩, ⟨(by kernel_rfl), (by kernel_rfl), (by kernel_rfl), (by kernel_rfl), (by kernel_rfl), (by kernel_rfl), trivial⟩, Cv.p⟩
     · refine RH.ot rfl rfl (OT.callF (vs := [_, _]) rfl En129 rfl (CallT.exC (src b cv) (dShapes_s hcode (by omega) (fun v24 ssv24 hsv24 => ⟨Gh.le_refl _, PickC.pick, ?_⟩))))
       refine RH.up1 ?_
       refine RH.pv rfl (fun _ _ _ _ h => h) (Gh.le_refl _) PickC.pick rfl (PV.build (vs := [(0, [.string _]), (1, [v24])]) (out := [_, _, _, _]) rfl Zr116 Pl116 ⟨rfl, (Cl.c rfl), ⟨rfl, (Cl.s (v := v24) SlF.o), trivial⟩⟩ rfl) ?_
       refine RH.ot rfl rfl (OT.storeW (vs := [.string _, _, _, _]) rfl Sz116 rfl rfl (Cl.c rfl) rfl rfl (OneC.val rfl (OneC.sl (SlF.o (v := v24)) (OneC.val rfl (OneC.val rfl OneC.nil)))) ⟨Gh.le_refl _, PickC.pick, ?_⟩)
       refine RH.nil ?_
       exact ⟨rfl, b7, (gd nmW i.toNat), v24, ssv24, ⟨hnm, hsv24⟩, ⟨(by kernel_rfl), trivial⟩, ⟨(by kernel_rfl), (by kernel_rfl), (by kernel_rfl), (by kernel_rfl), (by kernel_rfl), (by kernel_rfl), trivial⟩, Cv.p⟩
   rintro b7 nm vs ss τ1 ⟨hnm, hss⟩
   refine WP.seq (WP.seq (WP.region (RG.pv rfl (PV.move rfl rfl) (RG.ml rfl rfl rfl (RG.pv rfl (PV.add rfl rfl rfl (by first | omega | (simp only [List.length_cons, List.length_nil]; omega))) ?_)))))
   refine RG.callF (vs := [_, _]) rfl rfl En80 rfl (CallT.exC (src b cv) (next_s hcode (by omega) (fun w29 hw29 => ?_)))
   refine RG.mr rfl rfl rfl (RG.nil (WP.block ?_))
   refine WP.cv (Cv.nilS (e := 195) (F := instT)) ?_
   refine WP.loop3 [0, 2, 3, 4, 5, 6, 7] (fun (m : Int) (ns : List Inst) (u : Value) => -1 ≤ m ∧ (ns.length : Int) + m = w29) (fun (m : Int) (ns : List Inst) (u : Value) => [(8, vi m)]) (fun (m : Int) (ns : List Inst) (u : Value) => osl 195 instT u ns :: blk b7 116 [.string nm, vs, .slice none 0 0, u] :: osl 142 shapeT vs ss :: osl 116 cellT q (xs) :: bagS 142 shapeT (shs (xs)) :: bagS 193 labelT (lbs (xs)) :: bagS 195 instT (ins (xs)) :: osl 9 strT v10 nmW :: blk b3 31 [q] :: blk b2 31 [.slice none 0 0] :: src b cv :: L) (fun (m : Int) (ns : List Inst) (u : Value) => (m + 1).toNat) w29 [] (.slice none 0 0) ⟨by omega, by simp⟩ ⟨(by kernel_rfl), trivial⟩ Cv.p ?_
   rintro m ns u τ2 ⟨g0, g1⟩
   refine WP.seq (WP.seq (WP.region (RG.ml rfl rfl rfl (RG.pv rfl (PV.gtr rfl rfl rfl) (RG.bl rfl rfl rfl ?_)))))
   refine RG.gs rfl rfl rfl (fun hp => (PV.mvI (.inl rfl) rfl)) ?_
   refine RG.gs rfl rfl rfl (fun hp => (PV.geq rfl (gs_t hp) rfl)) ?_
   refine RG.pv rfl (PV.pickA rfl rfl (fun hq => gs_t (geqT hq)) rfl) (RG.nil ?_)
   refine WP.cond rfl (fun h6 => ?_) (fun h6 => ?_)
   · have h6 : 0 < i ∧ 0 ≤ m := by simp at h6; omega
     refine WP.skip ?_
     refine WP.cut2 [0, 2, 3, 4, 5, 6, 7, 8] (fun (u2 : Value) (x : Inst) => True) (fun (u2 : Value) (x : Inst) => []) (fun (u2 : Value) (x : Inst) => osl 195 instT u2 (ns ++ [x]) :: blk b7 116 [.string nm, vs, .slice none 0 0, u2] :: osl 142 shapeT vs ss :: osl 116 cellT q (xs) :: bagS 142 shapeT (shs (xs)) :: bagS 193 labelT (lbs (xs)) :: bagS 195 instT (ins (xs)) :: osl 9 strT v10 nmW :: blk b3 31 [q] :: blk b2 31 [.slice none 0 0] :: src b cv :: L) ?_ ?_
     refine WP.block ?_
     refine WP.regionHD [.s u, .b b7] (.q 0 (.q 2 (.q 3 (.b 1 (.l 4 (.l 5 (.l 6 (.q 7 (.l 8 Sch.nil))))) 4 (.b 1 (.l 5 (.l 6 (.q 7 (.l 8 Sch.nil)))) 5 (.l 1 (.l 6 (.q 7 (.l 8 Sch.nil))))))))) (by kernel_rfl) (by kernel_rfl) (by kernel_rfl) rfl ?_
     refine RH.pv rfl (fun _ _ _ _ h => h) (Gh.le_refl _) PickC.pick rfl (PV.field rfl Fo116_3 rfl) ?_
     refine RH.pv rfl (fun _ _ _ _ h => h) (Gh.le_refl _) PickC.pick rfl (PV.move rfl rfl) ?_
     refine RH.pv rfl (fun _ _ _ _ h => h) (Gh.le_refl _) PickC.pick rfl (PV.mvI (.inl rfl) rfl) ?_
     · refine RH.ot2 rfl rfl rfl rfl  (OT.pv (PV.load1 rfl Sc114 rfl (Rd.blk rfl)) ⟨Gh.le_refl _, PickC.pick, ?_⟩) (OT.callF (vs := [_, _]) rfl En130 rfl (CallT.exC (src b cv) (dInst_s hcode (by omega) (fun xw42 => ⟨Gh.le_refl _, PickC.pick, ?_⟩))))
       · refine RH.ot rfl rfl (OT.callF (vs := [_, _]) rfl En130 rfl (CallT.exC (src b cv) (dInst_s hcode (by omega) (fun xw42 => ⟨Gh.le_refl _, PickC.pick, ?_⟩))))
         refine RH.ot rfl rfl (OT.bslice (F := instT) (els := [_]) rfl El114 rfl (by decide) rfl (by decide) ⟨rfl, (Cl.c rfl), trivial⟩ fun v43 => ⟨Gh.le_refl _, PickC.pick, ?_⟩)
         refine RH.ot rfl rfl (OT.append (v := u) (u := v43) (F := instT) rfl El114 rfl (by decide) rfl rfl Rs.o (OneL.c (fun _ => rfl)) rfl (by first | omega | (simp <;> omega)) fun v44 => ⟨Gh.le_refl _, PickC.pick, ?_⟩)
         refine RH.pv rfl (fun _ _ _ _ h => h) (Gh.le_refl _) PickC.pick rfl (PV.field rfl Fo116_3 rfl) ?_
         refine RH.ot rfl rfl (OT.storeB (v := v44) (vs := [_]) (cs' := [_, _, _, _]) rfl Sz114 rfl rfl (Cl.s (v := v44) SlF.o) rfl (OneC.sl SlF.o OneC.nil) rfl rfl ⟨Gh.le_refl _, PickC.pick, ?_⟩)
         refine RH.nil ?_
         exact ⟨rfl, v44, xw42, trivial, trivial, ⟨(by kernel_rfl), (by kernel_rfl), (by kernel_rfl), (by kernel_rfl), (by kernel_rfl), (by kernel_rfl), (by kernel_rfl), (by kernel_rfl), trivial⟩, Cv.p⟩
       · refine RH.ot2 rfl rfl rfl rfl  (OT.pv (PV.load1 rfl Sc114 rfl (Rd.blk rfl)) ⟨Gh.le_refl _, PickC.pick, ?_⟩) (OT.bslice (F := instT) (els := [_]) rfl El114 rfl (by decide) rfl (by decide) ⟨rfl, (Cl.c rfl), trivial⟩ fun v43 => ⟨Gh.le_refl _, PickC.pick, ?_⟩)
         · refine RH.ot rfl rfl (OT.bslice (F := instT) (els := [_]) rfl El114 rfl (by decide) rfl (by decide) ⟨rfl, (Cl.c rfl), trivial⟩ fun v43 => ⟨Gh.le_refl _, PickC.pick, ?_⟩)
           refine RH.ot rfl rfl (OT.append (v := u) (u := v43) (F := instT) rfl El114 rfl (by decide) rfl rfl Rs.o (OneL.c (fun _ => rfl)) rfl (by first | omega | (simp <;> omega)) fun v44 => ⟨Gh.le_refl _, PickC.pick, ?_⟩)
           refine RH.pv rfl (fun _ _ _ _ h => h) (Gh.le_refl _) PickC.pick rfl (PV.field rfl Fo116_3 rfl) ?_
           refine RH.ot rfl rfl (OT.storeB (v := v44) (vs := [_]) (cs' := [_, _, _, _]) rfl Sz114 rfl rfl (Cl.s (v := v44) SlF.o) rfl (OneC.sl SlF.o OneC.nil) rfl rfl ⟨Gh.le_refl _, PickC.pick, ?_⟩)
           refine RH.nil ?_
           exact ⟨rfl, v44, xw42, trivial, trivial, ⟨(by kernel_rfl), (by kernel_rfl), (by kernel_rfl), (by kernel_rfl), (by kernel_rfl), (by kernel_rfl), (by kernel_rfl), (by kernel_rfl), trivial⟩, Cv.p⟩
         · refine RH.ot rfl rfl (OT.pv (PV.load1 rfl Sc114 rfl (Rd.blk rfl)) ⟨Gh.le_refl _, PickC.pick, ?_⟩)
           refine RH.ot rfl rfl (OT.append (v := u) (u := v43) (F := instT) rfl El114 rfl (by decide) rfl rfl Rs.o (OneL.c (fun _ => rfl)) rfl (by first | omega | (simp <;> omega)) fun v44 => ⟨Gh.le_refl _, PickC.pick, ?_⟩)
           refine RH.pv rfl (fun _ _ _ _ h => h) (Gh.le_refl _) PickC.pick rfl (PV.field rfl Fo116_3 rfl) ?_
           refine RH.ot rfl rfl (OT.storeB (v := v44) (vs := [_]) (cs' := [_, _, _, _]) rfl Sz114 rfl rfl (Cl.s (v := v44) SlF.o) rfl (OneC.sl SlF.o OneC.nil) rfl rfl ⟨Gh.le_refl _, PickC.pick, ?_⟩)
           refine RH.nil ?_
           exact ⟨rfl, v44, xw42, trivial, trivial, ⟨(by kernel_rfl), (by kernel_rfl), (by kernel_rfl), (by kernel_rfl), (by kernel_rfl), (by kernel_rfl), (by kernel_rfl), (by kernel_rfl), trivial⟩, Cv.p⟩
     rintro u2 x τ3 _
     refine WP.region (RG.ml rfl rfl rfl (RG.pv rfl (PV.sub rfl rfl rfl (by first | omega | (simp only [List.length_cons, List.length_nil]; omega))) (RG.mr rfl rfl rfl (RG.nil ?_))))
     exact ⟨rfl, m - 1, (ns ++ [x]), u2, ⟨by omega, by rw [List.length_append]; simp; omega⟩, ⟨(by kernel_rfl), trivial⟩, ⟨(by kernel_rfl), (by kernel_rfl), (by kernel_rfl), (by kernel_rfl), (by kernel_rfl), (by kernel_rfl), (by kernel_rfl), trivial⟩, Cv.p, by omega⟩
   · have h6 : ¬ (0 < i ∧ 0 ≤ m) := by simp at h6; omega
     refine WP.exit ?_
     refine WP.region (RG.pv rfl (PV.field rfl Fo31_0 rfl) (RG.pv rfl (PV.load1 rfl Sc29 rfl (Rd.blk rfl)) (RG.pv rfl (PV.loadW rfl Ag116 rfl rfl) ?_)))
     refine RG.ot rfl (OT.bslice (F := cellT) (els := [⟨nm, ⟨vs, ss⟩, ⟨.slice none 0 0, []⟩, ⟨u, ns⟩⟩]) rfl El29 rfl (by decide) rfl (by decide) ⟨rfl, (Cl.c rfl), trivial⟩ fun v49 => ?_)
     refine RG.ot rfl (OT.append (v := q) (u := v49) (F := cellT) rfl El29 rfl (by decide) rfl rfl Rs.o (OneL.one (OneC.val rfl (OneC.sl (SlF.o (v := vs)) (OneC.val rfl (OneC.sl (SlF.o (v := u)) OneC.nil))))) rfl (by first | omega | (simp <;> omega)) fun v50 => ?_)
     refine RG.pv rfl (PV.field rfl Fo31_0 rfl) ?_
     refine RG.ot rfl (OT.storeB (v := v50) (vs := [_]) (cs' := [_]) rfl Sz29 rfl rfl (Cl.s (v := v50) SlF.o) rfl (OneC.sl SlF.o OneC.nil) rfl rfl ?_)
     refine RG.nil (WP.region (RG.ml rfl rfl rfl (RG.pv rfl (PV.add rfl rfl rfl (by first | omega | (simp only [List.length_cons, List.length_nil]; omega))) (RG.mr rfl rfl rfl (RG.nil ?_)))))
     refine ⟨rfl, i + 1, (xs ++ [⟨nm, ⟨vs, ss⟩, ⟨.slice none 0 0, []⟩, ⟨u, ns⟩⟩]), v50, ⟨by omega, by omega, by rw [List.length_append]; simp; omega, h3.app ⟨hnm, rfl, by simp only; omega⟩, fun hx => ?_⟩, ⟨(by kernel_rfl), trivial⟩, ⟨(by kernel_rfl), (by kernel_rfl), (by kernel_rfl), (by kernel_rfl), (by kernel_rfl), trivial⟩, ((Cv.p (C := osl 142 shapeT vs ss :: osl 195 instT u ns :: osl 116 cellT v50 (xs ++ [⟨nm, ⟨vs, ss⟩, ⟨.slice none 0 0, []⟩, ⟨u, ns⟩⟩]) :: bagS 142 shapeT (shs xs) :: bagS 193 labelT (lbs xs) :: bagS 195 instT (ins xs) :: osl 9 strT v10 nmW :: blk b3 31 [v50] :: blk b2 31 [.slice none 0 0] :: src b cv :: L)).trans Cv.cellNew), by omega⟩
     by_cases c : 1 < xs.length
     · rw [gd_app_l c]; exact h4 c
     · have hx : 1 < xs.length + 1 := by simpa using hx
       have e1 : xs.length = 1 := by omega
       have e2 := gd_app_r (xs := xs) (a := ⟨nm, ⟨vs, ss⟩, ⟨.slice none 0 0, []⟩, ⟨u, ns⟩⟩)
       rw [e1] at e2
       rw [e2]
       simp only
       omega
 · have hi2 : i = w12 + 2 := by have := of_decide_eq_false h5; omega
   have hx2 : 2 ≤ xs.length ∧ xs.length ≤ 3 := by omega
   refine WP.exit ?_
   refine WP.cut1 [2, 3] (fun (ys : List Cell) => CellsL ys ∧ 2 ≤ ys.length ∧ ys.length ≤ 3) (fun (ys : List Cell) => []) (fun (ys : List Cell) => osl 116 cellT q (ys) :: bagS 142 shapeT (shs (ys)) :: bagS 193 labelT (lbs (ys)) :: bagS 195 instT (ins (ys)) :: blk b3 31 [q] :: blk b2 31 [.slice none 0 0] :: src b cv :: L) ?_ ?_
   refine WP.seq (WP.region (RG.pv rfl (PV.move rfl rfl) ?_))
   refine RG.callF (vs := [_, _]) rfl rfl En80 rfl (CallT.exC (src b cv) (next_s hcode (by omega) (fun w53 hw53 => ?_)))
   refine RG.nil (WP.block (WP.seq (WP.region (RG.pv rfl (PV.eql rfl rfl rfl) (RG.br rfl rfl rfl (RG.nil ?_))))))
   · refine WP.cond rfl (fun h6 => ?_) (fun h6 => ?_)
     · skip
       refine WP.region (RG.pv rfl (PV.field rfl Fo31_0 rfl) (RG.pv rfl (PV.load1 rfl Sc29 rfl (Rd.blk rfl)) (RG.pv rfl (PV.idxS (j := 0) (v := q) rfl Is29 rfl SlF.o rfl (by first | omega | (simp only [List.length_cons, List.length_nil]; omega)) (by first | omega | (simp only [List.length_cons, List.length_nil]; omega))) (RG.pv rfl (PV.field rfl Fo116_0 rfl) ?_))))
       refine RG.ot rfl (OT.storeF (F := cellT) (val := Value.string) (cv := fun u => [.string u]) (st := Cell.s0) rfl Sz9 rfl rfl rfl (Cl.c rfl) rfl (OneC.c rfl) (by exact set_self (by omega)) (by first | omega | (simp; omega)) rfl (fun _ _ => rfl) ?_)
       refine RG.nil ?_
       have hc0 := h3 0 (by omega)
       have hcl : (Cell.s0 (ByteArray.mk #[84, 111, 112]) (gd xs 0)).name.size ≤ 9 ∧ (Cell.s0 (ByteArray.mk #[84, 111, 112]) (gd xs 0)).labels.xs = [] := ⟨by simp only [Cell.s0]; decide, hc0.2.1⟩
       exact ⟨rfl, (xs.set 0 (Cell.s0 (ByteArray.mk #[84, 111, 112]) (gd xs 0))), ⟨h3.l.set hcl, by simpa using hx2.1, by simpa using hx2.2⟩, trivial, ⟨(by kernel_rfl), (by kernel_rfl), trivial⟩, ((Cv.p (C := osl 116 cellT q (xs.set 0 (Cell.s0 (ByteArray.mk #[84, 111, 112]) (gd xs 0))) :: bagS 142 shapeT (shs xs) :: bagS 193 labelT (lbs xs) :: bagS 195 instT (ins xs) :: blk b3 31 [q] :: blk b2 31 [.slice none 0 0] :: src b cv :: L)).trans (Cv.cast (by rw [shs, lbs, ins, shs, lbs, ins, map_set_same (f := Cell.shapes) (i := 0) (c := Cell.s0 (ByteArray.mk #[84, 111, 112]) (gd xs 0)) (by omega) rfl, map_set_same (f := Cell.labels) (i := 0) (c := Cell.s0 (ByteArray.mk #[84, 111, 112]) (gd xs 0)) (by omega) rfl, map_set_same (f := Cell.insts) (i := 0) (c := Cell.s0 (ByteArray.mk #[84, 111, 112]) (gd xs 0)) (by omega) rfl])))⟩
     · refine WP.seq ?_
       refine WP.region (RG.pv rfl (PV.eql rfl rfl rfl) (RG.br rfl rfl rfl (RG.nil ?_)))
       refine WP.cond rfl (fun h7 => ?_) (fun h7 => ?_)
       · have h41 := h4 (by omega)
         have hil : (ins xs).length = xs.length := by simp [ins]
         have hi1 : gd (ins xs) 1 = (gd xs 1).insts := by rw [ins, gd_map _ (by omega)]
         refine WP.cv ((Cv.p (C := bagS 195 instT (ins xs) :: osl 116 cellT q xs :: bagS 142 shapeT (shs xs) :: bagS 193 labelT (lbs xs) :: blk b3 31 [q] :: blk b2 31 [.slice none 0 0] :: src b cv :: L)).trans ((Cv.bagS_take 1 (by omega)).trans (Cv.cast (by rw [hi1])))) ?_
         refine WP.region (RG.pv rfl (PV.field rfl Fo31_0 rfl) (RG.pv rfl (PV.load1 rfl Sc29 rfl (Rd.blk rfl)) (RG.pv rfl (PV.idxS (j := 1) (v := q) rfl Is29 rfl SlF.o rfl (by first | omega | (simp only [List.length_cons, List.length_nil]; omega)) (by first | omega | (simp only [List.length_cons, List.length_nil]; omega))) (RG.pv rfl (PV.field rfl Fo116_3 rfl) (RG.pv rfl (PV.loadF (F := cellT) (v := q) (i := 1) (j := 3) rfl Sc114 rfl rfl (El.o (getG (by omega))) rfl) (RG.pv rfl (PV.idxS (j := 0) (v := (gd xs 1).insts.v) rfl Is114 rfl SlF.o rfl (by first | omega | (simp only [List.length_cons, List.length_nil]; omega)) (by first | omega | (simp only [List.length_cons, List.length_nil]; omega))) (RG.pv rfl (PV.field rfl Fo195_1 rfl) ?_)))))))
         refine RG.pv rfl (PV.field rfl Fo136_1 rfl) ?_
         refine RG.ot rfl (OT.storeF (F := instT) (val := vi) (cv := fun u => [vi u]) (j := 2) (st := Inst.s1_1) rfl Sz2 rfl rfl rfl (Cl.c rfl) rfl (OneC.c rfl) (by exact set_self (by omega)) (by first | omega | (simp; omega)) rfl (fun _ _ => rfl) ?_)
         refine RG.nil ?_
         have hc1 := h3 1 (by omega)
         have e1 : shs (xs.set 1 ⟨(gd xs 1).name, (gd xs 1).shapes, (gd xs 1).labels, ⟨(gd xs 1).insts.v, (gd xs 1).insts.xs.set 0 (Inst.s1_1 60 (gd (gd xs 1).insts.xs 0))⟩⟩) = shs xs := map_set_same (by omega) rfl
         have e2 : lbs (xs.set 1 ⟨(gd xs 1).name, (gd xs 1).shapes, (gd xs 1).labels, ⟨(gd xs 1).insts.v, (gd xs 1).insts.xs.set 0 (Inst.s1_1 60 (gd (gd xs 1).insts.xs 0))⟩⟩) = lbs xs := map_set_same (by omega) rfl
         exact ⟨rfl, (xs.set 1 ⟨(gd xs 1).name, (gd xs 1).shapes, (gd xs 1).labels, ⟨(gd xs 1).insts.v, (gd xs 1).insts.xs.set 0 (Inst.s1_1 60 (gd (gd xs 1).insts.xs 0))⟩⟩), ⟨h3.l.set ⟨hc1.1, hc1.2.1⟩, by simpa using hx2.1, by simpa using hx2.2⟩, trivial, ⟨(by kernel_rfl), (by kernel_rfl), trivial⟩, ((Cv.p (C := osl 195 instT (gd xs 1).insts.v ((gd xs 1).insts.xs.set 0 (Inst.s1_1 60 (gd (gd xs 1).insts.xs 0))) :: bag (((ins xs).map (ownS 195 instT)).set 1 emp) :: osl 116 cellT q xs :: bagS 142 shapeT (shs xs) :: bagS 193 labelT (lbs xs) :: blk b3 31 [q] :: blk b2 31 [.slice none 0 0] :: src b cv :: L)).trans ((Cv.slotC 1 (by omega)).trans (by rw [e1, e2]; exact Cv.p)))⟩
       · refine WP.seq ?_
         refine WP.region (RG.pv rfl (PV.eql rfl rfl rfl) (RG.br rfl rfl rfl (RG.nil ?_)))
         refine WP.cond rfl (fun h8 => ?_) (fun h8 => ?_)
         · have hsl : (shs xs).length = xs.length := by simp [shs]
           have hi0 : gd (shs xs) 0 = (gd xs 0).shapes := by rw [shs, gd_map _ (by omega)]
           have hc0 := h3 0 (by omega)
           have hs0 := hc0.2.2
           refine WP.isl q fun hIq => ?_
           refine WP.cv ((Cv.p (C := bagS 142 shapeT (shs xs) :: osl 116 cellT q xs :: bagS 195 instT (ins xs) :: bagS 193 labelT (lbs xs) :: blk b3 31 [q] :: blk b2 31 [.slice none 0 0] :: src b cv :: L)).trans ((Cv.bagS_take 0 (by omega)).trans (Cv.cast (by rw [hi0])))) ?_
           refine WP.regionHD [.s q, .s (gd xs 0).shapes.v] (.q 0 (.q 1 (.q 2 (.q 3 (.q 4 (.q 5 (.q 7 (.q 8 (.b 6 (.l 9 (.l 10 (.q 11 (.q 12 (.l 13 Sch.nil))))) 9 (.l 6 (.l 10 (.q 11 (.q 12 (.l 13 Sch.nil)))))))))))))) (by kernel_rfl) (by kernel_rfl) (by kernel_rfl) rfl ?_
           refine RH.pv rfl (fun _ _ _ _ h => h) (Gh.le_refl _) PickC.pick rfl (PV.field rfl Fo31_0 rfl) ?_
           refine RH.pv rfl (fun _ _ _ _ h => h) (Gh.le_refl _) PickC.pick rfl (PV.load1 rfl Sc29 rfl (Rd.blk rfl)) ?_
           refine RH.pv rfl (fun _ _ _ _ h => h) (Gh.le_refl _) PickC.pick rfl (PV.field rfl Fo31_0 rfl) ?_
           refine RH.pv rfl (fun _ _ _ _ h => h) (Gh.le_refl _) PickC.pick rfl (PV.load1 rfl Sc29 rfl (Rd.blk rfl)) ?_
           refine RH.pv rfl (fun _ _ _ _ h => h) (Gh.le_refl _) PickC.pick rfl (PV.idxS (j := 0) (v := q) rfl Is29 rfl (SlF.i hIq) rfl (by first | omega | (simp only [List.length_cons, List.length_nil]; omega)) (by first | omega | (simp only [List.length_cons, List.length_nil]; omega))) ?_
           refine RH.pv rfl (fun _ _ _ _ h => h) (Gh.le_refl _) PickC.pick rfl (PV.field rfl Fo116_1 rfl) ?_
           refine RH.pv rfl (fun _ _ _ _ h => h) (Gh.le_refl _) PickC.pick rfl (PV.build (vs := [(0, [vi _]), (1, [vi _]), (2, [vi _]), (3, [vi _])]) (out := [_, _, _, _]) rfl Zr140 Pl140 ⟨rfl, (Cl.c rfl), ⟨rfl, (Cl.c rfl), ⟨rfl, (Cl.c rfl), ⟨rfl, (Cl.c rfl), trivial⟩⟩⟩⟩ rfl) ?_
           refine RH.pv rfl (fun _ _ _ _ h => h) (Gh.le_refl _) PickC.pick rfl (PV.build (vs := [(0, [vi _]), (1, [vi _, vi _, vi _, vi _])]) (out := [_, _, _, _, _]) rfl Zr142 Pl142 ⟨rfl, (Cl.c rfl), ⟨rfl, (Cl.c rfl), trivial⟩⟩ rfl) ?_
           have e1 : ∀ v, ins (xs.set 0 (Cell.s1 ⟨v, (gd xs 0).shapes.xs ++ [⟨3, ⟨30, 0, 40, 1⟩⟩]⟩ (gd xs 0))) = ins xs := fun v => map_set_same (by omega) rfl
           have e2 : ∀ v, lbs (xs.set 0 (Cell.s1 ⟨v, (gd xs 0).shapes.xs ++ [⟨3, ⟨30, 0, 40, 1⟩⟩]⟩ (gd xs 0))) = lbs xs := fun v => map_set_same (by omega) rfl
           have e3 : ∀ v, shs (xs.set 0 (Cell.s1 ⟨v, (gd xs 0).shapes.xs ++ [⟨3, ⟨30, 0, 40, 1⟩⟩]⟩ (gd xs 0))) = (shs xs).set 0 ⟨v, (gd xs 0).shapes.xs ++ [⟨3, ⟨30, 0, 40, 1⟩⟩]⟩ := fun v => by rw [shs, shs, List.map_set]
           have hcl : ∀ v, (Cell.s1 ⟨v, (gd xs 0).shapes.xs ++ [⟨3, ⟨30, 0, 40, 1⟩⟩]⟩ (gd xs 0)).name.size ≤ 9 ∧ (Cell.s1 ⟨v, (gd xs 0).shapes.xs ++ [⟨3, ⟨30, 0, 40, 1⟩⟩]⟩ (gd xs 0)).labels.xs = [] := fun v => ⟨hc0.1, hc0.2.1⟩
           · refine RH.ot2 rfl rfl rfl rfl  (OT.pv (PV.loadF (F := cellT) (v := q) (i := 0) (j := 1) rfl Sc83 rfl rfl (El.o (getG (by omega))) rfl) ⟨Gh.le_refl _, PickC.pick, ?_⟩) (OT.bslice (F := shapeT) (els := [⟨3, ⟨30, 0, 40, 1⟩⟩]) rfl El83 rfl (by decide) rfl (by decide) ⟨rfl, (Cl.c rfl), trivial⟩ fun v81 => ⟨Gh.le_refl _, PickC.pick, ?_⟩)
             · refine RH.ot rfl rfl (OT.bslice (F := shapeT) (els := [⟨3, ⟨30, 0, 40, 1⟩⟩]) rfl El83 rfl (by decide) rfl (by decide) ⟨rfl, (Cl.c rfl), trivial⟩ fun v81 => ⟨Gh.le_refl _, PickC.pick, ?_⟩)
               refine RH.ot rfl rfl (OT.append (v := (gd xs 0).shapes.v) (u := v81) (F := shapeT) rfl El83 rfl (by decide) rfl rfl Rs.o (OneL.c (fun _ => rfl)) rfl (by first | omega | (simp <;> omega)) fun v82 => ⟨Gh.le_refl _, PickC.pick, ?_⟩)
               refine RH.pv rfl (fun _ _ _ _ h => h) (Gh.le_refl _) PickC.pick rfl (PV.idxS (j := 0) (v := q) rfl Is29 rfl (SlF.i hIq) rfl (by first | omega | (simp only [List.length_cons, List.length_nil]; omega)) (by first | omega | (simp only [List.length_cons, List.length_nil]; omega))) ?_
               refine RH.pv rfl (fun _ _ _ _ h => h) (Gh.le_refl _) PickC.pick rfl (PV.field rfl Fo116_1 rfl) ?_
               refine RH.ot rfl rfl (OT.storeF (F := cellT) (val := Sl.v) (cv := fun u => [u.v]) (u := ⟨v82, (gd xs 0).shapes.xs ++ [⟨3, ⟨30, 0, 40, 1⟩⟩]⟩) (st := Cell.s1) rfl Sz83 rfl rfl rfl (Cl.s (v := v82) SlF.o) rfl (OneC.sl SlF.o OneC.nil) (by exact set_self (by omega)) (by first | omega | (simp; omega)) rfl (fun _ _ => rfl) ⟨Gh.le_refl _, PickC.pick, ?_⟩)
               refine RH.nil ?_
               exact ⟨rfl, (xs.set 0 (Cell.s1 ⟨v82, (gd xs 0).shapes.xs ++ [⟨3, ⟨30, 0, 40, 1⟩⟩]⟩ (gd xs 0))), ⟨h3.l.set (hcl v82), by simpa using hx2.1, by simpa using hx2.2⟩, trivial, ⟨(by kernel_rfl), (by kernel_rfl), trivial⟩, ((Cv.p (C := osl 142 shapeT v82 ((gd xs 0).shapes.xs ++ [⟨3, ⟨30, 0, 40, 1⟩⟩]) :: bag (((shs xs).map (ownS 142 shapeT)).set 0 emp) :: osl 116 cellT q (xs.set 0 (Cell.s1 ⟨v82, (gd xs 0).shapes.xs ++ [⟨3, ⟨30, 0, 40, 1⟩⟩]⟩ (gd xs 0))) :: bagS 195 instT (ins xs) :: bagS 193 labelT (lbs xs) :: blk b3 31 [q] :: blk b2 31 [.slice none 0 0] :: src b cv :: L)).trans ((Cv.bagS_put 0 (by omega)).trans (by rw [← e3 v82, ← e1 v82, ← e2 v82]; exact Cv.p)))⟩
             · refine RH.ot rfl rfl (OT.pv (PV.loadF (F := cellT) (v := q) (i := 0) (j := 1) rfl Sc83 rfl rfl (El.o (getG (by omega))) rfl) ⟨Gh.le_refl _, PickC.pick, ?_⟩)
               refine RH.ot rfl rfl (OT.append (v := (gd xs 0).shapes.v) (u := v81) (F := shapeT) rfl El83 rfl (by decide) rfl rfl Rs.o (OneL.c (fun _ => rfl)) rfl (by first | omega | (simp <;> omega)) fun v82 => ⟨Gh.le_refl _, PickC.pick, ?_⟩)
               refine RH.pv rfl (fun _ _ _ _ h => h) (Gh.le_refl _) PickC.pick rfl (PV.idxS (j := 0) (v := q) rfl Is29 rfl (SlF.i hIq) rfl (by first | omega | (simp only [List.length_cons, List.length_nil]; omega)) (by first | omega | (simp only [List.length_cons, List.length_nil]; omega))) ?_
               refine RH.pv rfl (fun _ _ _ _ h => h) (Gh.le_refl _) PickC.pick rfl (PV.field rfl Fo116_1 rfl) ?_
               refine RH.ot rfl rfl (OT.storeF (F := cellT) (val := Sl.v) (cv := fun u => [u.v]) (u := ⟨v82, (gd xs 0).shapes.xs ++ [⟨3, ⟨30, 0, 40, 1⟩⟩]⟩) (st := Cell.s1) rfl Sz83 rfl rfl rfl (Cl.s (v := v82) SlF.o) rfl (OneC.sl SlF.o OneC.nil) (by exact set_self (by omega)) (by first | omega | (simp; omega)) rfl (fun _ _ => rfl) ⟨Gh.le_refl _, PickC.pick, ?_⟩)
               refine RH.nil ?_
               exact ⟨rfl, (xs.set 0 (Cell.s1 ⟨v82, (gd xs 0).shapes.xs ++ [⟨3, ⟨30, 0, 40, 1⟩⟩]⟩ (gd xs 0))), ⟨h3.l.set (hcl v82), by simpa using hx2.1, by simpa using hx2.2⟩, trivial, ⟨(by kernel_rfl), (by kernel_rfl), trivial⟩, ((Cv.p (C := osl 142 shapeT v82 ((gd xs 0).shapes.xs ++ [⟨3, ⟨30, 0, 40, 1⟩⟩]) :: bag (((shs xs).map (ownS 142 shapeT)).set 0 emp) :: osl 116 cellT q (xs.set 0 (Cell.s1 ⟨v82, (gd xs 0).shapes.xs ++ [⟨3, ⟨30, 0, 40, 1⟩⟩]⟩ (gd xs 0))) :: bagS 195 instT (ins xs) :: bagS 193 labelT (lbs xs) :: blk b3 31 [q] :: blk b2 31 [.slice none 0 0] :: src b cv :: L)).trans ((Cv.bagS_put 0 (by omega)).trans (by rw [← e3 v82, ← e1 v82, ← e2 v82]; exact Cv.p)))⟩
         · refine WP.skip ?_
           exact ⟨rfl, xs, ⟨h3.l, hx2.1, hx2.2⟩, trivial, ⟨(by kernel_rfl), (by kernel_rfl), trivial⟩, Cv.p⟩
   rintro ys τ4 ⟨j1, j2, j3⟩
   refine WP.seq (WP.region (RG.pv rfl (PV.loadW rfl Ag31 rfl rfl) ?_))
   refine RG.ot rfl (OT.storeW (vs := [_]) rfl Sz31 rfl rfl (Cl.c rfl) rfl rfl (OneC.sl (SlF.o (v := q)) OneC.nil) ?_)
   refine RG.nil ?_
   refine WP.ret ?_
   exact ⟨_, _, ResV.one rfl (RV1.cell rfl Ag31 rfl), Cv.p, k q ys j1 j2 j3⟩
theorem dCell_s {cv : Value} {bs : List UInt8} (hcode : SL G byteT cv bs) (k : ∀ v xs n, CellsL xs → R (.tuple #[vT libT ⟨⟨v, xs⟩⟩, vi n]) G (osl 116 cellT v (xs) :: bagS 142 shapeT (shs (xs)) :: bagS 193 labelT (lbs (xs)) :: bagS 195 instT (ins (xs)) :: L)) : CallT Tryz.prog 44 #[cv] G L R := by
 refine CallT.enter (args := _) Tryz.func44 rfl rfl (by kernel_rfl) rfl ?_
 refine WP.seq (WP.region ?_)
 refine RG.ot rfl (OT.alloc rfl Zr31 fun b2 => ?_)
 refine RG.mr rfl rfl rfl (RG.nil (WP.seq (WP.region (RG.pv rfl (PV.move (v := cv) rfl rfl) ?_))))
 refine RG.callF (vs := [cv]) rfl rfl En78 rfl (from_s hcode (fun b => ?_))
 refine RG.pv rfl (PV.asg rfl rfl) (RG.nil (WP.seq (WP.region (RG.pv rfl (PV.move rfl rfl) ?_))))
 refine RG.callF (vs := [_]) rfl rfl En79 rfl (dLib_s hcode (fun w9 xs hx hx2 hx3 => ?_))
 refine RG.ot rfl (OT.alloc rfl Zr31 fun b5 => ?_)
 refine RG.ot rfl (OT.storeW (vs := [_]) rfl Sz31 rfl rfl (Cl.c rfl) rfl rfl (OneC.sl (SlF.o (v := w9)) OneC.nil) ?_)
 refine RG.nil (WP.seq (WP.seq (WP.region (RG.pv rfl (PV.move rfl rfl) ?_))))
 refine RG.callF (vs := [_, _]) rfl rfl En80 rfl (CallT.exC (src b cv) (next_s hcode (by omega) (fun w11 hw11 => ?_)))
 refine RG.pv rfl (PV.eql rfl rfl rfl) (RG.nil ?_)
 refine WP.cond rfl (fun h1 => ?_) (fun h1 => ?_)
 · refine WP.seq ?_
   refine WP.regionHD [.b b2] (.q 0 (.q 1 (.l 2 (.q 3 (.l 4 (.q 5 Sch.nil)))))) (by kernel_rfl) (by kernel_rfl) (by kernel_rfl) rfl ?_
   refine RH.pv rfl (fun _ _ _ _ h => h) (Gh.le_refl _) PickC.pick rfl (PV.loadW rfl Ag31 rfl rfl) ?_
   refine RH.pv rfl (fun _ _ _ _ h => h) (Gh.le_refl _) PickC.pick rfl (PV.move rfl rfl) ?_
   refine RH.ot rfl rfl (OT.callF (vs := [_, _]) rfl En80 rfl (CallT.exC (src b cv) (next_s hcode (by omega) (fun w15 hw15 => ⟨Gh.le_refl _, PickC.pick, ?_⟩))))
   refine RH.pv rfl (fun _ _ _ _ h => h) (Gh.le_refl _) PickC.pick rfl (PV.sub rfl rfl rfl (by omega)) ?_
   refine RH.ot rfl rfl (OT.storeW (vs := [_]) rfl Sz31 rfl rfl (Cl.c rfl) rfl rfl (OneC.sl (SlF.o (v := w9)) OneC.nil) ⟨Gh.le_refl _, PickC.pick, ?_⟩)
   refine RH.pv rfl (fun _ _ _ _ h => h) (Gh.le_refl _) PickC.pick rfl (PV.mvI (.inr rfl) rfl) ?_
   refine RH.nil ?_
   refine WP.ret ?_
   exact ⟨_, _, ResV.two rfl (RV1.cell rfl Ag31 rfl) rfl, Cv.p, k w9 xs _ hx⟩
 · skip
   refine WP.skip (WP.seq ?_)
   refine WP.regionHD [.b b2] (.q 0 (.q 1 (.q 2 (.q 3 (.q 4 (.l 5 (.q 6 Sch.nil))))))) (by kernel_rfl) (by kernel_rfl) (by kernel_rfl) rfl ?_
   refine RH.pv rfl (fun _ _ _ _ h => h) (Gh.le_refl _) PickC.pick rfl (PV.loadW rfl Ag31 rfl rfl) ?_
   refine RH.pv rfl (fun _ _ _ _ h => h) (Gh.le_refl _) PickC.pick rfl (PV.field rfl Fo31_0 rfl) ?_
   refine RH.pv rfl (fun _ _ _ _ h => h) (Gh.le_refl _) PickC.pick rfl (PV.load1 rfl Sc29 rfl (Rd.blk rfl)) ?_
   refine RH.pv rfl (fun _ _ _ _ h => h) (Gh.le_refl _) PickC.pick rfl (PV.len (v := w9) rfl Tryz.underlying29 rfl SlF.o) ?_
   refine RH.pv rfl (fun _ _ _ _ h => h) (Gh.le_refl _) PickC.pick rfl (PV.sub rfl rfl rfl (by omega)) ?_
   refine RH.ot rfl rfl (OT.storeW (vs := [_]) rfl Sz31 rfl rfl (Cl.c rfl) rfl rfl (OneC.sl (SlF.o (v := w9)) OneC.nil) ⟨Gh.le_refl _, PickC.pick, ?_⟩)
   refine RH.pv rfl (fun _ _ _ _ h => h) (Gh.le_refl _) PickC.pick rfl (PV.mvI (.inr rfl) rfl) ?_
   refine RH.nil ?_
   refine WP.ret ?_
   exact ⟨_, _, ResV.two rfl (RV1.cell rfl Ag31 rfl) rfl, Cv.p, k w9 xs _ hx⟩
end Go.Proofs.YthhjapiggekjbaaGreat
namespace Go.Proofs.YthhjapiggekjbaaGreat
set_option linter.unusedVariables false
set_option linter.unusedSimpArgs false
open Go
set_option maxRecDepth 20000
set_option linter.unusedSimpArgs false
variable {G : Gh} {L : List Ch} {R : Value → Gh → List Ch → Prop}
def andV (k : IntKind) (a b : Int) : Int := k.wrap (BitVec.ofInt k.bits a &&& BitVec.ofInt k.bits b).toNat
theorem PV.andW {P : Program} {o : Oper} {σ : Nat → Value} {G : Gh} {L : List Ch} {T T' : TypeId} {x y : Operand} {k : IntKind} {a b : Int} (ho : o.op = .binOp .and T x y T') (hx : ev σ x = .int k a) (hy : ev σ y = .int k b) : PV P o σ G L (.int k (andV k a b)) := by
 intro w _
 simp [execOp, ho, hx, hy, eqGuard, binOp, Op.intBits, andV]
theorem andV_bd (a : Int) : 0 ≤ andV .u64 a 16777215 ∧ andV .u64 a 16777215 ≤ 16777215 := by
 have h : (BitVec.ofInt 64 a &&& BitVec.ofInt 64 16777215).toNat ≤ 16777215 := by
   rw [BitVec.toNat_and]
   have e : (BitVec.ofInt 64 16777215).toNat = 16777215 := by decide
   rw [e]; exact Nat.and_le_right
 have e : andV .u64 a 16777215 = ((BitVec.ofInt 64 a &&& BitVec.ofInt 64 16777215).toNat : Int) := by
   show IntKind.u64.wrap _ = _
   exact u64w ⟨by omega, by
     have : ((BitVec.ofInt 64 a &&& BitVec.ofInt 64 16777215).toNat : Int) ≤ 16777215 := by omega
     exact Int.le_trans this (by decide)⟩
 rw [e]; omega
theorem andI (a : Int) : -9223372036854775808 ≤ andV .u64 a 16777215 ∧ andV .u64 a 16777215 ≤ 9223372036854775807 := by
 have := andV_bd a; omega
/-- the dice in block b over the code cv -/
def dice (b : Nat) (cv : Value) : Ch := fun h => ∃ p : Int × Int, 0 ≤ p.1 ∧ blk b 99 [cv, vi p.1, .int .u64 p.2] h
theorem Cv.dice {b : Nat} {cv : Value} {x y : Int} {L : List Ch} (h : 0 ≤ x) : Cv (blk b 99 [cv, vi x, .int .u64 y] :: L) (dice b cv :: L) := Cv.imp fun _ hc => ⟨(x, y), h, hc⟩
theorem below_s {b : Nat} {n : Int} {cv : Value} {bs : List UInt8} (hcode : SL G byteT cv bs) (hn : 0 < n ∧ n ≤ 1000000) (k : ∀ r, 0 ≤ r ∧ r < n → R (vi r) G (dice b cv :: L)) : CallT Tryz.prog 31 #[.pointer (some ⟨b, 0, none⟩), vi n] G (dice b cv :: L) R := by
 refine CallT.exi fun ⟨x, y⟩ hx => ?_
 have hbl := hcode.bound
 have hx : 0 ≤ x := hx
 change CallT _ _ _ G (blk b 99 [cv, vi x, .int .u64 y] :: L) R
 refine CallT.enter (args := _) Tryz.func31 rfl rfl (by kernel_rfl) rfl ?_
 refine WP.seq (WP.region (RG.mr rfl rfl rfl (RG.nil (WP.seq (WP.region (RG.pv rfl (PV.mvP (.inl rfl) rfl) (RG.pv rfl (PV.mvP (.inl rfl) rfl) ?_)))))))
 refine RG.pv rfl (PV.nilc rfl rfl) (RG.pv rfl (PV.field rfl Fo99_2 rfl) (RG.pv rfl (PV.load1 rfl Sc60 rfl (Rd.blk rfl)) (RG.pv rfl (PV.mulW rfl rfl rfl) (RG.pv rfl (PV.addW rfl rfl rfl) (RG.pv rfl (PV.nilc rfl rfl) (RG.pv rfl (PV.field rfl Fo99_2 rfl) ?_))))))
 refine RG.ot rfl (OT.storeB (vs := [.int .u64 _]) (cs' := [_, _, _]) rfl Sz60 rfl rfl (Cl.c rfl) rfl (OneC.c rfl) rfl rfl ?_)
 refine RG.nil (WP.seq (WP.region (RG.pv rfl (PV.mvP (.inl rfl) rfl) (RG.pv rfl (PV.nilc rfl rfl) (RG.pv rfl (PV.field rfl Fo99_2 rfl) (RG.pv rfl (PV.load1 rfl Sc60 rfl (Rd.blk rfl)) (RG.pv rfl (PV.shr rfl rfl rfl (by decide) (by decide)) ?_)))))))
 refine RG.pv rfl (PV.andW rfl rfl rfl) (RG.pv rfl (PV.conv rfl ⟨_, Tryz.underlying60⟩ Tryz.underlying2 rfl (i64w (by first | exact andI _ | omega))) (RG.mr rfl rfl rfl (RG.nil (WP.seq (WP.seq ?_)))))
 refine WP.regionQ (by kernel_rfl) (by kernel_rfl) ?_
 refine RQ.pv rfl (PV.mvP (.inl rfl) rfl) ?_
 refine RQ.pv rfl (PV.nilc rfl rfl) ?_
 refine RQ.pv rfl (PV.field rfl Fo99_1 rfl) ?_
 refine RQ.pv rfl (PV.load1 rfl Sc3 rfl (Rd.blk rfl)) ?_
 refine RQ.pv rfl (PV.mvP (.inl rfl) rfl) ?_
 refine RQ.pv rfl (PV.nilc rfl rfl) ?_
 refine RQ.pv rfl (PV.field rfl Fo99_0 rfl) ?_
 refine RQ.pv rfl (PV.load1 rfl Sc40 rfl (Rd.blk rfl)) ?_
 refine RQ.pv rfl (PV.len rfl Tryz.underlying40 rfl (SlF.r (Rs.g (L := []) hcode))) ?_
 refine RQ.pv rfl (PV.lss rfl rfl rfl) ?_
 refine RQ.nil ?_
 have hq := andV_bd (IntKind.u64.wrap (IntKind.u64.wrap (y * 6364136223846793005) + 1442695040888963407) / 2 ^ (33 : Int).toNat)
 refine WP.cond rfl (fun h1 => ?_) (fun h1 => ?_)
 · have h1 := of_decide_eq_true h1
   have hc := (gd bs x.toNat).toNat_lt
   refine WP.seq ?_
   refine WP.regionQ (by kernel_rfl) (by kernel_rfl) ?_
   refine RQ.pv rfl (PV.mvI (.inl rfl) rfl) ?_
   refine RQ.pv rfl (PV.mvP (.inl rfl) rfl) ?_
   refine RQ.pv rfl (PV.nilc rfl rfl) ?_
   refine RQ.pv rfl (PV.field rfl Fo99_0 rfl) ?_
   refine RQ.pv rfl (PV.load1 rfl Sc40 rfl (Rd.blk rfl)) ?_
   refine RQ.pv rfl (PV.mvP (.inl rfl) rfl) ?_
   refine RQ.pv rfl (PV.nilc rfl rfl) ?_
   refine RQ.pv rfl (PV.field rfl Fo99_1 rfl) ?_
   refine RQ.pv rfl (PV.load1 rfl Sc3 rfl (Rd.blk rfl)) ?_
   refine RQ.pv rfl (PV.idxS (j := x.toNat) rfl Is40 rfl (SlF.r (Rs.g (L := []) hcode)) rfl (by omega) (by omega)) ?_
   refine RQ.pv rfl (PV.loadE1 rfl Sc5 rfl rfl (El.r (Rs.g (L := []) hcode) (getG (by omega))) rfl) ?_
   refine RQ.pv rfl (PV.conv rfl ⟨_, Tryz.underlying5⟩ Tryz.underlying2 rfl (u8i _)) ?_
   refine RQ.pv rfl (PV.add rfl rfl rfl (by first | omega | exact u8add (by omega))) ?_
   refine RQ.pv rfl (PV.mvI (.inr rfl) rfl) ?_
   refine RQ.nil ?_
   refine WP.region (RG.pv rfl (PV.mvP (.inl rfl) rfl) (RG.pv rfl (PV.mvP (.inl rfl) rfl) (RG.pv rfl (PV.nilc rfl rfl) (RG.pv rfl (PV.field rfl Fo99_1 rfl) (RG.pv rfl (PV.load1 rfl Sc3 rfl (Rd.blk rfl)) (RG.pv rfl (PV.add rfl rfl rfl (by first | omega | exact u8add (by omega))) (RG.pv rfl (PV.nilc rfl rfl) ?_)))))))
   refine RG.pv rfl (PV.field rfl Fo99_1 rfl) ?_
   refine RG.ot rfl (OT.storeB (vs := [vi _]) (cs' := [_, _, _]) rfl Sz3 rfl rfl (Cl.c rfl) rfl (OneC.c rfl) rfl rfl ?_)
   refine RG.nil (WP.seq (WP.region (RG.ml rfl rfl rfl (RG.ml rfl rfl rfl (RG.pv rfl (PV.rem rfl rfl rfl (by omega) (by omega) (by omega)) (RG.mr rfl rfl rfl (RG.nil ?_)))))))
   refine WP.ret ?_
   exact ⟨_, _, ResV.one rfl rfl, (Cv.dice (by omega)), k _ ⟨Int.emod_nonneg _ (by omega), Int.emod_lt_of_pos _ (by omega)⟩⟩
 · refine WP.skip ?_
   refine WP.seq (WP.region (RG.ml rfl rfl rfl (RG.ml rfl rfl rfl (RG.pv rfl (PV.rem rfl rfl rfl (by omega) (by omega) (by omega)) (RG.mr rfl rfl rfl (RG.nil ?_))))))
   refine WP.ret ?_
   exact ⟨_, _, ResV.one rfl rfl, (Cv.dice (by omega)), k _ ⟨Int.emod_nonneg _ (by omega), Int.emod_lt_of_pos _ (by omega)⟩⟩
theorem roll_s {s : Int} {cv : Value} {bs : List UInt8} (hcode : SL G byteT cv bs) (k : ∀ b, R (.pointer (some ⟨b, 0, none⟩)) G (dice b cv :: L)) : CallT Tryz.prog 30 #[cv, .int .u64 s] G L R := by
 have hbl := hcode.bound
 refine CallT.enter (args := _) Tryz.func30 rfl rfl (by kernel_rfl) rfl ?_
 refine WP.seq (WP.region (RG.pv rfl (PV.asg rfl rfl) (RG.nil (WP.seq (WP.region (RG.pv rfl (PV.move (v := cv) rfl rfl) (RG.ml rfl rfl rfl ?_)))))))
 refine RG.pv rfl (PV.mulW rfl rfl rfl) (RG.pv rfl (PV.move (v := cv) rfl rfl) (RG.pv rfl (PV.len (v := cv) rfl Tryz.underlying40 rfl (SlF.r (Rs.g (L := []) hcode))) (RG.pv rfl (PV.conv rfl ⟨_, Tryz.underlying3⟩ Tryz.underlying60 rfl rfl) (RG.pv rfl (PV.addW rfl rfl rfl) (RG.pv rfl (PV.build (vs := [(0, [cv]), (2, [.int .u64 _])]) (out := [_, _, _]) rfl Zr99 Pl99 ⟨rfl, (Cl.s (SlF.r (Rs.g (L := []) hcode))), ⟨rfl, (Cl.c rfl), trivial⟩⟩ rfl) ?_)))))
 refine RG.ot rfl (OT.box (cs := [cv, vi 0, _]) rfl rfl rfl fun b15 => ?_)
 refine RG.pv rfl (PV.mvP (.inr rfl) rfl) (RG.nil (WP.seq (WP.seq (WP.region (RG.mr rfl rfl rfl (RG.nil (WP.block ?_)))))))
 refine WP.loop2 [0, 5] (fun (i : Nat) (y : Int) => i ≤ bs.length) (fun (i : Nat) (y : Int) => [(6, vi i)]) (fun (i : Nat) (y : Int) => blk b15 99 [cv, vi 0, .int .u64 y] :: L) (fun (i : Nat) (y : Int) => bs.length - i) 0 (IntKind.u64.wrap (IntKind.u64.wrap (s * 7919) + IntKind.u64.wrap (bs.length : Int))) (by omega) ⟨rfl, trivial⟩ Cv.p ?_
 rintro i y τ hi
 refine WP.seq (WP.seq (WP.region (RG.ml rfl rfl rfl (RG.pv rfl (PV.move (v := cv) rfl rfl) (RG.pv rfl (PV.len (v := cv) rfl Tryz.underlying40 rfl (SlF.r (Rs.g (L := []) hcode))) (RG.pv rfl (PV.lss rfl rfl rfl) (RG.nil ?_)))))))
 refine WP.cond rfl (fun h2 => ?_) (fun h2 => ?_)
 · have h2 := of_decide_eq_true h2
   refine WP.skip (WP.seq (WP.block ?_))
   refine WP.regionHD [.b b15] (.q 0 (.q 1 (.q 2 (.q 3 (.q 6 (.q 7 (.q 8 (.q 9 (.q 10 (.l 4 (.q 5 (.q 11 (.q 12 (.q 13 (.q 14 (.l 15 Sch.nil)))))))))))))))) (by kernel_rfl) (by kernel_rfl) (by kernel_rfl) rfl ?_
   refine RH.pv rfl (fun _ _ _ _ h => h) (Gh.le_refl _) PickC.pick rfl (PV.mvP (.inl rfl) rfl) ?_
   refine RH.pv rfl (fun _ _ _ _ h => h) (Gh.le_refl _) PickC.pick rfl (PV.mvP (.inl rfl) rfl) ?_
   refine RH.pv rfl (fun _ _ _ _ h => h) (Gh.le_refl _) PickC.pick rfl (PV.nilc rfl rfl) ?_
   refine RH.pv rfl (fun _ _ _ _ h => h) (Gh.le_refl _) PickC.pick rfl (PV.field rfl Fo99_2 rfl) ?_
   refine RH.pv rfl (fun _ _ _ _ h => h) (Gh.le_refl _) PickC.pick rfl (PV.move (v := cv) rfl rfl) ?_
   refine RH.pv rfl (fun _ _ _ _ h => h) (Gh.le_refl _) PickC.pick rfl (PV.mvI (.inl rfl) rfl) ?_
   refine RH.pv rfl (fun _ _ _ _ h => h) (Gh.le_refl _) PickC.pick rfl (PV.idxS (v := cv) rfl Is40 rfl (SlF.r (Rs.g (L := []) hcode)) rfl rfl (by omega)) ?_
   refine RH.pv rfl (fun _ _ _ _ h => h) (Gh.le_refl _) PickC.pick rfl (PV.loadE1 rfl Sc5 rfl rfl (El.r (Rs.g (L := []) hcode) (getG (by omega))) rfl) ?_
   refine RH.pv rfl (fun _ _ _ _ h => h) (Gh.le_refl _) PickC.pick rfl (PV.conv rfl ⟨_, Tryz.underlying5⟩ Tryz.underlying60 rfl rfl) ?_
   refine RH.ot rfl rfl (OT.pv (PV.load1 rfl Sc60 rfl (Rd.blk rfl)) ⟨Gh.le_refl _, PickC.pick, ?_⟩)
   refine RH.pv rfl (fun _ _ _ _ h => h) (Gh.le_refl _) PickC.pick rfl (PV.mulW rfl rfl rfl) ?_
   refine RH.pv rfl (fun _ _ _ _ h => h) (Gh.le_refl _) PickC.pick rfl (PV.addW rfl rfl rfl) ?_
   refine RH.pv rfl (fun _ _ _ _ h => h) (Gh.le_refl _) PickC.pick rfl (PV.addW rfl rfl rfl) ?_
   refine RH.pv rfl (fun _ _ _ _ h => h) (Gh.le_refl _) PickC.pick rfl (PV.nilc rfl rfl) ?_
   refine RH.pv rfl (fun _ _ _ _ h => h) (Gh.le_refl _) PickC.pick rfl (PV.field rfl Fo99_2 rfl) ?_
   refine RH.ot rfl rfl (OT.storeB (vs := [.int .u64 _]) (cs' := [_, _, _]) rfl Sz60 rfl rfl (Cl.c rfl) rfl (OneC.c rfl) rfl rfl ⟨Gh.le_refl _, PickC.pick, ?_⟩)
   refine RH.nil ?_
   refine WP.region (RG.ml rfl rfl rfl (RG.pv rfl (PV.add rfl rfl rfl (by omega)) (RG.mr rfl rfl rfl (RG.nil ?_))))
   exact ⟨rfl, i + 1, (IntKind.u64.wrap (IntKind.u64.wrap (IntKind.u64.wrap (y * 1099511628211) + IntKind.u64.wrap ((gd bs i).toNat : Int)) + 3)), (by omega), ⟨rfl, trivial⟩, ⟨rfl, rfl, trivial⟩, Cv.p, by omega⟩
 · refine WP.exit ?_
   refine WP.seq (WP.region (RG.pv rfl (PV.mvP (.inl rfl) rfl) (RG.pv rfl (PV.mvP (.inr rfl) rfl) (RG.nil ?_))))
   refine WP.ret ?_
   exact ⟨_, _, ResV.one rfl rfl, (Cv.dice (by omega)), k b15⟩
end Go.Proofs.YthhjapiggekjbaaGreat
namespace Go.Proofs.YthhjapiggekjbaaGreat
set_option linter.unusedVariables false
set_option linter.unusedSimpArgs false
open Go
set_option maxRecDepth 20000
set_option maxHeartbeats 1000000
set_option linter.unusedSimpArgs false
variable {G : Gh} {L : List Ch} {R : Value → Gh → List Ch → Prop}
def inTo (H : List (List (Int × List Rect) × List Int)) (n : Nat) : List Int := ((List.range n).filter fun m => decide ((gd H m).2.length = 1)).map fun m : Nat => (m : Int)
theorem inTo_yes {H : List (List (Int × List Rect) × List Int)} {m : Nat} (h : (gd H m).2.length = 1) : inTo H (m + 1) = inTo H m ++ [(m : Int)] := by
 rw [inTo, List.range_succ, List.filter_append, List.map_append]; simp [h, inTo]
theorem inTo_no {H : List (List (Int × List Rect) × List Int)} {m : Nat} (h : (gd H m).2.length ≠ 1) : inTo H (m + 1) = inTo H m := by
 rw [inTo, List.range_succ, List.filter_append, List.map_append]; simp [h, inTo]
theorem inTo_len (H : List (List (Int × List Rect) × List Int)) (n : Nat) : (inTo H n).length ≤ n := by
 rw [inTo, List.length_map]; have := List.length_filter_le (fun m => decide ((gd H m).2.length = 1)) (List.range n); rwa [List.length_range] at this
noncomputable def ntI (cs : List ECell) (cell : Int) : List Int := inTo (hnR cs cell) (hnR cs cell).length
theorem ntI_no {cs : List ECell} {cell : Int} (h : hnC cs cell ≠ 0) : ntI cs cell = [] := by rw [ntI, hnR_no h]; rfl
theorem ntI_mem {cs : List ECell} {cell : Int} (h : hnC cs cell = 0) {m : Nat} (hm : m < netN (flyL cs cell)) : (m : Int) ∈ ntI cs cell ↔ (noR cs cell m).length = 1 := by
 have h1 : noC cs cell m = 0 := by rw [noC, if_pos h, if_pos ⟨by omega, by omega⟩]
 rw [noR, if_pos h1, Int.toNat_natCast, ← hnR_gd h hm, ntI, inTo, List.mem_map]
 constructor
 · rintro ⟨i, hi, e⟩
   obtain rfl : i = m := by omega
   exact of_decide_eq_true (List.mem_filter.1 hi).2
 · intro h2
   exact ⟨m, List.mem_filter.2 ⟨List.mem_range.2 (by rw [(hnR_len h).1]; exact hm), decide_eq_true h2⟩, rfl⟩
theorem noR_pos {cs : List ECell} {cell : Int} (h : hnC cs cell = 0) {m : Nat} (hm : m < netN (flyL cs cell)) : 0 < (noR cs cell m).length := by
 have h1 : noC cs cell m = 0 := by rw [noC, if_pos h, if_pos ⟨by omega, by omega⟩]
 obtain ⟨h0, hPA⟩ := hc_all (hnC_0 h).1
 obtain ⟨f, f1, -, f2⟩ := hPA.member (isLay_fly h0) hm
 rw [noR, if_pos h1, Int.toNat_natCast, ocN]
 refine Nat.pos_of_ne_zero fun e => ?_
 have e2 := compact_nil.1 (List.eq_nil_of_length_eq_zero e)
 rw [List.map_eq_nil_iff, List.filter_eq_nil_iff] at e2
 exact e2 f (List.mem_range.2 f1) (decide_eq_true f2)
theorem inter_i {l : Lib} {cell : Int} (hL : RLib G L l.cells.v l.cells.xs) (hlen : lenC (erCls l.cells.xs)) (k : ∀ v, R (.tuple #[v, vi (hnC (erCls l.cells.xs) cell)]) G (osl 2 intT v (ntI (erCls l.cells.xs) cell) :: L)) : CallT Tryz.prog 34 #[vT libT l, vi cell] G L R := by
 by_cases h1 : hnC (erCls l.cells.xs) cell = 0
 · rw [h1] at k
   obtain ⟨hl1, hl2⟩ := hnR_len h1
   refine CallT.enter (args := _) Tryz.func34 rfl rfl (by kernel_rfl) rfl ?_
   refine WP.seq (WP.region ?_)
   refine RG.ot rfl (OT.box (cs := libT.enc l) rfl rfl rfl fun b2 => ?_)
   refine RG.pv rfl (PV.asg rfl rfl) (RG.mr rfl rfl rfl (RG.nil (WP.seq (WP.region (RG.pv rfl (PV.loadW rfl Ag31 rfl rfl) (RG.ml rfl rfl rfl ?_))))))
   refine RG.callF (vs := [_, _]) rfl rfl En42 rfl (hnets_i hL.up hlen (fun h => absurd h1 h) (fun _ v1 hs he => ?_))
   refine RG.pv rfl (PV.move (v := .tuple _) rfl rfl) (RG.pv rfl (PV.ext (v := v1) rfl rfl rfl) (RG.pv rfl (PV.ext rfl rfl rfl) (RG.pv rfl (PV.asg (v := v1) rfl rfl) (RG.mr rfl rfl rfl (RG.nil (WP.seq (WP.seq ?_)))))))
   refine WP.region (RG.ml rfl rfl rfl (RG.pv rfl (PV.neq rfl rfl rfl) (RG.nil ?_)))
   have hsl : hs.length = (hnR (erCls l.cells.xs) cell).length := by have := congrArg List.length he; rwa [List.length_map] at this
   have hH : ∀ i, i < hs.length → (gd (hnR (erCls l.cells.xs) cell) i).2 = (gd hs i).occs.xs := fun i hi => by rw [← he, gd_map _ hi]; rfl
   rw [ntI] at k
   generalize hnR (erCls l.cells.xs) cell = H at *
   refine WP.cond rfl (fun h2 => ?_) (fun h2 => ?_)
   · simp at h2
   · refine WP.skip ?_
     refine WP.seq (WP.region ?_)
     refine RG.ot rfl (OT.bslice (F := intT) (els := []) rfl El26 rfl (by decide) rfl (by decide) trivial fun v20 => ?_)
     refine RG.pv rfl (PV.asg (v := v20) rfl rfl) (RG.nil (WP.seq (WP.seq (WP.region (RG.pv rfl (PV.move (v := v1) rfl rfl) (RG.pv rfl (PV.len (v := v1) rfl Tryz.underlying74 rfl SlF.o) (RG.ml rfl rfl rfl ?_)))))))
     refine RG.nil (WP.block ?_)
     refine WP.cv (Cv.eqS (show [] = inTo H 0 from rfl)) ?_
     refine WP.loop2 [21, 22] (fun (i : Nat) (q : Value) => i ≤ hs.length) (fun (i : Nat) (q : Value) => [(23, vi i), (8, q)]) (fun (i : Nat) (q : Value) => osl 2 intT q (inTo H i) :: osl 82 hnetT v1 hs :: bagS 63 pieceT (hps hs) :: bagS 2 intT (hos hs) :: bagS 140 rectT (hrg hs) :: L) (fun (i : Nat) (q : Value) => hs.length - i) 0 v20 (by omega) ⟨rfl, rfl, trivial⟩ Cv.p ?_
     rintro i q τ hi
     refine WP.seq (WP.region (RG.pv rfl (PV.lss rfl rfl rfl) (RG.nil (WP.seq ?_))))
     have hil := inTo_len H i
     refine WP.cond rfl (fun h3 => ?_) (fun h3 => ?_)
     · have h3 := of_decide_eq_true h3
       have h4 : i < hs.length := by omega
       have hp1 := RsE.o (G := G) (L := bagS 63 pieceT (hps hs) :: []) (xs := hps hs) i (by rw [hps_len]; exact h4)
       have ho1 := RsE.o (G := G) (L := bagS 2 intT (hos hs) :: []) (xs := hos hs) i (by rw [hos_len]; exact h4)
       rw [hps_gd h4] at hp1
       rw [hos_gd h4] at ho1
       refine WP.skip (WP.seq (WP.block (WP.seq (WP.region (RG.ml rfl rfl rfl (RG.pv rfl (PV.idxS (v := v1) rfl Is74 rfl SlF.o rfl rfl (by omega)) (RG.pv rfl (PV.loadE rfl Ag82 rfl rfl (El.o (getG (by omega)))) ?_)))))))
       refine RG.ot rfl (OT.alloc rfl Zr82 fun b10 => ?_)
       refine RG.mr rfl rfl rfl ?_
       refine RG.ot rfl (OT.storeW (vs := [_, _]) rfl Sz82 rfl rfl (Cl.c rfl) rfl rfl (OneC.sl (SlF.r hp1) (OneC.sl (SlF.r ho1) OneC.nil)) ?_)
       refine RG.nil (WP.seq (WP.region (RG.pv rfl (PV.field rfl Fo82_1 rfl) (RG.pv rfl (PV.load1 rfl Sc26 rfl (Rd.blk rfl)) (RG.pv rfl (PV.len rfl Tryz.underlying26 rfl (SlF.r ho1)) (RG.pv rfl (PV.eql rfl rfl rfl) (RG.nil ?_)))))))
       refine WP.cond rfl (fun h5 => ?_) (fun h5 => ?_)
       · have h5 : (gd hs i).occs.xs.length = 1 := by have := of_decide_eq_true h5; omega
         refine WP.region (RG.pv rfl (PV.move (v := q) rfl rfl) (RG.ml rfl rfl rfl ?_))
         refine RG.ot rfl (OT.bslice (F := intT) (els := [_]) rfl El26 rfl (by decide) rfl (by decide) ⟨rfl, (Cl.c rfl), trivial⟩ fun v34 => ?_)
         refine RG.ot rfl (OT.append (v := q) (u := v34) (F := intT) rfl El26 rfl (by decide) rfl rfl Rs.o (OneL.c (fun _ => rfl)) rfl (by first | omega | (simp <;> omega)) fun v35 => ?_)
         refine RG.pv rfl (PV.asg (v := v35) rfl rfl) (RG.nil (WP.region (RG.pv rfl (PV.add rfl rfl rfl (by omega)) (RG.ml rfl rfl rfl (RG.nil ?_)))))
         exact ⟨rfl, i + 1, v35, (by omega), ⟨rfl, rfl, trivial⟩, ⟨rfl, rfl, trivial⟩, ((Cv.p (C := osl 2 intT v35 (inTo H i ++ [(i : Int)]) :: osl 82 hnetT v1 hs :: bagS 63 pieceT (hps hs) :: bagS 2 intT (hos hs) :: bagS 140 rectT (hrg hs) :: L)).trans (Cv.eqS (by rw [inTo_yes (by rw [hH i h4]; exact h5)]))), by omega⟩
       · have h5 : (gd hs i).occs.xs.length ≠ 1 := by have := of_decide_eq_false h5; omega
         refine WP.skip (WP.region (RG.pv rfl (PV.add rfl rfl rfl (by omega)) (RG.ml rfl rfl rfl (RG.nil ?_))))
         exact ⟨rfl, i + 1, q, (by omega), ⟨rfl, rfl, trivial⟩, ⟨rfl, rfl, trivial⟩, ((Cv.p (C := osl 2 intT q (inTo H i) :: osl 82 hnetT v1 hs :: bagS 63 pieceT (hps hs) :: bagS 2 intT (hos hs) :: bagS 140 rectT (hrg hs) :: L)).trans (Cv.eqS (by rw [inTo_no (by rw [hH i h4]; exact h5)]))), by omega⟩
     · have h3 := of_decide_eq_false h3
       obtain rfl : i = hs.length := by omega
       rw [← hsl] at k
       refine WP.exit ?_
       refine WP.seq (WP.region (RG.pv rfl (PV.move (v := q) rfl rfl) (RG.pv rfl (PV.asg (v := q) rfl rfl) (RG.mr rfl rfl rfl (RG.nil ?_)))))
       refine WP.ret ?_
       exact ⟨_, _, ResV.two rfl rfl rfl, Cv.p, k q⟩
 · rw [ntI_no h1] at k
   refine CallT.enter (args := _) Tryz.func34 rfl rfl (by kernel_rfl) rfl ?_
   refine WP.seq (WP.region ?_)
   refine RG.ot rfl (OT.box (cs := libT.enc l) rfl rfl rfl fun b2 => ?_)
   refine RG.pv rfl (PV.asg rfl rfl) (RG.mr rfl rfl rfl (RG.nil (WP.seq (WP.region (RG.pv rfl (PV.loadW rfl Ag31 rfl rfl) (RG.ml rfl rfl rfl ?_))))))
   refine RG.callF (vs := [_, _]) rfl rfl En42 rfl (hnets_i hL.up hlen (fun _ => ?_) (fun h => absurd h h1))
   refine RG.pv rfl (PV.move (v := .tuple _) rfl rfl) (RG.pv rfl (PV.ext rfl rfl rfl) (RG.pv rfl (PV.ext rfl rfl rfl) (RG.pv rfl (PV.asg rfl rfl) (RG.mr rfl rfl rfl (RG.nil (WP.seq (WP.seq ?_)))))))
   refine WP.region (RG.ml rfl rfl rfl (RG.pv rfl (PV.neq rfl rfl rfl) (RG.nil ?_)))
   refine WP.cond rfl (fun h2 => ?_) (fun h2 => ?_)
   · refine WP.seq ?_
     refine WP.region (RG.ml rfl rfl rfl (RG.pv rfl (PV.asg rfl rfl) (RG.mr rfl rfl rfl (RG.nil ?_))))
     refine WP.ret ?_
     exact ⟨_, _, ResV.two rfl rfl rfl, (Cv.p (C := L)).trans Cv.nilS, k (.slice none 0 0)⟩
   · exfalso; simp at h2; exact h1 h2
theorem dIN_s {cv : Value} {bs : List UInt8} (hcode : SL G byteT cv bs) (k : ∀ v xs n, CellsL xs → R (.tuple #[vT libT ⟨⟨v, xs⟩⟩, vi n]) G (osl 116 cellT v (xs) :: bagS 142 shapeT (shs (xs)) :: bagS 193 labelT (lbs (xs)) :: bagS 195 instT (ins (xs)) :: L)) : CallT Tryz.prog 33 #[cv] G L R := by
 refine CallT.enter (args := _) Tryz.func33 rfl rfl (by kernel_rfl) rfl ?_
 refine WP.seq (WP.region ?_)
 refine RG.ot rfl (OT.alloc rfl Zr31 fun b2 => ?_)
 refine RG.mr rfl rfl rfl (RG.nil (WP.seq (WP.region (RG.pv rfl (PV.move (v := cv) rfl rfl) ?_))))
 refine RG.callF (vs := [cv]) rfl rfl En44 rfl (dCell_s hcode (fun w5 xs n hx => ?_))
 refine RG.pv rfl (PV.ext rfl rfl rfl) (RG.pv rfl (PV.ext rfl rfl rfl) ?_)
 refine RG.ot rfl (OT.storeW (vs := [_]) rfl Sz31 rfl rfl (Cl.c rfl) rfl rfl (OneC.sl (SlF.o (v := w5)) OneC.nil) ?_)
 refine RG.mr rfl rfl rfl (RG.nil ?_)
 refine WP.ret ?_
 exact ⟨_, _, ResV.two rfl (RV1.cell rfl Ag31 rfl) rfl, Cv.p, k w5 xs _ hx⟩
theorem hnN_len2 {cs : List ECell} {cell : Int} {zs : List Net} (h : (er (nps zs)).map erPs = hnN cs cell) : zs.length = (hnN cs cell).length := by
 have := congrArg List.length h; rwa [List.length_map, er_len, nps_len] at this
theorem ntI_len (cs : List ECell) (cell : Int) : (ntI cs cell).length ≤ 24 := by
 by_cases h : hnC cs cell = 0
 · have h1 := hnR_len h
   have h2 := inTo_len (hnR cs cell) (hnR cs cell).length
   rw [ntI]; omega
 · rw [ntI_no h]; simp
theorem law_InternalNets {cv : Value} {bs : List UInt8} (hcode : SL G byteT cv bs) (k : R (.bool true) G L) : CallT Tryz.prog 7 #[cv] G L R := by
 refine CallT.enter (args := _) Tryz.func7 rfl rfl (by kernel_rfl) rfl ?_
 refine WP.seq (WP.region (RG.br rfl rfl rfl (RG.nil (WP.seq (WP.seq (WP.region (RG.pv rfl (PV.move (v := cv) rfl rfl) ?_)))))))
 refine RG.callF (vs := [cv]) rfl rfl En19 rfl (big_s hcode ?_)
 refine RG.nil ?_
 refine WP.cond rfl (fun h0 => ?_) (fun h0 => ?_)
 · refine WP.seq ?_
   refine WP.region (RG.br rfl rfl rfl (RG.nil ?_))
   refine WP.ret ?_
   exact ⟨_, _, ResV.one rfl rfl, Cv.p, k⟩
 · refine WP.skip ?_
   refine WP.seq (WP.region (RG.pv rfl (PV.move (v := cv) rfl rfl) ?_))
   refine RG.callF (vs := [cv]) rfl rfl En33 rfl (dIN_s hcode (fun w18 xs n hx => ?_))
   refine RG.pv rfl (PV.move (v := .tuple _) rfl rfl) (RG.pv rfl (PV.ext rfl rfl rfl) (RG.pv rfl (PV.ext rfl rfl rfl) ?_))
   refine RG.ot rfl (OT.alloc rfl Zr31 fun b3 => ?_)
   refine RG.ot rfl (OT.storeW (vs := [_]) rfl Sz31 rfl rfl (Cl.c rfl) rfl rfl (OneC.sl (SlF.o (v := w18)) OneC.nil) ?_)
   refine RG.mr rfl rfl rfl (RG.nil (WP.seq (WP.region (RG.pv rfl (PV.loadW rfl Ag31 rfl rfl) (RG.ml rfl rfl rfl ?_)))))
   refine RG.callF (vs := [_, _]) rfl rfl En34 rfl (inter_i (l := ⟨⟨w18, xs⟩⟩) ⟨Rs.o, RsE.o, RsE.o, RsE.o⟩ hx.lenC (fun w24 => ?_))
   refine RG.pv rfl (PV.move (v := .tuple _) rfl rfl) (RG.pv rfl (PV.ext (v := w24) rfl rfl rfl) (RG.pv rfl (PV.ext rfl rfl rfl) (RG.pv rfl (PV.asg (v := w24) rfl rfl) (RG.mr rfl rfl rfl (RG.nil (WP.seq (WP.region ?_)))))))
   refine RG.pv rfl (PV.loadW rfl Ag31 rfl rfl) (RG.ml rfl rfl rfl ?_)
   refine RG.callF (vs := [_, _]) rfl rfl En21 rfl (hier_i (l := ⟨⟨w18, xs⟩⟩) ⟨Rs.o, RsE.o, RsE.o, RsE.o⟩ hx.lenC (fun w30 zsw30 hew30 => ?_))
   refine RG.pv rfl (PV.move (v := .tuple _) rfl rfl) (RG.pv rfl (PV.ext (v := w30) rfl rfl rfl) (RG.pv rfl (PV.ext rfl rfl rfl) (RG.pv rfl (PV.asg (v := w30) rfl rfl) (RG.mr rfl rfl rfl (RG.nil (WP.seq (WP.seq ?_)))))))
   refine WP.region (RG.ml rfl rfl rfl (RG.ml rfl rfl rfl (RG.pv rfl (PV.neq rfl rfl rfl) (RG.bl rfl rfl rfl ?_))))
   refine RG.gs rfl rfl rfl (fun hp => (PV.mvI (.inl rfl) rfl)) ?_
   refine RG.gs rfl rfl rfl (fun hp => (PV.neq rfl (gs_t hp) rfl)) ?_
   refine RG.pv rfl (PV.pickO rfl rfl rfl (fun hq => gs_t (geqF hq))) (RG.nil ?_)
   have hzl := hnN_len2 hew30
   have hil := ntI_len (erCls xs) n
   refine WP.cond rfl (fun h1 => ?_) (fun h1 => ?_)
   · have h1 : hnC (erCls xs) n ≠ 0 := by simpa using h1
     have hb : (decide (hnC (erCls xs) n = hnC (erCls xs) n) && decide (((ntI (erCls xs) n).length : Int) = 0)) = true := by rw [ntI_no h1]; simp
     rw [← hb] at k
     refine WP.seq (WP.region (RG.ml rfl rfl rfl (RG.ml rfl rfl rfl (RG.pv rfl (PV.eql rfl rfl rfl) (RG.bl rfl rfl rfl ?_)))))
     refine RG.gs rfl rfl rfl (fun hp => (PV.move (v := w24) rfl rfl)) ?_
     refine RG.gs rfl rfl rfl (fun hp => (PV.len (v := w24) rfl Tryz.underlying26 (gs_t hp) SlF.o)) ?_
     refine RG.gs rfl rfl rfl (fun hp => (PV.eql rfl (gs_t hp) rfl)) ?_
     refine RG.pv rfl (PV.pickA rfl rfl (fun hq => gs_t (geqT hq)) rfl) (RG.br rfl rfl rfl (RG.nil ?_))
     refine WP.ret ?_
     exact ⟨_, _, ResV.one rfl rfl, Cv.p, k⟩
   · have h1 : hnC (erCls xs) n = 0 := by simpa using h1
     have hN : zsw30.length = netN (flyL (erCls xs) n) := by rw [hzl, hnN, if_pos h1, netL_len]
     have hN4 := (hnR_len h1).2
     refine WP.skip (WP.seq (WP.region (RG.pv rfl (PV.move (v := cv) rfl rfl) ?_)))
     refine RG.callF (vs := [cv, _]) rfl rfl En30 rfl (roll_s hcode (fun b => ?_))
     refine RG.pv rfl (PV.move (v := w30) rfl rfl) (RG.pv rfl (PV.len (v := w30) rfl Tryz.underlying44 rfl SlF.o) (RG.pv rfl (PV.add rfl rfl rfl (by omega)) ?_))
     refine RG.callF (vs := [_, _]) rfl rfl En31 rfl (CallT.exC (dice b cv) (below_s hcode (by omega) (fun w53 hw53 => ?_)))
     refine RG.mr rfl rfl rfl (RG.nil (WP.seq (WP.region (RG.pv rfl (PV.loadW rfl Ag31 rfl rfl) (RG.ml rfl rfl rfl (RG.ml rfl rfl rfl ?_))))))
     refine RG.callF (vs := [_, _, _]) rfl rfl En18 rfl (netOcc_i (l := ⟨⟨w18, xs⟩⟩) (net := w53) ⟨Rs.o, RsE.o, RsE.o, RsE.o⟩ hx.lenC (fun w58 => ?_))
     refine RG.pv rfl (PV.move (v := .tuple _) rfl rfl) (RG.pv rfl (PV.ext (v := w58) rfl rfl rfl) (RG.pv rfl (PV.ext rfl rfl rfl) (RG.pv rfl (PV.asg (v := w58) rfl rfl) (RG.mr rfl rfl rfl (RG.nil (WP.seq (WP.seq ?_)))))))
     refine WP.region (RG.ml rfl rfl rfl (RG.pv rfl (PV.move (v := w30) rfl rfl) (RG.pv rfl (PV.len (v := w30) rfl Tryz.underlying44 rfl SlF.o) (RG.pv rfl (PV.eql rfl rfl rfl) (RG.nil ?_)))))
     refine WP.cond rfl (fun h2 => ?_) (fun h2 => ?_)
     · have h2 : w53 = (netN (flyL (erCls xs) n) : Int) := by have := of_decide_eq_true h2; omega
       have e1 : noC (erCls xs) n w53 = 5 := by rw [noC, if_pos h1, if_neg (by omega)]
       have e2 := noR_no (cs := erCls xs) (cell := n) (net := w53) (by rw [e1]; decide)
       have hb : (decide (noC (erCls xs) n w53 = 5) && decide (((noR (erCls xs) n w53).length : Int) = 0)) = true := by rw [e1, e2]; simp
       rw [← hb] at k
       refine WP.seq (WP.region (RG.ml rfl rfl rfl (RG.pv rfl (PV.eql rfl rfl rfl) (RG.bl rfl rfl rfl ?_))))
       refine RG.gs rfl rfl rfl (fun hp => (PV.move (v := w58) rfl rfl)) ?_
       refine RG.gs rfl rfl rfl (fun hp => (PV.len (v := w58) rfl Tryz.underlying26 (gs_t hp) SlF.o)) ?_
       refine RG.gs rfl rfl rfl (fun hp => (PV.eql rfl (gs_t hp) rfl)) ?_
       refine RG.pv rfl (PV.pickA rfl rfl (fun hq => gs_t (geqT hq)) rfl) (RG.br rfl rfl rfl (RG.nil ?_))
       refine WP.ret ?_
       exact ⟨_, _, ResV.one rfl rfl, Cv.p, k⟩
     · have h2 : w53 ≠ (zsw30.length : Int) := of_decide_eq_false h2
       have h3 : 0 ≤ w53 ∧ w53 < netN (flyL (erCls xs) n) := by omega
       have e1 : noC (erCls xs) n w53 = 0 := by rw [noC, if_pos h1, if_pos h3]
       obtain ⟨m, hm⟩ := Int.eq_ofNat_of_zero_le h3.1
       have hm1 : m < netN (flyL (erCls xs) n) := by omega
       have g1 := ntI_mem h1 hm1
       have g2 := noR_pos h1 hm1
       rw [← hm] at g1 g2
       generalize hI : ntI (erCls xs) n = I at *
       generalize hO : noR (erCls xs) n w53 = O at *
       refine WP.skip (WP.seq (WP.region (RG.br rfl rfl rfl (RG.nil (WP.seq (WP.seq (WP.region ?_)))))))
       refine RG.mr rfl rfl rfl (RG.nil (WP.block ?_))
       refine WP.loop2 [5, 9, 10, 11] (fun (i : Nat) (fd : Bool) => i ≤ I.length ∧ fd = (I.take i).any (fun x => decide (x = w53))) (fun (i : Nat) (fd : Bool) => [(13, vi i), (12, .bool fd)]) (fun (i : Nat) (fd : Bool) => osl 2 intT w58 O :: osl 2 intT w24 I :: L) (fun (i : Nat) (fd : Bool) => I.length - i) 0 false ⟨by omega, rfl⟩ ⟨rfl, rfl, trivial⟩ Cv.p ?_
       rintro i fd τ ⟨hi, hf⟩
       refine WP.seq (WP.seq (WP.region (RG.ml rfl rfl rfl (RG.pv rfl (PV.move (v := w24) rfl rfl) (RG.pv rfl (PV.len (v := w24) rfl Tryz.underlying26 rfl SlF.o) (RG.pv rfl (PV.lss rfl rfl rfl) (RG.nil ?_)))))))
       refine WP.cond rfl (fun h5 => ?_) (fun h5 => ?_)
       · have h5 := of_decide_eq_true h5
         have h6 : i < I.length := by omega
         refine WP.skip (WP.seq (WP.block (WP.region (RG.bl rfl rfl rfl (RG.bl rfl rfl rfl ?_)))))
         refine RG.gs rfl rfl rfl (fun hp => (PV.move (v := w24) rfl rfl)) ?_
         refine RG.gs rfl rfl rfl (fun hp => (PV.mvI (.inl rfl) rfl)) ?_
         refine RG.gs rfl rfl rfl (fun hp => (PV.idxS (v := w24) rfl Is26 (gs_t hp) SlF.o (gs_t hp) rfl (by first | omega | (simp at hp; omega)))) ?_
         refine RG.gs rfl rfl rfl (fun hp => (PV.loadE1 rfl Sc2 (gs_t hp) rfl (El.o (getG (by first | omega | (simp at hp; omega)))) rfl)) ?_
         refine RG.gs rfl rfl rfl (fun hp => (PV.mvI (.inl rfl) rfl)) ?_
         refine RG.gs rfl rfl rfl (fun hp => (PV.eql rfl (gs_t hp) (gs_t hp))) ?_
         refine RG.pv rfl (PV.pickO rfl rfl rfl (fun hq => gs_t (geqF hq))) (RG.br rfl rfl rfl (RG.nil (WP.region (RG.ml rfl rfl rfl (RG.pv rfl (PV.add rfl rfl rfl (by omega)) (RG.mr rfl rfl rfl (RG.nil ?_)))))))
         exact ⟨rfl, i + 1, (fd || decide (gd I i = w53)), ⟨by omega, by rw [hf, List.take_add_one, getG h6, List.any_append]; simp⟩, ⟨rfl, rfl, trivial⟩, ⟨rfl, rfl, rfl, rfl, trivial⟩, Cv.p, by omega⟩
       · have h5 := of_decide_eq_false h5
         obtain rfl : i = I.length := by omega
         rw [List.take_length] at hf
         have hfd : fd = decide (O.length = 1) := by
           rw [hf, Bool.eq_iff_iff, decide_eq_true_iff, ← g1, List.any_eq_true]
           constructor
           · rintro ⟨x, hx, e⟩; rw [← of_decide_eq_true e]; exact hx
           · intro hx; exact ⟨_, hx, decide_eq_true rfl⟩
         have hb : (decide (noC (erCls xs) n w53 = 0) && decide (0 < (O.length : Int)) && decide (fd = decide ((O.length : Int) = 1))) = true := by
           rw [e1, hfd]
           have : decide (0 < (O.length : Int)) = true := decide_eq_true (by omega)
           rw [this]
           by_cases c : O.length = 1
           · simp [c]
           · have : ¬ (O.length : Int) = 1 := by omega
             simp [c, this]
         rw [← hb] at k
         refine WP.exit ?_
         refine WP.seq (WP.region (RG.ml rfl rfl rfl (RG.pv rfl (PV.eql rfl rfl rfl) (RG.bl rfl rfl rfl ?_))))
         refine RG.gs rfl rfl rfl (fun hp => (PV.move (v := w58) rfl rfl)) ?_
         refine RG.gs rfl rfl rfl (fun hp => (PV.len (v := w58) rfl Tryz.underlying26 (gs_t hp) SlF.o)) ?_
         refine RG.gs rfl rfl rfl (fun hp => (PV.gtr rfl (gs_t hp) rfl)) ?_
         refine RG.pv rfl (PV.pickA rfl rfl (fun hq => gs_t (geqT hq)) rfl) (RG.bl rfl rfl rfl ?_)
         refine RG.gs rfl rfl rfl (fun hp => (PV.mvB (.inl rfl) rfl)) ?_
         refine RG.gs rfl rfl rfl (fun hp => (PV.move (v := w58) rfl rfl)) ?_
         refine RG.gs rfl rfl rfl (fun hp => (PV.len (v := w58) rfl Tryz.underlying26 (gs_t hp) SlF.o)) ?_
         refine RG.gs rfl rfl rfl (fun hp => (PV.eql rfl (gs_t hp) rfl)) ?_
         refine RG.gs rfl rfl rfl (fun hp => (PV.eqlB rfl Tryz.underlying4 (gs_t hp) (gs_t hp))) ?_
         refine RG.pv rfl (PV.pickA rfl rfl (fun hq => gs_t (geqT hq)) rfl) (RG.br rfl rfl rfl (RG.nil ?_))
         refine WP.ret ?_
         exact ⟨_, _, ResV.one rfl rfl, Cv.p, k⟩
end Go.Proofs.YthhjapiggekjbaaGreat
namespace Go.Proofs.YthhjapiggekjbaaGreat
set_option linter.unusedVariables false
set_option linter.unusedSimpArgs false
open Go Go.ChangeShapes Go.WideShapes Go.ChangeAt Go.RowKit
set_option linter.unusedSimpArgs false
def okU8 (_ : Gh) (_ : UInt8) : Prop := True
theorem opnU8 {P : Program} {t : TypeId} (ht : P.underlying t = some (.int .u8)) : Opn P t byteT okU8 := fun h => by
 obtain ⟨n, rfl, _, hw⟩ := DataW.trod_int ht h
 have : IntKind.u8.min ≤ n ∧ n ≤ IntKind.u8.max := by simpa [Lit.wf] using hw
 simp only [show IntKind.u8.min = 0 from rfl, show IntKind.u8.max = 255 from rfl] at this
 refine ⟨UInt8.ofNat n.toNat, ?_, trivial⟩
 simp only [byteT, UInt8.toNat_ofNat']
 congr 2
 omega
set_option maxRecDepth 100000
theorem Tryz.own : ownKnob Tryz.prog.godebug = none := by kernel_rfl
theorem Tryz.laidOut : laidOutB Tryz.prog = true := by kernel_rfl
theorem fnInternalNets_lifted (os : Os) (started : os.Started) (H : Type) (enc : TypeId × Value → H) :
   ReturnsInHanded {} Tryz.checked os 7 .any (Rows.fnInternalNetsSpec.pre6 enc Tryz.prog Tryz.f7 [] false) (Rows.fnInternalNetsSpec.post enc Tryz.prog Tryz.f7 false true false false) := by
 refine law_lifted (C := Tryz.checked) Tryz.own started (by kernel_rfl) Tryz.func7 Tryz.laidOut rfl (by kernel_rfl) rfl Tryz.underlying4 (fun ds h => ?_)
   (ChangeSpec.witness6 (enc := enc) (C := Tryz.checked) false ⟨#[], #[.slice none 0 0], []⟩ 8 (by kernel_rfl) (by kernel_rfl) (by kernel_rfl) (by kernel_rfl)) ?_
 · match ds, h with
   | [d], _ => rfl
 · intro W base args ds ps hval hA
   have hA : DataW.TrodAll enc Tryz.prog W 0 (fun _ => true) true Tryz.f7.params.toList args.toList ds ps := hA
   have hval : ∀ (j : Nat) t v, Tryz.f7.params[j]? = some t → args[j]? = some v → Value.okWide Tryz.prog W .any base t v := hval
   rw [Tryz.params7] at hA hval
   obtain ⟨v0, d0, rfl, rfl, h0⟩ := trodAll_one hA
   obtain ⟨s, rfl, q1, _⟩ := argSl Tryz.underlying40 (opnSl (F := byteT) (ok := okU8) Tryz.underlying40 (opnU8 Tryz.underlying5) (by kernel_rfl) (by decide)) (hval 0 _ v0 rfl rfl) h0
   exact law_InternalNets q1 ⟨rfl, Gh.le_refl _⟩
theorem fnInternalNets_holds : Rows.FnInternalNetsSaid :=
 OpenClaim.holds_of_wide 7 Tryz.f7 rfl rfl rfl rfl rfl rfl rfl ⟨rfl, rfl, rfl, rfl, rfl⟩ rfl rfl rfl rfl rfl (by kernel_rfl) Tryz.func7 (by kernel_rfl)
   (of_decide_eq_true (by kernel_rfl)) (by unfold Func.isWrapper; first | (rw [if_pos (by decide +kernel)]; kernel_rfl) | (rw [if_neg (by decide +kernel)]; exact ⟨rfl, rfl⟩))
   (fun os started H enc _ => fnInternalNets_lifted os started H enc)
end Go.Proofs.YthhjapiggekjbaaGreat
