/-
  The law FnExactNetOccurrences: whatever the library and the number, the law returns true and all read as before.
-/
import Derived.Test.YthhjapiggekjbaaGreatTA6
import Derived.Test.YthhjapiggekjbaaGreatRows
import Derived.Carry
namespace Go.Proofs.YthhjapiggekjbaaGreat
set_option linter.unusedVariables false
set_option linter.unusedSimpArgs false
open Go
set_option maxRecDepth 20000
set_option maxHeartbeats 2000000
set_option linter.unusedSimpArgs false
variable {G : Gh} {L : List Ch} {R : Value → Gh → List Ch → Prop}
def cmpN (a b : HNet) : Int := cmpP (erP (gd a.net.pieces.xs 0)) (erP (gd b.net.pieces.xs 0))
theorem sortH_s {v : Value} {hs : List HNet} (h1 : RsE G L pieceT (hps hs)) (h2 : RsE G L intT (hos hs)) (h3 : RsE G L rectT (hrg hs)) (hn : hs.length ≤ 400) (hg : ∀ h ∈ hs, 0 < h.net.pieces.xs.length ∧ 0 < (gd h.net.pieces.xs 0).reg.xs.length ∧ 0 ≤ (gd h.net.pieces.xs 0).layer ∧ (gd h.net.pieces.xs 0).layer ≤ 7)
   (k : ∀ zs : List HNet, zs.Perm hs → zs.Pairwise (fun a b => ¬ cmpN b a < 0) → R (.tuple #[]) G (osl 82 hnetT v zs :: L)) : CallT Tryz.prog 75 #[v, .func (.func 76) #[] #[]] G (osl 82 hnetT v hs :: L) R := by
 have r1 : ∀ x ∈ hs, Rs G L pieceT x.net.pieces.v x.net.pieces.xs := fun x hx => by
   obtain ⟨i, hi, e⟩ := List.getElem_of_mem hx
   have := h1 i (by rw [hps_len]; exact hi)
   rwa [hps_gd hi, gd_eq hi, e] at this
 have r2 : ∀ x ∈ hs, Rs G L intT x.occs.v x.occs.xs := fun x hx => by
   obtain ⟨i, hi, e⟩ := List.getElem_of_mem hx
   have := h2 i (by rw [hos_len]; exact hi)
   rwa [hos_gd hi, gd_eq hi, e] at this
 refine CallT.of fun w hs0 => ?_
 have hw : St G L w := hs0.cv Cv.p
 refine (sortF sortN (F := hnetT) (cf := cmpN) (fun w => (Ag82 w).1) (fun w => Sz82 w) En76 (by omega) (fun x hx u hu => ?_) (fun x hx => cmpP_irr _) (fun x _ y _ z _ => cmpP_tr) (fun x _ y _ z _ => cmpP_nt) (fun W hW x hx y hy => ?_) k).run hs0
 · simp only [hnetT, List.mem_cons, List.not_mem_nil, or_false] at hu
   rcases hu with rfl | rfl
   · exact (r1 x hx w hw).1.one
   · exact (r2 x hx w hw).1.one
 · obtain ⟨a1, a2, a3⟩ := hg x hx
   obtain ⟨b1, b2, b3⟩ := hg y hy
   exact cmpH_s ((r1 x hx).at hW) ((r1 y hy).at hW) a1 b1 ((h3.hReg hx a1).at hW) ((h3.hReg hy b1).at hW) a2 b2 a3 b3 ⟨rfl, rfl⟩
noncomputable def hnC (cs : List ECell) (cell : Int) : Int := if hcC cs cell = 0 then netE (flyL cs cell) else hcC cs cell
noncomputable def hnR (cs : List ECell) (cell : Int) : List (List (Int × List Rect) × List Int) := if hnC cs cell = 0 then netH (flyL cs cell) (plE cs cell) ((ppAll cs cell).map Prod.fst) else []
theorem hnets_i {l : Lib} {cell : Int} (hL : RLib G L l.cells.v l.cells.xs) (hlen : lenC (erCls l.cells.xs)) (k0 : hnC (erCls l.cells.xs) cell ≠ 0 → R (.tuple #[.slice none 0 0, vi (hnC (erCls l.cells.xs) cell)]) G L)
   (k : hnC (erCls l.cells.xs) cell = 0 → ∀ v hs, hs.map erH = hnR (erCls l.cells.xs) cell → R (.tuple #[v, vi 0]) G (osl 82 hnetT v hs :: bagS 63 pieceT (hps hs) :: bagS 2 intT (hos hs) :: bagS 140 rectT (hrg hs) :: L)) : CallT Tryz.prog 42 #[vT libT l, vi cell] G L R := by
 by_cases h1 : hcC (erCls l.cells.xs) cell = 0
 · obtain ⟨h0, hPA⟩ := hc_all h1
   have hly := isLay_fly h0
   have hnc : hnC (erCls l.cells.xs) cell = netE (flyL (erCls l.cells.xs) cell) := by rw [hnC, if_pos h1]
   have hpl := (ppC_0 (hcC_0 h1).1).2
   have hpe := plE_len (erCls l.cells.xs) cell
   have hcl := clsH_len (flyL (erCls l.cells.xs) cell) (plE (erCls l.cells.xs) cell)
   refine CallT.enter (args := _) Tryz.func42 rfl rfl (by kernel_rfl) rfl ?_
   refine WP.seq (WP.region ?_)
   refine RG.ot rfl (OT.box (cs := libT.enc l) rfl rfl rfl fun b2 => ?_)
   refine RG.pv rfl (PV.asg rfl rfl) (RG.mr rfl rfl rfl (RG.nil (WP.seq (WP.region (RG.pv rfl (PV.loadW rfl Ag31 rfl rfl) (RG.ml rfl rfl rfl ?_))))))
   refine RG.callF (vs := [_, _]) rfl rfl En38 rfl (pcls_i hL.up hlen (fun h => absurd h1 h) (fun _ v1 qs v2 hq => ?_))
   refine RG.pv rfl (PV.move (v := .tuple _) rfl rfl) (RG.pv rfl (PV.ext (v := v1) rfl rfl rfl) (RG.pv rfl (PV.ext (v := v2) rfl rfl rfl) (RG.pv rfl (PV.ext rfl rfl rfl) (RG.pv rfl (PV.asg (v := v1) rfl rfl) (RG.pv rfl (PV.asg (v := v2) rfl rfl) (RG.mr rfl rfl rfl (RG.nil ?_)))))))
   refine WP.seq (WP.seq (WP.region (RG.ml rfl rfl rfl (RG.pv rfl (PV.neq rfl rfl rfl) (RG.nil ?_)))))
   have hE : (erQs qs).map Prod.snd = plE (erCls l.cells.xs) cell := by rw [hq]; rfl
   have hO : (erQs qs).map Prod.fst = (ppAll (erCls l.cells.xs) cell).map Prod.fst := by rw [hq]
   have hql : qs.length = (plE (erCls l.cells.xs) cell).length := by rw [← hE]; simp [erQs]
   have hgO : ∀ i, i < qs.length → gd ((ppAll (erCls l.cells.xs) cell).map Prod.fst) i = (gd qs i).occ := fun i hi => by
     rw [← hO, gd_map _ (by simpa [erQs] using hi), erQs, gd_map _ hi]; rfl
   have hgE : ∀ i, i < qs.length → gd (plE (erCls l.cells.xs) cell) i = erP (gd qs i).piece := fun i hi => by rw [← hE, erQs_snd hi]
   have hly4 : ∀ i, i < qs.length → 0 ≤ (gd qs i).piece.layer ∧ (gd qs i).piece.layer < 8 := fun i hi => by
     obtain ⟨j, hj⟩ := hPA.mem _ (gd_mem (show i < (plE (erCls l.cells.xs) cell).length by omega))
     have h2 := hj.lay
     have h3 := hj.hi
     rw [hgE i hi] at h2
     have h4 : (gd qs i).piece.layer = gd [0, 1, 3, 5] j := h2
     rw [h4]
     rcases (by omega : j = 0 ∨ j = 1 ∨ j = 2 ∨ j = 3) with rfl | rfl | rfl | rfl <;> simp [gd]
   have hun : ∀ C f n, (er (rgTo qs C f n qs.length)).flatten = uniR (plE (erCls l.cells.xs) cell) C f n := fun C f n => by rw [rgTo_uni, hE]
   have hsort := fun zs => hPA.hsort (O := (ppAll (erCls l.cells.xs) cell).map Prod.fst) (zs := zs) hly
   have hgood := fun x => hPA.hgood (O := (ppAll (erCls l.cells.xs) cell).map Prod.fst) (x := x) hly
   have hnl := netE_ok (l := flyL (erCls l.cells.xs) cell)
   rw [← hql] at hcl
   generalize hO2 : (ppAll (erCls l.cells.xs) cell).map Prod.fst = O at *
   generalize hE2 : plE (erCls l.cells.xs) cell = E at *
   generalize hC2 : clsH (flyL (erCls l.cells.xs) cell) E = C at *
   refine WP.cond rfl (fun hx => ?_) (fun hx => ?_)
   · simp at hx
   · refine WP.skip ?_
     refine WP.seq (WP.region ?_)
     refine RG.ot rfl (OT.bslice (F := hnetT) (els := []) rfl El74 rfl (by decide) rfl (by decide) trivial fun v29 => ?_)
     refine RG.pv rfl (PV.asg (v := v29) rfl rfl) (RG.nil (WP.seq (WP.seq (WP.region (RG.pv rfl (PV.move (v := v1) rfl rfl) (RG.pv rfl (PV.len (v := v1) rfl Tryz.underlying53 rfl SlF.o) (RG.ml rfl rfl rfl ?_)))))))
     refine RG.nil (WP.block ?_)
     refine WP.cv ((Cv.cons (Cv.bag0 (e := 63) (F := pieceT) (xs := hps []) rfl)).trans ((Cv.cons (Cv.cons (Cv.bag0 (e := 2) (F := intT) (xs := hos []) rfl))).trans (Cv.cons (Cv.cons (Cv.cons (Cv.bag0 (e := 140) (F := rectT) (xs := hrg []) rfl)))))) ?_
     refine WP.loop3 [6, 7, 31] (fun (f : Nat) (hs : List HNet) (q : Value) => f ≤ qs.length ∧ hs.map erH = hTo E O C f) (fun (f : Nat) (hs : List HNet) (q : Value) => [(32, vi f), (9, q)]) (fun (f : Nat) (hs : List HNet) (q : Value) => osl 82 hnetT q hs :: bagS 63 pieceT (hps hs) :: bagS 2 intT (hos hs) :: bagS 140 rectT (hrg hs) :: osl 2 intT v2 C :: osl 65 ppieceT v1 qs :: bagS 140 rectT (regsQ qs) :: L) (fun (f : Nat) (hs : List HNet) (q : Value) => qs.length - f) 0 [] v29 ⟨by omega, rfl⟩ ⟨rfl, rfl, trivial⟩ Cv.p ?_
     rintro f hs q τ ⟨hf, hhs⟩
     refine WP.seq (WP.region (RG.pv rfl (PV.lss rfl rfl rfl) (RG.nil (WP.seq ?_))))
     have hsl : hs.length ≤ f := by have h2 := congrArg List.length hhs; have h3 := hTo_len E O C f; rw [List.length_map] at h2; omega
     refine WP.cond rfl (fun h2 => ?_) (fun h2 => ?_)
     · have h2 := of_decide_eq_true h2
       have h20 : f < qs.length := by omega
       refine WP.skip (WP.seq (WP.block (WP.seq (WP.region (RG.ml rfl rfl rfl (RG.mr rfl rfl rfl (RG.nil ?_)))))))
       refine WP.seq (WP.seq (WP.region (RG.pv rfl (PV.move (v := v2) rfl rfl) (RG.ml rfl rfl rfl (RG.pv rfl (PV.idxS (v := v2) rfl Is26 rfl SlF.o rfl rfl (by omega)) (RG.pv rfl (PV.loadE1 rfl Sc2 rfl rfl (El.o (getG (by omega))) rfl) (RG.ml rfl rfl rfl ?_)))))))
       refine RG.pv rfl (PV.neq rfl rfl rfl) (RG.nil ?_)
       refine WP.cond rfl (fun h3 => ?_) (fun h3 => ?_)
       · have h3 : gd C f ≠ (f : Int) := by simpa using h3
         refine WP.exit ?_
         refine WP.region (RG.pv rfl (PV.add rfl rfl rfl (by omega)) (RG.ml rfl rfl rfl (RG.nil ?_)))
         exact ⟨rfl, f + 1, hs, q, ⟨by omega, by rw [hTo_no h3]; exact hhs⟩, ⟨rfl, rfl, trivial⟩, ⟨rfl, rfl, rfl, trivial⟩, Cv.p, by omega⟩
       · have h3 : gd C f = (f : Int) := by simpa using h3
         refine WP.skip ?_
         refine WP.cut2 [6, 7, 9, 10, 31, 32] (fun (b11 : Nat) (w12 : Value) => True) (fun (b11 : Nat) (w12 : Value) => [(11, .pointer (some ⟨b11, 0, none⟩)), (12, w12)]) (fun (b11 : Nat) (w12 : Value) => blk b11 82 (hnetT.enc ⟨⟨⟨.slice none 0 0, []⟩⟩, ⟨.slice none 0 0, []⟩⟩) :: osl 47 slT w12 (List.replicate 8 (⟨.slice none 0 0, []⟩ : Sl (Sl Rect))) :: osl 82 hnetT q hs :: bagS 63 pieceT (hps hs) :: bagS 2 intT (hos hs) :: bagS 140 rectT (hrg hs) :: osl 2 intT v2 C :: osl 65 ppieceT v1 qs :: bagS 140 rectT (regsQ qs) :: L) ?_ ?_
         refine WP.regionH0 (.q 0 (.b 1 (.l 2 (.l 3 (.q 4 Sch.nil))) 2 (.b 1 (.l 3 (.q 4 Sch.nil)) 3 (.l 1 (.q 4 Sch.nil))))) (by kernel_rfl) (by kernel_rfl) (by kernel_rfl) rfl ?_
         refine RH.pv rfl (fun _ _ _ _ h => h) (Gh.le_refl _) PickC.pick rfl (PV.build (vs := []) (out := [_, _]) rfl Zr82 Pl82 trivial rfl) ?_
         · refine RH.ot2 rfl rfl rfl rfl  (OT.make (m := 8) (F := (slT (α := Sl (Rect)))) (a0 := default) rfl El124 rfl (by decide) rfl rfl (by omega) (by omega) fun v42 => ⟨Gh.le_refl _, PickC.pick, ?_⟩) (OT.alloc rfl Zr82 fun b11 => ⟨Gh.le_refl _, PickC.pick, ?_⟩)
           · refine RH.ot rfl rfl (OT.alloc rfl Zr82 fun b11 => ⟨Gh.le_refl _, PickC.pick, ?_⟩)
             refine RH.ot rfl rfl (OT.storeW (vs := [_, _]) rfl Sz82 rfl rfl (Cl.c rfl) rfl rfl (OneC.c rfl) ⟨Gh.le_refl _, PickC.pick, ?_⟩)
             refine RH.pv rfl (fun _ _ _ _ h => h) (Gh.le_refl _) PickC.pick rfl (PV.asg (v := v42) rfl rfl) ?_
             refine RH.nil ?_
             exact ⟨rfl, b11, v42, trivial, ⟨rfl, rfl, trivial⟩, ⟨rfl, rfl, rfl, rfl, rfl, rfl, trivial⟩, Cv.p⟩
           · refine RH.ot2 rfl rfl rfl rfl  (OT.make (m := 8) (F := (slT (α := Sl (Rect)))) (a0 := default) rfl El124 rfl (by decide) rfl rfl (by omega) (by omega) fun v42 => ⟨Gh.le_refl _, PickC.pick, ?_⟩) (OT.storeW (vs := [_, _]) rfl Sz82 rfl rfl (Cl.c rfl) rfl rfl (OneC.c rfl) ⟨Gh.le_refl _, PickC.pick, ?_⟩)
             · refine RH.ot rfl rfl (OT.storeW (vs := [_, _]) rfl Sz82 rfl rfl (Cl.c rfl) rfl rfl (OneC.c rfl) ⟨Gh.le_refl _, PickC.pick, ?_⟩)
               refine RH.pv rfl (fun _ _ _ _ h => h) (Gh.le_refl _) PickC.pick rfl (PV.asg (v := v42) rfl rfl) ?_
               refine RH.nil ?_
               exact ⟨rfl, b11, v42, trivial, ⟨rfl, rfl, trivial⟩, ⟨rfl, rfl, rfl, rfl, rfl, rfl, trivial⟩, Cv.p⟩
             · refine RH.ot rfl rfl (OT.make (m := 8) (F := (slT (α := Sl (Rect)))) (a0 := default) rfl El124 rfl (by decide) rfl rfl (by omega) (by omega) fun v42 => ⟨Gh.le_refl _, PickC.pick, ?_⟩)
               refine RH.pv rfl (fun _ _ _ _ h => h) (Gh.le_refl _) PickC.pick rfl (PV.asg (v := v42) rfl rfl) ?_
               refine RH.nil ?_
               exact ⟨rfl, b11, v42, trivial, ⟨rfl, rfl, trivial⟩, ⟨rfl, rfl, rfl, rfl, rfl, rfl, trivial⟩, Cv.p⟩
         rintro b11 w12 τ5 _
         refine WP.seq (WP.seq (WP.region (RG.pv rfl (PV.move (v := v1) rfl rfl) (RG.pv rfl (PV.len (v := v1) rfl Tryz.underlying53 rfl SlF.o) (RG.ml rfl rfl rfl (RG.nil (WP.block ?_)))))))
         have hcr : ∀ i, i < qs.length → Rs G (bagS 140 rectT (regsQ qs) :: []) rectT (gd qs i).piece.reg.v (gd qs i).piece.reg.xs := fun i hi => RsE.regQ RsE.o hi
         refine WP.cv (Cv.cons ((Cv.nilS (e := 2) (F := intT)).trans (Cv.cons (Cv.cons (Cv.bagRep (e := 50) (F := (slT : FT (Sl Rect))) 8))))) ?_
         refine WP.loop4 [6, 7, 9, 10, 11, 12, 31, 32, 43, 44] (fun (m : Nat) (zs : List (Sl (Sl Rect))) (u : Value) (os : List Int) => m ≤ qs.length ∧ zs.length = 8 ∧ (∀ n, n < 8 → (gd zs n).xs = rgTo qs C f n m) ∧ os = ocTo C O f m) (fun (m : Nat) (zs : List (Sl (Sl Rect))) (u : Value) (os : List Int) => [(45, vi m)]) (fun (m : Nat) (zs : List (Sl (Sl Rect))) (u : Value) (os : List Int) => blk b11 82 (hnetT.enc ⟨⟨⟨.slice none 0 0, []⟩⟩, ⟨u, os⟩⟩) :: osl 2 intT u os :: osl 47 slT w12 zs :: bagS 50 slT zs :: osl 82 hnetT q hs :: bagS 63 pieceT (hps hs) :: bagS 2 intT (hos hs) :: bagS 140 rectT (hrg hs) :: osl 2 intT v2 C :: osl 65 ppieceT v1 qs :: bagS 140 rectT (regsQ qs) :: L) (fun (m : Nat) (zs : List (Sl (Sl Rect))) (u : Value) (os : List Int) => qs.length - m) 0 (List.replicate 8 (⟨.slice none 0 0, []⟩ : Sl (Sl Rect))) (.slice none 0 0) [] ⟨by omega, by simp, fun n hn => by rw [gd_rep8 _ hn]; rfl, rfl⟩ ⟨rfl, trivial⟩ Cv.p ?_
         rintro m zs u os τ1 ⟨hm, hzl, hz, hos1⟩
         refine WP.seq (WP.region (RG.pv rfl (PV.lss rfl rfl rfl) (RG.nil (WP.seq ?_))))
         have hol : os.length ≤ 400 := by rw [hos1]; have := ocTo_len C O f m; omega
         refine WP.cond rfl (fun h4 => ?_) (fun h4 => ?_)
         · have h4 := of_decide_eq_true h4
           have h5 : m < qs.length := by omega
           refine WP.skip (WP.seq (WP.block (WP.seq (WP.region (RG.ml rfl rfl rfl (RG.pv rfl (PV.idxS (v := v1) rfl Is53 rfl SlF.o rfl rfl (by omega)) (RG.pv rfl (PV.loadE rfl Ag65 rfl rfl (El.o (getG (by omega)))) ?_)))))))
           refine RG.ot rfl (OT.alloc rfl Zr65 fun b14 => ?_)
           refine RG.mr rfl rfl rfl ?_
           refine RG.ot rfl (OT.storeW (vs := [vi _, vi _, _]) rfl Sz65 rfl rfl (Cl.c rfl) rfl rfl (OneC.val rfl (OneC.val rfl (OneC.sl (SlF.r (hcr m h5)) OneC.nil))) ?_)
           refine RG.nil (WP.seq (WP.region (RG.pv rfl (PV.move (v := v2) rfl rfl) (RG.ml rfl rfl rfl (RG.pv rfl (PV.idxS (v := v2) rfl Is26 rfl SlF.o rfl rfl (by omega)) (RG.pv rfl (PV.loadE1 rfl Sc2 rfl rfl (El.o (getG (by omega))) rfl) (RG.ml rfl rfl rfl ?_)))))))
           refine RG.pv rfl (PV.eql rfl rfl rfl) (RG.nil ?_)
           refine WP.cond rfl (fun h6 => ?_) (fun h6 => ?_)
           · have h6 : gd C m = (f : Int) := by simpa using h6
             obtain ⟨n, hn8, en⟩ : ∃ n : Nat, n < 8 ∧ (gd qs m).piece.layer = (n : Int) := ⟨(gd qs m).piece.layer.toNat, by have := hly4 m h5; omega, by have := hly4 m h5; omega⟩
             have hzn : (gd zs n).xs.length ≤ 400 := by rw [hz n hn8]; have := rgTo_len qs C f n m; omega
             refine WP.cv ((Cv.p (C := bagS 50 slT zs :: blk b14 65 (ppieceT.enc (gd qs m)) :: blk b11 82 (hnetT.enc ⟨⟨⟨.slice none 0 0, []⟩⟩, ⟨u, os⟩⟩) :: osl 2 intT u os :: osl 47 slT w12 zs :: osl 82 hnetT q hs :: bagS 63 pieceT (hps hs) :: bagS 2 intT (hos hs) :: bagS 140 rectT (hrg hs) :: osl 2 intT v2 C :: osl 65 ppieceT v1 qs :: bagS 140 rectT (regsQ qs) :: L)).trans (Cv.bagS_take n (by omega))) ?_
             have hrm := hcr m h5
             refine WP.seq ?_
             refine WP.regionHD [.s w12, .s (gd zs n).v] (.q 0 (.q 1 (.q 2 (.q 3 (.q 4 (.q 5 (.q 6 (.q 7 (.q 10 (.q 11 (.q 12 (.b 8 (.b 9 (.l 13 (.l 14 (.l 15 (.l 16 Sch.nil)))) 13 (.l 9 (.l 14 (.l 15 (.l 16 Sch.nil))))) 13 (.l 8 (.l 9 (.l 14 (.l 15 (.l 16 Sch.nil))))))))))))))))) (by kernel_rfl) (by kernel_rfl) (by kernel_rfl) rfl ?_
             refine RH.pv rfl (fun _ _ _ _ h => h) (Gh.le_refl _) PickC.pick rfl (PV.move (v := w12) rfl rfl) ?_
             refine RH.pv rfl (fun _ _ _ _ h => h) (Gh.le_refl _) PickC.pick rfl (PV.field rfl Fo65_1 rfl) ?_
             refine RH.pv rfl (fun _ _ _ _ h => h) (Gh.le_refl _) PickC.pick rfl (PV.field rfl Fo63_0 rfl) ?_
             refine RH.pv rfl (fun _ _ _ _ h => h) (Gh.le_refl _) PickC.pick rfl (PV.load1 rfl Sc2 rfl (Rd.blk rfl)) ?_
             refine RH.pv rfl (fun _ _ _ _ h => h) (Gh.le_refl _) PickC.pick rfl (PV.move (v := w12) rfl rfl) ?_
             refine RH.pv rfl (fun _ _ _ _ h => h) (Gh.le_refl _) PickC.pick rfl (PV.field rfl Fo65_1 rfl) ?_
             refine RH.pv rfl (fun _ _ _ _ h => h) (Gh.le_refl _) PickC.pick rfl (PV.field rfl Fo63_0 rfl) ?_
             refine RH.pv rfl (fun _ _ _ _ h => h) (Gh.le_refl _) PickC.pick rfl (PV.load1 rfl Sc2 rfl (Rd.blk rfl)) ?_
             refine RH.pv rfl (fun _ _ _ _ h => h) (Gh.le_refl _) PickC.pick rfl (PV.field rfl Fo65_1 rfl) ?_
             refine RH.pv rfl (fun _ _ _ _ h => h) (Gh.le_refl _) PickC.pick rfl (PV.field rfl Fo63_1 rfl) ?_
             refine RH.pv rfl (fun _ _ _ _ h => h) (Gh.le_refl _) PickC.pick rfl (PV.load1 rfl Sc50 rfl (Rd.blk rfl)) ?_
             refine RH.ot2 rfl rfl rfl rfl  (OT.pv (PV.idxS (j := n) (v := w12) rfl Is124 rfl SlF.o rfl (by omega) (by omega)) ⟨Gh.le_refl _, PickC.pick, ?_⟩) (OT.bslice (F := (slT (α := Rect))) (els := [(gd qs m).piece.reg]) rfl El47 rfl (by decide) rfl (by decide) ⟨rfl, (Cl.s (SlF.r hrm)), trivial⟩ fun v69 => ⟨Gh.le_refl _, PickC.pick, ?_⟩)
             · refine RH.ot2 rfl rfl rfl rfl  (OT.pv (PV.loadE1 rfl Sc47 rfl rfl (El.o (getG (by omega))) rfl) ⟨Gh.le_refl _, PickC.pick, ?_⟩) (OT.bslice (F := (slT (α := Rect))) (els := [(gd qs m).piece.reg]) rfl El47 rfl (by decide) rfl (by decide) ⟨rfl, (Cl.s (SlF.r hrm)), trivial⟩ fun v69 => ⟨Gh.le_refl _, PickC.pick, ?_⟩)
               · refine RH.ot rfl rfl (OT.bslice (F := (slT (α := Rect))) (els := [(gd qs m).piece.reg]) rfl El47 rfl (by decide) rfl (by decide) ⟨rfl, (Cl.s (SlF.r hrm)), trivial⟩ fun v69 => ⟨Gh.le_refl _, PickC.pick, ?_⟩)
                 refine RH.ot rfl rfl (OT.append (v := (gd zs n).v) (u := v69) (F := (slT (α := Rect))) rfl El47 rfl (by decide) rfl rfl Rs.o (OneL.one (OneC.sl (SlF.r (hcr m h5)) OneC.nil)) rfl (by first | omega | (simp <;> omega)) fun v70 => ⟨Gh.le_refl _, PickC.pick, ?_⟩)
                 refine RH.ot rfl rfl (OT.pv (PV.idxS (j := n) (v := w12) rfl Is124 rfl SlF.o rfl (by omega) (by omega)) ⟨Gh.le_refl _, PickC.pick, ?_⟩)
                 refine RH.ot rfl rfl (OT.storeE (v := v70) (a := ⟨v70, (gd zs n).xs ++ [(gd qs m).piece.reg]⟩) (F := (slT (α := Sl (Rect)))) rfl Sz47 rfl rfl rfl (Cl.s (v := v70) SlF.o) (OneC.sl SlF.o OneC.nil) (by omega) ⟨Gh.le_refl _, PickC.pick, ?_⟩)
                 refine RH.nil ?_
                 refine WP.region (RG.pv rfl (PV.field rfl Fo82_1 rfl) (RG.pv rfl (PV.load1 rfl Sc26 rfl (Rd.blk rfl)) (RG.pv rfl (PV.field rfl Fo65_0 rfl) (RG.pv rfl (PV.load1 rfl Sc2 rfl (Rd.blk rfl)) ?_))))
                 refine RG.ot rfl (OT.bslice (F := intT) (els := [_]) rfl El26 rfl (by decide) rfl (by decide) ⟨rfl, (Cl.c rfl), trivial⟩ fun v76 => ?_)
                 refine RG.ot rfl (OT.append (v := u) (u := v76) (F := intT) rfl El26 rfl (by decide) rfl rfl Rs.o (OneL.c (fun _ => rfl)) rfl (by first | omega | (simp <;> omega)) fun v77 => ?_)
                 refine RG.pv rfl (PV.field rfl Fo82_1 rfl) ?_
                 refine RG.ot rfl (OT.storeB (v := v77) (vs := [_]) (cs' := [_, _]) rfl Sz26 rfl rfl (Cl.s (v := v77) SlF.o) rfl (OneC.sl SlF.o OneC.nil) rfl rfl ?_)
                 refine RG.nil (WP.region (RG.pv rfl (PV.add rfl rfl rfl (by omega)) (RG.ml rfl rfl rfl (RG.nil ?_))))
                 exact ⟨rfl, m + 1, (zs.set n ⟨v70, (gd zs n).xs ++ [(gd qs m).piece.reg]⟩), v77, (os ++ [(gd qs m).occ]), ⟨by omega, by simpa using hzl, rgTo_set hzl hz hn8 h6 en _, by rw [hos1, ocTo_yes h6, hgO m h5]⟩, ⟨rfl, trivial⟩, ⟨rfl, rfl, rfl, rfl, rfl, rfl, rfl, rfl, rfl, rfl, trivial⟩, ((Cv.p (C := osl 50 slT v70 ((gd zs n).xs ++ [(gd qs m).piece.reg]) :: osl 47 slT w12 (zs.set n ⟨v70, (gd zs n).xs ++ [(gd qs m).piece.reg]⟩) :: bag ((zs.map (ownS 50 slT)).set n emp) :: blk b11 82 (hnetT.enc ⟨⟨⟨.slice none 0 0, []⟩⟩, ⟨v77, os ++ [(gd qs m).occ]⟩⟩) :: osl 2 intT v77 (os ++ [(gd qs m).occ]) :: osl 82 hnetT q hs :: bagS 63 pieceT (hps hs) :: bagS 2 intT (hos hs) :: bagS 140 rectT (hrg hs) :: osl 2 intT v2 C :: osl 65 ppieceT v1 qs :: bagS 140 rectT (regsQ qs) :: L)).trans ((Cv.slotU n (by omega)).trans Cv.p)), by omega⟩
               · refine RH.ot rfl rfl (OT.pv (PV.loadE1 rfl Sc47 rfl rfl (El.o (getG (by omega))) rfl) ⟨Gh.le_refl _, PickC.pick, ?_⟩)
                 refine RH.ot rfl rfl (OT.append (v := (gd zs n).v) (u := v69) (F := (slT (α := Rect))) rfl El47 rfl (by decide) rfl rfl Rs.o (OneL.one (OneC.sl (SlF.r (hcr m h5)) OneC.nil)) rfl (by first | omega | (simp <;> omega)) fun v70 => ⟨Gh.le_refl _, PickC.pick, ?_⟩)
                 refine RH.ot rfl rfl (OT.pv (PV.idxS (j := n) (v := w12) rfl Is124 rfl SlF.o rfl (by omega) (by omega)) ⟨Gh.le_refl _, PickC.pick, ?_⟩)
                 refine RH.ot rfl rfl (OT.storeE (v := v70) (a := ⟨v70, (gd zs n).xs ++ [(gd qs m).piece.reg]⟩) (F := (slT (α := Sl (Rect)))) rfl Sz47 rfl rfl rfl (Cl.s (v := v70) SlF.o) (OneC.sl SlF.o OneC.nil) (by omega) ⟨Gh.le_refl _, PickC.pick, ?_⟩)
                 refine RH.nil ?_
                 refine WP.region (RG.pv rfl (PV.field rfl Fo82_1 rfl) (RG.pv rfl (PV.load1 rfl Sc26 rfl (Rd.blk rfl)) (RG.pv rfl (PV.field rfl Fo65_0 rfl) (RG.pv rfl (PV.load1 rfl Sc2 rfl (Rd.blk rfl)) ?_))))
                 refine RG.ot rfl (OT.bslice (F := intT) (els := [_]) rfl El26 rfl (by decide) rfl (by decide) ⟨rfl, (Cl.c rfl), trivial⟩ fun v76 => ?_)
                 refine RG.ot rfl (OT.append (v := u) (u := v76) (F := intT) rfl El26 rfl (by decide) rfl rfl Rs.o (OneL.c (fun _ => rfl)) rfl (by first | omega | (simp <;> omega)) fun v77 => ?_)
                 refine RG.pv rfl (PV.field rfl Fo82_1 rfl) ?_
                 refine RG.ot rfl (OT.storeB (v := v77) (vs := [_]) (cs' := [_, _]) rfl Sz26 rfl rfl (Cl.s (v := v77) SlF.o) rfl (OneC.sl SlF.o OneC.nil) rfl rfl ?_)
                 refine RG.nil (WP.region (RG.pv rfl (PV.add rfl rfl rfl (by omega)) (RG.ml rfl rfl rfl (RG.nil ?_))))
                 exact ⟨rfl, m + 1, (zs.set n ⟨v70, (gd zs n).xs ++ [(gd qs m).piece.reg]⟩), v77, (os ++ [(gd qs m).occ]), ⟨by omega, by simpa using hzl, rgTo_set hzl hz hn8 h6 en _, by rw [hos1, ocTo_yes h6, hgO m h5]⟩, ⟨rfl, trivial⟩, ⟨rfl, rfl, rfl, rfl, rfl, rfl, rfl, rfl, rfl, rfl, trivial⟩, ((Cv.p (C := osl 50 slT v70 ((gd zs n).xs ++ [(gd qs m).piece.reg]) :: osl 47 slT w12 (zs.set n ⟨v70, (gd zs n).xs ++ [(gd qs m).piece.reg]⟩) :: bag ((zs.map (ownS 50 slT)).set n emp) :: blk b11 82 (hnetT.enc ⟨⟨⟨.slice none 0 0, []⟩⟩, ⟨v77, os ++ [(gd qs m).occ]⟩⟩) :: osl 2 intT v77 (os ++ [(gd qs m).occ]) :: osl 82 hnetT q hs :: bagS 63 pieceT (hps hs) :: bagS 2 intT (hos hs) :: bagS 140 rectT (hrg hs) :: osl 2 intT v2 C :: osl 65 ppieceT v1 qs :: bagS 140 rectT (regsQ qs) :: L)).trans ((Cv.slotU n (by omega)).trans Cv.p)), by omega⟩
             · refine RH.ot rfl rfl (OT.pv (PV.idxS (j := n) (v := w12) rfl Is124 rfl SlF.o rfl (by omega) (by omega)) ⟨Gh.le_refl _, PickC.pick, ?_⟩)
               refine RH.ot rfl rfl (OT.pv (PV.loadE1 rfl Sc47 rfl rfl (El.o (getG (by omega))) rfl) ⟨Gh.le_refl _, PickC.pick, ?_⟩)
               refine RH.ot rfl rfl (OT.append (v := (gd zs n).v) (u := v69) (F := (slT (α := Rect))) rfl El47 rfl (by decide) rfl rfl Rs.o (OneL.one (OneC.sl (SlF.r (hcr m h5)) OneC.nil)) rfl (by first | omega | (simp <;> omega)) fun v70 => ⟨Gh.le_refl _, PickC.pick, ?_⟩)
               refine RH.ot rfl rfl (OT.pv (PV.idxS (j := n) (v := w12) rfl Is124 rfl SlF.o rfl (by omega) (by omega)) ⟨Gh.le_refl _, PickC.pick, ?_⟩)
               refine RH.ot rfl rfl (OT.storeE (v := v70) (a := ⟨v70, (gd zs n).xs ++ [(gd qs m).piece.reg]⟩) (F := (slT (α := Sl (Rect)))) rfl Sz47 rfl rfl rfl (Cl.s (v := v70) SlF.o) (OneC.sl SlF.o OneC.nil) (by omega) ⟨Gh.le_refl _, PickC.pick, ?_⟩)
               refine RH.nil ?_
               refine WP.region (RG.pv rfl (PV.field rfl Fo82_1 rfl) (RG.pv rfl (PV.load1 rfl Sc26 rfl (Rd.blk rfl)) (RG.pv rfl (PV.field rfl Fo65_0 rfl) (RG.pv rfl (PV.load1 rfl Sc2 rfl (Rd.blk rfl)) ?_))))
               refine RG.ot rfl (OT.bslice (F := intT) (els := [_]) rfl El26 rfl (by decide) rfl (by decide) ⟨rfl, (Cl.c rfl), trivial⟩ fun v76 => ?_)
               refine RG.ot rfl (OT.append (v := u) (u := v76) (F := intT) rfl El26 rfl (by decide) rfl rfl Rs.o (OneL.c (fun _ => rfl)) rfl (by first | omega | (simp <;> omega)) fun v77 => ?_)
               refine RG.pv rfl (PV.field rfl Fo82_1 rfl) ?_
               refine RG.ot rfl (OT.storeB (v := v77) (vs := [_]) (cs' := [_, _]) rfl Sz26 rfl rfl (Cl.s (v := v77) SlF.o) rfl (OneC.sl SlF.o OneC.nil) rfl rfl ?_)
               refine RG.nil (WP.region (RG.pv rfl (PV.add rfl rfl rfl (by omega)) (RG.ml rfl rfl rfl (RG.nil ?_))))
               exact ⟨rfl, m + 1, (zs.set n ⟨v70, (gd zs n).xs ++ [(gd qs m).piece.reg]⟩), v77, (os ++ [(gd qs m).occ]), ⟨by omega, by simpa using hzl, rgTo_set hzl hz hn8 h6 en _, by rw [hos1, ocTo_yes h6, hgO m h5]⟩, ⟨rfl, trivial⟩, ⟨rfl, rfl, rfl, rfl, rfl, rfl, rfl, rfl, rfl, rfl, trivial⟩, ((Cv.p (C := osl 50 slT v70 ((gd zs n).xs ++ [(gd qs m).piece.reg]) :: osl 47 slT w12 (zs.set n ⟨v70, (gd zs n).xs ++ [(gd qs m).piece.reg]⟩) :: bag ((zs.map (ownS 50 slT)).set n emp) :: blk b11 82 (hnetT.enc ⟨⟨⟨.slice none 0 0, []⟩⟩, ⟨v77, os ++ [(gd qs m).occ]⟩⟩) :: osl 2 intT v77 (os ++ [(gd qs m).occ]) :: osl 82 hnetT q hs :: bagS 63 pieceT (hps hs) :: bagS 2 intT (hos hs) :: bagS 140 rectT (hrg hs) :: osl 2 intT v2 C :: osl 65 ppieceT v1 qs :: bagS 140 rectT (regsQ qs) :: L)).trans ((Cv.slotU n (by omega)).trans Cv.p)), by omega⟩
           · have h6 : gd C m ≠ (f : Int) := by simpa using h6
             refine WP.skip (WP.region (RG.pv rfl (PV.add rfl rfl rfl (by omega)) (RG.ml rfl rfl rfl (RG.nil ?_))))
             exact ⟨rfl, m + 1, zs, u, os, ⟨by omega, hzl, fun n hn => by rw [rgTo_no (.inl h6)]; exact hz n hn, by rw [ocTo_no h6]; exact hos1⟩, ⟨rfl, trivial⟩, ⟨rfl, rfl, rfl, rfl, rfl, rfl, rfl, rfl, rfl, rfl, trivial⟩, Cv.p, by omega⟩
         · have h4 := of_decide_eq_false h4
           obtain rfl : m = qs.length := by omega
           refine WP.exit ?_
           refine WP.seq (WP.region (RG.pv rfl (PV.field rfl Fo82_1 rfl) (RG.pv rfl (PV.load1 rfl Sc26 rfl (Rd.blk rfl)) ?_)))
           refine RG.callF (vs := [u]) rfl rfl En72 rfl (CallT.exS u (compact_int (xs := os) (by omega) (fun v82 => ?_)))
           refine RG.pv rfl (PV.field rfl Fo82_1 rfl) ?_
           refine RG.ot rfl (OT.storeB (v := v82) (vs := [_]) (cs' := [_, _]) rfl Sz26 rfl rfl (Cl.s (v := v82) SlF.o) rfl (OneC.sl SlF.o OneC.nil) rfl rfl ?_)
           refine RG.nil (WP.seq (WP.seq (WP.region (RG.pv rfl (PV.move (v := w12) rfl rfl) (RG.pv rfl (PV.len (v := w12) rfl Tryz.underlying124 rfl SlF.o) (RG.ml rfl rfl rfl (RG.nil ?_)))))))
           refine WP.block ?_
           refine WP.cv ((Cv.p (C := blk b11 82 (hnetT.enc ⟨⟨⟨.slice none 0 0, []⟩⟩, ⟨v82, compactL os⟩⟩) :: osl 2 intT v82 (compactL os) :: osl 47 slT w12 zs :: bagS 50 slT zs :: osl 82 hnetT q hs :: bagS 63 pieceT (hps hs) :: bagS 2 intT (hos hs) :: bagS 140 rectT (hrg hs) :: osl 2 intT v2 C :: osl 65 ppieceT v1 qs :: bagS 140 rectT (regsQ qs) :: L)).trans (Cv.cons ((Cv.bag0 (e := 140) (F := rectT) (xs := regs []) rfl).trans (Cv.nilS (e := 63) (F := pieceT))))) ?_
           refine WP.loop3 [6, 7, 9, 11, 31, 32, 84, 85] (fun (n : Nat) (ps : List Piece) (pq : Value) => n ≤ 8 ∧ erPs ps = hpTo E C f n) (fun (n : Nat) (ps : List Piece) (pq : Value) => [(86, vi n)]) (fun (n : Nat) (ps : List Piece) (pq : Value) => blk b11 82 (hnetT.enc ⟨⟨⟨pq, ps⟩⟩, ⟨v82, compactL os⟩⟩) :: osl 63 pieceT pq ps :: bagS 140 rectT (regs ps) :: osl 2 intT v82 (compactL os) :: osl 47 slT w12 zs :: bagS 50 slT zs :: osl 82 hnetT q hs :: bagS 63 pieceT (hps hs) :: bagS 2 intT (hos hs) :: bagS 140 rectT (hrg hs) :: osl 2 intT v2 C :: osl 65 ppieceT v1 qs :: bagS 140 rectT (regsQ qs) :: L) (fun (n : Nat) (ps : List Piece) (pq : Value) => 8 - n) 0 [] (.slice none 0 0) ⟨by omega, rfl⟩ ⟨rfl, trivial⟩ Cv.p ?_
           rintro n ps pq τ2 ⟨hn, hps1⟩
           refine WP.seq (WP.region (RG.pv rfl (PV.lss rfl rfl rfl) (RG.nil (WP.seq ?_))))
           have hpl2 := hnet_len hps1 hn
           refine WP.cond rfl (fun h7 => ?_) (fun h7 => ?_)
           · have h7 := of_decide_eq_true h7
             have h70 : n < 8 := by omega
             refine WP.skip (WP.seq (WP.block (WP.seq (WP.region (RG.ml rfl rfl rfl (RG.pv rfl (PV.idxS (v := w12) rfl Is124 rfl SlF.o rfl rfl (by omega)) (RG.pv rfl (PV.loadE1 rfl Sc47 rfl rfl (El.o (getG (by omega))) rfl) ?_)))))))
             refine RG.mr rfl rfl rfl (RG.pv rfl (PV.asg (v := (gd zs n).v) rfl rfl) (RG.nil (WP.seq (WP.region (RG.pv rfl (PV.move (v := (gd zs n).v) rfl rfl) ?_)))))
             refine RG.callF (vs := [(gd zs n).v]) rfl rfl En74 rfl (unionAll_s (v := (gd zs n).v) (xs := (gd zs n).xs) (Rs.inBag n (by omega)) (RsE.rgs RsE.o (Nat.le_refl _) (hz n h70)) (fun v92 => ?_))
             refine RG.callF (vs := [v92]) rfl rfl En73 rfl (components_s Rs.o (fun v93 zsv93 hzv93 => ?_))
             refine RG.pv rfl (PV.len (v := v93) rfl Tryz.underlying47 rfl SlF.o) (RG.ml rfl rfl rfl (RG.nil (WP.block ?_)))
             have hzp : er zsv93 = partsL (bits (uniR E C f n)) := by rw [hzv93, hz n h70, bits_canon (bits_length _), hun]
             have hzl9 := parts_len hzp
             refine WP.loop3 [6, 7, 9, 11, 15, 31, 32, 84, 85, 86, 93, 94] (fun (i : Nat) (ps2 : List Piece) (pq2 : Value) => i ≤ zsv93.length ∧ ps2 = ps ++ (zsv93.take i).map (mkP n)) (fun (i : Nat) (ps2 : List Piece) (pq2 : Value) => [(95, vi i)]) (fun (i : Nat) (ps2 : List Piece) (pq2 : Value) => blk b11 82 (hnetT.enc ⟨⟨⟨pq2, ps2⟩⟩, ⟨v82, compactL os⟩⟩) :: osl 63 pieceT pq2 ps2 :: bagS 140 rectT zsv93 :: osl 50 slT v93 zsv93 :: bagS 140 rectT (regs ps) :: osl 2 intT v82 (compactL os) :: osl 47 slT w12 zs :: bagS 50 slT zs :: osl 82 hnetT q hs :: bagS 63 pieceT (hps hs) :: bagS 2 intT (hos hs) :: bagS 140 rectT (hrg hs) :: osl 2 intT v2 C :: osl 65 ppieceT v1 qs :: bagS 140 rectT (regsQ qs) :: L) (fun (i : Nat) (ps2 : List Piece) (pq2 : Value) => zsv93.length - i) 0 ps pq ⟨by omega, by simp⟩ ⟨rfl, trivial⟩ Cv.p ?_
             rintro i ps2 pq2 τ3 ⟨hi, hps2⟩
             refine WP.seq (WP.region (RG.pv rfl (PV.lss rfl rfl rfl) (RG.nil (WP.seq ?_))))
             have hpl3 : ps2.length ≤ 57600 := by rw [hps2, List.length_append, List.length_map, List.length_take]; omega
             refine WP.cond rfl (fun h8 => ?_) (fun h8 => ?_)
             · have h8 := of_decide_eq_true h8
               refine WP.sl (Rs.inBag (xs := zsv93) i (by omega)) fun hI => ?_
               refine WP.skip (WP.seq (WP.block (WP.seq (WP.region (RG.pv rfl (PV.idxS (v := v93) rfl Is47 rfl SlF.o rfl rfl (by omega)) (RG.pv rfl (PV.loadE1 rfl Sc50 rfl rfl (El.o (getG (by omega))) rfl) (RG.pv rfl (PV.asg rfl rfl) ?_)))))))
               refine RG.nil (WP.region (RG.pv rfl (PV.field rfl Fo82_0 rfl) (RG.pv rfl (PV.field rfl Fo80_0 rfl) (RG.pv rfl (PV.load1 rfl Sc78 rfl (Rd.blk rfl)) (RG.ml rfl rfl rfl (RG.pv rfl (PV.move rfl rfl) (RG.pv rfl (PV.build (vs := [(0, [vi _]), (1, [_])]) (out := [_, _]) rfl Zr63 Pl63 ⟨rfl, (Cl.c rfl), ⟨rfl, (Cl.s (SlF.i hI)), trivial⟩⟩ rfl) ?_)))))))
               refine RG.ot rfl (OT.bslice (F := pieceT) (els := [⟨(n : Int), gd zsv93 i⟩]) rfl El78 rfl (by decide) rfl (by decide) ⟨rfl, (Cl.c rfl), trivial⟩ fun v105 => ?_)
               refine RG.ot rfl (OT.append (v := pq2) (u := v105) (F := pieceT) rfl El78 rfl (by decide) rfl rfl Rs.o (OneL.one (OneC.val rfl (OneC.sl (SlF.i hI) OneC.nil))) rfl (by first | omega | (simp <;> omega)) fun v106 => ?_)
               refine RG.pv rfl (PV.field rfl Fo82_0 rfl) (RG.pv rfl (PV.field rfl Fo80_0 rfl) ?_)
               refine RG.ot rfl (OT.storeB (v := v106) (vs := [_]) (cs' := [_, _]) rfl Sz78 rfl rfl (Cl.s (v := v106) SlF.o) rfl (OneC.sl SlF.o OneC.nil) rfl rfl ?_)
               refine RG.nil (WP.region (RG.pv rfl (PV.add rfl rfl rfl (by omega)) (RG.ml rfl rfl rfl (RG.nil ?_))))
               exact ⟨rfl, i + 1, (ps2 ++ [⟨(n : Int), gd zsv93 i⟩]), v106, ⟨by omega, by rw [hps2, List.take_add_one, getG (by omega), List.map_append, List.append_assoc]; rfl⟩, ⟨rfl, trivial⟩, ⟨rfl, rfl, rfl, rfl, rfl, rfl, rfl, rfl, rfl, rfl, rfl, rfl, trivial⟩, Cv.p, by omega⟩
             · have h8 := of_decide_eq_false h8
               obtain rfl : i = zsv93.length := by omega
               rw [List.take_length] at hps2
               refine WP.exit ?_
               refine WP.region (RG.pv rfl (PV.add rfl rfl rfl (by omega)) (RG.ml rfl rfl rfl (RG.nil ?_)))
               exact ⟨rfl, n + 1, ps2, pq2, ⟨by omega, by rw [hps2, erPs_app, hps1, erPs_mkP, hpTo_succ, hzp]⟩, ⟨rfl, trivial⟩, ⟨rfl, rfl, rfl, rfl, rfl, rfl, rfl, rfl, trivial⟩, ((Cv.p (C := bagS 140 rectT (regs ps) :: bagS 140 rectT zsv93 :: blk b11 82 (hnetT.enc ⟨⟨⟨pq2, ps2⟩⟩, ⟨v82, compactL os⟩⟩) :: osl 63 pieceT pq2 ps2 :: osl 2 intT v82 (compactL os) :: osl 47 slT w12 zs :: bagS 50 slT zs :: osl 82 hnetT q hs :: bagS 63 pieceT (hps hs) :: bagS 2 intT (hos hs) :: bagS 140 rectT (hrg hs) :: osl 2 intT v2 C :: osl 65 ppieceT v1 qs :: bagS 140 rectT (regsQ qs) :: L)).trans (Cv.bagJoin.trans ((Cv.cast (by rw [← regs_mkP (n : Int) zsv93, ← regs_append, ← hps2])).trans (Cv.p (L := bagS 140 rectT (regs ps2) :: blk b11 82 (hnetT.enc ⟨⟨⟨pq2, ps2⟩⟩, ⟨v82, compactL os⟩⟩) :: osl 63 pieceT pq2 ps2 :: osl 2 intT v82 (compactL os) :: osl 47 slT w12 zs :: bagS 50 slT zs :: osl 82 hnetT q hs :: bagS 63 pieceT (hps hs) :: bagS 2 intT (hos hs) :: bagS 140 rectT (hrg hs) :: osl 2 intT v2 C :: osl 65 ppieceT v1 qs :: bagS 140 rectT (regsQ qs) :: L))))), by omega⟩
           · have h7 := of_decide_eq_false h7
             obtain rfl : n = 8 := by omega
             refine WP.exit ?_
             refine WP.region (RG.pv rfl (PV.move (v := q) rfl rfl) (RG.pv rfl (PV.loadW rfl Ag82 rfl rfl) ?_))
             refine RG.ot rfl (OT.bslice (F := hnetT) (els := [⟨⟨⟨pq, ps⟩⟩, ⟨v82, compactL os⟩⟩]) rfl El74 rfl (by decide) rfl (by decide) ⟨rfl, (Cl.c rfl), trivial⟩ fun v113 => ?_)
             refine RG.ot rfl (OT.append (v := q) (u := v113) (F := hnetT) rfl El74 rfl (by decide) rfl rfl Rs.o (OneL.one (OneC.sl SlF.o (OneC.sl SlF.o OneC.nil))) rfl (by first | omega | (simp <;> omega)) fun v114 => ?_)
             refine RG.pv rfl (PV.asg (v := v114) rfl rfl) (RG.nil (WP.region (RG.pv rfl (PV.add rfl rfl rfl (by omega)) (RG.ml rfl rfl rfl (RG.nil ?_)))))
             exact ⟨rfl, f + 1, (hs ++ [⟨⟨⟨pq, ps⟩⟩, ⟨v82, compactL os⟩⟩]), v114, ⟨by omega, by rw [hTo_yes h3, List.map_append, hhs, ← hql, ← hos1]; exact congrArg (fun x => hTo E O C f ++ [(x, compactL os)]) hps1⟩, ⟨rfl, rfl, trivial⟩, ⟨rfl, rfl, rfl, trivial⟩, ((Cv.p (C := osl 63 pieceT pq ps :: bagS 63 pieceT (hps hs) :: osl 2 intT v82 (compactL os) :: bagS 2 intT (hos hs) :: bagS 140 rectT (hrg hs) :: bagS 140 rectT (regs ps) :: osl 82 hnetT v114 (hs ++ [⟨⟨⟨pq, ps⟩⟩, ⟨v82, compactL os⟩⟩]) :: osl 2 intT v2 C :: osl 65 ppieceT v1 qs :: bagS 140 rectT (regsQ qs) :: L)).trans ((Cv.grow (ys' := hps (hs ++ [⟨⟨⟨pq, ps⟩⟩, ⟨v82, compactL os⟩⟩])) (by rw [hps_app]; rfl)).trans ((Cv.cons ((Cv.grow (ys' := hos (hs ++ [⟨⟨⟨pq, ps⟩⟩, ⟨v82, compactL os⟩⟩])) (by rw [hos_app]; rfl)).trans (Cv.cons (Cv.bagJoin.trans (Cv.cast (by rw [← hrg_one ⟨⟨⟨pq, ps⟩⟩, ⟨v82, compactL os⟩⟩, ← hrg_app])))))).trans (Cv.p (L := bagS 63 pieceT (hps (hs ++ [⟨⟨⟨pq, ps⟩⟩, ⟨v82, compactL os⟩⟩])) :: bagS 2 intT (hos (hs ++ [⟨⟨⟨pq, ps⟩⟩, ⟨v82, compactL os⟩⟩])) :: bagS 140 rectT (hrg (hs ++ [⟨⟨⟨pq, ps⟩⟩, ⟨v82, compactL os⟩⟩])) :: osl 82 hnetT v114 (hs ++ [⟨⟨⟨pq, ps⟩⟩, ⟨v82, compactL os⟩⟩]) :: osl 2 intT v2 C :: osl 65 ppieceT v1 qs :: bagS 140 rectT (regsQ qs) :: L))))), by omega⟩
     · have h2 := of_decide_eq_false h2
       obtain rfl : f = qs.length := by omega
       rw [hql] at hhs
       have hg : ∀ x ∈ hs, 0 < x.net.pieces.xs.length ∧ 0 < (gd x.net.pieces.xs 0).reg.xs.length ∧ 0 ≤ (gd x.net.pieces.xs 0).layer ∧ (gd x.net.pieces.xs 0).layer ≤ 7 := fun x hx => erH_good (hgood _ (by rw [← hhs]; exact List.mem_map_of_mem hx))
       refine WP.exit ?_
       refine WP.seq (WP.region (RG.pv rfl (PV.move (v := q) rfl rfl) ?_))
       refine RG.callF (vs := [q, _]) rfl rfl En75 rfl (CallT.exS q (sortH_s RsE.o RsE.o RsE.o (by omega) hg (fun zs hp hsr => ?_)))
       refine RG.nil (WP.seq (WP.seq (WP.region (RG.pv rfl (PV.move (v := q) rfl rfl) (RG.pv rfl (PV.len (v := q) rfl Tryz.underlying74 rfl SlF.o) (RG.pv rfl (PV.gtr rfl rfl rfl) (RG.nil ?_)))))))
       have hzs : zs.map erH = netH (flyL (erCls l.cells.xs) cell) E O := by
         refine hsort _ (by rw [← hhs]; exact hp.map erH) (List.pairwise_map.2 (hsr.imp_of_mem fun {a b} ha hb hab => ?_))
         have g1 := (hg a (hp.mem_iff.1 ha)).1
         have g2 := (hg b (hp.mem_iff.1 hb)).1
         rw [cmpH, erH, erH, erPs_gd g1, erPs_gd g2]; exact hab
       have hzl : zs.length = netN (flyL (erCls l.cells.xs) cell) := by rw [← netH_len (flyL (erCls l.cells.xs) cell) E O, ← hzs, List.length_map]
       have hzl4 : zs.length ≤ 400 := by have := hp.length_eq; omega
       refine WP.cond rfl (fun h9 => ?_) (fun h9 => ?_)
       · have h9 := of_decide_eq_true h9
         have e : netE (flyL (erCls l.cells.xs) cell) = 3 := by rw [netE, hly, cond_true, if_pos (by omega)]
         rw [hnc, e] at k0
         refine WP.seq (WP.region (RG.pv rfl (PV.asg rfl rfl) (RG.mr rfl rfl rfl (RG.nil ?_))))
         refine WP.ret ?_
         exact ⟨_, _, ResV.two rfl rfl rfl, Cv.p, k0 (by decide)⟩
       · have h9 := of_decide_eq_false h9
         have e : netE (flyL (erCls l.cells.xs) cell) = 0 := by rw [netE, hly, cond_true, if_neg (by omega)]
         have k := k (by rw [hnc, e])
         refine WP.skip (WP.seq (WP.region (RG.pv rfl (PV.move (v := q) rfl rfl) (RG.pv rfl (PV.asg (v := q) rfl rfl) (RG.mr rfl rfl rfl (RG.nil ?_))))))
         refine WP.ret ?_
         exact ⟨_, _, ResV.two rfl rfl rfl, ((Cv.p (C := bagS 63 pieceT (hps hs) :: bagS 2 intT (hos hs) :: bagS 140 rectT (hrg hs) :: osl 82 hnetT q zs :: L)).trans ((Cv.bagPerm (ys := hps zs) (hp.symm.map _)).trans ((Cv.cons ((Cv.bagPerm (ys := hos zs) (hp.symm.map _)).trans (Cv.cons (Cv.bagPerm (ys := hrg zs) (hrg_perm hp.symm))))).trans Cv.p))), k q zs (by rw [hnR, if_pos (by rw [hnc, e]), hE2, hO2]; exact hzs)⟩
 · have hnc : hnC (erCls l.cells.xs) cell = hcC (erCls l.cells.xs) cell := by rw [hnC, if_neg h1]
   rw [hnc] at k0
   refine CallT.enter (args := _) Tryz.func42 rfl rfl (by kernel_rfl) rfl ?_
   refine WP.seq (WP.region ?_)
   refine RG.ot rfl (OT.box (cs := libT.enc l) rfl rfl rfl fun b2 => ?_)
   refine RG.pv rfl (PV.asg rfl rfl) (RG.mr rfl rfl rfl (RG.nil (WP.seq (WP.region (RG.pv rfl (PV.loadW rfl Ag31 rfl rfl) (RG.ml rfl rfl rfl ?_))))))
   refine RG.callF (vs := [_, _]) rfl rfl En38 rfl (pcls_i hL.up hlen (fun _ => ?_) (fun h => absurd h h1))
   refine RG.pv rfl (PV.move (v := .tuple _) rfl rfl) (RG.pv rfl (PV.ext rfl rfl rfl) (RG.pv rfl (PV.ext rfl rfl rfl) (RG.pv rfl (PV.ext rfl rfl rfl) (RG.pv rfl (PV.asg rfl rfl) (RG.pv rfl (PV.asg rfl rfl) (RG.mr rfl rfl rfl (RG.nil ?_)))))))
   refine WP.seq (WP.seq (WP.region (RG.ml rfl rfl rfl (RG.pv rfl (PV.neq rfl rfl rfl) (RG.nil ?_)))))
   refine WP.cond rfl (fun h2 => ?_) (fun h2 => ?_)
   · refine WP.seq ?_
     refine WP.region (RG.ml rfl rfl rfl (RG.pv rfl (PV.asg rfl rfl) (RG.mr rfl rfl rfl (RG.nil ?_))))
     refine WP.ret ?_
     exact ⟨_, _, ResV.two rfl rfl rfl, Cv.p, k0 h1⟩
   · exfalso; simp at h2; exact h1 h2
end Go.Proofs.YthhjapiggekjbaaGreat
namespace Go.Proofs.YthhjapiggekjbaaGreat
set_option linter.unusedVariables false
set_option linter.unusedSimpArgs false
open Go
set_option linter.unusedSimpArgs false
section
variable {α : Type} [Inhabited α] [DecidableEq α]
theorem cpt_pre {xs ys : List α} : ∀ {n : Nat}, n ≤ xs.length → cpt (xs ++ ys) n = cpt xs n
 | 0, _ => rfl
 | n + 1, h => by
   rw [cpt, cpt, cpt_pre (by omega)]
   have e1 : gd (xs ++ ys) n = gd xs n := by unfold gd; rw [List.getElem?_append_left (by omega)]
   have e2 : gd (xs ++ ys) (n - 1) = gd xs (n - 1) := by unfold gd; rw [List.getElem?_append_left (by omega)]
   rw [e1, e2]
theorem compact_step {xs : List α} {a : α} : compactL (xs ++ [a]) = if xs.length = 0 ∨ a ≠ gd xs (xs.length - 1) then compactL xs ++ [a] else compactL xs := by
 have e1 : gd (xs ++ [a]) xs.length = a := by simp [gd]
 rw [compactL, List.length_append, List.length_singleton, cpt, cpt_pre (Nat.le_refl _), e1]
 by_cases h : xs.length = 0
 · rw [if_pos (.inl h), if_pos (.inl h)]; rfl
 · have e2 : gd (xs ++ [a]) (xs.length - 1) = gd xs (xs.length - 1) := by unfold gd; rw [List.getElem?_append_left (by omega)]
   rw [e2]; rfl
theorem compact_last : ∀ (n : Nat) (xs : List α), xs.length = n → 0 < n → 0 < (compactL xs).length ∧ gd (compactL xs) ((compactL xs).length - 1) = gd xs (xs.length - 1)
 | 0, _, _, h => absurd h (Nat.lt_irrefl _)
 | n + 1, xs, hl, _ => by
   obtain ⟨ys, a, rfl⟩ : ∃ ys a, xs = ys ++ [a] := ⟨xs.dropLast, xs.getLast (by intro e; rw [e] at hl; cases hl), (List.dropLast_concat_getLast _).symm⟩
   have hy : ys.length = n := by simpa using hl
   have e1 : gd (ys ++ [a]) ((ys ++ [a]).length - 1) = a := by simp [gd]
   rw [e1, compact_step]
   split
   · exact ⟨by simp, by simp [gd]⟩
   · next c =>
     have h1 : ys.length ≠ 0 := fun e => c (.inl e)
     have h2 : a = gd ys (ys.length - 1) := Classical.byContradiction fun e => c (.inr e)
     obtain ⟨h3, h4⟩ := compact_last n ys hy (by omega)
     exact ⟨h3, by rw [h4, h2]⟩
theorem compact_len (xs : List α) : (compactL xs).length ≤ xs.length := by
 have : ∀ n, (cpt xs n).length ≤ n := fun n => by
   induction n with
   | zero => exact Nat.le_refl _
   | succ n ih =>
     rw [cpt]; split
     · simp; omega
     · omega
 exact this _
/-- one more element, put to what has been gathered so far -/
theorem compact_yes {xs : List α} {a : α} (h : (compactL xs).length = 0 ∨ gd (compactL xs) ((compactL xs).length - 1) ≠ a) : compactL (xs ++ [a]) = compactL xs ++ [a] := by
 rw [compact_step, if_pos]
 by_cases c : xs.length = 0
 · exact .inl c
 · obtain ⟨h1, h2⟩ := compact_last _ xs rfl (by omega)
   rcases h with h | h
   · omega
   · rw [h2] at h; exact .inr (Ne.symm h)
theorem compact_no {xs : List α} {a : α} (h1 : (compactL xs).length ≠ 0) (h : gd (compactL xs) ((compactL xs).length - 1) = a) : compactL (xs ++ [a]) = compactL xs := by
 have c : xs.length ≠ 0 := fun e => h1 (by have := compact_len xs; omega)
 obtain ⟨h3, h2⟩ := compact_last _ xs rfl (by omega)
 rw [compact_step, if_neg]
 rintro (e | e)
 · exact c e
 · rw [h2] at h; exact e h.symm
end
def nuTo (ns O : List Int) (net : Int) (m : Nat) : List Int := ((List.range m).filter fun i => decide (gd ns i = net)).map (gd O)
theorem nuTo_yes {ns O : List Int} {net : Int} {m : Nat} (h : gd ns m = net) : nuTo ns O net (m + 1) = nuTo ns O net m ++ [gd O m] := by
 rw [nuTo, List.range_succ, List.filter_append, List.map_append]; simp [h, nuTo]
theorem nuTo_no {ns O : List Int} {net : Int} {m : Nat} (h : gd ns m ≠ net) : nuTo ns O net (m + 1) = nuTo ns O net m := by
 rw [nuTo, List.range_succ, List.filter_append, List.map_append]; simp [h, nuTo]
theorem nuTo_len (ns O : List Int) (net : Int) (m : Nat) : (nuTo ns O net m).length ≤ m := by
 rw [nuTo, List.length_map]; have := List.length_filter_le (fun i => decide (gd ns i = net)) (List.range m); rwa [List.length_range] at this
theorem ocN_nu {l : List (List Rect)} {E : List (Int × List Rect)} {O ns : List Int} {m : Nat} (h : ∀ i, i < E.length → gd ns i = numH l (gd E i)) : compactL (nuTo ns O (m : Int) E.length) = ocN l E O m := by
 rw [ocN, nuTo]
 have e : (List.range E.length).filter (fun i => decide (gd ns i = (m : Int))) = (List.range E.length).filter fun i => decide (numH l (gd E i) = (m : Int)) := List.filter_congr fun i hi => by rw [h i (List.mem_range.1 hi)]
 rw [e]
theorem ocN_len (l : List (List Rect)) (E : List (Int × List Rect)) (O : List Int) (m : Nat) : (ocN l E O m).length ≤ E.length := by
 have h1 := compact_len (((List.range E.length).filter fun i => decide (numH l (gd E i) = (m : Int))).map (gd O))
 have h2 := List.length_filter_le (fun i => decide (numH l (gd E i) = (m : Int))) (List.range E.length)
 rw [List.length_range] at h2
 rw [List.length_map] at h1
 rw [ocN]; omega
end Go.Proofs.YthhjapiggekjbaaGreat
namespace Go.Proofs.YthhjapiggekjbaaGreat
set_option linter.unusedVariables false
set_option linter.unusedSimpArgs false
open Go
set_option maxRecDepth 20000
set_option maxHeartbeats 1000000
set_option linter.unusedSimpArgs false
variable {G : Gh} {L : List Ch} {R : Value → Gh → List Ch → Prop}
theorem hnC_0 {cs : List ECell} {cell : Int} (h : hnC cs cell = 0) : hcC cs cell = 0 ∧ netE (flyL cs cell) = 0 := by
 unfold hnC at h
 split at h
 · exact ⟨‹_›, h⟩
 · exact absurd h ‹_›
theorem hnR_yes {cs : List ECell} {cell : Int} (h : hnC cs cell = 0) : hnR cs cell = netH (flyL cs cell) (plE cs cell) ((ppAll cs cell).map Prod.fst) := by rw [hnR, if_pos h]
noncomputable def hnN (cs : List ECell) (cell : Int) : List (List (Int × List Rect)) := if hnC cs cell = 0 then netL (flyL cs cell) else []
theorem hnR_len {cs : List ECell} {cell : Int} (h : hnC cs cell = 0) : (hnR cs cell).length = netN (flyL cs cell) ∧ netN (flyL cs cell) ≤ 24 := by
 rw [hnR_yes h, netH_len]; exact ⟨rfl, (netE_ok (hnC_0 h).2).2⟩
theorem hier_r {l : Lib} {cell : Int} (hL : RLib G L l.cells.v l.cells.xs) (hlen : lenC (erCls l.cells.xs)) (k : ∀ v zs, (er (nps zs)).map erPs = hnN (erCls l.cells.xs) cell → R (.tuple #[v, vi (hnC (erCls l.cells.xs) cell)]) G (osl 80 netT v zs :: bagS 63 pieceT (nps zs) :: bagS 140 rectT (regs (er (nps zs)).flatten) :: L)) : CallT Tryz.prog 26 #[vT libT l, vi cell] G L R := by
 by_cases h1 : hcC (erCls l.cells.xs) cell = 0
 · have hnc : hnC (erCls l.cells.xs) cell = netE (flyL (erCls l.cells.xs) cell) := by rw [hnC, if_pos h1]
   have hnn : hnN (erCls l.cells.xs) cell = netR (flyL (erCls l.cells.xs) cell) := by rw [hnN, hnc]; rfl
   rw [hnc, hnn] at k
   refine CallT.enter (args := _) Tryz.func26 rfl rfl (by kernel_rfl) rfl ?_
   refine WP.seq (WP.region ?_)
   refine RG.ot rfl (OT.box (cs := libT.enc l) rfl rfl rfl fun b2 => ?_)
   refine RG.pv rfl (PV.asg rfl rfl) (RG.mr rfl rfl rfl (RG.nil (WP.seq (WP.seq (WP.region (RG.pv rfl (PV.loadW rfl Ag31 rfl rfl) (RG.ml rfl rfl rfl ?_)))))))
   refine RG.callF (vs := [_, _]) rfl rfl En36 rfl (l25All_r hL.up hlen (fun h => absurd h1 h) (fun _ v1 qs v2 hq => ?_))
   refine RG.pv rfl (PV.move (v := .tuple _) rfl rfl) (RG.pv rfl (PV.ext (v := v1) rfl rfl rfl) (RG.pv rfl (PV.ext (v := v2) rfl rfl rfl) (RG.pv rfl (PV.ext rfl rfl rfl) (RG.pv rfl (PV.asg (v := v1) rfl rfl) (RG.pv rfl (PV.asg (v := v2) rfl rfl) (RG.mr rfl rfl rfl (RG.nil ?_)))))))
   refine WP.seq (WP.region (RG.ml rfl rfl rfl (RG.pv rfl (PV.neq rfl rfl rfl) (RG.nil ?_))))
   refine WP.cond rfl (fun h2 => ?_) (fun h2 => ?_)
   · simp at h2
   · refine WP.skip ?_
     refine WP.seq (WP.region (RG.pv rfl (PV.loadW rfl Ag31 rfl rfl) (RG.ml rfl rfl rfl ?_)))
     refine RG.callF (vs := [_, _]) rfl rfl En52 rfl (fly_r hL.up hlen (fun w25 ys hy => ?_))
     refine RG.pv rfl (PV.move (v := .tuple _) rfl rfl) (RG.pv rfl (PV.ext (v := w25) rfl rfl rfl) (RG.pv rfl (PV.ext rfl rfl rfl) (RG.pv rfl (PV.asg (v := w25) rfl rfl) (RG.mr rfl rfl rfl (RG.nil (WP.seq (WP.region ?_)))))))
     refine RG.pv rfl (PV.move (v := w25) rfl rfl) ?_
     refine RG.callF (vs := [w25]) rfl rfl En53 rfl (nets_r Rs.o RsE.o (fun w29 zsw29 hew29 => ?_))
     refine RG.pv rfl (PV.ext rfl rfl rfl) (RG.pv rfl (PV.ext rfl rfl rfl) (RG.pv rfl (PV.asg rfl rfl) (RG.mr rfl rfl rfl (RG.nil ?_))))
     refine WP.ret ?_
     rw [← hy] at k
     exact ⟨_, _, ResV.two rfl rfl rfl, Cv.p, k w29 zsw29 hew29⟩
 · have hnc : hnC (erCls l.cells.xs) cell = hcC (erCls l.cells.xs) cell := by rw [hnC, if_neg h1]
   have e : hnN (erCls l.cells.xs) cell = [] := by rw [hnN, hnc, if_neg h1]
   rw [e, hnc] at k
   refine CallT.enter (args := _) Tryz.func26 rfl rfl (by kernel_rfl) rfl ?_
   refine WP.seq (WP.region ?_)
   refine RG.ot rfl (OT.box (cs := libT.enc l) rfl rfl rfl fun b2 => ?_)
   refine RG.pv rfl (PV.asg rfl rfl) (RG.mr rfl rfl rfl (RG.nil (WP.seq (WP.seq (WP.region (RG.pv rfl (PV.loadW rfl Ag31 rfl rfl) (RG.ml rfl rfl rfl ?_)))))))
   refine RG.callF (vs := [_, _]) rfl rfl En36 rfl (l25All_r hL.up hlen (fun _ v1 v2 => ?_) (fun h => absurd h h1))
   refine RG.pv rfl (PV.move (v := .tuple _) rfl rfl) (RG.pv rfl (PV.ext (v := v1) rfl rfl rfl) (RG.pv rfl (PV.ext (v := v2) rfl rfl rfl) (RG.pv rfl (PV.ext rfl rfl rfl) (RG.pv rfl (PV.asg (v := v1) rfl rfl) (RG.pv rfl (PV.asg (v := v2) rfl rfl) (RG.mr rfl rfl rfl (RG.nil ?_)))))))
   refine WP.seq (WP.region (RG.ml rfl rfl rfl (RG.pv rfl (PV.neq rfl rfl rfl) (RG.nil ?_))))
   refine WP.cond rfl (fun h2 => ?_) (fun h2 => ?_)
   · refine WP.seq ?_
     refine WP.region ?_
     refine RG.ot rfl (OT.bslice (F := netT) (els := []) rfl El44 rfl (by decide) rfl (by decide) trivial fun v20 => ?_)
     refine RG.ml rfl rfl rfl (RG.pv rfl (PV.asg (v := v20) rfl rfl) (RG.mr rfl rfl rfl (RG.nil ?_)))
     refine WP.ret ?_
     exact ⟨_, _, ResV.two rfl rfl rfl, (Cv.p (C := osl 80 netT v20 [] :: L)).trans (Cv.cons ((Cv.bag0 (e := 140) (F := rectT) (xs := regs (er (nps [])).flatten) rfl).trans (Cv.bag0 (e := 63) (F := pieceT) (xs := nps []) rfl))), k v20 [] rfl⟩
   · exfalso; simp at h2; exact h1 h2
noncomputable def noC (cs : List ECell) (cell net : Int) : Int := if hnC cs cell = 0 then (if 0 ≤ net ∧ net < netN (flyL cs cell) then 0 else 5) else hnC cs cell
noncomputable def noR (cs : List ECell) (cell net : Int) : List Int := if noC cs cell net = 0 then ocN (flyL cs cell) (plE cs cell) ((ppAll cs cell).map Prod.fst) net.toNat else []
theorem noC_0 {cs : List ECell} {cell net : Int} (h : noC cs cell net = 0) : hnC cs cell = 0 ∧ 0 ≤ net ∧ net < netN (flyL cs cell) := by
 unfold noC at h
 split at h
 · split at h
   · exact ⟨‹_›, ‹_›⟩
   · cases h
 · exact absurd h ‹_›
theorem noR_no {cs : List ECell} {cell net : Int} (h : noC cs cell net ≠ 0) : noR cs cell net = [] := by rw [noR, if_neg h]
theorem hnR_gd {cs : List ECell} {cell : Int} {n : Nat} (h : hnC cs cell = 0) (hn : n < netN (flyL cs cell)) : (gd (hnR cs cell) n).2 = ocN (flyL cs cell) (plE cs cell) ((ppAll cs cell).map Prod.fst) n := by
 have e : gd (List.range (netN (flyL cs cell))) n = n := by rw [gd_eq (by simpa using hn)]; simp
 rw [hnR_yes h, netH, gd_map _ (by simpa using hn)]
 simp only [e]
theorem netOcc_i {l : Lib} {cell net : Int} (hL : RLib G L l.cells.v l.cells.xs) (hlen : lenC (erCls l.cells.xs)) (k : ∀ v, R (.tuple #[v, vi (noC (erCls l.cells.xs) cell net)]) G (osl 2 intT v (noR (erCls l.cells.xs) cell net) :: L)) : CallT Tryz.prog 18 #[vT libT l, vi cell, vi net] G L R := by
 by_cases h1 : hnC (erCls l.cells.xs) cell = 0
 · obtain ⟨hl1, hl2⟩ := hnR_len h1
   refine CallT.enter (args := _) Tryz.func18 rfl rfl (by kernel_rfl) rfl ?_
   refine WP.seq (WP.region ?_)
   refine RG.ot rfl (OT.box (cs := libT.enc l) rfl rfl rfl fun b3 => ?_)
   refine RG.pv rfl (PV.asg rfl rfl) (RG.mr rfl rfl rfl (RG.nil (WP.seq (WP.region (RG.pv rfl (PV.loadW rfl Ag31 rfl rfl) (RG.ml rfl rfl rfl ?_))))))
   refine RG.callF (vs := [_, _]) rfl rfl En42 rfl (hnets_i hL.up hlen (fun h => absurd h1 h) (fun _ v1 hs he => ?_))
   refine RG.pv rfl (PV.move (v := .tuple _) rfl rfl) (RG.pv rfl (PV.ext (v := v1) rfl rfl rfl) (RG.pv rfl (PV.ext rfl rfl rfl) (RG.pv rfl (PV.asg (v := v1) rfl rfl) (RG.mr rfl rfl rfl (RG.nil (WP.seq (WP.block ?_)))))))
   refine WP.seq (WP.region (RG.ml rfl rfl rfl (RG.pv rfl (PV.neq rfl rfl rfl) (RG.br rfl rfl rfl (RG.nil ?_)))))
   have hsl : hs.length = netN (flyL (erCls l.cells.xs) cell) := by have := congrArg List.length he; rw [List.length_map] at this; omega
   refine WP.cond rfl (fun h2 => ?_) (fun h2 => ?_)
   · simp at h2
   · refine WP.seq ?_
     refine WP.region (RG.ml rfl rfl rfl (RG.pv rfl (PV.move (v := v1) rfl rfl) (RG.pv rfl (PV.len (v := v1) rfl Tryz.underlying74 rfl SlF.o) (RG.pv rfl (PV.sub rfl rfl rfl (by omega)) ?_))))
     refine RG.callF (vs := [_, _, _]) rfl rfl En43 rfl (within_s ?_)
     refine RG.pv rfl (PV.not rfl rfl) (RG.br rfl rfl rfl (RG.nil ?_))
     refine WP.cond rfl (fun h3 => ?_) (fun h3 => ?_)
     · have h3 : ¬ (0 ≤ net ∧ net < netN (flyL (erCls l.cells.xs) cell)) := by simp [within] at h3; omega
       have e : noC (erCls l.cells.xs) cell net = 5 := by rw [noC, if_pos h1, if_neg h3]
       have e2 : noR (erCls l.cells.xs) cell net = [] := noR_no (by rw [e]; decide)
       rw [e, e2] at k
       refine WP.seq (WP.region (RG.pv rfl (PV.asg rfl rfl) (RG.mr rfl rfl rfl (RG.nil ?_))))
       refine WP.ret ?_
       exact ⟨_, _, ResV.two rfl rfl rfl, (Cv.p (C := L)).trans Cv.nilS, k (.slice none 0 0)⟩
     · have h3 : 0 ≤ net ∧ net < netN (flyL (erCls l.cells.xs) cell) := by simp [within] at h3; omega
       have e : noC (erCls l.cells.xs) cell net = 0 := by rw [noC, if_pos h1, if_pos h3]
       obtain ⟨n, rfl⟩ := Int.eq_ofNat_of_zero_le h3.1
       have h30 : n < hs.length := by omega
       have e2 : (gd hs n).occs.xs = noR (erCls l.cells.xs) cell n := by
         rw [noR, if_pos e, Int.toNat_natCast, ← hnR_gd h1 (by omega), ← he, gd_map _ h30]; rfl
       rw [e, ← e2] at k
       refine WP.skip (WP.seq (WP.region (RG.pv rfl (PV.move (v := v1) rfl rfl) (RG.ml rfl rfl rfl (RG.pv rfl (PV.idxS (j := n) (v := v1) rfl Is74 rfl SlF.o rfl (by omega) (by omega)) (RG.pv rfl (PV.field rfl Fo82_1 rfl) (RG.pv rfl (PV.loadF rfl Sc26 rfl rfl (El.o (getG (by omega))) rfl) ?_)))))))
       refine RG.pv rfl (PV.asg rfl rfl) (RG.mr rfl rfl rfl (RG.nil ?_))
       refine WP.ret ?_
       exact ⟨_, _, ResV.two rfl rfl rfl, ((Cv.p (C := bagS 2 intT (hos hs) :: L)).trans ((Cv.bagS_take n (by rw [hos_len]; omega)).trans ((Cv.cast (by rw [hos_gd h30])).trans Cv.p))), k (gd hs n).occs.v⟩
 · have e : noC (erCls l.cells.xs) cell net = hnC (erCls l.cells.xs) cell := by rw [noC, if_neg h1]
   have e2 : noR (erCls l.cells.xs) cell net = [] := noR_no (by rw [e]; exact h1)
   rw [e, e2] at k
   refine CallT.enter (args := _) Tryz.func18 rfl rfl (by kernel_rfl) rfl ?_
   refine WP.seq (WP.region ?_)
   refine RG.ot rfl (OT.box (cs := libT.enc l) rfl rfl rfl fun b3 => ?_)
   refine RG.pv rfl (PV.asg rfl rfl) (RG.mr rfl rfl rfl (RG.nil (WP.seq (WP.region (RG.pv rfl (PV.loadW rfl Ag31 rfl rfl) (RG.ml rfl rfl rfl ?_))))))
   refine RG.callF (vs := [_, _]) rfl rfl En42 rfl (hnets_i hL.up hlen (fun _ => ?_) (fun h => absurd h h1))
   refine RG.pv rfl (PV.move (v := .tuple _) rfl rfl) (RG.pv rfl (PV.ext rfl rfl rfl) (RG.pv rfl (PV.ext rfl rfl rfl) (RG.pv rfl (PV.asg rfl rfl) (RG.mr rfl rfl rfl (RG.nil (WP.seq (WP.block ?_)))))))
   refine WP.seq (WP.region (RG.ml rfl rfl rfl (RG.pv rfl (PV.neq rfl rfl rfl) (RG.br rfl rfl rfl (RG.nil ?_)))))
   refine WP.cond rfl (fun h2 => ?_) (fun h2 => ?_)
   · refine WP.seq ?_
     refine WP.region (RG.ml rfl rfl rfl (RG.pv rfl (PV.asg rfl rfl) (RG.mr rfl rfl rfl (RG.nil ?_))))
     refine WP.ret ?_
     exact ⟨_, _, ResV.two rfl rfl rfl, (Cv.p (C := L)).trans Cv.nilS, k (.slice none 0 0)⟩
   · exfalso; simp at h2; exact h1 h2
theorem l25Occ_r {v u : Value} {qs : List PPiece} {ns : List Int} {net : Int} (h1 : Rs G L ppieceT v qs) (h2 : Rs G L intT u ns) (hl : ns.length = qs.length) (hq4 : qs.length ≤ 400) (k : ∀ v', R v' G (osl 2 intT v' (compactL (nuTo ns ((erQs qs).map Prod.fst) net qs.length)) :: L)) : CallT Tryz.prog 41 #[v, u, vi net] G L R := by
 have hO : ∀ i, i < qs.length → gd ((erQs qs).map Prod.fst) i = (gd qs i).occ := fun i hi => by
   rw [gd_map _ (by simpa [erQs] using hi), erQs, gd_map _ hi]; rfl
 generalize hO2 : (erQs qs).map Prod.fst = O at *
 refine CallT.enter (args := _) Tryz.func41 rfl rfl (by kernel_rfl) rfl ?_
 refine WP.seq (WP.region (RG.pv rfl (PV.asg rfl rfl) (RG.nil (WP.seq (WP.region ?_)))))
 refine RG.ot rfl (OT.bslice (F := intT) (els := []) rfl El26 rfl (by decide) rfl (by decide) trivial fun v10 => ?_)
 refine RG.pv rfl (PV.asg (v := v10) rfl rfl) (RG.nil (WP.seq (WP.seq (WP.region (RG.mr rfl rfl rfl (RG.nil (WP.block ?_)))))))
 refine WP.cv (Cv.eqS (show [] = compactL (nuTo ns O net 0) from rfl)) ?_
 refine WP.loop2 [0, 1, 2] (fun (i : Nat) (q : Value) => i ≤ qs.length) (fun (i : Nat) (q : Value) => [(8, vi i), (7, q)]) (fun (i : Nat) (q : Value) => osl 2 intT q (compactL (nuTo ns O net i)) :: L) (fun (i : Nat) (q : Value) => qs.length - i) 0 v10 (by omega) ⟨rfl, rfl, trivial⟩ Cv.p ?_
 rintro i q τ hi
 refine WP.seq (WP.seq (WP.region (RG.ml rfl rfl rfl (RG.pv rfl (PV.move (v := v) rfl rfl) (RG.pv rfl (PV.len (v := v) rfl Tryz.underlying53 rfl (SlF.r h1)) (RG.pv rfl (PV.lss rfl rfl rfl) (RG.nil ?_)))))))
 have hcl : (compactL (nuTo ns O net i)).length ≤ 400 := by have h3 := compact_len (nuTo ns O net i); have h4 := nuTo_len ns O net i; omega
 have hcy := compact_yes (xs := nuTo ns O net i) (a := gd O i)
 have hcn := compact_no (xs := nuTo ns O net i) (a := gd O i)
 generalize hC : compactL (nuTo ns O net i) = c at *
 refine WP.cond rfl (fun h3 => ?_) (fun h3 => ?_)
 · have h3 := of_decide_eq_true h3
   have h4 : i < qs.length := by omega
   have hOi := hO i h4
   refine WP.skip (WP.seq (WP.block (WP.seq (WP.region (RG.pv rfl (PV.move (v := v) rfl rfl) (RG.ml rfl rfl rfl (RG.pv rfl (PV.idxS (j := i) (v := v) rfl Is53 rfl (SlF.r h1) rfl (by omega) (by omega)) ?_)))))))
   refine RG.pv rfl (PV.field rfl Fo65_0 rfl) (RG.pv rfl (PV.loadF rfl Sc2 rfl rfl (El.r h1 (getG (by omega))) rfl) (RG.mr rfl rfl rfl (RG.nil (WP.seq (WP.region (RG.pv rfl (PV.move (v := u) rfl rfl) (RG.ml rfl rfl rfl ?_)))))))
   refine RG.pv rfl (PV.idxS (j := i) (v := u) rfl Is26 rfl (SlF.r h2) rfl (by omega) (by omega)) (RG.pv rfl (PV.loadE1 rfl Sc2 rfl rfl (El.r h2 (getG (by omega))) rfl) (RG.ml rfl rfl rfl (RG.pv rfl (PV.eql rfl rfl rfl) (RG.bl rfl rfl rfl ?_))))
   refine RG.gs rfl rfl rfl (fun hp => (PV.move (v := q) rfl rfl)) ?_
   refine RG.gs rfl rfl rfl (fun hp => (PV.len (v := q) rfl Tryz.underlying26 (gs_t hp) SlF.o)) ?_
   refine RG.gs rfl rfl rfl (fun hp => (PV.eql rfl (gs_t hp) rfl)) ?_
   refine RG.gs rfl rfl rfl (fun hp => (PV.mvB (.inl rfl) (gs_t hp))) ?_
   refine RG.gs2 rfl rfl rfl (fun hp => (PV.move (v := q) rfl rfl)) ?_
   refine RG.gs2 rfl rfl rfl (fun hp => (PV.move (v := q) rfl rfl)) ?_
   refine RG.gs2 rfl rfl rfl (fun hp => (PV.len (v := q) rfl Tryz.underlying26 (gs_t hp) SlF.o)) ?_
   refine RG.gs2 rfl rfl rfl (fun hp => (PV.sub rfl (gs_t hp) rfl (by first | omega | (simp [-List.length_eq_zero_iff] at hp; omega)))) ?_
   refine RG.gs2 rfl rfl rfl (fun hp => (PV.idxS (j := (c.length - 1)) (v := q) rfl Is26 (gs_t hp) SlF.o (gs_t hp) (by first | omega | (simp [-List.length_eq_zero_iff] at hp; omega)) (by first | omega | (simp [-List.length_eq_zero_iff] at hp; omega)))) ?_
   refine RG.gs2 rfl rfl rfl (fun hp => (PV.loadE1 rfl Sc2 (gs_t hp) rfl (El.o (getG (by first | omega | (simp [-List.length_eq_zero_iff] at hp; omega)))) rfl)) ?_
   refine RG.gs2 rfl rfl rfl (fun hp => (PV.mvI (.inl rfl) rfl)) ?_
   refine RG.gs2 rfl rfl rfl (fun hp => (PV.neq rfl (gs_t hp) (gs_t hp))) ?_
   refine RG.gs rfl rfl rfl (fun hp => (PV.pickO rfl (gs_t hp) rfl (fun hq => gs_t (gandF hp hq)))) ?_
   refine RG.pv rfl (PV.pickA rfl rfl (fun hq => gs_t (geqT hq)) rfl) (RG.nil ?_)
   refine WP.cond rfl (fun h5 => ?_) (fun h5 => ?_)
   · have h6 : gd ns i = net ∧ (c.length = 0 ∨ gd c (c.length - 1) ≠ (gd qs i).occ) := by simpa [-List.length_eq_zero_iff] using h5
     have e : compactL (nuTo ns O net (i + 1)) = c ++ [(gd qs i).occ] := by rw [nuTo_yes h6.1, hcy (by rw [hOi]; exact h6.2), hOi]
     refine WP.region (RG.pv rfl (PV.move (v := q) rfl rfl) (RG.ml rfl rfl rfl ?_))
     refine RG.ot rfl (OT.bslice (F := intT) (els := [_]) rfl El26 rfl (by decide) rfl (by decide) ⟨rfl, (Cl.c rfl), trivial⟩ fun v45 => ?_)
     refine RG.ot rfl (OT.append (v := q) (u := v45) (F := intT) rfl El26 rfl (by decide) rfl rfl Rs.o (OneL.c (fun _ => rfl)) rfl (by first | omega | (simp <;> omega)) fun v46 => ?_)
     refine RG.pv rfl (PV.asg (v := v46) rfl rfl) (RG.nil (WP.region (RG.ml rfl rfl rfl (RG.pv rfl (PV.add rfl rfl rfl (by omega)) (RG.mr rfl rfl rfl (RG.nil ?_))))))
     exact ⟨rfl, i + 1, v46, (by omega), ⟨rfl, rfl, trivial⟩, ⟨rfl, rfl, rfl, trivial⟩, ((Cv.p (C := osl 2 intT v46 (c ++ [(gd qs i).occ]) :: L)).trans (Cv.eqS e.symm)), by omega⟩
   · have h6 : ¬ (gd ns i = net ∧ (c.length = 0 ∨ gd c (c.length - 1) ≠ (gd qs i).occ)) := fun ⟨g1, g2⟩ => by
       rcases g2 with g2 | g2 <;> simp [-List.length_eq_zero_iff, g1, g2] at h5
     have e : compactL (nuTo ns O net (i + 1)) = c := by
       by_cases g : gd ns i = net
       · have h7 : ¬ (c.length = 0 ∨ gd c (c.length - 1) ≠ (gd qs i).occ) := fun h => h6 ⟨g, h⟩
         rw [not_or, Classical.not_not] at h7
         rw [nuTo_yes g, hcn h7.1 (by rw [hOi]; exact h7.2)]
       · rw [nuTo_no g, hC]
     refine WP.skip (WP.region (RG.ml rfl rfl rfl (RG.pv rfl (PV.add rfl rfl rfl (by omega)) (RG.mr rfl rfl rfl (RG.nil ?_)))))
     exact ⟨rfl, i + 1, q, (by omega), ⟨rfl, rfl, trivial⟩, ⟨rfl, rfl, rfl, trivial⟩, ((Cv.p (C := osl 2 intT q c :: L)).trans (Cv.eqS e.symm)), by omega⟩
 · have h3 := of_decide_eq_false h3
   obtain rfl : i = qs.length := by omega
   rw [hC] at k
   refine WP.exit ?_
   refine WP.seq (WP.region (RG.pv rfl (PV.move (v := q) rfl rfl) (RG.pv rfl (PV.asg (v := q) rfl rfl) (RG.nil ?_))))
   refine WP.ret ?_
   exact ⟨_, _, ResV.one rfl rfl, Cv.p, k q⟩
theorem netOcc_r {l : Lib} {cell net : Int} (hL : RLib G L l.cells.v l.cells.xs) (hlen : lenC (erCls l.cells.xs)) (k : ∀ v, R (.tuple #[v, vi (noC (erCls l.cells.xs) cell net)]) G (osl 2 intT v (noR (erCls l.cells.xs) cell net) :: L)) : CallT Tryz.prog 17 #[vT libT l, vi cell, vi net] G L R := by
 refine CallT.enter (args := _) Tryz.func17 rfl rfl (by kernel_rfl) rfl ?_
 refine WP.seq (WP.region ?_)
 refine RG.ot rfl (OT.box (cs := libT.enc l) rfl rfl rfl fun b3 => ?_)
 refine RG.pv rfl (PV.asg rfl rfl) (RG.mr rfl rfl rfl (RG.nil (WP.seq (WP.region (RG.pv rfl (PV.loadW rfl Ag31 rfl rfl) (RG.ml rfl rfl rfl ?_))))))
 refine RG.callF (vs := [_, _]) rfl rfl En26 rfl (hier_r hL.up hlen (fun w16 zsw16 hew16 => ?_))
 refine RG.pv rfl (PV.move (v := .tuple _) rfl rfl) (RG.pv rfl (PV.ext (v := w16) rfl rfl rfl) (RG.pv rfl (PV.ext rfl rfl rfl) (RG.pv rfl (PV.asg (v := w16) rfl rfl) (RG.mr rfl rfl rfl (RG.nil (WP.seq (WP.seq ?_)))))))
 refine WP.region (RG.ml rfl rfl rfl (RG.pv rfl (PV.neq rfl rfl rfl) (RG.nil ?_)))
 refine WP.cond rfl (fun h1 => ?_) (fun h1 => ?_)
 · have h1 : hnC (erCls l.cells.xs) cell ≠ 0 := by simpa using h1
   have e : noC (erCls l.cells.xs) cell net = hnC (erCls l.cells.xs) cell := by rw [noC, if_neg h1]
   have e2 : noR (erCls l.cells.xs) cell net = [] := noR_no (by rw [e]; exact h1)
   rw [e, e2] at k
   refine WP.seq (WP.region ?_)
   refine RG.ot rfl (OT.bslice (F := intT) (els := []) rfl El26 rfl (by decide) rfl (by decide) trivial fun v21 => ?_)
   refine RG.ml rfl rfl rfl (RG.pv rfl (PV.asg (v := v21) rfl rfl) (RG.mr rfl rfl rfl (RG.nil ?_)))
   refine WP.ret ?_
   exact ⟨_, _, ResV.two rfl rfl rfl, Cv.p, k v21⟩
 · have h1 : hnC (erCls l.cells.xs) cell = 0 := by simpa using h1
   have hzl : zsw16.length = netN (flyL (erCls l.cells.xs) cell) := by
     have := congrArg List.length hew16
     rw [hnN, if_pos h1, netL_len, List.length_map, er_len, nps_len] at this; exact this
   have hl2 := (hnR_len h1).2
   refine WP.skip (WP.seq (WP.seq (WP.region (RG.ml rfl rfl rfl (RG.pv rfl (PV.lss rfl rfl rfl) (RG.bl rfl rfl rfl ?_))))))
   refine RG.gs rfl rfl rfl (fun hp => (PV.mvI (.inl rfl) rfl)) ?_
   refine RG.gs rfl rfl rfl (fun hp => (PV.move (v := w16) rfl rfl)) ?_
   refine RG.gs rfl rfl rfl (fun hp => (PV.len (v := w16) rfl Tryz.underlying44 (gs_t hp) SlF.o)) ?_
   refine RG.gs rfl rfl rfl (fun hp => (PV.geq rfl (gs_t hp) (gs_t hp))) ?_
   refine RG.pv rfl (PV.pickO rfl rfl rfl (fun hq => gs_t (geqF hq))) (RG.nil ?_)
   refine WP.cond rfl (fun h3 => ?_) (fun h3 => ?_)
   · have h3 : ¬ (0 ≤ net ∧ net < netN (flyL (erCls l.cells.xs) cell)) := by simp at h3; omega
     have e : noC (erCls l.cells.xs) cell net = 5 := by rw [noC, if_pos h1, if_neg h3]
     have e2 : noR (erCls l.cells.xs) cell net = [] := noR_no (by rw [e]; decide)
     rw [e, e2] at k
     refine WP.seq (WP.region ?_)
     refine RG.ot rfl (OT.bslice (F := intT) (els := []) rfl El26 rfl (by decide) rfl (by decide) trivial fun v31 => ?_)
     refine RG.pv rfl (PV.asg (v := v31) rfl rfl) (RG.mr rfl rfl rfl (RG.nil ?_))
     refine WP.ret ?_
     exact ⟨_, _, ResV.two rfl rfl rfl, Cv.p, k v31⟩
   · have h3 : 0 ≤ net ∧ net < netN (flyL (erCls l.cells.xs) cell) := by simp at h3; omega
     have e : noC (erCls l.cells.xs) cell net = 0 := by rw [noC, if_pos h1, if_pos h3]
     have hc1 := (hnC_0 h1).1
     have hp4 := (ppC_0 (hcC_0 hc1).1).2
     refine WP.skip (WP.seq (WP.region (RG.pv rfl (PV.loadW rfl Ag31 rfl rfl) (RG.ml rfl rfl rfl ?_))))
     refine RG.callF (vs := [_, _]) rfl rfl En36 rfl (l25All_r hL.up hlen (fun h => absurd hc1 h) (fun _ v1 qs v2 hq => have hql : qs.length = (ppAll (erCls l.cells.xs) cell).length := (by rw [← erQs_len, hq]); ?_))
     refine RG.pv rfl (PV.move (v := .tuple _) rfl rfl) (RG.pv rfl (PV.ext (v := v1) rfl rfl rfl) (RG.pv rfl (PV.ext (v := v2) rfl rfl rfl) (RG.pv rfl (PV.ext rfl rfl rfl) (RG.pv rfl (PV.asg (v := v1) rfl rfl) (RG.pv rfl (PV.asg (v := v2) rfl rfl) (RG.mr rfl rfl rfl (RG.nil ?_)))))))
     refine WP.seq (WP.region (RG.pv rfl (PV.move (v := v1) rfl rfl) (RG.pv rfl (PV.move (v := v2) rfl rfl) (RG.ml rfl rfl rfl ?_))))
     refine RG.callF (vs := [v1, v2, _]) rfl rfl En41 rfl (l25Occ_r Rs.o Rs.o (by rw [numQ_len, hql]) (by omega) (fun v42 => ?_))
     refine RG.pv rfl (PV.asg (v := v42) rfl rfl) (RG.mr rfl rfl rfl (RG.nil ?_))
     refine WP.ret ?_
     have e2 : compactL (nuTo (numQ (flyL (erCls l.cells.xs) cell) (ppAll (erCls l.cells.xs) cell)) ((erQs qs).map Prod.fst) net qs.length) = noR (erCls l.cells.xs) cell net := by
       obtain ⟨n, rfl⟩ := Int.eq_ofNat_of_zero_le h3.1
       rw [noR, if_pos e, Int.toNat_natCast, hq, show qs.length = (plE (erCls l.cells.xs) cell).length by rw [hql, plE_len]]
       exact ocN_nu fun i hi => numQ_gd hi
     rw [e, ← e2] at k
     exact ⟨_, _, ResV.two rfl rfl rfl, Cv.p, k v42⟩
end Go.Proofs.YthhjapiggekjbaaGreat
namespace Go.Proofs.YthhjapiggekjbaaGreat
set_option linter.unusedVariables false
set_option linter.unusedSimpArgs false
open Go
set_option maxRecDepth 20000
set_option maxHeartbeats 1000000
set_option linter.unusedSimpArgs false
variable {G : Gh} {L : List Ch} {R : Value → Gh → List Ch → Prop}
theorem noR_len (cs : List ECell) (cell net : Int) : (noR cs cell net).length ≤ 400 := by
 by_cases h : noC cs cell net = 0
 · have h1 := ocN_len (flyL cs cell) (plE cs cell) ((ppAll cs cell).map Prod.fst) net.toNat
   have h2 := (ppC_0 (hcC_0 (hnC_0 (noC_0 h).1).1).1).2
   rw [plE_len] at h1
   rw [noR, if_pos h]; omega
 · rw [noR_no h]; simp
theorem noR_cost (cs : List ECell) (cell net : Int) : costL nI (noR cs cell net) ≤ 400 := by
 rw [nI_cost]; have := noR_len cs cell net; omega
theorem law_NetOccurrences {l : Lib} {cell net : Int} (hA : RLib G L l.cells.v l.cells.xs) (hlen : lenC (erCls l.cells.xs)) (k : R (.bool true) G L) : CallT Tryz.prog 4 #[vT libT l, vi cell, vi net] G L R := by
 refine CallT.enter (args := _) Tryz.func4 rfl rfl (by kernel_rfl) rfl ?_
 refine WP.seq (WP.region ?_)
 refine RG.ot rfl (OT.box (cs := libT.enc l) rfl rfl rfl fun b3 => ?_)
 refine RG.br rfl rfl rfl (RG.nil (WP.seq (WP.region (RG.mr rfl rfl rfl (RG.nil (WP.seq (WP.region ?_)))))))
 refine RG.pv rfl (PV.loadW rfl Ag24 rfl rfl) (RG.ml rfl rfl rfl ?_)
 refine RG.callF (vs := [_, _]) rfl rfl En8 rfl (szLib_s hA.up hlen (by omega) (by omega) (fun r hr => ?_))
 refine RG.mr rfl rfl rfl (RG.nil (WP.seq (WP.seq (WP.region (RG.ml rfl rfl rfl (RG.pv rfl (PV.lss rfl rfl rfl) (RG.nil ?_)))))))
 refine WP.cond rfl (fun h2 => ?_) (fun h2 => ?_)
 · refine WP.seq ?_
   refine WP.region (RG.br rfl rfl rfl (RG.nil ?_))
   refine WP.ret ?_
   exact ⟨_, _, ResV.one rfl rfl, Cv.p, k⟩
 · have h2 := of_decide_eq_false h2
   have hf := hr (by omega)
   refine WP.skip (WP.seq (WP.region (RG.pv rfl (PV.loadW rfl Ag24 rfl rfl) ?_)))
   refine RG.callF (vs := [_]) rfl rfl En10 rfl (toLib_s hA.up hf (fun w25 ysw25 hew25 => ?_))
   refine RG.ml rfl rfl rfl (RG.ml rfl rfl rfl ?_)
   refine RG.callF (vs := [_, _, _]) rfl rfl En17 rfl (netOcc_r (net := net) (l := ⟨⟨w25, ysw25⟩⟩) ⟨Rs.o, RsE.o, RsE.o, RsE.o⟩ (by rw [hew25]; exact hlen) (fun w28 => ?_))
   refine RG.pv rfl (PV.move (v := .tuple _) rfl rfl) (RG.pv rfl (PV.ext (v := w28) rfl rfl rfl) (RG.pv rfl (PV.ext rfl rfl rfl) (RG.pv rfl (PV.asg (v := w28) rfl rfl) (RG.mr rfl rfl rfl (RG.nil (WP.seq (WP.region ?_)))))))
   refine RG.pv rfl (PV.loadW rfl Ag24 rfl rfl) ?_
   refine RG.callF (vs := [_]) rfl rfl En10 rfl (toLib_s hA.up hf (fun w32 ysw32 hew32 => ?_))
   refine RG.ot rfl (OT.alloc rfl Zr31 fun b10 => ?_)
   refine RG.ot rfl (OT.storeW (vs := [_]) rfl Sz31 rfl rfl (Cl.c rfl) rfl rfl (OneC.sl (SlF.o (v := w32)) OneC.nil) ?_)
   refine RG.nil (WP.seq (WP.region (RG.pv rfl (PV.loadW rfl Ag31 rfl rfl) (RG.ml rfl rfl rfl (RG.ml rfl rfl rfl ?_)))))
   refine RG.callF (vs := [_, _, _]) rfl rfl En18 rfl (netOcc_i (net := net) (l := ⟨⟨w32, ysw32⟩⟩) ⟨Rs.o, RsE.o, RsE.o, RsE.o⟩ (by rw [hew32]; exact hlen) (fun w37 => ?_))
   refine RG.pv rfl (PV.move (v := .tuple _) rfl rfl) (RG.pv rfl (PV.ext (v := w37) rfl rfl rfl) (RG.pv rfl (PV.ext rfl rfl rfl) (RG.pv rfl (PV.asg (v := w37) rfl rfl) (RG.mr rfl rfl rfl (RG.nil (WP.seq (WP.seq ?_)))))))
   refine WP.region (RG.pv rfl (PV.move (v := w37) rfl rfl) (RG.pv rfl (PV.move (v := w28) rfl rfl) ?_))
   refine RG.callF (vs := [w37, w28]) rfl rfl En12 rfl (eqInt_s Rs.o Rs.o ?_)
   refine RG.pv rfl (PV.not rfl rfl) (RG.bl rfl rfl rfl ?_)
   refine RG.gs rfl rfl rfl (fun hp => (PV.mvI (.inl rfl) rfl)) ?_
   refine RG.gs rfl rfl rfl (fun hp => (PV.mvI (.inl rfl) rfl)) ?_
   refine RG.gs rfl rfl rfl (fun hp => (PV.neq rfl (gs_t hp) (gs_t hp))) ?_
   refine RG.pv rfl (PV.pickO rfl rfl rfl (fun hq => gs_t (geqF hq))) (RG.nil ?_)
   refine WP.cond rfl (fun h3 => ?_) (fun h3 => ?_)
   · simp [hew25, hew32] at h3
   · refine WP.skip ?_
     refine WP.seq (WP.seq ?_)
     refine WP.regionH0 (.q 0 (.q 1 (.l 2 (.l 3 (.q 4 Sch.nil))))) (by kernel_rfl) (by kernel_rfl) (by kernel_rfl) rfl ?_
     refine RH.pv rfl (fun _ _ _ _ h => h) (Gh.le_refl _) PickC.pick rfl (PV.loadW rfl Ag31 rfl rfl) ?_
     refine RH.pv rfl (fun _ _ _ _ h => h) (Gh.le_refl _) PickC.pick rfl (PV.loadW rfl Ag24 rfl rfl) ?_
     refine RH.ot rfl rfl (OT.callF (vs := [_]) rfl En10 rfl (toLib_s hA.up hf (fun w51 ysw51 hew51 => ⟨Gh.le_refl _, PickC.pick, ?_⟩)))
     refine RH.ot rfl rfl (OT.callF (vs := [_, _]) rfl En13 rfl (eqLib_s (l := ⟨⟨w32, ysw32⟩⟩) (m := ⟨⟨w51, ysw51⟩⟩) ⟨Rs.o, RsE.o, RsE.o, RsE.o⟩ ⟨Rs.o, RsE.o, RsE.o, RsE.o⟩ (by rw [hew32, hew51]) ⟨Gh.le_refl _, PickC.pick, ?_⟩))
     refine RH.pv rfl (fun _ _ _ _ h => h) (Gh.le_refl _) PickC.pick rfl (PV.not rfl rfl) ?_
     refine RH.nil ?_
     refine WP.cond rfl (fun h4 => ?_) (fun h4 => ?_)
     · simp at h4
     · have hcr := noR_cost (erCls l.cells.xs) cell net
       have hm2 : costL nI (noR (erCls ysw32) cell net) ≤ 400 := by rw [hew32]; exact hcr
       have hm4 : 0 ≤ costL nI (noR (erCls ysw32) cell net) := by rw [nI_cost]; omega
       refine WP.skip (WP.seq (WP.region (RG.mr rfl rfl rfl (RG.nil (WP.seq (WP.region (RG.pv rfl (PV.loadW rfl Ag31 rfl rfl) ?_)))))))
       refine RG.ml rfl rfl rfl ?_
       refine RG.callF (vs := [_, _]) rfl rfl En14 rfl (CallT.exBg (ins ysw32) (CallT.exBg (lbs ysw32) (CallT.exBg (shs ysw32) (CallT.exS w32 (markLib_s (l := ⟨⟨w32, ysw32⟩⟩) (by rw [hew32]; exact hf) (by omega) (fun km hkm => ?_))))))
       refine RG.mr rfl rfl rfl (RG.nil (WP.seq (WP.seq (WP.region (RG.ml rfl rfl rfl (RG.pv rfl (PV.lss rfl rfl rfl) (RG.bl rfl rfl rfl ?_)))))))
       refine RG.gs rfl rfl rfl (fun hp => (PV.move (v := w37) rfl rfl)) ?_
       refine RG.gs rfl rfl rfl (fun hp => (PV.move (v := w28) rfl rfl)) ?_
       refine RG.gsC rfl rfl rfl rfl En12 (fun hp => ⟨_, (acons (gs_t hp) (acons (gs_t hp) anil)), eqInt_s Rs.o Rs.o ⟨rfl, rfl, rfl⟩⟩) ?_
       refine RG.gs rfl rfl rfl (fun hp => (PV.not rfl (gs_t hp))) ?_
       refine RG.pv rfl (PV.pickO rfl rfl rfl (fun hq => gs_t (geqF hq))) (RG.bl rfl rfl rfl ?_)
       refine RG.gs rfl rfl rfl (fun hp => (PV.mvI (.inl rfl) rfl)) ?_
       refine RG.gs rfl rfl rfl (fun hp => (PV.mvI (.inl rfl) rfl)) ?_
       refine RG.gs rfl rfl rfl (fun hp => (PV.neq rfl (gs_t hp) (gs_t hp))) ?_
       refine RG.pv rfl (PV.pickO rfl rfl rfl (fun hq => gs_t (geqF hq))) (RG.nil ?_)
       refine WP.cond rfl (fun h5 => ?_) (fun h5 => ?_)
       · exfalso
         have : ¬ km < 0 := by omega
         simp [this, hew25, hew32] at h5
       · skip
         refine WP.skip (WP.seq (WP.region (RG.mr rfl rfl rfl (RG.nil (WP.seq (WP.region (RG.pv rfl (PV.move (v := w37) rfl rfl) ?_)))))))
         refine RG.ml rfl rfl rfl ?_
         refine RG.callF (vs := [w37, _]) rfl rfl En15 rfl (CallT.exS w37 (markInt_s (by omega) (by simp only; omega) ?_))
         refine RG.mr rfl rfl rfl (RG.nil (WP.seq (WP.region (RG.mr rfl rfl rfl (RG.nil (WP.seq (WP.region ?_)))))))
         refine RG.pv rfl (PV.move (v := w37) rfl rfl) (RG.ml rfl rfl rfl ?_)
         refine RG.callF (vs := [w37, _]) rfl rfl En16 rfl (heldInt_s Rs.o (by omega) (by simp only; omega) ?_)
         refine RG.mr rfl rfl rfl (RG.nil (WP.seq (WP.seq (WP.region (RG.ml rfl rfl rfl (RG.pv rfl (PV.lss rfl rfl rfl) (RG.nil ?_)))))))
         refine WP.cond rfl (fun h6 => ?_) (fun h6 => ?_)
         · simp at h6; omega
         · refine WP.skip ?_
           refine WP.seq (WP.seq (WP.region (RG.ml rfl rfl rfl (RG.ml rfl rfl rfl (RG.pv rfl (PV.neq rfl rfl rfl) (RG.nil ?_))))))
           refine WP.cond rfl (fun h7 => ?_) (fun h7 => ?_)
           · simp at h7
           · skip
             refine WP.skip (WP.seq (WP.region (RG.pv rfl (PV.loadW rfl Ag24 rfl rfl) ?_)))
             refine RG.callF (vs := [_]) rfl rfl En10 rfl (toLib_s hA.up hf (fun w83 ysw83 hew83 => ?_))
             refine RG.ml rfl rfl rfl (RG.ml rfl rfl rfl ?_)
             refine RG.callF (vs := [_, _, _]) rfl rfl En18 rfl (netOcc_i (net := net) (l := ⟨⟨w83, ysw83⟩⟩) ⟨Rs.o, RsE.o, RsE.o, RsE.o⟩ (by rw [hew83]; exact hlen) (fun w86 => ?_))
             refine RG.pv rfl (PV.move (v := .tuple _) rfl rfl) (RG.pv rfl (PV.ext (v := w86) rfl rfl rfl) (RG.pv rfl (PV.ext rfl rfl rfl) (RG.pv rfl (PV.asg (v := w86) rfl rfl) (RG.mr rfl rfl rfl (RG.nil (WP.seq (WP.seq ?_)))))))
             refine WP.region (RG.pv rfl (PV.move (v := w86) rfl rfl) (RG.pv rfl (PV.move (v := w28) rfl rfl) ?_))
             refine RG.callF (vs := [w86, w28]) rfl rfl En12 rfl (eqInt_s Rs.o Rs.o ?_)
             refine RG.pv rfl (PV.not rfl rfl) (RG.bl rfl rfl rfl ?_)
             refine RG.gs rfl rfl rfl (fun hp => (PV.mvI (.inl rfl) rfl)) ?_
             refine RG.gs rfl rfl rfl (fun hp => (PV.mvI (.inl rfl) rfl)) ?_
             refine RG.gs rfl rfl rfl (fun hp => (PV.neq rfl (gs_t hp) (gs_t hp))) ?_
             refine RG.pv rfl (PV.pickO rfl rfl rfl (fun hq => gs_t (geqF hq))) (RG.nil ?_)
             refine WP.cond rfl (fun h8 => ?_) (fun h8 => ?_)
             · simp [hew25, hew83] at h8
             · skip
               refine WP.skip (WP.seq (WP.region (RG.mr rfl rfl rfl (RG.nil (WP.seq (WP.region (RG.pv rfl (PV.move (v := w37) rfl rfl) ?_)))))))
               refine RG.ml rfl rfl rfl ?_
               refine RG.callF (vs := [w37, _]) rfl rfl En16 rfl (heldInt_s Rs.o (by omega) (by simp only; omega) ?_)
               refine RG.mr rfl rfl rfl (RG.nil (WP.seq (WP.seq (WP.region (RG.ml rfl rfl rfl (RG.pv rfl (PV.lss rfl rfl rfl) (RG.nil ?_)))))))
               refine WP.cond rfl (fun h9 => ?_) (fun h9 => ?_)
               · simp at h9; omega
               · refine WP.skip ?_
                 refine WP.seq (WP.seq (WP.region (RG.ml rfl rfl rfl (RG.ml rfl rfl rfl (RG.pv rfl (PV.neq rfl rfl rfl) (RG.nil ?_))))))
                 refine WP.cond rfl (fun h10 => ?_) (fun h10 => ?_)
                 · simp at h10
                 · refine WP.skip ?_
                   refine WP.seq (WP.region (RG.br rfl rfl rfl (RG.nil ?_)))
                   refine WP.ret ?_
                   exact ⟨_, _, ResV.one rfl rfl, Cv.p, k⟩
end Go.Proofs.YthhjapiggekjbaaGreat
namespace Go.Proofs.YthhjapiggekjbaaGreat
set_option linter.unusedVariables false
set_option linter.unusedSimpArgs false
open Go Go.ChangeShapes Go.WideShapes Go.ChangeAt Go.RowKit
set_option linter.unusedSimpArgs false
set_option maxRecDepth 100000
theorem Tryz.own : ownKnob Tryz.prog.godebug = none := by kernel_rfl
theorem Tryz.laidOut : laidOutB Tryz.prog = true := by kernel_rfl
def okrectT (G : Gh) (a : Rect) : Prop := okI G a.x0 ∧ okI G a.y0 ∧ okI G a.x1 ∧ okI G a.y1
theorem opn228 : Opn Tryz.prog 228 rectT okrectT := fun {H enc w fuel cs x} h => by
 obtain ⟨xs, n, _, _, hl, hx, hf⟩ := DataW.trod_struct Tryz.underlying228 h
 rw [show Tryz.prog.cellsOf 228 = 4 by kernel_rfl] at hl
 obtain ⟨c0, c1, c2, c3, rfl⟩ : ∃ c0 c1 c2 c3, cs = [c0, c1, c2, c3] := by
   match cs, hl with
   | [c0, c1, c2, c3], _ => exact ⟨c0, c1, c2, c3, rfl⟩
 have g0 := hf 0 _ rfl
 simp only [List.getElem_toArray, List.getElem_cons_zero, List.getElem_cons_succ] at g0
 rw [show Tryz.prog.cellsOf 2 = 1 by kernel_rfl] at g0
 obtain ⟨x0, y0⟩ : ∃ x, xs[0]? = some x := ⟨_, List.getElem?_eq_getElem (by rw [hx]; decide)⟩
 rw [y0] at g0
 obtain ⟨a0, e0, o0⟩ := (opnI Tryz.underlying2) g0
 have g1 := hf 1 _ rfl
 simp only [List.getElem_toArray, List.getElem_cons_zero, List.getElem_cons_succ] at g1
 rw [show Tryz.prog.cellsOf 2 = 1 by kernel_rfl] at g1
 obtain ⟨x1, y1⟩ : ∃ x, xs[1]? = some x := ⟨_, List.getElem?_eq_getElem (by rw [hx]; decide)⟩
 rw [y1] at g1
 obtain ⟨a1, e1, o1⟩ := (opnI Tryz.underlying2) g1
 have g2 := hf 2 _ rfl
 simp only [List.getElem_toArray, List.getElem_cons_zero, List.getElem_cons_succ] at g2
 rw [show Tryz.prog.cellsOf 2 = 1 by kernel_rfl] at g2
 obtain ⟨x2, y2⟩ : ∃ x, xs[2]? = some x := ⟨_, List.getElem?_eq_getElem (by rw [hx]; decide)⟩
 rw [y2] at g2
 obtain ⟨a2, e2, o2⟩ := (opnI Tryz.underlying2) g2
 have g3 := hf 3 _ rfl
 simp only [List.getElem_toArray, List.getElem_cons_zero, List.getElem_cons_succ] at g3
 rw [show Tryz.prog.cellsOf 2 = 1 by kernel_rfl] at g3
 obtain ⟨x3, y3⟩ : ∃ x, xs[3]? = some x := ⟨_, List.getElem?_eq_getElem (by rw [hx]; decide)⟩
 rw [y3] at g3
 obtain ⟨a3, e3, o3⟩ := (opnI Tryz.underlying2) g3
 clear hf hx hl
 refine ⟨⟨a0, a1, a2, a3⟩, ?_, o0, o1, o2, o3⟩
 simp [intT] at e0 e1 e2 e3
 simp [intT, rectT, e0, e1, e2, e3]
def okshapeT (G : Gh) (a : Shape) : Prop := okI G a.layer ∧ okrectT G a.box
theorem opn230 : Opn Tryz.prog 230 shapeT okshapeT := fun {H enc w fuel cs x} h => by
 obtain ⟨xs, n, _, _, hl, hx, hf⟩ := DataW.trod_struct Tryz.underlying230 h
 rw [show Tryz.prog.cellsOf 230 = 5 by kernel_rfl] at hl
 obtain ⟨c0, c1, c2, c3, c4, rfl⟩ : ∃ c0 c1 c2 c3 c4, cs = [c0, c1, c2, c3, c4] := by
   match cs, hl with
   | [c0, c1, c2, c3, c4], _ => exact ⟨c0, c1, c2, c3, c4, rfl⟩
 have g0 := hf 0 _ rfl
 simp only [List.getElem_toArray, List.getElem_cons_zero, List.getElem_cons_succ] at g0
 rw [show Tryz.prog.cellsOf 2 = 1 by kernel_rfl] at g0
 obtain ⟨x0, y0⟩ : ∃ x, xs[0]? = some x := ⟨_, List.getElem?_eq_getElem (by rw [hx]; decide)⟩
 rw [y0] at g0
 obtain ⟨a0, e0, o0⟩ := (opnI Tryz.underlying2) g0
 have g1 := hf 1 _ rfl
 simp only [List.getElem_toArray, List.getElem_cons_zero, List.getElem_cons_succ] at g1
 rw [show Tryz.prog.cellsOf 228 = 4 by kernel_rfl] at g1
 obtain ⟨x1, y1⟩ : ∃ x, xs[1]? = some x := ⟨_, List.getElem?_eq_getElem (by rw [hx]; decide)⟩
 rw [y1] at g1
 obtain ⟨a1, e1, o1⟩ := opn228 g1
 clear hf hx hl
 refine ⟨⟨a0, a1⟩, ?_, o0, o1⟩
 simp [intT, rectT] at e0 e1
 simp [intT, rectT, shapeT, e0, e1]
def okptT (G : Gh) (a : Pt) : Prop := okI G a.x ∧ okI G a.y
theorem opn223 : Opn Tryz.prog 223 ptT okptT := fun {H enc w fuel cs x} h => by
 obtain ⟨xs, n, _, _, hl, hx, hf⟩ := DataW.trod_struct Tryz.underlying223 h
 rw [show Tryz.prog.cellsOf 223 = 2 by kernel_rfl] at hl
 obtain ⟨c0, c1, rfl⟩ : ∃ c0 c1, cs = [c0, c1] := by
   match cs, hl with
   | [c0, c1], _ => exact ⟨c0, c1, rfl⟩
 have g0 := hf 0 _ rfl
 simp only [List.getElem_toArray, List.getElem_cons_zero, List.getElem_cons_succ] at g0
 rw [show Tryz.prog.cellsOf 2 = 1 by kernel_rfl] at g0
 obtain ⟨x0, y0⟩ : ∃ x, xs[0]? = some x := ⟨_, List.getElem?_eq_getElem (by rw [hx]; decide)⟩
 rw [y0] at g0
 obtain ⟨a0, e0, o0⟩ := (opnI Tryz.underlying2) g0
 have g1 := hf 1 _ rfl
 simp only [List.getElem_toArray, List.getElem_cons_zero, List.getElem_cons_succ] at g1
 rw [show Tryz.prog.cellsOf 2 = 1 by kernel_rfl] at g1
 obtain ⟨x1, y1⟩ : ∃ x, xs[1]? = some x := ⟨_, List.getElem?_eq_getElem (by rw [hx]; decide)⟩
 rw [y1] at g1
 obtain ⟨a1, e1, o1⟩ := (opnI Tryz.underlying2) g1
 clear hf hx hl
 refine ⟨⟨a0, a1⟩, ?_, o0, o1⟩
 simp [intT] at e0 e1
 simp [intT, ptT, e0, e1]
def oklabelT (G : Gh) (a : Label) : Prop := okI G a.layer ∧ okptT G a.at_ ∧ okS G a.name
theorem opn225 : Opn Tryz.prog 225 labelT oklabelT := fun {H enc w fuel cs x} h => by
 obtain ⟨xs, n, _, _, hl, hx, hf⟩ := DataW.trod_struct Tryz.underlying225 h
 rw [show Tryz.prog.cellsOf 225 = 4 by kernel_rfl] at hl
 obtain ⟨c0, c1, c2, c3, rfl⟩ : ∃ c0 c1 c2 c3, cs = [c0, c1, c2, c3] := by
   match cs, hl with
   | [c0, c1, c2, c3], _ => exact ⟨c0, c1, c2, c3, rfl⟩
 have g0 := hf 0 _ rfl
 simp only [List.getElem_toArray, List.getElem_cons_zero, List.getElem_cons_succ] at g0
 rw [show Tryz.prog.cellsOf 2 = 1 by kernel_rfl] at g0
 obtain ⟨x0, y0⟩ : ∃ x, xs[0]? = some x := ⟨_, List.getElem?_eq_getElem (by rw [hx]; decide)⟩
 rw [y0] at g0
 obtain ⟨a0, e0, o0⟩ := (opnI Tryz.underlying2) g0
 have g1 := hf 1 _ rfl
 simp only [List.getElem_toArray, List.getElem_cons_zero, List.getElem_cons_succ] at g1
 rw [show Tryz.prog.cellsOf 223 = 2 by kernel_rfl] at g1
 obtain ⟨x1, y1⟩ : ∃ x, xs[1]? = some x := ⟨_, List.getElem?_eq_getElem (by rw [hx]; decide)⟩
 rw [y1] at g1
 obtain ⟨a1, e1, o1⟩ := opn223 g1
 have g2 := hf 2 _ rfl
 simp only [List.getElem_toArray, List.getElem_cons_zero, List.getElem_cons_succ] at g2
 rw [show Tryz.prog.cellsOf 9 = 1 by kernel_rfl] at g2
 obtain ⟨x2, y2⟩ : ∃ x, xs[2]? = some x := ⟨_, List.getElem?_eq_getElem (by rw [hx]; decide)⟩
 rw [y2] at g2
 obtain ⟨a2, e2, o2⟩ := (opnS Tryz.underlying9) g2
 clear hf hx hl
 refine ⟨⟨a0, a1, a2⟩, ?_, o0, o1, o2⟩
 simp [intT, ptT, strT] at e0 e1 e2
 simp [intT, labelT, ptT, strT, e0, e1, e2]
def oktransT (G : Gh) (a : Trans) : Prop := okI G a.o ∧ okI G a.x ∧ okI G a.y
theorem opn233 : Opn Tryz.prog 233 transT oktransT := fun {H enc w fuel cs x} h => by
 obtain ⟨xs, n, _, _, hl, hx, hf⟩ := DataW.trod_struct Tryz.underlying233 h
 rw [show Tryz.prog.cellsOf 233 = 3 by kernel_rfl] at hl
 obtain ⟨c0, c1, c2, rfl⟩ : ∃ c0 c1 c2, cs = [c0, c1, c2] := by
   match cs, hl with
   | [c0, c1, c2], _ => exact ⟨c0, c1, c2, rfl⟩
 have g0 := hf 0 _ rfl
 simp only [List.getElem_toArray, List.getElem_cons_zero, List.getElem_cons_succ] at g0
 rw [show Tryz.prog.cellsOf 2 = 1 by kernel_rfl] at g0
 obtain ⟨x0, y0⟩ : ∃ x, xs[0]? = some x := ⟨_, List.getElem?_eq_getElem (by rw [hx]; decide)⟩
 rw [y0] at g0
 obtain ⟨a0, e0, o0⟩ := (opnI Tryz.underlying2) g0
 have g1 := hf 1 _ rfl
 simp only [List.getElem_toArray, List.getElem_cons_zero, List.getElem_cons_succ] at g1
 rw [show Tryz.prog.cellsOf 2 = 1 by kernel_rfl] at g1
 obtain ⟨x1, y1⟩ : ∃ x, xs[1]? = some x := ⟨_, List.getElem?_eq_getElem (by rw [hx]; decide)⟩
 rw [y1] at g1
 obtain ⟨a1, e1, o1⟩ := (opnI Tryz.underlying2) g1
 have g2 := hf 2 _ rfl
 simp only [List.getElem_toArray, List.getElem_cons_zero, List.getElem_cons_succ] at g2
 rw [show Tryz.prog.cellsOf 2 = 1 by kernel_rfl] at g2
 obtain ⟨x2, y2⟩ : ∃ x, xs[2]? = some x := ⟨_, List.getElem?_eq_getElem (by rw [hx]; decide)⟩
 rw [y2] at g2
 obtain ⟨a2, e2, o2⟩ := (opnI Tryz.underlying2) g2
 clear hf hx hl
 refine ⟨⟨a0, a1, a2⟩, ?_, o0, o1, o2⟩
 simp [intT] at e0 e1 e2
 simp [intT, transT, e0, e1, e2]
def okinstT (G : Gh) (a : Inst) : Prop := okI G a.cell ∧ oktransT G a.place ∧ okI G a.cols ∧ okI G a.rows ∧ okI G a.sx ∧ okI G a.sy
theorem opn235 : Opn Tryz.prog 235 instT okinstT := fun {H enc w fuel cs x} h => by
 obtain ⟨xs, n, _, _, hl, hx, hf⟩ := DataW.trod_struct Tryz.underlying235 h
 rw [show Tryz.prog.cellsOf 235 = 8 by kernel_rfl] at hl
 obtain ⟨c0, c1, c2, c3, c4, c5, c6, c7, rfl⟩ : ∃ c0 c1 c2 c3 c4 c5 c6 c7, cs = [c0, c1, c2, c3, c4, c5, c6, c7] := by
   match cs, hl with
   | [c0, c1, c2, c3, c4, c5, c6, c7], _ => exact ⟨c0, c1, c2, c3, c4, c5, c6, c7, rfl⟩
 have g0 := hf 0 _ rfl
 simp only [List.getElem_toArray, List.getElem_cons_zero, List.getElem_cons_succ] at g0
 rw [show Tryz.prog.cellsOf 2 = 1 by kernel_rfl] at g0
 obtain ⟨x0, y0⟩ : ∃ x, xs[0]? = some x := ⟨_, List.getElem?_eq_getElem (by rw [hx]; decide)⟩
 rw [y0] at g0
 obtain ⟨a0, e0, o0⟩ := (opnI Tryz.underlying2) g0
 have g1 := hf 1 _ rfl
 simp only [List.getElem_toArray, List.getElem_cons_zero, List.getElem_cons_succ] at g1
 rw [show Tryz.prog.cellsOf 233 = 3 by kernel_rfl] at g1
 obtain ⟨x1, y1⟩ : ∃ x, xs[1]? = some x := ⟨_, List.getElem?_eq_getElem (by rw [hx]; decide)⟩
 rw [y1] at g1
 obtain ⟨a1, e1, o1⟩ := opn233 g1
 have g2 := hf 2 _ rfl
 simp only [List.getElem_toArray, List.getElem_cons_zero, List.getElem_cons_succ] at g2
 rw [show Tryz.prog.cellsOf 2 = 1 by kernel_rfl] at g2
 obtain ⟨x2, y2⟩ : ∃ x, xs[2]? = some x := ⟨_, List.getElem?_eq_getElem (by rw [hx]; decide)⟩
 rw [y2] at g2
 obtain ⟨a2, e2, o2⟩ := (opnI Tryz.underlying2) g2
 have g3 := hf 3 _ rfl
 simp only [List.getElem_toArray, List.getElem_cons_zero, List.getElem_cons_succ] at g3
 rw [show Tryz.prog.cellsOf 2 = 1 by kernel_rfl] at g3
 obtain ⟨x3, y3⟩ : ∃ x, xs[3]? = some x := ⟨_, List.getElem?_eq_getElem (by rw [hx]; decide)⟩
 rw [y3] at g3
 obtain ⟨a3, e3, o3⟩ := (opnI Tryz.underlying2) g3
 have g4 := hf 4 _ rfl
 simp only [List.getElem_toArray, List.getElem_cons_zero, List.getElem_cons_succ] at g4
 rw [show Tryz.prog.cellsOf 2 = 1 by kernel_rfl] at g4
 obtain ⟨x4, y4⟩ : ∃ x, xs[4]? = some x := ⟨_, List.getElem?_eq_getElem (by rw [hx]; decide)⟩
 rw [y4] at g4
 obtain ⟨a4, e4, o4⟩ := (opnI Tryz.underlying2) g4
 have g5 := hf 5 _ rfl
 simp only [List.getElem_toArray, List.getElem_cons_zero, List.getElem_cons_succ] at g5
 rw [show Tryz.prog.cellsOf 2 = 1 by kernel_rfl] at g5
 obtain ⟨x5, y5⟩ : ∃ x, xs[5]? = some x := ⟨_, List.getElem?_eq_getElem (by rw [hx]; decide)⟩
 rw [y5] at g5
 obtain ⟨a5, e5, o5⟩ := (opnI Tryz.underlying2) g5
 clear hf hx hl
 refine ⟨⟨a0, a1, a2, a3, a4, a5⟩, ?_, o0, o1, o2, o3, o4, o5⟩
 simp [intT, transT] at e0 e1 e2 e3 e4 e5
 simp [instT, intT, transT, e0, e1, e2, e3, e4, e5]
def okcellT (G : Gh) (a : Cell) : Prop := okS G a.name ∧ (okSl shapeT okshapeT) G a.shapes ∧ (okSl labelT oklabelT) G a.labels ∧ (okSl instT okinstT) G a.insts
theorem opn107 : Opn Tryz.prog 107 cellT okcellT := fun {H enc w fuel cs x} h => by
 obtain ⟨xs, n, _, _, hl, hx, hf⟩ := DataW.trod_struct Tryz.underlying107 h
 rw [show Tryz.prog.cellsOf 107 = 4 by kernel_rfl] at hl
 obtain ⟨c0, c1, c2, c3, rfl⟩ : ∃ c0 c1 c2 c3, cs = [c0, c1, c2, c3] := by
   match cs, hl with
   | [c0, c1, c2, c3], _ => exact ⟨c0, c1, c2, c3, rfl⟩
 have g0 := hf 0 _ rfl
 simp only [List.getElem_toArray, List.getElem_cons_zero, List.getElem_cons_succ] at g0
 rw [show Tryz.prog.cellsOf 9 = 1 by kernel_rfl] at g0
 obtain ⟨x0, y0⟩ : ∃ x, xs[0]? = some x := ⟨_, List.getElem?_eq_getElem (by rw [hx]; decide)⟩
 rw [y0] at g0
 obtain ⟨a0, e0, o0⟩ := (opnS Tryz.underlying9) g0
 have g1 := hf 1 _ rfl
 simp only [List.getElem_toArray, List.getElem_cons_zero, List.getElem_cons_succ] at g1
 rw [show Tryz.prog.cellsOf 103 = 1 by kernel_rfl] at g1
 obtain ⟨x1, y1⟩ : ∃ x, xs[1]? = some x := ⟨_, List.getElem?_eq_getElem (by rw [hx]; decide)⟩
 rw [y1] at g1
 obtain ⟨a1, e1, o1⟩ := (opnSl Tryz.underlying103 opn230 (by kernel_rfl) (by decide)) g1
 have g2 := hf 2 _ rfl
 simp only [List.getElem_toArray, List.getElem_cons_zero, List.getElem_cons_succ] at g2
 rw [show Tryz.prog.cellsOf 104 = 1 by kernel_rfl] at g2
 obtain ⟨x2, y2⟩ : ∃ x, xs[2]? = some x := ⟨_, List.getElem?_eq_getElem (by rw [hx]; decide)⟩
 rw [y2] at g2
 obtain ⟨a2, e2, o2⟩ := (opnSl Tryz.underlying104 opn225 (by kernel_rfl) (by decide)) g2
 have g3 := hf 3 _ rfl
 simp only [List.getElem_toArray, List.getElem_cons_zero, List.getElem_cons_succ] at g3
 rw [show Tryz.prog.cellsOf 105 = 1 by kernel_rfl] at g3
 obtain ⟨x3, y3⟩ : ∃ x, xs[3]? = some x := ⟨_, List.getElem?_eq_getElem (by rw [hx]; decide)⟩
 rw [y3] at g3
 obtain ⟨a3, e3, o3⟩ := (opnSl Tryz.underlying105 opn235 (by kernel_rfl) (by decide)) g3
 clear hf hx hl
 refine ⟨⟨a0, a1, a2, a3⟩, ?_, o0, o1, o2, o3⟩
 simp [slT, strT] at e0 e1 e2 e3
 simp [cellT, slT, strT, e0, e1, e2, e3]
def oklibT (G : Gh) (a : Lib) : Prop := (okSl cellT okcellT) G a.cells
theorem opn24 : Opn Tryz.prog 24 libT oklibT := fun {H enc w fuel cs x} h => by
 obtain ⟨xs, n, _, _, hl, hx, hf⟩ := DataW.trod_struct Tryz.underlying24 h
 rw [show Tryz.prog.cellsOf 24 = 1 by kernel_rfl] at hl
 obtain ⟨c0, rfl⟩ : ∃ c0, cs = [c0] := by
   match cs, hl with
   | [c0], _ => exact ⟨c0, rfl⟩
 have g0 := hf 0 _ rfl
 simp only [List.getElem_toArray, List.getElem_cons_zero, List.getElem_cons_succ] at g0
 rw [show Tryz.prog.cellsOf 22 = 1 by kernel_rfl] at g0
 obtain ⟨x0, y0⟩ : ∃ x, xs[0]? = some x := ⟨_, List.getElem?_eq_getElem (by rw [hx]; decide)⟩
 rw [y0] at g0
 obtain ⟨a0, e0, o0⟩ := (opnSl Tryz.underlying22 opn107 (by kernel_rfl) (by decide)) g0
 clear hf hx hl
 refine ⟨⟨a0⟩, ?_, o0⟩
 simp [slT] at e0
 simp [libT, slT, e0]
theorem okLib_rl {G : Gh} {L : List Ch} {l : Lib} (h : oklibT G l) : RLib G L l.cells.v l.cells.xs :=
 ⟨Rs.g h.1, fun i hi => by
   have hi' : i < l.cells.xs.length := by simpa [shs] using hi
   rw [shs, gd_map _ hi']; exact Rs.g (h.2 i hi').2.1.1, fun i hi => by
   have hi' : i < l.cells.xs.length := by simpa [lbs] using hi
   rw [lbs, gd_map _ hi']; exact Rs.g (h.2 i hi').2.2.1.1, fun i hi => by
   have hi' : i < l.cells.xs.length := by simpa [ins] using hi
   rw [ins, gd_map _ hi']; exact Rs.g (h.2 i hi').2.2.2.1⟩
theorem okLib_len2 {G : Gh} {l : Lib} (h : oklibT G l) : lenC (erCls l.cells.xs) := fun i hi => by
 rw [erCls_len] at hi
 rw [erCls_gd hi]
 exact ⟨(h.2 i hi).1, fun j hj => ((h.2 i hi).2.2.1.2 j hj).2.2⟩
theorem netOccurrences_lifted (os : Os) (started : os.Started) (H : Type) (enc : TypeId × Value → H) :
   ReturnsInHanded {} Tryz.checked os 4 .any (Rows.fnExactNetOccurrencesSpec.pre6 enc Tryz.prog Tryz.f4 [] false) (Rows.fnExactNetOccurrencesSpec.post enc Tryz.prog Tryz.f4 false true false false) := by
 refine law_lifted (C := Tryz.checked) Tryz.own started (by kernel_rfl) Tryz.func4 Tryz.laidOut rfl (by kernel_rfl) rfl Tryz.underlying4 (fun ds h => ?_)
   (ChangeSpec.witness6 (enc := enc) (C := Tryz.checked) false ⟨#[], #[.agg #[.slice none 0 0], .int .i64 0, .int .i64 0], []⟩ 8 (by kernel_rfl) (by kernel_rfl) (by kernel_rfl) (by kernel_rfl)) ?_
 · match ds, h with
   | [d, e, f], _ => rfl
 · intro W base args ds ps hval hA
   have hA : DataW.TrodAll enc Tryz.prog W 0 (fun _ => true) true Tryz.f4.params.toList args.toList ds ps := hA
   have hval : ∀ (j : Nat) t v, Tryz.f4.params[j]? = some t → args[j]? = some v → Value.okWide Tryz.prog W .any base t v := hval
   rw [Tryz.params4] at hA hval
   obtain ⟨v0, v1, v2, d0, d1, d2, p0, p1, p2, rfl, rfl, _, h0, h1, h2⟩ := trodAll_three hA
   obtain ⟨l, rfl, q1⟩ := argT Tryz.underlying24 opn24 (hval 0 _ v0 rfl rfl) h0
   obtain ⟨n1, rfl, _⟩ := argI Tryz.underlying2 (hval 1 _ v1 rfl rfl) h1
   obtain ⟨n2, rfl, _⟩ := argI Tryz.underlying2 (hval 2 _ v2 rfl rfl) h2
   exact law_NetOccurrences (okLib_rl q1) (okLib_len2 q1) ⟨rfl, Gh.le_refl _⟩
theorem netOccurrences_holds : Rows.FnExactNetOccurrencesSaid :=
 OpenClaim.holds_of_wide 4 Tryz.f4 rfl rfl rfl rfl rfl rfl rfl ⟨rfl, rfl, rfl, rfl, rfl⟩ rfl rfl rfl rfl rfl (by kernel_rfl) Tryz.func4 (by kernel_rfl)
   (of_decide_eq_true (by kernel_rfl)) (by unfold Func.isWrapper; first | (rw [if_pos (by decide +kernel)]; kernel_rfl) | (rw [if_neg (by decide +kernel)]; exact ⟨rfl, rfl⟩))
   (fun os started H enc _ => netOccurrences_lifted os started H enc)
end Go.Proofs.YthhjapiggekjbaaGreat
