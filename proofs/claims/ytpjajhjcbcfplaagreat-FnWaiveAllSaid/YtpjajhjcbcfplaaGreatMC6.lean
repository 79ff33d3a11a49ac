/-
  The law FnWaiveAll: whatever the code, the law returns true and the code reads as before.
-/
import Derived.Test.YtpjajhjcbcfplaaGreatMC5
import Derived.Lib.Overlaps
import Derived.ProofKit
import Derived.Deep.Slices
import Derived.Carry
import Derived.Test.YtpjajhjcbcfplaaGreatRows
namespace Go.Proofs.YtpjajhjcbcfplaaGreat
set_option linter.unusedVariables false
set_option linter.unusedSimpArgs false
open Go
set_option maxRecDepth 20000
set_option maxHeartbeats 4000000
set_option linter.unusedSimpArgs false
variable {G : Gh} {L : List Ch} {R : Value → Gh → List Ch → Prop}
abbrev EViol := Int × List Rect
noncomputable def dRep (bs : List UInt8) (p : Pl) : (List Rule × List EViol) × Pl :=
  match dLayers bs p with
  | (ls, p1) => match dDeck bs ls p1 with
  | (rs, p2) => ((rs, if (chkTo ls rs rs.length).length ≤ 256 then chkTo ls rs rs.length else []), p2)
theorem dRep_s {b : Nat} {cv : Value} {bs : List UInt8} {p : Pl} (hcode : SL G byteT cv bs) (hp : OkP p) (k : ∀ u v rs w zs p', dRep bs p = ((rs, erVs zs), p') → OkP p' → rs.length ≤ 6 → zs.length ≤ 256 → R (.tuple #[u, vT deckT ⟨⟨v, rs⟩⟩, w]) G (osl 34 ruleT v rs :: osl 63 violT w zs :: bagS 71 rectT (mks zs) :: srcP b cv p' :: L)) : CallT Tryz.prog 64 #[.pointer (some ⟨b, 0, none⟩)] G (srcP b cv p :: L) R := by
  refine CallT.enter (args := _) Tryz.func64 rfl rfl (by kernel_rfl) rfl ?_
  refine WP.seq ?_
  refine WP.region ?_
  refine RG.pv rfl (PV.asg rfl rfl) ?_
  refine RG.ot rfl (OT.alloc rfl Zr54 fun b3 => ?_)
  refine RG.pv rfl (PV.asg rfl rfl) ?_
  refine RG.nil ?_
  refine WP.seq ?_
  refine WP.region ?_
  refine RG.pv rfl (PV.move rfl rfl) ?_
  refine RG.callF (vs := [_]) rfl rfl En102 rfl (CallT.exB (b := b) (dLayers_s hcode (by assumption) (fun v10 ys pv10 ev10 ov10 hyl hyr => ?_)))
  refine RG.pv rfl (PV.asg (v := v10) rfl rfl) ?_
  refine RG.nil ?_
  refine WP.seq ?_
  refine WP.region ?_
  refine RG.pv rfl (PV.move rfl rfl) ?_
  refine RG.pv rfl (PV.move (v := v10) rfl rfl) ?_
  refine RG.callF (vs := [_, v10]) rfl rfl En105 rfl (CallT.exB (b := b) (dDeck_s hcode (by assumption) Rs.o RsE.o hyl (fun x13 rs13 p13 e13 o13 hrs13 => ?_)))
  refine RG.ot rfl (OT.alloc rfl Zr54 fun b6 => ?_)
  refine RG.ot rfl (OT.storeW (vs := [_]) rfl Sz54 rfl rfl (Cl.c rfl) rfl rfl (OneC.sl (SlF.o (v := x13)) OneC.nil) ?_)
  refine RG.nil ?_
  refine WP.seq ?_
  refine WP.region ?_
  refine RG.pv rfl (PV.move (v := v10) rfl rfl) ?_
  refine RG.pv rfl (PV.loadW rfl Ag54 rfl rfl) ?_
  refine RG.callF (vs := [v10, _]) rfl rfl En122 rfl (check_s (ys := ys) (d := ⟨⟨x13, rs13⟩⟩) Rs.o RsE.o Rs.o (by simp only; omega) (fun w17 zsw17 hzw17 => ?_))
  refine RG.pv rfl (PV.move (v := .tuple _) rfl rfl) ?_
  refine RG.pv rfl (PV.ext (v := w17) rfl rfl rfl) ?_
  refine RG.pv rfl (PV.ext rfl rfl rfl) ?_
  refine RG.pv rfl (PV.asg (v := w17) rfl rfl) ?_
  refine RG.pv rfl (PV.mvB (.inr rfl) rfl) ?_
  refine RG.nil ?_
  refine WP.seq ?_
  refine WP.seq ?_
  refine WP.region ?_
  refine RG.pv rfl (PV.mvB (.inl rfl) rfl) ?_
  refine RG.pv rfl (PV.not rfl rfl) ?_
  refine RG.nil ?_
  have hzl : zsw17.length = (chkTo (er ys) rs13 rs13.length).length := by rw [← erVs_len, hzw17]
  refine WP.cond rfl (fun h2 => ?_) (fun h2 => ?_)
  · have h2 : ¬ (chkTo (er ys) rs13 rs13.length).length ≤ 256 := by simp at h2; omega
    refine WP.region ?_
    refine RG.pv rfl (PV.asg rfl rfl) ?_
    refine RG.nil ?_
    refine WP.seq ?_
    refine WP.regionHD [.b b3] (.q 0 (.q 1 (.q 2 (.q 3 (.l 4 (.q 5 Sch.nil)))))) (by kernel_rfl) (by kernel_rfl) (by kernel_rfl) rfl ?_
    refine RH.pv rfl (fun _ _ _ _ h => h) (Gh.le_refl _) PickC.pick rfl (PV.move (v := v10) rfl rfl) ?_
    refine RH.pv rfl (fun _ _ _ _ h => h) (Gh.le_refl _) PickC.pick rfl (PV.loadW rfl Ag54 rfl rfl) ?_
    refine RH.pv rfl (fun _ _ _ _ h => h) (Gh.le_refl _) PickC.pick rfl (PV.move rfl rfl) ?_
    refine RH.pv rfl (fun _ _ _ _ h => h) (Gh.le_refl _) PickC.pick rfl (PV.asg (v := v10) rfl rfl) ?_
    refine RH.ot rfl rfl (OT.storeW (vs := [_]) rfl Sz54 rfl rfl (Cl.c rfl) rfl rfl (OneC.sl (SlF.o (v := x13)) OneC.nil) ⟨Gh.le_refl _, PickC.pick, ?_⟩)
    refine RH.pv rfl (fun _ _ _ _ h => h) (Gh.le_refl _) PickC.pick rfl (PV.asg rfl rfl) ?_
    refine RH.nil ?_
    refine WP.ret ?_
    exact ⟨_, _, ResV.three rfl rfl (RV1.cell rfl Ag54 rfl) rfl, ((Cv.p (C := osl 34 ruleT x13 rs13 :: srcP b cv p13 :: L)).trans ((Cv.cons (Cv.bag0 (e := 71) (F := rectT) (xs := mks []) rfl)).trans ((Cv.cons (Cv.nilS (e := 63) (F := violT))).trans Cv.p))), k _ x13 rs13 (.slice none 0 0) [] p13 (by simp only [dRep, ev10, e13, if_neg h2]; rfl) (by assumption) hrs13 (by simp)⟩
  · have h2 : (chkTo (er ys) rs13 rs13.length).length ≤ 256 := by simp at h2; omega
    refine WP.skip ?_
    refine WP.seq ?_
    refine WP.regionHD [.b b3] (.q 0 (.q 1 (.q 2 (.q 3 (.l 4 (.q 5 Sch.nil)))))) (by kernel_rfl) (by kernel_rfl) (by kernel_rfl) rfl ?_
    refine RH.pv rfl (fun _ _ _ _ h => h) (Gh.le_refl _) PickC.pick rfl (PV.move (v := v10) rfl rfl) ?_
    refine RH.pv rfl (fun _ _ _ _ h => h) (Gh.le_refl _) PickC.pick rfl (PV.loadW rfl Ag54 rfl rfl) ?_
    refine RH.pv rfl (fun _ _ _ _ h => h) (Gh.le_refl _) PickC.pick rfl (PV.move (v := w17) rfl rfl) ?_
    refine RH.pv rfl (fun _ _ _ _ h => h) (Gh.le_refl _) PickC.pick rfl (PV.asg (v := v10) rfl rfl) ?_
    refine RH.ot rfl rfl (OT.storeW (vs := [_]) rfl Sz54 rfl rfl (Cl.c rfl) rfl rfl (OneC.sl (SlF.o (v := x13)) OneC.nil) ⟨Gh.le_refl _, PickC.pick, ?_⟩)
    refine RH.pv rfl (fun _ _ _ _ h => h) (Gh.le_refl _) PickC.pick rfl (PV.asg (v := w17) rfl rfl) ?_
    refine RH.nil ?_
    refine WP.ret ?_
    exact ⟨_, _, ResV.three rfl rfl (RV1.cell rfl Ag54 rfl) rfl, Cv.p, k _ x13 rs13 w17 zsw17 p13 (by simp only [dRep, ev10, e13, if_pos h2, hzw17]) (by assumption) hrs13 (by omega)⟩
def sDeck (bs : List UInt8) (n : Int) (rs : List Rule) (p : Pl) : List Rule × Pl :=
  if rs.length = 0 then (rs, p) else if (nx bs p n).1 ≠ 0 then (rs, (nx bs p n).2) else if (nx bs (nx bs p n).2 2).1 = 0 then (rs.set 0 (Rule.s3 0 (gd rs 0)), (nx bs (nx bs p n).2 2).2) else (rs ++ [gd rs 0], (nx bs (nx bs p n).2 2).2)
theorem sDeck_s {b : Nat} {n : Int} {cv v : Value} {bs : List UInt8} {rs : List Rule} {p : Pl} (hcode : SL G byteT cv bs) (hp : OkP p) (hn : 1 ≤ n ∧ n ≤ 100) (hl : rs.length ≤ 1000) (k : ∀ v' rs' p', sDeck bs n rs p = (rs', p') → OkP p' → R (vT deckT ⟨⟨v', rs'⟩⟩) G (osl 34 ruleT v' rs' :: srcP b cv p' :: L)) : CallT Tryz.prog 67 #[.pointer (some ⟨b, 0, none⟩), vT deckT ⟨⟨v, rs⟩⟩, vi n] G (osl 34 ruleT v rs :: srcP b cv p :: L) R := by
  refine CallT.enter (args := _) Tryz.func67 rfl rfl (by kernel_rfl) rfl ?_
  refine WP.seq ?_
  refine WP.region ?_
  refine RG.ot rfl (OT.box rfl rfl rfl fun b4 => ?_)
  refine RG.ot rfl (OT.alloc rfl Zr54 fun b6 => ?_)
  refine RG.nil ?_
  refine WP.seq ?_
  refine WP.seq ?_
  refine WP.region ?_
  refine RG.pv rfl (PV.field rfl Fo54_0 rfl) ?_
  refine RG.pv rfl (PV.load1 rfl Sc52 rfl (Rd.blk rfl)) ?_
  refine RG.pv rfl (PV.len (v := v) rfl Tryz.underlying52 rfl SlF.o) ?_
  refine RG.pv rfl (PV.eql rfl rfl rfl) ?_
  refine RG.pv rfl (PV.mvB (.inl rfl) rfl) ?_
  refine RG.spl (t := 12) rfl (fun g1 => ?_) (fun g1 => ?_)
  · have g2 : rs.length = 0 := by have := of_decide_eq_true g1; omega
    refine RG.skip rfl rfl rfl (gneF g1) ?_
    refine RG.skip rfl rfl rfl (gneF g1) ?_
    refine RG.skip rfl rfl rfl (gneF g1) ?_
    refine RG.skip rfl rfl rfl (gneF g1) ?_
    refine RG.pv rfl (PV.pickT rfl rfl g1 rfl) ?_
    refine RG.nil ?_
    refine WP.cond rfl (fun h2 => ?_) (fun h2 => ?_)
    · skip
      refine WP.seq ?_
      refine WP.region ?_
      refine RG.pv rfl (PV.loadW rfl Ag54 rfl rfl) ?_
      refine RG.ot rfl (OT.storeW (vs := [_]) rfl Sz54 rfl rfl (Cl.c rfl) rfl rfl (OneC.sl (SlF.o (v := v)) OneC.nil) ?_)
      refine RG.nil ?_
      refine WP.ret ?_
      exact ⟨_, _, ResV.one rfl (RV1.cell rfl Ag54 rfl), Cv.p, k v rs p (by rw [sDeck, if_pos g2]) (by assumption)⟩
    · skip
      cases h2
  · have g2 : rs.length ≠ 0 := by simp at g1; simpa using g1
    refine RG.take rfl rfl rfl g1 ?_
    refine RG.pv rfl (PV.move rfl rfl) ?_
    refine RG.take rfl rfl rfl g1 ?_
    refine RG.pv rfl (PV.mvI (.inl rfl) rfl) ?_
    refine RG.take rfl rfl rfl g1 ?_
    refine RG.callF (vs := [_, _]) rfl rfl En66 rfl (CallT.exB (b := b) (nextP_s hcode (by assumption) (by omega) (fun w15 pw15 ew15 ow15 hw15 => ?_)))
    refine RG.take rfl rfl rfl g1 ?_
    refine RG.pv rfl (PV.neq rfl rfl rfl) ?_
    refine RG.pv rfl (PV.pickE rfl rfl g1 rfl) ?_
    refine RG.nil ?_
    refine WP.cond rfl (fun h2 => ?_) (fun h2 => ?_)
    · have h2 : w15 ≠ 0 := by simpa using h2
      refine WP.seq ?_
      refine WP.region ?_
      refine RG.pv rfl (PV.loadW rfl Ag54 rfl rfl) ?_
      refine RG.ot rfl (OT.storeW (vs := [_]) rfl Sz54 rfl rfl (Cl.c rfl) rfl rfl (OneC.sl (SlF.o (v := v)) OneC.nil) ?_)
      refine RG.nil ?_
      refine WP.ret ?_
      exact ⟨_, _, ResV.one rfl (RV1.cell rfl Ag54 rfl), Cv.p, k v rs pw15 (by rw [sDeck, if_neg g2, ew15, if_pos h2]) (by assumption)⟩
    · have h2 : ¬ w15 ≠ 0 := by simpa using h2
      refine WP.skip ?_
      refine WP.seq ?_
      refine WP.seq ?_
      refine WP.region ?_
      refine RG.pv rfl (PV.move rfl rfl) ?_
      refine RG.callF (vs := [_, _]) rfl rfl En66 rfl (CallT.exB (b := b) (nextP_s hcode (by assumption) (by omega) (fun w20 pw20 ew20 ow20 hw20 => ?_)))
      refine RG.pv rfl (PV.eql rfl rfl rfl) ?_
      refine RG.nil ?_
      refine WP.cond rfl (fun h3 => ?_) (fun h3 => ?_)
      · have h3 := of_decide_eq_true h3
        refine WP.seq ?_
        refine WP.region ?_
        refine RG.pv rfl (PV.field rfl Fo54_0 rfl) ?_
        refine RG.pv rfl (PV.load1 rfl Sc52 rfl (Rd.blk rfl)) ?_
        refine RG.pv rfl (PV.idxS (j := 0) (v := v) rfl Is52 rfl SlF.o rfl (by first | omega | (simp only [List.length_set]; omega)) (by first | omega | (simp only [List.length_set]; omega))) ?_
        refine RG.pv rfl (PV.field rfl Fo34_3 rfl) ?_
        refine RG.ot rfl (OT.storeF (F := ruleT) (val := vi) (cv := fun u => [vi u]) (st := Rule.s3) rfl Sz2 rfl rfl rfl (Cl.c rfl) rfl (OneC.c rfl) (by exact set_self (by omega)) (by first | omega | (simp; omega)) rfl (fun _ _ => rfl) ?_)
        refine RG.nil ?_
        refine WP.seq ?_
        refine WP.region ?_
        refine RG.pv rfl (PV.loadW rfl Ag54 rfl rfl) ?_
        refine RG.ot rfl (OT.storeW (vs := [_]) rfl Sz54 rfl rfl (Cl.c rfl) rfl rfl (OneC.sl (SlF.o (v := v)) OneC.nil) ?_)
        refine RG.nil ?_
        refine WP.ret ?_
        exact ⟨_, _, ResV.one rfl (RV1.cell rfl Ag54 rfl), Cv.p, k v (rs.set 0 (Rule.s3 0 (gd rs 0))) pw20 (by rw [sDeck, if_neg g2, ew15, if_neg h2, ew20, if_pos h3]) (by assumption)⟩
      · have h3 := of_decide_eq_false h3
        refine WP.skip ?_
        refine WP.seq ?_
        refine WP.region ?_
        refine RG.pv rfl (PV.field rfl Fo54_0 rfl) ?_
        refine RG.pv rfl (PV.load1 rfl Sc52 rfl (Rd.blk rfl)) ?_
        refine RG.pv rfl (PV.idxS (j := 0) (v := v) rfl Is52 rfl SlF.o rfl (by first | omega | (simp only [List.length_set]; omega)) (by first | omega | (simp only [List.length_set]; omega))) ?_
        refine RG.pv rfl (PV.loadE rfl Ag34 rfl rfl (El.o (getG (by omega)))) ?_
        refine RG.ot rfl (OT.alloc rfl Zr34 fun b7 => ?_)
        refine RG.ot rfl (OT.storeW (vs := [vi _, vi _, vi _, vi _, vi _]) rfl Sz34 rfl rfl (Cl.c rfl) rfl rfl (OneC.c rfl) ?_)
        refine RG.nil ?_
        refine WP.seq ?_
        refine WP.region ?_
        refine RG.pv rfl (PV.field rfl Fo54_0 rfl) ?_
        refine RG.pv rfl (PV.load1 rfl Sc52 rfl (Rd.blk rfl)) ?_
        refine RG.pv rfl (PV.loadW rfl Ag34 rfl rfl) ?_
        refine RG.ot rfl (OT.bslice (F := ruleT) (els := [_]) rfl El52 rfl (by decide) rfl (by decide) ⟨rfl, (Cl.c rfl), trivial⟩ fun v34 => ?_)
        refine RG.ot rfl (OT.append (v := v) (u := v34) (F := ruleT) rfl El52 rfl (by decide) rfl rfl Rs.o (OneL.c (fun _ => rfl)) rfl (by first | omega | (simp <;> omega)) fun v35 => ?_)
        refine RG.pv rfl (PV.field rfl Fo54_0 rfl) ?_
        refine RG.ot rfl (OT.storeB (v := v35) (vs := [_]) (cs' := [_]) rfl Sz52 rfl rfl (Cl.s (v := v35) SlF.o) rfl (OneC.sl SlF.o OneC.nil) rfl rfl ?_)
        refine RG.nil ?_
        refine WP.seq ?_
        refine WP.region ?_
        refine RG.pv rfl (PV.loadW rfl Ag54 rfl rfl) ?_
        refine RG.ot rfl (OT.storeW (vs := [_]) rfl Sz54 rfl rfl (Cl.c rfl) rfl rfl (OneC.sl (SlF.o (v := v35)) OneC.nil) ?_)
        refine RG.nil ?_
        refine WP.ret ?_
        exact ⟨_, _, ResV.one rfl (RV1.cell rfl Ag54 rfl), Cv.p, k v35 (rs ++ [gd rs 0]) pw20 (by rw [sDeck, if_neg g2, ew15, if_neg h2, ew20, if_neg h3]) (by assumption)⟩
def sRep (bs : List UInt8) (n : Int) (zs : List EViol) (p : Pl) : List EViol × Pl :=
  if zs.length = 0 then (zs, p) else if (nx bs p n).1 ≠ 0 then (zs, (nx bs p n).2)
  else if (nx bs (nx bs p n).2 4).1 = 0 then (zs.set 0 (12, (gd zs 0).2), (nx bs (nx bs p n).2 4).2)
  else if (nx bs (nx bs p n).2 4).1 = 1 then (zs ++ [gd zs (zs.length - 1)], (nx bs (nx bs p n).2 4).2)
  else if (nx bs (nx bs p n).2 4).1 = 2 then (zs.set 0 ((gd zs 0).1, []), (nx bs (nx bs p n).2 4).2)
  else (zs.set (zs.length - 1) (-1, (gd zs (zs.length - 1)).2), (nx bs (nx bs p n).2 4).2)
theorem erVs_set (zs : List Viol) (i : Nat) (z : Viol) : erVs (zs.set i z) = (erVs zs).set i (erV z) := by simp [erVs, List.map_set]
theorem sRep_s {b : Nat} {n : Int} {cv v : Value} {bs : List UInt8} {zs : List Viol} {ys : List (Sl Rect)} {p : Pl} (hcode : SL G byteT cv bs) (hp : OkP p) (hn : 1 ≤ n ∧ n ≤ 100) (hl : zs.length ≤ 10000000) (hm : MkIn zs ys) (k : ∀ v' zs' p', sRep bs n (erVs zs) p = (erVs zs', p') → OkP p' → zs'.length ≤ zs.length + 1 → MkIn zs' ys → R v' G (osl 63 violT v' zs' :: bagS 71 rectT ys :: srcP b cv p' :: L)) : CallT Tryz.prog 68 #[.pointer (some ⟨b, 0, none⟩), v, vi n] G (osl 63 violT v zs :: bagS 71 rectT ys :: srcP b cv p :: L) R := by
  refine CallT.enter (args := _) Tryz.func68 rfl rfl (by kernel_rfl) rfl ?_
  refine WP.seq ?_
  refine WP.region ?_
  refine RG.pv rfl (PV.asg rfl rfl) ?_
  refine RG.nil ?_
  refine WP.seq ?_
  refine WP.seq ?_
  refine WP.region ?_
  refine RG.pv rfl (PV.move (v := v) rfl rfl) ?_
  refine RG.pv rfl (PV.len (v := v) rfl Tryz.underlying55 rfl SlF.o) ?_
  refine RG.pv rfl (PV.eql rfl rfl rfl) ?_
  refine RG.pv rfl (PV.mvB (.inl rfl) rfl) ?_
  refine RG.spl (t := 12) rfl (fun g1 => ?_) (fun g1 => ?_)
  · have g2 : zs.length = 0 := by have := of_decide_eq_true g1; omega
    refine RG.skip rfl rfl rfl (gneF g1) ?_
    refine RG.skip rfl rfl rfl (gneF g1) ?_
    refine RG.skip rfl rfl rfl (gneF g1) ?_
    refine RG.skip rfl rfl rfl (gneF g1) ?_
    refine RG.pv rfl (PV.pickT rfl rfl g1 rfl) ?_
    refine RG.nil ?_
    refine WP.cond rfl (fun h2 => ?_) (fun h2 => ?_)
    · refine WP.seq ?_
      refine WP.region ?_
      refine RG.pv rfl (PV.move (v := v) rfl rfl) ?_
      refine RG.pv rfl (PV.asg (v := v) rfl rfl) ?_
      refine RG.nil ?_
      refine WP.ret ?_
      exact ⟨_, _, ResV.one rfl rfl, Cv.p, k v zs p (by rw [sRep, if_pos (by rw [erVs_len]; exact g2)]) (by assumption) (by omega) hm⟩
    · skip
      cases h2
  · have g2 : zs.length ≠ 0 := by simp at g1; simpa using g1
    have g3 : ¬ (erVs zs).length = 0 := by rw [erVs_len]; exact g2
    refine RG.take rfl rfl rfl g1 ?_
    refine RG.pv rfl (PV.move rfl rfl) ?_
    refine RG.take rfl rfl rfl g1 ?_
    refine RG.pv rfl (PV.mvI (.inl rfl) rfl) ?_
    refine RG.take rfl rfl rfl g1 ?_
    refine RG.callF (vs := [_, _]) rfl rfl En66 rfl (CallT.exB (b := b) (nextP_s hcode (by assumption) (by omega) (fun w15 pw15 ew15 ow15 hw15 => ?_)))
    refine RG.take rfl rfl rfl g1 ?_
    refine RG.pv rfl (PV.neq rfl rfl rfl) ?_
    refine RG.pv rfl (PV.pickE rfl rfl g1 rfl) ?_
    refine RG.nil ?_
    refine WP.cond rfl (fun h2 => ?_) (fun h2 => ?_)
    · have h2 : w15 ≠ 0 := by simpa using h2
      refine WP.seq ?_
      refine WP.region ?_
      refine RG.pv rfl (PV.move (v := v) rfl rfl) ?_
      refine RG.pv rfl (PV.asg (v := v) rfl rfl) ?_
      refine RG.nil ?_
      refine WP.ret ?_
      exact ⟨_, _, ResV.one rfl rfl, Cv.p, k v zs pw15 (by rw [sRep, if_neg g3, ew15, if_pos h2]) (by assumption) (by omega) hm⟩
    · have h2 : ¬ w15 ≠ 0 := by simpa using h2
      have hlm : zs.length - 1 < zs.length := by omega
      have hml := hm.gd hlm
      have e0 : gd (erVs zs) 0 = erV (gd zs 0) := erVs_gd (by omega)
      have e1 : gd (erVs zs) (zs.length - 1) = erV (gd zs (zs.length - 1)) := erVs_gd (by omega)
      refine WP.skip ?_
      refine WP.seq ?_
      refine WP.region ?_
      refine RG.ot rfl (OT.bslice (F := violT) (els := []) rfl El55 rfl (by decide) rfl (by decide) trivial fun v19 => ?_)
      refine RG.pv rfl (PV.move (v := v) rfl rfl) ?_
      refine RG.ot rfl (OT.append (v := v19) (u := v) (F := violT) rfl El55 rfl (by decide) rfl rfl Rs.o (MkIn.one (e := 71) hm) rfl (by first | omega | (simp <;> omega)) fun v21 => ?_)
      refine RG.pv rfl (PV.asg (v := v21) rfl rfl) ?_
      refine RG.nil ?_
      refine WP.seq ?_
      refine WP.seq ?_
      refine WP.region ?_
      refine RG.pv rfl (PV.move rfl rfl) ?_
      refine RG.callF (vs := [_, _]) rfl rfl En66 rfl (CallT.exB (b := b) (nextP_s hcode (by assumption) (by omega) (fun w23 pw23 ew23 ow23 hw23 => ?_)))
      refine RG.nil ?_
      refine WP.block ?_
      refine WP.seq ?_
      refine WP.region ?_
      refine RG.pv rfl (PV.eql rfl rfl rfl) ?_
      refine RG.pv rfl (PV.mvB (.inr rfl) rfl) ?_
      refine RG.nil ?_
      refine WP.cv ((Cv.p (C := osl 63 violT v21 ([] ++ zs) :: bagS 71 rectT ys :: srcP b cv pw23 :: L)).trans (Cv.eqS (List.nil_append _))) ?_
      refine WP.cond rfl (fun h3 => ?_) (fun h3 => ?_)
      · have h3 := of_decide_eq_true h3
        refine WP.region ?_
        refine RG.pv rfl (PV.move (v := v21) rfl rfl) ?_
        refine RG.pv rfl (PV.idxS (j := 0) (v := v21) rfl Is55 rfl SlF.o rfl (by first | omega | (simp only [List.length_set]; omega)) (by first | omega | (simp only [List.length_set]; omega))) ?_
        refine RG.pv rfl (PV.field rfl Fo63_0 rfl) ?_
        refine RG.ot rfl (OT.storeF (F := violT) (val := vi) (cv := fun u => [vi u]) (st := Viol.s0) rfl Sz2 rfl rfl rfl (Cl.c rfl) rfl (OneC.c rfl) (by exact set_self (by omega)) (by first | omega | (simp; omega)) rfl (fun _ _ => rfl) ?_)
        refine RG.nil ?_
        refine WP.seq ?_
        refine WP.region ?_
        refine RG.pv rfl (PV.move (v := v21) rfl rfl) ?_
        refine RG.pv rfl (PV.asg (v := v21) rfl rfl) ?_
        refine RG.nil ?_
        refine WP.ret ?_
        exact ⟨_, _, ResV.one rfl rfl, Cv.p, k v21 (zs.set 0 (Viol.s0 12 (gd zs 0))) pw23 (by rw [sRep, if_neg g3, ew15, if_neg h2, ew23, if_pos h3, erVs_set, e0]; rfl) (by assumption) (by simp) (hm.set 0 (hm.gd (by omega)))⟩
      · have h3 := of_decide_eq_false h3
        refine WP.seq ?_
        refine WP.region ?_
        refine RG.pv rfl (PV.eql rfl rfl rfl) ?_
        refine RG.pv rfl (PV.mvB (.inr rfl) rfl) ?_
        refine RG.nil ?_
        refine WP.cond rfl (fun h4 => ?_) (fun h4 => ?_)
        · have h4 := of_decide_eq_true h4
          refine WP.seq ?_
          refine WP.region ?_
          refine RG.pv rfl (PV.move (v := v21) rfl rfl) ?_
          refine RG.pv rfl (PV.move (v := v21) rfl rfl) ?_
          refine RG.pv rfl (PV.len (v := v21) rfl Tryz.underlying55 rfl SlF.o) ?_
          refine RG.pv rfl (PV.sub rfl rfl rfl (by omega)) ?_
          refine RG.pv rfl (PV.idxS (j := zs.length - 1) (v := v21) rfl Is55 rfl SlF.o rfl (by first | omega | (simp only [List.length_set]; omega)) (by first | omega | (simp only [List.length_set]; omega))) ?_
          refine RG.pv rfl (PV.loadE rfl Ag63 rfl rfl (El.o (getG (by omega)))) ?_
          refine RG.ot rfl (OT.alloc rfl Zr63 fun b8 => ?_)
          refine RG.ot rfl (OT.storeW (vs := [vi _, _]) rfl Sz63 rfl rfl (Cl.c rfl) rfl rfl (MkIn.onec (e := 71) hml) ?_)
          refine RG.nil ?_
          refine WP.region ?_
          refine RG.pv rfl (PV.move (v := v21) rfl rfl) ?_
          refine RG.pv rfl (PV.loadW rfl Ag63 rfl rfl) ?_
          refine RG.ot rfl (OT.bslice (F := violT) (els := [(gd zs (zs.length - 1))]) rfl El55 rfl (by decide) rfl (by decide) ⟨rfl, (Cl.c rfl), trivial⟩ fun v45 => ?_)
          refine RG.ot rfl (OT.append (v := v21) (u := v45) (F := violT) rfl El55 rfl (by decide) rfl rfl Rs.o (OneL.one (MkIn.onec (e := 71) hml)) rfl (by first | omega | (simp <;> omega)) fun v46 => ?_)
          refine RG.pv rfl (PV.asg (v := v46) rfl rfl) ?_
          refine RG.nil ?_
          refine WP.seq ?_
          refine WP.region ?_
          refine RG.pv rfl (PV.move (v := v46) rfl rfl) ?_
          refine RG.pv rfl (PV.asg (v := v46) rfl rfl) ?_
          refine RG.nil ?_
          refine WP.ret ?_
          exact ⟨_, _, ResV.one rfl rfl, Cv.p, k v46 (zs ++ [gd zs (zs.length - 1)]) pw23 (by rw [sRep, if_neg g3, ew15, if_neg h2, ew23, if_neg h3, if_pos h4, erVs_app, erVs_len, e1]; rfl) (by assumption) (by simp) (hm.app hml)⟩
        · have h4 := of_decide_eq_false h4
          refine WP.seq ?_
          refine WP.region ?_
          refine RG.pv rfl (PV.eql rfl rfl rfl) ?_
          refine RG.pv rfl (PV.mvB (.inr rfl) rfl) ?_
          refine RG.nil ?_
          refine WP.cond rfl (fun h5 => ?_) (fun h5 => ?_)
          · have h5 := of_decide_eq_true h5
            refine WP.region ?_
            refine RG.pv rfl (PV.move (v := v21) rfl rfl) ?_
            refine RG.pv rfl (PV.idxS (j := 0) (v := v21) rfl Is55 rfl SlF.o rfl (by first | omega | (simp only [List.length_set]; omega)) (by first | omega | (simp only [List.length_set]; omega))) ?_
            refine RG.pv rfl (PV.field rfl Fo63_1 rfl) ?_
            refine RG.ot rfl (OT.storeF (F := violT) (val := Sl.v) (cv := fun u => [u.v]) (u := (⟨.slice none 0 0, []⟩ : Sl Rect)) (st := Viol.s1) rfl Sz28 rfl rfl rfl (Cl.c rfl) rfl (OneC.c rfl) (by exact set_self (by omega)) (by first | omega | (simp; omega)) rfl (fun _ _ => rfl) ?_)
            refine RG.nil ?_
            refine WP.seq ?_
            refine WP.region ?_
            refine RG.pv rfl (PV.move (v := v21) rfl rfl) ?_
            refine RG.pv rfl (PV.asg (v := v21) rfl rfl) ?_
            refine RG.nil ?_
            refine WP.ret ?_
            exact ⟨_, _, ResV.one rfl rfl, Cv.p, k v21 (zs.set 0 (Viol.s1 ⟨.slice none 0 0, []⟩ (gd zs 0))) pw23 (by rw [sRep, if_neg g3, ew15, if_neg h2, ew23, if_neg h3, if_neg h4, if_pos h5, erVs_set, e0]; rfl) (by assumption) (by simp) (hm.set 0 (.inr rfl))⟩
          · have h5 := of_decide_eq_false h5
            refine WP.region ?_
            refine RG.pv rfl (PV.move (v := v21) rfl rfl) ?_
            refine RG.pv rfl (PV.move (v := v21) rfl rfl) ?_
            refine RG.pv rfl (PV.len (v := v21) rfl Tryz.underlying55 rfl SlF.o) ?_
            refine RG.pv rfl (PV.sub rfl rfl rfl (by omega)) ?_
            refine RG.pv rfl (PV.idxS (j := zs.length - 1) (v := v21) rfl Is55 rfl SlF.o rfl (by first | omega | (simp only [List.length_set]; omega)) (by first | omega | (simp only [List.length_set]; omega))) ?_
            refine RG.pv rfl (PV.field rfl Fo63_0 rfl) ?_
            refine RG.ot rfl (OT.storeF (F := violT) (val := vi) (cv := fun u => [vi u]) (st := Viol.s0) rfl Sz2 rfl rfl rfl (Cl.c rfl) rfl (OneC.c rfl) (by exact set_self (by omega)) (by first | omega | (simp; omega)) rfl (fun _ _ => rfl) ?_)
            refine RG.nil ?_
            refine WP.seq ?_
            refine WP.region ?_
            refine RG.pv rfl (PV.move (v := v21) rfl rfl) ?_
            refine RG.pv rfl (PV.asg (v := v21) rfl rfl) ?_
            refine RG.nil ?_
            refine WP.ret ?_
            exact ⟨_, _, ResV.one rfl rfl, Cv.p, k v21 (zs.set (zs.length - 1) (Viol.s0 (-1) (gd zs (zs.length - 1)))) pw23 (by rw [sRep, if_neg g3, ew15, if_neg h2, ew23, if_neg h3, if_neg h4, if_neg h5, erVs_set, erVs_len, e1]; rfl) (by assumption) (by simp) (hm.set _ hml)⟩
def dW1 (bs : List UInt8) (n : Nat) (p : Pl) : Pl :=
  match nx bs p 1000 with
  | (_, p1) => match nx bs p1 3 with
  | (_, p2) => if n = 0 then p2 else if (nx bs p2 3).1 = 0 then (nx bs p2 3).2 else (nx bs (nx bs p2 3).2 n).2
def dWs (bs : List UInt8) (n : Nat) : Nat → Pl → Pl
  | 0, p => p
  | m + 1, p => dWs bs n m (dW1 bs n p)
def dW (bs : List UInt8) (n : Nat) (p : Pl) : Pl := dWs bs n (nx bs p 4).1.toNat (nx bs p 4).2
theorem dW_s {b : Nat} {cv u : Value} {bs : List UInt8} {d : Deck} {zs : List Viol} {p : Pl} (hcode : SL G byteT cv bs) (hp : OkP p) (hr : Rs G L ruleT d.rules.v d.rules.xs) (h2 : Rs G L violT u zs) (hd : ∀ i, i < zs.length → Rs G L rectT (gd zs i).marker.v (gd zs i).marker.xs) (hl : zs.length ≤ 10000000) (k : ∀ v' ws p', dW bs zs.length p = p' → OkP p' → ws.length ≤ 4 → RsOk ws → R v' G (osl 67 waiverT v' ws :: srcP b cv p' :: L)) : CallT Tryz.prog 65 #[.pointer (some ⟨b, 0, none⟩), vT deckT d, u] G (srcP b cv p :: L) R := by
  refine CallT.enter (args := _) Tryz.func65 rfl rfl (by kernel_rfl) rfl ?_
  refine WP.seq ?_
  refine WP.region ?_
  refine RG.ot rfl (OT.box (cs := deckT.enc d) rfl rfl rfl fun b4 => ?_)
  refine RG.pv rfl (PV.asg rfl rfl) ?_
  refine RG.nil ?_
  refine WP.seq ?_
  refine WP.region ?_
  refine RG.ot rfl (OT.bslice (F := waiverT) (els := []) rfl El56 rfl (by decide) rfl (by decide) trivial fun v11 => ?_)
  refine RG.pv rfl (PV.asg (v := v11) rfl rfl) ?_
  refine RG.nil ?_
  refine WP.seq ?_
  refine WP.seq ?_
  refine WP.region ?_
  refine RG.pv rfl (PV.move rfl rfl) ?_
  refine RG.callF (vs := [_, _]) rfl rfl En66 rfl (CallT.exB (b := b) (nextP_s hcode (by assumption) (by omega) (fun w13 pw13 ew13 ow13 hw13 => ?_)))
  refine RG.pv rfl (PV.mvI (.inr rfl) rfl) ?_
  refine RG.nil ?_
  refine WP.block ?_
  refine WP.loop4 [0, 2, 4] (fun (j : Int) (ws : List Waiver) (q : Value) (pj : Pl) => (0 ≤ j ∧ j ≤ 3) ∧ (ws.length : Int) + j ≤ 3 ∧ RsOk ws ∧ OkP pj ∧ dWs bs zs.length j.toNat pj = dWs bs zs.length w13.toNat pw13) (fun (j : Int) (ws : List Waiver) (q : Value) (pj : Pl) => [(8, vi j), (7, q)]) (fun (j : Int) (ws : List Waiver) (q : Value) (pj : Pl) => osl 67 waiverT q ws :: srcP b cv pj :: blk b4 54 (deckT.enc d) :: L) (fun (j : Int) (ws : List Waiver) (q : Value) (pj : Pl) => j.toNat) w13 [] v11 pw13 ⟨by omega, by simp; omega, fun a h => (by cases h), by assumption, rfl⟩ ⟨rfl, rfl, trivial⟩ Cv.p ?_
  rintro j ws q pj τ ⟨hj, hwl, hok, hpj, hdj⟩
  refine WP.seq ?_
  refine WP.seq ?_
  refine WP.region ?_
  refine RG.pv rfl (PV.mvI (.inl rfl) rfl) ?_
  refine RG.pv rfl (PV.gtr rfl rfl rfl) ?_
  refine RG.nil ?_
  refine WP.cond rfl (fun h3 => ?_) (fun h3 => ?_)
  · have h3 := of_decide_eq_true h3
    have hst : dWs bs zs.length j.toNat pj = dWs bs zs.length (j - 1).toNat (dW1 bs zs.length pj) := by
      rw [show j.toNat = (j - 1).toNat + 1 by omega, dWs]
    rw [hst] at hdj
    refine WP.skip ?_
    refine WP.seq ?_
    refine WP.block ?_
    refine WP.seq ?_
    refine WP.region ?_
    refine RG.pv rfl (PV.move rfl rfl) ?_
    refine RG.callF (vs := [_, _]) rfl rfl En66 rfl (CallT.exB (b := b) (nextP_s hcode (by assumption) (by omega) (fun w19 pw19 ew19 ow19 hw19 => ?_)))
    refine RG.ot rfl (OT.bslice (F := strT) (els := [_, _, _]) rfl El140 rfl (by decide) rfl (by decide) ⟨rfl, (Cl.c rfl), ⟨rfl, (Cl.c rfl), ⟨rfl, (Cl.c rfl), trivial⟩⟩⟩ fun v20 => ?_)
    refine RG.pv rfl (PV.move rfl rfl) ?_
    refine RG.callF (vs := [_, _]) rfl rfl En66 rfl (CallT.exB (b := b) (nextP_s hcode (by assumption) (by omega) (fun w22 pw22 ew22 ow22 hw22 => ?_)))
    refine RG.pv rfl (PV.idxS (j := w22.toNat) (v := v20) rfl Is140 rfl SlF.o rfl (by first | omega | (simp only [List.length_set]; omega) | (simp only [List.length_cons, List.length_nil]; omega)) (by first | omega | (simp only [List.length_set]; omega) | (simp only [List.length_cons, List.length_nil]; omega))) ?_
    refine RG.pv rfl (PV.loadE1 rfl Sc9 rfl rfl (El.o (getG (by first | omega | (simp only [List.length_cons, List.length_nil]; omega)))) rfl) ?_
    refine RG.pv rfl (PV.build (vs := [(0, [vi _]), (1, [.string _])]) (out := [_, _]) rfl Zr67 Pl67 ⟨rfl, (Cl.c rfl), ⟨rfl, (Cl.c rfl), trivial⟩⟩ rfl) ?_
    refine RG.ot rfl (OT.alloc rfl Zr67 fun b9 => ?_)
    refine RG.ot rfl (OT.storeW (vs := [vi _, .string _]) rfl Sz67 rfl rfl (Cl.c rfl) rfl rfl (OneC.c rfl) ?_)
    refine RG.nil ?_
    refine WP.cut2 [0, 2, 4, 7, 8, 9] (fun (w2 : Waiver) (p2 : Pl) => w2.reason.size ≤ 9 ∧ OkP p2 ∧ dW1 bs zs.length pj = p2) (fun (w2 : Waiver) (p2 : Pl) => []) (fun (w2 : Waiver) (p2 : Pl) => blk b9 67 (waiverT.enc w2) :: osl 67 waiverT q ws :: srcP b cv p2 :: blk b4 54 (deckT.enc d) :: L) ?_ ?_
    refine WP.seq ?_
    refine WP.region ?_
    refine RG.pv rfl (PV.move (v := u) rfl rfl) ?_
    refine RG.pv rfl (PV.len (v := u) rfl Tryz.underlying55 rfl (SlF.r h2)) ?_
    refine RG.pv rfl (PV.gtr rfl rfl rfl) ?_
    refine RG.pv rfl (PV.mvB (.inl rfl) rfl) ?_
    refine RG.spl (t := 29) rfl (fun g1 => ?_) (fun g1 => ?_)
    · have g2 := of_decide_eq_true g1
      have g3 : ¬ zs.length = 0 := by omega
      refine RG.take rfl rfl rfl g1 ?_
      refine RG.pv rfl (PV.move rfl rfl) ?_
      refine RG.take rfl rfl rfl g1 ?_
      refine RG.callF (vs := [_, _]) rfl rfl En66 rfl (CallT.exB (b := b) (nextP_s hcode (by assumption) (by omega) (fun w31 pw31 ew31 ow31 hw31 => ?_)))
      refine RG.take rfl rfl rfl g1 ?_
      refine RG.pv rfl (PV.neq rfl rfl rfl) ?_
      refine RG.pv rfl (PV.pickT rfl rfl g1 rfl) ?_
      refine RG.nil ?_
      refine WP.cond rfl (fun h4 => ?_) (fun h4 => ?_)
      · have h4 : ¬ w31 = 0 := by simpa using h4
        refine WP.seq ?_
        refine WP.region ?_
        refine RG.pv rfl (PV.move (v := u) rfl rfl) ?_
        refine RG.pv rfl (PV.move rfl rfl) ?_
        refine RG.pv rfl (PV.move (v := u) rfl rfl) ?_
        refine RG.pv rfl (PV.len (v := u) rfl Tryz.underlying55 rfl (SlF.r h2)) ?_
        refine RG.callF (vs := [_, _]) rfl rfl En66 rfl (CallT.exB (b := b) (nextP_s hcode (by assumption) (by omega) (fun w38 pw38 ew38 ow38 hw38 => ?_)))
        refine RG.pv rfl (PV.idxS (j := w38.toNat) (v := u) rfl Is55 rfl (SlF.r h2) rfl (by first | omega | (simp only [List.length_set]; omega) | (simp only [List.length_cons, List.length_nil]; omega)) (by first | omega | (simp only [List.length_set]; omega) | (simp only [List.length_cons, List.length_nil]; omega))) ?_
        refine RG.pv rfl (PV.loadE rfl Ag63 rfl rfl (El.r h2 (getG (by first | omega | (simp only [List.length_cons, List.length_nil]; omega))))) ?_
        refine RG.ot rfl (OT.alloc rfl Zr63 fun b10 => ?_)
        refine RG.ot rfl (OT.storeW (vs := [vi _, _]) rfl Sz63 rfl rfl (Cl.c rfl) rfl rfl (OneC.val rfl (OneC.sl (SlF.r (hd w38.toNat (by omega))) OneC.nil)) ?_)
        refine RG.nil ?_
        refine WP.region ?_
        refine RG.pv rfl (PV.loadW rfl Ag54 rfl rfl) ?_
        refine RG.pv rfl (PV.loadW rfl Ag63 rfl rfl) ?_
        refine RG.callF (vs := [_, _]) rfl rfl En123 rfl (violSig_r (d := d) (v := gd zs w38.toNat) (Rs.up hr) (hd w38.toNat (by omega)).up ?_)
        refine RG.pv rfl (PV.max2 rfl rfl rfl) ?_
        refine RG.pv rfl (PV.field rfl Fo67_0 rfl) ?_
        refine RG.ot rfl (OT.storeB (vs := [vi _]) (cs' := [_, _]) rfl Sz2 rfl rfl (Cl.c rfl) rfl (OneC.c rfl) rfl rfl ?_)
        refine RG.nil ?_
        exact ⟨rfl, ⟨max 0 (violE d.rules.xs (erV (gd zs w38.toNat))), gd rn3 w22.toNat⟩, pw38, ⟨rn3_ok hw22, by assumption, by simp only [dW1, ew19, ew22, if_neg g3, ew31, if_neg h4, ew38]⟩, trivial, ⟨rfl, rfl, rfl, rfl, rfl, rfl, trivial⟩, Cv.p⟩
      · have h4 : w31 = 0 := by simpa using h4
        refine WP.skip ?_
        exact ⟨rfl, ⟨w19, gd rn3 w22.toNat⟩, pw31, ⟨rn3_ok hw22, by assumption, by simp only [dW1, ew19, ew22, if_neg g3, ew31, if_pos h4]⟩, trivial, ⟨rfl, rfl, rfl, rfl, rfl, rfl, trivial⟩, Cv.p⟩
    · have g3 : zs.length = 0 := by have := of_decide_eq_false g1; omega
      refine RG.skip rfl rfl rfl (gne g1) ?_
      refine RG.skip rfl rfl rfl (gne g1) ?_
      refine RG.skip rfl rfl rfl (gne g1) ?_
      refine RG.pv rfl (PV.pickE rfl rfl g1 rfl) ?_
      refine RG.nil ?_
      refine WP.cond rfl (fun h4 => ?_) (fun h4 => ?_)
      · cases h4
      · refine WP.skip ?_
        exact ⟨rfl, ⟨w19, gd rn3 w22.toNat⟩, pw22, ⟨rn3_ok hw22, by assumption, by simp only [dW1, ew19, ew22, if_pos g3]⟩, trivial, ⟨rfl, rfl, rfl, rfl, rfl, rfl, trivial⟩, Cv.p⟩
    rintro w2 p2 τ1 ⟨hw2, hp2, hd2⟩
    refine WP.seq ?_
    refine WP.region ?_
    refine RG.pv rfl (PV.move (v := q) rfl rfl) ?_
    refine RG.pv rfl (PV.field rfl Fo67_0 rfl) ?_
    refine RG.pv rfl (PV.load1 rfl Sc2 rfl (Rd.blk rfl)) ?_
    refine RG.callF (vs := [q, _]) rfl rfl En71 rfl (l22Has_s Rs.o ?_)
    refine RG.pv rfl (PV.not rfl rfl) ?_
    refine RG.nil ?_
    rw [hd2] at hdj
    refine WP.cond rfl (fun h5 => ?_) (fun h5 => ?_)
    · refine WP.region ?_
      refine RG.pv rfl (PV.move (v := q) rfl rfl) ?_
      refine RG.pv rfl (PV.loadW rfl Ag67 rfl rfl) ?_
      refine RG.callF (vs := [q, _]) rfl rfl En124 rfl (insert_w (w := w2) Rs.o (by omega) (fun v53 wsv53 hlv53 hmv53 => ?_))
      refine RG.pv rfl (PV.asg (v := v53) rfl rfl) ?_
      refine RG.nil ?_
      refine WP.region ?_
      refine RG.pv rfl (PV.mvI (.inl rfl) rfl) ?_
      refine RG.pv rfl (PV.sub rfl rfl rfl (by first | omega | (simp only [List.length_cons, List.length_nil]; omega))) ?_
      refine RG.pv rfl (PV.mvI (.inr rfl) rfl) ?_
      refine RG.nil ?_
      exact ⟨rfl, j - 1, wsv53, v53, p2, ⟨by omega, by omega, RsOk.ins hok hmv53 hw2, by assumption, hdj⟩, ⟨rfl, rfl, trivial⟩, ⟨rfl, rfl, rfl, trivial⟩, Cv.p, by omega⟩
    · refine WP.skip ?_
      refine WP.region ?_
      refine RG.pv rfl (PV.mvI (.inl rfl) rfl) ?_
      refine RG.pv rfl (PV.sub rfl rfl rfl (by first | omega | (simp only [List.length_cons, List.length_nil]; omega))) ?_
      refine RG.pv rfl (PV.mvI (.inr rfl) rfl) ?_
      refine RG.nil ?_
      exact ⟨rfl, j - 1, ws, q, p2, ⟨by omega, by omega, hok, by assumption, hdj⟩, ⟨rfl, rfl, trivial⟩, ⟨rfl, rfl, rfl, trivial⟩, Cv.p, by omega⟩
  · have h3 := of_decide_eq_false h3
    rw [show j.toNat = 0 by omega, dWs] at hdj
    refine WP.exit ?_
    refine WP.seq ?_
    refine WP.region ?_
    refine RG.pv rfl (PV.move (v := q) rfl rfl) ?_
    refine RG.pv rfl (PV.asg (v := q) rfl rfl) ?_
    refine RG.nil ?_
    refine WP.ret ?_
    exact ⟨_, _, ResV.one rfl rfl, Cv.p, k q ws pj (by rw [dW, ew13]; exact hdj.symm) (by assumption) (by omega) hok⟩
def sLast (bs : List UInt8) (m : Nat) (zs : List EViol) (p : Pl) : List EViol × Pl :=
  if zs.length = 0 then (zs, p) else ((if (nx bs p 16).1 = 0 then zs.set (zs.length - 1) ((m : Int), (gd zs (zs.length - 1)).2) else zs), (nx bs p 16).2)
noncomputable def dApply (bs : List UInt8) : List Rule × List EViol :=
  match dRep bs (fr bs) with
  | ((rs, zs), p1) => match sLast bs rs.length zs (dW bs zs.length p1) with
  | (zs2, p2) => match sDeck bs 20 rs p2 with
  | (rs2, p3) => (rs2, (sRep bs 20 zs2 p3).1)
theorem drawApply_f {cv : Value} {bs : List UInt8} (hcode : SL G byteT cv bs) (k : ∀ x rs w zs ys u ws, dApply bs = (rs, erVs zs) → zs.length ≤ 300 → MkIn zs ys → RsOk ws → R (.tuple #[vT deckT ⟨⟨x, rs⟩⟩, w, u]) G (osl 34 ruleT x rs :: osl 63 violT w zs :: bagS 71 rectT ys :: osl 67 waiverT u ws :: L)) : CallT Tryz.prog 29 #[cv] G L R := by
  refine CallT.enter (args := _) Tryz.func29 rfl rfl (by kernel_rfl) rfl ?_
  refine WP.seq ?_
  refine WP.region ?_
  refine RG.ot rfl (OT.alloc rfl Zr54 fun b2 => ?_)
  refine RG.pv rfl (PV.asg rfl rfl) ?_
  refine RG.pv rfl (PV.asg rfl rfl) ?_
  refine RG.nil ?_
  refine WP.seq ?_
  refine WP.region ?_
  refine RG.pv rfl (PV.move (v := cv) rfl rfl) ?_
  refine RG.callF (vs := [cv]) rfl rfl En44 rfl (fromP_s hcode (fun b => have o11 := fr_ok bs; ?_))
  refine RG.pv rfl (PV.asg rfl rfl) ?_
  refine RG.nil ?_
  refine WP.seq ?_
  refine WP.region ?_
  refine RG.pv rfl (PV.move rfl rfl) ?_
  refine RG.callF (vs := [_]) rfl rfl En64 rfl (CallT.exB (b := b) (dRep_s hcode (by assumption) (fun u14 x14 rs14 w14 zs14 p14 e14 o14 hrs14 hzl14 => ?_)))
  refine RG.pv rfl (PV.move (v := .tuple _) rfl rfl) ?_
  refine RG.pv rfl (PV.ext rfl rfl rfl) ?_
  refine RG.pv rfl (PV.ext rfl rfl rfl) ?_
  refine RG.pv rfl (PV.ext (v := w14) rfl rfl rfl) ?_
  refine RG.ot rfl (OT.alloc rfl Zr54 fun b7 => ?_)
  refine RG.pv rfl (PV.asg rfl rfl) ?_
  refine RG.ot rfl (OT.storeW (vs := [_]) rfl Sz54 rfl rfl (Cl.c rfl) rfl rfl (OneC.sl (SlF.o (v := x14)) OneC.nil) ?_)
  refine RG.pv rfl (PV.asg (v := w14) rfl rfl) ?_
  refine RG.nil ?_
  refine WP.seq ?_
  refine WP.region ?_
  refine RG.pv rfl (PV.move rfl rfl) ?_
  refine RG.pv rfl (PV.loadW rfl Ag54 rfl rfl) ?_
  refine RG.pv rfl (PV.move (v := w14) rfl rfl) ?_
  refine RG.callF (vs := [_, _, w14]) rfl rfl En65 rfl (CallT.exB (b := b) (dW_s (d := ⟨⟨x14, rs14⟩⟩) hcode (by assumption) Rs.o Rs.o (fun i hi => RsE.marker (RsE.o (xs := mks zs14)) hi) (by omega) (fun v21 wsv21 pv21 ev21 ov21 hwlv21 hokv21 => ?_)))
  refine RG.pv rfl (PV.asg (v := v21) rfl rfl) ?_
  refine RG.nil ?_
  refine WP.cut2 [2, 5, 7, 8, 9] (fun (zs2 : List Viol) (p2 : Pl) => zs2.length = zs14.length ∧ MkIn zs2 (mks zs14) ∧ OkP p2 ∧ sLast bs rs14.length (erVs zs14) pv21 = (erVs zs2, p2)) (fun (zs2 : List Viol) (p2 : Pl) => []) (fun (zs2 : List Viol) (p2 : Pl) => osl 63 violT w14 zs2 :: bagS 71 rectT (mks zs14) :: osl 34 ruleT x14 rs14 :: osl 67 waiverT v21 wsv21 :: blk b7 54 [x14] :: blk b2 54 [.slice none 0 0] :: srcP b cv p2 :: L) ?_ ?_
  refine WP.seq ?_
  refine WP.region ?_
  refine RG.pv rfl (PV.move (v := w14) rfl rfl) ?_
  refine RG.pv rfl (PV.len (v := w14) rfl Tryz.underlying55 rfl SlF.o) ?_
  refine RG.pv rfl (PV.gtr rfl rfl rfl) ?_
  refine RG.pv rfl (PV.mvB (.inl rfl) rfl) ?_
  refine RG.spl (t := 25) rfl (fun g1 => ?_) (fun g1 => ?_)
  · have g2 := of_decide_eq_true g1
    have g3 : ¬ (erVs zs14).length = 0 := by rw [erVs_len]; omega
    refine RG.take rfl rfl rfl g1 ?_
    refine RG.pv rfl (PV.move rfl rfl) ?_
    refine RG.take rfl rfl rfl g1 ?_
    refine RG.callF (vs := [_, _]) rfl rfl En66 rfl (CallT.exB (b := b) (nextP_s hcode (by assumption) (by omega) (fun w27 pw27 ew27 ow27 hw27 => ?_)))
    refine RG.take rfl rfl rfl g1 ?_
    refine RG.pv rfl (PV.eql rfl rfl rfl) ?_
    refine RG.pv rfl (PV.pickT rfl rfl g1 rfl) ?_
    refine RG.nil ?_
    refine WP.cond rfl (fun h2 => ?_) (fun h2 => ?_)
    · have h2 := of_decide_eq_true h2
      have hml := (MkIn.self zs14).gd (show zs14.length - 1 < zs14.length by omega)
      have e1 : gd (erVs zs14) (zs14.length - 1) = erV (gd zs14 (zs14.length - 1)) := erVs_gd (by omega)
      refine WP.region ?_
      refine RG.pv rfl (PV.move (v := w14) rfl rfl) ?_
      refine RG.pv rfl (PV.move (v := w14) rfl rfl) ?_
      refine RG.pv rfl (PV.len (v := w14) rfl Tryz.underlying55 rfl SlF.o) ?_
      refine RG.pv rfl (PV.sub rfl rfl rfl (by omega)) ?_
      refine RG.pv rfl (PV.field rfl Fo54_0 rfl) ?_
      refine RG.pv rfl (PV.load1 rfl Sc52 rfl (Rd.blk rfl)) ?_
      refine RG.pv rfl (PV.len (v := x14) rfl Tryz.underlying52 rfl SlF.o) ?_
      refine RG.pv rfl (PV.idxS (j := zs14.length - 1) (v := w14) rfl Is55 rfl SlF.o rfl (by first | omega | (simp only [List.length_set]; omega)) (by first | omega | (simp only [List.length_set]; omega))) ?_
      refine RG.pv rfl (PV.field rfl Fo63_0 rfl) ?_
      refine RG.ot rfl (OT.storeF (F := violT) (val := vi) (cv := fun u => [vi u]) (st := Viol.s0) rfl Sz2 rfl rfl rfl (Cl.c rfl) rfl (OneC.c rfl) (by exact set_self (by omega)) (by first | omega | (simp; omega)) rfl (fun _ _ => rfl) ?_)
      refine RG.nil ?_
      exact ⟨rfl, (zs14.set (zs14.length - 1) (Viol.s0 (rs14.length : Int) (gd zs14 (zs14.length - 1)))), pw27, ⟨by simp, (MkIn.self zs14).set _ hml, by assumption, by rw [sLast, if_neg g3, ew27, if_pos h2, erVs_set, erVs_len, e1]; rfl⟩, trivial, ⟨rfl, rfl, rfl, rfl, rfl, trivial⟩, Cv.p⟩
    · have h2 := of_decide_eq_false h2
      refine WP.skip ?_
      exact ⟨rfl, zs14, pw27, ⟨rfl, MkIn.self zs14, by assumption, by rw [sLast, if_neg g3, ew27, if_neg h2]⟩, trivial, ⟨rfl, rfl, rfl, rfl, rfl, trivial⟩, Cv.p⟩
  · have g3 : (erVs zs14).length = 0 := by have := of_decide_eq_false g1; rw [erVs_len]; omega
    refine RG.skip rfl rfl rfl (gne g1) ?_
    refine RG.skip rfl rfl rfl (gne g1) ?_
    refine RG.skip rfl rfl rfl (gne g1) ?_
    refine RG.pv rfl (PV.pickE rfl rfl g1 rfl) ?_
    refine RG.nil ?_
    refine WP.cond rfl (fun h2 => ?_) (fun h2 => ?_)
    · cases h2
    · refine WP.skip ?_
      exact ⟨rfl, zs14, pv21, ⟨rfl, MkIn.self zs14, by assumption, by rw [sLast, if_pos g3]⟩, trivial, ⟨rfl, rfl, rfl, rfl, rfl, trivial⟩, Cv.p⟩
  rintro zs2 p2 τ1 ⟨hzl2, hm2, hp2, hd2⟩
  refine WP.seq ?_
  refine WP.region ?_
  refine RG.pv rfl (PV.move rfl rfl) ?_
  refine RG.pv rfl (PV.loadW rfl Ag54 rfl rfl) ?_
  refine RG.callF (vs := [_, _, _]) rfl rfl En67 rfl (CallT.cv (L' := osl 34 ruleT x14 rs14 :: srcP b cv p2 :: osl 63 violT w14 zs2 :: bagS 71 rectT (mks zs14) :: osl 67 waiverT v21 wsv21 :: blk b7 54 [x14] :: blk b2 54 [.slice none 0 0] :: L) Cv.p (sDeck_s hcode hp2 (by omega) (by omega) (fun x41 rs41 p41 e41 o41 => ?_)))
  refine RG.pv rfl (PV.move rfl rfl) ?_
  refine RG.pv rfl (PV.move (v := w14) rfl rfl) ?_
  refine RG.callF (vs := [_, w14, _]) rfl rfl En68 rfl (CallT.cv (L' := osl 63 violT w14 zs2 :: bagS 71 rectT (mks zs14) :: srcP b cv p41 :: osl 34 ruleT x41 rs41 :: osl 67 waiverT v21 wsv21 :: blk b7 54 [x14] :: blk b2 54 [.slice none 0 0] :: L) Cv.p (sRep_s hcode o41 (by omega) (by omega) hm2 (fun v44 zsv44 pv44 ev44 ov44 hzv44 hmkv44 => ?_)))
  refine RG.pv rfl (PV.move rfl rfl) ?_
  refine RG.pv rfl (PV.move (v := v21) rfl rfl) ?_
  refine RG.callF (vs := [_, v21, _]) rfl rfl En69 rfl (CallT.cv (L' := osl 67 waiverT v21 wsv21 :: src b cv :: osl 63 violT v44 zsv44 :: bagS 71 rectT (mks zs14) :: osl 34 ruleT x41 rs41 :: blk b7 54 [x14] :: blk b2 54 [.slice none 0 0] :: L) ((Cv.p (C := srcP b cv pv44 :: osl 67 waiverT v21 wsv21 :: osl 63 violT v44 zsv44 :: bagS 71 rectT (mks zs14) :: osl 34 ruleT x41 rs41 :: blk b7 54 [x14] :: blk b2 54 [.slice none 0 0] :: L)).trans ((Cv.src ov44).trans Cv.p)) (spoilWaivers_w hcode (by omega) (by omega) hokv21 (fun v47 wsv47 hokv47 => ?_)))
  refine RG.ot rfl (OT.storeW (vs := [_]) rfl Sz54 rfl rfl (Cl.c rfl) rfl rfl (OneC.sl (SlF.o (v := x41)) OneC.nil) ?_)
  refine RG.pv rfl (PV.asg (v := v44) rfl rfl) ?_
  refine RG.pv rfl (PV.asg (v := v47) rfl rfl) ?_
  refine RG.nil ?_
  refine WP.ret ?_
  have hdA : dApply bs = (rs41, erVs zsv44) := by
    have ev21' : dW bs (erVs zs14).length p14 = pv21 := by rw [erVs_len]; exact ev21
    simp only [dApply, e14, ev21', hd2, e41, ev44]
  exact ⟨_, _, ResV.three rfl (RV1.cell rfl Ag54 rfl) rfl rfl, Cv.p, k x41 rs41 v44 zsv44 (mks zs14) v47 wsv47 hdA (by omega) hmkv44 hokv47⟩
end Go.Proofs.YtpjajhjcbcfplaaGreat
namespace Go.Proofs.YtpjajhjcbcfplaaGreat
set_option linter.unusedVariables false
set_option linter.unusedSimpArgs false
open Go
set_option maxRecDepth 20000
set_option maxHeartbeats 2000000
set_option linter.unusedSimpArgs false
variable {G : Gh} {L : List Ch} {R : Value → Gh → List Ch → Prop}
theorem MkIn.read {zs : List Viol} {ys : List (Sl Rect)} {e : TypeId} {L L' : List Ch} [hX : ExBg ys L e rectT L'] (h : MkIn zs ys) : RsE G L rectT (mks zs) := fun i hi => by
  rw [mks_len] at hi
  rw [mks_gd hi]
  rcases h.gd hi with h1 | h1
  · obtain ⟨j, hj, e1⟩ := List.getElem_of_mem h1
    have := Rs.inBag (G := G) (L := L) (L' := L') (e := e) (F := rectT) (xs := ys) j hj
    rwa [gd_eq hj, e1] at this
  · rw [h1]
    exact fun w hs => ⟨⟨0, Nat.le_refl _, Nat.zero_le _, .inr ⟨⟨_, rfl⟩, rfl⟩⟩, fun j c hc => by simp [FT.flat] at hc⟩
end Go.Proofs.YtpjajhjcbcfplaaGreat
namespace Go.Proofs.YtpjajhjcbcfplaaGreat
set_option linter.unusedVariables false
set_option linter.unusedSimpArgs false
open Go
set_option linter.unusedVariables false
set_option linter.unusedSimpArgs false
variable {P : Program} {n : Nat} {σ : Nat → Value} {G : Gh} {L : List Ch} {o : Oper} {T t tn : TypeId} {x y : Operand} {v u : Value} {K : (Nat → Value) → Gh → List Ch → Prop}
/-- an owned slice that has elements, opened: its block, with what stands behind the elements -/
theorem CallT.openS {α : Type} {f : FuncId} {args : Value → Array Value} {R : Value → Gh → List Ch → Prop} {F : FT α} {e : TypeId} {v : Value} {xs : List α} (h0 : 0 < xs.length)
    (k : ∀ b cap cs, xs.length ≤ cap → cap ≤ maxLen → cs.length = cap * F.sz → cs.take (xs.length * F.sz) = F.flat xs → CallT P f (args (.slice (some ⟨b, 0, none⟩) xs.length cap)) G (blk b e cs :: L) R) : CallT P f (args v) G (osl e F v xs :: L) R := by
  refine CallT.of fun w hs => ?_
  obtain ⟨hp, ⟨h1, h2, d, l1, l2, hc, s⟩, r⟩ := hs
  rcases hc with ⟨_, rfl⟩ | ⟨b, cap, c, rfl, hb, q1, q2, q3, q4⟩
  · simp at h0
  · refine (k b cap c.toList q1 q2 (by simpa using q3) q4).run ⟨hp, ⟨h1, h2, d, l1, l2, ?_, s⟩, r⟩
    simpa [blk] using hb
/-- .. and closed again -/
theorem Cv.closeS {α : Type} {F : FT α} {e : TypeId} {b cap m : Nat} {cs : List Value} {xs : List α} (hm : m = xs.length) (h1 : xs.length ≤ cap) (h2 : cap ≤ maxLen) (h3 : cs.length = cap * F.sz) (h4 : cs.take (xs.length * F.sz) = F.flat xs) : Cv (blk b e cs :: L) (osl e F (.slice (some ⟨b, 0, none⟩) m cap) xs :: L) := by
  subst hm
  exact Cv.imp fun hp hc => .inr ⟨b, cap, cs.toArray, rfl, hc, h1, h2, by simpa using h3, by simpa using h4⟩
theorem Rs.blk {α : Type} {F : FT α} {e : TypeId} {b cap m : Nat} {cs : List Value} {xs : List α} (hm : m = xs.length) (h1 : xs.length ≤ cap) (h2 : cap ≤ maxLen) (h3 : cs.length = cap * F.sz) (h4 : cs.take (xs.length * F.sz) = F.flat xs) : Rs G (blk b e cs :: L) F (.slice (some ⟨b, 0, none⟩) m cap) xs := fun w hs =>
  Rs.o (e := e) w (hs.cv (Cv.closeS (F := F) hm h1 h2 h3 h4))
def capV : Value → Nat
  | .slice _ _ c => c
  | _ => 0
theorem PV.cap {m : Nat} (ho : o.op = .call { callee := .builtin .cap, args := #[x], argTypes := #[t] }) {e : TypeId} (hu : P.underlying t = some (.slice e)) (hx : ev σ x = v) (h : SlF G L v m) : PV P o σ G L (.int .i64 (capV v)) := by
  intro w hw
  obtain ⟨c, h1, h2, ⟨b, k, rfl⟩ | ⟨⟨a, rfl⟩, h0⟩⟩ := h w hw <;> simp [execOp, ho, resolve, invoke, builtin, hx, Builtin.cap_, run_underlying hu, capV, goInt]
/-- a part of an opened slice up to its capacity -/
theorem PV.slcC {b m c h s : Nat} {e : TypeId} {hi : Operand} {k : IntKind} (ho : o.op = .slice t x none (some hi) none) (hI : IdxS P t e s) (hx : ev σ x = .slice (some ⟨b, 0, none⟩) m c) {a : Int} (hh : ev σ hi = .int k a) (ea : a = (h : Int)) (h2 : h ≤ c) : PV P o σ G L (.slice (some ⟨b, 0, none⟩) h c) := by
  subst ea
  obtain ⟨hu, hi'⟩ := hI
  obtain ⟨inf, h3, rfl⟩ := info_size hi'
  intro w hw
  have hb : (Instr.sliceBounds true m c none (some (.int k (h : Int))) none).run P w = .ok (0, h, c) w := by
    simp [Instr.sliceBounds, Instr.sliceBound, asIntOf, h2]
  simp [execOp, ho, hx, hh, Instr.sliceAt, run_underlying hu, Instr.slice, hb, sizeOf, typeInfo, h3, add_none]
/-- copy into a block -/
theorem OT.copy {b ko dl dc b2 ks sl sc s q : Nat} {e e' t' : TypeId} {cs vs : List Value} {L' : List Ch} (ho : o.op = .call { callee := .builtin .copy, args := #[x, y], argTypes := #[t, t'] }) (hI : IdxS P t e s)
    (hx : ev σ x = .slice (some ⟨b, ko, none⟩) dl dc) (hy : ev σ y = .slice (some ⟨b2, ks, none⟩) sl sc) (hq : q = min sl dl) (hl : vs.length = q * s) (hsrc : ∀ w, St G L w → ∀ j c, vs[j]? = some c → w.cell? ⟨b2, ks + j, none⟩ = some c) (h1 : allOne vs = true)
    [hX : ExB b L e' cs L'] (hk : ko + vs.length ≤ cs.length) (k : K (updo σ o.dst (.int .i64 (q : Nat))) G (blk b e' (splice cs ko vs) :: L')) : OT P n o σ G L K := by
  subst hq
  obtain ⟨hu, hi'⟩ := hI
  obtain ⟨inf, hh3, rfl⟩ := info_size hi'
  have hS : ∀ w, (sizeOf e).run P w = .ok inf.size w := fun w => by simp [sizeOf, typeInfo, hh3]
  have hl : vs.length = Nat.min sl dl * inf.size := hl
  have k : K (updo σ o.dst (.int .i64 (Nat.min sl dl : Nat))) G (blk b e' (splice cs ko vs) :: L') := k
  refine OT.ofRun fun w hs => ?_
  have hb : wh w b = some (.cells cs.toArray e' (0, 0)) := by
    obtain ⟨hp, s, l1, l2, d⟩ := hs
    obtain ⟨g1, g2, _, m1, _, cc, _⟩ := hX.ex.sep s
    exact l2 _ _ (m1 _ _ cc)
  have hf := run_firstCells_some (P := P) w inf.size (Nat.min sl dl) ⟨b2, ks, none⟩ sl sc vs hl (fun j c hj => by rw [add_none]; exact hsrc w hs j c hj)
  obtain ⟨w', hr, hq, hw'⟩ := storeCells_run (P := P) vs b ko 0 cs.toArray e' w (allOne_all h1) hb (by simpa using hk)
  refine ⟨_, G, _, w', ?_, hs.set hq hX.ex (b := b) (fun h hh => ?_) hw' (c' := blk b e' (splice cs ko vs)) (fun h hh _ => ?_), k⟩
  · simp [execOp, ho, resolve, invoke, builtin, hx, hy, Builtin.copy_, run_underlying hu, Builtin.lenOf, hS w, hf, hr, goInt]
  · have hh : h b = some (.cells cs.toArray e' (0, 0)) := hh
    simp [hh]
  · simp [blk]
/-- append of a make of m zeros to a part that has not the room -/
theorem OT.appendMake {α : Type} {F : FT α} {e : TypeId} {bytes m : Nat} {z : List Value} {a0 : α} {kn ki : IntKind} {ys : List α} (ho : o.op = .call { callee := .builtin .append, args := #[x, y], argTypes := #[t, tn] }) (hT : ElemT P t e F.sz bytes z) (htn : P.underlying tn = some (.int kn)) (hz : F.enc a0 = z) (hs0 : 0 < F.sz)
    (hx : ev σ x = v) (hv : Rs G L F v ys) {a : Int} (hy : ev σ y = .int ki a) (ea : a = (m : Int)) (hc : capV v < ys.length + m) (hb' : Nat.ble bytes 512 = true) (hb2' : ys.length + m ≤ 274877906944)
    (k : ∀ b' c' cs', ys.length + m ≤ c' → c' ≤ maxLen → cs'.length = c' * F.sz → cs'.take ((ys.length + m) * F.sz) = F.flat ys ++ F.flat (List.replicate m a0) → K (updo σ o.dst (.slice (some ⟨b', 0, none⟩) (ys.length + m) c')) G (blk b' e cs' :: L)) : OT P n o σ G L K := by
  subst ea
  obtain ⟨hu1, i, zv, hi, hi1, hi2, hi3, hi4⟩ := hT
  have hb : (ys.length + m) * bytes ≤ 140737488355328 := Nat.le_trans (Nat.mul_le_mul hb2' (Nat.le_of_ble_eq_true hb')) (by decide)
  refine OT.ofRun fun w hs => ?_
  have hzs : zv.cells.size = F.sz := by rw [← F.len a0, hz, ← hi4]; simp
  obtain ⟨⟨c, hc1, hc2, hsl⟩, hget⟩ := hv w hs
  have hm0 : 0 < m := by
    rcases hsl with ⟨b, k0, rfl⟩ | ⟨⟨ua, rfl⟩, h0⟩ <;> simp only [capV] at hc <;> omega
  have hold : ∃ a, v = .slice a ys.length c ∧ (Builtin.firstCells F.sz ys.length v).run P w.drew = .ok (F.flat ys).toArray w.drew := by
    rcases hsl with ⟨b, k0, rfl⟩ | ⟨⟨ua, rfl⟩, h0⟩
    · refine ⟨_, rfl, run_firstCells_some (P := P) w.drew F.sz ys.length ⟨b, k0, none⟩ _ c (F.flat ys) (F.flat_len ys) fun j q hj => ?_⟩
      rw [add_none]; exact hget j q hj
    · have e : ys = [] := List.eq_nil_of_length_eq_zero h0
      subst e
      refine ⟨_, rfl, ?_⟩
      cases ua with
      | none => simp [Builtin.firstCells, FT.flat]
      | some a => simp [Builtin.firstCells, FT.flat, loadCells, loadCellsFrom]
  obtain ⟨a, hve, hold⟩ := hold
  have hcap : c < ys.length + m := by rw [hve] at hc; simpa [capV] using hc
  have h63 : ys.length + m ≤ maxLen := by simp only [maxLen]; omega
  have hw : IntKind.i64.wrap (m : Int) = m := by rw [IntKind.wrap_i64]; omega
  have hn : ¬ (ys.length + m ≤ c) := by omega
  have h48' : ¬ (281474976710656 < Builtin.nextslicecap (ys.length + m) c * i.bytes) := by
    have := growslice_fits (need := ys.length + m) (old := c) (bytes := bytes) (by omega) hb
    rw [hi2]; omega
  have hmb : m * bytes ≤ (ys.length + m) * bytes := Nat.mul_le_mul_right _ (by omega)
  have h48i : ¬ (281474976710656 < (m : Int) * (i.bytes : Int)) := by rw [← Int.natCast_mul, hi2]; omega
  have hneg : ¬ ((m : Int) < 0) := by omega
  have hns : ¬ (m * i.size = 0) := Nat.mul_ne_zero (by omega) (by omega)
  have h63' : ¬ (9223372036854775807 < ((ys.length : Int) + (m : Int))) := by omega
  have hge := grownCap_ge w (ys.length + m) c e
  have hcm := grownCap_le_maxLen w (ys.length + m) c e h63
  have hr : (Builtin.append_ #[t, tn] o.type #[v, .int ki (m : Int)]).run P w = .ok (.slice (some ⟨w.heap.size, 0, none⟩) (ys.length + m) (grownCap w (ys.length + m) c e))
      (w.drew.alloc (.cells ((F.flat ys).toArray ++ Builtin.zeroCells zv.cells m ++ Builtin.zeroCells zv.cells (grownCap w (ys.length + m) c e - (ys.length + m))) e)) := by
    subst hve
    rw [← hi1] at hold
    simp [Builtin.append_, run_underlying hu1, run_underlying htn, sizeOf, typeInfo, zeroValue, hi, hi3, asInt, asIntOf, hw, hn, hneg, hns, h63', h48', h48i, Question.forced, hold, newRow, grownCap]
    try (constructor <;> omega)
  have hzt : (Builtin.zeroCells zv.cells m).toList = F.flat (List.replicate m a0) := by
    apply List.ext_getElem?
    intro j
    have hl : (Builtin.zeroCells zv.cells m).toList.length = m * F.sz := by simp [size_zeroCells, hzs]
    by_cases hj : j < m * F.sz
    · have hr : j % F.sz < F.sz := Nat.mod_lt _ hs0
      have hq : j / F.sz < m := (Nat.div_lt_iff_lt_mul hs0).2 hj
      have hcc : (F.enc a0)[j % F.sz]? = some ((F.enc a0)[j % F.sz]'(by rw [F.len]; exact hr)) := List.getElem?_eq_getElem _
      have hg := F.flat_get (xs := List.replicate m a0) (i := j / F.sz) (x := a0) (by simp [hq]) hcc
      rw [show j / F.sz * F.sz + j % F.sz = j by rw [Nat.mul_comm]; exact Nat.div_add_mod j F.sz] at hg
      rw [hg, List.getElem?_eq_getElem (by omega)]
      congr 1
      simp only [Builtin.zeroCells, Array.getElem_toList, Array.getElem_map, Array.getElem_range, hzs]
      have : (F.enc a0) = zv.cells.toList := by rw [hz, hi4]
      simp only [this, Array.getElem_toList]
      exact getElem!_pos _ _ (by rw [hzs]; exact hr)
    · rw [List.getElem?_eq_none (by omega), List.getElem?_eq_none (by rw [F.flat_len]; simp; omega)]
  have hsz : ((F.flat ys).toArray ++ Builtin.zeroCells zv.cells m ++ Builtin.zeroCells zv.cells (grownCap w (ys.length + m) c e - (ys.length + m))).toList.length = grownCap w (ys.length + m) c e * F.sz := by
    simp only [Array.length_toList, Array.size_append, List.size_toArray, size_zeroCells, hzs, F.flat_len, ← Nat.add_mul]
    congr 1; omega
  have htk : ((F.flat ys).toArray ++ Builtin.zeroCells zv.cells m ++ Builtin.zeroCells zv.cells (grownCap w (ys.length + m) c e - (ys.length + m))).toList.take ((ys.length + m) * F.sz) = F.flat ys ++ F.flat (List.replicate m a0) := by
    simp only [Array.toList_append, hzt]
    refine List.take_left' ?_
    simp [F.flat_len, Nat.add_mul]
  refine ⟨.slice (some ⟨w.heap.size, 0, none⟩) (ys.length + m) (grownCap w (ys.length + m) c e), G, blk w.heap.size e ((F.flat ys).toArray ++ Builtin.zeroCells zv.cells m ++ Builtin.zeroCells zv.cells (grownCap w (ys.length + m) c e - (ys.length + m))).toList :: L, w.drew.alloc (.cells ((F.flat ys).toArray ++ Builtin.zeroCells zv.cells m ++ Builtin.zeroCells zv.cells (grownCap w (ys.length + m) c e - (ys.length + m))) e), by simp [execOp, ho, resolve, invoke, builtin, hx, hy, hr], ?_, k _ _ _ (by simpa using hge) hcm hsz htk⟩
  exact (hs.draw (w' := w.drew) rfl ⟨rfl, rfl, rfl, Nat.le_succ _⟩).new (by exact ⟨rfl, rfl, rfl, Nat.le_refl _⟩) (wh_push w.drew _) (fun h hh => by unfold blk; rw [Array.toArray_toList]; exact hh)
theorem PV.capC {m c : Nat} {a : Option Addr} (ho : o.op = .call { callee := .builtin .cap, args := #[x], argTypes := #[t] }) {e : TypeId} (hu : P.underlying t = some (.slice e)) (hx : ev σ x = .slice a m c) : PV P o σ G L (.int .i64 c) := by
  intro w hw
  simp [execOp, ho, resolve, invoke, builtin, hx, Builtin.cap_, run_underlying hu, goInt]
theorem PV.lenC {m c : Nat} {a : Option Addr} (ho : o.op = .call { callee := .builtin .len, args := #[x], argTypes := #[t] }) {e : TypeId} (hu : P.underlying t = some (.slice e)) (hx : ev σ x = .slice a m c) : PV P o σ G L (.int .i64 m) := by
  intro w hw
  simp [execOp, ho, resolve, invoke, builtin, hx, Builtin.len_, run_underlying hu, goInt]
/-- a part of an opened slice, up to its capacity -/
theorem PV.slcB {b m c l h s : Nat} {lo hi : Option Operand} {e : TypeId} (ho : o.op = .slice t x lo hi none) (hI : IdxS P t e s) (hx : ev σ x = .slice (some ⟨b, 0, none⟩) m c) (hlo : optAt σ lo 0 l) (hhi : optAt σ hi m h) (h1 : l ≤ h) (h2 : h ≤ c) (h3 : l < c) : PV P o σ G L (.slice (some ⟨b, l * s, none⟩) (h - l) (c - l)) := by
  obtain ⟨hu, hi'⟩ := hI
  obtain ⟨inf, hh3, rfl⟩ := info_size hi'
  clear hi'
  intro w hw
  have hbd : (Instr.sliceBounds true m c (lo.map (ev σ)) (hi.map (ev σ)) none).run P w = .ok (l, h, c) w := by
    cases lo with
    | none =>
      have hlo : l = 0 := hlo
      subst hlo
      cases hi with
      | none => have hhi : h = m := hhi; subst hhi; simp [Instr.sliceBounds, h2]
      | some y => obtain ⟨k, hy⟩ := hhi; simp [Instr.sliceBounds, Instr.sliceBound, hy, asIntOf, h2]
    | some x' =>
      obtain ⟨k', hx'⟩ := hlo
      cases hi with
      | none => have hhi : h = m := hhi; subst hhi; simp [Instr.sliceBounds, Instr.sliceBound, hx', asIntOf, h1, h2]
      | some y => obtain ⟨k, hy⟩ := hhi; simp [Instr.sliceBounds, Instr.sliceBound, hy, hx', asIntOf, h2, h1]
  have hne : ¬ c = l := by omega
  simp [execOp, ho, hx, Instr.sliceAt, run_underlying hu, Instr.slice, hbd, sizeOf, typeInfo, hh3, hne, Addr.add]
  exact fun h => h.symm
/-- what stands in a block, as a copy reads it -/
theorem src_blk {b k : Nat} {e : TypeId} {cs vs : List Value} {L' : List Ch} [hX : ExB b L e cs L'] (h : ∀ j c, vs[j]? = some c → cs[k + j]? = some c) : ∀ w, St G L w → ∀ j c, vs[j]? = some c → w.cell? ⟨b, k + j, none⟩ = some c := fun w hs j c hj =>
  Rd.blk (hx := hX) (h j c hj) w hs
theorem take_get {cs A : List Value} {n j : Nat} {c : Value} (h : cs.take n = A) (hj : A[j]? = some c) : cs[j]? = some c := by
  rw [← h, List.getElem?_take] at hj
  split at hj
  · exact hj
  · simp at hj
theorem all_flat {α : Type} {F : FT α} {xs : List α} (h : ∀ a, allOne (F.enc a) = true) : allOne (F.flat xs) = true := by
  induction xs with
  | nil => rfl
  | cons x xs ih =>
    have e : F.flat (x :: xs) = F.enc x ++ F.flat xs := by simp [FT.flat]
    rw [e]
    simp only [allOne, List.all_append, Bool.and_eq_true] at h ih ⊢
    exact ⟨h x, ih⟩
theorem blk_ne {b b2 : Nat} {e e2 : TypeId} {cs cs2 : List Value} {w : World} (h : St G (blk b e cs :: blk b2 e2 cs2 :: L) w) : b2 ≠ b := fun hh => by
  subst hh
  obtain ⟨hp, s, -⟩ := h
  obtain ⟨g1, g2, d1, -, -, c1, s1⟩ := (Ex.head (blk b2 e cs) (blk b2 e2 cs2 :: L)).sep s
  obtain ⟨g3, g4, -, m3, -, c3, -⟩ := (Ex.head (blk b2 e2 cs2) L).sep s1
  have h1 : g1 b2 = some _ := c1
  have h2 : g3 b2 = some _ := c3
  have h3 := m3 _ _ h2
  rcases d1 b2 with h | h
  · rw [h1] at h; cases h
  · rw [h3] at h; cases h
theorem spl_eq {cs vs : List Value} {k : Nat} (h : k + vs.length ≤ cs.length) : splice cs k vs = cs.take k ++ vs ++ cs.drop (k + vs.length) := by
  apply List.ext_getElem?
  intro j
  rw [splice_get _ _ _ _ h]
  have hk : (cs.take k).length = k := by simp; omega
  by_cases h1 : j < k
  · rw [if_neg (by omega), List.append_assoc, List.getElem?_append_left (by omega), List.getElem?_take, if_pos h1]
  · by_cases h2 : j < k + vs.length
    · rw [if_pos ⟨by omega, h2⟩, List.getElem?_append_left (by simp; omega), List.getElem?_append_right (by omega), hk]
    · rw [if_neg (by omega), List.getElem?_append_right (by simp; omega), List.getElem?_drop]
      congr 1; simp; omega
theorem spl_grow {cs A B : List Value} {k a : Nat} (hA : A.length = a) (h : k + a + B.length ≤ cs.length) : (splice (splice cs k A) (k + a) B).take (k + a + B.length) = cs.take k ++ A ++ B := by
  subst hA
  rw [spl_eq (vs := B) (by rw [splice_length]; exact h), spl_eq (vs := A) (by omega)]
  have e : (cs.take k ++ A).length = k + A.length := by simp; omega
  rw [List.take_left' (l₁ := List.take (k + A.length) (cs.take k ++ A ++ cs.drop (k + A.length)) ++ B) (by simp; omega), List.take_left' e]
theorem spl_room {cs A B : List Value} {k a : Nat} (hA : A.length = a) (h : k + a + B.length ≤ cs.length) : (splice (splice cs (k + a) B) k A).take (k + a + B.length) = cs.take k ++ A ++ B := by
  subst hA
  rw [spl_eq (vs := A) (by rw [splice_length]; omega), spl_eq (vs := B) (by omega)]
  have e0 : (cs.take (k + A.length)).length = k + A.length := by simp; omega
  have e1 : (cs.take (k + A.length) ++ B ++ cs.drop (k + A.length + B.length)).take k = cs.take k := by
    rw [List.append_assoc, List.take_append_of_le_length (by omega), List.take_take, Nat.min_eq_left (by omega)]
  have e2 : (cs.take (k + A.length) ++ B ++ cs.drop (k + A.length + B.length)).drop (k + A.length) = B ++ cs.drop (k + A.length + B.length) := by
    rw [List.append_assoc, List.drop_left' e0]
  rw [e1, e2, ← List.append_assoc]
  exact List.take_left' (by simp; omega)
/-- the entry slices.overlaps at two slices in two blocks -/
theorem OT.apart {f : FuncId} {fn : Func} {l : List Operand} {ats : Array TypeId} {tS tR e : TypeId} {a b la ca lb cb oa ob s : Nat} {tA tB : TypeId} {ca' cb' : List Value} {L' L'' : List Ch} (ho : o.op = .call { callee := .value (.func f), args := l.toArray, argTypes := ats }) (hf : P.funcs[f]? = some fn) (hname : (fn.name == "runtime.NumGoroutine") = false) (hb : fn.body.isNone = true) (hn : Extern.findNext fn = none)
    (he : Extern.find fn = some (Extern.SlicesOverlaps.overlaps #[tS, tS] #[tR])) (hI : IdxS P tS e s) (hl : cargs σ l = [.slice (some ⟨a, oa, none⟩) la ca, .slice (some ⟨b, ob, none⟩) lb cb])
    [hA : ExB a L tA ca' L'] [hB : ExB b L tB cb' L''] (hne : a ≠ b) (h0 : 0 < cb'.length) (k : K (updo σ o.dst (.bool false)) G L) : OT P n o σ G L K := by
  obtain ⟨ht, hi'⟩ := hI
  obtain ⟨inf, hh3, rfl⟩ := info_size hi'
  have hS : ∀ w, (sizeOf e).run P w = .ok inf.size w := fun w => by simp [sizeOf, typeInfo, hh3]
  refine OT.ofRun fun w hs => ⟨.bool false, G, L, w, ?_, hs, k⟩
  have h1 := blk_wh (hX := hA) hs
  have h2 := blk_wh (hX := hB) hs
  have h1' : w.heap[a]? = some (.cells ca'.toArray tA (0, 0)) := h1
  have h2' : w.heap[b]? = some (.cells cb'.toArray tB (0, 0)) := h2
  have hr := Lib.run_overlaps_apart (P := P) w tS tR e ht inf.size hS ⟨a, oa, none⟩ ⟨b, ob, none⟩ la ca lb cb hne tA tB ca'.length cb'.length (by simp [World.shape?, h1']) (by simp [World.shape?, h2']) (by omega) (by simp [World.frozen?, h1']) (by simp [World.frozen?, h1'])
  have hc := run_callFunc_extern (P := P) hf hname hb hn he #[.slice (some ⟨a, oa, none⟩) la ca, .slice (some ⟨b, ob, none⟩) lb cb] w
  rw [hr] at hc
  rw [cargs_map] at hl
  simp [execOp, ho, resolve, ev, Deferred.ofValue, invoke, hl, hc]
end Go.Proofs.YtpjajhjcbcfplaaGreat
namespace Go.Proofs.YtpjajhjcbcfplaaGreat
set_option linter.unusedVariables false
set_option linter.unusedSimpArgs false
open Go
set_option maxRecDepth 20000
set_option maxHeartbeats 2000000
set_option linter.unusedSimpArgs false
variable {G : Gh} {L : List Ch} {R : Value → Gh → List Ch → Prop}
theorem one_waiver (xs : List Waiver) : allOne (waiverT.flat xs) = true := all_flat fun _ => rfl
theorem take_pre {cs A B : List Value} {n k : Nat} (h : cs.take n = A ++ B) (hk : A.length = k) (hn : k ≤ n) : cs.take k = A := by
  rw [show cs.take k = (cs.take n).take k by rw [List.take_take, Nat.min_eq_left hn], h, List.take_left' hk]
theorem insW_mid {b cap cap2 b2 i : Nat} {cs cs2 : List Value} {ws : List Waiver} {w : Waiver} (hi : i < ws.length) (hl : ws.length ≤ 1000) (c1 : ws.length ≤ cap) (c2 : cap ≤ maxLen) (c3 : cs.length = cap * 2) (c4 : cs.take (ws.length * 2) = waiverT.flat ws) (d1 : 1 ≤ cap2) (d3 : cs2.length = cap2 * 2) (d4 : cs2.take (1 * 2) = waiverT.flat [w])
    (k : ∀ v', R v' G (osl 67 waiverT v' (ws.take i ++ [w] ++ ws.drop i) :: L)) : CallT Tryz.prog 80 #[.slice (some ⟨b, 0, none⟩) ws.length cap, vi i, .slice (some ⟨b2, 0, none⟩) 1 cap2] G (blk b 67 cs :: blk b2 67 cs2 :: L) R := by
  refine CallT.st (fun w hs => blk_ne hs) fun hne => ?_
  have hti : (ws.take i).length = i := by simp; omega
  have e0 : cs.take (i * 2) = waiverT.flat (ws.take i) := by rw [FT.flat_take, ← c4, List.take_take, Nat.min_eq_left (by show i * 2 ≤ ws.length * 2; omega)]
  have e1 : cs.take ((ws.take i).length * 2) = waiverT.flat (ws.take i) := by rw [hti, e0]
  have lA : (waiverT.flat [w]).length = 2 := rfl
  have lB : (waiverT.flat (ws.drop i)).length = (ws.length - i) * 2 := by rw [FT.flat_len, List.length_drop]
  have sA : ∀ j c, (waiverT.flat [w])[j]? = some c → cs2[0 + j]? = some c := fun j c h => by rw [Nat.zero_add]; exact take_get d4 h
  have sB : ∀ j c, (waiverT.flat (ws.drop i))[j]? = some c → cs[i * 2 + j]? = some c := fun j c h => by
    rw [FT.flat_drop, List.getElem?_drop] at h
    exact take_get c4 h
  have hfl : waiverT.flat (ws.take i ++ [w] ++ ws.drop i) = waiverT.flat (ws.take i) ++ waiverT.flat [w] ++ waiverT.flat (ws.drop i) := by simp [FT.flat]
  have hln : (ws.take i ++ [w] ++ ws.drop i).length = ws.length + 1 := by simp; omega
  have h2 : (ws.take i ++ [w] ++ ws.drop i).length * 2 = i * 2 + 2 + (waiverT.flat (ws.drop i)).length := by rw [hln, lB]; omega
  refine CallT.enter (args := _) Tryz.func80 rfl rfl (by kernel_rfl) rfl ?_
  refine WP.seq ?_
  refine WP.region ?_
  refine RG.pv rfl (PV.asg rfl rfl) ?_
  refine RG.nil ?_
  refine WP.seq ?_
  refine WP.region ?_
  refine RG.pv rfl (PV.move rfl rfl) ?_
  refine RG.pv rfl (PV.mvI (.inl rfl) rfl) ?_
  refine RG.pv rfl (PV.slcB (l := i) (h := ws.length) rfl Is56 rfl (optAt.s rfl rfl) optAt.n (by omega) c1 (by omega)) ?_
  refine RG.nil ?_
  refine WP.seq ?_
  refine WP.region ?_
  refine RG.pv rfl (PV.move rfl rfl) ?_
  refine RG.pv rfl (PV.lenC rfl Tryz.underlying56 rfl) ?_
  refine RG.pv rfl (PV.mvI (.inr rfl) rfl) ?_
  refine RG.nil ?_
  refine WP.seq ?_
  refine WP.seq ?_
  refine WP.region ?_
  refine RG.pv rfl (PV.mvI (.inl rfl) rfl) ?_
  refine RG.pv rfl (PV.eql rfl rfl rfl) ?_
  refine RG.nil ?_
  refine WP.cond rfl (fun h3 => ?_) (fun h3 => ?_)
  · simp at h3
  · refine WP.skip ?_
    refine WP.seq ?_
    refine WP.region ?_
    refine RG.pv rfl (PV.move rfl rfl) ?_
    refine RG.pv rfl (PV.lenC rfl Tryz.underlying56 rfl) ?_
    refine RG.pv rfl (PV.mvI (.inr rfl) rfl) ?_
    refine RG.nil ?_
    refine WP.seq ?_
    refine WP.seq ?_
    refine WP.region ?_
    refine RG.pv rfl (PV.mvI (.inl rfl) rfl) ?_
    refine RG.pv rfl (PV.mvI (.inl rfl) rfl) ?_
    refine RG.pv rfl (PV.eql rfl rfl rfl) ?_
    refine RG.nil ?_
    refine WP.cond rfl (fun h4 => ?_) (fun h4 => ?_)
    · simp at h4; omega
    · refine WP.skip ?_
      refine WP.seq ?_
      refine WP.seq ?_
      refine WP.region ?_
      refine RG.pv rfl (PV.mvI (.inl rfl) rfl) ?_
      refine RG.pv rfl (PV.mvI (.inl rfl) rfl) ?_
      refine RG.pv rfl (PV.add rfl rfl rfl (by omega)) ?_
      refine RG.pv rfl (PV.move rfl rfl) ?_
      refine RG.pv rfl (PV.capC rfl Tryz.underlying56 rfl) ?_
      refine RG.pv rfl (PV.gtr rfl rfl rfl) ?_
      refine RG.nil ?_
      refine WP.cond rfl (fun h5 => ?_) (fun h5 => ?_)
      · have h5 := of_decide_eq_true h5
        refine WP.seq ?_
        refine WP.region ?_
        refine RG.pv rfl (PV.move rfl rfl) ?_
        refine RG.pv rfl (PV.mvI (.inl rfl) rfl) ?_
        refine RG.pv rfl (PV.slcC (h := i) rfl Is56 rfl rfl rfl (by omega)) ?_
        refine RG.pv rfl (PV.mvI (.inl rfl) rfl) ?_
        refine RG.pv rfl (PV.mvI (.inl rfl) rfl) ?_
        refine RG.pv rfl (PV.add rfl rfl rfl (by omega)) ?_
        refine RG.pv rfl (PV.mvI (.inl rfl) rfl) ?_
        refine RG.pv rfl (PV.sub rfl rfl rfl (by omega)) ?_
        refine RG.ot rfl (OT.appendMake (F := waiverT) (a0 := default) (ys := ws.take i) (m := ws.length + 1 - i) rfl El56 Tryz.underlying3 rfl (by decide) rfl (Rs.blk (e := 67) hti.symm (by omega) c2 c3 e1) rfl (by omega) (by show cap < _; omega) rfl (by omega) fun b3 cap3 cs3 p1 p2 p3 p4 => ?_)
        refine RG.pv rfl (PV.asg rfl rfl) ?_
        refine RG.nil ?_
        refine WP.seq ?_
        refine WP.region ?_
        refine RG.pv rfl (PV.move rfl rfl) ?_
        refine RG.pv rfl (PV.mvI (.inl rfl) rfl) ?_
        refine RG.pv rfl (PV.slcB (l := i) rfl Is56 rfl (optAt.s rfl rfl) optAt.n (by omega) (by omega) (by omega)) ?_
        refine RG.pv rfl (PV.move rfl rfl) ?_
        refine RG.ot rfl (OT.copy (vs := waiverT.flat [w]) (q := 1) rfl Is56 rfl rfl (by omega) rfl (src_blk (b := b2) sA) (one_waiver _) (by rw [lA, show cs3.length = cap3 * 2 from p3]; omega) ?_)
        refine RG.nil ?_
        refine WP.seq ?_
        refine WP.regionHD [.b b3] (.q 0 (.q 1 (.q 2 (.q 3 (.q 4 (.q 5 (.q 6 (.q 7 (.l 8 Sch.nil))))))))) (by kernel_rfl) (by kernel_rfl) (by kernel_rfl) rfl ?_
        refine RH.pv rfl (fun _ _ _ _ h => h) (Gh.le_refl _) PickC.pick rfl (PV.move rfl rfl) ?_
        refine RH.pv rfl (fun _ _ _ _ h => h) (Gh.le_refl _) PickC.pick rfl (PV.mvI (.inl rfl) rfl) ?_
        refine RH.pv rfl (fun _ _ _ _ h => h) (Gh.le_refl _) PickC.pick rfl (PV.mvI (.inl rfl) rfl) ?_
        refine RH.pv rfl (fun _ _ _ _ h => h) (Gh.le_refl _) PickC.pick rfl (PV.add rfl rfl rfl (by omega)) ?_
        refine RH.pv rfl (fun _ _ _ _ h => h) (Gh.le_refl _) PickC.pick rfl (PV.slcB (l := i + 1) rfl Is56 rfl (optAt.s rfl rfl) optAt.n (by omega) (by omega) (by omega)) ?_
        refine RH.pv rfl (fun _ _ _ _ h => h) (Gh.le_refl _) PickC.pick rfl (PV.move rfl rfl) ?_
        refine RH.pv rfl (fun _ _ _ _ h => h) (Gh.le_refl _) PickC.pick rfl (PV.mvI (.inl rfl) rfl) ?_
        refine RH.pv rfl (fun _ _ _ _ h => h) (Gh.le_refl _) PickC.pick rfl (PV.slcB (l := i) rfl Is56 rfl (optAt.s rfl rfl) optAt.n (by omega) (by omega) (by omega)) ?_
        refine RH.ot rfl rfl (OT.copy (vs := waiverT.flat (ws.drop i)) (q := ws.length - i) rfl Is56 rfl rfl (by omega) lB (src_blk (b := b) sB) (one_waiver _) (by rw [lB, splice_length, show cs3.length = cap3 * 2 from p3]; omega) ⟨Gh.le_refl _, PickC.pick, ?_⟩)
        refine RH.nil ?_
        refine WP.seq ?_
        refine WP.region ?_
        refine RG.pv rfl (PV.move rfl rfl) ?_
        refine RG.pv rfl (PV.asg rfl rfl) ?_
        refine RG.nil ?_
        refine WP.ret ?_
        exact ⟨_, _, ResV.one rfl rfl, (Cv.closeS (F := waiverT) (m := (ws.take i).length + (ws.length + 1 - i)) (xs := ws.take i ++ [w] ++ ws.drop i) (by rw [hln, hti]; omega) (by rw [hln]; omega) p2 (by rw [splice_length, splice_length]; exact p3) (by rw [h2, hfl, show (i + 1) * 2 = i * 2 + 2 by omega, spl_grow lA (by rw [lB, show cs3.length = cap3 * 2 from p3]; omega), take_pre p4 (by rw [FT.flat_len, hti]) (Nat.mul_le_mul_right 2 (by omega))])).trans Cv.p, k (.slice (some ⟨b3, 0, none⟩) ((ws.take i).length + (ws.length + 1 - i)) cap3)⟩
      · have h5 := of_decide_eq_false h5
        refine WP.skip ?_
        refine WP.seq ?_
        refine WP.region ?_
        refine RG.pv rfl (PV.move rfl rfl) ?_
        refine RG.pv rfl (PV.mvI (.inl rfl) rfl) ?_
        refine RG.pv rfl (PV.mvI (.inl rfl) rfl) ?_
        refine RG.pv rfl (PV.add rfl rfl rfl (by omega)) ?_
        refine RG.pv rfl (PV.slcC (h := ws.length + 1) rfl Is56 rfl rfl rfl (by omega)) ?_
        refine RG.pv rfl (PV.asg rfl rfl) ?_
        refine RG.nil ?_
        refine WP.seq ?_
        refine WP.seq ?_
        refine WP.region ?_
        refine RG.pv rfl (PV.move rfl rfl) ?_
        refine RG.pv rfl (PV.move rfl rfl) ?_
        refine RG.pv rfl (PV.mvI (.inl rfl) rfl) ?_
        refine RG.pv rfl (PV.mvI (.inl rfl) rfl) ?_
        refine RG.pv rfl (PV.add rfl rfl rfl (by omega)) ?_
        refine RG.pv rfl (PV.slcB (l := i + 1) rfl Is56 rfl (optAt.s rfl rfl) optAt.n (by omega) (by omega) (by omega)) ?_
        refine RG.ot rfl (OT.apart (tR := 4) rfl Tryz.func137 (by kernel_rfl) (by kernel_rfl) (by kernel_rfl) (by kernel_rfl) Is56 rfl hne (by omega) ?_)
        refine RG.pv rfl (PV.not rfl rfl) ?_
        refine RG.nil ?_
        refine WP.cond rfl (fun h6 => ?_) (fun h6 => ?_)
        · refine WP.seq ?_
          refine WP.regionHD [.b b] (.q 0 (.q 1 (.q 2 (.q 3 (.q 4 (.q 5 (.q 6 (.q 7 (.l 8 Sch.nil))))))))) (by kernel_rfl) (by kernel_rfl) (by kernel_rfl) rfl ?_
          refine RH.pv rfl (fun _ _ _ _ h => h) (Gh.le_refl _) PickC.pick rfl (PV.move rfl rfl) ?_
          refine RH.pv rfl (fun _ _ _ _ h => h) (Gh.le_refl _) PickC.pick rfl (PV.mvI (.inl rfl) rfl) ?_
          refine RH.pv rfl (fun _ _ _ _ h => h) (Gh.le_refl _) PickC.pick rfl (PV.mvI (.inl rfl) rfl) ?_
          refine RH.pv rfl (fun _ _ _ _ h => h) (Gh.le_refl _) PickC.pick rfl (PV.add rfl rfl rfl (by omega)) ?_
          refine RH.pv rfl (fun _ _ _ _ h => h) (Gh.le_refl _) PickC.pick rfl (PV.slcB (l := i + 1) rfl Is56 rfl (optAt.s rfl rfl) optAt.n (by omega) (by omega) (by omega)) ?_
          refine RH.pv rfl (fun _ _ _ _ h => h) (Gh.le_refl _) PickC.pick rfl (PV.move rfl rfl) ?_
          refine RH.pv rfl (fun _ _ _ _ h => h) (Gh.le_refl _) PickC.pick rfl (PV.mvI (.inl rfl) rfl) ?_
          refine RH.pv rfl (fun _ _ _ _ h => h) (Gh.le_refl _) PickC.pick rfl (PV.slcB (l := i) rfl Is56 rfl (optAt.s rfl rfl) optAt.n (by omega) (by omega) (by omega)) ?_
          refine RH.ot rfl rfl (OT.copy (vs := waiverT.flat (ws.drop i)) (q := ws.length - i) rfl Is56 rfl rfl (by omega) lB (src_blk (b := b) sB) (one_waiver _) (by rw [lB]; omega) ⟨Gh.le_refl _, PickC.pick, ?_⟩)
          refine RH.nil ?_
          refine WP.seq ?_
          refine WP.region ?_
          refine RG.pv rfl (PV.move rfl rfl) ?_
          refine RG.pv rfl (PV.mvI (.inl rfl) rfl) ?_
          refine RG.pv rfl (PV.slcB (l := i) rfl Is56 rfl (optAt.s rfl rfl) optAt.n (by omega) (by omega) (by omega)) ?_
          refine RG.pv rfl (PV.move rfl rfl) ?_
          refine RG.ot rfl (OT.copy (vs := waiverT.flat [w]) (q := 1) rfl Is56 rfl rfl (by omega) rfl (src_blk (b := b2) sA) (one_waiver _) (by rw [lA, splice_length]; omega) ?_)
          refine RG.nil ?_
          refine WP.seq ?_
          refine WP.region ?_
          refine RG.pv rfl (PV.move rfl rfl) ?_
          refine RG.pv rfl (PV.asg rfl rfl) ?_
          refine RG.nil ?_
          refine WP.ret ?_
          exact ⟨_, _, ResV.one rfl rfl, (Cv.closeS (F := waiverT) (m := ws.length + 1) (xs := ws.take i ++ [w] ++ ws.drop i) (by rw [hln]) (by rw [hln]; omega) c2 (by rw [splice_length, splice_length]; exact c3) (by rw [h2, hfl, show (i + 1) * 2 = i * 2 + 2 by omega, spl_room lA (by rw [lB]; omega), e0])).trans Cv.p, k (.slice (some ⟨b, 0, none⟩) (ws.length + 1) cap)⟩
        · simp at h6
end Go.Proofs.YtpjajhjcbcfplaaGreat
namespace Go.Proofs.YtpjajhjcbcfplaaGreat
set_option linter.unusedVariables false
set_option linter.unusedSimpArgs false
open Go
set_option maxRecDepth 20000
set_option linter.unusedSimpArgs false
variable {G : Gh} {L : List Ch} {R : Value → Gh → List Ch → Prop}
theorem insW_end {v u : Value} {ws : List Waiver} {w : Waiver} (hl : ws.length ≤ 1000) (k : ∀ v', R v' G (osl 67 waiverT v' (ws ++ [w]) :: L)) : CallT Tryz.prog 80 #[v, vi ws.length, u] G (osl 67 waiverT v ws :: osl 67 waiverT u [w] :: L) R := by
  refine CallT.enter (args := _) Tryz.func80 rfl rfl (by kernel_rfl) rfl ?_
  refine WP.seq ?_
  refine WP.region ?_
  refine RG.pv rfl (PV.asg rfl rfl) ?_
  refine RG.nil ?_
  refine WP.seq ?_
  refine WP.region ?_
  refine RG.pv rfl (PV.move (v := v) rfl rfl) ?_
  refine RG.pv rfl (PV.mvI (.inl rfl) rfl) ?_
  refine RG.pv rfl (PV.slc (v := v) rfl Is56 rfl SlF.o (optAt.s rfl rfl) optAt.n (by omega) (by omega)) ?_
  refine RG.nil ?_
  refine WP.seq ?_
  refine WP.region ?_
  refine RG.pv rfl (PV.move (v := u) rfl rfl) ?_
  refine RG.pv rfl (PV.len (v := u) rfl Tryz.underlying56 rfl SlF.o) ?_
  refine RG.pv rfl (PV.mvI (.inr rfl) rfl) ?_
  refine RG.nil ?_
  refine WP.seq ?_
  refine WP.seq ?_
  refine WP.region ?_
  refine RG.pv rfl (PV.mvI (.inl rfl) rfl) ?_
  refine RG.pv rfl (PV.eql rfl rfl rfl) ?_
  refine RG.nil ?_
  refine WP.cond rfl (fun h3 => ?_) (fun h3 => ?_)
  · simp at h3
  · refine WP.skip ?_
    refine WP.seq ?_
    refine WP.region ?_
    refine RG.pv rfl (PV.move (v := v) rfl rfl) ?_
    refine RG.pv rfl (PV.len (v := v) rfl Tryz.underlying56 rfl SlF.o) ?_
    refine RG.pv rfl (PV.mvI (.inr rfl) rfl) ?_
    refine RG.nil ?_
    refine WP.seq ?_
    refine WP.seq ?_
    refine WP.region ?_
    refine RG.pv rfl (PV.mvI (.inl rfl) rfl) ?_
    refine RG.pv rfl (PV.mvI (.inl rfl) rfl) ?_
    refine RG.pv rfl (PV.eql rfl rfl rfl) ?_
    refine RG.nil ?_
    refine WP.cond rfl (fun h4 => ?_) (fun h4 => ?_)
    · refine WP.seq ?_
      refine WP.region ?_
      refine RG.pv rfl (PV.move (v := v) rfl rfl) ?_
      refine RG.pv rfl (PV.move (v := u) rfl rfl) ?_
      refine RG.ot rfl (OT.append (v := v) (u := u) (F := waiverT) rfl El56 rfl (by decide) rfl rfl Rs.o (OneL.c (fun _ => rfl)) rfl (by first | omega | (simp <;> omega)) fun v25 => ?_)
      refine RG.pv rfl (PV.asg (v := v25) rfl rfl) ?_
      refine RG.nil ?_
      refine WP.ret ?_
      exact ⟨_, _, ResV.one rfl rfl, Cv.p, k v25⟩
    · simp at h4
theorem insW_s {v u : Value} {ws : List Waiver} {w : Waiver} {i : Nat} (hi : i ≤ ws.length) (hl : ws.length ≤ 1000) (k : ∀ v', R v' G (osl 67 waiverT v' (ws.take i ++ [w] ++ ws.drop i) :: L)) : CallT Tryz.prog 80 #[v, vi i, u] G (osl 67 waiverT v ws :: osl 67 waiverT u [w] :: L) R := by
  by_cases h : i = ws.length
  · subst h
    refine insW_end hl fun v' => ?_
    have := k v'
    rwa [List.take_length, List.drop_length, List.append_nil] at this
  · refine CallT.openS (args := fun v => #[v, vi i, u]) (by omega) fun b cap cs c1 c2 c3 c4 => ?_
    refine CallT.cv (L' := osl 67 waiverT u [w] :: blk b 67 cs :: L) Cv.p ?_
    refine CallT.openS (args := fun u => #[.slice (some ⟨b, 0, none⟩) ws.length cap, vi i, u]) (by simp) fun b2 cap2 cs2 d1 d2 d3 d4 => ?_
    refine CallT.cv (L' := blk b 67 cs :: blk b2 67 cs2 :: L) Cv.p ?_
    exact insW_mid (by omega) hl c1 c2 c3 c4 d1 d3 d4 k
/-- how many waivers stand before a signature -/
def lowN (ws : List Waiver) (n : Int) : Nat := (ws.takeWhile fun a => decide (a.sig < n)).length
theorem lowN_eq : ∀ {ws : List Waiver} {n : Int} {i : Nat}, i ≤ ws.length → (∀ j, j < i → (gd ws j).sig < n) → (i < ws.length → ¬ (gd ws i).sig < n) → lowN ws n = i
  | [], n, i, hi, _, _ => by simp at hi; subst hi; rfl
  | a :: ws, n, 0, _, _, h => by
    have h := h (by simp)
    have e : gd (a :: ws) 0 = a := by unfold gd; rfl
    rw [e] at h
    simp [lowN, h]
  | a :: ws, n, i + 1, hi, hj, h => by
    have e : ∀ j, gd (a :: ws) (j + 1) = gd ws j := fun j => by unfold gd; simp
    have e0 : gd (a :: ws) 0 = a := by unfold gd; rfl
    have h0 := hj 0 (by omega)
    rw [e0] at h0
    have ih := lowN_eq (ws := ws) (n := n) (i := i) (by simp at hi; omega) (fun j hh => by have := hj (j + 1) (by omega); rwa [e] at this) (fun hh => by have := h (by simp; omega); rwa [e] at this)
    simp only [lowN] at ih ⊢
    simp [List.takeWhile_cons, h0, ih]
def insA (ws : List Waiver) (w : Waiver) : List Waiver := ws.take (lowN ws w.sig) ++ [w] ++ ws.drop (lowN ws w.sig)
theorem insA_at {ws : List Waiver} {w : Waiver} {i : Nat} (h1 : i ≤ ws.length) (h2 : ∀ j, j < i → (gd ws j).sig < w.sig) (h3 : i < ws.length → ¬ (gd ws i).sig < w.sig) : insA ws w = ws.take i ++ [w] ++ ws.drop i := by
  rw [insA, lowN_eq h1 h2 h3]
def awC (ws : List Waiver) (w : Waiver) : Int := bif !isWL ws || !validW w then 1 else bif hasW ws w.sig then 6 else bif decide (ws.length = 16) then 3 else 0
def awR (ws : List Waiver) (w : Waiver) : List Waiver := bif decide (awC ws w = 0) then insA ws w else []
theorem isWL_len {ws : List Waiver} (h : isWL ws = true) : ws.length ≤ 16 := by
  simp only [isWL, Bool.and_eq_true, decide_eq_true_eq] at h; exact h.1
theorem clone_waivers {v : Value} {xs : List (Waiver)} (h1 : Rs G L waiverT v xs) (hb : xs.length ≤ 1048576) (k : ∀ v', R v' G (osl 67 waiverT v' xs :: L)) : CallT Tryz.prog 81 #[v] G L R := by
  refine CallT.st (fun w hs => isNilS_nil h1 hs) fun hn => ?_
  refine CallT.enter (args := _) Tryz.func81 rfl rfl (by kernel_rfl) rfl ?_
  refine WP.seq ?_
  refine WP.region ?_
  refine RG.pv rfl (PV.asg rfl rfl) ?_
  refine RG.nil ?_
  refine WP.seq ?_
  refine WP.seq ?_
  refine WP.region ?_
  refine RG.pv rfl (PV.move (v := v) rfl rfl) ?_
  refine RG.pv rfl (PV.eqlNil rfl Tryz.underlying56 rfl (SlF.r h1)) ?_
  refine RG.nil ?_
  refine WP.cond rfl (fun h2 => ?_) (fun h2 => ?_)
  · have e := hn h2
    rw [e] at k
    refine WP.seq ?_
    refine WP.region ?_
    refine RG.pv rfl (PV.asg rfl rfl) ?_
    refine RG.nil ?_
    refine WP.ret ?_
    exact ⟨_, _, ResV.one rfl rfl, Cv.nilS, k _⟩
  · refine WP.skip ?_
    refine WP.seq ?_
    refine WP.region ?_
    refine RG.ot rfl (OT.bslice (F := waiverT) (els := []) rfl El56 rfl (by decide) rfl (by decide) trivial fun v5 => ?_)
    refine RG.pv rfl (PV.move (v := v) rfl rfl) ?_
    refine RG.ot rfl (OT.append (v := v5) (u := v) (F := waiverT) rfl El56 rfl (by decide) rfl rfl (Rs.up h1) (OneL.c (fun _ => rfl)) rfl (by first | omega | (simp <;> omega)) fun v7 => ?_)
    refine RG.pv rfl (PV.asg (v := v7) rfl rfl) ?_
    refine RG.nil ?_
    refine WP.ret ?_
    exact ⟨_, _, ResV.one rfl rfl, (Cv.eqS (List.nil_append _)), k v7⟩
theorem addW_i {v : Value} {ws : List Waiver} {w : Waiver} (h1 : Rs G L waiverT v ws) (hlen : ∀ i, i < ws.length → (gd ws i).reason.size ≤ 9223372036854775807) (hs : w.reason.size ≤ 9223372036854775807) (k : ∀ v', R (.tuple #[v', vi (awC ws w)]) G (osl 67 waiverT v' (awR ws w) :: L)) : CallT Tryz.prog 32 #[v, vT waiverT w] G L R := by
  refine CallT.enter (args := _) Tryz.func32 rfl rfl (by kernel_rfl) rfl ?_
  refine WP.seq ?_
  refine WP.region ?_
  refine RG.ot rfl (OT.box (cs := waiverT.enc w) rfl rfl rfl fun b3 => ?_)
  refine RG.pv rfl (PV.asg rfl rfl) ?_
  refine RG.pv rfl (PV.mvI (.inr rfl) rfl) ?_
  refine RG.nil ?_
  refine WP.seq ?_
  refine WP.block ?_
  refine WP.seq ?_
  refine WP.region ?_
  refine RG.pv rfl (PV.move (v := v) rfl rfl) ?_
  refine RG.callF (vs := [v]) rfl rfl En77 rfl (isWL_s (Rs.up h1) hlen ?_)
  refine RG.pv rfl (PV.not rfl rfl) ?_
  refine RG.pv rfl (PV.mvB (.inl rfl) rfl) ?_
  refine RG.gs rfl rfl rfl (fun hp => (PV.loadW rfl Ag67 rfl rfl)) ?_
  refine RG.gsC rfl rfl rfl rfl En78 (fun hp => ⟨_, (acons (gs_t hp) anil), validWaiver_s hs ⟨rfl, rfl, rfl⟩⟩) ?_
  refine RG.gs rfl rfl rfl (fun hp => (PV.not rfl (gs_t hp))) ?_
  refine RG.pv rfl (PV.pickO rfl rfl rfl (fun hq => gs_t (geqF hq))) ?_
  refine RG.pv rfl (PV.mvB (.inr rfl) rfl) ?_
  refine RG.nil ?_
  refine WP.cond rfl (fun h2 => ?_) (fun h2 => ?_)
  · have h2' : (!isWL ws || !validW w) = true := by simpa using h2
    have e1 : awC ws w = 1 := by rw [awC, h2', cond_true]
    have e2 : awR ws w = [] := by rw [awR, e1]; rfl
    rw [e1, e2] at k
    refine WP.seq ?_
    refine WP.region ?_
    refine RG.pv rfl (PV.asg rfl rfl) ?_
    refine RG.pv rfl (PV.mvI (.inr rfl) rfl) ?_
    refine RG.nil ?_
    refine WP.ret ?_
    exact ⟨_, _, ResV.two rfl rfl rfl, (Cv.p (C := L)).trans Cv.nilS, k (.slice none 0 0)⟩
  · have h2' : (!isWL ws || !validW w) = false := by simpa using h2
    have hwl : isWL ws = true := by simp at h2'; exact h2'.1
    have hl := isWL_len hwl
    refine WP.seq ?_
    refine WP.region ?_
    refine RG.pv rfl (PV.move (v := v) rfl rfl) ?_
    refine RG.pv rfl (PV.field rfl Fo67_0 rfl) ?_
    refine RG.pv rfl (PV.load1 rfl Sc2 rfl (Rd.blk rfl)) ?_
    refine RG.callF (vs := [v, _]) rfl rfl En79 rfl (waives_s (Rs.up h1) ?_)
    refine RG.pv rfl (PV.mvB (.inr rfl) rfl) ?_
    refine RG.nil ?_
    refine WP.cond rfl (fun h3 => ?_) (fun h3 => ?_)
    · have e1 : awC ws w = 6 := by rw [awC, h2', cond_false, h3, cond_true]
      have e2 : awR ws w = [] := by rw [awR, e1]; rfl
      rw [e1, e2] at k
      refine WP.seq ?_
      refine WP.region ?_
      refine RG.pv rfl (PV.asg rfl rfl) ?_
      refine RG.pv rfl (PV.mvI (.inr rfl) rfl) ?_
      refine RG.nil ?_
      refine WP.ret ?_
      exact ⟨_, _, ResV.two rfl rfl rfl, (Cv.p (C := L)).trans Cv.nilS, k (.slice none 0 0)⟩
    · refine WP.seq ?_
      refine WP.region ?_
      refine RG.pv rfl (PV.move (v := v) rfl rfl) ?_
      refine RG.pv rfl (PV.len (v := v) rfl Tryz.underlying56 rfl (SlF.r h1)) ?_
      refine RG.pv rfl (PV.eql rfl rfl rfl) ?_
      refine RG.pv rfl (PV.mvB (.inr rfl) rfl) ?_
      refine RG.nil ?_
      refine WP.cond rfl (fun h4 => ?_) (fun h4 => ?_)
      · have h4' : ws.length = 16 := by simp at h4; omega
        have e1 : awC ws w = 3 := by rw [awC, h2', cond_false, h3, cond_false, decide_eq_true h4', cond_true]
        have e2 : awR ws w = [] := by rw [awR, e1]; rfl
        rw [e1, e2] at k
        refine WP.seq ?_
        refine WP.region ?_
        refine RG.pv rfl (PV.asg rfl rfl) ?_
        refine RG.pv rfl (PV.mvI (.inr rfl) rfl) ?_
        refine RG.nil ?_
        refine WP.ret ?_
        exact ⟨_, _, ResV.two rfl rfl rfl, (Cv.p (C := L)).trans Cv.nilS, k (.slice none 0 0)⟩
      · have h4' : ¬ ws.length = 16 := by simp at h4; omega
        have e1 : awC ws w = 0 := by rw [awC, h2', cond_false, h3, cond_false, decide_eq_false h4', cond_false]
        have e2 : awR ws w = insA ws w := by rw [awR, e1]; rfl
        rw [e1, e2] at k
        refine WP.skip ?_
        refine WP.seq ?_
        refine WP.region ?_
        refine RG.pv rfl (PV.mvI (.inr rfl) rfl) ?_
        refine RG.nil ?_
        refine WP.seq ?_
        refine WP.block ?_
        refine WP.loop1 [0, 3] (fun (i : Nat) => i ≤ ws.length ∧ ∀ j, j < i → (gd ws j).sig < w.sig) (fun (i : Nat) => [(6, vi i)]) (fun (i : Nat) => blk b3 67 (waiverT.enc w) :: L) (fun (i : Nat) => ws.length - i) 0 ⟨by omega, fun j h => by omega⟩ ⟨rfl, trivial⟩ Cv.p ?_
        rintro i τ ⟨hi, hj⟩
        refine WP.seq ?_
        refine WP.seq ?_
        refine WP.regionQ (by kernel_rfl) (by kernel_rfl) ?_
        refine RQ.pv rfl (PV.mvI (.inl rfl) rfl) ?_
        refine RQ.pv rfl (PV.move (v := v) rfl rfl) ?_
        refine RQ.pv rfl (PV.len (v := v) rfl Tryz.underlying56 rfl (SlF.r h1)) ?_
        refine RQ.pv rfl (PV.lss rfl rfl rfl) ?_
        refine RQ.pv rfl (PV.mvB (.inl rfl) rfl) ?_
        refine RQ.gs rfl rfl rfl (fun hp => (PV.move (v := v) rfl rfl)) ?_
        refine RQ.gs rfl rfl rfl (fun hp => (PV.mvI (.inl rfl) rfl)) ?_
        refine RQ.gs rfl rfl rfl (fun hp => (PV.idxS (v := v) rfl Is56 (gs_t hp) (SlF.r h1) (gs_t hp) rfl (by first | omega | (simp at hp; omega)))) ?_
        refine RQ.gs rfl rfl rfl (fun hp => (PV.field rfl Fo67_0 (gs_t hp))) ?_
        refine RQ.gs rfl rfl rfl (fun hp => (PV.loadF rfl Sc2 (gs_t hp) rfl (El.r h1 (getG (by first | omega | (simp at hp; omega)))) rfl)) ?_
        refine RQ.gs rfl rfl rfl (fun hp => (PV.field rfl Fo67_0 rfl)) ?_
        refine RQ.gs rfl rfl rfl (fun hp => (PV.load1 rfl Sc2 (gs_t hp) (Rd.blk rfl))) ?_
        refine RQ.gs rfl rfl rfl (fun hp => (PV.lss rfl (gs_t hp) (gs_t hp))) ?_
        refine RQ.pv rfl (PV.pickA rfl rfl (fun hq => gs_t (geqT hq)) rfl) ?_
        refine RQ.nil ?_
        refine WP.cond rfl (fun h5 => ?_) (fun h5 => ?_)
        · have h6 : i < ws.length := by simp at h5; omega
          have h7 : (gd ws i).sig < w.sig := by simp at h5; exact h5.2
          have hj' : ∀ j, j < i + 1 → (gd ws j).sig < w.sig := fun j h => by
            by_cases c : j = i
            · rw [c]; exact h7
            · exact hj j (by omega)
          refine WP.skip ?_
          refine WP.block ?_
          refine WP.region ?_
          refine RG.pv rfl (PV.mvI (.inl rfl) rfl) ?_
          refine RG.pv rfl (PV.add rfl rfl rfl (by omega)) ?_
          refine RG.pv rfl (PV.mvI (.inr rfl) rfl) ?_
          refine RG.nil ?_
          exact ⟨rfl, i + 1, ⟨by omega, hj'⟩, ⟨rfl, trivial⟩, ⟨rfl, rfl, trivial⟩, Cv.p, by omega⟩
        · have h6 : i < ws.length → ¬ (gd ws i).sig < w.sig := fun hh => by simp at h5; have := h5 (by omega); omega
          have e := insA_at (w := w) hi hj h6
          rw [e] at k
          refine WP.exit ?_
          refine WP.seq ?_
          refine WP.regionH0 (.q 0 (.q 2 (.q 3 (.b 1 (.l 4 (.l 5 (.q 6 (.q 7 Sch.nil)))) 4 (.l 1 (.l 5 (.q 6 (.q 7 Sch.nil)))))))) (by kernel_rfl) (by kernel_rfl) (by kernel_rfl) rfl ?_
          refine RH.pv rfl (fun _ _ _ _ h => h) (Gh.le_refl _) PickC.pick rfl (PV.move (v := v) rfl rfl) ?_
          refine RH.pv rfl (fun _ _ _ _ h => h) (Gh.le_refl _) PickC.pick rfl (PV.mvI (.inl rfl) rfl) ?_
          refine RH.pv rfl (fun _ _ _ _ h => h) (Gh.le_refl _) PickC.pick rfl (PV.loadW rfl Ag67 rfl rfl) ?_
          refine RH.ot2 rfl rfl rfl rfl (OT.callF (vs := [v]) rfl En81 rfl (clone_waivers (Rs.up h1) (by omega) (fun v42 => ⟨Gh.le_refl _, PickC.pick, ?_⟩))) (OT.bslice (F := waiverT) (els := [_]) rfl El56 rfl (by decide) rfl (by decide) ⟨rfl, (Cl.c rfl), trivial⟩ fun v45 => ⟨Gh.le_refl _, PickC.pick, ?_⟩)
          · refine RH.ot rfl rfl (OT.bslice (F := waiverT) (els := [_]) rfl El56 rfl (by decide) rfl (by decide) ⟨rfl, (Cl.c rfl), trivial⟩ fun v45 => ⟨Gh.le_refl _, PickC.pick, ?_⟩)
            refine RH.ot rfl rfl (OT.callF (vs := [v42, _, v45]) rfl En80 rfl (CallT.exS v45 (CallT.exS v42 (insW_s (by omega) (by omega) (fun v46 => ⟨Gh.le_refl _, PickC.pick, ?_⟩)))))
            refine RH.pv rfl (fun _ _ _ _ h => h) (Gh.le_refl _) PickC.pick rfl (PV.asg (v := v46) rfl rfl) ?_
            refine RH.pv rfl (fun _ _ _ _ h => h) (Gh.le_refl _) PickC.pick rfl (PV.mvI (.inr rfl) rfl) ?_
            refine RH.nil ?_
            refine WP.ret ?_
            exact ⟨_, _, ResV.two rfl rfl rfl, Cv.p, k v46⟩
          · refine RH.ot rfl rfl (OT.callF (vs := [v]) rfl En81 rfl (clone_waivers (Rs.up h1) (by omega) (fun v42 => ⟨Gh.le_refl _, PickC.pick, ?_⟩)))
            refine RH.ot rfl rfl (OT.callF (vs := [v42, _, v45]) rfl En80 rfl (CallT.exS v45 (CallT.exS v42 (insW_s (by omega) (by omega) (fun v46 => ⟨Gh.le_refl _, PickC.pick, ?_⟩)))))
            refine RH.pv rfl (fun _ _ _ _ h => h) (Gh.le_refl _) PickC.pick rfl (PV.asg (v := v46) rfl rfl) ?_
            refine RH.pv rfl (fun _ _ _ _ h => h) (Gh.le_refl _) PickC.pick rfl (PV.mvI (.inr rfl) rfl) ?_
            refine RH.nil ?_
            refine WP.ret ?_
            exact ⟨_, _, ResV.two rfl rfl rfl, Cv.p, k v46⟩
end Go.Proofs.YtpjajhjcbcfplaaGreat
namespace Go.Proofs.YtpjajhjcbcfplaaGreat
set_option linter.unusedVariables false
set_option linter.unusedSimpArgs false
open Go
set_option maxRecDepth 20000
set_option maxHeartbeats 4000000
set_option linter.unusedSimpArgs false
variable {G : Gh} {L : List Ch} {R : Value → Gh → List Ch → Prop}
theorem insA_cons (a : Waiver) (ws : List Waiver) (w : Waiver) : insA (a :: ws) w = if a.sig < w.sig then a :: insA ws w else w :: a :: ws := by
  unfold insA lowN
  by_cases h : a.sig < w.sig
  · rw [if_pos h]; simp [List.takeWhile_cons, h]
  · rw [if_neg h]; simp [List.takeWhile_cons, h]
theorem mem_insA {w b : Waiver} : ∀ {ws : List Waiver}, b ∈ insA ws w ↔ b = w ∨ b ∈ ws
  | [] => by simp [insA, lowN]
  | a :: ws => by
    rw [insA_cons]
    by_cases h : a.sig < w.sig
    · rw [if_pos h, List.mem_cons, mem_insA (ws := ws), List.mem_cons]
      constructor
      · rintro (h1 | h1 | h1)
        · exact .inr (.inl h1)
        · exact .inl h1
        · exact .inr (.inr h1)
      · rintro (h1 | h1 | h1)
        · exact .inr (.inl h1)
        · exact .inl h1
        · exact .inr (.inr h1)
    · rw [if_neg h, List.mem_cons]
theorem len_insA {w : Waiver} : ∀ {ws : List Waiver}, (insA ws w).length = ws.length + 1
  | [] => by simp [insA, lowN]
  | a :: ws => by
    rw [insA_cons]
    split
    · simp [len_insA (ws := ws)]
    · simp
theorem pair_insA {w : Waiver} : ∀ {ws : List Waiver}, ws.Pairwise (fun a b => a.sig < b.sig) → (∀ a ∈ ws, a.sig ≠ w.sig) → (insA ws w).Pairwise (fun a b => a.sig < b.sig)
  | [], _, _ => by simp [insA, lowN]
  | a :: ws, h, hne => by
    rw [insA_cons]
    rw [List.pairwise_cons] at h
    by_cases c : a.sig < w.sig
    · rw [if_pos c, List.pairwise_cons]
      refine ⟨fun b hb => ?_, pair_insA h.2 fun b hb => hne b (.tail _ hb)⟩
      rcases mem_insA.1 hb with rfl | hb
      · exact c
      · exact h.1 b hb
    · rw [if_neg c, List.pairwise_cons]
      have h1 := hne a (.head _)
      refine ⟨fun b hb => ?_, List.pairwise_cons.2 h⟩
      rcases List.mem_cons.1 hb with rfl | hb
      · omega
      · have := h.1 b hb; omega
theorem wl_iff {ws : List Waiver} : isWL ws = true ↔ ws.length ≤ 16 ∧ (∀ w ∈ ws, validW w = true) ∧ ws.Pairwise (fun a b => a.sig < b.sig) := by
  constructor
  · intro h
    simp only [isWL, Bool.and_eq_true, decide_eq_true_eq] at h
    refine ⟨h.1, fun w hw => ?_, ?_⟩
    · obtain ⟨i, hi, rfl⟩ := List.getElem_of_mem hw
      have := h.2 i hi
      simp only [wlAt, Bool.and_eq_true] at this
      rw [← gd_eq hi]; exact this.1
    · rw [List.pairwise_iff_getElem]
      have key : ∀ d i : Nat, i + d + 1 < ws.length → (gd ws i).sig < (gd ws (i + d + 1)).sig := fun d => by
        induction d with
        | zero =>
          intro i hi
          have := h.2 (i + 0 + 1) hi
          simp only [wlAt, Bool.and_eq_true, Bool.or_eq_true, decide_eq_true_eq] at this
          rcases this.2 with h1 | h1
          · omega
          · rwa [show i + 0 + 1 - 1 = i by omega] at h1
        | succ d ih =>
          intro i hi
          have h1 := ih i (by omega)
          have := h.2 (i + (d + 1) + 1) hi
          simp only [wlAt, Bool.and_eq_true, Bool.or_eq_true, decide_eq_true_eq] at this
          rcases this.2 with h2 | h2
          · omega
          · rw [show i + (d + 1) + 1 - 1 = i + d + 1 by omega] at h2; omega
      intro i j hi hj hij
      have := key (j - i - 1) i (by omega)
      rw [show i + (j - i - 1) + 1 = j by omega, gd_eq hi, gd_eq hj] at this
      exact this
  · rintro ⟨h1, h2, h3⟩
    simp only [isWL, Bool.and_eq_true, decide_eq_true_eq]
    refine ⟨h1, fun i hi => ?_⟩
    simp only [wlAt, Bool.and_eq_true, Bool.or_eq_true, decide_eq_true_eq]
    refine ⟨h2 _ (gd_mem hi), ?_⟩
    by_cases c : i = 0
    · exact .inl c
    · right
      rw [List.pairwise_iff_getElem] at h3
      have := h3 (i - 1) i (by omega) hi (by omega)
      rw [gd_eq (show i - 1 < ws.length by omega), gd_eq hi]; exact this
theorem hasW_iff {ws : List Waiver} {n : Int} : hasW ws n = true ↔ ∃ w ∈ ws, w.sig = n := by simp [hasW]
abbrev knW : ByteArray := ByteArray.mk #[107, 110, 111, 119, 110]
theorem kn_ok : reason knW = true := by decide +kernel
/-- the waivers of the first i violations -/
structure WI (rs : List Rule) (E : List (Int × List Rect)) (i : Nat) (ws : List Waiver) : Prop where
  wl : isWL ws = true
  all : ∀ j, j < i → hasW ws (sigA rs (gd E j)) = true
  used : ∀ w ∈ ws, usedW rs E w = true
theorem WI.nil {rs : List Rule} {E : List (Int × List Rect)} : WI rs E 0 [] := ⟨by simp [isWL], fun j h => by omega, fun w h => by cases h⟩
theorem WI.skip {rs : List Rule} {E : List (Int × List Rect)} {i : Nat} {ws : List Waiver} (h : WI rs E i ws) (hh : hasW ws (sigA rs (gd E i)) = true) : WI rs E (i + 1) ws := ⟨h.wl, fun j hj => by
  by_cases c : j = i
  · rw [c]; exact hh
  · exact h.all j (by omega), h.used⟩
theorem WI.add {rs : List Rule} {E : List (Int × List Rect)} {i : Nat} {ws : List Waiver} (h : WI rs E i ws) (hi : i < E.length) (hv : 0 ≤ sigA rs (gd E i) ∧ sigA rs (gd E i) < 2147483647) (hh : hasW ws (sigA rs (gd E i)) = false) (hl : ws.length ≠ 16) : WI rs E (i + 1) (insA ws ⟨sigA rs (gd E i), knW⟩) := by
  obtain ⟨h1, h2, h3⟩ := wl_iff.1 h.wl
  refine ⟨wl_iff.2 ⟨by rw [len_insA]; omega, fun w hw => ?_, pair_insA h3 fun a ha e => ?_⟩, fun j hj => ?_, fun w hw => ?_⟩
  · rcases mem_insA.1 hw with rfl | hw
    · rw [validW, kn_ok]; simp [within]; omega
    · exact h2 w hw
  · have : hasW ws (sigA rs (gd E i)) = true := hasW_iff.2 ⟨a, ha, e⟩
    rw [hh] at this; cases this
  · rw [hasW_iff]
    by_cases c : j = i
    · subst c; exact ⟨_, mem_insA.2 (.inl rfl), rfl⟩
    · obtain ⟨w, hw, e⟩ := hasW_iff.1 (h.all j (by omega))
      exact ⟨w, mem_insA.2 (.inr hw), e⟩
  · rcases mem_insA.1 hw with rfl | hw
    · rw [usedW, List.any_eq_true]; exact ⟨gd E i, gd_mem hi, by simp⟩
    · exact h.used w hw
theorem all_kept {rs : List Rule} {E : List (Int × List Rect)} {ws : List Waiver} (h : WI rs E E.length ws) : (∀ v ∈ E, isWv rs ws v = true) := fun v hv => by
  obtain ⟨j, hj, rfl⟩ := List.getElem_of_mem hv
  have := h.all j hj
  rw [gd_eq hj] at this; exact this
theorem code_wl {rs : List Rule} {E : List (Int × List Rect)} {ws us : List Waiver} (h : wCode rs E us = 0) (hw : isWL ws = true) : wCode rs E ws = 0 := by
  obtain ⟨q1, q2, q3, q4⟩ := wCode_zero h
  rw [wCode, wcBad, q1, q2, hw]
  have : wcFar rs E = false := by
    rw [wcFar, List.any_eq_false]
    intro v hv
    obtain ⟨j, hj, rfl⟩ := List.getElem_of_mem hv
    have := q4 j hj
    rw [gd_eq hj] at this
    simp only [decide_eq_true_eq]; omega
  rw [this]; rfl
theorem sig_of {rs : List Rule} {E : List (Int × List Rect)} {ws : List Waiver} (h : wCode rs E ws = 0) {i : Nat} (hi : i < E.length) : violE rs (gd E i) = sigA rs (gd E i) ∧ 0 ≤ sigA rs (gd E i) ∧ sigA rs (gd E i) < 2147483647 := by
  obtain ⟨q1, q2, q3, q4⟩ := wCode_zero h
  have h1 := rep_okV q2 hi
  have h2 := q4 i hi
  refine ⟨by rw [violE, violC, q1, h1, decide_eq_true h2]; rfl, ?_⟩
  obtain ⟨a1, a2, a3, _⟩ := okV_reg h1
  have hs : 0 ≤ regSig (gd E i).2 ∧ regSig (gd E i).2 < 2147483647 := by
    rw [regSig, a1, decide_eq_true a2]
    exact sigTo_bd _ _
  exact hashL_bd _ hs
theorem violSig_c {d : Deck} {v : Viol} {n : Int} (e : violE d.rules.xs (erV v) = n) (h1 : Rs G L ruleT d.rules.v d.rules.xs) (h2 : Rs G L rectT v.marker.v v.marker.xs) (k : R (vi n) G L) : CallT Tryz.prog 31 #[vT deckT d, vT violT v] G L R := violSig_i h1 h2 (by rw [e]; exact k)
theorem CallT.cvR {P : Program} {f : FuncId} {args : Array Value} {R0 R : Value → Gh → List Ch → Prop} (h : CallT P f args G L R0) (hr : ∀ v G' L', R0 v G' L' → ∃ M, Cv L' M ∧ R v G' M) : CallT P f args G L R :=
  CallT.of fun w hs => (h.run hs).mono fun _ _ ⟨v, G', L', h1, h2, h3⟩ => by
    obtain ⟨M, c, r⟩ := hr v G' L' h3
    exact ⟨v, G', M, h1, h2.cv c, r⟩
theorem apply_c {d : Deck} {u w : Value} {xs : List Viol} {ws : List Waiver} (h1 : Rs G L ruleT d.rules.v d.rules.xs) (h2 : Rs G L violT u xs) (hd : RsE G L rectT (mks xs)) (h3 : Rs G L waiverT w ws) (hlen : ∀ i, i < ws.length → (gd ws i).reason.size ≤ 9223372036854775807)
    (hz : wCode d.rules.xs (erVs xs) ws = 0) (hall : ∀ v ∈ erVs xs, isWv d.rules.xs ws v = true)
    (k : ∀ v' u' us, us.length = xs.length → R (.tuple #[v', u', vi 0]) G (osl 63 violT v' ([] : List Viol) :: osl 63 violT u' us :: bagS 71 rectT (mks us) :: L)) :
    CallT Tryz.prog 33 #[vT deckT d, u, w] G L R := by
  refine (apply_i (R := fun v' G' L' => ∃ v u us, us.length = xs.length ∧ v' = .tuple #[v, u, vi 0] ∧ G' = G ∧ Cv L' (osl 63 violT v ([] : List Viol) :: osl 63 violT u us :: bagS 71 rectT (mks us) :: L)) h1 h2 hd h3 hlen (fun v' u' ks us hks hus => ?_)).cvR ?_
  · rw [keptR, if_pos hz] at hks
    rw [waivR, if_pos hz] at hus
    have e1 : (erVs xs).filter (fun v => !isWv d.rules.xs ws v) = [] := by
      rw [List.filter_eq_nil_iff]; intro v hv; simp [hall v hv]
    have e2 : (erVs xs).filter (isWv d.rules.xs ws) = erVs xs := by
      rw [List.filter_eq_self]; exact hall
    rw [e1] at hks; rw [e2] at hus
    have e3 : ks = [] := List.eq_nil_of_length_eq_zero (by rw [← erVs_len, hks]; rfl)
    subst e3
    exact ⟨v', u', us, by rw [← erVs_len, hus, erVs_len], by rw [hz], rfl, Cv.p⟩
  · rintro v' G' L' ⟨v, u, us, g1, rfl, rfl, g2⟩
    exact ⟨_, g2, k v u us g1⟩
theorem unused_c {d : Deck} {u w : Value} {xs : List Viol} {ws : List Waiver} (h1 : Rs G L ruleT d.rules.v d.rules.xs) (h2 : Rs G L violT u xs) (hd : RsE G L rectT (mks xs)) (h3 : Rs G L waiverT w ws) (hlen : ∀ i, i < ws.length → (gd ws i).reason.size ≤ 9223372036854775807)
    (hz : wCode d.rules.xs (erVs xs) ws = 0) (hall : ∀ a ∈ ws, usedW d.rules.xs (erVs xs) a = true) (k : ∀ v', R (.tuple #[v', vi 0]) G (osl 67 waiverT v' ([] : List Waiver) :: L)) : CallT Tryz.prog 34 #[vT deckT d, u, w] G L R := by
  have e : unusedR d.rules.xs (erVs xs) ws = [] := by
    rw [unusedR, if_pos hz, List.filter_eq_nil_iff]; intro v hv; simp [hall v hv]
  exact unused_i h1 h2 hd h3 hlen (by rw [hz, e]; exact k)
theorem law_FnWaiveAll {cv : Value} {bs : List UInt8} (hcode : SL G byteT cv bs) (k : R (.bool true) G L) : CallT Tryz.prog 5 #[cv] G L R := by
  refine CallT.enter (args := _) Tryz.func5 rfl rfl (by kernel_rfl) rfl ?_
  refine WP.seq ?_
  refine WP.region ?_
  refine RG.pv rfl (PV.mvB (.inr rfl) rfl) ?_
  refine RG.nil ?_
  refine WP.seq ?_
  refine WP.seq ?_
  refine WP.region ?_
  refine RG.pv rfl (PV.move (v := cv) rfl rfl) ?_
  refine RG.callF (vs := [cv]) rfl rfl En18 rfl (big_s hcode ?_)
  refine RG.nil ?_
  refine WP.cond rfl (fun h1 => ?_) (fun h1 => ?_)
  · refine WP.seq ?_
    refine WP.region ?_
    refine RG.pv rfl (PV.mvB (.inr rfl) rfl) ?_
    refine RG.nil ?_
    refine WP.ret ?_
    exact ⟨_, _, ResV.one rfl rfl, Cv.p, k⟩
  · skip
    refine WP.skip ?_
    refine WP.seq ?_
    refine WP.region ?_
    refine RG.pv rfl (PV.move (v := cv) rfl rfl) ?_
    refine RG.callF (vs := [cv]) rfl rfl En29 rfl (drawApply_f hcode (fun x23 rs23 w23 zs ys23 u23 us23 hA23 hzl hmk hok23 => ?_))
    refine RG.pv rfl (PV.move (v := .tuple _) rfl rfl) ?_
    refine RG.pv rfl (PV.ext rfl rfl rfl) ?_
    refine RG.pv rfl (PV.ext (v := w23) rfl rfl rfl) ?_
    refine RG.pv rfl (PV.ext (v := u23) rfl rfl rfl) ?_
    refine RG.ot rfl (OT.alloc rfl Zr54 fun b3 => ?_)
    refine RG.ot rfl (OT.storeW (vs := [_]) rfl Sz54 rfl rfl (Cl.c rfl) rfl rfl (OneC.sl (SlF.o (v := x23)) OneC.nil) ?_)
    refine RG.pv rfl (PV.asg (v := w23) rfl rfl) ?_
    refine RG.pv rfl (PV.asg (v := u23) rfl rfl) ?_
    refine RG.nil ?_
    refine WP.seq ?_
    refine WP.region ?_
    refine RG.pv rfl (PV.loadW rfl Ag54 rfl rfl) ?_
    refine RG.pv rfl (PV.move (v := w23) rfl rfl) ?_
    refine RG.callF (vs := [_, w23, _]) rfl rfl En30 rfl (apply_r (d := ⟨⟨x23, rs23⟩⟩) (ws := []) Rs.o Rs.o (MkIn.read (e := 71) hmk) RsN (fun i hi => by simp at hi) (fun k30 u30 ks0 us0 hks0 hus0 => ?_))
    refine RG.pv rfl (PV.move (v := .tuple _) rfl rfl) ?_
    refine RG.pv rfl (PV.ext rfl rfl rfl) ?_
    refine RG.pv rfl (PV.ext rfl rfl rfl) ?_
    refine RG.pv rfl (PV.ext rfl rfl rfl) ?_
    refine RG.pv rfl (PV.asg rfl rfl) ?_
    refine RG.pv rfl (PV.asg rfl rfl) ?_
    refine RG.pv rfl (PV.mvI (.inr rfl) rfl) ?_
    refine RG.nil ?_
    refine WP.seq ?_
    refine WP.seq ?_
    refine WP.region ?_
    refine RG.pv rfl (PV.mvI (.inl rfl) rfl) ?_
    refine RG.pv rfl (PV.neq rfl rfl rfl) ?_
    refine RG.nil ?_
    refine WP.cond rfl (fun h2 => ?_) (fun h2 => ?_)
    · refine WP.seq ?_
      refine WP.region ?_
      refine RG.pv rfl (PV.mvB (.inr rfl) rfl) ?_
      refine RG.nil ?_
      refine WP.ret ?_
      exact ⟨_, _, ResV.one rfl rfl, Cv.p, k⟩
    · have hz : wCode rs23 (erVs zs) [] = 0 := by simpa using h2
      have hel := erVs_len zs
      refine WP.skip ?_
      refine WP.seq ?_
      refine WP.region ?_
      refine RG.ot rfl (OT.bslice (F := waiverT) (els := []) rfl El56 rfl (by decide) rfl (by decide) trivial fun v36 => ?_)
      refine RG.pv rfl (PV.asg (v := v36) rfl rfl) ?_
      refine RG.nil ?_
      refine WP.seq ?_
      refine WP.seq ?_
      refine WP.region ?_
      refine RG.pv rfl (PV.mvI (.inr rfl) rfl) ?_
      refine RG.nil ?_
      refine WP.block ?_
      refine WP.loop3 [0, 3, 4] (fun (i : Nat) (ws : List Waiver) (q : Value) => i ≤ zs.length ∧ WI rs23 (erVs zs) i ws) (fun (i : Nat) (ws : List Waiver) (q : Value) => [(10, vi i), (9, q)]) (fun (i : Nat) (ws : List Waiver) (q : Value) => osl 67 waiverT q ws :: blk b3 54 [x23] :: osl 34 ruleT x23 rs23 :: osl 63 violT w23 zs :: bagS 71 rectT ys23 :: L) (fun (i : Nat) (ws : List Waiver) (q : Value) => zs.length - i) 0 [] v36 ⟨by omega, WI.nil⟩ ⟨rfl, rfl, trivial⟩ Cv.p ?_
      rintro i ws q τ ⟨hi, hI⟩
      refine WP.seq ?_
      refine WP.seq ?_
      refine WP.region ?_
      refine RG.pv rfl (PV.mvI (.inl rfl) rfl) ?_
      refine RG.pv rfl (PV.move (v := w23) rfl rfl) ?_
      refine RG.pv rfl (PV.len (v := w23) rfl Tryz.underlying55 rfl SlF.o) ?_
      refine RG.pv rfl (PV.lss rfl rfl rfl) ?_
      refine RG.nil ?_
      have hwl := wl_iff.1 hI.wl
      have hlen : ∀ i, i < ws.length → (gd ws i).reason.size ≤ 9223372036854775807 := fun i hi => by
        have := hwl.2.1 _ (gd_mem hi)
        simp only [validW, reason, Bool.and_eq_true, decide_eq_true_eq] at this; omega
      refine WP.cond rfl (fun h3 => ?_) (fun h3 => ?_)
      · have h3 := of_decide_eq_true h3
        have h30 : i < zs.length := by omega
        have hvs := sig_of hz (i := i) (by omega)
        have hei := erVs_gd h30
        rw [hei] at hvs
        have hval : validW ⟨sigA rs23 (erV (gd zs i)), knW⟩ = true := by rw [validW, kn_ok]; simp [within]; omega
        have hc : awC ws ⟨sigA rs23 (erV (gd zs i)), knW⟩ = bif hasW ws (sigA rs23 (erV (gd zs i))) then 6 else bif decide (ws.length = 16) then 3 else 0 := by rw [awC, hI.wl, hval]; rfl
        refine WP.skip ?_
        refine WP.seq ?_
        refine WP.block ?_
        refine WP.seq ?_
        refine WP.regionQ (by kernel_rfl) (by kernel_rfl) ?_
        refine RQ.pv rfl (PV.loadW rfl Ag54 rfl rfl) ?_
        refine RQ.pv rfl (PV.move (v := w23) rfl rfl) ?_
        refine RQ.pv rfl (PV.mvI (.inl rfl) rfl) ?_
        refine RQ.pv rfl (PV.idxS (v := w23) rfl Is55 rfl SlF.o rfl rfl (by omega)) ?_
        refine RQ.pv rfl (PV.loadE rfl Ag63 rfl rfl (El.o (getG (by omega)))) ?_
        refine RQ.callF (vs := [_, _]) rfl rfl En31 rfl (violSig_c (d := ⟨⟨x23, rs23⟩⟩) (v := gd zs i) hvs.1 Rs.o (RsE.marker (MkIn.read (e := 71) hmk) (by omega)) ⟨rfl, rfl, rfl⟩) ?_
        refine RQ.pv rfl (PV.mvI (.inr rfl) rfl) ?_
        refine RQ.nil ?_
        refine WP.seq ?_
        refine WP.region ?_
        refine RG.pv rfl (PV.move (v := q) rfl rfl) ?_
        refine RG.pv rfl (PV.mvI (.inl rfl) rfl) ?_
        refine RG.pv rfl (PV.build (vs := [(0, [vi _]), (1, [.string _])]) (out := [_, _]) rfl Zr67 Pl67 ⟨rfl, (Cl.c rfl), ⟨rfl, (Cl.c rfl), trivial⟩⟩ rfl) ?_
        refine RG.callF (vs := [q, _]) rfl rfl En32 rfl (addW_i (ws := ws) (w := ⟨sigA rs23 (erV (gd zs i)), knW⟩) Rs.o hlen (show knW.size ≤ 9223372036854775807 by decide) (fun w53 => ?_))
        refine RG.pv rfl (PV.move (v := .tuple _) rfl rfl) ?_
        refine RG.pv rfl (PV.ext (v := w53) rfl rfl rfl) ?_
        refine RG.pv rfl (PV.ext rfl rfl rfl) ?_
        refine RG.pv rfl (PV.asg (v := w53) rfl rfl) ?_
        refine RG.pv rfl (PV.mvI (.inr rfl) rfl) ?_
        refine RG.nil ?_
        refine WP.seq ?_
        refine WP.seq ?_
        refine WP.region ?_
        refine RG.pv rfl (PV.mvI (.inl rfl) rfl) ?_
        refine RG.pv rfl (PV.eql rfl rfl rfl) ?_
        refine RG.nil ?_
        refine WP.cond rfl (fun h4 => ?_) (fun h4 => ?_)
        · have h4 := of_decide_eq_true h4
          have hl16 : decide ((ws.length : Int) = 16) = true := by
            rw [hc] at h4
            cases c1 : hasW ws (sigA rs23 (erV (gd zs i))) with
            | true => rw [c1] at h4; cases h4
            | false =>
              rw [c1, cond_false] at h4
              by_cases c2 : ws.length = 16
              · simp [c2]
              · rw [decide_eq_false c2] at h4; cases h4
          rw [← hl16] at k
          refine WP.seq ?_
          refine WP.region ?_
          refine RG.pv rfl (PV.move (v := q) rfl rfl) ?_
          refine RG.pv rfl (PV.len (v := q) rfl Tryz.underlying56 rfl SlF.o) ?_
          refine RG.pv rfl (PV.eql rfl rfl rfl) ?_
          refine RG.pv rfl (PV.mvB (.inr rfl) rfl) ?_
          refine RG.nil ?_
          refine WP.ret ?_
          exact ⟨_, _, ResV.one rfl rfl, Cv.p, k⟩
        · have h4 := of_decide_eq_false h4
          refine WP.skip ?_
          refine WP.seq ?_
          refine WP.region ?_
          refine RG.pv rfl (PV.mvI (.inl rfl) rfl) ?_
          refine RG.pv rfl (PV.eql rfl rfl rfl) ?_
          refine RG.nil ?_
          refine WP.cond rfl (fun h5 => ?_) (fun h5 => ?_)
          · have h5 := of_decide_eq_true h5
            have hh : hasW ws (sigA rs23 (gd (erVs zs) i)) = false ∧ ws.length ≠ 16 := by
              rw [hc] at h5
              rw [hei]
              cases c1 : hasW ws (sigA rs23 (erV (gd zs i))) with
              | true => rw [c1] at h5; cases h5
              | false =>
                rw [c1, cond_false] at h5
                refine ⟨rfl, fun c2 => ?_⟩
                rw [decide_eq_true c2] at h5; cases h5
            have hr : awR ws ⟨sigA rs23 (erV (gd zs i)), knW⟩ = insA ws ⟨sigA rs23 (erV (gd zs i)), knW⟩ := by rw [awR, h5]; rfl
            have hI2 := hI.add (by omega) (by rw [hei]; exact hvs.2) hh.1 hh.2
            rw [hei] at hI2
            rw [hr]
            refine WP.region ?_
            refine RG.pv rfl (PV.move (v := w53) rfl rfl) ?_
            refine RG.pv rfl (PV.asg (v := w53) rfl rfl) ?_
            refine RG.nil ?_
            refine WP.region ?_
            refine RG.pv rfl (PV.mvI (.inl rfl) rfl) ?_
            refine RG.pv rfl (PV.add rfl rfl rfl (by omega)) ?_
            refine RG.pv rfl (PV.mvI (.inr rfl) rfl) ?_
            refine RG.nil ?_
            exact ⟨rfl, i + 1, (insA ws ⟨sigA rs23 (erV (gd zs i)), knW⟩), w53, ⟨by omega, hI2⟩, ⟨rfl, rfl, trivial⟩, ⟨rfl, rfl, rfl, trivial⟩, Cv.p, by omega⟩
          · have h5 := of_decide_eq_false h5
            have hh : hasW ws (sigA rs23 (gd (erVs zs) i)) = true := by
              rw [hei]
              cases c1 : hasW ws (sigA rs23 (erV (gd zs i))) with
              | true => rfl
              | false =>
                rw [hc, c1, cond_false] at h4 h5
                cases c2 : decide (ws.length = 16) <;> simp [c2] at h4 h5
            have h6 : awC ws ⟨sigA rs23 (erV (gd zs i)), knW⟩ = 6 := by rw [hc, ← hei, hh]; rfl
            refine WP.seq ?_
            refine WP.region ?_
            refine RG.pv rfl (PV.mvI (.inl rfl) rfl) ?_
            refine RG.pv rfl (PV.neq rfl rfl rfl) ?_
            refine RG.nil ?_
            refine WP.cond rfl (fun h7 => ?_) (fun h7 => ?_)
            · exfalso
              rw [h6] at h7; simp at h7
            · refine WP.skip ?_
              refine WP.region ?_
              refine RG.pv rfl (PV.mvI (.inl rfl) rfl) ?_
              refine RG.pv rfl (PV.add rfl rfl rfl (by omega)) ?_
              refine RG.pv rfl (PV.mvI (.inr rfl) rfl) ?_
              refine RG.nil ?_
              exact ⟨rfl, i + 1, ws, q, ⟨by omega, hI.skip hh⟩, ⟨rfl, rfl, trivial⟩, ⟨rfl, rfl, rfl, trivial⟩, Cv.p, by omega⟩
      · have h3 := of_decide_eq_false h3
        obtain rfl : i = zs.length := by omega
        rw [← hel] at hI
        have hk1 := all_kept hI
        refine WP.exit ?_
        refine WP.seq ?_
        refine WP.region ?_
        refine RG.pv rfl (PV.move (v := cv) rfl rfl) ?_
        refine RG.callF (vs := [cv]) rfl rfl En29 rfl (drawApply_f hcode (fun x68 rs68 w68 zs68 ys68 u68 us68 hA68 hzl2 hmk2 hok68 => have hAe := hA23.symm.trans hA68; have hrs : rs68 = rs23 := (congrArg Prod.fst hAe).symm; have hzs : erVs zs68 = erVs zs := (congrArg Prod.snd hAe).symm; have hz2 : wCode rs68 (erVs zs68) ws = 0 := (by rw [hrs, hzs]; exact code_wl hz hI.wl); have hkept : ∀ v ∈ erVs zs68, isWv rs68 ws v = true := (by rw [hrs, hzs]; exact hk1); have hused : ∀ a ∈ ws, usedW rs68 (erVs zs68) a = true := (by rw [hrs, hzs]; exact hI.used); ?_))
        refine RG.pv rfl (PV.move (v := .tuple _) rfl rfl) ?_
        refine RG.pv rfl (PV.ext rfl rfl rfl) ?_
        refine RG.pv rfl (PV.ext (v := w68) rfl rfl rfl) ?_
        refine RG.pv rfl (PV.ext (v := u68) rfl rfl rfl) ?_
        refine RG.ot rfl (OT.storeW (vs := [_]) rfl Sz54 rfl rfl (Cl.c rfl) rfl rfl (OneC.sl (SlF.o (v := x68)) OneC.nil) ?_)
        refine RG.pv rfl (PV.asg (v := w68) rfl rfl) ?_
        refine RG.nil ?_
        refine WP.seq ?_
        refine WP.region ?_
        refine RG.pv rfl (PV.loadW rfl Ag54 rfl rfl) ?_
        refine RG.pv rfl (PV.move (v := w68) rfl rfl) ?_
        refine RG.pv rfl (PV.move (v := q) rfl rfl) ?_
        refine RG.callF (vs := [_, w68, q]) rfl rfl En33 rfl (apply_c (d := ⟨⟨x68, rs68⟩⟩) (ws := ws) Rs.o Rs.o (MkIn.read (e := 71) hmk2) Rs.o hlen hz2 hkept (fun k76 u76 us76 hul76 => ?_))
        refine RG.pv rfl (PV.move (v := .tuple _) rfl rfl) ?_
        refine RG.pv rfl (PV.ext (v := k76) rfl rfl rfl) ?_
        refine RG.pv rfl (PV.ext (v := u76) rfl rfl rfl) ?_
        refine RG.pv rfl (PV.ext rfl rfl rfl) ?_
        refine RG.pv rfl (PV.asg (v := k76) rfl rfl) ?_
        refine RG.pv rfl (PV.asg (v := u76) rfl rfl) ?_
        refine RG.pv rfl (PV.mvI (.inr rfl) rfl) ?_
        refine RG.nil ?_
        refine WP.seq ?_
        refine WP.region ?_
        refine RG.pv rfl (PV.loadW rfl Ag54 rfl rfl) ?_
        refine RG.pv rfl (PV.move (v := w68) rfl rfl) ?_
        refine RG.pv rfl (PV.move (v := q) rfl rfl) ?_
        refine RG.callF (vs := [_, w68, q]) rfl rfl En34 rfl (unused_c (d := ⟨⟨x68, rs68⟩⟩) (ws := ws) Rs.o Rs.o (MkIn.read (e := 71) hmk2) Rs.o hlen hz2 hused (fun u84 => ?_))
        refine RG.pv rfl (PV.move (v := .tuple _) rfl rfl) ?_
        refine RG.pv rfl (PV.ext (v := u84) rfl rfl rfl) ?_
        refine RG.pv rfl (PV.ext rfl rfl rfl) ?_
        refine RG.pv rfl (PV.asg (v := u84) rfl rfl) ?_
        refine RG.pv rfl (PV.mvI (.inr rfl) rfl) ?_
        refine RG.nil ?_
        refine WP.seq ?_
        refine WP.region ?_
        refine RG.pv rfl (PV.mvI (.inl rfl) rfl) ?_
        refine RG.pv rfl (PV.eql rfl rfl rfl) ?_
        refine RG.pv rfl (PV.mvB (.inl rfl) rfl) ?_
        refine RG.gs rfl rfl rfl (fun hp => (PV.mvI (.inl rfl) rfl)) ?_
        refine RG.gs rfl rfl rfl (fun hp => (PV.eql rfl (gs_t hp) rfl)) ?_
        refine RG.pv rfl (PV.pickA rfl rfl (fun hq => gs_t (geqT hq)) rfl) ?_
        refine RG.pv rfl (PV.mvB (.inl rfl) rfl) ?_
        refine RG.gs rfl rfl rfl (fun hp => (PV.move (v := k76) rfl rfl)) ?_
        refine RG.gs rfl rfl rfl (fun hp => (PV.len (v := k76) rfl Tryz.underlying55 (gs_t hp) SlF.o)) ?_
        refine RG.gs rfl rfl rfl (fun hp => (PV.eql rfl (gs_t hp) rfl)) ?_
        refine RG.pv rfl (PV.pickA rfl rfl (fun hq => gs_t (geqT hq)) rfl) ?_
        refine RG.pv rfl (PV.mvB (.inl rfl) rfl) ?_
        refine RG.gs rfl rfl rfl (fun hp => (PV.move (v := u84) rfl rfl)) ?_
        refine RG.gs rfl rfl rfl (fun hp => (PV.len (v := u84) rfl Tryz.underlying56 (gs_t hp) SlF.o)) ?_
        refine RG.gs rfl rfl rfl (fun hp => (PV.eql rfl (gs_t hp) rfl)) ?_
        refine RG.pv rfl (PV.pickA rfl rfl (fun hq => gs_t (geqT hq)) rfl) ?_
        refine RG.pv rfl (PV.mvB (.inl rfl) rfl) ?_
        refine RG.gs rfl rfl rfl (fun hp => (PV.move (v := u76) rfl rfl)) ?_
        refine RG.gs rfl rfl rfl (fun hp => (PV.len (v := u76) rfl Tryz.underlying55 (gs_t hp) SlF.o)) ?_
        refine RG.gs rfl rfl rfl (fun hp => (PV.move (v := w68) rfl rfl)) ?_
        refine RG.gs rfl rfl rfl (fun hp => (PV.len (v := w68) rfl Tryz.underlying55 (gs_t hp) SlF.o)) ?_
        refine RG.gs rfl rfl rfl (fun hp => (PV.eql rfl (gs_t hp) (gs_t hp))) ?_
        refine RG.pv rfl (PV.pickA rfl rfl (fun hq => gs_t (geqT hq)) rfl) ?_
        refine RG.pv rfl (PV.mvB (.inr rfl) rfl) ?_
        refine RG.nil ?_
        refine WP.ret ?_
        have hfin : decide ((us76.length : Int) = (zs68.length : Int)) = true := by rw [hul76]; simp
        rw [← hfin] at k
        exact ⟨_, _, ResV.one rfl rfl, Cv.p, k⟩
end Go.Proofs.YtpjajhjcbcfplaaGreat
namespace Go.Proofs.YtpjajhjcbcfplaaGreat
set_option linter.unusedVariables false
set_option linter.unusedSimpArgs false
open Go Go.ChangeShapes Go.WideShapes Go.ChangeAt Go.RowKit Go.Deep
set_option linter.unusedVariables false
def Gw (w : World) : Gh := ⟨wh w, w.os, w.tape, w.output, w.drawn⟩
theorem St.start (w : World) : St (Gw w) [] w := ⟨fun _ => none, trivial, Hp.le_refl _, (fun _ _ h => by cases h), fun _ => .inl rfl, rfl, rfl, rfl, Nat.le_refl _⟩
/-- behind a call that began in W, all of W's blocks are as they were -/
theorem St.below {W w' : World} {G : Gh} {L : List Ch} (l : Gh.le (Gw W) G) (h : St G L w') : Below W.heap.size W w' := by
  obtain ⟨hp, s, l1, l2, d, ok⟩ := h
  have ok' := Gh.le_ok l ok
  have up := Hp.le_trans l.1 l1
  have key : ∀ k, k < W.heap.size → w'.heap[k]? = W.heap[k]? := fun k hk => by
    have : (Gw W).f k = some W.heap[k] := by simp [Gw, wh, hk]
    have h2 := up k _ this
    simp only [wh] at h2
    rw [h2]; simp [hk]
  refine ⟨ok'.1, ok'.2.1, ok'.2.2.1, ?_, key⟩
  by_cases h0 : W.heap.size = 0
  · omega
  · have := key (W.heap.size - 1) (by omega)
    rw [Array.getElem?_eq_getElem (by omega : W.heap.size - 1 < W.heap.size)] at this
    have := (Array.getElem?_eq_some_iff.1 this).1
    omega
def Opn {ρ : Type} (P : Program) (t : TypeId) (F : FT ρ) (ok : Gh → ρ → Prop) : Prop :=
  ∀ {H : Type} {enc : TypeId × Value → H} {w : World} {fuel : Nat} {cs : List Value} {x : DataW H × List MemPlace}, DataW.trod enc P w 0 (fun _ => true) true fuel t cs = some x → ∃ a : ρ, cs = F.enc a ∧ ok (Gw w) a
def okL {ρ : Type} [Inhabited ρ] (F : FT ρ) (ok : Gh → ρ → Prop) (G : Gh) (v : Value) : Prop := ∃ xs : List ρ, SL G F v xs ∧ ∀ i, i < xs.length → ok G (gd xs i)
section
variable {P : Program} {t e : TypeId}
theorem cells_get {w : World} {a : Addr} {n : Nat} {cs : List Value} (h : w.cells? 0 a n = some cs) : cs.length = n ∧ ∀ j c, cs[j]? = some c → w.cell? (a.add j) = some c := by
  obtain ⟨_, h1, h2⟩ := World.cells?_some h
  refine ⟨h1, fun j c hc => ?_⟩
  have hj := (List.getElem?_eq_some_iff.1 hc).1
  rw [h2 j (by omega), hc]
theorem opnL {ρ : Type} [Inhabited ρ] {F : FT ρ} {ok : Gh → ρ → Prop} (ht : P.underlying t = some (.slice e)) (hE : Opn P e F ok) (hc : P.cellsOf e = F.sz) (h0 : 0 < F.sz) : Opn P t rawT (okL F ok) := fun {H enc w fuel cs x} h => by
  rcases open_slice ht h with ⟨rfl, _⟩ | ⟨a, len, cap, m, n, D, Pl, rfl, _, hl, hm, hmm, _, hel⟩
  · exact ⟨_, rfl, [], ⟨⟨0, Nat.le_refl _, Nat.zero_le _, .inr ⟨⟨_, rfl⟩, rfl⟩⟩, fun j c hj => by simp [FT.flat] at hj⟩, fun i hi => by simp at hi⟩
  have hmcap : m = cap := by simpa using hmm
  refine ⟨.slice (some a) len cap, rfl, ?_⟩
  have hall : ∀ i, i < len → ∃ r : ρ, w.cells? 0 (a.add (i * F.sz)) F.sz = some (F.enc r) ∧ ok (Gw w) r := fun i hi => by
    obtain ⟨cs', h1, h2⟩ := hel i (by omega)
    obtain ⟨r, rfl, hr⟩ := hE h2
    rw [hc] at h1
    exact ⟨r, h1, hr⟩
  have : ∃ f : Nat → ρ, ∀ i, i < len → w.cells? 0 (a.add (i * F.sz)) F.sz = some (F.enc (f i)) ∧ ok (Gw w) (f i) := choose_lt hall
  obtain ⟨f, hf⟩ := this
  have hlen : ((List.range len).map f).length = len := by simp
  have hget : ∀ i, i < len → ((List.range len).map f)[i]? = some (f i) := fun i hi => by simp [hi]
  have hsp : len ≠ 0 → a.spot = none := fun hz => by
    obtain ⟨h1, _⟩ := hf 0 (by omega)
    obtain ⟨hl1, hg⟩ := cells_get h1
    cases hq : (F.enc (f 0))[0]? with
    | none => rw [List.getElem?_eq_none_iff] at hq; omega
    | some c =>
      have hcell := hg 0 c hq
      cases hs : a.spot with
      | none => rfl
      | some s =>
        exfalso
        have h3 : ((a.add (0 * F.sz)).add 0).spot.isSome = true := by simp [Addr.add, hs]
        unfold World.cell? at hcell
        split at hcell
        · rw [if_pos h3] at hcell; cases hcell
        · cases hcell
  refine ⟨(List.range len).map f, ⟨⟨cap, by simpa using hl, hm, ?_⟩, ?_⟩, fun i hi => ?_⟩
  · by_cases hz : len = 0
    · exact .inr ⟨⟨some a, by simp⟩, by simpa using hz⟩
    · refine .inl ⟨a.block, a.off, ?_⟩
      have hsp := hsp hz
      simp only [hlen]
      obtain ⟨ab, ao, az⟩ := a
      simp only at hsp
      subst hsp; rfl
  · intro j c hj
    by_cases hz : len = 0
    · subst hz; simp [FT.flat] at hj
    have hsp := hsp hz
    have hjl : j < len * F.sz := by
      have := (List.getElem?_eq_some_iff.1 hj).1
      rwa [FT.flat_len, hlen] at this
    have hq : j / F.sz < len := (Nat.div_lt_iff_lt_mul h0).2 hjl
    have hr : j % F.sz < F.sz := Nat.mod_lt _ h0
    have hjd : j / F.sz * F.sz + j % F.sz = j := by rw [Nat.mul_comm]; exact Nat.div_add_mod j F.sz
    obtain ⟨h1, _⟩ := hf (j / F.sz) hq
    obtain ⟨_, hg⟩ := cells_get h1
    have hc' : (F.enc (f (j / F.sz)))[j % F.sz]? = some ((F.enc (f (j / F.sz)))[j % F.sz]'(by rw [F.len]; exact hr)) := List.getElem?_eq_getElem _
    have hfl := F.flat_get (hget _ hq) hc'
    rw [hjd, hj] at hfl
    have hcell := hg _ _ hc'
    obtain ⟨ab, ao, az⟩ := a
    simp only at hsp
    subst hsp
    rw [add_none, add_none, cell_hc, Nat.add_assoc, hjd] at hcell
    simp only [sb, so, Gw]
    rw [hcell]; exact hfl.symm
  · have hi' : i < len := by simpa using hi
    have : gd ((List.range len).map f) i = f i := by simp [gd, hi']
    rw [this]; exact (hf i hi').2
end
def okSl {ρ : Type} [Inhabited ρ] (F : FT ρ) (ok : Gh → ρ → Prop) (G : Gh) (s : Sl ρ) : Prop := SL G F s.v s.xs ∧ ∀ i, i < s.xs.length → ok G (gd s.xs i)
theorem opnSl {P : Program} {t e : TypeId} {ρ : Type} [Inhabited ρ] {F : FT ρ} {ok : Gh → ρ → Prop} (ht : P.underlying t = some (.slice e)) (hE : Opn P e F ok) (hc : P.cellsOf e = F.sz) (h0 : 0 < F.sz) : Opn P t slT (okSl F ok) := fun h => by
  obtain ⟨v, rfl, xs, h1, h2⟩ := opnL ht hE hc h0 h
  exact ⟨⟨v, xs⟩, rfl, h1, h2⟩
section
variable {P : Program} {t e : TypeId} {H : Type} {enc : TypeId × Value → H} {W : World} {r : Reach} {base : Nat} {v : Value} {d : DataW H} {ps : List MemPlace}
theorem argSl {ρ : Type} {ok : Gh → Sl ρ → Prop} (ht : P.underlying t = some (.slice e)) (hO : Opn P t slT ok) (hv : Value.okWide P W r base t v) (h : DataW.Trod enc P W 0 (fun _ => true) true t v d ps) : ∃ s : Sl ρ, v = s.v ∧ ok (Gw W) s := by
  obtain ⟨a, n, c, rfl⟩ := okWide_slice ht hv
  obtain ⟨fuel, hf⟩ := h
  obtain ⟨m, e1, hm⟩ := hO hf
  simp [Value.cells, slT] at e1
  exact ⟨m, e1, hm⟩
theorem trodAll_stays (hl : laidOutB P = true) {W' : World} (hb : Below W.heap.size W W') : ∀ {ts : List TypeId} {vs : List Value} {ds : List (DataW H)} {ps : List MemPlace}, (∀ t ∈ ts, P.readableRec t = true ∧ t < P.types.size) → (∀ x ∈ ps, x.block < W.heap.size) →
    DataW.TrodAll enc P W 0 (fun _ => true) true ts vs ds ps → DataW.TrodAll enc P W' 0 (fun b => decide (b < W.heap.size)) true ts vs ds ps
  | [], [], [], _, _, _, h => h
  | t :: ts, v :: vs, d :: ds, ps, hr, hlt, h => by
    obtain ⟨p, q, h1, h2, rfl⟩ := h
    have := hr t (.head _)
    exact ⟨p, q, Below.trod hl this.1 this.2 h1 hb (fun x hx => hlt x (List.mem_append_left _ hx)), trodAll_stays hl hb (fun t ht => hr t (.tail _ ht)) (fun x hx => hlt x (List.mem_append_right _ hx)) h2, rfl⟩
end
def recsB (P : Program) (ts : List TypeId) : Bool := ts.all fun t => P.readableRec t && Nat.blt t P.types.size
theorem recs_of {P : Program} {ts : List TypeId} (h : recsB P ts = true) : ∀ t ∈ ts, P.readableRec t = true ∧ t < P.types.size := by
  intro t ht
  have := List.all_eq_true.1 h t ht
  simp only [Bool.and_eq_true] at this
  exact ⟨this.1, Nat.le_of_ble_eq_true this.2⟩
/-- A LAW, LIFTED: the call returns true, the arguments read as they did. -/
theorem law_lifted {H : Type} {enc : TypeId × Value → H} {C : Checked} {os : Os} {f : FuncId} {fn : Func} {s : ChangeSpec} {tb : TypeId} (own : ownKnob C.prog.godebug = none) (started : os.Started) (noInit : C.prog.inits.idxOf? f = none) (hfn : C.prog.funcs[f]? = some fn) (hl : laidOutB C.prog = true)
    (hvars : s.vars = []) (hr : recsB C.prog fn.params.toList = true) (hres : fn.resultTypes = #[tb]) (htb : C.prog.underlying tb = some .bool)
    (hsp : ∀ ds : List (DataW H), ds.length = fn.params.toList.length → s.fn H ds = { results := [.lit (.bool true)], args := ds })
    (witness : ∃ (w : World) (tape : Tape) (i : Input), w.os = os ∧ (w.forCall tape i).Shaped C.prog ∧ i.vars = [] ∧ Input.okWide C.prog (w.forCall tape i) .any w.heap.size f i ∧
      s.pre6 enc C.prog fn [] false (w.forCall tape i).memory i.args ∧ ({} : Assume).holds C.prog (lone (Frame.enter C.prog f i.args .normal) [] (w.forCall tape i)))
    (walk : ∀ (W : World) (base : Nat) (args : Array Value) (ds : List (DataW H)) (ps : List MemPlace), (∀ (j : Nat) t v, fn.params[j]? = some t → args[j]? = some v → Value.okWide C.prog W .any base t v) →
      DataW.TrodAll enc C.prog W 0 (fun _ => true) true fn.params.toList args.toList ds ps → CallT C.prog f args (Gw W) [] fun v G _ => v = .bool true ∧ Gh.le (Gw W) G) :
    ReturnsInHanded {} C os f .any (s.pre6 enc C.prog fn [] false) (s.post enc C.prog fn false true false false) := by
  refine returnsInHanded_of_change own started noInit hfn witness ?_
  intro W base args ds gs before hval hW _ _
  have hW' := hW
  obtain ⟨p, q, hA, hV, rfl, hfz, hnd⟩ := hW
  rw [hvars] at hV
  obtain ⟨rfl, rfl⟩ := trodVars_none hV
  refine ((walk W base args ds p hval hA).run (St.start W)).mono ?_
  rintro e W' ⟨v, G, L, rfl, hs, rfl, hG⟩
  have hb := hs.below hG
  have hlt : ∀ x ∈ p, x.block < W.heap.size := fun x hx => hW'.lt x (List.mem_append_left _ hx)
  have hlen : ds.length = fn.params.toList.length := by
    have : ∀ (ts : List TypeId) (vs : List Value) (ds : List (DataW H)) (ps : List MemPlace), DataW.TrodAll enc C.prog W 0 (fun _ => true) true ts vs ds ps → ds.length = ts.length := by
      intro ts
      induction ts with
      | nil => intro vs ds ps h; cases vs <;> cases ds <;> simp_all [DataW.TrodAll]
      | cons t ts ih =>
        intro vs ds ps h
        cases vs <;> cases ds <;> simp only [DataW.TrodAll] at h
        obtain ⟨_, _, _, h2, _⟩ := h
        simp [ih _ _ _ h2]
    exact this _ _ _ _ hA
  refine ⟨_, rfl, ds, [], _, [], p, [], hW', ?_, ?_, ?_, hb.frame _, fun h => by cases h⟩
  · rw [List.append_nil, hsp ds hlen, hres]
    exact trodAll_mk1 (shut_bool htb true)
  · rw [List.append_nil, hsp ds hlen]
    exact trodAll_stays hl hb (recs_of hr) hlt hA
  · rw [List.append_nil, hsp ds hlen, hvars]
    exact rfl
end Go.Proofs.YtpjajhjcbcfplaaGreat
namespace Go.Proofs.YtpjajhjcbcfplaaGreat
set_option linter.unusedVariables false
set_option linter.unusedSimpArgs false
open Go Go.ChangeShapes Go.WideShapes Go.ChangeAt Go.RowKit
set_option linter.unusedSimpArgs false
def okU8 (_ : Gh) (_ : UInt8) : Prop := True
theorem opnU8 {P : Program} {t : TypeId} (ht : P.underlying t = some (.int .u8)) : Opn P t byteT okU8 := fun h => by
  obtain ⟨n, rfl, _, hw⟩ := DataW.trod_int ht h
  have : IntKind.u8.min ≤ n ∧ n ≤ IntKind.u8.max := by simpa [Lit.wf] using hw
  simp only [show IntKind.u8.min = 0 from rfl, show IntKind.u8.max = 255 from rfl] at this
  refine ⟨UInt8.ofNat n.toNat, ?_, trivial⟩
  simp only [byteT, UInt8.toNat_ofNat']
  congr 2
  omega
set_option maxRecDepth 100000
theorem Tryz.own : ownKnob Tryz.prog.godebug = none := by kernel_rfl
theorem Tryz.laidOut : laidOutB Tryz.prog = true := by kernel_rfl
theorem waiveAll_lifted (os : Os) (started : os.Started) (H : Type) (enc : TypeId × Value → H) :
    ReturnsInHanded {} Tryz.checked os 5 .any (Rows.fnWaiveAllSpec.pre6 enc Tryz.prog Tryz.f5 [] false) (Rows.fnWaiveAllSpec.post enc Tryz.prog Tryz.f5 false true false false) := by
  refine law_lifted (C := Tryz.checked) Tryz.own started (by kernel_rfl) Tryz.func5 Tryz.laidOut rfl (by kernel_rfl) rfl Tryz.underlying4 (fun ds h => ?_)
    (ChangeSpec.witness6 (enc := enc) (C := Tryz.checked) false ⟨#[], #[.slice none 0 0], []⟩ 8 (by kernel_rfl) (by kernel_rfl) (by kernel_rfl) (by kernel_rfl)) ?_
  · match ds, h with
    | [d], _ => rfl
  · intro W base args ds ps hval hA
    have hA : DataW.TrodAll enc Tryz.prog W 0 (fun _ => true) true Tryz.f5.params.toList args.toList ds ps := hA
    have hval : ∀ (j : Nat) t v, Tryz.f5.params[j]? = some t → args[j]? = some v → Value.okWide Tryz.prog W .any base t v := hval
    rw [Tryz.params5] at hA hval
    obtain ⟨v0, d0, rfl, rfl, h0⟩ := trodAll_one hA
    obtain ⟨s, rfl, q1, _⟩ := argSl Tryz.underlying41 (opnSl (F := byteT) (ok := okU8) Tryz.underlying41 (opnU8 Tryz.underlying5) (by kernel_rfl) (by decide)) (hval 0 _ v0 rfl rfl) h0
    exact law_FnWaiveAll q1 ⟨rfl, Gh.le_refl _⟩
theorem waiveAll_holds : Rows.FnWaiveAllSaid :=
  OpenClaim.holds_of_wide 5 Tryz.f5 rfl rfl rfl rfl rfl rfl rfl ⟨rfl, rfl, rfl, rfl, rfl⟩ rfl rfl rfl rfl rfl (by kernel_rfl) Tryz.func5 (by kernel_rfl)
    (of_decide_eq_true (by kernel_rfl)) (by unfold Func.isWrapper; first | (rw [if_pos (by decide +kernel)]; kernel_rfl) | (rw [if_neg (by decide +kernel)]; exact ⟨rfl, rfl⟩))
    (fun os started H enc _ => waiveAll_lifted os started H enc)
end Go.Proofs.YtpjajhjcbcfplaaGreat
