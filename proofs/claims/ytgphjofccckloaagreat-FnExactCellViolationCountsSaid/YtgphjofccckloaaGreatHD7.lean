/-
  The law FnExactCellViolationCounts: whatever the library and the deck, the law returns true and all read as before.
-/
import Derived.Test.YtgphjofccckloaaGreatHD6
import Derived.ProofKit
import Derived.Deep.Slices
import Derived.Carry
import Derived.Test.YtgphjofccckloaaGreatRows
namespace Go.Proofs.YtgphjofccckloaaGreat
set_option linter.unusedVariables false
set_option linter.unusedSimpArgs false
open Go
set_option maxRecDepth 20000
set_option maxHeartbeats 2000000
set_option linter.unusedSimpArgs false
variable {G : Gh} {L : List Ch} {R : Value → Gh → List Ch → Prop}
theorem rmE_ok {l : List (List Rect)} {q : Rule} (hl : isLay l = true) (hr : validRule q = true) : rmE l q = rmL l q := by rw [rmE, if_pos (by rw [hl, hr]; rfl)]
theorem checked_i {v : Value} {ys : List (Sl Rect)} {d : Deck} (h1 : Rs G L slT v ys) (hd : RsE G L rectT ys) (h2 : Rs G L ruleT d.rules.v d.rules.xs) (hly : isLay (er ys) = true) (hk : deckOk d.rules.xs = true) (k : ∀ v' zs, erVs zs = chkL (er ys) d.rules.xs → R v' G (osl 118 violT v' zs :: bagS 91 rectT (mks zs) :: L)) : CallT Tryz.prog 82 #[v, vT deckT d] G L R := by
 have hdl := deck_len hk
 refine CallT.enter (args := _) Tryz.func82 rfl rfl (by kernel_rfl) rfl ?_
 refine WP.seq (WP.region ?_)
 refine RG.ot rfl (OT.box (cs := deckT.enc d) rfl rfl rfl fun b3 => ?_)
 refine RG.pv rfl (PV.asg rfl rfl) (RG.nil (WP.seq (WP.region ?_)))
 refine RG.ot rfl (OT.bslice (F := violT) (els := []) rfl El61 rfl (by decide) rfl (by decide) trivial fun v10 => ?_)
 refine RG.pv rfl (PV.asg (v := v10) rfl rfl) (RG.nil (WP.seq (WP.seq (WP.region (RG.pv rfl (PV.field rfl Fo39_0 rfl) (RG.pv rfl (PV.load1 rfl Sc37 rfl (Rd.blk rfl)) (RG.pv rfl (PV.len rfl Tryz.underlying37 rfl (SlF.r h2)) ?_)))))))
 refine RG.ml rfl rfl rfl (RG.nil (WP.block ?_))
 refine WP.cv ((Cv.p (C := osl 118 violT v10 ([] : List Viol) :: blk b3 39 (deckT.enc d) :: L)).trans (Cv.cons (Cv.bag0 (e := 91) (F := rectT) (xs := mks []) rfl))) ?_
 refine WP.loop3 [0, 12, 13] (fun (i : Nat) (out : List Viol) (q : Value) => i ≤ d.rules.xs.length ∧ out.length ≤ i * 6400 ∧ erVs out = chkTo (er ys) d.rules.xs i) (fun (i : Nat) (out : List Viol) (q : Value) => [(14, vi i), (5, q)]) (fun (i : Nat) (out : List Viol) (q : Value) => osl 118 violT q out :: bagS 91 rectT (mks out) :: blk b3 39 (deckT.enc d) :: L) (fun (i : Nat) (out : List Viol) (q : Value) => d.rules.xs.length - i) 0 [] v10 ⟨by omega, by simp, rfl⟩ ⟨rfl, rfl, trivial⟩ Cv.p ?_
 rintro i out q τ ⟨hi, hol, hev⟩
 refine WP.seq (WP.region (RG.pv rfl (PV.lss rfl rfl rfl) (RG.nil (WP.seq ?_))))
 refine WP.cond rfl (fun h3 => ?_) (fun h3 => ?_)
 · have h3 := of_decide_eq_true h3
   have hrm := rmE_ok hly (deck_rule hk (i := i) (by omega))
   refine WP.skip (WP.seq (WP.block (WP.seq (WP.region (RG.ml rfl rfl rfl (RG.pv rfl (PV.idxS rfl Is37 rfl (SlF.r h2) rfl rfl (by omega)) (RG.pv rfl (PV.loadE rfl Ag53 rfl rfl (El.r h2 (getG (by omega)))) ?_)))))))
   refine RG.ot rfl (OT.alloc rfl Zr53 fun b7 => ?_)
   refine RG.mr rfl rfl rfl ?_
   refine RG.ot rfl (OT.storeW (vs := [vi _, vi _, vi _, vi _, vi _]) rfl Sz53 rfl rfl (Cl.c rfl) rfl rfl (OneC.c rfl) ?_)
   refine RG.nil (WP.seq (WP.region (RG.pv rfl (PV.move (v := v) rfl rfl) (RG.pv rfl (PV.loadW rfl Ag53 rfl rfl) ?_))))
   refine RG.callF (vs := [v, _]) rfl rfl En55 rfl (rule_i (q := gd d.rules.xs i) (Rs.up h1) hd.up hly (deck_rule hk (by omega)) (fun v21 => ?_))
   refine RG.callF (vs := [v21]) rfl rfl En163 rfl (components_s Rs.o (fun v22 psv22 hpv22 => ?_))
   refine RG.pv rfl (PV.len (v := v22) rfl Tryz.underlying71 rfl SlF.o) (RG.ml rfl rfl rfl (RG.nil (WP.block ?_)))
   have hpl : psv22.length ≤ 6400 := by have := congrArg List.length hpv22; rw [er_len] at this; rw [this, partsL, List.length_map]; exact comps_len _
   have hps : ∀ m, m < psv22.length → Rs G [bagS 91 rectT (mks out ++ psv22)] rectT (gd psv22 m).v (gd psv22 m).xs := fun m hm => by
     have := Rs.inBag (G := G) (L := [bagS 91 rectT (mks out ++ psv22)]) (L' := []) (e := 91) (F := rectT) (xs := mks out ++ psv22) ((mks out).length + m) (by simp; omega)
     rwa [gd_apq] at this
   refine WP.cv ((Cv.p (C := bagS 91 rectT (mks out) :: bagS 91 rectT psv22 :: osl 118 violT q out :: osl 50 slT v22 psv22 :: blk b3 39 (deckT.enc d) :: L)).trans Cv.bagJoin) ?_
   refine WP.loop3 [0, 6, 12, 13, 14, 22, 23] (fun (m : Nat) (out2 : List Viol) (q2 : Value) => m ≤ psv22.length ∧ out2.length = out.length + m ∧ mks out2 ++ psv22.drop m = mks out ++ psv22 ∧ erVs out2 = erVs out ++ ((er psv22).take m).map (fun p => ((i : Int), p))) (fun (m : Nat) (out2 : List Viol) (q2 : Value) => [(24, vi m), (5, q2)]) (fun (m : Nat) (out2 : List Viol) (q2 : Value) => bagS 91 rectT (mks out ++ psv22) :: osl 118 violT q2 out2 :: osl 50 slT v22 psv22 :: blk b3 39 (deckT.enc d) :: L) (fun (m : Nat) (out2 : List Viol) (q2 : Value) => psv22.length - m) 0 out q ⟨by omega, by omega, rfl, by simp⟩ ⟨rfl, rfl, trivial⟩ Cv.p ?_
   rintro m out2 q2 τ1 ⟨hm, hol2, heq, hev2⟩
   refine WP.seq (WP.region (RG.pv rfl (PV.lss rfl rfl rfl) (RG.nil (WP.seq ?_))))
   refine WP.cond rfl (fun h4 => ?_) (fun h4 => ?_)
   · have h4 := of_decide_eq_true h4
     have h40 : m < psv22.length := by omega
     have hpm := hps m h40
     have heq' : mks (out2 ++ [⟨(i : Int), gd psv22 m⟩]) ++ psv22.drop (m + 1) = mks out ++ psv22 := by
       rw [mks_app, List.append_assoc, ← heq, List.drop_eq_getElem_cons h40, gd_eq h40]; rfl
     have hev3 : erVs (out2 ++ [⟨(i : Int), gd psv22 m⟩]) = erVs out ++ ((er psv22).take (m + 1)).map (fun p => ((i : Int), p)) := by
       rw [erVs_app, hev2, List.take_add_one, getG (by rw [er_len]; exact h40), er_gd, List.append_assoc, List.map_append]; rfl
     refine WP.skip (WP.seq (WP.block (WP.seq (WP.region (RG.pv rfl (PV.idxS (v := v22) rfl Is71 rfl SlF.o rfl rfl (by omega)) (RG.pv rfl (PV.loadE1 rfl Sc50 rfl rfl (El.o (getG (by omega))) rfl) (RG.pv rfl (PV.asg rfl rfl) ?_)))))))
     refine RG.nil (WP.region (RG.pv rfl (PV.move (v := q2) rfl rfl) (RG.ml rfl rfl rfl (RG.pv rfl (PV.move rfl rfl) (RG.pv rfl (PV.build (vs := [(0, [vi _]), (1, [_])]) (out := [_, _]) rfl Zr118 Pl118 ⟨rfl, (Cl.c rfl), ⟨rfl, (Cl.s (SlF.r hpm)), trivial⟩⟩ rfl) ?_)))))
     refine RG.ot rfl (OT.bslice (F := violT) (els := [⟨(i : Int), gd psv22 m⟩]) rfl El61 rfl (by decide) rfl (by decide) ⟨rfl, (Cl.c rfl), trivial⟩ fun v32 => ?_)
     refine RG.ot rfl (OT.append (v := q2) (u := v32) (F := violT) rfl El61 rfl (by decide) rfl rfl Rs.o (OneL.one (OneC.val rfl (OneC.sl (SlF.r hpm) OneC.nil))) rfl (by first | omega | (simp <;> omega)) fun v33 => ?_)
     refine RG.pv rfl (PV.asg (v := v33) rfl rfl) (RG.nil (WP.region (RG.pv rfl (PV.add rfl rfl rfl (by omega)) (RG.ml rfl rfl rfl (RG.nil ?_)))))
     exact ⟨rfl, m + 1, (out2 ++ [⟨(i : Int), gd psv22 m⟩]), v33, ⟨by omega, by simp; omega, heq', hev3⟩, ⟨rfl, rfl, trivial⟩, ⟨rfl, rfl, rfl, rfl, rfl, rfl, rfl, trivial⟩, Cv.p, by omega⟩
   · have h4 := of_decide_eq_false h4
     obtain rfl : m = psv22.length := by omega
     rw [List.drop_length, List.append_nil] at heq
     rw [List.take_of_length_le (by rw [er_len]; omega), hpv22, hev, ← hrm, ← chkTo_succ] at hev2
     refine WP.exit ?_
     refine WP.region (RG.pv rfl (PV.add rfl rfl rfl (by omega)) (RG.ml rfl rfl rfl (RG.nil ?_)))
     exact ⟨rfl, i + 1, out2, q2, ⟨by omega, by omega, hev2⟩, ⟨rfl, rfl, trivial⟩, ⟨rfl, rfl, rfl, trivial⟩, (by simp only [heq]; exact Cv.p), by omega⟩
 · have h3 := of_decide_eq_false h3
   obtain rfl : i = d.rules.xs.length := by omega
   refine WP.exit ?_
   refine WP.seq (WP.region (RG.pv rfl (PV.move (v := q) rfl rfl) (RG.pv rfl (PV.asg (v := q) rfl rfl) (RG.nil ?_))))
   refine WP.ret ?_
   exact ⟨_, _, ResV.one rfl rfl, Cv.p, k q out hev⟩
theorem chkLay_i {v : Value} {ys : List (Sl Rect)} {d : Deck} (h1 : Rs G L slT v ys) (hd : RsE G L rectT ys) (h2 : Rs G L ruleT d.rules.v d.rules.xs) (k : ∀ v' zs, erVs zs = chkR (er ys) d.rules.xs → R (.tuple #[v', vi (chkE (er ys) d.rules.xs)]) G (osl 118 violT v' zs :: bagS 91 rectT (mks zs) :: L)) : CallT Tryz.prog 44 #[v, vT deckT d] G L R := by
 refine CallT.enter (args := _) Tryz.func44 rfl rfl (by kernel_rfl) rfl ?_
 refine WP.seq (WP.region ?_)
 refine RG.ot rfl (OT.box (cs := deckT.enc d) rfl rfl rfl fun b3 => ?_)
 refine RG.pv rfl (PV.asg rfl rfl) (RG.mr rfl rfl rfl (RG.nil (WP.seq (WP.seq (WP.region (RG.pv rfl (PV.move (v := v) rfl rfl) ?_))))))
 refine RG.callF (vs := [v]) rfl rfl En81 rfl (isLayout_s (Rs.up h1) hd.up ?_)
 refine RG.pv rfl (PV.not rfl rfl) (RG.bl rfl rfl rfl ?_)
 refine RG.gs rfl rfl rfl (fun hp => (PV.loadW rfl Ag39 rfl rfl)) ?_
 refine RG.gsC rfl rfl rfl rfl En42 (fun hp => ⟨_, (acons (gs_t hp) anil), deck_i (Rs.up h2) ⟨rfl, rfl, rfl⟩⟩) ?_
 refine RG.gs rfl rfl rfl (fun hp => (PV.not rfl (gs_t hp))) ?_
 refine RG.pv rfl (PV.pickO rfl rfl rfl (fun hq => gs_t (geqF hq))) (RG.nil ?_)
 refine WP.cond rfl (fun h3 => ?_) (fun h3 => ?_)
 · obtain ⟨e1, e2⟩ := chkE_no h3
   rw [e1, e2] at k
   refine WP.seq (WP.region (RG.pv rfl (PV.asg rfl rfl) (RG.mr rfl rfl rfl (RG.nil ?_))))
   refine WP.ret ?_
   exact ⟨_, _, ResV.two rfl rfl rfl, Cv.nilV, k (.slice none 0 0) [] rfl⟩
 · have h4 : isLay (er ys) = true ∧ deckOk d.rules.xs = true := by cases c : isLay (er ys) <;> cases d : deckOk d.rules.xs <;> simp_all
   have hdl := deck_len h4.2
   refine WP.skip (WP.seq (WP.region (RG.pv rfl (PV.move (v := v) rfl rfl) (RG.pv rfl (PV.loadW rfl Ag39 rfl rfl) ?_))))
   refine RG.callF (vs := [v, _]) rfl rfl En82 rfl ( checked_i (Rs.up h1) hd.up (Rs.up h2) h4.1 h4.2 (fun v17 zsv17 hzv17 => ?_))
   refine RG.pv rfl (PV.asg (v := v17) rfl rfl) (RG.nil (WP.seq (WP.seq (WP.region (RG.pv rfl (PV.move (v := v17) rfl rfl) (RG.pv rfl (PV.len (v := v17) rfl Tryz.underlying61 rfl SlF.o) (RG.pv rfl (PV.gtr rfl rfl rfl) ?_)))))))
   refine RG.nil ?_
   have hzl : zsv17.length = (chkL (er ys) d.rules.xs).length := by rw [← erVs_len, hzv17]
   refine WP.cond rfl (fun h5 => ?_) (fun h5 => ?_)
   · have h6 : ¬ (chkL (er ys) d.rules.xs).length ≤ 256 := by have := of_decide_eq_true h5; omega
     obtain ⟨e1, e2⟩ := chkE_big h4 h6
     rw [e1, e2] at k
     refine WP.seq (WP.region (RG.pv rfl (PV.asg rfl rfl) (RG.mr rfl rfl rfl (RG.nil ?_))))
     refine WP.ret ?_
     exact ⟨_, _, ResV.two rfl rfl rfl, Cv.nilV, k (.slice none 0 0) [] rfl⟩
   · have h6 : (chkL (er ys) d.rules.xs).length ≤ 256 := by have := of_decide_eq_false h5; omega
     obtain ⟨e1, e2⟩ := chkE_ok h4 h6
     rw [e1, e2] at k
     refine WP.skip (WP.seq (WP.region (RG.pv rfl (PV.move (v := v17) rfl rfl) (RG.pv rfl (PV.asg (v := v17) rfl rfl) (RG.mr rfl rfl rfl (RG.nil ?_))))))
     refine WP.ret ?_
     exact ⟨_, _, ResV.two rfl rfl rfl, Cv.p, k v17 zsv17 hzv17⟩
end Go.Proofs.YtgphjofccckloaaGreat
namespace Go.Proofs.YtgphjofccckloaaGreat
set_option linter.unusedVariables false
set_option linter.unusedSimpArgs false
open Go
set_option maxRecDepth 20000
set_option maxHeartbeats 2000000
set_option linter.unusedSimpArgs false
variable {G : Gh} {L : List Ch} {R : Value → Gh → List Ch → Prop}
noncomputable def cvAt (cs : List ECell) (rs : List Rule) (k : Nat) : Int := if shE cs (k : Int) = 0 then (if chkE (flyL cs (k : Int)) rs = 0 then ((chkL (flyL cs (k : Int)) rs).length : Int) else -1) else -1
noncomputable def cvTo (cs : List ECell) (rs : List Rule) (i : Nat) : List Int := (List.range i).map (cvAt cs rs)
theorem cvTo_succ (cs : List ECell) (rs : List Rule) (i : Nat) : cvTo cs rs (i + 1) = cvTo cs rs i ++ [cvAt cs rs i] := by rw [cvTo, cvTo, List.range_succ, List.map_append]; rfl
theorem cvTo_len (cs : List ECell) (rs : List Rule) (i : Nat) : (cvTo cs rs i).length = i := by simp [cvTo]
def cvE (cs : List ECell) (rs : List Rule) : Int := if (okLib cs && deckOk rs) = true then 0 else 1
noncomputable def cvR (cs : List ECell) (rs : List Rule) : List Int := if (okLib cs && deckOk rs) = true then cvTo cs rs cs.length else []
theorem cvR_len (cs : List ECell) (rs : List Rule) : (cvR cs rs).length ≤ 8 := by
 unfold cvR; split
 · rename_i h
   simp only [Bool.and_eq_true] at h
   rw [cvTo_len]; exact (okLib_len h.1).2
 · exact Nat.zero_le _
theorem cv_i {l : Lib} {d : Deck} (hL : RLib G L l.cells.v l.cells.xs) (hlen : lenC (erCls l.cells.xs)) (h2 : Rs G L ruleT d.rules.v d.rules.xs) (k : ∀ v', R (.tuple #[v', vi (cvE (erCls l.cells.xs) d.rules.xs)]) G (osl 2 intT v' (cvR (erCls l.cells.xs) d.rules.xs) :: L)) : CallT Tryz.prog 12 #[vT libT l, vT deckT d] G L R := by
 have hE := erCls_len l.cells.xs
 refine CallT.enter (args := _) Tryz.func12 rfl rfl (by kernel_rfl) rfl ?_
 refine WP.seq (WP.region ?_)
 refine RG.ot rfl (OT.box (cs := libT.enc l) rfl rfl rfl fun b2 => ?_)
 refine RG.ot rfl (OT.box (cs := deckT.enc d) rfl rfl rfl fun b3 => ?_)
 refine RG.pv rfl (PV.asg rfl rfl) (RG.mr rfl rfl rfl (RG.nil (WP.seq (WP.seq (WP.region (RG.pv rfl (PV.loadW rfl Ag35 rfl rfl) ?_))))))
 refine RG.callF (vs := [_]) rfl rfl En41 rfl (okLib_i hL.up hlen ?_)
 refine RG.pv rfl (PV.not rfl rfl) (RG.bl rfl rfl rfl ?_)
 refine RG.gs rfl rfl rfl (fun hp => (PV.loadW rfl Ag39 rfl rfl)) ?_
 refine RG.gsC rfl rfl rfl rfl En42 (fun hp => ⟨_, (acons (gs_t hp) anil), deck_i (Rs.up h2) ⟨rfl, rfl, rfl⟩⟩) ?_
 refine RG.gs rfl rfl rfl (fun hp => (PV.not rfl (gs_t hp))) ?_
 refine RG.pv rfl (PV.pickO rfl rfl rfl (fun hq => gs_t (geqF hq))) (RG.nil ?_)
 refine WP.cond rfl (fun h3 => ?_) (fun h3 => ?_)
 · have h4 : ¬ (okLib (erCls l.cells.xs) && deckOk d.rules.xs) = true := by cases c : okLib (erCls l.cells.xs) <;> cases e : deckOk d.rules.xs <;> simp_all
   rw [cvE, cvR, if_neg h4, if_neg h4] at k
   refine WP.seq (WP.region (RG.pv rfl (PV.asg rfl rfl) (RG.mr rfl rfl rfl (RG.nil ?_))))
   refine WP.ret ?_
   exact ⟨_, _, ResV.two rfl rfl rfl, (Cv.p (C := L)).trans Cv.nilS, k (.slice none 0 0)⟩
 · have h4 : okLib (erCls l.cells.xs) = true ∧ deckOk d.rules.xs = true := by cases c : okLib (erCls l.cells.xs) <;> cases e : deckOk d.rules.xs <;> simp_all
   have h5 : (okLib (erCls l.cells.xs) && deckOk d.rules.xs) = true := by rw [h4.1, h4.2]; rfl
   have hl8 := (okLib_len h4.1).2
   rw [cvE, cvR, if_pos h5, if_pos h5] at k
   refine WP.skip (WP.seq (WP.region ?_))
   refine RG.ot rfl (OT.bslice (F := intT) (els := []) rfl El30 rfl (by decide) rfl (by decide) trivial fun v21 => ?_)
   refine RG.pv rfl (PV.asg (v := v21) rfl rfl) (RG.nil (WP.seq (WP.seq (WP.region (RG.pv rfl (PV.field rfl Fo35_0 rfl) (RG.pv rfl (PV.load1 rfl Sc33 rfl (Rd.blk rfl)) (RG.pv rfl (PV.len rfl Tryz.underlying33 rfl (SlF.r hL.c)) ?_)))))))
   refine RG.ml rfl rfl rfl (RG.nil (WP.block ?_))
   refine WP.loop2 [2, 3, 24] (fun (i : Nat) (q : Value) => i ≤ l.cells.xs.length) (fun (i : Nat) (q : Value) => [(25, vi i), (6, q)]) (fun (i : Nat) (q : Value) => osl 2 intT q (cvTo (erCls l.cells.xs) d.rules.xs i) :: blk b2 35 (libT.enc l) :: blk b3 39 (deckT.enc d) :: L) (fun (i : Nat) (q : Value) => l.cells.xs.length - i) 0 v21 (by omega) ⟨rfl, rfl, trivial⟩ ((Cv.p (C := osl 2 intT v21 [] :: blk b2 35 (libT.enc l) :: blk b3 39 (deckT.enc d) :: L)).trans (Cv.eqS (show ([] : List Int) = cvTo (erCls l.cells.xs) d.rules.xs 0 from rfl))) ?_
   rintro i q τ hi
   refine WP.seq (WP.region (RG.pv rfl (PV.lss rfl rfl rfl) (RG.nil (WP.seq ?_))))
   have hcl := cvTo_len (erCls l.cells.xs) d.rules.xs i
   refine WP.cond rfl (fun h6 => ?_) (fun h6 => ?_)
   · have h6 := of_decide_eq_true h6
     have hst := cvTo_succ (erCls l.cells.xs) d.rules.xs i
     refine WP.skip (WP.seq (WP.block (WP.seq (WP.region (RG.ml rfl rfl rfl (RG.mr rfl rfl rfl (RG.nil ?_)))))))
     refine WP.seq (WP.region (RG.mr rfl rfl rfl (RG.nil (WP.seq (WP.seq (WP.region (RG.pv rfl (PV.loadW rfl Ag35 rfl rfl) ?_)))))))
     refine RG.ml rfl rfl rfl ?_
     refine RG.callF (vs := [_, _]) rfl rfl En43 rfl (fly_i hL.up hlen (fun w31 ys hy => ?_))
     refine RG.pv rfl (PV.move (v := .tuple _) rfl rfl) (RG.pv rfl (PV.ext (v := w31) rfl rfl rfl) (RG.pv rfl (PV.ext rfl rfl rfl) (RG.pv rfl (PV.asg (v := w31) rfl rfl) (RG.mr rfl rfl rfl (RG.nil (WP.seq (WP.region ?_)))))))
     refine RG.ml rfl rfl rfl (RG.pv rfl (PV.eql rfl rfl rfl) (RG.nil ?_))
     refine WP.cond rfl (fun h7 => ?_) (fun h7 => ?_)
     · have h7 : shE (erCls l.cells.xs) (i : Int) = 0 := by simpa using h7
       refine WP.seq (WP.region (RG.pv rfl (PV.move (v := w31) rfl rfl) (RG.pv rfl (PV.loadW rfl Ag39 rfl rfl) ?_)))
       refine RG.callF (vs := [w31, _]) rfl rfl En44 rfl (chkLay_i Rs.o RsE.o (Rs.up h2) (fun w39 zsw39 hzw39 => ?_))
       refine RG.pv rfl (PV.move (v := .tuple _) rfl rfl) (RG.pv rfl (PV.ext (v := w39) rfl rfl rfl) (RG.pv rfl (PV.ext rfl rfl rfl) (RG.pv rfl (PV.asg (v := w39) rfl rfl) (RG.mr rfl rfl rfl (RG.nil (WP.seq (WP.region ?_)))))))
       refine RG.ml rfl rfl rfl (RG.pv rfl (PV.eql rfl rfl rfl) (RG.nil ?_))
       rw [hy]
       refine WP.cond rfl (fun h8 => ?_) (fun h8 => ?_)
       · have h8 : chkE (flyL (erCls l.cells.xs) (i : Int)) d.rules.xs = 0 := by simpa using h8
         have hzl : (zsw39.length : Int) = cvAt (erCls l.cells.xs) d.rules.xs i := by
           rw [cvAt, if_pos h7, if_pos h8, ← erVs_len, hzw39, hy, chkR, if_pos h8]
         rw [← hzl] at hst
         refine WP.region (RG.pv rfl (PV.move (v := w39) rfl rfl) (RG.pv rfl (PV.len (v := w39) rfl Tryz.underlying61 rfl SlF.o) (RG.mr rfl rfl rfl (RG.nil (WP.region (RG.pv rfl (PV.move (v := q) rfl rfl) (RG.ml rfl rfl rfl ?_)))))))
         refine RG.ot rfl (OT.bslice (F := intT) (els := [_]) rfl El30 rfl (by decide) rfl (by decide) ⟨rfl, (Cl.c rfl), trivial⟩ fun v48 => ?_)
         refine RG.ot rfl (OT.append (v := q) (u := v48) (F := intT) rfl El30 rfl (by decide) rfl rfl Rs.o (OneL.c (fun _ => rfl)) rfl (by first | omega | (simp <;> omega)) fun v49 => ?_)
         refine RG.pv rfl (PV.asg (v := v49) rfl rfl) (RG.nil (WP.region (RG.pv rfl (PV.add rfl rfl rfl (by omega)) (RG.ml rfl rfl rfl (RG.nil ?_)))))
         exact ⟨rfl, i + 1, v49, (by omega), ⟨rfl, rfl, trivial⟩, ⟨rfl, rfl, rfl, trivial⟩, ((Cv.p (C := osl 2 intT v49 (cvTo (erCls l.cells.xs) d.rules.xs i ++ [(zsw39.length : Int)]) :: blk b2 35 (libT.enc l) :: blk b3 39 (deckT.enc d) :: L)).trans (Cv.eqS hst.symm)), by omega⟩
       · have h8 : chkE (flyL (erCls l.cells.xs) (i : Int)) d.rules.xs ≠ 0 := by simpa using h8
         have hzl : (-1 : Int) = cvAt (erCls l.cells.xs) d.rules.xs i := by rw [cvAt, if_pos h7, if_neg h8]
         rw [← hzl] at hst
         refine WP.skip (WP.region (RG.pv rfl (PV.move (v := q) rfl rfl) (RG.ml rfl rfl rfl ?_)))
         refine RG.ot rfl (OT.bslice (F := intT) (els := [_]) rfl El30 rfl (by decide) rfl (by decide) ⟨rfl, (Cl.c rfl), trivial⟩ fun v48 => ?_)
         refine RG.ot rfl (OT.append (v := q) (u := v48) (F := intT) rfl El30 rfl (by decide) rfl rfl Rs.o (OneL.c (fun _ => rfl)) rfl (by first | omega | (simp <;> omega)) fun v49 => ?_)
         refine RG.pv rfl (PV.asg (v := v49) rfl rfl) (RG.nil (WP.region (RG.pv rfl (PV.add rfl rfl rfl (by omega)) (RG.ml rfl rfl rfl (RG.nil ?_)))))
         exact ⟨rfl, i + 1, v49, (by omega), ⟨rfl, rfl, trivial⟩, ⟨rfl, rfl, rfl, trivial⟩, ((Cv.p (C := osl 2 intT v49 (cvTo (erCls l.cells.xs) d.rules.xs i ++ [-1]) :: blk b2 35 (libT.enc l) :: blk b3 39 (deckT.enc d) :: L)).trans (Cv.eqS hst.symm)), by omega⟩
     · have h7 : shE (erCls l.cells.xs) (i : Int) ≠ 0 := by simpa using h7
       have hzl : (-1 : Int) = cvAt (erCls l.cells.xs) d.rules.xs i := by rw [cvAt, if_neg h7]
       rw [← hzl] at hst
       refine WP.skip (WP.region (RG.pv rfl (PV.move (v := q) rfl rfl) (RG.ml rfl rfl rfl ?_)))
       refine RG.ot rfl (OT.bslice (F := intT) (els := [_]) rfl El30 rfl (by decide) rfl (by decide) ⟨rfl, (Cl.c rfl), trivial⟩ fun v48 => ?_)
       refine RG.ot rfl (OT.append (v := q) (u := v48) (F := intT) rfl El30 rfl (by decide) rfl rfl Rs.o (OneL.c (fun _ => rfl)) rfl (by first | omega | (simp <;> omega)) fun v49 => ?_)
       refine RG.pv rfl (PV.asg (v := v49) rfl rfl) (RG.nil (WP.region (RG.pv rfl (PV.add rfl rfl rfl (by omega)) (RG.ml rfl rfl rfl (RG.nil ?_)))))
       exact ⟨rfl, i + 1, v49, (by omega), ⟨rfl, rfl, trivial⟩, ⟨rfl, rfl, rfl, trivial⟩, ((Cv.p (C := osl 2 intT v49 (cvTo (erCls l.cells.xs) d.rules.xs i ++ [-1]) :: blk b2 35 (libT.enc l) :: blk b3 39 (deckT.enc d) :: L)).trans (Cv.eqS hst.symm)), by omega⟩
   · have h6 := of_decide_eq_false h6
     obtain rfl : i = l.cells.xs.length := by omega
     rw [hE] at k
     refine WP.exit ?_
     refine WP.seq (WP.region (RG.pv rfl (PV.move (v := q) rfl rfl) (RG.pv rfl (PV.asg (v := q) rfl rfl) (RG.mr rfl rfl rfl (RG.nil ?_)))))
     refine WP.ret ?_
     exact ⟨_, _, ResV.two rfl rfl rfl, Cv.p, k q⟩
theorem cv_r {l : Lib} {d : Deck} (hL : RLib G L l.cells.v l.cells.xs) (hlen : lenC (erCls l.cells.xs)) (h2 : Rs G L ruleT d.rules.v d.rules.xs) (k : ∀ v', R (.tuple #[v', vi (cvE (erCls l.cells.xs) d.rules.xs)]) G (osl 2 intT v' (cvR (erCls l.cells.xs) d.rules.xs) :: L)) : CallT Tryz.prog 9 #[vT libT l, vT deckT d] G L R := by
 have hE := erCls_len l.cells.xs
 refine CallT.enter (args := _) Tryz.func9 rfl rfl (by kernel_rfl) rfl ?_
 refine WP.seq (WP.region ?_)
 refine RG.ot rfl (OT.box (cs := libT.enc l) rfl rfl rfl fun b2 => ?_)
 refine RG.ot rfl (OT.box (cs := deckT.enc d) rfl rfl rfl fun b3 => ?_)
 refine RG.pv rfl (PV.asg rfl rfl) (RG.mr rfl rfl rfl (RG.nil (WP.seq (WP.seq (WP.region (RG.pv rfl (PV.loadW rfl Ag35 rfl rfl) ?_))))))
 refine RG.callF (vs := [_]) rfl rfl En35 rfl (okLib_r hL.up hlen ?_)
 refine RG.pv rfl (PV.not rfl rfl) (RG.bl rfl rfl rfl ?_)
 refine RG.gs rfl rfl rfl (fun hp => (PV.loadW rfl Ag39 rfl rfl)) ?_
 refine RG.gsC rfl rfl rfl rfl En36 (fun hp => ⟨_, (acons (gs_t hp) anil), deck_r (Rs.up h2) ⟨rfl, rfl, rfl⟩⟩) ?_
 refine RG.gs rfl rfl rfl (fun hp => (PV.not rfl (gs_t hp))) ?_
 refine RG.pv rfl (PV.pickO rfl rfl rfl (fun hq => gs_t (geqF hq))) (RG.nil ?_)
 refine WP.cond rfl (fun h3 => ?_) (fun h3 => ?_)
 · have h4 : ¬ (okLib (erCls l.cells.xs) && deckOk d.rules.xs) = true := by cases c : okLib (erCls l.cells.xs) <;> cases e : deckOk d.rules.xs <;> simp_all
   rw [cvE, cvR, if_neg h4, if_neg h4] at k
   refine WP.seq (WP.region (RG.pv rfl (PV.asg rfl rfl) (RG.mr rfl rfl rfl (RG.nil ?_))))
   refine WP.ret ?_
   exact ⟨_, _, ResV.two rfl rfl rfl, (Cv.p (C := L)).trans Cv.nilS, k (.slice none 0 0)⟩
 · have h4 : okLib (erCls l.cells.xs) = true ∧ deckOk d.rules.xs = true := by cases c : okLib (erCls l.cells.xs) <;> cases e : deckOk d.rules.xs <;> simp_all
   have h5 : (okLib (erCls l.cells.xs) && deckOk d.rules.xs) = true := by rw [h4.1, h4.2]; rfl
   have hl8 := (okLib_len h4.1).2
   have hdl := deck_len h4.2
   rw [cvE, cvR, if_pos h5, if_pos h5] at k
   refine WP.skip (WP.seq (WP.region ?_))
   refine RG.ot rfl (OT.bslice (F := intT) (els := []) rfl El30 rfl (by decide) rfl (by decide) trivial fun v21 => ?_)
   refine RG.pv rfl (PV.asg (v := v21) rfl rfl) (RG.nil (WP.seq (WP.seq (WP.region (RG.mr rfl rfl rfl (RG.nil (WP.block ?_)))))))
   refine WP.loop2 [2, 3] (fun (i : Nat) (q : Value) => i ≤ l.cells.xs.length) (fun (i : Nat) (q : Value) => [(7, vi i), (6, q)]) (fun (i : Nat) (q : Value) => osl 2 intT q (cvTo (erCls l.cells.xs) d.rules.xs i) :: blk b2 35 (libT.enc l) :: blk b3 39 (deckT.enc d) :: L) (fun (i : Nat) (q : Value) => l.cells.xs.length - i) 0 v21 (by omega) ⟨rfl, rfl, trivial⟩ ((Cv.p (C := osl 2 intT v21 [] :: blk b2 35 (libT.enc l) :: blk b3 39 (deckT.enc d) :: L)).trans (Cv.eqS (show ([] : List Int) = cvTo (erCls l.cells.xs) d.rules.xs 0 from rfl))) ?_
   rintro i q τ hi
   refine WP.seq (WP.seq (WP.region (RG.ml rfl rfl rfl (RG.pv rfl (PV.field rfl Fo35_0 rfl) (RG.pv rfl (PV.load1 rfl Sc33 rfl (Rd.blk rfl)) (RG.pv rfl (PV.len rfl Tryz.underlying33 rfl (SlF.r hL.c)) (RG.pv rfl (PV.lss rfl rfl rfl) ?_)))))))
   refine RG.nil ?_
   have hcl := cvTo_len (erCls l.cells.xs) d.rules.xs i
   refine WP.cond rfl (fun h6 => ?_) (fun h6 => ?_)
   · have h6 := of_decide_eq_true h6
     have hst := cvTo_succ (erCls l.cells.xs) d.rules.xs i
     refine WP.skip (WP.seq (WP.block (WP.seq (WP.region (RG.pv rfl (PV.loadW rfl Ag35 rfl rfl) (RG.ml rfl rfl rfl ?_))))))
     refine RG.callF (vs := [_, _]) rfl rfl En37 rfl (fly_r hL.up hlen (fun w32 ys hy => ?_))
     refine RG.pv rfl (PV.move (v := .tuple _) rfl rfl) (RG.pv rfl (PV.ext (v := w32) rfl rfl rfl) (RG.pv rfl (PV.ext rfl rfl rfl) (RG.pv rfl (PV.asg (v := w32) rfl rfl) (RG.mr rfl rfl rfl (RG.nil (WP.seq (WP.region ?_)))))))
     refine RG.mr rfl rfl rfl (RG.nil (WP.seq (WP.seq (WP.region (RG.ml rfl rfl rfl (RG.pv rfl (PV.eql rfl rfl rfl) (RG.nil ?_)))))))
     refine WP.cond rfl (fun h7 => ?_) (fun h7 => ?_)
     · have h7 : shE (erCls l.cells.xs) (i : Int) = 0 := by simpa using h7
       have hly := fly_isLay h7
       refine WP.seq (WP.region (RG.pv rfl (PV.move (v := w32) rfl rfl) (RG.pv rfl (PV.loadW rfl Ag39 rfl rfl) ?_)))
       refine RG.callF (vs := [w32, _]) rfl rfl En38 rfl (check_s Rs.o RsE.o (Rs.up h2) (by omega) (fun w40 zsw40 hzw40 => ?_))
       refine RG.pv rfl (PV.move (v := .tuple _) rfl rfl) (RG.pv rfl (PV.ext (v := w40) rfl rfl rfl) (RG.pv rfl (PV.ext rfl rfl rfl) (RG.pv rfl (PV.asg (v := w40) rfl rfl) (RG.br rfl rfl rfl (RG.nil (WP.seq (WP.region ?_)))))))
       refine RG.bl rfl rfl rfl (RG.nil ?_)
       have hzl0 : zsw40.length = (chkL (flyL (erCls l.cells.xs) (i : Int)) d.rules.xs).length := by rw [← erVs_len, hzw40, hy]; rfl
       refine WP.cond rfl (fun h8 => ?_) (fun h8 => ?_)
       · have h8 : zsw40.length ≤ 256 := by have := of_decide_eq_true h8; omega
         have hzl : (zsw40.length : Int) = cvAt (erCls l.cells.xs) d.rules.xs i := by
           rw [cvAt, if_pos h7, if_pos (chkE_ok ⟨hly, h4.2⟩ (by omega)).1, hzl0]
         rw [← hzl] at hst
         refine WP.region (RG.pv rfl (PV.move (v := w40) rfl rfl) (RG.pv rfl (PV.len (v := w40) rfl Tryz.underlying61 rfl SlF.o) (RG.mr rfl rfl rfl (RG.nil (WP.region (RG.pv rfl (PV.move (v := q) rfl rfl) (RG.ml rfl rfl rfl ?_)))))))
         refine RG.ot rfl (OT.bslice (F := intT) (els := [_]) rfl El30 rfl (by decide) rfl (by decide) ⟨rfl, (Cl.c rfl), trivial⟩ fun v48 => ?_)
         refine RG.ot rfl (OT.append (v := q) (u := v48) (F := intT) rfl El30 rfl (by decide) rfl rfl Rs.o (OneL.c (fun _ => rfl)) rfl (by first | omega | (simp <;> omega)) fun v49 => ?_)
         refine RG.pv rfl (PV.asg (v := v49) rfl rfl) (RG.nil (WP.region (RG.ml rfl rfl rfl (RG.pv rfl (PV.add rfl rfl rfl (by omega)) (RG.mr rfl rfl rfl (RG.nil ?_))))))
         exact ⟨rfl, i + 1, v49, (by omega), ⟨rfl, rfl, trivial⟩, ⟨rfl, rfl, trivial⟩, ((Cv.p (C := osl 2 intT v49 (cvTo (erCls l.cells.xs) d.rules.xs i ++ [(zsw40.length : Int)]) :: blk b2 35 (libT.enc l) :: blk b3 39 (deckT.enc d) :: L)).trans (Cv.eqS hst.symm)), by omega⟩
       · have h8 : ¬ zsw40.length ≤ 256 := by have := of_decide_eq_false h8; omega
         have hzl : (-1 : Int) = cvAt (erCls l.cells.xs) d.rules.xs i := by
           rw [cvAt, if_pos h7, if_neg (by rw [(chkE_big ⟨hly, h4.2⟩ (by omega)).1]; decide)]
         rw [← hzl] at hst
         refine WP.skip (WP.region (RG.pv rfl (PV.move (v := q) rfl rfl) (RG.ml rfl rfl rfl ?_)))
         refine RG.ot rfl (OT.bslice (F := intT) (els := [_]) rfl El30 rfl (by decide) rfl (by decide) ⟨rfl, (Cl.c rfl), trivial⟩ fun v48 => ?_)
         refine RG.ot rfl (OT.append (v := q) (u := v48) (F := intT) rfl El30 rfl (by decide) rfl rfl Rs.o (OneL.c (fun _ => rfl)) rfl (by first | omega | (simp <;> omega)) fun v49 => ?_)
         refine RG.pv rfl (PV.asg (v := v49) rfl rfl) (RG.nil (WP.region (RG.ml rfl rfl rfl (RG.pv rfl (PV.add rfl rfl rfl (by omega)) (RG.mr rfl rfl rfl (RG.nil ?_))))))
         exact ⟨rfl, i + 1, v49, (by omega), ⟨rfl, rfl, trivial⟩, ⟨rfl, rfl, trivial⟩, ((Cv.p (C := osl 2 intT v49 (cvTo (erCls l.cells.xs) d.rules.xs i ++ [-1]) :: blk b2 35 (libT.enc l) :: blk b3 39 (deckT.enc d) :: L)).trans (Cv.eqS hst.symm)), by omega⟩
     · have h7 : shE (erCls l.cells.xs) (i : Int) ≠ 0 := by simpa using h7
       have hzl : (-1 : Int) = cvAt (erCls l.cells.xs) d.rules.xs i := by rw [cvAt, if_neg h7]
       rw [← hzl] at hst
       refine WP.skip (WP.region (RG.pv rfl (PV.move (v := q) rfl rfl) (RG.ml rfl rfl rfl ?_)))
       refine RG.ot rfl (OT.bslice (F := intT) (els := [_]) rfl El30 rfl (by decide) rfl (by decide) ⟨rfl, (Cl.c rfl), trivial⟩ fun v48 => ?_)
       refine RG.ot rfl (OT.append (v := q) (u := v48) (F := intT) rfl El30 rfl (by decide) rfl rfl Rs.o (OneL.c (fun _ => rfl)) rfl (by first | omega | (simp <;> omega)) fun v49 => ?_)
       refine RG.pv rfl (PV.asg (v := v49) rfl rfl) (RG.nil (WP.region (RG.ml rfl rfl rfl (RG.pv rfl (PV.add rfl rfl rfl (by omega)) (RG.mr rfl rfl rfl (RG.nil ?_))))))
       exact ⟨rfl, i + 1, v49, (by omega), ⟨rfl, rfl, trivial⟩, ⟨rfl, rfl, trivial⟩, ((Cv.p (C := osl 2 intT v49 (cvTo (erCls l.cells.xs) d.rules.xs i ++ [-1]) :: blk b2 35 (libT.enc l) :: blk b3 39 (deckT.enc d) :: L)).trans (Cv.eqS hst.symm)), by omega⟩
   · have h6 := of_decide_eq_false h6
     obtain rfl : i = l.cells.xs.length := by omega
     rw [hE] at k
     refine WP.exit ?_
     refine WP.seq (WP.region (RG.pv rfl (PV.move (v := q) rfl rfl) (RG.pv rfl (PV.asg (v := q) rfl rfl) (RG.mr rfl rfl rfl (RG.nil ?_)))))
     refine WP.ret ?_
     exact ⟨_, _, ResV.two rfl rfl rfl, Cv.p, k q⟩
theorem szCellSB_s {v : Value} {xs : List Cell} {n : Int} (hL : RLib G L v xs) (hlen : lenC (erCls xs)) (hn : n ≤ 1048576) (h0 : 0 ≤ n) (k : ∀ r : Int, r ≤ 1048576 → (0 ≤ r → few (erCls xs)) → R (vi r) G L) : CallT Tryz.prog 33 #[v, vi n] G L R := by
 refine CallT.bd hL.c fun hb => ?_
 refine CallT.enter (args := _) Tryz.func33 rfl rfl (by kernel_rfl) rfl ?_
 refine WP.seq (WP.region (RG.mr rfl rfl rfl (RG.nil (WP.seq (WP.region (RG.ml rfl rfl rfl (RG.pv rfl (PV.move (v := v) rfl rfl) ?_)))))))
 refine RG.pv rfl (PV.len (v := v) rfl Tryz.underlying22 rfl (SlF.r hL.c)) (RG.pv rfl (PV.sub rfl rfl rfl (by omega)) (RG.mr rfl rfl rfl (RG.nil (WP.seq (WP.seq (WP.region (RG.ml rfl rfl rfl ?_)))))))
 refine RG.pv rfl (PV.lss rfl rfl rfl) (RG.nil ?_)
 refine WP.cond rfl (fun h2 => ?_) (fun h2 => ?_)
 · have h2 := of_decide_eq_true h2
   refine WP.seq (WP.region (RG.mr rfl rfl rfl (RG.nil ?_)))
   refine WP.ret ?_
   exact ⟨_, _, ResV.one rfl rfl, Cv.p, k _ (by omega) (fun h => by omega)⟩
 · have h2 := of_decide_eq_false h2
   refine WP.skip (WP.seq (WP.seq (WP.region (RG.mr rfl rfl rfl (RG.nil (WP.block ?_))))))
   refine WP.loop2 [0] (fun (i : Nat) (m : Int) => i ≤ xs.length ∧ 0 ≤ m ∧ m ≤ 1048576 ∧ ∀ j, j < i → (gd xs j).shapes.xs.length ≤ 1048576 ∧ (gd xs j).labels.xs.length ≤ 1048576 ∧ (gd xs j).insts.xs.length ≤ 1048576) (fun (i : Nat) (m : Int) => [(5, vi i), (1, vi m)]) (fun (i : Nat) (m : Int) => L) (fun (i : Nat) (m : Int) => xs.length - i) 0 (n - xs.length) ⟨by omega, by omega, by omega, fun j h => by omega⟩ ⟨rfl, rfl, trivial⟩ Cv.p ?_
   rintro i m τ ⟨hi, hm0, hm1, he⟩
   refine WP.seq (WP.seq (WP.region (RG.ml rfl rfl rfl (RG.pv rfl (PV.move (v := v) rfl rfl) (RG.pv rfl (PV.len (v := v) rfl Tryz.underlying22 rfl (SlF.r hL.c)) (RG.pv rfl (PV.lss rfl rfl rfl) (RG.nil ?_)))))))
   refine WP.cond rfl (fun h3 => ?_) (fun h3 => ?_)
   · have h3 := of_decide_eq_true h3
     have h4 : i < xs.length := by omega
     refine WP.skip (WP.seq (WP.block (WP.seq (WP.region (RG.pv rfl (PV.move (v := v) rfl rfl) (RG.ml rfl rfl rfl (RG.pv rfl (PV.idxS (v := v) rfl Is22 rfl (SlF.r hL.c) rfl rfl (by omega)) ?_)))))))
     refine RG.pv rfl (PV.loadE rfl Ag124 rfl rfl (El.r hL.c (getG (by omega)))) (RG.ml rfl rfl rfl ?_)
     refine RG.callF (vs := [_, _]) rfl rfl En69 rfl (szCell_s (hL.sa (by omega)).up (hL.la (by omega)).up (hL.na (by omega)).up (hlen.one (by omega)).1 (hlen.one (by omega)).2 (by omega) (by omega) (fun r hr hr' => ?_))
     refine RG.mr rfl rfl rfl (RG.nil (WP.seq (WP.region (RG.ml rfl rfl rfl (RG.pv rfl (PV.lss rfl rfl rfl) (RG.nil ?_))))))
     refine WP.cond rfl (fun h5 => ?_) (fun h5 => ?_)
     · have h5 := of_decide_eq_true h5
       refine WP.seq (WP.region (RG.mr rfl rfl rfl (RG.nil ?_)))
       refine WP.ret ?_
       exact ⟨_, _, ResV.one rfl rfl, Cv.p, k _ (by omega) (fun h => by omega)⟩
     · have h5 := of_decide_eq_false h5
       have he' : ∀ j, j < i + 1 → (gd xs j).shapes.xs.length ≤ 1048576 ∧ (gd xs j).labels.xs.length ≤ 1048576 ∧ (gd xs j).insts.xs.length ≤ 1048576 := fun j hj => by
         by_cases c : j = i
         · subst c
           have := hr' (by omega)
           exact ⟨by omega, by omega, by omega⟩
         · exact he j (by omega)
       refine WP.skip (WP.region (RG.ml rfl rfl rfl (RG.pv rfl (PV.add rfl rfl rfl (by omega)) (RG.mr rfl rfl rfl (RG.nil ?_)))))
       exact ⟨rfl, i + 1, _, ⟨by omega, by omega, by omega, he'⟩, ⟨rfl, rfl, trivial⟩, ⟨rfl, trivial⟩, Cv.p, by omega⟩
   · have h3 := of_decide_eq_false h3
     refine WP.exit ?_
     refine WP.seq (WP.region (RG.ml rfl rfl rfl (RG.mr rfl rfl rfl (RG.nil ?_))))
     refine WP.ret ?_
     exact ⟨_, _, ResV.one rfl rfl, Cv.p, k _ (by omega) (fun _ => ⟨by rw [erCls_len]; omega, fun j hj => by rw [erCls_len] at hj; rw [erCls_gd hj]; exact he j (by omega)⟩)⟩
theorem szLibB_s {l : Lib} {n : Int} (hL : RLib G L l.cells.v l.cells.xs) (hlen : lenC (erCls l.cells.xs)) (hn : n ≤ 1048576) (h0 : 0 ≤ n) (k : ∀ r : Int, r ≤ 1048576 → (0 ≤ r → few (erCls l.cells.xs)) → R (vi r) G L) : CallT Tryz.prog 7 #[vT libT l, vi n] G L R := by
 refine CallT.enter (args := _) Tryz.func7 rfl rfl (by kernel_rfl) rfl ?_
 refine WP.seq (WP.region ?_)
 refine RG.ot rfl (OT.box (cs := libT.enc l) rfl rfl rfl fun b2 => ?_)
 refine RG.mr rfl rfl rfl (RG.nil (WP.seq (WP.region (RG.pv rfl (PV.field rfl Fo24_0 rfl) (RG.pv rfl (PV.load1 rfl Sc22 rfl (Rd.blk rfl)) (RG.ml rfl rfl rfl ?_))))))
 refine RG.callF (vs := [_, _]) rfl rfl En33 rfl (szCellSB_s hL.up hlen (by omega) (by omega) (fun r hrm hr => ?_))
 refine RG.mr rfl rfl rfl (RG.nil (WP.seq (WP.seq (WP.region (RG.ml rfl rfl rfl (RG.pv rfl (PV.lss rfl rfl rfl) (RG.nil ?_)))))))
 refine WP.cond rfl (fun h2 => ?_) (fun h2 => ?_)
 · refine WP.seq ?_
   refine WP.region (RG.mr rfl rfl rfl (RG.nil ?_))
   refine WP.ret ?_
   exact ⟨_, _, ResV.one rfl rfl, Cv.p, k _ (by omega) (fun h => by omega)⟩
 · have h2 := of_decide_eq_false h2
   refine WP.skip (WP.seq (WP.region (RG.ml rfl rfl rfl (RG.mr rfl rfl rfl (RG.nil ?_)))))
   refine WP.ret ?_
   exact ⟨_, _, ResV.one rfl rfl, Cv.p, k _ (by omega) (fun h => hr h)⟩
end Go.Proofs.YtgphjofccckloaaGreat
namespace Go.Proofs.YtgphjofccckloaaGreat
set_option linter.unusedVariables false
set_option linter.unusedSimpArgs false
open Go
set_option maxRecDepth 20000
set_option maxHeartbeats 2000000
set_option linter.unusedSimpArgs false
variable {G : Gh} {L : List Ch} {R : Value → Gh → List Ch → Prop}
theorem law_CellViolationCounts {l : Lib} {d : Deck} (hA : RLib G L l.cells.v l.cells.xs) (hlen : lenC (erCls l.cells.xs)) (h1 : Rs G L ruleT d.rules.v d.rules.xs) (k : R (.bool true) G L) : CallT Tryz.prog 3 #[vT libT l, vT deckT d] G L R := by
 refine CallT.enter (args := _) Tryz.func3 rfl rfl (by kernel_rfl) rfl ?_
 refine WP.seq (WP.region ?_)
 refine RG.ot rfl (OT.box (cs := libT.enc l) rfl rfl rfl fun b2 => ?_)
 refine RG.ot rfl (OT.box (cs := deckT.enc d) rfl rfl rfl fun b3 => ?_)
 refine RG.br rfl rfl rfl (RG.nil (WP.seq (WP.region (RG.mr rfl rfl rfl (RG.nil (WP.seq (WP.region ?_)))))))
 refine RG.pv rfl (PV.loadW rfl Ag24 rfl rfl) (RG.ml rfl rfl rfl ?_)
 refine RG.callF (vs := [_, _]) rfl rfl En7 rfl (szLibB_s hA.up hlen (by omega) (by omega) (fun r hrm hr => ?_))
 refine RG.mr rfl rfl rfl (RG.nil (WP.seq (WP.seq (WP.region (RG.ml rfl rfl rfl (RG.pv rfl (PV.lss rfl rfl rfl) (RG.nil ?_)))))))
 refine WP.cond rfl (fun c1 => ?_) (fun c1 => ?_)
 · refine WP.seq ?_
   refine WP.region (RG.br rfl rfl rfl (RG.nil ?_))
   refine WP.ret ?_
   exact ⟨_, _, ResV.one rfl rfl, Cv.p, k⟩
 · have c1 := of_decide_eq_false c1
   have hf := hr (by omega)
   refine WP.skip (WP.seq (WP.region (RG.pv rfl (PV.loadW rfl Ag27 rfl rfl) (RG.ml rfl rfl rfl ?_))))
   refine RG.callF (vs := [_, _]) rfl rfl En8 rfl (szDeck_s (Rs.up h1) (by omega) (by omega) (fun r2 hr2 hr2' => ?_))
   refine RG.mr rfl rfl rfl (RG.nil (WP.seq (WP.seq (WP.region (RG.ml rfl rfl rfl (RG.pv rfl (PV.lss rfl rfl rfl) (RG.nil ?_)))))))
   refine WP.cond rfl (fun c2 => ?_) (fun c2 => ?_)
   · refine WP.seq ?_
     refine WP.region (RG.br rfl rfl rfl (RG.nil ?_))
     refine WP.ret ?_
     exact ⟨_, _, ResV.one rfl rfl, Cv.p, k⟩
   · have c2 := of_decide_eq_false c2
     have hr1 := hr2' (by omega)
     have hb1 : d.rules.xs.length ≤ 1048576 := by omega
     have hm3 : costL nRu d.rules.xs = 5 * d.rules.xs.length := nRu_cost _
     have hcr := cvR_len (erCls l.cells.xs) d.rules.xs
     have hcc : costL nI (cvR (erCls l.cells.xs) d.rules.xs) = (cvR (erCls l.cells.xs) d.rules.xs).length := by rw [nI_cost]; omega
     refine WP.skip (WP.seq ?_)
     refine WP.regionH0 (.q 0 (.q 2 (.l 1 (.l 3 (.l 4 (.q 5 (.q 6 (.q 7 (.q 8 (.q 9 Sch.nil)))))))))) (by kernel_rfl) (by kernel_rfl) (by kernel_rfl) rfl ?_
     refine RH.pv rfl (fun _ _ _ _ h => h) (Gh.le_refl _) PickC.pick rfl (PV.loadW rfl Ag24 rfl rfl) ?_
     refine RH.pv rfl (fun _ _ _ _ h => h) (Gh.le_refl _) PickC.pick rfl (PV.loadW rfl Ag27 rfl rfl) ?_
     refine RH.ot rfl rfl (OT.callF (vs := [_]) rfl En10 rfl (toLib_s hA.up hf (fun w29 ysw29 hew29 => ⟨Gh.le_refl _, PickC.pick, ?_⟩)))
     refine RH.ot rfl rfl (OT.callF (vs := [_]) rfl En11 rfl (toDeck_s (Rs.up h1) hb1 (fun w31 => ⟨Gh.le_refl _, PickC.pick, ?_⟩)))
     refine RH.ot rfl rfl (OT.callF (vs := [_, _]) rfl En9 rfl (cv_r (l := ⟨⟨w29, ysw29⟩⟩) (d := ⟨⟨w31, d.rules.xs⟩⟩) ⟨Rs.o, RsE.o, RsE.o, RsE.o⟩ (by rw [hew29]; exact hlen) Rs.o (fun w32 => ⟨Gh.le_refl _, PickC.pick, ?_⟩)))
     refine RH.pv rfl (fun _ _ _ _ h => h) (Gh.le_refl _) PickC.pick rfl (PV.move (v := .tuple _) rfl rfl) ?_
     refine RH.pv rfl (fun _ _ _ _ h => h) (Gh.le_refl _) PickC.pick rfl (PV.ext (v := w32) rfl rfl rfl) ?_
     refine RH.pv rfl (fun _ _ _ _ h => h) (Gh.le_refl _) PickC.pick rfl (PV.ext rfl rfl rfl) ?_
     refine RH.pv rfl (fun _ _ _ _ h => h) (Gh.le_refl _) PickC.pick rfl (PV.asg (v := w32) rfl rfl) ?_
     refine RH.pv rfl (fun _ _ _ _ h => h) (Gh.le_refl _) PickC.pick rfl (PV.mvI (.inr rfl) rfl) ?_
     refine RH.nil ?_
     refine WP.seq (WP.region (RG.pv rfl (PV.loadW rfl Ag24 rfl rfl) ?_))
     refine RG.callF (vs := [_]) rfl rfl En10 rfl (toLib_s hA.up hf (fun w36 ysw36 hew36 => ?_))
     refine RG.ot rfl (OT.alloc rfl Zr35 fun b8 => ?_)
     refine RG.ot rfl (OT.storeW (vs := [_]) rfl Sz35 rfl rfl (Cl.c rfl) rfl rfl (OneC.sl (SlF.o (v := w36)) OneC.nil) ?_)
     refine RG.nil (WP.seq (WP.region (RG.pv rfl (PV.loadW rfl Ag27 rfl rfl) ?_)))
     refine RG.callF (vs := [_]) rfl rfl En11 rfl (toDeck_s (Rs.up h1) hb1 (fun w38 => ?_))
     refine RG.ot rfl (OT.alloc rfl Zr39 fun b9 => ?_)
     refine RG.ot rfl (OT.storeW (vs := [_]) rfl Sz39 rfl rfl (Cl.c rfl) rfl rfl (OneC.sl (SlF.o (v := w38)) OneC.nil) ?_)
     refine RG.nil (WP.seq (WP.region (RG.pv rfl (PV.loadW rfl Ag35 rfl rfl) (RG.pv rfl (PV.loadW rfl Ag39 rfl rfl) ?_))))
     refine RG.callF (vs := [_, _]) rfl rfl En12 rfl (cv_i (l := ⟨⟨w36, ysw36⟩⟩) (d := ⟨⟨w38, d.rules.xs⟩⟩) ⟨Rs.o, RsE.o, RsE.o, RsE.o⟩ (by rw [hew36]; exact hlen) Rs.o (fun w42 => ?_))
     refine RG.pv rfl (PV.move (v := .tuple _) rfl rfl) (RG.pv rfl (PV.ext (v := w42) rfl rfl rfl) (RG.pv rfl (PV.ext rfl rfl rfl) (RG.pv rfl (PV.asg (v := w42) rfl rfl) (RG.mr rfl rfl rfl (RG.nil (WP.seq (WP.seq ?_)))))))
     refine WP.region (RG.pv rfl (PV.move (v := w42) rfl rfl) (RG.pv rfl (PV.move (v := w32) rfl rfl) ?_))
     refine RG.callF (vs := [w42, w32]) rfl rfl En13 rfl (eqInt_s Rs.o Rs.o ?_)
     refine RG.pv rfl (PV.not rfl rfl) (RG.bl rfl rfl rfl ?_)
     refine RG.gs rfl rfl rfl (fun hp => (PV.mvI (.inl rfl) rfl)) ?_
     refine RG.gs rfl rfl rfl (fun hp => (PV.mvI (.inl rfl) rfl)) ?_
     refine RG.gs rfl rfl rfl (fun hp => (PV.neq rfl (gs_t hp) (gs_t hp))) ?_
     refine RG.pv rfl (PV.pickO rfl rfl rfl (fun hq => gs_t (geqF hq))) (RG.nil ?_)
     rw [hew29, hew36]
     refine WP.cond rfl (fun h3 => ?_) (fun h3 => ?_)
     · simp [] at h3
     · have hmm : (0 : Int) ≤ 0 := Int.le_refl _
       refine WP.skip (WP.seq (WP.seq ?_))
       refine WP.regionH0 (.q 0 (.q 1 (.l 2 (.l 3 (.q 4 Sch.nil))))) (by kernel_rfl) (by kernel_rfl) (by kernel_rfl) rfl ?_
       refine RH.pv rfl (fun _ _ _ _ h => h) (Gh.le_refl _) PickC.pick rfl (PV.loadW rfl Ag35 rfl rfl) ?_
       refine RH.pv rfl (fun _ _ _ _ h => h) (Gh.le_refl _) PickC.pick rfl (PV.loadW rfl Ag24 rfl rfl) ?_
       refine RH.ot rfl rfl (OT.callF (vs := [_]) rfl En10 rfl (toLib_s hA.up hf (fun w56 ysw56 hew56 => ⟨Gh.le_refl _, PickC.pick, ?_⟩)))
       refine RH.ot rfl rfl (OT.callF (vs := [_, _]) rfl En14 rfl (eqLib_s (l := ⟨⟨w36, ysw36⟩⟩) (m := ⟨⟨w56, ysw56⟩⟩) ⟨Rs.o, RsE.o, RsE.o, RsE.o⟩ ⟨Rs.o, RsE.o, RsE.o, RsE.o⟩ (by rw [hew36, hew56]) ⟨Gh.le_refl _, PickC.pick, ?_⟩))
       refine RH.pv rfl (fun _ _ _ _ h => h) (Gh.le_refl _) PickC.pick rfl (PV.not rfl rfl) ?_
       refine RH.nil ?_
       refine WP.cond rfl (fun h4 => ?_) (fun h4 => ?_)
       · simp at h4
       · refine WP.skip ?_
         refine WP.seq (WP.seq ?_)
         refine WP.regionH0 (.q 0 (.q 1 (.l 2 (.l 3 (.q 4 Sch.nil))))) (by kernel_rfl) (by kernel_rfl) (by kernel_rfl) rfl ?_
         refine RH.pv rfl (fun _ _ _ _ h => h) (Gh.le_refl _) PickC.pick rfl (PV.loadW rfl Ag39 rfl rfl) ?_
         refine RH.pv rfl (fun _ _ _ _ h => h) (Gh.le_refl _) PickC.pick rfl (PV.loadW rfl Ag27 rfl rfl) ?_
         refine RH.ot rfl rfl (OT.callF (vs := [_]) rfl En11 rfl (toDeck_s (Rs.up h1) hb1 (fun w61 => ⟨Gh.le_refl _, PickC.pick, ?_⟩)))
         refine RH.ot rfl rfl (OT.callF (vs := [_, _]) rfl En15 rfl (eqDeck_s Rs.o Rs.o ⟨Gh.le_refl _, PickC.pick, ?_⟩))
         refine RH.pv rfl (fun _ _ _ _ h => h) (Gh.le_refl _) PickC.pick rfl (PV.not rfl rfl) ?_
         refine RH.nil ?_
         refine WP.cond rfl (fun h5 => ?_) (fun h5 => ?_)
         · simp at h5
         · refine WP.skip ?_
           refine WP.seq (WP.region (RG.mr rfl rfl rfl (RG.nil (WP.seq (WP.region (RG.pv rfl (PV.loadW rfl Ag35 rfl rfl) (RG.ml rfl rfl rfl ?_)))))))
           refine RG.callF (vs := [_, _]) rfl rfl En16 rfl (CallT.exBg (ins ysw36) (CallT.exBg (lbs ysw36) (CallT.exBg (shs ysw36) (CallT.exS w36 (markLibB_s (l := ⟨⟨w36, ysw36⟩⟩) (by rw [hew36]; exact hf) (by omega) (fun km hkm => ?_))))))
           refine RG.mr rfl rfl rfl (RG.nil (WP.seq (WP.region (RG.pv rfl (PV.loadW rfl Ag39 rfl rfl) (RG.ml rfl rfl rfl ?_)))))
           refine RG.callF (vs := [_, _]) rfl rfl En17 rfl (CallT.exS w38 (markDeck_s (d := ⟨⟨w38, d.rules.xs⟩⟩) (by omega) (by simp only; omega) ?_))
           refine RG.mr rfl rfl rfl (RG.nil (WP.seq (WP.seq (WP.region (RG.ml rfl rfl rfl (RG.pv rfl (PV.lss rfl rfl rfl) (RG.bl rfl rfl rfl ?_)))))))
           refine RG.gs rfl rfl rfl (fun hp => (PV.move (v := w42) rfl rfl)) ?_
           refine RG.gs rfl rfl rfl (fun hp => (PV.move (v := w32) rfl rfl)) ?_
           refine RG.gsC rfl rfl rfl rfl En13 (fun hp => ⟨_, (acons (gs_t hp) (acons (gs_t hp) anil)), eqInt_s Rs.o Rs.o ⟨rfl, rfl, rfl⟩⟩) ?_
           refine RG.gs rfl rfl rfl (fun hp => (PV.not rfl (gs_t hp))) ?_
           refine RG.pv rfl (PV.pickO rfl rfl rfl (fun hq => gs_t (geqF hq))) (RG.bl rfl rfl rfl ?_)
           refine RG.gs rfl rfl rfl (fun hp => (PV.mvI (.inl rfl) rfl)) ?_
           refine RG.gs rfl rfl rfl (fun hp => (PV.mvI (.inl rfl) rfl)) ?_
           refine RG.gs rfl rfl rfl (fun hp => (PV.neq rfl (gs_t hp) (gs_t hp))) ?_
           refine RG.pv rfl (PV.pickO rfl rfl rfl (fun hq => gs_t (geqF hq))) (RG.nil ?_)
           refine WP.cond rfl (fun h6 => ?_) (fun h6 => ?_)
           · exfalso
             have hk1 : ¬ km + costL nRu d.rules.xs < 0 := by omega
             simp [hk1, ] at h6
           · skip
             refine WP.skip (WP.seq (WP.region (RG.mr rfl rfl rfl (RG.nil (WP.seq (WP.region (RG.pv rfl (PV.move (v := w42) rfl rfl) ?_)))))))
             refine RG.ml rfl rfl rfl ?_
             refine RG.callF (vs := [w42, _]) rfl rfl En18 rfl (CallT.exS w42 (markInt_s (xs := cvR (erCls l.cells.xs) d.rules.xs) (by omega) (by omega) ?_))
             refine RG.mr rfl rfl rfl (RG.nil (WP.seq (WP.region (RG.mr rfl rfl rfl (RG.nil (WP.seq (WP.region ?_)))))))
             refine RG.pv rfl (PV.move (v := w42) rfl rfl) (RG.ml rfl rfl rfl ?_)
             refine RG.callF (vs := [w42, _]) rfl rfl En19 rfl (heldInt_s (xs := cvR (erCls l.cells.xs) d.rules.xs) Rs.o (by omega) (by omega) ?_)
             refine RG.mr rfl rfl rfl (RG.nil (WP.seq (WP.seq (WP.region (RG.ml rfl rfl rfl (RG.pv rfl (PV.lss rfl rfl rfl) (RG.nil ?_)))))))
             refine WP.cond rfl (fun h7 => ?_) (fun h7 => ?_)
             · simp at h7; omega
             · refine WP.skip ?_
               refine WP.seq (WP.seq (WP.region (RG.ml rfl rfl rfl (RG.ml rfl rfl rfl (RG.pv rfl (PV.neq rfl rfl rfl) (RG.nil ?_))))))
               refine WP.cond rfl (fun h8 => ?_) (fun h8 => ?_)
               · simp at h8
               · skip
                 refine WP.skip (WP.seq ?_)
                 refine WP.regionH0 (.q 0 (.q 2 (.l 1 (.l 3 (.l 4 (.q 5 (.q 6 (.q 7 (.q 8 (.q 9 Sch.nil)))))))))) (by kernel_rfl) (by kernel_rfl) (by kernel_rfl) rfl ?_
                 refine RH.pv rfl (fun _ _ _ _ h => h) (Gh.le_refl _) PickC.pick rfl (PV.loadW rfl Ag24 rfl rfl) ?_
                 refine RH.pv rfl (fun _ _ _ _ h => h) (Gh.le_refl _) PickC.pick rfl (PV.loadW rfl Ag27 rfl rfl) ?_
                 refine RH.ot rfl rfl (OT.callF (vs := [_]) rfl En10 rfl (toLib_s hA.up hf (fun w96 ysw96 hew96 => ⟨Gh.le_refl _, PickC.pick, ?_⟩)))
                 refine RH.ot rfl rfl (OT.callF (vs := [_]) rfl En11 rfl (toDeck_s (Rs.up h1) hb1 (fun w98 => ⟨Gh.le_refl _, PickC.pick, ?_⟩)))
                 refine RH.ot rfl rfl (OT.callF (vs := [_, _]) rfl En12 rfl (cv_i (l := ⟨⟨w96, ysw96⟩⟩) (d := ⟨⟨w98, d.rules.xs⟩⟩) ⟨Rs.o, RsE.o, RsE.o, RsE.o⟩ (by rw [hew96]; exact hlen) Rs.o (fun w99 => ⟨Gh.le_refl _, PickC.pick, ?_⟩)))
                 refine RH.pv rfl (fun _ _ _ _ h => h) (Gh.le_refl _) PickC.pick rfl (PV.move (v := .tuple _) rfl rfl) ?_
                 refine RH.pv rfl (fun _ _ _ _ h => h) (Gh.le_refl _) PickC.pick rfl (PV.ext (v := w99) rfl rfl rfl) ?_
                 refine RH.pv rfl (fun _ _ _ _ h => h) (Gh.le_refl _) PickC.pick rfl (PV.ext rfl rfl rfl) ?_
                 refine RH.pv rfl (fun _ _ _ _ h => h) (Gh.le_refl _) PickC.pick rfl (PV.asg (v := w99) rfl rfl) ?_
                 refine RH.pv rfl (fun _ _ _ _ h => h) (Gh.le_refl _) PickC.pick rfl (PV.mvI (.inr rfl) rfl) ?_
                 refine RH.nil ?_
                 refine WP.seq (WP.seq (WP.region (RG.pv rfl (PV.move (v := w99) rfl rfl) (RG.pv rfl (PV.move (v := w32) rfl rfl) ?_))))
                 refine RG.callF (vs := [w99, w32]) rfl rfl En13 rfl (eqInt_s Rs.o Rs.o ?_)
                 refine RG.pv rfl (PV.not rfl rfl) (RG.bl rfl rfl rfl ?_)
                 refine RG.gs rfl rfl rfl (fun hp => (PV.mvI (.inl rfl) rfl)) ?_
                 refine RG.gs rfl rfl rfl (fun hp => (PV.mvI (.inl rfl) rfl)) ?_
                 refine RG.gs rfl rfl rfl (fun hp => (PV.neq rfl (gs_t hp) (gs_t hp))) ?_
                 refine RG.pv rfl (PV.pickO rfl rfl rfl (fun hq => gs_t (geqF hq))) (RG.nil ?_)
                 refine WP.cond rfl (fun h9 => ?_) (fun h9 => ?_)
                 · simp [hew96] at h9
                 · skip
                   refine WP.skip (WP.seq (WP.region (RG.mr rfl rfl rfl (RG.nil (WP.seq (WP.region (RG.pv rfl (PV.move (v := w42) rfl rfl) ?_)))))))
                   refine RG.ml rfl rfl rfl ?_
                   refine RG.callF (vs := [w42, _]) rfl rfl En19 rfl (heldInt_s (xs := cvR (erCls l.cells.xs) d.rules.xs) Rs.o (by omega) (by omega) ?_)
                   refine RG.mr rfl rfl rfl (RG.nil (WP.seq (WP.seq (WP.region (RG.ml rfl rfl rfl (RG.pv rfl (PV.lss rfl rfl rfl) (RG.nil ?_)))))))
                   refine WP.cond rfl (fun ha => ?_) (fun ha => ?_)
                   · simp at ha; omega
                   · refine WP.skip ?_
                     refine WP.seq (WP.seq (WP.region (RG.ml rfl rfl rfl (RG.ml rfl rfl rfl (RG.pv rfl (PV.neq rfl rfl rfl) (RG.nil ?_))))))
                     refine WP.cond rfl (fun hb => ?_) (fun hb => ?_)
                     · simp at hb
                     · refine WP.skip ?_
                       refine WP.seq (WP.region (RG.br rfl rfl rfl (RG.nil ?_)))
                       refine WP.ret ?_
                       exact ⟨_, _, ResV.one rfl rfl, Cv.p, k⟩
end Go.Proofs.YtgphjofccckloaaGreat
namespace Go.Proofs.YtgphjofccckloaaGreat
set_option linter.unusedVariables false
set_option linter.unusedSimpArgs false
open Go Go.ChangeShapes Go.WideShapes Go.ChangeAt Go.RowKit Go.Deep
set_option linter.unusedVariables false
def Gw (w : World) : Gh := ⟨wh w, w.os, w.tape, w.output, w.drawn⟩
theorem St.start (w : World) : St (Gw w) [] w := ⟨fun _ => none, trivial, Hp.le_refl _, (fun _ _ h => by cases h), fun _ => .inl rfl, rfl, rfl, rfl, Nat.le_refl _⟩
/-- behind a call that began in W, all of W's blocks are as they were -/
theorem St.below {W w' : World} {G : Gh} {L : List Ch} (l : Gh.le (Gw W) G) (h : St G L w') : Below W.heap.size W w' := by
 obtain ⟨hp, s, l1, l2, d, ok⟩ := h
 have ok' := Gh.le_ok l ok
 have up := Hp.le_trans l.1 l1
 have key : ∀ k, k < W.heap.size → w'.heap[k]? = W.heap[k]? := fun k hk => by
   have : (Gw W).f k = some W.heap[k] := by simp [Gw, wh, hk]
   have h2 := up k _ this
   simp only [wh] at h2
   rw [h2]; simp [hk]
 refine ⟨ok'.1, ok'.2.1, ok'.2.2.1, ?_, key⟩
 by_cases h0 : W.heap.size = 0
 · omega
 · have := key (W.heap.size - 1) (by omega)
   rw [Array.getElem?_eq_getElem (by omega : W.heap.size - 1 < W.heap.size)] at this
   have := (Array.getElem?_eq_some_iff.1 this).1
   omega
def Opn {ρ : Type} (P : Program) (t : TypeId) (F : FT ρ) (ok : Gh → ρ → Prop) : Prop :=
  ∀ {H : Type} {enc : TypeId × Value → H} {w : World} {fuel : Nat} {cs : List Value} {x : DataW H × List MemPlace}, DataW.trod enc P w 0 (fun _ => true) true fuel t cs = some x → ∃ a : ρ, cs = F.enc a ∧ ok (Gw w) a
def okI (_ : Gh) (n : Int) : Prop := -9223372036854775808 ≤ n ∧ n ≤ 9223372036854775807
def okS (_ : Gh) (s : ByteArray) : Prop := s.size ≤ 9223372036854775807
def okL {ρ : Type} [Inhabited ρ] (F : FT ρ) (ok : Gh → ρ → Prop) (G : Gh) (v : Value) : Prop := ∃ xs : List ρ, SL G F v xs ∧ ∀ i, i < xs.length → ok G (gd xs i)
section
variable {P : Program} {t e : TypeId}
theorem opnI (ht : P.underlying t = some (.int .i64)) : Opn P t intT okI := fun h => by
 obtain ⟨n, rfl, _, hw⟩ := DataW.trod_int ht h
 refine ⟨n, rfl, ?_⟩
 have : IntKind.i64.min ≤ n ∧ n ≤ IntKind.i64.max := by simpa [Lit.wf] using hw
 simp only [show IntKind.i64.min = -9223372036854775808 from rfl, show IntKind.i64.max = 9223372036854775807 from rfl] at this
 exact this
theorem opnS (ht : P.underlying t = some .string) : Opn P t strT okS := fun h => by
 obtain ⟨s, rfl, _, hs⟩ := DataW.trod_string ht h
 refine ⟨s, rfl, ?_⟩
 simp only [maxLen] at hs
 exact (by omega : s.size ≤ 9223372036854775807)
theorem cells_get {w : World} {a : Addr} {n : Nat} {cs : List Value} (h : w.cells? 0 a n = some cs) : cs.length = n ∧ ∀ j c, cs[j]? = some c → w.cell? (a.add j) = some c := by
 obtain ⟨_, h1, h2⟩ := World.cells?_some h
 refine ⟨h1, fun j c hc => ?_⟩
 have hj := (List.getElem?_eq_some_iff.1 hc).1
 rw [h2 j (by omega), hc]
theorem opnL {ρ : Type} [Inhabited ρ] {F : FT ρ} {ok : Gh → ρ → Prop} (ht : P.underlying t = some (.slice e)) (hE : Opn P e F ok) (hc : P.cellsOf e = F.sz) (h0 : 0 < F.sz) : Opn P t rawT (okL F ok) := fun {H enc w fuel cs x} h => by
 rcases open_slice ht h with ⟨rfl, _⟩ | ⟨a, len, cap, m, n, D, Pl, rfl, _, hl, hm, hmm, _, hel⟩
 · exact ⟨_, rfl, [], ⟨⟨0, Nat.le_refl _, Nat.zero_le _, .inr ⟨⟨_, rfl⟩, rfl⟩⟩, fun j c hj => by simp [FT.flat] at hj⟩, fun i hi => by simp at hi⟩
 have hmcap : m = cap := by simpa using hmm
 refine ⟨.slice (some a) len cap, rfl, ?_⟩
 have hall : ∀ i, i < len → ∃ r : ρ, w.cells? 0 (a.add (i * F.sz)) F.sz = some (F.enc r) ∧ ok (Gw w) r := fun i hi => by
   obtain ⟨cs', h1, h2⟩ := hel i (by omega)
   obtain ⟨r, rfl, hr⟩ := hE h2
   rw [hc] at h1
   exact ⟨r, h1, hr⟩
 have : ∃ f : Nat → ρ, ∀ i, i < len → w.cells? 0 (a.add (i * F.sz)) F.sz = some (F.enc (f i)) ∧ ok (Gw w) (f i) := choose_lt hall
 obtain ⟨f, hf⟩ := this
 have hlen : ((List.range len).map f).length = len := by simp
 have hget : ∀ i, i < len → ((List.range len).map f)[i]? = some (f i) := fun i hi => by simp [hi]
 have hsp : len ≠ 0 → a.spot = none := fun hz => by
   obtain ⟨h1, _⟩ := hf 0 (by omega)
   obtain ⟨hl1, hg⟩ := cells_get h1
   cases hq : (F.enc (f 0))[0]? with
   | none => rw [List.getElem?_eq_none_iff] at hq; omega
   | some c =>
     have hcell := hg 0 c hq
     cases hs : a.spot with
     | none => rfl
     | some s =>
       exfalso
       have h3 : ((a.add (0 * F.sz)).add 0).spot.isSome = true := by simp [Addr.add, hs]
       unfold World.cell? at hcell
       split at hcell
       · rw [if_pos h3] at hcell; cases hcell
       · cases hcell
 refine ⟨(List.range len).map f, ⟨⟨cap, by simpa using hl, hm, ?_⟩, ?_⟩, fun i hi => ?_⟩
 · by_cases hz : len = 0
   · exact .inr ⟨⟨some a, by simp⟩, by simpa using hz⟩
   · refine .inl ⟨a.block, a.off, ?_⟩
     have hsp := hsp hz
     simp only [hlen]
     obtain ⟨ab, ao, az⟩ := a
     simp only at hsp
     subst hsp; rfl
 · intro j c hj
   by_cases hz : len = 0
   · subst hz; simp [FT.flat] at hj
   have hsp := hsp hz
   have hjl : j < len * F.sz := by
     have := (List.getElem?_eq_some_iff.1 hj).1
     rwa [FT.flat_len, hlen] at this
   have hq : j / F.sz < len := (Nat.div_lt_iff_lt_mul h0).2 hjl
   have hr : j % F.sz < F.sz := Nat.mod_lt _ h0
   have hjd : j / F.sz * F.sz + j % F.sz = j := by rw [Nat.mul_comm]; exact Nat.div_add_mod j F.sz
   obtain ⟨h1, _⟩ := hf (j / F.sz) hq
   obtain ⟨_, hg⟩ := cells_get h1
   have hc' : (F.enc (f (j / F.sz)))[j % F.sz]? = some ((F.enc (f (j / F.sz)))[j % F.sz]'(by rw [F.len]; exact hr)) := List.getElem?_eq_getElem _
   have hfl := F.flat_get (hget _ hq) hc'
   rw [hjd, hj] at hfl
   have hcell := hg _ _ hc'
   obtain ⟨ab, ao, az⟩ := a
   simp only at hsp
   subst hsp
   rw [add_none, add_none, cell_hc, Nat.add_assoc, hjd] at hcell
   simp only [sb, so, Gw]
   rw [hcell]; exact hfl.symm
 · have hi' : i < len := by simpa using hi
   have : gd ((List.range len).map f) i = f i := by simp [gd, hi']
   rw [this]; exact (hf i hi').2
end
def okSl {ρ : Type} [Inhabited ρ] (F : FT ρ) (ok : Gh → ρ → Prop) (G : Gh) (s : Sl ρ) : Prop := SL G F s.v s.xs ∧ ∀ i, i < s.xs.length → ok G (gd s.xs i)
theorem opnSl {P : Program} {t e : TypeId} {ρ : Type} [Inhabited ρ] {F : FT ρ} {ok : Gh → ρ → Prop} (ht : P.underlying t = some (.slice e)) (hE : Opn P e F ok) (hc : P.cellsOf e = F.sz) (h0 : 0 < F.sz) : Opn P t slT (okSl F ok) := fun h => by
 obtain ⟨v, rfl, xs, h1, h2⟩ := opnL ht hE hc h0 h
 exact ⟨⟨v, xs⟩, rfl, h1, h2⟩
section
variable {P : Program} {t e : TypeId} {H : Type} {enc : TypeId × Value → H} {W : World} {r : Reach} {base : Nat} {v : Value} {d : DataW H} {ps : List MemPlace}
theorem argT {ρ : Type} {F : FT ρ} {ok : Gh → ρ → Prop} {fs : Array Field} (ht : P.underlying t = some (.struct fs)) (hO : Opn P t F ok) (hv : Value.okWide P W r base t v) (h : DataW.Trod enc P W 0 (fun _ => true) true t v d ps) : ∃ a, v = vT F a ∧ ok (Gw W) a := by
 obtain ⟨cs, rfl, _⟩ := okWide_struct ht hv
 obtain ⟨fuel, hf⟩ := h
 obtain ⟨m, e1, hm⟩ := hO hf
 simp only [Value.cells] at e1
 exact ⟨m, by simp only [vT]; rw [← e1], hm⟩
theorem trodAll_stays (hl : laidOutB P = true) {W' : World} (hb : Below W.heap.size W W') : ∀ {ts : List TypeId} {vs : List Value} {ds : List (DataW H)} {ps : List MemPlace}, (∀ t ∈ ts, P.readableRec t = true ∧ t < P.types.size) → (∀ x ∈ ps, x.block < W.heap.size) →
   DataW.TrodAll enc P W 0 (fun _ => true) true ts vs ds ps → DataW.TrodAll enc P W' 0 (fun b => decide (b < W.heap.size)) true ts vs ds ps
 | [], [], [], _, _, _, h => h
 | t :: ts, v :: vs, d :: ds, ps, hr, hlt, h => by
   obtain ⟨p, q, h1, h2, rfl⟩ := h
   have := hr t (.head _)
   exact ⟨p, q, Below.trod hl this.1 this.2 h1 hb (fun x hx => hlt x (List.mem_append_left _ hx)), trodAll_stays hl hb (fun t ht => hr t (.tail _ ht)) (fun x hx => hlt x (List.mem_append_right _ hx)) h2, rfl⟩
end
def recsB (P : Program) (ts : List TypeId) : Bool := ts.all fun t => P.readableRec t && Nat.blt t P.types.size
theorem recs_of {P : Program} {ts : List TypeId} (h : recsB P ts = true) : ∀ t ∈ ts, P.readableRec t = true ∧ t < P.types.size := by
 intro t ht
 have := List.all_eq_true.1 h t ht
 simp only [Bool.and_eq_true] at this
 exact ⟨this.1, Nat.le_of_ble_eq_true this.2⟩
/-- A LAW, LIFTED: the call returns true, the arguments read as they did. -/
theorem law_lifted {H : Type} {enc : TypeId × Value → H} {C : Checked} {os : Os} {f : FuncId} {fn : Func} {s : ChangeSpec} {tb : TypeId} (own : ownKnob C.prog.godebug = none) (started : os.Started) (noInit : C.prog.inits.idxOf? f = none) (hfn : C.prog.funcs[f]? = some fn) (hl : laidOutB C.prog = true)
   (hvars : s.vars = []) (hr : recsB C.prog fn.params.toList = true) (hres : fn.resultTypes = #[tb]) (htb : C.prog.underlying tb = some .bool)
   (hsp : ∀ ds : List (DataW H), ds.length = fn.params.toList.length → s.fn H ds = { results := [.lit (.bool true)], args := ds })
   (witness : ∃ (w : World) (tape : Tape) (i : Input), w.os = os ∧ (w.forCall tape i).Shaped C.prog ∧ i.vars = [] ∧ Input.okWide C.prog (w.forCall tape i) .any w.heap.size f i ∧
     s.pre6 enc C.prog fn [] false (w.forCall tape i).memory i.args ∧ ({} : Assume).holds C.prog (lone (Frame.enter C.prog f i.args .normal) [] (w.forCall tape i)))
   (walk : ∀ (W : World) (base : Nat) (args : Array Value) (ds : List (DataW H)) (ps : List MemPlace), (∀ (j : Nat) t v, fn.params[j]? = some t → args[j]? = some v → Value.okWide C.prog W .any base t v) →
     DataW.TrodAll enc C.prog W 0 (fun _ => true) true fn.params.toList args.toList ds ps → CallT C.prog f args (Gw W) [] fun v G _ => v = .bool true ∧ Gh.le (Gw W) G) :
   ReturnsInHanded {} C os f .any (s.pre6 enc C.prog fn [] false) (s.post enc C.prog fn false true false false) := by
 refine returnsInHanded_of_change own started noInit hfn witness ?_
 intro W base args ds gs before hval hW _ _
 have hW' := hW
 obtain ⟨p, q, hA, hV, rfl, hfz, hnd⟩ := hW
 rw [hvars] at hV
 obtain ⟨rfl, rfl⟩ := trodVars_none hV
 refine ((walk W base args ds p hval hA).run (St.start W)).mono ?_
 rintro e W' ⟨v, G, L, rfl, hs, rfl, hG⟩
 have hb := hs.below hG
 have hlt : ∀ x ∈ p, x.block < W.heap.size := fun x hx => hW'.lt x (List.mem_append_left _ hx)
 have hlen : ds.length = fn.params.toList.length := by
   have : ∀ (ts : List TypeId) (vs : List Value) (ds : List (DataW H)) (ps : List MemPlace), DataW.TrodAll enc C.prog W 0 (fun _ => true) true ts vs ds ps → ds.length = ts.length := by
     intro ts
     induction ts with
     | nil => intro vs ds ps h; cases vs <;> cases ds <;> simp_all [DataW.TrodAll]
     | cons t ts ih =>
       intro vs ds ps h
       cases vs <;> cases ds <;> simp only [DataW.TrodAll] at h
       obtain ⟨_, _, _, h2, _⟩ := h
       simp [ih _ _ _ h2]
   exact this _ _ _ _ hA
 refine ⟨_, rfl, ds, [], _, [], p, [], hW', ?_, ?_, ?_, hb.frame _, fun h => by cases h⟩
 · rw [List.append_nil, hsp ds hlen, hres]
   exact trodAll_mk1 (shut_bool htb true)
 · rw [List.append_nil, hsp ds hlen]
   exact trodAll_stays hl hb (recs_of hr) hlt hA
 · rw [List.append_nil, hsp ds hlen, hvars]
   exact rfl
end Go.Proofs.YtgphjofccckloaaGreat
namespace Go.Proofs.YtgphjofccckloaaGreat
set_option linter.unusedVariables false
set_option linter.unusedSimpArgs false
open Go Go.ChangeShapes Go.WideShapes Go.ChangeAt Go.RowKit
set_option linter.unusedSimpArgs false
set_option maxRecDepth 100000
theorem Tryz.own : ownKnob Tryz.prog.godebug = none := by kernel_rfl
theorem Tryz.laidOut : laidOutB Tryz.prog = true := by kernel_rfl
def okrectT (G : Gh) (a : Rect) : Prop := okI G a.x0 ∧ okI G a.y0 ∧ okI G a.x1 ∧ okI G a.y1
theorem opn243 : Opn Tryz.prog 243 rectT okrectT := fun {H enc w fuel cs x} h => by
 obtain ⟨xs, n, _, _, hl, hx, hf⟩ := DataW.trod_struct Tryz.underlying243 h
 rw [show Tryz.prog.cellsOf 243 = 4 by kernel_rfl] at hl
 obtain ⟨c0, c1, c2, c3, rfl⟩ : ∃ c0 c1 c2 c3, cs = [c0, c1, c2, c3] := by
   match cs, hl with
   | [c0, c1, c2, c3], _ => exact ⟨c0, c1, c2, c3, rfl⟩
 have g0 := hf 0 _ rfl
 simp only [List.getElem_toArray, List.getElem_cons_zero, List.getElem_cons_succ] at g0
 rw [show Tryz.prog.cellsOf 2 = 1 by kernel_rfl] at g0
 obtain ⟨x0, y0⟩ : ∃ x, xs[0]? = some x := ⟨_, List.getElem?_eq_getElem (by rw [hx]; decide)⟩
 rw [y0] at g0
 obtain ⟨a0, e0, o0⟩ := (opnI Tryz.underlying2) g0
 have g1 := hf 1 _ rfl
 simp only [List.getElem_toArray, List.getElem_cons_zero, List.getElem_cons_succ] at g1
 rw [show Tryz.prog.cellsOf 2 = 1 by kernel_rfl] at g1
 obtain ⟨x1, y1⟩ : ∃ x, xs[1]? = some x := ⟨_, List.getElem?_eq_getElem (by rw [hx]; decide)⟩
 rw [y1] at g1
 obtain ⟨a1, e1, o1⟩ := (opnI Tryz.underlying2) g1
 have g2 := hf 2 _ rfl
 simp only [List.getElem_toArray, List.getElem_cons_zero, List.getElem_cons_succ] at g2
 rw [show Tryz.prog.cellsOf 2 = 1 by kernel_rfl] at g2
 obtain ⟨x2, y2⟩ : ∃ x, xs[2]? = some x := ⟨_, List.getElem?_eq_getElem (by rw [hx]; decide)⟩
 rw [y2] at g2
 obtain ⟨a2, e2, o2⟩ := (opnI Tryz.underlying2) g2
 have g3 := hf 3 _ rfl
 simp only [List.getElem_toArray, List.getElem_cons_zero, List.getElem_cons_succ] at g3
 rw [show Tryz.prog.cellsOf 2 = 1 by kernel_rfl] at g3
 obtain ⟨x3, y3⟩ : ∃ x, xs[3]? = some x := ⟨_, List.getElem?_eq_getElem (by rw [hx]; decide)⟩
 rw [y3] at g3
 obtain ⟨a3, e3, o3⟩ := (opnI Tryz.underlying2) g3
 clear hf hx hl
 refine ⟨⟨a0, a1, a2, a3⟩, ?_, o0, o1, o2, o3⟩
 simp [intT] at e0 e1 e2 e3
 simp [intT, rectT, e0, e1, e2, e3]
def okshapeT (G : Gh) (a : Shape) : Prop := okI G a.layer ∧ okrectT G a.box
theorem opn245 : Opn Tryz.prog 245 shapeT okshapeT := fun {H enc w fuel cs x} h => by
 obtain ⟨xs, n, _, _, hl, hx, hf⟩ := DataW.trod_struct Tryz.underlying245 h
 rw [show Tryz.prog.cellsOf 245 = 5 by kernel_rfl] at hl
 obtain ⟨c0, c1, c2, c3, c4, rfl⟩ : ∃ c0 c1 c2 c3 c4, cs = [c0, c1, c2, c3, c4] := by
   match cs, hl with
   | [c0, c1, c2, c3, c4], _ => exact ⟨c0, c1, c2, c3, c4, rfl⟩
 have g0 := hf 0 _ rfl
 simp only [List.getElem_toArray, List.getElem_cons_zero, List.getElem_cons_succ] at g0
 rw [show Tryz.prog.cellsOf 2 = 1 by kernel_rfl] at g0
 obtain ⟨x0, y0⟩ : ∃ x, xs[0]? = some x := ⟨_, List.getElem?_eq_getElem (by rw [hx]; decide)⟩
 rw [y0] at g0
 obtain ⟨a0, e0, o0⟩ := (opnI Tryz.underlying2) g0
 have g1 := hf 1 _ rfl
 simp only [List.getElem_toArray, List.getElem_cons_zero, List.getElem_cons_succ] at g1
 rw [show Tryz.prog.cellsOf 243 = 4 by kernel_rfl] at g1
 obtain ⟨x1, y1⟩ : ∃ x, xs[1]? = some x := ⟨_, List.getElem?_eq_getElem (by rw [hx]; decide)⟩
 rw [y1] at g1
 obtain ⟨a1, e1, o1⟩ := opn243 g1
 clear hf hx hl
 refine ⟨⟨a0, a1⟩, ?_, o0, o1⟩
 simp [intT, rectT] at e0 e1
 simp [intT, rectT, shapeT, e0, e1]
def okptT (G : Gh) (a : Pt) : Prop := okI G a.x ∧ okI G a.y
theorem opn236 : Opn Tryz.prog 236 ptT okptT := fun {H enc w fuel cs x} h => by
 obtain ⟨xs, n, _, _, hl, hx, hf⟩ := DataW.trod_struct Tryz.underlying236 h
 rw [show Tryz.prog.cellsOf 236 = 2 by kernel_rfl] at hl
 obtain ⟨c0, c1, rfl⟩ : ∃ c0 c1, cs = [c0, c1] := by
   match cs, hl with
   | [c0, c1], _ => exact ⟨c0, c1, rfl⟩
 have g0 := hf 0 _ rfl
 simp only [List.getElem_toArray, List.getElem_cons_zero, List.getElem_cons_succ] at g0
 rw [show Tryz.prog.cellsOf 2 = 1 by kernel_rfl] at g0
 obtain ⟨x0, y0⟩ : ∃ x, xs[0]? = some x := ⟨_, List.getElem?_eq_getElem (by rw [hx]; decide)⟩
 rw [y0] at g0
 obtain ⟨a0, e0, o0⟩ := (opnI Tryz.underlying2) g0
 have g1 := hf 1 _ rfl
 simp only [List.getElem_toArray, List.getElem_cons_zero, List.getElem_cons_succ] at g1
 rw [show Tryz.prog.cellsOf 2 = 1 by kernel_rfl] at g1
 obtain ⟨x1, y1⟩ : ∃ x, xs[1]? = some x := ⟨_, List.getElem?_eq_getElem (by rw [hx]; decide)⟩
 rw [y1] at g1
 obtain ⟨a1, e1, o1⟩ := (opnI Tryz.underlying2) g1
 clear hf hx hl
 refine ⟨⟨a0, a1⟩, ?_, o0, o1⟩
 simp [intT] at e0 e1
 simp [intT, ptT, e0, e1]
def oklabelT (G : Gh) (a : Label) : Prop := okI G a.layer ∧ okptT G a.at_ ∧ okS G a.name
theorem opn238 : Opn Tryz.prog 238 labelT oklabelT := fun {H enc w fuel cs x} h => by
 obtain ⟨xs, n, _, _, hl, hx, hf⟩ := DataW.trod_struct Tryz.underlying238 h
 rw [show Tryz.prog.cellsOf 238 = 4 by kernel_rfl] at hl
 obtain ⟨c0, c1, c2, c3, rfl⟩ : ∃ c0 c1 c2 c3, cs = [c0, c1, c2, c3] := by
   match cs, hl with
   | [c0, c1, c2, c3], _ => exact ⟨c0, c1, c2, c3, rfl⟩
 have g0 := hf 0 _ rfl
 simp only [List.getElem_toArray, List.getElem_cons_zero, List.getElem_cons_succ] at g0
 rw [show Tryz.prog.cellsOf 2 = 1 by kernel_rfl] at g0
 obtain ⟨x0, y0⟩ : ∃ x, xs[0]? = some x := ⟨_, List.getElem?_eq_getElem (by rw [hx]; decide)⟩
 rw [y0] at g0
 obtain ⟨a0, e0, o0⟩ := (opnI Tryz.underlying2) g0
 have g1 := hf 1 _ rfl
 simp only [List.getElem_toArray, List.getElem_cons_zero, List.getElem_cons_succ] at g1
 rw [show Tryz.prog.cellsOf 236 = 2 by kernel_rfl] at g1
 obtain ⟨x1, y1⟩ : ∃ x, xs[1]? = some x := ⟨_, List.getElem?_eq_getElem (by rw [hx]; decide)⟩
 rw [y1] at g1
 obtain ⟨a1, e1, o1⟩ := opn236 g1
 have g2 := hf 2 _ rfl
 simp only [List.getElem_toArray, List.getElem_cons_zero, List.getElem_cons_succ] at g2
 rw [show Tryz.prog.cellsOf 9 = 1 by kernel_rfl] at g2
 obtain ⟨x2, y2⟩ : ∃ x, xs[2]? = some x := ⟨_, List.getElem?_eq_getElem (by rw [hx]; decide)⟩
 rw [y2] at g2
 obtain ⟨a2, e2, o2⟩ := (opnS Tryz.underlying9) g2
 clear hf hx hl
 refine ⟨⟨a0, a1, a2⟩, ?_, o0, o1, o2⟩
 simp [intT, ptT, strT] at e0 e1 e2
 simp [intT, labelT, ptT, strT, e0, e1, e2]
def oktransT (G : Gh) (a : Trans) : Prop := okI G a.o ∧ okI G a.x ∧ okI G a.y
theorem opn248 : Opn Tryz.prog 248 transT oktransT := fun {H enc w fuel cs x} h => by
 obtain ⟨xs, n, _, _, hl, hx, hf⟩ := DataW.trod_struct Tryz.underlying248 h
 rw [show Tryz.prog.cellsOf 248 = 3 by kernel_rfl] at hl
 obtain ⟨c0, c1, c2, rfl⟩ : ∃ c0 c1 c2, cs = [c0, c1, c2] := by
   match cs, hl with
   | [c0, c1, c2], _ => exact ⟨c0, c1, c2, rfl⟩
 have g0 := hf 0 _ rfl
 simp only [List.getElem_toArray, List.getElem_cons_zero, List.getElem_cons_succ] at g0
 rw [show Tryz.prog.cellsOf 2 = 1 by kernel_rfl] at g0
 obtain ⟨x0, y0⟩ : ∃ x, xs[0]? = some x := ⟨_, List.getElem?_eq_getElem (by rw [hx]; decide)⟩
 rw [y0] at g0
 obtain ⟨a0, e0, o0⟩ := (opnI Tryz.underlying2) g0
 have g1 := hf 1 _ rfl
 simp only [List.getElem_toArray, List.getElem_cons_zero, List.getElem_cons_succ] at g1
 rw [show Tryz.prog.cellsOf 2 = 1 by kernel_rfl] at g1
 obtain ⟨x1, y1⟩ : ∃ x, xs[1]? = some x := ⟨_, List.getElem?_eq_getElem (by rw [hx]; decide)⟩
 rw [y1] at g1
 obtain ⟨a1, e1, o1⟩ := (opnI Tryz.underlying2) g1
 have g2 := hf 2 _ rfl
 simp only [List.getElem_toArray, List.getElem_cons_zero, List.getElem_cons_succ] at g2
 rw [show Tryz.prog.cellsOf 2 = 1 by kernel_rfl] at g2
 obtain ⟨x2, y2⟩ : ∃ x, xs[2]? = some x := ⟨_, List.getElem?_eq_getElem (by rw [hx]; decide)⟩
 rw [y2] at g2
 obtain ⟨a2, e2, o2⟩ := (opnI Tryz.underlying2) g2
 clear hf hx hl
 refine ⟨⟨a0, a1, a2⟩, ?_, o0, o1, o2⟩
 simp [intT] at e0 e1 e2
 simp [intT, transT, e0, e1, e2]
def okinstT (G : Gh) (a : Inst) : Prop := okI G a.cell ∧ oktransT G a.place ∧ okI G a.cols ∧ okI G a.rows ∧ okI G a.sx ∧ okI G a.sy
theorem opn250 : Opn Tryz.prog 250 instT okinstT := fun {H enc w fuel cs x} h => by
 obtain ⟨xs, n, _, _, hl, hx, hf⟩ := DataW.trod_struct Tryz.underlying250 h
 rw [show Tryz.prog.cellsOf 250 = 8 by kernel_rfl] at hl
 obtain ⟨c0, c1, c2, c3, c4, c5, c6, c7, rfl⟩ : ∃ c0 c1 c2 c3 c4 c5 c6 c7, cs = [c0, c1, c2, c3, c4, c5, c6, c7] := by
   match cs, hl with
   | [c0, c1, c2, c3, c4, c5, c6, c7], _ => exact ⟨c0, c1, c2, c3, c4, c5, c6, c7, rfl⟩
 have g0 := hf 0 _ rfl
 simp only [List.getElem_toArray, List.getElem_cons_zero, List.getElem_cons_succ] at g0
 rw [show Tryz.prog.cellsOf 2 = 1 by kernel_rfl] at g0
 obtain ⟨x0, y0⟩ : ∃ x, xs[0]? = some x := ⟨_, List.getElem?_eq_getElem (by rw [hx]; decide)⟩
 rw [y0] at g0
 obtain ⟨a0, e0, o0⟩ := (opnI Tryz.underlying2) g0
 have g1 := hf 1 _ rfl
 simp only [List.getElem_toArray, List.getElem_cons_zero, List.getElem_cons_succ] at g1
 rw [show Tryz.prog.cellsOf 248 = 3 by kernel_rfl] at g1
 obtain ⟨x1, y1⟩ : ∃ x, xs[1]? = some x := ⟨_, List.getElem?_eq_getElem (by rw [hx]; decide)⟩
 rw [y1] at g1
 obtain ⟨a1, e1, o1⟩ := opn248 g1
 have g2 := hf 2 _ rfl
 simp only [List.getElem_toArray, List.getElem_cons_zero, List.getElem_cons_succ] at g2
 rw [show Tryz.prog.cellsOf 2 = 1 by kernel_rfl] at g2
 obtain ⟨x2, y2⟩ : ∃ x, xs[2]? = some x := ⟨_, List.getElem?_eq_getElem (by rw [hx]; decide)⟩
 rw [y2] at g2
 obtain ⟨a2, e2, o2⟩ := (opnI Tryz.underlying2) g2
 have g3 := hf 3 _ rfl
 simp only [List.getElem_toArray, List.getElem_cons_zero, List.getElem_cons_succ] at g3
 rw [show Tryz.prog.cellsOf 2 = 1 by kernel_rfl] at g3
 obtain ⟨x3, y3⟩ : ∃ x, xs[3]? = some x := ⟨_, List.getElem?_eq_getElem (by rw [hx]; decide)⟩
 rw [y3] at g3
 obtain ⟨a3, e3, o3⟩ := (opnI Tryz.underlying2) g3
 have g4 := hf 4 _ rfl
 simp only [List.getElem_toArray, List.getElem_cons_zero, List.getElem_cons_succ] at g4
 rw [show Tryz.prog.cellsOf 2 = 1 by kernel_rfl] at g4
 obtain ⟨x4, y4⟩ : ∃ x, xs[4]? = some x := ⟨_, List.getElem?_eq_getElem (by rw [hx]; decide)⟩
 rw [y4] at g4
 obtain ⟨a4, e4, o4⟩ := (opnI Tryz.underlying2) g4
 have g5 := hf 5 _ rfl
 simp only [List.getElem_toArray, List.getElem_cons_zero, List.getElem_cons_succ] at g5
 rw [show Tryz.prog.cellsOf 2 = 1 by kernel_rfl] at g5
 obtain ⟨x5, y5⟩ : ∃ x, xs[5]? = some x := ⟨_, List.getElem?_eq_getElem (by rw [hx]; decide)⟩
 rw [y5] at g5
 obtain ⟨a5, e5, o5⟩ := (opnI Tryz.underlying2) g5
 clear hf hx hl
 refine ⟨⟨a0, a1, a2, a3, a4, a5⟩, ?_, o0, o1, o2, o3, o4, o5⟩
 simp [intT, transT] at e0 e1 e2 e3 e4 e5
 simp [instT, intT, transT, e0, e1, e2, e3, e4, e5]
def okcellT (G : Gh) (a : Cell) : Prop := okS G a.name ∧ (okSl shapeT okshapeT) G a.shapes ∧ (okSl labelT oklabelT) G a.labels ∧ (okSl instT okinstT) G a.insts
theorem opn124 : Opn Tryz.prog 124 cellT okcellT := fun {H enc w fuel cs x} h => by
 obtain ⟨xs, n, _, _, hl, hx, hf⟩ := DataW.trod_struct Tryz.underlying124 h
 rw [show Tryz.prog.cellsOf 124 = 4 by kernel_rfl] at hl
 obtain ⟨c0, c1, c2, c3, rfl⟩ : ∃ c0 c1 c2 c3, cs = [c0, c1, c2, c3] := by
   match cs, hl with
   | [c0, c1, c2, c3], _ => exact ⟨c0, c1, c2, c3, rfl⟩
 have g0 := hf 0 _ rfl
 simp only [List.getElem_toArray, List.getElem_cons_zero, List.getElem_cons_succ] at g0
 rw [show Tryz.prog.cellsOf 9 = 1 by kernel_rfl] at g0
 obtain ⟨x0, y0⟩ : ∃ x, xs[0]? = some x := ⟨_, List.getElem?_eq_getElem (by rw [hx]; decide)⟩
 rw [y0] at g0
 obtain ⟨a0, e0, o0⟩ := (opnS Tryz.underlying9) g0
 have g1 := hf 1 _ rfl
 simp only [List.getElem_toArray, List.getElem_cons_zero, List.getElem_cons_succ] at g1
 rw [show Tryz.prog.cellsOf 120 = 1 by kernel_rfl] at g1
 obtain ⟨x1, y1⟩ : ∃ x, xs[1]? = some x := ⟨_, List.getElem?_eq_getElem (by rw [hx]; decide)⟩
 rw [y1] at g1
 obtain ⟨a1, e1, o1⟩ := (opnSl Tryz.underlying120 opn245 (by kernel_rfl) (by decide)) g1
 have g2 := hf 2 _ rfl
 simp only [List.getElem_toArray, List.getElem_cons_zero, List.getElem_cons_succ] at g2
 rw [show Tryz.prog.cellsOf 121 = 1 by kernel_rfl] at g2
 obtain ⟨x2, y2⟩ : ∃ x, xs[2]? = some x := ⟨_, List.getElem?_eq_getElem (by rw [hx]; decide)⟩
 rw [y2] at g2
 obtain ⟨a2, e2, o2⟩ := (opnSl Tryz.underlying121 opn238 (by kernel_rfl) (by decide)) g2
 have g3 := hf 3 _ rfl
 simp only [List.getElem_toArray, List.getElem_cons_zero, List.getElem_cons_succ] at g3
 rw [show Tryz.prog.cellsOf 122 = 1 by kernel_rfl] at g3
 obtain ⟨x3, y3⟩ : ∃ x, xs[3]? = some x := ⟨_, List.getElem?_eq_getElem (by rw [hx]; decide)⟩
 rw [y3] at g3
 obtain ⟨a3, e3, o3⟩ := (opnSl Tryz.underlying122 opn250 (by kernel_rfl) (by decide)) g3
 clear hf hx hl
 refine ⟨⟨a0, a1, a2, a3⟩, ?_, o0, o1, o2, o3⟩
 simp [slT, strT] at e0 e1 e2 e3
 simp [cellT, slT, strT, e0, e1, e2, e3]
def oklibT (G : Gh) (a : Lib) : Prop := (okSl cellT okcellT) G a.cells
theorem opn24 : Opn Tryz.prog 24 libT oklibT := fun {H enc w fuel cs x} h => by
 obtain ⟨xs, n, _, _, hl, hx, hf⟩ := DataW.trod_struct Tryz.underlying24 h
 rw [show Tryz.prog.cellsOf 24 = 1 by kernel_rfl] at hl
 obtain ⟨c0, rfl⟩ : ∃ c0, cs = [c0] := by
   match cs, hl with
   | [c0], _ => exact ⟨c0, rfl⟩
 have g0 := hf 0 _ rfl
 simp only [List.getElem_toArray, List.getElem_cons_zero, List.getElem_cons_succ] at g0
 rw [show Tryz.prog.cellsOf 22 = 1 by kernel_rfl] at g0
 obtain ⟨x0, y0⟩ : ∃ x, xs[0]? = some x := ⟨_, List.getElem?_eq_getElem (by rw [hx]; decide)⟩
 rw [y0] at g0
 obtain ⟨a0, e0, o0⟩ := (opnSl Tryz.underlying22 opn124 (by kernel_rfl) (by decide)) g0
 clear hf hx hl
 refine ⟨⟨a0⟩, ?_, o0⟩
 simp [slT] at e0
 simp [libT, slT, e0]
theorem okLib_rl {G : Gh} {L : List Ch} {l : Lib} (h : oklibT G l) : RLib G L l.cells.v l.cells.xs :=
 ⟨Rs.g h.1, fun i hi => by
   have hi' : i < l.cells.xs.length := by simpa [shs] using hi
   rw [shs, gd_map _ hi']; exact Rs.g (h.2 i hi').2.1.1, fun i hi => by
   have hi' : i < l.cells.xs.length := by simpa [lbs] using hi
   rw [lbs, gd_map _ hi']; exact Rs.g (h.2 i hi').2.2.1.1, fun i hi => by
   have hi' : i < l.cells.xs.length := by simpa [ins] using hi
   rw [ins, gd_map _ hi']; exact Rs.g (h.2 i hi').2.2.2.1⟩
theorem okLib_len2 {G : Gh} {l : Lib} (h : oklibT G l) : lenC (erCls l.cells.xs) := fun i hi => by
 rw [erCls_len] at hi
 rw [erCls_gd hi]
 exact ⟨(h.2 i hi).1, fun j hj => ((h.2 i hi).2.2.1.2 j hj).2.2⟩
def okruleT (G : Gh) (a : Rule) : Prop := okI G a.kind ∧ okI G a.layer ∧ okI G a.other ∧ okI G a.value ∧ okI G a.percent
theorem opn49 : Opn Tryz.prog 49 ruleT okruleT := fun {H enc w fuel cs x} h => by
 obtain ⟨xs, n, _, _, hl, hx, hf⟩ := DataW.trod_struct Tryz.underlying49 h
 rw [show Tryz.prog.cellsOf 49 = 5 by kernel_rfl] at hl
 obtain ⟨c0, c1, c2, c3, c4, rfl⟩ : ∃ c0 c1 c2 c3 c4, cs = [c0, c1, c2, c3, c4] := by
   match cs, hl with
   | [c0, c1, c2, c3, c4], _ => exact ⟨c0, c1, c2, c3, c4, rfl⟩
 have g0 := hf 0 _ rfl
 simp only [List.getElem_toArray, List.getElem_cons_zero, List.getElem_cons_succ] at g0
 rw [show Tryz.prog.cellsOf 2 = 1 by kernel_rfl] at g0
 obtain ⟨x0, y0⟩ : ∃ x, xs[0]? = some x := ⟨_, List.getElem?_eq_getElem (by rw [hx]; decide)⟩
 rw [y0] at g0
 obtain ⟨a0, e0, o0⟩ := (opnI Tryz.underlying2) g0
 have g1 := hf 1 _ rfl
 simp only [List.getElem_toArray, List.getElem_cons_zero, List.getElem_cons_succ] at g1
 rw [show Tryz.prog.cellsOf 2 = 1 by kernel_rfl] at g1
 obtain ⟨x1, y1⟩ : ∃ x, xs[1]? = some x := ⟨_, List.getElem?_eq_getElem (by rw [hx]; decide)⟩
 rw [y1] at g1
 obtain ⟨a1, e1, o1⟩ := (opnI Tryz.underlying2) g1
 have g2 := hf 2 _ rfl
 simp only [List.getElem_toArray, List.getElem_cons_zero, List.getElem_cons_succ] at g2
 rw [show Tryz.prog.cellsOf 2 = 1 by kernel_rfl] at g2
 obtain ⟨x2, y2⟩ : ∃ x, xs[2]? = some x := ⟨_, List.getElem?_eq_getElem (by rw [hx]; decide)⟩
 rw [y2] at g2
 obtain ⟨a2, e2, o2⟩ := (opnI Tryz.underlying2) g2
 have g3 := hf 3 _ rfl
 simp only [List.getElem_toArray, List.getElem_cons_zero, List.getElem_cons_succ] at g3
 rw [show Tryz.prog.cellsOf 2 = 1 by kernel_rfl] at g3
 obtain ⟨x3, y3⟩ : ∃ x, xs[3]? = some x := ⟨_, List.getElem?_eq_getElem (by rw [hx]; decide)⟩
 rw [y3] at g3
 obtain ⟨a3, e3, o3⟩ := (opnI Tryz.underlying2) g3
 have g4 := hf 4 _ rfl
 simp only [List.getElem_toArray, List.getElem_cons_zero, List.getElem_cons_succ] at g4
 rw [show Tryz.prog.cellsOf 2 = 1 by kernel_rfl] at g4
 obtain ⟨x4, y4⟩ : ∃ x, xs[4]? = some x := ⟨_, List.getElem?_eq_getElem (by rw [hx]; decide)⟩
 rw [y4] at g4
 obtain ⟨a4, e4, o4⟩ := (opnI Tryz.underlying2) g4
 clear hf hx hl
 refine ⟨⟨a0, a1, a2, a3, a4⟩, ?_, o0, o1, o2, o3, o4⟩
 simp [intT] at e0 e1 e2 e3 e4
 simp [intT, ruleT, e0, e1, e2, e3, e4]
def okdeckT (G : Gh) (a : Deck) : Prop := (okSl ruleT okruleT) G a.rules
theorem opn27 : Opn Tryz.prog 27 deckT okdeckT := fun {H enc w fuel cs x} h => by
 obtain ⟨xs, n, _, _, hl, hx, hf⟩ := DataW.trod_struct Tryz.underlying27 h
 rw [show Tryz.prog.cellsOf 27 = 1 by kernel_rfl] at hl
 obtain ⟨c0, rfl⟩ : ∃ c0, cs = [c0] := by
   match cs, hl with
   | [c0], _ => exact ⟨c0, rfl⟩
 have g0 := hf 0 _ rfl
 simp only [List.getElem_toArray, List.getElem_cons_zero, List.getElem_cons_succ] at g0
 rw [show Tryz.prog.cellsOf 25 = 1 by kernel_rfl] at g0
 obtain ⟨x0, y0⟩ : ∃ x, xs[0]? = some x := ⟨_, List.getElem?_eq_getElem (by rw [hx]; decide)⟩
 rw [y0] at g0
 obtain ⟨a0, e0, o0⟩ := (opnSl Tryz.underlying25 opn49 (by kernel_rfl) (by decide)) g0
 clear hf hx hl
 refine ⟨⟨a0⟩, ?_, o0⟩
 simp [slT] at e0
 simp [deckT, slT, e0]
theorem cellCounts_lifted (os : Os) (started : os.Started) (H : Type) (enc : TypeId × Value → H) :
   ReturnsInHanded {} Tryz.checked os 3 .any (Rows.fnExactCellViolationCountsSpec.pre6 enc Tryz.prog Tryz.f3 [] false) (Rows.fnExactCellViolationCountsSpec.post enc Tryz.prog Tryz.f3 false true false false) := by
 refine law_lifted (C := Tryz.checked) Tryz.own started (by kernel_rfl) Tryz.func3 Tryz.laidOut rfl (by kernel_rfl) rfl Tryz.underlying4 (fun ds h => ?_)
   (ChangeSpec.witness6 (enc := enc) (C := Tryz.checked) false ⟨#[], #[.agg #[.slice none 0 0], .agg #[.slice none 0 0]], []⟩ 8 (by kernel_rfl) (by kernel_rfl) (by kernel_rfl) (by kernel_rfl)) ?_
 · match ds, h with
   | [d, e], _ => rfl
 · intro W base args ds ps hval hA
   have hA : DataW.TrodAll enc Tryz.prog W 0 (fun _ => true) true Tryz.f3.params.toList args.toList ds ps := hA
   have hval : ∀ (j : Nat) t v, Tryz.f3.params[j]? = some t → args[j]? = some v → Value.okWide Tryz.prog W .any base t v := hval
   rw [Tryz.params3] at hA hval
   obtain ⟨v0, v1, d0, d1, p0, p1, rfl, rfl, rfl, h0, h1⟩ := trodAll_two hA
   obtain ⟨l, rfl, q1⟩ := argT Tryz.underlying24 opn24 (hval 0 _ v0 rfl rfl) h0
   obtain ⟨dk, rfl, q2⟩ := argT Tryz.underlying27 opn27 (hval 1 _ v1 rfl rfl) h1
   exact law_CellViolationCounts (okLib_rl q1) (okLib_len2 q1) (Rs.g q2.1) ⟨rfl, Gh.le_refl _⟩
theorem cellCounts_joined : joinedFacts Tryz.pinned.checked.prog 3 Tryz.f3 Rows.fnExactCellViolationCountsSpec Rows.fnExactCellViolationCountsRow = true := by kernel_rfl
theorem cellCounts_holds : Rows.FnExactCellViolationCountsSaid :=
 OpenClaim.holds_of_wide 3 Tryz.f3 rfl rfl rfl rfl rfl rfl rfl ⟨rfl, rfl, rfl, rfl, rfl⟩ rfl rfl rfl rfl rfl (by kernel_rfl) Tryz.func3 cellCounts_joined
   (of_decide_eq_true (by kernel_rfl)) (by unfold Func.isWrapper; first | (rw [if_pos (by decide +kernel)]; kernel_rfl) | (rw [if_neg (by decide +kernel)]; exact ⟨rfl, rfl⟩))
   (fun os started H enc _ => cellCounts_lifted os started H enc)
end Go.Proofs.YtgphjofccckloaaGreat
