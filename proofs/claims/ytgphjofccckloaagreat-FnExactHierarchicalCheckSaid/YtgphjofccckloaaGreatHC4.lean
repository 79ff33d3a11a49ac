/-
  Contracts of functions and plain facts that the last text of this folder uses, part 4.
-/
import Derived.Test.YtgphjofccckloaaGreatHC3
import Derived.Laws.BytesArg
set_option linter.unusedVariables false
set_option linter.unusedSimpArgs false
namespace Go.Proofs.YtgphjofccckloaaGreat
open Go
set_option maxRecDepth 20000
variable {G : Gh} {L : List Ch} {R : Value → Gh → List Ch → Prop}
def winR (w y x : Int) : Rect := ⟨x, y, min (x + w) 40, min (y + w) 40⟩
def winX (w y x : Int) : List Rect := if x < 40 ∧ 0 < w then winR w y x :: winX w y (x + w) else []
termination_by (40 - x).toNat
decreasing_by omega
def winY (w y : Int) : List Rect := if y < 40 ∧ 0 < w then winX w y (-40) ++ winY w (y + w) else []
termination_by (40 - y).toNat
decreasing_by omega
def windL (w : Int) : List Rect := if within w 4 40 = true then winY w (-40) else []
theorem winX_on {w y x : Int} (hw : 0 < w) (hx : x < 40) : winX w y x = winR w y x :: winX w y (x + w) := by rw [winX, if_pos ⟨hx, hw⟩]
theorem winX_off {w y x : Int} (hx : ¬ x < 40) : winX w y x = [] := by rw [winX, if_neg (fun h => hx h.1)]
theorem winY_on {w y : Int} (hw : 0 < w) (hx : y < 40) : winY w y = winX w y (-40) ++ winY w (y + w) := by rw [winY, if_pos ⟨hx, hw⟩]
theorem winY_off {w y : Int} (hx : ¬ y < 40) : winY w y = [] := by rw [winY, if_neg (fun h => hx h.1)]
theorem winX_facts {w y : Int} (hw : 0 < w) (hy : -40 ≤ y ∧ y < 40) (x : Int) (hx : -40 ≤ x) : (winX w y x).length ≤ (40 - x).toNat ∧ ∀ r ∈ winX w y x, validRect r = true := by
 by_cases c : x < 40
 ·rw [winX_on hw c]
  have ih := winX_facts hw hy (x + w) (by omega)
  refine ⟨by simp only [List.length_cons]; omega, fun r hr => ?_⟩
  rcases List.mem_cons.1 hr with rfl | hr
  ·rw [validR_iff]; simp only [winR]; omega
  ·exact ih.2 r hr
 ·rw [winX_off c]; exact ⟨Nat.zero_le _, fun r hr => by cases hr⟩
termination_by (40 - x).toNat
decreasing_by omega
theorem winY_facts {w : Int} (hw : 0 < w) (y : Int) (hy : -40 ≤ y) : (winY w y).length ≤ 80 * (40 - y).toNat ∧ ∀ r ∈ winY w y, validRect r = true := by
 by_cases c : y < 40
 ·rw [winY_on hw c]
  have ih := winY_facts hw (y + w) (by omega)
  have hx := winX_facts hw ⟨hy, c⟩ (-40) (by omega)
  refine ⟨by rw [List.length_append]; omega, fun r hr => ?_⟩
  rcases List.mem_append.1 hr with hr | hr
  ·exact hx.2 r hr
  ·exact ih.2 r hr
 ·rw [winY_off c]; exact ⟨Nat.zero_le _, fun r hr => by cases hr⟩
termination_by (40 - y).toNat
decreasing_by omega
theorem windL_facts (w : Int) : (windL w).length ≤ 6400 ∧ ∀ r ∈ windL w, validRect r = true := by
 unfold windL; split
 ·rename_i h; simp [within] at h; exact ⟨by have := (winY_facts (w := w) (by omega) (-40) (by omega)).1; omega, (winY_facts (by omega) (-40) (by omega)).2⟩
 ·exact ⟨Nat.zero_le _, fun r hr => by cases hr⟩
theorem windows_s {w : Int} (k : ∀ v', R v' G (osl 91 rectT v' (windL w) :: L)) : CallT Tryz.prog 176 #[vi w] G L R := by
 refine CallT.enter (args := _) Tryz.func176 rfl rfl (by kernel_rfl) rfl ?_
 refine WP.sr (RG.p (PV.asg rfl rfl) (RG.nil (WP.sr ?_)))
 refine RG.ot rfl (OT.bslice (F := rectT) (els := []) rfl El50 rfl (by decide) rfl (by decide) trivial fun v6 => ?_)
 refine RG.p (PV.asg (v := v6) rfl rfl) (RG.nil (WP.seq (WP.sr (RG.ml rfl (RG.p (PV.lss rfl rfl rfl) (RG.bl rfl ?_))))))
 refine RG.g rfl (fun hp => (PV.mvI (.inl rfl) rfl)) ?_
 refine RG.g rfl (fun hp => (PV.gtr rfl (gs_t hp) rfl)) ?_
 refine RG.p (PV.pickO rfl rfl rfl (fun hq => gs_t (geqF hq))) (RG.nil ?_)
 refine WP.cond rfl (fun h2 => ?_) (fun h2 => ?_)
 ·have e : windL w = [] := by rw [windL, if_neg]; simp only [within, Bool.and_eq_true, decide_eq_true_eq]; simp at h2; omega
  rw [e] at k
  refine WP.sr (RG.p (PV.move (v := v6) rfl rfl) (RG.p (PV.asg (v := v6) rfl rfl) (RG.nil ?_)))
  exact WP.ret ⟨_, _, ResV.one rfl rfl, Cv.p, k v6⟩
 ·have h3 : 4 ≤ w ∧ w ≤ 40 := by simp at h2; omega
  have hwl := (winY_facts (w := w) (by omega) (-40) (by omega)).1
  have e : windL w = winY w (-40) := by rw [windL, if_pos]; simp [within, h3.1, h3.2]
  rw [e] at k
  refine WP.skip (WP.seq (WP.sr (RG.mr rfl (RG.nil (WP.block ?_)))))
  refine WP.loop3 [0] (fun (y : Int) (zs : List Rect) (q : Value) => (-40 ≤ y ∧ y ≤ 80) ∧ zs ++ winY w y = winY w (-40)) (fun (y : Int) (zs : List Rect) (q : Value) => [(4, vi y), (3, q)]) (fun (y : Int) (zs : List Rect) (q : Value) => osl 91 rectT q zs :: L) (fun (y : Int) (zs : List Rect) (q : Value) => (80 - y).toNat) (-40) [] v6 ⟨by omega, rfl⟩ ⟨rfl, rfl, trivial⟩ Cv.p ?_
  rintro y zs q τ ⟨hy, hz⟩
  refine WP.seq (WP.sr (RG.ml rfl (RG.p (PV.lss rfl rfl rfl) (RG.nil ?_))))
  refine WP.cond rfl (fun h4 => ?_) (fun h4 => ?_)
  ·have h4 := of_decide_eq_true h4
   rw [winY_on (by omega) h4] at hz
   refine WP.skip (WP.seq (WP.block (WP.sr (RG.mr rfl (RG.nil (WP.block ?_))))))
   refine WP.loop3 [0, 4] (fun (x : Int) (zs2 : List Rect) (q2 : Value) => (-40 ≤ x ∧ x ≤ 80) ∧ zs2 ++ (winX w y x ++ winY w (y + w)) = winY w (-40)) (fun (x : Int) (zs2 : List Rect) (q2 : Value) => [(5, vi x), (3, q2)]) (fun (x : Int) (zs2 : List Rect) (q2 : Value) => osl 91 rectT q2 zs2 :: L) (fun (x : Int) (zs2 : List Rect) (q2 : Value) => (80 - x).toNat) (-40) zs q ⟨by omega, hz⟩ ⟨rfl, rfl, trivial⟩ Cv.p ?_
   rintro x zs2 q2 τ1 ⟨hx, hz2⟩
   refine WP.seq (WP.sr (RG.ml rfl (RG.p (PV.lss rfl rfl rfl) (RG.nil ?_))))
   have hz2l := congrArg List.length hz2
   rw [List.length_append] at hz2l
   refine WP.cond rfl (fun h5 => ?_) (fun h5 => ?_)
   ·have h5 := of_decide_eq_true h5
    rw [winX_on (by omega) h5] at hz2
    refine WP.skip (WP.seq (WP.block (WP.region (RG.p (PV.move (v := q2) rfl rfl) (RG.ml rfl (RG.ml rfl (RG.ml rfl (RG.ml rfl (RG.p (PV.add rfl rfl rfl (by omega)) (RG.p (PV.min2 rfl rfl rfl) (RG.ml rfl (RG.ml rfl (RG.p (PV.add rfl rfl rfl (by omega)) ?_)))))))))))))
    refine RG.p (PV.min2 rfl rfl rfl) (RG.p (PV.build (vs := [(0, [vi _]), (1, [vi _]), (2, [vi _]), (3, [vi _])]) (out := [_, _, _, _]) rfl Zr91 Pl91 ⟨rfl, (Cl.c rfl), ⟨rfl, (Cl.c rfl), ⟨rfl, (Cl.c rfl), ⟨rfl, (Cl.c rfl), trivial⟩⟩⟩⟩ rfl) ?_)
    refine RG.ot rfl (OT.bslice (F := rectT) (els := [⟨_, _, _, _⟩]) rfl El50 rfl (by decide) rfl (by decide) ⟨rfl, (Cl.c rfl), trivial⟩ fun v36 => ?_)
    refine RG.ot rfl (OT.append (v := q2) (u := v36) (F := rectT) rfl El50 rfl (by decide) rfl rfl Rs.o (OneL.c (fun _ => rfl)) rfl (by first | omega | (simp <;> omega)) fun v37 => ?_)
    refine RG.p (PV.asg (v := v37) rfl rfl) (RG.nil (WP.region (RG.ml rfl (RG.ml rfl (RG.p (PV.add rfl rfl rfl (by omega)) (RG.mr rfl (RG.nil ?_)))))))
    exact ⟨rfl, x + w, (zs2 ++ [⟨x, y, min (x + w) 40, min (y + w) 40⟩]), v37, ⟨by omega, by rw [← hz2]; simp [winR]⟩, ⟨rfl, rfl, trivial⟩, ⟨rfl, rfl, trivial⟩, Cv.p, by omega⟩
   ·have h5 := of_decide_eq_false h5
    rw [winX_off h5, List.nil_append] at hz2
    refine WP.exit ?_
    refine WP.region (RG.ml rfl (RG.ml rfl (RG.p (PV.add rfl rfl rfl (by omega)) (RG.mr rfl (RG.nil ?_)))))
    exact ⟨rfl, y + w, zs2, q2, ⟨by omega, hz2⟩, ⟨rfl, rfl, trivial⟩, ⟨rfl, trivial⟩, Cv.p, by omega⟩
  ·have h4 := of_decide_eq_false h4
   rw [winY_off h4, List.append_nil] at hz
   rw [hz]
   refine WP.exit ?_
   refine WP.sr (RG.p (PV.move (v := q) rfl rfl) (RG.p (PV.asg (v := q) rfl rfl) (RG.nil ?_)))
   exact WP.ret ⟨_, _, ResV.one rfl rfl, Cv.p, k q⟩
theorem cov_row {S : List Bool} {y x0 : Int} {n : Nat} : 0 ≤ tH S y x0 n ∧ tH S y x0 n ≤ n := cntF_bd _ _
theorem cov_col {S : List Bool} {r : Rect} (hv : (wR r : Int) ≤ 80) (j : Nat) : 0 ≤ sumF (fun j => tH S (r.y0 + j) r.x0 (wR r)) j ∧ sumF (fun j => tH S (r.y0 + j) r.x0 (wR r)) j ≤ j * 80 :=
 sumF_bd (fun i => ⟨cov_row.1, Int.le_trans cov_row.2 hv⟩) j
theorem covB_bd {S : List Bool} {r : Rect} (hr : validRect r = true) : 0 ≤ covB S r ∧ covB S r ≤ 6400 := by
 have hv := validR_iff.1 hr
 have h1 : (wR r : Int) = r.x1 - r.x0 := by simp only [wR]; omega
 have h2 : (hR r : Int) = r.y1 - r.y0 := by simp only [hR]; omega
 have := cov_col (S := S) (r := r) (by omega) (hR r)
 unfold covB; omega
theorem covd_s {v : Value} {S : List Bool} {r : Rect} (h1 : Rs G L boolT v S) (hS : S.length = 6400) (hr : validRect r = true) (k : R (vi (covB S r)) G L) : CallT Tryz.prog 177 #[v, vrect r] G L R := by
 have hv := validR_iff.1 hr
 have e1 : (wR r : Int) = r.x1 - r.x0 := by simp only [wR]; omega
 have e2 : (hR r : Int) = r.y1 - r.y0 := by simp only [hR]; omega
 refine CallT.enter (args := _) Tryz.func177 rfl rfl (by kernel_rfl) rfl ?_
 refine WP.sr ?_
 refine RG.ot rfl (OT.box (cs := rectT.enc r) rfl rfl rfl fun b3 => ?_)
 refine RG.mr rfl (RG.nil (WP.sr (RG.mr rfl (RG.nil (WP.seq (WP.sr (RG.p (PV.field rfl Fo91_1 rfl) (RG.p (PV.load1 rfl Sc2 rfl (Rd.blk rfl)) (RG.mr rfl (RG.nil (WP.block ?_)))))))))))
 refine WP.loop3 [0, 3] (fun (j : Nat) (y n : Int) => j ≤ hR r ∧ y = r.y0 + j ∧ n = sumF (fun j => tH S (r.y0 + j) r.x0 (wR r)) j) (fun (j : Nat) (y n : Int) => [(6, vi y), (5, vi n)]) (fun (j : Nat) (y n : Int) => blk b3 91 (rectT.enc r) :: L) (fun (j : Nat) (y n : Int) => hR r - j) 0 r.y0 0 ⟨by omega, by omega, rfl⟩ ⟨rfl, rfl, trivial⟩ Cv.p ?_
 rintro j y n τ ⟨hj, hy, hn⟩
 refine WP.seq (WP.sr (RG.ml rfl (RG.p (PV.field rfl Fo91_3 rfl) (RG.p (PV.load1 rfl Sc2 rfl (Rd.blk rfl)) (RG.p (PV.lss rfl rfl rfl) (RG.nil ?_))))))
 have hnb := cov_col (S := S) (r := r) (by omega) j
 rw [← hn] at hnb
 refine WP.cond rfl (fun h2 => ?_) (fun h2 => ?_)
 ·have h2 := of_decide_eq_true h2
  refine WP.skip (WP.seq (WP.block (WP.sr (RG.p (PV.field rfl Fo91_0 rfl) (RG.p (PV.load1 rfl Sc2 rfl (Rd.blk rfl)) (RG.mr rfl (RG.nil (WP.block ?_))))))))
  refine WP.loop3 [0, 3, 6] (fun (i : Nat) (x m : Int) => i ≤ wR r ∧ x = r.x0 + i ∧ m = n + tH S (r.y0 + j) r.x0 i) (fun (i : Nat) (x m : Int) => [(7, vi x), (5, vi m)]) (fun (i : Nat) (x m : Int) => blk b3 91 (rectT.enc r) :: L) (fun (i : Nat) (x m : Int) => wR r - i) 0 r.x0 n ⟨by omega, by omega, by simp [tH, cntF, sumF]⟩ ⟨rfl, rfl, trivial⟩ Cv.p ?_
  rintro i x m τ1 ⟨hi, hx, hm⟩
  refine WP.seq (WP.sr (RG.ml rfl (RG.p (PV.field rfl Fo91_2 rfl) (RG.p (PV.load1 rfl Sc2 rfl (Rd.blk rfl)) (RG.p (PV.lss rfl rfl rfl) (RG.nil ?_))))))
  have hmb := cov_row (S := S) (y := r.y0 + j) (x0 := r.x0) (n := i)
  refine WP.cond rfl (fun h3 => ?_) (fun h3 => ?_)
  ·have h3 := of_decide_eq_true h3
   have hat := at_eq (x := x) (y := y) (by omega) (by omega)
   have hcl : tH S (r.y0 + j) r.x0 (i + 1) = tH S (r.y0 + j) r.x0 i + one (gd S ((y + 40) * 80 + x + 40).toNat) := by
    rw [tH, cntF_succ, ← hx, ← hy, cellB_in (by omega), gb, ← hat]; rfl
   refine WP.skip (WP.seq (WP.block (WP.sr (RG.p (PV.move (v := v) rfl rfl) (RG.ml rfl (RG.ml rfl ?_))))))
   refine RG.callF (vs := [_, _]) rfl rfl En236 rfl (l17At_s (by omega) (by omega) ?_)
   refine RG.p (PV.idxS (j := ((y + 40) * 80 + x + 40).toNat) (v := v) rfl Is162 rfl (SlF.r h1) rfl (by first | omega | (simp only [List.length_set]; omega)) (by first | omega | (simp only [List.length_set]; omega))) (RG.p (PV.loadE1 rfl Sc4 rfl rfl (El.r h1 (getG (by omega))) rfl) (RG.nil ?_))
   refine WP.cond rfl (fun h4 => ?_) (fun h4 => ?_)
   ·rw [h4] at hcl
    refine WP.region (RG.ml rfl (RG.p (PV.add rfl rfl rfl (by omega)) (RG.mr rfl (RG.nil (WP.region (RG.ml rfl (RG.p (PV.add rfl rfl rfl (by omega)) (RG.mr rfl (RG.nil ?_)))))))))
    exact ⟨rfl, i + 1, x + 1, m + 1, ⟨by omega, by omega, by rw [hcl, hm]; simp only [one, cond_true]; omega⟩, ⟨rfl, rfl, trivial⟩, ⟨rfl, rfl, rfl, trivial⟩, Cv.p, by omega⟩
   ·rw [h4] at hcl
    refine WP.skip (WP.region (RG.ml rfl (RG.p (PV.add rfl rfl rfl (by omega)) (RG.mr rfl (RG.nil ?_)))))
    exact ⟨rfl, i + 1, x + 1, m, ⟨by omega, by omega, by rw [hcl, hm]; simp only [one, cond_false]; omega⟩, ⟨rfl, rfl, trivial⟩, ⟨rfl, rfl, rfl, trivial⟩, Cv.p, by omega⟩
  ·have h3 := of_decide_eq_false h3
   obtain rfl : i = wR r := by omega
   refine WP.exit ?_
   refine WP.region (RG.ml rfl (RG.p (PV.add rfl rfl rfl (by omega)) (RG.mr rfl (RG.nil ?_))))
   exact ⟨rfl, j + 1, y + 1, m, ⟨by omega, by omega, by rw [hm, hn]; rfl⟩, ⟨rfl, rfl, trivial⟩, ⟨rfl, rfl, trivial⟩, Cv.p, by omega⟩
 ·have h2 := of_decide_eq_false h2
  obtain rfl : j = hR r := by omega
  have e : covB S r = n := by rw [hn]; rfl
  rw [e] at k
  refine WP.exit ?_
  refine WP.sr (RG.ml rfl (RG.mr rfl (RG.nil ?_)))
  exact WP.ret ⟨_, _, ResV.one rfl rfl, Cv.p, k⟩
def Bare (S : List Bool) (ws : List Rect) (p : Int) (y x : Nat) : Prop := ∃ r ∈ ws, 100 * covB S r < p * areaR r ∧ inR r y x = true
theorem Bare.next {S : List Bool} {ws : List Rect} {p : Int} {y x i : Nat} (h : i < ws.length) : Bare S (ws.take (i + 1)) p y x ↔ Bare S (ws.take i) p y x ∨ (100 * covB S (gd ws i) < p * areaR (gd ws i) ∧ inR (gd ws i) y x = true) := by
 unfold Bare
 rw [List.take_add_one, getG h]
 constructor
 ·rintro ⟨c, hc, h1⟩
  rcases List.mem_append.1 hc with h2 | h2
  ·exact .inl ⟨c, h2, h1⟩
  ·simp only [Option.toList, List.mem_singleton] at h2; subst h2; exact .inr h1
 ·rintro (⟨c, hc, h1⟩ | h1)
  ·exact ⟨c, List.mem_append_left _ hc, h1⟩
  ·exact ⟨_, List.mem_append_right _ (by simp), h1⟩
noncomputable def densL (xs : List Rect) (w p : Int) : List Rect := if (isReg xs && within w 4 40 && within p 1 100) = true then canon (zipB minB (celL (Bare (bits xs) (windL w) p)) (bits xs)) else []
theorem markDens_s {v : Value} {xs : List Rect} {w p : Int} (h1 : Rs G L rectT v xs) (k : ∀ v', R v' G (osl 91 rectT v' (densL xs w p) :: L)) : CallT Tryz.prog 98 #[v, vi w, vi p] G L R := by
 refine CallT.enter (args := _) Tryz.func98 rfl rfl (by kernel_rfl) rfl ?_
 refine WP.sr (RG.p (PV.asg rfl rfl) (RG.nil (WP.seq (WP.sr (RG.p (PV.move (v := v) rfl rfl) ?_)))))
 refine RG.callF (vs := [v]) rfl rfl En167 rfl (l03Ok_s (Rs.up h1) ?_)
 refine RG.p (PV.not rfl rfl) (RG.bl rfl ?_)
 refine RG.g rfl (fun hp => (PV.mvI (.inl rfl) rfl)) ?_
 refine RG.g rfl (fun hp => (PV.lss rfl (gs_t hp) rfl)) ?_
 refine RG.p (PV.pickO rfl rfl rfl (fun hq => gs_t (geqF hq))) (RG.bl rfl ?_)
 refine RG.g rfl (fun hp => (PV.mvI (.inl rfl) rfl)) ?_
 refine RG.g rfl (fun hp => (PV.gtr rfl (gs_t hp) rfl)) ?_
 refine RG.p (PV.pickO rfl rfl rfl (fun hq => gs_t (geqF hq))) (RG.bl rfl ?_)
 refine RG.g rfl (fun hp => (PV.mvI (.inl rfl) rfl)) ?_
 refine RG.g rfl (fun hp => (PV.lss rfl (gs_t hp) rfl)) ?_
 refine RG.p (PV.pickO rfl rfl rfl (fun hq => gs_t (geqF hq))) (RG.bl rfl ?_)
 refine RG.g rfl (fun hp => (PV.mvI (.inl rfl) rfl)) ?_
 refine RG.g rfl (fun hp => (PV.gtr rfl (gs_t hp) rfl)) ?_
 refine RG.p (PV.pickO rfl rfl rfl (fun hq => gs_t (geqF hq))) (RG.nil ?_)
 refine WP.cond rfl (fun h3 => ?_) (fun h3 => ?_)
 ·have e : densL xs w p = [] := by
   rw [densL, if_neg]
   intro h4
   simp only [Bool.and_eq_true, within, decide_eq_true_eq] at h4
   simp [h4.1.1] at h3; omega
  rw [e] at k
  refine WP.sr ?_
  refine RG.ot rfl (OT.bslice (F := rectT) (els := []) rfl El50 rfl (by decide) rfl (by decide) trivial fun v31 => ?_)
  refine RG.p (PV.asg (v := v31) rfl rfl) (RG.nil ?_)
  exact WP.ret ⟨_, _, ResV.one rfl rfl, Cv.p, k v31⟩
 ·have hreg : isReg xs = true := by cases g1 : isReg xs <;> simp_all
  have hpw : (4 ≤ w ∧ w ≤ 40) ∧ 1 ≤ p ∧ p ≤ 100 := by rw [hreg] at h3; simp at h3; omega
  have hpb := hpw.2
  have hbx := bits_length xs
  have hzl := (windL_facts w).1
  have hzv := (windL_facts w).2
  have e0 : densL xs w p = canon (zipB minB (celL (Bare (bits xs) (windL w) p)) (bits xs)) := by rw [densL, if_pos]; simp [hreg, within, hpw.1.1, hpw.1.2, hpb.1, hpb.2]
  rw [e0] at k
  refine WP.skip (WP.sr (RG.p (PV.move (v := v) rfl rfl) ?_))
  refine RG.callF (vs := [v]) rfl rfl En120 rfl (l03Bits_s (Rs.up h1) (fun i hi => valid_get (isReg_valid hreg) hi) (fun v33 => ?_))
  refine RG.p (PV.asg (v := v33) rfl rfl) (RG.nil (WP.sr (RG.p (PV.move (v := v33) rfl rfl) (RG.p (PV.len (v := v33) rfl Tryz.underlying162 rfl SlF.o) ?_))))
  refine RG.ot rfl (OT.make (F := boolT) (a0 := false) rfl El162 rfl (by decide) rfl rfl (by omega) (by omega) fun v36 => ?_)
  refine RG.p (PV.asg (v := v36) rfl rfl) (RG.nil (WP.sr (RG.ml rfl ?_)))
  refine RG.callF (vs := [_]) rfl rfl En176 rfl (windows_s (fun v38 => ?_))
  refine RG.p (PV.asg (v := v38) rfl rfl) (RG.nil (WP.seq (WP.sr (RG.mr rfl (RG.nil (WP.block ?_))))))
  refine WP.loop3 [2, 7, 9] (fun (i : Nat) (E : List Bool) (q : Value) => i ≤ (windL w).length ∧ Is E (Bare (bits xs) ((windL w).take i) p)) (fun (i : Nat) (E : List Bool) (q : Value) => [(10, vi i), (8, q)]) (fun (i : Nat) (E : List Bool) (q : Value) => osl 4 boolT q E :: osl 91 rectT v38 (windL w) :: osl 4 boolT v33 (bits xs) :: L) (fun (i : Nat) (E : List Bool) (q : Value) => (windL w).length - i) 0 (List.replicate (bits xs).length false) v36 ⟨by omega, Is.none _ hbx fun v u _ _ => by rintro ⟨c, hc, _⟩; simp at hc⟩ ⟨rfl, rfl, trivial⟩ Cv.p ?_
  rintro i E q τ ⟨hi, hE⟩
  refine WP.seq (WP.sr (RG.ml rfl (RG.p (PV.move (v := v38) rfl rfl) (RG.p (PV.len (v := v38) rfl Tryz.underlying50 rfl SlF.o) (RG.p (PV.lss rfl rfl rfl) (RG.nil ?_))))))
  have hEl := hE.1
  refine WP.cond rfl (fun h5 => ?_) (fun h5 => ?_)
  ·have h5 := of_decide_eq_true h5
   have hvi := hzv _ (gd_mem (show i < (windL w).length by omega))
   have hlb := len_bd hvi
   have hmb := mulP_bd hpb hlb
   have hcb := covB_bd (S := bits xs) hvi
   have hnx := fun y x => Bare.next (S := bits xs) (ws := windL w) (p := p) (y := y) (x := x) (i := i) (by omega)
   have hla : lenR (gd (windL w) i) = areaR (gd (windL w) i) := rfl
   refine WP.skip (WP.seq (WP.block (WP.seq ?_)))
   refine WP.regionQ (by kernel_rfl) (by kernel_rfl) ?_
   refine RQ.pv rfl (PV.move (v := v33) rfl rfl) (RQ.pv rfl (PV.move (v := v38) rfl rfl) (RQ.pv rfl (PV.mvI (.inl rfl) rfl) (RQ.pv rfl (PV.idxS (v := v38) rfl Is50 rfl SlF.o rfl rfl (by omega)) (RQ.pv rfl (PV.loadE rfl Ag91 rfl rfl (El.o (getG (by omega)))) ?_))))
   refine RQ.callF (vs := [v33, _]) rfl rfl En177 rfl (covd_s Rs.o (bits_length _) (hzv _ (gd_mem (by omega))) ⟨rfl, rfl, rfl⟩) ?_
   refine RQ.pv rfl (PV.mul rfl rfl rfl (by omega)) (RQ.pv rfl (PV.mvI (.inl rfl) rfl) (RQ.pv rfl (PV.move (v := v38) rfl rfl) (RQ.pv rfl (PV.mvI (.inl rfl) rfl) (RQ.pv rfl (PV.idxS (v := v38) rfl Is50 rfl SlF.o rfl rfl (by omega)) (RQ.pv rfl (PV.loadE rfl Ag91 rfl rfl (El.o (getG (by omega)))) ?_)))))
   refine RQ.callF (vs := [_]) rfl rfl En178 rfl (len17_s (hzv _ (gd_mem (by omega))) ⟨rfl, rfl, rfl⟩) ?_
   refine RQ.pv rfl (PV.mul rfl rfl rfl (by omega)) (RQ.pv rfl (PV.lss rfl rfl rfl) ?_)
   refine RQ.nil ?_
   refine WP.cond rfl (fun h6 => ?_) (fun h6 => ?_)
   ·have h6 : 100 * covB (bits xs) (gd (windL w) i) < p * areaR (gd (windL w) i) := by rw [← hla]; simpa using h6
    refine WP.region (RG.p (PV.move (v := q) rfl rfl) (RG.p (PV.move (v := v38) rfl rfl) (RG.ml rfl (RG.p (PV.idxS (v := v38) rfl Is50 rfl SlF.o rfl rfl (by omega)) (RG.p (PV.loadE rfl Ag91 rfl rfl (El.o (getG (by omega)))) ?_)))))
    refine RG.callF (vs := [q, _]) rfl rfl En179 rfl (CallT.exS q (fill_s hEl (hzv _ (gd_mem (by omega))) (fun D' hD' hg' => ?_)))
    refine RG.p (PV.asg rfl rfl) (RG.nil (WP.region (RG.ml rfl (RG.p (PV.add rfl rfl rfl (by omega)) (RG.mr rfl (RG.nil ?_))))))
    exact ⟨rfl, i + 1, D', q, ⟨by omega, hD', fun y x hy hx => by rw [hg' y x hy hx, Bool.or_eq_true, hE.2 y x hy hx, hnx]; simp [h6]⟩, ⟨rfl, rfl, trivial⟩, ⟨rfl, rfl, rfl, trivial⟩, Cv.p, by omega⟩
   ·have h6 : ¬ 100 * covB (bits xs) (gd (windL w) i) < p * areaR (gd (windL w) i) := by rw [← hla]; simpa using h6
    refine WP.skip (WP.region (RG.ml rfl (RG.p (PV.add rfl rfl rfl (by omega)) (RG.mr rfl (RG.nil ?_)))))
    exact ⟨rfl, i + 1, E, q, ⟨by omega, hE.congr fun y x _ _ => by rw [hnx]; simp [h6]⟩, ⟨rfl, rfl, trivial⟩, ⟨rfl, rfl, rfl, trivial⟩, Cv.p, by omega⟩
  ·have h5 := of_decide_eq_false h5
   rw [List.take_of_length_le (by omega)] at hE
   have hEc : E = celL (Bare (bits xs) (windL w) p) := celL_eq hE.1 hE.2
   rw [← hEc] at k
   refine WP.exit ?_
   refine WP.seq (WP.sr (RG.mr rfl (RG.nil (WP.block ?_))))
   refine WP.loop2 [7, 8] (fun (j : Nat) (D : List Bool) => j ≤ 6400 ∧ ZI minB E (bits xs) j D) (fun (j : Nat) (D : List Bool) => [(11, vi j)]) (fun (j : Nat) (D : List Bool) => osl 4 boolT q D :: osl 4 boolT v33 (bits xs) :: L) (fun (j : Nat) (D : List Bool) => 6400 - j) 0 E ⟨by omega, ZI.start hEl⟩ ⟨rfl, trivial⟩ Cv.p ?_
   rintro j D τ1 ⟨hj, hD⟩
   refine WP.seq (WP.sr (RG.ml rfl (RG.p (PV.move (v := q) rfl rfl) (RG.p (PV.len (v := q) rfl Tryz.underlying162 rfl SlF.o) (RG.p (PV.lss rfl rfl rfl) (RG.nil ?_))))))
   have hDl := hD.1
   refine WP.cond rfl (fun h6 => ?_) (fun h6 => ?_)
   ·have h6 := of_decide_eq_true h6
    refine WP.skip (WP.seq (WP.block (WP.region (RG.p (PV.move (v := q) rfl rfl) (RG.ml rfl (RG.p (PV.move (v := q) rfl rfl) (RG.ml rfl (RG.p (PV.idxS (v := q) rfl Is162 rfl SlF.o rfl rfl (by omega)) (RG.p (PV.loadE1 rfl Sc4 rfl rfl (El.o (getG (by omega))) rfl) (RG.bl rfl ?_))))))))))
    refine RG.g rfl (fun hp => (PV.move (v := v33) rfl rfl)) ?_
    refine RG.g rfl (fun hp => (PV.mvI (.inl rfl) rfl)) ?_
    refine RG.g rfl (fun hp => (PV.idxS (v := v33) rfl Is162 (gs_t hp) SlF.o (gs_t hp) rfl (by first | omega | (simp at hp; omega)))) ?_
    refine RG.g rfl (fun hp => (PV.loadE1 rfl Sc4 (gs_t hp) rfl (El.o (getG (by first | omega | (simp at hp; omega)))) rfl)) ?_
    refine RG.g rfl (fun hp => (PV.not rfl (gs_t hp))) ?_
    refine RG.p (PV.pickA rfl rfl (fun hq => gs_t (geqT hq)) rfl) (RG.p (PV.idxS (v := q) rfl Is162 rfl SlF.o rfl rfl (by omega)) ?_)
    refine RG.ot rfl (OT.storeE (F := boolT) rfl Sz4 rfl rfl rfl (Cl.c rfl) (OneC.c rfl) (by omega) ?_)
    refine RG.nil (WP.region (RG.ml rfl (RG.p (PV.add rfl rfl rfl (by omega)) (RG.mr rfl (RG.nil ?_)))))
    exact ⟨rfl, j + 1, (D.set j (gd D j && !gd (bits xs) j)), ⟨by omega, hD.step (by omega)⟩, ⟨rfl, trivial⟩, ⟨rfl, rfl, trivial⟩, Cv.p, by omega⟩
   ·have h6 := of_decide_eq_false h6
    obtain rfl : j = 6400 := by omega
    obtain rfl := hD.done hEl hbx
    refine WP.exit ?_
    refine WP.sr (RG.p (PV.move (v := q) rfl rfl) ?_)
    refine RG.callF (vs := [q]) rfl rfl En119 rfl (l03Canon_s Rs.o hDl (fun v87 => ?_))
    refine RG.p (PV.asg (v := v87) rfl rfl) (RG.nil ?_)
    exact WP.ret ⟨_, _, ResV.one rfl rfl, Cv.p, k v87⟩
end Go.Proofs.YtgphjofccckloaaGreat
namespace Go.Proofs.YtgphjofccckloaaGreat
open Go
set_option maxRecDepth 20000
variable {G : Gh} {L : List Ch} {R : Value → Gh → List Ch → Prop}
theorem Seen.skip {S : List Bool} {ver : Bool} {out : List Rect} {i k k' : Int} (h : Seen S ver out i k) (e : ∀ u, k ≤ u → u < k' → cv S ver i u = true → cv S ver i (u - 1) = true) : Seen S ver out i k' := fun l s h1 h2 h3 => by
 by_cases c : l = i ∧ k ≤ s
 ·obtain ⟨rfl, c⟩ := c
  have := e s c (by omega) h2
  rw [h3] at this; cases this
 ·exact h l s (by omega) h2 h3
structure LnI (D : List Bool) (ver : Bool) (l : Int) (out : List Rect) (i : Int) : Prop where
  run : RunL D ver out
  seen : Seen D ver out l (i - 40)
  bd : cv D ver l (i - 40) = true → cv D ver l (i - 40 - 1) = false
theorem LnI.bd' {D : List Bool} {ver : Bool} {l i e : Int} (hi : 0 ≤ i ∧ i < e ∧ e ≤ 80) (hall : ∀ u, i ≤ u → u < e → cv D ver l (u - 40) = cv D ver l (i - 40)) (hend : e = 80 ∨ cv D ver l (e - 40) ≠ cv D ver l (i - 40)) : cv D ver l (e - 40) = true → cv D ver l (e - 40 - 1) = false := fun h => by
 have hr := cv_rng h
 have h1 : cv D ver l (e - 40) ≠ cv D ver l (i - 40) := by
  rcases hend with h2 | h2
  ·omega
  ·exact h2
 have h2 := hall (e - 1) (by omega) (by omega)
 rw [show e - 1 - 40 = e - 40 - 1 by omega] at h2
 rw [h2]; rw [h] at h1
 cases h3 : cv D ver l (i - 40)
 ·rfl
 ·exact absurd h3.symm h1
theorem LnI.miss {D : List Bool} {ver : Bool} {l : Int} {out : List Rect} {i e : Int} (h : LnI D ver l out i) (hi : 0 ≤ i ∧ i < e ∧ e ≤ 80) (hall : ∀ u, i ≤ u → u < e → cv D ver l (u - 40) = cv D ver l (i - 40)) (hend : e = 80 ∨ cv D ver l (e - 40) ≠ cv D ver l (i - 40)) (hc : cv D ver l (i - 40) = false) : LnI D ver l out e :=
by
 refine ⟨h.run, h.seen.skip fun u h1 h2 h3 => ?_, LnI.bd' hi hall hend⟩
 have := hall (u + 40) (by omega) (by omega)
 rw [show u + 40 - 40 = u by omega, h3, hc] at this; cases this
theorem LnI.isRun {D : List Bool} {ver : Bool} {l : Int} {out : List Rect} {i e : Int} (h : LnI D ver l out i) (hl : -40 ≤ l ∧ l < 40) (hi : 0 ≤ i ∧ i < e ∧ e ≤ 80) (hall : ∀ u, i ≤ u → u < e → cv D ver l (u - 40) = cv D ver l (i - 40)) (hend : e = 80 ∨ cv D ver l (e - 40) ≠ cv D ver l (i - 40)) (hc : cv D ver l (i - 40) = true) : isRun D ver l (i - 40) (i - 40) (e - 40) := by
 refine ⟨by omega, by omega, fun u h1 h2 => ?_, h.bd hc, ?_⟩
 ·have := hall (u + 40) (by omega) (by omega)
  rw [show u + 40 - 40 = u by omega, hc] at this; exact this
 ·cases h1 : cv D ver l (e - 40) with
  | false => rfl
  | true =>
   have h2 := LnI.bd' hi hall hend h1
   have h3 := hall (e - 1) (by omega) (by omega)
   rw [show e - 1 - 40 = e - 40 - 1 by omega, h2, hc] at h3; cases h3
theorem LnI.start {D : List Bool} {ver : Bool} {l : Int} {out : List Rect} (hr : RunL D ver out) (hs : Seen D ver out l (-40)) : LnI D ver l out 0 := by
 refine ⟨hr, hs, fun _ => ?_⟩
 cases h2 : cv D ver l (0 - 40 - 1) with
 | false => rfl
 | true => have := cv_rng h2; omega
theorem LnI.hit {D : List Bool} {ver : Bool} {l : Int} {out : List Rect} {i e : Int} (h : LnI D ver l out i) (hl : -40 ≤ l ∧ l < 40) (hi : 0 ≤ i ∧ i < e ∧ e ≤ 80) (hall : ∀ u, i ≤ u → u < e → cv D ver l (u - 40) = cv D ver l (i - 40)) (hend : e = 80 ∨ cv D ver l (e - 40) ≠ cv D ver l (i - 40)) (hc : cv D ver l (i - 40) = true) : LnI D ver l (out ++ [lineR ver l (i - 40) (e - 40)]) e := by
 have hr := h.isRun hl hi hall hend hc
 refine ⟨h.run.add hr, (h.seen.add hr).skip fun u h1 h2 h3 => ?_, LnI.bd' hi hall hend⟩
 have := hall (u - 1 + 40) (by omega) (by omega)
 rw [show u - 1 + 40 - 40 = u - 1 by omega, hc] at this; exact this
theorem one_inj {a b : Bool} : one a = one b ↔ a = b := by cases a <;> cases b <;> simp [one]
theorem one_ne {a : Bool} : one a ≠ 0 ↔ a = true := by cases a <;> simp [one]
theorem lineRect_i {l a b : Int} {ver : Bool} (hl : -1000 ≤ l ∧ l ≤ 1000) (k : R (vrect (lineR ver l a b)) G L) : CallT Tryz.prog 272 #[vi l, vi a, vi b, .bool ver] G L R := by
 refine CallT.enter (args := _) Tryz.func272 rfl rfl (by kernel_rfl) rfl ?_
 refine WP.sr ?_
 refine RG.ot rfl (OT.alloc rfl Zr91 fun b8 => ?_)
 refine RG.nil (WP.seq (WP.sr (RG.bl rfl (RG.nil ?_))))
 refine WP.cond rfl (fun h => ?_) (fun h => ?_)
 ·subst h
  refine WP.sr (RG.ml rfl (RG.ml rfl (RG.ml rfl (RG.p (PV.add rfl rfl rfl (by omega)) (RG.ml rfl (RG.p (PV.build (vs := [(0, [vi _]), (1, [vi _]), (2, [vi _]), (3, [vi _])]) (out := [_, _, _, _]) rfl Zr91 Pl91 ⟨rfl, (Cl.c rfl), ⟨rfl, (Cl.c rfl), ⟨rfl, (Cl.c rfl), ⟨rfl, (Cl.c rfl), trivial⟩⟩⟩⟩ rfl) ?_))))))
  refine RG.ot rfl (OT.storeW (vs := [vi _, vi _, vi _, vi _]) rfl Sz91 rfl rfl (Cl.c rfl) rfl rfl (OneC.c rfl) ?_)
  refine RG.nil ?_
  exact WP.ret ⟨_, _, ResV.one rfl (RV1.cell rfl Ag91 rfl), Cv.p, k⟩
 ·subst h
  refine WP.skip (WP.sr (RG.ml rfl (RG.ml rfl (RG.ml rfl (RG.ml rfl (RG.p (PV.add rfl rfl rfl (by omega)) (RG.p (PV.build (vs := [(0, [vi _]), (1, [vi _]), (2, [vi _]), (3, [vi _])]) (out := [_, _, _, _]) rfl Zr91 Pl91 ⟨rfl, (Cl.c rfl), ⟨rfl, (Cl.c rfl), ⟨rfl, (Cl.c rfl), ⟨rfl, (Cl.c rfl), trivial⟩⟩⟩⟩ rfl) ?_)))))))
  refine RG.ot rfl (OT.storeW (vs := [vi _, vi _, vi _, vi _]) rfl Sz91 rfl rfl (Cl.c rfl) rfl rfl (OneC.c rfl) ?_)
  refine RG.nil ?_
  exact WP.ret ⟨_, _, ResV.one rfl (RV1.cell rfl Ag91 rfl), Cv.p, k⟩
theorem at_i {b bl bv bp : Nat} {D : List Bool} {ver : Bool} {l i : Int} (hD : D.length = 6400) (hi : -1000 ≤ i ∧ i ≤ 1000) (k : R (vi (one (cv D ver l (i - 40)))) G (blk bl 2 [vi l] :: blk bv 4 [.bool ver] :: blk bp 176 [.pointer (some ⟨b, 0, none⟩)] :: grd b D :: L)) :
  CallT Tryz.prog 270 #[vi i, .pointer (some ⟨bl, 0, none⟩), .pointer (some ⟨bv, 0, none⟩), .pointer (some ⟨bp, 0, none⟩)] G (blk bl 2 [vi l] :: blk bv 4 [.bool ver] :: blk bp 176 [.pointer (some ⟨b, 0, none⟩)] :: grd b D :: L) R := by
 refine CallT.enter (args := _) Tryz.func270 rfl rfl (by kernel_rfl) rfl ?_
 refine WP.sr (RG.mr rfl (RG.nil (WP.seq ?_)))
 refine WP.regionQ (by kernel_rfl) (by kernel_rfl) ?_
 refine RQ.pv rfl (PV.mvI (.inl rfl) rfl) (RQ.pv rfl (PV.sub rfl rfl rfl (by omega)) (RQ.pv rfl (PV.load1 rfl Sc2 rfl (Rd.blk rfl)) (RQ.pv rfl (PV.mvI (.inr rfl) rfl) (RQ.pv rfl (PV.mvI (.inr rfl) rfl) ?_))))
 refine RQ.nil ?_
 refine WP.seq (WP.sr (RG.p (PV.load1 rfl Sc4 rfl (Rd.blk rfl)) (RG.nil ?_)))
 refine WP.cond rfl (fun hv => ?_) (fun hv => ?_)
 ·subst hv
  have e : cv D true l (i - 40) = cellB D l (i - 40) := rfl
  rw [e] at k
  refine WP.region (RG.ml rfl (RG.ml rfl (RG.mr rfl (RG.mr rfl (RG.nil (WP.seq (WP.sr (RG.p (PV.load1 rfl Sc176 rfl (Rd.blk rfl)) (RG.ml rfl (RG.ml rfl ?_))))))))))
  refine RG.callF (vs := [_, _, _]) rfl rfl En242 rfl (CallT.exB (has_s hD ?_))
  refine RG.nil ?_
  refine WP.cond rfl (fun h => ?_) (fun h => ?_)
  ·rw [h] at k
   refine WP.sr (RG.mr rfl (RG.nil ?_))
   exact WP.ret ⟨_, _, ResV.one rfl rfl, Cv.p, k⟩
  ·rw [h] at k
   refine WP.skip (WP.sr (RG.mr rfl (RG.nil ?_)))
   exact WP.ret ⟨_, _, ResV.one rfl rfl, Cv.p, k⟩
 ·subst hv
  have e : cv D false l (i - 40) = cellB D (i - 40) l := rfl
  rw [e] at k
  refine WP.skip (WP.seq (WP.sr (RG.p (PV.load1 rfl Sc176 rfl (Rd.blk rfl)) (RG.ml rfl (RG.ml rfl ?_)))))
  refine RG.callF (vs := [_, _, _]) rfl rfl En242 rfl (CallT.exB (has_s hD ?_))
  refine RG.nil ?_
  refine WP.cond rfl (fun h => ?_) (fun h => ?_)
  ·rw [h] at k
   refine WP.sr (RG.mr rfl (RG.nil ?_))
   exact WP.ret ⟨_, _, ResV.one rfl rfl, Cv.p, k⟩
  ·rw [h] at k
   refine WP.skip (WP.sr (RG.mr rfl (RG.nil ?_)))
   exact WP.ret ⟨_, _, ResV.one rfl rfl, Cv.p, k⟩
theorem yield_i {bo bl bv : Nat} {ver : Bool} {l a b n : Int} {q : Value} {out : List Rect} (hl : -1000 ≤ l ∧ l ≤ 1000) (hol : out.length ≤ 100000) (k : ∀ q', R (.tuple #[]) G (blk bl 2 [vi l] :: blk bv 4 [.bool ver] :: blk bo 50 [q'] :: osl 91 rectT q' (out ++ [lineR ver l a b]) :: L)) :
  CallT Tryz.prog 271 #[vi a, vi b, vi n, .pointer (some ⟨bo, 0, none⟩), .pointer (some ⟨bl, 0, none⟩), .pointer (some ⟨bv, 0, none⟩)] G (blk bl 2 [vi l] :: blk bv 4 [.bool ver] :: blk bo 50 [q] :: osl 91 rectT q out :: L) R := by
 refine CallT.enter (args := _) Tryz.func271 rfl rfl (by kernel_rfl) rfl ?_
 refine WP.regionHD [.b bo, .s q] (.q 1 (.q 2 (.q 3 (.q 4 (.b 0 (.l 5 (.l 6 (.l 7 (.l 8 Sch.nil)))) 5 (.b 0 (.l 6 (.l 7 (.l 8 Sch.nil))) 6 (.l 0 (.l 7 (.l 8 Sch.nil))))))))) (by kernel_rfl) (by kernel_rfl) (by kernel_rfl) rfl ?_
 refine RH.w rfl rfl (PV.load1 rfl Sc2 rfl (Rd.blk rfl)) (RH.w rfl rfl (PV.mvI (.inl rfl) rfl) (RH.w rfl rfl (PV.mvI (.inl rfl) rfl) (RH.w rfl rfl (PV.load1 rfl Sc4 rfl (Rd.blk rfl)) ?_)))
 refine RH.ot2 rfl rfl rfl rfl (OT.pv (PV.load1 rfl Sc50 rfl (Rd.blk rfl)) ⟨Gh.le_refl _, PickC.pick, ?_⟩) (OT.callF (vs := [_, _, _, _]) rfl En272 rfl (lineRect_i hl ⟨Gh.le_refl _, PickC.pick, ?_⟩))
 ·skip
  refine RH.ot rfl rfl (OT.callF (vs := [_, _, _, _]) rfl En272 rfl (lineRect_i hl ⟨Gh.le_refl _, PickC.pick, ?_⟩))
  refine RH.ot rfl rfl (OT.bslice (F := rectT) (els := [_]) rfl El50 rfl (by decide) rfl (by decide) ⟨rfl, (Cl.c rfl), trivial⟩ fun v15 => ⟨Gh.le_refl _, PickC.pick, ?_⟩)
  refine RH.ot rfl rfl (OT.append (v := q) (u := v15) (F := rectT) rfl El50 rfl (by decide) rfl rfl Rs.o (OneL.c (fun _ => rfl)) rfl (by first | omega | (simp <;> omega)) fun v16 => ⟨Gh.le_refl _, PickC.pick, ?_⟩)
  refine RH.ot rfl rfl (OT.storeW (v := v16) (vs := [_]) rfl Sz50 rfl rfl (Cl.s (v := v16) SlF.o) rfl rfl (OneC.sl SlF.o OneC.nil) ⟨Gh.le_refl _, PickC.pick, ?_⟩)
  refine RH.nil ?_
  exact ⟨_, _, ResV.zero rfl, Cv.p, k v16⟩
 ·skip
  refine RH.ot2 rfl rfl rfl rfl (OT.pv (PV.load1 rfl Sc50 rfl (Rd.blk rfl)) ⟨Gh.le_refl _, PickC.pick, ?_⟩) (OT.bslice (F := rectT) (els := [_]) rfl El50 rfl (by decide) rfl (by decide) ⟨rfl, (Cl.c rfl), trivial⟩ fun v15 => ⟨Gh.le_refl _, PickC.pick, ?_⟩)
  ·skip
   refine RH.ot rfl rfl (OT.bslice (F := rectT) (els := [_]) rfl El50 rfl (by decide) rfl (by decide) ⟨rfl, (Cl.c rfl), trivial⟩ fun v15 => ⟨Gh.le_refl _, PickC.pick, ?_⟩)
   refine RH.ot rfl rfl (OT.append (v := q) (u := v15) (F := rectT) rfl El50 rfl (by decide) rfl rfl Rs.o (OneL.c (fun _ => rfl)) rfl (by first | omega | (simp <;> omega)) fun v16 => ⟨Gh.le_refl _, PickC.pick, ?_⟩)
   refine RH.ot rfl rfl (OT.storeW (v := v16) (vs := [_]) rfl Sz50 rfl rfl (Cl.s (v := v16) SlF.o) rfl rfl (OneC.sl SlF.o OneC.nil) ⟨Gh.le_refl _, PickC.pick, ?_⟩)
   refine RH.nil ?_
   exact ⟨_, _, ResV.zero rfl, Cv.p, k v16⟩
  ·skip
   refine RH.ot rfl rfl (OT.pv (PV.load1 rfl Sc50 rfl (Rd.blk rfl)) ⟨Gh.le_refl _, PickC.pick, ?_⟩)
   refine RH.ot rfl rfl (OT.append (v := q) (u := v15) (F := rectT) rfl El50 rfl (by decide) rfl rfl Rs.o (OneL.c (fun _ => rfl)) rfl (by first | omega | (simp <;> omega)) fun v16 => ⟨Gh.le_refl _, PickC.pick, ?_⟩)
   refine RH.ot rfl rfl (OT.storeW (v := v16) (vs := [_]) rfl Sz50 rfl rfl (Cl.s (v := v16) SlF.o) rfl rfl (OneC.sl SlF.o OneC.nil) ⟨Gh.le_refl _, PickC.pick, ?_⟩)
   refine RH.nil ?_
   exact ⟨_, _, ResV.zero rfl, Cv.p, k v16⟩
theorem runs_i {b bl bv bp bo : Nat} {D : List Bool} {ver : Bool} {l : Int} {q : Value} {out : List Rect} (hD : D.length = 6400) (hl : -40 ≤ l ∧ l < 40) (hol : out.length ≤ 6400) (hr : RunL D ver out) (hs : Seen D ver out l (-40))
  (k : ∀ q' out', out'.length ≤ out.length + 80 → RunL D ver out' → Seen D ver out' l 40 → R (.tuple #[]) G (blk bl 2 [vi l] :: blk bv 4 [.bool ver] :: blk bp 176 [.pointer (some ⟨b, 0, none⟩)] :: blk bo 50 [q'] :: osl 91 rectT q' out' :: grd b D :: L)) :
  CallT Tryz.prog 269 #[.func (.func 270) #[] #[.pointer (some ⟨bl, 0, none⟩), .pointer (some ⟨bv, 0, none⟩), .pointer (some ⟨bp, 0, none⟩)], .func (.func 271) #[] #[.pointer (some ⟨bo, 0, none⟩), .pointer (some ⟨bl, 0, none⟩), .pointer (some ⟨bv, 0, none⟩)]] G (blk bl 2 [vi l] :: blk bv 4 [.bool ver] :: blk bp 176 [.pointer (some ⟨b, 0, none⟩)] :: blk bo 50 [q] :: osl 91 rectT q out :: grd b D :: L) R := by
 refine CallT.enter (args := _) Tryz.func269 rfl rfl (by kernel_rfl) rfl ?_
 refine WP.sr (RG.mr rfl (RG.nil (WP.block ?_)))
 refine WP.loop3 [0, 1] (fun (i : Int) (out1 : List Rect) (q1 : Value) => (0 ≤ i ∧ i ≤ 80) ∧ (out1.length : Int) ≤ out.length + i ∧ LnI D ver l out1 i) (fun (i : Int) (out1 : List Rect) (q1 : Value) => [(4, vi i)]) (fun (i : Int) (out1 : List Rect) (q1 : Value) => blk bl 2 [vi l] :: blk bv 4 [.bool ver] :: blk bp 176 [.pointer (some ⟨b, 0, none⟩)] :: blk bo 50 [q1] :: osl 91 rectT q1 out1 :: grd b D :: L) (fun (i : Int) (out1 : List Rect) (q1 : Value) => (80 - i).toNat) 0 out q ⟨by omega, by omega, LnI.start hr hs⟩ ⟨rfl, trivial⟩ Cv.p ?_
 rintro i out1 q1 τ ⟨hi, hlen, hI⟩
 refine WP.seq (WP.sr (RG.ml rfl (RG.p (PV.lss rfl rfl rfl) (RG.nil ?_))))
 refine WP.cond rfl (fun h2 => ?_) (fun h2 => ?_)
 ·have h2 := of_decide_eq_true h2
  refine WP.skip (WP.block (WP.sr (RG.ml rfl (RG.p (PV.add rfl rfl rfl (by omega)) (RG.mr rfl (RG.nil (WP.seq (WP.block ?_))))))))
  refine WP.loop1 [0, 1, 4] (fun (e : Int) => (i + 1 ≤ e ∧ e ≤ 80) ∧ ∀ u, i ≤ u → u < e → cv D ver l (u - 40) = cv D ver l (i - 40)) (fun (e : Int) => [(5, vi e)]) (fun (e : Int) => blk bl 2 [vi l] :: blk bv 4 [.bool ver] :: blk bp 176 [.pointer (some ⟨b, 0, none⟩)] :: blk bo 50 [q1] :: osl 91 rectT q1 out1 :: grd b D :: L) (fun (e : Int) => (80 - e).toNat) (i + 1) ⟨by omega, fun u h3 h4 => by rw [show u = i by omega]⟩ ⟨rfl, trivial⟩ Cv.p ?_
  rintro e τ1 ⟨he, hall⟩
  refine WP.seq (WP.sr (RG.ml rfl (RG.p (PV.lss rfl rfl rfl) (RG.bl rfl ?_))))
  refine RG.spl (t := 12) rfl (fun g1 => ?_) (fun g1 => ?_)
  ·have g2 := of_decide_eq_true g1
   refine RG.take rfl rfl rfl g1 ?_
   refine RG.p (PV.move rfl rfl) ?_
   refine RG.take rfl rfl rfl g1 ?_
   refine RG.ml rfl ?_
   refine RG.take rfl rfl rfl g1 ?_
   refine RG.callK (vs := [_, _, _, _]) rfl rfl rfl En270 rfl (CallT.exB (b := b) (CallT.exB (b := bp) (CallT.exB (b := bv) (CallT.exB (b := bl) (at_i hD (by omega) ?_)))))
   refine RG.take rfl rfl rfl g1 ?_
   refine RG.p (PV.move rfl rfl) ?_
   refine RG.take rfl rfl rfl g1 ?_
   refine RG.ml rfl ?_
   refine RG.take rfl rfl rfl g1 ?_
   refine RG.callK (vs := [_, _, _, _]) rfl rfl rfl En270 rfl (CallT.exB (b := b) (CallT.exB (b := bp) (CallT.exB (b := bv) (CallT.exB (b := bl) (at_i hD (by omega) ?_)))))
   refine RG.take rfl rfl rfl g1 ?_
   refine RG.p (PV.eql rfl rfl rfl) (RG.p (PV.pickT rfl rfl g1 rfl) (RG.nil ?_))
   refine WP.cond rfl (fun h3 => ?_) (fun h3 => ?_)
   ·have h3 := one_inj.1 (of_decide_eq_true h3)
    have hall' : ∀ u, i ≤ u → u < e + 1 → cv D ver l (u - 40) = cv D ver l (i - 40) := fun u h4 h5 => by
     by_cases c : u = e
     ·rw [c]; exact h3
     ·exact hall u h4 (by omega)
    refine WP.skip (WP.block (WP.region (RG.ml rfl (RG.p (PV.add rfl rfl rfl (by omega)) (RG.mr rfl (RG.nil ?_))))))
    exact ⟨rfl, e + 1, ⟨by omega, hall'⟩, ⟨rfl, trivial⟩, ⟨rfl, rfl, rfl, trivial⟩, Cv.p, by omega⟩
   ·have h3 : cv D ver l (e - 40) ≠ cv D ver l (i - 40) := fun h4 => of_decide_eq_false h3 (one_inj.2 h4)
    refine WP.exit ?_
    refine WP.seq (WP.sr (RG.p (PV.move rfl rfl) (RG.ml rfl ?_)))
    refine RG.callK (vs := [_, _, _, _]) rfl rfl rfl En270 rfl (CallT.exB (b := b) (CallT.exB (b := bp) (CallT.exB (b := bv) (CallT.exB (b := bl) (at_i hD (by omega) ?_)))))
    refine RG.p (PV.neq rfl rfl rfl) (RG.nil ?_)
    refine WP.cond rfl (fun h4 => ?_) (fun h4 => ?_)
    ·have h4 : cv D ver l (i - 40) = true := one_ne.1 (by simpa using h4)
     refine WP.region (RG.p (PV.move rfl rfl) (RG.ml rfl (RG.p (PV.sub rfl rfl rfl (by omega)) (RG.ml rfl (RG.p (PV.sub rfl rfl rfl (by omega)) (RG.p (PV.move rfl rfl) (RG.ml rfl ?_)))))))
     refine RG.callK (vs := [_, _, _, _]) rfl rfl rfl En270 rfl (CallT.exB (b := b) (CallT.exB (b := bp) (CallT.exB (b := bv) (CallT.exB (b := bl) (at_i hD (by omega) ?_)))))
     refine RG.callK (vs := [_, _, _, _, _, _]) rfl rfl rfl En271 rfl (CallT.exS q1 (CallT.exB (b := bo) (CallT.exB (b := bv) (CallT.exB (b := bl) (yield_i (by omega) (by omega) (fun q2 => ?_))))))
     refine RG.nil (WP.region (RG.ml rfl (RG.mr rfl (RG.nil ?_))))
     exact ⟨rfl, e, (out1 ++ [lineR ver l (i - 40) (e - 40)]), q2, ⟨by omega, by simp; omega, hI.hit hl (by omega) hall (.inr h3) h4⟩, ⟨rfl, trivial⟩, ⟨rfl, rfl, trivial⟩, Cv.p, by omega⟩
    ·have h4 : cv D ver l (i - 40) = false := by
      cases c : cv D ver l (i - 40) with
      | false => rfl
      | true => rw [c] at h4; simp [one] at h4
     refine WP.skip (WP.region (RG.ml rfl (RG.mr rfl (RG.nil ?_))))
     exact ⟨rfl, e, out1, q1, ⟨by omega, by omega, hI.miss (by omega) hall (.inr h3) h4⟩, ⟨rfl, trivial⟩, ⟨rfl, rfl, trivial⟩, Cv.p, by omega⟩
  ·have g2 := of_decide_eq_false g1
   have h3 : e = 80 := by omega
   refine RG.skip rfl rfl rfl (gne g1) ?_
   refine RG.skip rfl rfl rfl (gne g1) ?_
   refine RG.skip rfl rfl rfl (gne g1) ?_
   refine RG.skip rfl rfl rfl (gne g1) ?_
   refine RG.skip rfl rfl rfl (gne g1) ?_
   refine RG.skip rfl rfl rfl (gne g1) ?_
   refine RG.skip rfl rfl rfl (gne g1) ?_
   refine RG.p (PV.pickE rfl rfl g1 rfl) (RG.nil ?_)
   refine WP.cond rfl (fun h5 => ?_) (fun h5 => ?_)
   ·cases h5
   ·refine WP.exit ?_
    refine WP.seq (WP.sr (RG.p (PV.move rfl rfl) (RG.ml rfl ?_)))
    refine RG.callK (vs := [_, _, _, _]) rfl rfl rfl En270 rfl (CallT.exB (b := b) (CallT.exB (b := bp) (CallT.exB (b := bv) (CallT.exB (b := bl) (at_i hD (by omega) ?_)))))
    refine RG.p (PV.neq rfl rfl rfl) (RG.nil ?_)
    refine WP.cond rfl (fun h4 => ?_) (fun h4 => ?_)
    ·have h4 : cv D ver l (i - 40) = true := one_ne.1 (by simpa using h4)
     refine WP.region (RG.p (PV.move rfl rfl) (RG.ml rfl (RG.p (PV.sub rfl rfl rfl (by omega)) (RG.ml rfl (RG.p (PV.sub rfl rfl rfl (by omega)) (RG.p (PV.move rfl rfl) (RG.ml rfl ?_)))))))
     refine RG.callK (vs := [_, _, _, _]) rfl rfl rfl En270 rfl (CallT.exB (b := b) (CallT.exB (b := bp) (CallT.exB (b := bv) (CallT.exB (b := bl) (at_i hD (by omega) ?_)))))
     refine RG.callK (vs := [_, _, _, _, _, _]) rfl rfl rfl En271 rfl (CallT.exS q1 (CallT.exB (b := bo) (CallT.exB (b := bv) (CallT.exB (b := bl) (yield_i (by omega) (by omega) (fun q2 => ?_))))))
     refine RG.nil (WP.region (RG.ml rfl (RG.mr rfl (RG.nil ?_))))
     exact ⟨rfl, e, (out1 ++ [lineR ver l (i - 40) (e - 40)]), q2, ⟨by omega, by simp; omega, hI.hit hl (by omega) hall (.inl h3) h4⟩, ⟨rfl, trivial⟩, ⟨rfl, rfl, trivial⟩, Cv.p, by omega⟩
    ·have h4 : cv D ver l (i - 40) = false := by
      cases c : cv D ver l (i - 40) with
      | false => rfl
      | true => rw [c] at h4; simp [one] at h4
     refine WP.skip (WP.region (RG.ml rfl (RG.mr rfl (RG.nil ?_))))
     exact ⟨rfl, e, out1, q1, ⟨by omega, by omega, hI.miss (by omega) hall (.inl h3) h4⟩, ⟨rfl, trivial⟩, ⟨rfl, rfl, trivial⟩, Cv.p, by omega⟩
 ·have h2 := of_decide_eq_false h2
  obtain rfl : i = 80 := by omega
  refine WP.exit ?_
  exact ⟨_, _, ResV.zero rfl, Cv.p, k q1 out1 (by omega) hI.run hI.seen⟩
theorem runsOf_i {b : Nat} {D : List Bool} {ver : Bool} (hD : D.length = 6400) (k : ∀ v out, RunsOf D ver out → R v G (osl 91 rectT v out :: grd b D :: L)) :
  CallT Tryz.prog 240 #[.pointer (some ⟨b, 0, none⟩), .bool ver] G (grd b D :: L) R := by
 refine CallT.enter (args := _) Tryz.func240 rfl rfl (by kernel_rfl) rfl ?_
 refine WP.sr ?_
 refine RG.ot rfl (OT.box (cs := [.pointer (some ⟨b, 0, none⟩)]) rfl rfl rfl fun b2 => ?_)
 refine RG.ot rfl (OT.box (cs := [.bool ver]) rfl rfl rfl fun b3 => ?_)
 refine RG.p (PV.asg rfl rfl) (RG.nil (WP.sr ?_))
 refine RG.ot rfl (OT.bslice (F := rectT) (els := []) rfl El50 rfl (by decide) rfl (by decide) trivial fun v7 => ?_)
 refine RG.ot rfl (OT.alloc rfl Zr50 fun b5 => ?_)
 refine RG.ot rfl (OT.storeW (v := v7) (vs := [_]) rfl Sz50 rfl rfl (Cl.s (v := v7) SlF.o) rfl rfl (OneC.sl SlF.o OneC.nil) ?_)
 refine RG.nil (WP.seq (WP.sr ?_))
 refine RG.ot rfl (OT.alloc rfl Zr2 fun b6 => ?_)
 refine RG.ot rfl (OT.storeW (vs := [vi _]) rfl Sz2 rfl rfl (Cl.c rfl) rfl rfl (OneC.c rfl) ?_)
 refine RG.nil (WP.block ?_)
 refine WP.loop4 [2, 3, 5] (fun (bl : Nat) (l : Int) (out : List Rect) (q : Value) => (-40 ≤ l ∧ l ≤ 40) ∧ (out.length : Int) ≤ (l + 40) * 80 ∧ RunL D ver out ∧ Seen D ver out l (-40)) (fun (bl : Nat) (l : Int) (out : List Rect) (q : Value) => [(6, .pointer (some ⟨bl, 0, none⟩))]) (fun (bl : Nat) (l : Int) (out : List Rect) (q : Value) => blk bl 2 [vi l] :: blk b3 4 [.bool ver] :: blk b2 176 [.pointer (some ⟨b, 0, none⟩)] :: blk b5 50 [q] :: osl 91 rectT q out :: grd b D :: L) (fun (bl : Nat) (l : Int) (out : List Rect) (q : Value) => (40 - l).toNat) b6 (-40) [] v7 ⟨by omega, by simp, RunL.nil, Seen.init⟩ ⟨rfl, trivial⟩ Cv.p ?_
 rintro bl l out q τ ⟨hl, hlen, hrl, hseen⟩
 refine WP.seq (WP.sr (RG.p (PV.load1 rfl Sc2 rfl (Rd.blk rfl)) (RG.p (PV.lss rfl rfl rfl) (RG.nil ?_))))
 refine WP.cond rfl (fun h2 => ?_) (fun h2 => ?_)
 ·have h2 := of_decide_eq_true h2
  refine WP.skip (WP.seq (WP.block (WP.region (RG.p (PV.mkf3 rfl rfl rfl rfl) (RG.p (PV.mkf3 rfl rfl rfl rfl) ?_)))))
  refine RG.callF (vs := [_, _]) rfl rfl En269 rfl (CallT.exB (b := b) (CallT.exS q (CallT.exB (b := b5) (CallT.exB (b := b2) (CallT.exB (b := b3) (CallT.exB (b := bl) (runs_i hD (by omega) (by omega) hrl hseen (fun q2 out2 hlen2 hrl2 hseen2 => ?_))))))))
  refine RG.nil (WP.seq (WP.sr (RG.p (PV.load1 rfl Sc2 rfl (Rd.blk rfl)) (RG.nil (WP.region ?_)))))
  refine RG.ot rfl (OT.alloc rfl Zr2 fun b6 => ?_)
  refine RG.ot rfl (OT.storeW (vs := [vi _]) rfl Sz2 rfl rfl (Cl.c rfl) rfl rfl (OneC.c rfl) ?_)
  refine RG.nil (WP.region (RG.p (PV.load1 rfl Sc2 rfl (Rd.blk rfl)) (RG.p (PV.add rfl rfl rfl (by omega)) ?_)))
  refine RG.ot rfl (OT.storeW (vs := [vi _]) rfl Sz2 rfl rfl (Cl.c rfl) rfl rfl (OneC.c rfl) ?_)
  refine RG.nil ?_
  exact ⟨rfl, b6, l + 1, out2, q2, ⟨by omega, by omega, hrl2, hseen2.line⟩, ⟨rfl, trivial⟩, ⟨rfl, rfl, rfl, trivial⟩, Cv.p, by omega⟩
 ·have h2 := of_decide_eq_false h2
  obtain rfl : l = 40 := by omega
  refine WP.exit ?_
  refine WP.sr (RG.p (PV.load1 rfl Sc50 rfl (Rd.blk rfl)) (RG.p (PV.asg (v := q) rfl rfl) (RG.nil ?_)))
  exact WP.ret ⟨_, _, ResV.one rfl rfl, Cv.p, k q out ⟨by omega, hrl, hseen.all⟩⟩
end Go.Proofs.YtgphjofccckloaaGreat
namespace Go.Proofs.YtgphjofccckloaaGreat
open Go
set_option maxRecDepth 20000
variable {G : Gh} {L : List Ch} {R : Value → Gh → List Ch → Prop}
theorem gd_not {D : List Bool} {j : Nat} (h : j < D.length) : gd (notB D) j = !gd D j := by rw [gd_eq (by rw [notB_len]; exact h), gd_eq h]; simp [notB]
theorem not_i {b : Nat} {D : List Bool} (hD : D.length = 6400) (k : ∀ b', R (.pointer (some ⟨b', 0, none⟩)) G (grd b' (notB D) :: grd b D :: L)) :
  CallT Tryz.prog 273 #[.pointer (some ⟨b, 0, none⟩)] G (grd b D :: L) R := by
 refine CallT.enter (args := _) Tryz.func273 rfl rfl (by kernel_rfl) rfl ?_
 refine WP.sr (RG.p (PV.asg rfl rfl) (RG.nil (WP.sr (RG.p (PV.build0 rfl Tryz.underlying179 ⟨80, by kernel_rfl⟩ (zeroB_spec (n := 6400) (by kernel_rfl))) ?_))))
 refine RG.ot rfl (OT.boxG rfl rfl fun b7 => ?_)
 refine RG.p (PV.mvP (.inr rfl) rfl) (RG.nil (WP.seq (WP.sr (RG.ml rfl (RG.nil (WP.block ?_))))))
 refine WP.loop2 [0, 3] (fun (i : Nat) (cs : List Bool) => i ≤ 80 ∧ cs.length = 6400 ∧ ∀ j, j < i * 80 → gd cs j = !gd D j) (fun (i : Nat) (cs : List Bool) => [(8, vi i)]) (fun (i : Nat) (cs : List Bool) => grd b7 cs :: grd b D :: L) (fun (i : Nat) (cs : List Bool) => 80 - i) 0 (List.replicate 6400 false) ⟨by omega, by simp, fun j h => by omega⟩ ⟨rfl, trivial⟩ Cv.p ?_
 rintro i cs τ ⟨hi, hlc, hc⟩
 refine WP.sr (RG.p (PV.lss rfl rfl rfl) (RG.nil (WP.seq ?_)))
 refine WP.cond rfl (fun h4 => ?_) (fun h4 => ?_)
 ·have h4 := of_decide_eq_true h4
  refine WP.skip (WP.seq (WP.block (WP.sr (RG.ml rfl (RG.mr rfl (RG.nil (WP.sr (RG.ml rfl (RG.nil (WP.block ?_))))))))))
  refine WP.loop2 [0, 3, 4, 8] (fun (m : Nat) (ds : List Bool) => m ≤ 80 ∧ ds.length = 6400 ∧ ∀ j, j < i * 80 + m → gd ds j = !gd D j) (fun (m : Nat) (ds : List Bool) => [(11, vi m)]) (fun (m : Nat) (ds : List Bool) => grd b7 ds :: grd b D :: L) (fun (m : Nat) (ds : List Bool) => 80 - m) 0 cs ⟨by omega, hlc, fun j h => hc j (by omega)⟩ ⟨rfl, trivial⟩ Cv.p ?_
  rintro m ds τ1 ⟨hm, hld, hd⟩
  refine WP.sr (RG.p (PV.lss rfl rfl rfl) (RG.nil (WP.seq ?_)))
  refine WP.cond rfl (fun h5 => ?_) (fun h5 => ?_)
  ·have h5 := of_decide_eq_true h5
   refine WP.skip (WP.seq (WP.block (WP.sr (RG.ml rfl (RG.mr rfl (RG.nil ?_))))))
   refine WP.regionHD [.b b7] (.q 0 (.q 1 (.q 2 (.q 3 (.q 4 (.q 5 (.q 6 (.q 7 (.q 8 (.q 9 (.q 10 (.q 11 (.q 12 (.q 13 (.l 14 Sch.nil))))))))))))))) (by kernel_rfl) (by kernel_rfl) (by kernel_rfl) rfl ?_
   refine RH.w rfl rfl (PV.mvP (.inl rfl) rfl) (RH.w rfl rfl (PV.mvI (.inl rfl) rfl) (RH.w rfl rfl (PV.mvI (.inl rfl) rfl) (RH.w rfl rfl (PV.mvP (.inl rfl) rfl) (RH.w rfl rfl (PV.mvI (.inl rfl) rfl) (RH.w rfl rfl (PV.mvI (.inl rfl) rfl) (RH.w rfl rfl (PV.nilc rfl rfl) (RH.w rfl rfl (PV.idxA rfl Ia179 rfl rfl rfl (by omega)) (RH.w rfl rfl (PV.idxA rfl Ia177 rfl rfl rfl (by omega)) (RH.w rfl rfl (PV.loadGr rfl Sc4 rfl rfl (by omega)) (RH.w rfl rfl (PV.not rfl rfl) (RH.w rfl rfl (PV.nilc rfl rfl) (RH.w rfl rfl (PV.idxA rfl Ia179 rfl rfl rfl (by omega)) (RH.w rfl rfl (PV.idxA rfl Ia177 rfl rfl rfl (by omega)) ?_)))))))))))))
   refine RH.ot rfl rfl (OT.storeGr rfl Sz4 rfl rfl rfl (by first | omega | (simp; omega)) ⟨Gh.le_refl _, PickC.pick, ?_⟩)
   refine RH.nil ?_
   refine WP.region (RG.p (PV.add rfl rfl rfl (by omega)) (RG.ml rfl (RG.nil ?_)))
   refine ⟨rfl, m + 1, (ds.set (0 + i * 80 + m * 1) (!gd D (0 + i * 80 + m * 1))), ⟨by omega, by simpa using hld, fun j hj => ?_⟩, ⟨rfl, trivial⟩, ⟨rfl, rfl, rfl, rfl, trivial⟩, Cv.p, by omega⟩
   rw [show 0 + i * 80 + m * 1 = i * 80 + m by omega]
   by_cases c : j = i * 80 + m
   ·subst c; rw [gd_setE (by omega)]
   ·rw [gd_setM (fun e => c e.symm)]; exact hd j (by omega)
  ·have h5 := of_decide_eq_false h5
   refine WP.exit ?_
   refine WP.region (RG.p (PV.add rfl rfl rfl (by omega)) (RG.ml rfl (RG.nil ?_)))
   exact ⟨rfl, i + 1, ds, ⟨by omega, hld, fun j hj => hd j (by omega)⟩, ⟨rfl, trivial⟩, ⟨rfl, rfl, trivial⟩, Cv.p, by omega⟩
 ·have h4 := of_decide_eq_false h4
  have hz : cs = notB D := by
   apply List.ext_getElem?
   intro j
   by_cases hj : j < 6400
   ·rw [getG (by omega), hc j (by omega), ← gd_not (by omega), getG (by rw [notB_len]; omega)]
   ·rw [List.getElem?_eq_none (by omega), List.getElem?_eq_none (by rw [notB_len]; omega)]
  subst hz
  refine WP.exit ?_
  refine WP.sr (RG.p (PV.mvP (.inl rfl) rfl) (RG.p (PV.mvP (.inr rfl) rfl) (RG.nil ?_)))
  exact WP.ret ⟨_, _, ResV.one rfl rfl, Cv.p, k b7⟩
def inner (ver : Bool) (r : Rect) : Bool := (ver && decide (-40 < r.y0)) && decide (r.y1 < 40) || (!ver && decide (-40 < r.x0)) && decide (r.x1 < 40)
theorem inner_line {ver : Bool} {l lo hi : Int} : inner ver (lineR ver l lo hi) = true ↔ -40 < lo ∧ hi < 40 := by
 have e : inner ver (lineR ver l lo hi) = (decide (-40 < lo) && decide (hi < 40)) := by
  cases ver
  ·rfl
  ·show ((decide (-40 < lo) && decide (hi < 40)) || false) = _
   rw [Bool.or_false]
 rw [e, Bool.and_eq_true, decide_eq_true_eq, decide_eq_true_eq]
structure GapsOf (D : List Bool) (ver : Bool) (out : List Rect) : Prop where
  len : out.length ≤ 6400
  run : ∀ r ∈ out, ∃ l k lo hi, isRun (notB D) ver l k lo hi ∧ (-40 < lo ∧ hi < 40) ∧ r = lineR ver l lo hi
  all : ∀ l k lo hi, isRun (notB D) ver l k lo hi → -40 < lo → hi < 40 → lineR ver l lo hi ∈ out
theorem GapsOf.of {D : List Bool} {ver : Bool} {a : List Rect} (h : RunsOf (notB D) ver a) : GapsOf D ver (a.filter (inner ver)) := ⟨by
 have := h.len; have := List.length_filter_le (inner ver) a; omega, fun r hr => by
 obtain ⟨h1, h2⟩ := List.mem_filter.1 hr
 obtain ⟨l, k, lo, hi, g1, rfl⟩ := h.run r h1
 exact ⟨l, k, lo, hi, g1, inner_line.1 h2, rfl⟩, fun l k lo hi h1 h2 h3 => by
 obtain ⟨lo', hi', g1, g2⟩ := h.all l k (h1.all k h1.lk.1 h1.lk.2)
 obtain ⟨rfl, rfl⟩ := h1.uniq g1
 exact List.mem_filter.2 ⟨g2, inner_line.2 ⟨h2, h3⟩⟩⟩
theorem gapsOf_i {b : Nat} {D : List Bool} {ver : Bool} (hD : D.length = 6400) (k : ∀ v out, GapsOf D ver out → R v G (osl 91 rectT v out :: grd b D :: L)) :
  CallT Tryz.prog 241 #[.pointer (some ⟨b, 0, none⟩), .bool ver] G (grd b D :: L) R := by
 refine CallT.enter (args := _) Tryz.func241 rfl rfl (by kernel_rfl) rfl ?_
 refine WP.sr (RG.p (PV.asg rfl rfl) (RG.nil (WP.sr ?_)))
 refine RG.ot rfl (OT.bslice (F := rectT) (els := []) rfl El50 rfl (by decide) rfl (by decide) trivial fun v8 => ?_)
 refine RG.p (PV.asg (v := v8) rfl rfl) (RG.nil (WP.seq (WP.sr (RG.p (PV.move rfl rfl) ?_))))
 refine RG.callF (vs := [_]) rfl rfl En273 rfl (CallT.exB (not_i hD (fun b10 => ?_)))
 refine RG.bl rfl ?_
 refine RG.callF (vs := [_, _]) rfl rfl En240 rfl (CallT.exB (b := b10) (runsOf_i (by rw [notB_len]; exact hD) (fun v12 outv12 houtv12 => have hlnv12 := houtv12.len; ?_)))
 refine RG.p (PV.len (v := v12) rfl Tryz.underlying50 rfl SlF.o) (RG.ml rfl (RG.nil (WP.block ?_)))
 refine WP.loop3 [1, 12, 13] (fun (i : Nat) (out : List Rect) (q : Value) => i ≤ outv12.length ∧ out = (outv12.take i).filter (inner ver)) (fun (i : Nat) (out : List Rect) (q : Value) => [(14, vi i), (5, q)]) (fun (i : Nat) (out : List Rect) (q : Value) => osl 91 rectT q out :: osl 91 rectT v12 outv12 :: grd b D :: L) (fun (i : Nat) (out : List Rect) (q : Value) => outv12.length - i) 0 [] v8 ⟨by omega, rfl⟩ ⟨rfl, rfl, trivial⟩ Cv.p ?_
 rintro i out q τ ⟨hi, hout⟩
 refine WP.sr (RG.p (PV.lss rfl rfl rfl) (RG.nil (WP.seq ?_)))
 have hol : out.length ≤ 6400 := by have := List.length_filter_le (inner ver) (outv12.take i); rw [← hout, List.length_take] at this; omega
 refine WP.cond rfl (fun h4 => ?_) (fun h4 => ?_)
 ·have h4 := of_decide_eq_true h4
  have h40 : i < outv12.length := by omega
  have hf := filt_succ (inner ver) h40
  refine WP.skip (WP.seq (WP.block (WP.sr (RG.p (PV.idxS (v := v12) rfl Is50 rfl SlF.o rfl rfl (by omega)) (RG.p (PV.loadE rfl Ag91 rfl rfl (El.o (getG (by omega)))) ?_)))))
  refine RG.ot rfl (OT.alloc rfl Zr91 fun b7 => ?_)
  refine RG.ot rfl (OT.storeW (vs := [vi _, vi _, vi _, vi _]) rfl Sz91 rfl rfl (Cl.c rfl) rfl rfl (OneC.c rfl) ?_)
  refine RG.nil (WP.sr (RG.bl rfl (RG.bl rfl ?_)))
  refine RG.g rfl (fun hp => (PV.field rfl Fo91_1 rfl)) ?_
  refine RG.g rfl (fun hp => (PV.load1 rfl Sc2 (gs_t hp) (Rd.blk rfl))) ?_
  refine RG.g rfl (fun hp => (PV.gtr rfl (gs_t hp) rfl)) ?_
  refine RG.p (PV.pickA rfl rfl (fun hq => gs_t (geqT hq)) rfl) (RG.bl rfl ?_)
  refine RG.g rfl (fun hp => (PV.field rfl Fo91_3 rfl)) ?_
  refine RG.g rfl (fun hp => (PV.load1 rfl Sc2 (gs_t hp) (Rd.blk rfl))) ?_
  refine RG.g rfl (fun hp => (PV.lss rfl (gs_t hp) rfl)) ?_
  refine RG.p (PV.pickA rfl rfl (fun hq => gs_t (geqT hq)) rfl) (RG.bl rfl ?_)
  refine RG.g rfl (fun hp => (PV.mvB (.inl rfl) rfl)) ?_
  refine RG.g rfl (fun hp => (PV.not rfl (gs_t hp))) ?_
  refine RG.g rfl (fun hp => (PV.mvB (.inl rfl) (gs_t hp))) ?_
  refine RG.gs2 rfl rfl rfl (fun hp => (PV.field rfl Fo91_0 rfl)) (RG.gs2 rfl rfl rfl (fun hp => (PV.load1 rfl Sc2 (gs_t hp) (Rd.blk rfl))) (RG.gs2 rfl rfl rfl (fun hp => (PV.gtr rfl (gs_t hp) rfl)) ?_))
  refine RG.g rfl (fun hp => (PV.pickA rfl (gs_t hp) (fun hq => gs_t (gandT hp hq)) rfl)) ?_
  refine RG.g rfl (fun hp => (PV.mvB (.inl rfl) (gs_t hp))) ?_
  refine RG.gs2 rfl rfl rfl (fun hp => (PV.field rfl Fo91_2 rfl)) (RG.gs2 rfl rfl rfl (fun hp => (PV.load1 rfl Sc2 (gs_t hp) (Rd.blk rfl))) (RG.gs2 rfl rfl rfl (fun hp => (PV.lss rfl (gs_t hp) rfl)) ?_))
  refine RG.g rfl (fun hp => (PV.pickA rfl (gs_t hp) (fun hq => gs_t (gandT hp hq)) rfl)) ?_
  refine RG.p (PV.pickO rfl rfl rfl (fun hq => gs_t (geqF hq))) (RG.nil ?_)
  refine WP.cond rfl (fun h5 => ?_) (fun h5 => ?_)
  ·have h6 : inner ver (gd outv12 i) = true := h5
   rw [if_pos h6, ← hout] at hf
   refine WP.region (RG.p (PV.move (v := q) rfl rfl) (RG.p (PV.loadW rfl Ag91 rfl rfl) ?_))
   refine RG.ot rfl (OT.bslice (F := rectT) (els := [_]) rfl El50 rfl (by decide) rfl (by decide) ⟨rfl, (Cl.c rfl), trivial⟩ fun v45 => ?_)
   refine RG.ot rfl (OT.append (v := q) (u := v45) (F := rectT) rfl El50 rfl (by decide) rfl rfl Rs.o (OneL.c (fun _ => rfl)) rfl (by first | omega | (simp <;> omega)) fun v46 => ?_)
   refine RG.p (PV.asg (v := v46) rfl rfl) (RG.nil (WP.region (RG.p (PV.add rfl rfl rfl (by omega)) (RG.ml rfl (RG.nil ?_)))))
   exact ⟨rfl, i + 1, _, v46, ⟨by omega, hf.symm⟩, ⟨rfl, rfl, trivial⟩, ⟨rfl, rfl, rfl, trivial⟩, Cv.p, by omega⟩
  ·have h6 : ¬ inner ver (gd outv12 i) = true := by rw [show inner ver (gd outv12 i) = false from h5]; decide
   rw [if_neg h6, ← hout, List.append_nil] at hf
   refine WP.skip (WP.region (RG.p (PV.add rfl rfl rfl (by omega)) (RG.ml rfl (RG.nil ?_))))
   exact ⟨rfl, i + 1, _, q, ⟨by omega, hf.symm⟩, ⟨rfl, rfl, trivial⟩, ⟨rfl, rfl, rfl, trivial⟩, Cv.p, by omega⟩
 ·have h4 := of_decide_eq_false h4
  rw [List.take_of_length_le (by omega)] at hout
  rw [hout]
  refine WP.exit ?_
  refine WP.sr (RG.p (PV.move (v := q) rfl rfl) (RG.p (PV.asg (v := q) rfl rfl) (RG.nil ?_)))
  exact WP.ret ⟨_, _, ResV.one rfl rfl, Cv.p, k q _ (GapsOf.of houtv12)⟩
theorem allRuns_i {v : Value} {xs : List Rect} (h1 : Rs G L rectT v xs) (k : ∀ v' out, RunsA (bits xs) out → R v' G (osl 91 rectT v' out :: L)) : CallT Tryz.prog 182 #[v] G L R := by
 refine CallT.enter (args := _) Tryz.func182 rfl rfl (by kernel_rfl) rfl ?_
 refine WP.sr (RG.p (PV.asg rfl rfl) (RG.nil (WP.sr (RG.p (PV.move (v := v) rfl rfl) ?_))))
 refine RG.callF (vs := [v]) rfl rfl En210 rfl (cellsOf_s (Rs.up h1) (fun b5 => ?_))
 refine RG.p (PV.asg rfl rfl) (RG.nil (WP.sr (RG.p (PV.move rfl rfl) ?_)))
 refine RG.callF (vs := [_, _]) rfl rfl En240 rfl (CallT.exB (b := b5) (runsOf_i (bits_length _) (fun v7 outv7 houtv7 => have hlnv7 := houtv7.len; ?_)))
 refine RG.p (PV.move rfl rfl) ?_
 refine RG.callF (vs := [_, _]) rfl rfl En240 rfl (CallT.exB (b := b5) (runsOf_i (bits_length _) (fun v9 outv9 houtv9 => have hlnv9 := houtv9.len; ?_)))
 refine RG.ot rfl (OT.append (v := v7) (u := v9) (F := rectT) rfl El50 rfl (by decide) rfl rfl Rs.o (OneL.c (fun _ => rfl)) rfl (by first | omega | (simp <;> omega)) fun v10 => ?_)
 refine RG.p (PV.asg (v := v10) rfl rfl) (RG.nil ?_)
 exact WP.ret ⟨_, _, ResV.one rfl rfl, Cv.p, k v10 _ (RunsA.of houtv7 houtv9)⟩
theorem orZ_self {A : List Bool} : orZ A A = A := by
 apply List.ext_getElem
 ·rw [orZ_len]
 ·intro j h1 h2
  simp only [orZ, List.getElem_map, List.getElem_range, Bool.or_self]
  rw [gd_eq h2]
theorem cv_not {S : List Bool} {ver : Bool} {l k : Int} (hS : S.length = 6400) (hl : -40 ≤ l ∧ l < 40) (hk : -40 ≤ k ∧ k < 40) : cv (notB S) ver l k = !cv S ver l k := by
 have e : ∀ x y : Int, (-40 ≤ x ∧ x < 40) → (-40 ≤ y ∧ y < 40) → celB (notB S) x y = !celB S x y := fun x y hx hy => by
  rw [celB, celB, gd_not (by omega), decide_eq_true hx, decide_eq_true hy]; rfl
 cases ver
 ·exact e _ _ hk hl
 ·exact e _ _ hl hk
theorem gapE_line {A B : List Bool} {ver : Bool} {l lo hi : Int} : gapE A B ver (lineR ver l lo hi) = ((cv A ver l (lo - 1) && cv B ver l hi) || (cv B ver l (lo - 1) && cv A ver l hi)) := by cases ver <;> rfl
theorem gapE_inner {A B : List Bool} {ver : Bool} {l lo hi : Int} (h : gapE A B ver (lineR ver l lo hi) = true) : -40 < lo ∧ hi < 40 := by
 rw [gapE_line] at h
 simp only [Bool.or_eq_true, Bool.and_eq_true] at h
 rcases h with ⟨h1, h2⟩ | ⟨h1, h2⟩ <;> (have := cv_rng h1; have := cv_rng h2; omega)
theorem gap_ends {A : List Bool} {ver : Bool} {l k lo hi : Int} (hA : A.length = 6400) (h : isRun (notB A) ver l k lo hi) (h1 : -40 < lo ∧ hi < 40) : cv A ver l (lo - 1) = true ∧ cv A ver l hi = true := by
 have g1 := h.low; have g2 := h.high; have g3 := h.lk; have g4 := h.rng
 rw [cv_not hA g4.2 (by omega)] at g1 g2
 constructor
 ·simpa using g1
 ·simpa using g2
theorem gapE_self {A : List Bool} {ver : Bool} {l k lo hi : Int} (hA : A.length = 6400) (h : isRun (notB A) ver l k lo hi) : gapE A A ver (lineR ver l lo hi) = true ↔ -40 < lo ∧ hi < 40 := by
 refine ⟨gapE_inner, fun h1 => ?_⟩
 rw [gapE_line, (gap_ends hA h h1).1, (gap_ends hA h h1).2]; rfl
theorem GapsA.self {A : List Bool} {a b : List Rect} (hA : A.length = 6400) (ha : GapsOf A false a) (hb : GapsOf A true b) : GapsA A A (a ++ b) := ⟨by
 have := ha.len; have := hb.len; rw [List.length_append]; omega, fun r hr => by
 rw [orZ_self]
 rcases List.mem_append.1 hr with h | h
 ·obtain ⟨l, k, lo, hi, g1, g2, rfl⟩ := ha.run r h; exact ⟨false, l, k, lo, hi, g1, (gapE_self hA g1).2 g2, rfl⟩
 ·obtain ⟨l, k, lo, hi, g1, g2, rfl⟩ := hb.run r h; exact ⟨true, l, k, lo, hi, g1, (gapE_self hA g1).2 g2, rfl⟩, fun ver l k lo hi h1 h2 => by
 rw [orZ_self] at h1
 have g := (gapE_self hA h1).1 h2
 cases ver with
 | false => exact List.mem_append_left _ (ha.all l k lo hi h1 g.1 g.2)
 | true => exact List.mem_append_right _ (hb.all l k lo hi h1 g.1 g.2)⟩
theorem allGaps_i {v : Value} {xs : List Rect} (h1 : Rs G L rectT v xs) (k : ∀ v' out, GapsA (bits xs) (bits xs) out → R v' G (osl 91 rectT v' out :: L)) : CallT Tryz.prog 183 #[v] G L R := by
 refine CallT.enter (args := _) Tryz.func183 rfl rfl (by kernel_rfl) rfl ?_
 refine WP.sr (RG.p (PV.asg rfl rfl) (RG.nil (WP.sr (RG.p (PV.move (v := v) rfl rfl) ?_))))
 refine RG.callF (vs := [v]) rfl rfl En210 rfl (cellsOf_s (Rs.up h1) (fun b5 => ?_))
 refine RG.p (PV.asg rfl rfl) (RG.nil (WP.sr (RG.p (PV.move rfl rfl) ?_)))
 refine RG.callF (vs := [_, _]) rfl rfl En241 rfl (CallT.exB (b := b5) (gapsOf_i (bits_length _) (fun v7 outv7 houtv7 => have hlnv7 := houtv7.len; ?_)))
 refine RG.p (PV.move rfl rfl) ?_
 refine RG.callF (vs := [_, _]) rfl rfl En241 rfl (CallT.exB (b := b5) (gapsOf_i (bits_length _) (fun v9 outv9 houtv9 => have hlnv9 := houtv9.len; ?_)))
 refine RG.ot rfl (OT.append (v := v7) (u := v9) (F := rectT) rfl El50 rfl (by decide) rfl rfl Rs.o (OneL.c (fun _ => rfl)) rfl (by first | omega | (simp <;> omega)) fun v10 => ?_)
 refine RG.p (PV.asg (v := v10) rfl rfl) (RG.nil ?_)
 exact WP.ret ⟨_, _, ResV.one rfl rfl, Cv.p, k v10 _ (GapsA.self (bits_length _) houtv7 houtv9)⟩
theorem runLen_i {r : Rect} (hv : validRect r = true) (k : R (vi (lenR r)) G L) : CallT Tryz.prog 239 #[vrect r] G L R := by
 have e : lenR r = areaR r := rfl
 rw [e] at k
 refine CallT.enter (args := _) Tryz.func239 rfl rfl (by kernel_rfl) rfl ?_
 refine WP.sr ?_
 refine RG.ot rfl (OT.box (cs := rectT.enc r) rfl rfl rfl fun b1 => ?_)
 refine RG.mr rfl (RG.nil (WP.sr (RG.p (PV.loadW rfl Ag91 rfl rfl) ?_)))
 refine RG.callF (vs := [_]) rfl rfl En191 rfl (area_s hv ?_)
 refine RG.mr rfl (RG.nil ?_)
 exact WP.ret ⟨_, _, ResV.one rfl rfl, Cv.p, k⟩
theorem shorter_i {v : Value} {list : List Rect} {w : Int} (h1 : Rs G L rectT v list) (hv : ∀ r ∈ list, validRect r = true) (hl : list.length ≤ 1000000) (k : ∀ v' E, E.length = 6400 → (∀ y x, y < 80 → x < 80 → gb E y x = markC list w y x) → R v' G (osl 91 rectT v' (canon E) :: L)) : CallT Tryz.prog 181 #[v, vi w] G L R := by
 refine CallT.enter (args := _) Tryz.func181 rfl rfl (by kernel_rfl) rfl ?_
 refine WP.sr (RG.p (PV.asg rfl rfl) (RG.nil (WP.sr (RG.p (PV.build0 rfl Tryz.underlying179 ⟨80, by kernel_rfl⟩ (zeroB_spec (n := 6400) (by kernel_rfl))) ?_))))
 refine RG.ot rfl (OT.boxG rfl rfl fun b9 => ?_)
 refine RG.p (PV.mvP (.inr rfl) rfl) (RG.nil (WP.seq (WP.sr (RG.p (PV.move (v := v) rfl rfl) (RG.p (PV.len (v := v) rfl Tryz.underlying50 rfl (SlF.r h1)) (RG.ml rfl (RG.nil (WP.block ?_))))))))
 refine WP.loop2 [1, 5, 10, 11] (fun (i : Nat) (E : List Bool) => i ≤ list.length ∧ E.length = 6400 ∧ ∀ y x, y < 80 → x < 80 → gb E y x = markC (list.take i) w y x) (fun (i : Nat) (E : List Bool) => [(12, vi i)]) (fun (i : Nat) (E : List Bool) => grd b9 E :: L) (fun (i : Nat) (E : List Bool) => list.length - i) 0 (List.replicate 6400 false) ⟨by omega, by simp, fun y x _ _ => gb_rep0 y x⟩ ⟨rfl, trivial⟩ Cv.p ?_
 rintro i E τ ⟨hi, hE, hg⟩
 refine WP.sr (RG.p (PV.lss rfl rfl rfl) (RG.nil (WP.seq ?_)))
 refine WP.cond rfl (fun h2 => ?_) (fun h2 => ?_)
 ·have h2 := of_decide_eq_true h2
  have hil : i < list.length := by omega
  have htk : list.take (i + 1) = list.take i ++ [gd list i] := by rw [List.take_add_one, getG hil]; rfl
  refine WP.skip (WP.seq (WP.block (WP.sr (RG.p (PV.idxS (v := v) rfl Is50 rfl (SlF.r h1) rfl rfl (by omega)) (RG.p (PV.loadE rfl Ag91 rfl rfl (El.r h1 (getG (by omega)))) ?_)))))
  refine RG.ot rfl (OT.alloc rfl Zr91 fun b7 => ?_)
  refine RG.ot rfl (OT.storeW (vs := [vi _, vi _, vi _, vi _]) rfl Sz91 rfl rfl (Cl.c rfl) rfl rfl (OneC.c rfl) ?_)
  refine RG.nil (WP.sr (RG.p (PV.loadW rfl Ag91 rfl rfl) ?_))
  refine RG.callF (vs := [_]) rfl rfl En239 rfl (runLen_i (hv _ (gd_mem (by omega))) ?_)
  refine RG.ml rfl (RG.p (PV.lss rfl rfl rfl) (RG.nil ?_))
  refine WP.cond rfl (fun h3 => ?_) (fun h3 => ?_)
  ·have h3 := of_decide_eq_true h3
   have h4 : decide (lenR (gd list i) < w) = true := decide_eq_true h3
   refine WP.region (RG.p (PV.mvP (.inl rfl) rfl) (RG.p (PV.loadW rfl Ag91 rfl rfl) ?_))
   refine RG.callF (vs := [(.pointer (some ⟨b9, 0, none⟩)), _]) rfl rfl En131 rfl (CallT.exB (put_s (by assumption) (fun bs' hb' hg' => ?_)))
   refine RG.nil (WP.region (RG.p (PV.add rfl rfl rfl (by omega)) (RG.ml rfl (RG.nil ?_))))
   exact ⟨rfl, i + 1, bs', ⟨by omega, hb', fun y x hy hx => by rw [hg' y x hy hx, hg y x hy hx, markC, markC, htk, List.any_append]; simp [h4]⟩, ⟨rfl, trivial⟩, ⟨rfl, rfl, rfl, rfl, trivial⟩, Cv.p, by omega⟩
  ·have h3 := of_decide_eq_false h3
   have h4 : decide (lenR (gd list i) < w) = false := decide_eq_false h3
   refine WP.skip (WP.region (RG.p (PV.add rfl rfl rfl (by omega)) (RG.ml rfl (RG.nil ?_))))
   exact ⟨rfl, i + 1, E, ⟨by omega, hE, fun y x hy hx => by rw [hg y x hy hx, markC, markC, htk, List.any_append]; simp [h4]⟩, ⟨rfl, trivial⟩, ⟨rfl, rfl, rfl, rfl, trivial⟩, Cv.p, by omega⟩
 ·have h2 := of_decide_eq_false h2
  rw [List.take_of_length_le (by omega)] at hg
  refine WP.exit ?_
  refine WP.sr (RG.p (PV.mvP (.inl rfl) rfl) ?_)
  refine RG.callF (vs := [(.pointer (some ⟨b9, 0, none⟩))]) rfl rfl En132 rfl (CallT.exB (region_s hE (fun v25 => ?_)))
  refine RG.p (PV.asg (v := v25) rfl rfl) (RG.nil ?_)
  exact WP.ret ⟨_, _, ResV.one rfl rfl, Cv.p, k v25 E hE hg⟩
theorem okDist_within (w : Int) : within w 1 8 = okDist w := by rw [within, okDist]
theorem checkable_i {v : Value} {xs : List Rect} {w : Int} (h1 : Rs G L rectT v xs) (k : R (.bool (isReg xs && okDist w)) G L) : CallT Tryz.prog 180 #[v, vi w] G L R := by
 rw [← okDist_within] at k
 refine CallT.enter (args := _) Tryz.func180 rfl rfl (by kernel_rfl) rfl ?_
 refine WP.sr (RG.br rfl (RG.nil (WP.sr (RG.p (PV.move (v := v) rfl rfl) ?_))))
 refine RG.callF (vs := [v]) rfl rfl En130 rfl (isRegion_s (Rs.up h1) ?_)
 refine RG.bl rfl ?_
 refine RG.g rfl (fun hp => (PV.mvI (.inl rfl) rfl)) ?_
 refine RG.gsC rfl rfl rfl rfl En100 (fun hp => ⟨_, (acons (gs_t hp) (acons rfl (acons rfl anil))), within_s ⟨rfl, rfl, rfl⟩⟩) ?_
 refine RG.p (PV.pickA rfl rfl (fun hq => gs_t (geqT hq)) rfl) (RG.br rfl (RG.nil ?_))
 exact WP.ret ⟨_, _, ResV.one rfl rfl, Cv.p, k⟩
theorem runsA_valid {S : List Bool} {out : List Rect} (h : RunsA S out) : ∀ r ∈ out, validRect r = true := fun r hr => by
 obtain ⟨ver, l, k, lo, hi, g1, rfl⟩ := h.run r hr; exact lineR_valid g1
theorem gapsA_valid {A B : List Bool} {out : List Rect} (h : GapsA A B out) : ∀ r ∈ out, validRect r = true := fun r hr => by
 obtain ⟨ver, l, k, lo, hi, g1, g2, rfl⟩ := h.run r hr; exact lineR_valid g1
theorem markWidth_i {v : Value} {xs : List Rect} {w : Int} (h1 : Rs G L rectT v xs) (k : ∀ v', R v' G (osl 91 rectT v' (widthL xs w) :: L)) : CallT Tryz.prog 102 #[v, vi w] G L R := by
 refine CallT.enter (args := _) Tryz.func102 rfl rfl (by kernel_rfl) rfl ?_
 refine WP.sr (RG.p (PV.asg rfl rfl) (RG.nil (WP.seq (WP.sr (RG.p (PV.move (v := v) rfl rfl) (RG.ml rfl ?_))))))
 refine RG.callF (vs := [v, _]) rfl rfl En180 rfl (checkable_i (Rs.up h1) ?_)
 refine RG.p (PV.not rfl rfl) (RG.nil ?_)
 refine WP.cond rfl (fun h2 => ?_) (fun h2 => ?_)
 ·have e : widthL xs w = [] := by rw [widthL, if_neg]; intro h3; rw [h3] at h2; simp at h2
  rw [e] at k
  refine WP.sr (RG.p (PV.asg rfl rfl) (RG.nil ?_))
  exact WP.ret ⟨_, _, ResV.one rfl rfl, Cv.nilS, k _⟩
 ·have h3 : (isReg xs && okDist w) = true := by simpa using h2
  refine WP.skip (WP.sr (RG.p (PV.move (v := v) rfl rfl) ?_))
  refine RG.callF (vs := [v]) rfl rfl En182 rfl (allRuns_i (Rs.up h1) (fun v10 outv10 houtv10 => have hlnv10 := houtv10.len; ?_))
  refine RG.ml rfl ?_
  refine RG.callF (vs := [v10, _]) rfl rfl En181 rfl (shorter_i Rs.o (runsA_valid houtv10) (by omega) (fun v12 Ev12 hEv12 hgv12 => ?_))
  refine RG.p (PV.asg (v := v12) rfl rfl) (RG.nil ?_)
  refine WP.ret ?_
  have e : widthL xs w = canon Ev12 := by rw [widthL, if_pos h3, celL_eq (P := Thin (bits xs) w) hEv12 (fun y x hy hx => by rw [hgv12 y x hy hx, markC_iff houtv10])]
  rw [e] at k
  exact ⟨_, _, ResV.one rfl rfl, Cv.p, k v12⟩
theorem markSpacing_i {v : Value} {xs : List Rect} {w : Int} (h1 : Rs G L rectT v xs) (k : ∀ v', R v' G (osl 91 rectT v' (spaceL xs w) :: L)) : CallT Tryz.prog 103 #[v, vi w] G L R := by
 refine CallT.enter (args := _) Tryz.func103 rfl rfl (by kernel_rfl) rfl ?_
 refine WP.sr (RG.p (PV.asg rfl rfl) (RG.nil (WP.seq (WP.sr (RG.p (PV.move (v := v) rfl rfl) (RG.ml rfl ?_))))))
 refine RG.callF (vs := [v, _]) rfl rfl En180 rfl (checkable_i (Rs.up h1) ?_)
 refine RG.p (PV.not rfl rfl) (RG.nil ?_)
 refine WP.cond rfl (fun h2 => ?_) (fun h2 => ?_)
 ·have e : spaceL xs w = [] := by rw [spaceL, if_neg]; intro h3; rw [h3] at h2; simp at h2
  rw [e] at k
  refine WP.sr (RG.p (PV.asg rfl rfl) (RG.nil ?_))
  exact WP.ret ⟨_, _, ResV.one rfl rfl, Cv.nilS, k _⟩
 ·have h3 : (isReg xs && okDist w) = true := by simpa using h2
  refine WP.skip (WP.sr (RG.p (PV.move (v := v) rfl rfl) ?_))
  refine RG.callF (vs := [v]) rfl rfl En183 rfl (allGaps_i (Rs.up h1) (fun v10 outv10 houtv10 => have hlnv10 := houtv10.len; ?_))
  refine RG.ml rfl ?_
  refine RG.callF (vs := [v10, _]) rfl rfl En181 rfl (shorter_i Rs.o (gapsA_valid houtv10) (by omega) (fun v12 Ev12 hEv12 hgv12 => ?_))
  refine RG.p (PV.asg (v := v12) rfl rfl) (RG.nil ?_)
  refine WP.ret ?_
  have e : spaceL xs w = canon Ev12 := by rw [spaceL, if_pos h3, celL_eq (P := Nigh (bits xs) (bits xs) w) hEv12 (fun y x hy hx => by rw [hgv12 y x hy hx, near_iff houtv10])]
  rw [e] at k
  exact ⟨_, _, ResV.one rfl rfl, Cv.p, k v12⟩
end Go.Proofs.YtgphjofccckloaaGreat
namespace Go.Proofs.YtgphjofccckloaaGreat
open Go
set_option maxRecDepth 20000
set_option maxHeartbeats 2000000
variable {G : Gh} {L : List Ch} {R : Value → Gh → List Ch → Prop}
theorem Cv.un {c : Ch} {L L' : List Ch} (h : Ex c L L') : Cv (c :: L') L := by
 induction h with
 | head L => exact Cv.refl _
 | tail x h ih => exact (Cv.swap (A := [_]) (B := [x]) (L := _)).trans (Cv.cons ih)
theorem CallT.readB {P : Program} {f : FuncId} {args : Array Value} {v : Value} {b : Nat} {e : TypeId} {cs : List Value} {L' : List Ch} [hX : ExB b L e cs L'] (h : CallT P f args G (blk b e cs :: L') (fun v' G' M => v' = v ∧ G' = G ∧ M = blk b e cs :: L')) (k : R v G L) : CallT P f args G L R :=
 CallT.of fun w hs => ((CallT.exB h).run hs).mono fun _ _ ⟨v', G', M, h1, h2, h3⟩ => by
  obtain ⟨rfl, rfl, rfl⟩ := h3
  exact ⟨_, _, L, h1, h2.cv (Cv.un hX.ex), k⟩
structure Gp (A B : List Bool) (n : Nat) (out : List Rect) : Prop where
  len : out.length ≤ 6400 * n
  run : ∀ r ∈ out, ∃ ver l k lo hi, isRun (notB (orZ A B)) ver l k lo hi ∧ gapE A B ver (lineR ver l lo hi) = true ∧ r = lineR ver l lo hi
  all : ∀ m, m < n → ∀ l k lo hi, isRun (notB (orZ A B)) (gd [false, true] m) l k lo hi → gapE A B (gd [false, true] m) (lineR (gd [false, true] m) l lo hi) = true → lineR (gd [false, true] m) l lo hi ∈ out
theorem Gp.nil {A B : List Bool} : Gp A B 0 [] := ⟨by simp, fun r h => (by cases h), fun m h => (by omega)⟩
theorem Gp.next {A B : List Bool} {n : Nat} {out g : List Rect} (h : Gp A B n out) (hg : GapsOf (orZ A B) (gd [false, true] n) g) : Gp A B (n + 1) (out ++ g.filter (gapE A B (gd [false, true] n))) := by
 refine ⟨?_, fun r hr => ?_, fun m hm l k lo hi h1 h2 => ?_⟩
 ·have := h.len; have := hg.len; have := List.length_filter_le (gapE A B (gd [false, true] n)) g
  rw [List.length_append]; omega
 ·rcases List.mem_append.1 hr with h1 | h1
  ·exact h.run r h1
  ·obtain ⟨h2, h3⟩ := List.mem_filter.1 h1
   obtain ⟨l, k, lo, hi, g1, g2, rfl⟩ := hg.run r h2
   exact ⟨_, l, k, lo, hi, g1, h3, rfl⟩
 ·by_cases c : m = n
  ·subst c
   have h3 := gapE_inner h2
   exact List.mem_append_right _ (List.mem_filter.2 ⟨hg.all l k lo hi h1 h3.1 h3.2, h2⟩)
  ·exact List.mem_append_left _ (h.all m (by omega) l k lo hi h1 h2)
theorem gd_ft0 : gd [false, true] 0 = false := by simp [gd]
theorem gd_ft1 : gd [false, true] 1 = true := by simp [gd]
theorem Gp.done {A B : List Bool} {out : List Rect} (h : Gp A B 2 out) : GapsA A B out := ⟨by have := h.len; omega, h.run, fun ver l k lo hi h1 h2 => by
 cases ver with
 | false => have h3 := h.all 0 (by omega) l k lo hi; rw [gd_ft0] at h3; exact h3 h1 h2
 | true => have h3 := h.all 1 (by omega) l k lo hi; rw [gd_ft1] at h3; exact h3 h1 h2⟩
theorem gapsBetween_i {u v : Value} {xs ys : List Rect} (h1 : Rs G L rectT u xs) (h2 : Rs G L rectT v ys) (k : ∀ v' out, GapsA (bits xs) (bits ys) out → R v' G (osl 91 rectT v' out :: L)) : CallT Tryz.prog 185 #[u, v] G L R := by
 refine CallT.bd h2 fun hb => ?_
 have hlx := bits_length xs
 have hly := bits_length ys
 have hOl : (orZ (bits xs) (bits ys)).length = 6400 := by rw [orZ_len, hlx]
 refine CallT.enter (args := _) Tryz.func185 rfl rfl (by kernel_rfl) rfl ?_
 refine WP.sr (RG.p (PV.asg rfl rfl) (RG.nil (WP.sr (RG.p (PV.move (v := u) rfl rfl) ?_))))
 refine RG.callF (vs := [u]) rfl rfl En210 rfl (cellsOf_s (Rs.up h1) (fun b5 => ?_))
 refine RG.p (PV.move (v := v) rfl rfl) ?_
 refine RG.callF (vs := [v]) rfl rfl En210 rfl (cellsOf_s (Rs.up h2) (fun b6 => ?_))
 refine RG.ot rfl (OT.bslice (F := rectT) (els := []) rfl El50 rfl (by decide) rfl (by decide) trivial fun v21 => ?_)
 refine RG.p (PV.asg rfl rfl) (RG.p (PV.asg rfl rfl) (RG.p (PV.asg (v := v21) rfl rfl) (RG.nil (WP.sr (RG.p (PV.move (v := u) rfl rfl) ?_)))))
 refine RG.callF (vs := [u]) rfl rfl En210 rfl (cellsOf_s (Rs.up h1) (fun b8 => ?_))
 refine RG.p (PV.asg rfl rfl) (RG.nil (WP.seq (WP.sr (RG.p (PV.move (v := v) rfl rfl) (RG.p (PV.len (v := v) rfl Tryz.underlying50 rfl (SlF.r h2)) (RG.ml rfl (RG.nil (WP.block ?_))))))))
 refine WP.loop2 [5, 6, 7, 8, 24, 25] (fun (i : Nat) (cs : List Bool) => i ≤ ys.length ∧ cs.length = 6400 ∧ ∀ y x, y < 80 → x < 80 → gb cs y x = (gb (bits xs) y x || (ys.take i).any fun r => inR r y x)) (fun (i : Nat) (cs : List Bool) => [(26, vi i)]) (fun (i : Nat) (cs : List Bool) => grd b8 cs :: osl 91 rectT v21 ([] : List Rect) :: grd b6 (bits ys) :: grd b5 (bits xs) :: L) (fun (i : Nat) (cs : List Bool) => ys.length - i) 0 (bits xs) ⟨by omega, hlx, fun y x _ _ => by simp⟩ ⟨rfl, trivial⟩ Cv.p ?_
 rintro i cs τ ⟨hi, hlc, hc⟩
 refine WP.sr (RG.p (PV.lss rfl rfl rfl) (RG.nil (WP.seq ?_)))
 refine WP.cond rfl (fun h3 => ?_) (fun h3 => ?_)
 ·have h3 := of_decide_eq_true h3
  refine WP.skip (WP.seq (WP.block (WP.sr (RG.p (PV.idxS (v := v) rfl Is50 rfl (SlF.r h2) rfl rfl (by omega)) (RG.p (PV.loadE rfl Ag91 rfl rfl (El.r h2 (getG (by omega)))) ?_)))))
  refine RG.ot rfl (OT.alloc rfl Zr91 fun b10 => ?_)
  refine RG.ot rfl (OT.storeW (vs := [vi _, vi _, vi _, vi _]) rfl Sz91 rfl rfl (Cl.c rfl) rfl rfl (OneC.c rfl) ?_)
  refine RG.nil (WP.region (RG.p (PV.move rfl rfl) (RG.p (PV.loadW rfl Ag91 rfl rfl) ?_)))
  refine RG.callF (vs := [_, _]) rfl rfl En131 rfl (CallT.exB (put_s (by assumption) (fun bs' hb' hg' => ?_)))
  refine RG.nil (WP.region (RG.p (PV.add rfl rfl rfl (by omega)) (RG.ml rfl (RG.nil ?_))))
  exact ⟨rfl, i + 1, bs', ⟨by omega, hb', fun y x hy hx => by rw [hg' y x hy hx, hc y x hy hx, List.take_add_one, getG (by omega), List.any_append, Bool.or_assoc]; simp⟩, ⟨rfl, trivial⟩, ⟨rfl, rfl, rfl, rfl, rfl, rfl, trivial⟩, Cv.p, by omega⟩
 ·have h3 := of_decide_eq_false h3
  have e : cs = orZ (bits xs) (bits ys) := gb_ext hlc hOl fun y x hy hx => by rw [hc y x hy hx, List.take_of_length_le (by omega), orZ_gb hlx hy hx, gb_bits' ys hy hx]
  subst e
  refine WP.exit ?_
  refine WP.seq (WP.sr ?_)
  refine RG.ot rfl (OT.bslice (F := boolT) (els := [_, _]) rfl El162 rfl (by decide) rfl (by decide) ⟨rfl, (Cl.c rfl), ⟨rfl, (Cl.c rfl), trivial⟩⟩ fun v34 => ?_)
  refine RG.p (PV.len (v := v34) rfl Tryz.underlying162 rfl SlF.o) (RG.ml rfl (RG.nil (WP.block ?_)))
  refine WP.loop3 [5, 6, 8, 34, 35] (fun (n : Nat) (out : List Rect) (q : Value) => n ≤ 2 ∧ Gp (bits xs) (bits ys) n out) (fun (n : Nat) (out : List Rect) (q : Value) => [(36, vi n), (7, q)]) (fun (n : Nat) (out : List Rect) (q : Value) => osl 91 rectT q out :: osl 4 boolT v34 [false, true] :: grd b8 (orZ (bits xs) (bits ys)) :: grd b6 (bits ys) :: grd b5 (bits xs) :: L) (fun (n : Nat) (out : List Rect) (q : Value) => 2 - n) 0 [] v21 ⟨by omega, Gp.nil⟩ ⟨rfl, rfl, trivial⟩ Cv.p ?_
  rintro n out q τ1 ⟨hn, hG⟩
  refine WP.sr (RG.p (PV.lss rfl rfl rfl) (RG.nil (WP.seq ?_)))
  have hGl := hG.len
  have h2l : ([false, true] : List Bool).length = 2 := rfl
  refine WP.cond rfl (fun h4 => ?_) (fun h4 => ?_)
  ·have h4 := of_decide_eq_true h4
   refine WP.skip (WP.seq (WP.block (WP.sr (RG.p (PV.idxS (v := v34) rfl Is162 rfl SlF.o rfl rfl (by omega)) (RG.p (PV.loadE1 rfl Sc4 rfl rfl (El.o (getG (by omega))) rfl) (RG.br rfl (RG.nil (WP.sr (RG.p (PV.move rfl rfl) (RG.bl rfl ?_))))))))))
   refine RG.callF (vs := [_, _]) rfl rfl En241 rfl (CallT.exB (b := b8) (gapsOf_i hOl (fun v42 outv42 houtv42 => have hlnv42 := houtv42.len; ?_)))
   refine RG.p (PV.len (v := v42) rfl Tryz.underlying50 rfl SlF.o) (RG.ml rfl (RG.nil (WP.block ?_)))
   refine WP.loop3 [5, 6, 8, 12, 34, 35, 36, 42, 43] (fun (j : Nat) (out1 : List Rect) (q1 : Value) => j ≤ outv42.length ∧ out1 = out ++ (outv42.take j).filter (gapE (bits xs) (bits ys) (gd [false, true] n))) (fun (j : Nat) (out1 : List Rect) (q1 : Value) => [(44, vi j), (7, q1)]) (fun (j : Nat) (out1 : List Rect) (q1 : Value) => osl 91 rectT q1 out1 :: osl 91 rectT v42 outv42 :: osl 4 boolT v34 [false, true] :: grd b8 (orZ (bits xs) (bits ys)) :: grd b6 (bits ys) :: grd b5 (bits xs) :: L) (fun (j : Nat) (out1 : List Rect) (q1 : Value) => outv42.length - j) 0 out q ⟨by omega, by simp⟩ ⟨rfl, rfl, trivial⟩ Cv.p ?_
   rintro j out1 q1 τ2 ⟨hj, hout1⟩
   refine WP.sr (RG.p (PV.lss rfl rfl rfl) (RG.nil (WP.seq ?_)))
   have hol : out1.length ≤ 20000 := by
    have h5 := List.length_filter_le (gapE (bits xs) (bits ys) (gd [false, true] n)) (outv42.take j)
    rw [hout1, List.length_append]; rw [List.length_take] at h5; omega
   refine WP.cond rfl (fun h5 => ?_) (fun h5 => ?_)
   ·have h5 := of_decide_eq_true h5
    have h50 : j < outv42.length := by omega
    have hrv : validRect (gd outv42 j) = true := by
     obtain ⟨l, k', lo, hi', g1, g2, e⟩ := houtv42.run _ (gd_mem h50)
     rw [e]; exact lineR_valid g1
    have hrb := validR_iff.1 hrv
    have hf := filt_succ (gapE (bits xs) (bits ys) (gd [false, true] n)) h50
    refine WP.skip (WP.seq (WP.block (WP.sr (RG.p (PV.idxS (v := v42) rfl Is50 rfl SlF.o rfl rfl (by omega)) (RG.p (PV.loadE rfl Ag91 rfl rfl (El.o (getG (by omega)))) ?_)))))
    refine RG.ot rfl (OT.alloc rfl Zr91 fun b14 => ?_)
    refine RG.ot rfl (OT.storeW (vs := [vi _, vi _, vi _, vi _]) rfl Sz91 rfl rfl (Cl.c rfl) rfl rfl (OneC.c rfl) ?_)
    refine RG.nil ?_
    refine WP.cut2 [5, 6, 7, 8, 12, 14, 34, 35, 36, 42, 43, 44] (fun (b15 b16 : Nat) => True) (fun (b15 b16 : Nat) => [(15, .pointer (some ⟨b15, 0, none⟩)), (16, .pointer (some ⟨b16, 0, none⟩))]) (fun (b15 b16 : Nat) => blk b15 189 [vi ((gd outv42 j).x0 - 1), vi (gd outv42 j).y0] :: blk b16 189 [vi (gd outv42 j).x1, vi (gd outv42 j).y0] :: blk b14 91 (rectT.enc (gd outv42 j)) :: osl 91 rectT q1 out1 :: osl 91 rectT v42 outv42 :: osl 4 boolT v34 [false, true] :: grd b8 (orZ (bits xs) (bits ys)) :: grd b6 (bits ys) :: grd b5 (bits xs) :: L) ?_ ?_
    refine WP.regionH0 (.q 0 (.q 1 (.q 2 (.q 3 (.q 4 (.q 5 (.q 6 (.q 7 (.q 8 (.q 9 (.q 10 (.b 11 (.l 12 (.l 13 (.l 14 Sch.nil))) 12 (.l 11 (.l 13 (.l 14 Sch.nil))))))))))))))) (by kernel_rfl) (by kernel_rfl) (by kernel_rfl) rfl ?_
    refine RH.w rfl rfl (PV.field rfl Fo91_0 rfl) (RH.w rfl rfl (PV.load1 rfl Sc2 rfl (Rd.blk rfl)) (RH.w rfl rfl (PV.sub rfl rfl rfl (by omega)) (RH.w rfl rfl (PV.field rfl Fo91_1 rfl) (RH.w rfl rfl (PV.load1 rfl Sc2 rfl (Rd.blk rfl)) (RH.w rfl rfl (PV.build (vs := [(0, [vi _]), (1, [vi _])]) (out := [_, _]) rfl Zr189 Pl189 ⟨rfl, (Cl.c rfl), ⟨rfl, (Cl.c rfl), trivial⟩⟩ rfl) (RH.w rfl rfl (PV.field rfl Fo91_2 rfl) (RH.w rfl rfl (PV.load1 rfl Sc2 rfl (Rd.blk rfl)) (RH.w rfl rfl (PV.field rfl Fo91_1 rfl) (RH.w rfl rfl (PV.load1 rfl Sc2 rfl (Rd.blk rfl)) (RH.w rfl rfl (PV.build (vs := [(0, [vi _]), (1, [vi _])]) (out := [_, _]) rfl Zr189 Pl189 ⟨rfl, (Cl.c rfl), ⟨rfl, (Cl.c rfl), trivial⟩⟩ rfl) ?_))))))))))
    ·refine RH.ot2 rfl rfl rfl rfl  (OT.alloc rfl Zr189 fun b15 => ⟨Gh.le_refl _, PickC.pick, ?_⟩) (OT.alloc rfl Zr189 fun b16 => ⟨Gh.le_refl _, PickC.pick, ?_⟩)
     ·refine RH.ot rfl rfl (OT.alloc rfl Zr189 fun b16 => ⟨Gh.le_refl _, PickC.pick, ?_⟩)
      refine RH.ot rfl rfl (OT.storeW (vs := [vi _, vi _]) rfl Sz189 rfl rfl (Cl.c rfl) rfl rfl (OneC.c rfl) ⟨Gh.le_refl _, PickC.pick, ?_⟩)
      refine RH.ot rfl rfl (OT.storeW (vs := [vi _, vi _]) rfl Sz189 rfl rfl (Cl.c rfl) rfl rfl (OneC.c rfl) ⟨Gh.le_refl _, PickC.pick, ?_⟩)
      refine RH.nil ?_
      exact ⟨rfl, b15, b16, trivial, ⟨rfl, rfl, trivial⟩, ⟨rfl, rfl, rfl, rfl, rfl, rfl, rfl, rfl, rfl, rfl, rfl, rfl, trivial⟩, Cv.p⟩
     ·refine RH.ot rfl rfl (OT.alloc rfl Zr189 fun b15 => ⟨Gh.le_refl _, PickC.pick, ?_⟩)
      refine RH.ot rfl rfl (OT.storeW (vs := [vi _, vi _]) rfl Sz189 rfl rfl (Cl.c rfl) rfl rfl (OneC.c rfl) ⟨Gh.le_refl _, PickC.pick, ?_⟩)
      refine RH.ot rfl rfl (OT.storeW (vs := [vi _, vi _]) rfl Sz189 rfl rfl (Cl.c rfl) rfl rfl (OneC.c rfl) ⟨Gh.le_refl _, PickC.pick, ?_⟩)
      refine RH.nil ?_
      exact ⟨rfl, b15, b16, trivial, ⟨rfl, rfl, trivial⟩, ⟨rfl, rfl, rfl, rfl, rfl, rfl, rfl, rfl, rfl, rfl, rfl, rfl, trivial⟩, Cv.p⟩
    rintro b15 b16 τ3 -
    refine WP.cut4 [5, 6, 7, 8, 12, 14, 15, 16, 34, 35, 36, 42, 43, 44] (fun (sx sy dx dy : Int) => (⟨sx, sy⟩ : Pt) = endP (gd outv42 j) (gd [false, true] n) ∧ (⟨dx, dy⟩ : Pt) = endQ (gd outv42 j) (gd [false, true] n)) (fun (sx sy dx dy : Int) => []) (fun (sx sy dx dy : Int) => blk b15 189 [vi sx, vi sy] :: blk b16 189 [vi dx, vi dy] :: blk b14 91 (rectT.enc (gd outv42 j)) :: osl 91 rectT q1 out1 :: osl 91 rectT v42 outv42 :: osl 4 boolT v34 [false, true] :: grd b8 (orZ (bits xs) (bits ys)) :: grd b6 (bits ys) :: grd b5 (bits xs) :: L) ?_ ?_
    refine WP.sr (RG.bl rfl (RG.nil ?_))
    refine WP.cond rfl (fun h6 => ?_) (fun h6 => ?_)
    ·refine WP.regionHD [.b b15, .b b16] (.q 0 (.q 1 (.q 2 (.q 3 (.q 4 (.q 5 (.q 6 (.q 7 (.q 8 (.q 9 (.q 10 (.l 11 (.l 12 Sch.nil))))))))))))) (by kernel_rfl) (by kernel_rfl) (by kernel_rfl) rfl ?_
     refine RH.w rfl rfl (PV.field rfl Fo91_0 rfl) (RH.w rfl rfl (PV.load1 rfl Sc2 rfl (Rd.blk rfl)) (RH.w rfl rfl (PV.field rfl Fo91_1 rfl) (RH.w rfl rfl (PV.load1 rfl Sc2 rfl (Rd.blk rfl)) (RH.w rfl rfl (PV.sub rfl rfl rfl (by omega)) (RH.w rfl rfl (PV.build (vs := [(0, [vi _]), (1, [vi _])]) (out := [_, _]) rfl Zr189 Pl189 ⟨rfl, (Cl.c rfl), ⟨rfl, (Cl.c rfl), trivial⟩⟩ rfl) (RH.w rfl rfl (PV.field rfl Fo91_0 rfl) (RH.w rfl rfl (PV.load1 rfl Sc2 rfl (Rd.blk rfl)) (RH.w rfl rfl (PV.field rfl Fo91_3 rfl) (RH.w rfl rfl (PV.load1 rfl Sc2 rfl (Rd.blk rfl)) (RH.w rfl rfl (PV.build (vs := [(0, [vi _]), (1, [vi _])]) (out := [_, _]) rfl Zr189 Pl189 ⟨rfl, (Cl.c rfl), ⟨rfl, (Cl.c rfl), trivial⟩⟩ rfl) ?_))))))))))
     refine RH.ot rfl rfl (OT.storeW (vs := [vi _, vi _]) rfl Sz189 rfl rfl (Cl.c rfl) rfl rfl (OneC.c rfl) ⟨Gh.le_refl _, PickC.pick, ?_⟩)
     refine RH.ot rfl rfl (OT.storeW (vs := [vi _, vi _]) rfl Sz189 rfl rfl (Cl.c rfl) rfl rfl (OneC.c rfl) ⟨Gh.le_refl _, PickC.pick, ?_⟩)
     refine RH.nil ?_
     exact ⟨rfl, (gd outv42 j).x0, ((gd outv42 j).y0 - 1), (gd outv42 j).x0, (gd outv42 j).y1, ⟨by rw [h6]; rfl, by rw [h6]; rfl⟩, trivial, ⟨rfl, rfl, rfl, rfl, rfl, rfl, rfl, rfl, rfl, rfl, rfl, rfl, rfl, rfl, trivial⟩, Cv.p⟩
    ·refine WP.skip ?_
     exact ⟨rfl, ((gd outv42 j).x0 - 1), (gd outv42 j).y0, (gd outv42 j).x1, (gd outv42 j).y0, ⟨by rw [h6]; rfl, by rw [h6]; rfl⟩, trivial, ⟨rfl, rfl, rfl, rfl, rfl, rfl, rfl, rfl, rfl, rfl, rfl, rfl, rfl, rfl, trivial⟩, Cv.p⟩
    rintro sx sy dx dy τ4 ⟨hs, hd⟩
    have hgE : gapE (bits xs) (bits ys) (gd [false, true] n) (gd outv42 j) = ((cellB (bits xs) sx sy && cellB (bits ys) dx dy) || (cellB (bits ys) sx sy && cellB (bits xs) dx dy)) := by rw [gapE, ← hs, ← hd]; rfl
    rw [hgE] at hf
    refine WP.sr (RG.p (PV.move rfl rfl) (RG.p (PV.field rfl Fo189_0 rfl) (RG.p (PV.load1 rfl Sc2 rfl (Rd.blk rfl)) (RG.p (PV.field rfl Fo189_1 rfl) (RG.p (PV.load1 rfl Sc2 rfl (Rd.blk rfl)) ?_)))))
    refine RG.callF (vs := [_, _, _]) rfl rfl En242 rfl (CallT.readB (has_s hlx ⟨rfl, rfl, rfl⟩) ?_)
    refine RG.bl rfl ?_
    refine RG.g rfl (fun hp => (PV.move rfl rfl)) ?_
    refine RG.g rfl (fun hp => (PV.field rfl Fo189_0 rfl)) ?_
    refine RG.g rfl (fun hp => (PV.load1 rfl Sc2 (gs_t hp) (Rd.blk rfl))) ?_
    refine RG.g rfl (fun hp => (PV.field rfl Fo189_1 rfl)) ?_
    refine RG.g rfl (fun hp => (PV.load1 rfl Sc2 (gs_t hp) (Rd.blk rfl))) ?_
    refine RG.gsC rfl rfl rfl rfl En242 (fun hp => ⟨_, (acons (gs_t hp) (acons (gs_t hp) (acons (gs_t hp) anil))), CallT.readB (has_s hly ⟨rfl, rfl, rfl⟩) ⟨rfl, rfl, rfl⟩⟩) ?_
    refine RG.p (PV.pickA rfl rfl (fun hq => gs_t (geqT hq)) rfl) (RG.bl rfl ?_)
    refine RG.g rfl (fun hp => (PV.move rfl rfl)) ?_
    refine RG.g rfl (fun hp => (PV.field rfl Fo189_0 rfl)) ?_
    refine RG.g rfl (fun hp => (PV.load1 rfl Sc2 (gs_t hp) (Rd.blk rfl))) ?_
    refine RG.g rfl (fun hp => (PV.field rfl Fo189_1 rfl)) ?_
    refine RG.g rfl (fun hp => (PV.load1 rfl Sc2 (gs_t hp) (Rd.blk rfl))) ?_
    refine RG.gsC rfl rfl rfl rfl En242 (fun hp => ⟨_, (acons (gs_t hp) (acons (gs_t hp) (acons (gs_t hp) anil))), CallT.readB (has_s hly ⟨rfl, rfl, rfl⟩) ⟨rfl, rfl, rfl⟩⟩) ?_
    refine RG.g rfl (fun hp => (PV.mvB (.inl rfl) (gs_t hp))) ?_
    refine RG.gs2 rfl rfl rfl (fun hp => (PV.move rfl rfl)) (RG.gs2 rfl rfl rfl (fun hp => (PV.field rfl Fo189_0 rfl)) (RG.gs2 rfl rfl rfl (fun hp => (PV.load1 rfl Sc2 (gs_t hp) (Rd.blk rfl))) (RG.gs2 rfl rfl rfl (fun hp => (PV.field rfl Fo189_1 rfl)) (RG.gs2 rfl rfl rfl (fun hp => (PV.load1 rfl Sc2 (gs_t hp) (Rd.blk rfl))) ?_))))
    refine RG.gsC2 rfl rfl rfl rfl En242 (fun hp => ⟨_, (acons (gs_t hp) (acons (gs_t hp) (acons (gs_t hp) anil))), CallT.readB (has_s hlx ⟨rfl, rfl, rfl⟩) ⟨rfl, rfl, rfl⟩⟩) ?_
    refine RG.g rfl (fun hp => (PV.pickA rfl (gs_t hp) (fun hq => gs_t (gandT hp hq)) rfl)) ?_
    refine RG.p (PV.pickO rfl rfl rfl (fun hq => gs_t (geqF hq))) (RG.nil ?_)
    refine WP.cond rfl (fun h7 => ?_) (fun h7 => ?_)
    ·rw [if_pos h7] at hf
     refine WP.region (RG.p (PV.move (v := q1) rfl rfl) (RG.p (PV.loadW rfl Ag91 rfl rfl) ?_))
     refine RG.ot rfl (OT.bslice (F := rectT) (els := [_]) rfl El50 rfl (by decide) rfl (by decide) ⟨rfl, (Cl.c rfl), trivial⟩ fun v103 => ?_)
     refine RG.ot rfl (OT.append (v := q1) (u := v103) (F := rectT) rfl El50 rfl (by decide) rfl rfl Rs.o (OneL.c (fun _ => rfl)) rfl (by first | omega | (simp <;> omega)) fun v104 => ?_)
     refine RG.p (PV.asg (v := v104) rfl rfl) (RG.nil (WP.region (RG.p (PV.add rfl rfl rfl (by omega)) (RG.ml rfl (RG.nil ?_)))))
     exact ⟨rfl, j + 1, (out1 ++ [gd outv42 j]), v104, ⟨by omega, by rw [hout1, hf, List.append_assoc]⟩, ⟨rfl, rfl, trivial⟩, ⟨rfl, rfl, rfl, rfl, rfl, rfl, rfl, rfl, rfl, trivial⟩, Cv.p, by omega⟩
    ·rw [if_neg (by rw [h7]; decide), List.append_nil] at hf
     refine WP.skip (WP.region (RG.p (PV.add rfl rfl rfl (by omega)) (RG.ml rfl (RG.nil ?_))))
     exact ⟨rfl, j + 1, out1, q1, ⟨by omega, by rw [hout1, hf]⟩, ⟨rfl, rfl, trivial⟩, ⟨rfl, rfl, rfl, rfl, rfl, rfl, rfl, rfl, rfl, trivial⟩, Cv.p, by omega⟩
   ·have h5 := of_decide_eq_false h5
    rw [List.take_of_length_le (by omega)] at hout1
    have hG1 := hG.next houtv42
    rw [← hout1] at hG1
    refine WP.exit ?_
    refine WP.region (RG.p (PV.add rfl rfl rfl (by omega)) (RG.ml rfl (RG.nil ?_)))
    exact ⟨rfl, n + 1, out1, q1, ⟨by omega, hG1⟩, ⟨rfl, rfl, trivial⟩, ⟨rfl, rfl, rfl, rfl, rfl, trivial⟩, Cv.p, by omega⟩
  ·have h4 := of_decide_eq_false h4
   obtain rfl : n = 2 := by omega
   refine WP.exit ?_
   refine WP.sr (RG.p (PV.move (v := q) rfl rfl) (RG.p (PV.asg (v := q) rfl rfl) (RG.nil ?_)))
   exact WP.ret ⟨_, _, ResV.one rfl rfl, Cv.p, k q out hG.done⟩
end Go.Proofs.YtgphjofccckloaaGreat
namespace Go.Proofs.YtgphjofccckloaaGreat
open Go
set_option maxRecDepth 20000
variable {G : Gh} {L : List Ch} {R : Value → Gh → List Ch → Prop}
abbrev vrule (r : Rule) : Value := vT ruleT r
def paired (k : Int) : Bool := decide (k = 2) || decide (k = 3)
def okVal (r : Rule) : Bool := if r.kind = 4 then within r.value 1 6400 else if r.kind = 5 then within r.value 4 40 else within r.value 1 8
def okPct (r : Rule) : Bool := if r.kind = 5 then within r.percent 1 100 else decide (r.percent = 0)
def okOther (r : Rule) : Bool := bif paired r.kind then within r.other 0 7 && !decide (r.other = r.layer) else decide (r.other = 0)
def validRule (r : Rule) : Bool := within r.kind 0 5 && within r.layer 0 7 && okOther r && okVal r && okPct r
theorem l16In_s {a b c : Int} (k : R (.bool (within a b c)) G L) : CallT Tryz.prog 89 #[vi a, vi b, vi c] G L R := by
 refine CallT.enter (args := _) Tryz.func89 rfl rfl (by kernel_rfl) rfl ?_
 refine WP.sr (RG.br rfl (RG.nil (WP.sr (RG.ml rfl (RG.ml rfl (RG.p (PV.geq rfl rfl rfl) (RG.bl rfl ?_)))))))
 refine RG.g rfl (fun hp => (PV.mvI (.inl rfl) rfl)) ?_
 refine RG.g rfl (fun hp => (PV.mvI (.inl rfl) rfl)) ?_
 refine RG.g rfl (fun hp => (PV.leq rfl (gs_t hp) (gs_t hp))) ?_
 refine RG.p (PV.pickA rfl rfl (fun hq => gs_t (geqT hq)) rfl) (RG.br rfl (RG.nil ?_))
 exact WP.ret ⟨_, _, ResV.one rfl rfl, Cv.p, k⟩
theorem l16Paired_s {a : Int} (k : R (.bool (paired a)) G L) : CallT Tryz.prog 91 #[vi a] G L R := by
 refine CallT.enter (args := _) Tryz.func91 rfl rfl (by kernel_rfl) rfl ?_
 refine WP.sr (RG.br rfl (RG.nil (WP.sr (RG.ml rfl (RG.p (PV.eql rfl rfl rfl) (RG.bl rfl ?_))))))
 refine RG.g rfl (fun hp => (PV.mvI (.inl rfl) rfl)) ?_
 refine RG.g rfl (fun hp => (PV.eql rfl (gs_t hp) rfl)) ?_
 refine RG.p (PV.pickO rfl rfl rfl (fun hq => gs_t (geqF hq))) (RG.br rfl (RG.nil ?_))
 exact WP.ret ⟨_, _, ResV.one rfl rfl, Cv.p, k⟩
theorem hasOther_s {a : Int} (k : R (.bool (paired a)) G L) : CallT Tryz.prog 101 #[vi a] G L R := by
 refine CallT.enter (args := _) Tryz.func101 rfl rfl (by kernel_rfl) rfl ?_
 refine WP.sr (RG.br rfl (RG.nil (WP.sr (RG.ml rfl (RG.p (PV.eql rfl rfl rfl) (RG.bl rfl ?_))))))
 refine RG.g rfl (fun hp => (PV.mvI (.inl rfl) rfl)) ?_
 refine RG.g rfl (fun hp => (PV.eql rfl (gs_t hp) rfl)) ?_
 refine RG.p (PV.pickO rfl rfl rfl (fun hq => gs_t (geqF hq))) (RG.br rfl (RG.nil ?_))
 exact WP.ret ⟨_, _, ResV.one rfl rfl, Cv.p, k⟩
theorem l16Value_s {r : Rule} (k : R (.bool (okVal r)) G L) : CallT Tryz.prog 90 #[vrule r] G L R := by
 refine CallT.enter (args := _) Tryz.func90 rfl rfl (by kernel_rfl) rfl ?_
 refine WP.sr ?_
 refine RG.ot rfl (OT.box (cs := ruleT.enc r) rfl rfl rfl fun b1 => ?_)
 refine RG.br rfl (RG.nil (WP.seq (WP.sr (RG.p (PV.field rfl Fo53_0 rfl) (RG.p (PV.load1 rfl Sc2 rfl (Rd.blk rfl)) (RG.nil (WP.block (WP.sr (RG.p (PV.eql rfl rfl rfl) (RG.br rfl (RG.nil ?_)))))))))))
 refine WP.cond rfl (fun h1 => ?_) (fun h1 => ?_)
 ·have h1 := of_decide_eq_true h1
  rw [okVal, if_pos h1] at k
  refine WP.sr (RG.p (PV.field rfl Fo53_3 rfl) (RG.p (PV.load1 rfl Sc2 rfl (Rd.blk rfl)) ?_))
  refine RG.callF (vs := [_, _, _]) rfl rfl En89 rfl (l16In_s ?_)
  refine RG.br rfl (RG.nil ?_)
  exact WP.ret ⟨_, _, ResV.one rfl rfl, Cv.p, k⟩
 ·have h1 := of_decide_eq_false h1
  rw [okVal, if_neg h1] at k
  refine WP.sr (RG.p (PV.eql rfl rfl rfl) (RG.br rfl (RG.nil ?_)))
  refine WP.cond rfl (fun h2 => ?_) (fun h2 => ?_)
  ·have h2 := of_decide_eq_true h2
   rw [if_pos h2] at k
   refine WP.sr (RG.p (PV.field rfl Fo53_3 rfl) (RG.p (PV.load1 rfl Sc2 rfl (Rd.blk rfl)) ?_))
   refine RG.callF (vs := [_, _, _]) rfl rfl En89 rfl (l16In_s ?_)
   refine RG.br rfl (RG.nil ?_)
   exact WP.ret ⟨_, _, ResV.one rfl rfl, Cv.p, k⟩
  ·have h2 := of_decide_eq_false h2
   rw [if_neg h2] at k
   refine WP.skip (WP.sr (RG.p (PV.field rfl Fo53_3 rfl) (RG.p (PV.load1 rfl Sc2 rfl (Rd.blk rfl)) ?_)))
   refine RG.callF (vs := [_, _, _]) rfl rfl En89 rfl (l16In_s ?_)
   refine RG.br rfl (RG.nil ?_)
   exact WP.ret ⟨_, _, ResV.one rfl rfl, Cv.p, k⟩
theorem okOther_false {r : Rule} (h : (paired r.kind && (!within r.other 0 7 || decide (r.other = r.layer)) || !paired r.kind && !decide (r.other = 0)) = true) : okOther r = false := by
 unfold okOther; revert h
 cases paired r.kind <;> cases within r.other 0 7 <;> cases decide (r.other = r.layer) <;> cases decide (r.other = 0) <;> simp
theorem okOther_true {r : Rule} (h : (paired r.kind && (!within r.other 0 7 || decide (r.other = r.layer)) || !paired r.kind && !decide (r.other = 0)) = false) : okOther r = true := by
 unfold okOther; revert h
 cases paired r.kind <;> cases within r.other 0 7 <;> cases decide (r.other = r.layer) <;> cases decide (r.other = 0) <;> simp
theorem validRule_s {r : Rule} (k : R (.bool (validRule r)) G L) : CallT Tryz.prog 49 #[vrule r] G L R := by
 refine CallT.enter (args := _) Tryz.func49 rfl rfl (by kernel_rfl) rfl ?_
 refine WP.sr ?_
 refine RG.ot rfl (OT.box (cs := ruleT.enc r) rfl rfl rfl fun b1 => ?_)
 refine RG.br rfl (RG.nil (WP.seq (WP.sr (RG.p (PV.field rfl Fo53_0 rfl) (RG.p (PV.load1 rfl Sc2 rfl (Rd.blk rfl)) ?_)))))
 refine RG.callF (vs := [_, _, _]) rfl rfl En89 rfl (l16In_s ?_)
 refine RG.p (PV.not rfl rfl) (RG.bl rfl ?_)
 refine RG.g rfl (fun hp => (PV.field rfl Fo53_1 rfl)) ?_
 refine RG.g rfl (fun hp => (PV.load1 rfl Sc2 (gs_t hp) (Rd.blk rfl))) ?_
 refine RG.gsC rfl rfl rfl rfl En89 (fun hp => ⟨_, (acons (gs_t hp) (acons rfl (acons rfl anil))), l16In_s ⟨rfl, rfl, rfl⟩⟩) ?_
 refine RG.g rfl (fun hp => (PV.not rfl (gs_t hp))) ?_
 refine RG.p (PV.pickO rfl rfl rfl (fun hq => gs_t (geqF hq))) (RG.bl rfl ?_)
 refine RG.g rfl (fun hp => (PV.loadW rfl Ag53 rfl rfl)) ?_
 refine RG.gsC rfl rfl rfl rfl En90 (fun hp => ⟨_, (acons (gs_t hp) anil), l16Value_s ⟨rfl, rfl, rfl⟩⟩) ?_
 refine RG.g rfl (fun hp => (PV.not rfl (gs_t hp))) ?_
 refine RG.p (PV.pickO rfl rfl rfl (fun hq => gs_t (geqF hq))) (RG.nil ?_)
 refine WP.cond rfl (fun h1 => ?_) (fun h1 => ?_)
 ·have e : validRule r = false := by
   unfold validRule; revert h1
   cases within r.kind 0 5 <;> cases within r.layer 0 7 <;> cases okVal r <;> simp
  rw [e] at k
  refine WP.sr (RG.br rfl (RG.nil ?_))
  exact WP.ret ⟨_, _, ResV.one rfl rfl, Cv.p, k⟩
 ·have e : validRule r = (okOther r && okPct r) := by
   unfold validRule; revert h1
   cases within r.kind 0 5 <;> cases within r.layer 0 7 <;> cases okVal r <;> simp
  rw [e] at k
  refine WP.skip (WP.seq (WP.sr (RG.p (PV.field rfl Fo53_0 rfl) (RG.p (PV.load1 rfl Sc2 rfl (Rd.blk rfl)) ?_))))
  refine RG.callF (vs := [_]) rfl rfl En91 rfl (l16Paired_s ?_)
  refine RG.bl rfl ?_
  refine RG.g rfl (fun hp => (PV.field rfl Fo53_2 rfl)) ?_
  refine RG.g rfl (fun hp => (PV.load1 rfl Sc2 (gs_t hp) (Rd.blk rfl))) ?_
  refine RG.gsC rfl rfl rfl rfl En89 (fun hp => ⟨_, (acons (gs_t hp) (acons rfl (acons rfl anil))), l16In_s ⟨rfl, rfl, rfl⟩⟩) ?_
  refine RG.g rfl (fun hp => (PV.not rfl (gs_t hp))) ?_
  refine RG.g rfl (fun hp => (PV.mvB (.inl rfl) (gs_t hp))) ?_
  refine RG.gs2 rfl rfl rfl (fun hp => (PV.field rfl Fo53_2 rfl)) (RG.gs2 rfl rfl rfl (fun hp => (PV.load1 rfl Sc2 (gs_t hp) (Rd.blk rfl))) (RG.gs2 rfl rfl rfl (fun hp => (PV.field rfl Fo53_1 rfl)) (RG.gs2 rfl rfl rfl (fun hp => (PV.load1 rfl Sc2 (gs_t hp) (Rd.blk rfl))) (RG.gs2 rfl rfl rfl (fun hp => (PV.eql rfl (gs_t hp) (gs_t hp))) ?_))))
  refine RG.g rfl (fun hp => (PV.pickO rfl (gs_t hp) rfl (fun hq => gs_t (gandF hp hq)))) ?_
  refine RG.p (PV.pickA rfl rfl (fun hq => gs_t (geqT hq)) rfl) (RG.bl rfl ?_)
  refine RG.g rfl (fun hp => (PV.field rfl Fo53_0 rfl)) ?_
  refine RG.g rfl (fun hp => (PV.load1 rfl Sc2 (gs_t hp) (Rd.blk rfl))) ?_
  refine RG.gsC rfl rfl rfl rfl En91 (fun hp => ⟨_, (acons (gs_t hp) anil), l16Paired_s ⟨rfl, rfl, rfl⟩⟩) ?_
  refine RG.g rfl (fun hp => (PV.not rfl (gs_t hp))) ?_
  refine RG.g rfl (fun hp => (PV.mvB (.inl rfl) (gs_t hp))) ?_
  refine RG.gs2 rfl rfl rfl (fun hp => (PV.field rfl Fo53_2 rfl)) (RG.gs2 rfl rfl rfl (fun hp => (PV.load1 rfl Sc2 (gs_t hp) (Rd.blk rfl))) (RG.gs2 rfl rfl rfl (fun hp => (PV.neq rfl (gs_t hp) rfl)) ?_))
  refine RG.g rfl (fun hp => (PV.pickA rfl (gs_t hp) (fun hq => gs_t (gandT hp hq)) rfl)) ?_
  refine RG.p (PV.pickO rfl rfl rfl (fun hq => gs_t (geqF hq))) (RG.nil ?_)
  refine WP.cond rfl (fun h2 => ?_) (fun h2 => ?_)
  ·rw [okOther_false h2, Bool.false_and] at k
   refine WP.sr (RG.br rfl (RG.nil ?_))
   exact WP.ret ⟨_, _, ResV.one rfl rfl, Cv.p, k⟩
  ·rw [okOther_true h2, Bool.true_and] at k
   refine WP.skip (WP.seq (WP.sr (RG.p (PV.field rfl Fo53_0 rfl) (RG.p (PV.load1 rfl Sc2 rfl (Rd.blk rfl)) (RG.p (PV.eql rfl rfl rfl) (RG.nil ?_))))))
   refine WP.cond rfl (fun h3 => ?_) (fun h3 => ?_)
   ·have h3 := of_decide_eq_true h3
    rw [okPct, if_pos h3] at k
    refine WP.sr (RG.p (PV.field rfl Fo53_4 rfl) (RG.p (PV.load1 rfl Sc2 rfl (Rd.blk rfl)) ?_))
    refine RG.callF (vs := [_, _, _]) rfl rfl En89 rfl (l16In_s ?_)
    refine RG.br rfl (RG.nil ?_)
    exact WP.ret ⟨_, _, ResV.one rfl rfl, Cv.p, k⟩
   ·have h3 := of_decide_eq_false h3
    rw [okPct, if_neg h3] at k
    refine WP.skip (WP.sr (RG.p (PV.field rfl Fo53_4 rfl) (RG.p (PV.load1 rfl Sc2 rfl (Rd.blk rfl)) (RG.p (PV.eql rfl rfl rfl) (RG.br rfl (RG.nil ?_))))))
    exact WP.ret ⟨_, _, ResV.one rfl rfl, Cv.p, k⟩
theorem validRule_i {r : Rule} (k : R (.bool (validRule r)) G L) : CallT Tryz.prog 52 #[vrule r] G L R := by
 refine CallT.enter (args := _) Tryz.func52 rfl rfl (by kernel_rfl) rfl ?_
 refine WP.sr ?_
 refine RG.ot rfl (OT.box (cs := ruleT.enc r) rfl rfl rfl fun b1 => ?_)
 refine RG.br rfl (RG.nil (WP.seq (WP.sr (RG.p (PV.field rfl Fo53_0 rfl) (RG.p (PV.load1 rfl Sc2 rfl (Rd.blk rfl)) ?_)))))
 refine RG.callF (vs := [_, _, _]) rfl rfl En100 rfl (within_s ?_)
 refine RG.p (PV.not rfl rfl) (RG.bl rfl ?_)
 refine RG.g rfl (fun hp => (PV.field rfl Fo53_1 rfl)) ?_
 refine RG.g rfl (fun hp => (PV.load1 rfl Sc2 (gs_t hp) (Rd.blk rfl))) ?_
 refine RG.gsC rfl rfl rfl rfl En100 (fun hp => ⟨_, (acons (gs_t hp) (acons rfl (acons rfl anil))), within_s ⟨rfl, rfl, rfl⟩⟩) ?_
 refine RG.g rfl (fun hp => (PV.not rfl (gs_t hp))) ?_
 refine RG.p (PV.pickO rfl rfl rfl (fun hq => gs_t (geqF hq))) (RG.nil ?_)
 refine WP.cond rfl (fun h1 => ?_) (fun h1 => ?_)
 ·have e : validRule r = false := by
   unfold validRule; revert h1
   cases within r.kind 0 5 <;> cases within r.layer 0 7 <;> simp
  rw [e] at k
  refine WP.sr (RG.br rfl (RG.nil ?_))
  exact WP.ret ⟨_, _, ResV.one rfl rfl, Cv.p, k⟩
 ·have e : validRule r = (okOther r && (okVal r && okPct r)) := by
   unfold validRule; revert h1
   cases within r.kind 0 5 <;> cases within r.layer 0 7 <;> simp [Bool.and_assoc]
  rw [e] at k
  refine WP.skip (WP.seq (WP.sr (RG.p (PV.field rfl Fo53_0 rfl) (RG.p (PV.load1 rfl Sc2 rfl (Rd.blk rfl)) ?_))))
  refine RG.callF (vs := [_]) rfl rfl En101 rfl (hasOther_s ?_)
  refine RG.bl rfl ?_
  refine RG.g rfl (fun hp => (PV.field rfl Fo53_2 rfl)) ?_
  refine RG.g rfl (fun hp => (PV.load1 rfl Sc2 (gs_t hp) (Rd.blk rfl))) ?_
  refine RG.gsC rfl rfl rfl rfl En100 (fun hp => ⟨_, (acons (gs_t hp) (acons rfl (acons rfl anil))), within_s ⟨rfl, rfl, rfl⟩⟩) ?_
  refine RG.g rfl (fun hp => (PV.not rfl (gs_t hp))) ?_
  refine RG.g rfl (fun hp => (PV.mvB (.inl rfl) (gs_t hp))) ?_
  refine RG.gs2 rfl rfl rfl (fun hp => (PV.field rfl Fo53_2 rfl)) (RG.gs2 rfl rfl rfl (fun hp => (PV.load1 rfl Sc2 (gs_t hp) (Rd.blk rfl))) (RG.gs2 rfl rfl rfl (fun hp => (PV.field rfl Fo53_1 rfl)) (RG.gs2 rfl rfl rfl (fun hp => (PV.load1 rfl Sc2 (gs_t hp) (Rd.blk rfl))) (RG.gs2 rfl rfl rfl (fun hp => (PV.eql rfl (gs_t hp) (gs_t hp))) ?_))))
  refine RG.g rfl (fun hp => (PV.pickO rfl (gs_t hp) rfl (fun hq => gs_t (gandF hp hq)))) ?_
  refine RG.p (PV.pickA rfl rfl (fun hq => gs_t (geqT hq)) rfl) (RG.bl rfl ?_)
  refine RG.g rfl (fun hp => (PV.field rfl Fo53_0 rfl)) ?_
  refine RG.g rfl (fun hp => (PV.load1 rfl Sc2 (gs_t hp) (Rd.blk rfl))) ?_
  refine RG.gsC rfl rfl rfl rfl En101 (fun hp => ⟨_, (acons (gs_t hp) anil), hasOther_s ⟨rfl, rfl, rfl⟩⟩) ?_
  refine RG.g rfl (fun hp => (PV.not rfl (gs_t hp))) ?_
  refine RG.g rfl (fun hp => (PV.mvB (.inl rfl) (gs_t hp))) ?_
  refine RG.gs2 rfl rfl rfl (fun hp => (PV.field rfl Fo53_2 rfl)) (RG.gs2 rfl rfl rfl (fun hp => (PV.load1 rfl Sc2 (gs_t hp) (Rd.blk rfl))) (RG.gs2 rfl rfl rfl (fun hp => (PV.neq rfl (gs_t hp) rfl)) ?_))
  refine RG.g rfl (fun hp => (PV.pickA rfl (gs_t hp) (fun hq => gs_t (gandT hp hq)) rfl)) ?_
  refine RG.p (PV.pickO rfl rfl rfl (fun hq => gs_t (geqF hq))) (RG.nil ?_)
  refine WP.cond rfl (fun h2 => ?_) (fun h2 => ?_)
  ·rw [okOther_false h2, Bool.false_and] at k
   refine WP.sr (RG.br rfl (RG.nil ?_))
   exact WP.ret ⟨_, _, ResV.one rfl rfl, Cv.p, k⟩
  ·rw [okOther_true h2, Bool.true_and] at k
   refine WP.skip (WP.seq (WP.sr (RG.p (PV.field rfl Fo53_0 rfl) (RG.p (PV.load1 rfl Sc2 rfl (Rd.blk rfl)) (RG.nil (WP.block (WP.sr (RG.p (PV.eql rfl rfl rfl) (RG.br rfl (RG.nil ?_))))))))))
   refine WP.cond rfl (fun h3 => ?_) (fun h3 => ?_)
   ·have h3 := of_decide_eq_true h3
    rw [okVal, if_pos h3, okPct, if_neg (by omega)] at k
    refine WP.sr (RG.p (PV.field rfl Fo53_3 rfl) (RG.p (PV.load1 rfl Sc2 rfl (Rd.blk rfl)) ?_))
    refine RG.callF (vs := [_, _, _]) rfl rfl En100 rfl (within_s ?_)
    refine RG.bl rfl ?_
    refine RG.g rfl (fun hp => (PV.field rfl Fo53_4 rfl)) ?_
    refine RG.g rfl (fun hp => (PV.load1 rfl Sc2 (gs_t hp) (Rd.blk rfl))) ?_
    refine RG.g rfl (fun hp => (PV.eql rfl (gs_t hp) rfl)) ?_
    refine RG.p (PV.pickA rfl rfl (fun hq => gs_t (geqT hq)) rfl) (RG.br rfl (RG.nil ?_))
    exact WP.ret ⟨_, _, ResV.one rfl rfl, Cv.p, k⟩
   ·have h3 := of_decide_eq_false h3
    rw [okVal, if_neg h3] at k
    refine WP.sr (RG.p (PV.eql rfl rfl rfl) (RG.br rfl (RG.nil ?_)))
    refine WP.cond rfl (fun h4 => ?_) (fun h4 => ?_)
    ·have h4 := of_decide_eq_true h4
     rw [if_pos h4, okPct, if_pos h4] at k
     refine WP.sr (RG.p (PV.field rfl Fo53_3 rfl) (RG.p (PV.load1 rfl Sc2 rfl (Rd.blk rfl)) ?_))
     refine RG.callF (vs := [_, _, _]) rfl rfl En100 rfl (within_s ?_)
     refine RG.bl rfl ?_
     refine RG.g rfl (fun hp => (PV.field rfl Fo53_4 rfl)) ?_
     refine RG.g rfl (fun hp => (PV.load1 rfl Sc2 (gs_t hp) (Rd.blk rfl))) ?_
     refine RG.gsC rfl rfl rfl rfl En100 (fun hp => ⟨_, (acons (gs_t hp) (acons rfl (acons rfl anil))), within_s ⟨rfl, rfl, rfl⟩⟩) ?_
     refine RG.p (PV.pickA rfl rfl (fun hq => gs_t (geqT hq)) rfl) (RG.br rfl (RG.nil ?_))
     exact WP.ret ⟨_, _, ResV.one rfl rfl, Cv.p, k⟩
    ·have h4 := of_decide_eq_false h4
     rw [if_neg h4, okPct, if_neg h4] at k
     refine WP.skip (WP.sr (RG.p (PV.field rfl Fo53_3 rfl) (RG.p (PV.load1 rfl Sc2 rfl (Rd.blk rfl)) ?_)))
     refine RG.callF (vs := [_, _, _]) rfl rfl En100 rfl (within_s ?_)
     refine RG.bl rfl ?_
     refine RG.g rfl (fun hp => (PV.field rfl Fo53_4 rfl)) ?_
     refine RG.g rfl (fun hp => (PV.load1 rfl Sc2 (gs_t hp) (Rd.blk rfl))) ?_
     refine RG.g rfl (fun hp => (PV.eql rfl (gs_t hp) rfl)) ?_
     refine RG.p (PV.pickA rfl rfl (fun hq => gs_t (geqT hq)) rfl) (RG.br rfl (RG.nil ?_))
     exact WP.ret ⟨_, _, ResV.one rfl rfl, Cv.p, k⟩
def reach (r : Rule) : Int := bif validRule r && decide (r.kind ≤ 3) then r.value else -1
theorem reach_bd {r : Rule} (h : 0 ≤ reach r) : reach r ≤ 8 := by
 revert h; unfold reach
 cases hv : validRule r <;> cases hk : decide (r.kind ≤ 3) <;> simp
 have hk := of_decide_eq_true hk
 simp only [validRule, Bool.and_eq_true] at hv
 have := hv.1.2
 rw [okVal, if_neg (by omega), if_neg (by omega)] at this
 simp [within] at this; omega
theorem reach_neg (r : Rule) (h : (!validRule r || decide (3 < r.kind)) = true) : reach r = -1 := by
 revert h; unfold reach
 cases hv : validRule r <;> simp
 intro h; rw [decide_eq_false (by omega)]; rfl
theorem reach_pos (r : Rule) (h : (!validRule r || decide (3 < r.kind)) = false) : reach r = r.value := by
 revert h; unfold reach
 cases hv : validRule r <;> simp
 intro h; rw [decide_eq_true h]; rfl
theorem reach_s {r : Rule} (k : R (vi (reach r)) G L) : CallT Tryz.prog 58 #[vrule r] G L R := by
 refine CallT.enter (args := _) Tryz.func58 rfl rfl (by kernel_rfl) rfl ?_
 refine WP.sr ?_
 refine RG.ot rfl (OT.box (cs := ruleT.enc r) rfl rfl rfl fun b1 => ?_)
 refine RG.mr rfl (RG.nil (WP.seq (WP.sr (RG.p (PV.loadW rfl Ag53 rfl rfl) ?_))))
 refine RG.callF (vs := [_]) rfl rfl En49 rfl (validRule_s ?_)
 refine RG.p (PV.not rfl rfl) (RG.bl rfl ?_)
 refine RG.g rfl (fun hp => (PV.field rfl Fo53_0 rfl)) ?_
 refine RG.g rfl (fun hp => (PV.load1 rfl Sc2 (gs_t hp) (Rd.blk rfl))) ?_
 refine RG.g rfl (fun hp => (PV.gtr rfl (gs_t hp) rfl)) ?_
 refine RG.p (PV.pickO rfl rfl rfl (fun hq => gs_t (geqF hq))) (RG.nil ?_)
 refine WP.cond rfl (fun h1 => ?_) (fun h1 => ?_)
 ·rw [reach_neg r h1] at k
  refine WP.sr (RG.mr rfl (RG.nil ?_))
  exact WP.ret ⟨_, _, ResV.one rfl rfl, Cv.p, k⟩
 ·rw [reach_pos r h1] at k
  refine WP.skip (WP.sr (RG.p (PV.field rfl Fo53_3 rfl) (RG.p (PV.load1 rfl Sc2 rfl (Rd.blk rfl)) (RG.mr rfl (RG.nil ?_)))))
  exact WP.ret ⟨_, _, ResV.one rfl rfl, Cv.p, k⟩
theorem reach_i {r : Rule} (k : R (vi (reach r)) G L) : CallT Tryz.prog 53 #[vrule r] G L R := by
 refine CallT.enter (args := _) Tryz.func53 rfl rfl (by kernel_rfl) rfl ?_
 refine WP.sr ?_
 refine RG.ot rfl (OT.box (cs := ruleT.enc r) rfl rfl rfl fun b1 => ?_)
 refine RG.mr rfl (RG.nil (WP.seq (WP.sr (RG.p (PV.loadW rfl Ag53 rfl rfl) ?_))))
 refine RG.callF (vs := [_]) rfl rfl En52 rfl (validRule_i ?_)
 refine RG.p (PV.not rfl rfl) (RG.bl rfl ?_)
 refine RG.g rfl (fun hp => (PV.field rfl Fo53_0 rfl)) ?_
 refine RG.g rfl (fun hp => (PV.load1 rfl Sc2 (gs_t hp) (Rd.blk rfl))) ?_
 refine RG.g rfl (fun hp => (PV.gtr rfl (gs_t hp) rfl)) ?_
 refine RG.p (PV.pickO rfl rfl rfl (fun hq => gs_t (geqF hq))) (RG.nil ?_)
 refine WP.cond rfl (fun h1 => ?_) (fun h1 => ?_)
 ·rw [reach_neg r h1] at k
  refine WP.sr (RG.mr rfl (RG.nil ?_))
  exact WP.ret ⟨_, _, ResV.one rfl rfl, Cv.p, k⟩
 ·rw [reach_pos r h1] at k
  refine WP.skip (WP.sr (RG.p (PV.field rfl Fo53_3 rfl) (RG.p (PV.load1 rfl Sc2 rfl (Rd.blk rfl)) (RG.mr rfl (RG.nil ?_)))))
  exact WP.ret ⟨_, _, ResV.one rfl rfl, Cv.p, k⟩
theorem toRule_s {r : Rule} (k : R (vrule r) G L) : CallT Tryz.prog 21 #[vrule r] G L R := by
 refine CallT.enter (args := _) Tryz.func21 rfl rfl (by kernel_rfl) rfl ?_
 refine WP.sr ?_
 refine RG.ot rfl (OT.box (cs := ruleT.enc r) rfl rfl rfl fun b1 => ?_)
 refine RG.ot rfl (OT.alloc rfl Zr53 fun b2 => ?_)
 refine RG.nil (WP.sr ?_)
 refine RG.ot rfl (OT.alloc rfl Zr53 fun b3 => ?_)
 refine RG.nil (WP.sr (RG.p (PV.field rfl Fo49_0 rfl) (RG.p (PV.load1 rfl Sc2 rfl (Rd.blk rfl)) (RG.p (PV.field rfl Fo53_0 rfl) ?_))))
 refine RG.ot rfl (OT.storeB (vs := [vi _]) (cs' := [_, _, _, _, _]) rfl Sz2 rfl rfl (Cl.c rfl) rfl (OneC.c rfl) rfl rfl ?_)
 refine RG.nil (WP.sr (RG.p (PV.field rfl Fo49_1 rfl) (RG.p (PV.load1 rfl Sc2 rfl (Rd.blk rfl)) (RG.p (PV.field rfl Fo53_1 rfl) ?_))))
 refine RG.ot rfl (OT.storeB (vs := [vi _]) (cs' := [_, _, _, _, _]) rfl Sz2 rfl rfl (Cl.c rfl) rfl (OneC.c rfl) rfl rfl ?_)
 refine RG.nil (WP.sr (RG.p (PV.field rfl Fo49_2 rfl) (RG.p (PV.load1 rfl Sc2 rfl (Rd.blk rfl)) (RG.p (PV.field rfl Fo53_2 rfl) ?_))))
 refine RG.ot rfl (OT.storeB (vs := [vi _]) (cs' := [_, _, _, _, _]) rfl Sz2 rfl rfl (Cl.c rfl) rfl (OneC.c rfl) rfl rfl ?_)
 refine RG.nil (WP.sr (RG.p (PV.field rfl Fo49_3 rfl) (RG.p (PV.load1 rfl Sc2 rfl (Rd.blk rfl)) (RG.p (PV.field rfl Fo53_3 rfl) ?_))))
 refine RG.ot rfl (OT.storeB (vs := [vi _]) (cs' := [_, _, _, _, _]) rfl Sz2 rfl rfl (Cl.c rfl) rfl (OneC.c rfl) rfl rfl ?_)
 refine RG.nil (WP.sr (RG.p (PV.field rfl Fo49_4 rfl) (RG.p (PV.load1 rfl Sc2 rfl (Rd.blk rfl)) (RG.p (PV.field rfl Fo53_4 rfl) ?_))))
 refine RG.ot rfl (OT.storeB (vs := [vi _]) (cs' := [_, _, _, _, _]) rfl Sz2 rfl rfl (Cl.c rfl) rfl (OneC.c rfl) rfl rfl ?_)
 refine RG.nil (WP.sr (RG.p (PV.loadW rfl Ag53 rfl rfl) ?_))
 refine RG.ot rfl (OT.storeW (vs := [vi _, vi _, vi _, vi _, vi _]) rfl Sz53 rfl rfl (Cl.c rfl) rfl rfl (OneC.c rfl) ?_)
 refine RG.nil ?_
 exact WP.ret ⟨_, _, ResV.one rfl (RV1.cell rfl Ag53 rfl), Cv.p, k⟩
theorem grown_s {v : Value} {xs : List Rect} {q : Int} (h1 : Rs G L rectT v xs) (hr : ∀ r ∈ xs, -40 ≤ r.x0 ∧ r.x0 < r.x1 ∧ r.x1 ≤ 40 ∧ -40 ≤ r.y0 ∧ r.y0 < r.y1 ∧ r.y1 ≤ 40) (hq : 0 ≤ q ∧ q ≤ 100) (k : ∀ b, R (.pointer (some ⟨b, 0, none⟩)) G (grd b (growB (bits xs) q) :: L)) : CallT Tryz.prog 274 #[v, vi q] G L R := by
 refine CallT.bd h1 fun hb => ?_
 refine CallT.enter (args := _) Tryz.func274 rfl rfl (by kernel_rfl) rfl ?_
 refine WP.sr (RG.p (PV.asg rfl rfl) (RG.nil (WP.sr (RG.p (PV.build0 rfl Tryz.underlying179 ⟨80, by kernel_rfl⟩ (zeroB_spec (n := 6400) (by kernel_rfl))) ?_))))
 refine RG.ot rfl (OT.boxG rfl rfl fun b9 => ?_)
 refine RG.p (PV.mvP (.inr rfl) rfl) (RG.nil (WP.seq (WP.sr (RG.p (PV.move (v := v) rfl rfl) (RG.p (PV.len (v := v) rfl Tryz.underlying50 rfl (SlF.r h1)) (RG.ml rfl (RG.nil (WP.block ?_))))))))
 refine WP.loop2 [1, 5, 10, 11] (fun (i : Nat) (cs : List Bool) => i ≤ xs.length ∧ cs.length = 6400 ∧ ∀ y x, y < 80 → x < 80 → gb cs y x = (xs.take i).any fun r => inR (enl q r) y x) (fun (i : Nat) (cs : List Bool) => [(12, vi i)]) (fun (i : Nat) (cs : List Bool) => grd b9 cs :: L) (fun (i : Nat) (cs : List Bool) => xs.length - i) 0 (List.replicate 6400 false) ⟨by omega, by simp, fun y x _ _ => by rw [gb_rep]; simp⟩ ⟨rfl, trivial⟩ Cv.p ?_
 rintro i cs τ ⟨hi, hl, hc⟩
 refine WP.sr (RG.p (PV.lss rfl rfl rfl) (RG.nil (WP.seq ?_)))
 refine WP.cond rfl (fun h2 => ?_) (fun h2 => ?_)
 ·have h2 := of_decide_eq_true h2
  have h3 := hr (gd xs i) (by rw [gd_eq (by omega)]; exact List.getElem_mem _)
  refine WP.skip (WP.seq (WP.block (WP.sr (RG.p (PV.idxS (v := v) rfl Is50 rfl (SlF.r h1) rfl rfl (by omega)) (RG.p (PV.loadE rfl Ag91 rfl rfl (El.r h1 (getG (by omega)))) ?_)))))
  refine RG.ot rfl (OT.alloc rfl Zr91 fun b7 => ?_)
  refine RG.ot rfl (OT.storeW (vs := [vi _, vi _, vi _, vi _]) rfl Sz91 rfl rfl (Cl.c rfl) rfl rfl (OneC.c rfl) ?_)
  refine RG.nil (WP.region (RG.p (PV.mvP (.inl rfl) rfl) (RG.p (PV.field rfl Fo91_0 rfl) (RG.p (PV.load1 rfl Sc2 rfl (Rd.blk rfl)) (RG.ml rfl (RG.p (PV.sub rfl rfl rfl (by omega)) (RG.p (PV.field rfl Fo91_1 rfl) (RG.p (PV.load1 rfl Sc2 rfl (Rd.blk rfl)) (RG.ml rfl (RG.p (PV.sub rfl rfl rfl (by omega)) (RG.p (PV.field rfl Fo91_2 rfl) (RG.p (PV.load1 rfl Sc2 rfl (Rd.blk rfl)) (RG.ml rfl ?_)))))))))))))
  refine RG.p (PV.add rfl rfl rfl (by omega)) (RG.p (PV.field rfl Fo91_3 rfl) (RG.p (PV.load1 rfl Sc2 rfl (Rd.blk rfl)) (RG.ml rfl (RG.p (PV.add rfl rfl rfl (by omega)) (RG.p (PV.build (vs := [(0, [vi _]), (1, [vi _]), (2, [vi _]), (3, [vi _])]) (out := [_, _, _, _]) rfl Zr91 Pl91 ⟨rfl, (Cl.c rfl), ⟨rfl, (Cl.c rfl), ⟨rfl, (Cl.c rfl), ⟨rfl, (Cl.c rfl), trivial⟩⟩⟩⟩ rfl) ?_)))))
  refine RG.callF (vs := [(.pointer (some ⟨b9, 0, none⟩)), _]) rfl rfl En131 rfl (CallT.exB (put_s (r := ⟨_, _, _, _⟩) (by assumption) (fun bs' hb' hg' => ?_)))
  refine RG.nil (WP.region (RG.p (PV.add rfl rfl rfl (by omega)) (RG.ml rfl (RG.nil ?_))))
  refine ⟨rfl, i + 1, bs', ⟨by omega, hb', fun y x h5 h6 => ?_⟩, ⟨rfl, trivial⟩, ⟨rfl, rfl, rfl, rfl, trivial⟩, Cv.p, by omega⟩
  rw [hg' y x h5 h6, hc y x h5 h6, List.take_add_one, getG (by omega), List.any_append]; simp [enl]
 ·have h2 := of_decide_eq_false h2
  have e : cs = growB (bits xs) q := gb_ext hl (growB_len _ _) fun y x h5 h6 => by
   rw [hc y x h5 h6, List.take_of_length_le (by omega)]; exact grow_enl hq.1 hr h5 h6
  subst e
  refine WP.exit ?_
  refine WP.sr (RG.p (PV.mvP (.inl rfl) rfl) (RG.p (PV.mvP (.inr rfl) rfl) (RG.nil ?_)))
  exact WP.ret ⟨_, _, ResV.one rfl rfl, Cv.p, k b9⟩
theorem grow_s {v : Value} {xs : List Rect} {q : Int} (h1 : Rs G L rectT v xs) (hr : ∀ r ∈ xs, -40 ≤ r.x0 ∧ r.x0 < r.x1 ∧ r.x1 ≤ 40 ∧ -40 ≤ r.y0 ∧ r.y0 < r.y1 ∧ r.y1 ≤ 40) (hq : 0 ≤ q ∧ q ≤ 100) (k : ∀ v', R v' G (osl 91 rectT v' (canon (growB (bits xs) q)) :: L)) : CallT Tryz.prog 245 #[v, vi q] G L R := by
 refine CallT.enter (args := _) Tryz.func245 rfl rfl (by kernel_rfl) rfl ?_
 refine WP.sr (RG.p (PV.asg rfl rfl) (RG.nil (WP.sr (RG.p (PV.move (v := v) rfl rfl) (RG.ml rfl ?_)))))
 refine RG.callF (vs := [v, _]) rfl rfl En274 rfl (grown_s (Rs.up h1) hr hq (fun b7 => ?_))
 refine RG.callF (vs := [_]) rfl rfl En132 rfl (CallT.exB (region_s (growB_len _ _) (fun v8 => ?_)))
 refine RG.p (PV.asg (v := v8) rfl rfl) (RG.nil ?_)
 exact WP.ret ⟨_, _, ResV.one rfl rfl, Cv.p, k v8⟩
end Go.Proofs.YtgphjofccckloaaGreat
namespace Go.Proofs.YtgphjofccckloaaGreat
open Go
set_option maxRecDepth 20000
set_option maxHeartbeats 2000000
variable {G : Gh} {L : List Ch} {R : Value → Gh → List Ch → Prop}
theorem bits_app {xs ys : List Rect} {y x : Nat} (hy : y < 80) (hx : x < 80) : gb (bits (xs ++ ys)) y x = (gb (bits xs) y x || gb (bits ys) y x) := by rw [gb_bits' _ hy hx, gb_bits' _ hy hx, gb_bits' _ hy hx, List.any_append]
theorem RsE.two {a b : Sl Rect} (ha : Rs G L rectT a.v a.xs) (hb : Rs G L rectT b.v b.xs) : RsE G L rectT [a, b] := fun i hi => by
 rcases Nat.lt_or_ge i 1 with h | h
 ·obtain rfl : i = 0 := by omega
  rw [show gd [a, b] 0 = a by simp [gd]]; exact ha
 ·obtain rfl : i = 1 := by simp at hi; omega
  rw [show gd [a, b] 1 = b by simp [gd]]; exact hb
theorem markBetween_i {u v : Value} {xs ys : List Rect} {w : Int} (h1 : Rs G L rectT u xs) (h2 : Rs G L rectT v ys) (k : ∀ v', R v' G (osl 91 rectT v' (betwL xs ys w) :: L)) : CallT Tryz.prog 104 #[u, v, vi w] G L R := by
 refine CallT.enter (args := _) Tryz.func104 rfl rfl (by kernel_rfl) rfl ?_
 refine WP.sr (RG.p (PV.asg rfl rfl) (RG.nil (WP.seq (WP.sr (RG.p (PV.move (v := u) rfl rfl) (RG.ml rfl ?_))))))
 refine RG.callF (vs := [u, _]) rfl rfl En180 rfl (checkable_i (Rs.up h1) ?_)
 refine RG.p (PV.not rfl rfl) (RG.bl rfl ?_)
 refine RG.g rfl (fun hp => (PV.move (v := v) rfl rfl)) ?_
 refine RG.gsC rfl rfl rfl rfl En130 (fun hp => ⟨_, (acons (gs_t hp) anil), isRegion_s (Rs.up h2) ⟨rfl, rfl, rfl⟩⟩) ?_
 refine RG.g rfl (fun hp => (PV.not rfl (gs_t hp))) ?_
 refine RG.p (PV.pickO rfl rfl rfl (fun hq => gs_t (geqF hq))) (RG.nil ?_)
 refine WP.cond rfl (fun h3 => ?_) (fun h3 => ?_)
 ·have e : betwL xs ys w = [] := by rw [betwL, if_neg]; intro h4; cases g1 : isReg xs <;> cases g2 : isReg ys <;> cases g3 : okDist w <;> simp_all
  rw [e] at k
  refine WP.sr (RG.p (PV.asg rfl rfl) (RG.nil ?_))
  exact WP.ret ⟨_, _, ResV.one rfl rfl, Cv.nilS, k _⟩
 ·have h4 : isReg xs = true ∧ isReg ys = true ∧ okDist w = true := by cases g1 : isReg xs <;> cases g2 : isReg ys <;> cases g3 : okDist w <;> simp_all
  refine WP.skip (WP.sr (RG.p (PV.move (v := u) rfl rfl) (RG.p (PV.move (v := v) rfl rfl) ?_)))
  refine RG.callF (vs := [u, v]) rfl rfl En185 rfl (gapsBetween_i (Rs.up h1) (Rs.up h2) (fun v18 outv18 houtv18 => have hlnv18 := houtv18.len; ?_))
  refine RG.ml rfl ?_
  refine RG.callF (vs := [v18, _]) rfl rfl En181 rfl (shorter_i Rs.o (gapsA_valid houtv18) (by omega) (fun v20 Ev20 hEv20 hgv20 => ?_))
  refine RG.p (PV.move (v := u) rfl rfl) (RG.p (PV.move (v := v) rfl rfl) ?_)
  refine RG.callF (vs := [u, v]) rfl rfl En186 rfl (inter_s (Rs.up h1) (Rs.up h2) (fun v23 => ?_))
  refine RG.ot rfl (OT.bslice (F := (slT (α := Rect))) (els := [⟨v20, canon Ev20⟩, ⟨v23, opR (fun p q => p && q) xs ys⟩]) rfl El71 rfl (by decide) rfl (by decide) ⟨rfl, (Cl.s (v := v20) SlF.o), ⟨rfl, (Cl.s (v := v23) SlF.o), trivial⟩⟩ fun v24 => ?_)
  refine RG.callF (vs := [v24]) rfl rfl En184 rfl (unionAll_s (xs := [⟨v20, canon Ev20⟩, ⟨v23, opR (fun p q => p && q) xs ys⟩]) Rs.o (RsE.two Rs.o Rs.o) (fun v25 => ?_))
  refine RG.p (PV.asg (v := v25) rfl rfl) (RG.nil ?_)
  refine WP.ret ?_
  have e : betwL xs ys w = canon (bits (er [(⟨v20, canon Ev20⟩ : Sl Rect), ⟨v23, opR (fun p q => p && q) xs ys⟩]).flatten) := by
   have hz : opR (fun p q => p && q) xs ys = canon (zipB (fun p q => p && q) (bits xs) (bits ys)) := by simp [opR, h4.1, h4.2.1]
   have hzl := zipB_len (f := fun p q => p && q) (bits_length xs) (bits_length ys)
   rw [betwL, if_pos (by rw [h4.1, h4.2.1, h4.2.2]; rfl)]
   refine congrArg canon (celL_eq (bits_length _) fun y x hy hx => ?_).symm
   rw [show (er [(⟨v20, canon Ev20⟩ : Sl Rect), ⟨v23, opR (fun p q => p && q) xs ys⟩]).flatten = canon Ev20 ++ opR (fun p q => p && q) xs ys by simp [er], bits_app hy hx, bits_canon hEv20, hz, bits_canon hzl, Bool.or_eq_true, hgv20 y x hy hx, near_iff houtv18, gb, zipB_gd (by rw [bits_length]; omega) (by rw [bits_length]; omega), Bool.and_eq_true]
   rfl
  rw [e] at k
  exact ⟨_, _, ResV.one rfl rfl, Cv.p, k v25⟩
theorem markEncl0_i {u v : Value} {xs ys : List Rect} {w : Int} (h1 : Rs G L rectT u xs) (h2 : Rs G L rectT v ys) (hreg : isReg xs = true) (hregy : isReg ys = true) (hw : 0 ≤ w ∧ w ≤ 8) (k : ∀ v', R v' G (osl 91 rectT v' (enclL xs ys w) :: L)) : CallT Tryz.prog 187 #[u, v, vi w] G L R := by
 have e : enclL xs ys w = opR (fun p q => p && !q) (canon (growB (bits xs) w)) ys := by
  rw [enclL, if_pos (by simp [hreg, hregy, within, hw.1, hw.2]), opR, isReg_canon (growB_len _ _), hregy, bits_canon (growB_len _ _)]; rfl
 rw [e] at k
 refine CallT.enter (args := _) Tryz.func187 rfl rfl (by kernel_rfl) rfl ?_
 refine WP.sr (RG.p (PV.asg rfl rfl) (RG.nil (WP.sr (RG.p (PV.move (v := u) rfl rfl) (RG.ml rfl ?_)))))
 refine RG.callF (vs := [u, _]) rfl rfl En245 rfl (grow_s (Rs.up h1) (fun r hr => by have := validR_iff.1 (valid_mem (isReg_valid hreg) hr); omega) (by omega) (fun v9 => ?_))
 refine RG.p (PV.move (v := v) rfl rfl) ?_
 refine RG.callF (vs := [v9, v]) rfl rfl En192 rfl (diff_s Rs.o (Rs.up h2) (fun v11 => ?_))
 refine RG.p (PV.asg (v := v11) rfl rfl) (RG.nil ?_)
 exact WP.ret ⟨_, _, ResV.one rfl rfl, Cv.p, k v11⟩
theorem markEncl_i {u v : Value} {xs ys : List Rect} {w : Int} (h1 : Rs G L rectT u xs) (h2 : Rs G L rectT v ys) (k : ∀ v', R v' G (osl 91 rectT v' (enclL xs ys w) :: L)) : CallT Tryz.prog 105 #[u, v, vi w] G L R := by
 refine CallT.enter (args := _) Tryz.func105 rfl rfl (by kernel_rfl) rfl ?_
 refine WP.sr (RG.p (PV.asg rfl rfl) (RG.nil (WP.seq (WP.sr (RG.p (PV.move (v := u) rfl rfl) ?_)))))
 refine RG.callF (vs := [u]) rfl rfl En130 rfl (isRegion_s (Rs.up h1) ?_)
 refine RG.p (PV.not rfl rfl) (RG.bl rfl ?_)
 refine RG.g rfl (fun hp => (PV.move (v := v) rfl rfl)) ?_
 refine RG.gsC rfl rfl rfl rfl En130 (fun hp => ⟨_, (acons (gs_t hp) anil), isRegion_s (Rs.up h2) ⟨rfl, rfl, rfl⟩⟩) ?_
 refine RG.g rfl (fun hp => (PV.not rfl (gs_t hp))) ?_
 refine RG.p (PV.pickO rfl rfl rfl (fun hq => gs_t (geqF hq))) (RG.bl rfl ?_)
 refine RG.g rfl (fun hp => (PV.mvI (.inl rfl) rfl)) ?_
 refine RG.gsC rfl rfl rfl rfl En100 (fun hp => ⟨_, (acons (gs_t hp) (acons rfl (acons rfl anil))), within_s ⟨rfl, rfl, rfl⟩⟩) ?_
 refine RG.g rfl (fun hp => (PV.not rfl (gs_t hp))) ?_
 refine RG.p (PV.pickO rfl rfl rfl (fun hq => gs_t (geqF hq))) (RG.nil ?_)
 refine WP.cond rfl (fun h3 => ?_) (fun h3 => ?_)
 ·have e : enclL xs ys w = [] := by rw [enclL, if_neg]; intro h4; cases g1 : isReg xs <;> cases g2 : isReg ys <;> cases g3 : within w 0 8 <;> simp_all
  rw [e] at k
  refine WP.sr (RG.p (PV.asg rfl rfl) (RG.nil ?_))
  exact WP.ret ⟨_, _, ResV.one rfl rfl, Cv.nilS, k _⟩
 ·have h4 : isReg xs = true ∧ isReg ys = true ∧ 0 ≤ w ∧ w ≤ 8 := by cases g1 : isReg xs <;> cases g2 : isReg ys <;> simp_all [within]
  refine WP.skip (WP.sr (RG.p (PV.move (v := u) rfl rfl) (RG.p (PV.move (v := v) rfl rfl) (RG.ml rfl ?_))))
  refine RG.callF (vs := [u, v, _]) rfl rfl En187 rfl (markEncl0_i (Rs.up h1) (Rs.up h2) h4.1 h4.2.1 h4.2.2 (fun v23 => ?_))
  refine RG.p (PV.asg (v := v23) rfl rfl) (RG.nil ?_)
  exact WP.ret ⟨_, _, ResV.one rfl rfl, Cv.p, k v23⟩
end Go.Proofs.YtgphjofccckloaaGreat
namespace Go.Proofs.YtgphjofccckloaaGreat
open Go
set_option maxRecDepth 20000
variable {G : Gh} {L : List Ch} {R : Value → Gh → List Ch → Prop}
theorem windows_i {w : Int} (k : ∀ v', R v' G (osl 91 rectT v' (windL w) :: L)) : CallT Tryz.prog 189 #[vi w] G L R := by
 refine CallT.enter (args := _) Tryz.func189 rfl rfl (by kernel_rfl) rfl ?_
 refine WP.sr (RG.p (PV.asg rfl rfl) (RG.nil (WP.seq (WP.sr (RG.ml rfl ?_)))))
 refine RG.callF (vs := [_, _, _]) rfl rfl En100 rfl (within_s ?_)
 refine RG.p (PV.not rfl rfl) (RG.nil ?_)
 refine WP.cond rfl (fun h2 => ?_) (fun h2 => ?_)
 ·have e : windL w = [] := by rw [windL, if_neg]; intro h3; rw [h3] at h2; simp at h2
  rw [e] at k
  refine WP.sr (RG.p (PV.asg rfl rfl) (RG.nil ?_))
  exact WP.ret ⟨_, _, ResV.one rfl rfl, Cv.nilS, k _⟩
 ·have h20 : within w 4 40 = true := by simpa using h2
  have h3 : 4 ≤ w ∧ w ≤ 40 := by simpa [within] using h20
  have hwl := (winY_facts (w := w) (by omega) (-40) (by omega)).1
  have e : windL w = winY w (-40) := by rw [windL, if_pos h20]
  rw [e] at k
  refine WP.skip (WP.sr ?_)
  refine RG.ot rfl (OT.bslice (F := rectT) (els := []) rfl El50 rfl (by decide) rfl (by decide) trivial fun v9 => ?_)
  refine RG.p (PV.asg (v := v9) rfl rfl) (RG.nil (WP.seq (WP.sr (RG.mr rfl (RG.nil (WP.block ?_))))))
  refine WP.loop3 [0] (fun (y : Int) (zs : List Rect) (q : Value) => (-40 ≤ y ∧ y ≤ 80) ∧ zs ++ winY w y = winY w (-40)) (fun (y : Int) (zs : List Rect) (q : Value) => [(4, vi y), (3, q)]) (fun (y : Int) (zs : List Rect) (q : Value) => osl 91 rectT q zs :: L) (fun (y : Int) (zs : List Rect) (q : Value) => (80 - y).toNat) (-40) [] v9 ⟨by omega, rfl⟩ ⟨rfl, rfl, trivial⟩ Cv.p ?_
  rintro y zs q τ ⟨hy, hz⟩
  refine WP.seq (WP.sr (RG.ml rfl (RG.p (PV.lss rfl rfl rfl) (RG.nil ?_))))
  refine WP.cond rfl (fun h4 => ?_) (fun h4 => ?_)
  ·have h4 := of_decide_eq_true h4
   rw [winY_on (by omega) h4] at hz
   refine WP.skip (WP.seq (WP.block (WP.sr (RG.mr rfl (RG.nil (WP.block ?_))))))
   refine WP.loop3 [0, 4] (fun (x : Int) (zs2 : List Rect) (q2 : Value) => (-40 ≤ x ∧ x ≤ 80) ∧ zs2 ++ (winX w y x ++ winY w (y + w)) = winY w (-40)) (fun (x : Int) (zs2 : List Rect) (q2 : Value) => [(5, vi x), (3, q2)]) (fun (x : Int) (zs2 : List Rect) (q2 : Value) => osl 91 rectT q2 zs2 :: L) (fun (x : Int) (zs2 : List Rect) (q2 : Value) => (80 - x).toNat) (-40) zs q ⟨by omega, hz⟩ ⟨rfl, rfl, trivial⟩ Cv.p ?_
   rintro x zs2 q2 τ1 ⟨hx, hz2⟩
   refine WP.seq (WP.sr (RG.ml rfl (RG.p (PV.lss rfl rfl rfl) (RG.nil ?_))))
   have hz2l := congrArg List.length hz2
   rw [List.length_append] at hz2l
   refine WP.cond rfl (fun h5 => ?_) (fun h5 => ?_)
   ·have h5 := of_decide_eq_true h5
    rw [winX_on (by omega) h5] at hz2
    refine WP.skip (WP.seq (WP.block (WP.region (RG.p (PV.move (v := q2) rfl rfl) (RG.ml rfl (RG.ml rfl (RG.ml rfl (RG.ml rfl (RG.p (PV.add rfl rfl rfl (by omega)) (RG.p (PV.min2 rfl rfl rfl) (RG.ml rfl (RG.ml rfl (RG.p (PV.add rfl rfl rfl (by omega)) ?_)))))))))))))
    refine RG.p (PV.min2 rfl rfl rfl) (RG.p (PV.build (vs := [(0, [vi _]), (1, [vi _]), (2, [vi _]), (3, [vi _])]) (out := [_, _, _, _]) rfl Zr91 Pl91 ⟨rfl, (Cl.c rfl), ⟨rfl, (Cl.c rfl), ⟨rfl, (Cl.c rfl), ⟨rfl, (Cl.c rfl), trivial⟩⟩⟩⟩ rfl) ?_)
    refine RG.ot rfl (OT.bslice (F := rectT) (els := [⟨_, _, _, _⟩]) rfl El50 rfl (by decide) rfl (by decide) ⟨rfl, (Cl.c rfl), trivial⟩ fun v32 => ?_)
    refine RG.ot rfl (OT.append (v := q2) (u := v32) (F := rectT) rfl El50 rfl (by decide) rfl rfl Rs.o (OneL.c (fun _ => rfl)) rfl (by first | omega | (simp <;> omega)) fun v33 => ?_)
    refine RG.p (PV.asg (v := v33) rfl rfl) (RG.nil (WP.region (RG.ml rfl (RG.ml rfl (RG.p (PV.add rfl rfl rfl (by omega)) (RG.mr rfl (RG.nil ?_)))))))
    exact ⟨rfl, x + w, (zs2 ++ [⟨x, y, min (x + w) 40, min (y + w) 40⟩]), v33, ⟨by omega, by rw [← hz2]; simp [winR]⟩, ⟨rfl, rfl, trivial⟩, ⟨rfl, rfl, trivial⟩, Cv.p, by omega⟩
   ·have h5 := of_decide_eq_false h5
    rw [winX_off h5, List.nil_append] at hz2
    refine WP.exit ?_
    refine WP.region (RG.ml rfl (RG.ml rfl (RG.p (PV.add rfl rfl rfl (by omega)) (RG.mr rfl (RG.nil ?_)))))
    exact ⟨rfl, y + w, zs2, q2, ⟨by omega, hz2⟩, ⟨rfl, rfl, trivial⟩, ⟨rfl, trivial⟩, Cv.p, by omega⟩
  ·have h4 := of_decide_eq_false h4
   rw [winY_off h4, List.append_nil] at hz
   rw [hz]
   refine WP.exit ?_
   refine WP.sr (RG.p (PV.move (v := q) rfl rfl) (RG.p (PV.asg (v := q) rfl rfl) (RG.nil ?_)))
   exact WP.ret ⟨_, _, ResV.one rfl rfl, Cv.p, k q⟩
theorem covd_i {v : Value} {xs : List Rect} {r : Rect} (h1 : Rs G L rectT v xs) (hreg : isReg xs = true) (hr : validRect r = true) (k : R (vi (covB (bits xs) r)) G L) : CallT Tryz.prog 190 #[v, vrect r] G L R :=
 covered_s h1 (isReg_len hreg) (by rw [cov_eq hreg hr]; exact k)
theorem markDens_i {v : Value} {xs : List Rect} {w p : Int} (h1 : Rs G L rectT v xs) (k : ∀ v', R v' G (osl 91 rectT v' (densL xs w p) :: L)) : CallT Tryz.prog 107 #[v, vi w, vi p] G L R := by
 refine CallT.enter (args := _) Tryz.func107 rfl rfl (by kernel_rfl) rfl ?_
 refine WP.sr (RG.p (PV.asg rfl rfl) (RG.nil (WP.seq (WP.sr (RG.p (PV.move (v := v) rfl rfl) ?_)))))
 refine RG.callF (vs := [v]) rfl rfl En130 rfl (isRegion_s (Rs.up h1) ?_)
 refine RG.p (PV.not rfl rfl) (RG.bl rfl ?_)
 refine RG.g rfl (fun hp => (PV.mvI (.inl rfl) rfl)) ?_
 refine RG.gsC rfl rfl rfl rfl En100 (fun hp => ⟨_, (acons (gs_t hp) (acons rfl (acons rfl anil))), within_s ⟨rfl, rfl, rfl⟩⟩) ?_
 refine RG.g rfl (fun hp => (PV.not rfl (gs_t hp))) ?_
 refine RG.p (PV.pickO rfl rfl rfl (fun hq => gs_t (geqF hq))) (RG.bl rfl ?_)
 refine RG.g rfl (fun hp => (PV.mvI (.inl rfl) rfl)) ?_
 refine RG.gsC rfl rfl rfl rfl En100 (fun hp => ⟨_, (acons (gs_t hp) (acons rfl (acons rfl anil))), within_s ⟨rfl, rfl, rfl⟩⟩) ?_
 refine RG.g rfl (fun hp => (PV.not rfl (gs_t hp))) ?_
 refine RG.p (PV.pickO rfl rfl rfl (fun hq => gs_t (geqF hq))) (RG.nil ?_)
 refine WP.cond rfl (fun h3 => ?_) (fun h3 => ?_)
 ·have e : densL xs w p = [] := by rw [densL, if_neg]; intro h4; cases g1 : isReg xs <;> cases g2 : within w 4 40 <;> cases g3 : within p 1 100 <;> simp_all
  rw [e] at k
  refine WP.sr (RG.p (PV.asg rfl rfl) (RG.nil ?_))
  exact WP.ret ⟨_, _, ResV.one rfl rfl, Cv.nilS, k _⟩
 ·have h4 : isReg xs = true ∧ within w 4 40 = true ∧ within p 1 100 = true := by cases g1 : isReg xs <;> cases g2 : within w 4 40 <;> cases g3 : within p 1 100 <;> simp_all
  have hreg := h4.1
  have hpb : 1 ≤ p ∧ p ≤ 100 := by simpa [within] using h4.2.2
  have hbx := bits_length xs
  have hzl := (windL_facts w).1
  have hzv := (windL_facts w).2
  refine WP.skip (WP.sr (RG.p (PV.build0 rfl Tryz.underlying179 ⟨80, by kernel_rfl⟩ (zeroB_spec (n := 6400) (by kernel_rfl))) ?_))
  refine RG.ot rfl (OT.boxG rfl rfl fun b24 => ?_)
  refine RG.p (PV.mvP (.inr rfl) rfl) (RG.nil (WP.seq (WP.sr (RG.ml rfl ?_))))
  refine RG.callF (vs := [_]) rfl rfl En189 rfl (windows_i (fun v26 => ?_))
  refine RG.p (PV.len (v := v26) rfl Tryz.underlying50 rfl SlF.o) (RG.ml rfl (RG.nil (WP.block ?_)))
  refine WP.loop2 [0, 2, 7, 26, 27] (fun (i : Nat) (E : List Bool) => i ≤ (windL w).length ∧ Is E (Bare (bits xs) ((windL w).take i) p)) (fun (i : Nat) (E : List Bool) => [(28, vi i)]) (fun (i : Nat) (E : List Bool) => grd b24 E :: osl 91 rectT v26 (windL w) :: L) (fun (i : Nat) (E : List Bool) => (windL w).length - i) 0 (List.replicate 6400 false) ⟨by omega, Is.none _ rfl fun v u _ _ => by rintro ⟨c, hc, _⟩; simp at hc⟩ ⟨rfl, trivial⟩ Cv.p ?_
  rintro i E τ ⟨hi, hE⟩
  refine WP.sr (RG.p (PV.lss rfl rfl rfl) (RG.nil (WP.seq ?_)))
  have hEl := hE.1
  refine WP.cond rfl (fun h5 => ?_) (fun h5 => ?_)
  ·have h5 := of_decide_eq_true h5
   have hvi := hzv _ (gd_mem (show i < (windL w).length by omega))
   have hlb := area_bd hvi
   have hmb := mulP_bd hpb hlb
   have hcb := covB_bd (S := bits xs) hvi
   have hnx := fun y x => Bare.next (S := bits xs) (ws := windL w) (p := p) (y := y) (x := x) (i := i) (by omega)
   refine WP.skip (WP.seq (WP.block (WP.sr (RG.p (PV.idxS (v := v26) rfl Is50 rfl SlF.o rfl rfl (by omega)) (RG.p (PV.loadE rfl Ag91 rfl rfl (El.o (getG (by omega)))) ?_)))))
   refine RG.ot rfl (OT.alloc rfl Zr91 fun b9 => ?_)
   refine RG.ot rfl (OT.storeW (vs := [vi _, vi _, vi _, vi _]) rfl Sz91 rfl rfl (Cl.c rfl) rfl rfl (OneC.c rfl) ?_)
   refine RG.nil (WP.seq ?_)
   refine WP.regionQ (by kernel_rfl) (by kernel_rfl) ?_
   refine RQ.pv rfl (PV.move (v := v) rfl rfl) (RQ.pv rfl (PV.loadW rfl Ag91 rfl rfl) ?_)
   refine RQ.callF (vs := [v, _]) rfl rfl En190 rfl (covd_i (Rs.up h1) hreg hvi ⟨rfl, rfl, rfl⟩) ?_
   refine RQ.pv rfl (PV.mul rfl rfl rfl (by omega)) (RQ.pv rfl (PV.mvI (.inl rfl) rfl) (RQ.pv rfl (PV.loadW rfl Ag91 rfl rfl) ?_))
   refine RQ.callF (vs := [_]) rfl rfl En191 rfl (area_s hvi ⟨rfl, rfl, rfl⟩) ?_
   refine RQ.pv rfl (PV.mul rfl rfl rfl (by omega)) (RQ.pv rfl (PV.lss rfl rfl rfl) ?_)
   refine RQ.nil ?_
   refine WP.cond rfl (fun h6 => ?_) (fun h6 => ?_)
   ·have h6 : 100 * covB (bits xs) (gd (windL w) i) < p * areaR (gd (windL w) i) := by have := of_decide_eq_true h6; rw [Int.mul_comm] at this; exact this
    refine WP.region (RG.p (PV.mvP (.inl rfl) rfl) (RG.p (PV.loadW rfl Ag91 rfl rfl) ?_))
    refine RG.callF (vs := [(.pointer (some ⟨b24, 0, none⟩)), _]) rfl rfl En131 rfl (CallT.exB (put_s (by assumption) (fun bs' hb' hg' => ?_)))
    refine RG.nil (WP.region (RG.p (PV.add rfl rfl rfl (by omega)) (RG.ml rfl (RG.nil ?_))))
    exact ⟨rfl, i + 1, bs', ⟨by omega, hb', fun y x hy hx => by rw [hg' y x hy hx, Bool.or_eq_true, hE.2 y x hy hx, hnx]; simp [h6]⟩, ⟨rfl, trivial⟩, ⟨rfl, rfl, rfl, rfl, rfl, trivial⟩, Cv.p, by omega⟩
   ·have h6 : ¬ 100 * covB (bits xs) (gd (windL w) i) < p * areaR (gd (windL w) i) := by have := of_decide_eq_false h6; rw [Int.mul_comm] at this; exact this
    refine WP.skip (WP.region (RG.p (PV.add rfl rfl rfl (by omega)) (RG.ml rfl (RG.nil ?_))))
    exact ⟨rfl, i + 1, E, ⟨by omega, hE.congr fun y x _ _ => by rw [hnx]; simp [h6]⟩, ⟨rfl, trivial⟩, ⟨rfl, rfl, rfl, rfl, rfl, trivial⟩, Cv.p, by omega⟩
  ·have h5 := of_decide_eq_false h5
   rw [List.take_of_length_le (by omega)] at hE
   have hEc : E = celL (Bare (bits xs) (windL w) p) := celL_eq hE.1 hE.2
   have e : densL xs w p = opR (fun p q => p && !q) (canon E) xs := by
    rw [densL, if_pos (by simp [h4.1, h4.2.1, h4.2.2]), opR, isReg_canon hEl, hreg, bits_canon hEl, hEc]; rfl
   rw [e] at k
   refine WP.exit ?_
   refine WP.sr (RG.p (PV.mvP (.inl rfl) rfl) ?_)
   refine RG.callF (vs := [(.pointer (some ⟨b24, 0, none⟩))]) rfl rfl En132 rfl (CallT.exB (region_s hEl (fun v46 => ?_)))
   refine RG.p (PV.move (v := v) rfl rfl) ?_
   refine RG.callF (vs := [v46, v]) rfl rfl En192 rfl (diff_s Rs.o (Rs.up h1) (fun v48 => ?_))
   refine RG.p (PV.asg (v := v48) rfl rfl) (RG.nil ?_)
   exact WP.ret ⟨_, _, ResV.one rfl rfl, Cv.p, k v48⟩
theorem filtS {α : Type} [Inhabited α] (p : α → Bool) {xs : List α} {i : Nat} (h : i < xs.length) : (xs.take (i + 1)).filter p = (xs.take i).filter p ++ (if p (gd xs i) = true then [gd xs i] else []) := filt_succ p h
theorem er_filter {p : List Rect → Bool} : ∀ zs : List (Sl Rect), er (zs.filter fun z => p z.xs) = (er zs).filter p
 | [] => rfl
 | z :: zs => by
  have ih := er_filter (p := p) zs
  simp only [er] at ih ⊢
  cases h : p z.xs <;> simp [h, ih]
theorem choose_i {v fv : Value} {xs : List Rect} {p : List Rect → Bool} (h1 : Rs G L rectT v xs) (hF : ∀ M, Cv M L → ∀ z : Sl Rect, Rs G M rectT z.v z.xs → validRs z.xs = true → CB Tryz.prog G M fv [z.v] (.bool (p z.xs)))
  (k : ∀ v', R v' G (osl 91 rectT v' (canon (bits ((partsL (bits xs)).filter p).flatten)) :: L)) : CallT Tryz.prog 246 #[v, fv] G L R := by
 refine CallT.enter (args := _) Tryz.func246 rfl rfl (by kernel_rfl) rfl ?_
 refine WP.sr (RG.p (PV.asg rfl rfl) (RG.nil (WP.sr ?_)))
 refine RG.ot rfl (OT.bslice (F := (slT (α := Rect))) (els := []) rfl El71 rfl (by decide) rfl (by decide) trivial fun v8 => ?_)
 refine RG.p (PV.asg (v := v8) rfl rfl) (RG.nil (WP.seq (WP.sr (RG.p (PV.move (v := v) rfl rfl) ?_))))
 refine RG.callF (vs := [v]) rfl rfl En163 rfl (components_s (Rs.up h1) (fun v10 zsv10 hev10 => ?_))
 refine RG.p (PV.len (v := v10) rfl Tryz.underlying71 rfl SlF.o) (RG.ml rfl (RG.nil (WP.block ?_)))
 have hzl : zsv10.length ≤ 6400 := by have := congrArg List.length hev10; rw [er_len] at this; rw [this, partsL, List.length_map]; exact comps_len _
 refine WP.loop3 [1, 10, 11] (fun (i : Nat) (out : List (Sl Rect)) (q : Value) => i ≤ zsv10.length ∧ out = (zsv10.take i).filter (fun z => p z.xs)) (fun (i : Nat) (out : List (Sl Rect)) (q : Value) => [(12, vi i), (5, q)]) (fun (i : Nat) (out : List (Sl Rect)) (q : Value) => osl 50 slT q out :: osl 50 slT v10 zsv10 :: bagS 91 rectT zsv10 :: L) (fun (i : Nat) (out : List (Sl Rect)) (q : Value) => zsv10.length - i) 0 [] v8 ⟨by omega, rfl⟩ ⟨rfl, rfl, trivial⟩ Cv.p ?_
 rintro i out q τ ⟨hi, ho⟩
 refine WP.sr (RG.p (PV.lss rfl rfl rfl) (RG.nil (WP.seq ?_)))
 have hol : out.length ≤ 6400 := by have := List.length_filter_le (fun z : Sl Rect => p z.xs) (zsv10.take i); rw [← ho, List.length_take] at this; omega
 refine WP.cond rfl (fun h2 => ?_) (fun h2 => ?_)
 ·have h2 := of_decide_eq_true h2
  have h20 : i < zsv10.length := by omega
  have hz : Rs G [bagS 91 rectT zsv10] rectT (gd zsv10 i).v (gd zsv10 i).xs := Rs.inBag i h20
  have hzv : validRs (gd zsv10 i).xs = true := by
   rw [← er_gd, hev10, partsL]
   have hc : i < (comps (bits xs)).length := by have := congrArg List.length hev10; rw [er_len, partsL, List.length_map] at this; omega
   rw [gd_eq (by rw [List.length_map]; exact hc), List.getElem_map]
   exact isReg_valid (isReg_canon (comps_mem (List.getElem_mem hc)))
  have hf := filtS (fun z : Sl Rect => p z.xs) h20
  refine WP.skip (WP.seq (WP.block (WP.sr (RG.p (PV.idxS (v := v10) rfl Is71 rfl SlF.o rfl rfl (by omega)) (RG.p (PV.loadE1 rfl Sc50 rfl rfl (El.o (getG (by omega))) rfl) (RG.p (PV.asg rfl rfl) (RG.nil (WP.sr (RG.p (PV.move (v := fv) rfl rfl) (RG.p (PV.move rfl rfl) ?_))))))))))
  refine RG.callB (vs := [_]) rfl rfl rfl rfl (CB.up (hF (bagS 91 rectT zsv10 :: L) Cv.p (gd zsv10 i) hz.up hzv)) ?_
  refine RG.nil ?_
  refine WP.cond rfl (fun h3 => ?_) (fun h3 => ?_)
  ·rw [if_pos h3, ← ho] at hf
   refine WP.region (RG.p (PV.move (v := q) rfl rfl) (RG.p (PV.move rfl rfl) ?_))
   refine RG.ot rfl (OT.bslice (F := (slT (α := Rect))) (els := [gd zsv10 i]) rfl El71 rfl (by decide) rfl (by decide) ⟨rfl, (Cl.s (SlF.r hz)), trivial⟩ fun v21 => ?_)
   refine RG.ot rfl (OT.append (v := q) (u := v21) (F := (slT (α := Rect))) rfl El71 rfl (by decide) rfl rfl Rs.o (OneL.one (OneC.sl (SlF.r hz) OneC.nil)) rfl (by first | omega | (simp <;> omega)) fun v22 => ?_)
   refine RG.p (PV.asg (v := v22) rfl rfl) (RG.nil (WP.region (RG.p (PV.add rfl rfl rfl (by omega)) (RG.ml rfl (RG.nil ?_)))))
   exact ⟨rfl, i + 1, (out ++ [gd zsv10 i]), v22, ⟨by omega, hf.symm⟩, ⟨rfl, rfl, trivial⟩, ⟨rfl, rfl, rfl, trivial⟩, Cv.p, by omega⟩
  ·rw [if_neg (by rw [h3]; decide), ← ho, List.append_nil] at hf
   refine WP.skip (WP.region (RG.p (PV.add rfl rfl rfl (by omega)) (RG.ml rfl (RG.nil ?_))))
   exact ⟨rfl, i + 1, out, q, ⟨by omega, hf.symm⟩, ⟨rfl, rfl, trivial⟩, ⟨rfl, rfl, rfl, trivial⟩, Cv.p, by omega⟩
 ·have h2 := of_decide_eq_false h2
  rw [List.take_of_length_le (by omega)] at ho
  have hE : RsE G [bagS 91 rectT zsv10] rectT out := fun i hi => by
   have hm : gd out i ∈ zsv10 := by have := gd_mem hi; rw [ho] at this; rw [ho]; exact (List.mem_filter.1 this).1
   obtain ⟨j, hj, e⟩ := List.getElem_of_mem hm
   have := Rs.inBag (G := G) (L := [bagS 91 rectT zsv10]) (L' := []) (e := 91) (F := rectT) (xs := zsv10) j hj
   rw [gd_eq hj, e] at this; exact this
  refine WP.exit ?_
  refine WP.sr (RG.p (PV.move (v := q) rfl rfl) ?_)
  refine RG.callF (vs := [q]) rfl rfl En184 rfl (unionAll_s (xs := out) Rs.o hE.up (fun v25 => ?_))
  refine RG.p (PV.asg (v := v25) rfl rfl) (RG.nil ?_)
  refine WP.ret ?_
  rw [← hev10, ← er_filter, ← ho] at k
  exact ⟨_, _, ResV.one rfl rfl, Cv.p, k v25⟩
theorem sel1_i {v u : Value} {xs : List Rect} {b : Nat} {w : Int} (hz : Rs G L rectT v xs) (hv : validRs xs = true) (hb : Rd G L b 0 (vi w)) (k : R (.bool (decide (areaS xs < w))) G L) : CallT Tryz.prog 247 #[v, .pointer (some ⟨b, 0, none⟩)] G L R := by
 refine CallT.enter (args := _) Tryz.func247 rfl rfl (by kernel_rfl) rfl ?_
 refine WP.sr (RG.br rfl (RG.nil (WP.seq ?_)))
 refine WP.regionQ (by kernel_rfl) (by kernel_rfl) ?_
 refine RQ.pv rfl (PV.move (v := v) rfl rfl) ?_
 refine RQ.callF (vs := [v]) rfl rfl En248 rfl (regionArea_s hz hv ⟨rfl, rfl, rfl⟩) ?_
 refine RQ.pv rfl (PV.load1 rfl Sc2 rfl (Rd.up hb)) (RQ.pv rfl (PV.lss rfl rfl rfl) (RQ.pv rfl (PV.mvB (.inr rfl) rfl) ?_))
 refine RQ.nil ?_
 exact WP.ret ⟨_, _, ResV.one rfl rfl, Cv.p, k⟩
theorem small_i {v : Value} {xs : List Rect} {w : Int} (h1 : Rs G L rectT v xs) (k : ∀ v', R v' G (osl 91 rectT v' (if isReg xs = true then canon (bits ((partsL (bits xs)).filter fun ys => decide (areaS ys < w)).flatten) else []) :: L)) : CallT Tryz.prog 188 #[v, vi w] G L R := by
 refine CallT.enter (args := _) Tryz.func188 rfl rfl (by kernel_rfl) rfl ?_
 refine WP.sr ?_
 refine RG.ot rfl (OT.box (cs := [vi w]) rfl rfl rfl fun b3 => ?_)
 refine RG.p (PV.asg rfl rfl) (RG.nil (WP.seq (WP.sr (RG.p (PV.move (v := v) rfl rfl) ?_))))
 refine RG.callF (vs := [v]) rfl rfl En130 rfl (isRegion_s (Rs.up h1) ?_)
 refine RG.p (PV.not rfl rfl) (RG.nil ?_)
 refine WP.cond rfl (fun h2 => ?_) (fun h2 => ?_)
 ·have h3 : ¬ isReg xs = true := by simpa using h2
  rw [if_neg h3] at k
  refine WP.sr (RG.p (PV.asg rfl rfl) (RG.nil ?_))
  exact WP.ret ⟨_, _, ResV.one rfl rfl, (Cv.p (C := L)).trans Cv.nilS, k (.slice none 0 0)⟩
 ·have h3 : isReg xs = true := by simpa using h2
  rw [if_pos h3] at k
  refine WP.skip (WP.sr (RG.p (PV.move (v := v) rfl rfl) (RG.p (PV.mkf1 rfl rfl) ?_)))
  refine RG.callF (vs := [v, _]) rfl rfl En246 rfl (choose_i (p := fun ys => decide (areaS ys < w)) (Rs.up h1) (fun M c z hz hv => CB.mk1 En247 fun L' R e k => sel1_i (u := .nilIface) (hz.cv e) hv (Rd.cv (Rd.blk rfl) (e.trans c)) k) (fun v10 => ?_))
  refine RG.p (PV.asg (v := v10) rfl rfl) (RG.nil ?_)
  exact WP.ret ⟨_, _, ResV.one rfl rfl, Cv.p, k v10⟩
theorem small_eq {S : List Bool} {w : Int} : bits ((partsL S).filter fun ys => decide (areaS ys < w)).flatten = celL (Small S w) := celL_eq (bits_length _) fun y x hy hx => by
 rw [gb_bits_iff hy hx]
 simp only [List.mem_flatten, List.mem_filter, decide_eq_true_eq, partsL, List.mem_map]
 constructor
 ·rintro ⟨r, ⟨ys, ⟨⟨c, hc, rfl⟩, ha⟩, hr⟩, hin⟩
  have hcl := comps_mem hc
  refine ⟨c, hc, by rw [← cnt_canon hcl]; exact ha, ?_⟩
  rw [← bits_canon hcl, gb_bits_iff hy hx]; exact ⟨r, hr, hin⟩
 ·rintro ⟨c, hc, ha, hg⟩
  have hcl := comps_mem hc
  rw [← bits_canon hcl, gb_bits_iff hy hx] at hg
  obtain ⟨r, hr, hin⟩ := hg
  exact ⟨r, ⟨canon c, ⟨⟨c, hc, rfl⟩, by rw [cnt_canon hcl]; exact ha⟩, hr⟩, hin⟩
theorem markArea_i {v : Value} {xs : List Rect} {w : Int} (h1 : Rs G L rectT v xs) (k : ∀ v', R v' G (osl 91 rectT v' (areaL xs w) :: L)) : CallT Tryz.prog 106 #[v, vi w] G L R := by
 refine CallT.enter (args := _) Tryz.func106 rfl rfl (by kernel_rfl) rfl ?_
 refine WP.sr (RG.p (PV.asg rfl rfl) (RG.nil (WP.seq (WP.sr (RG.ml rfl ?_)))))
 refine RG.callF (vs := [_, _, _]) rfl rfl En100 rfl (within_s ?_)
 refine RG.p (PV.not rfl rfl) (RG.nil ?_)
 refine WP.cond rfl (fun h2 => ?_) (fun h2 => ?_)
 ·have e : areaL xs w = [] := by rw [areaL, if_neg]; intro h4; cases g1 : isReg xs <;> cases g3 : within w 1 6400 <;> simp_all
  rw [e] at k
  refine WP.sr (RG.p (PV.asg rfl rfl) (RG.nil ?_))
  exact WP.ret ⟨_, _, ResV.one rfl rfl, Cv.nilS, k _⟩
 ·have h3 : within w 1 6400 = true := by simpa using h2
  have e : areaL xs w = if isReg xs = true then canon (bits ((partsL (bits xs)).filter fun ys => decide (areaS ys < w)).flatten) else [] := by
   rw [areaL, h3, Bool.and_true, small_eq]
  rw [e] at k
  refine WP.skip (WP.sr (RG.p (PV.move (v := v) rfl rfl) (RG.ml rfl ?_)))
  refine RG.callF (vs := [v, _]) rfl rfl En188 rfl (small_i (Rs.up h1) (fun v10 => ?_))
  refine RG.p (PV.asg (v := v10) rfl rfl) (RG.nil ?_)
  exact WP.ret ⟨_, _, ResV.one rfl rfl, Cv.p, k v10⟩
end Go.Proofs.YtgphjofccckloaaGreat
namespace Go.Proofs.YtgphjofccckloaaGreat
open Go
set_option maxRecDepth 20000
variable {G : Gh} {L : List Ch} {R : Value → Gh → List Ch → Prop}
noncomputable def rmL (l : List (List Rect)) (q : Rule) : List Rect :=
  if q.kind = 0 then widthL (gd l q.layer.toNat) q.value else if q.kind = 1 then spaceL (gd l q.layer.toNat) q.value else if q.kind = 2 then betwL (gd l q.layer.toNat) (gd l q.other.toNat) q.value
  else if q.kind = 3 then enclL (gd l q.layer.toNat) (gd l q.other.toNat) q.value else if q.kind = 4 then areaL (gd l q.layer.toNat) q.value else densL (gd l q.layer.toNat) q.value q.percent
noncomputable def rmE (l : List (List Rect)) (q : Rule) : List Rect := if (isLay l && validRule q) = true then rmL l q else []
theorem valid_lay {q : Rule} (h : validRule q = true) : (0 ≤ q.layer ∧ q.layer ≤ 7) ∧ 0 ≤ q.other ∧ q.other ≤ 7 := by
 simp only [validRule, okOther, Bool.and_eq_true] at h
 have h1 := h.1.1.1.2; have h2 := h.1.1.2
 simp only [within, Bool.and_eq_true, decide_eq_true_eq] at h1
 refine ⟨h1, ?_⟩
 cases hp : paired q.kind
 ·rw [hp, cond_false] at h2; have := of_decide_eq_true h2; omega
 ·rw [hp, cond_true] at h2; simp only [within, Bool.and_eq_true, decide_eq_true_eq] at h2; exact h2.1
theorem rule_s {v : Value} {ys : List (Sl Rect)} {q : Rule} (h1 : Rs G L slT v ys) (hd : RsE G L rectT ys) (k : ∀ v', R v' G (osl 91 rectT v' (rmE (er ys) q) :: L)) : CallT Tryz.prog 50 #[v, vT ruleT q] G L R := by
 refine CallT.enter (args := _) Tryz.func50 rfl rfl (by kernel_rfl) rfl ?_
 refine WP.sr ?_
 refine RG.ot rfl (OT.box (cs := ruleT.enc q) rfl rfl rfl fun b3 => ?_)
 refine RG.p (PV.asg rfl rfl) (RG.nil (WP.seq (WP.sr (RG.p (PV.move (v := v) rfl rfl) ?_))))
 refine RG.callF (vs := [v]) rfl rfl En92 rfl (l19Layout_s (Rs.up h1) hd.up ?_)
 refine RG.p (PV.not rfl rfl) (RG.bl rfl ?_)
 refine RG.g rfl (fun hp => (PV.loadW rfl Ag53 rfl rfl)) ?_
 refine RG.gsC rfl rfl rfl rfl En49 (fun hp => ⟨_, (acons (gs_t hp) anil), validRule_s ⟨rfl, rfl, rfl⟩⟩) ?_
 refine RG.g rfl (fun hp => (PV.not rfl (gs_t hp))) ?_
 refine RG.p (PV.pickO rfl rfl rfl (fun hq => gs_t (geqF hq))) (RG.nil ?_)
 refine WP.cond rfl (fun h2 => ?_) (fun h2 => ?_)
 ·have e : rmE (er ys) q = [] := by rw [rmE, if_neg]; intro h3; cases g1 : isLay (er ys) <;> cases g2 : validRule q <;> simp_all
  rw [e] at k
  refine WP.sr ?_
  refine RG.ot rfl (OT.bslice (F := rectT) (els := []) rfl El50 rfl (by decide) rfl (by decide) trivial fun v14 => ?_)
  refine RG.p (PV.asg (v := v14) rfl rfl) (RG.nil ?_)
  exact WP.ret ⟨_, _, ResV.one rfl rfl, Cv.p, k v14⟩
 ·have h3 : isLay (er ys) = true ∧ validRule q = true := by cases g1 : isLay (er ys) <;> cases g2 : validRule q <;> simp_all
  have hl8 : ys.length = 8 := by have := isLay_len h3.1; rwa [er_len] at this
  obtain ⟨hlr, hor⟩ := valid_lay h3.2
  rw [rmE, if_pos (by rw [h3.1, h3.2]; rfl), rmL, er_gd, er_gd] at k
  refine WP.skip (WP.sr (RG.p (PV.move (v := v) rfl rfl) (RG.p (PV.field rfl Fo53_1 rfl) (RG.p (PV.load1 rfl Sc2 rfl (Rd.blk rfl)) (RG.p (PV.idxS (j := q.layer.toNat) (v := v) rfl Is71 rfl (SlF.r h1) rfl (by omega) (by omega)) (RG.p (PV.loadE1 rfl Sc50 rfl rfl (El.r h1 (getG (by omega))) rfl) (RG.p (PV.asg rfl rfl) (RG.nil (WP.seq (WP.sr (RG.p (PV.field rfl Fo53_0 rfl) ?_)))))))))))
  refine RG.p (PV.load1 rfl Sc2 rfl (Rd.blk rfl)) (RG.nil (WP.block (WP.sr (RG.p (PV.eql rfl rfl rfl) (RG.br rfl (RG.nil ?_))))))
  refine WP.cond rfl (fun h4 => ?_) (fun h4 => ?_)
  ·rw [if_pos (by simpa using h4)] at k
   refine WP.sr (RG.p (PV.move rfl rfl) (RG.p (PV.field rfl Fo53_3 rfl) (RG.p (PV.load1 rfl Sc2 rfl (Rd.blk rfl)) ?_)))
   refine RG.callF (vs := [_, _]) rfl rfl En93 rfl (markWidth_s (hd q.layer.toNat (by omega)).up (fun v27 => ?_))
   refine RG.p (PV.asg (v := v27) rfl rfl) (RG.nil ?_)
   exact WP.ret ⟨_, _, ResV.one rfl rfl, Cv.p, k v27⟩
  ·rw [if_neg (by simpa using h4)] at k
   refine WP.sr (RG.p (PV.eql rfl rfl rfl) (RG.br rfl (RG.nil ?_)))
   refine WP.cond rfl (fun h5 => ?_) (fun h5 => ?_)
   ·rw [if_pos (by simpa using h5)] at k
    refine WP.sr (RG.p (PV.move rfl rfl) (RG.p (PV.field rfl Fo53_3 rfl) (RG.p (PV.load1 rfl Sc2 rfl (Rd.blk rfl)) ?_)))
    refine RG.callF (vs := [_, _]) rfl rfl En94 rfl (markSpacing_s (hd q.layer.toNat (by omega)).up (fun v33 => ?_))
    refine RG.p (PV.asg (v := v33) rfl rfl) (RG.nil ?_)
    exact WP.ret ⟨_, _, ResV.one rfl rfl, Cv.p, k v33⟩
   ·rw [if_neg (by simpa using h5)] at k
    refine WP.sr (RG.p (PV.eql rfl rfl rfl) (RG.br rfl (RG.nil ?_)))
    refine WP.cond rfl (fun h6 => ?_) (fun h6 => ?_)
    ·rw [if_pos (by simpa using h6)] at k
     refine WP.seq ?_
     refine WP.regionH0 (.q 0 (.q 1 (.q 2 (.q 3 (.q 4 (.q 5 (.q 6 (.q 7 (.l 8 (.q 9 Sch.nil)))))))))) (by kernel_rfl) (by kernel_rfl) (by kernel_rfl) rfl ?_
     refine RH.w rfl rfl (PV.move rfl rfl) (RH.w rfl rfl (PV.move (v := v) rfl rfl) (RH.w rfl rfl (PV.field rfl Fo53_2 rfl) (RH.w rfl rfl (PV.load1 rfl Sc2 rfl (Rd.blk rfl)) (RH.w rfl rfl (PV.idxS (j := q.other.toNat) (v := v) rfl Is71 rfl (SlF.r h1) rfl (by omega) (by omega)) (RH.w rfl rfl (PV.loadE1 rfl Sc50 rfl rfl (El.r h1 (getG (by omega))) rfl) (RH.w rfl rfl (PV.field rfl Fo53_3 rfl) (RH.w rfl rfl (PV.load1 rfl Sc2 rfl (Rd.blk rfl)) ?_)))))))
     refine RH.ot rfl rfl (OT.callF (vs := [_, _, _]) rfl En95 rfl (markBetween_s (hd q.layer.toNat (by omega)).up (hd q.other.toNat (by omega)).up (fun v44 => ⟨Gh.le_refl _, PickC.pick, ?_⟩)))
     refine RH.w rfl rfl (PV.asg (v := v44) rfl rfl) ?_
     refine RH.nil ?_
     exact WP.ret ⟨_, _, ResV.one rfl rfl, Cv.p, k v44⟩
    ·rw [if_neg (by simpa using h6)] at k
     refine WP.sr (RG.p (PV.eql rfl rfl rfl) (RG.br rfl (RG.nil ?_)))
     refine WP.cond rfl (fun h8 => ?_) (fun h8 => ?_)
     ·rw [if_pos (by simpa using h8)] at k
      refine WP.seq ?_
      refine WP.regionH0 (.q 0 (.q 1 (.q 2 (.q 3 (.q 4 (.q 5 (.q 6 (.q 7 (.l 8 (.q 9 Sch.nil)))))))))) (by kernel_rfl) (by kernel_rfl) (by kernel_rfl) rfl ?_
      refine RH.w rfl rfl (PV.move rfl rfl) (RH.w rfl rfl (PV.move (v := v) rfl rfl) (RH.w rfl rfl (PV.field rfl Fo53_2 rfl) (RH.w rfl rfl (PV.load1 rfl Sc2 rfl (Rd.blk rfl)) (RH.w rfl rfl (PV.idxS (j := q.other.toNat) (v := v) rfl Is71 rfl (SlF.r h1) rfl (by omega) (by omega)) (RH.w rfl rfl (PV.loadE1 rfl Sc50 rfl rfl (El.r h1 (getG (by omega))) rfl) (RH.w rfl rfl (PV.field rfl Fo53_3 rfl) (RH.w rfl rfl (PV.load1 rfl Sc2 rfl (Rd.blk rfl)) ?_)))))))
      refine RH.ot rfl rfl (OT.callF (vs := [_, _, _]) rfl En96 rfl (markEncl_s (hd q.layer.toNat (by omega)).up (hd q.other.toNat (by omega)).up (fun v55 => ⟨Gh.le_refl _, PickC.pick, ?_⟩)))
      refine RH.w rfl rfl (PV.asg (v := v55) rfl rfl) ?_
      refine RH.nil ?_
      exact WP.ret ⟨_, _, ResV.one rfl rfl, Cv.p, k v55⟩
     ·rw [if_neg (by simpa using h8)] at k
      refine WP.sr (RG.p (PV.eql rfl rfl rfl) (RG.br rfl (RG.nil ?_)))
      refine WP.cond rfl (fun h9 => ?_) (fun h9 => ?_)
      ·rw [if_pos (by simpa using h9)] at k
       refine WP.sr (RG.p (PV.move rfl rfl) (RG.p (PV.field rfl Fo53_3 rfl) (RG.p (PV.load1 rfl Sc2 rfl (Rd.blk rfl)) ?_)))
       refine RG.callF (vs := [_, _]) rfl rfl En97 rfl (markArea_s (hd q.layer.toNat (by omega)).up (fun v61 => ?_))
       refine RG.p (PV.asg (v := v61) rfl rfl) (RG.nil ?_)
       exact WP.ret ⟨_, _, ResV.one rfl rfl, Cv.p, k v61⟩
      ·rw [if_neg (by simpa using h9)] at k
       refine WP.skip (WP.sr (RG.p (PV.move rfl rfl) (RG.p (PV.field rfl Fo53_3 rfl) (RG.p (PV.load1 rfl Sc2 rfl (Rd.blk rfl)) (RG.p (PV.field rfl Fo53_4 rfl) (RG.p (PV.load1 rfl Sc2 rfl (Rd.blk rfl)) ?_))))))
       refine RG.callF (vs := [_, _, _]) rfl rfl En98 rfl (markDens_s (hd q.layer.toNat (by omega)).up (fun v67 => ?_))
       refine RG.p (PV.asg (v := v67) rfl rfl) (RG.nil ?_)
       exact WP.ret ⟨_, _, ResV.one rfl rfl, Cv.p, k v67⟩
theorem rule_i {v : Value} {ys : List (Sl Rect)} {q : Rule} (h1 : Rs G L slT v ys) (hd : RsE G L rectT ys) (hl : isLay (er ys) = true) (hr : validRule q = true) (k : ∀ v', R v' G (osl 91 rectT v' (rmL (er ys) q) :: L)) : CallT Tryz.prog 55 #[v, vT ruleT q] G L R := by
 have hl8 : ys.length = 8 := by have := isLay_len hl; rwa [er_len] at this
 obtain ⟨hlr, hor⟩ := valid_lay hr
 rw [rmL, er_gd, er_gd] at k
 refine CallT.enter (args := _) Tryz.func55 rfl rfl (by kernel_rfl) rfl ?_
 refine WP.sr ?_
 refine RG.ot rfl (OT.box (cs := ruleT.enc q) rfl rfl rfl fun b3 => ?_)
 refine RG.p (PV.asg rfl rfl) (RG.nil (WP.seq ?_))
 refine WP.regionQ (by kernel_rfl) (by kernel_rfl) ?_
 refine RQ.pv rfl (PV.move (v := v) rfl rfl) (RQ.pv rfl (PV.field rfl Fo53_1 rfl) (RQ.pv rfl (PV.load1 rfl Sc2 rfl (Rd.blk rfl)) (RQ.pv rfl (PV.idxS (j := q.layer.toNat) (v := v) rfl Is71 rfl (SlF.r h1) rfl (by omega) (by omega)) (RQ.pv rfl (PV.loadE1 rfl Sc50 rfl rfl (El.r h1 (getG (by omega))) rfl) (RQ.pv rfl (PV.move (v := v) rfl rfl) (RQ.pv rfl (PV.field rfl Fo53_2 rfl) (RQ.pv rfl (PV.load1 rfl Sc2 rfl (Rd.blk rfl)) (RQ.pv rfl (PV.idxS (j := q.other.toNat) (v := v) rfl Is71 rfl (SlF.r h1) rfl (by omega) (by omega)) (RQ.pv rfl (PV.loadE1 rfl Sc50 rfl rfl (El.r h1 (getG (by omega))) rfl) (RQ.pv rfl (PV.asg rfl rfl) (RQ.pv rfl (PV.asg rfl rfl) ?_)))))))))))
 refine RQ.nil ?_
 refine WP.seq (WP.sr (RG.p (PV.field rfl Fo53_0 rfl) (RG.p (PV.load1 rfl Sc2 rfl (Rd.blk rfl)) (RG.nil (WP.block (WP.sr (RG.p (PV.eql rfl rfl rfl) (RG.br rfl (RG.nil ?_)))))))))
 refine WP.cond rfl (fun h4 => ?_) (fun h4 => ?_)
 ·rw [if_pos (by simpa using h4)] at k
  refine WP.sr (RG.p (PV.move rfl rfl) (RG.p (PV.field rfl Fo53_3 rfl) (RG.p (PV.load1 rfl Sc2 rfl (Rd.blk rfl)) ?_)))
  refine RG.callF (vs := [_, _]) rfl rfl En102 rfl (markWidth_i (hd q.layer.toNat (by omega)).up (fun v24 => ?_))
  refine RG.p (PV.asg (v := v24) rfl rfl) (RG.nil ?_)
  exact WP.ret ⟨_, _, ResV.one rfl rfl, Cv.p, k v24⟩
 ·rw [if_neg (by simpa using h4)] at k
  refine WP.sr (RG.p (PV.eql rfl rfl rfl) (RG.br rfl (RG.nil ?_)))
  refine WP.cond rfl (fun h5 => ?_) (fun h5 => ?_)
  ·rw [if_pos (by simpa using h5)] at k
   refine WP.sr (RG.p (PV.move rfl rfl) (RG.p (PV.field rfl Fo53_3 rfl) (RG.p (PV.load1 rfl Sc2 rfl (Rd.blk rfl)) ?_)))
   refine RG.callF (vs := [_, _]) rfl rfl En103 rfl (markSpacing_i (hd q.layer.toNat (by omega)).up (fun v30 => ?_))
   refine RG.p (PV.asg (v := v30) rfl rfl) (RG.nil ?_)
   exact WP.ret ⟨_, _, ResV.one rfl rfl, Cv.p, k v30⟩
  ·rw [if_neg (by simpa using h5)] at k
   refine WP.sr (RG.p (PV.eql rfl rfl rfl) (RG.br rfl (RG.nil ?_)))
   refine WP.cond rfl (fun h6 => ?_) (fun h6 => ?_)
   ·rw [if_pos (by simpa using h6)] at k
    refine WP.sr (RG.p (PV.move rfl rfl) (RG.p (PV.move rfl rfl) (RG.p (PV.field rfl Fo53_3 rfl) (RG.p (PV.load1 rfl Sc2 rfl (Rd.blk rfl)) ?_))))
    refine RG.callF (vs := [_, _, _]) rfl rfl En104 rfl (markBetween_i (hd q.layer.toNat (by omega)).up (hd q.other.toNat (by omega)).up (fun v37 => ?_))
    refine RG.p (PV.asg (v := v37) rfl rfl) (RG.nil ?_)
    exact WP.ret ⟨_, _, ResV.one rfl rfl, Cv.p, k v37⟩
   ·rw [if_neg (by simpa using h6)] at k
    refine WP.sr (RG.p (PV.eql rfl rfl rfl) (RG.br rfl (RG.nil ?_)))
    refine WP.cond rfl (fun h8 => ?_) (fun h8 => ?_)
    ·rw [if_pos (by simpa using h8)] at k
     refine WP.sr (RG.p (PV.move rfl rfl) (RG.p (PV.move rfl rfl) (RG.p (PV.field rfl Fo53_3 rfl) (RG.p (PV.load1 rfl Sc2 rfl (Rd.blk rfl)) ?_))))
     refine RG.callF (vs := [_, _, _]) rfl rfl En105 rfl (markEncl_i (hd q.layer.toNat (by omega)).up (hd q.other.toNat (by omega)).up (fun v44 => ?_))
     refine RG.p (PV.asg (v := v44) rfl rfl) (RG.nil ?_)
     exact WP.ret ⟨_, _, ResV.one rfl rfl, Cv.p, k v44⟩
    ·rw [if_neg (by simpa using h8)] at k
     refine WP.sr (RG.p (PV.eql rfl rfl rfl) (RG.br rfl (RG.nil ?_)))
     refine WP.cond rfl (fun h9 => ?_) (fun h9 => ?_)
     ·rw [if_pos (by simpa using h9)] at k
      refine WP.sr (RG.p (PV.move rfl rfl) (RG.p (PV.field rfl Fo53_3 rfl) (RG.p (PV.load1 rfl Sc2 rfl (Rd.blk rfl)) ?_)))
      refine RG.callF (vs := [_, _]) rfl rfl En106 rfl (markArea_i (hd q.layer.toNat (by omega)).up (fun v50 => ?_))
      refine RG.p (PV.asg (v := v50) rfl rfl) (RG.nil ?_)
      exact WP.ret ⟨_, _, ResV.one rfl rfl, Cv.p, k v50⟩
     ·rw [if_neg (by simpa using h9)] at k
      refine WP.skip (WP.sr (RG.p (PV.move rfl rfl) (RG.p (PV.field rfl Fo53_3 rfl) (RG.p (PV.load1 rfl Sc2 rfl (Rd.blk rfl)) (RG.p (PV.field rfl Fo53_4 rfl) (RG.p (PV.load1 rfl Sc2 rfl (Rd.blk rfl)) ?_))))))
      refine RG.callF (vs := [_, _, _]) rfl rfl En107 rfl (markDens_i (hd q.layer.toNat (by omega)).up (fun v56 => ?_))
      refine RG.p (PV.asg (v := v56) rfl rfl) (RG.nil ?_)
      exact WP.ret ⟨_, _, ResV.one rfl rfl, Cv.p, k v56⟩
end Go.Proofs.YtgphjofccckloaaGreat
namespace Go.Proofs.YtgphjofccckloaaGreat
open Go
set_option maxRecDepth 20000
def OIn (o : Int) : Prop := 0 ≤ o ∧ o ≤ 7
theorem OIn.cases {o : Int} (h : OIn o) : o = 0 ∨ o = 1 ∨ o = 2 ∨ o = 3 ∨ o = 4 ∨ o = 5 ∨ o = 6 ∨ o = 7 := by unfold OIn at h; omega
end Go.Proofs.YtgphjofccckloaaGreat
namespace Go.Proofs.YtgphjofccckloaaGreat
open Go
set_option maxRecDepth 20000
variable {G : Gh} {L : List Ch} {R : Value → Gh → List Ch → Prop}
def validT (t : Trans) : Bool := within t.o 0 7 && (within t.x (-80) 80 && within t.y (-80) 80)
theorem validT_iff {t : Trans} : validT t = true ↔ (0 ≤ t.o ∧ t.o ≤ 7) ∧ (-80 ≤ t.x ∧ t.x ≤ 80) ∧ -80 ≤ t.y ∧ t.y ≤ 80 := by
 simp only [validT, within, Bool.and_eq_true, decide_eq_true_eq]
def mvOk (t : Trans) (xs : List Rect) : Bool := validT t && isReg xs && movedOk t xs
end Go.Proofs.YtgphjofccckloaaGreat
namespace Go.Proofs.YtgphjofccckloaaGreat
open Go
set_option maxRecDepth 20000
variable {G : Gh} {L : List Ch} {R : Value → Gh → List Ch → Prop}
theorem canon_empty {bs : List Bool} (hl : bs.length = 6400) : canon bs = [] ↔ ∀ y x, y < 80 → x < 80 → gb bs y x = false := by
 constructor
 ·intro h y x hy hx
  have := canon_any (bs := bs) hy hx
  rw [h] at this
  simpa using this.symm
 ·intro h
  cases e : canon bs with
  | nil => rfl
  | cons r rs =>
   exfalso
   have hr := RIn_all (isReg_canon hl) r (by rw [e]; exact .head _)
   obtain ⟨h1, h2, h3, h4, h5, h6⟩ := hr
   have hy : (r.y0 + 40).toNat < 80 := by omega
   have hx : (r.x0 + 40).toNat < 80 := by omega
   have := canon_any (bs := bs) hy hx
   rw [h _ _ hy hx, e, List.any_cons, inR_iff.2 (by omega)] at this
   simp at this
end Go.Proofs.YtgphjofccckloaaGreat
namespace Go.Proofs.YtgphjofccckloaaGreat
open Go
set_option maxRecDepth 20000
variable {G : Gh} {L : List Ch} {R : Value → Gh → List Ch → Prop}
def Regs (ys : List (Sl Rect)) : Prop := ∀ s ∈ ys, isReg s.xs = true
theorem Regs.set {ys : List (Sl Rect)} (h : Regs ys) {i : Nat} {v : Value} {xs : List Rect} (hx : isReg xs = true) : Regs (ys.set i ⟨v, xs⟩) := fun s hs => by
 rcases List.mem_or_eq_of_mem_set hs with h1 | rfl
 ·exact h s h1
 ·exact hx
theorem Regs.gd {ys : List (Sl Rect)} (h : Regs ys) {i : Nat} (hi : i < ys.length) : isReg (gd ys i).xs = true := h _ (by rw [gd_eq hi]; exact List.getElem_mem _)
theorem isReg_nil : isReg [] = true := by
 have h : canon (bits []) = [] := (canon_empty (bits_length _)).2 fun y x hy hx => by rw [gb_bits' _ hy hx]; rfl
 have := isReg_canon (bits_length [])
 rwa [h] at this
end Go.Proofs.YtgphjofccckloaaGreat
namespace Go.Proofs.YtgphjofccckloaaGreat
open Go
set_option maxRecDepth 20000
def Agr (A B : List Bool) (w : Int) (y x : Nat) : Prop := ∀ y' x' : Nat, y' < 80 → x' < 80 → ((y : Int) - w ≤ y' ∧ (y' : Int) ≤ y + w) → ((x : Int) - w ≤ x' ∧ (x' : Int) ≤ x + w) → gb A y' x' = gb B y' x'
theorem Agr.symm {A B : List Bool} {w : Int} {y x : Nat} (h : Agr A B w y x) : Agr B A w y x := fun y' x' h1 h2 h3 h4 => (h y' x' h1 h2 h3 h4).symm
theorem gb_not {S : List Bool} (hS : S.length = 6400) {y x : Nat} (hy : y < 80) (hx : x < 80) : gb (notB S) y x = !gb S y x := gd_not (by omega)
theorem Agr.not {A B A' B' : List Bool} {w : Int} {y x : Nat} (hA : A.length = 6400) (hA' : A'.length = 6400) (h1 : Agr A A' w y x) (h2 : Agr B B' w y x) : Agr (notB (orZ A B)) (notB (orZ A' B')) w y x := fun y' x' g1 g2 g3 g4 => by
 rw [gb_not (by rw [orZ_len]; exact hA) g1 g2, gb_not (by rw [orZ_len]; exact hA') g1 g2, orZ_gb hA g1 g2, orZ_gb hA' g1 g2, h1 y' x' g1 g2 g3 g4, h2 y' x' g1 g2 g3 g4]
theorem widthL_reg (xs : List Rect) (w : Int) : isReg (widthL xs w) = true := by
 unfold widthL; split
 ·exact isReg_canon (celL_len _)
 ·exact isReg_nil
theorem spaceL_reg (xs : List Rect) (w : Int) : isReg (spaceL xs w) = true := by
 unfold spaceL; split
 ·exact isReg_canon (celL_len _)
 ·exact isReg_nil
theorem betwL_reg (xs ys : List Rect) (w : Int) : isReg (betwL xs ys w) = true := by
 unfold betwL; split
 ·exact isReg_canon (celL_len _)
 ·exact isReg_nil
theorem enclL_reg (xs ys : List Rect) (w : Int) : isReg (enclL xs ys w) = true := by
 unfold enclL; split
 ·exact isReg_canon (zipB_len (growB_len _ _) (bits_length _))
 ·exact isReg_nil
theorem areaL_reg (xs : List Rect) (w : Int) : isReg (areaL xs w) = true := by
 unfold areaL; split
 ·exact isReg_canon (celL_len _)
 ·exact isReg_nil
theorem densL_reg (xs : List Rect) (w p : Int) : isReg (densL xs w p) = true := by
 unfold densL; split
 ·exact isReg_canon (zipB_len (celL_len _) (bits_length _))
 ·exact isReg_nil
theorem rmL_reg (l : List (List Rect)) (q : Rule) : isReg (rmL l q) = true := by
 unfold rmL
 split
 ·exact widthL_reg _ _
 ·split
  ·exact spaceL_reg _ _
  ·split
   ·exact betwL_reg _ _ _
   ·split
    ·exact enclL_reg _ _ _
    ·split
     ·exact areaL_reg _ _
     ·exact densL_reg _ _ _
theorem rmE_reg (l : List (List Rect)) (q : Rule) : isReg (rmE l q) = true := by
 unfold rmE; split
 ·exact rmL_reg _ _
 ·exact isReg_nil
end Go.Proofs.YtgphjofccckloaaGreat
namespace Go.Proofs.YtgphjofccckloaaGreat
open Go
def txt (bs : List UInt8) : ByteArray := ⟨bs.toArray⟩
theorem txt_size (bs : List UInt8) : (txt bs).size = bs.length := by simp [txt, ByteArray.size]
section
variable {P : Program} {σ : Nat → Value} {G : Gh} {L : List Ch} {o : Oper}
theorem PV.convBS {T T' e : TypeId} {x : Operand} {v : Value} {bs : List UInt8} (ho : o.op = .convert T T' x) (hu : P.underlying T = some (.slice e)) (he : P.underlying e = some (.int .u8)) (hd : P.underlying T' = some .string) (hx : ev σ x = v) (h : Rs G L byteT v bs) : PV P o σ G L (.string (txt bs)) := by
 intro w hw
 obtain ⟨⟨c, hc1, hc2, hsl⟩, hg⟩ := h w hw
 rcases hsl with ⟨b, k, rfl⟩ | ⟨⟨a, rfl⟩, h0⟩
 ·have hr := run_convert_bytes_arg w T e hu he b k bs.length c (bs.map fun b => (b.toNat : Int)) (by simp) (fun i hi => by
   have := hg i (.int .u8 ((bs.map fun b => (b.toNat : Int)).getD i 0)) (by
    rw [show i = i * byteT.sz + 0 by simp [byteT]]
    refine byteT.flat_get (x := bs[i]) (List.getElem?_eq_getElem hi) ?_
    simp [byteT, hi])
   simpa [sb, so] using this) T' hd
  have e1 : strOfNums (bs.map fun b => (b.toNat : Int)) = txt bs := by
   simp only [strOfNums, txt, List.map_map]
   congr 2
   conv => rhs; rw [← List.map_id bs]
   apply List.map_congr_left
   intro b _
   simp
  simp [execOp, ho, hx, hr, e1]
 ·have hb : bs = [] := List.eq_nil_of_length_eq_zero h0
  subst hb
  cases a with
  | none => simp [execOp, ho, hx, run_convert_bytes_nil w T e hu he _ _ T' hd, txt, ByteArray.empty, ByteArray.emptyWithCapacity]; rfl
  | some a =>
   simp only [List.length_nil] at hx
   simp [execOp, ho, hx, run_convert_bytes_string w T T' e _ _ _ hu he hd, Conv.bytesToString, loadCells, loadCellsFrom, txt, ByteArray.empty, ByteArray.emptyWithCapacity]; rfl
end
def mtGo : Nat → Nat → ByteArray → ByteArray
  | 0, _, out => out
  | f + 1, k, out => if k = 0 then out else mtGo f (k / 10) (txt [UInt8.ofNat (48 + k % 10)] ++ out)
theorem mtGo_zero (f : Nat) (out : ByteArray) : mtGo f 0 out = out := by cases f <;> simp [mtGo]
theorem mtGo_step {f k : Nat} {out : ByteArray} (h : 0 < k) : mtGo (f + 1) k out = mtGo f (k / 10) (txt [UInt8.ofNat (48 + k % 10)] ++ out) := by rw [mtGo, if_neg (by omega)]
def mText (k : Int) : ByteArray := if k ≤ 0 then txt [109, 48] else txt [109] ++ mtGo k.toNat k.toNat ByteArray.empty
end Go.Proofs.YtgphjofccckloaaGreat
namespace Go.Proofs.YtgphjofccckloaaGreat
open Go
set_option maxRecDepth 20000
variable {G : Gh} {L : List Ch} {R : Value → Gh → List Ch → Prop}
theorem u8dig {k : Int} (h : 0 ≤ k) : IntKind.wrap .u8 (48 + k % 10) = ((UInt8.ofNat (48 + k.toNat % 10)).toNat : Int) := by
 have h1 : (48 + k % 10) = ((48 + k.toNat % 10 : Nat) : Int) := by omega
 have h2 : 48 + k.toNat % 10 < 256 := by omega
 rw [h1]
 simp only [IntKind.wrap, UInt8.toNat_ofNat']
 simp [IntKind.signed, IntKind.bits]
theorem markText_s {k0 : Int} (hb : k0 ≤ 4611686018427387904) (k : R (.string (mText k0)) G L) : CallT Tryz.prog 85 #[vi k0] G L R := by
 refine CallT.enter (args := _) Tryz.func85 rfl rfl (by kernel_rfl) rfl ?_
 refine WP.sr (RG.p (PV.mvS (.inr rfl) rfl) (RG.nil (WP.seq (WP.sr (RG.ml rfl (RG.p (PV.leq rfl rfl rfl) (RG.nil ?_)))))))
 refine WP.cond rfl (fun h1 => ?_) (fun h1 => ?_)
 ·have h1 := of_decide_eq_true h1
  have e : mText k0 = txt [109, 48] := by rw [mText, if_pos h1]
  rw [e] at k
  refine WP.sr (RG.p (PV.mvS (.inr rfl) rfl) (RG.nil ?_))
  exact WP.ret ⟨_, _, ResV.one rfl rfl, Cv.p, k⟩
 ·have h1 := of_decide_eq_false h1
  have e : mText k0 = txt [109] ++ mtGo k0.toNat k0.toNat ByteArray.empty := by rw [mText, if_neg h1]
  rw [e] at k
  refine WP.skip (WP.sr (RG.p (PV.mvS (.inr rfl) rfl) (RG.nil (WP.seq (WP.block ?_)))))
  refine WP.loop3 [] (fun (kk : Int) (f : Nat) (out : ByteArray) => 0 ≤ kk ∧ kk ≤ k0 ∧ kk.toNat ≤ f ∧ out.size + kk ≤ k0 ∧ mtGo f kk.toNat out = mtGo k0.toNat k0.toNat ByteArray.empty) (fun (kk : Int) (f : Nat) (out : ByteArray) => [(0, vi kk), (3, .string out)]) (fun (kk : Int) (f : Nat) (out : ByteArray) => L) (fun (kk : Int) (f : Nat) (out : ByteArray) => kk.toNat) k0 k0.toNat ByteArray.empty ⟨by omega, by omega, by omega, by simp, rfl⟩ ⟨rfl, rfl, trivial⟩ Cv.p ?_
  rintro kk f out τ ⟨hk, hkb, hfk, hs, he⟩
  refine WP.seq (WP.sr (RG.ml rfl (RG.p (PV.gtr rfl rfl rfl) (RG.nil ?_))))
  refine WP.cond rfl (fun h2 => ?_) (fun h2 => ?_)
  ·have h2 := of_decide_eq_true h2
   refine WP.skip (WP.block (WP.sr (RG.ml rfl (RG.p (PV.rem rfl rfl rfl (by omega) (by omega) (by omega)) (RG.p (PV.add rfl rfl rfl (by omega)) (RG.p (PV.conv rfl ⟨_, Tryz.underlying3⟩ Tryz.underlying5 rfl (by first | exact u8dig (by omega) | rfl)) ?_))))))
   refine RG.ot rfl (OT.bslice (F := byteT) (els := [(UInt8.ofNat (48 + kk.toNat % 10))]) rfl El209 rfl (by decide) rfl (by decide) ⟨rfl, (Cl.c rfl), trivial⟩ fun v12 => ?_)
   refine RG.p (PV.convBS (v := v12) rfl Tryz.underlying209 Tryz.underlying5 Tryz.underlying9 rfl Rs.o) (RG.p (PV.mvS (.inl rfl) rfl) (RG.p (PV.addS rfl rfl rfl (by first | omega | (simp [txt_size] <;> omega) | (have : (ByteArray.mk #[109]).size = 1 := rfl; omega))) (RG.p (PV.mvS (.inr rfl) rfl) (RG.nil (WP.region (RG.ml rfl (RG.p (PV.quo rfl rfl rfl (by omega) (by omega) (by omega)) (RG.mr rfl (RG.nil ?_)))))))))
   refine ⟨rfl, (kk / 10), (f - 1), (txt [UInt8.ofNat (48 + kk.toNat % 10)] ++ out), ⟨by omega, by omega, by omega, by rw [ByteArray.size_append, txt_size]; simp only [List.length_cons, List.length_nil]; omega, ?_⟩, ⟨rfl, rfl, trivial⟩, trivial, Cv.p, by omega⟩
   obtain ⟨f', rfl⟩ : ∃ f', f = f' + 1 := ⟨f - 1, by omega⟩
   rw [mtGo_step (by omega)] at he
   rw [← he, show (kk / 10).toNat = kk.toNat / 10 by omega]; rfl
  ·have h2 := of_decide_eq_false h2
   obtain rfl : kk = 0 := by omega
   rw [show (0 : Int).toNat = 0 from rfl, mtGo_zero] at he
   rw [← he] at k
   refine WP.exit ?_
   refine WP.sr (RG.p (PV.mvS (.inl rfl) rfl) (RG.p (PV.addS rfl rfl rfl (by first | omega | (simp [txt_size] <;> omega) | (have : (ByteArray.mk #[109]).size = 1 := rfl; omega))) (RG.p (PV.mvS (.inr rfl) rfl) (RG.nil ?_))))
   exact WP.ret ⟨_, _, ResV.one rfl rfl, Cv.p, k⟩
end Go.Proofs.YtgphjofccckloaaGreat
namespace Go.Proofs.YtgphjofccckloaaGreat
open Go
set_option maxRecDepth 20000
variable {G : Gh} {L : List Ch} {R : Value → Gh → List Ch → Prop}
def nameByte (c : UInt8) : Bool := decide (97 ≤ c.toNat) && decide (c.toNat ≤ 122) || decide (48 ≤ c.toNat) && decide (c.toNat ≤ 57)
def isName (s : ByteArray) : Bool := decide (1 ≤ s.size) && decide (s.size ≤ 8) && decide (∀ i, i < s.size → nameByte (bt s i) = true)
theorem isName_all {s : ByteArray} (h : ∀ i, i < s.size → nameByte (bt s i) = true) : isName s = (decide (1 ≤ (s.size : Int)) && decide ((s.size : Int) ≤ 8)) := by
 simp only [isName, decide_eq_true h, Bool.and_true]
 congr 1 <;> (rw [decide_eq_decide]; omega)
theorem isName_not {s : ByteArray} {i : Nat} (h : i < s.size) (e : nameByte (bt s i) = false) : isName s = false := by
 simp only [isName, Bool.and_eq_false_iff, decide_eq_false_iff_not]
 exact .inr fun hh => by rw [hh i h] at e; cases e
theorem isName_i {s : ByteArray} (hs : s.size ≤ 9223372036854775807) (k : R (.bool (isName s)) G L) : CallT Tryz.prog 148 #[.string s] G L R := by
 refine CallT.enter (args := _) Tryz.func148 rfl rfl (by kernel_rfl) rfl ?_
 refine WP.sr (RG.br rfl (RG.nil (WP.seq (WP.sr (RG.mr rfl (RG.nil (WP.block ?_)))))))
 refine WP.loop1 [0] (fun i => i ≤ s.size ∧ ∀ j, j < i → nameByte (bt s j) = true) (fun i => [(3, vi i)]) (fun i => L) (fun i => s.size - i) 0 ⟨by omega, fun j h => by omega⟩ ⟨rfl, trivial⟩ Cv.p ?_
 rintro i τ ⟨hi, hb⟩
 refine WP.seq (WP.sr (RG.ml rfl (RG.p (PV.mvS (.inl rfl) rfl) (RG.p (PV.lenS rfl Tryz.underlying9 rfl) (RG.p (PV.lss rfl rfl rfl) (RG.nil ?_))))))
 refine WP.cond rfl (fun h1 => ?_) (fun h1 => ?_)
 ·have h1 := of_decide_eq_true h1
  refine WP.skip (WP.seq (WP.block (WP.sr (RG.p (PV.mvS (.inl rfl) rfl) (RG.ml rfl (RG.p (PV.idxStr rfl Tryz.underlying9 rfl rfl rfl (getBG (by omega))) (RG.p (PV.lss rfl rfl rfl) (RG.bl rfl ?_))))))))
  refine RG.g rfl (fun hp => (PV.mvS (.inl rfl) rfl)) ?_
  refine RG.g rfl (fun hp => (PV.mvI (.inl rfl) rfl)) ?_
  refine RG.g rfl (fun hp => (PV.idxStr rfl Tryz.underlying9 (gs_t hp) (gs_t hp) rfl (getBG (by first | omega | (simp at hp; omega))))) ?_
  refine RG.g rfl (fun hp => (PV.gtr rfl (gs_t hp) rfl)) ?_
  refine RG.p (PV.pickO rfl rfl rfl (fun hq => gs_t (geqF hq))) (RG.bl rfl ?_)
  refine RG.g rfl (fun hp => (PV.mvS (.inl rfl) rfl)) ?_
  refine RG.g rfl (fun hp => (PV.mvI (.inl rfl) rfl)) ?_
  refine RG.g rfl (fun hp => (PV.idxStr rfl Tryz.underlying9 (gs_t hp) (gs_t hp) rfl (getBG (by first | omega | (simp at hp; omega))))) ?_
  refine RG.g rfl (fun hp => (PV.lss rfl (gs_t hp) rfl)) ?_
  refine RG.g rfl (fun hp => (PV.mvB (.inl rfl) (gs_t hp))) ?_
  refine RG.gs2 rfl rfl rfl (fun hp => (PV.mvS (.inl rfl) rfl)) (RG.gs2 rfl rfl rfl (fun hp => (PV.mvI (.inl rfl) rfl)) (RG.gs2 rfl rfl rfl (fun hp => (PV.idxStr rfl Tryz.underlying9 (gs_t hp) (gs_t hp) rfl (getBG (by first | omega | (simp at hp; omega))))) (RG.gs2 rfl rfl rfl (fun hp => (PV.gtr rfl (gs_t hp) rfl)) ?_)))
  refine RG.g rfl (fun hp => (PV.pickO rfl (gs_t hp) rfl (fun hq => gs_t (gandF hp hq)))) ?_
  refine RG.p (PV.pickA rfl rfl (fun hq => gs_t (geqT hq)) rfl) (RG.nil ?_)
  refine WP.cond rfl (fun h2 => ?_) (fun h2 => ?_)
  ·have e : isName s = false := isName_not (i := i) (by omega) (by simp [nameByte] at h2 ⊢; omega)
   rw [e] at k
   refine WP.sr (RG.br rfl (RG.nil ?_))
   exact WP.ret ⟨_, _, ResV.one rfl rfl, Cv.p, k⟩
  ·have h3 : nameByte (bt s i) = true := by
    simp [nameByte] at h2 ⊢; omega
   have hj : ∀ j, j < i + 1 → nameByte (bt s j) = true := fun j h => by
    by_cases e : j = i
    ·subst e; exact h3
    ·exact hb j (by omega)
   refine WP.skip (WP.region (RG.ml rfl (RG.p (PV.add rfl rfl rfl (by omega)) (RG.mr rfl (RG.nil ?_)))))
   exact ⟨rfl, i + 1, ⟨by omega, hj⟩, ⟨rfl, trivial⟩, ⟨rfl, trivial⟩, Cv.p, by omega⟩
 ·have h1 := of_decide_eq_false h1
  have e := isName_all (s := s) (fun j h => hb j (by omega))
  rw [e] at k
  refine WP.exit ?_
  refine WP.sr (RG.p (PV.mvS (.inl rfl) rfl) (RG.p (PV.lenS rfl Tryz.underlying9 rfl) (RG.p (PV.geq rfl rfl rfl) (RG.bl rfl ?_))))
  refine RG.g rfl (fun hp => (PV.mvS (.inl rfl) rfl)) ?_
  refine RG.g rfl (fun hp => (PV.lenS rfl Tryz.underlying9 (gs_t hp))) ?_
  refine RG.g rfl (fun hp => (PV.leq rfl (gs_t hp) rfl)) ?_
  refine RG.p (PV.pickA rfl rfl (fun hq => gs_t (geqT hq)) rfl) (RG.br rfl (RG.nil ?_))
  exact WP.ret ⟨_, _, ResV.one rfl rfl, Cv.p, k⟩
theorem isName_r {s : ByteArray} (hs : s.size ≤ 9223372036854775807) (k : R (.bool (isName s)) G L) : CallT Tryz.prog 137 #[.string s] G L R := by
 refine CallT.enter (args := _) Tryz.func137 rfl rfl (by kernel_rfl) rfl ?_
 refine WP.sr (RG.br rfl (RG.nil (WP.seq (WP.sr (RG.mr rfl (RG.nil (WP.block ?_)))))))
 refine WP.loop1 [0] (fun i => i ≤ s.size ∧ ∀ j, j < i → nameByte (bt s j) = true) (fun i => [(3, vi i)]) (fun i => L) (fun i => s.size - i) 0 ⟨by omega, fun j h => by omega⟩ ⟨rfl, trivial⟩ Cv.p ?_
 rintro i τ ⟨hi, hb⟩
 refine WP.seq (WP.sr (RG.ml rfl (RG.p (PV.mvS (.inl rfl) rfl) (RG.p (PV.lenS rfl Tryz.underlying9 rfl) (RG.p (PV.lss rfl rfl rfl) (RG.nil ?_))))))
 refine WP.cond rfl (fun h1 => ?_) (fun h1 => ?_)
 ·have h1 := of_decide_eq_true h1
  refine WP.skip (WP.seq (WP.block (WP.sr (RG.p (PV.mvS (.inl rfl) rfl) (RG.ml rfl (RG.p (PV.idxStr rfl Tryz.underlying9 rfl rfl rfl (getBG (by omega))) (RG.p (PV.geq rfl rfl rfl) (RG.bl rfl ?_))))))))
  refine RG.g rfl (fun hp => (PV.mvS (.inl rfl) rfl)) ?_
  refine RG.g rfl (fun hp => (PV.mvI (.inl rfl) rfl)) ?_
  refine RG.g rfl (fun hp => (PV.idxStr rfl Tryz.underlying9 (gs_t hp) (gs_t hp) rfl (getBG (by first | omega | (simp at hp; omega))))) ?_
  refine RG.g rfl (fun hp => (PV.leq rfl (gs_t hp) rfl)) ?_
  refine RG.p (PV.pickA rfl rfl (fun hq => gs_t (geqT hq)) rfl) (RG.bl rfl ?_)
  refine RG.g rfl (fun hp => (PV.mvS (.inl rfl) rfl)) ?_
  refine RG.g rfl (fun hp => (PV.mvI (.inl rfl) rfl)) ?_
  refine RG.g rfl (fun hp => (PV.idxStr rfl Tryz.underlying9 (gs_t hp) (gs_t hp) rfl (getBG (by first | omega | (simp at hp; omega))))) ?_
  refine RG.g rfl (fun hp => (PV.geq rfl (gs_t hp) rfl)) ?_
  refine RG.g rfl (fun hp => (PV.mvB (.inl rfl) (gs_t hp))) ?_
  refine RG.gs2 rfl rfl rfl (fun hp => (PV.mvS (.inl rfl) rfl)) (RG.gs2 rfl rfl rfl (fun hp => (PV.mvI (.inl rfl) rfl)) (RG.gs2 rfl rfl rfl (fun hp => (PV.idxStr rfl Tryz.underlying9 (gs_t hp) (gs_t hp) rfl (getBG (by first | omega | (simp at hp; omega))))) (RG.gs2 rfl rfl rfl (fun hp => (PV.leq rfl (gs_t hp) rfl)) ?_)))
  refine RG.g rfl (fun hp => (PV.pickA rfl (gs_t hp) (fun hq => gs_t (gandT hp hq)) rfl)) ?_
  refine RG.p (PV.pickO rfl rfl rfl (fun hq => gs_t (geqF hq))) (RG.p (PV.not rfl rfl) (RG.nil ?_))
  refine WP.cond rfl (fun h2 => ?_) (fun h2 => ?_)
  ·have e : isName s = false := isName_not (i := i) (by omega) (by simp [nameByte] at h2 ⊢; omega)
   rw [e] at k
   refine WP.sr (RG.br rfl (RG.nil ?_))
   exact WP.ret ⟨_, _, ResV.one rfl rfl, Cv.p, k⟩
  ·have h3 : nameByte (bt s i) = true := by
    simp [nameByte] at h2 ⊢; omega
   have hj : ∀ j, j < i + 1 → nameByte (bt s j) = true := fun j h => by
    by_cases e : j = i
    ·subst e; exact h3
    ·exact hb j (by omega)
   refine WP.skip (WP.region (RG.ml rfl (RG.p (PV.add rfl rfl rfl (by omega)) (RG.mr rfl (RG.nil ?_)))))
   exact ⟨rfl, i + 1, ⟨by omega, hj⟩, ⟨rfl, trivial⟩, ⟨rfl, trivial⟩, Cv.p, by omega⟩
 ·have h1 := of_decide_eq_false h1
  have e := isName_all (s := s) (fun j h => hb j (by omega))
  rw [e] at k
  refine WP.exit ?_
  refine WP.sr (RG.p (PV.mvS (.inl rfl) rfl) (RG.p (PV.lenS rfl Tryz.underlying9 rfl) (RG.p (PV.geq rfl rfl rfl) (RG.bl rfl ?_))))
  refine RG.g rfl (fun hp => (PV.mvS (.inl rfl) rfl)) ?_
  refine RG.g rfl (fun hp => (PV.lenS rfl Tryz.underlying9 (gs_t hp))) ?_
  refine RG.g rfl (fun hp => (PV.leq rfl (gs_t hp) rfl)) ?_
  refine RG.p (PV.pickA rfl rfl (fun hq => gs_t (geqT hq)) rfl) (RG.br rfl (RG.nil ?_))
  exact WP.ret ⟨_, _, ResV.one rfl rfl, Cv.p, k⟩
def unitB (p : Pt) : Bool := within p.x (-40) 39 && within p.y (-40) 39
def validLb (l : Label) : Bool := (within l.layer 0 7 && unitB l.at_) && isName l.name
theorem validLb_i {l : Label} (hs : l.name.size ≤ 9223372036854775807) (k : R (.bool (validLb l)) G L) : CallT Tryz.prog 154 #[vT labelT l] G L R := by
 refine CallT.enter (args := _) Tryz.func154 rfl rfl (by kernel_rfl) rfl ?_
 refine WP.sr ?_
 refine RG.ot rfl (OT.box (cs := labelT.enc l) rfl rfl rfl fun b1 => ?_)
 refine RG.br rfl (RG.nil (WP.sr (RG.p (PV.field rfl Fo191_0 rfl) (RG.p (PV.load1 rfl Sc2 rfl (Rd.blk rfl)) ?_))))
 refine RG.callF (vs := [_, _, _]) rfl rfl En100 rfl (within_s ?_)
 refine RG.bl rfl ?_
 refine RG.g rfl (fun hp => (PV.field rfl Fo191_1 rfl)) ?_
 refine RG.g rfl (fun hp => (PV.loadB (vs := [_, _]) rfl Ag189 (gs_t hp) rfl rfl)) ?_
 refine RG.gsC rfl rfl rfl rfl En224 (fun hp => ⟨_, (acons (gs_t hp) anil), unitCell_s ⟨rfl, rfl, rfl⟩⟩) ?_
 refine RG.p (PV.pickA rfl rfl (fun hq => gs_t (geqT hq)) rfl) (RG.bl rfl ?_)
 refine RG.g rfl (fun hp => (PV.field rfl Fo191_2 rfl)) ?_
 refine RG.g rfl (fun hp => (PV.load1 rfl Sc9 (gs_t hp) (Rd.blk rfl))) ?_
 refine RG.gsC rfl rfl rfl rfl En148 (fun hp => ⟨_, (acons (gs_t hp) anil), isName_i hs ⟨rfl, rfl, rfl⟩⟩) ?_
 refine RG.p (PV.pickA rfl rfl (fun hq => gs_t (geqT hq)) rfl) (RG.br rfl (RG.nil ?_))
 exact WP.ret ⟨_, _, ResV.one rfl rfl, Cv.p, k⟩
theorem l09In_s {a b c : Int} (k : R (.bool (within a b c)) G L) : CallT Tryz.prog 196 #[vi a, vi b, vi c] G L R := by
 refine CallT.enter (args := _) Tryz.func196 rfl rfl (by kernel_rfl) rfl ?_
 refine WP.sr (RG.br rfl (RG.nil (WP.sr (RG.ml rfl (RG.ml rfl (RG.p (PV.geq rfl rfl rfl) (RG.bl rfl ?_)))))))
 refine RG.g rfl (fun hp => (PV.mvI (.inl rfl) rfl)) ?_
 refine RG.g rfl (fun hp => (PV.mvI (.inl rfl) rfl)) ?_
 refine RG.g rfl (fun hp => (PV.leq rfl (gs_t hp) (gs_t hp))) ?_
 refine RG.p (PV.pickA rfl rfl (fun hq => gs_t (geqT hq)) rfl) (RG.br rfl (RG.nil ?_))
 exact WP.ret ⟨_, _, ResV.one rfl rfl, Cv.p, k⟩
theorem l09Layer_s {a : Int} (k : R (.bool (within a 0 7)) G L) : CallT Tryz.prog 212 #[vi a] G L R := by
 refine CallT.enter (args := _) Tryz.func212 rfl rfl (by kernel_rfl) rfl ?_
 refine WP.sr (RG.br rfl (RG.nil (WP.sr (RG.ml rfl ?_))))
 refine RG.callF (vs := [_, _, _]) rfl rfl En196 rfl (l09In_s ?_)
 refine RG.br rfl (RG.nil ?_)
 exact WP.ret ⟨_, _, ResV.one rfl rfl, Cv.p, k⟩
theorem l09Unit_s {p : Pt} (k : R (.bool (unitB p)) G L) : CallT Tryz.prog 213 #[vpt p] G L R := by
 refine CallT.enter (args := _) Tryz.func213 rfl rfl (by kernel_rfl) rfl ?_
 refine WP.sr ?_
 refine RG.ot rfl (OT.box (cs := ptT.enc p) rfl rfl rfl fun b1 => ?_)
 refine RG.br rfl (RG.nil (WP.sr (RG.p (PV.field rfl Fo189_0 rfl) (RG.p (PV.load1 rfl Sc2 rfl (Rd.blk rfl)) ?_))))
 refine RG.callF (vs := [_, _, _]) rfl rfl En196 rfl (l09In_s ?_)
 refine RG.bl rfl ?_
 refine RG.g rfl (fun hp => (PV.field rfl Fo189_1 rfl)) ?_
 refine RG.g rfl (fun hp => (PV.load1 rfl Sc2 (gs_t hp) (Rd.blk rfl))) ?_
 refine RG.gsC rfl rfl rfl rfl En196 (fun hp => ⟨_, (acons (gs_t hp) (acons rfl (acons rfl anil))), l09In_s ⟨rfl, rfl, rfl⟩⟩) ?_
 refine RG.p (PV.pickA rfl rfl (fun hq => gs_t (geqT hq)) rfl) (RG.br rfl (RG.nil ?_))
 exact WP.ret ⟨_, _, ResV.one rfl rfl, Cv.p, k⟩
theorem validLb_r {l : Label} (hs : l.name.size ≤ 9223372036854775807) (k : R (.bool (validLb l)) G L) : CallT Tryz.prog 139 #[vT labelT l] G L R := by
 refine CallT.enter (args := _) Tryz.func139 rfl rfl (by kernel_rfl) rfl ?_
 refine WP.sr ?_
 refine RG.ot rfl (OT.box (cs := labelT.enc l) rfl rfl rfl fun b1 => ?_)
 refine RG.br rfl (RG.nil (WP.sr (RG.p (PV.field rfl Fo191_0 rfl) (RG.p (PV.load1 rfl Sc2 rfl (Rd.blk rfl)) ?_))))
 refine RG.callF (vs := [_]) rfl rfl En212 rfl (l09Layer_s ?_)
 refine RG.bl rfl ?_
 refine RG.g rfl (fun hp => (PV.field rfl Fo191_1 rfl)) ?_
 refine RG.g rfl (fun hp => (PV.loadB (vs := [_, _]) rfl Ag189 (gs_t hp) rfl rfl)) ?_
 refine RG.gsC rfl rfl rfl rfl En213 (fun hp => ⟨_, (acons (gs_t hp) anil), l09Unit_s ⟨rfl, rfl, rfl⟩⟩) ?_
 refine RG.p (PV.pickA rfl rfl (fun hq => gs_t (geqT hq)) rfl) (RG.bl rfl ?_)
 refine RG.g rfl (fun hp => (PV.field rfl Fo191_2 rfl)) ?_
 refine RG.g rfl (fun hp => (PV.load1 rfl Sc9 (gs_t hp) (Rd.blk rfl))) ?_
 refine RG.gsC rfl rfl rfl rfl En137 (fun hp => ⟨_, (acons (gs_t hp) anil), isName_r hs ⟨rfl, rfl, rfl⟩⟩) ?_
 refine RG.p (PV.pickA rfl rfl (fun hq => gs_t (geqT hq)) rfl) (RG.br rfl (RG.nil ?_))
 exact WP.ret ⟨_, _, ResV.one rfl rfl, Cv.p, k⟩
theorem indexF_label {v fv : Value} {xs : List (Label)} {p : (Label) → Bool} (h1 : Rs G L labelT v xs) (hf : ∀ i, i < xs.length → CB Tryz.prog G L fv [vT labelT (gd xs i)] (.bool (p (gd xs i)))) (k : R (vi (idxI p xs)) G L) : CallT Tryz.prog 223 #[v, fv] G L R := by
 refine CallT.bd h1 fun hb => ?_
 refine CallT.enter (args := _) Tryz.func223 rfl rfl (by kernel_rfl) rfl ?_
 refine WP.sr (RG.mr rfl (RG.nil (WP.seq (WP.sr (RG.p (PV.move (v := v) rfl rfl) (RG.p (PV.len (v := v) rfl Tryz.underlying112 rfl (SlF.r h1)) (RG.ml rfl (RG.nil (WP.block ?_)))))))))
 refine WP.loop1 [0, 1, 7] (fun i => i ≤ xs.length ∧ ∀ j, j < i → p (gd xs j) = false) (fun i => [(8, vi i)]) (fun i => L) (fun i => xs.length - i) 0 ⟨by omega, fun j h => by omega⟩ ⟨rfl, trivial⟩ Cv.p ?_
 rintro i τ ⟨hi, hj⟩
 refine WP.sr (RG.p (PV.lss rfl rfl rfl) (RG.nil (WP.seq ?_)))
 refine WP.cond rfl (fun h2 => ?_) (fun h2 => ?_)
 ·have h2 := of_decide_eq_true h2
  refine WP.skip (WP.seq (WP.block (WP.sr (RG.ml rfl (RG.mr rfl (RG.nil (WP.sr (RG.p (PV.move (v := fv) rfl rfl) (RG.p (PV.move (v := v) rfl rfl) (RG.ml rfl (RG.p (PV.idxS (v := v) rfl Is112 rfl (SlF.r h1) rfl rfl (by omega)) ?_)))))))))))
  refine RG.p (PV.loadE rfl Ag191 rfl rfl (El.r h1 (getG (by omega)))) ?_
  refine RG.callB (vs := [_]) rfl rfl rfl rfl (CB.up (hf i (by omega))) ?_
  refine RG.nil ?_
  refine WP.cond rfl (fun h3 => ?_) (fun h3 => ?_)
  ·rw [idxI_at (by omega) h3 hj] at k
   refine WP.sr (RG.ml rfl (RG.mr rfl (RG.nil ?_)))
   exact WP.ret ⟨_, _, ResV.one rfl rfl, Cv.p, k⟩
  ·have hj' : ∀ j, j < i + 1 → p (gd xs j) = false := fun j h => by
    by_cases c : j = i
    ·rw [c]; exact h3
    ·exact hj j (by omega)
   refine WP.skip (WP.region (RG.p (PV.add rfl rfl rfl (by omega)) (RG.ml rfl (RG.nil ?_))))
   exact ⟨rfl, i + 1, ⟨by omega, hj'⟩, ⟨rfl, trivial⟩, ⟨rfl, rfl, rfl, trivial⟩, Cv.p, by omega⟩
 ·have h2 := of_decide_eq_false h2
  rw [idxI_none (fun j h => hj j (by omega))] at k
  refine WP.exit ?_
  refine WP.sr (RG.mr rfl (RG.nil ?_))
  exact WP.ret ⟨_, _, ResV.one rfl rfl, Cv.p, k⟩
theorem containsF_label {v fv : Value} {xs : List (Label)} {p : (Label) → Bool} (h1 : Rs G L labelT v xs) (hf : ∀ i, i < xs.length → CB Tryz.prog G L fv [vT labelT (gd xs i)] (.bool (p (gd xs i)))) (k : R (.bool (xs.any p)) G L) : CallT Tryz.prog 152 #[v, fv] G L R := by
 rw [← idxI_any] at k
 refine CallT.enter (args := _) Tryz.func152 rfl rfl (by kernel_rfl) rfl ?_
 refine WP.sr (RG.br rfl (RG.nil (WP.sr (RG.p (PV.move (v := v) rfl rfl) (RG.p (PV.move (v := fv) rfl rfl) ?_)))))
 refine RG.callF (vs := [v, fv]) rfl rfl En223 rfl (indexF_label (Rs.up h1) (fun i hi => (hf i hi).up) ?_)
 refine RG.p (PV.geq rfl rfl rfl) (RG.br rfl (RG.nil ?_))
 exact WP.ret ⟨_, _, ResV.one rfl rfl, Cv.p, k⟩
theorem toLabel_s {l : Label} (k : R (vT labelT l) G L) : CallT Tryz.prog 220 #[vT labelT l] G L R := by
 refine CallT.enter (args := _) Tryz.func220 rfl rfl (by kernel_rfl) rfl ?_
 refine WP.sr ?_
 refine RG.ot rfl (OT.box (cs := labelT.enc l) rfl rfl rfl fun b1 => ?_)
 refine RG.ot rfl (OT.alloc rfl Zr191 fun b2 => ?_)
 refine RG.nil (WP.sr ?_)
 refine RG.ot rfl (OT.alloc rfl Zr191 fun b3 => ?_)
 refine RG.nil (WP.sr (RG.p (PV.field rfl Fo238_0 rfl) (RG.p (PV.load1 rfl Sc2 rfl (Rd.blk rfl)) (RG.p (PV.field rfl Fo191_0 rfl) ?_))))
 refine RG.ot rfl (OT.storeB (vs := [vi _]) (cs' := [_, _, _, _]) rfl Sz2 rfl rfl (Cl.c rfl) rfl (OneC.c rfl) rfl rfl ?_)
 refine RG.nil (WP.sr (RG.p (PV.field rfl Fo238_1 rfl) (RG.p (PV.loadB (vs := [_, _]) rfl Ag236 rfl rfl rfl) ?_)))
 refine RG.callF (vs := [_]) rfl rfl En257 rfl (toPoint_s ?_)
 refine RG.p (PV.field rfl Fo191_1 rfl) ?_
 refine RG.ot rfl (OT.storeB (vs := [vi _, vi _]) (cs' := [_, _, _, _]) rfl Sz189 rfl rfl (Cl.c rfl) rfl (OneC.c rfl) rfl rfl ?_)
 refine RG.nil (WP.sr (RG.p (PV.field rfl Fo238_2 rfl) (RG.p (PV.load1 rfl Sc9 rfl (Rd.blk rfl)) (RG.p (PV.field rfl Fo191_2 rfl) ?_))))
 refine RG.ot rfl (OT.storeB (vs := [.string _]) (cs' := [_, _, _, _]) rfl Sz9 rfl rfl (Cl.c rfl) rfl (OneC.c rfl) rfl rfl ?_)
 refine RG.nil (WP.sr (RG.p (PV.loadW rfl Ag191 rfl rfl) ?_))
 refine RG.ot rfl (OT.storeW (vs := [vi _, vi _, vi _, .string _]) rfl Sz191 rfl rfl (Cl.c rfl) rfl rfl (OneC.c rfl) ?_)
 refine RG.nil ?_
 exact WP.ret ⟨_, _, ResV.one rfl (RV1.cell rfl Ag191 rfl), Cv.p, k⟩
theorem toLabelS_s {v : Value} {xs : List Label} (h1 : Rs G L labelT v xs) (hb : xs.length ≤ 1048576) (k : ∀ v', R v' G (osl 191 labelT v' xs :: L)) : CallT Tryz.prog 146 #[v] G L R := by
 refine CallT.enter (args := _) Tryz.func146 rfl rfl (by kernel_rfl) rfl ?_
 refine WP.sr (RG.p (PV.asg rfl rfl) (RG.nil (WP.sr (RG.p (PV.move (v := v) rfl rfl) (RG.p (PV.len (v := v) rfl Tryz.underlying121 rfl (SlF.r h1)) ?_)))))
 refine RG.ot rfl (OT.make (F := labelT) (a0 := default) rfl El112 rfl (by decide) rfl rfl (by omega) (by omega) fun v7 => ?_)
 refine RG.p (PV.asg (v := v7) rfl rfl) (RG.nil (WP.seq (WP.sr (RG.mr rfl (RG.nil (WP.block ?_))))))
 refine WP.loop2 [0, 3] (fun i ys => i ≤ xs.length ∧ ys.length = xs.length ∧ ∀ j, j < i → ys[j]? = xs[j]?) (fun i ys => [(4, vi i)]) (fun i ys => osl 191 labelT v7 ys :: L) (fun i ys => xs.length - i) 0 (List.replicate xs.length default) ⟨by omega, by simp, fun j h => by omega⟩ ⟨rfl, trivial⟩ Cv.p ?_
 rintro i ys τ ⟨hi, hl, he⟩
 refine WP.seq (WP.sr (RG.ml rfl (RG.p (PV.move (v := v) rfl rfl) (RG.p (PV.len (v := v) rfl Tryz.underlying121 rfl (SlF.r h1)) (RG.p (PV.lss rfl rfl rfl) (RG.nil ?_))))))
 refine WP.cond rfl (fun h2 => ?_) (fun h2 => ?_)
 ·have h2 := of_decide_eq_true h2
  refine WP.skip (WP.seq (WP.block (WP.region (RG.p (PV.move (v := v7) rfl rfl) (RG.ml rfl (RG.p (PV.move (v := v) rfl rfl) (RG.ml rfl (RG.p (PV.idxS (v := v) rfl Is121 rfl (SlF.r h1) rfl rfl (by omega)) (RG.p (PV.loadE rfl Ag238 rfl rfl (El.r h1 (getG (by omega)))) ?_)))))))))
  refine RG.callF (vs := [_]) rfl rfl En220 rfl (toLabel_s ?_)
  refine RG.p (PV.idxS (v := v7) rfl Is112 rfl SlF.o rfl rfl (by omega)) ?_
  refine RG.ot rfl (OT.storeE (F := labelT) rfl Sz191 rfl rfl rfl (Cl.c rfl) (OneC.c rfl) (by omega) ?_)
  refine RG.nil (WP.region (RG.ml rfl (RG.p (PV.add rfl rfl rfl (by omega)) (RG.mr rfl (RG.nil ?_)))))
  exact ⟨rfl, i + 1, _, ⟨by omega, by simpa using hl, set_pre he (getG (by omega)) hl⟩, ⟨rfl, trivial⟩, ⟨rfl, rfl, trivial⟩, Cv.p, by omega⟩
 ·have h2 := of_decide_eq_false h2
  obtain rfl := pre_eq he hl (by omega)
  refine WP.exit ?_
  refine WP.sr (RG.p (PV.move (v := v7) rfl rfl) (RG.p (PV.asg (v := v7) rfl rfl) (RG.nil ?_)))
  exact WP.ret ⟨_, _, ResV.one rfl rfl, Cv.p, k v7⟩
theorem eqPoint_s {p q : Pt} (k : R (.bool (decide (p = q))) G L) : CallT Tryz.prog 263 #[vpt p, vpt q] G L R := by
 refine CallT.enter (args := _) Tryz.func263 rfl rfl (by kernel_rfl) rfl ?_
 refine WP.sr ?_
 refine RG.ot rfl (OT.box (cs := ptT.enc p) rfl rfl rfl fun b2 => ?_)
 refine RG.ot rfl (OT.box (cs := ptT.enc q) rfl rfl rfl fun b3 => ?_)
 refine RG.br rfl (RG.nil (WP.seq (WP.sr (RG.p (PV.field rfl Fo189_0 rfl) (RG.p (PV.load1 rfl Sc2 rfl (Rd.blk rfl)) (RG.p (PV.field rfl Fo189_0 rfl) (RG.p (PV.load1 rfl Sc2 rfl (Rd.blk rfl)) (RG.p (PV.neq rfl rfl rfl) (RG.nil ?_)))))))))
 refine WP.cond rfl (fun h1 => ?_) (fun h1 => ?_)
 ·have e : decide (p = q) = false := by
   obtain ⟨a1, a2⟩ := p; obtain ⟨b1, b2⟩ := q
   simp at h1 ⊢; intro e; exact absurd e h1
  rw [e] at k
  refine WP.sr (RG.br rfl (RG.nil ?_))
  exact WP.ret ⟨_, _, ResV.one rfl rfl, Cv.p, k⟩
 ·refine WP.skip ?_
  refine WP.seq (WP.sr (RG.p (PV.field rfl Fo189_1 rfl) (RG.p (PV.load1 rfl Sc2 rfl (Rd.blk rfl)) (RG.p (PV.field rfl Fo189_1 rfl) (RG.p (PV.load1 rfl Sc2 rfl (Rd.blk rfl)) (RG.p (PV.neq rfl rfl rfl) (RG.nil ?_)))))))
  refine WP.cond rfl (fun h2 => ?_) (fun h2 => ?_)
  ·have e : decide (p = q) = false := by
    obtain ⟨a1, a2⟩ := p; obtain ⟨b1, b2⟩ := q
    simp at h2 ⊢; exact fun _ => h2
   rw [e] at k
   refine WP.sr (RG.br rfl (RG.nil ?_))
   exact WP.ret ⟨_, _, ResV.one rfl rfl, Cv.p, k⟩
  ·have e : decide (p = q) = true := by
    obtain ⟨a1, a2⟩ := p; obtain ⟨b1, b2⟩ := q
    simp at h1 h2 ⊢; exact ⟨h1, h2⟩
   rw [e] at k
   refine WP.skip (WP.sr (RG.br rfl (RG.nil ?_)))
   exact WP.ret ⟨_, _, ResV.one rfl rfl, Cv.p, k⟩
theorem eqLabel_s {a b : Label} (k : R (.bool (decide (a = b))) G L) : CallT Tryz.prog 229 #[vT labelT a, vT labelT b] G L R := by
 refine CallT.enter (args := _) Tryz.func229 rfl rfl (by kernel_rfl) rfl ?_
 refine WP.sr ?_
 refine RG.ot rfl (OT.box (cs := labelT.enc a) rfl rfl rfl fun b2 => ?_)
 refine RG.ot rfl (OT.box (cs := labelT.enc b) rfl rfl rfl fun b3 => ?_)
 refine RG.br rfl (RG.nil (WP.seq (WP.sr (RG.p (PV.field rfl Fo191_0 rfl) (RG.p (PV.load1 rfl Sc2 rfl (Rd.blk rfl)) (RG.p (PV.field rfl Fo191_0 rfl) (RG.p (PV.load1 rfl Sc2 rfl (Rd.blk rfl)) (RG.p (PV.neq rfl rfl rfl) (RG.nil ?_)))))))))
 refine WP.cond rfl (fun h1 => ?_) (fun h1 => ?_)
 ·have e : decide (a = b) = false := by
   rw [decide_eq_false_iff_not]; rintro rfl; simp at h1
  rw [e] at k
  refine WP.sr (RG.br rfl (RG.nil ?_))
  exact WP.ret ⟨_, _, ResV.one rfl rfl, Cv.p, k⟩
 ·refine WP.skip ?_
  refine WP.seq (WP.sr (RG.p (PV.field rfl Fo191_1 rfl) (RG.p (PV.loadB (vs := [_, _]) rfl Ag189 rfl rfl rfl) (RG.p (PV.field rfl Fo191_1 rfl) (RG.p (PV.loadB (vs := [_, _]) rfl Ag189 rfl rfl rfl) ?_)))))
  refine RG.callF (vs := [_, _]) rfl rfl En263 rfl (eqPoint_s ?_)
  refine RG.p (PV.not rfl rfl) (RG.nil ?_)
  refine WP.cond rfl (fun h2 => ?_) (fun h2 => ?_)
  ·have e : decide (a = b) = false := by
    rw [decide_eq_false_iff_not]; rintro rfl; simp at h2
   rw [e] at k
   refine WP.sr (RG.br rfl (RG.nil ?_))
   exact WP.ret ⟨_, _, ResV.one rfl rfl, Cv.p, k⟩
  ·refine WP.skip ?_
   refine WP.seq (WP.sr (RG.p (PV.field rfl Fo191_2 rfl) (RG.p (PV.load1 rfl Sc9 rfl (Rd.blk rfl)) (RG.p (PV.field rfl Fo191_2 rfl) (RG.p (PV.load1 rfl Sc9 rfl (Rd.blk rfl)) (RG.p (PV.neqS rfl rfl rfl) (RG.nil ?_)))))))
   refine WP.cond rfl (fun h3 => ?_) (fun h3 => ?_)
   ·have e : decide (a = b) = false := by
     rw [decide_eq_false_iff_not]; rintro rfl; simp at h3
    rw [e] at k
    refine WP.sr (RG.br rfl (RG.nil ?_))
    exact WP.ret ⟨_, _, ResV.one rfl rfl, Cv.p, k⟩
   ·have e : decide (a = b) = true := by
     obtain ⟨a1, a2, a3⟩ := a; obtain ⟨b1, b2, b3⟩ := b
     simp at h1 h2 h3 ⊢; exact ⟨h1, h2, h3⟩
    rw [e] at k
    refine WP.skip (WP.sr (RG.br rfl (RG.nil ?_)))
    exact WP.ret ⟨_, _, ResV.one rfl rfl, Cv.p, k⟩
theorem eqLabelS_s {v u : Value} {xs ys : List Label} (h1 : Rs G L labelT v xs) (h2 : Rs G L labelT u ys) (k : R (.bool (decide (xs = ys))) G L) : CallT Tryz.prog 165 #[v, u] G L R := by
 refine CallT.bd h1 fun hb => ?_
 refine CallT.bd h2 fun hb' => ?_
 refine CallT.enter (args := _) Tryz.func165 rfl rfl (by kernel_rfl) rfl ?_
 refine WP.sr (RG.br rfl (RG.nil (WP.seq (WP.sr (RG.p (PV.move (v := v) rfl rfl) (RG.p (PV.len (v := v) rfl Tryz.underlying112 rfl (SlF.r h1)) (RG.p (PV.move (v := u) rfl rfl) (RG.p (PV.len (v := u) rfl Tryz.underlying112 rfl (SlF.r h2)) (RG.p (PV.neq rfl rfl rfl) (RG.nil ?_))))))))))
 refine WP.cond rfl (fun h3 => ?_) (fun h3 => ?_)
 ·have e : decide (xs = ys) = false := by
   rw [decide_eq_false_iff_not]; rintro rfl; simp at h3
  rw [e] at k
  refine WP.sr (RG.br rfl (RG.nil ?_))
  exact WP.ret ⟨_, _, ResV.one rfl rfl, Cv.p, k⟩
 ·have hl : xs.length = ys.length := by simp at h3; omega
  refine WP.skip (WP.seq (WP.sr (RG.mr rfl (RG.nil (WP.block ?_)))))
  refine WP.loop1 [0, 1] (fun i => i ≤ xs.length ∧ ∀ j, j < i → xs[j]? = ys[j]?) (fun i => [(5, vi i)]) (fun i => L) (fun i => xs.length - i) 0 ⟨by omega, fun j h => by omega⟩ ⟨rfl, trivial⟩ Cv.p ?_
  rintro i τ ⟨hi, he⟩
  refine WP.seq (WP.sr (RG.ml rfl (RG.p (PV.move (v := v) rfl rfl) (RG.p (PV.len (v := v) rfl Tryz.underlying112 rfl (SlF.r h1)) (RG.p (PV.lss rfl rfl rfl) (RG.nil ?_))))))
  refine WP.cond rfl (fun h4 => ?_) (fun h4 => ?_)
  ·have h4 := of_decide_eq_true h4
   have h5 : i < xs.length := by omega
   refine WP.skip (WP.seq (WP.block (WP.seq ?_)))
   refine WP.regionQ (by kernel_rfl) (by kernel_rfl) ?_
   refine RQ.pv rfl (PV.move (v := v) rfl rfl) (RQ.pv rfl (PV.mvI (.inl rfl) rfl) (RQ.pv rfl (PV.idxS (v := v) rfl Is112 rfl (SlF.r h1) rfl rfl (by omega)) (RQ.pv rfl (PV.loadE rfl Ag191 rfl rfl (El.r h1 (getG (by omega)))) (RQ.pv rfl (PV.move (v := u) rfl rfl) (RQ.pv rfl (PV.mvI (.inl rfl) rfl) (RQ.pv rfl (PV.idxS (v := u) rfl Is112 rfl (SlF.r h2) rfl rfl (by omega)) (RQ.pv rfl (PV.loadE rfl Ag191 rfl rfl (El.r h2 (getG (by omega)))) ?_)))))))
   refine RQ.callF (vs := [_, _]) rfl rfl En229 rfl (eqLabel_s ⟨rfl, rfl, rfl⟩) ?_
   refine RQ.pv rfl (PV.not rfl rfl) ?_
   refine RQ.nil ?_
   refine WP.cond rfl (fun h6 => ?_) (fun h6 => ?_)
   ·have e : decide (xs = ys) = false := by
     rw [decide_eq_false_iff_not]; rintro rfl; simp at h6
    rw [e] at k
    refine WP.sr (RG.br rfl (RG.nil ?_))
    exact WP.ret ⟨_, _, ResV.one rfl rfl, Cv.p, k⟩
   ·have e : gd xs i = gd ys i := by simpa using h6
    have he' : ∀ j, j < i + 1 → xs[j]? = ys[j]? := fun j h => by
     by_cases c : j = i
     ·rw [c, getG h5, getG (show i < ys.length by omega), e]
     ·exact he j (by omega)
    refine WP.skip (WP.region (RG.ml rfl (RG.p (PV.add rfl rfl rfl (by omega)) (RG.mr rfl (RG.nil ?_)))))
    exact ⟨rfl, i + 1, ⟨by omega, he'⟩, ⟨rfl, trivial⟩, ⟨rfl, rfl, trivial⟩, Cv.p, by omega⟩
  ·have h4 := of_decide_eq_false h4
   have e : decide (xs = ys) = true := by
    rw [decide_eq_true_iff]; exact pre_eq he hl (by omega)
   rw [e] at k
   refine WP.exit ?_
   refine WP.sr (RG.br rfl (RG.nil ?_))
   exact WP.ret ⟨_, _, ResV.one rfl rfl, Cv.p, k⟩
def szLb : List Label → Int → Int
  | [], n => n
  | w :: l, n => if n - w.name.size < 0 then -1 else szLb l (n - w.name.size)
theorem szLabel_s {w : Label} {n : Int} (hn : n ≤ 1048576) (h0 : 0 ≤ n) (hs : w.name.size ≤ 9223372036854775807) (k : ∀ r : Int, (r = if n - w.name.size < 0 then -1 else n - w.name.size) → R (vi r) G L) : CallT Tryz.prog 211 #[vT labelT w, vi n] G L R := by
 refine CallT.enter (args := _) Tryz.func211 rfl rfl (by kernel_rfl) rfl ?_
 refine WP.sr ?_
 refine RG.ot rfl (OT.box (cs := labelT.enc w) rfl rfl rfl fun b2 => ?_)
 refine RG.mr rfl (RG.nil (WP.sr (RG.ml rfl (RG.p (PV.field rfl Fo238_2 rfl) (RG.p (PV.load1 rfl Sc9 rfl (Rd.blk rfl)) (RG.p (PV.lenS rfl Tryz.underlying9 rfl) (RG.p (PV.sub rfl rfl rfl (by omega)) (RG.mr rfl (RG.nil (WP.seq (WP.sr ?_)))))))))))
 refine RG.ml rfl (RG.p (PV.lss rfl rfl rfl) (RG.nil ?_))
 refine WP.cond rfl (fun h1 => ?_) (fun h1 => ?_)
 ·have h1 := of_decide_eq_true h1
  refine WP.sr (RG.mr rfl (RG.nil ?_))
  exact WP.ret ⟨_, _, ResV.one rfl rfl, Cv.p, k _ (by rw [if_pos h1])⟩
 ·have h1 := of_decide_eq_false h1
  refine WP.skip (WP.sr (RG.ml rfl (RG.mr rfl (RG.nil ?_))))
  exact WP.ret ⟨_, _, ResV.one rfl rfl, Cv.p, k _ (by rw [if_neg h1])⟩
def szLbS (xs : List Label) (n : Int) : Int := if n - xs.length < 0 then -1 else szLb xs (n - xs.length)
theorem szLb_drop {xs : List Label} {i : Nat} {n : Int} (h : i < xs.length) : szLb (xs.drop i) n = if n - (gd xs i).name.size < 0 then -1 else szLb (xs.drop (i + 1)) (n - (gd xs i).name.size) := by
 rw [List.drop_eq_getElem_cons h, szLb, gd_eq h]
theorem szLbS_len {xs : List Label} {n : Int} (h : 0 ≤ szLbS xs n) : (xs.length : Int) ≤ n := by
 unfold szLbS at h; split at h <;> omega
theorem szLabelS_s {v : Value} {xs : List Label} {n : Int} (h1 : Rs G L labelT v xs) (hn : n ≤ 1048576) (h0 : 0 ≤ n) (hlen : ∀ i, i < xs.length → (gd xs i).name.size ≤ 9223372036854775807) (k : R (vi (szLbS xs n)) G L) : CallT Tryz.prog 135 #[v, vi n] G L R := by
 refine CallT.bd h1 fun hb => ?_
 refine CallT.enter (args := _) Tryz.func135 rfl rfl (by kernel_rfl) rfl ?_
 refine WP.sr (RG.mr rfl (RG.nil (WP.sr (RG.ml rfl (RG.p (PV.move (v := v) rfl rfl) (RG.p (PV.len (v := v) rfl Tryz.underlying121 rfl (SlF.r h1)) (RG.p (PV.sub rfl rfl rfl (by omega)) (RG.mr rfl (RG.nil (WP.seq (WP.seq ?_)))))))))))
 refine WP.region (RG.ml rfl (RG.p (PV.lss rfl rfl rfl) (RG.nil ?_)))
 refine WP.cond rfl (fun h2 => ?_) (fun h2 => ?_)
 ·have h2 := of_decide_eq_true h2
  rw [szLbS, if_pos h2] at k
  refine WP.sr (RG.mr rfl (RG.nil ?_))
  exact WP.ret ⟨_, _, ResV.one rfl rfl, Cv.p, k⟩
 ·have h2 := of_decide_eq_false h2
  rw [szLbS, if_neg h2] at k
  refine WP.skip (WP.seq (WP.sr (RG.mr rfl (RG.nil (WP.block ?_)))))
  refine WP.loop2 [0] (fun i m => i ≤ xs.length ∧ 0 ≤ m ∧ m ≤ 1048576 ∧ szLb xs (n - xs.length) = szLb (xs.drop i) m) (fun i m => [(5, vi i), (1, vi m)]) (fun i m => L) (fun i m => xs.length - i) 0 (n - xs.length) ⟨by omega, by omega, by omega, by simp⟩ ⟨rfl, rfl, trivial⟩ Cv.p ?_
  rintro i m τ ⟨hi, hm0, hm1, he⟩
  refine WP.seq (WP.sr (RG.ml rfl (RG.p (PV.move (v := v) rfl rfl) (RG.p (PV.len (v := v) rfl Tryz.underlying121 rfl (SlF.r h1)) (RG.p (PV.lss rfl rfl rfl) (RG.nil ?_))))))
  refine WP.cond rfl (fun h3 => ?_) (fun h3 => ?_)
  ·have h3 := of_decide_eq_true h3
   have h4 : i < xs.length := by omega
   rw [szLb_drop h4] at he
   refine WP.skip (WP.seq (WP.block (WP.sr (RG.p (PV.move (v := v) rfl rfl) (RG.ml rfl (RG.p (PV.idxS (v := v) rfl Is121 rfl (SlF.r h1) rfl rfl (by omega)) (RG.p (PV.loadE rfl Ag238 rfl rfl (El.r h1 (getG (by omega)))) (RG.ml rfl ?_))))))))
   refine RG.callF (vs := [_, _]) rfl rfl En211 rfl (szLabel_s (by omega) (by omega) (hlen _ (by assumption)) (fun r hr => ?_))
   refine RG.mr rfl (RG.nil (WP.sr (RG.ml rfl (RG.p (PV.lss rfl rfl rfl) (RG.nil ?_)))))
   refine WP.cond rfl (fun h5 => ?_) (fun h5 => ?_)
   ·have h5 := of_decide_eq_true h5
    have h6 : m - (gd xs i).name.size < 0 := by
     by_cases c : m - (gd xs i).name.size < 0
     ·exact c
     ·rw [if_neg c] at hr; omega
    rw [he, if_pos h6] at k
    refine WP.sr (RG.mr rfl (RG.nil ?_))
    exact WP.ret ⟨_, _, ResV.one rfl rfl, Cv.p, k⟩
   ·have h5 := of_decide_eq_false h5
    have h6 : ¬ m - (gd xs i).name.size < 0 := fun c => by rw [if_pos c] at hr; omega
    rw [if_neg h6] at he hr
    subst hr
    refine WP.skip (WP.region (RG.ml rfl (RG.p (PV.add rfl rfl rfl (by omega)) (RG.mr rfl (RG.nil ?_)))))
    exact ⟨rfl, i + 1, _, ⟨by omega, by omega, by omega, he⟩, ⟨rfl, rfl, trivial⟩, ⟨rfl, trivial⟩, Cv.p, by omega⟩
  ·have h3 := of_decide_eq_false h3
   rw [he, List.drop_eq_nil_of_le (by omega), szLb] at k
   refine WP.exit ?_
   refine WP.sr (RG.ml rfl (RG.mr rfl (RG.nil ?_)))
   exact WP.ret ⟨_, _, ResV.one rfl rfl, Cv.p, k⟩
def mkLb (_ : Label) (k : Int) : Label := ⟨k, ⟨k + 1, k + 1 + 1⟩, mText (k + 1 + 1 + 1)⟩
def nLb (_ : Label) : Int := 4
theorem nLb_cost (xs : List Label) : costL nLb xs = 4 * xs.length := costL_const 4 xs
theorem mkLb_at {xs : List Label} {i : Nat} {k0 kk : Int} (h : i < xs.length) (e : kk = k0 + 4 * i) : mkLb (gd xs i) (k0 + costL nLb (xs.take i)) = ⟨kk, ⟨kk + 1, kk + 1 + 1⟩, mText (kk + 1 + 1 + 1)⟩ := by
 rw [mkLb, nLb_cost, List.length_take, Nat.min_eq_left (by omega), e]
theorem markLabelS_s {v : Value} {xs : List Label} {k0 : Int} (hk : 0 ≤ k0) (hb : k0 + costL nLb xs ≤ 4611686018427387904) (k : R (vi (k0 + costL nLb xs)) G (osl 191 labelT v (markL mkLb nLb xs k0) :: L)) : CallT Tryz.prog 87 #[v, vi k0] G (osl 191 labelT v xs :: L) R := by
 have hc := nLb_cost xs
 refine CallT.cv (Cv.eqS (markTo_zero (mk := mkLb) (n := nLb) (k := k0)).symm) ?_
 refine CallT.enter (args := _) Tryz.func87 rfl rfl (by kernel_rfl) rfl ?_
 refine WP.sr (RG.mr rfl (RG.nil (WP.seq (WP.sr (RG.mr rfl (RG.nil (WP.block ?_)))))))
 refine WP.loop2 [0] (fun (i : Nat) (kk : Int) => i ≤ xs.length ∧ kk = k0 + 4 * i) (fun (i : Nat) (kk : Int) => [(5, vi i), (1, vi kk)]) (fun (i : Nat) (kk : Int) => osl 191 labelT v (markTo mkLb nLb xs k0 i) :: L) (fun (i : Nat) (kk : Int) => xs.length - i) 0 k0 ⟨by omega, by omega⟩ ⟨rfl, rfl, trivial⟩ Cv.p ?_
 rintro i kk τ ⟨hi, hkk⟩
 refine WP.seq (WP.sr (RG.ml rfl (RG.p (PV.move (v := v) rfl rfl) (RG.p (PV.len (v := v) rfl Tryz.underlying112 rfl SlF.o) (RG.p (PV.lss rfl rfl rfl) (RG.nil ?_))))))
 have hml := markTo_len (mk := mkLb) (n := nLb) (k := k0) hi
 refine WP.cond rfl (fun h1 => ?_) (fun h1 => ?_)
 ·have h1 := of_decide_eq_true h1
  have h2 : i < xs.length := by omega
  refine WP.skip (WP.seq (WP.block (WP.sr (RG.p (PV.move (v := v) rfl rfl) (RG.ml rfl (RG.ml rfl (RG.p (PV.idxS (v := v) rfl Is112 rfl SlF.o rfl rfl (by omega)) (RG.p (PV.field rfl Fo191_0 rfl) ?_))))))))
  refine RG.ot rfl (OT.storeF (F := labelT) (val := vi) (cv := fun u => [vi u]) (st := Label.s0) rfl Sz2 rfl rfl rfl (Cl.c rfl) rfl (OneC.c rfl) (by exact set_self (by omega)) (by first | omega | (simp; omega)) rfl (fun _ _ => rfl) ?_)
  refine RG.nil (WP.sr (RG.ml rfl (RG.p (PV.add rfl rfl rfl (by first | omega | (simp only [List.length_set]; omega))) (RG.mr rfl (RG.nil (WP.sr (RG.p (PV.move (v := v) rfl rfl) (RG.ml rfl (RG.ml rfl (RG.p (PV.idxS (v := v) rfl Is112 rfl SlF.o rfl rfl (by first | omega | (simp only [List.length_set]; omega))) (RG.p (PV.field rfl Fo191_1 rfl) ?_)))))))))))
  refine RG.p (PV.field rfl Fo189_0 rfl) ?_
  refine RG.ot rfl (OT.storeF (F := labelT) (val := vi) (cv := fun u => [vi u]) (j := 1) (st := Label.s1_0) rfl Sz2 rfl rfl rfl (Cl.c rfl) rfl (OneC.c rfl) (by rfl) (by first | omega | (simp; omega)) rfl (fun _ _ => rfl) ?_)
  refine RG.nil (WP.sr (RG.ml rfl (RG.p (PV.add rfl rfl rfl (by first | omega | (simp only [List.length_set]; omega))) (RG.mr rfl (RG.nil (WP.sr (RG.p (PV.move (v := v) rfl rfl) (RG.ml rfl (RG.ml rfl (RG.p (PV.idxS (v := v) rfl Is112 rfl SlF.o rfl rfl (by first | omega | (simp only [List.length_set]; omega))) (RG.p (PV.field rfl Fo191_1 rfl) ?_)))))))))))
  refine RG.p (PV.field rfl Fo189_1 rfl) ?_
  refine RG.ot rfl (OT.storeF (F := labelT) (val := vi) (cv := fun u => [vi u]) (j := 2) (st := Label.s1_1) rfl Sz2 rfl rfl rfl (Cl.c rfl) rfl (OneC.c rfl) (by rfl) (by first | omega | (simp; omega)) rfl (fun _ _ => rfl) ?_)
  refine RG.nil (WP.sr (RG.ml rfl (RG.p (PV.add rfl rfl rfl (by first | omega | (simp only [List.length_set]; omega))) (RG.mr rfl (RG.nil (WP.sr (RG.p (PV.move (v := v) rfl rfl) (RG.ml rfl (RG.ml rfl ?_)))))))))
  refine RG.callF (vs := [_]) rfl rfl En85 rfl (markText_s (by omega) ?_)
  refine RG.p (PV.idxS (v := v) rfl Is112 rfl SlF.o rfl rfl (by first | omega | (simp only [List.length_set]; omega))) (RG.p (PV.field rfl Fo191_2 rfl) ?_)
  refine RG.ot rfl (OT.storeF (F := labelT) (val := Value.string) (cv := fun u => [.string u]) (st := Label.s2) rfl Sz9 rfl rfl rfl (Cl.c rfl) rfl (OneC.c rfl) (by rfl) (by first | omega | (simp; omega)) rfl (fun _ _ => rfl) ?_)
  refine RG.nil (WP.region (RG.ml rfl (RG.p (PV.add rfl rfl rfl (by first | omega | (simp only [List.length_set]; omega))) (RG.mr rfl (RG.nil (WP.region (RG.ml rfl (RG.p (PV.add rfl rfl rfl (by first | omega | (simp only [List.length_set]; omega))) (RG.mr rfl (RG.nil ?_))))))))))
  exact ⟨rfl, i + 1, _, ⟨by omega, by omega⟩, ⟨rfl, rfl, trivial⟩, ⟨rfl, trivial⟩, (Cv.eqS (by rw [← markTo_set h2, mkLb_at h2 hkk])), by omega⟩
 ·have h1 := of_decide_eq_false h1
  have e : kk = k0 + costL nLb xs := by omega
  rw [← e] at k
  refine WP.exit ?_
  refine WP.sr (RG.ml rfl (RG.mr rfl (RG.nil ?_)))
  exact WP.ret ⟨_, _, ResV.one rfl rfl, (Cv.eqS (markTo_all (by omega))), k⟩
end Go.Proofs.YtgphjofccckloaaGreat
namespace Go.Proofs.YtgphjofccckloaaGreat
open Go
set_option maxRecDepth 20000
structure ECell where
  name : ByteArray
  shapes : List Shape
  labels : List Label
  insts : List Inst
  deriving DecidableEq, Inhabited
def erCl (c : Cell) : ECell := ⟨c.name, c.shapes.xs, c.labels.xs, c.insts.xs⟩
def erCls (xs : List Cell) : List ECell := xs.map erCl
theorem erCls_len (xs : List Cell) : (erCls xs).length = xs.length := by simp [erCls]
theorem erCls_gd {xs : List Cell} {i : Nat} (h : i < xs.length) : gd (erCls xs) i = erCl (gd xs i) := gd_map _ h
def okSh (s : Shape) : Bool := within s.layer 0 7 && validRect s.box
def okIn (k : Int) (n : Inst) : Bool :=
  within n.cell 0 (k - 1) && validT n.place && within n.cols 1 4 && within n.rows 1 4 && within n.sx (-80) 80 && within n.sy (-80) 80 && (decide (n.sx = 0) || decide (1 < n.cols)) && (decide (n.sy = 0) || decide (1 < n.rows))
def okCell (k : Int) (c : ECell) : Bool :=
  isName c.name && decide ((c.shapes.length : Int) ≤ 24) && decide ((c.labels.length : Int) ≤ 8) && decide ((c.insts.length : Int) ≤ 8) && !(c.shapes.any fun s => !okSh s) && !(c.labels.any fun l => !validLb l) && !(c.insts.any fun n => !okIn k n)
def nameAt (cs : List ECell) (i : Nat) : Bool := decide (∀ j, j < i → (gd cs j).name ≠ (gd cs i).name)
def cellAt (cs : List ECell) (i : Nat) : Bool := okCell i (gd cs i) && nameAt cs i
def okLib (cs : List ECell) : Bool := decide (1 ≤ cs.length) && decide (cs.length ≤ 8) && decide (∀ i, i < cs.length → cellAt cs i = true)
theorem okLib_false {cs : List ECell} {i : Nat} (h : i < cs.length) (e : cellAt cs i = false) : okLib cs = false := by
 simp only [okLib, Bool.and_eq_false_iff, decide_eq_false_iff_not]
 exact .inr fun hh => by rw [hh i h] at e; cases e
theorem okLib_all {cs : List ECell} (h1 : 1 ≤ cs.length) (h2 : cs.length ≤ 8) (h : ∀ i, i < cs.length → cellAt cs i = true) : okLib cs = true := by
 simp only [okLib, Bool.and_eq_true, decide_eq_true_eq]
 exact ⟨⟨h1, h2⟩, h⟩
theorem okLib_len {cs : List ECell} (h : okLib cs = true) : 1 ≤ cs.length ∧ cs.length ≤ 8 := by
 simp only [okLib, Bool.and_eq_true, decide_eq_true_eq] at h; exact h.1
theorem okLib_cell {cs : List ECell} (h : okLib cs = true) {i : Nat} (hi : i < cs.length) : okCell i (gd cs i) = true := by
 simp only [okLib, Bool.and_eq_true, decide_eq_true_eq] at h
 have := h.2 i hi
 simp only [cellAt, Bool.and_eq_true] at this; exact this.1
theorem any_not {α : Type} [Inhabited α] {p : α → Bool} {xs : List α} (h : (xs.any fun a => !p a) = false) {i : Nat} (hi : i < xs.length) : p (gd xs i) = true := by
 rw [List.any_eq_false] at h
 have := h (gd xs i) (gd_mem hi)
 simpa using this
theorem okLib_inst {cs : List ECell} (h : okLib cs = true) {i j : Nat} (hi : i < cs.length) (hj : j < (gd cs i).insts.length) : okIn i (gd (gd cs i).insts j) = true := by
 have := okLib_cell h hi
 simp only [okCell, Bool.and_eq_true, Bool.not_eq_true'] at this
 exact any_not this.2 hj
theorem okLib_shape {cs : List ECell} (h : okLib cs = true) {i j : Nat} (hi : i < cs.length) (hj : j < (gd cs i).shapes.length) : okSh (gd (gd cs i).shapes j) = true := by
 have := okLib_cell h hi
 simp only [okCell, Bool.and_eq_true, Bool.not_eq_true'] at this
 exact any_not this.1.1.2 hj
theorem okLib_cnt {cs : List ECell} (h : okLib cs = true) {i : Nat} (hi : i < cs.length) : (gd cs i).insts.length ≤ 8 ∧ (gd cs i).shapes.length ≤ 24 := by
 have := okLib_cell h hi
 simp only [okCell, Bool.and_eq_true, decide_eq_true_eq] at this
 omega
theorem okIn_bd {k : Int} {n : Inst} (h : okIn k n = true) : (0 ≤ n.cell ∧ n.cell ≤ k - 1) ∧ validT n.place = true ∧ (1 ≤ n.cols ∧ n.cols ≤ 4) ∧ (1 ≤ n.rows ∧ n.rows ≤ 4) ∧ (-80 ≤ n.sx ∧ n.sx ≤ 80) ∧ (-80 ≤ n.sy ∧ n.sy ≤ 80) := by
 simp only [okIn, within, Bool.and_eq_true, decide_eq_true_eq] at h
 exact ⟨h.1.1.1.1.1.1.1, h.1.1.1.1.1.1.2, h.1.1.1.1.1.2, h.1.1.1.1.2, h.1.1.1.2, h.1.1.2⟩
theorem range_gd {n q : Nat} (h : q < n) : gd (List.range n) q = q := by unfold gd; simp [h]
def elPlace (n : Inst) (c r : Int) : Trans := ⟨n.place.o, n.place.x + c * n.sx, n.place.y + r * n.sy⟩
def elsOf (n : Inst) : List HElem := (List.range (n.rows.toNat * n.cols.toNat)).map fun q => ⟨n.cell, elPlace n ((q % n.cols.toNat : Nat) : Int) ((q / n.cols.toNat : Nat) : Int)⟩
def elems (ns : List Inst) : List HElem := ns.flatMap elsOf
theorem elsOf_len (n : Inst) : (elsOf n).length = n.rows.toNat * n.cols.toNat := by simp [elsOf]
theorem elsOf_gd {n : Inst} {c r : Nat} (hc : c < n.cols.toNat) (hr : r < n.rows.toNat) : r * n.cols.toNat + c < (elsOf n).length ∧ gd (elsOf n) (r * n.cols.toNat + c) = ⟨n.cell, elPlace n c r⟩ := by
 have h1 : r * n.cols.toNat + c < n.rows.toNat * n.cols.toNat := by
  have := Nat.mul_le_mul_right n.cols.toNat (show r + 1 ≤ n.rows.toNat by omega)
  rw [Nat.add_mul] at this; omega
 refine ⟨by rw [elsOf_len]; exact h1, ?_⟩
 have hm : (r * n.cols.toNat + c) % n.cols.toNat = c := by rw [Nat.add_comm, Nat.add_mul_mod_self_right, Nat.mod_eq_of_lt hc]
 have hd : (r * n.cols.toNat + c) / n.cols.toNat = r := by rw [Nat.add_comm, Nat.add_mul_div_right _ _ (by omega), Nat.div_eq_of_lt hc, Nat.zero_add]
 have hr : gd (List.range (n.rows.toNat * n.cols.toNat)) (r * n.cols.toNat + c) = r * n.cols.toNat + c := range_gd h1
 rw [elsOf, gd_map _ (by simpa using h1), hr, hm, hd]
theorem elsOf_step {n : Inst} {c r : Nat} (hc : c < n.cols.toNat) (hr : r < n.rows.toNat) : (elsOf n).take (r * n.cols.toNat + (c + 1)) = (elsOf n).take (r * n.cols.toNat + c) ++ [⟨n.cell, elPlace n c r⟩] := by
 obtain ⟨h1, h2⟩ := elsOf_gd hc hr
 rw [← Nat.add_assoc, List.take_add_one, getG h1, h2]; rfl
theorem elems_take {ns : List Inst} {i : Nat} (h : i < ns.length) : elems (ns.take (i + 1)) = elems (ns.take i) ++ elsOf (gd ns i) := by
 rw [elems, elems, List.take_add_one, getG h, List.flatMap_append]; simp
theorem elems_split {ns : List Inst} {i : Nat} (h : i < ns.length) : elems ns = elems (ns.take i) ++ elsOf (gd ns i) ++ elems (ns.drop (i + 1)) := by
 conv => lhs; rw [← List.take_append_drop (i + 1) ns]
 rw [elems, List.flatMap_append]
 have := elems_take h
 rw [elems] at this
 rw [this]; rfl
theorem elems_at {ns : List Inst} {i c r : Nat} (h : i < ns.length) (hc : c < (gd ns i).cols.toNat) (hr : r < (gd ns i).rows.toNat) :
  (elems (ns.take i)).length + (r * (gd ns i).cols.toNat + c) < (elems ns).length ∧ gd (elems ns) ((elems (ns.take i)).length + (r * (gd ns i).cols.toNat + c)) = ⟨(gd ns i).cell, elPlace (gd ns i) c r⟩ := by
 obtain ⟨h1, h2⟩ := elsOf_gd hc hr
 rw [elems_split h]
 refine ⟨by simp only [List.length_append]; omega, ?_⟩
 rw [List.append_assoc, gd_app_at, gd_app_l h1, h2]
theorem elems_mem {ns : List Inst} {e : HElem} (h : e ∈ elems ns) : ∃ j c r : Nat, j < ns.length ∧ c < (gd ns j).cols.toNat ∧ r < (gd ns j).rows.toNat ∧ e = ⟨(gd ns j).cell, elPlace (gd ns j) c r⟩ := by
 obtain ⟨n, hn, he⟩ := List.mem_flatMap.1 h
 obtain ⟨j, hj, rfl⟩ := List.getElem_of_mem hn
 rw [← gd_eq hj] at he
 obtain ⟨q, hq, rfl⟩ := List.mem_map.1 he
 have hq := List.mem_range.1 hq
 have h0 : 0 < (gd ns j).cols.toNat := by
  rcases Nat.eq_zero_or_pos (gd ns j).cols.toNat with h | h
  ·rw [h] at hq; omega
  ·exact h
 exact ⟨j, q % (gd ns j).cols.toNat, q / (gd ns j).cols.toNat, hj, Nat.mod_lt _ h0, (Nat.div_lt_iff_lt_mul h0).2 hq, rfl⟩
theorem mul_bd {a b A B : Int} (ha : 0 ≤ a ∧ a ≤ A) (hb : -B ≤ b ∧ b ≤ B) (hB : 0 ≤ B) : -(A * B) ≤ a * b ∧ a * b ≤ A * B := by
 have h1 : a * b ≤ a * B := Int.mul_le_mul_of_nonneg_left hb.2 ha.1
 have h2 : a * -B ≤ a * b := Int.mul_le_mul_of_nonneg_left hb.1 ha.1
 have h3 : a * B ≤ A * B := Int.mul_le_mul_of_nonneg_right ha.2 hB
 rw [Int.mul_neg] at h2
 omega
theorem elPlace_bd {k : Int} {n : Inst} (h : okIn k n = true) {c r : Nat} (hc : c < n.cols.toNat) (hr : r < n.rows.toNat) : (0 ≤ (elPlace n c r).o ∧ (elPlace n c r).o ≤ 7) ∧ (-320 ≤ (elPlace n c r).x ∧ (elPlace n c r).x ≤ 320) ∧ -320 ≤ (elPlace n c r).y ∧ (elPlace n c r).y ≤ 320 := by
 obtain ⟨_, h2, h3, h4, h5, h6⟩ := okIn_bd h
 obtain ⟨q1, q2, q3⟩ := validT_iff.1 h2
 have e1 := mul_bd (a := (c : Int)) (b := n.sx) (A := 3) (B := 80) (by omega) h5 (by omega)
 have e2 := mul_bd (a := (r : Int)) (b := n.sy) (A := 3) (B := 80) (by omega) h6 (by omega)
 refine ⟨q1, ?_, ?_⟩ <;> simp only [elPlace] <;> omega
theorem elem_bd {cs : List ECell} (h : okLib cs = true) {k : Nat} (hk : k < cs.length) {i : Nat} (hi : i < (elems (gd cs k).insts).length) :
  (0 ≤ (gd (elems (gd cs k).insts) i).cell ∧ (gd (elems (gd cs k).insts) i).cell < k) ∧ (0 ≤ (gd (elems (gd cs k).insts) i).place.o ∧ (gd (elems (gd cs k).insts) i).place.o ≤ 7) ∧ (-320 ≤ (gd (elems (gd cs k).insts) i).place.x ∧ (gd (elems (gd cs k).insts) i).place.x ≤ 320) ∧ -320 ≤ (gd (elems (gd cs k).insts) i).place.y ∧ (gd (elems (gd cs k).insts) i).place.y ≤ 320 := by
 obtain ⟨j, c, r, hj, hc, hr, e⟩ := elems_mem (gd_mem hi)
 have ho := okLib_inst h hk hj
 rw [e]
 exact ⟨by have := (okIn_bd ho).1; simp only; omega, elPlace_bd ho hc hr⟩
theorem elems_bd {cs : List ECell} (h : okLib cs = true) {k : Nat} (hk : k < cs.length) : ∀ i, i ≤ (gd cs k).insts.length → (elems ((gd cs k).insts.take i)).length ≤ 16 * i
 | 0, _ => by simp [elems]
 | i + 1, hi => by
  have ih := elems_bd h hk i (by omega)
  obtain ⟨_, _, h3, h4, _, _⟩ := okIn_bd (okLib_inst h hk (j := i) (by omega))
  have := Nat.mul_le_mul (show (gd (gd cs k).insts i).rows.toNat ≤ 4 by omega) (show (gd (gd cs k).insts i).cols.toNat ≤ 4 by omega)
  rw [elems_take (by omega), List.length_append, elsOf_len]; omega
theorem elems_len_bd {cs : List ECell} (h : okLib cs = true) {k : Nat} (hk : k < cs.length) : (elems (gd cs k).insts).length ≤ 128 := by
 have := elems_bd h hk _ (Nat.le_refl _)
 rw [List.take_of_length_le (Nat.le_refl _)] at this
 have := (okLib_cnt h hk).1
 omega
def cntI (ks : List Int) (n : Inst) : Int := n.cols * n.rows * gd ks n.cell.toNat
def ownCnt (ks : List Int) (ns : List Inst) : Int := 1 + costL (cntI ks) ns
def cnts (cs : List ECell) : Nat → List Int
  | 0 => []
  | n + 1 => cnts cs n ++ [ownCnt (cnts cs n) (gd cs n).insts]
theorem cnts_len (cs : List ECell) : ∀ n, (cnts cs n).length = n
 | 0 => rfl
 | n + 1 => by simp [cnts, cnts_len cs n]
def cntOf (cs : List ECell) (k : Nat) : Int := ownCnt (cnts cs k) (gd cs k).insts
theorem cnts_gd (cs : List ECell) : ∀ {n i : Nat}, i < n → gd (cnts cs n) i = cntOf cs i
 | n + 1, i, h => by
  rw [cnts]
  by_cases e : i < n
  ·rw [gd_app_l (by rw [cnts_len]; exact e), cnts_gd cs e]
  ·obtain rfl : i = n := by omega
   have := gd_app_r (xs := cnts cs i) (a := ownCnt (cnts cs i) (gd cs i).insts)
   rw [cnts_len] at this
   rw [this]; rfl
theorem costL_bdH {α : Type} [Inhabited α] {n : α → Int} {B : Int} (hB : 0 ≤ B) {xs : List α} (h : ∀ i, i < xs.length → 0 ≤ n (gd xs i) ∧ n (gd xs i) ≤ B) : ∀ i, i ≤ xs.length → 0 ≤ costL n (xs.take i) ∧ costL n (xs.take i) ≤ B * i
 | 0, _ => by simp [costL]
 | i + 1, hi => by
  have ih := costL_bdH hB h i (by omega)
  have := h i (by omega)
  rw [costL_take n (by omega)]
  have e : B * ((i + 1 : Nat) : Int) = B * i + B := by rw [Int.natCast_add, Int.mul_add]; simp
  omega
theorem cntI_bd {k M : Int} {ks : List Int} {n : Inst} (h : okIn k n = true) (hk : 0 ≤ gd ks n.cell.toNat ∧ gd ks n.cell.toNat ≤ M) : 0 ≤ cntI ks n ∧ cntI ks n ≤ 16 * M := by
 obtain ⟨_, _, h3, h4, _, _⟩ := okIn_bd h
 have e1 := mul_bd (a := n.cols) (b := n.rows) (A := 4) (B := 4) (by omega) (by omega) (by omega)
 have e0 : 0 ≤ n.cols * n.rows := Int.mul_nonneg (by omega) (by omega)
 have e2 := mul_bd (a := n.cols * n.rows) (b := gd ks n.cell.toNat) (A := 16) (B := M) (by omega) (by omega) (by omega)
 have e3 : 0 ≤ n.cols * n.rows * gd ks n.cell.toNat := Int.mul_nonneg e0 hk.1
 simp only [cntI]; omega
theorem ownCnt_bd {cs : List ECell} (h : okLib cs = true) {M : Int} (hM : 0 ≤ M) {k : Nat} (hk : k < cs.length) (hh : ∀ i, i < k → 0 ≤ gd (cnts cs k) i ∧ gd (cnts cs k) i ≤ M) : ∀ i, i ≤ (gd cs k).insts.length → 1 ≤ 1 + costL (cntI (cnts cs k)) ((gd cs k).insts.take i) ∧ 1 + costL (cntI (cnts cs k)) ((gd cs k).insts.take i) ≤ 1 + 128 * M := by
 intro i hi
 have hc := (okLib_cnt h hk).1
 have := costL_bdH (n := cntI (cnts cs k)) (B := 16 * M) (by omega) (xs := (gd cs k).insts) (fun j hj => cntI_bd (okLib_inst h hk hj) (hh _ (by have := (okIn_bd (okLib_inst h hk hj)).1; omega))) i hi
 have e : 16 * M * i ≤ 16 * M * 8 := Int.mul_le_mul_of_nonneg_left (by omega) (by omega)
 omega
theorem cntOf_bd {cs : List ECell} (h : okLib cs = true) : ∀ k, k < cs.length → 1 ≤ cntOf cs k ∧ cntOf cs k ≤ 129 ^ (k + 1) := by
 intro k
 induction k using Nat.strongRecOn with
 | ind k ih =>
  intro hk
  have := ownCnt_bd h (M := 129 ^ k) (Int.le_of_lt (Int.pow_pos (show (0 : Int) < 129 by omega))) hk (fun i hi => by
   have hb := ih i hi (by omega)
   rw [cnts_gd cs hi]
   refine ⟨by omega, Int.le_trans hb.2 ?_⟩
   have := Nat.pow_le_pow_right (n := 129) (by omega) (show i + 1 ≤ k by omega)
   exact_mod_cast this) _ (Nat.le_refl _)
  rw [List.take_of_length_le (Nat.le_refl _)] at this
  refine ⟨this.1, Int.le_trans this.2 ?_⟩
  have h1 : (1 : Int) ≤ 129 ^ k := by
   have : (0 : Int) < 129 ^ k := Int.pow_pos (show (0 : Int) < 129 by omega)
   omega
  rw [Int.pow_succ]; omega
theorem cnts_big {cs : List ECell} (h : okLib cs = true) {k : Nat} (hk : k < cs.length) : ∀ i, i < k → 0 ≤ gd (cnts cs k) i ∧ gd (cnts cs k) i ≤ 594467302491009 := by
 intro i hi
 rw [cnts_gd cs hi]
 have h1 := cntOf_bd h i (by omega)
 have h2 := (okLib_len h).2
 have : (129 : Nat) ^ (i + 1) ≤ 129 ^ 7 := Nat.pow_le_pow_right (by omega) (by omega)
 have h3' : ((129 : Int) ^ (i + 1)) ≤ 129 ^ 7 := by exact_mod_cast this
 have h3 : ((129 : Int) ^ (i + 1)) ≤ 594467302491009 := Int.le_trans h3' (by decide)
 omega
structure EOcc where
  cell : Int
  place : Trans
  path : List Int
  deriving DecidableEq, Inhabited
def erO (o : Occ) : EOcc := ⟨o.cell, o.place, o.path.xs⟩
def erOs (xs : List Occ) : List EOcc := xs.map erO
theorem erOs_len (xs : List Occ) : (erOs xs).length = xs.length := by simp [erOs]
theorem erOs_gd {xs : List Occ} {i : Nat} (h : i < xs.length) : gd (erOs xs) i = erO (gd xs i) := gd_map _ h
def cmpo (a b : Int) : Int := (if 4 ≤ b then b % 4 + 4 - a % 4 else b % 4 + a % 4) % 4 + (if decide (4 ≤ a) = decide (4 ≤ b) then 0 else 4)
theorem cmpo_in {a b : Int} : 0 ≤ cmpo a b ∧ cmpo a b ≤ 7 := by
 unfold cmpo
 generalize (if 4 ≤ b then b % 4 + 4 - a % 4 else b % 4 + a % 4) = z
 split <;> omega
def cmpT (t u : Trans) : Trans := ⟨cmpo t.o u.o, (moveP u ⟨t.x, t.y⟩).x, (moveP u ⟨t.x, t.y⟩).y⟩
def kid (o : EOcc) (e : HElem) (n : Nat) : EOcc := ⟨e.cell, cmpT e.place o.place, o.path ++ [(n : Int)]⟩
def occF (cs : List ECell) : Nat → EOcc → List EOcc
  | 0, o => [o]
  | f + 1, o => o :: ((List.range (elems (gd cs o.cell.toNat).insts).length).flatMap fun n => occF cs f (kid o (gd (elems (gd cs o.cell.toNat).insts) n) n))
def occTo (cs : List ECell) (f : Nat) (o : EOcc) (i : Nat) : List EOcc := o :: ((List.range i).flatMap fun n => occF cs f (kid o (gd (elems (gd cs o.cell.toNat).insts) n) n))
theorem occTo_zero (cs : List ECell) (f : Nat) (o : EOcc) : occTo cs f o 0 = [o] := rfl
theorem occTo_succ (cs : List ECell) (f : Nat) (o : EOcc) (i : Nat) : occTo cs f o (i + 1) = occTo cs f o i ++ occF cs f (kid o (gd (elems (gd cs o.cell.toNat).insts) i) i) := by
 simp [occTo, List.range_succ, List.flatMap_append]
theorem occTo_all (cs : List ECell) (f : Nat) (o : EOcc) : occTo cs f o (elems (gd cs o.cell.toNat).insts).length = occF cs (f + 1) o := rfl
def oIn (f : Nat) (o : EOcc) : Prop := (0 ≤ o.cell ∧ o.cell < f) ∧ (0 ≤ o.place.o ∧ o.place.o ≤ 7) ∧ (-(320 * (8 - (f : Int))) ≤ o.place.x ∧ o.place.x ≤ 320 * (8 - f)) ∧ -(320 * (8 - (f : Int))) ≤ o.place.y ∧ o.place.y ≤ 320 * (8 - f)
theorem kid_in {cs : List ECell} (h : okLib cs = true) {f : Nat} {o : EOcc} (ho : oIn (f + 1) o) (hl : o.cell.toNat < cs.length) {i : Nat} (hi : i < (elems (gd cs o.cell.toNat).insts).length) : oIn f (kid o (gd (elems (gd cs o.cell.toNat).insts) i) i) := by
 obtain ⟨h1, h2, h3, h4⟩ := elem_bd h hl hi
 obtain ⟨⟨k1, k2⟩, k3, k4, k5⟩ := ho
 obtain ⟨t1, t2, t3, t4⟩ : InB 320 (turnP o.place.o ⟨(gd (elems (gd cs o.cell.toNat).insts) i).place.x, (gd (elems (gd cs o.cell.toNat).insts) i).place.y⟩) := turnP_in ⟨h3.1, h3.2, h4.1, h4.2⟩
 refine ⟨?_, ?_, ?_, ?_⟩
 ·simp only [kid]; omega
 ·exact cmpo_in
 ·simp only [kid, cmpT, moveP]; omega
 ·simp only [kid, cmpT, moveP]; omega
theorem flatMap_len {α : Type} (g : Nat → List α) : ∀ n, (((List.range n).flatMap g).length : Int) = ((List.range n).map fun i => ((g i).length : Int)).sum
 | 0 => rfl
 | n + 1 => by
  have ih := flatMap_len g n
  simp only [List.range_succ, List.flatMap_append, List.length_append, List.map_append, List.sum_append, Int.natCast_add, ih]
  simp
theorem sum_elems (g : Int → Int) : ∀ ns : List Inst, (∀ i, i < ns.length → 1 ≤ (gd ns i).cols ∧ 1 ≤ (gd ns i).rows) → (((elems ns).map fun e => g e.cell).sum : Int) = costL (fun n => n.cols * n.rows * g n.cell) ns
 | [], _ => rfl
 | n :: ns, h => by
  have ih := sum_elems g ns (fun i hi => by have := h (i + 1) (by simpa using hi); simpa [gd] using this)
  have h0 := h 0 (by simp)
  have e0 : gd (n :: ns) 0 = n := by simp [gd]
  rw [e0] at h0
  have e : elems (n :: ns) = elsOf n ++ elems ns := rfl
  rw [e, List.map_append, List.sum_append, ih, costL]
  congr 1
  have : (elsOf n).map (fun e => g e.cell) = List.replicate (n.rows.toNat * n.cols.toNat) (g n.cell) := by
   rw [elsOf, List.map_map, List.eq_replicate_iff]
   simp [Function.comp_def]
  rw [this, List.sum_replicate_int]
  rw [Int.natCast_mul, Int.toNat_of_nonneg (by omega), Int.toNat_of_nonneg (by omega), Int.mul_comm n.rows]
theorem map_range_gd {α β : Type} [Inhabited α] (g : α → β) (xs : List α) : (List.range xs.length).map (fun i => g (gd xs i)) = xs.map g := by
 apply List.ext_getElem?
 intro i
 by_cases hi : i < xs.length
 ·simp [hi, gd_eq hi]
 ·simp [List.getElem?_eq_none (Nat.le_of_not_lt hi), List.getElem?_eq_none (l := List.range xs.length) (by simpa using Nat.le_of_not_lt hi)]
theorem occF_len {cs : List ECell} (h : okLib cs = true) : ∀ (f : Nat) (o : EOcc), 0 ≤ o.cell → o.cell.toNat < f → o.cell.toNat < cs.length → ((occF cs f o).length : Int) = cntOf cs o.cell.toNat
 | 0, _, _, h, _ => by omega
 | f + 1, o, h0, hf, hl => by
  rw [occF, List.length_cons, Int.natCast_add, flatMap_len]
  have e1 : ∀ i ∈ List.range (elems (gd cs o.cell.toNat).insts).length, ((occF cs f (kid o (gd (elems (gd cs o.cell.toNat).insts) i) i)).length : Int) = cntOf cs (gd (elems (gd cs o.cell.toNat).insts) i).cell.toNat := fun i hi => by
   have hi := List.mem_range.1 hi
   have hb := (elem_bd h hl hi).1
   exact occF_len h f _ hb.1 (by simp only [kid]; omega) (by simp only [kid]; omega)
  rw [List.map_congr_left e1, map_range_gd (fun e : HElem => cntOf cs e.cell.toNat), sum_elems (fun c => cntOf cs c.toNat) _ (fun i hi => by have := okIn_bd (okLib_inst h hl hi); omega), cntOf, ownCnt]
  have e2 : ∀ ns : List Inst, (∀ n ∈ ns, n.cell.toNat < o.cell.toNat) → costL (fun n => n.cols * n.rows * cntOf cs n.cell.toNat) ns = costL (cntI (cnts cs o.cell.toNat)) ns := by
   intro ns
   induction ns with
   | nil => intro _; rfl
   | cons n ns ih =>
    intro hn
    rw [costL, costL, ih (fun m hm => hn m (.tail _ hm)), cntI, cnts_gd cs (hn n (.head _))]
  rw [e2 _ (fun n hn => by
   obtain ⟨j, hj, rfl⟩ := List.getElem_of_mem hn
   have := (okIn_bd (okLib_inst h hl hj)).1
   rw [gd_eq hj] at this
   omega)]
  omega
theorem occTo_le {cs : List ECell} {f : Nat} {o : EOcc} {i : Nat} (hi : i ≤ (elems (gd cs o.cell.toNat).insts).length) : (occTo cs f o i).length ≤ (occF cs (f + 1) o).length := by
 rw [← occTo_all, occTo, occTo, List.length_cons, List.length_cons]
 have : (List.range i).flatMap (fun n => occF cs f (kid o (gd (elems (gd cs o.cell.toNat).insts) n) n)) = ((List.range (elems (gd cs o.cell.toNat).insts).length).take i).flatMap (fun n => occF cs f (kid o (gd (elems (gd cs o.cell.toNat).insts) n) n)) := by
  rw [List.take_range, Nat.min_eq_left hi]
 rw [this]
 have h2 := congrArg List.length (congrArg (List.flatMap (fun n => occF cs f (kid o (gd (elems (gd cs o.cell.toNat).insts) n) n))) (List.take_append_drop i (List.range (elems (gd cs o.cell.toNat).insts).length)))
 rw [List.flatMap_append, List.length_append] at h2
 omega
def top (cell : Int) : EOcc := ⟨cell, ⟨0, 0, 0⟩, []⟩
def occAll (cs : List ECell) (cell : Int) : List EOcc := occF cs (cell.toNat + 1) (top cell)
def hasCl (cs : List ECell) (cell : Int) : Bool := okLib cs && within cell 0 ((cs.length : Int) - 1)
def occE (cs : List ECell) (cell : Int) : Int :=
  bif !okLib cs then 1 else bif !within cell 0 ((cs.length : Int) - 1) then 5 else bif decide (200 < cntOf cs cell.toNat) then 3 else bif (occAll cs cell).any fun o => !validT o.place then 2 else 0
def occR (cs : List ECell) (cell : Int) : List EOcc := bif decide (occE cs cell = 0) then occAll cs cell else []
theorem occE_zero {cs : List ECell} {cell : Int} (h : occE cs cell = 0) : okLib cs = true ∧ (0 ≤ cell ∧ cell < cs.length) ∧ cntOf cs cell.toNat ≤ 200 ∧ ∀ o ∈ occAll cs cell, validT o.place = true := by
 unfold occE at h
 cases h1 : okLib cs with
 | false => rw [h1] at h; cases h
 | true =>
  cases h2 : within cell 0 ((cs.length : Int) - 1) with
  | false => rw [h1, h2] at h; cases h
  | true =>
   cases h3 : decide (200 < cntOf cs cell.toNat) with
   | true => rw [h1, h2, h3] at h; cases h
   | false =>
    cases h4 : (occAll cs cell).any fun o => !validT o.place with
    | true => rw [h1, h2, h3, h4] at h; cases h
    | false =>
     refine ⟨rfl, ?_, ?_, fun o ho => ?_⟩
     ·simp only [within, Bool.and_eq_true, decide_eq_true_eq] at h2; omega
     ·have := of_decide_eq_false h3; omega
     ·rw [List.any_eq_false] at h4
      simpa using h4 o ho
theorem occR_ok {cs : List ECell} {cell : Int} (h : occE cs cell = 0) : occR cs cell = occAll cs cell := by rw [occR, h]; rfl
theorem occR_no {cs : List ECell} {cell : Int} (h : occE cs cell ≠ 0) : occR cs cell = [] := by rw [occR, decide_eq_false h]; rfl
theorem occAll_len {cs : List ECell} {cell : Int} (h : okLib cs = true) (hc : 0 ≤ cell ∧ cell < cs.length) : ((occAll cs cell).length : Int) = cntOf cs cell.toNat := occF_len h _ (top cell) hc.1 (by simp [top]) (by simp only [top]; omega)
theorem occF_cell {cs : List ECell} (h : okLib cs = true) : ∀ (f : Nat) (o : EOcc), 0 ≤ o.cell → o.cell.toNat < f → o.cell.toNat < cs.length → ∀ q ∈ occF cs f o, 0 ≤ q.cell ∧ q.cell ≤ o.cell
 | 0, _, _, h, _, _, _ => by omega
 | f + 1, o, h0, hf, hl, q, hq => by
  rw [occF, List.mem_cons] at hq
  rcases hq with rfl | hq
  ·exact ⟨h0, Int.le_refl _⟩
  ·obtain ⟨i, hi, hq⟩ := List.mem_flatMap.1 hq
   have hb := (elem_bd h hl (List.mem_range.1 hi)).1
   have := occF_cell h f _ hb.1 (by simp only [kid]; omega) (by simp only [kid]; omega) q hq
   simp only [kid] at this
   omega
theorem occR_cell {cs : List ECell} {cell : Int} {i : Nat} (hi : i < (occR cs cell).length) : okLib cs = true ∧ (0 ≤ (gd (occR cs cell) i).cell ∧ (gd (occR cs cell) i).cell < cs.length) ∧ validT (gd (occR cs cell) i).place = true ∧ (occR cs cell).length ≤ 200 := by
 by_cases h : occE cs cell = 0
 ·have hm := gd_mem hi
  rw [occR_ok h] at hm ⊢
  obtain ⟨h1, h2, h3, h4⟩ := occE_zero h
  have := occF_cell h1 _ (top cell) h2.1 (by simp [top]) (by simp only [top]; omega) _ hm
  have hl := occAll_len h1 h2
  exact ⟨h1, by simp only [top] at this; omega, h4 _ hm, by omega⟩
 ·rw [occR_no h] at hi; simp at hi
def flatOf (cs : List ECell) (o : EOcc) : List Shape := (gd cs o.cell.toNat).shapes.map fun s => ⟨s.layer, moveR o.place s.box⟩
def flatL (cs : List ECell) (os : List EOcc) : List Shape := os.flatMap (flatOf cs)
theorem flatOf_len (cs : List ECell) (o : EOcc) : (flatOf cs o).length = (gd cs o.cell.toNat).shapes.length := by simp [flatOf]
theorem flatL_take {cs : List ECell} {os : List EOcc} {i : Nat} (h : i < os.length) : flatL cs (os.take (i + 1)) = flatL cs (os.take i) ++ flatOf cs (gd os i) := by
 rw [flatL, flatL, List.take_add_one, getG h, List.flatMap_append]; simp
theorem flatOf_step {cs : List ECell} {o : EOcc} {k : Nat} (h : k < (gd cs o.cell.toNat).shapes.length) : (flatOf cs o).take (k + 1) = (flatOf cs o).take k ++ [⟨(gd (gd cs o.cell.toNat).shapes k).layer, moveR o.place (gd (gd cs o.cell.toNat).shapes k).box⟩] := by
 rw [List.take_add_one, getG (by rw [flatOf_len]; exact h), flatOf, gd_map _ h]; rfl
theorem flatL_bd {cs : List ECell} {cell : Int} : ∀ i, i ≤ (occR cs cell).length → (flatL cs ((occR cs cell).take i)).length ≤ 24 * i
 | 0, _ => by simp [flatL]
 | i + 1, hi => by
  have ih := flatL_bd (cs := cs) (cell := cell) i (by omega)
  obtain ⟨h1, h2, _, _⟩ := occR_cell (cs := cs) (cell := cell) (i := i) (by omega)
  have := (okLib_cnt h1 (i := (gd (occR cs cell) i).cell.toNat) (by omega)).2
  rw [flatL_take (by omega), List.length_append, flatOf_len]; omega
theorem flatL_len {cs : List ECell} {cell : Int} : (flatL cs (occR cs cell)).length ≤ 4800 := by
 have := flatL_bd (cs := cs) (cell := cell) _ (Nat.le_refl _)
 rw [List.take_of_length_le (Nat.le_refl _)] at this
 by_cases h : 0 < (occR cs cell).length
 ·have := (occR_cell h).2.2.2; omega
 ·omega
def shE (cs : List ECell) (cell : Int) : Int := bif decide (occE cs cell = 0) then (bif (flatL cs (occR cs cell)).any fun s => !validRect s.box then 2 else 0) else occE cs cell
def shR (cs : List ECell) (cell : Int) : List Shape := bif decide (shE cs cell = 0) then flatL cs (occR cs cell) else []
theorem shE_zero {cs : List ECell} {cell : Int} (h : shE cs cell = 0) : occE cs cell = 0 ∧ ∀ s ∈ flatL cs (occR cs cell), validRect s.box = true := by
 unfold shE at h
 by_cases h1 : occE cs cell = 0
 ·rw [decide_eq_true h1, cond_true] at h
  cases h2 : (flatL cs (occR cs cell)).any fun s => !validRect s.box with
  | true => rw [h2] at h; cases h
  | false =>
   refine ⟨h1, fun s hs => ?_⟩
   rw [List.any_eq_false] at h2
   simpa using h2 s hs
 ·rw [decide_eq_false h1, cond_false] at h; exact absurd h h1
theorem shR_ok {cs : List ECell} {cell : Int} (h : shE cs cell = 0) : shR cs cell = flatL cs (occR cs cell) := by rw [shR, h]; rfl
theorem shR_no {cs : List ECell} {cell : Int} (h : shE cs cell ≠ 0) : shR cs cell = [] := by rw [shR, decide_eq_false h]; rfl
theorem shR_valid {cs : List ECell} {cell : Int} {i : Nat} (hi : i < (shR cs cell).length) : validRect (gd (shR cs cell) i).box = true := by
 by_cases h : shE cs cell = 0
 ·have hm := gd_mem hi
  rw [shR_ok h] at hm ⊢
  exact (shE_zero h).2 _ hm
 ·rw [shR_no h] at hi; simp at hi
theorem shR_len (cs : List ECell) (cell : Int) : (shR cs cell).length ≤ 4800 := by
 by_cases h : shE cs cell = 0
 ·rw [shR_ok h]; exact flatL_len
 ·rw [shR_no h]; simp
def boxesOf (ss : List Shape) (l : Nat) : List Rect := (ss.filter fun s => decide (s.layer = (l : Int))).map Shape.box
def layL (ss : List Shape) : List (List Rect) := (List.range 8).map fun l => canon (bits (boxesOf ss l))
theorem boxesOf_step {ss : List Shape} {i l : Nat} (h : i < ss.length) : boxesOf (ss.take (i + 1)) l = boxesOf (ss.take i) l ++ (if (gd ss i).layer = (l : Int) then [(gd ss i).box] else []) := by
 rw [boxesOf, boxesOf, List.take_add_one, getG h, List.filter_append, List.map_append]
 by_cases e : (gd ss i).layer = (l : Int) <;> simp [e]
def bndE (cs : List ECell) (cell : Int) : Int := bif decide (shE cs cell = 0) && decide ((shR cs cell).length = 0) then 5 else shE cs cell
def bndR (cs : List ECell) (cell : Int) : Rect := bif decide (bndE cs cell = 0) then boxL ((shR cs cell).map Shape.box) else ⟨0, 0, 0, 0⟩
theorem bndE_zero {cs : List ECell} {cell : Int} (h : bndE cs cell = 0) : shE cs cell = 0 ∧ 0 < (shR cs cell).length := by
 unfold bndE at h
 by_cases h1 : shE cs cell = 0
 ·by_cases h2 : (shR cs cell).length = 0
  ·rw [decide_eq_true h1, decide_eq_true h2] at h; cases h
  ·exact ⟨h1, by omega⟩
 ·rw [decide_eq_false h1, Bool.false_and, cond_false] at h; exact absurd h h1
theorem validR_in {r : Rect} (h : validRect r = true) : RIn 40 r := by
 have := valid_bd h; exact this
theorem bndR_in {cs : List ECell} {cell : Int} (h : bndE cs cell = 0) : RIn 40 (bndR cs cell) := by
 obtain ⟨h1, h2⟩ := bndE_zero h
 rw [bndR, decide_eq_true h, cond_true]
 refine boxL_in (by simpa using h2) fun r hr => ?_
 obtain ⟨s, hs, rfl⟩ := List.mem_map.1 hr
 rw [shR_ok h1] at hs
 exact validR_in ((shE_zero h1).2 s hs)
def rootOf (o : EOcc) : Int := match o.path with | [] => -1 | a :: _ => a
def rootAt (cs : List ECell) (o : EOcc) : List RShape := (flatOf cs o).map fun s => ⟨rootOf o, s⟩
def rootL (cs : List ECell) (os : List EOcc) : List RShape := os.flatMap (rootAt cs)
def rootR (cs : List ECell) (cell : Int) : List RShape := bif decide (shE cs cell = 0) then rootL cs (occR cs cell) else []
theorem rootL_take {cs : List ECell} {os : List EOcc} {i : Nat} (h : i < os.length) : rootL cs (os.take (i + 1)) = rootL cs (os.take i) ++ rootAt cs (gd os i) := by
 rw [rootL, rootL, List.take_add_one, getG h, List.flatMap_append]; simp
theorem rootL_flat (cs : List ECell) (os : List EOcc) : (rootL cs os).map RShape.shape = flatL cs os := by
 induction os with
 | nil => rfl
 | cons o os ih =>
  have e1 : rootL cs (o :: os) = rootAt cs o ++ rootL cs os := rfl
  have e2 : flatL cs (o :: os) = flatOf cs o ++ flatL cs os := rfl
  rw [e1, e2, List.map_append, ih]
  congr 1
  simp [rootAt, Function.comp_def]
theorem rootAt_len (cs : List ECell) (o : EOcc) : (rootAt cs o).length = (gd cs o.cell.toNat).shapes.length := by rw [rootAt, List.length_map, flatOf_len]
theorem rootL_len (cs : List ECell) (os : List EOcc) : (rootL cs os).length = (flatL cs os).length := by rw [← rootL_flat, List.length_map]
theorem flatL_split {cs : List ECell} {os : List EOcc} {i : Nat} (h : i < os.length) : flatL cs os = flatL cs (os.take i) ++ (flatOf cs (gd os i) ++ flatL cs (os.drop (i + 1))) := by
 conv => lhs; rw [← List.take_append_drop (i + 1) os]
 rw [flatL, List.flatMap_append]
 have := flatL_take (cs := cs) h
 rw [flatL] at this
 rw [this, List.append_assoc]; rfl
theorem rootAt_step {cs : List ECell} {os : List EOcc} {i k : Nat} (h : i < os.length) (hk : k < (gd cs (gd os i).cell.toNat).shapes.length) :
  (rootL cs (os.take i) ++ (rootAt cs (gd os i)).take k).length < (flatL cs os).length ∧ (rootAt cs (gd os i)).take (k + 1) = (rootAt cs (gd os i)).take k ++ [⟨rootOf (gd os i), gd (flatL cs os) (rootL cs (os.take i) ++ (rootAt cs (gd os i)).take k).length⟩] := by
 have hl : ((rootAt cs (gd os i)).take k).length = k := by rw [List.length_take, rootAt_len]; omega
 have hf : k < (flatOf cs (gd os i)).length := by rw [flatOf_len]; exact hk
 have e : gd (flatL cs os) (rootL cs (os.take i) ++ (rootAt cs (gd os i)).take k).length = gd (flatOf cs (gd os i)) k := by
  rw [List.length_append, hl, rootL_len, flatL_split h, gd_app_at, gd_app_l hf]
 refine ⟨?_, ?_⟩
 ·rw [List.length_append, hl, rootL_len, flatL_split h, List.length_append, List.length_append]; omega
 ·rw [e, List.take_add_one, getG (by rw [rootAt_len]; exact hk), rootAt, gd_map _ hf]; rfl
@[reducible] def wideR (r : Rect) (k : Int) : Rect := ⟨r.x0 - k, r.y0 - k, r.x1 + k, r.y1 + k⟩
def distR (a b : Rect) : Int := max (max (max (max 0 (b.x0 - a.x1 + 1)) (a.x0 - b.x1 + 1)) (b.y0 - a.y1 + 1)) (a.y0 - b.y1 + 1)
def nearS (n reach : Int) (p : Rect) (x : RShape) : Bool := !decide (x.root = n) && decide (distR x.shape.box p ≤ 2 * reach)
def freeB (cs : List ECell) (cell n reach : Int) : Bool :=
  let e := gd (elems (gd cs cell.toNat).insts) n.toNat
  decide (bndE cs e.cell = 0) && (validRect (wideR (bndR cs e.cell) reach) && validRect (wideR (moveR e.place (bndR cs e.cell)) reach)) && !((rootL cs (occR cs cell)).any (nearS n reach (moveR e.place (bndR cs e.cell))))
def elN (cs : List ECell) (cell : Int) : Nat := (elems (gd cs cell.toNat).insts).length
theorem shE_lib {cs : List ECell} {cell : Int} (h : shE cs cell = 0) : okLib cs = true ∧ 0 ≤ cell ∧ cell < cs.length := by
 have := occE_zero (shE_zero h).1
 exact ⟨this.1, this.2.1⟩
theorem occF_head (cs : List ECell) (f : Nat) (o : EOcc) : o ∈ occF cs f o := by
 cases f <;> simp [occF]
theorem cmpT_top {t : Trans} (h : 0 ≤ t.o ∧ t.o ≤ 7) : cmpT t ⟨0, 0, 0⟩ = t := by
 obtain ⟨o, x, y⟩ := t
 have ho : o = 0 ∨ o = 1 ∨ o = 2 ∨ o = 3 ∨ o = 4 ∨ o = 5 ∨ o = 6 ∨ o = 7 := by simp only at h; omega
 rcases ho with rfl | rfl | rfl | rfl | rfl | rfl | rfl | rfl <;> simp [cmpT, cmpo, moveP, turnP, flip, rot]
theorem elems_valid {cs : List ECell} {cell : Int} (h : occE cs cell = 0) {i : Nat} (hi : i < elN cs cell) : validT (gd (elems (gd cs cell.toNat).insts) i).place = true := by
 obtain ⟨h1, h2, h3, h4⟩ := occE_zero h
 have hb := elem_bd h1 (k := cell.toNat) (by omega) hi
 have hm : kid (top cell) (gd (elems (gd cs cell.toNat).insts) i) i ∈ occAll cs cell := by
  rw [occAll, occF]
  refine List.mem_cons_of_mem _ (List.mem_flatMap.2 ⟨i, List.mem_range.2 hi, occF_head _ _ _⟩)
 have := h4 _ hm
 simp only [kid, top] at this
 rwa [cmpT_top hb.2.1] at this
theorem cmpo_r {a b : Int} (ha : 0 ≤ a ∧ a ≤ 7) (hb : 0 ≤ b ∧ b ≤ 7) : cmpo a b = (b % 4 + (if 4 ≤ b then -(a % 4) else a % 4) + 4) % 4 + 4 * (if 4 ≤ b then 1 - a / 4 else a / 4) := by
 have ea : a = 0 ∨ a = 1 ∨ a = 2 ∨ a = 3 ∨ a = 4 ∨ a = 5 ∨ a = 6 ∨ a = 7 := by omega
 have eb : b = 0 ∨ b = 1 ∨ b = 2 ∨ b = 3 ∨ b = 4 ∨ b = 5 ∨ b = 6 ∨ b = 7 := by omega
 rcases ea with rfl | rfl | rfl | rfl | rfl | rfl | rfl | rfl <;> rcases eb with rfl | rfl | rfl | rfl | rfl | rfl | rfl | rfl <;> decide
theorem elems_found {ns : List Inst} {i q : Nat} (h : i < ns.length) (hq : q < (elsOf (gd ns i)).length) : gd (elems ns) ((elems (ns.take i)).length + q) = ⟨(gd ns i).cell, elPlace (gd ns i) ((q % (gd ns i).cols.toNat : Nat) : Int) ((q / (gd ns i).cols.toNat : Nat) : Int)⟩ := by
 rw [elems_split h, List.append_assoc, gd_app_at, gd_app_l hq]
 have hr : gd (List.range ((gd ns i).rows.toNat * (gd ns i).cols.toNat)) q = q := range_gd (by rw [elsOf_len] at hq; exact hq)
 rw [elsOf, gd_map _ (by rw [elsOf_len] at hq; simpa using hq), hr]
end Go.Proofs.YtgphjofccckloaaGreat
