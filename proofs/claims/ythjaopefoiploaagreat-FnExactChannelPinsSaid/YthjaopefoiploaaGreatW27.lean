/-
  Contracts: channels, as the reference tells them.
-/
import Derived.Test.YthjaopefoiploaaGreatW23
import Derived.Test.YthjaopefoiploaaGreatChan
import Derived.Test.YthjaopefoiploaaGreatW8
namespace Go.Proofs.YthjaopefoiploaaGreat
open Go
set_option maxRecDepth 20000
set_option linter.unusedSimpArgs false
variable {G : Gh} {L : List Ch} {R : Value → Gh → List Ch → Prop}
/-! ## cells along edges -/
def tch (D : List Bool) (r : Rect) (s : Int) : Int := if s < 2 then tV D (gd [r.x0 - 1, r.x1] s.toNat) r.y0 (hR r) else tH D (gd [r.y0 - 1, r.y1] (s - 2).toNat) r.x0 (wR r)
theorem l17Cell_d {v : Value} {S : List Bool} {x y : Int} (h1 : Rs G L boolT v S) (hS : S.length = 6400) (k : R (.bool (cellB S x y)) G L) : CallT Tryz.prog 103 #[v, vi x, vi y] G L R := l17Cell_s h1 hS k
theorem touch_s {v : Value} {D : List Bool} {r : Rect} {s : Int} (h1 : Rs G L boolT v D) (hD : D.length = 6400) (hr : validRect r = true) (hs : 0 ≤ s ∧ s < 4) (k : R (vi (tch D r s)) G L) : CallT Tryz.prog 211 #[v, vrect r, vi s] G L R := by
  have hv := validR_iff.1 hr
  have e1 : (wR r : Int) = r.x1 - r.x0 := by simp only [wR]; omega
  have e2 : (hR r : Int) = r.y1 - r.y0 := by simp only [hR]; omega
  have hl2 : ([r.x0 - 1, r.x1] : List Int).length = 2 := rfl
  have hl3 : ([r.y0 - 1, r.y1] : List Int).length = 2 := rfl
  refine CallT.enter (args := _) Tryz.func211 rfl rfl (by kernel_rfl) rfl ?_
  refine WP.seq ?_
  refine WP.region ?_
  refine RG.ot rfl (OT.box (cs := rectT.enc r) rfl rfl rfl fun b4 => ?_)
  refine RG.pv rfl (PV.mvI (.inr rfl) rfl) ?_
  refine RG.nil ?_
  refine WP.seq ?_
  refine WP.region ?_
  refine RG.pv rfl (PV.mvI (.inr rfl) rfl) ?_
  refine RG.nil ?_
  refine WP.seq ?_
  refine WP.seq ?_
  refine WP.region ?_
  refine RG.pv rfl (PV.field rfl Fo59_1 rfl) ?_
  refine RG.pv rfl (PV.load1 rfl Sc2 rfl (Rd.blk rfl)) ?_
  refine RG.pv rfl (PV.mvI (.inr rfl) rfl) ?_
  refine RG.nil ?_
  refine WP.block ?_
  refine WP.loop3 [0, 2, 4] (fun (i : Nat) (y n : Int) => i ≤ hR r ∧ y = r.y0 + i ∧ n = tV D (gd [r.x0 - 1, r.x1] s.toNat) r.y0 i ∧ (i = 0 ∨ s < 2)) (fun (i : Nat) (y n : Int) => [(8, vi y), (7, vi n)]) (fun (i : Nat) (y n : Int) => blk b4 59 (rectT.enc r) :: L) (fun (i : Nat) (y n : Int) => hR r - i) 0 r.y0 0 ⟨by omega, by omega, rfl, .inl rfl⟩ ⟨rfl, rfl, trivial⟩ Cv.p ?_
  rintro i y n τ ⟨hi, hy, hn, hz⟩
  refine WP.seq ?_
  refine WP.seq ?_
  refine WP.region ?_
  refine RG.pv rfl (PV.mvI (.inl rfl) rfl) ?_
  refine RG.pv rfl (PV.field rfl Fo59_3 rfl) ?_
  refine RG.pv rfl (PV.load1 rfl Sc2 rfl (Rd.blk rfl)) ?_
  refine RG.pv rfl (PV.lss rfl rfl rfl) ?_
  refine RG.pv rfl (PV.mvB (.inl rfl) rfl) ?_
  refine RG.gs rfl rfl rfl (fun hp => (PV.mvI (.inl rfl) rfl)) ?_
  refine RG.gs rfl rfl rfl (fun hp => (PV.lss rfl (gs_t hp) rfl)) ?_
  refine RG.pv rfl (PV.pickA rfl rfl (fun hq => gs_t (geqT hq)) rfl) ?_
  refine RG.nil ?_
  have b1 := cntF_bd (fun k => cellB D (gd [r.x0 - 1, r.x1] s.toNat) (r.y0 + k)) i
  have b2 : tV D (gd [r.x0 - 1, r.x1] s.toNat) r.y0 i = cntF (fun k => cellB D (gd [r.x0 - 1, r.x1] s.toNat) (r.y0 + k)) i := rfl
  refine WP.cond rfl (fun h2 => ?_) (fun h2 => ?_)
  · have h2' : y < r.y1 ∧ s < 2 := by simpa using h2
    subst hy
    have c1 : tV D (gd [r.x0 - 1, r.x1] s.toNat) r.y0 (i + 1) = tV D (gd [r.x0 - 1, r.x1] s.toNat) r.y0 i + one (cellB D (gd [r.x0 - 1, r.x1] s.toNat) (r.y0 + i)) := rfl
    refine WP.skip ?_
    refine WP.seq ?_
    refine WP.block ?_
    refine WP.seq ?_
    refine WP.region ?_
    refine RG.pv rfl (PV.move (v := v) rfl rfl) ?_
    refine RG.pv rfl (PV.field rfl Fo59_0 rfl) ?_
    refine RG.pv rfl (PV.load1 rfl Sc2 rfl (Rd.blk rfl)) ?_
    refine RG.pv rfl (PV.sub rfl rfl rfl (by omega)) ?_
    refine RG.pv rfl (PV.field rfl Fo59_2 rfl) ?_
    refine RG.pv rfl (PV.load1 rfl Sc2 rfl (Rd.blk rfl)) ?_
    refine RG.ot rfl (OT.bslice (F := intT) (els := [_, _]) rfl El35 rfl (by decide) rfl (by decide) ⟨rfl, (Cl.c rfl), ⟨rfl, (Cl.c rfl), trivial⟩⟩ fun v28 => ?_)
    refine RG.pv rfl (PV.mvI (.inl rfl) rfl) ?_
    refine RG.pv rfl (PV.idxS (j := s.toNat) (v := v28) rfl Is35 rfl SlF.o rfl (by omega) (by omega)) ?_
    refine RG.pv rfl (PV.loadE1 rfl Sc2 rfl rfl (El.o (getG (by omega))) rfl) ?_
    refine RG.pv rfl (PV.mvI (.inl rfl) rfl) ?_
    refine RG.callF (vs := [v, _, _]) rfl rfl En103 rfl (l17Cell_d (Rs.up h1) hD ?_)
    refine RG.nil ?_
    refine WP.cond rfl (fun h3 => ?_) (fun h3 => ?_)
    · rw [h3, show one true = 1 from rfl] at c1
      refine WP.region ?_
      refine RG.pv rfl (PV.mvI (.inl rfl) rfl) ?_
      refine RG.pv rfl (PV.add rfl rfl rfl (by omega)) ?_
      refine RG.pv rfl (PV.mvI (.inr rfl) rfl) ?_
      refine RG.nil ?_
      refine WP.region ?_
      refine RG.pv rfl (PV.mvI (.inl rfl) rfl) ?_
      refine RG.pv rfl (PV.add rfl rfl rfl (by omega)) ?_
      refine RG.pv rfl (PV.mvI (.inr rfl) rfl) ?_
      refine RG.nil ?_
      exact ⟨rfl, i + 1, _, _, ⟨by omega, by omega, by omega, .inr h2'.2⟩, ⟨rfl, rfl, trivial⟩, ⟨rfl, rfl, rfl, trivial⟩, Cv.p, by omega⟩
    · rw [h3, show one false = 0 from rfl] at c1
      refine WP.skip ?_
      refine WP.region ?_
      refine RG.pv rfl (PV.mvI (.inl rfl) rfl) ?_
      refine RG.pv rfl (PV.add rfl rfl rfl (by omega)) ?_
      refine RG.pv rfl (PV.mvI (.inr rfl) rfl) ?_
      refine RG.nil ?_
      exact ⟨rfl, i + 1, _, _, ⟨by omega, by omega, by omega, .inr h2'.2⟩, ⟨rfl, rfl, trivial⟩, ⟨rfl, rfl, rfl, trivial⟩, Cv.p, by omega⟩
  · have h2' : ¬ (y < r.y1 ∧ s < 2) := by simpa using h2
    have hn2 : n = if s < 2 then tch D r s else 0 := by
      by_cases c : s < 2
      · obtain rfl : i = hR r := by omega
        rw [if_pos c, tch, if_pos c, hn]
      · obtain rfl : i = 0 := by omega
        rw [if_neg c, hn]; rfl
    refine WP.exit ?_
    refine WP.seq ?_
    refine WP.seq ?_
    refine WP.region ?_
    refine RG.pv rfl (PV.field rfl Fo59_0 rfl) ?_
    refine RG.pv rfl (PV.load1 rfl Sc2 rfl (Rd.blk rfl)) ?_
    refine RG.pv rfl (PV.mvI (.inr rfl) rfl) ?_
    refine RG.nil ?_
    refine WP.block ?_
    refine WP.loop3 [0, 2, 4] (fun (m : Nat) (x n2 : Int) => m ≤ wR r ∧ x = r.x0 + m ∧ n2 = n + tH D (gd [r.y0 - 1, r.y1] (s - 2).toNat) r.x0 m ∧ (m = 0 ∨ 2 ≤ s)) (fun (m : Nat) (x n2 : Int) => [(9, vi x), (7, vi n2)]) (fun (m : Nat) (x n2 : Int) => blk b4 59 (rectT.enc r) :: L) (fun (m : Nat) (x n2 : Int) => wR r - m) 0 r.x0 n ⟨by omega, by omega, by simp [tH, cntF, sumF], .inl rfl⟩ ⟨rfl, rfl, trivial⟩ Cv.p ?_
    rintro m x n2 τ2 ⟨hm, hx, hn3, hz2⟩
    refine WP.seq ?_
    refine WP.seq ?_
    refine WP.region ?_
    refine RG.pv rfl (PV.mvI (.inl rfl) rfl) ?_
    refine RG.pv rfl (PV.field rfl Fo59_2 rfl) ?_
    refine RG.pv rfl (PV.load1 rfl Sc2 rfl (Rd.blk rfl)) ?_
    refine RG.pv rfl (PV.lss rfl rfl rfl) ?_
    refine RG.pv rfl (PV.mvB (.inl rfl) rfl) ?_
    refine RG.gs rfl rfl rfl (fun hp => (PV.mvI (.inl rfl) rfl)) ?_
    refine RG.gs rfl rfl rfl (fun hp => (PV.geq rfl (gs_t hp) rfl)) ?_
    refine RG.pv rfl (PV.pickA rfl rfl (fun hq => gs_t (geqT hq)) rfl) ?_
    refine RG.nil ?_
    have b3 := cntF_bd (fun k => cellB D (r.x0 + k) (gd [r.y0 - 1, r.y1] (s - 2).toNat)) m
    have b4' : tH D (gd [r.y0 - 1, r.y1] (s - 2).toNat) r.x0 m = cntF (fun k => cellB D (r.x0 + k) (gd [r.y0 - 1, r.y1] (s - 2).toNat)) m := rfl
    refine WP.cond rfl (fun h4 => ?_) (fun h4 => ?_)
    · have h4' : x < r.x1 ∧ 2 ≤ s := by simpa using h4
      subst hx
      have c1 : tH D (gd [r.y0 - 1, r.y1] (s - 2).toNat) r.x0 (m + 1) = tH D (gd [r.y0 - 1, r.y1] (s - 2).toNat) r.x0 m + one (cellB D (r.x0 + m) (gd [r.y0 - 1, r.y1] (s - 2).toNat)) := rfl
      refine WP.skip ?_
      refine WP.seq ?_
      refine WP.block ?_
      refine WP.seq ?_
      refine WP.region ?_
      refine RG.pv rfl (PV.move (v := v) rfl rfl) ?_
      refine RG.pv rfl (PV.mvI (.inl rfl) rfl) ?_
      refine RG.pv rfl (PV.field rfl Fo59_1 rfl) ?_
      refine RG.pv rfl (PV.load1 rfl Sc2 rfl (Rd.blk rfl)) ?_
      refine RG.pv rfl (PV.sub rfl rfl rfl (by omega)) ?_
      refine RG.pv rfl (PV.field rfl Fo59_3 rfl) ?_
      refine RG.pv rfl (PV.load1 rfl Sc2 rfl (Rd.blk rfl)) ?_
      refine RG.ot rfl (OT.bslice (F := intT) (els := [_, _]) rfl El35 rfl (by decide) rfl (by decide) ⟨rfl, (Cl.c rfl), ⟨rfl, (Cl.c rfl), trivial⟩⟩ fun v55 => ?_)
      refine RG.pv rfl (PV.mvI (.inl rfl) rfl) ?_
      refine RG.pv rfl (PV.sub rfl rfl rfl (by omega)) ?_
      refine RG.pv rfl (PV.idxS (j := (s - 2).toNat) (v := v55) rfl Is35 rfl SlF.o rfl (by omega) (by omega)) ?_
      refine RG.pv rfl (PV.loadE1 rfl Sc2 rfl rfl (El.o (getG (by omega))) rfl) ?_
      refine RG.callF (vs := [v, _, _]) rfl rfl En103 rfl (l17Cell_d (Rs.up h1) hD ?_)
      refine RG.nil ?_
      refine WP.cond rfl (fun h5 => ?_) (fun h5 => ?_)
      · rw [h5, show one true = 1 from rfl] at c1
        refine WP.region ?_
        refine RG.pv rfl (PV.mvI (.inl rfl) rfl) ?_
        refine RG.pv rfl (PV.add rfl rfl rfl (by omega)) ?_
        refine RG.pv rfl (PV.mvI (.inr rfl) rfl) ?_
        refine RG.nil ?_
        refine WP.region ?_
        refine RG.pv rfl (PV.mvI (.inl rfl) rfl) ?_
        refine RG.pv rfl (PV.add rfl rfl rfl (by omega)) ?_
        refine RG.pv rfl (PV.mvI (.inr rfl) rfl) ?_
        refine RG.nil ?_
        exact ⟨rfl, m + 1, _, _, ⟨by omega, by omega, by omega, .inr h4'.2⟩, ⟨rfl, rfl, trivial⟩, ⟨rfl, rfl, rfl, trivial⟩, Cv.p, by omega⟩
      · rw [h5, show one false = 0 from rfl] at c1
        refine WP.skip ?_
        refine WP.region ?_
        refine RG.pv rfl (PV.mvI (.inl rfl) rfl) ?_
        refine RG.pv rfl (PV.add rfl rfl rfl (by omega)) ?_
        refine RG.pv rfl (PV.mvI (.inr rfl) rfl) ?_
        refine RG.nil ?_
        exact ⟨rfl, m + 1, _, _, ⟨by omega, by omega, by omega, .inr h4'.2⟩, ⟨rfl, rfl, trivial⟩, ⟨rfl, rfl, rfl, trivial⟩, Cv.p, by omega⟩
    · have h4' : ¬ (x < r.x1 ∧ 2 ≤ s) := by simpa using h4
      have hn4 : tch D r s = n2 := by
        by_cases c : s < 2
        · obtain rfl : m = 0 := by omega
          rw [hn3, hn2, if_pos c]; simp [tH, cntF, sumF]
        · obtain rfl : m = wR r := by omega
          rw [hn3, hn2, if_neg c, tch, if_neg c]; omega
      rw [hn4] at k
      refine WP.exit ?_
      refine WP.seq ?_
      refine WP.region ?_
      refine RG.pv rfl (PV.mvI (.inl rfl) rfl) ?_
      refine RG.pv rfl (PV.mvI (.inr rfl) rfl) ?_
      refine RG.nil ?_
      refine WP.ret ?_
      exact ⟨_, _, ResV.one rfl rfl, Cv.p, k⟩
theorem flow_s {v : Value} {D : List Bool} {r : Rect} (h1 : Rs G L boolT v D) (hD : D.length = 6400) (hr : validRect r = true) (k : R (vi (flowB D r)) G L) : CallT Tryz.prog 181 #[v, vrect r] G L R := by
  have hv := validR_iff.1 hr
  have t0 : tch D r 0 = tV D (r.x0 - 1) r.y0 (hR r) := by simp [tch, gd]
  have t1 : tch D r 1 = tV D r.x1 r.y0 (hR r) := by simp [tch, gd]
  have t2 : tch D r 2 = tH D (r.y0 - 1) r.x0 (wR r) := by simp [tch, gd]
  have t3 : tch D r 3 = tH D r.y1 r.x0 (wR r) := by simp [tch, gd]
  rw [flowB, ← t0, ← t1, ← t2, ← t3] at k
  refine CallT.enter (args := _) Tryz.func181 rfl rfl (by kernel_rfl) rfl ?_
  refine WP.seq ?_
  refine WP.region ?_
  refine RG.ot rfl (OT.box (cs := rectT.enc r) rfl rfl rfl fun b3 => ?_)
  refine RG.pv rfl (PV.mvI (.inr rfl) rfl) ?_
  refine RG.nil ?_
  refine WP.seq ?_
  refine WP.regionQ (by kernel_rfl) (by kernel_rfl) ?_
  refine RQ.pv rfl (PV.move (v := v) rfl rfl) ?_
  refine RQ.pv rfl (PV.loadW rfl Ag59 rfl rfl) ?_
  refine RQ.callF (vs := [v, _, _]) rfl rfl En211 rfl (touch_s (Rs.up h1) hD hr (by omega) ⟨rfl, rfl, rfl⟩) ?_
  refine RQ.pv rfl (PV.move (v := v) rfl rfl) ?_
  refine RQ.pv rfl (PV.loadW rfl Ag59 rfl rfl) ?_
  refine RQ.callF (vs := [v, _, _]) rfl rfl En211 rfl (touch_s (Rs.up h1) hD hr (by omega) ⟨rfl, rfl, rfl⟩) ?_
  refine RQ.pv rfl (PV.move (v := v) rfl rfl) ?_
  refine RQ.pv rfl (PV.loadW rfl Ag59 rfl rfl) ?_
  refine RQ.callF (vs := [v, _, _]) rfl rfl En211 rfl (touch_s (Rs.up h1) hD hr (by omega) ⟨rfl, rfl, rfl⟩) ?_
  refine RQ.pv rfl (PV.move (v := v) rfl rfl) ?_
  refine RQ.pv rfl (PV.loadW rfl Ag59 rfl rfl) ?_
  refine RQ.callF (vs := [v, _, _]) rfl rfl En211 rfl (touch_s (Rs.up h1) hD hr (by omega) ⟨rfl, rfl, rfl⟩) ?_
  refine RQ.pv rfl (PV.mvI (.inr rfl) rfl) ?_
  refine RQ.pv rfl (PV.mvI (.inr rfl) rfl) ?_
  refine RQ.pv rfl (PV.mvI (.inr rfl) rfl) ?_
  refine RQ.pv rfl (PV.mvI (.inr rfl) rfl) ?_
  refine RQ.nil ?_
  refine WP.seq ?_
  refine WP.block ?_
  refine WP.seq ?_
  refine WP.region ?_
  refine RG.pv rfl (PV.mvI (.inl rfl) rfl) ?_
  refine RG.pv rfl (PV.field rfl Fo59_3 rfl) ?_
  refine RG.pv rfl (PV.load1 rfl Sc2 rfl (Rd.blk rfl)) ?_
  refine RG.pv rfl (PV.field rfl Fo59_1 rfl) ?_
  refine RG.pv rfl (PV.load1 rfl Sc2 rfl (Rd.blk rfl)) ?_
  refine RG.pv rfl (PV.sub rfl rfl rfl (by omega)) ?_
  refine RG.pv rfl (PV.eql rfl rfl rfl) ?_
  refine RG.pv rfl (PV.mvB (.inl rfl) rfl) ?_
  refine RG.gs rfl rfl rfl (fun hp => (PV.mvI (.inl rfl) rfl)) ?_
  refine RG.gs rfl rfl rfl (fun hp => (PV.field rfl Fo59_3 rfl)) ?_
  refine RG.gs rfl rfl rfl (fun hp => (PV.load1 rfl Sc2 (gs_t hp) (Rd.blk rfl))) ?_
  refine RG.gs rfl rfl rfl (fun hp => (PV.field rfl Fo59_1 rfl)) ?_
  refine RG.gs rfl rfl rfl (fun hp => (PV.load1 rfl Sc2 (gs_t hp) (Rd.blk rfl))) ?_
  refine RG.gs rfl rfl rfl (fun hp => (PV.sub rfl (gs_t hp) (gs_t hp) (by first | omega | (simp at hp; omega)))) ?_
  refine RG.gs rfl rfl rfl (fun hp => (PV.eql rfl (gs_t hp) (gs_t hp))) ?_
  refine RG.pv rfl (PV.pickA rfl rfl (fun hq => gs_t (geqT hq)) rfl) ?_
  refine RG.pv rfl (PV.mvB (.inl rfl) rfl) ?_
  refine RG.gs rfl rfl rfl (fun hp => (PV.mvI (.inl rfl) rfl)) ?_
  refine RG.gs rfl rfl rfl (fun hp => (PV.eql rfl (gs_t hp) rfl)) ?_
  refine RG.pv rfl (PV.pickA rfl rfl (fun hq => gs_t (geqT hq)) rfl) ?_
  refine RG.pv rfl (PV.mvB (.inl rfl) rfl) ?_
  refine RG.gs rfl rfl rfl (fun hp => (PV.mvI (.inl rfl) rfl)) ?_
  refine RG.gs rfl rfl rfl (fun hp => (PV.eql rfl (gs_t hp) rfl)) ?_
  refine RG.pv rfl (PV.pickA rfl rfl (fun hq => gs_t (geqT hq)) rfl) ?_
  refine RG.pv rfl (PV.mvB (.inr rfl) rfl) ?_
  refine RG.nil ?_
  refine WP.cond rfl (fun h2 => ?_) (fun h2 => ?_)
  · have e : flowI (tch D r 0) (tch D r 1) (tch D r 2) (tch D r 3) (r.y1 - r.y0) (r.x1 - r.x0) = 1 := by
      simp only [Bool.and_eq_true, decide_eq_true_eq] at h2
      rw [flowI, if_pos ⟨h2.1.1.1, h2.1.1.2, h2.1.2, h2.2⟩]
    rw [e] at k
    refine WP.seq ?_
    refine WP.region ?_
    refine RG.pv rfl (PV.mvI (.inr rfl) rfl) ?_
    refine RG.nil ?_
    refine WP.ret ?_
    exact ⟨_, _, ResV.one rfl rfl, Cv.p, k⟩
  · have n1 : ¬ (tch D r 0 = r.y1 - r.y0 ∧ tch D r 1 = r.y1 - r.y0 ∧ tch D r 2 = 0 ∧ tch D r 3 = 0) := by
      rintro ⟨g1, g2, g3, g4⟩; simp [g1, g2, g3, g4] at h2
    refine WP.seq ?_
    refine WP.region ?_
    refine RG.pv rfl (PV.mvI (.inl rfl) rfl) ?_
    refine RG.pv rfl (PV.eql rfl rfl rfl) ?_
    refine RG.pv rfl (PV.mvB (.inl rfl) rfl) ?_
    refine RG.gs rfl rfl rfl (fun hp => (PV.mvI (.inl rfl) rfl)) ?_
    refine RG.gs rfl rfl rfl (fun hp => (PV.eql rfl (gs_t hp) rfl)) ?_
    refine RG.pv rfl (PV.pickA rfl rfl (fun hq => gs_t (geqT hq)) rfl) ?_
    refine RG.pv rfl (PV.mvB (.inl rfl) rfl) ?_
    refine RG.gs rfl rfl rfl (fun hp => (PV.mvI (.inl rfl) rfl)) ?_
    refine RG.gs rfl rfl rfl (fun hp => (PV.field rfl Fo59_2 rfl)) ?_
    refine RG.gs rfl rfl rfl (fun hp => (PV.load1 rfl Sc2 (gs_t hp) (Rd.blk rfl))) ?_
    refine RG.gs rfl rfl rfl (fun hp => (PV.field rfl Fo59_0 rfl)) ?_
    refine RG.gs rfl rfl rfl (fun hp => (PV.load1 rfl Sc2 (gs_t hp) (Rd.blk rfl))) ?_
    refine RG.gs rfl rfl rfl (fun hp => (PV.sub rfl (gs_t hp) (gs_t hp) (by first | omega | (simp at hp; omega)))) ?_
    refine RG.gs rfl rfl rfl (fun hp => (PV.eql rfl (gs_t hp) (gs_t hp))) ?_
    refine RG.pv rfl (PV.pickA rfl rfl (fun hq => gs_t (geqT hq)) rfl) ?_
    refine RG.pv rfl (PV.mvB (.inl rfl) rfl) ?_
    refine RG.gs rfl rfl rfl (fun hp => (PV.mvI (.inl rfl) rfl)) ?_
    refine RG.gs rfl rfl rfl (fun hp => (PV.field rfl Fo59_2 rfl)) ?_
    refine RG.gs rfl rfl rfl (fun hp => (PV.load1 rfl Sc2 (gs_t hp) (Rd.blk rfl))) ?_
    refine RG.gs rfl rfl rfl (fun hp => (PV.field rfl Fo59_0 rfl)) ?_
    refine RG.gs rfl rfl rfl (fun hp => (PV.load1 rfl Sc2 (gs_t hp) (Rd.blk rfl))) ?_
    refine RG.gs rfl rfl rfl (fun hp => (PV.sub rfl (gs_t hp) (gs_t hp) (by first | omega | (simp at hp; omega)))) ?_
    refine RG.gs rfl rfl rfl (fun hp => (PV.eql rfl (gs_t hp) (gs_t hp))) ?_
    refine RG.pv rfl (PV.pickA rfl rfl (fun hq => gs_t (geqT hq)) rfl) ?_
    refine RG.pv rfl (PV.mvB (.inr rfl) rfl) ?_
    refine RG.nil ?_
    refine WP.cond rfl (fun h3 => ?_) (fun h3 => ?_)
    · have e : flowI (tch D r 0) (tch D r 1) (tch D r 2) (tch D r 3) (r.y1 - r.y0) (r.x1 - r.x0) = 2 := by
        simp only [Bool.and_eq_true, decide_eq_true_eq] at h3
        rw [flowI, if_neg n1, if_pos ⟨h3.1.1.1, h3.1.1.2, h3.1.2, h3.2⟩]
      rw [e] at k
      refine WP.seq ?_
      refine WP.region ?_
      refine RG.pv rfl (PV.mvI (.inr rfl) rfl) ?_
      refine RG.nil ?_
      refine WP.ret ?_
      exact ⟨_, _, ResV.one rfl rfl, Cv.p, k⟩
    · have n2 : ¬ (tch D r 0 = 0 ∧ tch D r 1 = 0 ∧ tch D r 2 = r.x1 - r.x0 ∧ tch D r 3 = r.x1 - r.x0) := by
        rintro ⟨g1, g2, g3, g4⟩; simp [g1, g2, g3, g4] at h3
      have e : flowI (tch D r 0) (tch D r 1) (tch D r 2) (tch D r 3) (r.y1 - r.y0) (r.x1 - r.x0) = 0 := by rw [flowI, if_neg n1, if_neg n2]
      rw [e] at k
      refine WP.skip ?_
      refine WP.seq ?_
      refine WP.region ?_
      refine RG.pv rfl (PV.mvI (.inr rfl) rfl) ?_
      refine RG.nil ?_
      refine WP.ret ?_
      exact ⟨_, _, ResV.one rfl rfl, Cv.p, k⟩
/-! ## cells in boxes -/
theorem length_s {r : Rect} (hv : validRect r = true) (k : R (vi (areaR r)) G L) : CallT Tryz.prog 183 #[vrect r] G L R := by
  have h := validR_iff.1 hv
  have hb := area_bd hv
  have e : areaR r = (r.x1 - r.x0) * (r.y1 - r.y0) := rfl
  rw [e] at hb
  refine CallT.enter (args := _) Tryz.func183 rfl rfl (by kernel_rfl) rfl ?_
  refine WP.seq ?_
  refine WP.region ?_
  refine RG.ot rfl (OT.box (cs := rectT.enc r) rfl rfl rfl fun b1 => ?_)
  refine RG.pv rfl (PV.mvI (.inr rfl) rfl) ?_
  refine RG.nil ?_
  refine WP.seq ?_
  refine WP.region ?_
  refine RG.pv rfl (PV.field rfl Fo59_2 rfl) ?_
  refine RG.pv rfl (PV.load1 rfl Sc2 rfl (Rd.blk rfl)) ?_
  refine RG.pv rfl (PV.field rfl Fo59_0 rfl) ?_
  refine RG.pv rfl (PV.load1 rfl Sc2 rfl (Rd.blk rfl)) ?_
  refine RG.pv rfl (PV.sub rfl rfl rfl (by omega)) ?_
  refine RG.pv rfl (PV.field rfl Fo59_3 rfl) ?_
  refine RG.pv rfl (PV.load1 rfl Sc2 rfl (Rd.blk rfl)) ?_
  refine RG.pv rfl (PV.field rfl Fo59_1 rfl) ?_
  refine RG.pv rfl (PV.load1 rfl Sc2 rfl (Rd.blk rfl)) ?_
  refine RG.pv rfl (PV.sub rfl rfl rfl (by omega)) ?_
  refine RG.pv rfl (PV.mul rfl rfl rfl (by omega)) ?_
  refine RG.pv rfl (PV.mvI (.inr rfl) rfl) ?_
  refine RG.nil ?_
  refine WP.ret ?_
  exact ⟨_, _, ResV.one rfl rfl, Cv.p, k⟩
theorem cell_at {S : List Bool} {r : Rect} (hv : validRect r = true) {j i : Nat} (hj : j < hR r) (hi : i < wR r) : ((r.y0 + (j : Int) + 40) * 80 + (r.x0 + (i : Int)) + 40).toNat < 6400 ∧ gd S ((r.y0 + (j : Int) + 40) * 80 + (r.x0 + (i : Int)) + 40).toNat = cellB S (r.x0 + i) (r.y0 + j) ∧ 0 ≤ (r.y0 + (j : Int) + 40) * 80 + (r.x0 + (i : Int)) + 40 := by
  have h := validR_iff.1 hv
  simp only [hR, wR] at hj hi
  refine ⟨by omega, ?_, by omega⟩
  rw [cellB, decide_eq_true (by omega), decide_eq_true (by omega)]; rfl
theorem l19Cov_s {v : Value} {S : List Bool} {r : Rect} (h1 : Rs G L boolT v S) (hS : S.length = 6400) (hr : validRect r = true) (k : R (vi (covB S r)) G L) : CallT Tryz.prog 182 #[v, vrect r] G L R := by
  have hv := validR_iff.1 hr
  have e1 : (wR r : Int) = r.x1 - r.x0 := by simp only [wR]; omega
  have e2 : (hR r : Int) = r.y1 - r.y0 := by simp only [hR]; omega
  have hbd : ∀ j, 0 ≤ sumF (fun j => tH S (r.y0 + j) r.x0 (wR r)) j ∧ sumF (fun j => tH S (r.y0 + j) r.x0 (wR r)) j ≤ j * wR r := sumF_bd fun _ => cntF_bd _ _
  refine CallT.enter (args := _) Tryz.func182 rfl rfl (by kernel_rfl) rfl ?_
  refine WP.seq ?_
  refine WP.region ?_
  refine RG.ot rfl (OT.box (cs := rectT.enc r) rfl rfl rfl fun b3 => ?_)
  refine RG.pv rfl (PV.mvI (.inr rfl) rfl) ?_
  refine RG.nil ?_
  refine WP.seq ?_
  refine WP.region ?_
  refine RG.pv rfl (PV.mvI (.inr rfl) rfl) ?_
  refine RG.nil ?_
  refine WP.seq ?_
  refine WP.seq ?_
  refine WP.region ?_
  refine RG.pv rfl (PV.field rfl Fo59_1 rfl) ?_
  refine RG.pv rfl (PV.load1 rfl Sc2 rfl (Rd.blk rfl)) ?_
  refine RG.pv rfl (PV.mvI (.inr rfl) rfl) ?_
  refine RG.nil ?_
  refine WP.block ?_
  refine WP.loop3 [0, 3] (fun (j : Nat) (y n : Int) => j ≤ hR r ∧ y = r.y0 + j ∧ n = sumF (fun j => tH S (r.y0 + j) r.x0 (wR r)) j) (fun (j : Nat) (y n : Int) => [(6, vi y), (5, vi n)]) (fun (j : Nat) (y n : Int) => blk b3 59 (rectT.enc r) :: L) (fun (j : Nat) (y n : Int) => hR r - j) 0 r.y0 0 ⟨by omega, by omega, rfl⟩ ⟨rfl, rfl, trivial⟩ Cv.p ?_
  rintro j y n τ ⟨hj, hy, hn⟩
  refine WP.seq ?_
  refine WP.seq ?_
  refine WP.region ?_
  refine RG.pv rfl (PV.mvI (.inl rfl) rfl) ?_
  refine RG.pv rfl (PV.field rfl Fo59_3 rfl) ?_
  refine RG.pv rfl (PV.load1 rfl Sc2 rfl (Rd.blk rfl)) ?_
  refine RG.pv rfl (PV.lss rfl rfl rfl) ?_
  refine RG.nil ?_
  have b1 := hbd j
  have b0 : (j : Int) * wR r ≤ 80 * 80 := Int.mul_le_mul (by omega) (by omega) (by omega) (by omega)
  refine WP.cond rfl (fun h2 => ?_) (fun h2 => ?_)
  · have h2 := of_decide_eq_true h2
    subst hy
    refine WP.skip ?_
    refine WP.seq ?_
    refine WP.block ?_
    refine WP.seq ?_
    refine WP.region ?_
    refine RG.pv rfl (PV.field rfl Fo59_0 rfl) ?_
    refine RG.pv rfl (PV.load1 rfl Sc2 rfl (Rd.blk rfl)) ?_
    refine RG.pv rfl (PV.mvI (.inr rfl) rfl) ?_
    refine RG.nil ?_
    refine WP.block ?_
    refine WP.loop3 [0, 3, 6] (fun (i : Nat) (x m : Int) => i ≤ wR r ∧ x = r.x0 + i ∧ m = n + tH S (r.y0 + j) r.x0 i) (fun (i : Nat) (x m : Int) => [(7, vi x), (5, vi m)]) (fun (i : Nat) (x m : Int) => blk b3 59 (rectT.enc r) :: L) (fun (i : Nat) (x m : Int) => wR r - i) 0 r.x0 n ⟨by omega, by omega, by simp [tH, cntF, sumF]⟩ ⟨rfl, rfl, trivial⟩ Cv.p ?_
    rintro i x m τ1 ⟨hi, hx, hm⟩
    refine WP.seq ?_
    refine WP.seq ?_
    refine WP.region ?_
    refine RG.pv rfl (PV.mvI (.inl rfl) rfl) ?_
    refine RG.pv rfl (PV.field rfl Fo59_2 rfl) ?_
    refine RG.pv rfl (PV.load1 rfl Sc2 rfl (Rd.blk rfl)) ?_
    refine RG.pv rfl (PV.lss rfl rfl rfl) ?_
    refine RG.nil ?_
    have b3' := cntF_bd (fun k => cellB S (r.x0 + k) (r.y0 + j)) i
    have b4' : tH S (r.y0 + j) r.x0 i = cntF (fun k => cellB S (r.x0 + k) (r.y0 + j)) i := rfl
    refine WP.cond rfl (fun h3 => ?_) (fun h3 => ?_)
    · have h3 := of_decide_eq_true h3
      subst hx
      have c1 : tH S (r.y0 + j) r.x0 (i + 1) = tH S (r.y0 + j) r.x0 i + one (cellB S (r.x0 + i) (r.y0 + j)) := rfl
      obtain ⟨q1, q2, q3⟩ := cell_at (S := S) hr (j := j) (i := i) (by omega) (by omega)
      refine WP.skip ?_
      refine WP.seq ?_
      refine WP.block ?_
      refine WP.seq ?_
      refine WP.region ?_
      refine RG.pv rfl (PV.move (v := v) rfl rfl) ?_
      refine RG.pv rfl (PV.mvI (.inl rfl) rfl) ?_
      refine RG.pv rfl (PV.mvI (.inl rfl) rfl) ?_
      refine RG.callF (vs := [_, _]) rfl rfl En113 rfl (l17At_s (by omega) (by omega) ?_)
      refine RG.pv rfl (PV.idxS (j := ((r.y0 + (j : Int) + 40) * 80 + (r.x0 + (i : Int)) + 40).toNat) (v := v) rfl Is142 rfl (SlF.r h1) rfl (by omega) (by omega)) ?_
      refine RG.pv rfl (PV.loadE1 rfl Sc4 rfl rfl (El.r h1 (getG (by omega))) rfl) ?_
      refine RG.nil ?_
      rw [q2]
      refine WP.cond rfl (fun h4 => ?_) (fun h4 => ?_)
      · rw [h4, show one true = 1 from rfl] at c1
        refine WP.region ?_
        refine RG.pv rfl (PV.mvI (.inl rfl) rfl) ?_
        refine RG.pv rfl (PV.add rfl rfl rfl (by omega)) ?_
        refine RG.pv rfl (PV.mvI (.inr rfl) rfl) ?_
        refine RG.nil ?_
        refine WP.region ?_
        refine RG.pv rfl (PV.mvI (.inl rfl) rfl) ?_
        refine RG.pv rfl (PV.add rfl rfl rfl (by omega)) ?_
        refine RG.pv rfl (PV.mvI (.inr rfl) rfl) ?_
        refine RG.nil ?_
        exact ⟨rfl, i + 1, _, _, ⟨by omega, by omega, by omega⟩, ⟨rfl, rfl, trivial⟩, ⟨rfl, rfl, rfl, trivial⟩, Cv.p, by omega⟩
      · rw [h4, show one false = 0 from rfl] at c1
        refine WP.skip ?_
        refine WP.region ?_
        refine RG.pv rfl (PV.mvI (.inl rfl) rfl) ?_
        refine RG.pv rfl (PV.add rfl rfl rfl (by omega)) ?_
        refine RG.pv rfl (PV.mvI (.inr rfl) rfl) ?_
        refine RG.nil ?_
        exact ⟨rfl, i + 1, _, _, ⟨by omega, by omega, by omega⟩, ⟨rfl, rfl, trivial⟩, ⟨rfl, rfl, rfl, trivial⟩, Cv.p, by omega⟩
    · have h3 := of_decide_eq_false h3
      obtain rfl : i = wR r := by omega
      refine WP.exit ?_
      refine WP.region ?_
      refine RG.pv rfl (PV.mvI (.inl rfl) rfl) ?_
      refine RG.pv rfl (PV.add rfl rfl rfl (by omega)) ?_
      refine RG.pv rfl (PV.mvI (.inr rfl) rfl) ?_
      refine RG.nil ?_
      exact ⟨rfl, j + 1, _, _, ⟨by omega, by omega, by rw [sumF, hm, hn]⟩, ⟨rfl, rfl, trivial⟩, ⟨rfl, rfl, trivial⟩, Cv.p, by omega⟩
  · have h2 := of_decide_eq_false h2
    obtain rfl : j = hR r := by omega
    have e : covB S r = n := by rw [hn]; rfl
    rw [e] at k
    refine WP.exit ?_
    refine WP.seq ?_
    refine WP.region ?_
    refine RG.pv rfl (PV.mvI (.inl rfl) rfl) ?_
    refine RG.pv rfl (PV.mvI (.inr rfl) rfl) ?_
    refine RG.nil ?_
    refine WP.ret ?_
    exact ⟨_, _, ResV.one rfl rfl, Cv.p, k⟩
/-! ## the kind of a part -/
noncomputable def chW (l : List (List Rect)) (g : List Rect) : Int := if chK l g < 0 then 0 else chF l g
theorem l23Cond_b {v : Value} {xs : List (Sl Rect)} (h1 : Rs G L slT v xs) (hd : RsE G L rectT xs) (h8 : xs.length = 8) (hreg : ∀ i, i < 8 → isReg (gd xs i).xs = true) (k : ∀ v' zs, er zs = condB (er xs) → zs.length = 4 → R v' G (osl 142 slT v' zs :: bagS 4 boolT zs :: L)) : CallT Tryz.prog 98 #[v] G L R :=
  l23Conductors_s h1 hd h8 hreg fun v' zs h => k v' zs h (by have := congrArg List.length h; rw [er_len] at this; exact this)
theorem l24Channel_s {v u : Value} {xs : List (Sl Rect)} {g : List Rect} (h1 : Rs G L slT v xs) (hd : RsE G L rectT xs) (h2 : Rs G L rectT u g) (hlay : isLay (er xs) = true) (hg0 : 0 < g.length) (hgr : isReg g = true) (k : R (.tuple #[vi (chK (er xs) g), vi (chW (er xs) g)]) G L) : CallT Tryz.prog 120 #[v, u] G L R := by
  have h8 : xs.length = 8 := by have := isLay_len hlay; rwa [er_len] at this
  have hreg : ∀ i, i < 8 → isReg (gd xs i).xs = true := fun i hi => by rw [← er_gd]; exact isLay_reg hlay hi
  have hgl := isReg_len hgr
  have hc4 : ∀ {zs : List (Sl Bool)}, er zs = condB (er xs) → 0 < zs.length := fun h => by have := congrArg List.length h; rw [er_len] at this; rw [this]; simp [condB]
  have hcd : ∀ {zs : List (Sl Bool)}, er zs = condB (er xs) → (gd zs 0).xs = difC (er xs) := fun h => by rw [← er_gd, h]; rfl
  refine CallT.enter (args := _) Tryz.func120 rfl rfl (by kernel_rfl) rfl ?_
  refine WP.seq ?_
  refine WP.region ?_
  refine RG.pv rfl (PV.mvI (.inr rfl) rfl) ?_
  refine RG.pv rfl (PV.mvI (.inr rfl) rfl) ?_
  refine RG.nil ?_
  refine WP.seq ?_
  refine WP.region ?_
  refine RG.pv rfl (PV.mvI (.inr rfl) rfl) ?_
  refine RG.nil ?_
  refine WP.cut1 [0, 1] (fun (f : Int) => f = chF (er xs) g) (fun (f : Int) => [(6, vi f)]) (fun (f : Int) => L) ?_ ?_
  refine WP.seq ?_
  refine WP.region ?_
  refine RG.pv rfl (PV.move (v := u) rfl rfl) ?_
  refine RG.pv rfl (PV.len (v := u) rfl Tryz.underlying66 rfl (SlF.r h2)) ?_
  refine RG.pv rfl (PV.eql rfl rfl rfl) ?_
  refine RG.nil ?_
  · refine WP.cond rfl (fun h3 => ?_) (fun h3 => ?_)
    · have h3 := of_decide_eq_true h3
      refine WP.regionH0 (.q 0 (.q 4 (.q 5 (.q 6 (.l 1 (.q 2 (.q 3 (.l 7 (.q 8 Sch.nil))))))))) (by kernel_rfl) (by kernel_rfl) (by kernel_rfl) rfl ?_
      refine RH.pv rfl (fun _ _ _ _ h => h) (Gh.le_refl _) PickC.pick rfl (PV.move (v := v) rfl rfl) ?_
      refine RH.pv rfl (fun _ _ _ _ h => h) (Gh.le_refl _) PickC.pick rfl (PV.move (v := u) rfl rfl) ?_
      refine RH.pv rfl (fun _ _ _ _ h => h) (Gh.le_refl _) PickC.pick rfl (PV.idxS (j := 0) (v := u) rfl Is66 rfl (SlF.r h2) rfl (by omega) (by omega)) ?_
      refine RH.pv rfl (fun _ _ _ _ h => h) (Gh.le_refl _) PickC.pick rfl (PV.loadE rfl Ag59 rfl rfl (El.r h2 (getG (by omega)))) ?_
      refine RH.ot rfl rfl (OT.callF (vs := [v]) rfl En98 rfl (l23Cond_b (Rs.up h1) hd.up h8 hreg (fun v11 zsv11 hev11 hlv11 => ⟨Gh.le_refl _, PickC.pick, ?_⟩)))
      refine RH.up1 ?_
      refine RH.pv rfl (fun _ _ _ _ h => h) (Gh.le_refl _) PickC.pick rfl (PV.idxS (j := 0) (v := v11) rfl Is139 rfl SlF.o rfl (by omega) (by omega)) ?_
      refine RH.pv rfl (fun _ _ _ _ h => h) (Gh.le_refl _) PickC.pick rfl (PV.loadE1 rfl Sc142 rfl rfl (El.o (getG (by omega))) rfl) ?_
      refine RH.ot rfl rfl (OT.callF (vs := [_, _]) rfl En181 rfl (flow_s (D := (gd zsv11 0).xs) (Rs.inBag (xs := zsv11) 0 (hc4 hev11)) (by rw [hcd hev11]; exact difC_len _) (valid_first hg0 hgr) ⟨Gh.le_refl _, PickC.pick, ?_⟩))
      refine RH.pv rfl (fun _ _ _ _ h => h) (Gh.le_refl _) PickC.pick rfl (PV.mvI (.inr rfl) rfl) ?_
      refine RH.nil ?_
      exact ⟨rfl, _, (by rw [chF, if_pos (by omega), hcd hev11]), ⟨rfl, trivial⟩, ⟨rfl, rfl, trivial⟩, Cv.p⟩
    · have h3 := of_decide_eq_false h3
      refine WP.skip ?_
      exact ⟨rfl, 0, (by rw [chF, if_neg (by omega)]), ⟨rfl, trivial⟩, ⟨rfl, rfl, trivial⟩, Cv.p⟩
  rintro f τ hf
  subst hf
  have hcg : gd (er xs) 6 = (gd xs 6).xs := er_gd _ _
  refine WP.seq ?_
  refine WP.seq ?_
  refine WP.region ?_
  refine RG.pv rfl (PV.mvI (.inl rfl) rfl) ?_
  refine RG.pv rfl (PV.eql rfl rfl rfl) ?_
  refine RG.nil ?_
  refine WP.cond rfl (fun h4 => ?_) (fun h4 => ?_)
  · have h4 := of_decide_eq_true h4
    have e : chK (er xs) g = -1 := by rw [chK, if_pos h4]
    have e2 : chW (er xs) g = 0 := by rw [chW, if_pos (by omega)]
    rw [e, e2] at k
    refine WP.seq ?_
    refine WP.region ?_
    refine RG.pv rfl (PV.mvI (.inr rfl) rfl) ?_
    refine RG.pv rfl (PV.mvI (.inr rfl) rfl) ?_
    refine RG.nil ?_
    refine WP.ret ?_
    exact ⟨_, _, ResV.two rfl rfl rfl, Cv.p, k⟩
  · have h4 := of_decide_eq_false h4
    refine WP.skip ?_
    refine WP.seq ?_
    refine WP.seq ?_
    refine WP.regionH0 (.q 0 (.q 1 (.q 2 (.q 4 (.q 5 (.q 6 (.l 3 (.l 7 Sch.nil)))))))) (by kernel_rfl) (by kernel_rfl) (by kernel_rfl) rfl ?_
    refine RH.pv rfl (fun _ _ _ _ h => h) (Gh.le_refl _) PickC.pick rfl (PV.move (v := v) rfl rfl) ?_
    refine RH.pv rfl (fun _ _ _ _ h => h) (Gh.le_refl _) PickC.pick rfl (PV.idxS (j := 6) (v := v) rfl Is27 rfl (SlF.r h1) rfl (by omega) (by omega)) ?_
    refine RH.pv rfl (fun _ _ _ _ h => h) (Gh.le_refl _) PickC.pick rfl (PV.loadE1 rfl Sc66 rfl rfl (El.r h1 (getG (by omega))) rfl) ?_
    refine RH.pv rfl (fun _ _ _ _ h => h) (Gh.le_refl _) PickC.pick rfl (PV.move (v := u) rfl rfl) ?_
    refine RH.pv rfl (fun _ _ _ _ h => h) (Gh.le_refl _) PickC.pick rfl (PV.idxS (j := 0) (v := u) rfl Is66 rfl (SlF.r h2) rfl (by omega) (by omega)) ?_
    refine RH.pv rfl (fun _ _ _ _ h => h) (Gh.le_refl _) PickC.pick rfl (PV.loadE rfl Ag59 rfl rfl (El.r h2 (getG (by omega)))) ?_
    refine RH.ot rfl rfl (OT.callF (vs := [_]) rfl En101 rfl (l03Bits_s (Rs.up (hd _ (by omega))) (fun i hi => valid_get (isReg_valid (hreg _ (by omega))) hi) (fun v23 => ⟨Gh.le_refl _, PickC.pick, ?_⟩)))
    refine RH.ot rfl rfl (OT.callF (vs := [v23, _]) rfl En182 rfl (l19Cov_s Rs.o (bits_length _) (valid_first hg0 hgr) ⟨Gh.le_refl _, PickC.pick, ?_⟩))
    refine RH.nil ?_
    refine WP.block ?_
    refine WP.seq ?_
    refine WP.region ?_
    refine RG.pv rfl (PV.eql rfl rfl rfl) ?_
    refine RG.pv rfl (PV.mvB (.inr rfl) rfl) ?_
    refine RG.nil ?_
    refine WP.cond rfl (fun h5 => ?_) (fun h5 => ?_)
    · have h5 := of_decide_eq_true h5
      have e : chK (er xs) g = 0 := by rw [chK, if_neg h4, hcg, if_pos h5]
      have e2 : chW (er xs) g = chF (er xs) g := by rw [chW, if_neg (by omega)]
      rw [e, e2] at k
      refine WP.seq ?_
      refine WP.region ?_
      refine RG.pv rfl (PV.mvI (.inl rfl) rfl) ?_
      refine RG.pv rfl (PV.mvI (.inr rfl) rfl) ?_
      refine RG.pv rfl (PV.mvI (.inr rfl) rfl) ?_
      refine RG.nil ?_
      refine WP.ret ?_
      exact ⟨_, _, ResV.two rfl rfl rfl, Cv.p, k⟩
    · have h5 := of_decide_eq_false h5
      refine WP.seq ?_
      refine WP.region ?_
      refine RG.pv rfl (PV.move (v := u) rfl rfl) ?_
      refine RG.pv rfl (PV.idxS (j := 0) (v := u) rfl Is66 rfl (SlF.r h2) rfl (by omega) (by omega)) ?_
      refine RG.pv rfl (PV.loadE rfl Ag59 rfl rfl (El.r h2 (getG (by omega)))) ?_
      refine RG.callF (vs := [_]) rfl rfl En183 rfl (length_s (valid_first hg0 hgr) ?_)
      refine RG.pv rfl (PV.eql rfl rfl rfl) ?_
      refine RG.pv rfl (PV.mvB (.inr rfl) rfl) ?_
      refine RG.nil ?_
      refine WP.cond rfl (fun h6 => ?_) (fun h6 => ?_)
      · have h6 := of_decide_eq_true h6
        have e : chK (er xs) g = 1 := by rw [chK, if_neg h4, hcg, if_neg h5, if_pos h6]
        have e2 : chW (er xs) g = chF (er xs) g := by rw [chW, if_neg (by omega)]
        rw [e, e2] at k
        refine WP.seq ?_
        refine WP.region ?_
        refine RG.pv rfl (PV.mvI (.inl rfl) rfl) ?_
        refine RG.pv rfl (PV.mvI (.inr rfl) rfl) ?_
        refine RG.pv rfl (PV.mvI (.inr rfl) rfl) ?_
        refine RG.nil ?_
        refine WP.ret ?_
        exact ⟨_, _, ResV.two rfl rfl rfl, Cv.p, k⟩
      · have h6 := of_decide_eq_false h6
        have e : chK (er xs) g = -1 := by rw [chK, if_neg h4, hcg, if_neg h5, if_neg h6]
        have e2 : chW (er xs) g = 0 := by rw [chW, if_pos (by omega)]
        rw [e, e2] at k
        refine WP.skip ?_
        refine WP.seq ?_
        refine WP.region ?_
        refine RG.pv rfl (PV.mvI (.inr rfl) rfl) ?_
        refine RG.pv rfl (PV.mvI (.inr rfl) rfl) ?_
        refine RG.nil ?_
        refine WP.ret ?_
        exact ⟨_, _, ResV.two rfl rfl rfl, Cv.p, k⟩
/-! ## parts -/
theorem l24Parts_s {v : Value} {xs : List (Sl Rect)} (h1 : Rs G L slT v xs) (hd : RsE G L rectT xs) (hlay : isLay (er xs) = true) (k : ∀ v' ys, er ys = partsC (er xs) → R v' G (osl 66 slT v' ys :: bagS 59 rectT ys :: L)) : CallT Tryz.prog 119 #[v] G L R := by
  have h8 : xs.length = 8 := by have := isLay_len hlay; rwa [er_len] at this
  have hreg : ∀ i, i < 8 → isReg (gd xs i).xs = true := fun i hi => by rw [← er_gd]; exact isLay_reg hlay hi
  refine CallT.enter (args := _) Tryz.func119 rfl rfl (by kernel_rfl) rfl ?_
  refine WP.seq ?_
  refine WP.region ?_
  refine RG.pv rfl (PV.asg rfl rfl) ?_
  refine RG.nil ?_
  refine WP.seq ?_
  refine WP.region ?_
  refine RG.ot rfl (OT.bslice (F := (slT (α := Rect))) (els := []) rfl El27 rfl (by decide) rfl (by decide) trivial fun v6 => ?_)
  refine RG.pv rfl (PV.asg (v := v6) rfl rfl) ?_
  refine RG.nil ?_
  refine WP.seq ?_
  refine WP.region ?_
  refine RG.pv rfl (PV.move (v := v) rfl rfl) ?_
  refine RG.callF (vs := [v]) rfl rfl En180 rfl (l24Area_s (Rs.up h1) hd.up h8 hreg (fun v8 => ?_))
  refine RG.callF (vs := [v8]) rfl rfl En99 rfl (comps_s Rs.o (zipB_len (bits_length _) (bits_length _)) (fun v9 zsv9 hzv9 => ?_))
  refine RG.pv rfl (PV.asg (v := v9) rfl rfl) ?_
  refine RG.nil ?_
  refine WP.seq ?_
  refine WP.seq ?_
  refine WP.region ?_
  refine RG.pv rfl (PV.mvI (.inr rfl) rfl) ?_
  refine RG.nil ?_
  refine WP.block ?_
  have hz : er zsv9 = comps (regC (er xs)) := by rw [hzv9, regC, er_gd, er_gd]
  have hzl : zsv9.length ≤ 6400 := by have := congrArg List.length hz; rw [er_len] at this; have h2 := comps_len (regC (er xs)); omega
  refine WP.cv ((Cv.p (C := osl 66 slT v6 ([] : List (Sl Rect)) :: osl 142 slT v9 zsv9 :: bagS 4 boolT zsv9 :: L)).trans (Cv.cons (Cv.bag0 (e := 59) (F := rectT) (xs := []) rfl))) ?_
  refine WP.loop3 [4] (fun (i : Nat) (ys : List (Sl Rect)) (q : Value) => i ≤ zsv9.length ∧ er ys = ((comps (regC (er xs))).take i).map canon) (fun (i : Nat) (ys : List (Sl Rect)) (q : Value) => [(5, vi i), (3, q)]) (fun (i : Nat) (ys : List (Sl Rect)) (q : Value) => osl 66 slT q ys :: bagS 59 rectT ys :: osl 142 slT v9 zsv9 :: bagS 4 boolT zsv9 :: L) (fun (i : Nat) (ys : List (Sl Rect)) (q : Value) => zsv9.length - i) 0 [] v6 ⟨by omega, rfl⟩ ⟨rfl, rfl, trivial⟩ Cv.p ?_
  rintro i ys q τ ⟨hi, hys⟩
  refine WP.seq ?_
  refine WP.seq ?_
  refine WP.region ?_
  refine RG.pv rfl (PV.mvI (.inl rfl) rfl) ?_
  refine RG.pv rfl (PV.move (v := v9) rfl rfl) ?_
  refine RG.pv rfl (PV.len (v := v9) rfl Tryz.underlying139 rfl SlF.o) ?_
  refine RG.pv rfl (PV.lss rfl rfl rfl) ?_
  refine RG.nil ?_
  have hyl : ys.length ≤ 6400 := by
    have := congrArg List.length hys
    rw [er_len, List.length_map, List.length_take] at this; omega
  refine WP.cond rfl (fun h4 => ?_) (fun h4 => ?_)
  · have h4 := of_decide_eq_true h4
    have hgm : (gd zsv9 i).xs ∈ comps (regC (er xs)) := by rw [← hz, ← er_gd]; exact gd_mem (by rw [er_len]; omega)
    have hl6 : (gd zsv9 i).xs.length = 6400 := comps_mem hgm
    refine WP.skip ?_
    refine WP.seq ?_
    refine WP.block ?_
    refine WP.region ?_
    refine RG.pv rfl (PV.move (v := q) rfl rfl) ?_
    refine RG.pv rfl (PV.move (v := v9) rfl rfl) ?_
    refine RG.pv rfl (PV.mvI (.inl rfl) rfl) ?_
    refine RG.pv rfl (PV.idxS (v := v9) rfl Is139 rfl SlF.o rfl rfl (by omega)) ?_
    refine RG.pv rfl (PV.loadE1 rfl Sc142 rfl rfl (El.o (getG (by omega))) rfl) ?_
    refine RG.callF (vs := [_]) rfl rfl En114 rfl (l03Canon_s (Rs.inBag (xs := zsv9) i (by omega)) hl6 (fun v21 => ?_))
    refine RG.ot rfl (OT.bslice (F := (slT (α := Rect))) (els := [⟨v21, canon (gd zsv9 i).xs⟩]) rfl El27 rfl (by decide) rfl (by decide) ⟨rfl, (Cl.s (v := v21) SlF.o), trivial⟩ fun v22 => ?_)
    refine RG.ot rfl (OT.append (v := q) (u := v22) (F := (slT (α := Rect))) rfl El27 rfl (by decide) rfl rfl Rs.o (OneL.one (OneC.sl SlF.o OneC.nil)) rfl (by first | omega | (simp <;> omega)) fun v23 => ?_)
    refine RG.pv rfl (PV.asg (v := v23) rfl rfl) ?_
    refine RG.nil ?_
    refine WP.region ?_
    refine RG.pv rfl (PV.mvI (.inl rfl) rfl) ?_
    refine RG.pv rfl (PV.add rfl rfl rfl (by omega)) ?_
    refine RG.pv rfl (PV.mvI (.inr rfl) rfl) ?_
    refine RG.nil ?_
    refine ⟨rfl, i + 1, (ys ++ [⟨v21, canon (gd zsv9 i).xs⟩]), v23, ⟨by omega, ?_⟩, ⟨rfl, rfl, trivial⟩, ⟨rfl, trivial⟩, ((Cv.p (C := osl 66 slT v23 (ys ++ [⟨v21, canon (gd zsv9 i).xs⟩]) :: osl 59 rectT v21 (canon (gd zsv9 i).xs) :: bagS 59 rectT ys :: osl 142 slT v9 zsv9 :: bagS 4 boolT zsv9 :: L)).trans (Cv.cons Cv.bagS_add)), by omega⟩
    have hg : (comps (regC (er xs)))[i]? = some (gd zsv9 i).xs := by rw [← hz, getG (by rw [er_len]; omega), er_gd]
    rw [List.take_add_one, hg, List.map_append, ← hys]; simp [er]
  · have h4 := of_decide_eq_false h4
    have e2 : er ys = partsC (er xs) := by rw [hys, List.take_of_length_le (by rw [← hz, er_len]; omega)]; rfl
    refine WP.exit ?_
    refine WP.seq ?_
    refine WP.region ?_
    refine RG.pv rfl (PV.move (v := q) rfl rfl) ?_
    refine RG.pv rfl (PV.asg (v := q) rfl rfl) ?_
    refine RG.nil ?_
    refine WP.ret ?_
    exact ⟨_, _, ResV.one rfl rfl, Cv.p, k q ys e2⟩
end Go.Proofs.YthjaopefoiploaaGreat
