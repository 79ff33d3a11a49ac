/-
  Contracts: cells along edges and in boxes; channels, as the program tells them.
-/
import Derived.Test.YthjaopefoiploaaGreatW25
import Derived.Test.YthjaopefoiploaaGreatChan
namespace Go.Proofs.YthjaopefoiploaaGreat
open Go
set_option maxRecDepth 20000
set_option linter.unusedSimpArgs false
variable {G : Gh} {L : List Ch} {R : Value → Gh → List Ch → Prop}
theorem Cv.blkEq {b : Nat} {t : TypeId} {cs cs' : List Value} {L : List Ch} (h : cs = cs') : Cv (blk b t cs :: L) (blk b t cs' :: L) := by subst h; exact Cv.refl _
theorem unitCell_s {p : Pt} (k : R (.bool (within p.x (-40) 39 && within p.y (-40) 39)) G L) : CallT Tryz.prog 154 #[vpt p] G L R := by
  refine CallT.enter (args := _) Tryz.func154 rfl rfl (by kernel_rfl) rfl ?_
  refine WP.seq ?_
  refine WP.region ?_
  refine RG.ot rfl (OT.box (cs := ptT.enc p) rfl rfl rfl fun b1 => ?_)
  refine RG.pv rfl (PV.mvB (.inr rfl) rfl) ?_
  refine RG.nil ?_
  refine WP.seq ?_
  refine WP.region ?_
  refine RG.pv rfl (PV.field rfl Fo29_0 rfl) ?_
  refine RG.pv rfl (PV.load1 rfl Sc2 rfl (Rd.blk rfl)) ?_
  refine RG.callF (vs := [_, _, _]) rfl rfl En153 rfl (within_s ?_)
  refine RG.pv rfl (PV.mvB (.inl rfl) rfl) ?_
  refine RG.gs rfl rfl rfl (fun hp => (PV.field rfl Fo29_1 rfl)) ?_
  refine RG.gs rfl rfl rfl (fun hp => (PV.load1 rfl Sc2 (gs_t hp) (Rd.blk rfl))) ?_
  refine RG.gsC rfl rfl rfl rfl En153 (fun hp => ⟨_, (acons (gs_t hp) (acons rfl (acons rfl anil))), within_s ⟨rfl, rfl, rfl⟩⟩) ?_
  refine RG.pv rfl (PV.pickA rfl rfl (fun hq => gs_t (geqT hq)) rfl) ?_
  refine RG.pv rfl (PV.mvB (.inr rfl) rfl) ?_
  refine RG.nil ?_
  refine WP.ret ?_
  exact ⟨_, _, ResV.one rfl rfl, Cv.p, k⟩
theorem cellB_within {D : List Bool} {x y : Int} : cellB D x y = (within x (-40) 39 && within y (-40) 39 && gd D (0 + (y + 40).toNat * 80 + (x + 40).toNat * 1)) := by
  by_cases h : -40 ≤ x ∧ x < 40 ∧ -40 ≤ y ∧ y < 40
  · rw [cellB_in h, show within x (-40) 39 = true by simp [within]; omega, show within y (-40) 39 = true by simp [within]; omega, Nat.zero_add, Nat.mul_one]; rfl
  · rw [cellB_out h]
    by_cases c : -40 ≤ x ∧ x < 40
    · rw [show within y (-40) 39 = false by simp [within]; omega]; simp
    · rw [show within x (-40) 39 = false by simp [within]; omega]; simp
theorem has_s {b : Nat} {D : List Bool} {x y : Int} (hD : D.length = 6400) (k : R (.bool (cellB D x y)) G (grd b D :: L)) : CallT Tryz.prog 193 #[.pointer (some ⟨b, 0, none⟩), vi x, vi y] G (grd b D :: L) R := by
  rw [cellB_within] at k
  refine CallT.enter (args := _) Tryz.func193 rfl rfl (by kernel_rfl) rfl ?_
  refine WP.seq ?_
  refine WP.region ?_
  refine RG.pv rfl (PV.mvB (.inr rfl) rfl) ?_
  refine RG.nil ?_
  refine WP.seq ?_
  refine WP.region ?_
  refine RG.pv rfl (PV.mvI (.inl rfl) rfl) ?_
  refine RG.pv rfl (PV.mvI (.inl rfl) rfl) ?_
  refine RG.pv rfl (PV.build (vs := [(0, [vi _]), (1, [vi _])]) (out := [_, _]) rfl Zr29 Pl29 ⟨rfl, (Cl.c rfl), ⟨rfl, (Cl.c rfl), trivial⟩⟩ rfl) ?_
  refine RG.callF (vs := [_]) rfl rfl En154 rfl (unitCell_s (p := ⟨x, y⟩) ?_)
  refine RG.pv rfl (PV.mvB (.inl rfl) rfl) ?_
  refine RG.gs rfl rfl rfl (fun hp => (PV.mvP (.inl rfl) rfl)) ?_
  refine RG.gs rfl rfl rfl (fun hp => (PV.mvI (.inl rfl) rfl)) ?_
  refine RG.gs rfl rfl rfl (fun hp => (PV.add rfl (gs_t hp) rfl (by first | omega | (simp [within] at hp; omega)))) ?_
  refine RG.gs rfl rfl rfl (fun hp => (PV.mvI (.inl rfl) rfl)) ?_
  refine RG.gs rfl rfl rfl (fun hp => (PV.add rfl (gs_t hp) rfl (by first | omega | (simp [within] at hp; omega)))) ?_
  refine RG.gs rfl rfl rfl (fun hp => (PV.nilc rfl (gs_t hp))) ?_
  refine RG.gs rfl rfl rfl (fun hp => (PV.idxA (j := (y + 40).toNat) rfl Ia218 (gs_t hp) (gs_t hp) (by first | omega | (simp [within] at hp; omega)) (by first | omega | (simp [within] at hp; omega)))) ?_
  refine RG.gs rfl rfl rfl (fun hp => (PV.idxA (j := (x + 40).toNat) rfl Ia216 (gs_t hp) (gs_t hp) (by first | omega | (simp [within] at hp; omega)) (by first | omega | (simp [within] at hp; omega)))) ?_
  refine RG.gs rfl rfl rfl (fun hp => (PV.loadGr rfl Sc4 (gs_t hp) rfl (by first | omega | (simp [within] at hp; omega)))) ?_
  refine RG.pv rfl (PV.pickA rfl rfl (fun hq => gs_t (geqT hq)) rfl) ?_
  refine RG.pv rfl (PV.mvB (.inr rfl) rfl) ?_
  refine RG.nil ?_
  refine WP.ret ?_
  exact ⟨_, _, ResV.one rfl rfl, Cv.p, k⟩
theorem see_s {b ba bc bp : Nat} {D : List Bool} {x y a n : Int} (hD : D.length = 6400) (ha : 0 ≤ a ∧ a ≤ 1000) (hn : 0 ≤ n ∧ n ≤ 1000) (k : R (.tuple #[]) G (blk ba 2 [vi (a + 1)] :: blk bc 2 [vi (n + one (cellB D x y))] :: blk bp 168 [.pointer (some ⟨b, 0, none⟩)] :: grd b D :: L)) :
    CallT Tryz.prog 192 #[vi x, vi y, .pointer (some ⟨ba, 0, none⟩), .pointer (some ⟨bp, 0, none⟩), .pointer (some ⟨bc, 0, none⟩)] G (blk ba 2 [vi a] :: blk bc 2 [vi n] :: blk bp 168 [.pointer (some ⟨b, 0, none⟩)] :: grd b D :: L) R := by
  refine CallT.enter (args := _) Tryz.func192 rfl rfl (by kernel_rfl) rfl ?_
  refine WP.seq ?_
  refine WP.region ?_
  refine RG.pv rfl (PV.load1 rfl Sc2 rfl (Rd.blk rfl)) ?_
  refine RG.pv rfl (PV.add rfl rfl rfl (by omega)) ?_
  refine RG.ot rfl (OT.storeW (vs := [vi _]) rfl Sz2 rfl rfl (Cl.c rfl) rfl rfl (OneC.c rfl) ?_)
  refine RG.nil ?_
  refine WP.seq ?_
  refine WP.region ?_
  refine RG.pv rfl (PV.load1 rfl Sc168 rfl (Rd.blk rfl)) ?_
  refine RG.pv rfl (PV.mvI (.inl rfl) rfl) ?_
  refine RG.pv rfl (PV.mvI (.inl rfl) rfl) ?_
  refine RG.callF (vs := [_, _, _]) rfl rfl En193 rfl (CallT.exB (has_s hD ?_))
  refine RG.nil ?_
  refine WP.cond rfl (fun h => ?_) (fun h => ?_)
  · rw [h, show one true = 1 from rfl] at k
    refine WP.region ?_
    refine RG.pv rfl (PV.load1 rfl Sc2 rfl (Rd.blk rfl)) ?_
    refine RG.pv rfl (PV.add rfl rfl rfl (by omega)) ?_
    refine RG.ot rfl (OT.storeW (vs := [vi _]) rfl Sz2 rfl rfl (Cl.c rfl) rfl rfl (OneC.c rfl) ?_)
    refine RG.nil ?_
    exact ⟨_, _, ResV.zero rfl, Cv.p, k⟩
  · rw [h, show one false = 0 from rfl, Int.add_zero] at k
    refine WP.skip ?_
    exact ⟨_, _, ResV.zero rfl, Cv.p, k⟩
theorem outer_s {b : Nat} {D : List Bool} {r : Rect} {hz : Bool} (hD : D.length = 6400) (hr : validRect r = true)
    (k : R (.tuple #[vi (bif hz then tV D (r.x0 - 1) r.y0 (hR r) + tV D r.x1 r.y0 (hR r) else tH D (r.y0 - 1) r.x0 (wR r) + tH D r.y1 r.x0 (wR r)), vi (bif hz then 2 * (r.y1 - r.y0) else 2 * (r.x1 - r.x0))]) G (grd b D :: L)) :
    CallT Tryz.prog 129 #[.pointer (some ⟨b, 0, none⟩), vrect r, .bool hz] G (grd b D :: L) R := by
  have hv := validR_iff.1 hr
  have e1 : (wR r : Int) = r.x1 - r.x0 := by simp only [wR]; omega
  have e2 : (hR r : Int) = r.y1 - r.y0 := by simp only [hR]; omega
  refine CallT.enter (args := _) Tryz.func129 rfl rfl (by kernel_rfl) rfl ?_
  refine WP.seq ?_
  refine WP.region ?_
  refine RG.ot rfl (OT.box (cs := [.pointer (some ⟨b, 0, none⟩)]) rfl rfl rfl fun b3 => ?_)
  refine RG.ot rfl (OT.box (cs := rectT.enc r) rfl rfl rfl fun b4 => ?_)
  refine RG.pv rfl (PV.mvI (.inr rfl) rfl) ?_
  refine RG.pv rfl (PV.mvI (.inr rfl) rfl) ?_
  refine RG.nil ?_
  refine WP.seq ?_
  refine WP.region ?_
  refine RG.ot rfl (OT.alloc rfl Zr2 fun b8 => ?_)
  refine RG.ot rfl (OT.alloc rfl Zr2 fun b9 => ?_)
  refine RG.ot rfl (OT.storeW (vs := [vi _]) rfl Sz2 rfl rfl (Cl.c rfl) rfl rfl (OneC.c rfl) ?_)
  refine RG.ot rfl (OT.storeW (vs := [vi _]) rfl Sz2 rfl rfl (Cl.c rfl) rfl rfl (OneC.c rfl) ?_)
  refine RG.nil ?_
  refine WP.seq ?_
  refine WP.region ?_
  refine RG.pv rfl (PV.mkf3 rfl rfl rfl rfl) ?_
  refine RG.pv rfl (PV.mvF (.inr rfl) rfl) ?_
  refine RG.nil ?_
  refine WP.seq ?_
  refine WP.seq ?_
  refine WP.region ?_
  refine RG.pv rfl (PV.mvB (.inl rfl) rfl) ?_
  refine RG.nil ?_
  refine WP.cond rfl (fun hh => ?_) (fun hh => ?_)
  · rw [hh] at k
    simp only [cond_true] at k
    refine WP.seq ?_
    refine WP.region ?_
    refine RG.pv rfl (PV.field rfl Fo59_1 rfl) ?_
    refine RG.pv rfl (PV.load1 rfl Sc2 rfl (Rd.blk rfl)) ?_
    refine RG.pv rfl (PV.mvI (.inr rfl) rfl) ?_
    refine RG.nil ?_
    refine WP.block ?_
    refine WP.cv ((Cv.p (C := blk b9 2 [vi 0] :: blk b8 2 [vi 0] :: blk b3 168 [.pointer (some ⟨b, 0, none⟩)] :: blk b4 59 (rectT.enc r) :: grd b D :: L)).trans (Cv.cast (L' := blk b9 2 [vi (2 * ((0 : Nat) : Int))] :: blk b8 2 [vi (tV D (r.x0 - 1) r.y0 0 + tV D r.x1 r.y0 0)] :: blk b3 168 [.pointer (some ⟨b, 0, none⟩)] :: blk b4 59 (rectT.enc r) :: grd b D :: L) rfl)) ?_
    refine WP.loop2 [4, 8, 9, 10] (fun (i : Nat) (y : Int) => i ≤ hR r ∧ y = r.y0 + i) (fun (i : Nat) (y : Int) => [(11, vi y)]) (fun (i : Nat) (y : Int) => blk b9 2 [vi (2 * (i : Int))] :: blk b8 2 [vi (tV D (r.x0 - 1) r.y0 i + tV D r.x1 r.y0 i)] :: blk b3 168 [.pointer (some ⟨b, 0, none⟩)] :: blk b4 59 (rectT.enc r) :: grd b D :: L) (fun (i : Nat) (y : Int) => hR r - i) 0 r.y0 ⟨by omega, by omega⟩ ⟨rfl, trivial⟩ Cv.p ?_
    rintro i y τ ⟨hi, hy⟩
    refine WP.seq ?_
    refine WP.seq ?_
    refine WP.region ?_
    refine RG.pv rfl (PV.mvI (.inl rfl) rfl) ?_
    refine RG.pv rfl (PV.field rfl Fo59_3 rfl) ?_
    refine RG.pv rfl (PV.load1 rfl Sc2 rfl (Rd.blk rfl)) ?_
    refine RG.pv rfl (PV.lss rfl rfl rfl) ?_
    refine RG.nil ?_
    have b1 := cntF_bd (fun k => cellB D (r.x0 - 1) (r.y0 + k)) i
    have b2 := cntF_bd (fun k => cellB D r.x1 (r.y0 + k)) i
    have b3' : tV D (r.x0 - 1) r.y0 i = cntF (fun k => cellB D (r.x0 - 1) (r.y0 + k)) i := rfl
    have b4' : tV D r.x1 r.y0 i = cntF (fun k => cellB D r.x1 (r.y0 + k)) i := rfl
    refine WP.cond rfl (fun h2 => ?_) (fun h2 => ?_)
    · have h2 := of_decide_eq_true h2
      subst hy
      have c1 : tV D (r.x0 - 1) r.y0 (i + 1) = tV D (r.x0 - 1) r.y0 i + one (cellB D (r.x0 - 1) (r.y0 + i)) := rfl
      have c2 : tV D r.x1 r.y0 (i + 1) = tV D r.x1 r.y0 i + one (cellB D r.x1 (r.y0 + i)) := rfl
      have c3 := one_nn (cellB D (r.x0 - 1) (r.y0 + i))
      have c4 := one_nn (cellB D r.x1 (r.y0 + i))
      refine WP.skip ?_
      refine WP.seq ?_
      refine WP.block ?_
      refine WP.seq ?_
      refine WP.region ?_
      refine RG.pv rfl (PV.mvF (.inl rfl) rfl) ?_
      refine RG.pv rfl (PV.field rfl Fo59_0 rfl) ?_
      refine RG.pv rfl (PV.load1 rfl Sc2 rfl (Rd.blk rfl)) ?_
      refine RG.pv rfl (PV.sub rfl rfl rfl (by omega)) ?_
      refine RG.pv rfl (PV.mvI (.inl rfl) rfl) ?_
      refine RG.callK (vs := [_, _, _, _, _]) rfl rfl rfl En192 rfl (CallT.exB (b := b) (CallT.exB (b := b3) (CallT.exB (b := b8) (CallT.exB (b := b9) (see_s hD (by omega) (by omega) ?_)))))
      refine RG.nil ?_
      refine WP.region ?_
      refine RG.pv rfl (PV.mvF (.inl rfl) rfl) ?_
      refine RG.pv rfl (PV.field rfl Fo59_2 rfl) ?_
      refine RG.pv rfl (PV.load1 rfl Sc2 rfl (Rd.blk rfl)) ?_
      refine RG.pv rfl (PV.mvI (.inl rfl) rfl) ?_
      refine RG.callK (vs := [_, _, _, _, _]) rfl rfl rfl En192 rfl (CallT.exB (b := b) (CallT.exB (b := b3) (CallT.exB (b := b8) (CallT.exB (b := b9) (see_s hD (by omega) (by omega) ?_)))))
      refine RG.nil ?_
      refine WP.region ?_
      refine RG.pv rfl (PV.mvI (.inl rfl) rfl) ?_
      refine RG.pv rfl (PV.add rfl rfl rfl (by omega)) ?_
      refine RG.pv rfl (PV.mvI (.inr rfl) rfl) ?_
      refine RG.nil ?_
      exact ⟨rfl, i + 1, _, ⟨by omega, by omega⟩, ⟨rfl, trivial⟩, ⟨rfl, rfl, rfl, rfl, trivial⟩, ((Cv.blkEq (cs' := [vi (2 * ((i + 1 : Nat) : Int))]) (congrArg (fun z => [vi z]) (by omega))).trans ((Cv.cons (Cv.blkEq (cs' := [vi (tV D (r.x0 - 1) r.y0 (i + 1) + tV D r.x1 r.y0 (i + 1))]) (congrArg (fun z => [vi z]) (by omega)))).trans Cv.p)), by omega⟩
    · have h2 := of_decide_eq_false h2
      obtain rfl : i = hR r := by omega
      rw [← e2] at k
      refine WP.exit ?_
      refine WP.seq ?_
      refine WP.regionQ (by kernel_rfl) (by kernel_rfl) ?_
      refine RQ.pv rfl (PV.load1 rfl Sc2 rfl (Rd.blk rfl)) ?_
      refine RQ.pv rfl (PV.load1 rfl Sc2 rfl (Rd.blk rfl)) ?_
      refine RQ.pv rfl (PV.mvI (.inr rfl) rfl) ?_
      refine RQ.pv rfl (PV.mvI (.inr rfl) rfl) ?_
      refine RQ.nil ?_
      refine WP.ret ?_
      exact ⟨_, _, ResV.two rfl rfl rfl, Cv.p, k⟩
  · rw [hh] at k
    simp only [cond_false] at k
    refine WP.seq ?_
    refine WP.region ?_
    refine RG.pv rfl (PV.field rfl Fo59_0 rfl) ?_
    refine RG.pv rfl (PV.load1 rfl Sc2 rfl (Rd.blk rfl)) ?_
    refine RG.pv rfl (PV.mvI (.inr rfl) rfl) ?_
    refine RG.nil ?_
    refine WP.block ?_
    refine WP.cv ((Cv.p (C := blk b9 2 [vi 0] :: blk b8 2 [vi 0] :: blk b3 168 [.pointer (some ⟨b, 0, none⟩)] :: blk b4 59 (rectT.enc r) :: grd b D :: L)).trans (Cv.cast (L' := blk b9 2 [vi (2 * ((0 : Nat) : Int))] :: blk b8 2 [vi (tH D (r.y0 - 1) r.x0 0 + tH D r.y1 r.x0 0)] :: blk b3 168 [.pointer (some ⟨b, 0, none⟩)] :: blk b4 59 (rectT.enc r) :: grd b D :: L) rfl)) ?_
    refine WP.loop2 [4, 8, 9, 10] (fun (i : Nat) (y : Int) => i ≤ wR r ∧ y = r.x0 + i) (fun (i : Nat) (y : Int) => [(12, vi y)]) (fun (i : Nat) (y : Int) => blk b9 2 [vi (2 * (i : Int))] :: blk b8 2 [vi (tH D (r.y0 - 1) r.x0 i + tH D r.y1 r.x0 i)] :: blk b3 168 [.pointer (some ⟨b, 0, none⟩)] :: blk b4 59 (rectT.enc r) :: grd b D :: L) (fun (i : Nat) (y : Int) => wR r - i) 0 r.x0 ⟨by omega, by omega⟩ ⟨rfl, trivial⟩ Cv.p ?_
    rintro i y τ ⟨hi, hy⟩
    refine WP.seq ?_
    refine WP.seq ?_
    refine WP.region ?_
    refine RG.pv rfl (PV.mvI (.inl rfl) rfl) ?_
    refine RG.pv rfl (PV.field rfl Fo59_2 rfl) ?_
    refine RG.pv rfl (PV.load1 rfl Sc2 rfl (Rd.blk rfl)) ?_
    refine RG.pv rfl (PV.lss rfl rfl rfl) ?_
    refine RG.nil ?_
    have b1 := cntF_bd (fun k => cellB D (r.x0 + k) (r.y0 - 1)) i
    have b2 := cntF_bd (fun k => cellB D (r.x0 + k) r.y1) i
    have b3' : tH D (r.y0 - 1) r.x0 i = cntF (fun k => cellB D (r.x0 + k) (r.y0 - 1)) i := rfl
    have b4' : tH D r.y1 r.x0 i = cntF (fun k => cellB D (r.x0 + k) r.y1) i := rfl
    refine WP.cond rfl (fun h2 => ?_) (fun h2 => ?_)
    · have h2 := of_decide_eq_true h2
      subst hy
      have c1 : tH D (r.y0 - 1) r.x0 (i + 1) = tH D (r.y0 - 1) r.x0 i + one (cellB D (r.x0 + i) (r.y0 - 1)) := rfl
      have c2 : tH D r.y1 r.x0 (i + 1) = tH D r.y1 r.x0 i + one (cellB D (r.x0 + i) r.y1) := rfl
      have c3 := one_nn (cellB D (r.x0 + i) (r.y0 - 1))
      have c4 := one_nn (cellB D (r.x0 + i) r.y1)
      refine WP.skip ?_
      refine WP.seq ?_
      refine WP.block ?_
      refine WP.seq ?_
      refine WP.region ?_
      refine RG.pv rfl (PV.mvF (.inl rfl) rfl) ?_
      refine RG.pv rfl (PV.mvI (.inl rfl) rfl) ?_
      refine RG.pv rfl (PV.field rfl Fo59_1 rfl) ?_
      refine RG.pv rfl (PV.load1 rfl Sc2 rfl (Rd.blk rfl)) ?_
      refine RG.pv rfl (PV.sub rfl rfl rfl (by omega)) ?_
      refine RG.callK (vs := [_, _, _, _, _]) rfl rfl rfl En192 rfl (CallT.exB (b := b) (CallT.exB (b := b3) (CallT.exB (b := b8) (CallT.exB (b := b9) (see_s hD (by omega) (by omega) ?_)))))
      refine RG.nil ?_
      refine WP.region ?_
      refine RG.pv rfl (PV.mvF (.inl rfl) rfl) ?_
      refine RG.pv rfl (PV.mvI (.inl rfl) rfl) ?_
      refine RG.pv rfl (PV.field rfl Fo59_3 rfl) ?_
      refine RG.pv rfl (PV.load1 rfl Sc2 rfl (Rd.blk rfl)) ?_
      refine RG.callK (vs := [_, _, _, _, _]) rfl rfl rfl En192 rfl (CallT.exB (b := b) (CallT.exB (b := b3) (CallT.exB (b := b8) (CallT.exB (b := b9) (see_s hD (by omega) (by omega) ?_)))))
      refine RG.nil ?_
      refine WP.region ?_
      refine RG.pv rfl (PV.mvI (.inl rfl) rfl) ?_
      refine RG.pv rfl (PV.add rfl rfl rfl (by omega)) ?_
      refine RG.pv rfl (PV.mvI (.inr rfl) rfl) ?_
      refine RG.nil ?_
      exact ⟨rfl, i + 1, _, ⟨by omega, by omega⟩, ⟨rfl, trivial⟩, ⟨rfl, rfl, rfl, rfl, trivial⟩, ((Cv.blkEq (cs' := [vi (2 * ((i + 1 : Nat) : Int))]) (congrArg (fun z => [vi z]) (by omega))).trans ((Cv.cons (Cv.blkEq (cs' := [vi (tH D (r.y0 - 1) r.x0 (i + 1) + tH D r.y1 r.x0 (i + 1))]) (congrArg (fun z => [vi z]) (by omega)))).trans Cv.p)), by omega⟩
    · have h2 := of_decide_eq_false h2
      obtain rfl : i = wR r := by omega
      rw [← e1] at k
      refine WP.exit ?_
      refine WP.seq ?_
      refine WP.regionQ (by kernel_rfl) (by kernel_rfl) ?_
      refine RQ.pv rfl (PV.load1 rfl Sc2 rfl (Rd.blk rfl)) ?_
      refine RQ.pv rfl (PV.load1 rfl Sc2 rfl (Rd.blk rfl)) ?_
      refine RQ.pv rfl (PV.mvI (.inr rfl) rfl) ?_
      refine RQ.pv rfl (PV.mvI (.inr rfl) rfl) ?_
      refine RQ.nil ?_
      refine WP.ret ?_
      exact ⟨_, _, ResV.two rfl rfl rfl, Cv.p, k⟩
theorem area_le {r : Rect} (h : validRect r = true) : areaR r ≤ 6400 := (area_bd h).2
theorem covered_s {v : Value} {xs : List Rect} {r : Rect} (h1 : Rs G L rectT v xs) (hl : xs.length ≤ 3200) (k : R (vi (covI xs r)) G L) : CallT Tryz.prog 128 #[v, vrect r] G L R := by
  have hcb : ∀ q, 0 ≤ (if validRect (cmn q r) = true then areaR (cmn q r) else 0) ∧ (if validRect (cmn q r) = true then areaR (cmn q r) else 0) ≤ 6400 := fun q => by
    split
    · rename_i h; exact area_bd h
    · omega
  have hnn : ∀ ys : List Rect, 0 ≤ covI ys r ∧ covI ys r ≤ 6400 * ys.length := fun ys => ⟨costL_nonneg (fun q => (hcb q).1) ys, costL_bd fun q _ => (hcb q).2⟩
  refine CallT.enter (args := _) Tryz.func128 rfl rfl (by kernel_rfl) rfl ?_
  refine WP.seq ?_
  refine WP.region ?_
  refine RG.ot rfl (OT.box (cs := rectT.enc r) rfl rfl rfl fun b3 => ?_)
  refine RG.pv rfl (PV.mvI (.inr rfl) rfl) ?_
  refine RG.nil ?_
  refine WP.seq ?_
  refine WP.region ?_
  refine RG.pv rfl (PV.mvI (.inr rfl) rfl) ?_
  refine RG.nil ?_
  refine WP.seq ?_
  refine WP.seq ?_
  refine WP.region ?_
  refine RG.pv rfl (PV.move (v := v) rfl rfl) ?_
  refine RG.pv rfl (PV.len (v := v) rfl Tryz.underlying66 rfl (SlF.r h1)) ?_
  refine RG.pv rfl (PV.mvI (.inl rfl) rfl) ?_
  refine RG.nil ?_
  refine WP.block ?_
  refine WP.loop2 [3, 9, 10] (fun (i : Nat) (s : Int) => i ≤ xs.length ∧ s = covI (xs.take i) r) (fun (i : Nat) (s : Int) => [(11, vi i), (5, vi s)]) (fun (i : Nat) (s : Int) => blk b3 59 (rectT.enc r) :: L) (fun (i : Nat) (s : Int) => xs.length - i) 0 0 ⟨by omega, by simp [covI, costL]⟩ ⟨rfl, rfl, trivial⟩ Cv.p ?_
  rintro i s τ ⟨hi, hs⟩
  refine WP.seq ?_
  refine WP.region ?_
  refine RG.pv rfl (PV.lss rfl rfl rfl) ?_
  refine RG.nil ?_
  refine WP.seq ?_
  refine WP.cond rfl (fun h2 => ?_) (fun h2 => ?_)
  · have h2 := of_decide_eq_true h2
    have hct := costL_take (fun q => if validRect (cmn q r) = true then areaR (cmn q r) else 0) (xs := xs) (i := i) (by omega)
    have hb := hnn (xs.take i)
    have hlt : (xs.take i).length = i := by simp; omega
    rw [hlt] at hb
    refine WP.skip ?_
    refine WP.seq ?_
    refine WP.block ?_
    refine WP.seq ?_
    refine WP.region ?_
    refine RG.pv rfl (PV.idxS (v := v) rfl Is66 rfl (SlF.r h1) rfl rfl (by omega)) ?_
    refine RG.pv rfl (PV.loadE rfl Ag59 rfl rfl (El.r h1 (getG (by omega)))) ?_
    refine RG.ot rfl (OT.alloc rfl Zr59 fun b7 => ?_)
    refine RG.ot rfl (OT.storeW (vs := [vi _, vi _, vi _, vi _]) rfl Sz59 rfl rfl (Cl.c rfl) rfl rfl (OneC.c rfl) ?_)
    refine RG.nil ?_
    refine WP.seq ?_
    refine WP.region ?_
    refine RG.pv rfl (PV.loadW rfl Ag59 rfl rfl) ?_
    refine RG.pv rfl (PV.loadW rfl Ag59 rfl rfl) ?_
    refine RG.callF (vs := [_, _]) rfl rfl En190 rfl (common_s ?_)
    refine RG.ot rfl (OT.alloc rfl Zr59 fun b8 => ?_)
    refine RG.ot rfl (OT.storeW (vs := [vi _, vi _, vi _, vi _]) rfl Sz59 rfl rfl (Cl.c rfl) rfl rfl (OneC.c rfl) ?_)
    refine RG.nil ?_
    refine WP.seq ?_
    refine WP.region ?_
    refine RG.pv rfl (PV.loadW rfl Ag59 rfl rfl) ?_
    refine RG.callF (vs := [_]) rfl rfl En191 rfl (validRect_s ?_)
    refine RG.nil ?_
    refine WP.cond rfl (fun h3 => ?_) (fun h3 => ?_)
    · have hab := area_bd h3
      rw [if_pos h3] at hct
      refine WP.region ?_
      refine RG.pv rfl (PV.mvI (.inl rfl) rfl) ?_
      refine RG.pv rfl (PV.loadW rfl Ag59 rfl rfl) ?_
      refine RG.callF (vs := [_]) rfl rfl En130 rfl (area_s (by assumption) ?_)
      refine RG.pv rfl (PV.add rfl rfl rfl (by omega)) ?_
      refine RG.pv rfl (PV.mvI (.inr rfl) rfl) ?_
      refine RG.nil ?_
      refine WP.region ?_
      refine RG.pv rfl (PV.add rfl rfl rfl (by omega)) ?_
      refine RG.pv rfl (PV.mvI (.inl rfl) rfl) ?_
      refine RG.nil ?_
      exact ⟨rfl, i + 1, _, ⟨by omega, by rw [hs]; exact hct.symm⟩, ⟨rfl, rfl, trivial⟩, ⟨rfl, rfl, rfl, trivial⟩, Cv.p, by omega⟩
    · rw [if_neg (by simp [h3])] at hct
      refine WP.skip ?_
      refine WP.region ?_
      refine RG.pv rfl (PV.add rfl rfl rfl (by omega)) ?_
      refine RG.pv rfl (PV.mvI (.inl rfl) rfl) ?_
      refine RG.nil ?_
      exact ⟨rfl, i + 1, _, ⟨by omega, by rw [hs]; simp only [covI]; omega⟩, ⟨rfl, rfl, trivial⟩, ⟨rfl, rfl, rfl, trivial⟩, Cv.p, by omega⟩
  · have h2 := of_decide_eq_false h2
    have e : covI xs r = s := by rw [hs, List.take_of_length_le (by omega)]
    rw [e] at k
    refine WP.exit ?_
    refine WP.seq ?_
    refine WP.region ?_
    refine RG.pv rfl (PV.mvI (.inl rfl) rfl) ?_
    refine RG.pv rfl (PV.mvI (.inr rfl) rfl) ?_
    refine RG.nil ?_
    refine WP.ret ?_
    exact ⟨_, _, ResV.one rfl rfl, Cv.p, k⟩
/-! ## the channels of a layout -/
theorem Cv.bagSub {α : Type} {e : TypeId} {F : FT α} {xs ys : List (Sl α)} {L : List Ch} (h : ys.Sublist xs) : Cv (bagS e F xs :: L) (bagS e F ys :: L) := by
  refine Cv.imp fun hp s => ?_
  have key : ∀ {A B : List Ch}, A.Sublist B → ∀ hp, Sep B hp → Sep A hp := fun h => by
    induction h with
    | slnil => exact fun _ h => h
    | cons a _ ih => exact fun hp ⟨h1, h2, d, l1, l2, c, s⟩ => (ih h2 s).up l2
    | cons_cons a _ ih => exact fun hp ⟨h1, h2, d, l1, l2, c, s⟩ => ⟨h1, h2, d, l1, l2, c, ih h2 s⟩
  exact key (h.map (ownS e F)) hp s
theorem conductors_b {v : Value} {xs : List (Sl Rect)} (h1 : Rs G L slT v xs) (hd : RsE G L rectT xs) (hlay : isLay (er xs) = true) (k : ∀ v' ys, er ys = (condB (er xs)).map canon → ys.length = 4 → R v' G (osl 66 slT v' ys :: bagS 59 rectT ys :: L)) : CallT Tryz.prog 125 #[v] G L R := by
  have h8 : xs.length = 8 := by have := isLay_len hlay; rwa [er_len] at this
  have hreg : ∀ i, i < 8 → isReg (gd xs i).xs = true := fun i hi => by rw [← er_gd]; exact isLay_reg hlay hi
  refine conductors_s h1 hd h8 (fun i hi => by have := isReg_len (hreg i hi); omega) fun v' ys he => ?_
  have e : er ys = (condB (er xs)).map canon := by
    rw [he, ← er_gd, ← er_gd, ← er_gd, ← er_gd, ← condR_eq hlay, condR, hlay]; rfl
  exact k v' ys e (by have := congrArg List.length e; rw [er_len] at this; exact this)
theorem cond_dif {l : List (List Rect)} {ys : List (Sl Rect)} (h : er ys = (condB l).map canon) : bits (gd ys 0).xs = difC l := by
  rw [← er_gd, h, gd_map _ (by simp [condB])]
  exact bits_canon (difC_len l)
theorem bits_op {f : Bool → Bool → Bool} {a b : List Rect} (ha : isReg a = true) (hb : isReg b = true) : bits (opR f a b) = zipB f (bits a) (bits b) := by
  rw [opR, ha, hb]; exact bits_canon (zipB_len (bits_length _) (bits_length _))
theorem channelsOf_s {v : Value} {xs : List (Sl Rect)} (h1 : Rs G L slT v xs) (hd : RsE G L rectT xs) (hlay : isLay (er xs) = true) (k : ∀ v u cs zs, cs = chans (er xs) → er zs = malf (er xs) → R (.tuple #[v, u]) G (osl 114 chanT v cs :: osl 66 slT u zs :: bagS 59 rectT zs :: L)) : CallT Tryz.prog 82 #[v] G L R := by
  have h8 : xs.length = 8 := by have := isLay_len hlay; rwa [er_len] at this
  have hreg : ∀ i, i < 8 → isReg (gd xs i).xs = true := fun i hi => by rw [← er_gd]; exact isLay_reg hlay hi
  refine CallT.enter (args := _) Tryz.func82 rfl rfl (by kernel_rfl) rfl ?_
  refine WP.seq ?_
  refine WP.region ?_
  refine RG.pv rfl (PV.asg rfl rfl) ?_
  refine RG.pv rfl (PV.asg rfl rfl) ?_
  refine RG.nil ?_
  refine WP.seq ?_
  refine WP.region ?_
  refine RG.ot rfl (OT.bslice (F := chanT) (els := []) rfl El118 rfl (by decide) rfl (by decide) trivial fun v18 => ?_)
  refine RG.ot rfl (OT.bslice (F := (slT (α := Rect))) (els := []) rfl El27 rfl (by decide) rfl (by decide) trivial fun v19 => ?_)
  refine RG.pv rfl (PV.asg (v := v18) rfl rfl) ?_
  refine RG.pv rfl (PV.asg (v := v19) rfl rfl) ?_
  refine RG.nil ?_
  refine WP.seq ?_
  refine WP.region ?_
  refine RG.pv rfl (PV.move (v := v) rfl rfl) ?_
  refine RG.callF (vs := [v]) rfl rfl En125 rfl (conductors_b (Rs.up h1) hd.up hlay (fun v21 ysv21 hev21 hlv21 => ?_))
  refine RG.pv rfl (PV.idxS (j := 0) (v := v21) rfl Is27 rfl SlF.o rfl (by omega) (by omega)) ?_
  refine RG.pv rfl (PV.loadE1 rfl Sc66 rfl rfl (El.o (getG (by omega))) rfl) ?_
  refine RG.callF (vs := [_]) rfl rfl En124 rfl (cellsOf_s (Rs.inBag (xs := ysv21) 0 (by omega)) (fun b24 => ?_))
  refine RG.pv rfl (PV.asg rfl rfl) ?_
  refine RG.nil ?_
  refine WP.seq ?_
  refine WP.seq ?_
  refine WP.region ?_
  refine RG.pv rfl (PV.move (v := v) rfl rfl) ?_
  refine RG.callF (vs := [v]) rfl rfl En127 rfl (channelRegion_s (Rs.up h1) hd.up h8 (fun v26 => ?_))
  refine RG.callF (vs := [v26]) rfl rfl En126 rfl (components_s Rs.o (fun v27 zsv27 hzv27 => ?_))
  refine RG.pv rfl (PV.len (v := v27) rfl Tryz.underlying27 rfl SlF.o) ?_
  refine RG.pv rfl (PV.mvI (.inl rfl) rfl) ?_
  refine RG.nil ?_
  refine WP.block ?_
  have hpc : er zsv27 = partsC (er xs) := by
    rw [hzv27, bits_op (hreg 0 (by omega)) (hreg 1 (by omega)), partsC, regC, er_gd, er_gd]
  have hzl := parts_len hzv27
  have hpm : ∀ i, i < zsv27.length → 0 < (gd zsv27 i).xs.length ∧ isReg (gd zsv27 i).xs = true := fun i hi => by
    refine partsC_ne (l := er xs) ?_
    rw [← hpc, ← er_gd]; exact gd_mem (by rw [er_len]; exact hi)
  have hzr : ∀ i, i < zsv27.length → Rs G (bagS 59 rectT zsv27 :: L) rectT (gd zsv27 i).v (gd zsv27 i).xs := fun i hi => Rs.inBag (L := bagS 59 rectT zsv27 :: L) (L' := L) (e := 59) i hi
  refine WP.cv ((Cv.p (C := osl 114 chanT v18 ([] : List Chan) :: osl 66 slT v19 ([] : List (Sl Rect)) :: osl 66 slT v27 zsv27 :: bagS 59 rectT zsv27 :: grd b24 (bits (gd ysv21 0).xs) :: L)).trans (Cv.cast (L' := osl 114 chanT v18 ((((er zsv27).take 0).filter (isCh (er xs))).map (mkCh (er xs))) :: osl 66 slT v19 ((zsv27.take 0).filter fun s => !isCh (er xs) s.xs) :: osl 66 slT v27 zsv27 :: bagS 59 rectT zsv27 :: grd b24 (difC (er xs)) :: L) (by rw [cond_dif hev21]; rfl))) ?_
  refine WP.loop3 [0, 6, 27, 28] (fun (i : Nat) (q1 q2 : Value) => i ≤ zsv27.length) (fun (i : Nat) (q1 q2 : Value) => [(29, vi i), (4, q1), (5, q2)]) (fun (i : Nat) (q1 q2 : Value) => osl 114 chanT q1 ((((er zsv27).take i).filter (isCh (er xs))).map (mkCh (er xs))) :: osl 66 slT q2 ((zsv27.take i).filter fun s => !isCh (er xs) s.xs) :: osl 66 slT v27 zsv27 :: bagS 59 rectT zsv27 :: grd b24 (difC (er xs)) :: L) (fun (i : Nat) (q1 q2 : Value) => zsv27.length - i) 0 v18 v19 (by omega) ⟨rfl, rfl, rfl, trivial⟩ Cv.p ?_
  rintro i q1 q2 τ hi
  refine WP.seq ?_
  refine WP.region ?_
  refine RG.pv rfl (PV.lss rfl rfl rfl) ?_
  refine RG.nil ?_
  refine WP.seq ?_
  have hfl1 := List.length_filter_le (isCh (er xs)) ((er zsv27).take i)
  have hfl2 := List.length_filter_le (fun s : Sl Rect => !isCh (er xs) s.xs) (zsv27.take i)
  have hfl3 : ((er zsv27).take i).length ≤ zsv27.length := by rw [List.length_take, er_len]; omega
  have hfl4 : (zsv27.take i).length ≤ zsv27.length := by rw [List.length_take]; omega
  have hfl5 : ((((er zsv27).take i).filter (isCh (er xs))).map (mkCh (er xs))).length ≤ 6400 := by rw [List.length_map]; omega
  have hfl6 : ((zsv27.take i).filter fun s => !isCh (er xs) s.xs).length ≤ 6400 := by omega
  refine WP.cond rfl (fun h2 => ?_) (fun h2 => ?_)
  · have h2 := of_decide_eq_true h2
    have h3 : i < zsv27.length := by omega
    obtain ⟨hg0, hgr⟩ := hpm i h3
    have hbv := valid_first hg0 hgr
    have hcov : covI (gd xs 6).xs (gd (gd zsv27 i).xs 0) = covC (er xs) (gd zsv27 i).xs := by rw [cov_eq (hreg 6 (by omega)) hbv, covC, er_gd]
    have htk : (er zsv27).take (i + 1) = (er zsv27).take i ++ [(gd zsv27 i).xs] := by rw [List.take_add_one, getG (by rw [er_len]; exact h3), er_gd]; rfl
    have htk2 : zsv27.take (i + 1) = zsv27.take i ++ [gd zsv27 i] := by rw [List.take_add_one, getG h3]; rfl
    refine WP.skip ?_
    refine WP.seq ?_
    refine WP.block ?_
    refine WP.seq ?_
    refine WP.region ?_
    refine RG.pv rfl (PV.idxS (v := v27) rfl Is27 rfl SlF.o rfl rfl (by omega)) ?_
    refine RG.pv rfl (PV.loadE1 rfl Sc66 rfl rfl (El.o (getG (by omega))) rfl) ?_
    refine RG.pv rfl (PV.asg rfl rfl) ?_
    refine RG.nil ?_
    refine WP.seq ?_
    refine WP.region ?_
    refine RG.pv rfl (PV.move rfl rfl) ?_
    refine RG.pv rfl (PV.idxS (j := 0) rfl Is66 rfl (SlF.r (hzr i h3)) rfl (by omega) (by omega)) ?_
    refine RG.pv rfl (PV.loadE rfl Ag59 rfl rfl (El.r (hzr i h3) (getG (by omega)))) ?_
    refine RG.ot rfl (OT.alloc rfl Zr59 fun b9 => ?_)
    refine RG.ot rfl (OT.storeW (vs := [vi _, vi _, vi _, vi _]) rfl Sz59 rfl rfl (Cl.c rfl) rfl rfl (OneC.c rfl) ?_)
    refine RG.nil ?_
    refine WP.seq ?_
    refine WP.regionQ (by kernel_rfl) (by kernel_rfl) ?_
    refine RQ.pv rfl (PV.move (v := v) rfl rfl) ?_
    refine RQ.pv rfl (PV.idxS (j := 6) (v := v) rfl Is27 rfl (SlF.r h1) rfl (by omega) (by omega)) ?_
    refine RQ.pv rfl (PV.loadE1 rfl Sc66 rfl rfl (El.r h1 (getG (by omega))) rfl) ?_
    refine RQ.pv rfl (PV.loadW rfl Ag59 rfl rfl) ?_
    refine RQ.callF (vs := [_, _]) rfl rfl En128 rfl (covered_s (Rs.up (hd 6 (by omega))) (isReg_len (hreg 6 (by omega))) ⟨rfl, rfl, rfl⟩) ?_
    refine RQ.pv rfl (PV.mvI (.inr rfl) rfl) ?_
    refine RQ.nil ?_
    refine WP.seq ?_
    refine WP.region ?_
    refine RG.pv rfl (PV.move rfl rfl) ?_
    refine RG.pv rfl (PV.loadW rfl Ag59 rfl rfl) ?_
    refine RG.callF (vs := [_, _, _]) rfl rfl En129 rfl (CallT.exB (b := b24) (outer_s (D := difC (er xs)) (difC_len _) hbv ?_))
    refine RG.pv rfl (PV.move (v := .tuple _) rfl rfl) ?_
    refine RG.pv rfl (PV.ext rfl rfl rfl) ?_
    refine RG.pv rfl (PV.ext rfl rfl rfl) ?_
    refine RG.pv rfl (PV.mvI (.inr rfl) rfl) ?_
    refine RG.pv rfl (PV.mvI (.inr rfl) rfl) ?_
    refine RG.nil ?_
    refine WP.seq ?_
    refine WP.region ?_
    refine RG.pv rfl (PV.move rfl rfl) ?_
    refine RG.pv rfl (PV.loadW rfl Ag59 rfl rfl) ?_
    refine RG.callF (vs := [_, _, _]) rfl rfl En129 rfl (CallT.exB (b := b24) (outer_s (D := difC (er xs)) (difC_len _) hbv ?_))
    refine RG.pv rfl (PV.move (v := .tuple _) rfl rfl) ?_
    refine RG.pv rfl (PV.ext rfl rfl rfl) ?_
    refine RG.pv rfl (PV.ext rfl rfl rfl) ?_
    refine RG.pv rfl (PV.mvI (.inr rfl) rfl) ?_
    refine RG.pv rfl (PV.mvI (.inr rfl) rfl) ?_
    refine RG.nil ?_
    refine WP.seq ?_
    refine WP.region ?_
    refine RG.pv rfl (PV.mvI (.inl rfl) rfl) ?_
    refine RG.pv rfl (PV.mvI (.inl rfl) rfl) ?_
    refine RG.pv rfl (PV.eql rfl rfl rfl) ?_
    refine RG.pv rfl (PV.mvB (.inl rfl) rfl) ?_
    refine RG.gs rfl rfl rfl (fun hp => (PV.mvI (.inl rfl) rfl)) ?_
    refine RG.gs rfl rfl rfl (fun hp => (PV.eql rfl (gs_t hp) rfl)) ?_
    refine RG.pv rfl (PV.pickA rfl rfl (fun hq => gs_t (geqT hq)) rfl) ?_
    refine RG.pv rfl (PV.mvB (.inr rfl) rfl) ?_
    refine RG.nil ?_
    refine WP.seq ?_
    refine WP.region ?_
    refine RG.pv rfl (PV.mvI (.inl rfl) rfl) ?_
    refine RG.pv rfl (PV.mvI (.inl rfl) rfl) ?_
    refine RG.pv rfl (PV.eql rfl rfl rfl) ?_
    refine RG.pv rfl (PV.mvB (.inl rfl) rfl) ?_
    refine RG.gs rfl rfl rfl (fun hp => (PV.mvI (.inl rfl) rfl)) ?_
    refine RG.gs rfl rfl rfl (fun hp => (PV.eql rfl (gs_t hp) rfl)) ?_
    refine RG.pv rfl (PV.pickA rfl rfl (fun hq => gs_t (geqT hq)) rfl) ?_
    refine RG.pv rfl (PV.mvB (.inr rfl) rfl) ?_
    refine RG.nil ?_
    refine WP.seq ?_
    refine WP.seq ?_
    refine WP.region ?_
    refine RG.pv rfl (PV.move rfl rfl) ?_
    refine RG.pv rfl (PV.len rfl Tryz.underlying66 rfl (SlF.r (hzr i h3))) ?_
    refine RG.pv rfl (PV.gtr rfl rfl rfl) ?_
    refine RG.pv rfl (PV.mvB (.inl rfl) rfl) ?_
    refine RG.gs rfl rfl rfl (fun hp => (PV.mvB (.inl rfl) rfl)) ?_
    refine RG.gs rfl rfl rfl (fun hp => (PV.not rfl (gs_t hp))) ?_
    refine RG.gs rfl rfl rfl (fun hp => (PV.mvB (.inl rfl) (gs_t hp))) ?_
    refine RG.gs2 rfl rfl rfl (fun hp => (PV.mvB (.inl rfl) rfl)) ?_
    refine RG.gs2 rfl rfl rfl (fun hp => (PV.not rfl (gs_t hp))) ?_
    refine RG.gs rfl rfl rfl (fun hp => (PV.pickA rfl (gs_t hp) (fun hq => gs_t (gandT hp hq)) rfl)) ?_
    refine RG.pv rfl (PV.pickO rfl rfl rfl (fun hq => gs_t (geqF hq))) ?_
    refine RG.pv rfl (PV.mvB (.inl rfl) rfl) ?_
    refine RG.gs rfl rfl rfl (fun hp => (PV.mvI (.inl rfl) rfl)) ?_
    refine RG.gs rfl rfl rfl (fun hp => (PV.neq rfl (gs_t hp) rfl)) ?_
    refine RG.gs rfl rfl rfl (fun hp => (PV.mvB (.inl rfl) (gs_t hp))) ?_
    refine RG.gs2 rfl rfl rfl (fun hp => (PV.mvI (.inl rfl) rfl)) ?_
    refine RG.gs2 rfl rfl rfl (fun hp => (PV.loadW rfl Ag59 rfl rfl)) ?_
    refine RG.gsC2 rfl rfl rfl rfl En130 (fun hp => ⟨_, (acons (gs_t hp) anil), area_s hbv ⟨rfl, rfl, rfl⟩⟩) ?_
    refine RG.gs2 rfl rfl rfl (fun hp => (PV.neq rfl (gs_t hp) (gs_t hp))) ?_
    refine RG.gs rfl rfl rfl (fun hp => (PV.pickA rfl (gs_t hp) (fun hq => gs_t (gandT hp hq)) rfl)) ?_
    refine RG.pv rfl (PV.pickO rfl rfl rfl (fun hq => gs_t (geqF hq))) ?_
    refine RG.nil ?_
    rw [hcov]
    refine WP.cond rfl (fun h9 => ?_) (fun h9 => ?_)
    · have hic : isCh (er xs) (gd zsv27 i).xs = false := by
        have := (chan_cond (l := er xs) hg0 hgr).symm.trans h9
        simpa using this
      refine WP.seq ?_
      refine WP.region ?_
      refine RG.pv rfl (PV.move (v := q2) rfl rfl) ?_
      refine RG.pv rfl (PV.move rfl rfl) ?_
      refine RG.ot rfl (OT.bslice (F := (slT (α := Rect))) (els := [gd zsv27 i]) rfl El27 rfl (by decide) rfl (by decide) ⟨rfl, (Cl.s (SlF.r (hzr i h3))), trivial⟩ fun v90 => ?_)
      refine RG.ot rfl (OT.append (v := q2) (u := v90) (F := (slT (α := Rect))) rfl El27 rfl (by decide) rfl rfl Rs.o (OneL.one (OneC.sl (SlF.r (hzr i h3)) OneC.nil)) rfl (by first | omega | (simp <;> omega)) fun v91 => ?_)
      refine RG.pv rfl (PV.asg (v := v91) rfl rfl) ?_
      refine RG.nil ?_
      refine WP.exit ?_
      refine WP.region ?_
      refine RG.pv rfl (PV.add rfl rfl rfl (by omega)) ?_
      refine RG.pv rfl (PV.mvI (.inl rfl) rfl) ?_
      refine RG.nil ?_
      exact ⟨rfl, i + 1, q1, v91, (by omega), ⟨rfl, rfl, rfl, trivial⟩, ⟨rfl, rfl, rfl, rfl, trivial⟩, ((Cv.p (C := osl 66 slT v91 (((zsv27.take i).filter fun s => !isCh (er xs) s.xs) ++ [gd zsv27 i]) :: osl 114 chanT q1 ((((er zsv27).take i).filter (isCh (er xs))).map (mkCh (er xs))) :: osl 66 slT v27 zsv27 :: bagS 59 rectT zsv27 :: grd b24 (difC (er xs)) :: L)).trans ((Cv.cast (by rw [htk, htk2, List.filter_append, List.filter_append]; simp [hic])).trans (Cv.swap (A := [osl 66 slT v91 ((zsv27.take (i + 1)).filter fun s => !isCh (er xs) s.xs)]) (B := [osl 114 chanT q1 ((((er zsv27).take (i + 1)).filter (isCh (er xs))).map (mkCh (er xs)))])))), by omega⟩
    · have hic : isCh (er xs) (gd zsv27 i).xs = true := by
        have := (chan_cond (l := er xs) hg0 hgr).symm.trans h9
        simpa using this
      obtain ⟨c1, c2, c3, c4⟩ := chan_kind hg0 hgr hic
      refine WP.skip ?_
      refine WP.seq ?_
      refine WP.region ?_
      refine RG.pv rfl (PV.loadW rfl Ag59 rfl rfl) ?_
      refine RG.pv rfl (PV.mvB (.inl rfl) rfl) ?_
      refine RG.pv rfl (PV.build (vs := [(0, [vi _, vi _, vi _, vi _]), (1, [vi _]), (2, [.bool _])]) (out := [_, _, _, _, _, _]) rfl Zr114 Pl114 ⟨rfl, (Cl.c rfl), ⟨rfl, (Cl.c rfl), ⟨rfl, (Cl.c rfl), trivial⟩⟩⟩ rfl) ?_
      refine RG.ot rfl (OT.alloc rfl Zr114 fun b17 => ?_)
      refine RG.ot rfl (OT.storeW (vs := [vi _, vi _, vi _, vi _, vi _, .bool _]) rfl Sz114 rfl rfl (Cl.c rfl) rfl rfl (OneC.c rfl) ?_)
      refine RG.nil ?_
      refine WP.cut1 [0, 4, 5, 6, 17, 27, 28, 29] (fun (kd : Int) => kd = chK (er xs) (gd zsv27 i).xs) (fun (kd : Int) => []) (fun (kd : Int) => blk b17 114 (chanT.enc ⟨gd (gd zsv27 i).xs 0, kd, horC (er xs) (gd zsv27 i).xs⟩) :: osl 114 chanT q1 ((((er zsv27).take i).filter (isCh (er xs))).map (mkCh (er xs))) :: osl 66 slT q2 ((zsv27.take i).filter fun s => !isCh (er xs) s.xs) :: osl 66 slT v27 zsv27 :: bagS 59 rectT zsv27 :: grd b24 (difC (er xs)) :: L) ?_ ?_
      refine WP.seq ?_
      refine WP.region ?_
      refine RG.pv rfl (PV.mvI (.inl rfl) rfl) ?_
      refine RG.pv rfl (PV.gtr rfl rfl rfl) ?_
      refine RG.nil ?_
      · refine WP.cond rfl (fun h10 => ?_) (fun h10 => ?_)
        · have h10 := of_decide_eq_true h10
          refine WP.region ?_
          refine RG.pv rfl (PV.field rfl Fo114_1 rfl) ?_
          refine RG.ot rfl (OT.storeB (vs := [vi _]) (cs' := [_, _, _, _, _, _]) rfl Sz2 rfl rfl (Cl.c rfl) rfl (OneC.c rfl) rfl rfl ?_)
          refine RG.nil ?_
          exact ⟨rfl, 1, (by rw [← c3, if_pos h10]), trivial, ⟨rfl, rfl, rfl, rfl, rfl, rfl, rfl, rfl, trivial⟩, ((Cv.blkEq (cs' := chanT.enc ⟨gd (gd zsv27 i).xs 0, 1, horC (er xs) (gd zsv27 i).xs⟩) rfl).trans Cv.p)⟩
        · have h10 := of_decide_eq_false h10
          refine WP.skip ?_
          exact ⟨rfl, 0, (by rw [← c3, if_neg (by omega)]), trivial, ⟨rfl, rfl, rfl, rfl, rfl, rfl, rfl, rfl, trivial⟩, ((Cv.blkEq (cs' := chanT.enc ⟨gd (gd zsv27 i).xs 0, 0, horC (er xs) (gd zsv27 i).xs⟩) rfl).trans Cv.p)⟩
      rintro kd τ1 hkd
      refine WP.region ?_
      refine RG.pv rfl (PV.move (v := q1) rfl rfl) ?_
      refine RG.pv rfl (PV.loadW rfl Ag114 rfl rfl) ?_
      refine RG.ot rfl (OT.bslice (F := chanT) (els := [⟨_, _, _⟩]) rfl El118 rfl (by decide) rfl (by decide) ⟨rfl, (Cl.c rfl), trivial⟩ fun v100 => ?_)
      refine RG.ot rfl (OT.append (v := q1) (u := v100) (F := chanT) rfl El118 rfl (by decide) rfl rfl Rs.o (OneL.c (fun _ => rfl)) rfl (by first | omega | (simp <;> omega)) fun v101 => ?_)
      refine RG.pv rfl (PV.asg (v := v101) rfl rfl) ?_
      refine RG.nil ?_
      refine WP.region ?_
      refine RG.pv rfl (PV.add rfl rfl rfl (by omega)) ?_
      refine RG.pv rfl (PV.mvI (.inl rfl) rfl) ?_
      refine RG.nil ?_
      have hmk : (⟨gd (gd zsv27 i).xs 0, kd, horC (er xs) (gd zsv27 i).xs⟩ : Chan) = mkCh (er xs) (gd zsv27 i).xs := by rw [mkCh, hkd, c2]
      exact ⟨rfl, i + 1, v101, q2, (by omega), ⟨rfl, rfl, rfl, trivial⟩, ⟨rfl, rfl, rfl, rfl, trivial⟩, ((Cv.p (C := osl 114 chanT v101 ((((er zsv27).take i).filter (isCh (er xs))).map (mkCh (er xs)) ++ [⟨gd (gd zsv27 i).xs 0, kd, horC (er xs) (gd zsv27 i).xs⟩]) :: osl 66 slT q2 ((zsv27.take i).filter fun s => !isCh (er xs) s.xs) :: osl 66 slT v27 zsv27 :: bagS 59 rectT zsv27 :: grd b24 (difC (er xs)) :: L)).trans (Cv.cast (by rw [htk, htk2, List.filter_append, List.filter_append, hmk]; simp [hic]))), by omega⟩
  · have h2 := of_decide_eq_false h2
    obtain rfl : i = zsv27.length := by omega
    have e1 : (((er zsv27).take zsv27.length).filter (isCh (er xs))).map (mkCh (er xs)) = chans (er xs) := by rw [List.take_of_length_le (by rw [er_len]; exact Nat.le_refl _), hpc]; rfl
    have e2 : er ((zsv27.take zsv27.length).filter fun s => !isCh (er xs) s.xs) = malf (er xs) := by
      rw [List.take_of_length_le (Nat.le_refl _), malf, ← hpc]
      simp only [er, List.filter_map]; rfl
    refine WP.exit ?_
    refine WP.seq ?_
    refine WP.region ?_
    refine RG.pv rfl (PV.move (v := q1) rfl rfl) ?_
    refine RG.pv rfl (PV.move (v := q2) rfl rfl) ?_
    refine RG.pv rfl (PV.asg (v := q1) rfl rfl) ?_
    refine RG.pv rfl (PV.asg (v := q2) rfl rfl) ?_
    refine RG.nil ?_
    refine WP.ret ?_
    exact ⟨_, _, ResV.two rfl rfl rfl, ((Cv.p (C := bagS 59 rectT zsv27 :: osl 114 chanT q1 ((((er zsv27).take zsv27.length).filter (isCh (er xs))).map (mkCh (er xs))) :: osl 66 slT q2 ((zsv27.take zsv27.length).filter fun s => !isCh (er xs) s.xs) :: L)).trans ((Cv.bagSub (ys := (zsv27.take zsv27.length).filter fun s => !isCh (er xs) s.xs) (by rw [List.take_of_length_le (Nat.le_refl _)]; exact List.filter_sublist)).trans Cv.p)), k q1 q2 _ _ e1 e2⟩
end Go.Proofs.YthjaopefoiploaaGreat
