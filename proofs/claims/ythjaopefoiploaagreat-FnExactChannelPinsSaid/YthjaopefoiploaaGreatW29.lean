/-
  Contracts: kinds, sizes and numbers of channels; the laws of them.
-/
import Derived.Test.YthjaopefoiploaaGreatW28
import Derived.Test.YthjaopefoiploaaGreatW13
namespace Go.Proofs.YthjaopefoiploaaGreat
open Go
set_option maxRecDepth 20000
set_option linter.unusedSimpArgs false
variable {G : Gh} {L : List Ch} {R : Value → Gh → List Ch → Prop}
theorem kind_i {v : Value} {xs : List (Sl Rect)} {box : Rect} (h1 : Rs G L slT v xs) (hd : RsE G L rectT xs) (k : R (vi (kindE (er xs) box)) G L) : CallT Tryz.prog 41 #[v, vrect box] G L R := by
  refine CallT.enter (args := _) Tryz.func41 rfl rfl (by kernel_rfl) rfl ?_
  refine WP.seq ?_
  refine WP.region ?_
  refine RG.ot rfl (OT.box (cs := rectT.enc box) rfl rfl rfl fun b3 => ?_)
  refine RG.pv rfl (PV.mvI (.inr rfl) rfl) ?_
  refine RG.nil ?_
  refine WP.seq ?_
  refine WP.region ?_
  refine RG.pv rfl (PV.move (v := v) rfl rfl) ?_
  refine RG.pv rfl (PV.loadW rfl Ag59 rfl rfl) ?_
  refine RG.callF (vs := [v, _]) rfl rfl En79 rfl (channelWith_s (Rs.up h1) hd.up (fun c hc => ?_))
  refine RG.pv rfl (PV.move (v := .tuple _) rfl rfl) ?_
  refine RG.pv rfl (PV.ext rfl rfl rfl) ?_
  refine RG.pv rfl (PV.ext rfl rfl rfl) ?_
  refine RG.ot rfl (OT.alloc rfl Zr114 fun b5 => ?_)
  refine RG.ot rfl (OT.storeW (vs := [vi _, vi _, vi _, vi _, vi _, .bool _]) rfl Sz114 rfl rfl (Cl.c rfl) rfl rfl (OneC.c rfl) ?_)
  refine RG.pv rfl (PV.mvB (.inr rfl) rfl) ?_
  refine RG.nil ?_
  refine WP.seq ?_
  refine WP.seq ?_
  refine WP.region ?_
  refine RG.pv rfl (PV.mvB (.inl rfl) rfl) ?_
  refine RG.pv rfl (PV.not rfl rfl) ?_
  refine RG.nil ?_
  refine WP.cond rfl (fun h2 => ?_) (fun h2 => ?_)
  · have h3 : chanE (er xs) box = none := by simpa using h2
    rw [kindE_eq, h3] at k
    refine WP.seq ?_
    refine WP.region ?_
    refine RG.pv rfl (PV.mvI (.inr rfl) rfl) ?_
    refine RG.nil ?_
    refine WP.ret ?_
    exact ⟨_, _, ResV.one rfl rfl, Cv.p, k⟩
  · have h3 : (chanE (er xs) box).isSome = true := by simpa using h2
    have h4 : chanE (er xs) box = some c := hc.resolve_right fun h => by rw [h] at h3; cases h3
    rw [kindE_eq, h4] at k
    refine WP.skip ?_
    refine WP.seq ?_
    refine WP.region ?_
    refine RG.pv rfl (PV.field rfl Fo114_1 rfl) ?_
    refine RG.pv rfl (PV.load1 rfl Sc2 rfl (Rd.blk rfl)) ?_
    refine RG.pv rfl (PV.mvI (.inr rfl) rfl) ?_
    refine RG.nil ?_
    refine WP.ret ?_
    exact ⟨_, _, ResV.one rfl rfl, Cv.p, k⟩
theorem chanSize_s {c : Chan} (hv : validRect c.box = true) (k : R (.tuple #[vi (sizeC c).1, vi (sizeC c).2]) G L) : CallT Tryz.prog 83 #[vT chanT c] G L R := by
  have h := validR_iff.1 hv
  refine CallT.enter (args := _) Tryz.func83 rfl rfl (by kernel_rfl) rfl ?_
  refine WP.seq ?_
  refine WP.region ?_
  refine RG.ot rfl (OT.box (cs := chanT.enc c) rfl rfl rfl fun b1 => ?_)
  refine RG.pv rfl (PV.mvI (.inr rfl) rfl) ?_
  refine RG.pv rfl (PV.mvI (.inr rfl) rfl) ?_
  refine RG.nil ?_
  refine WP.seq ?_
  refine WP.regionQ (by kernel_rfl) (by kernel_rfl) ?_
  refine RQ.pv rfl (PV.field rfl Fo114_0 rfl) ?_
  refine RQ.pv rfl (PV.field rfl Fo59_2 rfl) ?_
  refine RQ.pv rfl (PV.load1 rfl Sc2 rfl (Rd.blk rfl)) ?_
  refine RQ.pv rfl (PV.field rfl Fo114_0 rfl) ?_
  refine RQ.pv rfl (PV.field rfl Fo59_0 rfl) ?_
  refine RQ.pv rfl (PV.load1 rfl Sc2 rfl (Rd.blk rfl)) ?_
  refine RQ.pv rfl (PV.sub rfl rfl rfl (by omega)) ?_
  refine RQ.pv rfl (PV.field rfl Fo114_0 rfl) ?_
  refine RQ.pv rfl (PV.field rfl Fo59_3 rfl) ?_
  refine RQ.pv rfl (PV.load1 rfl Sc2 rfl (Rd.blk rfl)) ?_
  refine RQ.pv rfl (PV.field rfl Fo114_0 rfl) ?_
  refine RQ.pv rfl (PV.field rfl Fo59_1 rfl) ?_
  refine RQ.pv rfl (PV.load1 rfl Sc2 rfl (Rd.blk rfl)) ?_
  refine RQ.pv rfl (PV.sub rfl rfl rfl (by omega)) ?_
  refine RQ.pv rfl (PV.mvI (.inr rfl) rfl) ?_
  refine RQ.pv rfl (PV.mvI (.inr rfl) rfl) ?_
  refine RQ.nil ?_
  refine WP.seq ?_
  refine WP.seq ?_
  refine WP.region ?_
  refine RG.pv rfl (PV.field rfl Fo114_2 rfl) ?_
  refine RG.pv rfl (PV.load1 rfl Sc4 rfl (Rd.blk rfl)) ?_
  refine RG.nil ?_
  refine WP.cond rfl (fun h2 => ?_) (fun h2 => ?_)
  · rw [sizeC, h2] at k
    refine WP.seq ?_
    refine WP.region ?_
    refine RG.pv rfl (PV.mvI (.inl rfl) rfl) ?_
    refine RG.pv rfl (PV.mvI (.inl rfl) rfl) ?_
    refine RG.pv rfl (PV.mvI (.inr rfl) rfl) ?_
    refine RG.pv rfl (PV.mvI (.inr rfl) rfl) ?_
    refine RG.nil ?_
    refine WP.ret ?_
    exact ⟨_, _, ResV.two rfl rfl rfl, Cv.p, k⟩
  · rw [sizeC, h2] at k
    refine WP.skip ?_
    refine WP.seq ?_
    refine WP.region ?_
    refine RG.pv rfl (PV.mvI (.inl rfl) rfl) ?_
    refine RG.pv rfl (PV.mvI (.inl rfl) rfl) ?_
    refine RG.pv rfl (PV.mvI (.inr rfl) rfl) ?_
    refine RG.pv rfl (PV.mvI (.inr rfl) rfl) ?_
    refine RG.nil ?_
    refine WP.ret ?_
    exact ⟨_, _, ResV.two rfl rfl rfl, Cv.p, k⟩
theorem chanE_valid {l : List (List Rect)} {box : Rect} {c : Chan} (h : chanE l box = some c) : validRect c.box = true ∧ 0 ≤ c.kind ∧ c.box = box ∧ c ∈ chans l := by
  unfold chanE at h
  cases hl : isLay l
  · rw [hl] at h; cases h
  · rw [hl] at h
    obtain ⟨i, hi, e, hp⟩ := find_some_gd (xs := chans l) h
    have hm : c ∈ chans l := by rw [e]; exact gd_mem hi
    have hc := chan_valid hm
    exact ⟨hc.1, hc.2, of_decide_eq_true hp, hm⟩
theorem size_i {v : Value} {xs : List (Sl Rect)} {box : Rect} (h1 : Rs G L slT v xs) (hd : RsE G L rectT xs) (k : R (.tuple #[vi (sizeE (er xs) box).1, vi (sizeE (er xs) box).2]) G L) : CallT Tryz.prog 39 #[v, vrect box] G L R := by
  refine CallT.enter (args := _) Tryz.func39 rfl rfl (by kernel_rfl) rfl ?_
  refine WP.seq ?_
  refine WP.region ?_
  refine RG.ot rfl (OT.box (cs := rectT.enc box) rfl rfl rfl fun b3 => ?_)
  refine RG.pv rfl (PV.mvI (.inr rfl) rfl) ?_
  refine RG.pv rfl (PV.mvI (.inr rfl) rfl) ?_
  refine RG.nil ?_
  refine WP.seq ?_
  refine WP.region ?_
  refine RG.pv rfl (PV.move (v := v) rfl rfl) ?_
  refine RG.pv rfl (PV.loadW rfl Ag59 rfl rfl) ?_
  refine RG.callF (vs := [v, _]) rfl rfl En79 rfl (channelWith_s (Rs.up h1) hd.up (fun c hc => ?_))
  refine RG.pv rfl (PV.move (v := .tuple _) rfl rfl) ?_
  refine RG.pv rfl (PV.ext rfl rfl rfl) ?_
  refine RG.pv rfl (PV.ext rfl rfl rfl) ?_
  refine RG.ot rfl (OT.alloc rfl Zr114 fun b6 => ?_)
  refine RG.ot rfl (OT.storeW (vs := [vi _, vi _, vi _, vi _, vi _, .bool _]) rfl Sz114 rfl rfl (Cl.c rfl) rfl rfl (OneC.c rfl) ?_)
  refine RG.pv rfl (PV.mvB (.inr rfl) rfl) ?_
  refine RG.nil ?_
  refine WP.seq ?_
  refine WP.seq ?_
  refine WP.region ?_
  refine RG.pv rfl (PV.mvB (.inl rfl) rfl) ?_
  refine RG.pv rfl (PV.not rfl rfl) ?_
  refine RG.nil ?_
  refine WP.cond rfl (fun h2 => ?_) (fun h2 => ?_)
  · have h3 : chanE (er xs) box = none := by simpa using h2
    rw [sizeE_eq, h3] at k
    refine WP.seq ?_
    refine WP.region ?_
    refine RG.pv rfl (PV.mvI (.inr rfl) rfl) ?_
    refine RG.pv rfl (PV.mvI (.inr rfl) rfl) ?_
    refine RG.nil ?_
    refine WP.ret ?_
    exact ⟨_, _, ResV.two rfl rfl rfl, Cv.p, k⟩
  · have h3 : (chanE (er xs) box).isSome = true := by simpa using h2
    have h4 : chanE (er xs) box = some c := hc.resolve_right fun h => by rw [h] at h3; cases h3
    rw [sizeE_eq, h4] at k
    refine WP.skip ?_
    refine WP.seq ?_
    refine WP.region ?_
    refine RG.pv rfl (PV.loadW rfl Ag114 rfl rfl) ?_
    refine RG.callF (vs := [_]) rfl rfl En83 rfl (chanSize_s (chanE_valid h4).1 ?_)
    refine RG.pv rfl (PV.move (v := .tuple _) rfl rfl) ?_
    refine RG.pv rfl (PV.ext rfl rfl rfl) ?_
    refine RG.pv rfl (PV.ext rfl rfl rfl) ?_
    refine RG.pv rfl (PV.mvI (.inr rfl) rfl) ?_
    refine RG.pv rfl (PV.mvI (.inr rfl) rfl) ?_
    refine RG.nil ?_
    refine WP.seq ?_
    refine WP.region ?_
    refine RG.pv rfl (PV.mvI (.inl rfl) rfl) ?_
    refine RG.pv rfl (PV.mvI (.inl rfl) rfl) ?_
    refine RG.pv rfl (PV.mvI (.inr rfl) rfl) ?_
    refine RG.pv rfl (PV.mvI (.inr rfl) rfl) ?_
    refine RG.nil ?_
    refine WP.ret ?_
    exact ⟨_, _, ResV.two rfl rfl rfl, Cv.p, k⟩
/-! ## numbers of channels -/
def cntP {α : Type} (p : α → Bool) (xs : List α) : Int := ((xs.filter p).length : Int)
theorem cntP_bd {α : Type} (p : α → Bool) (xs : List α) : 0 ≤ cntP p xs ∧ cntP p xs ≤ xs.length := by
  have := List.length_filter_le p xs
  simp only [cntP]; omega
theorem cntP_take {α : Type} [Inhabited α] (p : α → Bool) {xs : List α} {i : Nat} (h : i < xs.length) : cntP p (xs.take (i + 1)) = cntP p (xs.take i) + one (p (gd xs i)) := by
  rw [List.take_add_one, getG h, cntP, cntP, List.filter_append, List.length_append]
  cases hp : p (gd xs i) <;> simp [hp, one]
noncomputable def devN (l : List (List Rect)) (n : Int) : Int := bif isLay l && (decide (n = 0) || decide (n = 1)) then cntP (fun c : Chan => decide (c.kind = n)) (chans l) else -1
theorem cnt_chans (l : List (List Rect)) {n : Int} (hn : 0 ≤ n) : cntP (fun c : Chan => decide (c.kind = n)) (chans l) = cntP (fun g => decide (chK l g = n)) (partsC l) := by
  simp only [cntP, chans, List.filter_map, List.length_map, List.filter_filter]
  congr 2
  apply List.filter_congr
  intro g _
  show (decide (chK l g = n) && isCh l g) = decide (chK l g = n)
  by_cases c : chK l g = n
  · rw [decide_eq_true c, isCh, decide_eq_true (by omega)]; rfl
  · rw [decide_eq_false c]; rfl
theorem devN_false {l : List (List Rect)} {n : Int} (h : (!isLay l || (!decide (n = 0) && !decide (n = 1))) = true) : devN l n = -1 := by
  unfold devN; revert h
  cases isLay l <;> cases decide (n = 0) <;> cases decide (n = 1) <;> simp
theorem devN_true {l : List (List Rect)} {n : Int} (h : (!isLay l || (!decide (n = 0) && !decide (n = 1))) = false) : isLay l = true ∧ 0 ≤ n ∧ devN l n = cntP (fun c : Chan => decide (c.kind = n)) (chans l) := by
  have h2 : isLay l = true ∧ (n = 0 ∨ n = 1) := by
    revert h; cases isLay l <;> simp; omega
  refine ⟨h2.1, by omega, ?_⟩
  unfold devN
  rw [h2.1]
  rcases h2.2 with e | e <;> simp [e]
/-! ## the laws -/
end Go.Proofs.YthjaopefoiploaaGreat
