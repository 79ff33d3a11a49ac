/-
  Contracts: the net at a place.
-/
import Derived.Test.YthjaopefoiploaaW24
import Derived.Test.YthjaopefoiploaaNets2
namespace Go.Proofs.Ythjaopefoiploaa
open Go
set_option maxRecDepth 20000
set_option linter.unusedSimpArgs false
variable {G : Gh} {L : List Ch} {R : Value → Gh → List Ch → Prop}
/-! ## nets, or a code -/
noncomputable def netE (l : List (List Rect)) : Int := bif isLay l then (if 24 < netN l then 3 else 0) else 1
noncomputable def netR (l : List (List Rect)) : List (List (Int × List Rect)) := if netE l = 0 then netL l else []
theorem netE_ok {l : List (List Rect)} (h : netE l = 0) : isLay l = true ∧ netN l ≤ 24 := by
  unfold netE at h
  cases hl : isLay l
  · rw [hl] at h; cases h
  · rw [hl] at h
    refine ⟨rfl, ?_⟩
    by_cases c : 24 < netN l
    · simp [c] at h
    · omega
theorem nets_i {v : Value} {xs : List (Sl Rect)} (h1 : Rs G L slT v xs) (hd : RsE G L rectT xs) (k : ∀ v' zs, (er (nps zs)).map erPs = netR (er xs) → R (.tuple #[v', vi (netE (er xs))]) G (osl 92 netT v' zs :: bagS 90 pieceT (nps zs) :: bagS 59 rectT (regs (er (nps zs)).flatten) :: L)) : CallT Try.prog 23 #[v] G L R := by
  refine CallT.enter (args := _) Try.func23 rfl rfl (by kernel_rfl) rfl ?_
  refine WP.seq ?_
  refine WP.region ?_
  refine RG.pv rfl (PV.asg rfl rfl) ?_
  refine RG.pv rfl (PV.mvI (.inr rfl) rfl) ?_
  refine RG.nil ?_
  refine WP.seq ?_
  refine WP.seq ?_
  refine WP.region ?_
  refine RG.pv rfl (PV.move (v := v) rfl rfl) ?_
  refine RG.callF (vs := [v]) rfl rfl En35 rfl (isLayout_s (Rs.up h1) hd.up ?_)
  refine RG.pv rfl (PV.not rfl rfl) ?_
  refine RG.nil ?_
  refine WP.cond rfl (fun h2 => ?_) (fun h2 => ?_)
  · have h3 : isLay (er xs) = false := by simpa using h2
    have e : netE (er xs) = 1 := by rw [netE, h3]; rfl
    have e2 : netR (er xs) = [] := by rw [netR, e]; rfl
    rw [e, e2] at k
    refine WP.seq ?_
    refine WP.region ?_
    refine RG.pv rfl (PV.asg rfl rfl) ?_
    refine RG.pv rfl (PV.mvI (.inr rfl) rfl) ?_
    refine RG.nil ?_
    refine WP.ret ?_
    exact ⟨_, _, ResV.two rfl rfl rfl, (Cv.nilS.trans (Cv.cons ((Cv.bag0 (e := 59) (F := rectT) (xs := regs []) rfl).trans (Cv.bag0 (e := 90) (F := pieceT) (xs := nps []) rfl)))), k _ [] rfl⟩
  · have h3 : isLay (er xs) = true := by simpa using h2
    refine WP.skip ?_
    refine WP.seq ?_
    refine WP.region ?_
    refine RG.pv rfl (PV.move (v := v) rfl rfl) ?_
    refine RG.callF (vs := [v]) rfl rfl En46 rfl (netsOf_s (Rs.up h1) hd.up h3 (fun v9 zsv9 hev9 => ?_))
    refine RG.pv rfl (PV.asg (v := v9) rfl rfl) ?_
    refine RG.nil ?_
    refine WP.seq ?_
    refine WP.seq ?_
    refine WP.region ?_
    refine RG.pv rfl (PV.move (v := v9) rfl rfl) ?_
    refine RG.pv rfl (PV.len (v := v9) rfl Try.underlying44 rfl SlF.o) ?_
    refine RG.pv rfl (PV.gtr rfl rfl rfl) ?_
    refine RG.nil ?_
    have hzl : zsv9.length = netN (er xs) := by
      have := congrArg List.length hev9
      rwa [List.length_map, er_len, nps_len, netL_len] at this
    refine WP.cond rfl (fun h4 => ?_) (fun h4 => ?_)
    · have h4 := of_decide_eq_true h4
      have e : netE (er xs) = 3 := by rw [netE, h3, cond_true, if_pos (by omega)]
      have e2 : netR (er xs) = [] := by rw [netR, e]; rfl
      rw [e, e2] at k
      refine WP.seq ?_
      refine WP.region ?_
      refine RG.pv rfl (PV.asg rfl rfl) ?_
      refine RG.pv rfl (PV.mvI (.inr rfl) rfl) ?_
      refine RG.nil ?_
      refine WP.ret ?_
      exact ⟨_, _, ResV.two rfl rfl rfl, ((Cv.p (C := L)).trans (Cv.nilS.trans (Cv.cons ((Cv.bag0 (e := 59) (F := rectT) (xs := regs []) rfl).trans (Cv.bag0 (e := 90) (F := pieceT) (xs := nps []) rfl))))), k _ [] rfl⟩
    · have h4 := of_decide_eq_false h4
      have e : netE (er xs) = 0 := by rw [netE, h3, cond_true, if_neg (by omega)]
      have e2 : netR (er xs) = netL (er xs) := by rw [netR, e]; rfl
      rw [e, e2] at k
      refine WP.skip ?_
      refine WP.seq ?_
      refine WP.region ?_
      refine RG.pv rfl (PV.move (v := v9) rfl rfl) ?_
      refine RG.pv rfl (PV.asg (v := v9) rfl rfl) ?_
      refine RG.pv rfl (PV.mvI (.inr rfl) rfl) ?_
      refine RG.nil ?_
      refine WP.ret ?_
      exact ⟨_, _, ResV.two rfl rfl rfl, Cv.p, k v9 zsv9 hev9⟩
/-! ## places -/
theorem idxI_map {α β : Type} (q : β → Bool) (f : α → β) (xs : List α) : idxI q (xs.map f) = idxI (fun a => q (f a)) xs := by
  simp only [idxI, List.findIdx?_map]; rfl
theorem nps_er (zs : List Net) : (er (nps zs)).map erPs = zs.map fun z => erPs z.pieces.xs := by simp [er, nps, Function.comp_def]
/-- all slices of a bag, by membership -/
theorem Rs.mem {α : Type} {G : Gh} {L L' : List Ch} {e : TypeId} {F : FT α} {xs : List (Sl α)} [hX : ExBg xs L e F L'] {s : Sl α} (h : s ∈ xs) : Rs G L F s.v s.xs := by
  obtain ⟨i, hi, rfl⟩ := List.getElem_of_mem h
  have := Rs.inBag (G := G) (L := L) (L' := L') (e := e) (F := F) (xs := xs) i hi
  rwa [gd_eq hi] at this
theorem RsE.flat {G : Gh} {L L' : List Ch} {e : TypeId} {zs : List Net} [hX : ExBg (regs (er (nps zs)).flatten) L e rectT L'] {i : Nat} (hi : i < zs.length) : RsE G L rectT (regs (gd zs i).pieces.xs) := fun j hj => by
  rw [regs_len] at hj
  rw [regs_gd hj]
  refine Rs.mem (L := L) (L' := L') (e := e) (xs := regs (er (nps zs)).flatten) (List.mem_map_of_mem ?_)
  refine List.mem_flatten.2 ⟨(gd zs i).pieces.xs, ?_, gd_mem hj⟩
  rw [← nps_gd hi, ← er_gd]
  exact gd_mem (by rw [er_len, nps_len]; exact hi)
noncomputable def atN (l : List (List Rect)) (n x y : Int) : Int := if netE l = 0 then findL l n x y else -1
/-! ## the reference -/
theorem l17Cell_c {v : Value} {S : List Bool} {x y : Int} (h1 : Rs G L boolT v S) (hS : S.length = 6400) (k : R (.bool (cellB S x y)) G L) : CallT Try.prog 113 #[v, vi x, vi y] G L R := l17Cell_s h1 hS k
/-! ## the law -/
end Go.Proofs.Ythjaopefoiploaa
