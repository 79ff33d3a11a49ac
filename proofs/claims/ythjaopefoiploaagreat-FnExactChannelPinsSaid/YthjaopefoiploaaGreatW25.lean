/-
  Contracts: the net at a place.
-/
import Derived.Test.YthjaopefoiploaaGreatW24
import Derived.Test.YthjaopefoiploaaGreatNets2
namespace Go.Proofs.YthjaopefoiploaaGreat
open Go
set_option maxRecDepth 20000
set_option linter.unusedSimpArgs false
variable {G : Gh} {L : List Ch} {R : Value → Gh → List Ch → Prop}
/-! ## nets, or a code -/
noncomputable def netE (l : List (List Rect)) : Int := bif isLay l then (if 24 < netN l then 3 else 0) else 1
noncomputable def netR (l : List (List Rect)) : List (List (Int × List Rect)) := if netE l = 0 then netL l else []
theorem netE_ok {l : List (List Rect)} (h : netE l = 0) : isLay l = true ∧ netN l ≤ 24 := by
  unfold netE at h
  cases hl : isLay l
  · rw [hl] at h; cases h
  · rw [hl] at h
    refine ⟨rfl, ?_⟩
    by_cases c : 24 < netN l
    · simp [c] at h
    · omega
theorem nets_i {v : Value} {xs : List (Sl Rect)} (h1 : Rs G L slT v xs) (hd : RsE G L rectT xs) (k : ∀ v' zs, (er (nps zs)).map erPs = netR (er xs) → R (.tuple #[v', vi (netE (er xs))]) G (osl 129 netT v' zs :: bagS 132 pieceT (nps zs) :: bagS 59 rectT (regs (er (nps zs)).flatten) :: L)) : CallT Tryz.prog 53 #[v] G L R := by
  refine CallT.enter (args := _) Tryz.func53 rfl rfl (by kernel_rfl) rfl ?_
  refine WP.seq ?_
  refine WP.region ?_
  refine RG.pv rfl (PV.asg rfl rfl) ?_
  refine RG.pv rfl (PV.mvI (.inr rfl) rfl) ?_
  refine RG.nil ?_
  refine WP.seq ?_
  refine WP.seq ?_
  refine WP.region ?_
  refine RG.pv rfl (PV.move (v := v) rfl rfl) ?_
  refine RG.callF (vs := [v]) rfl rfl En64 rfl (isLayout_s (Rs.up h1) hd.up ?_)
  refine RG.pv rfl (PV.not rfl rfl) ?_
  refine RG.nil ?_
  refine WP.cond rfl (fun h2 => ?_) (fun h2 => ?_)
  · have h3 : isLay (er xs) = false := by simpa using h2
    have e : netE (er xs) = 1 := by rw [netE, h3]; rfl
    have e2 : netR (er xs) = [] := by rw [netR, e]; rfl
    rw [e, e2] at k
    refine WP.seq ?_
    refine WP.region ?_
    refine RG.pv rfl (PV.asg rfl rfl) ?_
    refine RG.pv rfl (PV.mvI (.inr rfl) rfl) ?_
    refine RG.nil ?_
    refine WP.ret ?_
    exact ⟨_, _, ResV.two rfl rfl rfl, (Cv.nilS.trans (Cv.cons ((Cv.bag0 (e := 59) (F := rectT) (xs := regs []) rfl).trans (Cv.bag0 (e := 132) (F := pieceT) (xs := nps []) rfl)))), k _ [] rfl⟩
  · have h3 : isLay (er xs) = true := by simpa using h2
    refine WP.skip ?_
    refine WP.seq ?_
    refine WP.region ?_
    refine RG.pv rfl (PV.move (v := v) rfl rfl) ?_
    refine RG.callF (vs := [v]) rfl rfl En89 rfl (netsOf_s (Rs.up h1) hd.up h3 (fun v9 zsv9 hev9 => ?_))
    refine RG.pv rfl (PV.asg (v := v9) rfl rfl) ?_
    refine RG.nil ?_
    refine WP.seq ?_
    refine WP.seq ?_
    refine WP.region ?_
    refine RG.pv rfl (PV.move (v := v9) rfl rfl) ?_
    refine RG.pv rfl (PV.len (v := v9) rfl Tryz.underlying81 rfl SlF.o) ?_
    refine RG.pv rfl (PV.gtr rfl rfl rfl) ?_
    refine RG.nil ?_
    have hzl : zsv9.length = netN (er xs) := by
      have := congrArg List.length hev9
      rwa [List.length_map, er_len, nps_len, netL_len] at this
    refine WP.cond rfl (fun h4 => ?_) (fun h4 => ?_)
    · have h4 := of_decide_eq_true h4
      have e : netE (er xs) = 3 := by rw [netE, h3, cond_true, if_pos (by omega)]
      have e2 : netR (er xs) = [] := by rw [netR, e]; rfl
      rw [e, e2] at k
      refine WP.seq ?_
      refine WP.region ?_
      refine RG.pv rfl (PV.asg rfl rfl) ?_
      refine RG.pv rfl (PV.mvI (.inr rfl) rfl) ?_
      refine RG.nil ?_
      refine WP.ret ?_
      exact ⟨_, _, ResV.two rfl rfl rfl, ((Cv.p (C := L)).trans (Cv.nilS.trans (Cv.cons ((Cv.bag0 (e := 59) (F := rectT) (xs := regs []) rfl).trans (Cv.bag0 (e := 132) (F := pieceT) (xs := nps []) rfl))))), k _ [] rfl⟩
    · have h4 := of_decide_eq_false h4
      have e : netE (er xs) = 0 := by rw [netE, h3, cond_true, if_neg (by omega)]
      have e2 : netR (er xs) = netL (er xs) := by rw [netR, e]; rfl
      rw [e, e2] at k
      refine WP.skip ?_
      refine WP.seq ?_
      refine WP.region ?_
      refine RG.pv rfl (PV.move (v := v9) rfl rfl) ?_
      refine RG.pv rfl (PV.asg (v := v9) rfl rfl) ?_
      refine RG.pv rfl (PV.mvI (.inr rfl) rfl) ?_
      refine RG.nil ?_
      refine WP.ret ?_
      exact ⟨_, _, ResV.two rfl rfl rfl, Cv.p, k v9 zsv9 hev9⟩
/-! ## places -/
theorem rHas_s {r : Rect} {x y : Int} (k : R (.bool (rHas r x y)) G L) : CallT Tryz.prog 137 #[vrect r, vi x, vi y] G L R := by
  refine CallT.enter (args := _) Tryz.func137 rfl rfl (by kernel_rfl) rfl ?_
  refine WP.seq ?_
  refine WP.region ?_
  refine RG.ot rfl (OT.box (cs := rectT.enc r) rfl rfl rfl fun b3 => ?_)
  refine RG.pv rfl (PV.mvB (.inr rfl) rfl) ?_
  refine RG.nil ?_
  refine WP.seq ?_
  refine WP.region ?_
  refine RG.pv rfl (PV.loadW rfl Ag59 rfl rfl) ?_
  refine RG.callF (vs := [_]) rfl rfl En191 rfl (validRect_s ?_)
  refine RG.pv rfl (PV.mvB (.inl rfl) rfl) ?_
  refine RG.gs rfl rfl rfl (fun hp => (PV.field rfl Fo59_0 rfl)) ?_
  refine RG.gs rfl rfl rfl (fun hp => (PV.load1 rfl Sc2 (gs_t hp) (Rd.blk rfl))) ?_
  refine RG.gs rfl rfl rfl (fun hp => (PV.mvI (.inl rfl) rfl)) ?_
  refine RG.gs rfl rfl rfl (fun hp => (PV.leq rfl (gs_t hp) (gs_t hp))) ?_
  refine RG.pv rfl (PV.pickA rfl rfl (fun hq => gs_t (geqT hq)) rfl) ?_
  refine RG.pv rfl (PV.mvB (.inl rfl) rfl) ?_
  refine RG.gs rfl rfl rfl (fun hp => (PV.mvI (.inl rfl) rfl)) ?_
  refine RG.gs rfl rfl rfl (fun hp => (PV.field rfl Fo59_2 rfl)) ?_
  refine RG.gs rfl rfl rfl (fun hp => (PV.load1 rfl Sc2 (gs_t hp) (Rd.blk rfl))) ?_
  refine RG.gs rfl rfl rfl (fun hp => (PV.lss rfl (gs_t hp) (gs_t hp))) ?_
  refine RG.pv rfl (PV.pickA rfl rfl (fun hq => gs_t (geqT hq)) rfl) ?_
  refine RG.pv rfl (PV.mvB (.inl rfl) rfl) ?_
  refine RG.gs rfl rfl rfl (fun hp => (PV.field rfl Fo59_1 rfl)) ?_
  refine RG.gs rfl rfl rfl (fun hp => (PV.load1 rfl Sc2 (gs_t hp) (Rd.blk rfl))) ?_
  refine RG.gs rfl rfl rfl (fun hp => (PV.mvI (.inl rfl) rfl)) ?_
  refine RG.gs rfl rfl rfl (fun hp => (PV.leq rfl (gs_t hp) (gs_t hp))) ?_
  refine RG.pv rfl (PV.pickA rfl rfl (fun hq => gs_t (geqT hq)) rfl) ?_
  refine RG.pv rfl (PV.mvB (.inl rfl) rfl) ?_
  refine RG.gs rfl rfl rfl (fun hp => (PV.mvI (.inl rfl) rfl)) ?_
  refine RG.gs rfl rfl rfl (fun hp => (PV.field rfl Fo59_3 rfl)) ?_
  refine RG.gs rfl rfl rfl (fun hp => (PV.load1 rfl Sc2 (gs_t hp) (Rd.blk rfl))) ?_
  refine RG.gs rfl rfl rfl (fun hp => (PV.lss rfl (gs_t hp) (gs_t hp))) ?_
  refine RG.pv rfl (PV.pickA rfl rfl (fun hq => gs_t (geqT hq)) rfl) ?_
  refine RG.pv rfl (PV.mvB (.inr rfl) rfl) ?_
  refine RG.nil ?_
  refine WP.ret ?_
  exact ⟨_, _, ResV.one rfl rfl, Cv.p, k⟩
theorem contains1_s {r : Rect} {b : Nat} {p : Pt} (hc : RdN G L b (ptT.enc p)) (k : R (.bool (rHas r p.x p.y)) G L) : CallT Tryz.prog 136 #[vrect r, .pointer (some ⟨b, 0, none⟩)] G L R := by
  refine CallT.enter (args := _) Tryz.func136 rfl rfl (by kernel_rfl) rfl ?_
  refine WP.seq ?_
  refine WP.region ?_
  refine RG.ot rfl (OT.box (cs := rectT.enc r) rfl rfl rfl fun b2 => ?_)
  refine RG.pv rfl (PV.mvB (.inr rfl) rfl) ?_
  refine RG.nil ?_
  refine WP.seq ?_
  refine WP.region ?_
  refine RG.pv rfl (PV.loadW rfl Ag59 rfl rfl) ?_
  refine RG.pv rfl (PV.field rfl Fo29_0 rfl) ?_
  refine RG.pv rfl (PV.load1 rfl Sc2 rfl ((RdN.up hc) 0 _ rfl)) ?_
  refine RG.pv rfl (PV.field rfl Fo29_1 rfl) ?_
  refine RG.pv rfl (PV.load1 rfl Sc2 rfl ((RdN.up hc) 1 _ rfl)) ?_
  refine RG.callF (vs := [_, _, _]) rfl rfl En137 rfl (rHas_s ?_)
  refine RG.pv rfl (PV.mvB (.inr rfl) rfl) ?_
  refine RG.nil ?_
  refine WP.ret ?_
  exact ⟨_, _, ResV.one rfl rfl, Cv.p, k⟩

theorem indexF_rect {v fv : Value} {xs : List (Rect)} {p : (Rect) → Bool} (h1 : Rs G L rectT v xs) (hf : ∀ i, i < xs.length → CB Tryz.prog G L fv [vrect (gd xs i)] (.bool (p (gd xs i)))) (k : R (vi (idxI p xs)) G L) : CallT Tryz.prog 195 #[v, fv] G L R := by
  refine CallT.bd h1 fun hb => ?_
  refine CallT.enter (args := _) Tryz.func195 rfl rfl (by kernel_rfl) rfl ?_
  refine WP.seq ?_
  refine WP.region ?_
  refine RG.pv rfl (PV.mvI (.inr rfl) rfl) ?_
  refine RG.nil ?_
  refine WP.seq ?_
  refine WP.seq ?_
  refine WP.region ?_
  refine RG.pv rfl (PV.move (v := v) rfl rfl) ?_
  refine RG.pv rfl (PV.len (v := v) rfl Tryz.underlying66 rfl (SlF.r h1)) ?_
  refine RG.pv rfl (PV.mvI (.inl rfl) rfl) ?_
  refine RG.nil ?_
  refine WP.block ?_
  refine WP.loop1 [0, 1, 7] (fun i => i ≤ xs.length ∧ ∀ j, j < i → p (gd xs j) = false) (fun i => [(8, vi i)]) (fun i => L) (fun i => xs.length - i) 0 ⟨by omega, fun j h => by omega⟩ ⟨rfl, trivial⟩ Cv.p ?_
  rintro i τ ⟨hi, hj⟩
  refine WP.seq ?_
  refine WP.region ?_
  refine RG.pv rfl (PV.lss rfl rfl rfl) ?_
  refine RG.nil ?_
  refine WP.seq ?_
  refine WP.cond rfl (fun h2 => ?_) (fun h2 => ?_)
  · have h2 := of_decide_eq_true h2
    refine WP.skip ?_
    refine WP.seq ?_
    refine WP.block ?_
    refine WP.seq ?_
    refine WP.region ?_
    refine RG.pv rfl (PV.mvI (.inl rfl) rfl) ?_
    refine RG.pv rfl (PV.mvI (.inr rfl) rfl) ?_
    refine RG.nil ?_
    refine WP.seq ?_
    refine WP.region ?_
    refine RG.pv rfl (PV.move (v := fv) rfl rfl) ?_
    refine RG.pv rfl (PV.move (v := v) rfl rfl) ?_
    refine RG.pv rfl (PV.mvI (.inl rfl) rfl) ?_
    refine RG.pv rfl (PV.idxS (v := v) rfl Is66 rfl (SlF.r h1) rfl rfl (by omega)) ?_
    refine RG.pv rfl (PV.loadE rfl Ag59 rfl rfl (El.r h1 (getG (by omega)))) ?_
    refine RG.callB (vs := [_]) rfl rfl rfl rfl (CB.up (hf i (by omega))) ?_
    refine RG.nil ?_
    refine WP.cond rfl (fun h3 => ?_) (fun h3 => ?_)
    · rw [idxI_at (by omega) h3 hj] at k
      refine WP.seq ?_
      refine WP.region ?_
      refine RG.pv rfl (PV.mvI (.inl rfl) rfl) ?_
      refine RG.pv rfl (PV.mvI (.inr rfl) rfl) ?_
      refine RG.nil ?_
      refine WP.ret ?_
      exact ⟨_, _, ResV.one rfl rfl, Cv.p, k⟩
    · have hj' : ∀ j, j < i + 1 → p (gd xs j) = false := fun j h => by
        by_cases c : j = i
        · rw [c]; exact h3
        · exact hj j (by omega)
      refine WP.skip ?_
      refine WP.region ?_
      refine RG.pv rfl (PV.add rfl rfl rfl (by omega)) ?_
      refine RG.pv rfl (PV.mvI (.inl rfl) rfl) ?_
      refine RG.nil ?_
      exact ⟨rfl, i + 1, ⟨by omega, hj'⟩, ⟨rfl, trivial⟩, ⟨rfl, rfl, rfl, trivial⟩, Cv.p, by omega⟩
  · have h2 := of_decide_eq_false h2
    rw [idxI_none (fun j h => hj j (by omega))] at k
    refine WP.exit ?_
    refine WP.seq ?_
    refine WP.region ?_
    refine RG.pv rfl (PV.mvI (.inr rfl) rfl) ?_
    refine RG.nil ?_
    refine WP.ret ?_
    exact ⟨_, _, ResV.one rfl rfl, Cv.p, k⟩
theorem containsF_rect {v fv : Value} {xs : List (Rect)} {p : (Rect) → Bool} (h1 : Rs G L rectT v xs) (hf : ∀ i, i < xs.length → CB Tryz.prog G L fv [vrect (gd xs i)] (.bool (p (gd xs i)))) (k : R (.bool (xs.any p)) G L) : CallT Tryz.prog 135 #[v, fv] G L R := by
  rw [← idxI_any] at k
  refine CallT.enter (args := _) Tryz.func135 rfl rfl (by kernel_rfl) rfl ?_
  refine WP.seq ?_
  refine WP.region ?_
  refine RG.pv rfl (PV.mvB (.inr rfl) rfl) ?_
  refine RG.nil ?_
  refine WP.seq ?_
  refine WP.region ?_
  refine RG.pv rfl (PV.move (v := v) rfl rfl) ?_
  refine RG.pv rfl (PV.move (v := fv) rfl rfl) ?_
  refine RG.callF (vs := [v, fv]) rfl rfl En195 rfl (indexF_rect (Rs.up h1) (fun i hi => (hf i hi).up) ?_)
  refine RG.pv rfl (PV.geq rfl rfl rfl) ?_
  refine RG.pv rfl (PV.mvB (.inr rfl) rfl) ?_
  refine RG.nil ?_
  refine WP.ret ?_
  exact ⟨_, _, ResV.one rfl rfl, Cv.p, k⟩
theorem indexF_piece {v fv : Value} {xs : List (Piece)} {p : (Piece) → Bool} (h1 : Rs G L pieceT v xs) (hf : ∀ i, i < xs.length → CB Tryz.prog G L fv [vT pieceT (gd xs i)] (.bool (p (gd xs i)))) (k : R (vi (idxI p xs)) G L) : CallT Tryz.prog 134 #[v, fv] G L R := by
  refine CallT.bd h1 fun hb => ?_
  refine CallT.enter (args := _) Tryz.func134 rfl rfl (by kernel_rfl) rfl ?_
  refine WP.seq ?_
  refine WP.region ?_
  refine RG.pv rfl (PV.mvI (.inr rfl) rfl) ?_
  refine RG.nil ?_
  refine WP.seq ?_
  refine WP.seq ?_
  refine WP.region ?_
  refine RG.pv rfl (PV.move (v := v) rfl rfl) ?_
  refine RG.pv rfl (PV.len (v := v) rfl Tryz.underlying127 rfl (SlF.r h1)) ?_
  refine RG.pv rfl (PV.mvI (.inl rfl) rfl) ?_
  refine RG.nil ?_
  refine WP.block ?_
  refine WP.loop1 [0, 1, 7] (fun i => i ≤ xs.length ∧ ∀ j, j < i → p (gd xs j) = false) (fun i => [(8, vi i)]) (fun i => L) (fun i => xs.length - i) 0 ⟨by omega, fun j h => by omega⟩ ⟨rfl, trivial⟩ Cv.p ?_
  rintro i τ ⟨hi, hj⟩
  refine WP.seq ?_
  refine WP.region ?_
  refine RG.pv rfl (PV.lss rfl rfl rfl) ?_
  refine RG.nil ?_
  refine WP.seq ?_
  refine WP.cond rfl (fun h2 => ?_) (fun h2 => ?_)
  · have h2 := of_decide_eq_true h2
    refine WP.skip ?_
    refine WP.seq ?_
    refine WP.block ?_
    refine WP.seq ?_
    refine WP.region ?_
    refine RG.pv rfl (PV.mvI (.inl rfl) rfl) ?_
    refine RG.pv rfl (PV.mvI (.inr rfl) rfl) ?_
    refine RG.nil ?_
    refine WP.seq ?_
    refine WP.region ?_
    refine RG.pv rfl (PV.move (v := fv) rfl rfl) ?_
    refine RG.pv rfl (PV.move (v := v) rfl rfl) ?_
    refine RG.pv rfl (PV.mvI (.inl rfl) rfl) ?_
    refine RG.pv rfl (PV.idxS (v := v) rfl Is127 rfl (SlF.r h1) rfl rfl (by omega)) ?_
    refine RG.pv rfl (PV.loadE rfl Ag132 rfl rfl (El.r h1 (getG (by omega)))) ?_
    refine RG.callB (vs := [_]) rfl rfl rfl rfl (CB.up (hf i (by omega))) ?_
    refine RG.nil ?_
    refine WP.cond rfl (fun h3 => ?_) (fun h3 => ?_)
    · rw [idxI_at (by omega) h3 hj] at k
      refine WP.seq ?_
      refine WP.region ?_
      refine RG.pv rfl (PV.mvI (.inl rfl) rfl) ?_
      refine RG.pv rfl (PV.mvI (.inr rfl) rfl) ?_
      refine RG.nil ?_
      refine WP.ret ?_
      exact ⟨_, _, ResV.one rfl rfl, Cv.p, k⟩
    · have hj' : ∀ j, j < i + 1 → p (gd xs j) = false := fun j h => by
        by_cases c : j = i
        · rw [c]; exact h3
        · exact hj j (by omega)
      refine WP.skip ?_
      refine WP.region ?_
      refine RG.pv rfl (PV.add rfl rfl rfl (by omega)) ?_
      refine RG.pv rfl (PV.mvI (.inl rfl) rfl) ?_
      refine RG.nil ?_
      exact ⟨rfl, i + 1, ⟨by omega, hj'⟩, ⟨rfl, trivial⟩, ⟨rfl, rfl, rfl, trivial⟩, Cv.p, by omega⟩
  · have h2 := of_decide_eq_false h2
    rw [idxI_none (fun j h => hj j (by omega))] at k
    refine WP.exit ?_
    refine WP.seq ?_
    refine WP.region ?_
    refine RG.pv rfl (PV.mvI (.inr rfl) rfl) ?_
    refine RG.nil ?_
    refine WP.ret ?_
    exact ⟨_, _, ResV.one rfl rfl, Cv.p, k⟩
theorem containsF_piece {v fv : Value} {xs : List (Piece)} {p : (Piece) → Bool} (h1 : Rs G L pieceT v xs) (hf : ∀ i, i < xs.length → CB Tryz.prog G L fv [vT pieceT (gd xs i)] (.bool (p (gd xs i)))) (k : R (.bool (xs.any p)) G L) : CallT Tryz.prog 92 #[v, fv] G L R := by
  rw [← idxI_any] at k
  refine CallT.enter (args := _) Tryz.func92 rfl rfl (by kernel_rfl) rfl ?_
  refine WP.seq ?_
  refine WP.region ?_
  refine RG.pv rfl (PV.mvB (.inr rfl) rfl) ?_
  refine RG.nil ?_
  refine WP.seq ?_
  refine WP.region ?_
  refine RG.pv rfl (PV.move (v := v) rfl rfl) ?_
  refine RG.pv rfl (PV.move (v := fv) rfl rfl) ?_
  refine RG.callF (vs := [v, fv]) rfl rfl En134 rfl (indexF_piece (Rs.up h1) (fun i hi => (hf i hi).up) ?_)
  refine RG.pv rfl (PV.geq rfl rfl rfl) ?_
  refine RG.pv rfl (PV.mvB (.inr rfl) rfl) ?_
  refine RG.nil ?_
  refine WP.ret ?_
  exact ⟨_, _, ResV.one rfl rfl, Cv.p, k⟩
theorem indexF_net {v fv : Value} {xs : List (Net)} {p : (Net) → Bool} (h1 : Rs G L netT v xs) (hf : ∀ i, i < xs.length → CB Tryz.prog G L fv [vT netT (gd xs i)] (.bool (p (gd xs i)))) (k : R (vi (idxI p xs)) G L) : CallT Tryz.prog 90 #[v, fv] G L R := by
  refine CallT.bd h1 fun hb => ?_
  refine CallT.enter (args := _) Tryz.func90 rfl rfl (by kernel_rfl) rfl ?_
  refine WP.seq ?_
  refine WP.region ?_
  refine RG.pv rfl (PV.mvI (.inr rfl) rfl) ?_
  refine RG.nil ?_
  refine WP.seq ?_
  refine WP.seq ?_
  refine WP.region ?_
  refine RG.pv rfl (PV.move (v := v) rfl rfl) ?_
  refine RG.pv rfl (PV.len (v := v) rfl Tryz.underlying81 rfl (SlF.r h1)) ?_
  refine RG.pv rfl (PV.mvI (.inl rfl) rfl) ?_
  refine RG.nil ?_
  refine WP.block ?_
  refine WP.loop1 [0, 1, 7] (fun i => i ≤ xs.length ∧ ∀ j, j < i → p (gd xs j) = false) (fun i => [(8, vi i)]) (fun i => L) (fun i => xs.length - i) 0 ⟨by omega, fun j h => by omega⟩ ⟨rfl, trivial⟩ Cv.p ?_
  rintro i τ ⟨hi, hj⟩
  refine WP.seq ?_
  refine WP.region ?_
  refine RG.pv rfl (PV.lss rfl rfl rfl) ?_
  refine RG.nil ?_
  refine WP.seq ?_
  refine WP.cond rfl (fun h2 => ?_) (fun h2 => ?_)
  · have h2 := of_decide_eq_true h2
    refine WP.skip ?_
    refine WP.seq ?_
    refine WP.block ?_
    refine WP.seq ?_
    refine WP.region ?_
    refine RG.pv rfl (PV.mvI (.inl rfl) rfl) ?_
    refine RG.pv rfl (PV.mvI (.inr rfl) rfl) ?_
    refine RG.nil ?_
    refine WP.seq ?_
    refine WP.region ?_
    refine RG.pv rfl (PV.move (v := fv) rfl rfl) ?_
    refine RG.pv rfl (PV.move (v := v) rfl rfl) ?_
    refine RG.pv rfl (PV.mvI (.inl rfl) rfl) ?_
    refine RG.pv rfl (PV.idxS (v := v) rfl Is81 rfl (SlF.r h1) rfl rfl (by omega)) ?_
    refine RG.pv rfl (PV.loadE rfl Ag129 rfl rfl (El.r h1 (getG (by omega)))) ?_
    refine RG.callB (vs := [_]) rfl rfl rfl rfl (CB.up (hf i (by omega))) ?_
    refine RG.nil ?_
    refine WP.cond rfl (fun h3 => ?_) (fun h3 => ?_)
    · rw [idxI_at (by omega) h3 hj] at k
      refine WP.seq ?_
      refine WP.region ?_
      refine RG.pv rfl (PV.mvI (.inl rfl) rfl) ?_
      refine RG.pv rfl (PV.mvI (.inr rfl) rfl) ?_
      refine RG.nil ?_
      refine WP.ret ?_
      exact ⟨_, _, ResV.one rfl rfl, Cv.p, k⟩
    · have hj' : ∀ j, j < i + 1 → p (gd xs j) = false := fun j h => by
        by_cases c : j = i
        · rw [c]; exact h3
        · exact hj j (by omega)
      refine WP.skip ?_
      refine WP.region ?_
      refine RG.pv rfl (PV.add rfl rfl rfl (by omega)) ?_
      refine RG.pv rfl (PV.mvI (.inl rfl) rfl) ?_
      refine RG.nil ?_
      exact ⟨rfl, i + 1, ⟨by omega, hj'⟩, ⟨rfl, trivial⟩, ⟨rfl, rfl, rfl, trivial⟩, Cv.p, by omega⟩
  · have h2 := of_decide_eq_false h2
    rw [idxI_none (fun j h => hj j (by omega))] at k
    refine WP.exit ?_
    refine WP.seq ?_
    refine WP.region ?_
    refine RG.pv rfl (PV.mvI (.inr rfl) rfl) ?_
    refine RG.nil ?_
    refine WP.ret ?_
    exact ⟨_, _, ResV.one rfl rfl, Cv.p, k⟩
theorem contains_s {v : Value} {xs : List Rect} {p : Pt} (h1 : Rs G L rectT v xs) (k : R (.bool (xs.any fun r => rHas r p.x p.y)) G L) : CallT Tryz.prog 94 #[v, vpt p] G L R := by
  refine CallT.enter (args := _) Tryz.func94 rfl rfl (by kernel_rfl) rfl ?_
  refine WP.seq ?_
  refine WP.region ?_
  refine RG.ot rfl (OT.box (cs := ptT.enc p) rfl rfl rfl fun b3 => ?_)
  refine RG.pv rfl (PV.mvB (.inr rfl) rfl) ?_
  refine RG.nil ?_
  refine WP.seq ?_
  refine WP.region ?_
  refine RG.pv rfl (PV.move (v := v) rfl rfl) ?_
  refine RG.pv rfl (PV.mkf1 rfl rfl) ?_
  refine RG.callF (vs := [v, _]) rfl rfl En135 rfl (containsF_rect (Rs.up h1) (p := fun r => rHas r p.x p.y) (fun i hi => CB.mk1 En136 fun L' R c k => contains1_s (RdN.cv RdN.blk c) k) ?_)
  refine RG.pv rfl (PV.mvB (.inr rfl) rfl) ?_
  refine RG.nil ?_
  refine WP.ret ?_
  exact ⟨_, _, ResV.one rfl rfl, Cv.p, k⟩
theorem netAt11_s {p : Piece} {b c : Nat} {n : Int} {q : Pt} (hr : Rs G L rectT p.reg.v p.reg.xs) (hb : Rd G L b 0 (vi n)) (hc : RdN G L c (ptT.enc q)) (k : R (.bool (atR n q.x q.y (erP p))) G L) : CallT Tryz.prog 93 #[vT pieceT p, .pointer (some ⟨b, 0, none⟩), .pointer (some ⟨c, 0, none⟩)] G L R := by
  refine CallT.enter (args := _) Tryz.func93 rfl rfl (by kernel_rfl) rfl ?_
  refine WP.seq ?_
  refine WP.region ?_
  refine RG.ot rfl (OT.box (cs := pieceT.enc p) rfl rfl rfl fun b3 => ?_)
  refine RG.pv rfl (PV.mvB (.inr rfl) rfl) ?_
  refine RG.nil ?_
  refine WP.seq ?_
  refine WP.region ?_
  refine RG.pv rfl (PV.field rfl Fo132_0 rfl) ?_
  refine RG.pv rfl (PV.load1 rfl Sc2 rfl (Rd.blk rfl)) ?_
  refine RG.pv rfl (PV.load1 rfl Sc2 rfl (Rd.up hb)) ?_
  refine RG.pv rfl (PV.eql rfl rfl rfl) ?_
  refine RG.pv rfl (PV.mvB (.inl rfl) rfl) ?_
  refine RG.gs rfl rfl rfl (fun hp => (PV.field rfl Fo132_1 rfl)) ?_
  refine RG.gs rfl rfl rfl (fun hp => (PV.load1 rfl Sc66 (gs_t hp) (Rd.blk rfl))) ?_
  refine RG.gs rfl rfl rfl (fun hp => (PV.loadA rfl Ag29 rfl rfl (RdN.up hc))) ?_
  refine RG.gsC rfl rfl rfl rfl En94 (fun hp => ⟨_, (acons (gs_t hp) (acons (gs_t hp) anil)), contains_s (Rs.up hr) ⟨rfl, rfl, rfl⟩⟩) ?_
  refine RG.pv rfl (PV.pickA rfl rfl (fun hq => gs_t (geqT hq)) rfl) ?_
  refine RG.pv rfl (PV.mvB (.inr rfl) rfl) ?_
  refine RG.nil ?_
  refine WP.ret ?_
  exact ⟨_, _, ResV.one rfl rfl, Cv.p, k⟩
theorem netAt1_s {z : Net} {b c : Nat} {n : Int} {q : Pt} (hp : Rs G L pieceT z.pieces.v z.pieces.xs) (hr : ∀ i, i < z.pieces.xs.length → Rs G L rectT (gd z.pieces.xs i).reg.v (gd z.pieces.xs i).reg.xs) (hb : Rd G L b 0 (vi n)) (hc : RdN G L c (ptT.enc q)) (k : R (.bool ((erPs z.pieces.xs).any (atR n q.x q.y))) G L) : CallT Tryz.prog 91 #[vT netT z, .pointer (some ⟨b, 0, none⟩), .pointer (some ⟨c, 0, none⟩)] G L R := by
  rw [erPs, List.any_map] at k
  refine CallT.enter (args := _) Tryz.func91 rfl rfl (by kernel_rfl) rfl ?_
  refine WP.seq ?_
  refine WP.region ?_
  refine RG.ot rfl (OT.box (cs := netT.enc z) rfl rfl rfl fun b3 => ?_)
  refine RG.pv rfl (PV.mvB (.inr rfl) rfl) ?_
  refine RG.nil ?_
  refine WP.seq ?_
  refine WP.region ?_
  refine RG.pv rfl (PV.field rfl Fo129_0 rfl) ?_
  refine RG.pv rfl (PV.load1 rfl Sc127 rfl (Rd.blk rfl)) ?_
  refine RG.pv rfl (PV.mkf2 rfl rfl rfl) ?_
  refine RG.callF (vs := [_, _]) rfl rfl En92 rfl (containsF_piece (Rs.up hp) (p := fun r => atR n q.x q.y (erP r)) (fun i hi => CB.mk2 En93 fun L' R e k => netAt11_s ((hr i hi).up.cv e) (Rd.cv hb.up e) (RdN.cv hc.up e) k) ?_)
  refine RG.pv rfl (PV.mvB (.inr rfl) rfl) ?_
  refine RG.nil ?_
  refine WP.ret ?_
  exact ⟨_, _, ResV.one rfl rfl, Cv.p, k⟩
theorem idxI_map {α β : Type} (q : β → Bool) (f : α → β) (xs : List α) : idxI q (xs.map f) = idxI (fun a => q (f a)) xs := by
  simp only [idxI, List.findIdx?_map]; rfl
theorem nps_er (zs : List Net) : (er (nps zs)).map erPs = zs.map fun z => erPs z.pieces.xs := by simp [er, nps, Function.comp_def]
theorem netAt_s {v : Value} {zs : List Net} {n : Int} {q : Pt} (h1 : Rs G L netT v zs) (hp : RsE G L pieceT (nps zs)) (hr : ∀ i, i < zs.length → RsE G L rectT (regs (gd zs i).pieces.xs)) (k : R (vi (idxI (fun net => net.any (atR n q.x q.y)) ((er (nps zs)).map erPs))) G L) : CallT Tryz.prog 54 #[v, vi n, vpt q] G L R := by
  rw [nps_er, idxI_map] at k
  have hp2 : ∀ i, i < zs.length → Rs G L pieceT (gd zs i).pieces.v (gd zs i).pieces.xs := fun i hi => by
    have := hp i (by rw [nps_len]; exact hi); rwa [nps_gd hi] at this
  refine CallT.enter (args := _) Tryz.func54 rfl rfl (by kernel_rfl) rfl ?_
  refine WP.seq ?_
  refine WP.region ?_
  refine RG.ot rfl (OT.box rfl rfl rfl fun b4 => ?_)
  refine RG.ot rfl (OT.box (cs := ptT.enc q) rfl rfl rfl fun b5 => ?_)
  refine RG.pv rfl (PV.mvI (.inr rfl) rfl) ?_
  refine RG.nil ?_
  refine WP.seq ?_
  refine WP.region ?_
  refine RG.pv rfl (PV.move (v := v) rfl rfl) ?_
  refine RG.pv rfl (PV.mkf2 rfl rfl rfl) ?_
  refine RG.callF (vs := [v, _]) rfl rfl En90 rfl (indexF_net (Rs.up h1) (p := fun z => (erPs z.pieces.xs).any (atR n q.x q.y)) (fun i hi => CB.mk2 En91 fun L' R e k => netAt1_s ((hp2 i hi).up.cv e) (fun j hj => ((hr i hi).reg hj).up.cv e) (Rd.cv (Rd.blk rfl) e) (RdN.cv RdN.blk e) k) ?_)
  refine RG.pv rfl (PV.mvI (.inr rfl) rfl) ?_
  refine RG.nil ?_
  refine WP.ret ?_
  exact ⟨_, _, ResV.one rfl rfl, Cv.p, k⟩
/-- all slices of a bag, by membership -/
theorem Rs.mem {α : Type} {G : Gh} {L L' : List Ch} {e : TypeId} {F : FT α} {xs : List (Sl α)} [hX : ExBg xs L e F L'] {s : Sl α} (h : s ∈ xs) : Rs G L F s.v s.xs := by
  obtain ⟨i, hi, rfl⟩ := List.getElem_of_mem h
  have := Rs.inBag (G := G) (L := L) (L' := L') (e := e) (F := F) (xs := xs) i hi
  rwa [gd_eq hi] at this
theorem RsE.flat {G : Gh} {L L' : List Ch} {e : TypeId} {zs : List Net} [hX : ExBg (regs (er (nps zs)).flatten) L e rectT L'] {i : Nat} (hi : i < zs.length) : RsE G L rectT (regs (gd zs i).pieces.xs) := fun j hj => by
  rw [regs_len] at hj
  rw [regs_gd hj]
  refine Rs.mem (L := L) (L' := L') (e := e) (xs := regs (er (nps zs)).flatten) (List.mem_map_of_mem ?_)
  refine List.mem_flatten.2 ⟨(gd zs i).pieces.xs, ?_, gd_mem hj⟩
  rw [← nps_gd hi, ← er_gd]
  exact gd_mem (by rw [er_len, nps_len]; exact hi)
noncomputable def atN (l : List (List Rect)) (n x y : Int) : Int := if netE l = 0 then findL l n x y else -1
theorem netAt_i {v : Value} {xs : List (Sl Rect)} {n : Int} {q : Pt} (h1 : Rs G L slT v xs) (hd : RsE G L rectT xs) (k : R (vi (atN (er xs) n q.x q.y)) G L) : CallT Tryz.prog 31 #[v, vi n, vpt q] G L R := by
  refine CallT.enter (args := _) Tryz.func31 rfl rfl (by kernel_rfl) rfl ?_
  refine WP.seq ?_
  refine WP.region ?_
  refine RG.ot rfl (OT.box (cs := ptT.enc q) rfl rfl rfl fun b5 => ?_)
  refine RG.pv rfl (PV.mvI (.inr rfl) rfl) ?_
  refine RG.nil ?_
  refine WP.seq ?_
  refine WP.region ?_
  refine RG.pv rfl (PV.move (v := v) rfl rfl) ?_
  refine RG.callF (vs := [v]) rfl rfl En53 rfl (nets_i (Rs.up h1) hd.up (fun w11 zsw11 hew11 => ?_))
  refine RG.pv rfl (PV.move (v := .tuple _) rfl rfl) ?_
  refine RG.pv rfl (PV.ext (v := w11) rfl rfl rfl) ?_
  refine RG.pv rfl (PV.ext rfl rfl rfl) ?_
  refine RG.pv rfl (PV.asg (v := w11) rfl rfl) ?_
  refine RG.pv rfl (PV.mvI (.inr rfl) rfl) ?_
  refine RG.nil ?_
  refine WP.seq ?_
  refine WP.seq ?_
  refine WP.region ?_
  refine RG.pv rfl (PV.mvI (.inl rfl) rfl) ?_
  refine RG.pv rfl (PV.neq rfl rfl rfl) ?_
  refine RG.nil ?_
  refine WP.cond rfl (fun h2 => ?_) (fun h2 => ?_)
  · have h3 : netE (er xs) ≠ 0 := by simpa using h2
    rw [atN, if_neg h3] at k
    refine WP.seq ?_
    refine WP.region ?_
    refine RG.pv rfl (PV.mvI (.inr rfl) rfl) ?_
    refine RG.nil ?_
    refine WP.ret ?_
    exact ⟨_, _, ResV.one rfl rfl, Cv.p, k⟩
  · have h3 : netE (er xs) = 0 := by simpa using h2
    have e : (er (nps zsw11)).map erPs = netL (er xs) := by rw [hew11, netR, if_pos h3]
    rw [atN, if_pos h3, ← netAt_eq, ← e] at k
    refine WP.skip ?_
    refine WP.seq ?_
    refine WP.region ?_
    refine RG.pv rfl (PV.move (v := w11) rfl rfl) ?_
    refine RG.pv rfl (PV.mvI (.inl rfl) rfl) ?_
    refine RG.pv rfl (PV.loadW rfl Ag29 rfl rfl) ?_
    refine RG.callF (vs := [w11, _, _]) rfl rfl En54 rfl (netAt_s Rs.o RsE.o (fun i hi => RsE.flat hi) ?_)
    refine RG.pv rfl (PV.mvI (.inr rfl) rfl) ?_
    refine RG.nil ?_
    refine WP.ret ?_
    exact ⟨_, _, ResV.one rfl rfl, Cv.p, k⟩
/-! ## the reference -/
theorem l17Cell_c {v : Value} {S : List Bool} {x y : Int} (h1 : Rs G L boolT v S) (hS : S.length = 6400) (k : R (.bool (cellB S x y)) G L) : CallT Tryz.prog 103 #[v, vi x, vi y] G L R := l17Cell_s h1 hS k
theorem l23Find_s {u w : Value} {l : List (List Rect)} {cs : List Part} {n : Int} {q : Pt} (h1 : Rs G L partT u cs) (hcd : RsE G L boolT (cels cs)) (h2 : Rs G L intT w (nums (clsL l))) (hcs : cs.map erC = pcL l 4) (k : R (vi (findL l n q.x q.y)) G L) : CallT Tryz.prog 62 #[u, w, vi n, vpt q] G L R := by
  have hcl : cs.length = (pcL l 4).length := by rw [← hcs, List.length_map]
  have hpl := pcL_len l 4
  have hce : ∀ i, i < cs.length → erC (gd cs i) = gd (pcL l 4) i := fun i hi => by rw [← hcs, gd_map _ hi]
  have hc6 : ∀ i, i < cs.length → (gd cs i).cells.xs.length = 6400 := fun i hi => by
    have := pcL_gd_len (l := l) (i := i) (by omega)
    rw [← hce i hi] at this; exact this
  have hcr : ∀ i, i < cs.length → Rs G L boolT (gd cs i).cells.v (gd cs i).cells.xs := fun i hi => by
    have := hcd i (by rw [cels_len]; exact hi); rwa [cels_gd hi] at this
  have hnl : (nums (clsL l)).length = cs.length := by rw [nums, List.length_map, List.length_range, clsL_len, hcl]
  refine CallT.enter (args := _) Tryz.func62 rfl rfl (by kernel_rfl) rfl ?_
  refine WP.seq ?_
  refine WP.region ?_
  refine RG.ot rfl (OT.box (cs := ptT.enc q) rfl rfl rfl fun b7 => ?_)
  refine RG.pv rfl (PV.mvI (.inr rfl) rfl) ?_
  refine RG.nil ?_
  refine WP.seq ?_
  refine WP.seq ?_
  refine WP.region ?_
  refine RG.pv rfl (PV.mvI (.inr rfl) rfl) ?_
  refine RG.nil ?_
  refine WP.block ?_
  refine WP.loop1 [0, 1, 2, 7] (fun i => i ≤ cs.length ∧ ∀ j, j < i → atB n q.x q.y (gd (pcL l 4) j) = false) (fun i => [(9, vi i)]) (fun i => blk b7 29 (ptT.enc q) :: L) (fun i => cs.length - i) 0 ⟨by omega, fun j h => by omega⟩ ⟨rfl, trivial⟩ Cv.p ?_
  rintro i τ ⟨hi, hn⟩
  refine WP.seq ?_
  refine WP.seq ?_
  refine WP.region ?_
  refine RG.pv rfl (PV.mvI (.inl rfl) rfl) ?_
  refine RG.pv rfl (PV.move (v := u) rfl rfl) ?_
  refine RG.pv rfl (PV.len (v := u) rfl Tryz.underlying91 rfl (SlF.r h1)) ?_
  refine RG.pv rfl (PV.lss rfl rfl rfl) ?_
  refine RG.nil ?_
  refine WP.cond rfl (fun h3 => ?_) (fun h3 => ?_)
  · have h3 := of_decide_eq_true h3
    have h4 : i < cs.length := by omega
    have hat : atB n q.x q.y (gd (pcL l 4) i) = (decide ((gd cs i).layer = n) && cellB (gd cs i).cells.xs q.x q.y) := by rw [← hce i h4]; rfl
    refine WP.skip ?_
    refine WP.seq ?_
    refine WP.block ?_
    refine WP.seq ?_
    refine WP.regionQ (by kernel_rfl) (by kernel_rfl) ?_
    refine RQ.pv rfl (PV.move (v := u) rfl rfl) ?_
    refine RQ.pv rfl (PV.mvI (.inl rfl) rfl) ?_
    refine RQ.pv rfl (PV.idxS (v := u) rfl Is91 rfl (SlF.r h1) rfl rfl (by omega)) ?_
    refine RQ.pv rfl (PV.field rfl Fo145_0 rfl) ?_
    refine RQ.pv rfl (PV.loadF rfl Sc2 rfl rfl (El.r h1 (getG (by omega))) rfl) ?_
    refine RQ.pv rfl (PV.mvI (.inl rfl) rfl) ?_
    refine RQ.pv rfl (PV.eql rfl rfl rfl) ?_
    refine RQ.pv rfl (PV.mvB (.inl rfl) rfl) ?_
    refine RQ.gs rfl rfl rfl (fun hp => (PV.move (v := u) rfl rfl)) ?_
    refine RQ.gs rfl rfl rfl (fun hp => (PV.mvI (.inl rfl) rfl)) ?_
    refine RQ.gs rfl rfl rfl (fun hp => (PV.idxS (v := u) rfl Is91 (gs_t hp) (SlF.r h1) (gs_t hp) rfl (by first | omega | (simp at hp; omega)))) ?_
    refine RQ.gs rfl rfl rfl (fun hp => (PV.field rfl Fo145_1 (gs_t hp))) ?_
    refine RQ.gs rfl rfl rfl (fun hp => (PV.loadF rfl Sc142 (gs_t hp) rfl (El.r h1 (getG (by first | omega | (simp at hp; omega)))) rfl)) ?_
    refine RQ.gs rfl rfl rfl (fun hp => (PV.field rfl Fo29_0 rfl)) ?_
    refine RQ.gs rfl rfl rfl (fun hp => (PV.load1 rfl Sc2 (gs_t hp) (Rd.blk rfl))) ?_
    refine RQ.gs rfl rfl rfl (fun hp => (PV.field rfl Fo29_1 rfl)) ?_
    refine RQ.gs rfl rfl rfl (fun hp => (PV.load1 rfl Sc2 (gs_t hp) (Rd.blk rfl))) ?_
    refine RQ.gsC rfl rfl rfl rfl En103 (fun hp => ⟨_, (acons (gs_t hp) (acons (gs_t hp) (acons (gs_t hp) anil))), l17Cell_c (hcr i (by omega)).up (hc6 i (by omega)) ⟨rfl, rfl, rfl⟩⟩) ?_
    refine RQ.pv rfl (PV.pickA rfl rfl (fun hq => gs_t (geqT hq)) rfl) ?_
    refine RQ.nil ?_
    refine WP.cond rfl (fun h5 => ?_) (fun h5 => ?_)
    · have hg : gd (nums (clsL l)) i = (numR (clsL l) i : Int) := by
        rw [nums, gd_map _ (by rw [List.length_range, clsL_len]; omega)]
        simp [gd, clsL_len, ← hcl, h4]
      rw [findL_at (i := i) (by omega) (by rw [hat]; exact h5), ← hg] at k
      refine WP.seq ?_
      refine WP.region ?_
      refine RG.pv rfl (PV.move (v := w) rfl rfl) ?_
      refine RG.pv rfl (PV.mvI (.inl rfl) rfl) ?_
      refine RG.pv rfl (PV.idxS (v := w) rfl Is35 rfl (SlF.r h2) rfl rfl (by omega)) ?_
      refine RG.pv rfl (PV.loadE1 rfl Sc2 rfl rfl (El.r h2 (getG (by omega))) rfl) ?_
      refine RG.pv rfl (PV.mvI (.inr rfl) rfl) ?_
      refine RG.nil ?_
      refine WP.ret ?_
      exact ⟨_, _, ResV.one rfl rfl, Cv.p, k⟩
    · refine WP.skip ?_
      refine WP.region ?_
      refine RG.pv rfl (PV.mvI (.inl rfl) rfl) ?_
      refine RG.pv rfl (PV.add rfl rfl rfl (by omega)) ?_
      refine RG.pv rfl (PV.mvI (.inr rfl) rfl) ?_
      refine RG.nil ?_
      exact ⟨rfl, i + 1, ⟨by omega, col_next hn (by rw [hat]; exact h5)⟩, ⟨rfl, trivial⟩, ⟨rfl, rfl, rfl, rfl, trivial⟩, Cv.p, by omega⟩
  · have h3 := of_decide_eq_false h3
    rw [findL_none (fun j hj => hn j (by omega))] at k
    refine WP.exit ?_
    refine WP.seq ?_
    refine WP.region ?_
    refine RG.pv rfl (PV.mvI (.inr rfl) rfl) ?_
    refine RG.nil ?_
    refine WP.ret ?_
    exact ⟨_, _, ResV.one rfl rfl, Cv.p, k⟩
theorem netAt_r {v : Value} {xs : List (Sl Rect)} {n : Int} {q : Pt} (h1 : Rs G L slT v xs) (hd : RsE G L rectT xs) (k : R (vi (atN (er xs) n q.x q.y)) G L) : CallT Tryz.prog 51 #[v, vi n, vpt q] G L R := by
  have hcl : (clsL (er xs)).length ≤ 25600 := by rw [clsL_len]; exact pcL_len (er xs) 4
  have hcn : cntR (clsL (er xs)) (clsL (er xs)).length = netN (er xs) := by rw [clsL_len]; rfl
  refine CallT.enter (args := _) Tryz.func51 rfl rfl (by kernel_rfl) rfl ?_
  refine WP.seq ?_
  refine WP.region ?_
  refine RG.ot rfl (OT.box (cs := ptT.enc q) rfl rfl rfl fun b5 => ?_)
  refine RG.pv rfl (PV.mvI (.inr rfl) rfl) ?_
  refine RG.nil ?_
  refine WP.seq ?_
  refine WP.seq ?_
  refine WP.region ?_
  refine RG.pv rfl (PV.move (v := v) rfl rfl) ?_
  refine RG.callF (vs := [v]) rfl rfl En57 rfl (l19Layout_s (Rs.up h1) hd.up ?_)
  refine RG.pv rfl (PV.not rfl rfl) ?_
  refine RG.nil ?_
  refine WP.cond rfl (fun h2 => ?_) (fun h2 => ?_)
  · have h3 : isLay (er xs) = false := by simpa using h2
    have e : netE (er xs) = 1 := by rw [netE, h3]; rfl
    rw [atN, e, if_neg (by omega)] at k
    refine WP.seq ?_
    refine WP.region ?_
    refine RG.pv rfl (PV.mvI (.inr rfl) rfl) ?_
    refine RG.nil ?_
    refine WP.ret ?_
    exact ⟨_, _, ResV.one rfl rfl, Cv.p, k⟩
  · have h3 : isLay (er xs) = true := by simpa using h2
    refine WP.skip ?_
    refine WP.seq ?_
    refine WP.region ?_
    refine RG.pv rfl (PV.move (v := v) rfl rfl) ?_
    refine RG.callF (vs := [v]) rfl rfl En59 rfl (l23Parts_s (Rs.up h1) hd.up h3 (fun v14 csv14 hev14 => ?_))
    refine RG.pv rfl (PV.asg (v := v14) rfl rfl) ?_
    refine RG.nil ?_
    refine WP.seq ?_
    refine WP.region ?_
    refine RG.pv rfl (PV.move (v := v14) rfl rfl) ?_
    refine RG.pv rfl (PV.move (v := v) rfl rfl) ?_
    refine RG.callF (vs := [v14, v]) rfl rfl En61 rfl (l23Roots_s Rs.o RsE.o (Rs.up h1) hd.up h3 hev14 (fun v18 => ?_))
    refine RG.callF (vs := [v18]) rfl rfl En60 rfl (l23Numbers_s Rs.o (clsL_rt _) hcl (fun w19 => ?_))
    refine RG.pv rfl (PV.move (v := .tuple _) rfl rfl) ?_
    refine RG.pv rfl (PV.ext (v := w19) rfl rfl rfl) ?_
    refine RG.pv rfl (PV.ext rfl rfl rfl) ?_
    refine RG.pv rfl (PV.asg (v := w19) rfl rfl) ?_
    refine RG.pv rfl (PV.mvI (.inr rfl) rfl) ?_
    refine RG.nil ?_
    refine WP.seq ?_
    refine WP.seq ?_
    refine WP.region ?_
    refine RG.pv rfl (PV.mvI (.inl rfl) rfl) ?_
    refine RG.pv rfl (PV.gtr rfl rfl rfl) ?_
    refine RG.nil ?_
    refine WP.cond rfl (fun h4 => ?_) (fun h4 => ?_)
    · have h4 := of_decide_eq_true h4
      have e : netE (er xs) = 3 := by rw [netE, h3, cond_true, if_pos (by omega)]
      rw [atN, e, if_neg (by omega)] at k
      refine WP.seq ?_
      refine WP.region ?_
      refine RG.pv rfl (PV.mvI (.inr rfl) rfl) ?_
      refine RG.nil ?_
      refine WP.ret ?_
      exact ⟨_, _, ResV.one rfl rfl, Cv.p, k⟩
    · have h4 := of_decide_eq_false h4
      have e : netE (er xs) = 0 := by rw [netE, h3, cond_true, if_neg (by omega)]
      rw [atN, if_pos e] at k
      refine WP.skip ?_
      refine WP.seq ?_
      refine WP.region ?_
      refine RG.pv rfl (PV.move (v := v14) rfl rfl) ?_
      refine RG.pv rfl (PV.move (v := w19) rfl rfl) ?_
      refine RG.pv rfl (PV.mvI (.inl rfl) rfl) ?_
      refine RG.pv rfl (PV.loadW rfl Ag29 rfl rfl) ?_
      refine RG.callF (vs := [v14, w19, _, _]) rfl rfl En62 rfl (l23Find_s Rs.o RsE.o Rs.o hev14 ?_)
      refine RG.pv rfl (PV.mvI (.inr rfl) rfl) ?_
      refine RG.nil ?_
      refine WP.ret ?_
      exact ⟨_, _, ResV.one rfl rfl, Cv.p, k⟩
/-! ## the law -/
theorem toPoint_s {p : Pt} (k : R (vpt p) G L) : CallT Tryz.prog 14 #[vpt p] G L R := by
  refine CallT.enter (args := _) Tryz.func14 rfl rfl (by kernel_rfl) rfl ?_
  refine WP.seq ?_
  refine WP.region ?_
  refine RG.ot rfl (OT.box (cs := ptT.enc p) rfl rfl rfl fun b1 => ?_)
  refine RG.ot rfl (OT.alloc rfl Zr29 fun b2 => ?_)
  refine RG.nil ?_
  refine WP.seq ?_
  refine WP.region ?_
  refine RG.ot rfl (OT.alloc rfl Zr29 fun b3 => ?_)
  refine RG.nil ?_
  refine WP.seq ?_
  refine WP.region ?_
  refine RG.pv rfl (PV.field rfl Fo24_0 rfl) ?_
  refine RG.pv rfl (PV.load1 rfl Sc2 rfl (Rd.blk rfl)) ?_
  refine RG.pv rfl (PV.field rfl Fo29_0 rfl) ?_
  refine RG.ot rfl (OT.storeB (vs := [vi _]) (cs' := [_, _]) rfl Sz2 rfl rfl (Cl.c rfl) rfl (OneC.c rfl) rfl rfl ?_)
  refine RG.nil ?_
  refine WP.seq ?_
  refine WP.region ?_
  refine RG.pv rfl (PV.field rfl Fo24_1 rfl) ?_
  refine RG.pv rfl (PV.load1 rfl Sc2 rfl (Rd.blk rfl)) ?_
  refine RG.pv rfl (PV.field rfl Fo29_1 rfl) ?_
  refine RG.ot rfl (OT.storeB (vs := [vi _]) (cs' := [_, _]) rfl Sz2 rfl rfl (Cl.c rfl) rfl (OneC.c rfl) rfl rfl ?_)
  refine RG.nil ?_
  refine WP.seq ?_
  refine WP.region ?_
  refine RG.pv rfl (PV.loadW rfl Ag29 rfl rfl) ?_
  refine RG.ot rfl (OT.storeW (vs := [vi _, vi _]) rfl Sz29 rfl rfl (Cl.c rfl) rfl rfl (OneC.c rfl) ?_)
  refine RG.nil ?_
  refine WP.ret ?_
  exact ⟨_, _, ResV.one rfl (RV1.cell rfl Ag29 rfl), Cv.p, k⟩
end Go.Proofs.YthjaopefoiploaaGreat
