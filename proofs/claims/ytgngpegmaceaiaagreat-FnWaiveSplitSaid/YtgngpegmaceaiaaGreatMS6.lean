/-
  The law FnWaiveSplit: whatever the code, the law returns true and the code reads as before.
-/
import Derived.Test.YtgngpegmaceaiaaGreatMS5
import Derived.ProofKit
import Derived.Deep.Slices
import Derived.Carry
import Derived.Test.YtgngpegmaceaiaaGreatRows
namespace Go.Proofs.YtgngpegmaceaiaaGreat
set_option linter.unusedVariables false
set_option linter.unusedSimpArgs false
open Go
set_option maxRecDepth 20000
set_option maxHeartbeats 2000000
set_option linter.unusedSimpArgs false
variable {G : Gh} {L : List Ch} {R : Value → Gh → List Ch → Prop}
theorem sameRects_x {v u : Value} {xs ys : List Rect} (h1 : Rs G L rectT v xs) (h2 : Rs G L rectT u ys) (k : R (.bool (decide (xs = ys))) G L) : CallT Tryz.prog 56 #[v, u] G L R := by
  refine CallT.bd h1 fun hb => ?_
  refine CallT.bd h2 fun hb' => ?_
  refine CallT.enter (args := _) Tryz.func56 rfl rfl (by kernel_rfl) rfl ?_
  refine WP.seq ?_
  refine WP.region ?_
  refine RG.pv rfl (PV.mvB (.inr rfl) rfl) ?_
  refine RG.nil ?_
  refine WP.seq ?_
  refine WP.seq ?_
  refine WP.region ?_
  refine RG.pv rfl (PV.move (v := v) rfl rfl) ?_
  refine RG.pv rfl (PV.len (v := v) rfl Tryz.underlying35 rfl (SlF.r h1)) ?_
  refine RG.pv rfl (PV.move (v := u) rfl rfl) ?_
  refine RG.pv rfl (PV.len (v := u) rfl Tryz.underlying35 rfl (SlF.r h2)) ?_
  refine RG.pv rfl (PV.neq rfl rfl rfl) ?_
  refine RG.nil ?_
  refine WP.cond rfl (fun h3 => ?_) (fun h3 => ?_)
  · have e : decide (xs = ys) = false := by
      rw [decide_eq_false_iff_not]; rintro rfl; simp at h3
    rw [e] at k
    refine WP.seq ?_
    refine WP.region ?_
    refine RG.pv rfl (PV.mvB (.inr rfl) rfl) ?_
    refine RG.nil ?_
    refine WP.ret ?_
    exact ⟨_, _, ResV.one rfl rfl, Cv.p, k⟩
  · have hl : xs.length = ys.length := by simp at h3; omega
    refine WP.skip ?_
    refine WP.seq ?_
    refine WP.seq ?_
    refine WP.region ?_
    refine RG.pv rfl (PV.mvI (.inr rfl) rfl) ?_
    refine RG.nil ?_
    refine WP.block ?_
    refine WP.loop1 [0, 1] (fun i => i ≤ xs.length ∧ ∀ j, j < i → xs[j]? = ys[j]?) (fun i => [(5, vi i)]) (fun i => L) (fun i => xs.length - i) 0 ⟨by omega, fun j h => by omega⟩ ⟨rfl, trivial⟩ Cv.p ?_
    rintro i τ ⟨hi, he⟩
    refine WP.seq ?_
    refine WP.seq ?_
    refine WP.region ?_
    refine RG.pv rfl (PV.mvI (.inl rfl) rfl) ?_
    refine RG.pv rfl (PV.move (v := v) rfl rfl) ?_
    refine RG.pv rfl (PV.len (v := v) rfl Tryz.underlying35 rfl (SlF.r h1)) ?_
    refine RG.pv rfl (PV.lss rfl rfl rfl) ?_
    refine RG.nil ?_
    refine WP.cond rfl (fun h4 => ?_) (fun h4 => ?_)
    · have h4 := of_decide_eq_true h4
      have h5 : i < xs.length := by omega
      refine WP.skip ?_
      refine WP.seq ?_
      refine WP.block ?_
      refine WP.seq ?_
      refine WP.regionQ (by kernel_rfl) (by kernel_rfl) ?_
      refine RQ.pv rfl (PV.move (v := v) rfl rfl) ?_
      refine RQ.pv rfl (PV.mvI (.inl rfl) rfl) ?_
      refine RQ.pv rfl (PV.idxS (v := v) rfl Is35 rfl (SlF.r h1) rfl rfl (by omega)) ?_
      refine RQ.pv rfl (PV.loadE rfl Ag101 rfl rfl (El.r h1 (getG (by omega)))) ?_
      refine RQ.pv rfl (PV.move (v := u) rfl rfl) ?_
      refine RQ.pv rfl (PV.mvI (.inl rfl) rfl) ?_
      refine RQ.pv rfl (PV.idxS (v := u) rfl Is35 rfl (SlF.r h2) rfl rfl (by omega)) ?_
      refine RQ.pv rfl (PV.loadE rfl Ag101 rfl rfl (El.r h2 (getG (by omega)))) ?_
      refine RQ.pv rfl (PV.neqT rfl Eq101 rfl rfl) ?_
      refine RQ.nil ?_
      refine WP.cond rfl (fun h6 => ?_) (fun h6 => ?_)
      · have e : decide (xs = ys) = false := by
          rw [decide_eq_false_iff_not]; rintro rfl; simp at h6
        rw [e] at k
        refine WP.seq ?_
        refine WP.region ?_
        refine RG.pv rfl (PV.mvB (.inr rfl) rfl) ?_
        refine RG.nil ?_
        refine WP.ret ?_
        exact ⟨_, _, ResV.one rfl rfl, Cv.p, k⟩
      · have e : gd xs i = gd ys i := by simpa using h6
        have he' : ∀ j, j < i + 1 → xs[j]? = ys[j]? := fun j h => by
          by_cases c : j = i
          · rw [c, getG h5, getG (show i < ys.length by omega), e]
          · exact he j (by omega)
        refine WP.skip ?_
        refine WP.region ?_
        refine RG.pv rfl (PV.mvI (.inl rfl) rfl) ?_
        refine RG.pv rfl (PV.add rfl rfl rfl (by omega)) ?_
        refine RG.pv rfl (PV.mvI (.inr rfl) rfl) ?_
        refine RG.nil ?_
        exact ⟨rfl, i + 1, ⟨by omega, he'⟩, ⟨rfl, trivial⟩, ⟨rfl, rfl, trivial⟩, Cv.p, by omega⟩
    · have h4 := of_decide_eq_false h4
      have e : decide (xs = ys) = true := by
        rw [decide_eq_true_iff]; exact pre_eq he hl (by omega)
      rw [e] at k
      refine WP.exit ?_
      refine WP.seq ?_
      refine WP.region ?_
      refine RG.pv rfl (PV.mvB (.inr rfl) rfl) ?_
      refine RG.nil ?_
      refine WP.ret ?_
      exact ⟨_, _, ResV.one rfl rfl, Cv.p, k⟩
def sameV (x y : Viol) : Bool := decide (x.rule = y.rule) && decide (x.marker.xs = y.marker.xs)
theorem gd_one {α : Type} [Inhabited α] (x : α) : gd [x] 0 = x := by simp [gd]
theorem sameReports_s {u v : Value} {x y : Viol} (h1 : Rs G L violT u [x]) (h2 : Rs G L violT v [y]) (m1 : Rs G L rectT x.marker.v x.marker.xs) (m2 : Rs G L rectT y.marker.v y.marker.xs) (k : R (.bool (sameV x y)) G L) : CallT Tryz.prog 47 #[u, v] G L R := by
  have hl1 : [x].length = 1 := rfl
  have hl2 : [y].length = 1 := rfl
  have q1 : Rs G L rectT (gd [x] 0).marker.v (gd [x] 0).marker.xs := by rw [gd_one]; exact m1
  have q2 : Rs G L rectT (gd [y] 0).marker.v (gd [y] 0).marker.xs := by rw [gd_one]; exact m2
  refine CallT.enter (args := _) Tryz.func47 rfl rfl (by kernel_rfl) rfl ?_
  refine WP.seq ?_
  refine WP.region ?_
  refine RG.pv rfl (PV.mvB (.inr rfl) rfl) ?_
  refine RG.nil ?_
  refine WP.seq ?_
  refine WP.seq ?_
  refine WP.region ?_
  refine RG.pv rfl (PV.move (v := u) rfl rfl) ?_
  refine RG.pv rfl (PV.len (v := u) rfl Tryz.underlying66 rfl (SlF.r h1)) ?_
  refine RG.pv rfl (PV.move (v := v) rfl rfl) ?_
  refine RG.pv rfl (PV.len (v := v) rfl Tryz.underlying66 rfl (SlF.r h2)) ?_
  refine RG.pv rfl (PV.neq rfl rfl rfl) ?_
  refine RG.nil ?_
  refine WP.cond rfl (fun h3 => ?_) (fun h3 => ?_)
  · simp at h3
  · refine WP.skip ?_
    refine WP.seq ?_
    refine WP.seq ?_
    refine WP.region ?_
    refine RG.pv rfl (PV.mvI (.inr rfl) rfl) ?_
    refine RG.nil ?_
    refine WP.block ?_
    refine WP.loop1 [0, 1] (fun (i : Nat) => i ≤ 1 ∧ (i = 1 → sameV x y = true)) (fun (i : Nat) => [(5, vi i)]) (fun (i : Nat) => L) (fun (i : Nat) => 1 - i) 0 ⟨by omega, fun h => by omega⟩ ⟨rfl, trivial⟩ Cv.p ?_
    rintro i τ ⟨hi, he⟩
    refine WP.seq ?_
    refine WP.seq ?_
    refine WP.region ?_
    refine RG.pv rfl (PV.mvI (.inl rfl) rfl) ?_
    refine RG.pv rfl (PV.move (v := u) rfl rfl) ?_
    refine RG.pv rfl (PV.len (v := u) rfl Tryz.underlying66 rfl (SlF.r h1)) ?_
    refine RG.pv rfl (PV.lss rfl rfl rfl) ?_
    refine RG.nil ?_
    refine WP.cond rfl (fun h4 => ?_) (fun h4 => ?_)
    · have h4 := of_decide_eq_true h4
      obtain rfl : i = 0 := by omega
      refine WP.skip ?_
      refine WP.seq ?_
      refine WP.block ?_
      refine WP.seq ?_
      refine WP.regionQ (by kernel_rfl) (by kernel_rfl) ?_
      refine RQ.pv rfl (PV.move (v := u) rfl rfl) ?_
      refine RQ.pv rfl (PV.mvI (.inl rfl) rfl) ?_
      refine RQ.pv rfl (PV.idxS (v := u) rfl Is66 rfl (SlF.r h1) rfl rfl (by omega)) ?_
      refine RQ.pv rfl (PV.field rfl Fo37_0 rfl) ?_
      refine RQ.pv rfl (PV.loadF rfl Sc2 rfl rfl (El.r h1 (getG (by omega))) rfl) ?_
      refine RQ.pv rfl (PV.move (v := v) rfl rfl) ?_
      refine RQ.pv rfl (PV.mvI (.inl rfl) rfl) ?_
      refine RQ.pv rfl (PV.idxS (v := v) rfl Is66 rfl (SlF.r h2) rfl rfl (by omega)) ?_
      refine RQ.pv rfl (PV.field rfl Fo37_0 rfl) ?_
      refine RQ.pv rfl (PV.loadF rfl Sc2 rfl rfl (El.r h2 (getG (by omega))) rfl) ?_
      refine RQ.pv rfl (PV.neq rfl rfl rfl) ?_
      refine RQ.pv rfl (PV.mvB (.inl rfl) rfl) ?_
      refine RQ.gs rfl rfl rfl (fun hp => (PV.move (v := u) rfl rfl)) ?_
      refine RQ.gs rfl rfl rfl (fun hp => (PV.mvI (.inl rfl) rfl)) ?_
      refine RQ.gs rfl rfl rfl (fun hp => (PV.idxS (v := u) rfl Is66 (gs_t hp) (SlF.r h1) (gs_t hp) rfl (by first | omega | (simp at hp; omega)))) ?_
      refine RQ.gs rfl rfl rfl (fun hp => (PV.field rfl Fo37_1 (gs_t hp))) ?_
      refine RQ.gs rfl rfl rfl (fun hp => (PV.loadF rfl Sc35 (gs_t hp) rfl (El.r h1 (getG (by first | omega | (simp at hp; omega)))) rfl)) ?_
      refine RQ.gs rfl rfl rfl (fun hp => (PV.move (v := v) rfl rfl)) ?_
      refine RQ.gs rfl rfl rfl (fun hp => (PV.mvI (.inl rfl) rfl)) ?_
      refine RQ.gs rfl rfl rfl (fun hp => (PV.idxS (v := v) rfl Is66 (gs_t hp) (SlF.r h2) (gs_t hp) rfl (by first | omega | (simp at hp; omega)))) ?_
      refine RQ.gs rfl rfl rfl (fun hp => (PV.field rfl Fo37_1 (gs_t hp))) ?_
      refine RQ.gs rfl rfl rfl (fun hp => (PV.loadF rfl Sc35 (gs_t hp) rfl (El.r h2 (getG (by first | omega | (simp at hp; omega)))) rfl)) ?_
      refine RQ.gsC rfl rfl rfl rfl En56 (fun hp => ⟨_, (acons (gs_t hp) (acons (gs_t hp) anil)), sameRects_x (Rs.up q1) (Rs.up q2) ⟨rfl, rfl, rfl⟩⟩) ?_
      refine RQ.gs rfl rfl rfl (fun hp => (PV.not rfl (gs_t hp))) ?_
      refine RQ.pv rfl (PV.pickO rfl rfl rfl (fun hq => gs_t (geqF hq))) ?_
      refine RQ.nil ?_
      refine WP.cond rfl (fun h5 => ?_) (fun h5 => ?_)
      · have e : sameV x y = false := by
          rw [gd_one, gd_one] at h5
          unfold sameV
          cases g1 : decide (x.rule = y.rule) <;> cases g2 : decide (x.marker.xs = y.marker.xs) <;> simp_all
        rw [e] at k
        refine WP.seq ?_
        refine WP.region ?_
        refine RG.pv rfl (PV.mvB (.inr rfl) rfl) ?_
        refine RG.nil ?_
        refine WP.ret ?_
        exact ⟨_, _, ResV.one rfl rfl, Cv.p, k⟩
      · have e : sameV x y = true := by
          rw [gd_one, gd_one] at h5
          unfold sameV
          cases g1 : decide (x.rule = y.rule) <;> cases g2 : decide (x.marker.xs = y.marker.xs) <;> simp_all
        refine WP.skip ?_
        refine WP.region ?_
        refine RG.pv rfl (PV.mvI (.inl rfl) rfl) ?_
        refine RG.pv rfl (PV.add rfl rfl rfl (by omega)) ?_
        refine RG.pv rfl (PV.mvI (.inr rfl) rfl) ?_
        refine RG.nil ?_
        exact ⟨rfl, 1, ⟨by omega, fun _ => e⟩, ⟨rfl, trivial⟩, ⟨rfl, rfl, trivial⟩, Cv.p, by omega⟩
    · have h4 := of_decide_eq_false h4
      rw [he (by omega)] at k
      refine WP.exit ?_
      refine WP.seq ?_
      refine WP.region ?_
      refine RG.pv rfl (PV.mvB (.inr rfl) rfl) ?_
      refine RG.nil ?_
      refine WP.ret ?_
      exact ⟨_, _, ResV.one rfl rfl, Cv.p, k⟩
theorem MkIn.read {zs : List Viol} {ys : List (Sl Rect)} {e : TypeId} {L L' : List Ch} [hX : ExBg ys L e rectT L'] (h : MkIn zs ys) : RsE G L rectT (mks zs) := fun i hi => by
  rw [mks_len] at hi
  rw [mks_gd hi]
  rcases h.gd hi with h1 | h1
  · obtain ⟨j, hj, e1⟩ := List.getElem_of_mem h1
    have := Rs.inBag (G := G) (L := L) (L' := L') (e := e) (F := rectT) (xs := ys) j hj
    rwa [gd_eq hj, e1] at this
  · rw [h1]
    exact fun w hs => ⟨⟨0, Nat.le_refl _, Nat.zero_le _, .inr ⟨⟨_, rfl⟩, rfl⟩⟩, fun j c hc => by simp [FT.flat] at hc⟩
theorem filt_at {α : Type} [Inhabited α] {p : α → Bool} {xs : List α} {i : Nat} (hi : i < xs.length) (hp : p (gd xs i) = true) : ((xs.take i).filter p).length < (xs.filter p).length ∧ gd (xs.filter p) ((xs.take i).filter p).length = gd xs i := by
  have e : xs.filter p = (xs.take i).filter p ++ (gd xs i :: (xs.drop (i + 1)).filter p) := by
    have e0 : xs.filter p = (xs.take i ++ xs.drop i).filter p := by rw [List.take_append_drop]
    rw [gd_eq hi] at hp ⊢
    rw [e0, List.drop_eq_getElem_cons hi, List.filter_append, List.filter_cons_of_pos hp]
  rw [e]
  refine ⟨by simp, ?_⟩
  have this : gd ((xs.take i).filter p ++ (gd xs i :: (xs.drop (i + 1)).filter p)) ((xs.take i).filter p).length = gd (gd xs i :: (xs.drop (i + 1)).filter p) 0 := gd_appr _ _ 0
  rw [this]; simp [gd]
theorem filt_two {α : Type} (p : α → Bool) : ∀ xs : List α, (xs.filter fun v => !p v).length + (xs.filter p).length = xs.length
  | [] => rfl
  | x :: xs => by
    have ih := filt_two p xs
    cases h : p x <;> simp [h] <;> omega
theorem kept_le {rs : List Rule} {zs ks : List Viol} {ws : List Waiver} (h : erVs ks = keptR rs (erVs zs) ws) : ks.length ≤ zs.length := by
  rw [← erVs_len ks, h, keptR, ← erVs_len zs]; split
  · exact List.length_filter_le _ _
  · simp
theorem waiv_le {rs : List Rule} {zs ks : List Viol} {ws : List Waiver} (h : erVs ks = waivR rs (erVs zs) ws) : ks.length ≤ zs.length := by
  rw [← erVs_len ks, h, waivR, ← erVs_len zs]; split
  · exact List.length_filter_le _ _
  · simp
theorem one_part {α : Type} [Inhabited α] {xs : List α} {a : Nat} (h : a < xs.length) : (xs.take (a + 1)).drop a = [gd xs a] := by
  rw [List.take_add_one, getG h, List.drop_append_of_le_length (by simp; omega)]
  simp
theorem sameV_iff {x y : Viol} : sameV x y = true ↔ erV x = erV y := by simp [sameV, erV, Prod.ext_iff]
theorem part_one {v : Value} {xs : List Viol} {a : Nat} (h : Rs G L violT v xs) (ha : a < xs.length) : Rs G L violT (slv 2 v a (a + 1)) [gd xs a] := by
  have h8 := Rs.slv (F := violT) h (lo := a) (hi := a + 1) (by omega) (by omega)
  rw [one_part ha] at h8; exact h8
theorem law_WaiveSplit {cv : Value} {bs : List UInt8} (hcode : SL G byteT cv bs) (k : R (.bool true) G L) : CallT Tryz.prog 7 #[cv] G L R := by
  refine CallT.enter (args := _) Tryz.func7 rfl rfl (by kernel_rfl) rfl ?_
  refine WP.seq ?_
  refine WP.region ?_
  refine RG.pv rfl (PV.mvB (.inr rfl) rfl) ?_
  refine RG.nil ?_
  refine WP.seq ?_
  refine WP.seq ?_
  refine WP.region ?_
  refine RG.pv rfl (PV.move (v := cv) rfl rfl) ?_
  refine RG.callF (vs := [cv]) rfl rfl En45 rfl (big_s hcode ?_)
  refine RG.nil ?_
  refine WP.cond rfl (fun h1 => ?_) (fun h1 => ?_)
  · refine WP.seq ?_
    refine WP.region ?_
    refine RG.pv rfl (PV.mvB (.inr rfl) rfl) ?_
    refine RG.nil ?_
    refine WP.ret ?_
    exact ⟨_, _, ResV.one rfl rfl, Cv.p, k⟩
  · skip
    refine WP.skip ?_
    refine WP.seq ?_
    refine WP.region ?_
    refine RG.pv rfl (PV.move (v := cv) rfl rfl) ?_
    refine RG.callF (vs := [cv]) rfl rfl En46 rfl (drawApply_w hcode (fun x20 rs20 w20 zs ys u20 ws hzl hmk hok => ?_))
    refine RG.pv rfl (PV.move (v := .tuple _) rfl rfl) ?_
    refine RG.pv rfl (PV.ext rfl rfl rfl) ?_
    refine RG.pv rfl (PV.ext (v := w20) rfl rfl rfl) ?_
    refine RG.pv rfl (PV.ext (v := u20) rfl rfl rfl) ?_
    refine RG.ot rfl (OT.alloc rfl Zr33 fun b3 => ?_)
    refine RG.ot rfl (OT.storeW (vs := [_]) rfl Sz33 rfl rfl (Cl.c rfl) rfl rfl (OneC.sl (SlF.o (v := x20)) OneC.nil) ?_)
    refine RG.pv rfl (PV.asg (v := w20) rfl rfl) ?_
    refine RG.pv rfl (PV.asg (v := u20) rfl rfl) ?_
    refine RG.nil ?_
    refine WP.seq ?_
    refine WP.region ?_
    refine RG.pv rfl (PV.loadW rfl Ag33 rfl rfl) ?_
    refine RG.pv rfl (PV.move (v := w20) rfl rfl) ?_
    refine RG.pv rfl (PV.move (v := u20) rfl rfl) ?_
    refine RG.callF (vs := [_, w20, u20]) rfl rfl En42 rfl (apply_r (d := ⟨⟨x20, rs20⟩⟩) Rs.o Rs.o (MkIn.read (e := 101) hmk) Rs.o (fun i hi => Nat.le_trans (hok _ (gd_mem hi)) (by decide)) (fun k28 u28 ks0 us0 hks0 hus0 => ?_))
    refine RG.pv rfl (PV.move (v := .tuple _) rfl rfl) ?_
    refine RG.pv rfl (PV.ext rfl rfl rfl) ?_
    refine RG.pv rfl (PV.ext rfl rfl rfl) ?_
    refine RG.pv rfl (PV.ext rfl rfl rfl) ?_
    refine RG.pv rfl (PV.asg rfl rfl) ?_
    refine RG.pv rfl (PV.asg rfl rfl) ?_
    refine RG.pv rfl (PV.mvI (.inr rfl) rfl) ?_
    refine RG.nil ?_
    refine WP.seq ?_
    refine WP.seq ?_
    refine WP.region ?_
    refine RG.pv rfl (PV.mvI (.inl rfl) rfl) ?_
    refine RG.pv rfl (PV.neq rfl rfl rfl) ?_
    refine RG.nil ?_
    refine WP.cond rfl (fun h2 => ?_) (fun h2 => ?_)
    · refine WP.seq ?_
      refine WP.region ?_
      refine RG.pv rfl (PV.mvB (.inr rfl) rfl) ?_
      refine RG.nil ?_
      refine WP.ret ?_
      exact ⟨_, _, ResV.one rfl rfl, Cv.p, k⟩
    · have hz : wCode rs20 (erVs zs) ws = 0 := by simpa using h2
      refine WP.skip ?_
      refine WP.seq ?_
      refine WP.region ?_
      refine RG.pv rfl (PV.loadW rfl Ag33 rfl rfl) ?_
      refine RG.pv rfl (PV.move (v := w20) rfl rfl) ?_
      refine RG.pv rfl (PV.move (v := u20) rfl rfl) ?_
      refine RG.callF (vs := [_, w20, u20]) rfl rfl En43 rfl (apply_i (d := ⟨⟨x20, rs20⟩⟩) Rs.o Rs.o (MkIn.read (e := 101) hmk) Rs.o (fun i hi => Nat.le_trans (hok _ (gd_mem hi)) (by decide)) (fun k38 u38 ks us hks hus => have hkl := kept_le hks; have hul := waiv_le hus; ?_))
      refine RG.pv rfl (PV.move (v := .tuple _) rfl rfl) ?_
      refine RG.pv rfl (PV.ext (v := k38) rfl rfl rfl) ?_
      refine RG.pv rfl (PV.ext (v := u38) rfl rfl rfl) ?_
      refine RG.pv rfl (PV.ext rfl rfl rfl) ?_
      refine RG.pv rfl (PV.asg (v := k38) rfl rfl) ?_
      refine RG.pv rfl (PV.asg (v := u38) rfl rfl) ?_
      refine RG.pv rfl (PV.mvI (.inr rfl) rfl) ?_
      refine RG.nil ?_
      refine WP.seq ?_
      refine WP.seq ?_
      refine WP.region ?_
      refine RG.pv rfl (PV.mvI (.inl rfl) rfl) ?_
      refine RG.pv rfl (PV.neq rfl rfl rfl) ?_
      refine RG.pv rfl (PV.mvB (.inl rfl) rfl) ?_
      refine RG.gs rfl rfl rfl (fun hp => (PV.move (v := k38) rfl rfl)) ?_
      refine RG.gs rfl rfl rfl (fun hp => (PV.len (v := k38) rfl Tryz.underlying66 (gs_t hp) SlF.o)) ?_
      refine RG.gs rfl rfl rfl (fun hp => (PV.move (v := u38) rfl rfl)) ?_
      refine RG.gs rfl rfl rfl (fun hp => (PV.len (v := u38) rfl Tryz.underlying66 (gs_t hp) SlF.o)) ?_
      refine RG.gs rfl rfl rfl (fun hp => (PV.add rfl (gs_t hp) (gs_t hp) (by first | omega | (simp at hp; omega)))) ?_
      refine RG.gs rfl rfl rfl (fun hp => (PV.move (v := w20) rfl rfl)) ?_
      refine RG.gs rfl rfl rfl (fun hp => (PV.len (v := w20) rfl Tryz.underlying66 (gs_t hp) SlF.o)) ?_
      refine RG.gs rfl rfl rfl (fun hp => (PV.neq rfl (gs_t hp) (gs_t hp))) ?_
      refine RG.pv rfl (PV.pickO rfl rfl rfl (fun hq => gs_t (geqF hq))) ?_
      refine RG.nil ?_
      have hk1 : erVs ks = (erVs zs).filter (fun v => !isWv rs20 ws v) := by rw [hks, keptR, if_pos hz]
      have hu1 : erVs us = (erVs zs).filter (isWv rs20 ws) := by rw [hus, waivR, if_pos hz]
      have hsum : ks.length + us.length = zs.length := by
        have := filt_two (isWv rs20 ws) (erVs zs)
        rw [← hk1, ← hu1, erVs_len, erVs_len, erVs_len] at this; exact this
      refine WP.cond rfl (fun h3 => ?_) (fun h3 => ?_)
      · exfalso
        rw [hz] at h3; simp at h3; omega
      · refine WP.skip ?_
        refine WP.seq ?_
        refine WP.region ?_
        refine RG.pv rfl (PV.mvI (.inr rfl) rfl) ?_
        refine RG.pv rfl (PV.mvI (.inr rfl) rfl) ?_
        refine RG.nil ?_
        refine WP.seq ?_
        refine WP.seq ?_
        refine WP.region ?_
        refine RG.pv rfl (PV.mvI (.inr rfl) rfl) ?_
        refine RG.nil ?_
        refine WP.block ?_
        refine WP.loop3 [4, 9, 10] (fun (i a c : Nat) => i ≤ zs.length ∧ a = (((erVs zs).take i).filter (fun v => !isWv rs20 ws v)).length ∧ c = (((erVs zs).take i).filter (isWv rs20 ws)).length) (fun (i a c : Nat) => [(14, vi i), (12, vi a), (13, vi c)]) (fun (i a c : Nat) => osl 37 violT k38 ks :: bagS 101 rectT (mks ks) :: osl 37 violT u38 us :: bagS 101 rectT (mks us) :: osl 37 violT w20 zs :: bagS 101 rectT ys :: L) (fun (i a c : Nat) => zs.length - i) 0 0 0 ⟨by omega, by simp, by simp⟩ ⟨rfl, rfl, rfl, trivial⟩ Cv.p ?_
        rintro i a c τ ⟨hi, ha, hc⟩
        refine WP.seq ?_
        refine WP.seq ?_
        refine WP.region ?_
        refine RG.pv rfl (PV.mvI (.inl rfl) rfl) ?_
        refine RG.pv rfl (PV.move (v := w20) rfl rfl) ?_
        refine RG.pv rfl (PV.len (v := w20) rfl Tryz.underlying66 rfl SlF.o) ?_
        refine RG.pv rfl (PV.lss rfl rfl rfl) ?_
        refine RG.nil ?_
        have hal : a ≤ zs.length := by rw [ha, ← erVs_len zs]; exact Nat.le_trans (List.length_filter_le _ _) (by rw [List.length_take]; omega)
        have hcl : c ≤ zs.length := by rw [hc, ← erVs_len zs]; exact Nat.le_trans (List.length_filter_le _ _) (by rw [List.length_take]; omega)
        refine WP.cond rfl (fun h4 => ?_) (fun h4 => ?_)
        · have h4 := of_decide_eq_true h4
          have hil : i < zs.length := by omega
          have hile : i < (erVs zs).length := by rw [erVs_len]; exact hil
          have hei := erVs_gd hil
          have hA : isWv rs20 ws (erV (gd zs i)) = false → a < ks.length ∧ sameV (gd zs i) (gd ks a) = true := fun hq => by
            have := filt_at (p := (fun v => !isWv rs20 ws v)) hile (by rw [hei, hq]; rfl)
            rw [← ha, ← hk1, erVs_len, hei] at this
            exact ⟨this.1, sameV_iff.2 (by rw [← this.2, erVs_gd this.1])⟩
          have hB : isWv rs20 ws (erV (gd zs i)) = true → c < us.length ∧ sameV (gd zs i) (gd us c) = true := fun hq => by
            have := filt_at (p := isWv rs20 ws) hile (by rw [hei]; exact hq)
            rw [← hc, ← hu1, erVs_len, hei] at this
            exact ⟨this.1, sameV_iff.2 (by rw [← this.2, erVs_gd this.1])⟩
          have hC : a < ks.length → sameV (gd zs i) (gd ks a) = true → isWv rs20 ws (erV (gd zs i)) = false := fun g1 g2 => by
            have h9 : gd (erVs ks) a ∈ erVs ks := gd_mem (by rw [erVs_len]; exact g1)
            rw [hk1, ← hk1, erVs_gd g1, ← sameV_iff.1 g2] at h9
            rw [hk1] at h9
            simpa using (List.mem_filter.1 h9).2
          have e1 := filt_succ (fun v => !isWv rs20 ws v) hile
          have e2 := filt_succ (isWv rs20 ws) hile
          rw [hei] at e1 e2
          refine WP.skip ?_
          refine WP.seq ?_
          refine WP.block ?_
          refine WP.seq ?_
          refine WP.region ?_
          refine RG.pv rfl (PV.move (v := w20) rfl rfl) ?_
          refine RG.pv rfl (PV.mvI (.inl rfl) rfl) ?_
          refine RG.pv rfl (PV.idxS (v := w20) rfl Is66 rfl SlF.o rfl rfl (by omega)) ?_
          refine RG.pv rfl (PV.loadE rfl Ag37 rfl rfl (El.o (getG (by omega)))) ?_
          refine RG.ot rfl (OT.bslice (F := violT) (els := [(gd zs i)]) rfl El66 rfl (by decide) rfl (by decide) ⟨rfl, (Cl.c rfl), trivial⟩ fun v64 => ?_)
          refine RG.pv rfl (PV.asg (v := v64) rfl rfl) ?_
          refine RG.nil ?_
          refine WP.block ?_
          refine WP.seq ?_
          refine WP.region ?_
          refine RG.pv rfl (PV.mvI (.inl rfl) rfl) ?_
          refine RG.pv rfl (PV.move (v := k38) rfl rfl) ?_
          refine RG.pv rfl (PV.len (v := k38) rfl Tryz.underlying66 rfl SlF.o) ?_
          refine RG.pv rfl (PV.lss rfl rfl rfl) ?_
          refine RG.pv rfl (PV.mvB (.inl rfl) rfl) ?_
          refine RG.gs rfl rfl rfl (fun hp => (PV.move (v := v64) rfl rfl)) ?_
          refine RG.gs rfl rfl rfl (fun hp => (PV.move (v := k38) rfl rfl)) ?_
          refine RG.gs rfl rfl rfl (fun hp => (PV.mvI (.inl rfl) rfl)) ?_
          refine RG.gs rfl rfl rfl (fun hp => (PV.mvI (.inl rfl) rfl)) ?_
          refine RG.gs rfl rfl rfl (fun hp => (PV.add rfl (gs_t hp) rfl (by first | omega | (simp at hp; omega)))) ?_
          refine RG.gs rfl rfl rfl (fun hp => (PV.slc (l := a) (h := a + 1) (v := k38) rfl Is66 (gs_t hp) SlF.o (optAt.s (gs_t hp) (by first | omega | (simp at hp; omega))) (optAt.s (gs_t hp) (by first | omega | (simp at hp; omega))) (by first | omega | (simp at hp; omega)) (by first | omega | (simp at hp; omega)))) ?_
          refine RG.gsC rfl rfl rfl rfl En47 (fun hp => ⟨_, (acons (gs_t hp) (acons (gs_t hp) anil)), sameReports_s (x := gd zs i) (y := gd ks a) Rs.o (part_one Rs.o (by (simp at hp; omega))) (RsE.marker (MkIn.read (e := 101) hmk) (by omega)) (RsE.marker (RsE.o (xs := mks ks)) (by (simp at hp; omega))) ⟨rfl, rfl, rfl⟩⟩) ?_
          refine RG.pv rfl (PV.pickA rfl rfl (fun hq => gs_t (geqT hq)) rfl) ?_
          refine RG.pv rfl (PV.mvB (.inr rfl) rfl) ?_
          refine RG.nil ?_
          refine WP.cond rfl (fun h5 => ?_) (fun h5 => ?_)
          · simp only [Bool.and_eq_true, decide_eq_true_eq] at h5
            have hq := hC (by omega) h5.2
            rw [hq] at e1 e2
            refine WP.region ?_
            refine RG.pv rfl (PV.mvI (.inl rfl) rfl) ?_
            refine RG.pv rfl (PV.add rfl rfl rfl (by omega)) ?_
            refine RG.pv rfl (PV.mvI (.inr rfl) rfl) ?_
            refine RG.nil ?_
            refine WP.region ?_
            refine RG.pv rfl (PV.mvI (.inl rfl) rfl) ?_
            refine RG.pv rfl (PV.add rfl rfl rfl (by omega)) ?_
            refine RG.pv rfl (PV.mvI (.inr rfl) rfl) ?_
            refine RG.nil ?_
            exact ⟨rfl, i + 1, a + 1, c, ⟨by omega, by rw [e1, ha]; simp, by rw [e2, hc]; simp⟩, ⟨rfl, rfl, rfl, trivial⟩, ⟨rfl, rfl, rfl, trivial⟩, Cv.p, by omega⟩
          · have hq : isWv rs20 ws (erV (gd zs i)) = true := by
              cases hq : isWv rs20 ws (erV (gd zs i)) with
              | true => rfl
              | false => have := hA hq; rw [this.2] at h5; simp at h5; omega
            rw [hq] at e1 e2
            have hb := hB hq
            refine WP.seq ?_
            refine WP.region ?_
            refine RG.pv rfl (PV.mvI (.inl rfl) rfl) ?_
            refine RG.pv rfl (PV.move (v := u38) rfl rfl) ?_
            refine RG.pv rfl (PV.len (v := u38) rfl Tryz.underlying66 rfl SlF.o) ?_
            refine RG.pv rfl (PV.lss rfl rfl rfl) ?_
            refine RG.pv rfl (PV.mvB (.inl rfl) rfl) ?_
            refine RG.gs rfl rfl rfl (fun hp => (PV.move (v := v64) rfl rfl)) ?_
            refine RG.gs rfl rfl rfl (fun hp => (PV.move (v := u38) rfl rfl)) ?_
            refine RG.gs rfl rfl rfl (fun hp => (PV.mvI (.inl rfl) rfl)) ?_
            refine RG.gs rfl rfl rfl (fun hp => (PV.mvI (.inl rfl) rfl)) ?_
            refine RG.gs rfl rfl rfl (fun hp => (PV.add rfl (gs_t hp) rfl (by first | omega | (simp at hp; omega)))) ?_
            refine RG.gs rfl rfl rfl (fun hp => (PV.slc (l := c) (h := c + 1) (v := u38) rfl Is66 (gs_t hp) SlF.o (optAt.s (gs_t hp) (by first | omega | (simp at hp; omega))) (optAt.s (gs_t hp) (by first | omega | (simp at hp; omega))) (by first | omega | (simp at hp; omega)) (by first | omega | (simp at hp; omega)))) ?_
            refine RG.gsC rfl rfl rfl rfl En47 (fun hp => ⟨_, (acons (gs_t hp) (acons (gs_t hp) anil)), sameReports_s (x := gd zs i) (y := gd us c) Rs.o (part_one Rs.o (by (simp at hp; omega))) (RsE.marker (MkIn.read (e := 101) hmk) (by omega)) (RsE.marker (RsE.o (xs := mks us)) (by (simp at hp; omega))) ⟨rfl, rfl, rfl⟩⟩) ?_
            refine RG.pv rfl (PV.pickA rfl rfl (fun hq => gs_t (geqT hq)) rfl) ?_
            refine RG.pv rfl (PV.mvB (.inr rfl) rfl) ?_
            refine RG.nil ?_
            refine WP.cond rfl (fun h6 => ?_) (fun h6 => ?_)
            · refine WP.region ?_
              refine RG.pv rfl (PV.mvI (.inl rfl) rfl) ?_
              refine RG.pv rfl (PV.add rfl rfl rfl (by omega)) ?_
              refine RG.pv rfl (PV.mvI (.inr rfl) rfl) ?_
              refine RG.nil ?_
              refine WP.region ?_
              refine RG.pv rfl (PV.mvI (.inl rfl) rfl) ?_
              refine RG.pv rfl (PV.add rfl rfl rfl (by omega)) ?_
              refine RG.pv rfl (PV.mvI (.inr rfl) rfl) ?_
              refine RG.nil ?_
              exact ⟨rfl, i + 1, a, c + 1, ⟨by omega, by rw [e1, ha]; simp, by rw [e2, hc]; simp⟩, ⟨rfl, rfl, rfl, trivial⟩, ⟨rfl, rfl, rfl, trivial⟩, Cv.p, by omega⟩
            · skip
              exfalso
              rw [hb.2] at h6; simp at h6; omega
        · refine WP.exit ?_
          refine WP.seq ?_
          refine WP.region ?_
          refine RG.pv rfl (PV.mvB (.inr rfl) rfl) ?_
          refine RG.nil ?_
          refine WP.ret ?_
          exact ⟨_, _, ResV.one rfl rfl, Cv.p, k⟩
end Go.Proofs.YtgngpegmaceaiaaGreat
namespace Go.Proofs.YtgngpegmaceaiaaGreat
set_option linter.unusedVariables false
set_option linter.unusedSimpArgs false
open Go Go.ChangeShapes Go.WideShapes Go.ChangeAt Go.RowKit Go.Deep
set_option linter.unusedVariables false
def Gw (w : World) : Gh := ⟨wh w, w.os, w.tape, w.output⟩
theorem St.start (w : World) : St (Gw w) [] w := ⟨fun _ => none, trivial, Hp.le_refl _, (fun _ _ h => by cases h), fun _ => .inl rfl, rfl, rfl, rfl⟩
/-- behind a call that began in W, all of W's blocks are as they were -/
theorem St.below {W w' : World} {G : Gh} {L : List Ch} (l : Gh.le (Gw W) G) (h : St G L w') : Below W.heap.size W w' := by
  obtain ⟨hp, s, l1, l2, d, ok⟩ := h
  have ok' := Gh.le_ok l ok
  have up := Hp.le_trans l.1 l1
  have key : ∀ k, k < W.heap.size → w'.heap[k]? = W.heap[k]? := fun k hk => by
    have : (Gw W).f k = some W.heap[k] := by simp [Gw, wh, hk]
    have h2 := up k _ this
    simp only [wh] at h2
    rw [h2]; simp [hk]
  refine ⟨ok'.1, ok'.2.1, ok'.2.2, ?_, key⟩
  by_cases h0 : W.heap.size = 0
  · omega
  · have := key (W.heap.size - 1) (by omega)
    rw [Array.getElem?_eq_getElem (by omega : W.heap.size - 1 < W.heap.size)] at this
    have := (Array.getElem?_eq_some_iff.1 this).1
    omega
def Opn {ρ : Type} (P : Program) (t : TypeId) (F : FT ρ) (ok : Gh → ρ → Prop) : Prop :=
  ∀ {H : Type} {enc : TypeId × Value → H} {w : World} {fuel : Nat} {cs : List Value} {x : DataW H × List MemPlace}, DataW.trod enc P w 0 (fun _ => true) true fuel t cs = some x → ∃ a : ρ, cs = F.enc a ∧ ok (Gw w) a
def okL {ρ : Type} [Inhabited ρ] (F : FT ρ) (ok : Gh → ρ → Prop) (G : Gh) (v : Value) : Prop := ∃ xs : List ρ, SL G F v xs ∧ ∀ i, i < xs.length → ok G (gd xs i)
section
variable {P : Program} {t e : TypeId}
theorem cells_get {w : World} {a : Addr} {n : Nat} {cs : List Value} (h : w.cells? 0 a n = some cs) : cs.length = n ∧ ∀ j c, cs[j]? = some c → w.cell? (a.add j) = some c := by
  obtain ⟨_, h1, h2⟩ := World.cells?_some h
  refine ⟨h1, fun j c hc => ?_⟩
  have hj := (List.getElem?_eq_some_iff.1 hc).1
  rw [h2 j (by omega), hc]
theorem opnL {ρ : Type} [Inhabited ρ] {F : FT ρ} {ok : Gh → ρ → Prop} (ht : P.underlying t = some (.slice e)) (hE : Opn P e F ok) (hc : P.cellsOf e = F.sz) (h0 : 0 < F.sz) : Opn P t rawT (okL F ok) := fun {H enc w fuel cs x} h => by
  rcases open_slice ht h with ⟨rfl, _⟩ | ⟨a, len, cap, m, n, D, Pl, rfl, _, hl, hm, hmm, _, hel⟩
  · exact ⟨_, rfl, [], ⟨⟨0, Nat.le_refl _, Nat.zero_le _, .inr ⟨⟨_, rfl⟩, rfl⟩⟩, fun j c hj => by simp [FT.flat] at hj⟩, fun i hi => by simp at hi⟩
  have hmcap : m = cap := by simpa using hmm
  refine ⟨.slice (some a) len cap, rfl, ?_⟩
  have hall : ∀ i, i < len → ∃ r : ρ, w.cells? 0 (a.add (i * F.sz)) F.sz = some (F.enc r) ∧ ok (Gw w) r := fun i hi => by
    obtain ⟨cs', h1, h2⟩ := hel i (by omega)
    obtain ⟨r, rfl, hr⟩ := hE h2
    rw [hc] at h1
    exact ⟨r, h1, hr⟩
  have : ∃ f : Nat → ρ, ∀ i, i < len → w.cells? 0 (a.add (i * F.sz)) F.sz = some (F.enc (f i)) ∧ ok (Gw w) (f i) := choose_lt hall
  obtain ⟨f, hf⟩ := this
  have hlen : ((List.range len).map f).length = len := by simp
  have hget : ∀ i, i < len → ((List.range len).map f)[i]? = some (f i) := fun i hi => by simp [hi]
  have hsp : len ≠ 0 → a.spot = none := fun hz => by
    obtain ⟨h1, _⟩ := hf 0 (by omega)
    obtain ⟨hl1, hg⟩ := cells_get h1
    cases hq : (F.enc (f 0))[0]? with
    | none => rw [List.getElem?_eq_none_iff] at hq; omega
    | some c =>
      have hcell := hg 0 c hq
      cases hs : a.spot with
      | none => rfl
      | some s =>
        exfalso
        have h3 : ((a.add (0 * F.sz)).add 0).spot.isSome = true := by simp [Addr.add, hs]
        unfold World.cell? at hcell
        split at hcell
        · rw [if_pos h3] at hcell; cases hcell
        · cases hcell
  refine ⟨(List.range len).map f, ⟨⟨cap, by simpa using hl, hm, ?_⟩, ?_⟩, fun i hi => ?_⟩
  · by_cases hz : len = 0
    · exact .inr ⟨⟨some a, by simp⟩, by simpa using hz⟩
    · refine .inl ⟨a.block, a.off, ?_⟩
      have hsp := hsp hz
      simp only [hlen]
      obtain ⟨ab, ao, az⟩ := a
      simp only at hsp
      subst hsp; rfl
  · intro j c hj
    by_cases hz : len = 0
    · subst hz; simp [FT.flat] at hj
    have hsp := hsp hz
    have hjl : j < len * F.sz := by
      have := (List.getElem?_eq_some_iff.1 hj).1
      rwa [FT.flat_len, hlen] at this
    have hq : j / F.sz < len := (Nat.div_lt_iff_lt_mul h0).2 hjl
    have hr : j % F.sz < F.sz := Nat.mod_lt _ h0
    have hjd : j / F.sz * F.sz + j % F.sz = j := by rw [Nat.mul_comm]; exact Nat.div_add_mod j F.sz
    obtain ⟨h1, _⟩ := hf (j / F.sz) hq
    obtain ⟨_, hg⟩ := cells_get h1
    have hc' : (F.enc (f (j / F.sz)))[j % F.sz]? = some ((F.enc (f (j / F.sz)))[j % F.sz]'(by rw [F.len]; exact hr)) := List.getElem?_eq_getElem _
    have hfl := F.flat_get (hget _ hq) hc'
    rw [hjd, hj] at hfl
    have hcell := hg _ _ hc'
    obtain ⟨ab, ao, az⟩ := a
    simp only at hsp
    subst hsp
    rw [add_none, add_none, cell_hc, Nat.add_assoc, hjd] at hcell
    simp only [sb, so, Gw]
    rw [hcell]; exact hfl.symm
  · have hi' : i < len := by simpa using hi
    have : gd ((List.range len).map f) i = f i := by simp [gd, hi']
    rw [this]; exact (hf i hi').2
end
def okSl {ρ : Type} [Inhabited ρ] (F : FT ρ) (ok : Gh → ρ → Prop) (G : Gh) (s : Sl ρ) : Prop := SL G F s.v s.xs ∧ ∀ i, i < s.xs.length → ok G (gd s.xs i)
theorem opnSl {P : Program} {t e : TypeId} {ρ : Type} [Inhabited ρ] {F : FT ρ} {ok : Gh → ρ → Prop} (ht : P.underlying t = some (.slice e)) (hE : Opn P e F ok) (hc : P.cellsOf e = F.sz) (h0 : 0 < F.sz) : Opn P t slT (okSl F ok) := fun h => by
  obtain ⟨v, rfl, xs, h1, h2⟩ := opnL ht hE hc h0 h
  exact ⟨⟨v, xs⟩, rfl, h1, h2⟩
section
variable {P : Program} {t e : TypeId} {H : Type} {enc : TypeId × Value → H} {W : World} {r : Reach} {base : Nat} {v : Value} {d : DataW H} {ps : List MemPlace}
theorem argSl {ρ : Type} {ok : Gh → Sl ρ → Prop} (ht : P.underlying t = some (.slice e)) (hO : Opn P t slT ok) (hv : Value.okWide P W r base t v) (h : DataW.Trod enc P W 0 (fun _ => true) true t v d ps) : ∃ s : Sl ρ, v = s.v ∧ ok (Gw W) s := by
  obtain ⟨a, n, c, rfl⟩ := okWide_slice ht hv
  obtain ⟨fuel, hf⟩ := h
  obtain ⟨m, e1, hm⟩ := hO hf
  simp [Value.cells, slT] at e1
  exact ⟨m, e1, hm⟩
theorem trodAll_stays (hl : laidOutB P = true) {W' : World} (hb : Below W.heap.size W W') : ∀ {ts : List TypeId} {vs : List Value} {ds : List (DataW H)} {ps : List MemPlace}, (∀ t ∈ ts, P.readableRec t = true ∧ t < P.types.size) → (∀ x ∈ ps, x.block < W.heap.size) →
    DataW.TrodAll enc P W 0 (fun _ => true) true ts vs ds ps → DataW.TrodAll enc P W' 0 (fun b => decide (b < W.heap.size)) true ts vs ds ps
  | [], [], [], _, _, _, h => h
  | t :: ts, v :: vs, d :: ds, ps, hr, hlt, h => by
    obtain ⟨p, q, h1, h2, rfl⟩ := h
    have := hr t (.head _)
    exact ⟨p, q, Below.trod hl this.1 this.2 h1 hb (fun x hx => hlt x (List.mem_append_left _ hx)), trodAll_stays hl hb (fun t ht => hr t (.tail _ ht)) (fun x hx => hlt x (List.mem_append_right _ hx)) h2, rfl⟩
end
def recsB (P : Program) (ts : List TypeId) : Bool := ts.all fun t => P.readableRec t && Nat.blt t P.types.size
theorem recs_of {P : Program} {ts : List TypeId} (h : recsB P ts = true) : ∀ t ∈ ts, P.readableRec t = true ∧ t < P.types.size := by
  intro t ht
  have := List.all_eq_true.1 h t ht
  simp only [Bool.and_eq_true] at this
  exact ⟨this.1, Nat.le_of_ble_eq_true this.2⟩
/-- A LAW, LIFTED: the call returns true, the arguments read as they did. -/
theorem law_lifted {H : Type} {enc : TypeId × Value → H} {C : Checked} {os : Os} {f : FuncId} {fn : Func} {s : ChangeSpec} {tb : TypeId} (own : ownKnob C.prog.godebug = none) (started : os.Started) (noInit : C.prog.inits.idxOf? f = none) (hfn : C.prog.funcs[f]? = some fn) (hl : laidOutB C.prog = true)
    (hvars : s.vars = []) (hr : recsB C.prog fn.params.toList = true) (hres : fn.resultTypes = #[tb]) (htb : C.prog.underlying tb = some .bool)
    (hsp : ∀ ds : List (DataW H), ds.length = fn.params.toList.length → s.fn H ds = { results := [.lit (.bool true)], args := ds })
    (witness : ∃ (w : World) (tape : Tape) (i : Input), w.os = os ∧ (w.forCall tape i).Shaped C.prog ∧ i.vars = [] ∧ Input.okWide C.prog (w.forCall tape i) .any w.heap.size f i ∧
      s.pre6 enc C.prog fn [] false (w.forCall tape i).memory i.args ∧ ({} : Assume).holds C.prog (lone (Frame.enter C.prog f i.args .normal) [] (w.forCall tape i)))
    (walk : ∀ (W : World) (base : Nat) (args : Array Value) (ds : List (DataW H)) (ps : List MemPlace), (∀ (j : Nat) t v, fn.params[j]? = some t → args[j]? = some v → Value.okWide C.prog W .any base t v) →
      DataW.TrodAll enc C.prog W 0 (fun _ => true) true fn.params.toList args.toList ds ps → CallT C.prog f args (Gw W) [] fun v G _ => v = .bool true ∧ Gh.le (Gw W) G) :
    ReturnsInHanded {} C os f .any (s.pre6 enc C.prog fn [] false) (s.post enc C.prog fn false true false false) := by
  refine returnsInHanded_of_change own started noInit hfn witness ?_
  intro W base args ds gs before hval hW _ _
  have hW' := hW
  obtain ⟨p, q, hA, hV, rfl, hfz, hnd⟩ := hW
  rw [hvars] at hV
  obtain ⟨rfl, rfl⟩ := trodVars_none hV
  refine ((walk W base args ds p hval hA).run (St.start W)).mono ?_
  rintro e W' ⟨v, G, L, rfl, hs, rfl, hG⟩
  have hb := hs.below hG
  have hlt : ∀ x ∈ p, x.block < W.heap.size := fun x hx => hW'.lt x (List.mem_append_left _ hx)
  have hlen : ds.length = fn.params.toList.length := by
    have : ∀ (ts : List TypeId) (vs : List Value) (ds : List (DataW H)) (ps : List MemPlace), DataW.TrodAll enc C.prog W 0 (fun _ => true) true ts vs ds ps → ds.length = ts.length := by
      intro ts
      induction ts with
      | nil => intro vs ds ps h; cases vs <;> cases ds <;> simp_all [DataW.TrodAll]
      | cons t ts ih =>
        intro vs ds ps h
        cases vs <;> cases ds <;> simp only [DataW.TrodAll] at h
        obtain ⟨_, _, _, h2, _⟩ := h
        simp [ih _ _ _ h2]
    exact this _ _ _ _ hA
  refine ⟨_, rfl, ds, [], _, [], p, [], hW', ?_, ?_, ?_, hb.frame _, fun h => by cases h⟩
  · rw [List.append_nil, hsp ds hlen, hres]
    exact trodAll_mk1 (shut_bool htb true)
  · rw [List.append_nil, hsp ds hlen]
    exact trodAll_stays hl hb (recs_of hr) hlt hA
  · rw [List.append_nil, hsp ds hlen, hvars]
    exact rfl
end Go.Proofs.YtgngpegmaceaiaaGreat
namespace Go.Proofs.YtgngpegmaceaiaaGreat
set_option linter.unusedVariables false
set_option linter.unusedSimpArgs false
open Go Go.ChangeShapes Go.WideShapes Go.ChangeAt Go.RowKit
set_option linter.unusedSimpArgs false
def okU8 (_ : Gh) (_ : UInt8) : Prop := True
theorem opnU8 {P : Program} {t : TypeId} (ht : P.underlying t = some (.int .u8)) : Opn P t byteT okU8 := fun h => by
  obtain ⟨n, rfl, _, hw⟩ := DataW.trod_int ht h
  have : IntKind.u8.min ≤ n ∧ n ≤ IntKind.u8.max := by simpa [Lit.wf] using hw
  simp only [show IntKind.u8.min = 0 from rfl, show IntKind.u8.max = 255 from rfl] at this
  refine ⟨UInt8.ofNat n.toNat, ?_, trivial⟩
  simp only [byteT, UInt8.toNat_ofNat']
  congr 2
  omega
set_option maxRecDepth 100000
theorem Tryz.own : ownKnob Tryz.prog.godebug = none := by kernel_rfl
theorem Tryz.laidOut : laidOutB Tryz.prog = true := by kernel_rfl
theorem fnWaiveSplit_lifted (os : Os) (started : os.Started) (H : Type) (enc : TypeId × Value → H) :
    ReturnsInHanded {} Tryz.checked os 7 .any (Rows.fnWaiveSplitSpec.pre6 enc Tryz.prog Tryz.f7 [] false) (Rows.fnWaiveSplitSpec.post enc Tryz.prog Tryz.f7 false true false false) := by
  refine law_lifted (C := Tryz.checked) Tryz.own started (by kernel_rfl) Tryz.func7 Tryz.laidOut rfl (by kernel_rfl) rfl Tryz.underlying4 (fun ds h => ?_)
    (ChangeSpec.witness6 (enc := enc) (C := Tryz.checked) false ⟨#[], #[.slice none 0 0], []⟩ 8 (by kernel_rfl) (by kernel_rfl) (by kernel_rfl) (by kernel_rfl)) ?_
  · match ds, h with
    | [d], _ => rfl
  · intro W base args ds ps hval hA
    have hA : DataW.TrodAll enc Tryz.prog W 0 (fun _ => true) true Tryz.f7.params.toList args.toList ds ps := hA
    have hval : ∀ (j : Nat) t v, Tryz.f7.params[j]? = some t → args[j]? = some v → Value.okWide Tryz.prog W .any base t v := hval
    rw [Tryz.params7] at hA hval
    obtain ⟨v0, d0, rfl, rfl, h0⟩ := trodAll_one hA
    obtain ⟨s, rfl, q1, _⟩ := argSl Tryz.underlying77 (opnSl (F := byteT) (ok := okU8) Tryz.underlying77 (opnU8 Tryz.underlying5) (by kernel_rfl) (by decide)) (hval 0 _ v0 rfl rfl) h0
    exact law_WaiveSplit q1 ⟨rfl, Gh.le_refl _⟩
theorem fnWaiveSplit_holds : Rows.FnWaiveSplitSaid :=
  OpenClaim.holds_of_wide 7 Tryz.f7 rfl rfl rfl rfl rfl rfl rfl ⟨rfl, rfl, rfl, rfl, rfl⟩ rfl rfl rfl rfl rfl (by kernel_rfl) Tryz.func7 (by kernel_rfl)
    (of_decide_eq_true (by kernel_rfl)) (by unfold Func.isWrapper; first | (rw [if_pos (by decide +kernel)]; kernel_rfl) | (rw [if_neg (by decide +kernel)]; exact ⟨rfl, rfl⟩))
    (fun os started H enc _ => fnWaiveSplit_lifted os started H enc)
end Go.Proofs.YtgngpegmaceaiaaGreat
