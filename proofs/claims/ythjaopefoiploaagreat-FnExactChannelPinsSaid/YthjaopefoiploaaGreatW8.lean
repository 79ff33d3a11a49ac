/-
  Contracts: channel regions and conductors of layouts; the laws of both.
-/
import Derived.Test.YthjaopefoiploaaGreatW7
namespace Go.Proofs.YthjaopefoiploaaGreat
open Go
set_option maxRecDepth 20000
set_option linter.unusedSimpArgs false
variable {G : Gh} {L : List Ch} {R : Value → Gh → List Ch → Prop}
theorem WP.st {P : Program} {n : Nat} {c : Code} {Q : Post} {σ : Nat → Value} {A : Prop} (h : ∀ w, St G L w → A) (k : A → WP P n c Q σ G L) : WP P n c Q σ G L := WP.of fun hk _ w ha hs => (k (h w hs)).run hk ha hs

/-! ## sizes of layouts -/
def lenS {α : Type} (s : Sl α) : Int := s.xs.length
theorem lenS_nn {α : Type} (s : Sl α) : 0 ≤ lenS s := by simp [lenS]
theorem costL_er {α : Type} {n : α → Int} {xs ys : List (Sl α)} (h : er xs = er ys) : costL (nSl n) xs = costL (nSl n) ys := by
  have key : ∀ zs : List (Sl α), costL (nSl n) zs = costL (costL n) (er zs) := fun zs => by
    induction zs with
    | nil => rfl
    | cons z zs ih => simp only [er, List.map_cons, costL] at ih ⊢; rw [ih]; rfl
  rw [key, key, h]
theorem costL_scale {α : Type} {n m : α → Int} (c : Int) (h : ∀ a, n a = c * m a) : ∀ xs : List α, costL n xs = c * costL m xs
  | [] => by simp [costL]
  | x :: xs => by simp only [costL, h x, costL_scale c h xs, Int.mul_add]
theorem costL_mem {α : Type} [Inhabited α] {n : α → Int} (hn : ∀ a, 0 ≤ n a) {xs : List α} {i : Nat} (h : i < xs.length) : n (gd xs i) ≤ costL n xs := by
  have h1 := costL_take n h
  have h2 := costL_le hn xs (i + 1)
  have h3 := costL_nonneg hn (xs.take i)
  omega
theorem nRS_lenS (xs : List (Sl Rect)) : costL nRS xs = 4 * costL lenS xs := costL_scale 4 (fun s => by simp [nSl, nRect_cost, lenS]) xs
def szOf (xs : List (Sl Rect)) : Int := xs.length + costL lenS xs
theorem szRectSS_s {v : Value} {xs : List (Sl Rect)} {n : Int} (h1 : Rs G L slT v xs) (hd : RsE G L rectT xs) (hn : n ≤ 1048576) (h0 : 0 ≤ n) (k : ∀ r : Int, r ≤ n → (0 ≤ r → r = n - szOf xs) → R (vi r) G L) : CallT Tryz.prog 11 #[v, vi n] G L R := by
  refine CallT.bd h1 fun hb => ?_
  refine CallT.enter (args := _) Tryz.func11 rfl rfl (by kernel_rfl) rfl ?_
  refine WP.seq ?_
  refine WP.region ?_
  refine RG.pv rfl (PV.mvI (.inr rfl) rfl) ?_
  refine RG.nil ?_
  refine WP.seq ?_
  refine WP.region ?_
  refine RG.pv rfl (PV.mvI (.inl rfl) rfl) ?_
  refine RG.pv rfl (PV.move (v := v) rfl rfl) ?_
  refine RG.pv rfl (PV.len (v := v) rfl Tryz.underlying22 rfl (SlF.r h1)) ?_
  refine RG.pv rfl (PV.sub rfl rfl rfl (by omega)) ?_
  refine RG.pv rfl (PV.mvI (.inr rfl) rfl) ?_
  refine RG.nil ?_
  refine WP.seq ?_
  refine WP.seq ?_
  refine WP.region ?_
  refine RG.pv rfl (PV.mvI (.inl rfl) rfl) ?_
  refine RG.pv rfl (PV.lss rfl rfl rfl) ?_
  refine RG.nil ?_
  refine WP.cond rfl (fun h2 => ?_) (fun h2 => ?_)
  · have h2 := of_decide_eq_true h2
    refine WP.seq ?_
    refine WP.region ?_
    refine RG.pv rfl (PV.mvI (.inr rfl) rfl) ?_
    refine RG.nil ?_
    refine WP.ret ?_
    exact ⟨_, _, ResV.one rfl rfl, Cv.p, k _ (by omega) (fun h => by omega)⟩
  · have h2 := of_decide_eq_false h2
    refine WP.skip ?_
    refine WP.seq ?_
    refine WP.seq ?_
    refine WP.region ?_
    refine RG.pv rfl (PV.mvI (.inr rfl) rfl) ?_
    refine RG.nil ?_
    refine WP.block ?_
    refine WP.loop2 [0] (fun (i : Nat) (m : Int) => i ≤ xs.length ∧ 0 ≤ m ∧ m = n - xs.length - costL lenS (xs.take i)) (fun (i : Nat) (m : Int) => [(5, vi i), (1, vi m)]) (fun (i : Nat) (m : Int) => L) (fun (i : Nat) (m : Int) => xs.length - i) 0 (n - xs.length) ⟨by omega, by omega, by simp [costL]⟩ ⟨rfl, rfl, trivial⟩ Cv.p ?_
    rintro i m τ ⟨hi, hm0, hm1⟩
    refine WP.seq ?_
    refine WP.seq ?_
    refine WP.region ?_
    refine RG.pv rfl (PV.mvI (.inl rfl) rfl) ?_
    refine RG.pv rfl (PV.move (v := v) rfl rfl) ?_
    refine RG.pv rfl (PV.len (v := v) rfl Tryz.underlying22 rfl (SlF.r h1)) ?_
    refine RG.pv rfl (PV.lss rfl rfl rfl) ?_
    refine RG.nil ?_
    refine WP.cond rfl (fun h3 => ?_) (fun h3 => ?_)
    · have h3 := of_decide_eq_true h3
      have hct := costL_take lenS (xs := xs) (i := i) (by omega)
      have hcn : 0 ≤ costL lenS (xs.take i) := costL_nonneg lenS_nn _
      refine WP.skip ?_
      refine WP.seq ?_
      refine WP.block ?_
      refine WP.seq ?_
      refine WP.region ?_
      refine RG.pv rfl (PV.move (v := v) rfl rfl) ?_
      refine RG.pv rfl (PV.mvI (.inl rfl) rfl) ?_
      refine RG.pv rfl (PV.idxS (v := v) rfl Is22 rfl (SlF.r h1) rfl rfl (by omega)) ?_
      refine RG.pv rfl (PV.loadE1 rfl Sc79 rfl rfl (El.r h1 (getG (by omega))) rfl) ?_
      refine RG.pv rfl (PV.mvI (.inl rfl) rfl) ?_
      refine RG.callF (vs := [_, _]) rfl rfl En50 rfl (szRectS_s ((hd i (by omega)).up) (by omega) (by omega) (fun r hr hr' => ?_))
      refine RG.pv rfl (PV.mvI (.inr rfl) rfl) ?_
      refine RG.nil ?_
      refine WP.seq ?_
      refine WP.region ?_
      refine RG.pv rfl (PV.mvI (.inl rfl) rfl) ?_
      refine RG.pv rfl (PV.lss rfl rfl rfl) ?_
      refine RG.nil ?_
      refine WP.cond rfl (fun h5 => ?_) (fun h5 => ?_)
      · have h5 := of_decide_eq_true h5
        refine WP.seq ?_
        refine WP.region ?_
        refine RG.pv rfl (PV.mvI (.inr rfl) rfl) ?_
        refine RG.nil ?_
        refine WP.ret ?_
        exact ⟨_, _, ResV.one rfl rfl, Cv.p, k _ (by omega) (fun h => by omega)⟩
      · have h5 := of_decide_eq_false h5
        refine WP.skip ?_
        refine WP.region ?_
        refine RG.pv rfl (PV.mvI (.inl rfl) rfl) ?_
        refine RG.pv rfl (PV.add rfl rfl rfl (by omega)) ?_
        refine RG.pv rfl (PV.mvI (.inr rfl) rfl) ?_
        refine RG.nil ?_
        refine ⟨rfl, i + 1, _, ⟨by omega, by omega, ?_⟩, ⟨rfl, rfl, trivial⟩, ⟨rfl, trivial⟩, Cv.p, by omega⟩
        have hr' := hr' (by omega)
        rw [hct, lenS]; omega
    · have h3 := of_decide_eq_false h3
      refine WP.exit ?_
      refine WP.seq ?_
      refine WP.region ?_
      refine RG.pv rfl (PV.mvI (.inl rfl) rfl) ?_
      refine RG.pv rfl (PV.mvI (.inr rfl) rfl) ?_
      refine RG.nil ?_
      refine WP.ret ?_
      exact ⟨_, _, ResV.one rfl rfl, Cv.p, k _ (by have : 0 ≤ costL lenS (xs.take i) := costL_nonneg lenS_nn _; omega) (fun h => by rw [List.take_of_length_le (by omega)] at hm1; simp only [szOf]; omega)⟩

/-! ## channel regions -/
def chanR (l : List (List Rect)) : List Rect := bif isLay l then canon (zipB (fun p q => p && q) (bits (gd l 0)) (bits (gd l 1))) else []
theorem chanR_len (l : List (List Rect)) : (chanR l).length ≤ 3200 := by
  unfold chanR; cases isLay l
  · simp
  · exact canon_len _
theorem l24Area_s {v : Value} {xs : List (Sl Rect)} (h1 : Rs G L slT v xs) (hd : RsE G L rectT xs) (h8 : xs.length = 8) (hreg : ∀ i, i < 8 → isReg (gd xs i).xs = true) (k : ∀ v', R v' G (osl 4 boolT v' (zipB (fun p q => p && q) (bits (gd xs 0).xs) (bits (gd xs 1).xs)) :: L)) : CallT Tryz.prog 180 #[v] G L R := by
  refine CallT.enter (args := _) Tryz.func180 rfl rfl (by kernel_rfl) rfl ?_
  refine WP.seq ?_
  refine WP.region ?_
  refine RG.pv rfl (PV.asg rfl rfl) ?_
  refine RG.nil ?_
  refine WP.seq ?_
  refine WP.regionH0 (.q 0 (.q 1 (.q 2 (.q 4 (.q 5 (.q 6 (.l 3 (.l 7 (.l 8 (.q 9 Sch.nil)))))))))) (by kernel_rfl) (by kernel_rfl) (by kernel_rfl) rfl ?_
  refine RH.pv rfl (fun _ _ _ _ h => h) (Gh.le_refl _) PickC.pick rfl (PV.move (v := v) rfl rfl) ?_
  refine RH.pv rfl (fun _ _ _ _ h => h) (Gh.le_refl _) PickC.pick rfl (PV.idxS (j := 0) (v := v) rfl Is27 rfl (SlF.r h1) rfl (by omega) (by omega)) ?_
  refine RH.pv rfl (fun _ _ _ _ h => h) (Gh.le_refl _) PickC.pick rfl (PV.loadE1 rfl Sc66 rfl rfl (El.r h1 (getG (by omega))) rfl) ?_
  refine RH.pv rfl (fun _ _ _ _ h => h) (Gh.le_refl _) PickC.pick rfl (PV.move (v := v) rfl rfl) ?_
  refine RH.pv rfl (fun _ _ _ _ h => h) (Gh.le_refl _) PickC.pick rfl (PV.idxS (j := 1) (v := v) rfl Is27 rfl (SlF.r h1) rfl (by omega) (by omega)) ?_
  refine RH.pv rfl (fun _ _ _ _ h => h) (Gh.le_refl _) PickC.pick rfl (PV.loadE1 rfl Sc66 rfl rfl (El.r h1 (getG (by omega))) rfl) ?_
  refine RH.ot rfl rfl (OT.callF (vs := [_]) rfl En101 rfl (l03Bits_s (Rs.up (hd _ (by omega))) (fun i hi => valid_get (isReg_valid (hreg _ (by omega))) hi) (fun v6 => ⟨Gh.le_refl _, PickC.pick, ?_⟩)))
  refine RH.ot rfl rfl (OT.callF (vs := [_]) rfl En101 rfl (l03Bits_s (Rs.up (hd _ (by omega))) (fun i hi => valid_get (isReg_valid (hreg _ (by omega))) hi) (fun v10 => ⟨Gh.le_refl _, PickC.pick, ?_⟩)))
  refine RH.ot rfl rfl (OT.callF (vs := [v6, v10]) rfl En210 rfl (l24Meet_s Rs.o Rs.o (bits_length _) (bits_length _) (fun v11 => ⟨Gh.le_refl _, PickC.pick, ?_⟩)))
  refine RH.pv rfl (fun _ _ _ _ h => h) (Gh.le_refl _) PickC.pick rfl (PV.asg (v := v11) rfl rfl) ?_
  refine RH.nil ?_
  refine WP.ret ?_
  exact ⟨_, _, ResV.one rfl rfl, Cv.p, k v11⟩
theorem channelRegion_s {v : Value} {xs : List (Sl Rect)} (h1 : Rs G L slT v xs) (hd : RsE G L rectT xs) (h8 : xs.length = 8) (k : ∀ v', R v' G (osl 59 rectT v' (opR (fun p q => p && q) (gd xs 0).xs (gd xs 1).xs) :: L)) : CallT Tryz.prog 127 #[v] G L R := by
  refine CallT.enter (args := _) Tryz.func127 rfl rfl (by kernel_rfl) rfl ?_
  refine WP.seq ?_
  refine WP.region ?_
  refine RG.pv rfl (PV.asg rfl rfl) ?_
  refine RG.nil ?_
  refine WP.seq ?_
  refine WP.regionH0 (.q 0 (.q 1 (.q 2 (.q 3 (.q 4 (.q 5 (.l 6 (.q 7 Sch.nil)))))))) (by kernel_rfl) (by kernel_rfl) (by kernel_rfl) rfl ?_
  refine RH.pv rfl (fun _ _ _ _ h => h) (Gh.le_refl _) PickC.pick rfl (PV.move (v := v) rfl rfl) ?_
  refine RH.pv rfl (fun _ _ _ _ h => h) (Gh.le_refl _) PickC.pick rfl (PV.idxS (j := 0) (v := v) rfl Is27 rfl (SlF.r h1) rfl (by omega) (by omega)) ?_
  refine RH.pv rfl (fun _ _ _ _ h => h) (Gh.le_refl _) PickC.pick rfl (PV.loadE1 rfl Sc66 rfl rfl (El.r h1 (getG (by omega))) rfl) ?_
  refine RH.pv rfl (fun _ _ _ _ h => h) (Gh.le_refl _) PickC.pick rfl (PV.move (v := v) rfl rfl) ?_
  refine RH.pv rfl (fun _ _ _ _ h => h) (Gh.le_refl _) PickC.pick rfl (PV.idxS (j := 1) (v := v) rfl Is27 rfl (SlF.r h1) rfl (by omega) (by omega)) ?_
  refine RH.pv rfl (fun _ _ _ _ h => h) (Gh.le_refl _) PickC.pick rfl (PV.loadE1 rfl Sc66 rfl rfl (El.r h1 (getG (by omega))) rfl) ?_
  refine RH.ot rfl rfl (OT.callF (vs := [_, _]) rfl En189 rfl (inter_s (Rs.up (hd 0 (by omega))) (Rs.up (hd 1 (by omega))) (fun v9 => ⟨Gh.le_refl _, PickC.pick, ?_⟩)))
  refine RH.pv rfl (fun _ _ _ _ h => h) (Gh.le_refl _) PickC.pick rfl (PV.asg (v := v9) rfl rfl) ?_
  refine RH.nil ?_
  refine WP.ret ?_
  exact ⟨_, _, ResV.one rfl rfl, Cv.p, k v9⟩
end Go.Proofs.YthjaopefoiploaaGreat
