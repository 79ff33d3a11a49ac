/-
  Contracts: regions as the reference tells them; layouts; boolean operations.
-/
import Derived.Test.YthjaopefoiploaaGreatW5
import Derived.Test.YthjaopefoiploaaGreatFn
namespace Go.Proofs.YthjaopefoiploaaGreat
open Go
set_option maxRecDepth 20000
set_option linter.unusedSimpArgs false
variable {G : Gh} {L : List Ch} {R : Value → Gh → List Ch → Prop}

/-! ## plain -/
theorem isReg_area {xs : List Rect} (h : canon (bits xs) = xs) : areaS xs ≤ 6400 := by rw [← h]; exact areaS_canon _
theorem isReg_valid {xs : List Rect} (h : isReg xs = true) : validRs xs = true := by simp [isReg] at h; exact h.1
theorem isReg_len {xs : List Rect} (h : isReg xs = true) : xs.length ≤ 3200 := by
  have := isReg_valid h; simp [validRs] at this; exact this.1
theorem isReg_eq {xs : List Rect} (h : isReg xs = true) : canon (bits xs) = xs := by simp [isReg] at h; exact h.2
theorem isReg_canon {bs : List Bool} (h : bs.length = 6400) : isReg (canon bs) = true := by
  simp only [isReg, Bool.and_eq_true, decide_eq_true_eq]
  refine ⟨?_, by rw [bits_canon h]⟩
  simp only [validRs, Bool.and_eq_true, decide_eq_true_eq, List.all_eq_true]
  exact ⟨canon_len bs, fun r hr => by have := canonFrom_mem bs 0 r hr; simp [validRect]; omega⟩
def idxI {α : Type} (p : α → Bool) (xs : List α) : Int :=
  match xs.findIdx? p with
  | some i => i
  | none => -1
theorem idxI_at {α : Type} [Inhabited α] {p : α → Bool} {xs : List α} {i : Nat} (h : i < xs.length) (hp : p (gd xs i) = true) (hj : ∀ j, j < i → p (gd xs j) = false) : idxI p xs = i := by
  have : xs.findIdx? p = some i := by
    rw [List.findIdx?_eq_some_iff_getElem]
    refine ⟨h, by rwa [gd_eq h] at hp, fun j hji => ?_⟩
    have := hj j hji
    rw [gd_eq (by omega)] at this; simp [this]
  simp [idxI, this]
theorem idxI_none {α : Type} [Inhabited α] {p : α → Bool} {xs : List α} (hj : ∀ j, j < xs.length → p (gd xs j) = false) : idxI p xs = -1 := by
  have : xs.findIdx? p = none := by
    rw [List.findIdx?_eq_none_iff]
    intro x hx
    obtain ⟨j, hj', rfl⟩ := List.getElem_of_mem hx
    rw [← gd_eq hj']; exact hj j hj'
  simp [idxI, this]
theorem idxI_any {α : Type} (p : α → Bool) (xs : List α) : decide (0 ≤ idxI p xs) = xs.any p := by
  rw [← List.findIdx?_isSome, idxI]
  cases xs.findIdx? p <;> simp

/-! ## finding -/

theorem indexF_rects {v fv : Value} {xs : List (Sl Rect)} {p : (Sl Rect) → Bool} (h1 : Rs G L slT v xs) (hf : ∀ i, i < xs.length → CB Tryz.prog G L fv [Sl.v (gd xs i)] (.bool (p (gd xs i)))) (k : R (vi (idxI p xs)) G L) : CallT Tryz.prog 148 #[v, fv] G L R := by
  refine CallT.bd h1 fun hb => ?_
  refine CallT.enter (args := _) Tryz.func148 rfl rfl (by kernel_rfl) rfl ?_
  refine WP.seq ?_
  refine WP.region ?_
  refine RG.pv rfl (PV.mvI (.inr rfl) rfl) ?_
  refine RG.nil ?_
  refine WP.seq ?_
  refine WP.seq ?_
  refine WP.region ?_
  refine RG.pv rfl (PV.move (v := v) rfl rfl) ?_
  refine RG.pv rfl (PV.len (v := v) rfl Tryz.underlying27 rfl (SlF.r h1)) ?_
  refine RG.pv rfl (PV.mvI (.inl rfl) rfl) ?_
  refine RG.nil ?_
  refine WP.block ?_
  refine WP.loop1 [0, 1, 7] (fun i => i ≤ xs.length ∧ ∀ j, j < i → p (gd xs j) = false) (fun i => [(8, vi i)]) (fun i => L) (fun i => xs.length - i) 0 ⟨by omega, fun j h => by omega⟩ ⟨rfl, trivial⟩ Cv.p ?_
  rintro i τ ⟨hi, hj⟩
  refine WP.seq ?_
  refine WP.region ?_
  refine RG.pv rfl (PV.lss rfl rfl rfl) ?_
  refine RG.nil ?_
  refine WP.seq ?_
  refine WP.cond rfl (fun h2 => ?_) (fun h2 => ?_)
  · have h2 := of_decide_eq_true h2
    refine WP.skip ?_
    refine WP.seq ?_
    refine WP.block ?_
    refine WP.seq ?_
    refine WP.region ?_
    refine RG.pv rfl (PV.mvI (.inl rfl) rfl) ?_
    refine RG.pv rfl (PV.mvI (.inr rfl) rfl) ?_
    refine RG.nil ?_
    refine WP.seq ?_
    refine WP.region ?_
    refine RG.pv rfl (PV.move (v := fv) rfl rfl) ?_
    refine RG.pv rfl (PV.move (v := v) rfl rfl) ?_
    refine RG.pv rfl (PV.mvI (.inl rfl) rfl) ?_
    refine RG.pv rfl (PV.idxS (v := v) rfl Is27 rfl (SlF.r h1) rfl rfl (by omega)) ?_
    refine RG.pv rfl (PV.loadE1 rfl Sc66 rfl rfl (El.r h1 (getG (by omega))) rfl) ?_
    refine RG.callB (vs := [_]) rfl rfl rfl rfl (CB.up (hf i (by omega))) ?_
    refine RG.nil ?_
    refine WP.cond rfl (fun h3 => ?_) (fun h3 => ?_)
    · rw [idxI_at (by omega) h3 hj] at k
      refine WP.seq ?_
      refine WP.region ?_
      refine RG.pv rfl (PV.mvI (.inl rfl) rfl) ?_
      refine RG.pv rfl (PV.mvI (.inr rfl) rfl) ?_
      refine RG.nil ?_
      refine WP.ret ?_
      exact ⟨_, _, ResV.one rfl rfl, Cv.p, k⟩
    · have hj' : ∀ j, j < i + 1 → p (gd xs j) = false := fun j h => by
        by_cases c : j = i
        · rw [c]; exact h3
        · exact hj j (by omega)
      refine WP.skip ?_
      refine WP.region ?_
      refine RG.pv rfl (PV.add rfl rfl rfl (by omega)) ?_
      refine RG.pv rfl (PV.mvI (.inl rfl) rfl) ?_
      refine RG.nil ?_
      exact ⟨rfl, i + 1, ⟨by omega, hj'⟩, ⟨rfl, trivial⟩, ⟨rfl, rfl, rfl, trivial⟩, Cv.p, by omega⟩
  · have h2 := of_decide_eq_false h2
    rw [idxI_none (fun j h => hj j (by omega))] at k
    refine WP.exit ?_
    refine WP.seq ?_
    refine WP.region ?_
    refine RG.pv rfl (PV.mvI (.inr rfl) rfl) ?_
    refine RG.nil ?_
    refine WP.ret ?_
    exact ⟨_, _, ResV.one rfl rfl, Cv.p, k⟩
theorem containsF_rects {v fv : Value} {xs : List (Sl Rect)} {p : (Sl Rect) → Bool} (h1 : Rs G L slT v xs) (hf : ∀ i, i < xs.length → CB Tryz.prog G L fv [Sl.v (gd xs i)] (.bool (p (gd xs i)))) (k : R (.bool (xs.any p)) G L) : CallT Tryz.prog 104 #[v, fv] G L R := by
  rw [← idxI_any] at k
  refine CallT.enter (args := _) Tryz.func104 rfl rfl (by kernel_rfl) rfl ?_
  refine WP.seq ?_
  refine WP.region ?_
  refine RG.pv rfl (PV.mvB (.inr rfl) rfl) ?_
  refine RG.nil ?_
  refine WP.seq ?_
  refine WP.region ?_
  refine RG.pv rfl (PV.move (v := v) rfl rfl) ?_
  refine RG.pv rfl (PV.move (v := fv) rfl rfl) ?_
  refine RG.callF (vs := [v, fv]) rfl rfl En148 rfl (indexF_rects (Rs.up h1) (fun i hi => (hf i hi).up) ?_)
  refine RG.pv rfl (PV.geq rfl rfl rfl) ?_
  refine RG.pv rfl (PV.mvB (.inr rfl) rfl) ?_
  refine RG.nil ?_
  refine WP.ret ?_
  exact ⟨_, _, ResV.one rfl rfl, Cv.p, k⟩

/-! ## regions -/
theorem l03Ok_s {v : Value} {xs : List Rect} (h1 : Rs G L rectT v xs) (k : R (.bool (isReg xs)) G L) : CallT Tryz.prog 96 #[v] G L R := by
  refine CallT.bd h1 fun hb => ?_
  refine CallT.enter (args := _) Tryz.func96 rfl rfl (by kernel_rfl) rfl ?_
  refine WP.seq ?_
  refine WP.region ?_
  refine RG.pv rfl (PV.mvB (.inr rfl) rfl) ?_
  refine RG.nil ?_
  refine WP.seq ?_
  refine WP.seq ?_
  refine WP.region ?_
  refine RG.pv rfl (PV.move (v := v) rfl rfl) ?_
  refine RG.callF (vs := [v]) rfl rfl En138 rfl (l03Valid_s (Rs.up h1) ?_)
  refine RG.pv rfl (PV.not rfl rfl) ?_
  refine RG.nil ?_
  refine WP.cond rfl (fun h2 => ?_) (fun h2 => ?_)
  · have e : isReg xs = false := by simp at h2; simp [isReg, h2]
    rw [e] at k
    refine WP.seq ?_
    refine WP.region ?_
    refine RG.pv rfl (PV.mvB (.inr rfl) rfl) ?_
    refine RG.nil ?_
    refine WP.ret ?_
    exact ⟨_, _, ResV.one rfl rfl, Cv.p, k⟩
  · have hv : validRs xs = true := by simpa using h2
    have hn : xs.length ≤ 3200 := by simp [validRs] at hv; omega
    refine WP.skip ?_
    refine WP.seq ?_
    refine WP.region ?_
    refine RG.pv rfl (PV.mvI (.inr rfl) rfl) ?_
    refine RG.nil ?_
    refine WP.seq ?_
    refine WP.seq ?_
    refine WP.region ?_
    refine RG.pv rfl (PV.mvI (.inr rfl) rfl) ?_
    refine RG.nil ?_
    refine WP.block ?_
    refine WP.loop2 [0] (fun (i : Nat) (s : Int) => i ≤ xs.length ∧ s = areaS (xs.take i)) (fun (i : Nat) (s : Int) => [(4, vi i), (3, vi s)]) (fun (i : Nat) (s : Int) => L) (fun (i : Nat) (s : Int) => xs.length - i) 0 0 ⟨by omega, by simp [areaS]⟩ ⟨rfl, rfl, trivial⟩ Cv.p ?_
    rintro i s τ ⟨hi, hs⟩
    refine WP.seq ?_
    refine WP.seq ?_
    refine WP.region ?_
    refine RG.pv rfl (PV.mvI (.inl rfl) rfl) ?_
    refine RG.pv rfl (PV.move (v := v) rfl rfl) ?_
    refine RG.pv rfl (PV.len (v := v) rfl Tryz.underlying66 rfl (SlF.r h1)) ?_
    refine RG.pv rfl (PV.lss rfl rfl rfl) ?_
    refine RG.nil ?_
    refine WP.cond rfl (fun h3 => ?_) (fun h3 => ?_)
    · have h3 := of_decide_eq_true h3
      have hA := area_bd (valid_get hv (i := i) (by omega))
      have hB := areaS_bd hv i hi
      refine WP.skip ?_
      refine WP.seq ?_
      refine WP.block ?_
      refine WP.region ?_
      refine RG.pv rfl (PV.mvI (.inl rfl) rfl) ?_
      refine RG.pv rfl (PV.move (v := v) rfl rfl) ?_
      refine RG.pv rfl (PV.mvI (.inl rfl) rfl) ?_
      refine RG.pv rfl (PV.idxS (v := v) rfl Is66 rfl (SlF.r h1) rfl rfl (by omega)) ?_
      refine RG.pv rfl (PV.loadE rfl Ag59 rfl rfl (El.r h1 (getG (by omega)))) ?_
      refine RG.callF (vs := [_]) rfl rfl En139 rfl (rectArea_s (valid_get (by assumption) (by omega)) ?_)
      refine RG.pv rfl (PV.add rfl rfl rfl (by omega)) ?_
      refine RG.pv rfl (PV.mvI (.inr rfl) rfl) ?_
      refine RG.nil ?_
      refine WP.region ?_
      refine RG.pv rfl (PV.mvI (.inl rfl) rfl) ?_
      refine RG.pv rfl (PV.add rfl rfl rfl (by omega)) ?_
      refine RG.pv rfl (PV.mvI (.inr rfl) rfl) ?_
      refine RG.nil ?_
      exact ⟨rfl, i + 1, _, ⟨by omega, by rw [areaS_take (by omega), hs]⟩, ⟨rfl, rfl, trivial⟩, ⟨rfl, trivial⟩, Cv.p, by omega⟩
    · have h3 := of_decide_eq_false h3
      have e1 : s = areaS xs := by rw [hs, List.take_of_length_le (by omega)]
      refine WP.exit ?_
      refine WP.seq ?_
      refine WP.region ?_
      refine RG.pv rfl (PV.mvI (.inl rfl) rfl) ?_
      refine RG.pv rfl (PV.leq rfl rfl rfl) ?_
      refine RG.pv rfl (PV.mvB (.inl rfl) rfl) ?_
      refine RG.spl (t := 23) rfl (fun h4 => ?_) (fun h4 => ?_)
      · have e : isReg xs = decide (canon (bits xs) = xs) := by simp [isReg, hv]
        rw [e] at k
        refine RG.take rfl rfl rfl h4 ?_
        refine RG.pv rfl (PV.move (v := v) rfl rfl) ?_
        refine RG.take rfl rfl rfl h4 ?_
        refine RG.callF (vs := [v]) rfl rfl En101 rfl (l03Bits_s (Rs.up h1) (fun i hi => valid_get (by assumption) hi) (fun v25 => ?_))
        refine RG.take rfl rfl rfl h4 ?_
        refine RG.callF (vs := [v25]) rfl rfl En114 rfl (l03Canon_s Rs.o (bits_length _) (fun v26 => ?_))
        refine RG.take rfl rfl rfl h4 ?_
        refine RG.pv rfl (PV.move (v := v) rfl rfl) ?_
        refine RG.take rfl rfl rfl h4 ?_
        refine RG.callF (vs := [v26, v]) rfl rfl En140 rfl (l03Same_s Rs.o (Rs.up h1) ?_)
        refine RG.pv rfl (PV.pickT rfl rfl h4 rfl) ?_
        refine RG.pv rfl (PV.mvB (.inr rfl) rfl) ?_
        refine RG.nil ?_
        refine WP.ret ?_
        exact ⟨_, _, ResV.one rfl rfl, Cv.p, k⟩
      · have e : isReg xs = false := by
          simp only [isReg, hv, Bool.true_and, decide_eq_false_iff_not]
          intro h5
          have := isReg_area h5
          simp at h4; omega
        rw [e] at k
        refine RG.skip rfl rfl rfl (gne h4) ?_
        refine RG.skip rfl rfl rfl (gne h4) ?_
        refine RG.skip rfl rfl rfl (gne h4) ?_
        refine RG.skip rfl rfl rfl (gne h4) ?_
        refine RG.skip rfl rfl rfl (gne h4) ?_
        refine RG.pv rfl (PV.pickE rfl rfl h4 rfl) ?_
        refine RG.pv rfl (PV.mvB (.inr rfl) rfl) ?_
        refine RG.nil ?_
        refine WP.ret ?_
        exact ⟨_, _, ResV.one rfl rfl, Cv.p, k⟩

/-! ## layouts -/
def isLay (l : List (List Rect)) : Bool := decide (l.length = 8) && l.all isReg
theorem isLay_len {l : List (List Rect)} (h : isLay l = true) : l.length = 8 := by simp [isLay] at h; exact h.1
theorem isLay_reg {l : List (List Rect)} (h : isLay l = true) {i : Nat} (hi : i < 8) : isReg (gd l i) = true := by
  simp only [isLay, Bool.and_eq_true, decide_eq_true_eq, List.all_eq_true] at h
  rw [gd_eq (by omega)]; exact h.2 _ (List.getElem_mem _)
theorem isLay_false {l : List (List Rect)} {i : Nat} (h : i < l.length) (e : isReg (gd l i) = false) : isLay l = false := by
  simp only [isLay, Bool.and_eq_false_iff, List.all_eq_false]
  exact .inr ⟨gd l i, by rw [gd_eq h]; exact List.getElem_mem _, by simp [e]⟩
theorem isLay_all {l : List (List Rect)} (h : ∀ i, i < l.length → isReg (gd l i) = true) : isLay l = decide (l.length = 8) := by
  have : l.all isReg = true := by
    rw [List.all_eq_true]
    intro x hx
    obtain ⟨j, hj', rfl⟩ := List.getElem_of_mem hx
    rw [← gd_eq hj']; exact h j hj'
  simp only [isLay, this, Bool.and_true]
theorem isLayout1_s {v : Value} {xs : List Rect} (h1 : Rs G L rectT v xs) (k : R (.bool (!isReg xs)) G L) : CallT Tryz.prog 105 #[v] G L R := by
  refine CallT.enter (args := _) Tryz.func105 rfl rfl (by kernel_rfl) rfl ?_
  refine WP.seq ?_
  refine WP.region ?_
  refine RG.pv rfl (PV.mvB (.inr rfl) rfl) ?_
  refine RG.nil ?_
  refine WP.seq ?_
  refine WP.region ?_
  refine RG.pv rfl (PV.move (v := v) rfl rfl) ?_
  refine RG.callF (vs := [v]) rfl rfl En106 rfl (isRegion_s (Rs.up h1) ?_)
  refine RG.pv rfl (PV.not rfl rfl) ?_
  refine RG.pv rfl (PV.mvB (.inr rfl) rfl) ?_
  refine RG.nil ?_
  refine WP.ret ?_
  exact ⟨_, _, ResV.one rfl rfl, Cv.p, k⟩
theorem isLayout_s {v : Value} {xs : List (Sl Rect)} (h1 : Rs G L slT v xs) (hd : RsE G L rectT xs) (k : R (.bool (isLay (er xs))) G L) : CallT Tryz.prog 64 #[v] G L R := by
  have e : isLay (er xs) = (decide ((xs.length : Int) = 8) && !(xs.any fun s => !isReg s.xs)) := by
    simp only [isLay, er, List.length_map]
    congr 1
    · rw [decide_eq_decide]; omega
    · rw [List.all_map, List.not_any_eq_all_not]; simp [Function.comp_def]
  rw [e] at k
  refine CallT.enter (args := _) Tryz.func64 rfl rfl (by kernel_rfl) rfl ?_
  refine WP.seq ?_
  refine WP.region ?_
  refine RG.pv rfl (PV.mvB (.inr rfl) rfl) ?_
  refine RG.nil ?_
  refine WP.seq ?_
  refine WP.region ?_
  refine RG.pv rfl (PV.move (v := v) rfl rfl) ?_
  refine RG.pv rfl (PV.len (v := v) rfl Tryz.underlying27 rfl (SlF.r h1)) ?_
  refine RG.pv rfl (PV.eql rfl rfl rfl) ?_
  refine RG.pv rfl (PV.mvB (.inl rfl) rfl) ?_
  refine RG.gs rfl rfl rfl (fun hp => (PV.move (v := v) rfl rfl)) ?_
  refine RG.gsC rfl rfl rfl rfl En104 (fun hp => ⟨_, (acons (gs_t hp) (acons rfl anil)), containsF_rects (p := fun s : Sl Rect => !isReg s.xs) (Rs.up h1) (fun i hi => CB.mk0 En105 fun L' R c k => isLayout1_s (((hd i hi).up).cv c) k) ⟨rfl, rfl, rfl⟩⟩) ?_
  refine RG.gs rfl rfl rfl (fun hp => (PV.not rfl (gs_t hp))) ?_
  refine RG.pv rfl (PV.pickA rfl rfl (fun hq => gs_t (geqT hq)) rfl) ?_
  refine RG.pv rfl (PV.mvB (.inr rfl) rfl) ?_
  refine RG.nil ?_
  refine WP.ret ?_
  exact ⟨_, _, ResV.one rfl rfl, Cv.p, k⟩
theorem l19Layout_s {v : Value} {xs : List (Sl Rect)} (h1 : Rs G L slT v xs) (hd : RsE G L rectT xs) (k : R (.bool (isLay (er xs))) G L) : CallT Tryz.prog 57 #[v] G L R := by
  refine CallT.bd h1 fun hb => ?_
  refine CallT.enter (args := _) Tryz.func57 rfl rfl (by kernel_rfl) rfl ?_
  refine WP.seq ?_
  refine WP.region ?_
  refine RG.pv rfl (PV.mvB (.inr rfl) rfl) ?_
  refine RG.nil ?_
  refine WP.seq ?_
  refine WP.seq ?_
  refine WP.region ?_
  refine RG.pv rfl (PV.mvI (.inr rfl) rfl) ?_
  refine RG.nil ?_
  refine WP.block ?_
  refine WP.loop1 [0] (fun i => i ≤ xs.length ∧ ∀ j, j < i → isReg (gd xs j).xs = true) (fun i => [(3, vi i)]) (fun i => L) (fun i => xs.length - i) 0 ⟨by omega, fun j h => by omega⟩ ⟨rfl, trivial⟩ Cv.p ?_
  rintro i τ ⟨hi, hj⟩
  refine WP.seq ?_
  refine WP.seq ?_
  refine WP.region ?_
  refine RG.pv rfl (PV.mvI (.inl rfl) rfl) ?_
  refine RG.pv rfl (PV.move (v := v) rfl rfl) ?_
  refine RG.pv rfl (PV.len (v := v) rfl Tryz.underlying27 rfl (SlF.r h1)) ?_
  refine RG.pv rfl (PV.lss rfl rfl rfl) ?_
  refine RG.nil ?_
  refine WP.cond rfl (fun h2 => ?_) (fun h2 => ?_)
  · have h2 := of_decide_eq_true h2
    refine WP.skip ?_
    refine WP.seq ?_
    refine WP.block ?_
    refine WP.seq ?_
    refine WP.region ?_
    refine RG.pv rfl (PV.move (v := v) rfl rfl) ?_
    refine RG.pv rfl (PV.mvI (.inl rfl) rfl) ?_
    refine RG.pv rfl (PV.idxS (v := v) rfl Is27 rfl (SlF.r h1) rfl rfl (by omega)) ?_
    refine RG.pv rfl (PV.loadE1 rfl Sc66 rfl rfl (El.r h1 (getG (by omega))) rfl) ?_
    refine RG.callF (vs := [_]) rfl rfl En96 rfl (l03Ok_s (hd i (by omega)) ?_)
    refine RG.pv rfl (PV.not rfl rfl) ?_
    refine RG.nil ?_
    refine WP.cond rfl (fun h3 => ?_) (fun h3 => ?_)
    · rw [isLay_false (i := i) (by rw [er_len]; omega) (by rw [er_gd]; simpa using h3)] at k
      refine WP.seq ?_
      refine WP.region ?_
      refine RG.pv rfl (PV.mvB (.inr rfl) rfl) ?_
      refine RG.nil ?_
      refine WP.ret ?_
      exact ⟨_, _, ResV.one rfl rfl, Cv.p, k⟩
    · have hj' : ∀ j, j < i + 1 → isReg (gd xs j).xs = true := fun j h => by
        by_cases c : j = i
        · subst c; simpa using h3
        · exact hj j (by omega)
      refine WP.skip ?_
      refine WP.region ?_
      refine RG.pv rfl (PV.mvI (.inl rfl) rfl) ?_
      refine RG.pv rfl (PV.add rfl rfl rfl (by omega)) ?_
      refine RG.pv rfl (PV.mvI (.inr rfl) rfl) ?_
      refine RG.nil ?_
      exact ⟨rfl, i + 1, ⟨by omega, hj'⟩, ⟨rfl, trivial⟩, ⟨rfl, trivial⟩, Cv.p, by omega⟩
  · have h2 := of_decide_eq_false h2
    have e : isLay (er xs) = decide ((xs.length : Int) = 8) := by
      rw [isLay_all (fun i hi => by rw [er_gd]; rw [er_len] at hi; exact hj i (by omega)), decide_eq_decide, er_len]; omega
    rw [e] at k
    refine WP.exit ?_
    refine WP.seq ?_
    refine WP.region ?_
    refine RG.pv rfl (PV.move (v := v) rfl rfl) ?_
    refine RG.pv rfl (PV.len (v := v) rfl Tryz.underlying27 rfl (SlF.r h1)) ?_
    refine RG.pv rfl (PV.eql rfl rfl rfl) ?_
    refine RG.pv rfl (PV.mvB (.inr rfl) rfl) ?_
    refine RG.nil ?_
    refine WP.ret ?_
    exact ⟨_, _, ResV.one rfl rfl, Cv.p, k⟩

/-! ## boolean operations -/
def zipB (f : Bool → Bool → Bool) (a b : List Bool) : List Bool := List.zipWith f a b
theorem zipB_len {f : Bool → Bool → Bool} {a b : List Bool} (h : a.length = 6400) (h' : b.length = 6400) : (zipB f a b).length = 6400 := by simp [zipB, h, h']
theorem zipB_gd {f : Bool → Bool → Bool} {a b : List Bool} {i : Nat} (h : i < a.length) (h' : i < b.length) : gd (zipB f a b) i = f (gd a i) (gd b i) := by
  rw [gd_eq (by simp [zipB]; omega), gd_eq h, gd_eq h']; simp [zipB]
theorem zipB_get {f : Bool → Bool → Bool} {a b : List Bool} {i : Nat} (h : i < a.length) (h' : i < b.length) : (zipB f a b)[i]? = some (f (gd a i) (gd b i)) := by
  rw [getG (by simp [zipB]; omega), zipB_gd h h']
theorem l23Minus_s {v u : Value} {xs ys : List Bool} (h1 : Rs G L boolT v xs) (h2 : Rs G L boolT u ys) (hl : xs.length = 6400) (hl' : ys.length = 6400) (k : ∀ v', R v' G (osl 4 boolT v' (zipB (fun p q => p && !q) xs ys) :: L)) : CallT Tryz.prog 144 #[v, u] G L R := by
  refine CallT.enter (args := _) Tryz.func144 rfl rfl (by kernel_rfl) rfl ?_
  refine WP.seq ?_
  refine WP.region ?_
  refine RG.pv rfl (PV.asg rfl rfl) ?_
  refine RG.nil ?_
  refine WP.seq ?_
  refine WP.region ?_
  refine RG.pv rfl (PV.move (v := v) rfl rfl) ?_
  refine RG.pv rfl (PV.len (v := v) rfl Tryz.underlying142 rfl (SlF.r h1)) ?_
  refine RG.ot rfl (OT.make (F := boolT) (a0 := false) rfl El142 rfl (by decide) rfl rfl (by omega) (by omega) fun v9 => ?_)
  refine RG.pv rfl (PV.asg (v := v9) rfl rfl) ?_
  refine RG.nil ?_
  refine WP.seq ?_
  refine WP.seq ?_
  refine WP.region ?_
  refine RG.pv rfl (PV.mvI (.inr rfl) rfl) ?_
  refine RG.nil ?_
  refine WP.block ?_
  refine WP.loop2 [0, 1, 5] (fun (i : Nat) (zs : List Bool) => i ≤ 6400 ∧ zs.length = (zipB (fun p q => p && !q) xs ys).length ∧ ∀ j, j < i → zs[j]? = (zipB (fun p q => p && !q) xs ys)[j]?) (fun (i : Nat) (zs : List Bool) => [(6, vi i)]) (fun (i : Nat) (zs : List Bool) => osl 4 boolT v9 zs :: L) (fun (i : Nat) (zs : List Bool) => 6400 - i) 0 (List.replicate xs.length false) ⟨by omega, by rw [zipB_len hl hl']; simp [hl], fun j h => by omega⟩ ⟨rfl, trivial⟩ Cv.p ?_
  rintro i zs τ ⟨hi, hl2, he⟩
  refine WP.seq ?_
  refine WP.seq ?_
  refine WP.region ?_
  refine RG.pv rfl (PV.mvI (.inl rfl) rfl) ?_
  refine RG.pv rfl (PV.move (v := v) rfl rfl) ?_
  refine RG.pv rfl (PV.len (v := v) rfl Tryz.underlying142 rfl (SlF.r h1)) ?_
  refine RG.pv rfl (PV.lss rfl rfl rfl) ?_
  refine RG.nil ?_
  refine WP.cond rfl (fun h3 => ?_) (fun h3 => ?_)
  · have h3 := of_decide_eq_true h3
    rw [zipB_len hl hl'] at hl2
    refine WP.skip ?_
    refine WP.seq ?_
    refine WP.block ?_
    refine WP.region ?_
    refine RG.pv rfl (PV.move (v := v9) rfl rfl) ?_
    refine RG.pv rfl (PV.mvI (.inl rfl) rfl) ?_
    refine RG.pv rfl (PV.move (v := v) rfl rfl) ?_
    refine RG.pv rfl (PV.mvI (.inl rfl) rfl) ?_
    refine RG.pv rfl (PV.idxS (v := v) rfl Is142 rfl (SlF.r h1) rfl rfl (by omega)) ?_
    refine RG.pv rfl (PV.loadE1 rfl Sc4 rfl rfl (El.r h1 (getG (by omega))) rfl) ?_
    refine RG.pv rfl (PV.mvB (.inl rfl) rfl) ?_
    refine RG.gs rfl rfl rfl (fun hp => (PV.move (v := u) rfl rfl)) ?_
    refine RG.gs rfl rfl rfl (fun hp => (PV.mvI (.inl rfl) rfl)) ?_
    refine RG.gs rfl rfl rfl (fun hp => (PV.idxS (v := u) rfl Is142 (gs_t hp) (SlF.r h2) (gs_t hp) rfl (by first | omega | (simp at hp; omega)))) ?_
    refine RG.gs rfl rfl rfl (fun hp => (PV.loadE1 rfl Sc4 (gs_t hp) rfl (El.r h2 (getG (by first | omega | (simp at hp; omega)))) rfl)) ?_
    refine RG.gs rfl rfl rfl (fun hp => (PV.not rfl (gs_t hp))) ?_
    refine RG.pv rfl (PV.pickA rfl rfl (fun hq => gs_t (geqT hq)) rfl) ?_
    refine RG.pv rfl (PV.idxS (v := v9) rfl Is142 rfl SlF.o rfl rfl (by omega)) ?_
    refine RG.ot rfl (OT.storeE (F := boolT) rfl Sz4 rfl rfl rfl (Cl.c rfl) (OneC.c rfl) (by omega) ?_)
    refine RG.nil ?_
    refine WP.region ?_
    refine RG.pv rfl (PV.mvI (.inl rfl) rfl) ?_
    refine RG.pv rfl (PV.add rfl rfl rfl (by omega)) ?_
    refine RG.pv rfl (PV.mvI (.inr rfl) rfl) ?_
    refine RG.nil ?_
    exact ⟨rfl, i + 1, _, ⟨by omega, by rw [zipB_len hl hl']; simpa using hl2, set_pre he (zipB_get (by omega) (by omega)) (by rw [zipB_len hl hl']; exact hl2)⟩, ⟨rfl, trivial⟩, ⟨rfl, rfl, rfl, trivial⟩, Cv.p, by omega⟩
  · have h3 := of_decide_eq_false h3
    obtain rfl := pre_eq he hl2 (by rw [zipB_len hl hl']; omega)
    refine WP.exit ?_
    refine WP.seq ?_
    refine WP.region ?_
    refine RG.pv rfl (PV.move (v := v9) rfl rfl) ?_
    refine RG.pv rfl (PV.asg (v := v9) rfl rfl) ?_
    refine RG.nil ?_
    refine WP.ret ?_
    exact ⟨_, _, ResV.one rfl rfl, Cv.p, k v9⟩
theorem l24Meet_s {v u : Value} {xs ys : List Bool} (h1 : Rs G L boolT v xs) (h2 : Rs G L boolT u ys) (hl : xs.length = 6400) (hl' : ys.length = 6400) (k : ∀ v', R v' G (osl 4 boolT v' (zipB (fun p q => p && q) xs ys) :: L)) : CallT Tryz.prog 210 #[v, u] G L R := by
  refine CallT.enter (args := _) Tryz.func210 rfl rfl (by kernel_rfl) rfl ?_
  refine WP.seq ?_
  refine WP.region ?_
  refine RG.pv rfl (PV.asg rfl rfl) ?_
  refine RG.nil ?_
  refine WP.seq ?_
  refine WP.region ?_
  refine RG.pv rfl (PV.move (v := v) rfl rfl) ?_
  refine RG.pv rfl (PV.len (v := v) rfl Tryz.underlying142 rfl (SlF.r h1)) ?_
  refine RG.ot rfl (OT.make (F := boolT) (a0 := false) rfl El142 rfl (by decide) rfl rfl (by omega) (by omega) fun v9 => ?_)
  refine RG.pv rfl (PV.asg (v := v9) rfl rfl) ?_
  refine RG.nil ?_
  refine WP.seq ?_
  refine WP.seq ?_
  refine WP.region ?_
  refine RG.pv rfl (PV.mvI (.inr rfl) rfl) ?_
  refine RG.nil ?_
  refine WP.block ?_
  refine WP.loop2 [0, 1, 5] (fun (i : Nat) (zs : List Bool) => i ≤ 6400 ∧ zs.length = (zipB (fun p q => p && q) xs ys).length ∧ ∀ j, j < i → zs[j]? = (zipB (fun p q => p && q) xs ys)[j]?) (fun (i : Nat) (zs : List Bool) => [(6, vi i)]) (fun (i : Nat) (zs : List Bool) => osl 4 boolT v9 zs :: L) (fun (i : Nat) (zs : List Bool) => 6400 - i) 0 (List.replicate xs.length false) ⟨by omega, by rw [zipB_len hl hl']; simp [hl], fun j h => by omega⟩ ⟨rfl, trivial⟩ Cv.p ?_
  rintro i zs τ ⟨hi, hl2, he⟩
  refine WP.seq ?_
  refine WP.seq ?_
  refine WP.region ?_
  refine RG.pv rfl (PV.mvI (.inl rfl) rfl) ?_
  refine RG.pv rfl (PV.move (v := v) rfl rfl) ?_
  refine RG.pv rfl (PV.len (v := v) rfl Tryz.underlying142 rfl (SlF.r h1)) ?_
  refine RG.pv rfl (PV.lss rfl rfl rfl) ?_
  refine RG.nil ?_
  refine WP.cond rfl (fun h3 => ?_) (fun h3 => ?_)
  · have h3 := of_decide_eq_true h3
    rw [zipB_len hl hl'] at hl2
    refine WP.skip ?_
    refine WP.seq ?_
    refine WP.block ?_
    refine WP.region ?_
    refine RG.pv rfl (PV.move (v := v9) rfl rfl) ?_
    refine RG.pv rfl (PV.mvI (.inl rfl) rfl) ?_
    refine RG.pv rfl (PV.move (v := v) rfl rfl) ?_
    refine RG.pv rfl (PV.mvI (.inl rfl) rfl) ?_
    refine RG.pv rfl (PV.idxS (v := v) rfl Is142 rfl (SlF.r h1) rfl rfl (by omega)) ?_
    refine RG.pv rfl (PV.loadE1 rfl Sc4 rfl rfl (El.r h1 (getG (by omega))) rfl) ?_
    refine RG.pv rfl (PV.mvB (.inl rfl) rfl) ?_
    refine RG.gs rfl rfl rfl (fun hp => (PV.move (v := u) rfl rfl)) ?_
    refine RG.gs rfl rfl rfl (fun hp => (PV.mvI (.inl rfl) rfl)) ?_
    refine RG.gs rfl rfl rfl (fun hp => (PV.idxS (v := u) rfl Is142 (gs_t hp) (SlF.r h2) (gs_t hp) rfl (by first | omega | (simp at hp; omega)))) ?_
    refine RG.gs rfl rfl rfl (fun hp => (PV.loadE1 rfl Sc4 (gs_t hp) rfl (El.r h2 (getG (by first | omega | (simp at hp; omega)))) rfl)) ?_
    refine RG.pv rfl (PV.pickA rfl rfl (fun hq => gs_t (geqT hq)) rfl) ?_
    refine RG.pv rfl (PV.idxS (v := v9) rfl Is142 rfl SlF.o rfl rfl (by omega)) ?_
    refine RG.ot rfl (OT.storeE (F := boolT) rfl Sz4 rfl rfl rfl (Cl.c rfl) (OneC.c rfl) (by omega) ?_)
    refine RG.nil ?_
    refine WP.region ?_
    refine RG.pv rfl (PV.mvI (.inl rfl) rfl) ?_
    refine RG.pv rfl (PV.add rfl rfl rfl (by omega)) ?_
    refine RG.pv rfl (PV.mvI (.inr rfl) rfl) ?_
    refine RG.nil ?_
    exact ⟨rfl, i + 1, _, ⟨by omega, by rw [zipB_len hl hl']; simpa using hl2, set_pre he (zipB_get (by omega) (by omega)) (by rw [zipB_len hl hl']; exact hl2)⟩, ⟨rfl, trivial⟩, ⟨rfl, rfl, rfl, trivial⟩, Cv.p, by omega⟩
  · have h3 := of_decide_eq_false h3
    obtain rfl := pre_eq he hl2 (by rw [zipB_len hl hl']; omega)
    refine WP.exit ?_
    refine WP.seq ?_
    refine WP.region ?_
    refine RG.pv rfl (PV.move (v := v9) rfl rfl) ?_
    refine RG.pv rfl (PV.asg (v := v9) rfl rfl) ?_
    refine RG.nil ?_
    refine WP.ret ?_
    exact ⟨_, _, ResV.one rfl rfl, Cv.p, k v9⟩
def opR (f : Bool → Bool → Bool) (xs ys : List Rect) : List Rect := bif isReg xs && isReg ys then canon (zipB f (bits xs) (bits ys)) else []
theorem combine_s {v u fv : Value} {xs ys : List Rect} {f : Bool → Bool → Bool} (h1 : Rs G L rectT v xs) (h2 : Rs G L rectT u ys) (hE : ∀ p q, CB Tryz.prog G L fv [.bool p, .bool q] (.bool (f p q))) (k : ∀ v', R v' G (osl 59 rectT v' (opR f xs ys) :: L)) :
    CallT Tryz.prog 212 #[v, u, fv] G L R := by
  refine CallT.enter (args := _) Tryz.func212 rfl rfl (by kernel_rfl) rfl ?_
  refine WP.seq ?_
  refine WP.region ?_
  refine RG.pv rfl (PV.asg rfl rfl) ?_
  refine RG.nil ?_
  refine WP.seq ?_
  refine WP.seq ?_
  refine WP.region ?_
  refine RG.pv rfl (PV.move (v := v) rfl rfl) ?_
  refine RG.callF (vs := [v]) rfl rfl En106 rfl (isRegion_s (Rs.up h1) ?_)
  refine RG.pv rfl (PV.not rfl rfl) ?_
  refine RG.pv rfl (PV.mvB (.inl rfl) rfl) ?_
  refine RG.gs rfl rfl rfl (fun hp => (PV.move (v := u) rfl rfl)) ?_
  refine RG.gsC rfl rfl rfl rfl En106 (fun hp => ⟨_, (acons (gs_t hp) anil), isRegion_s (Rs.up h2) ⟨rfl, rfl, rfl⟩⟩) ?_
  refine RG.gs rfl rfl rfl (fun hp => (PV.not rfl (gs_t hp))) ?_
  refine RG.pv rfl (PV.pickO rfl rfl rfl (fun hq => gs_t (geqF hq))) ?_
  refine RG.nil ?_
  refine WP.cond rfl (fun h3 => ?_) (fun h3 => ?_)
  · have e : opR f xs ys = [] := by simp only [opR]; cases h4 : isReg xs <;> cases h5 : isReg ys <;> simp_all
    rw [e] at k
    refine WP.seq ?_
    refine WP.region ?_
    refine RG.pv rfl (PV.asg rfl rfl) ?_
    refine RG.nil ?_
    refine WP.ret ?_
    exact ⟨_, _, ResV.one rfl rfl, Cv.nilS, k _⟩
  · have hx : isReg xs = true := by cases h4 : isReg xs <;> simp_all
    have hy : isReg ys = true := by cases h5 : isReg ys <;> simp_all
    have e : opR f xs ys = canon (zipB f (bits xs) (bits ys)) := by simp [opR, hx, hy]
    rw [e] at k
    refine WP.skip ?_
    refine WP.seq ?_
    refine WP.region ?_
    refine RG.pv rfl (PV.move (v := v) rfl rfl) ?_
    refine RG.callF (vs := [v]) rfl rfl En124 rfl (cellsOf_s (Rs.up h1) (fun b7 => ?_))
    refine RG.pv rfl (PV.move (v := u) rfl rfl) ?_
    refine RG.callF (vs := [u]) rfl rfl En124 rfl (cellsOf_s (Rs.up h2) (fun b8 => ?_))
    refine RG.pv rfl (PV.build0 rfl Tryz.underlying218 ⟨80, by kernel_rfl⟩ (zeroB_spec (n := 6400) (by kernel_rfl))) ?_
    refine RG.ot rfl (OT.boxG rfl rfl fun b25 => ?_)
    refine RG.pv rfl (PV.asg rfl rfl) ?_
    refine RG.pv rfl (PV.asg rfl rfl) ?_
    refine RG.pv rfl (PV.mvP (.inr rfl) rfl) ?_
    refine RG.nil ?_
    refine WP.seq ?_
    refine WP.seq ?_
    refine WP.region ?_
    refine RG.pv rfl (PV.mvI (.inl rfl) rfl) ?_
    refine RG.nil ?_
    refine WP.block ?_
    have hlx := bits_length xs
    have hly := bits_length ys
    refine WP.loop2 [2, 7, 8, 9] (fun (i : Nat) (cs : List Bool) => i ≤ 80 ∧ cs.length = 6400 ∧ ∀ j, j < i * 80 → gd cs j = f (gd (bits xs) j) (gd (bits ys) j)) (fun (i : Nat) (cs : List Bool) => [(26, vi i)]) (fun (i : Nat) (cs : List Bool) => grd b25 cs :: grd b8 (bits ys) :: grd b7 (bits xs) :: L) (fun (i : Nat) (cs : List Bool) => 80 - i) 0 (List.replicate 6400 false) ⟨by omega, by simp, fun j h => by omega⟩ ⟨rfl, trivial⟩ Cv.p ?_
    rintro i cs τ ⟨hi, hlc, hc⟩
    refine WP.seq ?_
    refine WP.region ?_
    refine RG.pv rfl (PV.lss rfl rfl rfl) ?_
    refine RG.nil ?_
    refine WP.seq ?_
    refine WP.cond rfl (fun h4 => ?_) (fun h4 => ?_)
    · have h4 := of_decide_eq_true h4
      refine WP.skip ?_
      refine WP.seq ?_
      refine WP.block ?_
      refine WP.seq ?_
      refine WP.region ?_
      refine RG.pv rfl (PV.mvI (.inl rfl) rfl) ?_
      refine RG.pv rfl (PV.mvI (.inr rfl) rfl) ?_
      refine RG.nil ?_
      refine WP.seq ?_
      refine WP.region ?_
      refine RG.pv rfl (PV.mvI (.inl rfl) rfl) ?_
      refine RG.nil ?_
      refine WP.block ?_
      refine WP.loop2 [2, 7, 8, 9, 10, 26] (fun (m : Nat) (ds : List Bool) => m ≤ 80 ∧ ds.length = 6400 ∧ ∀ j, j < i * 80 + m → gd ds j = f (gd (bits xs) j) (gd (bits ys) j)) (fun (m : Nat) (ds : List Bool) => [(29, vi m)]) (fun (m : Nat) (ds : List Bool) => grd b25 ds :: grd b8 (bits ys) :: grd b7 (bits xs) :: L) (fun (m : Nat) (ds : List Bool) => 80 - m) 0 cs ⟨by omega, hlc, fun j h => hc j (by omega)⟩ ⟨rfl, trivial⟩ Cv.p ?_
      rintro m ds τ1 ⟨hm, hld, hd⟩
      refine WP.seq ?_
      refine WP.region ?_
      refine RG.pv rfl (PV.lss rfl rfl rfl) ?_
      refine RG.nil ?_
      refine WP.seq ?_
      refine WP.cond rfl (fun h5 => ?_) (fun h5 => ?_)
      · have h5 := of_decide_eq_true h5
        refine WP.skip ?_
        refine WP.seq ?_
        refine WP.block ?_
        refine WP.seq ?_
        refine WP.region ?_
        refine RG.pv rfl (PV.mvI (.inl rfl) rfl) ?_
        refine RG.pv rfl (PV.mvI (.inr rfl) rfl) ?_
        refine RG.nil ?_
        refine WP.regionHD [.b b25] (.q 0 (.q 1 (.q 2 (.q 3 (.q 4 (.q 5 (.q 6 (.q 7 (.q 8 (.q 9 (.q 10 (.q 11 (.q 12 (.q 13 (.q 14 (.q 15 (.q 16 (.q 17 (.q 19 (.q 20 (.l 18 (.q 21 (.l 22 Sch.nil))))))))))))))))))))))) (by kernel_rfl) (by kernel_rfl) (by kernel_rfl) rfl ?_
        refine RH.pv rfl (fun _ _ _ _ h => h) (Gh.le_refl _) PickC.pick rfl (PV.mvP (.inl rfl) rfl) ?_
        refine RH.pv rfl (fun _ _ _ _ h => h) (Gh.le_refl _) PickC.pick rfl (PV.mvI (.inl rfl) rfl) ?_
        refine RH.pv rfl (fun _ _ _ _ h => h) (Gh.le_refl _) PickC.pick rfl (PV.mvI (.inl rfl) rfl) ?_
        refine RH.pv rfl (fun _ _ _ _ h => h) (Gh.le_refl _) PickC.pick rfl (PV.move (v := fv) rfl rfl) ?_
        refine RH.pv rfl (fun _ _ _ _ h => h) (Gh.le_refl _) PickC.pick rfl (PV.mvP (.inl rfl) rfl) ?_
        refine RH.pv rfl (fun _ _ _ _ h => h) (Gh.le_refl _) PickC.pick rfl (PV.mvI (.inl rfl) rfl) ?_
        refine RH.pv rfl (fun _ _ _ _ h => h) (Gh.le_refl _) PickC.pick rfl (PV.mvI (.inl rfl) rfl) ?_
        refine RH.pv rfl (fun _ _ _ _ h => h) (Gh.le_refl _) PickC.pick rfl (PV.nilc rfl rfl) ?_
        refine RH.pv rfl (fun _ _ _ _ h => h) (Gh.le_refl _) PickC.pick rfl (PV.idxA rfl Ia218 rfl rfl rfl (by omega)) ?_
        refine RH.pv rfl (fun _ _ _ _ h => h) (Gh.le_refl _) PickC.pick rfl (PV.idxA rfl Ia216 rfl rfl rfl (by omega)) ?_
        refine RH.pv rfl (fun _ _ _ _ h => h) (Gh.le_refl _) PickC.pick rfl (PV.loadGr rfl Sc4 rfl rfl (by omega)) ?_
        refine RH.pv rfl (fun _ _ _ _ h => h) (Gh.le_refl _) PickC.pick rfl (PV.mvP (.inl rfl) rfl) ?_
        refine RH.pv rfl (fun _ _ _ _ h => h) (Gh.le_refl _) PickC.pick rfl (PV.mvI (.inl rfl) rfl) ?_
        refine RH.pv rfl (fun _ _ _ _ h => h) (Gh.le_refl _) PickC.pick rfl (PV.mvI (.inl rfl) rfl) ?_
        refine RH.pv rfl (fun _ _ _ _ h => h) (Gh.le_refl _) PickC.pick rfl (PV.nilc rfl rfl) ?_
        refine RH.pv rfl (fun _ _ _ _ h => h) (Gh.le_refl _) PickC.pick rfl (PV.idxA rfl Ia218 rfl rfl rfl (by omega)) ?_
        refine RH.pv rfl (fun _ _ _ _ h => h) (Gh.le_refl _) PickC.pick rfl (PV.idxA rfl Ia216 rfl rfl rfl (by omega)) ?_
        refine RH.pv rfl (fun _ _ _ _ h => h) (Gh.le_refl _) PickC.pick rfl (PV.loadGr rfl Sc4 rfl rfl (by omega)) ?_
        refine RH.pv rfl (fun _ _ _ _ h => h) (Gh.le_refl _) PickC.pick rfl (PV.nilc rfl rfl) ?_
        refine RH.pv rfl (fun _ _ _ _ h => h) (Gh.le_refl _) PickC.pick rfl (PV.idxA rfl Ia218 rfl rfl rfl (by omega)) ?_
        refine RH.ot rfl rfl (OT.callB (vs := [_, _]) rfl rfl rfl (CB.up (hE _ _)) ⟨Gh.le_refl _, PickC.pick, ?_⟩)
        refine RH.pv rfl (fun _ _ _ _ h => h) (Gh.le_refl _) PickC.pick rfl (PV.idxA rfl Ia216 rfl rfl rfl (by omega)) ?_
        refine RH.ot rfl rfl (OT.storeGr rfl Sz4 rfl rfl rfl (by first | omega | (simp; omega)) ⟨Gh.le_refl _, PickC.pick, ?_⟩)
        refine RH.nil ?_
        refine WP.region ?_
        refine RG.pv rfl (PV.add rfl rfl rfl (by omega)) ?_
        refine RG.pv rfl (PV.mvI (.inl rfl) rfl) ?_
        refine RG.nil ?_
        refine ⟨rfl, m + 1, (ds.set (0 + i * 80 + m * 1) (f (gd (bits xs) (0 + i * 80 + m * 1)) (gd (bits ys) (0 + i * 80 + m * 1)))), ⟨by omega, by simpa using hld, fun j hj => ?_⟩, ⟨rfl, trivial⟩, ⟨rfl, rfl, rfl, rfl, rfl, rfl, trivial⟩, Cv.p, by omega⟩
        rw [show 0 + i * 80 + m * 1 = i * 80 + m by omega]
        by_cases c : j = i * 80 + m
        · subst c; rw [gd_eq (by simp; omega)]; simp
        · have := hd j (by omega)
          rw [← this]; simp only [gd]; rw [List.getElem?_set, if_neg (Ne.symm c)]
      · have h5 := of_decide_eq_false h5
        refine WP.exit ?_
        refine WP.region ?_
        refine RG.pv rfl (PV.add rfl rfl rfl (by omega)) ?_
        refine RG.pv rfl (PV.mvI (.inl rfl) rfl) ?_
        refine RG.nil ?_
        exact ⟨rfl, i + 1, ds, ⟨by omega, hld, fun j hj => hd j (by omega)⟩, ⟨rfl, trivial⟩, ⟨rfl, rfl, rfl, rfl, trivial⟩, Cv.p, by omega⟩
    · have h4 := of_decide_eq_false h4
      have hz : cs = zipB f (bits xs) (bits ys) := by
        have hzl := zipB_len (f := f) hlx hly
        apply List.ext_getElem?
        intro j
        by_cases hj : j < 6400
        · rw [getG (by omega), hc j (by omega), zipB_get (by omega) (by omega)]
        · rw [List.getElem?_eq_none (by omega), List.getElem?_eq_none (by omega)]
      rw [← hz] at k
      refine WP.exit ?_
      refine WP.seq ?_
      refine WP.region ?_
      refine RG.pv rfl (PV.mvP (.inl rfl) rfl) ?_
      refine RG.callF (vs := [(.pointer (some ⟨b25, 0, none⟩))]) rfl rfl En151 rfl (CallT.exB (region_s hlc (fun v57 => ?_)))
      refine RG.pv rfl (PV.asg (v := v57) rfl rfl) ?_
      refine RG.nil ?_
      refine WP.ret ?_
      exact ⟨_, _, ResV.one rfl rfl, Cv.p, k v57⟩
theorem inter1_s {p q : Bool} (k : R (.bool (p && q)) G L) : CallT Tryz.prog 218 #[.bool p, .bool q] G L R := by
  refine CallT.enter (args := _) Tryz.func218 rfl rfl (by kernel_rfl) rfl ?_
  refine WP.seq ?_
  refine WP.region ?_
  refine RG.pv rfl (PV.mvB (.inr rfl) rfl) ?_
  refine RG.nil ?_
  refine WP.seq ?_
  refine WP.region ?_
  refine RG.pv rfl (PV.mvB (.inl rfl) rfl) ?_
  refine RG.pv rfl (PV.mvB (.inl rfl) rfl) ?_
  refine RG.gs rfl rfl rfl (fun hp => (PV.mvB (.inl rfl) rfl)) ?_
  refine RG.pv rfl (PV.pickA rfl rfl (fun hq => gs_t (geqT hq)) rfl) ?_
  refine RG.pv rfl (PV.mvB (.inr rfl) rfl) ?_
  refine RG.nil ?_
  refine WP.ret ?_
  exact ⟨_, _, ResV.one rfl rfl, Cv.p, k⟩
theorem diff1_s {p q : Bool} (k : R (.bool (p && !q)) G L) : CallT Tryz.prog 213 #[.bool p, .bool q] G L R := by
  refine CallT.enter (args := _) Tryz.func213 rfl rfl (by kernel_rfl) rfl ?_
  refine WP.seq ?_
  refine WP.region ?_
  refine RG.pv rfl (PV.mvB (.inr rfl) rfl) ?_
  refine RG.nil ?_
  refine WP.seq ?_
  refine WP.region ?_
  refine RG.pv rfl (PV.mvB (.inl rfl) rfl) ?_
  refine RG.pv rfl (PV.mvB (.inl rfl) rfl) ?_
  refine RG.gs rfl rfl rfl (fun hp => (PV.mvB (.inl rfl) rfl)) ?_
  refine RG.gs rfl rfl rfl (fun hp => (PV.not rfl (gs_t hp))) ?_
  refine RG.pv rfl (PV.pickA rfl rfl (fun hq => gs_t (geqT hq)) rfl) ?_
  refine RG.pv rfl (PV.mvB (.inr rfl) rfl) ?_
  refine RG.nil ?_
  refine WP.ret ?_
  exact ⟨_, _, ResV.one rfl rfl, Cv.p, k⟩
theorem inter_s {v u : Value} {xs ys : List Rect} (h1 : Rs G L rectT v xs) (h2 : Rs G L rectT u ys) (k : ∀ v', R v' G (osl 59 rectT v' (opR (fun p q => p && q) xs ys) :: L)) : CallT Tryz.prog 189 #[v, u] G L R := by
  refine CallT.enter (args := _) Tryz.func189 rfl rfl (by kernel_rfl) rfl ?_
  refine WP.seq ?_
  refine WP.region ?_
  refine RG.pv rfl (PV.asg rfl rfl) ?_
  refine RG.nil ?_
  refine WP.seq ?_
  refine WP.region ?_
  refine RG.pv rfl (PV.move (v := v) rfl rfl) ?_
  refine RG.pv rfl (PV.move (v := u) rfl rfl) ?_
  refine RG.callF (vs := [v, u, _]) rfl rfl En212 rfl (combine_s (f := fun p q => p && q) (Rs.up h1) (Rs.up h2) (fun p q => CB.mk0 En218 fun L' R c k => inter1_s k) (fun v7 => ?_))
  refine RG.pv rfl (PV.asg (v := v7) rfl rfl) ?_
  refine RG.nil ?_
  refine WP.ret ?_
  exact ⟨_, _, ResV.one rfl rfl, Cv.p, k v7⟩
theorem diff_s {v u : Value} {xs ys : List Rect} (h1 : Rs G L rectT v xs) (h2 : Rs G L rectT u ys) (k : ∀ v', R v' G (osl 59 rectT v' (opR (fun p q => p && !q) xs ys) :: L)) : CallT Tryz.prog 186 #[v, u] G L R := by
  refine CallT.enter (args := _) Tryz.func186 rfl rfl (by kernel_rfl) rfl ?_
  refine WP.seq ?_
  refine WP.region ?_
  refine RG.pv rfl (PV.asg rfl rfl) ?_
  refine RG.nil ?_
  refine WP.seq ?_
  refine WP.region ?_
  refine RG.pv rfl (PV.move (v := v) rfl rfl) ?_
  refine RG.pv rfl (PV.move (v := u) rfl rfl) ?_
  refine RG.callF (vs := [v, u, _]) rfl rfl En212 rfl (combine_s (f := fun p q => p && !q) (Rs.up h1) (Rs.up h2) (fun p q => CB.mk0 En213 fun L' R c k => diff1_s k) (fun v7 => ?_))
  refine RG.pv rfl (PV.asg (v := v7) rfl rfl) ?_
  refine RG.nil ?_
  refine WP.ret ?_
  exact ⟨_, _, ResV.one rfl rfl, Cv.p, k v7⟩
end Go.Proofs.YthjaopefoiploaaGreat
