/-
  Contracts: changed areas of layouts; the law ChangedArea.
-/
import Derived.Test.YtilccgeldnlgnaaW8
namespace Go.Proofs.Ytilccgeldnlgnaa
open Go
set_option maxRecDepth 20000
set_option linter.unusedSimpArgs false
variable {G : Gh} {L : List Ch} {R : Value → Gh → List Ch → Prop}

/-! ## plain -/
def opF (op : Int) (p q : Bool) : Bool := decide (op / ((if q then 2 else 1) * ((if p then 4 else 1) * 1)) % 2 = 1)
theorem opF_or : opF 14 = fun p q => p || q := by funext p q; cases p <;> cases q <;> rfl
theorem opF_xor : opF 6 = fun p q => p != q := by funext p q; cases p <;> cases q <;> rfl
theorem opF_and : opF 8 = fun p q => p && q := by funext p q; cases p <;> cases q <;> rfl
theorem opF_minus : opF 4 = fun p q => p && !q := by funext p q; cases p <;> cases q <;> rfl
abbrev orB (a b : List Bool) : List Bool := zipB (fun p q => p || q) a b
def chgB (l m : List (List Rect)) (k : Nat) : List Bool := zipB (fun p q => p != q) (bits (gd l k)) (bits (gd m k))
theorem chgB_len (l m : List (List Rect)) (k : Nat) : (chgB l m k).length = 6400 := zipB_len (bits_length _) (bits_length _)
def orL (l m : List (List Rect)) (ks : List Nat) : List Bool := ks.foldl (fun b k => orB b (chgB l m k)) (bits [])
theorem orL_len (l m : List (List Rect)) (ks : List Nat) : (orL l m ks).length = 6400 := by
  have : ∀ (ks : List Nat) (b : List Bool), b.length = 6400 → (ks.foldl (fun b k => orB b (chgB l m k)) b).length = 6400 := by
    intro ks
    induction ks with
    | nil => exact fun b h => h
    | cons k ks ih => exact fun b h => ih _ (zipB_len h (chgB_len l m k))
  exact this ks _ (bits_length _)
theorem gb_zip {f : Bool → Bool → Bool} {a b : List Bool} (h : a.length = 6400) (h' : b.length = 6400) {y x : Nat} (hy : y < 80) (hx : x < 80) : gb (zipB f a b) y x = f (gb a y x) (gb b y x) := zipB_gd (by omega) (by omega)
theorem gb_bits (rs : List Rect) {y x : Nat} (hy : y < 80) (hx : x < 80) : gb (bits rs) y x = rs.any fun r => inR r y x := by
  have h : y * 80 + x < 6400 := by omega
  have e1 : (y * 80 + x) / 80 = y := by omega
  have e2 : (y * 80 + x) % 80 = x := by omega
  rw [gb, gd_eq (by rw [bits_length]; exact h)]
  simp [bits, e1, e2]
theorem gb_orL (l m : List (List Rect)) (ks : List Nat) {y x : Nat} (hy : y < 80) (hx : x < 80) : gb (orL l m ks) y x = ks.any fun k => gb (chgB l m k) y x := by
  have : ∀ (ks : List Nat) (b : List Bool), b.length = 6400 → gb (ks.foldl (fun b k => orB b (chgB l m k)) b) y x = (gb b y x || ks.any fun k => gb (chgB l m k) y x) := by
    intro ks
    induction ks with
    | nil => intro b _; simp
    | cons k ks ih =>
      intro b h
      rw [List.foldl_cons, ih _ (zipB_len h (chgB_len l m k)), gb_zip h (chgB_len l m k) hy hx, List.any_cons, Bool.or_assoc]
  rw [orL, this ks _ (bits_length _), gb_bits [] hy hx]; simp
theorem canon_any {bs : List Bool} {y x : Nat} (hy : y < 80) (hx : x < 80) : ((canon bs).any fun r => inR r y x) = gb bs y x := by
  rw [canon, canonFrom_any bs 0 y x hy hx]; simp
theorem bits_orL (l m : List (List Rect)) (ks : List Nat) : bits ((ks.map fun k => canon (chgB l m k)).flatten) = orL l m ks := by
  refine (bits_eq (orL_len l m ks) fun y x hy hx => ?_).symm
  rw [gb_orL l m ks hy hx, List.any_flatten, List.any_map]
  congr 1; funext k; exact (canon_any hy hx).symm
theorem orL_snoc (l m : List (List Rect)) (ks : List Nat) (k : Nat) : orL l m (ks ++ [k]) = orB (orL l m ks) (chgB l m k) := by simp [orL, List.foldl_append]

/-! ## walks -/
theorem isLayoutS_s {v : Value} {xs : List (Sl Rect)} (h1 : Rs G L slT v xs) (hd : RsE G L rectT xs) (k : R (.bool (isLay (er xs))) G L) : CallT Try.prog 31 #[v] G L R := by
  refine CallT.bd h1 fun hb => ?_
  refine CallT.enter (args := _) Try.func31 rfl rfl (by kernel_rfl) rfl ?_
  refine WP.seq ?_
  refine WP.region ?_
  refine RG.pv rfl (PV.mvB (.inr rfl) rfl) ?_
  refine RG.nil ?_
  refine WP.seq ?_
  refine WP.seq ?_
  refine WP.region ?_
  refine RG.pv rfl (PV.move (v := v) rfl rfl) ?_
  refine RG.pv rfl (PV.len (v := v) rfl Try.underlying27 rfl (SlF.r h1)) ?_
  refine RG.pv rfl (PV.neq rfl rfl rfl) ?_
  refine RG.nil ?_
  refine WP.cond rfl (fun h0 => ?_) (fun h0 => ?_)
  · have e : isLay (er xs) = false := by simp at h0; simp [isLay, er_len]; omega
    rw [e] at k
    refine WP.seq ?_
    refine WP.region ?_
    refine RG.pv rfl (PV.mvB (.inr rfl) rfl) ?_
    refine RG.nil ?_
    refine WP.ret ?_
    exact ⟨_, _, ResV.one rfl rfl, Cv.p, k⟩
  · have h8 : xs.length = 8 := by simp at h0; omega
    refine WP.skip ?_
    refine WP.seq ?_
    refine WP.seq ?_
    refine WP.region ?_
    refine RG.pv rfl (PV.mvI (.inr rfl) rfl) ?_
    refine RG.nil ?_
    refine WP.block ?_
    refine WP.loop1 [0] (fun i => i ≤ xs.length ∧ ∀ j, j < i → isReg (gd xs j).xs = true) (fun i => [(3, vi i)]) (fun i => L) (fun i => xs.length - i) 0 ⟨by omega, fun j h => by omega⟩ ⟨rfl, trivial⟩ Cv.p ?_
    rintro i τ ⟨hi, hj⟩
    refine WP.seq ?_
    refine WP.seq ?_
    refine WP.region ?_
    refine RG.pv rfl (PV.mvI (.inl rfl) rfl) ?_
    refine RG.pv rfl (PV.move (v := v) rfl rfl) ?_
    refine RG.pv rfl (PV.len (v := v) rfl Try.underlying27 rfl (SlF.r h1)) ?_
    refine RG.pv rfl (PV.lss rfl rfl rfl) ?_
    refine RG.nil ?_
    refine WP.cond rfl (fun h2 => ?_) (fun h2 => ?_)
    · have h2 := of_decide_eq_true h2
      refine WP.skip ?_
      refine WP.seq ?_
      refine WP.block ?_
      refine WP.seq ?_
      refine WP.region ?_
      refine RG.pv rfl (PV.move (v := v) rfl rfl) ?_
      refine RG.pv rfl (PV.mvI (.inl rfl) rfl) ?_
      refine RG.pv rfl (PV.idxS (v := v) rfl Is27 rfl (SlF.r h1) rfl rfl (by omega)) ?_
      refine RG.pv rfl (PV.loadE1 rfl Sc24 rfl rfl (El.r h1 (getG (by omega))) rfl) ?_
      refine RG.callF (vs := [_]) rfl rfl En83 rfl (l03Ok_s (hd i (by omega)) ?_)
      refine RG.pv rfl (PV.not rfl rfl) ?_
      refine RG.nil ?_
      refine WP.cond rfl (fun h3 => ?_) (fun h3 => ?_)
      · rw [isLay_false (i := i) (by rw [er_len]; omega) (by rw [er_gd]; simpa using h3)] at k
        refine WP.seq ?_
        refine WP.region ?_
        refine RG.pv rfl (PV.mvB (.inr rfl) rfl) ?_
        refine RG.nil ?_
        refine WP.ret ?_
        exact ⟨_, _, ResV.one rfl rfl, Cv.p, k⟩
      · have hj' : ∀ j, j < i + 1 → isReg (gd xs j).xs = true := fun j h => by
          by_cases c : j = i
          · subst c; simpa using h3
          · exact hj j (by omega)
        refine WP.skip ?_
        refine WP.region ?_
        refine RG.pv rfl (PV.mvI (.inl rfl) rfl) ?_
        refine RG.pv rfl (PV.add rfl rfl rfl (by omega)) ?_
        refine RG.pv rfl (PV.mvI (.inr rfl) rfl) ?_
        refine RG.nil ?_
        exact ⟨rfl, i + 1, ⟨by omega, hj'⟩, ⟨rfl, trivial⟩, ⟨rfl, trivial⟩, Cv.p, by omega⟩
    · have h2 := of_decide_eq_false h2
      have e : isLay (er xs) = true := by
        rw [isLay_all (fun i hi => by rw [er_gd]; rw [er_len] at hi; exact hj i (by omega)), er_len, h8]; rfl
      rw [e] at k
      refine WP.exit ?_
      refine WP.seq ?_
      refine WP.region ?_
      refine RG.pv rfl (PV.mvB (.inr rfl) rfl) ?_
      refine RG.nil ?_
      refine WP.ret ?_
      exact ⟨_, _, ResV.one rfl rfl, Cv.p, k⟩
theorem l04Combine_s {v u : Value} {xs ys : List Bool} {op : Int} (h1 : Rs G L boolT v xs) (h2 : Rs G L boolT u ys) (hl : xs.length = 6400) (hl' : ys.length = 6400) (hop : 0 ≤ op ∧ op ≤ 15) (k : ∀ v', R v' G (osl 4 boolT v' (zipB (opF op) xs ys) :: L)) : CallT Try.prog 71 #[v, u, vi op] G L R := by
  have hzl := zipB_len (f := opF op) hl hl'
  refine CallT.enter (args := _) Try.func71 rfl rfl (by kernel_rfl) rfl ?_
  refine WP.seq ?_
  refine WP.region ?_
  refine RG.pv rfl (PV.asg rfl rfl) ?_
  refine RG.nil ?_
  refine WP.seq ?_
  refine WP.region ?_
  refine RG.pv rfl (PV.move (v := v) rfl rfl) ?_
  refine RG.pv rfl (PV.len (v := v) rfl Try.underlying92 rfl (SlF.r h1)) ?_
  refine RG.ot rfl (OT.make (F := boolT) (a0 := false) rfl El92 rfl (by decide) rfl rfl (by omega) (by omega) fun v12 => ?_)
  refine RG.pv rfl (PV.asg (v := v12) rfl rfl) ?_
  refine RG.nil ?_
  refine WP.seq ?_
  refine WP.seq ?_
  refine WP.region ?_
  refine RG.pv rfl (PV.mvI (.inr rfl) rfl) ?_
  refine RG.nil ?_
  refine WP.block ?_
  refine WP.loop2 [0, 1, 2, 7] (fun (i : Nat) (zs : List Bool) => i ≤ 6400 ∧ zs.length = 6400 ∧ ∀ j, j < i → zs[j]? = (zipB (opF op) xs ys)[j]?) (fun (i : Nat) (zs : List Bool) => [(8, vi i)]) (fun (i : Nat) (zs : List Bool) => osl 4 boolT v12 zs :: L) (fun (i : Nat) (zs : List Bool) => 6400 - i) 0 (List.replicate xs.length false) ⟨by omega, by simp [hl], fun j h => by omega⟩ ⟨rfl, trivial⟩ Cv.p ?_
  rintro i zs τ ⟨hi, hl2, he⟩
  refine WP.seq ?_
  refine WP.seq ?_
  refine WP.region ?_
  refine RG.pv rfl (PV.mvI (.inl rfl) rfl) ?_
  refine RG.pv rfl (PV.move (v := v) rfl rfl) ?_
  refine RG.pv rfl (PV.len (v := v) rfl Try.underlying92 rfl (SlF.r h1)) ?_
  refine RG.pv rfl (PV.lss rfl rfl rfl) ?_
  refine RG.nil ?_
  refine WP.cond rfl (fun h3 => ?_) (fun h3 => ?_)
  · have h3 := of_decide_eq_true h3
    have hz := zipB_get (f := opF op) (a := xs) (b := ys) (i := i) (by omega) (by omega)
    refine WP.skip ?_
    refine WP.seq ?_
    refine WP.block ?_
    refine WP.seq ?_
    refine WP.region ?_
    refine RG.pv rfl (PV.mvI (.inr rfl) rfl) ?_
    refine RG.nil ?_
    refine WP.seq ?_
    refine WP.seq ?_
    refine WP.region ?_
    refine RG.pv rfl (PV.move (v := v) rfl rfl) ?_
    refine RG.pv rfl (PV.mvI (.inl rfl) rfl) ?_
    refine RG.pv rfl (PV.idxS (v := v) rfl Is92 rfl (SlF.r h1) rfl rfl (by omega)) ?_
    refine RG.pv rfl (PV.loadE1 rfl Sc4 rfl rfl (El.r h1 (getG (by omega))) rfl) ?_
    refine RG.nil ?_
    refine WP.cond rfl (fun h4 => ?_) (fun h4 => ?_)
    · refine WP.region ?_
      refine RG.pv rfl (PV.mvI (.inl rfl) rfl) ?_
      refine RG.pv rfl (PV.mul rfl rfl rfl (by omega)) ?_
      refine RG.pv rfl (PV.mvI (.inr rfl) rfl) ?_
      refine RG.nil ?_
      refine WP.seq ?_
      refine WP.seq ?_
      refine WP.region ?_
      refine RG.pv rfl (PV.move (v := u) rfl rfl) ?_
      refine RG.pv rfl (PV.mvI (.inl rfl) rfl) ?_
      refine RG.pv rfl (PV.idxS (v := u) rfl Is92 rfl (SlF.r h2) rfl rfl (by omega)) ?_
      refine RG.pv rfl (PV.loadE1 rfl Sc4 rfl rfl (El.r h2 (getG (by omega))) rfl) ?_
      refine RG.nil ?_
      refine WP.cond rfl (fun h5 => ?_) (fun h5 => ?_)
      · refine WP.region ?_
        refine RG.pv rfl (PV.mvI (.inl rfl) rfl) ?_
        refine RG.pv rfl (PV.mul rfl rfl rfl (by omega)) ?_
        refine RG.pv rfl (PV.mvI (.inr rfl) rfl) ?_
        refine RG.nil ?_
        refine WP.region ?_
        refine RG.pv rfl (PV.move (v := v12) rfl rfl) ?_
        refine RG.pv rfl (PV.mvI (.inl rfl) rfl) ?_
        refine RG.pv rfl (PV.mvI (.inl rfl) rfl) ?_
        refine RG.pv rfl (PV.mvI (.inl rfl) rfl) ?_
        refine RG.pv rfl (PV.quo rfl rfl rfl (by omega) (by omega) (by omega)) ?_
        refine RG.pv rfl (PV.rem rfl rfl rfl (by omega) (by omega) (by omega)) ?_
        refine RG.pv rfl (PV.eql rfl rfl rfl) ?_
        refine RG.pv rfl (PV.idxS (v := v12) rfl Is92 rfl SlF.o rfl rfl (by omega)) ?_
        refine RG.ot rfl (OT.storeE (F := boolT) rfl Sz4 rfl rfl rfl (Cl.c rfl) (OneC.c rfl) (by omega) ?_)
        refine RG.nil ?_
        refine WP.region ?_
        refine RG.pv rfl (PV.mvI (.inl rfl) rfl) ?_
        refine RG.pv rfl (PV.add rfl rfl rfl (by omega)) ?_
        refine RG.pv rfl (PV.mvI (.inr rfl) rfl) ?_
        refine RG.nil ?_
        exact ⟨rfl, i + 1, (zs.set i (decide (op / (2 * (4 * 1)) % 2 = 1))), ⟨by omega, by simpa using hl2, set_pre he (by rw [hz, opF, h4, h5]; try rfl) (by omega)⟩, ⟨rfl, trivial⟩, ⟨rfl, rfl, rfl, rfl, trivial⟩, Cv.p, by omega⟩
      · refine WP.skip ?_
        refine WP.region ?_
        refine RG.pv rfl (PV.move (v := v12) rfl rfl) ?_
        refine RG.pv rfl (PV.mvI (.inl rfl) rfl) ?_
        refine RG.pv rfl (PV.mvI (.inl rfl) rfl) ?_
        refine RG.pv rfl (PV.mvI (.inl rfl) rfl) ?_
        refine RG.pv rfl (PV.quo rfl rfl rfl (by omega) (by omega) (by omega)) ?_
        refine RG.pv rfl (PV.rem rfl rfl rfl (by omega) (by omega) (by omega)) ?_
        refine RG.pv rfl (PV.eql rfl rfl rfl) ?_
        refine RG.pv rfl (PV.idxS (v := v12) rfl Is92 rfl SlF.o rfl rfl (by omega)) ?_
        refine RG.ot rfl (OT.storeE (F := boolT) rfl Sz4 rfl rfl rfl (Cl.c rfl) (OneC.c rfl) (by omega) ?_)
        refine RG.nil ?_
        refine WP.region ?_
        refine RG.pv rfl (PV.mvI (.inl rfl) rfl) ?_
        refine RG.pv rfl (PV.add rfl rfl rfl (by omega)) ?_
        refine RG.pv rfl (PV.mvI (.inr rfl) rfl) ?_
        refine RG.nil ?_
        exact ⟨rfl, i + 1, (zs.set i (decide (op / (4 * 1) % 2 = 1))), ⟨by omega, by simpa using hl2, set_pre he (by rw [hz, opF, h4, h5]; try rfl) (by omega)⟩, ⟨rfl, trivial⟩, ⟨rfl, rfl, rfl, rfl, trivial⟩, Cv.p, by omega⟩
    · refine WP.skip ?_
      refine WP.seq ?_
      refine WP.seq ?_
      refine WP.region ?_
      refine RG.pv rfl (PV.move (v := u) rfl rfl) ?_
      refine RG.pv rfl (PV.mvI (.inl rfl) rfl) ?_
      refine RG.pv rfl (PV.idxS (v := u) rfl Is92 rfl (SlF.r h2) rfl rfl (by omega)) ?_
      refine RG.pv rfl (PV.loadE1 rfl Sc4 rfl rfl (El.r h2 (getG (by omega))) rfl) ?_
      refine RG.nil ?_
      refine WP.cond rfl (fun h5 => ?_) (fun h5 => ?_)
      · refine WP.region ?_
        refine RG.pv rfl (PV.mvI (.inl rfl) rfl) ?_
        refine RG.pv rfl (PV.mul rfl rfl rfl (by omega)) ?_
        refine RG.pv rfl (PV.mvI (.inr rfl) rfl) ?_
        refine RG.nil ?_
        refine WP.region ?_
        refine RG.pv rfl (PV.move (v := v12) rfl rfl) ?_
        refine RG.pv rfl (PV.mvI (.inl rfl) rfl) ?_
        refine RG.pv rfl (PV.mvI (.inl rfl) rfl) ?_
        refine RG.pv rfl (PV.mvI (.inl rfl) rfl) ?_
        refine RG.pv rfl (PV.quo rfl rfl rfl (by omega) (by omega) (by omega)) ?_
        refine RG.pv rfl (PV.rem rfl rfl rfl (by omega) (by omega) (by omega)) ?_
        refine RG.pv rfl (PV.eql rfl rfl rfl) ?_
        refine RG.pv rfl (PV.idxS (v := v12) rfl Is92 rfl SlF.o rfl rfl (by omega)) ?_
        refine RG.ot rfl (OT.storeE (F := boolT) rfl Sz4 rfl rfl rfl (Cl.c rfl) (OneC.c rfl) (by omega) ?_)
        refine RG.nil ?_
        refine WP.region ?_
        refine RG.pv rfl (PV.mvI (.inl rfl) rfl) ?_
        refine RG.pv rfl (PV.add rfl rfl rfl (by omega)) ?_
        refine RG.pv rfl (PV.mvI (.inr rfl) rfl) ?_
        refine RG.nil ?_
        exact ⟨rfl, i + 1, (zs.set i (decide (op / (2 * 1) % 2 = 1))), ⟨by omega, by simpa using hl2, set_pre he (by rw [hz, opF, h4, h5]; try rfl) (by omega)⟩, ⟨rfl, trivial⟩, ⟨rfl, rfl, rfl, rfl, trivial⟩, Cv.p, by omega⟩
      · refine WP.skip ?_
        refine WP.region ?_
        refine RG.pv rfl (PV.move (v := v12) rfl rfl) ?_
        refine RG.pv rfl (PV.mvI (.inl rfl) rfl) ?_
        refine RG.pv rfl (PV.mvI (.inl rfl) rfl) ?_
        refine RG.pv rfl (PV.mvI (.inl rfl) rfl) ?_
        refine RG.pv rfl (PV.quo rfl rfl rfl (by omega) (by omega) (by omega)) ?_
        refine RG.pv rfl (PV.rem rfl rfl rfl (by omega) (by omega) (by omega)) ?_
        refine RG.pv rfl (PV.eql rfl rfl rfl) ?_
        refine RG.pv rfl (PV.idxS (v := v12) rfl Is92 rfl SlF.o rfl rfl (by omega)) ?_
        refine RG.ot rfl (OT.storeE (F := boolT) rfl Sz4 rfl rfl rfl (Cl.c rfl) (OneC.c rfl) (by omega) ?_)
        refine RG.nil ?_
        refine WP.region ?_
        refine RG.pv rfl (PV.mvI (.inl rfl) rfl) ?_
        refine RG.pv rfl (PV.add rfl rfl rfl (by omega)) ?_
        refine RG.pv rfl (PV.mvI (.inr rfl) rfl) ?_
        refine RG.nil ?_
        exact ⟨rfl, i + 1, (zs.set i (decide (op / 1 % 2 = 1))), ⟨by omega, by simpa using hl2, set_pre he (by rw [hz, opF, h4, h5]; try rfl) (by omega)⟩, ⟨rfl, trivial⟩, ⟨rfl, rfl, rfl, rfl, trivial⟩, Cv.p, by omega⟩
  · have h3 := of_decide_eq_false h3
    obtain rfl := pre_eq he (by omega) (by omega)
    refine WP.exit ?_
    refine WP.seq ?_
    refine WP.region ?_
    refine RG.pv rfl (PV.move (v := v12) rfl rfl) ?_
    refine RG.pv rfl (PV.asg (v := v12) rfl rfl) ?_
    refine RG.nil ?_
    refine WP.ret ?_
    exact ⟨_, _, ResV.one rfl rfl, Cv.p, k v12⟩
theorem xor1_s {p q : Bool} (k : R (.bool (p != q)) G L) : CallT Try.prog 93 #[.bool p, .bool q] G L R := by
  refine CallT.enter (args := _) Try.func93 rfl rfl (by kernel_rfl) rfl ?_
  refine WP.seq ?_
  refine WP.region ?_
  refine RG.pv rfl (PV.mvB (.inr rfl) rfl) ?_
  refine RG.nil ?_
  refine WP.seq ?_
  refine WP.region ?_
  refine RG.pv rfl (PV.mvB (.inl rfl) rfl) ?_
  refine RG.pv rfl (PV.mvB (.inl rfl) rfl) ?_
  refine RG.pv rfl (PV.neqB rfl Try.underlying4 rfl rfl) ?_
  refine RG.pv rfl (PV.mvB (.inr rfl) rfl) ?_
  refine RG.nil ?_
  refine WP.ret ?_
  exact ⟨_, _, ResV.one rfl rfl, Cv.p, k⟩
theorem symd_s {v u : Value} {xs ys : List Rect} (h1 : Rs G L rectT v xs) (h2 : Rs G L rectT u ys) (k : ∀ v', R v' G (osl 81 rectT v' (opR (fun p q => p != q) xs ys) :: L)) : CallT Try.prog 35 #[v, u] G L R := by
  refine CallT.enter (args := _) Try.func35 rfl rfl (by kernel_rfl) rfl ?_
  refine WP.seq ?_
  refine WP.region ?_
  refine RG.pv rfl (PV.asg rfl rfl) ?_
  refine RG.nil ?_
  refine WP.seq ?_
  refine WP.region ?_
  refine RG.pv rfl (PV.move (v := v) rfl rfl) ?_
  refine RG.pv rfl (PV.move (v := u) rfl rfl) ?_
  refine RG.callF (vs := [v, u, _]) rfl rfl En92 rfl (combine_s (f := fun p q => p != q) (Rs.up h1) (Rs.up h2) (fun p q => CB.mk0 En93 fun L' R c k => xor1_s k) (fun v7 => ?_))
  refine RG.pv rfl (PV.asg (v := v7) rfl rfl) ?_
  refine RG.nil ?_
  refine WP.ret ?_
  exact ⟨_, _, ResV.one rfl rfl, Cv.p, k v7⟩
theorem unionAll_s {v : Value} {xs : List (Sl Rect)} (h1 : Rs G L slT v xs) (hd : RsE G L rectT xs) (k : ∀ v', R v' G (osl 81 rectT v' (canon (bits (er xs).flatten)) :: L)) : CallT Try.prog 124 #[v] G L R := by
  refine CallT.bd h1 fun hb => ?_
  refine CallT.enter (args := _) Try.func124 rfl rfl (by kernel_rfl) rfl ?_
  refine WP.seq ?_
  refine WP.region ?_
  refine RG.pv rfl (PV.asg rfl rfl) ?_
  refine RG.nil ?_
  refine WP.seq ?_
  refine WP.region ?_
  refine RG.pv rfl (PV.build0 rfl Try.underlying168 ⟨80, by kernel_rfl⟩ (zeroB_spec (n := 6400) (by kernel_rfl))) ?_
  refine RG.ot rfl (OT.boxG rfl rfl fun b9 => ?_)
  refine RG.pv rfl (PV.mvP (.inr rfl) rfl) ?_
  refine RG.nil ?_
  refine WP.seq ?_
  refine WP.seq ?_
  refine WP.region ?_
  refine RG.pv rfl (PV.move (v := v) rfl rfl) ?_
  refine RG.pv rfl (PV.len (v := v) rfl Try.underlying27 rfl (SlF.r h1)) ?_
  refine RG.pv rfl (PV.mvI (.inl rfl) rfl) ?_
  refine RG.nil ?_
  refine WP.block ?_
  refine WP.loop2 [3, 10, 11] (fun (i : Nat) (cs : List Bool) => i ≤ xs.length ∧ cs.length = 6400 ∧ ∀ y x, y < 80 → x < 80 → gb cs y x = (xs.take i).any fun s => s.xs.any fun r => inR r y x) (fun (i : Nat) (cs : List Bool) => [(12, vi i)]) (fun (i : Nat) (cs : List Bool) => grd b9 cs :: L) (fun (i : Nat) (cs : List Bool) => xs.length - i) 0 (List.replicate 6400 false) ⟨by omega, by simp, fun y x _ _ => by rw [gb_rep]; simp⟩ ⟨rfl, trivial⟩ Cv.p ?_
  rintro i cs τ ⟨hi, hl, hc⟩
  refine WP.seq ?_
  refine WP.region ?_
  refine RG.pv rfl (PV.lss rfl rfl rfl) ?_
  refine RG.nil ?_
  refine WP.seq ?_
  refine WP.cond rfl (fun h2 => ?_) (fun h2 => ?_)
  · have h2 := of_decide_eq_true h2
    have h3 : i < xs.length := by omega
    refine WP.bd (hd i h3) fun hb2 => ?_
    refine WP.skip ?_
    refine WP.seq ?_
    refine WP.block ?_
    refine WP.seq ?_
    refine WP.region ?_
    refine RG.pv rfl (PV.idxS (v := v) rfl Is27 rfl (SlF.r h1) rfl rfl (by omega)) ?_
    refine RG.pv rfl (PV.loadE1 rfl Sc24 rfl rfl (El.r h1 (getG (by omega))) rfl) ?_
    refine RG.pv rfl (PV.asg rfl rfl) ?_
    refine RG.nil ?_
    refine WP.seq ?_
    refine WP.region ?_
    refine RG.pv rfl (PV.move rfl rfl) ?_
    refine RG.pv rfl (PV.len rfl Try.underlying24 rfl (SlF.r (hd i h3))) ?_
    refine RG.pv rfl (PV.mvI (.inl rfl) rfl) ?_
    refine RG.nil ?_
    refine WP.block ?_
    refine WP.loop2 [3, 10, 11, 12, 16, 17] (fun (j : Nat) (ds : List Bool) => j ≤ (gd xs i).xs.length ∧ ds.length = 6400 ∧ ∀ y x, y < 80 → x < 80 → gb ds y x = (gb cs y x || ((gd xs i).xs.take j).any fun r => inR r y x)) (fun (j : Nat) (ds : List Bool) => [(18, vi j)]) (fun (j : Nat) (ds : List Bool) => grd b9 ds :: L) (fun (j : Nat) (ds : List Bool) => (gd xs i).xs.length - j) 0 cs ⟨by omega, hl, fun y x _ _ => by simp⟩ ⟨rfl, trivial⟩ Cv.p ?_
    rintro j ds τ1 ⟨hj, hl2, hc2⟩
    refine WP.seq ?_
    refine WP.region ?_
    refine RG.pv rfl (PV.lss rfl rfl rfl) ?_
    refine RG.nil ?_
    refine WP.seq ?_
    refine WP.cond rfl (fun h4 => ?_) (fun h4 => ?_)
    · have h4 := of_decide_eq_true h4
      refine WP.skip ?_
      refine WP.seq ?_
      refine WP.block ?_
      refine WP.seq ?_
      refine WP.region ?_
      refine RG.pv rfl (PV.idxS rfl Is24 rfl (SlF.r (hd i h3)) rfl rfl (by omega)) ?_
      refine RG.pv rfl (PV.loadE rfl Ag81 rfl rfl (El.r (hd i h3) (getG (by omega)))) ?_
      refine RG.ot rfl (OT.alloc rfl Zr81 fun b7 => ?_)
      refine RG.ot rfl (OT.storeW (vs := [vi _, vi _, vi _, vi _]) rfl Sz81 rfl rfl (Cl.c rfl) rfl rfl (OneC.c rfl) ?_)
      refine RG.nil ?_
      refine WP.region ?_
      refine RG.pv rfl (PV.mvP (.inl rfl) rfl) ?_
      refine RG.pv rfl (PV.loadW rfl Ag81 rfl rfl) ?_
      refine RG.callF (vs := [(.pointer (some ⟨b9, 0, none⟩)), _]) rfl rfl En145 rfl (CallT.exB (put_s (by assumption) (fun bs' hb' hg' => ?_)))
      refine RG.nil ?_
      refine WP.region ?_
      refine RG.pv rfl (PV.add rfl rfl rfl (by omega)) ?_
      refine RG.pv rfl (PV.mvI (.inl rfl) rfl) ?_
      refine RG.nil ?_
      refine ⟨rfl, j + 1, bs', ⟨by omega, hb', fun y x h5 h6 => ?_⟩, ⟨rfl, trivial⟩, ⟨rfl, rfl, rfl, rfl, rfl, rfl, trivial⟩, Cv.p, by omega⟩
      rw [hg' y x h5 h6, hc2 y x h5 h6, List.take_add_one, getG (by omega), List.any_append, Bool.or_assoc]; simp
    · have h4 := of_decide_eq_false h4
      refine WP.exit ?_
      refine WP.region ?_
      refine RG.pv rfl (PV.add rfl rfl rfl (by omega)) ?_
      refine RG.pv rfl (PV.mvI (.inl rfl) rfl) ?_
      refine RG.nil ?_
      refine ⟨rfl, i + 1, ds, ⟨by omega, hl2, fun y x h5 h6 => ?_⟩, ⟨rfl, trivial⟩, ⟨rfl, rfl, rfl, trivial⟩, Cv.p, by omega⟩
      rw [hc2 y x h5 h6, hc y x h5 h6, List.take_of_length_le (l := (gd xs i).xs) (by omega), List.take_add_one, getG h3, List.any_append]; simp
  · have h2 := of_decide_eq_false h2
    have e : cs = bits (er xs).flatten := bits_eq hl fun y x h5 h6 => by
      rw [hc y x h5 h6, List.take_of_length_le (by omega), List.any_flatten, er, List.any_map]; rfl
    subst e
    refine WP.exit ?_
    refine WP.seq ?_
    refine WP.region ?_
    refine RG.pv rfl (PV.mvP (.inl rfl) rfl) ?_
    refine RG.callF (vs := [(.pointer (some ⟨b9, 0, none⟩))]) rfl rfl En142 rfl (CallT.exB (region_s (bits_length _) (fun v28 => ?_)))
    refine RG.pv rfl (PV.asg (v := v28) rfl rfl) ?_
    refine RG.nil ?_
    refine WP.ret ?_
    exact ⟨_, _, ResV.one rfl rfl, Cv.p, k v28⟩
theorem changed_s {v u w : Value} {xs ys : List (Sl Rect)} {ks : List Nat} (h1 : Rs G L slT v xs) (hd : RsE G L rectT xs) (h2 : Rs G L slT u ys) (hd' : RsE G L rectT ys) (h3 : Rs G L intT w (ks.map Int.ofNat)) (hx : isLay (er xs) = true) (hy : isLay (er ys) = true) (hk' : (ks.all fun k => decide (k < 8)) = true) (hkl : ks.length ≤ 100)
    (k : ∀ v', R v' G (osl 81 rectT v' (canon (orL (er xs) (er ys) ks)) :: L)) : CallT Try.prog 76 #[v, u, w] G L R := by
  have h8 : xs.length = 8 := by have := isLay_len hx; rwa [er_len] at this
  have h8' : ys.length = 8 := by have := isLay_len hy; rwa [er_len] at this
  have hml : (ks.map Int.ofNat).length = ks.length := by simp
  have hk : ∀ i, i < ks.length → gd ks i < 8 := fun i hi => by
    have := List.all_eq_true.1 hk' _ (List.getElem_mem hi)
    rw [gd_eq hi]; simpa using this
  refine CallT.enter (args := _) Try.func76 rfl rfl (by kernel_rfl) rfl ?_
  refine WP.seq ?_
  refine WP.region ?_
  refine RG.pv rfl (PV.asg rfl rfl) ?_
  refine RG.nil ?_
  refine WP.seq ?_
  refine WP.region ?_
  refine RG.ot rfl (OT.bslice (F := (slT (α := Rect))) (els := []) rfl El27 rfl (by decide) rfl (by decide) trivial fun v10 => ?_)
  refine RG.pv rfl (PV.asg (v := v10) rfl rfl) ?_
  refine RG.nil ?_
  refine WP.seq ?_
  refine WP.seq ?_
  refine WP.region ?_
  refine RG.pv rfl (PV.move (v := w) rfl rfl) ?_
  refine RG.pv rfl (PV.len (v := w) rfl Try.underlying116 rfl (SlF.r h3)) ?_
  refine RG.pv rfl (PV.mvI (.inl rfl) rfl) ?_
  refine RG.nil ?_
  refine WP.block ?_
  refine WP.cv ((Cv.p (C := osl 24 slT v10 ([] : List (Sl Rect)) :: L)).trans (Cv.cons (Cv.bag0 (e := 81) (F := rectT) (xs := []) rfl))) ?_
  refine WP.loop3 [0, 1, 11, 12] (fun (i : Nat) (zs : List (Sl Rect)) (q : Value) => i ≤ ks.length ∧ er zs = (ks.take i).map fun k => canon (chgB (er xs) (er ys) k)) (fun (i : Nat) (zs : List (Sl Rect)) (q : Value) => [(13, vi i), (7, q)]) (fun (i : Nat) (zs : List (Sl Rect)) (q : Value) => osl 24 slT q zs :: bagS 81 rectT zs :: L) (fun (i : Nat) (zs : List (Sl Rect)) (q : Value) => ks.length - i) 0 [] v10 ⟨by omega, rfl⟩ ⟨rfl, rfl, trivial⟩ Cv.p ?_
  rintro i zs q τ ⟨hi, hz⟩
  refine WP.seq ?_
  refine WP.region ?_
  refine RG.pv rfl (PV.lss rfl rfl rfl) ?_
  refine RG.nil ?_
  refine WP.seq ?_
  have hzl : zs.length = i := by have := congrArg List.length hz; rw [er_len] at this; simp at this; omega
  refine WP.cond rfl (fun h4 => ?_) (fun h4 => ?_)
  · have h4 := of_decide_eq_true h4
    have h5 : i < ks.length := by omega
    have h6 := hk i h5
    have h7 : gd (ks.map Int.ofNat) i = ((gd ks i : Nat) : Int) := gd_map _ h5
    have h8k : isReg (gd xs (gd ks i)).xs = true ∧ isReg (gd ys (gd ks i)).xs = true := by
      rw [← er_gd, ← er_gd]; exact ⟨isLay_reg hx h6, isLay_reg hy h6⟩
    refine WP.skip ?_
    refine WP.seq ?_
    refine WP.block ?_
    refine WP.seq ?_
    refine WP.region ?_
    refine RG.pv rfl (PV.idxS (v := w) rfl Is116 rfl (SlF.r h3) rfl rfl (by omega)) ?_
    refine RG.pv rfl (PV.loadE1 rfl Sc2 rfl rfl (El.r h3 (getG (by omega))) rfl) ?_
    refine RG.pv rfl (PV.mvI (.inr rfl) rfl) ?_
    refine RG.nil ?_
    refine WP.regionHD [.s q] (.q 0 (.q 1 (.q 2 (.q 3 (.q 4 (.q 5 (.q 6 (.q 7 (.q 8 (.l 9 (.l 10 (.l 11 (.q 12 Sch.nil))))))))))))) (by kernel_rfl) (by kernel_rfl) (by kernel_rfl) rfl ?_
    refine RH.pv rfl (fun _ _ _ _ h => h) (Gh.le_refl _) PickC.pick rfl (PV.move (v := q) rfl rfl) ?_
    refine RH.pv rfl (fun _ _ _ _ h => h) (Gh.le_refl _) PickC.pick rfl (PV.move (v := v) rfl rfl) ?_
    refine RH.pv rfl (fun _ _ _ _ h => h) (Gh.le_refl _) PickC.pick rfl (PV.mvI (.inl rfl) rfl) ?_
    refine RH.pv rfl (fun _ _ _ _ h => h) (Gh.le_refl _) PickC.pick rfl (PV.idxS (j := gd ks i) (v := v) rfl Is27 rfl (SlF.r h1) rfl (by omega) (by omega)) ?_
    refine RH.pv rfl (fun _ _ _ _ h => h) (Gh.le_refl _) PickC.pick rfl (PV.loadE1 rfl Sc24 rfl rfl (El.r h1 (getG (by omega))) rfl) ?_
    refine RH.pv rfl (fun _ _ _ _ h => h) (Gh.le_refl _) PickC.pick rfl (PV.move (v := u) rfl rfl) ?_
    refine RH.pv rfl (fun _ _ _ _ h => h) (Gh.le_refl _) PickC.pick rfl (PV.mvI (.inl rfl) rfl) ?_
    refine RH.pv rfl (fun _ _ _ _ h => h) (Gh.le_refl _) PickC.pick rfl (PV.idxS (j := gd ks i) (v := u) rfl Is27 rfl (SlF.r h2) rfl (by omega) (by omega)) ?_
    refine RH.pv rfl (fun _ _ _ _ h => h) (Gh.le_refl _) PickC.pick rfl (PV.loadE1 rfl Sc24 rfl rfl (El.r h2 (getG (by omega))) rfl) ?_
    refine RH.ot rfl rfl (OT.callF (vs := [_, _]) rfl En35 rfl (symd_s (Rs.up (hd (gd ks i) (by omega))) (Rs.up (hd' (gd ks i) (by omega))) (fun v26 => ⟨Gh.le_refl _, PickC.pick, ?_⟩)))
    refine RH.ot rfl rfl (OT.bslice (F := (slT (α := Rect))) (els := [⟨v26, opR (fun p q => p != q) (gd xs (gd ks i)).xs (gd ys (gd ks i)).xs⟩]) rfl El27 rfl (by decide) rfl (by decide) ⟨rfl, (Cl.s (v := v26) SlF.o), trivial⟩ fun v27 => ⟨Gh.le_refl _, PickC.pick, ?_⟩)
    refine RH.ot rfl rfl (OT.append (v := q) (u := v27) (F := (slT (α := Rect))) rfl El27 rfl (by decide) rfl rfl Rs.o (OneL.one (OneC.sl SlF.o OneC.nil)) rfl (by first | omega | (simp <;> omega)) fun v28 => ⟨Gh.le_refl _, PickC.pick, ?_⟩)
    refine RH.pv rfl (fun _ _ _ _ h => h) (Gh.le_refl _) PickC.pick rfl (PV.asg (v := v28) rfl rfl) ?_
    refine RH.nil ?_
    refine WP.region ?_
    refine RG.pv rfl (PV.add rfl rfl rfl (by omega)) ?_
    refine RG.pv rfl (PV.mvI (.inl rfl) rfl) ?_
    refine RG.nil ?_
    refine ⟨rfl, i + 1, (zs ++ [⟨v26, opR (fun p q => p != q) (gd xs (gd ks i)).xs (gd ys (gd ks i)).xs⟩]), v28, ⟨by omega, ?_⟩, ⟨rfl, rfl, trivial⟩, ⟨rfl, rfl, rfl, rfl, trivial⟩, ((Cv.p (C := osl 24 slT v28 (zs ++ [⟨v26, opR (fun p q => p != q) (gd xs (gd ks i)).xs (gd ys (gd ks i)).xs⟩]) :: osl 81 rectT v26 (opR (fun p q => p != q) (gd xs (gd ks i)).xs (gd ys (gd ks i)).xs) :: bagS 81 rectT zs :: L)).trans (Cv.cons Cv.bagS_add)), by omega⟩
    have e : opR (fun p q => p != q) (gd xs (gd ks i)).xs (gd ys (gd ks i)).xs = canon (chgB (er xs) (er ys) (gd ks i)) := by rw [opR, h8k.1, h8k.2, chgB, er_gd, er_gd]; rfl
    rw [List.take_add_one, getG h5, List.map_append, ← hz, er, List.map_append]
    simp only [List.map_cons, List.map_nil, Option.toList_some, e]; rfl
  · have h4 := of_decide_eq_false h4
    have e : canon (orL (er xs) (er ys) ks) = canon (bits (er zs).flatten) := by
      rw [hz, List.take_of_length_le (by omega), bits_orL]
    rw [e] at k
    refine WP.exit ?_
    refine WP.seq ?_
    refine WP.region ?_
    refine RG.pv rfl (PV.move (v := q) rfl rfl) ?_
    refine RG.callF (vs := [q]) rfl rfl En124 rfl (unionAll_s Rs.o RsE.o (fun v31 => ?_))
    refine RG.pv rfl (PV.asg (v := v31) rfl rfl) ?_
    refine RG.nil ?_
    refine WP.ret ?_
    exact ⟨_, _, ResV.one rfl rfl, Cv.p, k v31⟩
def chgR (l m : List (List Rect)) : List Rect := bif isLay l && isLay m then canon (orL l m [0, 1, 2, 3, 4, 5, 6, 7]) else []
def chgE (l m : List (List Rect)) : Int := bif isLay l && isLay m then 0 else 1
theorem chgR_len (l m : List (List Rect)) : (chgR l m).length ≤ 3200 := by
  unfold chgR; cases isLay l && isLay m
  · simp
  · exact canon_len _
theorem chgArea_i {v u : Value} {xs ys : List (Sl Rect)} (h1 : Rs G L slT v xs) (hd : RsE G L rectT xs) (h2 : Rs G L slT u ys) (hd' : RsE G L rectT ys) (k : ∀ v', R (.tuple #[v', vi (chgE (er xs) (er ys))]) G (osl 81 rectT v' (chgR (er xs) (er ys)) :: L)) : CallT Try.prog 18 #[v, u] G L R := by
  refine CallT.enter (args := _) Try.func18 rfl rfl (by kernel_rfl) rfl ?_
  refine WP.seq ?_
  refine WP.region ?_
  refine RG.pv rfl (PV.asg rfl rfl) ?_
  refine RG.pv rfl (PV.mvI (.inr rfl) rfl) ?_
  refine RG.nil ?_
  refine WP.seq ?_
  refine WP.seq ?_
  refine WP.region ?_
  refine RG.pv rfl (PV.move (v := v) rfl rfl) ?_
  refine RG.callF (vs := [v]) rfl rfl En75 rfl (isLayout_s (Rs.up h1) hd.up ?_)
  refine RG.pv rfl (PV.not rfl rfl) ?_
  refine RG.pv rfl (PV.mvB (.inl rfl) rfl) ?_
  refine RG.gs rfl rfl rfl (fun hp => (PV.move (v := u) rfl rfl)) ?_
  refine RG.gsC rfl rfl rfl rfl En75 (fun hp => ⟨_, (acons (gs_t hp) anil), isLayout_s (Rs.up h2) hd'.up ⟨rfl, rfl, rfl⟩⟩) ?_
  refine RG.gs rfl rfl rfl (fun hp => (PV.not rfl (gs_t hp))) ?_
  refine RG.pv rfl (PV.pickO rfl rfl rfl (fun hq => gs_t (geqF hq))) ?_
  refine RG.nil ?_
  refine WP.cond rfl (fun h3 => ?_) (fun h3 => ?_)
  · have e : (isLay (er xs) && isLay (er ys)) = false := by cases h4 : isLay (er xs) <;> cases h5 : isLay (er ys) <;> simp_all
    have e1 : chgR (er xs) (er ys) = [] := by rw [chgR, e]; rfl
    have e2 : chgE (er xs) (er ys) = 1 := by rw [chgE, e]; rfl
    rw [e1, e2] at k
    refine WP.seq ?_
    refine WP.region ?_
    refine RG.pv rfl (PV.asg rfl rfl) ?_
    refine RG.pv rfl (PV.mvI (.inr rfl) rfl) ?_
    refine RG.nil ?_
    refine WP.ret ?_
    exact ⟨_, _, ResV.two rfl rfl rfl, Cv.nilP, k (.slice none 0 0)⟩
  · have hx : isLay (er xs) = true := by cases h4 : isLay (er xs) <;> simp_all
    have hy : isLay (er ys) = true := by cases h4 : isLay (er ys) <;> simp_all
    have e1 : chgR (er xs) (er ys) = canon (orL (er xs) (er ys) [0, 1, 2, 3, 4, 5, 6, 7]) := by rw [chgR, hx, hy]; rfl
    have e2 : chgE (er xs) (er ys) = 0 := by rw [chgE, hx, hy]; rfl
    rw [e1, e2] at k
    refine WP.skip ?_
    refine WP.seq ?_
    refine WP.region ?_
    refine RG.pv rfl (PV.move (v := v) rfl rfl) ?_
    refine RG.pv rfl (PV.move (v := u) rfl rfl) ?_
    refine RG.ot rfl (OT.bslice (F := intT) (els := [_, _, _, _, _, _, _, _]) rfl El116 rfl (by decide) rfl (by decide) ⟨rfl, (Cl.c rfl), ⟨rfl, (Cl.c rfl), ⟨rfl, (Cl.c rfl), ⟨rfl, (Cl.c rfl), ⟨rfl, (Cl.c rfl), ⟨rfl, (Cl.c rfl), ⟨rfl, (Cl.c rfl), ⟨rfl, (Cl.c rfl), trivial⟩⟩⟩⟩⟩⟩⟩⟩ fun v16 => ?_)
    refine RG.callF (vs := [v, u, v16]) rfl rfl En76 rfl (changed_s (ks := [0, 1, 2, 3, 4, 5, 6, 7]) (Rs.up h1) hd.up (Rs.up h2) hd'.up Rs.o hx hy (by decide) (by decide) (fun v17 => ?_))
    refine RG.pv rfl (PV.asg (v := v17) rfl rfl) ?_
    refine RG.pv rfl (PV.mvI (.inr rfl) rfl) ?_
    refine RG.nil ?_
    refine WP.ret ?_
    exact ⟨_, _, ResV.two rfl rfl rfl, Cv.p, k v17⟩
theorem l22Changed_s {v u : Value} {xs ys : List (Sl Rect)} {n : Int} (h1 : Rs G L slT v xs) (hd : RsE G L rectT xs) (h2 : Rs G L slT u ys) (hd' : RsE G L rectT ys) (hx : isLay (er xs) = true) (hy : isLay (er ys) = true) (hn : 0 ≤ n ∧ n < 8) (k : ∀ v', R v' G (osl 4 boolT v' (chgB (er xs) (er ys) n.toNat) :: L)) : CallT Try.prog 72 #[v, u, vi n] G L R := by
  obtain ⟨kk, rfl⟩ : ∃ kk : Nat, n = (kk : Int) := ⟨n.toNat, by omega⟩
  have hk : kk < 8 := by omega
  rw [Int.toNat_natCast] at k
  have h8 : xs.length = 8 := by have := isLay_len hx; rwa [er_len] at this
  have h8' : ys.length = 8 := by have := isLay_len hy; rwa [er_len] at this
  have hkx : kk < xs.length := by omega
  have hky : kk < ys.length := by omega
  have hrx : isReg (gd xs kk).xs = true := by rw [← er_gd]; exact isLay_reg hx hk
  have hry : isReg (gd ys kk).xs = true := by rw [← er_gd]; exact isLay_reg hy hk
  have e : chgB (er xs) (er ys) kk = zipB (opF 6) (bits (gd xs kk).xs) (bits (gd ys kk).xs) := by rw [chgB, er_gd, er_gd, opF_xor]
  rw [e] at k
  refine CallT.enter (args := _) Try.func72 rfl rfl (by kernel_rfl) rfl ?_
  refine WP.seq ?_
  refine WP.region ?_
  refine RG.pv rfl (PV.asg rfl rfl) ?_
  refine RG.nil ?_
  refine WP.seq ?_
  refine WP.regionH0 (.q 0 (.q 1 (.q 2 (.q 3 (.q 5 (.q 6 (.q 7 (.q 8 (.l 4 (.l 9 (.l 10 (.q 11 Sch.nil)))))))))))) (by kernel_rfl) (by kernel_rfl) (by kernel_rfl) rfl ?_
  refine RH.pv rfl (fun _ _ _ _ h => h) (Gh.le_refl _) PickC.pick rfl (PV.move (v := v) rfl rfl) ?_
  refine RH.pv rfl (fun _ _ _ _ h => h) (Gh.le_refl _) PickC.pick rfl (PV.mvI (.inl rfl) rfl) ?_
  refine RH.pv rfl (fun _ _ _ _ h => h) (Gh.le_refl _) PickC.pick rfl (PV.idxS (v := v) rfl Is27 rfl (SlF.r h1) rfl rfl (by omega)) ?_
  refine RH.pv rfl (fun _ _ _ _ h => h) (Gh.le_refl _) PickC.pick rfl (PV.loadE1 rfl Sc24 rfl rfl (El.r h1 (getG (by omega))) rfl) ?_
  refine RH.pv rfl (fun _ _ _ _ h => h) (Gh.le_refl _) PickC.pick rfl (PV.move (v := u) rfl rfl) ?_
  refine RH.pv rfl (fun _ _ _ _ h => h) (Gh.le_refl _) PickC.pick rfl (PV.mvI (.inl rfl) rfl) ?_
  refine RH.pv rfl (fun _ _ _ _ h => h) (Gh.le_refl _) PickC.pick rfl (PV.idxS (v := u) rfl Is27 rfl (SlF.r h2) rfl rfl (by omega)) ?_
  refine RH.pv rfl (fun _ _ _ _ h => h) (Gh.le_refl _) PickC.pick rfl (PV.loadE1 rfl Sc24 rfl rfl (El.r h2 (getG (by omega))) rfl) ?_
  refine RH.ot rfl rfl (OT.callF (vs := [_]) rfl En70 rfl (l03Bits_s (Rs.up (hd kk hkx)) (fun i hi => valid_get (isReg_valid hrx) hi) (fun v11 => ⟨Gh.le_refl _, PickC.pick, ?_⟩)))
  refine RH.ot rfl rfl (OT.callF (vs := [_]) rfl En70 rfl (l03Bits_s (Rs.up (hd' kk hky)) (fun i hi => valid_get (isReg_valid hry) hi) (fun v16 => ⟨Gh.le_refl _, PickC.pick, ?_⟩)))
  refine RH.ot rfl rfl (OT.callF (vs := [v11, v16, _]) rfl En71 rfl (l04Combine_s Rs.o Rs.o (bits_length _) (bits_length _) (by omega) (fun v17 => ⟨Gh.le_refl _, PickC.pick, ?_⟩)))
  refine RH.pv rfl (fun _ _ _ _ h => h) (Gh.le_refl _) PickC.pick rfl (PV.asg (v := v17) rfl rfl) ?_
  refine RH.nil ?_
  refine WP.ret ?_
  exact ⟨_, _, ResV.one rfl rfl, Cv.p, k v17⟩
theorem RsN {α : Type} {F : FT α} : Rs G L F (.slice none 0 0) [] := fun w hs => ⟨⟨0, Nat.le_refl _, Nat.zero_le _, .inr ⟨⟨none, rfl⟩, rfl⟩⟩, fun j c h => by simp [FT.flat] at h⟩
theorem range_snoc (k : Nat) : List.range (k + 1) = List.range k ++ [k] := List.range_succ
theorem chgArea_s {v u : Value} {xs ys : List (Sl Rect)} (h1 : Rs G L slT v xs) (hd : RsE G L rectT xs) (h2 : Rs G L slT u ys) (hd' : RsE G L rectT ys) (k : ∀ v', R (.tuple #[v', vi (chgE (er xs) (er ys))]) G (osl 81 rectT v' (chgR (er xs) (er ys)) :: L)) : CallT Try.prog 16 #[v, u] G L R := by
  refine CallT.enter (args := _) Try.func16 rfl rfl (by kernel_rfl) rfl ?_
  refine WP.seq ?_
  refine WP.region ?_
  refine RG.pv rfl (PV.asg rfl rfl) ?_
  refine RG.pv rfl (PV.mvI (.inr rfl) rfl) ?_
  refine RG.nil ?_
  refine WP.seq ?_
  refine WP.seq ?_
  refine WP.region ?_
  refine RG.pv rfl (PV.move (v := v) rfl rfl) ?_
  refine RG.callF (vs := [v]) rfl rfl En31 rfl (isLayoutS_s (Rs.up h1) hd.up ?_)
  refine RG.pv rfl (PV.not rfl rfl) ?_
  refine RG.pv rfl (PV.mvB (.inl rfl) rfl) ?_
  refine RG.gs rfl rfl rfl (fun hp => (PV.move (v := u) rfl rfl)) ?_
  refine RG.gsC rfl rfl rfl rfl En31 (fun hp => ⟨_, (acons (gs_t hp) anil), isLayoutS_s (Rs.up h2) hd'.up ⟨rfl, rfl, rfl⟩⟩) ?_
  refine RG.gs rfl rfl rfl (fun hp => (PV.not rfl (gs_t hp))) ?_
  refine RG.pv rfl (PV.pickO rfl rfl rfl (fun hq => gs_t (geqF hq))) ?_
  refine RG.nil ?_
  refine WP.cond rfl (fun h3 => ?_) (fun h3 => ?_)
  · have e : (isLay (er xs) && isLay (er ys)) = false := by cases h4 : isLay (er xs) <;> cases h5 : isLay (er ys) <;> simp_all
    have e1 : chgR (er xs) (er ys) = [] := by rw [chgR, e]; rfl
    have e2 : chgE (er xs) (er ys) = 1 := by rw [chgE, e]; rfl
    rw [e1, e2] at k
    refine WP.seq ?_
    refine WP.region ?_
    refine RG.pv rfl (PV.asg rfl rfl) ?_
    refine RG.pv rfl (PV.mvI (.inr rfl) rfl) ?_
    refine RG.nil ?_
    refine WP.ret ?_
    exact ⟨_, _, ResV.two rfl rfl rfl, Cv.nilP, k (.slice none 0 0)⟩
  · have hx : isLay (er xs) = true := by cases h4 : isLay (er xs) <;> simp_all
    have hy : isLay (er ys) = true := by cases h4 : isLay (er ys) <;> simp_all
    have e1 : chgR (er xs) (er ys) = canon (orL (er xs) (er ys) [0, 1, 2, 3, 4, 5, 6, 7]) := by rw [chgR, hx, hy]; rfl
    have e2 : chgE (er xs) (er ys) = 0 := by rw [chgE, hx, hy]; rfl
    rw [e1, e2] at k
    refine WP.skip ?_
    refine WP.seq ?_
    refine WP.region ?_
    refine RG.callF (vs := [_]) rfl rfl En70 rfl (l03Bits_s (xs := []) (RsN) (fun i hi => by simp at hi) (fun v16 => ?_))
    refine RG.pv rfl (PV.asg (v := v16) rfl rfl) ?_
    refine RG.nil ?_
    refine WP.seq ?_
    refine WP.seq ?_
    refine WP.region ?_
    refine RG.pv rfl (PV.mvI (.inr rfl) rfl) ?_
    refine RG.nil ?_
    refine WP.block ?_
    refine WP.cv (Cv.eqS (show bits [] = orL (er xs) (er ys) (List.range 0) from rfl)) ?_
    refine WP.loop2 [0, 1] (fun (i : Nat) (q : Value) => i ≤ 8) (fun (i : Nat) (q : Value) => [(7, vi i), (6, q)]) (fun (i : Nat) (q : Value) => osl 4 boolT q (orL (er xs) (er ys) (List.range i)) :: L) (fun (i : Nat) (q : Value) => 8 - i) 0 v16 (by omega) ⟨rfl, rfl, trivial⟩ Cv.p ?_
    rintro i q τ hi
    refine WP.seq ?_
    refine WP.seq ?_
    refine WP.region ?_
    refine RG.pv rfl (PV.mvI (.inl rfl) rfl) ?_
    refine RG.pv rfl (PV.lss rfl rfl rfl) ?_
    refine RG.nil ?_
    refine WP.cond rfl (fun h4 => ?_) (fun h4 => ?_)
    · have h4 := of_decide_eq_true h4
      refine WP.skip ?_
      refine WP.seq ?_
      refine WP.block ?_
      refine WP.region ?_
      refine RG.pv rfl (PV.move (v := q) rfl rfl) ?_
      refine RG.pv rfl (PV.move (v := v) rfl rfl) ?_
      refine RG.pv rfl (PV.move (v := u) rfl rfl) ?_
      refine RG.pv rfl (PV.mvI (.inl rfl) rfl) ?_
      refine RG.callF (vs := [v, u, _]) rfl rfl En72 rfl (l22Changed_s (Rs.up h1) hd.up (Rs.up h2) hd'.up hx hy (by omega) (fun v25 => ?_))
      refine RG.callF (vs := [q, v25, _]) rfl rfl En71 rfl (l04Combine_s Rs.o Rs.o (orL_len _ _ _) (chgB_len _ _ _) (by omega) (fun v26 => ?_))
      refine RG.pv rfl (PV.asg (v := v26) rfl rfl) ?_
      refine RG.nil ?_
      refine WP.region ?_
      refine RG.pv rfl (PV.mvI (.inl rfl) rfl) ?_
      refine RG.pv rfl (PV.add rfl rfl rfl (by omega)) ?_
      refine RG.pv rfl (PV.mvI (.inr rfl) rfl) ?_
      refine RG.nil ?_
      exact ⟨rfl, i + 1, v26, (by omega), ⟨rfl, rfl, trivial⟩, ⟨rfl, rfl, trivial⟩, (Cv.p (C := osl 4 boolT v26 (zipB (opF 14) (orL (er xs) (er ys) (List.range i)) (chgB (er xs) (er ys) ((i : Int)).toNat)) :: L)).trans (Cv.eqS (by rw [range_snoc, orL_snoc, opF_or, Int.toNat_natCast])), by omega⟩
    · have h4 := of_decide_eq_false h4
      obtain rfl : i = 8 := by omega
      have hr8 : List.range 8 = [0, 1, 2, 3, 4, 5, 6, 7] := by decide
      rw [← hr8] at k
      refine WP.exit ?_
      refine WP.seq ?_
      refine WP.region ?_
      refine RG.pv rfl (PV.move (v := q) rfl rfl) ?_
      refine RG.callF (vs := [q]) rfl rfl En73 rfl (l03Canon_s Rs.o (orL_len _ _ _) (fun v28 => ?_))
      refine RG.pv rfl (PV.asg (v := v28) rfl rfl) ?_
      refine RG.pv rfl (PV.mvI (.inr rfl) rfl) ?_
      refine RG.nil ?_
      refine WP.ret ?_
      exact ⟨_, _, ResV.two rfl rfl rfl, Cv.p, k v28⟩
/-! ## the law -/
theorem law_ChangedArea {v u : Value} {xs zs : List (Sl Rect)} (h1 : Rs G L slT v xs) (hd : RsE G L rectT xs) (h2 : Rs G L slT u zs) (hd' : RsE G L rectT zs) (k : R (.bool true) G L) : CallT Try.prog 3 #[v, u] G L R := by
  refine CallT.enter (args := _) Try.func3 rfl rfl (by kernel_rfl) rfl ?_
  refine WP.seq ?_
  refine WP.region ?_
  refine RG.pv rfl (PV.mvB (.inr rfl) rfl) ?_
  refine RG.nil ?_
  refine WP.seq ?_
  refine WP.region ?_
  refine RG.pv rfl (PV.mvI (.inr rfl) rfl) ?_
  refine RG.nil ?_
  refine WP.seq ?_
  refine WP.region ?_
  refine RG.pv rfl (PV.move (v := v) rfl rfl) ?_
  refine RG.pv rfl (PV.mvI (.inl rfl) rfl) ?_
  refine RG.callF (vs := [v, _]) rfl rfl En15 rfl (szRectSS_s (Rs.up h1) hd.up (by omega) (by omega) (fun r hr hr' => ?_))
  refine RG.pv rfl (PV.mvI (.inr rfl) rfl) ?_
  refine RG.nil ?_
  refine WP.seq ?_
  refine WP.seq ?_
  refine WP.region ?_
  refine RG.pv rfl (PV.mvI (.inl rfl) rfl) ?_
  refine RG.pv rfl (PV.lss rfl rfl rfl) ?_
  refine RG.nil ?_
  refine WP.cond rfl (fun h3 => ?_) (fun h3 => ?_)
  · refine WP.seq ?_
    refine WP.region ?_
    refine RG.pv rfl (PV.mvB (.inr rfl) rfl) ?_
    refine RG.nil ?_
    refine WP.ret ?_
    exact ⟨_, _, ResV.one rfl rfl, Cv.p, k⟩
  · have h3 := of_decide_eq_false h3
    have hsz : szOf xs ≤ 1048576 := by have := hr' (by omega); omega
    have hc0 : 0 ≤ costL lenS xs := costL_nonneg lenS_nn _
    have hb : xs.length ≤ 1048576 := by simp only [szOf] at hsz; omega
    have hbi : ∀ i, i < xs.length → (gd xs i).xs.length ≤ 1048576 := fun i hi => by
      have := costL_mem lenS_nn hi; simp only [lenS, szOf] at *; omega
    have hcx : costL nRS xs ≤ 4194304 := by rw [nRS_lenS]; simp only [szOf] at hsz; omega
    refine WP.skip ?_
    refine WP.seq ?_
    refine WP.region ?_
    refine RG.pv rfl (PV.move (v := u) rfl rfl) ?_
    refine RG.pv rfl (PV.mvI (.inl rfl) rfl) ?_
    refine RG.callF (vs := [u, _]) rfl rfl En15 rfl (szRectSS_s (Rs.up h2) hd'.up (by omega) (by omega) (fun r2 hr2 hr2' => ?_))
    refine RG.pv rfl (PV.mvI (.inr rfl) rfl) ?_
    refine RG.nil ?_
    refine WP.seq ?_
    refine WP.seq ?_
    refine WP.region ?_
    refine RG.pv rfl (PV.mvI (.inl rfl) rfl) ?_
    refine RG.pv rfl (PV.lss rfl rfl rfl) ?_
    refine RG.nil ?_
    refine WP.cond rfl (fun h4 => ?_) (fun h4 => ?_)
    · refine WP.seq ?_
      refine WP.region ?_
      refine RG.pv rfl (PV.mvB (.inr rfl) rfl) ?_
      refine RG.nil ?_
      refine WP.ret ?_
      exact ⟨_, _, ResV.one rfl rfl, Cv.p, k⟩
    · have h4 := of_decide_eq_false h4
      have hsz2 : szOf zs ≤ 1048576 := by have := hr2' (by omega); omega
      have hc02 : 0 ≤ costL lenS zs := costL_nonneg lenS_nn _
      have hb2 : zs.length ≤ 1048576 := by simp only [szOf] at hsz2; omega
      have hbi2 : ∀ i, i < zs.length → (gd zs i).xs.length ≤ 1048576 := fun i hi => by
        have := costL_mem lenS_nn hi; simp only [lenS, szOf] at *; omega
      have hcx2 : costL nRS zs ≤ 4194304 := by rw [nRS_lenS]; simp only [szOf] at hsz2; omega
      have hcr := chgR_len (er xs) (er zs)
      refine WP.skip ?_
      refine WP.seq ?_
      refine WP.region ?_
      refine RG.pv rfl (PV.move (v := v) rfl rfl) ?_
      refine RG.callF (vs := [v]) rfl rfl En17 rfl (toRectSS_s (Rs.up h1) hd.up hb hbi (fun v29 ysv29 hev29 => ?_))
      refine RG.pv rfl (PV.move (v := u) rfl rfl) ?_
      refine RG.callF (vs := [u]) rfl rfl En17 rfl (toRectSS_s (Rs.up h2) hd'.up hb2 hbi2 (fun v31 ysv31 hev31 => ?_))
      refine RG.callF (vs := [v29, v31]) rfl rfl En16 rfl (chgArea_s Rs.o RsE.o Rs.o RsE.o (fun w32 => ?_))
      refine RG.pv rfl (PV.move (v := .tuple _) rfl rfl) ?_
      refine RG.pv rfl (PV.ext (v := w32) rfl rfl rfl) ?_
      refine RG.pv rfl (PV.ext rfl rfl rfl) ?_
      refine RG.pv rfl (PV.asg (v := w32) rfl rfl) ?_
      refine RG.pv rfl (PV.mvI (.inr rfl) rfl) ?_
      refine RG.nil ?_
      refine WP.seq ?_
      refine WP.region ?_
      refine RG.pv rfl (PV.move (v := v) rfl rfl) ?_
      refine RG.callF (vs := [v]) rfl rfl En17 rfl (toRectSS_s (Rs.up h1) hd.up hb hbi (fun v36 ysv36 hev36 => ?_))
      refine RG.pv rfl (PV.asg (v := v36) rfl rfl) ?_
      refine RG.nil ?_
      refine WP.seq ?_
      refine WP.region ?_
      refine RG.pv rfl (PV.move (v := u) rfl rfl) ?_
      refine RG.callF (vs := [u]) rfl rfl En17 rfl (toRectSS_s (Rs.up h2) hd'.up hb2 hbi2 (fun v38 ysv38 hev38 => ?_))
      refine RG.pv rfl (PV.asg (v := v38) rfl rfl) ?_
      refine RG.nil ?_
      refine WP.seq ?_
      refine WP.region ?_
      refine RG.pv rfl (PV.move (v := v36) rfl rfl) ?_
      refine RG.pv rfl (PV.move (v := v38) rfl rfl) ?_
      refine RG.callF (vs := [v36, v38]) rfl rfl En18 rfl (chgArea_i Rs.o RsE.o Rs.o RsE.o (fun w42 => ?_))
      refine RG.pv rfl (PV.move (v := .tuple _) rfl rfl) ?_
      refine RG.pv rfl (PV.ext (v := w42) rfl rfl rfl) ?_
      refine RG.pv rfl (PV.ext rfl rfl rfl) ?_
      refine RG.pv rfl (PV.asg (v := w42) rfl rfl) ?_
      refine RG.pv rfl (PV.mvI (.inr rfl) rfl) ?_
      refine RG.nil ?_
      refine WP.seq ?_
      refine WP.seq ?_
      refine WP.region ?_
      refine RG.pv rfl (PV.move (v := w42) rfl rfl) ?_
      refine RG.pv rfl (PV.move (v := w32) rfl rfl) ?_
      refine RG.callF (vs := [w42, w32]) rfl rfl En19 rfl (eqRectS_s Rs.o Rs.o ?_)
      refine RG.pv rfl (PV.not rfl rfl) ?_
      refine RG.pv rfl (PV.mvB (.inl rfl) rfl) ?_
      refine RG.gs rfl rfl rfl (fun hp => (PV.mvI (.inl rfl) rfl)) ?_
      refine RG.gs rfl rfl rfl (fun hp => (PV.mvI (.inl rfl) rfl)) ?_
      refine RG.gs rfl rfl rfl (fun hp => (PV.neq rfl (gs_t hp) (gs_t hp))) ?_
      refine RG.pv rfl (PV.pickO rfl rfl rfl (fun hq => gs_t (geqF hq))) ?_
      refine RG.nil ?_
      refine WP.cond rfl (fun h5 => ?_) (fun h5 => ?_)
      · simp [*] at h5
      · refine WP.skip ?_
        refine WP.seq ?_
        refine WP.seq ?_
        refine WP.region ?_
        refine RG.pv rfl (PV.move (v := v36) rfl rfl) ?_
        refine RG.pv rfl (PV.move (v := v) rfl rfl) ?_
        refine RG.callF (vs := [v]) rfl rfl En17 rfl (toRectSS_s (Rs.up h1) hd.up hb hbi (fun v56 ysv56 hev56 => ?_))
        refine RG.callF (vs := [v36, v56]) rfl rfl En20 rfl (eqRectSS_s Rs.o RsE.o Rs.o RsE.o ?_)
        refine RG.pv rfl (PV.not rfl rfl) ?_
        refine RG.nil ?_
        refine WP.cond rfl (fun h6 => ?_) (fun h6 => ?_)
        · simp [*] at h6
        · skip
          refine WP.skip ?_
          refine WP.seq ?_
          refine WP.seq ?_
          refine WP.region ?_
          refine RG.pv rfl (PV.move (v := v38) rfl rfl) ?_
          refine RG.pv rfl (PV.move (v := u) rfl rfl) ?_
          refine RG.callF (vs := [u]) rfl rfl En17 rfl (toRectSS_s (Rs.up h2) hd'.up hb2 hbi2 (fun v61 ysv61 hev61 => ?_))
          refine RG.callF (vs := [v38, v61]) rfl rfl En20 rfl (eqRectSS_s Rs.o RsE.o Rs.o RsE.o ?_)
          refine RG.pv rfl (PV.not rfl rfl) ?_
          refine RG.nil ?_
          refine WP.cond rfl (fun h7 => ?_) (fun h7 => ?_)
          · simp [*] at h7
          · have hm1 : costL nRS ysv36 ≤ 4194304 := by rw [costL_er hev36]; exact hcx
            have hm2 : costL nRS ysv38 ≤ 4194304 := by rw [costL_er hev38]; exact hcx2
            have hm3 : 0 ≤ costL nRS ysv36 := costL_nonneg nSl_nn _
            have hm4 : 0 ≤ costL nRS ysv38 := costL_nonneg nSl_nn _
            have hm5 : costL nRect (chgR (er ysv36) (er ysv38)) ≤ 12800 := by rw [hev36, hev38, nRect_cost]; omega
            have hm6 : 0 ≤ costL nRect (chgR (er ysv36) (er ysv38)) := costL_nonneg nRect_nn _
            refine WP.skip ?_
            refine WP.seq ?_
            refine WP.region ?_
            refine RG.pv rfl (PV.mvI (.inr rfl) rfl) ?_
            refine RG.nil ?_
            refine WP.seq ?_
            refine WP.region ?_
            refine RG.pv rfl (PV.move (v := v36) rfl rfl) ?_
            refine RG.pv rfl (PV.mvI (.inl rfl) rfl) ?_
            refine RG.callF (vs := [v36, _]) rfl rfl En21 rfl (CallT.exBg ysv36 (CallT.exS v36 (markRectSS_s (by omega) (by omega) ?_)))
            refine RG.pv rfl (PV.mvI (.inr rfl) rfl) ?_
            refine RG.nil ?_
            refine WP.seq ?_
            refine WP.region ?_
            refine RG.pv rfl (PV.move (v := v38) rfl rfl) ?_
            refine RG.pv rfl (PV.mvI (.inl rfl) rfl) ?_
            refine RG.callF (vs := [v38, _]) rfl rfl En21 rfl (CallT.exBg ysv38 (CallT.exS v38 (markRectSS_s (by omega) (by omega) ?_)))
            refine RG.pv rfl (PV.mvI (.inr rfl) rfl) ?_
            refine RG.nil ?_
            refine WP.seq ?_
            refine WP.seq ?_
            refine WP.region ?_
            refine RG.pv rfl (PV.mvI (.inl rfl) rfl) ?_
            refine RG.pv rfl (PV.lss rfl rfl rfl) ?_
            refine RG.pv rfl (PV.mvB (.inl rfl) rfl) ?_
            refine RG.gs rfl rfl rfl (fun hp => (PV.move (v := w42) rfl rfl)) ?_
            refine RG.gs rfl rfl rfl (fun hp => (PV.move (v := w32) rfl rfl)) ?_
            refine RG.gsC rfl rfl rfl rfl En19 (fun hp => ⟨_, (acons (gs_t hp) (acons (gs_t hp) anil)), eqRectS_s Rs.o Rs.o ⟨rfl, rfl, rfl⟩⟩) ?_
            refine RG.gs rfl rfl rfl (fun hp => (PV.not rfl (gs_t hp))) ?_
            refine RG.pv rfl (PV.pickO rfl rfl rfl (fun hq => gs_t (geqF hq))) ?_
            refine RG.pv rfl (PV.mvB (.inl rfl) rfl) ?_
            refine RG.gs rfl rfl rfl (fun hp => (PV.mvI (.inl rfl) rfl)) ?_
            refine RG.gs rfl rfl rfl (fun hp => (PV.mvI (.inl rfl) rfl)) ?_
            refine RG.gs rfl rfl rfl (fun hp => (PV.neq rfl (gs_t hp) (gs_t hp))) ?_
            refine RG.pv rfl (PV.pickO rfl rfl rfl (fun hq => gs_t (geqF hq))) ?_
            refine RG.nil ?_
            refine WP.cond rfl (fun h8 => ?_) (fun h8 => ?_)
            · simp [*] at h8 <;> omega
            · skip
              refine WP.skip ?_
              refine WP.seq ?_
              refine WP.region ?_
              refine RG.pv rfl (PV.mvI (.inr rfl) rfl) ?_
              refine RG.nil ?_
              refine WP.seq ?_
              refine WP.region ?_
              refine RG.pv rfl (PV.move (v := w42) rfl rfl) ?_
              refine RG.pv rfl (PV.mvI (.inl rfl) rfl) ?_
              refine RG.callF (vs := [w42, _]) rfl rfl En22 rfl (CallT.exS w42 (markRectS_s (by omega) (by omega) ?_))
              refine RG.pv rfl (PV.mvI (.inr rfl) rfl) ?_
              refine RG.nil ?_
              refine WP.seq ?_
              refine WP.region ?_
              refine RG.pv rfl (PV.mvI (.inr rfl) rfl) ?_
              refine RG.nil ?_
              refine WP.seq ?_
              refine WP.region ?_
              refine RG.pv rfl (PV.move (v := w42) rfl rfl) ?_
              refine RG.pv rfl (PV.mvI (.inl rfl) rfl) ?_
              refine RG.callF (vs := [w42, _]) rfl rfl En23 rfl (heldRectS_s Rs.o (by omega) (by omega) ?_)
              refine RG.pv rfl (PV.mvI (.inr rfl) rfl) ?_
              refine RG.nil ?_
              refine WP.seq ?_
              refine WP.seq ?_
              refine WP.region ?_
              refine RG.pv rfl (PV.mvI (.inl rfl) rfl) ?_
              refine RG.pv rfl (PV.lss rfl rfl rfl) ?_
              refine RG.nil ?_
              refine WP.cond rfl (fun h9 => ?_) (fun h9 => ?_)
              · simp at h9; omega
              · refine WP.skip ?_
                refine WP.seq ?_
                refine WP.seq ?_
                refine WP.region ?_
                refine RG.pv rfl (PV.mvI (.inl rfl) rfl) ?_
                refine RG.pv rfl (PV.mvI (.inl rfl) rfl) ?_
                refine RG.pv rfl (PV.neq rfl rfl rfl) ?_
                refine RG.nil ?_
                refine WP.cond rfl (fun h10 => ?_) (fun h10 => ?_)
                · simp at h10
                · skip
                  refine WP.skip ?_
                  refine WP.seq ?_
                  refine WP.region ?_
                  refine RG.pv rfl (PV.move (v := v) rfl rfl) ?_
                  refine RG.callF (vs := [v]) rfl rfl En17 rfl (toRectSS_s (Rs.up h1) hd.up hb hbi (fun v96 ysv96 hev96 => ?_))
                  refine RG.pv rfl (PV.move (v := u) rfl rfl) ?_
                  refine RG.callF (vs := [u]) rfl rfl En17 rfl (toRectSS_s (Rs.up h2) hd'.up hb2 hbi2 (fun v98 ysv98 hev98 => ?_))
                  refine RG.callF (vs := [v96, v98]) rfl rfl En18 rfl (chgArea_i Rs.o RsE.o Rs.o RsE.o (fun w99 => ?_))
                  refine RG.pv rfl (PV.move (v := .tuple _) rfl rfl) ?_
                  refine RG.pv rfl (PV.ext (v := w99) rfl rfl rfl) ?_
                  refine RG.pv rfl (PV.ext rfl rfl rfl) ?_
                  refine RG.pv rfl (PV.asg (v := w99) rfl rfl) ?_
                  refine RG.pv rfl (PV.mvI (.inr rfl) rfl) ?_
                  refine RG.nil ?_
                  refine WP.seq ?_
                  refine WP.seq ?_
                  refine WP.region ?_
                  refine RG.pv rfl (PV.move (v := w99) rfl rfl) ?_
                  refine RG.pv rfl (PV.move (v := w32) rfl rfl) ?_
                  refine RG.callF (vs := [w99, w32]) rfl rfl En19 rfl (eqRectS_s Rs.o Rs.o ?_)
                  refine RG.pv rfl (PV.not rfl rfl) ?_
                  refine RG.pv rfl (PV.mvB (.inl rfl) rfl) ?_
                  refine RG.gs rfl rfl rfl (fun hp => (PV.mvI (.inl rfl) rfl)) ?_
                  refine RG.gs rfl rfl rfl (fun hp => (PV.mvI (.inl rfl) rfl)) ?_
                  refine RG.gs rfl rfl rfl (fun hp => (PV.neq rfl (gs_t hp) (gs_t hp))) ?_
                  refine RG.pv rfl (PV.pickO rfl rfl rfl (fun hq => gs_t (geqF hq))) ?_
                  refine RG.nil ?_
                  refine WP.cond rfl (fun h11 => ?_) (fun h11 => ?_)
                  · simp [*] at h11
                  · skip
                    refine WP.skip ?_
                    refine WP.seq ?_
                    refine WP.region ?_
                    refine RG.pv rfl (PV.mvI (.inr rfl) rfl) ?_
                    refine RG.nil ?_
                    refine WP.seq ?_
                    refine WP.region ?_
                    refine RG.pv rfl (PV.move (v := w42) rfl rfl) ?_
                    refine RG.pv rfl (PV.mvI (.inl rfl) rfl) ?_
                    refine RG.callF (vs := [w42, _]) rfl rfl En23 rfl (heldRectS_s Rs.o (by omega) (by omega) ?_)
                    refine RG.pv rfl (PV.mvI (.inr rfl) rfl) ?_
                    refine RG.nil ?_
                    refine WP.seq ?_
                    refine WP.seq ?_
                    refine WP.region ?_
                    refine RG.pv rfl (PV.mvI (.inl rfl) rfl) ?_
                    refine RG.pv rfl (PV.lss rfl rfl rfl) ?_
                    refine RG.nil ?_
                    refine WP.cond rfl (fun h12 => ?_) (fun h12 => ?_)
                    · simp at h12; omega
                    · refine WP.skip ?_
                      refine WP.seq ?_
                      refine WP.seq ?_
                      refine WP.region ?_
                      refine RG.pv rfl (PV.mvI (.inl rfl) rfl) ?_
                      refine RG.pv rfl (PV.mvI (.inl rfl) rfl) ?_
                      refine RG.pv rfl (PV.neq rfl rfl rfl) ?_
                      refine RG.nil ?_
                      refine WP.cond rfl (fun h13 => ?_) (fun h13 => ?_)
                      · simp at h13
                      · refine WP.skip ?_
                        refine WP.seq ?_
                        refine WP.region ?_
                        refine RG.pv rfl (PV.mvB (.inr rfl) rfl) ?_
                        refine RG.nil ?_
                        refine WP.ret ?_
                        exact ⟨_, _, ResV.one rfl rfl, Cv.p, k⟩
end Go.Proofs.Ytilccgeldnlgnaa
