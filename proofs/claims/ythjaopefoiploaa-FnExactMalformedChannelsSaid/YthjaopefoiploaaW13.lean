/-
  Contracts: changed areas of layouts; the law ChangedArea.
-/
import Derived.Test.YthjaopefoiploaaW8
namespace Go.Proofs.Ythjaopefoiploaa
open Go
set_option maxRecDepth 20000
set_option linter.unusedSimpArgs false
variable {G : Gh} {L : List Ch} {R : Value → Gh → List Ch → Prop}

/-! ## plain -/
def opF (op : Int) (p q : Bool) : Bool := decide (op / ((if q then 2 else 1) * ((if p then 4 else 1) * 1)) % 2 = 1)
theorem opF_or : opF 14 = fun p q => p || q := by funext p q; cases p <;> cases q <;> rfl
theorem opF_xor : opF 6 = fun p q => p != q := by funext p q; cases p <;> cases q <;> rfl
theorem opF_and : opF 8 = fun p q => p && q := by funext p q; cases p <;> cases q <;> rfl
theorem opF_minus : opF 4 = fun p q => p && !q := by funext p q; cases p <;> cases q <;> rfl
abbrev orB (a b : List Bool) : List Bool := zipB (fun p q => p || q) a b
def chgB (l m : List (List Rect)) (k : Nat) : List Bool := zipB (fun p q => p != q) (bits (gd l k)) (bits (gd m k))
theorem chgB_len (l m : List (List Rect)) (k : Nat) : (chgB l m k).length = 6400 := zipB_len (bits_length _) (bits_length _)
def orL (l m : List (List Rect)) (ks : List Nat) : List Bool := ks.foldl (fun b k => orB b (chgB l m k)) (bits [])
theorem orL_len (l m : List (List Rect)) (ks : List Nat) : (orL l m ks).length = 6400 := by
  have : ∀ (ks : List Nat) (b : List Bool), b.length = 6400 → (ks.foldl (fun b k => orB b (chgB l m k)) b).length = 6400 := by
    intro ks
    induction ks with
    | nil => exact fun b h => h
    | cons k ks ih => exact fun b h => ih _ (zipB_len h (chgB_len l m k))
  exact this ks _ (bits_length _)
theorem gb_zip {f : Bool → Bool → Bool} {a b : List Bool} (h : a.length = 6400) (h' : b.length = 6400) {y x : Nat} (hy : y < 80) (hx : x < 80) : gb (zipB f a b) y x = f (gb a y x) (gb b y x) := zipB_gd (by omega) (by omega)
theorem gb_bits (rs : List Rect) {y x : Nat} (hy : y < 80) (hx : x < 80) : gb (bits rs) y x = rs.any fun r => inR r y x := by
  have h : y * 80 + x < 6400 := by omega
  have e1 : (y * 80 + x) / 80 = y := by omega
  have e2 : (y * 80 + x) % 80 = x := by omega
  rw [gb, gd_eq (by rw [bits_length]; exact h)]
  simp [bits, e1, e2]
theorem gb_orL (l m : List (List Rect)) (ks : List Nat) {y x : Nat} (hy : y < 80) (hx : x < 80) : gb (orL l m ks) y x = ks.any fun k => gb (chgB l m k) y x := by
  have : ∀ (ks : List Nat) (b : List Bool), b.length = 6400 → gb (ks.foldl (fun b k => orB b (chgB l m k)) b) y x = (gb b y x || ks.any fun k => gb (chgB l m k) y x) := by
    intro ks
    induction ks with
    | nil => intro b _; simp
    | cons k ks ih =>
      intro b h
      rw [List.foldl_cons, ih _ (zipB_len h (chgB_len l m k)), gb_zip h (chgB_len l m k) hy hx, List.any_cons, Bool.or_assoc]
  rw [orL, this ks _ (bits_length _), gb_bits [] hy hx]; simp
theorem canon_any {bs : List Bool} {y x : Nat} (hy : y < 80) (hx : x < 80) : ((canon bs).any fun r => inR r y x) = gb bs y x := by
  rw [canon, canonFrom_any bs 0 y x hy hx]; simp
theorem bits_orL (l m : List (List Rect)) (ks : List Nat) : bits ((ks.map fun k => canon (chgB l m k)).flatten) = orL l m ks := by
  refine (bits_eq (orL_len l m ks) fun y x hy hx => ?_).symm
  rw [gb_orL l m ks hy hx, List.any_flatten, List.any_map]
  congr 1; funext k; exact (canon_any hy hx).symm
theorem orL_snoc (l m : List (List Rect)) (ks : List Nat) (k : Nat) : orL l m (ks ++ [k]) = orB (orL l m ks) (chgB l m k) := by simp [orL, List.foldl_append]

/-! ## walks -/
theorem unionAll_s {v : Value} {xs : List (Sl Rect)} (h1 : Rs G L slT v xs) (hd : RsE G L rectT xs) (k : ∀ v', R v' G (osl 59 rectT v' (canon (bits (er xs).flatten)) :: L)) : CallT Try.prog 41 #[v] G L R := by
  refine CallT.bd h1 fun hb => ?_
  refine CallT.enter (args := _) Try.func41 rfl rfl (by kernel_rfl) rfl ?_
  refine WP.seq ?_
  refine WP.region ?_
  refine RG.pv rfl (PV.asg rfl rfl) ?_
  refine RG.nil ?_
  refine WP.seq ?_
  refine WP.region ?_
  refine RG.pv rfl (PV.build0 rfl Try.underlying115 ⟨80, by kernel_rfl⟩ (zeroB_spec (n := 6400) (by kernel_rfl))) ?_
  refine RG.ot rfl (OT.boxG rfl rfl fun b9 => ?_)
  refine RG.pv rfl (PV.mvP (.inr rfl) rfl) ?_
  refine RG.nil ?_
  refine WP.seq ?_
  refine WP.seq ?_
  refine WP.region ?_
  refine RG.pv rfl (PV.move (v := v) rfl rfl) ?_
  refine RG.pv rfl (PV.len (v := v) rfl Try.underlying26 rfl (SlF.r h1)) ?_
  refine RG.pv rfl (PV.mvI (.inl rfl) rfl) ?_
  refine RG.nil ?_
  refine WP.block ?_
  refine WP.loop2 [3, 10, 11] (fun (i : Nat) (cs : List Bool) => i ≤ xs.length ∧ cs.length = 6400 ∧ ∀ y x, y < 80 → x < 80 → gb cs y x = (xs.take i).any fun s => s.xs.any fun r => inR r y x) (fun (i : Nat) (cs : List Bool) => [(12, vi i)]) (fun (i : Nat) (cs : List Bool) => grd b9 cs :: L) (fun (i : Nat) (cs : List Bool) => xs.length - i) 0 (List.replicate 6400 false) ⟨by omega, by simp, fun y x _ _ => by rw [gb_rep]; simp⟩ ⟨rfl, trivial⟩ Cv.p ?_
  rintro i cs τ ⟨hi, hl, hc⟩
  refine WP.seq ?_
  refine WP.region ?_
  refine RG.pv rfl (PV.lss rfl rfl rfl) ?_
  refine RG.nil ?_
  refine WP.seq ?_
  refine WP.cond rfl (fun h2 => ?_) (fun h2 => ?_)
  · have h2 := of_decide_eq_true h2
    have h3 : i < xs.length := by omega
    refine WP.bd (hd i h3) fun hb2 => ?_
    refine WP.skip ?_
    refine WP.seq ?_
    refine WP.block ?_
    refine WP.seq ?_
    refine WP.region ?_
    refine RG.pv rfl (PV.idxS (v := v) rfl Is26 rfl (SlF.r h1) rfl rfl (by omega)) ?_
    refine RG.pv rfl (PV.loadE1 rfl Sc24 rfl rfl (El.r h1 (getG (by omega))) rfl) ?_
    refine RG.pv rfl (PV.asg rfl rfl) ?_
    refine RG.nil ?_
    refine WP.seq ?_
    refine WP.region ?_
    refine RG.pv rfl (PV.move rfl rfl) ?_
    refine RG.pv rfl (PV.len rfl Try.underlying24 rfl (SlF.r (hd i h3))) ?_
    refine RG.pv rfl (PV.mvI (.inl rfl) rfl) ?_
    refine RG.nil ?_
    refine WP.block ?_
    refine WP.loop2 [3, 10, 11, 12, 16, 17] (fun (j : Nat) (ds : List Bool) => j ≤ (gd xs i).xs.length ∧ ds.length = 6400 ∧ ∀ y x, y < 80 → x < 80 → gb ds y x = (gb cs y x || ((gd xs i).xs.take j).any fun r => inR r y x)) (fun (j : Nat) (ds : List Bool) => [(18, vi j)]) (fun (j : Nat) (ds : List Bool) => grd b9 ds :: L) (fun (j : Nat) (ds : List Bool) => (gd xs i).xs.length - j) 0 cs ⟨by omega, hl, fun y x _ _ => by simp⟩ ⟨rfl, trivial⟩ Cv.p ?_
    rintro j ds τ1 ⟨hj, hl2, hc2⟩
    refine WP.seq ?_
    refine WP.region ?_
    refine RG.pv rfl (PV.lss rfl rfl rfl) ?_
    refine RG.nil ?_
    refine WP.seq ?_
    refine WP.cond rfl (fun h4 => ?_) (fun h4 => ?_)
    · have h4 := of_decide_eq_true h4
      refine WP.skip ?_
      refine WP.seq ?_
      refine WP.block ?_
      refine WP.seq ?_
      refine WP.region ?_
      refine RG.pv rfl (PV.idxS rfl Is24 rfl (SlF.r (hd i h3)) rfl rfl (by omega)) ?_
      refine RG.pv rfl (PV.loadE rfl Ag59 rfl rfl (El.r (hd i h3) (getG (by omega)))) ?_
      refine RG.ot rfl (OT.alloc rfl Zr59 fun b7 => ?_)
      refine RG.ot rfl (OT.storeW (vs := [vi _, vi _, vi _, vi _]) rfl Sz59 rfl rfl (Cl.c rfl) rfl rfl (OneC.c rfl) ?_)
      refine RG.nil ?_
      refine WP.region ?_
      refine RG.pv rfl (PV.mvP (.inl rfl) rfl) ?_
      refine RG.pv rfl (PV.loadW rfl Ag59 rfl rfl) ?_
      refine RG.callF (vs := [(.pointer (some ⟨b9, 0, none⟩)), _]) rfl rfl En75 rfl (CallT.exB (put_s (by assumption) (fun bs' hb' hg' => ?_)))
      refine RG.nil ?_
      refine WP.region ?_
      refine RG.pv rfl (PV.add rfl rfl rfl (by omega)) ?_
      refine RG.pv rfl (PV.mvI (.inl rfl) rfl) ?_
      refine RG.nil ?_
      refine ⟨rfl, j + 1, bs', ⟨by omega, hb', fun y x h5 h6 => ?_⟩, ⟨rfl, trivial⟩, ⟨rfl, rfl, rfl, rfl, rfl, rfl, trivial⟩, Cv.p, by omega⟩
      rw [hg' y x h5 h6, hc2 y x h5 h6, List.take_add_one, getG (by omega), List.any_append, Bool.or_assoc]; simp
    · have h4 := of_decide_eq_false h4
      refine WP.exit ?_
      refine WP.region ?_
      refine RG.pv rfl (PV.add rfl rfl rfl (by omega)) ?_
      refine RG.pv rfl (PV.mvI (.inl rfl) rfl) ?_
      refine RG.nil ?_
      refine ⟨rfl, i + 1, ds, ⟨by omega, hl2, fun y x h5 h6 => ?_⟩, ⟨rfl, trivial⟩, ⟨rfl, rfl, rfl, trivial⟩, Cv.p, by omega⟩
      rw [hc2 y x h5 h6, hc y x h5 h6, List.take_of_length_le (l := (gd xs i).xs) (by omega), List.take_add_one, getG h3, List.any_append]; simp
  · have h2 := of_decide_eq_false h2
    have e : cs = bits (er xs).flatten := bits_eq hl fun y x h5 h6 => by
      rw [hc y x h5 h6, List.take_of_length_le (by omega), List.any_flatten, er, List.any_map]; rfl
    subst e
    refine WP.exit ?_
    refine WP.seq ?_
    refine WP.region ?_
    refine RG.pv rfl (PV.mvP (.inl rfl) rfl) ?_
    refine RG.callF (vs := [(.pointer (some ⟨b9, 0, none⟩))]) rfl rfl En76 rfl (CallT.exB (region_s (bits_length _) (fun v28 => ?_)))
    refine RG.pv rfl (PV.asg (v := v28) rfl rfl) ?_
    refine RG.nil ?_
    refine WP.ret ?_
    exact ⟨_, _, ResV.one rfl rfl, Cv.p, k v28⟩
def chgR (l m : List (List Rect)) : List Rect := bif isLay l && isLay m then canon (orL l m [0, 1, 2, 3, 4, 5, 6, 7]) else []
def chgE (l m : List (List Rect)) : Int := bif isLay l && isLay m then 0 else 1
theorem chgR_len (l m : List (List Rect)) : (chgR l m).length ≤ 3200 := by
  unfold chgR; cases isLay l && isLay m
  · simp
  · exact canon_len _
theorem RsN {α : Type} {F : FT α} : Rs G L F (.slice none 0 0) [] := fun w hs => ⟨⟨0, Nat.le_refl _, Nat.zero_le _, .inr ⟨⟨none, rfl⟩, rfl⟩⟩, fun j c h => by simp [FT.flat] at h⟩
theorem range_snoc (k : Nat) : List.range (k + 1) = List.range k ++ [k] := List.range_succ
/-! ## the law -/
end Go.Proofs.Ythjaopefoiploaa
