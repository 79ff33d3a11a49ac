/-
  Contracts of functions and plain facts that the last text of this folder uses, part 4.
-/
import Derived.Test.YtpjajhjcbcfplaaGreatMC3
namespace Go.Proofs.YtpjajhjcbcfplaaGreat
set_option linter.unusedVariables false
set_option linter.unusedSimpArgs false
open Go
set_option maxRecDepth 20000
set_option linter.unusedSimpArgs false
variable {G : Gh} {L : List Ch} {R : Value → Gh → List Ch → Prop}
open Classical in
noncomputable def celL (P : Nat → Nat → Prop) : List Bool := (List.range 6400).map fun k => decide (P (k / 80) (k % 80))
theorem celL_len (P : Nat → Nat → Prop) : (celL P).length = 6400 := by simp [celL]
theorem celL_gb {P : Nat → Nat → Prop} {y x : Nat} (hy : y < 80) (hx : x < 80) : gb (celL P) y x = true ↔ P y x := by
  have h1 : y * 80 + x < 6400 := by omega
  have h2 : (y * 80 + x) / 80 = y := by omega
  have h3 : (y * 80 + x) % 80 = x := by omega
  simp [gb, gd, celL, h1, h2, h3]
theorem celL_eq {P : Nat → Nat → Prop} {D : List Bool} (hD : D.length = 6400) (h : ∀ y x, y < 80 → x < 80 → (gb D y x = true ↔ P y x)) : D = celL P :=
  gb_ext hD (celL_len _) fun y x hy hx => by rw [Bool.eq_iff_iff, h y x hy hx, celL_gb hy hx]
/-- the line of a cell, and its place on it -/
def lnI (ver : Bool) (y x : Nat) : Int := bif ver then (x : Int) - 40 else (y : Int) - 40
def plI (ver : Bool) (y x : Nat) : Int := bif ver then (y : Int) - 40 else (x : Int) - 40
theorem inR_line {ver : Bool} {l lo hi : Int} {y x : Nat} : inR (lineR ver l lo hi) y x = true ↔ l = lnI ver y x ∧ lo ≤ plI ver y x ∧ plI ver y x < hi := by
  rw [inR_iff]
  cases ver <;> simp only [lineR, lnI, plI, cond_true, cond_false] <;> omega
theorem lenR_line {ver : Bool} {l lo hi : Int} : lenR (lineR ver l lo hi) = hi - lo := by
  cases ver
  · simp only [lenR, lineR, cond_false]; rw [show l + 1 - l = 1 by omega, Int.mul_one]
  · simp only [lenR, lineR, cond_true]; rw [show l + 1 - l = 1 by omega, Int.one_mul]
theorem isRun.uniq {S : List Bool} {ver : Bool} {l k lo hi lo' hi' : Int} (h : isRun S ver l k lo hi) (g : isRun S ver l k lo' hi') : lo = lo' ∧ hi = hi' := by
  have a1 := h.lk; have a2 := g.lk
  constructor
  · rcases Int.lt_trichotomy lo lo' with c | c | c
    · have := h.all (lo' - 1) (by omega) (by omega); rw [g.low] at this; cases this
    · exact c
    · have := g.all (lo - 1) (by omega) (by omega); rw [h.low] at this; cases this
  · rcases Int.lt_trichotomy hi hi' with c | c | c
    · have := g.all hi (by omega) (by omega); rw [h.high] at this; cases this
    · exact c
    · have := h.all hi' (by omega) (by omega); rw [g.high] at this; cases this
/-- the cell is on a run shorter than w -/
def Thin (S : List Bool) (w : Int) (y x : Nat) : Prop := ∃ ver lo hi, isRun S ver (lnI ver y x) (plI ver y x) lo hi ∧ hi - lo < w
theorem isRun.at {S : List Bool} {ver : Bool} {l k k' lo hi : Int} (h : isRun S ver l k lo hi) (h1 : lo ≤ k' ∧ k' < hi) : isRun S ver l k' lo hi := ⟨h1, h.rng, h.all, h.low, h.high⟩
theorem markC_iff {S : List Bool} {out : List Rect} (h : RunsA S out) {w : Int} {y x : Nat} : markC out w y x = true ↔ Thin S w y x := by
  simp only [markC, List.any_eq_true, Bool.and_eq_true, decide_eq_true_eq]
  constructor
  · rintro ⟨r, hr, h1, h2⟩
    obtain ⟨ver, l, k, lo, hi, h3, rfl⟩ := h.run r hr
    obtain ⟨rfl, h4⟩ := inR_line.1 h2
    rw [lenR_line] at h1
    exact ⟨ver, lo, hi, h3.at h4, h1⟩
  · rintro ⟨ver, lo, hi, h1, h2⟩
    obtain ⟨lo', hi', h3, h4⟩ := h.all ver _ _ (h1.all _ h1.lk.1 h1.lk.2)
    obtain ⟨rfl, rfl⟩ := h1.uniq h3
    exact ⟨_, h4, by rw [lenR_line]; exact h2, inR_line.2 ⟨rfl, h1.lk⟩⟩
def okDist (w : Int) : Bool := decide (w ≥ 1) && decide (w ≤ 8)
noncomputable def widthL (xs : List Rect) (w : Int) : List Rect := if (isReg xs && okDist w) = true then canon (celL (Thin (bits xs) w)) else []
theorem distance_s {w : Int} (k : R (.bool (okDist w)) G L) : CallT Tryz.prog 110 #[vi w] G L R := by
  refine CallT.enter (args := _) Tryz.func110 rfl rfl (by kernel_rfl) rfl ?_
  refine WP.seq ?_
  refine WP.region ?_
  refine RG.pv rfl (PV.mvB (.inr rfl) rfl) ?_
  refine RG.nil ?_
  refine WP.seq ?_
  refine WP.region ?_
  refine RG.pv rfl (PV.mvI (.inl rfl) rfl) ?_
  refine RG.pv rfl (PV.geq rfl rfl rfl) ?_
  refine RG.pv rfl (PV.mvB (.inl rfl) rfl) ?_
  refine RG.gs rfl rfl rfl (fun hp => (PV.mvI (.inl rfl) rfl)) ?_
  refine RG.gs rfl rfl rfl (fun hp => (PV.leq rfl (gs_t hp) rfl)) ?_
  refine RG.pv rfl (PV.pickA rfl rfl (fun hq => gs_t (geqT hq)) rfl) ?_
  refine RG.pv rfl (PV.mvB (.inr rfl) rfl) ?_
  refine RG.nil ?_
  refine WP.ret ?_
  exact ⟨_, _, ResV.one rfl rfl, Cv.p, k⟩
theorem markWidth_s {v : Value} {xs : List Rect} {w : Int} (h1 : Rs G L rectT v xs) (k : ∀ v', R v' G (osl 71 rectT v' (widthL xs w) :: L)) : CallT Tryz.prog 58 #[v, vi w] G L R := by
  refine CallT.enter (args := _) Tryz.func58 rfl rfl (by kernel_rfl) rfl ?_
  refine WP.seq ?_
  refine WP.region ?_
  refine RG.pv rfl (PV.asg rfl rfl) ?_
  refine RG.nil ?_
  refine WP.seq ?_
  refine WP.seq ?_
  refine WP.region ?_
  refine RG.pv rfl (PV.move (v := v) rfl rfl) ?_
  refine RG.callF (vs := [v]) rfl rfl En35 rfl (l03Ok_s (Rs.up h1) ?_)
  refine RG.pv rfl (PV.not rfl rfl) ?_
  refine RG.pv rfl (PV.mvB (.inl rfl) rfl) ?_
  refine RG.gs rfl rfl rfl (fun hp => (PV.mvI (.inl rfl) rfl)) ?_
  refine RG.gsC rfl rfl rfl rfl En110 (fun hp => ⟨_, (acons (gs_t hp) anil), distance_s ⟨rfl, rfl, rfl⟩⟩) ?_
  refine RG.gs rfl rfl rfl (fun hp => (PV.not rfl (gs_t hp))) ?_
  refine RG.pv rfl (PV.pickO rfl rfl rfl (fun hq => gs_t (geqF hq))) ?_
  refine RG.nil ?_
  refine WP.cond rfl (fun h2 => ?_) (fun h2 => ?_)
  · have e : widthL xs w = [] := by rw [widthL, if_neg]; cases h3 : isReg xs <;> cases h4 : okDist w <;> simp_all
    rw [e] at k
    refine WP.seq ?_
    refine WP.region ?_
    refine RG.ot rfl (OT.bslice (F := rectT) (els := []) rfl El28 rfl (by decide) rfl (by decide) trivial fun v13 => ?_)
    refine RG.pv rfl (PV.asg (v := v13) rfl rfl) ?_
    refine RG.nil ?_
    refine WP.ret ?_
    exact ⟨_, _, ResV.one rfl rfl, Cv.p, k v13⟩
  · have h3 : isReg xs = true ∧ okDist w = true := by cases h3 : isReg xs <;> cases h4 : okDist w <;> simp_all
    have hreg := h3.1
    refine WP.skip ?_
    refine WP.seq ?_
    refine WP.region ?_
    refine RG.pv rfl (PV.move (v := v) rfl rfl) ?_
    refine RG.callF (vs := [v]) rfl rfl En89 rfl (l03Bits_s (Rs.up h1) (fun i hi => valid_get (isReg_valid hreg) hi) (fun v15 => ?_))
    refine RG.callF (vs := [v15]) rfl rfl En112 rfl (runsAll_s Rs.o (bits_length _) (fun v16 outv16 houtv16 => have hlnv16 := houtv16.len; ?_))
    refine RG.pv rfl (PV.mvI (.inl rfl) rfl) ?_
    refine RG.callF (vs := [v16, _]) rfl rfl En111 rfl (mark_s Rs.o (fun r hr => by obtain ⟨ver, l, k, lo, hi, g1, rfl⟩ := houtv16.run r hr; exact lineR_valid g1) (by omega) (fun v18 Dv18 hDv18 hgv18 => ?_))
    refine RG.callF (vs := [v18]) rfl rfl En88 rfl (l03Canon_s Rs.o hDv18 (fun v19 => ?_))
    refine RG.pv rfl (PV.asg (v := v19) rfl rfl) ?_
    refine RG.nil ?_
    refine WP.ret ?_
    have e : widthL xs w = canon Dv18 := by rw [widthL, if_pos (by rw [h3.1, h3.2]; rfl), celL_eq (P := Thin (bits xs) w) hDv18 (fun y x hy hx => by rw [hgv18 y x hy hx, markC_iff houtv16])]
    rw [e] at k
    exact ⟨_, _, ResV.one rfl rfl, Cv.p, k v19⟩
end Go.Proofs.YtpjajhjcbcfplaaGreat
namespace Go.Proofs.YtpjajhjcbcfplaaGreat
set_option linter.unusedVariables false
set_option linter.unusedSimpArgs false
open Go
set_option maxRecDepth 20000
set_option linter.unusedSimpArgs false
variable {G : Gh} {L : List Ch} {R : Value → Gh → List Ch → Prop}
def notB (S : List Bool) : List Bool := S.map (!·)
theorem notB_len (S : List Bool) : (notB S).length = S.length := by simp [notB]
theorem mapB_set {f : Nat → Bool} {E : List Bool} {i n : Nat} (hi : i < n) (hE : E = (List.range i).map f ++ List.replicate (n - i) false) : E.set i (f i) = (List.range (i + 1)).map f ++ List.replicate (n - (i + 1)) false := by
  rw [hE, List.set_append_right _ _ (by simp), List.range_succ, List.map_append, List.append_assoc]
  congr 1
  rw [show n - i = (n - (i + 1)) + 1 by omega, List.replicate_succ]
  simp
theorem mapB_all {f : Nat → Bool} {S : List Bool} {g : Bool → Bool} (h : ∀ j, j < S.length → f j = g (gd S j)) : (List.range S.length).map f ++ List.replicate (S.length - S.length) false = S.map g := by
  rw [Nat.sub_self, List.replicate_zero, List.append_nil]
  apply List.ext_getElem
  · simp
  · intro j h1 h2
    have h3 : j < S.length := by simpa using h1
    simp only [List.getElem_map, List.getElem_range, h j h3]
    rw [gd_eq h3]
theorem outside_s {v : Value} {S : List Bool} (h1 : Rs G L boolT v S) (hl : S.length = 6400) (k : ∀ v', R v' G (osl 4 boolT v' (notB S) :: L)) : CallT Tryz.prog 197 #[v] G L R := by
  refine CallT.enter (args := _) Tryz.func197 rfl rfl (by kernel_rfl) rfl ?_
  refine WP.seq ?_
  refine WP.region ?_
  refine RG.pv rfl (PV.asg rfl rfl) ?_
  refine RG.nil ?_
  refine WP.seq ?_
  refine WP.region ?_
  refine RG.pv rfl (PV.move (v := v) rfl rfl) ?_
  refine RG.pv rfl (PV.len (v := v) rfl Tryz.underlying111 rfl (SlF.r h1)) ?_
  refine RG.ot rfl (OT.make (F := boolT) (a0 := false) rfl El111 rfl (by decide) rfl rfl (by omega) (by omega) fun v7 => ?_)
  refine RG.pv rfl (PV.asg (v := v7) rfl rfl) ?_
  refine RG.nil ?_
  refine WP.seq ?_
  refine WP.seq ?_
  refine WP.region ?_
  refine RG.pv rfl (PV.mvI (.inr rfl) rfl) ?_
  refine RG.nil ?_
  refine WP.block ?_
  refine WP.loop2 [0, 3] (fun (i : Nat) (E : List Bool) => i ≤ S.length ∧ E = (List.range i).map (fun j => !gd S j) ++ List.replicate (S.length - i) false) (fun (i : Nat) (E : List Bool) => [(4, vi i)]) (fun (i : Nat) (E : List Bool) => osl 4 boolT v7 E :: L) (fun (i : Nat) (E : List Bool) => S.length - i) 0 (List.replicate S.length false) ⟨by omega, by simp⟩ ⟨rfl, trivial⟩ Cv.p ?_
  rintro i E τ ⟨hi, hE⟩
  refine WP.seq ?_
  refine WP.seq ?_
  refine WP.region ?_
  refine RG.pv rfl (PV.mvI (.inl rfl) rfl) ?_
  refine RG.pv rfl (PV.move (v := v) rfl rfl) ?_
  refine RG.pv rfl (PV.len (v := v) rfl Tryz.underlying111 rfl (SlF.r h1)) ?_
  refine RG.pv rfl (PV.lss rfl rfl rfl) ?_
  refine RG.nil ?_
  have hEl : E.length = S.length := by rw [hE]; simp; omega
  refine WP.cond rfl (fun h2 => ?_) (fun h2 => ?_)
  · have h2 := of_decide_eq_true h2
    have hn := mapB_set (f := fun j => !gd S j) (n := S.length) (i := i) (by omega) hE
    refine WP.skip ?_
    refine WP.seq ?_
    refine WP.block ?_
    refine WP.region ?_
    refine RG.pv rfl (PV.move (v := v7) rfl rfl) ?_
    refine RG.pv rfl (PV.mvI (.inl rfl) rfl) ?_
    refine RG.pv rfl (PV.move (v := v) rfl rfl) ?_
    refine RG.pv rfl (PV.mvI (.inl rfl) rfl) ?_
    refine RG.pv rfl (PV.idxS (v := v) rfl Is111 rfl (SlF.r h1) rfl rfl (by omega)) ?_
    refine RG.pv rfl (PV.loadE1 rfl Sc4 rfl rfl (El.r h1 (getG (by omega))) rfl) ?_
    refine RG.pv rfl (PV.not rfl rfl) ?_
    refine RG.pv rfl (PV.idxS (v := v7) rfl Is111 rfl SlF.o rfl rfl (by omega)) ?_
    refine RG.ot rfl (OT.storeE (F := boolT) rfl Sz4 rfl rfl rfl (Cl.c rfl) (OneC.c rfl) (by omega) ?_)
    refine RG.nil ?_
    refine WP.region ?_
    refine RG.pv rfl (PV.mvI (.inl rfl) rfl) ?_
    refine RG.pv rfl (PV.add rfl rfl rfl (by omega)) ?_
    refine RG.pv rfl (PV.mvI (.inr rfl) rfl) ?_
    refine RG.nil ?_
    exact ⟨rfl, i + 1, _, ⟨by omega, hn⟩, ⟨rfl, trivial⟩, ⟨rfl, rfl, trivial⟩, Cv.p, by omega⟩
  · have h2 := of_decide_eq_false h2
    obtain rfl : i = S.length := by omega
    rw [mapB_all (g := (!·)) (fun j _ => rfl)] at hE
    have hE' : E = notB S := hE
    rw [hE']
    refine WP.exit ?_
    refine WP.seq ?_
    refine WP.region ?_
    refine RG.pv rfl (PV.move (v := v7) rfl rfl) ?_
    refine RG.pv rfl (PV.asg (v := v7) rfl rfl) ?_
    refine RG.nil ?_
    refine WP.ret ?_
    exact ⟨_, _, ResV.one rfl rfl, Cv.p, k v7⟩
def endP (r : Rect) (ver : Bool) : Pt := bif ver then ⟨r.x0, r.y0 - 1⟩ else ⟨r.x0 - 1, r.y0⟩
def endQ (r : Rect) (ver : Bool) : Pt := bif ver then ⟨r.x0, r.y1⟩ else ⟨r.x1, r.y0⟩
theorem ends_s {r : Rect} {ver : Bool} (hv : validRect r = true) (k : R (.tuple #[vpt (endP r ver), vpt (endQ r ver)]) G L) : CallT Tryz.prog 198 #[vrect r, .bool ver] G L R := by
  have h := validR_iff.1 hv
  refine CallT.enter (args := _) Tryz.func198 rfl rfl (by kernel_rfl) rfl ?_
  refine WP.seq ?_
  refine WP.region ?_
  refine RG.ot rfl (OT.box (cs := rectT.enc r) rfl rfl rfl fun b2 => ?_)
  refine RG.ot rfl (OT.alloc rfl Zr168 fun b4 => ?_)
  refine RG.ot rfl (OT.alloc rfl Zr168 fun b5 => ?_)
  refine RG.nil ?_
  refine WP.seq ?_
  refine WP.seq ?_
  refine WP.region ?_
  refine RG.pv rfl (PV.mvB (.inl rfl) rfl) ?_
  refine RG.nil ?_
  refine WP.cond rfl (fun h2 => ?_) (fun h2 => ?_)
  · subst h2
    refine WP.seq ?_
    refine WP.regionHD [.b b4, .b b5] (.q 0 (.q 1 (.q 2 (.q 3 (.q 4 (.q 5 (.q 6 (.q 7 (.q 8 (.q 9 (.q 10 (.l 11 (.l 12 Sch.nil))))))))))))) (by kernel_rfl) (by kernel_rfl) (by kernel_rfl) rfl ?_
    refine RH.pv rfl (fun _ _ _ _ h => h) (Gh.le_refl _) PickC.pick rfl (PV.field rfl Fo71_0 rfl) ?_
    refine RH.pv rfl (fun _ _ _ _ h => h) (Gh.le_refl _) PickC.pick rfl (PV.load1 rfl Sc2 rfl (Rd.blk rfl)) ?_
    refine RH.pv rfl (fun _ _ _ _ h => h) (Gh.le_refl _) PickC.pick rfl (PV.field rfl Fo71_1 rfl) ?_
    refine RH.pv rfl (fun _ _ _ _ h => h) (Gh.le_refl _) PickC.pick rfl (PV.load1 rfl Sc2 rfl (Rd.blk rfl)) ?_
    refine RH.pv rfl (fun _ _ _ _ h => h) (Gh.le_refl _) PickC.pick rfl (PV.sub rfl rfl rfl (by omega)) ?_
    refine RH.pv rfl (fun _ _ _ _ h => h) (Gh.le_refl _) PickC.pick rfl (PV.build (vs := [(0, [vi _]), (1, [vi _])]) (out := [_, _]) rfl Zr168 Pl168 ⟨rfl, (Cl.c rfl), ⟨rfl, (Cl.c rfl), trivial⟩⟩ rfl) ?_
    refine RH.pv rfl (fun _ _ _ _ h => h) (Gh.le_refl _) PickC.pick rfl (PV.field rfl Fo71_0 rfl) ?_
    refine RH.pv rfl (fun _ _ _ _ h => h) (Gh.le_refl _) PickC.pick rfl (PV.load1 rfl Sc2 rfl (Rd.blk rfl)) ?_
    refine RH.pv rfl (fun _ _ _ _ h => h) (Gh.le_refl _) PickC.pick rfl (PV.field rfl Fo71_3 rfl) ?_
    refine RH.pv rfl (fun _ _ _ _ h => h) (Gh.le_refl _) PickC.pick rfl (PV.load1 rfl Sc2 rfl (Rd.blk rfl)) ?_
    refine RH.pv rfl (fun _ _ _ _ h => h) (Gh.le_refl _) PickC.pick rfl (PV.build (vs := [(0, [vi _]), (1, [vi _])]) (out := [_, _]) rfl Zr168 Pl168 ⟨rfl, (Cl.c rfl), ⟨rfl, (Cl.c rfl), trivial⟩⟩ rfl) ?_
    refine RH.ot rfl rfl (OT.storeW (vs := [vi _, vi _]) rfl Sz168 rfl rfl (Cl.c rfl) rfl rfl (OneC.c rfl) ⟨Gh.le_refl _, PickC.pick, ?_⟩)
    refine RH.ot rfl rfl (OT.storeW (vs := [vi _, vi _]) rfl Sz168 rfl rfl (Cl.c rfl) rfl rfl (OneC.c rfl) ⟨Gh.le_refl _, PickC.pick, ?_⟩)
    refine RH.nil ?_
    refine WP.ret ?_
    exact ⟨_, _, ResV.two rfl (RV1.cell rfl Ag168 rfl) (RV1.cell rfl Ag168 rfl), Cv.p, k⟩
  · subst h2
    refine WP.skip ?_
    refine WP.seq ?_
    refine WP.regionHD [.b b4, .b b5] (.q 0 (.q 1 (.q 2 (.q 3 (.q 4 (.q 5 (.q 6 (.q 7 (.q 8 (.q 9 (.q 10 (.l 11 (.l 12 Sch.nil))))))))))))) (by kernel_rfl) (by kernel_rfl) (by kernel_rfl) rfl ?_
    refine RH.pv rfl (fun _ _ _ _ h => h) (Gh.le_refl _) PickC.pick rfl (PV.field rfl Fo71_0 rfl) ?_
    refine RH.pv rfl (fun _ _ _ _ h => h) (Gh.le_refl _) PickC.pick rfl (PV.load1 rfl Sc2 rfl (Rd.blk rfl)) ?_
    refine RH.pv rfl (fun _ _ _ _ h => h) (Gh.le_refl _) PickC.pick rfl (PV.sub rfl rfl rfl (by omega)) ?_
    refine RH.pv rfl (fun _ _ _ _ h => h) (Gh.le_refl _) PickC.pick rfl (PV.field rfl Fo71_1 rfl) ?_
    refine RH.pv rfl (fun _ _ _ _ h => h) (Gh.le_refl _) PickC.pick rfl (PV.load1 rfl Sc2 rfl (Rd.blk rfl)) ?_
    refine RH.pv rfl (fun _ _ _ _ h => h) (Gh.le_refl _) PickC.pick rfl (PV.build (vs := [(0, [vi _]), (1, [vi _])]) (out := [_, _]) rfl Zr168 Pl168 ⟨rfl, (Cl.c rfl), ⟨rfl, (Cl.c rfl), trivial⟩⟩ rfl) ?_
    refine RH.pv rfl (fun _ _ _ _ h => h) (Gh.le_refl _) PickC.pick rfl (PV.field rfl Fo71_2 rfl) ?_
    refine RH.pv rfl (fun _ _ _ _ h => h) (Gh.le_refl _) PickC.pick rfl (PV.load1 rfl Sc2 rfl (Rd.blk rfl)) ?_
    refine RH.pv rfl (fun _ _ _ _ h => h) (Gh.le_refl _) PickC.pick rfl (PV.field rfl Fo71_1 rfl) ?_
    refine RH.pv rfl (fun _ _ _ _ h => h) (Gh.le_refl _) PickC.pick rfl (PV.load1 rfl Sc2 rfl (Rd.blk rfl)) ?_
    refine RH.pv rfl (fun _ _ _ _ h => h) (Gh.le_refl _) PickC.pick rfl (PV.build (vs := [(0, [vi _]), (1, [vi _])]) (out := [_, _]) rfl Zr168 Pl168 ⟨rfl, (Cl.c rfl), ⟨rfl, (Cl.c rfl), trivial⟩⟩ rfl) ?_
    refine RH.ot rfl rfl (OT.storeW (vs := [vi _, vi _]) rfl Sz168 rfl rfl (Cl.c rfl) rfl rfl (OneC.c rfl) ⟨Gh.le_refl _, PickC.pick, ?_⟩)
    refine RH.ot rfl rfl (OT.storeW (vs := [vi _, vi _]) rfl Sz168 rfl rfl (Cl.c rfl) rfl rfl (OneC.c rfl) ⟨Gh.le_refl _, PickC.pick, ?_⟩)
    refine RH.nil ?_
    refine WP.ret ?_
    exact ⟨_, _, ResV.two rfl (RV1.cell rfl Ag168 rfl) (RV1.cell rfl Ag168 rfl), Cv.p, k⟩
def orZ (A B : List Bool) : List Bool := (List.range A.length).map fun j => gd A j || gd B j
theorem orZ_len (A B : List Bool) : (orZ A B).length = A.length := by simp [orZ]
def gapE (A B : List Bool) (ver : Bool) (r : Rect) : Bool := (celB A (endP r ver).x (endP r ver).y && celB B (endQ r ver).x (endQ r ver).y) || (celB B (endP r ver).x (endP r ver).y && celB A (endQ r ver).x (endQ r ver).y)
theorem filt_succ {α : Type} [Inhabited α] (p : α → Bool) {xs : List α} {i : Nat} (h : i < xs.length) : (xs.take (i + 1)).filter p = (xs.take i).filter p ++ (if p (gd xs i) = true then [gd xs i] else []) := by
  rw [List.take_add_one, getG h, List.filter_append]; congr 1; cases h2 : p (gd xs i) <;> simp [h2]
theorem betw_s {u v : Value} {A B : List Bool} {ver : Bool} (h1 : Rs G L boolT u A) (h2 : Rs G L boolT v B) (hA : A.length = 6400) (hB : B.length = 6400) (k : ∀ v' out, RunsOf (notB (orZ A B)) ver out → R v' G (osl 71 rectT v' (out.filter (gapE A B ver)) :: L)) : CallT Tryz.prog 168 #[u, v, .bool ver] G L R := by
  refine CallT.enter (args := _) Tryz.func168 rfl rfl (by kernel_rfl) rfl ?_
  refine WP.seq ?_
  refine WP.region ?_
  refine RG.pv rfl (PV.asg rfl rfl) ?_
  refine RG.nil ?_
  refine WP.seq ?_
  refine WP.region ?_
  refine RG.pv rfl (PV.move (v := u) rfl rfl) ?_
  refine RG.pv rfl (PV.len (v := u) rfl Tryz.underlying111 rfl (SlF.r h1)) ?_
  refine RG.ot rfl (OT.make (F := boolT) (a0 := false) rfl El111 rfl (by decide) rfl rfl (by omega) (by omega) fun v16 => ?_)
  refine RG.pv rfl (PV.asg (v := v16) rfl rfl) ?_
  refine RG.nil ?_
  refine WP.seq ?_
  refine WP.seq ?_
  refine WP.region ?_
  refine RG.pv rfl (PV.mvI (.inr rfl) rfl) ?_
  refine RG.nil ?_
  refine WP.block ?_
  refine WP.loop2 [0, 1, 2, 7] (fun (i : Nat) (E : List Bool) => i ≤ A.length ∧ E = (List.range i).map (fun j => gd A j || gd B j) ++ List.replicate (A.length - i) false) (fun (i : Nat) (E : List Bool) => [(8, vi i)]) (fun (i : Nat) (E : List Bool) => osl 4 boolT v16 E :: L) (fun (i : Nat) (E : List Bool) => A.length - i) 0 (List.replicate A.length false) ⟨by omega, by simp⟩ ⟨rfl, trivial⟩ Cv.p ?_
  rintro i E τ ⟨hi, hE⟩
  refine WP.seq ?_
  refine WP.seq ?_
  refine WP.region ?_
  refine RG.pv rfl (PV.mvI (.inl rfl) rfl) ?_
  refine RG.pv rfl (PV.move (v := u) rfl rfl) ?_
  refine RG.pv rfl (PV.len (v := u) rfl Tryz.underlying111 rfl (SlF.r h1)) ?_
  refine RG.pv rfl (PV.lss rfl rfl rfl) ?_
  refine RG.nil ?_
  have hEl : E.length = A.length := by rw [hE]; simp; omega
  refine WP.cond rfl (fun h3 => ?_) (fun h3 => ?_)
  · have h3 := of_decide_eq_true h3
    have hn := mapB_set (f := fun j => gd A j || gd B j) (n := A.length) (i := i) (by omega) hE
    refine WP.skip ?_
    refine WP.seq ?_
    refine WP.block ?_
    refine WP.region ?_
    refine RG.pv rfl (PV.move (v := v16) rfl rfl) ?_
    refine RG.pv rfl (PV.mvI (.inl rfl) rfl) ?_
    refine RG.pv rfl (PV.move (v := u) rfl rfl) ?_
    refine RG.pv rfl (PV.mvI (.inl rfl) rfl) ?_
    refine RG.pv rfl (PV.idxS (v := u) rfl Is111 rfl (SlF.r h1) rfl rfl (by omega)) ?_
    refine RG.pv rfl (PV.loadE1 rfl Sc4 rfl rfl (El.r h1 (getG (by omega))) rfl) ?_
    refine RG.pv rfl (PV.mvB (.inl rfl) rfl) ?_
    refine RG.gs rfl rfl rfl (fun hp => (PV.move (v := v) rfl rfl)) ?_
    refine RG.gs rfl rfl rfl (fun hp => (PV.mvI (.inl rfl) rfl)) ?_
    refine RG.gs rfl rfl rfl (fun hp => (PV.idxS (v := v) rfl Is111 (gs_t hp) (SlF.r h2) (gs_t hp) rfl (by first | omega | (simp at hp; omega)))) ?_
    refine RG.gs rfl rfl rfl (fun hp => (PV.loadE1 rfl Sc4 (gs_t hp) rfl (El.r h2 (getG (by first | omega | (simp at hp; omega)))) rfl)) ?_
    refine RG.pv rfl (PV.pickO rfl rfl rfl (fun hq => gs_t (geqF hq))) ?_
    refine RG.pv rfl (PV.idxS (v := v16) rfl Is111 rfl SlF.o rfl rfl (by omega)) ?_
    refine RG.ot rfl (OT.storeE (F := boolT) rfl Sz4 rfl rfl rfl (Cl.c rfl) (OneC.c rfl) (by omega) ?_)
    refine RG.nil ?_
    refine WP.region ?_
    refine RG.pv rfl (PV.mvI (.inl rfl) rfl) ?_
    refine RG.pv rfl (PV.add rfl rfl rfl (by omega)) ?_
    refine RG.pv rfl (PV.mvI (.inr rfl) rfl) ?_
    refine RG.nil ?_
    exact ⟨rfl, i + 1, _, ⟨by omega, hn⟩, ⟨rfl, trivial⟩, ⟨rfl, rfl, rfl, rfl, trivial⟩, Cv.p, by omega⟩
  · have h3 := of_decide_eq_false h3
    obtain rfl : i = A.length := by omega
    have hE' : E = orZ A B := by rw [hE, Nat.sub_self, List.replicate_zero, List.append_nil]; rfl
    rw [hE']
    refine WP.exit ?_
    refine WP.seq ?_
    refine WP.region ?_
    refine RG.pv rfl (PV.move (v := v16) rfl rfl) ?_
    refine RG.callF (vs := [v16]) rfl rfl En197 rfl (outside_s Rs.o (by rw [orZ_len]; exact hA) (fun v37 => ?_))
    refine RG.pv rfl (PV.mvB (.inl rfl) rfl) ?_
    refine RG.callF (vs := [v37, _]) rfl rfl En167 rfl (runs_s Rs.o (by rw [notB_len, orZ_len]; exact hA) (fun v39 outv39 houtv39 => have hlnv39 := houtv39.len; ?_))
    refine RG.pv rfl (PV.asg (v := v39) rfl rfl) ?_
    refine RG.nil ?_
    refine WP.seq ?_
    refine WP.region ?_
    refine RG.ot rfl (OT.bslice (F := rectT) (els := []) rfl El28 rfl (by decide) rfl (by decide) trivial fun v40 => ?_)
    refine RG.pv rfl (PV.asg (v := v40) rfl rfl) ?_
    refine RG.nil ?_
    refine WP.seq ?_
    refine WP.seq ?_
    refine WP.region ?_
    refine RG.pv rfl (PV.mvI (.inr rfl) rfl) ?_
    refine RG.nil ?_
    refine WP.block ?_
    have hvr : ∀ r ∈ outv39, validRect r = true := fun r hr => by obtain ⟨l, k, lo, hi, g1, rfl⟩ := houtv39.run r hr; exact lineR_valid g1
    refine WP.loop3 [0, 1, 2, 9] (fun (i : Nat) (out : List Rect) (q : Value) => i ≤ outv39.length ∧ out = (outv39.take i).filter (gapE A B ver)) (fun (i : Nat) (out : List Rect) (q : Value) => [(11, vi i), (10, q)]) (fun (i : Nat) (out : List Rect) (q : Value) => osl 71 rectT q out :: osl 71 rectT v39 outv39 :: L) (fun (i : Nat) (out : List Rect) (q : Value) => outv39.length - i) 0 [] v40 ⟨by omega, rfl⟩ ⟨rfl, rfl, trivial⟩ Cv.p ?_
    rintro i out q τ1 ⟨hi, hout⟩
    refine WP.seq ?_
    refine WP.seq ?_
    refine WP.region ?_
    refine RG.pv rfl (PV.mvI (.inl rfl) rfl) ?_
    refine RG.pv rfl (PV.move (v := v39) rfl rfl) ?_
    refine RG.pv rfl (PV.len (v := v39) rfl Tryz.underlying28 rfl SlF.o) ?_
    refine RG.pv rfl (PV.lss rfl rfl rfl) ?_
    refine RG.nil ?_
    have hol : out.length ≤ 6400 := by have := List.length_filter_le (gapE A B ver) (outv39.take i); rw [← hout, List.length_take] at this; omega
    refine WP.cond rfl (fun h4 => ?_) (fun h4 => ?_)
    · have h4 := of_decide_eq_true h4
      have h40 : i < outv39.length := by omega
      have hf := filt_succ (gapE A B ver) h40
      refine WP.skip ?_
      refine WP.seq ?_
      refine WP.block ?_
      refine WP.seq ?_
      refine WP.region ?_
      refine RG.pv rfl (PV.move (v := v39) rfl rfl) ?_
      refine RG.pv rfl (PV.mvI (.inl rfl) rfl) ?_
      refine RG.pv rfl (PV.idxS (v := v39) rfl Is28 rfl SlF.o rfl rfl (by omega)) ?_
      refine RG.pv rfl (PV.loadE rfl Ag71 rfl rfl (El.o (getG (by omega)))) ?_
      refine RG.pv rfl (PV.mvB (.inl rfl) rfl) ?_
      refine RG.callF (vs := [_, _]) rfl rfl En198 rfl (ends_s (hvr _ (gd_mem (by omega))) ?_)
      refine RG.pv rfl (PV.move (v := .tuple _) rfl rfl) ?_
      refine RG.pv rfl (PV.ext rfl rfl rfl) ?_
      refine RG.pv rfl (PV.ext rfl rfl rfl) ?_
      refine RG.ot rfl (OT.alloc rfl Zr168 fun b12 => ?_)
      refine RG.ot rfl (OT.alloc rfl Zr168 fun b13 => ?_)
      refine RG.ot rfl (OT.storeW (vs := [vi _, vi _]) rfl Sz168 rfl rfl (Cl.c rfl) rfl rfl (OneC.c rfl) ?_)
      refine RG.ot rfl (OT.storeW (vs := [vi _, vi _]) rfl Sz168 rfl rfl (Cl.c rfl) rfl rfl (OneC.c rfl) ?_)
      refine RG.nil ?_
      refine WP.seq ?_
      refine WP.region ?_
      refine RG.pv rfl (PV.move (v := u) rfl rfl) ?_
      refine RG.pv rfl (PV.field rfl Fo168_0 rfl) ?_
      refine RG.pv rfl (PV.load1 rfl Sc2 rfl (Rd.blk rfl)) ?_
      refine RG.pv rfl (PV.field rfl Fo168_1 rfl) ?_
      refine RG.pv rfl (PV.load1 rfl Sc2 rfl (Rd.blk rfl)) ?_
      refine RG.callF (vs := [u, _, _]) rfl rfl En195 rfl (l17Cel_s (Rs.up h1) hA ?_)
      refine RG.pv rfl (PV.mvB (.inl rfl) rfl) ?_
      refine RG.gs rfl rfl rfl (fun hp => (PV.move (v := v) rfl rfl)) ?_
      refine RG.gs rfl rfl rfl (fun hp => (PV.field rfl Fo168_0 rfl)) ?_
      refine RG.gs rfl rfl rfl (fun hp => (PV.load1 rfl Sc2 (gs_t hp) (Rd.blk rfl))) ?_
      refine RG.gs rfl rfl rfl (fun hp => (PV.field rfl Fo168_1 rfl)) ?_
      refine RG.gs rfl rfl rfl (fun hp => (PV.load1 rfl Sc2 (gs_t hp) (Rd.blk rfl))) ?_
      refine RG.gsC rfl rfl rfl rfl En195 (fun hp => ⟨_, (acons (gs_t hp) (acons (gs_t hp) (acons (gs_t hp) anil))), l17Cel_s (Rs.up h2) hB ⟨rfl, rfl, rfl⟩⟩) ?_
      refine RG.pv rfl (PV.pickA rfl rfl (fun hq => gs_t (geqT hq)) rfl) ?_
      refine RG.pv rfl (PV.mvB (.inl rfl) rfl) ?_
      refine RG.gs rfl rfl rfl (fun hp => (PV.move (v := v) rfl rfl)) ?_
      refine RG.gs rfl rfl rfl (fun hp => (PV.field rfl Fo168_0 rfl)) ?_
      refine RG.gs rfl rfl rfl (fun hp => (PV.load1 rfl Sc2 (gs_t hp) (Rd.blk rfl))) ?_
      refine RG.gs rfl rfl rfl (fun hp => (PV.field rfl Fo168_1 rfl)) ?_
      refine RG.gs rfl rfl rfl (fun hp => (PV.load1 rfl Sc2 (gs_t hp) (Rd.blk rfl))) ?_
      refine RG.gsC rfl rfl rfl rfl En195 (fun hp => ⟨_, (acons (gs_t hp) (acons (gs_t hp) (acons (gs_t hp) anil))), l17Cel_s (Rs.up h2) hB ⟨rfl, rfl, rfl⟩⟩) ?_
      refine RG.gs rfl rfl rfl (fun hp => (PV.mvB (.inl rfl) (gs_t hp))) ?_
      refine RG.gs2 rfl rfl rfl (fun hp => (PV.move (v := u) rfl rfl)) ?_
      refine RG.gs2 rfl rfl rfl (fun hp => (PV.field rfl Fo168_0 rfl)) ?_
      refine RG.gs2 rfl rfl rfl (fun hp => (PV.load1 rfl Sc2 (gs_t hp) (Rd.blk rfl))) ?_
      refine RG.gs2 rfl rfl rfl (fun hp => (PV.field rfl Fo168_1 rfl)) ?_
      refine RG.gs2 rfl rfl rfl (fun hp => (PV.load1 rfl Sc2 (gs_t hp) (Rd.blk rfl))) ?_
      refine RG.gsC2 rfl rfl rfl rfl En195 (fun hp => ⟨_, (acons (gs_t hp) (acons (gs_t hp) (acons (gs_t hp) anil))), l17Cel_s (Rs.up h1) hA ⟨rfl, rfl, rfl⟩⟩) ?_
      refine RG.gs rfl rfl rfl (fun hp => (PV.pickA rfl (gs_t hp) (fun hq => gs_t (gandT hp hq)) rfl)) ?_
      refine RG.pv rfl (PV.pickO rfl rfl rfl (fun hq => gs_t (geqF hq))) ?_
      refine RG.nil ?_
      refine WP.cond rfl (fun h5 => ?_) (fun h5 => ?_)
      · have h6 : gapE A B ver (gd outv39 i) = true := h5
        rw [if_pos h6, ← hout] at hf
        refine WP.region ?_
        refine RG.pv rfl (PV.move (v := q) rfl rfl) ?_
        refine RG.pv rfl (PV.move (v := v39) rfl rfl) ?_
        refine RG.pv rfl (PV.mvI (.inl rfl) rfl) ?_
        refine RG.pv rfl (PV.idxS (v := v39) rfl Is28 rfl SlF.o rfl rfl (by omega)) ?_
        refine RG.pv rfl (PV.loadE rfl Ag71 rfl rfl (El.o (getG (by omega)))) ?_
        refine RG.ot rfl (OT.bslice (F := rectT) (els := [_]) rfl El28 rfl (by decide) rfl (by decide) ⟨rfl, (Cl.c rfl), trivial⟩ fun v91 => ?_)
        refine RG.ot rfl (OT.append (v := q) (u := v91) (F := rectT) rfl El28 rfl (by decide) rfl rfl Rs.o (OneL.c (fun _ => rfl)) rfl (by first | omega | (simp <;> omega)) fun v92 => ?_)
        refine RG.pv rfl (PV.asg (v := v92) rfl rfl) ?_
        refine RG.nil ?_
        refine WP.region ?_
        refine RG.pv rfl (PV.mvI (.inl rfl) rfl) ?_
        refine RG.pv rfl (PV.add rfl rfl rfl (by omega)) ?_
        refine RG.pv rfl (PV.mvI (.inr rfl) rfl) ?_
        refine RG.nil ?_
        exact ⟨rfl, i + 1, _, v92, ⟨by omega, hf.symm⟩, ⟨rfl, rfl, trivial⟩, ⟨rfl, rfl, rfl, rfl, trivial⟩, Cv.p, by omega⟩
      · have h6 : ¬ gapE A B ver (gd outv39 i) = true := by rw [show gapE A B ver (gd outv39 i) = false from h5]; decide
        rw [if_neg h6, ← hout, List.append_nil] at hf
        refine WP.skip ?_
        refine WP.region ?_
        refine RG.pv rfl (PV.mvI (.inl rfl) rfl) ?_
        refine RG.pv rfl (PV.add rfl rfl rfl (by omega)) ?_
        refine RG.pv rfl (PV.mvI (.inr rfl) rfl) ?_
        refine RG.nil ?_
        exact ⟨rfl, i + 1, _, q, ⟨by omega, hf.symm⟩, ⟨rfl, rfl, trivial⟩, ⟨rfl, rfl, rfl, rfl, trivial⟩, Cv.p, by omega⟩
    · have h4 := of_decide_eq_false h4
      rw [List.take_of_length_le (by omega)] at hout
      rw [hout]
      refine WP.exit ?_
      refine WP.seq ?_
      refine WP.region ?_
      refine RG.pv rfl (PV.move (v := q) rfl rfl) ?_
      refine RG.pv rfl (PV.asg (v := q) rfl rfl) ?_
      refine RG.nil ?_
      refine WP.ret ?_
      exact ⟨_, _, ResV.one rfl rfl, Cv.p, k q outv39 houtv39⟩
/-- the gaps of two sets, in any order -/
structure GapsA (A B : List Bool) (out : List Rect) : Prop where
  len : out.length ≤ 12800
  run : ∀ r ∈ out, ∃ ver l k lo hi, isRun (notB (orZ A B)) ver l k lo hi ∧ gapE A B ver (lineR ver l lo hi) = true ∧ r = lineR ver l lo hi
  all : ∀ ver l k lo hi, isRun (notB (orZ A B)) ver l k lo hi → gapE A B ver (lineR ver l lo hi) = true → lineR ver l lo hi ∈ out
theorem GapsA.of {A B : List Bool} {a b : List Rect} (ha : RunsOf (notB (orZ A B)) false a) (hb : RunsOf (notB (orZ A B)) true b) : GapsA A B (a.filter (gapE A B false) ++ b.filter (gapE A B true)) := ⟨by
  have := ha.len; have := hb.len
  have := List.length_filter_le (gapE A B false) a; have := List.length_filter_le (gapE A B true) b
  rw [List.length_append]; omega, fun r hr => by
  rcases List.mem_append.1 hr with h | h
  · obtain ⟨h1, h2⟩ := List.mem_filter.1 h
    obtain ⟨l, k, lo, hi, g1, rfl⟩ := ha.run r h1; exact ⟨false, l, k, lo, hi, g1, h2, rfl⟩
  · obtain ⟨h1, h2⟩ := List.mem_filter.1 h
    obtain ⟨l, k, lo, hi, g1, rfl⟩ := hb.run r h1; exact ⟨true, l, k, lo, hi, g1, h2, rfl⟩, fun ver l k lo hi h1 h2 => by
  have hc := h1.all k h1.lk.1 h1.lk.2
  cases ver with
  | false =>
    obtain ⟨lo', hi', h3, h4⟩ := ha.all l k hc
    obtain ⟨rfl, rfl⟩ := h1.uniq h3
    exact List.mem_append_left _ (List.mem_filter.2 ⟨h4, h2⟩)
  | true =>
    obtain ⟨lo', hi', h3, h4⟩ := hb.all l k hc
    obtain ⟨rfl, rfl⟩ := h1.uniq h3
    exact List.mem_append_right _ (List.mem_filter.2 ⟨h4, h2⟩)⟩
theorem gapsAll_s {u v : Value} {A B : List Bool} (h1 : Rs G L boolT u A) (h2 : Rs G L boolT v B) (hA : A.length = 6400) (hB : B.length = 6400) (k : ∀ v' out, GapsA A B out → R v' G (osl 71 rectT v' out :: L)) : CallT Tryz.prog 113 #[u, v] G L R := by
  refine CallT.enter (args := _) Tryz.func113 rfl rfl (by kernel_rfl) rfl ?_
  refine WP.seq ?_
  refine WP.region ?_
  refine RG.pv rfl (PV.asg rfl rfl) ?_
  refine RG.nil ?_
  refine WP.seq ?_
  refine WP.region ?_
  refine RG.pv rfl (PV.move (v := u) rfl rfl) ?_
  refine RG.pv rfl (PV.move (v := v) rfl rfl) ?_
  refine RG.callF (vs := [u, v, _]) rfl rfl En168 rfl (betw_s (Rs.up h1) (Rs.up h2) hA hB (fun v7 outv7 houtv7 => have hlnv7 := houtv7.len; have hfav7 := Nat.le_trans (List.length_filter_le (gapE A B false) outv7) hlnv7; have hfbv7 := Nat.le_trans (List.length_filter_le (gapE A B true) outv7) hlnv7; ?_))
  refine RG.pv rfl (PV.move (v := u) rfl rfl) ?_
  refine RG.pv rfl (PV.move (v := v) rfl rfl) ?_
  refine RG.callF (vs := [u, v, _]) rfl rfl En168 rfl (betw_s (Rs.up h1) (Rs.up h2) hA hB (fun v10 outv10 houtv10 => have hlnv10 := houtv10.len; have hfav10 := Nat.le_trans (List.length_filter_le (gapE A B false) outv10) hlnv10; have hfbv10 := Nat.le_trans (List.length_filter_le (gapE A B true) outv10) hlnv10; ?_))
  refine RG.ot rfl (OT.append (v := v7) (u := v10) (F := rectT) rfl El28 rfl (by decide) rfl rfl Rs.o (OneL.c (fun _ => rfl)) rfl (by first | omega | (simp <;> omega)) fun v11 => ?_)
  refine RG.pv rfl (PV.asg (v := v11) rfl rfl) ?_
  refine RG.nil ?_
  refine WP.ret ?_
  exact ⟨_, _, ResV.one rfl rfl, Cv.p, k v11 _ (GapsA.of houtv7 houtv10)⟩
/-- the cell is in a gap shorter than w -/
def Nigh (A B : List Bool) (w : Int) (y x : Nat) : Prop := ∃ ver lo hi, isRun (notB (orZ A B)) ver (lnI ver y x) (plI ver y x) lo hi ∧ gapE A B ver (lineR ver (lnI ver y x) lo hi) = true ∧ hi - lo < w
theorem near_iff {A B : List Bool} {out : List Rect} (h : GapsA A B out) {w : Int} {y x : Nat} : markC out w y x = true ↔ Nigh A B w y x := by
  simp only [markC, List.any_eq_true, Bool.and_eq_true, decide_eq_true_eq]
  constructor
  · rintro ⟨r, hr, h1, h2⟩
    obtain ⟨ver, l, k, lo, hi, h3, h5, rfl⟩ := h.run r hr
    obtain ⟨rfl, h4⟩ := inR_line.1 h2
    rw [lenR_line] at h1
    exact ⟨ver, lo, hi, h3.at h4, h5, h1⟩
  · rintro ⟨ver, lo, hi, h1, h5, h2⟩
    exact ⟨_, h.all ver _ _ _ _ h1 h5, by rw [lenR_line]; exact h2, inR_line.2 ⟨rfl, h1.lk⟩⟩
noncomputable def spaceL (xs : List Rect) (w : Int) : List Rect := if (isReg xs && okDist w) = true then canon (celL (Nigh (bits xs) (bits xs) w)) else []
noncomputable def betwL (xs ys : List Rect) (w : Int) : List Rect := if (isReg xs && isReg ys && okDist w) = true then canon (celL fun y x => Nigh (bits xs) (bits ys) w y x ∨ (gb (bits xs) y x = true ∧ gb (bits ys) y x = true)) else []
theorem gd_setE {α : Type} [Inhabited α] {xs : List α} {i : Nat} {a : α} (h : i < xs.length) : gd (xs.set i a) i = a := by unfold gd; simp [h]
theorem gd_setN {α : Type} [Inhabited α] {xs : List α} {i j : Nat} {a : α} (h : i ≠ j) : gd (xs.set i a) j = gd xs j := by unfold gd; rw [List.getElem?_set_ne h]
theorem markSpacing_s {v : Value} {xs : List Rect} {w : Int} (h1 : Rs G L rectT v xs) (k : ∀ v', R v' G (osl 71 rectT v' (spaceL xs w) :: L)) : CallT Tryz.prog 59 #[v, vi w] G L R := by
  refine CallT.enter (args := _) Tryz.func59 rfl rfl (by kernel_rfl) rfl ?_
  refine WP.seq ?_
  refine WP.region ?_
  refine RG.pv rfl (PV.asg rfl rfl) ?_
  refine RG.nil ?_
  refine WP.seq ?_
  refine WP.seq ?_
  refine WP.region ?_
  refine RG.pv rfl (PV.move (v := v) rfl rfl) ?_
  refine RG.callF (vs := [v]) rfl rfl En35 rfl (l03Ok_s (Rs.up h1) ?_)
  refine RG.pv rfl (PV.not rfl rfl) ?_
  refine RG.pv rfl (PV.mvB (.inl rfl) rfl) ?_
  refine RG.gs rfl rfl rfl (fun hp => (PV.mvI (.inl rfl) rfl)) ?_
  refine RG.gsC rfl rfl rfl rfl En110 (fun hp => ⟨_, (acons (gs_t hp) anil), distance_s ⟨rfl, rfl, rfl⟩⟩) ?_
  refine RG.gs rfl rfl rfl (fun hp => (PV.not rfl (gs_t hp))) ?_
  refine RG.pv rfl (PV.pickO rfl rfl rfl (fun hq => gs_t (geqF hq))) ?_
  refine RG.nil ?_
  refine WP.cond rfl (fun h2 => ?_) (fun h2 => ?_)
  · have e : spaceL xs w = [] := by rw [spaceL, if_neg]; cases h3 : isReg xs <;> cases h4 : okDist w <;> simp_all
    rw [e] at k
    refine WP.seq ?_
    refine WP.region ?_
    refine RG.ot rfl (OT.bslice (F := rectT) (els := []) rfl El28 rfl (by decide) rfl (by decide) trivial fun v13 => ?_)
    refine RG.pv rfl (PV.asg (v := v13) rfl rfl) ?_
    refine RG.nil ?_
    refine WP.ret ?_
    exact ⟨_, _, ResV.one rfl rfl, Cv.p, k v13⟩
  · have h3 : isReg xs = true ∧ okDist w = true := by cases h3 : isReg xs <;> cases h4 : okDist w <;> simp_all
    have hreg := h3.1
    refine WP.skip ?_
    refine WP.seq ?_
    refine WP.region ?_
    refine RG.pv rfl (PV.move (v := v) rfl rfl) ?_
    refine RG.callF (vs := [v]) rfl rfl En89 rfl (l03Bits_s (Rs.up h1) (fun i hi => valid_get (isReg_valid hreg) hi) (fun v15 => ?_))
    refine RG.pv rfl (PV.move (v := v) rfl rfl) ?_
    refine RG.callF (vs := [v]) rfl rfl En89 rfl (l03Bits_s (Rs.up h1) (fun i hi => valid_get (isReg_valid hreg) hi) (fun v17 => ?_))
    refine RG.callF (vs := [v15, v17]) rfl rfl En113 rfl (gapsAll_s Rs.o Rs.o (bits_length _) (bits_length _) (fun v18 outv18 houtv18 => have hlnv18 := houtv18.len; ?_))
    refine RG.pv rfl (PV.mvI (.inl rfl) rfl) ?_
    refine RG.callF (vs := [v18, _]) rfl rfl En111 rfl (mark_s Rs.o (fun r hr => by obtain ⟨ver, l, k, lo, hi, g1, _, rfl⟩ := houtv18.run r hr; exact lineR_valid g1) (by omega) (fun v20 Dv20 hDv20 hgv20 => ?_))
    refine RG.callF (vs := [v20]) rfl rfl En88 rfl (l03Canon_s Rs.o hDv20 (fun v21 => ?_))
    refine RG.pv rfl (PV.asg (v := v21) rfl rfl) ?_
    refine RG.nil ?_
    refine WP.ret ?_
    have e : spaceL xs w = canon Dv20 := by rw [spaceL, if_pos (by rw [h3.1, h3.2]; rfl), celL_eq (P := Nigh (bits xs) (bits xs) w) hDv20 (fun y x hy hx => by rw [hgv20 y x hy hx, near_iff houtv18])]
    rw [e] at k
    exact ⟨_, _, ResV.one rfl rfl, Cv.p, k v21⟩
theorem markBetween_s {u v : Value} {xs ys : List Rect} {w : Int} (h1 : Rs G L rectT u xs) (h2 : Rs G L rectT v ys) (k : ∀ v', R v' G (osl 71 rectT v' (betwL xs ys w) :: L)) : CallT Tryz.prog 60 #[u, v, vi w] G L R := by
  refine CallT.enter (args := _) Tryz.func60 rfl rfl (by kernel_rfl) rfl ?_
  refine WP.seq ?_
  refine WP.region ?_
  refine RG.pv rfl (PV.asg rfl rfl) ?_
  refine RG.nil ?_
  refine WP.seq ?_
  refine WP.seq ?_
  refine WP.region ?_
  refine RG.pv rfl (PV.move (v := u) rfl rfl) ?_
  refine RG.callF (vs := [u]) rfl rfl En35 rfl (l03Ok_s (Rs.up h1) ?_)
  refine RG.pv rfl (PV.not rfl rfl) ?_
  refine RG.pv rfl (PV.mvB (.inl rfl) rfl) ?_
  refine RG.gs rfl rfl rfl (fun hp => (PV.move (v := v) rfl rfl)) ?_
  refine RG.gsC rfl rfl rfl rfl En35 (fun hp => ⟨_, (acons (gs_t hp) anil), l03Ok_s (Rs.up h2) ⟨rfl, rfl, rfl⟩⟩) ?_
  refine RG.gs rfl rfl rfl (fun hp => (PV.not rfl (gs_t hp))) ?_
  refine RG.pv rfl (PV.pickO rfl rfl rfl (fun hq => gs_t (geqF hq))) ?_
  refine RG.pv rfl (PV.mvB (.inl rfl) rfl) ?_
  refine RG.gs rfl rfl rfl (fun hp => (PV.mvI (.inl rfl) rfl)) ?_
  refine RG.gsC rfl rfl rfl rfl En110 (fun hp => ⟨_, (acons (gs_t hp) anil), distance_s ⟨rfl, rfl, rfl⟩⟩) ?_
  refine RG.gs rfl rfl rfl (fun hp => (PV.not rfl (gs_t hp))) ?_
  refine RG.pv rfl (PV.pickO rfl rfl rfl (fun hq => gs_t (geqF hq))) ?_
  refine RG.nil ?_
  refine WP.cond rfl (fun h3 => ?_) (fun h3 => ?_)
  · have e : betwL xs ys w = [] := by rw [betwL, if_neg]; cases g1 : isReg xs <;> cases g2 : isReg ys <;> cases g4 : okDist w <;> simp_all
    rw [e] at k
    refine WP.seq ?_
    refine WP.region ?_
    refine RG.ot rfl (OT.bslice (F := rectT) (els := []) rfl El28 rfl (by decide) rfl (by decide) trivial fun v24 => ?_)
    refine RG.pv rfl (PV.asg (v := v24) rfl rfl) ?_
    refine RG.nil ?_
    refine WP.ret ?_
    exact ⟨_, _, ResV.one rfl rfl, Cv.p, k v24⟩
  · have h4 : isReg xs = true ∧ isReg ys = true ∧ okDist w = true := by cases g1 : isReg xs <;> cases g2 : isReg ys <;> cases g4 : okDist w <;> simp_all
    have hreg := h4.1
    have hregy := h4.2.1
    refine WP.skip ?_
    refine WP.seq ?_
    refine WP.region ?_
    refine RG.pv rfl (PV.move (v := u) rfl rfl) ?_
    refine RG.callF (vs := [u]) rfl rfl En89 rfl (l03Bits_s (Rs.up h1) (fun i hi => valid_get (isReg_valid hreg) hi) (fun v26 => ?_))
    refine RG.pv rfl (PV.move (v := v) rfl rfl) ?_
    refine RG.callF (vs := [v]) rfl rfl En89 rfl (l03Bits_s (Rs.up h2) (fun i hi => valid_get (isReg_valid hregy) hi) (fun v28 => ?_))
    refine RG.pv rfl (PV.asg (v := v26) rfl rfl) ?_
    refine RG.pv rfl (PV.asg (v := v28) rfl rfl) ?_
    refine RG.nil ?_
    refine WP.seq ?_
    refine WP.region ?_
    refine RG.pv rfl (PV.move (v := v26) rfl rfl) ?_
    refine RG.pv rfl (PV.move (v := v28) rfl rfl) ?_
    refine RG.callF (vs := [v26, v28]) rfl rfl En113 rfl (gapsAll_s Rs.o Rs.o (bits_length _) (bits_length _) (fun v31 outv31 houtv31 => have hlnv31 := houtv31.len; ?_))
    refine RG.pv rfl (PV.mvI (.inl rfl) rfl) ?_
    refine RG.callF (vs := [v31, _]) rfl rfl En111 rfl (mark_s Rs.o (fun r hr => by obtain ⟨ver, l, k, lo, hi, g1, _, rfl⟩ := houtv31.run r hr; exact lineR_valid g1) (by omega) (fun v33 Dv33 hDv33 hgv33 => ?_))
    refine RG.pv rfl (PV.asg (v := v33) rfl rfl) ?_
    refine RG.nil ?_
    refine WP.seq ?_
    refine WP.seq ?_
    refine WP.region ?_
    refine RG.pv rfl (PV.mvI (.inr rfl) rfl) ?_
    refine RG.nil ?_
    refine WP.block ?_
    refine WP.loop2 [7, 8, 9] (fun (i : Nat) (E : List Bool) => i ≤ 6400 ∧ E.length = 6400 ∧ (∀ j, j < i → gd E j = (gd Dv33 j || (gd (bits xs) j && gd (bits ys) j))) ∧ (∀ j, i ≤ j → gd E j = gd Dv33 j)) (fun (i : Nat) (E : List Bool) => [(10, vi i)]) (fun (i : Nat) (E : List Bool) => osl 4 boolT v33 E :: osl 4 boolT v26 (bits xs) :: osl 4 boolT v28 (bits ys) :: L) (fun (i : Nat) (E : List Bool) => 6400 - i) 0 Dv33 ⟨by omega, hDv33, fun j h => by omega, fun j _ => rfl⟩ ⟨rfl, trivial⟩ Cv.p ?_
    rintro i E τ ⟨hi, hE, hE1, hE2⟩
    refine WP.seq ?_
    refine WP.seq ?_
    refine WP.region ?_
    refine RG.pv rfl (PV.mvI (.inl rfl) rfl) ?_
    refine RG.pv rfl (PV.move (v := v33) rfl rfl) ?_
    refine RG.pv rfl (PV.len (v := v33) rfl Tryz.underlying111 rfl SlF.o) ?_
    refine RG.pv rfl (PV.lss rfl rfl rfl) ?_
    refine RG.nil ?_
    have hbx := bits_length xs
    have hby := bits_length ys
    refine WP.cond rfl (fun h5 => ?_) (fun h5 => ?_)
    · have h5 := of_decide_eq_true h5
      have hs1 : ∀ j, j < i + 1 → gd (E.set i (gd E i || (gd (bits xs) i && gd (bits ys) i))) j = (gd Dv33 j || (gd (bits xs) j && gd (bits ys) j)) := fun j hj => by
        by_cases c : j = i
        · subst c; rw [gd_setE (by omega), hE2 j (Nat.le_refl _)]
        · rw [gd_setN (fun e => c e.symm)]; exact hE1 j (by omega)
      have hs2 : ∀ j, i + 1 ≤ j → gd (E.set i (gd E i || (gd (bits xs) i && gd (bits ys) i))) j = gd Dv33 j := fun j hj => by rw [gd_setN (by omega)]; exact hE2 j (by omega)
      refine WP.skip ?_
      refine WP.seq ?_
      refine WP.block ?_
      refine WP.region ?_
      refine RG.pv rfl (PV.move (v := v33) rfl rfl) ?_
      refine RG.pv rfl (PV.mvI (.inl rfl) rfl) ?_
      refine RG.pv rfl (PV.move (v := v33) rfl rfl) ?_
      refine RG.pv rfl (PV.mvI (.inl rfl) rfl) ?_
      refine RG.pv rfl (PV.idxS (v := v33) rfl Is111 rfl SlF.o rfl rfl (by omega)) ?_
      refine RG.pv rfl (PV.loadE1 rfl Sc4 rfl rfl (El.o (getG (by omega))) rfl) ?_
      refine RG.pv rfl (PV.mvB (.inl rfl) rfl) ?_
      refine RG.gs rfl rfl rfl (fun hp => (PV.move (v := v26) rfl rfl)) ?_
      refine RG.gs rfl rfl rfl (fun hp => (PV.mvI (.inl rfl) rfl)) ?_
      refine RG.gs rfl rfl rfl (fun hp => (PV.idxS (v := v26) rfl Is111 (gs_t hp) SlF.o (gs_t hp) rfl (by first | omega | (simp at hp; omega)))) ?_
      refine RG.gs rfl rfl rfl (fun hp => (PV.loadE1 rfl Sc4 (gs_t hp) rfl (El.o (getG (by first | omega | (simp at hp; omega)))) rfl)) ?_
      refine RG.gs rfl rfl rfl (fun hp => (PV.mvB (.inl rfl) (gs_t hp))) ?_
      refine RG.gs2 rfl rfl rfl (fun hp => (PV.move (v := v28) rfl rfl)) ?_
      refine RG.gs2 rfl rfl rfl (fun hp => (PV.mvI (.inl rfl) rfl)) ?_
      refine RG.gs2 rfl rfl rfl (fun hp => (PV.idxS (v := v28) rfl Is111 (gs_t hp) SlF.o (gs_t hp) rfl (by first | omega | (simp at hp; omega)))) ?_
      refine RG.gs2 rfl rfl rfl (fun hp => (PV.loadE1 rfl Sc4 (gs_t hp) rfl (El.o (getG (by first | omega | (simp at hp; omega)))) rfl)) ?_
      refine RG.gs rfl rfl rfl (fun hp => (PV.pickA rfl (gs_t hp) (fun hq => gs_t (gandT hp hq)) rfl)) ?_
      refine RG.pv rfl (PV.pickO rfl rfl rfl (fun hq => gs_t (geqF hq))) ?_
      refine RG.pv rfl (PV.idxS (v := v33) rfl Is111 rfl SlF.o rfl rfl (by omega)) ?_
      refine RG.ot rfl (OT.storeE (F := boolT) rfl Sz4 rfl rfl rfl (Cl.c rfl) (OneC.c rfl) (by omega) ?_)
      refine RG.nil ?_
      refine WP.region ?_
      refine RG.pv rfl (PV.mvI (.inl rfl) rfl) ?_
      refine RG.pv rfl (PV.add rfl rfl rfl (by omega)) ?_
      refine RG.pv rfl (PV.mvI (.inr rfl) rfl) ?_
      refine RG.nil ?_
      exact ⟨rfl, i + 1, (E.set i (gd E i || (gd (bits xs) i && gd (bits ys) i))), ⟨by omega, by simpa using hE, hs1, hs2⟩, ⟨rfl, trivial⟩, ⟨rfl, rfl, rfl, trivial⟩, Cv.p, by omega⟩
    · have h5 := of_decide_eq_false h5
      obtain rfl : i = 6400 := by omega
      refine WP.exit ?_
      refine WP.seq ?_
      refine WP.region ?_
      refine RG.pv rfl (PV.move (v := v33) rfl rfl) ?_
      refine RG.callF (vs := [v33]) rfl rfl En88 rfl (l03Canon_s Rs.o hE (fun v60 => ?_))
      refine RG.pv rfl (PV.asg (v := v60) rfl rfl) ?_
      refine RG.nil ?_
      refine WP.ret ?_
      have e : betwL xs ys w = canon E := by
        rw [betwL, if_pos (by rw [h4.1, h4.2.1, h4.2.2]; rfl), celL_eq (P := fun y x => Nigh (bits xs) (bits ys) w y x ∨ (gb (bits xs) y x = true ∧ gb (bits ys) y x = true)) hE (fun y x hy hx => by
          have := hE1 (y * 80 + x) (by omega)
          rw [← near_iff houtv31, ← hgv33 y x hy hx]
          unfold gb; rw [this]; simp)]
      rw [e] at k
      exact ⟨_, _, ResV.one rfl rfl, Cv.p, k v60⟩
end Go.Proofs.YtpjajhjcbcfplaaGreat
namespace Go.Proofs.YtpjajhjcbcfplaaGreat
set_option linter.unusedVariables false
set_option linter.unusedSimpArgs false
open Go
set_option maxRecDepth 20000
set_option linter.unusedSimpArgs false
variable {G : Gh} {L : List Ch} {R : Value → Gh → List Ch → Prop}
def ValidL (xs : List Rect) : Prop := ∀ r ∈ xs, validRect r = true
theorem ValidL.app {xs : List Rect} {r : Rect} (h : ValidL xs) (hr : validRect r = true) : ValidL (xs ++ [r]) := fun a ha => by
  rcases List.mem_append.1 ha with h1 | h1
  · exact h a h1
  · simp only [List.mem_singleton] at h1; subst h1; exact hr
theorem len_bd {r : Rect} (hv : validRect r = true) : 0 ≤ lenR r ∧ lenR r ≤ 6400 := by
  have h := validR_iff.1 hv
  exact ⟨Int.mul_nonneg (by omega) (by omega), Int.le_trans (Int.mul_le_mul (by omega : r.x1 - r.x0 ≤ 80) (by omega : r.y1 - r.y0 ≤ 80) (by omega) (by omega)) (by decide)⟩
theorem mul_bd {a b : Int} (ha : 1 ≤ a ∧ a ≤ 100) (hb : 0 ≤ b ∧ b ≤ 6400) : 0 ≤ a * b ∧ a * b ≤ 640000 :=
  ⟨Int.mul_nonneg (by omega) (by omega), Int.le_trans (Int.mul_le_mul ha.2 hb.2 (by omega) (by omega)) (by decide)⟩
end Go.Proofs.YtpjajhjcbcfplaaGreat
namespace Go.Proofs.YtpjajhjcbcfplaaGreat
set_option linter.unusedVariables false
set_option linter.unusedSimpArgs false
open Go
set_option maxRecDepth 20000
set_option linter.unusedSimpArgs false
variable {G : Gh} {L : List Ch} {R : Value → Gh → List Ch → Prop}
def nps (zs : List Net) : List (Sl Piece) := zs.map Net.pieces
theorem nps_len (zs : List Net) : (nps zs).length = zs.length := by simp [nps]
theorem nps_gd {zs : List Net} {i : Nat} (h : i < zs.length) : gd (nps zs) i = (gd zs i).pieces := gd_map _ h
theorem er_set {α : Type} (zs : List (Sl α)) (i : Nat) (s : Sl α) : er (zs.set i s) = (er zs).set i s.xs := by simp [er, List.map_set]
end Go.Proofs.YtpjajhjcbcfplaaGreat
namespace Go.Proofs.YtpjajhjcbcfplaaGreat
set_option linter.unusedVariables false
set_option linter.unusedSimpArgs false
open Go
set_option linter.unusedSimpArgs false
set_option maxRecDepth 20000
def cellB (S : List Bool) (x y : Int) : Bool := (decide (-40 ≤ x ∧ x < 40) && decide (-40 ≤ y ∧ y < 40)) && gd S ((y + 40) * 80 + x + 40).toNat
theorem cellB_in {S : List Bool} {x y : Int} (h : -40 ≤ x ∧ x < 40 ∧ -40 ≤ y ∧ y < 40) : cellB S x y = gb S (y + 40).toNat (x + 40).toNat := by
  have e : ((y + 40) * 80 + x + 40).toNat = (y + 40).toNat * 80 + (x + 40).toNat := by omega
  rw [cellB, decide_eq_true (by omega), decide_eq_true (by omega), e]; rfl
end Go.Proofs.YtpjajhjcbcfplaaGreat
namespace Go.Proofs.YtpjajhjcbcfplaaGreat
set_option linter.unusedVariables false
set_option linter.unusedSimpArgs false
open Go
set_option maxRecDepth 20000
set_option linter.unusedSimpArgs false
variable {G : Gh} {L : List Ch} {R : Value → Gh → List Ch → Prop}
/-- all slices of a bag, by membership -/
theorem Rs.mem {α : Type} {G : Gh} {L L' : List Ch} {e : TypeId} {F : FT α} {xs : List (Sl α)} [hX : ExBg xs L e F L'] {s : Sl α} (h : s ∈ xs) : Rs G L F s.v s.xs := by
  obtain ⟨i, hi, rfl⟩ := List.getElem_of_mem h
  have := Rs.inBag (G := G) (L := L) (L' := L') (e := e) (F := F) (xs := xs) i hi
  rwa [gd_eq hi] at this
theorem RsE.flat {G : Gh} {L L' : List Ch} {e : TypeId} {zs : List Net} [hX : ExBg (regs (er (nps zs)).flatten) L e rectT L'] {i : Nat} (hi : i < zs.length) : RsE G L rectT (regs (gd zs i).pieces.xs) := fun j hj => by
  rw [regs_len] at hj
  rw [regs_gd hj]
  refine Rs.mem (L := L) (L' := L') (e := e) (xs := regs (er (nps zs)).flatten) (List.mem_map_of_mem ?_)
  refine List.mem_flatten.2 ⟨(gd zs i).pieces.xs, ?_, gd_mem hj⟩
  rw [← nps_gd hi, ← er_gd]
  exact gd_mem (by rw [er_len, nps_len]; exact hi)
end Go.Proofs.YtpjajhjcbcfplaaGreat
namespace Go.Proofs.YtpjajhjcbcfplaaGreat
set_option linter.unusedVariables false
set_option linter.unusedSimpArgs false
open Go
set_option linter.unusedSimpArgs false
set_option maxRecDepth 20000
def one (b : Bool) : Int := bif b then 1 else 0
theorem one_nn (b : Bool) : 0 ≤ one b ∧ one b ≤ 1 := by cases b <;> simp [one]
def sumF (f : Nat → Int) : Nat → Int
  | 0 => 0
  | n + 1 => sumF f n + f n
def cntF (f : Nat → Bool) (n : Nat) : Int := sumF (fun k => one (f k)) n
theorem cntF_succ (f : Nat → Bool) (n : Nat) : cntF f (n + 1) = cntF f n + one (f n) := rfl
theorem cntF_bd (f : Nat → Bool) : ∀ n, 0 ≤ cntF f n ∧ cntF f n ≤ n
  | 0 => by simp [cntF, sumF]
  | n + 1 => by
    have := cntF_bd f n
    have := one_nn (f n)
    rw [cntF_succ]; omega
theorem sumF_bd {f : Nat → Int} {B : Int} (h : ∀ k, 0 ≤ f k ∧ f k ≤ B) : ∀ n, 0 ≤ sumF f n ∧ sumF f n ≤ n * B
  | 0 => by simp [sumF]
  | n + 1 => by
    have h1 := sumF_bd h n
    have h2 := h n
    rw [sumF, Int.natCast_add, Int.add_mul]; omega
def wR (r : Rect) : Nat := (r.x1 - r.x0).toNat
def hR (r : Rect) : Nat := (r.y1 - r.y0).toNat
/-- cells of a row, of a column, of a box -/
def tH (D : List Bool) (y x0 : Int) (n : Nat) : Int := cntF (fun k => cellB D (x0 + k) y) n
def covB (S : List Bool) (r : Rect) : Int := sumF (fun j => tH S (r.y0 + j) r.x0 (wR r)) (hR r)
end Go.Proofs.YtpjajhjcbcfplaaGreat
namespace Go.Proofs.YtpjajhjcbcfplaaGreat
set_option linter.unusedVariables false
set_option linter.unusedSimpArgs false
open Go
set_option maxRecDepth 20000
set_option linter.unusedSimpArgs false
variable {G : Gh} {L : List Ch} {R : Value → Gh → List Ch → Prop}
def Is (W : List Bool) (P : Nat → Nat → Prop) : Prop := W.length = 6400 ∧ ∀ v u : Nat, v < 80 → u < 80 → (gb W v u = true ↔ P v u)
theorem Is.congr {W : List Bool} {P Q : Nat → Nat → Prop} (h : Is W P) (e : ∀ v u : Nat, v < 80 → u < 80 → (P v u ↔ Q v u)) : Is W Q := ⟨h.1, fun v u hv hu => (h.2 v u hv hu).trans (e v u hv hu)⟩
theorem Is.set {W : List Bool} {P : Nat → Nat → Prop} (h : Is W P) {Y X : Nat} (hy : Y < 80) (hx : X < 80) : Is (W.set (Y * 80 + X) true) fun v u => P v u ∨ (v = Y ∧ u = X) := ⟨by simpa using h.1, fun v u hv hu => by
  rw [gb_set' h.1 hy hx hu]
  by_cases c : v = Y ∧ u = X
  · rw [if_pos c]; simp [c]
  · rw [if_neg c, h.2 v u hv hu]; simp [c]⟩
theorem Is.uniq {W V : List Bool} {P : Nat → Nat → Prop} (h : Is W P) (g : Is V P) : W = V := gb_ext h.1 g.1 fun y x hy hx => by rw [Bool.eq_iff_iff, h.2 y x hy hx, g.2 y x hy hx]
theorem Is.none {P : Nat → Nat → Prop} (n : Nat) (hn : n = 6400) (h : ∀ v u : Nat, v < 80 → u < 80 → ¬ P v u) : Is (List.replicate n false) P := ⟨by simp [hn], fun v u hv hu => by rw [gb_repf]; simp [h v u hv hu]⟩
def N1 (S : List Bool) (c y x : Int) (v u : Nat) : Prop := ∃ x' : Nat, x' < 80 ∧ gb S v x' = true ∧ (u : Int) - x' ≤ c ∧ (x' : Int) - u ≤ c ∧ ((v : Int) - 40 < y ∨ ((v : Int) - 40 = y ∧ (x' : Int) - 40 < x))
def N1d (S : List Bool) (c y x d : Int) (v u : Nat) : Prop := N1 S c y x v u ∨ ((v : Int) - 40 = y ∧ gb S v (x + 40).toNat = true ∧ x - c ≤ (u : Int) - 40 ∧ (u : Int) - 40 < x + d)
theorem N1.line {S : List Bool} {c y : Int} {v u : Nat} : N1 S c y 40 v u ↔ N1 S c (y + 1) (-40) v u := by
  constructor
  · rintro ⟨x', h1, h2, h3, h4, h5⟩; exact ⟨x', h1, h2, h3, h4, by omega⟩
  · rintro ⟨x', h1, h2, h3, h4, h5⟩; exact ⟨x', h1, h2, h3, h4, by omega⟩
theorem N1d.start {S : List Bool} {c y x : Int} {v u : Nat} : N1 S c y x v u ↔ N1d S c y x (-c) v u := by
  constructor
  · exact .inl
  · rintro (h | ⟨h1, h2, h3, h4⟩)
    · exact h
    · omega
theorem N1d.stop {S : List Bool} {c y x d : Int} {v u : Nat} (hx : -40 ≤ x ∧ x < 40) (hd : d = c + 1 ∨ ((v : Int) - 40 = y → gb S v (x + 40).toNat = false)) (hdc : d ≤ c + 1) : N1d S c y x d v u ↔ N1 S c y (x + 1) v u := by
  constructor
  · rintro (⟨x', h1, h2, h3, h4, h5⟩ | ⟨h1, h2, h3, h4⟩)
    · exact ⟨x', h1, h2, h3, h4, by omega⟩
    · exact ⟨(x + 40).toNat, by omega, h2, by omega, by omega, by omega⟩
  · rintro ⟨x', h1, h2, h3, h4, h5⟩
    by_cases e : (v : Int) - 40 = y ∧ (x' : Int) - 40 = x
    · have e2 : x' = (x + 40).toNat := by omega
      rcases hd with hd | hd
      · subst e2; exact .inr ⟨e.1, h2, by omega, by omega⟩
      · rw [e2, hd e.1] at h2; cases h2
    · exact .inl ⟨x', h1, h2, h3, h4, by omega⟩
theorem N1d.put {S : List Bool} {c y x d : Int} {v u : Nat} (hy : -40 ≤ y) (hd : -c ≤ d ∧ d ≤ c) (hx : -40 ≤ x + d) (hs : gb S (y + 40).toNat (x + 40).toNat = true) : (N1d S c y x d v u ∨ (v = (y + 40).toNat ∧ u = (x + d + 40).toNat)) ↔ N1d S c y x (d + 1) v u := by
  constructor
  · rintro ((h | ⟨h1, h2, h3, h4⟩) | ⟨rfl, rfl⟩)
    · exact .inl h
    · exact .inr ⟨h1, h2, h3, by omega⟩
    · exact .inr ⟨by omega, hs, by omega, by omega⟩
  · rintro (h | ⟨h1, h2, h3, h4⟩)
    · exact .inl (.inl h)
    · by_cases e : (u : Int) - 40 = x + d
      · exact .inr ⟨by omega, by omega⟩
      · exact .inl (.inr ⟨h1, h2, h3, by omega⟩)
theorem N1d.out {S : List Bool} {c y x d : Int} {v u : Nat} (hu : u < 80) (hx : ¬ (-40 ≤ x + d ∧ x + d < 40)) : N1d S c y x d v u ↔ N1d S c y x (d + 1) v u := by
  constructor
  · rintro (h | ⟨h1, h2, h3, h4⟩)
    · exact .inl h
    · exact .inr ⟨h1, h2, h3, by omega⟩
  · rintro (h | ⟨h1, h2, h3, h4⟩)
    · exact .inl h
    · exact .inr ⟨h1, h2, h3, by omega⟩
def N2 (W : List Bool) (c y x : Int) (v u : Nat) : Prop := ∃ y' : Nat, y' < 80 ∧ gb W y' u = true ∧ (v : Int) - y' ≤ c ∧ (y' : Int) - v ≤ c ∧ ((y' : Int) - 40 < y ∨ ((y' : Int) - 40 = y ∧ (u : Int) - 40 < x))
def N2d (W : List Bool) (c y x d : Int) (v u : Nat) : Prop := N2 W c y x v u ∨ ((u : Int) - 40 = x ∧ gb W (y + 40).toNat u = true ∧ y - c ≤ (v : Int) - 40 ∧ (v : Int) - 40 < y + d)
theorem N2.line {S : List Bool} {c y : Int} {v u : Nat} (hu : u < 80) : N2 S c y 40 v u ↔ N2 S c (y + 1) (-40) v u := by
  constructor
  · rintro ⟨x', h1, h2, h3, h4, h5⟩; exact ⟨x', h1, h2, h3, h4, by omega⟩
  · rintro ⟨x', h1, h2, h3, h4, h5⟩; exact ⟨x', h1, h2, h3, h4, by omega⟩
theorem N2d.start {S : List Bool} {c y x : Int} {v u : Nat} : N2 S c y x v u ↔ N2d S c y x (-c) v u := by
  constructor
  · exact .inl
  · rintro (h | ⟨h1, h2, h3, h4⟩)
    · exact h
    · omega
theorem N2d.stop {S : List Bool} {c y x d : Int} {v u : Nat} (hy : -40 ≤ y ∧ y < 40) (hd : d = c + 1 ∨ ((u : Int) - 40 = x → gb S (y + 40).toNat u = false)) (hdc : d ≤ c + 1) : N2d S c y x d v u ↔ N2 S c y (x + 1) v u := by
  constructor
  · rintro (⟨x', h1, h2, h3, h4, h5⟩ | ⟨h1, h2, h3, h4⟩)
    · exact ⟨x', h1, h2, h3, h4, by omega⟩
    · exact ⟨(y + 40).toNat, by omega, h2, by omega, by omega, by omega⟩
  · rintro ⟨x', h1, h2, h3, h4, h5⟩
    by_cases e : (u : Int) - 40 = x ∧ (x' : Int) - 40 = y
    · have e2 : x' = (y + 40).toNat := by omega
      rcases hd with hd | hd
      · subst e2; exact .inr ⟨e.1, h2, by omega, by omega⟩
      · rw [e2, hd e.1] at h2; cases h2
    · exact .inl ⟨x', h1, h2, h3, h4, by omega⟩
theorem N2d.put {S : List Bool} {c y x d : Int} {v u : Nat} (hx : -40 ≤ x) (hd : -c ≤ d ∧ d ≤ c) (hy : -40 ≤ y + d) (hs : gb S (y + 40).toNat (x + 40).toNat = true) : (N2d S c y x d v u ∨ (v = (y + d + 40).toNat ∧ u = (x + 40).toNat)) ↔ N2d S c y x (d + 1) v u := by
  constructor
  · rintro ((h | ⟨h1, h2, h3, h4⟩) | ⟨rfl, rfl⟩)
    · exact .inl h
    · exact .inr ⟨h1, h2, h3, by omega⟩
    · exact .inr ⟨by omega, hs, by omega, by omega⟩
  · rintro (h | ⟨h1, h2, h3, h4⟩)
    · exact .inl (.inl h)
    · by_cases e : (v : Int) - 40 = y + d
      · exact .inr ⟨by omega, by omega⟩
      · exact .inl (.inr ⟨h1, h2, h3, by omega⟩)
theorem N2d.out {S : List Bool} {c y x d : Int} {v u : Nat} (hv : v < 80) (hy : ¬ (-40 ≤ y + d ∧ y + d < 40)) : N2d S c y x d v u ↔ N2d S c y x (d + 1) v u := by
  constructor
  · rintro (h | ⟨h1, h2, h3, h4⟩)
    · exact .inl h
    · exact .inr ⟨h1, h2, h3, by omega⟩
  · rintro (h | ⟨h1, h2, h3, h4⟩)
    · exact .inl h
    · exact .inr ⟨h1, h2, h3, by omega⟩
theorem near_grow {S W E : List Bool} {c : Int} (hW : Is W (N1 S c 40 (-40))) (hE : Is E (N2 W c 40 (-40))) : E = growB S c := gb_ext hE.1 (growB_len _ _) fun y x hy hx => by
  rw [Bool.eq_iff_iff, hE.2 y x hy hx, growB_iff hy hx]
  constructor
  · rintro ⟨y', h1, h2, h3, h4, _⟩
    obtain ⟨x', g1, g2, g3, g4, _⟩ := (hW.2 y' x h1 hx).1 h2
    exact ⟨y', x', h1, g1, by omega, by omega, by omega, by omega, g2⟩
  · rintro ⟨y', x', h1, h2, h3, h4, h5, h6, h7⟩
    exact ⟨y', h1, (hW.2 y' x h1 hx).2 ⟨x', h2, h7, by omega, by omega, by omega⟩, by omega, by omega, by omega⟩
theorem near_s {v : Value} {S : List Bool} {c : Int} (h1 : Rs G L boolT v S) (hS : S.length = 6400) (hc : 0 ≤ c ∧ c ≤ 8) (k : ∀ v', R v' G (osl 4 boolT v' (growB S c) :: L)) : CallT Tryz.prog 114 #[v, vi c] G L R := by
  refine CallT.enter (args := _) Tryz.func114 rfl rfl (by kernel_rfl) rfl ?_
  refine WP.seq ?_
  refine WP.region ?_
  refine RG.pv rfl (PV.asg rfl rfl) ?_
  refine RG.nil ?_
  refine WP.seq ?_
  refine WP.region ?_
  refine RG.pv rfl (PV.move (v := v) rfl rfl) ?_
  refine RG.pv rfl (PV.len (v := v) rfl Tryz.underlying111 rfl (SlF.r h1)) ?_
  refine RG.ot rfl (OT.make (F := boolT) (a0 := false) rfl El111 rfl (by decide) rfl rfl (by omega) (by omega) fun v15 => ?_)
  refine RG.pv rfl (PV.asg (v := v15) rfl rfl) ?_
  refine RG.nil ?_
  refine WP.seq ?_
  refine WP.region ?_
  refine RG.pv rfl (PV.move (v := v) rfl rfl) ?_
  refine RG.pv rfl (PV.len (v := v) rfl Tryz.underlying111 rfl (SlF.r h1)) ?_
  refine RG.ot rfl (OT.make (F := boolT) (a0 := false) rfl El111 rfl (by decide) rfl rfl (by omega) (by omega) fun v18 => ?_)
  refine RG.pv rfl (PV.asg (v := v18) rfl rfl) ?_
  refine RG.nil ?_
  refine WP.seq ?_
  refine WP.seq ?_
  refine WP.region ?_
  refine RG.pv rfl (PV.mvI (.inr rfl) rfl) ?_
  refine RG.nil ?_
  refine WP.block ?_
  refine WP.loop2 [0, 1, 5, 6] (fun (y : Int) (W : List Bool) => (-40 ≤ y ∧ y ≤ 40) ∧ Is W (N1 S c y (-40))) (fun (y : Int) (W : List Bool) => [(7, vi y)]) (fun (y : Int) (W : List Bool) => osl 4 boolT v15 W :: osl 4 boolT v18 (List.replicate S.length false) :: L) (fun (y : Int) (W : List Bool) => (40 - y).toNat) (-40) (List.replicate S.length false) ⟨by omega, Is.none _ hS fun v u hv hu => by rintro ⟨x', h1, h2, h3, h4, h5⟩; omega⟩ ⟨rfl, trivial⟩ Cv.p ?_
  rintro y W τ ⟨hy, hW⟩
  refine WP.seq ?_
  refine WP.seq ?_
  refine WP.region ?_
  refine RG.pv rfl (PV.mvI (.inl rfl) rfl) ?_
  refine RG.pv rfl (PV.lss rfl rfl rfl) ?_
  refine RG.nil ?_
  have hWl := hW.1
  refine WP.cond rfl (fun h2 => ?_) (fun h2 => ?_)
  · have h2 := of_decide_eq_true h2
    refine WP.skip ?_
    refine WP.seq ?_
    refine WP.block ?_
    refine WP.seq ?_
    refine WP.region ?_
    refine RG.pv rfl (PV.mvI (.inr rfl) rfl) ?_
    refine RG.nil ?_
    refine WP.block ?_
    refine WP.loop2 [0, 1, 5, 6, 7] (fun (x : Int) (W1 : List Bool) => (-40 ≤ x ∧ x ≤ 40) ∧ Is W1 (N1 S c y x)) (fun (x : Int) (W1 : List Bool) => [(8, vi x)]) (fun (x : Int) (W1 : List Bool) => osl 4 boolT v15 W1 :: osl 4 boolT v18 (List.replicate S.length false) :: L) (fun (x : Int) (W1 : List Bool) => (40 - x).toNat) (-40) W ⟨by omega, hW⟩ ⟨rfl, trivial⟩ Cv.p ?_
    rintro x W1 τ1 ⟨hx, hW1⟩
    refine WP.seq ?_
    refine WP.seq ?_
    refine WP.region ?_
    refine RG.pv rfl (PV.mvI (.inl rfl) rfl) ?_
    refine RG.pv rfl (PV.lss rfl rfl rfl) ?_
    refine RG.nil ?_
    have hWl1 := hW1.1
    refine WP.cond rfl (fun h3 => ?_) (fun h3 => ?_)
    · have h3 := of_decide_eq_true h3
      have hat := at_eq (x := x) (y := y) (by omega) (by omega)
      refine WP.skip ?_
      refine WP.seq ?_
      refine WP.block ?_
      refine WP.seq ?_
      refine WP.region ?_
      refine RG.pv rfl (PV.mvI (.inl rfl) rfl) ?_
      refine RG.pv rfl (PV.neg rfl rfl (by omega)) ?_
      refine RG.pv rfl (PV.mvI (.inr rfl) rfl) ?_
      refine RG.nil ?_
      refine WP.block ?_
      refine WP.loop2 [0, 1, 5, 6, 7, 8] (fun (d : Int) (W2 : List Bool) => (-c ≤ d ∧ d ≤ c + 1) ∧ Is W2 (N1d S c y x d)) (fun (d : Int) (W2 : List Bool) => [(9, vi d)]) (fun (d : Int) (W2 : List Bool) => osl 4 boolT v15 W2 :: osl 4 boolT v18 (List.replicate S.length false) :: L) (fun (d : Int) (W2 : List Bool) => (c + 1 - d).toNat) (-c) W1 ⟨by omega, hW1.congr fun v u _ _ => N1d.start⟩ ⟨rfl, trivial⟩ Cv.p ?_
      rintro d W2 τ2 ⟨hd, hW2⟩
      refine WP.seq ?_
      refine WP.seq ?_
      refine WP.region ?_
      refine RG.pv rfl (PV.mvI (.inl rfl) rfl) ?_
      refine RG.pv rfl (PV.mvI (.inl rfl) rfl) ?_
      refine RG.pv rfl (PV.leq rfl rfl rfl) ?_
      refine RG.pv rfl (PV.mvB (.inl rfl) rfl) ?_
      refine RG.gs rfl rfl rfl (fun hp => (PV.move (v := v) rfl rfl)) ?_
      refine RG.gs rfl rfl rfl (fun hp => (PV.mvI (.inl rfl) rfl)) ?_
      refine RG.gs rfl rfl rfl (fun hp => (PV.mvI (.inl rfl) rfl)) ?_
      refine RG.gsC rfl rfl rfl rfl En169 (fun hp => ⟨_, (acons (gs_t hp) (acons (gs_t hp) anil)), l17At_s (by first | omega | (simp at hp; omega)) (by first | omega | (simp at hp; omega)) ⟨rfl, rfl, rfl⟩⟩) ?_
      refine RG.gs rfl rfl rfl (fun hp => (PV.idxS (j := ((y + 40) * 80 + x + 40).toNat) (v := v) rfl Is111 (gs_t hp) (SlF.r h1) (gs_t hp) (by first | omega | (simp at hp; omega)) (by first | omega | (simp at hp; omega)))) ?_
      refine RG.gs rfl rfl rfl (fun hp => (PV.loadE1 rfl Sc4 (gs_t hp) rfl (El.r h1 (getG (by first | omega | (simp at hp; omega)))) rfl)) ?_
      refine RG.pv rfl (PV.pickA rfl rfl (fun hq => gs_t (geqT hq)) rfl) ?_
      refine RG.nil ?_
      have hWl2 := hW2.1
      refine WP.cond rfl (fun h4 => ?_) (fun h4 => ?_)
      · have h4' : d ≤ c ∧ gb S (y + 40).toNat (x + 40).toNat = true := by rw [gb, ← hat]; simpa using h4
        have h4 := h4'.1
        refine WP.skip ?_
        refine WP.seq ?_
        refine WP.block ?_
        refine WP.seq ?_
        refine WP.region ?_
        refine RG.pv rfl (PV.mvI (.inl rfl) rfl) ?_
        refine RG.pv rfl (PV.mvI (.inl rfl) rfl) ?_
        refine RG.pv rfl (PV.add rfl rfl rfl (by omega)) ?_
        refine RG.pv rfl (PV.mvI (.inl rfl) rfl) ?_
        refine RG.callF (vs := [_, _]) rfl rfl En170 rfl (l17Inside_s ?_)
        refine RG.nil ?_
        refine WP.cond rfl (fun h5 => ?_) (fun h5 => ?_)
        · have h5 : (-40 ≤ x + d ∧ x + d < 40) ∧ -40 ≤ y ∧ y < 40 := by simpa using h5
          have hat2 := at_eq (x := x + d) (y := y) (by omega) (by omega)
          refine WP.region ?_
          refine RG.pv rfl (PV.move (v := v15) rfl rfl) ?_
          refine RG.pv rfl (PV.mvI (.inl rfl) rfl) ?_
          refine RG.pv rfl (PV.mvI (.inl rfl) rfl) ?_
          refine RG.pv rfl (PV.add rfl rfl rfl (by omega)) ?_
          refine RG.pv rfl (PV.mvI (.inl rfl) rfl) ?_
          refine RG.callF (vs := [_, _]) rfl rfl En169 rfl (l17At_s (by first | omega | (simp at hp; omega)) (by first | omega | (simp at hp; omega)) ?_)
          refine RG.pv rfl (PV.idxS (j := ((y + 40) * 80 + (x + d) + 40).toNat) (v := v15) rfl Is111 rfl SlF.o rfl (by first | omega | (simp only [List.length_set]; omega)) (by first | omega | (simp only [List.length_set]; omega))) ?_
          refine RG.ot rfl (OT.storeE (F := boolT) rfl Sz4 rfl rfl rfl (Cl.c rfl) (OneC.c rfl) (by first | omega | (simp only [List.length_set]; omega)) ?_)
          refine RG.nil ?_
          refine WP.region ?_
          refine RG.pv rfl (PV.mvI (.inl rfl) rfl) ?_
          refine RG.pv rfl (PV.add rfl rfl rfl (by omega)) ?_
          refine RG.pv rfl (PV.mvI (.inr rfl) rfl) ?_
          refine RG.nil ?_
          exact ⟨rfl, d + 1, (W2.set ((y + 40) * 80 + (x + d) + 40).toNat true), ⟨by omega, by rw [hat2]; exact (hW2.set (by omega) (by omega)).congr fun v u _ _ => N1d.put (by omega) (by omega) (by omega) h4'.2⟩, ⟨rfl, trivial⟩, ⟨rfl, rfl, rfl, rfl, rfl, rfl, trivial⟩, Cv.p, by omega⟩
        · have h5 : ¬ (-40 ≤ x + d ∧ x + d < 40) := by
            intro h6
            have h7 : ((-40 ≤ x + d ∧ x + d < 40) ∧ -40 ≤ y ∧ y < 40) := ⟨h6, by omega⟩
            simp [h7.1.1, h7.1.2, h7.2.1, h7.2.2] at h5
          refine WP.skip ?_
          refine WP.region ?_
          refine RG.pv rfl (PV.mvI (.inl rfl) rfl) ?_
          refine RG.pv rfl (PV.add rfl rfl rfl (by omega)) ?_
          refine RG.pv rfl (PV.mvI (.inr rfl) rfl) ?_
          refine RG.nil ?_
          exact ⟨rfl, d + 1, W2, ⟨by omega, hW2.congr fun v u _ hu => N1d.out hu h5⟩, ⟨rfl, trivial⟩, ⟨rfl, rfl, rfl, rfl, rfl, rfl, trivial⟩, Cv.p, by omega⟩
      · have h4' : d = c + 1 ∨ gb S (y + 40).toNat (x + 40).toNat = false := by
          by_cases c1 : d ≤ c
          · right; rw [gb, ← hat]; simpa [c1] using h4
          · left; omega
        refine WP.exit ?_
        refine WP.region ?_
        refine RG.pv rfl (PV.mvI (.inl rfl) rfl) ?_
        refine RG.pv rfl (PV.add rfl rfl rfl (by omega)) ?_
        refine RG.pv rfl (PV.mvI (.inr rfl) rfl) ?_
        refine RG.nil ?_
        exact ⟨rfl, x + 1, W2, ⟨by omega, hW2.congr fun v u _ _ => N1d.stop (by omega) (h4'.imp id fun e hv => by rw [show v = (y + 40).toNat by omega]; exact e) (by omega)⟩, ⟨rfl, trivial⟩, ⟨rfl, rfl, rfl, rfl, rfl, trivial⟩, Cv.p, by omega⟩
    · obtain rfl : x = 40 := by have h3 := of_decide_eq_false h3; omega
      refine WP.exit ?_
      refine WP.region ?_
      refine RG.pv rfl (PV.mvI (.inl rfl) rfl) ?_
      refine RG.pv rfl (PV.add rfl rfl rfl (by omega)) ?_
      refine RG.pv rfl (PV.mvI (.inr rfl) rfl) ?_
      refine RG.nil ?_
      exact ⟨rfl, y + 1, W1, ⟨by omega, hW1.congr fun v u _ _ => N1.line⟩, ⟨rfl, trivial⟩, ⟨rfl, rfl, rfl, rfl, trivial⟩, Cv.p, by omega⟩
  · obtain rfl : y = 40 := by have h2 := of_decide_eq_false h2; omega
    refine WP.exit ?_
    refine WP.seq ?_
    refine WP.seq ?_
    refine WP.region ?_
    refine RG.pv rfl (PV.mvI (.inr rfl) rfl) ?_
    refine RG.nil ?_
    refine WP.block ?_
    refine WP.loop2 [1, 5, 6] (fun (y : Int) (E : List Bool) => (-40 ≤ y ∧ y ≤ 40) ∧ Is E (N2 W c y (-40))) (fun (y : Int) (E : List Bool) => [(10, vi y)]) (fun (y : Int) (E : List Bool) => osl 4 boolT v15 W :: osl 4 boolT v18 E :: L) (fun (y : Int) (E : List Bool) => (40 - y).toNat) (-40) (List.replicate S.length false) ⟨by omega, Is.none _ hS fun v u hv hu => by rintro ⟨x', h1, h2, h3, h4, h5⟩; omega⟩ ⟨rfl, trivial⟩ Cv.p ?_
    rintro y E τ3 ⟨hy2, hE⟩
    refine WP.seq ?_
    refine WP.seq ?_
    refine WP.region ?_
    refine RG.pv rfl (PV.mvI (.inl rfl) rfl) ?_
    refine RG.pv rfl (PV.lss rfl rfl rfl) ?_
    refine RG.nil ?_
    have hEl := hE.1
    refine WP.cond rfl (fun h2 => ?_) (fun h2 => ?_)
    · have h2 := of_decide_eq_true h2
      refine WP.skip ?_
      refine WP.seq ?_
      refine WP.block ?_
      refine WP.seq ?_
      refine WP.region ?_
      refine RG.pv rfl (PV.mvI (.inr rfl) rfl) ?_
      refine RG.nil ?_
      refine WP.block ?_
      refine WP.loop2 [1, 5, 6, 10] (fun (x : Int) (E1 : List Bool) => (-40 ≤ x ∧ x ≤ 40) ∧ Is E1 (N2 W c y x)) (fun (x : Int) (E1 : List Bool) => [(11, vi x)]) (fun (x : Int) (E1 : List Bool) => osl 4 boolT v15 W :: osl 4 boolT v18 E1 :: L) (fun (x : Int) (E1 : List Bool) => (40 - x).toNat) (-40) E ⟨by omega, hE⟩ ⟨rfl, trivial⟩ Cv.p ?_
      rintro x E1 τ1 ⟨hx, hE1⟩
      refine WP.seq ?_
      refine WP.seq ?_
      refine WP.region ?_
      refine RG.pv rfl (PV.mvI (.inl rfl) rfl) ?_
      refine RG.pv rfl (PV.lss rfl rfl rfl) ?_
      refine RG.nil ?_
      have hEl1 := hE1.1
      refine WP.cond rfl (fun h3 => ?_) (fun h3 => ?_)
      · have h3 := of_decide_eq_true h3
        have hat := at_eq (x := x) (y := y) (by omega) (by omega)
        refine WP.skip ?_
        refine WP.seq ?_
        refine WP.block ?_
        refine WP.seq ?_
        refine WP.region ?_
        refine RG.pv rfl (PV.mvI (.inl rfl) rfl) ?_
        refine RG.pv rfl (PV.neg rfl rfl (by omega)) ?_
        refine RG.pv rfl (PV.mvI (.inr rfl) rfl) ?_
        refine RG.nil ?_
        refine WP.block ?_
        refine WP.loop2 [1, 5, 6, 10, 11] (fun (d : Int) (E2 : List Bool) => (-c ≤ d ∧ d ≤ c + 1) ∧ Is E2 (N2d W c y x d)) (fun (d : Int) (E2 : List Bool) => [(12, vi d)]) (fun (d : Int) (E2 : List Bool) => osl 4 boolT v15 W :: osl 4 boolT v18 E2 :: L) (fun (d : Int) (E2 : List Bool) => (c + 1 - d).toNat) (-c) E1 ⟨by omega, hE1.congr fun v u _ _ => N2d.start⟩ ⟨rfl, trivial⟩ Cv.p ?_
        rintro d E2 τ2 ⟨hd, hE2⟩
        refine WP.seq ?_
        refine WP.seq ?_
        refine WP.region ?_
        refine RG.pv rfl (PV.mvI (.inl rfl) rfl) ?_
        refine RG.pv rfl (PV.mvI (.inl rfl) rfl) ?_
        refine RG.pv rfl (PV.leq rfl rfl rfl) ?_
        refine RG.pv rfl (PV.mvB (.inl rfl) rfl) ?_
        refine RG.gs rfl rfl rfl (fun hp => (PV.move (v := v15) rfl rfl)) ?_
        refine RG.gs rfl rfl rfl (fun hp => (PV.mvI (.inl rfl) rfl)) ?_
        refine RG.gs rfl rfl rfl (fun hp => (PV.mvI (.inl rfl) rfl)) ?_
        refine RG.gsC rfl rfl rfl rfl En169 (fun hp => ⟨_, (acons (gs_t hp) (acons (gs_t hp) anil)), l17At_s (by first | omega | (simp at hp; omega)) (by first | omega | (simp at hp; omega)) ⟨rfl, rfl, rfl⟩⟩) ?_
        refine RG.gs rfl rfl rfl (fun hp => (PV.idxS (j := ((y + 40) * 80 + x + 40).toNat) (v := v15) rfl Is111 (gs_t hp) SlF.o (gs_t hp) (by first | omega | (simp at hp; omega)) (by first | omega | (simp at hp; omega)))) ?_
        refine RG.gs rfl rfl rfl (fun hp => (PV.loadE1 rfl Sc4 (gs_t hp) rfl (El.o (getG (by first | omega | (simp at hp; omega)))) rfl)) ?_
        refine RG.pv rfl (PV.pickA rfl rfl (fun hq => gs_t (geqT hq)) rfl) ?_
        refine RG.nil ?_
        have hEl2 := hE2.1
        refine WP.cond rfl (fun h4 => ?_) (fun h4 => ?_)
        · have h4' : d ≤ c ∧ gb W (y + 40).toNat (x + 40).toNat = true := by rw [gb, ← hat]; simpa using h4
          have h4 := h4'.1
          refine WP.skip ?_
          refine WP.seq ?_
          refine WP.block ?_
          refine WP.seq ?_
          refine WP.region ?_
          refine RG.pv rfl (PV.mvI (.inl rfl) rfl) ?_
          refine RG.pv rfl (PV.mvI (.inl rfl) rfl) ?_
          refine RG.pv rfl (PV.mvI (.inl rfl) rfl) ?_
          refine RG.pv rfl (PV.add rfl rfl rfl (by omega)) ?_
          refine RG.callF (vs := [_, _]) rfl rfl En170 rfl (l17Inside_s ?_)
          refine RG.nil ?_
          refine WP.cond rfl (fun h5 => ?_) (fun h5 => ?_)
          · have h5 : (-40 ≤ x ∧ x < 40) ∧ -40 ≤ y + d ∧ y + d < 40 := by simpa using h5
            have hat2 := at_eq (x := x) (y := y + d) (by omega) (by omega)
            refine WP.region ?_
            refine RG.pv rfl (PV.move (v := v18) rfl rfl) ?_
            refine RG.pv rfl (PV.mvI (.inl rfl) rfl) ?_
            refine RG.pv rfl (PV.mvI (.inl rfl) rfl) ?_
            refine RG.pv rfl (PV.mvI (.inl rfl) rfl) ?_
            refine RG.pv rfl (PV.add rfl rfl rfl (by omega)) ?_
            refine RG.callF (vs := [_, _]) rfl rfl En169 rfl (l17At_s (by first | omega | (simp at hp; omega)) (by first | omega | (simp at hp; omega)) ?_)
            refine RG.pv rfl (PV.idxS (j := ((y + d + 40) * 80 + x + 40).toNat) (v := v18) rfl Is111 rfl SlF.o rfl (by first | omega | (simp only [List.length_set]; omega)) (by first | omega | (simp only [List.length_set]; omega))) ?_
            refine RG.ot rfl (OT.storeE (F := boolT) rfl Sz4 rfl rfl rfl (Cl.c rfl) (OneC.c rfl) (by first | omega | (simp only [List.length_set]; omega)) ?_)
            refine RG.nil ?_
            refine WP.region ?_
            refine RG.pv rfl (PV.mvI (.inl rfl) rfl) ?_
            refine RG.pv rfl (PV.add rfl rfl rfl (by omega)) ?_
            refine RG.pv rfl (PV.mvI (.inr rfl) rfl) ?_
            refine RG.nil ?_
            exact ⟨rfl, d + 1, (E2.set ((y + d + 40) * 80 + x + 40).toNat true), ⟨by omega, by rw [hat2]; exact (hE2.set (by omega) (by omega)).congr fun v u _ _ => N2d.put (by omega) (by omega) (by omega) h4'.2⟩, ⟨rfl, trivial⟩, ⟨rfl, rfl, rfl, rfl, rfl, trivial⟩, Cv.p, by omega⟩
          · have h5 : ¬ (-40 ≤ y + d ∧ y + d < 40) := by
              intro h6
              have h7 : ((-40 ≤ x ∧ x < 40) ∧ -40 ≤ y + d ∧ y + d < 40) := ⟨by omega, h6⟩
              simp [h7.1.1, h7.1.2, h7.2.1, h7.2.2] at h5
            refine WP.skip ?_
            refine WP.region ?_
            refine RG.pv rfl (PV.mvI (.inl rfl) rfl) ?_
            refine RG.pv rfl (PV.add rfl rfl rfl (by omega)) ?_
            refine RG.pv rfl (PV.mvI (.inr rfl) rfl) ?_
            refine RG.nil ?_
            exact ⟨rfl, d + 1, E2, ⟨by omega, hE2.congr fun v u hv _ => N2d.out hv h5⟩, ⟨rfl, trivial⟩, ⟨rfl, rfl, rfl, rfl, rfl, trivial⟩, Cv.p, by omega⟩
        · have h4' : d = c + 1 ∨ gb W (y + 40).toNat (x + 40).toNat = false := by
            by_cases c1 : d ≤ c
            · right; rw [gb, ← hat]; simpa [c1] using h4
            · left; omega
          refine WP.exit ?_
          refine WP.region ?_
          refine RG.pv rfl (PV.mvI (.inl rfl) rfl) ?_
          refine RG.pv rfl (PV.add rfl rfl rfl (by omega)) ?_
          refine RG.pv rfl (PV.mvI (.inr rfl) rfl) ?_
          refine RG.nil ?_
          exact ⟨rfl, x + 1, E2, ⟨by omega, hE2.congr fun v u _ _ => N2d.stop (by omega) (h4'.imp id fun e hv => by rw [show u = (x + 40).toNat by omega]; exact e) (by omega)⟩, ⟨rfl, trivial⟩, ⟨rfl, rfl, rfl, rfl, trivial⟩, Cv.p, by omega⟩
      · obtain rfl : x = 40 := by have h3 := of_decide_eq_false h3; omega
        refine WP.exit ?_
        refine WP.region ?_
        refine RG.pv rfl (PV.mvI (.inl rfl) rfl) ?_
        refine RG.pv rfl (PV.add rfl rfl rfl (by omega)) ?_
        refine RG.pv rfl (PV.mvI (.inr rfl) rfl) ?_
        refine RG.nil ?_
        exact ⟨rfl, y + 1, E1, ⟨by omega, hE1.congr fun v u _ hu => N2.line hu⟩, ⟨rfl, trivial⟩, ⟨rfl, rfl, rfl, trivial⟩, Cv.p, by omega⟩
    · obtain rfl : y = 40 := by have h2 := of_decide_eq_false h2; omega
      have e := near_grow hW hE
      rw [e]
      refine WP.exit ?_
      refine WP.seq ?_
      refine WP.region ?_
      refine RG.pv rfl (PV.move (v := v18) rfl rfl) ?_
      refine RG.pv rfl (PV.asg (v := v18) rfl rfl) ?_
      refine RG.nil ?_
      refine WP.ret ?_
      exact ⟨_, _, ResV.one rfl rfl, Cv.p, k v18⟩
def ZI (f : Bool → Bool → Bool) (D O : List Bool) (i : Nat) (E : List Bool) : Prop := E.length = 6400 ∧ (∀ j, j < i → gd E j = f (gd D j) (gd O j)) ∧ ∀ j, i ≤ j → gd E j = gd D j
theorem ZI.start {f : Bool → Bool → Bool} {D O : List Bool} (h : D.length = 6400) : ZI f D O 0 D := ⟨h, fun j hj => by omega, fun j _ => rfl⟩
theorem ZI.step {f : Bool → Bool → Bool} {D O E : List Bool} {i : Nat} (h : ZI f D O i E) (hi : i < 6400) : ZI f D O (i + 1) (E.set i (f (gd E i) (gd O i))) := ⟨by simpa using h.1, fun j hj => by
  by_cases c : j = i
  · subst c; rw [gd_setE (by rw [h.1]; exact hi), h.2.2 j (Nat.le_refl _)]
  · rw [gd_setN (fun e => c e.symm)]; exact h.2.1 j (by omega), fun j hj => by rw [gd_setN (by omega)]; exact h.2.2 j (by omega)⟩
theorem ZI.done {f : Bool → Bool → Bool} {D O E : List Bool} (h : ZI f D O 6400 E) (hD : D.length = 6400) (hO : O.length = 6400) : E = zipB f D O := by
  have hz := zipB_len (f := f) hD hO
  apply List.ext_getElem?
  intro j
  by_cases hj : j < 6400
  · rw [getG (by rw [h.1]; omega), h.2.1 j hj, zipB_get (by omega) (by omega)]
  · rw [List.getElem?_eq_none (by rw [h.1]; omega), List.getElem?_eq_none (by omega)]
def minB (p q : Bool) : Bool := p && !q
def enclL (xs ys : List Rect) (w : Int) : List Rect := if (isReg xs && isReg ys && within w 0 8) = true then canon (zipB minB (growB (bits xs) w) (bits ys)) else []
theorem markEncl_s {u v : Value} {xs ys : List Rect} {w : Int} (h1 : Rs G L rectT u xs) (h2 : Rs G L rectT v ys) (k : ∀ v', R v' G (osl 71 rectT v' (enclL xs ys w) :: L)) : CallT Tryz.prog 61 #[u, v, vi w] G L R := by
  refine CallT.enter (args := _) Tryz.func61 rfl rfl (by kernel_rfl) rfl ?_
  refine WP.seq ?_
  refine WP.region ?_
  refine RG.pv rfl (PV.asg rfl rfl) ?_
  refine RG.nil ?_
  refine WP.seq ?_
  refine WP.seq ?_
  refine WP.region ?_
  refine RG.pv rfl (PV.move (v := u) rfl rfl) ?_
  refine RG.callF (vs := [u]) rfl rfl En35 rfl (l03Ok_s (Rs.up h1) ?_)
  refine RG.pv rfl (PV.not rfl rfl) ?_
  refine RG.pv rfl (PV.mvB (.inl rfl) rfl) ?_
  refine RG.gs rfl rfl rfl (fun hp => (PV.move (v := v) rfl rfl)) ?_
  refine RG.gsC rfl rfl rfl rfl En35 (fun hp => ⟨_, (acons (gs_t hp) anil), l03Ok_s (Rs.up h2) ⟨rfl, rfl, rfl⟩⟩) ?_
  refine RG.gs rfl rfl rfl (fun hp => (PV.not rfl (gs_t hp))) ?_
  refine RG.pv rfl (PV.pickO rfl rfl rfl (fun hq => gs_t (geqF hq))) ?_
  refine RG.pv rfl (PV.mvB (.inl rfl) rfl) ?_
  refine RG.gs rfl rfl rfl (fun hp => (PV.mvI (.inl rfl) rfl)) ?_
  refine RG.gs rfl rfl rfl (fun hp => (PV.lss rfl (gs_t hp) rfl)) ?_
  refine RG.pv rfl (PV.pickO rfl rfl rfl (fun hq => gs_t (geqF hq))) ?_
  refine RG.pv rfl (PV.mvB (.inl rfl) rfl) ?_
  refine RG.gs rfl rfl rfl (fun hp => (PV.mvI (.inl rfl) rfl)) ?_
  refine RG.gs rfl rfl rfl (fun hp => (PV.gtr rfl (gs_t hp) rfl)) ?_
  refine RG.pv rfl (PV.pickO rfl rfl rfl (fun hq => gs_t (geqF hq))) ?_
  refine RG.nil ?_
  refine WP.cond rfl (fun h3 => ?_) (fun h3 => ?_)
  · have e : enclL xs ys w = [] := by
      rw [enclL, if_neg]
      intro h4
      simp only [Bool.and_eq_true, within, decide_eq_true_eq] at h4
      simp [h4.1.1, h4.1.2] at h3; omega
    rw [e] at k
    refine WP.seq ?_
    refine WP.region ?_
    refine RG.ot rfl (OT.bslice (F := rectT) (els := []) rfl El28 rfl (by decide) rfl (by decide) trivial fun v26 => ?_)
    refine RG.pv rfl (PV.asg (v := v26) rfl rfl) ?_
    refine RG.nil ?_
    refine WP.ret ?_
    exact ⟨_, _, ResV.one rfl rfl, Cv.p, k v26⟩
  · have h4 : isReg xs = true ∧ isReg ys = true ∧ 0 ≤ w ∧ w ≤ 8 := by
      cases g1 : isReg xs <;> cases g2 : isReg ys <;> simp_all
    have hreg := h4.1
    have hregy := h4.2.1
    have hwb := h4.2.2
    have hgl := growB_len (bits xs) w
    have e : enclL xs ys w = canon (zipB minB (growB (bits xs) w) (bits ys)) := by rw [enclL, if_pos]; simp [hreg, hregy, within, hwb.1, hwb.2]
    rw [e] at k
    refine WP.skip ?_
    refine WP.seq ?_
    refine WP.region ?_
    refine RG.pv rfl (PV.move (v := u) rfl rfl) ?_
    refine RG.callF (vs := [u]) rfl rfl En89 rfl (l03Bits_s (Rs.up h1) (fun i hi => valid_get (isReg_valid hreg) hi) (fun v28 => ?_))
    refine RG.pv rfl (PV.mvI (.inl rfl) rfl) ?_
    refine RG.callF (vs := [v28, _]) rfl rfl En114 rfl (near_s Rs.o (bits_length _) (by omega) (fun v30 => ?_))
    refine RG.pv rfl (PV.asg (v := v30) rfl rfl) ?_
    refine RG.nil ?_
    refine WP.seq ?_
    refine WP.region ?_
    refine RG.pv rfl (PV.move (v := v) rfl rfl) ?_
    refine RG.callF (vs := [v]) rfl rfl En89 rfl (l03Bits_s (Rs.up h2) (fun i hi => valid_get (isReg_valid hregy) hi) (fun v32 => ?_))
    refine RG.pv rfl (PV.asg (v := v32) rfl rfl) ?_
    refine RG.nil ?_
    refine WP.seq ?_
    refine WP.seq ?_
    refine WP.region ?_
    refine RG.pv rfl (PV.mvI (.inr rfl) rfl) ?_
    refine RG.nil ?_
    refine WP.block ?_
    have hby := bits_length ys
    refine WP.loop2 [7, 8] (fun (i : Nat) (E : List Bool) => i ≤ 6400 ∧ ZI minB (growB (bits xs) w) (bits ys) i E) (fun (i : Nat) (E : List Bool) => [(9, vi i)]) (fun (i : Nat) (E : List Bool) => osl 4 boolT v30 E :: osl 4 boolT v32 (bits ys) :: L) (fun (i : Nat) (E : List Bool) => 6400 - i) 0 (growB (bits xs) w) ⟨by omega, ZI.start hgl⟩ ⟨rfl, trivial⟩ Cv.p ?_
    rintro i E τ ⟨hi, hE⟩
    refine WP.seq ?_
    refine WP.seq ?_
    refine WP.region ?_
    refine RG.pv rfl (PV.mvI (.inl rfl) rfl) ?_
    refine RG.pv rfl (PV.move (v := v30) rfl rfl) ?_
    refine RG.pv rfl (PV.len (v := v30) rfl Tryz.underlying111 rfl SlF.o) ?_
    refine RG.pv rfl (PV.lss rfl rfl rfl) ?_
    refine RG.nil ?_
    have hEl := hE.1
    refine WP.cond rfl (fun h5 => ?_) (fun h5 => ?_)
    · have h5 := of_decide_eq_true h5
      refine WP.skip ?_
      refine WP.seq ?_
      refine WP.block ?_
      refine WP.region ?_
      refine RG.pv rfl (PV.move (v := v30) rfl rfl) ?_
      refine RG.pv rfl (PV.mvI (.inl rfl) rfl) ?_
      refine RG.pv rfl (PV.move (v := v30) rfl rfl) ?_
      refine RG.pv rfl (PV.mvI (.inl rfl) rfl) ?_
      refine RG.pv rfl (PV.idxS (v := v30) rfl Is111 rfl SlF.o rfl rfl (by omega)) ?_
      refine RG.pv rfl (PV.loadE1 rfl Sc4 rfl rfl (El.o (getG (by omega))) rfl) ?_
      refine RG.pv rfl (PV.mvB (.inl rfl) rfl) ?_
      refine RG.gs rfl rfl rfl (fun hp => (PV.move (v := v32) rfl rfl)) ?_
      refine RG.gs rfl rfl rfl (fun hp => (PV.mvI (.inl rfl) rfl)) ?_
      refine RG.gs rfl rfl rfl (fun hp => (PV.idxS (v := v32) rfl Is111 (gs_t hp) SlF.o (gs_t hp) rfl (by first | omega | (simp at hp; omega)))) ?_
      refine RG.gs rfl rfl rfl (fun hp => (PV.loadE1 rfl Sc4 (gs_t hp) rfl (El.o (getG (by first | omega | (simp at hp; omega)))) rfl)) ?_
      refine RG.gs rfl rfl rfl (fun hp => (PV.not rfl (gs_t hp))) ?_
      refine RG.pv rfl (PV.pickA rfl rfl (fun hq => gs_t (geqT hq)) rfl) ?_
      refine RG.pv rfl (PV.idxS (v := v30) rfl Is111 rfl SlF.o rfl rfl (by omega)) ?_
      refine RG.ot rfl (OT.storeE (F := boolT) rfl Sz4 rfl rfl rfl (Cl.c rfl) (OneC.c rfl) (by omega) ?_)
      refine RG.nil ?_
      refine WP.region ?_
      refine RG.pv rfl (PV.mvI (.inl rfl) rfl) ?_
      refine RG.pv rfl (PV.add rfl rfl rfl (by omega)) ?_
      refine RG.pv rfl (PV.mvI (.inr rfl) rfl) ?_
      refine RG.nil ?_
      exact ⟨rfl, i + 1, (E.set i (gd E i && !gd (bits ys) i)), ⟨by omega, hE.step (by omega)⟩, ⟨rfl, trivial⟩, ⟨rfl, rfl, trivial⟩, Cv.p, by omega⟩
    · have h5 := of_decide_eq_false h5
      obtain rfl : i = 6400 := by omega
      obtain rfl := hE.done hgl hby
      refine WP.exit ?_
      refine WP.seq ?_
      refine WP.region ?_
      refine RG.pv rfl (PV.move (v := v30) rfl rfl) ?_
      refine RG.callF (vs := [v30]) rfl rfl En88 rfl (l03Canon_s Rs.o hEl (fun v54 => ?_))
      refine RG.pv rfl (PV.asg (v := v54) rfl rfl) ?_
      refine RG.nil ?_
      refine WP.ret ?_
      exact ⟨_, _, ResV.one rfl rfl, Cv.p, k v54⟩
theorem or_s {u v : Value} {A B : List Bool} (h1 : Rs G L boolT u A) (h2 : Rs G L boolT v B) (hA : A.length = 6400) (hB : B.length = 6400) (k : ∀ v', R v' G (osl 4 boolT v' (orZ A B) :: L)) : CallT Tryz.prog 117 #[u, v] G L R := by
  refine CallT.enter (args := _) Tryz.func117 rfl rfl (by kernel_rfl) rfl ?_
  refine WP.seq ?_
  refine WP.region ?_
  refine RG.pv rfl (PV.asg rfl rfl) ?_
  refine RG.nil ?_
  refine WP.seq ?_
  refine WP.region ?_
  refine RG.pv rfl (PV.move (v := u) rfl rfl) ?_
  refine RG.pv rfl (PV.len (v := u) rfl Tryz.underlying111 rfl (SlF.r h1)) ?_
  refine RG.ot rfl (OT.make (F := boolT) (a0 := false) rfl El111 rfl (by decide) rfl rfl (by omega) (by omega) fun v9 => ?_)
  refine RG.pv rfl (PV.asg (v := v9) rfl rfl) ?_
  refine RG.nil ?_
  refine WP.seq ?_
  refine WP.seq ?_
  refine WP.region ?_
  refine RG.pv rfl (PV.mvI (.inr rfl) rfl) ?_
  refine RG.nil ?_
  refine WP.block ?_
  refine WP.loop2 [0, 1, 5] (fun (i : Nat) (E : List Bool) => i ≤ A.length ∧ E = (List.range i).map (fun j => gd A j || gd B j) ++ List.replicate (A.length - i) false) (fun (i : Nat) (E : List Bool) => [(6, vi i)]) (fun (i : Nat) (E : List Bool) => osl 4 boolT v9 E :: L) (fun (i : Nat) (E : List Bool) => A.length - i) 0 (List.replicate A.length false) ⟨by omega, by simp⟩ ⟨rfl, trivial⟩ Cv.p ?_
  rintro i E τ ⟨hi, hE⟩
  refine WP.seq ?_
  refine WP.seq ?_
  refine WP.region ?_
  refine RG.pv rfl (PV.mvI (.inl rfl) rfl) ?_
  refine RG.pv rfl (PV.move (v := u) rfl rfl) ?_
  refine RG.pv rfl (PV.len (v := u) rfl Tryz.underlying111 rfl (SlF.r h1)) ?_
  refine RG.pv rfl (PV.lss rfl rfl rfl) ?_
  refine RG.nil ?_
  have hEl : E.length = A.length := by rw [hE]; simp; omega
  refine WP.cond rfl (fun h5 => ?_) (fun h5 => ?_)
  · have h5 := of_decide_eq_true h5
    have hn := mapB_set (f := fun j => gd A j || gd B j) (n := A.length) (i := i) (by omega) hE
    refine WP.skip ?_
    refine WP.seq ?_
    refine WP.block ?_
    refine WP.region ?_
    refine RG.pv rfl (PV.move (v := v9) rfl rfl) ?_
    refine RG.pv rfl (PV.mvI (.inl rfl) rfl) ?_
    refine RG.pv rfl (PV.move (v := u) rfl rfl) ?_
    refine RG.pv rfl (PV.mvI (.inl rfl) rfl) ?_
    refine RG.pv rfl (PV.idxS (v := u) rfl Is111 rfl (SlF.r h1) rfl rfl (by omega)) ?_
    refine RG.pv rfl (PV.loadE1 rfl Sc4 rfl rfl (El.r h1 (getG (by omega))) rfl) ?_
    refine RG.pv rfl (PV.mvB (.inl rfl) rfl) ?_
    refine RG.gs rfl rfl rfl (fun hp => (PV.move (v := v) rfl rfl)) ?_
    refine RG.gs rfl rfl rfl (fun hp => (PV.mvI (.inl rfl) rfl)) ?_
    refine RG.gs rfl rfl rfl (fun hp => (PV.idxS (v := v) rfl Is111 (gs_t hp) (SlF.r h2) (gs_t hp) rfl (by first | omega | (simp at hp; omega)))) ?_
    refine RG.gs rfl rfl rfl (fun hp => (PV.loadE1 rfl Sc4 (gs_t hp) rfl (El.r h2 (getG (by first | omega | (simp at hp; omega)))) rfl)) ?_
    refine RG.pv rfl (PV.pickO rfl rfl rfl (fun hq => gs_t (geqF hq))) ?_
    refine RG.pv rfl (PV.idxS (v := v9) rfl Is111 rfl SlF.o rfl rfl (by omega)) ?_
    refine RG.ot rfl (OT.storeE (F := boolT) rfl Sz4 rfl rfl rfl (Cl.c rfl) (OneC.c rfl) (by omega) ?_)
    refine RG.nil ?_
    refine WP.region ?_
    refine RG.pv rfl (PV.mvI (.inl rfl) rfl) ?_
    refine RG.pv rfl (PV.add rfl rfl rfl (by omega)) ?_
    refine RG.pv rfl (PV.mvI (.inr rfl) rfl) ?_
    refine RG.nil ?_
    exact ⟨rfl, i + 1, (E.set i (gd A i || gd B i)), ⟨by omega, hn⟩, ⟨rfl, trivial⟩, ⟨rfl, rfl, rfl, trivial⟩, Cv.p, by omega⟩
  · have h5 := of_decide_eq_false h5
    obtain rfl : i = A.length := by omega
    have hE' : E = orZ A B := by rw [hE, Nat.sub_self, List.replicate_zero, List.append_nil]; rfl
    rw [hE']
    refine WP.exit ?_
    refine WP.seq ?_
    refine WP.region ?_
    refine RG.pv rfl (PV.move (v := v9) rfl rfl) ?_
    refine RG.pv rfl (PV.asg (v := v9) rfl rfl) ?_
    refine RG.nil ?_
    refine WP.ret ?_
    exact ⟨_, _, ResV.one rfl rfl, Cv.p, k v9⟩
theorem orZ_gb {A B : List Bool} (hA : A.length = 6400) {y x : Nat} (hy : y < 80) (hx : x < 80) : gb (orZ A B) y x = (gb A y x || gb B y x) := by
  have h : y * 80 + x < (orZ A B).length := by rw [orZ_len]; omega
  rw [gb, gd_eq h]; simp [orZ, gb]
/-- the cells of the components of a set with fewer than w cells -/
def Small (S : List Bool) (w : Int) (y x : Nat) : Prop := ∃ c ∈ comps S, cnt c < w ∧ gb c y x = true
noncomputable def areaL (xs : List Rect) (w : Int) : List Rect := if (isReg xs && within w 1 6400) = true then canon (celL (Small (bits xs) w)) else []
def SmallN (cs : List (List Bool)) (w : Int) (y x : Nat) : Prop := ∃ c ∈ cs, cnt c < w ∧ gb c y x = true
theorem SmallN.next {cs : List (List Bool)} {w : Int} {y x i : Nat} (h : i < cs.length) : SmallN (cs.take (i + 1)) w y x ↔ SmallN (cs.take i) w y x ∨ (cnt (gd cs i) < w ∧ gb (gd cs i) y x = true) := by
  unfold SmallN
  rw [List.take_add_one, getG h]
  constructor
  · rintro ⟨c, hc, h1⟩
    rcases List.mem_append.1 hc with h2 | h2
    · exact .inl ⟨c, h2, h1⟩
    · simp only [Option.toList, List.mem_singleton] at h2; subst h2; exact .inr h1
  · rintro (⟨c, hc, h1⟩ | h1)
    · exact ⟨c, List.mem_append_left _ hc, h1⟩
    · exact ⟨_, List.mem_append_right _ (by simp), h1⟩
theorem markArea_s {v : Value} {xs : List Rect} {w : Int} (h1 : Rs G L rectT v xs) (k : ∀ v', R v' G (osl 71 rectT v' (areaL xs w) :: L)) : CallT Tryz.prog 62 #[v, vi w] G L R := by
  refine CallT.enter (args := _) Tryz.func62 rfl rfl (by kernel_rfl) rfl ?_
  refine WP.seq ?_
  refine WP.region ?_
  refine RG.pv rfl (PV.asg rfl rfl) ?_
  refine RG.nil ?_
  refine WP.seq ?_
  refine WP.seq ?_
  refine WP.region ?_
  refine RG.pv rfl (PV.move (v := v) rfl rfl) ?_
  refine RG.callF (vs := [v]) rfl rfl En35 rfl (l03Ok_s (Rs.up h1) ?_)
  refine RG.pv rfl (PV.not rfl rfl) ?_
  refine RG.pv rfl (PV.mvB (.inl rfl) rfl) ?_
  refine RG.gs rfl rfl rfl (fun hp => (PV.mvI (.inl rfl) rfl)) ?_
  refine RG.gs rfl rfl rfl (fun hp => (PV.lss rfl (gs_t hp) rfl)) ?_
  refine RG.pv rfl (PV.pickO rfl rfl rfl (fun hq => gs_t (geqF hq))) ?_
  refine RG.pv rfl (PV.mvB (.inl rfl) rfl) ?_
  refine RG.gs rfl rfl rfl (fun hp => (PV.mvI (.inl rfl) rfl)) ?_
  refine RG.gs rfl rfl rfl (fun hp => (PV.gtr rfl (gs_t hp) rfl)) ?_
  refine RG.pv rfl (PV.pickO rfl rfl rfl (fun hq => gs_t (geqF hq))) ?_
  refine RG.nil ?_
  refine WP.cond rfl (fun h3 => ?_) (fun h3 => ?_)
  · have e : areaL xs w = [] := by
      rw [areaL, if_neg]
      intro h4
      simp only [Bool.and_eq_true, within, decide_eq_true_eq] at h4
      simp [h4.1] at h3; omega
    rw [e] at k
    refine WP.seq ?_
    refine WP.region ?_
    refine RG.ot rfl (OT.bslice (F := rectT) (els := []) rfl El28 rfl (by decide) rfl (by decide) trivial fun v19 => ?_)
    refine RG.pv rfl (PV.asg (v := v19) rfl rfl) ?_
    refine RG.nil ?_
    refine WP.ret ?_
    exact ⟨_, _, ResV.one rfl rfl, Cv.p, k v19⟩
  · have h4 : isReg xs = true ∧ 1 ≤ w ∧ w ≤ 6400 := by cases g1 : isReg xs <;> simp_all
    have hreg : isReg xs = true := h4.1
    refine WP.skip ?_
    refine WP.seq ?_
    refine WP.region ?_
    refine RG.ot rfl (OT.make (m := 6400) (F := boolT) (a0 := false) rfl El111 rfl (by decide) rfl rfl (by omega) (by omega) fun v20 => ?_)
    refine RG.pv rfl (PV.asg (v := v20) rfl rfl) ?_
    refine RG.nil ?_
    refine WP.seq ?_
    refine WP.region ?_
    refine RG.pv rfl (PV.move (v := v) rfl rfl) ?_
    refine RG.callF (vs := [v]) rfl rfl En89 rfl (l03Bits_s (Rs.up h1) (fun i hi => valid_get (isReg_valid hreg) hi) (fun v22 => ?_))
    refine RG.callF (vs := [v22]) rfl rfl En115 rfl (comps_s Rs.o (bits_length _) (fun v23 zsv23 hev23 => ?_))
    refine RG.pv rfl (PV.asg (v := v23) rfl rfl) ?_
    refine RG.nil ?_
    refine WP.seq ?_
    refine WP.seq ?_
    refine WP.region ?_
    refine RG.pv rfl (PV.mvI (.inr rfl) rfl) ?_
    refine RG.nil ?_
    refine WP.block ?_
    have hcl : zsv23.length = (comps (bits xs)).length := by have := congrArg List.length hev23; rwa [er_len] at this
    have hzl : zsv23.length ≤ 6400 := by rw [hcl]; exact comps_len _
    have hl6 : ∀ i, i < zsv23.length → (gd zsv23 i).xs.length = 6400 := fun i hi => by
      rw [← er_gd, hev23]
      exact comps_mem (gd_mem (by omega))
    refine WP.loop3 [1, 6] (fun (i : Nat) (E : List Bool) (q : Value) => i ≤ zsv23.length ∧ Is E (SmallN ((comps (bits xs)).take i) w)) (fun (i : Nat) (E : List Bool) (q : Value) => [(7, vi i), (5, q)]) (fun (i : Nat) (E : List Bool) (q : Value) => osl 4 boolT q E :: osl 111 slT v23 zsv23 :: bagS 4 boolT zsv23 :: L) (fun (i : Nat) (E : List Bool) (q : Value) => zsv23.length - i) 0 (List.replicate 6400 false) v20 ⟨by omega, Is.none _ rfl fun v u _ _ => by rintro ⟨c, hc, _⟩; simp at hc⟩ ⟨rfl, rfl, trivial⟩ Cv.p ?_
    rintro i E q τ ⟨hi, hE⟩
    refine WP.seq ?_
    refine WP.seq ?_
    refine WP.region ?_
    refine RG.pv rfl (PV.mvI (.inl rfl) rfl) ?_
    refine RG.pv rfl (PV.move (v := v23) rfl rfl) ?_
    refine RG.pv rfl (PV.len (v := v23) rfl Tryz.underlying131 rfl SlF.o) ?_
    refine RG.pv rfl (PV.lss rfl rfl rfl) ?_
    refine RG.nil ?_
    have hEl := hE.1
    refine WP.cond rfl (fun h5 => ?_) (fun h5 => ?_)
    · have h5 := of_decide_eq_true h5
      have hgi : gd (comps (bits xs)) i = (gd zsv23 i).xs := by rw [← hev23, er_gd]
      have hnx := fun y x => SmallN.next (cs := comps (bits xs)) (w := w) (y := y) (x := x) (i := i) (by omega)
      rw [hgi] at hnx
      refine WP.skip ?_
      refine WP.seq ?_
      refine WP.block ?_
      refine WP.seq ?_
      refine WP.region ?_
      refine RG.pv rfl (PV.move (v := v23) rfl rfl) ?_
      refine RG.pv rfl (PV.mvI (.inl rfl) rfl) ?_
      refine RG.pv rfl (PV.idxS (v := v23) rfl Is131 rfl SlF.o rfl rfl (by omega)) ?_
      refine RG.pv rfl (PV.loadE1 rfl Sc111 rfl rfl (El.o (getG (by omega))) rfl) ?_
      refine RG.callF (vs := [_]) rfl rfl En116 rfl (l19Count_s (Rs.inBag (xs := zsv23) i (by omega)) (hl6 i (by omega)) ?_)
      refine RG.pv rfl (PV.mvI (.inl rfl) rfl) ?_
      refine RG.pv rfl (PV.lss rfl rfl rfl) ?_
      refine RG.nil ?_
      refine WP.cond rfl (fun h6 => ?_) (fun h6 => ?_)
      · have h6 : cnt (gd zsv23 i).xs < w := by simpa using h6
        have hnE : Is (orZ E (gd zsv23 i).xs) (SmallN ((comps (bits xs)).take (i + 1)) w) := ⟨by rw [orZ_len]; exact hEl, fun y x hy hx => by rw [orZ_gb hEl hy hx, Bool.or_eq_true, hE.2 y x hy hx, hnx]; simp [h6]⟩
        refine WP.region ?_
        refine RG.pv rfl (PV.move (v := q) rfl rfl) ?_
        refine RG.pv rfl (PV.move (v := v23) rfl rfl) ?_
        refine RG.pv rfl (PV.mvI (.inl rfl) rfl) ?_
        refine RG.pv rfl (PV.idxS (v := v23) rfl Is131 rfl SlF.o rfl rfl (by omega)) ?_
        refine RG.pv rfl (PV.loadE1 rfl Sc111 rfl rfl (El.o (getG (by omega))) rfl) ?_
        refine RG.callF (vs := [q, _]) rfl rfl En117 rfl (or_s Rs.o (Rs.inBag (xs := zsv23) i (by omega)) hEl (hl6 i (by omega)) (fun v42 => ?_))
        refine RG.pv rfl (PV.asg (v := v42) rfl rfl) ?_
        refine RG.nil ?_
        refine WP.region ?_
        refine RG.pv rfl (PV.mvI (.inl rfl) rfl) ?_
        refine RG.pv rfl (PV.add rfl rfl rfl (by omega)) ?_
        refine RG.pv rfl (PV.mvI (.inr rfl) rfl) ?_
        refine RG.nil ?_
        exact ⟨rfl, i + 1, (orZ E (gd zsv23 i).xs), v42, ⟨by omega, hnE⟩, ⟨rfl, rfl, trivial⟩, ⟨rfl, rfl, trivial⟩, Cv.p, by omega⟩
      · have h6 : ¬ cnt (gd zsv23 i).xs < w := by simpa using h6
        have hnE : Is E (SmallN ((comps (bits xs)).take (i + 1)) w) := hE.congr fun y x _ _ => by rw [hnx]; simp [h6]
        refine WP.skip ?_
        refine WP.region ?_
        refine RG.pv rfl (PV.mvI (.inl rfl) rfl) ?_
        refine RG.pv rfl (PV.add rfl rfl rfl (by omega)) ?_
        refine RG.pv rfl (PV.mvI (.inr rfl) rfl) ?_
        refine RG.nil ?_
        exact ⟨rfl, i + 1, E, q, ⟨by omega, hnE⟩, ⟨rfl, rfl, trivial⟩, ⟨rfl, rfl, trivial⟩, Cv.p, by omega⟩
    · have h5 := of_decide_eq_false h5
      have e : areaL xs w = canon E := by
        rw [List.take_of_length_le (by omega)] at hE
        rw [areaL, if_pos (by simp [hreg, within, h4.2.1, h4.2.2])]
        exact congrArg canon (celL_eq (P := Small (bits xs) w) hE.1 hE.2).symm
      rw [e] at k
      refine WP.exit ?_
      refine WP.seq ?_
      refine WP.region ?_
      refine RG.pv rfl (PV.move (v := q) rfl rfl) ?_
      refine RG.callF (vs := [q]) rfl rfl En88 rfl (l03Canon_s Rs.o hEl (fun v44 => ?_))
      refine RG.pv rfl (PV.asg (v := v44) rfl rfl) ?_
      refine RG.nil ?_
      refine WP.ret ?_
      exact ⟨_, _, ResV.one rfl rfl, Cv.p, k v44⟩
end Go.Proofs.YtpjajhjcbcfplaaGreat
namespace Go.Proofs.YtpjajhjcbcfplaaGreat
set_option linter.unusedVariables false
set_option linter.unusedSimpArgs false
open Go
set_option maxRecDepth 20000
set_option linter.unusedSimpArgs false
variable {G : Gh} {L : List Ch} {R : Value → Gh → List Ch → Prop}
def winR (w y x : Int) : Rect := ⟨x, y, min (x + w) 40, min (y + w) 40⟩
def winX (w y x : Int) : List Rect := if x < 40 ∧ 0 < w then winR w y x :: winX w y (x + w) else []
termination_by (40 - x).toNat
decreasing_by omega
def winY (w y : Int) : List Rect := if y < 40 ∧ 0 < w then winX w y (-40) ++ winY w (y + w) else []
termination_by (40 - y).toNat
decreasing_by omega
def windL (w : Int) : List Rect := if within w 4 40 = true then winY w (-40) else []
theorem winX_on {w y x : Int} (hw : 0 < w) (hx : x < 40) : winX w y x = winR w y x :: winX w y (x + w) := by rw [winX, if_pos ⟨hx, hw⟩]
theorem winX_off {w y x : Int} (hx : ¬ x < 40) : winX w y x = [] := by rw [winX, if_neg (fun h => hx h.1)]
theorem winY_on {w y : Int} (hw : 0 < w) (hx : y < 40) : winY w y = winX w y (-40) ++ winY w (y + w) := by rw [winY, if_pos ⟨hx, hw⟩]
theorem winY_off {w y : Int} (hx : ¬ y < 40) : winY w y = [] := by rw [winY, if_neg (fun h => hx h.1)]
theorem winX_facts {w y : Int} (hw : 0 < w) (hy : -40 ≤ y ∧ y < 40) (x : Int) (hx : -40 ≤ x) : (winX w y x).length ≤ (40 - x).toNat ∧ ∀ r ∈ winX w y x, validRect r = true := by
  by_cases c : x < 40
  · rw [winX_on hw c]
    have ih := winX_facts hw hy (x + w) (by omega)
    refine ⟨by simp only [List.length_cons]; omega, fun r hr => ?_⟩
    rcases List.mem_cons.1 hr with rfl | hr
    · rw [validR_iff]; simp only [winR]; omega
    · exact ih.2 r hr
  · rw [winX_off c]; exact ⟨Nat.zero_le _, fun r hr => by cases hr⟩
termination_by (40 - x).toNat
decreasing_by omega
theorem winY_facts {w : Int} (hw : 0 < w) (y : Int) (hy : -40 ≤ y) : (winY w y).length ≤ 80 * (40 - y).toNat ∧ ∀ r ∈ winY w y, validRect r = true := by
  by_cases c : y < 40
  · rw [winY_on hw c]
    have ih := winY_facts hw (y + w) (by omega)
    have hx := winX_facts hw ⟨hy, c⟩ (-40) (by omega)
    refine ⟨by rw [List.length_append]; omega, fun r hr => ?_⟩
    rcases List.mem_append.1 hr with hr | hr
    · exact hx.2 r hr
    · exact ih.2 r hr
  · rw [winY_off c]; exact ⟨Nat.zero_le _, fun r hr => by cases hr⟩
termination_by (40 - y).toNat
decreasing_by omega
theorem windL_facts (w : Int) : (windL w).length ≤ 6400 ∧ ∀ r ∈ windL w, validRect r = true := by
  unfold windL; split
  · rename_i h; simp [within] at h; exact ⟨by have := (winY_facts (w := w) (by omega) (-40) (by omega)).1; omega, (winY_facts (by omega) (-40) (by omega)).2⟩
  · exact ⟨Nat.zero_le _, fun r hr => by cases hr⟩
theorem windows_s {w : Int} (k : ∀ v', R v' G (osl 71 rectT v' (windL w) :: L)) : CallT Tryz.prog 118 #[vi w] G L R := by
  refine CallT.enter (args := _) Tryz.func118 rfl rfl (by kernel_rfl) rfl ?_
  refine WP.seq ?_
  refine WP.region ?_
  refine RG.pv rfl (PV.asg rfl rfl) ?_
  refine RG.nil ?_
  refine WP.seq ?_
  refine WP.region ?_
  refine RG.ot rfl (OT.bslice (F := rectT) (els := []) rfl El28 rfl (by decide) rfl (by decide) trivial fun v6 => ?_)
  refine RG.pv rfl (PV.asg (v := v6) rfl rfl) ?_
  refine RG.nil ?_
  refine WP.seq ?_
  refine WP.seq ?_
  refine WP.region ?_
  refine RG.pv rfl (PV.mvI (.inl rfl) rfl) ?_
  refine RG.pv rfl (PV.lss rfl rfl rfl) ?_
  refine RG.pv rfl (PV.mvB (.inl rfl) rfl) ?_
  refine RG.gs rfl rfl rfl (fun hp => (PV.mvI (.inl rfl) rfl)) ?_
  refine RG.gs rfl rfl rfl (fun hp => (PV.gtr rfl (gs_t hp) rfl)) ?_
  refine RG.pv rfl (PV.pickO rfl rfl rfl (fun hq => gs_t (geqF hq))) ?_
  refine RG.nil ?_
  refine WP.cond rfl (fun h2 => ?_) (fun h2 => ?_)
  · have e : windL w = [] := by rw [windL, if_neg]; simp only [within, Bool.and_eq_true, decide_eq_true_eq]; simp at h2; omega
    rw [e] at k
    refine WP.seq ?_
    refine WP.region ?_
    refine RG.pv rfl (PV.move (v := v6) rfl rfl) ?_
    refine RG.pv rfl (PV.asg (v := v6) rfl rfl) ?_
    refine RG.nil ?_
    refine WP.ret ?_
    exact ⟨_, _, ResV.one rfl rfl, Cv.p, k v6⟩
  · have h3 : 4 ≤ w ∧ w ≤ 40 := by simp at h2; omega
    have hwl := (winY_facts (w := w) (by omega) (-40) (by omega)).1
    have e : windL w = winY w (-40) := by rw [windL, if_pos]; simp [within, h3.1, h3.2]
    rw [e] at k
    refine WP.skip ?_
    refine WP.seq ?_
    refine WP.seq ?_
    refine WP.region ?_
    refine RG.pv rfl (PV.mvI (.inr rfl) rfl) ?_
    refine RG.nil ?_
    refine WP.block ?_
    refine WP.loop3 [0] (fun (y : Int) (zs : List Rect) (q : Value) => (-40 ≤ y ∧ y ≤ 80) ∧ zs ++ winY w y = winY w (-40)) (fun (y : Int) (zs : List Rect) (q : Value) => [(4, vi y), (3, q)]) (fun (y : Int) (zs : List Rect) (q : Value) => osl 71 rectT q zs :: L) (fun (y : Int) (zs : List Rect) (q : Value) => (80 - y).toNat) (-40) [] v6 ⟨by omega, rfl⟩ ⟨rfl, rfl, trivial⟩ Cv.p ?_
    rintro y zs q τ ⟨hy, hz⟩
    refine WP.seq ?_
    refine WP.seq ?_
    refine WP.region ?_
    refine RG.pv rfl (PV.mvI (.inl rfl) rfl) ?_
    refine RG.pv rfl (PV.lss rfl rfl rfl) ?_
    refine RG.nil ?_
    refine WP.cond rfl (fun h4 => ?_) (fun h4 => ?_)
    · have h4 := of_decide_eq_true h4
      rw [winY_on (by omega) h4] at hz
      refine WP.skip ?_
      refine WP.seq ?_
      refine WP.block ?_
      refine WP.seq ?_
      refine WP.region ?_
      refine RG.pv rfl (PV.mvI (.inr rfl) rfl) ?_
      refine RG.nil ?_
      refine WP.block ?_
      refine WP.loop3 [0, 4] (fun (x : Int) (zs2 : List Rect) (q2 : Value) => (-40 ≤ x ∧ x ≤ 80) ∧ zs2 ++ (winX w y x ++ winY w (y + w)) = winY w (-40)) (fun (x : Int) (zs2 : List Rect) (q2 : Value) => [(5, vi x), (3, q2)]) (fun (x : Int) (zs2 : List Rect) (q2 : Value) => osl 71 rectT q2 zs2 :: L) (fun (x : Int) (zs2 : List Rect) (q2 : Value) => (80 - x).toNat) (-40) zs q ⟨by omega, hz⟩ ⟨rfl, rfl, trivial⟩ Cv.p ?_
      rintro x zs2 q2 τ1 ⟨hx, hz2⟩
      refine WP.seq ?_
      refine WP.seq ?_
      refine WP.region ?_
      refine RG.pv rfl (PV.mvI (.inl rfl) rfl) ?_
      refine RG.pv rfl (PV.lss rfl rfl rfl) ?_
      refine RG.nil ?_
      have hz2l := congrArg List.length hz2
      rw [List.length_append] at hz2l
      refine WP.cond rfl (fun h5 => ?_) (fun h5 => ?_)
      · have h5 := of_decide_eq_true h5
        rw [winX_on (by omega) h5] at hz2
        refine WP.skip ?_
        refine WP.seq ?_
        refine WP.block ?_
        refine WP.region ?_
        refine RG.pv rfl (PV.move (v := q2) rfl rfl) ?_
        refine RG.pv rfl (PV.mvI (.inl rfl) rfl) ?_
        refine RG.pv rfl (PV.mvI (.inl rfl) rfl) ?_
        refine RG.pv rfl (PV.mvI (.inl rfl) rfl) ?_
        refine RG.pv rfl (PV.mvI (.inl rfl) rfl) ?_
        refine RG.pv rfl (PV.add rfl rfl rfl (by omega)) ?_
        refine RG.pv rfl (PV.min2 rfl rfl rfl) ?_
        refine RG.pv rfl (PV.mvI (.inl rfl) rfl) ?_
        refine RG.pv rfl (PV.mvI (.inl rfl) rfl) ?_
        refine RG.pv rfl (PV.add rfl rfl rfl (by omega)) ?_
        refine RG.pv rfl (PV.min2 rfl rfl rfl) ?_
        refine RG.pv rfl (PV.build (vs := [(0, [vi _]), (1, [vi _]), (2, [vi _]), (3, [vi _])]) (out := [_, _, _, _]) rfl Zr71 Pl71 ⟨rfl, (Cl.c rfl), ⟨rfl, (Cl.c rfl), ⟨rfl, (Cl.c rfl), ⟨rfl, (Cl.c rfl), trivial⟩⟩⟩⟩ rfl) ?_
        refine RG.ot rfl (OT.bslice (F := rectT) (els := [⟨_, _, _, _⟩]) rfl El28 rfl (by decide) rfl (by decide) ⟨rfl, (Cl.c rfl), trivial⟩ fun v36 => ?_)
        refine RG.ot rfl (OT.append (v := q2) (u := v36) (F := rectT) rfl El28 rfl (by decide) rfl rfl Rs.o (OneL.c (fun _ => rfl)) rfl (by first | omega | (simp <;> omega)) fun v37 => ?_)
        refine RG.pv rfl (PV.asg (v := v37) rfl rfl) ?_
        refine RG.nil ?_
        refine WP.region ?_
        refine RG.pv rfl (PV.mvI (.inl rfl) rfl) ?_
        refine RG.pv rfl (PV.mvI (.inl rfl) rfl) ?_
        refine RG.pv rfl (PV.add rfl rfl rfl (by omega)) ?_
        refine RG.pv rfl (PV.mvI (.inr rfl) rfl) ?_
        refine RG.nil ?_
        exact ⟨rfl, x + w, (zs2 ++ [⟨x, y, min (x + w) 40, min (y + w) 40⟩]), v37, ⟨by omega, by rw [← hz2]; simp [winR]⟩, ⟨rfl, rfl, trivial⟩, ⟨rfl, rfl, trivial⟩, Cv.p, by omega⟩
      · have h5 := of_decide_eq_false h5
        rw [winX_off h5, List.nil_append] at hz2
        refine WP.exit ?_
        refine WP.region ?_
        refine RG.pv rfl (PV.mvI (.inl rfl) rfl) ?_
        refine RG.pv rfl (PV.mvI (.inl rfl) rfl) ?_
        refine RG.pv rfl (PV.add rfl rfl rfl (by omega)) ?_
        refine RG.pv rfl (PV.mvI (.inr rfl) rfl) ?_
        refine RG.nil ?_
        exact ⟨rfl, y + w, zs2, q2, ⟨by omega, hz2⟩, ⟨rfl, rfl, trivial⟩, ⟨rfl, trivial⟩, Cv.p, by omega⟩
    · have h4 := of_decide_eq_false h4
      rw [winY_off h4, List.append_nil] at hz
      rw [hz]
      refine WP.exit ?_
      refine WP.seq ?_
      refine WP.region ?_
      refine RG.pv rfl (PV.move (v := q) rfl rfl) ?_
      refine RG.pv rfl (PV.asg (v := q) rfl rfl) ?_
      refine RG.nil ?_
      refine WP.ret ?_
      exact ⟨_, _, ResV.one rfl rfl, Cv.p, k q⟩
theorem cov_row {S : List Bool} {y x0 : Int} {n : Nat} : 0 ≤ tH S y x0 n ∧ tH S y x0 n ≤ n := cntF_bd _ _
theorem cov_col {S : List Bool} {r : Rect} (hv : (wR r : Int) ≤ 80) (j : Nat) : 0 ≤ sumF (fun j => tH S (r.y0 + j) r.x0 (wR r)) j ∧ sumF (fun j => tH S (r.y0 + j) r.x0 (wR r)) j ≤ j * 80 :=
  sumF_bd (fun i => ⟨cov_row.1, Int.le_trans cov_row.2 hv⟩) j
theorem covB_bd {S : List Bool} {r : Rect} (hr : validRect r = true) : 0 ≤ covB S r ∧ covB S r ≤ 6400 := by
  have hv := validR_iff.1 hr
  have h1 : (wR r : Int) = r.x1 - r.x0 := by simp only [wR]; omega
  have h2 : (hR r : Int) = r.y1 - r.y0 := by simp only [hR]; omega
  have := cov_col (S := S) (r := r) (by omega) (hR r)
  unfold covB; omega
theorem covd_s {v : Value} {S : List Bool} {r : Rect} (h1 : Rs G L boolT v S) (hS : S.length = 6400) (hr : validRect r = true) (k : R (vi (covB S r)) G L) : CallT Tryz.prog 119 #[v, vrect r] G L R := by
  have hv := validR_iff.1 hr
  have e1 : (wR r : Int) = r.x1 - r.x0 := by simp only [wR]; omega
  have e2 : (hR r : Int) = r.y1 - r.y0 := by simp only [hR]; omega
  refine CallT.enter (args := _) Tryz.func119 rfl rfl (by kernel_rfl) rfl ?_
  refine WP.seq ?_
  refine WP.region ?_
  refine RG.ot rfl (OT.box (cs := rectT.enc r) rfl rfl rfl fun b3 => ?_)
  refine RG.pv rfl (PV.mvI (.inr rfl) rfl) ?_
  refine RG.nil ?_
  refine WP.seq ?_
  refine WP.region ?_
  refine RG.pv rfl (PV.mvI (.inr rfl) rfl) ?_
  refine RG.nil ?_
  refine WP.seq ?_
  refine WP.seq ?_
  refine WP.region ?_
  refine RG.pv rfl (PV.field rfl Fo71_1 rfl) ?_
  refine RG.pv rfl (PV.load1 rfl Sc2 rfl (Rd.blk rfl)) ?_
  refine RG.pv rfl (PV.mvI (.inr rfl) rfl) ?_
  refine RG.nil ?_
  refine WP.block ?_
  refine WP.loop3 [0, 3] (fun (j : Nat) (y n : Int) => j ≤ hR r ∧ y = r.y0 + j ∧ n = sumF (fun j => tH S (r.y0 + j) r.x0 (wR r)) j) (fun (j : Nat) (y n : Int) => [(6, vi y), (5, vi n)]) (fun (j : Nat) (y n : Int) => blk b3 71 (rectT.enc r) :: L) (fun (j : Nat) (y n : Int) => hR r - j) 0 r.y0 0 ⟨by omega, by omega, rfl⟩ ⟨rfl, rfl, trivial⟩ Cv.p ?_
  rintro j y n τ ⟨hj, hy, hn⟩
  refine WP.seq ?_
  refine WP.seq ?_
  refine WP.region ?_
  refine RG.pv rfl (PV.mvI (.inl rfl) rfl) ?_
  refine RG.pv rfl (PV.field rfl Fo71_3 rfl) ?_
  refine RG.pv rfl (PV.load1 rfl Sc2 rfl (Rd.blk rfl)) ?_
  refine RG.pv rfl (PV.lss rfl rfl rfl) ?_
  refine RG.nil ?_
  have hnb := cov_col (S := S) (r := r) (by omega) j
  rw [← hn] at hnb
  refine WP.cond rfl (fun h2 => ?_) (fun h2 => ?_)
  · have h2 := of_decide_eq_true h2
    refine WP.skip ?_
    refine WP.seq ?_
    refine WP.block ?_
    refine WP.seq ?_
    refine WP.region ?_
    refine RG.pv rfl (PV.field rfl Fo71_0 rfl) ?_
    refine RG.pv rfl (PV.load1 rfl Sc2 rfl (Rd.blk rfl)) ?_
    refine RG.pv rfl (PV.mvI (.inr rfl) rfl) ?_
    refine RG.nil ?_
    refine WP.block ?_
    refine WP.loop3 [0, 3, 6] (fun (i : Nat) (x m : Int) => i ≤ wR r ∧ x = r.x0 + i ∧ m = n + tH S (r.y0 + j) r.x0 i) (fun (i : Nat) (x m : Int) => [(7, vi x), (5, vi m)]) (fun (i : Nat) (x m : Int) => blk b3 71 (rectT.enc r) :: L) (fun (i : Nat) (x m : Int) => wR r - i) 0 r.x0 n ⟨by omega, by omega, by simp [tH, cntF, sumF]⟩ ⟨rfl, rfl, trivial⟩ Cv.p ?_
    rintro i x m τ1 ⟨hi, hx, hm⟩
    refine WP.seq ?_
    refine WP.seq ?_
    refine WP.region ?_
    refine RG.pv rfl (PV.mvI (.inl rfl) rfl) ?_
    refine RG.pv rfl (PV.field rfl Fo71_2 rfl) ?_
    refine RG.pv rfl (PV.load1 rfl Sc2 rfl (Rd.blk rfl)) ?_
    refine RG.pv rfl (PV.lss rfl rfl rfl) ?_
    refine RG.nil ?_
    have hmb := cov_row (S := S) (y := r.y0 + j) (x0 := r.x0) (n := i)
    refine WP.cond rfl (fun h3 => ?_) (fun h3 => ?_)
    · have h3 := of_decide_eq_true h3
      have hat := at_eq (x := x) (y := y) (by omega) (by omega)
      have hcl : tH S (r.y0 + j) r.x0 (i + 1) = tH S (r.y0 + j) r.x0 i + one (gd S ((y + 40) * 80 + x + 40).toNat) := by
        rw [tH, cntF_succ, ← hx, ← hy, cellB_in (by omega), gb, ← hat]; rfl
      refine WP.skip ?_
      refine WP.seq ?_
      refine WP.block ?_
      refine WP.seq ?_
      refine WP.region ?_
      refine RG.pv rfl (PV.move (v := v) rfl rfl) ?_
      refine RG.pv rfl (PV.mvI (.inl rfl) rfl) ?_
      refine RG.pv rfl (PV.mvI (.inl rfl) rfl) ?_
      refine RG.callF (vs := [_, _]) rfl rfl En169 rfl (l17At_s (by omega) (by omega) ?_)
      refine RG.pv rfl (PV.idxS (j := ((y + 40) * 80 + x + 40).toNat) (v := v) rfl Is111 rfl (SlF.r h1) rfl (by first | omega | (simp only [List.length_set]; omega)) (by first | omega | (simp only [List.length_set]; omega))) ?_
      refine RG.pv rfl (PV.loadE1 rfl Sc4 rfl rfl (El.r h1 (getG (by omega))) rfl) ?_
      refine RG.nil ?_
      refine WP.cond rfl (fun h4 => ?_) (fun h4 => ?_)
      · rw [h4] at hcl
        refine WP.region ?_
        refine RG.pv rfl (PV.mvI (.inl rfl) rfl) ?_
        refine RG.pv rfl (PV.add rfl rfl rfl (by omega)) ?_
        refine RG.pv rfl (PV.mvI (.inr rfl) rfl) ?_
        refine RG.nil ?_
        refine WP.region ?_
        refine RG.pv rfl (PV.mvI (.inl rfl) rfl) ?_
        refine RG.pv rfl (PV.add rfl rfl rfl (by omega)) ?_
        refine RG.pv rfl (PV.mvI (.inr rfl) rfl) ?_
        refine RG.nil ?_
        exact ⟨rfl, i + 1, x + 1, m + 1, ⟨by omega, by omega, by rw [hcl, hm]; simp only [one, cond_true]; omega⟩, ⟨rfl, rfl, trivial⟩, ⟨rfl, rfl, rfl, trivial⟩, Cv.p, by omega⟩
      · rw [h4] at hcl
        refine WP.skip ?_
        refine WP.region ?_
        refine RG.pv rfl (PV.mvI (.inl rfl) rfl) ?_
        refine RG.pv rfl (PV.add rfl rfl rfl (by omega)) ?_
        refine RG.pv rfl (PV.mvI (.inr rfl) rfl) ?_
        refine RG.nil ?_
        exact ⟨rfl, i + 1, x + 1, m, ⟨by omega, by omega, by rw [hcl, hm]; simp only [one, cond_false]; omega⟩, ⟨rfl, rfl, trivial⟩, ⟨rfl, rfl, rfl, trivial⟩, Cv.p, by omega⟩
    · have h3 := of_decide_eq_false h3
      obtain rfl : i = wR r := by omega
      refine WP.exit ?_
      refine WP.region ?_
      refine RG.pv rfl (PV.mvI (.inl rfl) rfl) ?_
      refine RG.pv rfl (PV.add rfl rfl rfl (by omega)) ?_
      refine RG.pv rfl (PV.mvI (.inr rfl) rfl) ?_
      refine RG.nil ?_
      exact ⟨rfl, j + 1, y + 1, m, ⟨by omega, by omega, by rw [hm, hn]; rfl⟩, ⟨rfl, rfl, trivial⟩, ⟨rfl, rfl, trivial⟩, Cv.p, by omega⟩
  · have h2 := of_decide_eq_false h2
    obtain rfl : j = hR r := by omega
    have e : covB S r = n := by rw [hn]; rfl
    rw [e] at k
    refine WP.exit ?_
    refine WP.seq ?_
    refine WP.region ?_
    refine RG.pv rfl (PV.mvI (.inl rfl) rfl) ?_
    refine RG.pv rfl (PV.mvI (.inr rfl) rfl) ?_
    refine RG.nil ?_
    refine WP.ret ?_
    exact ⟨_, _, ResV.one rfl rfl, Cv.p, k⟩
def Bare (S : List Bool) (ws : List Rect) (p : Int) (y x : Nat) : Prop := ∃ r ∈ ws, 100 * covB S r < p * areaR r ∧ inR r y x = true
theorem Bare.next {S : List Bool} {ws : List Rect} {p : Int} {y x i : Nat} (h : i < ws.length) : Bare S (ws.take (i + 1)) p y x ↔ Bare S (ws.take i) p y x ∨ (100 * covB S (gd ws i) < p * areaR (gd ws i) ∧ inR (gd ws i) y x = true) := by
  unfold Bare
  rw [List.take_add_one, getG h]
  constructor
  · rintro ⟨c, hc, h1⟩
    rcases List.mem_append.1 hc with h2 | h2
    · exact .inl ⟨c, h2, h1⟩
    · simp only [Option.toList, List.mem_singleton] at h2; subst h2; exact .inr h1
  · rintro (⟨c, hc, h1⟩ | h1)
    · exact ⟨c, List.mem_append_left _ hc, h1⟩
    · exact ⟨_, List.mem_append_right _ (by simp), h1⟩
noncomputable def densL (xs : List Rect) (w p : Int) : List Rect := if (isReg xs && within w 4 40 && within p 1 100) = true then canon (zipB minB (celL (Bare (bits xs) (windL w) p)) (bits xs)) else []
theorem markDens_s {v : Value} {xs : List Rect} {w p : Int} (h1 : Rs G L rectT v xs) (k : ∀ v', R v' G (osl 71 rectT v' (densL xs w p) :: L)) : CallT Tryz.prog 63 #[v, vi w, vi p] G L R := by
  refine CallT.enter (args := _) Tryz.func63 rfl rfl (by kernel_rfl) rfl ?_
  refine WP.seq ?_
  refine WP.region ?_
  refine RG.pv rfl (PV.asg rfl rfl) ?_
  refine RG.nil ?_
  refine WP.seq ?_
  refine WP.seq ?_
  refine WP.region ?_
  refine RG.pv rfl (PV.move (v := v) rfl rfl) ?_
  refine RG.callF (vs := [v]) rfl rfl En35 rfl (l03Ok_s (Rs.up h1) ?_)
  refine RG.pv rfl (PV.not rfl rfl) ?_
  refine RG.pv rfl (PV.mvB (.inl rfl) rfl) ?_
  refine RG.gs rfl rfl rfl (fun hp => (PV.mvI (.inl rfl) rfl)) ?_
  refine RG.gs rfl rfl rfl (fun hp => (PV.lss rfl (gs_t hp) rfl)) ?_
  refine RG.pv rfl (PV.pickO rfl rfl rfl (fun hq => gs_t (geqF hq))) ?_
  refine RG.pv rfl (PV.mvB (.inl rfl) rfl) ?_
  refine RG.gs rfl rfl rfl (fun hp => (PV.mvI (.inl rfl) rfl)) ?_
  refine RG.gs rfl rfl rfl (fun hp => (PV.gtr rfl (gs_t hp) rfl)) ?_
  refine RG.pv rfl (PV.pickO rfl rfl rfl (fun hq => gs_t (geqF hq))) ?_
  refine RG.pv rfl (PV.mvB (.inl rfl) rfl) ?_
  refine RG.gs rfl rfl rfl (fun hp => (PV.mvI (.inl rfl) rfl)) ?_
  refine RG.gs rfl rfl rfl (fun hp => (PV.lss rfl (gs_t hp) rfl)) ?_
  refine RG.pv rfl (PV.pickO rfl rfl rfl (fun hq => gs_t (geqF hq))) ?_
  refine RG.pv rfl (PV.mvB (.inl rfl) rfl) ?_
  refine RG.gs rfl rfl rfl (fun hp => (PV.mvI (.inl rfl) rfl)) ?_
  refine RG.gs rfl rfl rfl (fun hp => (PV.gtr rfl (gs_t hp) rfl)) ?_
  refine RG.pv rfl (PV.pickO rfl rfl rfl (fun hq => gs_t (geqF hq))) ?_
  refine RG.nil ?_
  refine WP.cond rfl (fun h3 => ?_) (fun h3 => ?_)
  · have e : densL xs w p = [] := by
      rw [densL, if_neg]
      intro h4
      simp only [Bool.and_eq_true, within, decide_eq_true_eq] at h4
      simp [h4.1.1] at h3; omega
    rw [e] at k
    refine WP.seq ?_
    refine WP.region ?_
    refine RG.ot rfl (OT.bslice (F := rectT) (els := []) rfl El28 rfl (by decide) rfl (by decide) trivial fun v31 => ?_)
    refine RG.pv rfl (PV.asg (v := v31) rfl rfl) ?_
    refine RG.nil ?_
    refine WP.ret ?_
    exact ⟨_, _, ResV.one rfl rfl, Cv.p, k v31⟩
  · have hreg : isReg xs = true := by cases g1 : isReg xs <;> simp_all
    have hpw : (4 ≤ w ∧ w ≤ 40) ∧ 1 ≤ p ∧ p ≤ 100 := by rw [hreg] at h3; simp at h3; omega
    have hpb := hpw.2
    have hbx := bits_length xs
    have hzl := (windL_facts w).1
    have hzv := (windL_facts w).2
    have e0 : densL xs w p = canon (zipB minB (celL (Bare (bits xs) (windL w) p)) (bits xs)) := by rw [densL, if_pos]; simp [hreg, within, hpw.1.1, hpw.1.2, hpb.1, hpb.2]
    rw [e0] at k
    refine WP.skip ?_
    refine WP.seq ?_
    refine WP.region ?_
    refine RG.pv rfl (PV.move (v := v) rfl rfl) ?_
    refine RG.callF (vs := [v]) rfl rfl En89 rfl (l03Bits_s (Rs.up h1) (fun i hi => valid_get (isReg_valid hreg) hi) (fun v33 => ?_))
    refine RG.pv rfl (PV.asg (v := v33) rfl rfl) ?_
    refine RG.nil ?_
    refine WP.seq ?_
    refine WP.region ?_
    refine RG.pv rfl (PV.move (v := v33) rfl rfl) ?_
    refine RG.pv rfl (PV.len (v := v33) rfl Tryz.underlying111 rfl SlF.o) ?_
    refine RG.ot rfl (OT.make (F := boolT) (a0 := false) rfl El111 rfl (by decide) rfl rfl (by omega) (by omega) fun v36 => ?_)
    refine RG.pv rfl (PV.asg (v := v36) rfl rfl) ?_
    refine RG.nil ?_
    refine WP.seq ?_
    refine WP.region ?_
    refine RG.pv rfl (PV.mvI (.inl rfl) rfl) ?_
    refine RG.callF (vs := [_]) rfl rfl En118 rfl (windows_s (fun v38 => ?_))
    refine RG.pv rfl (PV.asg (v := v38) rfl rfl) ?_
    refine RG.nil ?_
    refine WP.seq ?_
    refine WP.seq ?_
    refine WP.region ?_
    refine RG.pv rfl (PV.mvI (.inr rfl) rfl) ?_
    refine RG.nil ?_
    refine WP.block ?_
    refine WP.loop3 [2, 7, 9] (fun (i : Nat) (E : List Bool) (q : Value) => i ≤ (windL w).length ∧ Is E (Bare (bits xs) ((windL w).take i) p)) (fun (i : Nat) (E : List Bool) (q : Value) => [(10, vi i), (8, q)]) (fun (i : Nat) (E : List Bool) (q : Value) => osl 4 boolT q E :: osl 71 rectT v38 (windL w) :: osl 4 boolT v33 (bits xs) :: L) (fun (i : Nat) (E : List Bool) (q : Value) => (windL w).length - i) 0 (List.replicate (bits xs).length false) v36 ⟨by omega, Is.none _ hbx fun v u _ _ => by rintro ⟨c, hc, _⟩; simp at hc⟩ ⟨rfl, rfl, trivial⟩ Cv.p ?_
    rintro i E q τ ⟨hi, hE⟩
    refine WP.seq ?_
    refine WP.seq ?_
    refine WP.region ?_
    refine RG.pv rfl (PV.mvI (.inl rfl) rfl) ?_
    refine RG.pv rfl (PV.move (v := v38) rfl rfl) ?_
    refine RG.pv rfl (PV.len (v := v38) rfl Tryz.underlying28 rfl SlF.o) ?_
    refine RG.pv rfl (PV.lss rfl rfl rfl) ?_
    refine RG.nil ?_
    have hEl := hE.1
    refine WP.cond rfl (fun h5 => ?_) (fun h5 => ?_)
    · have h5 := of_decide_eq_true h5
      have hvi := hzv _ (gd_mem (show i < (windL w).length by omega))
      have hlb := len_bd hvi
      have hmb := mul_bd hpb hlb
      have hcb := covB_bd (S := bits xs) hvi
      have hnx := fun y x => Bare.next (S := bits xs) (ws := windL w) (p := p) (y := y) (x := x) (i := i) (by omega)
      have hla : lenR (gd (windL w) i) = areaR (gd (windL w) i) := rfl
      refine WP.skip ?_
      refine WP.seq ?_
      refine WP.block ?_
      refine WP.seq ?_
      refine WP.regionQ (by kernel_rfl) (by kernel_rfl) ?_
      refine RQ.pv rfl (PV.move (v := v33) rfl rfl) ?_
      refine RQ.pv rfl (PV.move (v := v38) rfl rfl) ?_
      refine RQ.pv rfl (PV.mvI (.inl rfl) rfl) ?_
      refine RQ.pv rfl (PV.idxS (v := v38) rfl Is28 rfl SlF.o rfl rfl (by omega)) ?_
      refine RQ.pv rfl (PV.loadE rfl Ag71 rfl rfl (El.o (getG (by omega)))) ?_
      refine RQ.callF (vs := [v33, _]) rfl rfl En119 rfl (covd_s Rs.o (bits_length _) (hzv _ (gd_mem (by omega))) ⟨rfl, rfl, rfl⟩) ?_
      refine RQ.pv rfl (PV.mul rfl rfl rfl (by omega)) ?_
      refine RQ.pv rfl (PV.mvI (.inl rfl) rfl) ?_
      refine RQ.pv rfl (PV.move (v := v38) rfl rfl) ?_
      refine RQ.pv rfl (PV.mvI (.inl rfl) rfl) ?_
      refine RQ.pv rfl (PV.idxS (v := v38) rfl Is28 rfl SlF.o rfl rfl (by omega)) ?_
      refine RQ.pv rfl (PV.loadE rfl Ag71 rfl rfl (El.o (getG (by omega)))) ?_
      refine RQ.callF (vs := [_]) rfl rfl En120 rfl (len17_s (hzv _ (gd_mem (by omega))) ⟨rfl, rfl, rfl⟩) ?_
      refine RQ.pv rfl (PV.mul rfl rfl rfl (by omega)) ?_
      refine RQ.pv rfl (PV.lss rfl rfl rfl) ?_
      refine RQ.nil ?_
      refine WP.cond rfl (fun h6 => ?_) (fun h6 => ?_)
      · have h6 : 100 * covB (bits xs) (gd (windL w) i) < p * areaR (gd (windL w) i) := by rw [← hla]; simpa using h6
        refine WP.region ?_
        refine RG.pv rfl (PV.move (v := q) rfl rfl) ?_
        refine RG.pv rfl (PV.move (v := v38) rfl rfl) ?_
        refine RG.pv rfl (PV.mvI (.inl rfl) rfl) ?_
        refine RG.pv rfl (PV.idxS (v := v38) rfl Is28 rfl SlF.o rfl rfl (by omega)) ?_
        refine RG.pv rfl (PV.loadE rfl Ag71 rfl rfl (El.o (getG (by omega)))) ?_
        refine RG.callF (vs := [q, _]) rfl rfl En121 rfl (CallT.exS q (fill_s hEl (hzv _ (gd_mem (by omega))) (fun D' hD' hg' => ?_)))
        refine RG.pv rfl (PV.asg rfl rfl) ?_
        refine RG.nil ?_
        refine WP.region ?_
        refine RG.pv rfl (PV.mvI (.inl rfl) rfl) ?_
        refine RG.pv rfl (PV.add rfl rfl rfl (by omega)) ?_
        refine RG.pv rfl (PV.mvI (.inr rfl) rfl) ?_
        refine RG.nil ?_
        exact ⟨rfl, i + 1, D', q, ⟨by omega, hD', fun y x hy hx => by rw [hg' y x hy hx, Bool.or_eq_true, hE.2 y x hy hx, hnx]; simp [h6]⟩, ⟨rfl, rfl, trivial⟩, ⟨rfl, rfl, rfl, trivial⟩, Cv.p, by omega⟩
      · have h6 : ¬ 100 * covB (bits xs) (gd (windL w) i) < p * areaR (gd (windL w) i) := by rw [← hla]; simpa using h6
        refine WP.skip ?_
        refine WP.region ?_
        refine RG.pv rfl (PV.mvI (.inl rfl) rfl) ?_
        refine RG.pv rfl (PV.add rfl rfl rfl (by omega)) ?_
        refine RG.pv rfl (PV.mvI (.inr rfl) rfl) ?_
        refine RG.nil ?_
        exact ⟨rfl, i + 1, E, q, ⟨by omega, hE.congr fun y x _ _ => by rw [hnx]; simp [h6]⟩, ⟨rfl, rfl, trivial⟩, ⟨rfl, rfl, rfl, trivial⟩, Cv.p, by omega⟩
    · have h5 := of_decide_eq_false h5
      rw [List.take_of_length_le (by omega)] at hE
      have hEc : E = celL (Bare (bits xs) (windL w) p) := celL_eq hE.1 hE.2
      rw [← hEc] at k
      refine WP.exit ?_
      refine WP.seq ?_
      refine WP.seq ?_
      refine WP.region ?_
      refine RG.pv rfl (PV.mvI (.inr rfl) rfl) ?_
      refine RG.nil ?_
      refine WP.block ?_
      refine WP.loop2 [7, 8] (fun (j : Nat) (D : List Bool) => j ≤ 6400 ∧ ZI minB E (bits xs) j D) (fun (j : Nat) (D : List Bool) => [(11, vi j)]) (fun (j : Nat) (D : List Bool) => osl 4 boolT q D :: osl 4 boolT v33 (bits xs) :: L) (fun (j : Nat) (D : List Bool) => 6400 - j) 0 E ⟨by omega, ZI.start hEl⟩ ⟨rfl, trivial⟩ Cv.p ?_
      rintro j D τ1 ⟨hj, hD⟩
      refine WP.seq ?_
      refine WP.seq ?_
      refine WP.region ?_
      refine RG.pv rfl (PV.mvI (.inl rfl) rfl) ?_
      refine RG.pv rfl (PV.move (v := q) rfl rfl) ?_
      refine RG.pv rfl (PV.len (v := q) rfl Tryz.underlying111 rfl SlF.o) ?_
      refine RG.pv rfl (PV.lss rfl rfl rfl) ?_
      refine RG.nil ?_
      have hDl := hD.1
      refine WP.cond rfl (fun h6 => ?_) (fun h6 => ?_)
      · have h6 := of_decide_eq_true h6
        refine WP.skip ?_
        refine WP.seq ?_
        refine WP.block ?_
        refine WP.region ?_
        refine RG.pv rfl (PV.move (v := q) rfl rfl) ?_
        refine RG.pv rfl (PV.mvI (.inl rfl) rfl) ?_
        refine RG.pv rfl (PV.move (v := q) rfl rfl) ?_
        refine RG.pv rfl (PV.mvI (.inl rfl) rfl) ?_
        refine RG.pv rfl (PV.idxS (v := q) rfl Is111 rfl SlF.o rfl rfl (by omega)) ?_
        refine RG.pv rfl (PV.loadE1 rfl Sc4 rfl rfl (El.o (getG (by omega))) rfl) ?_
        refine RG.pv rfl (PV.mvB (.inl rfl) rfl) ?_
        refine RG.gs rfl rfl rfl (fun hp => (PV.move (v := v33) rfl rfl)) ?_
        refine RG.gs rfl rfl rfl (fun hp => (PV.mvI (.inl rfl) rfl)) ?_
        refine RG.gs rfl rfl rfl (fun hp => (PV.idxS (v := v33) rfl Is111 (gs_t hp) SlF.o (gs_t hp) rfl (by first | omega | (simp at hp; omega)))) ?_
        refine RG.gs rfl rfl rfl (fun hp => (PV.loadE1 rfl Sc4 (gs_t hp) rfl (El.o (getG (by first | omega | (simp at hp; omega)))) rfl)) ?_
        refine RG.gs rfl rfl rfl (fun hp => (PV.not rfl (gs_t hp))) ?_
        refine RG.pv rfl (PV.pickA rfl rfl (fun hq => gs_t (geqT hq)) rfl) ?_
        refine RG.pv rfl (PV.idxS (v := q) rfl Is111 rfl SlF.o rfl rfl (by omega)) ?_
        refine RG.ot rfl (OT.storeE (F := boolT) rfl Sz4 rfl rfl rfl (Cl.c rfl) (OneC.c rfl) (by omega) ?_)
        refine RG.nil ?_
        refine WP.region ?_
        refine RG.pv rfl (PV.mvI (.inl rfl) rfl) ?_
        refine RG.pv rfl (PV.add rfl rfl rfl (by omega)) ?_
        refine RG.pv rfl (PV.mvI (.inr rfl) rfl) ?_
        refine RG.nil ?_
        exact ⟨rfl, j + 1, (D.set j (gd D j && !gd (bits xs) j)), ⟨by omega, hD.step (by omega)⟩, ⟨rfl, trivial⟩, ⟨rfl, rfl, trivial⟩, Cv.p, by omega⟩
      · have h6 := of_decide_eq_false h6
        obtain rfl : j = 6400 := by omega
        obtain rfl := hD.done hEl hbx
        refine WP.exit ?_
        refine WP.seq ?_
        refine WP.region ?_
        refine RG.pv rfl (PV.move (v := q) rfl rfl) ?_
        refine RG.callF (vs := [q]) rfl rfl En88 rfl (l03Canon_s Rs.o hDl (fun v87 => ?_))
        refine RG.pv rfl (PV.asg (v := v87) rfl rfl) ?_
        refine RG.nil ?_
        refine WP.ret ?_
        exact ⟨_, _, ResV.one rfl rfl, Cv.p, k v87⟩
end Go.Proofs.YtpjajhjcbcfplaaGreat
namespace Go.Proofs.YtpjajhjcbcfplaaGreat
set_option linter.unusedVariables false
set_option linter.unusedSimpArgs false
open Go
set_option maxRecDepth 20000
set_option linter.unusedSimpArgs false
variable {G : Gh} {L : List Ch} {R : Value → Gh → List Ch → Prop}
theorem Seen.skip {S : List Bool} {ver : Bool} {out : List Rect} {i k k' : Int} (h : Seen S ver out i k) (e : ∀ u, k ≤ u → u < k' → cv S ver i u = true → cv S ver i (u - 1) = true) : Seen S ver out i k' := fun l s h1 h2 h3 => by
  by_cases c : l = i ∧ k ≤ s
  · obtain ⟨rfl, c⟩ := c
    have := e s c (by omega) h2
    rw [h3] at this; cases this
  · exact h l s (by omega) h2 h3
/-- the runs of the places before i on the line l are in the list, and i is the first place of a run if it is on one -/
structure LnI (D : List Bool) (ver : Bool) (l : Int) (out : List Rect) (i : Int) : Prop where
  run : RunL D ver out
  seen : Seen D ver out l (i - 40)
  bd : cv D ver l (i - 40) = true → cv D ver l (i - 40 - 1) = false
theorem LnI.bd' {D : List Bool} {ver : Bool} {l i e : Int} (hi : 0 ≤ i ∧ i < e ∧ e ≤ 80) (hall : ∀ u, i ≤ u → u < e → cv D ver l (u - 40) = cv D ver l (i - 40)) (hend : e = 80 ∨ cv D ver l (e - 40) ≠ cv D ver l (i - 40)) : cv D ver l (e - 40) = true → cv D ver l (e - 40 - 1) = false := fun h => by
  have hr := cv_rng h
  have h1 : cv D ver l (e - 40) ≠ cv D ver l (i - 40) := by
    rcases hend with h2 | h2
    · omega
    · exact h2
  have h2 := hall (e - 1) (by omega) (by omega)
  rw [show e - 1 - 40 = e - 40 - 1 by omega] at h2
  rw [h2]; rw [h] at h1
  cases h3 : cv D ver l (i - 40)
  · rfl
  · exact absurd h3.symm h1
theorem LnI.isRun {D : List Bool} {ver : Bool} {l : Int} {out : List Rect} {i e : Int} (h : LnI D ver l out i) (hl : -40 ≤ l ∧ l < 40) (hi : 0 ≤ i ∧ i < e ∧ e ≤ 80) (hall : ∀ u, i ≤ u → u < e → cv D ver l (u - 40) = cv D ver l (i - 40)) (hend : e = 80 ∨ cv D ver l (e - 40) ≠ cv D ver l (i - 40)) (hc : cv D ver l (i - 40) = true) : isRun D ver l (i - 40) (i - 40) (e - 40) := by
  refine ⟨by omega, by omega, fun u h1 h2 => ?_, h.bd hc, ?_⟩
  · have := hall (u + 40) (by omega) (by omega)
    rw [show u + 40 - 40 = u by omega, hc] at this; exact this
  · cases h1 : cv D ver l (e - 40) with
    | false => rfl
    | true =>
      have h2 := LnI.bd' hi hall hend h1
      have h3 := hall (e - 1) (by omega) (by omega)
      rw [show e - 1 - 40 = e - 40 - 1 by omega, h2, hc] at h3; cases h3
theorem LnI.start {D : List Bool} {ver : Bool} {l : Int} {out : List Rect} (hr : RunL D ver out) (hs : Seen D ver out l (-40)) : LnI D ver l out 0 := by
  refine ⟨hr, hs, fun _ => ?_⟩
  cases h2 : cv D ver l (0 - 40 - 1) with
  | false => rfl
  | true => have := cv_rng h2; omega
end Go.Proofs.YtpjajhjcbcfplaaGreat
namespace Go.Proofs.YtpjajhjcbcfplaaGreat
set_option linter.unusedVariables false
set_option linter.unusedSimpArgs false
open Go
set_option maxRecDepth 20000
set_option linter.unusedSimpArgs false
variable {G : Gh} {L : List Ch} {R : Value → Gh → List Ch → Prop}
theorem gd_not {D : List Bool} {j : Nat} (h : j < D.length) : gd (notB D) j = !gd D j := by rw [gd_eq (by rw [notB_len]; exact h), gd_eq h]; simp [notB]
def inner (ver : Bool) (r : Rect) : Bool := (ver && decide (-40 < r.y0)) && decide (r.y1 < 40) || (!ver && decide (-40 < r.x0)) && decide (r.x1 < 40)
theorem inner_line {ver : Bool} {l lo hi : Int} : inner ver (lineR ver l lo hi) = true ↔ -40 < lo ∧ hi < 40 := by
  have e : inner ver (lineR ver l lo hi) = (decide (-40 < lo) && decide (hi < 40)) := by
    cases ver
    · rfl
    · show ((decide (-40 < lo) && decide (hi < 40)) || false) = _
      rw [Bool.or_false]
  rw [e, Bool.and_eq_true, decide_eq_true_eq, decide_eq_true_eq]
structure GapsOf (D : List Bool) (ver : Bool) (out : List Rect) : Prop where
  len : out.length ≤ 6400
  run : ∀ r ∈ out, ∃ l k lo hi, isRun (notB D) ver l k lo hi ∧ (-40 < lo ∧ hi < 40) ∧ r = lineR ver l lo hi
  all : ∀ l k lo hi, isRun (notB D) ver l k lo hi → -40 < lo → hi < 40 → lineR ver l lo hi ∈ out
theorem GapsOf.of {D : List Bool} {ver : Bool} {a : List Rect} (h : RunsOf (notB D) ver a) : GapsOf D ver (a.filter (inner ver)) := ⟨by
  have := h.len; have := List.length_filter_le (inner ver) a; omega, fun r hr => by
  obtain ⟨h1, h2⟩ := List.mem_filter.1 hr
  obtain ⟨l, k, lo, hi, g1, rfl⟩ := h.run r h1
  exact ⟨l, k, lo, hi, g1, inner_line.1 h2, rfl⟩, fun l k lo hi h1 h2 h3 => by
  obtain ⟨lo', hi', g1, g2⟩ := h.all l k (h1.all k h1.lk.1 h1.lk.2)
  obtain ⟨rfl, rfl⟩ := h1.uniq g1
  exact List.mem_filter.2 ⟨g2, inner_line.2 ⟨h2, h3⟩⟩⟩
theorem orZ_self {A : List Bool} : orZ A A = A := by
  apply List.ext_getElem
  · rw [orZ_len]
  · intro j h1 h2
    simp only [orZ, List.getElem_map, List.getElem_range, Bool.or_self]
    rw [gd_eq h2]
theorem cv_not {S : List Bool} {ver : Bool} {l k : Int} (hS : S.length = 6400) (hl : -40 ≤ l ∧ l < 40) (hk : -40 ≤ k ∧ k < 40) : cv (notB S) ver l k = !cv S ver l k := by
  have e : ∀ x y : Int, (-40 ≤ x ∧ x < 40) → (-40 ≤ y ∧ y < 40) → celB (notB S) x y = !celB S x y := fun x y hx hy => by
    rw [celB, celB, gd_not (by omega), decide_eq_true hx, decide_eq_true hy]; rfl
  cases ver
  · exact e _ _ hk hl
  · exact e _ _ hl hk
theorem gapE_line {A B : List Bool} {ver : Bool} {l lo hi : Int} : gapE A B ver (lineR ver l lo hi) = ((cv A ver l (lo - 1) && cv B ver l hi) || (cv B ver l (lo - 1) && cv A ver l hi)) := by cases ver <;> rfl
theorem gapE_inner {A B : List Bool} {ver : Bool} {l lo hi : Int} (h : gapE A B ver (lineR ver l lo hi) = true) : -40 < lo ∧ hi < 40 := by
  rw [gapE_line] at h
  simp only [Bool.or_eq_true, Bool.and_eq_true] at h
  rcases h with ⟨h1, h2⟩ | ⟨h1, h2⟩ <;> (have := cv_rng h1; have := cv_rng h2; omega)
theorem gap_ends {A : List Bool} {ver : Bool} {l k lo hi : Int} (hA : A.length = 6400) (h : isRun (notB A) ver l k lo hi) (h1 : -40 < lo ∧ hi < 40) : cv A ver l (lo - 1) = true ∧ cv A ver l hi = true := by
  have g1 := h.low; have g2 := h.high; have g3 := h.lk; have g4 := h.rng
  rw [cv_not hA g4.2 (by omega)] at g1 g2
  constructor
  · simpa using g1
  · simpa using g2
theorem gapE_self {A : List Bool} {ver : Bool} {l k lo hi : Int} (hA : A.length = 6400) (h : isRun (notB A) ver l k lo hi) : gapE A A ver (lineR ver l lo hi) = true ↔ -40 < lo ∧ hi < 40 := by
  refine ⟨gapE_inner, fun h1 => ?_⟩
  rw [gapE_line, (gap_ends hA h h1).1, (gap_ends hA h h1).2]; rfl
theorem GapsA.self {A : List Bool} {a b : List Rect} (hA : A.length = 6400) (ha : GapsOf A false a) (hb : GapsOf A true b) : GapsA A A (a ++ b) := ⟨by
  have := ha.len; have := hb.len; rw [List.length_append]; omega, fun r hr => by
  rw [orZ_self]
  rcases List.mem_append.1 hr with h | h
  · obtain ⟨l, k, lo, hi, g1, g2, rfl⟩ := ha.run r h; exact ⟨false, l, k, lo, hi, g1, (gapE_self hA g1).2 g2, rfl⟩
  · obtain ⟨l, k, lo, hi, g1, g2, rfl⟩ := hb.run r h; exact ⟨true, l, k, lo, hi, g1, (gapE_self hA g1).2 g2, rfl⟩, fun ver l k lo hi h1 h2 => by
  rw [orZ_self] at h1
  have g := (gapE_self hA h1).1 h2
  cases ver with
  | false => exact List.mem_append_left _ (ha.all l k lo hi h1 g.1 g.2)
  | true => exact List.mem_append_right _ (hb.all l k lo hi h1 g.1 g.2)⟩
end Go.Proofs.YtpjajhjcbcfplaaGreat
namespace Go.Proofs.YtpjajhjcbcfplaaGreat
set_option linter.unusedVariables false
set_option linter.unusedSimpArgs false
open Go
set_option maxRecDepth 20000
set_option maxHeartbeats 2000000
set_option linter.unusedSimpArgs false
variable {G : Gh} {L : List Ch} {R : Value → Gh → List Ch → Prop}
structure Gp (A B : List Bool) (n : Nat) (out : List Rect) : Prop where
  len : out.length ≤ 6400 * n
  run : ∀ r ∈ out, ∃ ver l k lo hi, isRun (notB (orZ A B)) ver l k lo hi ∧ gapE A B ver (lineR ver l lo hi) = true ∧ r = lineR ver l lo hi
  all : ∀ m, m < n → ∀ l k lo hi, isRun (notB (orZ A B)) (gd [false, true] m) l k lo hi → gapE A B (gd [false, true] m) (lineR (gd [false, true] m) l lo hi) = true → lineR (gd [false, true] m) l lo hi ∈ out
theorem Gp.nil {A B : List Bool} : Gp A B 0 [] := ⟨by simp, fun r h => (by cases h), fun m h => (by omega)⟩
theorem Gp.next {A B : List Bool} {n : Nat} {out g : List Rect} (h : Gp A B n out) (hg : GapsOf (orZ A B) (gd [false, true] n) g) : Gp A B (n + 1) (out ++ g.filter (gapE A B (gd [false, true] n))) := by
  refine ⟨?_, fun r hr => ?_, fun m hm l k lo hi h1 h2 => ?_⟩
  · have := h.len; have := hg.len; have := List.length_filter_le (gapE A B (gd [false, true] n)) g
    rw [List.length_append]; omega
  · rcases List.mem_append.1 hr with h1 | h1
    · exact h.run r h1
    · obtain ⟨h2, h3⟩ := List.mem_filter.1 h1
      obtain ⟨l, k, lo, hi, g1, g2, rfl⟩ := hg.run r h2
      exact ⟨_, l, k, lo, hi, g1, h3, rfl⟩
  · by_cases c : m = n
    · subst c
      have h3 := gapE_inner h2
      exact List.mem_append_right _ (List.mem_filter.2 ⟨hg.all l k lo hi h1 h3.1 h3.2, h2⟩)
    · exact List.mem_append_left _ (h.all m (by omega) l k lo hi h1 h2)
theorem gd_ft0 : gd [false, true] 0 = false := by simp [gd]
theorem gd_ft1 : gd [false, true] 1 = true := by simp [gd]
theorem Gp.done {A B : List Bool} {out : List Rect} (h : Gp A B 2 out) : GapsA A B out := ⟨by have := h.len; omega, h.run, fun ver l k lo hi h1 h2 => by
  cases ver with
  | false => have h3 := h.all 0 (by omega) l k lo hi; rw [gd_ft0] at h3; exact h3 h1 h2
  | true => have h3 := h.all 1 (by omega) l k lo hi; rw [gd_ft1] at h3; exact h3 h1 h2⟩
end Go.Proofs.YtpjajhjcbcfplaaGreat
namespace Go.Proofs.YtpjajhjcbcfplaaGreat
set_option linter.unusedVariables false
set_option linter.unusedSimpArgs false
open Go
set_option maxRecDepth 20000
set_option linter.unusedSimpArgs false
variable {G : Gh} {L : List Ch} {R : Value → Gh → List Ch → Prop}
abbrev vrule (r : Rule) : Value := vT ruleT r
def paired (k : Int) : Bool := decide (k = 2) || decide (k = 3)
def okVal (r : Rule) : Bool := if r.kind = 4 then within r.value 1 6400 else if r.kind = 5 then within r.value 4 40 else within r.value 1 8
def okPct (r : Rule) : Bool := if r.kind = 5 then within r.percent 1 100 else decide (r.percent = 0)
def okOther (r : Rule) : Bool := bif paired r.kind then within r.other 0 7 && !decide (r.other = r.layer) else decide (r.other = 0)
def validRule (r : Rule) : Bool := within r.kind 0 5 && within r.layer 0 7 && okOther r && okVal r && okPct r
theorem l16In_s {a b c : Int} (k : R (.bool (within a b c)) G L) : CallT Tryz.prog 48 #[vi a, vi b, vi c] G L R := by
  refine CallT.enter (args := _) Tryz.func48 rfl rfl (by kernel_rfl) rfl ?_
  refine WP.seq ?_
  refine WP.region ?_
  refine RG.pv rfl (PV.mvB (.inr rfl) rfl) ?_
  refine RG.nil ?_
  refine WP.seq ?_
  refine WP.region ?_
  refine RG.pv rfl (PV.mvI (.inl rfl) rfl) ?_
  refine RG.pv rfl (PV.mvI (.inl rfl) rfl) ?_
  refine RG.pv rfl (PV.geq rfl rfl rfl) ?_
  refine RG.pv rfl (PV.mvB (.inl rfl) rfl) ?_
  refine RG.gs rfl rfl rfl (fun hp => (PV.mvI (.inl rfl) rfl)) ?_
  refine RG.gs rfl rfl rfl (fun hp => (PV.mvI (.inl rfl) rfl)) ?_
  refine RG.gs rfl rfl rfl (fun hp => (PV.leq rfl (gs_t hp) (gs_t hp))) ?_
  refine RG.pv rfl (PV.pickA rfl rfl (fun hq => gs_t (geqT hq)) rfl) ?_
  refine RG.pv rfl (PV.mvB (.inr rfl) rfl) ?_
  refine RG.nil ?_
  refine WP.ret ?_
  exact ⟨_, _, ResV.one rfl rfl, Cv.p, k⟩
theorem l16Paired_s {a : Int} (k : R (.bool (paired a)) G L) : CallT Tryz.prog 50 #[vi a] G L R := by
  refine CallT.enter (args := _) Tryz.func50 rfl rfl (by kernel_rfl) rfl ?_
  refine WP.seq ?_
  refine WP.region ?_
  refine RG.pv rfl (PV.mvB (.inr rfl) rfl) ?_
  refine RG.nil ?_
  refine WP.seq ?_
  refine WP.region ?_
  refine RG.pv rfl (PV.mvI (.inl rfl) rfl) ?_
  refine RG.pv rfl (PV.eql rfl rfl rfl) ?_
  refine RG.pv rfl (PV.mvB (.inl rfl) rfl) ?_
  refine RG.gs rfl rfl rfl (fun hp => (PV.mvI (.inl rfl) rfl)) ?_
  refine RG.gs rfl rfl rfl (fun hp => (PV.eql rfl (gs_t hp) rfl)) ?_
  refine RG.pv rfl (PV.pickO rfl rfl rfl (fun hq => gs_t (geqF hq))) ?_
  refine RG.pv rfl (PV.mvB (.inr rfl) rfl) ?_
  refine RG.nil ?_
  refine WP.ret ?_
  exact ⟨_, _, ResV.one rfl rfl, Cv.p, k⟩
theorem hasOther_s {a : Int} (k : R (.bool (paired a)) G L) : CallT Tryz.prog 51 #[vi a] G L R := by
  refine CallT.enter (args := _) Tryz.func51 rfl rfl (by kernel_rfl) rfl ?_
  refine WP.seq ?_
  refine WP.region ?_
  refine RG.pv rfl (PV.mvB (.inr rfl) rfl) ?_
  refine RG.nil ?_
  refine WP.seq ?_
  refine WP.region ?_
  refine RG.pv rfl (PV.mvI (.inl rfl) rfl) ?_
  refine RG.pv rfl (PV.eql rfl rfl rfl) ?_
  refine RG.pv rfl (PV.mvB (.inl rfl) rfl) ?_
  refine RG.gs rfl rfl rfl (fun hp => (PV.mvI (.inl rfl) rfl)) ?_
  refine RG.gs rfl rfl rfl (fun hp => (PV.eql rfl (gs_t hp) rfl)) ?_
  refine RG.pv rfl (PV.pickO rfl rfl rfl (fun hq => gs_t (geqF hq))) ?_
  refine RG.pv rfl (PV.mvB (.inr rfl) rfl) ?_
  refine RG.nil ?_
  refine WP.ret ?_
  exact ⟨_, _, ResV.one rfl rfl, Cv.p, k⟩
theorem l20Paired_s {r : Rule} (k : R (.bool (paired r.kind)) G L) : CallT Tryz.prog 163 #[vrule r] G L R := by
  refine CallT.enter (args := _) Tryz.func163 rfl rfl (by kernel_rfl) rfl ?_
  refine WP.seq ?_
  refine WP.region ?_
  refine RG.ot rfl (OT.box (cs := ruleT.enc r) rfl rfl rfl fun b1 => ?_)
  refine RG.pv rfl (PV.mvB (.inr rfl) rfl) ?_
  refine RG.nil ?_
  refine WP.seq ?_
  refine WP.region ?_
  refine RG.pv rfl (PV.field rfl Fo34_0 rfl) ?_
  refine RG.pv rfl (PV.load1 rfl Sc2 rfl (Rd.blk rfl)) ?_
  refine RG.pv rfl (PV.eql rfl rfl rfl) ?_
  refine RG.pv rfl (PV.mvB (.inl rfl) rfl) ?_
  refine RG.gs rfl rfl rfl (fun hp => (PV.field rfl Fo34_0 rfl)) ?_
  refine RG.gs rfl rfl rfl (fun hp => (PV.load1 rfl Sc2 (gs_t hp) (Rd.blk rfl))) ?_
  refine RG.gs rfl rfl rfl (fun hp => (PV.eql rfl (gs_t hp) rfl)) ?_
  refine RG.pv rfl (PV.pickO rfl rfl rfl (fun hq => gs_t (geqF hq))) ?_
  refine RG.pv rfl (PV.mvB (.inr rfl) rfl) ?_
  refine RG.nil ?_
  refine WP.ret ?_
  exact ⟨_, _, ResV.one rfl rfl, Cv.p, k⟩
theorem l16Value_s {r : Rule} (k : R (.bool (okVal r)) G L) : CallT Tryz.prog 49 #[vrule r] G L R := by
  refine CallT.enter (args := _) Tryz.func49 rfl rfl (by kernel_rfl) rfl ?_
  refine WP.seq ?_
  refine WP.region ?_
  refine RG.ot rfl (OT.box (cs := ruleT.enc r) rfl rfl rfl fun b1 => ?_)
  refine RG.pv rfl (PV.mvB (.inr rfl) rfl) ?_
  refine RG.nil ?_
  refine WP.seq ?_
  refine WP.seq ?_
  refine WP.region ?_
  refine RG.pv rfl (PV.field rfl Fo34_0 rfl) ?_
  refine RG.pv rfl (PV.load1 rfl Sc2 rfl (Rd.blk rfl)) ?_
  refine RG.nil ?_
  refine WP.block ?_
  refine WP.seq ?_
  refine WP.region ?_
  refine RG.pv rfl (PV.eql rfl rfl rfl) ?_
  refine RG.pv rfl (PV.mvB (.inr rfl) rfl) ?_
  refine RG.nil ?_
  refine WP.cond rfl (fun h1 => ?_) (fun h1 => ?_)
  · have h1 := of_decide_eq_true h1
    rw [okVal, if_pos h1] at k
    refine WP.seq ?_
    refine WP.region ?_
    refine RG.pv rfl (PV.field rfl Fo34_3 rfl) ?_
    refine RG.pv rfl (PV.load1 rfl Sc2 rfl (Rd.blk rfl)) ?_
    refine RG.callF (vs := [_, _, _]) rfl rfl En48 rfl (l16In_s ?_)
    refine RG.pv rfl (PV.mvB (.inr rfl) rfl) ?_
    refine RG.nil ?_
    refine WP.ret ?_
    exact ⟨_, _, ResV.one rfl rfl, Cv.p, k⟩
  · have h1 := of_decide_eq_false h1
    rw [okVal, if_neg h1] at k
    refine WP.seq ?_
    refine WP.region ?_
    refine RG.pv rfl (PV.eql rfl rfl rfl) ?_
    refine RG.pv rfl (PV.mvB (.inr rfl) rfl) ?_
    refine RG.nil ?_
    refine WP.cond rfl (fun h2 => ?_) (fun h2 => ?_)
    · have h2 := of_decide_eq_true h2
      rw [if_pos h2] at k
      refine WP.seq ?_
      refine WP.region ?_
      refine RG.pv rfl (PV.field rfl Fo34_3 rfl) ?_
      refine RG.pv rfl (PV.load1 rfl Sc2 rfl (Rd.blk rfl)) ?_
      refine RG.callF (vs := [_, _, _]) rfl rfl En48 rfl (l16In_s ?_)
      refine RG.pv rfl (PV.mvB (.inr rfl) rfl) ?_
      refine RG.nil ?_
      refine WP.ret ?_
      exact ⟨_, _, ResV.one rfl rfl, Cv.p, k⟩
    · have h2 := of_decide_eq_false h2
      rw [if_neg h2] at k
      refine WP.skip ?_
      refine WP.seq ?_
      refine WP.region ?_
      refine RG.pv rfl (PV.field rfl Fo34_3 rfl) ?_
      refine RG.pv rfl (PV.load1 rfl Sc2 rfl (Rd.blk rfl)) ?_
      refine RG.callF (vs := [_, _, _]) rfl rfl En48 rfl (l16In_s ?_)
      refine RG.pv rfl (PV.mvB (.inr rfl) rfl) ?_
      refine RG.nil ?_
      refine WP.ret ?_
      exact ⟨_, _, ResV.one rfl rfl, Cv.p, k⟩
theorem okOther_false {r : Rule} (h : (paired r.kind && (!within r.other 0 7 || decide (r.other = r.layer)) || !paired r.kind && !decide (r.other = 0)) = true) : okOther r = false := by
  unfold okOther; revert h
  cases paired r.kind <;> cases within r.other 0 7 <;> cases decide (r.other = r.layer) <;> cases decide (r.other = 0) <;> simp
theorem okOther_true {r : Rule} (h : (paired r.kind && (!within r.other 0 7 || decide (r.other = r.layer)) || !paired r.kind && !decide (r.other = 0)) = false) : okOther r = true := by
  unfold okOther; revert h
  cases paired r.kind <;> cases within r.other 0 7 <;> cases decide (r.other = r.layer) <;> cases decide (r.other = 0) <;> simp
theorem validRule_s {r : Rule} (k : R (.bool (validRule r)) G L) : CallT Tryz.prog 21 #[vrule r] G L R := by
  refine CallT.enter (args := _) Tryz.func21 rfl rfl (by kernel_rfl) rfl ?_
  refine WP.seq ?_
  refine WP.region ?_
  refine RG.ot rfl (OT.box (cs := ruleT.enc r) rfl rfl rfl fun b1 => ?_)
  refine RG.pv rfl (PV.mvB (.inr rfl) rfl) ?_
  refine RG.nil ?_
  refine WP.seq ?_
  refine WP.seq ?_
  refine WP.region ?_
  refine RG.pv rfl (PV.field rfl Fo34_0 rfl) ?_
  refine RG.pv rfl (PV.load1 rfl Sc2 rfl (Rd.blk rfl)) ?_
  refine RG.callF (vs := [_, _, _]) rfl rfl En48 rfl (l16In_s ?_)
  refine RG.pv rfl (PV.not rfl rfl) ?_
  refine RG.pv rfl (PV.mvB (.inl rfl) rfl) ?_
  refine RG.gs rfl rfl rfl (fun hp => (PV.field rfl Fo34_1 rfl)) ?_
  refine RG.gs rfl rfl rfl (fun hp => (PV.load1 rfl Sc2 (gs_t hp) (Rd.blk rfl))) ?_
  refine RG.gsC rfl rfl rfl rfl En48 (fun hp => ⟨_, (acons (gs_t hp) (acons rfl (acons rfl anil))), l16In_s ⟨rfl, rfl, rfl⟩⟩) ?_
  refine RG.gs rfl rfl rfl (fun hp => (PV.not rfl (gs_t hp))) ?_
  refine RG.pv rfl (PV.pickO rfl rfl rfl (fun hq => gs_t (geqF hq))) ?_
  refine RG.pv rfl (PV.mvB (.inl rfl) rfl) ?_
  refine RG.gs rfl rfl rfl (fun hp => (PV.loadW rfl Ag34 rfl rfl)) ?_
  refine RG.gsC rfl rfl rfl rfl En49 (fun hp => ⟨_, (acons (gs_t hp) anil), l16Value_s ⟨rfl, rfl, rfl⟩⟩) ?_
  refine RG.gs rfl rfl rfl (fun hp => (PV.not rfl (gs_t hp))) ?_
  refine RG.pv rfl (PV.pickO rfl rfl rfl (fun hq => gs_t (geqF hq))) ?_
  refine RG.nil ?_
  refine WP.cond rfl (fun h1 => ?_) (fun h1 => ?_)
  · have e : validRule r = false := by
      unfold validRule; revert h1
      cases within r.kind 0 5 <;> cases within r.layer 0 7 <;> cases okVal r <;> simp
    rw [e] at k
    refine WP.seq ?_
    refine WP.region ?_
    refine RG.pv rfl (PV.mvB (.inr rfl) rfl) ?_
    refine RG.nil ?_
    refine WP.ret ?_
    exact ⟨_, _, ResV.one rfl rfl, Cv.p, k⟩
  · have e : validRule r = (okOther r && okPct r) := by
      unfold validRule; revert h1
      cases within r.kind 0 5 <;> cases within r.layer 0 7 <;> cases okVal r <;> simp
    rw [e] at k
    refine WP.skip ?_
    refine WP.seq ?_
    refine WP.seq ?_
    refine WP.region ?_
    refine RG.pv rfl (PV.field rfl Fo34_0 rfl) ?_
    refine RG.pv rfl (PV.load1 rfl Sc2 rfl (Rd.blk rfl)) ?_
    refine RG.callF (vs := [_]) rfl rfl En50 rfl (l16Paired_s ?_)
    refine RG.pv rfl (PV.mvB (.inl rfl) rfl) ?_
    refine RG.gs rfl rfl rfl (fun hp => (PV.field rfl Fo34_2 rfl)) ?_
    refine RG.gs rfl rfl rfl (fun hp => (PV.load1 rfl Sc2 (gs_t hp) (Rd.blk rfl))) ?_
    refine RG.gsC rfl rfl rfl rfl En48 (fun hp => ⟨_, (acons (gs_t hp) (acons rfl (acons rfl anil))), l16In_s ⟨rfl, rfl, rfl⟩⟩) ?_
    refine RG.gs rfl rfl rfl (fun hp => (PV.not rfl (gs_t hp))) ?_
    refine RG.gs rfl rfl rfl (fun hp => (PV.mvB (.inl rfl) (gs_t hp))) ?_
    refine RG.gs2 rfl rfl rfl (fun hp => (PV.field rfl Fo34_2 rfl)) ?_
    refine RG.gs2 rfl rfl rfl (fun hp => (PV.load1 rfl Sc2 (gs_t hp) (Rd.blk rfl))) ?_
    refine RG.gs2 rfl rfl rfl (fun hp => (PV.field rfl Fo34_1 rfl)) ?_
    refine RG.gs2 rfl rfl rfl (fun hp => (PV.load1 rfl Sc2 (gs_t hp) (Rd.blk rfl))) ?_
    refine RG.gs2 rfl rfl rfl (fun hp => (PV.eql rfl (gs_t hp) (gs_t hp))) ?_
    refine RG.gs rfl rfl rfl (fun hp => (PV.pickO rfl (gs_t hp) rfl (fun hq => gs_t (gandF hp hq)))) ?_
    refine RG.pv rfl (PV.pickA rfl rfl (fun hq => gs_t (geqT hq)) rfl) ?_
    refine RG.pv rfl (PV.mvB (.inl rfl) rfl) ?_
    refine RG.gs rfl rfl rfl (fun hp => (PV.field rfl Fo34_0 rfl)) ?_
    refine RG.gs rfl rfl rfl (fun hp => (PV.load1 rfl Sc2 (gs_t hp) (Rd.blk rfl))) ?_
    refine RG.gsC rfl rfl rfl rfl En50 (fun hp => ⟨_, (acons (gs_t hp) anil), l16Paired_s ⟨rfl, rfl, rfl⟩⟩) ?_
    refine RG.gs rfl rfl rfl (fun hp => (PV.not rfl (gs_t hp))) ?_
    refine RG.gs rfl rfl rfl (fun hp => (PV.mvB (.inl rfl) (gs_t hp))) ?_
    refine RG.gs2 rfl rfl rfl (fun hp => (PV.field rfl Fo34_2 rfl)) ?_
    refine RG.gs2 rfl rfl rfl (fun hp => (PV.load1 rfl Sc2 (gs_t hp) (Rd.blk rfl))) ?_
    refine RG.gs2 rfl rfl rfl (fun hp => (PV.neq rfl (gs_t hp) rfl)) ?_
    refine RG.gs rfl rfl rfl (fun hp => (PV.pickA rfl (gs_t hp) (fun hq => gs_t (gandT hp hq)) rfl)) ?_
    refine RG.pv rfl (PV.pickO rfl rfl rfl (fun hq => gs_t (geqF hq))) ?_
    refine RG.nil ?_
    refine WP.cond rfl (fun h2 => ?_) (fun h2 => ?_)
    · rw [okOther_false h2, Bool.false_and] at k
      refine WP.seq ?_
      refine WP.region ?_
      refine RG.pv rfl (PV.mvB (.inr rfl) rfl) ?_
      refine RG.nil ?_
      refine WP.ret ?_
      exact ⟨_, _, ResV.one rfl rfl, Cv.p, k⟩
    · rw [okOther_true h2, Bool.true_and] at k
      refine WP.skip ?_
      refine WP.seq ?_
      refine WP.seq ?_
      refine WP.region ?_
      refine RG.pv rfl (PV.field rfl Fo34_0 rfl) ?_
      refine RG.pv rfl (PV.load1 rfl Sc2 rfl (Rd.blk rfl)) ?_
      refine RG.pv rfl (PV.eql rfl rfl rfl) ?_
      refine RG.nil ?_
      refine WP.cond rfl (fun h3 => ?_) (fun h3 => ?_)
      · have h3 := of_decide_eq_true h3
        rw [okPct, if_pos h3] at k
        refine WP.seq ?_
        refine WP.region ?_
        refine RG.pv rfl (PV.field rfl Fo34_4 rfl) ?_
        refine RG.pv rfl (PV.load1 rfl Sc2 rfl (Rd.blk rfl)) ?_
        refine RG.callF (vs := [_, _, _]) rfl rfl En48 rfl (l16In_s ?_)
        refine RG.pv rfl (PV.mvB (.inr rfl) rfl) ?_
        refine RG.nil ?_
        refine WP.ret ?_
        exact ⟨_, _, ResV.one rfl rfl, Cv.p, k⟩
      · have h3 := of_decide_eq_false h3
        rw [okPct, if_neg h3] at k
        refine WP.skip ?_
        refine WP.seq ?_
        refine WP.region ?_
        refine RG.pv rfl (PV.field rfl Fo34_4 rfl) ?_
        refine RG.pv rfl (PV.load1 rfl Sc2 rfl (Rd.blk rfl)) ?_
        refine RG.pv rfl (PV.eql rfl rfl rfl) ?_
        refine RG.pv rfl (PV.mvB (.inr rfl) rfl) ?_
        refine RG.nil ?_
        refine WP.ret ?_
        exact ⟨_, _, ResV.one rfl rfl, Cv.p, k⟩
theorem validRule_i {r : Rule} (k : R (.bool (validRule r)) G L) : CallT Tryz.prog 39 #[vrule r] G L R := by
  refine CallT.enter (args := _) Tryz.func39 rfl rfl (by kernel_rfl) rfl ?_
  refine WP.seq ?_
  refine WP.region ?_
  refine RG.ot rfl (OT.box (cs := ruleT.enc r) rfl rfl rfl fun b1 => ?_)
  refine RG.pv rfl (PV.mvB (.inr rfl) rfl) ?_
  refine RG.nil ?_
  refine WP.seq ?_
  refine WP.seq ?_
  refine WP.region ?_
  refine RG.pv rfl (PV.field rfl Fo34_0 rfl) ?_
  refine RG.pv rfl (PV.load1 rfl Sc2 rfl (Rd.blk rfl)) ?_
  refine RG.callF (vs := [_, _, _]) rfl rfl En92 rfl (within_s ?_)
  refine RG.pv rfl (PV.not rfl rfl) ?_
  refine RG.pv rfl (PV.mvB (.inl rfl) rfl) ?_
  refine RG.gs rfl rfl rfl (fun hp => (PV.field rfl Fo34_1 rfl)) ?_
  refine RG.gs rfl rfl rfl (fun hp => (PV.load1 rfl Sc2 (gs_t hp) (Rd.blk rfl))) ?_
  refine RG.gsC rfl rfl rfl rfl En92 (fun hp => ⟨_, (acons (gs_t hp) (acons rfl (acons rfl anil))), within_s ⟨rfl, rfl, rfl⟩⟩) ?_
  refine RG.gs rfl rfl rfl (fun hp => (PV.not rfl (gs_t hp))) ?_
  refine RG.pv rfl (PV.pickO rfl rfl rfl (fun hq => gs_t (geqF hq))) ?_
  refine RG.nil ?_
  refine WP.cond rfl (fun h1 => ?_) (fun h1 => ?_)
  · have e : validRule r = false := by
      unfold validRule; revert h1
      cases within r.kind 0 5 <;> cases within r.layer 0 7 <;> simp
    rw [e] at k
    refine WP.seq ?_
    refine WP.region ?_
    refine RG.pv rfl (PV.mvB (.inr rfl) rfl) ?_
    refine RG.nil ?_
    refine WP.ret ?_
    exact ⟨_, _, ResV.one rfl rfl, Cv.p, k⟩
  · have e : validRule r = (okOther r && (okVal r && okPct r)) := by
      unfold validRule; revert h1
      cases within r.kind 0 5 <;> cases within r.layer 0 7 <;> simp [Bool.and_assoc]
    rw [e] at k
    refine WP.skip ?_
    refine WP.seq ?_
    refine WP.seq ?_
    refine WP.region ?_
    refine RG.pv rfl (PV.field rfl Fo34_0 rfl) ?_
    refine RG.pv rfl (PV.load1 rfl Sc2 rfl (Rd.blk rfl)) ?_
    refine RG.callF (vs := [_]) rfl rfl En51 rfl (hasOther_s ?_)
    refine RG.pv rfl (PV.mvB (.inl rfl) rfl) ?_
    refine RG.gs rfl rfl rfl (fun hp => (PV.field rfl Fo34_2 rfl)) ?_
    refine RG.gs rfl rfl rfl (fun hp => (PV.load1 rfl Sc2 (gs_t hp) (Rd.blk rfl))) ?_
    refine RG.gsC rfl rfl rfl rfl En92 (fun hp => ⟨_, (acons (gs_t hp) (acons rfl (acons rfl anil))), within_s ⟨rfl, rfl, rfl⟩⟩) ?_
    refine RG.gs rfl rfl rfl (fun hp => (PV.not rfl (gs_t hp))) ?_
    refine RG.gs rfl rfl rfl (fun hp => (PV.mvB (.inl rfl) (gs_t hp))) ?_
    refine RG.gs2 rfl rfl rfl (fun hp => (PV.field rfl Fo34_2 rfl)) ?_
    refine RG.gs2 rfl rfl rfl (fun hp => (PV.load1 rfl Sc2 (gs_t hp) (Rd.blk rfl))) ?_
    refine RG.gs2 rfl rfl rfl (fun hp => (PV.field rfl Fo34_1 rfl)) ?_
    refine RG.gs2 rfl rfl rfl (fun hp => (PV.load1 rfl Sc2 (gs_t hp) (Rd.blk rfl))) ?_
    refine RG.gs2 rfl rfl rfl (fun hp => (PV.eql rfl (gs_t hp) (gs_t hp))) ?_
    refine RG.gs rfl rfl rfl (fun hp => (PV.pickO rfl (gs_t hp) rfl (fun hq => gs_t (gandF hp hq)))) ?_
    refine RG.pv rfl (PV.pickA rfl rfl (fun hq => gs_t (geqT hq)) rfl) ?_
    refine RG.pv rfl (PV.mvB (.inl rfl) rfl) ?_
    refine RG.gs rfl rfl rfl (fun hp => (PV.field rfl Fo34_0 rfl)) ?_
    refine RG.gs rfl rfl rfl (fun hp => (PV.load1 rfl Sc2 (gs_t hp) (Rd.blk rfl))) ?_
    refine RG.gsC rfl rfl rfl rfl En51 (fun hp => ⟨_, (acons (gs_t hp) anil), hasOther_s ⟨rfl, rfl, rfl⟩⟩) ?_
    refine RG.gs rfl rfl rfl (fun hp => (PV.not rfl (gs_t hp))) ?_
    refine RG.gs rfl rfl rfl (fun hp => (PV.mvB (.inl rfl) (gs_t hp))) ?_
    refine RG.gs2 rfl rfl rfl (fun hp => (PV.field rfl Fo34_2 rfl)) ?_
    refine RG.gs2 rfl rfl rfl (fun hp => (PV.load1 rfl Sc2 (gs_t hp) (Rd.blk rfl))) ?_
    refine RG.gs2 rfl rfl rfl (fun hp => (PV.neq rfl (gs_t hp) rfl)) ?_
    refine RG.gs rfl rfl rfl (fun hp => (PV.pickA rfl (gs_t hp) (fun hq => gs_t (gandT hp hq)) rfl)) ?_
    refine RG.pv rfl (PV.pickO rfl rfl rfl (fun hq => gs_t (geqF hq))) ?_
    refine RG.nil ?_
    refine WP.cond rfl (fun h2 => ?_) (fun h2 => ?_)
    · rw [okOther_false h2, Bool.false_and] at k
      refine WP.seq ?_
      refine WP.region ?_
      refine RG.pv rfl (PV.mvB (.inr rfl) rfl) ?_
      refine RG.nil ?_
      refine WP.ret ?_
      exact ⟨_, _, ResV.one rfl rfl, Cv.p, k⟩
    · rw [okOther_true h2, Bool.true_and] at k
      refine WP.skip ?_
      refine WP.seq ?_
      refine WP.seq ?_
      refine WP.region ?_
      refine RG.pv rfl (PV.field rfl Fo34_0 rfl) ?_
      refine RG.pv rfl (PV.load1 rfl Sc2 rfl (Rd.blk rfl)) ?_
      refine RG.nil ?_
      refine WP.block ?_
      refine WP.seq ?_
      refine WP.region ?_
      refine RG.pv rfl (PV.eql rfl rfl rfl) ?_
      refine RG.pv rfl (PV.mvB (.inr rfl) rfl) ?_
      refine RG.nil ?_
      refine WP.cond rfl (fun h3 => ?_) (fun h3 => ?_)
      · have h3 := of_decide_eq_true h3
        rw [okVal, if_pos h3, okPct, if_neg (by omega)] at k
        refine WP.seq ?_
        refine WP.region ?_
        refine RG.pv rfl (PV.field rfl Fo34_3 rfl) ?_
        refine RG.pv rfl (PV.load1 rfl Sc2 rfl (Rd.blk rfl)) ?_
        refine RG.callF (vs := [_, _, _]) rfl rfl En92 rfl (within_s ?_)
        refine RG.pv rfl (PV.mvB (.inl rfl) rfl) ?_
        refine RG.gs rfl rfl rfl (fun hp => (PV.field rfl Fo34_4 rfl)) ?_
        refine RG.gs rfl rfl rfl (fun hp => (PV.load1 rfl Sc2 (gs_t hp) (Rd.blk rfl))) ?_
        refine RG.gs rfl rfl rfl (fun hp => (PV.eql rfl (gs_t hp) rfl)) ?_
        refine RG.pv rfl (PV.pickA rfl rfl (fun hq => gs_t (geqT hq)) rfl) ?_
        refine RG.pv rfl (PV.mvB (.inr rfl) rfl) ?_
        refine RG.nil ?_
        refine WP.ret ?_
        exact ⟨_, _, ResV.one rfl rfl, Cv.p, k⟩
      · have h3 := of_decide_eq_false h3
        rw [okVal, if_neg h3] at k
        refine WP.seq ?_
        refine WP.region ?_
        refine RG.pv rfl (PV.eql rfl rfl rfl) ?_
        refine RG.pv rfl (PV.mvB (.inr rfl) rfl) ?_
        refine RG.nil ?_
        refine WP.cond rfl (fun h4 => ?_) (fun h4 => ?_)
        · have h4 := of_decide_eq_true h4
          rw [if_pos h4, okPct, if_pos h4] at k
          refine WP.seq ?_
          refine WP.region ?_
          refine RG.pv rfl (PV.field rfl Fo34_3 rfl) ?_
          refine RG.pv rfl (PV.load1 rfl Sc2 rfl (Rd.blk rfl)) ?_
          refine RG.callF (vs := [_, _, _]) rfl rfl En92 rfl (within_s ?_)
          refine RG.pv rfl (PV.mvB (.inl rfl) rfl) ?_
          refine RG.gs rfl rfl rfl (fun hp => (PV.field rfl Fo34_4 rfl)) ?_
          refine RG.gs rfl rfl rfl (fun hp => (PV.load1 rfl Sc2 (gs_t hp) (Rd.blk rfl))) ?_
          refine RG.gsC rfl rfl rfl rfl En92 (fun hp => ⟨_, (acons (gs_t hp) (acons rfl (acons rfl anil))), within_s ⟨rfl, rfl, rfl⟩⟩) ?_
          refine RG.pv rfl (PV.pickA rfl rfl (fun hq => gs_t (geqT hq)) rfl) ?_
          refine RG.pv rfl (PV.mvB (.inr rfl) rfl) ?_
          refine RG.nil ?_
          refine WP.ret ?_
          exact ⟨_, _, ResV.one rfl rfl, Cv.p, k⟩
        · have h4 := of_decide_eq_false h4
          rw [if_neg h4, okPct, if_neg h4] at k
          refine WP.skip ?_
          refine WP.seq ?_
          refine WP.region ?_
          refine RG.pv rfl (PV.field rfl Fo34_3 rfl) ?_
          refine RG.pv rfl (PV.load1 rfl Sc2 rfl (Rd.blk rfl)) ?_
          refine RG.callF (vs := [_, _, _]) rfl rfl En92 rfl (within_s ?_)
          refine RG.pv rfl (PV.mvB (.inl rfl) rfl) ?_
          refine RG.gs rfl rfl rfl (fun hp => (PV.field rfl Fo34_4 rfl)) ?_
          refine RG.gs rfl rfl rfl (fun hp => (PV.load1 rfl Sc2 (gs_t hp) (Rd.blk rfl))) ?_
          refine RG.gs rfl rfl rfl (fun hp => (PV.eql rfl (gs_t hp) rfl)) ?_
          refine RG.pv rfl (PV.pickA rfl rfl (fun hq => gs_t (geqT hq)) rfl) ?_
          refine RG.pv rfl (PV.mvB (.inr rfl) rfl) ?_
          refine RG.nil ?_
          refine WP.ret ?_
          exact ⟨_, _, ResV.one rfl rfl, Cv.p, k⟩
end Go.Proofs.YtpjajhjcbcfplaaGreat
namespace Go.Proofs.YtpjajhjcbcfplaaGreat
set_option linter.unusedVariables false
set_option linter.unusedSimpArgs false
open Go
set_option maxRecDepth 20000
set_option maxHeartbeats 2000000
set_option linter.unusedSimpArgs false
variable {G : Gh} {L : List Ch} {R : Value → Gh → List Ch → Prop}
theorem RsE.two {a b : Sl Rect} (ha : Rs G L rectT a.v a.xs) (hb : Rs G L rectT b.v b.xs) : RsE G L rectT [a, b] := fun i hi => by
  rcases Nat.lt_or_ge i 1 with h | h
  · obtain rfl : i = 0 := by omega
    rw [show gd [a, b] 0 = a by simp [gd]]; exact ha
  · obtain rfl : i = 1 := by simp at hi; omega
    rw [show gd [a, b] 1 = b by simp [gd]]; exact hb
end Go.Proofs.YtpjajhjcbcfplaaGreat
namespace Go.Proofs.YtpjajhjcbcfplaaGreat
set_option linter.unusedVariables false
set_option linter.unusedSimpArgs false
open Go
set_option maxRecDepth 20000
set_option linter.unusedSimpArgs false
variable {G : Gh} {L : List Ch} {R : Value → Gh → List Ch → Prop}
/-- the markers of a valid rule in a layout -/
noncomputable def rmL (l : List (List Rect)) (q : Rule) : List Rect :=
  if q.kind = 0 then widthL (gd l q.layer.toNat) q.value else if q.kind = 1 then spaceL (gd l q.layer.toNat) q.value else if q.kind = 2 then betwL (gd l q.layer.toNat) (gd l q.other.toNat) q.value
  else if q.kind = 3 then enclL (gd l q.layer.toNat) (gd l q.other.toNat) q.value else if q.kind = 4 then areaL (gd l q.layer.toNat) q.value else densL (gd l q.layer.toNat) q.value q.percent
noncomputable def rmE (l : List (List Rect)) (q : Rule) : List Rect := if (isLay l && validRule q) = true then rmL l q else []
theorem valid_lay {q : Rule} (h : validRule q = true) : (0 ≤ q.layer ∧ q.layer ≤ 7) ∧ 0 ≤ q.other ∧ q.other ≤ 7 := by
  simp only [validRule, okOther, Bool.and_eq_true] at h
  have h1 := h.1.1.1.2; have h2 := h.1.1.2
  simp only [within, Bool.and_eq_true, decide_eq_true_eq] at h1
  refine ⟨h1, ?_⟩
  cases hp : paired q.kind
  · rw [hp, cond_false] at h2; have := of_decide_eq_true h2; omega
  · rw [hp, cond_true] at h2; simp only [within, Bool.and_eq_true, decide_eq_true_eq] at h2; exact h2.1
theorem rule_s {v : Value} {ys : List (Sl Rect)} {q : Rule} (h1 : Rs G L slT v ys) (hd : RsE G L rectT ys) (k : ∀ v', R v' G (osl 71 rectT v' (rmE (er ys) q) :: L)) : CallT Tryz.prog 28 #[v, vT ruleT q] G L R := by
  refine CallT.enter (args := _) Tryz.func28 rfl rfl (by kernel_rfl) rfl ?_
  refine WP.seq ?_
  refine WP.region ?_
  refine RG.ot rfl (OT.box (cs := ruleT.enc q) rfl rfl rfl fun b3 => ?_)
  refine RG.pv rfl (PV.asg rfl rfl) ?_
  refine RG.nil ?_
  refine WP.seq ?_
  refine WP.seq ?_
  refine WP.region ?_
  refine RG.pv rfl (PV.move (v := v) rfl rfl) ?_
  refine RG.callF (vs := [v]) rfl rfl En57 rfl (l19Layout_s (Rs.up h1) hd.up ?_)
  refine RG.pv rfl (PV.not rfl rfl) ?_
  refine RG.pv rfl (PV.mvB (.inl rfl) rfl) ?_
  refine RG.gs rfl rfl rfl (fun hp => (PV.loadW rfl Ag34 rfl rfl)) ?_
  refine RG.gsC rfl rfl rfl rfl En21 (fun hp => ⟨_, (acons (gs_t hp) anil), validRule_s ⟨rfl, rfl, rfl⟩⟩) ?_
  refine RG.gs rfl rfl rfl (fun hp => (PV.not rfl (gs_t hp))) ?_
  refine RG.pv rfl (PV.pickO rfl rfl rfl (fun hq => gs_t (geqF hq))) ?_
  refine RG.nil ?_
  refine WP.cond rfl (fun h2 => ?_) (fun h2 => ?_)
  · have e : rmE (er ys) q = [] := by rw [rmE, if_neg]; intro h3; cases g1 : isLay (er ys) <;> cases g2 : validRule q <;> simp_all
    rw [e] at k
    refine WP.seq ?_
    refine WP.region ?_
    refine RG.ot rfl (OT.bslice (F := rectT) (els := []) rfl El28 rfl (by decide) rfl (by decide) trivial fun v14 => ?_)
    refine RG.pv rfl (PV.asg (v := v14) rfl rfl) ?_
    refine RG.nil ?_
    refine WP.ret ?_
    exact ⟨_, _, ResV.one rfl rfl, Cv.p, k v14⟩
  · have h3 : isLay (er ys) = true ∧ validRule q = true := by cases g1 : isLay (er ys) <;> cases g2 : validRule q <;> simp_all
    have hl8 : ys.length = 8 := by have := isLay_len h3.1; rwa [er_len] at this
    obtain ⟨hlr, hor⟩ := valid_lay h3.2
    rw [rmE, if_pos (by rw [h3.1, h3.2]; rfl), rmL, er_gd, er_gd] at k
    refine WP.skip ?_
    refine WP.seq ?_
    refine WP.region ?_
    refine RG.pv rfl (PV.move (v := v) rfl rfl) ?_
    refine RG.pv rfl (PV.field rfl Fo34_1 rfl) ?_
    refine RG.pv rfl (PV.load1 rfl Sc2 rfl (Rd.blk rfl)) ?_
    refine RG.pv rfl (PV.idxS (j := q.layer.toNat) (v := v) rfl Is32 rfl (SlF.r h1) rfl (by omega) (by omega)) ?_
    refine RG.pv rfl (PV.loadE1 rfl Sc28 rfl rfl (El.r h1 (getG (by omega))) rfl) ?_
    refine RG.pv rfl (PV.asg rfl rfl) ?_
    refine RG.nil ?_
    refine WP.seq ?_
    refine WP.seq ?_
    refine WP.region ?_
    refine RG.pv rfl (PV.field rfl Fo34_0 rfl) ?_
    refine RG.pv rfl (PV.load1 rfl Sc2 rfl (Rd.blk rfl)) ?_
    refine RG.nil ?_
    refine WP.block ?_
    refine WP.seq ?_
    refine WP.region ?_
    refine RG.pv rfl (PV.eql rfl rfl rfl) ?_
    refine RG.pv rfl (PV.mvB (.inr rfl) rfl) ?_
    refine RG.nil ?_
    refine WP.cond rfl (fun h4 => ?_) (fun h4 => ?_)
    · rw [if_pos (by simpa using h4)] at k
      refine WP.seq ?_
      refine WP.region ?_
      refine RG.pv rfl (PV.move rfl rfl) ?_
      refine RG.pv rfl (PV.field rfl Fo34_3 rfl) ?_
      refine RG.pv rfl (PV.load1 rfl Sc2 rfl (Rd.blk rfl)) ?_
      refine RG.callF (vs := [_, _]) rfl rfl En58 rfl (markWidth_s (hd q.layer.toNat (by omega)).up (fun v27 => ?_))
      refine RG.pv rfl (PV.asg (v := v27) rfl rfl) ?_
      refine RG.nil ?_
      refine WP.ret ?_
      exact ⟨_, _, ResV.one rfl rfl, Cv.p, k v27⟩
    · rw [if_neg (by simpa using h4)] at k
      refine WP.seq ?_
      refine WP.region ?_
      refine RG.pv rfl (PV.eql rfl rfl rfl) ?_
      refine RG.pv rfl (PV.mvB (.inr rfl) rfl) ?_
      refine RG.nil ?_
      refine WP.cond rfl (fun h5 => ?_) (fun h5 => ?_)
      · rw [if_pos (by simpa using h5)] at k
        refine WP.seq ?_
        refine WP.region ?_
        refine RG.pv rfl (PV.move rfl rfl) ?_
        refine RG.pv rfl (PV.field rfl Fo34_3 rfl) ?_
        refine RG.pv rfl (PV.load1 rfl Sc2 rfl (Rd.blk rfl)) ?_
        refine RG.callF (vs := [_, _]) rfl rfl En59 rfl (markSpacing_s (hd q.layer.toNat (by omega)).up (fun v33 => ?_))
        refine RG.pv rfl (PV.asg (v := v33) rfl rfl) ?_
        refine RG.nil ?_
        refine WP.ret ?_
        exact ⟨_, _, ResV.one rfl rfl, Cv.p, k v33⟩
      · rw [if_neg (by simpa using h5)] at k
        refine WP.seq ?_
        refine WP.region ?_
        refine RG.pv rfl (PV.eql rfl rfl rfl) ?_
        refine RG.pv rfl (PV.mvB (.inr rfl) rfl) ?_
        refine RG.nil ?_
        refine WP.cond rfl (fun h6 => ?_) (fun h6 => ?_)
        · rw [if_pos (by simpa using h6)] at k
          refine WP.seq ?_
          refine WP.regionH0 (.q 0 (.q 1 (.q 2 (.q 3 (.q 4 (.q 5 (.q 6 (.q 7 (.l 8 (.q 9 Sch.nil)))))))))) (by kernel_rfl) (by kernel_rfl) (by kernel_rfl) rfl ?_
          refine RH.pv rfl (fun _ _ _ _ h => h) (Gh.le_refl _) PickC.pick rfl (PV.move rfl rfl) ?_
          refine RH.pv rfl (fun _ _ _ _ h => h) (Gh.le_refl _) PickC.pick rfl (PV.move (v := v) rfl rfl) ?_
          refine RH.pv rfl (fun _ _ _ _ h => h) (Gh.le_refl _) PickC.pick rfl (PV.field rfl Fo34_2 rfl) ?_
          refine RH.pv rfl (fun _ _ _ _ h => h) (Gh.le_refl _) PickC.pick rfl (PV.load1 rfl Sc2 rfl (Rd.blk rfl)) ?_
          refine RH.pv rfl (fun _ _ _ _ h => h) (Gh.le_refl _) PickC.pick rfl (PV.idxS (j := q.other.toNat) (v := v) rfl Is32 rfl (SlF.r h1) rfl (by omega) (by omega)) ?_
          refine RH.pv rfl (fun _ _ _ _ h => h) (Gh.le_refl _) PickC.pick rfl (PV.loadE1 rfl Sc28 rfl rfl (El.r h1 (getG (by omega))) rfl) ?_
          refine RH.pv rfl (fun _ _ _ _ h => h) (Gh.le_refl _) PickC.pick rfl (PV.field rfl Fo34_3 rfl) ?_
          refine RH.pv rfl (fun _ _ _ _ h => h) (Gh.le_refl _) PickC.pick rfl (PV.load1 rfl Sc2 rfl (Rd.blk rfl)) ?_
          refine RH.ot rfl rfl (OT.callF (vs := [_, _, _]) rfl En60 rfl (markBetween_s (hd q.layer.toNat (by omega)).up (hd q.other.toNat (by omega)).up (fun v44 => ⟨Gh.le_refl _, PickC.pick, ?_⟩)))
          refine RH.pv rfl (fun _ _ _ _ h => h) (Gh.le_refl _) PickC.pick rfl (PV.asg (v := v44) rfl rfl) ?_
          refine RH.nil ?_
          refine WP.ret ?_
          exact ⟨_, _, ResV.one rfl rfl, Cv.p, k v44⟩
        · rw [if_neg (by simpa using h6)] at k
          refine WP.seq ?_
          refine WP.region ?_
          refine RG.pv rfl (PV.eql rfl rfl rfl) ?_
          refine RG.pv rfl (PV.mvB (.inr rfl) rfl) ?_
          refine RG.nil ?_
          refine WP.cond rfl (fun h8 => ?_) (fun h8 => ?_)
          · rw [if_pos (by simpa using h8)] at k
            refine WP.seq ?_
            refine WP.regionH0 (.q 0 (.q 1 (.q 2 (.q 3 (.q 4 (.q 5 (.q 6 (.q 7 (.l 8 (.q 9 Sch.nil)))))))))) (by kernel_rfl) (by kernel_rfl) (by kernel_rfl) rfl ?_
            refine RH.pv rfl (fun _ _ _ _ h => h) (Gh.le_refl _) PickC.pick rfl (PV.move rfl rfl) ?_
            refine RH.pv rfl (fun _ _ _ _ h => h) (Gh.le_refl _) PickC.pick rfl (PV.move (v := v) rfl rfl) ?_
            refine RH.pv rfl (fun _ _ _ _ h => h) (Gh.le_refl _) PickC.pick rfl (PV.field rfl Fo34_2 rfl) ?_
            refine RH.pv rfl (fun _ _ _ _ h => h) (Gh.le_refl _) PickC.pick rfl (PV.load1 rfl Sc2 rfl (Rd.blk rfl)) ?_
            refine RH.pv rfl (fun _ _ _ _ h => h) (Gh.le_refl _) PickC.pick rfl (PV.idxS (j := q.other.toNat) (v := v) rfl Is32 rfl (SlF.r h1) rfl (by omega) (by omega)) ?_
            refine RH.pv rfl (fun _ _ _ _ h => h) (Gh.le_refl _) PickC.pick rfl (PV.loadE1 rfl Sc28 rfl rfl (El.r h1 (getG (by omega))) rfl) ?_
            refine RH.pv rfl (fun _ _ _ _ h => h) (Gh.le_refl _) PickC.pick rfl (PV.field rfl Fo34_3 rfl) ?_
            refine RH.pv rfl (fun _ _ _ _ h => h) (Gh.le_refl _) PickC.pick rfl (PV.load1 rfl Sc2 rfl (Rd.blk rfl)) ?_
            refine RH.ot rfl rfl (OT.callF (vs := [_, _, _]) rfl En61 rfl (markEncl_s (hd q.layer.toNat (by omega)).up (hd q.other.toNat (by omega)).up (fun v55 => ⟨Gh.le_refl _, PickC.pick, ?_⟩)))
            refine RH.pv rfl (fun _ _ _ _ h => h) (Gh.le_refl _) PickC.pick rfl (PV.asg (v := v55) rfl rfl) ?_
            refine RH.nil ?_
            refine WP.ret ?_
            exact ⟨_, _, ResV.one rfl rfl, Cv.p, k v55⟩
          · rw [if_neg (by simpa using h8)] at k
            refine WP.seq ?_
            refine WP.region ?_
            refine RG.pv rfl (PV.eql rfl rfl rfl) ?_
            refine RG.pv rfl (PV.mvB (.inr rfl) rfl) ?_
            refine RG.nil ?_
            refine WP.cond rfl (fun h9 => ?_) (fun h9 => ?_)
            · rw [if_pos (by simpa using h9)] at k
              refine WP.seq ?_
              refine WP.region ?_
              refine RG.pv rfl (PV.move rfl rfl) ?_
              refine RG.pv rfl (PV.field rfl Fo34_3 rfl) ?_
              refine RG.pv rfl (PV.load1 rfl Sc2 rfl (Rd.blk rfl)) ?_
              refine RG.callF (vs := [_, _]) rfl rfl En62 rfl (markArea_s (hd q.layer.toNat (by omega)).up (fun v61 => ?_))
              refine RG.pv rfl (PV.asg (v := v61) rfl rfl) ?_
              refine RG.nil ?_
              refine WP.ret ?_
              exact ⟨_, _, ResV.one rfl rfl, Cv.p, k v61⟩
            · rw [if_neg (by simpa using h9)] at k
              refine WP.skip ?_
              refine WP.seq ?_
              refine WP.region ?_
              refine RG.pv rfl (PV.move rfl rfl) ?_
              refine RG.pv rfl (PV.field rfl Fo34_3 rfl) ?_
              refine RG.pv rfl (PV.load1 rfl Sc2 rfl (Rd.blk rfl)) ?_
              refine RG.pv rfl (PV.field rfl Fo34_4 rfl) ?_
              refine RG.pv rfl (PV.load1 rfl Sc2 rfl (Rd.blk rfl)) ?_
              refine RG.callF (vs := [_, _, _]) rfl rfl En63 rfl (markDens_s (hd q.layer.toNat (by omega)).up (fun v67 => ?_))
              refine RG.pv rfl (PV.asg (v := v67) rfl rfl) ?_
              refine RG.nil ?_
              refine WP.ret ?_
              exact ⟨_, _, ResV.one rfl rfl, Cv.p, k v67⟩
end Go.Proofs.YtpjajhjcbcfplaaGreat
namespace Go.Proofs.YtpjajhjcbcfplaaGreat
set_option linter.unusedVariables false
set_option linter.unusedSimpArgs false
open Go
set_option maxRecDepth 20000
set_option linter.unusedSimpArgs false
def OIn (o : Int) : Prop := 0 ≤ o ∧ o ≤ 7
theorem OIn.cases {o : Int} (h : OIn o) : o = 0 ∨ o = 1 ∨ o = 2 ∨ o = 3 ∨ o = 4 ∨ o = 5 ∨ o = 6 ∨ o = 7 := by unfold OIn at h; omega
end Go.Proofs.YtpjajhjcbcfplaaGreat
namespace Go.Proofs.YtpjajhjcbcfplaaGreat
set_option linter.unusedVariables false
set_option linter.unusedSimpArgs false
open Go
set_option maxRecDepth 20000
set_option linter.unusedSimpArgs false
variable {G : Gh} {L : List Ch} {R : Value → Gh → List Ch → Prop}
theorem canon_empty {bs : List Bool} (hl : bs.length = 6400) : canon bs = [] ↔ ∀ y x, y < 80 → x < 80 → gb bs y x = false := by
  constructor
  · intro h y x hy hx
    have := canon_any (bs := bs) hy hx
    rw [h] at this
    simpa using this.symm
  · intro h
    cases e : canon bs with
    | nil => rfl
    | cons r rs =>
      exfalso
      have hr := RIn_all (isReg_canon hl) r (by rw [e]; exact .head _)
      obtain ⟨h1, h2, h3, h4, h5, h6⟩ := hr
      have hy : (r.y0 + 40).toNat < 80 := by omega
      have hx : (r.x0 + 40).toNat < 80 := by omega
      have := canon_any (bs := bs) hy hx
      rw [h _ _ hy hx, e, List.any_cons, inR_iff.2 (by omega)] at this
      simp at this
end Go.Proofs.YtpjajhjcbcfplaaGreat
namespace Go.Proofs.YtpjajhjcbcfplaaGreat
set_option linter.unusedVariables false
set_option linter.unusedSimpArgs false
open Go
set_option maxRecDepth 20000
set_option linter.unusedSimpArgs false
variable {G : Gh} {L : List Ch} {R : Value → Gh → List Ch → Prop}
def Regs (ys : List (Sl Rect)) : Prop := ∀ s ∈ ys, isReg s.xs = true
theorem Regs.set {ys : List (Sl Rect)} (h : Regs ys) {i : Nat} {v : Value} {xs : List Rect} (hx : isReg xs = true) : Regs (ys.set i ⟨v, xs⟩) := fun s hs => by
  rcases List.mem_or_eq_of_mem_set hs with h1 | rfl
  · exact h s h1
  · exact hx
theorem Regs.gd {ys : List (Sl Rect)} (h : Regs ys) {i : Nat} (hi : i < ys.length) : isReg (gd ys i).xs = true := h _ (by rw [gd_eq hi]; exact List.getElem_mem _)
theorem isReg_nil : isReg [] = true := by
  have h : canon (bits []) = [] := (canon_empty (bits_length _)).2 fun y x hy hx => by rw [gb_bits' _ hy hx]; rfl
  have := isReg_canon (bits_length [])
  rwa [h] at this
theorem Cv.nils {e : TypeId} {F : FT Rect} {L : List Ch} : ∀ n : Nat, Cv L (bagS e F (List.replicate n (default : Sl Rect)) :: L)
  | 0 => Cv.bag0 rfl
  | n + 1 => by
    rw [List.replicate_succ']
    exact (Cv.nils n).trans (Cv.nilS.trans Cv.bagS_add)
end Go.Proofs.YtpjajhjcbcfplaaGreat
namespace Go.Proofs.YtpjajhjcbcfplaaGreat
set_option linter.unusedVariables false
set_option linter.unusedSimpArgs false
open Go
set_option maxRecDepth 20000
set_option linter.unusedSimpArgs false
/-- two sets agree within a distance of a cell -/
def Agr (A B : List Bool) (w : Int) (y x : Nat) : Prop := ∀ y' x' : Nat, y' < 80 → x' < 80 → ((y : Int) - w ≤ y' ∧ (y' : Int) ≤ y + w) → ((x : Int) - w ≤ x' ∧ (x' : Int) ≤ x + w) → gb A y' x' = gb B y' x'
theorem Agr.symm {A B : List Bool} {w : Int} {y x : Nat} (h : Agr A B w y x) : Agr B A w y x := fun y' x' h1 h2 h3 h4 => (h y' x' h1 h2 h3 h4).symm
theorem gb_not {S : List Bool} (hS : S.length = 6400) {y x : Nat} (hy : y < 80) (hx : x < 80) : gb (notB S) y x = !gb S y x := gd_not (by omega)
theorem Agr.not {A B A' B' : List Bool} {w : Int} {y x : Nat} (hA : A.length = 6400) (hA' : A'.length = 6400) (h1 : Agr A A' w y x) (h2 : Agr B B' w y x) : Agr (notB (orZ A B)) (notB (orZ A' B')) w y x := fun y' x' g1 g2 g3 g4 => by
  rw [gb_not (by rw [orZ_len]; exact hA) g1 g2, gb_not (by rw [orZ_len]; exact hA') g1 g2, orZ_gb hA g1 g2, orZ_gb hA' g1 g2, h1 y' x' g1 g2 g3 g4, h2 y' x' g1 g2 g3 g4]
theorem widthL_reg (xs : List Rect) (w : Int) : isReg (widthL xs w) = true := by
  unfold widthL; split
  · exact isReg_canon (celL_len _)
  · exact isReg_nil
theorem spaceL_reg (xs : List Rect) (w : Int) : isReg (spaceL xs w) = true := by
  unfold spaceL; split
  · exact isReg_canon (celL_len _)
  · exact isReg_nil
theorem betwL_reg (xs ys : List Rect) (w : Int) : isReg (betwL xs ys w) = true := by
  unfold betwL; split
  · exact isReg_canon (celL_len _)
  · exact isReg_nil
theorem enclL_reg (xs ys : List Rect) (w : Int) : isReg (enclL xs ys w) = true := by
  unfold enclL; split
  · exact isReg_canon (zipB_len (growB_len _ _) (bits_length _))
  · exact isReg_nil
theorem areaL_reg (xs : List Rect) (w : Int) : isReg (areaL xs w) = true := by
  unfold areaL; split
  · exact isReg_canon (celL_len _)
  · exact isReg_nil
theorem densL_reg (xs : List Rect) (w p : Int) : isReg (densL xs w p) = true := by
  unfold densL; split
  · exact isReg_canon (zipB_len (celL_len _) (bits_length _))
  · exact isReg_nil
theorem rmL_reg (l : List (List Rect)) (q : Rule) : isReg (rmL l q) = true := by
  unfold rmL
  split
  · exact widthL_reg _ _
  · split
    · exact spaceL_reg _ _
    · split
      · exact betwL_reg _ _ _
      · split
        · exact enclL_reg _ _ _
        · split
          · exact areaL_reg _ _
          · exact densL_reg _ _ _
theorem rmE_reg (l : List (List Rect)) (q : Rule) : isReg (rmE l q) = true := by
  unfold rmE; split
  · exact rmL_reg _ _
  · exact isReg_nil
end Go.Proofs.YtpjajhjcbcfplaaGreat
namespace Go.Proofs.YtpjajhjcbcfplaaGreat
set_option linter.unusedVariables false
set_option linter.unusedSimpArgs false
open Go
set_option maxRecDepth 20000
set_option linter.unusedSimpArgs false
variable {G : Gh} {L : List Ch} {R : Value → Gh → List Ch → Prop}
theorem Eq34 : EqT Tryz.prog 34 ruleT := ⟨by kernel_rfl, fun a b w => by
  rw [eqT_run 9999 _ _ w Tryz.underlying34 (by kernel_rfl)]
  obtain ⟨a0, a1, a2, a3, a4⟩ := a; obtain ⟨b0, b1, b2, b3, b4⟩ := b
  simp only [ruleT]
  simp [Op.eqFields, part, isAgg, run_underlying Tryz.underlying2, run_equalIn_int _ _ _ _ _ _ _ Tryz.underlying2]
  by_cases e0 : a0 = b0 <;> by_cases e1 : a1 = b1 <;> by_cases e2 : a2 = b2 <;> by_cases e3 : a3 = b3 <;> by_cases e4 : a4 = b4 <;> simp_all⟩
def hasR (rs : List Rule) (q : Rule) : Bool := rs.any fun r => decide (q = r)
def deckAt (rs : List Rule) (i : Nat) : Bool := validRule (gd rs i) && !hasR (rs.take i) (gd rs i)
def deckOk (rs : List Rule) : Bool := decide (rs.length ≤ 12) && decide (∀ i, i < rs.length → deckAt rs i = true)
theorem deck_false {rs : List Rule} {i : Nat} (h : i < rs.length) (e : deckAt rs i = false) : deckOk rs = false := by
  simp only [deckOk, Bool.and_eq_false_iff, decide_eq_false_iff_not]
  exact .inr fun hh => by rw [hh i h] at e; cases e
theorem deck_all {rs : List Rule} (h : ∀ i, i < rs.length → deckAt rs i = true) : deckOk rs = decide ((rs.length : Int) ≤ 12) := by
  simp only [deckOk, decide_eq_true h, Bool.and_true]; rw [decide_eq_decide]; omega
theorem deck_rule {rs : List Rule} (h : deckOk rs = true) {i : Nat} (hi : i < rs.length) : validRule (gd rs i) = true := by
  simp only [deckOk, Bool.and_eq_true, decide_eq_true_eq] at h
  have := h.2 i hi; simp only [deckAt, Bool.and_eq_true] at this; exact this.1
theorem indexRule_s {v : Value} {rs : List Rule} {q : Rule} (h1 : Rs G L ruleT v rs) (k : R (vi (idxI (fun r => decide (q = r)) rs)) G L) : CallT Tryz.prog 177 #[v, vrule q] G L R := by
  refine CallT.bd h1 fun hb => ?_
  refine CallT.enter (args := _) Tryz.func177 rfl rfl (by kernel_rfl) rfl ?_
  refine WP.seq ?_
  refine WP.region ?_
  refine RG.ot rfl (OT.box (cs := ruleT.enc q) rfl rfl rfl fun b3 => ?_)
  refine RG.pv rfl (PV.mvI (.inr rfl) rfl) ?_
  refine RG.nil ?_
  refine WP.seq ?_
  refine WP.seq ?_
  refine WP.region ?_
  refine RG.pv rfl (PV.move (v := v) rfl rfl) ?_
  refine RG.pv rfl (PV.len (v := v) rfl Tryz.underlying52 rfl (SlF.r h1)) ?_
  refine RG.pv rfl (PV.mvI (.inl rfl) rfl) ?_
  refine RG.nil ?_
  refine WP.block ?_
  refine WP.loop1 [0, 3, 7] (fun i => i ≤ rs.length ∧ ∀ j, j < i → decide (q = gd rs j) = false) (fun i => [(8, vi i)]) (fun i => blk b3 34 (ruleT.enc q) :: L) (fun i => rs.length - i) 0 ⟨by omega, fun j h => by omega⟩ ⟨rfl, trivial⟩ Cv.p ?_
  rintro i τ ⟨hi, hj⟩
  refine WP.seq ?_
  refine WP.region ?_
  refine RG.pv rfl (PV.lss rfl rfl rfl) ?_
  refine RG.nil ?_
  refine WP.seq ?_
  refine WP.cond rfl (fun h2 => ?_) (fun h2 => ?_)
  · have h2 := of_decide_eq_true h2
    refine WP.skip ?_
    refine WP.seq ?_
    refine WP.block ?_
    refine WP.seq ?_
    refine WP.region ?_
    refine RG.pv rfl (PV.mvI (.inl rfl) rfl) ?_
    refine RG.pv rfl (PV.mvI (.inr rfl) rfl) ?_
    refine RG.nil ?_
    refine WP.seq ?_
    refine WP.regionQ (by kernel_rfl) (by kernel_rfl) ?_
    refine RQ.pv rfl (PV.loadW rfl Ag34 rfl rfl) ?_
    refine RQ.pv rfl (PV.move (v := v) rfl rfl) ?_
    refine RQ.pv rfl (PV.mvI (.inl rfl) rfl) ?_
    refine RQ.pv rfl (PV.idxS (v := v) rfl Is52 rfl (SlF.r h1) rfl rfl (by omega)) ?_
    refine RQ.pv rfl (PV.loadE rfl Ag34 rfl rfl (El.r h1 (getG (by omega)))) ?_
    refine RQ.pv rfl (PV.eqlT rfl Eq34 rfl rfl) ?_
    refine RQ.nil ?_
    refine WP.cond rfl (fun h3 => ?_) (fun h3 => ?_)
    · rw [idxI_at (by omega) h3 hj] at k
      refine WP.seq ?_
      refine WP.region ?_
      refine RG.pv rfl (PV.mvI (.inl rfl) rfl) ?_
      refine RG.pv rfl (PV.mvI (.inr rfl) rfl) ?_
      refine RG.nil ?_
      refine WP.ret ?_
      exact ⟨_, _, ResV.one rfl rfl, Cv.p, k⟩
    · have hj' : ∀ j, j < i + 1 → decide (q = gd rs j) = false := fun j h => by
        by_cases c : j = i
        · rw [c]; exact h3
        · exact hj j (by omega)
      refine WP.skip ?_
      refine WP.region ?_
      refine RG.pv rfl (PV.add rfl rfl rfl (by omega)) ?_
      refine RG.pv rfl (PV.mvI (.inl rfl) rfl) ?_
      refine RG.nil ?_
      exact ⟨rfl, i + 1, ⟨by omega, hj'⟩, ⟨rfl, trivial⟩, ⟨rfl, rfl, rfl, trivial⟩, Cv.p, by omega⟩
  · have h2 := of_decide_eq_false h2
    rw [idxI_none (fun j h => hj j (by omega))] at k
    refine WP.exit ?_
    refine WP.seq ?_
    refine WP.region ?_
    refine RG.pv rfl (PV.mvI (.inr rfl) rfl) ?_
    refine RG.nil ?_
    refine WP.ret ?_
    exact ⟨_, _, ResV.one rfl rfl, Cv.p, k⟩
theorem containsRule_s {v : Value} {rs : List Rule} {q : Rule} (h1 : Rs G L ruleT v rs) (k : R (.bool (hasR rs q)) G L) : CallT Tryz.prog 130 #[v, vrule q] G L R := by
  rw [hasR, ← idxI_any] at k
  refine CallT.enter (args := _) Tryz.func130 rfl rfl (by kernel_rfl) rfl ?_
  refine WP.seq ?_
  refine WP.region ?_
  refine RG.ot rfl (OT.box (cs := ruleT.enc q) rfl rfl rfl fun b3 => ?_)
  refine RG.pv rfl (PV.mvB (.inr rfl) rfl) ?_
  refine RG.nil ?_
  refine WP.seq ?_
  refine WP.region ?_
  refine RG.pv rfl (PV.move (v := v) rfl rfl) ?_
  refine RG.pv rfl (PV.loadW rfl Ag34 rfl rfl) ?_
  refine RG.callF (vs := [v, _]) rfl rfl En177 rfl (indexRule_s (Rs.up h1) ?_)
  refine RG.pv rfl (PV.geq rfl rfl rfl) ?_
  refine RG.pv rfl (PV.mvB (.inr rfl) rfl) ?_
  refine RG.nil ?_
  refine WP.ret ?_
  exact ⟨_, _, ResV.one rfl rfl, Cv.p, k⟩
theorem deck_i {d : Deck} (h1 : Rs G L ruleT d.rules.v d.rules.xs) (k : R (.bool (deckOk d.rules.xs)) G L) : CallT Tryz.prog 74 #[vT deckT d] G L R := by
  refine CallT.bd h1 fun hb => ?_
  refine CallT.enter (args := _) Tryz.func74 rfl rfl (by kernel_rfl) rfl ?_
  refine WP.seq ?_
  refine WP.region ?_
  refine RG.ot rfl (OT.box (cs := deckT.enc d) rfl rfl rfl fun b1 => ?_)
  refine RG.pv rfl (PV.mvB (.inr rfl) rfl) ?_
  refine RG.nil ?_
  refine WP.seq ?_
  refine WP.seq ?_
  refine WP.region ?_
  refine RG.pv rfl (PV.field rfl Fo54_0 rfl) ?_
  refine RG.pv rfl (PV.load1 rfl Sc52 rfl (Rd.blk rfl)) ?_
  refine RG.pv rfl (PV.len rfl Tryz.underlying52 rfl (SlF.r h1)) ?_
  refine RG.pv rfl (PV.mvI (.inl rfl) rfl) ?_
  refine RG.nil ?_
  refine WP.block ?_
  refine WP.loop1 [1, 6, 7] (fun i => i ≤ d.rules.xs.length ∧ ∀ j, j < i → deckAt d.rules.xs j = true) (fun i => [(8, vi i)]) (fun i => blk b1 54 (deckT.enc d) :: L) (fun i => d.rules.xs.length - i) 0 ⟨by omega, fun j h => by omega⟩ ⟨rfl, trivial⟩ Cv.p ?_
  rintro i τ ⟨hi, hj⟩
  refine WP.seq ?_
  refine WP.region ?_
  refine RG.pv rfl (PV.lss rfl rfl rfl) ?_
  refine RG.nil ?_
  refine WP.seq ?_
  refine WP.cond rfl (fun h2 => ?_) (fun h2 => ?_)
  · have h2 := of_decide_eq_true h2
    have h3 : i < d.rules.xs.length := by omega
    refine WP.skip ?_
    refine WP.seq ?_
    refine WP.block ?_
    refine WP.seq ?_
    refine WP.region ?_
    refine RG.pv rfl (PV.mvI (.inl rfl) rfl) ?_
    refine RG.pv rfl (PV.idxS rfl Is52 rfl (SlF.r h1) rfl rfl (by omega)) ?_
    refine RG.pv rfl (PV.loadE rfl Ag34 rfl rfl (El.r h1 (getG (by omega)))) ?_
    refine RG.ot rfl (OT.alloc rfl Zr34 fun b4 => ?_)
    refine RG.pv rfl (PV.mvI (.inr rfl) rfl) ?_
    refine RG.ot rfl (OT.storeW (vs := [vi _, vi _, vi _, vi _, vi _]) rfl Sz34 rfl rfl (Cl.c rfl) rfl rfl (OneC.c rfl) ?_)
    refine RG.nil ?_
    refine WP.seq ?_
    refine WP.regionQ (by kernel_rfl) (by kernel_rfl) ?_
    refine RQ.pv rfl (PV.loadW rfl Ag34 rfl rfl) ?_
    refine RQ.callF (vs := [_]) rfl rfl En39 rfl (validRule_i ⟨rfl, rfl, rfl⟩) ?_
    refine RQ.pv rfl (PV.not rfl rfl) ?_
    refine RQ.pv rfl (PV.mvB (.inl rfl) rfl) ?_
    refine RQ.gs rfl rfl rfl (fun hp => (PV.field rfl Fo54_0 rfl)) ?_
    refine RQ.gs rfl rfl rfl (fun hp => (PV.load1 rfl Sc52 (gs_t hp) (Rd.blk rfl))) ?_
    refine RQ.gs rfl rfl rfl (fun hp => (PV.mvI (.inl rfl) rfl)) ?_
    refine RQ.gs rfl rfl rfl (fun hp => (PV.slc rfl Is52 (gs_t hp) (SlF.r h1) optAt.n (optAt.s (gs_t hp) rfl) (by first | omega | (simp at hp; omega)) (by first | omega | (simp at hp; omega)))) ?_
    refine RQ.gs rfl rfl rfl (fun hp => (PV.loadW rfl Ag34 rfl rfl)) ?_
    refine RQ.gsC rfl rfl rfl rfl En130 (fun hp => ⟨_, (acons (gs_t hp) (acons (gs_t hp) anil)), containsRule_s (rs := d.rules.xs.take i) (by have := Rs.slv h1 (lo := 0) (hi := i) (by omega) (by omega); rw [List.drop_zero] at this; exact this.up) ⟨rfl, rfl, rfl⟩⟩) ?_
    refine RQ.pv rfl (PV.pickO rfl rfl rfl (fun hq => gs_t (geqF hq))) ?_
    refine RQ.nil ?_
    refine WP.cond rfl (fun h4 => ?_) (fun h4 => ?_)
    · have e : deckAt d.rules.xs i = false := by
        revert h4; unfold deckAt
        cases validRule (gd d.rules.xs i) <;> cases hasR (d.rules.xs.take i) (gd d.rules.xs i) <;> simp
      rw [deck_false h3 e] at k
      refine WP.seq ?_
      refine WP.region ?_
      refine RG.pv rfl (PV.mvB (.inr rfl) rfl) ?_
      refine RG.nil ?_
      refine WP.ret ?_
      exact ⟨_, _, ResV.one rfl rfl, Cv.p, k⟩
    · have e : deckAt d.rules.xs i = true := by
        revert h4; unfold deckAt
        cases validRule (gd d.rules.xs i) <;> cases hasR (d.rules.xs.take i) (gd d.rules.xs i) <;> simp
      have hj' : ∀ j, j < i + 1 → deckAt d.rules.xs j = true := fun j h => by
        by_cases c : j = i
        · rw [c]; exact e
        · exact hj j (by omega)
      refine WP.skip ?_
      refine WP.region ?_
      refine RG.pv rfl (PV.add rfl rfl rfl (by omega)) ?_
      refine RG.pv rfl (PV.mvI (.inl rfl) rfl) ?_
      refine RG.nil ?_
      exact ⟨rfl, i + 1, ⟨by omega, hj'⟩, ⟨rfl, trivial⟩, ⟨rfl, rfl, rfl, trivial⟩, Cv.p, by omega⟩
  · have h2 := of_decide_eq_false h2
    rw [deck_all (fun i h => hj i (by omega))] at k
    refine WP.exit ?_
    refine WP.seq ?_
    refine WP.region ?_
    refine RG.pv rfl (PV.field rfl Fo54_0 rfl) ?_
    refine RG.pv rfl (PV.load1 rfl Sc52 rfl (Rd.blk rfl)) ?_
    refine RG.pv rfl (PV.len rfl Tryz.underlying52 rfl (SlF.r h1)) ?_
    refine RG.pv rfl (PV.leq rfl rfl rfl) ?_
    refine RG.pv rfl (PV.mvB (.inr rfl) rfl) ?_
    refine RG.nil ?_
    refine WP.ret ?_
    exact ⟨_, _, ResV.one rfl rfl, Cv.p, k⟩
theorem l16Has_s {v : Value} {rs : List Rule} {q : Rule} (h1 : Rs G L ruleT v rs) (k : R (.bool (hasR rs q)) G L) : CallT Tryz.prog 164 #[v, vrule q] G L R := by
  refine CallT.bd h1 fun hb => ?_
  refine CallT.enter (args := _) Tryz.func164 rfl rfl (by kernel_rfl) rfl ?_
  refine WP.seq ?_
  refine WP.region ?_
  refine RG.ot rfl (OT.box (cs := ruleT.enc q) rfl rfl rfl fun b3 => ?_)
  refine RG.pv rfl (PV.mvB (.inr rfl) rfl) ?_
  refine RG.nil ?_
  refine WP.seq ?_
  refine WP.seq ?_
  refine WP.region ?_
  refine RG.pv rfl (PV.mvI (.inr rfl) rfl) ?_
  refine RG.nil ?_
  refine WP.block ?_
  refine WP.loop1 [0, 3] (fun i => i ≤ rs.length ∧ ∀ j, j < i → ¬ q = gd rs j) (fun i => [(5, vi i)]) (fun i => blk b3 34 (ruleT.enc q) :: L) (fun i => rs.length - i) 0 ⟨by omega, fun j h => by omega⟩ ⟨rfl, trivial⟩ Cv.p ?_
  rintro i τ ⟨hi, hj⟩
  refine WP.seq ?_
  refine WP.seq ?_
  refine WP.region ?_
  refine RG.pv rfl (PV.mvI (.inl rfl) rfl) ?_
  refine RG.pv rfl (PV.move (v := v) rfl rfl) ?_
  refine RG.pv rfl (PV.len (v := v) rfl Tryz.underlying52 rfl (SlF.r h1)) ?_
  refine RG.pv rfl (PV.lss rfl rfl rfl) ?_
  refine RG.nil ?_
  refine WP.cond rfl (fun h2 => ?_) (fun h2 => ?_)
  · have h2 := of_decide_eq_true h2
    refine WP.skip ?_
    refine WP.seq ?_
    refine WP.block ?_
    refine WP.seq ?_
    refine WP.regionQ (by kernel_rfl) (by kernel_rfl) ?_
    refine RQ.pv rfl (PV.move (v := v) rfl rfl) ?_
    refine RQ.pv rfl (PV.mvI (.inl rfl) rfl) ?_
    refine RQ.pv rfl (PV.idxS (v := v) rfl Is52 rfl (SlF.r h1) rfl rfl (by omega)) ?_
    refine RQ.pv rfl (PV.loadE rfl Ag34 rfl rfl (El.r h1 (getG (by omega)))) ?_
    refine RQ.pv rfl (PV.loadW rfl Ag34 rfl rfl) ?_
    refine RQ.pv rfl (PV.eqlT rfl Eq34 rfl rfl) ?_
    refine RQ.nil ?_
    refine WP.cond rfl (fun h3 => ?_) (fun h3 => ?_)
    · have e : hasR rs q = true := List.any_eq_true.2 ⟨gd rs i, by rw [gd_eq (by omega)]; exact List.getElem_mem _, by rw [decide_eq_true_iff]; exact (of_decide_eq_true h3).symm⟩
      rw [e] at k
      refine WP.seq ?_
      refine WP.region ?_
      refine RG.pv rfl (PV.mvB (.inr rfl) rfl) ?_
      refine RG.nil ?_
      refine WP.ret ?_
      exact ⟨_, _, ResV.one rfl rfl, Cv.p, k⟩
    · have hj' : ∀ j, j < i + 1 → ¬ q = gd rs j := fun j h => by
        by_cases c : j = i
        · rw [c]; exact fun e => (of_decide_eq_false h3) e.symm
        · exact hj j (by omega)
      refine WP.skip ?_
      refine WP.region ?_
      refine RG.pv rfl (PV.mvI (.inl rfl) rfl) ?_
      refine RG.pv rfl (PV.add rfl rfl rfl (by omega)) ?_
      refine RG.pv rfl (PV.mvI (.inr rfl) rfl) ?_
      refine RG.nil ?_
      exact ⟨rfl, i + 1, ⟨by omega, hj'⟩, ⟨rfl, trivial⟩, ⟨rfl, rfl, trivial⟩, Cv.p, by omega⟩
  · have h2 := of_decide_eq_false h2
    have e : hasR rs q = false := by
      rw [hasR, List.any_eq_false]
      intro r hr
      obtain ⟨j, hj2, rfl⟩ := List.getElem_of_mem hr
      have := hj j (by omega)
      rw [gd_eq hj2] at this
      simpa using this
    rw [e] at k
    refine WP.exit ?_
    refine WP.seq ?_
    refine WP.region ?_
    refine RG.pv rfl (PV.mvB (.inr rfl) rfl) ?_
    refine RG.nil ?_
    refine WP.ret ?_
    exact ⟨_, _, ResV.one rfl rfl, Cv.p, k⟩
theorem deck_r {d : Deck} (h1 : Rs G L ruleT d.rules.v d.rules.xs) (k : R (.bool (deckOk d.rules.xs)) G L) : CallT Tryz.prog 125 #[vT deckT d] G L R := by
  refine CallT.bd h1 fun hb => ?_
  refine CallT.enter (args := _) Tryz.func125 rfl rfl (by kernel_rfl) rfl ?_
  refine WP.seq ?_
  refine WP.region ?_
  refine RG.ot rfl (OT.box (cs := deckT.enc d) rfl rfl rfl fun b1 => ?_)
  refine RG.pv rfl (PV.mvB (.inr rfl) rfl) ?_
  refine RG.nil ?_
  refine WP.seq ?_
  refine WP.seq ?_
  refine WP.region ?_
  refine RG.pv rfl (PV.field rfl Fo54_0 rfl) ?_
  refine RG.pv rfl (PV.load1 rfl Sc52 rfl (Rd.blk rfl)) ?_
  refine RG.pv rfl (PV.len rfl Tryz.underlying52 rfl (SlF.r h1)) ?_
  refine RG.pv rfl (PV.gtr rfl rfl rfl) ?_
  refine RG.nil ?_
  refine WP.cond rfl (fun h0 => ?_) (fun h0 => ?_)
  · have h0 := of_decide_eq_true h0
    have e : deckOk d.rules.xs = false := by
      have : ¬ d.rules.xs.length ≤ 12 := by omega
      simp [deckOk, this]
    rw [e] at k
    refine WP.seq ?_
    refine WP.region ?_
    refine RG.pv rfl (PV.mvB (.inr rfl) rfl) ?_
    refine RG.nil ?_
    refine WP.ret ?_
    exact ⟨_, _, ResV.one rfl rfl, Cv.p, k⟩
  · have h0 := of_decide_eq_false h0
    refine WP.skip ?_
    refine WP.seq ?_
    refine WP.seq ?_
    refine WP.region ?_
    refine RG.pv rfl (PV.mvI (.inr rfl) rfl) ?_
    refine RG.nil ?_
    refine WP.block ?_
    refine WP.loop1 [1] (fun i => i ≤ d.rules.xs.length ∧ ∀ j, j < i → deckAt d.rules.xs j = true) (fun i => [(3, vi i)]) (fun i => blk b1 54 (deckT.enc d) :: L) (fun i => d.rules.xs.length - i) 0 ⟨by omega, fun j h => by omega⟩ ⟨rfl, trivial⟩ Cv.p ?_
    rintro i τ ⟨hi, hj⟩
    refine WP.seq ?_
    refine WP.seq ?_
    refine WP.region ?_
    refine RG.pv rfl (PV.mvI (.inl rfl) rfl) ?_
    refine RG.pv rfl (PV.field rfl Fo54_0 rfl) ?_
    refine RG.pv rfl (PV.load1 rfl Sc52 rfl (Rd.blk rfl)) ?_
    refine RG.pv rfl (PV.len rfl Tryz.underlying52 rfl (SlF.r h1)) ?_
    refine RG.pv rfl (PV.lss rfl rfl rfl) ?_
    refine RG.nil ?_
    refine WP.cond rfl (fun h2 => ?_) (fun h2 => ?_)
    · have h2 := of_decide_eq_true h2
      have h3 : i < d.rules.xs.length := by omega
      refine WP.skip ?_
      refine WP.seq ?_
      refine WP.block ?_
      refine WP.seq ?_
      refine WP.regionQ (by kernel_rfl) (by kernel_rfl) ?_
      refine RQ.pv rfl (PV.field rfl Fo54_0 rfl) ?_
      refine RQ.pv rfl (PV.load1 rfl Sc52 rfl (Rd.blk rfl)) ?_
      refine RQ.pv rfl (PV.mvI (.inl rfl) rfl) ?_
      refine RQ.pv rfl (PV.idxS rfl Is52 rfl (SlF.r h1) rfl rfl (by omega)) ?_
      refine RQ.pv rfl (PV.loadE rfl Ag34 rfl rfl (El.r h1 (getG (by omega)))) ?_
      refine RQ.callF (vs := [_]) rfl rfl En21 rfl (validRule_s ⟨rfl, rfl, rfl⟩) ?_
      refine RQ.pv rfl (PV.not rfl rfl) ?_
      refine RQ.pv rfl (PV.mvB (.inl rfl) rfl) ?_
      refine RQ.gs rfl rfl rfl (fun hp => (PV.field rfl Fo54_0 rfl)) ?_
      refine RQ.gs rfl rfl rfl (fun hp => (PV.load1 rfl Sc52 (gs_t hp) (Rd.blk rfl))) ?_
      refine RQ.gs rfl rfl rfl (fun hp => (PV.mvI (.inl rfl) rfl)) ?_
      refine RQ.gs rfl rfl rfl (fun hp => (PV.slc rfl Is52 (gs_t hp) (SlF.r h1) optAt.n (optAt.s (gs_t hp) rfl) (by first | omega | (simp at hp; omega)) (by first | omega | (simp at hp; omega)))) ?_
      refine RQ.gs rfl rfl rfl (fun hp => (PV.field rfl Fo54_0 rfl)) ?_
      refine RQ.gs rfl rfl rfl (fun hp => (PV.load1 rfl Sc52 (gs_t hp) (Rd.blk rfl))) ?_
      refine RQ.gs rfl rfl rfl (fun hp => (PV.mvI (.inl rfl) rfl)) ?_
      refine RQ.gs rfl rfl rfl (fun hp => (PV.idxS rfl Is52 (gs_t hp) (SlF.r h1) (gs_t hp) rfl (by first | omega | (simp at hp; omega)))) ?_
      refine RQ.gs rfl rfl rfl (fun hp => (PV.loadE rfl Ag34 (gs_t hp) rfl (El.r h1 (getG (by first | omega | (simp at hp; omega)))))) ?_
      refine RQ.gsC rfl rfl rfl rfl En164 (fun hp => ⟨_, (acons (gs_t hp) (acons (gs_t hp) anil)), l16Has_s (rs := d.rules.xs.take i) (by have := Rs.slv h1 (lo := 0) (hi := i) (by omega) (by omega); rw [List.drop_zero] at this; exact this.up) ⟨rfl, rfl, rfl⟩⟩) ?_
      refine RQ.pv rfl (PV.pickO rfl rfl rfl (fun hq => gs_t (geqF hq))) ?_
      refine RQ.nil ?_
      refine WP.cond rfl (fun h4 => ?_) (fun h4 => ?_)
      · have e : deckAt d.rules.xs i = false := by
          revert h4; unfold deckAt
          cases validRule (gd d.rules.xs i) <;> cases hasR (d.rules.xs.take i) (gd d.rules.xs i) <;> simp
        rw [deck_false h3 e] at k
        refine WP.seq ?_
        refine WP.region ?_
        refine RG.pv rfl (PV.mvB (.inr rfl) rfl) ?_
        refine RG.nil ?_
        refine WP.ret ?_
        exact ⟨_, _, ResV.one rfl rfl, Cv.p, k⟩
      · have e : deckAt d.rules.xs i = true := by
          revert h4; unfold deckAt
          cases validRule (gd d.rules.xs i) <;> cases hasR (d.rules.xs.take i) (gd d.rules.xs i) <;> simp
        have hj' : ∀ j, j < i + 1 → deckAt d.rules.xs j = true := fun j h => by
          by_cases c : j = i
          · rw [c]; exact e
          · exact hj j (by omega)
        refine WP.skip ?_
        refine WP.region ?_
        refine RG.pv rfl (PV.mvI (.inl rfl) rfl) ?_
        refine RG.pv rfl (PV.add rfl rfl rfl (by omega)) ?_
        refine RG.pv rfl (PV.mvI (.inr rfl) rfl) ?_
        refine RG.nil ?_
        exact ⟨rfl, i + 1, ⟨by omega, hj'⟩, ⟨rfl, trivial⟩, ⟨rfl, trivial⟩, Cv.p, by omega⟩
    · have h2 := of_decide_eq_false h2
      have e : deckOk d.rules.xs = true := by
        rw [deck_all (fun i h => hj i (by omega)), decide_eq_true_iff]; omega
      rw [e] at k
      refine WP.exit ?_
      refine WP.seq ?_
      refine WP.region ?_
      refine RG.pv rfl (PV.mvB (.inr rfl) rfl) ?_
      refine RG.nil ?_
      refine WP.ret ?_
      exact ⟨_, _, ResV.one rfl rfl, Cv.p, k⟩
end Go.Proofs.YtpjajhjcbcfplaaGreat
namespace Go.Proofs.YtpjajhjcbcfplaaGreat
set_option linter.unusedVariables false
set_option linter.unusedSimpArgs false
open Go
set_option maxRecDepth 20000
set_option maxHeartbeats 2000000
set_option linter.unusedSimpArgs false
variable {G : Gh} {L : List Ch} {R : Value → Gh → List Ch → Prop}
abbrev Pl := Int × Int
def OkP (p : Pl) : Prop := 0 ≤ p.1 ∧ 0 ≤ p.2 ∧ p.2 < 2147483647
def nx (bs : List UInt8) (p : Pl) (n : Int) : Int × Pl :=
  if n ≤ 1 then (0, p) else if p.1 < (bs.length : Int) then
    (if 256 < n then (((p.2 * 48271 + ((gd bs p.1.toNat).toNat : Int) + 1) % 2147483647) % n, (p.1 + 1, (p.2 * 48271 + ((gd bs p.1.toNat).toNat : Int) + 1) % 2147483647)) else (((gd bs p.1.toNat).toNat : Int) % n, (p.1 + 1, p.2)))
  else (((p.2 * 48271 + 11) % 2147483647) / 7 % n, (p.1, (p.2 * 48271 + 11) % 2147483647))
abbrev srcP (b : Nat) (cv : Value) (p : Pl) : Ch := blk b 118 [cv, vi p.1, vi p.2]
theorem nextP_s {b : Nat} {n : Int} {cv : Value} {bs : List UInt8} {p : Pl} (hcode : SL G byteT cv bs) (hp : OkP p) (hn : n ≤ 4611686018427387904) (k : ∀ r p', nx bs p n = (r, p') → OkP p' → 0 ≤ r ∧ (r < n ∨ r = 0) → R (vi r) G (srcP b cv p' :: L)) : CallT Tryz.prog 66 #[.pointer (some ⟨b, 0, none⟩), vi n] G (srcP b cv p :: L) R := by
  obtain ⟨x, y⟩ := p
  obtain ⟨hx, hy0, hy1⟩ := hp
  simp only at hx hy0 hy1
  have hbl := hcode.bound
  refine CallT.enter (args := _) Tryz.func66 rfl rfl (by kernel_rfl) rfl ?_
  refine WP.seq ?_
  refine WP.region ?_
  refine RG.pv rfl (PV.mvI (.inr rfl) rfl) ?_
  refine RG.nil ?_
  refine WP.seq ?_
  refine WP.seq ?_
  refine WP.region ?_
  refine RG.pv rfl (PV.mvI (.inl rfl) rfl) ?_
  refine RG.pv rfl (PV.leq rfl rfl rfl) ?_
  refine RG.nil ?_
  refine WP.cond rfl (fun h1 => ?_) (fun h1 => ?_)
  · have h1 := of_decide_eq_true h1
    refine WP.seq ?_
    refine WP.region ?_
    refine RG.pv rfl (PV.mvI (.inr rfl) rfl) ?_
    refine RG.nil ?_
    refine WP.ret ?_
    exact ⟨_, _, ResV.one rfl rfl, Cv.p, k 0 (x, y) (by rw [nx, if_pos h1]) ⟨hx, hy0, hy1⟩ ⟨by omega, .inr rfl⟩⟩
  · have h1 := of_decide_eq_false h1
    refine WP.skip ?_
    refine WP.seq ?_
    refine WP.seq ?_
    refine WP.regionQ (by kernel_rfl) (by kernel_rfl) ?_
    refine RQ.pv rfl (PV.mvP (.inl rfl) rfl) ?_
    refine RQ.pv rfl (PV.nilc rfl rfl) ?_
    refine RQ.pv rfl (PV.field rfl Fo118_1 rfl) ?_
    refine RQ.pv rfl (PV.load1 rfl Sc3 rfl (Rd.blk rfl)) ?_
    refine RQ.pv rfl (PV.mvP (.inl rfl) rfl) ?_
    refine RQ.pv rfl (PV.nilc rfl rfl) ?_
    refine RQ.pv rfl (PV.field rfl Fo118_0 rfl) ?_
    refine RQ.pv rfl (PV.load1 rfl Sc41 rfl (Rd.blk rfl)) ?_
    refine RQ.pv rfl (PV.len rfl Tryz.underlying41 rfl (SlF.r (Rs.g (L := []) hcode))) ?_
    refine RQ.pv rfl (PV.lss rfl rfl rfl) ?_
    refine RQ.nil ?_
    refine WP.cond rfl (fun h2 => ?_) (fun h2 => ?_)
    · have h2 := of_decide_eq_true h2
      have hc := (gd bs x.toNat).toNat_lt
      refine WP.seq ?_
      refine WP.regionQ (by kernel_rfl) (by kernel_rfl) ?_
      refine RQ.pv rfl (PV.mvP (.inl rfl) rfl) ?_
      refine RQ.pv rfl (PV.nilc rfl rfl) ?_
      refine RQ.pv rfl (PV.field rfl Fo118_0 rfl) ?_
      refine RQ.pv rfl (PV.load1 rfl Sc41 rfl (Rd.blk rfl)) ?_
      refine RQ.pv rfl (PV.mvP (.inl rfl) rfl) ?_
      refine RQ.pv rfl (PV.nilc rfl rfl) ?_
      refine RQ.pv rfl (PV.field rfl Fo118_1 rfl) ?_
      refine RQ.pv rfl (PV.load1 rfl Sc3 rfl (Rd.blk rfl)) ?_
      refine RQ.pv rfl (PV.idxS (j := x.toNat) rfl Is41 rfl (SlF.r (Rs.g (L := []) hcode)) rfl (by omega) (by omega)) ?_
      refine RQ.pv rfl (PV.loadE1 rfl Sc5 rfl rfl (El.r (Rs.g (L := []) hcode) (getG (by omega))) rfl) ?_
      refine RQ.pv rfl (PV.conv rfl ⟨_, Tryz.underlying5⟩ Tryz.underlying2 rfl (u8i _)) ?_
      refine RQ.pv rfl (PV.mvI (.inr rfl) rfl) ?_
      refine RQ.nil ?_
      refine WP.seq ?_
      refine WP.region ?_
      refine RG.pv rfl (PV.mvP (.inl rfl) rfl) ?_
      refine RG.pv rfl (PV.nilc rfl rfl) ?_
      refine RG.pv rfl (PV.field rfl Fo118_1 rfl) ?_
      refine RG.pv rfl (PV.load1 rfl Sc3 rfl (Rd.blk rfl)) ?_
      refine RG.pv rfl (PV.add rfl rfl rfl (by first | omega | exact u8add (by omega))) ?_
      refine RG.pv rfl (PV.nilc rfl rfl) ?_
      refine RG.pv rfl (PV.field rfl Fo118_1 rfl) ?_
      refine RG.ot rfl (OT.storeB (vs := [vi _]) (cs' := [_, _, _]) rfl Sz3 rfl rfl (Cl.c rfl) rfl (OneC.c rfl) rfl rfl ?_)
      refine RG.nil ?_
      refine WP.seq ?_
      refine WP.seq ?_
      refine WP.region ?_
      refine RG.pv rfl (PV.mvI (.inl rfl) rfl) ?_
      refine RG.pv rfl (PV.gtr rfl rfl rfl) ?_
      refine RG.nil ?_
      refine WP.cond rfl (fun h3 => ?_) (fun h3 => ?_)
      · have h3 := of_decide_eq_true h3
        refine WP.seq ?_
        refine WP.region ?_
        refine RG.pv rfl (PV.mvP (.inl rfl) rfl) ?_
        refine RG.pv rfl (PV.mvP (.inl rfl) rfl) ?_
        refine RG.pv rfl (PV.nilc rfl rfl) ?_
        refine RG.pv rfl (PV.field rfl Fo118_2 rfl) ?_
        refine RG.pv rfl (PV.load1 rfl Sc2 rfl (Rd.blk rfl)) ?_
        refine RG.pv rfl (PV.mul rfl rfl rfl (by omega)) ?_
        refine RG.pv rfl (PV.mvI (.inl rfl) rfl) ?_
        refine RG.pv rfl (PV.add rfl rfl rfl (by first | omega | exact u8add (by omega))) ?_
        refine RG.pv rfl (PV.add rfl rfl rfl (by first | omega | exact u8add (by omega))) ?_
        refine RG.pv rfl (PV.rem rfl rfl rfl (by omega) (by omega) (by omega)) ?_
        refine RG.pv rfl (PV.nilc rfl rfl) ?_
        refine RG.pv rfl (PV.field rfl Fo118_2 rfl) ?_
        refine RG.ot rfl (OT.storeB (vs := [vi _]) (cs' := [_, _, _]) rfl Sz2 rfl rfl (Cl.c rfl) rfl (OneC.c rfl) rfl rfl ?_)
        refine RG.nil ?_
        refine WP.seq ?_
        refine WP.region ?_
        refine RG.pv rfl (PV.mvP (.inl rfl) rfl) ?_
        refine RG.pv rfl (PV.nilc rfl rfl) ?_
        refine RG.pv rfl (PV.field rfl Fo118_2 rfl) ?_
        refine RG.pv rfl (PV.load1 rfl Sc2 rfl (Rd.blk rfl)) ?_
        refine RG.pv rfl (PV.mvI (.inl rfl) rfl) ?_
        refine RG.pv rfl (PV.rem rfl rfl rfl (by omega) (by omega) (by omega)) ?_
        refine RG.pv rfl (PV.mvI (.inr rfl) rfl) ?_
        refine RG.nil ?_
        refine WP.ret ?_
        exact ⟨_, _, ResV.one rfl rfl, Cv.p, k (((y * 48271 + ((gd bs x.toNat).toNat : Int) + 1) % 2147483647) % n) (x + 1, (y * 48271 + ((gd bs x.toNat).toNat : Int) + 1) % 2147483647) (by rw [nx, if_neg h1, if_pos h2, if_pos h3]) ⟨by simp only; omega, by simp only; omega, by simp only; omega⟩ ⟨Int.emod_nonneg _ (by omega), .inl (Int.emod_lt_of_pos _ (by omega))⟩⟩
      · have h3 := of_decide_eq_false h3
        refine WP.skip ?_
        refine WP.seq ?_
        refine WP.region ?_
        refine RG.pv rfl (PV.mvI (.inl rfl) rfl) ?_
        refine RG.pv rfl (PV.mvI (.inl rfl) rfl) ?_
        refine RG.pv rfl (PV.rem rfl rfl rfl (by omega) (by omega) (by omega)) ?_
        refine RG.pv rfl (PV.mvI (.inr rfl) rfl) ?_
        refine RG.nil ?_
        refine WP.ret ?_
        exact ⟨_, _, ResV.one rfl rfl, Cv.p, k (((gd bs x.toNat).toNat : Int) % n) (x + 1, y) (by rw [nx, if_neg h1, if_pos h2, if_neg h3]) ⟨by simp only; omega, by simp only; omega, by simp only; omega⟩ ⟨Int.emod_nonneg _ (by omega), .inl (Int.emod_lt_of_pos _ (by omega))⟩⟩
    · have h2 := of_decide_eq_false h2
      refine WP.skip ?_
      refine WP.seq ?_
      refine WP.region ?_
      refine RG.pv rfl (PV.mvP (.inl rfl) rfl) ?_
      refine RG.pv rfl (PV.mvP (.inl rfl) rfl) ?_
      refine RG.pv rfl (PV.nilc rfl rfl) ?_
      refine RG.pv rfl (PV.field rfl Fo118_2 rfl) ?_
      refine RG.pv rfl (PV.load1 rfl Sc2 rfl (Rd.blk rfl)) ?_
      refine RG.pv rfl (PV.mul rfl rfl rfl (by omega)) ?_
      refine RG.pv rfl (PV.add rfl rfl rfl (by omega)) ?_
      refine RG.pv rfl (PV.rem rfl rfl rfl (by omega) (by omega) (by omega)) ?_
      refine RG.pv rfl (PV.nilc rfl rfl) ?_
      refine RG.pv rfl (PV.field rfl Fo118_2 rfl) ?_
      refine RG.ot rfl (OT.storeB (vs := [vi _]) (cs' := [_, _, _]) rfl Sz2 rfl rfl (Cl.c rfl) rfl (OneC.c rfl) rfl rfl ?_)
      refine RG.nil ?_
      refine WP.seq ?_
      refine WP.region ?_
      refine RG.pv rfl (PV.mvP (.inl rfl) rfl) ?_
      refine RG.pv rfl (PV.nilc rfl rfl) ?_
      refine RG.pv rfl (PV.field rfl Fo118_2 rfl) ?_
      refine RG.pv rfl (PV.load1 rfl Sc2 rfl (Rd.blk rfl)) ?_
      refine RG.pv rfl (PV.quo rfl rfl rfl (by omega) (by omega) (by omega)) ?_
      refine RG.pv rfl (PV.mvI (.inl rfl) rfl) ?_
      refine RG.pv rfl (PV.rem rfl rfl rfl (by omega) (by omega) (by omega)) ?_
      refine RG.pv rfl (PV.mvI (.inr rfl) rfl) ?_
      refine RG.nil ?_
      refine WP.ret ?_
      exact ⟨_, _, ResV.one rfl rfl, Cv.p, k (((y * 48271 + 11) % 2147483647) / 7 % n) (x, (y * 48271 + 11) % 2147483647) (by rw [nx, if_neg h1, if_neg h2]) ⟨by simp only; omega, by simp only; omega, by simp only; omega⟩ ⟨Int.emod_nonneg _ (by omega), .inl (Int.emod_lt_of_pos _ (by omega))⟩⟩
def seedS (y : Int) (c : UInt8) : Int := (y * 31 + (c.toNat : Int)) % 2147483647
def fr (bs : List UInt8) : Pl := (0, (bs.take 64).foldl seedS 12345)
theorem seed_bd (l : List UInt8) : ∀ y, 0 ≤ y ∧ y < 2147483647 → 0 ≤ l.foldl seedS y ∧ l.foldl seedS y < 2147483647 := by
  induction l with
  | nil => exact fun y h => h
  | cons c l ih => exact fun y h => ih _ (by simp only [seedS]; omega)
theorem fr_ok (bs : List UInt8) : OkP (fr bs) := by
  have := seed_bd (bs.take 64) 12345 (by omega)
  exact ⟨by simp [fr], this.1, this.2⟩
theorem fromP_s {cv : Value} {bs : List UInt8} (hcode : SL G byteT cv bs) (k : ∀ b, R (.pointer (some ⟨b, 0, none⟩)) G (srcP b cv (fr bs) :: L)) : CallT Tryz.prog 44 #[cv] G L R := by
  have hbl := hcode.bound
  refine CallT.enter (args := _) Tryz.func44 rfl rfl (by kernel_rfl) rfl ?_
  refine WP.seq ?_
  refine WP.region ?_
  refine RG.pv rfl (PV.asg rfl rfl) ?_
  refine RG.nil ?_
  refine WP.seq ?_
  refine WP.region ?_
  refine RG.pv rfl (PV.move (v := cv) rfl rfl) ?_
  refine RG.pv rfl (PV.build (vs := [(0, [cv]), (2, [vi _])]) (out := [_, _, _]) rfl Zr118 Pl118 ⟨rfl, (Cl.s (SlF.r (Rs.g (L := []) hcode))), ⟨rfl, (Cl.c rfl), trivial⟩⟩ rfl) ?_
  refine RG.ot rfl (OT.box (cs := [cv, vi 0, vi 12345]) rfl rfl rfl fun b7 => ?_)
  refine RG.pv rfl (PV.mvP (.inr rfl) rfl) ?_
  refine RG.nil ?_
  refine WP.seq ?_
  refine WP.seq ?_
  refine WP.region ?_
  refine RG.pv rfl (PV.mvI (.inr rfl) rfl) ?_
  refine RG.nil ?_
  refine WP.block ?_
  refine WP.loop2 [0, 3] (fun (i : Nat) (y : Int) => (i ≤ 64 ∧ i ≤ bs.length) ∧ y = (bs.take i).foldl seedS 12345) (fun (i : Nat) (y : Int) => [(4, vi i)]) (fun (i : Nat) (y : Int) => blk b7 118 [cv, vi 0, vi y] :: L) (fun (i : Nat) (y : Int) => 64 - i) 0 12345 ⟨by omega, by simp⟩ ⟨rfl, trivial⟩ Cv.p ?_
  rintro i y τ ⟨hi, hy⟩
  refine WP.seq ?_
  refine WP.seq ?_
  refine WP.region ?_
  refine RG.pv rfl (PV.mvI (.inl rfl) rfl) ?_
  refine RG.pv rfl (PV.move (v := cv) rfl rfl) ?_
  refine RG.pv rfl (PV.len (v := cv) rfl Tryz.underlying41 rfl (SlF.r (Rs.g (L := []) hcode))) ?_
  refine RG.pv rfl (PV.lss rfl rfl rfl) ?_
  refine RG.pv rfl (PV.mvB (.inl rfl) rfl) ?_
  refine RG.gs rfl rfl rfl (fun hp => (PV.mvI (.inl rfl) rfl)) ?_
  refine RG.gs rfl rfl rfl (fun hp => (PV.lss rfl (gs_t hp) rfl)) ?_
  refine RG.pv rfl (PV.pickA rfl rfl (fun hq => gs_t (geqT hq)) rfl) ?_
  refine RG.nil ?_
  have hyb := seed_bd (bs.take i) 12345 (by omega)
  rw [← hy] at hyb
  refine WP.cond rfl (fun h2 => ?_) (fun h2 => ?_)
  · simp only [Bool.and_eq_true, decide_eq_true_eq] at h2
    have hc := (gd bs i).toNat_lt
    have hn : (bs.take (i + 1)).foldl seedS 12345 = (y * 31 + ((gd bs i).toNat : Int)) % 2147483647 := by
      rw [List.take_add_one, getG (by omega), List.foldl_append, ← hy]; rfl
    refine WP.skip ?_
    refine WP.seq ?_
    refine WP.block ?_
    refine WP.regionHD [.b b7] (.q 0 (.q 1 (.q 2 (.q 3 (.q 6 (.q 7 (.q 8 (.q 9 (.q 10 (.l 4 (.q 5 (.q 11 (.q 12 (.q 13 (.q 14 (.l 15 Sch.nil)))))))))))))))) (by kernel_rfl) (by kernel_rfl) (by kernel_rfl) rfl ?_
    refine RH.pv rfl (fun _ _ _ _ h => h) (Gh.le_refl _) PickC.pick rfl (PV.mvP (.inl rfl) rfl) ?_
    refine RH.pv rfl (fun _ _ _ _ h => h) (Gh.le_refl _) PickC.pick rfl (PV.mvP (.inl rfl) rfl) ?_
    refine RH.pv rfl (fun _ _ _ _ h => h) (Gh.le_refl _) PickC.pick rfl (PV.nilc rfl rfl) ?_
    refine RH.pv rfl (fun _ _ _ _ h => h) (Gh.le_refl _) PickC.pick rfl (PV.field rfl Fo118_2 rfl) ?_
    refine RH.pv rfl (fun _ _ _ _ h => h) (Gh.le_refl _) PickC.pick rfl (PV.move (v := cv) rfl rfl) ?_
    refine RH.pv rfl (fun _ _ _ _ h => h) (Gh.le_refl _) PickC.pick rfl (PV.mvI (.inl rfl) rfl) ?_
    refine RH.pv rfl (fun _ _ _ _ h => h) (Gh.le_refl _) PickC.pick rfl (PV.idxS (v := cv) rfl Is41 rfl (SlF.r (Rs.g (L := []) hcode)) rfl rfl (by omega)) ?_
    refine RH.pv rfl (fun _ _ _ _ h => h) (Gh.le_refl _) PickC.pick rfl (PV.loadE1 rfl Sc5 rfl rfl (El.r (Rs.g (L := []) hcode) (getG (by omega))) rfl) ?_
    refine RH.pv rfl (fun _ _ _ _ h => h) (Gh.le_refl _) PickC.pick rfl (PV.conv rfl ⟨_, Tryz.underlying5⟩ Tryz.underlying2 rfl (u8i _)) ?_
    refine RH.ot rfl rfl (OT.pv (PV.load1 rfl Sc2 rfl (Rd.blk rfl)) ⟨Gh.le_refl _, PickC.pick, ?_⟩)
    refine RH.pv rfl (fun _ _ _ _ h => h) (Gh.le_refl _) PickC.pick rfl (PV.mul rfl rfl rfl (by omega)) ?_
    refine RH.pv rfl (fun _ _ _ _ h => h) (Gh.le_refl _) PickC.pick rfl (PV.add rfl rfl rfl (by first | omega | exact u8add (by omega))) ?_
    refine RH.pv rfl (fun _ _ _ _ h => h) (Gh.le_refl _) PickC.pick rfl (PV.rem rfl rfl rfl (by omega) (by omega) (by omega)) ?_
    refine RH.pv rfl (fun _ _ _ _ h => h) (Gh.le_refl _) PickC.pick rfl (PV.nilc rfl rfl) ?_
    refine RH.pv rfl (fun _ _ _ _ h => h) (Gh.le_refl _) PickC.pick rfl (PV.field rfl Fo118_2 rfl) ?_
    refine RH.ot rfl rfl (OT.storeB (vs := [vi _]) (cs' := [_, _, _]) rfl Sz2 rfl rfl (Cl.c rfl) rfl (OneC.c rfl) rfl rfl ⟨Gh.le_refl _, PickC.pick, ?_⟩)
    refine RH.nil ?_
    refine WP.region ?_
    refine RG.pv rfl (PV.mvI (.inl rfl) rfl) ?_
    refine RG.pv rfl (PV.add rfl rfl rfl (by first | omega | exact u8add (by omega))) ?_
    refine RG.pv rfl (PV.mvI (.inr rfl) rfl) ?_
    refine RG.nil ?_
    exact ⟨rfl, i + 1, ((y * 31 + ((gd bs i).toNat : Int)) % 2147483647), ⟨by omega, hn.symm⟩, ⟨rfl, trivial⟩, ⟨rfl, rfl, trivial⟩, Cv.p, by omega⟩
  · have h2 : ¬ ((i : Int) < bs.length ∧ (i : Int) < 64) := by
      intro h3
      simp [h3.1, h3.2] at h2
    have e : fr bs = (0, y) := by
      rw [fr, hy]
      by_cases c : i = 64
      · rw [c]
      · rw [List.take_of_length_le (show bs.length ≤ 64 by omega), List.take_of_length_le (show bs.length ≤ i by omega)]
    rw [e] at k
    refine WP.exit ?_
    refine WP.seq ?_
    refine WP.region ?_
    refine RG.pv rfl (PV.mvP (.inl rfl) rfl) ?_
    refine RG.pv rfl (PV.mvP (.inr rfl) rfl) ?_
    refine RG.nil ?_
    refine WP.ret ?_
    exact ⟨_, _, ResV.one rfl rfl, Cv.p, k b7⟩
def dRect (bs : List UInt8) (p : Pl) : Rect × Pl :=
  match nx bs p 22 with
  | (a, p1) => match nx bs p1 22 with
  | (b, p2) => match nx bs p2 16 with
  | (c, p3) => match (if c = 0 then (match nx bs p3 3 with | (d, q) => (39 - d, q)) else (a - 12, p3)) with
  | (x, p4) => match nx bs p4 16 with
  | (e, p5) => match nx bs p5 7 with
  | (f, p6) => match nx bs p6 7 with
  | (g, p7) => (⟨x, (if e = 0 then -40 else b - 12), min 40 (x + (f + 1)), min 40 ((if e = 0 then -40 else b - 12) + (g + 1))⟩, p7)
theorem dRect_s {b : Nat} {cv : Value} {bs : List UInt8} {p : Pl} (hcode : SL G byteT cv bs) (hp : OkP p) (k : ∀ r p', dRect bs p = (r, p') → OkP p' → validRect r = true → R (vrect r) G (srcP b cv p' :: L)) : CallT Tryz.prog 104 #[.pointer (some ⟨b, 0, none⟩)] G (srcP b cv p :: L) R := by
  refine CallT.enter (args := _) Tryz.func104 rfl rfl (by kernel_rfl) rfl ?_
  refine WP.seq ?_
  refine WP.region ?_
  refine RG.ot rfl (OT.alloc rfl Zr71 fun b2 => ?_)
  refine RG.nil ?_
  refine WP.seq ?_
  refine WP.region ?_
  refine RG.pv rfl (PV.move rfl rfl) ?_
  refine RG.callF (vs := [_, _]) rfl rfl En66 rfl (CallT.exB (b := b) (nextP_s hcode (by assumption) (by omega) (fun w8 pw8 ew8 ow8 hw8 => ?_)))
  refine RG.pv rfl (PV.sub rfl rfl rfl (by omega)) ?_
  refine RG.pv rfl (PV.mvI (.inr rfl) rfl) ?_
  refine RG.nil ?_
  refine WP.seq ?_
  refine WP.region ?_
  refine RG.pv rfl (PV.move rfl rfl) ?_
  refine RG.callF (vs := [_, _]) rfl rfl En66 rfl (CallT.exB (b := b) (nextP_s hcode (by assumption) (by omega) (fun w11 pw11 ew11 ow11 hw11 => ?_)))
  refine RG.pv rfl (PV.sub rfl rfl rfl (by omega)) ?_
  refine RG.pv rfl (PV.mvI (.inr rfl) rfl) ?_
  refine RG.nil ?_
  refine WP.seq ?_
  refine WP.seq ?_
  refine WP.region ?_
  refine RG.pv rfl (PV.move rfl rfl) ?_
  refine RG.callF (vs := [_, _]) rfl rfl En66 rfl (CallT.exB (b := b) (nextP_s hcode (by assumption) (by omega) (fun w14 pw14 ew14 ow14 hw14 => ?_)))
  refine RG.pv rfl (PV.eql rfl rfl rfl) ?_
  refine RG.nil ?_
  refine WP.cond rfl (fun h1 => ?_) (fun h1 => ?_)
  · have h1 := of_decide_eq_true h1
    refine WP.region ?_
    refine RG.pv rfl (PV.move rfl rfl) ?_
    refine RG.callF (vs := [_, _]) rfl rfl En66 rfl (CallT.exB (b := b) (nextP_s hcode (by assumption) (by omega) (fun w17 pw17 ew17 ow17 hw17 => ?_)))
    refine RG.pv rfl (PV.sub rfl rfl rfl (by omega)) ?_
    refine RG.pv rfl (PV.mvI (.inr rfl) rfl) ?_
    refine RG.nil ?_
    refine WP.seq ?_
    refine WP.seq ?_
    refine WP.region ?_
    refine RG.pv rfl (PV.move rfl rfl) ?_
    refine RG.callF (vs := [_, _]) rfl rfl En66 rfl (CallT.exB (b := b) (nextP_s hcode (by assumption) (by omega) (fun w20 pw20 ew20 ow20 hw20 => ?_)))
    refine RG.pv rfl (PV.eql rfl rfl rfl) ?_
    refine RG.nil ?_
    refine WP.cond rfl (fun h2 => ?_) (fun h2 => ?_)
    · have h2 := of_decide_eq_true h2
      refine WP.region ?_
      refine RG.pv rfl (PV.mvI (.inr rfl) rfl) ?_
      refine RG.nil ?_
      refine WP.seq ?_
      refine WP.region ?_
      refine RG.pv rfl (PV.move rfl rfl) ?_
      refine RG.callF (vs := [_, _]) rfl rfl En66 rfl (CallT.exB (b := b) (nextP_s hcode (by assumption) (by omega) (fun w23 pw23 ew23 ow23 hw23 => ?_)))
      refine RG.pv rfl (PV.add rfl rfl rfl (by omega)) ?_
      refine RG.pv rfl (PV.mvI (.inr rfl) rfl) ?_
      refine RG.nil ?_
      refine WP.seq ?_
      refine WP.region ?_
      refine RG.pv rfl (PV.move rfl rfl) ?_
      refine RG.callF (vs := [_, _]) rfl rfl En66 rfl (CallT.exB (b := b) (nextP_s hcode (by assumption) (by omega) (fun w26 pw26 ew26 ow26 hw26 => ?_)))
      refine RG.pv rfl (PV.add rfl rfl rfl (by omega)) ?_
      refine RG.pv rfl (PV.mvI (.inr rfl) rfl) ?_
      refine RG.nil ?_
      refine WP.seq ?_
      refine WP.region ?_
      refine RG.pv rfl (PV.mvI (.inl rfl) rfl) ?_
      refine RG.pv rfl (PV.mvI (.inl rfl) rfl) ?_
      refine RG.pv rfl (PV.mvI (.inl rfl) rfl) ?_
      refine RG.pv rfl (PV.mvI (.inl rfl) rfl) ?_
      refine RG.pv rfl (PV.add rfl rfl rfl (by omega)) ?_
      refine RG.pv rfl (PV.min2 rfl rfl rfl) ?_
      refine RG.pv rfl (PV.mvI (.inl rfl) rfl) ?_
      refine RG.pv rfl (PV.mvI (.inl rfl) rfl) ?_
      refine RG.pv rfl (PV.add rfl rfl rfl (by omega)) ?_
      refine RG.pv rfl (PV.min2 rfl rfl rfl) ?_
      refine RG.pv rfl (PV.build (vs := [(0, [vi _]), (1, [vi _]), (2, [vi _]), (3, [vi _])]) (out := [_, _, _, _]) rfl Zr71 Pl71 ⟨rfl, (Cl.c rfl), ⟨rfl, (Cl.c rfl), ⟨rfl, (Cl.c rfl), ⟨rfl, (Cl.c rfl), trivial⟩⟩⟩⟩ rfl) ?_
      refine RG.ot rfl (OT.storeW (vs := [vi _, vi _, vi _, vi _]) rfl Sz71 rfl rfl (Cl.c rfl) rfl rfl (OneC.c rfl) ?_)
      refine RG.nil ?_
      refine WP.ret ?_
      exact ⟨_, _, ResV.one rfl (RV1.cell rfl Ag71 rfl), Cv.p, k ⟨39 - w17, -40, min 40 (39 - w17 + (w23 + 1)), min 40 (-40 + (w26 + 1))⟩ pw26 (by simp only [dRect, ew8, ew11, ew14, ew17, ew20, ew23, ew26, h1, h2, if_true]) (by assumption) (by simp [validRect]; omega)⟩
    · have h2 := of_decide_eq_false h2
      refine WP.skip ?_
      refine WP.seq ?_
      refine WP.region ?_
      refine RG.pv rfl (PV.move rfl rfl) ?_
      refine RG.callF (vs := [_, _]) rfl rfl En66 rfl (CallT.exB (b := b) (nextP_s hcode (by assumption) (by omega) (fun w23 pw23 ew23 ow23 hw23 => ?_)))
      refine RG.pv rfl (PV.add rfl rfl rfl (by omega)) ?_
      refine RG.pv rfl (PV.mvI (.inr rfl) rfl) ?_
      refine RG.nil ?_
      refine WP.seq ?_
      refine WP.region ?_
      refine RG.pv rfl (PV.move rfl rfl) ?_
      refine RG.callF (vs := [_, _]) rfl rfl En66 rfl (CallT.exB (b := b) (nextP_s hcode (by assumption) (by omega) (fun w26 pw26 ew26 ow26 hw26 => ?_)))
      refine RG.pv rfl (PV.add rfl rfl rfl (by omega)) ?_
      refine RG.pv rfl (PV.mvI (.inr rfl) rfl) ?_
      refine RG.nil ?_
      refine WP.seq ?_
      refine WP.region ?_
      refine RG.pv rfl (PV.mvI (.inl rfl) rfl) ?_
      refine RG.pv rfl (PV.mvI (.inl rfl) rfl) ?_
      refine RG.pv rfl (PV.mvI (.inl rfl) rfl) ?_
      refine RG.pv rfl (PV.mvI (.inl rfl) rfl) ?_
      refine RG.pv rfl (PV.add rfl rfl rfl (by omega)) ?_
      refine RG.pv rfl (PV.min2 rfl rfl rfl) ?_
      refine RG.pv rfl (PV.mvI (.inl rfl) rfl) ?_
      refine RG.pv rfl (PV.mvI (.inl rfl) rfl) ?_
      refine RG.pv rfl (PV.add rfl rfl rfl (by omega)) ?_
      refine RG.pv rfl (PV.min2 rfl rfl rfl) ?_
      refine RG.pv rfl (PV.build (vs := [(0, [vi _]), (1, [vi _]), (2, [vi _]), (3, [vi _])]) (out := [_, _, _, _]) rfl Zr71 Pl71 ⟨rfl, (Cl.c rfl), ⟨rfl, (Cl.c rfl), ⟨rfl, (Cl.c rfl), ⟨rfl, (Cl.c rfl), trivial⟩⟩⟩⟩ rfl) ?_
      refine RG.ot rfl (OT.storeW (vs := [vi _, vi _, vi _, vi _]) rfl Sz71 rfl rfl (Cl.c rfl) rfl rfl (OneC.c rfl) ?_)
      refine RG.nil ?_
      refine WP.ret ?_
      exact ⟨_, _, ResV.one rfl (RV1.cell rfl Ag71 rfl), Cv.p, k ⟨39 - w17, w11 - 12, min 40 (39 - w17 + (w23 + 1)), min 40 (w11 - 12 + (w26 + 1))⟩ pw26 (by simp only [dRect, ew8, ew11, ew14, ew17, ew20, ew23, ew26, h1, h2, if_true, if_false]) (by assumption) (by simp [validRect]; omega)⟩
  · have h1 := of_decide_eq_false h1
    refine WP.skip ?_
    refine WP.seq ?_
    refine WP.seq ?_
    refine WP.region ?_
    refine RG.pv rfl (PV.move rfl rfl) ?_
    refine RG.callF (vs := [_, _]) rfl rfl En66 rfl (CallT.exB (b := b) (nextP_s hcode (by assumption) (by omega) (fun w20 pw20 ew20 ow20 hw20 => ?_)))
    refine RG.pv rfl (PV.eql rfl rfl rfl) ?_
    refine RG.nil ?_
    refine WP.cond rfl (fun h2 => ?_) (fun h2 => ?_)
    · have h2 := of_decide_eq_true h2
      refine WP.region ?_
      refine RG.pv rfl (PV.mvI (.inr rfl) rfl) ?_
      refine RG.nil ?_
      refine WP.seq ?_
      refine WP.region ?_
      refine RG.pv rfl (PV.move rfl rfl) ?_
      refine RG.callF (vs := [_, _]) rfl rfl En66 rfl (CallT.exB (b := b) (nextP_s hcode (by assumption) (by omega) (fun w23 pw23 ew23 ow23 hw23 => ?_)))
      refine RG.pv rfl (PV.add rfl rfl rfl (by omega)) ?_
      refine RG.pv rfl (PV.mvI (.inr rfl) rfl) ?_
      refine RG.nil ?_
      refine WP.seq ?_
      refine WP.region ?_
      refine RG.pv rfl (PV.move rfl rfl) ?_
      refine RG.callF (vs := [_, _]) rfl rfl En66 rfl (CallT.exB (b := b) (nextP_s hcode (by assumption) (by omega) (fun w26 pw26 ew26 ow26 hw26 => ?_)))
      refine RG.pv rfl (PV.add rfl rfl rfl (by omega)) ?_
      refine RG.pv rfl (PV.mvI (.inr rfl) rfl) ?_
      refine RG.nil ?_
      refine WP.seq ?_
      refine WP.region ?_
      refine RG.pv rfl (PV.mvI (.inl rfl) rfl) ?_
      refine RG.pv rfl (PV.mvI (.inl rfl) rfl) ?_
      refine RG.pv rfl (PV.mvI (.inl rfl) rfl) ?_
      refine RG.pv rfl (PV.mvI (.inl rfl) rfl) ?_
      refine RG.pv rfl (PV.add rfl rfl rfl (by omega)) ?_
      refine RG.pv rfl (PV.min2 rfl rfl rfl) ?_
      refine RG.pv rfl (PV.mvI (.inl rfl) rfl) ?_
      refine RG.pv rfl (PV.mvI (.inl rfl) rfl) ?_
      refine RG.pv rfl (PV.add rfl rfl rfl (by omega)) ?_
      refine RG.pv rfl (PV.min2 rfl rfl rfl) ?_
      refine RG.pv rfl (PV.build (vs := [(0, [vi _]), (1, [vi _]), (2, [vi _]), (3, [vi _])]) (out := [_, _, _, _]) rfl Zr71 Pl71 ⟨rfl, (Cl.c rfl), ⟨rfl, (Cl.c rfl), ⟨rfl, (Cl.c rfl), ⟨rfl, (Cl.c rfl), trivial⟩⟩⟩⟩ rfl) ?_
      refine RG.ot rfl (OT.storeW (vs := [vi _, vi _, vi _, vi _]) rfl Sz71 rfl rfl (Cl.c rfl) rfl rfl (OneC.c rfl) ?_)
      refine RG.nil ?_
      refine WP.ret ?_
      exact ⟨_, _, ResV.one rfl (RV1.cell rfl Ag71 rfl), Cv.p, k ⟨w8 - 12, -40, min 40 (w8 - 12 + (w23 + 1)), min 40 (-40 + (w26 + 1))⟩ pw26 (by simp only [dRect, ew8, ew11, ew14, ew20, ew23, ew26, h1, h2, if_true, if_false]) (by assumption) (by simp [validRect]; omega)⟩
    · have h2 := of_decide_eq_false h2
      refine WP.skip ?_
      refine WP.seq ?_
      refine WP.region ?_
      refine RG.pv rfl (PV.move rfl rfl) ?_
      refine RG.callF (vs := [_, _]) rfl rfl En66 rfl (CallT.exB (b := b) (nextP_s hcode (by assumption) (by omega) (fun w23 pw23 ew23 ow23 hw23 => ?_)))
      refine RG.pv rfl (PV.add rfl rfl rfl (by omega)) ?_
      refine RG.pv rfl (PV.mvI (.inr rfl) rfl) ?_
      refine RG.nil ?_
      refine WP.seq ?_
      refine WP.region ?_
      refine RG.pv rfl (PV.move rfl rfl) ?_
      refine RG.callF (vs := [_, _]) rfl rfl En66 rfl (CallT.exB (b := b) (nextP_s hcode (by assumption) (by omega) (fun w26 pw26 ew26 ow26 hw26 => ?_)))
      refine RG.pv rfl (PV.add rfl rfl rfl (by omega)) ?_
      refine RG.pv rfl (PV.mvI (.inr rfl) rfl) ?_
      refine RG.nil ?_
      refine WP.seq ?_
      refine WP.region ?_
      refine RG.pv rfl (PV.mvI (.inl rfl) rfl) ?_
      refine RG.pv rfl (PV.mvI (.inl rfl) rfl) ?_
      refine RG.pv rfl (PV.mvI (.inl rfl) rfl) ?_
      refine RG.pv rfl (PV.mvI (.inl rfl) rfl) ?_
      refine RG.pv rfl (PV.add rfl rfl rfl (by omega)) ?_
      refine RG.pv rfl (PV.min2 rfl rfl rfl) ?_
      refine RG.pv rfl (PV.mvI (.inl rfl) rfl) ?_
      refine RG.pv rfl (PV.mvI (.inl rfl) rfl) ?_
      refine RG.pv rfl (PV.add rfl rfl rfl (by omega)) ?_
      refine RG.pv rfl (PV.min2 rfl rfl rfl) ?_
      refine RG.pv rfl (PV.build (vs := [(0, [vi _]), (1, [vi _]), (2, [vi _]), (3, [vi _])]) (out := [_, _, _, _]) rfl Zr71 Pl71 ⟨rfl, (Cl.c rfl), ⟨rfl, (Cl.c rfl), ⟨rfl, (Cl.c rfl), ⟨rfl, (Cl.c rfl), trivial⟩⟩⟩⟩ rfl) ?_
      refine RG.ot rfl (OT.storeW (vs := [vi _, vi _, vi _, vi _]) rfl Sz71 rfl rfl (Cl.c rfl) rfl rfl (OneC.c rfl) ?_)
      refine RG.nil ?_
      refine WP.ret ?_
      exact ⟨_, _, ResV.one rfl (RV1.cell rfl Ag71 rfl), Cv.p, k ⟨w8 - 12, w11 - 12, min 40 (w8 - 12 + (w23 + 1)), min 40 (w11 - 12 + (w26 + 1))⟩ pw26 (by simp only [dRect, ew8, ew11, ew14, ew20, ew23, ew26, h1, h2, if_false]) (by assumption) (by simp [validRect]; omega)⟩
/-- n rectangles, put behind a list -/
def dRects (bs : List UInt8) : Nat → List Rect → Pl → List Rect × Pl
  | 0, l, p => (l, p)
  | n + 1, l, p => dRects bs n (l ++ [(dRect bs p).1]) (dRect bs p).2
def dReg (bs : List UInt8) (p : Pl) : List Rect × Pl :=
  match nx bs p 6 with
  | (a, p1) => match nx bs p1 3 with
  | (b, p2) => match dRects bs (a + b).toNat [] p2 with
  | (l, p3) => (canon (bits l), p3)
theorem dReg_s {b : Nat} {cv : Value} {bs : List UInt8} {p : Pl} (hcode : SL G byteT cv bs) (hp : OkP p) (k : ∀ v' xs p', dReg bs p = (xs, p') → OkP p' → isReg xs = true → R v' G (osl 71 rectT v' xs :: srcP b cv p' :: L)) : CallT Tryz.prog 161 #[.pointer (some ⟨b, 0, none⟩)] G (srcP b cv p :: L) R := by
  refine CallT.enter (args := _) Tryz.func161 rfl rfl (by kernel_rfl) rfl ?_
  refine WP.seq ?_
  refine WP.region ?_
  refine RG.pv rfl (PV.asg rfl rfl) ?_
  refine RG.nil ?_
  refine WP.seq ?_
  refine WP.region ?_
  refine RG.ot rfl (OT.bslice (F := rectT) (els := []) rfl El28 rfl (by decide) rfl (by decide) trivial fun v5 => ?_)
  refine RG.pv rfl (PV.asg (v := v5) rfl rfl) ?_
  refine RG.nil ?_
  refine WP.seq ?_
  refine WP.seq ?_
  refine WP.region ?_
  refine RG.pv rfl (PV.move rfl rfl) ?_
  refine RG.callF (vs := [_, _]) rfl rfl En66 rfl (CallT.exB (b := b) (nextP_s hcode (by assumption) (by omega) (fun w7 pw7 ew7 ow7 hw7 => ?_)))
  refine RG.pv rfl (PV.move rfl rfl) ?_
  refine RG.callF (vs := [_, _]) rfl rfl En66 rfl (CallT.exB (b := b) (nextP_s hcode (by assumption) (by omega) (fun w9 pw9 ew9 ow9 hw9 => ?_)))
  refine RG.pv rfl (PV.add rfl rfl rfl (by omega)) ?_
  refine RG.pv rfl (PV.mvI (.inr rfl) rfl) ?_
  refine RG.nil ?_
  refine WP.block ?_
  refine WP.loop4 [0] (fun (n : Int) (ys : List Rect) (u : Value) (pp : Pl) => (0 ≤ n ∧ n ≤ 100) ∧ (ys.length : Int) + n ≤ 100 ∧ (∀ i, i < ys.length → validRect (gd ys i) = true) ∧ OkP pp ∧ dRects bs n.toNat ys pp = dRects bs (w7 + w9).toNat [] pw9) (fun (n : Int) (ys : List Rect) (u : Value) (pp : Pl) => [(4, vi n), (3, u)]) (fun (n : Int) (ys : List Rect) (u : Value) (pp : Pl) => osl 71 rectT u ys :: srcP b cv pp :: L) (fun (n : Int) (ys : List Rect) (u : Value) (pp : Pl) => n.toNat) (w7 + w9) [] v5 pw9 ⟨by omega, by simp; omega, fun i h => by simp at h, by assumption, rfl⟩ ⟨rfl, rfl, trivial⟩ Cv.p ?_
  rintro n ys u pp τ ⟨hn, hyl, hval, hpp, hd⟩
  refine WP.seq ?_
  refine WP.seq ?_
  refine WP.region ?_
  refine RG.pv rfl (PV.mvI (.inl rfl) rfl) ?_
  refine RG.pv rfl (PV.gtr rfl rfl rfl) ?_
  refine RG.nil ?_
  refine WP.cond rfl (fun h2 => ?_) (fun h2 => ?_)
  · have h2 := of_decide_eq_true h2
    refine WP.skip ?_
    refine WP.seq ?_
    refine WP.block ?_
    refine WP.region ?_
    refine RG.pv rfl (PV.move (v := u) rfl rfl) ?_
    refine RG.pv rfl (PV.move rfl rfl) ?_
    refine RG.callF (vs := [_]) rfl rfl En104 rfl (CallT.exB (b := b) (dRect_s hcode (by assumption) (fun w17 pw17 ew17 ow17 hw17 => ?_)))
    refine RG.ot rfl (OT.bslice (F := rectT) (els := [_]) rfl El28 rfl (by decide) rfl (by decide) ⟨rfl, (Cl.c rfl), trivial⟩ fun v18 => ?_)
    refine RG.ot rfl (OT.append (v := u) (u := v18) (F := rectT) rfl El28 rfl (by decide) rfl rfl Rs.o (OneL.c (fun _ => rfl)) rfl (by first | omega | (simp <;> omega)) fun v19 => ?_)
    refine RG.pv rfl (PV.asg (v := v19) rfl rfl) ?_
    refine RG.nil ?_
    refine WP.region ?_
    refine RG.pv rfl (PV.mvI (.inl rfl) rfl) ?_
    refine RG.pv rfl (PV.sub rfl rfl rfl (by omega)) ?_
    refine RG.pv rfl (PV.mvI (.inr rfl) rfl) ?_
    refine RG.nil ?_
    have hd2 : dRects bs (n - 1).toNat (ys ++ [w17]) pw17 = dRects bs (w7 + w9).toNat [] pw9 := by
      rw [← hd, show n.toNat = (n - 1).toNat + 1 by omega, dRects, ew17]
    refine ⟨rfl, n - 1, (ys ++ [w17]), v19, pw17, ⟨by omega, by simp; omega, fun i hi => ?_, by assumption, hd2⟩, ⟨rfl, rfl, trivial⟩, ⟨rfl, trivial⟩, Cv.p, by omega⟩
    by_cases c : i = ys.length
    · subst c; simpa [gd] using hw17
    · have := hval i (by simp at hi; omega)
      simpa [gd, List.getElem?_append_left (show i < ys.length by simp at hi; omega)] using this
  · have h2 := of_decide_eq_false h2
    rw [show n.toNat = 0 by omega, dRects] at hd
    have e : dReg bs p = (canon (bits ys), pp) := by simp only [dReg, ew7, ew9, ← hd]
    refine WP.exit ?_
    refine WP.seq ?_
    refine WP.region ?_
    refine RG.pv rfl (PV.move (v := u) rfl rfl) ?_
    refine RG.callF (vs := [u]) rfl rfl En89 rfl (l03Bits_s Rs.o hval (fun v21 => ?_))
    refine RG.callF (vs := [v21]) rfl rfl En88 rfl (l03Canon_s Rs.o (bits_length _) (fun v22 => ?_))
    refine RG.pv rfl (PV.asg (v := v22) rfl rfl) ?_
    refine RG.nil ?_
    refine WP.ret ?_
    exact ⟨_, _, ResV.one rfl rfl, Cv.p, k v22 (canon (bits ys)) pp e hpp (isReg_canon (bits_length _))⟩
def dLays (bs : List UInt8) : Nat → List (List Rect) → Pl → List (List Rect) × Pl
  | 0, l, p => (l, p)
  | n + 1, l, p => dLays bs n (l.set (nx bs p 8).1.toNat (dReg bs (nx bs p 8).2).1) (dReg bs (nx bs p 8).2).2
def dLayers (bs : List UInt8) (p : Pl) : List (List Rect) × Pl :=
  match nx bs p 3 with
  | (a, p1) => dLays bs (a + 1).toNat (List.replicate 8 []) p1
theorem dLayers_s {b : Nat} {cv : Value} {bs : List UInt8} {p : Pl} (hcode : SL G byteT cv bs) (hp : OkP p) (k : ∀ v ys p', dLayers bs p = (er ys, p') → OkP p' → ys.length = 8 → Regs ys → R v G (osl 28 slT v ys :: bagS 71 rectT ys :: srcP b cv p' :: L)) : CallT Tryz.prog 102 #[.pointer (some ⟨b, 0, none⟩)] G (srcP b cv p :: L) R := by
  refine CallT.enter (args := _) Tryz.func102 rfl rfl (by kernel_rfl) rfl ?_
  refine WP.seq ?_
  refine WP.region ?_
  refine RG.pv rfl (PV.asg rfl rfl) ?_
  refine RG.nil ?_
  refine WP.seq ?_
  refine WP.region ?_
  refine RG.ot rfl (OT.make (m := 8) (F := (slT (α := Rect))) (a0 := default) rfl El32 rfl (by decide) rfl rfl (by omega) (by omega) fun v5 => ?_)
  refine RG.pv rfl (PV.asg (v := v5) rfl rfl) ?_
  refine RG.nil ?_
  refine WP.seq ?_
  refine WP.seq ?_
  refine WP.region ?_
  refine RG.pv rfl (PV.move rfl rfl) ?_
  refine RG.callF (vs := [_, _]) rfl rfl En66 rfl (CallT.exB (b := b) (nextP_s hcode (by assumption) (by omega) (fun w7 pw7 ew7 ow7 hw7 => ?_)))
  refine RG.pv rfl (PV.add rfl rfl rfl (by omega)) ?_
  refine RG.pv rfl (PV.mvI (.inr rfl) rfl) ?_
  refine RG.nil ?_
  refine WP.block ?_
  refine WP.cv ((Cv.p (C := osl 28 slT v5 (List.replicate 8 (default : Sl Rect)) :: srcP b cv pw7 :: L)).trans (Cv.cons (Cv.nils (e := 71) (F := rectT) 8))) ?_
  refine WP.loop3 [0, 3] (fun (j : Int) (ys : List (Sl Rect)) (pp : Pl) => (0 ≤ j ∧ j ≤ 10) ∧ ys.length = 8 ∧ Regs ys ∧ OkP pp ∧ dLays bs j.toNat (er ys) pp = dLays bs (w7 + 1).toNat (List.replicate 8 []) pw7) (fun (j : Int) (ys : List (Sl Rect)) (pp : Pl) => [(4, vi j)]) (fun (j : Int) (ys : List (Sl Rect)) (pp : Pl) => osl 28 slT v5 ys :: bagS 71 rectT ys :: srcP b cv pp :: L) (fun (j : Int) (ys : List (Sl Rect)) (pp : Pl) => j.toNat) (w7 + 1) (List.replicate 8 (default : Sl Rect)) pw7 ⟨by omega, rfl, fun s hs => by rw [List.eq_of_mem_replicate hs]; exact isReg_nil, by assumption, rfl⟩ ⟨rfl, trivial⟩ Cv.p ?_
  rintro j ys pp τ ⟨hj, hyl, hyr, hpp, hd⟩
  refine WP.seq ?_
  refine WP.seq ?_
  refine WP.region ?_
  refine RG.pv rfl (PV.mvI (.inl rfl) rfl) ?_
  refine RG.pv rfl (PV.gtr rfl rfl rfl) ?_
  refine RG.nil ?_
  refine WP.cond rfl (fun h2 => ?_) (fun h2 => ?_)
  · have h2 := of_decide_eq_true h2
    refine WP.skip ?_
    refine WP.seq ?_
    refine WP.block ?_
    refine WP.region ?_
    refine RG.pv rfl (PV.move (v := v5) rfl rfl) ?_
    refine RG.pv rfl (PV.move rfl rfl) ?_
    refine RG.callF (vs := [_, _]) rfl rfl En66 rfl (CallT.exB (b := b) (nextP_s hcode (by assumption) (by omega) (fun w15 pw15 ew15 ow15 hw15 => ?_)))
    refine RG.pv rfl (PV.move rfl rfl) ?_
    refine RG.callF (vs := [_]) rfl rfl En161 rfl (CallT.exB (b := b) (dReg_s hcode (by assumption) (fun v17 xsv17 pv17 ev17 ov17 hregv17 => ?_)))
    refine RG.pv rfl (PV.idxS (j := w15.toNat) (v := v5) rfl Is32 rfl SlF.o rfl (by omega) (by omega)) ?_
    refine RG.ot rfl (OT.storeE (v := v17) (a := ⟨v17, xsv17⟩) (F := (slT (α := Rect))) rfl Sz28 rfl rfl rfl (Cl.s (v := v17) SlF.o) (OneC.sl SlF.o OneC.nil) (by omega) ?_)
    refine RG.nil ?_
    refine WP.region ?_
    refine RG.pv rfl (PV.mvI (.inl rfl) rfl) ?_
    refine RG.pv rfl (PV.sub rfl rfl rfl (by omega)) ?_
    refine RG.pv rfl (PV.mvI (.inr rfl) rfl) ?_
    refine RG.nil ?_
    have hd2 : dLays bs (j - 1).toNat (er (ys.set w15.toNat ⟨v17, xsv17⟩)) pv17 = dLays bs (w7 + 1).toNat (List.replicate 8 []) pw7 := by
      rw [← hd, show j.toNat = (j - 1).toNat + 1 by omega, dLays, ew15, ev17, er_set]
    exact ⟨rfl, j - 1, (ys.set w15.toNat ⟨v17, xsv17⟩), pv17, ⟨by omega, by simpa using hyl, hyr.set hregv17, by assumption, hd2⟩, ⟨rfl, trivial⟩, ⟨rfl, rfl, trivial⟩, ((Cv.p (C := osl 71 rectT v17 xsv17 :: bagS 71 rectT ys :: osl 28 slT v5 (ys.set w15.toNat ⟨v17, xsv17⟩) :: srcP b cv pv17 :: L)).trans ((Cv.bagSet w15.toNat (by omega)).trans Cv.p)), by omega⟩
  · have h2 := of_decide_eq_false h2
    rw [show j.toNat = 0 by omega, dLays] at hd
    have e : dLayers bs p = (er ys, pp) := by simp only [dLayers, ew7, ← hd]
    refine WP.exit ?_
    refine WP.seq ?_
    refine WP.region ?_
    refine RG.pv rfl (PV.move (v := v5) rfl rfl) ?_
    refine RG.pv rfl (PV.asg (v := v5) rfl rfl) ?_
    refine RG.nil ?_
    refine WP.ret ?_
    exact ⟨_, _, ResV.one rfl rfl, Cv.p, k v5 ys pp e hpp hyl hyr⟩
end Go.Proofs.YtpjajhjcbcfplaaGreat
