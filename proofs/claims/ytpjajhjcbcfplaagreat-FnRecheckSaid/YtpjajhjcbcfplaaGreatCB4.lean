/-
  Contracts of functions and plain facts that the last text of this folder uses, part 4.
-/
import Derived.Test.YtpjajhjcbcfplaaGreatCB3
namespace Go.Proofs.YtpjajhjcbcfplaaGreat
set_option linter.unusedVariables false
set_option linter.unusedSimpArgs false
open Go
set_option maxRecDepth 20000
set_option linter.unusedSimpArgs false
variable {G : Gh} {L : List Ch} {R : Value → Gh → List Ch → Prop}
def notB (S : List Bool) : List Bool := S.map (!·)
theorem notB_len (S : List Bool) : (notB S).length = S.length := by simp [notB]
theorem mapB_set {f : Nat → Bool} {E : List Bool} {i n : Nat} (hi : i < n) (hE : E = (List.range i).map f ++ List.replicate (n - i) false) : E.set i (f i) = (List.range (i + 1)).map f ++ List.replicate (n - (i + 1)) false := by
  rw [hE, List.set_append_right _ _ (by simp), List.range_succ, List.map_append, List.append_assoc]
  congr 1
  rw [show n - i = (n - (i + 1)) + 1 by omega, List.replicate_succ]
  simp
theorem mapB_all {f : Nat → Bool} {S : List Bool} {g : Bool → Bool} (h : ∀ j, j < S.length → f j = g (gd S j)) : (List.range S.length).map f ++ List.replicate (S.length - S.length) false = S.map g := by
  rw [Nat.sub_self, List.replicate_zero, List.append_nil]
  apply List.ext_getElem
  · simp
  · intro j h1 h2
    have h3 : j < S.length := by simpa using h1
    simp only [List.getElem_map, List.getElem_range, h j h3]
    rw [gd_eq h3]
theorem outside_s {v : Value} {S : List Bool} (h1 : Rs G L boolT v S) (hl : S.length = 6400) (k : ∀ v', R v' G (osl 4 boolT v' (notB S) :: L)) : CallT Tryz.prog 197 #[v] G L R := by
  refine CallT.enter (args := _) Tryz.func197 rfl rfl (by kernel_rfl) rfl ?_
  refine WP.seq ?_
  refine WP.region ?_
  refine RG.pv rfl (PV.asg rfl rfl) ?_
  refine RG.nil ?_
  refine WP.seq ?_
  refine WP.region ?_
  refine RG.pv rfl (PV.move (v := v) rfl rfl) ?_
  refine RG.pv rfl (PV.len (v := v) rfl Tryz.underlying111 rfl (SlF.r h1)) ?_
  refine RG.ot rfl (OT.make (F := boolT) (a0 := false) rfl El111 rfl (by decide) rfl rfl (by omega) (by omega) fun v7 => ?_)
  refine RG.pv rfl (PV.asg (v := v7) rfl rfl) ?_
  refine RG.nil ?_
  refine WP.seq ?_
  refine WP.seq ?_
  refine WP.region ?_
  refine RG.pv rfl (PV.mvI (.inr rfl) rfl) ?_
  refine RG.nil ?_
  refine WP.block ?_
  refine WP.loop2 [0, 3] (fun (i : Nat) (E : List Bool) => i ≤ S.length ∧ E = (List.range i).map (fun j => !gd S j) ++ List.replicate (S.length - i) false) (fun (i : Nat) (E : List Bool) => [(4, vi i)]) (fun (i : Nat) (E : List Bool) => osl 4 boolT v7 E :: L) (fun (i : Nat) (E : List Bool) => S.length - i) 0 (List.replicate S.length false) ⟨by omega, by simp⟩ ⟨rfl, trivial⟩ Cv.p ?_
  rintro i E τ ⟨hi, hE⟩
  refine WP.seq ?_
  refine WP.seq ?_
  refine WP.region ?_
  refine RG.pv rfl (PV.mvI (.inl rfl) rfl) ?_
  refine RG.pv rfl (PV.move (v := v) rfl rfl) ?_
  refine RG.pv rfl (PV.len (v := v) rfl Tryz.underlying111 rfl (SlF.r h1)) ?_
  refine RG.pv rfl (PV.lss rfl rfl rfl) ?_
  refine RG.nil ?_
  have hEl : E.length = S.length := by rw [hE]; simp; omega
  refine WP.cond rfl (fun h2 => ?_) (fun h2 => ?_)
  · have h2 := of_decide_eq_true h2
    have hn := mapB_set (f := fun j => !gd S j) (n := S.length) (i := i) (by omega) hE
    refine WP.skip ?_
    refine WP.seq ?_
    refine WP.block ?_
    refine WP.region ?_
    refine RG.pv rfl (PV.move (v := v7) rfl rfl) ?_
    refine RG.pv rfl (PV.mvI (.inl rfl) rfl) ?_
    refine RG.pv rfl (PV.move (v := v) rfl rfl) ?_
    refine RG.pv rfl (PV.mvI (.inl rfl) rfl) ?_
    refine RG.pv rfl (PV.idxS (v := v) rfl Is111 rfl (SlF.r h1) rfl rfl (by omega)) ?_
    refine RG.pv rfl (PV.loadE1 rfl Sc4 rfl rfl (El.r h1 (getG (by omega))) rfl) ?_
    refine RG.pv rfl (PV.not rfl rfl) ?_
    refine RG.pv rfl (PV.idxS (v := v7) rfl Is111 rfl SlF.o rfl rfl (by omega)) ?_
    refine RG.ot rfl (OT.storeE (F := boolT) rfl Sz4 rfl rfl rfl (Cl.c rfl) (OneC.c rfl) (by omega) ?_)
    refine RG.nil ?_
    refine WP.region ?_
    refine RG.pv rfl (PV.mvI (.inl rfl) rfl) ?_
    refine RG.pv rfl (PV.add rfl rfl rfl (by omega)) ?_
    refine RG.pv rfl (PV.mvI (.inr rfl) rfl) ?_
    refine RG.nil ?_
    exact ⟨rfl, i + 1, _, ⟨by omega, hn⟩, ⟨rfl, trivial⟩, ⟨rfl, rfl, trivial⟩, Cv.p, by omega⟩
  · have h2 := of_decide_eq_false h2
    obtain rfl : i = S.length := by omega
    rw [mapB_all (g := (!·)) (fun j _ => rfl)] at hE
    have hE' : E = notB S := hE
    rw [hE']
    refine WP.exit ?_
    refine WP.seq ?_
    refine WP.region ?_
    refine RG.pv rfl (PV.move (v := v7) rfl rfl) ?_
    refine RG.pv rfl (PV.asg (v := v7) rfl rfl) ?_
    refine RG.nil ?_
    refine WP.ret ?_
    exact ⟨_, _, ResV.one rfl rfl, Cv.p, k v7⟩
def endP (r : Rect) (ver : Bool) : Pt := bif ver then ⟨r.x0, r.y0 - 1⟩ else ⟨r.x0 - 1, r.y0⟩
def endQ (r : Rect) (ver : Bool) : Pt := bif ver then ⟨r.x0, r.y1⟩ else ⟨r.x1, r.y0⟩
theorem ends_s {r : Rect} {ver : Bool} (hv : validRect r = true) (k : R (.tuple #[vpt (endP r ver), vpt (endQ r ver)]) G L) : CallT Tryz.prog 198 #[vrect r, .bool ver] G L R := by
  have h := validR_iff.1 hv
  refine CallT.enter (args := _) Tryz.func198 rfl rfl (by kernel_rfl) rfl ?_
  refine WP.seq ?_
  refine WP.region ?_
  refine RG.ot rfl (OT.box (cs := rectT.enc r) rfl rfl rfl fun b2 => ?_)
  refine RG.ot rfl (OT.alloc rfl Zr168 fun b4 => ?_)
  refine RG.ot rfl (OT.alloc rfl Zr168 fun b5 => ?_)
  refine RG.nil ?_
  refine WP.seq ?_
  refine WP.seq ?_
  refine WP.region ?_
  refine RG.pv rfl (PV.mvB (.inl rfl) rfl) ?_
  refine RG.nil ?_
  refine WP.cond rfl (fun h2 => ?_) (fun h2 => ?_)
  · subst h2
    refine WP.seq ?_
    refine WP.regionHD [.b b4, .b b5] (.q 0 (.q 1 (.q 2 (.q 3 (.q 4 (.q 5 (.q 6 (.q 7 (.q 8 (.q 9 (.q 10 (.l 11 (.l 12 Sch.nil))))))))))))) (by kernel_rfl) (by kernel_rfl) (by kernel_rfl) rfl ?_
    refine RH.pv rfl (fun _ _ _ _ h => h) (Gh.le_refl _) PickC.pick rfl (PV.field rfl Fo71_0 rfl) ?_
    refine RH.pv rfl (fun _ _ _ _ h => h) (Gh.le_refl _) PickC.pick rfl (PV.load1 rfl Sc2 rfl (Rd.blk rfl)) ?_
    refine RH.pv rfl (fun _ _ _ _ h => h) (Gh.le_refl _) PickC.pick rfl (PV.field rfl Fo71_1 rfl) ?_
    refine RH.pv rfl (fun _ _ _ _ h => h) (Gh.le_refl _) PickC.pick rfl (PV.load1 rfl Sc2 rfl (Rd.blk rfl)) ?_
    refine RH.pv rfl (fun _ _ _ _ h => h) (Gh.le_refl _) PickC.pick rfl (PV.sub rfl rfl rfl (by omega)) ?_
    refine RH.pv rfl (fun _ _ _ _ h => h) (Gh.le_refl _) PickC.pick rfl (PV.build (vs := [(0, [vi _]), (1, [vi _])]) (out := [_, _]) rfl Zr168 Pl168 ⟨rfl, (Cl.c rfl), ⟨rfl, (Cl.c rfl), trivial⟩⟩ rfl) ?_
    refine RH.pv rfl (fun _ _ _ _ h => h) (Gh.le_refl _) PickC.pick rfl (PV.field rfl Fo71_0 rfl) ?_
    refine RH.pv rfl (fun _ _ _ _ h => h) (Gh.le_refl _) PickC.pick rfl (PV.load1 rfl Sc2 rfl (Rd.blk rfl)) ?_
    refine RH.pv rfl (fun _ _ _ _ h => h) (Gh.le_refl _) PickC.pick rfl (PV.field rfl Fo71_3 rfl) ?_
    refine RH.pv rfl (fun _ _ _ _ h => h) (Gh.le_refl _) PickC.pick rfl (PV.load1 rfl Sc2 rfl (Rd.blk rfl)) ?_
    refine RH.pv rfl (fun _ _ _ _ h => h) (Gh.le_refl _) PickC.pick rfl (PV.build (vs := [(0, [vi _]), (1, [vi _])]) (out := [_, _]) rfl Zr168 Pl168 ⟨rfl, (Cl.c rfl), ⟨rfl, (Cl.c rfl), trivial⟩⟩ rfl) ?_
    refine RH.ot rfl rfl (OT.storeW (vs := [vi _, vi _]) rfl Sz168 rfl rfl (Cl.c rfl) rfl rfl (OneC.c rfl) ⟨Gh.le_refl _, PickC.pick, ?_⟩)
    refine RH.ot rfl rfl (OT.storeW (vs := [vi _, vi _]) rfl Sz168 rfl rfl (Cl.c rfl) rfl rfl (OneC.c rfl) ⟨Gh.le_refl _, PickC.pick, ?_⟩)
    refine RH.nil ?_
    refine WP.ret ?_
    exact ⟨_, _, ResV.two rfl (RV1.cell rfl Ag168 rfl) (RV1.cell rfl Ag168 rfl), Cv.p, k⟩
  · subst h2
    refine WP.skip ?_
    refine WP.seq ?_
    refine WP.regionHD [.b b4, .b b5] (.q 0 (.q 1 (.q 2 (.q 3 (.q 4 (.q 5 (.q 6 (.q 7 (.q 8 (.q 9 (.q 10 (.l 11 (.l 12 Sch.nil))))))))))))) (by kernel_rfl) (by kernel_rfl) (by kernel_rfl) rfl ?_
    refine RH.pv rfl (fun _ _ _ _ h => h) (Gh.le_refl _) PickC.pick rfl (PV.field rfl Fo71_0 rfl) ?_
    refine RH.pv rfl (fun _ _ _ _ h => h) (Gh.le_refl _) PickC.pick rfl (PV.load1 rfl Sc2 rfl (Rd.blk rfl)) ?_
    refine RH.pv rfl (fun _ _ _ _ h => h) (Gh.le_refl _) PickC.pick rfl (PV.sub rfl rfl rfl (by omega)) ?_
    refine RH.pv rfl (fun _ _ _ _ h => h) (Gh.le_refl _) PickC.pick rfl (PV.field rfl Fo71_1 rfl) ?_
    refine RH.pv rfl (fun _ _ _ _ h => h) (Gh.le_refl _) PickC.pick rfl (PV.load1 rfl Sc2 rfl (Rd.blk rfl)) ?_
    refine RH.pv rfl (fun _ _ _ _ h => h) (Gh.le_refl _) PickC.pick rfl (PV.build (vs := [(0, [vi _]), (1, [vi _])]) (out := [_, _]) rfl Zr168 Pl168 ⟨rfl, (Cl.c rfl), ⟨rfl, (Cl.c rfl), trivial⟩⟩ rfl) ?_
    refine RH.pv rfl (fun _ _ _ _ h => h) (Gh.le_refl _) PickC.pick rfl (PV.field rfl Fo71_2 rfl) ?_
    refine RH.pv rfl (fun _ _ _ _ h => h) (Gh.le_refl _) PickC.pick rfl (PV.load1 rfl Sc2 rfl (Rd.blk rfl)) ?_
    refine RH.pv rfl (fun _ _ _ _ h => h) (Gh.le_refl _) PickC.pick rfl (PV.field rfl Fo71_1 rfl) ?_
    refine RH.pv rfl (fun _ _ _ _ h => h) (Gh.le_refl _) PickC.pick rfl (PV.load1 rfl Sc2 rfl (Rd.blk rfl)) ?_
    refine RH.pv rfl (fun _ _ _ _ h => h) (Gh.le_refl _) PickC.pick rfl (PV.build (vs := [(0, [vi _]), (1, [vi _])]) (out := [_, _]) rfl Zr168 Pl168 ⟨rfl, (Cl.c rfl), ⟨rfl, (Cl.c rfl), trivial⟩⟩ rfl) ?_
    refine RH.ot rfl rfl (OT.storeW (vs := [vi _, vi _]) rfl Sz168 rfl rfl (Cl.c rfl) rfl rfl (OneC.c rfl) ⟨Gh.le_refl _, PickC.pick, ?_⟩)
    refine RH.ot rfl rfl (OT.storeW (vs := [vi _, vi _]) rfl Sz168 rfl rfl (Cl.c rfl) rfl rfl (OneC.c rfl) ⟨Gh.le_refl _, PickC.pick, ?_⟩)
    refine RH.nil ?_
    refine WP.ret ?_
    exact ⟨_, _, ResV.two rfl (RV1.cell rfl Ag168 rfl) (RV1.cell rfl Ag168 rfl), Cv.p, k⟩
def orZ (A B : List Bool) : List Bool := (List.range A.length).map fun j => gd A j || gd B j
theorem orZ_len (A B : List Bool) : (orZ A B).length = A.length := by simp [orZ]
def gapE (A B : List Bool) (ver : Bool) (r : Rect) : Bool := (celB A (endP r ver).x (endP r ver).y && celB B (endQ r ver).x (endQ r ver).y) || (celB B (endP r ver).x (endP r ver).y && celB A (endQ r ver).x (endQ r ver).y)
theorem filt_succ {α : Type} [Inhabited α] (p : α → Bool) {xs : List α} {i : Nat} (h : i < xs.length) : (xs.take (i + 1)).filter p = (xs.take i).filter p ++ (if p (gd xs i) = true then [gd xs i] else []) := by
  rw [List.take_add_one, getG h, List.filter_append]; congr 1; cases h2 : p (gd xs i) <;> simp [h2]
theorem betw_s {u v : Value} {A B : List Bool} {ver : Bool} (h1 : Rs G L boolT u A) (h2 : Rs G L boolT v B) (hA : A.length = 6400) (hB : B.length = 6400) (k : ∀ v' out, RunsOf (notB (orZ A B)) ver out → R v' G (osl 71 rectT v' (out.filter (gapE A B ver)) :: L)) : CallT Tryz.prog 168 #[u, v, .bool ver] G L R := by
  refine CallT.enter (args := _) Tryz.func168 rfl rfl (by kernel_rfl) rfl ?_
  refine WP.seq ?_
  refine WP.region ?_
  refine RG.pv rfl (PV.asg rfl rfl) ?_
  refine RG.nil ?_
  refine WP.seq ?_
  refine WP.region ?_
  refine RG.pv rfl (PV.move (v := u) rfl rfl) ?_
  refine RG.pv rfl (PV.len (v := u) rfl Tryz.underlying111 rfl (SlF.r h1)) ?_
  refine RG.ot rfl (OT.make (F := boolT) (a0 := false) rfl El111 rfl (by decide) rfl rfl (by omega) (by omega) fun v16 => ?_)
  refine RG.pv rfl (PV.asg (v := v16) rfl rfl) ?_
  refine RG.nil ?_
  refine WP.seq ?_
  refine WP.seq ?_
  refine WP.region ?_
  refine RG.pv rfl (PV.mvI (.inr rfl) rfl) ?_
  refine RG.nil ?_
  refine WP.block ?_
  refine WP.loop2 [0, 1, 2, 7] (fun (i : Nat) (E : List Bool) => i ≤ A.length ∧ E = (List.range i).map (fun j => gd A j || gd B j) ++ List.replicate (A.length - i) false) (fun (i : Nat) (E : List Bool) => [(8, vi i)]) (fun (i : Nat) (E : List Bool) => osl 4 boolT v16 E :: L) (fun (i : Nat) (E : List Bool) => A.length - i) 0 (List.replicate A.length false) ⟨by omega, by simp⟩ ⟨rfl, trivial⟩ Cv.p ?_
  rintro i E τ ⟨hi, hE⟩
  refine WP.seq ?_
  refine WP.seq ?_
  refine WP.region ?_
  refine RG.pv rfl (PV.mvI (.inl rfl) rfl) ?_
  refine RG.pv rfl (PV.move (v := u) rfl rfl) ?_
  refine RG.pv rfl (PV.len (v := u) rfl Tryz.underlying111 rfl (SlF.r h1)) ?_
  refine RG.pv rfl (PV.lss rfl rfl rfl) ?_
  refine RG.nil ?_
  have hEl : E.length = A.length := by rw [hE]; simp; omega
  refine WP.cond rfl (fun h3 => ?_) (fun h3 => ?_)
  · have h3 := of_decide_eq_true h3
    have hn := mapB_set (f := fun j => gd A j || gd B j) (n := A.length) (i := i) (by omega) hE
    refine WP.skip ?_
    refine WP.seq ?_
    refine WP.block ?_
    refine WP.region ?_
    refine RG.pv rfl (PV.move (v := v16) rfl rfl) ?_
    refine RG.pv rfl (PV.mvI (.inl rfl) rfl) ?_
    refine RG.pv rfl (PV.move (v := u) rfl rfl) ?_
    refine RG.pv rfl (PV.mvI (.inl rfl) rfl) ?_
    refine RG.pv rfl (PV.idxS (v := u) rfl Is111 rfl (SlF.r h1) rfl rfl (by omega)) ?_
    refine RG.pv rfl (PV.loadE1 rfl Sc4 rfl rfl (El.r h1 (getG (by omega))) rfl) ?_
    refine RG.pv rfl (PV.mvB (.inl rfl) rfl) ?_
    refine RG.gs rfl rfl rfl (fun hp => (PV.move (v := v) rfl rfl)) ?_
    refine RG.gs rfl rfl rfl (fun hp => (PV.mvI (.inl rfl) rfl)) ?_
    refine RG.gs rfl rfl rfl (fun hp => (PV.idxS (v := v) rfl Is111 (gs_t hp) (SlF.r h2) (gs_t hp) rfl (by first | omega | (simp at hp; omega)))) ?_
    refine RG.gs rfl rfl rfl (fun hp => (PV.loadE1 rfl Sc4 (gs_t hp) rfl (El.r h2 (getG (by first | omega | (simp at hp; omega)))) rfl)) ?_
    refine RG.pv rfl (PV.pickO rfl rfl rfl (fun hq => gs_t (geqF hq))) ?_
    refine RG.pv rfl (PV.idxS (v := v16) rfl Is111 rfl SlF.o rfl rfl (by omega)) ?_
    refine RG.ot rfl (OT.storeE (F := boolT) rfl Sz4 rfl rfl rfl (Cl.c rfl) (OneC.c rfl) (by omega) ?_)
    refine RG.nil ?_
    refine WP.region ?_
    refine RG.pv rfl (PV.mvI (.inl rfl) rfl) ?_
    refine RG.pv rfl (PV.add rfl rfl rfl (by omega)) ?_
    refine RG.pv rfl (PV.mvI (.inr rfl) rfl) ?_
    refine RG.nil ?_
    exact ⟨rfl, i + 1, _, ⟨by omega, hn⟩, ⟨rfl, trivial⟩, ⟨rfl, rfl, rfl, rfl, trivial⟩, Cv.p, by omega⟩
  · have h3 := of_decide_eq_false h3
    obtain rfl : i = A.length := by omega
    have hE' : E = orZ A B := by rw [hE, Nat.sub_self, List.replicate_zero, List.append_nil]; rfl
    rw [hE']
    refine WP.exit ?_
    refine WP.seq ?_
    refine WP.region ?_
    refine RG.pv rfl (PV.move (v := v16) rfl rfl) ?_
    refine RG.callF (vs := [v16]) rfl rfl En197 rfl (outside_s Rs.o (by rw [orZ_len]; exact hA) (fun v37 => ?_))
    refine RG.pv rfl (PV.mvB (.inl rfl) rfl) ?_
    refine RG.callF (vs := [v37, _]) rfl rfl En167 rfl (runs_s Rs.o (by rw [notB_len, orZ_len]; exact hA) (fun v39 outv39 houtv39 => have hlnv39 := houtv39.len; ?_))
    refine RG.pv rfl (PV.asg (v := v39) rfl rfl) ?_
    refine RG.nil ?_
    refine WP.seq ?_
    refine WP.region ?_
    refine RG.ot rfl (OT.bslice (F := rectT) (els := []) rfl El28 rfl (by decide) rfl (by decide) trivial fun v40 => ?_)
    refine RG.pv rfl (PV.asg (v := v40) rfl rfl) ?_
    refine RG.nil ?_
    refine WP.seq ?_
    refine WP.seq ?_
    refine WP.region ?_
    refine RG.pv rfl (PV.mvI (.inr rfl) rfl) ?_
    refine RG.nil ?_
    refine WP.block ?_
    have hvr : ∀ r ∈ outv39, validRect r = true := fun r hr => by obtain ⟨l, k, lo, hi, g1, rfl⟩ := houtv39.run r hr; exact lineR_valid g1
    refine WP.loop3 [0, 1, 2, 9] (fun (i : Nat) (out : List Rect) (q : Value) => i ≤ outv39.length ∧ out = (outv39.take i).filter (gapE A B ver)) (fun (i : Nat) (out : List Rect) (q : Value) => [(11, vi i), (10, q)]) (fun (i : Nat) (out : List Rect) (q : Value) => osl 71 rectT q out :: osl 71 rectT v39 outv39 :: L) (fun (i : Nat) (out : List Rect) (q : Value) => outv39.length - i) 0 [] v40 ⟨by omega, rfl⟩ ⟨rfl, rfl, trivial⟩ Cv.p ?_
    rintro i out q τ1 ⟨hi, hout⟩
    refine WP.seq ?_
    refine WP.seq ?_
    refine WP.region ?_
    refine RG.pv rfl (PV.mvI (.inl rfl) rfl) ?_
    refine RG.pv rfl (PV.move (v := v39) rfl rfl) ?_
    refine RG.pv rfl (PV.len (v := v39) rfl Tryz.underlying28 rfl SlF.o) ?_
    refine RG.pv rfl (PV.lss rfl rfl rfl) ?_
    refine RG.nil ?_
    have hol : out.length ≤ 6400 := by have := List.length_filter_le (gapE A B ver) (outv39.take i); rw [← hout, List.length_take] at this; omega
    refine WP.cond rfl (fun h4 => ?_) (fun h4 => ?_)
    · have h4 := of_decide_eq_true h4
      have h40 : i < outv39.length := by omega
      have hf := filt_succ (gapE A B ver) h40
      refine WP.skip ?_
      refine WP.seq ?_
      refine WP.block ?_
      refine WP.seq ?_
      refine WP.region ?_
      refine RG.pv rfl (PV.move (v := v39) rfl rfl) ?_
      refine RG.pv rfl (PV.mvI (.inl rfl) rfl) ?_
      refine RG.pv rfl (PV.idxS (v := v39) rfl Is28 rfl SlF.o rfl rfl (by omega)) ?_
      refine RG.pv rfl (PV.loadE rfl Ag71 rfl rfl (El.o (getG (by omega)))) ?_
      refine RG.pv rfl (PV.mvB (.inl rfl) rfl) ?_
      refine RG.callF (vs := [_, _]) rfl rfl En198 rfl (ends_s (hvr _ (gd_mem (by omega))) ?_)
      refine RG.pv rfl (PV.move (v := .tuple _) rfl rfl) ?_
      refine RG.pv rfl (PV.ext rfl rfl rfl) ?_
      refine RG.pv rfl (PV.ext rfl rfl rfl) ?_
      refine RG.ot rfl (OT.alloc rfl Zr168 fun b12 => ?_)
      refine RG.ot rfl (OT.alloc rfl Zr168 fun b13 => ?_)
      refine RG.ot rfl (OT.storeW (vs := [vi _, vi _]) rfl Sz168 rfl rfl (Cl.c rfl) rfl rfl (OneC.c rfl) ?_)
      refine RG.ot rfl (OT.storeW (vs := [vi _, vi _]) rfl Sz168 rfl rfl (Cl.c rfl) rfl rfl (OneC.c rfl) ?_)
      refine RG.nil ?_
      refine WP.seq ?_
      refine WP.region ?_
      refine RG.pv rfl (PV.move (v := u) rfl rfl) ?_
      refine RG.pv rfl (PV.field rfl Fo168_0 rfl) ?_
      refine RG.pv rfl (PV.load1 rfl Sc2 rfl (Rd.blk rfl)) ?_
      refine RG.pv rfl (PV.field rfl Fo168_1 rfl) ?_
      refine RG.pv rfl (PV.load1 rfl Sc2 rfl (Rd.blk rfl)) ?_
      refine RG.callF (vs := [u, _, _]) rfl rfl En195 rfl (l17Cel_s (Rs.up h1) hA ?_)
      refine RG.pv rfl (PV.mvB (.inl rfl) rfl) ?_
      refine RG.gs rfl rfl rfl (fun hp => (PV.move (v := v) rfl rfl)) ?_
      refine RG.gs rfl rfl rfl (fun hp => (PV.field rfl Fo168_0 rfl)) ?_
      refine RG.gs rfl rfl rfl (fun hp => (PV.load1 rfl Sc2 (gs_t hp) (Rd.blk rfl))) ?_
      refine RG.gs rfl rfl rfl (fun hp => (PV.field rfl Fo168_1 rfl)) ?_
      refine RG.gs rfl rfl rfl (fun hp => (PV.load1 rfl Sc2 (gs_t hp) (Rd.blk rfl))) ?_
      refine RG.gsC rfl rfl rfl rfl En195 (fun hp => ⟨_, (acons (gs_t hp) (acons (gs_t hp) (acons (gs_t hp) anil))), l17Cel_s (Rs.up h2) hB ⟨rfl, rfl, rfl⟩⟩) ?_
      refine RG.pv rfl (PV.pickA rfl rfl (fun hq => gs_t (geqT hq)) rfl) ?_
      refine RG.pv rfl (PV.mvB (.inl rfl) rfl) ?_
      refine RG.gs rfl rfl rfl (fun hp => (PV.move (v := v) rfl rfl)) ?_
      refine RG.gs rfl rfl rfl (fun hp => (PV.field rfl Fo168_0 rfl)) ?_
      refine RG.gs rfl rfl rfl (fun hp => (PV.load1 rfl Sc2 (gs_t hp) (Rd.blk rfl))) ?_
      refine RG.gs rfl rfl rfl (fun hp => (PV.field rfl Fo168_1 rfl)) ?_
      refine RG.gs rfl rfl rfl (fun hp => (PV.load1 rfl Sc2 (gs_t hp) (Rd.blk rfl))) ?_
      refine RG.gsC rfl rfl rfl rfl En195 (fun hp => ⟨_, (acons (gs_t hp) (acons (gs_t hp) (acons (gs_t hp) anil))), l17Cel_s (Rs.up h2) hB ⟨rfl, rfl, rfl⟩⟩) ?_
      refine RG.gs rfl rfl rfl (fun hp => (PV.mvB (.inl rfl) (gs_t hp))) ?_
      refine RG.gs2 rfl rfl rfl (fun hp => (PV.move (v := u) rfl rfl)) ?_
      refine RG.gs2 rfl rfl rfl (fun hp => (PV.field rfl Fo168_0 rfl)) ?_
      refine RG.gs2 rfl rfl rfl (fun hp => (PV.load1 rfl Sc2 (gs_t hp) (Rd.blk rfl))) ?_
      refine RG.gs2 rfl rfl rfl (fun hp => (PV.field rfl Fo168_1 rfl)) ?_
      refine RG.gs2 rfl rfl rfl (fun hp => (PV.load1 rfl Sc2 (gs_t hp) (Rd.blk rfl))) ?_
      refine RG.gsC2 rfl rfl rfl rfl En195 (fun hp => ⟨_, (acons (gs_t hp) (acons (gs_t hp) (acons (gs_t hp) anil))), l17Cel_s (Rs.up h1) hA ⟨rfl, rfl, rfl⟩⟩) ?_
      refine RG.gs rfl rfl rfl (fun hp => (PV.pickA rfl (gs_t hp) (fun hq => gs_t (gandT hp hq)) rfl)) ?_
      refine RG.pv rfl (PV.pickO rfl rfl rfl (fun hq => gs_t (geqF hq))) ?_
      refine RG.nil ?_
      refine WP.cond rfl (fun h5 => ?_) (fun h5 => ?_)
      · have h6 : gapE A B ver (gd outv39 i) = true := h5
        rw [if_pos h6, ← hout] at hf
        refine WP.region ?_
        refine RG.pv rfl (PV.move (v := q) rfl rfl) ?_
        refine RG.pv rfl (PV.move (v := v39) rfl rfl) ?_
        refine RG.pv rfl (PV.mvI (.inl rfl) rfl) ?_
        refine RG.pv rfl (PV.idxS (v := v39) rfl Is28 rfl SlF.o rfl rfl (by omega)) ?_
        refine RG.pv rfl (PV.loadE rfl Ag71 rfl rfl (El.o (getG (by omega)))) ?_
        refine RG.ot rfl (OT.bslice (F := rectT) (els := [_]) rfl El28 rfl (by decide) rfl (by decide) ⟨rfl, (Cl.c rfl), trivial⟩ fun v91 => ?_)
        refine RG.ot rfl (OT.append (v := q) (u := v91) (F := rectT) rfl El28 rfl (by decide) rfl rfl Rs.o (OneL.c (fun _ => rfl)) rfl (by first | omega | (simp <;> omega)) fun v92 => ?_)
        refine RG.pv rfl (PV.asg (v := v92) rfl rfl) ?_
        refine RG.nil ?_
        refine WP.region ?_
        refine RG.pv rfl (PV.mvI (.inl rfl) rfl) ?_
        refine RG.pv rfl (PV.add rfl rfl rfl (by omega)) ?_
        refine RG.pv rfl (PV.mvI (.inr rfl) rfl) ?_
        refine RG.nil ?_
        exact ⟨rfl, i + 1, _, v92, ⟨by omega, hf.symm⟩, ⟨rfl, rfl, trivial⟩, ⟨rfl, rfl, rfl, rfl, trivial⟩, Cv.p, by omega⟩
      · have h6 : ¬ gapE A B ver (gd outv39 i) = true := by rw [show gapE A B ver (gd outv39 i) = false from h5]; decide
        rw [if_neg h6, ← hout, List.append_nil] at hf
        refine WP.skip ?_
        refine WP.region ?_
        refine RG.pv rfl (PV.mvI (.inl rfl) rfl) ?_
        refine RG.pv rfl (PV.add rfl rfl rfl (by omega)) ?_
        refine RG.pv rfl (PV.mvI (.inr rfl) rfl) ?_
        refine RG.nil ?_
        exact ⟨rfl, i + 1, _, q, ⟨by omega, hf.symm⟩, ⟨rfl, rfl, trivial⟩, ⟨rfl, rfl, rfl, rfl, trivial⟩, Cv.p, by omega⟩
    · have h4 := of_decide_eq_false h4
      rw [List.take_of_length_le (by omega)] at hout
      rw [hout]
      refine WP.exit ?_
      refine WP.seq ?_
      refine WP.region ?_
      refine RG.pv rfl (PV.move (v := q) rfl rfl) ?_
      refine RG.pv rfl (PV.asg (v := q) rfl rfl) ?_
      refine RG.nil ?_
      refine WP.ret ?_
      exact ⟨_, _, ResV.one rfl rfl, Cv.p, k q outv39 houtv39⟩
/-- the gaps of two sets, in any order -/
structure GapsA (A B : List Bool) (out : List Rect) : Prop where
  len : out.length ≤ 12800
  run : ∀ r ∈ out, ∃ ver l k lo hi, isRun (notB (orZ A B)) ver l k lo hi ∧ gapE A B ver (lineR ver l lo hi) = true ∧ r = lineR ver l lo hi
  all : ∀ ver l k lo hi, isRun (notB (orZ A B)) ver l k lo hi → gapE A B ver (lineR ver l lo hi) = true → lineR ver l lo hi ∈ out
theorem GapsA.of {A B : List Bool} {a b : List Rect} (ha : RunsOf (notB (orZ A B)) false a) (hb : RunsOf (notB (orZ A B)) true b) : GapsA A B (a.filter (gapE A B false) ++ b.filter (gapE A B true)) := ⟨by
  have := ha.len; have := hb.len
  have := List.length_filter_le (gapE A B false) a; have := List.length_filter_le (gapE A B true) b
  rw [List.length_append]; omega, fun r hr => by
  rcases List.mem_append.1 hr with h | h
  · obtain ⟨h1, h2⟩ := List.mem_filter.1 h
    obtain ⟨l, k, lo, hi, g1, rfl⟩ := ha.run r h1; exact ⟨false, l, k, lo, hi, g1, h2, rfl⟩
  · obtain ⟨h1, h2⟩ := List.mem_filter.1 h
    obtain ⟨l, k, lo, hi, g1, rfl⟩ := hb.run r h1; exact ⟨true, l, k, lo, hi, g1, h2, rfl⟩, fun ver l k lo hi h1 h2 => by
  have hc := h1.all k h1.lk.1 h1.lk.2
  cases ver with
  | false =>
    obtain ⟨lo', hi', h3, h4⟩ := ha.all l k hc
    obtain ⟨rfl, rfl⟩ := h1.uniq h3
    exact List.mem_append_left _ (List.mem_filter.2 ⟨h4, h2⟩)
  | true =>
    obtain ⟨lo', hi', h3, h4⟩ := hb.all l k hc
    obtain ⟨rfl, rfl⟩ := h1.uniq h3
    exact List.mem_append_right _ (List.mem_filter.2 ⟨h4, h2⟩)⟩
theorem gapsAll_s {u v : Value} {A B : List Bool} (h1 : Rs G L boolT u A) (h2 : Rs G L boolT v B) (hA : A.length = 6400) (hB : B.length = 6400) (k : ∀ v' out, GapsA A B out → R v' G (osl 71 rectT v' out :: L)) : CallT Tryz.prog 113 #[u, v] G L R := by
  refine CallT.enter (args := _) Tryz.func113 rfl rfl (by kernel_rfl) rfl ?_
  refine WP.seq ?_
  refine WP.region ?_
  refine RG.pv rfl (PV.asg rfl rfl) ?_
  refine RG.nil ?_
  refine WP.seq ?_
  refine WP.region ?_
  refine RG.pv rfl (PV.move (v := u) rfl rfl) ?_
  refine RG.pv rfl (PV.move (v := v) rfl rfl) ?_
  refine RG.callF (vs := [u, v, _]) rfl rfl En168 rfl (betw_s (Rs.up h1) (Rs.up h2) hA hB (fun v7 outv7 houtv7 => have hlnv7 := houtv7.len; have hfav7 := Nat.le_trans (List.length_filter_le (gapE A B false) outv7) hlnv7; have hfbv7 := Nat.le_trans (List.length_filter_le (gapE A B true) outv7) hlnv7; ?_))
  refine RG.pv rfl (PV.move (v := u) rfl rfl) ?_
  refine RG.pv rfl (PV.move (v := v) rfl rfl) ?_
  refine RG.callF (vs := [u, v, _]) rfl rfl En168 rfl (betw_s (Rs.up h1) (Rs.up h2) hA hB (fun v10 outv10 houtv10 => have hlnv10 := houtv10.len; have hfav10 := Nat.le_trans (List.length_filter_le (gapE A B false) outv10) hlnv10; have hfbv10 := Nat.le_trans (List.length_filter_le (gapE A B true) outv10) hlnv10; ?_))
  refine RG.ot rfl (OT.append (v := v7) (u := v10) (F := rectT) rfl El28 rfl (by decide) rfl rfl Rs.o (OneL.c (fun _ => rfl)) rfl (by first | omega | (simp <;> omega)) fun v11 => ?_)
  refine RG.pv rfl (PV.asg (v := v11) rfl rfl) ?_
  refine RG.nil ?_
  refine WP.ret ?_
  exact ⟨_, _, ResV.one rfl rfl, Cv.p, k v11 _ (GapsA.of houtv7 houtv10)⟩
/-- the cell is in a gap shorter than w -/
def Nigh (A B : List Bool) (w : Int) (y x : Nat) : Prop := ∃ ver lo hi, isRun (notB (orZ A B)) ver (lnI ver y x) (plI ver y x) lo hi ∧ gapE A B ver (lineR ver (lnI ver y x) lo hi) = true ∧ hi - lo < w
theorem near_iff {A B : List Bool} {out : List Rect} (h : GapsA A B out) {w : Int} {y x : Nat} : markC out w y x = true ↔ Nigh A B w y x := by
  simp only [markC, List.any_eq_true, Bool.and_eq_true, decide_eq_true_eq]
  constructor
  · rintro ⟨r, hr, h1, h2⟩
    obtain ⟨ver, l, k, lo, hi, h3, h5, rfl⟩ := h.run r hr
    obtain ⟨rfl, h4⟩ := inR_line.1 h2
    rw [lenR_line] at h1
    exact ⟨ver, lo, hi, h3.at h4, h5, h1⟩
  · rintro ⟨ver, lo, hi, h1, h5, h2⟩
    exact ⟨_, h.all ver _ _ _ _ h1 h5, by rw [lenR_line]; exact h2, inR_line.2 ⟨rfl, h1.lk⟩⟩
noncomputable def spaceL (xs : List Rect) (w : Int) : List Rect := if (isReg xs && okDist w) = true then canon (celL (Nigh (bits xs) (bits xs) w)) else []
noncomputable def betwL (xs ys : List Rect) (w : Int) : List Rect := if (isReg xs && isReg ys && okDist w) = true then canon (celL fun y x => Nigh (bits xs) (bits ys) w y x ∨ (gb (bits xs) y x = true ∧ gb (bits ys) y x = true)) else []
theorem gd_setE {α : Type} [Inhabited α] {xs : List α} {i : Nat} {a : α} (h : i < xs.length) : gd (xs.set i a) i = a := by unfold gd; simp [h]
theorem gd_setN {α : Type} [Inhabited α] {xs : List α} {i j : Nat} {a : α} (h : i ≠ j) : gd (xs.set i a) j = gd xs j := by unfold gd; rw [List.getElem?_set_ne h]
theorem markSpacing_s {v : Value} {xs : List Rect} {w : Int} (h1 : Rs G L rectT v xs) (k : ∀ v', R v' G (osl 71 rectT v' (spaceL xs w) :: L)) : CallT Tryz.prog 59 #[v, vi w] G L R := by
  refine CallT.enter (args := _) Tryz.func59 rfl rfl (by kernel_rfl) rfl ?_
  refine WP.seq ?_
  refine WP.region ?_
  refine RG.pv rfl (PV.asg rfl rfl) ?_
  refine RG.nil ?_
  refine WP.seq ?_
  refine WP.seq ?_
  refine WP.region ?_
  refine RG.pv rfl (PV.move (v := v) rfl rfl) ?_
  refine RG.callF (vs := [v]) rfl rfl En35 rfl (l03Ok_s (Rs.up h1) ?_)
  refine RG.pv rfl (PV.not rfl rfl) ?_
  refine RG.pv rfl (PV.mvB (.inl rfl) rfl) ?_
  refine RG.gs rfl rfl rfl (fun hp => (PV.mvI (.inl rfl) rfl)) ?_
  refine RG.gsC rfl rfl rfl rfl En110 (fun hp => ⟨_, (acons (gs_t hp) anil), distance_s ⟨rfl, rfl, rfl⟩⟩) ?_
  refine RG.gs rfl rfl rfl (fun hp => (PV.not rfl (gs_t hp))) ?_
  refine RG.pv rfl (PV.pickO rfl rfl rfl (fun hq => gs_t (geqF hq))) ?_
  refine RG.nil ?_
  refine WP.cond rfl (fun h2 => ?_) (fun h2 => ?_)
  · have e : spaceL xs w = [] := by rw [spaceL, if_neg]; cases h3 : isReg xs <;> cases h4 : okDist w <;> simp_all
    rw [e] at k
    refine WP.seq ?_
    refine WP.region ?_
    refine RG.ot rfl (OT.bslice (F := rectT) (els := []) rfl El28 rfl (by decide) rfl (by decide) trivial fun v13 => ?_)
    refine RG.pv rfl (PV.asg (v := v13) rfl rfl) ?_
    refine RG.nil ?_
    refine WP.ret ?_
    exact ⟨_, _, ResV.one rfl rfl, Cv.p, k v13⟩
  · have h3 : isReg xs = true ∧ okDist w = true := by cases h3 : isReg xs <;> cases h4 : okDist w <;> simp_all
    have hreg := h3.1
    refine WP.skip ?_
    refine WP.seq ?_
    refine WP.region ?_
    refine RG.pv rfl (PV.move (v := v) rfl rfl) ?_
    refine RG.callF (vs := [v]) rfl rfl En89 rfl (l03Bits_s (Rs.up h1) (fun i hi => valid_get (isReg_valid hreg) hi) (fun v15 => ?_))
    refine RG.pv rfl (PV.move (v := v) rfl rfl) ?_
    refine RG.callF (vs := [v]) rfl rfl En89 rfl (l03Bits_s (Rs.up h1) (fun i hi => valid_get (isReg_valid hreg) hi) (fun v17 => ?_))
    refine RG.callF (vs := [v15, v17]) rfl rfl En113 rfl (gapsAll_s Rs.o Rs.o (bits_length _) (bits_length _) (fun v18 outv18 houtv18 => have hlnv18 := houtv18.len; ?_))
    refine RG.pv rfl (PV.mvI (.inl rfl) rfl) ?_
    refine RG.callF (vs := [v18, _]) rfl rfl En111 rfl (mark_s Rs.o (fun r hr => by obtain ⟨ver, l, k, lo, hi, g1, _, rfl⟩ := houtv18.run r hr; exact lineR_valid g1) (by omega) (fun v20 Dv20 hDv20 hgv20 => ?_))
    refine RG.callF (vs := [v20]) rfl rfl En88 rfl (l03Canon_s Rs.o hDv20 (fun v21 => ?_))
    refine RG.pv rfl (PV.asg (v := v21) rfl rfl) ?_
    refine RG.nil ?_
    refine WP.ret ?_
    have e : spaceL xs w = canon Dv20 := by rw [spaceL, if_pos (by rw [h3.1, h3.2]; rfl), celL_eq (P := Nigh (bits xs) (bits xs) w) hDv20 (fun y x hy hx => by rw [hgv20 y x hy hx, near_iff houtv18])]
    rw [e] at k
    exact ⟨_, _, ResV.one rfl rfl, Cv.p, k v21⟩
theorem markBetween_s {u v : Value} {xs ys : List Rect} {w : Int} (h1 : Rs G L rectT u xs) (h2 : Rs G L rectT v ys) (k : ∀ v', R v' G (osl 71 rectT v' (betwL xs ys w) :: L)) : CallT Tryz.prog 60 #[u, v, vi w] G L R := by
  refine CallT.enter (args := _) Tryz.func60 rfl rfl (by kernel_rfl) rfl ?_
  refine WP.seq ?_
  refine WP.region ?_
  refine RG.pv rfl (PV.asg rfl rfl) ?_
  refine RG.nil ?_
  refine WP.seq ?_
  refine WP.seq ?_
  refine WP.region ?_
  refine RG.pv rfl (PV.move (v := u) rfl rfl) ?_
  refine RG.callF (vs := [u]) rfl rfl En35 rfl (l03Ok_s (Rs.up h1) ?_)
  refine RG.pv rfl (PV.not rfl rfl) ?_
  refine RG.pv rfl (PV.mvB (.inl rfl) rfl) ?_
  refine RG.gs rfl rfl rfl (fun hp => (PV.move (v := v) rfl rfl)) ?_
  refine RG.gsC rfl rfl rfl rfl En35 (fun hp => ⟨_, (acons (gs_t hp) anil), l03Ok_s (Rs.up h2) ⟨rfl, rfl, rfl⟩⟩) ?_
  refine RG.gs rfl rfl rfl (fun hp => (PV.not rfl (gs_t hp))) ?_
  refine RG.pv rfl (PV.pickO rfl rfl rfl (fun hq => gs_t (geqF hq))) ?_
  refine RG.pv rfl (PV.mvB (.inl rfl) rfl) ?_
  refine RG.gs rfl rfl rfl (fun hp => (PV.mvI (.inl rfl) rfl)) ?_
  refine RG.gsC rfl rfl rfl rfl En110 (fun hp => ⟨_, (acons (gs_t hp) anil), distance_s ⟨rfl, rfl, rfl⟩⟩) ?_
  refine RG.gs rfl rfl rfl (fun hp => (PV.not rfl (gs_t hp))) ?_
  refine RG.pv rfl (PV.pickO rfl rfl rfl (fun hq => gs_t (geqF hq))) ?_
  refine RG.nil ?_
  refine WP.cond rfl (fun h3 => ?_) (fun h3 => ?_)
  · have e : betwL xs ys w = [] := by rw [betwL, if_neg]; cases g1 : isReg xs <;> cases g2 : isReg ys <;> cases g4 : okDist w <;> simp_all
    rw [e] at k
    refine WP.seq ?_
    refine WP.region ?_
    refine RG.ot rfl (OT.bslice (F := rectT) (els := []) rfl El28 rfl (by decide) rfl (by decide) trivial fun v24 => ?_)
    refine RG.pv rfl (PV.asg (v := v24) rfl rfl) ?_
    refine RG.nil ?_
    refine WP.ret ?_
    exact ⟨_, _, ResV.one rfl rfl, Cv.p, k v24⟩
  · have h4 : isReg xs = true ∧ isReg ys = true ∧ okDist w = true := by cases g1 : isReg xs <;> cases g2 : isReg ys <;> cases g4 : okDist w <;> simp_all
    have hreg := h4.1
    have hregy := h4.2.1
    refine WP.skip ?_
    refine WP.seq ?_
    refine WP.region ?_
    refine RG.pv rfl (PV.move (v := u) rfl rfl) ?_
    refine RG.callF (vs := [u]) rfl rfl En89 rfl (l03Bits_s (Rs.up h1) (fun i hi => valid_get (isReg_valid hreg) hi) (fun v26 => ?_))
    refine RG.pv rfl (PV.move (v := v) rfl rfl) ?_
    refine RG.callF (vs := [v]) rfl rfl En89 rfl (l03Bits_s (Rs.up h2) (fun i hi => valid_get (isReg_valid hregy) hi) (fun v28 => ?_))
    refine RG.pv rfl (PV.asg (v := v26) rfl rfl) ?_
    refine RG.pv rfl (PV.asg (v := v28) rfl rfl) ?_
    refine RG.nil ?_
    refine WP.seq ?_
    refine WP.region ?_
    refine RG.pv rfl (PV.move (v := v26) rfl rfl) ?_
    refine RG.pv rfl (PV.move (v := v28) rfl rfl) ?_
    refine RG.callF (vs := [v26, v28]) rfl rfl En113 rfl (gapsAll_s Rs.o Rs.o (bits_length _) (bits_length _) (fun v31 outv31 houtv31 => have hlnv31 := houtv31.len; ?_))
    refine RG.pv rfl (PV.mvI (.inl rfl) rfl) ?_
    refine RG.callF (vs := [v31, _]) rfl rfl En111 rfl (mark_s Rs.o (fun r hr => by obtain ⟨ver, l, k, lo, hi, g1, _, rfl⟩ := houtv31.run r hr; exact lineR_valid g1) (by omega) (fun v33 Dv33 hDv33 hgv33 => ?_))
    refine RG.pv rfl (PV.asg (v := v33) rfl rfl) ?_
    refine RG.nil ?_
    refine WP.seq ?_
    refine WP.seq ?_
    refine WP.region ?_
    refine RG.pv rfl (PV.mvI (.inr rfl) rfl) ?_
    refine RG.nil ?_
    refine WP.block ?_
    refine WP.loop2 [7, 8, 9] (fun (i : Nat) (E : List Bool) => i ≤ 6400 ∧ E.length = 6400 ∧ (∀ j, j < i → gd E j = (gd Dv33 j || (gd (bits xs) j && gd (bits ys) j))) ∧ (∀ j, i ≤ j → gd E j = gd Dv33 j)) (fun (i : Nat) (E : List Bool) => [(10, vi i)]) (fun (i : Nat) (E : List Bool) => osl 4 boolT v33 E :: osl 4 boolT v26 (bits xs) :: osl 4 boolT v28 (bits ys) :: L) (fun (i : Nat) (E : List Bool) => 6400 - i) 0 Dv33 ⟨by omega, hDv33, fun j h => by omega, fun j _ => rfl⟩ ⟨rfl, trivial⟩ Cv.p ?_
    rintro i E τ ⟨hi, hE, hE1, hE2⟩
    refine WP.seq ?_
    refine WP.seq ?_
    refine WP.region ?_
    refine RG.pv rfl (PV.mvI (.inl rfl) rfl) ?_
    refine RG.pv rfl (PV.move (v := v33) rfl rfl) ?_
    refine RG.pv rfl (PV.len (v := v33) rfl Tryz.underlying111 rfl SlF.o) ?_
    refine RG.pv rfl (PV.lss rfl rfl rfl) ?_
    refine RG.nil ?_
    have hbx := bits_length xs
    have hby := bits_length ys
    refine WP.cond rfl (fun h5 => ?_) (fun h5 => ?_)
    · have h5 := of_decide_eq_true h5
      have hs1 : ∀ j, j < i + 1 → gd (E.set i (gd E i || (gd (bits xs) i && gd (bits ys) i))) j = (gd Dv33 j || (gd (bits xs) j && gd (bits ys) j)) := fun j hj => by
        by_cases c : j = i
        · subst c; rw [gd_setE (by omega), hE2 j (Nat.le_refl _)]
        · rw [gd_setN (fun e => c e.symm)]; exact hE1 j (by omega)
      have hs2 : ∀ j, i + 1 ≤ j → gd (E.set i (gd E i || (gd (bits xs) i && gd (bits ys) i))) j = gd Dv33 j := fun j hj => by rw [gd_setN (by omega)]; exact hE2 j (by omega)
      refine WP.skip ?_
      refine WP.seq ?_
      refine WP.block ?_
      refine WP.region ?_
      refine RG.pv rfl (PV.move (v := v33) rfl rfl) ?_
      refine RG.pv rfl (PV.mvI (.inl rfl) rfl) ?_
      refine RG.pv rfl (PV.move (v := v33) rfl rfl) ?_
      refine RG.pv rfl (PV.mvI (.inl rfl) rfl) ?_
      refine RG.pv rfl (PV.idxS (v := v33) rfl Is111 rfl SlF.o rfl rfl (by omega)) ?_
      refine RG.pv rfl (PV.loadE1 rfl Sc4 rfl rfl (El.o (getG (by omega))) rfl) ?_
      refine RG.pv rfl (PV.mvB (.inl rfl) rfl) ?_
      refine RG.gs rfl rfl rfl (fun hp => (PV.move (v := v26) rfl rfl)) ?_
      refine RG.gs rfl rfl rfl (fun hp => (PV.mvI (.inl rfl) rfl)) ?_
      refine RG.gs rfl rfl rfl (fun hp => (PV.idxS (v := v26) rfl Is111 (gs_t hp) SlF.o (gs_t hp) rfl (by first | omega | (simp at hp; omega)))) ?_
      refine RG.gs rfl rfl rfl (fun hp => (PV.loadE1 rfl Sc4 (gs_t hp) rfl (El.o (getG (by first | omega | (simp at hp; omega)))) rfl)) ?_
      refine RG.gs rfl rfl rfl (fun hp => (PV.mvB (.inl rfl) (gs_t hp))) ?_
      refine RG.gs2 rfl rfl rfl (fun hp => (PV.move (v := v28) rfl rfl)) ?_
      refine RG.gs2 rfl rfl rfl (fun hp => (PV.mvI (.inl rfl) rfl)) ?_
      refine RG.gs2 rfl rfl rfl (fun hp => (PV.idxS (v := v28) rfl Is111 (gs_t hp) SlF.o (gs_t hp) rfl (by first | omega | (simp at hp; omega)))) ?_
      refine RG.gs2 rfl rfl rfl (fun hp => (PV.loadE1 rfl Sc4 (gs_t hp) rfl (El.o (getG (by first | omega | (simp at hp; omega)))) rfl)) ?_
      refine RG.gs rfl rfl rfl (fun hp => (PV.pickA rfl (gs_t hp) (fun hq => gs_t (gandT hp hq)) rfl)) ?_
      refine RG.pv rfl (PV.pickO rfl rfl rfl (fun hq => gs_t (geqF hq))) ?_
      refine RG.pv rfl (PV.idxS (v := v33) rfl Is111 rfl SlF.o rfl rfl (by omega)) ?_
      refine RG.ot rfl (OT.storeE (F := boolT) rfl Sz4 rfl rfl rfl (Cl.c rfl) (OneC.c rfl) (by omega) ?_)
      refine RG.nil ?_
      refine WP.region ?_
      refine RG.pv rfl (PV.mvI (.inl rfl) rfl) ?_
      refine RG.pv rfl (PV.add rfl rfl rfl (by omega)) ?_
      refine RG.pv rfl (PV.mvI (.inr rfl) rfl) ?_
      refine RG.nil ?_
      exact ⟨rfl, i + 1, (E.set i (gd E i || (gd (bits xs) i && gd (bits ys) i))), ⟨by omega, by simpa using hE, hs1, hs2⟩, ⟨rfl, trivial⟩, ⟨rfl, rfl, rfl, trivial⟩, Cv.p, by omega⟩
    · have h5 := of_decide_eq_false h5
      obtain rfl : i = 6400 := by omega
      refine WP.exit ?_
      refine WP.seq ?_
      refine WP.region ?_
      refine RG.pv rfl (PV.move (v := v33) rfl rfl) ?_
      refine RG.callF (vs := [v33]) rfl rfl En88 rfl (l03Canon_s Rs.o hE (fun v60 => ?_))
      refine RG.pv rfl (PV.asg (v := v60) rfl rfl) ?_
      refine RG.nil ?_
      refine WP.ret ?_
      have e : betwL xs ys w = canon E := by
        rw [betwL, if_pos (by rw [h4.1, h4.2.1, h4.2.2]; rfl), celL_eq (P := fun y x => Nigh (bits xs) (bits ys) w y x ∨ (gb (bits xs) y x = true ∧ gb (bits ys) y x = true)) hE (fun y x hy hx => by
          have := hE1 (y * 80 + x) (by omega)
          rw [← near_iff houtv31, ← hgv33 y x hy hx]
          unfold gb; rw [this]; simp)]
      rw [e] at k
      exact ⟨_, _, ResV.one rfl rfl, Cv.p, k v60⟩
end Go.Proofs.YtpjajhjcbcfplaaGreat
namespace Go.Proofs.YtpjajhjcbcfplaaGreat
set_option linter.unusedVariables false
set_option linter.unusedSimpArgs false
open Go
set_option maxRecDepth 20000
set_option linter.unusedSimpArgs false
variable {G : Gh} {L : List Ch} {R : Value → Gh → List Ch → Prop}
theorem len_bd {r : Rect} (hv : validRect r = true) : 0 ≤ lenR r ∧ lenR r ≤ 6400 := by
  have h := validR_iff.1 hv
  exact ⟨Int.mul_nonneg (by omega) (by omega), Int.le_trans (Int.mul_le_mul (by omega : r.x1 - r.x0 ≤ 80) (by omega : r.y1 - r.y0 ≤ 80) (by omega) (by omega)) (by decide)⟩
theorem mul_bd {a b : Int} (ha : 1 ≤ a ∧ a ≤ 100) (hb : 0 ≤ b ∧ b ≤ 6400) : 0 ≤ a * b ∧ a * b ≤ 640000 :=
  ⟨Int.mul_nonneg (by omega) (by omega), Int.le_trans (Int.mul_le_mul ha.2 hb.2 (by omega) (by omega)) (by decide)⟩
end Go.Proofs.YtpjajhjcbcfplaaGreat
namespace Go.Proofs.YtpjajhjcbcfplaaGreat
set_option linter.unusedVariables false
set_option linter.unusedSimpArgs false
open Go
set_option maxRecDepth 20000
set_option linter.unusedSimpArgs false
variable {G : Gh} {L : List Ch} {R : Value → Gh → List Ch → Prop}
def nps (zs : List Net) : List (Sl Piece) := zs.map Net.pieces
theorem nps_len (zs : List Net) : (nps zs).length = zs.length := by simp [nps]
theorem nps_gd {zs : List Net} {i : Nat} (h : i < zs.length) : gd (nps zs) i = (gd zs i).pieces := gd_map _ h
end Go.Proofs.YtpjajhjcbcfplaaGreat
namespace Go.Proofs.YtpjajhjcbcfplaaGreat
set_option linter.unusedVariables false
set_option linter.unusedSimpArgs false
open Go
set_option linter.unusedSimpArgs false
set_option maxRecDepth 20000
def cellB (S : List Bool) (x y : Int) : Bool := (decide (-40 ≤ x ∧ x < 40) && decide (-40 ≤ y ∧ y < 40)) && gd S ((y + 40) * 80 + x + 40).toNat
theorem cellB_in {S : List Bool} {x y : Int} (h : -40 ≤ x ∧ x < 40 ∧ -40 ≤ y ∧ y < 40) : cellB S x y = gb S (y + 40).toNat (x + 40).toNat := by
  have e : ((y + 40) * 80 + x + 40).toNat = (y + 40).toNat * 80 + (x + 40).toNat := by omega
  rw [cellB, decide_eq_true (by omega), decide_eq_true (by omega), e]; rfl
theorem cellB_out {S : List Bool} {x y : Int} (h : ¬ (-40 ≤ x ∧ x < 40 ∧ -40 ≤ y ∧ y < 40)) : cellB S x y = false := by
  rw [cellB]
  by_cases c : -40 ≤ x ∧ x < 40
  · rw [decide_eq_false (p := -40 ≤ y ∧ y < 40) (by omega)]; simp
  · rw [decide_eq_false c]; simp
end Go.Proofs.YtpjajhjcbcfplaaGreat
namespace Go.Proofs.YtpjajhjcbcfplaaGreat
set_option linter.unusedVariables false
set_option linter.unusedSimpArgs false
open Go
set_option maxRecDepth 20000
set_option linter.unusedSimpArgs false
variable {G : Gh} {L : List Ch} {R : Value → Gh → List Ch → Prop}
/-- all slices of a bag, by membership -/
theorem Rs.mem {α : Type} {G : Gh} {L L' : List Ch} {e : TypeId} {F : FT α} {xs : List (Sl α)} [hX : ExBg xs L e F L'] {s : Sl α} (h : s ∈ xs) : Rs G L F s.v s.xs := by
  obtain ⟨i, hi, rfl⟩ := List.getElem_of_mem h
  have := Rs.inBag (G := G) (L := L) (L' := L') (e := e) (F := F) (xs := xs) i hi
  rwa [gd_eq hi] at this
theorem RsE.flat {G : Gh} {L L' : List Ch} {e : TypeId} {zs : List Net} [hX : ExBg (regs (er (nps zs)).flatten) L e rectT L'] {i : Nat} (hi : i < zs.length) : RsE G L rectT (regs (gd zs i).pieces.xs) := fun j hj => by
  rw [regs_len] at hj
  rw [regs_gd hj]
  refine Rs.mem (L := L) (L' := L') (e := e) (xs := regs (er (nps zs)).flatten) (List.mem_map_of_mem ?_)
  refine List.mem_flatten.2 ⟨(gd zs i).pieces.xs, ?_, gd_mem hj⟩
  rw [← nps_gd hi, ← er_gd]
  exact gd_mem (by rw [er_len, nps_len]; exact hi)
end Go.Proofs.YtpjajhjcbcfplaaGreat
namespace Go.Proofs.YtpjajhjcbcfplaaGreat
set_option linter.unusedVariables false
set_option linter.unusedSimpArgs false
open Go
set_option linter.unusedSimpArgs false
set_option maxRecDepth 20000
def one (b : Bool) : Int := bif b then 1 else 0
theorem one_and (a b : Bool) : one (a && b) = one a * one b := by cases a <;> cases b <;> rfl
theorem one_nn (b : Bool) : 0 ≤ one b ∧ one b ≤ 1 := by cases b <;> simp [one]
def sumF (f : Nat → Int) : Nat → Int
  | 0 => 0
  | n + 1 => sumF f n + f n
def cntF (f : Nat → Bool) (n : Nat) : Int := sumF (fun k => one (f k)) n
theorem cntF_succ (f : Nat → Bool) (n : Nat) : cntF f (n + 1) = cntF f n + one (f n) := rfl
theorem cntF_bd (f : Nat → Bool) : ∀ n, 0 ≤ cntF f n ∧ cntF f n ≤ n
  | 0 => by simp [cntF, sumF]
  | n + 1 => by
    have := cntF_bd f n
    have := one_nn (f n)
    rw [cntF_succ]; omega
theorem sumF_congr {f g : Nat → Int} : ∀ {n : Nat}, (∀ k, k < n → f k = g k) → sumF f n = sumF g n
  | 0, _ => rfl
  | n + 1, h => by rw [sumF, sumF, sumF_congr fun k hk => h k (by omega), h n (by omega)]
theorem sumF_mul (f : Nat → Int) (c : Int) : ∀ n, sumF (fun k => f k * c) n = sumF f n * c
  | 0 => by simp [sumF]
  | n + 1 => by rw [sumF, sumF, sumF_mul f c n, Int.add_mul]
theorem sumF_bd {f : Nat → Int} {B : Int} (h : ∀ k, 0 ≤ f k ∧ f k ≤ B) : ∀ n, 0 ≤ sumF f n ∧ sumF f n ≤ n * B
  | 0 => by simp [sumF]
  | n + 1 => by
    have h1 := sumF_bd h n
    have h2 := h n
    rw [sumF, Int.natCast_add, Int.add_mul]; omega
/-- how many of the places b, b + 1, .. lie between a and c -/
theorem cntF_between (a b c : Int) : ∀ n, cntF (fun k => decide (a ≤ b + k) && decide (b + k < c)) n = max 0 (min c (b + n) - max a b)
  | 0 => by simp only [cntF, sumF]; omega
  | n + 1 => by
    rw [cntF_succ, cntF_between a b c n]
    by_cases h1 : a ≤ b + n <;> by_cases h2 : b + (n : Int) < c
    · rw [decide_eq_true h1, decide_eq_true h2]; simp only [one, Bool.and_self, cond_true]; omega
    · rw [decide_eq_true h1, decide_eq_false h2]; simp only [one, Bool.and_false, cond_false]; omega
    · rw [decide_eq_false h1, decide_eq_true h2]; simp only [one, Bool.false_and, cond_false]; omega
    · rw [decide_eq_false h1, decide_eq_false h2]; simp only [one, Bool.false_and, cond_false]; omega
theorem costL_add {α : Type} (f g : α → Int) : ∀ xs : List α, costL (fun x => f x + g x) xs = costL f xs + costL g xs
  | [] => by simp [costL]
  | x :: xs => by simp only [costL, costL_add f g xs]; omega
theorem costL_congr {α : Type} {f g : α → Int} : ∀ {xs : List α}, (∀ x ∈ xs, f x = g x) → costL f xs = costL g xs
  | [], _ => rfl
  | x :: xs, h => by rw [costL, costL, h x (.head _), costL_congr fun y hy => h y (.tail _ hy)]
theorem costL_zero {α : Type} (xs : List α) : costL (fun _ => 0) xs = 0 := by rw [costL_const]; simp
theorem sumF_costL {α : Type} (f : Nat → α → Int) (xs : List α) : ∀ n, sumF (fun k => costL (f k) xs) n = costL (fun x => sumF (fun k => f k x) n) xs
  | 0 => by simp [sumF, costL_zero]
  | n + 1 => by rw [sumF, sumF_costL f xs n, ← costL_add]; rfl
theorem one_any {α : Type} {p : α → Bool} : ∀ {xs : List α}, xs.Pairwise (fun a b => ¬ (p a = true ∧ p b = true)) → one (xs.any p) = costL (fun x => one (p x)) xs
  | [], _ => rfl
  | x :: xs, h => by
    rw [List.pairwise_cons] at h
    rw [List.any_cons, costL, ← one_any h.2]
    cases hp : p x
    · simp [one]
    · have : xs.any p = false := by
        rw [List.any_eq_false]; intro y hy hq; exact h.1 y hy ⟨hp, hq⟩
      rw [this]; rfl
theorem runs_ge (r : Nat → Bool) (x : Nat) : ∀ p ∈ runsFrom r x, x ≤ p.1 := by
  intro p hp
  rw [runsFrom] at hp
  by_cases h : x < 80
  · rw [if_pos h] at hp
    by_cases hr : r x = true
    · rw [if_pos hr] at hp
      have h1 := runEnd_ge r (x + 1)
      rcases List.mem_cons.1 hp with rfl | hp
      · exact Nat.le_refl _
      · have := runs_ge r _ p hp; omega
    · rw [if_neg hr] at hp; have := runs_ge r _ p hp; omega
  · rw [if_neg h] at hp; cases hp
termination_by 80 - x
decreasing_by
  · have := runEnd_ge r (x + 1); omega
  · omega
theorem runs_apart (r : Nat → Bool) (x : Nat) : (runsFrom r x).Pairwise fun p q => p.2 ≤ q.1 := by
  rw [runsFrom]
  split
  · split
    · rw [List.pairwise_cons]
      have h1 := runEnd_ge r (x + 1)
      refine ⟨fun q hq => ?_, runs_apart r _⟩
      have := runs_ge r _ q hq; simp only; omega
    · exact runs_apart r (x + 1)
  · exact .nil
termination_by 80 - x
decreasing_by
  · have := runEnd_ge r (x + 1); omega
  · omega
theorem canonFrom_ge (bs : List Bool) (y : Nat) : ∀ r ∈ canonFrom bs y, (y : Int) - 40 ≤ r.y0 := by
  intro r hr
  rw [canonFrom] at hr
  by_cases h : y < 80
  · rw [if_pos h] at hr
    have h1 := endFrom_ge bs y (y + 1)
    rcases List.mem_append.1 hr with hr | hr
    · obtain ⟨p, hp, rfl⟩ := List.mem_map.1 hr
      simp only [mkR]; omega
    · have := canonFrom_ge bs _ r hr; omega
  · rw [if_neg h] at hr; cases hr
termination_by 80 - y
decreasing_by have := endFrom_ge bs y (y + 1); omega
theorem canonFrom_apart (bs : List Bool) (y : Nat) : (canonFrom bs y).Pairwise fun r q => ∀ v u, ¬ (inR r v u = true ∧ inR q v u = true) := by
  rw [canonFrom]
  split
  · rename_i h
    have h1 := endFrom_ge bs y (y + 1)
    rw [List.pairwise_append]
    refine ⟨?_, canonFrom_apart bs _, fun r hr q hq v u => ?_⟩
    · rw [List.pairwise_map]
      refine (runs_apart (gb bs y) 0).imp ?_
      intro p q hpq v u ⟨h1, h2⟩
      rw [inR_iff] at h1 h2; simp only [mkR] at h1 h2; omega
    · obtain ⟨p, _, rfl⟩ := List.mem_map.1 hr
      have := canonFrom_ge bs _ q hq
      rintro ⟨h1, h2⟩
      rw [inR_iff] at h1 h2; simp only [mkR] at h1; omega
  · exact .nil
termination_by 80 - y
decreasing_by have := endFrom_ge bs y (y + 1); omega
theorem reg_apart {xs : List Rect} (h : isReg xs = true) (v u : Nat) : xs.Pairwise fun r q => ¬ (inR r v u = true ∧ inR q v u = true) := by
  have := canonFrom_apart (bits xs) 0
  rw [show canonFrom (bits xs) 0 = canon (bits xs) from rfl, isReg_eq h] at this
  exact this.imp fun k => k v u
def wR (r : Rect) : Nat := (r.x1 - r.x0).toNat
def hR (r : Rect) : Nat := (r.y1 - r.y0).toNat
/-- cells of a row, of a column, of a box -/
def tH (D : List Bool) (y x0 : Int) (n : Nat) : Int := cntF (fun k => cellB D (x0 + k) y) n
def covB (S : List Bool) (r : Rect) : Int := sumF (fun j => tH S (r.y0 + j) r.x0 (wR r)) (hR r)
def covI (xs : List Rect) (r : Rect) : Int := costL (fun q => if validRect (cmn q r) = true then areaR (cmn q r) else 0) xs
theorem box_count {q r : Rect} (hq : validRect q = true) (hr : validRect r = true) : sumF (fun j => cntF (fun k => (decide (q.x0 ≤ r.x0 + k) && decide (r.x0 + (k : Int) < q.x1)) && (decide (q.y0 ≤ r.y0 + j) && decide (r.y0 + (j : Int) < q.y1))) (wR r)) (hR r) = if validRect (cmn q r) = true then areaR (cmn q r) else 0 := by
  have e : ∀ j : Nat, cntF (fun k => (decide (q.x0 ≤ r.x0 + k) && decide (r.x0 + (k : Int) < q.x1)) && (decide (q.y0 ≤ r.y0 + j) && decide (r.y0 + (j : Int) < q.y1))) (wR r) = one (decide (q.y0 ≤ r.y0 + j) && decide (r.y0 + (j : Int) < q.y1)) * cntF (fun k => decide (q.x0 ≤ r.x0 + k) && decide (r.x0 + (k : Int) < q.x1)) (wR r) := fun j => by
    simp only [cntF, one_and]
    rw [← one_and (decide (q.y0 ≤ r.y0 + j)), Int.mul_comm, ← sumF_mul]
  rw [sumF_congr fun j _ => e j, sumF_mul]
  show cntF _ _ * _ = _
  rw [cntF_between, cntF_between]
  rw [validR_iff] at hq hr
  have h1 : (wR r : Int) = r.x1 - r.x0 := by simp only [wR]; omega
  have h2 : (hR r : Int) = r.y1 - r.y0 := by simp only [hR]; omega
  rw [h1, h2]
  by_cases c : validRect (cmn q r) = true
  · rw [if_pos c]
    rw [validR_iff] at c; simp only [cmn] at c
    simp only [areaR, cmn]
    rw [Int.mul_comm, show max 0 (min q.x1 (r.x0 + (r.x1 - r.x0)) - max q.x0 r.x0) = min q.x1 r.x1 - max q.x0 r.x0 by omega, show max 0 (min q.y1 (r.y0 + (r.y1 - r.y0)) - max q.y0 r.y0) = min q.y1 r.y1 - max q.y0 r.y0 by omega]
  · rw [if_neg c]
    rw [validR_iff] at c; simp only [cmn] at c
    by_cases d : min q.x1 r.x1 ≤ max q.x0 r.x0
    · rw [show max 0 (min q.x1 (r.x0 + (r.x1 - r.x0)) - max q.x0 r.x0) = 0 by omega, Int.mul_zero]
    · rw [show max 0 (min q.y1 (r.y0 + (r.y1 - r.y0)) - max q.y0 r.y0) = 0 by omega, Int.zero_mul]
/-- the areas of the parts of a region in a box add up to its cells in the box -/
theorem cov_eq {xs : List Rect} {r : Rect} (hx : isReg xs = true) (hr : validRect r = true) : covI xs r = covB (bits xs) r := by
  have hv := isReg_valid hx
  have hr2 := validR_iff.1 hr
  have e : ∀ j, j < hR r → tH (bits xs) (r.y0 + j) r.x0 (wR r) = costL (fun q => cntF (fun k => (decide (q.x0 ≤ r.x0 + k) && decide (r.x0 + (k : Int) < q.x1)) && (decide (q.y0 ≤ r.y0 + j) && decide (r.y0 + (j : Int) < q.y1))) (wR r)) xs := fun j hj => by
    simp only [tH, cntF]
    rw [← sumF_costL]
    refine sumF_congr fun k hk => ?_
    have hin : -40 ≤ r.x0 + (k : Int) ∧ r.x0 + (k : Int) < 40 ∧ -40 ≤ r.y0 + (j : Int) ∧ r.y0 + (j : Int) < 40 := by
      simp only [hR, wR] at hj hk; omega
    rw [cellB_in hin, gb_bits' _ (by omega) (by omega), one_any (reg_apart hx _ _)]
    refine costL_congr fun q hq => ?_
    congr 1
    rw [Bool.eq_iff_iff, inR_iff]
    simp only [Bool.and_eq_true, decide_eq_true_eq]
    omega
  rw [covB, sumF_congr e, sumF_costL, covI]
  exact costL_congr fun q hq => (box_count (valid_mem hv hq) hr).symm
end Go.Proofs.YtpjajhjcbcfplaaGreat
namespace Go.Proofs.YtpjajhjcbcfplaaGreat
set_option linter.unusedVariables false
set_option linter.unusedSimpArgs false
open Go
set_option maxRecDepth 20000
set_option linter.unusedSimpArgs false
variable {G : Gh} {L : List Ch} {R : Value → Gh → List Ch → Prop}
theorem unitCell_s {p : Pt} (k : R (.bool (within p.x (-40) 39 && within p.y (-40) 39)) G L) : CallT Tryz.prog 218 #[vpt p] G L R := by
  refine CallT.enter (args := _) Tryz.func218 rfl rfl (by kernel_rfl) rfl ?_
  refine WP.seq ?_
  refine WP.region ?_
  refine RG.ot rfl (OT.box (cs := ptT.enc p) rfl rfl rfl fun b1 => ?_)
  refine RG.pv rfl (PV.mvB (.inr rfl) rfl) ?_
  refine RG.nil ?_
  refine WP.seq ?_
  refine WP.region ?_
  refine RG.pv rfl (PV.field rfl Fo168_0 rfl) ?_
  refine RG.pv rfl (PV.load1 rfl Sc2 rfl (Rd.blk rfl)) ?_
  refine RG.callF (vs := [_, _, _]) rfl rfl En92 rfl (within_s ?_)
  refine RG.pv rfl (PV.mvB (.inl rfl) rfl) ?_
  refine RG.gs rfl rfl rfl (fun hp => (PV.field rfl Fo168_1 rfl)) ?_
  refine RG.gs rfl rfl rfl (fun hp => (PV.load1 rfl Sc2 (gs_t hp) (Rd.blk rfl))) ?_
  refine RG.gsC rfl rfl rfl rfl En92 (fun hp => ⟨_, (acons (gs_t hp) (acons rfl (acons rfl anil))), within_s ⟨rfl, rfl, rfl⟩⟩) ?_
  refine RG.pv rfl (PV.pickA rfl rfl (fun hq => gs_t (geqT hq)) rfl) ?_
  refine RG.pv rfl (PV.mvB (.inr rfl) rfl) ?_
  refine RG.nil ?_
  refine WP.ret ?_
  exact ⟨_, _, ResV.one rfl rfl, Cv.p, k⟩
theorem cellB_within {D : List Bool} {x y : Int} : cellB D x y = (within x (-40) 39 && within y (-40) 39 && gd D (0 + (y + 40).toNat * 80 + (x + 40).toNat * 1)) := by
  by_cases h : -40 ≤ x ∧ x < 40 ∧ -40 ≤ y ∧ y < 40
  · rw [cellB_in h, show within x (-40) 39 = true by simp [within]; omega, show within y (-40) 39 = true by simp [within]; omega, Nat.zero_add, Nat.mul_one]; rfl
  · rw [cellB_out h]
    by_cases c : -40 ≤ x ∧ x < 40
    · rw [show within y (-40) 39 = false by simp [within]; omega]; simp
    · rw [show within x (-40) 39 = false by simp [within]; omega]; simp
theorem has_s {b : Nat} {D : List Bool} {x y : Int} (hD : D.length = 6400) (k : R (.bool (cellB D x y)) G (grd b D :: L)) : CallT Tryz.prog 189 #[.pointer (some ⟨b, 0, none⟩), vi x, vi y] G (grd b D :: L) R := by
  rw [cellB_within] at k
  refine CallT.enter (args := _) Tryz.func189 rfl rfl (by kernel_rfl) rfl ?_
  refine WP.seq ?_
  refine WP.region ?_
  refine RG.pv rfl (PV.mvB (.inr rfl) rfl) ?_
  refine RG.nil ?_
  refine WP.seq ?_
  refine WP.region ?_
  refine RG.pv rfl (PV.mvI (.inl rfl) rfl) ?_
  refine RG.pv rfl (PV.mvI (.inl rfl) rfl) ?_
  refine RG.pv rfl (PV.build (vs := [(0, [vi _]), (1, [vi _])]) (out := [_, _]) rfl Zr168 Pl168 ⟨rfl, (Cl.c rfl), ⟨rfl, (Cl.c rfl), trivial⟩⟩ rfl) ?_
  refine RG.callF (vs := [_]) rfl rfl En218 rfl (unitCell_s (p := ⟨x, y⟩) ?_)
  refine RG.pv rfl (PV.mvB (.inl rfl) rfl) ?_
  refine RG.gs rfl rfl rfl (fun hp => (PV.mvP (.inl rfl) rfl)) ?_
  refine RG.gs rfl rfl rfl (fun hp => (PV.mvI (.inl rfl) rfl)) ?_
  refine RG.gs rfl rfl rfl (fun hp => (PV.add rfl (gs_t hp) rfl (by first | omega | (simp [within] at hp; omega)))) ?_
  refine RG.gs rfl rfl rfl (fun hp => (PV.mvI (.inl rfl) rfl)) ?_
  refine RG.gs rfl rfl rfl (fun hp => (PV.add rfl (gs_t hp) rfl (by first | omega | (simp [within] at hp; omega)))) ?_
  refine RG.gs rfl rfl rfl (fun hp => (PV.nilc rfl (gs_t hp))) ?_
  refine RG.gs rfl rfl rfl (fun hp => (PV.idxA (j := (y + 40).toNat) rfl Ia127 (gs_t hp) (gs_t hp) (by first | omega | (simp [within] at hp; omega)) (by first | omega | (simp [within] at hp; omega)))) ?_
  refine RG.gs rfl rfl rfl (fun hp => (PV.idxA (j := (x + 40).toNat) rfl Ia125 (gs_t hp) (gs_t hp) (by first | omega | (simp [within] at hp; omega)) (by first | omega | (simp [within] at hp; omega)))) ?_
  refine RG.gs rfl rfl rfl (fun hp => (PV.loadGr rfl Sc4 (gs_t hp) rfl (by first | omega | (simp [within] at hp; omega)))) ?_
  refine RG.pv rfl (PV.pickA rfl rfl (fun hq => gs_t (geqT hq)) rfl) ?_
  refine RG.pv rfl (PV.mvB (.inr rfl) rfl) ?_
  refine RG.nil ?_
  refine WP.ret ?_
  exact ⟨_, _, ResV.one rfl rfl, Cv.p, k⟩
theorem covered_s {v : Value} {xs : List Rect} {r : Rect} (h1 : Rs G L rectT v xs) (hl : xs.length ≤ 3200) (k : R (vi (covI xs r)) G L) : CallT Tryz.prog 159 #[v, vrect r] G L R := by
  have hcb : ∀ q, 0 ≤ (if validRect (cmn q r) = true then areaR (cmn q r) else 0) ∧ (if validRect (cmn q r) = true then areaR (cmn q r) else 0) ≤ 6400 := fun q => by
    split
    · rename_i h; exact area_bd h
    · omega
  have hnn : ∀ ys : List Rect, 0 ≤ covI ys r ∧ covI ys r ≤ 6400 * ys.length := fun ys => ⟨costL_nonneg (fun q => (hcb q).1) ys, costL_bd fun q _ => (hcb q).2⟩
  refine CallT.enter (args := _) Tryz.func159 rfl rfl (by kernel_rfl) rfl ?_
  refine WP.seq ?_
  refine WP.region ?_
  refine RG.ot rfl (OT.box (cs := rectT.enc r) rfl rfl rfl fun b3 => ?_)
  refine RG.pv rfl (PV.mvI (.inr rfl) rfl) ?_
  refine RG.nil ?_
  refine WP.seq ?_
  refine WP.region ?_
  refine RG.pv rfl (PV.mvI (.inr rfl) rfl) ?_
  refine RG.nil ?_
  refine WP.seq ?_
  refine WP.seq ?_
  refine WP.region ?_
  refine RG.pv rfl (PV.move (v := v) rfl rfl) ?_
  refine RG.pv rfl (PV.len (v := v) rfl Tryz.underlying28 rfl (SlF.r h1)) ?_
  refine RG.pv rfl (PV.mvI (.inl rfl) rfl) ?_
  refine RG.nil ?_
  refine WP.block ?_
  refine WP.loop2 [3, 9, 10] (fun (i : Nat) (s : Int) => i ≤ xs.length ∧ s = covI (xs.take i) r) (fun (i : Nat) (s : Int) => [(11, vi i), (5, vi s)]) (fun (i : Nat) (s : Int) => blk b3 71 (rectT.enc r) :: L) (fun (i : Nat) (s : Int) => xs.length - i) 0 0 ⟨by omega, by simp [covI, costL]⟩ ⟨rfl, rfl, trivial⟩ Cv.p ?_
  rintro i s τ ⟨hi, hs⟩
  refine WP.seq ?_
  refine WP.region ?_
  refine RG.pv rfl (PV.lss rfl rfl rfl) ?_
  refine RG.nil ?_
  refine WP.seq ?_
  refine WP.cond rfl (fun h2 => ?_) (fun h2 => ?_)
  · have h2 := of_decide_eq_true h2
    have hct := costL_take (fun q => if validRect (cmn q r) = true then areaR (cmn q r) else 0) (xs := xs) (i := i) (by omega)
    have hb := hnn (xs.take i)
    have hlt : (xs.take i).length = i := by simp; omega
    rw [hlt] at hb
    refine WP.skip ?_
    refine WP.seq ?_
    refine WP.block ?_
    refine WP.seq ?_
    refine WP.region ?_
    refine RG.pv rfl (PV.idxS (v := v) rfl Is28 rfl (SlF.r h1) rfl rfl (by omega)) ?_
    refine RG.pv rfl (PV.loadE rfl Ag71 rfl rfl (El.r h1 (getG (by omega)))) ?_
    refine RG.ot rfl (OT.alloc rfl Zr71 fun b7 => ?_)
    refine RG.ot rfl (OT.storeW (vs := [vi _, vi _, vi _, vi _]) rfl Sz71 rfl rfl (Cl.c rfl) rfl rfl (OneC.c rfl) ?_)
    refine RG.nil ?_
    refine WP.seq ?_
    refine WP.region ?_
    refine RG.pv rfl (PV.loadW rfl Ag71 rfl rfl) ?_
    refine RG.pv rfl (PV.loadW rfl Ag71 rfl rfl) ?_
    refine RG.callF (vs := [_, _]) rfl rfl En194 rfl (common_s ?_)
    refine RG.ot rfl (OT.alloc rfl Zr71 fun b8 => ?_)
    refine RG.ot rfl (OT.storeW (vs := [vi _, vi _, vi _, vi _]) rfl Sz71 rfl rfl (Cl.c rfl) rfl rfl (OneC.c rfl) ?_)
    refine RG.nil ?_
    refine WP.seq ?_
    refine WP.region ?_
    refine RG.pv rfl (PV.loadW rfl Ag71 rfl rfl) ?_
    refine RG.callF (vs := [_]) rfl rfl En148 rfl (validRect_s ?_)
    refine RG.nil ?_
    refine WP.cond rfl (fun h3 => ?_) (fun h3 => ?_)
    · have hab := area_bd h3
      rw [if_pos h3] at hct
      refine WP.region ?_
      refine RG.pv rfl (PV.mvI (.inl rfl) rfl) ?_
      refine RG.pv rfl (PV.loadW rfl Ag71 rfl rfl) ?_
      refine RG.callF (vs := [_]) rfl rfl En160 rfl (area_s (by assumption) ?_)
      refine RG.pv rfl (PV.add rfl rfl rfl (by omega)) ?_
      refine RG.pv rfl (PV.mvI (.inr rfl) rfl) ?_
      refine RG.nil ?_
      refine WP.region ?_
      refine RG.pv rfl (PV.add rfl rfl rfl (by omega)) ?_
      refine RG.pv rfl (PV.mvI (.inl rfl) rfl) ?_
      refine RG.nil ?_
      exact ⟨rfl, i + 1, _, ⟨by omega, by rw [hs]; exact hct.symm⟩, ⟨rfl, rfl, trivial⟩, ⟨rfl, rfl, rfl, trivial⟩, Cv.p, by omega⟩
    · rw [if_neg (by simp [h3])] at hct
      refine WP.skip ?_
      refine WP.region ?_
      refine RG.pv rfl (PV.add rfl rfl rfl (by omega)) ?_
      refine RG.pv rfl (PV.mvI (.inl rfl) rfl) ?_
      refine RG.nil ?_
      exact ⟨rfl, i + 1, _, ⟨by omega, by rw [hs]; simp only [covI]; omega⟩, ⟨rfl, rfl, trivial⟩, ⟨rfl, rfl, rfl, trivial⟩, Cv.p, by omega⟩
  · have h2 := of_decide_eq_false h2
    have e : covI xs r = s := by rw [hs, List.take_of_length_le (by omega)]
    rw [e] at k
    refine WP.exit ?_
    refine WP.seq ?_
    refine WP.region ?_
    refine RG.pv rfl (PV.mvI (.inl rfl) rfl) ?_
    refine RG.pv rfl (PV.mvI (.inr rfl) rfl) ?_
    refine RG.nil ?_
    refine WP.ret ?_
    exact ⟨_, _, ResV.one rfl rfl, Cv.p, k⟩
end Go.Proofs.YtpjajhjcbcfplaaGreat
namespace Go.Proofs.YtpjajhjcbcfplaaGreat
set_option linter.unusedVariables false
set_option linter.unusedSimpArgs false
open Go
set_option maxRecDepth 20000
set_option linter.unusedSimpArgs false
variable {G : Gh} {L : List Ch} {R : Value → Gh → List Ch → Prop}
def Is (W : List Bool) (P : Nat → Nat → Prop) : Prop := W.length = 6400 ∧ ∀ v u : Nat, v < 80 → u < 80 → (gb W v u = true ↔ P v u)
theorem Is.congr {W : List Bool} {P Q : Nat → Nat → Prop} (h : Is W P) (e : ∀ v u : Nat, v < 80 → u < 80 → (P v u ↔ Q v u)) : Is W Q := ⟨h.1, fun v u hv hu => (h.2 v u hv hu).trans (e v u hv hu)⟩
theorem Is.set {W : List Bool} {P : Nat → Nat → Prop} (h : Is W P) {Y X : Nat} (hy : Y < 80) (hx : X < 80) : Is (W.set (Y * 80 + X) true) fun v u => P v u ∨ (v = Y ∧ u = X) := ⟨by simpa using h.1, fun v u hv hu => by
  rw [gb_set' h.1 hy hx hu]
  by_cases c : v = Y ∧ u = X
  · rw [if_pos c]; simp [c]
  · rw [if_neg c, h.2 v u hv hu]; simp [c]⟩
theorem Is.uniq {W V : List Bool} {P : Nat → Nat → Prop} (h : Is W P) (g : Is V P) : W = V := gb_ext h.1 g.1 fun y x hy hx => by rw [Bool.eq_iff_iff, h.2 y x hy hx, g.2 y x hy hx]
theorem Is.none {P : Nat → Nat → Prop} (n : Nat) (hn : n = 6400) (h : ∀ v u : Nat, v < 80 → u < 80 → ¬ P v u) : Is (List.replicate n false) P := ⟨by simp [hn], fun v u hv hu => by rw [gb_repf]; simp [h v u hv hu]⟩
def N1 (S : List Bool) (c y x : Int) (v u : Nat) : Prop := ∃ x' : Nat, x' < 80 ∧ gb S v x' = true ∧ (u : Int) - x' ≤ c ∧ (x' : Int) - u ≤ c ∧ ((v : Int) - 40 < y ∨ ((v : Int) - 40 = y ∧ (x' : Int) - 40 < x))
def N1d (S : List Bool) (c y x d : Int) (v u : Nat) : Prop := N1 S c y x v u ∨ ((v : Int) - 40 = y ∧ gb S v (x + 40).toNat = true ∧ x - c ≤ (u : Int) - 40 ∧ (u : Int) - 40 < x + d)
theorem N1.line {S : List Bool} {c y : Int} {v u : Nat} : N1 S c y 40 v u ↔ N1 S c (y + 1) (-40) v u := by
  constructor
  · rintro ⟨x', h1, h2, h3, h4, h5⟩; exact ⟨x', h1, h2, h3, h4, by omega⟩
  · rintro ⟨x', h1, h2, h3, h4, h5⟩; exact ⟨x', h1, h2, h3, h4, by omega⟩
theorem N1d.start {S : List Bool} {c y x : Int} {v u : Nat} : N1 S c y x v u ↔ N1d S c y x (-c) v u := by
  constructor
  · exact .inl
  · rintro (h | ⟨h1, h2, h3, h4⟩)
    · exact h
    · omega
theorem N1d.stop {S : List Bool} {c y x d : Int} {v u : Nat} (hx : -40 ≤ x ∧ x < 40) (hd : d = c + 1 ∨ ((v : Int) - 40 = y → gb S v (x + 40).toNat = false)) (hdc : d ≤ c + 1) : N1d S c y x d v u ↔ N1 S c y (x + 1) v u := by
  constructor
  · rintro (⟨x', h1, h2, h3, h4, h5⟩ | ⟨h1, h2, h3, h4⟩)
    · exact ⟨x', h1, h2, h3, h4, by omega⟩
    · exact ⟨(x + 40).toNat, by omega, h2, by omega, by omega, by omega⟩
  · rintro ⟨x', h1, h2, h3, h4, h5⟩
    by_cases e : (v : Int) - 40 = y ∧ (x' : Int) - 40 = x
    · have e2 : x' = (x + 40).toNat := by omega
      rcases hd with hd | hd
      · subst e2; exact .inr ⟨e.1, h2, by omega, by omega⟩
      · rw [e2, hd e.1] at h2; cases h2
    · exact .inl ⟨x', h1, h2, h3, h4, by omega⟩
theorem N1d.put {S : List Bool} {c y x d : Int} {v u : Nat} (hy : -40 ≤ y) (hd : -c ≤ d ∧ d ≤ c) (hx : -40 ≤ x + d) (hs : gb S (y + 40).toNat (x + 40).toNat = true) : (N1d S c y x d v u ∨ (v = (y + 40).toNat ∧ u = (x + d + 40).toNat)) ↔ N1d S c y x (d + 1) v u := by
  constructor
  · rintro ((h | ⟨h1, h2, h3, h4⟩) | ⟨rfl, rfl⟩)
    · exact .inl h
    · exact .inr ⟨h1, h2, h3, by omega⟩
    · exact .inr ⟨by omega, hs, by omega, by omega⟩
  · rintro (h | ⟨h1, h2, h3, h4⟩)
    · exact .inl (.inl h)
    · by_cases e : (u : Int) - 40 = x + d
      · exact .inr ⟨by omega, by omega⟩
      · exact .inl (.inr ⟨h1, h2, h3, by omega⟩)
theorem N1d.out {S : List Bool} {c y x d : Int} {v u : Nat} (hu : u < 80) (hx : ¬ (-40 ≤ x + d ∧ x + d < 40)) : N1d S c y x d v u ↔ N1d S c y x (d + 1) v u := by
  constructor
  · rintro (h | ⟨h1, h2, h3, h4⟩)
    · exact .inl h
    · exact .inr ⟨h1, h2, h3, by omega⟩
  · rintro (h | ⟨h1, h2, h3, h4⟩)
    · exact .inl h
    · exact .inr ⟨h1, h2, h3, by omega⟩
def N2 (W : List Bool) (c y x : Int) (v u : Nat) : Prop := ∃ y' : Nat, y' < 80 ∧ gb W y' u = true ∧ (v : Int) - y' ≤ c ∧ (y' : Int) - v ≤ c ∧ ((y' : Int) - 40 < y ∨ ((y' : Int) - 40 = y ∧ (u : Int) - 40 < x))
def N2d (W : List Bool) (c y x d : Int) (v u : Nat) : Prop := N2 W c y x v u ∨ ((u : Int) - 40 = x ∧ gb W (y + 40).toNat u = true ∧ y - c ≤ (v : Int) - 40 ∧ (v : Int) - 40 < y + d)
theorem N2.line {S : List Bool} {c y : Int} {v u : Nat} (hu : u < 80) : N2 S c y 40 v u ↔ N2 S c (y + 1) (-40) v u := by
  constructor
  · rintro ⟨x', h1, h2, h3, h4, h5⟩; exact ⟨x', h1, h2, h3, h4, by omega⟩
  · rintro ⟨x', h1, h2, h3, h4, h5⟩; exact ⟨x', h1, h2, h3, h4, by omega⟩
theorem N2d.start {S : List Bool} {c y x : Int} {v u : Nat} : N2 S c y x v u ↔ N2d S c y x (-c) v u := by
  constructor
  · exact .inl
  · rintro (h | ⟨h1, h2, h3, h4⟩)
    · exact h
    · omega
theorem N2d.stop {S : List Bool} {c y x d : Int} {v u : Nat} (hy : -40 ≤ y ∧ y < 40) (hd : d = c + 1 ∨ ((u : Int) - 40 = x → gb S (y + 40).toNat u = false)) (hdc : d ≤ c + 1) : N2d S c y x d v u ↔ N2 S c y (x + 1) v u := by
  constructor
  · rintro (⟨x', h1, h2, h3, h4, h5⟩ | ⟨h1, h2, h3, h4⟩)
    · exact ⟨x', h1, h2, h3, h4, by omega⟩
    · exact ⟨(y + 40).toNat, by omega, h2, by omega, by omega, by omega⟩
  · rintro ⟨x', h1, h2, h3, h4, h5⟩
    by_cases e : (u : Int) - 40 = x ∧ (x' : Int) - 40 = y
    · have e2 : x' = (y + 40).toNat := by omega
      rcases hd with hd | hd
      · subst e2; exact .inr ⟨e.1, h2, by omega, by omega⟩
      · rw [e2, hd e.1] at h2; cases h2
    · exact .inl ⟨x', h1, h2, h3, h4, by omega⟩
theorem N2d.put {S : List Bool} {c y x d : Int} {v u : Nat} (hx : -40 ≤ x) (hd : -c ≤ d ∧ d ≤ c) (hy : -40 ≤ y + d) (hs : gb S (y + 40).toNat (x + 40).toNat = true) : (N2d S c y x d v u ∨ (v = (y + d + 40).toNat ∧ u = (x + 40).toNat)) ↔ N2d S c y x (d + 1) v u := by
  constructor
  · rintro ((h | ⟨h1, h2, h3, h4⟩) | ⟨rfl, rfl⟩)
    · exact .inl h
    · exact .inr ⟨h1, h2, h3, by omega⟩
    · exact .inr ⟨by omega, hs, by omega, by omega⟩
  · rintro (h | ⟨h1, h2, h3, h4⟩)
    · exact .inl (.inl h)
    · by_cases e : (v : Int) - 40 = y + d
      · exact .inr ⟨by omega, by omega⟩
      · exact .inl (.inr ⟨h1, h2, h3, by omega⟩)
theorem N2d.out {S : List Bool} {c y x d : Int} {v u : Nat} (hv : v < 80) (hy : ¬ (-40 ≤ y + d ∧ y + d < 40)) : N2d S c y x d v u ↔ N2d S c y x (d + 1) v u := by
  constructor
  · rintro (h | ⟨h1, h2, h3, h4⟩)
    · exact .inl h
    · exact .inr ⟨h1, h2, h3, by omega⟩
  · rintro (h | ⟨h1, h2, h3, h4⟩)
    · exact .inl h
    · exact .inr ⟨h1, h2, h3, by omega⟩
theorem near_grow {S W E : List Bool} {c : Int} (hW : Is W (N1 S c 40 (-40))) (hE : Is E (N2 W c 40 (-40))) : E = growB S c := gb_ext hE.1 (growB_len _ _) fun y x hy hx => by
  rw [Bool.eq_iff_iff, hE.2 y x hy hx, growB_iff hy hx]
  constructor
  · rintro ⟨y', h1, h2, h3, h4, _⟩
    obtain ⟨x', g1, g2, g3, g4, _⟩ := (hW.2 y' x h1 hx).1 h2
    exact ⟨y', x', h1, g1, by omega, by omega, by omega, by omega, g2⟩
  · rintro ⟨y', x', h1, h2, h3, h4, h5, h6, h7⟩
    exact ⟨y', h1, (hW.2 y' x h1 hx).2 ⟨x', h2, h7, by omega, by omega, by omega⟩, by omega, by omega, by omega⟩
theorem near_s {v : Value} {S : List Bool} {c : Int} (h1 : Rs G L boolT v S) (hS : S.length = 6400) (hc : 0 ≤ c ∧ c ≤ 8) (k : ∀ v', R v' G (osl 4 boolT v' (growB S c) :: L)) : CallT Tryz.prog 114 #[v, vi c] G L R := by
  refine CallT.enter (args := _) Tryz.func114 rfl rfl (by kernel_rfl) rfl ?_
  refine WP.seq ?_
  refine WP.region ?_
  refine RG.pv rfl (PV.asg rfl rfl) ?_
  refine RG.nil ?_
  refine WP.seq ?_
  refine WP.region ?_
  refine RG.pv rfl (PV.move (v := v) rfl rfl) ?_
  refine RG.pv rfl (PV.len (v := v) rfl Tryz.underlying111 rfl (SlF.r h1)) ?_
  refine RG.ot rfl (OT.make (F := boolT) (a0 := false) rfl El111 rfl (by decide) rfl rfl (by omega) (by omega) fun v15 => ?_)
  refine RG.pv rfl (PV.asg (v := v15) rfl rfl) ?_
  refine RG.nil ?_
  refine WP.seq ?_
  refine WP.region ?_
  refine RG.pv rfl (PV.move (v := v) rfl rfl) ?_
  refine RG.pv rfl (PV.len (v := v) rfl Tryz.underlying111 rfl (SlF.r h1)) ?_
  refine RG.ot rfl (OT.make (F := boolT) (a0 := false) rfl El111 rfl (by decide) rfl rfl (by omega) (by omega) fun v18 => ?_)
  refine RG.pv rfl (PV.asg (v := v18) rfl rfl) ?_
  refine RG.nil ?_
  refine WP.seq ?_
  refine WP.seq ?_
  refine WP.region ?_
  refine RG.pv rfl (PV.mvI (.inr rfl) rfl) ?_
  refine RG.nil ?_
  refine WP.block ?_
  refine WP.loop2 [0, 1, 5, 6] (fun (y : Int) (W : List Bool) => (-40 ≤ y ∧ y ≤ 40) ∧ Is W (N1 S c y (-40))) (fun (y : Int) (W : List Bool) => [(7, vi y)]) (fun (y : Int) (W : List Bool) => osl 4 boolT v15 W :: osl 4 boolT v18 (List.replicate S.length false) :: L) (fun (y : Int) (W : List Bool) => (40 - y).toNat) (-40) (List.replicate S.length false) ⟨by omega, Is.none _ hS fun v u hv hu => by rintro ⟨x', h1, h2, h3, h4, h5⟩; omega⟩ ⟨rfl, trivial⟩ Cv.p ?_
  rintro y W τ ⟨hy, hW⟩
  refine WP.seq ?_
  refine WP.seq ?_
  refine WP.region ?_
  refine RG.pv rfl (PV.mvI (.inl rfl) rfl) ?_
  refine RG.pv rfl (PV.lss rfl rfl rfl) ?_
  refine RG.nil ?_
  have hWl := hW.1
  refine WP.cond rfl (fun h2 => ?_) (fun h2 => ?_)
  · have h2 := of_decide_eq_true h2
    refine WP.skip ?_
    refine WP.seq ?_
    refine WP.block ?_
    refine WP.seq ?_
    refine WP.region ?_
    refine RG.pv rfl (PV.mvI (.inr rfl) rfl) ?_
    refine RG.nil ?_
    refine WP.block ?_
    refine WP.loop2 [0, 1, 5, 6, 7] (fun (x : Int) (W1 : List Bool) => (-40 ≤ x ∧ x ≤ 40) ∧ Is W1 (N1 S c y x)) (fun (x : Int) (W1 : List Bool) => [(8, vi x)]) (fun (x : Int) (W1 : List Bool) => osl 4 boolT v15 W1 :: osl 4 boolT v18 (List.replicate S.length false) :: L) (fun (x : Int) (W1 : List Bool) => (40 - x).toNat) (-40) W ⟨by omega, hW⟩ ⟨rfl, trivial⟩ Cv.p ?_
    rintro x W1 τ1 ⟨hx, hW1⟩
    refine WP.seq ?_
    refine WP.seq ?_
    refine WP.region ?_
    refine RG.pv rfl (PV.mvI (.inl rfl) rfl) ?_
    refine RG.pv rfl (PV.lss rfl rfl rfl) ?_
    refine RG.nil ?_
    have hWl1 := hW1.1
    refine WP.cond rfl (fun h3 => ?_) (fun h3 => ?_)
    · have h3 := of_decide_eq_true h3
      have hat := at_eq (x := x) (y := y) (by omega) (by omega)
      refine WP.skip ?_
      refine WP.seq ?_
      refine WP.block ?_
      refine WP.seq ?_
      refine WP.region ?_
      refine RG.pv rfl (PV.mvI (.inl rfl) rfl) ?_
      refine RG.pv rfl (PV.neg rfl rfl (by omega)) ?_
      refine RG.pv rfl (PV.mvI (.inr rfl) rfl) ?_
      refine RG.nil ?_
      refine WP.block ?_
      refine WP.loop2 [0, 1, 5, 6, 7, 8] (fun (d : Int) (W2 : List Bool) => (-c ≤ d ∧ d ≤ c + 1) ∧ Is W2 (N1d S c y x d)) (fun (d : Int) (W2 : List Bool) => [(9, vi d)]) (fun (d : Int) (W2 : List Bool) => osl 4 boolT v15 W2 :: osl 4 boolT v18 (List.replicate S.length false) :: L) (fun (d : Int) (W2 : List Bool) => (c + 1 - d).toNat) (-c) W1 ⟨by omega, hW1.congr fun v u _ _ => N1d.start⟩ ⟨rfl, trivial⟩ Cv.p ?_
      rintro d W2 τ2 ⟨hd, hW2⟩
      refine WP.seq ?_
      refine WP.seq ?_
      refine WP.region ?_
      refine RG.pv rfl (PV.mvI (.inl rfl) rfl) ?_
      refine RG.pv rfl (PV.mvI (.inl rfl) rfl) ?_
      refine RG.pv rfl (PV.leq rfl rfl rfl) ?_
      refine RG.pv rfl (PV.mvB (.inl rfl) rfl) ?_
      refine RG.gs rfl rfl rfl (fun hp => (PV.move (v := v) rfl rfl)) ?_
      refine RG.gs rfl rfl rfl (fun hp => (PV.mvI (.inl rfl) rfl)) ?_
      refine RG.gs rfl rfl rfl (fun hp => (PV.mvI (.inl rfl) rfl)) ?_
      refine RG.gsC rfl rfl rfl rfl En169 (fun hp => ⟨_, (acons (gs_t hp) (acons (gs_t hp) anil)), l17At_s (by first | omega | (simp at hp; omega)) (by first | omega | (simp at hp; omega)) ⟨rfl, rfl, rfl⟩⟩) ?_
      refine RG.gs rfl rfl rfl (fun hp => (PV.idxS (j := ((y + 40) * 80 + x + 40).toNat) (v := v) rfl Is111 (gs_t hp) (SlF.r h1) (gs_t hp) (by first | omega | (simp at hp; omega)) (by first | omega | (simp at hp; omega)))) ?_
      refine RG.gs rfl rfl rfl (fun hp => (PV.loadE1 rfl Sc4 (gs_t hp) rfl (El.r h1 (getG (by first | omega | (simp at hp; omega)))) rfl)) ?_
      refine RG.pv rfl (PV.pickA rfl rfl (fun hq => gs_t (geqT hq)) rfl) ?_
      refine RG.nil ?_
      have hWl2 := hW2.1
      refine WP.cond rfl (fun h4 => ?_) (fun h4 => ?_)
      · have h4' : d ≤ c ∧ gb S (y + 40).toNat (x + 40).toNat = true := by rw [gb, ← hat]; simpa using h4
        have h4 := h4'.1
        refine WP.skip ?_
        refine WP.seq ?_
        refine WP.block ?_
        refine WP.seq ?_
        refine WP.region ?_
        refine RG.pv rfl (PV.mvI (.inl rfl) rfl) ?_
        refine RG.pv rfl (PV.mvI (.inl rfl) rfl) ?_
        refine RG.pv rfl (PV.add rfl rfl rfl (by omega)) ?_
        refine RG.pv rfl (PV.mvI (.inl rfl) rfl) ?_
        refine RG.callF (vs := [_, _]) rfl rfl En170 rfl (l17Inside_s ?_)
        refine RG.nil ?_
        refine WP.cond rfl (fun h5 => ?_) (fun h5 => ?_)
        · have h5 : (-40 ≤ x + d ∧ x + d < 40) ∧ -40 ≤ y ∧ y < 40 := by simpa using h5
          have hat2 := at_eq (x := x + d) (y := y) (by omega) (by omega)
          refine WP.region ?_
          refine RG.pv rfl (PV.move (v := v15) rfl rfl) ?_
          refine RG.pv rfl (PV.mvI (.inl rfl) rfl) ?_
          refine RG.pv rfl (PV.mvI (.inl rfl) rfl) ?_
          refine RG.pv rfl (PV.add rfl rfl rfl (by omega)) ?_
          refine RG.pv rfl (PV.mvI (.inl rfl) rfl) ?_
          refine RG.callF (vs := [_, _]) rfl rfl En169 rfl (l17At_s (by first | omega | (simp at hp; omega)) (by first | omega | (simp at hp; omega)) ?_)
          refine RG.pv rfl (PV.idxS (j := ((y + 40) * 80 + (x + d) + 40).toNat) (v := v15) rfl Is111 rfl SlF.o rfl (by first | omega | (simp only [List.length_set]; omega)) (by first | omega | (simp only [List.length_set]; omega))) ?_
          refine RG.ot rfl (OT.storeE (F := boolT) rfl Sz4 rfl rfl rfl (Cl.c rfl) (OneC.c rfl) (by first | omega | (simp only [List.length_set]; omega)) ?_)
          refine RG.nil ?_
          refine WP.region ?_
          refine RG.pv rfl (PV.mvI (.inl rfl) rfl) ?_
          refine RG.pv rfl (PV.add rfl rfl rfl (by omega)) ?_
          refine RG.pv rfl (PV.mvI (.inr rfl) rfl) ?_
          refine RG.nil ?_
          exact ⟨rfl, d + 1, (W2.set ((y + 40) * 80 + (x + d) + 40).toNat true), ⟨by omega, by rw [hat2]; exact (hW2.set (by omega) (by omega)).congr fun v u _ _ => N1d.put (by omega) (by omega) (by omega) h4'.2⟩, ⟨rfl, trivial⟩, ⟨rfl, rfl, rfl, rfl, rfl, rfl, trivial⟩, Cv.p, by omega⟩
        · have h5 : ¬ (-40 ≤ x + d ∧ x + d < 40) := by
            intro h6
            have h7 : ((-40 ≤ x + d ∧ x + d < 40) ∧ -40 ≤ y ∧ y < 40) := ⟨h6, by omega⟩
            simp [h7.1.1, h7.1.2, h7.2.1, h7.2.2] at h5
          refine WP.skip ?_
          refine WP.region ?_
          refine RG.pv rfl (PV.mvI (.inl rfl) rfl) ?_
          refine RG.pv rfl (PV.add rfl rfl rfl (by omega)) ?_
          refine RG.pv rfl (PV.mvI (.inr rfl) rfl) ?_
          refine RG.nil ?_
          exact ⟨rfl, d + 1, W2, ⟨by omega, hW2.congr fun v u _ hu => N1d.out hu h5⟩, ⟨rfl, trivial⟩, ⟨rfl, rfl, rfl, rfl, rfl, rfl, trivial⟩, Cv.p, by omega⟩
      · have h4' : d = c + 1 ∨ gb S (y + 40).toNat (x + 40).toNat = false := by
          by_cases c1 : d ≤ c
          · right; rw [gb, ← hat]; simpa [c1] using h4
          · left; omega
        refine WP.exit ?_
        refine WP.region ?_
        refine RG.pv rfl (PV.mvI (.inl rfl) rfl) ?_
        refine RG.pv rfl (PV.add rfl rfl rfl (by omega)) ?_
        refine RG.pv rfl (PV.mvI (.inr rfl) rfl) ?_
        refine RG.nil ?_
        exact ⟨rfl, x + 1, W2, ⟨by omega, hW2.congr fun v u _ _ => N1d.stop (by omega) (h4'.imp id fun e hv => by rw [show v = (y + 40).toNat by omega]; exact e) (by omega)⟩, ⟨rfl, trivial⟩, ⟨rfl, rfl, rfl, rfl, rfl, trivial⟩, Cv.p, by omega⟩
    · obtain rfl : x = 40 := by have h3 := of_decide_eq_false h3; omega
      refine WP.exit ?_
      refine WP.region ?_
      refine RG.pv rfl (PV.mvI (.inl rfl) rfl) ?_
      refine RG.pv rfl (PV.add rfl rfl rfl (by omega)) ?_
      refine RG.pv rfl (PV.mvI (.inr rfl) rfl) ?_
      refine RG.nil ?_
      exact ⟨rfl, y + 1, W1, ⟨by omega, hW1.congr fun v u _ _ => N1.line⟩, ⟨rfl, trivial⟩, ⟨rfl, rfl, rfl, rfl, trivial⟩, Cv.p, by omega⟩
  · obtain rfl : y = 40 := by have h2 := of_decide_eq_false h2; omega
    refine WP.exit ?_
    refine WP.seq ?_
    refine WP.seq ?_
    refine WP.region ?_
    refine RG.pv rfl (PV.mvI (.inr rfl) rfl) ?_
    refine RG.nil ?_
    refine WP.block ?_
    refine WP.loop2 [1, 5, 6] (fun (y : Int) (E : List Bool) => (-40 ≤ y ∧ y ≤ 40) ∧ Is E (N2 W c y (-40))) (fun (y : Int) (E : List Bool) => [(10, vi y)]) (fun (y : Int) (E : List Bool) => osl 4 boolT v15 W :: osl 4 boolT v18 E :: L) (fun (y : Int) (E : List Bool) => (40 - y).toNat) (-40) (List.replicate S.length false) ⟨by omega, Is.none _ hS fun v u hv hu => by rintro ⟨x', h1, h2, h3, h4, h5⟩; omega⟩ ⟨rfl, trivial⟩ Cv.p ?_
    rintro y E τ3 ⟨hy2, hE⟩
    refine WP.seq ?_
    refine WP.seq ?_
    refine WP.region ?_
    refine RG.pv rfl (PV.mvI (.inl rfl) rfl) ?_
    refine RG.pv rfl (PV.lss rfl rfl rfl) ?_
    refine RG.nil ?_
    have hEl := hE.1
    refine WP.cond rfl (fun h2 => ?_) (fun h2 => ?_)
    · have h2 := of_decide_eq_true h2
      refine WP.skip ?_
      refine WP.seq ?_
      refine WP.block ?_
      refine WP.seq ?_
      refine WP.region ?_
      refine RG.pv rfl (PV.mvI (.inr rfl) rfl) ?_
      refine RG.nil ?_
      refine WP.block ?_
      refine WP.loop2 [1, 5, 6, 10] (fun (x : Int) (E1 : List Bool) => (-40 ≤ x ∧ x ≤ 40) ∧ Is E1 (N2 W c y x)) (fun (x : Int) (E1 : List Bool) => [(11, vi x)]) (fun (x : Int) (E1 : List Bool) => osl 4 boolT v15 W :: osl 4 boolT v18 E1 :: L) (fun (x : Int) (E1 : List Bool) => (40 - x).toNat) (-40) E ⟨by omega, hE⟩ ⟨rfl, trivial⟩ Cv.p ?_
      rintro x E1 τ1 ⟨hx, hE1⟩
      refine WP.seq ?_
      refine WP.seq ?_
      refine WP.region ?_
      refine RG.pv rfl (PV.mvI (.inl rfl) rfl) ?_
      refine RG.pv rfl (PV.lss rfl rfl rfl) ?_
      refine RG.nil ?_
      have hEl1 := hE1.1
      refine WP.cond rfl (fun h3 => ?_) (fun h3 => ?_)
      · have h3 := of_decide_eq_true h3
        have hat := at_eq (x := x) (y := y) (by omega) (by omega)
        refine WP.skip ?_
        refine WP.seq ?_
        refine WP.block ?_
        refine WP.seq ?_
        refine WP.region ?_
        refine RG.pv rfl (PV.mvI (.inl rfl) rfl) ?_
        refine RG.pv rfl (PV.neg rfl rfl (by omega)) ?_
        refine RG.pv rfl (PV.mvI (.inr rfl) rfl) ?_
        refine RG.nil ?_
        refine WP.block ?_
        refine WP.loop2 [1, 5, 6, 10, 11] (fun (d : Int) (E2 : List Bool) => (-c ≤ d ∧ d ≤ c + 1) ∧ Is E2 (N2d W c y x d)) (fun (d : Int) (E2 : List Bool) => [(12, vi d)]) (fun (d : Int) (E2 : List Bool) => osl 4 boolT v15 W :: osl 4 boolT v18 E2 :: L) (fun (d : Int) (E2 : List Bool) => (c + 1 - d).toNat) (-c) E1 ⟨by omega, hE1.congr fun v u _ _ => N2d.start⟩ ⟨rfl, trivial⟩ Cv.p ?_
        rintro d E2 τ2 ⟨hd, hE2⟩
        refine WP.seq ?_
        refine WP.seq ?_
        refine WP.region ?_
        refine RG.pv rfl (PV.mvI (.inl rfl) rfl) ?_
        refine RG.pv rfl (PV.mvI (.inl rfl) rfl) ?_
        refine RG.pv rfl (PV.leq rfl rfl rfl) ?_
        refine RG.pv rfl (PV.mvB (.inl rfl) rfl) ?_
        refine RG.gs rfl rfl rfl (fun hp => (PV.move (v := v15) rfl rfl)) ?_
        refine RG.gs rfl rfl rfl (fun hp => (PV.mvI (.inl rfl) rfl)) ?_
        refine RG.gs rfl rfl rfl (fun hp => (PV.mvI (.inl rfl) rfl)) ?_
        refine RG.gsC rfl rfl rfl rfl En169 (fun hp => ⟨_, (acons (gs_t hp) (acons (gs_t hp) anil)), l17At_s (by first | omega | (simp at hp; omega)) (by first | omega | (simp at hp; omega)) ⟨rfl, rfl, rfl⟩⟩) ?_
        refine RG.gs rfl rfl rfl (fun hp => (PV.idxS (j := ((y + 40) * 80 + x + 40).toNat) (v := v15) rfl Is111 (gs_t hp) SlF.o (gs_t hp) (by first | omega | (simp at hp; omega)) (by first | omega | (simp at hp; omega)))) ?_
        refine RG.gs rfl rfl rfl (fun hp => (PV.loadE1 rfl Sc4 (gs_t hp) rfl (El.o (getG (by first | omega | (simp at hp; omega)))) rfl)) ?_
        refine RG.pv rfl (PV.pickA rfl rfl (fun hq => gs_t (geqT hq)) rfl) ?_
        refine RG.nil ?_
        have hEl2 := hE2.1
        refine WP.cond rfl (fun h4 => ?_) (fun h4 => ?_)
        · have h4' : d ≤ c ∧ gb W (y + 40).toNat (x + 40).toNat = true := by rw [gb, ← hat]; simpa using h4
          have h4 := h4'.1
          refine WP.skip ?_
          refine WP.seq ?_
          refine WP.block ?_
          refine WP.seq ?_
          refine WP.region ?_
          refine RG.pv rfl (PV.mvI (.inl rfl) rfl) ?_
          refine RG.pv rfl (PV.mvI (.inl rfl) rfl) ?_
          refine RG.pv rfl (PV.mvI (.inl rfl) rfl) ?_
          refine RG.pv rfl (PV.add rfl rfl rfl (by omega)) ?_
          refine RG.callF (vs := [_, _]) rfl rfl En170 rfl (l17Inside_s ?_)
          refine RG.nil ?_
          refine WP.cond rfl (fun h5 => ?_) (fun h5 => ?_)
          · have h5 : (-40 ≤ x ∧ x < 40) ∧ -40 ≤ y + d ∧ y + d < 40 := by simpa using h5
            have hat2 := at_eq (x := x) (y := y + d) (by omega) (by omega)
            refine WP.region ?_
            refine RG.pv rfl (PV.move (v := v18) rfl rfl) ?_
            refine RG.pv rfl (PV.mvI (.inl rfl) rfl) ?_
            refine RG.pv rfl (PV.mvI (.inl rfl) rfl) ?_
            refine RG.pv rfl (PV.mvI (.inl rfl) rfl) ?_
            refine RG.pv rfl (PV.add rfl rfl rfl (by omega)) ?_
            refine RG.callF (vs := [_, _]) rfl rfl En169 rfl (l17At_s (by first | omega | (simp at hp; omega)) (by first | omega | (simp at hp; omega)) ?_)
            refine RG.pv rfl (PV.idxS (j := ((y + d + 40) * 80 + x + 40).toNat) (v := v18) rfl Is111 rfl SlF.o rfl (by first | omega | (simp only [List.length_set]; omega)) (by first | omega | (simp only [List.length_set]; omega))) ?_
            refine RG.ot rfl (OT.storeE (F := boolT) rfl Sz4 rfl rfl rfl (Cl.c rfl) (OneC.c rfl) (by first | omega | (simp only [List.length_set]; omega)) ?_)
            refine RG.nil ?_
            refine WP.region ?_
            refine RG.pv rfl (PV.mvI (.inl rfl) rfl) ?_
            refine RG.pv rfl (PV.add rfl rfl rfl (by omega)) ?_
            refine RG.pv rfl (PV.mvI (.inr rfl) rfl) ?_
            refine RG.nil ?_
            exact ⟨rfl, d + 1, (E2.set ((y + d + 40) * 80 + x + 40).toNat true), ⟨by omega, by rw [hat2]; exact (hE2.set (by omega) (by omega)).congr fun v u _ _ => N2d.put (by omega) (by omega) (by omega) h4'.2⟩, ⟨rfl, trivial⟩, ⟨rfl, rfl, rfl, rfl, rfl, trivial⟩, Cv.p, by omega⟩
          · have h5 : ¬ (-40 ≤ y + d ∧ y + d < 40) := by
              intro h6
              have h7 : ((-40 ≤ x ∧ x < 40) ∧ -40 ≤ y + d ∧ y + d < 40) := ⟨by omega, h6⟩
              simp [h7.1.1, h7.1.2, h7.2.1, h7.2.2] at h5
            refine WP.skip ?_
            refine WP.region ?_
            refine RG.pv rfl (PV.mvI (.inl rfl) rfl) ?_
            refine RG.pv rfl (PV.add rfl rfl rfl (by omega)) ?_
            refine RG.pv rfl (PV.mvI (.inr rfl) rfl) ?_
            refine RG.nil ?_
            exact ⟨rfl, d + 1, E2, ⟨by omega, hE2.congr fun v u hv _ => N2d.out hv h5⟩, ⟨rfl, trivial⟩, ⟨rfl, rfl, rfl, rfl, rfl, trivial⟩, Cv.p, by omega⟩
        · have h4' : d = c + 1 ∨ gb W (y + 40).toNat (x + 40).toNat = false := by
            by_cases c1 : d ≤ c
            · right; rw [gb, ← hat]; simpa [c1] using h4
            · left; omega
          refine WP.exit ?_
          refine WP.region ?_
          refine RG.pv rfl (PV.mvI (.inl rfl) rfl) ?_
          refine RG.pv rfl (PV.add rfl rfl rfl (by omega)) ?_
          refine RG.pv rfl (PV.mvI (.inr rfl) rfl) ?_
          refine RG.nil ?_
          exact ⟨rfl, x + 1, E2, ⟨by omega, hE2.congr fun v u _ _ => N2d.stop (by omega) (h4'.imp id fun e hv => by rw [show u = (x + 40).toNat by omega]; exact e) (by omega)⟩, ⟨rfl, trivial⟩, ⟨rfl, rfl, rfl, rfl, trivial⟩, Cv.p, by omega⟩
      · obtain rfl : x = 40 := by have h3 := of_decide_eq_false h3; omega
        refine WP.exit ?_
        refine WP.region ?_
        refine RG.pv rfl (PV.mvI (.inl rfl) rfl) ?_
        refine RG.pv rfl (PV.add rfl rfl rfl (by omega)) ?_
        refine RG.pv rfl (PV.mvI (.inr rfl) rfl) ?_
        refine RG.nil ?_
        exact ⟨rfl, y + 1, E1, ⟨by omega, hE1.congr fun v u _ hu => N2.line hu⟩, ⟨rfl, trivial⟩, ⟨rfl, rfl, rfl, trivial⟩, Cv.p, by omega⟩
    · obtain rfl : y = 40 := by have h2 := of_decide_eq_false h2; omega
      have e := near_grow hW hE
      rw [e]
      refine WP.exit ?_
      refine WP.seq ?_
      refine WP.region ?_
      refine RG.pv rfl (PV.move (v := v18) rfl rfl) ?_
      refine RG.pv rfl (PV.asg (v := v18) rfl rfl) ?_
      refine RG.nil ?_
      refine WP.ret ?_
      exact ⟨_, _, ResV.one rfl rfl, Cv.p, k v18⟩
def ZI (f : Bool → Bool → Bool) (D O : List Bool) (i : Nat) (E : List Bool) : Prop := E.length = 6400 ∧ (∀ j, j < i → gd E j = f (gd D j) (gd O j)) ∧ ∀ j, i ≤ j → gd E j = gd D j
theorem ZI.start {f : Bool → Bool → Bool} {D O : List Bool} (h : D.length = 6400) : ZI f D O 0 D := ⟨h, fun j hj => by omega, fun j _ => rfl⟩
theorem ZI.step {f : Bool → Bool → Bool} {D O E : List Bool} {i : Nat} (h : ZI f D O i E) (hi : i < 6400) : ZI f D O (i + 1) (E.set i (f (gd E i) (gd O i))) := ⟨by simpa using h.1, fun j hj => by
  by_cases c : j = i
  · subst c; rw [gd_setE (by rw [h.1]; exact hi), h.2.2 j (Nat.le_refl _)]
  · rw [gd_setN (fun e => c e.symm)]; exact h.2.1 j (by omega), fun j hj => by rw [gd_setN (by omega)]; exact h.2.2 j (by omega)⟩
theorem ZI.done {f : Bool → Bool → Bool} {D O E : List Bool} (h : ZI f D O 6400 E) (hD : D.length = 6400) (hO : O.length = 6400) : E = zipB f D O := by
  have hz := zipB_len (f := f) hD hO
  apply List.ext_getElem?
  intro j
  by_cases hj : j < 6400
  · rw [getG (by rw [h.1]; omega), h.2.1 j hj, zipB_get (by omega) (by omega)]
  · rw [List.getElem?_eq_none (by rw [h.1]; omega), List.getElem?_eq_none (by omega)]
def minB (p q : Bool) : Bool := p && !q
def enclL (xs ys : List Rect) (w : Int) : List Rect := if (isReg xs && isReg ys && within w 0 8) = true then canon (zipB minB (growB (bits xs) w) (bits ys)) else []
theorem markEncl_s {u v : Value} {xs ys : List Rect} {w : Int} (h1 : Rs G L rectT u xs) (h2 : Rs G L rectT v ys) (k : ∀ v', R v' G (osl 71 rectT v' (enclL xs ys w) :: L)) : CallT Tryz.prog 61 #[u, v, vi w] G L R := by
  refine CallT.enter (args := _) Tryz.func61 rfl rfl (by kernel_rfl) rfl ?_
  refine WP.seq ?_
  refine WP.region ?_
  refine RG.pv rfl (PV.asg rfl rfl) ?_
  refine RG.nil ?_
  refine WP.seq ?_
  refine WP.seq ?_
  refine WP.region ?_
  refine RG.pv rfl (PV.move (v := u) rfl rfl) ?_
  refine RG.callF (vs := [u]) rfl rfl En35 rfl (l03Ok_s (Rs.up h1) ?_)
  refine RG.pv rfl (PV.not rfl rfl) ?_
  refine RG.pv rfl (PV.mvB (.inl rfl) rfl) ?_
  refine RG.gs rfl rfl rfl (fun hp => (PV.move (v := v) rfl rfl)) ?_
  refine RG.gsC rfl rfl rfl rfl En35 (fun hp => ⟨_, (acons (gs_t hp) anil), l03Ok_s (Rs.up h2) ⟨rfl, rfl, rfl⟩⟩) ?_
  refine RG.gs rfl rfl rfl (fun hp => (PV.not rfl (gs_t hp))) ?_
  refine RG.pv rfl (PV.pickO rfl rfl rfl (fun hq => gs_t (geqF hq))) ?_
  refine RG.pv rfl (PV.mvB (.inl rfl) rfl) ?_
  refine RG.gs rfl rfl rfl (fun hp => (PV.mvI (.inl rfl) rfl)) ?_
  refine RG.gs rfl rfl rfl (fun hp => (PV.lss rfl (gs_t hp) rfl)) ?_
  refine RG.pv rfl (PV.pickO rfl rfl rfl (fun hq => gs_t (geqF hq))) ?_
  refine RG.pv rfl (PV.mvB (.inl rfl) rfl) ?_
  refine RG.gs rfl rfl rfl (fun hp => (PV.mvI (.inl rfl) rfl)) ?_
  refine RG.gs rfl rfl rfl (fun hp => (PV.gtr rfl (gs_t hp) rfl)) ?_
  refine RG.pv rfl (PV.pickO rfl rfl rfl (fun hq => gs_t (geqF hq))) ?_
  refine RG.nil ?_
  refine WP.cond rfl (fun h3 => ?_) (fun h3 => ?_)
  · have e : enclL xs ys w = [] := by
      rw [enclL, if_neg]
      intro h4
      simp only [Bool.and_eq_true, within, decide_eq_true_eq] at h4
      simp [h4.1.1, h4.1.2] at h3; omega
    rw [e] at k
    refine WP.seq ?_
    refine WP.region ?_
    refine RG.ot rfl (OT.bslice (F := rectT) (els := []) rfl El28 rfl (by decide) rfl (by decide) trivial fun v26 => ?_)
    refine RG.pv rfl (PV.asg (v := v26) rfl rfl) ?_
    refine RG.nil ?_
    refine WP.ret ?_
    exact ⟨_, _, ResV.one rfl rfl, Cv.p, k v26⟩
  · have h4 : isReg xs = true ∧ isReg ys = true ∧ 0 ≤ w ∧ w ≤ 8 := by
      cases g1 : isReg xs <;> cases g2 : isReg ys <;> simp_all
    have hreg := h4.1
    have hregy := h4.2.1
    have hwb := h4.2.2
    have hgl := growB_len (bits xs) w
    have e : enclL xs ys w = canon (zipB minB (growB (bits xs) w) (bits ys)) := by rw [enclL, if_pos]; simp [hreg, hregy, within, hwb.1, hwb.2]
    rw [e] at k
    refine WP.skip ?_
    refine WP.seq ?_
    refine WP.region ?_
    refine RG.pv rfl (PV.move (v := u) rfl rfl) ?_
    refine RG.callF (vs := [u]) rfl rfl En89 rfl (l03Bits_s (Rs.up h1) (fun i hi => valid_get (isReg_valid hreg) hi) (fun v28 => ?_))
    refine RG.pv rfl (PV.mvI (.inl rfl) rfl) ?_
    refine RG.callF (vs := [v28, _]) rfl rfl En114 rfl (near_s Rs.o (bits_length _) (by omega) (fun v30 => ?_))
    refine RG.pv rfl (PV.asg (v := v30) rfl rfl) ?_
    refine RG.nil ?_
    refine WP.seq ?_
    refine WP.region ?_
    refine RG.pv rfl (PV.move (v := v) rfl rfl) ?_
    refine RG.callF (vs := [v]) rfl rfl En89 rfl (l03Bits_s (Rs.up h2) (fun i hi => valid_get (isReg_valid hregy) hi) (fun v32 => ?_))
    refine RG.pv rfl (PV.asg (v := v32) rfl rfl) ?_
    refine RG.nil ?_
    refine WP.seq ?_
    refine WP.seq ?_
    refine WP.region ?_
    refine RG.pv rfl (PV.mvI (.inr rfl) rfl) ?_
    refine RG.nil ?_
    refine WP.block ?_
    have hby := bits_length ys
    refine WP.loop2 [7, 8] (fun (i : Nat) (E : List Bool) => i ≤ 6400 ∧ ZI minB (growB (bits xs) w) (bits ys) i E) (fun (i : Nat) (E : List Bool) => [(9, vi i)]) (fun (i : Nat) (E : List Bool) => osl 4 boolT v30 E :: osl 4 boolT v32 (bits ys) :: L) (fun (i : Nat) (E : List Bool) => 6400 - i) 0 (growB (bits xs) w) ⟨by omega, ZI.start hgl⟩ ⟨rfl, trivial⟩ Cv.p ?_
    rintro i E τ ⟨hi, hE⟩
    refine WP.seq ?_
    refine WP.seq ?_
    refine WP.region ?_
    refine RG.pv rfl (PV.mvI (.inl rfl) rfl) ?_
    refine RG.pv rfl (PV.move (v := v30) rfl rfl) ?_
    refine RG.pv rfl (PV.len (v := v30) rfl Tryz.underlying111 rfl SlF.o) ?_
    refine RG.pv rfl (PV.lss rfl rfl rfl) ?_
    refine RG.nil ?_
    have hEl := hE.1
    refine WP.cond rfl (fun h5 => ?_) (fun h5 => ?_)
    · have h5 := of_decide_eq_true h5
      refine WP.skip ?_
      refine WP.seq ?_
      refine WP.block ?_
      refine WP.region ?_
      refine RG.pv rfl (PV.move (v := v30) rfl rfl) ?_
      refine RG.pv rfl (PV.mvI (.inl rfl) rfl) ?_
      refine RG.pv rfl (PV.move (v := v30) rfl rfl) ?_
      refine RG.pv rfl (PV.mvI (.inl rfl) rfl) ?_
      refine RG.pv rfl (PV.idxS (v := v30) rfl Is111 rfl SlF.o rfl rfl (by omega)) ?_
      refine RG.pv rfl (PV.loadE1 rfl Sc4 rfl rfl (El.o (getG (by omega))) rfl) ?_
      refine RG.pv rfl (PV.mvB (.inl rfl) rfl) ?_
      refine RG.gs rfl rfl rfl (fun hp => (PV.move (v := v32) rfl rfl)) ?_
      refine RG.gs rfl rfl rfl (fun hp => (PV.mvI (.inl rfl) rfl)) ?_
      refine RG.gs rfl rfl rfl (fun hp => (PV.idxS (v := v32) rfl Is111 (gs_t hp) SlF.o (gs_t hp) rfl (by first | omega | (simp at hp; omega)))) ?_
      refine RG.gs rfl rfl rfl (fun hp => (PV.loadE1 rfl Sc4 (gs_t hp) rfl (El.o (getG (by first | omega | (simp at hp; omega)))) rfl)) ?_
      refine RG.gs rfl rfl rfl (fun hp => (PV.not rfl (gs_t hp))) ?_
      refine RG.pv rfl (PV.pickA rfl rfl (fun hq => gs_t (geqT hq)) rfl) ?_
      refine RG.pv rfl (PV.idxS (v := v30) rfl Is111 rfl SlF.o rfl rfl (by omega)) ?_
      refine RG.ot rfl (OT.storeE (F := boolT) rfl Sz4 rfl rfl rfl (Cl.c rfl) (OneC.c rfl) (by omega) ?_)
      refine RG.nil ?_
      refine WP.region ?_
      refine RG.pv rfl (PV.mvI (.inl rfl) rfl) ?_
      refine RG.pv rfl (PV.add rfl rfl rfl (by omega)) ?_
      refine RG.pv rfl (PV.mvI (.inr rfl) rfl) ?_
      refine RG.nil ?_
      exact ⟨rfl, i + 1, (E.set i (gd E i && !gd (bits ys) i)), ⟨by omega, hE.step (by omega)⟩, ⟨rfl, trivial⟩, ⟨rfl, rfl, trivial⟩, Cv.p, by omega⟩
    · have h5 := of_decide_eq_false h5
      obtain rfl : i = 6400 := by omega
      obtain rfl := hE.done hgl hby
      refine WP.exit ?_
      refine WP.seq ?_
      refine WP.region ?_
      refine RG.pv rfl (PV.move (v := v30) rfl rfl) ?_
      refine RG.callF (vs := [v30]) rfl rfl En88 rfl (l03Canon_s Rs.o hEl (fun v54 => ?_))
      refine RG.pv rfl (PV.asg (v := v54) rfl rfl) ?_
      refine RG.nil ?_
      refine WP.ret ?_
      exact ⟨_, _, ResV.one rfl rfl, Cv.p, k v54⟩
theorem or_s {u v : Value} {A B : List Bool} (h1 : Rs G L boolT u A) (h2 : Rs G L boolT v B) (hA : A.length = 6400) (hB : B.length = 6400) (k : ∀ v', R v' G (osl 4 boolT v' (orZ A B) :: L)) : CallT Tryz.prog 117 #[u, v] G L R := by
  refine CallT.enter (args := _) Tryz.func117 rfl rfl (by kernel_rfl) rfl ?_
  refine WP.seq ?_
  refine WP.region ?_
  refine RG.pv rfl (PV.asg rfl rfl) ?_
  refine RG.nil ?_
  refine WP.seq ?_
  refine WP.region ?_
  refine RG.pv rfl (PV.move (v := u) rfl rfl) ?_
  refine RG.pv rfl (PV.len (v := u) rfl Tryz.underlying111 rfl (SlF.r h1)) ?_
  refine RG.ot rfl (OT.make (F := boolT) (a0 := false) rfl El111 rfl (by decide) rfl rfl (by omega) (by omega) fun v9 => ?_)
  refine RG.pv rfl (PV.asg (v := v9) rfl rfl) ?_
  refine RG.nil ?_
  refine WP.seq ?_
  refine WP.seq ?_
  refine WP.region ?_
  refine RG.pv rfl (PV.mvI (.inr rfl) rfl) ?_
  refine RG.nil ?_
  refine WP.block ?_
  refine WP.loop2 [0, 1, 5] (fun (i : Nat) (E : List Bool) => i ≤ A.length ∧ E = (List.range i).map (fun j => gd A j || gd B j) ++ List.replicate (A.length - i) false) (fun (i : Nat) (E : List Bool) => [(6, vi i)]) (fun (i : Nat) (E : List Bool) => osl 4 boolT v9 E :: L) (fun (i : Nat) (E : List Bool) => A.length - i) 0 (List.replicate A.length false) ⟨by omega, by simp⟩ ⟨rfl, trivial⟩ Cv.p ?_
  rintro i E τ ⟨hi, hE⟩
  refine WP.seq ?_
  refine WP.seq ?_
  refine WP.region ?_
  refine RG.pv rfl (PV.mvI (.inl rfl) rfl) ?_
  refine RG.pv rfl (PV.move (v := u) rfl rfl) ?_
  refine RG.pv rfl (PV.len (v := u) rfl Tryz.underlying111 rfl (SlF.r h1)) ?_
  refine RG.pv rfl (PV.lss rfl rfl rfl) ?_
  refine RG.nil ?_
  have hEl : E.length = A.length := by rw [hE]; simp; omega
  refine WP.cond rfl (fun h5 => ?_) (fun h5 => ?_)
  · have h5 := of_decide_eq_true h5
    have hn := mapB_set (f := fun j => gd A j || gd B j) (n := A.length) (i := i) (by omega) hE
    refine WP.skip ?_
    refine WP.seq ?_
    refine WP.block ?_
    refine WP.region ?_
    refine RG.pv rfl (PV.move (v := v9) rfl rfl) ?_
    refine RG.pv rfl (PV.mvI (.inl rfl) rfl) ?_
    refine RG.pv rfl (PV.move (v := u) rfl rfl) ?_
    refine RG.pv rfl (PV.mvI (.inl rfl) rfl) ?_
    refine RG.pv rfl (PV.idxS (v := u) rfl Is111 rfl (SlF.r h1) rfl rfl (by omega)) ?_
    refine RG.pv rfl (PV.loadE1 rfl Sc4 rfl rfl (El.r h1 (getG (by omega))) rfl) ?_
    refine RG.pv rfl (PV.mvB (.inl rfl) rfl) ?_
    refine RG.gs rfl rfl rfl (fun hp => (PV.move (v := v) rfl rfl)) ?_
    refine RG.gs rfl rfl rfl (fun hp => (PV.mvI (.inl rfl) rfl)) ?_
    refine RG.gs rfl rfl rfl (fun hp => (PV.idxS (v := v) rfl Is111 (gs_t hp) (SlF.r h2) (gs_t hp) rfl (by first | omega | (simp at hp; omega)))) ?_
    refine RG.gs rfl rfl rfl (fun hp => (PV.loadE1 rfl Sc4 (gs_t hp) rfl (El.r h2 (getG (by first | omega | (simp at hp; omega)))) rfl)) ?_
    refine RG.pv rfl (PV.pickO rfl rfl rfl (fun hq => gs_t (geqF hq))) ?_
    refine RG.pv rfl (PV.idxS (v := v9) rfl Is111 rfl SlF.o rfl rfl (by omega)) ?_
    refine RG.ot rfl (OT.storeE (F := boolT) rfl Sz4 rfl rfl rfl (Cl.c rfl) (OneC.c rfl) (by omega) ?_)
    refine RG.nil ?_
    refine WP.region ?_
    refine RG.pv rfl (PV.mvI (.inl rfl) rfl) ?_
    refine RG.pv rfl (PV.add rfl rfl rfl (by omega)) ?_
    refine RG.pv rfl (PV.mvI (.inr rfl) rfl) ?_
    refine RG.nil ?_
    exact ⟨rfl, i + 1, (E.set i (gd A i || gd B i)), ⟨by omega, hn⟩, ⟨rfl, trivial⟩, ⟨rfl, rfl, rfl, trivial⟩, Cv.p, by omega⟩
  · have h5 := of_decide_eq_false h5
    obtain rfl : i = A.length := by omega
    have hE' : E = orZ A B := by rw [hE, Nat.sub_self, List.replicate_zero, List.append_nil]; rfl
    rw [hE']
    refine WP.exit ?_
    refine WP.seq ?_
    refine WP.region ?_
    refine RG.pv rfl (PV.move (v := v9) rfl rfl) ?_
    refine RG.pv rfl (PV.asg (v := v9) rfl rfl) ?_
    refine RG.nil ?_
    refine WP.ret ?_
    exact ⟨_, _, ResV.one rfl rfl, Cv.p, k v9⟩
theorem orZ_gb {A B : List Bool} (hA : A.length = 6400) {y x : Nat} (hy : y < 80) (hx : x < 80) : gb (orZ A B) y x = (gb A y x || gb B y x) := by
  have h : y * 80 + x < (orZ A B).length := by rw [orZ_len]; omega
  rw [gb, gd_eq h]; simp [orZ, gb]
/-- the cells of the components of a set with fewer than w cells -/
def Small (S : List Bool) (w : Int) (y x : Nat) : Prop := ∃ c ∈ comps S, cnt c < w ∧ gb c y x = true
noncomputable def areaL (xs : List Rect) (w : Int) : List Rect := if (isReg xs && within w 1 6400) = true then canon (celL (Small (bits xs) w)) else []
def SmallN (cs : List (List Bool)) (w : Int) (y x : Nat) : Prop := ∃ c ∈ cs, cnt c < w ∧ gb c y x = true
theorem SmallN.next {cs : List (List Bool)} {w : Int} {y x i : Nat} (h : i < cs.length) : SmallN (cs.take (i + 1)) w y x ↔ SmallN (cs.take i) w y x ∨ (cnt (gd cs i) < w ∧ gb (gd cs i) y x = true) := by
  unfold SmallN
  rw [List.take_add_one, getG h]
  constructor
  · rintro ⟨c, hc, h1⟩
    rcases List.mem_append.1 hc with h2 | h2
    · exact .inl ⟨c, h2, h1⟩
    · simp only [Option.toList, List.mem_singleton] at h2; subst h2; exact .inr h1
  · rintro (⟨c, hc, h1⟩ | h1)
    · exact ⟨c, List.mem_append_left _ hc, h1⟩
    · exact ⟨_, List.mem_append_right _ (by simp), h1⟩
theorem markArea_s {v : Value} {xs : List Rect} {w : Int} (h1 : Rs G L rectT v xs) (k : ∀ v', R v' G (osl 71 rectT v' (areaL xs w) :: L)) : CallT Tryz.prog 62 #[v, vi w] G L R := by
  refine CallT.enter (args := _) Tryz.func62 rfl rfl (by kernel_rfl) rfl ?_
  refine WP.seq ?_
  refine WP.region ?_
  refine RG.pv rfl (PV.asg rfl rfl) ?_
  refine RG.nil ?_
  refine WP.seq ?_
  refine WP.seq ?_
  refine WP.region ?_
  refine RG.pv rfl (PV.move (v := v) rfl rfl) ?_
  refine RG.callF (vs := [v]) rfl rfl En35 rfl (l03Ok_s (Rs.up h1) ?_)
  refine RG.pv rfl (PV.not rfl rfl) ?_
  refine RG.pv rfl (PV.mvB (.inl rfl) rfl) ?_
  refine RG.gs rfl rfl rfl (fun hp => (PV.mvI (.inl rfl) rfl)) ?_
  refine RG.gs rfl rfl rfl (fun hp => (PV.lss rfl (gs_t hp) rfl)) ?_
  refine RG.pv rfl (PV.pickO rfl rfl rfl (fun hq => gs_t (geqF hq))) ?_
  refine RG.pv rfl (PV.mvB (.inl rfl) rfl) ?_
  refine RG.gs rfl rfl rfl (fun hp => (PV.mvI (.inl rfl) rfl)) ?_
  refine RG.gs rfl rfl rfl (fun hp => (PV.gtr rfl (gs_t hp) rfl)) ?_
  refine RG.pv rfl (PV.pickO rfl rfl rfl (fun hq => gs_t (geqF hq))) ?_
  refine RG.nil ?_
  refine WP.cond rfl (fun h3 => ?_) (fun h3 => ?_)
  · have e : areaL xs w = [] := by
      rw [areaL, if_neg]
      intro h4
      simp only [Bool.and_eq_true, within, decide_eq_true_eq] at h4
      simp [h4.1] at h3; omega
    rw [e] at k
    refine WP.seq ?_
    refine WP.region ?_
    refine RG.ot rfl (OT.bslice (F := rectT) (els := []) rfl El28 rfl (by decide) rfl (by decide) trivial fun v19 => ?_)
    refine RG.pv rfl (PV.asg (v := v19) rfl rfl) ?_
    refine RG.nil ?_
    refine WP.ret ?_
    exact ⟨_, _, ResV.one rfl rfl, Cv.p, k v19⟩
  · have h4 : isReg xs = true ∧ 1 ≤ w ∧ w ≤ 6400 := by cases g1 : isReg xs <;> simp_all
    have hreg : isReg xs = true := h4.1
    refine WP.skip ?_
    refine WP.seq ?_
    refine WP.region ?_
    refine RG.ot rfl (OT.make (m := 6400) (F := boolT) (a0 := false) rfl El111 rfl (by decide) rfl rfl (by omega) (by omega) fun v20 => ?_)
    refine RG.pv rfl (PV.asg (v := v20) rfl rfl) ?_
    refine RG.nil ?_
    refine WP.seq ?_
    refine WP.region ?_
    refine RG.pv rfl (PV.move (v := v) rfl rfl) ?_
    refine RG.callF (vs := [v]) rfl rfl En89 rfl (l03Bits_s (Rs.up h1) (fun i hi => valid_get (isReg_valid hreg) hi) (fun v22 => ?_))
    refine RG.callF (vs := [v22]) rfl rfl En115 rfl (comps_s Rs.o (bits_length _) (fun v23 zsv23 hev23 => ?_))
    refine RG.pv rfl (PV.asg (v := v23) rfl rfl) ?_
    refine RG.nil ?_
    refine WP.seq ?_
    refine WP.seq ?_
    refine WP.region ?_
    refine RG.pv rfl (PV.mvI (.inr rfl) rfl) ?_
    refine RG.nil ?_
    refine WP.block ?_
    have hcl : zsv23.length = (comps (bits xs)).length := by have := congrArg List.length hev23; rwa [er_len] at this
    have hzl : zsv23.length ≤ 6400 := by rw [hcl]; exact comps_len _
    have hl6 : ∀ i, i < zsv23.length → (gd zsv23 i).xs.length = 6400 := fun i hi => by
      rw [← er_gd, hev23]
      exact comps_mem (gd_mem (by omega))
    refine WP.loop3 [1, 6] (fun (i : Nat) (E : List Bool) (q : Value) => i ≤ zsv23.length ∧ Is E (SmallN ((comps (bits xs)).take i) w)) (fun (i : Nat) (E : List Bool) (q : Value) => [(7, vi i), (5, q)]) (fun (i : Nat) (E : List Bool) (q : Value) => osl 4 boolT q E :: osl 111 slT v23 zsv23 :: bagS 4 boolT zsv23 :: L) (fun (i : Nat) (E : List Bool) (q : Value) => zsv23.length - i) 0 (List.replicate 6400 false) v20 ⟨by omega, Is.none _ rfl fun v u _ _ => by rintro ⟨c, hc, _⟩; simp at hc⟩ ⟨rfl, rfl, trivial⟩ Cv.p ?_
    rintro i E q τ ⟨hi, hE⟩
    refine WP.seq ?_
    refine WP.seq ?_
    refine WP.region ?_
    refine RG.pv rfl (PV.mvI (.inl rfl) rfl) ?_
    refine RG.pv rfl (PV.move (v := v23) rfl rfl) ?_
    refine RG.pv rfl (PV.len (v := v23) rfl Tryz.underlying131 rfl SlF.o) ?_
    refine RG.pv rfl (PV.lss rfl rfl rfl) ?_
    refine RG.nil ?_
    have hEl := hE.1
    refine WP.cond rfl (fun h5 => ?_) (fun h5 => ?_)
    · have h5 := of_decide_eq_true h5
      have hgi : gd (comps (bits xs)) i = (gd zsv23 i).xs := by rw [← hev23, er_gd]
      have hnx := fun y x => SmallN.next (cs := comps (bits xs)) (w := w) (y := y) (x := x) (i := i) (by omega)
      rw [hgi] at hnx
      refine WP.skip ?_
      refine WP.seq ?_
      refine WP.block ?_
      refine WP.seq ?_
      refine WP.region ?_
      refine RG.pv rfl (PV.move (v := v23) rfl rfl) ?_
      refine RG.pv rfl (PV.mvI (.inl rfl) rfl) ?_
      refine RG.pv rfl (PV.idxS (v := v23) rfl Is131 rfl SlF.o rfl rfl (by omega)) ?_
      refine RG.pv rfl (PV.loadE1 rfl Sc111 rfl rfl (El.o (getG (by omega))) rfl) ?_
      refine RG.callF (vs := [_]) rfl rfl En116 rfl (l19Count_s (Rs.inBag (xs := zsv23) i (by omega)) (hl6 i (by omega)) ?_)
      refine RG.pv rfl (PV.mvI (.inl rfl) rfl) ?_
      refine RG.pv rfl (PV.lss rfl rfl rfl) ?_
      refine RG.nil ?_
      refine WP.cond rfl (fun h6 => ?_) (fun h6 => ?_)
      · have h6 : cnt (gd zsv23 i).xs < w := by simpa using h6
        have hnE : Is (orZ E (gd zsv23 i).xs) (SmallN ((comps (bits xs)).take (i + 1)) w) := ⟨by rw [orZ_len]; exact hEl, fun y x hy hx => by rw [orZ_gb hEl hy hx, Bool.or_eq_true, hE.2 y x hy hx, hnx]; simp [h6]⟩
        refine WP.region ?_
        refine RG.pv rfl (PV.move (v := q) rfl rfl) ?_
        refine RG.pv rfl (PV.move (v := v23) rfl rfl) ?_
        refine RG.pv rfl (PV.mvI (.inl rfl) rfl) ?_
        refine RG.pv rfl (PV.idxS (v := v23) rfl Is131 rfl SlF.o rfl rfl (by omega)) ?_
        refine RG.pv rfl (PV.loadE1 rfl Sc111 rfl rfl (El.o (getG (by omega))) rfl) ?_
        refine RG.callF (vs := [q, _]) rfl rfl En117 rfl (or_s Rs.o (Rs.inBag (xs := zsv23) i (by omega)) hEl (hl6 i (by omega)) (fun v42 => ?_))
        refine RG.pv rfl (PV.asg (v := v42) rfl rfl) ?_
        refine RG.nil ?_
        refine WP.region ?_
        refine RG.pv rfl (PV.mvI (.inl rfl) rfl) ?_
        refine RG.pv rfl (PV.add rfl rfl rfl (by omega)) ?_
        refine RG.pv rfl (PV.mvI (.inr rfl) rfl) ?_
        refine RG.nil ?_
        exact ⟨rfl, i + 1, (orZ E (gd zsv23 i).xs), v42, ⟨by omega, hnE⟩, ⟨rfl, rfl, trivial⟩, ⟨rfl, rfl, trivial⟩, Cv.p, by omega⟩
      · have h6 : ¬ cnt (gd zsv23 i).xs < w := by simpa using h6
        have hnE : Is E (SmallN ((comps (bits xs)).take (i + 1)) w) := hE.congr fun y x _ _ => by rw [hnx]; simp [h6]
        refine WP.skip ?_
        refine WP.region ?_
        refine RG.pv rfl (PV.mvI (.inl rfl) rfl) ?_
        refine RG.pv rfl (PV.add rfl rfl rfl (by omega)) ?_
        refine RG.pv rfl (PV.mvI (.inr rfl) rfl) ?_
        refine RG.nil ?_
        exact ⟨rfl, i + 1, E, q, ⟨by omega, hnE⟩, ⟨rfl, rfl, trivial⟩, ⟨rfl, rfl, trivial⟩, Cv.p, by omega⟩
    · have h5 := of_decide_eq_false h5
      have e : areaL xs w = canon E := by
        rw [List.take_of_length_le (by omega)] at hE
        rw [areaL, if_pos (by simp [hreg, within, h4.2.1, h4.2.2])]
        exact congrArg canon (celL_eq (P := Small (bits xs) w) hE.1 hE.2).symm
      rw [e] at k
      refine WP.exit ?_
      refine WP.seq ?_
      refine WP.region ?_
      refine RG.pv rfl (PV.move (v := q) rfl rfl) ?_
      refine RG.callF (vs := [q]) rfl rfl En88 rfl (l03Canon_s Rs.o hEl (fun v44 => ?_))
      refine RG.pv rfl (PV.asg (v := v44) rfl rfl) ?_
      refine RG.nil ?_
      refine WP.ret ?_
      exact ⟨_, _, ResV.one rfl rfl, Cv.p, k v44⟩
end Go.Proofs.YtpjajhjcbcfplaaGreat
namespace Go.Proofs.YtpjajhjcbcfplaaGreat
set_option linter.unusedVariables false
set_option linter.unusedSimpArgs false
open Go
set_option maxRecDepth 20000
set_option linter.unusedSimpArgs false
variable {G : Gh} {L : List Ch} {R : Value → Gh → List Ch → Prop}
def winR (w y x : Int) : Rect := ⟨x, y, min (x + w) 40, min (y + w) 40⟩
def winX (w y x : Int) : List Rect := if x < 40 ∧ 0 < w then winR w y x :: winX w y (x + w) else []
termination_by (40 - x).toNat
decreasing_by omega
def winY (w y : Int) : List Rect := if y < 40 ∧ 0 < w then winX w y (-40) ++ winY w (y + w) else []
termination_by (40 - y).toNat
decreasing_by omega
def windL (w : Int) : List Rect := if within w 4 40 = true then winY w (-40) else []
theorem winX_on {w y x : Int} (hw : 0 < w) (hx : x < 40) : winX w y x = winR w y x :: winX w y (x + w) := by rw [winX, if_pos ⟨hx, hw⟩]
theorem winX_off {w y x : Int} (hx : ¬ x < 40) : winX w y x = [] := by rw [winX, if_neg (fun h => hx h.1)]
theorem winY_on {w y : Int} (hw : 0 < w) (hx : y < 40) : winY w y = winX w y (-40) ++ winY w (y + w) := by rw [winY, if_pos ⟨hx, hw⟩]
theorem winY_off {w y : Int} (hx : ¬ y < 40) : winY w y = [] := by rw [winY, if_neg (fun h => hx h.1)]
theorem winX_facts {w y : Int} (hw : 0 < w) (hy : -40 ≤ y ∧ y < 40) (x : Int) (hx : -40 ≤ x) : (winX w y x).length ≤ (40 - x).toNat ∧ ∀ r ∈ winX w y x, validRect r = true := by
  by_cases c : x < 40
  · rw [winX_on hw c]
    have ih := winX_facts hw hy (x + w) (by omega)
    refine ⟨by simp only [List.length_cons]; omega, fun r hr => ?_⟩
    rcases List.mem_cons.1 hr with rfl | hr
    · rw [validR_iff]; simp only [winR]; omega
    · exact ih.2 r hr
  · rw [winX_off c]; exact ⟨Nat.zero_le _, fun r hr => by cases hr⟩
termination_by (40 - x).toNat
decreasing_by omega
theorem winY_facts {w : Int} (hw : 0 < w) (y : Int) (hy : -40 ≤ y) : (winY w y).length ≤ 80 * (40 - y).toNat ∧ ∀ r ∈ winY w y, validRect r = true := by
  by_cases c : y < 40
  · rw [winY_on hw c]
    have ih := winY_facts hw (y + w) (by omega)
    have hx := winX_facts hw ⟨hy, c⟩ (-40) (by omega)
    refine ⟨by rw [List.length_append]; omega, fun r hr => ?_⟩
    rcases List.mem_append.1 hr with hr | hr
    · exact hx.2 r hr
    · exact ih.2 r hr
  · rw [winY_off c]; exact ⟨Nat.zero_le _, fun r hr => by cases hr⟩
termination_by (40 - y).toNat
decreasing_by omega
theorem windL_facts (w : Int) : (windL w).length ≤ 6400 ∧ ∀ r ∈ windL w, validRect r = true := by
  unfold windL; split
  · rename_i h; simp [within] at h; exact ⟨by have := (winY_facts (w := w) (by omega) (-40) (by omega)).1; omega, (winY_facts (by omega) (-40) (by omega)).2⟩
  · exact ⟨Nat.zero_le _, fun r hr => by cases hr⟩
theorem windows_s {w : Int} (k : ∀ v', R v' G (osl 71 rectT v' (windL w) :: L)) : CallT Tryz.prog 118 #[vi w] G L R := by
  refine CallT.enter (args := _) Tryz.func118 rfl rfl (by kernel_rfl) rfl ?_
  refine WP.seq ?_
  refine WP.region ?_
  refine RG.pv rfl (PV.asg rfl rfl) ?_
  refine RG.nil ?_
  refine WP.seq ?_
  refine WP.region ?_
  refine RG.ot rfl (OT.bslice (F := rectT) (els := []) rfl El28 rfl (by decide) rfl (by decide) trivial fun v6 => ?_)
  refine RG.pv rfl (PV.asg (v := v6) rfl rfl) ?_
  refine RG.nil ?_
  refine WP.seq ?_
  refine WP.seq ?_
  refine WP.region ?_
  refine RG.pv rfl (PV.mvI (.inl rfl) rfl) ?_
  refine RG.pv rfl (PV.lss rfl rfl rfl) ?_
  refine RG.pv rfl (PV.mvB (.inl rfl) rfl) ?_
  refine RG.gs rfl rfl rfl (fun hp => (PV.mvI (.inl rfl) rfl)) ?_
  refine RG.gs rfl rfl rfl (fun hp => (PV.gtr rfl (gs_t hp) rfl)) ?_
  refine RG.pv rfl (PV.pickO rfl rfl rfl (fun hq => gs_t (geqF hq))) ?_
  refine RG.nil ?_
  refine WP.cond rfl (fun h2 => ?_) (fun h2 => ?_)
  · have e : windL w = [] := by rw [windL, if_neg]; simp only [within, Bool.and_eq_true, decide_eq_true_eq]; simp at h2; omega
    rw [e] at k
    refine WP.seq ?_
    refine WP.region ?_
    refine RG.pv rfl (PV.move (v := v6) rfl rfl) ?_
    refine RG.pv rfl (PV.asg (v := v6) rfl rfl) ?_
    refine RG.nil ?_
    refine WP.ret ?_
    exact ⟨_, _, ResV.one rfl rfl, Cv.p, k v6⟩
  · have h3 : 4 ≤ w ∧ w ≤ 40 := by simp at h2; omega
    have hwl := (winY_facts (w := w) (by omega) (-40) (by omega)).1
    have e : windL w = winY w (-40) := by rw [windL, if_pos]; simp [within, h3.1, h3.2]
    rw [e] at k
    refine WP.skip ?_
    refine WP.seq ?_
    refine WP.seq ?_
    refine WP.region ?_
    refine RG.pv rfl (PV.mvI (.inr rfl) rfl) ?_
    refine RG.nil ?_
    refine WP.block ?_
    refine WP.loop3 [0] (fun (y : Int) (zs : List Rect) (q : Value) => (-40 ≤ y ∧ y ≤ 80) ∧ zs ++ winY w y = winY w (-40)) (fun (y : Int) (zs : List Rect) (q : Value) => [(4, vi y), (3, q)]) (fun (y : Int) (zs : List Rect) (q : Value) => osl 71 rectT q zs :: L) (fun (y : Int) (zs : List Rect) (q : Value) => (80 - y).toNat) (-40) [] v6 ⟨by omega, rfl⟩ ⟨rfl, rfl, trivial⟩ Cv.p ?_
    rintro y zs q τ ⟨hy, hz⟩
    refine WP.seq ?_
    refine WP.seq ?_
    refine WP.region ?_
    refine RG.pv rfl (PV.mvI (.inl rfl) rfl) ?_
    refine RG.pv rfl (PV.lss rfl rfl rfl) ?_
    refine RG.nil ?_
    refine WP.cond rfl (fun h4 => ?_) (fun h4 => ?_)
    · have h4 := of_decide_eq_true h4
      rw [winY_on (by omega) h4] at hz
      refine WP.skip ?_
      refine WP.seq ?_
      refine WP.block ?_
      refine WP.seq ?_
      refine WP.region ?_
      refine RG.pv rfl (PV.mvI (.inr rfl) rfl) ?_
      refine RG.nil ?_
      refine WP.block ?_
      refine WP.loop3 [0, 4] (fun (x : Int) (zs2 : List Rect) (q2 : Value) => (-40 ≤ x ∧ x ≤ 80) ∧ zs2 ++ (winX w y x ++ winY w (y + w)) = winY w (-40)) (fun (x : Int) (zs2 : List Rect) (q2 : Value) => [(5, vi x), (3, q2)]) (fun (x : Int) (zs2 : List Rect) (q2 : Value) => osl 71 rectT q2 zs2 :: L) (fun (x : Int) (zs2 : List Rect) (q2 : Value) => (80 - x).toNat) (-40) zs q ⟨by omega, hz⟩ ⟨rfl, rfl, trivial⟩ Cv.p ?_
      rintro x zs2 q2 τ1 ⟨hx, hz2⟩
      refine WP.seq ?_
      refine WP.seq ?_
      refine WP.region ?_
      refine RG.pv rfl (PV.mvI (.inl rfl) rfl) ?_
      refine RG.pv rfl (PV.lss rfl rfl rfl) ?_
      refine RG.nil ?_
      have hz2l := congrArg List.length hz2
      rw [List.length_append] at hz2l
      refine WP.cond rfl (fun h5 => ?_) (fun h5 => ?_)
      · have h5 := of_decide_eq_true h5
        rw [winX_on (by omega) h5] at hz2
        refine WP.skip ?_
        refine WP.seq ?_
        refine WP.block ?_
        refine WP.region ?_
        refine RG.pv rfl (PV.move (v := q2) rfl rfl) ?_
        refine RG.pv rfl (PV.mvI (.inl rfl) rfl) ?_
        refine RG.pv rfl (PV.mvI (.inl rfl) rfl) ?_
        refine RG.pv rfl (PV.mvI (.inl rfl) rfl) ?_
        refine RG.pv rfl (PV.mvI (.inl rfl) rfl) ?_
        refine RG.pv rfl (PV.add rfl rfl rfl (by omega)) ?_
        refine RG.pv rfl (PV.min2 rfl rfl rfl) ?_
        refine RG.pv rfl (PV.mvI (.inl rfl) rfl) ?_
        refine RG.pv rfl (PV.mvI (.inl rfl) rfl) ?_
        refine RG.pv rfl (PV.add rfl rfl rfl (by omega)) ?_
        refine RG.pv rfl (PV.min2 rfl rfl rfl) ?_
        refine RG.pv rfl (PV.build (vs := [(0, [vi _]), (1, [vi _]), (2, [vi _]), (3, [vi _])]) (out := [_, _, _, _]) rfl Zr71 Pl71 ⟨rfl, (Cl.c rfl), ⟨rfl, (Cl.c rfl), ⟨rfl, (Cl.c rfl), ⟨rfl, (Cl.c rfl), trivial⟩⟩⟩⟩ rfl) ?_
        refine RG.ot rfl (OT.bslice (F := rectT) (els := [⟨_, _, _, _⟩]) rfl El28 rfl (by decide) rfl (by decide) ⟨rfl, (Cl.c rfl), trivial⟩ fun v36 => ?_)
        refine RG.ot rfl (OT.append (v := q2) (u := v36) (F := rectT) rfl El28 rfl (by decide) rfl rfl Rs.o (OneL.c (fun _ => rfl)) rfl (by first | omega | (simp <;> omega)) fun v37 => ?_)
        refine RG.pv rfl (PV.asg (v := v37) rfl rfl) ?_
        refine RG.nil ?_
        refine WP.region ?_
        refine RG.pv rfl (PV.mvI (.inl rfl) rfl) ?_
        refine RG.pv rfl (PV.mvI (.inl rfl) rfl) ?_
        refine RG.pv rfl (PV.add rfl rfl rfl (by omega)) ?_
        refine RG.pv rfl (PV.mvI (.inr rfl) rfl) ?_
        refine RG.nil ?_
        exact ⟨rfl, x + w, (zs2 ++ [⟨x, y, min (x + w) 40, min (y + w) 40⟩]), v37, ⟨by omega, by rw [← hz2]; simp [winR]⟩, ⟨rfl, rfl, trivial⟩, ⟨rfl, rfl, trivial⟩, Cv.p, by omega⟩
      · have h5 := of_decide_eq_false h5
        rw [winX_off h5, List.nil_append] at hz2
        refine WP.exit ?_
        refine WP.region ?_
        refine RG.pv rfl (PV.mvI (.inl rfl) rfl) ?_
        refine RG.pv rfl (PV.mvI (.inl rfl) rfl) ?_
        refine RG.pv rfl (PV.add rfl rfl rfl (by omega)) ?_
        refine RG.pv rfl (PV.mvI (.inr rfl) rfl) ?_
        refine RG.nil ?_
        exact ⟨rfl, y + w, zs2, q2, ⟨by omega, hz2⟩, ⟨rfl, rfl, trivial⟩, ⟨rfl, trivial⟩, Cv.p, by omega⟩
    · have h4 := of_decide_eq_false h4
      rw [winY_off h4, List.append_nil] at hz
      rw [hz]
      refine WP.exit ?_
      refine WP.seq ?_
      refine WP.region ?_
      refine RG.pv rfl (PV.move (v := q) rfl rfl) ?_
      refine RG.pv rfl (PV.asg (v := q) rfl rfl) ?_
      refine RG.nil ?_
      refine WP.ret ?_
      exact ⟨_, _, ResV.one rfl rfl, Cv.p, k q⟩
theorem cov_row {S : List Bool} {y x0 : Int} {n : Nat} : 0 ≤ tH S y x0 n ∧ tH S y x0 n ≤ n := cntF_bd _ _
theorem cov_col {S : List Bool} {r : Rect} (hv : (wR r : Int) ≤ 80) (j : Nat) : 0 ≤ sumF (fun j => tH S (r.y0 + j) r.x0 (wR r)) j ∧ sumF (fun j => tH S (r.y0 + j) r.x0 (wR r)) j ≤ j * 80 :=
  sumF_bd (fun i => ⟨cov_row.1, Int.le_trans cov_row.2 hv⟩) j
theorem covB_bd {S : List Bool} {r : Rect} (hr : validRect r = true) : 0 ≤ covB S r ∧ covB S r ≤ 6400 := by
  have hv := validR_iff.1 hr
  have h1 : (wR r : Int) = r.x1 - r.x0 := by simp only [wR]; omega
  have h2 : (hR r : Int) = r.y1 - r.y0 := by simp only [hR]; omega
  have := cov_col (S := S) (r := r) (by omega) (hR r)
  unfold covB; omega
theorem covd_s {v : Value} {S : List Bool} {r : Rect} (h1 : Rs G L boolT v S) (hS : S.length = 6400) (hr : validRect r = true) (k : R (vi (covB S r)) G L) : CallT Tryz.prog 119 #[v, vrect r] G L R := by
  have hv := validR_iff.1 hr
  have e1 : (wR r : Int) = r.x1 - r.x0 := by simp only [wR]; omega
  have e2 : (hR r : Int) = r.y1 - r.y0 := by simp only [hR]; omega
  refine CallT.enter (args := _) Tryz.func119 rfl rfl (by kernel_rfl) rfl ?_
  refine WP.seq ?_
  refine WP.region ?_
  refine RG.ot rfl (OT.box (cs := rectT.enc r) rfl rfl rfl fun b3 => ?_)
  refine RG.pv rfl (PV.mvI (.inr rfl) rfl) ?_
  refine RG.nil ?_
  refine WP.seq ?_
  refine WP.region ?_
  refine RG.pv rfl (PV.mvI (.inr rfl) rfl) ?_
  refine RG.nil ?_
  refine WP.seq ?_
  refine WP.seq ?_
  refine WP.region ?_
  refine RG.pv rfl (PV.field rfl Fo71_1 rfl) ?_
  refine RG.pv rfl (PV.load1 rfl Sc2 rfl (Rd.blk rfl)) ?_
  refine RG.pv rfl (PV.mvI (.inr rfl) rfl) ?_
  refine RG.nil ?_
  refine WP.block ?_
  refine WP.loop3 [0, 3] (fun (j : Nat) (y n : Int) => j ≤ hR r ∧ y = r.y0 + j ∧ n = sumF (fun j => tH S (r.y0 + j) r.x0 (wR r)) j) (fun (j : Nat) (y n : Int) => [(6, vi y), (5, vi n)]) (fun (j : Nat) (y n : Int) => blk b3 71 (rectT.enc r) :: L) (fun (j : Nat) (y n : Int) => hR r - j) 0 r.y0 0 ⟨by omega, by omega, rfl⟩ ⟨rfl, rfl, trivial⟩ Cv.p ?_
  rintro j y n τ ⟨hj, hy, hn⟩
  refine WP.seq ?_
  refine WP.seq ?_
  refine WP.region ?_
  refine RG.pv rfl (PV.mvI (.inl rfl) rfl) ?_
  refine RG.pv rfl (PV.field rfl Fo71_3 rfl) ?_
  refine RG.pv rfl (PV.load1 rfl Sc2 rfl (Rd.blk rfl)) ?_
  refine RG.pv rfl (PV.lss rfl rfl rfl) ?_
  refine RG.nil ?_
  have hnb := cov_col (S := S) (r := r) (by omega) j
  rw [← hn] at hnb
  refine WP.cond rfl (fun h2 => ?_) (fun h2 => ?_)
  · have h2 := of_decide_eq_true h2
    refine WP.skip ?_
    refine WP.seq ?_
    refine WP.block ?_
    refine WP.seq ?_
    refine WP.region ?_
    refine RG.pv rfl (PV.field rfl Fo71_0 rfl) ?_
    refine RG.pv rfl (PV.load1 rfl Sc2 rfl (Rd.blk rfl)) ?_
    refine RG.pv rfl (PV.mvI (.inr rfl) rfl) ?_
    refine RG.nil ?_
    refine WP.block ?_
    refine WP.loop3 [0, 3, 6] (fun (i : Nat) (x m : Int) => i ≤ wR r ∧ x = r.x0 + i ∧ m = n + tH S (r.y0 + j) r.x0 i) (fun (i : Nat) (x m : Int) => [(7, vi x), (5, vi m)]) (fun (i : Nat) (x m : Int) => blk b3 71 (rectT.enc r) :: L) (fun (i : Nat) (x m : Int) => wR r - i) 0 r.x0 n ⟨by omega, by omega, by simp [tH, cntF, sumF]⟩ ⟨rfl, rfl, trivial⟩ Cv.p ?_
    rintro i x m τ1 ⟨hi, hx, hm⟩
    refine WP.seq ?_
    refine WP.seq ?_
    refine WP.region ?_
    refine RG.pv rfl (PV.mvI (.inl rfl) rfl) ?_
    refine RG.pv rfl (PV.field rfl Fo71_2 rfl) ?_
    refine RG.pv rfl (PV.load1 rfl Sc2 rfl (Rd.blk rfl)) ?_
    refine RG.pv rfl (PV.lss rfl rfl rfl) ?_
    refine RG.nil ?_
    have hmb := cov_row (S := S) (y := r.y0 + j) (x0 := r.x0) (n := i)
    refine WP.cond rfl (fun h3 => ?_) (fun h3 => ?_)
    · have h3 := of_decide_eq_true h3
      have hat := at_eq (x := x) (y := y) (by omega) (by omega)
      have hcl : tH S (r.y0 + j) r.x0 (i + 1) = tH S (r.y0 + j) r.x0 i + one (gd S ((y + 40) * 80 + x + 40).toNat) := by
        rw [tH, cntF_succ, ← hx, ← hy, cellB_in (by omega), gb, ← hat]; rfl
      refine WP.skip ?_
      refine WP.seq ?_
      refine WP.block ?_
      refine WP.seq ?_
      refine WP.region ?_
      refine RG.pv rfl (PV.move (v := v) rfl rfl) ?_
      refine RG.pv rfl (PV.mvI (.inl rfl) rfl) ?_
      refine RG.pv rfl (PV.mvI (.inl rfl) rfl) ?_
      refine RG.callF (vs := [_, _]) rfl rfl En169 rfl (l17At_s (by omega) (by omega) ?_)
      refine RG.pv rfl (PV.idxS (j := ((y + 40) * 80 + x + 40).toNat) (v := v) rfl Is111 rfl (SlF.r h1) rfl (by first | omega | (simp only [List.length_set]; omega)) (by first | omega | (simp only [List.length_set]; omega))) ?_
      refine RG.pv rfl (PV.loadE1 rfl Sc4 rfl rfl (El.r h1 (getG (by omega))) rfl) ?_
      refine RG.nil ?_
      refine WP.cond rfl (fun h4 => ?_) (fun h4 => ?_)
      · rw [h4] at hcl
        refine WP.region ?_
        refine RG.pv rfl (PV.mvI (.inl rfl) rfl) ?_
        refine RG.pv rfl (PV.add rfl rfl rfl (by omega)) ?_
        refine RG.pv rfl (PV.mvI (.inr rfl) rfl) ?_
        refine RG.nil ?_
        refine WP.region ?_
        refine RG.pv rfl (PV.mvI (.inl rfl) rfl) ?_
        refine RG.pv rfl (PV.add rfl rfl rfl (by omega)) ?_
        refine RG.pv rfl (PV.mvI (.inr rfl) rfl) ?_
        refine RG.nil ?_
        exact ⟨rfl, i + 1, x + 1, m + 1, ⟨by omega, by omega, by rw [hcl, hm]; simp only [one, cond_true]; omega⟩, ⟨rfl, rfl, trivial⟩, ⟨rfl, rfl, rfl, trivial⟩, Cv.p, by omega⟩
      · rw [h4] at hcl
        refine WP.skip ?_
        refine WP.region ?_
        refine RG.pv rfl (PV.mvI (.inl rfl) rfl) ?_
        refine RG.pv rfl (PV.add rfl rfl rfl (by omega)) ?_
        refine RG.pv rfl (PV.mvI (.inr rfl) rfl) ?_
        refine RG.nil ?_
        exact ⟨rfl, i + 1, x + 1, m, ⟨by omega, by omega, by rw [hcl, hm]; simp only [one, cond_false]; omega⟩, ⟨rfl, rfl, trivial⟩, ⟨rfl, rfl, rfl, trivial⟩, Cv.p, by omega⟩
    · have h3 := of_decide_eq_false h3
      obtain rfl : i = wR r := by omega
      refine WP.exit ?_
      refine WP.region ?_
      refine RG.pv rfl (PV.mvI (.inl rfl) rfl) ?_
      refine RG.pv rfl (PV.add rfl rfl rfl (by omega)) ?_
      refine RG.pv rfl (PV.mvI (.inr rfl) rfl) ?_
      refine RG.nil ?_
      exact ⟨rfl, j + 1, y + 1, m, ⟨by omega, by omega, by rw [hm, hn]; rfl⟩, ⟨rfl, rfl, trivial⟩, ⟨rfl, rfl, trivial⟩, Cv.p, by omega⟩
  · have h2 := of_decide_eq_false h2
    obtain rfl : j = hR r := by omega
    have e : covB S r = n := by rw [hn]; rfl
    rw [e] at k
    refine WP.exit ?_
    refine WP.seq ?_
    refine WP.region ?_
    refine RG.pv rfl (PV.mvI (.inl rfl) rfl) ?_
    refine RG.pv rfl (PV.mvI (.inr rfl) rfl) ?_
    refine RG.nil ?_
    refine WP.ret ?_
    exact ⟨_, _, ResV.one rfl rfl, Cv.p, k⟩
def Bare (S : List Bool) (ws : List Rect) (p : Int) (y x : Nat) : Prop := ∃ r ∈ ws, 100 * covB S r < p * areaR r ∧ inR r y x = true
theorem Bare.next {S : List Bool} {ws : List Rect} {p : Int} {y x i : Nat} (h : i < ws.length) : Bare S (ws.take (i + 1)) p y x ↔ Bare S (ws.take i) p y x ∨ (100 * covB S (gd ws i) < p * areaR (gd ws i) ∧ inR (gd ws i) y x = true) := by
  unfold Bare
  rw [List.take_add_one, getG h]
  constructor
  · rintro ⟨c, hc, h1⟩
    rcases List.mem_append.1 hc with h2 | h2
    · exact .inl ⟨c, h2, h1⟩
    · simp only [Option.toList, List.mem_singleton] at h2; subst h2; exact .inr h1
  · rintro (⟨c, hc, h1⟩ | h1)
    · exact ⟨c, List.mem_append_left _ hc, h1⟩
    · exact ⟨_, List.mem_append_right _ (by simp), h1⟩
noncomputable def densL (xs : List Rect) (w p : Int) : List Rect := if (isReg xs && within w 4 40 && within p 1 100) = true then canon (zipB minB (celL (Bare (bits xs) (windL w) p)) (bits xs)) else []
theorem markDens_s {v : Value} {xs : List Rect} {w p : Int} (h1 : Rs G L rectT v xs) (k : ∀ v', R v' G (osl 71 rectT v' (densL xs w p) :: L)) : CallT Tryz.prog 63 #[v, vi w, vi p] G L R := by
  refine CallT.enter (args := _) Tryz.func63 rfl rfl (by kernel_rfl) rfl ?_
  refine WP.seq ?_
  refine WP.region ?_
  refine RG.pv rfl (PV.asg rfl rfl) ?_
  refine RG.nil ?_
  refine WP.seq ?_
  refine WP.seq ?_
  refine WP.region ?_
  refine RG.pv rfl (PV.move (v := v) rfl rfl) ?_
  refine RG.callF (vs := [v]) rfl rfl En35 rfl (l03Ok_s (Rs.up h1) ?_)
  refine RG.pv rfl (PV.not rfl rfl) ?_
  refine RG.pv rfl (PV.mvB (.inl rfl) rfl) ?_
  refine RG.gs rfl rfl rfl (fun hp => (PV.mvI (.inl rfl) rfl)) ?_
  refine RG.gs rfl rfl rfl (fun hp => (PV.lss rfl (gs_t hp) rfl)) ?_
  refine RG.pv rfl (PV.pickO rfl rfl rfl (fun hq => gs_t (geqF hq))) ?_
  refine RG.pv rfl (PV.mvB (.inl rfl) rfl) ?_
  refine RG.gs rfl rfl rfl (fun hp => (PV.mvI (.inl rfl) rfl)) ?_
  refine RG.gs rfl rfl rfl (fun hp => (PV.gtr rfl (gs_t hp) rfl)) ?_
  refine RG.pv rfl (PV.pickO rfl rfl rfl (fun hq => gs_t (geqF hq))) ?_
  refine RG.pv rfl (PV.mvB (.inl rfl) rfl) ?_
  refine RG.gs rfl rfl rfl (fun hp => (PV.mvI (.inl rfl) rfl)) ?_
  refine RG.gs rfl rfl rfl (fun hp => (PV.lss rfl (gs_t hp) rfl)) ?_
  refine RG.pv rfl (PV.pickO rfl rfl rfl (fun hq => gs_t (geqF hq))) ?_
  refine RG.pv rfl (PV.mvB (.inl rfl) rfl) ?_
  refine RG.gs rfl rfl rfl (fun hp => (PV.mvI (.inl rfl) rfl)) ?_
  refine RG.gs rfl rfl rfl (fun hp => (PV.gtr rfl (gs_t hp) rfl)) ?_
  refine RG.pv rfl (PV.pickO rfl rfl rfl (fun hq => gs_t (geqF hq))) ?_
  refine RG.nil ?_
  refine WP.cond rfl (fun h3 => ?_) (fun h3 => ?_)
  · have e : densL xs w p = [] := by
      rw [densL, if_neg]
      intro h4
      simp only [Bool.and_eq_true, within, decide_eq_true_eq] at h4
      simp [h4.1.1] at h3; omega
    rw [e] at k
    refine WP.seq ?_
    refine WP.region ?_
    refine RG.ot rfl (OT.bslice (F := rectT) (els := []) rfl El28 rfl (by decide) rfl (by decide) trivial fun v31 => ?_)
    refine RG.pv rfl (PV.asg (v := v31) rfl rfl) ?_
    refine RG.nil ?_
    refine WP.ret ?_
    exact ⟨_, _, ResV.one rfl rfl, Cv.p, k v31⟩
  · have hreg : isReg xs = true := by cases g1 : isReg xs <;> simp_all
    have hpw : (4 ≤ w ∧ w ≤ 40) ∧ 1 ≤ p ∧ p ≤ 100 := by rw [hreg] at h3; simp at h3; omega
    have hpb := hpw.2
    have hbx := bits_length xs
    have hzl := (windL_facts w).1
    have hzv := (windL_facts w).2
    have e0 : densL xs w p = canon (zipB minB (celL (Bare (bits xs) (windL w) p)) (bits xs)) := by rw [densL, if_pos]; simp [hreg, within, hpw.1.1, hpw.1.2, hpb.1, hpb.2]
    rw [e0] at k
    refine WP.skip ?_
    refine WP.seq ?_
    refine WP.region ?_
    refine RG.pv rfl (PV.move (v := v) rfl rfl) ?_
    refine RG.callF (vs := [v]) rfl rfl En89 rfl (l03Bits_s (Rs.up h1) (fun i hi => valid_get (isReg_valid hreg) hi) (fun v33 => ?_))
    refine RG.pv rfl (PV.asg (v := v33) rfl rfl) ?_
    refine RG.nil ?_
    refine WP.seq ?_
    refine WP.region ?_
    refine RG.pv rfl (PV.move (v := v33) rfl rfl) ?_
    refine RG.pv rfl (PV.len (v := v33) rfl Tryz.underlying111 rfl SlF.o) ?_
    refine RG.ot rfl (OT.make (F := boolT) (a0 := false) rfl El111 rfl (by decide) rfl rfl (by omega) (by omega) fun v36 => ?_)
    refine RG.pv rfl (PV.asg (v := v36) rfl rfl) ?_
    refine RG.nil ?_
    refine WP.seq ?_
    refine WP.region ?_
    refine RG.pv rfl (PV.mvI (.inl rfl) rfl) ?_
    refine RG.callF (vs := [_]) rfl rfl En118 rfl (windows_s (fun v38 => ?_))
    refine RG.pv rfl (PV.asg (v := v38) rfl rfl) ?_
    refine RG.nil ?_
    refine WP.seq ?_
    refine WP.seq ?_
    refine WP.region ?_
    refine RG.pv rfl (PV.mvI (.inr rfl) rfl) ?_
    refine RG.nil ?_
    refine WP.block ?_
    refine WP.loop3 [2, 7, 9] (fun (i : Nat) (E : List Bool) (q : Value) => i ≤ (windL w).length ∧ Is E (Bare (bits xs) ((windL w).take i) p)) (fun (i : Nat) (E : List Bool) (q : Value) => [(10, vi i), (8, q)]) (fun (i : Nat) (E : List Bool) (q : Value) => osl 4 boolT q E :: osl 71 rectT v38 (windL w) :: osl 4 boolT v33 (bits xs) :: L) (fun (i : Nat) (E : List Bool) (q : Value) => (windL w).length - i) 0 (List.replicate (bits xs).length false) v36 ⟨by omega, Is.none _ hbx fun v u _ _ => by rintro ⟨c, hc, _⟩; simp at hc⟩ ⟨rfl, rfl, trivial⟩ Cv.p ?_
    rintro i E q τ ⟨hi, hE⟩
    refine WP.seq ?_
    refine WP.seq ?_
    refine WP.region ?_
    refine RG.pv rfl (PV.mvI (.inl rfl) rfl) ?_
    refine RG.pv rfl (PV.move (v := v38) rfl rfl) ?_
    refine RG.pv rfl (PV.len (v := v38) rfl Tryz.underlying28 rfl SlF.o) ?_
    refine RG.pv rfl (PV.lss rfl rfl rfl) ?_
    refine RG.nil ?_
    have hEl := hE.1
    refine WP.cond rfl (fun h5 => ?_) (fun h5 => ?_)
    · have h5 := of_decide_eq_true h5
      have hvi := hzv _ (gd_mem (show i < (windL w).length by omega))
      have hlb := len_bd hvi
      have hmb := mul_bd hpb hlb
      have hcb := covB_bd (S := bits xs) hvi
      have hnx := fun y x => Bare.next (S := bits xs) (ws := windL w) (p := p) (y := y) (x := x) (i := i) (by omega)
      have hla : lenR (gd (windL w) i) = areaR (gd (windL w) i) := rfl
      refine WP.skip ?_
      refine WP.seq ?_
      refine WP.block ?_
      refine WP.seq ?_
      refine WP.regionQ (by kernel_rfl) (by kernel_rfl) ?_
      refine RQ.pv rfl (PV.move (v := v33) rfl rfl) ?_
      refine RQ.pv rfl (PV.move (v := v38) rfl rfl) ?_
      refine RQ.pv rfl (PV.mvI (.inl rfl) rfl) ?_
      refine RQ.pv rfl (PV.idxS (v := v38) rfl Is28 rfl SlF.o rfl rfl (by omega)) ?_
      refine RQ.pv rfl (PV.loadE rfl Ag71 rfl rfl (El.o (getG (by omega)))) ?_
      refine RQ.callF (vs := [v33, _]) rfl rfl En119 rfl (covd_s Rs.o (bits_length _) (hzv _ (gd_mem (by omega))) ⟨rfl, rfl, rfl⟩) ?_
      refine RQ.pv rfl (PV.mul rfl rfl rfl (by omega)) ?_
      refine RQ.pv rfl (PV.mvI (.inl rfl) rfl) ?_
      refine RQ.pv rfl (PV.move (v := v38) rfl rfl) ?_
      refine RQ.pv rfl (PV.mvI (.inl rfl) rfl) ?_
      refine RQ.pv rfl (PV.idxS (v := v38) rfl Is28 rfl SlF.o rfl rfl (by omega)) ?_
      refine RQ.pv rfl (PV.loadE rfl Ag71 rfl rfl (El.o (getG (by omega)))) ?_
      refine RQ.callF (vs := [_]) rfl rfl En120 rfl (len17_s (hzv _ (gd_mem (by omega))) ⟨rfl, rfl, rfl⟩) ?_
      refine RQ.pv rfl (PV.mul rfl rfl rfl (by omega)) ?_
      refine RQ.pv rfl (PV.lss rfl rfl rfl) ?_
      refine RQ.nil ?_
      refine WP.cond rfl (fun h6 => ?_) (fun h6 => ?_)
      · have h6 : 100 * covB (bits xs) (gd (windL w) i) < p * areaR (gd (windL w) i) := by rw [← hla]; simpa using h6
        refine WP.region ?_
        refine RG.pv rfl (PV.move (v := q) rfl rfl) ?_
        refine RG.pv rfl (PV.move (v := v38) rfl rfl) ?_
        refine RG.pv rfl (PV.mvI (.inl rfl) rfl) ?_
        refine RG.pv rfl (PV.idxS (v := v38) rfl Is28 rfl SlF.o rfl rfl (by omega)) ?_
        refine RG.pv rfl (PV.loadE rfl Ag71 rfl rfl (El.o (getG (by omega)))) ?_
        refine RG.callF (vs := [q, _]) rfl rfl En121 rfl (CallT.exS q (fill_s hEl (hzv _ (gd_mem (by omega))) (fun D' hD' hg' => ?_)))
        refine RG.pv rfl (PV.asg rfl rfl) ?_
        refine RG.nil ?_
        refine WP.region ?_
        refine RG.pv rfl (PV.mvI (.inl rfl) rfl) ?_
        refine RG.pv rfl (PV.add rfl rfl rfl (by omega)) ?_
        refine RG.pv rfl (PV.mvI (.inr rfl) rfl) ?_
        refine RG.nil ?_
        exact ⟨rfl, i + 1, D', q, ⟨by omega, hD', fun y x hy hx => by rw [hg' y x hy hx, Bool.or_eq_true, hE.2 y x hy hx, hnx]; simp [h6]⟩, ⟨rfl, rfl, trivial⟩, ⟨rfl, rfl, rfl, trivial⟩, Cv.p, by omega⟩
      · have h6 : ¬ 100 * covB (bits xs) (gd (windL w) i) < p * areaR (gd (windL w) i) := by rw [← hla]; simpa using h6
        refine WP.skip ?_
        refine WP.region ?_
        refine RG.pv rfl (PV.mvI (.inl rfl) rfl) ?_
        refine RG.pv rfl (PV.add rfl rfl rfl (by omega)) ?_
        refine RG.pv rfl (PV.mvI (.inr rfl) rfl) ?_
        refine RG.nil ?_
        exact ⟨rfl, i + 1, E, q, ⟨by omega, hE.congr fun y x _ _ => by rw [hnx]; simp [h6]⟩, ⟨rfl, rfl, trivial⟩, ⟨rfl, rfl, rfl, trivial⟩, Cv.p, by omega⟩
    · have h5 := of_decide_eq_false h5
      rw [List.take_of_length_le (by omega)] at hE
      have hEc : E = celL (Bare (bits xs) (windL w) p) := celL_eq hE.1 hE.2
      rw [← hEc] at k
      refine WP.exit ?_
      refine WP.seq ?_
      refine WP.seq ?_
      refine WP.region ?_
      refine RG.pv rfl (PV.mvI (.inr rfl) rfl) ?_
      refine RG.nil ?_
      refine WP.block ?_
      refine WP.loop2 [7, 8] (fun (j : Nat) (D : List Bool) => j ≤ 6400 ∧ ZI minB E (bits xs) j D) (fun (j : Nat) (D : List Bool) => [(11, vi j)]) (fun (j : Nat) (D : List Bool) => osl 4 boolT q D :: osl 4 boolT v33 (bits xs) :: L) (fun (j : Nat) (D : List Bool) => 6400 - j) 0 E ⟨by omega, ZI.start hEl⟩ ⟨rfl, trivial⟩ Cv.p ?_
      rintro j D τ1 ⟨hj, hD⟩
      refine WP.seq ?_
      refine WP.seq ?_
      refine WP.region ?_
      refine RG.pv rfl (PV.mvI (.inl rfl) rfl) ?_
      refine RG.pv rfl (PV.move (v := q) rfl rfl) ?_
      refine RG.pv rfl (PV.len (v := q) rfl Tryz.underlying111 rfl SlF.o) ?_
      refine RG.pv rfl (PV.lss rfl rfl rfl) ?_
      refine RG.nil ?_
      have hDl := hD.1
      refine WP.cond rfl (fun h6 => ?_) (fun h6 => ?_)
      · have h6 := of_decide_eq_true h6
        refine WP.skip ?_
        refine WP.seq ?_
        refine WP.block ?_
        refine WP.region ?_
        refine RG.pv rfl (PV.move (v := q) rfl rfl) ?_
        refine RG.pv rfl (PV.mvI (.inl rfl) rfl) ?_
        refine RG.pv rfl (PV.move (v := q) rfl rfl) ?_
        refine RG.pv rfl (PV.mvI (.inl rfl) rfl) ?_
        refine RG.pv rfl (PV.idxS (v := q) rfl Is111 rfl SlF.o rfl rfl (by omega)) ?_
        refine RG.pv rfl (PV.loadE1 rfl Sc4 rfl rfl (El.o (getG (by omega))) rfl) ?_
        refine RG.pv rfl (PV.mvB (.inl rfl) rfl) ?_
        refine RG.gs rfl rfl rfl (fun hp => (PV.move (v := v33) rfl rfl)) ?_
        refine RG.gs rfl rfl rfl (fun hp => (PV.mvI (.inl rfl) rfl)) ?_
        refine RG.gs rfl rfl rfl (fun hp => (PV.idxS (v := v33) rfl Is111 (gs_t hp) SlF.o (gs_t hp) rfl (by first | omega | (simp at hp; omega)))) ?_
        refine RG.gs rfl rfl rfl (fun hp => (PV.loadE1 rfl Sc4 (gs_t hp) rfl (El.o (getG (by first | omega | (simp at hp; omega)))) rfl)) ?_
        refine RG.gs rfl rfl rfl (fun hp => (PV.not rfl (gs_t hp))) ?_
        refine RG.pv rfl (PV.pickA rfl rfl (fun hq => gs_t (geqT hq)) rfl) ?_
        refine RG.pv rfl (PV.idxS (v := q) rfl Is111 rfl SlF.o rfl rfl (by omega)) ?_
        refine RG.ot rfl (OT.storeE (F := boolT) rfl Sz4 rfl rfl rfl (Cl.c rfl) (OneC.c rfl) (by omega) ?_)
        refine RG.nil ?_
        refine WP.region ?_
        refine RG.pv rfl (PV.mvI (.inl rfl) rfl) ?_
        refine RG.pv rfl (PV.add rfl rfl rfl (by omega)) ?_
        refine RG.pv rfl (PV.mvI (.inr rfl) rfl) ?_
        refine RG.nil ?_
        exact ⟨rfl, j + 1, (D.set j (gd D j && !gd (bits xs) j)), ⟨by omega, hD.step (by omega)⟩, ⟨rfl, trivial⟩, ⟨rfl, rfl, trivial⟩, Cv.p, by omega⟩
      · have h6 := of_decide_eq_false h6
        obtain rfl : j = 6400 := by omega
        obtain rfl := hD.done hEl hbx
        refine WP.exit ?_
        refine WP.seq ?_
        refine WP.region ?_
        refine RG.pv rfl (PV.move (v := q) rfl rfl) ?_
        refine RG.callF (vs := [q]) rfl rfl En88 rfl (l03Canon_s Rs.o hDl (fun v87 => ?_))
        refine RG.pv rfl (PV.asg (v := v87) rfl rfl) ?_
        refine RG.nil ?_
        refine WP.ret ?_
        exact ⟨_, _, ResV.one rfl rfl, Cv.p, k v87⟩
end Go.Proofs.YtpjajhjcbcfplaaGreat
namespace Go.Proofs.YtpjajhjcbcfplaaGreat
set_option linter.unusedVariables false
set_option linter.unusedSimpArgs false
open Go
set_option maxRecDepth 20000
set_option linter.unusedSimpArgs false
variable {G : Gh} {L : List Ch} {R : Value → Gh → List Ch → Prop}
theorem Seen.skip {S : List Bool} {ver : Bool} {out : List Rect} {i k k' : Int} (h : Seen S ver out i k) (e : ∀ u, k ≤ u → u < k' → cv S ver i u = true → cv S ver i (u - 1) = true) : Seen S ver out i k' := fun l s h1 h2 h3 => by
  by_cases c : l = i ∧ k ≤ s
  · obtain ⟨rfl, c⟩ := c
    have := e s c (by omega) h2
    rw [h3] at this; cases this
  · exact h l s (by omega) h2 h3
/-- the runs of the places before i on the line l are in the list, and i is the first place of a run if it is on one -/
structure LnI (D : List Bool) (ver : Bool) (l : Int) (out : List Rect) (i : Int) : Prop where
  run : RunL D ver out
  seen : Seen D ver out l (i - 40)
  bd : cv D ver l (i - 40) = true → cv D ver l (i - 40 - 1) = false
theorem LnI.bd' {D : List Bool} {ver : Bool} {l i e : Int} (hi : 0 ≤ i ∧ i < e ∧ e ≤ 80) (hall : ∀ u, i ≤ u → u < e → cv D ver l (u - 40) = cv D ver l (i - 40)) (hend : e = 80 ∨ cv D ver l (e - 40) ≠ cv D ver l (i - 40)) : cv D ver l (e - 40) = true → cv D ver l (e - 40 - 1) = false := fun h => by
  have hr := cv_rng h
  have h1 : cv D ver l (e - 40) ≠ cv D ver l (i - 40) := by
    rcases hend with h2 | h2
    · omega
    · exact h2
  have h2 := hall (e - 1) (by omega) (by omega)
  rw [show e - 1 - 40 = e - 40 - 1 by omega] at h2
  rw [h2]; rw [h] at h1
  cases h3 : cv D ver l (i - 40)
  · rfl
  · exact absurd h3.symm h1
theorem LnI.miss {D : List Bool} {ver : Bool} {l : Int} {out : List Rect} {i e : Int} (h : LnI D ver l out i) (hi : 0 ≤ i ∧ i < e ∧ e ≤ 80) (hall : ∀ u, i ≤ u → u < e → cv D ver l (u - 40) = cv D ver l (i - 40)) (hend : e = 80 ∨ cv D ver l (e - 40) ≠ cv D ver l (i - 40)) (hc : cv D ver l (i - 40) = false) : LnI D ver l out e :=
by
  refine ⟨h.run, h.seen.skip fun u h1 h2 h3 => ?_, LnI.bd' hi hall hend⟩
  have := hall (u + 40) (by omega) (by omega)
  rw [show u + 40 - 40 = u by omega, h3, hc] at this; cases this
theorem LnI.isRun {D : List Bool} {ver : Bool} {l : Int} {out : List Rect} {i e : Int} (h : LnI D ver l out i) (hl : -40 ≤ l ∧ l < 40) (hi : 0 ≤ i ∧ i < e ∧ e ≤ 80) (hall : ∀ u, i ≤ u → u < e → cv D ver l (u - 40) = cv D ver l (i - 40)) (hend : e = 80 ∨ cv D ver l (e - 40) ≠ cv D ver l (i - 40)) (hc : cv D ver l (i - 40) = true) : isRun D ver l (i - 40) (i - 40) (e - 40) := by
  refine ⟨by omega, by omega, fun u h1 h2 => ?_, h.bd hc, ?_⟩
  · have := hall (u + 40) (by omega) (by omega)
    rw [show u + 40 - 40 = u by omega, hc] at this; exact this
  · cases h1 : cv D ver l (e - 40) with
    | false => rfl
    | true =>
      have h2 := LnI.bd' hi hall hend h1
      have h3 := hall (e - 1) (by omega) (by omega)
      rw [show e - 1 - 40 = e - 40 - 1 by omega, h2, hc] at h3; cases h3
theorem LnI.start {D : List Bool} {ver : Bool} {l : Int} {out : List Rect} (hr : RunL D ver out) (hs : Seen D ver out l (-40)) : LnI D ver l out 0 := by
  refine ⟨hr, hs, fun _ => ?_⟩
  cases h2 : cv D ver l (0 - 40 - 1) with
  | false => rfl
  | true => have := cv_rng h2; omega
theorem LnI.hit {D : List Bool} {ver : Bool} {l : Int} {out : List Rect} {i e : Int} (h : LnI D ver l out i) (hl : -40 ≤ l ∧ l < 40) (hi : 0 ≤ i ∧ i < e ∧ e ≤ 80) (hall : ∀ u, i ≤ u → u < e → cv D ver l (u - 40) = cv D ver l (i - 40)) (hend : e = 80 ∨ cv D ver l (e - 40) ≠ cv D ver l (i - 40)) (hc : cv D ver l (i - 40) = true) : LnI D ver l (out ++ [lineR ver l (i - 40) (e - 40)]) e := by
  have hr := h.isRun hl hi hall hend hc
  refine ⟨h.run.add hr, (h.seen.add hr).skip fun u h1 h2 h3 => ?_, LnI.bd' hi hall hend⟩
  have := hall (u - 1 + 40) (by omega) (by omega)
  rw [show u - 1 + 40 - 40 = u - 1 by omega, hc] at this; exact this
theorem one_inj {a b : Bool} : one a = one b ↔ a = b := by cases a <;> cases b <;> simp [one]
theorem one_ne {a : Bool} : one a ≠ 0 ↔ a = true := by cases a <;> simp [one]
theorem lineRect_i {l a b : Int} {ver : Bool} (hl : -1000 ≤ l ∧ l ≤ 1000) (k : R (vrect (lineR ver l a b)) G L) : CallT Tryz.prog 216 #[vi l, vi a, vi b, .bool ver] G L R := by
  refine CallT.enter (args := _) Tryz.func216 rfl rfl (by kernel_rfl) rfl ?_
  refine WP.seq ?_
  refine WP.region ?_
  refine RG.ot rfl (OT.alloc rfl Zr71 fun b8 => ?_)
  refine RG.nil ?_
  refine WP.seq ?_
  refine WP.seq ?_
  refine WP.region ?_
  refine RG.pv rfl (PV.mvB (.inl rfl) rfl) ?_
  refine RG.nil ?_
  refine WP.cond rfl (fun h => ?_) (fun h => ?_)
  · subst h
    refine WP.seq ?_
    refine WP.region ?_
    refine RG.pv rfl (PV.mvI (.inl rfl) rfl) ?_
    refine RG.pv rfl (PV.mvI (.inl rfl) rfl) ?_
    refine RG.pv rfl (PV.mvI (.inl rfl) rfl) ?_
    refine RG.pv rfl (PV.add rfl rfl rfl (by omega)) ?_
    refine RG.pv rfl (PV.mvI (.inl rfl) rfl) ?_
    refine RG.pv rfl (PV.build (vs := [(0, [vi _]), (1, [vi _]), (2, [vi _]), (3, [vi _])]) (out := [_, _, _, _]) rfl Zr71 Pl71 ⟨rfl, (Cl.c rfl), ⟨rfl, (Cl.c rfl), ⟨rfl, (Cl.c rfl), ⟨rfl, (Cl.c rfl), trivial⟩⟩⟩⟩ rfl) ?_
    refine RG.ot rfl (OT.storeW (vs := [vi _, vi _, vi _, vi _]) rfl Sz71 rfl rfl (Cl.c rfl) rfl rfl (OneC.c rfl) ?_)
    refine RG.nil ?_
    refine WP.ret ?_
    exact ⟨_, _, ResV.one rfl (RV1.cell rfl Ag71 rfl), Cv.p, k⟩
  · subst h
    refine WP.skip ?_
    refine WP.seq ?_
    refine WP.region ?_
    refine RG.pv rfl (PV.mvI (.inl rfl) rfl) ?_
    refine RG.pv rfl (PV.mvI (.inl rfl) rfl) ?_
    refine RG.pv rfl (PV.mvI (.inl rfl) rfl) ?_
    refine RG.pv rfl (PV.mvI (.inl rfl) rfl) ?_
    refine RG.pv rfl (PV.add rfl rfl rfl (by omega)) ?_
    refine RG.pv rfl (PV.build (vs := [(0, [vi _]), (1, [vi _]), (2, [vi _]), (3, [vi _])]) (out := [_, _, _, _]) rfl Zr71 Pl71 ⟨rfl, (Cl.c rfl), ⟨rfl, (Cl.c rfl), ⟨rfl, (Cl.c rfl), ⟨rfl, (Cl.c rfl), trivial⟩⟩⟩⟩ rfl) ?_
    refine RG.ot rfl (OT.storeW (vs := [vi _, vi _, vi _, vi _]) rfl Sz71 rfl rfl (Cl.c rfl) rfl rfl (OneC.c rfl) ?_)
    refine RG.nil ?_
    refine WP.ret ?_
    exact ⟨_, _, ResV.one rfl (RV1.cell rfl Ag71 rfl), Cv.p, k⟩
theorem at_i {b bl bv bp : Nat} {D : List Bool} {ver : Bool} {l i : Int} (hD : D.length = 6400) (hi : -1000 ≤ i ∧ i ≤ 1000) (k : R (vi (one (cv D ver l (i - 40)))) G (blk bl 2 [vi l] :: blk bv 4 [.bool ver] :: blk bp 114 [.pointer (some ⟨b, 0, none⟩)] :: grd b D :: L)) :
    CallT Tryz.prog 214 #[vi i, .pointer (some ⟨bl, 0, none⟩), .pointer (some ⟨bv, 0, none⟩), .pointer (some ⟨bp, 0, none⟩)] G (blk bl 2 [vi l] :: blk bv 4 [.bool ver] :: blk bp 114 [.pointer (some ⟨b, 0, none⟩)] :: grd b D :: L) R := by
  refine CallT.enter (args := _) Tryz.func214 rfl rfl (by kernel_rfl) rfl ?_
  refine WP.seq ?_
  refine WP.region ?_
  refine RG.pv rfl (PV.mvI (.inr rfl) rfl) ?_
  refine RG.nil ?_
  refine WP.seq ?_
  refine WP.regionQ (by kernel_rfl) (by kernel_rfl) ?_
  refine RQ.pv rfl (PV.mvI (.inl rfl) rfl) ?_
  refine RQ.pv rfl (PV.sub rfl rfl rfl (by omega)) ?_
  refine RQ.pv rfl (PV.load1 rfl Sc2 rfl (Rd.blk rfl)) ?_
  refine RQ.pv rfl (PV.mvI (.inr rfl) rfl) ?_
  refine RQ.pv rfl (PV.mvI (.inr rfl) rfl) ?_
  refine RQ.nil ?_
  refine WP.seq ?_
  refine WP.seq ?_
  refine WP.region ?_
  refine RG.pv rfl (PV.load1 rfl Sc4 rfl (Rd.blk rfl)) ?_
  refine RG.nil ?_
  refine WP.cond rfl (fun hv => ?_) (fun hv => ?_)
  · subst hv
    have e : cv D true l (i - 40) = cellB D l (i - 40) := rfl
    rw [e] at k
    refine WP.region ?_
    refine RG.pv rfl (PV.mvI (.inl rfl) rfl) ?_
    refine RG.pv rfl (PV.mvI (.inl rfl) rfl) ?_
    refine RG.pv rfl (PV.mvI (.inr rfl) rfl) ?_
    refine RG.pv rfl (PV.mvI (.inr rfl) rfl) ?_
    refine RG.nil ?_
    refine WP.seq ?_
    refine WP.seq ?_
    refine WP.region ?_
    refine RG.pv rfl (PV.load1 rfl Sc114 rfl (Rd.blk rfl)) ?_
    refine RG.pv rfl (PV.mvI (.inl rfl) rfl) ?_
    refine RG.pv rfl (PV.mvI (.inl rfl) rfl) ?_
    refine RG.callF (vs := [_, _, _]) rfl rfl En189 rfl (CallT.exB (has_s hD ?_))
    refine RG.nil ?_
    refine WP.cond rfl (fun h => ?_) (fun h => ?_)
    · rw [h] at k
      refine WP.seq ?_
      refine WP.region ?_
      refine RG.pv rfl (PV.mvI (.inr rfl) rfl) ?_
      refine RG.nil ?_
      refine WP.ret ?_
      exact ⟨_, _, ResV.one rfl rfl, Cv.p, k⟩
    · rw [h] at k
      refine WP.skip ?_
      refine WP.seq ?_
      refine WP.region ?_
      refine RG.pv rfl (PV.mvI (.inr rfl) rfl) ?_
      refine RG.nil ?_
      refine WP.ret ?_
      exact ⟨_, _, ResV.one rfl rfl, Cv.p, k⟩
  · subst hv
    have e : cv D false l (i - 40) = cellB D (i - 40) l := rfl
    rw [e] at k
    refine WP.skip ?_
    refine WP.seq ?_
    refine WP.seq ?_
    refine WP.region ?_
    refine RG.pv rfl (PV.load1 rfl Sc114 rfl (Rd.blk rfl)) ?_
    refine RG.pv rfl (PV.mvI (.inl rfl) rfl) ?_
    refine RG.pv rfl (PV.mvI (.inl rfl) rfl) ?_
    refine RG.callF (vs := [_, _, _]) rfl rfl En189 rfl (CallT.exB (has_s hD ?_))
    refine RG.nil ?_
    refine WP.cond rfl (fun h => ?_) (fun h => ?_)
    · rw [h] at k
      refine WP.seq ?_
      refine WP.region ?_
      refine RG.pv rfl (PV.mvI (.inr rfl) rfl) ?_
      refine RG.nil ?_
      refine WP.ret ?_
      exact ⟨_, _, ResV.one rfl rfl, Cv.p, k⟩
    · rw [h] at k
      refine WP.skip ?_
      refine WP.seq ?_
      refine WP.region ?_
      refine RG.pv rfl (PV.mvI (.inr rfl) rfl) ?_
      refine RG.nil ?_
      refine WP.ret ?_
      exact ⟨_, _, ResV.one rfl rfl, Cv.p, k⟩
theorem yield_i {bo bl bv : Nat} {ver : Bool} {l a b n : Int} {q : Value} {out : List Rect} (hl : -1000 ≤ l ∧ l ≤ 1000) (hol : out.length ≤ 100000) (k : ∀ q', R (.tuple #[]) G (blk bl 2 [vi l] :: blk bv 4 [.bool ver] :: blk bo 28 [q'] :: osl 71 rectT q' (out ++ [lineR ver l a b]) :: L)) :
    CallT Tryz.prog 215 #[vi a, vi b, vi n, .pointer (some ⟨bo, 0, none⟩), .pointer (some ⟨bl, 0, none⟩), .pointer (some ⟨bv, 0, none⟩)] G (blk bl 2 [vi l] :: blk bv 4 [.bool ver] :: blk bo 28 [q] :: osl 71 rectT q out :: L) R := by
  refine CallT.enter (args := _) Tryz.func215 rfl rfl (by kernel_rfl) rfl ?_
  refine WP.regionHD [.b bo, .s q] (.q 1 (.q 2 (.q 3 (.q 4 (.b 0 (.l 5 (.l 6 (.l 7 (.l 8 Sch.nil)))) 5 (.b 0 (.l 6 (.l 7 (.l 8 Sch.nil))) 6 (.l 0 (.l 7 (.l 8 Sch.nil))))))))) (by kernel_rfl) (by kernel_rfl) (by kernel_rfl) rfl ?_
  refine RH.pv rfl (fun _ _ _ _ h => h) (Gh.le_refl _) PickC.pick rfl (PV.load1 rfl Sc2 rfl (Rd.blk rfl)) ?_
  refine RH.pv rfl (fun _ _ _ _ h => h) (Gh.le_refl _) PickC.pick rfl (PV.mvI (.inl rfl) rfl) ?_
  refine RH.pv rfl (fun _ _ _ _ h => h) (Gh.le_refl _) PickC.pick rfl (PV.mvI (.inl rfl) rfl) ?_
  refine RH.pv rfl (fun _ _ _ _ h => h) (Gh.le_refl _) PickC.pick rfl (PV.load1 rfl Sc4 rfl (Rd.blk rfl)) ?_
  refine RH.ot2 rfl rfl rfl rfl (OT.pv (PV.load1 rfl Sc28 rfl (Rd.blk rfl)) ⟨Gh.le_refl _, PickC.pick, ?_⟩) (OT.callF (vs := [_, _, _, _]) rfl En216 rfl (lineRect_i hl ⟨Gh.le_refl _, PickC.pick, ?_⟩))
  · skip
    refine RH.ot rfl rfl (OT.callF (vs := [_, _, _, _]) rfl En216 rfl (lineRect_i hl ⟨Gh.le_refl _, PickC.pick, ?_⟩))
    refine RH.ot rfl rfl (OT.bslice (F := rectT) (els := [_]) rfl El28 rfl (by decide) rfl (by decide) ⟨rfl, (Cl.c rfl), trivial⟩ fun v15 => ⟨Gh.le_refl _, PickC.pick, ?_⟩)
    refine RH.ot rfl rfl (OT.append (v := q) (u := v15) (F := rectT) rfl El28 rfl (by decide) rfl rfl Rs.o (OneL.c (fun _ => rfl)) rfl (by first | omega | (simp <;> omega)) fun v16 => ⟨Gh.le_refl _, PickC.pick, ?_⟩)
    refine RH.ot rfl rfl (OT.storeW (v := v16) (vs := [_]) rfl Sz28 rfl rfl (Cl.s (v := v16) SlF.o) rfl rfl (OneC.sl SlF.o OneC.nil) ⟨Gh.le_refl _, PickC.pick, ?_⟩)
    refine RH.nil ?_
    exact ⟨_, _, ResV.zero rfl, Cv.p, k v16⟩
  · skip
    refine RH.ot2 rfl rfl rfl rfl (OT.pv (PV.load1 rfl Sc28 rfl (Rd.blk rfl)) ⟨Gh.le_refl _, PickC.pick, ?_⟩) (OT.bslice (F := rectT) (els := [_]) rfl El28 rfl (by decide) rfl (by decide) ⟨rfl, (Cl.c rfl), trivial⟩ fun v15 => ⟨Gh.le_refl _, PickC.pick, ?_⟩)
    · skip
      refine RH.ot rfl rfl (OT.bslice (F := rectT) (els := [_]) rfl El28 rfl (by decide) rfl (by decide) ⟨rfl, (Cl.c rfl), trivial⟩ fun v15 => ⟨Gh.le_refl _, PickC.pick, ?_⟩)
      refine RH.ot rfl rfl (OT.append (v := q) (u := v15) (F := rectT) rfl El28 rfl (by decide) rfl rfl Rs.o (OneL.c (fun _ => rfl)) rfl (by first | omega | (simp <;> omega)) fun v16 => ⟨Gh.le_refl _, PickC.pick, ?_⟩)
      refine RH.ot rfl rfl (OT.storeW (v := v16) (vs := [_]) rfl Sz28 rfl rfl (Cl.s (v := v16) SlF.o) rfl rfl (OneC.sl SlF.o OneC.nil) ⟨Gh.le_refl _, PickC.pick, ?_⟩)
      refine RH.nil ?_
      exact ⟨_, _, ResV.zero rfl, Cv.p, k v16⟩
    · skip
      refine RH.ot rfl rfl (OT.pv (PV.load1 rfl Sc28 rfl (Rd.blk rfl)) ⟨Gh.le_refl _, PickC.pick, ?_⟩)
      refine RH.ot rfl rfl (OT.append (v := q) (u := v15) (F := rectT) rfl El28 rfl (by decide) rfl rfl Rs.o (OneL.c (fun _ => rfl)) rfl (by first | omega | (simp <;> omega)) fun v16 => ⟨Gh.le_refl _, PickC.pick, ?_⟩)
      refine RH.ot rfl rfl (OT.storeW (v := v16) (vs := [_]) rfl Sz28 rfl rfl (Cl.s (v := v16) SlF.o) rfl rfl (OneC.sl SlF.o OneC.nil) ⟨Gh.le_refl _, PickC.pick, ?_⟩)
      refine RH.nil ?_
      exact ⟨_, _, ResV.zero rfl, Cv.p, k v16⟩
theorem runs_i {b bl bv bp bo : Nat} {D : List Bool} {ver : Bool} {l : Int} {q : Value} {out : List Rect} (hD : D.length = 6400) (hl : -40 ≤ l ∧ l < 40) (hol : out.length ≤ 6400) (hr : RunL D ver out) (hs : Seen D ver out l (-40))
    (k : ∀ q' out', out'.length ≤ out.length + 80 → RunL D ver out' → Seen D ver out' l 40 → R (.tuple #[]) G (blk bl 2 [vi l] :: blk bv 4 [.bool ver] :: blk bp 114 [.pointer (some ⟨b, 0, none⟩)] :: blk bo 28 [q'] :: osl 71 rectT q' out' :: grd b D :: L)) :
    CallT Tryz.prog 213 #[.func (.func 214) #[] #[.pointer (some ⟨bl, 0, none⟩), .pointer (some ⟨bv, 0, none⟩), .pointer (some ⟨bp, 0, none⟩)], .func (.func 215) #[] #[.pointer (some ⟨bo, 0, none⟩), .pointer (some ⟨bl, 0, none⟩), .pointer (some ⟨bv, 0, none⟩)]] G (blk bl 2 [vi l] :: blk bv 4 [.bool ver] :: blk bp 114 [.pointer (some ⟨b, 0, none⟩)] :: blk bo 28 [q] :: osl 71 rectT q out :: grd b D :: L) R := by
  refine CallT.enter (args := _) Tryz.func213 rfl rfl (by kernel_rfl) rfl ?_
  refine WP.seq ?_
  refine WP.region ?_
  refine RG.pv rfl (PV.mvI (.inr rfl) rfl) ?_
  refine RG.nil ?_
  refine WP.block ?_
  refine WP.loop3 [0, 1] (fun (i : Int) (out1 : List Rect) (q1 : Value) => (0 ≤ i ∧ i ≤ 80) ∧ (out1.length : Int) ≤ out.length + i ∧ LnI D ver l out1 i) (fun (i : Int) (out1 : List Rect) (q1 : Value) => [(4, vi i)]) (fun (i : Int) (out1 : List Rect) (q1 : Value) => blk bl 2 [vi l] :: blk bv 4 [.bool ver] :: blk bp 114 [.pointer (some ⟨b, 0, none⟩)] :: blk bo 28 [q1] :: osl 71 rectT q1 out1 :: grd b D :: L) (fun (i : Int) (out1 : List Rect) (q1 : Value) => (80 - i).toNat) 0 out q ⟨by omega, by omega, LnI.start hr hs⟩ ⟨rfl, trivial⟩ Cv.p ?_
  rintro i out1 q1 τ ⟨hi, hlen, hI⟩
  refine WP.seq ?_
  refine WP.seq ?_
  refine WP.region ?_
  refine RG.pv rfl (PV.mvI (.inl rfl) rfl) ?_
  refine RG.pv rfl (PV.lss rfl rfl rfl) ?_
  refine RG.nil ?_
  refine WP.cond rfl (fun h2 => ?_) (fun h2 => ?_)
  · have h2 := of_decide_eq_true h2
    refine WP.skip ?_
    refine WP.block ?_
    refine WP.seq ?_
    refine WP.region ?_
    refine RG.pv rfl (PV.mvI (.inl rfl) rfl) ?_
    refine RG.pv rfl (PV.add rfl rfl rfl (by omega)) ?_
    refine RG.pv rfl (PV.mvI (.inr rfl) rfl) ?_
    refine RG.nil ?_
    refine WP.seq ?_
    refine WP.block ?_
    refine WP.loop1 [0, 1, 4] (fun (e : Int) => (i + 1 ≤ e ∧ e ≤ 80) ∧ ∀ u, i ≤ u → u < e → cv D ver l (u - 40) = cv D ver l (i - 40)) (fun (e : Int) => [(5, vi e)]) (fun (e : Int) => blk bl 2 [vi l] :: blk bv 4 [.bool ver] :: blk bp 114 [.pointer (some ⟨b, 0, none⟩)] :: blk bo 28 [q1] :: osl 71 rectT q1 out1 :: grd b D :: L) (fun (e : Int) => (80 - e).toNat) (i + 1) ⟨by omega, fun u h3 h4 => by rw [show u = i by omega]⟩ ⟨rfl, trivial⟩ Cv.p ?_
    rintro e τ1 ⟨he, hall⟩
    refine WP.seq ?_
    refine WP.seq ?_
    refine WP.region ?_
    refine RG.pv rfl (PV.mvI (.inl rfl) rfl) ?_
    refine RG.pv rfl (PV.lss rfl rfl rfl) ?_
    refine RG.pv rfl (PV.mvB (.inl rfl) rfl) ?_
    refine RG.spl (t := 12) rfl (fun g1 => ?_) (fun g1 => ?_)
    · have g2 := of_decide_eq_true g1
      refine RG.take rfl rfl rfl g1 ?_
      refine RG.pv rfl (PV.move rfl rfl) ?_
      refine RG.take rfl rfl rfl g1 ?_
      refine RG.pv rfl (PV.mvI (.inl rfl) rfl) ?_
      refine RG.take rfl rfl rfl g1 ?_
      refine RG.callK (vs := [_, _, _, _]) rfl rfl rfl En214 rfl (CallT.exB (b := b) (CallT.exB (b := bp) (CallT.exB (b := bv) (CallT.exB (b := bl) (at_i hD (by omega) ?_)))))
      refine RG.take rfl rfl rfl g1 ?_
      refine RG.pv rfl (PV.move rfl rfl) ?_
      refine RG.take rfl rfl rfl g1 ?_
      refine RG.pv rfl (PV.mvI (.inl rfl) rfl) ?_
      refine RG.take rfl rfl rfl g1 ?_
      refine RG.callK (vs := [_, _, _, _]) rfl rfl rfl En214 rfl (CallT.exB (b := b) (CallT.exB (b := bp) (CallT.exB (b := bv) (CallT.exB (b := bl) (at_i hD (by omega) ?_)))))
      refine RG.take rfl rfl rfl g1 ?_
      refine RG.pv rfl (PV.eql rfl rfl rfl) ?_
      refine RG.pv rfl (PV.pickT rfl rfl g1 rfl) ?_
      refine RG.nil ?_
      refine WP.cond rfl (fun h3 => ?_) (fun h3 => ?_)
      · have h3 := one_inj.1 (of_decide_eq_true h3)
        have hall' : ∀ u, i ≤ u → u < e + 1 → cv D ver l (u - 40) = cv D ver l (i - 40) := fun u h4 h5 => by
          by_cases c : u = e
          · rw [c]; exact h3
          · exact hall u h4 (by omega)
        refine WP.skip ?_
        refine WP.block ?_
        refine WP.region ?_
        refine RG.pv rfl (PV.mvI (.inl rfl) rfl) ?_
        refine RG.pv rfl (PV.add rfl rfl rfl (by omega)) ?_
        refine RG.pv rfl (PV.mvI (.inr rfl) rfl) ?_
        refine RG.nil ?_
        exact ⟨rfl, e + 1, ⟨by omega, hall'⟩, ⟨rfl, trivial⟩, ⟨rfl, rfl, rfl, trivial⟩, Cv.p, by omega⟩
      · have h3 : cv D ver l (e - 40) ≠ cv D ver l (i - 40) := fun h4 => of_decide_eq_false h3 (one_inj.2 h4)
        refine WP.exit ?_
        refine WP.seq ?_
        refine WP.seq ?_
        refine WP.region ?_
        refine RG.pv rfl (PV.move rfl rfl) ?_
        refine RG.pv rfl (PV.mvI (.inl rfl) rfl) ?_
        refine RG.callK (vs := [_, _, _, _]) rfl rfl rfl En214 rfl (CallT.exB (b := b) (CallT.exB (b := bp) (CallT.exB (b := bv) (CallT.exB (b := bl) (at_i hD (by omega) ?_)))))
        refine RG.pv rfl (PV.neq rfl rfl rfl) ?_
        refine RG.nil ?_
        refine WP.cond rfl (fun h4 => ?_) (fun h4 => ?_)
        · have h4 : cv D ver l (i - 40) = true := one_ne.1 (by simpa using h4)
          refine WP.region ?_
          refine RG.pv rfl (PV.move rfl rfl) ?_
          refine RG.pv rfl (PV.mvI (.inl rfl) rfl) ?_
          refine RG.pv rfl (PV.sub rfl rfl rfl (by omega)) ?_
          refine RG.pv rfl (PV.mvI (.inl rfl) rfl) ?_
          refine RG.pv rfl (PV.sub rfl rfl rfl (by omega)) ?_
          refine RG.pv rfl (PV.move rfl rfl) ?_
          refine RG.pv rfl (PV.mvI (.inl rfl) rfl) ?_
          refine RG.callK (vs := [_, _, _, _]) rfl rfl rfl En214 rfl (CallT.exB (b := b) (CallT.exB (b := bp) (CallT.exB (b := bv) (CallT.exB (b := bl) (at_i hD (by omega) ?_)))))
          refine RG.callK (vs := [_, _, _, _, _, _]) rfl rfl rfl En215 rfl (CallT.exS q1 (CallT.exB (b := bo) (CallT.exB (b := bv) (CallT.exB (b := bl) (yield_i (by omega) (by omega) (fun q2 => ?_))))))
          refine RG.nil ?_
          refine WP.region ?_
          refine RG.pv rfl (PV.mvI (.inl rfl) rfl) ?_
          refine RG.pv rfl (PV.mvI (.inr rfl) rfl) ?_
          refine RG.nil ?_
          exact ⟨rfl, e, (out1 ++ [lineR ver l (i - 40) (e - 40)]), q2, ⟨by omega, by simp; omega, hI.hit hl (by omega) hall (.inr h3) h4⟩, ⟨rfl, trivial⟩, ⟨rfl, rfl, trivial⟩, Cv.p, by omega⟩
        · have h4 : cv D ver l (i - 40) = false := by
            cases c : cv D ver l (i - 40) with
            | false => rfl
            | true => rw [c] at h4; simp [one] at h4
          refine WP.skip ?_
          refine WP.region ?_
          refine RG.pv rfl (PV.mvI (.inl rfl) rfl) ?_
          refine RG.pv rfl (PV.mvI (.inr rfl) rfl) ?_
          refine RG.nil ?_
          exact ⟨rfl, e, out1, q1, ⟨by omega, by omega, hI.miss (by omega) hall (.inr h3) h4⟩, ⟨rfl, trivial⟩, ⟨rfl, rfl, trivial⟩, Cv.p, by omega⟩
    · have g2 := of_decide_eq_false g1
      have h3 : e = 80 := by omega
      refine RG.skip rfl rfl rfl (gne g1) ?_
      refine RG.skip rfl rfl rfl (gne g1) ?_
      refine RG.skip rfl rfl rfl (gne g1) ?_
      refine RG.skip rfl rfl rfl (gne g1) ?_
      refine RG.skip rfl rfl rfl (gne g1) ?_
      refine RG.skip rfl rfl rfl (gne g1) ?_
      refine RG.skip rfl rfl rfl (gne g1) ?_
      refine RG.pv rfl (PV.pickE rfl rfl g1 rfl) ?_
      refine RG.nil ?_
      refine WP.cond rfl (fun h5 => ?_) (fun h5 => ?_)
      · cases h5
      · refine WP.exit ?_
        refine WP.seq ?_
        refine WP.seq ?_
        refine WP.region ?_
        refine RG.pv rfl (PV.move rfl rfl) ?_
        refine RG.pv rfl (PV.mvI (.inl rfl) rfl) ?_
        refine RG.callK (vs := [_, _, _, _]) rfl rfl rfl En214 rfl (CallT.exB (b := b) (CallT.exB (b := bp) (CallT.exB (b := bv) (CallT.exB (b := bl) (at_i hD (by omega) ?_)))))
        refine RG.pv rfl (PV.neq rfl rfl rfl) ?_
        refine RG.nil ?_
        refine WP.cond rfl (fun h4 => ?_) (fun h4 => ?_)
        · have h4 : cv D ver l (i - 40) = true := one_ne.1 (by simpa using h4)
          refine WP.region ?_
          refine RG.pv rfl (PV.move rfl rfl) ?_
          refine RG.pv rfl (PV.mvI (.inl rfl) rfl) ?_
          refine RG.pv rfl (PV.sub rfl rfl rfl (by omega)) ?_
          refine RG.pv rfl (PV.mvI (.inl rfl) rfl) ?_
          refine RG.pv rfl (PV.sub rfl rfl rfl (by omega)) ?_
          refine RG.pv rfl (PV.move rfl rfl) ?_
          refine RG.pv rfl (PV.mvI (.inl rfl) rfl) ?_
          refine RG.callK (vs := [_, _, _, _]) rfl rfl rfl En214 rfl (CallT.exB (b := b) (CallT.exB (b := bp) (CallT.exB (b := bv) (CallT.exB (b := bl) (at_i hD (by omega) ?_)))))
          refine RG.callK (vs := [_, _, _, _, _, _]) rfl rfl rfl En215 rfl (CallT.exS q1 (CallT.exB (b := bo) (CallT.exB (b := bv) (CallT.exB (b := bl) (yield_i (by omega) (by omega) (fun q2 => ?_))))))
          refine RG.nil ?_
          refine WP.region ?_
          refine RG.pv rfl (PV.mvI (.inl rfl) rfl) ?_
          refine RG.pv rfl (PV.mvI (.inr rfl) rfl) ?_
          refine RG.nil ?_
          exact ⟨rfl, e, (out1 ++ [lineR ver l (i - 40) (e - 40)]), q2, ⟨by omega, by simp; omega, hI.hit hl (by omega) hall (.inl h3) h4⟩, ⟨rfl, trivial⟩, ⟨rfl, rfl, trivial⟩, Cv.p, by omega⟩
        · have h4 : cv D ver l (i - 40) = false := by
            cases c : cv D ver l (i - 40) with
            | false => rfl
            | true => rw [c] at h4; simp [one] at h4
          refine WP.skip ?_
          refine WP.region ?_
          refine RG.pv rfl (PV.mvI (.inl rfl) rfl) ?_
          refine RG.pv rfl (PV.mvI (.inr rfl) rfl) ?_
          refine RG.nil ?_
          exact ⟨rfl, e, out1, q1, ⟨by omega, by omega, hI.miss (by omega) hall (.inl h3) h4⟩, ⟨rfl, trivial⟩, ⟨rfl, rfl, trivial⟩, Cv.p, by omega⟩
  · have h2 := of_decide_eq_false h2
    obtain rfl : i = 80 := by omega
    refine WP.exit ?_
    exact ⟨_, _, ResV.zero rfl, Cv.p, k q1 out1 (by omega) hI.run hI.seen⟩
theorem runsOf_i {b : Nat} {D : List Bool} {ver : Bool} (hD : D.length = 6400) (k : ∀ v out, RunsOf D ver out → R v G (osl 71 rectT v out :: grd b D :: L)) :
    CallT Tryz.prog 187 #[.pointer (some ⟨b, 0, none⟩), .bool ver] G (grd b D :: L) R := by
  refine CallT.enter (args := _) Tryz.func187 rfl rfl (by kernel_rfl) rfl ?_
  refine WP.seq ?_
  refine WP.region ?_
  refine RG.ot rfl (OT.box (cs := [.pointer (some ⟨b, 0, none⟩)]) rfl rfl rfl fun b2 => ?_)
  refine RG.ot rfl (OT.box (cs := [.bool ver]) rfl rfl rfl fun b3 => ?_)
  refine RG.pv rfl (PV.asg rfl rfl) ?_
  refine RG.nil ?_
  refine WP.seq ?_
  refine WP.region ?_
  refine RG.ot rfl (OT.bslice (F := rectT) (els := []) rfl El28 rfl (by decide) rfl (by decide) trivial fun v7 => ?_)
  refine RG.ot rfl (OT.alloc rfl Zr28 fun b5 => ?_)
  refine RG.ot rfl (OT.storeW (v := v7) (vs := [_]) rfl Sz28 rfl rfl (Cl.s (v := v7) SlF.o) rfl rfl (OneC.sl SlF.o OneC.nil) ?_)
  refine RG.nil ?_
  refine WP.seq ?_
  refine WP.seq ?_
  refine WP.region ?_
  refine RG.ot rfl (OT.alloc rfl Zr2 fun b6 => ?_)
  refine RG.ot rfl (OT.storeW (vs := [vi _]) rfl Sz2 rfl rfl (Cl.c rfl) rfl rfl (OneC.c rfl) ?_)
  refine RG.nil ?_
  refine WP.block ?_
  refine WP.loop4 [2, 3, 5] (fun (bl : Nat) (l : Int) (out : List Rect) (q : Value) => (-40 ≤ l ∧ l ≤ 40) ∧ (out.length : Int) ≤ (l + 40) * 80 ∧ RunL D ver out ∧ Seen D ver out l (-40)) (fun (bl : Nat) (l : Int) (out : List Rect) (q : Value) => [(6, .pointer (some ⟨bl, 0, none⟩))]) (fun (bl : Nat) (l : Int) (out : List Rect) (q : Value) => blk bl 2 [vi l] :: blk b3 4 [.bool ver] :: blk b2 114 [.pointer (some ⟨b, 0, none⟩)] :: blk b5 28 [q] :: osl 71 rectT q out :: grd b D :: L) (fun (bl : Nat) (l : Int) (out : List Rect) (q : Value) => (40 - l).toNat) b6 (-40) [] v7 ⟨by omega, by simp, RunL.nil, Seen.init⟩ ⟨rfl, trivial⟩ Cv.p ?_
  rintro bl l out q τ ⟨hl, hlen, hrl, hseen⟩
  refine WP.seq ?_
  refine WP.seq ?_
  refine WP.region ?_
  refine RG.pv rfl (PV.load1 rfl Sc2 rfl (Rd.blk rfl)) ?_
  refine RG.pv rfl (PV.lss rfl rfl rfl) ?_
  refine RG.nil ?_
  refine WP.cond rfl (fun h2 => ?_) (fun h2 => ?_)
  · have h2 := of_decide_eq_true h2
    refine WP.skip ?_
    refine WP.seq ?_
    refine WP.block ?_
    refine WP.region ?_
    refine RG.pv rfl (PV.mkf3 rfl rfl rfl rfl) ?_
    refine RG.pv rfl (PV.mkf3 rfl rfl rfl rfl) ?_
    refine RG.callF (vs := [_, _]) rfl rfl En213 rfl (CallT.exB (b := b) (CallT.exS q (CallT.exB (b := b5) (CallT.exB (b := b2) (CallT.exB (b := b3) (CallT.exB (b := bl) (runs_i hD (by omega) (by omega) hrl hseen (fun q2 out2 hlen2 hrl2 hseen2 => ?_))))))))
    refine RG.nil ?_
    refine WP.seq ?_
    refine WP.seq ?_
    refine WP.region ?_
    refine RG.pv rfl (PV.load1 rfl Sc2 rfl (Rd.blk rfl)) ?_
    refine RG.nil ?_
    refine WP.region ?_
    refine RG.ot rfl (OT.alloc rfl Zr2 fun b6 => ?_)
    refine RG.ot rfl (OT.storeW (vs := [vi _]) rfl Sz2 rfl rfl (Cl.c rfl) rfl rfl (OneC.c rfl) ?_)
    refine RG.nil ?_
    refine WP.region ?_
    refine RG.pv rfl (PV.load1 rfl Sc2 rfl (Rd.blk rfl)) ?_
    refine RG.pv rfl (PV.add rfl rfl rfl (by omega)) ?_
    refine RG.ot rfl (OT.storeW (vs := [vi _]) rfl Sz2 rfl rfl (Cl.c rfl) rfl rfl (OneC.c rfl) ?_)
    refine RG.nil ?_
    exact ⟨rfl, b6, l + 1, out2, q2, ⟨by omega, by omega, hrl2, hseen2.line⟩, ⟨rfl, trivial⟩, ⟨rfl, rfl, rfl, trivial⟩, Cv.p, by omega⟩
  · have h2 := of_decide_eq_false h2
    obtain rfl : l = 40 := by omega
    refine WP.exit ?_
    refine WP.seq ?_
    refine WP.region ?_
    refine RG.pv rfl (PV.load1 rfl Sc28 rfl (Rd.blk rfl)) ?_
    refine RG.pv rfl (PV.asg (v := q) rfl rfl) ?_
    refine RG.nil ?_
    refine WP.ret ?_
    exact ⟨_, _, ResV.one rfl rfl, Cv.p, k q out ⟨by omega, hrl, hseen.all⟩⟩
end Go.Proofs.YtpjajhjcbcfplaaGreat
namespace Go.Proofs.YtpjajhjcbcfplaaGreat
set_option linter.unusedVariables false
set_option linter.unusedSimpArgs false
open Go
set_option maxRecDepth 20000
set_option linter.unusedSimpArgs false
variable {G : Gh} {L : List Ch} {R : Value → Gh → List Ch → Prop}
theorem gd_not {D : List Bool} {j : Nat} (h : j < D.length) : gd (notB D) j = !gd D j := by rw [gd_eq (by rw [notB_len]; exact h), gd_eq h]; simp [notB]
theorem not_i {b : Nat} {D : List Bool} (hD : D.length = 6400) (k : ∀ b', R (.pointer (some ⟨b', 0, none⟩)) G (grd b' (notB D) :: grd b D :: L)) :
    CallT Tryz.prog 217 #[.pointer (some ⟨b, 0, none⟩)] G (grd b D :: L) R := by
  refine CallT.enter (args := _) Tryz.func217 rfl rfl (by kernel_rfl) rfl ?_
  refine WP.seq ?_
  refine WP.region ?_
  refine RG.pv rfl (PV.asg rfl rfl) ?_
  refine RG.nil ?_
  refine WP.seq ?_
  refine WP.region ?_
  refine RG.pv rfl (PV.build0 rfl Tryz.underlying127 ⟨80, by kernel_rfl⟩ (zeroB_spec (n := 6400) (by kernel_rfl))) ?_
  refine RG.ot rfl (OT.boxG rfl rfl fun b7 => ?_)
  refine RG.pv rfl (PV.mvP (.inr rfl) rfl) ?_
  refine RG.nil ?_
  refine WP.seq ?_
  refine WP.seq ?_
  refine WP.region ?_
  refine RG.pv rfl (PV.mvI (.inl rfl) rfl) ?_
  refine RG.nil ?_
  refine WP.block ?_
  refine WP.loop2 [0, 3] (fun (i : Nat) (cs : List Bool) => i ≤ 80 ∧ cs.length = 6400 ∧ ∀ j, j < i * 80 → gd cs j = !gd D j) (fun (i : Nat) (cs : List Bool) => [(8, vi i)]) (fun (i : Nat) (cs : List Bool) => grd b7 cs :: grd b D :: L) (fun (i : Nat) (cs : List Bool) => 80 - i) 0 (List.replicate 6400 false) ⟨by omega, by simp, fun j h => by omega⟩ ⟨rfl, trivial⟩ Cv.p ?_
  rintro i cs τ ⟨hi, hlc, hc⟩
  refine WP.seq ?_
  refine WP.region ?_
  refine RG.pv rfl (PV.lss rfl rfl rfl) ?_
  refine RG.nil ?_
  refine WP.seq ?_
  refine WP.cond rfl (fun h4 => ?_) (fun h4 => ?_)
  · have h4 := of_decide_eq_true h4
    refine WP.skip ?_
    refine WP.seq ?_
    refine WP.block ?_
    refine WP.seq ?_
    refine WP.region ?_
    refine RG.pv rfl (PV.mvI (.inl rfl) rfl) ?_
    refine RG.pv rfl (PV.mvI (.inr rfl) rfl) ?_
    refine RG.nil ?_
    refine WP.seq ?_
    refine WP.region ?_
    refine RG.pv rfl (PV.mvI (.inl rfl) rfl) ?_
    refine RG.nil ?_
    refine WP.block ?_
    refine WP.loop2 [0, 3, 4, 8] (fun (m : Nat) (ds : List Bool) => m ≤ 80 ∧ ds.length = 6400 ∧ ∀ j, j < i * 80 + m → gd ds j = !gd D j) (fun (m : Nat) (ds : List Bool) => [(11, vi m)]) (fun (m : Nat) (ds : List Bool) => grd b7 ds :: grd b D :: L) (fun (m : Nat) (ds : List Bool) => 80 - m) 0 cs ⟨by omega, hlc, fun j h => hc j (by omega)⟩ ⟨rfl, trivial⟩ Cv.p ?_
    rintro m ds τ1 ⟨hm, hld, hd⟩
    refine WP.seq ?_
    refine WP.region ?_
    refine RG.pv rfl (PV.lss rfl rfl rfl) ?_
    refine RG.nil ?_
    refine WP.seq ?_
    refine WP.cond rfl (fun h5 => ?_) (fun h5 => ?_)
    · have h5 := of_decide_eq_true h5
      refine WP.skip ?_
      refine WP.seq ?_
      refine WP.block ?_
      refine WP.seq ?_
      refine WP.region ?_
      refine RG.pv rfl (PV.mvI (.inl rfl) rfl) ?_
      refine RG.pv rfl (PV.mvI (.inr rfl) rfl) ?_
      refine RG.nil ?_
      refine WP.regionHD [.b b7] (.q 0 (.q 1 (.q 2 (.q 3 (.q 4 (.q 5 (.q 6 (.q 7 (.q 8 (.q 9 (.q 10 (.q 11 (.q 12 (.q 13 (.l 14 Sch.nil))))))))))))))) (by kernel_rfl) (by kernel_rfl) (by kernel_rfl) rfl ?_
      refine RH.pv rfl (fun _ _ _ _ h => h) (Gh.le_refl _) PickC.pick rfl (PV.mvP (.inl rfl) rfl) ?_
      refine RH.pv rfl (fun _ _ _ _ h => h) (Gh.le_refl _) PickC.pick rfl (PV.mvI (.inl rfl) rfl) ?_
      refine RH.pv rfl (fun _ _ _ _ h => h) (Gh.le_refl _) PickC.pick rfl (PV.mvI (.inl rfl) rfl) ?_
      refine RH.pv rfl (fun _ _ _ _ h => h) (Gh.le_refl _) PickC.pick rfl (PV.mvP (.inl rfl) rfl) ?_
      refine RH.pv rfl (fun _ _ _ _ h => h) (Gh.le_refl _) PickC.pick rfl (PV.mvI (.inl rfl) rfl) ?_
      refine RH.pv rfl (fun _ _ _ _ h => h) (Gh.le_refl _) PickC.pick rfl (PV.mvI (.inl rfl) rfl) ?_
      refine RH.pv rfl (fun _ _ _ _ h => h) (Gh.le_refl _) PickC.pick rfl (PV.nilc rfl rfl) ?_
      refine RH.pv rfl (fun _ _ _ _ h => h) (Gh.le_refl _) PickC.pick rfl (PV.idxA rfl Ia127 rfl rfl rfl (by omega)) ?_
      refine RH.pv rfl (fun _ _ _ _ h => h) (Gh.le_refl _) PickC.pick rfl (PV.idxA rfl Ia125 rfl rfl rfl (by omega)) ?_
      refine RH.pv rfl (fun _ _ _ _ h => h) (Gh.le_refl _) PickC.pick rfl (PV.loadGr rfl Sc4 rfl rfl (by omega)) ?_
      refine RH.pv rfl (fun _ _ _ _ h => h) (Gh.le_refl _) PickC.pick rfl (PV.not rfl rfl) ?_
      refine RH.pv rfl (fun _ _ _ _ h => h) (Gh.le_refl _) PickC.pick rfl (PV.nilc rfl rfl) ?_
      refine RH.pv rfl (fun _ _ _ _ h => h) (Gh.le_refl _) PickC.pick rfl (PV.idxA rfl Ia127 rfl rfl rfl (by omega)) ?_
      refine RH.pv rfl (fun _ _ _ _ h => h) (Gh.le_refl _) PickC.pick rfl (PV.idxA rfl Ia125 rfl rfl rfl (by omega)) ?_
      refine RH.ot rfl rfl (OT.storeGr rfl Sz4 rfl rfl rfl (by first | omega | (simp; omega)) ⟨Gh.le_refl _, PickC.pick, ?_⟩)
      refine RH.nil ?_
      refine WP.region ?_
      refine RG.pv rfl (PV.add rfl rfl rfl (by omega)) ?_
      refine RG.pv rfl (PV.mvI (.inl rfl) rfl) ?_
      refine RG.nil ?_
      refine ⟨rfl, m + 1, (ds.set (0 + i * 80 + m * 1) (!gd D (0 + i * 80 + m * 1))), ⟨by omega, by simpa using hld, fun j hj => ?_⟩, ⟨rfl, trivial⟩, ⟨rfl, rfl, rfl, rfl, trivial⟩, Cv.p, by omega⟩
      rw [show 0 + i * 80 + m * 1 = i * 80 + m by omega]
      by_cases c : j = i * 80 + m
      · subst c; rw [gd_setE (by omega)]
      · rw [gd_setN (fun e => c e.symm)]; exact hd j (by omega)
    · have h5 := of_decide_eq_false h5
      refine WP.exit ?_
      refine WP.region ?_
      refine RG.pv rfl (PV.add rfl rfl rfl (by omega)) ?_
      refine RG.pv rfl (PV.mvI (.inl rfl) rfl) ?_
      refine RG.nil ?_
      exact ⟨rfl, i + 1, ds, ⟨by omega, hld, fun j hj => hd j (by omega)⟩, ⟨rfl, trivial⟩, ⟨rfl, rfl, trivial⟩, Cv.p, by omega⟩
  · have h4 := of_decide_eq_false h4
    have hz : cs = notB D := by
      apply List.ext_getElem?
      intro j
      by_cases hj : j < 6400
      · rw [getG (by omega), hc j (by omega), ← gd_not (by omega), getG (by rw [notB_len]; omega)]
      · rw [List.getElem?_eq_none (by omega), List.getElem?_eq_none (by rw [notB_len]; omega)]
    subst hz
    refine WP.exit ?_
    refine WP.seq ?_
    refine WP.region ?_
    refine RG.pv rfl (PV.mvP (.inl rfl) rfl) ?_
    refine RG.pv rfl (PV.mvP (.inr rfl) rfl) ?_
    refine RG.nil ?_
    refine WP.ret ?_
    exact ⟨_, _, ResV.one rfl rfl, Cv.p, k b7⟩
def inner (ver : Bool) (r : Rect) : Bool := (ver && decide (-40 < r.y0)) && decide (r.y1 < 40) || (!ver && decide (-40 < r.x0)) && decide (r.x1 < 40)
theorem inner_line {ver : Bool} {l lo hi : Int} : inner ver (lineR ver l lo hi) = true ↔ -40 < lo ∧ hi < 40 := by
  have e : inner ver (lineR ver l lo hi) = (decide (-40 < lo) && decide (hi < 40)) := by
    cases ver
    · rfl
    · show ((decide (-40 < lo) && decide (hi < 40)) || false) = _
      rw [Bool.or_false]
  rw [e, Bool.and_eq_true, decide_eq_true_eq, decide_eq_true_eq]
structure GapsOf (D : List Bool) (ver : Bool) (out : List Rect) : Prop where
  len : out.length ≤ 6400
  run : ∀ r ∈ out, ∃ l k lo hi, isRun (notB D) ver l k lo hi ∧ (-40 < lo ∧ hi < 40) ∧ r = lineR ver l lo hi
  all : ∀ l k lo hi, isRun (notB D) ver l k lo hi → -40 < lo → hi < 40 → lineR ver l lo hi ∈ out
theorem GapsOf.of {D : List Bool} {ver : Bool} {a : List Rect} (h : RunsOf (notB D) ver a) : GapsOf D ver (a.filter (inner ver)) := ⟨by
  have := h.len; have := List.length_filter_le (inner ver) a; omega, fun r hr => by
  obtain ⟨h1, h2⟩ := List.mem_filter.1 hr
  obtain ⟨l, k, lo, hi, g1, rfl⟩ := h.run r h1
  exact ⟨l, k, lo, hi, g1, inner_line.1 h2, rfl⟩, fun l k lo hi h1 h2 h3 => by
  obtain ⟨lo', hi', g1, g2⟩ := h.all l k (h1.all k h1.lk.1 h1.lk.2)
  obtain ⟨rfl, rfl⟩ := h1.uniq g1
  exact List.mem_filter.2 ⟨g2, inner_line.2 ⟨h2, h3⟩⟩⟩
theorem gapsOf_i {b : Nat} {D : List Bool} {ver : Bool} (hD : D.length = 6400) (k : ∀ v out, GapsOf D ver out → R v G (osl 71 rectT v out :: grd b D :: L)) :
    CallT Tryz.prog 188 #[.pointer (some ⟨b, 0, none⟩), .bool ver] G (grd b D :: L) R := by
  refine CallT.enter (args := _) Tryz.func188 rfl rfl (by kernel_rfl) rfl ?_
  refine WP.seq ?_
  refine WP.region ?_
  refine RG.pv rfl (PV.asg rfl rfl) ?_
  refine RG.nil ?_
  refine WP.seq ?_
  refine WP.region ?_
  refine RG.ot rfl (OT.bslice (F := rectT) (els := []) rfl El28 rfl (by decide) rfl (by decide) trivial fun v8 => ?_)
  refine RG.pv rfl (PV.asg (v := v8) rfl rfl) ?_
  refine RG.nil ?_
  refine WP.seq ?_
  refine WP.seq ?_
  refine WP.region ?_
  refine RG.pv rfl (PV.move rfl rfl) ?_
  refine RG.callF (vs := [_]) rfl rfl En217 rfl (CallT.exB (not_i hD (fun b10 => ?_)))
  refine RG.pv rfl (PV.mvB (.inl rfl) rfl) ?_
  refine RG.callF (vs := [_, _]) rfl rfl En187 rfl (CallT.exB (b := b10) (runsOf_i (by rw [notB_len]; exact hD) (fun v12 outv12 houtv12 => have hlnv12 := houtv12.len; ?_)))
  refine RG.pv rfl (PV.len (v := v12) rfl Tryz.underlying28 rfl SlF.o) ?_
  refine RG.pv rfl (PV.mvI (.inl rfl) rfl) ?_
  refine RG.nil ?_
  refine WP.block ?_
  refine WP.loop3 [1, 12, 13] (fun (i : Nat) (out : List Rect) (q : Value) => i ≤ outv12.length ∧ out = (outv12.take i).filter (inner ver)) (fun (i : Nat) (out : List Rect) (q : Value) => [(14, vi i), (5, q)]) (fun (i : Nat) (out : List Rect) (q : Value) => osl 71 rectT q out :: osl 71 rectT v12 outv12 :: grd b D :: L) (fun (i : Nat) (out : List Rect) (q : Value) => outv12.length - i) 0 [] v8 ⟨by omega, rfl⟩ ⟨rfl, rfl, trivial⟩ Cv.p ?_
  rintro i out q τ ⟨hi, hout⟩
  refine WP.seq ?_
  refine WP.region ?_
  refine RG.pv rfl (PV.lss rfl rfl rfl) ?_
  refine RG.nil ?_
  refine WP.seq ?_
  have hol : out.length ≤ 6400 := by have := List.length_filter_le (inner ver) (outv12.take i); rw [← hout, List.length_take] at this; omega
  refine WP.cond rfl (fun h4 => ?_) (fun h4 => ?_)
  · have h4 := of_decide_eq_true h4
    have h40 : i < outv12.length := by omega
    have hf := filt_succ (inner ver) h40
    refine WP.skip ?_
    refine WP.seq ?_
    refine WP.block ?_
    refine WP.seq ?_
    refine WP.region ?_
    refine RG.pv rfl (PV.idxS (v := v12) rfl Is28 rfl SlF.o rfl rfl (by omega)) ?_
    refine RG.pv rfl (PV.loadE rfl Ag71 rfl rfl (El.o (getG (by omega)))) ?_
    refine RG.ot rfl (OT.alloc rfl Zr71 fun b7 => ?_)
    refine RG.ot rfl (OT.storeW (vs := [vi _, vi _, vi _, vi _]) rfl Sz71 rfl rfl (Cl.c rfl) rfl rfl (OneC.c rfl) ?_)
    refine RG.nil ?_
    refine WP.seq ?_
    refine WP.region ?_
    refine RG.pv rfl (PV.mvB (.inl rfl) rfl) ?_
    refine RG.pv rfl (PV.mvB (.inl rfl) rfl) ?_
    refine RG.gs rfl rfl rfl (fun hp => (PV.field rfl Fo71_1 rfl)) ?_
    refine RG.gs rfl rfl rfl (fun hp => (PV.load1 rfl Sc2 (gs_t hp) (Rd.blk rfl))) ?_
    refine RG.gs rfl rfl rfl (fun hp => (PV.gtr rfl (gs_t hp) rfl)) ?_
    refine RG.pv rfl (PV.pickA rfl rfl (fun hq => gs_t (geqT hq)) rfl) ?_
    refine RG.pv rfl (PV.mvB (.inl rfl) rfl) ?_
    refine RG.gs rfl rfl rfl (fun hp => (PV.field rfl Fo71_3 rfl)) ?_
    refine RG.gs rfl rfl rfl (fun hp => (PV.load1 rfl Sc2 (gs_t hp) (Rd.blk rfl))) ?_
    refine RG.gs rfl rfl rfl (fun hp => (PV.lss rfl (gs_t hp) rfl)) ?_
    refine RG.pv rfl (PV.pickA rfl rfl (fun hq => gs_t (geqT hq)) rfl) ?_
    refine RG.pv rfl (PV.mvB (.inl rfl) rfl) ?_
    refine RG.gs rfl rfl rfl (fun hp => (PV.mvB (.inl rfl) rfl)) ?_
    refine RG.gs rfl rfl rfl (fun hp => (PV.not rfl (gs_t hp))) ?_
    refine RG.gs rfl rfl rfl (fun hp => (PV.mvB (.inl rfl) (gs_t hp))) ?_
    refine RG.gs2 rfl rfl rfl (fun hp => (PV.field rfl Fo71_0 rfl)) ?_
    refine RG.gs2 rfl rfl rfl (fun hp => (PV.load1 rfl Sc2 (gs_t hp) (Rd.blk rfl))) ?_
    refine RG.gs2 rfl rfl rfl (fun hp => (PV.gtr rfl (gs_t hp) rfl)) ?_
    refine RG.gs rfl rfl rfl (fun hp => (PV.pickA rfl (gs_t hp) (fun hq => gs_t (gandT hp hq)) rfl)) ?_
    refine RG.gs rfl rfl rfl (fun hp => (PV.mvB (.inl rfl) (gs_t hp))) ?_
    refine RG.gs2 rfl rfl rfl (fun hp => (PV.field rfl Fo71_2 rfl)) ?_
    refine RG.gs2 rfl rfl rfl (fun hp => (PV.load1 rfl Sc2 (gs_t hp) (Rd.blk rfl))) ?_
    refine RG.gs2 rfl rfl rfl (fun hp => (PV.lss rfl (gs_t hp) rfl)) ?_
    refine RG.gs rfl rfl rfl (fun hp => (PV.pickA rfl (gs_t hp) (fun hq => gs_t (gandT hp hq)) rfl)) ?_
    refine RG.pv rfl (PV.pickO rfl rfl rfl (fun hq => gs_t (geqF hq))) ?_
    refine RG.nil ?_
    refine WP.cond rfl (fun h5 => ?_) (fun h5 => ?_)
    · have h6 : inner ver (gd outv12 i) = true := h5
      rw [if_pos h6, ← hout] at hf
      refine WP.region ?_
      refine RG.pv rfl (PV.move (v := q) rfl rfl) ?_
      refine RG.pv rfl (PV.loadW rfl Ag71 rfl rfl) ?_
      refine RG.ot rfl (OT.bslice (F := rectT) (els := [_]) rfl El28 rfl (by decide) rfl (by decide) ⟨rfl, (Cl.c rfl), trivial⟩ fun v45 => ?_)
      refine RG.ot rfl (OT.append (v := q) (u := v45) (F := rectT) rfl El28 rfl (by decide) rfl rfl Rs.o (OneL.c (fun _ => rfl)) rfl (by first | omega | (simp <;> omega)) fun v46 => ?_)
      refine RG.pv rfl (PV.asg (v := v46) rfl rfl) ?_
      refine RG.nil ?_
      refine WP.region ?_
      refine RG.pv rfl (PV.add rfl rfl rfl (by omega)) ?_
      refine RG.pv rfl (PV.mvI (.inl rfl) rfl) ?_
      refine RG.nil ?_
      exact ⟨rfl, i + 1, _, v46, ⟨by omega, hf.symm⟩, ⟨rfl, rfl, trivial⟩, ⟨rfl, rfl, rfl, trivial⟩, Cv.p, by omega⟩
    · have h6 : ¬ inner ver (gd outv12 i) = true := by rw [show inner ver (gd outv12 i) = false from h5]; decide
      rw [if_neg h6, ← hout, List.append_nil] at hf
      refine WP.skip ?_
      refine WP.region ?_
      refine RG.pv rfl (PV.add rfl rfl rfl (by omega)) ?_
      refine RG.pv rfl (PV.mvI (.inl rfl) rfl) ?_
      refine RG.nil ?_
      exact ⟨rfl, i + 1, _, q, ⟨by omega, hf.symm⟩, ⟨rfl, rfl, trivial⟩, ⟨rfl, rfl, rfl, trivial⟩, Cv.p, by omega⟩
  · have h4 := of_decide_eq_false h4
    rw [List.take_of_length_le (by omega)] at hout
    rw [hout]
    refine WP.exit ?_
    refine WP.seq ?_
    refine WP.region ?_
    refine RG.pv rfl (PV.move (v := q) rfl rfl) ?_
    refine RG.pv rfl (PV.asg (v := q) rfl rfl) ?_
    refine RG.nil ?_
    refine WP.ret ?_
    exact ⟨_, _, ResV.one rfl rfl, Cv.p, k q _ (GapsOf.of houtv12)⟩
theorem allRuns_i {v : Value} {xs : List Rect} (h1 : Rs G L rectT v xs) (k : ∀ v' out, RunsA (bits xs) out → R v' G (osl 71 rectT v' out :: L)) : CallT Tryz.prog 152 #[v] G L R := by
  refine CallT.enter (args := _) Tryz.func152 rfl rfl (by kernel_rfl) rfl ?_
  refine WP.seq ?_
  refine WP.region ?_
  refine RG.pv rfl (PV.asg rfl rfl) ?_
  refine RG.nil ?_
  refine WP.seq ?_
  refine WP.region ?_
  refine RG.pv rfl (PV.move (v := v) rfl rfl) ?_
  refine RG.callF (vs := [v]) rfl rfl En94 rfl (cellsOf_s (Rs.up h1) (fun b5 => ?_))
  refine RG.pv rfl (PV.asg rfl rfl) ?_
  refine RG.nil ?_
  refine WP.seq ?_
  refine WP.region ?_
  refine RG.pv rfl (PV.move rfl rfl) ?_
  refine RG.callF (vs := [_, _]) rfl rfl En187 rfl (CallT.exB (b := b5) (runsOf_i (bits_length _) (fun v7 outv7 houtv7 => have hlnv7 := houtv7.len; ?_)))
  refine RG.pv rfl (PV.move rfl rfl) ?_
  refine RG.callF (vs := [_, _]) rfl rfl En187 rfl (CallT.exB (b := b5) (runsOf_i (bits_length _) (fun v9 outv9 houtv9 => have hlnv9 := houtv9.len; ?_)))
  refine RG.ot rfl (OT.append (v := v7) (u := v9) (F := rectT) rfl El28 rfl (by decide) rfl rfl Rs.o (OneL.c (fun _ => rfl)) rfl (by first | omega | (simp <;> omega)) fun v10 => ?_)
  refine RG.pv rfl (PV.asg (v := v10) rfl rfl) ?_
  refine RG.nil ?_
  refine WP.ret ?_
  exact ⟨_, _, ResV.one rfl rfl, Cv.p, k v10 _ (RunsA.of houtv7 houtv9)⟩
theorem orZ_self {A : List Bool} : orZ A A = A := by
  apply List.ext_getElem
  · rw [orZ_len]
  · intro j h1 h2
    simp only [orZ, List.getElem_map, List.getElem_range, Bool.or_self]
    rw [gd_eq h2]
theorem cv_not {S : List Bool} {ver : Bool} {l k : Int} (hS : S.length = 6400) (hl : -40 ≤ l ∧ l < 40) (hk : -40 ≤ k ∧ k < 40) : cv (notB S) ver l k = !cv S ver l k := by
  have e : ∀ x y : Int, (-40 ≤ x ∧ x < 40) → (-40 ≤ y ∧ y < 40) → celB (notB S) x y = !celB S x y := fun x y hx hy => by
    rw [celB, celB, gd_not (by omega), decide_eq_true hx, decide_eq_true hy]; rfl
  cases ver
  · exact e _ _ hk hl
  · exact e _ _ hl hk
theorem gapE_line {A B : List Bool} {ver : Bool} {l lo hi : Int} : gapE A B ver (lineR ver l lo hi) = ((cv A ver l (lo - 1) && cv B ver l hi) || (cv B ver l (lo - 1) && cv A ver l hi)) := by cases ver <;> rfl
theorem gapE_inner {A B : List Bool} {ver : Bool} {l lo hi : Int} (h : gapE A B ver (lineR ver l lo hi) = true) : -40 < lo ∧ hi < 40 := by
  rw [gapE_line] at h
  simp only [Bool.or_eq_true, Bool.and_eq_true] at h
  rcases h with ⟨h1, h2⟩ | ⟨h1, h2⟩ <;> (have := cv_rng h1; have := cv_rng h2; omega)
theorem gap_ends {A : List Bool} {ver : Bool} {l k lo hi : Int} (hA : A.length = 6400) (h : isRun (notB A) ver l k lo hi) (h1 : -40 < lo ∧ hi < 40) : cv A ver l (lo - 1) = true ∧ cv A ver l hi = true := by
  have g1 := h.low; have g2 := h.high; have g3 := h.lk; have g4 := h.rng
  rw [cv_not hA g4.2 (by omega)] at g1 g2
  constructor
  · simpa using g1
  · simpa using g2
theorem gapE_self {A : List Bool} {ver : Bool} {l k lo hi : Int} (hA : A.length = 6400) (h : isRun (notB A) ver l k lo hi) : gapE A A ver (lineR ver l lo hi) = true ↔ -40 < lo ∧ hi < 40 := by
  refine ⟨gapE_inner, fun h1 => ?_⟩
  rw [gapE_line, (gap_ends hA h h1).1, (gap_ends hA h h1).2]; rfl
theorem GapsA.self {A : List Bool} {a b : List Rect} (hA : A.length = 6400) (ha : GapsOf A false a) (hb : GapsOf A true b) : GapsA A A (a ++ b) := ⟨by
  have := ha.len; have := hb.len; rw [List.length_append]; omega, fun r hr => by
  rw [orZ_self]
  rcases List.mem_append.1 hr with h | h
  · obtain ⟨l, k, lo, hi, g1, g2, rfl⟩ := ha.run r h; exact ⟨false, l, k, lo, hi, g1, (gapE_self hA g1).2 g2, rfl⟩
  · obtain ⟨l, k, lo, hi, g1, g2, rfl⟩ := hb.run r h; exact ⟨true, l, k, lo, hi, g1, (gapE_self hA g1).2 g2, rfl⟩, fun ver l k lo hi h1 h2 => by
  rw [orZ_self] at h1
  have g := (gapE_self hA h1).1 h2
  cases ver with
  | false => exact List.mem_append_left _ (ha.all l k lo hi h1 g.1 g.2)
  | true => exact List.mem_append_right _ (hb.all l k lo hi h1 g.1 g.2)⟩
theorem allGaps_i {v : Value} {xs : List Rect} (h1 : Rs G L rectT v xs) (k : ∀ v' out, GapsA (bits xs) (bits xs) out → R v' G (osl 71 rectT v' out :: L)) : CallT Tryz.prog 153 #[v] G L R := by
  refine CallT.enter (args := _) Tryz.func153 rfl rfl (by kernel_rfl) rfl ?_
  refine WP.seq ?_
  refine WP.region ?_
  refine RG.pv rfl (PV.asg rfl rfl) ?_
  refine RG.nil ?_
  refine WP.seq ?_
  refine WP.region ?_
  refine RG.pv rfl (PV.move (v := v) rfl rfl) ?_
  refine RG.callF (vs := [v]) rfl rfl En94 rfl (cellsOf_s (Rs.up h1) (fun b5 => ?_))
  refine RG.pv rfl (PV.asg rfl rfl) ?_
  refine RG.nil ?_
  refine WP.seq ?_
  refine WP.region ?_
  refine RG.pv rfl (PV.move rfl rfl) ?_
  refine RG.callF (vs := [_, _]) rfl rfl En188 rfl (CallT.exB (b := b5) (gapsOf_i (bits_length _) (fun v7 outv7 houtv7 => have hlnv7 := houtv7.len; ?_)))
  refine RG.pv rfl (PV.move rfl rfl) ?_
  refine RG.callF (vs := [_, _]) rfl rfl En188 rfl (CallT.exB (b := b5) (gapsOf_i (bits_length _) (fun v9 outv9 houtv9 => have hlnv9 := houtv9.len; ?_)))
  refine RG.ot rfl (OT.append (v := v7) (u := v9) (F := rectT) rfl El28 rfl (by decide) rfl rfl Rs.o (OneL.c (fun _ => rfl)) rfl (by first | omega | (simp <;> omega)) fun v10 => ?_)
  refine RG.pv rfl (PV.asg (v := v10) rfl rfl) ?_
  refine RG.nil ?_
  refine WP.ret ?_
  exact ⟨_, _, ResV.one rfl rfl, Cv.p, k v10 _ (GapsA.self (bits_length _) houtv7 houtv9)⟩
theorem runLen_i {r : Rect} (hv : validRect r = true) (k : R (vi (lenR r)) G L) : CallT Tryz.prog 186 #[vrect r] G L R := by
  have e : lenR r = areaR r := rfl
  rw [e] at k
  refine CallT.enter (args := _) Tryz.func186 rfl rfl (by kernel_rfl) rfl ?_
  refine WP.seq ?_
  refine WP.region ?_
  refine RG.ot rfl (OT.box (cs := rectT.enc r) rfl rfl rfl fun b1 => ?_)
  refine RG.pv rfl (PV.mvI (.inr rfl) rfl) ?_
  refine RG.nil ?_
  refine WP.seq ?_
  refine WP.region ?_
  refine RG.pv rfl (PV.loadW rfl Ag71 rfl rfl) ?_
  refine RG.callF (vs := [_]) rfl rfl En160 rfl (area_s hv ?_)
  refine RG.pv rfl (PV.mvI (.inr rfl) rfl) ?_
  refine RG.nil ?_
  refine WP.ret ?_
  exact ⟨_, _, ResV.one rfl rfl, Cv.p, k⟩
theorem shorter_i {v : Value} {list : List Rect} {w : Int} (h1 : Rs G L rectT v list) (hv : ∀ r ∈ list, validRect r = true) (hl : list.length ≤ 1000000) (k : ∀ v' E, E.length = 6400 → (∀ y x, y < 80 → x < 80 → gb E y x = markC list w y x) → R v' G (osl 71 rectT v' (canon E) :: L)) : CallT Tryz.prog 151 #[v, vi w] G L R := by
  refine CallT.enter (args := _) Tryz.func151 rfl rfl (by kernel_rfl) rfl ?_
  refine WP.seq ?_
  refine WP.region ?_
  refine RG.pv rfl (PV.asg rfl rfl) ?_
  refine RG.nil ?_
  refine WP.seq ?_
  refine WP.region ?_
  refine RG.pv rfl (PV.build0 rfl Tryz.underlying127 ⟨80, by kernel_rfl⟩ (zeroB_spec (n := 6400) (by kernel_rfl))) ?_
  refine RG.ot rfl (OT.boxG rfl rfl fun b9 => ?_)
  refine RG.pv rfl (PV.mvP (.inr rfl) rfl) ?_
  refine RG.nil ?_
  refine WP.seq ?_
  refine WP.seq ?_
  refine WP.region ?_
  refine RG.pv rfl (PV.move (v := v) rfl rfl) ?_
  refine RG.pv rfl (PV.len (v := v) rfl Tryz.underlying28 rfl (SlF.r h1)) ?_
  refine RG.pv rfl (PV.mvI (.inl rfl) rfl) ?_
  refine RG.nil ?_
  refine WP.block ?_
  refine WP.loop2 [1, 5, 10, 11] (fun (i : Nat) (E : List Bool) => i ≤ list.length ∧ E.length = 6400 ∧ ∀ y x, y < 80 → x < 80 → gb E y x = markC (list.take i) w y x) (fun (i : Nat) (E : List Bool) => [(12, vi i)]) (fun (i : Nat) (E : List Bool) => grd b9 E :: L) (fun (i : Nat) (E : List Bool) => list.length - i) 0 (List.replicate 6400 false) ⟨by omega, by simp, fun y x _ _ => gb_rep0 y x⟩ ⟨rfl, trivial⟩ Cv.p ?_
  rintro i E τ ⟨hi, hE, hg⟩
  refine WP.seq ?_
  refine WP.region ?_
  refine RG.pv rfl (PV.lss rfl rfl rfl) ?_
  refine RG.nil ?_
  refine WP.seq ?_
  refine WP.cond rfl (fun h2 => ?_) (fun h2 => ?_)
  · have h2 := of_decide_eq_true h2
    have hil : i < list.length := by omega
    have htk : list.take (i + 1) = list.take i ++ [gd list i] := by rw [List.take_add_one, getG hil]; rfl
    refine WP.skip ?_
    refine WP.seq ?_
    refine WP.block ?_
    refine WP.seq ?_
    refine WP.region ?_
    refine RG.pv rfl (PV.idxS (v := v) rfl Is28 rfl (SlF.r h1) rfl rfl (by omega)) ?_
    refine RG.pv rfl (PV.loadE rfl Ag71 rfl rfl (El.r h1 (getG (by omega)))) ?_
    refine RG.ot rfl (OT.alloc rfl Zr71 fun b7 => ?_)
    refine RG.ot rfl (OT.storeW (vs := [vi _, vi _, vi _, vi _]) rfl Sz71 rfl rfl (Cl.c rfl) rfl rfl (OneC.c rfl) ?_)
    refine RG.nil ?_
    refine WP.seq ?_
    refine WP.region ?_
    refine RG.pv rfl (PV.loadW rfl Ag71 rfl rfl) ?_
    refine RG.callF (vs := [_]) rfl rfl En186 rfl (runLen_i (hv _ (gd_mem (by omega))) ?_)
    refine RG.pv rfl (PV.mvI (.inl rfl) rfl) ?_
    refine RG.pv rfl (PV.lss rfl rfl rfl) ?_
    refine RG.nil ?_
    refine WP.cond rfl (fun h3 => ?_) (fun h3 => ?_)
    · have h3 := of_decide_eq_true h3
      have h4 : decide (lenR (gd list i) < w) = true := decide_eq_true h3
      refine WP.region ?_
      refine RG.pv rfl (PV.mvP (.inl rfl) rfl) ?_
      refine RG.pv rfl (PV.loadW rfl Ag71 rfl rfl) ?_
      refine RG.callF (vs := [(.pointer (some ⟨b9, 0, none⟩)), _]) rfl rfl En149 rfl (CallT.exB (put_s (by assumption) (fun bs' hb' hg' => ?_)))
      refine RG.nil ?_
      refine WP.region ?_
      refine RG.pv rfl (PV.add rfl rfl rfl (by omega)) ?_
      refine RG.pv rfl (PV.mvI (.inl rfl) rfl) ?_
      refine RG.nil ?_
      exact ⟨rfl, i + 1, bs', ⟨by omega, hb', fun y x hy hx => by rw [hg' y x hy hx, hg y x hy hx, markC, markC, htk, List.any_append]; simp [h4]⟩, ⟨rfl, trivial⟩, ⟨rfl, rfl, rfl, rfl, trivial⟩, Cv.p, by omega⟩
    · have h3 := of_decide_eq_false h3
      have h4 : decide (lenR (gd list i) < w) = false := decide_eq_false h3
      refine WP.skip ?_
      refine WP.region ?_
      refine RG.pv rfl (PV.add rfl rfl rfl (by omega)) ?_
      refine RG.pv rfl (PV.mvI (.inl rfl) rfl) ?_
      refine RG.nil ?_
      exact ⟨rfl, i + 1, E, ⟨by omega, hE, fun y x hy hx => by rw [hg y x hy hx, markC, markC, htk, List.any_append]; simp [h4]⟩, ⟨rfl, trivial⟩, ⟨rfl, rfl, rfl, rfl, trivial⟩, Cv.p, by omega⟩
  · have h2 := of_decide_eq_false h2
    rw [List.take_of_length_le (by omega)] at hg
    refine WP.exit ?_
    refine WP.seq ?_
    refine WP.region ?_
    refine RG.pv rfl (PV.mvP (.inl rfl) rfl) ?_
    refine RG.callF (vs := [(.pointer (some ⟨b9, 0, none⟩))]) rfl rfl En95 rfl (CallT.exB (region_s hE (fun v25 => ?_)))
    refine RG.pv rfl (PV.asg (v := v25) rfl rfl) ?_
    refine RG.nil ?_
    refine WP.ret ?_
    exact ⟨_, _, ResV.one rfl rfl, Cv.p, k v25 E hE hg⟩
theorem okDist_within (w : Int) : within w 1 8 = okDist w := by rw [within, okDist]
theorem checkable_i {v : Value} {xs : List Rect} {w : Int} (h1 : Rs G L rectT v xs) (k : R (.bool (isReg xs && okDist w)) G L) : CallT Tryz.prog 150 #[v, vi w] G L R := by
  rw [← okDist_within] at k
  refine CallT.enter (args := _) Tryz.func150 rfl rfl (by kernel_rfl) rfl ?_
  refine WP.seq ?_
  refine WP.region ?_
  refine RG.pv rfl (PV.mvB (.inr rfl) rfl) ?_
  refine RG.nil ?_
  refine WP.seq ?_
  refine WP.region ?_
  refine RG.pv rfl (PV.move (v := v) rfl rfl) ?_
  refine RG.callF (vs := [v]) rfl rfl En40 rfl (isRegion_s (Rs.up h1) ?_)
  refine RG.pv rfl (PV.mvB (.inl rfl) rfl) ?_
  refine RG.gs rfl rfl rfl (fun hp => (PV.mvI (.inl rfl) rfl)) ?_
  refine RG.gsC rfl rfl rfl rfl En92 (fun hp => ⟨_, (acons (gs_t hp) (acons rfl (acons rfl anil))), within_s ⟨rfl, rfl, rfl⟩⟩) ?_
  refine RG.pv rfl (PV.pickA rfl rfl (fun hq => gs_t (geqT hq)) rfl) ?_
  refine RG.pv rfl (PV.mvB (.inr rfl) rfl) ?_
  refine RG.nil ?_
  refine WP.ret ?_
  exact ⟨_, _, ResV.one rfl rfl, Cv.p, k⟩
theorem runsA_valid {S : List Bool} {out : List Rect} (h : RunsA S out) : ∀ r ∈ out, validRect r = true := fun r hr => by
  obtain ⟨ver, l, k, lo, hi, g1, rfl⟩ := h.run r hr; exact lineR_valid g1
theorem gapsA_valid {A B : List Bool} {out : List Rect} (h : GapsA A B out) : ∀ r ∈ out, validRect r = true := fun r hr => by
  obtain ⟨ver, l, k, lo, hi, g1, g2, rfl⟩ := h.run r hr; exact lineR_valid g1
theorem markWidth_i {v : Value} {xs : List Rect} {w : Int} (h1 : Rs G L rectT v xs) (k : ∀ v', R v' G (osl 71 rectT v' (widthL xs w) :: L)) : CallT Tryz.prog 96 #[v, vi w] G L R := by
  refine CallT.enter (args := _) Tryz.func96 rfl rfl (by kernel_rfl) rfl ?_
  refine WP.seq ?_
  refine WP.region ?_
  refine RG.pv rfl (PV.asg rfl rfl) ?_
  refine RG.nil ?_
  refine WP.seq ?_
  refine WP.seq ?_
  refine WP.region ?_
  refine RG.pv rfl (PV.move (v := v) rfl rfl) ?_
  refine RG.pv rfl (PV.mvI (.inl rfl) rfl) ?_
  refine RG.callF (vs := [v, _]) rfl rfl En150 rfl (checkable_i (Rs.up h1) ?_)
  refine RG.pv rfl (PV.not rfl rfl) ?_
  refine RG.nil ?_
  refine WP.cond rfl (fun h2 => ?_) (fun h2 => ?_)
  · have e : widthL xs w = [] := by rw [widthL, if_neg]; intro h3; rw [h3] at h2; simp at h2
    rw [e] at k
    refine WP.seq ?_
    refine WP.region ?_
    refine RG.pv rfl (PV.asg rfl rfl) ?_
    refine RG.nil ?_
    refine WP.ret ?_
    exact ⟨_, _, ResV.one rfl rfl, Cv.nilS, k _⟩
  · have h3 : (isReg xs && okDist w) = true := by simpa using h2
    refine WP.skip ?_
    refine WP.seq ?_
    refine WP.region ?_
    refine RG.pv rfl (PV.move (v := v) rfl rfl) ?_
    refine RG.callF (vs := [v]) rfl rfl En152 rfl (allRuns_i (Rs.up h1) (fun v10 outv10 houtv10 => have hlnv10 := houtv10.len; ?_))
    refine RG.pv rfl (PV.mvI (.inl rfl) rfl) ?_
    refine RG.callF (vs := [v10, _]) rfl rfl En151 rfl (shorter_i Rs.o (runsA_valid houtv10) (by omega) (fun v12 Ev12 hEv12 hgv12 => ?_))
    refine RG.pv rfl (PV.asg (v := v12) rfl rfl) ?_
    refine RG.nil ?_
    refine WP.ret ?_
    have e : widthL xs w = canon Ev12 := by rw [widthL, if_pos h3, celL_eq (P := Thin (bits xs) w) hEv12 (fun y x hy hx => by rw [hgv12 y x hy hx, markC_iff houtv10])]
    rw [e] at k
    exact ⟨_, _, ResV.one rfl rfl, Cv.p, k v12⟩
theorem markSpacing_i {v : Value} {xs : List Rect} {w : Int} (h1 : Rs G L rectT v xs) (k : ∀ v', R v' G (osl 71 rectT v' (spaceL xs w) :: L)) : CallT Tryz.prog 97 #[v, vi w] G L R := by
  refine CallT.enter (args := _) Tryz.func97 rfl rfl (by kernel_rfl) rfl ?_
  refine WP.seq ?_
  refine WP.region ?_
  refine RG.pv rfl (PV.asg rfl rfl) ?_
  refine RG.nil ?_
  refine WP.seq ?_
  refine WP.seq ?_
  refine WP.region ?_
  refine RG.pv rfl (PV.move (v := v) rfl rfl) ?_
  refine RG.pv rfl (PV.mvI (.inl rfl) rfl) ?_
  refine RG.callF (vs := [v, _]) rfl rfl En150 rfl (checkable_i (Rs.up h1) ?_)
  refine RG.pv rfl (PV.not rfl rfl) ?_
  refine RG.nil ?_
  refine WP.cond rfl (fun h2 => ?_) (fun h2 => ?_)
  · have e : spaceL xs w = [] := by rw [spaceL, if_neg]; intro h3; rw [h3] at h2; simp at h2
    rw [e] at k
    refine WP.seq ?_
    refine WP.region ?_
    refine RG.pv rfl (PV.asg rfl rfl) ?_
    refine RG.nil ?_
    refine WP.ret ?_
    exact ⟨_, _, ResV.one rfl rfl, Cv.nilS, k _⟩
  · have h3 : (isReg xs && okDist w) = true := by simpa using h2
    refine WP.skip ?_
    refine WP.seq ?_
    refine WP.region ?_
    refine RG.pv rfl (PV.move (v := v) rfl rfl) ?_
    refine RG.callF (vs := [v]) rfl rfl En153 rfl (allGaps_i (Rs.up h1) (fun v10 outv10 houtv10 => have hlnv10 := houtv10.len; ?_))
    refine RG.pv rfl (PV.mvI (.inl rfl) rfl) ?_
    refine RG.callF (vs := [v10, _]) rfl rfl En151 rfl (shorter_i Rs.o (gapsA_valid houtv10) (by omega) (fun v12 Ev12 hEv12 hgv12 => ?_))
    refine RG.pv rfl (PV.asg (v := v12) rfl rfl) ?_
    refine RG.nil ?_
    refine WP.ret ?_
    have e : spaceL xs w = canon Ev12 := by rw [spaceL, if_pos h3, celL_eq (P := Nigh (bits xs) (bits xs) w) hEv12 (fun y x hy hx => by rw [hgv12 y x hy hx, near_iff houtv10])]
    rw [e] at k
    exact ⟨_, _, ResV.one rfl rfl, Cv.p, k v12⟩
end Go.Proofs.YtpjajhjcbcfplaaGreat
namespace Go.Proofs.YtpjajhjcbcfplaaGreat
set_option linter.unusedVariables false
set_option linter.unusedSimpArgs false
open Go
set_option maxRecDepth 20000
set_option maxHeartbeats 2000000
set_option linter.unusedSimpArgs false
variable {G : Gh} {L : List Ch} {R : Value → Gh → List Ch → Prop}
theorem Cv.un {c : Ch} {L L' : List Ch} (h : Ex c L L') : Cv (c :: L') L := by
  induction h with
  | head L => exact Cv.refl _
  | tail x h ih => exact (Cv.swap (A := [_]) (B := [x]) (L := _)).trans (Cv.cons ih)
/-- a call that only reads an owned block leaves the state -/
theorem CallT.readB {P : Program} {f : FuncId} {args : Array Value} {v : Value} {b : Nat} {e : TypeId} {cs : List Value} {L' : List Ch} [hX : ExB b L e cs L'] (h : CallT P f args G (blk b e cs :: L') (fun v' G' M => v' = v ∧ G' = G ∧ M = blk b e cs :: L')) (k : R v G L) : CallT P f args G L R :=
  CallT.of fun w hs => ((CallT.exB h).run hs).mono fun _ _ ⟨v', G', M, h1, h2, h3⟩ => by
    obtain ⟨rfl, rfl, rfl⟩ := h3
    exact ⟨_, _, L, h1, h2.cv (Cv.un hX.ex), k⟩
structure Gp (A B : List Bool) (n : Nat) (out : List Rect) : Prop where
  len : out.length ≤ 6400 * n
  run : ∀ r ∈ out, ∃ ver l k lo hi, isRun (notB (orZ A B)) ver l k lo hi ∧ gapE A B ver (lineR ver l lo hi) = true ∧ r = lineR ver l lo hi
  all : ∀ m, m < n → ∀ l k lo hi, isRun (notB (orZ A B)) (gd [false, true] m) l k lo hi → gapE A B (gd [false, true] m) (lineR (gd [false, true] m) l lo hi) = true → lineR (gd [false, true] m) l lo hi ∈ out
theorem Gp.nil {A B : List Bool} : Gp A B 0 [] := ⟨by simp, fun r h => (by cases h), fun m h => (by omega)⟩
theorem Gp.next {A B : List Bool} {n : Nat} {out g : List Rect} (h : Gp A B n out) (hg : GapsOf (orZ A B) (gd [false, true] n) g) : Gp A B (n + 1) (out ++ g.filter (gapE A B (gd [false, true] n))) := by
  refine ⟨?_, fun r hr => ?_, fun m hm l k lo hi h1 h2 => ?_⟩
  · have := h.len; have := hg.len; have := List.length_filter_le (gapE A B (gd [false, true] n)) g
    rw [List.length_append]; omega
  · rcases List.mem_append.1 hr with h1 | h1
    · exact h.run r h1
    · obtain ⟨h2, h3⟩ := List.mem_filter.1 h1
      obtain ⟨l, k, lo, hi, g1, g2, rfl⟩ := hg.run r h2
      exact ⟨_, l, k, lo, hi, g1, h3, rfl⟩
  · by_cases c : m = n
    · subst c
      have h3 := gapE_inner h2
      exact List.mem_append_right _ (List.mem_filter.2 ⟨hg.all l k lo hi h1 h3.1 h3.2, h2⟩)
    · exact List.mem_append_left _ (h.all m (by omega) l k lo hi h1 h2)
theorem gd_ft0 : gd [false, true] 0 = false := by simp [gd]
theorem gd_ft1 : gd [false, true] 1 = true := by simp [gd]
theorem Gp.done {A B : List Bool} {out : List Rect} (h : Gp A B 2 out) : GapsA A B out := ⟨by have := h.len; omega, h.run, fun ver l k lo hi h1 h2 => by
  cases ver with
  | false => have h3 := h.all 0 (by omega) l k lo hi; rw [gd_ft0] at h3; exact h3 h1 h2
  | true => have h3 := h.all 1 (by omega) l k lo hi; rw [gd_ft1] at h3; exact h3 h1 h2⟩
theorem gapsBetween_i {u v : Value} {xs ys : List Rect} (h1 : Rs G L rectT u xs) (h2 : Rs G L rectT v ys) (k : ∀ v' out, GapsA (bits xs) (bits ys) out → R v' G (osl 71 rectT v' out :: L)) : CallT Tryz.prog 154 #[u, v] G L R := by
  refine CallT.bd h2 fun hb => ?_
  have hlx := bits_length xs
  have hly := bits_length ys
  have hOl : (orZ (bits xs) (bits ys)).length = 6400 := by rw [orZ_len, hlx]
  refine CallT.enter (args := _) Tryz.func154 rfl rfl (by kernel_rfl) rfl ?_
  refine WP.seq ?_
  refine WP.region ?_
  refine RG.pv rfl (PV.asg rfl rfl) ?_
  refine RG.nil ?_
  refine WP.seq ?_
  refine WP.region ?_
  refine RG.pv rfl (PV.move (v := u) rfl rfl) ?_
  refine RG.callF (vs := [u]) rfl rfl En94 rfl (cellsOf_s (Rs.up h1) (fun b5 => ?_))
  refine RG.pv rfl (PV.move (v := v) rfl rfl) ?_
  refine RG.callF (vs := [v]) rfl rfl En94 rfl (cellsOf_s (Rs.up h2) (fun b6 => ?_))
  refine RG.ot rfl (OT.bslice (F := rectT) (els := []) rfl El28 rfl (by decide) rfl (by decide) trivial fun v21 => ?_)
  refine RG.pv rfl (PV.asg rfl rfl) ?_
  refine RG.pv rfl (PV.asg rfl rfl) ?_
  refine RG.pv rfl (PV.asg (v := v21) rfl rfl) ?_
  refine RG.nil ?_
  refine WP.seq ?_
  refine WP.region ?_
  refine RG.pv rfl (PV.move (v := u) rfl rfl) ?_
  refine RG.callF (vs := [u]) rfl rfl En94 rfl (cellsOf_s (Rs.up h1) (fun b8 => ?_))
  refine RG.pv rfl (PV.asg rfl rfl) ?_
  refine RG.nil ?_
  refine WP.seq ?_
  refine WP.seq ?_
  refine WP.region ?_
  refine RG.pv rfl (PV.move (v := v) rfl rfl) ?_
  refine RG.pv rfl (PV.len (v := v) rfl Tryz.underlying28 rfl (SlF.r h2)) ?_
  refine RG.pv rfl (PV.mvI (.inl rfl) rfl) ?_
  refine RG.nil ?_
  refine WP.block ?_
  refine WP.loop2 [5, 6, 7, 8, 24, 25] (fun (i : Nat) (cs : List Bool) => i ≤ ys.length ∧ cs.length = 6400 ∧ ∀ y x, y < 80 → x < 80 → gb cs y x = (gb (bits xs) y x || (ys.take i).any fun r => inR r y x)) (fun (i : Nat) (cs : List Bool) => [(26, vi i)]) (fun (i : Nat) (cs : List Bool) => grd b8 cs :: osl 71 rectT v21 ([] : List Rect) :: grd b6 (bits ys) :: grd b5 (bits xs) :: L) (fun (i : Nat) (cs : List Bool) => ys.length - i) 0 (bits xs) ⟨by omega, hlx, fun y x _ _ => by simp⟩ ⟨rfl, trivial⟩ Cv.p ?_
  rintro i cs τ ⟨hi, hlc, hc⟩
  refine WP.seq ?_
  refine WP.region ?_
  refine RG.pv rfl (PV.lss rfl rfl rfl) ?_
  refine RG.nil ?_
  refine WP.seq ?_
  refine WP.cond rfl (fun h3 => ?_) (fun h3 => ?_)
  · have h3 := of_decide_eq_true h3
    refine WP.skip ?_
    refine WP.seq ?_
    refine WP.block ?_
    refine WP.seq ?_
    refine WP.region ?_
    refine RG.pv rfl (PV.idxS (v := v) rfl Is28 rfl (SlF.r h2) rfl rfl (by omega)) ?_
    refine RG.pv rfl (PV.loadE rfl Ag71 rfl rfl (El.r h2 (getG (by omega)))) ?_
    refine RG.ot rfl (OT.alloc rfl Zr71 fun b10 => ?_)
    refine RG.ot rfl (OT.storeW (vs := [vi _, vi _, vi _, vi _]) rfl Sz71 rfl rfl (Cl.c rfl) rfl rfl (OneC.c rfl) ?_)
    refine RG.nil ?_
    refine WP.region ?_
    refine RG.pv rfl (PV.move rfl rfl) ?_
    refine RG.pv rfl (PV.loadW rfl Ag71 rfl rfl) ?_
    refine RG.callF (vs := [_, _]) rfl rfl En149 rfl (CallT.exB (put_s (by assumption) (fun bs' hb' hg' => ?_)))
    refine RG.nil ?_
    refine WP.region ?_
    refine RG.pv rfl (PV.add rfl rfl rfl (by omega)) ?_
    refine RG.pv rfl (PV.mvI (.inl rfl) rfl) ?_
    refine RG.nil ?_
    exact ⟨rfl, i + 1, bs', ⟨by omega, hb', fun y x hy hx => by rw [hg' y x hy hx, hc y x hy hx, List.take_add_one, getG (by omega), List.any_append, Bool.or_assoc]; simp⟩, ⟨rfl, trivial⟩, ⟨rfl, rfl, rfl, rfl, rfl, rfl, trivial⟩, Cv.p, by omega⟩
  · have h3 := of_decide_eq_false h3
    have e : cs = orZ (bits xs) (bits ys) := gb_ext hlc hOl fun y x hy hx => by rw [hc y x hy hx, List.take_of_length_le (by omega), orZ_gb hlx hy hx, gb_bits' ys hy hx]
    subst e
    refine WP.exit ?_
    refine WP.seq ?_
    refine WP.seq ?_
    refine WP.region ?_
    refine RG.ot rfl (OT.bslice (F := boolT) (els := [_, _]) rfl El111 rfl (by decide) rfl (by decide) ⟨rfl, (Cl.c rfl), ⟨rfl, (Cl.c rfl), trivial⟩⟩ fun v34 => ?_)
    refine RG.pv rfl (PV.len (v := v34) rfl Tryz.underlying111 rfl SlF.o) ?_
    refine RG.pv rfl (PV.mvI (.inl rfl) rfl) ?_
    refine RG.nil ?_
    refine WP.block ?_
    refine WP.loop3 [5, 6, 8, 34, 35] (fun (n : Nat) (out : List Rect) (q : Value) => n ≤ 2 ∧ Gp (bits xs) (bits ys) n out) (fun (n : Nat) (out : List Rect) (q : Value) => [(36, vi n), (7, q)]) (fun (n : Nat) (out : List Rect) (q : Value) => osl 71 rectT q out :: osl 4 boolT v34 [false, true] :: grd b8 (orZ (bits xs) (bits ys)) :: grd b6 (bits ys) :: grd b5 (bits xs) :: L) (fun (n : Nat) (out : List Rect) (q : Value) => 2 - n) 0 [] v21 ⟨by omega, Gp.nil⟩ ⟨rfl, rfl, trivial⟩ Cv.p ?_
    rintro n out q τ1 ⟨hn, hG⟩
    refine WP.seq ?_
    refine WP.region ?_
    refine RG.pv rfl (PV.lss rfl rfl rfl) ?_
    refine RG.nil ?_
    refine WP.seq ?_
    have hGl := hG.len
    have h2l : ([false, true] : List Bool).length = 2 := rfl
    refine WP.cond rfl (fun h4 => ?_) (fun h4 => ?_)
    · have h4 := of_decide_eq_true h4
      refine WP.skip ?_
      refine WP.seq ?_
      refine WP.block ?_
      refine WP.seq ?_
      refine WP.region ?_
      refine RG.pv rfl (PV.idxS (v := v34) rfl Is111 rfl SlF.o rfl rfl (by omega)) ?_
      refine RG.pv rfl (PV.loadE1 rfl Sc4 rfl rfl (El.o (getG (by omega))) rfl) ?_
      refine RG.pv rfl (PV.mvB (.inr rfl) rfl) ?_
      refine RG.nil ?_
      refine WP.seq ?_
      refine WP.region ?_
      refine RG.pv rfl (PV.move rfl rfl) ?_
      refine RG.pv rfl (PV.mvB (.inl rfl) rfl) ?_
      refine RG.callF (vs := [_, _]) rfl rfl En188 rfl (CallT.exB (b := b8) (gapsOf_i hOl (fun v42 outv42 houtv42 => have hlnv42 := houtv42.len; ?_)))
      refine RG.pv rfl (PV.len (v := v42) rfl Tryz.underlying28 rfl SlF.o) ?_
      refine RG.pv rfl (PV.mvI (.inl rfl) rfl) ?_
      refine RG.nil ?_
      refine WP.block ?_
      refine WP.loop3 [5, 6, 8, 12, 34, 35, 36, 42, 43] (fun (j : Nat) (out1 : List Rect) (q1 : Value) => j ≤ outv42.length ∧ out1 = out ++ (outv42.take j).filter (gapE (bits xs) (bits ys) (gd [false, true] n))) (fun (j : Nat) (out1 : List Rect) (q1 : Value) => [(44, vi j), (7, q1)]) (fun (j : Nat) (out1 : List Rect) (q1 : Value) => osl 71 rectT q1 out1 :: osl 71 rectT v42 outv42 :: osl 4 boolT v34 [false, true] :: grd b8 (orZ (bits xs) (bits ys)) :: grd b6 (bits ys) :: grd b5 (bits xs) :: L) (fun (j : Nat) (out1 : List Rect) (q1 : Value) => outv42.length - j) 0 out q ⟨by omega, by simp⟩ ⟨rfl, rfl, trivial⟩ Cv.p ?_
      rintro j out1 q1 τ2 ⟨hj, hout1⟩
      refine WP.seq ?_
      refine WP.region ?_
      refine RG.pv rfl (PV.lss rfl rfl rfl) ?_
      refine RG.nil ?_
      refine WP.seq ?_
      have hol : out1.length ≤ 20000 := by
        have h5 := List.length_filter_le (gapE (bits xs) (bits ys) (gd [false, true] n)) (outv42.take j)
        rw [hout1, List.length_append]; rw [List.length_take] at h5; omega
      refine WP.cond rfl (fun h5 => ?_) (fun h5 => ?_)
      · have h5 := of_decide_eq_true h5
        have h50 : j < outv42.length := by omega
        have hrv : validRect (gd outv42 j) = true := by
          obtain ⟨l, k', lo, hi', g1, g2, e⟩ := houtv42.run _ (gd_mem h50)
          rw [e]; exact lineR_valid g1
        have hrb := validR_iff.1 hrv
        have hf := filt_succ (gapE (bits xs) (bits ys) (gd [false, true] n)) h50
        refine WP.skip ?_
        refine WP.seq ?_
        refine WP.block ?_
        refine WP.seq ?_
        refine WP.region ?_
        refine RG.pv rfl (PV.idxS (v := v42) rfl Is28 rfl SlF.o rfl rfl (by omega)) ?_
        refine RG.pv rfl (PV.loadE rfl Ag71 rfl rfl (El.o (getG (by omega)))) ?_
        refine RG.ot rfl (OT.alloc rfl Zr71 fun b14 => ?_)
        refine RG.ot rfl (OT.storeW (vs := [vi _, vi _, vi _, vi _]) rfl Sz71 rfl rfl (Cl.c rfl) rfl rfl (OneC.c rfl) ?_)
        refine RG.nil ?_
        refine WP.cut2 [5, 6, 7, 8, 12, 14, 34, 35, 36, 42, 43, 44] (fun (b15 b16 : Nat) => True) (fun (b15 b16 : Nat) => [(15, .pointer (some ⟨b15, 0, none⟩)), (16, .pointer (some ⟨b16, 0, none⟩))]) (fun (b15 b16 : Nat) => blk b15 168 [vi ((gd outv42 j).x0 - 1), vi (gd outv42 j).y0] :: blk b16 168 [vi (gd outv42 j).x1, vi (gd outv42 j).y0] :: blk b14 71 (rectT.enc (gd outv42 j)) :: osl 71 rectT q1 out1 :: osl 71 rectT v42 outv42 :: osl 4 boolT v34 [false, true] :: grd b8 (orZ (bits xs) (bits ys)) :: grd b6 (bits ys) :: grd b5 (bits xs) :: L) ?_ ?_
        refine WP.regionH0 (.q 0 (.q 1 (.q 2 (.q 3 (.q 4 (.q 5 (.q 6 (.q 7 (.q 8 (.q 9 (.q 10 (.b 11 (.l 12 (.l 13 (.l 14 Sch.nil))) 12 (.l 11 (.l 13 (.l 14 Sch.nil))))))))))))))) (by kernel_rfl) (by kernel_rfl) (by kernel_rfl) rfl ?_
        refine RH.pv rfl (fun _ _ _ _ h => h) (Gh.le_refl _) PickC.pick rfl (PV.field rfl Fo71_0 rfl) ?_
        refine RH.pv rfl (fun _ _ _ _ h => h) (Gh.le_refl _) PickC.pick rfl (PV.load1 rfl Sc2 rfl (Rd.blk rfl)) ?_
        refine RH.pv rfl (fun _ _ _ _ h => h) (Gh.le_refl _) PickC.pick rfl (PV.sub rfl rfl rfl (by omega)) ?_
        refine RH.pv rfl (fun _ _ _ _ h => h) (Gh.le_refl _) PickC.pick rfl (PV.field rfl Fo71_1 rfl) ?_
        refine RH.pv rfl (fun _ _ _ _ h => h) (Gh.le_refl _) PickC.pick rfl (PV.load1 rfl Sc2 rfl (Rd.blk rfl)) ?_
        refine RH.pv rfl (fun _ _ _ _ h => h) (Gh.le_refl _) PickC.pick rfl (PV.build (vs := [(0, [vi _]), (1, [vi _])]) (out := [_, _]) rfl Zr168 Pl168 ⟨rfl, (Cl.c rfl), ⟨rfl, (Cl.c rfl), trivial⟩⟩ rfl) ?_
        refine RH.pv rfl (fun _ _ _ _ h => h) (Gh.le_refl _) PickC.pick rfl (PV.field rfl Fo71_2 rfl) ?_
        refine RH.pv rfl (fun _ _ _ _ h => h) (Gh.le_refl _) PickC.pick rfl (PV.load1 rfl Sc2 rfl (Rd.blk rfl)) ?_
        refine RH.pv rfl (fun _ _ _ _ h => h) (Gh.le_refl _) PickC.pick rfl (PV.field rfl Fo71_1 rfl) ?_
        refine RH.pv rfl (fun _ _ _ _ h => h) (Gh.le_refl _) PickC.pick rfl (PV.load1 rfl Sc2 rfl (Rd.blk rfl)) ?_
        refine RH.pv rfl (fun _ _ _ _ h => h) (Gh.le_refl _) PickC.pick rfl (PV.build (vs := [(0, [vi _]), (1, [vi _])]) (out := [_, _]) rfl Zr168 Pl168 ⟨rfl, (Cl.c rfl), ⟨rfl, (Cl.c rfl), trivial⟩⟩ rfl) ?_
        · refine RH.ot2 rfl rfl rfl rfl  (OT.alloc rfl Zr168 fun b15 => ⟨Gh.le_refl _, PickC.pick, ?_⟩) (OT.alloc rfl Zr168 fun b16 => ⟨Gh.le_refl _, PickC.pick, ?_⟩)
          · refine RH.ot rfl rfl (OT.alloc rfl Zr168 fun b16 => ⟨Gh.le_refl _, PickC.pick, ?_⟩)
            refine RH.ot rfl rfl (OT.storeW (vs := [vi _, vi _]) rfl Sz168 rfl rfl (Cl.c rfl) rfl rfl (OneC.c rfl) ⟨Gh.le_refl _, PickC.pick, ?_⟩)
            refine RH.ot rfl rfl (OT.storeW (vs := [vi _, vi _]) rfl Sz168 rfl rfl (Cl.c rfl) rfl rfl (OneC.c rfl) ⟨Gh.le_refl _, PickC.pick, ?_⟩)
            refine RH.nil ?_
            exact ⟨rfl, b15, b16, trivial, ⟨rfl, rfl, trivial⟩, ⟨rfl, rfl, rfl, rfl, rfl, rfl, rfl, rfl, rfl, rfl, rfl, rfl, trivial⟩, Cv.p⟩
          · refine RH.ot rfl rfl (OT.alloc rfl Zr168 fun b15 => ⟨Gh.le_refl _, PickC.pick, ?_⟩)
            refine RH.ot rfl rfl (OT.storeW (vs := [vi _, vi _]) rfl Sz168 rfl rfl (Cl.c rfl) rfl rfl (OneC.c rfl) ⟨Gh.le_refl _, PickC.pick, ?_⟩)
            refine RH.ot rfl rfl (OT.storeW (vs := [vi _, vi _]) rfl Sz168 rfl rfl (Cl.c rfl) rfl rfl (OneC.c rfl) ⟨Gh.le_refl _, PickC.pick, ?_⟩)
            refine RH.nil ?_
            exact ⟨rfl, b15, b16, trivial, ⟨rfl, rfl, trivial⟩, ⟨rfl, rfl, rfl, rfl, rfl, rfl, rfl, rfl, rfl, rfl, rfl, rfl, trivial⟩, Cv.p⟩
        rintro b15 b16 τ3 -
        refine WP.cut4 [5, 6, 7, 8, 12, 14, 15, 16, 34, 35, 36, 42, 43, 44] (fun (sx sy dx dy : Int) => (⟨sx, sy⟩ : Pt) = endP (gd outv42 j) (gd [false, true] n) ∧ (⟨dx, dy⟩ : Pt) = endQ (gd outv42 j) (gd [false, true] n)) (fun (sx sy dx dy : Int) => []) (fun (sx sy dx dy : Int) => blk b15 168 [vi sx, vi sy] :: blk b16 168 [vi dx, vi dy] :: blk b14 71 (rectT.enc (gd outv42 j)) :: osl 71 rectT q1 out1 :: osl 71 rectT v42 outv42 :: osl 4 boolT v34 [false, true] :: grd b8 (orZ (bits xs) (bits ys)) :: grd b6 (bits ys) :: grd b5 (bits xs) :: L) ?_ ?_
        refine WP.seq ?_
        refine WP.region ?_
        refine RG.pv rfl (PV.mvB (.inl rfl) rfl) ?_
        refine RG.nil ?_
        refine WP.cond rfl (fun h6 => ?_) (fun h6 => ?_)
        · refine WP.regionHD [.b b15, .b b16] (.q 0 (.q 1 (.q 2 (.q 3 (.q 4 (.q 5 (.q 6 (.q 7 (.q 8 (.q 9 (.q 10 (.l 11 (.l 12 Sch.nil))))))))))))) (by kernel_rfl) (by kernel_rfl) (by kernel_rfl) rfl ?_
          refine RH.pv rfl (fun _ _ _ _ h => h) (Gh.le_refl _) PickC.pick rfl (PV.field rfl Fo71_0 rfl) ?_
          refine RH.pv rfl (fun _ _ _ _ h => h) (Gh.le_refl _) PickC.pick rfl (PV.load1 rfl Sc2 rfl (Rd.blk rfl)) ?_
          refine RH.pv rfl (fun _ _ _ _ h => h) (Gh.le_refl _) PickC.pick rfl (PV.field rfl Fo71_1 rfl) ?_
          refine RH.pv rfl (fun _ _ _ _ h => h) (Gh.le_refl _) PickC.pick rfl (PV.load1 rfl Sc2 rfl (Rd.blk rfl)) ?_
          refine RH.pv rfl (fun _ _ _ _ h => h) (Gh.le_refl _) PickC.pick rfl (PV.sub rfl rfl rfl (by omega)) ?_
          refine RH.pv rfl (fun _ _ _ _ h => h) (Gh.le_refl _) PickC.pick rfl (PV.build (vs := [(0, [vi _]), (1, [vi _])]) (out := [_, _]) rfl Zr168 Pl168 ⟨rfl, (Cl.c rfl), ⟨rfl, (Cl.c rfl), trivial⟩⟩ rfl) ?_
          refine RH.pv rfl (fun _ _ _ _ h => h) (Gh.le_refl _) PickC.pick rfl (PV.field rfl Fo71_0 rfl) ?_
          refine RH.pv rfl (fun _ _ _ _ h => h) (Gh.le_refl _) PickC.pick rfl (PV.load1 rfl Sc2 rfl (Rd.blk rfl)) ?_
          refine RH.pv rfl (fun _ _ _ _ h => h) (Gh.le_refl _) PickC.pick rfl (PV.field rfl Fo71_3 rfl) ?_
          refine RH.pv rfl (fun _ _ _ _ h => h) (Gh.le_refl _) PickC.pick rfl (PV.load1 rfl Sc2 rfl (Rd.blk rfl)) ?_
          refine RH.pv rfl (fun _ _ _ _ h => h) (Gh.le_refl _) PickC.pick rfl (PV.build (vs := [(0, [vi _]), (1, [vi _])]) (out := [_, _]) rfl Zr168 Pl168 ⟨rfl, (Cl.c rfl), ⟨rfl, (Cl.c rfl), trivial⟩⟩ rfl) ?_
          refine RH.ot rfl rfl (OT.storeW (vs := [vi _, vi _]) rfl Sz168 rfl rfl (Cl.c rfl) rfl rfl (OneC.c rfl) ⟨Gh.le_refl _, PickC.pick, ?_⟩)
          refine RH.ot rfl rfl (OT.storeW (vs := [vi _, vi _]) rfl Sz168 rfl rfl (Cl.c rfl) rfl rfl (OneC.c rfl) ⟨Gh.le_refl _, PickC.pick, ?_⟩)
          refine RH.nil ?_
          exact ⟨rfl, (gd outv42 j).x0, ((gd outv42 j).y0 - 1), (gd outv42 j).x0, (gd outv42 j).y1, ⟨by rw [h6]; rfl, by rw [h6]; rfl⟩, trivial, ⟨rfl, rfl, rfl, rfl, rfl, rfl, rfl, rfl, rfl, rfl, rfl, rfl, rfl, rfl, trivial⟩, Cv.p⟩
        · refine WP.skip ?_
          exact ⟨rfl, ((gd outv42 j).x0 - 1), (gd outv42 j).y0, (gd outv42 j).x1, (gd outv42 j).y0, ⟨by rw [h6]; rfl, by rw [h6]; rfl⟩, trivial, ⟨rfl, rfl, rfl, rfl, rfl, rfl, rfl, rfl, rfl, rfl, rfl, rfl, rfl, rfl, trivial⟩, Cv.p⟩
        rintro sx sy dx dy τ4 ⟨hs, hd⟩
        have hgE : gapE (bits xs) (bits ys) (gd [false, true] n) (gd outv42 j) = ((cellB (bits xs) sx sy && cellB (bits ys) dx dy) || (cellB (bits ys) sx sy && cellB (bits xs) dx dy)) := by rw [gapE, ← hs, ← hd]; rfl
        rw [hgE] at hf
        refine WP.seq ?_
        refine WP.region ?_
        refine RG.pv rfl (PV.move rfl rfl) ?_
        refine RG.pv rfl (PV.field rfl Fo168_0 rfl) ?_
        refine RG.pv rfl (PV.load1 rfl Sc2 rfl (Rd.blk rfl)) ?_
        refine RG.pv rfl (PV.field rfl Fo168_1 rfl) ?_
        refine RG.pv rfl (PV.load1 rfl Sc2 rfl (Rd.blk rfl)) ?_
        refine RG.callF (vs := [_, _, _]) rfl rfl En189 rfl (CallT.readB (has_s hlx ⟨rfl, rfl, rfl⟩) ?_)
        refine RG.pv rfl (PV.mvB (.inl rfl) rfl) ?_
        refine RG.gs rfl rfl rfl (fun hp => (PV.move rfl rfl)) ?_
        refine RG.gs rfl rfl rfl (fun hp => (PV.field rfl Fo168_0 rfl)) ?_
        refine RG.gs rfl rfl rfl (fun hp => (PV.load1 rfl Sc2 (gs_t hp) (Rd.blk rfl))) ?_
        refine RG.gs rfl rfl rfl (fun hp => (PV.field rfl Fo168_1 rfl)) ?_
        refine RG.gs rfl rfl rfl (fun hp => (PV.load1 rfl Sc2 (gs_t hp) (Rd.blk rfl))) ?_
        refine RG.gsC rfl rfl rfl rfl En189 (fun hp => ⟨_, (acons (gs_t hp) (acons (gs_t hp) (acons (gs_t hp) anil))), CallT.readB (has_s hly ⟨rfl, rfl, rfl⟩) ⟨rfl, rfl, rfl⟩⟩) ?_
        refine RG.pv rfl (PV.pickA rfl rfl (fun hq => gs_t (geqT hq)) rfl) ?_
        refine RG.pv rfl (PV.mvB (.inl rfl) rfl) ?_
        refine RG.gs rfl rfl rfl (fun hp => (PV.move rfl rfl)) ?_
        refine RG.gs rfl rfl rfl (fun hp => (PV.field rfl Fo168_0 rfl)) ?_
        refine RG.gs rfl rfl rfl (fun hp => (PV.load1 rfl Sc2 (gs_t hp) (Rd.blk rfl))) ?_
        refine RG.gs rfl rfl rfl (fun hp => (PV.field rfl Fo168_1 rfl)) ?_
        refine RG.gs rfl rfl rfl (fun hp => (PV.load1 rfl Sc2 (gs_t hp) (Rd.blk rfl))) ?_
        refine RG.gsC rfl rfl rfl rfl En189 (fun hp => ⟨_, (acons (gs_t hp) (acons (gs_t hp) (acons (gs_t hp) anil))), CallT.readB (has_s hly ⟨rfl, rfl, rfl⟩) ⟨rfl, rfl, rfl⟩⟩) ?_
        refine RG.gs rfl rfl rfl (fun hp => (PV.mvB (.inl rfl) (gs_t hp))) ?_
        refine RG.gs2 rfl rfl rfl (fun hp => (PV.move rfl rfl)) ?_
        refine RG.gs2 rfl rfl rfl (fun hp => (PV.field rfl Fo168_0 rfl)) ?_
        refine RG.gs2 rfl rfl rfl (fun hp => (PV.load1 rfl Sc2 (gs_t hp) (Rd.blk rfl))) ?_
        refine RG.gs2 rfl rfl rfl (fun hp => (PV.field rfl Fo168_1 rfl)) ?_
        refine RG.gs2 rfl rfl rfl (fun hp => (PV.load1 rfl Sc2 (gs_t hp) (Rd.blk rfl))) ?_
        refine RG.gsC2 rfl rfl rfl rfl En189 (fun hp => ⟨_, (acons (gs_t hp) (acons (gs_t hp) (acons (gs_t hp) anil))), CallT.readB (has_s hlx ⟨rfl, rfl, rfl⟩) ⟨rfl, rfl, rfl⟩⟩) ?_
        refine RG.gs rfl rfl rfl (fun hp => (PV.pickA rfl (gs_t hp) (fun hq => gs_t (gandT hp hq)) rfl)) ?_
        refine RG.pv rfl (PV.pickO rfl rfl rfl (fun hq => gs_t (geqF hq))) ?_
        refine RG.nil ?_
        refine WP.cond rfl (fun h7 => ?_) (fun h7 => ?_)
        · rw [if_pos h7] at hf
          refine WP.region ?_
          refine RG.pv rfl (PV.move (v := q1) rfl rfl) ?_
          refine RG.pv rfl (PV.loadW rfl Ag71 rfl rfl) ?_
          refine RG.ot rfl (OT.bslice (F := rectT) (els := [_]) rfl El28 rfl (by decide) rfl (by decide) ⟨rfl, (Cl.c rfl), trivial⟩ fun v103 => ?_)
          refine RG.ot rfl (OT.append (v := q1) (u := v103) (F := rectT) rfl El28 rfl (by decide) rfl rfl Rs.o (OneL.c (fun _ => rfl)) rfl (by first | omega | (simp <;> omega)) fun v104 => ?_)
          refine RG.pv rfl (PV.asg (v := v104) rfl rfl) ?_
          refine RG.nil ?_
          refine WP.region ?_
          refine RG.pv rfl (PV.add rfl rfl rfl (by omega)) ?_
          refine RG.pv rfl (PV.mvI (.inl rfl) rfl) ?_
          refine RG.nil ?_
          exact ⟨rfl, j + 1, (out1 ++ [gd outv42 j]), v104, ⟨by omega, by rw [hout1, hf, List.append_assoc]⟩, ⟨rfl, rfl, trivial⟩, ⟨rfl, rfl, rfl, rfl, rfl, rfl, rfl, rfl, rfl, trivial⟩, Cv.p, by omega⟩
        · rw [if_neg (by rw [h7]; decide), List.append_nil] at hf
          refine WP.skip ?_
          refine WP.region ?_
          refine RG.pv rfl (PV.add rfl rfl rfl (by omega)) ?_
          refine RG.pv rfl (PV.mvI (.inl rfl) rfl) ?_
          refine RG.nil ?_
          exact ⟨rfl, j + 1, out1, q1, ⟨by omega, by rw [hout1, hf]⟩, ⟨rfl, rfl, trivial⟩, ⟨rfl, rfl, rfl, rfl, rfl, rfl, rfl, rfl, rfl, trivial⟩, Cv.p, by omega⟩
      · have h5 := of_decide_eq_false h5
        rw [List.take_of_length_le (by omega)] at hout1
        have hG1 := hG.next houtv42
        rw [← hout1] at hG1
        refine WP.exit ?_
        refine WP.region ?_
        refine RG.pv rfl (PV.add rfl rfl rfl (by omega)) ?_
        refine RG.pv rfl (PV.mvI (.inl rfl) rfl) ?_
        refine RG.nil ?_
        exact ⟨rfl, n + 1, out1, q1, ⟨by omega, hG1⟩, ⟨rfl, rfl, trivial⟩, ⟨rfl, rfl, rfl, rfl, rfl, trivial⟩, Cv.p, by omega⟩
    · have h4 := of_decide_eq_false h4
      obtain rfl : n = 2 := by omega
      refine WP.exit ?_
      refine WP.seq ?_
      refine WP.region ?_
      refine RG.pv rfl (PV.move (v := q) rfl rfl) ?_
      refine RG.pv rfl (PV.asg (v := q) rfl rfl) ?_
      refine RG.nil ?_
      refine WP.ret ?_
      exact ⟨_, _, ResV.one rfl rfl, Cv.p, k q out hG.done⟩
end Go.Proofs.YtpjajhjcbcfplaaGreat
