/-
  Contracts: the drawing of layouts; areas of regions.
-/
import Derived.Test.YthjaopefoiploaaW15
import Derived.Test.YthjaopefoiploaaW22
namespace Go.Proofs.Ythjaopefoiploaa
open Go
set_option maxRecDepth 20000
set_option linter.unusedSimpArgs false
variable {G : Gh} {L : List Ch} {R : Value → Gh → List Ch → Prop}
def areaE (xs : List Rect) : Int := bif isReg xs then cnt (bits xs) else -1
/-! ## filling -/
theorem at_eq {x y : Int} (hx : -40 ≤ x) (hy : -40 ≤ y) : ((y + 40) * 80 + x + 40).toNat = (y + 40).toNat * 80 + (x + 40).toNat := by omega
theorem fill_s {v : Value} {D : List Bool} {r : Rect} (hD : D.length = 6400) (hr : validRect r = true) (k : ∀ D' : List Bool, D'.length = 6400 → (∀ y x, y < 80 → x < 80 → gb D' y x = (gb D y x || inR r y x)) → R v G (osl 4 boolT v D' :: L)) :
    CallT Try.prog 107 #[v, vrect r] G (osl 4 boolT v D :: L) R := by
  have hv := validR_iff.1 hr
  refine CallT.enter (args := _) Try.func107 rfl rfl (by kernel_rfl) rfl ?_
  refine WP.seq ?_
  refine WP.region ?_
  refine RG.ot rfl (OT.box (cs := rectT.enc r) rfl rfl rfl fun b3 => ?_)
  refine RG.pv rfl (PV.asg rfl rfl) ?_
  refine RG.nil ?_
  refine WP.seq ?_
  refine WP.seq ?_
  refine WP.region ?_
  refine RG.pv rfl (PV.field rfl Fo59_1 rfl) ?_
  refine RG.pv rfl (PV.load1 rfl Sc2 rfl (Rd.blk rfl)) ?_
  refine RG.pv rfl (PV.mvI (.inr rfl) rfl) ?_
  refine RG.nil ?_
  refine WP.block ?_
  refine WP.loop2 [0, 3] (fun (y : Int) (E : List Bool) => r.y0 ≤ y ∧ y ≤ r.y1 ∧ E.length = 6400 ∧ ∀ v u : Nat, v < 80 → u < 80 → (gb E v u = true ↔ gb D v u = true ∨ (inR r v u = true ∧ (v : Int) - 40 < y))) (fun (y : Int) (E : List Bool) => [(5, vi y)]) (fun (y : Int) (E : List Bool) => osl 4 boolT v E :: blk b3 59 (rectT.enc r) :: L) (fun (y : Int) (E : List Bool) => (r.y1 - y).toNat) r.y0 D ⟨by omega, by omega, hD, fun v u hv hu => ⟨.inl, fun h => h.resolve_right fun ⟨h1, h2⟩ => by rw [inR_iff] at h1; omega⟩⟩ ⟨rfl, trivial⟩ Cv.p ?_
  rintro y E τ ⟨hy0, hy1, hE, hg⟩
  refine WP.seq ?_
  refine WP.seq ?_
  refine WP.region ?_
  refine RG.pv rfl (PV.mvI (.inl rfl) rfl) ?_
  refine RG.pv rfl (PV.field rfl Fo59_3 rfl) ?_
  refine RG.pv rfl (PV.load1 rfl Sc2 rfl (Rd.blk rfl)) ?_
  refine RG.pv rfl (PV.lss rfl rfl rfl) ?_
  refine RG.nil ?_
  refine WP.cond rfl (fun h2 => ?_) (fun h2 => ?_)
  · have h2 := of_decide_eq_true h2
    refine WP.skip ?_
    refine WP.seq ?_
    refine WP.block ?_
    refine WP.seq ?_
    refine WP.region ?_
    refine RG.pv rfl (PV.field rfl Fo59_0 rfl) ?_
    refine RG.pv rfl (PV.load1 rfl Sc2 rfl (Rd.blk rfl)) ?_
    refine RG.pv rfl (PV.mvI (.inr rfl) rfl) ?_
    refine RG.nil ?_
    refine WP.block ?_
    refine WP.loop2 [0, 3, 5] (fun (x : Int) (F : List Bool) => r.x0 ≤ x ∧ x ≤ r.x1 ∧ F.length = 6400 ∧ ∀ v u : Nat, v < 80 → u < 80 → (gb F v u = true ↔ gb E v u = true ∨ ((v : Int) - 40 = y ∧ r.x0 ≤ (u : Int) - 40 ∧ (u : Int) - 40 < x))) (fun (x : Int) (F : List Bool) => [(6, vi x)]) (fun (x : Int) (F : List Bool) => osl 4 boolT v F :: blk b3 59 (rectT.enc r) :: L) (fun (x : Int) (F : List Bool) => (r.x1 - x).toNat) r.x0 E ⟨by omega, by omega, hE, fun v u hv hu => ⟨.inl, fun h => h.resolve_right fun ⟨h1, h2, h3⟩ => by omega⟩⟩ ⟨rfl, trivial⟩ Cv.p ?_
    rintro x F τ1 ⟨hx0, hx1, hF, hf⟩
    refine WP.seq ?_
    refine WP.seq ?_
    refine WP.region ?_
    refine RG.pv rfl (PV.mvI (.inl rfl) rfl) ?_
    refine RG.pv rfl (PV.field rfl Fo59_2 rfl) ?_
    refine RG.pv rfl (PV.load1 rfl Sc2 rfl (Rd.blk rfl)) ?_
    refine RG.pv rfl (PV.lss rfl rfl rfl) ?_
    refine RG.nil ?_
    refine WP.cond rfl (fun h3 => ?_) (fun h3 => ?_)
    · have h3 := of_decide_eq_true h3
      have hat := at_eq (x := x) (y := y) (by omega) (by omega)
      refine WP.skip ?_
      refine WP.seq ?_
      refine WP.block ?_
      refine WP.region ?_
      refine RG.pv rfl (PV.move (v := v) rfl rfl) ?_
      refine RG.pv rfl (PV.mvI (.inl rfl) rfl) ?_
      refine RG.pv rfl (PV.mvI (.inl rfl) rfl) ?_
      refine RG.callF (vs := [_, _]) rfl rfl En79 rfl (l17At_s (by omega) (by omega) ?_)
      refine RG.pv rfl (PV.idxS (j := ((y + 40) * 80 + x + 40).toNat) (v := v) rfl Is67 rfl SlF.o rfl (by omega) (by omega)) ?_
      refine RG.ot rfl (OT.storeE (F := boolT) rfl Sz4 rfl rfl rfl (Cl.c rfl) (OneC.c rfl) (by omega) ?_)
      refine RG.nil ?_
      refine WP.region ?_
      refine RG.pv rfl (PV.mvI (.inl rfl) rfl) ?_
      refine RG.pv rfl (PV.add rfl rfl rfl (by omega)) ?_
      refine RG.pv rfl (PV.mvI (.inr rfl) rfl) ?_
      refine RG.nil ?_
      refine ⟨rfl, x + 1, (F.set ((y + 40) * 80 + x + 40).toNat true), ⟨by omega, by omega, by simpa using hF, fun v u hv hu => ?_⟩, ⟨rfl, trivial⟩, ⟨rfl, rfl, rfl, trivial⟩, Cv.p, by omega⟩
      rw [hat, gb_set' hF (by omega) (by omega) hu]
      by_cases c : v = (y + 40).toNat ∧ u = (x + 40).toNat
      · rw [if_pos c]; simp only [true_iff]; right; omega
      · rw [if_neg c, hf v u hv hu]
        constructor
        · rintro (h | h)
          · exact .inl h
          · right; omega
        · rintro (h | h)
          · exact .inl h
          · right; omega
    · have h3 := of_decide_eq_false h3
      refine WP.exit ?_
      refine WP.region ?_
      refine RG.pv rfl (PV.mvI (.inl rfl) rfl) ?_
      refine RG.pv rfl (PV.add rfl rfl rfl (by omega)) ?_
      refine RG.pv rfl (PV.mvI (.inr rfl) rfl) ?_
      refine RG.nil ?_
      refine ⟨rfl, y + 1, F, ⟨by omega, by omega, hF, fun v u hv hu => ?_⟩, ⟨rfl, trivial⟩, ⟨rfl, rfl, trivial⟩, Cv.p, by omega⟩
      rw [hf v u hv hu, hg v u hv hu, inR_iff]
      constructor
      · rintro ((h | h) | h)
        · exact .inl h
        · right; omega
        · right; omega
      · rintro (h | h)
        · exact .inl (.inl h)
        · by_cases c : (v : Int) - 40 = y
          · right; omega
          · left; right; omega
  · have h2 := of_decide_eq_false h2
    have hk : ∀ v u, v < 80 → u < 80 → gb E v u = (gb D v u || inR r v u) := fun v u hv hu => by
      rw [Bool.eq_iff_iff, hg v u hv hu, Bool.or_eq_true]
      constructor
      · rintro (h | h)
        · exact .inl h
        · exact .inr h.1
      · rintro (h | h)
        · exact .inl h
        · right; refine ⟨h, ?_⟩; rw [inR_iff] at h; omega
    refine WP.exit ?_
    refine WP.seq ?_
    refine WP.region ?_
    refine RG.pv rfl (PV.move (v := v) rfl rfl) ?_
    refine RG.pv rfl (PV.asg (v := v) rfl rfl) ?_
    refine RG.nil ?_
    refine WP.ret ?_
    exact ⟨_, _, ResV.one rfl rfl, Cv.p, k E hE hk⟩
/-! ## drawing -/
theorem drawBoxes_s {b : Nat} {m n : Int} {cv : Value} {bs : List UInt8} (hcode : SL G byteT cv bs) (hm : 0 ≤ m ∧ m ≤ 100) (hn : 1 ≤ n ∧ n ≤ 30) (k : ∀ v xs, isReg xs = true → R v G (osl 59 rectT v xs :: src b cv :: L)) : CallT Try.prog 77 #[.pointer (some ⟨b, 0, none⟩), vi m, vi n] G (src b cv :: L) R := by
  refine CallT.enter (args := _) Try.func77 rfl rfl (by kernel_rfl) rfl ?_
  refine WP.seq ?_
  refine WP.region ?_
  refine RG.pv rfl (PV.asg rfl rfl) ?_
  refine RG.nil ?_
  refine WP.seq ?_
  refine WP.region ?_
  refine RG.ot rfl (OT.make (m := 6400) (F := boolT) (a0 := false) rfl El67 rfl (by decide) rfl rfl (by omega) (by omega) fun v10 => ?_)
  refine RG.pv rfl (PV.asg (v := v10) rfl rfl) ?_
  refine RG.nil ?_
  refine WP.seq ?_
  refine WP.seq ?_
  refine WP.region ?_
  refine RG.pv rfl (PV.move rfl rfl) ?_
  refine RG.pv rfl (PV.mvI (.inl rfl) rfl) ?_
  refine RG.pv rfl (PV.add rfl rfl rfl (by omega)) ?_
  refine RG.callF (vs := [_, _]) rfl rfl En78 rfl (CallT.exC (src b cv) (next_s hcode (by omega) (fun w14 hw14 => ?_)))
  refine RG.pv rfl (PV.mvI (.inr rfl) rfl) ?_
  refine RG.nil ?_
  refine WP.block ?_
  refine WP.loop3 [0, 2] (fun (j : Int) (E : List Bool) (q : Value) => j ≤ 200 ∧ E.length = 6400) (fun (j : Int) (E : List Bool) (q : Value) => [(8, vi j), (7, q)]) (fun (j : Int) (E : List Bool) (q : Value) => osl 4 boolT q E :: src b cv :: L) (fun (j : Int) (E : List Bool) (q : Value) => j.toNat) w14 (List.replicate 6400 false) v10 ⟨by omega, by simp⟩ ⟨rfl, rfl, trivial⟩ Cv.p ?_
  rintro j E q τ ⟨hj, hE⟩
  refine WP.seq ?_
  refine WP.seq ?_
  refine WP.region ?_
  refine RG.pv rfl (PV.mvI (.inl rfl) rfl) ?_
  refine RG.pv rfl (PV.gtr rfl rfl rfl) ?_
  refine RG.nil ?_
  refine WP.cond rfl (fun h2 => ?_) (fun h2 => ?_)
  · have h2 := of_decide_eq_true h2
    refine WP.skip ?_
    refine WP.seq ?_
    refine WP.block ?_
    refine WP.seq ?_
    refine WP.region ?_
    refine RG.pv rfl (PV.move rfl rfl) ?_
    refine RG.callF (vs := [_, _]) rfl rfl En78 rfl (CallT.exC (src b cv) (next_s hcode (by omega) (fun w20 hw20 => ?_)))
    refine RG.pv rfl (PV.sub rfl rfl rfl (by omega)) ?_
    refine RG.pv rfl (PV.move rfl rfl) ?_
    refine RG.callF (vs := [_, _]) rfl rfl En78 rfl (CallT.exC (src b cv) (next_s hcode (by omega) (fun w23 hw23 => ?_)))
    refine RG.pv rfl (PV.sub rfl rfl rfl (by omega)) ?_
    refine RG.pv rfl (PV.build (vs := [(0, [vi _]), (1, [vi _])]) (out := [_, _, _, _]) rfl Zr59 Pl59 ⟨rfl, (Cl.c rfl), ⟨rfl, (Cl.c rfl), trivial⟩⟩ rfl) ?_
    refine RG.ot rfl (OT.alloc rfl Zr59 fun b9 => ?_)
    refine RG.ot rfl (OT.storeW (vs := [vi _, vi _, vi _, vi _]) rfl Sz59 rfl rfl (Cl.c rfl) rfl rfl (OneC.c rfl) ?_)
    refine RG.nil ?_
    refine WP.cut1 [0, 2, 7, 8, 9] (fun (x1 : Int) => w20 - 7 < x1 ∧ x1 ≤ w20 - 7 + n) (fun (x1 : Int) => []) (fun (x1 : Int) => blk b9 59 [vi (w20 - 7), vi (w23 - 7), vi x1, vi 0] :: osl 4 boolT q E :: src b cv :: L) ?_ ?_
    refine WP.regionHD [.b b9] (.q 0 (.q 3 (.q 4 (.b 1 (.q 2 (.l 5 (.q 6 (.q 7 (.l 8 Sch.nil))))) 5 (.l 1 (.q 2 (.q 6 (.q 7 (.l 8 Sch.nil))))))))) (by kernel_rfl) (by kernel_rfl) (by kernel_rfl) rfl ?_
    refine RH.pv rfl (fun _ _ _ _ h => h) (Gh.le_refl _) PickC.pick rfl (PV.field rfl Fo59_0 rfl) ?_
    refine RH.pv rfl (fun _ _ _ _ h => h) (Gh.le_refl _) PickC.pick rfl (PV.move rfl rfl) ?_
    refine RH.pv rfl (fun _ _ _ _ h => h) (Gh.le_refl _) PickC.pick rfl (PV.mvI (.inl rfl) rfl) ?_
    · refine RH.ot2 rfl rfl rfl rfl  (OT.pv (PV.load1 rfl Sc2 rfl (Rd.blk rfl)) ⟨Gh.le_refl _, PickC.pick, ?_⟩) (OT.callF (vs := [_, _]) rfl En78 rfl (CallT.exC (src b cv) (next_s hcode (by omega) (fun w31 hw31 => ⟨Gh.le_refl _, PickC.pick, ?_⟩))))
      · refine RH.pv rfl (fun _ _ _ _ h => h) (Gh.le_refl _) PickC.pick rfl (PV.add rfl rfl rfl (by omega)) ?_
        refine RH.ot rfl rfl (OT.callF (vs := [_, _]) rfl En78 rfl (CallT.exC (src b cv) (next_s hcode (by omega) (fun w31 hw31 => ⟨Gh.le_refl _, PickC.pick, ?_⟩))))
        refine RH.pv rfl (fun _ _ _ _ h => h) (Gh.le_refl _) PickC.pick rfl (PV.add rfl rfl rfl (by omega)) ?_
        refine RH.pv rfl (fun _ _ _ _ h => h) (Gh.le_refl _) PickC.pick rfl (PV.field rfl Fo59_2 rfl) ?_
        refine RH.ot rfl rfl (OT.storeB (vs := [vi _]) (cs' := [_, _, _, _]) rfl Sz2 rfl rfl (Cl.c rfl) rfl (OneC.c rfl) rfl rfl ⟨Gh.le_refl _, PickC.pick, ?_⟩)
        refine RH.nil ?_
        exact ⟨rfl, (w20 - 7 + 1 + w31), ⟨by omega, by omega⟩, trivial, ⟨rfl, rfl, rfl, rfl, rfl, trivial⟩, Cv.p⟩
      · refine RH.ot rfl rfl (OT.pv (PV.load1 rfl Sc2 rfl (Rd.blk rfl)) ⟨Gh.le_refl _, PickC.pick, ?_⟩)
        refine RH.pv rfl (fun _ _ _ _ h => h) (Gh.le_refl _) PickC.pick rfl (PV.add rfl rfl rfl (by omega)) ?_
        refine RH.pv rfl (fun _ _ _ _ h => h) (Gh.le_refl _) PickC.pick rfl (PV.add rfl rfl rfl (by omega)) ?_
        refine RH.pv rfl (fun _ _ _ _ h => h) (Gh.le_refl _) PickC.pick rfl (PV.field rfl Fo59_2 rfl) ?_
        refine RH.ot rfl rfl (OT.storeB (vs := [vi _]) (cs' := [_, _, _, _]) rfl Sz2 rfl rfl (Cl.c rfl) rfl (OneC.c rfl) rfl rfl ⟨Gh.le_refl _, PickC.pick, ?_⟩)
        refine RH.nil ?_
        exact ⟨rfl, (w20 - 7 + 1 + w31), ⟨by omega, by omega⟩, trivial, ⟨rfl, rfl, rfl, rfl, rfl, trivial⟩, Cv.p⟩
    rintro x1 τ2 hx1
    refine WP.cut1 [0, 2, 7, 8, 9] (fun (y1 : Int) => w23 - 7 < y1 ∧ y1 ≤ w23 - 7 + n) (fun (y1 : Int) => []) (fun (y1 : Int) => blk b9 59 (rectT.enc ⟨w20 - 7, w23 - 7, x1, y1⟩) :: osl 4 boolT q E :: src b cv :: L) ?_ ?_
    refine WP.regionHD [.b b9] (.q 0 (.q 3 (.q 4 (.b 1 (.q 2 (.l 5 (.q 6 (.q 7 (.l 8 Sch.nil))))) 5 (.l 1 (.q 2 (.q 6 (.q 7 (.l 8 Sch.nil))))))))) (by kernel_rfl) (by kernel_rfl) (by kernel_rfl) rfl ?_
    refine RH.pv rfl (fun _ _ _ _ h => h) (Gh.le_refl _) PickC.pick rfl (PV.field rfl Fo59_1 rfl) ?_
    refine RH.pv rfl (fun _ _ _ _ h => h) (Gh.le_refl _) PickC.pick rfl (PV.move rfl rfl) ?_
    refine RH.pv rfl (fun _ _ _ _ h => h) (Gh.le_refl _) PickC.pick rfl (PV.mvI (.inl rfl) rfl) ?_
    · refine RH.ot2 rfl rfl rfl rfl  (OT.pv (PV.load1 rfl Sc2 rfl (Rd.blk rfl)) ⟨Gh.le_refl _, PickC.pick, ?_⟩) (OT.callF (vs := [_, _]) rfl En78 rfl (CallT.exC (src b cv) (next_s hcode (by omega) (fun w39 hw39 => ⟨Gh.le_refl _, PickC.pick, ?_⟩))))
      · refine RH.pv rfl (fun _ _ _ _ h => h) (Gh.le_refl _) PickC.pick rfl (PV.add rfl rfl rfl (by omega)) ?_
        refine RH.ot rfl rfl (OT.callF (vs := [_, _]) rfl En78 rfl (CallT.exC (src b cv) (next_s hcode (by omega) (fun w39 hw39 => ⟨Gh.le_refl _, PickC.pick, ?_⟩))))
        refine RH.pv rfl (fun _ _ _ _ h => h) (Gh.le_refl _) PickC.pick rfl (PV.add rfl rfl rfl (by omega)) ?_
        refine RH.pv rfl (fun _ _ _ _ h => h) (Gh.le_refl _) PickC.pick rfl (PV.field rfl Fo59_3 rfl) ?_
        refine RH.ot rfl rfl (OT.storeB (vs := [vi _]) (cs' := [_, _, _, _]) rfl Sz2 rfl rfl (Cl.c rfl) rfl (OneC.c rfl) rfl rfl ⟨Gh.le_refl _, PickC.pick, ?_⟩)
        refine RH.nil ?_
        exact ⟨rfl, (w23 - 7 + 1 + w39), ⟨by omega, by omega⟩, trivial, ⟨rfl, rfl, rfl, rfl, rfl, trivial⟩, Cv.p⟩
      · refine RH.ot rfl rfl (OT.pv (PV.load1 rfl Sc2 rfl (Rd.blk rfl)) ⟨Gh.le_refl _, PickC.pick, ?_⟩)
        refine RH.pv rfl (fun _ _ _ _ h => h) (Gh.le_refl _) PickC.pick rfl (PV.add rfl rfl rfl (by omega)) ?_
        refine RH.pv rfl (fun _ _ _ _ h => h) (Gh.le_refl _) PickC.pick rfl (PV.add rfl rfl rfl (by omega)) ?_
        refine RH.pv rfl (fun _ _ _ _ h => h) (Gh.le_refl _) PickC.pick rfl (PV.field rfl Fo59_3 rfl) ?_
        refine RH.ot rfl rfl (OT.storeB (vs := [vi _]) (cs' := [_, _, _, _]) rfl Sz2 rfl rfl (Cl.c rfl) rfl (OneC.c rfl) rfl rfl ⟨Gh.le_refl _, PickC.pick, ?_⟩)
        refine RH.nil ?_
        exact ⟨rfl, (w23 - 7 + 1 + w39), ⟨by omega, by omega⟩, trivial, ⟨rfl, rfl, rfl, rfl, rfl, trivial⟩, Cv.p⟩
    rintro y1 τ3 hy1
    refine WP.region ?_
    refine RG.pv rfl (PV.move (v := q) rfl rfl) ?_
    refine RG.pv rfl (PV.loadW rfl Ag59 rfl rfl) ?_
    refine RG.callF (vs := [q, _]) rfl rfl En107 rfl (CallT.exS q (fill_s hE (validR_iff.2 (by simp only; omega)) (fun D' hD' hg' => ?_)))
    refine RG.pv rfl (PV.asg rfl rfl) ?_
    refine RG.nil ?_
    refine WP.region ?_
    refine RG.pv rfl (PV.mvI (.inl rfl) rfl) ?_
    refine RG.pv rfl (PV.sub rfl rfl rfl (by omega)) ?_
    refine RG.pv rfl (PV.mvI (.inr rfl) rfl) ?_
    refine RG.nil ?_
    exact ⟨rfl, j - 1, D', q, ⟨by omega, hD'⟩, ⟨rfl, rfl, trivial⟩, ⟨rfl, rfl, trivial⟩, Cv.p, by omega⟩
  · refine WP.exit ?_
    refine WP.seq ?_
    refine WP.region ?_
    refine RG.pv rfl (PV.move (v := q) rfl rfl) ?_
    refine RG.callF (vs := [q]) rfl rfl En40 rfl (l03Canon_s Rs.o hE (fun v46 => ?_))
    refine RG.pv rfl (PV.asg (v := v46) rfl rfl) ?_
    refine RG.nil ?_
    refine WP.ret ?_
    exact ⟨_, _, ResV.one rfl rfl, Cv.p, k v46 _ (isReg_canon hE)⟩
/-- a slice of a bag, replaced -/
theorem Cv.bagSet {α : Type} {e : TypeId} {F : FT α} {xs : List (Sl α)} {v : Value} {ys : List α} {L : List Ch} (i : Nat) (hi : i < xs.length) : Cv (osl e F v ys :: bagS e F xs :: L) (bagS e F (xs.set i ⟨v, ys⟩) :: L) := by
  have h := Cv.bagPut (B := xs.map (ownS e F)) (L := L) (c := osl e F v ys) i (by simpa using hi)
  have e1 : (xs.map (ownS e F)).set i (osl e F v ys) = (xs.set i ⟨v, ys⟩).map (ownS e F) := by rw [List.map_set]; rfl
  rw [e1] at h; exact h
theorem Rs.memB {α : Type} {G : Gh} {e : TypeId} {F : FT α} {C : Ch} {L : List Ch} {xs : List (Sl α)} {s : Sl α} (h : s ∈ xs) : Rs G (C :: bagS e F xs :: L) F s.v s.xs := by
  obtain ⟨i, hi, rfl⟩ := List.getElem_of_mem h
  have := Rs.inBag (G := G) (L := C :: bagS e F xs :: L) (L' := C :: L) (e := e) (F := F) (xs := xs) i hi
  rwa [gd_eq hi] at this
theorem drawLayout_s {b : Nat} {cv : Value} {bs : List UInt8} (hcode : SL G byteT cv bs) (k : ∀ v v0 xs ys, Rs G [osl 24 slT v0 ys, bagS 59 rectT ys] slT v xs → (∀ s ∈ xs, s ∈ ys) → xs.length ≤ 8 → R v G (osl 24 slT v0 ys :: bagS 59 rectT ys :: src b cv :: L)) : CallT Try.prog 42 #[.pointer (some ⟨b, 0, none⟩)] G (src b cv :: L) R := by
  refine CallT.enter (args := _) Try.func42 rfl rfl (by kernel_rfl) rfl ?_
  refine WP.seq ?_
  refine WP.region ?_
  refine RG.pv rfl (PV.asg rfl rfl) ?_
  refine RG.nil ?_
  refine WP.seq ?_
  refine WP.region ?_
  refine RG.pv rfl (PV.move rfl rfl) ?_
  refine RG.callF (vs := [_, _, _]) rfl rfl En77 rfl (CallT.exC (src b cv) (drawBoxes_s hcode (by omega) (by omega) (fun v8 xsv8 hxv8 => ?_)))
  refine RG.pv rfl (PV.move rfl rfl) ?_
  refine RG.callF (vs := [_, _, _]) rfl rfl En77 rfl (CallT.exC (src b cv) (drawBoxes_s hcode (by omega) (by omega) (fun v10 xsv10 hxv10 => ?_)))
  refine RG.pv rfl (PV.move rfl rfl) ?_
  refine RG.callF (vs := [_, _, _]) rfl rfl En77 rfl (CallT.exC (src b cv) (drawBoxes_s hcode (by omega) (by omega) (fun v12 xsv12 hxv12 => ?_)))
  refine RG.pv rfl (PV.move rfl rfl) ?_
  refine RG.callF (vs := [_, _, _]) rfl rfl En77 rfl (CallT.exC (src b cv) (drawBoxes_s hcode (by omega) (by omega) (fun v14 xsv14 hxv14 => ?_)))
  refine RG.pv rfl (PV.move rfl rfl) ?_
  refine RG.callF (vs := [_, _, _]) rfl rfl En77 rfl (CallT.exC (src b cv) (drawBoxes_s hcode (by omega) (by omega) (fun v16 xsv16 hxv16 => ?_)))
  refine RG.pv rfl (PV.move rfl rfl) ?_
  refine RG.callF (vs := [_, _, _]) rfl rfl En77 rfl (CallT.exC (src b cv) (drawBoxes_s hcode (by omega) (by omega) (fun v18 xsv18 hxv18 => ?_)))
  refine RG.pv rfl (PV.move rfl rfl) ?_
  refine RG.callF (vs := [_, _, _]) rfl rfl En77 rfl (CallT.exC (src b cv) (drawBoxes_s hcode (by omega) (by omega) (fun v20 xsv20 hxv20 => ?_)))
  refine RG.ot rfl (OT.bslice (F := rectT) (els := []) rfl El24 rfl (by decide) rfl (by decide) trivial fun v21 => ?_)
  refine RG.ot rfl (OT.bslice (F := (slT (α := Rect))) (els := [⟨v8, xsv8⟩, ⟨v10, xsv10⟩, ⟨v12, xsv12⟩, ⟨v14, xsv14⟩, ⟨v16, xsv16⟩, ⟨v18, xsv18⟩, ⟨v20, xsv20⟩, ⟨v21, []⟩]) rfl El26 rfl (by decide) rfl (by decide) ⟨rfl, (Cl.s (v := v8) SlF.o), ⟨rfl, (Cl.s (v := v10) SlF.o), ⟨rfl, (Cl.s (v := v12) SlF.o), ⟨rfl, (Cl.s (v := v14) SlF.o), ⟨rfl, (Cl.s (v := v16) SlF.o), ⟨rfl, (Cl.s (v := v18) SlF.o), ⟨rfl, (Cl.s (v := v20) SlF.o), ⟨rfl, (Cl.s (v := v21) SlF.o), trivial⟩⟩⟩⟩⟩⟩⟩⟩ fun v22 => ?_)
  refine RG.pv rfl (PV.asg (v := v22) rfl rfl) ?_
  refine RG.nil ?_
  refine WP.seq ?_
  refine WP.seq ?_
  refine WP.region ?_
  refine RG.pv rfl (PV.move rfl rfl) ?_
  refine RG.callF (vs := [_, _]) rfl rfl En78 rfl (CallT.exC (src b cv) (next_s hcode (by omega) (fun w24 hw24 => ?_)))
  refine RG.nil ?_
  refine WP.block ?_
  refine WP.seq ?_
  refine WP.region ?_
  refine RG.pv rfl (PV.eql rfl rfl rfl) ?_
  refine RG.pv rfl (PV.mvB (.inr rfl) rfl) ?_
  refine RG.nil ?_
  refine WP.cv ((Cv.p (C := osl 24 slT v22 ([⟨v8, xsv8⟩, ⟨v10, xsv10⟩, ⟨v12, xsv12⟩, ⟨v14, xsv14⟩, ⟨v16, xsv16⟩, ⟨v18, xsv18⟩, ⟨v20, xsv20⟩, ⟨v21, []⟩] : List (Sl Rect)) :: osl 59 rectT v8 xsv8 :: osl 59 rectT v10 xsv10 :: osl 59 rectT v12 xsv12 :: osl 59 rectT v14 xsv14 :: osl 59 rectT v16 xsv16 :: osl 59 rectT v18 xsv18 :: osl 59 rectT v20 xsv20 :: osl 59 rectT v21 [] :: src b cv :: L)).trans ((Cv.cons (Cv.toBag (B := [osl 59 rectT v8 xsv8, osl 59 rectT v10 xsv10, osl 59 rectT v12 xsv12, osl 59 rectT v14 xsv14, osl 59 rectT v16 xsv16, osl 59 rectT v18 xsv18, osl 59 rectT v20 xsv20, osl 59 rectT v21 []]))).trans (Cv.cast (L' := osl 24 slT v22 ([⟨v8, xsv8⟩, ⟨v10, xsv10⟩, ⟨v12, xsv12⟩, ⟨v14, xsv14⟩, ⟨v16, xsv16⟩, ⟨v18, xsv18⟩, ⟨v20, xsv20⟩, ⟨v21, []⟩] : List (Sl Rect)) :: bagS 59 rectT ([⟨v8, xsv8⟩, ⟨v10, xsv10⟩, ⟨v12, xsv12⟩, ⟨v14, xsv14⟩, ⟨v16, xsv16⟩, ⟨v18, xsv18⟩, ⟨v20, xsv20⟩, ⟨v21, []⟩] : List (Sl Rect)) :: src b cv :: L) rfl))) ?_
  have hyl : ([⟨v8, xsv8⟩, ⟨v10, xsv10⟩, ⟨v12, xsv12⟩, ⟨v14, xsv14⟩, ⟨v16, xsv16⟩, ⟨v18, xsv18⟩, ⟨v20, xsv20⟩, ⟨v21, []⟩] : List (Sl Rect)).length = 8 := rfl
  generalize ([⟨v8, xsv8⟩, ⟨v10, xsv10⟩, ⟨v12, xsv12⟩, ⟨v14, xsv14⟩, ⟨v16, xsv16⟩, ⟨v18, xsv18⟩, ⟨v20, xsv20⟩, ⟨v21, []⟩] : List (Sl Rect)) = ys at *
  have fin : ∀ zs : List (Sl Rect), zs.length = 8 → R v22 G (osl 24 slT v22 zs :: bagS 59 rectT zs :: src b cv :: L) := fun zs hz => k v22 v22 zs zs Rs.o (fun s h => h) (by omega)
  refine WP.cond rfl (fun h2 => ?_) (fun h2 => ?_)
  · skip
    refine WP.seq ?_
    refine WP.region ?_
    refine RG.pv rfl (PV.move (v := v22) rfl rfl) ?_
    refine RG.pv rfl (PV.slc (l := 1) (v := v22) rfl Is26 rfl SlF.o (optAt.s rfl (by omega)) optAt.n (by omega) (by omega)) ?_
    refine RG.pv rfl (PV.asg rfl rfl) ?_
    refine RG.nil ?_
    refine WP.ret ?_
    exact ⟨_, _, ResV.one rfl rfl, Cv.p, k _ v22 ((ys.take 8).drop 1) ys (by rw [← hyl]; exact Rs.slv (F := slT) Rs.o (by omega) (by omega)) (fun s h => List.mem_of_mem_take (List.mem_of_mem_drop h)) (by simp; omega)⟩
  · refine WP.seq ?_
    refine WP.region ?_
    refine RG.pv rfl (PV.eql rfl rfl rfl) ?_
    refine RG.pv rfl (PV.mvB (.inr rfl) rfl) ?_
    refine RG.nil ?_
    refine WP.cond rfl (fun h3 => ?_) (fun h3 => ?_)
    · skip
      refine WP.seq ?_
      refine WP.region ?_
      refine RG.pv rfl (PV.move rfl rfl) ?_
      refine RG.callF (vs := [_, _]) rfl rfl En78 rfl (CallT.exC (src b cv) (next_s hcode (by omega) (fun w32 hw32 => ?_)))
      refine RG.pv rfl (PV.mvI (.inr rfl) rfl) ?_
      refine RG.nil ?_
      refine WP.region ?_
      refine RG.pv rfl (PV.move (v := v22) rfl rfl) ?_
      refine RG.pv rfl (PV.mvI (.inl rfl) rfl) ?_
      refine RG.pv rfl (PV.build (vs := [(0, [vi _]), (1, [vi _]), (2, [vi _]), (3, [vi _])]) (out := [_, _, _, _]) rfl Zr59 Pl59 ⟨rfl, (Cl.c rfl), ⟨rfl, (Cl.c rfl), ⟨rfl, (Cl.c rfl), ⟨rfl, (Cl.c rfl), trivial⟩⟩⟩⟩ rfl) ?_
      refine RG.ot rfl (OT.bslice (F := rectT) (els := [⟨_, _, _, _⟩]) rfl El24 rfl (by decide) rfl (by decide) ⟨rfl, (Cl.c rfl), trivial⟩ fun v36 => ?_)
      refine RG.pv rfl (PV.idxS (j := w32.toNat) (v := v22) rfl Is26 rfl SlF.o rfl (by omega) (by omega)) ?_
      refine RG.ot rfl (OT.storeE (v := v36) (a := ⟨v36, [⟨2, 2, 2, 3⟩]⟩) (F := (slT (α := Rect))) rfl Sz24 rfl rfl rfl (Cl.s (v := v36) SlF.o) (OneC.sl SlF.o OneC.nil) (by omega) ?_)
      refine RG.nil ?_
      refine WP.seq ?_
      refine WP.region ?_
      refine RG.pv rfl (PV.move (v := v22) rfl rfl) ?_
      refine RG.pv rfl (PV.asg (v := v22) rfl rfl) ?_
      refine RG.nil ?_
      refine WP.ret ?_
      exact ⟨_, _, ResV.one rfl rfl, ((Cv.p (C := osl 59 rectT v36 [⟨2, 2, 2, 3⟩] :: bagS 59 rectT ys :: osl 24 slT v22 (ys.set w32.toNat ⟨v36, [⟨2, 2, 2, 3⟩]⟩) :: src b cv :: L)).trans ((Cv.bagSet w32.toNat (by omega)).trans Cv.p)), fin (ys.set w32.toNat ⟨v36, [⟨2, 2, 2, 3⟩]⟩) (by simpa using hyl)⟩
    · refine WP.seq ?_
      refine WP.region ?_
      refine RG.pv rfl (PV.eql rfl rfl rfl) ?_
      refine RG.pv rfl (PV.mvB (.inr rfl) rfl) ?_
      refine RG.nil ?_
      refine WP.cond rfl (fun h4 => ?_) (fun h4 => ?_)
      · refine WP.seq ?_
        refine WP.region ?_
        refine RG.ot rfl (OT.make (m := 6400) (F := boolT) (a0 := false) rfl El67 rfl (by decide) rfl rfl (by omega) (by omega) fun v40 => ?_)
        refine RG.pv rfl (PV.asg (v := v40) rfl rfl) ?_
        refine RG.nil ?_
        refine WP.seq ?_
        refine WP.seq ?_
        refine WP.region ?_
        refine RG.pv rfl (PV.mvI (.inr rfl) rfl) ?_
        refine RG.nil ?_
        refine WP.block ?_
        refine WP.loop2 [0, 3, 5] (fun (m : Int) (E : List Bool) => 0 ≤ m ∧ m ≤ 28 ∧ E.length = 6400) (fun (m : Int) (E : List Bool) => [(6, vi m)]) (fun (m : Int) (E : List Bool) => osl 4 boolT v40 E :: osl 24 slT v22 ys :: bagS 59 rectT ys :: src b cv :: L) (fun (m : Int) (E : List Bool) => (28 - m).toNat) 0 (List.replicate 6400 false) ⟨by omega, by omega, by simp⟩ ⟨rfl, trivial⟩ Cv.p ?_
        rintro m E τ ⟨hm0, hm1, hE⟩
        refine WP.seq ?_
        refine WP.seq ?_
        refine WP.region ?_
        refine RG.pv rfl (PV.mvI (.inl rfl) rfl) ?_
        refine RG.pv rfl (PV.move rfl rfl) ?_
        refine RG.callF (vs := [_, _]) rfl rfl En78 rfl (CallT.exC (src b cv) (next_s hcode (by omega) (fun w43 hw43 => ?_)))
        refine RG.pv rfl (PV.add rfl rfl rfl (by omega)) ?_
        refine RG.pv rfl (PV.lss rfl rfl rfl) ?_
        refine RG.nil ?_
        refine WP.cond rfl (fun h5 => ?_) (fun h5 => ?_)
        · have h5 := of_decide_eq_true h5
          refine WP.skip ?_
          refine WP.seq ?_
          refine WP.block ?_
          refine WP.region ?_
          refine RG.pv rfl (PV.move (v := v40) rfl rfl) ?_
          refine RG.pv rfl (PV.mvI (.inl rfl) rfl) ?_
          refine RG.pv rfl (PV.mul rfl rfl rfl (by omega)) ?_
          refine RG.pv rfl (PV.sub rfl rfl rfl (by omega)) ?_
          refine RG.callF (vs := [_, _]) rfl rfl En79 rfl (l17At_s (by omega) (by omega) ?_)
          refine RG.pv rfl (PV.idxS (j := ((20 + 40) * 80 + (2 * m - 30) + 40).toNat) (v := v40) rfl Is67 rfl SlF.o rfl (by omega) (by omega)) ?_
          refine RG.ot rfl (OT.storeE (F := boolT) rfl Sz4 rfl rfl rfl (Cl.c rfl) (OneC.c rfl) (by omega) ?_)
          refine RG.nil ?_
          refine WP.region ?_
          refine RG.pv rfl (PV.mvI (.inl rfl) rfl) ?_
          refine RG.pv rfl (PV.add rfl rfl rfl (by omega)) ?_
          refine RG.pv rfl (PV.mvI (.inr rfl) rfl) ?_
          refine RG.nil ?_
          exact ⟨rfl, m + 1, (E.set ((20 + 40) * 80 + (2 * m - 30) + 40).toNat true), ⟨by omega, by omega, by simpa using hE⟩, ⟨rfl, trivial⟩, ⟨rfl, rfl, rfl, trivial⟩, Cv.p, by omega⟩
        · skip
          refine WP.exit ?_
          refine WP.region ?_
          refine RG.pv rfl (PV.move (v := v22) rfl rfl) ?_
          refine RG.pv rfl (PV.move (v := v40) rfl rfl) ?_
          refine RG.callF (vs := [v40]) rfl rfl En40 rfl (l03Canon_s Rs.o hE (fun v56 => ?_))
          refine RG.pv rfl (PV.idxS (j := 5) (v := v22) rfl Is26 rfl SlF.o rfl (by omega) (by omega)) ?_
          refine RG.ot rfl (OT.storeE (v := v56) (a := ⟨v56, canon E⟩) (F := (slT (α := Rect))) rfl Sz24 rfl rfl rfl (Cl.s (v := v56) SlF.o) (OneC.sl SlF.o OneC.nil) (by omega) ?_)
          refine RG.nil ?_
          refine WP.seq ?_
          refine WP.region ?_
          refine RG.pv rfl (PV.move (v := v22) rfl rfl) ?_
          refine RG.pv rfl (PV.asg (v := v22) rfl rfl) ?_
          refine RG.nil ?_
          refine WP.ret ?_
          exact ⟨_, _, ResV.one rfl rfl, ((Cv.p (C := osl 59 rectT v56 (canon E) :: bagS 59 rectT ys :: osl 24 slT v22 (ys.set 5 ⟨v56, canon E⟩) :: src b cv :: L)).trans ((Cv.bagSet 5 (by omega)).trans Cv.p)), fin (ys.set 5 ⟨v56, canon E⟩) (by simpa using hyl)⟩
      · refine WP.skip ?_
        refine WP.seq ?_
        refine WP.region ?_
        refine RG.pv rfl (PV.move (v := v22) rfl rfl) ?_
        refine RG.pv rfl (PV.asg (v := v22) rfl rfl) ?_
        refine RG.nil ?_
        refine WP.ret ?_
        exact ⟨_, _, ResV.one rfl rfl, Cv.p, fin ys hyl⟩
theorem drawNets_s {cv : Value} {bs : List UInt8} (hcode : SL G byteT cv bs) (k : ∀ v v0 xs ys, Rs G [osl 24 slT v0 ys, bagS 59 rectT ys] slT v xs → (∀ s ∈ xs, s ∈ ys) → xs.length ≤ 8 → R v G (osl 24 slT v0 ys :: bagS 59 rectT ys :: L)) : CallT Try.prog 20 #[cv] G L R := by
  refine CallT.enter (args := _) Try.func20 rfl rfl (by kernel_rfl) rfl ?_
  refine WP.seq ?_
  refine WP.region ?_
  refine RG.pv rfl (PV.asg rfl rfl) ?_
  refine RG.nil ?_
  refine WP.seq ?_
  refine WP.region ?_
  refine RG.pv rfl (PV.move (v := cv) rfl rfl) ?_
  refine RG.callF (vs := [cv]) rfl rfl En43 rfl (from_s hcode (fun b => ?_))
  refine RG.callF (vs := [_]) rfl rfl En42 rfl (CallT.exC (src b cv) (drawLayout_s hcode (fun v8 v0 xs ys hxs hmem hxl => ?_)))
  refine RG.pv rfl (PV.asg rfl rfl) ?_
  refine RG.nil ?_
  refine WP.ret ?_
  exact ⟨_, _, ResV.one rfl rfl, Cv.p, k _ v0 xs ys hxs hmem hxl⟩
theorem big_s {cv : Value} {bs : List UInt8} (hcode : SL G byteT cv bs) (k : R (.bool (decide (4096 < bs.length))) G L) : CallT Try.prog 18 #[cv] G L R := by
  have e : decide (4096 < bs.length) = decide ((4096 : Int) < (bs.length : Int)) := by rw [Bool.eq_iff_iff]; simp; omega
  rw [e] at k
  refine CallT.enter (args := _) Try.func18 rfl rfl (by kernel_rfl) rfl ?_
  refine WP.seq ?_
  refine WP.region ?_
  refine RG.pv rfl (PV.mvB (.inr rfl) rfl) ?_
  refine RG.nil ?_
  refine WP.seq ?_
  refine WP.region ?_
  refine RG.pv rfl (PV.move (v := cv) rfl rfl) ?_
  refine RG.pv rfl (PV.len (v := cv) rfl Try.underlying33 rfl (SlF.r (Rs.g (L := []) hcode))) ?_
  refine RG.pv rfl (PV.gtr rfl rfl rfl) ?_
  refine RG.pv rfl (PV.mvB (.inr rfl) rfl) ?_
  refine RG.nil ?_
  refine WP.ret ?_
  exact ⟨_, _, ResV.one rfl rfl, Cv.p, k⟩
end Go.Proofs.Ythjaopefoiploaa
